import Derived.Test.YtccagffapohkhaaGreatDoorJoin1
import Derived.Test.YtccagffapohkhaaGreatDoorJoin6
import Derived.Test.YtccagffapohkhaaGreatDoorJoin7
import Derived.Test.YtccagffapohkhaaGreatDoorJoin8
namespace Go.Proofs.YtccagffapohkhaaGreatDoor
section
open Go Go.SL
section
end
section
attribute [local irreducible] J JL JE JM LS Y Fc RV Code.wp wpList Code.wpIn wpListIn
attribute [local irreducible] Yc strOf valD dig
variable (E : World)
end
end
section
open Go Go.SL
section
attribute [local irreducible] J JL JE JM LS Y Fc RV Code.wp wpList Code.wpIn wpListIn
attribute [local irreducible] Yc strOf valD dig
variable (E : World)
theorem lawcut_spec (xs : List Int) (l : List HProp) (hB : Bys xs) : Fc prog E 12 [.string (strOf xs)].toArray l (fun v l' => v = .string (strOf (xs.take 700)) ∧ l' = l) := by
 refine Fc.eqs ?_
 refine Fc.of_body (c := ?codeC) Tryz.func12 ?hb Tryz.ntmps12 ?hl ?_
 case hb => exact rfl
 case hl => exact rfl
 refine J.seq (J.region (JL.step (y_assign rfl) rfl rfl rfl ?_))
 refine JL.nil (JE.then_normal (J.seq (J.region (JL.step (y_move rfl) rfl rfl rfl (JL.step (y_move rfl) rfl rfl rfl ?_)))))
 refine JL.step (y_lenS hT rfl rfl rfl) rfl rfl rfl ?_
 refine JL.step (v := .int .i64 ((min xs.length 700 : Nat) : Int)) (y_min2 rfl rfl (by omega)) rfl rfl rfl ?_
 refine JL.step (y_cutS (lo := 0) (hi := min xs.length 700) hT hB rfl rfl rfl (.inl ⟨rfl, rfl⟩) (.inr ⟨_, _, _, rfl, rfl, rfl⟩) (Nat.zero_le _) (Nat.min_le_left _ _)) rfl rfl rfl ?_
 refine JL.step (y_assign rfl) rfl rfl rfl ?_
 refine JL.nil (JE.then_normal (J.ret ?_))
 refine JE.ret1 (.inl rfl) rfl rfl (by (first | exact RV.tmp rfl | exact RV.cell1 hT rfl rfl rfl (by (exact Rd1.row (by (repeat (first | exact Pick.head | apply Pick.tail | apply Pick.app))) (by rfl))) | exact RV.cellN hT rfl rfl rfl (by (first | exact RdN.rowAll (by (repeat (first | exact Pick.head | apply Pick.tail | apply Pick.app))) | exact RdN.own (by (repeat (first | exact Pick.head | apply Pick.tail | apply Pick.app))))) (by (first | rfl | assumption | (simp; done) | omega)))) ?_
 have e : xs.take (min xs.length 700) = xs.take 700 := by
  rcases Nat.le_total xs.length 700 with q | q
  · rw [Nat.min_eq_left q, List.take_length, List.take_of_length_le q]
  · rw [Nat.min_eq_right q]
 rw [List.drop_zero, e]
 exact ⟨rfl, fun w h => h⟩
end
end
section
open Go Go.SL
section
theorem rp_set33 {r : RpT} (h : r.key.length = 32) (a b a' : Value) : (rpE r a b).set 33 a' = rpE r a' b := by
 unfold rpE
 rw [List.set_cons_succ, List.set_append_right _ _ (by rw [ints_len, h]; decide), ints_len, h]
 rfl
theorem rp_set34 {r : RpT} (h : r.key.length = 32) (a b b' : Value) : (rpE r a b).set 34 b' = rpE r a b' := by
 unfold rpE
 rw [List.set_cons_succ, List.set_append_right _ _ (by rw [ints_len, h]; decide), ints_len, h]
 rfl
end
section
attribute [local irreducible] J JL JE JM LS Y Fc RV Code.wp wpList Code.wpIn wpListIn
attribute [local irreducible] Yc strOf valD dig
variable (E : World)
abbrev ownS (a : Option Addr) (c : Nat) (ws : List (List Int)) : HProp := own 9 1 (.slice a ws.length c) ws.length (strs ws)
end
end
section
open Go Go.SL
section
theorem name_bys {w : List Int} (h : nameB w = true) : Bys w := by
 unfold nameB at h
 rw [Bool.and_eq_true, Bool.and_eq_true] at h
 intro x hx
 have h1 := List.all_eq_true.1 h.1.1 x hx
 unfold nmB at h1
 simp only [Bool.or_eq_true, Bool.and_eq_true, decide_eq_true_eq] at h1
 omega
theorem text_bys {t : List Int} (h : textB t = true) : Bys t := by
 have h1 := (text_any h).1
 intro x hx
 have h2 : oddB x = false := by
  rw [Bool.eq_false_iff]
  intro q
  rw [List.any_eq_true.2 ⟨x, hx, q⟩] at h1
  cases h1
 unfold oddB at h2
 simp only [Bool.or_eq_false_iff, decide_eq_false_iff_not] at h2
 omega
theorem R64i.zero : R64i 0 := ⟨by decide, by decide⟩
theorem okN_natQ {z : Int} (h : okN z = true) : 0 ≤ z ∧ z ≤ 999999999 ∧ True := by
 unfold okN at h
 rw [Bool.and_eq_true] at h
 exact ⟨of_decide_eq_true h.1, of_decide_eq_true h.2, trivial⟩
theorem R64i.ofOk {z : Int} (h : okN z = true) : R64i z := by
 obtain ⟨h1, h2, _⟩ := okN_natQ h
 exact ⟨by omega, by omega⟩
theorem right_b {r : RpT} (hk : r.key.length = 32) (hB : Bys r.key) (h : rightB r = true) : RpB r := by
 have hnil : ∀ t ∈ ([] : List (List Int)), Bys t ∧ t.length ≤ 1000 := fun _ q => by cases q
 have base : r.names.length ≤ 100 ∧ r.texts.length ≤ 100 ∧ (∀ t ∈ r.names, Bys t ∧ t.length ≤ 1000) ∧ (∀ t ∈ r.texts, Bys t ∧ t.length ≤ 1000) ∧ R64i r.seq ∧ R64i r.out ∧ R64i r.acked ∧ R64i r.inn := by
  rcases right_kind h with k | k | k | k | k | k | k | k
  · rw [right_1 k h]; exact ⟨by simp, by simp, hnil, hnil, R64i.zero, R64i.zero, R64i.zero, R64i.zero⟩
  · rw [right_26 (.inl k) h]; exact ⟨by simp, by simp, hnil, hnil, R64i.zero, R64i.zero, R64i.zero, R64i.zero⟩
  · obtain ⟨e, h1, _, h3⟩ := right_3 k h
    have hn : ∀ t ∈ r.names, Bys t ∧ t.length ≤ 1000 := fun t ht => ⟨name_bys (List.all_eq_true.1 h1 t ht), by have := name_len (List.all_eq_true.1 h1 t ht); omega⟩
    rw [e]; exact ⟨by dsimp only; omega, by simp, hn, hnil, R64i.zero, R64i.zero, R64i.zero, R64i.zero⟩
  · obtain ⟨e, h1⟩ := right_4 k h
    have := R64i.ofOk h1
    rw [e]; exact ⟨by simp, by simp, hnil, hnil, this, R64i.zero, R64i.zero, R64i.zero⟩
  · obtain ⟨e, h1, h2⟩ := right_5 k h
    have hn : ∀ t ∈ r.texts, Bys t ∧ t.length ≤ 1000 := fun t ht => ⟨text_bys (List.all_eq_true.1 h1 t ht), by have := (text_any (List.all_eq_true.1 h1 t ht)).2; omega⟩
    rw [e]; exact ⟨by simp, by dsimp only; omega, hnil, hn, R64i.zero, R64i.zero, R64i.zero, R64i.zero⟩
  · rw [right_26 (.inr k) h]; exact ⟨by simp, by simp, hnil, hnil, R64i.zero, R64i.zero, R64i.zero, R64i.zero⟩
  · obtain ⟨e, h1, h2, h3⟩ := right_7 k h
    have a1 := R64i.ofOk h1
    have a2 := R64i.ofOk h2
    have a3 := R64i.ofOk h3
    rw [e]; exact ⟨by simp, by simp, hnil, hnil, R64i.zero, a1, a2, a3⟩
  · obtain ⟨e, _⟩ := right_8 k h
    rw [e]; exact ⟨by simp, by simp, hnil, hnil, R64i.zero, R64i.zero, R64i.zero, R64i.zero⟩
 obtain ⟨h1, h2, h3, h4, h5, h6, h7, h8⟩ := base
 exact ⟨hk, hB, h1, h2, h3, h4, h5, h6, h7, h8⟩
theorem replyF_key {w rest : List Int} {m : Bool} {r : RpT} (h : replyF w rest m = some r) : r.key = zer32 ∨ ∃ q, keyB q = true ∧ r.key = keyV q := by
 unfold replyF at h
 split at h
 · cases h; exact .inl rfl
 · split at h
   · cases h; exact .inl rfl
   · split at h
     · split at h
       · rename_i q; cases h; exact .inr ⟨_, q, rfl⟩
       · cases h
     · split at h
       · cases hc : conF rest with
         | none => rw [hc] at h; cases h
         | some ns => rw [hc] at h; cases h; exact .inl rfl
       · split at h
         · split at h
           · cases h; exact .inl rfl
           · cases h
         · split at h
           · cases hc : inboxF rest with
             | none => rw [hc] at h; cases h
             | some ns => rw [hc] at h; cases h; exact .inl rfl
           · split at h
             · split at h
               · split at h
                 · cases h; exact .inl rfl
                 · cases h
               · cases h
             · split at h
               · split at h
                 · cases h; exact .inl rfl
                 · cases h
               · cases h
theorem repF_key {xs : List Int} {r : RpT} (h : repF xs = some r) : r.key.length = 32 ∧ Bys r.key := by
 unfold repF at h
 split at h
 · cases h
 · rcases replyF_key h with e | ⟨q, h1, e⟩
   · rw [e]; exact ⟨rfl, zer32_bys⟩
   · rw [e]; exact ⟨kst_length _ _, keyV_bys h1⟩
theorem repR_b (xs : List Int) : RpB (repR xs) := by
 unfold repR
 cases h : repF xs with
 | none => exact ⟨rfl, zer32_bys, by simp [rp0], by simp [rp0], fun _ q => by simp [rp0] at q, fun _ q => by simp [rp0] at q, R64i.zero, R64i.zero, R64i.zero, R64i.zero⟩
 | some r =>
   obtain ⟨h1, h2⟩ := repF_key h
   exact right_b h1 h2 (repF_line h).1
end
end
section
open Go Go.SL
section
def TxI (xs : List Int) (ts : List (List Int)) (s : List Int) : Prop := ∀ us, xs = behW us → ∃ vs, us = ts ++ vs ∧ s = behW vs
def TxJ (xs : List Int) (ts : List (List Int)) (t s : List Int) : Prop := ∀ us, xs = behW us → ∃ u vs, us = ts ++ (t ++ u) :: vs ∧ s = u.flatMap qC ++ 34 :: behW vs
def TxN (xs : List Int) : Prop := ∀ us, xs ≠ behW us
theorem behW_cons (v : List Int) (vs : List (List Int)) : behW (v :: vs) = 32 :: 34 :: (v.flatMap qC ++ 34 :: behW vs) := by
 unfold behW quoT
 rw [List.flatMap_cons]
 simp
theorem txI_start (xs : List Int) : TxI xs [] xs := fun us h => ⟨us, rfl, h⟩
theorem txI_bad {xs s : List Int} {ts : List (List Int)} (h : TxI xs ts s) (hs : s ≠ []) (hp : s.take 2 ≠ [32, 34]) : TxN xs := by
 intro us he
 obtain ⟨vs, _, e⟩ := h us he
 cases vs with
 | nil => exact hs e
 | cons v vs => rw [e, behW_cons] at hp; exact hp rfl
theorem txI_go {xs s : List Int} {ts : List (List Int)} (h : TxI xs ts s) (hp : s.take 2 = [32, 34]) : TxJ xs ts [] (s.drop 2) := by
 intro us he
 obtain ⟨vs, e1, e⟩ := h us he
 cases vs with
 | nil => rw [e] at hp; cases hp
 | cons v vs =>
   rw [e, behW_cons]
   exact ⟨v, vs, by rw [e1]; rfl, rfl⟩
theorem qC_head {c : Int} (h : c ≠ 34) (h2 : c ≠ 92) : qC c = [c] := by unfold qC; rw [if_neg (by omega)]
theorem qC_esc {c : Int} (h : c = 34 ∨ c = 92) : qC c = [92, c] := by unfold qC; rw [if_pos h]
theorem txJ_esc {xs s t : List Int} {c : Int} {ts : List (List Int)} (h : TxJ xs ts t (92 :: c :: s)) : TxJ xs ts (t ++ [c]) s := by
 intro us he
 obtain ⟨u, vs, e1, e⟩ := h us he
 cases u with
 | nil => cases e
 | cons d u =>
   rw [List.flatMap_cons] at e
   by_cases hd : d = 34 ∨ d = 92
   · rw [qC_esc hd] at e
     have e : 92 :: c :: s = 92 :: d :: (u.flatMap qC ++ 34 :: behW vs) := e
     rw [List.cons.injEq, List.cons.injEq] at e
     obtain ⟨_, h8, h9⟩ := e
     subst h8
     exact ⟨u, vs, by rw [e1]; simp, h9⟩
   · rw [qC_head (by omega) (by omega)] at e
     have e : 92 :: c :: s = d :: (u.flatMap qC ++ 34 :: behW vs) := e
     rw [List.cons.injEq] at e
     omega
theorem txJ_plain {xs s t : List Int} {c : Int} {ts : List (List Int)} (h : TxJ xs ts t (c :: s)) (h1 : c ≠ 34) (h2 : c ≠ 92) : TxJ xs ts (t ++ [c]) s := by
 intro us he
 obtain ⟨u, vs, e1, e⟩ := h us he
 cases u with
 | nil =>
   have e : c :: s = 34 :: behW vs := e
   rw [List.cons.injEq] at e
   exact absurd e.1 h1
 | cons d u =>
   rw [List.flatMap_cons] at e
   by_cases hd : d = 34 ∨ d = 92
   · rw [qC_esc hd] at e
     have e : c :: s = 92 :: d :: (u.flatMap qC ++ 34 :: behW vs) := e
     rw [List.cons.injEq] at e
     exact absurd e.1 h2
   · rw [qC_head (by omega) (by omega)] at e
     have e : c :: s = d :: (u.flatMap qC ++ 34 :: behW vs) := e
     rw [List.cons.injEq] at e
     obtain ⟨h8, h9⟩ := e
     subst h8
     exact ⟨u, vs, by rw [e1]; simp, h9⟩
theorem txJ_bad {xs t : List Int} {ts : List (List Int)} (h : TxJ xs ts t []) : TxN xs := by
 intro us he
 obtain ⟨u, vs, _, e⟩ := h us he
 cases hz : u.flatMap qC with
 | nil => rw [hz] at e; cases e
 | cons a b => rw [hz] at e; cases e
theorem txJ_bad2 {xs t : List Int} {ts : List (List Int)} (h : TxJ xs ts t [92]) : TxN xs := by
 intro us he
 obtain ⟨u, vs, _, e⟩ := h us he
 cases u with
 | nil => cases e
 | cons d u =>
   rw [List.flatMap_cons] at e
   by_cases hd : d = 34 ∨ d = 92
   · rw [qC_esc hd] at e
     have e : ([92] : List Int) = 92 :: d :: (u.flatMap qC ++ 34 :: behW vs) := e
     cases e
   · rw [qC_head (by omega) (by omega)] at e
     have e : ([92] : List Int) = d :: (u.flatMap qC ++ 34 :: behW vs) := e
     rw [List.cons.injEq] at e
     omega
theorem txJ_end {xs s t : List Int} {ts : List (List Int)} (h : TxJ xs ts t (34 :: s)) : TxI xs (ts ++ [t]) s := by
 intro us he
 obtain ⟨u, vs, e1, e⟩ := h us he
 cases u with
 | nil =>
   have e : 34 :: s = 34 :: behW vs := e
   rw [List.cons.injEq] at e
   exact ⟨vs, by rw [e1, List.append_nil]; simp, e.2⟩
 | cons d u =>
   rw [List.flatMap_cons] at e
   by_cases hd : d = 34 ∨ d = 92
   · rw [qC_esc hd] at e
     cases e
   · rw [qC_head (by omega) (by omega)] at e
     have e : 34 :: s = d :: (u.flatMap qC ++ 34 :: behW vs) := e
     rw [List.cons.injEq] at e
     omega
theorem txI_end {xs : List Int} {ts : List (List Int)} (h : TxI xs ts []) : ∀ us, xs = behW us → ts = us := by
 intro us he
 obtain ⟨vs, e1, e⟩ := h us he
 cases vs with
 | nil => rw [e1, List.append_nil]
 | cons v vs => rw [behW_cons] at e; cases e
theorem TxN.all {xs : List Int} {ts : List (List Int)} (h : TxN xs) : ∀ us, xs = behW us → ts = us := fun us he => absurd he (h us)
def TsOk (n : Nat) (ts : List (List Int)) : Prop := ∀ t ∈ ts, Bys t ∧ t.length ≤ n
theorem TsOk.snoc {n : Nat} {ts : List (List Int)} {t : List Int} (h : TsOk n ts) (hB : Bys t) (hl : t.length ≤ n) : TsOk n (ts ++ [t]) := by
 intro x hx
 rcases List.mem_append.1 hx with q | q
 · exact h x q
 · rw [List.mem_singleton] at q; rw [q]; exact ⟨hB, hl⟩
end
section
attribute [local irreducible] J JL JE JM LS Y Fc RV Code.wp wpList Code.wpIn wpListIn
attribute [local irreducible] Yc strOf valD dig
variable (E : World)
theorem haspS_spec (xs : List Int) (l : List HProp) (hB : Bys xs) (hl : xs.length ≤ 1000000) : Fc prog E 82 [.string (strOf xs), .string ⟨#[32, 34]⟩].toArray l (fun v l' => v = .bool (decide (xs.take 2 = [32, 34])) ∧ l' = l) := by
 refine Fc.eqs ?_
 have e2 : (⟨#[32, 34]⟩ : ByteArray) = strOf [32, 34] := by unfold strOf; rfl
 refine Fc.of_body (c := ?codeC) Tryz.func82 ?hb Tryz.ntmps82 ?hl ?_
 case hb => exact rfl
 case hl => exact rfl
 refine J.seq (J.region (JL.step (y_assign rfl) rfl rfl rfl ?_))
 refine JL.nil (JE.then_normal (J.seq (J.region (JL.step (y_move rfl) rfl rfl rfl (JL.step (y_move rfl) rfl rfl rfl ?_)))))
 refine JL.loud rfl (l_callF e99 rfl rfl (hasp_spec E xs [32, 34] _ _ e2 hB (Bys.all rfl) hl (by decide)) ?_)
 rintro _ _ ⟨rfl, rfl⟩
 refine JL.step (y_assign rfl) rfl rfl rfl ?_
 refine JL.nil (JE.then_normal (J.ret ?_))
 refine JE.ret1 (.inl rfl) rfl rfl (by (first | exact RV.tmp rfl | exact RV.cell1 hT rfl rfl rfl (by (exact Rd1.row (by (repeat (first | exact Pick.head | apply Pick.tail | apply Pick.app))) (by rfl))) | exact RV.cellN hT rfl rfl rfl (by (first | exact RdN.rowAll (by (repeat (first | exact Pick.head | apply Pick.tail | apply Pick.app))) | exact RdN.own (by (repeat (first | exact Pick.head | apply Pick.tail | apply Pick.app))))) (by (first | rfl | assumption | (simp; done) | omega)))) ?_
 exact ⟨rfl, fun w h => h⟩
theorem rtexts_spec (xs : List Int) (l : List HProp) (hB : Bys xs) (hl : xs.length ≤ 1000) :
 Fc prog E 59 [.string (strOf xs)].toArray l (fun v l' => ∃ ts a c ok, v = .tuple #[.slice a ts.length c, .bool ok] ∧ ts.length ≤ xs.length ∧ TsOk xs.length ts ∧ (∀ us, xs = behW us → ts = us) ∧ l' = ownS a c ts :: l) := by
 refine Fc.post ?_
 have e0 : strOf [] = ⟨#[]⟩ := by unfold strOf; rfl
 have hnil : ∀ w, Sat E (stars l) w → Sat E (stars (ownS none 0 [] :: l)) w := fun w h => h.own_nil
 refine Fc.of_body (c := ?codeC) Tryz.func59 ?hb Tryz.ntmps59 ?hl ?_
 case hb => exact rfl
 case hl => exact rfl
 refine J.seq (J.region (JL.step (y_assign rfl) rfl rfl rfl (JL.step (y_assign rfl) rfl rfl rfl ?_)))
 refine JL.nil (JE.then_normal (J.seq (J.region (JL.step (y_assign rfl) rfl rfl rfl ?_))))
 refine JL.nil (JE.then_normal (J.seq (J.block ?_)))
 refine J.pre (l' := ownS none 0 [] :: l) hnil ?_
 refine J.loop (α := List Int × List (List Int) × Option Addr × Nat) (fun s => Bys s.1 ∧ s.1.length + s.2.1.length ≤ xs.length ∧ TsOk xs.length s.2.1 ∧ TxI xs s.2.1 s.1) (fun s => [(0, .string (strOf s.1)), (4, .slice s.2.2.1 s.2.1.length s.2.2.2)]) (fun s => ownS s.2.2.1 s.2.2.2 s.2.1 :: l) (fun s => s.1.length) (xs, [], none, 0) ⟨hB, by simp, (fun _ q => (by cases q)), txI_start xs⟩ ⟨rfl, rfl, trivial⟩ (fun w h => h) ?_
 rintro ⟨s, ts, a, c⟩ ⟨hs, hlen, hok, hI⟩
 dsimp only at hs hlen hok hI ⊢
 obtain ⟨bs, hbs⟩ : ∃ b, b = decide (s ≠ []) := ⟨_, rfl⟩
 refine J.seq (J.seq (J.region (JL.step (y_move rfl) rfl rfl rfl ?_)))
 refine JL.step (y_neS (ys := []) hs Bys.nil rfl (by rw [e0]; rfl) hbs) rfl rfl rfl ?_
 refine JL.nil (JE.then_normal ?_)
 first | apply J.cond_dec rfl | apply J.cond rfl
 case' ht =>
  intro h
  try (first | (exfalso; omega) | (cases h; done) | (exfalso; simp at h; done) | subst h)
  all_goals
   refine J.skip ?_
 case' hf =>
  intro h
  try (first | (exfalso; omega) | (cases h; done) | (exfalso; simp at h; done) | subst h)
  all_goals
   refine J.exit (JE.then_exit (JE.then_exit (JE.block_exit (JE.then_normal (J.seq (J.region (JL.step (y_move rfl) rfl rfl rfl (JL.step (y_assign rfl) rfl rfl rfl (JL.step (y_assign rfl) rfl rfl rfl ?_)))))))))
   refine JL.nil (JE.then_normal (J.ret ?_))
   refine JE.ret2 (.inl rfl) rfl rfl (by (first | exact RV.tmp rfl | exact RV.cell1 hT rfl rfl rfl (by (exact Rd1.row (by (repeat (first | exact Pick.head | apply Pick.tail | apply Pick.app))) (by rfl))) | exact RV.cellN hT rfl rfl rfl (by (first | exact RdN.rowAll (by (repeat (first | exact Pick.head | apply Pick.tail | apply Pick.app))) | exact RdN.own (by (repeat (first | exact Pick.head | apply Pick.tail | apply Pick.app))))) (by (first | rfl | assumption | (simp; done) | omega)))) (by (first | exact RV.tmp rfl | exact RV.cell1 hT rfl rfl rfl (by (exact Rd1.row (by (repeat (first | exact Pick.head | apply Pick.tail | apply Pick.app))) (by rfl))) | exact RV.cellN hT rfl rfl rfl (by (first | exact RdN.rowAll (by (repeat (first | exact Pick.head | apply Pick.tail | apply Pick.app))) | exact RdN.own (by (repeat (first | exact Pick.head | apply Pick.tail | apply Pick.app))))) (by (first | rfl | assumption | (simp; done) | omega)))) ?_
   first
   | (have hz' : z = [] := by
       refine Decidable.of_not_not fun q => ?_
       rw [decide_eq_false q] at hbz
       first | cases hbz | (rw [hbz] at h; cases h)
      exact ⟨ownS none 0 [] :: l, fun w h => hnil w h.drop, [], none, 0, false, rfl, Nat.zero_le _, (fun _ q => (by cases q)), (hz0 hz').all, rfl⟩)
   | (have hz' : u = [] := by
       refine Decidable.of_not_not fun q => ?_
       rw [decide_eq_false q] at hbz
       first | cases hbz | (rw [hbz] at h; cases h)
      rw [hz'] at hJ
      exact ⟨ownS none 0 [] :: l, fun w h => hnil w h.drop, [], none, 0, false, rfl, Nat.zero_le _, (fun _ q => (by cases q)), (txJ_bad hJ).all, rfl⟩)
   | (have hp9 : ¬ s.take 2 = [32, 34] := by
       intro q
       rw [decide_eq_true q] at hbp
       subst hbp
       simp at h
      have hs9 : s ≠ [] := by
       intro q
       rw [decide_eq_false (not_not_intro q)] at hbs
       first | cases hbs | (simp_all; done)
      exact ⟨ownS none 0 [] :: l, fun w h => hnil w h.drop, [], none, 0, false, rfl, Nat.zero_le _, (fun _ q => (by cases q)), (txI_bad hI hs9 hp9).all, rfl⟩)
   | (have hs9 : s = [] := by
       refine Decidable.of_not_not fun q => ?_
       rw [decide_eq_true q] at hbs
       first | cases hbs | (rw [hbs] at h; cases h)
      subst hs9
      exact ⟨_, fun w h => h, ts, a, c, true, rfl, by simpa using hlen, hok, txI_end hI, rfl⟩)
 all_goals refine JE.then_normal ?_
 all_goals
  refine J.block (J.seq (J.seq ?_))
  obtain ⟨bp, hbp⟩ : ∃ b, decide (s.take 2 = [32, 34]) = b := ⟨_, rfl⟩
  refine J.region (JL.step (y_move rfl) rfl rfl rfl ?_)
  refine JL.loud rfl (l_callF e82 rfl rfl (hbp ▸ haspS_spec E s _ hs (by omega)) ?_)
  rintro _ _ ⟨rfl, rfl⟩
  refine JL.step (y_not rfl) rfl rfl rfl ?_
  refine JL.nil (JE.then_normal ?_)
  first | apply J.cond_dec rfl | apply J.cond rfl
  case' ht =>
   intro h
   try (first | (exfalso; omega) | (cases h; done) | (exfalso; simp at h; done) | subst h)
   all_goals
    refine J.seq (J.region (JL.step (y_assign rfl) rfl rfl rfl (JL.step (y_assign rfl) rfl rfl rfl ?_)))
    refine JL.nil (JE.then_normal (J.ret (JE.then_ret (JE.block_ret (JE.then_ret (JE.block_ret (JE.then_ret ?_)))))))
    refine JE.ret2 (.inl rfl) rfl rfl (by (first | exact RV.tmp rfl | exact RV.cell1 hT rfl rfl rfl (by (exact Rd1.row (by (repeat (first | exact Pick.head | apply Pick.tail | apply Pick.app))) (by rfl))) | exact RV.cellN hT rfl rfl rfl (by (first | exact RdN.rowAll (by (repeat (first | exact Pick.head | apply Pick.tail | apply Pick.app))) | exact RdN.own (by (repeat (first | exact Pick.head | apply Pick.tail | apply Pick.app))))) (by (first | rfl | assumption | (simp; done) | omega)))) (by (first | exact RV.tmp rfl | exact RV.cell1 hT rfl rfl rfl (by (exact Rd1.row (by (repeat (first | exact Pick.head | apply Pick.tail | apply Pick.app))) (by rfl))) | exact RV.cellN hT rfl rfl rfl (by (first | exact RdN.rowAll (by (repeat (first | exact Pick.head | apply Pick.tail | apply Pick.app))) | exact RdN.own (by (repeat (first | exact Pick.head | apply Pick.tail | apply Pick.app))))) (by (first | rfl | assumption | (simp; done) | omega)))) ?_
    first
    | (have hz' : z = [] := by
        refine Decidable.of_not_not fun q => ?_
        rw [decide_eq_false q] at hbz
        first | cases hbz | (rw [hbz] at h; cases h)
       exact ⟨ownS none 0 [] :: l, fun w h => hnil w h.drop, [], none, 0, false, rfl, Nat.zero_le _, (fun _ q => (by cases q)), (hz0 hz').all, rfl⟩)
    | (have hz' : u = [] := by
        refine Decidable.of_not_not fun q => ?_
        rw [decide_eq_false q] at hbz
        first | cases hbz | (rw [hbz] at h; cases h)
       rw [hz'] at hJ
       exact ⟨ownS none 0 [] :: l, fun w h => hnil w h.drop, [], none, 0, false, rfl, Nat.zero_le _, (fun _ q => (by cases q)), (txJ_bad hJ).all, rfl⟩)
    | (have hp9 : ¬ s.take 2 = [32, 34] := by
        intro q
        rw [decide_eq_true q] at hbp
        subst hbp
        simp at h
       have hs9 : s ≠ [] := by
        intro q
        rw [decide_eq_false (not_not_intro q)] at hbs
        first | cases hbs | (simp_all; done)
       exact ⟨ownS none 0 [] :: l, fun w h => hnil w h.drop, [], none, 0, false, rfl, Nat.zero_le _, (fun _ q => (by cases q)), (txI_bad hI hs9 hp9).all, rfl⟩)
    | (have hs9 : s = [] := by
        refine Decidable.of_not_not fun q => ?_
        rw [decide_eq_true q] at hbs
        first | cases hbs | (rw [hbs] at h; cases h)
       subst hs9
       exact ⟨_, fun w h => h, ts, a, c, true, rfl, by simpa using hlen, hok, txI_end hI, rfl⟩)
  case' hf =>
   intro h
   try (first | (exfalso; omega) | (cases h; done) | (exfalso; simp at h; done) | subst h)
   all_goals
    refine J.skip ?_
  all_goals refine JE.then_normal ?_
  all_goals
   refine J.seq ?_
   have hpT : s.take 2 = [32, 34] := by
    refine Decidable.of_not_not fun q => ?_
    rw [decide_eq_false q] at hbp
    subst hbp
    simp at h
   have hl2 : 2 ≤ s.length := by
    have h9 := congrArg List.length hpT
    rw [List.length_take] at h9
    have : ([32, 34] : List Int).length = 2 := rfl
    omega
   have hJ := txI_go hI hpT
   refine J.region (JL.step (y_move rfl) rfl rfl rfl ?_)
   refine JL.step (y_cutS (lo := 2) (hi := s.length) hT hs rfl rfl rfl (.inr ⟨_, _, _, rfl, rfl, rfl⟩) (.inl ⟨rfl, rfl⟩) (by omega) (Nat.le_refl _)) rfl rfl rfl ?_
   refine JL.step (y_assign rfl) rfl rfl rfl ?_
   refine JL.nil (JE.then_normal (J.seq ?_))
   rw [List.take_length]
   refine J.region (JL.step (y_assign rfl) rfl rfl rfl ?_)
   refine JL.nil (JE.then_normal (J.seq (J.block ?_)))
   refine J.loop (α := List Int × List Int) (fun q => Bys q.1 ∧ Bys q.2 ∧ q.1.length + q.2.length + 2 ≤ s.length ∧ TxJ xs ts q.2 q.1) (fun q => [(0, .string (strOf q.1)), (4, .slice a ts.length c), (5, .string (strOf q.2))]) (fun _ => ownS a c ts :: l) (fun q => q.1.length) (s.drop 2, []) ⟨hs.drop _, Bys.nil, by rw [List.length_drop]; simp; omega, hJ⟩ ⟨rfl, rfl, by rw [e0]; rfl, trivial⟩ (fun w h => h) ?_
   rintro ⟨u, t⟩ ⟨hu, ht, hul, hJ⟩
   dsimp only at hu ht hul hJ ⊢
   refine J.seq (J.seq ?_)
   obtain ⟨bu, hbu⟩ : ∃ b, b = decide (u ≠ []) := ⟨_, rfl⟩
   rcases hcu : u with _ | ⟨x, u'⟩
   rotate_left
   have hx : u[0]? = some x := by rw [hcu]; rfl
   obtain rfl : bu = true := by rw [hbu, hcu]; rfl
   obtain ⟨bx, hbx⟩ : ∃ b, decide (¬ x = 34) = b := ⟨_, rfl⟩
   rcases bx with _ | _
   rotate_left
   rotate_left
   obtain rfl : bu = false := by rw [hbu, hcu]; rfl
   all_goals rw [← hcu]
   all_goals
    refine J.region (JL.step (y_move rfl) rfl rfl rfl ?_)
    all_goals refine JL.step (y_neS (ys := []) hu Bys.nil rfl (by rw [e0]; rfl) hbu) rfl rfl rfl ?_
    refine JL.step (y_move rfl) rfl rfl rfl ?_
    all_goals (first | (refine JL.gsplit_dec rfl rfl rfl (fun h => ?_) (fun h => ?_) <;> try (first | (exfalso; omega) | exact absurd rfl h)) | (refine JL.gsplit rfl rfl rfl (fun h => ?_) (fun h => ?_) <;> try (first | cases h | (exfalso; simp at h; done))) | skip)
    all_goals (first | refine JL.gskip rfl rfl rfl rfl rfl rfl ?_ | refine JL.gskipU rfl rfl rfl rfl rfl ?_ | refine JL.gstep rfl rfl rfl (y_move rfl) rfl rfl ?_)
    all_goals (first | refine JL.gskip rfl rfl rfl rfl rfl rfl ?_ | refine JL.gskipU rfl rfl rfl rfl rfl ?_ | refine JL.gstep rfl rfl rfl (y_ixS (i := 0) hT hu rfl rfl rfl rfl rfl hx) rfl rfl ?_)
    all_goals (first | refine JL.gskip rfl rfl rfl rfl rfl rfl ?_ | refine JL.gskipU rfl rfl rfl rfl rfl ?_ | refine JL.gstep rfl rfl rfl (y_neqB rfl rfl hbx) rfl rfl ?_)
    all_goals (refine JL.step (y_pick rfl rfl rfl) rfl rfl rfl ?_)
    all_goals refine JL.nil ?_
   all_goals refine JE.then_normal ?_
   all_goals
    first | apply J.cond_dec rfl | apply J.cond rfl
    case' ht =>
     intro h
     try (first | (exfalso; omega) | (cases h; done) | (exfalso; simp at h; done) | subst h)
     all_goals
      refine J.skip ?_
    case' hf =>
     intro h
     try (first | (exfalso; omega) | (cases h; done) | (exfalso; simp at h; done) | subst h)
     all_goals
      refine J.exit (JE.then_exit (JE.then_exit (JE.block_exit (JE.then_normal (J.seq (J.seq ?_))))))
      obtain ⟨bz, hbz⟩ : ∃ b, b = decide (u = []) := ⟨_, rfl⟩
      refine J.region (JL.step (y_move rfl) rfl rfl rfl ?_)
      refine JL.step (y_eqS (ys := []) hu Bys.nil rfl (by rw [e0]; rfl) hbz) rfl rfl rfl ?_
      refine JL.nil (JE.then_normal ?_)
      first | apply J.cond_dec rfl | apply J.cond rfl
      case' ht =>
       intro h
       try (first | (exfalso; omega) | (cases h; done) | (exfalso; simp at h; done) | subst h)
       all_goals
        refine J.seq (J.region (JL.step (y_assign rfl) rfl rfl rfl (JL.step (y_assign rfl) rfl rfl rfl ?_)))
        refine JL.nil (JE.then_normal (J.ret (JE.then_ret (JE.block_ret (JE.then_ret (JE.block_ret (JE.then_ret ?_)))))))
        refine JE.ret2 (.inl rfl) rfl rfl (by (first | exact RV.tmp rfl | exact RV.cell1 hT rfl rfl rfl (by (exact Rd1.row (by (repeat (first | exact Pick.head | apply Pick.tail | apply Pick.app))) (by rfl))) | exact RV.cellN hT rfl rfl rfl (by (first | exact RdN.rowAll (by (repeat (first | exact Pick.head | apply Pick.tail | apply Pick.app))) | exact RdN.own (by (repeat (first | exact Pick.head | apply Pick.tail | apply Pick.app))))) (by (first | rfl | assumption | (simp; done) | omega)))) (by (first | exact RV.tmp rfl | exact RV.cell1 hT rfl rfl rfl (by (exact Rd1.row (by (repeat (first | exact Pick.head | apply Pick.tail | apply Pick.app))) (by rfl))) | exact RV.cellN hT rfl rfl rfl (by (first | exact RdN.rowAll (by (repeat (first | exact Pick.head | apply Pick.tail | apply Pick.app))) | exact RdN.own (by (repeat (first | exact Pick.head | apply Pick.tail | apply Pick.app))))) (by (first | rfl | assumption | (simp; done) | omega)))) ?_
        first
        | (have hz' : z = [] := by
            refine Decidable.of_not_not fun q => ?_
            rw [decide_eq_false q] at hbz
            first | cases hbz | (rw [hbz] at h; cases h)
           exact ⟨ownS none 0 [] :: l, fun w h => hnil w h.drop, [], none, 0, false, rfl, Nat.zero_le _, (fun _ q => (by cases q)), (hz0 hz').all, rfl⟩)
        | (have hz' : u = [] := by
            refine Decidable.of_not_not fun q => ?_
            rw [decide_eq_false q] at hbz
            first | cases hbz | (rw [hbz] at h; cases h)
           rw [hz'] at hJ
           exact ⟨ownS none 0 [] :: l, fun w h => hnil w h.drop, [], none, 0, false, rfl, Nat.zero_le _, (fun _ q => (by cases q)), (txJ_bad hJ).all, rfl⟩)
        | (have hp9 : ¬ s.take 2 = [32, 34] := by
            intro q
            rw [decide_eq_true q] at hbp
            subst hbp
            simp at h
           have hs9 : s ≠ [] := by
            intro q
            rw [decide_eq_false (not_not_intro q)] at hbs
            first | cases hbs | (simp_all; done)
           exact ⟨ownS none 0 [] :: l, fun w h => hnil w h.drop, [], none, 0, false, rfl, Nat.zero_le _, (fun _ q => (by cases q)), (txI_bad hI hs9 hp9).all, rfl⟩)
        | (have hs9 : s = [] := by
            refine Decidable.of_not_not fun q => ?_
            rw [decide_eq_true q] at hbs
            first | cases hbs | (rw [hbs] at h; cases h)
           subst hs9
           exact ⟨_, fun w h => h, ts, a, c, true, rfl, by simpa using hlen, hok, txI_end hI, rfl⟩)
      case' hf =>
       intro h
       try (first | (exfalso; omega) | (cases h; done) | (exfalso; simp at h; done) | subst h)
       all_goals
        refine J.skip ?_
      all_goals refine JE.then_normal ?_
      all_goals
       refine J.seq ?_
       have hune : u ≠ [] := by
        intro q
        rw [decide_eq_true q] at hbz
        first | cases hbz | (rw [hbz] at h; cases h)
       first
       | (exfalso; exact hune hcu)
       | skip
       all_goals have hx34 : x = 34 := Decidable.of_not_not (of_decide_eq_false hbx)
       all_goals have hJ2 : TxI xs (ts ++ [t]) u' := by rw [hcu, hx34] at hJ; exact txJ_end hJ
       all_goals have hu2 : u.drop 1 = u' ∧ u'.length + 1 = u.length := ⟨by rw [hcu]; rfl, by rw [hcu, List.length_cons]⟩
       all_goals have huB' : Bys u' := fun y hy => hu y (by rw [hcu]; exact List.mem_cons_of_mem _ hy)
       all_goals
        refine J.region (JL.step (y_move rfl) rfl rfl rfl ?_)
        all_goals refine JL.step (y_cutS (lo := 1) (hi := u.length) hT hu rfl rfl rfl (.inr ⟨_, _, _, rfl, rfl, rfl⟩) (.inl ⟨rfl, rfl⟩) (by omega) (Nat.le_refl _)) rfl rfl rfl ?_
        refine JL.step (y_assign rfl) rfl rfl rfl ?_
        refine JL.nil ?_
       all_goals refine JE.then_normal ?_
       all_goals
        refine J.region (JL.step (y_move rfl) rfl rfl rfl (JL.step (y_move rfl) rfl rfl rfl ?_))
        refine JL.loud rfl (l_buildSliceP (cs := [.string (strOf t)]) hT rfl rfl rfl rfl rfl rfl rfl (fill_one rfl rfl) rfl (fun bs9 => ?_))
        refine JL.loud rfl (l_append hT rfl rfl rfl rfl rfl rfl rfl rfl (by (repeat (first | exact Pick.head | apply Pick.tail | apply Pick.app))) (by (first | exact RdN.rowAll (by (repeat (first | exact Pick.head | apply Pick.tail | apply Pick.app))) | exact RdN.own (by (repeat (first | exact Pick.head | apply Pick.tail | apply Pick.app))))) (by (first | rfl | assumption | (simp; done) | omega)) (by (first | assumption | exact ones_of rfl | exact encW_one _ | exact encB_one _ | (intro u hu; simp at hu; rcases hu with rfl | rfl <;> rfl) | (intro u hu; simp at hu; subst hu; rfl) | simp)) (by rw [show i9.bytes = 16 from rfl]; omega) (by omega) rfl (fun a7 k7 hk7 => ?_))
        refine JL.step (y_assign rfl) rfl rfl rfl ?_
        refine JL.nil ?_
      all_goals
       refine JE.block_normal ?_
       rw [List.take_length, hu2.1]
       exact JE.round (s := (s, ts, a, c)) (u', ts ++ [t], a7, k7) ⟨huB', by dsimp only; rw [List.length_append, List.length_singleton]; omega, hok.snoc ht (by omega), hJ2⟩ ⟨rfl, by dsimp only; rw [List.length_append]; rfl, trivial⟩ (fun w h => by
        dsimp only
        unfold ownS
        rw [strs_app, List.length_append]
        exact h.sup (by (repeat (first | exact Sup.refl | apply Sup.cons (by (repeat (first | exact Pick.head | apply Pick.tail | apply Pick.app))) | apply Sup.app | apply Sup.skip | apply Sup.skips)))) (by dsimp only; omega)
   all_goals refine JE.then_normal ?_
   all_goals
    refine J.block ?_
    refine J.seqK (α := List Int) (fun z => Bys z ∧ z.length ≤ u.length ∧ (z = [] → TxN xs) ∧ ∀ y z', z = y :: z' → TxJ xs ts (t ++ [y]) z') (fun z => [(0, .string (strOf z)), (4, .slice a ts.length c), (5, .string (strOf t))]) (fun _ => ownS a c ts :: l) ?hj10 (fun hk10 => ?hf10)
    case hf10 =>
     refine J.seq ?_
     have h34 : x ≠ 34 := of_decide_eq_true hbx
     have hu' : u'.length + 1 = u.length := by rw [hcu, List.length_cons]
     have hxB := hu x (by rw [hcu]; exact List.mem_cons_self ..)
     have huB' : Bys u' := fun y hy => hu y (by rw [hcu]; exact List.mem_cons_of_mem _ hy)
     have hx : u[0]? = some x := by rw [hcu]; rfl
     have h1d : u.drop 1 = u' := by rw [hcu]; rfl
     refine J.region (JL.step (y_move rfl) rfl rfl rfl ?_)
     refine JL.step (y_ixS (i := 0) hT hu rfl rfl rfl rfl rfl hx) rfl rfl rfl ?_
     refine JL.step (y_eql rfl rfl) rfl rfl rfl ?_
     refine JL.nil (JE.then_normal ?_)
     first | apply J.cond_dec rfl | apply J.cond rfl
     case' ht =>
      intro h
      try (first | (exfalso; omega) | (cases h; done) | (exfalso; simp at h; done) | subst h)
      all_goals
       refine J.region (JL.step (y_move rfl) rfl rfl rfl ?_)
       refine JL.step (y_cutS (lo := 1) (hi := u.length) hT hu rfl rfl rfl (.inr ⟨_, _, _, rfl, rfl, rfl⟩) (.inl ⟨rfl, rfl⟩) (by omega) (Nat.le_refl _)) rfl rfl rfl ?_
       refine JL.step (y_assign rfl) rfl rfl rfl ?_
       refine JL.nil ?_
     case' hf =>
      intro h
      try (first | (exfalso; omega) | (cases h; done) | (exfalso; simp at h; done) | subst h)
      all_goals
       refine J.skip ?_
     all_goals refine JE.then_normal ?_
     all_goals
      first
      | (have h92 : u[0]? = some 92 := hx
         rw [List.take_length, h1d]
         exact J.closeK hk10 u' ⟨huB', by omega, fun q => by
          rw [hcu, q] at hJ
          exact txJ_bad2 hJ, fun y z' q => by
          rw [hcu, q] at hJ
          exact txJ_esc hJ⟩ ⟨rfl, rfl, rfl, trivial⟩ (fun w h => h))
      | (have h92 : ¬ x = 92 := by assumption
         exact J.closeK hk10 u ⟨hu, Nat.le_refl _, fun q => (by rw [hcu] at q; cases q), fun y z' q => by
          rw [q] at hcu
          rw [List.cons.injEq] at hcu
          rw [q, hcu.1] at hJ
          rw [hcu.1]
          exact txJ_plain hJ h34 h92⟩ ⟨rfl, rfl, rfl, trivial⟩ (fun w h => h))
    rintro z ⟨hz, hzl, hz0, hzJ⟩
    try dsimp only
    obtain ⟨bz, hbz⟩ : ∃ b, b = decide (z = []) := ⟨_, rfl⟩
    refine J.seq (J.seq (J.region (JL.step (y_move rfl) rfl rfl rfl ?_)))
    refine JL.step (y_eqS (ys := []) hz Bys.nil rfl (by rw [e0]; rfl) hbz) rfl rfl rfl ?_
    refine JL.nil (JE.then_normal ?_)
    first | apply J.cond_dec rfl | apply J.cond rfl
    case' ht =>
     intro h
     try (first | (exfalso; omega) | (cases h; done) | (exfalso; simp at h; done) | subst h)
     all_goals
      refine J.seq (J.region (JL.step (y_assign rfl) rfl rfl rfl (JL.step (y_assign rfl) rfl rfl rfl ?_)))
      refine JL.nil (JE.then_normal (J.ret (JE.then_ret (JE.block_ret (JE.then_ret (JE.block_ret (JE.then_ret (JE.block_ret (JE.then_ret (JE.block_ret (JE.then_ret ?_)))))))))))
      refine JE.ret2 (.inl rfl) rfl rfl (by (first | exact RV.tmp rfl | exact RV.cell1 hT rfl rfl rfl (by (exact Rd1.row (by (repeat (first | exact Pick.head | apply Pick.tail | apply Pick.app))) (by rfl))) | exact RV.cellN hT rfl rfl rfl (by (first | exact RdN.rowAll (by (repeat (first | exact Pick.head | apply Pick.tail | apply Pick.app))) | exact RdN.own (by (repeat (first | exact Pick.head | apply Pick.tail | apply Pick.app))))) (by (first | rfl | assumption | (simp; done) | omega)))) (by (first | exact RV.tmp rfl | exact RV.cell1 hT rfl rfl rfl (by (exact Rd1.row (by (repeat (first | exact Pick.head | apply Pick.tail | apply Pick.app))) (by rfl))) | exact RV.cellN hT rfl rfl rfl (by (first | exact RdN.rowAll (by (repeat (first | exact Pick.head | apply Pick.tail | apply Pick.app))) | exact RdN.own (by (repeat (first | exact Pick.head | apply Pick.tail | apply Pick.app))))) (by (first | rfl | assumption | (simp; done) | omega)))) ?_
      first
      | (have hz' : z = [] := by
          refine Decidable.of_not_not fun q => ?_
          rw [decide_eq_false q] at hbz
          first | cases hbz | (rw [hbz] at h; cases h)
         exact ⟨ownS none 0 [] :: l, fun w h => hnil w h.drop, [], none, 0, false, rfl, Nat.zero_le _, (fun _ q => (by cases q)), (hz0 hz').all, rfl⟩)
      | (have hz' : u = [] := by
          refine Decidable.of_not_not fun q => ?_
          rw [decide_eq_false q] at hbz
          first | cases hbz | (rw [hbz] at h; cases h)
         rw [hz'] at hJ
         exact ⟨ownS none 0 [] :: l, fun w h => hnil w h.drop, [], none, 0, false, rfl, Nat.zero_le _, (fun _ q => (by cases q)), (txJ_bad hJ).all, rfl⟩)
      | (have hp9 : ¬ s.take 2 = [32, 34] := by
          intro q
          rw [decide_eq_true q] at hbp
          subst hbp
          simp at h
         have hs9 : s ≠ [] := by
          intro q
          rw [decide_eq_false (not_not_intro q)] at hbs
          first | cases hbs | (simp_all; done)
         exact ⟨ownS none 0 [] :: l, fun w h => hnil w h.drop, [], none, 0, false, rfl, Nat.zero_le _, (fun _ q => (by cases q)), (txI_bad hI hs9 hp9).all, rfl⟩)
      | (have hs9 : s = [] := by
          refine Decidable.of_not_not fun q => ?_
          rw [decide_eq_true q] at hbs
          first | cases hbs | (rw [hbs] at h; cases h)
         subst hs9
         exact ⟨_, fun w h => h, ts, a, c, true, rfl, by simpa using hlen, hok, txI_end hI, rfl⟩)
    case' hf =>
     intro h
     try (first | (exfalso; omega) | (cases h; done) | (exfalso; simp at h; done) | subst h)
     all_goals
      refine J.skip ?_
    all_goals refine JE.then_normal ?_
    all_goals
     refine J.seq ?_
     have hzne : z ≠ [] := by
      intro q
      rw [decide_eq_true q] at hbz
      first | cases hbz | (rw [hbz] at h; cases h)
     obtain ⟨y, z', hzz⟩ : ∃ y z', z = y :: z' := by
      cases z with
      | nil => exact absurd rfl hzne
      | cons y z' => exact ⟨y, z', rfl⟩
     have hJ2 := hzJ y z' hzz
     have hz1 : (z.take 1).drop 0 = [y] := by rw [hzz]; rfl
     have hz2 : z.drop 1 = z' := by rw [hzz]; rfl
     have hzl2 : z'.length + 1 = z.length := by rw [hzz, List.length_cons]
     refine J.region (JL.step (y_move rfl) rfl rfl rfl (JL.step (y_move rfl) rfl rfl rfl ?_))
     refine JL.step (y_cutS (lo := 0) (hi := 1) hT hz rfl rfl rfl (.inl ⟨rfl, rfl⟩) (.inr ⟨_, _, _, rfl, rfl, rfl⟩) (by omega) (by omega)) rfl rfl rfl ?_
     refine JL.step (y_addS (ys := [y]) (zs := t ++ [y]) rfl (by rw [hz1]; rfl) rfl (by rw [List.length_singleton]; omega)) rfl rfl rfl ?_
     refine JL.step (y_assign rfl) rfl rfl rfl ?_
     refine JL.nil (JE.then_normal (J.region (JL.step (y_move rfl) rfl rfl rfl ?_)))
     refine JL.step (y_cutS (lo := 1) (hi := z.length) hT hz rfl rfl rfl (.inr ⟨_, _, _, rfl, rfl, rfl⟩) (.inl ⟨rfl, rfl⟩) (by omega) (Nat.le_refl _)) rfl rfl rfl ?_
     refine JL.step (y_assign rfl) rfl rfl rfl ?_
     refine JL.nil ?_
    all_goals refine JE.block_normal ?_
   all_goals
    rw [List.take_length, hz2]
    exact JE.round (s := (u, t)) (z', t ++ [y]) ⟨fun q hq => hz q (by rw [hzz]; exact List.mem_cons_of_mem _ hq), ht.app (fun q hq => by rw [List.mem_singleton] at hq; rw [hq]; exact hz y (by rw [hzz]; exact List.mem_cons_self ..)), by dsimp only; rw [List.length_append, List.length_singleton]; omega, hJ2⟩ ⟨rfl, rfl, rfl, trivial⟩ (fun w h => h) (by dsimp only; omega)
end
end
section
open Go Go.SL
section
def wordK (k : Int) : List Int := if k = 1 then wMe else if k = 2 then wAdded else if k = 3 then wContacts else if k = 4 then wQueued else if k = 5 then wInbox else if k = 6 then wPurged else if k = 7 then wStatus else if k = 8 then wError else []
theorem lineR_1 {r : RpT} (h : r.kind = 1) : lineR r = wMe ++ 32 :: hexT r.key := by unfold lineR printW; rw [if_pos h, joinW_two, joinW_one]
theorem lineR_2 {r : RpT} (h : r.kind = 2) : lineR r = wAdded := by unfold lineR printW; rw [if_neg (by omega), if_pos h, joinW_one]
theorem lineR_3 {r : RpT} (h : r.kind = 3) : lineR r = joinW (wContacts :: numT r.names.length :: r.names) := by unfold lineR printW; rw [if_neg (by omega), if_neg (by omega), if_pos h]
theorem lineR_4 {r : RpT} (h : r.kind = 4) : lineR r = wQueued ++ 32 :: numT r.seq := by unfold lineR printW; rw [if_neg (by omega), if_neg (by omega), if_neg (by omega), if_pos h, joinW_two, joinW_one]
theorem lineR_5 {r : RpT} (h : r.kind = 5) : lineR r = wInbox ++ 32 :: (numT r.texts.length ++ behW r.texts) := by unfold lineR printW; rw [if_neg (by omega), if_neg (by omega), if_neg (by omega), if_neg (by omega), if_pos h, joinW_two, joinW_beh]
theorem lineR_6 {r : RpT} (h : r.kind = 6) : lineR r = wPurged := by unfold lineR printW; rw [if_neg (by omega), if_neg (by omega), if_neg (by omega), if_neg (by omega), if_neg (by omega), if_pos h, joinW_one]
theorem lineR_7 {r : RpT} (h : r.kind = 7) : lineR r = joinW [wStatus, numT r.out, numT r.acked, numT r.inn] := by unfold lineR printW; rw [if_neg (by omega), if_neg (by omega), if_neg (by omega), if_neg (by omega), if_neg (by omega), if_neg (by omega), if_pos h]
theorem lineR_8 {r : RpT} (h : r.kind = 8) : lineR r = wError ++ 32 :: (wordF r.err).1 := by unfold lineR printW; rw [if_neg (by omega), if_neg (by omega), if_neg (by omega), if_neg (by omega), if_neg (by omega), if_neg (by omega), if_neg (by omega), if_pos h, joinW_two, joinW_one]
theorem lineR_head {r : RpT} (h : rightB r = true) : headW (lineR r) = wordK r.kind := by
 rcases right_kind h with k | k | k | k | k | k | k | k
 · rw [lineR_1 k, headW_app _ (by decide), k]; rfl
 · rw [lineR_2 k, headW_all (by decide), k]; rfl
 · rw [lineR_3 k, joinW_two, headW_app _ (by decide), k]; rfl
 · rw [lineR_4 k, headW_app _ (by decide), k]; rfl
 · rw [lineR_5 k, headW_app _ (by decide), k]; rfl
 · rw [lineR_6 k, headW_all (by decide), k]; rfl
 · rw [lineR_7 k, joinW_two, headW_app _ (by decide), k]; rfl
 · rw [lineR_8 k, headW_app _ (by decide), k]; rfl
theorem wordK_one {k : Int} {w : List Int} (j : Fin 8) (h : k = 1 ∨ k = 2 ∨ k = 3 ∨ k = 4 ∨ k = 5 ∨ k = 6 ∨ k = 7 ∨ k = 8) (hw : wordK ((j.val : Int) + 1) = w) (e : wordK k = w) : k = j.val + 1 := by
 have hd : ∀ i j : Fin 8, wordK ((i.val : Int) + 1) = wordK ((j.val : Int) + 1) → i = j := by decide
 have hi := hd ⟨k.toNat - 1, by omega⟩ j (by
  rw [hw]
  show wordK (((k.toNat - 1 : Nat) : Int) + 1) = w
  rw [show (((k.toNat - 1 : Nat) : Int) + 1) = k by omega]
  exact e)
 have := congrArg Fin.val hi
 dsimp only at this
 omega
def LenR (xs : List Int) (r : RpT) : Prop := ∀ q : RpT, q.key.length = 32 → Bys q.key → rightB q = true → lineR q = xs → r = q
theorem LenR.kind {xs w : List Int} {r : RpT} (j : Fin 8) (hw : wordK ((j.val : Int) + 1) = w) (hx : headW xs = w) (h : ∀ q : RpT, q.key.length = 32 → Bys q.key → rightB q = true → lineR q = xs → q.kind = j.val + 1 → r = q) : LenR xs r := by
 intro q h1 h2 h3 h4
 refine h q h1 h2 h3 h4 (wordK_one j (right_kind h3) hw ?_)
 rw [← lineR_head h3, h4, hx]
theorem splitW_head (xs : List Int) : ∃ ls, splitW xs = headW xs :: ls := by
 by_cases h : 32 ∈ xs
 · exact ⟨_, splitW_some h⟩
 · exact ⟨[], by rw [splitW_none h, headW_all h]⟩
theorem split_two {w x : List Int} (hw : 32 ∉ w) (hx : 32 ∉ x) : splitW (w ++ 32 :: x) = [w, x] := by
 rw [splitW_some (app_mem _), headW_app _ hw, app_drop, splitW_none hx]
theorem hexT_blank {ks : List Int} (h : Bys ks) : 32 ∉ hexT ks := by
 intro q
 unfold hexT at q
 obtain ⟨y, hy, h2⟩ := List.mem_flatMap.1 q
 have := h y hy
 simp only [List.mem_cons, List.not_mem_nil, or_false] at h2
 have h1 := hexC_byte (d := y / 16) (by omega) (by omega)
 have h3 := hexC_byte (d := y % 16) (by omega) (by omega)
 rcases h2 with h2 | h2 <;> omega
theorem word_blank (e : Int) : 32 ∉ (wordF e).1 := by
 by_cases h : (wordF e).2 = true
 · have hm := wordF_mem h
   have hd : ∀ p ∈ errL, 32 ∉ p.2 := by decide
   exact hd _ hm
 · have h0 : ∀ L : List (Int × List Int), (wordG L e).2 = false → (wordG L e).1 = [] := by
    intro L
    induction L with
    | nil => intro _; rfl
    | cons p L ih =>
      obtain ⟨k, w⟩ := p
      unfold wordG
      split
      · intro q; cases q
      · exact ih
   have h9 : (wordF e).2 = false := by simpa using h
   have h1 : (wordF e).1 = [] := h0 errL h9
   rw [h1]
   simp
theorem okN_blank {z : Int} (h : okN z = true) : 32 ∉ numT z := numT_blank (okN_natQ h).1
theorem split_1 {q : RpT} (hB : Bys q.key) (k : q.kind = 1) : splitW (lineR q) = [wMe, hexT q.key] := by rw [lineR_1 k]; exact split_two (by decide) (hexT_blank hB)
theorem split_3 {q : RpT} (h : rightB q = true) (k : q.kind = 3) : splitW (lineR q) = wContacts :: numT q.names.length :: q.names := by
 obtain ⟨_, h1, _, _⟩ := right_3 k h
 rw [lineR_3 k]
 refine split_join _ _ fun x hx => ?_
 rcases List.mem_cons.1 hx with rfl | hx
 · decide
 · rcases List.mem_cons.1 hx with rfl | hx
   · exact numT_blank (by omega)
   · exact name_blank (List.all_eq_true.1 h1 x hx)
theorem split_4 {q : RpT} (h : rightB q = true) (k : q.kind = 4) : splitW (lineR q) = [wQueued, numT q.seq] := by rw [lineR_4 k]; exact split_two (by decide) (okN_blank (right_4 k h).2)
theorem split_5 {q : RpT} (k : q.kind = 5) : ∃ ls, splitW (lineR q) = wInbox :: numT q.texts.length :: ls := by
 have hn := numT_blank (z := q.texts.length) (by omega)
 rw [lineR_5 k, splitW_some (app_mem _), headW_app _ (by decide), app_drop]
 cases hts : q.texts with
 | nil =>
   rw [hts] at hn
   refine ⟨[], ?_⟩
   show wInbox :: splitW (numT _ ++ []) = _
   rw [List.append_nil, splitW_none hn]
 | cons t ts =>
   rw [hts] at hn
   have hb : behW (t :: ts) = 32 :: (quoT t ++ behW ts) := rfl
   rw [hb, splitW_some (app_mem _), headW_app _ hn]
   exact ⟨_, rfl⟩
theorem split_7 {q : RpT} (h : rightB q = true) (k : q.kind = 7) : splitW (lineR q) = [wStatus, numT q.out, numT q.acked, numT q.inn] := by
 obtain ⟨_, h1, h2, h3⟩ := right_7 k h
 rw [lineR_7 k]
 refine split_join _ _ fun x hx => ?_
 simp only [List.mem_cons, List.not_mem_nil, or_false] at hx
 rcases hx with rfl | rfl | rfl | rfl
 · decide
 · exact okN_blank h1
 · exact okN_blank h2
 · exact okN_blank h3
theorem split_8 {q : RpT} (k : q.kind = 8) : splitW (lineR q) = [wError, (wordF q.err).1] := by rw [lineR_8 k]; exact split_two (by decide) (word_blank _)
def keyL (w : List Int) : List Int := if keyB w then keyV w else zer32
theorem keyL_ok (w : List Int) : (keyL w).length = 32 ∧ Bys (keyL w) := by
 unfold keyL
 split
 · rename_i h; exact ⟨kst_length _ _, keyV_bys h⟩
 · exact ⟨rfl, zer32_bys⟩
theorem len_me {xs w : List Int} {ls : List (List Int)} (hx : headW xs = wMe) (h1 : splitW xs = wMe :: w :: ls) : LenR xs ⟨1, keyL w, [], [], 0, 0, 0, 0, 0⟩ :=
 LenR.kind 0 rfl hx fun q hk hB hr e k => by
  have hs := split_1 hB k
  rw [e, h1] at hs
  simp only [List.cons.injEq] at hs
  obtain ⟨_, rfl, _⟩ := hs
  obtain ⟨k1, k2⟩ := key_hexT hk hB
  unfold keyL
  rw [if_pos k1, k2, ← right_1 k hr]
theorem len_me0 {xs : List Int} {r : RpT} (hx : headW xs = wMe) (h1 : (splitW xs).length ≤ 1) : LenR xs r :=
 LenR.kind 0 rfl hx fun q hk hB hr e k => by
  have hs := split_1 hB k
  rw [e] at hs
  rw [hs] at h1
  simp at h1
theorem len_added {xs : List Int} (hx : headW xs = wAdded) : LenR xs ⟨2, zer32, [], [], 0, 0, 0, 0, 0⟩ :=
 LenR.kind 1 rfl hx fun q hk hB hr e k => by
  have k : q.kind = 2 := k
  have := right_26 (.inl k) hr
  rw [this, k]
theorem len_purged {xs : List Int} (hx : headW xs = wPurged) : LenR xs ⟨6, zer32, [], [], 0, 0, 0, 0, 0⟩ :=
 LenR.kind 5 rfl hx fun q hk hB hr e k => by
  have k : q.kind = 6 := k
  have := right_26 (.inr k) hr
  rw [this, k]
theorem len_contacts {xs : List Int} (hx : headW xs = wContacts) : LenR xs ⟨3, zer32, (splitW xs).drop 2, [], 0, 0, 0, 0, 0⟩ :=
 LenR.kind 2 rfl hx fun q hk hB hr e k => by
  have hs := split_3 hr k
  rw [e] at hs
  rw [hs]
  exact (right_3 k hr).1.symm
theorem len_queued {xs w : List Int} {ls : List (List Int)} {z : Nat} (hx : headW xs = wQueued) (h1 : splitW xs = wQueued :: w :: ls) (hz : numB w = true → z = valD w) : LenR xs ⟨4, zer32, [], [], z, 0, 0, 0, 0⟩ :=
 LenR.kind 3 rfl hx fun q hk hB hr e k => by
  have hs := split_4 hr k
  rw [e, h1] at hs
  simp only [List.cons.injEq] at hs
  obtain ⟨_, rfl, _⟩ := hs
  obtain ⟨e1, h2⟩ := right_4 k hr
  obtain ⟨n1, n2, _⟩ := num_numT h2
  rw [hz n1, n2, ← e1]
theorem len_queued0 {xs : List Int} {r : RpT} (hx : headW xs = wQueued) (h1 : (splitW xs).length ≤ 1) : LenR xs r :=
 LenR.kind 3 rfl hx fun q hk hB hr e k => by
  have hs := split_4 hr k
  rw [e] at hs
  rw [hs] at h1
  simp at h1
theorem len_inbox {xs w : List Int} {ls ts : List (List Int)} (hx : headW xs = wInbox) (h1 : splitW xs = wInbox :: w :: ls) (ht : ∀ us, xs.drop (6 + w.length) = behW us → ts = us) : LenR xs ⟨5, zer32, [], ts, 0, 0, 0, 0, 0⟩ :=
 LenR.kind 4 rfl hx fun q hk hB hr e k => by
  obtain ⟨ls2, hs⟩ := split_5 k
  rw [e, h1] at hs
  simp only [List.cons.injEq] at hs
  obtain ⟨_, rfl, _⟩ := hs
  have e1 := (right_5 k hr).1
  have hd : xs.drop (6 + (numT q.texts.length).length) = behW q.texts := by
   rw [← e, lineR_5 k]
   have : wInbox ++ 32 :: (numT q.texts.length ++ behW q.texts) = (wInbox ++ [32] ++ numT q.texts.length) ++ behW q.texts := by simp
   rw [this, show 6 + (numT q.texts.length).length = (wInbox ++ [32] ++ numT q.texts.length).length by rw [List.length_append]; rfl]
   exact List.drop_left
  rw [ht _ hd, ← e1]
theorem len_inbox0 {xs : List Int} {r : RpT} (hx : headW xs = wInbox) (h1 : (splitW xs).length ≤ 1) : LenR xs r :=
 LenR.kind 4 rfl hx fun q hk hB hr e k => by
  obtain ⟨ls2, hs⟩ := split_5 k
  rw [e] at hs
  rw [hs] at h1
  simp at h1
theorem len_status {xs a b c : List Int} {ls : List (List Int)} {x y z : Nat} (hx : headW xs = wStatus) (h1 : splitW xs = wStatus :: a :: b :: c :: ls) (ha : numB a = true → x = valD a) (hb : numB b = true → y = valD b) (hc : numB c = true → z = valD c) : LenR xs ⟨7, zer32, [], [], 0, x, y, z, 0⟩ :=
 LenR.kind 6 rfl hx fun q hk hB hr e k => by
  have hs := split_7 hr k
  rw [e, h1] at hs
  simp only [List.cons.injEq] at hs
  obtain ⟨_, rfl, rfl, rfl, _⟩ := hs
  obtain ⟨e1, h2, h3, h4⟩ := right_7 k hr
  obtain ⟨n1, n2, _⟩ := num_numT h2
  obtain ⟨m1, m2, _⟩ := num_numT h3
  obtain ⟨o1, o2, _⟩ := num_numT h4
  rw [ha n1, n2, hb m1, m2, hc o1, o2, ← e1]
theorem len_status0 {xs : List Int} {r : RpT} (hx : headW xs = wStatus) (h1 : (splitW xs).length ≤ 3) : LenR xs r :=
 LenR.kind 6 rfl hx fun q hk hB hr e k => by
  have hs := split_7 hr k
  rw [e] at hs
  rw [hs] at h1
  simp at h1
theorem len_error {xs w : List Int} {ls : List (List Int)} (hx : headW xs = wError) (h1 : splitW xs = wError :: w :: ls) : LenR xs ⟨8, zer32, [], [], 0, 0, 0, 0, (namedF w).1⟩ :=
 LenR.kind 7 rfl hx fun q hk hB hr e k => by
  have hs := split_8 k
  rw [e, h1] at hs
  simp only [List.cons.injEq] at hs
  obtain ⟨_, rfl, _⟩ := hs
  obtain ⟨e1, h2⟩ := right_8 k hr
  rw [named_of (wordF_mem h2), ← e1]
theorem len_error0 {xs : List Int} {r : RpT} (hx : headW xs = wError) (h1 : (splitW xs).length ≤ 1) : LenR xs r :=
 LenR.kind 7 rfl hx fun q hk hB hr e k => by
  have hs := split_8 k
  rw [e] at hs
  rw [hs] at h1
  simp at h1
theorem len_other {xs : List Int} {r : RpT} (h1 : headW xs ≠ wMe) (h2 : headW xs ≠ wAdded) (h6 : headW xs ≠ wPurged) (h3 : headW xs ≠ wContacts) (h4 : headW xs ≠ wQueued) (h5 : headW xs ≠ wInbox) (h7 : headW xs ≠ wStatus) (h8 : headW xs ≠ wError) : LenR xs r := by
 intro q _ _ hr e
 have hh := lineR_head hr
 rw [e] at hh
 rcases right_kind hr with k | k | k | k | k | k | k | k <;> rw [k] at hh
 · exact absurd hh h1
 · exact absurd hh h2
 · exact absurd hh h3
 · exact absurd hh h4
 · exact absurd hh h5
 · exact absurd hh h6
 · exact absurd hh h7
 · exact absurd hh h8
theorem LenR.bad {xs : List Int} {r : RpT} (h : LenR xs r) (hb : rightB r = false ∨ lineR r ≠ xs) : repF xs = none := by
 cases hf : repF xs with
 | none => rfl
 | some q =>
   obtain ⟨h1, h2⟩ := repF_key hf
   obtain ⟨h3, h4, _⟩ := repF_line hf
   have := h q h1 h2 h3 h4
   subst this
   rcases hb with hb | hb
   · rw [h3] at hb; cases hb
   · exact absurd h4 hb
end
end
section
open Go Go.SL
section
end
section
attribute [local irreducible] J JL JE JM LS Y Fc RV Code.wp wpList Code.wpIn wpListIn
attribute [local irreducible] Yc strOf valD dig
variable (E : World)
end
end
section
open Go Go.SL
section
end
section
attribute [local irreducible] J JL JE JM LS Y Fc RV Code.wp wpList Code.wpIn wpListIn
attribute [local irreducible] Yc strOf valD dig
variable (E : World)
end
end
section
open Go Go.SL
section
end
section
attribute [local irreducible] J JL JE JM LS Y Fc RV Code.wp wpList Code.wpIn wpListIn
attribute [local irreducible] Yc strOf valD dig
variable (E : World)
end
end
section
open Go Go.SL
section
def digS (n m : Nat) (s : List Int) : Prop := (s = [] ∧ m = n) ∨ (s ≠ [] ∧ m = 0 ∧ s = dig n) ∨ (s ≠ [] ∧ 0 < m ∧ dig m ++ s = dig n)
theorem digS_step {n m : Nat} {s : List Int} (h : digS n m s) (hg : 0 < m ∨ s = []) : digS n (m / 10) ((48 + (m % 10 : Nat) : Int) :: s) := by
 have hm : (m = 0 ∧ n = 0 ∧ s = []) ∨ (dig m ++ s = dig n) := by
  rcases h with ⟨rfl, rfl⟩ | ⟨h1, h2, _⟩ | ⟨_, _, h3⟩
  · right; rw [List.append_nil]
  · rcases hg with q | q
    · omega
    · exact absurd q h1
  · exact .inr h3
 have hm : dig m ++ s = dig n := by
  rcases hm with ⟨rfl, rfl, rfl⟩ | q
  · rw [List.append_nil]
  · exact q
 rcases dig_step m with ⟨h1, h2⟩ | ⟨h1, h2⟩
 · refine .inr (.inl ⟨by simp, by omega, ?_⟩)
   rw [← hm, h2, show m % 10 = m by omega]
   rfl
 · refine .inr (.inr ⟨by simp, by omega, ?_⟩)
   rw [← hm, h2, List.append_assoc, show ((m % 10 : Nat) : Int) = (m : Int) % 10 by omega]
   rfl
theorem digS_end {n m : Nat} {s : List Int} (h : digS n m s) (h1 : ¬ 0 < m) (h2 : ¬ s = []) : s = dig n := by
 rcases h with ⟨q, _⟩ | ⟨_, _, q⟩ | ⟨_, q, _⟩
 · exact absurd q h2
 · exact q
 · exact absurd q h1
theorem digS_len {n m : Nat} {s : List Int} (h : digS n m s) (hn : n < 10 ^ 19) : s.length ≤ 19 ∧ m ≤ n := by
 have hl := dig_le hn (by decide)
 rcases h with ⟨rfl, rfl⟩ | ⟨_, rfl, rfl⟩ | ⟨_, _, q⟩
 · exact ⟨by simp, Nat.le_refl _⟩
 · exact ⟨hl, by omega⟩
 · rw [← q, List.length_append] at hl
   refine ⟨by omega, ?_⟩
   have h1 := valD_dig n
   rw [← q] at h1
   have h2 : ∀ (xs : List Int) (ys : List Int), valD xs ≤ valD (xs ++ ys) := by
    intro xs ys
    refine snoc_rec (C := fun ys => valD xs ≤ valD (xs ++ ys)) (by rw [List.append_nil]; exact Nat.le_refl _) (fun ys y ih => ?_) ys
    rw [← List.append_assoc, valD_snoc]
    omega
   have h3 := h2 (dig m) s
   rw [valD_dig] at h3
   omega
theorem digS_bys {n m : Nat} {s : List Int} (h : digS n m s) : Bys s := by
 rcases h with ⟨rfl, _⟩ | ⟨_, _, rfl⟩ | ⟨_, _, q⟩
 · exact Bys.nil
 · exact dig_bys n
 · exact fun x hx => dig_bys n x (by rw [← q]; exact List.mem_append_right _ hx)
end
section
attribute [local irreducible] J JL JE JM LS Y Fc RV Code.wp wpList Code.wpIn wpListIn
attribute [local irreducible] Yc strOf valD dig
variable (E : World)
theorem rdigN_spec (n : Nat) (l : List HProp) (hn : n ≤ 9223372036854775807) : Fc prog E 50 [.int .i64 n].toArray l (fun v l' => v = .string (strOf (dig n)) ∧ l' = l) := by
 refine Fc.eqs ?_
 have e0 : strOf [] = ⟨#[]⟩ := by unfold strOf; rfl
 refine Fc.of_body (c := ?codeC) Tryz.func50 ?hb Tryz.ntmps50 ?hl ?_
 case hb => exact rfl
 case hl => exact rfl
 refine J.seq (J.region (JL.step (y_assign rfl) rfl rfl rfl ?_))
 refine JL.nil (JE.then_normal (J.seq (J.region (JL.step (y_assign rfl) rfl rfl rfl ?_))))
 refine JL.nil (JE.then_normal (J.seq (J.block ?_)))
 refine J.loop (α := Nat × List Int) (fun s => digS n s.1 s.2) (fun s => [(0, .int .i64 (s.1 : Int)), (3, .string (strOf s.2))]) (fun _ => l) (fun s => s.1 + (if s.2 = [] then 1 else 0)) (n, []) (.inl ⟨rfl, rfl⟩) ⟨rfl, by rw [e0]; rfl, trivial⟩ (fun w h => h) ?_
 rintro ⟨m, s⟩ hS
 dsimp only at hS ⊢
 obtain ⟨hsl, hmn⟩ := digS_len hS (by omega)
 refine J.seq (J.seq ?_)
 obtain ⟨bs, hbs⟩ : ∃ b, b = decide (s = []) := ⟨_, rfl⟩
 obtain ⟨bm, hbm⟩ : ∃ b, b = decide ((0 : Int) < (m : Int)) := ⟨_, rfl⟩
 refine J.region (JL.step (y_move rfl) rfl rfl rfl ?_)
 refine JL.step (y_gtrB (b := bm) rfl rfl hbm.symm) rfl rfl rfl ?_
 refine JL.step (y_move rfl) rfl rfl rfl ?_
 all_goals (first | (refine JL.gsplit_dec rfl rfl rfl (fun h => ?_) (fun h => ?_) <;> try (first | (exfalso; omega) | exact absurd rfl h)) | (refine JL.gsplit rfl rfl rfl (fun h => ?_) (fun h => ?_) <;> try (first | cases h | (exfalso; simp at h; done))) | skip)
 all_goals (first | refine JL.gskip rfl rfl rfl rfl rfl rfl ?_ | refine JL.gskipU rfl rfl rfl rfl rfl ?_ | refine JL.gstep rfl rfl rfl (y_move rfl) rfl rfl ?_)
 all_goals (first | refine JL.gskip rfl rfl rfl rfl rfl rfl ?_ | refine JL.gskipU rfl rfl rfl rfl rfl ?_ | refine JL.gstep rfl rfl rfl (y_eqS (ys := []) (digS_bys hS) Bys.nil rfl (by rw [e0]; rfl) hbs) rfl rfl ?_)
 all_goals (refine JL.step (y_pick rfl rfl rfl) rfl rfl rfl ?_)
 all_goals refine JL.nil (JE.then_normal ?_)
 all_goals
  first | apply J.cond_dec rfl | apply J.cond rfl
  case' ht =>
   intro h
   try (first | (exfalso; omega) | (cases h; done) | (exfalso; simp at h; done) | subst h)
   all_goals
    refine J.skip ?_
  case' hf =>
   intro h
   try (first | (exfalso; omega) | (cases h; done) | (exfalso; simp at h; done) | subst h)
   all_goals
    refine J.exit (JE.then_exit (JE.then_exit (JE.block_exit (JE.then_normal (J.seq (J.region (JL.step (y_move rfl) rfl rfl rfl (JL.step (y_assign rfl) rfl rfl rfl ?_))))))))
    refine JL.nil (JE.then_normal (J.ret ?_))
    refine JE.ret1 (.inl rfl) rfl rfl (by (first | exact RV.tmp rfl | exact RV.cell1 hT rfl rfl rfl (by (exact Rd1.row (by (repeat (first | exact Pick.head | apply Pick.tail | apply Pick.app))) (by rfl))) | exact RV.cellN hT rfl rfl rfl (by (first | exact RdN.rowAll (by (repeat (first | exact Pick.head | apply Pick.tail | apply Pick.app))) | exact RdN.own (by (repeat (first | exact Pick.head | apply Pick.tail | apply Pick.app))))) (by (first | rfl | assumption | (simp; done) | omega)))) ?_
    have hm0 : ¬ 0 < m := by
     first | omega | (simp_all; done) | (simp_all; omega)
    have hs0 : ¬ s = [] := by
     first | (simp_all; done) | (intro q; simp_all; done)
    rw [digS_end hS hm0 hs0]
    exact ⟨rfl, fun w h => h⟩
 all_goals refine JE.then_normal ?_
 all_goals
  refine J.block (J.seq ?_)
  have hg : 0 < m ∨ s = [] := by
   by_cases q1 : s = []
   · exact .inr q1
   · left
     first | omega | (simp_all; done) | (simp_all; omega)
  have hd10 : (48 + (m % 10 : Nat) : Int) ≤ 57 := by omega
  refine J.region (JL.step (y_move rfl) rfl rfl rfl ?_)
  refine JL.step (y_rem (m := ((m % 10 : Nat) : Int)) rfl rfl (by decide) rfl) rfl rfl rfl ?_
  refine JL.step (y_add (m := (48 + (m % 10 : Nat) : Int)) rfl rfl (wrap_i64 (by omega) (by omega))) rfl rfl rfl ?_
  refine JL.step (y_conv (m := (48 + (m % 10 : Nat) : Int)) hT rfl rfl rfl rfl (by rw [IntKind.wrap_i32]; omega)) rfl rfl rfl ?_
  refine JL.step (y_convRune hT rfl rfl rfl rfl (by omega) (by omega)) rfl rfl rfl ?_
  refine JL.step (y_move rfl) rfl rfl rfl ?_
  refine JL.step (y_addS (zs := (48 + (m % 10 : Nat) : Int) :: s) rfl rfl rfl (by rw [List.length_singleton]; omega)) rfl rfl rfl ?_
  refine JL.step (y_assign rfl) rfl rfl rfl ?_
  refine JL.nil (JE.then_normal (J.region (JL.step (y_move rfl) rfl rfl rfl ?_)))
  refine JL.step (y_quo (m := ((m / 10 : Nat) : Int)) rfl rfl (by decide) (by show IntKind.i64.wrap ((m / 10 : Nat) : Int) = _; exact wrap_i64 (by omega) (by omega))) rfl rfl rfl ?_
  refine JL.step (y_assign rfl) rfl rfl rfl ?_
  refine JL.nil (JE.block_normal ?_)
 all_goals
  exact JE.round (s := (m, s)) (m / 10, (48 + (m % 10 : Nat) : Int) :: s) (digS_step hS hg) ⟨rfl, rfl, trivial⟩ (fun w h => h) (by
   dsimp only
   rw [if_neg (by simp)]
   rcases hg with q | q
   · split <;> omega
   · rw [if_pos q]; omega)
end
end
section
open Go Go.SL
section
theorem joinW_snoc (w : List Int) (ws : List (List Int)) (x : List Int) : joinW (w :: (ws ++ [x])) = joinW (w :: ws) ++ 32 :: x := by
 show w ++ (ws ++ [x]).flatMap _ = (w ++ ws.flatMap _) ++ _
 rw [List.flatMap_append, List.append_assoc]
 simp
theorem okN_nat {z : Int} (h : okN z = true) : z = (z.toNat : Int) ∧ z.toNat ≤ 999999999 ∧ numT z = dig z.toNat := by
 unfold okN at h
 rw [Bool.and_eq_true] at h
 have h1 := of_decide_eq_true h.1
 have h2 := of_decide_eq_true h.2
 refine ⟨by omega, by omega, ?_⟩
 unfold numT
 rw [if_neg (by omega)]
end
section
attribute [local irreducible] J JL JE JM LS Y Fc RV Code.wp wpList Code.wpIn wpListIn
attribute [local irreducible] Yc strOf valD dig
variable (E : World)
theorem rprintR_spec (r : RpT) (p1 : Option Addr) (c1 : Nat) (p2 : Option Addr) (c2 : Nat) (l : List HProp) (hr : RpB r) (hri : rightB r = true) (h1 : InL l p1 r.names.length c1 (strs r.names)) (h2 : InL l p2 r.texts.length c2 (strs r.texts)) :
 Fc prog E 20 [.agg (rpE r (.slice p1 r.names.length c1) (.slice p2 r.texts.length c2)).toArray].toArray l (fun v l' => v = .string (strOf (lineR r)) ∧ l' = l) := by
 refine Fc.eqs ?_
 obtain ⟨cs, hcs⟩ : ∃ cs, rpE r (.slice p1 r.names.length c1) (.slice p2 r.texts.length c2) = cs := ⟨_, rfl⟩
 have hat := rp_at hr.key (.slice p1 r.names.length c1) (.slice p2 r.texts.length c2)
 have hky := rp_key hr.key (.slice p1 r.names.length c1) (.slice p2 r.texts.length c2)
 have hk0 : cs[0]? = some (.int .i64 r.kind) := by rw [← hcs]; rfl
 have hkind := right_kind hri
 have hnl := hr.names
 have htl := hr.texts
 have hin : ∀ (b : Nat) (m : List HProp), InL (row b 36 cs :: m) (some ⟨b, 1, none⟩) 32 32 (ints .u8 r.key) := fun b m => ⟨Nat.le_refl _, by unfold maxLen; omega, .inl ⟨b, 1, rfl, fun m => RdN.row (n := 32) (Pick.app m Pick.head) (hcs ▸ hky)⟩⟩
 have hx64 : (hexT r.key).length = 64 := by rw [hexT_length, hr.key]
 have hdn := dig_le (u := r.names.length) (k := 19) (by omega) (by decide)
 have hdt := dig_le (u := r.texts.length) (k := 19) (by omega) (by decide)
 have kS : strOf [32] = ⟨#[32]⟩ := by unfold strOf; rfl
 have kMe : strOf (wMe ++ [32]) = ⟨#[109, 101, 32]⟩ := by unfold strOf; rfl
 have kCo : strOf (wContacts ++ [32]) = ⟨#[99, 111, 110, 116, 97, 99, 116, 115, 32]⟩ := by unfold strOf; rfl
 have kQu : strOf (wQueued ++ [32]) = ⟨#[113, 117, 101, 117, 101, 100, 32]⟩ := by unfold strOf; rfl
 have kIn : strOf (wInbox ++ [32]) = ⟨#[105, 110, 98, 111, 120, 32]⟩ := by unfold strOf; rfl
 have kSt : strOf (wStatus ++ [32]) = ⟨#[115, 116, 97, 116, 117, 115, 32]⟩ := by unfold strOf; rfl
 have kEr : strOf (wError ++ [32]) = ⟨#[101, 114, 114, 111, 114, 32]⟩ := by unfold strOf; rfl
 have kAd : strOf wAdded = ⟨#[97, 100, 100, 101, 100]⟩ := by unfold strOf; rfl
 have kPu : strOf wPurged = ⟨#[112, 117, 114, 103, 101, 100]⟩ := by unfold strOf; rfl
 rw [hcs] at hat
 rw [hcs]
 refine Fc.of_body (c := ?codeC) Tryz.func20 ?hb Tryz.ntmps20 ?hl ?_
 case hb => exact rfl
 case hl => exact rfl
 refine J.seq (J.region ?_)
 refine JL.loud rfl (l_box (cs := cs) rfl rfl rfl (fun b1 => ?_))
 refine JL.step (y_assign rfl) rfl rfl rfl ?_
 refine JL.nil (JE.then_normal (J.seq (J.seq (J.region (JL.step (y_fieldAddr hT rfl rfl rfl rfl rfl rfl) rfl rfl rfl ?_)))))
 refine JL.step (v := .int .i64 r.kind) (y_load1 hT rfl rfl rfl (Rd1.row (by (repeat (first | exact Pick.head | apply Pick.tail | apply Pick.app))) hk0)) rfl rfl rfl ?_
 refine JL.nil (JE.then_normal (J.block (J.seq (J.region (JL.step (y_eql rfl rfl) rfl rfl rfl (JL.step (y_assign rfl) rfl rfl rfl ?_))))))
 refine JL.nil (JE.then_normal ?_)
 first | apply J.cond_dec rfl | apply J.cond rfl
 case' ht =>
  intro h
  try (first | (exfalso; omega) | (cases h; done) | (exfalso; simp at h; done) | subst h)
  all_goals
   refine J.seq (J.region (JL.step (y_fieldAddr hT rfl rfl rfl rfl rfl rfl) rfl rfl rfl ?_))
   refine JL.step (y_slice_arr hT rfl rfl rfl rfl (.inl ⟨rfl, rfl⟩) (.inl ⟨rfl, rfl⟩) (by (first | omega | exact Nat.le_of_ble_eq_true rfl | decide | (simp; omega))) (by (first | omega | exact Nat.le_of_ble_eq_true rfl | decide | (simp; omega)))) rfl rfl rfl ?_
   refine JL.loud rfl (l_callF e49 rfl rfl (rdigits_spec E (some ⟨b1, 1, none⟩) 32 32 r.key _ hr.key (by omega) hr.kb (hin b1 _)) ?_)
   rintro _ _ ⟨rfl, rfl⟩
   refine JL.step (y_addS (xs := wMe ++ [32]) (zs := wMe ++ 32 :: hexT r.key) (by rw [kMe]; rfl) rfl (by rw [List.append_assoc]; rfl) (by have : (wMe ++ [32]).length = 3 := rfl; omega)) rfl rfl rfl ?_
   refine JL.step (y_assign rfl) rfl rfl rfl ?_
   refine JL.nil (JE.then_normal (J.ret (JE.block_ret (JE.then_ret ?_))))
   refine JE.ret1 (.inl rfl) rfl rfl (by (first | exact RV.tmp rfl | exact RV.cell1 hT rfl rfl rfl (by (exact Rd1.row (by (repeat (first | exact Pick.head | apply Pick.tail | apply Pick.app))) (by rfl))) | exact RV.cellN hT rfl rfl rfl (by (first | exact RdN.rowAll (by (repeat (first | exact Pick.head | apply Pick.tail | apply Pick.app))) | exact RdN.own (by (repeat (first | exact Pick.head | apply Pick.tail | apply Pick.app))))) (by (first | rfl | assumption | (simp; done) | omega)))) ?_
   first
   | (have hk1 : r.kind = 1 := by omega
      have e : lineR r = wMe ++ 32 :: hexT r.key := by unfold lineR printW; rw [if_pos hk1, joinW_two, joinW_one]
      rw [e]
      exact ⟨rfl, fun w h => h.sup (by (repeat (first | exact Sup.refl | apply Sup.cons (by (repeat (first | exact Pick.head | apply Pick.tail | apply Pick.app))) | apply Sup.app | apply Sup.skip | apply Sup.skips)))⟩)
   | (have hk1 : r.kind = 2 := by omega
      have e : lineR r = wAdded := by unfold lineR printW; rw [if_neg (by omega), if_pos hk1, joinW_one]
      rw [e, kAd]
      exact ⟨rfl, fun w h => h.sup (by (repeat (first | exact Sup.refl | apply Sup.cons (by (repeat (first | exact Pick.head | apply Pick.tail | apply Pick.app))) | apply Sup.app | apply Sup.skip | apply Sup.skips)))⟩)
   | (have hk1 : r.kind = 6 := by omega
      have e : lineR r = wPurged := by unfold lineR printW; rw [if_neg (by omega), if_neg (by omega), if_neg (by omega), if_neg (by omega), if_neg (by omega), if_pos hk1, joinW_one]
      rw [e, kPu]
      exact ⟨rfl, fun w h => h.sup (by (repeat (first | exact Sup.refl | apply Sup.cons (by (repeat (first | exact Pick.head | apply Pick.tail | apply Pick.app))) | apply Sup.app | apply Sup.skip | apply Sup.skips)))⟩)
   | (have hk1 : r.kind = 3 := by omega
      obtain rfl : i = r.names.length := by omega
      have e : lineR r = joinW (wContacts :: dig r.names.length :: r.names.take r.names.length) := by unfold lineR printW; rw [if_neg (by omega), if_neg (by omega), if_pos hk1, numT_nat, List.take_length]
      rw [e]
      exact ⟨rfl, fun w h => h.sup (by (repeat (first | exact Sup.refl | apply Sup.cons (by (repeat (first | exact Pick.head | apply Pick.tail | apply Pick.app))) | apply Sup.app | apply Sup.skip | apply Sup.skips)))⟩)
   | (have hk1 : r.kind = 4 := by omega
      have e : lineR r = joinW [wQueued, dig r.seq.toNat] := by unfold lineR printW; rw [if_neg (by omega), if_neg (by omega), if_neg (by omega), if_pos hk1, z3]
      rw [e]
      exact ⟨rfl, fun w h => h.sup (by (repeat (first | exact Sup.refl | apply Sup.cons (by (repeat (first | exact Pick.head | apply Pick.tail | apply Pick.app))) | apply Sup.app | apply Sup.skip | apply Sup.skips)))⟩)
   | (have hk1 : r.kind = 5 := by omega
      obtain rfl : i = r.texts.length := by omega
      have e : lineR r = joinW (wInbox :: dig r.texts.length :: (r.texts.take r.texts.length).map quoT) := by unfold lineR printW; rw [if_neg (by omega), if_neg (by omega), if_neg (by omega), if_neg (by omega), if_pos hk1, numT_nat, List.take_length]
      rw [e]
      exact ⟨rfl, fun w h => h.sup (by (repeat (first | exact Sup.refl | apply Sup.cons (by (repeat (first | exact Pick.head | apply Pick.tail | apply Pick.app))) | apply Sup.app | apply Sup.skip | apply Sup.skips)))⟩)
   | (have hk1 : r.kind = 7 := by omega
      have e : lineR r = joinW [wStatus, dig r.out.toNat, dig r.acked.toNat, dig r.inn.toNat] := by unfold lineR printW; rw [if_neg (by omega), if_neg (by omega), if_neg (by omega), if_neg (by omega), if_neg (by omega), if_neg (by omega), if_pos hk1, a3, b3', c3']
      rw [e]
      exact ⟨rfl, fun w h => h.sup (by (repeat (first | exact Sup.refl | apply Sup.cons (by (repeat (first | exact Pick.head | apply Pick.tail | apply Pick.app))) | apply Sup.app | apply Sup.skip | apply Sup.skips)))⟩)
   | (have hk1 : r.kind = 8 := by omega
      have e : lineR r = joinW [wError, (wordF r.err).1] := by unfold lineR printW; rw [if_neg (by omega), if_neg (by omega), if_neg (by omega), if_neg (by omega), if_neg (by omega), if_neg (by omega), if_neg (by omega), if_pos hk1]
      rw [e]
      exact ⟨rfl, fun w h => h.sup (by (repeat (first | exact Sup.refl | apply Sup.cons (by (repeat (first | exact Pick.head | apply Pick.tail | apply Pick.app))) | apply Sup.app | apply Sup.skip | apply Sup.skips)))⟩)
 case' hf =>
  intro h
  try (first | (exfalso; omega) | (cases h; done) | (exfalso; simp at h; done) | subst h)
  all_goals
   refine J.seq (J.region (JL.step (y_eql rfl rfl) rfl rfl rfl (JL.step (y_assign rfl) rfl rfl rfl ?_)))
   refine JL.nil (JE.then_normal ?_)
   first | apply J.cond_dec rfl | apply J.cond rfl
   case' ht =>
    intro h
    try (first | (exfalso; omega) | (cases h; done) | (exfalso; simp at h; done) | subst h)
    all_goals
     refine J.seq (J.region (JL.step (y_assign rfl) rfl rfl rfl ?_))
     refine JL.nil (JE.then_normal (J.ret (JE.block_ret (JE.then_ret ?_))))
     refine JE.ret1 (.inl rfl) rfl rfl (by (first | exact RV.tmp rfl | exact RV.cell1 hT rfl rfl rfl (by (exact Rd1.row (by (repeat (first | exact Pick.head | apply Pick.tail | apply Pick.app))) (by rfl))) | exact RV.cellN hT rfl rfl rfl (by (first | exact RdN.rowAll (by (repeat (first | exact Pick.head | apply Pick.tail | apply Pick.app))) | exact RdN.own (by (repeat (first | exact Pick.head | apply Pick.tail | apply Pick.app))))) (by (first | rfl | assumption | (simp; done) | omega)))) ?_
     first
     | (have hk1 : r.kind = 1 := by omega
        have e : lineR r = wMe ++ 32 :: hexT r.key := by unfold lineR printW; rw [if_pos hk1, joinW_two, joinW_one]
        rw [e]
        exact ⟨rfl, fun w h => h.sup (by (repeat (first | exact Sup.refl | apply Sup.cons (by (repeat (first | exact Pick.head | apply Pick.tail | apply Pick.app))) | apply Sup.app | apply Sup.skip | apply Sup.skips)))⟩)
     | (have hk1 : r.kind = 2 := by omega
        have e : lineR r = wAdded := by unfold lineR printW; rw [if_neg (by omega), if_pos hk1, joinW_one]
        rw [e, kAd]
        exact ⟨rfl, fun w h => h.sup (by (repeat (first | exact Sup.refl | apply Sup.cons (by (repeat (first | exact Pick.head | apply Pick.tail | apply Pick.app))) | apply Sup.app | apply Sup.skip | apply Sup.skips)))⟩)
     | (have hk1 : r.kind = 6 := by omega
        have e : lineR r = wPurged := by unfold lineR printW; rw [if_neg (by omega), if_neg (by omega), if_neg (by omega), if_neg (by omega), if_neg (by omega), if_pos hk1, joinW_one]
        rw [e, kPu]
        exact ⟨rfl, fun w h => h.sup (by (repeat (first | exact Sup.refl | apply Sup.cons (by (repeat (first | exact Pick.head | apply Pick.tail | apply Pick.app))) | apply Sup.app | apply Sup.skip | apply Sup.skips)))⟩)
     | (have hk1 : r.kind = 3 := by omega
        obtain rfl : i = r.names.length := by omega
        have e : lineR r = joinW (wContacts :: dig r.names.length :: r.names.take r.names.length) := by unfold lineR printW; rw [if_neg (by omega), if_neg (by omega), if_pos hk1, numT_nat, List.take_length]
        rw [e]
        exact ⟨rfl, fun w h => h.sup (by (repeat (first | exact Sup.refl | apply Sup.cons (by (repeat (first | exact Pick.head | apply Pick.tail | apply Pick.app))) | apply Sup.app | apply Sup.skip | apply Sup.skips)))⟩)
     | (have hk1 : r.kind = 4 := by omega
        have e : lineR r = joinW [wQueued, dig r.seq.toNat] := by unfold lineR printW; rw [if_neg (by omega), if_neg (by omega), if_neg (by omega), if_pos hk1, z3]
        rw [e]
        exact ⟨rfl, fun w h => h.sup (by (repeat (first | exact Sup.refl | apply Sup.cons (by (repeat (first | exact Pick.head | apply Pick.tail | apply Pick.app))) | apply Sup.app | apply Sup.skip | apply Sup.skips)))⟩)
     | (have hk1 : r.kind = 5 := by omega
        obtain rfl : i = r.texts.length := by omega
        have e : lineR r = joinW (wInbox :: dig r.texts.length :: (r.texts.take r.texts.length).map quoT) := by unfold lineR printW; rw [if_neg (by omega), if_neg (by omega), if_neg (by omega), if_neg (by omega), if_pos hk1, numT_nat, List.take_length]
        rw [e]
        exact ⟨rfl, fun w h => h.sup (by (repeat (first | exact Sup.refl | apply Sup.cons (by (repeat (first | exact Pick.head | apply Pick.tail | apply Pick.app))) | apply Sup.app | apply Sup.skip | apply Sup.skips)))⟩)
     | (have hk1 : r.kind = 7 := by omega
        have e : lineR r = joinW [wStatus, dig r.out.toNat, dig r.acked.toNat, dig r.inn.toNat] := by unfold lineR printW; rw [if_neg (by omega), if_neg (by omega), if_neg (by omega), if_neg (by omega), if_neg (by omega), if_neg (by omega), if_pos hk1, a3, b3', c3']
        rw [e]
        exact ⟨rfl, fun w h => h.sup (by (repeat (first | exact Sup.refl | apply Sup.cons (by (repeat (first | exact Pick.head | apply Pick.tail | apply Pick.app))) | apply Sup.app | apply Sup.skip | apply Sup.skips)))⟩)
     | (have hk1 : r.kind = 8 := by omega
        have e : lineR r = joinW [wError, (wordF r.err).1] := by unfold lineR printW; rw [if_neg (by omega), if_neg (by omega), if_neg (by omega), if_neg (by omega), if_neg (by omega), if_neg (by omega), if_neg (by omega), if_pos hk1]
        rw [e]
        exact ⟨rfl, fun w h => h.sup (by (repeat (first | exact Sup.refl | apply Sup.cons (by (repeat (first | exact Pick.head | apply Pick.tail | apply Pick.app))) | apply Sup.app | apply Sup.skip | apply Sup.skips)))⟩)
   case' hf =>
    intro h
    try (first | (exfalso; omega) | (cases h; done) | (exfalso; simp at h; done) | subst h)
    all_goals
     refine J.seq (J.region (JL.step (y_eql rfl rfl) rfl rfl rfl (JL.step (y_assign rfl) rfl rfl rfl ?_)))
     refine JL.nil (JE.then_normal ?_)
     first | apply J.cond_dec rfl | apply J.cond rfl
     case' ht =>
      intro h
      try (first | (exfalso; omega) | (cases h; done) | (exfalso; simp at h; done) | subst h)
      all_goals
       refine J.seq (J.region (JL.step (y_assign rfl) rfl rfl rfl ?_))
       refine JL.nil (JE.then_normal (J.ret (JE.block_ret (JE.then_ret ?_))))
       refine JE.ret1 (.inl rfl) rfl rfl (by (first | exact RV.tmp rfl | exact RV.cell1 hT rfl rfl rfl (by (exact Rd1.row (by (repeat (first | exact Pick.head | apply Pick.tail | apply Pick.app))) (by rfl))) | exact RV.cellN hT rfl rfl rfl (by (first | exact RdN.rowAll (by (repeat (first | exact Pick.head | apply Pick.tail | apply Pick.app))) | exact RdN.own (by (repeat (first | exact Pick.head | apply Pick.tail | apply Pick.app))))) (by (first | rfl | assumption | (simp; done) | omega)))) ?_
       first
       | (have hk1 : r.kind = 1 := by omega
          have e : lineR r = wMe ++ 32 :: hexT r.key := by unfold lineR printW; rw [if_pos hk1, joinW_two, joinW_one]
          rw [e]
          exact ⟨rfl, fun w h => h.sup (by (repeat (first | exact Sup.refl | apply Sup.cons (by (repeat (first | exact Pick.head | apply Pick.tail | apply Pick.app))) | apply Sup.app | apply Sup.skip | apply Sup.skips)))⟩)
       | (have hk1 : r.kind = 2 := by omega
          have e : lineR r = wAdded := by unfold lineR printW; rw [if_neg (by omega), if_pos hk1, joinW_one]
          rw [e, kAd]
          exact ⟨rfl, fun w h => h.sup (by (repeat (first | exact Sup.refl | apply Sup.cons (by (repeat (first | exact Pick.head | apply Pick.tail | apply Pick.app))) | apply Sup.app | apply Sup.skip | apply Sup.skips)))⟩)
       | (have hk1 : r.kind = 6 := by omega
          have e : lineR r = wPurged := by unfold lineR printW; rw [if_neg (by omega), if_neg (by omega), if_neg (by omega), if_neg (by omega), if_neg (by omega), if_pos hk1, joinW_one]
          rw [e, kPu]
          exact ⟨rfl, fun w h => h.sup (by (repeat (first | exact Sup.refl | apply Sup.cons (by (repeat (first | exact Pick.head | apply Pick.tail | apply Pick.app))) | apply Sup.app | apply Sup.skip | apply Sup.skips)))⟩)
       | (have hk1 : r.kind = 3 := by omega
          obtain rfl : i = r.names.length := by omega
          have e : lineR r = joinW (wContacts :: dig r.names.length :: r.names.take r.names.length) := by unfold lineR printW; rw [if_neg (by omega), if_neg (by omega), if_pos hk1, numT_nat, List.take_length]
          rw [e]
          exact ⟨rfl, fun w h => h.sup (by (repeat (first | exact Sup.refl | apply Sup.cons (by (repeat (first | exact Pick.head | apply Pick.tail | apply Pick.app))) | apply Sup.app | apply Sup.skip | apply Sup.skips)))⟩)
       | (have hk1 : r.kind = 4 := by omega
          have e : lineR r = joinW [wQueued, dig r.seq.toNat] := by unfold lineR printW; rw [if_neg (by omega), if_neg (by omega), if_neg (by omega), if_pos hk1, z3]
          rw [e]
          exact ⟨rfl, fun w h => h.sup (by (repeat (first | exact Sup.refl | apply Sup.cons (by (repeat (first | exact Pick.head | apply Pick.tail | apply Pick.app))) | apply Sup.app | apply Sup.skip | apply Sup.skips)))⟩)
       | (have hk1 : r.kind = 5 := by omega
          obtain rfl : i = r.texts.length := by omega
          have e : lineR r = joinW (wInbox :: dig r.texts.length :: (r.texts.take r.texts.length).map quoT) := by unfold lineR printW; rw [if_neg (by omega), if_neg (by omega), if_neg (by omega), if_neg (by omega), if_pos hk1, numT_nat, List.take_length]
          rw [e]
          exact ⟨rfl, fun w h => h.sup (by (repeat (first | exact Sup.refl | apply Sup.cons (by (repeat (first | exact Pick.head | apply Pick.tail | apply Pick.app))) | apply Sup.app | apply Sup.skip | apply Sup.skips)))⟩)
       | (have hk1 : r.kind = 7 := by omega
          have e : lineR r = joinW [wStatus, dig r.out.toNat, dig r.acked.toNat, dig r.inn.toNat] := by unfold lineR printW; rw [if_neg (by omega), if_neg (by omega), if_neg (by omega), if_neg (by omega), if_neg (by omega), if_neg (by omega), if_pos hk1, a3, b3', c3']
          rw [e]
          exact ⟨rfl, fun w h => h.sup (by (repeat (first | exact Sup.refl | apply Sup.cons (by (repeat (first | exact Pick.head | apply Pick.tail | apply Pick.app))) | apply Sup.app | apply Sup.skip | apply Sup.skips)))⟩)
       | (have hk1 : r.kind = 8 := by omega
          have e : lineR r = joinW [wError, (wordF r.err).1] := by unfold lineR printW; rw [if_neg (by omega), if_neg (by omega), if_neg (by omega), if_neg (by omega), if_neg (by omega), if_neg (by omega), if_neg (by omega), if_pos hk1]
          rw [e]
          exact ⟨rfl, fun w h => h.sup (by (repeat (first | exact Sup.refl | apply Sup.cons (by (repeat (first | exact Pick.head | apply Pick.tail | apply Pick.app))) | apply Sup.app | apply Sup.skip | apply Sup.skips)))⟩)
     case' hf =>
      intro h
      try (first | (exfalso; omega) | (cases h; done) | (exfalso; simp at h; done) | subst h)
      all_goals
       refine J.seq (J.region (JL.step (y_eql rfl rfl) rfl rfl rfl (JL.step (y_assign rfl) rfl rfl rfl ?_)))
       refine JL.nil (JE.then_normal ?_)
       first | apply J.cond_dec rfl | apply J.cond rfl
       case' ht =>
        intro h
        try (first | (exfalso; omega) | (cases h; done) | (exfalso; simp at h; done) | subst h)
        all_goals
         refine J.seq (J.region (JL.step (y_fieldAddr hT rfl rfl rfl rfl rfl rfl) rfl rfl rfl ?_))
         refine JL.step (y_load1 hT rfl rfl rfl (Rd1.row (by (repeat (first | exact Pick.head | apply Pick.tail | apply Pick.app))) (hat 0))) rfl rfl rfl ?_
         refine JL.step (y_len_slice hT rfl rfl rfl) rfl rfl rfl ?_
         refine JL.loud rfl (l_callF e50 rfl rfl (rdigN_spec E r.names.length _ (by omega)) ?_)
         rintro _ _ ⟨rfl, rfl⟩
         refine JL.step (y_addS (xs := wContacts ++ [32]) (zs := joinW [wContacts, dig r.names.length]) (by rw [kCo]; rfl) rfl (by rw [joinW_two, joinW_one, List.append_assoc]; rfl) (by have : (wContacts ++ [32]).length = 9 := rfl; omega)) rfl rfl rfl ?_
         refine JL.step (y_assign rfl) rfl rfl rfl ?_
         refine JL.nil (JE.then_normal (J.seq (J.seq (J.region (JL.step (y_fieldAddr hT rfl rfl rfl rfl rfl rfl) rfl rfl rfl ?_)))))
         refine JL.step (y_load1 hT rfl rfl rfl (Rd1.row (by (repeat (first | exact Pick.head | apply Pick.tail | apply Pick.app))) (hat 0))) rfl rfl rfl ?_
         refine JL.step (y_len_slice hT rfl rfl rfl) rfl rfl rfl (JL.step (y_move rfl) rfl rfl rfl ?_)
         refine JL.nil (JE.then_normal (J.block ?_))
         refine J.loop (α := Nat) (fun i => i ≤ r.names.length) (fun i => [(1, .pointer (some ⟨b1, 0, none⟩)), (3, .string (strOf (joinW (wContacts :: dig r.names.length :: r.names.take i)))), (31, .slice p1 r.names.length c1), (32, .int .i64 r.names.length), (33, .int .i64 i)]) (fun _ => row b1 36 cs :: l) (fun i => r.names.length - i) 0 (Nat.zero_le _) ⟨rfl, rfl, rfl, rfl, rfl, trivial⟩ (fun w h => h) ?_
         intro i hi
         try dsimp only
         have hjl := joinW_le (m := 1000) (ws := wContacts :: dig r.names.length :: r.names.take i) (fun w hw => by
          rcases List.mem_cons.1 hw with rfl | hw
          · exact Nat.le_of_ble_eq_true rfl
          · rcases List.mem_cons.1 hw with rfl | hw
            · omega
            · exact (hr.nb w (List.mem_of_mem_take hw)).2)
         rw [List.length_cons, List.length_cons, List.length_take] at hjl
         refine J.seq (J.region (JL.step (y_lss rfl rfl) rfl rfl rfl ?_))
         refine JL.nil (JE.then_normal (J.seq ?_))
         first | apply J.cond_dec rfl | apply J.cond rfl
         case' ht =>
          intro h
          try (first | (exfalso; omega) | (cases h; done) | (exfalso; simp at h; done) | subst h)
          all_goals
           refine J.skip ?_
         case' hf =>
          intro h
          try (first | (exfalso; omega) | (cases h; done) | (exfalso; simp at h; done) | subst h)
          all_goals
           refine J.exit (JE.then_exit (JE.then_exit (JE.block_exit (JE.then_normal (J.seq (J.region (JL.step (y_move rfl) rfl rfl rfl (JL.step (y_assign rfl) rfl rfl rfl ?_))))))))
           refine JL.nil (JE.then_normal (J.ret (JE.block_ret (JE.then_ret ?_))))
           refine JE.ret1 (.inl rfl) rfl rfl (by (first | exact RV.tmp rfl | exact RV.cell1 hT rfl rfl rfl (by (exact Rd1.row (by (repeat (first | exact Pick.head | apply Pick.tail | apply Pick.app))) (by rfl))) | exact RV.cellN hT rfl rfl rfl (by (first | exact RdN.rowAll (by (repeat (first | exact Pick.head | apply Pick.tail | apply Pick.app))) | exact RdN.own (by (repeat (first | exact Pick.head | apply Pick.tail | apply Pick.app))))) (by (first | rfl | assumption | (simp; done) | omega)))) ?_
           first
           | (have hk1 : r.kind = 1 := by omega
              have e : lineR r = wMe ++ 32 :: hexT r.key := by unfold lineR printW; rw [if_pos hk1, joinW_two, joinW_one]
              rw [e]
              exact ⟨rfl, fun w h => h.sup (by (repeat (first | exact Sup.refl | apply Sup.cons (by (repeat (first | exact Pick.head | apply Pick.tail | apply Pick.app))) | apply Sup.app | apply Sup.skip | apply Sup.skips)))⟩)
           | (have hk1 : r.kind = 2 := by omega
              have e : lineR r = wAdded := by unfold lineR printW; rw [if_neg (by omega), if_pos hk1, joinW_one]
              rw [e, kAd]
              exact ⟨rfl, fun w h => h.sup (by (repeat (first | exact Sup.refl | apply Sup.cons (by (repeat (first | exact Pick.head | apply Pick.tail | apply Pick.app))) | apply Sup.app | apply Sup.skip | apply Sup.skips)))⟩)
           | (have hk1 : r.kind = 6 := by omega
              have e : lineR r = wPurged := by unfold lineR printW; rw [if_neg (by omega), if_neg (by omega), if_neg (by omega), if_neg (by omega), if_neg (by omega), if_pos hk1, joinW_one]
              rw [e, kPu]
              exact ⟨rfl, fun w h => h.sup (by (repeat (first | exact Sup.refl | apply Sup.cons (by (repeat (first | exact Pick.head | apply Pick.tail | apply Pick.app))) | apply Sup.app | apply Sup.skip | apply Sup.skips)))⟩)
           | (have hk1 : r.kind = 3 := by omega
              obtain rfl : i = r.names.length := by omega
              have e : lineR r = joinW (wContacts :: dig r.names.length :: r.names.take r.names.length) := by unfold lineR printW; rw [if_neg (by omega), if_neg (by omega), if_pos hk1, numT_nat, List.take_length]
              rw [e]
              exact ⟨rfl, fun w h => h.sup (by (repeat (first | exact Sup.refl | apply Sup.cons (by (repeat (first | exact Pick.head | apply Pick.tail | apply Pick.app))) | apply Sup.app | apply Sup.skip | apply Sup.skips)))⟩)
           | (have hk1 : r.kind = 4 := by omega
              have e : lineR r = joinW [wQueued, dig r.seq.toNat] := by unfold lineR printW; rw [if_neg (by omega), if_neg (by omega), if_neg (by omega), if_pos hk1, z3]
              rw [e]
              exact ⟨rfl, fun w h => h.sup (by (repeat (first | exact Sup.refl | apply Sup.cons (by (repeat (first | exact Pick.head | apply Pick.tail | apply Pick.app))) | apply Sup.app | apply Sup.skip | apply Sup.skips)))⟩)
           | (have hk1 : r.kind = 5 := by omega
              obtain rfl : i = r.texts.length := by omega
              have e : lineR r = joinW (wInbox :: dig r.texts.length :: (r.texts.take r.texts.length).map quoT) := by unfold lineR printW; rw [if_neg (by omega), if_neg (by omega), if_neg (by omega), if_neg (by omega), if_pos hk1, numT_nat, List.take_length]
              rw [e]
              exact ⟨rfl, fun w h => h.sup (by (repeat (first | exact Sup.refl | apply Sup.cons (by (repeat (first | exact Pick.head | apply Pick.tail | apply Pick.app))) | apply Sup.app | apply Sup.skip | apply Sup.skips)))⟩)
           | (have hk1 : r.kind = 7 := by omega
              have e : lineR r = joinW [wStatus, dig r.out.toNat, dig r.acked.toNat, dig r.inn.toNat] := by unfold lineR printW; rw [if_neg (by omega), if_neg (by omega), if_neg (by omega), if_neg (by omega), if_neg (by omega), if_neg (by omega), if_pos hk1, a3, b3', c3']
              rw [e]
              exact ⟨rfl, fun w h => h.sup (by (repeat (first | exact Sup.refl | apply Sup.cons (by (repeat (first | exact Pick.head | apply Pick.tail | apply Pick.app))) | apply Sup.app | apply Sup.skip | apply Sup.skips)))⟩)
           | (have hk1 : r.kind = 8 := by omega
              have e : lineR r = joinW [wError, (wordF r.err).1] := by unfold lineR printW; rw [if_neg (by omega), if_neg (by omega), if_neg (by omega), if_neg (by omega), if_neg (by omega), if_neg (by omega), if_neg (by omega), if_pos hk1]
              rw [e]
              exact ⟨rfl, fun w h => h.sup (by (repeat (first | exact Sup.refl | apply Sup.cons (by (repeat (first | exact Pick.head | apply Pick.tail | apply Pick.app))) | apply Sup.app | apply Sup.skip | apply Sup.skips)))⟩)
         all_goals refine JE.then_normal ?_
         all_goals
          refine J.seq (J.block (J.seq ?_))
          have hlt : i < r.names.length := by omega
          obtain ⟨x, hx⟩ : ∃ x, r.names[i]? = some x := ⟨r.names[i]'(by omega), List.getElem?_eq_getElem _⟩
          obtain ⟨g1, o1, rfl, hrd1⟩ := h1.addr (by omega)
          have hxl := (hr.nb x (List.mem_of_getElem? hx)).2
          refine J.region ?_
          refine JL.step (y_indexAddr_slice hT rfl rfl rfl rfl rfl (by (first | omega | exact Nat.le_of_ble_eq_true rfl | decide | (simp; omega))) (by (first | omega | exact Nat.le_of_ble_eq_true rfl | decide | (simp; omega)))) rfl rfl rfl ?_
          refine JL.step (y_load1 hT rfl rfl rfl (Rd1.elem (i := i) (v := .string (strOf x)) ((hrd1 []).cons _) (strs_at hx))) rfl rfl rfl ?_
          refine JL.step (y_assign rfl) rfl rfl rfl ?_
          refine JL.nil (JE.then_normal (J.region (JL.step (y_move rfl) rfl rfl rfl (JL.step (y_move rfl) rfl rfl rfl ?_))))
          refine JL.step (y_addS (xs := [32]) (zs := 32 :: x) (by rw [kS]; rfl) rfl rfl (by rw [List.length_singleton]; omega)) rfl rfl rfl ?_
          refine JL.step (y_addS (zs := joinW (wContacts :: dig r.names.length :: r.names.take (i + 1))) rfl rfl (by rw [List.take_add_one, hx, Option.toList_some, ← List.cons_append, joinW_snoc]) (by rw [List.length_cons]; omega)) rfl rfl rfl ?_
          refine JL.step (y_assign rfl) rfl rfl rfl ?_
          refine JL.nil (JE.block_normal (JE.then_normal (J.region ?_)))
          refine JL.step (y_add rfl rfl (by (first | exact wrap_i64 (by omega) (by omega) | rfl))) rfl rfl rfl ?_
          refine JL.step (y_move rfl) rfl rfl rfl ?_
          refine JL.nil ?_
         all_goals
          exact JE.round (s := i) (i + 1) (by omega) ⟨rfl, rfl, rfl, rfl, rfl, trivial⟩ (fun w h => h) (by omega)
       case' hf =>
        intro h
        try (first | (exfalso; omega) | (cases h; done) | (exfalso; simp at h; done) | subst h)
        all_goals
         refine J.seq (J.region (JL.step (y_eql rfl rfl) rfl rfl rfl (JL.step (y_assign rfl) rfl rfl rfl ?_)))
         refine JL.nil (JE.then_normal ?_)
         first | apply J.cond_dec rfl | apply J.cond rfl
         case' ht =>
          intro h
          try (first | (exfalso; omega) | (cases h; done) | (exfalso; simp at h; done) | subst h)
          all_goals
           refine J.seq ?_
           have hok := (right_4 (by omega) hri).2
           obtain ⟨z1, z2, z3⟩ := okN_nat hok
           have hdz := dig_le (u := r.seq.toNat) (k := 19) (by omega) (by decide)
           refine J.region (JL.step (y_fieldAddr hT rfl rfl rfl rfl rfl rfl) rfl rfl rfl ?_)
           refine JL.step (v := .int .i64 ((r.seq.toNat : Nat) : Int)) (y_load1 hT rfl rfl rfl (Rd1.row (by (repeat (first | exact Pick.head | apply Pick.tail | apply Pick.app))) (z1 ▸ hat 2))) rfl rfl rfl ?_
           refine JL.loud rfl (l_callF e50 rfl rfl (rdigN_spec E r.seq.toNat _ (by omega)) ?_)
           rintro _ _ ⟨rfl, rfl⟩
           refine JL.step (y_addS (xs := wQueued ++ [32]) (zs := joinW [wQueued, dig r.seq.toNat]) (by rw [kQu]; rfl) rfl (by rw [joinW_two, joinW_one, List.append_assoc]; rfl) (by have : (wQueued ++ [32]).length = 7 := rfl; omega)) rfl rfl rfl ?_
           refine JL.step (y_assign rfl) rfl rfl rfl ?_
           refine JL.nil (JE.then_normal (J.ret (JE.block_ret (JE.then_ret ?_))))
           refine JE.ret1 (.inl rfl) rfl rfl (by (first | exact RV.tmp rfl | exact RV.cell1 hT rfl rfl rfl (by (exact Rd1.row (by (repeat (first | exact Pick.head | apply Pick.tail | apply Pick.app))) (by rfl))) | exact RV.cellN hT rfl rfl rfl (by (first | exact RdN.rowAll (by (repeat (first | exact Pick.head | apply Pick.tail | apply Pick.app))) | exact RdN.own (by (repeat (first | exact Pick.head | apply Pick.tail | apply Pick.app))))) (by (first | rfl | assumption | (simp; done) | omega)))) ?_
           first
           | (have hk1 : r.kind = 1 := by omega
              have e : lineR r = wMe ++ 32 :: hexT r.key := by unfold lineR printW; rw [if_pos hk1, joinW_two, joinW_one]
              rw [e]
              exact ⟨rfl, fun w h => h.sup (by (repeat (first | exact Sup.refl | apply Sup.cons (by (repeat (first | exact Pick.head | apply Pick.tail | apply Pick.app))) | apply Sup.app | apply Sup.skip | apply Sup.skips)))⟩)
           | (have hk1 : r.kind = 2 := by omega
              have e : lineR r = wAdded := by unfold lineR printW; rw [if_neg (by omega), if_pos hk1, joinW_one]
              rw [e, kAd]
              exact ⟨rfl, fun w h => h.sup (by (repeat (first | exact Sup.refl | apply Sup.cons (by (repeat (first | exact Pick.head | apply Pick.tail | apply Pick.app))) | apply Sup.app | apply Sup.skip | apply Sup.skips)))⟩)
           | (have hk1 : r.kind = 6 := by omega
              have e : lineR r = wPurged := by unfold lineR printW; rw [if_neg (by omega), if_neg (by omega), if_neg (by omega), if_neg (by omega), if_neg (by omega), if_pos hk1, joinW_one]
              rw [e, kPu]
              exact ⟨rfl, fun w h => h.sup (by (repeat (first | exact Sup.refl | apply Sup.cons (by (repeat (first | exact Pick.head | apply Pick.tail | apply Pick.app))) | apply Sup.app | apply Sup.skip | apply Sup.skips)))⟩)
           | (have hk1 : r.kind = 3 := by omega
              obtain rfl : i = r.names.length := by omega
              have e : lineR r = joinW (wContacts :: dig r.names.length :: r.names.take r.names.length) := by unfold lineR printW; rw [if_neg (by omega), if_neg (by omega), if_pos hk1, numT_nat, List.take_length]
              rw [e]
              exact ⟨rfl, fun w h => h.sup (by (repeat (first | exact Sup.refl | apply Sup.cons (by (repeat (first | exact Pick.head | apply Pick.tail | apply Pick.app))) | apply Sup.app | apply Sup.skip | apply Sup.skips)))⟩)
           | (have hk1 : r.kind = 4 := by omega
              have e : lineR r = joinW [wQueued, dig r.seq.toNat] := by unfold lineR printW; rw [if_neg (by omega), if_neg (by omega), if_neg (by omega), if_pos hk1, z3]
              rw [e]
              exact ⟨rfl, fun w h => h.sup (by (repeat (first | exact Sup.refl | apply Sup.cons (by (repeat (first | exact Pick.head | apply Pick.tail | apply Pick.app))) | apply Sup.app | apply Sup.skip | apply Sup.skips)))⟩)
           | (have hk1 : r.kind = 5 := by omega
              obtain rfl : i = r.texts.length := by omega
              have e : lineR r = joinW (wInbox :: dig r.texts.length :: (r.texts.take r.texts.length).map quoT) := by unfold lineR printW; rw [if_neg (by omega), if_neg (by omega), if_neg (by omega), if_neg (by omega), if_pos hk1, numT_nat, List.take_length]
              rw [e]
              exact ⟨rfl, fun w h => h.sup (by (repeat (first | exact Sup.refl | apply Sup.cons (by (repeat (first | exact Pick.head | apply Pick.tail | apply Pick.app))) | apply Sup.app | apply Sup.skip | apply Sup.skips)))⟩)
           | (have hk1 : r.kind = 7 := by omega
              have e : lineR r = joinW [wStatus, dig r.out.toNat, dig r.acked.toNat, dig r.inn.toNat] := by unfold lineR printW; rw [if_neg (by omega), if_neg (by omega), if_neg (by omega), if_neg (by omega), if_neg (by omega), if_neg (by omega), if_pos hk1, a3, b3', c3']
              rw [e]
              exact ⟨rfl, fun w h => h.sup (by (repeat (first | exact Sup.refl | apply Sup.cons (by (repeat (first | exact Pick.head | apply Pick.tail | apply Pick.app))) | apply Sup.app | apply Sup.skip | apply Sup.skips)))⟩)
           | (have hk1 : r.kind = 8 := by omega
              have e : lineR r = joinW [wError, (wordF r.err).1] := by unfold lineR printW; rw [if_neg (by omega), if_neg (by omega), if_neg (by omega), if_neg (by omega), if_neg (by omega), if_neg (by omega), if_neg (by omega), if_pos hk1]
              rw [e]
              exact ⟨rfl, fun w h => h.sup (by (repeat (first | exact Sup.refl | apply Sup.cons (by (repeat (first | exact Pick.head | apply Pick.tail | apply Pick.app))) | apply Sup.app | apply Sup.skip | apply Sup.skips)))⟩)
         case' hf =>
          intro h
          try (first | (exfalso; omega) | (cases h; done) | (exfalso; simp at h; done) | subst h)
          all_goals
           refine J.seq (J.region (JL.step (y_eql rfl rfl) rfl rfl rfl (JL.step (y_assign rfl) rfl rfl rfl ?_)))
           refine JL.nil (JE.then_normal ?_)
           first | apply J.cond_dec rfl | apply J.cond rfl
           case' ht =>
            intro h
            try (first | (exfalso; omega) | (cases h; done) | (exfalso; simp at h; done) | subst h)
            all_goals
             refine J.seq (J.region (JL.step (y_fieldAddr hT rfl rfl rfl rfl rfl rfl) rfl rfl rfl ?_))
             refine JL.step (y_load1 hT rfl rfl rfl (Rd1.row (by (repeat (first | exact Pick.head | apply Pick.tail | apply Pick.app))) (hat 1))) rfl rfl rfl ?_
             refine JL.step (y_len_slice hT rfl rfl rfl) rfl rfl rfl ?_
             refine JL.loud rfl (l_callF e50 rfl rfl (rdigN_spec E r.texts.length _ (by omega)) ?_)
             rintro _ _ ⟨rfl, rfl⟩
             refine JL.step (y_addS (xs := wInbox ++ [32]) (zs := joinW [wInbox, dig r.texts.length]) (by rw [kIn]; rfl) rfl (by rw [joinW_two, joinW_one, List.append_assoc]; rfl) (by have : (wInbox ++ [32]).length = 6 := rfl; omega)) rfl rfl rfl ?_
             refine JL.step (y_assign rfl) rfl rfl rfl ?_
             refine JL.nil (JE.then_normal (J.seq (J.seq (J.region (JL.step (y_fieldAddr hT rfl rfl rfl rfl rfl rfl) rfl rfl rfl ?_)))))
             refine JL.step (y_load1 hT rfl rfl rfl (Rd1.row (by (repeat (first | exact Pick.head | apply Pick.tail | apply Pick.app))) (hat 1))) rfl rfl rfl ?_
             refine JL.step (y_len_slice hT rfl rfl rfl) rfl rfl rfl (JL.step (y_move rfl) rfl rfl rfl ?_)
             refine JL.nil (JE.then_normal (J.block ?_))
             refine J.loop (α := Nat) (fun i => i ≤ r.texts.length) (fun i => [(1, .pointer (some ⟨b1, 0, none⟩)), (6, .string (strOf (joinW (wInbox :: dig r.texts.length :: (r.texts.take i).map quoT)))), (57, .slice p2 r.texts.length c2), (58, .int .i64 r.texts.length), (59, .int .i64 i)]) (fun _ => row b1 36 cs :: l) (fun i => r.texts.length - i) 0 (Nat.zero_le _) ⟨rfl, rfl, rfl, rfl, rfl, trivial⟩ (fun w h => h) ?_
             intro i hi
             try dsimp only
             have hjl := joinW_le (m := 3000) (ws := wInbox :: dig r.texts.length :: (r.texts.take i).map quoT) (fun w hw => by
              rcases List.mem_cons.1 hw with rfl | hw
              · exact Nat.le_of_ble_eq_true rfl
              · rcases List.mem_cons.1 hw with rfl | hw
                · omega
                · obtain ⟨t, ht, rfl⟩ := List.mem_map.1 hw
                  have h1 := (hr.tb t (List.mem_of_mem_take ht)).2
                  have h2 := quoT_length t
                  omega)
             rw [List.length_cons, List.length_cons, List.length_map, List.length_take] at hjl
             refine J.seq (J.region (JL.step (y_lss rfl rfl) rfl rfl rfl ?_))
             refine JL.nil (JE.then_normal (J.seq ?_))
             first | apply J.cond_dec rfl | apply J.cond rfl
             case' ht =>
              intro h
              try (first | (exfalso; omega) | (cases h; done) | (exfalso; simp at h; done) | subst h)
              all_goals
               refine J.skip ?_
             case' hf =>
              intro h
              try (first | (exfalso; omega) | (cases h; done) | (exfalso; simp at h; done) | subst h)
              all_goals
               refine J.exit (JE.then_exit (JE.then_exit (JE.block_exit (JE.then_normal (J.seq (J.region (JL.step (y_move rfl) rfl rfl rfl (JL.step (y_assign rfl) rfl rfl rfl ?_))))))))
               refine JL.nil (JE.then_normal (J.ret (JE.block_ret (JE.then_ret ?_))))
               refine JE.ret1 (.inl rfl) rfl rfl (by (first | exact RV.tmp rfl | exact RV.cell1 hT rfl rfl rfl (by (exact Rd1.row (by (repeat (first | exact Pick.head | apply Pick.tail | apply Pick.app))) (by rfl))) | exact RV.cellN hT rfl rfl rfl (by (first | exact RdN.rowAll (by (repeat (first | exact Pick.head | apply Pick.tail | apply Pick.app))) | exact RdN.own (by (repeat (first | exact Pick.head | apply Pick.tail | apply Pick.app))))) (by (first | rfl | assumption | (simp; done) | omega)))) ?_
               first
               | (have hk1 : r.kind = 1 := by omega
                  have e : lineR r = wMe ++ 32 :: hexT r.key := by unfold lineR printW; rw [if_pos hk1, joinW_two, joinW_one]
                  rw [e]
                  exact ⟨rfl, fun w h => h.sup (by (repeat (first | exact Sup.refl | apply Sup.cons (by (repeat (first | exact Pick.head | apply Pick.tail | apply Pick.app))) | apply Sup.app | apply Sup.skip | apply Sup.skips)))⟩)
               | (have hk1 : r.kind = 2 := by omega
                  have e : lineR r = wAdded := by unfold lineR printW; rw [if_neg (by omega), if_pos hk1, joinW_one]
                  rw [e, kAd]
                  exact ⟨rfl, fun w h => h.sup (by (repeat (first | exact Sup.refl | apply Sup.cons (by (repeat (first | exact Pick.head | apply Pick.tail | apply Pick.app))) | apply Sup.app | apply Sup.skip | apply Sup.skips)))⟩)
               | (have hk1 : r.kind = 6 := by omega
                  have e : lineR r = wPurged := by unfold lineR printW; rw [if_neg (by omega), if_neg (by omega), if_neg (by omega), if_neg (by omega), if_neg (by omega), if_pos hk1, joinW_one]
                  rw [e, kPu]
                  exact ⟨rfl, fun w h => h.sup (by (repeat (first | exact Sup.refl | apply Sup.cons (by (repeat (first | exact Pick.head | apply Pick.tail | apply Pick.app))) | apply Sup.app | apply Sup.skip | apply Sup.skips)))⟩)
               | (have hk1 : r.kind = 3 := by omega
                  obtain rfl : i = r.names.length := by omega
                  have e : lineR r = joinW (wContacts :: dig r.names.length :: r.names.take r.names.length) := by unfold lineR printW; rw [if_neg (by omega), if_neg (by omega), if_pos hk1, numT_nat, List.take_length]
                  rw [e]
                  exact ⟨rfl, fun w h => h.sup (by (repeat (first | exact Sup.refl | apply Sup.cons (by (repeat (first | exact Pick.head | apply Pick.tail | apply Pick.app))) | apply Sup.app | apply Sup.skip | apply Sup.skips)))⟩)
               | (have hk1 : r.kind = 4 := by omega
                  have e : lineR r = joinW [wQueued, dig r.seq.toNat] := by unfold lineR printW; rw [if_neg (by omega), if_neg (by omega), if_neg (by omega), if_pos hk1, z3]
                  rw [e]
                  exact ⟨rfl, fun w h => h.sup (by (repeat (first | exact Sup.refl | apply Sup.cons (by (repeat (first | exact Pick.head | apply Pick.tail | apply Pick.app))) | apply Sup.app | apply Sup.skip | apply Sup.skips)))⟩)
               | (have hk1 : r.kind = 5 := by omega
                  obtain rfl : i = r.texts.length := by omega
                  have e : lineR r = joinW (wInbox :: dig r.texts.length :: (r.texts.take r.texts.length).map quoT) := by unfold lineR printW; rw [if_neg (by omega), if_neg (by omega), if_neg (by omega), if_neg (by omega), if_pos hk1, numT_nat, List.take_length]
                  rw [e]
                  exact ⟨rfl, fun w h => h.sup (by (repeat (first | exact Sup.refl | apply Sup.cons (by (repeat (first | exact Pick.head | apply Pick.tail | apply Pick.app))) | apply Sup.app | apply Sup.skip | apply Sup.skips)))⟩)
               | (have hk1 : r.kind = 7 := by omega
                  have e : lineR r = joinW [wStatus, dig r.out.toNat, dig r.acked.toNat, dig r.inn.toNat] := by unfold lineR printW; rw [if_neg (by omega), if_neg (by omega), if_neg (by omega), if_neg (by omega), if_neg (by omega), if_neg (by omega), if_pos hk1, a3, b3', c3']
                  rw [e]
                  exact ⟨rfl, fun w h => h.sup (by (repeat (first | exact Sup.refl | apply Sup.cons (by (repeat (first | exact Pick.head | apply Pick.tail | apply Pick.app))) | apply Sup.app | apply Sup.skip | apply Sup.skips)))⟩)
               | (have hk1 : r.kind = 8 := by omega
                  have e : lineR r = joinW [wError, (wordF r.err).1] := by unfold lineR printW; rw [if_neg (by omega), if_neg (by omega), if_neg (by omega), if_neg (by omega), if_neg (by omega), if_neg (by omega), if_neg (by omega), if_pos hk1]
                  rw [e]
                  exact ⟨rfl, fun w h => h.sup (by (repeat (first | exact Sup.refl | apply Sup.cons (by (repeat (first | exact Pick.head | apply Pick.tail | apply Pick.app))) | apply Sup.app | apply Sup.skip | apply Sup.skips)))⟩)
             all_goals refine JE.then_normal ?_
             all_goals
              refine J.seq (J.block (J.seq ?_))
              have hlt : i < r.texts.length := by omega
              obtain ⟨x, hx⟩ : ∃ x, r.texts[i]? = some x := ⟨r.texts[i]'(by omega), List.getElem?_eq_getElem _⟩
              obtain ⟨g1, o1, rfl, hrd1⟩ := h2.addr (by omega)
              have hxl := (hr.tb x (List.mem_of_getElem? hx)).2
              have hql := quoT_length x
              refine J.region ?_
              refine JL.step (y_indexAddr_slice hT rfl rfl rfl rfl rfl (by (first | omega | exact Nat.le_of_ble_eq_true rfl | decide | (simp; omega))) (by (first | omega | exact Nat.le_of_ble_eq_true rfl | decide | (simp; omega)))) rfl rfl rfl ?_
              refine JL.step (y_load1 hT rfl rfl rfl (Rd1.elem (i := i) (v := .string (strOf x)) ((hrd1 []).cons _) (strs_at hx))) rfl rfl rfl ?_
              refine JL.step (y_assign rfl) rfl rfl rfl ?_
              refine JL.nil (JE.then_normal (J.region (JL.step (y_move rfl) rfl rfl rfl (JL.step (y_move rfl) rfl rfl rfl ?_))))
              refine JL.loud rfl (l_callF e26 rfl rfl (rquote_spec E x _ (hr.tb x (List.mem_of_getElem? hx)).1 (by omega)) ?_)
              rintro _ _ ⟨rfl, rfl⟩
              refine JL.step (y_addS (xs := [32]) (zs := 32 :: quoT x) (by rw [kS]; rfl) rfl rfl (by rw [List.length_singleton]; omega)) rfl rfl rfl ?_
              refine JL.step (y_addS (zs := joinW (wInbox :: dig r.texts.length :: (r.texts.take (i + 1)).map quoT)) rfl rfl (by rw [List.take_add_one, hx, Option.toList_some, List.map_append, List.map_cons, List.map_nil, ← List.cons_append, joinW_snoc]) (by rw [List.length_cons]; omega)) rfl rfl rfl ?_
              refine JL.step (y_assign rfl) rfl rfl rfl ?_
              refine JL.nil (JE.block_normal (JE.then_normal (J.region ?_)))
              refine JL.step (y_add rfl rfl (by (first | exact wrap_i64 (by omega) (by omega) | rfl))) rfl rfl rfl ?_
              refine JL.step (y_move rfl) rfl rfl rfl ?_
              refine JL.nil ?_
             all_goals
              exact JE.round (s := i) (i + 1) (by omega) ⟨rfl, rfl, rfl, rfl, rfl, trivial⟩ (fun w h => h) (by omega)
           case' hf =>
            intro h
            try (first | (exfalso; omega) | (cases h; done) | (exfalso; simp at h; done) | subst h)
            all_goals
             refine J.seq (J.region (JL.step (y_eql rfl rfl) rfl rfl rfl (JL.step (y_assign rfl) rfl rfl rfl ?_)))
             refine JL.nil (JE.then_normal ?_)
             first | apply J.cond_dec rfl | apply J.cond rfl
             case' ht =>
              intro h
              try (first | (exfalso; omega) | (cases h; done) | (exfalso; simp at h; done) | subst h)
              all_goals
               refine J.seq ?_
               obtain ⟨_, hoa, hob, hoc⟩ := right_7 (by omega) hri
               obtain ⟨a1, a2, a3⟩ := okN_nat hoa
               obtain ⟨b1', b2', b3'⟩ := okN_nat hob
               obtain ⟨c1', c2', c3'⟩ := okN_nat hoc
               have hda := dig_le (u := r.out.toNat) (k := 19) (by omega) (by decide)
               have hdb := dig_le (u := r.acked.toNat) (k := 19) (by omega) (by decide)
               have hdc := dig_le (u := r.inn.toNat) (k := 19) (by omega) (by decide)
               have h7 : (wStatus ++ [32]).length = 7 := rfl
               refine J.draw _ _ [(0, .q), (1, .q), (2, .q), (3, .q), (4, .q), (5, .q), (6, .q), (7, .q), (8, .q), (9, .q), (10, .q), (11, .q), (12, .q), (13, .q), (14, .q)] mixed (by kernel_rfl) (Split.nil) ?_
               refine JM.quiet rfl rfl rfl rfl (fun m => y_fieldAddr hT rfl rfl rfl rfl rfl rfl) ?_
               refine JM.quiet rfl rfl rfl rfl (fun m => y_load1 (v := .int .i64 ((r.out.toNat : Nat) : Int)) hT rfl rfl rfl (Rd1.row (Pick.app m (by (repeat (first | exact Pick.head | apply Pick.tail | apply Pick.app)))) (a1 ▸ hat 3))) ?_
               refine JM.quiet rfl rfl rfl rfl (fun m => y_callF e50 rfl (rdigN_spec E r.out.toNat _ (by omega))) ?_
               refine JM.quiet rfl rfl rfl rfl (fun m => y_addS (xs := wStatus ++ [32]) (zs := joinW [wStatus, dig r.out.toNat]) (by rw [kSt]; rfl) rfl (by rw [joinW_two, joinW_one, List.append_assoc]; rfl) (by omega)) ?_
               refine JM.quiet rfl rfl rfl rfl (fun m => y_addS (ys := [32]) (zs := joinW [wStatus, dig r.out.toNat] ++ [32]) rfl (by rw [kS]; rfl) rfl (by rw [joinW_two, joinW_one, List.length_append, List.length_cons, List.length_singleton]; have : wStatus.length = 6 := rfl; omega)) ?_
               refine JM.quiet rfl rfl rfl rfl (fun m => y_fieldAddr hT rfl rfl rfl rfl rfl rfl) ?_
               refine JM.quiet rfl rfl rfl rfl (fun m => y_load1 (v := .int .i64 ((r.acked.toNat : Nat) : Int)) hT rfl rfl rfl (Rd1.row (Pick.app m (by (repeat (first | exact Pick.head | apply Pick.tail | apply Pick.app)))) (b1' ▸ hat 4))) ?_
               refine JM.quiet rfl rfl rfl rfl (fun m => y_callF e50 rfl (rdigN_spec E r.acked.toNat _ (by omega))) ?_
               refine JM.quiet rfl rfl rfl rfl (fun m => y_addS (zs := joinW [wStatus, dig r.out.toNat, dig r.acked.toNat]) rfl rfl (by simp [joinW]) (by rw [joinW_two, joinW_one, List.length_append, List.length_append, List.length_cons, List.length_singleton]; have : wStatus.length = 6 := rfl; omega)) ?_
               refine JM.quiet rfl rfl rfl rfl (fun m => y_addS (ys := [32]) (zs := joinW [wStatus, dig r.out.toNat, dig r.acked.toNat] ++ [32]) rfl (by rw [kS]; rfl) rfl (by rw [joinW_two, joinW_two, joinW_one, List.length_append, List.length_cons, List.length_append, List.length_cons, List.length_singleton]; have : wStatus.length = 6 := rfl; omega)) ?_
               refine JM.quiet rfl rfl rfl rfl (fun m => y_fieldAddr hT rfl rfl rfl rfl rfl rfl) ?_
               refine JM.quiet rfl rfl rfl rfl (fun m => y_load1 (v := .int .i64 ((r.inn.toNat : Nat) : Int)) hT rfl rfl rfl (Rd1.row (Pick.app m (by (repeat (first | exact Pick.head | apply Pick.tail | apply Pick.app)))) (c1' ▸ hat 5))) ?_
               refine JM.quiet rfl rfl rfl rfl (fun m => y_callF e50 rfl (rdigN_spec E r.inn.toNat _ (by omega))) ?_
               refine JM.quiet rfl rfl rfl rfl (fun m => y_addS (zs := joinW [wStatus, dig r.out.toNat, dig r.acked.toNat, dig r.inn.toNat]) rfl rfl (by simp [joinW]) (by rw [joinW_two, joinW_two, joinW_one, List.length_append, List.length_append, List.length_cons, List.length_append, List.length_cons, List.length_singleton]; have : wStatus.length = 6 := rfl; omega)) ?_
               refine JM.quiet rfl rfl rfl rfl (fun m => y_assign rfl) ?_
               refine JM.nil (JE.then_normal (J.ret (JE.block_ret (JE.then_ret ?_))))
               refine JE.ret1 (.inl rfl) rfl rfl (by (first | exact RV.tmp rfl | exact RV.cell1 hT rfl rfl rfl (by (exact Rd1.row (by (repeat (first | exact Pick.head | apply Pick.tail | apply Pick.app))) (by rfl))) | exact RV.cellN hT rfl rfl rfl (by (first | exact RdN.rowAll (by (repeat (first | exact Pick.head | apply Pick.tail | apply Pick.app))) | exact RdN.own (by (repeat (first | exact Pick.head | apply Pick.tail | apply Pick.app))))) (by (first | rfl | assumption | (simp; done) | omega)))) ?_
               first
               | (have hk1 : r.kind = 1 := by omega
                  have e : lineR r = wMe ++ 32 :: hexT r.key := by unfold lineR printW; rw [if_pos hk1, joinW_two, joinW_one]
                  rw [e]
                  exact ⟨rfl, fun w h => h.sup (by (repeat (first | exact Sup.refl | apply Sup.cons (by (repeat (first | exact Pick.head | apply Pick.tail | apply Pick.app))) | apply Sup.app | apply Sup.skip | apply Sup.skips)))⟩)
               | (have hk1 : r.kind = 2 := by omega
                  have e : lineR r = wAdded := by unfold lineR printW; rw [if_neg (by omega), if_pos hk1, joinW_one]
                  rw [e, kAd]
                  exact ⟨rfl, fun w h => h.sup (by (repeat (first | exact Sup.refl | apply Sup.cons (by (repeat (first | exact Pick.head | apply Pick.tail | apply Pick.app))) | apply Sup.app | apply Sup.skip | apply Sup.skips)))⟩)
               | (have hk1 : r.kind = 6 := by omega
                  have e : lineR r = wPurged := by unfold lineR printW; rw [if_neg (by omega), if_neg (by omega), if_neg (by omega), if_neg (by omega), if_neg (by omega), if_pos hk1, joinW_one]
                  rw [e, kPu]
                  exact ⟨rfl, fun w h => h.sup (by (repeat (first | exact Sup.refl | apply Sup.cons (by (repeat (first | exact Pick.head | apply Pick.tail | apply Pick.app))) | apply Sup.app | apply Sup.skip | apply Sup.skips)))⟩)
               | (have hk1 : r.kind = 3 := by omega
                  obtain rfl : i = r.names.length := by omega
                  have e : lineR r = joinW (wContacts :: dig r.names.length :: r.names.take r.names.length) := by unfold lineR printW; rw [if_neg (by omega), if_neg (by omega), if_pos hk1, numT_nat, List.take_length]
                  rw [e]
                  exact ⟨rfl, fun w h => h.sup (by (repeat (first | exact Sup.refl | apply Sup.cons (by (repeat (first | exact Pick.head | apply Pick.tail | apply Pick.app))) | apply Sup.app | apply Sup.skip | apply Sup.skips)))⟩)
               | (have hk1 : r.kind = 4 := by omega
                  have e : lineR r = joinW [wQueued, dig r.seq.toNat] := by unfold lineR printW; rw [if_neg (by omega), if_neg (by omega), if_neg (by omega), if_pos hk1, z3]
                  rw [e]
                  exact ⟨rfl, fun w h => h.sup (by (repeat (first | exact Sup.refl | apply Sup.cons (by (repeat (first | exact Pick.head | apply Pick.tail | apply Pick.app))) | apply Sup.app | apply Sup.skip | apply Sup.skips)))⟩)
               | (have hk1 : r.kind = 5 := by omega
                  obtain rfl : i = r.texts.length := by omega
                  have e : lineR r = joinW (wInbox :: dig r.texts.length :: (r.texts.take r.texts.length).map quoT) := by unfold lineR printW; rw [if_neg (by omega), if_neg (by omega), if_neg (by omega), if_neg (by omega), if_pos hk1, numT_nat, List.take_length]
                  rw [e]
                  exact ⟨rfl, fun w h => h.sup (by (repeat (first | exact Sup.refl | apply Sup.cons (by (repeat (first | exact Pick.head | apply Pick.tail | apply Pick.app))) | apply Sup.app | apply Sup.skip | apply Sup.skips)))⟩)
               | (have hk1 : r.kind = 7 := by omega
                  have e : lineR r = joinW [wStatus, dig r.out.toNat, dig r.acked.toNat, dig r.inn.toNat] := by unfold lineR printW; rw [if_neg (by omega), if_neg (by omega), if_neg (by omega), if_neg (by omega), if_neg (by omega), if_neg (by omega), if_pos hk1, a3, b3', c3']
                  rw [e]
                  exact ⟨rfl, fun w h => h.sup (by (repeat (first | exact Sup.refl | apply Sup.cons (by (repeat (first | exact Pick.head | apply Pick.tail | apply Pick.app))) | apply Sup.app | apply Sup.skip | apply Sup.skips)))⟩)
               | (have hk1 : r.kind = 8 := by omega
                  have e : lineR r = joinW [wError, (wordF r.err).1] := by unfold lineR printW; rw [if_neg (by omega), if_neg (by omega), if_neg (by omega), if_neg (by omega), if_neg (by omega), if_neg (by omega), if_neg (by omega), if_pos hk1]
                  rw [e]
                  exact ⟨rfl, fun w h => h.sup (by (repeat (first | exact Sup.refl | apply Sup.cons (by (repeat (first | exact Pick.head | apply Pick.tail | apply Pick.app))) | apply Sup.app | apply Sup.skip | apply Sup.skips)))⟩)
             case' hf =>
              intro h
              try (first | (exfalso; omega) | (cases h; done) | (exfalso; simp at h; done) | subst h)
              all_goals
               refine J.skip ?_
 all_goals refine JE.block_normal (JE.then_normal ?_)
 all_goals
  refine J.seq (J.region (JL.step (y_fieldAddr hT rfl rfl rfl rfl rfl rfl) rfl rfl rfl ?_))
  refine JL.step (y_load1 hT rfl rfl rfl (Rd1.row (by (repeat (first | exact Pick.head | apply Pick.tail | apply Pick.app))) (hat 6))) rfl rfl rfl ?_
  refine JL.loud rfl (l_callF e22 rfl rfl (rword_spec E r.err _) ?_)
  rintro _ _ ⟨rfl, rfl⟩
  refine JL.step (y_move rfl) rfl rfl rfl (JL.step (y_extract rfl rfl) rfl rfl rfl (JL.step (y_extract rfl rfl) rfl rfl rfl (JL.step (y_assign rfl) rfl rfl rfl (JL.step (y_assign rfl) rfl rfl rfl ?_))))
  refine JL.nil (JE.then_normal (J.seq (J.region (JL.step (y_move rfl) rfl rfl rfl ?_))))
  refine JL.step (y_addS (xs := wError ++ [32]) (zs := joinW [wError, (wordF r.err).1]) (by rw [kEr]; rfl) rfl (by rw [joinW_two, joinW_one, List.append_assoc]; rfl) (by have : (wError ++ [32]).length = 6 := rfl; have := word_len r.err; omega)) rfl rfl rfl ?_
  refine JL.step (y_assign rfl) rfl rfl rfl ?_
  refine JL.nil (JE.then_normal (J.ret ?_))
  refine JE.ret1 (.inl rfl) rfl rfl (by (first | exact RV.tmp rfl | exact RV.cell1 hT rfl rfl rfl (by (exact Rd1.row (by (repeat (first | exact Pick.head | apply Pick.tail | apply Pick.app))) (by rfl))) | exact RV.cellN hT rfl rfl rfl (by (first | exact RdN.rowAll (by (repeat (first | exact Pick.head | apply Pick.tail | apply Pick.app))) | exact RdN.own (by (repeat (first | exact Pick.head | apply Pick.tail | apply Pick.app))))) (by (first | rfl | assumption | (simp; done) | omega)))) ?_
  first
  | (have hk1 : r.kind = 1 := by omega
     have e : lineR r = wMe ++ 32 :: hexT r.key := by unfold lineR printW; rw [if_pos hk1, joinW_two, joinW_one]
     rw [e]
     exact ⟨rfl, fun w h => h.sup (by (repeat (first | exact Sup.refl | apply Sup.cons (by (repeat (first | exact Pick.head | apply Pick.tail | apply Pick.app))) | apply Sup.app | apply Sup.skip | apply Sup.skips)))⟩)
  | (have hk1 : r.kind = 2 := by omega
     have e : lineR r = wAdded := by unfold lineR printW; rw [if_neg (by omega), if_pos hk1, joinW_one]
     rw [e, kAd]
     exact ⟨rfl, fun w h => h.sup (by (repeat (first | exact Sup.refl | apply Sup.cons (by (repeat (first | exact Pick.head | apply Pick.tail | apply Pick.app))) | apply Sup.app | apply Sup.skip | apply Sup.skips)))⟩)
  | (have hk1 : r.kind = 6 := by omega
     have e : lineR r = wPurged := by unfold lineR printW; rw [if_neg (by omega), if_neg (by omega), if_neg (by omega), if_neg (by omega), if_neg (by omega), if_pos hk1, joinW_one]
     rw [e, kPu]
     exact ⟨rfl, fun w h => h.sup (by (repeat (first | exact Sup.refl | apply Sup.cons (by (repeat (first | exact Pick.head | apply Pick.tail | apply Pick.app))) | apply Sup.app | apply Sup.skip | apply Sup.skips)))⟩)
  | (have hk1 : r.kind = 3 := by omega
     obtain rfl : i = r.names.length := by omega
     have e : lineR r = joinW (wContacts :: dig r.names.length :: r.names.take r.names.length) := by unfold lineR printW; rw [if_neg (by omega), if_neg (by omega), if_pos hk1, numT_nat, List.take_length]
     rw [e]
     exact ⟨rfl, fun w h => h.sup (by (repeat (first | exact Sup.refl | apply Sup.cons (by (repeat (first | exact Pick.head | apply Pick.tail | apply Pick.app))) | apply Sup.app | apply Sup.skip | apply Sup.skips)))⟩)
  | (have hk1 : r.kind = 4 := by omega
     have e : lineR r = joinW [wQueued, dig r.seq.toNat] := by unfold lineR printW; rw [if_neg (by omega), if_neg (by omega), if_neg (by omega), if_pos hk1, z3]
     rw [e]
     exact ⟨rfl, fun w h => h.sup (by (repeat (first | exact Sup.refl | apply Sup.cons (by (repeat (first | exact Pick.head | apply Pick.tail | apply Pick.app))) | apply Sup.app | apply Sup.skip | apply Sup.skips)))⟩)
  | (have hk1 : r.kind = 5 := by omega
     obtain rfl : i = r.texts.length := by omega
     have e : lineR r = joinW (wInbox :: dig r.texts.length :: (r.texts.take r.texts.length).map quoT) := by unfold lineR printW; rw [if_neg (by omega), if_neg (by omega), if_neg (by omega), if_neg (by omega), if_pos hk1, numT_nat, List.take_length]
     rw [e]
     exact ⟨rfl, fun w h => h.sup (by (repeat (first | exact Sup.refl | apply Sup.cons (by (repeat (first | exact Pick.head | apply Pick.tail | apply Pick.app))) | apply Sup.app | apply Sup.skip | apply Sup.skips)))⟩)
  | (have hk1 : r.kind = 7 := by omega
     have e : lineR r = joinW [wStatus, dig r.out.toNat, dig r.acked.toNat, dig r.inn.toNat] := by unfold lineR printW; rw [if_neg (by omega), if_neg (by omega), if_neg (by omega), if_neg (by omega), if_neg (by omega), if_neg (by omega), if_pos hk1, a3, b3', c3']
     rw [e]
     exact ⟨rfl, fun w h => h.sup (by (repeat (first | exact Sup.refl | apply Sup.cons (by (repeat (first | exact Pick.head | apply Pick.tail | apply Pick.app))) | apply Sup.app | apply Sup.skip | apply Sup.skips)))⟩)
  | (have hk1 : r.kind = 8 := by omega
     have e : lineR r = joinW [wError, (wordF r.err).1] := by unfold lineR printW; rw [if_neg (by omega), if_neg (by omega), if_neg (by omega), if_neg (by omega), if_neg (by omega), if_neg (by omega), if_neg (by omega), if_pos hk1]
     rw [e]
     exact ⟨rfl, fun w h => h.sup (by (repeat (first | exact Sup.refl | apply Sup.cons (by (repeat (first | exact Pick.head | apply Pick.tail | apply Pick.app))) | apply Sup.app | apply Sup.skip | apply Sup.skips)))⟩)
end
end
section
open Go Go.SL
section
structure RpW (r : RpT) : Prop where
 key : r.key.length = 32
 kb : Bys r.key
 names : r.names.length ≤ 1000
 texts : r.texts.length ≤ 1000
 nb : ∀ t ∈ r.names, Bys t ∧ t.length ≤ 1000
 tb : ∀ t ∈ r.texts, Bys t ∧ t.length ≤ 1000
theorem len_nil {α : Type} (xs : List α) : decide ((xs.length : Int) = 0) = decide (xs.length = 0) := decide_eq_decide.2 (by omega)
end
section
attribute [local irreducible] J JL JE JM LS Y Fc RV Code.wp wpList Code.wpIn wpListIn
attribute [local irreducible] Yc strOf valD dig
variable (E : World)
theorem rright_spec (r : RpT) (p1 : Option Addr) (c1 : Nat) (p2 : Option Addr) (c2 : Nat) (l : List HProp) (hr : RpW r) (h1 : InL l p1 r.names.length c1 (strs r.names)) (h2 : InL l p2 r.texts.length c2 (strs r.texts)) :
 Fc prog E 19 [.agg (rpE r (.slice p1 r.names.length c1) (.slice p2 r.texts.length c2)).toArray].toArray l (fun v l' => v = .bool (rightB r) ∧ l' = l) := by
 refine Fc.eqs ?_
 obtain ⟨cs, hcs⟩ : ∃ cs, rpE r (.slice p1 r.names.length c1) (.slice p2 r.texts.length c2) = cs := ⟨_, rfl⟩
 have hat := rp_at hr.key (.slice p1 r.names.length c1) (.slice p2 r.texts.length c2)
 have hky := rp_key hr.key (.slice p1 r.names.length c1) (.slice p2 r.texts.length c2)
 have hk0 : cs[0]? = some (.int .i64 r.kind) := by rw [← hcs]; rfl
 have hnl := hr.names
 have htl := hr.texts
 obtain ⟨bk, hbk⟩ : ∃ b, decide (r.key = zer32) = b := ⟨_, rfl⟩
 obtain ⟨bn, hbn⟩ : ∃ b, decide ((r.names.length : Int) = 0) = b := ⟨_, rfl⟩
 obtain ⟨bt, hbt⟩ : ∃ b, decide ((r.texts.length : Int) = 0) = b := ⟨_, rfl⟩
 obtain ⟨bs, hbs⟩ : ∃ b, decide (r.seq = 0) = b := ⟨_, rfl⟩
 obtain ⟨bo, hbo⟩ : ∃ b, decide (r.out = 0) = b := ⟨_, rfl⟩
 obtain ⟨ba, hba⟩ : ∃ b, decide (r.acked = 0) = b := ⟨_, rfl⟩
 obtain ⟨bi, hbi⟩ : ∃ b, decide (r.inn = 0) = b := ⟨_, rfl⟩
 obtain ⟨be, hbe⟩ : ∃ b, decide (r.err = 0) = b := ⟨_, rfl⟩
 have eK : kB r = bk := hbk
 have eN : nB r = bn := by rw [← hbn, len_nil]; exact decide_eq_decide.2 List.length_eq_zero_iff.symm
 have eT : tB r = bt := by rw [← hbt, len_nil]; exact decide_eq_decide.2 List.length_eq_zero_iff.symm
 have eS : sB r = bs := hbs
 have eC : cB r = (bo && ba && bi) := by unfold cB; rw [hbo, hba, hbi]
 have eE : eB r = be := hbe
 have r1 : r.kind = 1 → rightB r = (bn && bt && bs && (bo && ba && bi) && be) := fun h => by unfold rightB; rw [if_pos h, eN, eT, eS, eC, eE]
 have r2 : (r.kind = 2 ∨ r.kind = 6) → rightB r = (bk && bn && bt && bs && (bo && ba && bi) && be) := fun h => by unfold rightB; rw [if_neg (by omega), if_pos h, eK, eN, eT, eS, eC, eE]
 have r3 : r.kind = 3 → rightB r = (r.names.all nameB && decide r.names.Nodup && (bk && bt && bs && (bo && ba && bi) && be && decide (r.names.length ≤ 3))) := fun h => by unfold rightB; rw [if_neg (by omega), if_neg (by omega), if_pos h, eK, eT, eS, eC, eE]
 have r4 : r.kind = 4 → rightB r = (bk && bn && bt && (bo && ba && bi) && be && okN r.seq) := fun h => by unfold rightB; rw [if_neg (by omega), if_neg (by omega), if_neg (by omega), if_pos h, eK, eN, eT, eC, eE]
 have r5 : r.kind = 5 → rightB r = (r.texts.all textB && (bk && bn && bs && (bo && ba && bi) && be && decide (r.texts.length ≤ 6))) := fun h => by unfold rightB; rw [if_neg (by omega), if_neg (by omega), if_neg (by omega), if_neg (by omega), if_pos h, eK, eN, eS, eC, eE]
 have r7 : r.kind = 7 → rightB r = (okN r.out && okN r.acked && okN r.inn && (bk && bn && bt && bs && be)) := fun h => by unfold rightB; rw [if_neg (by omega), if_neg (by omega), if_neg (by omega), if_neg (by omega), if_neg (by omega), if_pos h, eK, eN, eT, eS, eE]
 have r8 : r.kind = 8 → rightB r = (bk && bn && bt && bs && (bo && ba && bi) && (wordF r.err).2) := fun h => by unfold rightB; rw [if_neg (by omega), if_neg (by omega), if_neg (by omega), if_neg (by omega), if_neg (by omega), if_neg (by omega), if_pos h, eK, eN, eT, eS, eC]
 have r9 : ¬ r.kind = 1 → ¬ r.kind = 2 → ¬ r.kind = 6 → ¬ r.kind = 3 → ¬ r.kind = 4 → ¬ r.kind = 5 → ¬ r.kind = 7 → ¬ r.kind = 8 → rightB r = false := fun _ _ _ _ _ _ _ _ => by unfold rightB; rw [if_neg (by omega), if_neg (by omega), if_neg (by omega), if_neg (by omega), if_neg (by omega), if_neg (by omega), if_neg (by omega)]
 rw [hcs] at hat hky
 rw [hcs]
 refine Fc.of_body (c := ?codeC) Tryz.func19 ?hb Tryz.ntmps19 ?hl ?_
 case hb => exact rfl
 case hl => exact rfl
 refine J.seq (J.region ?_)
 refine JL.loud rfl (l_box (cs := cs) rfl rfl rfl (fun b1 => ?_))
 refine JL.step (y_assign rfl) rfl rfl rfl ?_
 refine JL.nil (JE.then_normal ?_)
 refine J.seqK (α := Unit) (fun _ => True) (fun _ => [(1, .pointer (some ⟨b1, 0, none⟩)), (3, .bool bk), (4, .bool bn), (5, .bool bt), (6, .bool bs), (7, .bool (bo && ba && bi)), (8, .bool be)]) (fun _ => row b1 36 cs :: l) ?hj2 (fun hk2 => ?hf2)
 case hf2 =>
  obtain ⟨bc, hbc⟩ : ∃ b, (bo && ba && bi) = b := ⟨_, rfl⟩
  rcases bo with _ | _
  rotate_left
  rcases ba with _ | _
  all_goals
   refine J.draw _ _ [(0, .q), (1, .q), (2, .q), (3, .q), (4, .q), (5, .q), (6, .q), (7, .q), (8, .q), (9, .q), (10, .q), (11, .q), (12, .q), (13, .q), (14, .q), (15, .q), (16, .q), (17, .q), (18, .q), (19, .q), (20, .q), (21, .q), (22, .q), (23, .q), (24, .q), (25, .q), (26, .q), (27, .q), (28, .q), (29, .q), (30, .q), (31, .q), (32, .q), (33, .q), (34, .q), (35, .q), (36, .q)] mixed (by kernel_rfl) (Split.nil) ?_
   refine JM.quiet rfl rfl rfl rfl (fun m => y_fieldAddr hT rfl rfl rfl rfl rfl rfl) ?_
   refine JM.quiet rfl rfl rfl rfl (fun m => y_loadN hT rfl rfl rfl (RdN.row (n := 32) (vs := ints .u8 r.key) (Pick.app m (by (repeat (first | exact Pick.head | apply Pick.tail | apply Pick.app)))) hky) (by rw [ints_len, hr.key]; rfl)) ?_
   refine JM.quiet rfl rfl rfl rfl (fun m => y_build_arr0 hT rfl rfl rfl rfl) (JM.quiet rfl rfl rfl rfl (fun m => Y.cast (y_arr_eq (k := .u8) (xs := r.key) (ys := zer32) hT rfl rfl rfl rfl rfl rfl rfl hr.key rfl) (congrArg Value.bool hbk)) (JM.quiet rfl rfl rfl rfl (fun m => y_fieldAddr hT rfl rfl rfl rfl rfl rfl) ?_))
   refine JM.quiet rfl rfl rfl rfl (fun m => y_load1 hT rfl rfl rfl (Rd1.row (Pick.app m (by (repeat (first | exact Pick.head | apply Pick.tail | apply Pick.app)))) (hat 0))) ?_
   refine JM.quiet rfl rfl rfl rfl (fun m => y_len_slice hT rfl rfl rfl) (JM.quiet rfl rfl rfl rfl (fun m => y_eqlB rfl rfl hbn) (JM.quiet rfl rfl rfl rfl (fun m => y_fieldAddr hT rfl rfl rfl rfl rfl rfl) ?_))
   refine JM.quiet rfl rfl rfl rfl (fun m => y_load1 hT rfl rfl rfl (Rd1.row (Pick.app m (by (repeat (first | exact Pick.head | apply Pick.tail | apply Pick.app)))) (hat 1))) ?_
   refine JM.quiet rfl rfl rfl rfl (fun m => y_len_slice hT rfl rfl rfl) (JM.quiet rfl rfl rfl rfl (fun m => y_eqlB rfl rfl hbt) (JM.quiet rfl rfl rfl rfl (fun m => y_fieldAddr hT rfl rfl rfl rfl rfl rfl) ?_))
   refine JM.quiet rfl rfl rfl rfl (fun m => y_load1 hT rfl rfl rfl (Rd1.row (Pick.app m (by (repeat (first | exact Pick.head | apply Pick.tail | apply Pick.app)))) (hat 2))) ?_
   refine JM.quiet rfl rfl rfl rfl (fun m => y_eqlB rfl rfl hbs) (JM.quiet rfl rfl rfl rfl (fun m => y_fieldAddr hT rfl rfl rfl rfl rfl rfl) ?_)
   refine JM.quiet rfl rfl rfl rfl (fun m => y_load1 hT rfl rfl rfl (Rd1.row (Pick.app m (by (repeat (first | exact Pick.head | apply Pick.tail | apply Pick.app)))) (hat 3))) ?_
   refine JM.quiet rfl rfl rfl rfl (fun m => y_eqlB rfl rfl hbo) (JM.quiet rfl rfl rfl rfl (fun m => y_move rfl) ?_)
   all_goals (first | refine JM.gskip rfl rfl rfl rfl rfl rfl rfl ?_ | refine JM.gskipU rfl rfl rfl rfl rfl rfl ?_ | refine JM.gquiet rfl rfl rfl rfl rfl rfl (fun m => y_fieldAddr hT rfl rfl rfl rfl rfl rfl) ?_)
   all_goals (first | refine JM.gskip rfl rfl rfl rfl rfl rfl rfl ?_ | refine JM.gskipU rfl rfl rfl rfl rfl rfl ?_ | refine JM.gquiet rfl rfl rfl rfl rfl rfl (fun m => y_load1 hT rfl rfl rfl (Rd1.row (Pick.app m (by (repeat (first | exact Pick.head | apply Pick.tail | apply Pick.app)))) (hat 4))) ?_)
   all_goals (first | refine JM.gskip rfl rfl rfl rfl rfl rfl rfl ?_ | refine JM.gskipU rfl rfl rfl rfl rfl rfl ?_ | refine JM.gquiet rfl rfl rfl rfl rfl rfl (fun m => y_eqlB rfl rfl hba) ?_)
   all_goals refine JM.quiet rfl rfl rfl rfl (fun m => y_pick rfl rfl rfl) ?_
   all_goals refine JM.quiet rfl rfl rfl rfl (fun m => y_move rfl) ?_
   all_goals (first | refine JM.gskip rfl rfl rfl rfl rfl rfl rfl ?_ | refine JM.gskipU rfl rfl rfl rfl rfl rfl ?_ | refine JM.gquiet rfl rfl rfl rfl rfl rfl (fun m => y_fieldAddr hT rfl rfl rfl rfl rfl rfl) ?_)
   all_goals (first | refine JM.gskip rfl rfl rfl rfl rfl rfl rfl ?_ | refine JM.gskipU rfl rfl rfl rfl rfl rfl ?_ | refine JM.gquiet rfl rfl rfl rfl rfl rfl (fun m => y_load1 hT rfl rfl rfl (Rd1.row (Pick.app m (by (repeat (first | exact Pick.head | apply Pick.tail | apply Pick.app)))) (hat 5))) ?_)
   all_goals (first | refine JM.gskip rfl rfl rfl rfl rfl rfl rfl ?_ | refine JM.gskipU rfl rfl rfl rfl rfl rfl ?_ | refine JM.gquiet rfl rfl rfl rfl rfl rfl (fun m => y_eqlB rfl rfl hbi) ?_)
   all_goals refine JM.quiet rfl rfl rfl rfl (fun m => y_pick rfl rfl rfl) ?_
   all_goals refine JM.quiet rfl rfl rfl rfl (fun m => y_fieldAddr hT rfl rfl rfl rfl rfl rfl) ?_
   all_goals refine JM.quiet rfl rfl rfl rfl (fun m => y_load1 hT rfl rfl rfl (Rd1.row (Pick.app m (by (repeat (first | exact Pick.head | apply Pick.tail | apply Pick.app)))) (hat 6))) ?_
   all_goals refine JM.quiet rfl rfl rfl rfl (fun m => y_eqlB rfl rfl hbe) ?_
   all_goals refine JM.quiet rfl rfl rfl rfl (fun m => y_assign rfl) ?_
   all_goals refine JM.quiet rfl rfl rfl rfl (fun m => y_assign rfl) ?_
   all_goals refine JM.quiet rfl rfl rfl rfl (fun m => y_assign rfl) ?_
   all_goals refine JM.quiet rfl rfl rfl rfl (fun m => y_assign rfl) ?_
   all_goals refine JM.quiet rfl rfl rfl rfl (fun m => y_assign rfl) ?_
   all_goals refine JM.quiet rfl rfl rfl rfl (fun m => y_assign rfl) ?_
   all_goals refine JM.nil ?_
  all_goals refine JE.then_normal ?_
  all_goals
   exact J.closeK hk2 () trivial ⟨rfl, rfl, rfl, rfl, rfl, rfl, rfl, trivial⟩ (fun w9 h => h.sup (by (repeat (first | exact Sup.refl | apply Sup.cons (by (repeat (first | exact Pick.head | apply Pick.tail | apply Pick.app))) | apply Sup.app | apply Sup.skip | apply Sup.skips))))
 rintro _ _
 obtain ⟨bc, hbc⟩ : ∃ b, (bo && ba && bi) = b := ⟨_, rfl⟩
 rw [hbc] at r1 r2 r3 r4 r5 r8 ⊢
 refine J.seq (J.seq (J.region (JL.step (y_fieldAddr hT rfl rfl rfl rfl rfl rfl) rfl rfl rfl ?_)))
 refine JL.step (v := .int .i64 r.kind) (y_load1 hT rfl rfl rfl (Rd1.row (by (repeat (first | exact Pick.head | apply Pick.tail | apply Pick.app))) hk0)) rfl rfl rfl ?_
 refine JL.nil (JE.then_normal (J.block (J.seq (J.region (JL.step (y_eql rfl rfl) rfl rfl rfl (JL.step (y_assign rfl) rfl rfl rfl ?_))))))
 refine JL.nil (JE.then_normal ?_)
 first | apply J.cond_dec rfl | apply J.cond rfl
 case' ht =>
  intro h
  try (first | (exfalso; omega) | (cases h; done) | (exfalso; simp at h; done) | subst h)
  all_goals
   refine J.seq (J.region (JL.step (y_move rfl) rfl rfl rfl (JL.step (y_move rfl) rfl rfl rfl ?_)))
   all_goals (first | (refine JL.gsplit_dec rfl rfl rfl (fun h => ?_) (fun h => ?_) <;> try (first | (exfalso; omega) | exact absurd rfl h)) | (refine JL.gsplit rfl rfl rfl (fun h => ?_) (fun h => ?_) <;> try (first | cases h | (exfalso; simp at h; done))) | skip)
   all_goals (first | refine JL.gskip rfl rfl rfl rfl rfl rfl ?_ | refine JL.gskipU rfl rfl rfl rfl rfl ?_ | refine JL.gstep rfl rfl rfl (y_move rfl) rfl rfl ?_)
   all_goals (refine JL.step (y_pick rfl rfl rfl) rfl rfl rfl ?_)
   all_goals (refine JL.step (y_move rfl) rfl rfl rfl ?_)
   all_goals (first | (refine JL.gsplit_dec rfl rfl rfl (fun h => ?_) (fun h => ?_) <;> try (first | (exfalso; omega) | exact absurd rfl h)) | (refine JL.gsplit rfl rfl rfl (fun h => ?_) (fun h => ?_) <;> try (first | cases h | (exfalso; simp at h; done))) | skip)
   all_goals (first | refine JL.gskip rfl rfl rfl rfl rfl rfl ?_ | refine JL.gskipU rfl rfl rfl rfl rfl ?_ | refine JL.gstep rfl rfl rfl (y_move rfl) rfl rfl ?_)
   all_goals (refine JL.step (y_pick rfl rfl rfl) rfl rfl rfl ?_)
   all_goals (refine JL.step (y_move rfl) rfl rfl rfl ?_)
   all_goals (first | (refine JL.gsplit_dec rfl rfl rfl (fun h => ?_) (fun h => ?_) <;> try (first | (exfalso; omega) | exact absurd rfl h)) | (refine JL.gsplit rfl rfl rfl (fun h => ?_) (fun h => ?_) <;> try (first | cases h | (exfalso; simp at h; done))) | skip)
   all_goals (first | refine JL.gskip rfl rfl rfl rfl rfl rfl ?_ | refine JL.gskipU rfl rfl rfl rfl rfl ?_ | refine JL.gstep rfl rfl rfl (y_move rfl) rfl rfl ?_)
   all_goals (refine JL.step (y_pick rfl rfl rfl) rfl rfl rfl ?_)
   all_goals (refine JL.step (y_move rfl) rfl rfl rfl ?_)
   all_goals (first | (refine JL.gsplit_dec rfl rfl rfl (fun h => ?_) (fun h => ?_) <;> try (first | (exfalso; omega) | exact absurd rfl h)) | (refine JL.gsplit rfl rfl rfl (fun h => ?_) (fun h => ?_) <;> try (first | cases h | (exfalso; simp at h; done))) | skip)
   all_goals (first | refine JL.gskip rfl rfl rfl rfl rfl rfl ?_ | refine JL.gskipU rfl rfl rfl rfl rfl ?_ | refine JL.gstep rfl rfl rfl (y_move rfl) rfl rfl ?_)
   all_goals (refine JL.step (y_pick rfl rfl rfl) rfl rfl rfl ?_)
   all_goals (refine JL.step (y_assign rfl) rfl rfl rfl ?_)
   all_goals refine JL.nil (JE.then_normal ?_)
   all_goals
    refine J.ret (JE.block_ret (JE.then_ret ?_))
    refine JE.ret1 (.inl rfl) rfl rfl (by (first | exact RV.tmp rfl | exact RV.cell1 hT rfl rfl rfl (by (exact Rd1.row (by (repeat (first | exact Pick.head | apply Pick.tail | apply Pick.app))) (by rfl))) | exact RV.cellN hT rfl rfl rfl (by (first | exact RdN.rowAll (by (repeat (first | exact Pick.head | apply Pick.tail | apply Pick.app))) | exact RdN.own (by (repeat (first | exact Pick.head | apply Pick.tail | apply Pick.app))))) (by (first | rfl | assumption | (simp; done) | omega)))) ?_
    refine ⟨?_, fun w h => h.sup (by (repeat (first | exact Sup.refl | apply Sup.cons (by (repeat (first | exact Pick.head | apply Pick.tail | apply Pick.app))) | apply Sup.app | apply Sup.skip | apply Sup.skips)))⟩
    first
    | (have hk1 : r.kind = 1 := by omega
       rw [r1 hk1]
       first | rfl | (cases bn <;> cases bt <;> cases bs <;> cases bc <;> cases be <;> rfl) | (simp_all; done))
    | (have hk1 : r.kind = 2 ∨ r.kind = 6 := by omega
       rw [r2 hk1]
       first | rfl | (cases bk <;> cases bn <;> cases bt <;> cases bs <;> cases bc <;> cases be <;> rfl) | (simp_all; done))
    | (have hk1 : r.kind = 3 := by omega
       rw [r3 hk1]
       first
       | (have zz := hall2
          rw [hall2.1, decide_eq_true hall2.2, hb3']
          first | rfl | (cases bk <;> cases bt <;> cases bs <;> cases bc <;> cases be <;> cases b3 <;> rfl) | (simp_all; done))
       | (have zz := hbq
          have hyx : y = x := by
           refine Decidable.of_not_not fun q1 => ?_
           rw [decide_eq_false q1] at hbq
           first | cases hbq | (rw [hbq] at h; cases h)
          have hn : ¬ r.names.Nodup := by
           intro q1
           have := (List.getElem?_inj (by omega) q1).1 (by rw [hy, hyx, hx] : r.names[j]? = r.names[i]?)
           omega
          rw [decide_eq_false hn, Bool.and_false]
          rfl)
       | (have hn : r.names.all nameB = false := by
           rw [Bool.eq_false_iff]
           intro q1
           have := List.all_eq_true.1 q1 x (List.mem_of_getElem? hx)
           rw [hbx] at this
           cases this
          rw [hn]
          rfl))
    | (have hk1 : r.kind = 4 := by omega
       rw [r4 hk1, hok]
       first | rfl | (cases bk <;> cases bn <;> cases bt <;> cases bc <;> cases be <;> cases b4 <;> cases b5 <;> rfl) | (simp_all; done))
    | (have hk1 : r.kind = 5 := by omega
       rw [r5 hk1]
       first
       | (have zz := hall3
          rw [hall3, hb6']
          first | rfl | (cases bk <;> cases bn <;> cases bs <;> cases bc <;> cases be <;> cases b6 <;> rfl) | (simp_all; done))
       | (have hn : r.texts.all textB = false := by
           rw [Bool.eq_false_iff]
           intro q1
           have := List.all_eq_true.1 q1 x (List.mem_of_getElem? hx)
           rw [hbx] at this
           cases this
          rw [hn]
          rfl))
    | (have hk1 : r.kind = 7 := by omega
       rw [r7 hk1]
       first
       | (have zz := hall4
          rw [hall4]
          first | rfl | (cases bk <;> cases bn <;> cases bt <;> cases bs <;> cases be <;> rfl) | (simp_all; done))
       | (have hn : okN z = false := by
           rw [Bool.eq_false_iff]
           intro q1
           obtain ⟨e1, e2, _⟩ := okN_nat q1
           first | omega | (simp_all; done) | (simp_all; omega)
          have hm := List.mem_of_getElem? hz
          simp only [List.mem_cons, List.not_mem_nil, or_false] at hm
          have hn2 : (okN r.out && okN r.acked && okN r.inn) = false := by
           rcases hm with rfl | rfl | rfl
           · rw [hn]; rfl
           · rw [hn, Bool.and_false]; rfl
           · rw [hn, Bool.and_false]
          rw [hn2]
          rfl))
    | (have hk1 : r.kind = 8 := by omega
       rw [r8 hk1]
       first | rfl | (cases bk <;> cases bn <;> cases bt <;> cases bs <;> cases bc <;> cases bw <;> rfl) | (simp_all; done))
    | rw [r9 (by omega) (by omega) (by omega) (by omega) (by omega) (by omega) (by omega) (by omega)]
 case' hf =>
  intro h
  try (first | (exfalso; omega) | (cases h; done) | (exfalso; simp at h; done) | subst h)
  all_goals
   refine J.seq (J.seq (J.region (JL.step (y_eql rfl rfl) rfl rfl rfl (JL.step (y_assign rfl) rfl rfl rfl ?_))))
   refine JL.nil (JE.then_normal ?_)
   first | apply J.cond_dec rfl | apply J.cond rfl
   case' ht =>
    intro h
    try (first | (exfalso; omega) | (cases h; done) | (exfalso; simp at h; done) | subst h)
    all_goals
     refine J.skip ?_
   case' hf =>
    intro h
    try (first | (exfalso; omega) | (cases h; done) | (exfalso; simp at h; done) | subst h)
    all_goals
     refine J.region (JL.step (y_eql rfl rfl) rfl rfl rfl (JL.step (y_assign rfl) rfl rfl rfl ?_))
     refine JL.nil ?_
   all_goals refine JE.then_normal ?_
   all_goals
    first | apply J.cond_dec rfl | apply J.cond rfl
    case' ht =>
     intro h
     try (first | (exfalso; omega) | (cases h; done) | (exfalso; simp at h; done) | subst h)
     all_goals
      refine J.seq (J.region (JL.step (y_move rfl) rfl rfl rfl (JL.step (y_move rfl) rfl rfl rfl ?_)))
      all_goals (first | (refine JL.gsplit_dec rfl rfl rfl (fun h => ?_) (fun h => ?_) <;> try (first | (exfalso; omega) | exact absurd rfl h)) | (refine JL.gsplit rfl rfl rfl (fun h => ?_) (fun h => ?_) <;> try (first | cases h | (exfalso; simp at h; done))) | skip)
      all_goals (first | refine JL.gskip rfl rfl rfl rfl rfl rfl ?_ | refine JL.gskipU rfl rfl rfl rfl rfl ?_ | refine JL.gstep rfl rfl rfl (y_move rfl) rfl rfl ?_)
      all_goals (refine JL.step (y_pick rfl rfl rfl) rfl rfl rfl ?_)
      all_goals (refine JL.step (y_move rfl) rfl rfl rfl ?_)
      all_goals (first | (refine JL.gsplit_dec rfl rfl rfl (fun h => ?_) (fun h => ?_) <;> try (first | (exfalso; omega) | exact absurd rfl h)) | (refine JL.gsplit rfl rfl rfl (fun h => ?_) (fun h => ?_) <;> try (first | cases h | (exfalso; simp at h; done))) | skip)
      all_goals (first | refine JL.gskip rfl rfl rfl rfl rfl rfl ?_ | refine JL.gskipU rfl rfl rfl rfl rfl ?_ | refine JL.gstep rfl rfl rfl (y_move rfl) rfl rfl ?_)
      all_goals (refine JL.step (y_pick rfl rfl rfl) rfl rfl rfl ?_)
      all_goals (refine JL.step (y_move rfl) rfl rfl rfl ?_)
      all_goals (first | (refine JL.gsplit_dec rfl rfl rfl (fun h => ?_) (fun h => ?_) <;> try (first | (exfalso; omega) | exact absurd rfl h)) | (refine JL.gsplit rfl rfl rfl (fun h => ?_) (fun h => ?_) <;> try (first | cases h | (exfalso; simp at h; done))) | skip)
      all_goals (first | refine JL.gskip rfl rfl rfl rfl rfl rfl ?_ | refine JL.gskipU rfl rfl rfl rfl rfl ?_ | refine JL.gstep rfl rfl rfl (y_move rfl) rfl rfl ?_)
      all_goals (refine JL.step (y_pick rfl rfl rfl) rfl rfl rfl ?_)
      all_goals (refine JL.step (y_move rfl) rfl rfl rfl ?_)
      all_goals (first | (refine JL.gsplit_dec rfl rfl rfl (fun h => ?_) (fun h => ?_) <;> try (first | (exfalso; omega) | exact absurd rfl h)) | (refine JL.gsplit rfl rfl rfl (fun h => ?_) (fun h => ?_) <;> try (first | cases h | (exfalso; simp at h; done))) | skip)
      all_goals (first | refine JL.gskip rfl rfl rfl rfl rfl rfl ?_ | refine JL.gskipU rfl rfl rfl rfl rfl ?_ | refine JL.gstep rfl rfl rfl (y_move rfl) rfl rfl ?_)
      all_goals (refine JL.step (y_pick rfl rfl rfl) rfl rfl rfl ?_)
      all_goals (refine JL.step (y_move rfl) rfl rfl rfl ?_)
      all_goals (first | (refine JL.gsplit_dec rfl rfl rfl (fun h => ?_) (fun h => ?_) <;> try (first | (exfalso; omega) | exact absurd rfl h)) | (refine JL.gsplit rfl rfl rfl (fun h => ?_) (fun h => ?_) <;> try (first | cases h | (exfalso; simp at h; done))) | skip)
      all_goals (first | refine JL.gskip rfl rfl rfl rfl rfl rfl ?_ | refine JL.gskipU rfl rfl rfl rfl rfl ?_ | refine JL.gstep rfl rfl rfl (y_move rfl) rfl rfl ?_)
      all_goals (refine JL.step (y_pick rfl rfl rfl) rfl rfl rfl ?_)
      all_goals (refine JL.step (y_assign rfl) rfl rfl rfl ?_)
      all_goals refine JL.nil (JE.then_normal ?_)
      all_goals
       refine J.ret (JE.block_ret (JE.then_ret ?_))
       refine JE.ret1 (.inl rfl) rfl rfl (by (first | exact RV.tmp rfl | exact RV.cell1 hT rfl rfl rfl (by (exact Rd1.row (by (repeat (first | exact Pick.head | apply Pick.tail | apply Pick.app))) (by rfl))) | exact RV.cellN hT rfl rfl rfl (by (first | exact RdN.rowAll (by (repeat (first | exact Pick.head | apply Pick.tail | apply Pick.app))) | exact RdN.own (by (repeat (first | exact Pick.head | apply Pick.tail | apply Pick.app))))) (by (first | rfl | assumption | (simp; done) | omega)))) ?_
       refine ⟨?_, fun w h => h.sup (by (repeat (first | exact Sup.refl | apply Sup.cons (by (repeat (first | exact Pick.head | apply Pick.tail | apply Pick.app))) | apply Sup.app | apply Sup.skip | apply Sup.skips)))⟩
       first
       | (have hk1 : r.kind = 1 := by omega
          rw [r1 hk1]
          first | rfl | (cases bn <;> cases bt <;> cases bs <;> cases bc <;> cases be <;> rfl) | (simp_all; done))
       | (have hk1 : r.kind = 2 ∨ r.kind = 6 := by omega
          rw [r2 hk1]
          first | rfl | (cases bk <;> cases bn <;> cases bt <;> cases bs <;> cases bc <;> cases be <;> rfl) | (simp_all; done))
       | (have hk1 : r.kind = 3 := by omega
          rw [r3 hk1]
          first
          | (have zz := hall2
             rw [hall2.1, decide_eq_true hall2.2, hb3']
             first | rfl | (cases bk <;> cases bt <;> cases bs <;> cases bc <;> cases be <;> cases b3 <;> rfl) | (simp_all; done))
          | (have zz := hbq
             have hyx : y = x := by
              refine Decidable.of_not_not fun q1 => ?_
              rw [decide_eq_false q1] at hbq
              first | cases hbq | (rw [hbq] at h; cases h)
             have hn : ¬ r.names.Nodup := by
              intro q1
              have := (List.getElem?_inj (by omega) q1).1 (by rw [hy, hyx, hx] : r.names[j]? = r.names[i]?)
              omega
             rw [decide_eq_false hn, Bool.and_false]
             rfl)
          | (have hn : r.names.all nameB = false := by
              rw [Bool.eq_false_iff]
              intro q1
              have := List.all_eq_true.1 q1 x (List.mem_of_getElem? hx)
              rw [hbx] at this
              cases this
             rw [hn]
             rfl))
       | (have hk1 : r.kind = 4 := by omega
          rw [r4 hk1, hok]
          first | rfl | (cases bk <;> cases bn <;> cases bt <;> cases bc <;> cases be <;> cases b4 <;> cases b5 <;> rfl) | (simp_all; done))
       | (have hk1 : r.kind = 5 := by omega
          rw [r5 hk1]
          first
          | (have zz := hall3
             rw [hall3, hb6']
             first | rfl | (cases bk <;> cases bn <;> cases bs <;> cases bc <;> cases be <;> cases b6 <;> rfl) | (simp_all; done))
          | (have hn : r.texts.all textB = false := by
              rw [Bool.eq_false_iff]
              intro q1
              have := List.all_eq_true.1 q1 x (List.mem_of_getElem? hx)
              rw [hbx] at this
              cases this
             rw [hn]
             rfl))
       | (have hk1 : r.kind = 7 := by omega
          rw [r7 hk1]
          first
          | (have zz := hall4
             rw [hall4]
             first | rfl | (cases bk <;> cases bn <;> cases bt <;> cases bs <;> cases be <;> rfl) | (simp_all; done))
          | (have hn : okN z = false := by
              rw [Bool.eq_false_iff]
              intro q1
              obtain ⟨e1, e2, _⟩ := okN_nat q1
              first | omega | (simp_all; done) | (simp_all; omega)
             have hm := List.mem_of_getElem? hz
             simp only [List.mem_cons, List.not_mem_nil, or_false] at hm
             have hn2 : (okN r.out && okN r.acked && okN r.inn) = false := by
              rcases hm with rfl | rfl | rfl
              · rw [hn]; rfl
              · rw [hn, Bool.and_false]; rfl
              · rw [hn, Bool.and_false]
             rw [hn2]
             rfl))
       | (have hk1 : r.kind = 8 := by omega
          rw [r8 hk1]
          first | rfl | (cases bk <;> cases bn <;> cases bt <;> cases bs <;> cases bc <;> cases bw <;> rfl) | (simp_all; done))
       | rw [r9 (by omega) (by omega) (by omega) (by omega) (by omega) (by omega) (by omega) (by omega)]
    case' hf =>
     intro h
     try (first | (exfalso; omega) | (cases h; done) | (exfalso; simp at h; done) | subst h)
     all_goals
      refine J.seq (J.region (JL.step (y_eql rfl rfl) rfl rfl rfl (JL.step (y_assign rfl) rfl rfl rfl ?_)))
      refine JL.nil (JE.then_normal ?_)
      first | apply J.cond_dec rfl | apply J.cond rfl
      case' ht =>
       intro h
       try (first | (exfalso; omega) | (cases h; done) | (exfalso; simp at h; done) | subst h)
       all_goals
        refine J.seq (J.seq (J.region (JL.step (y_fieldAddr hT rfl rfl rfl rfl rfl rfl) rfl rfl rfl ?_)))
        refine JL.step (y_load1 hT rfl rfl rfl (Rd1.row (by (repeat (first | exact Pick.head | apply Pick.tail | apply Pick.app))) (hat 0))) rfl rfl rfl ?_
        refine JL.step (y_len_slice hT rfl rfl rfl) rfl rfl rfl (JL.step (y_move rfl) rfl rfl rfl ?_)
        refine JL.nil (JE.then_normal (J.block ?_))
        refine J.loop (α := Nat) (fun i => i ≤ r.names.length ∧ (r.names.take i).all nameB = true ∧ (r.names.take i).Nodup) (fun i => [(1, .pointer (some ⟨b1, 0, none⟩)), (3, .bool bk), (4, .bool bn), (5, .bool bt), (6, .bool bs), (7, .bool bc), (8, .bool be), (89, .slice p1 r.names.length c1), (90, .int .i64 r.names.length), (91, .int .i64 i)]) (fun _ => row b1 36 cs :: l) (fun i => r.names.length - i) 0 ⟨Nat.zero_le _, by simp, by simp⟩ ⟨rfl, rfl, rfl, rfl, rfl, rfl, rfl, rfl, rfl, rfl, trivial⟩ (fun w h => h) ?_
        rintro i ⟨hi, hall, hnd⟩
        try dsimp only
        refine J.seq (J.region (JL.step (y_lss rfl rfl) rfl rfl rfl ?_))
        refine JL.nil (JE.then_normal (J.seq ?_))
        first | apply J.cond_dec rfl | apply J.cond rfl
        case' ht =>
         intro h
         try (first | (exfalso; omega) | (cases h; done) | (exfalso; simp at h; done) | subst h)
         all_goals
          refine J.skip ?_
        case' hf =>
         intro h
         try (first | (exfalso; omega) | (cases h; done) | (exfalso; simp at h; done) | subst h)
         all_goals
          refine J.exit (JE.then_exit (JE.then_exit (JE.block_exit (JE.then_normal (J.seq ?_)))))
          have hall2 : r.names.all nameB = true ∧ r.names.Nodup := by
           obtain rfl : i = r.names.length := by omega
           rw [List.take_length] at hall hnd
           exact ⟨hall, hnd⟩
          obtain ⟨b3, hb3⟩ : ∃ b, decide ((r.names.length : Int) ≤ 3) = b := ⟨_, rfl⟩
          have hb3' : decide (r.names.length ≤ 3) = b3 := by rw [← hb3]; exact decide_eq_decide.2 (by omega)
          refine J.region (JL.step (y_move rfl) rfl rfl rfl (JL.step (y_move rfl) rfl rfl rfl ?_))
          all_goals (first | (refine JL.gsplit_dec rfl rfl rfl (fun h => ?_) (fun h => ?_) <;> try (first | (exfalso; omega) | exact absurd rfl h)) | (refine JL.gsplit rfl rfl rfl (fun h => ?_) (fun h => ?_) <;> try (first | cases h | (exfalso; simp at h; done))) | skip)
          all_goals (first | refine JL.gskip rfl rfl rfl rfl rfl rfl ?_ | refine JL.gskipU rfl rfl rfl rfl rfl ?_ | refine JL.gstep rfl rfl rfl (y_move rfl) rfl rfl ?_)
          all_goals (refine JL.step (y_pick rfl rfl rfl) rfl rfl rfl ?_)
          all_goals (refine JL.step (y_move rfl) rfl rfl rfl ?_)
          all_goals (first | (refine JL.gsplit_dec rfl rfl rfl (fun h => ?_) (fun h => ?_) <;> try (first | (exfalso; omega) | exact absurd rfl h)) | (refine JL.gsplit rfl rfl rfl (fun h => ?_) (fun h => ?_) <;> try (first | cases h | (exfalso; simp at h; done))) | skip)
          all_goals (first | refine JL.gskip rfl rfl rfl rfl rfl rfl ?_ | refine JL.gskipU rfl rfl rfl rfl rfl ?_ | refine JL.gstep rfl rfl rfl (y_move rfl) rfl rfl ?_)
          all_goals (refine JL.step (y_pick rfl rfl rfl) rfl rfl rfl ?_)
          all_goals (refine JL.step (y_move rfl) rfl rfl rfl ?_)
          all_goals (first | (refine JL.gsplit_dec rfl rfl rfl (fun h => ?_) (fun h => ?_) <;> try (first | (exfalso; omega) | exact absurd rfl h)) | (refine JL.gsplit rfl rfl rfl (fun h => ?_) (fun h => ?_) <;> try (first | cases h | (exfalso; simp at h; done))) | skip)
          all_goals (first | refine JL.gskip rfl rfl rfl rfl rfl rfl ?_ | refine JL.gskipU rfl rfl rfl rfl rfl ?_ | refine JL.gstep rfl rfl rfl (y_move rfl) rfl rfl ?_)
          all_goals (refine JL.step (y_pick rfl rfl rfl) rfl rfl rfl ?_)
          all_goals (refine JL.step (y_move rfl) rfl rfl rfl ?_)
          all_goals (first | (refine JL.gsplit_dec rfl rfl rfl (fun h => ?_) (fun h => ?_) <;> try (first | (exfalso; omega) | exact absurd rfl h)) | (refine JL.gsplit rfl rfl rfl (fun h => ?_) (fun h => ?_) <;> try (first | cases h | (exfalso; simp at h; done))) | skip)
          all_goals (first | refine JL.gskip rfl rfl rfl rfl rfl rfl ?_ | refine JL.gskipU rfl rfl rfl rfl rfl ?_ | refine JL.gstep rfl rfl rfl (y_move rfl) rfl rfl ?_)
          all_goals (refine JL.step (y_pick rfl rfl rfl) rfl rfl rfl ?_)
          all_goals (refine JL.step (y_move rfl) rfl rfl rfl ?_)
          all_goals (first | (refine JL.gsplit_dec rfl rfl rfl (fun h => ?_) (fun h => ?_) <;> try (first | (exfalso; omega) | exact absurd rfl h)) | (refine JL.gsplit rfl rfl rfl (fun h => ?_) (fun h => ?_) <;> try (first | cases h | (exfalso; simp at h; done))) | skip)
          all_goals (first | refine JL.gskip rfl rfl rfl rfl rfl rfl ?_ | refine JL.gskipU rfl rfl rfl rfl rfl ?_ | refine JL.gstep rfl rfl rfl (y_fieldAddr hT rfl rfl rfl rfl rfl rfl) rfl rfl ?_)
          all_goals (first | refine JL.gskip rfl rfl rfl rfl rfl rfl ?_ | refine JL.gskipU rfl rfl rfl rfl rfl ?_ | refine JL.gstep rfl rfl rfl (y_load1 hT rfl rfl rfl (Rd1.row (by (repeat (first | exact Pick.head | apply Pick.tail | apply Pick.app))) (hat 0))) rfl rfl ?_)
          all_goals (first | refine JL.gskip rfl rfl rfl rfl rfl rfl ?_ | refine JL.gskipU rfl rfl rfl rfl rfl ?_ | refine JL.gstep rfl rfl rfl (y_len_slice hT rfl rfl rfl) rfl rfl ?_)
          all_goals (first | refine JL.gskip rfl rfl rfl rfl rfl rfl ?_ | refine JL.gskipU rfl rfl rfl rfl rfl ?_ | refine JL.gstep rfl rfl rfl (y_leqB rfl rfl hb3) rfl rfl ?_)
          all_goals (refine JL.step (y_pick rfl rfl rfl) rfl rfl rfl ?_)
          all_goals (refine JL.step (y_assign rfl) rfl rfl rfl ?_)
          all_goals refine JL.nil (JE.then_normal ?_)
          all_goals
           refine J.ret (JE.block_ret (JE.then_ret ?_))
           refine JE.ret1 (.inl rfl) rfl rfl (by (first | exact RV.tmp rfl | exact RV.cell1 hT rfl rfl rfl (by (exact Rd1.row (by (repeat (first | exact Pick.head | apply Pick.tail | apply Pick.app))) (by rfl))) | exact RV.cellN hT rfl rfl rfl (by (first | exact RdN.rowAll (by (repeat (first | exact Pick.head | apply Pick.tail | apply Pick.app))) | exact RdN.own (by (repeat (first | exact Pick.head | apply Pick.tail | apply Pick.app))))) (by (first | rfl | assumption | (simp; done) | omega)))) ?_
           refine ⟨?_, fun w h => h.sup (by (repeat (first | exact Sup.refl | apply Sup.cons (by (repeat (first | exact Pick.head | apply Pick.tail | apply Pick.app))) | apply Sup.app | apply Sup.skip | apply Sup.skips)))⟩
           first
           | (have hk1 : r.kind = 1 := by omega
              rw [r1 hk1]
              first | rfl | (cases bn <;> cases bt <;> cases bs <;> cases bc <;> cases be <;> rfl) | (simp_all; done))
           | (have hk1 : r.kind = 2 ∨ r.kind = 6 := by omega
              rw [r2 hk1]
              first | rfl | (cases bk <;> cases bn <;> cases bt <;> cases bs <;> cases bc <;> cases be <;> rfl) | (simp_all; done))
           | (have hk1 : r.kind = 3 := by omega
              rw [r3 hk1]
              first
              | (have zz := hall2
                 rw [hall2.1, decide_eq_true hall2.2, hb3']
                 first | rfl | (cases bk <;> cases bt <;> cases bs <;> cases bc <;> cases be <;> cases b3 <;> rfl) | (simp_all; done))
              | (have zz := hbq
                 have hyx : y = x := by
                  refine Decidable.of_not_not fun q1 => ?_
                  rw [decide_eq_false q1] at hbq
                  first | cases hbq | (rw [hbq] at h; cases h)
                 have hn : ¬ r.names.Nodup := by
                  intro q1
                  have := (List.getElem?_inj (by omega) q1).1 (by rw [hy, hyx, hx] : r.names[j]? = r.names[i]?)
                  omega
                 rw [decide_eq_false hn, Bool.and_false]
                 rfl)
              | (have hn : r.names.all nameB = false := by
                  rw [Bool.eq_false_iff]
                  intro q1
                  have := List.all_eq_true.1 q1 x (List.mem_of_getElem? hx)
                  rw [hbx] at this
                  cases this
                 rw [hn]
                 rfl))
           | (have hk1 : r.kind = 4 := by omega
              rw [r4 hk1, hok]
              first | rfl | (cases bk <;> cases bn <;> cases bt <;> cases bc <;> cases be <;> cases b4 <;> cases b5 <;> rfl) | (simp_all; done))
           | (have hk1 : r.kind = 5 := by omega
              rw [r5 hk1]
              first
              | (have zz := hall3
                 rw [hall3, hb6']
                 first | rfl | (cases bk <;> cases bn <;> cases bs <;> cases bc <;> cases be <;> cases b6 <;> rfl) | (simp_all; done))
              | (have hn : r.texts.all textB = false := by
                  rw [Bool.eq_false_iff]
                  intro q1
                  have := List.all_eq_true.1 q1 x (List.mem_of_getElem? hx)
                  rw [hbx] at this
                  cases this
                 rw [hn]
                 rfl))
           | (have hk1 : r.kind = 7 := by omega
              rw [r7 hk1]
              first
              | (have zz := hall4
                 rw [hall4]
                 first | rfl | (cases bk <;> cases bn <;> cases bt <;> cases bs <;> cases be <;> rfl) | (simp_all; done))
              | (have hn : okN z = false := by
                  rw [Bool.eq_false_iff]
                  intro q1
                  obtain ⟨e1, e2, _⟩ := okN_nat q1
                  first | omega | (simp_all; done) | (simp_all; omega)
                 have hm := List.mem_of_getElem? hz
                 simp only [List.mem_cons, List.not_mem_nil, or_false] at hm
                 have hn2 : (okN r.out && okN r.acked && okN r.inn) = false := by
                  rcases hm with rfl | rfl | rfl
                  · rw [hn]; rfl
                  · rw [hn, Bool.and_false]; rfl
                  · rw [hn, Bool.and_false]
                 rw [hn2]
                 rfl))
           | (have hk1 : r.kind = 8 := by omega
              rw [r8 hk1]
              first | rfl | (cases bk <;> cases bn <;> cases bt <;> cases bs <;> cases bc <;> cases bw <;> rfl) | (simp_all; done))
           | rw [r9 (by omega) (by omega) (by omega) (by omega) (by omega) (by omega) (by omega) (by omega)]
        all_goals refine JE.then_normal ?_
        all_goals
         refine J.seq (J.block (J.seq ?_))
         have hlt : i < r.names.length := by omega
         obtain ⟨x, hx⟩ : ∃ x, r.names[i]? = some x := ⟨r.names[i]'(by omega), List.getElem?_eq_getElem _⟩
         obtain ⟨g1, o1, rfl, hrd1⟩ := h1.addr (by omega)
         obtain ⟨hxB, hxl⟩ := hr.nb x (List.mem_of_getElem? hx)
         obtain ⟨bx, hbx⟩ : ∃ b, nameB x = b := ⟨_, rfl⟩
         have hcap := h1.le
         refine J.region (JL.step (y_move rfl) rfl rfl rfl ?_)
         refine JL.step (y_indexAddr_slice hT rfl rfl rfl rfl rfl (by (first | omega | exact Nat.le_of_ble_eq_true rfl | decide | (simp; omega))) (by (first | omega | exact Nat.le_of_ble_eq_true rfl | decide | (simp; omega)))) rfl rfl rfl ?_
         refine JL.step (y_load1 hT rfl rfl rfl (Rd1.elem (i := i) (v := .string (strOf x)) ((hrd1 []).cons _) (strs_at hx))) rfl rfl rfl ?_
         refine JL.step (y_assign rfl) rfl rfl rfl (JL.step (y_assign rfl) rfl rfl rfl ?_)
         refine JL.nil (JE.then_normal (J.seq (J.seq ?_)))
         rcases bx with _ | _
         all_goals
          refine J.region (JL.step (y_move rfl) rfl rfl rfl ?_)
          refine JL.loud rfl (l_callF e48 rfl rfl (hbx ▸ rname_spec E x _ hxB (by omega)) ?_)
          rintro _ _ ⟨rfl, rfl⟩
          refine JL.step (y_not rfl) rfl rfl rfl ?_
          refine JL.nil ?_
         all_goals refine JE.then_normal ?_
         all_goals
          first | apply J.cond_dec rfl | apply J.cond rfl
          case' ht =>
           intro h
           try (first | (exfalso; omega) | (cases h; done) | (exfalso; simp at h; done) | subst h)
           all_goals
            refine J.seq (J.region (JL.step (y_assign rfl) rfl rfl rfl ?_))
            refine JL.nil (JE.then_normal (J.ret (JE.then_ret (JE.block_ret (JE.then_ret (JE.then_ret (JE.block_ret (JE.then_ret (JE.block_ret (JE.then_ret ?_))))))))))
            refine JE.ret1 (.inl rfl) rfl rfl (by (first | exact RV.tmp rfl | exact RV.cell1 hT rfl rfl rfl (by (exact Rd1.row (by (repeat (first | exact Pick.head | apply Pick.tail | apply Pick.app))) (by rfl))) | exact RV.cellN hT rfl rfl rfl (by (first | exact RdN.rowAll (by (repeat (first | exact Pick.head | apply Pick.tail | apply Pick.app))) | exact RdN.own (by (repeat (first | exact Pick.head | apply Pick.tail | apply Pick.app))))) (by (first | rfl | assumption | (simp; done) | omega)))) ?_
            refine ⟨?_, fun w h => h.sup (by (repeat (first | exact Sup.refl | apply Sup.cons (by (repeat (first | exact Pick.head | apply Pick.tail | apply Pick.app))) | apply Sup.app | apply Sup.skip | apply Sup.skips)))⟩
            first
            | (have hk1 : r.kind = 1 := by omega
               rw [r1 hk1]
               first | rfl | (cases bn <;> cases bt <;> cases bs <;> cases bc <;> cases be <;> rfl) | (simp_all; done))
            | (have hk1 : r.kind = 2 ∨ r.kind = 6 := by omega
               rw [r2 hk1]
               first | rfl | (cases bk <;> cases bn <;> cases bt <;> cases bs <;> cases bc <;> cases be <;> rfl) | (simp_all; done))
            | (have hk1 : r.kind = 3 := by omega
               rw [r3 hk1]
               first
               | (have zz := hall2
                  rw [hall2.1, decide_eq_true hall2.2, hb3']
                  first | rfl | (cases bk <;> cases bt <;> cases bs <;> cases bc <;> cases be <;> cases b3 <;> rfl) | (simp_all; done))
               | (have zz := hbq
                  have hyx : y = x := by
                   refine Decidable.of_not_not fun q1 => ?_
                   rw [decide_eq_false q1] at hbq
                   first | cases hbq | (rw [hbq] at h; cases h)
                  have hn : ¬ r.names.Nodup := by
                   intro q1
                   have := (List.getElem?_inj (by omega) q1).1 (by rw [hy, hyx, hx] : r.names[j]? = r.names[i]?)
                   omega
                  rw [decide_eq_false hn, Bool.and_false]
                  rfl)
               | (have hn : r.names.all nameB = false := by
                   rw [Bool.eq_false_iff]
                   intro q1
                   have := List.all_eq_true.1 q1 x (List.mem_of_getElem? hx)
                   rw [hbx] at this
                   cases this
                  rw [hn]
                  rfl))
            | (have hk1 : r.kind = 4 := by omega
               rw [r4 hk1, hok]
               first | rfl | (cases bk <;> cases bn <;> cases bt <;> cases bc <;> cases be <;> cases b4 <;> cases b5 <;> rfl) | (simp_all; done))
            | (have hk1 : r.kind = 5 := by omega
               rw [r5 hk1]
               first
               | (have zz := hall3
                  rw [hall3, hb6']
                  first | rfl | (cases bk <;> cases bn <;> cases bs <;> cases bc <;> cases be <;> cases b6 <;> rfl) | (simp_all; done))
               | (have hn : r.texts.all textB = false := by
                   rw [Bool.eq_false_iff]
                   intro q1
                   have := List.all_eq_true.1 q1 x (List.mem_of_getElem? hx)
                   rw [hbx] at this
                   cases this
                  rw [hn]
                  rfl))
            | (have hk1 : r.kind = 7 := by omega
               rw [r7 hk1]
               first
               | (have zz := hall4
                  rw [hall4]
                  first | rfl | (cases bk <;> cases bn <;> cases bt <;> cases bs <;> cases be <;> rfl) | (simp_all; done))
               | (have hn : okN z = false := by
                   rw [Bool.eq_false_iff]
                   intro q1
                   obtain ⟨e1, e2, _⟩ := okN_nat q1
                   first | omega | (simp_all; done) | (simp_all; omega)
                  have hm := List.mem_of_getElem? hz
                  simp only [List.mem_cons, List.not_mem_nil, or_false] at hm
                  have hn2 : (okN r.out && okN r.acked && okN r.inn) = false := by
                   rcases hm with rfl | rfl | rfl
                   · rw [hn]; rfl
                   · rw [hn, Bool.and_false]; rfl
                   · rw [hn, Bool.and_false]
                  rw [hn2]
                  rfl))
            | (have hk1 : r.kind = 8 := by omega
               rw [r8 hk1]
               first | rfl | (cases bk <;> cases bn <;> cases bt <;> cases bs <;> cases bc <;> cases bw <;> rfl) | (simp_all; done))
            | rw [r9 (by omega) (by omega) (by omega) (by omega) (by omega) (by omega) (by omega) (by omega)]
          case' hf =>
           intro h
           try (first | (exfalso; omega) | (cases h; done) | (exfalso; simp at h; done) | subst h)
           all_goals
            refine J.skip ?_
         all_goals refine JE.then_normal ?_
         all_goals
          refine J.seq (J.region (JL.step (y_fieldAddr hT rfl rfl rfl rfl rfl rfl) rfl rfl rfl ?_))
          refine JL.step (y_load1 hT rfl rfl rfl (Rd1.row (by (repeat (first | exact Pick.head | apply Pick.tail | apply Pick.app))) (hat 0))) rfl rfl rfl ?_
          refine JL.step (y_move rfl) rfl rfl rfl ?_
          refine JL.step (v := .slice (some ⟨g1, o1, none⟩) i c1) (Y.cast (y_slice (b := g1) (off := o1) (lo := 0) (hi := i) hT rfl rfl rfl rfl (.inl ⟨rfl, rfl⟩) (.inr ⟨_, _, _, rfl, rfl, rfl⟩) (Nat.zero_le _) (by omega) (by omega) (.inl rfl)) (by rw [if_neg (by omega)]; rfl)) rfl rfl rfl ?_
          refine JL.step (y_len_slice hT rfl rfl rfl) rfl rfl rfl (JL.step (y_move rfl) rfl rfl rfl ?_)
          refine JL.nil (JE.then_normal (J.block ?_))
          refine J.loop (α := Nat) (fun j => j ≤ i ∧ ∀ y ∈ r.names.take j, y ≠ x) (fun j => [(1, .pointer (some ⟨b1, 0, none⟩)), (3, .bool bk), (4, .bool bn), (5, .bool bt), (6, .bool bs), (7, .bool bc), (8, .bool be), (89, .slice (some ⟨g1, o1, none⟩) r.names.length c1), (90, .int .i64 r.names.length), (91, .int .i64 i), (10, .string (strOf x)), (102, .slice (some ⟨g1, o1, none⟩) i c1), (103, .int .i64 i), (104, .int .i64 j)]) (fun _ => row b1 36 cs :: l) (fun j => i - j) 0 ⟨Nat.zero_le _, by simp⟩ ⟨rfl, rfl, rfl, rfl, rfl, rfl, rfl, rfl, rfl, rfl, rfl, rfl, rfl, rfl, trivial⟩ (fun w h => h) ?_
          rintro j ⟨hj, hno⟩
          try dsimp only
          refine J.seq (J.region (JL.step (y_lss rfl rfl) rfl rfl rfl ?_))
          refine JL.nil (JE.then_normal (J.seq ?_))
          first | apply J.cond_dec rfl | apply J.cond rfl
          case' ht =>
           intro h
           try (first | (exfalso; omega) | (cases h; done) | (exfalso; simp at h; done) | subst h)
           all_goals
            refine J.skip ?_
          case' hf =>
           intro h
           try (first | (exfalso; omega) | (cases h; done) | (exfalso; simp at h; done) | subst h)
           all_goals
            refine J.exit (JE.then_exit (JE.then_exit (JE.block_exit (JE.block_normal (JE.then_normal (J.region ?_))))))
            refine JL.step (y_add rfl rfl (by (first | exact wrap_i64 (by omega) (by omega) | rfl))) rfl rfl rfl ?_
            refine JL.step (y_move rfl) rfl rfl rfl ?_
            refine JL.nil ?_
            obtain rfl : j = i := by omega
            exact JE.round (s := j) (j + 1) ⟨by omega, by
             rw [List.take_add_one, hx, Option.toList_some, List.all_append, hall, List.all_cons, hbx]
             rfl, by
             rw [List.take_add_one, hx, Option.toList_some]
             refine List.nodup_append.2 ⟨hnd, by simp, ?_⟩
             intro a ha b hb
             rw [List.mem_singleton] at hb
             rw [hb]
             exact hno a ha⟩ ⟨rfl, rfl, rfl, rfl, rfl, rfl, rfl, rfl, rfl, rfl, trivial⟩ (fun w h => h) (by omega)
          all_goals refine JE.then_normal ?_
          all_goals
           refine J.seq (J.block (J.seq ?_))
           have hjt : j < i := by omega
           obtain ⟨y, hy⟩ : ∃ y, r.names[j]? = some y := ⟨r.names[j]'(by omega), List.getElem?_eq_getElem _⟩
           obtain ⟨bq, hbq⟩ : ∃ b, b = decide (y = x) := ⟨_, rfl⟩
           refine J.region ?_
           refine JL.step (y_indexAddr_slice hT rfl rfl rfl rfl rfl (by (first | omega | exact Nat.le_of_ble_eq_true rfl | decide | (simp; omega))) (by (first | omega | exact Nat.le_of_ble_eq_true rfl | decide | (simp; omega)))) rfl rfl rfl ?_
           refine JL.step (y_load1 hT rfl rfl rfl (Rd1.elem (i := j) (v := .string (strOf y)) ((hrd1 []).cons _) (strs_at hy))) rfl rfl rfl ?_
           refine JL.step (y_assign rfl) rfl rfl rfl ?_
           refine JL.nil (JE.then_normal (J.seq (J.region (JL.step (y_move rfl) rfl rfl rfl (JL.step (y_move rfl) rfl rfl rfl ?_)))))
           refine JL.step (y_eqS (hr.nb y (List.mem_of_getElem? hy)).1 hxB rfl rfl hbq) rfl rfl rfl ?_
           refine JL.nil (JE.then_normal ?_)
           first | apply J.cond_dec rfl | apply J.cond rfl
           case' ht =>
            intro h
            try (first | (exfalso; omega) | (cases h; done) | (exfalso; simp at h; done) | subst h)
            all_goals
             refine J.seq (J.region (JL.step (y_assign rfl) rfl rfl rfl ?_))
             refine JL.nil (JE.then_normal (J.ret (JE.block_ret (JE.then_ret (JE.then_ret (JE.block_ret (JE.block_ret (JE.then_ret (JE.then_ret (JE.block_ret (JE.then_ret (JE.block_ret (JE.then_ret ?_)))))))))))))
             refine JE.ret1 (.inl rfl) rfl rfl (by (first | exact RV.tmp rfl | exact RV.cell1 hT rfl rfl rfl (by (exact Rd1.row (by (repeat (first | exact Pick.head | apply Pick.tail | apply Pick.app))) (by rfl))) | exact RV.cellN hT rfl rfl rfl (by (first | exact RdN.rowAll (by (repeat (first | exact Pick.head | apply Pick.tail | apply Pick.app))) | exact RdN.own (by (repeat (first | exact Pick.head | apply Pick.tail | apply Pick.app))))) (by (first | rfl | assumption | (simp; done) | omega)))) ?_
             refine ⟨?_, fun w h => h.sup (by (repeat (first | exact Sup.refl | apply Sup.cons (by (repeat (first | exact Pick.head | apply Pick.tail | apply Pick.app))) | apply Sup.app | apply Sup.skip | apply Sup.skips)))⟩
             first
             | (have hk1 : r.kind = 1 := by omega
                rw [r1 hk1]
                first | rfl | (cases bn <;> cases bt <;> cases bs <;> cases bc <;> cases be <;> rfl) | (simp_all; done))
             | (have hk1 : r.kind = 2 ∨ r.kind = 6 := by omega
                rw [r2 hk1]
                first | rfl | (cases bk <;> cases bn <;> cases bt <;> cases bs <;> cases bc <;> cases be <;> rfl) | (simp_all; done))
             | (have hk1 : r.kind = 3 := by omega
                rw [r3 hk1]
                first
                | (have zz := hall2
                   rw [hall2.1, decide_eq_true hall2.2, hb3']
                   first | rfl | (cases bk <;> cases bt <;> cases bs <;> cases bc <;> cases be <;> cases b3 <;> rfl) | (simp_all; done))
                | (have zz := hbq
                   have hyx : y = x := by
                    refine Decidable.of_not_not fun q1 => ?_
                    rw [decide_eq_false q1] at hbq
                    first | cases hbq | (rw [hbq] at h; cases h)
                   have hn : ¬ r.names.Nodup := by
                    intro q1
                    have := (List.getElem?_inj (by omega) q1).1 (by rw [hy, hyx, hx] : r.names[j]? = r.names[i]?)
                    omega
                   rw [decide_eq_false hn, Bool.and_false]
                   rfl)
                | (have hn : r.names.all nameB = false := by
                    rw [Bool.eq_false_iff]
                    intro q1
                    have := List.all_eq_true.1 q1 x (List.mem_of_getElem? hx)
                    rw [hbx] at this
                    cases this
                   rw [hn]
                   rfl))
             | (have hk1 : r.kind = 4 := by omega
                rw [r4 hk1, hok]
                first | rfl | (cases bk <;> cases bn <;> cases bt <;> cases bc <;> cases be <;> cases b4 <;> cases b5 <;> rfl) | (simp_all; done))
             | (have hk1 : r.kind = 5 := by omega
                rw [r5 hk1]
                first
                | (have zz := hall3
                   rw [hall3, hb6']
                   first | rfl | (cases bk <;> cases bn <;> cases bs <;> cases bc <;> cases be <;> cases b6 <;> rfl) | (simp_all; done))
                | (have hn : r.texts.all textB = false := by
                    rw [Bool.eq_false_iff]
                    intro q1
                    have := List.all_eq_true.1 q1 x (List.mem_of_getElem? hx)
                    rw [hbx] at this
                    cases this
                   rw [hn]
                   rfl))
             | (have hk1 : r.kind = 7 := by omega
                rw [r7 hk1]
                first
                | (have zz := hall4
                   rw [hall4]
                   first | rfl | (cases bk <;> cases bn <;> cases bt <;> cases bs <;> cases be <;> rfl) | (simp_all; done))
                | (have hn : okN z = false := by
                    rw [Bool.eq_false_iff]
                    intro q1
                    obtain ⟨e1, e2, _⟩ := okN_nat q1
                    first | omega | (simp_all; done) | (simp_all; omega)
                   have hm := List.mem_of_getElem? hz
                   simp only [List.mem_cons, List.not_mem_nil, or_false] at hm
                   have hn2 : (okN r.out && okN r.acked && okN r.inn) = false := by
                    rcases hm with rfl | rfl | rfl
                    · rw [hn]; rfl
                    · rw [hn, Bool.and_false]; rfl
                    · rw [hn, Bool.and_false]
                   rw [hn2]
                   rfl))
             | (have hk1 : r.kind = 8 := by omega
                rw [r8 hk1]
                first | rfl | (cases bk <;> cases bn <;> cases bt <;> cases bs <;> cases bc <;> cases bw <;> rfl) | (simp_all; done))
             | rw [r9 (by omega) (by omega) (by omega) (by omega) (by omega) (by omega) (by omega) (by omega)]
           case' hf =>
            intro h
            try (first | (exfalso; omega) | (cases h; done) | (exfalso; simp at h; done) | subst h)
            all_goals
             refine J.skip ?_
           all_goals refine JE.block_normal (JE.then_normal ?_)
           all_goals
            refine J.region ?_
            refine JL.step (y_add rfl rfl (by (first | exact wrap_i64 (by omega) (by omega) | rfl))) rfl rfl rfl ?_
            refine JL.step (y_move rfl) rfl rfl rfl ?_
            refine JL.nil ?_
          all_goals
           have hyx : ¬ y = x := by
            intro q1
            rw [decide_eq_true q1] at hbq
            first | cases hbq | (rw [hbq] at h; cases h)
           exact JE.round (s := j) (j + 1) ⟨by omega, fun z hz => by
            rw [List.take_add_one, hy, Option.toList_some, List.mem_append, List.mem_singleton] at hz
            rcases hz with hz | rfl
            · exact hno z hz
            · exact hyx⟩ ⟨rfl, rfl, rfl, rfl, rfl, rfl, rfl, rfl, rfl, rfl, rfl, rfl, rfl, rfl, trivial⟩ (fun w h => h) (by omega)
      case' hf =>
       intro h
       try (first | (exfalso; omega) | (cases h; done) | (exfalso; simp at h; done) | subst h)
       all_goals
        refine J.seq (J.region (JL.step (y_eql rfl rfl) rfl rfl rfl (JL.step (y_assign rfl) rfl rfl rfl ?_)))
        refine JL.nil (JE.then_normal ?_)
        first | apply J.cond_dec rfl | apply J.cond rfl
        case' ht =>
         intro h
         try (first | (exfalso; omega) | (cases h; done) | (exfalso; simp at h; done) | subst h)
         all_goals
          refine J.seq ?_
          obtain ⟨b4, hb4⟩ : ∃ b, decide (0 ≤ r.seq) = b := ⟨_, rfl⟩
          obtain ⟨b5, hb5⟩ : ∃ b, decide (r.seq ≤ 999999999) = b := ⟨_, rfl⟩
          have hok : okN r.seq = (b4 && b5) := by unfold okN; rw [hb4, hb5]
          refine J.region (JL.step (y_move rfl) rfl rfl rfl (JL.step (y_move rfl) rfl rfl rfl ?_))
          all_goals (first | (refine JL.gsplit_dec rfl rfl rfl (fun h => ?_) (fun h => ?_) <;> try (first | (exfalso; omega) | exact absurd rfl h)) | (refine JL.gsplit rfl rfl rfl (fun h => ?_) (fun h => ?_) <;> try (first | cases h | (exfalso; simp at h; done))) | skip)
          all_goals (first | refine JL.gskip rfl rfl rfl rfl rfl rfl ?_ | refine JL.gskipU rfl rfl rfl rfl rfl ?_ | refine JL.gstep rfl rfl rfl (y_move rfl) rfl rfl ?_)
          all_goals (refine JL.step (y_pick rfl rfl rfl) rfl rfl rfl ?_)
          all_goals (refine JL.step (y_move rfl) rfl rfl rfl ?_)
          all_goals (first | (refine JL.gsplit_dec rfl rfl rfl (fun h => ?_) (fun h => ?_) <;> try (first | (exfalso; omega) | exact absurd rfl h)) | (refine JL.gsplit rfl rfl rfl (fun h => ?_) (fun h => ?_) <;> try (first | cases h | (exfalso; simp at h; done))) | skip)
          all_goals (first | refine JL.gskip rfl rfl rfl rfl rfl rfl ?_ | refine JL.gskipU rfl rfl rfl rfl rfl ?_ | refine JL.gstep rfl rfl rfl (y_move rfl) rfl rfl ?_)
          all_goals (refine JL.step (y_pick rfl rfl rfl) rfl rfl rfl ?_)
          all_goals (refine JL.step (y_move rfl) rfl rfl rfl ?_)
          all_goals (first | (refine JL.gsplit_dec rfl rfl rfl (fun h => ?_) (fun h => ?_) <;> try (first | (exfalso; omega) | exact absurd rfl h)) | (refine JL.gsplit rfl rfl rfl (fun h => ?_) (fun h => ?_) <;> try (first | cases h | (exfalso; simp at h; done))) | skip)
          all_goals (first | refine JL.gskip rfl rfl rfl rfl rfl rfl ?_ | refine JL.gskipU rfl rfl rfl rfl rfl ?_ | refine JL.gstep rfl rfl rfl (y_move rfl) rfl rfl ?_)
          all_goals (refine JL.step (y_pick rfl rfl rfl) rfl rfl rfl ?_)
          all_goals (refine JL.step (y_move rfl) rfl rfl rfl ?_)
          all_goals (first | (refine JL.gsplit_dec rfl rfl rfl (fun h => ?_) (fun h => ?_) <;> try (first | (exfalso; omega) | exact absurd rfl h)) | (refine JL.gsplit rfl rfl rfl (fun h => ?_) (fun h => ?_) <;> try (first | cases h | (exfalso; simp at h; done))) | skip)
          all_goals (first | refine JL.gskip rfl rfl rfl rfl rfl rfl ?_ | refine JL.gskipU rfl rfl rfl rfl rfl ?_ | refine JL.gstep rfl rfl rfl (y_move rfl) rfl rfl ?_)
          all_goals (refine JL.step (y_pick rfl rfl rfl) rfl rfl rfl ?_)
          all_goals (refine JL.step (y_move rfl) rfl rfl rfl ?_)
          all_goals (first | (refine JL.gsplit_dec rfl rfl rfl (fun h => ?_) (fun h => ?_) <;> try (first | (exfalso; omega) | exact absurd rfl h)) | (refine JL.gsplit rfl rfl rfl (fun h => ?_) (fun h => ?_) <;> try (first | cases h | (exfalso; simp at h; done))) | skip)
          all_goals (first | refine JL.gskip rfl rfl rfl rfl rfl rfl ?_ | refine JL.gskipU rfl rfl rfl rfl rfl ?_ | refine JL.gstep rfl rfl rfl (y_fieldAddr hT rfl rfl rfl rfl rfl rfl) rfl rfl ?_)
          all_goals (first | refine JL.gskip rfl rfl rfl rfl rfl rfl ?_ | refine JL.gskipU rfl rfl rfl rfl rfl ?_ | refine JL.gstep rfl rfl rfl (y_load1 hT rfl rfl rfl (Rd1.row (by (repeat (first | exact Pick.head | apply Pick.tail | apply Pick.app))) (hat 2))) rfl rfl ?_)
          all_goals (first | refine JL.gskip rfl rfl rfl rfl rfl rfl ?_ | refine JL.gskipU rfl rfl rfl rfl rfl ?_ | refine JL.gstep rfl rfl rfl (y_geqB rfl rfl hb4) rfl rfl ?_)
          all_goals (refine JL.step (y_pick rfl rfl rfl) rfl rfl rfl ?_)
          all_goals (refine JL.step (y_move rfl) rfl rfl rfl ?_)
          all_goals (first | (refine JL.gsplit_dec rfl rfl rfl (fun h => ?_) (fun h => ?_) <;> try (first | (exfalso; omega) | exact absurd rfl h)) | (refine JL.gsplit rfl rfl rfl (fun h => ?_) (fun h => ?_) <;> try (first | cases h | (exfalso; simp at h; done))) | skip)
          all_goals (first | refine JL.gskip rfl rfl rfl rfl rfl rfl ?_ | refine JL.gskipU rfl rfl rfl rfl rfl ?_ | refine JL.gstep rfl rfl rfl (y_fieldAddr hT rfl rfl rfl rfl rfl rfl) rfl rfl ?_)
          all_goals (first | refine JL.gskip rfl rfl rfl rfl rfl rfl ?_ | refine JL.gskipU rfl rfl rfl rfl rfl ?_ | refine JL.gstep rfl rfl rfl (y_load1 hT rfl rfl rfl (Rd1.row (by (repeat (first | exact Pick.head | apply Pick.tail | apply Pick.app))) (hat 2))) rfl rfl ?_)
          all_goals (first | refine JL.gskip rfl rfl rfl rfl rfl rfl ?_ | refine JL.gskipU rfl rfl rfl rfl rfl ?_ | refine JL.gstep rfl rfl rfl (y_leqB rfl rfl hb5) rfl rfl ?_)
          all_goals (refine JL.step (y_pick rfl rfl rfl) rfl rfl rfl ?_)
          all_goals (refine JL.step (y_assign rfl) rfl rfl rfl ?_)
          all_goals refine JL.nil (JE.then_normal ?_)
          all_goals
           refine J.ret (JE.block_ret (JE.then_ret ?_))
           refine JE.ret1 (.inl rfl) rfl rfl (by (first | exact RV.tmp rfl | exact RV.cell1 hT rfl rfl rfl (by (exact Rd1.row (by (repeat (first | exact Pick.head | apply Pick.tail | apply Pick.app))) (by rfl))) | exact RV.cellN hT rfl rfl rfl (by (first | exact RdN.rowAll (by (repeat (first | exact Pick.head | apply Pick.tail | apply Pick.app))) | exact RdN.own (by (repeat (first | exact Pick.head | apply Pick.tail | apply Pick.app))))) (by (first | rfl | assumption | (simp; done) | omega)))) ?_
           refine ⟨?_, fun w h => h.sup (by (repeat (first | exact Sup.refl | apply Sup.cons (by (repeat (first | exact Pick.head | apply Pick.tail | apply Pick.app))) | apply Sup.app | apply Sup.skip | apply Sup.skips)))⟩
           first
           | (have hk1 : r.kind = 1 := by omega
              rw [r1 hk1]
              first | rfl | (cases bn <;> cases bt <;> cases bs <;> cases bc <;> cases be <;> rfl) | (simp_all; done))
           | (have hk1 : r.kind = 2 ∨ r.kind = 6 := by omega
              rw [r2 hk1]
              first | rfl | (cases bk <;> cases bn <;> cases bt <;> cases bs <;> cases bc <;> cases be <;> rfl) | (simp_all; done))
           | (have hk1 : r.kind = 3 := by omega
              rw [r3 hk1]
              first
              | (have zz := hall2
                 rw [hall2.1, decide_eq_true hall2.2, hb3']
                 first | rfl | (cases bk <;> cases bt <;> cases bs <;> cases bc <;> cases be <;> cases b3 <;> rfl) | (simp_all; done))
              | (have zz := hbq
                 have hyx : y = x := by
                  refine Decidable.of_not_not fun q1 => ?_
                  rw [decide_eq_false q1] at hbq
                  first | cases hbq | (rw [hbq] at h; cases h)
                 have hn : ¬ r.names.Nodup := by
                  intro q1
                  have := (List.getElem?_inj (by omega) q1).1 (by rw [hy, hyx, hx] : r.names[j]? = r.names[i]?)
                  omega
                 rw [decide_eq_false hn, Bool.and_false]
                 rfl)
              | (have hn : r.names.all nameB = false := by
                  rw [Bool.eq_false_iff]
                  intro q1
                  have := List.all_eq_true.1 q1 x (List.mem_of_getElem? hx)
                  rw [hbx] at this
                  cases this
                 rw [hn]
                 rfl))
           | (have hk1 : r.kind = 4 := by omega
              rw [r4 hk1, hok]
              first | rfl | (cases bk <;> cases bn <;> cases bt <;> cases bc <;> cases be <;> cases b4 <;> cases b5 <;> rfl) | (simp_all; done))
           | (have hk1 : r.kind = 5 := by omega
              rw [r5 hk1]
              first
              | (have zz := hall3
                 rw [hall3, hb6']
                 first | rfl | (cases bk <;> cases bn <;> cases bs <;> cases bc <;> cases be <;> cases b6 <;> rfl) | (simp_all; done))
              | (have hn : r.texts.all textB = false := by
                  rw [Bool.eq_false_iff]
                  intro q1
                  have := List.all_eq_true.1 q1 x (List.mem_of_getElem? hx)
                  rw [hbx] at this
                  cases this
                 rw [hn]
                 rfl))
           | (have hk1 : r.kind = 7 := by omega
              rw [r7 hk1]
              first
              | (have zz := hall4
                 rw [hall4]
                 first | rfl | (cases bk <;> cases bn <;> cases bt <;> cases bs <;> cases be <;> rfl) | (simp_all; done))
              | (have hn : okN z = false := by
                  rw [Bool.eq_false_iff]
                  intro q1
                  obtain ⟨e1, e2, _⟩ := okN_nat q1
                  first | omega | (simp_all; done) | (simp_all; omega)
                 have hm := List.mem_of_getElem? hz
                 simp only [List.mem_cons, List.not_mem_nil, or_false] at hm
                 have hn2 : (okN r.out && okN r.acked && okN r.inn) = false := by
                  rcases hm with rfl | rfl | rfl
                  · rw [hn]; rfl
                  · rw [hn, Bool.and_false]; rfl
                  · rw [hn, Bool.and_false]
                 rw [hn2]
                 rfl))
           | (have hk1 : r.kind = 8 := by omega
              rw [r8 hk1]
              first | rfl | (cases bk <;> cases bn <;> cases bt <;> cases bs <;> cases bc <;> cases bw <;> rfl) | (simp_all; done))
           | rw [r9 (by omega) (by omega) (by omega) (by omega) (by omega) (by omega) (by omega) (by omega)]
        case' hf =>
         intro h
         try (first | (exfalso; omega) | (cases h; done) | (exfalso; simp at h; done) | subst h)
         all_goals
          refine J.seq (J.region (JL.step (y_eql rfl rfl) rfl rfl rfl (JL.step (y_assign rfl) rfl rfl rfl ?_)))
          refine JL.nil (JE.then_normal ?_)
          first | apply J.cond_dec rfl | apply J.cond rfl
          case' ht =>
           intro h
           try (first | (exfalso; omega) | (cases h; done) | (exfalso; simp at h; done) | subst h)
           all_goals
            refine J.seq (J.seq (J.region (JL.step (y_fieldAddr hT rfl rfl rfl rfl rfl rfl) rfl rfl rfl ?_)))
            refine JL.step (y_load1 hT rfl rfl rfl (Rd1.row (by (repeat (first | exact Pick.head | apply Pick.tail | apply Pick.app))) (hat 1))) rfl rfl rfl ?_
            refine JL.step (y_len_slice hT rfl rfl rfl) rfl rfl rfl (JL.step (y_move rfl) rfl rfl rfl ?_)
            refine JL.nil (JE.then_normal (J.block ?_))
            refine J.loop (α := Nat) (fun i => i ≤ r.texts.length ∧ (r.texts.take i).all textB = true) (fun i => [(1, .pointer (some ⟨b1, 0, none⟩)), (3, .bool bk), (4, .bool bn), (5, .bool bt), (6, .bool bs), (7, .bool bc), (8, .bool be), (160, .slice p2 r.texts.length c2), (161, .int .i64 r.texts.length), (162, .int .i64 i)]) (fun _ => row b1 36 cs :: l) (fun i => r.texts.length - i) 0 ⟨Nat.zero_le _, by simp⟩ ⟨rfl, rfl, rfl, rfl, rfl, rfl, rfl, rfl, rfl, rfl, trivial⟩ (fun w h => h) ?_
            rintro i ⟨hi, hall⟩
            try dsimp only
            refine J.seq (J.region (JL.step (y_lss rfl rfl) rfl rfl rfl ?_))
            refine JL.nil (JE.then_normal (J.seq ?_))
            first | apply J.cond_dec rfl | apply J.cond rfl
            case' ht =>
             intro h
             try (first | (exfalso; omega) | (cases h; done) | (exfalso; simp at h; done) | subst h)
             all_goals
              refine J.skip ?_
            case' hf =>
             intro h
             try (first | (exfalso; omega) | (cases h; done) | (exfalso; simp at h; done) | subst h)
             all_goals
              refine J.exit (JE.then_exit (JE.then_exit (JE.block_exit (JE.then_normal (J.seq ?_)))))
              have hall3 : r.texts.all textB = true := by
               obtain rfl : i = r.texts.length := by omega
               rwa [List.take_length] at hall
              obtain ⟨b6, hb6⟩ : ∃ b, decide ((r.texts.length : Int) ≤ 6) = b := ⟨_, rfl⟩
              have hb6' : decide (r.texts.length ≤ 6) = b6 := by rw [← hb6]; exact decide_eq_decide.2 (by omega)
              refine J.region (JL.step (y_move rfl) rfl rfl rfl (JL.step (y_move rfl) rfl rfl rfl ?_))
              all_goals (first | (refine JL.gsplit_dec rfl rfl rfl (fun h => ?_) (fun h => ?_) <;> try (first | (exfalso; omega) | exact absurd rfl h)) | (refine JL.gsplit rfl rfl rfl (fun h => ?_) (fun h => ?_) <;> try (first | cases h | (exfalso; simp at h; done))) | skip)
              all_goals (first | refine JL.gskip rfl rfl rfl rfl rfl rfl ?_ | refine JL.gskipU rfl rfl rfl rfl rfl ?_ | refine JL.gstep rfl rfl rfl (y_move rfl) rfl rfl ?_)
              all_goals (refine JL.step (y_pick rfl rfl rfl) rfl rfl rfl ?_)
              all_goals (refine JL.step (y_move rfl) rfl rfl rfl ?_)
              all_goals (first | (refine JL.gsplit_dec rfl rfl rfl (fun h => ?_) (fun h => ?_) <;> try (first | (exfalso; omega) | exact absurd rfl h)) | (refine JL.gsplit rfl rfl rfl (fun h => ?_) (fun h => ?_) <;> try (first | cases h | (exfalso; simp at h; done))) | skip)
              all_goals (first | refine JL.gskip rfl rfl rfl rfl rfl rfl ?_ | refine JL.gskipU rfl rfl rfl rfl rfl ?_ | refine JL.gstep rfl rfl rfl (y_move rfl) rfl rfl ?_)
              all_goals (refine JL.step (y_pick rfl rfl rfl) rfl rfl rfl ?_)
              all_goals (refine JL.step (y_move rfl) rfl rfl rfl ?_)
              all_goals (first | (refine JL.gsplit_dec rfl rfl rfl (fun h => ?_) (fun h => ?_) <;> try (first | (exfalso; omega) | exact absurd rfl h)) | (refine JL.gsplit rfl rfl rfl (fun h => ?_) (fun h => ?_) <;> try (first | cases h | (exfalso; simp at h; done))) | skip)
              all_goals (first | refine JL.gskip rfl rfl rfl rfl rfl rfl ?_ | refine JL.gskipU rfl rfl rfl rfl rfl ?_ | refine JL.gstep rfl rfl rfl (y_move rfl) rfl rfl ?_)
              all_goals (refine JL.step (y_pick rfl rfl rfl) rfl rfl rfl ?_)
              all_goals (refine JL.step (y_move rfl) rfl rfl rfl ?_)
              all_goals (first | (refine JL.gsplit_dec rfl rfl rfl (fun h => ?_) (fun h => ?_) <;> try (first | (exfalso; omega) | exact absurd rfl h)) | (refine JL.gsplit rfl rfl rfl (fun h => ?_) (fun h => ?_) <;> try (first | cases h | (exfalso; simp at h; done))) | skip)
              all_goals (first | refine JL.gskip rfl rfl rfl rfl rfl rfl ?_ | refine JL.gskipU rfl rfl rfl rfl rfl ?_ | refine JL.gstep rfl rfl rfl (y_move rfl) rfl rfl ?_)
              all_goals (refine JL.step (y_pick rfl rfl rfl) rfl rfl rfl ?_)
              all_goals (refine JL.step (y_move rfl) rfl rfl rfl ?_)
              all_goals (first | (refine JL.gsplit_dec rfl rfl rfl (fun h => ?_) (fun h => ?_) <;> try (first | (exfalso; omega) | exact absurd rfl h)) | (refine JL.gsplit rfl rfl rfl (fun h => ?_) (fun h => ?_) <;> try (first | cases h | (exfalso; simp at h; done))) | skip)
              all_goals (first | refine JL.gskip rfl rfl rfl rfl rfl rfl ?_ | refine JL.gskipU rfl rfl rfl rfl rfl ?_ | refine JL.gstep rfl rfl rfl (y_fieldAddr hT rfl rfl rfl rfl rfl rfl) rfl rfl ?_)
              all_goals (first | refine JL.gskip rfl rfl rfl rfl rfl rfl ?_ | refine JL.gskipU rfl rfl rfl rfl rfl ?_ | refine JL.gstep rfl rfl rfl (y_load1 hT rfl rfl rfl (Rd1.row (by (repeat (first | exact Pick.head | apply Pick.tail | apply Pick.app))) (hat 1))) rfl rfl ?_)
              all_goals (first | refine JL.gskip rfl rfl rfl rfl rfl rfl ?_ | refine JL.gskipU rfl rfl rfl rfl rfl ?_ | refine JL.gstep rfl rfl rfl (y_len_slice hT rfl rfl rfl) rfl rfl ?_)
              all_goals (first | refine JL.gskip rfl rfl rfl rfl rfl rfl ?_ | refine JL.gskipU rfl rfl rfl rfl rfl ?_ | refine JL.gstep rfl rfl rfl (y_leqB rfl rfl hb6) rfl rfl ?_)
              all_goals (refine JL.step (y_pick rfl rfl rfl) rfl rfl rfl ?_)
              all_goals (refine JL.step (y_assign rfl) rfl rfl rfl ?_)
              all_goals refine JL.nil (JE.then_normal ?_)
              all_goals
               refine J.ret (JE.block_ret (JE.then_ret ?_))
               refine JE.ret1 (.inl rfl) rfl rfl (by (first | exact RV.tmp rfl | exact RV.cell1 hT rfl rfl rfl (by (exact Rd1.row (by (repeat (first | exact Pick.head | apply Pick.tail | apply Pick.app))) (by rfl))) | exact RV.cellN hT rfl rfl rfl (by (first | exact RdN.rowAll (by (repeat (first | exact Pick.head | apply Pick.tail | apply Pick.app))) | exact RdN.own (by (repeat (first | exact Pick.head | apply Pick.tail | apply Pick.app))))) (by (first | rfl | assumption | (simp; done) | omega)))) ?_
               refine ⟨?_, fun w h => h.sup (by (repeat (first | exact Sup.refl | apply Sup.cons (by (repeat (first | exact Pick.head | apply Pick.tail | apply Pick.app))) | apply Sup.app | apply Sup.skip | apply Sup.skips)))⟩
               first
               | (have hk1 : r.kind = 1 := by omega
                  rw [r1 hk1]
                  first | rfl | (cases bn <;> cases bt <;> cases bs <;> cases bc <;> cases be <;> rfl) | (simp_all; done))
               | (have hk1 : r.kind = 2 ∨ r.kind = 6 := by omega
                  rw [r2 hk1]
                  first | rfl | (cases bk <;> cases bn <;> cases bt <;> cases bs <;> cases bc <;> cases be <;> rfl) | (simp_all; done))
               | (have hk1 : r.kind = 3 := by omega
                  rw [r3 hk1]
                  first
                  | (have zz := hall2
                     rw [hall2.1, decide_eq_true hall2.2, hb3']
                     first | rfl | (cases bk <;> cases bt <;> cases bs <;> cases bc <;> cases be <;> cases b3 <;> rfl) | (simp_all; done))
                  | (have zz := hbq
                     have hyx : y = x := by
                      refine Decidable.of_not_not fun q1 => ?_
                      rw [decide_eq_false q1] at hbq
                      first | cases hbq | (rw [hbq] at h; cases h)
                     have hn : ¬ r.names.Nodup := by
                      intro q1
                      have := (List.getElem?_inj (by omega) q1).1 (by rw [hy, hyx, hx] : r.names[j]? = r.names[i]?)
                      omega
                     rw [decide_eq_false hn, Bool.and_false]
                     rfl)
                  | (have hn : r.names.all nameB = false := by
                      rw [Bool.eq_false_iff]
                      intro q1
                      have := List.all_eq_true.1 q1 x (List.mem_of_getElem? hx)
                      rw [hbx] at this
                      cases this
                     rw [hn]
                     rfl))
               | (have hk1 : r.kind = 4 := by omega
                  rw [r4 hk1, hok]
                  first | rfl | (cases bk <;> cases bn <;> cases bt <;> cases bc <;> cases be <;> cases b4 <;> cases b5 <;> rfl) | (simp_all; done))
               | (have hk1 : r.kind = 5 := by omega
                  rw [r5 hk1]
                  first
                  | (have zz := hall3
                     rw [hall3, hb6']
                     first | rfl | (cases bk <;> cases bn <;> cases bs <;> cases bc <;> cases be <;> cases b6 <;> rfl) | (simp_all; done))
                  | (have hn : r.texts.all textB = false := by
                      rw [Bool.eq_false_iff]
                      intro q1
                      have := List.all_eq_true.1 q1 x (List.mem_of_getElem? hx)
                      rw [hbx] at this
                      cases this
                     rw [hn]
                     rfl))
               | (have hk1 : r.kind = 7 := by omega
                  rw [r7 hk1]
                  first
                  | (have zz := hall4
                     rw [hall4]
                     first | rfl | (cases bk <;> cases bn <;> cases bt <;> cases bs <;> cases be <;> rfl) | (simp_all; done))
                  | (have hn : okN z = false := by
                      rw [Bool.eq_false_iff]
                      intro q1
                      obtain ⟨e1, e2, _⟩ := okN_nat q1
                      first | omega | (simp_all; done) | (simp_all; omega)
                     have hm := List.mem_of_getElem? hz
                     simp only [List.mem_cons, List.not_mem_nil, or_false] at hm
                     have hn2 : (okN r.out && okN r.acked && okN r.inn) = false := by
                      rcases hm with rfl | rfl | rfl
                      · rw [hn]; rfl
                      · rw [hn, Bool.and_false]; rfl
                      · rw [hn, Bool.and_false]
                     rw [hn2]
                     rfl))
               | (have hk1 : r.kind = 8 := by omega
                  rw [r8 hk1]
                  first | rfl | (cases bk <;> cases bn <;> cases bt <;> cases bs <;> cases bc <;> cases bw <;> rfl) | (simp_all; done))
               | rw [r9 (by omega) (by omega) (by omega) (by omega) (by omega) (by omega) (by omega) (by omega)]
            all_goals refine JE.then_normal ?_
            all_goals
             refine J.seq (J.block (J.seq ?_))
             have hlt : i < r.texts.length := by omega
             obtain ⟨x, hx⟩ : ∃ x, r.texts[i]? = some x := ⟨r.texts[i]'(by omega), List.getElem?_eq_getElem _⟩
             obtain ⟨g1, o1, rfl, hrd1⟩ := h2.addr (by omega)
             obtain ⟨hxB, hxl⟩ := hr.tb x (List.mem_of_getElem? hx)
             obtain ⟨bx, hbx⟩ : ∃ b, textB x = b := ⟨_, rfl⟩
             refine J.region ?_
             refine JL.step (y_indexAddr_slice hT rfl rfl rfl rfl rfl (by (first | omega | exact Nat.le_of_ble_eq_true rfl | decide | (simp; omega))) (by (first | omega | exact Nat.le_of_ble_eq_true rfl | decide | (simp; omega)))) rfl rfl rfl ?_
             refine JL.step (y_load1 hT rfl rfl rfl (Rd1.elem (i := i) (v := .string (strOf x)) ((hrd1 []).cons _) (strs_at hx))) rfl rfl rfl ?_
             refine JL.step (y_assign rfl) rfl rfl rfl ?_
             refine JL.nil (JE.then_normal (J.seq ?_))
             rcases bx with _ | _
             all_goals
              refine J.region (JL.step (y_move rfl) rfl rfl rfl ?_)
              refine JL.loud rfl (l_callF e28 rfl rfl (hbx ▸ rtext_spec E x _ hxB (by omega)) ?_)
              rintro _ _ ⟨rfl, rfl⟩
              refine JL.step (y_not rfl) rfl rfl rfl ?_
              refine JL.nil ?_
             all_goals refine JE.then_normal ?_
             all_goals
              first | apply J.cond_dec rfl | apply J.cond rfl
              case' ht =>
               intro h
               try (first | (exfalso; omega) | (cases h; done) | (exfalso; simp at h; done) | subst h)
               all_goals
                refine J.seq (J.region (JL.step (y_assign rfl) rfl rfl rfl ?_))
                refine JL.nil (JE.then_normal (J.ret (JE.block_ret (JE.then_ret (JE.then_ret (JE.block_ret (JE.then_ret (JE.block_ret (JE.then_ret ?_)))))))))
                refine JE.ret1 (.inl rfl) rfl rfl (by (first | exact RV.tmp rfl | exact RV.cell1 hT rfl rfl rfl (by (exact Rd1.row (by (repeat (first | exact Pick.head | apply Pick.tail | apply Pick.app))) (by rfl))) | exact RV.cellN hT rfl rfl rfl (by (first | exact RdN.rowAll (by (repeat (first | exact Pick.head | apply Pick.tail | apply Pick.app))) | exact RdN.own (by (repeat (first | exact Pick.head | apply Pick.tail | apply Pick.app))))) (by (first | rfl | assumption | (simp; done) | omega)))) ?_
                refine ⟨?_, fun w h => h.sup (by (repeat (first | exact Sup.refl | apply Sup.cons (by (repeat (first | exact Pick.head | apply Pick.tail | apply Pick.app))) | apply Sup.app | apply Sup.skip | apply Sup.skips)))⟩
                first
                | (have hk1 : r.kind = 1 := by omega
                   rw [r1 hk1]
                   first | rfl | (cases bn <;> cases bt <;> cases bs <;> cases bc <;> cases be <;> rfl) | (simp_all; done))
                | (have hk1 : r.kind = 2 ∨ r.kind = 6 := by omega
                   rw [r2 hk1]
                   first | rfl | (cases bk <;> cases bn <;> cases bt <;> cases bs <;> cases bc <;> cases be <;> rfl) | (simp_all; done))
                | (have hk1 : r.kind = 3 := by omega
                   rw [r3 hk1]
                   first
                   | (have zz := hall2
                      rw [hall2.1, decide_eq_true hall2.2, hb3']
                      first | rfl | (cases bk <;> cases bt <;> cases bs <;> cases bc <;> cases be <;> cases b3 <;> rfl) | (simp_all; done))
                   | (have zz := hbq
                      have hyx : y = x := by
                       refine Decidable.of_not_not fun q1 => ?_
                       rw [decide_eq_false q1] at hbq
                       first | cases hbq | (rw [hbq] at h; cases h)
                      have hn : ¬ r.names.Nodup := by
                       intro q1
                       have := (List.getElem?_inj (by omega) q1).1 (by rw [hy, hyx, hx] : r.names[j]? = r.names[i]?)
                       omega
                      rw [decide_eq_false hn, Bool.and_false]
                      rfl)
                   | (have hn : r.names.all nameB = false := by
                       rw [Bool.eq_false_iff]
                       intro q1
                       have := List.all_eq_true.1 q1 x (List.mem_of_getElem? hx)
                       rw [hbx] at this
                       cases this
                      rw [hn]
                      rfl))
                | (have hk1 : r.kind = 4 := by omega
                   rw [r4 hk1, hok]
                   first | rfl | (cases bk <;> cases bn <;> cases bt <;> cases bc <;> cases be <;> cases b4 <;> cases b5 <;> rfl) | (simp_all; done))
                | (have hk1 : r.kind = 5 := by omega
                   rw [r5 hk1]
                   first
                   | (have zz := hall3
                      rw [hall3, hb6']
                      first | rfl | (cases bk <;> cases bn <;> cases bs <;> cases bc <;> cases be <;> cases b6 <;> rfl) | (simp_all; done))
                   | (have hn : r.texts.all textB = false := by
                       rw [Bool.eq_false_iff]
                       intro q1
                       have := List.all_eq_true.1 q1 x (List.mem_of_getElem? hx)
                       rw [hbx] at this
                       cases this
                      rw [hn]
                      rfl))
                | (have hk1 : r.kind = 7 := by omega
                   rw [r7 hk1]
                   first
                   | (have zz := hall4
                      rw [hall4]
                      first | rfl | (cases bk <;> cases bn <;> cases bt <;> cases bs <;> cases be <;> rfl) | (simp_all; done))
                   | (have hn : okN z = false := by
                       rw [Bool.eq_false_iff]
                       intro q1
                       obtain ⟨e1, e2, _⟩ := okN_nat q1
                       first | omega | (simp_all; done) | (simp_all; omega)
                      have hm := List.mem_of_getElem? hz
                      simp only [List.mem_cons, List.not_mem_nil, or_false] at hm
                      have hn2 : (okN r.out && okN r.acked && okN r.inn) = false := by
                       rcases hm with rfl | rfl | rfl
                       · rw [hn]; rfl
                       · rw [hn, Bool.and_false]; rfl
                       · rw [hn, Bool.and_false]
                      rw [hn2]
                      rfl))
                | (have hk1 : r.kind = 8 := by omega
                   rw [r8 hk1]
                   first | rfl | (cases bk <;> cases bn <;> cases bt <;> cases bs <;> cases bc <;> cases bw <;> rfl) | (simp_all; done))
                | rw [r9 (by omega) (by omega) (by omega) (by omega) (by omega) (by omega) (by omega) (by omega)]
              case' hf =>
               intro h
               try (first | (exfalso; omega) | (cases h; done) | (exfalso; simp at h; done) | subst h)
               all_goals
                refine J.skip ?_
             all_goals refine JE.block_normal (JE.then_normal ?_)
             all_goals
              refine J.region ?_
              refine JL.step (y_add rfl rfl (by (first | exact wrap_i64 (by omega) (by omega) | rfl))) rfl rfl rfl ?_
              refine JL.step (y_move rfl) rfl rfl rfl ?_
              refine JL.nil ?_
            all_goals
             exact JE.round (s := i) (i + 1) ⟨by omega, by
              rw [List.take_add_one, hx, Option.toList_some, List.all_append, hall, List.all_cons, hbx]
              rfl⟩ ⟨rfl, rfl, rfl, rfl, rfl, rfl, rfl, rfl, rfl, rfl, trivial⟩ (fun w h => h) (by omega)
          case' hf =>
           intro h
           try (first | (exfalso; omega) | (cases h; done) | (exfalso; simp at h; done) | subst h)
           all_goals
            refine J.seq (J.region (JL.step (y_eql rfl rfl) rfl rfl rfl (JL.step (y_assign rfl) rfl rfl rfl ?_)))
            refine JL.nil (JE.then_normal ?_)
            first | apply J.cond_dec rfl | apply J.cond rfl
            case' ht =>
             intro h
             try (first | (exfalso; omega) | (cases h; done) | (exfalso; simp at h; done) | subst h)
             all_goals
              refine J.seq (J.seq (J.region (JL.step (y_fieldAddr hT rfl rfl rfl rfl rfl rfl) rfl rfl rfl ?_)))
              refine JL.step (y_load1 hT rfl rfl rfl (Rd1.row (by (repeat (first | exact Pick.head | apply Pick.tail | apply Pick.app))) (hat 3))) rfl rfl rfl ?_
              refine JL.step (y_fieldAddr hT rfl rfl rfl rfl rfl rfl) rfl rfl rfl ?_
              refine JL.step (y_load1 hT rfl rfl rfl (Rd1.row (by (repeat (first | exact Pick.head | apply Pick.tail | apply Pick.app))) (hat 4))) rfl rfl rfl ?_
              refine JL.step (y_fieldAddr hT rfl rfl rfl rfl rfl rfl) rfl rfl rfl ?_
              refine JL.step (y_load1 hT rfl rfl rfl (Rd1.row (by (repeat (first | exact Pick.head | apply Pick.tail | apply Pick.app))) (hat 5))) rfl rfl rfl ?_
              refine JL.step (y_buildArr (cs := ints .i64 [r.out, r.acked, r.inn]) hT rfl rfl rfl rfl rfl (by first | rfl | decide)) rfl rfl rfl ?_
              refine JL.step (y_move rfl) rfl rfl rfl ?_
              refine JL.nil (JE.then_normal (J.block ?_))
              refine J.loop (α := Nat) (fun i => i ≤ 3 ∧ ([r.out, r.acked, r.inn].take i).all okN = true) (fun i => [(1, .pointer (some ⟨b1, 0, none⟩)), (3, .bool bk), (4, .bool bn), (5, .bool bt), (6, .bool bs), (7, .bool bc), (8, .bool be), (197, .agg (ints .i64 [r.out, r.acked, r.inn]).toArray), (198, .int .i64 i)]) (fun _ => row b1 36 cs :: l) (fun i => 3 - i) 0 ⟨Nat.zero_le _, rfl⟩ ⟨rfl, rfl, rfl, rfl, rfl, rfl, rfl, rfl, rfl, trivial⟩ (fun w h => h) ?_
              rintro i ⟨hi, hall⟩
              try dsimp only
              refine J.seq (J.region (JL.step (y_lss rfl rfl) rfl rfl rfl ?_))
              refine JL.nil (JE.then_normal (J.seq ?_))
              first | apply J.cond_dec rfl | apply J.cond rfl
              case' ht =>
               intro h
               try (first | (exfalso; omega) | (cases h; done) | (exfalso; simp at h; done) | subst h)
               all_goals
                refine J.skip ?_
              case' hf =>
               intro h
               try (first | (exfalso; omega) | (cases h; done) | (exfalso; simp at h; done) | subst h)
               all_goals
                refine J.exit (JE.then_exit (JE.then_exit (JE.block_exit (JE.then_normal (J.seq ?_)))))
                have hall4 : (okN r.out && okN r.acked && okN r.inn) = true := by
                 obtain rfl : i = 3 := by omega
                 have : ([r.out, r.acked, r.inn] : List Int).all okN = true := hall
                 rw [List.all_cons, List.all_cons, List.all_cons, List.all_nil, Bool.and_true] at this
                 rw [Bool.and_assoc]
                 exact this
                refine J.region (JL.step (y_move rfl) rfl rfl rfl (JL.step (y_move rfl) rfl rfl rfl ?_))
                all_goals (first | (refine JL.gsplit_dec rfl rfl rfl (fun h => ?_) (fun h => ?_) <;> try (first | (exfalso; omega) | exact absurd rfl h)) | (refine JL.gsplit rfl rfl rfl (fun h => ?_) (fun h => ?_) <;> try (first | cases h | (exfalso; simp at h; done))) | skip)
                all_goals (first | refine JL.gskip rfl rfl rfl rfl rfl rfl ?_ | refine JL.gskipU rfl rfl rfl rfl rfl ?_ | refine JL.gstep rfl rfl rfl (y_move rfl) rfl rfl ?_)
                all_goals (refine JL.step (y_pick rfl rfl rfl) rfl rfl rfl ?_)
                all_goals (refine JL.step (y_move rfl) rfl rfl rfl ?_)
                all_goals (first | (refine JL.gsplit_dec rfl rfl rfl (fun h => ?_) (fun h => ?_) <;> try (first | (exfalso; omega) | exact absurd rfl h)) | (refine JL.gsplit rfl rfl rfl (fun h => ?_) (fun h => ?_) <;> try (first | cases h | (exfalso; simp at h; done))) | skip)
                all_goals (first | refine JL.gskip rfl rfl rfl rfl rfl rfl ?_ | refine JL.gskipU rfl rfl rfl rfl rfl ?_ | refine JL.gstep rfl rfl rfl (y_move rfl) rfl rfl ?_)
                all_goals (refine JL.step (y_pick rfl rfl rfl) rfl rfl rfl ?_)
                all_goals (refine JL.step (y_move rfl) rfl rfl rfl ?_)
                all_goals (first | (refine JL.gsplit_dec rfl rfl rfl (fun h => ?_) (fun h => ?_) <;> try (first | (exfalso; omega) | exact absurd rfl h)) | (refine JL.gsplit rfl rfl rfl (fun h => ?_) (fun h => ?_) <;> try (first | cases h | (exfalso; simp at h; done))) | skip)
                all_goals (first | refine JL.gskip rfl rfl rfl rfl rfl rfl ?_ | refine JL.gskipU rfl rfl rfl rfl rfl ?_ | refine JL.gstep rfl rfl rfl (y_move rfl) rfl rfl ?_)
                all_goals (refine JL.step (y_pick rfl rfl rfl) rfl rfl rfl ?_)
                all_goals (refine JL.step (y_move rfl) rfl rfl rfl ?_)
                all_goals (first | (refine JL.gsplit_dec rfl rfl rfl (fun h => ?_) (fun h => ?_) <;> try (first | (exfalso; omega) | exact absurd rfl h)) | (refine JL.gsplit rfl rfl rfl (fun h => ?_) (fun h => ?_) <;> try (first | cases h | (exfalso; simp at h; done))) | skip)
                all_goals (first | refine JL.gskip rfl rfl rfl rfl rfl rfl ?_ | refine JL.gskipU rfl rfl rfl rfl rfl ?_ | refine JL.gstep rfl rfl rfl (y_move rfl) rfl rfl ?_)
                all_goals (refine JL.step (y_pick rfl rfl rfl) rfl rfl rfl ?_)
                all_goals (refine JL.step (y_assign rfl) rfl rfl rfl ?_)
                all_goals refine JL.nil (JE.then_normal ?_)
                all_goals
                 refine J.ret (JE.block_ret (JE.then_ret ?_))
                 refine JE.ret1 (.inl rfl) rfl rfl (by (first | exact RV.tmp rfl | exact RV.cell1 hT rfl rfl rfl (by (exact Rd1.row (by (repeat (first | exact Pick.head | apply Pick.tail | apply Pick.app))) (by rfl))) | exact RV.cellN hT rfl rfl rfl (by (first | exact RdN.rowAll (by (repeat (first | exact Pick.head | apply Pick.tail | apply Pick.app))) | exact RdN.own (by (repeat (first | exact Pick.head | apply Pick.tail | apply Pick.app))))) (by (first | rfl | assumption | (simp; done) | omega)))) ?_
                 refine ⟨?_, fun w h => h.sup (by (repeat (first | exact Sup.refl | apply Sup.cons (by (repeat (first | exact Pick.head | apply Pick.tail | apply Pick.app))) | apply Sup.app | apply Sup.skip | apply Sup.skips)))⟩
                 first
                 | (have hk1 : r.kind = 1 := by omega
                    rw [r1 hk1]
                    first | rfl | (cases bn <;> cases bt <;> cases bs <;> cases bc <;> cases be <;> rfl) | (simp_all; done))
                 | (have hk1 : r.kind = 2 ∨ r.kind = 6 := by omega
                    rw [r2 hk1]
                    first | rfl | (cases bk <;> cases bn <;> cases bt <;> cases bs <;> cases bc <;> cases be <;> rfl) | (simp_all; done))
                 | (have hk1 : r.kind = 3 := by omega
                    rw [r3 hk1]
                    first
                    | (have zz := hall2
                       rw [hall2.1, decide_eq_true hall2.2, hb3']
                       first | rfl | (cases bk <;> cases bt <;> cases bs <;> cases bc <;> cases be <;> cases b3 <;> rfl) | (simp_all; done))
                    | (have zz := hbq
                       have hyx : y = x := by
                        refine Decidable.of_not_not fun q1 => ?_
                        rw [decide_eq_false q1] at hbq
                        first | cases hbq | (rw [hbq] at h; cases h)
                       have hn : ¬ r.names.Nodup := by
                        intro q1
                        have := (List.getElem?_inj (by omega) q1).1 (by rw [hy, hyx, hx] : r.names[j]? = r.names[i]?)
                        omega
                       rw [decide_eq_false hn, Bool.and_false]
                       rfl)
                    | (have hn : r.names.all nameB = false := by
                        rw [Bool.eq_false_iff]
                        intro q1
                        have := List.all_eq_true.1 q1 x (List.mem_of_getElem? hx)
                        rw [hbx] at this
                        cases this
                       rw [hn]
                       rfl))
                 | (have hk1 : r.kind = 4 := by omega
                    rw [r4 hk1, hok]
                    first | rfl | (cases bk <;> cases bn <;> cases bt <;> cases bc <;> cases be <;> cases b4 <;> cases b5 <;> rfl) | (simp_all; done))
                 | (have hk1 : r.kind = 5 := by omega
                    rw [r5 hk1]
                    first
                    | (have zz := hall3
                       rw [hall3, hb6']
                       first | rfl | (cases bk <;> cases bn <;> cases bs <;> cases bc <;> cases be <;> cases b6 <;> rfl) | (simp_all; done))
                    | (have hn : r.texts.all textB = false := by
                        rw [Bool.eq_false_iff]
                        intro q1
                        have := List.all_eq_true.1 q1 x (List.mem_of_getElem? hx)
                        rw [hbx] at this
                        cases this
                       rw [hn]
                       rfl))
                 | (have hk1 : r.kind = 7 := by omega
                    rw [r7 hk1]
                    first
                    | (have zz := hall4
                       rw [hall4]
                       first | rfl | (cases bk <;> cases bn <;> cases bt <;> cases bs <;> cases be <;> rfl) | (simp_all; done))
                    | (have hn : okN z = false := by
                        rw [Bool.eq_false_iff]
                        intro q1
                        obtain ⟨e1, e2, _⟩ := okN_nat q1
                        first | omega | (simp_all; done) | (simp_all; omega)
                       have hm := List.mem_of_getElem? hz
                       simp only [List.mem_cons, List.not_mem_nil, or_false] at hm
                       have hn2 : (okN r.out && okN r.acked && okN r.inn) = false := by
                        rcases hm with rfl | rfl | rfl
                        · rw [hn]; rfl
                        · rw [hn, Bool.and_false]; rfl
                        · rw [hn, Bool.and_false]
                       rw [hn2]
                       rfl))
                 | (have hk1 : r.kind = 8 := by omega
                    rw [r8 hk1]
                    first | rfl | (cases bk <;> cases bn <;> cases bt <;> cases bs <;> cases bc <;> cases bw <;> rfl) | (simp_all; done))
                 | rw [r9 (by omega) (by omega) (by omega) (by omega) (by omega) (by omega) (by omega) (by omega)]
              all_goals refine JE.then_normal ?_
              all_goals
               refine J.seq (J.block (J.seq ?_))
               have hlt : i < 3 := by omega
               obtain ⟨z, hz⟩ : ∃ z, ([r.out, r.acked, r.inn] : List Int)[i]? = some z := ⟨[r.out, r.acked, r.inn][i]'(by show i < 3; omega), List.getElem?_eq_getElem _⟩
               have hzv : (ints .i64 [r.out, r.acked, r.inn])[i]? = some (.int .i64 z) := by unfold ints; rw [List.getElem?_map, hz]; rfl
               refine J.region ?_
               refine JL.step (y_index1 hT rfl rfl rfl rfl rfl rfl rfl (by omega) (by show ((i : Nat) : Int) < (3 : Int); omega) (by rw [Int.toNat_natCast]; exact hzv)) rfl rfl rfl ?_
               refine JL.step (y_assign rfl) rfl rfl rfl ?_
               refine JL.nil (JE.then_normal (J.seq (J.region (JL.step (y_move rfl) rfl rfl rfl (JL.step (y_lss rfl rfl) rfl rfl rfl (JL.step (y_move rfl) rfl rfl rfl ?_))))))
               all_goals (first | (refine JL.gsplit_dec rfl rfl rfl (fun h => ?_) (fun h => ?_) <;> try (first | (exfalso; omega) | exact absurd rfl h)) | (refine JL.gsplit rfl rfl rfl (fun h => ?_) (fun h => ?_) <;> try (first | cases h | (exfalso; simp at h; done))) | skip)
               all_goals (first | refine JL.gskip rfl rfl rfl rfl rfl rfl ?_ | refine JL.gskipU rfl rfl rfl rfl rfl ?_ | refine JL.gstep rfl rfl rfl (y_move rfl) rfl rfl ?_)
               all_goals (first | refine JL.gskip rfl rfl rfl rfl rfl rfl ?_ | refine JL.gskipU rfl rfl rfl rfl rfl ?_ | refine JL.gstep rfl rfl rfl (y_gtr rfl rfl) rfl rfl ?_)
               all_goals (refine JL.step (y_pick rfl rfl rfl) rfl rfl rfl ?_)
               all_goals refine JL.nil (JE.then_normal ?_)
               all_goals
                first | apply J.cond_dec rfl | apply J.cond rfl
                case' ht =>
                 intro h
                 try (first | (exfalso; omega) | (cases h; done) | (exfalso; simp at h; done) | subst h)
                 all_goals
                  refine J.seq (J.region (JL.step (y_assign rfl) rfl rfl rfl ?_))
                  refine JL.nil (JE.then_normal (J.ret (JE.block_ret (JE.then_ret (JE.then_ret (JE.block_ret (JE.then_ret (JE.block_ret (JE.then_ret ?_)))))))))
                  refine JE.ret1 (.inl rfl) rfl rfl (by (first | exact RV.tmp rfl | exact RV.cell1 hT rfl rfl rfl (by (exact Rd1.row (by (repeat (first | exact Pick.head | apply Pick.tail | apply Pick.app))) (by rfl))) | exact RV.cellN hT rfl rfl rfl (by (first | exact RdN.rowAll (by (repeat (first | exact Pick.head | apply Pick.tail | apply Pick.app))) | exact RdN.own (by (repeat (first | exact Pick.head | apply Pick.tail | apply Pick.app))))) (by (first | rfl | assumption | (simp; done) | omega)))) ?_
                  refine ⟨?_, fun w h => h.sup (by (repeat (first | exact Sup.refl | apply Sup.cons (by (repeat (first | exact Pick.head | apply Pick.tail | apply Pick.app))) | apply Sup.app | apply Sup.skip | apply Sup.skips)))⟩
                  first
                  | (have hk1 : r.kind = 1 := by omega
                     rw [r1 hk1]
                     first | rfl | (cases bn <;> cases bt <;> cases bs <;> cases bc <;> cases be <;> rfl) | (simp_all; done))
                  | (have hk1 : r.kind = 2 ∨ r.kind = 6 := by omega
                     rw [r2 hk1]
                     first | rfl | (cases bk <;> cases bn <;> cases bt <;> cases bs <;> cases bc <;> cases be <;> rfl) | (simp_all; done))
                  | (have hk1 : r.kind = 3 := by omega
                     rw [r3 hk1]
                     first
                     | (have zz := hall2
                        rw [hall2.1, decide_eq_true hall2.2, hb3']
                        first | rfl | (cases bk <;> cases bt <;> cases bs <;> cases bc <;> cases be <;> cases b3 <;> rfl) | (simp_all; done))
                     | (have zz := hbq
                        have hyx : y = x := by
                         refine Decidable.of_not_not fun q1 => ?_
                         rw [decide_eq_false q1] at hbq
                         first | cases hbq | (rw [hbq] at h; cases h)
                        have hn : ¬ r.names.Nodup := by
                         intro q1
                         have := (List.getElem?_inj (by omega) q1).1 (by rw [hy, hyx, hx] : r.names[j]? = r.names[i]?)
                         omega
                        rw [decide_eq_false hn, Bool.and_false]
                        rfl)
                     | (have hn : r.names.all nameB = false := by
                         rw [Bool.eq_false_iff]
                         intro q1
                         have := List.all_eq_true.1 q1 x (List.mem_of_getElem? hx)
                         rw [hbx] at this
                         cases this
                        rw [hn]
                        rfl))
                  | (have hk1 : r.kind = 4 := by omega
                     rw [r4 hk1, hok]
                     first | rfl | (cases bk <;> cases bn <;> cases bt <;> cases bc <;> cases be <;> cases b4 <;> cases b5 <;> rfl) | (simp_all; done))
                  | (have hk1 : r.kind = 5 := by omega
                     rw [r5 hk1]
                     first
                     | (have zz := hall3
                        rw [hall3, hb6']
                        first | rfl | (cases bk <;> cases bn <;> cases bs <;> cases bc <;> cases be <;> cases b6 <;> rfl) | (simp_all; done))
                     | (have hn : r.texts.all textB = false := by
                         rw [Bool.eq_false_iff]
                         intro q1
                         have := List.all_eq_true.1 q1 x (List.mem_of_getElem? hx)
                         rw [hbx] at this
                         cases this
                        rw [hn]
                        rfl))
                  | (have hk1 : r.kind = 7 := by omega
                     rw [r7 hk1]
                     first
                     | (have zz := hall4
                        rw [hall4]
                        first | rfl | (cases bk <;> cases bn <;> cases bt <;> cases bs <;> cases be <;> rfl) | (simp_all; done))
                     | (have hn : okN z = false := by
                         rw [Bool.eq_false_iff]
                         intro q1
                         obtain ⟨e1, e2, _⟩ := okN_nat q1
                         first | omega | (simp_all; done) | (simp_all; omega)
                        have hm := List.mem_of_getElem? hz
                        simp only [List.mem_cons, List.not_mem_nil, or_false] at hm
                        have hn2 : (okN r.out && okN r.acked && okN r.inn) = false := by
                         rcases hm with rfl | rfl | rfl
                         · rw [hn]; rfl
                         · rw [hn, Bool.and_false]; rfl
                         · rw [hn, Bool.and_false]
                        rw [hn2]
                        rfl))
                  | (have hk1 : r.kind = 8 := by omega
                     rw [r8 hk1]
                     first | rfl | (cases bk <;> cases bn <;> cases bt <;> cases bs <;> cases bc <;> cases bw <;> rfl) | (simp_all; done))
                  | rw [r9 (by omega) (by omega) (by omega) (by omega) (by omega) (by omega) (by omega) (by omega)]
                case' hf =>
                 intro h
                 try (first | (exfalso; omega) | (cases h; done) | (exfalso; simp at h; done) | subst h)
                 all_goals
                  refine J.skip ?_
               all_goals refine JE.block_normal (JE.then_normal ?_)
               all_goals
                refine J.region ?_
                refine JL.step (y_add rfl rfl (by (first | exact wrap_i64 (by omega) (by omega) | rfl))) rfl rfl rfl ?_
                refine JL.step (y_move rfl) rfl rfl rfl ?_
                refine JL.nil ?_
              all_goals
               have hzo : okN z = true := by
                unfold okN
                rw [decide_eq_true (by first | omega | (simp_all; done) | (simp_all; omega)), decide_eq_true (by first | omega | (simp_all; done) | (simp_all; omega))]
                rfl
               exact JE.round (s := i) (i + 1) ⟨by omega, by
                rw [List.take_add_one, hz, Option.toList_some, List.all_append, hall, List.all_cons, hzo]
                rfl⟩ ⟨rfl, rfl, rfl, rfl, rfl, rfl, rfl, rfl, rfl, trivial⟩ (fun w h => h) (by omega)
            case' hf =>
             intro h
             try (first | (exfalso; omega) | (cases h; done) | (exfalso; simp at h; done) | subst h)
             all_goals
              refine J.seq (J.region (JL.step (y_eql rfl rfl) rfl rfl rfl (JL.step (y_assign rfl) rfl rfl rfl ?_)))
              refine JL.nil (JE.then_normal ?_)
              first | apply J.cond_dec rfl | apply J.cond rfl
              case' ht =>
               intro h
               try (first | (exfalso; omega) | (cases h; done) | (exfalso; simp at h; done) | subst h)
               all_goals
                refine J.seq (J.region (JL.step (y_fieldAddr hT rfl rfl rfl rfl rfl rfl) rfl rfl rfl ?_))
                refine JL.step (y_load1 hT rfl rfl rfl (Rd1.row (by (repeat (first | exact Pick.head | apply Pick.tail | apply Pick.app))) (hat 6))) rfl rfl rfl ?_
                refine JL.loud rfl (l_callF e22 rfl rfl (rword_spec E r.err _) ?_)
                rintro _ _ ⟨rfl, rfl⟩
                refine JL.step (y_move rfl) rfl rfl rfl (JL.step (y_extract rfl rfl) rfl rfl rfl (JL.step (y_extract rfl rfl) rfl rfl rfl (JL.step (y_assign rfl) rfl rfl rfl (JL.step (y_assign rfl) rfl rfl rfl ?_))))
                refine JL.nil (JE.then_normal (J.seq (J.region ?_)))
                obtain ⟨bw, hbw⟩ : ∃ b, (wordF r.err).2 = b := ⟨_, rfl⟩
                rw [hbw] at r8 ⊢
                refine JL.step (y_move rfl) rfl rfl rfl (JL.step (y_move rfl) rfl rfl rfl ?_)
                all_goals (first | (refine JL.gsplit_dec rfl rfl rfl (fun h => ?_) (fun h => ?_) <;> try (first | (exfalso; omega) | exact absurd rfl h)) | (refine JL.gsplit rfl rfl rfl (fun h => ?_) (fun h => ?_) <;> try (first | cases h | (exfalso; simp at h; done))) | skip)
                all_goals (first | refine JL.gskip rfl rfl rfl rfl rfl rfl ?_ | refine JL.gskipU rfl rfl rfl rfl rfl ?_ | refine JL.gstep rfl rfl rfl (y_move rfl) rfl rfl ?_)
                all_goals (refine JL.step (y_pick rfl rfl rfl) rfl rfl rfl ?_)
                all_goals (refine JL.step (y_move rfl) rfl rfl rfl ?_)
                all_goals (first | (refine JL.gsplit_dec rfl rfl rfl (fun h => ?_) (fun h => ?_) <;> try (first | (exfalso; omega) | exact absurd rfl h)) | (refine JL.gsplit rfl rfl rfl (fun h => ?_) (fun h => ?_) <;> try (first | cases h | (exfalso; simp at h; done))) | skip)
                all_goals (first | refine JL.gskip rfl rfl rfl rfl rfl rfl ?_ | refine JL.gskipU rfl rfl rfl rfl rfl ?_ | refine JL.gstep rfl rfl rfl (y_move rfl) rfl rfl ?_)
                all_goals (refine JL.step (y_pick rfl rfl rfl) rfl rfl rfl ?_)
                all_goals (refine JL.step (y_move rfl) rfl rfl rfl ?_)
                all_goals (first | (refine JL.gsplit_dec rfl rfl rfl (fun h => ?_) (fun h => ?_) <;> try (first | (exfalso; omega) | exact absurd rfl h)) | (refine JL.gsplit rfl rfl rfl (fun h => ?_) (fun h => ?_) <;> try (first | cases h | (exfalso; simp at h; done))) | skip)
                all_goals (first | refine JL.gskip rfl rfl rfl rfl rfl rfl ?_ | refine JL.gskipU rfl rfl rfl rfl rfl ?_ | refine JL.gstep rfl rfl rfl (y_move rfl) rfl rfl ?_)
                all_goals (refine JL.step (y_pick rfl rfl rfl) rfl rfl rfl ?_)
                all_goals (refine JL.step (y_move rfl) rfl rfl rfl ?_)
                all_goals (first | (refine JL.gsplit_dec rfl rfl rfl (fun h => ?_) (fun h => ?_) <;> try (first | (exfalso; omega) | exact absurd rfl h)) | (refine JL.gsplit rfl rfl rfl (fun h => ?_) (fun h => ?_) <;> try (first | cases h | (exfalso; simp at h; done))) | skip)
                all_goals (first | refine JL.gskip rfl rfl rfl rfl rfl rfl ?_ | refine JL.gskipU rfl rfl rfl rfl rfl ?_ | refine JL.gstep rfl rfl rfl (y_move rfl) rfl rfl ?_)
                all_goals (refine JL.step (y_pick rfl rfl rfl) rfl rfl rfl ?_)
                all_goals (refine JL.step (y_move rfl) rfl rfl rfl ?_)
                all_goals (first | (refine JL.gsplit_dec rfl rfl rfl (fun h => ?_) (fun h => ?_) <;> try (first | (exfalso; omega) | exact absurd rfl h)) | (refine JL.gsplit rfl rfl rfl (fun h => ?_) (fun h => ?_) <;> try (first | cases h | (exfalso; simp at h; done))) | skip)
                all_goals (first | refine JL.gskip rfl rfl rfl rfl rfl rfl ?_ | refine JL.gskipU rfl rfl rfl rfl rfl ?_ | refine JL.gstep rfl rfl rfl (y_move rfl) rfl rfl ?_)
                all_goals (refine JL.step (y_pick rfl rfl rfl) rfl rfl rfl ?_)
                all_goals (refine JL.step (y_assign rfl) rfl rfl rfl ?_)
                all_goals refine JL.nil (JE.then_normal ?_)
                all_goals
                 refine J.ret (JE.block_ret (JE.then_ret ?_))
                 refine JE.ret1 (.inl rfl) rfl rfl (by (first | exact RV.tmp rfl | exact RV.cell1 hT rfl rfl rfl (by (exact Rd1.row (by (repeat (first | exact Pick.head | apply Pick.tail | apply Pick.app))) (by rfl))) | exact RV.cellN hT rfl rfl rfl (by (first | exact RdN.rowAll (by (repeat (first | exact Pick.head | apply Pick.tail | apply Pick.app))) | exact RdN.own (by (repeat (first | exact Pick.head | apply Pick.tail | apply Pick.app))))) (by (first | rfl | assumption | (simp; done) | omega)))) ?_
                 refine ⟨?_, fun w h => h.sup (by (repeat (first | exact Sup.refl | apply Sup.cons (by (repeat (first | exact Pick.head | apply Pick.tail | apply Pick.app))) | apply Sup.app | apply Sup.skip | apply Sup.skips)))⟩
                 first
                 | (have hk1 : r.kind = 1 := by omega
                    rw [r1 hk1]
                    first | rfl | (cases bn <;> cases bt <;> cases bs <;> cases bc <;> cases be <;> rfl) | (simp_all; done))
                 | (have hk1 : r.kind = 2 ∨ r.kind = 6 := by omega
                    rw [r2 hk1]
                    first | rfl | (cases bk <;> cases bn <;> cases bt <;> cases bs <;> cases bc <;> cases be <;> rfl) | (simp_all; done))
                 | (have hk1 : r.kind = 3 := by omega
                    rw [r3 hk1]
                    first
                    | (have zz := hall2
                       rw [hall2.1, decide_eq_true hall2.2, hb3']
                       first | rfl | (cases bk <;> cases bt <;> cases bs <;> cases bc <;> cases be <;> cases b3 <;> rfl) | (simp_all; done))
                    | (have zz := hbq
                       have hyx : y = x := by
                        refine Decidable.of_not_not fun q1 => ?_
                        rw [decide_eq_false q1] at hbq
                        first | cases hbq | (rw [hbq] at h; cases h)
                       have hn : ¬ r.names.Nodup := by
                        intro q1
                        have := (List.getElem?_inj (by omega) q1).1 (by rw [hy, hyx, hx] : r.names[j]? = r.names[i]?)
                        omega
                       rw [decide_eq_false hn, Bool.and_false]
                       rfl)
                    | (have hn : r.names.all nameB = false := by
                        rw [Bool.eq_false_iff]
                        intro q1
                        have := List.all_eq_true.1 q1 x (List.mem_of_getElem? hx)
                        rw [hbx] at this
                        cases this
                       rw [hn]
                       rfl))
                 | (have hk1 : r.kind = 4 := by omega
                    rw [r4 hk1, hok]
                    first | rfl | (cases bk <;> cases bn <;> cases bt <;> cases bc <;> cases be <;> cases b4 <;> cases b5 <;> rfl) | (simp_all; done))
                 | (have hk1 : r.kind = 5 := by omega
                    rw [r5 hk1]
                    first
                    | (have zz := hall3
                       rw [hall3, hb6']
                       first | rfl | (cases bk <;> cases bn <;> cases bs <;> cases bc <;> cases be <;> cases b6 <;> rfl) | (simp_all; done))
                    | (have hn : r.texts.all textB = false := by
                        rw [Bool.eq_false_iff]
                        intro q1
                        have := List.all_eq_true.1 q1 x (List.mem_of_getElem? hx)
                        rw [hbx] at this
                        cases this
                       rw [hn]
                       rfl))
                 | (have hk1 : r.kind = 7 := by omega
                    rw [r7 hk1]
                    first
                    | (have zz := hall4
                       rw [hall4]
                       first | rfl | (cases bk <;> cases bn <;> cases bt <;> cases bs <;> cases be <;> rfl) | (simp_all; done))
                    | (have hn : okN z = false := by
                        rw [Bool.eq_false_iff]
                        intro q1
                        obtain ⟨e1, e2, _⟩ := okN_nat q1
                        first | omega | (simp_all; done) | (simp_all; omega)
                       have hm := List.mem_of_getElem? hz
                       simp only [List.mem_cons, List.not_mem_nil, or_false] at hm
                       have hn2 : (okN r.out && okN r.acked && okN r.inn) = false := by
                        rcases hm with rfl | rfl | rfl
                        · rw [hn]; rfl
                        · rw [hn, Bool.and_false]; rfl
                        · rw [hn, Bool.and_false]
                       rw [hn2]
                       rfl))
                 | (have hk1 : r.kind = 8 := by omega
                    rw [r8 hk1]
                    first | rfl | (cases bk <;> cases bn <;> cases bt <;> cases bs <;> cases bc <;> cases bw <;> rfl) | (simp_all; done))
                 | rw [r9 (by omega) (by omega) (by omega) (by omega) (by omega) (by omega) (by omega) (by omega)]
              case' hf =>
               intro h
               try (first | (exfalso; omega) | (cases h; done) | (exfalso; simp at h; done) | subst h)
               all_goals
                refine J.skip ?_
 all_goals refine JE.block_normal (JE.then_normal ?_)
 all_goals
  refine J.seq (J.region (JL.step (y_assign rfl) rfl rfl rfl ?_))
  refine JL.nil (JE.then_normal (J.ret ?_))
  refine JE.ret1 (.inl rfl) rfl rfl (by (first | exact RV.tmp rfl | exact RV.cell1 hT rfl rfl rfl (by (exact Rd1.row (by (repeat (first | exact Pick.head | apply Pick.tail | apply Pick.app))) (by rfl))) | exact RV.cellN hT rfl rfl rfl (by (first | exact RdN.rowAll (by (repeat (first | exact Pick.head | apply Pick.tail | apply Pick.app))) | exact RdN.own (by (repeat (first | exact Pick.head | apply Pick.tail | apply Pick.app))))) (by (first | rfl | assumption | (simp; done) | omega)))) ?_
  refine ⟨?_, fun w h => h.sup (by (repeat (first | exact Sup.refl | apply Sup.cons (by (repeat (first | exact Pick.head | apply Pick.tail | apply Pick.app))) | apply Sup.app | apply Sup.skip | apply Sup.skips)))⟩
  first
  | (have hk1 : r.kind = 1 := by omega
     rw [r1 hk1]
     first | rfl | (cases bn <;> cases bt <;> cases bs <;> cases bc <;> cases be <;> rfl) | (simp_all; done))
  | (have hk1 : r.kind = 2 ∨ r.kind = 6 := by omega
     rw [r2 hk1]
     first | rfl | (cases bk <;> cases bn <;> cases bt <;> cases bs <;> cases bc <;> cases be <;> rfl) | (simp_all; done))
  | (have hk1 : r.kind = 3 := by omega
     rw [r3 hk1]
     first
     | (have zz := hall2
        rw [hall2.1, decide_eq_true hall2.2, hb3']
        first | rfl | (cases bk <;> cases bt <;> cases bs <;> cases bc <;> cases be <;> cases b3 <;> rfl) | (simp_all; done))
     | (have zz := hbq
        have hyx : y = x := by
         refine Decidable.of_not_not fun q1 => ?_
         rw [decide_eq_false q1] at hbq
         first | cases hbq | (rw [hbq] at h; cases h)
        have hn : ¬ r.names.Nodup := by
         intro q1
         have := (List.getElem?_inj (by omega) q1).1 (by rw [hy, hyx, hx] : r.names[j]? = r.names[i]?)
         omega
        rw [decide_eq_false hn, Bool.and_false]
        rfl)
     | (have hn : r.names.all nameB = false := by
         rw [Bool.eq_false_iff]
         intro q1
         have := List.all_eq_true.1 q1 x (List.mem_of_getElem? hx)
         rw [hbx] at this
         cases this
        rw [hn]
        rfl))
  | (have hk1 : r.kind = 4 := by omega
     rw [r4 hk1, hok]
     first | rfl | (cases bk <;> cases bn <;> cases bt <;> cases bc <;> cases be <;> cases b4 <;> cases b5 <;> rfl) | (simp_all; done))
  | (have hk1 : r.kind = 5 := by omega
     rw [r5 hk1]
     first
     | (have zz := hall3
        rw [hall3, hb6']
        first | rfl | (cases bk <;> cases bn <;> cases bs <;> cases bc <;> cases be <;> cases b6 <;> rfl) | (simp_all; done))
     | (have hn : r.texts.all textB = false := by
         rw [Bool.eq_false_iff]
         intro q1
         have := List.all_eq_true.1 q1 x (List.mem_of_getElem? hx)
         rw [hbx] at this
         cases this
        rw [hn]
        rfl))
  | (have hk1 : r.kind = 7 := by omega
     rw [r7 hk1]
     first
     | (have zz := hall4
        rw [hall4]
        first | rfl | (cases bk <;> cases bn <;> cases bt <;> cases bs <;> cases be <;> rfl) | (simp_all; done))
     | (have hn : okN z = false := by
         rw [Bool.eq_false_iff]
         intro q1
         obtain ⟨e1, e2, _⟩ := okN_nat q1
         first | omega | (simp_all; done) | (simp_all; omega)
        have hm := List.mem_of_getElem? hz
        simp only [List.mem_cons, List.not_mem_nil, or_false] at hm
        have hn2 : (okN r.out && okN r.acked && okN r.inn) = false := by
         rcases hm with rfl | rfl | rfl
         · rw [hn]; rfl
         · rw [hn, Bool.and_false]; rfl
         · rw [hn, Bool.and_false]
        rw [hn2]
        rfl))
  | (have hk1 : r.kind = 8 := by omega
     rw [r8 hk1]
     first | rfl | (cases bk <;> cases bn <;> cases bt <;> cases bs <;> cases bc <;> cases bw <;> rfl) | (simp_all; done))
  | rw [r9 (by omega) (by omega) (by omega) (by omega) (by omega) (by omega) (by omega) (by omega)]
end
end
end Go.Proofs.YtccagffapohkhaaGreatDoor
