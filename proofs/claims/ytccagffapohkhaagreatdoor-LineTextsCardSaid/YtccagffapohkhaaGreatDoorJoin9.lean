import Derived.Test.YtccagffapohkhaaGreatDoorJoin1
import Derived.Test.YtccagffapohkhaaGreatDoorJoin6
import Derived.Test.YtccagffapohkhaaGreatDoorJoin7
import Derived.Test.YtccagffapohkhaaGreatDoorJoin8
namespace Go.Proofs.YtccagffapohkhaaGreatDoor
section
open Go Go.SL
section
end
section
attribute [local irreducible] J JL JE JM LS Y Fc RV Code.wp wpList Code.wpIn wpListIn
attribute [local irreducible] Yc strOf valD dig
variable (E : World)
end
end
section
open Go Go.SL
section
attribute [local irreducible] J JL JE JM LS Y Fc RV Code.wp wpList Code.wpIn wpListIn
attribute [local irreducible] Yc strOf valD dig
variable (E : World)
theorem lawcut_spec (xs : List Int) (l : List HProp) (hB : Bys xs) : Fc prog E 12 [.string (strOf xs)].toArray l (fun v l' => v = .string (strOf (xs.take 700)) ∧ l' = l) := by
  refine Fc.eqs ?_
  refine Fc.of_body (c := ?codeC) Tryz.func12 ?hb Tryz.ntmps12 ?hl ?_
  case hb => exact rfl
  case hl => exact rfl
  refine J.seq ?_
  refine J.region ?_
  refine JL.step (y_assign rfl) rfl rfl rfl ?_
  refine JL.nil ?_
  refine JE.then_normal ?_
  refine J.seq ?_
  refine J.region ?_
  refine JL.step (y_move rfl) rfl rfl rfl (JL.step (y_move rfl) rfl rfl rfl ?_)
  refine JL.step (y_lenS hT rfl rfl rfl) rfl rfl rfl ?_
  refine JL.step (v := .int .i64 ((min xs.length 700 : Nat) : Int)) (y_min2 rfl rfl (by omega)) rfl rfl rfl ?_
  refine JL.step (y_cutS (lo := 0) (hi := min xs.length 700) hT hB rfl rfl rfl (.inl ⟨rfl, rfl⟩) (.inr ⟨_, _, _, rfl, rfl, rfl⟩) (Nat.zero_le _) (Nat.min_le_left _ _)) rfl rfl rfl ?_
  refine JL.step (y_assign rfl) rfl rfl rfl ?_
  refine JL.nil ?_
  refine JE.then_normal ?_
  refine J.ret ?_
  refine JE.ret1 (.inl rfl) rfl rfl (by (first | exact RV.tmp rfl | exact RV.cell1 hT rfl rfl rfl (by (exact Rd1.row (by (repeat (first | exact Pick.head | apply Pick.tail | apply Pick.app))) (by rfl))) | exact RV.cellN hT rfl rfl rfl (by (first | exact RdN.rowAll (by (repeat (first | exact Pick.head | apply Pick.tail | apply Pick.app))) | exact RdN.own (by (repeat (first | exact Pick.head | apply Pick.tail | apply Pick.app))))) (by (first | rfl | assumption | (simp; done) | omega)))) ?_
  have e : xs.take (min xs.length 700) = xs.take 700 := by
    rcases Nat.le_total xs.length 700 with q | q
    · rw [Nat.min_eq_left q, List.take_length, List.take_of_length_le q]
    · rw [Nat.min_eq_right q]
  rw [List.drop_zero, e]
  exact ⟨rfl, fun w h => h⟩
end
end
section
open Go Go.SL
section
end
section
attribute [local irreducible] J JL JE JM LS Y Fc RV Code.wp wpList Code.wpIn wpListIn
attribute [local irreducible] Yc strOf valD dig
variable (E : World)
abbrev ownS (a : Option Addr) (c : Nat) (ws : List (List Int)) : HProp := own 9 1 (.slice a ws.length c) ws.length (strs ws)
end
end
section
open Go Go.SL
section
theorem name_bys {w : List Int} (h : nameB w = true) : Bys w := by
  unfold nameB at h
  rw [Bool.and_eq_true, Bool.and_eq_true] at h
  intro x hx
  have h1 := List.all_eq_true.1 h.1.1 x hx
  unfold nmB at h1
  simp only [Bool.or_eq_true, Bool.and_eq_true, decide_eq_true_eq] at h1
  omega
theorem text_bys {t : List Int} (h : textB t = true) : Bys t := by
  have h1 := (text_any h).1
  intro x hx
  have h2 : oddB x = false := by
    rw [Bool.eq_false_iff]
    intro q
    rw [List.any_eq_true.2 ⟨x, hx, q⟩] at h1
    cases h1
  unfold oddB at h2
  simp only [Bool.or_eq_false_iff, decide_eq_false_iff_not] at h2
  omega
theorem R64i.zero : R64i 0 := ⟨by decide, by decide⟩
theorem okN_natQ {z : Int} (h : okN z = true) : 0 ≤ z ∧ z ≤ 999999999 ∧ True := by
  unfold okN at h
  rw [Bool.and_eq_true] at h
  exact ⟨of_decide_eq_true h.1, of_decide_eq_true h.2, trivial⟩
theorem R64i.ofOk {z : Int} (h : okN z = true) : R64i z := by
  obtain ⟨h1, h2, _⟩ := okN_natQ h
  exact ⟨by omega, by omega⟩
/-- What may be is small. -/
theorem right_b {r : RpT} (hk : r.key.length = 32) (hB : Bys r.key) (h : rightB r = true) : RpB r := by
  have hnil : ∀ t ∈ ([] : List (List Int)), Bys t ∧ t.length ≤ 1000 := fun _ q => by cases q
  have base : r.names.length ≤ 100 ∧ r.texts.length ≤ 100 ∧ (∀ t ∈ r.names, Bys t ∧ t.length ≤ 1000) ∧ (∀ t ∈ r.texts, Bys t ∧ t.length ≤ 1000) ∧ R64i r.seq ∧ R64i r.out ∧ R64i r.acked ∧ R64i r.inn := by
    rcases right_kind h with k | k | k | k | k | k | k | k
    · rw [right_1 k h]; exact ⟨by simp, by simp, hnil, hnil, R64i.zero, R64i.zero, R64i.zero, R64i.zero⟩
    · rw [right_26 (.inl k) h]; exact ⟨by simp, by simp, hnil, hnil, R64i.zero, R64i.zero, R64i.zero, R64i.zero⟩
    · obtain ⟨e, h1, _, h3⟩ := right_3 k h
      have hn : ∀ t ∈ r.names, Bys t ∧ t.length ≤ 1000 := fun t ht => ⟨name_bys (List.all_eq_true.1 h1 t ht), by have := name_len (List.all_eq_true.1 h1 t ht); omega⟩
      rw [e]; exact ⟨by dsimp only; omega, by simp, hn, hnil, R64i.zero, R64i.zero, R64i.zero, R64i.zero⟩
    · obtain ⟨e, h1⟩ := right_4 k h
      have := R64i.ofOk h1
      rw [e]; exact ⟨by simp, by simp, hnil, hnil, this, R64i.zero, R64i.zero, R64i.zero⟩
    · obtain ⟨e, h1, h2⟩ := right_5 k h
      have hn : ∀ t ∈ r.texts, Bys t ∧ t.length ≤ 1000 := fun t ht => ⟨text_bys (List.all_eq_true.1 h1 t ht), by have := (text_any (List.all_eq_true.1 h1 t ht)).2; omega⟩
      rw [e]; exact ⟨by simp, by dsimp only; omega, hnil, hn, R64i.zero, R64i.zero, R64i.zero, R64i.zero⟩
    · rw [right_26 (.inr k) h]; exact ⟨by simp, by simp, hnil, hnil, R64i.zero, R64i.zero, R64i.zero, R64i.zero⟩
    · obtain ⟨e, h1, h2, h3⟩ := right_7 k h
      have a1 := R64i.ofOk h1
      have a2 := R64i.ofOk h2
      have a3 := R64i.ofOk h3
      rw [e]; exact ⟨by simp, by simp, hnil, hnil, R64i.zero, a1, a2, a3⟩
    · obtain ⟨e, _⟩ := right_8 k h
      rw [e]; exact ⟨by simp, by simp, hnil, hnil, R64i.zero, R64i.zero, R64i.zero, R64i.zero⟩
  obtain ⟨h1, h2, h3, h4, h5, h6, h7, h8⟩ := base
  exact ⟨hk, hB, h1, h2, h3, h4, h5, h6, h7, h8⟩
theorem replyF_key {w rest : List Int} {m : Bool} {r : RpT} (h : replyF w rest m = some r) : r.key = zer32 ∨ ∃ q, keyB q = true ∧ r.key = keyV q := by
  unfold replyF at h
  split at h
  · cases h; exact .inl rfl
  · split at h
    · cases h; exact .inl rfl
    · split at h
      · split at h
        · rename_i q; cases h; exact .inr ⟨_, q, rfl⟩
        · cases h
      · split at h
        · cases hc : conF rest with
          | none => rw [hc] at h; cases h
          | some ns => rw [hc] at h; cases h; exact .inl rfl
        · split at h
          · split at h
            · cases h; exact .inl rfl
            · cases h
          · split at h
            · cases hc : inboxF rest with
              | none => rw [hc] at h; cases h
              | some ns => rw [hc] at h; cases h; exact .inl rfl
            · split at h
              · split at h
                · split at h
                  · cases h; exact .inl rfl
                  · cases h
                · cases h
              · split at h
                · split at h
                  · cases h; exact .inl rfl
                  · cases h
                · cases h
theorem repF_key {xs : List Int} {r : RpT} (h : repF xs = some r) : r.key.length = 32 ∧ Bys r.key := by
  unfold repF at h
  split at h
  · cases h
  · rcases replyF_key h with e | ⟨q, h1, e⟩
    · rw [e]; exact ⟨rfl, zer32_bys⟩
    · rw [e]; exact ⟨kst_length _ _, keyV_bys h1⟩
theorem repR_b (xs : List Int) : RpB (repR xs) := by
  unfold repR
  cases h : repF xs with
  | none => exact ⟨rfl, zer32_bys, by simp [rp0], by simp [rp0], fun _ q => by simp [rp0] at q, fun _ q => by simp [rp0] at q, R64i.zero, R64i.zero, R64i.zero, R64i.zero⟩
  | some r =>
    obtain ⟨h1, h2⟩ := repF_key h
    exact right_b h1 h2 (repF_line h).1
end
end
section
open Go Go.SL
section
end
section
attribute [local irreducible] J JL JE JM LS Y Fc RV Code.wp wpList Code.wpIn wpListIn
attribute [local irreducible] Yc strOf valD dig
variable (E : World)
end
end
section
open Go Go.SL
section
end
end
section
open Go Go.SL
section
end
section
attribute [local irreducible] J JL JE JM LS Y Fc RV Code.wp wpList Code.wpIn wpListIn
attribute [local irreducible] Yc strOf valD dig
variable (E : World)
end
end
section
open Go Go.SL
section
end
section
attribute [local irreducible] J JL JE JM LS Y Fc RV Code.wp wpList Code.wpIn wpListIn
attribute [local irreducible] Yc strOf valD dig
variable (E : World)
end
end
section
open Go Go.SL
section
end
section
attribute [local irreducible] J JL JE JM LS Y Fc RV Code.wp wpList Code.wpIn wpListIn
attribute [local irreducible] Yc strOf valD dig
variable (E : World)
end
end
section
open Go Go.SL
section
end
section
attribute [local irreducible] J JL JE JM LS Y Fc RV Code.wp wpList Code.wpIn wpListIn
attribute [local irreducible] Yc strOf valD dig
variable (E : World)
end
end
section
open Go Go.SL
section
end
section
attribute [local irreducible] J JL JE JM LS Y Fc RV Code.wp wpList Code.wpIn wpListIn
attribute [local irreducible] Yc strOf valD dig
variable (E : World)
end
end
section
open Go Go.SL
section
end
section
attribute [local irreducible] J JL JE JM LS Y Fc RV Code.wp wpList Code.wpIn wpListIn
attribute [local irreducible] Yc strOf valD dig
variable (E : World)
end
end
section
open Go Go.SL
section
end
section
attribute [local irreducible] J JL JE JM LS Y Fc RV Code.wp wpList Code.wpIn wpListIn
attribute [local irreducible] Yc strOf valD dig
variable (E : World)
end
end
section
open Go Go.SL
section
end
section
attribute [local irreducible] J JL JE JM LS Y Fc RV Code.wp wpList Code.wpIn wpListIn
attribute [local irreducible] Yc strOf valD dig
variable (E : World)
end
end
section
open Go Go.SL
section
theorem rep_back {r : RpT} (hk : r.key.length = 32) (hB : Bys r.key) (h : rightB r = true) : repR (lineR r) = r ∧ repS (lineR r) = (0, 0) ∧ (lineR r).length ≤ 640 := by
  have h1 := repF_right hk hB h
  have h2 := (repF_line h1).2.2
  refine ⟨by unfold repR; rw [h1]; rfl, ?_, h2⟩
  unfold repS
  rw [if_neg (by omega), h1]
  rfl
end
section
attribute [local irreducible] J JL JE JM LS Y Fc RV Code.wp wpList Code.wpIn wpListIn
attribute [local irreducible] Yc strOf valD dig
variable (E : World)
end
end
section
open Go Go.SL
section
/-- The texts that are taken. -/
def selL (ws : List (List Int)) : List (List Int) := (ws.take 6).filter textB
theorem selL_length (ws : List (List Int)) : (selL ws).length ≤ 6 := by
  have h1 := List.length_filter_le textB (ws.take 6)
  rw [List.length_take] at h1
  unfold selL
  omega
theorem selL_all (ws : List (List Int)) : (selL ws).all textB = true := by
  rw [List.all_eq_true]
  intro x hx
  exact (List.mem_filter.1 hx).2
theorem selL_in {ws : List (List Int)} {i : Nat} {x : List Int} (hx : ws[i]? = some x) (h : i < 6) (ht : textB x = true) : selL (ws.take (i + 1)) = selL (ws.take i) ++ [x] := by
  unfold selL
  rw [List.take_take, List.take_take, Nat.min_eq_right (by omega), Nat.min_eq_right (by omega), List.take_add_one, hx, Option.toList_some, List.filter_append]
  simp [ht]
theorem selL_no {ws : List (List Int)} {i : Nat} {x : List Int} (hx : ws[i]? = some x) (h : ¬ (i < 6 ∧ textB x = true)) : selL (ws.take (i + 1)) = selL (ws.take i) := by
  unfold selL
  rw [List.take_take, List.take_take]
  by_cases h6 : i < 6
  · rw [Nat.min_eq_right (by omega), Nat.min_eq_right (by omega), List.take_add_one, hx, Option.toList_some, List.filter_append]
    have ht : textB x = false := by
      rw [Bool.eq_false_iff]
      exact fun q => h ⟨h6, q⟩
    simp [ht]
  · rw [Nat.min_eq_left (by omega), Nat.min_eq_left (by omega)]
def sendA : List Int := [115, 101, 110, 100, 32, 97, 32]
theorem cmdF_send {t : List Int} (h : textB t = true) : cmdF (sendA ++ t) = (⟨4, [97], zer32, t, 0⟩, 0, 0) := by
  obtain ⟨h1, h2⟩ := text_any h
  have hne : t ≠ [] := by
    rintro rfl
    cases h
  obtain ⟨xs, hxs⟩ : ∃ xs, sendA ++ t = xs := ⟨_, rfl⟩
  have hl : xs.length = 7 + t.length := by rw [← hxs, List.length_append]; rfl
  have hh : headW xs = [115, 101, 110, 100] := by
    rw [← hxs]
    exact headW_app (w := [115, 101, 110, 100]) (97 :: 32 :: t) (by decide)
  have hw : wIdx wsL [115, 101, 110, 100] = 4 := by decide
  have hp : partAt xs 4 = [97] := by
    unfold partAt
    rw [← hxs]
    exact headW_app (w := [97]) t (by decide)
  have hd : xs.drop 7 = t := by rw [← hxs]; rfl
  have hn : nextB xs 4 nameB = true := by
    unfold nextB
    rw [hp, decide_eq_true (by omega)]
    rfl
  have hoi : ¬ 0 ≤ oddI t := by
    have := oddI_neg.2 h1
    omega
  have htx : txtF xs 6 = .ok t := by
    unfold txtF
    rw [if_neg (by omega)]
    simp only
    rw [show (6 + 1 : Nat) = 7 from rfl, hd, if_neg hne, if_neg (by omega), if_neg hoi]
  have hr : restF xs 4 4 = .ok (xs.length, ⟨4, [97], zer32, t, 0⟩) := by
    unfold restF
    rw [if_neg (by decide), if_neg (by rw [hn]; decide), hp]
    simp only
    rw [if_neg (by decide), if_neg (by decide), if_pos trivial]
    show (match txtF xs 6 with | .error p => _ | .ok t => _) = _
    rw [htx]
  rw [hxs]
  unfold cmdF
  rw [if_neg (by omega), hh, hw, if_neg (by decide)]
  show (match restF xs 4 4 with | .error (e, p) => _ | .ok (a, c) => _) = _
  rw [hr]
  simp only
  rw [if_neg (by omega)]
end
section
attribute [local irreducible] J JL JE JM LS Y Fc RV Code.wp wpList Code.wpIn wpListIn
attribute [local irreducible] Yc strOf valD dig
variable (E : World)
theorem textW_spec (xs : List Int) (l : List HProp) (hB : Bys xs) : Fc prog E 27 [.string (strOf xs)].toArray l (fun v l' => v = .bool (textB xs) ∧ l' = l) := by
  by_cases hl : xs.length ≤ 1000000
  · exact text_spec E xs l hB hl
  · refine Fc.eqs ?_
    have hf : textB xs = false := by unfold textB; rw [decide_eq_false (show ¬ xs.length ≤ 48 by omega), Bool.and_false]; rfl
    have hne : decide (xs ≠ []) = true := decide_eq_true (by rintro rfl; simp at hl)
    rw [hf]
    refine Fc.of_body (c := ?codeC) Tryz.func27 ?hb Tryz.ntmps27 ?hl ?_
    case hb => exact rfl
    case hl => exact rfl
    refine J.seq ?_
    refine J.region ?_
    refine JL.step (y_assign rfl) rfl rfl rfl ?_
    refine JL.nil ?_
    refine JE.then_normal ?_
    refine J.seq ?_
    refine J.region ?_
    refine JL.step (y_move rfl) rfl rfl rfl ?_
    refine JL.step (v := .bool true) (y_neS (ys := []) hB Bys.nil rfl (by unfold strOf; rfl) hne.symm) rfl rfl rfl ?_
    refine JL.step (y_move rfl) rfl rfl rfl ?_
    all_goals (first | (refine JL.gsplit_dec rfl rfl rfl (fun h => ?_) (fun h => ?_) <;> try (first | (exfalso; omega) | exact absurd rfl h)) | (refine JL.gsplit rfl rfl rfl (fun h => ?_) (fun h => ?_) <;> try (first | cases h | (exfalso; simp at h; done))) | skip)
    all_goals (first | refine JL.gskip rfl rfl rfl rfl rfl rfl ?_ | refine JL.gskipU rfl rfl rfl rfl rfl ?_ | refine JL.gstep rfl rfl rfl (y_move rfl) rfl rfl ?_)
    all_goals (first | refine JL.gskip rfl rfl rfl rfl rfl rfl ?_ | refine JL.gskipU rfl rfl rfl rfl rfl ?_ | refine JL.gstep rfl rfl rfl (y_lenS hT rfl rfl rfl) rfl rfl ?_)
    all_goals (first | refine JL.gskip rfl rfl rfl rfl rfl rfl ?_ | refine JL.gskipU rfl rfl rfl rfl rfl ?_ | refine JL.gstep rfl rfl rfl (y_leqB (b := false) rfl rfl (decide_eq_false (by omega))) rfl rfl ?_)
    all_goals (refine JL.step (y_pick rfl rfl rfl) rfl rfl rfl ?_)
    all_goals (refine JL.step (y_move rfl) rfl rfl rfl ?_)
    all_goals (first | (refine JL.gsplit_dec rfl rfl rfl (fun h => ?_) (fun h => ?_) <;> try (first | (exfalso; omega) | exact absurd rfl h)) | (refine JL.gsplit rfl rfl rfl (fun h => ?_) (fun h => ?_) <;> try (first | cases h | (exfalso; simp at h; done))) | skip)
    all_goals (first | refine JL.gskip rfl rfl rfl rfl rfl rfl ?_ | refine JL.gskipU rfl rfl rfl rfl rfl ?_ | refine JL.gstep rfl rfl rfl (y_move rfl) rfl rfl ?_)
    all_goals (first | refine JL.gskip rfl rfl rfl rfl rfl rfl ?_ | refine JL.gskipU rfl rfl rfl rfl rfl ?_ | (refine JL.gloud rfl rfl rfl (l_callF e56 rfl rfl (odd_spec E xs _ hB (by omega)) ?_); rintro _ _ ⟨rfl, rfl⟩))
    all_goals (first | refine JL.gskip rfl rfl rfl rfl rfl rfl ?_ | refine JL.gskipU rfl rfl rfl rfl rfl ?_ | refine JL.gstep rfl rfl rfl (y_lss rfl rfl) rfl rfl ?_)
    all_goals (refine JL.step (y_pick rfl rfl rfl) rfl rfl rfl ?_)
    all_goals (refine JL.step (y_assign rfl) rfl rfl rfl ?_)
    all_goals refine JL.nil ?_
    all_goals refine JE.then_normal ?_
    all_goals
      refine J.ret ?_
      refine JE.ret1 (.inl rfl) rfl rfl (by (first | exact RV.tmp rfl | exact RV.cell1 hT rfl rfl rfl (by (exact Rd1.row (by (repeat (first | exact Pick.head | apply Pick.tail | apply Pick.app))) (by rfl))) | exact RV.cellN hT rfl rfl rfl (by (first | exact RdN.rowAll (by (repeat (first | exact Pick.head | apply Pick.tail | apply Pick.app))) | exact RdN.own (by (repeat (first | exact Pick.head | apply Pick.tail | apply Pick.app))))) (by (first | rfl | assumption | (simp; done) | omega)))) ?_
      exact ⟨rfl, fun w h => h⟩
theorem line_texts (p : Option Addr) (c : Nat) (ws : List (List Int)) (s : ByteArray) (l : List HProp) (hws : ∀ w ∈ ws, Bys w) (hin : InL l p ws.length c (strs ws)) (hK : K24 E l) :
    Fc prog E 7 [.slice p ws.length c, .string s].toArray l (fun v l' => v = .bool true ∧ l' = l) := by
  refine Fc.eqs ?_
  have e0 : strOf [] = ⟨#[]⟩ := by unfold strOf; rfl
  have eA : strOf [97] = ⟨#[97]⟩ := by unfold strOf; rfl
  have eS : strOf sendA = ⟨#[115, 101, 110, 100, 32, 97, 32]⟩ := by unfold strOf; rfl
  obtain ⟨xs0, rfl, hB0, _⟩ := strOf_of s
  have hB := hB0.take 700
  have hL : (xs0.take 700).length ≤ 700 := by rw [List.length_take]; omega
  have hm1 := hin.le
  have hm2 := hin.most
  unfold maxLen at hm2
  refine Fc.of_body (c := ?codeC) Tryz.func7 ?hb Tryz.ntmps7 ?hl ?_
  case hb => exact rfl
  case hl => exact rfl
  refine J.seq ?_
  refine J.region ?_
  refine JL.step (y_assign rfl) rfl rfl rfl ?_
  refine JL.nil ?_
  refine JE.then_normal ?_
  refine J.seq ?_
  refine J.seq ?_
  refine J.region ?_
  refine JL.loud rfl (l_callF e11 rfl rfl (wakes_spec E _ hK) ?_)
  rintro _ l7 ⟨rfl, e7⟩
  obtain rfl := e7.symm
  refine JL.step (y_not rfl) rfl rfl rfl ?_
  refine JL.nil ?_
  refine JE.then_normal ?_
  refine J.cond_f rfl (by (first | rfl | assumption | (simp; done) | (simp; omega))) ?_
  refine J.skip ?_
  refine JE.then_normal ?_
  refine J.seq ?_
  refine J.region ?_
  refine JL.step (y_assign rfl) rfl rfl rfl ?_
  refine JL.nil ?_
  refine JE.then_normal ?_
  refine J.seqK (α := Option Addr × Nat) (fun _ => True) (fun s => [(1, .string (strOf xs0)), (5, .slice s.1 (selL ws).length s.2)]) (fun s => ownS s.1 s.2 (selL ws) :: l) ?hj13 (fun hk13 => ?hf13)
  case hf13 =>
    refine J.seq ?_
    refine J.region ?_
    refine JL.step (y_move rfl) rfl rfl rfl (JL.step (y_len_slice hT rfl rfl rfl) rfl rfl rfl (JL.step (y_move rfl) rfl rfl rfl ?_))
    refine JL.nil ?_
    refine JE.then_normal ?_
    refine J.block ?_
    refine J.pre (l' := ownS none 0 [] :: l) (fun w h => h.own_nil) ?_
    refine J.loop (α := Nat × Option Addr × Nat) (fun s => s.1 ≤ ws.length) (fun s => [(0, .slice p ws.length c), (1, .string (strOf xs0)), (5, .slice s.2.1 (selL (ws.take s.1)).length s.2.2), (21, .slice p ws.length c), (22, .int .i64 ws.length), (23, .int .i64 s.1)]) (fun s => ownS s.2.1 s.2.2 (selL (ws.take s.1)) :: l) (fun s => ws.length - s.1) (0, none, 0) (Nat.zero_le _) ⟨rfl, rfl, rfl, rfl, rfl, rfl, trivial⟩ (fun w h => h) ?_
    rintro ⟨i, a, k⟩ hi
    dsimp only at hi ⊢
    refine J.seq ?_
    refine J.region ?_
    refine JL.step (y_lss rfl rfl) rfl rfl rfl ?_
    refine JL.nil ?_
    refine JE.then_normal ?_
    refine J.seq ?_
    focus
      first | apply J.cond_dec rfl | apply J.cond rfl
      focus
        intro h
        try (first | (exfalso; omega) | (cases h; done) | (exfalso; simp at h; done) | subst h)
        all_goals
          refine J.skip ?_
      rotate_right 1
      focus
        intro h
        try (first | (exfalso; omega) | (cases h; done) | (exfalso; simp at h; done) | subst h)
        all_goals
          refine J.exit ?_
          refine JE.then_exit ?_
          refine JE.then_exit ?_
          refine JE.block_exit ?_
          refine JE.then_normal ?_
          obtain rfl : i = ws.length := by omega
          rw [List.take_length]
          exact J.closeK hk13 (a, k) trivial ⟨rfl, rfl, trivial⟩ (fun w h => h)
    all_goals refine JE.then_normal ?_
    all_goals
      refine J.seq ?_
      refine J.block ?_
      refine J.seq ?_
      have hlt : i < ws.length := by omega
      obtain ⟨x, hx⟩ : ∃ x, ws[i]? = some x := ⟨ws[i]'(by omega), List.getElem?_eq_getElem _⟩
      obtain ⟨g1, o1, rfl, hrd1⟩ := hin.addr (by omega)
      have hxB := hws x (List.mem_of_getElem? hx)
      have hsl := selL_length (ws.take i)
      obtain ⟨bt, hbt⟩ : ∃ b, textB x = b := ⟨_, rfl⟩
      refine J.region ?_
      refine JL.step (y_move rfl) rfl rfl rfl ?_
      refine JL.step (y_indexAddr_slice hT rfl rfl rfl rfl rfl (by (first | omega | exact Nat.le_of_ble_eq_true rfl | decide | (simp; omega))) (by (first | omega | exact Nat.le_of_ble_eq_true rfl | decide | (simp; omega)))) rfl rfl rfl ?_
      refine JL.step (y_load1 hT rfl rfl rfl (Rd1.elem (i := i) (v := .string (strOf x)) ((hrd1 []).cons _) (strs_at hx))) rfl rfl rfl ?_
      refine JL.step (y_assign rfl) rfl rfl rfl (JL.step (y_assign rfl) rfl rfl rfl ?_)
      refine JL.nil ?_
      refine JE.then_normal ?_
      refine J.seq ?_
      by_cases hi6 : i < 6
      rcases bt with _ | _
      all_goals
        refine J.region ?_
        refine JL.step (y_move rfl) rfl rfl rfl ?_
        all_goals first
        | refine JL.step (v := .bool true) (y_lssB rfl rfl (decide_eq_true (by omega))) rfl rfl rfl ?_
        | refine JL.step (v := .bool false) (y_lssB rfl rfl (decide_eq_false (by omega))) rfl rfl rfl ?_
        refine JL.step (y_move rfl) rfl rfl rfl ?_
        all_goals (first | (refine JL.gsplit_dec rfl rfl rfl (fun h => ?_) (fun h => ?_) <;> try (first | (exfalso; omega) | exact absurd rfl h)) | (refine JL.gsplit rfl rfl rfl (fun h => ?_) (fun h => ?_) <;> try (first | cases h | (exfalso; simp at h; done))) | skip)
        all_goals (first | refine JL.gskip rfl rfl rfl rfl rfl rfl ?_ | refine JL.gskipU rfl rfl rfl rfl rfl ?_ | refine JL.gstep rfl rfl rfl (y_move rfl) rfl rfl ?_)
        all_goals (first | refine JL.gskip rfl rfl rfl rfl rfl rfl ?_ | refine JL.gskipU rfl rfl rfl rfl rfl ?_ | (refine JL.gloud rfl rfl rfl (l_callF e27 rfl rfl (hbt ▸ textW_spec E x _ hxB) ?_); rintro _ _ ⟨rfl, rfl⟩))
        all_goals (refine JL.step (y_pick rfl rfl rfl) rfl rfl rfl ?_)
        all_goals refine JL.nil ?_
      all_goals refine JE.then_normal ?_
      all_goals
        focus
          first | apply J.cond_dec rfl | apply J.cond rfl
          focus
            intro h
            try (first | (exfalso; omega) | (cases h; done) | (exfalso; simp at h; done) | subst h)
            all_goals
              refine J.seq ?_
              have hi6 : i < 6 := by omega
              have htl := (text_any hbt).2
              have hst := selL_in hx hi6 hbt
              have hcm := cmdF_send hbt
              have hSB : Bys (sendA ++ x) := (Bys.all rfl : Bys sendA).app hxB
              have hSl : (sendA ++ x).length ≤ 1000000 := by rw [List.length_append]; have : sendA.length = 7 := rfl; omega
              refine J.region ?_
              refine JL.step (y_move rfl) rfl rfl rfl (JL.step (y_move rfl) rfl rfl rfl ?_)
              refine JL.loud rfl (l_buildSliceP (cs := [.string (strOf x)]) hT rfl rfl rfl rfl rfl rfl rfl (fill_one rfl rfl) rfl (fun bs => ?_))
              refine JL.loud rfl (l_append hT rfl rfl rfl rfl rfl rfl rfl rfl (by (repeat (first | exact Pick.head | apply Pick.tail | apply Pick.app))) (by (first | exact RdN.rowAll (by (repeat (first | exact Pick.head | apply Pick.tail | apply Pick.app))) | exact RdN.own (by (repeat (first | exact Pick.head | apply Pick.tail | apply Pick.app))))) (by (first | rfl | assumption | (simp; done) | omega)) (by (first | assumption | exact ones_of rfl | exact encW_one _ | exact encB_one _ | (intro u hu; simp at hu; rcases hu with rfl | rfl <;> rfl) | (intro u hu; simp at hu; subst hu; rfl) | simp)) (by rw [show i9.bytes = 16 from rfl]; omega) (by omega) rfl (fun a7 k7 hk7 => ?_))
              refine JL.step (y_assign rfl) rfl rfl rfl ?_
              refine JL.nil ?_
              refine JE.then_normal ?_
              refine J.seq ?_
              refine J.region ?_
              refine JL.step (y_move rfl) rfl rfl rfl ?_
              refine JL.step (y_addS (xs := sendA) (zs := sendA ++ x) (by rw [eS]; rfl) rfl rfl (by have : sendA.length = 7 := rfl; omega)) rfl rfl rfl ?_
              refine JL.loud rfl (l_callF e13 rfl rfl (hcm ▸ command_spec E (sendA ++ x) _ hSB hSl ((hK.cons _).cons _)) ?_)
              rintro _ _ ⟨rfl, rfl⟩
              refine JL.step (y_move rfl) rfl rfl rfl (JL.step (y_extract rfl rfl) rfl rfl rfl (JL.step (y_extract rfl rfl) rfl rfl rfl ?_))
              have hcl : (cmE ⟨4, [97], zer32, x, 0⟩).length = i27.size := rfl
              have hone := cmE_one ⟨4, [97], zer32, x, 0⟩
              refine JL.loud rfl (l_alloc hT rfl rfl (by (first | rfl | simp)) rfl (fun b8 => ?_))
              refine JL.loud rfl (l_alloc hT rfl rfl (by (first | rfl | simp)) rfl (fun b9 => ?_))
              refine JL.loud rfl (l_storeAll hT rfl rfl rfl hcl hone (by (repeat (first | exact Pick.head | apply Pick.tail | apply Pick.app))) (by (first | rfl | assumption | (simp; done) | omega)) ?_)
              refine JL.loud rfl (l_storeAll hT rfl rfl rfl (by (first | rfl | assumption | (simp; done) | omega)) (by (first | assumption | exact ones_of rfl | exact encW_one _ | exact encB_one _ | (intro u hu; simp at hu; rcases hu with rfl | rfl <;> rfl) | (intro u hu; simp at hu; subst hu; rfl) | simp)) (by (repeat (first | exact Pick.head | apply Pick.tail | apply Pick.app))) (by (first | rfl | assumption | (simp; done) | omega)) ?_)
              refine JL.nil ?_
              refine JE.then_normal ?_
              refine J.seq ?_
              refine J.region ?_
              refine JL.step (y_loadN hT rfl rfl rfl (by (first | exact RdN.rowAll (by (repeat (first | exact Pick.head | apply Pick.tail | apply Pick.app))) | exact RdN.own (by (repeat (first | exact Pick.head | apply Pick.tail | apply Pick.app))))) (by (first | rfl | assumption | (simp; done) | omega))) rfl rfl rfl ?_
              refine JL.step (y_build (cs := [_, _]) hT rfl rfl rfl rfl rfl rfl trivial rfl) rfl rfl rfl ?_
              refine JL.step (v := .bool false) (y_flat_ne (m := 3) (ks := spK) (xs := [.int .i64 0, .int .i64 0]) (ys := [.int .i64 0, .int .i64 0]) (b := false) hT (by kernel_rfl) rfl (by kernel_rfl) (by kernel_rfl) rfl rfl rfl rfl ⟨⟨_, rfl⟩, ⟨_, rfl⟩, trivial⟩ ⟨⟨_, rfl⟩, ⟨_, rfl⟩, trivial⟩ (by simp)) rfl rfl rfl ?_
              refine JL.step (y_move rfl) rfl rfl rfl ?_
              all_goals (first | (refine JL.gsplit_dec rfl rfl rfl (fun h => ?_) (fun h => ?_) <;> try (first | (exfalso; omega) | exact absurd rfl h)) | (refine JL.gsplit rfl rfl rfl (fun h => ?_) (fun h => ?_) <;> try (first | cases h | (exfalso; simp at h; done))) | skip)
              all_goals (first | refine JL.gskip rfl rfl rfl rfl rfl rfl ?_ | refine JL.gskipU rfl rfl rfl rfl rfl ?_ | refine JL.gstep rfl rfl rfl (y_fieldAddr hT rfl rfl rfl rfl rfl rfl) rfl rfl ?_)
              all_goals (first | refine JL.gskip rfl rfl rfl rfl rfl rfl ?_ | refine JL.gskipU rfl rfl rfl rfl rfl ?_ | refine JL.gstep rfl rfl rfl (y_load1 hT rfl rfl rfl (Rd1.row (by (repeat (first | exact Pick.head | apply Pick.tail | apply Pick.app))) (cm_at34 rfl))) rfl rfl ?_)
              all_goals (first | refine JL.gskip rfl rfl rfl rfl rfl rfl ?_ | refine JL.gskipU rfl rfl rfl rfl rfl ?_ | refine JL.gstep rfl rfl rfl (y_move rfl) rfl rfl ?_)
              all_goals (first | refine JL.gskip rfl rfl rfl rfl rfl rfl ?_ | refine JL.gskipU rfl rfl rfl rfl rfl ?_ | refine JL.gstep rfl rfl rfl (y_neS (xs := x) (ys := x) (b := false) hxB hxB rfl rfl (by simp)) rfl rfl ?_)
              all_goals (refine JL.step (y_pick rfl rfl rfl) rfl rfl rfl ?_)
              all_goals (refine JL.step (y_move rfl) rfl rfl rfl ?_)
              all_goals (first | (refine JL.gsplit_dec rfl rfl rfl (fun h => ?_) (fun h => ?_) <;> try (first | (exfalso; omega) | exact absurd rfl h)) | (refine JL.gsplit rfl rfl rfl (fun h => ?_) (fun h => ?_) <;> try (first | cases h | (exfalso; simp at h; done))) | skip)
              all_goals (first | refine JL.gskip rfl rfl rfl rfl rfl rfl ?_ | refine JL.gskipU rfl rfl rfl rfl rfl ?_ | refine JL.gstep rfl rfl rfl (y_fieldAddr hT rfl rfl rfl rfl rfl rfl) rfl rfl ?_)
              all_goals (first | refine JL.gskip rfl rfl rfl rfl rfl rfl ?_ | refine JL.gskipU rfl rfl rfl rfl rfl ?_ | refine JL.gstep rfl rfl rfl (y_load1 hT rfl rfl rfl (Rd1.row (v := .string (strOf [97])) (by (repeat (first | exact Pick.head | apply Pick.tail | apply Pick.app))) rfl)) rfl rfl ?_)
              all_goals (first | refine JL.gskip rfl rfl rfl rfl rfl rfl ?_ | refine JL.gskipU rfl rfl rfl rfl rfl ?_ | refine JL.gstep rfl rfl rfl (y_neS (xs := [97]) (ys := [97]) (b := false) (Bys.all rfl) (Bys.all rfl) rfl (by rw [eA]; rfl) (by simp)) rfl rfl ?_)
              all_goals (refine JL.step (y_pick rfl rfl rfl) rfl rfl rfl ?_)
              all_goals refine JL.nil ?_
              all_goals refine JE.then_normal ?_
              all_goals
                focus
                  first | apply J.cond_dec rfl | apply J.cond rfl
                  focus
                    intro h
                    try (first | (exfalso; omega) | (cases h; done) | (exfalso; simp at h; done) | subst h)
                    all_goals
                      refine J.seq ?_
                      refine J.region ?_
                      refine JL.step (y_assign rfl) rfl rfl rfl ?_
                      refine JL.nil ?_
                      refine JE.then_normal ?_
                      refine J.ret ?_
                      refine JE.block_ret ?_
                      refine JE.then_ret ?_
                      refine JE.then_ret ?_
                      refine JE.block_ret ?_
                      refine JE.then_ret ?_
                      refine JE.ret1 (.inl rfl) rfl rfl (by (first | exact RV.tmp rfl | exact RV.cell1 hT rfl rfl rfl (by (exact Rd1.row (by (repeat (first | exact Pick.head | apply Pick.tail | apply Pick.app))) (by rfl))) | exact RV.cellN hT rfl rfl rfl (by (first | exact RdN.rowAll (by (repeat (first | exact Pick.head | apply Pick.tail | apply Pick.app))) | exact RdN.own (by (repeat (first | exact Pick.head | apply Pick.tail | apply Pick.app))))) (by (first | rfl | assumption | (simp; done) | omega)))) ?_
                      exact ⟨rfl, hend⟩
                  rotate_right 1
                  focus
                    intro h
                    try (first | (exfalso; omega) | (cases h; done) | (exfalso; simp at h; done) | subst h)
                    all_goals
                      refine J.skip ?_
          rotate_right 1
          focus
            intro h
            try (first | (exfalso; omega) | (cases h; done) | (exfalso; simp at h; done) | subst h)
            all_goals
              refine J.skip ?_
      all_goals refine JE.block_normal ?_
      all_goals refine JE.then_normal ?_
      all_goals
        refine J.region ?_
        refine JL.step (y_add rfl rfl (by (first | exact wrap_i64 (by omega) (by omega) | rfl))) rfl rfl rfl ?_
        refine JL.step (y_move rfl) rfl rfl rfl ?_
        refine JL.nil ?_
    all_goals
      first
      | (have zz := hcm
         exact JE.round (s := (i, a, k)) (i + 1, a7, k7) (by dsimp only; omega) ⟨rfl, rfl, by dsimp only; rw [hst, List.length_append]; rfl, rfl, rfl, rfl, trivial⟩ (fun w h => by
           dsimp only
           rw [hst]
           unfold ownS
           rw [strs_app, List.length_append]
           exact h.sup (by (repeat (first | exact Sup.refl | apply Sup.cons (by (repeat (first | exact Pick.head | apply Pick.tail | apply Pick.app))) | apply Sup.app | apply Sup.skip | apply Sup.skips)))) (by dsimp only; omega))
      | (have hst : selL (ws.take (i + 1)) = selL (ws.take i) := selL_no hx (by
           rintro ⟨q1, q2⟩
           first
           | exact hi6 q1
           | (rw [hbt] at q2; cases q2))
         exact JE.round (s := (i, a, k)) (i + 1, a, k) (by dsimp only; omega) ⟨rfl, rfl, by dsimp only; rw [hst]; rfl, rfl, rfl, rfl, trivial⟩ (fun w h => by
           dsimp only
           rw [hst]
           exact h.sup (by (repeat (first | exact Sup.refl | apply Sup.cons (by (repeat (first | exact Pick.head | apply Pick.tail | apply Pick.app))) | apply Sup.app | apply Sup.skip | apply Sup.skips)))) (by dsimp only; omega))
  rintro ⟨a9, k9⟩ _
  try dsimp only
  refine J.fact (fun w s => Sat.own_at s) fun oo1 => ?_
  obtain ⟨ts, hts⟩ : ∃ ts, selL ws = ts := ⟨_, rfl⟩
  have ht6 := selL_length ws
  have htA := selL_all ws
  rw [hts] at ht6 htA oo1 ⊢
  have hi1 : InL (ownS a9 k9 ts :: l) a9 ts.length k9 (strs ts) := oo1.inl Pick.head
  obtain ⟨r, hr⟩ : ∃ r : RpT, ⟨5, zer32, [], ts, 0, 0, 0, 0, 0⟩ = r := ⟨_, rfl⟩
  have hrt : r.texts = ts := by rw [← hr]
  have hrn : r.names = [] := by rw [← hr]
  have hrk : r.key = zer32 := by rw [← hr]
  have hri : rightB r = true := by
    rw [← hr]
    show (ts.all textB && (true && true && true && true && true && decide (ts.length ≤ 6))) = true
    rw [htA, decide_eq_true ht6]
    rfl
  have hRB := right_b (r := r) (by rw [hrk]; rfl) (by rw [hrk]; exact zer32_bys) hri
  have hpf : printF r = (lineR r, 0) := by rw [printF_right hRB.key hRB.kb, hri, if_pos rfl]
  obtain ⟨hb1, hb2, hb3⟩ := rep_back hRB.key hRB.kb hri
  have hlB : Bys (lineR r) := joinW_bys fun w hw => ((printW_each hRB).2 w hw).2
  have hre : rpE r (.slice none 0 0) (.slice a9 ts.length k9) = rpE r (.slice none r.names.length 0) (.slice a9 r.texts.length k9) := by rw [hrn, hrt]; rfl
  have hj1 : InL (ownS a9 k9 ts :: l) none r.names.length 0 (strs r.names) := by rw [hrn]; exact InL.nil0
  have hj2 : InL (ownS a9 k9 ts :: l) a9 r.texts.length k9 (strs r.texts) := by rw [hrt]; exact hi1
  refine J.seq ?_
  refine J.region ?_
  refine JL.step (y_move rfl) rfl rfl rfl ?_
  refine JL.step (y_build (cs := rpE r (.slice none 0 0) (.slice a9 ts.length k9)) hT rfl rfl rfl rfl rfl rfl ⟨⟨rfl, Nat.le_of_ble_eq_true rfl⟩, ⟨rfl, Nat.le_of_ble_eq_true rfl⟩, trivial⟩ (by rw [← hr]; rfl)) rfl rfl rfl ?_
  refine JL.loud rfl (l_callF e16 rfl rfl (hre ▸ hpf ▸ printP_spec E r none 0 a9 k9 _ hRB (repR_b _) hj1 hj2 (hK.cons _)) ?_)
  rintro _ _ ⟨rfl, rfl⟩
  refine JL.step (y_move rfl) rfl rfl rfl (JL.step (y_extract rfl rfl) rfl rfl rfl (JL.step (y_extract rfl rfl) rfl rfl rfl (JL.step (y_assign rfl) rfl rfl rfl (JL.step (y_assign rfl) rfl rfl rfl ?_))))
  refine JL.nil ?_
  refine JE.then_normal ?_
  refine J.seq ?_
  refine J.seq ?_
  refine J.region ?_
  refine JL.step (y_move rfl) rfl rfl rfl (JL.step (y_neq rfl rfl) rfl rfl rfl ?_)
  refine JL.nil ?_
  refine JE.then_normal ?_
  focus
    first | apply J.cond_dec rfl | apply J.cond rfl
    focus
      intro h
      try (first | (exfalso; omega) | (cases h; done) | (exfalso; simp at h; done) | subst h)
      all_goals
        refine J.seq ?_
        refine J.region ?_
        refine JL.step (y_assign rfl) rfl rfl rfl ?_
        refine JL.nil ?_
        refine JE.then_normal ?_
        refine J.ret ?_
        refine JE.then_ret ?_
        refine JE.ret1 (.inl rfl) rfl rfl (by (first | exact RV.tmp rfl | exact RV.cell1 hT rfl rfl rfl (by (exact Rd1.row (by (repeat (first | exact Pick.head | apply Pick.tail | apply Pick.app))) (by rfl))) | exact RV.cellN hT rfl rfl rfl (by (first | exact RdN.rowAll (by (repeat (first | exact Pick.head | apply Pick.tail | apply Pick.app))) | exact RdN.own (by (repeat (first | exact Pick.head | apply Pick.tail | apply Pick.app))))) (by (first | rfl | assumption | (simp; done) | omega)))) ?_
        exact ⟨rfl, hend⟩
    rotate_right 1
    focus
      intro h
      try (first | (exfalso; omega) | (cases h; done) | (exfalso; simp at h; done) | subst h)
      all_goals
        refine J.skip ?_
  all_goals refine JE.then_normal ?_
  all_goals
    refine J.seq ?_
    refine J.region ?_
    refine JL.step (y_move rfl) rfl rfl rfl ?_
    refine JL.loud rfl (l_callF e29 rfl rfl (hb1 ▸ hb2 ▸ lreply_spec E (lineR r) _ hlB (by omega) (hK.cons _)) ?_)
    rintro _ l10 ⟨cz, KZ, ⟨zp1, zc1, zp2, zc2, hzo, hz1, hz2, hcz⟩, rfl, e10⟩
    refine JL.step (y_move rfl) rfl rfl rfl ?_
    obtain rfl := e10
    have hczl : cz.length = i36.size := by rw [hcz]; exact rpE_length hRB.key _ _
    have hczo : ∀ v ∈ cz, v.oneCell' = true := by rw [hcz]; exact rpE_one r rfl rfl
    have hatz := rp_at hRB.key (.slice zp1 r.names.length zc1) (.slice zp2 r.texts.length zc2)
    rw [← hcz] at hatz
    refine JL.step (y_extract rfl rfl) rfl rfl rfl (JL.step (y_extract rfl rfl) rfl rfl rfl ?_)
    refine JL.loud rfl (l_alloc hT rfl rfl (by (first | rfl | simp)) rfl (fun b12 => ?_))
    refine JL.loud rfl (l_alloc hT rfl rfl (by (first | rfl | simp)) rfl (fun b13 => ?_))
    refine JL.loud rfl (l_storeAll hT rfl rfl rfl hczl hczo (by (repeat (first | exact Pick.head | apply Pick.tail | apply Pick.app))) (by (first | rfl | assumption | (simp; done) | omega)) ?_)
    refine JL.loud rfl (l_storeAll hT rfl rfl rfl (by (first | rfl | assumption | (simp; done) | omega)) (by (first | assumption | exact ones_of rfl | exact encW_one _ | exact encB_one _ | (intro u hu; simp at hu; rcases hu with rfl | rfl <;> rfl) | (intro u hu; simp at hu; subst hu; rfl) | simp)) (by (repeat (first | exact Pick.head | apply Pick.tail | apply Pick.app))) (by (first | rfl | assumption | (simp; done) | omega)) ?_)
    refine JL.nil ?_
    refine JE.then_normal ?_
    refine J.seq ?_
    refine J.seq ?_
    refine J.region ?_
    refine JL.step (y_loadN hT rfl rfl rfl (by (first | exact RdN.rowAll (by (repeat (first | exact Pick.head | apply Pick.tail | apply Pick.app))) | exact RdN.own (by (repeat (first | exact Pick.head | apply Pick.tail | apply Pick.app))))) (by (first | rfl | assumption | (simp; done) | omega))) rfl rfl rfl ?_
    refine JL.step (y_build (cs := [_, _]) hT rfl rfl rfl rfl rfl rfl trivial rfl) rfl rfl rfl ?_
    refine JL.step (v := .bool false) (y_flat_ne (m := 3) (ks := spK) (xs := [.int .i64 0, .int .i64 0]) (ys := [.int .i64 0, .int .i64 0]) (b := false) hT (by kernel_rfl) rfl (by kernel_rfl) (by kernel_rfl) rfl rfl rfl rfl ⟨⟨_, rfl⟩, ⟨_, rfl⟩, trivial⟩ ⟨⟨_, rfl⟩, ⟨_, rfl⟩, trivial⟩ (by simp)) rfl rfl rfl ?_
    refine JL.step (y_move rfl) rfl rfl rfl ?_
    all_goals (first | (refine JL.gsplit_dec rfl rfl rfl (fun h => ?_) (fun h => ?_) <;> try (first | (exfalso; omega) | exact absurd rfl h)) | (refine JL.gsplit rfl rfl rfl (fun h => ?_) (fun h => ?_) <;> try (first | cases h | (exfalso; simp at h; done))) | skip)
    all_goals (first | refine JL.gskip rfl rfl rfl rfl rfl rfl ?_ | refine JL.gskipU rfl rfl rfl rfl rfl ?_ | refine JL.gstep rfl rfl rfl (y_fieldAddr hT rfl rfl rfl rfl rfl rfl) rfl rfl ?_)
    all_goals (first | refine JL.gskip rfl rfl rfl rfl rfl rfl ?_ | refine JL.gskipU rfl rfl rfl rfl rfl ?_ | refine JL.gstep rfl rfl rfl (y_load1 hT rfl rfl rfl (Rd1.row (by (repeat (first | exact Pick.head | apply Pick.tail | apply Pick.app))) (hatz 1))) rfl rfl ?_)
    all_goals (first | refine JL.gskip rfl rfl rfl rfl rfl rfl ?_ | refine JL.gskipU rfl rfl rfl rfl rfl ?_ | refine JL.gstep rfl rfl rfl (y_len_slice hT rfl rfl rfl) rfl rfl ?_)
    all_goals (first | refine JL.gskip rfl rfl rfl rfl rfl rfl ?_ | refine JL.gskipU rfl rfl rfl rfl rfl ?_ | refine JL.gstep rfl rfl rfl (y_move rfl) rfl rfl ?_)
    all_goals (first | refine JL.gskip rfl rfl rfl rfl rfl rfl ?_ | refine JL.gskipU rfl rfl rfl rfl rfl ?_ | refine JL.gstep rfl rfl rfl (y_len_slice hT rfl rfl rfl) rfl rfl ?_)
    all_goals (first | refine JL.gskip rfl rfl rfl rfl rfl rfl ?_ | refine JL.gskipU rfl rfl rfl rfl rfl ?_ | refine JL.gstep rfl rfl rfl (y_neqB (b := false) rfl rfl (decide_eq_false (by rw [hrt]; simp))) rfl rfl ?_)
    all_goals (refine JL.step (y_pick rfl rfl rfl) rfl rfl rfl ?_)
    all_goals refine JL.nil ?_
    all_goals refine JE.then_normal ?_
    all_goals
      focus
        first | apply J.cond_dec rfl | apply J.cond rfl
        focus
          intro h
          try (first | (exfalso; omega) | (cases h; done) | (exfalso; simp at h; done) | subst h)
          all_goals
            refine J.seq ?_
            refine J.region ?_
            refine JL.step (y_assign rfl) rfl rfl rfl ?_
            refine JL.nil ?_
            refine JE.then_normal ?_
            refine J.ret ?_
            refine JE.then_ret ?_
            refine JE.ret1 (.inl rfl) rfl rfl (by (first | exact RV.tmp rfl | exact RV.cell1 hT rfl rfl rfl (by (exact Rd1.row (by (repeat (first | exact Pick.head | apply Pick.tail | apply Pick.app))) (by rfl))) | exact RV.cellN hT rfl rfl rfl (by (first | exact RdN.rowAll (by (repeat (first | exact Pick.head | apply Pick.tail | apply Pick.app))) | exact RdN.own (by (repeat (first | exact Pick.head | apply Pick.tail | apply Pick.app))))) (by (first | rfl | assumption | (simp; done) | omega)))) ?_
            exact ⟨rfl, hend⟩
        rotate_right 1
        focus
          intro h
          try (first | (exfalso; omega) | (cases h; done) | (exfalso; simp at h; done) | subst h)
          all_goals
            refine J.skip ?_
    all_goals refine JE.then_normal ?_
    all_goals
      refine J.seq ?_
      refine J.seq ?_
      refine J.region ?_
      refine JL.step (y_move rfl) rfl rfl rfl (JL.step (y_len_slice hT rfl rfl rfl) rfl rfl rfl (JL.step (y_move rfl) rfl rfl rfl ?_))
      refine JL.nil ?_
      refine JE.then_normal ?_
      refine J.block ?_
      refine J.pre (l' := row b12 36 cz :: KZ :: ownS a9 k9 ts :: l) (fun w h => h.sup (by (repeat (first | exact Sup.refl | apply Sup.cons (by (repeat (first | exact Pick.head | apply Pick.tail | apply Pick.app))) | apply Sup.app | apply Sup.skip | apply Sup.skips)))) ?_
      have hz2i : InL (row b12 36 cz :: KZ :: ownS a9 k9 ts :: l) zp2 r.texts.length zc2 (strs r.texts) := hz2.inl.kept (by (repeat (first | exact Pick.head | apply Pick.tail | apply Pick.app)))
      rw [hrt] at hz2i hatz
      have hi9 : InL (row b12 36 cz :: KZ :: ownS a9 k9 ts :: l) a9 ts.length k9 (strs ts) := (hi1.cons _).cons _
      obtain ⟨L9, hL9⟩ : ∃ L, row b12 36 cz :: KZ :: ownS a9 k9 ts :: l = L := ⟨_, rfl⟩
      obtain ⟨q9, hp9⟩ : ∃ q, Pick L9 (row b12 36 cz) q := ⟨_, hL9 ▸ Pick.head⟩
      have hend : ∀ w, Sat E (stars L9) w → Sat E (stars l) w := fun w h => by rw [← hL9] at h; exact h.sup (by (repeat (first | exact Sup.refl | apply Sup.cons (by (repeat (first | exact Pick.head | apply Pick.tail | apply Pick.app))) | apply Sup.app | apply Sup.skip | apply Sup.skips)))
      rw [hL9] at hz2i hi9 ⊢
      refine J.loop (α := Nat) (fun i => i ≤ ts.length) (fun i => [(1, .string (strOf xs0)), (5, .slice a9 ts.length k9), (12, .pointer (some ⟨b12, 0, none⟩)), (84, .int .i64 ts.length), (85, .int .i64 i)]) (fun _ => L9) (fun i => ts.length - i) 0 (Nat.zero_le _) ⟨rfl, rfl, rfl, rfl, rfl, trivial⟩ (fun w h => h) ?_
      intro i hi
      try dsimp only
      refine J.seq ?_
      refine J.region ?_
      refine JL.step (y_lss rfl rfl) rfl rfl rfl ?_
      refine JL.nil ?_
      refine JE.then_normal ?_
      refine J.seq ?_
      focus
        first | apply J.cond_dec rfl | apply J.cond rfl
        focus
          intro h
          try (first | (exfalso; omega) | (cases h; done) | (exfalso; simp at h; done) | subst h)
          all_goals
            refine J.skip ?_
        rotate_right 1
        focus
          intro h
          try (first | (exfalso; omega) | (cases h; done) | (exfalso; simp at h; done) | subst h)
          all_goals
            refine J.exit ?_
            refine JE.then_exit ?_
            refine JE.then_exit ?_
            refine JE.block_exit ?_
            refine JE.then_normal ?_
            refine J.seq ?_
            refine J.region ?_
            refine JL.step (y_move rfl) rfl rfl rfl ?_
            refine JL.loud rfl (l_callF e12 rfl rfl (lawcut_spec E xs0 _ hB0) ?_)
            rintro _ l11 ⟨rfl, eL1⟩
            obtain rfl := eL1.symm
            obtain ⟨nm, hnm⟩ : ∃ nm, xs0.take 700 = nm := ⟨_, rfl⟩
            rw [hnm] at hB hL ⊢
            refine JL.loud rfl (l_callF e23 rfl rfl (named_spec E nm _ hB) ?_)
            rintro _ l12 ⟨rfl, eL2⟩
            obtain rfl := eL2.symm
            refine JL.step (y_move rfl) rfl rfl rfl (JL.step (y_extract rfl rfl) rfl rfl rfl (JL.step (y_extract rfl rfl) rfl rfl rfl (JL.step (y_assign rfl) rfl rfl rfl (JL.step (y_assign rfl) rfl rfl rfl ?_))))
            refine JL.nil ?_
            refine JE.then_normal ?_
            refine J.seq ?_
            refine J.region ?_
            refine JL.step (y_move rfl) rfl rfl rfl ?_
            refine JL.loud rfl (l_callF e21 rfl rfl (word_spec E (namedF nm).1 _) ?_)
            rintro _ l13 ⟨rfl, eL3⟩
            obtain rfl := eL3.symm
            refine JL.step (y_move rfl) rfl rfl rfl (JL.step (y_extract rfl rfl) rfl rfl rfl (JL.step (y_extract rfl rfl) rfl rfl rfl (JL.step (y_assign rfl) rfl rfl rfl (JL.step (y_assign rfl) rfl rfl rfl ?_))))
            refine JL.nil ?_
            refine JE.then_normal ?_
            refine J.seq ?_
            obtain ⟨bo, hbo⟩ : ∃ b, (namedF nm).2 = b := ⟨_, rfl⟩
            rw [hbo]
            rcases bo with _ | _
            rotate_left
            have hwn := word_named hbo
            rw [hwn]
            rotate_left
            all_goals
              refine J.region ?_
              refine JL.step (y_move rfl) rfl rfl rfl (JL.step (y_not rfl) rfl rfl rfl (JL.step (y_move rfl) rfl rfl rfl ?_))
              all_goals (first | (refine JL.gsplit_dec rfl rfl rfl (fun h => ?_) (fun h => ?_) <;> try (first | (exfalso; omega) | exact absurd rfl h)) | (refine JL.gsplit rfl rfl rfl (fun h => ?_) (fun h => ?_) <;> try (first | cases h | (exfalso; simp at h; done))) | skip)
              all_goals (first | refine JL.gskip rfl rfl rfl rfl rfl rfl ?_ | refine JL.gskipU rfl rfl rfl rfl rfl ?_ | refine JL.gstep rfl rfl rfl (y_move rfl) rfl rfl ?_)
              all_goals (first | refine JL.gskip rfl rfl rfl rfl rfl rfl ?_ | refine JL.gskipU rfl rfl rfl rfl rfl ?_ | refine JL.gstep rfl rfl rfl (y_move rfl) rfl rfl ?_)
              all_goals (first | (refine JL.gsplit_dec rfl rfl rfl (fun h => ?_) (fun h => ?_) <;> try (first | (exfalso; omega) | exact absurd rfl h)) | (refine JL.gsplit rfl rfl rfl (fun h => ?_) (fun h => ?_) <;> try (first | cases h | (exfalso; simp at h; done))) | skip)
              all_goals (first | refine JL.gskip rfl rfl rfl rfl rfl rfl ?_ | refine JL.gskipU rfl rfl rfl rfl rfl ?_ | refine JL.gstep rfl rfl rfl (y_move rfl) rfl rfl ?_)
              all_goals (first | refine JL.gskip rfl rfl rfl rfl rfl rfl ?_ | refine JL.gskipU rfl rfl rfl rfl rfl ?_ | refine JL.gstep rfl rfl rfl (y_move rfl) rfl rfl ?_)
              all_goals (first | refine JL.gskip rfl rfl rfl rfl rfl rfl ?_ | refine JL.gskipU rfl rfl rfl rfl rfl ?_ | (refine JL.gloud rfl rfl rfl (l_callF e12 rfl rfl (hnm ▸ lawcut_spec E xs0 _ hB0) ?_); rintro _ _ ⟨rfl, rfl⟩))
              all_goals (first | refine JL.gskip rfl rfl rfl rfl rfl rfl ?_ | refine JL.gskipU rfl rfl rfl rfl rfl ?_ | refine JL.gstep rfl rfl rfl (y_eqS (xs := nm) (ys := nm) (b := true) hB hB rfl rfl (by simp)) rfl rfl ?_)
              all_goals (first | refine JL.gskip rfl rfl rfl rfl rfl rfl ?_ | refine JL.gskipU rfl rfl rfl rfl rfl ?_ | refine JL.gstep rfl rfl rfl (y_pick rfl rfl rfl) rfl rfl ?_)
              all_goals (refine JL.step (y_pick rfl rfl rfl) rfl rfl rfl ?_)
              all_goals (refine JL.step (y_assign rfl) rfl rfl rfl ?_)
              all_goals refine JL.nil ?_
            all_goals refine JE.then_normal ?_
            all_goals
              refine J.ret ?_
              refine JE.ret1 (.inl rfl) rfl rfl (by (first | exact RV.tmp rfl | exact RV.cell1 hT rfl rfl rfl (by (exact Rd1.row (by (repeat (first | exact Pick.head | apply Pick.tail | apply Pick.app))) (by rfl))) | exact RV.cellN hT rfl rfl rfl (by (first | exact RdN.rowAll (by (repeat (first | exact Pick.head | apply Pick.tail | apply Pick.app))) | exact RdN.own (by (repeat (first | exact Pick.head | apply Pick.tail | apply Pick.app))))) (by (first | rfl | assumption | (simp; done) | omega)))) ?_
              exact ⟨rfl, hend⟩
      all_goals refine JE.then_normal ?_
      all_goals
        refine J.seq ?_
        refine J.block ?_
        refine J.seq ?_
        refine J.region ?_
        refine JL.step (y_move rfl) rfl rfl rfl (JL.step (y_assign rfl) rfl rfl rfl ?_)
        refine JL.nil ?_
        refine JE.then_normal ?_
        refine J.seq ?_
        have hlt : i < ts.length := by omega
        obtain ⟨x, hx⟩ : ∃ x, ts[i]? = some x := ⟨ts[i]'(by omega), List.getElem?_eq_getElem _⟩
        obtain ⟨g1, o1, hz1', hrd1⟩ := hz2i.addr (by omega)
        obtain ⟨g2, o2, ha2', hrd2⟩ := hi9.addr (by omega)
        subst hz1' ha2'
        have hr1 := hrd1 []
        have hr2 := hrd2 []
        rw [List.nil_append] at hr1 hr2
        have hxB := text_bys (List.all_eq_true.1 htA x (List.mem_of_getElem? hx))
        refine J.draw _ _ [(0, .q), (1, .q), (2, .q), (3, .q), (4, .q), (5, .q), (6, .q), (7, .q), (8, .q), (9, .q)] mixed (by kernel_rfl) (Split.nil) ?_
        refine JM.quiet rfl rfl rfl rfl (fun m => y_fieldAddr hT rfl rfl rfl rfl rfl rfl) ?_
        refine JM.quiet rfl rfl rfl rfl (fun m => y_load1 hT rfl rfl rfl (Rd1.row (Pick.app m hp9) (hatz 1))) ?_
        refine JM.quiet rfl rfl rfl rfl (fun m => y_move rfl) ?_
        refine JM.quiet rfl rfl rfl rfl (fun m => y_indexAddr_slice hT rfl rfl rfl rfl rfl (by (first | omega | exact Nat.le_of_ble_eq_true rfl | decide | (simp; omega))) (by (first | omega | exact Nat.le_of_ble_eq_true rfl | decide | (simp; omega)))) ?_
        refine JM.quiet rfl rfl rfl rfl (fun m => y_load1 hT rfl rfl rfl (Rd1.elem (i := i) (v := .string (strOf x)) (RdN.app hr1 m) (strs_at hx))) ?_
        refine JM.quiet rfl rfl rfl rfl (fun m => y_move rfl) ?_
        refine JM.quiet rfl rfl rfl rfl (fun m => y_move rfl) ?_
        refine JM.quiet rfl rfl rfl rfl (fun m => y_indexAddr_slice hT rfl rfl rfl rfl rfl (by (first | omega | exact Nat.le_of_ble_eq_true rfl | decide | (simp; omega))) (by (first | omega | exact Nat.le_of_ble_eq_true rfl | decide | (simp; omega)))) ?_
        refine JM.quiet rfl rfl rfl rfl (fun m => y_load1 hT rfl rfl rfl (Rd1.elem (i := i) (v := .string (strOf x)) (RdN.app hr2 m) (strs_at hx))) ?_
        refine JM.quiet rfl rfl rfl rfl (fun m => y_neS (xs := x) (ys := x) (b := false) hxB hxB rfl rfl (by simp)) ?_
        refine JM.nil ?_
        refine JE.then_normal ?_
        focus
          first | apply J.cond_dec rfl | apply J.cond rfl
          focus
            intro h
            try (first | (exfalso; omega) | (cases h; done) | (exfalso; simp at h; done) | subst h)
            all_goals
              refine J.seq ?_
              refine J.region ?_
              refine JL.step (y_assign rfl) rfl rfl rfl ?_
              refine JL.nil ?_
              refine JE.then_normal ?_
              refine J.ret ?_
              refine JE.block_ret ?_
              refine JE.then_ret ?_
              refine JE.then_ret ?_
              refine JE.block_ret ?_
              refine JE.then_ret ?_
              refine JE.ret1 (.inl rfl) rfl rfl (by (first | exact RV.tmp rfl | exact RV.cell1 hT rfl rfl rfl (by (exact Rd1.row (by (repeat (first | exact Pick.head | apply Pick.tail | apply Pick.app))) (by rfl))) | exact RV.cellN hT rfl rfl rfl (by (first | exact RdN.rowAll (by (repeat (first | exact Pick.head | apply Pick.tail | apply Pick.app))) | exact RdN.own (by (repeat (first | exact Pick.head | apply Pick.tail | apply Pick.app))))) (by (first | rfl | assumption | (simp; done) | omega)))) ?_
              exact ⟨rfl, hend⟩
          rotate_right 1
          focus
            intro h
            try (first | (exfalso; omega) | (cases h; done) | (exfalso; simp at h; done) | subst h)
            all_goals
              refine J.skip ?_
        all_goals refine JE.block_normal ?_
        all_goals refine JE.then_normal ?_
        all_goals
          refine J.region ?_
          refine JL.step (y_add rfl rfl (by (first | exact wrap_i64 (by omega) (by omega) | rfl))) rfl rfl rfl ?_
          refine JL.step (y_move rfl) rfl rfl rfl ?_
          refine JL.nil ?_
      all_goals
        exact JE.round (s := i) (i + 1) (by omega) ⟨rfl, rfl, rfl, rfl, rfl, trivial⟩ (fun w h => h) (by omega)
end
end
end Go.Proofs.YtccagffapohkhaaGreatDoor
