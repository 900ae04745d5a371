import Derived.Test.YtimekohdlofmaaaGreatJoin2
import Derived.Test.YtimekohdlofmaaaGreatJoin8
/- The document's chapter 14, as far as chapter 22's reference wants it. -/
namespace Go.Proofs.YtimekohdlofmaaaGreat
open Go Go.SL
section
attribute [local irreducible] J JL JE JM LS Y Fc RV Code.wp wpList Code.wpIn wpListIn
attribute [local irreducible] Yc
variable (E : World)
end
end Go.Proofs.YtimekohdlofmaaaGreat
/- The document's chapter 22: an entry by value. -/
namespace Go.Proofs.YtimekohdlofmaaaGreat
open Go Go.SL
section
theorem downs_eq (last : BitVec 64) : ∀ (ks : List Int) (vs : List Value), downs last ks vs = (ks.zip vs).flatMap fun q => downE last q.1 q.2
  | [], _ => by simp [downs]
  | _ :: _, [] => by simp [downs]
  | k :: ks, v :: vs => by
    have h := downs_eq last ks vs
    unfold downs at h ⊢
    rw [List.zipWith_cons_cons, List.flatten_cons, h, List.zip_cons_cons, List.flatMap_cons]
/-- A place among places. -/
def insP (p : Int × List Int) : List (Int × List Int) → List (Int × List Int)
  | [] => [p]
  | q :: r => if p.1 < q.1 then p :: q :: r else q :: insP p r
theorem insP_perm (p : Int × List Int) : ∀ G, (insP p G).Perm (p :: G)
  | [] => List.Perm.refl _
  | q :: r => by
    unfold insP
    split
    · exact List.Perm.refl _
    · exact (List.Perm.cons q (insP_perm p r)).trans (List.Perm.swap p q r)
theorem insP_past {p : Int × List Int} {B : List (Int × List Int)} : ∀ {A : List (Int × List Int)}, (∀ q ∈ A, ¬ p.1 < q.1) → insP p (A ++ B) = A ++ insP p B
  | [], _ => rfl
  | q :: r, h => by
    rw [List.cons_append, insP, if_neg (h q (by simp)), insP_past fun x hx => h x (by simp [hx])]
    rfl
theorem insP_mem {p x : Int × List Int} {G : List (Int × List Int)} : x ∈ insP p G ↔ x = p ∨ x ∈ G := by
  rw [(insP_perm p G).mem_iff, List.mem_cons]
theorem insP_placed {p : Int × List Int} : ∀ {G : List (Int × List Int)}, Placed G → (∀ q ∈ G, q.1 ≠ p.1) → Placed (insP p G)
  | [], _, _ => by simp [insP, Placed]
  | q :: r, h, hne => by
    unfold Placed at h
    rw [List.map_cons, List.pairwise_cons] at h
    have hr := insP_placed (p := p) (G := r) h.2 fun x hx => hne x (by simp [hx])
    unfold insP
    split
    · rename_i hl
      unfold Placed
      rw [List.map_cons, List.map_cons, List.pairwise_cons, List.pairwise_cons]
      refine ⟨fun x hx => ?_, h⟩
      rcases List.mem_cons.1 hx with rfl | hx
      · exact hl
      · have := h.1 x hx; omega
    · rename_i hl
      unfold Placed at hr ⊢
      rw [List.map_cons, List.pairwise_cons]
      refine ⟨fun x hx => ?_, hr⟩
      obtain ⟨y, hy, rfl⟩ := List.mem_map.1 hx
      rcases insP_mem.1 hy with rfl | hy
      · have := hne q (by simp); omega
      · exact h.1 _ (List.mem_map.2 ⟨y, hy, rfl⟩)
/-- What the reference has collected, as it lies in the memory. -/
structure RGot (K : HProp) (last : BitVec 64) (n : Nat) (ga : Option Addr) (gc : Nat) (vals : List Value) (G : List (Int × List Int)) : Prop where
  len : G.length = n
  few : n ≤ 1000
  inl : InL [K] ga n gc (downs last (G.map (·.1)) vals)
  txs : TxB K vals (G.map (·.2))
  keys : ∀ p ∈ G, 0 ≤ p.1 ∧ p.1 < 12
end
section
attribute [local irreducible] J JL JE JM LS Y Fc RV Code.wp wpList Code.wpIn wpListIn
attribute [local irreducible] Yc
variable (E : World)
/-- A prefix, with one put into it if its place has come. -/
def Pre (p : Int × List Int) (A : List (Int × List Int)) (put : Bool) (out : List (Int × List Int)) : Prop := (put = false ∧ out = A ∧ ∀ q ∈ A, ¬ p.1 < q.1) ∨ (put = true ∧ out = insP p A ∧ ∃ q ∈ A, p.1 < q.1)
theorem Pre.put {p x : Int × List Int} {A out : List (Int × List Int)} (h : Pre p A false out) (hl : p.1 < x.1) : Pre p (A ++ [x]) true (out ++ [p] ++ [x]) := by
  rcases h with ⟨_, rfl, h⟩ | ⟨h, _⟩
  · refine .inr ⟨rfl, ?_, x, by simp, hl⟩
    rw [insP_past h, insP, if_pos hl]
    simp
  · cases h
theorem Pre.len {p : Int × List Int} {G out : List (Int × List Int)} {j : Nat} (h : Pre p (G.take j) false out) : out.length ≤ j := by
  rcases h with ⟨_, rfl, _⟩ | ⟨h, _⟩
  · rw [List.length_take]; exact Nat.min_le_left _ _
  · cases h
theorem Pre.done {p : Int × List Int} {A out : List (Int × List Int)} (h : Pre p A true out) : out = insP p A := by
  rcases h with ⟨h, _⟩ | ⟨_, h, _⟩
  · cases h
  · exact h
theorem Pre.last {p : Int × List Int} {A out : List (Int × List Int)} (h : Pre p A false out) : out ++ [p] = insP p A := by
  rcases h with ⟨_, rfl, h⟩ | ⟨h, _⟩
  · have := insP_past (B := []) h
    rw [List.append_nil] at this
    rw [this]
    rfl
  · cases h
theorem down_key {c s : Int} (hs : 0 ≤ s ∧ s < 3) (hc : 0 ≤ c ∧ c < 4) : (c * 3 + s).tdiv 3 = c ∧ (c * 3 + s).tmod 3 = s := by
  have h0 : 0 ≤ c * 3 + s := by omega
  rw [Int.tdiv_eq_ediv_of_nonneg h0, Int.tmod_eq_emod_of_nonneg h0]
  omega
theorem key_parts {k : Int} (h : 0 ≤ k) : k.tdiv 3 * 3 + k.tmod 3 = k ∧ 0 ≤ k.tmod 3 ∧ k.tmod 3 < 3 ∧ 0 ≤ k.tdiv 3 := by
  rw [Int.tdiv_eq_ediv_of_nonneg h, Int.tmod_eq_emod_of_nonneg h]
  omega
end
end Go.Proofs.YtimekohdlofmaaaGreat
/- The document's chapter 22: a batch, and whose the replies are. -/
namespace Go.Proofs.YtimekohdlofmaaaGreat
open Go Go.SL
section
attribute [local irreducible] J JL JE JM LS Y Fc RV Code.wp wpList Code.wpIn wpListIn
attribute [local irreducible] Yc
variable (E : World)
end
end Go.Proofs.YtimekohdlofmaaaGreat
namespace Go.Proofs.YtimekohdlofmaaaGreat
open Go Go.SL
theorem keyB_mem {m : Nat} : ∀ k ∈ keysL m, (ints .u8 k).length = 32 := fun k hk => by
  simp only [keysL, List.mem_map] at hk
  obtain ⟨i, _, rfl⟩ := hk
  exact keyB_length i
theorem keysL_length (m : Nat) : (keysL m).length = m := by simp [keysL]
attribute [local irreducible] J JL JE JM LS Y Fc RV Code.wp wpList Code.wpIn wpListIn
attribute [local irreducible] Yc
variable (E : World)
/-- A round is announced with one key, on a disk that is not armed. -/
theorem announce_up {S : Sb} {D : Dk} {L : Lg} {last : BitVec 64} (h : LH S D L) (hN : entryN L = some last) (hlast : last + 1#64 ≠ 0#64) (ht : S.turn.toNat + 1 < 18446744073709551616) (h64 : D.safe.length = 64) :
    ∃ A Sa D', LH Sa D' A ∧ entryN A = some (last + 1#64) ∧ Sa.turn.toNat ≤ S.turn.toNat + 1 ∧ D'.safe.length = 64 ∧ ∀ (x lg st d : Nat) (hops : Int) (got : Value) (p : Option Addr) (cap n : Nat) (ks : List (List Int)) (l : List HProp), ks.length = n → 1 ≤ n → n ≤ 3 → (∀ k ∈ ks, (ints .u8 k).length = 32) → InL l p n cap (ks.flatMap (ints .u8)) →
      Fc prog E 13 [.pointer (some ⟨x, 0, none⟩), .slice p n cap].toArray (entR x lg false last 0 hops got :: logm lg st L :: row st 224 (scells S d) :: disk d D :: l)
        (fun v l' => ∃ a c g, v = .tuple #[.agg #[Q (last + 1#64), .slice a n c], .int .i64 0] ∧ l' = own 73 32 (.slice a n c) n (ks.flatMap (ints .u8)) :: blk g (.map #[] 0) :: entR x lg false (last + 1#64) 1 n (.map (some g)) :: logm lg st A :: row st 224 (scells Sa d) :: disk d D' :: l) := by
  obtain ⟨A, La, Sa, X, e, hA, hK, hc⟩ := announce_lh E (a := none) h hN hlast (fun k hk => by cases hk) ht (by omega)
  rcases hK.out with ⟨rfl, rfl, htn, D', a', rfl, hL, hl, hn, _⟩ | ⟨_, hne, _⟩
  · obtain rfl := hn rfl
    refine ⟨La, Sa, D', hL, hA, htn, hl.trans h64, fun x lg st d hops got p cap n ks l h1 h2 h3 h4 h5 => ?_⟩
    exact (announce_spec E x lg st d last hops got S Sa D D' L La p cap n ks l h1 h2 h3 h4 h5 0 hlast (fun l => hc x lg st d hops got l)).mono fun v l' q => by
      rcases q with ⟨_, q⟩ | ⟨q, _⟩
      · exact q
      · exact absurd rfl q
  · exact absurd rfl hne
theorem entryN_app (L : Lg) (b : List Int) (u : Nat) : entryN { L with txs := L.txs ++ [b], used := u } = (entryN L).bind fun m => enext m b := by
  unfold entryN
  dsimp only
  cases estart L.snap with
  | none => rfl
  | some n =>
    rw [Option.bind_some, Option.bind_some, echain_append]
    congr 1
    funext m
    simp [echain]
/-- The last number, right or not. -/
def LastIs (L : Lg) (right : Bool) (last : BitVec 64) : Prop := entryN L = if right = true then some last else none
theorem LastIs.off {L : Lg} {last : BitVec 64} (h : LastIs L true last) {b : List Int} (hb : ¬ (b.length = 8 ∧ last.toNat < (leG b 8).toNat)) (u : Nat) (x : BitVec 64) : LastIs { L with txs := L.txs ++ [b], used := u } false x := by
  unfold LastIs at h ⊢
  rw [entryN_app, h, if_pos rfl, Option.bind_some, enext, if_neg hb]
  rfl
theorem LastIs.on {L : Lg} {last : BitVec 64} (h : LastIs L true last) {b : List Int} (hb : b.length = 8 ∧ last.toNat < (leG b 8).toNat) (u : Nat) : LastIs { L with txs := L.txs ++ [b], used := u } true (leG b 8) := by
  unfold LastIs at h ⊢
  rw [entryN_app, h, if_pos rfl, Option.bind_some, enext, if_pos hb, if_pos rfl]
theorem wakes22_spec (l : List HProp) : Fc prog E 11 [].toArray l (fun v l' => v = .bool true ∧ l' = l) := by
  refine Fc.eqs ?_
  obtain ⟨S, D', L, a', hL, hN, htn, hl', hna, _, hopen⟩ := (eopen_cases E (a := none) ESt.new (fun k hk => by cases hk)).resolve_right (fun h => h.1 rfl)
  obtain rfl := hna rfl
  obtain ⟨A, Sa, D2, hL2, hA, _, _, hann⟩ := announce_up E hL hN (by decide) (by omega) hl'
  refine Jt (c := ?codeC) Tryz.func11 ?hb Tryz.ntmps11 ?hl ?_
  case hb => exact rfl
  case hl => exact rfl
  refine Jh ?_
  refine Jc ?_
  refine Ja (Jd rfl) O O O ?_
  refine Jg ?_
  refine Jb ?_
  refine Jh ?_
  refine Jc ?_
  refine Jj rfl (Js e22 O O (new_good E 64 _ (by decide) (by decide)) ?_)
  rintro _ _ ⟨d, rfl, rfl⟩
  refine Ja (Je rfl) O O O (Ja (Jy O O) O O O (Ja (Jy O O) O O O (Ja (Jd rfl) O O O (Ja (Jd rfl) O O O ?_))))
  refine Jg ?_
  refine Jb ?_
  refine Jh ?_
  refine Jh ?_
  refine Jc ?_
  refine Ja (Je rfl) O O O (Ja (Wk O O) O O O ?_)
  refine Jg ?_
  refine Jb ?_
  refine Vf rfl zbl ?_
  refine Ve ?_
  refine Jb ?_
  refine Jh ?_
  refine Jc ?_
  refine Ja (Je rfl) O O O ?_
  refine Jj rfl (Js e12 O O (hopen d _) ?_)
  rintro _ _ ⟨x, lg, st, rfl, rfl⟩
  refine Ja (Je rfl) O O O (Ja (Jy O O) O O O (Ja (Jy O O) O O O (Ja (Jd rfl) O O O (Ja (Jd rfl) O O O ?_))))
  refine Jg ?_
  refine Jb ?_
  refine Jh ?_
  refine Jh ?_
  refine Jc ?_
  refine Ja (Je rfl) O O O (Ja (Wk O O) O O O (Ja (Je rfl) O O O ?_))
  all_goals (first | (refine Vm O O O (fun h => ?_) (fun h => ?_) <;> try (first | (exfalso; omega) | exact absurd rfl h)) | (refine Vz O O O (fun h => ?_) (fun h => ?_) <;> try (first | cases h | (exfalso; simp at h; done))) | skip)
  all_goals (first | refine Ju O O O O O O ?_ | refine Jr O O O O O ?_ | refine Jw O O O (Je rfl) O O ?_)
  all_goals (first | refine Ju O O O O O O ?_ | refine Jr O O O O O ?_ | refine Jw O O O (Vx hT O O O O) O O ?_)
  all_goals (refine Ja (y_pick O O O) O O O ?_)
  all_goals refine Jg ?_
  all_goals refine Jb ?_
  all_goals
    refine Vf rfl zbl ?_
    refine Ve ?_
  all_goals refine Jb ?_
  all_goals
    refine Jh ?_
    refine Jc ?_
    refine Ja (Je rfl) O O O ?_
    refine Ja (y_buildArr (cs := ints .u8 (keyB 0)) hT O O O O O (fill_arr0 (m := 31) O O)) O O O ?_
    refine Jj rfl (l_buildSliceP (cs := ints .u8 (keyB 0)) hT O O O O O O O (fill_one rfl (keyB_length 0)) rfl (fun bk => ?_))
    refine Jj rfl (Js e13 O O (Wj (Ji zpk (Ji zpk (Ji zpk (Ji zpk Jl)))) (hann x lg st d 0 (.map none) _ 1 1 [keyB 0] _ rfl (by decide) (by decide) (fun k hk => by rw [List.mem_singleton.1 hk]; exact keyB_length 0) ⟨by decide, by decide, .inl ⟨bk, 0, rfl, fun m => RdN.row (n := 32) (Vn m zpk) rfl⟩⟩)) ?_)
    rintro _ _ ⟨ka, kc, g, rfl, rfl⟩
    refine Ja (Je rfl) O O O (Ja (Jy O O) O O O (Ja (Jy O O) O O O ?_))
    refine Jj rfl (Wa hT O O zcl rfl (fun b4 => ?_))
    refine Jj rfl (Vp hT O O O zln zoc zpk zln ?_)
    refine Ja (Jd rfl) O O O ?_
    refine Jg ?_
    refine Jb ?_
    refine Jh ?_
    refine Jc ?_
    refine Ja (Je rfl) O O O (Ja (y_eql O O) O O O (Ja (Je rfl) O O O ?_))
    all_goals (first | (refine Vm O O O (fun h => ?_) (fun h => ?_) <;> try (first | (exfalso; omega) | exact absurd rfl h)) | (refine Vz O O O (fun h => ?_) (fun h => ?_) <;> try (first | cases h | (exfalso; simp at h; done))) | skip)
    all_goals (first | refine Ju O O O O O O ?_ | refine Jr O O O O O ?_ | refine Jw O O O (Jk hT O O O O O O) O O ?_)
    all_goals (first | refine Ju O O O O O O ?_ | refine Jr O O O O O ?_ | refine Jw O O O (Jo hT O O O zrd) O O ?_)
    all_goals (first | refine Ju O O O O O O ?_ | refine Jr O O O O O ?_ | refine Jw O O O (y_eql O O) O O ?_)
    all_goals (refine Ja (y_pick O O O) O O O ?_)
    all_goals (refine Ja (Je rfl) O O O ?_)
    all_goals (first | (refine Vm O O O (fun h => ?_) (fun h => ?_) <;> try (first | (exfalso; omega) | exact absurd rfl h)) | (refine Vz O O O (fun h => ?_) (fun h => ?_) <;> try (first | cases h | (exfalso; simp at h; done))) | skip)
    all_goals (first | refine Ju O O O O O O ?_ | refine Jr O O O O O ?_ | refine Jw O O O (Je rfl) O O ?_)
    all_goals (first | refine Ju O O O O O O ?_ | refine Jr O O O O O ?_ | (refine JL.gloud O O O (Js e18 O O (Wj (Ji zpk Jl) (ephase_spec E x lg false _ 1 _ _ _)) ?_); rintro _ _ ⟨rfl, rfl⟩))
    all_goals (first | refine Ju O O O O O O ?_ | refine Jr O O O O O ?_ | refine Jw O O O (y_eql O O) O O ?_)
    all_goals (refine Ja (y_pick O O O) O O O ?_)
    all_goals (refine Ja (Je rfl) O O O ?_)
    all_goals (first | (refine Vm O O O (fun h => ?_) (fun h => ?_) <;> try (first | (exfalso; omega) | exact absurd rfl h)) | (refine Vz O O O (fun h => ?_) (fun h => ?_) <;> try (first | cases h | (exfalso; simp at h; done))) | skip)
    all_goals (first | refine Ju O O O O O O ?_ | refine Jr O O O O O ?_ | refine Jw O O O (Je rfl) O O ?_)
    all_goals (first | refine Ju O O O O O O ?_ | refine Jr O O O O O ?_ | (refine JL.gloud O O O (Js e17 O O (Wj (Ji zpk Jl) (eround_spec E x lg false _ 1 _ _ _)) ?_); rintro _ _ ⟨rfl, rfl⟩))
    all_goals (first | refine Ju O O O O O O ?_ | refine Jr O O O O O ?_ | refine Jw O O O (y_eql O O) O O ?_)
    all_goals (refine Ja (y_pick O O O) O O O ?_)
    all_goals (refine Ja (Jd rfl) O O O ?_)
    all_goals refine Jg ?_
    all_goals refine Jb ?_
    all_goals
      refine Vl ?_
      refine Vk (.inl rfl) O O zrv ?_
      exact ⟨rfl, fun w q => q.sup zsup⟩
end Go.Proofs.YtimekohdlofmaaaGreat
