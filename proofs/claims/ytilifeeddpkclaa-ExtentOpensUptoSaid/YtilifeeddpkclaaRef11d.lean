import Derived.Test.YtilifeeddpkclaaRef11c
import Derived.Test.YtilifeeddpkclaaLaw11c
namespace Go.Proofs.Ytilifeeddpkclaa
open Go Go.SL
/-! The document's disk. -/
/-- The superblock that the document takes. -/
def rpick (A B : Blk) : Blk := if sbOk A = false ∨ (sbOk B = true ∧ (sbRead A).turn.toNat < (sbRead B).turn.toNat) then B else A
theorem InL.cut {l : List HProp} {p : Option Addr} {n cap : Nat} {cs : List Value} (h : InL l p n cap cs) (m : Nat) (hm : m ≤ n) : InL l p m cap (cs.take m) :=
  ⟨Nat.le_trans hm h.le, h.most, h.rd.imp (fun ⟨b, o, e, hr⟩ => ⟨b, o, e, fun mm j v hj => hr mm j v (by
    rw [List.getElem?_take] at hj
    split at hj
    · exact hj
    · cases hj)⟩) (fun ⟨h0, hc⟩ => ⟨h0, by rw [hc]; simp⟩)⟩
attribute [local irreducible] J JL JE JM LS Y Fc RV Code.wp wpList Code.wpIn wpListIn
attribute [local irreducible] Yc
variable (E : World)
theorem rhalf_spec (p : Option Addr) (n cap : Nat) (h2 : 2 ≤ n) (hn : n ≤ 1000000) (l : List HProp) : Fc prog E 78 [.agg #[.slice p n cap]].toArray l (fun v l' => v = .int .i64 (((n - 2) / 4 : Nat) : Int) ∧ l' = l) := by
  refine Fc.eqs ?_
  refine Fc.of_body (c := ?codeC) Try.func78 ?hb Try.ntmps78 ?hl ?_
  case hb => exact rfl
  case hl => exact rfl
  refine J.seq ?_
  refine J.region ?_
  refine JL.loud rfl (l_box rfl (by (first | rfl | simp)) rfl (fun b1 => ?_))
  refine JL.step (y_assign rfl) rfl rfl rfl ?_
  refine JL.nil ?_
  refine JE.then_normal ?_
  refine J.seq ?_
  refine J.region ?_
  refine JL.step (y_fieldAddr hT rfl rfl rfl rfl rfl rfl) rfl rfl rfl ?_
  refine JL.step (y_load1 hT rfl rfl rfl (by (exact Rd1.row (by (repeat (first | exact Pick.head | apply Pick.tail | apply Pick.app))) (by rfl)))) rfl rfl rfl ?_
  refine JL.step (y_len_slice hT rfl rfl rfl) rfl rfl rfl ?_
  refine JL.step (y_sub (m := ((n - 2 : Nat) : Int)) rfl rfl (by rw [show (n : Int) - 2 = ((n - 2 : Nat) : Int) by omega]; exact wrap_i64 (by omega) (by omega))) rfl rfl rfl ?_
  refine JL.step (y_quo (m := (((n - 2) / 4 : Nat) : Int)) rfl rfl (by decide) (by
    rw [Int.tdiv_eq_ediv_of_nonneg (by omega), show ((n - 2 : Nat) : Int) / 4 = (((n - 2) / 4 : Nat) : Int) by omega]
    exact wrap_i64 (by omega) (by omega))) rfl rfl rfl ?_
  refine JL.step (y_assign rfl) rfl rfl rfl ?_
  refine JL.nil ?_
  refine JE.then_normal ?_
  refine J.ret ?_
  refine JE.ret1 (.inl rfl) rfl rfl (by (first | exact RV.tmp rfl | exact RV.cell1 hT rfl rfl rfl (by (exact Rd1.row (by (repeat (first | exact Pick.head | apply Pick.tail | apply Pick.app))) (by rfl))) | exact RV.cellN hT rfl rfl rfl (by (first | exact RdN.rowAll (by (repeat (first | exact Pick.head | apply Pick.tail | apply Pick.app))) | exact RdN.own (by (repeat (first | exact Pick.head | apply Pick.tail | apply Pick.app))))) (by (first | rfl | assumption | (simp; done) | omega)))) ?_
  exact ⟨rfl, fun w q => q.sup (by (repeat (first | exact Sup.refl | apply Sup.cons (by (repeat (first | exact Pick.head | apply Pick.tail | apply Pick.app))) | apply Sup.app | apply Sup.skip | apply Sup.skips)))⟩
theorem rcounts_spec (p : Option Addr) (n cap : Nat) (xs : List Blk) (A B : Blk) (l : List HProp) (hin : InL l p n cap (xs.flatMap encB)) (hn : xs.length = n) (h64 : ∀ x ∈ xs, x.length = 64) (hA : xs[0]? = some A) (hB : xs[1]? = some B) (bA : Bytes A) (bB : Bytes B) :
    Fc prog E 53 [.agg #[.slice p n cap]].toArray l (fun v l' => ∃ a c, v = .agg (rsuper (rpick A B) a c (sbOk (rpick A B))).toArray ∧ l' = own 5 1 (.slice a 16 c) 16 (ints .u8 (((rpick A B).drop 24).take 16)) :: l) := by
  refine Fc.post ?_
  have hA64 := h64 A (List.mem_of_getElem? hA)
  have hB64 := h64 B (List.mem_of_getElem? hB)
  have hxL : ∀ x ∈ xs, (encB x).length = 64 := fun x hx => (encB_length _).trans (h64 x hx)
  have hAL := hxL A (List.mem_of_getElem? hA)
  have hBL := hxL B (List.mem_of_getElem? hB)
  have hn2 : 2 ≤ n := by
    rcases Nat.lt_or_ge 1 xs.length with h | h
    · omega
    · rw [List.getElem?_eq_none h] at hB; cases hB
  obtain ⟨g, o, rfl, hr⟩ := hin.addr (by omega)
  have hr0 : RdN l g o (xs.flatMap encB) := hr []
  obtain ⟨kA, eA⟩ : ∃ kA, sbOk A = kA := ⟨_, rfl⟩
  obtain ⟨kB, eB⟩ : ∃ kB, sbOk B = kB := ⟨_, rfl⟩
  have cA := fun l => rread_spec E A l hA64 bA
  have cB := fun l => rread_spec E B l hB64 bB
  rw [eA] at cA
  rw [eB] at cB
  have l5 : ∀ x a c k, (rsuper x a c k).length = 5 := fun _ _ _ _ => rfl
  refine Fc.of_body (c := ?codeC) Try.func53 ?hb Try.ntmps53 ?hl ?_
  case hb => exact rfl
  case hl => exact rfl
  refine J.seq ?_
  refine J.region ?_
  refine JL.loud rfl (l_box rfl (by (first | rfl | simp)) rfl (fun b1 => ?_))
  refine JL.loud rfl (l_alloc hT rfl rfl (by (first | rfl | simp)) rfl (fun b2 => ?_))
  refine JL.nil ?_
  refine JE.then_normal ?_
  refine J.seq ?_
  refine J.draw _ _ [(0, .q), (1, .q), (2, .q), (3, .q), (5, .q), (6, .q), (7, .q), (8, .q), (4, .l), (9, .l), (10, .n), (11, .n), (12, .l), (13, .l)] mixed (by kernel_rfl) (Split.nil) ?_
  refine JM.quiet rfl rfl rfl rfl (fun m => y_fieldAddr hT rfl rfl rfl rfl rfl rfl) ?_
  refine JM.quiet rfl rfl rfl rfl (fun m => y_load1 hT rfl rfl rfl (by (exact Rd1.row (Pick.app m (by (repeat (first | exact Pick.head | apply Pick.tail | apply Pick.app)))) (by rfl)))) ?_
  refine JM.quiet rfl rfl rfl rfl (fun m => y_indexAddr_slice hT rfl rfl rfl rfl rfl (by (first | omega | exact Nat.le_of_ble_eq_true rfl | decide | (simp; omega))) (by (first | omega | exact Nat.le_of_ble_eq_true rfl | decide | (simp; omega)))) ?_
  refine JM.quiet rfl rfl rfl rfl (fun m => y_loadN hT rfl rfl rfl (RdN.elem (i := 0) (by (repeat (first | assumption | apply RdN.cons | apply RdN.app))) hxL hA) hAL) ?_
  refine JM.quiet rfl rfl rfl rfl (fun m => y_fieldAddr hT rfl rfl rfl rfl rfl rfl) ?_
  refine JM.quiet rfl rfl rfl rfl (fun m => y_load1 hT rfl rfl rfl (by (exact Rd1.row (Pick.app m (by (repeat (first | exact Pick.head | apply Pick.tail | apply Pick.app)))) (by rfl)))) ?_
  refine JM.quiet rfl rfl rfl rfl (fun m => y_indexAddr_slice hT rfl rfl rfl rfl rfl (by (first | omega | exact Nat.le_of_ble_eq_true rfl | decide | (simp; omega))) (by (first | omega | exact Nat.le_of_ble_eq_true rfl | decide | (simp; omega)))) ?_
  refine JM.quiet rfl rfl rfl rfl (fun m => y_loadN hT rfl rfl rfl (RdN.elem (i := 1) (by (repeat (first | assumption | apply RdN.cons | apply RdN.app))) hxL hB) hBL) ?_
  refine JM.loud rfl rfl (fun fr => l_callF e80 rfl rfl (cA _) ?_)
  rintro _ _ ⟨a, c, rfl, rfl⟩
  refine ⟨[_], (by (repeat (first | exact Split.nil | exact Split.all | refine Split.cons Pick.head ?_))), ?_⟩
  refine JM.loud rfl rfl (fun fr => l_callF e80 rfl rfl (cB _) ?_)
  rintro _ _ ⟨a2, c2, rfl, rfl⟩
  refine ⟨[_, _], (by (repeat (first | exact Split.nil | exact Split.all | refine Split.cons Pick.head ?_))), ?_⟩
  refine JM.lay rfl rfl rfl rfl (fun a hf => lays_alloc hT rfl rfl (by (first | rfl | simp))) (fun b5 => ?_)
  refine JM.lay rfl rfl rfl rfl (fun a hf => lays_alloc hT rfl rfl (by (first | rfl | simp))) (fun b6 => ?_)
  refine JM.loud rfl rfl (fun fr => l_storeAll hT rfl rfl rfl (by (first | rfl | assumption | (simp; done) | omega)) (by (first | assumption | exact ones_of rfl | exact encW_one _ | exact encB_one _ | (intro u hu; simp at hu; rcases hu with rfl | rfl <;> rfl) | (intro u hu; simp at hu; subst hu; rfl) | simp)) (by (repeat (first | exact Pick.head | apply Pick.tail | apply Pick.app))) (by (first | rfl | assumption | (simp; done) | omega)) (⟨[_, _, _, _], (by (repeat (first | exact Split.nil | exact Split.all | refine Split.cons Pick.head ?_))), ?_⟩))
  refine JM.loud rfl rfl (fun fr => l_storeAll hT rfl rfl rfl (by (first | rfl | assumption | (simp; done) | omega)) (by (first | assumption | exact ones_of rfl | exact encW_one _ | exact encB_one _ | (intro u hu; simp at hu; rcases hu with rfl | rfl <;> rfl) | (intro u hu; simp at hu; subst hu; rfl) | simp)) (by (repeat (first | exact Pick.head | apply Pick.tail | apply Pick.app))) (by (first | rfl | assumption | (simp; done) | omega)) (⟨[_, _, _, _], (by (repeat (first | exact Split.nil | exact Split.all | refine Split.cons Pick.head ?_))), ?_⟩))
  refine JM.nil ?_
  refine JE.then_normal ?_
  refine J.seq ?_
  refine J.seq ?_
  refine J.region ?_
  cases kA <;> cases kB <;> refine JL.step (y_fieldAddr hT rfl rfl rfl rfl rfl rfl) rfl rfl rfl ?_
  all_goals (refine JL.step (y_load1 hT rfl rfl rfl (by (exact Rd1.row (by (repeat (first | exact Pick.head | apply Pick.tail | apply Pick.app))) (by rfl)))) rfl rfl rfl ?_)
  all_goals (refine JL.step (y_not rfl) rfl rfl rfl ?_)
  all_goals (refine JL.step (y_move rfl) rfl rfl rfl ?_)
  all_goals (first | (refine JL.gsplit_dec rfl rfl rfl (fun h => ?_) (fun h => ?_) <;> try (first | (exfalso; omega) | exact absurd rfl h)) | (refine JL.gsplit rfl rfl rfl (fun h => ?_) (fun h => ?_) <;> try (first | cases h | (exfalso; simp at h; done))) | skip)
  all_goals (first | refine JL.gskip rfl rfl rfl rfl rfl rfl ?_ | refine JL.gskipU rfl rfl rfl rfl rfl ?_ | refine JL.gstep rfl rfl rfl (y_fieldAddr hT rfl rfl rfl rfl rfl rfl) rfl rfl ?_)
  all_goals (first | refine JL.gskip rfl rfl rfl rfl rfl rfl ?_ | refine JL.gskipU rfl rfl rfl rfl rfl ?_ | refine JL.gstep rfl rfl rfl (y_load1 hT rfl rfl rfl (by (exact Rd1.row (by (repeat (first | exact Pick.head | apply Pick.tail | apply Pick.app))) (by rfl)))) rfl rfl ?_)
  all_goals (first | refine JL.gskip rfl rfl rfl rfl rfl rfl ?_ | refine JL.gskipU rfl rfl rfl rfl rfl ?_ | refine JL.gstep rfl rfl rfl (y_move rfl) rfl rfl ?_)
  all_goals (first | (refine JL.gsplit_dec rfl rfl rfl (fun h => ?_) (fun h => ?_) <;> try (first | (exfalso; omega) | exact absurd rfl h)) | (refine JL.gsplit rfl rfl rfl (fun h => ?_) (fun h => ?_) <;> try (first | cases h | (exfalso; simp at h; done))) | skip)
  all_goals (first | refine JL.gskip rfl rfl rfl rfl rfl rfl ?_ | refine JL.gskipU rfl rfl rfl rfl rfl ?_ | refine JL.gstep rfl rfl rfl (y_fieldAddr hT rfl rfl rfl rfl rfl rfl) rfl rfl ?_)
  all_goals (first | refine JL.gskip rfl rfl rfl rfl rfl rfl ?_ | refine JL.gskipU rfl rfl rfl rfl rfl ?_ | refine JL.gstep rfl rfl rfl (y_load1 hT rfl rfl rfl (by (exact Rd1.row (by (repeat (first | exact Pick.head | apply Pick.tail | apply Pick.app))) (by rfl)))) rfl rfl ?_)
  all_goals (first | refine JL.gskip rfl rfl rfl rfl rfl rfl ?_ | refine JL.gskipU rfl rfl rfl rfl rfl ?_ | refine JL.gstep rfl rfl rfl (y_fieldAddr hT rfl rfl rfl rfl rfl rfl) rfl rfl ?_)
  all_goals (first | refine JL.gskip rfl rfl rfl rfl rfl rfl ?_ | refine JL.gskipU rfl rfl rfl rfl rfl ?_ | refine JL.gstep rfl rfl rfl (y_load1 hT rfl rfl rfl (by (exact Rd1.row (by (repeat (first | exact Pick.head | apply Pick.tail | apply Pick.app))) (by rfl)))) rfl rfl ?_)
  all_goals (first | refine JL.gskip rfl rfl rfl rfl rfl rfl ?_ | refine JL.gskipU rfl rfl rfl rfl rfl ?_ | refine JL.gstep rfl rfl rfl (y_gtr rfl rfl) rfl rfl ?_)
  all_goals (first | refine JL.gskip rfl rfl rfl rfl rfl rfl ?_ | refine JL.gskipU rfl rfl rfl rfl rfl ?_ | refine JL.gstep rfl rfl rfl (y_pick rfl rfl rfl) rfl rfl ?_)
  all_goals (refine JL.step (y_pick rfl rfl rfl) rfl rfl rfl ?_)
  all_goals refine JL.nil ?_
  all_goals refine JE.then_normal ?_
  all_goals
    first | apply J.cond_dec rfl | apply J.cond rfl
    case' ht =>
      intro h
      try (first | (exfalso; omega) | (cases h; done) | (exfalso; simp at h; done) | subst h)
      all_goals
        refine J.seq ?_
        refine J.region ?_
        refine JL.step (y_loadN hT rfl rfl rfl (by (first | exact RdN.rowAll (by (repeat (first | exact Pick.head | apply Pick.tail | apply Pick.app))) | exact RdN.own (by (repeat (first | exact Pick.head | apply Pick.tail | apply Pick.app))))) (by (first | rfl | assumption | (simp; done) | omega))) rfl rfl rfl ?_
        refine JL.loud rfl (l_storeAll hT rfl rfl rfl (by (first | rfl | assumption | (simp; done) | omega)) (by (first | assumption | exact ones_of rfl | exact encW_one _ | exact encB_one _ | (intro u hu; simp at hu; rcases hu with rfl | rfl <;> rfl) | (intro u hu; simp at hu; subst hu; rfl) | simp)) (by (repeat (first | exact Pick.head | apply Pick.tail | apply Pick.app))) (by (first | rfl | assumption | (simp; done) | omega)) ?_)
        refine JL.nil ?_
        refine JE.then_normal ?_
        refine J.ret ?_
        refine JE.then_ret ?_
        refine JE.ret1 (.inl rfl) rfl rfl (by (first | exact RV.tmp rfl | exact RV.cell1 hT rfl rfl rfl (by (exact Rd1.row (by (repeat (first | exact Pick.head | apply Pick.tail | apply Pick.app))) (by rfl))) | exact RV.cellN hT rfl rfl rfl (by (first | exact RdN.rowAll (by (repeat (first | exact Pick.head | apply Pick.tail | apply Pick.app))) | exact RdN.own (by (repeat (first | exact Pick.head | apply Pick.tail | apply Pick.app))))) (by (first | rfl | assumption | (simp; done) | omega)))) ?_
        first
          | (have e : rpick A B = B := if_pos (by first | exact .inl eA | exact .inr ⟨eB, by omega⟩)
             rw [e, eB]
             exact ⟨_, fun w q => q.sup (by (repeat (first | exact Sup.refl | apply Sup.cons (by (repeat (first | exact Pick.head | apply Pick.tail | apply Pick.app))) | apply Sup.app | apply Sup.skip | apply Sup.skips))), a2, c2, rfl, rfl⟩)
          | (have e : rpick A B = A := if_neg (by
               rintro (h1 | ⟨h1, h2⟩)
               · rw [eA] at h1; cases h1
               · first | omega | (rw [eB] at h1; cases h1))
             rw [e, eA]
             exact ⟨_, fun w q => q.sup (by (repeat (first | exact Sup.refl | apply Sup.cons (by (repeat (first | exact Pick.head | apply Pick.tail | apply Pick.app))) | apply Sup.app | apply Sup.skip | apply Sup.skips))), a, c, rfl, rfl⟩)
    case' hf =>
      intro h
      try (first | (exfalso; omega) | (cases h; done) | (exfalso; simp at h; done) | subst h)
      all_goals
        refine J.skip ?_
  all_goals refine JE.then_normal ?_
  all_goals
    refine J.seq ?_
    refine J.region ?_
    refine JL.step (y_loadN hT rfl rfl rfl (by (first | exact RdN.rowAll (by (repeat (first | exact Pick.head | apply Pick.tail | apply Pick.app))) | exact RdN.own (by (repeat (first | exact Pick.head | apply Pick.tail | apply Pick.app))))) (by (first | rfl | assumption | (simp; done) | omega))) rfl rfl rfl ?_
    refine JL.loud rfl (l_storeAll hT rfl rfl rfl (by (first | rfl | assumption | (simp; done) | omega)) (by (first | assumption | exact ones_of rfl | exact encW_one _ | exact encB_one _ | (intro u hu; simp at hu; rcases hu with rfl | rfl <;> rfl) | (intro u hu; simp at hu; subst hu; rfl) | simp)) (by (repeat (first | exact Pick.head | apply Pick.tail | apply Pick.app))) (by (first | rfl | assumption | (simp; done) | omega)) ?_)
    refine JL.nil ?_
    refine JE.then_normal ?_
    refine J.ret ?_
    refine JE.ret1 (.inl rfl) rfl rfl (by (first | exact RV.tmp rfl | exact RV.cell1 hT rfl rfl rfl (by (exact Rd1.row (by (repeat (first | exact Pick.head | apply Pick.tail | apply Pick.app))) (by rfl))) | exact RV.cellN hT rfl rfl rfl (by (first | exact RdN.rowAll (by (repeat (first | exact Pick.head | apply Pick.tail | apply Pick.app))) | exact RdN.own (by (repeat (first | exact Pick.head | apply Pick.tail | apply Pick.app))))) (by (first | rfl | assumption | (simp; done) | omega)))) ?_
    first
      | (have e : rpick A B = B := if_pos (by first | exact .inl eA | exact .inr ⟨eB, by omega⟩)
         rw [e, eB]
         exact ⟨_, fun w q => q.sup (by (repeat (first | exact Sup.refl | apply Sup.cons (by (repeat (first | exact Pick.head | apply Pick.tail | apply Pick.app))) | apply Sup.app | apply Sup.skip | apply Sup.skips))), a2, c2, rfl, rfl⟩)
      | (have e : rpick A B = A := if_neg (by
           rintro (h1 | ⟨h1, h2⟩)
           · rw [eA] at h1; cases h1
           · first | omega | (rw [eB] at h1; cases h1))
         rw [e, eA]
         exact ⟨_, fun w q => q.sup (by (repeat (first | exact Sup.refl | apply Sup.cons (by (repeat (first | exact Pick.head | apply Pick.tail | apply Pick.app))) | apply Sup.app | apply Sup.skip | apply Sup.skips))), a, c, rfl, rfl⟩)
/-- The sectors, one behind the other. -/
def rsnapB (xs : List Blk) (base : Nat) : Nat → List Int
  | 0 => []
  | k + 1 => rsnapB xs base k ++ xs.getD (base + k) []
theorem rsnapB_length {xs : List Blk} {base : Nat} (h64 : ∀ x ∈ xs, x.length = 64) : ∀ k, base + k ≤ xs.length → (rsnapB xs base k).length = 64 * k
  | 0, _ => rfl
  | k + 1, h => by
    have e : xs.getD (base + k) [] = xs[base + k] := by rw [List.getD_eq_getElem?_getD, List.getElem?_eq_getElem (by omega)]; rfl
    rw [rsnapB, List.length_append, rsnapB_length h64 k (by omega), e, h64 _ (List.getElem_mem _)]
    omega
section
variable (p : Option Addr) (n cap : Nat) (xs : List Blk) (A B X : Blk) (l : List HProp) (hin : InL l p n cap (xs.flatMap encB)) (hn : xs.length = n) (h64 : ∀ x ∈ xs, x.length = 64) (hA : xs[0]? = some A) (hB : xs[1]? = some B) (bA : Bytes A) (bB : Bytes B) (hX : rpick A B = X)
include hin hn h64 hA hB bA bB hX
theorem rcounts_known (k : Bool) (hk : sbOk X = k) :
    Fc prog E 53 [.agg #[.slice p n cap]].toArray l (fun v l' => ∃ g c, v = .agg (rsuper X (some ⟨g, 0, none⟩) c k).toArray ∧ 16 ≤ c ∧ c ≤ maxLen ∧ l' = own 5 1 (.slice (some ⟨g, 0, none⟩) 16 c) 16 (ints .u8 ((X.drop 24).take 16)) :: l) := by
  have h := rcounts_spec E p n cap xs A B l hin hn h64 hA hB bA bB
  rw [hX, hk] at h
  exact h.know fun v l' w ⟨a, c, h1, h2⟩ s => by
    subst h1
    subst h2
    have o := s.own_at
    obtain ⟨g, rfl⟩ := o.at_.resolve_right fun ⟨h0, _⟩ => by have := o.le; omega
    exact ⟨g, c, rfl, o.le, o.most, rfl⟩
theorem rsnap_no (hk : sbOk X = false) (hm : n ≤ 1000000) :
    Fc prog E 48 [.agg #[.slice p n cap]].toArray l (fun v l' => v = .tuple #[.slice none 0 0, .bool false] ∧ l' = l) := by
  refine Fc.eqs ?_
  have l5 : ∀ a c k, (rsuper X a c k).length = 5 := fun _ _ _ => rfl
  have hc : ∀ m, Fc prog E 53 [.agg #[.slice p n cap]].toArray (m ++ l) _ := fun m => rcounts_known E p n cap xs A B X (m ++ l) (hin.app m) hn h64 hA hB bA bB hX false hk
  refine Fc.of_body (c := ?codeC) Try.func48 ?hb Try.ntmps48 ?hl ?_
  case hb => exact rfl
  case hl => exact rfl
  refine J.seq ?_
  refine J.region ?_
  refine JL.loud rfl (l_box rfl (by (first | rfl | simp)) rfl (fun b1 => ?_))
  refine JL.step (y_assign rfl) rfl rfl rfl (JL.step (y_assign rfl) rfl rfl rfl ?_)
  refine JL.nil ?_
  refine JE.then_normal ?_
  refine J.seq ?_
  refine J.region ?_
  refine JL.step (y_loadN hT rfl rfl rfl (by (first | exact RdN.rowAll (by (repeat (first | exact Pick.head | apply Pick.tail | apply Pick.app))) | exact RdN.own (by (repeat (first | exact Pick.head | apply Pick.tail | apply Pick.app))))) (by (first | rfl | assumption | (simp; done) | omega))) rfl rfl rfl ?_
  refine JL.loud rfl (l_callF e53 rfl rfl (hc [_]) ?_)
  rintro _ _ ⟨g, c, rfl, hc1, hc2, rfl⟩
  refine JL.loud rfl (l_alloc hT rfl rfl (by (first | rfl | simp)) rfl (fun b3 => ?_))
  refine JL.loud rfl (l_storeAll hT rfl rfl rfl (by (first | rfl | assumption | (simp; done) | omega)) (by (first | assumption | exact ones_of rfl | exact encW_one _ | exact encB_one _ | (intro u hu; simp at hu; rcases hu with rfl | rfl <;> rfl) | (intro u hu; simp at hu; subst hu; rfl) | simp)) (by (repeat (first | exact Pick.head | apply Pick.tail | apply Pick.app))) (by (first | rfl | assumption | (simp; done) | omega)) ?_)
  refine JL.nil ?_
  refine JE.then_normal ?_
  refine J.seq ?_
  refine J.seq ?_
  refine J.draw _ _ [(0, .q), (1, .q), (2, .q), (3, .q), (4, .q), (5, .q), (6, .q), (7, .q), (8, .q), (9, .q), (10, .q)] mixed (by kernel_rfl) (Split.nil) ?_
  refine JM.quiet rfl rfl rfl rfl (fun m => y_fieldAddr hT rfl rfl rfl rfl rfl rfl) ?_
  refine JM.quiet rfl rfl rfl rfl (fun m => y_load1 hT rfl rfl rfl (by (exact Rd1.row (Pick.app m (by (repeat (first | exact Pick.head | apply Pick.tail | apply Pick.app)))) (by rfl)))) ?_
  refine JM.quiet rfl rfl rfl rfl (fun m => y_not rfl) ?_
  refine JM.quiet rfl rfl rfl rfl (fun m => y_move rfl) ?_
  all_goals (first | refine JM.gskip rfl rfl rfl rfl rfl rfl rfl ?_ | refine JM.gskipU rfl rfl rfl rfl rfl rfl ?_ | refine JM.gquiet rfl rfl rfl rfl rfl rfl (fun m => y_fieldAddr hT rfl rfl rfl rfl rfl rfl) ?_)
  all_goals (first | refine JM.gskip rfl rfl rfl rfl rfl rfl rfl ?_ | refine JM.gskipU rfl rfl rfl rfl rfl rfl ?_ | refine JM.gquiet rfl rfl rfl rfl rfl rfl (fun m => y_load1 hT rfl rfl rfl (by (exact Rd1.row (Pick.app m (by (repeat (first | exact Pick.head | apply Pick.tail | apply Pick.app)))) (by rfl)))) ?_)
  all_goals (first | refine JM.gskip rfl rfl rfl rfl rfl rfl rfl ?_ | refine JM.gskipU rfl rfl rfl rfl rfl rfl ?_ | refine JM.gquiet rfl rfl rfl rfl rfl rfl (fun m => y_loadN hT rfl rfl rfl (by (first | exact RdN.rowAll (Pick.app m (by (repeat (first | exact Pick.head | apply Pick.tail | apply Pick.app)))) | exact RdN.own (Pick.app m (by (repeat (first | exact Pick.head | apply Pick.tail | apply Pick.app)))))) (by (first | rfl | assumption | (simp; done) | omega))) ?_)
  all_goals (first | refine JM.gskip rfl rfl rfl rfl rfl rfl rfl ?_ | refine JM.gskipU rfl rfl rfl rfl rfl rfl ?_)
  all_goals (first | refine JM.gskip rfl rfl rfl rfl rfl rfl rfl ?_ | refine JM.gskipU rfl rfl rfl rfl rfl rfl ?_ | refine JM.gquiet rfl rfl rfl rfl rfl rfl (fun m => y_mul rfl rfl (by (first | exact wrap_i64 (by omega) (by omega) | rfl))) ?_)
  all_goals (first | refine JM.gskip rfl rfl rfl rfl rfl rfl rfl ?_ | refine JM.gskipU rfl rfl rfl rfl rfl rfl ?_ | refine JM.gquiet rfl rfl rfl rfl rfl rfl (fun m => y_gtr rfl rfl) ?_)
  all_goals refine JM.quiet rfl rfl rfl rfl (fun m => y_pick rfl rfl rfl) ?_
  all_goals refine JM.nil ?_
  all_goals refine JE.then_normal ?_
  all_goals
    refine J.cond_t rfl (by (first | rfl | assumption | (simp; done) | (simp; omega))) ?_
    refine J.seq ?_
    refine J.region ?_
    refine JL.step (y_assign rfl) rfl rfl rfl (JL.step (y_assign rfl) rfl rfl rfl ?_)
    refine JL.nil ?_
    refine JE.then_normal ?_
    refine J.ret ?_
    refine JE.then_ret ?_
    refine JE.ret2 (.inl rfl) rfl rfl (by (first | exact RV.tmp rfl | exact RV.cell1 hT rfl rfl rfl (by (exact Rd1.row (by (repeat (first | exact Pick.head | apply Pick.tail | apply Pick.app))) (by rfl))) | exact RV.cellN hT rfl rfl rfl (by (first | exact RdN.rowAll (by (repeat (first | exact Pick.head | apply Pick.tail | apply Pick.app))) | exact RdN.own (by (repeat (first | exact Pick.head | apply Pick.tail | apply Pick.app))))) (by (first | rfl | assumption | (simp; done) | omega)))) (by (first | exact RV.tmp rfl | exact RV.cell1 hT rfl rfl rfl (by (exact Rd1.row (by (repeat (first | exact Pick.head | apply Pick.tail | apply Pick.app))) (by rfl))) | exact RV.cellN hT rfl rfl rfl (by (first | exact RdN.rowAll (by (repeat (first | exact Pick.head | apply Pick.tail | apply Pick.app))) | exact RdN.own (by (repeat (first | exact Pick.head | apply Pick.tail | apply Pick.app))))) (by (first | rfl | assumption | (simp; done) | omega)))) ?_
    exact ⟨rfl, fun w q => q.sup (by (repeat (first | exact Sup.refl | apply Sup.cons (by (repeat (first | exact Pick.head | apply Pick.tail | apply Pick.app))) | apply Sup.app | apply Sup.skip | apply Sup.skips)))⟩
theorem rsnap_yes (hk : sbOk X = true) (hm : n ≤ 1000000) (P z : Nat) (hP : (sbRead X).place = (P : Int)) (hP1 : P ≤ 1) (hz : (sbRead X).size = (z : Int)) (snap : List Int) (hsn : (rsnapB xs (2 + P * ((n - 2) / 4)) ((z + 63) / 64)).take z = snap) (h2 : 2 ≤ n) :
    Fc prog E 48 [.agg #[.slice p n cap]].toArray l (fun v l' => if 64 * ((n - 2) / 4) < z then v = .tuple #[.slice none 0 0, .bool false] ∧ l' = l
      else ∃ a c, v = .tuple #[.slice a z c, .bool (decide ((sha snap).take 16 = (sbRead X).hash))] ∧ l' = own 5 1 (.slice a z c) z (ints .u8 snap) :: l) := by
  refine Fc.post ?_
  have l5 : ∀ a c k, (rsuper X a c k).length = 5 := fun _ _ _ => rfl
  have hX64 : X.length = 64 := by
    rw [← hX, rpick]
    split
    · exact h64 _ (List.mem_of_getElem? hB)
    · exact h64 _ (List.mem_of_getElem? hA)
  have hh : ((X.drop 24).take 16).length = 16 := by simp [hX64]
  have hh2 : (X.drop 24).take 16 = (sbRead X).hash := rfl
  have hxL : ∀ x ∈ xs, (encB x).length = 64 := fun x hx => (encB_length _).trans (h64 x hx)
  obtain ⟨g0, o0, rfl, hr⟩ := hin.addr (by omega)
  have hr0 : RdN l g0 o0 (xs.flatMap encB) := hr []
  obtain ⟨H, hH⟩ : ∃ H, (n - 2) / 4 = H := ⟨_, rfl⟩
  have hH4 : 4 * H ≤ n - 2 := by omega
  have hPH : P * H ≤ H := by rcases (by omega : P = 0 ∨ P = 1) with rfl | rfl <;> omega
  obtain ⟨PH, hPHe⟩ : ∃ PH, P * H = PH := ⟨_, rfl⟩
  have hc : ∀ m, Fc prog E 53 [.agg #[.slice (some ⟨g0, o0, none⟩) n cap]].toArray (m ++ l) _ := fun m => rcounts_known E _ n cap xs A B X (m ++ l) (hin.app m) hn h64 hA hB bA bB hX true hk
  have hhalf : ∀ l, Fc prog E 78 [.agg #[.slice (some ⟨g0, o0, none⟩) n cap]].toArray l (fun v l' => v = .int .i64 (H : Int) ∧ l' = l) := fun l => by
    have := rhalf_spec E (some ⟨g0, o0, none⟩) n cap h2 hm l
    rwa [hH] at this
  rw [hH, hPHe] at hsn
  rw [hH]
  have hrs : ∀ g c, rsuper X (some ⟨g, 0, none⟩) c true = [.int .i64 (P : Int), Q (sbRead X).turn, .int .i64 (z : Int), .slice (some ⟨g, 0, none⟩) 16 c, .bool true] := fun g c => by rw [rsuper, hP, hz]
  refine Fc.of_body (c := ?codeC) Try.func48 ?hb Try.ntmps48 ?hl ?_
  case hb => exact rfl
  case hl => exact rfl
  refine J.seq ?_
  refine J.region ?_
  refine JL.loud rfl (l_box rfl (by (first | rfl | simp)) rfl (fun b1 => ?_))
  refine JL.step (y_assign rfl) rfl rfl rfl (JL.step (y_assign rfl) rfl rfl rfl ?_)
  refine JL.nil ?_
  refine JE.then_normal ?_
  refine J.seq ?_
  refine J.region ?_
  refine JL.step (y_loadN hT rfl rfl rfl (by (first | exact RdN.rowAll (by (repeat (first | exact Pick.head | apply Pick.tail | apply Pick.app))) | exact RdN.own (by (repeat (first | exact Pick.head | apply Pick.tail | apply Pick.app))))) (by (first | rfl | assumption | (simp; done) | omega))) rfl rfl rfl ?_
  refine JL.loud rfl (l_callF e53 rfl rfl (hc [_]) ?_)
  rintro _ _ ⟨g, c, rfl, hc1, hc2, rfl⟩
  rw [hrs]
  refine JL.loud rfl (l_alloc hT rfl rfl (by (first | rfl | simp)) rfl (fun b3 => ?_))
  refine JL.loud rfl (l_storeAll hT rfl rfl rfl (by (first | rfl | assumption | (simp; done) | omega)) (by (first | assumption | exact ones_of rfl | exact encW_one _ | exact encB_one _ | (intro u hu; simp at hu; rcases hu with rfl | rfl <;> rfl) | (intro u hu; simp at hu; subst hu; rfl) | simp)) (by (repeat (first | exact Pick.head | apply Pick.tail | apply Pick.app))) (by (first | rfl | assumption | (simp; done) | omega)) ?_)
  refine JL.nil ?_
  refine JE.then_normal ?_
  refine J.seq ?_
  refine J.seq ?_
  refine J.draw _ _ [(0, .q), (1, .q), (2, .q), (3, .q), (4, .q), (5, .q), (6, .q), (7, .q), (8, .q), (9, .q), (10, .q)] mixed (by kernel_rfl) (Split.nil) ?_
  refine JM.quiet rfl rfl rfl rfl (fun m => y_fieldAddr hT rfl rfl rfl rfl rfl rfl) ?_
  refine JM.quiet rfl rfl rfl rfl (fun m => y_load1 hT rfl rfl rfl (by (exact Rd1.row (Pick.app m (by (repeat (first | exact Pick.head | apply Pick.tail | apply Pick.app)))) (by rfl)))) ?_
  refine JM.quiet rfl rfl rfl rfl (fun m => y_not rfl) ?_
  refine JM.quiet rfl rfl rfl rfl (fun m => y_move rfl) ?_
  all_goals (first | refine JM.gskip rfl rfl rfl rfl rfl rfl rfl ?_ | refine JM.gskipU rfl rfl rfl rfl rfl rfl ?_ | refine JM.gquiet rfl rfl rfl rfl rfl rfl (fun m => y_fieldAddr hT rfl rfl rfl rfl rfl rfl) ?_)
  all_goals (first | refine JM.gskip rfl rfl rfl rfl rfl rfl rfl ?_ | refine JM.gskipU rfl rfl rfl rfl rfl rfl ?_ | refine JM.gquiet rfl rfl rfl rfl rfl rfl (fun m => y_load1 hT rfl rfl rfl (by (exact Rd1.row (Pick.app m (by (repeat (first | exact Pick.head | apply Pick.tail | apply Pick.app)))) (by rfl)))) ?_)
  all_goals (first | refine JM.gskip rfl rfl rfl rfl rfl rfl rfl ?_ | refine JM.gskipU rfl rfl rfl rfl rfl rfl ?_ | refine JM.gquiet rfl rfl rfl rfl rfl rfl (fun m => y_loadN hT rfl rfl rfl (by (first | exact RdN.rowAll (Pick.app m (by (repeat (first | exact Pick.head | apply Pick.tail | apply Pick.app)))) | exact RdN.own (Pick.app m (by (repeat (first | exact Pick.head | apply Pick.tail | apply Pick.app)))))) (by (first | rfl | assumption | (simp; done) | omega))) ?_)
  all_goals (first | refine JM.gskip rfl rfl rfl rfl rfl rfl rfl ?_ | refine JM.gskipU rfl rfl rfl rfl rfl rfl ?_ | refine JM.gquiet rfl rfl rfl rfl rfl rfl (fun m => y_callF e78 rfl (hhalf _)) ?_)
  all_goals (first | refine JM.gskip rfl rfl rfl rfl rfl rfl rfl ?_ | refine JM.gskipU rfl rfl rfl rfl rfl rfl ?_ | refine JM.gquiet rfl rfl rfl rfl rfl rfl (fun m => y_mul rfl rfl (by (first | exact wrap_i64 (by omega) (by omega) | rfl))) ?_)
  all_goals (first | refine JM.gskip rfl rfl rfl rfl rfl rfl rfl ?_ | refine JM.gskipU rfl rfl rfl rfl rfl rfl ?_ | refine JM.gquiet rfl rfl rfl rfl rfl rfl (fun m => y_gtr rfl rfl) ?_)
  all_goals refine JM.quiet rfl rfl rfl rfl (fun m => y_pick rfl rfl rfl) ?_
  all_goals refine JM.nil ?_
  all_goals refine JE.then_normal ?_
  all_goals
    first | apply J.cond_dec rfl | apply J.cond rfl
    case' ht =>
      intro h
      try (first | (exfalso; omega) | (cases h; done) | (exfalso; simp at h; done) | subst h)
      all_goals
        have hlt : 64 * H < z := by omega
        refine J.seq ?_
        refine J.region ?_
        refine JL.step (y_assign rfl) rfl rfl rfl (JL.step (y_assign rfl) rfl rfl rfl ?_)
        refine JL.nil ?_
        refine JE.then_normal ?_
        refine J.ret ?_
        refine JE.then_ret ?_
        refine JE.ret2 (.inl rfl) rfl rfl (by (first | exact RV.tmp rfl | exact RV.cell1 hT rfl rfl rfl (by (exact Rd1.row (by (repeat (first | exact Pick.head | apply Pick.tail | apply Pick.app))) (by rfl))) | exact RV.cellN hT rfl rfl rfl (by (first | exact RdN.rowAll (by (repeat (first | exact Pick.head | apply Pick.tail | apply Pick.app))) | exact RdN.own (by (repeat (first | exact Pick.head | apply Pick.tail | apply Pick.app))))) (by (first | rfl | assumption | (simp; done) | omega)))) (by (first | exact RV.tmp rfl | exact RV.cell1 hT rfl rfl rfl (by (exact Rd1.row (by (repeat (first | exact Pick.head | apply Pick.tail | apply Pick.app))) (by rfl))) | exact RV.cellN hT rfl rfl rfl (by (first | exact RdN.rowAll (by (repeat (first | exact Pick.head | apply Pick.tail | apply Pick.app))) | exact RdN.own (by (repeat (first | exact Pick.head | apply Pick.tail | apply Pick.app))))) (by (first | rfl | assumption | (simp; done) | omega)))) ?_
        first
          | (refine ⟨l, fun w q => q.sup (by (repeat (first | exact Sup.refl | apply Sup.cons (by (repeat (first | exact Pick.head | apply Pick.tail | apply Pick.app))) | apply Sup.app | apply Sup.skip | apply Sup.skips))), ?_⟩
             rw [if_pos hlt]
             exact ⟨rfl, rfl⟩)
          | (rw [List.append_nil]
             refine ⟨own 5 1 (.slice a3 z c3) z (ints .u8 snap) :: l, fun w q => q.sup (by (repeat (first | exact Sup.refl | apply Sup.cons (by (repeat (first | exact Pick.head | apply Pick.tail | apply Pick.app))) | apply Sup.app | apply Sup.skip | apply Sup.skips))), ?_⟩
             rw [if_neg hnl]
             exact ⟨a3, c3, by rw [hh2], rfl⟩)
    case' hf =>
      intro h
      try (first | (exfalso; omega) | (cases h; done) | (exfalso; simp at h; done) | subst h)
      all_goals
        have hnl : ¬ 64 * H < z := by omega
        obtain ⟨K, hK⟩ : ∃ K, (z + 63) / 64 = K := ⟨_, rfl⟩
        rw [hK] at hsn
        have hKH : K ≤ H := by omega
        refine J.skip ?_
  all_goals refine JE.then_normal ?_
  all_goals
    refine J.seq ?_
    refine J.region ?_
    refine JL.step (y_assign rfl) rfl rfl rfl ?_
    refine JL.nil ?_
    refine JE.then_normal ?_
    refine J.seq ?_
    refine J.seq ?_
    refine J.region ?_
    refine JL.step (y_assign rfl) rfl rfl rfl ?_
    refine JL.nil ?_
    refine JE.then_normal ?_
    refine J.block ?_
    refine J.loop (α := Nat × Value) (fun s => s.1 ≤ K ∧ ∃ a c, s.2 = .slice a (64 * s.1) c) (fun s => [(1, .pointer (some ⟨b1, 0, none⟩)), (4, .pointer (some ⟨b3, 0, none⟩)), (5, s.2), (6, .int .i64 s.1)]) (fun s => own 5 1 s.2 (64 * s.1) (ints .u8 (rsnapB xs (2 + PH) s.1)) :: row b3 89 [.int .i64 (P : Int), Q (sbRead X).turn, .int .i64 (z : Int), .slice (some ⟨g, 0, none⟩) 16 c, .bool true] :: own 5 1 (.slice (some ⟨g, 0, none⟩) 16 c) 16 (ints .u8 ((X.drop 24).take 16)) :: row b1 68 [.slice (some ⟨g0, o0, none⟩) n cap] :: l) (fun s => K - s.1) (0, .slice none 0 0) ⟨by simp, _, _, rfl⟩ ⟨rfl, rfl, rfl, rfl, trivial⟩ (fun w h => h.own_nil.sup (by (repeat (first | exact Sup.refl | apply Sup.cons (by (repeat (first | exact Pick.head | apply Pick.tail | apply Pick.app))) | apply Sup.app | apply Sup.skip | apply Sup.skips)))) ?_
    rintro ⟨k, v⟩ ⟨hkK, a, cc, hv⟩
    dsimp only at hkK hv ⊢
    subst hv
    have hol := rsnapB_length (base := 2 + PH) h64 k (by omega)
    refine J.seq ?_
    refine J.seq ?_
    refine J.region ?_
    refine JL.step (y_move rfl) rfl rfl rfl (JL.step (y_len_slice hT rfl rfl rfl) rfl rfl rfl (JL.step (y_fieldAddr hT rfl rfl rfl rfl rfl rfl) rfl rfl rfl ?_))
    refine JL.step (y_load1 hT rfl rfl rfl (by (exact Rd1.row (by (repeat (first | exact Pick.head | apply Pick.tail | apply Pick.app))) (by rfl)))) rfl rfl rfl ?_
    refine JL.step (y_lss rfl rfl) rfl rfl rfl ?_
    refine JL.nil ?_
    refine JE.then_normal ?_
    first | apply J.cond_dec rfl | apply J.cond rfl
    case' ht =>
      intro h
      try (first | (exfalso; omega) | (cases h; done) | (exfalso; simp at h; done) | subst h)
      all_goals
        refine J.skip ?_
    case' hf =>
      intro h
      try (first | (exfalso; omega) | (cases h; done) | (exfalso; simp at h; done) | subst h)
      all_goals
        refine J.exit ?_
        refine JE.then_exit ?_
        refine JE.then_exit ?_
        refine JE.block_exit ?_
        refine JE.then_normal ?_
        refine J.seq ?_
        obtain rfl : k = K := by omega
        refine J.region ?_
        refine JL.step (y_move rfl) rfl rfl rfl (JL.step (y_fieldAddr hT rfl rfl rfl rfl rfl rfl) rfl rfl rfl ?_)
        refine JL.step (y_load1 hT rfl rfl rfl (by (exact Rd1.row (by (repeat (first | exact Pick.head | apply Pick.tail | apply Pick.app))) (by rfl)))) rfl rfl rfl ?_
        refine JL.fact (fun w q => Sat.own_at (a := a) (k := 64 * k) (q.pick (by (repeat (first | exact Pick.head | apply Pick.tail | apply Pick.app))))) fun ow => ?_
        have howl := ow.le
        obtain ⟨b9, hb9⟩ : ∃ b9, a = some ⟨b9, 0, none⟩ ∨ cc = 0 := by
          rcases ow.at_ with ⟨g, e⟩ | ⟨e, _⟩
          · exact ⟨g, .inl e⟩
          · exact ⟨0, .inr e⟩
        have e9 : (if cc = 0 then a else some ⟨b9, 0 + 0 * i5.size, none⟩) = a := by
          split
          · rfl
          · rcases hb9 with e | e
            · rw [e]; simp
            · omega
        have hsl : snap.length = z := by rw [← hsn, List.length_take, hol]; omega
        refine JL.step (y_slice (b := b9) (off := 0) (lo := 0) (hi := z) hT rfl rfl rfl rfl (.inl ⟨rfl, rfl⟩) (.inr ⟨_, _, _, rfl, rfl, rfl⟩) (by omega) (by omega) (by omega) hb9) rfl rfl rfl ?_
        rw [e9]
        refine JL.loud rfl (l_callF e74 rfl rfl (rboth_at E a none (cc - 0) 0 (z - 0) 0 z snap [] _ rfl hsl rfl (by rw [← hsn]; simpa [ints, List.map_take] using (InL.cut (ow.inl (by (repeat (first | exact Pick.head | apply Pick.tail | apply Pick.app)))) z (by omega))) InL.none (by omega)) ?_)
        rintro _ _ ⟨a3, c3, rfl, rfl⟩
        refine JL.step (y_assign rfl) rfl rfl rfl ?_
        refine JL.nil ?_
        refine JE.then_normal ?_
        refine J.seq ?_
        refine J.draw _ _ [(0, .q), (1, .q), (3, .q), (4, .q), (2, .l), (5, .e), (6, .q), (7, .q)] mixed (by kernel_rfl) (Split.nil) ?_
        refine JM.quiet rfl rfl rfl rfl (fun m => y_move rfl) ?_
        refine JM.quiet rfl rfl rfl rfl (fun m => y_move rfl) ?_
        refine JM.quiet rfl rfl rfl rfl (fun m => y_fieldAddr hT rfl rfl rfl rfl rfl rfl) ?_
        refine JM.quiet rfl rfl rfl rfl (fun m => y_load1 hT rfl rfl rfl (by (exact Rd1.row (Pick.app m (by (repeat (first | exact Pick.head | apply Pick.tail | apply Pick.app)))) (by rfl)))) ?_
        refine JM.loud rfl rfl (fun fr => l_callF e76 rfl rfl (Fc.ownKnown (by decide) (Fc.fact (p := OwnAt a3 z c3 (ints .u8 (snap ++ []))) (fun w s => Sat.own_at (s.pick (by (repeat (first | exact Pick.head | apply Pick.tail | apply Pick.app))))) fun ok => rshort_spec E _ c3 z (snap ++ []) _ (by rw [List.append_nil]; exact hsl) (ok.inl (by (repeat (first | exact Pick.head | apply Pick.tail | apply Pick.app)))) (by omega))) ?_)
        rintro _ _ ⟨g2, c2, rfl, hg1, hg2, rfl⟩
        refine ⟨[_], (by (repeat (first | exact Split.nil | exact Split.all | refine Split.cons Pick.head ?_))), ?_⟩
        refine JM.early rfl rfl rfl rfl (fun fr => y_callF e51 rfl (rsame_at E _ _ c2 c 16 16 ((sha (snap ++ [])).take 16) ((X.drop 24).take 16) _ (by rw [List.length_take, sha_length]; rfl) hh ⟨hg1, hg2, .inl ⟨g2, 0, rfl, fun m => RdN.own (Pick.app m (by (repeat (first | exact Pick.head | apply Pick.tail | apply Pick.app))))⟩⟩ ⟨hc1, hc2, .inl ⟨g, 0, rfl, fun m => RdN.own (Pick.app m (by (repeat (first | exact Pick.head | apply Pick.tail | apply Pick.app))))⟩⟩ (by decide) (by decide))) ?_
        refine JM.quiet rfl rfl rfl rfl (fun m => y_assign rfl) ?_
        refine JM.quiet rfl rfl rfl rfl (fun m => y_assign rfl) ?_
        refine JM.nil ?_
        refine JE.then_normal ?_
        refine J.ret ?_
        refine JE.ret2 (.inl rfl) rfl rfl (by (first | exact RV.tmp rfl | exact RV.cell1 hT rfl rfl rfl (by (exact Rd1.row (by (repeat (first | exact Pick.head | apply Pick.tail | apply Pick.app))) (by rfl))) | exact RV.cellN hT rfl rfl rfl (by (first | exact RdN.rowAll (by (repeat (first | exact Pick.head | apply Pick.tail | apply Pick.app))) | exact RdN.own (by (repeat (first | exact Pick.head | apply Pick.tail | apply Pick.app))))) (by (first | rfl | assumption | (simp; done) | omega)))) (by (first | exact RV.tmp rfl | exact RV.cell1 hT rfl rfl rfl (by (exact Rd1.row (by (repeat (first | exact Pick.head | apply Pick.tail | apply Pick.app))) (by rfl))) | exact RV.cellN hT rfl rfl rfl (by (first | exact RdN.rowAll (by (repeat (first | exact Pick.head | apply Pick.tail | apply Pick.app))) | exact RdN.own (by (repeat (first | exact Pick.head | apply Pick.tail | apply Pick.app))))) (by (first | rfl | assumption | (simp; done) | omega)))) ?_
        first
          | (refine ⟨l, fun w q => q.sup (by (repeat (first | exact Sup.refl | apply Sup.cons (by (repeat (first | exact Pick.head | apply Pick.tail | apply Pick.app))) | apply Sup.app | apply Sup.skip | apply Sup.skips))), ?_⟩
             rw [if_pos hlt]
             exact ⟨rfl, rfl⟩)
          | (rw [List.append_nil]
             refine ⟨own 5 1 (.slice a3 z c3) z (ints .u8 snap) :: l, fun w q => q.sup (by (repeat (first | exact Sup.refl | apply Sup.cons (by (repeat (first | exact Pick.head | apply Pick.tail | apply Pick.app))) | apply Sup.app | apply Sup.skip | apply Sup.skips))), ?_⟩
             rw [if_neg hnl]
             exact ⟨a3, c3, by rw [hh2], rfl⟩)
    all_goals refine JE.then_normal ?_
    all_goals
      refine J.seq ?_
      refine J.block ?_
      refine J.draw _ _ [(0, .q), (1, .q), (2, .q), (3, .q), (4, .q), (5, .q), (6, .q), (7, .q), (8, .q), (9, .q), (10, .q), (11, .q), (12, .q), (13, .l), (14, .q)] mixed (by kernel_rfl) (Split.nil) ?_
      have hkl : k < K := by omega
      obtain ⟨x, hx⟩ : ∃ x, xs[2 + PH + k]? = some x := ⟨_, List.getElem?_eq_getElem (by omega)⟩
      have hx6 := h64 x (List.mem_of_getElem? hx)
      have hxe : xs.getD (2 + PH + k) [] = x := by rw [List.getD_eq_getElem?_getD, hx]; rfl
      have hxb : ∀ off, off = o0 + (2 + PH + k) * 64 → InL l (some ⟨g0, off, none⟩) 64 64 (ints .u8 x) := fun off e => by
        subst e
        exact ⟨Nat.le_refl _, by decide, .inl ⟨g0, _, rfl, fun m => RdN.elem (hr m) hxL hx⟩⟩
      refine JM.quiet rfl rfl rfl rfl (fun m => y_move rfl) ?_
      refine JM.quiet rfl rfl rfl rfl (fun m => y_fieldAddr hT rfl rfl rfl rfl rfl rfl) ?_
      refine JM.quiet rfl rfl rfl rfl (fun m => y_load1 hT rfl rfl rfl (by (exact Rd1.row (Pick.app m (by (repeat (first | exact Pick.head | apply Pick.tail | apply Pick.app)))) (by rfl)))) ?_
      refine JM.quiet rfl rfl rfl rfl (fun m => y_fieldAddr hT rfl rfl rfl rfl rfl rfl) ?_
      refine JM.quiet rfl rfl rfl rfl (fun m => y_load1 hT rfl rfl rfl (by (exact Rd1.row (Pick.app m (by (repeat (first | exact Pick.head | apply Pick.tail | apply Pick.app)))) (by rfl)))) ?_
      refine JM.quiet rfl rfl rfl rfl (fun m => y_loadN hT rfl rfl rfl (by (first | exact RdN.rowAll (Pick.app m (by (repeat (first | exact Pick.head | apply Pick.tail | apply Pick.app)))) | exact RdN.own (Pick.app m (by (repeat (first | exact Pick.head | apply Pick.tail | apply Pick.app)))))) (by (first | rfl | assumption | (simp; done) | omega))) ?_
      refine JM.quiet rfl rfl rfl rfl (fun m => y_callF e78 rfl (hhalf _)) ?_
      refine JM.quiet rfl rfl rfl rfl (fun m => y_mul (m := (PH : Int)) rfl rfl (by rw [← Int.natCast_mul, hPHe]; exact wrap_i64 (by omega) (by omega))) ?_
      refine JM.quiet rfl rfl rfl rfl (fun m => y_add rfl rfl (by (first | exact wrap_i64 (by omega) (by omega) | rfl))) ?_
      refine JM.quiet rfl rfl rfl rfl (fun m => y_move rfl) ?_
      refine JM.quiet rfl rfl rfl rfl (fun m => y_add rfl rfl (by (first | exact wrap_i64 (by omega) (by omega) | rfl))) ?_
      refine JM.quiet rfl rfl rfl rfl (fun m => y_indexAddr_slice hT rfl rfl rfl rfl rfl (by (first | omega | exact Nat.le_of_ble_eq_true rfl | decide | (simp; omega))) (by (first | omega | exact Nat.le_of_ble_eq_true rfl | decide | (simp; omega)))) ?_
      refine JM.quiet rfl rfl rfl rfl (fun m => y_slice_arr hT rfl rfl rfl rfl (.inl ⟨rfl, rfl⟩) (.inl ⟨rfl, rfl⟩) (by (first | omega | exact Nat.le_of_ble_eq_true rfl | decide | (simp; omega))) (by (first | omega | exact Nat.le_of_ble_eq_true rfl | decide | (simp; omega)))) ?_
      refine JM.loud rfl rfl (fun fr => l_callF e74 rfl rfl (Fc.fact (p := OwnAt a (64 * k) cc (ints .u8 (rsnapB xs (2 + PH) k))) (fun w s => Sat.own_at (s.pick (by (repeat (first | exact Pick.head | apply Pick.tail | apply Pick.app))))) fun ok => rboth_at E _ _ cc 64 (64 * k) 64 (64 * (k + 1)) (rsnapB xs (2 + PH) k) x _ (by omega) hol hx6 (ok.inl (by (repeat (first | exact Pick.head | apply Pick.tail | apply Pick.app)))) (by (repeat (first | exact hxb _ (by rw [if_neg (by decide), show i27.size = 64 from rfl, show i5.size = 1 from rfl]; omega) | apply InL.cons | apply InL.app))) (by omega)) ?_)
      rintro _ _ ⟨a2, c2, rfl, rfl⟩
      refine ⟨[_], (by (repeat (first | exact Split.nil | exact Split.all | refine Split.cons Pick.head ?_))), ?_⟩
      refine JM.quiet rfl rfl rfl rfl (fun m => y_assign rfl) ?_
      refine JM.nil ?_
      refine JE.block_normal ?_
      refine JE.then_normal ?_
      refine J.region ?_
      refine JL.step (y_move rfl) rfl rfl rfl ?_
      refine JL.step (y_add rfl rfl (by (first | exact wrap_i64 (by omega) (by omega) | rfl))) rfl rfl rfl ?_
      refine JL.step (y_assign rfl) rfl rfl rfl ?_
      refine JL.nil ?_
    all_goals
      refine JE.round (s := (k, .slice a (64 * k) cc)) (k + 1, .slice a2 (64 * (k + 1)) c2) ⟨by dsimp only; omega, _, _, rfl⟩ ⟨rfl, rfl, rfl, rfl, trivial⟩ (fun w q => ?_) (by dsimp only; omega)
      dsimp only
      rw [rsnapB, hxe]
      exact q.sup (by (repeat (first | exact Sup.refl | apply Sup.cons (by (repeat (first | exact Pick.head | apply Pick.tail | apply Pick.app))) | apply Sup.app | apply Sup.skip | apply Sup.skips)))
end
end Go.Proofs.Ytilifeeddpkclaa
