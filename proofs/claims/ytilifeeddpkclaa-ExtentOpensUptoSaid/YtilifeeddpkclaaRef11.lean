import Derived.Test.YtilifeeddpkclaaRef1
import Derived.Test.YtilifeeddpkclaaRsha2
import Derived.Test.YtilifeeddpkclaaExt11
namespace Go.Proofs.Ytilifeeddpkclaa
open Go Go.SL
/-! The document's superblock. -/
theorem leB4_size (z : Int) : leB 4 (BitVec.ofInt 64 ((BitVec.ofInt 32 z).toNat : Int)) = leB 4 (BitVec.ofInt 64 z) := by
  simp only [leB, List.range, List.range.loop, List.map_cons, List.map_nil, BitVec.toNat_ushiftRight, BitVec.toNat_ofInt, Nat.shiftRight_eq_div_pow]
  congr 1
  · omega
  congr 1
  · omega
  congr 1
  · omega
  congr 1
  omega
attribute [local irreducible] J JL JE JM LS Y Fc RV Code.wp wpList Code.wpIn wpListIn
variable (E : World)
theorem rboth_at (p1 p2 : Option Addr) (c1 c2 n m k : Nat) (xs ys : List Int) (l : List HProp) (hk : n + m = k) (hn : xs.length = n) (hm : ys.length = m) (h1 : InL l p1 n c1 (ints .u8 xs)) (h2 : InL l p2 m c2 (ints .u8 ys)) (hb : n + m ≤ 70368744177664) :
    Fc prog E 74 [.slice p1 n c1, .slice p2 m c2].toArray l (fun v l' => ∃ a c, v = .slice a k c ∧ l' = own 5 1 v k (ints .u8 (xs ++ ys)) :: l) := by
  subst hk
  subst hn
  subst hm
  exact rboth_spec E p1 p2 c1 c2 xs ys l h1 h2 hb
theorem rsame_at (p1 p2 : Option Addr) (c1 c2 n m : Nat) (xs ys : List Int) (l : List HProp) (hn : xs.length = n) (hm : ys.length = m) (h1 : InL l p1 n c1 (ints .u8 xs)) (h2 : InL l p2 m c2 (ints .u8 ys)) (hb : n ≤ 70368744177664) (hb2 : m ≤ 70368744177664) :
    Fc prog E 51 [.slice p1 n c1, .slice p2 m c2].toArray l (fun v l' => v = .bool (decide (xs = ys)) ∧ l' = l) := by
  subst hn
  subst hm
  exact rsame_spec E p1 p2 c1 c2 xs ys l h1 h2 hb hb2
theorem rhigh_at (p : Option Addr) (cap n : Nat) (bs : List Int) (l : List HProp) (hn : bs.length = n) (hb : Bytes bs) (hin : InL l p n cap (ints .u8 bs)) :
    Fc prog E 94 [.slice p n cap].toArray l (fun v l' => v = Q (leG bs (min n 8)) ∧ l' = l) := by
  subst hn
  exact rhigh_spec E p cap bs l hb hin
theorem InL.none {l : List HProp} : InL l none 0 0 (ints .u8 []) := ⟨Nat.le_refl _, Nat.zero_le _, .inr ⟨rfl, rfl⟩⟩
theorem rshort_spec (p : Option Addr) (cap n : Nat) (bs : List Int) (l : List HProp) (hbn : bs.length = n) (hin : InL l p n cap (ints .u8 bs)) (hn : n ≤ 70368744177000) :
    Fc prog E 76 [.slice p n cap].toArray l (fun v l' => ∃ a c, v = .slice a 16 c ∧ l' = own 5 1 v 16 (ints .u8 ((sha bs).take 16)) :: l) := by
  refine Fc.post ?_
  have hl : (ints .u8 (sha bs)).length = 32 := by rw [ints, List.length_map, sha_length]
  have hl2 : ((sha bs).take 16).length = 16 := by rw [List.length_take, sha_length]; rfl
  have hsum : ∀ l, InL l p n cap (ints .u8 bs) → Fc prog E 89 [.slice p n cap].toArray l (fun v l' => v = .agg (ints .u8 (sha bs)).toArray ∧ l' = l) := by
    subst hbn
    exact fun l h => rsum_spec E p cap bs l h hn
  have hrow : ∀ b l', (∃ r, Pick l' (row b 140 (ints .u8 (sha bs))) r) → InL l' (some ⟨b, 0, .none⟩) 16 32 (ints .u8 ((sha bs).take 16)) := fun b l' ⟨r, hp⟩ => ⟨by decide, by decide, .inl ⟨b, 0, rfl, fun m => RdN.row (n := 16) (Pick.app m hp) (by simp [ints])⟩⟩
  refine Fc.of_body (c := ?c) Try.func76 ?hb Try.ntmps76 ?hl ?_
  case hb => exact rfl
  case hl => exact rfl
  refine J.seq ?_
  refine J.region ?_
  refine JL.step (y_assign rfl) rfl rfl rfl ?_
  refine JL.nil ?_
  refine JE.then_normal ?_
  refine J.seq ?_
  refine J.region ?_
  refine JL.step (y_move rfl) rfl rfl rfl ?_
  refine JL.loud rfl (l_callF e89 rfl rfl (hsum _ (by (repeat (first | assumption | apply InL.cons | apply InL.app)))) ?_)
  rintro _ _ ⟨rfl, rfl⟩
  refine JL.loud rfl (l_alloc hT rfl rfl (by (first | rfl | simp)) rfl (fun b2 => ?_))
  refine JL.loud rfl (l_storeAll hT rfl rfl rfl (by (first | rfl | assumption | (simp; done) | omega)) (by (first | assumption | exact ones_of rfl | exact encW_one _ | exact encB_one _ | (intro u hu; simp at hu; rcases hu with rfl | rfl <;> rfl) | (intro u hu; simp at hu; subst hu; rfl) | simp)) (by (repeat (first | exact Pick.head | apply Pick.tail | apply Pick.app))) (by (first | rfl | assumption | (simp; done) | omega)) ?_)
  refine JL.nil ?_
  refine JE.then_normal ?_
  refine J.seq ?_
  refine J.region ?_
  refine JL.step (y_slice_arr hT rfl rfl rfl rfl (.inl ⟨rfl, rfl⟩) (.inr ⟨_, _, _, rfl, rfl, (by (first | rfl | simp))⟩) (by (first | omega | exact Nat.le_of_ble_eq_true rfl | decide | (simp; omega))) (by (first | omega | exact Nat.le_of_ble_eq_true rfl | decide | (simp; omega)))) rfl rfl rfl ?_
  refine JL.loud rfl (l_callF e74 rfl rfl (rboth_at E _ _ 32 0 16 0 16 ((sha bs).take 16) [] _ rfl hl2 rfl (hrow _ _ ⟨_, by (repeat (first | exact Pick.head | apply Pick.tail | apply Pick.app))⟩) InL.none (by decide)) ?_)
  rintro _ _ ⟨a, c, rfl, rfl⟩
  refine JL.step (y_assign rfl) rfl rfl rfl ?_
  refine JL.nil ?_
  refine JE.then_normal ?_
  refine J.ret ?_
  refine JE.ret1 (.inl rfl) rfl rfl (by (first | exact RV.tmp rfl | exact RV.cell1 hT rfl rfl rfl (by (exact Rd1.row (by (repeat (first | exact Pick.head | apply Pick.tail | apply Pick.app))) (by rfl))) | exact RV.cellN hT rfl rfl rfl (by (first | exact RdN.rowAll (by (repeat (first | exact Pick.head | apply Pick.tail | apply Pick.app))) | exact RdN.own (by (repeat (first | exact Pick.head | apply Pick.tail | apply Pick.app))))) (by (first | rfl | assumption | (simp; done) | omega)))) ?_
  rw [List.append_nil]
  exact ⟨_, fun w q => q.sup (by (repeat (first | exact Sup.refl | apply Sup.cons (by (repeat (first | exact Pick.head | apply Pick.tail | apply Pick.app))) | apply Sup.app | apply Sup.skip | apply Sup.skips))), a, c, rfl, rfl⟩
theorem rblock_spec (place : Int) (turn : BitVec 64) (p : Option Addr) (cap n : Nat) (bs : List Int) (l : List HProp) (hbn : bs.length = n) (hin : InL l p n cap (ints .u8 bs)) (hn : n ≤ 70368744177000) :
    Fc prog E 46 [.int .i64 place, Q turn, .slice p n cap].toArray l (fun v l' => v = .agg (encB (sbBlock ⟨place, turn, n, (sha bs).take 16⟩)).toArray ∧ l' = l) := by
  refine Fc.eqs ?_
  have hs16 : ((sha bs).take 16).length = 16 := by rw [List.length_take, sha_length]; rfl
  obtain ⟨h1, e1⟩ : ∃ h1, lettersL ++ [place % 256, 0] = h1 := ⟨_, rfl⟩
  have l1 : h1.length = 12 := by rw [← e1]; rfl
  obtain ⟨h2, e2⟩ : ∃ h2, h1 ++ leB 8 turn = h2 := ⟨_, rfl⟩
  have l2 : h2.length = 20 := by rw [← e2, List.length_append, l1, leB_length]
  obtain ⟨h3, e3⟩ : ∃ h3, h2 ++ leB 4 (BitVec.ofInt 64 (n : Int)) = h3 := ⟨_, rfl⟩
  have l3 : h3.length = 24 := by rw [← e3, List.length_append, l2, leB_length]
  obtain ⟨h4, e4⟩ : ∃ h4, h3 ++ (sha bs).take 16 = h4 := ⟨_, rfl⟩
  have l4 : h4.length = 40 := by rw [← e4, List.length_append, l3, hs16]
  have eh : h4 ++ List.replicate 8 0 = sbHead ⟨place, turn, n, (sha bs).take 16⟩ := by
    rw [sbHead, leB4_size, ← e4, ← e3, ← e2, ← e1]
  obtain ⟨H, eH⟩ : ∃ H, sbHead ⟨place, turn, n, (sha bs).take 16⟩ = H := ⟨_, rfl⟩
  have lH : H.length = 48 := by rw [← eH]; exact sbHead_length hs16
  have hb16 : ((sha H).take 16).length = 16 := by rw [List.length_take, sha_length]; rfl
  rw [eH] at eh
  have eb : sbBlock ⟨place, turn, n, (sha bs).take 16⟩ = H ++ (sha H).take 16 := by rw [sbBlock, eH]
  rw [eb]
  have hB64 : (ints .u8 (H ++ (sha H).take 16)).length = 64 := by rw [ints, List.length_map, List.length_append, lH, hb16]
  have hE64 : (encB (H ++ (sha H).take 16)).length = 64 := hB64
  refine Fc.of_body (c := ?c) Try.func46 ?hb Try.ntmps46 ?hl ?_
  case hb => exact rfl
  case hl => exact rfl
  refine J.seq ?_
  refine J.region ?_
  refine JL.loud rfl (l_alloc hT rfl rfl (by (first | rfl | simp)) rfl (fun b1 => ?_))
  refine JL.nil ?_
  refine JE.then_normal ?_
  refine J.seq ?_
  refine J.region ?_
  refine JL.loud rfl (l_buildSliceP (cs := ints .u8 lettersL) hT rfl rfl rfl rfl rfl rfl rfl (by kernel_rfl) rfl (fun bl => ?_))
  refine JL.loud rfl (l_convBytes hT rfl rfl rfl rfl rfl (by (repeat (first | exact Pick.head | apply Pick.tail | apply Pick.app))) rfl ?_)
  refine JL.step (y_move rfl) rfl rfl rfl ?_
  refine JL.step (y_conv hT rfl rfl rfl rfl (wrap_u8 _)) rfl rfl rfl ?_
  refine JL.loud rfl (l_buildSliceP (cs := ints .u8 [place % 256, 0]) hT rfl rfl rfl rfl rfl rfl rfl (by kernel_rfl) rfl (fun bp => ?_))
  refine JL.loud rfl (l_callF e74 rfl rfl (rboth_at E _ _ 10 2 10 2 12 lettersL [place % 256, 0] _ rfl rfl rfl (InL.ofMrow (by (repeat (first | exact Pick.head | apply Pick.tail | apply Pick.app))) (by decide)) (InL.ofRow (by (repeat (first | exact Pick.head | apply Pick.tail | apply Pick.app))) (by decide)) (by decide)) ?_)
  rintro _ _ ⟨a1, c1, rfl, rfl⟩
  refine JL.step (y_assign rfl) rfl rfl rfl ?_
  refine JL.nil ?_
  refine JE.then_normal ?_
  refine J.seq ?_
  rw [e1]
  refine J.fact (fun w q => q.own_at) fun o1 => ?_
  refine J.region ?_
  refine JL.step (y_move rfl) rfl rfl rfl (JL.step (y_move rfl) rfl rfl rfl ?_)
  refine JL.loud rfl (l_callF e75 rfl rfl (rlow_spec E turn 8 (by decide) _) ?_)
  rintro _ _ ⟨a2, c2, rfl, rfl⟩
  refine JL.fact (fun w q => q.own_at) fun o2 => ?_
  refine JL.loud rfl (l_callF e74 rfl rfl (rboth_at E _ _ c1 c2 12 8 20 h1 (leB 8 turn) _ rfl l1 (leB_length _ _) (o1.inl (by (repeat (first | exact Pick.head | apply Pick.tail | apply Pick.app)))) (o2.inl (by (repeat (first | exact Pick.head | apply Pick.tail | apply Pick.app)))) (by decide)) ?_)
  rintro _ _ ⟨a3, c3, rfl, rfl⟩
  refine JL.step (y_assign rfl) rfl rfl rfl ?_
  refine JL.nil ?_
  refine JE.then_normal ?_
  refine J.seq ?_
  rw [e2]
  refine J.fact (fun w q => q.own_at) fun o3 => ?_
  refine J.region ?_
  refine JL.step (y_move rfl) rfl rfl rfl (JL.step (y_move rfl) rfl rfl rfl (JL.step (y_len_slice hT rfl rfl rfl) rfl rfl rfl ?_))
  refine JL.step (y_convToQ hT rfl rfl rfl rfl) rfl rfl rfl ?_
  refine JL.loud rfl (l_callF e75 rfl rfl (rlow_spec E _ 4 (by decide) _) ?_)
  rintro _ _ ⟨a4, c4, rfl, rfl⟩
  refine JL.fact (fun w q => q.own_at) fun o4 => ?_
  refine JL.loud rfl (l_callF e74 rfl rfl (rboth_at E _ _ c3 c4 20 4 24 h2 (leB 4 (BitVec.ofInt 64 (n : Int))) _ rfl l2 (leB_length _ _) (o3.inl (by (repeat (first | exact Pick.head | apply Pick.tail | apply Pick.app)))) (o4.inl (by (repeat (first | exact Pick.head | apply Pick.tail | apply Pick.app)))) (by decide)) ?_)
  rintro _ _ ⟨a5, c5, rfl, rfl⟩
  refine JL.step (y_assign rfl) rfl rfl rfl ?_
  refine JL.nil ?_
  refine JE.then_normal ?_
  refine J.seq ?_
  rw [e3]
  refine J.fact (fun w q => q.own_at) fun o5 => ?_
  refine J.region ?_
  refine JL.step (y_move rfl) rfl rfl rfl (JL.step (y_move rfl) rfl rfl rfl ?_)
  refine JL.loud rfl (l_callF e76 rfl rfl (rshort_spec E p cap n bs _ hbn (by (repeat (first | assumption | apply InL.cons | apply InL.app))) hn) ?_)
  rintro _ _ ⟨a6, c6, rfl, rfl⟩
  refine JL.fact (fun w q => q.own_at) fun o6 => ?_
  refine JL.loud rfl (l_callF e74 rfl rfl (rboth_at E _ _ c5 c6 24 16 40 h3 ((sha bs).take 16) _ rfl l3 hs16 (o5.inl (by (repeat (first | exact Pick.head | apply Pick.tail | apply Pick.app)))) (o6.inl (by (repeat (first | exact Pick.head | apply Pick.tail | apply Pick.app)))) (by decide)) ?_)
  rintro _ _ ⟨a7, c7, rfl, rfl⟩
  refine JL.step (y_assign rfl) rfl rfl rfl ?_
  refine JL.nil ?_
  refine JE.then_normal ?_
  refine J.seq ?_
  refine J.block ?_
  rw [e4]
  refine J.loop (α := Nat × Value) (fun s => s.1 ≤ 8 ∧ ∃ a c, s.2 = .slice a (40 + s.1) c) (fun s => [(7, s.2), (6, .pointer (some ⟨b1, 0, none⟩))]) (fun s => own 5 1 s.2 (40 + s.1) (ints .u8 (h4 ++ List.replicate s.1 0)) :: row b1 27 (List.replicate 64 (.int .u8 0)) :: l) (fun s => 8 - s.1) (0, .slice a7 40 c7) ⟨by simp, _, _, rfl⟩ ⟨rfl, rfl, trivial⟩ (fun w q => by rw [List.replicate_zero, List.append_nil]; exact q.sup (by (repeat (first | exact Sup.refl | apply Sup.cons (by (repeat (first | exact Pick.head | apply Pick.tail | apply Pick.app))) | apply Sup.app | apply Sup.skip | apply Sup.skips)))) ?_
  rintro ⟨k, v⟩ ⟨hk, a, c, hv⟩
  dsimp only at hk hv ⊢
  subst hv
  refine J.seq ?_
  refine J.seq ?_
  refine J.region ?_
  refine JL.step (y_move rfl) rfl rfl rfl (JL.step (y_len_slice hT rfl rfl rfl) rfl rfl rfl (JL.step (y_lss rfl rfl) rfl rfl rfl ?_))
  refine JL.nil ?_
  refine JE.then_normal ?_
  first | apply J.cond_dec rfl | apply J.cond rfl
  case' ht =>
    intro h
    try (first | (exfalso; omega) | (cases h; done) | (exfalso; simp at h; done) | subst h)
    all_goals
      refine J.skip ?_
  case' hf =>
    intro h
    try (first | (exfalso; omega) | (cases h; done) | (exfalso; simp at h; done) | subst h)
    all_goals
      refine J.exit ?_
      refine JE.then_exit ?_
      refine JE.then_exit ?_
      refine JE.block_exit ?_
      refine JE.then_normal ?_
      refine J.seq ?_
      obtain rfl : k = 8 := by omega
      rw [eh]
      refine J.fact (fun w q => q.own_at) fun o8 => ?_
      refine J.region ?_
      refine JL.step (y_move rfl) rfl rfl rfl (JL.step (y_move rfl) rfl rfl rfl ?_)
      refine JL.loud rfl (l_callF e76 rfl rfl (rshort_spec E _ c 48 H _ lH (o8.inl (by (repeat (first | exact Pick.head | apply Pick.tail | apply Pick.app)))) (by decide)) ?_)
      rintro _ _ ⟨a9, c9, rfl, rfl⟩
      refine JL.fact (fun w q => q.own_at) fun o9 => ?_
      refine JL.loud rfl (l_callF e74 rfl rfl (rboth_at E _ _ c c9 48 16 64 H ((sha H).take 16) _ rfl lH hb16 (o8.inl (by (repeat (first | exact Pick.head | apply Pick.tail | apply Pick.app)))) (o9.inl (by (repeat (first | exact Pick.head | apply Pick.tail | apply Pick.app)))) (by decide)) ?_)
      rintro _ _ ⟨a10, c10, rfl, rfl⟩
      refine JL.step (y_assign rfl) rfl rfl rfl ?_
      refine JL.nil ?_
      refine JE.then_normal ?_
      refine J.seq ?_
      refine J.region ?_
      refine JL.loud rfl (l_alloc hT rfl rfl (by (first | rfl | simp)) rfl (fun b12 => ?_))
      refine JL.nil ?_
      refine JE.then_normal ?_
      refine J.seq ?_
      refine J.region ?_
      refine JL.step (y_slice_arr hT rfl rfl rfl rfl (.inl ⟨rfl, rfl⟩) (.inl ⟨rfl, rfl⟩) (by (first | omega | exact Nat.le_of_ble_eq_true rfl | decide | (simp; omega))) (by (first | omega | exact Nat.le_of_ble_eq_true rfl | decide | (simp; omega)))) rfl rfl rfl ?_
      refine JL.step (y_move rfl) rfl rfl rfl ?_
      refine JL.loud rfl (LS.fact (fun w s => Sat.own_at (a := a10) (k := 64) (s.pick (by (repeat (first | exact Pick.head | apply Pick.tail | apply Pick.app))))) fun o => l_copy hT rfl rfl rfl rfl rfl rfl (by (repeat (first | exact Pick.head | apply Pick.tail | apply Pick.app))) (o.inl (by (repeat (first | exact Pick.head | apply Pick.tail | apply Pick.app)))) hB64 (by decide) (ints_one _ _) rfl ?_)
      refine JL.nil ?_
      refine JE.then_normal ?_
      refine J.seq ?_
      refine J.picks (A := row b12 27 _) (by (repeat (first | exact Pick.head | apply Pick.tail | apply Pick.app))) (J.row_eq (encB (H ++ (sha H).take 16)) (by
        have hX := hB64
        show _ = ints .u8 (H ++ (sha H).take 16)
        generalize ints .u8 (H ++ (sha H).take 16) = X at hX ⊢
        simp [List.take_of_length_le (Nat.le_of_eq hX)]) ?_)
      refine J.region ?_
      refine JL.step (y_loadN hT rfl rfl rfl (by (first | exact RdN.rowAll (by (repeat (first | exact Pick.head | apply Pick.tail | apply Pick.app))) | exact RdN.own (by (repeat (first | exact Pick.head | apply Pick.tail | apply Pick.app))))) (by (first | rfl | assumption | (simp; done) | omega))) rfl rfl rfl ?_
      refine JL.loud rfl (l_storeAll hT rfl rfl rfl (by (first | rfl | assumption | (simp; done) | omega)) (by (first | assumption | exact ones_of rfl | exact encW_one _ | exact encB_one _ | (intro u hu; simp at hu; rcases hu with rfl | rfl <;> rfl) | (intro u hu; simp at hu; subst hu; rfl) | simp)) (by (repeat (first | exact Pick.head | apply Pick.tail | apply Pick.app))) (by (first | rfl | assumption | (simp; done) | omega)) ?_)
      refine JL.nil ?_
      refine JE.then_normal ?_
      refine J.ret ?_
      refine JE.ret1 (.inl rfl) rfl rfl (by (first | exact RV.tmp rfl | exact RV.cell1 hT rfl rfl rfl (by (exact Rd1.row (by (repeat (first | exact Pick.head | apply Pick.tail | apply Pick.app))) (by rfl))) | exact RV.cellN hT rfl rfl rfl (by (first | exact RdN.rowAll (by (repeat (first | exact Pick.head | apply Pick.tail | apply Pick.app))) | exact RdN.own (by (repeat (first | exact Pick.head | apply Pick.tail | apply Pick.app))))) (by (first | rfl | assumption | (simp; done) | omega)))) ?_
      exact ⟨rfl, fun w q => q.sup (by (repeat (first | exact Sup.refl | apply Sup.cons (by (repeat (first | exact Pick.head | apply Pick.tail | apply Pick.app))) | apply Sup.app | apply Sup.skip | apply Sup.skips)))⟩
  all_goals refine JE.then_normal ?_
  all_goals
    refine J.block ?_
    refine J.region ?_
    refine JL.step (y_move rfl) rfl rfl rfl ?_
    refine JL.loud rfl (l_buildSliceP hT rfl rfl rfl rfl rfl rfl rfl (by (first | exact fill_one rfl (by first | assumption | rfl | (simp; done)) | rfl | simp)) rfl (fun b14 => ?_))
    refine JL.loud rfl (l_append hT rfl rfl rfl rfl rfl rfl rfl rfl (by (repeat (first | exact Pick.head | apply Pick.tail | apply Pick.app))) (by (first | exact RdN.rowAll (by (repeat (first | exact Pick.head | apply Pick.tail | apply Pick.app))) | exact RdN.own (by (repeat (first | exact Pick.head | apply Pick.tail | apply Pick.app))))) (by (first | rfl | assumption | (simp; done) | omega)) (by (first | assumption | exact ones_of rfl | exact encW_one _ | exact encB_one _ | (intro u hu; simp at hu; rcases hu with rfl | rfl <;> rfl) | (intro u hu; simp at hu; subst hu; rfl) | simp)) (by (first | exact Nat.le_trans (Nat.mul_le_mul_left _ (Nat.le_of_ble_eq_true rfl : _ ≤ 4096)) (by omega) | exact Nat.le_trans (Nat.mul_le_mul_left _ (Nat.le_of_ble_eq_true rfl : _ ≤ 1)) (by omega))) (by (first | omega | exact Nat.le_of_ble_eq_true rfl | decide | (simp; omega))) rfl (fun ab15 cb15 hb15 => ?_))
    refine JL.step (y_assign rfl) rfl rfl rfl ?_
    refine JL.nil ?_
    refine JE.block_normal ?_
  all_goals
    refine JE.round (s := (k, .slice a (40 + k) c)) (k + 1, _) ⟨by dsimp only; omega, _, _, rfl⟩ ⟨rfl, rfl, trivial⟩ (fun w q => ?_) (by dsimp only; omega)
    have e : ints .u8 (h4 ++ List.replicate (k + 1) 0) = ints .u8 (h4 ++ List.replicate k 0) ++ [.int .u8 0] := by
      rw [List.replicate_succ', ← List.append_assoc]
      simp only [ints, List.map_append, List.map_cons, List.map_nil]
    dsimp only
    rw [e, show 40 + (k + 1) = 40 + k + 1 from rfl]
    exact q.sup (by (repeat (first | exact Sup.refl | apply Sup.cons (by (repeat (first | exact Pick.head | apply Pick.tail | apply Pick.app))) | apply Sup.app | apply Sup.skip | apply Sup.skips)))
end Go.Proofs.Ytilifeeddpkclaa
