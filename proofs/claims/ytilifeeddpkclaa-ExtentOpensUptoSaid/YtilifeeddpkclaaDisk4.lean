import Derived.Test.YtilifeeddpkclaaDisk3
namespace Go.Proofs.Ytilifeeddpkclaa
open Go Go.SL
attribute [local irreducible] J JL JE JM LS Y Fc RV Code.wp wpList Code.wpIn wpListIn
attribute [local irreducible] Yc
variable (E : World)
theorem read_spec (d : Nat) (D : Dk) (i : Int) (r : List HProp) (hpn : D.pending.length ≤ 1000000) :
    Fc prog E 27 [Value.pointer (some ⟨d, 0, none⟩), .int .i64 i].toArray (disk d D :: r) (fun v l' => v = .tuple #[.agg (encB (D.read i)).toArray, .int .i64 (D.ready i)] ∧ l' = disk d D :: r) := by
  by_cases h : D.ready i = 0
  · simpa only [Dk.read, h, if_true] using read_good E d D i r h hpn
  · simpa only [Dk.read, h, if_false] using read_bad E d D i r h
/-- A new disk. -/
def Dk.new (n : Nat) : Dk := ⟨List.replicate n zeroB, [], false, false, 0, 0⟩
theorem zeroB_length : zeroB.length = 64 := rfl
theorem Dk.new_ok {n : Nat} (h1 : 1 ≤ n) (h2 : n ≤ 512) : (Dk.new n).Ok :=
  ⟨fun b hb => by rw [List.eq_of_mem_replicate hb]; rfl, fun p hp => by simp [Dk.new] at hp, by simpa [Dk.new] using h1, by simpa [Dk.new] using h2, by simp [Dk.new]⟩
theorem new_bad (n : Int) (r : List HProp) (h : n < 1 ∨ 512 < n) :
    Fc prog E 21 [.int .i64 n].toArray r (fun v l' => v = .tuple #[.pointer none, .int .i64 2] ∧ l' = r) := by
  rcases h with h | h
  · have h1 : decide (n < 1) = true := by simp [h]
    refine Fc.of_body (c := ?c) Try.func21 ?hb Try.ntmps21 ?hl ?_
    case hb => exact rfl
    case hl => exact rfl
    refine J.seq ?_
    refine J.region ?_
    refine JL.step (y_assign rfl) rfl rfl rfl (JL.step (y_assign rfl) rfl rfl rfl ?_)
    refine JL.nil ?_
    refine JE.then_normal ?_
    refine J.seq ?_
    refine J.seq ?_
    refine J.region ?_
    refine JL.step (y_move rfl) rfl rfl rfl (JL.step (y_lss rfl rfl) rfl rfl rfl (JL.step (y_move rfl) rfl rfl rfl ?_))
    all_goals (first | (refine JL.gsplit_dec rfl rfl rfl (fun h => ?_) (fun h => ?_) <;> try (first | (exfalso; omega) | exact absurd rfl h)) | (refine JL.gsplit rfl rfl rfl (fun h => ?_) (fun h => ?_) <;> try (first | cases h | (exfalso; simp at h; done))) | skip)
    all_goals (first | refine JL.gskip rfl rfl rfl rfl rfl rfl ?_ | refine JL.gskipU rfl rfl rfl rfl rfl ?_ | refine JL.gstep rfl rfl rfl (y_move rfl) rfl rfl ?_)
    all_goals (first | refine JL.gskip rfl rfl rfl rfl rfl rfl ?_ | refine JL.gskipU rfl rfl rfl rfl rfl ?_ | refine JL.gstep rfl rfl rfl (y_gtr rfl rfl) rfl rfl ?_)
    all_goals (refine JL.step (y_pick rfl rfl rfl) rfl rfl rfl ?_)
    all_goals refine JL.nil ?_
    all_goals refine JE.then_normal ?_
    all_goals
      refine J.cond_t rfl (by (first | rfl | assumption | (simp; done) | (simp; omega))) ?_
      refine J.seq ?_
      refine J.region ?_
      refine JL.step (y_assign rfl) rfl rfl rfl (JL.step (y_assign rfl) rfl rfl rfl ?_)
      refine JL.nil ?_
      refine JE.then_normal ?_
      refine J.ret ?_
      refine JE.then_ret ?_
      refine JE.ret2 (.inl rfl) rfl rfl (by (first | exact RV.tmp rfl | exact RV.cell1 hT rfl rfl rfl (by (exact Rd1.row (by (repeat (first | exact Pick.head | apply Pick.tail | apply Pick.app))) (by rfl))) | exact RV.cellN hT rfl rfl rfl (by (first | exact RdN.rowAll (by (repeat (first | exact Pick.head | apply Pick.tail | apply Pick.app))) | exact RdN.own (by (repeat (first | exact Pick.head | apply Pick.tail | apply Pick.app))))) (by (first | rfl | assumption | (simp; done) | omega)))) (by (first | exact RV.tmp rfl | exact RV.cell1 hT rfl rfl rfl (by (exact Rd1.row (by (repeat (first | exact Pick.head | apply Pick.tail | apply Pick.app))) (by rfl))) | exact RV.cellN hT rfl rfl rfl (by (first | exact RdN.rowAll (by (repeat (first | exact Pick.head | apply Pick.tail | apply Pick.app))) | exact RdN.own (by (repeat (first | exact Pick.head | apply Pick.tail | apply Pick.app))))) (by (first | rfl | assumption | (simp; done) | omega)))) ?_
      exact ⟨rfl, rfl⟩
  · have h1 : decide (n < 1) = false := by simp; omega
    have h2 : decide (512 < n) = true := by simp [h]
    refine Fc.of_body (c := ?c) Try.func21 ?hb Try.ntmps21 ?hl ?_
    case hb => exact rfl
    case hl => exact rfl
    refine J.seq ?_
    refine J.region ?_
    refine JL.step (y_assign rfl) rfl rfl rfl (JL.step (y_assign rfl) rfl rfl rfl ?_)
    refine JL.nil ?_
    refine JE.then_normal ?_
    refine J.seq ?_
    refine J.seq ?_
    refine J.region ?_
    refine JL.step (y_move rfl) rfl rfl rfl (JL.step (y_lss rfl rfl) rfl rfl rfl (JL.step (y_move rfl) rfl rfl rfl ?_))
    all_goals (first | (refine JL.gsplit_dec rfl rfl rfl (fun h => ?_) (fun h => ?_) <;> try (first | (exfalso; omega) | exact absurd rfl h)) | (refine JL.gsplit rfl rfl rfl (fun h => ?_) (fun h => ?_) <;> try (first | cases h | (exfalso; simp at h; done))) | skip)
    all_goals (first | refine JL.gskip rfl rfl rfl rfl rfl rfl ?_ | refine JL.gskipU rfl rfl rfl rfl rfl ?_ | refine JL.gstep rfl rfl rfl (y_move rfl) rfl rfl ?_)
    all_goals (first | refine JL.gskip rfl rfl rfl rfl rfl rfl ?_ | refine JL.gskipU rfl rfl rfl rfl rfl ?_ | refine JL.gstep rfl rfl rfl (y_gtr rfl rfl) rfl rfl ?_)
    all_goals (refine JL.step (y_pick rfl rfl rfl) rfl rfl rfl ?_)
    all_goals refine JL.nil ?_
    all_goals refine JE.then_normal ?_
    all_goals
      refine J.cond_t rfl (by (first | rfl | assumption | (simp; done) | (simp; omega))) ?_
      refine J.seq ?_
      refine J.region ?_
      refine JL.step (y_assign rfl) rfl rfl rfl (JL.step (y_assign rfl) rfl rfl rfl ?_)
      refine JL.nil ?_
      refine JE.then_normal ?_
      refine J.ret ?_
      refine JE.then_ret ?_
      refine JE.ret2 (.inl rfl) rfl rfl (by (first | exact RV.tmp rfl | exact RV.cell1 hT rfl rfl rfl (by (exact Rd1.row (by (repeat (first | exact Pick.head | apply Pick.tail | apply Pick.app))) (by rfl))) | exact RV.cellN hT rfl rfl rfl (by (first | exact RdN.rowAll (by (repeat (first | exact Pick.head | apply Pick.tail | apply Pick.app))) | exact RdN.own (by (repeat (first | exact Pick.head | apply Pick.tail | apply Pick.app))))) (by (first | rfl | assumption | (simp; done) | omega)))) (by (first | exact RV.tmp rfl | exact RV.cell1 hT rfl rfl rfl (by (exact Rd1.row (by (repeat (first | exact Pick.head | apply Pick.tail | apply Pick.app))) (by rfl))) | exact RV.cellN hT rfl rfl rfl (by (first | exact RdN.rowAll (by (repeat (first | exact Pick.head | apply Pick.tail | apply Pick.app))) | exact RdN.own (by (repeat (first | exact Pick.head | apply Pick.tail | apply Pick.app))))) (by (first | rfl | assumption | (simp; done) | omega)))) ?_
      exact ⟨rfl, rfl⟩
theorem new_good (n : Nat) (r : List HProp) (h1 : 1 ≤ n) (h2 : n ≤ 512) :
    Fc prog E 21 [.int .i64 (n : Int)].toArray r (fun v l' => ∃ d, v = .tuple #[.pointer (some ⟨d, 0, none⟩), .int .i64 0] ∧ l' = disk d (Dk.new n) :: r) := by
  refine Fc.post ?_
  have e1 : decide ((n : Int) < 1) = false := by simp; omega
  have e2 : decide (512 < (n : Int)) = false := by simp; omega
  refine Fc.of_body (c := ?c) Try.func21 ?hb Try.ntmps21 ?hl ?_
  case hb => exact rfl
  case hl => exact rfl
  refine J.seq ?_
  refine J.region ?_
  refine JL.step (y_assign rfl) rfl rfl rfl (JL.step (y_assign rfl) rfl rfl rfl ?_)
  refine JL.nil ?_
  refine JE.then_normal ?_
  refine J.seq ?_
  refine J.seq ?_
  refine J.region ?_
  refine JL.step (y_move rfl) rfl rfl rfl (JL.step (y_lss rfl rfl) rfl rfl rfl (JL.step (y_move rfl) rfl rfl rfl ?_))
  all_goals (first | (refine JL.gsplit_dec rfl rfl rfl (fun h => ?_) (fun h => ?_) <;> try (first | (exfalso; omega) | exact absurd rfl h)) | (refine JL.gsplit rfl rfl rfl (fun h => ?_) (fun h => ?_) <;> try (first | cases h | (exfalso; simp at h; done))) | skip)
  all_goals (first | refine JL.gskip rfl rfl rfl rfl rfl rfl ?_ | refine JL.gskipU rfl rfl rfl rfl rfl ?_ | refine JL.gstep rfl rfl rfl (y_move rfl) rfl rfl ?_)
  all_goals (first | refine JL.gskip rfl rfl rfl rfl rfl rfl ?_ | refine JL.gskipU rfl rfl rfl rfl rfl ?_ | refine JL.gstep rfl rfl rfl (y_gtr rfl rfl) rfl rfl ?_)
  all_goals (refine JL.step (y_pick rfl rfl rfl) rfl rfl rfl ?_)
  all_goals refine JL.nil ?_
  all_goals refine JE.then_normal ?_
  all_goals
    refine J.cond_f rfl (by (first | rfl | assumption | (simp; done) | (simp; omega))) ?_
    refine J.skip ?_
  all_goals refine JE.then_normal ?_
  all_goals
    refine J.seq ?_
    refine J.region ?_
    refine JL.step (y_move rfl) rfl rfl rfl ?_
    refine JL.loud rfl (l_makeSlice hT rfl rfl rfl rfl rfl rfl (by (first | omega | exact Nat.le_of_ble_eq_true rfl | decide | (simp; omega))) (by (first | omega | exact Nat.le_of_ble_eq_true rfl | decide | (simp; omega))) (mk_fits rfl (by (first | omega | exact Nat.le_of_ble_eq_true rfl | decide | (simp; omega))) (by (first | omega | exact Nat.le_of_ble_eq_true rfl | decide | (simp; omega)))) (by (first | omega | exact Nat.le_of_ble_eq_true rfl | decide | (simp; omega))) rfl (fun b1 => ?_))
    refine JL.step (y_build (cs := [_, _, _, _, _, _]) hT rfl rfl rfl rfl rfl rfl ⟨⟨(by (first | rfl | assumption | (simp; done) | omega)), Nat.le_of_ble_eq_true rfl⟩, trivial⟩ rfl) rfl rfl rfl ?_
    refine JL.loud rfl (l_box rfl (by (first | rfl | simp)) rfl (fun b2 => ?_))
    refine JL.step (y_assign rfl) rfl rfl rfl (JL.step (y_assign rfl) rfl rfl rfl ?_)
    refine JL.nil ?_
    refine JE.then_normal ?_
    refine J.ret ?_
    refine JE.ret2 (.inl rfl) rfl rfl (by (first | exact RV.tmp rfl | exact RV.cell1 hT rfl rfl rfl (by (exact Rd1.row (by (repeat (first | exact Pick.head | apply Pick.tail | apply Pick.app))) (by rfl))) | exact RV.cellN hT rfl rfl rfl (by (first | exact RdN.rowAll (by (repeat (first | exact Pick.head | apply Pick.tail | apply Pick.app))) | exact RdN.own (by (repeat (first | exact Pick.head | apply Pick.tail | apply Pick.app))))) (by (first | rfl | assumption | (simp; done) | omega)))) (by (first | exact RV.tmp rfl | exact RV.cell1 hT rfl rfl rfl (by (exact Rd1.row (by (repeat (first | exact Pick.head | apply Pick.tail | apply Pick.app))) (by rfl))) | exact RV.cellN hT rfl rfl rfl (by (first | exact RdN.rowAll (by (repeat (first | exact Pick.head | apply Pick.tail | apply Pick.app))) | exact RdN.own (by (repeat (first | exact Pick.head | apply Pick.tail | apply Pick.app))))) (by (first | rfl | assumption | (simp; done) | omega)))) ?_
    refine ⟨_, fun w q => ?_, b2, rfl, rfl⟩
    refine disk_shut (sa := some ⟨b1, 0, none⟩) (sc := n) (pa := none) (pc := 0) (Dk.new_ok h1 h2) ?_
    have e1 : (madeCells (Value.agg (List.replicate 64 (Value.int .u8 0)).toArray).cells ((n : Int).toNat * i27.size)).toList = (Dk.new n).safe.flatMap encB := by
      rw [Dk.new]
      dsimp only
      rw [flatMap_rep encB zeroB _ encB_zero n]
      exact madeCells_rep _ (by omega) _
    rw [e1] at q
    have hl := seg_len (k := 64) (Dk.new_ok h1 h2).segB
    have q1 := (q.pick (Pick.tail Pick.head)).ownAll (m := n) (size := 64) (by unfold maxLen; omega) (by rw [hl]; simp [Dk.new])
    have q2 := (q1.own_nil (e := 113) (size := 65)).sup (p := [row b2 102 _, own 27 64 _ _ _, own 113 65 _ _ _] ++ r) (by (repeat (first | exact Sup.refl | apply Sup.cons (by (repeat (first | exact Pick.head | apply Pick.tail | apply Pick.app))) | apply Sup.app | apply Sup.skip | apply Sup.skips)))
    simpa [dcells, Dk.new] using q2
theorem pending_spec (d : Nat) (D : Dk) (r : List HProp) (hpn : D.pending.length ≤ 1000000) :
    Fc prog E 33 [Value.pointer (some ⟨d, 0, none⟩)].toArray (disk d D :: r)
      (fun v l' => ∃ a c, v = .slice a D.pending.length c ∧ l' = disk d D :: own 3 1 v D.pending.length (D.pending.map fun p => Value.int .i64 p.1) :: r) := by
  refine Fc.post ?_
  refine Fc.of_body (c := ?c) Try.func33 ?hb Try.ntmps33 ?hl ?_
  case hb => exact rfl
  case hl => exact rfl
  refine J.seq ?_
  refine J.region ?_
  refine JL.step (y_assign rfl) rfl rfl rfl ?_
  refine JL.nil ?_
  refine JE.then_normal ?_
  refine J.seq ?_
  refine J.seq ?_
  refine J.region ?_
  refine JL.step (y_move rfl) rfl rfl rfl (JL.step (y_ptr_eq_nil hT rfl rfl rfl rfl) rfl rfl rfl ?_)
  refine JL.nil ?_
  refine JE.then_normal ?_
  refine J.cond_f rfl (by (first | rfl | assumption | (simp; done) | (simp; omega))) ?_
  refine J.skip ?_
  refine JE.then_normal ?_
  refine J.seq ?_
  refine J.region ?_
  refine JL.step (y_assign rfl) rfl rfl rfl ?_
  refine JL.nil ?_
  refine JE.then_normal ?_
  refine J.seq ?_
  refine J.seq ?_
  refine J.disk fun sa sc pa pc hok => ?_
  refine J.picks (Pick.tail (Pick.tail Pick.head)) (J.own_addr fun gp hgp hpc => ?_)
  refine J.region ?_
  refine JL.step (y_move rfl) rfl rfl rfl ?_
  refine JL.step ((by first | exact y_nilCheck rfl | exact y_nilCheckF rfl | exact y_nilCheckY rfl)) rfl rfl rfl ?_
  refine JL.step (y_fieldAddr hT rfl rfl rfl rfl rfl rfl) rfl rfl rfl ?_
  refine JL.step (y_load1 hT rfl rfl rfl (by (exact Rd1.row (by (repeat (first | exact Pick.head | apply Pick.tail | apply Pick.app))) (by rfl)))) rfl rfl rfl ?_
  refine JL.step (y_len_slice hT rfl rfl rfl) rfl rfl rfl (JL.step (y_move rfl) rfl rfl rfl ?_)
  refine JL.nil ?_
  refine JE.then_normal ?_
  refine J.block ?_
  refine J.loop (α := Nat × Value) (fun s => s.1 ≤ D.pending.length ∧ ∃ a c, s.2 = .slice a s.1 c) (fun s => [(3, s.2), (11, .slice pa D.pending.length pc), (12, .int .i64 D.pending.length), (13, .int .i64 s.1)]) (fun s => own 3 1 s.2 s.1 ((D.pending.take s.1).map fun p => Value.int .i64 p.1) :: own 113 65 (.slice pa D.pending.length pc) D.pending.length (D.pending.flatMap encW) :: own 27 64 (.slice sa D.safe.length sc) D.safe.length (D.safe.flatMap encB) :: row d 102 (dcells D sa sc pa pc) :: r) (fun s => D.pending.length - s.1) (0, .slice none 0 0) ⟨by simp, _, _, rfl⟩ ⟨rfl, rfl, rfl, rfl, trivial⟩ (fun w h => h.own_nil.sup (by (repeat (first | exact Sup.refl | apply Sup.cons (by (repeat (first | exact Pick.head | apply Pick.tail | apply Pick.app))) | apply Sup.app | apply Sup.skip | apply Sup.skips)))) ?_
  rintro ⟨j, v⟩ ⟨hj, hv⟩
  dsimp only at hj hv ⊢
  refine J.seq ?_
  refine J.region ?_
  refine JL.step (y_lss rfl rfl) rfl rfl rfl ?_
  refine JL.nil ?_
  refine JE.then_normal ?_
  refine J.seq ?_
  first | apply J.cond_dec rfl | apply J.cond rfl
  case' ht =>
    intro h
    try (first | (exfalso; omega) | (cases h; done) | (exfalso; simp at h; done) | subst h)
    all_goals
      refine J.skip ?_
  case' hf =>
    intro h
    try (first | (exfalso; omega) | (cases h; done) | (exfalso; simp at h; done) | subst h)
    all_goals
      refine J.exit ?_
      refine JE.then_exit ?_
      refine JE.then_exit ?_
      refine JE.block_exit ?_
      refine JE.then_normal ?_
      refine J.seq ?_
      refine J.region ?_
      refine JL.step (y_move rfl) rfl rfl rfl (JL.step (y_assign rfl) rfl rfl rfl ?_)
      refine JL.nil ?_
      refine JE.then_normal ?_
      refine J.ret ?_
      refine JE.ret1 (.inl rfl) rfl rfl (by (first | exact RV.tmp rfl | exact RV.cell1 hT rfl rfl rfl (by (exact Rd1.row (by (repeat (first | exact Pick.head | apply Pick.tail | apply Pick.app))) (by rfl))) | exact RV.cellN hT rfl rfl rfl (by (first | exact RdN.rowAll (by (repeat (first | exact Pick.head | apply Pick.tail | apply Pick.app))) | exact RdN.own (by (repeat (first | exact Pick.head | apply Pick.tail | apply Pick.app))))) (by (first | rfl | assumption | (simp; done) | omega)))) ?_
      obtain rfl : j = D.pending.length := by omega
      obtain ⟨a, c, rfl⟩ := hv
      refine ⟨_, fun w q => ?_, a, c, rfl, rfl⟩
      rw [List.take_length] at q
      exact disk_shut hok (q.sup (by (repeat (first | exact Sup.refl | apply Sup.cons (by (repeat (first | exact Pick.head | apply Pick.tail | apply Pick.app))) | apply Sup.app | apply Sup.skip | apply Sup.skips))))
  all_goals refine JE.then_normal ?_
  all_goals
    refine J.seq ?_
    refine J.block ?_
    refine J.seq ?_
    refine J.region ?_
    have hlt : j < D.pending.length := by omega
    obtain rfl := hgp (by omega)
    obtain ⟨p, hp⟩ : ∃ p, D.pending[j]? = some p := ⟨_, List.getElem?_eq_getElem hlt⟩
    have hWl := hok.segW p (List.mem_of_getElem? hp)
    refine JL.step (y_indexAddr_slice hT rfl rfl rfl rfl rfl (by (first | omega | exact Nat.le_of_ble_eq_true rfl | decide | (simp; omega))) (by (first | omega | exact Nat.le_of_ble_eq_true rfl | decide | (simp; omega)))) rfl rfl rfl ?_
    refine JL.step (y_loadN hT rfl rfl rfl ((RdN.own (by (repeat (first | exact Pick.head | apply Pick.tail | apply Pick.app)))).elem hok.segW hp) hWl) rfl rfl rfl ?_
    refine JL.loud rfl (l_alloc hT rfl rfl (by (first | rfl | simp)) rfl (fun b1 => ?_))
    refine JL.loud rfl (l_storeAll hT rfl rfl rfl (by (first | rfl | assumption | (simp; done) | omega)) (by (first | assumption | exact ones_of rfl | exact encW_one _ | exact encB_one _ | (intro u hu; simp at hu; rcases hu with rfl | rfl <;> rfl) | (intro u hu; simp at hu; subst hu; rfl) | simp)) (by (repeat (first | exact Pick.head | apply Pick.tail | apply Pick.app))) (by (first | rfl | assumption | (simp; done) | omega)) ?_)
    refine JL.nil ?_
    refine JE.then_normal ?_
    refine J.region ?_
    refine JL.step (y_move rfl) rfl rfl rfl (JL.step (y_fieldAddr hT rfl rfl rfl rfl rfl rfl) rfl rfl rfl ?_)
    refine JL.step (y_load1 hT rfl rfl rfl (by (exact Rd1.row (by (repeat (first | exact Pick.head | apply Pick.tail | apply Pick.app))) (by rfl)))) rfl rfl rfl ?_
    refine JL.loud rfl (l_buildSliceP hT rfl rfl rfl rfl rfl rfl rfl (by (first | exact fill_one rfl (by first | assumption | rfl | (simp; done)) | rfl | simp)) rfl (fun b3 => ?_))
    refine JL.loud rfl (l_append hT rfl rfl rfl rfl rfl rfl rfl rfl (by (repeat (first | exact Pick.head | apply Pick.tail | apply Pick.app))) (by (first | exact RdN.rowAll (by (repeat (first | exact Pick.head | apply Pick.tail | apply Pick.app))) | exact RdN.own (by (repeat (first | exact Pick.head | apply Pick.tail | apply Pick.app))))) (by (first | rfl | assumption | (simp; done) | omega)) (by (first | assumption | exact ones_of rfl | exact encW_one _ | exact encB_one _ | (intro u hu; simp at hu; rcases hu with rfl | rfl <;> rfl) | (intro u hu; simp at hu; subst hu; rfl) | simp)) (by (exact Nat.le_trans (Nat.mul_le_mul_left _ (Nat.le_of_ble_eq_true rfl : _ ≤ 4096)) (by omega))) (by (first | omega | exact Nat.le_of_ble_eq_true rfl | decide | (simp; omega))) rfl (fun ab4 cb4 hb4 => ?_))
    refine JL.step (y_assign rfl) rfl rfl rfl ?_
    refine JL.nil ?_
    refine JE.block_normal ?_
    refine JE.then_normal ?_
    refine J.region ?_
    refine JL.step (y_add rfl rfl (by (first | exact wrap_i64 (by omega) (by omega) | rfl))) rfl rfl rfl ?_
    refine JL.step (y_move rfl) rfl rfl rfl ?_
    refine JL.nil ?_
  all_goals
    refine JE.round (s := (j, v)) (j + 1, _) ⟨by dsimp only; omega, _, _, rfl⟩ ⟨rfl, rfl, rfl, rfl, trivial⟩ (fun w q => ?_) (by dsimp only; omega)
    have e : (D.pending.take (j + 1)).map (fun p => Value.int .i64 p.1) = (D.pending.take j).map (fun p => Value.int .i64 p.1) ++ [Value.int .i64 p.1] := by
      rw [List.take_add_one, hp]; simp
    rw [e]
    exact q.sup (by (repeat (first | exact Sup.refl | apply Sup.cons (by (repeat (first | exact Pick.head | apply Pick.tail | apply Pick.app))) | apply Sup.app | apply Sup.skip | apply Sup.skips)))
/-- Crash. -/
def bitAt (bs : List Bool) (i : Nat) : Bool := bs.getD i false
def Dk.crash (D : Dk) (bs : List Bool) : Dk := { D.settle (bitAt bs) with dead := false, armed := false }
theorem Dk.Ok.crash {D : Dk} (h : D.Ok) (bs : List Bool) : (D.crash bs).Ok := ⟨(h.settle (bitAt bs)).safe, (h.settle (bitAt bs)).pend, (h.settle (bitAt bs)).some, (h.settle (bitAt bs)).most, (h.settle (bitAt bs)).left⟩
theorem crash1_spec (b i : Nat) (p : Option Addr) (cap : Nat) (bs : List Bool) (m r : List HProp) (hi : i ≤ 1000000) (hin : InL r p bs.length cap (bs.map Value.bool)) :
    Fc prog E 67 [Value.int .i64 (i : Int), .pointer (some ⟨b, 0, none⟩)].toArray (m ++ row b 30 [.slice p bs.length cap] :: r) (fun v l' => v = .bool (bitAt bs i) ∧ l' = m ++ row b 30 [.slice p bs.length cap] :: r) := by
  have hp : Pick (m ++ row b 30 [.slice p bs.length cap] :: r) (row b 30 [.slice p bs.length cap]) (m ++ r) := Pick.app m Pick.head
  refine Fc.of_body (c := ?c) Try.func67 ?hb Try.ntmps67 ?hl ?_
  case hb => exact rfl
  case hl => exact rfl
  refine J.seq ?_
  refine J.region ?_
  refine JL.step (y_assign rfl) rfl rfl rfl ?_
  refine JL.nil ?_
  refine JE.then_normal ?_
  refine J.seq ?_
  refine J.region ?_
  refine JL.step (y_move rfl) rfl rfl rfl ?_
  refine JL.step (y_load1 hT rfl rfl rfl (Rd1.row hp rfl)) rfl rfl rfl ?_
  refine JL.step (y_len_slice hT rfl rfl rfl) rfl rfl rfl (JL.step (y_lss rfl rfl) rfl rfl rfl (JL.step (y_move rfl) rfl rfl rfl ?_))
  refine JL.gsplit_dec rfl rfl rfl (fun h => ?_) (fun h => ?_)
  all_goals (first | refine JL.gskip rfl rfl rfl rfl rfl rfl ?_ | refine JL.gstep rfl rfl rfl (y_load1 hT rfl rfl rfl (Rd1.row hp rfl)) rfl rfl ?_)
  all_goals (first | refine JL.gskip rfl rfl rfl rfl rfl rfl ?_ | refine JL.gskipU rfl rfl rfl rfl rfl ?_ | refine JL.gstep rfl rfl rfl (y_move rfl) rfl rfl ?_)
  all_goals (first | refine JL.gskip rfl rfl rfl rfl rfl rfl ?_ | (obtain ⟨g, o, rfl, hr⟩ := hin.addr (by omega); refine JL.gstep rfl rfl rfl (y_indexAddr_slice hT rfl rfl rfl rfl rfl (by (first | omega | exact Nat.le_of_ble_eq_true rfl | decide | (simp; omega))) (by (first | omega | exact Nat.le_of_ble_eq_true rfl | decide | (simp; omega)))) rfl rfl ?_))
  all_goals (first | refine JL.gskip rfl rfl rfl rfl rfl rfl ?_ | refine JL.gstep rfl rfl rfl (y_load1 hT rfl rfl rfl (v := .bool (bitAt bs i)) (by have := hr (m ++ [row b 30 [.slice (some ⟨g, o, none⟩) bs.length cap]]) i (.bool (bitAt bs i)) (by rw [List.getElem?_map, List.getElem?_eq_getElem (by omega)]; simp [bitAt, List.getD_eq_getElem?_getD, List.getElem?_eq_getElem (show i < bs.length by omega)]); rw [show i4.size = 1 from rfl, Nat.mul_one]; simpa using this)) rfl rfl ?_)
  all_goals (refine JL.step (y_pick rfl rfl rfl) rfl rfl rfl ?_)
  all_goals (refine JL.step (y_assign rfl) rfl rfl rfl ?_)
  all_goals refine JL.nil ?_
  all_goals refine JE.then_normal ?_
  all_goals
    refine J.ret ?_
    refine JE.ret1 (.inl rfl) rfl rfl (by (first | exact RV.tmp rfl | exact RV.cell1 hT rfl rfl rfl (by (exact Rd1.row (by (repeat (first | exact Pick.head | apply Pick.tail | apply Pick.app))) (by rfl))) | exact RV.cellN hT rfl rfl rfl (by (first | exact RdN.rowAll (by (repeat (first | exact Pick.head | apply Pick.tail | apply Pick.app))) | exact RdN.own (by (repeat (first | exact Pick.head | apply Pick.tail | apply Pick.app))))) (by (first | rfl | assumption | (simp; done) | omega)))) ?_
    refine ⟨?_, rfl⟩
    first
      | rfl
      | (have e : bitAt bs i = false := by simp [bitAt, List.getD_eq_getElem?_getD, List.getElem?_eq_none (show bs.length ≤ i by omega)]
         rw [e]; rfl)
theorem crash_spec (d : Nat) (D : Dk) (p : Option Addr) (cap : Nat) (bs : List Bool) (r : List HProp) (hin : InL r p bs.length cap (bs.map Value.bool)) (hpn : D.pending.length ≤ 1000000) :
    Fc prog E 34 [Value.pointer (some ⟨d, 0, none⟩), .slice p bs.length cap].toArray (disk d D :: r) (fun v l' => v = .int .i64 0 ∧ l' = disk d (D.crash bs) :: r) := by
  refine Fc.eqs ?_
  refine Fc.of_body (c := ?c) Try.func34 ?hb Try.ntmps34 ?hl ?_
  case hb => exact rfl
  case hl => exact rfl
  refine J.seq ?_
  refine J.region ?_
  refine JL.loud rfl (l_box rfl (by (first | rfl | simp)) rfl (fun b1 => ?_))
  refine JL.step (y_assign rfl) rfl rfl rfl ?_
  refine JL.nil ?_
  refine JE.then_normal ?_
  refine J.seq ?_
  refine J.seq ?_
  refine J.region ?_
  refine JL.step (y_move rfl) rfl rfl rfl (JL.step (y_ptr_eq_nil hT rfl rfl rfl rfl) rfl rfl rfl ?_)
  refine JL.nil ?_
  refine JE.then_normal ?_
  refine J.cond_f rfl (by (first | rfl | assumption | (simp; done) | (simp; omega))) ?_
  refine J.skip ?_
  refine JE.then_normal ?_
  refine J.seq ?_
  refine J.region ?_
  refine JL.step (y_move rfl) rfl rfl rfl (JL.step (y_makeFunc rfl rfl) rfl rfl rfl ?_)
  refine JL.loud rfl (l_callF e65 rfl rfl ((settle_spec E d D 67 e67 [_] _ (bitAt bs) hpn (fun m i hi => crash1_spec E b1 i p cap bs m r (by omega) hin)).split (Split.cons (by (repeat (first | exact Pick.head | apply Pick.tail | apply Pick.app))) (Split.cons (by (repeat (first | exact Pick.head | apply Pick.tail | apply Pick.app))) Split.nil))) ?_)
  rintro _ _ ⟨rfl, rfl⟩
  refine JL.nil ?_
  refine JE.then_normal ?_
  refine J.seq ?_
  refine J.disk fun sa sc pa pc hok => ?_
  refine J.region ?_
  refine JL.step (y_move rfl) rfl rfl rfl (JL.step (y_move rfl) rfl rfl rfl ?_)
  refine JL.step ((by first | exact y_nilCheck rfl | exact y_nilCheckF rfl | exact y_nilCheckY rfl)) rfl rfl rfl ?_
  refine JL.step (y_fieldAddr hT rfl rfl rfl rfl rfl rfl) rfl rfl rfl ?_
  refine JL.loud rfl (l_store1 hT rfl rfl rfl rfl rfl (by (repeat (first | exact Pick.head | apply Pick.tail | apply Pick.app))) (by (first | omega | exact Nat.le_of_ble_eq_true rfl | decide | (simp; omega))) ?_)
  refine JL.step ((by first | exact y_nilCheck rfl | exact y_nilCheckF rfl | exact y_nilCheckY rfl)) rfl rfl rfl ?_
  refine JL.step (y_fieldAddr hT rfl rfl rfl rfl rfl rfl) rfl rfl rfl ?_
  refine JL.loud rfl (l_store1 hT rfl rfl rfl rfl rfl (by (repeat (first | exact Pick.head | apply Pick.tail | apply Pick.app))) (by (first | omega | exact Nat.le_of_ble_eq_true rfl | decide | (simp; omega))) ?_)
  refine JL.nil ?_
  refine JE.then_normal ?_
  refine J.seq ?_
  refine J.region ?_
  refine JL.step (y_assign rfl) rfl rfl rfl ?_
  refine JL.nil ?_
  refine JE.then_normal ?_
  refine J.ret ?_
  refine JE.ret1 (.inl rfl) rfl rfl (by (first | exact RV.tmp rfl | exact RV.cell1 hT rfl rfl rfl (by (exact Rd1.row (by (repeat (first | exact Pick.head | apply Pick.tail | apply Pick.app))) (by rfl))) | exact RV.cellN hT rfl rfl rfl (by (first | exact RdN.rowAll (by (repeat (first | exact Pick.head | apply Pick.tail | apply Pick.app))) | exact RdN.own (by (repeat (first | exact Pick.head | apply Pick.tail | apply Pick.app))))) (by (first | rfl | assumption | (simp; done) | omega)))) ?_
  exact ⟨rfl, fun w q => disk_shut (D := D.crash bs) (sa := sa) (sc := sc) (pa := pa) (pc := pc) ⟨hok.safe, hok.pend, hok.some, hok.most, hok.left⟩ (q.sup (by (repeat (first | exact Sup.refl | apply Sup.cons (by (repeat (first | exact Pick.head | apply Pick.tail | apply Pick.app))) | apply Sup.app | apply Sup.skip | apply Sup.skips))))⟩
end Go.Proofs.Ytilifeeddpkclaa
