import Derived.Test.YtilifeeddpkclaaExt1
namespace Go.Proofs.Ytilifeeddpkclaa
open Go Go.SL
theorem encS_one (s : Sb) : ∀ u ∈ encS s, u.oneCell' = true := by
  intro u hu
  simp only [encS, List.mem_cons] at hu
  rcases hu with rfl | rfl | rfl | h
  · rfl
  · rfl
  · rfl
  · exact ints_one _ _ u h
attribute [local irreducible] J JL JE JM LS Y Fc RV Code.wp wpList Code.wpIn wpListIn
attribute [local irreducible] Yc
variable (E : World)
def sbRead (b : Blk) : Sb := ⟨IntKind.i64.wrap (b.getD 10 0), leG ((b.drop 12).take 8) 8, ((BitVec.ofInt 32 ((leG ((b.drop 20).take 4) 4).toNat : Int)).toNat : Int), (b.drop 24).take 16⟩
def sbOk (b : Blk) : Bool := decide ((sbRead b).place < 2) && decide (sbBlock (sbRead b) = b)
theorem read_super_spec (b : Blk) (l : List HProp) (hb : b.length = 64) :
    Fc prog E 79 [.agg (encB b).toArray].toArray l (fun v l' => v = .tuple #[.agg (encS (sbRead b)).toArray, .bool (sbOk b)] ∧ l' = l) := by
  refine Fc.eqs ?_
  have hbL : (encB b).length = 64 := (encB_length b).trans hb
  obtain ⟨bs, hbs⟩ : ∃ bs, b.drop 10 = bs := ⟨_, rfl⟩
  have hbsl : bs.length = 54 := by rw [← hbs, List.length_drop, hb]
  have hh16 : ((b.drop 24).take 16).length = 16 := by simp [hb]
  have hor : ∀ l' p cap, InL l' p 54 cap (ints .u8 bs) → Fc prog E 90 [.slice p 54 cap].toArray l' (fun v l'' => ∃ br g c, v = .pointer (some ⟨br, 0, none⟩) ∧ l'' = row br 163 (rcells (some ⟨g, 0, none⟩) bs.length c 0) :: own 5 1 (.slice (some ⟨g, 0, none⟩) bs.length c) bs.length (ints .u8 bs) :: l') := fun l' p cap h => by
    have q := octread_spec E p cap bs l' (by rwa [hbsl]) (by omega) (by omega)
    rw [hbsl] at q ⊢
    exact q
  have hob : ∀ bb l', (∃ r, Pick l' (row bb 27 (encB b)) r) → InL l' (some ⟨bb, 0 + 10 * 1, none⟩) 54 54 (ints .u8 bs) := fun bb l' ⟨r, hp⟩ => ⟨Nat.le_refl _, by decide, .inl ⟨bb, 10, rfl, fun m => RdN.row (n := 54) (Pick.app m hp) (by
    have e : (encB b).drop 10 = ints .u8 bs := by rw [← hbs]; simp [encB, ints]
    rw [e, List.take_of_length_le (by simp [ints, hbsl])])⟩⟩
  refine Fc.of_body (c := ?c) Try.func79 ?hb Try.ntmps79 ?hl ?_
  case hb => exact rfl
  case hl => exact rfl
  refine J.seq ?_
  refine J.region ?_
  refine JL.loud rfl (l_box rfl (by (first | rfl | simp)) rfl (fun bb => ?_))
  refine JL.loud rfl (l_alloc hT rfl rfl (by (first | rfl | simp)) rfl (fun b1 => ?_))
  refine JL.step (y_assign rfl) rfl rfl rfl ?_
  refine JL.nil ?_
  refine JE.then_normal ?_
  refine J.seq ?_
  refine J.region ?_
  refine JL.step (y_slice_arr hT rfl rfl rfl rfl (.inr ⟨_, _, _, rfl, rfl, (by (first | rfl | simp))⟩) (.inl ⟨rfl, rfl⟩) (by (first | omega | exact Nat.le_of_ble_eq_true rfl | decide | (simp; omega))) (by (first | omega | exact Nat.le_of_ble_eq_true rfl | decide | (simp; omega)))) rfl rfl rfl ?_
  refine JL.loud rfl (l_callF e90 rfl rfl (hor _ _ _ (hob bb _ ⟨_, by (repeat (first | exact Pick.head | apply Pick.tail | apply Pick.app))⟩)) ?_)
  rintro _ _ ⟨br, g, c, rfl, rfl⟩
  refine JL.step (y_assign rfl) rfl rfl rfl ?_
  refine JL.nil ?_
  refine JE.then_normal ?_
  refine J.seq ?_
  refine J.region ?_
  refine JL.step (y_move rfl) rfl rfl rfl ?_
  refine JL.loud rfl (l_callF e91 rfl rfl (octRaw_spec E br g c 0 2 bs _ (by omega) (by omega) (by omega)) ?_)
  rintro _ _ ⟨a5, c5, rfl, rfl⟩
  refine JL.step (y_assign rfl) rfl rfl rfl ?_
  refine JL.nil ?_
  refine JE.then_normal ?_
  refine J.seq ?_
  refine J.fact (fun w s => Sat.own_at (a := a5) (k := 2) (s.pick (by (repeat (first | exact Pick.head | apply Pick.tail | apply Pick.app))))) fun o5 => ?_
  obtain ⟨g5, rfl⟩ := o5.at_.resolve_right (fun ⟨h0, _⟩ => by have := o5.le; omega)
  refine J.draw _ _ [(0, .q), (1, .q), (2, .q), (3, .q), (4, .q), (6, .q), (5, .l), (7, .l), (8, .q), (9, .q), (10, .n), (11, .l)] mixed (by kernel_rfl) (Split.cons (Pick.tail Pick.head) (Split.cons (Pick.tail Pick.head) (Split.nil))) ?_
  refine JM.quiet rfl rfl rfl rfl (fun m => y_move rfl) ?_
  refine JM.quiet rfl rfl rfl rfl (fun m => y_indexAddr_slice hT rfl rfl rfl rfl rfl (by (first | omega | exact Nat.le_of_ble_eq_true rfl | decide | (simp; omega))) (by (first | omega | exact Nat.le_of_ble_eq_true rfl | decide | (simp; omega)))) ?_
  refine JM.quiet rfl rfl rfl rfl (fun m => y_load1 hT rfl rfl rfl (Rd1.bytesAt (j := 0) (RdN.own (Pick.app m (by (repeat (first | exact Pick.head | apply Pick.tail | apply Pick.app))))) (by simp [hbsl]) rfl)) ?_
  refine JM.quiet rfl rfl rfl rfl (fun m => y_conv hT rfl rfl rfl rfl (by (first | exact wrap_i64 (by omega) (by omega) | rfl))) ?_
  refine JM.quiet rfl rfl rfl rfl (fun m => y_move rfl) ?_
  refine JM.quiet rfl rfl rfl rfl (fun m => y_move rfl) ?_
  refine JM.loud rfl rfl (fun fr => l_callF e92 rfl rfl (Fc.on (Split.cons (by (repeat (first | exact Pick.head | apply Pick.tail | apply Pick.app))) (Split.cons (by (repeat (first | exact Pick.head | apply Pick.tail | apply Pick.app))) Split.nil)) (u64_spec E br g c 2 bs _ (by omega) (by omega))) ?_)
  rintro _ _ ⟨rfl, rfl⟩
  refine ⟨[_, _], (by (repeat (first | exact Split.nil | exact Split.all | refine Split.cons Pick.head ?_))), ?_⟩
  refine JM.loud rfl rfl (fun fr => l_callF e93 rfl rfl (Fc.on (Split.cons (by (repeat (first | exact Pick.head | apply Pick.tail | apply Pick.app))) (Split.cons (by (repeat (first | exact Pick.head | apply Pick.tail | apply Pick.app))) Split.nil)) (u32_spec E br g c 10 bs _ (by omega) (by omega))) ?_)
  rintro _ _ ⟨rfl, rfl⟩
  refine ⟨[_, _], (by (repeat (first | exact Split.nil | exact Split.all | refine Split.cons Pick.head ?_))), ?_⟩
  refine JM.quiet rfl rfl rfl rfl (fun m => y_conv hT rfl rfl rfl rfl (wrap_i64 (by omega) (by have := (BitVec.ofInt 32 ((leG ((bs.drop 10).take 4) 4).toNat : Int)).isLt; omega))) ?_
  refine JM.quiet rfl rfl rfl rfl (fun m => y_build (cs := [_, _, _, _, _, _, _, _, _, _, _, _, _, _, _, _, _, _, _]) hT rfl rfl rfl rfl rfl rfl ⟨⟨(by (first | rfl | assumption | (simp; done) | omega)), Nat.le_of_ble_eq_true rfl⟩, ⟨⟨(by (first | rfl | assumption | (simp; done) | omega)), Nat.le_of_ble_eq_true rfl⟩, ⟨⟨(by (first | rfl | assumption | (simp; done) | omega)), Nat.le_of_ble_eq_true rfl⟩, trivial⟩⟩⟩ rfl) ?_
  refine JM.lay rfl rfl rfl rfl (fun a hf => lays_alloc hT rfl rfl (by (first | rfl | simp))) (fun b6 => ?_)
  refine JM.loud rfl rfl (fun fr => l_storeAll hT rfl rfl rfl (by (first | rfl | assumption | (simp; done) | omega)) (by (first | assumption | exact ones_of rfl | exact encW_one _ | exact encB_one _ | (intro u hu; simp at hu; rcases hu with rfl | rfl <;> rfl) | (intro u hu; simp at hu; subst hu; rfl) | simp)) (by (repeat (first | exact Pick.head | apply Pick.tail | apply Pick.app))) (by (first | rfl | assumption | (simp; done) | omega)) (⟨[_, _, _], (by (repeat (first | exact Split.nil | exact Split.all | refine Split.cons Pick.head ?_))), ?_⟩))
  refine JM.nil ?_
  refine JE.then_normal ?_
  refine J.seq ?_
  refine J.draw _ _ [(0, .q), (1, .q), (2, .q), (3, .l), (4, .l)] mixed (by kernel_rfl) (Split.cons (Pick.head) (Split.cons (Pick.head) (Split.cons (Pick.head) (Split.nil)))) ?_
  refine JM.quiet rfl rfl rfl rfl (fun m => y_fieldAddr hT rfl rfl rfl rfl rfl rfl) ?_
  refine JM.quiet rfl rfl rfl rfl (fun m => y_slice_arr hT rfl rfl rfl rfl (.inl ⟨rfl, rfl⟩) (.inl ⟨rfl, rfl⟩) (by (first | omega | exact Nat.le_of_ble_eq_true rfl | decide | (simp; omega))) (by (first | omega | exact Nat.le_of_ble_eq_true rfl | decide | (simp; omega)))) ?_
  refine JM.quiet rfl rfl rfl rfl (fun m => y_move rfl) ?_
  refine JM.loud rfl rfl (fun fr => l_callF e91 rfl rfl (Fc.on (Split.cons (by (repeat (first | exact Pick.head | apply Pick.tail | apply Pick.app))) (Split.cons (by (repeat (first | exact Pick.head | apply Pick.tail | apply Pick.app))) Split.nil)) (octRaw_spec E br g c 14 16 bs _ (by omega) (by omega) (by omega))) ?_)
  rintro _ _ ⟨a6, c6, rfl, rfl⟩
  refine ⟨[_, _, _, _], (by (repeat (first | exact Split.nil | exact Split.all | refine Split.cons Pick.head ?_))), ?_⟩
  refine JM.loud rfl rfl (fun fr => LS.fact (fun w s => Sat.own_at (a := a6) (k := 16) (s.pick (by (repeat (first | exact Pick.head | apply Pick.tail | apply Pick.app))))) fun o6 => l_copy (sLen := 16) (dLen := 16) (off := 3) hT rfl rfl rfl rfl rfl rfl (by (repeat (first | exact Pick.head | apply Pick.tail | apply Pick.app))) (o6.inl (by (repeat (first | exact Pick.head | apply Pick.tail | apply Pick.app)))) (by simp [ints, hbsl]) (Nat.le_of_ble_eq_true rfl) (ints_one _ _) rfl ⟨[_, _, _, _], (by (repeat (first | exact Split.nil | exact Split.all | refine Split.cons Pick.head ?_))), ?_⟩)
  refine JM.nil ?_
  refine JE.then_normal ?_
  refine J.seq ?_
  have hpl : ((bs.drop 0).take 2).getD 0 0 = b.getD 10 0 := by rw [← hbs]; simp [List.getD_eq_getElem?_getD, hb]
  have htu : bs.drop 2 = b.drop 12 := by rw [← hbs, List.drop_drop]
  have hsz : bs.drop 10 = b.drop 20 := by rw [← hbs, List.drop_drop]
  have hha : bs.drop 14 = b.drop 24 := by rw [← hbs, List.drop_drop]
  rw [hpl, htu, hsz, hha]
  refine J.picks (A := row b6 122 _) (by (repeat (first | exact Pick.head | apply Pick.tail | apply Pick.app))) (J.row_eq (encS (sbRead b)) (by simp [encS, sbRead, ints, List.take_of_length_le, hb]) ?_)
  have hS19 : (encS (sbRead b)).length = 19 := by simp [encS, ints, sbRead, hb]
  have hS1 := encS_one (sbRead b)
  have hbk : (encB (sbBlock (sbRead b))).length = 64 := (encB_length _).trans (sbBlock_length hh16)
  refine J.draw _ _ [(0, .q), (1, .q), (2, .q), (3, .q), (4, .q), (5, .q), (6, .q), (7, .q), (8, .q), (9, .q), (10, .l), (11, .q)] mixed (by kernel_rfl) (Split.cons (Pick.tail (Pick.tail (Pick.tail (Pick.tail (Pick.tail Pick.head))))) (Split.nil)) ?_
  by_cases hpl2 : (sbRead b).place < 2
  all_goals refine JM.quiet rfl rfl rfl rfl (fun m => y_loadN hT rfl rfl rfl (RdN.rowAll (Pick.app m (by (repeat (first | exact Pick.head | apply Pick.tail | apply Pick.app))))) hS19) ?_
  all_goals refine JM.quiet rfl rfl rfl rfl (fun m => y_fieldAddr hT rfl rfl rfl rfl rfl rfl) ?_
  all_goals refine JM.quiet rfl rfl rfl rfl (fun m => y_load1 hT rfl rfl rfl (Rd1.row (Pick.app m (by (repeat (first | exact Pick.head | apply Pick.tail | apply Pick.app)))) (by rfl))) ?_
  all_goals (first | refine JM.quiet rfl rfl rfl rfl (fun m => y_lssB rfl rfl (decide_eq_true hpl2)) ?_ | refine JM.quiet rfl rfl rfl rfl (fun m => y_lssB rfl rfl (decide_eq_false hpl2)) ?_)
  all_goals refine JM.quiet rfl rfl rfl rfl (fun m => y_move rfl) ?_
  all_goals (first | refine JM.gskip rfl rfl rfl rfl rfl rfl rfl ?_ | refine JM.gskipU rfl rfl rfl rfl rfl rfl ?_ | refine JM.gquiet rfl rfl rfl rfl rfl rfl (fun m => y_loadN hT rfl rfl rfl (by (first | exact RdN.rowAll (Pick.app m (by (repeat (first | exact Pick.head | apply Pick.tail | apply Pick.app)))) | exact RdN.own (Pick.app m (by (repeat (first | exact Pick.head | apply Pick.tail | apply Pick.app)))))) (by (first | rfl | assumption | (simp; done) | omega))) ?_)
  all_goals (first | refine JM.gskip rfl rfl rfl rfl rfl rfl rfl ?_ | refine JM.gskipU rfl rfl rfl rfl rfl rfl ?_ | refine JM.gquiet rfl rfl rfl rfl rfl rfl (fun m => y_callF e71 rfl (block_super_spec E (sbRead b) _ hh16)) ?_)
  all_goals (first | refine JM.gskip rfl rfl rfl rfl rfl rfl rfl ?_ | refine JM.gskipU rfl rfl rfl rfl rfl rfl ?_ | refine JM.gquiet rfl rfl rfl rfl rfl rfl (fun m => y_loadN hT rfl rfl rfl (by (first | exact RdN.rowAll (Pick.app m (by (repeat (first | exact Pick.head | apply Pick.tail | apply Pick.app)))) | exact RdN.own (Pick.app m (by (repeat (first | exact Pick.head | apply Pick.tail | apply Pick.app)))))) (by (first | rfl | assumption | (simp; done) | omega))) ?_)
  all_goals (first | refine JM.gskip rfl rfl rfl rfl rfl rfl rfl ?_ | refine JM.gquiet rfl rfl rfl rfl rfl rfl (fun m => y_arr_eq (xs := sbBlock (sbRead b)) (ys := b) hT rfl rfl rfl rfl rfl rfl rfl (sbBlock_length hh16) hb) ?_)
  all_goals refine JM.quiet rfl rfl rfl rfl (fun m => y_pick rfl rfl rfl) ?_
  all_goals refine JM.loud rfl rfl (fun fr => l_storeAll hT rfl rfl rfl (by (first | rfl | assumption | (simp; done) | omega)) (by (first | assumption | exact ones_of rfl | exact encW_one _ | exact encB_one _ | (intro u hu; simp at hu; rcases hu with rfl | rfl <;> rfl) | (intro u hu; simp at hu; subst hu; rfl) | simp)) (by (repeat (first | exact Pick.head | apply Pick.tail | apply Pick.app))) (by (first | rfl | assumption | (simp; done) | omega)) (⟨[_], (by (repeat (first | exact Split.nil | exact Split.all | refine Split.cons Pick.head ?_))), ?_⟩))
  all_goals refine JM.quiet rfl rfl rfl rfl (fun m => y_assign rfl) ?_
  all_goals refine JM.nil ?_
  all_goals refine JE.then_normal ?_
  all_goals
    refine J.ret ?_
    refine JE.ret2 (.inl rfl) rfl rfl (by (first | exact RV.tmp rfl | exact RV.cell1 hT rfl rfl rfl (by (exact Rd1.row (by (repeat (first | exact Pick.head | apply Pick.tail | apply Pick.app))) (by rfl))) | exact RV.cellN hT rfl rfl rfl (by (first | exact RdN.rowAll (by (repeat (first | exact Pick.head | apply Pick.tail | apply Pick.app))) | exact RdN.own (by (repeat (first | exact Pick.head | apply Pick.tail | apply Pick.app))))) (by (first | rfl | assumption | (simp; done) | omega)))) (by (first | exact RV.tmp rfl | exact RV.cell1 hT rfl rfl rfl (by (exact Rd1.row (by (repeat (first | exact Pick.head | apply Pick.tail | apply Pick.app))) (by rfl))) | exact RV.cellN hT rfl rfl rfl (by (first | exact RdN.rowAll (by (repeat (first | exact Pick.head | apply Pick.tail | apply Pick.app))) | exact RdN.own (by (repeat (first | exact Pick.head | apply Pick.tail | apply Pick.app))))) (by (first | rfl | assumption | (simp; done) | omega)))) ?_
    refine ⟨?_, fun w q => q.sup (by (repeat (first | exact Sup.refl | apply Sup.cons (by (repeat (first | exact Pick.head | apply Pick.tail | apply Pick.app))) | apply Sup.app | apply Sup.skip | apply Sup.skips)))⟩
    unfold sbOk
    first
      | (rw [decide_eq_true hpl2]; rfl)
      | (rw [decide_eq_false hpl2]; rfl)
end Go.Proofs.Ytilifeeddpkclaa
