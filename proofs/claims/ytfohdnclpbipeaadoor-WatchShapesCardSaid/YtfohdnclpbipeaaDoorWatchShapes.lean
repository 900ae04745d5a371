
/-
  hollowtreelaw30.WatchShapes returns true for every input, and leaves its input as it was. No condition but that the tables of the program's text are laid.
-/
import Derived.Test.YtfohdnclpbipeaaDoorJoin8
import Derived.Test.YtfohdnclpbipeaaDoorJoin10
namespace Go.Proofs.YtfohdnclpbipeaaDoor
open Go Go.SL
section
def flK : List CK := [.int .i64, .int .i64, .int .i64, .int .i64]
theorem fl_fits (f : FlowT) : Fits flK (flE f) := ⟨⟨_, rfl⟩, ⟨_, rfl⟩, ⟨_, rfl⟩, ⟨_, rfl⟩, trivial⟩
end
section
attribute [local irreducible] J JL JE JM LS Y Fc RV Code.wp wpList Code.wpIn wpListIn
attribute [local irreducible] Yc
variable (E : World)
theorem watch_shapes (p : Option Addr) (n c : Nat) (ws : List WireT) (l : List HProp) (hn : ws.length = n) (hw : ∀ w ∈ ws, WiOk w) (hin : InL l p n c (ws.flatMap wiE)) (ht : T10 E l) :
    Fc prog E 3 [.slice p n c].toArray l (fun v l' => v = .bool true ∧ l' = l) := by
  refine Fc.eqs ?_
  obtain ⟨m, hm⟩ : ∃ m, m = min n 120 := ⟨_, rfl⟩
  obtain ⟨zs, hzs⟩ : ∃ zs, ws.take m = zs := ⟨_, rfl⟩
  have hz : zs.length = m := by rw [← hzs, List.length_take]; omega
  have hzw : ∀ w ∈ zs, WiOk w := fun w h => hw w (List.mem_of_mem_take (hzs ▸ h))
  have hm8 : m ≤ 120 := by omega
  have hcut := cut_spec E p n c m ws l hn hm hin
  rw [hzs] at hcut
  have hRl := refF_length zs
  obtain ⟨fs, hfs⟩ : ∃ fs, refF zs = fs := ⟨_, rfl⟩
  refine Fc.of_body (c := ?codeC) Tryd.func3 ?hb Tryd.ntmps3 ?hl ?_
  case hb => exact rfl
  case hl => exact rfl
  refine J.seq ?_
  refine J.region ?_
  refine JL.step (y_assign rfl) rfl rfl rfl ?_
  refine JL.nil ?_
  refine JE.then_normal ?_
  refine J.seq ?_
  refine J.seq ?_
  refine J.region ?_
  refine JL.loud rfl (l_callF e11 rfl rfl (wakes_spec E _ ht) ?_)
  rintro _ l1 ⟨rfl, e1⟩
  obtain rfl := e1.symm
  refine JL.step (y_not rfl) rfl rfl rfl ?_
  refine JL.nil ?_
  refine JE.then_normal ?_
  refine J.cond_f rfl (by (first | rfl | assumption | (simp; done) | (simp; omega))) ?_
  refine J.skip ?_
  refine JE.then_normal ?_
  refine J.seq ?_
  refine J.region ?_
  refine JL.step (y_move rfl) rfl rfl rfl ?_
  refine JL.loud rfl (l_callF e12 rfl rfl (hcut) ?_)
  rintro _ _ ⟨a, c', hc', rfl, rfl⟩
  refine JL.step (y_assign rfl) rfl rfl rfl ?_
  refine JL.nil ?_
  refine JE.then_normal ?_
  refine J.seq ?_
  refine J.fact (fun w s => Sat.own_at (s.pick Pick.head)) fun oo => ?_
  refine J.region ?_
  refine JL.loud rfl (l_buildSlice0 hT rfl rfl rfl rfl (fun b3 => ?_))
  refine JL.step (y_move rfl) rfl rfl rfl ?_
  refine JL.loud rfl (l_appendIn hT rfl rfl rfl rfl rfl rfl rfl rfl (by (repeat (first | exact Pick.head | apply Pick.tail | apply Pick.app))) (cutIn hz oo (by (repeat (first | exact Pick.head | apply Pick.tail | apply Pick.app)))).2 (by rw [show i38.size = 5 from rfl, wis_len, hz]) (wis_one zs) (by rw [show i38.bytes = 40 from rfl]; omega) (by omega) rfl (fun a4 c4 hc4 => ?_))
  refine JL.step (y_assign rfl) rfl rfl rfl ?_
  refine JL.nil ?_
  refine JE.then_normal ?_
  refine J.seq ?_
  refine J.seq ?_
  refine J.pre (l' := own 38 5 (.slice a4 m c4) m (zs.flatMap wiE) :: own 38 5 (.slice a (m + 1) c') (m + 1) (zs.flatMap wiE ++ wiE wi77) :: l) (fun w s => by rw [Nat.zero_add] at s; exact s) ?_
  refine J.fact (fun w s => Sat.own_at (s.pick Pick.head)) fun oo4 => ?_
  rw [Nat.zero_add]
  refine J.region ?_
  refine JL.step (y_move rfl) rfl rfl rfl ?_
  refine JL.loud rfl (l_callF e13 rfl rfl (shape_spec E a m c' zs _ hz (by omega) hzw (cutIn hz oo (by (repeat (first | exact Pick.head | apply Pick.tail | apply Pick.app)))).2 (by (repeat (first | assumption | apply T10.cons | apply T10.app)))) ?_)
  rintro _ _ ⟨rfl, rfl⟩
  refine JL.step (y_move rfl) rfl rfl rfl ?_
  refine JL.loud rfl (l_callF e14 rfl rfl (rshape_spec E a4 m c4 zs _ hz (by omega) hzw (oo4.inl (by (repeat (first | exact Pick.head | apply Pick.tail | apply Pick.app))))) ?_)
  rintro _ _ ⟨rfl, rfl⟩
  refine JL.step (v := .bool false) (y_str_neB rfl rfl (by simp)) rfl rfl rfl ?_
  refine JL.nil ?_
  refine JE.then_normal ?_
  refine J.cond_f rfl (by (first | rfl | assumption | (simp; done) | (simp; omega))) ?_
  refine J.skip ?_
  refine JE.then_normal ?_
  refine J.seq ?_
  refine J.region ?_
  refine JL.step (y_move rfl) rfl rfl rfl ?_
  refine JL.loud rfl (l_callF e15 rfl rfl (rflows_spec E a4 m c4 zs _ hz (by omega) (oo4.inl (by (repeat (first | exact Pick.head | apply Pick.tail | apply Pick.app))))) ?_)
  rintro _ _ ⟨a7, c7, rfl, rfl⟩
  refine JL.step (y_assign rfl) rfl rfl rfl ?_
  refine JL.nil ?_
  refine JE.then_normal ?_
  refine J.seq ?_
  refine J.seq ?_
  refine J.region ?_
  refine JL.step (y_assign rfl) rfl rfl rfl ?_
  refine JL.nil ?_
  refine JE.then_normal ?_
  refine J.block ?_
  rw [hfs] at hRl ⊢
  refine J.fact (fun w s => Sat.own_at (s.pick Pick.head)) fun oo7 => ?_
  refine J.loop (α := Nat) (fun r => r ≤ 2) (fun r => [(0, .slice a m c'), (3, .slice a4 m c4), (4, .slice a7 fs.length c7), (5, .int .i64 r)]) (fun _ => own 29 4 (.slice a7 fs.length c7) fs.length (fs.flatMap flE) :: own 38 5 (.slice a4 m c4) m (zs.flatMap wiE) :: own 38 5 (.slice a (m + 1) c') (m + 1) (zs.flatMap wiE ++ wiE wi77) :: l) (fun r => 2 - r) 0 (Nat.zero_le _) ⟨rfl, rfl, rfl, rfl, trivial⟩ (fun w h => h) ?_
  intro r hr
  try dsimp only
  refine J.seq ?_
  refine J.seq ?_
  refine J.region ?_
  refine JL.step (y_move rfl) rfl rfl rfl (JL.step (y_lss rfl rfl) rfl rfl rfl ?_)
  refine JL.nil ?_
  refine JE.then_normal ?_
  first | apply J.cond_dec rfl | apply J.cond rfl
  case' ht =>
    intro h
    try (first | (exfalso; omega) | (cases h; done) | (exfalso; simp at h; done) | subst h)
    all_goals
      refine J.skip ?_
  case' hf =>
    intro h
    try (first | (exfalso; omega) | (cases h; done) | (exfalso; simp at h; done) | subst h)
    all_goals
      refine J.exit ?_
      refine JE.then_exit ?_
      refine JE.then_exit ?_
      refine JE.block_exit ?_
      refine JE.then_normal ?_
      refine J.seq ?_
      refine J.region ?_
      refine JL.step (y_move rfl) rfl rfl rfl (JL.step (y_move rfl) rfl rfl rfl ?_)
      refine JL.loud rfl (l_callF e17 rfl rfl (kept_spec E a a4 m c' c4 zs _ hz (by omega) hc' (oo4.inl (by (repeat (first | exact Pick.head | apply Pick.tail | apply Pick.app)))) (cutIn hz oo (by (repeat (first | exact Pick.head | apply Pick.tail | apply Pick.app)))).1) ?_)
      rintro _ _ ⟨rfl, rfl⟩
      refine JL.step (y_assign rfl) rfl rfl rfl ?_
      refine JL.nil ?_
      refine JE.then_normal ?_
      refine J.ret ?_
      refine JE.ret1 (.inl rfl) rfl rfl (by (first | exact RV.tmp rfl | exact RV.cell1 hT rfl rfl rfl (by (exact Rd1.row (by (repeat (first | exact Pick.head | apply Pick.tail | apply Pick.app))) (by rfl))) | exact RV.cellN hT rfl rfl rfl (by (first | exact RdN.rowAll (by (repeat (first | exact Pick.head | apply Pick.tail | apply Pick.app))) | exact RdN.own (by (repeat (first | exact Pick.head | apply Pick.tail | apply Pick.app))))) (by (first | rfl | assumption | (simp; done) | omega)))) ?_
      exact ⟨rfl, fun w h => h.sup (by (repeat (first | exact Sup.refl | apply Sup.cons (by (repeat (first | exact Pick.head | apply Pick.tail | apply Pick.app))) | apply Sup.app | apply Sup.skip | apply Sup.skips)))⟩
  all_goals refine JE.then_normal ?_
  all_goals
    refine J.seq ?_
    refine J.block ?_
    refine J.seq ?_
    refine J.region ?_
    refine JL.step (y_move rfl) rfl rfl rfl ?_
    refine JL.loud rfl (l_callF e16 rfl rfl (flows_spec E a m c' zs _ hz (by omega) hzw (cutIn hz oo (by (repeat (first | exact Pick.head | apply Pick.tail | apply Pick.app)))).2) ?_)
    rintro _ _ ⟨vs, a9, c9, hv1, hv2, rfl, rfl⟩
    refine JL.step (y_assign rfl) rfl rfl rfl ?_
    refine JL.nil ?_
    refine JE.then_normal ?_
    refine J.seq ?_
    refine J.seq ?_
    obtain rfl : vs = fs := by rw [← hfs]; exact flows_same hv1 hv2
    refine J.region ?_
    refine JL.step (y_move rfl) rfl rfl rfl (JL.step (y_len_slice hT rfl rfl rfl) rfl rfl rfl (JL.step (y_move rfl) rfl rfl rfl (JL.step (y_len_slice hT rfl rfl rfl) rfl rfl rfl ?_)))
    refine JL.step (v := .bool false) (Y.val (y_neq rfl rfl) (by simp)) rfl rfl rfl ?_
    refine JL.nil ?_
    refine JE.then_normal ?_
    refine J.cond_f rfl (by (first | rfl | assumption | (simp; done) | (simp; omega))) ?_
    refine J.skip ?_
    refine JE.then_normal ?_
    refine J.seq ?_
    refine J.region ?_
    refine JL.step (y_move rfl) rfl rfl rfl (JL.step (y_len_slice hT rfl rfl rfl) rfl rfl rfl (JL.step (y_move rfl) rfl rfl rfl ?_))
    refine JL.nil ?_
    refine JE.then_normal ?_
    refine J.block ?_
    refine J.loop (α := Nat × List FlowT) (fun s => s.1 ≤ vs.length ∧ s.2.length = vs.length ∧ ∀ j, s.1 ≤ j → s.2[j]? = vs[j]?) (fun s => [(0, .slice a m c'), (3, .slice a4 m c4), (4, .slice a7 vs.length c7), (5, .int .i64 r), (6, .slice a9 vs.length c9), (34, .int .i64 vs.length), (35, .int .i64 s.1)]) (fun s => own 29 4 (.slice a9 vs.length c9) vs.length (s.2.flatMap flE) :: own 29 4 (.slice a7 vs.length c7) vs.length (vs.flatMap flE) :: own 38 5 (.slice a4 m c4) m (zs.flatMap wiE) :: own 38 5 (.slice a (m + 1) c') (m + 1) (zs.flatMap wiE ++ wiE wi77) :: l) (fun s => vs.length - s.1) (0, vs) ⟨Nat.zero_le _, rfl, fun _ _ => rfl⟩ ⟨rfl, rfl, rfl, rfl, rfl, rfl, rfl, trivial⟩ (fun w h => h) ?_
    rintro ⟨i, xs⟩ ⟨hi, hxl, hxs⟩
    dsimp only at hi hxl hxs ⊢
    refine J.fact (fun w s => Sat.own_at (s.pick Pick.head)) fun oo9 => ?_
    refine J.seq ?_
    refine J.region ?_
    refine JL.step (y_lss rfl rfl) rfl rfl rfl ?_
    refine JL.nil ?_
    refine JE.then_normal ?_
    refine J.seq ?_
    first | apply J.cond_dec rfl | apply J.cond rfl
    case' ht =>
      intro h
      try (first | (exfalso; omega) | (cases h; done) | (exfalso; simp at h; done) | subst h)
      all_goals
        refine J.skip ?_
    case' hf =>
      intro h
      try (first | (exfalso; omega) | (cases h; done) | (exfalso; simp at h; done) | subst h)
      all_goals
        refine J.exit ?_
        refine JE.then_exit ?_
        refine JE.then_exit ?_
        refine JE.block_exit ?_
        refine JE.block_normal ?_
        refine JE.then_normal ?_
        refine J.region ?_
        refine JL.step (y_move rfl) rfl rfl rfl ?_
        refine JL.step (y_add rfl rfl (by (first | exact wrap_i64 (by omega) (by omega) | rfl))) rfl rfl rfl ?_
        refine JL.step (y_assign rfl) rfl rfl rfl ?_
        refine JL.nil ?_
        exact JE.round (s := r) (r + 1) (by omega) ⟨rfl, rfl, rfl, rfl, trivial⟩ (fun w h => h.sup (by (repeat (first | exact Sup.refl | apply Sup.cons (by (repeat (first | exact Pick.head | apply Pick.tail | apply Pick.app))) | apply Sup.app | apply Sup.skip | apply Sup.skips)))) (by omega)
    all_goals refine JE.then_normal ?_
    all_goals
      refine J.seq ?_
      refine J.block ?_
      refine J.seq ?_
      refine J.region ?_
      refine JL.step (y_move rfl) rfl rfl rfl (JL.step (y_assign rfl) rfl rfl rfl ?_)
      refine JL.nil ?_
      refine JE.then_normal ?_
      refine J.seq ?_
      refine J.seq ?_
      obtain ⟨f, hh⟩ : ∃ f, vs[i]? = some f := ⟨vs[i]'(by omega), List.getElem?_eq_getElem _⟩
      have hx := hxs i (Nat.le_refl _)
      rw [hh] at hx
      obtain ⟨g9, rfl⟩ : ∃ g9, a9 = some ⟨g9, 0, none⟩ := by
        rcases oo9.at_ with q | ⟨q, _⟩
        · exact q
        · have := oo9.le; omega
      have hr9 : ∀ L, RdN (own 29 4 (.slice (some ⟨g9, 0, none⟩) vs.length c9) vs.length (xs.flatMap flE) :: L) g9 (0 + i * 4) (flE f) := fun L => RdN.elem (RdN.own Pick.head) (fun x _ => hkE x) hx
      obtain ⟨g7, o7, rfl, hr7⟩ := (oo7.inl (l := own 29 4 (.slice (some ⟨g9, 0, none⟩) vs.length c9) vs.length (xs.flatMap flE) :: own 29 4 (.slice a7 vs.length c7) vs.length (vs.flatMap flE) :: own 38 5 (.slice a4 m c4) m (zs.flatMap wiE) :: own 38 5 (.slice a (m + 1) c') (m + 1) (zs.flatMap wiE ++ wiE wi77) :: l) (by (repeat (first | exact Pick.head | apply Pick.tail | apply Pick.app)))).addr (by omega)
      refine J.draw _ _ [(0, .q), (1, .q), (2, .q), (3, .q), (4, .q), (5, .q), (6, .q), (7, .q), (8, .q)] mixed (by kernel_rfl) (Split.nil) ?_
      refine JM.quiet rfl rfl rfl rfl (fun m => y_move rfl) ?_
      refine JM.quiet rfl rfl rfl rfl (fun m => y_move rfl) ?_
      refine JM.quiet rfl rfl rfl rfl (fun m => y_indexAddr_slice hT rfl rfl rfl rfl rfl (by (first | omega | exact Nat.le_of_ble_eq_true rfl | decide | (simp; omega))) (by (first | omega | exact Nat.le_of_ble_eq_true rfl | decide | (simp; omega)))) ?_
      refine JM.quiet rfl rfl rfl rfl (fun m => y_loadN hT rfl rfl rfl ((hr9 _).app m) rfl) ?_
      refine JM.quiet rfl rfl rfl rfl (fun m => y_move rfl) ?_
      refine JM.quiet rfl rfl rfl rfl (fun m => y_move rfl) ?_
      refine JM.quiet rfl rfl rfl rfl (fun m => y_indexAddr_slice hT rfl rfl rfl rfl rfl (by (first | omega | exact Nat.le_of_ble_eq_true rfl | decide | (simp; omega))) (by (first | omega | exact Nat.le_of_ble_eq_true rfl | decide | (simp; omega)))) ?_
      refine JM.quiet rfl rfl rfl rfl (fun m => y_loadN hT rfl rfl rfl (RdN.elem ((hr7 []).app m) (fun x _ => hkE x) hh) rfl) ?_
      refine JM.quiet rfl rfl rfl rfl (fun m => y_flat_ne (m := 3) (ks := flK) (xs := flE f) (ys := flE f) (b := false) hT (by kernel_rfl) rfl (by kernel_rfl) (by kernel_rfl) rfl rfl rfl rfl (fl_fits f) (fl_fits f) ⟨fun q => (by cases q), fun q => absurd rfl q⟩) ?_
      refine JM.nil ?_
      refine JE.then_normal ?_
      refine J.cond_f rfl (by (first | rfl | assumption | (simp; done) | (simp; omega))) ?_
      refine J.skip ?_
      refine JE.then_normal ?_
      refine J.region ?_
      refine JL.step (y_move rfl) rfl rfl rfl (JL.step (y_move rfl) rfl rfl rfl (JL.step (y_build (cs := [_, _, _, _]) hT rfl rfl rfl rfl rfl rfl trivial rfl) rfl rfl rfl ?_))
      refine JL.step (y_indexAddr_slice hT rfl rfl rfl rfl rfl (by (first | omega | exact Nat.le_of_ble_eq_true rfl | decide | (simp; omega))) (by (first | omega | exact Nat.le_of_ble_eq_true rfl | decide | (simp; omega)))) rfl rfl rfl ?_
      refine JL.loud rfl (l_storeOwnN (enc := flE) (j := i) (u := ((0, 0, 0, 0) : FlowT)) (xs := xs) hT rfl rfl rfl rfl rfl (hoE _) (by (repeat (first | exact Pick.head | apply Pick.tail | apply Pick.app))) (fun x _ => hkE x) (by omega) ?_)
      refine JL.nil ?_
      refine JE.block_normal ?_
      refine JE.then_normal ?_
      refine J.region ?_
      refine JL.step (y_add rfl rfl (by (first | exact wrap_i64 (by omega) (by omega) | rfl))) rfl rfl rfl ?_
      refine JL.step (y_move rfl) rfl rfl rfl ?_
      refine JL.nil ?_
    all_goals
      exact JE.round (s := (i, xs)) (i + 1, xs.set i (0, 0, 0, 0)) ⟨by dsimp only; omega, by dsimp only; rw [List.length_set]; omega, fun j hj => by dsimp only at hj ⊢; rw [List.getElem?_set_ne (by omega)]; exact hxs j (by omega)⟩ ⟨rfl, rfl, rfl, rfl, rfl, rfl, rfl, trivial⟩ (fun w h => h) (by dsimp only; omega)
end
section
open Go.ChangeShapes Go.WideShapes Go.ChangeAt Go.RowKit
theorem watch_shapes_reads : ∀ t ∈ Tryd.f3.params.toList, Tryd.prog.readableRec t = true ∧ t < Tryd.prog.types.size := by
  rw [Tryd.params3]
  intro t ht
  simp only [List.mem_cons, List.not_mem_nil, or_false] at ht
  rcases ht with rfl
  all_goals exact ⟨by kernel_rfl, of_decide_eq_true (by kernel_rfl)⟩
set_option maxRecDepth 100000 in
theorem watch_shapes_contract (H : Type) (enc : TypeId × Value → H) (W : World) (base : Nat) (args : Array Value) (ds gs : List (DataW H)) (before : List MemPlace)
    (hval : ∀ (j : Nat) t v, Tryd.f3.params[j]? = some t → args[j]? = some v → Value.okWide Tryd.prog W .any base t v)
    (hW : DataW.Whole enc Tryd.prog Tryd.f3.params.toList Rows.watchShapesSpec.vars false W args.toList ds gs before) (hL : laidMetH Tryd.prog Rows.watchShapesRow.laid W) :
    Calls Tryd.prog 3 args W fun e W' => ∃ v, e = .returned v ∧ Rows.watchShapesSpec.post enc Tryd.prog Tryd.f3 false true false false W args v W' := by
  have hW' := hW
  obtain ⟨p, q, hA0, hV, rfl, hfz, hnd⟩ := hW
  have hA : DataW.TrodAll enc Tryd.prog W 0 (fun _ => true) true Tryd.f3.params.toList args.toList ds p := hA0
  rw [Tryd.params3] at hA hval
  obtain ⟨v0, vs0, d0, ds0, p0, q0, hargs, rfl, rfl, h0, r0⟩ := trodAll_cons hA
  obtain ⟨rfl, rfl, rfl⟩ := trodAll_nil r0
  obtain rfl : args = #[v0] := by cases args; simp_all
  obtain ⟨rfl, rfl⟩ := trodVars_none hV
  clear hA0
  have t0 : Tr enc prog (fun _ => True) W 22 [v0] := Tr.ofSlice u22 (hval 0 22 v0 rfl rfl) h0 trivial
  obtain ⟨p, cap, xs, rfl, _, hok, hin⟩ := tr_wires Her.all t0
  refine ((watch_shapes W p xs.length cap xs [old W] rfl hok (hin.inl []) (T10.old (table30 hL) Pick.head)) W (Sat.start W)).mono fun e W' hq => ?_
  obtain ⟨v, l', rfl, hs, rfl, rfl⟩ := hq
  exact ⟨_, rfl, law_post laidOut_ rfl rfl u4 watch_shapes_reads hW' rfl rfl rfl hs.below⟩
set_option maxRecDepth 100000 in
theorem watch_shapes_lifted (os : Os) (started : os.Started) (H : Type) (enc : TypeId × Value → H) (F : Stop.Interp) :
    ReturnsInHanded {} Tryd.checked os 3 .any ((OpenSpec.ofChange Rows.watchShapesSpec).preRow enc Tryd.prog Tryd.f3 Rows.watchShapesRow.domain false Rows.watchShapesRow.laid) (((OpenSpec.ofChange Rows.watchShapesSpec).at F).post enc Tryd.prog Tryd.f3 false true false false) := by
  have hx : ∃ places, DataW.whole enc Tryd.prog ((laidWorld os).forCall (fun _ _ => 0) ⟨#[], #[.slice none 0 0], []⟩).memory Tryd.f3.params.toList Rows.watchShapesSpec.vars false (#[.slice none 0 0] : Array Value).toList 8 = some ([.nil], [], places) := ⟨[], by kernel_rfl⟩
  obtain ⟨places, hx⟩ := hx
  refine returnsInHanded_of_row (C := Tryd.checked) (s := OpenSpec.ofChange Rows.watchShapesSpec) own_ started (by kernel_rfl) Tryd.func3
    (witness_row_at (enc := enc) (C := Tryd.checked) false (laidWorld os) #[.slice none 0 0] rfl (by kernel_rfl) (by kernel_rfl) (by kernel_rfl)
      (OpenSpec.preRow_of_cond 8 hx (by kernel_rfl) (fun k hk => by cases hk) (by kernel_rfl) (laid_met os _))) ?_
  intro W base args ds gs before hval hW _ hk _ hL _ _
  exact watch_shapes_contract H enc W base args ds gs before hval hW hL
theorem watch_shapes_said : Rows.WatchShapesSaid :=
  OpenClaim.holds_of_cond 3 Tryd.f3 rfl rfl rfl rfl rfl rfl rfl ⟨rfl, rfl, rfl, rfl, rfl⟩ rfl rfl rfl rfl rfl (by kernel_rfl) Tryd.func3 (by kernel_rfl)
    (of_decide_eq_true (by kernel_rfl)) (by unfold Func.isWrapper; first | (rw [if_pos (by decide +kernel)]; kernel_rfl) | (rw [if_neg (by decide +kernel)]; exact ⟨rfl, rfl⟩))
    (fun os started H enc _ F => by rw [OpenClaim.pre_eq_preRow]; exact watch_shapes_lifted os started H enc F)
set_option maxRecDepth 100000 in
theorem watch_shapes_plain (f : FuncId) (fn : Func) (hf : Tryd.pinned.checked.prog.funcNamed Rows.watchShapesRow.func = some f) (hfn : Tryd.pinned.checked.prog.funcs[f]? = some fn) :
    false = Tryd.pinned.checked.prog.looks [] ∧ ∀ (j : Nat) t, fn.params[j]? = some t → Tryd.pinned.checked.prog.wantsStandIn t = false := by
  obtain rfl : f = 3 := Option.some.inj ((show Tryd.prog.funcNamed Rows.watchShapesRow.func = some 3 by kernel_rfl).symm.trans hf) |>.symm
  obtain rfl : fn = Tryd.f3 := (Option.some.inj (Tryd.func3.symm.trans hfn)).symm
  refine ⟨by kernel_rfl, fun j t ht => ?_⟩
  rw [Tryd.params3] at ht
  have hm := Array.mem_of_getElem? ht
  simp only [List.mem_toArray, List.mem_cons, List.not_mem_nil, or_false] at hm
  rcases hm with rfl
  · exact (show Tryd.prog.wantsStandIn 22 = false by kernel_rfl)
theorem watch_shapes_holds : Rows.WatchShapesCardSaid :=
  Claim7.holds_tied_plain_at .later [] _ _ _ _ watch_shapes_said (fun _ h => by cases h) (by kernel_rfl) (fun _ h => by cases h) watchShapes_row_tie rfl ⟨rfl, rfl⟩ (by kernel_rfl) rfl watch_shapes_plain (by kernel_rfl)
end
end Go.Proofs.YtfohdnclpbipeaaDoor
