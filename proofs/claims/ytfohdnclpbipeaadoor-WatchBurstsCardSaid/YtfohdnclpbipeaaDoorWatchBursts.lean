
/-
  hollowtreelaw30.WatchBursts returns true for every input, and leaves its input as it was. No condition but that the tables of the program's text are laid.
-/
import Derived.Test.YtfohdnclpbipeaaDoorJoin7
import Derived.Test.YtfohdnclpbipeaaDoorJoin8
import Derived.Test.YtfohdnclpbipeaaDoorJoin10
namespace Go.Proofs.YtfohdnclpbipeaaDoor
open Go Go.SL
section
def buK : List CK := [.int .i64, .int .i64, .int .i64]
theorem bu_fits (f : BurT) : Fits buK (buE f) := ⟨⟨_, rfl⟩, ⟨_, rfl⟩, ⟨_, rfl⟩, trivial⟩
end
section
attribute [local irreducible] J JL JE JM LS Y Fc RV Code.wp wpList Code.wpIn wpListIn
attribute [local irreducible] Yc
variable (E : World)
theorem watch_bursts (clients hops noise : Int) (sv rv : Value) (p : Option Addr) (n c : Nat) (ws : List WireT) (cl : Int) (l : List HProp) (hn : ws.length = n) (hw : ∀ w ∈ ws, WiOk w) (hin : InL l p n c (ws.flatMap wiE)) (ht : T10 E l) :
 Fc prog E 9 [.agg (plaE clients hops noise sv rv).toArray, .slice p n c, .int .i64 cl].toArray l (fun v l' => v = .bool true ∧ l' = l) := by
 refine Fc.eqs ?_
 obtain ⟨m, hm⟩ : ∃ m, m = min n 120 := ⟨_, rfl⟩
 obtain ⟨zs, hzs⟩ : ∃ zs, ws.take m = zs := ⟨_, rfl⟩
 have hz : zs.length = m := by rw [← hzs, List.length_take]; omega
 have hzw : ∀ w ∈ zs, WiOk w := fun w h => hw w (List.mem_of_mem_take (hzs ▸ h))
 have hm8 : m ≤ 120 := by omega
 have hcut := fun l' hin => cut_spec E p n c m ws l' hn hm hin
 rw [hzs] at hcut
 have hBl := refB_length cl zs
 obtain ⟨B, hB⟩ : ∃ B, refB cl zs = B := ⟨_, rfl⟩
 rw [hB] at hBl
 refine Fc.of_body (c := ?codeC) Tryd.func9 ?hb Tryd.ntmps9 ?hl ?_
 case hb => exact rfl
 case hl => exact rfl
 refine J.seq (J.region ?_)
 refine JL.loud rfl (l_box (cs := plaE clients hops noise sv rv) rfl rfl rfl (fun bP => ?_))
 refine JL.step (y_assign rfl) rfl rfl rfl ?_
 refine JL.nil (JE.then_normal (J.seq (J.seq (J.region ?_))))
 refine JL.loud rfl (l_callF e11 rfl rfl (wakes_spec E _ (ht.cons _)) ?_)
 rintro _ l1 ⟨rfl, e1⟩
 obtain rfl := e1.symm
 refine JL.step (y_not rfl) rfl rfl rfl ?_
 refine JL.nil (JE.then_normal ?_)
 refine J.cond_f rfl (by (first | rfl | assumption | (simp; done) | (simp; omega))) ?_
 refine J.skip (JE.then_normal (J.seq (J.region (JL.step (y_move rfl) rfl rfl rfl ?_))))
 refine JL.loud rfl (l_callF e12 rfl rfl (hcut _ (hin.cons _)) ?_)
 rintro _ _ ⟨a, c', hc', rfl, rfl⟩
 refine JL.step (y_assign rfl) rfl rfl rfl ?_
 refine JL.nil (JE.then_normal (J.seq ?_))
 refine J.fact (fun w s => Sat.own_at (s.pick Pick.head)) fun oo => ?_
 refine J.region ?_
 refine JL.loud rfl (l_buildSlice0 hT rfl rfl rfl rfl (fun b3 => ?_))
 refine JL.step (y_move rfl) rfl rfl rfl ?_
 refine JL.loud rfl (l_appendIn hT rfl rfl rfl rfl rfl rfl rfl rfl (by (repeat (first | exact Pick.head | apply Pick.tail | apply Pick.app))) (cutIn hz oo (by (repeat (first | exact Pick.head | apply Pick.tail | apply Pick.app)))).2 (by rw [show i38.size = 5 from rfl, wis_len, hz]) (wis_one zs) (by rw [show i38.bytes = 40 from rfl]; omega) (by omega) rfl (fun a4 c4 hc4 => ?_))
 refine JL.step (y_assign rfl) rfl rfl rfl ?_
 refine JL.nil (JE.then_normal (J.seq ?_))
 refine J.pre (l' := own 38 5 (.slice a4 m c4) m (zs.flatMap wiE) :: own 38 5 (.slice a (m + 1) c') (m + 1) (zs.flatMap wiE ++ wiE wi77) :: row bP 61 (plaE clients hops noise sv rv) :: l) (fun w s => by rw [Nat.zero_add] at s; exact s) ?_
 refine J.fact (fun w s => Sat.own_at (s.pick Pick.head)) fun oo4 => ?_
 rw [Nat.zero_add]
 have hb1 := fun l h => bursts_spec E a m c' zs cl l hz (by omega) hzw h
 have hb2 := fun l h => rbursts_spec E a4 m c4 zs cl l hz (by omega) hzw h
 rw [hB] at hb1 hb2
 refine J.region (JL.step (y_move rfl) rfl rfl rfl (JL.step (y_move rfl) rfl rfl rfl ?_))
 refine JL.loud rfl (l_callF e28 rfl rfl (hb1 _ (cutIn hz oo (by (repeat (first | exact Pick.head | apply Pick.tail | apply Pick.app)))).2) ?_)
 rintro _ _ ⟨a5, c5, rfl, rfl⟩
 refine JL.step (y_move rfl) rfl rfl rfl (JL.step (y_move rfl) rfl rfl rfl ?_)
 refine JL.loud rfl (l_callF e29 rfl rfl (hb2 _ (oo4.inl (by (repeat (first | exact Pick.head | apply Pick.tail | apply Pick.app))))) ?_)
 rintro _ _ ⟨a6, c6, rfl, rfl⟩
 refine JL.step (y_assign rfl) rfl rfl rfl (JL.step (y_assign rfl) rfl rfl rfl ?_)
 refine JL.nil (JE.then_normal (J.seq (J.seq (J.region (JL.step (y_move rfl) rfl rfl rfl (JL.step (y_len_slice hT rfl rfl rfl) rfl rfl rfl (JL.step (y_move rfl) rfl rfl rfl (JL.step (y_len_slice hT rfl rfl rfl) rfl rfl rfl ?_))))))))
 refine JL.step (v := .bool false) (Y.val (y_neq rfl rfl) (by simp)) rfl rfl rfl ?_
 refine JL.nil (JE.then_normal ?_)
 refine J.cond_f rfl (by (first | rfl | assumption | (simp; done) | (simp; omega))) ?_
 refine J.skip (JE.then_normal (J.seq (J.seq (J.region (JL.step (y_move rfl) rfl rfl rfl (JL.step (y_len_slice hT rfl rfl rfl) rfl rfl rfl (JL.step (y_move rfl) rfl rfl rfl ?_)))))))
 refine JL.nil (JE.then_normal (J.block ?_))
 refine J.fact (fun w s => Sat.own_at (s.pick Pick.head)) fun o6 => ?_
 refine J.fact (fun w s => Sat.own_at (s.pick (Pick.tail Pick.head))) fun o5 => ?_
 obtain ⟨L, hL⟩ : ∃ L, own 65 3 (.slice a6 B.length c6) B.length (B.flatMap buE) :: own 65 3 (.slice a5 B.length c5) B.length (B.flatMap buE) :: own 38 5 (.slice a4 m c4) m (zs.flatMap wiE) :: own 38 5 (.slice a (m + 1) c') (m + 1) (zs.flatMap wiE ++ wiE wi77) :: row bP 61 (plaE clients hops noise sv rv) :: l = L := ⟨_, rfl⟩
 have h6 : InL L a6 B.length c6 (B.flatMap buE) := by rw [← hL]; exact o6.inl Pick.head
 have h5 : InL L a5 B.length c5 (B.flatMap buE) := by rw [← hL]; exact o5.inl (Pick.tail Pick.head)
 rw [hL]
 refine J.loop (α := Nat) (fun i => i ≤ B.length) (fun i => [(1, .slice a m c'), (3, .pointer (some ⟨bP, 0, none⟩)), (7, .slice a4 m c4), (8, .slice a5 B.length c5), (9, .slice a6 B.length c6), (30, .int .i64 B.length), (31, .int .i64 i)]) (fun _ => L) (fun i => B.length - i) 0 (Nat.zero_le _) ⟨rfl, rfl, rfl, rfl, rfl, rfl, rfl, trivial⟩ (fun w h => h) ?_
 intro i hi
 try dsimp only
 refine J.seq (J.region (JL.step (y_lss rfl rfl) rfl rfl rfl ?_))
 refine JL.nil (JE.then_normal (J.seq ?_))
 first | apply J.cond_dec rfl | apply J.cond rfl
 case' ht =>
  intro h
  try (first | (exfalso; omega) | (cases h; done) | (exfalso; simp at h; done) | subst h)
  all_goals
   refine J.skip ?_
 case' hf =>
  intro h
  try (first | (exfalso; omega) | (cases h; done) | (exfalso; simp at h; done) | subst h)
  all_goals
   refine J.exit (JE.then_exit (JE.then_exit (JE.block_exit (JE.then_normal (J.seq ?_)))))
   subst hL
   refine J.pre (l' := own 38 5 (.slice a4 m c4) m (zs.flatMap wiE) :: own 38 5 (.slice a (m + 1) c') (m + 1) (zs.flatMap wiE ++ wiE wi77) :: row bP 61 (plaE clients hops noise sv rv) :: l) (fun w s => s.sup (by (repeat (first | exact Sup.refl | apply Sup.cons (by (repeat (first | exact Pick.head | apply Pick.tail | apply Pick.app))) | apply Sup.app | apply Sup.skip | apply Sup.skips)))) ?_
   have hq1 : ∀ fr, InL (fr ++ own 38 5 (.slice a4 m c4) m (zs.flatMap wiE) :: own 38 5 (.slice a (m + 1) c') (m + 1) (zs.flatMap wiE ++ wiE wi77) :: row bP 61 (plaE clients hops noise sv rv) :: l) a m c' (zs.flatMap wiE) := fun fr => InL.app (cutIn hz oo (by (repeat (first | exact Pick.head | apply Pick.tail | apply Pick.app)))).2 fr
   have hq2 : ∀ fr, InL (fr ++ own 38 5 (.slice a4 m c4) m (zs.flatMap wiE) :: own 38 5 (.slice a (m + 1) c') (m + 1) (zs.flatMap wiE ++ wiE wi77) :: row bP 61 (plaE clients hops noise sv rv) :: l) a4 m c4 (zs.flatMap wiE) := fun fr => InL.app (oo4.inl (by (repeat (first | exact Pick.head | apply Pick.tail | apply Pick.app)))) fr
   have hq3 : ∀ fr, InL (fr ++ own 38 5 (.slice a4 m c4) m (zs.flatMap wiE) :: own 38 5 (.slice a (m + 1) c') (m + 1) (zs.flatMap wiE ++ wiE wi77) :: row bP 61 (plaE clients hops noise sv rv) :: l) a (m + 1) c' (zs.flatMap wiE ++ wiE wi77) := fun fr => InL.app (cutIn hz oo (by (repeat (first | exact Pick.head | apply Pick.tail | apply Pick.app)))).1 fr
   refine J.draw _ _ [(0, .q), (1, .q), (3, .q), (4, .q), (2, .l), (5, .l), (6, .q), (7, .q), (8, .q), (9, .q), (10, .l), (11, .q), (12, .q)] mixed (by kernel_rfl) (Split.nil) ?_
   refine JM.quiet rfl rfl rfl rfl (fun m => y_loadN (vs := plaE clients hops noise sv rv) hT rfl rfl rfl (RdN.rowAll (Pick.app m (by (repeat (first | exact Pick.head | apply Pick.tail | apply Pick.app))))) rfl) ?_
   refine JM.quiet rfl rfl rfl rfl (fun m => y_move rfl) ?_
   refine JM.quiet rfl rfl rfl rfl (fun m => y_loadN (vs := plaE clients hops noise sv rv) hT rfl rfl rfl (RdN.rowAll (Pick.app m (by (repeat (first | exact Pick.head | apply Pick.tail | apply Pick.app))))) rfl) ?_
   refine JM.quiet rfl rfl rfl rfl (fun m => y_move rfl) ?_
   refine JM.loud rfl rfl (fun fr => l_callF e30 rfl rfl (steady_spec E clients hops noise sv rv a m c' zs _ hz (by omega) hzw (hq1 fr)) ?_)
   rintro _ _ ⟨z1, rfl, hz1, rfl⟩
   refine ⟨[], (by (repeat (first | exact Split.nil | exact Split.all | refine Split.cons Pick.head ?_))), ?_⟩
   refine JM.loud rfl rfl (fun fr => l_callF e31 rfl rfl (rsteady_spec E clients hops noise sv rv a4 m c4 zs _ hz (by omega) hzw (hq2 fr)) ?_)
   rintro _ _ ⟨z2, rfl, hz2, rfl⟩
   refine ⟨[], (by (repeat (first | exact Split.nil | exact Split.all | refine Split.cons Pick.head ?_))), ?_⟩
   refine JM.quiet rfl rfl rfl rfl (fun m => Y.val (v' := .bool true) (y_bool_eq hT rfl rfl rfl rfl) (by rw [Bool.eq_iff_iff.2 (hz1.trans hz2.symm)]; simp)) ?_
   refine JM.quiet rfl rfl rfl rfl (fun m => y_move rfl) ?_
   all_goals (first | refine JM.gskip rfl rfl rfl rfl rfl rfl rfl ?_ | refine JM.gskipU rfl rfl rfl rfl rfl rfl ?_ | refine JM.gquiet rfl rfl rfl rfl rfl rfl (fun m => y_move rfl) ?_)
   all_goals (first | refine JM.gskip rfl rfl rfl rfl rfl rfl rfl ?_ | refine JM.gskipU rfl rfl rfl rfl rfl rfl ?_ | refine JM.gquiet rfl rfl rfl rfl rfl rfl (fun m => y_move rfl) ?_)
   refine JM.gloud rfl rfl rfl rfl (fun fr => l_callF e17 rfl rfl (kept_spec E a a4 m c' c4 zs _ hz (by omega) hc' (hq2 fr) (hq3 fr)) ?_)
   rintro _ _ ⟨rfl, rfl⟩
   refine ⟨[], (by (repeat (first | exact Split.nil | exact Split.all | refine Split.cons Pick.head ?_))), ?_⟩
   all_goals refine JM.quiet rfl rfl rfl rfl (fun m => y_pick rfl rfl rfl) ?_
   all_goals refine JM.quiet rfl rfl rfl rfl (fun m => y_assign rfl) ?_
   all_goals refine JM.nil (JE.then_normal ?_)
   all_goals
    refine J.ret ?_
    refine JE.ret1 (.inl rfl) rfl rfl (by (first | exact RV.tmp rfl | exact RV.cell1 hT rfl rfl rfl (by (exact Rd1.row (by (repeat (first | exact Pick.head | apply Pick.tail | apply Pick.app))) (by rfl))) | exact RV.cellN hT rfl rfl rfl (by (first | exact RdN.rowAll (by (repeat (first | exact Pick.head | apply Pick.tail | apply Pick.app))) | exact RdN.own (by (repeat (first | exact Pick.head | apply Pick.tail | apply Pick.app))))) (by (first | rfl | assumption | (simp; done) | omega)))) ?_
    exact ⟨rfl, fun w h => h.sup (by (repeat (first | exact Sup.refl | apply Sup.cons (by (repeat (first | exact Pick.head | apply Pick.tail | apply Pick.app))) | apply Sup.app | apply Sup.skip | apply Sup.skips)))⟩
 all_goals refine JE.then_normal ?_
 all_goals
  refine J.seq (J.block (J.seq (J.region (JL.step (y_move rfl) rfl rfl rfl (JL.step (y_assign rfl) rfl rfl rfl ?_)))))
  refine JL.nil (JE.then_normal (J.seq ?_))
  obtain ⟨f, hh⟩ : ∃ f, B[i]? = some f := ⟨B[i]'(by omega), List.getElem?_eq_getElem _⟩
  obtain ⟨g5, o5', e5, hr5⟩ := h5.addr (by omega)
  obtain ⟨g6, o6', e6, hr6⟩ := h6.addr (by omega)
  rw [e5, e6]
  refine J.draw _ _ [(0, .q), (1, .q), (2, .q), (3, .q), (4, .q), (5, .q), (6, .q), (7, .q), (8, .q)] mixed (by kernel_rfl) (Split.nil) ?_
  refine JM.quiet rfl rfl rfl rfl (fun m => y_move rfl) (JM.quiet rfl rfl rfl rfl (fun m => y_move rfl) ?_)
  refine JM.quiet rfl rfl rfl rfl (fun m => y_indexAddr_slice hT rfl rfl rfl rfl rfl (by (first | omega | exact Nat.le_of_ble_eq_true rfl | decide | (simp; omega))) (by (first | omega | exact Nat.le_of_ble_eq_true rfl | decide | (simp; omega)))) ?_
  refine JM.quiet rfl rfl rfl rfl (fun m => y_loadN hT rfl rfl rfl (RdN.elem ((hr5 []).app m) (fun x _ => buE_length x) hh) rfl) (JM.quiet rfl rfl rfl rfl (fun m => y_move rfl) (JM.quiet rfl rfl rfl rfl (fun m => y_move rfl) ?_))
  refine JM.quiet rfl rfl rfl rfl (fun m => y_indexAddr_slice hT rfl rfl rfl rfl rfl (by (first | omega | exact Nat.le_of_ble_eq_true rfl | decide | (simp; omega))) (by (first | omega | exact Nat.le_of_ble_eq_true rfl | decide | (simp; omega)))) ?_
  refine JM.quiet rfl rfl rfl rfl (fun m => y_loadN hT rfl rfl rfl (RdN.elem ((hr6 []).app m) (fun x _ => buE_length x) hh) rfl) ?_
  refine JM.quiet rfl rfl rfl rfl (fun m => y_flat_ne (m := 3) (ks := buK) (xs := buE f) (ys := buE f) (b := false) hT (by kernel_rfl) rfl (by kernel_rfl) (by kernel_rfl) rfl rfl rfl rfl (bu_fits f) (bu_fits f) ⟨fun q => (by cases q), fun q => absurd rfl q⟩) ?_
  refine JM.nil (JE.then_normal ?_)
  refine J.cond_f rfl (by (first | rfl | assumption | (simp; done) | (simp; omega))) ?_
  refine J.skip (JE.block_normal (JE.then_normal (J.region ?_)))
  refine JL.step (y_add rfl rfl (by (first | exact wrap_i64 (by omega) (by omega) | rfl))) rfl rfl rfl ?_
  refine JL.step (y_move rfl) rfl rfl rfl ?_
  refine JL.nil ?_
 all_goals
  exact JE.round (s := i) (i + 1) (by omega) ⟨rfl, rfl, rfl, rfl, rfl, rfl, rfl, trivial⟩ (fun w h => h) (by omega)
end
section
open Go.ChangeShapes Go.WideShapes Go.ChangeAt Go.RowKit
set_option maxRecDepth 100000 in
theorem tr_plan {H : Type} {enc : TypeId × Value → H} {w : World} {ok : DataW H → Prop} {L : Nat → Prop} {cs : List Value} (her : Her ok L) (h : Tr enc prog ok w 61 cs) : ∃ clients hops noise sv rv, cs = plaE clients hops noise sv rv := by
 obtain ⟨hl, hf⟩ := Tr.struct her u61 h
 rw [show prog.cellsOf 61 = 5 by kernel_rfl] at hl
 match cs, hl with
 | [a, b, c, d, e], _ =>
   have h0 := hf 0 _ rfl
   have h1 := hf 1 _ rfl
   have h2 := hf 2 _ rfl
   dsimp only at h0 h1 h2
   rw [show prog.cellsOf 3 = 1 by kernel_rfl] at h0 h1 h2
   obtain ⟨k0, e0, _⟩ := Tr.int u3 h0
   obtain ⟨k1, e1, _⟩ := Tr.int u3 h1
   obtain ⟨k2, e2, _⟩ := Tr.int u3 h2
   cases e0; cases e1; cases e2
   exact ⟨k0, k1, k2, d, e, rfl⟩
theorem watch_bursts_reads : ∀ t ∈ Tryd.f9.params.toList, Tryd.prog.readableRec t = true ∧ t < Tryd.prog.types.size := by
 rw [Tryd.params9]
 intro t ht
 simp only [List.mem_cons, List.not_mem_nil, or_false] at ht
 rcases ht with rfl | rfl | rfl
 all_goals exact ⟨by kernel_rfl, of_decide_eq_true (by kernel_rfl)⟩
set_option maxRecDepth 100000 in
theorem watch_bursts_contract (H : Type) (enc : TypeId × Value → H) (W : World) (base : Nat) (args : Array Value) (ds gs : List (DataW H)) (before : List MemPlace)
 (hval : ∀ (j : Nat) t v, Tryd.f9.params[j]? = some t → args[j]? = some v → Value.okWide Tryd.prog W .any base t v)
 (hW : DataW.Whole enc Tryd.prog Tryd.f9.params.toList Rows.watchBurstsSpec.vars false W args.toList ds gs before) (hL : laidMetH Tryd.prog Rows.watchBurstsRow.laid W) :
 Calls Tryd.prog 9 args W fun e W' => ∃ v, e = .returned v ∧ Rows.watchBurstsSpec.post enc Tryd.prog Tryd.f9 false true false false W args v W' := by
 have hW' := hW
 obtain ⟨p, q, hA0, hV, rfl, hfz, hnd⟩ := hW
 have hA : DataW.TrodAll enc Tryd.prog W 0 (fun _ => true) true Tryd.f9.params.toList args.toList ds p := hA0
 rw [Tryd.params9] at hA hval
 obtain ⟨v0, vs0, d0, ds0, p0, q0, hargs, rfl, rfl, h0, r0⟩ := trodAll_cons hA
 obtain ⟨v1, vs1, d1, ds1, p1, q1, rfl, rfl, rfl, h1, r1⟩ := trodAll_cons r0
 obtain ⟨v2, vs2, d2, ds2, p2, q2, rfl, rfl, rfl, h2, r2⟩ := trodAll_cons r1
 obtain ⟨rfl, rfl, rfl⟩ := trodAll_nil r2
 obtain rfl : args = #[v0, v1, v2] := by cases args; simp_all
 obtain ⟨rfl, rfl⟩ := trodVars_none hV
 clear hA0
 obtain ⟨cs0, rfl, t0⟩ := Tr.ofStruct (ok := (fun _ => True)) u61 (hval 0 61 v0 rfl rfl) h0 trivial
 have t1 : Tr enc prog (fun _ => True) W 22 [v1] := Tr.ofSlice u22 (hval 1 22 v1 rfl rfl) h1 trivial
 have t2 : Tr enc prog (fun _ => True) W 3 [v2] := Tr.ofInt u3 (hval 2 3 v2 rfl rfl) h2 trivial
 obtain ⟨clients, hops, noise, sv, rv, rfl⟩ := tr_plan Her.all t0
 obtain ⟨p, cap, xs, rfl, _, hok, hin⟩ := tr_wires Her.all t1
 obtain ⟨cl, e0, hcl⟩ := Tr.int u3 t2
 cases e0
 refine ((watch_bursts W clients hops noise sv rv p xs.length cap xs cl [old W] rfl hok (hin.inl []) (T10.old (table30 hL) Pick.head)) W (Sat.start W)).mono fun e W' hq => ?_
 obtain ⟨v, l', rfl, hs, rfl, rfl⟩ := hq
 exact ⟨_, rfl, law_post laidOut_ rfl rfl u4 watch_bursts_reads hW' rfl rfl rfl hs.below⟩
set_option maxRecDepth 100000 in
theorem watch_bursts_lifted (os : Os) (started : os.Started) (H : Type) (enc : TypeId × Value → H) (F : Stop.Interp) :
 ReturnsInHanded {} Tryd.checked os 9 .any ((OpenSpec.ofChange Rows.watchBurstsSpec).preRow enc Tryd.prog Tryd.f9 Rows.watchBurstsRow.domain false Rows.watchBurstsRow.laid) (((OpenSpec.ofChange Rows.watchBurstsSpec).at F).post enc Tryd.prog Tryd.f9 false true false false) := by
 have hx : ∃ places, DataW.whole enc Tryd.prog ((laidWorld os).forCall (fun _ _ => 0) ⟨#[], #[.agg #[.int .i64 0, .int .i64 0, .int .i64 0, .slice none 0 0, .slice none 0 0], .slice none 0 0, .int .i64 0], []⟩).memory Tryd.f9.params.toList Rows.watchBurstsSpec.vars false (#[.agg #[.int .i64 0, .int .i64 0, .int .i64 0, .slice none 0 0, .slice none 0 0], .slice none 0 0, .int .i64 0] : Array Value).toList 8 = some ([.agg [.lit (.int .i64 0), .lit (.int .i64 0), .lit (.int .i64 0), .nil, .nil], .nil, .lit (.int .i64 0)], [], places) := ⟨[], by kernel_rfl⟩
 obtain ⟨places, hx⟩ := hx
 refine returnsInHanded_of_row (C := Tryd.checked) (s := OpenSpec.ofChange Rows.watchBurstsSpec) own_ started (by kernel_rfl) Tryd.func9
  (witness_row_at (enc := enc) (C := Tryd.checked) false (laidWorld os) #[.agg #[.int .i64 0, .int .i64 0, .int .i64 0, .slice none 0 0, .slice none 0 0], .slice none 0 0, .int .i64 0] rfl (by kernel_rfl) (by kernel_rfl) (by kernel_rfl)
    (OpenSpec.preRow_of_cond 8 hx (by kernel_rfl) (fun k hk => by cases hk) (by kernel_rfl) (laid_met os _))) ?_
 intro W base args ds gs before hval hW _ hk _ hL _ _
 exact watch_bursts_contract H enc W base args ds gs before hval hW hL
theorem watch_bursts_said : Rows.WatchBurstsSaid :=
 OpenClaim.holds_of_cond 9 Tryd.f9 rfl rfl rfl rfl rfl rfl rfl ⟨rfl, rfl, rfl, rfl, rfl⟩ rfl rfl rfl rfl rfl (by kernel_rfl) Tryd.func9 (by kernel_rfl)
  (of_decide_eq_true (by kernel_rfl)) (by unfold Func.isWrapper; first | (rw [if_pos (by decide +kernel)]; kernel_rfl) | (rw [if_neg (by decide +kernel)]; exact ⟨rfl, rfl⟩))
  (fun os started H enc _ F => by rw [OpenClaim.pre_eq_preRow]; exact watch_bursts_lifted os started H enc F)
set_option maxRecDepth 100000 in
theorem watch_bursts_plain (f : FuncId) (fn : Func) (hf : Tryd.pinned.checked.prog.funcNamed Rows.watchBurstsRow.func = some f) (hfn : Tryd.pinned.checked.prog.funcs[f]? = some fn) :
 false = Tryd.pinned.checked.prog.looks [] ∧ ∀ (j : Nat) t, fn.params[j]? = some t → Tryd.pinned.checked.prog.wantsStandIn t = false := by
 obtain rfl : f = 9 := Option.some.inj ((show Tryd.prog.funcNamed Rows.watchBurstsRow.func = some 9 by kernel_rfl).symm.trans hf) |>.symm
 obtain rfl : fn = Tryd.f9 := (Option.some.inj (Tryd.func9.symm.trans hfn)).symm
 refine ⟨by kernel_rfl, fun j t ht => ?_⟩
 rw [Tryd.params9] at ht
 have hm := Array.mem_of_getElem? ht
 simp only [List.mem_toArray, List.mem_cons, List.not_mem_nil, or_false] at hm
 rcases hm with rfl | rfl | rfl
 · exact (show Tryd.prog.wantsStandIn 61 = false by kernel_rfl)
 · exact (show Tryd.prog.wantsStandIn 22 = false by kernel_rfl)
 · exact (show Tryd.prog.wantsStandIn 3 = false by kernel_rfl)
theorem watch_bursts_holds : Rows.WatchBurstsCardSaid :=
 Claim7.holds_tied_plain_at .later [] _ _ _ _ watch_bursts_said (fun _ h => by cases h) (by kernel_rfl) (fun _ h => by cases h) watchBursts_row_tie rfl ⟨rfl, rfl⟩ (by kernel_rfl) rfl watch_bursts_plain (by kernel_rfl)
end
end Go.Proofs.YtfohdnclpbipeaaDoor
