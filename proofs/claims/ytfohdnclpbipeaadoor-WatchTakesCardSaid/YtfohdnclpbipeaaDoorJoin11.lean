import Derived.Test.YtfohdnclpbipeaaDoorJoin9
import Derived.Test.YtfohdnclpbipeaaDoorJoin10
namespace Go.Proofs.YtfohdnclpbipeaaDoor
section
open Go Go.SL
section
attribute [local irreducible] J JL JE JM LS Y Fc RV Code.wp wpList Code.wpIn wpListIn
attribute [local irreducible] Yc
variable (E : World)
theorem intsU_spec (p1 p2 : Option Addr) (n c1 c2 : Nat) (xs : List Int) (l : List HProp) (hn : xs.length = n) (hn8 : n ≤ 1000000) (h1 : InL l p1 n c1 (ints .u64 xs)) (h2 : InL l p2 n c2 (ints .u64 xs)) :
    Fc prog E 20 [.slice p1 n c1, .slice p2 n c2].toArray l (fun v l' => v = .bool true ∧ l' = l) := by
  refine Fc.eqs ?_
  refine Fc.of_body (c := ?codeC) Tryd.func20 ?hb Tryd.ntmps20 ?hl ?_
  case hb => exact rfl
  case hl => exact rfl
  refine J.seq ?_
  refine J.region ?_
  refine JL.step (y_assign rfl) rfl rfl rfl ?_
  refine JL.nil ?_
  refine JE.then_normal ?_
  refine J.seq ?_
  refine J.seq ?_
  refine J.region ?_
  refine JL.step (y_move rfl) rfl rfl rfl (JL.step (y_len_slice hT rfl rfl rfl) rfl rfl rfl (JL.step (y_move rfl) rfl rfl rfl (JL.step (y_len_slice hT rfl rfl rfl) rfl rfl rfl (JL.step (y_neq rfl rfl) rfl rfl rfl ?_))))
  refine JL.nil ?_
  refine JE.then_normal ?_
  refine J.cond_f rfl (by (first | rfl | assumption | (simp; done) | (simp; omega))) ?_
  refine J.skip ?_
  refine JE.then_normal ?_
  refine J.seq ?_
  refine J.seq ?_
  refine J.region ?_
  refine JL.step (y_move rfl) rfl rfl rfl (JL.step (y_len_slice hT rfl rfl rfl) rfl rfl rfl (JL.step (y_move rfl) rfl rfl rfl ?_))
  refine JL.nil ?_
  refine JE.then_normal ?_
  refine J.block ?_
  refine J.loop (α := Nat) (fun i => i ≤ n) (fun i => [(0, .slice p1 n c1), (1, .slice p2 n c2), (12, .int .i64 n), (13, .int .i64 i)]) (fun _ => l) (fun i => n - i) 0 (Nat.zero_le _) ⟨rfl, rfl, rfl, rfl, trivial⟩ (fun w h => h) ?_
  intro i hi
  try dsimp only
  refine J.seq ?_
  refine J.region ?_
  refine JL.step (y_lss rfl rfl) rfl rfl rfl ?_
  refine JL.nil ?_
  refine JE.then_normal ?_
  refine J.seq ?_
  first | apply J.cond_dec rfl | apply J.cond rfl
  case' ht =>
    intro h
    try (first | (exfalso; omega) | (cases h; done) | (exfalso; simp at h; done) | subst h)
    all_goals
      refine J.skip ?_
  case' hf =>
    intro h
    try (first | (exfalso; omega) | (cases h; done) | (exfalso; simp at h; done) | subst h)
    all_goals
      refine J.exit ?_
      refine JE.then_exit ?_
      refine JE.then_exit ?_
      refine JE.block_exit ?_
      refine JE.then_normal ?_
      refine J.seq ?_
      refine J.region ?_
      refine JL.step (y_assign rfl) rfl rfl rfl ?_
      refine JL.nil ?_
      refine JE.then_normal ?_
      refine J.ret ?_
      refine JE.ret1 (.inl rfl) rfl rfl (by (first | exact RV.tmp rfl | exact RV.cell1 hT rfl rfl rfl (by (exact Rd1.row (by (repeat (first | exact Pick.head | apply Pick.tail | apply Pick.app))) (by rfl))) | exact RV.cellN hT rfl rfl rfl (by (first | exact RdN.rowAll (by (repeat (first | exact Pick.head | apply Pick.tail | apply Pick.app))) | exact RdN.own (by (repeat (first | exact Pick.head | apply Pick.tail | apply Pick.app))))) (by (first | rfl | assumption | (simp; done) | omega)))) ?_
      exact ⟨rfl, fun w h => h⟩
  all_goals refine JE.then_normal ?_
  all_goals
    refine J.seq ?_
    refine J.block ?_
    refine J.seq ?_
    refine J.region ?_
    refine JL.step (y_move rfl) rfl rfl rfl (JL.step (y_assign rfl) rfl rfl rfl ?_)
    refine JL.nil ?_
    refine JE.then_normal ?_
    refine J.seq ?_
    obtain ⟨x, hh⟩ : ∃ x, xs[i]? = some x := ⟨xs[i]'(by omega), List.getElem?_eq_getElem _⟩
    obtain ⟨g1, o1, rfl, hr1⟩ := h1.addr (by omega)
    obtain ⟨g2, o2, rfl, hr2⟩ := h2.addr (by omega)
    refine J.draw _ _ [(0, .q), (1, .q), (2, .q), (3, .q), (4, .q), (5, .q), (6, .q), (7, .q), (8, .q)] mixed (by kernel_rfl) (Split.nil) ?_
    refine JM.quiet rfl rfl rfl rfl (fun m => y_move rfl) ?_
    refine JM.quiet rfl rfl rfl rfl (fun m => y_move rfl) ?_
    refine JM.quiet rfl rfl rfl rfl (fun m => y_indexAddr_slice hT rfl rfl rfl rfl rfl (by (first | omega | exact Nat.le_of_ble_eq_true rfl | decide | (simp; omega))) (by (first | omega | exact Nat.le_of_ble_eq_true rfl | decide | (simp; omega)))) ?_
    refine JM.quiet rfl rfl rfl rfl (fun m => y_load1 hT rfl rfl rfl (Rd1.elem ((hr1 []).app m) (by rw [Int.toNat_natCast]; unfold ints; rw [List.getElem?_map, hh]; rfl))) ?_
    refine JM.quiet rfl rfl rfl rfl (fun m => y_move rfl) ?_
    refine JM.quiet rfl rfl rfl rfl (fun m => y_move rfl) ?_
    refine JM.quiet rfl rfl rfl rfl (fun m => y_indexAddr_slice hT rfl rfl rfl rfl rfl (by (first | omega | exact Nat.le_of_ble_eq_true rfl | decide | (simp; omega))) (by (first | omega | exact Nat.le_of_ble_eq_true rfl | decide | (simp; omega)))) ?_
    refine JM.quiet rfl rfl rfl rfl (fun m => y_load1 hT rfl rfl rfl (Rd1.elem ((hr2 []).app m) (by rw [Int.toNat_natCast]; unfold ints; rw [List.getElem?_map, hh]; rfl))) ?_
    refine JM.quiet rfl rfl rfl rfl (fun m => y_neq rfl rfl) ?_
    refine JM.nil ?_
    refine JE.then_normal ?_
    refine J.cond_f rfl (by (first | rfl | assumption | (simp; done) | (simp; omega))) ?_
    refine J.skip ?_
    refine JE.block_normal ?_
    refine JE.then_normal ?_
    refine J.region ?_
    refine JL.step (y_add rfl rfl (by (first | exact wrap_i64 (by omega) (by omega) | rfl))) rfl rfl rfl ?_
    refine JL.step (y_move rfl) rfl rfl rfl ?_
    refine JL.nil ?_
  all_goals
    exact JE.round (s := i) (i + 1) (by omega) ⟨rfl, rfl, rfl, rfl, trivial⟩ (fun w h => h) (by omega)
theorem watch_runs (p : Option Addr) (n c : Nat) (xs : List Int) (k : Int) (l : List HProp) (hn : xs.length = n) (hin : InL l p n c (ints .u64 xs)) (ht : T10 E l) :
    Fc prog E 4 [.slice p n c, .int .i64 k].toArray l (fun v l' => v = .bool true ∧ l' = l) := by
  refine Fc.eqs ?_
  refine Fc.of_body (c := ?codeC) Tryd.func4 ?hb Tryd.ntmps4 ?hl ?_
  case hb => exact rfl
  case hl => exact rfl
  refine J.seq ?_
  refine J.region ?_
  refine JL.step (y_assign rfl) rfl rfl rfl ?_
  refine JL.nil ?_
  refine JE.then_normal ?_
  refine J.seq ?_
  refine J.seq ?_
  refine J.region ?_
  refine JL.loud rfl (l_callF e11 rfl rfl (wakes_spec E _ ht) ?_)
  rintro _ l1 ⟨rfl, e1⟩
  obtain rfl := e1.symm
  refine JL.step (y_not rfl) rfl rfl rfl ?_
  refine JL.nil ?_
  refine JE.then_normal ?_
  refine J.cond_f rfl (by (first | rfl | assumption | (simp; done) | (simp; omega))) ?_
  refine J.skip ?_
  refine JE.then_normal ?_
  refine J.seq ?_
  obtain ⟨gb, ob, hp0, hpt⟩ := hin.part (lo := 0) (hi := min n 200) (k := 1) (Nat.zero_le _) (Nat.min_le_left _ _) (by simp [ints, hn])
  have hle := hin.le
  refine J.region ?_
  refine JL.step (y_move rfl) rfl rfl rfl (JL.step (y_move rfl) rfl rfl rfl (JL.step (y_len_slice hT rfl rfl rfl) rfl rfl rfl ?_))
  refine JL.step (v := .int .i64 ((min n 200 : Nat) : Int)) (y_min2 rfl rfl (by omega)) rfl rfl rfl ?_
  refine JL.step (y_slice (lo := 0) (hi := min n 200) hT rfl rfl rfl rfl (.inl ⟨rfl, rfl⟩) (.inr ⟨_, _, _, rfl, rfl, rfl⟩) (by omega) (by omega) hin.le hp0) rfl rfl rfl ?_
  refine JL.step (y_assign rfl) rfl rfl rfl ?_
  refine JL.nil ?_
  refine JE.then_normal ?_
  refine J.seq ?_
  obtain ⟨m, hm⟩ : ∃ m, min n 200 - 0 = m := ⟨_, rfl⟩
  obtain ⟨q, hq⟩ : ∃ q, (if c = 0 then p else some ⟨gb, ob + 0 * i35.size, none⟩) = q := ⟨_, rfl⟩
  obtain ⟨c2, hc2⟩ : ∃ c2, c - 0 = c2 := ⟨_, rfl⟩
  have hm8 : m ≤ 200 ∧ m ≤ n := by omega
  have e0 : ((ints .u64 xs).drop (0 * 1)).take (m * 1) = ints .u64 (xs.take m) := by simp [ints, List.map_take]
  have hxm : (xs.take m).length = m := by rw [List.length_take]; omega
  rw [hm, hc2] at hpt ⊢
  rw [e0] at hpt
  have hin2 : InL l q m c2 (ints .u64 (xs.take m)) := by rw [← hq]; exact hpt
  rw [hq]
  obtain ⟨zs, hzs⟩ : ∃ zs, xs.take m = zs := ⟨_, rfl⟩
  rw [hzs] at hin2 hxm
  refine J.region ?_
  refine JL.loud rfl (l_buildSlice0 hT rfl rfl rfl rfl (fun b2 => ?_))
  refine JL.step (y_move rfl) rfl rfl rfl ?_
  refine JL.loud rfl (l_appendIn hT rfl rfl rfl rfl rfl rfl rfl rfl (by (repeat (first | exact Pick.head | apply Pick.tail | apply Pick.app))) (hin2.cons _) (by rw [show i35.size = 1 from rfl, ints, List.length_map]; omega) (by intro u hu; obtain ⟨z, _, rfl⟩ := List.mem_map.1 hu; rfl) (by rw [show i35.bytes = 8 from rfl]; omega) (by omega) rfl (fun a3 c3 hc3 => ?_))
  refine JL.step (y_assign rfl) rfl rfl rfl ?_
  refine JL.nil ?_
  refine JE.then_normal ?_
  refine J.seq ?_
  refine J.pre (l' := own 35 1 (.slice a3 m c3) m (ints .u64 zs) :: l) (fun w s => by rw [Nat.zero_add] at s; exact s) ?_
  refine J.fact (fun w s => Sat.own_at (s.pick Pick.head)) fun oo => ?_
  rw [Nat.zero_add]
  have hoo := oo.inl (l := own 35 1 (.slice a3 m c3) m (ints .u64 zs) :: l) Pick.head
  refine J.region ?_
  refine JL.step (y_move rfl) rfl rfl rfl (JL.step (y_move rfl) rfl rfl rfl ?_)
  refine JL.loud rfl (l_callF e18 rfl rfl (runs_spec E a3 m c3 zs k _ hxm (by omega) hoo) ?_)
  rintro _ _ ⟨z, rfl, hz1, hz2, rfl⟩
  refine JL.step (y_move rfl) rfl rfl rfl (JL.step (y_move rfl) rfl rfl rfl ?_)
  refine JL.loud rfl (l_callF e19 rfl rfl (rruns_spec E q m c2 zs k _ hxm (by omega) (hin2.cons _)) ?_)
  rintro _ _ ⟨rfl, rfl⟩
  refine JL.step (v := .bool true) (Y.val (y_eql rfl rfl) (by
    rw [decide_eq_true]
    by_cases h : k < 1
    · rw [if_pos h, hz1 h]
    · obtain ⟨ys, h1, h2, rfl⟩ := hz2 h
      rw [if_neg h, runs_same h h1 h2])) rfl rfl rfl ?_
  refine JL.step (y_move rfl) rfl rfl rfl ?_
  all_goals (first | (refine JL.gsplit_dec rfl rfl rfl (fun h => ?_) (fun h => ?_) <;> try (first | (exfalso; omega) | exact absurd rfl h)) | (refine JL.gsplit rfl rfl rfl (fun h => ?_) (fun h => ?_) <;> try (first | cases h | (exfalso; simp at h; done))) | skip)
  all_goals (first | refine JL.gskip rfl rfl rfl rfl rfl rfl ?_ | refine JL.gskipU rfl rfl rfl rfl rfl ?_ | refine JL.gstep rfl rfl rfl (y_move rfl) rfl rfl ?_)
  all_goals (first | refine JL.gskip rfl rfl rfl rfl rfl rfl ?_ | refine JL.gskipU rfl rfl rfl rfl rfl ?_ | refine JL.gstep rfl rfl rfl (y_move rfl) rfl rfl ?_)
  all_goals (first | refine JL.gskip rfl rfl rfl rfl rfl rfl ?_ | refine JL.gskipU rfl rfl rfl rfl rfl ?_ | (refine JL.gloud rfl rfl rfl (l_callF e20 rfl rfl (intsU_spec E a3 q m c3 c2 zs _ hxm (by omega) hoo (hin2.cons _)) ?_); rintro _ _ ⟨rfl, rfl⟩))
  all_goals (refine JL.step (y_pick rfl rfl rfl) rfl rfl rfl ?_)
  all_goals (refine JL.step (y_assign rfl) rfl rfl rfl ?_)
  all_goals refine JL.nil ?_
  all_goals refine JE.then_normal ?_
  all_goals
    refine J.ret ?_
    refine JE.ret1 (.inl rfl) rfl rfl (by (first | exact RV.tmp rfl | exact RV.cell1 hT rfl rfl rfl (by (exact Rd1.row (by (repeat (first | exact Pick.head | apply Pick.tail | apply Pick.app))) (by rfl))) | exact RV.cellN hT rfl rfl rfl (by (first | exact RdN.rowAll (by (repeat (first | exact Pick.head | apply Pick.tail | apply Pick.app))) | exact RdN.own (by (repeat (first | exact Pick.head | apply Pick.tail | apply Pick.app))))) (by (first | rfl | assumption | (simp; done) | omega)))) ?_
    exact ⟨rfl, fun w h => h.sup (by (repeat (first | exact Sup.refl | apply Sup.cons (by (repeat (first | exact Pick.head | apply Pick.tail | apply Pick.app))) | apply Sup.app | apply Sup.skip | apply Sup.skips)))⟩
end
section
open Go.ChangeShapes Go.WideShapes Go.ChangeAt Go.RowKit
theorem tr_u64s {H : Type} {enc : TypeId × Value → H} {w : World} {ok : DataW H → Prop} {L : Nat → Prop} {v : Value} (her : Her ok L) (h : Tr enc prog ok w 32 [v]) : ∃ (p : Option Addr) (cap : Nat) (bs : List Int), v = .slice p bs.length cap ∧ L bs.length ∧ InW w p bs.length cap (ints .u64 bs) := by
  obtain ⟨p, cap, xs, h1, hL, hk, h2⟩ := Tr.slice (encA := fun b => [Value.int .u64 b]) (okA := fun _ => True) (k := 1) her u32 (by kernel_rfl) (by decide) (fun _ _ => rfl) (fun cs hc => by
    obtain ⟨b, hb, r⟩ := Tr.int u35 hc
    exact ⟨b, hb, trivial⟩) h
  have e := flatMap_one (Value.int .u64) xs
  exact ⟨p, cap, xs, h1, hL, by rw [show ints .u64 xs = xs.map (Value.int .u64) from rfl, ← e]; exact h2⟩
theorem watch_runs_reads : ∀ t ∈ Tryd.f4.params.toList, Tryd.prog.readableRec t = true ∧ t < Tryd.prog.types.size := by
  rw [Tryd.params4]
  intro t ht
  simp only [List.mem_cons, List.not_mem_nil, or_false] at ht
  rcases ht with rfl | rfl
  all_goals exact ⟨by kernel_rfl, of_decide_eq_true (by kernel_rfl)⟩
set_option maxRecDepth 100000 in
theorem watch_runs_contract (H : Type) (enc : TypeId × Value → H) (W : World) (base : Nat) (args : Array Value) (ds gs : List (DataW H)) (before : List MemPlace)
    (hval : ∀ (j : Nat) t v, Tryd.f4.params[j]? = some t → args[j]? = some v → Value.okWide Tryd.prog W .any base t v)
    (hW : DataW.Whole enc Tryd.prog Tryd.f4.params.toList Rows.watchRunsSpec.vars false W args.toList ds gs before) (hL : laidMetH Tryd.prog Rows.watchRunsRow.laid W) :
    Calls Tryd.prog 4 args W fun e W' => ∃ v, e = .returned v ∧ Rows.watchRunsSpec.post enc Tryd.prog Tryd.f4 false true false false W args v W' := by
  have hW' := hW
  obtain ⟨p, q, hA0, hV, rfl, hfz, hnd⟩ := hW
  have hA : DataW.TrodAll enc Tryd.prog W 0 (fun _ => true) true Tryd.f4.params.toList args.toList ds p := hA0
  rw [Tryd.params4] at hA hval
  obtain ⟨v0, vs0, d0, ds0, p0, q0, hargs, rfl, rfl, h0, r0⟩ := trodAll_cons hA
  obtain ⟨v1, vs1, d1, ds1, p1, q1, rfl, rfl, rfl, h1, r1⟩ := trodAll_cons r0
  obtain ⟨rfl, rfl, rfl⟩ := trodAll_nil r1
  obtain rfl : args = #[v0, v1] := by cases args; simp_all
  obtain ⟨rfl, rfl⟩ := trodVars_none hV
  clear hA0
  have t0 : Tr enc prog (fun _ => True) W 32 [v0] := Tr.ofSlice u32 (hval 0 32 v0 rfl rfl) h0 trivial
  have t1 : Tr enc prog (fun _ => True) W 3 [v1] := Tr.ofInt u3 (hval 1 3 v1 rfl rfl) h1 trivial
  obtain ⟨p, cap, xs, rfl, _, hin⟩ := tr_u64s Her.all t0
  obtain ⟨k, e0, hk⟩ := Tr.int u3 t1
  cases e0
  refine ((watch_runs W p xs.length cap xs k [old W] rfl (hin.inl []) (T10.old (table30 hL) Pick.head)) W (Sat.start W)).mono fun e W' hq => ?_
  obtain ⟨v, l', rfl, hs, rfl, rfl⟩ := hq
  exact ⟨_, rfl, law_post laidOut_ rfl rfl u4 watch_runs_reads hW' rfl rfl rfl hs.below⟩
set_option maxRecDepth 100000 in
theorem watch_runs_lifted (os : Os) (started : os.Started) (H : Type) (enc : TypeId × Value → H) (F : Stop.Interp) :
    ReturnsInHanded {} Tryd.checked os 4 .any ((OpenSpec.ofChange Rows.watchRunsSpec).preRow enc Tryd.prog Tryd.f4 Rows.watchRunsRow.domain false Rows.watchRunsRow.laid) (((OpenSpec.ofChange Rows.watchRunsSpec).at F).post enc Tryd.prog Tryd.f4 false true false false) := by
  have hx : ∃ places, DataW.whole enc Tryd.prog ((laidWorld os).forCall (fun _ _ => 0) ⟨#[], #[.slice none 0 0, .int .i64 0], []⟩).memory Tryd.f4.params.toList Rows.watchRunsSpec.vars false (#[.slice none 0 0, .int .i64 0] : Array Value).toList 8 = some ([.nil, .lit (.int .i64 0)], [], places) := ⟨[], by kernel_rfl⟩
  obtain ⟨places, hx⟩ := hx
  refine returnsInHanded_of_row (C := Tryd.checked) (s := OpenSpec.ofChange Rows.watchRunsSpec) own_ started (by kernel_rfl) Tryd.func4
    (witness_row_at (enc := enc) (C := Tryd.checked) false (laidWorld os) #[.slice none 0 0, .int .i64 0] rfl (by kernel_rfl) (by kernel_rfl) (by kernel_rfl)
      (OpenSpec.preRow_of_cond 8 hx (by kernel_rfl) (fun k hk => by cases hk) (by kernel_rfl) (laid_met os _))) ?_
  intro W base args ds gs before hval hW _ hk _ hL _ _
  exact watch_runs_contract H enc W base args ds gs before hval hW hL
theorem watch_runs_said : Rows.WatchRunsSaid :=
  OpenClaim.holds_of_cond 4 Tryd.f4 rfl rfl rfl rfl rfl rfl rfl ⟨rfl, rfl, rfl, rfl, rfl⟩ rfl rfl rfl rfl rfl (by kernel_rfl) Tryd.func4 (by kernel_rfl)
    (of_decide_eq_true (by kernel_rfl)) (by unfold Func.isWrapper; first | (rw [if_pos (by decide +kernel)]; kernel_rfl) | (rw [if_neg (by decide +kernel)]; exact ⟨rfl, rfl⟩))
    (fun os started H enc _ F => by rw [OpenClaim.pre_eq_preRow]; exact watch_runs_lifted os started H enc F)
set_option maxRecDepth 100000 in
theorem watch_runs_plain (f : FuncId) (fn : Func) (hf : Tryd.pinned.checked.prog.funcNamed Rows.watchRunsRow.func = some f) (hfn : Tryd.pinned.checked.prog.funcs[f]? = some fn) :
    false = Tryd.pinned.checked.prog.looks [] ∧ ∀ (j : Nat) t, fn.params[j]? = some t → Tryd.pinned.checked.prog.wantsStandIn t = false := by
  obtain rfl : f = 4 := Option.some.inj ((show Tryd.prog.funcNamed Rows.watchRunsRow.func = some 4 by kernel_rfl).symm.trans hf) |>.symm
  obtain rfl : fn = Tryd.f4 := (Option.some.inj (Tryd.func4.symm.trans hfn)).symm
  refine ⟨by kernel_rfl, fun j t ht => ?_⟩
  rw [Tryd.params4] at ht
  have hm := Array.mem_of_getElem? ht
  simp only [List.mem_toArray, List.mem_cons, List.not_mem_nil, or_false] at hm
  rcases hm with rfl | rfl
  · exact (show Tryd.prog.wantsStandIn 32 = false by kernel_rfl)
  · exact (show Tryd.prog.wantsStandIn 3 = false by kernel_rfl)
theorem watch_runs_holds : Rows.WatchRunsCardSaid :=
  Claim7.holds_tied_plain_at .later [] _ _ _ _ watch_runs_said (fun _ h => by cases h) (by kernel_rfl) (fun _ h => by cases h) watchRuns_row_tie rfl ⟨rfl, rfl⟩ (by kernel_rfl) rfl watch_runs_plain (by kernel_rfl)
end
end
end Go.Proofs.YtfohdnclpbipeaaDoor
