
/- Chapter 24: which commands may be, and their lines. -/
import Derived.Test.YtccagffapohkhaaGreatDoorJoin9
import Derived.Test.YtccagffapohkhaaGreatDoorJoin11
namespace Go.Proofs.YtccagffapohkhaaGreatDoor
open Go Go.SL
section
open Go.ChangeShapes Go.WideShapes Go.ChangeAt Go.RowKit
theorem line_prints_reads : ∀ t ∈ Tryz.f9.params.toList, Tryz.prog.readableRec t = true ∧ t < Tryz.prog.types.size := by
  rw [Tryz.params9]
  intro t ht
  simp only [List.mem_cons, List.not_mem_nil, or_false] at ht
  rcases ht with rfl
  all_goals exact ⟨by kernel_rfl, of_decide_eq_true (by kernel_rfl)⟩
set_option maxRecDepth 100000 in
theorem line_prints_contract (H : Type) (enc : TypeId × Value → H) (W : World) (base : Nat) (args : Array Value) (ds gs : List (DataW H)) (before : List MemPlace)
    (hval : ∀ (j : Nat) t v, Tryz.f9.params[j]? = some t → args[j]? = some v → Value.okWide Tryz.prog W .any base t v)
    (hW : DataW.Whole enc Tryz.prog Tryz.f9.params.toList Rows.linePrintsSpec.vars false W args.toList ds gs before) (hL : laidMetH Tryz.prog Rows.linePrintsRow.laid W) :
    Calls Tryz.prog 9 args W fun e W' => ∃ v, e = .returned v ∧ Rows.linePrintsSpec.post enc Tryz.prog Tryz.f9 false true false false W args v W' := by
  have hW' := hW
  obtain ⟨p, q, hA0, hV, rfl, hfz, hnd⟩ := hW
  have hA : DataW.TrodAll enc Tryz.prog W 0 (fun _ => true) true Tryz.f9.params.toList args.toList ds p := hA0
  rw [Tryz.params9] at hA hval
  obtain ⟨v0, vs0, d0, ds0, p0, q0, hargs, rfl, rfl, h0, r0⟩ := trodAll_cons hA
  obtain ⟨rfl, rfl, rfl⟩ := trodAll_nil r0
  obtain rfl : args = #[v0] := by cases args; simp_all
  obtain ⟨rfl, rfl⟩ := trodVars_none hV
  clear hA0
  obtain ⟨cs0, rfl, t0⟩ := Tr.ofStruct (ok := (fun _ => True)) u27 (hval 0 27 v0 rfl rfl) h0 trivial
  obtain ⟨c, rfl, hk, hc⟩ := tr_cmd Her.all t0
  refine ((line_prints W c [old W] hk hc (K24.old (table24 hL) (syn24 hL) (rng24 hL) Pick.head)) W (Sat.start W)).mono fun e W' hq => ?_
  obtain ⟨v, l', rfl, hs, rfl, rfl⟩ := hq
  exact ⟨_, rfl, law_post laidOut_ rfl rfl u4 line_prints_reads hW' rfl rfl rfl hs.below⟩
set_option maxRecDepth 100000 in
theorem line_prints_lifted (os : Os) (started : os.Started) (H : Type) (enc : TypeId × Value → H) (F : Stop.Interp) :
    ReturnsInHanded {} Tryz.checked os 9 .any ((OpenSpec.ofChange Rows.linePrintsSpec).preRow enc Tryz.prog Tryz.f9 Rows.linePrintsRow.domain false Rows.linePrintsRow.laid) (((OpenSpec.ofChange Rows.linePrintsSpec).at F).post enc Tryz.prog Tryz.f9 false true false false) := by
  have hx : ∃ places, DataW.whole enc Tryz.prog ((laidWorld os).forCall (fun _ _ => 0) ⟨#[], #[.agg (Value.int .i64 0 :: Value.string ⟨#[]⟩ :: (List.replicate 32 (Value.int .u8 0) ++ ([Value.string ⟨#[]⟩, Value.int .i64 0] : List Value))).toArray], []⟩).memory Tryz.f9.params.toList Rows.linePrintsSpec.vars false (#[.agg (Value.int .i64 0 :: Value.string ⟨#[]⟩ :: (List.replicate 32 (Value.int .u8 0) ++ ([Value.string ⟨#[]⟩, Value.int .i64 0] : List Value))).toArray] : Array Value).toList 8 = some ([.agg [.lit (.int .i64 0), .lit (.string []), .agg (List.replicate 32 (.lit (.int .u8 0))), .lit (.string []), .lit (.int .i64 0)]], [], places) := ⟨[], by kernel_rfl⟩
  obtain ⟨places, hx⟩ := hx
  refine returnsInHanded_of_row (C := Tryz.checked) (s := OpenSpec.ofChange Rows.linePrintsSpec) own_ started (by kernel_rfl) Tryz.func9
    (witness_row_at (enc := enc) (C := Tryz.checked) false (laidWorld os) #[.agg (Value.int .i64 0 :: Value.string ⟨#[]⟩ :: (List.replicate 32 (Value.int .u8 0) ++ ([Value.string ⟨#[]⟩, Value.int .i64 0] : List Value))).toArray] rfl (by kernel_rfl) (by kernel_rfl) (by kernel_rfl)
      (OpenSpec.preRow_of_cond 8 hx (by kernel_rfl) (fun k hk => by cases hk) (by kernel_rfl) (laid_met os _))) ?_
  intro W base args ds gs before hval hW _ hk _ hL _ _
  exact line_prints_contract H enc W base args ds gs before hval hW hL
theorem line_prints_said : Rows.LinePrintsSaid :=
  OpenClaim.holds_of_cond 9 Tryz.f9 rfl rfl rfl rfl rfl rfl rfl ⟨rfl, rfl, rfl, rfl, rfl⟩ rfl rfl rfl rfl rfl (by kernel_rfl) Tryz.func9 (by kernel_rfl)
    (of_decide_eq_true (by kernel_rfl)) (by unfold Func.isWrapper; first | (rw [if_pos (by decide +kernel)]; kernel_rfl) | (rw [if_neg (by decide +kernel)]; exact ⟨rfl, rfl⟩))
    (fun os started H enc _ F => by rw [OpenClaim.pre_eq_preRow]; exact line_prints_lifted os started H enc F)
set_option maxRecDepth 100000 in
theorem line_prints_plain (f : FuncId) (fn : Func) (hf : Tryz.pinned.checked.prog.funcNamed Rows.linePrintsRow.func = some f) (hfn : Tryz.pinned.checked.prog.funcs[f]? = some fn) :
    true = Tryz.pinned.checked.prog.looks [] ∧ ∀ (j : Nat) t, fn.params[j]? = some t → Tryz.pinned.checked.prog.wantsStandIn t = false := by
  obtain rfl : f = 9 := Option.some.inj ((show Tryz.prog.funcNamed Rows.linePrintsRow.func = some 9 by kernel_rfl).symm.trans hf) |>.symm
  obtain rfl : fn = Tryz.f9 := (Option.some.inj (Tryz.func9.symm.trans hfn)).symm
  refine ⟨by kernel_rfl, fun j t ht => ?_⟩
  rw [Tryz.params9] at ht
  have hm := Array.mem_of_getElem? ht
  simp only [List.mem_toArray, List.mem_cons, List.not_mem_nil, or_false] at hm
  rcases hm with rfl
  · exact (show Tryz.prog.wantsStandIn 27 = false by kernel_rfl)
theorem line_prints_holds : Rows.LinePrintsCardSaid :=
  Claim7.holds_tied_plain_at .later [] _ _ _ _ line_prints_said (fun _ h => by cases h) (by kernel_rfl) (fun _ h => by cases h) linePrints_row_tie rfl ⟨rfl, rfl⟩ (by kernel_rfl) rfl line_prints_plain (by kernel_rfl)
end
end Go.Proofs.YtccagffapohkhaaGreatDoor
