
/- Chapter 24: replies and their lines lead to each other. -/
import Derived.Test.YtccagffapohkhaaGreatDoorJoin9
import Derived.Test.YtccagffapohkhaaGreatDoorJoin11
namespace Go.Proofs.YtccagffapohkhaaGreatDoor
open Go Go.SL
section
open Go.ChangeShapes Go.WideShapes Go.ChangeAt Go.RowKit
theorem line_there_reads : ∀ t ∈ Tryz.f6.params.toList, Tryz.prog.readableRec t = true ∧ t < Tryz.prog.types.size := by
  rw [Tryz.params6]
  intro t ht
  simp only [List.mem_cons, List.not_mem_nil, or_false] at ht
  rcases ht with rfl | rfl
  all_goals exact ⟨by kernel_rfl, of_decide_eq_true (by kernel_rfl)⟩
set_option maxRecDepth 100000 in
theorem line_there_contract (H : Type) (enc : TypeId × Value → H) (W : World) (base : Nat) (args : Array Value) (ds gs : List (DataW H)) (before : List MemPlace)
    (hval : ∀ (j : Nat) t v, Tryz.f6.params[j]? = some t → args[j]? = some v → Value.okWide Tryz.prog W .any base t v)
    (hW : DataW.Whole enc Tryz.prog Tryz.f6.params.toList Rows.lineThereSpec.vars false W args.toList ds gs before) (hL : laidMetH Tryz.prog Rows.lineThereRow.laid W) :
    Calls Tryz.prog 6 args W fun e W' => ∃ v, e = .returned v ∧ Rows.lineThereSpec.post enc Tryz.prog Tryz.f6 false true false false W args v W' := by
  have hW' := hW
  obtain ⟨p, q, hA0, hV, rfl, hfz, hnd⟩ := hW
  have hA : DataW.TrodAll enc Tryz.prog W 0 (fun _ => true) true Tryz.f6.params.toList args.toList ds p := hA0
  rw [Tryz.params6] at hA hval
  obtain ⟨v0, vs0, d0, ds0, p0, q0, hargs, rfl, rfl, h0, r0⟩ := trodAll_cons hA
  obtain ⟨v1, vs1, d1, ds1, p1, q1, rfl, rfl, rfl, h1, r1⟩ := trodAll_cons r0
  obtain ⟨rfl, rfl, rfl⟩ := trodAll_nil r1
  obtain rfl : args = #[v0, v1] := by cases args; simp_all
  obtain ⟨rfl, rfl⟩ := trodVars_none hV
  clear hA0
  have t0 : Tr enc prog (fun _ => True) W 9 [v0] := Tr.ofString u9 (hval 0 9 v0 rfl rfl) h0 trivial
  obtain ⟨cs1, rfl, t1⟩ := Tr.ofStruct (ok := (fun _ => True)) u36 (hval 1 36 v1 rfl rfl) h1 trivial
  obtain ⟨s, e1, hs⟩ := Tr.string Her.all u9 t0
  obtain rfl : v0 = .string s := by simpa using e1
  obtain ⟨r, p1, c1, p2, c2, rfl, hr⟩ := tr_rep Her.all t1
  refine ((line_there W s r p1 c1 p2 c2 [old W] ⟨hr.key, hr.kb, hr.nb, hr.tb, hr.seq, hr.out, hr.acked, hr.inn⟩ (hr.h1.inl []) (hr.h2.inl []) (K24.old (table24 hL) (syn24 hL) (rng24 hL) Pick.head)) W (Sat.start W)).mono fun e W' hq => ?_
  obtain ⟨v, l', rfl, hs, rfl, rfl⟩ := hq
  exact ⟨_, rfl, law_post laidOut_ rfl rfl u4 line_there_reads hW' rfl rfl rfl hs.below⟩
set_option maxRecDepth 100000 in
theorem line_there_lifted (os : Os) (started : os.Started) (H : Type) (enc : TypeId × Value → H) (F : Stop.Interp) :
    ReturnsInHanded {} Tryz.checked os 6 .any ((OpenSpec.ofChange Rows.lineThereSpec).preRow enc Tryz.prog Tryz.f6 Rows.lineThereRow.domain false Rows.lineThereRow.laid) (((OpenSpec.ofChange Rows.lineThereSpec).at F).post enc Tryz.prog Tryz.f6 false true false false) := by
  have hx : ∃ places, DataW.whole enc Tryz.prog ((laidWorld os).forCall (fun _ _ => 0) ⟨#[], #[.string ⟨#[]⟩, .agg (Value.int .i64 0 :: (List.replicate 32 (Value.int .u8 0) ++ ([Value.slice none 0 0, Value.slice none 0 0, Value.int .i64 0, Value.int .i64 0, Value.int .i64 0, Value.int .i64 0, Value.int .i64 0] : List Value))).toArray], []⟩).memory Tryz.f6.params.toList Rows.lineThereSpec.vars false (#[.string ⟨#[]⟩, .agg (Value.int .i64 0 :: (List.replicate 32 (Value.int .u8 0) ++ ([Value.slice none 0 0, Value.slice none 0 0, Value.int .i64 0, Value.int .i64 0, Value.int .i64 0, Value.int .i64 0, Value.int .i64 0] : List Value))).toArray] : Array Value).toList 8 = some ([.lit (.string []), .agg [.lit (.int .i64 0), .agg (List.replicate 32 (.lit (.int .u8 0))), .nil, .nil, .lit (.int .i64 0), .lit (.int .i64 0), .lit (.int .i64 0), .lit (.int .i64 0), .lit (.int .i64 0)]], [], places) := ⟨[], by kernel_rfl⟩
  obtain ⟨places, hx⟩ := hx
  refine returnsInHanded_of_row (C := Tryz.checked) (s := OpenSpec.ofChange Rows.lineThereSpec) own_ started (by kernel_rfl) Tryz.func6
    (witness_row_at (enc := enc) (C := Tryz.checked) false (laidWorld os) #[.string ⟨#[]⟩, .agg (Value.int .i64 0 :: (List.replicate 32 (Value.int .u8 0) ++ ([Value.slice none 0 0, Value.slice none 0 0, Value.int .i64 0, Value.int .i64 0, Value.int .i64 0, Value.int .i64 0, Value.int .i64 0] : List Value))).toArray] rfl (by kernel_rfl) (by kernel_rfl) (by kernel_rfl)
      (OpenSpec.preRow_of_cond 8 hx (by kernel_rfl) (fun k hk => by cases hk) (by kernel_rfl) (laid_met os _))) ?_
  intro W base args ds gs before hval hW _ hk _ hL _ _
  exact line_there_contract H enc W base args ds gs before hval hW hL
theorem line_there_said : Rows.LineThereSaid :=
  OpenClaim.holds_of_cond 6 Tryz.f6 rfl rfl rfl rfl rfl rfl rfl ⟨rfl, rfl, rfl, rfl, rfl⟩ rfl rfl rfl rfl rfl (by kernel_rfl) Tryz.func6 (by kernel_rfl)
    (of_decide_eq_true (by kernel_rfl)) (by unfold Func.isWrapper; first | (rw [if_pos (by decide +kernel)]; kernel_rfl) | (rw [if_neg (by decide +kernel)]; exact ⟨rfl, rfl⟩))
    (fun os started H enc _ F => by rw [OpenClaim.pre_eq_preRow]; exact line_there_lifted os started H enc F)
set_option maxRecDepth 100000 in
theorem line_there_plain (f : FuncId) (fn : Func) (hf : Tryz.pinned.checked.prog.funcNamed Rows.lineThereRow.func = some f) (hfn : Tryz.pinned.checked.prog.funcs[f]? = some fn) :
    true = Tryz.pinned.checked.prog.looks [] ∧ ∀ (j : Nat) t, fn.params[j]? = some t → Tryz.pinned.checked.prog.wantsStandIn t = false := by
  obtain rfl : f = 6 := Option.some.inj ((show Tryz.prog.funcNamed Rows.lineThereRow.func = some 6 by kernel_rfl).symm.trans hf) |>.symm
  obtain rfl : fn = Tryz.f6 := (Option.some.inj (Tryz.func6.symm.trans hfn)).symm
  refine ⟨by kernel_rfl, fun j t ht => ?_⟩
  rw [Tryz.params6] at ht
  have hm := Array.mem_of_getElem? ht
  simp only [List.mem_toArray, List.mem_cons, List.not_mem_nil, or_false] at hm
  rcases hm with rfl | rfl
  · exact (show Tryz.prog.wantsStandIn 9 = false by kernel_rfl)
  · exact (show Tryz.prog.wantsStandIn 36 = false by kernel_rfl)
theorem line_there_holds : Rows.LineThereCardSaid :=
  Claim7.holds_tied_plain_at .later [] _ _ _ _ line_there_said (fun _ h => by cases h) (by kernel_rfl) (fun _ h => by cases h) lineThere_row_tie rfl ⟨rfl, rfl⟩ (by kernel_rfl) rfl line_there_plain (by kernel_rfl)
end
end Go.Proofs.YtccagffapohkhaaGreatDoor
