/-
  hollowtreelaw10.DiskLast returns true for every input, and leaves its input as it was. No condition.
-/
import Derived.Test.YtilifeeddpkclaaTop1
namespace Go.Proofs.Ytilifeeddpkclaa
open Go.ChangeShapes Go.WideShapes Go.ChangeAt Go.RowKit Go.SL
theorem OpA.OkW.ok {o : OpA} {w : World} (h : o.OkW w) (l : List HProp) : o.Ok (old w :: l) := ⟨h.at_, h.inw.inl l⟩
theorem disk_last_reads : ∀ t ∈ Try.f3.params.toList, Try.prog.readableRec t = true ∧ t < Try.prog.types.size := by
  rw [Try.params3]
  intro t ht
  simp only [List.mem_cons, List.not_mem_nil, or_false] at ht
  subst ht
  exact ⟨by kernel_rfl, of_decide_eq_true (by kernel_rfl)⟩
set_option maxRecDepth 100000 in
theorem disk_last_lifted (os : Os) (started : os.Started) (H : Type) (enc : TypeId × Value → H) :
    ReturnsInHanded {} Try.checked os 3 .any (Rows.diskLastSpec.pre6 enc Try.prog Try.f3 Rows.diskLastRow.domain false) (Rows.diskLastSpec.post enc Try.prog Try.f3 false true false false) := by
  refine returnsInHanded_of_change (C := Try.checked) own_ started (by kernel_rfl) Try.func3
    (ChangeSpec.witness6 (enc := enc) (C := Try.checked) false ⟨#[], #[.slice none 0 0], []⟩ 8 (by kernel_rfl) (by kernel_rfl) (by kernel_rfl) (by kernel_rfl)) ?_
  intro W base args ds gs before hval0 hW hcnd _
  have hW' := hW
  obtain ⟨p, q, hA0, hV, rfl, hfz, hnd⟩ := hW
  have hA : DataW.TrodAll enc Try.prog W 0 (fun _ => true) true Try.f3.params.toList args.toList ds p := hA0
  rw [Try.params3] at hA
  obtain ⟨v0, vs0, d0, ds0, p0, q0, hargs, rfl, rfl, h0, r0⟩ := trodAll_cons hA
  obtain ⟨rfl, rfl, rfl⟩ := trodAll_nil r0
  obtain ⟨rfl, rfl⟩ := trodVars_none hV
  have hva : args = #[v0] := by apply Array.ext'; simpa using hargs
  subst hva
  have hval : Value.okWide prog W .any base 22 v0 := hval0 0 _ v0 rfl rfl
  obtain ⟨sp, cap, xs, rfl, hok, hin⟩ := tr_ops (Tr.ofSlice u22 hval h0)
  have hx : OpsIn [old W] sp cap xs := ⟨hin.inl [], fun o ho => (hok o ho).ok []⟩
  refine (disk_last W sp cap xs [old W] hx W (Sat.start W)).mono fun e W' hq => ?_
  obtain ⟨v, l', rfl, hs, rfl, rfl⟩ := hq
  exact ⟨_, rfl, law_post laidOut_ rfl rfl u4 disk_last_reads hW' rfl rfl rfl hs.below⟩
theorem disk_last_holds : Rows.DiskLastSaid :=
  OpenClaim.holds_of_wide 3 Try.f3 rfl rfl rfl rfl rfl rfl rfl ⟨rfl, rfl, rfl, rfl, rfl⟩ rfl rfl rfl rfl rfl (by kernel_rfl) Try.func3 (by kernel_rfl)
    (of_decide_eq_true (by kernel_rfl)) (by unfold Func.isWrapper; first | (rw [if_pos (by decide +kernel)]; kernel_rfl) | (rw [if_neg (by decide +kernel)]; exact ⟨rfl, rfl⟩))
    (fun os started H enc _ => disk_last_lifted os started H enc)
end Go.Proofs.Ytilifeeddpkclaa
