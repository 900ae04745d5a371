import Derived.Test.YtilifeeddpkclaaRows
import Derived.Test.YtilifeeddpkclaaSlTop
import Derived.Test.YtilifeeddpkclaaBase
namespace Go.Proofs.Ytilifeeddpkclaa
open Go.SL
theorem own_ : ownKnob Try.prog.godebug = none := by kernel_rfl
theorem laidOut_ : laidOutB Try.prog = true := by kernel_rfl
section
variable {H : Type}
theorem bulk_pos (d : DataW H) : 1 ≤ Rows.uptoBulk d := by
  cases d with
  | lit l => cases l <;> simp [Rows.uptoBulk]
  | _ => simp [Rows.uptoBulk]
theorem bulk_part {d : DataW H} : ∀ {l : List (DataW H)}, d ∈ l → Rows.uptoBulk d ≤ Rows.uptoBulkAll l
  | x :: r, h => by
    simp only [Rows.uptoBulkAll]
    rcases List.mem_cons.1 h with rfl | h
    · omega
    · have := bulk_part h; omega
theorem bulk_len : ∀ (l : List (DataW H)), l.length ≤ Rows.uptoBulkAll l
  | [] => by simp
  | x :: r => by have h1 := bulk_pos x; have h2 := bulk_len r; simp only [Rows.uptoBulkAll, List.length_cons]; omega
/-- Of small bulk. -/
def upOk (d : DataW H) : Prop := Rows.uptoBulk d ≤ 1048576
theorem upHer : Her (upOk (H := H)) (fun n => n ≤ 1048576) where
  slice es sp h := by
    simp only [upOk, Rows.uptoBulk] at h
    have h1 := bulk_len es
    refine ⟨by omega, fun d hd => ?_⟩
    rcases List.mem_append.1 hd with hd | hd
    · have := bulk_part hd; simp only [upOk]; omega
    · have := bulk_part hd; simp only [upOk]; omega
  nil := by omega
  agg ps h d hd := by
    simp only [upOk, Rows.uptoBulk] at h ⊢
    have := bulk_part hd
    omega
  str bs h := by
    simp only [upOk, Rows.uptoBulk] at h
    omega
theorem upOk_of {l : List (DataW H)} (hk : Rows.uptoSmall H l = true) : ∀ d ∈ l, upOk d := fun d hd => by
  have h : Rows.uptoBulkAll l ≤ 1048576 := of_decide_eq_true hk
  have := bulk_part hd
  simp only [upOk]
  omega
end
end Go.Proofs.Ytilifeeddpkclaa
