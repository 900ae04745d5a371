import Derived.Test.YtilifeeddpkclaaSlCall
namespace Go.SL
open Go Go.RowKit

section
variable {α : Type} {enc : α → List Value} {k : Nat} {xs : List α} {sp : List Value}
theorem seg_len (h : ∀ x ∈ xs, (enc x).length = k) : (xs.flatMap enc).length = xs.length * k := by
  induction xs with
  | nil => simp
  | cons x r ih => simp [h x (by simp), ih (fun y hy => h y (by simp [hy])), Nat.add_mul]; omega
theorem seg_drop (h : ∀ x ∈ xs, (enc x).length = k) (i : Nat) : (xs.flatMap enc).drop (i * k) = (xs.drop i).flatMap enc := by
  induction xs generalizing i with
  | nil => simp
  | cons x r ih =>
    cases i with
    | zero => simp
    | succ i =>
      have hx := h x (by simp)
      rw [List.flatMap_cons, show (i + 1) * k = (enc x).length + i * k by rw [hx, Nat.add_mul]; omega, List.drop_append]
      have := ih (fun y hy => h y (by simp [hy])) i
      rw [List.drop_of_length_le (by omega), show (enc x).length + i * k - (enc x).length = i * k by omega, List.nil_append, List.drop_succ_cons, this]
theorem seg_take (h : ∀ x ∈ xs, (enc x).length = k) (i : Nat) : (xs.flatMap enc).take (i * k) = (xs.take i).flatMap enc := by
  induction xs generalizing i with
  | nil => simp
  | cons x r ih =>
    cases i with
    | zero => simp
    | succ i =>
      have hx := h x (by simp)
      rw [List.flatMap_cons, show (i + 1) * k = (enc x).length + i * k by rw [hx, Nat.add_mul]; omega, List.take_append]
      simp only [List.take_succ_cons, List.flatMap_cons]
      have := ih (fun y hy => h y (by simp [hy])) i
      rw [List.take_of_length_le (by omega), show (enc x).length + i * k - (enc x).length = i * k by omega, this]
theorem seg_get (h : ∀ x ∈ xs, (enc x).length = k) {i : Nat} {x : α} (hx : xs[i]? = some x) : ((xs.flatMap enc ++ sp).drop (i * k)).take k = enc x := by
  have hi : i < xs.length := by
    rcases Nat.lt_or_ge i xs.length with h | h
    · exact h
    · simp [List.getElem?_eq_none h] at hx
  have hl := seg_len h
  have hle : i * k ≤ xs.length * k := Nat.mul_le_mul_right k (by omega)
  rw [List.drop_append_of_le_length (by omega), seg_drop h]
  have hd : xs.drop i = x :: xs.drop (i + 1) := by
    rw [List.drop_eq_getElem_cons hi]
    congr 1
    rw [List.getElem?_eq_getElem hi] at hx
    exact Option.some.inj hx
  have hxk := h x (List.mem_of_getElem? hx)
  rw [hd, List.flatMap_cons, List.append_assoc, ← hxk]
  exact List.take_left
theorem seg_set (h : ∀ x ∈ xs, (enc x).length = k) {i : Nat} {y : α} (hi : i < xs.length) :
    (xs.flatMap enc ++ sp).take (i * k) ++ enc y ++ (xs.flatMap enc ++ sp).drop (i * k + k) = (xs.set i y).flatMap enc ++ sp := by
  have hl := seg_len h
  have h1 : i * k + k ≤ xs.length * k := by rw [← Nat.succ_mul]; exact Nat.mul_le_mul_right k hi
  rw [List.take_append_of_le_length (by omega), List.drop_append_of_le_length (by omega), seg_take h, show i * k + k = (i + 1) * k by rw [Nat.add_mul]; omega, seg_drop h]
  rw [List.set_eq_take_append_cons_drop, if_pos hi]
  simp [List.flatMap_append, List.append_assoc]
theorem seg_app (y : α) : (xs ++ [y]).flatMap enc = xs.flatMap enc ++ enc y := by simp [List.flatMap_append]
end

/-- Cells of one kind. -/
def ints (k : IntKind) (xs : List Int) : List Value := xs.map (Value.int k)
@[simp] theorem ints_length (k : IntKind) (xs : List Int) : (ints k xs).length = xs.length := by simp [ints]
theorem ints_one (k : IntKind) (xs : List Int) : ∀ v ∈ ints k xs, v.oneCell' = true := by
  intro v hv
  obtain ⟨x, _, rfl⟩ := List.mem_map.1 hv
  rfl
theorem RdN.rowI {l r : List HProp} {b off : Nat} {e : TypeId} {cs : List Value} (p : Pick l (SL.row b e cs) r) (n : Nat) : RdN l b off ((cs.drop off).take n) := RdN.row p rfl
end Go.SL
