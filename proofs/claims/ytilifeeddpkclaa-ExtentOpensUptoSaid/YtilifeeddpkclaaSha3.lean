import Derived.Test.YtilifeeddpkclaaSha2
namespace Go.Proofs.Ytilifeeddpkclaa
open Go Go.SL
theorem word4_take (bs : List Int) {i : Nat} (h : i < 16) : word4 (bs.take 64) i = word4 bs i := by
  have e : ∀ j, j < 64 → (bs.take 64).getD j 0 = bs.getD j 0 := fun j hj => by
    rw [List.getD_eq_getElem?_getD, List.getD_eq_getElem?_getD, List.getElem?_take, if_pos hj]
  unfold word4
  rw [e _ (by omega), e _ (by omega), e _ (by omega), e _ (by omega)]
theorem schedTo_take (bs : List Int) : ∀ i, schedTo (bs.take 64) i = schedTo bs i
  | 0 => rfl
  | i + 1 => by
    rw [schedTo, schedTo, schedTo_take bs i, schedNext, schedNext]
    by_cases h : i < 16
    · rw [if_pos h, if_pos h, word4_take bs h]
    · rw [if_neg h, if_neg h]
theorem compress_take (s : S8) (bs : List Int) : compress s (bs.take 64) = compress s bs := by
  unfold compress
  rw [schedTo_take]
theorem absorb_append : ∀ (n : Nat) (s : S8) (xs ys : List Int), 64 * n ≤ xs.length → absorb n s (xs ++ ys) = absorb n s xs
  | 0, _, _, _, _ => rfl
  | n + 1, s, xs, ys, h => by
    rw [absorb, absorb, List.take_append_of_le_length (by omega), List.drop_append_of_le_length (by omega), absorb_append n _ _ ys (by rw [List.length_drop]; omega)]
theorem absorb_snoc : ∀ (n : Nat) (s : S8) (xs : List Int), absorb (n + 1) s xs = compress (absorb n s xs) ((xs.drop (64 * n)).take 64)
  | 0, _, _ => rfl
  | n + 1, s, xs => by
    rw [absorb, absorb_snoc n, absorb, List.drop_drop, show 64 + 64 * n = 64 * (n + 1) by omega]
/-- The state behind bytes. -/
def shaA (xs : List Int) : S8 := absorb (xs.length / 64) init8 xs
theorem shaA_add {xs ys : List Int} (h : xs.length % 64 = 0) (hy : ys.length = 64) : shaA (xs ++ ys) = compress (shaA xs) ys := by
  have e : (xs ++ ys).length / 64 = xs.length / 64 + 1 := by rw [List.length_append]; omega
  unfold shaA
  rw [e, absorb_snoc, absorb_append _ _ _ _ (by omega)]
  congr 1
  rw [show 64 * (xs.length / 64) = xs.length by omega, List.drop_left', List.take_of_length_le (by omega)]
  rfl
theorem shaA_small {xs ys : List Int} (h : xs.length % 64 + ys.length < 64) : shaA (xs ++ ys) = shaA xs := by
  have e : (xs ++ ys).length / 64 = xs.length / 64 := by rw [List.length_append]; omega
  unfold shaA
  rw [e, absorb_append _ _ _ _ (by omega)]
/-- What a Hash holds. -/
structure HI (ms : List Int) (s : S8) (rest : List Int) : Prop where
  st : s = shaA ms
  len : rest.length = 64
  tail : rest.take (ms.length % 64) = ms.drop (64 * (ms.length / 64))
theorem HI.new : HI [] init8 (List.replicate 64 0) := ⟨rfl, rfl, rfl⟩
/-- A few more. -/
theorem HI.few {ms bs rest : List Int} {s : S8} (h : HI ms s rest) (hk : ms.length % 64 + bs.length < 64) : HI (ms ++ bs) s (rest.take (ms.length % 64) ++ bs ++ rest.drop (ms.length % 64 + bs.length)) := by
  have hl := h.len
  have e1 : (ms ++ bs).length % 64 = ms.length % 64 + bs.length := by rw [List.length_append]; omega
  have e2 : (ms ++ bs).length / 64 = ms.length / 64 := by rw [List.length_append]; omega
  have e3 : (rest.take (ms.length % 64)).length = ms.length % 64 := by rw [List.length_take]; omega
  refine ⟨by rw [shaA_small hk]; exact h.st, by simp; omega, ?_⟩
  rw [e1, e2, List.take_left' (by simp; omega), h.tail, List.drop_append_of_le_length (by omega)]
/-- The block is full. -/
theorem HI.full {ms ys rest : List Int} {s : S8} (h : HI ms s rest) (hy : ms.length % 64 + ys.length = 64) : compress s (rest.take (ms.length % 64) ++ ys) = shaA (ms ++ ys) ∧ (ms ++ ys).length % 64 = 0 := by
  have hl := h.len
  have e0 : ms.take (64 * (ms.length / 64)) ++ ms.drop (64 * (ms.length / 64)) = ms := List.take_append_drop _ _
  have l0 : (ms.take (64 * (ms.length / 64))).length = 64 * (ms.length / 64) := by rw [List.length_take]; omega
  have l1 : (ms.drop (64 * (ms.length / 64))).length = ms.length % 64 := by rw [List.length_drop]; omega
  refine ⟨?_, by rw [List.length_append]; omega⟩
  rw [h.tail, h.st]
  have hs : shaA ms = shaA (ms.take (64 * (ms.length / 64))) := by
    by_cases hz : ms.length % 64 = 0
    · rw [List.take_of_length_le (by omega)]
    · conv => lhs; rw [← e0]
      exact shaA_small (by rw [l0, l1]; omega)
  rw [hs, ← shaA_add (by rw [l0]; omega) (by rw [List.length_append, l1]; omega), ← List.append_assoc, e0]
/-- The rest behind whole blocks. -/
theorem HI.last {ms ys rest : List Int} (h0 : ms.length % 64 = 0) (hy : ys.length < 64) (hl : rest.length = 64) : HI (ms ++ ys) (shaA ms) (ys ++ rest.drop ys.length) := by
  have e1 : (ms ++ ys).length % 64 = ys.length := by rw [List.length_append]; omega
  have e2 : 64 * ((ms ++ ys).length / 64) = ms.length := by rw [List.length_append]; omega
  refine ⟨(shaA_small (by omega)).symm, by simp; omega, ?_⟩
  rw [e1, e2, List.take_left', List.drop_left']
  · rfl
  · rfl
end Go.Proofs.Ytilifeeddpkclaa
