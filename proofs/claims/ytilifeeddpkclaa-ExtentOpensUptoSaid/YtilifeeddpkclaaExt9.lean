import Derived.Test.YtilifeeddpkclaaExt8
namespace Go.Proofs.Ytilifeeddpkclaa
open Go Go.SL
/-! A superblock that is written is the one that is read. -/
theorem leB_getD {n i : Nat} (x : BitVec 64) (h : i < n) : (leB n x).getD i 0 = (((x >>> (8 * i)).toNat % 256 : Nat) : Int) := by
  simp [leB, List.getD_eq_getElem?_getD, h]
theorem leG_leB {n : Nat} (x : BitVec 64) (j : Nat) : ∀ i, i ≤ n → (leG (leB n x) i).getLsbD j = (decide (j < 8 * i) && x.getLsbD j)
  | 0, _ => by simp [leG]
  | i + 1, hi => by
    rw [leG, leB_getD x (by omega), BitVec.getLsbD_or, leG_leB x j i (by omega), BitVec.getLsbD_shiftLeft]
    rw [show BitVec.ofInt 64 (((x >>> (8 * i)).toNat % 256 : Nat) : Int) = BitVec.ofNat 64 ((x >>> (8 * i)).toNat % 2 ^ 8) from BitVec.ofInt_natCast ..]
    rw [BitVec.getLsbD_ofNat, Nat.testBit_mod_two_pow, ← BitVec.getLsbD, BitVec.getLsbD_ushiftRight]
    by_cases h1 : j < 8 * i
    · have h2 : j < 8 * (i + 1) := by omega
      simp [h1, h2]
    · by_cases h2 : j < 8 * (i + 1)
      · have h3 : j - 8 * i < 8 := by omega
        have h4 : j - 8 * i < 64 := by omega
        have h5 : 8 * i + (j - 8 * i) = j := by omega
        by_cases h6 : j < 64
        · simp [h1, h2, h3, h4, h5, h6]
        · simp [h1, h2, h6, BitVec.getLsbD_of_ge x j (by omega)]
      · have h3 : ¬ j - 8 * i < 8 := by omega
        simp [h1, h2, h3]
theorem leG_leB8 (x : BitVec 64) : leG (leB 8 x) 8 = x := by
  refine BitVec.eq_of_getLsbD_eq fun j hj => ?_
  rw [leG_leB x j 8 (Nat.le_refl _)]
  simp [hj]
theorem leG_leB4 (x : BitVec 64) (h : x.toNat < 4294967296) : leG (leB 4 x) 4 = x := by
  refine BitVec.eq_of_getLsbD_eq fun j hj => ?_
  rw [leG_leB x j 4 (Nat.le_refl _)]
  by_cases h1 : j < 32
  · simp [h1]
  · have : x.getLsbD j = false := by
      rw [BitVec.getLsbD]
      exact Nat.testBit_lt_two_pow (Nat.lt_of_lt_of_le h (by
        have : 2 ^ 32 ≤ 2 ^ j := Nat.pow_le_pow_right (by decide) (by omega)
        omega))
    simp [this]
/-- A superblock that can be written. -/
structure Sb.Good (s : Sb) : Prop where
  hash : s.hash.length = 16
  place : s.place = 0 ∨ s.place = 1
  lo : 0 ≤ s.size
  hi : s.size < 4294967296
theorem sbRead_block {s : Sb} (h : s.Good) : sbRead (sbBlock s) = s := by
  have hp : s.place % 256 = s.place := by rcases h.place with e | e <;> rw [e] <;> rfl
  have hz : (BitVec.ofInt 32 s.size).toNat = s.size.toNat := by
    rw [BitVec.toNat_ofInt]
    have := h.lo
    have := h.hi
    omega
  have hz2 : (BitVec.ofInt 64 (s.size.toNat : Int)).toNat = s.size.toNat := by
    rw [BitVec.toNat_ofInt]
    have := h.hi
    omega
  obtain ⟨y, hy⟩ : ∃ y, BitVec.ofInt 64 ((BitVec.ofInt 32 s.size).toNat : Int) = y := ⟨_, rfl⟩
  obtain ⟨z, hB⟩ : ∃ z, sbBlock s = lettersL ++ ([s.place % 256, 0] ++ (leB 8 s.turn ++ (leB 4 y ++ (s.hash ++ (List.replicate 8 0 ++ z))))) := ⟨(sha (sbHead s)).take 16, by
    rw [sbBlock]
    conv => lhs; lhs; rw [sbHead]
    rw [hy]
    simp only [List.append_assoc]⟩
  have h12 : ((sbBlock s).drop 12).take 8 = leB 8 s.turn := by
    rw [hB, ← List.append_assoc, List.drop_left' (by simp [lettersL]), List.take_left' (leB_length _ _)]
  have h20 : ((sbBlock s).drop 20).take 4 = leB 4 (BitVec.ofInt 64 ((BitVec.ofInt 32 s.size).toNat : Int)) := by
    rw [hB, hy, ← List.append_assoc, ← List.append_assoc, List.drop_left' (by simp [lettersL, leB_length]), List.take_left' (leB_length _ _)]
  have h24 : ((sbBlock s).drop 24).take 16 = s.hash := by
    rw [hB, ← List.append_assoc, ← List.append_assoc, ← List.append_assoc, List.drop_left' (by simp [lettersL, leB_length]), List.take_left' h.hash]
  unfold sbRead
  rw [sbBlock_ten, hp, h12, h20, h24, leG_leB8, hz, leG_leB4 _ (by rw [hz2]; have := h.hi; omega), hz2]
  rw [show IntKind.i64.wrap s.place = s.place from wrap_i64 (by rcases h.place with e | e <;> rw [e] <;> decide) (by rcases h.place with e | e <;> rw [e] <;> decide)]
  rw [BitVec.toNat_ofInt, show ((((s.size.toNat : Nat) : Int) % ((2 ^ 32 : Nat) : Int)).toNat : Int) = s.size by have := h.lo; have := h.hi; omega]
theorem sbOk_block {s : Sb} (h : s.Good) : sbOk (sbBlock s) = true := by
  rw [sbOk, sbRead_block h]
  rcases h.place with e | e <;> simp [e]
theorem sbOk_zero : sbOk zeroB = false := by
  have h : ¬ sbBlock (sbRead zeroB) = zeroB := fun e => by
    have h1 : (sbBlock (sbRead zeroB)).getD 0 0 = 104 := by simp [sbBlock, sbHead, lettersL]
    rw [e] at h1
    exact absurd h1 (by decide)
  rw [sbOk, decide_eq_false h, Bool.and_false]
end Go.Proofs.Ytilifeeddpkclaa
