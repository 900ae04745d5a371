import Derived.Test.YtilifeeddpkclaaRef11
import Derived.Test.YtilifeeddpkclaaSlStr
namespace Go.Proofs.Ytilifeeddpkclaa
open Go Go.SL
/-! What a superblock says. -/
theorem leG_bit {bs : List Int} (hb : Bytes bs) (k : Nat) (hk : k < 64) : ∀ n, n ≤ 8 → (leG bs n).getLsbD k = (decide (k < 8 * n) && (bs.getD (k / 8) 0).toNat.testBit (k % 8))
  | 0, _ => by simp [leG]
  | n + 1, hn => by
    rw [leG, BitVec.getLsbD_or, leG_bit hb k hk n (by omega), BitVec.getLsbD_shiftLeft]
    have hB := hb.getD n
    have e1 : (BitVec.ofInt 64 (bs.getD n 0)).getLsbD (k - 8 * n) = (bs.getD n 0).toNat.testBit (k - 8 * n) := by
      rw [BitVec.getLsbD, BitVec.toNat_ofInt]
      congr 1
      omega
    rw [e1]
    by_cases h1 : k < 8 * n
    · have h2 : k < 8 * (n + 1) := by omega
      simp [h1, h2]
    · by_cases h2 : k < 8 * (n + 1)
      · have h3 : k / 8 = n := by omega
        have h4 : k - 8 * n = k % 8 := by omega
        simp [h1, h2, h3, h4, hk]
      · have h5 : (bs.getD n 0).toNat.testBit (k - 8 * n) = false := by
          refine Nat.testBit_lt_two_pow ?_
          have : 2 ^ 8 ≤ 2 ^ (k - 8 * n) := Nat.pow_le_pow_right (by decide) (by omega)
          omega
        rw [h5]
        simp [h1, h2]
theorem leG_lt {bs : List Int} (hb : Bytes bs) : (leG bs 4).toNat < 4294967296 := by
  refine Nat.lt_pow_two_of_testBit (n := 32) _ fun i hi => ?_
  by_cases h : i < 64
  · have := leG_bit hb i h 4 (by omega)
    rw [BitVec.getLsbD] at this
    rw [this]
    simp
    omega
  · exact Nat.testBit_lt_two_pow (Nat.lt_of_lt_of_le (leG bs 4).isLt (Nat.pow_le_pow_right (by decide) (by omega)))
theorem leB_leG {bs : List Int} (hb : Bytes bs) {n : Nat} (hn : n ≤ 8) (hl : bs.length = n) : leB n (leG bs n) = bs := by
  refine List.ext_getElem (by rw [leB_length, hl]) fun i h1 h2 => ?_
  have hi : i < n := by omega
  have e2 : bs[i] = bs.getD i 0 := by rw [List.getD_eq_getElem?_getD, List.getElem?_eq_getElem h2]; rfl
  have hB := hb.getD i
  have e1 : (leB n (leG bs n))[i] = (((leG bs n >>> (8 * i)).toNat % 256 : Nat) : Int) := by simp [leB]
  rw [e1, e2]
  have : (leG bs n >>> (8 * i)).toNat % 256 = (bs.getD i 0).toNat := by
    refine Nat.eq_of_testBit_eq fun j => ?_
    rw [show (256 : Nat) = 2 ^ 8 from rfl, Nat.testBit_mod_two_pow]
    by_cases hj : j < 8
    · have e3 : (leG bs n >>> (8 * i)).toNat.testBit j = (leG bs n).getLsbD (8 * i + j) := by
        rw [← BitVec.getLsbD, BitVec.getLsbD_ushiftRight]
      rw [e3, leG_bit hb _ (by omega) n hn, show (8 * i + j) / 8 = i by omega, show (8 * i + j) % 8 = j by omega]
      have h3 : 8 * i + j < 8 * n := by omega
      simp [hj, h3]
    · have : (bs.getD i 0).toNat.testBit j = false := by
        refine Nat.testBit_lt_two_pow ?_
        have : 2 ^ 8 ≤ 2 ^ j := Nat.pow_le_pow_right (by decide) (by omega)
        omega
      rw [this]
      simp [hj]
  omega
theorem Bytes.part {bs : List Int} (h : Bytes bs) (lo n : Nat) : Bytes ((bs.drop lo).take n) := fun x hx => h x (List.mem_of_mem_drop (List.mem_of_mem_take hx))
/-- The letters, the place, the zeros. -/
structure SbForm (b : Blk) : Prop where
  letters : b.take 10 = lettersL
  zero : b.getD 11 0 = 0
  zeros : (b.drop 40).take 8 = List.replicate 8 0
theorem blk_pieces {b : Blk} (hb : b.length = 64) : b = b.take 10 ++ ([b.getD 10 0, b.getD 11 0] ++ ((b.drop 12).take 8 ++ ((b.drop 20).take 4 ++ ((b.drop 24).take 16 ++ ((b.drop 40).take 8 ++ b.drop 48))))) := by
  have e12 : b.drop 40 = (b.drop 40).take 8 ++ b.drop 48 := by
    conv => lhs; rw [← List.take_append_drop 8 (b.drop 40), List.drop_drop]
  have e24 : b.drop 24 = (b.drop 24).take 16 ++ b.drop 40 := by
    conv => lhs; rw [← List.take_append_drop 16 (b.drop 24), List.drop_drop]
  have e20 : b.drop 20 = (b.drop 20).take 4 ++ b.drop 24 := by
    conv => lhs; rw [← List.take_append_drop 4 (b.drop 20), List.drop_drop]
  have e8 : b.drop 12 = (b.drop 12).take 8 ++ b.drop 20 := by
    conv => lhs; rw [← List.take_append_drop 8 (b.drop 12), List.drop_drop]
  have e10 : b.drop 10 = [b.getD 10 0, b.getD 11 0] ++ b.drop 12 := by
    rw [List.drop_eq_getElem_cons (by omega), List.drop_eq_getElem_cons (by omega)]
    simp [List.getD_eq_getElem?_getD, hb]
  rw [← e12, ← e24, ← e20, ← e8, ← e10, List.take_append_drop]
theorem sbHead_form {b : Blk} (hb : b.length = 64) (hB : Bytes b) (h : SbForm b) : sbHead (sbRead b) = b.take 48 := by
  have e1 : (sbRead b).place % 256 = b.getD 10 0 := by
    have := hB.getD 10
    show IntKind.i64.wrap (b.getD 10 0) % 256 = _
    rw [wrap_i64 (by omega) (by omega)]
    omega
  have e2 : leB 8 (sbRead b).turn = (b.drop 12).take 8 := leB_leG (hB.part 12 8) (by omega) (by simp [hb])
  have e3 : leB 4 (BitVec.ofInt 64 ((BitVec.ofInt 32 (sbRead b).size).toNat : Int)) = (b.drop 20).take 4 := by
    rw [leB4_size]
    have h4 := leG_lt (hB.part 20 4)
    have e4 : (sbRead b).size = ((leG ((b.drop 20).take 4) 4).toNat : Int) := by
      show ((BitVec.ofInt 32 ((leG ((b.drop 20).take 4) 4).toNat : Int)).toNat : Int) = _
      rw [BitVec.toNat_ofInt]
      omega
    have e5 : BitVec.ofInt 64 ((leG ((b.drop 20).take 4) 4).toNat : Int) = leG ((b.drop 20).take 4) 4 := by
      refine BitVec.eq_of_toNat_eq ?_
      rw [BitVec.toNat_ofInt]
      omega
    rw [e4, e5]
    exact leB_leG (hB.part 20 4) (by omega) (by simp [hb])
  have e4 : (sbRead b).hash = (b.drop 24).take 16 := rfl
  have ep := blk_pieces hb
  rw [sbHead, e1, e2, e3, e4, ← h.letters, ← h.zeros]
  conv => rhs; rw [ep]
  simp only [List.append_assoc]
  have hz := h.zero
  rw [hz]
  have e5 : (b.take 10 ++ ([b.getD 10 0, 0] ++ ((b.drop 12).take 8 ++ ((b.drop 20).take 4 ++ ((b.drop 24).take 16 ++ (b.drop 40).take 8))))).length = 48 := by simp [hb]
  have e6 : b.take 10 ++ ([b.getD 10 0, 0] ++ ((b.drop 12).take 8 ++ ((b.drop 20).take 4 ++ ((b.drop 24).take 16 ++ ((b.drop 40).take 8 ++ b.drop 48))))) = (b.take 10 ++ ([b.getD 10 0, 0] ++ ((b.drop 12).take 8 ++ ((b.drop 20).take 4 ++ ((b.drop 24).take 16 ++ (b.drop 40).take 8))))) ++ b.drop 48 := by simp only [List.append_assoc]
  rw [e6, List.take_left' e5]
theorem sbOk_form {b : Blk} (hb : b.length = 64) (hB : Bytes b) : sbOk b = true ↔ SbForm b ∧ (sbRead b).place < 2 ∧ b.drop 48 = (sha (b.take 48)).take 16 := by
  simp only [sbOk, Bool.and_eq_true, decide_eq_true_eq]
  constructor
  · rintro ⟨h1, h2⟩
    have hh : (sbRead b).hash.length = 16 := sbRead_hash hb
    have hF : SbForm b := by
      refine ⟨?_, ?_, ?_⟩
      · rw [← h2]; simp [sbBlock, sbHead, lettersL]
      · rw [← h2]; simp [sbBlock, sbHead, lettersL]
      · rw [← h2]
        have e : sbBlock (sbRead b) = (lettersL ++ [(sbRead b).place % 256, 0] ++ leB 8 (sbRead b).turn ++ leB 4 (BitVec.ofInt 64 ((BitVec.ofInt 32 (sbRead b).size).toNat : Int)) ++ (sbRead b).hash) ++ (List.replicate 8 0 ++ (sha (sbHead (sbRead b))).take 16) := by
          rw [sbBlock]
          conv => lhs; lhs; rw [sbHead]
          exact List.append_assoc _ _ _
        rw [e, List.drop_left' (by simp [lettersL, leB_length, hh]), List.take_left' (by simp)]
    refine ⟨hF, h1, ?_⟩
    have := sbHead_form hb hB hF
    conv => lhs; rw [← h2, sbBlock, this]
    rw [List.drop_left' (by simp [hb])]
  · rintro ⟨hF, h1, h3⟩
    refine ⟨h1, ?_⟩
    rw [sbBlock, sbHead_form hb hB hF, ← h3, List.take_append_drop]
end Go.Proofs.Ytilifeeddpkclaa
