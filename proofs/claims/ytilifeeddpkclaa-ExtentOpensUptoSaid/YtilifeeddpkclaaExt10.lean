import Derived.Test.YtilifeeddpkclaaExt9
namespace Go.Proofs.Ytilifeeddpkclaa
open Go Go.SL
/-! What a disk holds, and what a cut leaves. -/
structure Holds (s : Sb) (was : List Int) (D : Dk) : Prop where
  up : Up D
  none : D.pending = []
  fits : Fits s D
  size : s.size = was.length
  hash : (sha was).take 16 = s.hash
  snap : snapS s D = was
  mine : D.find ((s.turn.toNat % 2 : Nat) : Int) = sbBlock s
  other : sbOk (D.find ((1 - s.turn.toNat % 2 : Nat) : Int)) = true → (sbRead (D.find ((1 - s.turn.toNat % 2 : Nat) : Int))).turn.toNat < s.turn.toNat
theorem Fits.good {s : Sb} {D : Dk} (h : Fits s D) (hok : D.Ok) : s.Good := ⟨h.hash, h.place, h.lo, by
  have h1 := h.hi
  have h2 := hok.most
  have h4 : 4 * D.half ≤ D.safe.length - 2 := by unfold Dk.half; omega
  omega⟩
theorem Holds.counts {s : Sb} {was : List Int} {D : Dk} (h : Holds s was D) : D.counts = some s := by
  have hg := h.fits.good h.up.ok
  have hm := h.mine
  have ho := h.other
  unfold Dk.counts
  rcases Nat.mod_two_eq_zero_or_one s.turn.toNat with e | e
  · rw [e] at hm ho
    have hm : D.find 0 = sbBlock s := hm
    have ho : sbOk (D.find 1) = true → (sbRead (D.find 1)).turn.toNat < s.turn.toNat := ho
    rw [hm, sbOk_block hg, sbRead_block hg, if_pos rfl, if_neg]
    rintro ⟨h1, h2⟩
    have := ho h1
    omega
  · rw [e] at hm ho
    have hm : D.find 1 = sbBlock s := hm
    have ho : sbOk (D.find 0) = true → (sbRead (D.find 0)).turn.toNat < s.turn.toNat := ho
    rw [hm, sbOk_block hg, sbRead_block hg]
    by_cases h0 : sbOk (D.find 0) = true
    · rw [if_pos h0, if_pos ⟨rfl, ho h0⟩]
    · rw [if_neg h0, if_pos rfl]
theorem half_mul {s : Sb} {D : Dk} (h : s.place = 0 ∨ s.place = 1) : s.place = 0 ∧ s.place * (D.half : Int) = 0 ∨ s.place = 1 ∧ s.place * (D.half : Int) = D.half := by
  rcases h with e | e
  · exact .inl ⟨e, by rw [e, Int.zero_mul]⟩
  · exact .inr ⟨e, by rw [e, Int.one_mul]⟩
theorem half_le (D : Dk) (h : 2 ≤ D.safe.length) : 4 * D.half + 2 ≤ D.safe.length := by unfold Dk.half; omega
theorem holds_format {D : Dk} (h : Up D) (h64 : 64 ≤ D.safe.length) : Holds sb0 [] D.formatted := by
  obtain ⟨hu, hl, hp⟩ := formatted_up h (by omega)
  have h1 := h.push (i := 0) (b := sbBlock sb0) (by omega) (sbBlock_length sb0_hash)
  have h3 := h1.push (i := 1) (b := zeroB) (by simp only [Dk.push, Dk.does]; omega) rfl
  have e : ∀ j : Int, 0 ≤ j → j < D.safe.length → D.formatted.find j = if 1 = j then zeroB else if 0 = j then sbBlock sb0 else D.find j := fun j h0 hj => by
    unfold Dk.formatted
    rw [dk_find_settle h3.ok j ⟨h0, hj⟩, dk_find_push, dk_find_push]
  refine ⟨hu, hp, ⟨sb0_hash, .inl rfl, by decide, by simp [sb0]; omega, by omega⟩, rfl, rfl, rfl, ?_, ?_⟩
  · rw [show (((sb0.turn.toNat % 2 : Nat)) : Int) = 0 from rfl, e 0 (by decide) (by omega), if_neg (by decide), if_pos rfl]
  · rw [show (((1 - sb0.turn.toNat % 2 : Nat)) : Int) = 1 from rfl, e 1 (by decide) (by omega), if_pos rfl, sbOk_zero]
    exact fun h => absurd h (by decide)
theorem next_turn {s : Sb} {bs : List Int} (h : s.turn.toNat + 1 < 18446744073709551616) : (nextS s bs).turn.toNat = s.turn.toNat + 1 := by
  simp only [nextS, BitVec.toNat_add]
  rw [show (1#64).toNat = 1 from rfl]
  omega
theorem holds_taken {s : Sb} {was bs : List Int} {D D' : Dk} (h : Holds s was D) (hl : bs.length ≤ 64 * D.half) (ht : s.turn.toNat + 1 < 18446744073709551616) (hT : Taken s D bs D') : Holds (nextS s bs) bs D' := by
  have hp := h.fits.place
  have h2 := h.fits.two
  have hf := hT.fits h2 hp hl
  have hg := h.fits.good h.up.ok
  have htn := next_turn (bs := bs) ht
  have hhl := half_le D h2
  have hpl : (nextS s bs).place = 1 - s.place := rfl
  have h5 : 0 ≤ (nextS s bs).place * (D.half : Int) := by
    rcases half_mul (D := D) hf.place with ⟨_, e⟩ | ⟨_, e⟩ <;> omega
  have hm := hT.find ((nextS s bs).turn.toNat % 2 : Nat) (by omega) (by omega)
  rw [if_pos rfl] at hm
  have ho := hT.find ((1 - (nextS s bs).turn.toNat % 2 : Nat) : Int) (by omega) (by omega)
  rw [if_neg (by omega), if_neg (by omega)] at ho
  refine ⟨hT.up, hT.none, hf, rfl, rfl, snapS_taken hT h2 hp hl, hm, ?_⟩
  rw [ho, show (1 - (nextS s bs).turn.toNat % 2) = s.turn.toNat % 2 by omega, h.mine, sbRead_block hg, htn]
  exact fun _ => by omega
/-- Only the other place is written. -/
structure Kept (s : Sb) (D D' : Dk) : Prop where
  up : Up D'
  none : D'.pending = []
  len : D'.safe.length = D.safe.length
  find : ∀ j : Int, 0 ≤ j → j < D.safe.length → ¬ (2 + (1 - s.place) * (D.half : Int) ≤ j ∧ j < 2 + (1 - s.place) * (D.half : Int) + D.half) → D'.find j = D.find j
theorem holds_kept {s : Sb} {was : List Int} {D D' : Dk} (h : Holds s was D) (hk : Kept s D D') : Holds s was D' := by
  have hp := h.fits.place
  have h2 := h.fits.two
  have hhl := half_le D h2
  have hh : D'.half = D.half := by unfold Dk.half; rw [hk.len]
  have hf : Fits s D' := ⟨h.fits.hash, hp, h.fits.lo, by rw [hh]; exact h.fits.hi, by rw [hk.len]; exact h2⟩
  have h1 := half_mul (D := D) hp
  have h1' := half_mul (s := { s with place := 1 - s.place }) (D := D) (by dsimp only; omega)
  dsimp only at h1'
  have hsn : ∀ k, k ≤ D.half → snapB s D' k = snapB s D k := by
    intro k
    induction k with
    | zero => intro _; rfl
    | succ k ih =>
      intro hk2
      rw [snapB, snapB, ih (by omega), hh]
      have hj : 0 ≤ 2 + s.place * (D.half : Int) + k ∧ 2 + s.place * (D.half : Int) + k < D.safe.length := by omega
      rw [hk.up.read (by rw [hk.len]; exact hj), h.up.read hj, hk.find _ hj.1 hj.2 (by omega)]
  have hn : (s.size.toNat + 63) / 64 ≤ D.half := by have := h.fits.hi; omega
  have hfi : ∀ j : Nat, j < 2 → D'.find j = D.find j := fun j hj => hk.find j (by omega) (by omega) (by omega)
  refine ⟨hk.up, hk.none, hf, h.size, h.hash, by rw [snapS, hsn _ hn]; exact h.snap, by rw [hfi _ (by omega)]; exact h.mine, by rw [hfi _ (by omega)]; exact h.other⟩
/-! The power goes. -/
structure Ar (D : Dk) (k : Nat) : Prop where
  ok : D.Ok
  dead : D.dead = false
  armed : D.armed = true
  left : D.left = k
theorem Ar.bound {D : Dk} {k : Nat} (h : Ar D k) : (k : Int) ≤ 9223372036854775807 := by rw [← h.left]; exact h.ok.left.2
theorem Ar.ready {D : Dk} {k : Nat} (h : Ar D k) {i : Int} (hi : 0 ≤ i ∧ i < D.safe.length) : D.ready i = 0 := by
  rw [Dk.ready, h.dead, if_neg (by simp), if_neg (by omega)]
theorem Ar.does {D : Dk} {k : Nat} (h : Ar D (k + 1)) : Ar D.does k := ⟨h.ok.does, h.dead, h.armed, by
  have := h.bound
  simp only [Dk.does, h.armed, if_true, h.left]
  rw [wrap_i64 (by omega) (by omega)]
  omega⟩
theorem Ar.write {D : Dk} {k : Nat} (h : Ar D k) {i : Int} {b : Blk} (hb : b.length = 64) (hi : 0 ≤ i ∧ i < D.safe.length) :
    (k = 0 ∧ D.write i b = (D.dies, 7)) ∨ (∃ k', k = k' + 1 ∧ D.write i b = (D.does.push i b, 0) ∧ Ar (D.does.push i b) k') := by
  have hw : D.write i b = if D.armed = true ∧ D.left = 0 then (D.dies, 7) else (D.does.push i b, 0) := by rw [Dk.write, if_neg (by rw [h.ready hi]; simp)]
  rw [hw]
  cases k with
  | zero => exact .inl ⟨rfl, by rw [if_pos ⟨h.armed, h.left⟩]⟩
  | succ k =>
    have hd := h.does
    exact .inr ⟨k, rfl, by rw [if_neg (by rw [h.left]; omega)], hd.ok.push hb hi, hd.dead, hd.armed, hd.left⟩
theorem Ar.sync {D : Dk} {k : Nat} (h : Ar D k) : (k = 0 ∧ D.sync = (D.dies, 7)) ∨ (∃ k', k = k' + 1 ∧ D.sync = (D.does.settle (fun _ => true), 0) ∧ Ar (D.does.settle (fun _ => true)) k') := by
  have hw : D.sync = if D.armed = true ∧ D.left = 0 then (D.dies, 7) else (D.does.settle (fun _ => true), 0) := by rw [Dk.sync, if_neg (by simp [h.dead])]
  rw [hw]
  cases k with
  | zero => exact .inl ⟨rfl, by rw [if_pos ⟨h.armed, h.left⟩]⟩
  | succ k =>
    have hd := h.does
    exact .inr ⟨k, rfl, by rw [if_neg (by rw [h.left]; omega)], hd.ok.settle _, hd.dead, hd.armed, hd.left⟩
end Go.Proofs.Ytilifeeddpkclaa
