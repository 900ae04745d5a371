import Derived.Test.YtimekohdlofmaaaJoin5
namespace Go.Proofs.Ytimekohdlofmaaa
open Go Go.SL
/-! What a disk holds, and what a cut leaves. -/
structure Holds (s : Sb) (was : List Int) (D : Dk) : Prop where
  up : Up D
  none : D.pending = []
  fits : Fits s D
  size : s.size = was.length
  hash : (sha was).take 16 = s.hash
  snap : snapS s D = was
  mine : D.find ((s.turn.toNat % 2 : Nat) : Int) = sbBlock s
  other : sbOk (D.find ((1 - s.turn.toNat % 2 : Nat) : Int)) = true → (sbRead (D.find ((1 - s.turn.toNat % 2 : Nat) : Int))).turn.toNat < s.turn.toNat
theorem Fits.good {s : Sb} {D : Dk} (h : Fits s D) (hok : D.Ok) : s.Good := ⟨h.hash, h.place, h.lo, by
  have h1 := h.hi
  have h2 := hok.most
  have h4 : 4 * D.half ≤ D.safe.length - 2 := by unfold Dk.half; omega
  omega⟩
theorem Holds.counts {s : Sb} {was : List Int} {D : Dk} (h : Holds s was D) : D.counts = some s := by
  have hg := h.fits.good h.up.ok
  have hm := h.mine
  have ho := h.other
  unfold Dk.counts
  rcases Nat.mod_two_eq_zero_or_one s.turn.toNat with e | e
  · rw [e] at hm ho
    have hm : D.find 0 = sbBlock s := hm
    have ho : sbOk (D.find 1) = true → (sbRead (D.find 1)).turn.toNat < s.turn.toNat := ho
    rw [hm, sbOk_block hg, sbRead_block hg, if_pos rfl, if_neg]
    rintro ⟨h1, h2⟩
    have := ho h1
    omega
  · rw [e] at hm ho
    have hm : D.find 1 = sbBlock s := hm
    have ho : sbOk (D.find 0) = true → (sbRead (D.find 0)).turn.toNat < s.turn.toNat := ho
    rw [hm, sbOk_block hg, sbRead_block hg]
    by_cases h0 : sbOk (D.find 0) = true
    · rw [if_pos h0, if_pos ⟨rfl, ho h0⟩]
    · rw [if_neg h0, if_pos rfl]
theorem half_mul {s : Sb} {D : Dk} (h : s.place = 0 ∨ s.place = 1) : s.place = 0 ∧ s.place * (D.half : Int) = 0 ∨ s.place = 1 ∧ s.place * (D.half : Int) = D.half := by
  rcases h with e | e
  · exact .inl ⟨e, by rw [e, Int.zero_mul]⟩
  · exact .inr ⟨e, by rw [e, Int.one_mul]⟩
theorem half_le (D : Dk) (h : 2 ≤ D.safe.length) : 4 * D.half + 2 ≤ D.safe.length := by unfold Dk.half; omega
theorem holds_format {D : Dk} (h : Up D) (h64 : 64 ≤ D.safe.length) : Holds sb0 [] D.formatted := by
  obtain ⟨hu, hl, hp⟩ := formatted_up h (by omega)
  have h1 := h.push (i := 0) (b := sbBlock sb0) (by omega) (sbBlock_length sb0_hash)
  have h3 := h1.push (i := 1) (b := zeroB) (by simp only [Dk.push, Dk.does]; omega) rfl
  have e : ∀ j : Int, 0 ≤ j → j < D.safe.length → D.formatted.find j = if 1 = j then zeroB else if 0 = j then sbBlock sb0 else D.find j := fun j h0 hj => by
    unfold Dk.formatted
    rw [dk_find_settle h3.ok j ⟨h0, hj⟩, dk_find_push, dk_find_push]
  refine ⟨hu, hp, ⟨sb0_hash, .inl rfl, by decide, by simp [sb0]; omega, by omega⟩, rfl, rfl, rfl, ?_, ?_⟩
  · rw [show (((sb0.turn.toNat % 2 : Nat)) : Int) = 0 from rfl, e 0 (by decide) (by omega), if_neg (by decide), if_pos rfl]
  · rw [show (((1 - sb0.turn.toNat % 2 : Nat)) : Int) = 1 from rfl, e 1 (by decide) (by omega), if_pos rfl, sbOk_zero]
    exact fun h => absurd h (by decide)
theorem next_turn {s : Sb} {bs : List Int} (h : s.turn.toNat + 1 < 18446744073709551616) : (nextS s bs).turn.toNat = s.turn.toNat + 1 := by
  simp only [nextS, BitVec.toNat_add]
  rw [show (1#64).toNat = 1 from rfl]
  omega
theorem holds_taken {s : Sb} {was bs : List Int} {D D' : Dk} (h : Holds s was D) (hl : bs.length ≤ 64 * D.half) (ht : s.turn.toNat + 1 < 18446744073709551616) (hT : Taken s D bs D') : Holds (nextS s bs) bs D' := by
  have hp := h.fits.place
  have h2 := h.fits.two
  have hf := hT.fits h2 hp hl
  have hg := h.fits.good h.up.ok
  have htn := next_turn (bs := bs) ht
  have hhl := half_le D h2
  have hpl : (nextS s bs).place = 1 - s.place := rfl
  have h5 : 0 ≤ (nextS s bs).place * (D.half : Int) := by
    rcases half_mul (D := D) hf.place with ⟨_, e⟩ | ⟨_, e⟩ <;> omega
  have hm := hT.find ((nextS s bs).turn.toNat % 2 : Nat) (by omega) (by omega)
  rw [if_pos rfl] at hm
  have ho := hT.find ((1 - (nextS s bs).turn.toNat % 2 : Nat) : Int) (by omega) (by omega)
  rw [if_neg (by omega), if_neg (by omega)] at ho
  refine ⟨hT.up, hT.none, hf, rfl, rfl, snapS_taken hT h2 hp hl, hm, ?_⟩
  rw [ho, show (1 - (nextS s bs).turn.toNat % 2) = s.turn.toNat % 2 by omega, h.mine, sbRead_block hg, htn]
  exact fun _ => by omega
/-- Only the other place is written. -/
structure Kept (s : Sb) (D D' : Dk) : Prop where
  up : Up D'
  none : D'.pending = []
  len : D'.safe.length = D.safe.length
  find : ∀ j : Int, 0 ≤ j → j < D.safe.length → ¬ (2 + (1 - s.place) * (D.half : Int) ≤ j ∧ j < 2 + (1 - s.place) * (D.half : Int) + D.half) → D'.find j = D.find j
theorem holds_kept {s : Sb} {was : List Int} {D D' : Dk} (h : Holds s was D) (hk : Kept s D D') : Holds s was D' := by
  have hp := h.fits.place
  have h2 := h.fits.two
  have hhl := half_le D h2
  have hh : D'.half = D.half := by unfold Dk.half; rw [hk.len]
  have hf : Fits s D' := ⟨h.fits.hash, hp, h.fits.lo, by rw [hh]; exact h.fits.hi, by rw [hk.len]; exact h2⟩
  have h1 := half_mul (D := D) hp
  have h1' := half_mul (s := { s with place := 1 - s.place }) (D := D) (by dsimp only; omega)
  dsimp only at h1'
  have hsn : ∀ k, k ≤ D.half → snapB s D' k = snapB s D k := by
    intro k
    induction k with
    | zero => intro _; rfl
    | succ k ih =>
      intro hk2
      rw [snapB, snapB, ih (by omega), hh]
      have hj : 0 ≤ 2 + s.place * (D.half : Int) + k ∧ 2 + s.place * (D.half : Int) + k < D.safe.length := by omega
      rw [hk.up.read (by rw [hk.len]; exact hj), h.up.read hj, hk.find _ hj.1 hj.2 (by omega)]
  have hn : (s.size.toNat + 63) / 64 ≤ D.half := by have := h.fits.hi; omega
  have hfi : ∀ j : Nat, j < 2 → D'.find j = D.find j := fun j hj => hk.find j (by omega) (by omega) (by omega)
  refine ⟨hk.up, hk.none, hf, h.size, h.hash, by rw [snapS, hsn _ hn]; exact h.snap, by rw [hfi _ (by omega)]; exact h.mine, by rw [hfi _ (by omega)]; exact h.other⟩
/-! The power goes. -/
structure Ar (D : Dk) (k : Nat) : Prop where
  ok : D.Ok
  dead : D.dead = false
  armed : D.armed = true
  left : D.left = k
theorem Ar.bound {D : Dk} {k : Nat} (h : Ar D k) : (k : Int) ≤ 9223372036854775807 := by rw [← h.left]; exact h.ok.left.2
theorem Ar.ready {D : Dk} {k : Nat} (h : Ar D k) {i : Int} (hi : 0 ≤ i ∧ i < D.safe.length) : D.ready i = 0 := by
  rw [Dk.ready, h.dead, if_neg (by simp), if_neg (by omega)]
theorem Ar.does {D : Dk} {k : Nat} (h : Ar D (k + 1)) : Ar D.does k := ⟨h.ok.does, h.dead, h.armed, by
  have := h.bound
  simp only [Dk.does, h.armed, if_true, h.left]
  rw [wrap_i64 (by omega) (by omega)]
  omega⟩
theorem Ar.write {D : Dk} {k : Nat} (h : Ar D k) {i : Int} {b : Blk} (hb : b.length = 64) (hi : 0 ≤ i ∧ i < D.safe.length) :
    (k = 0 ∧ D.write i b = (D.dies, 7)) ∨ (∃ k', k = k' + 1 ∧ D.write i b = (D.does.push i b, 0) ∧ Ar (D.does.push i b) k') := by
  have hw : D.write i b = if D.armed = true ∧ D.left = 0 then (D.dies, 7) else (D.does.push i b, 0) := by rw [Dk.write, if_neg (by rw [h.ready hi]; simp)]
  rw [hw]
  cases k with
  | zero => exact .inl ⟨rfl, by rw [if_pos ⟨h.armed, h.left⟩]⟩
  | succ k =>
    have hd := h.does
    exact .inr ⟨k, rfl, by rw [if_neg (by rw [h.left]; omega)], hd.ok.push hb hi, hd.dead, hd.armed, hd.left⟩
theorem Ar.sync {D : Dk} {k : Nat} (h : Ar D k) : (k = 0 ∧ D.sync = (D.dies, 7)) ∨ (∃ k', k = k' + 1 ∧ D.sync = (D.does.settle (fun _ => true), 0) ∧ Ar (D.does.settle (fun _ => true)) k') := by
  have hw : D.sync = if D.armed = true ∧ D.left = 0 then (D.dies, 7) else (D.does.settle (fun _ => true), 0) := by rw [Dk.sync, if_neg (by simp [h.dead])]
  rw [hw]
  cases k with
  | zero => exact .inl ⟨rfl, by rw [if_pos ⟨h.armed, h.left⟩]⟩
  | succ k =>
    have hd := h.does
    exact .inr ⟨k, rfl, by rw [if_neg (by rw [h.left]; omega)], hd.ok.settle _, hd.dead, hd.armed, hd.left⟩
end Go.Proofs.Ytimekohdlofmaaa
namespace Go.Proofs.Ytimekohdlofmaaa
open Go Go.SL
theorem live_out (lv : Nat → Bool) (l : List (Int × Blk)) (k : Nat) (s : List Blk) (j : Nat) (hl : ∀ p ∈ l, p.1.toNat ≠ j) : (liveOn lv l k s).getD j [] = s.getD j [] := by
  induction l generalizing k s with
  | nil => rfl
  | cons p r ih =>
    rw [liveOn, ih _ _ (fun q hq => hl q (by simp [hq]))]
    split
    · have := hl p (by simp)
      simp [List.getD_eq_getElem?_getD, this]
    · rfl
theorem find_safe {D : Dk} (h : D.pending = []) (j : Int) : D.find j = D.safe.getD j.toNat [] := by simp [Dk.find, h]
theorem crash_find {X : Dk} (bs : List Bool) (j : Int) (hj : 0 ≤ j) (h : ∀ p ∈ X.pending, 0 ≤ p.1 ∧ p.1 ≠ j) : (X.crash bs).find j = X.safe.getD j.toNat [] := by
  rw [find_safe (D := X.crash bs) rfl]
  exact live_out (bitAt bs) X.pending 0 X.safe j.toNat (fun p hp => by have := h p hp; omega)
theorem crash_up {X : Dk} (h : X.Ok) (bs : List Bool) : Up (X.crash bs) ∧ (X.crash bs).pending = [] ∧ (X.crash bs).safe.length = X.safe.length :=
  ⟨⟨h.crash bs, rfl, rfl⟩, rfl, liveOn_length _ _ _ _⟩
/-- The pieces on their way. -/
structure OnWay (base : Int) (bs : List Int) (n : Nat) (D X : Dk) : Prop where
  ok : X.Ok
  safe : X.safe = D.safe
  pend : ∀ p ∈ X.pending, base ≤ p.1 ∧ p.1 < base + n
  few : X.pending.length ≤ n
theorem takeW_ar {D : Dk} {base : Int} {bs : List Int} {n k : Nat} (h : Ar D k) (hp : D.pending = []) (h0 : 0 ≤ base) (h1 : base + n ≤ D.safe.length) : ∀ j, j ≤ n →
    OnWay base bs n D (takeW base bs D j).1 ∧ (takeW base bs D j).1.pending.length ≤ j ∧
    (((takeW base bs D j).2 = 7 ∧ (takeW base bs D j).1.dead = true) ∨
    ((takeW base bs D j).2 = 0 ∧ (∃ k', Ar (takeW base bs D j).1 k') ∧ ∀ i : Int, (takeW base bs D j).1.find i = if base ≤ i ∧ i < base + j then chunk bs (i - base).toNat else D.find i))
  | 0, _ => ⟨⟨h.ok, rfl, by simp [takeW, hp], by simp [takeW, hp]⟩, by simp [takeW, hp], .inr ⟨rfl, ⟨k, h⟩, fun i => by rw [if_neg (by omega)]; rfl⟩⟩
  | j + 1, hj => by
    obtain ⟨hw, hpl, ⟨e, hd⟩ | ⟨e, ⟨k', ha⟩, hf⟩⟩ := takeW_ar h hp h0 h1 j (by omega)
    · have e2 : takeW base bs D (j + 1) = takeW base bs D j := by rw [takeW, if_neg (by rw [e]; decide)]
      rw [e2]
      exact ⟨hw, by omega, .inl ⟨e, hd⟩⟩
    · have e2 : takeW base bs D (j + 1) = (takeW base bs D j).1.write (base + j) (chunk bs j) := by rw [takeW, if_pos e]
      have hsl : (takeW base bs D j).1.safe.length = D.safe.length := by rw [hw.safe]
      rw [e2]
      rcases ha.write (i := base + j) (chunk_length bs j) (by rw [hsl]; omega) with ⟨_, e3⟩ | ⟨k2, _, e3, ha2⟩
      · rw [e3]
        exact ⟨⟨hw.ok.dies, hw.safe, hw.pend, hw.few⟩, by show (takeW base bs D j).1.pending.length ≤ j + 1; omega, .inl ⟨rfl, rfl⟩⟩
      · rw [e3]
        refine ⟨⟨ha2.ok, hw.safe, fun p hpp => ?_, ?_⟩, ?_, .inr ⟨rfl, ⟨k2, ha2⟩, fun i => ?_⟩⟩
        · simp only [Dk.push, Dk.does, List.mem_append, List.mem_singleton] at hpp
          rcases hpp with hpp | rfl
          · exact hw.pend p hpp
          · dsimp only; omega
        · simp only [Dk.push, Dk.does, List.length_append, List.length_singleton]; omega
        · simp only [Dk.push, Dk.does, List.length_append, List.length_singleton]; omega
        · dsimp only
          rw [dk_find_push, hf]
          by_cases hi : base + j = i
          · rw [if_pos hi, if_pos (by omega), show (i - base).toNat = j by omega]
          · rw [if_neg hi]
            by_cases hi2 : base ≤ i ∧ i < base + j
            · rw [if_pos hi2, if_pos (by omega)]
            · rw [if_neg hi2, if_neg (by omega)]
/-- What is left when the power went. -/
theorem kept_of {s : Sb} {D X : Dk} {base : Int} {bs : List Int} {n : Nat} (hD : D.pending = []) (hb : 2 + (1 - s.place) * (D.half : Int) = base) (hn : n ≤ D.half) (h0 : 0 ≤ base) (h : OnWay base bs n D X) (keep : List Bool) : Kept s D (X.crash keep) := by
  obtain ⟨hu, hp, hl⟩ := crash_up h.ok keep
  refine ⟨hu, hp, by rw [hl, h.safe], fun j hj0 hj1 hout => ?_⟩
  rw [crash_find keep j hj0 (fun p hpp => by have := h.pend p hpp; omega), h.safe, find_safe hD]
/-- A cut leaves all as it was, or as it was to come. -/
theorem cut_law {s : Sb} {D : Dk} {bs : List Int} {k : Nat} (h : Up D) (hD : D.pending = []) (hk : k ≤ 1000000) (h2 : 2 ≤ D.safe.length) (hp : s.place = 0 ∨ s.place = 1) (hl : bs.length ≤ 64 * D.half) :
    (takeS s (D.arm k) bs).2.1.pending.length ≤ 1000 ∧
    (((takeS s (D.arm k) bs).1 = s ∧ (takeS s (D.arm k) bs).2.2 = 7 ∧ (takeS s (D.arm k) bs).2.1.dead = true ∧ ∀ keep, Kept s D ((takeS s (D.arm k) bs).2.1.crash keep) ∨ Taken s D bs ((takeS s (D.arm k) bs).2.1.crash keep)) ∨
    ((takeS s (D.arm k) bs).1 = nextS s bs ∧ (takeS s (D.arm k) bs).2.2 = 0 ∧ (takeS s (D.arm k) bs).2.1.dead = false ∧ ∀ keep, Taken s D bs ((takeS s (D.arm k) bs).2.1.crash keep))) := by
  have hm := h.ok.most
  have h4 := half_le D h2
  have hA : Ar (D.arm k) k := ⟨⟨h.ok.safe, h.ok.pend, h.ok.some, h.ok.most, by simp only [Dk.arm]; omega⟩, h.dead, by simp [Dk.arm], rfl⟩
  obtain ⟨base, hb⟩ : ∃ base, 2 + (1 - s.place) * (D.half : Int) = base := ⟨_, rfl⟩
  obtain ⟨n, hn⟩ : ∃ n, (bs.length + 63) / 64 = n := ⟨_, rfl⟩
  have hbs : 0 ≤ base ∧ base + n ≤ D.safe.length ∧ 2 ≤ base := by
    have := half_mul (s := { s with place := 1 - s.place }) (D := D) (by dsimp only; omega)
    dsimp only at this
    omega
  have hnh : n ≤ D.half := by omega
  have hnx : nextS s bs = nextS s bs := rfl
  have hfa : ∀ i, (D.arm k).find i = D.find i := fun i => rfl
  obtain ⟨hw, hpl, hw2⟩ := takeW_ar (bs := bs) (n := n) hA (by exact hD) hbs.1 (by exact hbs.2.1) n (Nat.le_refl _)
  obtain ⟨t, ht⟩ : ∃ t : Nat, (nextS s bs).turn.toNat % 2 = t := ⟨_, rfl⟩
  have ht2 : t < 2 := by omega
  have hdef : takeS s (D.arm k) bs = (let w := takeW base bs (D.arm k) n
      if w.2 = 0 then
        if w.1.sync.2 = 0 then
          let v := w.1.sync.1.write (t : Int) (sbBlock (nextS s bs))
          if v.2 = 0 then
            if v.1.sync.2 = 0 then (nextS s bs, v.1.sync.1, 0) else (s, v.1.sync.1, v.1.sync.2)
          else (s, v.1, v.2)
        else (s, w.1.sync.1, w.1.sync.2)
      else (s, w.1, w.2)) := by
    unfold takeS
    rw [if_neg (show ¬ 64 * (D.arm k).half < bs.length from by show ¬ 64 * D.half < bs.length; omega)]
    rw [show 2 + (nextS s bs).place * ((D.arm k).half : Int) = base from hb, hn, ht]
  rw [hdef]
  dsimp only
  obtain ⟨W, hW⟩ : ∃ W, takeW base bs (D.arm k) n = W := ⟨_, rfl⟩
  rw [hW] at hw hpl hw2 ⊢
  have hwK : OnWay base bs n D W.1 := ⟨hw.ok, hw.safe, hw.pend, hw.few⟩
  have hwl : W.1.safe.length = D.safe.length := by rw [hwK.safe]
  rcases hw2 with ⟨e, hd⟩ | ⟨e, ⟨k1, ha⟩, hf⟩
  · rw [if_neg (by rw [e]; decide)]
    exact ⟨by show W.1.pending.length ≤ 1000; omega, .inl ⟨rfl, e, hd, fun keep => .inl (kept_of hD hb hnh hbs.1 hwK keep)⟩⟩
  rw [if_pos e]
  rcases ha.sync with ⟨_, e1⟩ | ⟨k2, _, e1, hy⟩
  · rw [e1, if_neg (show ¬ (7 : Int) = 0 by decide)]
    exact ⟨by show W.1.pending.length ≤ 1000; omega, .inl ⟨rfl, rfl, rfl, fun keep => .inl (kept_of (bs := bs) (X := W.1.dies) hD hb hnh hbs.1 ⟨hwK.ok.dies, hwK.safe, hwK.pend, hwK.few⟩ keep)⟩⟩
  rw [e1, if_pos rfl]
  dsimp only
  obtain ⟨Y, hY⟩ : ∃ Y, W.1.does.settle (fun _ => true) = Y := ⟨_, rfl⟩
  have hYp : Y.pending = [] := by rw [← hY]; rfl
  have hYl : Y.safe.length = D.safe.length := by rw [← hY]; simp [Dk.settle, liveOn_length, Dk.does, hwl]
  have hYf : ∀ j : Int, 0 ≤ j → j < D.safe.length → Y.find j = if base ≤ j ∧ j < base + n then chunk bs (j - base).toNat else D.find j := fun j hj0 hj1 => by
    rw [← hY, dk_find_settle hwK.ok j ⟨hj0, by omega⟩, hf, hfa]
  rw [hY] at hy ⊢
  have hYk : ∀ X : Dk, X.Ok → X.safe = Y.safe → X.pending = [] → ∀ keep, Kept s D (X.crash keep) := fun X hX hs hpe keep => by
    obtain ⟨hu, hp', hl'⟩ := crash_up hX keep
    refine ⟨hu, hp', by rw [hl', hs, hYl], fun j hj0 hj1 hout => ?_⟩
    rw [crash_find keep j hj0 (by rw [hpe]; simp), hs, ← find_safe hYp, hYf j hj0 hj1, if_neg (by omega)]
  rcases hy.write (i := (t : Int)) (b := sbBlock (nextS s bs)) (sbBlock_length (nextS_hash s bs)) (by omega) with ⟨_, e2⟩ | ⟨k3, _, e2, hv⟩
  · rw [e2, if_neg (show ¬ (7 : Int) = 0 by decide)]
    exact ⟨by show Y.pending.length ≤ 1000; rw [hYp]; decide, .inl ⟨rfl, rfl, rfl, fun keep => .inl (hYk Y.dies hy.ok.dies rfl hYp keep)⟩⟩
  rw [e2, if_pos rfl]
  dsimp only
  have hT : ∀ X : Dk, X.Ok → X.safe = Y.safe.set t (sbBlock (nextS s bs)) → X.pending = [] → ∀ keep, Taken s D bs (X.crash keep) := fun X hX hs hpe keep => by
    obtain ⟨hu, hp', hl'⟩ := crash_up hX keep
    refine ⟨hu, by rw [hl', hs, List.length_set, hYl], hp', fun j hj0 hj1 => ?_⟩
    rw [crash_find keep j hj0 (by rw [hpe]; simp), hs, ht, show 2 + (nextS s bs).place * (D.half : Int) = base from hb, hn]
    by_cases hjt : j = t
    · rw [if_pos hjt, hjt, List.getD_eq_getElem?_getD, show ((t : Int)).toNat = t from rfl, List.getElem?_set_self (by omega)]
      rfl
    · rw [if_neg hjt, ← hYf j hj0 hj1, find_safe hYp]
      simp [List.getD_eq_getElem?_getD, show ¬ t = j.toNat by omega]
  have hvp : (Y.does.push (t : Int) (sbBlock (nextS s bs))).pending = [((t : Int), sbBlock (nextS s bs))] := by simp [Dk.push, Dk.does, hYp]
  rcases hv.sync with ⟨_, e3⟩ | ⟨k4, _, e3, hz⟩
  · rw [e3, if_neg (show ¬ (7 : Int) = 0 by decide)]
    refine ⟨by show (Y.does.push (t : Int) (sbBlock (nextS s bs))).pending.length ≤ 1000; rw [hvp]; simp, .inl ⟨rfl, rfl, rfl, fun keep => ?_⟩⟩
    have hc : ((Y.does.push (t : Int) (sbBlock (nextS s bs))).dies.crash keep) = { (Y.does.push (t : Int) (sbBlock (nextS s bs))).dies with safe := if bitAt keep 0 then Y.safe.set t (sbBlock (nextS s bs)) else Y.safe, pending := [], dead := false, armed := false } := by
      simp [Dk.crash, Dk.settle, Dk.dies, hvp, liveOn]
      rfl
    have hce : ∀ X : Dk, X.pending = [] → X.dead = false → X.armed = false → X.crash keep = X := fun X h1 h2 h3 => by
      cases X
      simp only at h1 h2 h3
      subst h1 h2 h3
      rfl
    have hok := hv.ok.dies.crash keep
    rw [hc] at hok ⊢
    cases hb0 : bitAt keep 0 with
    | false =>
      rw [hb0] at hok
      have q := hYk _ hok rfl rfl keep
      rw [hce _ rfl rfl rfl] at q
      exact .inl q
    | true =>
      rw [hb0] at hok
      have q := hT _ hok rfl rfl keep
      rw [hce _ rfl rfl rfl] at q
      exact .inr q
  · rw [e3, if_pos rfl]
    refine ⟨Nat.zero_le _, .inr ⟨rfl, rfl, hz.dead, fun keep => hT _ hz.ok ?_ rfl keep⟩⟩
    show liveOn (fun _ => true) (Y.does.push (t : Int) (sbBlock (nextS s bs))).does.pending 0 Y.safe = _
    rw [show (Y.does.push (t : Int) (sbBlock (nextS s bs))).does.pending = [((t : Int), sbBlock (nextS s bs))] from hvp]
    rfl
end Go.Proofs.Ytimekohdlofmaaa
namespace Go.Proofs.Ytimekohdlofmaaa
open Go Go.SL
/-! A store that holds a snapshot (for the layers above). -/
theorem takeS_len (s : Sb) (D : Dk) (bs : List Int) : (takeS s D bs).2.1.safe.length = D.safe.length := by
  unfold takeS
  split
  · rfl
  · dsimp only
    obtain ⟨w, hw⟩ : ∃ w, takeW (2 + (nextS s bs).place * D.half) bs D ((bs.length + 63) / 64) = w := ⟨_, rfl⟩
    have h1 := (takeW_len (2 + (nextS s bs).place * D.half) bs D ((bs.length + 63) / 64)).1
    rw [hw] at h1 ⊢
    have h2 := (sync_len w.1).1
    have h3 := (write_len w.1.sync.1 (((nextS s bs).turn.toNat % 2 : Nat) : Int) (sbBlock (nextS s bs))).1
    have h4 := (sync_len (w.1.sync.1.write (((nextS s bs).turn.toNat % 2 : Nat) : Int) (sbBlock (nextS s bs))).1).1
    split
    · split
      · split
        · split
          · exact (h4.trans h3).trans (h2.trans h1)
          · exact (h4.trans h3).trans (h2.trans h1)
        · exact h3.trans (h2.trans h1)
      · exact h2.trans h1
    · exact h1
attribute [local irreducible] J JL JE JM LS Y Fc RV Code.wp wpList Code.wpIn wpListIn
attribute [local irreducible] Yc
variable (E : World)
theorem snapshot_ok (st d : Nat) (s : Sb) (D : Dk) (bs : List Int) (l : List HProp) (hf : Fits s D) (hdead : D.dead = false) (hpn : D.pending.length ≤ 1000000) (hb : snapS s D = bs) (hl : s.size.toNat = bs.length) (hs : (sha bs).take 16 = s.hash) :
    Fc prog E 26 [.pointer (some ⟨st, 0, none⟩)].toArray (row st 74 (scells s d) :: disk d D :: l)
      (fun v l' => ∃ a c, v = .tuple #[.slice a bs.length c, .int .i64 0] ∧ l' = own 5 1 (.slice a bs.length c) bs.length (ints .u8 bs) :: row st 74 (scells s d) :: disk d D :: l) :=
  (snapshot_spec E st d s D l hf hdead hpn).mono fun v l' h => by
    rw [hb, if_pos hs, hl] at h
    exact h
end Go.Proofs.Ytimekohdlofmaaa
