import Derived.Test.YtilifeeddpkclaaExt6
namespace Go.Proofs.Ytilifeeddpkclaa
open Go Go.SL
/-! What the sectors hold behind a snapshot's taking. -/
theorem dk_find_push (D : Dk) (i j : Int) (b : Blk) : (D.does.push i b).find j = if i = j then b else D.find j := by
  simp only [Dk.find, Dk.push, Dk.does, List.reverse_append, List.reverse_singleton, List.singleton_append, List.find?_cons]
  by_cases h : i = j <;> simp [h]
theorem dk_live_find (l : List (Int × Blk)) (k : Nat) (s : List Blk) (j : Nat) (hl : ∀ p ∈ l, 0 ≤ p.1 ∧ p.1 < s.length) (hj : j < s.length) :
    (liveOn (fun _ => true) l k s).getD j [] = match l.reverse.find? (fun p => p.1 = (j : Int)) with | some p => p.2 | none => s.getD j [] := by
  induction l generalizing k s with
  | nil => rfl
  | cons p r ih =>
    have hp := hl p (by simp)
    simp only [liveOn, if_true, List.reverse_cons, List.find?_append]
    rw [ih (k + 1) (s.set p.1.toNat p.2) (fun q hq => by simpa using hl q (by simp [hq])) (by simpa using hj)]
    cases hf : r.reverse.find? (fun p => p.1 = (j : Int)) with
    | some q => rfl
    | none =>
      simp only [Option.none_or, List.find?_singleton, List.getD_eq_getElem?_getD]
      by_cases he : p.1 = (j : Int)
      · simp [he, hj]
      · have : ¬ p.1.toNat = j := by omega
        simp [he, this]
theorem dk_find_settle {D : Dk} (h : D.Ok) (j : Int) (hj : 0 ≤ j ∧ j < D.safe.length) : (D.does.settle (fun _ => true)).find j = D.find j := by
  obtain ⟨k, rfl⟩ : ∃ k : Nat, j = k := ⟨j.toNat, by omega⟩
  have := dk_live_find D.pending 0 D.safe k (fun p hp => (h.pend p hp).2) (by omega)
  simp only [Dk.find, Dk.settle, Dk.does, List.reverse_nil, List.find?_nil, Int.toNat_natCast]
  exact this
/-- It does what it is told. -/
structure Up (D : Dk) : Prop where
  ok : D.Ok
  dead : D.dead = false
  armed : D.armed = false
theorem Up.ready {D : Dk} (h : Up D) {i : Int} (hi : 0 ≤ i ∧ i < D.safe.length) : D.ready i = 0 := by
  rw [Dk.ready, h.dead, if_neg (by simp), if_neg (by omega)]
theorem Up.write {D : Dk} (h : Up D) {i : Int} (b : Blk) (hi : 0 ≤ i ∧ i < D.safe.length) : D.write i b = (D.does.push i b, 0) := by
  rw [Dk.write, if_neg (by rw [h.ready hi]; simp), if_neg (by simp [h.armed])]
theorem Up.push {D : Dk} (h : Up D) {i : Int} {b : Blk} (hi : 0 ≤ i ∧ i < D.safe.length) (hb : b.length = 64) : Up (D.does.push i b) := ⟨h.ok.does.push hb hi, h.dead, h.armed⟩
theorem Up.sync {D : Dk} (h : Up D) : D.sync = (D.does.settle (fun _ => true), 0) := by
  rw [Dk.sync, if_neg (by simp [h.dead]), if_neg (by simp [h.armed])]
theorem Up.settle {D : Dk} (h : Up D) : Up (D.does.settle (fun _ => true)) := ⟨h.ok.does.settle _, h.dead, h.armed⟩
theorem Up.read {D : Dk} (h : Up D) {i : Int} (hi : 0 ≤ i ∧ i < D.safe.length) : D.read i = D.find i := by rw [Dk.read, if_pos (h.ready hi)]
theorem takeW_up {D : Dk} {base : Int} {bs : List Int} {n : Nat} (h : Up D) (h0 : 0 ≤ base) (h1 : base + n ≤ D.safe.length) : ∀ k, k ≤ n →
    (takeW base bs D k).2 = 0 ∧ Up (takeW base bs D k).1 ∧ ∀ j : Int, (takeW base bs D k).1.find j = if base ≤ j ∧ j < base + k then chunk bs (j - base).toNat else D.find j
  | 0, _ => ⟨rfl, h, fun j => by rw [if_neg (by omega)]; rfl⟩
  | k + 1, hk => by
    obtain ⟨e, hu, hf⟩ := takeW_up h h0 h1 k (by omega)
    have hl := (takeW_len base bs D k).1
    have hi : 0 ≤ base + k ∧ base + k < (takeW base bs D k).1.safe.length := by omega
    rw [takeW, if_pos e, hu.write _ hi]
    refine ⟨rfl, hu.push hi (chunk_length _ _), fun j => ?_⟩
    dsimp only
    rw [dk_find_push, hf]
    by_cases hj : base + k = j
    · rw [if_pos hj, if_pos (by omega), show (j - base).toNat = k by omega]
    · rw [if_neg hj]
      by_cases hj2 : base ≤ j ∧ j < base + k
      · rw [if_pos hj2, if_pos (by omega)]
      · rw [if_neg hj2, if_neg (by omega)]
/-- Behind a snapshot that is taken. -/
structure Taken (s : Sb) (D : Dk) (bs : List Int) (D' : Dk) : Prop where
  up : Up D'
  len : D'.safe.length = D.safe.length
  none : D'.pending = []
  find : ∀ j : Int, 0 ≤ j → j < D.safe.length → D'.find j = if j = ((nextS s bs).turn.toNat % 2 : Nat) then sbBlock (nextS s bs)
    else if 2 + (nextS s bs).place * (D.half : Int) ≤ j ∧ j < 2 + (nextS s bs).place * (D.half : Int) + ((bs.length + 63) / 64 : Nat) then chunk bs (j - (2 + (nextS s bs).place * (D.half : Int))).toNat else D.find j
theorem takeS_up {s : Sb} {D : Dk} {bs : List Int} (h : Up D) (h2 : 2 ≤ D.safe.length) (hp : s.place = 0 ∨ s.place = 1) (hl : bs.length ≤ 64 * D.half) : ∃ D', takeS s D bs = (nextS s bs, D', 0) ∧ Taken s D bs D' := by
  have h4 : 4 * D.half ≤ D.safe.length - 2 := by unfold Dk.half; omega
  obtain ⟨base, hb⟩ : ∃ base, 2 + (nextS s bs).place * (D.half : Int) = base := ⟨_, rfl⟩
  obtain ⟨n, hn⟩ : ∃ n, (bs.length + 63) / 64 = n := ⟨_, rfl⟩
  have h5 : 0 ≤ (nextS s bs).place * (D.half : Int) ∧ (nextS s bs).place * (D.half : Int) ≤ D.half := by
    have e1 : (nextS s bs).place = 1 - s.place := rfl
    rw [e1]
    rcases hp with e | e <;> rw [e]
    · rw [show (1 - 0 : Int) = 1 by rfl, Int.one_mul]; omega
    · rw [show (1 - 1 : Int) = 0 by rfl, Int.zero_mul]; omega
  obtain ⟨e, hu, hf⟩ := takeW_up (bs := bs) (n := n) h (base := base) (by omega) (by omega) n (Nat.le_refl _)
  have hwl := (takeW_len base bs D n).1
  obtain ⟨Wd, hW⟩ : ∃ Wd, (takeW base bs D n).1 = Wd := ⟨_, rfl⟩
  rw [hW] at hu hf hwl
  have hY := hu.settle
  have hYl : (Wd.does.settle (fun _ => true)).safe.length = D.safe.length := by simp [Dk.settle, liveOn_length, Dk.does, hwl]
  obtain ⟨t, ht⟩ : ∃ t : Int, (((nextS s bs).turn.toNat % 2 : Nat) : Int) = t := ⟨_, rfl⟩
  have hti : 0 ≤ t ∧ t < (Wd.does.settle (fun _ => true)).safe.length := by omega
  have hV := hY.push hti (sbBlock_length (nextS_hash s bs))
  have hVl : ((Wd.does.settle (fun _ => true)).does.push t (sbBlock (nextS s bs))).safe.length = D.safe.length := hYl
  refine ⟨_, ?_, hV.settle, ?_, rfl, fun j hj0 hj1 => ?_⟩
  · unfold takeS
    rw [if_neg (by omega), hb, hn]
    dsimp only
    rw [if_pos e, hW, hu.sync, if_pos rfl]
    dsimp only
    rw [ht, hY.write _ hti, if_pos rfl]
    dsimp only
    rw [hV.sync, if_pos rfl]
  · simp [Dk.settle, liveOn_length, Dk.does, Dk.push, hwl]
  · rw [dk_find_settle hV.ok j (by rw [hVl]; omega), dk_find_push, ht, hb, hn]
    by_cases hjt : t = j
    · rw [if_pos hjt, if_pos hjt.symm]
    · rw [if_neg hjt, if_neg (fun e => hjt e.symm), dk_find_settle hu.ok j (by omega), hf]
theorem snapB_taken {s : Sb} {D D' : Dk} {bs : List Int} (h : Taken s D bs D') (h2 : 2 ≤ D.safe.length) (hp : s.place = 0 ∨ s.place = 1) (hl : bs.length ≤ 64 * D.half) : ∀ k, k ≤ (bs.length + 63) / 64 →
    snapB (nextS s bs) D' k = bs.take (64 * k) ++ List.replicate (64 * k - bs.length) 0
  | 0, _ => by simp [snapB]
  | k + 1, hk => by
    have h4 : 4 * D.half ≤ D.safe.length - 2 := by unfold Dk.half; omega
    have hh : D'.half = D.half := by unfold Dk.half; rw [h.len]
    have h5 : 0 ≤ (nextS s bs).place * (D.half : Int) ∧ (nextS s bs).place * (D.half : Int) ≤ D.half := by
      have e1 : (nextS s bs).place = 1 - s.place := rfl
      rw [e1]
      rcases hp with e | e <;> rw [e]
      · rw [show (1 - 0 : Int) = 1 by rfl, Int.one_mul]; omega
      · rw [show (1 - 1 : Int) = 0 by rfl, Int.zero_mul]; omega
    rw [snapB, snapB_taken h h2 hp hl k (by omega), hh, h.up.read (by rw [h.len]; omega), h.find _ (by omega) (by omega), if_neg (by omega), if_pos (by omega)]
    rw [show (2 + (nextS s bs).place * (D.half : Int) + (k : Int) - (2 + (nextS s bs).place * (D.half : Int))).toNat = k by omega, show 64 * k - bs.length = 0 by omega, List.replicate_zero, List.append_nil, chunk, ← List.append_assoc]
    rw [show bs.take (64 * k) ++ (bs.drop (64 * k)).take 64 = bs.take (64 * (k + 1)) by rw [show 64 * (k + 1) = 64 * k + 64 by omega, List.take_add]]
    congr 2
    rw [List.length_take, List.length_drop]
    omega
theorem snapS_taken {s : Sb} {D D' : Dk} {bs : List Int} (h : Taken s D bs D') (h2 : 2 ≤ D.safe.length) (hp : s.place = 0 ∨ s.place = 1) (hl : bs.length ≤ 64 * D.half) : snapS (nextS s bs) D' = bs := by
  have hz : (nextS s bs).size.toNat = bs.length := by simp [nextS]
  have hN : bs.take (64 * ((bs.length + 63) / 64)) = bs := List.take_of_length_le (by omega)
  rw [snapS, hz, snapB_taken h h2 hp hl _ (Nat.le_refl _), hN, List.take_left' rfl]
theorem Taken.fits {s : Sb} {D D' : Dk} {bs : List Int} (h : Taken s D bs D') (h2 : 2 ≤ D.safe.length) (hp : s.place = 0 ∨ s.place = 1) (hl : bs.length ≤ 64 * D.half) : Fits (nextS s bs) D' :=
  ⟨nextS_hash s bs, by have e1 : (nextS s bs).place = 1 - s.place := rfl; rw [e1]; omega, by simp [nextS], by
    have hh : D'.half = D.half := by unfold Dk.half; rw [h.len]
    rw [hh]
    simp only [nextS]
    omega, by rw [h.len]; exact h2⟩
theorem new_up {n : Nat} (h1 : 1 ≤ n) (h2 : n ≤ 512) : Up (Dk.new n) := ⟨Dk.new_ok h1 h2, rfl, rfl⟩
theorem formatted_up {D : Dk} (h : Up D) (h2 : 2 ≤ D.safe.length) : Up D.formatted ∧ D.formatted.safe.length = D.safe.length ∧ D.formatted.pending = [] := by
  have h1 := h.push (i := 0) (b := sbBlock sb0) (by omega) (sbBlock_length sb0_hash)
  have h3 := h1.push (i := 1) (b := zeroB) (by simp only [Dk.push, Dk.does]; omega) rfl
  exact ⟨h3.settle, by simp [Dk.formatted, Dk.settle, liveOn_length, Dk.push, Dk.does], rfl⟩
end Go.Proofs.Ytilifeeddpkclaa
