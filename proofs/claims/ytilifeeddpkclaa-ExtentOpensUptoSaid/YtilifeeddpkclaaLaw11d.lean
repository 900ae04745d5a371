import Derived.Test.YtilifeeddpkclaaRef11d
namespace Go.Proofs.Ytilifeeddpkclaa
open Go Go.SL
/-! The document's disk over a disk's sectors; bytes. -/
theorem Bytes.nil : Bytes [] := fun x hx => absurd hx (by simp)
theorem Bytes.append {xs ys : List Int} (hx : Bytes xs) (hy : Bytes ys) : Bytes (xs ++ ys) := fun z hz => by
  rcases List.mem_append.1 hz with h | h
  · exact hx z h
  · exact hy z h
theorem Bytes.rep (n : Nat) : Bytes (List.replicate n 0) := fun x hx => by
  rw [List.eq_of_mem_replicate hx]; exact ⟨Int.le_refl _, by decide⟩
theorem Bytes.take {xs : List Int} (h : Bytes xs) (n : Nat) : Bytes (xs.take n) := fun x hx => h x (List.mem_of_mem_take hx)
theorem Bytes.drop {xs : List Int} (h : Bytes xs) (n : Nat) : Bytes (xs.drop n) := fun x hx => h x (List.mem_of_mem_drop hx)
theorem Bytes.sha (bs : List Int) : Bytes (sha bs) := fun x hx => by
  rw [Go.Proofs.Ytilifeeddpkclaa.sha, shaOut, List.mem_flatMap] at hx
  obtain ⟨w, _, hw⟩ := hx
  simp only [out4, List.mem_cons, List.not_mem_nil, or_false] at hw
  rcases hw with rfl | rfl | rfl | rfl <;> omega
theorem Bytes.leB (n : Nat) (x : BitVec 64) : Bytes (leB n x) := fun y hy => by
  simp only [Go.Proofs.Ytilifeeddpkclaa.leB, List.mem_map] at hy
  obtain ⟨i, _, rfl⟩ := hy
  omega
theorem Bytes.sbHead {s : Sb} (h : Bytes s.hash) : Bytes (sbHead s) :=
  (((((show Bytes (lettersL ++ [s.place % 256, 0]) from fun x hx => by
    simp only [lettersL, List.mem_append, List.mem_cons, List.not_mem_nil, or_false] at hx
    omega).append (Bytes.leB _ _)).append (Bytes.leB _ _)).append h).append (Bytes.rep _))
theorem Bytes.sbBlock {s : Sb} (h : Bytes s.hash) : Bytes (sbBlock s) := (Bytes.sbHead h).append ((Bytes.sha _).take _)
theorem Bytes.chunk {bs : List Int} (h : Bytes bs) (i : Nat) : Bytes (chunk bs i) := ((h.drop _).take _).append (Bytes.rep _)
/-- A disk of bytes. -/
structure Byt (D : Dk) : Prop where
  safe : ∀ b ∈ D.safe, Bytes b
  pend : ∀ p ∈ D.pending, Bytes p.2
theorem Byt.find {D : Dk} (h : Byt D) (i : Int) : Bytes (D.find i) := by
  unfold Dk.find
  split
  · rename_i p hp
    exact h.pend p (List.mem_reverse.1 (List.mem_of_find?_eq_some hp))
  · rw [List.getD_eq_getElem?_getD]
    cases e : D.safe[i.toNat]? with
    | none => exact Bytes.nil
    | some b => exact h.safe b (List.mem_of_getElem? e)
theorem byt_live (lv : Nat → Bool) : ∀ (l : List (Int × Blk)) (k : Nat) (s : List Blk), (∀ p ∈ l, Bytes p.2) → (∀ b ∈ s, Bytes b) → ∀ b ∈ liveOn lv l k s, Bytes b
  | [], _, _, _, hs => hs
  | p :: r, k, s, hl, hs => by
    simp only [liveOn]
    refine byt_live lv r (k + 1) _ (fun q hq => hl q (by simp [hq])) ?_
    split
    · intro b hb
      rcases List.mem_or_eq_of_mem_set hb with h | rfl
      · exact hs b h
      · exact hl p (by simp)
    · exact hs
theorem Byt.does {D : Dk} (h : Byt D) : Byt D.does := ⟨h.safe, h.pend⟩
theorem Byt.dies {D : Dk} (h : Byt D) : Byt D.dies := ⟨h.safe, h.pend⟩
theorem Byt.push {D : Dk} (h : Byt D) (i : Int) {b : Blk} (hb : Bytes b) : Byt (D.push i b) := ⟨h.safe, fun p hp => by
  simp only [Dk.push, List.mem_append, List.mem_singleton] at hp
  rcases hp with hp | rfl
  · exact h.pend p hp
  · exact hb⟩
theorem Byt.settle {D : Dk} (h : Byt D) (lv : Nat → Bool) : Byt (D.settle lv) := ⟨byt_live lv _ _ _ h.pend h.safe, fun p hp => absurd hp (by simp [Dk.settle])⟩
theorem Byt.new (n : Nat) : Byt (Dk.new n) := ⟨fun b hb => by rw [List.eq_of_mem_replicate hb]; exact Bytes.rep 64, fun p hp => absurd hp (by simp [Dk.new])⟩
theorem Byt.formatted {D : Dk} (h : Byt D) : Byt D.formatted := ((h.does.push 0 (Bytes.sbBlock ((Bytes.sha _).take _))).does.push 1 (Bytes.rep 64)).does.settle _
theorem Byt.write {D : Dk} (h : Byt D) (i : Int) {b : Blk} (hb : Bytes b) : Byt (D.write i b).1 := by
  unfold Dk.write
  split
  · exact h
  · split
    · exact h.dies
    · exact h.does.push i hb
theorem Byt.sync {D : Dk} (h : Byt D) : Byt D.sync.1 := by
  unfold Dk.sync
  split
  · exact h
  · split
    · exact h.dies
    · exact h.does.settle _
theorem Byt.takeW {D : Dk} (h : Byt D) (base : Int) {bs : List Int} (hb : Bytes bs) : ∀ k, Byt (takeW base bs D k).1
  | 0 => h
  | k + 1 => by
    rw [Go.Proofs.Ytilifeeddpkclaa.takeW]
    split
    · exact (Byt.takeW h base hb k).write _ (hb.chunk k)
    · exact Byt.takeW h base hb k
theorem Byt.takeS {D : Dk} (h : Byt D) (s : Sb) {bs : List Int} (hb : Bytes bs) : Byt (takeS s D bs).2.1 := by
  unfold Go.Proofs.Ytilifeeddpkclaa.takeS
  split
  · exact h
  · have h1 := (h.takeW (2 + (nextS s bs).place * D.half) hb ((bs.length + 63) / 64))
    have h2 : Bytes (Go.Proofs.Ytilifeeddpkclaa.sbBlock (nextS s bs)) := Bytes.sbBlock ((Bytes.sha _).take _)
    dsimp only
    split
    · split
      · split
        · split
          · exact (h1.sync.write _ h2).sync
          · exact (h1.sync.write _ h2).sync
        · exact h1.sync.write _ h2
      · exact h1.sync
    · exact h1
theorem rsnapB_cur {D : Dk} (hd : D.dead = false) (s : Sb) (P : Nat) (hP : s.place = (P : Int)) : ∀ k, 2 + P * D.half + k ≤ D.safe.length → rsnapB D.cur (2 + P * D.half) k = snapB s D k
  | 0, _ => rfl
  | k + 1, h => by
    have e1 : (2 + s.place * (D.half : Int) + (k : Int)) = ((2 + P * D.half + k : Nat) : Int) := by rw [hP]; push_cast; rfl
    have hr : D.ready ((2 + P * D.half + k : Nat) : Int) = 0 := by rw [Dk.ready, hd, if_neg (by simp), if_neg (by omega)]
    rw [rsnapB, snapB, rsnapB_cur hd s P hP k (by omega), e1, Dk.read, if_pos hr, List.getD_eq_getElem?_getD, Dk.cur_at (by omega)]
    rfl
theorem counts_pick (D : Dk) : D.counts = if sbOk (rpick (D.find 0) (D.find 1)) = true then some (sbRead (rpick (D.find 0) (D.find 1))) else none := by
  obtain ⟨A, hA⟩ : ∃ A, D.find 0 = A := ⟨_, rfl⟩
  obtain ⟨B, hB⟩ : ∃ B, D.find 1 = B := ⟨_, rfl⟩
  unfold Dk.counts rpick
  rw [hA, hB]
  cases hkA : sbOk A with
  | false => simp
  | true =>
    by_cases h : sbOk B = true ∧ (sbRead A).turn.toNat < (sbRead B).turn.toNat
    · simp [h]
    · simp [h, hkA]
attribute [local irreducible] J JL JE JM LS Y Fc RV Code.wp wpList Code.wpIn wpListIn
attribute [local irreducible] Yc
variable (E : World)
section
variable (D : Dk) (hok : D.Ok) (hbyt : Byt D) (hdead : D.dead = false) (h2 : 64 ≤ D.safe.length) (n : Nat) (hn : D.safe.length = n) (p : Option Addr) (cap : Nat) (l : List HProp) (hin : InL l p n cap (D.cur.flatMap encB))
include hok hbyt hdead h2 hn hin
/-- The document's snapshot of what the sectors hold. -/
theorem rsnapshot_spec :
    Fc prog E 48 [.agg #[.slice p n cap]].toArray l (fun v l' => match D.counts with
      | none => v = .tuple #[.slice none 0 0, .bool false] ∧ l' = l
      | some s => if 64 * (D.half : Int) < s.size then v = .tuple #[.slice none 0 0, .bool false] ∧ l' = l
        else ∃ a c, v = .tuple #[.slice a s.size.toNat c, .bool (decide ((sha (snapS s D)).take 16 = s.hash))] ∧ l' = own 5 1 (.slice a s.size.toNat c) s.size.toNat (ints .u8 (snapS s D)) :: l) := by
  have hm := hok.most
  have hA : D.cur[0]? = some (D.find 0) := Dk.cur_at (i := 0) (by omega)
  have hB : D.cur[1]? = some (D.find 1) := Dk.cur_at (i := 1) (by omega)
  have hc64 : ∀ x ∈ D.cur, x.length = 64 := fun x hx => (encB_length x).symm.trans (hok.curB x hx)
  rw [counts_pick]
  obtain ⟨X, hX⟩ : ∃ X, rpick (D.find 0) (D.find 1) = X := ⟨_, rfl⟩
  rw [hX]
  have hhl := half_le D (by omega)
  have hhe : (n - 2) / 4 = D.half := by rw [← hn]; rfl
  cases hk : sbOk X with
  | false =>
    rw [if_neg (by simp)]
    exact rsnap_no E p n cap D.cur _ _ X l hin ((Dk.cur_length D).trans hn) hc64 hA hB (hbyt.find _) (hbyt.find _) hX hk (by omega)
  | true =>
    rw [if_pos rfl]
    have hpl := sbOk_place hk
    obtain ⟨P, hP, hP1⟩ : ∃ P : Nat, (sbRead X).place = (P : Int) ∧ P ≤ 1 := by
      rcases hpl with e | e
      · exact ⟨0, e, by omega⟩
      · exact ⟨1, e, by omega⟩
    have hz0 := sbRead_size X
    obtain ⟨z, hz⟩ : ∃ z : Nat, (sbRead X).size = (z : Int) := ⟨(sbRead X).size.toNat, by omega⟩
    have h := rsnap_yes E p n cap D.cur _ _ X l hin ((Dk.cur_length D).trans hn) hc64 hA hB (hbyt.find _) (hbyt.find _) hX hk (by omega) P z hP hP1 hz _ rfl (by omega)
    rw [hhe] at h
    dsimp only
    rw [hz, Int.toNat_natCast]
    by_cases hlt : 64 * D.half < z
    · simp only [if_pos (show 64 * (D.half : Int) < (z : Int) by omega)]
      simp only [if_pos hlt] at h
      exact h
    · simp only [if_neg (show ¬ 64 * (D.half : Int) < (z : Int) by omega)]
      simp only [if_neg hlt] at h
      have hPH : P * D.half ≤ D.half := by rcases (by omega : P = 0 ∨ P = 1) with rfl | rfl <;> omega
      rw [rsnapB_cur hdead (sbRead X) P hP _ (by omega)] at h
      have e : snapS (sbRead X) D = (snapB (sbRead X) D ((z + 63) / 64)).take z := by rw [snapS, hz, Int.toNat_natCast]
      rw [e]
      exact h
end
end Go.Proofs.Ytilifeeddpkclaa
