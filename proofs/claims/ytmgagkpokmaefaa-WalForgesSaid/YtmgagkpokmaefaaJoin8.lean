import Derived.Test.YtmgagkpokmaefaaJoin1
import Derived.Test.YtmgagkpokmaefaaJoin7
namespace Go.Proofs.Ytmgagkpokmaefaa
open Go Go.SL
/-! What a log's sectors hold. -/
/-- Where the log's sectors begin. -/
def Dk.base (D : Dk) : Nat := 2 + 2 * D.half
theorem slotsL_find {D : Dk} {i : Nat} (h : i < D.slots) : (slotsL D).getD i [] = D.find ((D.base + i : Nat) : Int) := by
  rw [slotsL_getD h, show (2 + 2 * (D.half : Int) + (i : Int)) = ((D.base + i : Nat) : Int) by unfold Dk.base; omega]
theorem base_slots (D : Dk) (h2 : 2 ≤ D.safe.length) : D.base + D.slots = D.safe.length := by
  have := half_le D h2
  unfold Dk.base Dk.slots
  omega
theorem half_eq {D D' : Dk} (h : D'.safe.length = D.safe.length) : D'.half = D.half := by unfold Dk.half; rw [h]
theorem put_up {D : Dk} (h : Up D) (h2 : 2 ≤ D.safe.length) {i : Nat} (hi : i < D.slots) (b : Blk) : D.put (i : Int) b = (D.does.push ((D.base + i : Nat) : Int) b, 0) := by
  have hb := base_slots D h2
  have e1 : D.slotAt (i : Int) = (((D.base + i : Nat) : Int), 0) := by
    rw [Dk.slotAt, if_neg (by omega), show (2 + 2 * (D.half : Int) + (i : Int)) = ((D.base + i : Nat) : Int) by unfold Dk.base; omega]
  rw [Dk.put, e1, if_pos rfl, h.write b (by omega)]
theorem putsW_up {D : Dk} {used : Nat} {tx : List Int} (h : Up D) (h2 : 2 ≤ D.safe.length) : ∀ k, used + 1 + k ≤ D.slots →
    (putsW used tx D k).2 = 0 ∧ Up (putsW used tx D k).1 ∧ (putsW used tx D k).1.safe.length = D.safe.length ∧ ∀ j : Nat, (putsW used tx D k).1.find (j : Int) = if D.base + used + 1 ≤ j ∧ j < D.base + used + 1 + k then pieceB tx (j - (D.base + used + 1)) else D.find (j : Int)
  | 0, _ => ⟨rfl, h, rfl, fun j => by rw [if_neg (by omega)]; rfl⟩
  | k + 1, hk => by
    obtain ⟨e, hu, hl, hf⟩ := putsW_up (used := used) (tx := tx) h h2 k (by omega)
    have hh := half_eq hl
    have hb : (putsW used tx D k).1.base = D.base := by unfold Dk.base; rw [hh]
    have hs : (putsW used tx D k).1.slots = D.slots := by unfold Dk.slots; rw [hh, hl]
    have hbs := base_slots D h2
    have hp := put_up hu (by rw [hl]; exact h2) (i := used + 1 + k) (by rw [hs]; omega) (pieceB tx k)
    rw [putsW, if_pos e, hp, hb]
    refine ⟨rfl, hu.push (by rw [hl]; omega) (pieceB_length tx k), hl, fun j => ?_⟩
    dsimp only
    rw [dk_find_push, hf]
    by_cases hj : D.base + (used + 1 + k) = j
    · rw [if_pos (by omega), if_pos (by omega), show j - (D.base + used + 1) = k by omega]
    · rw [if_neg (by omega)]
      by_cases hj2 : D.base + used + 1 ≤ j ∧ j < D.base + used + 1 + k
      · rw [if_pos hj2, if_pos (by omega)]
      · rw [if_neg hj2, if_neg (by omega)]
/-- A transaction that is written. -/
structure Wrote (L : Lg) (S : Sb) (D : Dk) (tx : List Int) (D' : Dk) : Prop where
  up : Up D'
  none : D'.pending = []
  len : D'.safe.length = D.safe.length
  find : ∀ j : Nat, j < D.safe.length → D'.find (j : Int) = if j = D.base + L.used then mkB S.turn L.txs.length tx else if D.base + L.used + 1 ≤ j ∧ j < D.base + L.used + 1 + pieceN tx.length then pieceB tx (j - (D.base + L.used + 1)) else D.find (j : Int)
theorem writeL_up {L : Lg} {S : Sb} {D : Dk} {tx : List Int} (h : Up D) (h2 : 2 ≤ D.safe.length) (hroom : L.used + needN tx.length ≤ D.slots) : ∃ D', writeL L S D tx = (D', 0) ∧ Wrote L S D tx D' := by
  have hk : needN tx.length = 1 + pieceN tx.length := rfl
  obtain ⟨e, hu, hl, hf⟩ := putsW_up (tx := tx) h h2 (used := L.used) (pieceN tx.length) (by omega)
  obtain ⟨W0, hW0⟩ : ∃ W0, putsW L.used tx D (pieceN tx.length) = W0 := ⟨_, rfl⟩
  rw [hW0] at e hu hl hf
  have hbs := base_slots D h2
  have hY := hu.settle
  have hYl : (W0.1.does.settle (fun _ => true)).safe.length = D.safe.length := by simp [Dk.settle, liveOn_length, Dk.does, hl]
  have hYh := half_eq hYl
  have hYb : (W0.1.does.settle (fun _ => true)).base = D.base := by unfold Dk.base; rw [hYh]
  have hYs : (W0.1.does.settle (fun _ => true)).slots = D.slots := by unfold Dk.slots; rw [hYh, hYl]
  have hp := put_up hY (by rw [hYl]; exact h2) (i := L.used) (by rw [hYs]; omega) (mkB S.turn L.txs.length tx)
  rw [hYb] at hp
  have hV := hY.push (i := ((D.base + L.used : Nat) : Int)) (b := mkB S.turn L.txs.length tx) (by rw [hYl]; omega) (mkB_length _ _ _)
  have hVl : ((W0.1.does.settle (fun _ => true)).does.push ((D.base + L.used : Nat) : Int) (mkB S.turn L.txs.length tx)).safe.length = D.safe.length := hYl
  refine ⟨_, ?_, hV.settle, rfl, ?_, fun j hj => ?_⟩
  · unfold writeL
    dsimp only
    rw [hW0, if_pos e, hu.sync, if_pos rfl]
    dsimp only
    rw [hp, if_pos rfl]
    dsimp only
    rw [hV.sync]
  · simp [Dk.settle, liveOn_length, Dk.does, Dk.push, hl]
  · rw [dk_find_settle hV.ok _ (by rw [hVl]; omega), dk_find_push]
    by_cases hjt : j = D.base + L.used
    · rw [if_pos (by omega), if_pos hjt]
    · rw [if_neg (by omega), if_neg hjt, dk_find_settle hu.ok _ (by omega), hf]
/-- The snapshot's part is as it was. -/
theorem holds_log {S : Sb} {was : List Int} {D D' : Dk} (h : Holds S was D) (hu : Up D') (hn : D'.pending = []) (hl : D'.safe.length = D.safe.length) (hf : ∀ j : Nat, j < D.base → D'.find (j : Int) = D.find (j : Int)) : Holds S was D' := by
  have hp := h.fits.place
  have h2 := h.fits.two
  have hhl := half_le D h2
  have hh := half_eq hl
  have hfit : Fits S D' := ⟨h.fits.hash, hp, h.fits.lo, by rw [hh]; exact h.fits.hi, by rw [hl]; exact h2⟩
  have h1 := half_mul (D := D) hp
  have hsn : ∀ k, k ≤ D.half → snapB S D' k = snapB S D k := by
    intro k
    induction k with
    | zero => intro _; rfl
    | succ k ih =>
      intro hk2
      rw [snapB, snapB, ih (by omega), hh]
      obtain ⟨j, hj⟩ : ∃ j : Nat, 2 + S.place * (D.half : Int) + k = (j : Int) := ⟨(2 + S.place * (D.half : Int) + k).toNat, by omega⟩
      rw [hj, hu.read (by rw [hl]; omega), h.up.read (by omega), hf j (by unfold Dk.base; omega)]
  have hn2 : (S.size.toNat + 63) / 64 ≤ D.half := by have := h.fits.hi; omega
  have hfi : ∀ j : Nat, j < 2 → D'.find j = D.find j := fun j hj => hf j (by unfold Dk.base; omega)
  exact ⟨hu, hn, hfit, h.size, h.hash, by rw [snapS, hsn _ hn2]; exact h.snap, by rw [hfi _ (by omega)]; exact h.mine, by rw [hfi _ (by omega)]; exact h.other⟩
end Go.Proofs.Ytmgagkpokmaefaa
namespace Go.Proofs.Ytmgagkpokmaefaa
open Go Go.SL
/-! A log and its disk. -/
def usedN (txs : List (List Int)) : Nat := (txs.map fun tx => needN tx.length).sum
theorem usedN_snoc (txs : List (List Int)) (tx : List Int) : usedN (txs ++ [tx]) = usedN txs + needN tx.length := by simp [usedN]
theorem needN_pos (n : Nat) : 1 ≤ needN n := by unfold needN; omega
theorem usedN_len (txs : List (List Int)) : txs.length ≤ usedN txs := by
  induction txs with
  | nil => exact Nat.le_refl _
  | cons tx r ih =>
    have := needN_pos tx.length
    simp only [usedN, List.map_cons, List.sum_cons, List.length_cons] at ih ⊢
    omega
/-- A transaction lies there. -/
structure AtTx (turn : BitVec 64) (num : Nat) (tx : List Int) (bl : List Blk) (at_ : Nat) : Prop where
  fit : at_ + needN tx.length ≤ bl.length
  mark : bl.getD at_ [] = mkB turn num tx
  piece : ∀ i, i < pieceN tx.length → bl.getD (at_ + 1 + i) [] = pieceB tx i
theorem AtTx.next {turn : BitVec 64} {num at_ : Nat} {tx : List Int} {bl : List Blk} (h : AtTx turn num tx bl at_) (h64 : ∀ b ∈ bl, b.length = 64) (hn : num < 4294967296) (hb : bl.length ≤ 512) : nextTx turn num bl at_ = some tx := by
  have hlt : tx.length < 4294967296 := by have := h.fit; unfold needN at this; omega
  obtain ⟨_, _, _, f4, _⟩ := mkB_facts turn num tx hn hlt
  have ht := tails_pieces h.piece (pieceN tx.length) (Nat.le_refl _)
  have hle : tx.length ≤ 63 * pieceN tx.length := by unfold pieceN; omega
  rw [List.take_of_length_le hle] at ht
  have := nextTx_is (turn := turn) (num := num) (at_ := at_) h64 (z := tx.length) (by rw [h.mark]; exact f4) h.fit (fun i hi => by rw [h.piece i hi]; rfl) (by rw [ht, List.drop_left' rfl]) (by rw [ht, List.take_left' rfl, h.mark])
  rw [this, ht, List.take_left' rfl]
theorem AtTx.congr {turn : BitVec 64} {num at_ : Nat} {tx : List Int} {bl bl' : List Blk} (h : AtTx turn num tx bl at_) (hl : bl'.length = bl.length) (he : ∀ i, at_ ≤ i → i < at_ + needN tx.length → bl'.getD i [] = bl.getD i []) : AtTx turn num tx bl' at_ :=
  ⟨by rw [hl]; exact h.fit, by rw [he at_ (Nat.le_refl _) (by have := needN_pos tx.length; omega)]; exact h.mark, fun i hi => by
    rw [he (at_ + 1 + i) (by omega) (by unfold needN; unfold pieceN at hi; omega)]
    exact h.piece i hi⟩
theorem scan_all {turn : BitVec 64} {bl : List Blk} {txs : List (List Int)} (h64 : ∀ b ∈ bl, b.length = 64) (hb : bl.length ≤ 512) (ha : ∀ (k : Nat) tx, txs[k]? = some tx → AtTx turn k tx bl (usedN (txs.take k))) (hu : usedN txs ≤ bl.length) (hn : nextTx turn txs.length bl (usedN txs) = none) :
    scan turn bl bl.length [] 0 = (txs, usedN txs) := by
  have hl := usedN_len txs
  have key : ∀ (m j : Nat), m + j = txs.length → ∀ f, bl.length ≤ f + usedN (txs.take j) → scan turn bl f (txs.take j) (usedN (txs.take j)) = (txs, usedN txs) := by
    intro m
    induction m with
    | zero =>
      intro j hj f hf
      have e : txs.take j = txs := List.take_of_length_le (by omega)
      rw [e] at hf ⊢
      cases f with
      | zero => rfl
      | succ f => rw [scan, hn]
    | succ m ih =>
      intro j hj f hf
      have hjl : j < txs.length := by omega
      obtain ⟨tx, htx⟩ : ∃ tx, txs[j]? = some tx := ⟨_, List.getElem?_eq_getElem hjl⟩
      have hA := ha j tx htx
      have hnx := hA.next h64 (by omega) hb
      have e1 : txs.take (j + 1) = txs.take j ++ [tx] := by rw [List.take_add_one, htx]; rfl
      have hpos := needN_pos tx.length
      have hfit := hA.fit
      cases f with
      | zero => omega
      | succ f =>
        have hjt : (txs.take j).length = j := by rw [List.length_take]; omega
        rw [scan, hjt, hnx]
        dsimp only
        rw [← usedN_snoc, ← e1]
        exact ih (j + 1) (by omega) f (by rw [e1, usedN_snoc]; omega)
  exact key txs.length 0 (by omega) bl.length (by simp [usedN])
/-- A log, and a disk that holds it. -/
structure LH (S : Sb) (D : Dk) (L : Lg) : Prop where
  holds : Holds S L.snap D
  byt : Byt D
  whole : L.broken = false
  used : L.used = usedN L.txs
  fit : L.used ≤ D.slots
  small : Small L.snap
  smalls : ∀ tx ∈ L.txs, Small tx
  secs : ∀ (k : Nat) tx, L.txs[k]? = some tx → AtTx S.turn k tx (slotsL D) (usedN (L.txs.take k))
  old : ∀ i, i < D.slots → ((slotsL D).getD i []).getD 0 0 = 1 → (leG ((((slotsL D).getD i []).drop 1).take 8) 8).toNat ≤ S.turn.toNat ∧ (L.used ≤ i → (leG ((((slotsL D).getD i []).drop 1).take 8) 8).toNat < S.turn.toNat)
theorem LH.slots {S : Sb} {D : Dk} {L : Lg} (h : LH S D L) : D.slots ≤ 512 := by
  have := h.holds.up.ok.most
  unfold Dk.slots
  omega
theorem LH.none {S : Sb} {D : Dk} {L : Lg} (h : LH S D L) : nextTx S.turn L.txs.length (slotsL D) L.used = none := by
  cases hx : nextTx S.turn L.txs.length (slotsL D) L.used with
  | none => rfl
  | some tx =>
    have hsl := h.slots
    have hfew := usedN_len L.txs
    have hus := h.used
    have hfit := h.fit
    have f := nextTx_facts (slotsL_64 h.holds.up.ok h.holds.fits.two) (by rw [slotsL_length]; omega) (by omega) hx rfl rfl
    have hlt : L.used < D.slots := by
      have := f.2.2.2.1
      rw [slotsL_length] at this
      have := needN_pos (sizeOf12 ((slotsL D).getD L.used []))
      omega
    have := (h.old L.used hlt f.1).2 (Nat.le_refl _)
    rw [f.2.1] at this
    omega
theorem LH.openL {S : Sb} {D : Dk} {L : Lg} (h : LH S D L) : openL S D L.snap = L := by
  have hsl := h.slots
  have hn := h.none
  have hus := h.used
  have hfit := h.fit
  rw [hus] at hn
  have := scan_all (txs := L.txs) (slotsL_64 h.holds.up.ok h.holds.fits.two) (by rw [slotsL_length]; omega) h.secs (by rw [slotsL_length]; omega) hn
  rw [slotsL_length] at this
  rw [Go.Proofs.Ytmgagkpokmaefaa.openL, this]
  have hw := h.whole
  cases L
  simp only at hus hw ⊢
  rw [hus, hw]
/-! Bytes stay bytes. -/
theorem Bytes.pieceB {tx : List Int} (h : Bytes tx) (i : Nat) : Bytes (pieceB tx i) := fun x hx => by
  rcases List.mem_cons.1 hx with rfl | hx
  · exact ⟨Int.le_refl _, by decide⟩
  · exact (((h.drop _).take _).append (Bytes.rep _)) x hx
theorem Bytes.mkHead {turn : BitVec 64} {num : Int} {tx : List Int} : Bytes (mkHead turn num tx) :=
  (((((show Bytes [1] from fun x hx => by rw [List.mem_singleton] at hx; omega).append (Bytes.leB _ _)).append (Bytes.leB _ _)).append (Bytes.leB _ _)).append ((Bytes.sha _).take _)).append (Bytes.rep _)
theorem Bytes.mkB {turn : BitVec 64} {num : Int} {tx : List Int} : Bytes (mkB turn num tx) := Bytes.mkHead.append ((Bytes.sha _).take _)
theorem Byt.put {D : Dk} (h : Byt D) (i : Int) {b : Blk} (hb : Bytes b) : Byt (D.put i b).1 := by
  unfold Dk.put
  split
  · exact h.write _ hb
  · exact h
theorem Byt.putsW {D : Dk} (h : Byt D) (used : Nat) {tx : List Int} (ht : Bytes tx) : ∀ k, Byt (putsW used tx D k).1
  | 0 => h
  | k + 1 => by
    rw [Go.Proofs.Ytmgagkpokmaefaa.putsW]
    split
    · exact (Byt.putsW h used ht k).put _ (ht.pieceB k)
    · exact Byt.putsW h used ht k
theorem Byt.writeL {D : Dk} (h : Byt D) (L : Lg) (S : Sb) {tx : List Int} (ht : Bytes tx) : Byt (writeL L S D tx).1 := by
  have h1 := h.putsW L.used ht (pieceN tx.length)
  unfold Go.Proofs.Ytmgagkpokmaefaa.writeL
  dsimp only
  split
  · split
    · split
      · exact (h1.sync.put _ Bytes.mkB).sync
      · exact h1.sync.put _ Bytes.mkB
    · exact h1.sync
  · exact h1
/-! An append. -/
theorem roomB_iff {S : Sb} {D : Dk} {L : Lg} (h : LH S D L) (n : Nat) : roomB L D (n : Int) = true ↔ L.used + needN n ≤ D.slots := by
  have := h.fit
  rw [roomB, decide_eq_true_iff, Int.toNat_natCast]
  omega
theorem wrote_slots {L : Lg} {S : Sb} {D D' : Dk} {tx : List Int} (h : Wrote L S D tx D') (h2 : 2 ≤ D.safe.length) {i : Nat} (hi : i < D.slots) :
    (slotsL D').getD i [] = if i = L.used then mkB S.turn L.txs.length tx else if L.used + 1 ≤ i ∧ i < L.used + 1 + pieceN tx.length then pieceB tx (i - (L.used + 1)) else (slotsL D).getD i [] := by
  have hh := half_eq h.len
  have hb : D'.base = D.base := by unfold Dk.base; rw [hh]
  have hs : D'.slots = D.slots := by unfold Dk.slots; rw [hh, h.len]
  have hbs := base_slots D h2
  rw [slotsL_find (by rw [hs]; exact hi), slotsL_find hi, hb, h.find _ (by omega)]
  by_cases h1 : i = L.used
  · rw [if_pos (by omega), if_pos h1]
  · rw [if_neg (by omega), if_neg h1]
    by_cases h3 : L.used + 1 ≤ i ∧ i < L.used + 1 + pieceN tx.length
    · rw [if_pos (by omega), if_pos h3, show D.base + i - (D.base + L.used + 1) = i - (L.used + 1) by omega]
    · rw [if_neg (by omega), if_neg h3]
theorem LH.wrote {S : Sb} {D D' : Dk} {L : Lg} (h : LH S D L) {tx : List Int} (hs : Small tx) (hroom : L.used + needN tx.length ≤ D.slots) (hW : Wrote L S D tx D') (hB : Byt D') :
    LH S D' { L with txs := L.txs ++ [tx], used := L.used + needN tx.length } := by
  have h2 := h.holds.fits.two
  have hh := half_eq hW.len
  have hb : D'.base = D.base := by unfold Dk.base; rw [hh]
  have hsl : D'.slots = D.slots := by unfold Dk.slots; rw [hh, hW.len]
  have hbs := base_slots D h2
  have hg := fun (i : Nat) (hi : i < D.slots) => wrote_slots hW h2 hi
  have hfew := usedN_len L.txs
  have hus := h.used
  have h512 := h.slots
  have hk : needN tx.length = 1 + pieceN tx.length := rfl
  refine ⟨?_, hB, h.whole, by dsimp only; rw [usedN_snoc, hus], by dsimp only; omega, h.small, ?_, ?_, ?_⟩
  · exact holds_log h.holds hW.up hW.none hW.len fun j hj => by rw [hW.find j (by omega), if_neg (by omega), if_neg (by omega)]
  · intro t ht
    rcases List.mem_append.1 ht with ht | ht
    · exact h.smalls t ht
    · rw [List.mem_singleton] at ht; rw [ht]; exact hs
  · intro k t hkt
    dsimp only at hkt ⊢
    rcases Nat.lt_or_ge k L.txs.length with hk1 | hk1
    · rw [List.getElem?_append_left hk1] at hkt
      rw [List.take_append_of_le_length (by omega)]
      have hA := h.secs k t hkt
      have hle : usedN (L.txs.take k) + needN t.length ≤ L.used := by
        have e1 : L.txs.take (k + 1) = L.txs.take k ++ [t] := by rw [List.take_add_one, hkt]; rfl
        have e2 : usedN L.txs = usedN (L.txs.take (k + 1)) + usedN (L.txs.drop (k + 1)) := by
          rw [usedN, usedN, usedN, ← List.sum_append, ← List.map_append, List.take_append_drop]
        rw [hus, e2, e1, usedN_snoc]
        omega
      refine hA.congr (by rw [slotsL_length, slotsL_length, hsl]) fun i h1 h3 => ?_
      rw [hg i (by omega), if_neg (by omega), if_neg (by omega)]
    · have hk2 : k = L.txs.length := by
        rcases Nat.lt_or_ge k (L.txs ++ [tx]).length with h3 | h3
        · simp at h3; omega
        · rw [List.getElem?_eq_none h3] at hkt; cases hkt
      subst hk2
      rw [List.getElem?_append_right (Nat.le_refl _), Nat.sub_self] at hkt
      cases hkt
      rw [List.take_append_of_le_length (Nat.le_refl _), List.take_length, ← hus]
      refine ⟨by rw [slotsL_length, hsl]; exact hroom, ?_, fun i hi => ?_⟩
      · rw [hg _ (by omega), if_pos rfl]
      · rw [hg _ (by omega), if_neg (by omega), if_pos (by omega), show L.used + 1 + i - (L.used + 1) = i by omega]
  · intro i hi h1
    dsimp only
    rw [hsl] at hi
    rw [hg i hi] at h1 ⊢
    by_cases h3 : i = L.used
    · rw [if_pos h3] at h1 ⊢
      have hlt : tx.length < 4294967296 := by unfold needN at hroom; omega
      rw [(mkB_facts S.turn L.txs.length tx (by omega) hlt).2.1]
      exact ⟨Nat.le_refl _, fun h4 => by omega⟩
    · rw [if_neg h3] at h1 ⊢
      by_cases h4 : L.used + 1 ≤ i ∧ i < L.used + 1 + pieceN tx.length
      · rw [if_pos h4] at h1
        exact absurd h1 (by show ¬ ((0 : Int) = 1); decide)
      · rw [if_neg h4] at h1 ⊢
        obtain ⟨o1, o2⟩ := h.old i hi h1
        exact ⟨o1, fun h5 => o2 (by omega)⟩
theorem LH.append {S : Sb} {D : Dk} {L : Lg} (h : LH S D L) {tx : List Int} (hs : Small tx) (hroom : L.used + needN tx.length ≤ D.slots) :
    ∃ D', appL L S D tx = ({ L with txs := L.txs ++ [tx], used := L.used + needN tx.length }, D', 0) ∧ LH S D' { L with txs := L.txs ++ [tx], used := L.used + needN tx.length } ∧ D'.safe.length = D.safe.length := by
  obtain ⟨D', e, hW⟩ := writeL_up (S := S) (tx := tx) h.holds.up h.holds.fits.two hroom
  have hB := h.byt.writeL L S hs.bytes
  rw [e] at hB
  exact ⟨D', by rw [appL, if_neg (by rw [h.whole]; simp), if_pos ((roomB_iff h _).2 hroom), e, if_pos rfl], h.wrote hs hroom hW hB, hW.len⟩
end Go.Proofs.Ytmgagkpokmaefaa
namespace Go.Proofs.Ytmgagkpokmaefaa
open Go Go.SL
/-! Chapter 12's own helpers. -/
def lg0 : Lg := ⟨[], [], 0, false⟩
theorem formatted_find {D : Dk} (h : Up D) (h2 : 2 ≤ D.safe.length) {j : Int} (h0 : 0 ≤ j) (hj : j < D.safe.length) : D.formatted.find j = if 1 = j then zeroB else if 0 = j then sbBlock sb0 else D.find j := by
  have h1 := h.push (i := 0) (b := sbBlock sb0) (by omega) (sbBlock_length sb0_hash)
  have h3 := h1.push (i := 1) (b := zeroB) (by simp only [Dk.push, Dk.does]; omega) rfl
  unfold Dk.formatted
  rw [dk_find_settle h3.ok j ⟨h0, hj⟩, dk_find_push, dk_find_push]
theorem lh_format {n : Nat} (h1 : 64 ≤ n) (h2 : n ≤ 512) : LH sb0 (Dk.new n).formatted lg0 ∧ (Dk.new n).formatted.safe.length = n := by
  have hu0 : Up (Dk.new n) := new_up (by omega) h2
  have hl0 : (Dk.new n).safe.length = n := by simp [Dk.new]
  obtain ⟨_, hl1, _⟩ := formatted_up hu0 (by omega)
  have hl : (Dk.new n).formatted.safe.length = n := hl1.trans hl0
  refine ⟨⟨holds_format hu0 (by omega), (Byt.new n).formatted, rfl, rfl, Nat.zero_le _, ⟨Bytes.nil, by decide⟩, fun tx h => (by simp [lg0] at h), fun k tx h => (by simp [lg0] at h), fun i hi h => ?_⟩, hl⟩
  have hbs := base_slots (Dk.new n).formatted (by omega)
  rw [slotsL_find hi, formatted_find hu0 (by omega) (by omega) (by omega), if_neg (by unfold Dk.base; omega), if_neg (by unfold Dk.base; omega)] at h
  obtain ⟨q, hq⟩ : ∃ q, (Dk.new n).formatted.base + i = q := ⟨_, rfl⟩
  rw [hq] at h
  have hz : (Dk.new n).find (q : Int) = zeroB := by
    simp only [Dk.find, Dk.new, List.reverse_nil, List.find?_nil, Int.toNat_natCast]
    rw [List.getD_eq_getElem?_getD, List.getElem?_replicate, if_pos (by omega)]
    rfl
  rw [hz] at h
  exact absurd h (by decide)
attribute [local irreducible] J JL JE JM LS Y Fc RV Code.wp wpList Code.wpIn wpListIn
attribute [local irreducible] Yc
variable (E : World)
theorem lopen_lh (st d : Nat) (S : Sb) (D : Dk) (L : Lg) (l : List HProp) (h : LH S D L) :
    Fc prog E 13 [.pointer (some ⟨st, 0, none⟩)].toArray (row st 90 (scells S d) :: disk d D :: l)
      (fun v l' => ∃ lg, v = .tuple #[.pointer (some ⟨lg, 0, none⟩), .int .i64 0] ∧ l' = logm lg st L :: row st 90 (scells S d) :: disk d D :: l) := by
  have q := lopen_spec E st d S D L.snap l h.holds.fits h.holds.up.dead h.byt (by rw [h.holds.none]; decide) h.holds.snap h.holds.hash
  rwa [h.openL] at q
def storeN (n : Int) : Nat := 64 + (BitVec.ofInt 64 n).toNat % 24
theorem storeN_le (n : Int) : 64 ≤ storeN n ∧ storeN n ≤ 87 := by unfold storeN; omega
theorem store_spec (n : Int) (l : List HProp) :
    Fc prog E 12 [.int .i64 n].toArray l (fun v l' => ∃ d st, v = .tuple #[.pointer (some ⟨d, 0, none⟩), .pointer (some ⟨st, 0, none⟩)] ∧ l' = row st 90 (scells sb0 d) :: disk d (Dk.new (storeN n)).formatted :: l) := by
  have hN := storeN_le n
  obtain ⟨N, hNe⟩ : ∃ N, storeN n = N := ⟨_, rfl⟩
  rw [hNe] at hN ⊢
  have hfmt : ∀ d l, Fc prog E 42 [.pointer (some ⟨d, 0, none⟩)].toArray (disk d (Dk.new N) :: l) (fun v l' => ∃ st, v = .tuple #[.pointer (some ⟨st, 0, none⟩), .int .i64 0] ∧ l' = row st 90 (scells sb0 d) :: disk d (Dk.new N).formatted :: l) := fun d l => format_good E d (Dk.new N) l (by simp [Dk.new]; omega) rfl rfl (by simp [Dk.new])
  refine Fc.of_body (c := ?codeC) Try.func12 ?hb Try.ntmps12 ?hl ?_
  case hb => exact rfl
  case hl => exact rfl
  refine J.seq ?_
  refine J.region ?_
  refine JL.step (y_assign rfl) rfl rfl rfl (JL.step (y_assign rfl) rfl rfl rfl ?_)
  refine JL.nil ?_
  refine JE.then_normal ?_
  refine J.seq ?_
  refine J.region ?_
  refine JL.step (y_move rfl) rfl rfl rfl ?_
  refine JL.step (y_convToQ hT rfl rfl rfl rfl) rfl rfl rfl ?_
  refine JL.step (y_rem (m := (((BitVec.ofInt 64 n).toNat % 24 : Nat) : Int)) rfl rfl (by decide) (by rw [Int.tmod_eq_emod_of_nonneg (by omega)]; omega)) rfl rfl rfl ?_
  refine JL.step (y_conv (m := (((BitVec.ofInt 64 n).toNat % 24 : Nat) : Int)) hT rfl rfl rfl rfl (wrap_i64 (by omega) (by omega))) rfl rfl rfl ?_
  refine JL.step (y_add (m := (N : Int)) rfl rfl (by rw [← hNe, storeN, show (64 : Int) + (((BitVec.ofInt 64 n).toNat % 24 : Nat) : Int) = ((64 + (BitVec.ofInt 64 n).toNat % 24 : Nat) : Int) by omega]; exact wrap_i64 (by omega) (by omega))) rfl rfl rfl ?_
  refine JL.loud rfl (l_callF e41 rfl rfl (new_good E N _ (by omega) (by omega)) ?_)
  rintro _ _ ⟨d, rfl, rfl⟩
  refine JL.step (y_move rfl) rfl rfl rfl (JL.step (y_extract rfl rfl) rfl rfl rfl (JL.step (y_extract rfl rfl) rfl rfl rfl (JL.step (y_assign rfl) rfl rfl rfl (JL.step (y_assign rfl) rfl rfl rfl ?_))))
  refine JL.nil ?_
  refine JE.then_normal ?_
  refine J.seq ?_
  refine J.seq ?_
  refine J.region ?_
  refine JL.step (y_move rfl) rfl rfl rfl (JL.step (y_neq rfl rfl) rfl rfl rfl ?_)
  refine JL.nil ?_
  refine JE.then_normal ?_
  refine J.cond_f rfl (by (first | rfl | assumption | (simp; done) | (simp; omega))) ?_
  refine J.skip ?_
  refine JE.then_normal ?_
  refine J.seq ?_
  refine J.region ?_
  refine JL.step (y_move rfl) rfl rfl rfl ?_
  refine JL.loud rfl (l_callF e42 rfl rfl (Fc.on (Split.cons (by (repeat (first | exact Pick.head | apply Pick.tail | apply Pick.app))) Split.nil) (hfmt d _)) ?_)
  rintro _ _ ⟨st, rfl, rfl⟩
  refine JL.step (y_move rfl) rfl rfl rfl (JL.step (y_extract rfl rfl) rfl rfl rfl (JL.step (y_extract rfl rfl) rfl rfl rfl (JL.step (y_assign rfl) rfl rfl rfl (JL.step (y_assign rfl) rfl rfl rfl ?_))))
  refine JL.nil ?_
  refine JE.then_normal ?_
  refine J.seq ?_
  refine J.seq ?_
  refine J.region ?_
  refine JL.step (y_move rfl) rfl rfl rfl (JL.step (y_neq rfl rfl) rfl rfl rfl ?_)
  refine JL.nil ?_
  refine JE.then_normal ?_
  refine J.cond_f rfl (by (first | rfl | assumption | (simp; done) | (simp; omega))) ?_
  refine J.skip ?_
  refine JE.then_normal ?_
  refine J.seq ?_
  refine J.region ?_
  refine JL.step (y_move rfl) rfl rfl rfl (JL.step (y_move rfl) rfl rfl rfl (JL.step (y_assign rfl) rfl rfl rfl (JL.step (y_assign rfl) rfl rfl rfl ?_)))
  refine JL.nil ?_
  refine JE.then_normal ?_
  refine J.ret ?_
  refine JE.ret2 (.inl rfl) rfl rfl (by (first | exact RV.tmp rfl | exact RV.cell1 hT rfl rfl rfl (by (exact Rd1.row (by (repeat (first | exact Pick.head | apply Pick.tail | apply Pick.app))) (by rfl))) | exact RV.cellN hT rfl rfl rfl (by (first | exact RdN.rowAll (by (repeat (first | exact Pick.head | apply Pick.tail | apply Pick.app))) | exact RdN.own (by (repeat (first | exact Pick.head | apply Pick.tail | apply Pick.app))))) (by (first | rfl | assumption | (simp; done) | omega)))) (by (first | exact RV.tmp rfl | exact RV.cell1 hT rfl rfl rfl (by (exact Rd1.row (by (repeat (first | exact Pick.head | apply Pick.tail | apply Pick.app))) (by rfl))) | exact RV.cellN hT rfl rfl rfl (by (first | exact RdN.rowAll (by (repeat (first | exact Pick.head | apply Pick.tail | apply Pick.app))) | exact RdN.own (by (repeat (first | exact Pick.head | apply Pick.tail | apply Pick.app))))) (by (first | rfl | assumption | (simp; done) | omega)))) ?_
  exact ⟨d, st, rfl, rfl⟩
theorem wakes12_spec (l : List HProp) : Fc prog E 11 [].toArray l (fun v l' => v = .bool true ∧ l' = l) := by
  refine Fc.eqs ?_
  obtain ⟨hL0, hl0⟩ := lh_format (n := storeN 0) (storeN_le 0).1 (by have := (storeN_le 0).2; omega)
  obtain ⟨D0, hD0⟩ : ∃ D0, (Dk.new (storeN 0)).formatted = D0 := ⟨_, rfl⟩
  rw [hD0] at hL0 hl0
  have hsl : 32 ≤ D0.slots := by
    have : storeN 0 = 64 := rfl
    unfold Dk.slots Dk.half
    omega
  have hx : Small [120] := ⟨fun x h => by rw [List.mem_singleton] at h; omega, by decide⟩
  obtain ⟨D1, eA, hL1, hl1⟩ := hL0.append hx (by show 0 + needN 1 ≤ _; have : needN 1 = 2 := rfl; omega)
  have capp : ∀ lg st d q c l, InL l q 1 c (ints .u8 [120]) → Fc prog E 19 [.pointer (some ⟨lg, 0, none⟩), .slice q 1 c].toArray (logm lg st lg0 :: row st 90 (scells sb0 d) :: disk d D0 :: l) (fun v l' => v = .int .i64 0 ∧ l' = logm lg st ⟨[], [[120]], 2, false⟩ :: row st 90 (scells sb0 d) :: disk d D1 :: l) := fun lg st d q c l hi => by
    have z := lappend_spec E lg st d lg0 sb0 D0 l sb0_hash hL0.holds.fits.two [120] q c 1 rfl hx (by rw [hL0.holds.none]; decide) (by decide) hi
    rw [eA] at z
    exact z
  refine Fc.of_body (c := ?codeC) Try.func11 ?hb Try.ntmps11 ?hl ?_
  case hb => exact rfl
  case hl => exact rfl
  refine J.seq ?_
  refine J.region ?_
  refine JL.step (y_assign rfl) rfl rfl rfl ?_
  refine JL.nil ?_
  refine JE.then_normal ?_
  refine J.seq ?_
  refine J.region ?_
  refine JL.loud rfl (l_callF e12 rfl rfl (store_spec E 0 _) ?_)
  rintro _ _ ⟨d, st, rfl, rfl⟩
  refine JL.step (y_move rfl) rfl rfl rfl (JL.step (y_extract rfl rfl) rfl rfl rfl (JL.step (y_extract rfl rfl) rfl rfl rfl (JL.step (y_assign rfl) rfl rfl rfl (JL.step (y_assign rfl) rfl rfl rfl ?_))))
  refine JL.nil ?_
  refine JE.then_normal ?_
  refine J.seq ?_
  refine J.seq ?_
  refine J.region ?_
  rw [hD0]
  refine JL.step (y_move rfl) rfl rfl rfl (JL.step (y_ptr_eq_nil hT rfl rfl rfl rfl) rfl rfl rfl ?_)
  refine JL.nil ?_
  refine JE.then_normal ?_
  refine J.cond_f rfl (by (first | rfl | assumption | (simp; done) | (simp; omega))) ?_
  refine J.skip ?_
  refine JE.then_normal ?_
  refine J.seq ?_
  refine J.region ?_
  refine JL.step (y_move rfl) rfl rfl rfl ?_
  refine JL.loud rfl (l_callF e13 rfl rfl (Fc.on (Split.cons (by (repeat (first | exact Pick.head | apply Pick.tail | apply Pick.app))) (Split.cons (by (repeat (first | exact Pick.head | apply Pick.tail | apply Pick.app))) Split.nil)) (lopen_lh E st d sb0 D0 lg0 _ hL0)) ?_)
  rintro _ _ ⟨lg, rfl, rfl⟩
  refine JL.step (y_move rfl) rfl rfl rfl (JL.step (y_extract rfl rfl) rfl rfl rfl (JL.step (y_extract rfl rfl) rfl rfl rfl (JL.step (y_assign rfl) rfl rfl rfl (JL.step (y_assign rfl) rfl rfl rfl ?_))))
  refine JL.nil ?_
  refine JE.then_normal ?_
  refine J.seq ?_
  refine J.seq ?_
  refine J.region ?_
  refine JL.step (y_move rfl) rfl rfl rfl (JL.step (y_neq rfl rfl) rfl rfl rfl (JL.step (y_move rfl) rfl rfl rfl ?_))
  all_goals (first | (refine JL.gsplit_dec rfl rfl rfl (fun h => ?_) (fun h => ?_) <;> try (first | (exfalso; omega) | exact absurd rfl h)) | (refine JL.gsplit rfl rfl rfl (fun h => ?_) (fun h => ?_) <;> try (first | cases h | (exfalso; simp at h; done))) | skip)
  all_goals (first | refine JL.gskip rfl rfl rfl rfl rfl rfl ?_ | refine JL.gskipU rfl rfl rfl rfl rfl ?_ | refine JL.gstep rfl rfl rfl (y_move rfl) rfl rfl ?_)
  all_goals (first | refine JL.gskip rfl rfl rfl rfl rfl rfl ?_ | refine JL.gskipU rfl rfl rfl rfl rfl ?_ | refine JL.gstep rfl rfl rfl (y_ptr_eq_nil hT rfl rfl rfl rfl) rfl rfl ?_)
  all_goals (refine JL.step (y_pick rfl rfl rfl) rfl rfl rfl ?_)
  all_goals (refine JL.step (y_move rfl) rfl rfl rfl ?_)
  all_goals (first | (refine JL.gsplit_dec rfl rfl rfl (fun h => ?_) (fun h => ?_) <;> try (first | (exfalso; omega) | exact absurd rfl h)) | (refine JL.gsplit rfl rfl rfl (fun h => ?_) (fun h => ?_) <;> try (first | cases h | (exfalso; simp at h; done))) | skip)
  all_goals (first | refine JL.gskip rfl rfl rfl rfl rfl rfl ?_ | refine JL.gskipU rfl rfl rfl rfl rfl ?_ | refine JL.gstep rfl rfl rfl (y_move rfl) rfl rfl ?_)
  all_goals (first | refine JL.gskip rfl rfl rfl rfl rfl rfl ?_ | refine JL.gskipU rfl rfl rfl rfl rfl ?_ | (refine JL.gloud rfl rfl rfl (l_buildSliceP hT rfl rfl rfl rfl rfl rfl rfl (by (first | exact fill_one rfl (by first | assumption | rfl | (simp; done)) | rfl | simp)) rfl (fun b3 => ?_))))
  all_goals (first | refine JL.gskip rfl rfl rfl rfl rfl rfl ?_ | refine JL.gskipU rfl rfl rfl rfl rfl ?_ | (refine JL.gloud rfl rfl rfl (l_convBytes hT rfl rfl rfl rfl rfl (by (repeat (first | exact Pick.head | apply Pick.tail | apply Pick.app))) rfl ?_)))
  all_goals (first | refine JL.gskip rfl rfl rfl rfl rfl rfl ?_ | refine JL.gskipU rfl rfl rfl rfl rfl ?_ | (refine JL.gloud rfl rfl rfl (l_callF e19 rfl rfl (Fc.on (Split.cons (by (repeat (first | exact Pick.head | apply Pick.tail | apply Pick.app))) (Split.cons (by (repeat (first | exact Pick.head | apply Pick.tail | apply Pick.app))) (Split.cons (by (repeat (first | exact Pick.head | apply Pick.tail | apply Pick.app))) Split.nil))) (capp lg st d _ _ _ (InL.ofMrow (by (repeat (first | exact Pick.head | apply Pick.tail | apply Pick.app))) (by decide)))) ?_); rintro _ _ ⟨rfl, rfl⟩))
  all_goals (first | refine JL.gskip rfl rfl rfl rfl rfl rfl ?_ | refine JL.gskipU rfl rfl rfl rfl rfl ?_ | refine JL.gstep rfl rfl rfl (y_neq rfl rfl) rfl rfl ?_)
  all_goals (refine JL.step (y_pick rfl rfl rfl) rfl rfl rfl ?_)
  all_goals refine JL.nil ?_
  all_goals refine JE.then_normal ?_
  all_goals
    refine J.cond_f rfl (by (first | rfl | assumption | (simp; done) | (simp; omega))) ?_
    refine J.skip ?_
  all_goals refine JE.then_normal ?_
  all_goals
    refine J.seq ?_
    refine J.region ?_
    refine JL.step (y_move rfl) rfl rfl rfl ?_
    refine JL.loud rfl (l_callF e13 rfl rfl (Fc.on (Split.cons (by (repeat (first | exact Pick.head | apply Pick.tail | apply Pick.app))) (Split.cons (by (repeat (first | exact Pick.head | apply Pick.tail | apply Pick.app))) Split.nil)) (lopen_lh E st d sb0 D1 ⟨[], [[120]], 2, false⟩ _ hL1)) ?_)
    rintro _ _ ⟨lg2, rfl, rfl⟩
    refine JL.step (y_move rfl) rfl rfl rfl (JL.step (y_extract rfl rfl) rfl rfl rfl (JL.step (y_extract rfl rfl) rfl rfl rfl (JL.step (y_assign rfl) rfl rfl rfl (JL.step (y_assign rfl) rfl rfl rfl ?_))))
    refine JL.nil ?_
    refine JE.then_normal ?_
    refine J.seq ?_
    refine J.region ?_
    refine JL.step (y_move rfl) rfl rfl rfl (JL.step (y_eql rfl rfl) rfl rfl rfl (JL.step (y_move rfl) rfl rfl rfl ?_))
    all_goals (first | (refine JL.gsplit_dec rfl rfl rfl (fun h => ?_) (fun h => ?_) <;> try (first | (exfalso; omega) | exact absurd rfl h)) | (refine JL.gsplit rfl rfl rfl (fun h => ?_) (fun h => ?_) <;> try (first | cases h | (exfalso; simp at h; done))) | skip)
    all_goals (first | refine JL.gskip rfl rfl rfl rfl rfl rfl ?_ | refine JL.gskipU rfl rfl rfl rfl rfl ?_ | refine JL.gstep rfl rfl rfl (y_move rfl) rfl rfl ?_)
    all_goals (first | refine JL.gskip rfl rfl rfl rfl rfl rfl ?_ | refine JL.gskipU rfl rfl rfl rfl rfl ?_ | refine JL.gstep rfl rfl rfl (y_ptr_ne_nil hT rfl rfl rfl rfl) rfl rfl ?_)
    all_goals (refine JL.step (y_pick rfl rfl rfl) rfl rfl rfl ?_)
    all_goals (refine JL.step (y_move rfl) rfl rfl rfl ?_)
    all_goals (first | (refine JL.gsplit_dec rfl rfl rfl (fun h => ?_) (fun h => ?_) <;> try (first | (exfalso; omega) | exact absurd rfl h)) | (refine JL.gsplit rfl rfl rfl (fun h => ?_) (fun h => ?_) <;> try (first | cases h | (exfalso; simp at h; done))) | skip)
    all_goals (first | refine JL.gskip rfl rfl rfl rfl rfl rfl ?_ | refine JL.gskipU rfl rfl rfl rfl rfl ?_ | refine JL.gstep rfl rfl rfl (y_move rfl) rfl rfl ?_)
    all_goals (first | refine JL.gskip rfl rfl rfl rfl rfl rfl ?_ | refine JL.gskipU rfl rfl rfl rfl rfl ?_ | (refine JL.gloud rfl rfl rfl (l_callF e24 rfl rfl (Fc.on (Split.cons (by (repeat (first | exact Pick.head | apply Pick.tail | apply Pick.app))) Split.nil) (ltxs_spec E lg2 st ⟨[], [[120]], 2, false⟩ _)) ?_); rintro _ _ ⟨ta, tc, tvals, rfl, htv, rfl⟩))
    all_goals (first | refine JL.gskip rfl rfl rfl rfl rfl rfl ?_ | refine JL.gskipU rfl rfl rfl rfl rfl ?_ | refine JL.gstep rfl rfl rfl (y_len_slice hT rfl rfl rfl) rfl rfl ?_)
    all_goals (first | refine JL.gskip rfl rfl rfl rfl rfl rfl ?_ | refine JL.gskipU rfl rfl rfl rfl rfl ?_ | refine JL.gstep rfl rfl rfl (y_eql rfl rfl) rfl rfl ?_)
    all_goals (refine JL.step (y_pick rfl rfl rfl) rfl rfl rfl ?_)
    all_goals (refine JL.step (y_move rfl) rfl rfl rfl ?_)
    all_goals (first | (refine JL.gsplit_dec rfl rfl rfl (fun h => ?_) (fun h => ?_) <;> try (first | (exfalso; omega) | exact absurd rfl h)) | (refine JL.gsplit rfl rfl rfl (fun h => ?_) (fun h => ?_) <;> try (first | cases h | (exfalso; simp at h; done))) | skip)
    all_goals (first | refine JL.gskip rfl rfl rfl rfl rfl rfl ?_ | refine JL.gskipU rfl rfl rfl rfl rfl ?_ | refine JL.gstep rfl rfl rfl (y_move rfl) rfl rfl ?_)
    all_goals (first | refine JL.gskip rfl rfl rfl rfl rfl rfl ?_ | refine JL.gskipU rfl rfl rfl rfl rfl ?_ | (refine JL.gloud rfl rfl rfl (l_callF e23 rfl rfl (Fc.on (Split.cons (by (repeat (first | exact Pick.head | apply Pick.tail | apply Pick.app))) Split.nil) (lused_spec E lg2 st ⟨[], [[120]], 2, false⟩ _)) ?_); rintro _ _ ⟨rfl, rfl⟩))
    all_goals (first | refine JL.gskip rfl rfl rfl rfl rfl rfl ?_ | refine JL.gskipU rfl rfl rfl rfl rfl ?_ | refine JL.gstep rfl rfl rfl (y_eql rfl rfl) rfl rfl ?_)
    all_goals (refine JL.step (y_pick rfl rfl rfl) rfl rfl rfl ?_)
    all_goals (refine JL.step (y_move rfl) rfl rfl rfl ?_)
    all_goals (first | (refine JL.gsplit_dec rfl rfl rfl (fun h => ?_) (fun h => ?_) <;> try (first | (exfalso; omega) | exact absurd rfl h)) | (refine JL.gsplit rfl rfl rfl (fun h => ?_) (fun h => ?_) <;> try (first | cases h | (exfalso; simp at h; done))) | skip)
    all_goals (first | refine JL.gskip rfl rfl rfl rfl rfl rfl ?_ | refine JL.gskipU rfl rfl rfl rfl rfl ?_ | (refine JL.gloud rfl rfl rfl (l_callF e14 rfl rfl (need_spec E 64 (by decide) _) ?_); rintro _ _ ⟨rfl, rfl⟩))
    all_goals (first | refine JL.gskip rfl rfl rfl rfl rfl rfl ?_ | refine JL.gskipU rfl rfl rfl rfl rfl ?_ | refine JL.gstep rfl rfl rfl (y_eql rfl rfl) rfl rfl ?_)
    all_goals (refine JL.step (y_pick rfl rfl rfl) rfl rfl rfl ?_)
    all_goals (refine JL.step (y_assign rfl) rfl rfl rfl ?_)
    all_goals refine JL.nil ?_
    all_goals refine JE.then_normal ?_
    all_goals
      refine J.ret ?_
      refine JE.ret1 (.inl rfl) rfl rfl (by (first | exact RV.tmp rfl | exact RV.cell1 hT rfl rfl rfl (by (exact Rd1.row (by (repeat (first | exact Pick.head | apply Pick.tail | apply Pick.app))) (by rfl))) | exact RV.cellN hT rfl rfl rfl (by (first | exact RdN.rowAll (by (repeat (first | exact Pick.head | apply Pick.tail | apply Pick.app))) | exact RdN.own (by (repeat (first | exact Pick.head | apply Pick.tail | apply Pick.app))))) (by (first | rfl | assumption | (simp; done) | omega)))) ?_
      exact ⟨rfl, fun w q => q.sup (by (repeat (first | exact Sup.refl | apply Sup.cons (by (repeat (first | exact Pick.head | apply Pick.tail | apply Pick.app))) | apply Sup.app | apply Sup.skip | apply Sup.skips)))⟩
end Go.Proofs.Ytmgagkpokmaefaa
namespace Go.Proofs.Ytmgagkpokmaefaa
open Go Go.SL
/-! A checkpoint of a log that a disk holds. -/
theorem taken_slots {S : Sb} {D D' : Dk} {bs : List Int} (hT : Taken S D bs D') (h2 : 2 ≤ D.safe.length) (hp : S.place = 0 ∨ S.place = 1) (hl : bs.length ≤ 64 * D.half) {i : Nat} (hi : i < D.slots) : (slotsL D').getD i [] = (slotsL D).getD i [] := by
  have hh := half_eq hT.len
  have hb : D'.base = D.base := by unfold Dk.base; rw [hh]
  have hs : D'.slots = D.slots := by unfold Dk.slots; rw [hh, hT.len]
  have hbs := base_slots D h2
  have h5 : (nextS S bs).place * (D.half : Int) ≤ D.half := by
    have e1 : (nextS S bs).place = 1 - S.place := rfl
    rw [e1]
    rcases hp with e | e <;> rw [e]
    · rw [show (1 - 0 : Int) = 1 by rfl, Int.one_mul]; omega
    · rw [show (1 - 1 : Int) = 0 by rfl, Int.zero_mul]; omega
  rw [slotsL_find (by rw [hs]; exact hi), slotsL_find hi, hb, hT.find _ (by omega) (by omega), if_neg (by unfold Dk.base; omega), if_neg (by unfold Dk.base; omega)]
theorem LH.check {S : Sb} {D : Dk} {L : Lg} (h : LH S D L) {state : List Int} (hs : Small state) (hl : state.length ≤ 64 * D.half) (ht : S.turn.toNat + 1 < 18446744073709551616) :
    ∃ D', ckL L S D state = (⟨state, [], 0, false⟩, nextS S state, D', 0) ∧ LH (nextS S state) D' ⟨state, [], 0, false⟩ ∧ D'.safe.length = D.safe.length := by
  have h2 := h.holds.fits.two
  have hp := h.holds.fits.place
  obtain ⟨D', e, hT⟩ := takeS_up h.holds.up h2 hp hl
  have hB := h.byt.takeS S hs.bytes
  rw [e] at hB
  have hsl : D'.slots = D.slots := by unfold Dk.slots Dk.half; rw [hT.len]
  have htn := next_turn (bs := state) ht
  have hw := h.whole
  refine ⟨D', ?_, ⟨holds_taken h.holds hl ht hT, hB, rfl, rfl, Nat.zero_le _, hs, fun tx h => (by simp at h), fun k tx h => (by simp at h), fun i hi h1 => ?_⟩, hT.len⟩
  · unfold ckL
    rw [if_neg (by rw [hw]; simp), e, if_pos rfl]
    cases L
    simp only at hw
    rw [hw]
  · rw [hsl] at hi
    rw [taken_slots hT h2 hp hl hi] at h1 ⊢
    have := (h.old i hi h1).1
    rw [htn]
    exact ⟨by omega, fun _ => by omega⟩
theorem ckL_long {S : Sb} {D : Dk} {L : Lg} (h : LH S D L) {state : List Int} (hl : 64 * D.half < state.length) : ckL L S D state = (L, S, D, 3) := by
  have e : takeS S D state = (S, D, 3) := by unfold takeS; rw [if_pos hl]
  unfold ckL
  rw [if_neg (by rw [h.whole]; simp), e, if_neg (show ¬ (3 : Int) = 0 by decide), if_pos rfl]
theorem appL_full {S : Sb} {D : Dk} {L : Lg} (h : LH S D L) {tx : List Int} (hl : ¬ L.used + needN tx.length ≤ D.slots) : appL L S D tx = (L, D, 6) := by
  rw [appL, if_neg (by rw [h.whole]; simp), if_neg (fun e => hl ((roomB_iff h _).1 e))]
/-- Empty transactions. -/
def lgE (i : Nat) : Lg := ⟨[], List.replicate i [], i, false⟩
theorem lgE_next (i : Nat) : ({ lgE i with txs := (lgE i).txs ++ [[]], used := (lgE i).used + needN 0 } : Lg) = lgE (i + 1) := by
  unfold lgE
  rw [List.replicate_succ']
  rfl
theorem lgE_zero : lgE 0 = lg0 := rfl
theorem small_nil : Small [] := ⟨Bytes.nil, by decide⟩
theorem LH.empty {D : Dk} {i : Nat} (h : LH sb0 D (lgE i)) (hi : i < D.slots) : ∃ D', appL (lgE i) sb0 D [] = (lgE (i + 1), D', 0) ∧ LH sb0 D' (lgE (i + 1)) ∧ D'.safe.length = D.safe.length := by
  obtain ⟨D', e, hL, hl⟩ := h.append small_nil (by show i + needN 0 ≤ _; have : needN 0 = 1 := rfl; omega)
  have e2 : ({ lgE i with txs := (lgE i).txs ++ [[]], used := (lgE i).used + needN ([] : List Int).length } : Lg) = lgE (i + 1) := lgE_next i
  rw [e2] at e hL
  exact ⟨D', e, hL, hl⟩
end Go.Proofs.Ytmgagkpokmaefaa
namespace Go.Proofs.Ytmgagkpokmaefaa
open Go Go.SL
/-! The document's sectors of a transaction. -/
theorem piece_cut (X : List Int) : List.take (0 + 1 * 1) (List.replicate 64 (Value.int .u8 0)) ++ List.take (min X.length 63) (ints .u8 X) ++ List.drop (0 + 1 * 1 + min X.length 63) (List.replicate 64 (Value.int .u8 0)) = encB (0 :: (X.take 63 ++ List.replicate (63 - (X.take 63).length) 0)) := by
  have h := piece_cells (X.take 63) (by rw [List.length_take]; omega)
  rw [← h, show (X.take 63).length = min X.length 63 by rw [List.length_take]; omega]
  have e : List.take (min X.length 63) (ints .u8 (X.take 63)) = List.take (min X.length 63) (ints .u8 X) := by
    simp only [ints, List.map_take, List.take_take]
    congr 1
    omega
  rw [e]
def secsK (turn : BitVec 64) (num : Nat) (tx : List Int) (k : Nat) : List Blk := mkB turn num tx :: piecesB tx k
theorem secsK_enc (turn : BitVec 64) (num : Nat) (tx : List Int) (k : Nat) : (secsK turn num tx (k + 1)).flatMap encB = (secsK turn num tx k).flatMap encB ++ encB (pieceB tx k) := by
  simp [secsK, piecesB_next]
theorem secs_K (turn : BitVec 64) (num : Nat) (tx : List Int) : secs turn num tx = secsK turn num tx (pieceN tx.length) := rfl
attribute [local irreducible] J JL JE JM LS Y Fc RV Code.wp wpList Code.wpIn wpListIn
attribute [local irreducible] Yc
variable (E : World)
theorem rsectors_spec (turn : BitVec 64) (num : Nat) (p : Option Addr) (cap n : Nat) (tx : List Int) (l : List HProp) (hn : tx.length = n) (hb : n ≤ 1073741824) (hin : InL l p n cap (ints .u8 tx)) :
    Fc prog E 20 [Q turn, .int .i64 (num : Int), .slice p n cap].toArray l (fun v l' => ∃ a c, v = .slice a (needN n) c ∧ l' = own 42 64 v (needN n) ((secs turn num tx).flatMap encB) :: l) := by
  refine Fc.post ?_
  have hmb : (encB (mkB turn num tx)).length = 64 := (encB_length _).trans (mkB_length _ _ _)
  refine Fc.of_body (c := ?codeC) Try.func20 ?hb Try.ntmps20 ?hl ?_
  case hb => exact rfl
  case hl => exact rfl
  refine J.seq ?_
  refine J.region ?_
  refine JL.step (y_assign rfl) rfl rfl rfl ?_
  refine JL.nil ?_
  refine JE.then_normal ?_
  refine J.seq ?_
  refine J.region ?_
  refine JL.step (y_move rfl) rfl rfl rfl (JL.step (y_move rfl) rfl rfl rfl (JL.step (y_move rfl) rfl rfl rfl ?_))
  refine JL.loud rfl (l_callF e49 rfl rfl (rmark_spec E turn (num : Int) p cap n tx _ hn hb (by (repeat (first | assumption | apply InL.cons | apply InL.app)))) ?_)
  rintro _ l1 ⟨rfl, e1⟩
  obtain rfl := e1.symm
  refine JL.loud rfl (l_buildSliceP hT rfl rfl rfl rfl rfl rfl rfl (by (first | exact fill_one rfl (by first | assumption | rfl | (simp; done)) | rfl | simp)) rfl (fun bm => ?_))
  refine JL.step (y_assign rfl) rfl rfl rfl ?_
  refine JL.nil ?_
  refine JE.then_normal ?_
  refine J.seq ?_
  refine J.seq ?_
  refine J.region ?_
  refine JL.step (y_assign rfl) rfl rfl rfl ?_
  refine JL.nil ?_
  refine JE.then_normal ?_
  refine J.block ?_
  refine J.pre (fun w q => q.ownAll (m := 1) (size := 64) (by decide) (by rw [hmb])) ?_
  refine J.loop (α := Nat × Option Addr × Nat) (fun s => s.1 ≤ pieceN n) (fun s => [(0, Q turn), (1, .int .i64 (num : Int)), (2, .slice p n cap), (7, .slice s.2.1 (s.1 + 1) s.2.2), (8, .int .i64 (63 * (s.1 : Int)))]) (fun s => own 42 64 (.slice s.2.1 (s.1 + 1) s.2.2) (s.1 + 1) ((secsK turn num tx s.1).flatMap encB) :: l) (fun s => pieceN n - s.1) (0, some ⟨bm, 0, none⟩, 1) (Nat.zero_le _) ⟨rfl, rfl, rfl, rfl, rfl, trivial⟩ (fun w h => ?_) ?_
  · have e : (secsK turn num tx 0).flatMap encB = encB (mkB turn num tx) := by simp [secsK, piecesB]
    rw [e]
    exact h.sup (by (repeat (first | exact Sup.refl | apply Sup.cons (by (repeat (first | exact Pick.head | apply Pick.tail | apply Pick.app))) | apply Sup.app | apply Sup.skip | apply Sup.skips)))
  rintro ⟨k, a, c⟩ hk
  dsimp only at hk ⊢
  refine J.seq ?_
  refine J.seq ?_
  refine J.region ?_
  refine JL.step (y_move rfl) rfl rfl rfl (JL.step (y_move rfl) rfl rfl rfl (JL.step (y_len_slice hT rfl rfl rfl) rfl rfl rfl (JL.step (y_lss rfl rfl) rfl rfl rfl ?_)))
  refine JL.nil ?_
  refine JE.then_normal ?_
  first | apply J.cond_dec rfl | apply J.cond rfl
  case' ht =>
    intro h
    try (first | (exfalso; omega) | (cases h; done) | (exfalso; simp at h; done) | subst h)
    all_goals
      refine J.skip ?_
  case' hf =>
    intro h
    try (first | (exfalso; omega) | (cases h; done) | (exfalso; simp at h; done) | subst h)
    all_goals
      refine J.exit ?_
      refine JE.then_exit ?_
      refine JE.then_exit ?_
      refine JE.block_exit ?_
      refine JE.then_normal ?_
      refine J.seq ?_
      refine J.region ?_
      refine JL.step (y_move rfl) rfl rfl rfl (JL.step (y_assign rfl) rfl rfl rfl ?_)
      refine JL.nil ?_
      refine JE.then_normal ?_
      refine J.ret ?_
      refine JE.ret1 (.inl rfl) rfl rfl (by (first | exact RV.tmp rfl | exact RV.cell1 hT rfl rfl rfl (by (exact Rd1.row (by (repeat (first | exact Pick.head | apply Pick.tail | apply Pick.app))) (by rfl))) | exact RV.cellN hT rfl rfl rfl (by (first | exact RdN.rowAll (by (repeat (first | exact Pick.head | apply Pick.tail | apply Pick.app))) | exact RdN.own (by (repeat (first | exact Pick.head | apply Pick.tail | apply Pick.app))))) (by (first | rfl | assumption | (simp; done) | omega)))) ?_
      obtain rfl : k = pieceN n := by unfold pieceN at hk ⊢; omega
      refine ⟨_, fun w q => q, a, c, ?_, ?_⟩
      · rw [show needN n = pieceN n + 1 by unfold needN pieceN; omega]
      · rw [show needN n = pieceN n + 1 by unfold needN pieceN; omega, secs_K, hn]
  all_goals refine JE.then_normal ?_
  all_goals
    refine J.seq ?_
    refine J.block ?_
    refine J.seq ?_
    refine J.region ?_
    have hlt : 63 * k < n := by omega
    obtain ⟨b9, off9, hb9, hin9⟩ := InL.part (lo := 63 * k) (hi := n) (k := 1) hin (by omega) (Nat.le_refl _) (by simp [ints, hn])
    have e9 : ((ints .u8 tx).drop (63 * k * 1)).take ((n - 63 * k) * 1) = ints .u8 (tx.drop (63 * k)) := by
      rw [Nat.mul_one, Nat.mul_one, List.take_of_length_le (by simp [ints, hn])]
      simp [ints]
    rw [e9] at hin9
    have hcap := hin.le
    obtain ⟨rfl⟩ : p = some ⟨b9, off9, none⟩ := hb9.resolve_right (by omega)
    refine JL.loud rfl (l_alloc hT rfl rfl (by (first | rfl | simp)) rfl (fun bb => ?_))
    refine JL.nil ?_
    refine JE.then_normal ?_
    refine J.seq ?_
    refine J.draw _ _ [(0, .q), (1, .q), (2, .q), (3, .q), (4, .l)] mixed (by kernel_rfl) (Split.cons (Pick.head) (Split.nil)) ?_
    refine JM.quiet rfl rfl rfl rfl (fun m => y_slice_arr (lo := 1) (hi := 64) hT rfl rfl rfl rfl (.inr ⟨_, _, _, rfl, rfl, rfl⟩) (.inl ⟨rfl, rfl⟩) (by decide) (by decide)) ?_
    refine JM.quiet rfl rfl rfl rfl (fun m => y_move rfl) ?_
    refine JM.quiet rfl rfl rfl rfl (fun m => y_move rfl) ?_
    refine JM.quiet rfl rfl rfl rfl (fun m => y_slice (b := b9) (off := off9) (lo := 63 * k) (hi := n) hT rfl rfl rfl rfl (.inr ⟨_, _, _, rfl, rfl, by omega⟩) (.inl ⟨rfl, rfl⟩) (by omega) (by omega) hcap (.inl rfl)) ?_
    refine JM.loud rfl rfl (fun fr => l_copy hT rfl rfl rfl rfl rfl rfl (by (repeat (first | exact Pick.head | apply Pick.tail | apply Pick.app))) (by (repeat (first | assumption | apply InL.cons | apply InL.app))) (by simp [ints, hn]) (by decide) (ints_one _ _) rfl ⟨[_], (by (repeat (first | exact Split.nil | exact Split.all | refine Split.cons Pick.head ?_))), ?_⟩)
    refine JM.nil ?_
    refine JE.then_normal ?_
    refine J.picks (A := row bb 42 _) (by (repeat (first | exact Pick.head | apply Pick.tail | apply Pick.app))) (J.row_eq (encB (pieceB tx k)) (by
      rw [show n - 63 * k = (tx.drop (63 * k)).length by rw [List.length_drop, hn], pieceB, if_neg (by decide), show i5.size = 1 from rfl]
      exact piece_cut _) ?_)
    have hpl : (encB (pieceB tx k)).length = 64 := (encB_length _).trans (pieceB_length tx k)
    refine J.region ?_
    refine JL.step (y_move rfl) rfl rfl rfl ?_
    refine JL.step (y_loadN hT rfl rfl rfl (by (first | exact RdN.rowAll (by (repeat (first | exact Pick.head | apply Pick.tail | apply Pick.app))) | exact RdN.own (by (repeat (first | exact Pick.head | apply Pick.tail | apply Pick.app))))) (by (first | rfl | assumption | (simp; done) | omega))) rfl rfl rfl ?_
    refine JL.loud rfl (l_buildSliceP hT rfl rfl rfl rfl rfl rfl rfl (by (first | exact fill_one rfl (by first | assumption | rfl | (simp; done)) | rfl | simp)) rfl (fun b2 => ?_))
    refine JL.loud rfl (l_append hT rfl rfl rfl rfl rfl rfl rfl rfl (by (repeat (first | exact Pick.head | apply Pick.tail | apply Pick.app))) (by (first | exact RdN.rowAll (by (repeat (first | exact Pick.head | apply Pick.tail | apply Pick.app))) | exact RdN.own (by (repeat (first | exact Pick.head | apply Pick.tail | apply Pick.app))))) (by (first | rfl | assumption | (simp; done) | omega)) (by (first | assumption | exact ones_of rfl | exact encW_one _ | exact encB_one _ | (intro u hu; simp at hu; rcases hu with rfl | rfl <;> rfl) | (intro u hu; simp at hu; subst hu; rfl) | simp)) (by rw [show i42.bytes = 64 from rfl]; omega) (by omega) rfl (fun na nc hnc => ?_))
    refine JL.step (y_assign rfl) rfl rfl rfl ?_
    refine JL.nil ?_
    refine JE.block_normal ?_
    refine JE.then_normal ?_
    refine J.region ?_
    refine JL.step (y_move rfl) rfl rfl rfl ?_
    refine JL.step (y_add rfl rfl (by (first | exact wrap_i64 (by omega) (by omega) | rfl))) rfl rfl rfl ?_
    refine JL.step (y_assign rfl) rfl rfl rfl ?_
    refine JL.nil ?_
  all_goals
    refine JE.round (s := (k, a, c)) (k + 1, na, nc) (by unfold pieceN; omega) ⟨rfl, rfl, rfl, rfl, by dsimp only; rw [show (63 : Int) * ((k + 1 : Nat) : Int) = 63 * (k : Int) + 63 by omega]; rfl, trivial⟩ (fun w q => ?_) (by unfold pieceN; dsimp only; omega)
    dsimp only
    rw [secsK_enc]
    exact q.sup (by (repeat (first | exact Sup.refl | apply Sup.cons (by (repeat (first | exact Pick.head | apply Pick.tail | apply Pick.app))) | apply Sup.app | apply Sup.skip | apply Sup.skips)))
end Go.Proofs.Ytmgagkpokmaefaa
namespace Go.Proofs.Ytmgagkpokmaefaa
open Go Go.SL
/-! Transactions handed over, and what lies in the log's sectors. -/
/-- Bytes that were handed over. -/
abbrev Sn := Option Addr × Nat × List Int
def snV (s : Sn) : Value := .slice s.1 s.2.2.length s.2.1
theorem secs_length (turn : BitVec 64) (num : Nat) (tx : List Int) : (secs turn num tx).length = needN tx.length := by
  rw [secs, List.length_cons, piecesB_length]
  unfold needN pieceN
  omega
theorem secs_64 (turn : BitVec 64) (num : Nat) (tx : List Int) : ∀ b ∈ secs turn num tx, b.length = 64 := fun b hb => by
  rcases List.mem_cons.1 hb with rfl | hb
  · exact mkB_length _ _ _
  · simp only [piecesB, List.mem_map, List.mem_range] at hb
    obtain ⟨i, _, rfl⟩ := hb
    exact pieceB_length tx i
theorem AtTx.sec {turn : BitVec 64} {num at_ : Nat} {tx : List Int} {bl : List Blk} (h : AtTx turn num tx bl at_) {i : Nat} (hi : i < needN tx.length) : (secs turn num tx)[i]? = some (bl.getD (at_ + i) []) := by
  cases i with
  | zero => rw [Nat.add_zero, h.mark]; rfl
  | succ i =>
    have hi2 : i < pieceN tx.length := by unfold needN at hi; unfold pieceN; omega
    rw [secs, List.getElem?_cons_succ, show at_ + (i + 1) = at_ + 1 + i by omega, h.piece i hi2]
    simp [piecesB, hi2]
attribute [local irreducible] J JL JE JM LS Y Fc RV Code.wp wpList Code.wpIn wpListIn
attribute [local irreducible] Yc
variable (E : World)
theorem slot_lh (st d : Nat) {S : Sb} {D : Dk} {L : Lg} (l : List HProp) (h : LH S D L) {i : Nat} (hi : i < D.slots) :
    Fc prog E 22 [.pointer (some ⟨st, 0, none⟩), .int .i64 (i : Int)].toArray (row st 90 (scells S d) :: disk d D :: l) (fun v l' => v = .tuple #[.agg (encB ((slotsL D).getD i [])).toArray, .int .i64 0] ∧ l' = row st 90 (scells S d) :: disk d D :: l) := by
  have h2 := h.holds.fits.two
  have hhl := half_le D h2
  have q := slot_spec E st d S D l h.holds.fits.hash h2 (by rw [h.holds.none]; decide) (i : Int)
  have e1 : D.slotAt (i : Int) = (2 + 2 * (D.half : Int) + i, 0) := by rw [Dk.slotAt, if_neg (by omega)]
  have e2 : D.ready (2 + 2 * (D.half : Int) + i) = 0 := by rw [Dk.ready, h.holds.up.dead, if_neg (by simp), if_neg (by unfold Dk.slots at hi; omega)]
  have e3 : D.slot (i : Int) = ((slotsL D).getD i [], 0) := by rw [Dk.slot, e1, if_pos rfl, slotsL_getD hi, Dk.read, if_pos e2, e2]
  rwa [e3] at q
theorem append_lh (lg st d : Nat) {S : Sb} {D D' : Dk} {L L' : Lg} {e : Int} (l : List HProp) (h : LH S D L) (tx : List Int) (p : Option Addr) (cap n : Nat) (hn : tx.length = n) (hsm : Small tx) (hfew : L.txs.length < 512) (he : appL L S D tx = (L', D', e)) (hin : InL l p n cap (ints .u8 tx)) :
    Fc prog E 19 [.pointer (some ⟨lg, 0, none⟩), .slice p n cap].toArray (logm lg st L :: row st 90 (scells S d) :: disk d D :: l) (fun v l' => v = .int .i64 e ∧ l' = logm lg st L' :: row st 90 (scells S d) :: disk d D' :: l) := by
  have q := lappend_spec E lg st d L S D l h.holds.fits.hash h.holds.fits.two tx p cap n hn hsm (by rw [h.holds.none]; decide) hfew hin
  rwa [he] at q
theorem check_lh (lg st d : Nat) {S S' : Sb} {D D' : Dk} {L L' : Lg} {e : Int} (l : List HProp) (h : LH S D L) (state : List Int) (p : Option Addr) (cap n : Nat) (hn : state.length = n) (hsm : Small state) (he : ckL L S D state = (L', S', D', e)) (hin : InL l p n cap (ints .u8 state)) :
    Fc prog E 18 [.pointer (some ⟨lg, 0, none⟩), .slice p n cap].toArray (logm lg st L :: row st 90 (scells S d) :: disk d D :: l) (fun v l' => v = .int .i64 e ∧ l' = logm lg st L' :: row st 90 (scells S' d) :: disk d D' :: l) := by
  subst hn
  have q := lcheck_spec E lg st d L S D l h.holds.fits.hash h.holds.fits.two h.holds.fits.place (by rw [h.holds.none]; decide) state p cap hsm hin
  rwa [he] at q
/-- An append, whether there is room or not. -/
theorem LH.put {S : Sb} {D : Dk} {L : Lg} (h : LH S D L) {tx : List Int} (hs : Small tx) : ∃ L' D' e, appL L S D tx = (L', D', e) ∧ LH S D' L' ∧ D'.safe.length = D.safe.length ∧
    ((L.used + needN tx.length ≤ D.slots ∧ e = 0 ∧ L' = { L with txs := L.txs ++ [tx], used := L.used + needN tx.length }) ∨ (¬ L.used + needN tx.length ≤ D.slots ∧ e = 6 ∧ L' = L ∧ D' = D)) := by
  by_cases hroom : L.used + needN tx.length ≤ D.slots
  · obtain ⟨D', e, hL, hl⟩ := h.append hs hroom
    exact ⟨_, D', 0, e, hL, hl, .inl ⟨hroom, rfl, rfl⟩⟩
  · exact ⟨L, D, 6, appL_full h hroom, h, rfl, .inr ⟨hroom, rfl, rfl, rfl⟩⟩
end Go.Proofs.Ytmgagkpokmaefaa
namespace Go.Proofs.Ytmgagkpokmaefaa
open Go Go.SL
/-! What is left of a log when the power goes. -/
theorem Byt.crash {D : Dk} (h : Byt D) (bs : List Bool) : Byt (D.crash bs) := ⟨(h.settle (bitAt bs)).safe, (h.settle (bitAt bs)).pend⟩
theorem live_or (lv : Nat → Bool) (l : List (Int × Blk)) (k : Nat) (s : List Blk) (j : Nat) : (liveOn lv l k s).getD j [] = s.getD j [] ∨ ∃ p ∈ l, p.1.toNat = j ∧ (liveOn lv l k s).getD j [] = p.2 := by
  induction l generalizing k s with
  | nil => exact .inl rfl
  | cons p r ih =>
    rw [liveOn]
    rcases ih (k + 1) (if lv k then s.set p.1.toNat p.2 else s) with h | ⟨q, hq, h1, h2⟩
    · rw [h]
      split
      · by_cases hj : p.1.toNat = j
        · rcases Nat.lt_or_ge j s.length with hl | hl
          · exact .inr ⟨p, by simp, hj, by simp [List.getD_eq_getElem?_getD, hj, hl]⟩
          · exact .inl (by simp [List.getD_eq_getElem?_getD, hj, hl])
        · exact .inl (by simp [List.getD_eq_getElem?_getD, hj])
      · exact .inl rfl
    · exact .inr ⟨q, by simp [hq], h1, h2⟩
/-- Some pieces of a transaction stand behind the log. -/
structure Mixed (L : Lg) (D : Dk) (tx : List Int) (D' : Dk) : Prop where
  up : Up D'
  none : D'.pending = []
  len : D'.safe.length = D.safe.length
  find : ∀ j : Nat, j < D.safe.length → D'.find (j : Int) = D.find (j : Int) ∨ ∃ i, i < pieceN tx.length ∧ j = D.base + L.used + 1 + i ∧ D'.find (j : Int) = pieceB tx i
theorem LH.mixed {S : Sb} {D D' : Dk} {L : Lg} (h : LH S D L) {tx : List Int} (hM : Mixed L D tx D') (hB : Byt D') : LH S D' L := by
  have h2 := h.holds.fits.two
  have hh := half_eq hM.len
  have hb : D'.base = D.base := by unfold Dk.base; rw [hh]
  have hsl : D'.slots = D.slots := by unfold Dk.slots; rw [hh, hM.len]
  have hbs := base_slots D h2
  have hus := h.used
  have hfit := h.fit
  have hg : ∀ i, i < D.slots → (slotsL D').getD i [] = (slotsL D).getD i [] ∨ L.used < i ∧ ∃ k, (slotsL D').getD i [] = pieceB tx k := fun i hi => by
    rw [slotsL_find (by rw [hsl]; exact hi), slotsL_find hi, hb]
    rcases hM.find (D.base + i) (by omega) with e | ⟨k, _, e1, e2⟩
    · exact .inl e
    · exact .inr ⟨by omega, k, e2⟩
  refine ⟨?_, hB, h.whole, hus, by rw [hsl]; exact hfit, h.small, h.smalls, fun k t hkt => ?_, fun i hi h1 => ?_⟩
  · refine holds_log h.holds hM.up hM.none hM.len fun j hj => ?_
    rcases hM.find j (by omega) with e | ⟨k, _, e1, _⟩
    · exact e
    · omega
  · refine (h.secs k t hkt).congr (by rw [slotsL_length, slotsL_length, hsl]) fun i h1 h3 => ?_
    have hk : k < L.txs.length := by
      rcases Nat.lt_or_ge k L.txs.length with h | h
      · exact h
      · rw [List.getElem?_eq_none h] at hkt; cases hkt
    have hle : usedN (L.txs.take k) + needN t.length ≤ L.used := by
      have e1 : L.txs.take (k + 1) = L.txs.take k ++ [t] := by rw [List.take_add_one, hkt]; rfl
      have e2 : usedN L.txs = usedN (L.txs.take (k + 1)) + usedN (L.txs.drop (k + 1)) := by
        rw [usedN, usedN, usedN, ← List.sum_append, ← List.map_append, List.take_append_drop]
      rw [hus, e2, e1, usedN_snoc]
      omega
    rcases hg i (by omega) with e | ⟨h4, _⟩
    · exact e
    · omega
  · rw [hsl] at hi
    rcases hg i hi with e | ⟨_, k, e⟩
    · rw [e] at h1 ⊢
      exact h.old i hi h1
    · rw [e] at h1
      exact absurd h1 (by show ¬ ((0 : Int) = 1); decide)
/-- The pieces on their way. -/
structure OnP (L : Lg) (D : Dk) (tx : List Int) (n : Nat) (X : Dk) : Prop where
  ok : X.Ok
  safe : X.safe = D.safe
  pend : ∀ p ∈ X.pending, ∃ i, i < pieceN tx.length ∧ p = (((D.base + L.used + 1 + i : Nat) : Int), pieceB tx i)
  few : X.pending.length ≤ n
theorem OnP.mixed {L : Lg} {D X : Dk} {tx : List Int} {n : Nat} (h : OnP L D tx n X) (hD : D.pending = []) (keep : List Bool) : Mixed L D tx (X.crash keep) := by
  obtain ⟨hu, hp, hl⟩ := crash_up h.ok keep
  refine ⟨hu, hp, by rw [hl, h.safe], fun j hj => ?_⟩
  rw [find_safe hp, find_safe hD, Int.toNat_natCast]
  have e : (X.crash keep).safe = liveOn (bitAt keep) X.pending 0 X.safe := rfl
  rw [e, h.safe]
  rcases live_or (bitAt keep) X.pending 0 D.safe j with q | ⟨p, hpp, h1, h2⟩
  · exact .inl q
  · obtain ⟨i, hi, rfl⟩ := h.pend p hpp
    exact .inr ⟨i, hi, by dsimp only at h1; rw [Int.toNat_natCast] at h1; exact h1.symm, h2⟩
theorem put_ar {D : Dk} {k : Nat} (h : Ar D k) (h2 : 2 ≤ D.safe.length) {i : Nat} (hi : i < D.slots) {b : Blk} (hb : b.length = 64) :
    (k = 0 ∧ D.put (i : Int) b = (D.dies, 7)) ∨ (∃ k', k = k' + 1 ∧ D.put (i : Int) b = (D.does.push ((D.base + i : Nat) : Int) b, 0) ∧ Ar (D.does.push ((D.base + i : Nat) : Int) b) k') := by
  have hbs := base_slots D h2
  have e1 : D.slotAt (i : Int) = (((D.base + i : Nat) : Int), 0) := by
    rw [Dk.slotAt, if_neg (by omega), show (2 + 2 * (D.half : Int) + (i : Int)) = ((D.base + i : Nat) : Int) by unfold Dk.base; omega]
  rw [Dk.put, e1, if_pos rfl]
  exact h.write hb (by omega)
theorem putsW_ar {L : Lg} {D Da : Dk} {tx : List Int} {k : Nat} (h : Ar Da k) (hs : Da.safe = D.safe) (hp : Da.pending = []) (hf : ∀ i, Da.find i = D.find i) (h2 : 2 ≤ D.safe.length) : ∀ j, j ≤ pieceN tx.length → L.used + 1 + j ≤ D.slots →
    OnP L D tx j (putsW L.used tx Da j).1 ∧
    (((putsW L.used tx Da j).2 = 7 ∧ (putsW L.used tx Da j).1.dead = true ∧ k < j) ∨
    ((putsW L.used tx Da j).2 = 0 ∧ j ≤ k ∧ Ar (putsW L.used tx Da j).1 (k - j) ∧ ∀ i : Nat, (putsW L.used tx Da j).1.find (i : Int) = if D.base + L.used + 1 ≤ i ∧ i < D.base + L.used + 1 + j then pieceB tx (i - (D.base + L.used + 1)) else D.find (i : Int)))
  | 0, _, _ => ⟨⟨h.ok, hs, fun p hpp => (by
    have hpp : p ∈ Da.pending := hpp
    rw [hp] at hpp
    exact absurd hpp (by simp)), by show Da.pending.length ≤ 0; rw [hp]; exact Nat.le_refl _⟩, .inr ⟨rfl, Nat.zero_le _, h, fun i => by rw [if_neg (by omega)]; exact hf _⟩⟩
  | j + 1, hj, hr => by
    obtain ⟨hw, ⟨e, hd, hk⟩ | ⟨e, hk, ha, hfj⟩⟩ := putsW_ar (L := L) (tx := tx) h hs hp hf h2 j (by omega) (by omega)
    · have e2 : putsW L.used tx Da (j + 1) = putsW L.used tx Da j := by rw [putsW, if_neg (by rw [e]; decide)]
      rw [e2]
      exact ⟨⟨hw.ok, hw.safe, hw.pend, Nat.le_succ_of_le hw.few⟩, .inl ⟨e, hd, by omega⟩⟩
    · have e2 : putsW L.used tx Da (j + 1) = (putsW L.used tx Da j).1.put ((L.used + 1 + j : Nat) : Int) (pieceB tx j) := by rw [putsW, if_pos e]
      have hl : (putsW L.used tx Da j).1.safe.length = D.safe.length := by rw [hw.safe]
      have hh := half_eq hl
      have hb : (putsW L.used tx Da j).1.base = D.base := by unfold Dk.base; rw [hh]
      have hsl : (putsW L.used tx Da j).1.slots = D.slots := by unfold Dk.slots; rw [hh, hl]
      rw [e2]
      rcases put_ar ha (by rw [hl]; exact h2) (i := L.used + 1 + j) (by rw [hsl]; omega) (pieceB_length tx j) with ⟨hk0, e3⟩ | ⟨k2, hk2, e3, ha2⟩
      · rw [e3]
        exact ⟨⟨hw.ok.dies, hw.safe, hw.pend, Nat.le_succ_of_le hw.few⟩, .inl ⟨rfl, rfl, by omega⟩⟩
      · rw [e3, hb]
        rw [hb] at ha2
        refine ⟨⟨ha2.ok, hw.safe, fun p hpp => ?_, ?_⟩, .inr ⟨rfl, by omega, by rw [show k - (j + 1) = k2 by omega]; exact ha2, fun i => ?_⟩⟩
        · simp only [Dk.push, Dk.does, List.mem_append, List.mem_singleton] at hpp
          rcases hpp with hpp | rfl
          · exact hw.pend p hpp
          · exact ⟨j, by omega, by rw [show D.base + (L.used + 1 + j) = D.base + L.used + 1 + j by omega]⟩
        · have := hw.few
          simp only [Dk.push, Dk.does, List.length_append, List.length_singleton]
          omega
        · dsimp only
          rw [dk_find_push, hfj]
          by_cases hi : D.base + (L.used + 1 + j) = i
          · rw [if_pos (by omega), if_pos (by omega), show i - (D.base + L.used + 1) = j by omega]
          · rw [if_neg (by omega)]
            by_cases hi2 : D.base + L.used + 1 ≤ i ∧ i < D.base + L.used + 1 + j
            · rw [if_pos hi2, if_pos (by omega)]
            · rw [if_neg hi2, if_neg (by omega)]
/-- An append that is cut. -/
theorem append_cut {S : Sb} {D : Dk} {L : Lg} {tx : List Int} {k : Nat} (h : LH S D L) (hs : Small tx) (hk : k ≤ 1000000) (hroom : L.used + needN tx.length ≤ D.slots) :
    ∃ X e, writeL L S (D.arm k) tx = (X, e) ∧ X.pending.length ≤ 1000 ∧ Byt X ∧
    ((e = 7 ∧ X.dead = true ∧ k < needN tx.length + 2 ∧ ∀ keep, LH S (X.crash keep) L ∨ needN tx.length < k ∧ LH S (X.crash keep) { L with txs := L.txs ++ [tx], used := L.used + needN tx.length }) ∨
    (e = 0 ∧ X.dead = false ∧ needN tx.length + 2 ≤ k ∧ ∀ keep, LH S (X.crash keep) { L with txs := L.txs ++ [tx], used := L.used + needN tx.length })) := by
  have h2 := h.holds.fits.two
  have hm := h.holds.up.ok.most
  have hD := h.holds.none
  have hbs := base_slots D h2
  have hsl := h.slots
  obtain ⟨N, hN⟩ : ∃ N, pieceN tx.length = N := ⟨_, rfl⟩
  have hnN : needN tx.length = 1 + N := by rw [← hN]; rfl
  have hA : Ar (D.arm k) k := ⟨⟨h.holds.up.ok.safe, h.holds.up.ok.pend, h.holds.up.ok.some, h.holds.up.ok.most, by simp only [Dk.arm]; omega⟩, h.holds.up.dead, by simp [Dk.arm], rfl⟩
  have hBa : Byt (D.arm k) := ⟨h.byt.safe, h.byt.pend⟩
  have hBX := hBa.writeL L S hs.bytes
  obtain ⟨hw, hw2⟩ := putsW_ar (L := L) (D := D) (tx := tx) hA rfl hD (fun i => rfl) h2 N (by omega) (by omega)
  have hdef : writeL L S (D.arm k) tx = (let w := putsW L.used tx (D.arm k) N
      if w.2 = 0 then
        if w.1.sync.2 = 0 then
          let m := w.1.sync.1.put (L.used : Int) (mkB S.turn L.txs.length tx)
          if m.2 = 0 then m.1.sync else m
        else w.1.sync
      else w) := by rw [← hN]; rfl
  rw [hdef] at hBX ⊢
  dsimp only at hBX ⊢
  obtain ⟨W, hW⟩ : ∃ W, putsW L.used tx (D.arm k) N = W := ⟨_, rfl⟩
  rw [hW] at hw hw2 hBX ⊢
  have hwl : W.1.safe.length = D.safe.length := by rw [hw.safe]
  have hfew := hw.few
  have hcut : ∀ X : Dk, OnP L D tx N X → Byt X → ∀ keep, LH S (X.crash keep) L := fun X hX hB keep => h.mixed (hX.mixed hD keep) (hB.crash keep)
  rcases hw2 with ⟨e, hd, hkN⟩ | ⟨e, hkN, ha, hf⟩
  · rw [if_neg (by rw [e]; decide)] at hBX ⊢
    exact ⟨W.1, W.2, rfl, by omega, hBX, .inl ⟨e, hd, by omega, fun keep => .inl (hcut _ hw hBX keep)⟩⟩
  rw [if_pos e] at hBX ⊢
  rcases ha.sync with ⟨hk1, e1⟩ | ⟨k2, hk2, e1, hy⟩
  · rw [e1, if_neg (show ¬ (7 : Int) = 0 by decide)] at hBX ⊢
    exact ⟨_, _, rfl, by show W.1.pending.length ≤ 1000; omega, hBX, .inl ⟨rfl, rfl, by omega, fun keep => .inl (hcut _ ⟨hw.ok.dies, hw.safe, hw.pend, hw.few⟩ hBX keep)⟩⟩
  rw [e1, if_pos rfl] at hBX ⊢
  dsimp only at hBX ⊢
  obtain ⟨Y, hY⟩ : ∃ Y, W.1.does.settle (fun _ => true) = Y := ⟨_, rfl⟩
  have hYp : Y.pending = [] := by rw [← hY]; rfl
  have hYl : Y.safe.length = D.safe.length := by rw [← hY]; simp [Dk.settle, liveOn_length, Dk.does, hwl]
  have hYf : ∀ j : Nat, j < D.safe.length → Y.find (j : Int) = if D.base + L.used + 1 ≤ j ∧ j < D.base + L.used + 1 + N then pieceB tx (j - (D.base + L.used + 1)) else D.find (j : Int) := fun j hj => by
    rw [← hY, dk_find_settle hw.ok (j : Int) ⟨by omega, by omega⟩, hf]
  rw [hY] at hy hBX ⊢
  have hYh := half_eq hYl
  have hYb : Y.base = D.base := by unfold Dk.base; rw [hYh]
  have hYs : Y.slots = D.slots := by unfold Dk.slots; rw [hYh, hYl]
  have hYk : ∀ X : Dk, X.Ok → X.safe = Y.safe → X.pending = [] → Byt X → ∀ keep, LH S (X.crash keep) L := fun X hX hsf hpe hB keep => by
    obtain ⟨hu, hp', hl'⟩ := crash_up hX keep
    refine h.mixed (tx := tx) ⟨hu, hp', by rw [hl', hsf, hYl], fun j hj => ?_⟩ (hB.crash keep)
    rw [crash_find keep j (by omega) (by rw [hpe]; simp), hsf, ← find_safe hYp, hYf j hj]
    split
    · exact .inr ⟨j - (D.base + L.used + 1), by omega, by omega, rfl⟩
    · exact .inl rfl
  rcases put_ar hy (by rw [hYl]; exact h2) (i := L.used) (by rw [hYs]; omega) (mkB_length S.turn L.txs.length tx) with ⟨hk3, e2⟩ | ⟨k3, hk3, e2, hv⟩
  · rw [e2, if_neg (show ¬ (7 : Int) = 0 by decide)] at hBX ⊢
    exact ⟨_, _, rfl, by show Y.pending.length ≤ 1000; rw [hYp]; decide, hBX, .inl ⟨rfl, rfl, by omega, fun keep => .inl (hYk _ hy.ok.dies rfl hYp hBX keep)⟩⟩
  rw [e2, if_pos rfl] at hBX ⊢
  rw [hYb] at hv hBX ⊢
  dsimp only at hBX ⊢
  obtain ⟨t, ht⟩ : ∃ t, D.base + L.used = t := ⟨_, rfl⟩
  rw [ht] at hv hBX ⊢
  obtain ⟨M, hM⟩ : ∃ M, mkB S.turn L.txs.length tx = M := ⟨_, rfl⟩
  rw [hM] at hv hBX ⊢
  have hT : ∀ X : Dk, X.Ok → X.safe = Y.safe.set t M → X.pending = [] → Byt X → ∀ keep, LH S (X.crash keep) { L with txs := L.txs ++ [tx], used := L.used + needN tx.length } := fun X hX hsf hpe hB keep => by
    obtain ⟨hu, hp', hl'⟩ := crash_up hX keep
    refine h.wrote hs hroom ⟨hu, hp', by rw [hl', hsf, List.length_set, hYl], fun j hj => ?_⟩ (hB.crash keep)
    rw [crash_find keep j (by omega) (by rw [hpe]; simp), hsf, ht, hM, hN]
    by_cases hjt : j = t
    · rw [if_pos hjt, hjt, List.getD_eq_getElem?_getD, show ((t : Int)).toNat = t from rfl, List.getElem?_set_self (by omega)]
      rfl
    · rw [if_neg hjt]
      have e5 := hYf j hj
      rw [ht] at e5
      rw [← e5, find_safe hYp]
      simp [List.getD_eq_getElem?_getD, show ¬ t = j by omega]
  have hvp : (Y.does.push (t : Int) M).pending = [((t : Int), M)] := by simp [Dk.push, Dk.does, hYp]
  rcases hv.sync with ⟨hk4, e3⟩ | ⟨k4, hk4, e3, hz⟩
  · rw [e3] at hBX ⊢
    refine ⟨_, _, rfl, by show (Y.does.push (t : Int) M).pending.length ≤ 1000; rw [hvp]; simp, hBX, .inl ⟨rfl, rfl, by omega, fun keep => ?_⟩⟩
    have hc : ((Y.does.push (t : Int) M).dies.crash keep) = { (Y.does.push (t : Int) M).dies with safe := if bitAt keep 0 then Y.safe.set t M else Y.safe, pending := [], dead := false, armed := false } := by
      simp [Dk.crash, Dk.settle, Dk.dies, hvp, liveOn]
      rfl
    have hce : ∀ X : Dk, X.pending = [] → X.dead = false → X.armed = false → X.crash keep = X := fun X h1 h2 h3 => by
      cases X
      simp only at h1 h2 h3
      subst h1 h2 h3
      rfl
    have hok := hv.ok.dies.crash keep
    have hBc := hBX.crash keep
    rw [hc] at hok hBc ⊢
    cases hb0 : bitAt keep 0 with
    | false =>
      rw [hb0] at hok hBc
      have q := hYk _ hok rfl rfl hBc keep
      rw [hce _ rfl rfl rfl] at q
      exact .inl q
    | true =>
      rw [hb0] at hok hBc
      have q := hT _ hok rfl rfl hBc keep
      rw [hce _ rfl rfl rfl] at q
      exact .inr ⟨by omega, q⟩
  · rw [e3] at hBX ⊢
    refine ⟨_, _, rfl, Nat.zero_le _, hBX, .inr ⟨rfl, hz.dead, by omega, fun keep => hT _ hz.ok ?_ rfl hBX keep⟩⟩
    show liveOn (fun _ => true) (Y.does.push (t : Int) M).does.pending 0 Y.safe = _
    rw [show (Y.does.push (t : Int) M).does.pending = [((t : Int), M)] from hvp]
    rfl
end Go.Proofs.Ytmgagkpokmaefaa
namespace Go.Proofs.Ytmgagkpokmaefaa
open Go Go.SL
/-! A disk that is opened again. -/
def slotBytes (D : Dk) : Nat → List Int
  | 0 => []
  | k + 1 => slotBytes D k ++ (slotsL D).getD k []
theorem slotBytes_length {D : Dk} (hok : D.Ok) (h2 : 2 ≤ D.safe.length) : ∀ k, k ≤ D.slots → (slotBytes D k).length = 64 * k
  | 0, _ => rfl
  | k + 1, h => by
    rw [slotBytes, List.length_append, slotBytes_length hok h2 k (by omega), getD_mem (slotsL_64 hok h2) (by rw [slotsL_length]; omega)]
    omega
theorem slotBytes_bytes {D : Dk} (h : Byt D) : ∀ k, k ≤ D.slots → Bytes (slotBytes D k)
  | 0, _ => Bytes.nil
  | k + 1, hk => (slotBytes_bytes h k (by omega)).append (by rw [slotsL_getD (by omega)]; exact h.find _)
attribute [local irreducible] J JL JE JM LS Y Fc RV Code.wp wpList Code.wpIn wpListIn
attribute [local irreducible] Yc
variable (E : World)
theorem again_spec (d : Nat) {S : Sb} {D : Dk} {L : Lg} (l : List HProp) (h : LH S D L) (h64 : 64 ≤ D.safe.length) :
    Fc prog E 30 [.pointer (some ⟨d, 0, none⟩)].toArray (disk d D :: l)
      (fun v l' => ∃ lg st, v = .tuple #[.pointer (some ⟨lg, 0, none⟩), .bool true] ∧ l' = logm lg st L :: row st 90 (scells S d) :: disk d D :: l) := by
  refine Fc.of_body (c := ?codeC) Try.func30 ?hb Try.ntmps30 ?hl ?_
  case hb => exact rfl
  case hl => exact rfl
  refine J.seq ?_
  refine J.region ?_
  refine JL.step (y_assign rfl) rfl rfl rfl (JL.step (y_assign rfl) rfl rfl rfl ?_)
  refine JL.nil ?_
  refine JE.then_normal ?_
  refine J.seq ?_
  refine J.region ?_
  refine JL.step (y_move rfl) rfl rfl rfl ?_
  refine JL.loud rfl (l_callF e56 rfl rfl (Fc.on (Split.cons (by (repeat (first | exact Pick.head | apply Pick.tail | apply Pick.app))) Split.nil) (open_holds E d D S L.snap _ h.holds h64)) ?_)
  rintro _ _ ⟨st, rfl, rfl⟩
  refine JL.step (y_move rfl) rfl rfl rfl (JL.step (y_extract rfl rfl) rfl rfl rfl (JL.step (y_extract rfl rfl) rfl rfl rfl (JL.step (y_assign rfl) rfl rfl rfl (JL.step (y_assign rfl) rfl rfl rfl ?_))))
  refine JL.nil ?_
  refine JE.then_normal ?_
  refine J.seq ?_
  refine J.seq ?_
  refine J.region ?_
  refine JL.step (y_move rfl) rfl rfl rfl (JL.step (y_neq rfl rfl) rfl rfl rfl ?_)
  refine JL.nil ?_
  refine JE.then_normal ?_
  refine J.cond_f rfl (by (first | rfl | assumption | (simp; done) | (simp; omega))) ?_
  refine J.skip ?_
  refine JE.then_normal ?_
  refine J.seq ?_
  refine J.region ?_
  refine JL.step (y_move rfl) rfl rfl rfl ?_
  refine JL.loud rfl (l_callF e13 rfl rfl (Fc.on (Split.cons (by (repeat (first | exact Pick.head | apply Pick.tail | apply Pick.app))) (Split.cons (by (repeat (first | exact Pick.head | apply Pick.tail | apply Pick.app))) Split.nil)) (lopen_lh E st d S D L _ h)) ?_)
  rintro _ _ ⟨lg, rfl, rfl⟩
  refine JL.step (y_move rfl) rfl rfl rfl (JL.step (y_extract rfl rfl) rfl rfl rfl (JL.step (y_extract rfl rfl) rfl rfl rfl (JL.step (y_assign rfl) rfl rfl rfl (JL.step (y_assign rfl) rfl rfl rfl ?_))))
  refine JL.nil ?_
  refine JE.then_normal ?_
  refine J.seq ?_
  refine J.region ?_
  refine JL.step (y_move rfl) rfl rfl rfl (JL.step (y_move rfl) rfl rfl rfl (JL.step (y_eql rfl rfl) rfl rfl rfl (JL.step (y_move rfl) rfl rfl rfl ?_)))
  all_goals (first | (refine JL.gsplit_dec rfl rfl rfl (fun h => ?_) (fun h => ?_) <;> try (first | (exfalso; omega) | exact absurd rfl h)) | (refine JL.gsplit rfl rfl rfl (fun h => ?_) (fun h => ?_) <;> try (first | cases h | (exfalso; simp at h; done))) | skip)
  all_goals (first | refine JL.gskip rfl rfl rfl rfl rfl rfl ?_ | refine JL.gskipU rfl rfl rfl rfl rfl ?_ | refine JL.gstep rfl rfl rfl (y_move rfl) rfl rfl ?_)
  all_goals (first | refine JL.gskip rfl rfl rfl rfl rfl rfl ?_ | refine JL.gskipU rfl rfl rfl rfl rfl ?_ | refine JL.gstep rfl rfl rfl (y_ptr_ne_nil hT rfl rfl rfl rfl) rfl rfl ?_)
  all_goals (refine JL.step (y_pick rfl rfl rfl) rfl rfl rfl ?_)
  all_goals (refine JL.step (y_assign rfl) rfl rfl rfl ?_)
  all_goals (refine JL.step (y_assign rfl) rfl rfl rfl ?_)
  all_goals refine JL.nil ?_
  all_goals refine JE.then_normal ?_
  all_goals
    refine J.ret ?_
    refine JE.ret2 (.inl rfl) rfl rfl (by (first | exact RV.tmp rfl | exact RV.cell1 hT rfl rfl rfl (by (exact Rd1.row (by (repeat (first | exact Pick.head | apply Pick.tail | apply Pick.app))) (by rfl))) | exact RV.cellN hT rfl rfl rfl (by (first | exact RdN.rowAll (by (repeat (first | exact Pick.head | apply Pick.tail | apply Pick.app))) | exact RdN.own (by (repeat (first | exact Pick.head | apply Pick.tail | apply Pick.app))))) (by (first | rfl | assumption | (simp; done) | omega)))) (by (first | exact RV.tmp rfl | exact RV.cell1 hT rfl rfl rfl (by (exact Rd1.row (by (repeat (first | exact Pick.head | apply Pick.tail | apply Pick.app))) (by rfl))) | exact RV.cellN hT rfl rfl rfl (by (first | exact RdN.rowAll (by (repeat (first | exact Pick.head | apply Pick.tail | apply Pick.app))) | exact RdN.own (by (repeat (first | exact Pick.head | apply Pick.tail | apply Pick.app))))) (by (first | rfl | assumption | (simp; done) | omega)))) ?_
    exact ⟨lg, st, rfl, rfl⟩
theorem arm_lh (d : Nat) {S : Sb} {D : Dk} {L : Lg} (l : List HProp) (h : LH S D L) (k : Nat) (hk : k ≤ 1000000) :
    Fc prog E 28 [.pointer (some ⟨d, 0, none⟩), .int .i64 (k : Int)].toArray (disk d D :: l) (fun v l' => v = .int .i64 0 ∧ l' = disk d (D.arm k) :: l) := by
  have q := arm_spec E d D k (by omega) l
  have hd := h.holds.up.dead
  rw [hd] at q
  simpa using q
/-- An append on a disk that is armed. -/
theorem append_arm (lg st d : Nat) {S : Sb} {D : Dk} {L : Lg} (l : List HProp) (h : LH S D L) (k : Nat) (tx : List Int) (p : Option Addr) (cap n : Nat) (hn : tx.length = n) (hsm : Small tx) (hfew : L.txs.length < 512) {R : Lg × Dk × Int} (he : appL L S (D.arm k) tx = R) (hin : InL l p n cap (ints .u8 tx)) :
    Fc prog E 19 [.pointer (some ⟨lg, 0, none⟩), .slice p n cap].toArray (logm lg st L :: row st 90 (scells S d) :: disk d (D.arm k) :: l) (fun v l' => v = .int .i64 R.2.2 ∧ l' = logm lg st R.1 :: row st 90 (scells S d) :: disk d R.2.1 :: l) := by
  subst he
  have hp : (D.arm k).pending = [] := h.holds.none
  exact lappend_spec E lg st d L S (D.arm k) l h.holds.fits.hash h.holds.fits.two tx p cap n hn hsm (by rw [hp]; decide) hfew hin
theorem appL_arm {S : Sb} {D : Dk} {L : Lg} (h : LH S D L) (k : Nat) {tx : List Int} (hs : Small tx) (hroom : L.used + needN tx.length ≤ D.slots) : appL L S (D.arm k) tx = if (writeL L S (D.arm k) tx).2 = 0 then ({ L with txs := L.txs ++ [tx], used := L.used + needN tx.length }, (writeL L S (D.arm k) tx).1, 0) else ({ L with broken := true }, (writeL L S (D.arm k) tx).1, (writeL L S (D.arm k) tx).2) := by
  have hr : roomB L (D.arm k) (tx.length : Int) = true := (roomB_iff h tx.length).2 hroom
  rw [appL, if_neg (by rw [h.whole]; simp), if_pos hr]
theorem writeL_len (L : Lg) (S : Sb) (D : Dk) (tx : List Int) : (writeL L S D tx).1.safe.length = D.safe.length := by
  have h1 := (putsW_len L.used tx D (pieceN tx.length)).1
  unfold writeL
  dsimp only
  split
  · split
    · split
      · exact (sync_len _).1.trans ((put_len _ _ _).1.trans ((sync_len _).1.trans h1))
      · exact (put_len _ _ _).1.trans ((sync_len _).1.trans h1)
    · exact (sync_len _).1.trans h1
  · exact h1
theorem crash_len (D : Dk) (keep : List Bool) : (D.crash keep).safe.length = D.safe.length := liveOn_length _ _ _ _
theorem ltxs_len (lg st : Nat) (L : Lg) (n : Nat) (l : List HProp) (hn : L.txs.length = n) : Fc prog E 24 [.pointer (some ⟨lg, 0, none⟩)].toArray (logm lg st L :: l) (fun v l' => ∃ a c k, v = .slice a n c ∧ l' = k ++ (logm lg st L :: l)) := by
  subst hn
  exact (ltxs_spec E lg st L l).mono fun v l' ⟨a, c, vals, e1, _, e2⟩ => ⟨a, c, own 36 1 v L.txs.length vals :: owns vals L.txs, e1, e2⟩
theorem ltxs_one (lg st : Nat) (L : Lg) (b : List Int) (l : List HProp) (hn : L.txs = [b]) : Fc prog E 24 [.pointer (some ⟨lg, 0, none⟩)].toArray (logm lg st L :: l) (fun v l' => ∃ g c a0 c0, v = .slice (some ⟨g, 0, none⟩) 1 c ∧ 1 ≤ c ∧ l' = own 36 1 v 1 [.slice a0 b.length c0] :: own 5 1 (.slice a0 b.length c0) b.length (ints .u8 b) :: logm lg st L :: l) := by
  refine (ltxs_spec E lg st L l).know fun v l' w ⟨a, c, vals, e1, hl, e2⟩ s => ?_
  subst e1
  rw [hn] at hl e2 ⊢
  obtain ⟨x, rfl⟩ : ∃ x, vals = [x] := by
    match vals, hl with
    | [x], _ => exact ⟨x, rfl⟩
  subst e2
  obtain ⟨a0, c0, rfl, _⟩ := Sat.row_of_own s (r := _) (Pick.tail Pick.head)
  have og : OwnAt a 1 c _ := Sat.own_at s
  obtain ⟨g, rfl⟩ := og.at_.resolve_right fun ⟨h0, _⟩ => by have := og.le; omega
  exact ⟨g, c, a0, c0, rfl, og.le, rfl⟩
end Go.Proofs.Ytmgagkpokmaefaa
