import Derived.Test.YtmgagkpokmaefaaJoin1
import Derived.Test.YtmgagkpokmaefaaJoin6
namespace Go.Proofs.Ytmgagkpokmaefaa
open Go Go.SL
/-! A log and its disk. -/
def usedN (txs : List (List Int)) : Nat := (txs.map fun tx => needN tx.length).sum
theorem usedN_snoc (txs : List (List Int)) (tx : List Int) : usedN (txs ++ [tx]) = usedN txs + needN tx.length := by simp [usedN]
theorem needN_pos (n : Nat) : 1 ≤ needN n := by unfold needN; omega
theorem usedN_len (txs : List (List Int)) : txs.length ≤ usedN txs := by
  induction txs with
  | nil => exact Nat.le_refl _
  | cons tx r ih =>
    have := needN_pos tx.length
    simp only [usedN, List.map_cons, List.sum_cons, List.length_cons] at ih ⊢
    omega
/-- A transaction lies there. -/
structure AtTx (turn : BitVec 64) (num : Nat) (tx : List Int) (bl : List Blk) (at_ : Nat) : Prop where
  fit : at_ + needN tx.length ≤ bl.length
  mark : bl.getD at_ [] = mkB turn num tx
  piece : ∀ i, i < pieceN tx.length → bl.getD (at_ + 1 + i) [] = pieceB tx i
theorem AtTx.next {turn : BitVec 64} {num at_ : Nat} {tx : List Int} {bl : List Blk} (h : AtTx turn num tx bl at_) (h64 : ∀ b ∈ bl, b.length = 64) (hn : num < 4294967296) (hb : bl.length ≤ 512) : nextTx turn num bl at_ = some tx := by
  have hlt : tx.length < 4294967296 := by have := h.fit; unfold needN at this; omega
  obtain ⟨_, _, _, f4, _⟩ := mkB_facts turn num tx hn hlt
  have ht := tails_pieces h.piece (pieceN tx.length) (Nat.le_refl _)
  have hle : tx.length ≤ 63 * pieceN tx.length := by unfold pieceN; omega
  rw [List.take_of_length_le hle] at ht
  have := nextTx_is (turn := turn) (num := num) (at_ := at_) h64 (z := tx.length) (by rw [h.mark]; exact f4) h.fit (fun i hi => by rw [h.piece i hi]; rfl) (by rw [ht, List.drop_left' rfl]) (by rw [ht, List.take_left' rfl, h.mark])
  rw [this, ht, List.take_left' rfl]
theorem AtTx.congr {turn : BitVec 64} {num at_ : Nat} {tx : List Int} {bl bl' : List Blk} (h : AtTx turn num tx bl at_) (hl : bl'.length = bl.length) (he : ∀ i, at_ ≤ i → i < at_ + needN tx.length → bl'.getD i [] = bl.getD i []) : AtTx turn num tx bl' at_ :=
  ⟨by rw [hl]; exact h.fit, by rw [he at_ (Nat.le_refl _) (by have := needN_pos tx.length; omega)]; exact h.mark, fun i hi => by
    rw [he (at_ + 1 + i) (by omega) (by unfold needN; unfold pieceN at hi; omega)]
    exact h.piece i hi⟩
theorem scan_all {turn : BitVec 64} {bl : List Blk} {txs : List (List Int)} (h64 : ∀ b ∈ bl, b.length = 64) (hb : bl.length ≤ 512) (ha : ∀ (k : Nat) tx, txs[k]? = some tx → AtTx turn k tx bl (usedN (txs.take k))) (hu : usedN txs ≤ bl.length) (hn : nextTx turn txs.length bl (usedN txs) = none) :
    scan turn bl bl.length [] 0 = (txs, usedN txs) := by
  have hl := usedN_len txs
  have key : ∀ (m j : Nat), m + j = txs.length → ∀ f, bl.length ≤ f + usedN (txs.take j) → scan turn bl f (txs.take j) (usedN (txs.take j)) = (txs, usedN txs) := by
    intro m
    induction m with
    | zero =>
      intro j hj f hf
      have e : txs.take j = txs := List.take_of_length_le (by omega)
      rw [e] at hf ⊢
      cases f with
      | zero => rfl
      | succ f => rw [scan, hn]
    | succ m ih =>
      intro j hj f hf
      have hjl : j < txs.length := by omega
      obtain ⟨tx, htx⟩ : ∃ tx, txs[j]? = some tx := ⟨_, List.getElem?_eq_getElem hjl⟩
      have hA := ha j tx htx
      have hnx := hA.next h64 (by omega) hb
      have e1 : txs.take (j + 1) = txs.take j ++ [tx] := by rw [List.take_add_one, htx]; rfl
      have hpos := needN_pos tx.length
      have hfit := hA.fit
      cases f with
      | zero => omega
      | succ f =>
        have hjt : (txs.take j).length = j := by rw [List.length_take]; omega
        rw [scan, hjt, hnx]
        dsimp only
        rw [← usedN_snoc, ← e1]
        exact ih (j + 1) (by omega) f (by rw [e1, usedN_snoc]; omega)
  exact key txs.length 0 (by omega) bl.length (by simp [usedN])
/-- A log, and a disk that holds it. -/
structure LH (S : Sb) (D : Dk) (L : Lg) : Prop where
  holds : Holds S L.snap D
  byt : Byt D
  whole : L.broken = false
  used : L.used = usedN L.txs
  fit : L.used ≤ D.slots
  small : Small L.snap
  smalls : ∀ tx ∈ L.txs, Small tx
  secs : ∀ (k : Nat) tx, L.txs[k]? = some tx → AtTx S.turn k tx (slotsL D) (usedN (L.txs.take k))
  old : ∀ i, i < D.slots → ((slotsL D).getD i []).getD 0 0 = 1 → (leG ((((slotsL D).getD i []).drop 1).take 8) 8).toNat ≤ S.turn.toNat ∧ (L.used ≤ i → (leG ((((slotsL D).getD i []).drop 1).take 8) 8).toNat < S.turn.toNat)
theorem LH.slots {S : Sb} {D : Dk} {L : Lg} (h : LH S D L) : D.slots ≤ 512 := by
  have := h.holds.up.ok.most
  unfold Dk.slots
  omega
theorem LH.none {S : Sb} {D : Dk} {L : Lg} (h : LH S D L) : nextTx S.turn L.txs.length (slotsL D) L.used = none := by
  cases hx : nextTx S.turn L.txs.length (slotsL D) L.used with
  | none => rfl
  | some tx =>
    have hsl := h.slots
    have hfew := usedN_len L.txs
    have hus := h.used
    have hfit := h.fit
    have f := nextTx_facts (slotsL_64 h.holds.up.ok h.holds.fits.two) (by rw [slotsL_length]; omega) (by omega) hx rfl rfl
    have hlt : L.used < D.slots := by
      have := f.2.2.2.1
      rw [slotsL_length] at this
      have := needN_pos (sizeOf12 ((slotsL D).getD L.used []))
      omega
    have := (h.old L.used hlt f.1).2 (Nat.le_refl _)
    rw [f.2.1] at this
    omega
theorem LH.openL {S : Sb} {D : Dk} {L : Lg} (h : LH S D L) : openL S D L.snap = L := by
  have hsl := h.slots
  have hn := h.none
  have hus := h.used
  have hfit := h.fit
  rw [hus] at hn
  have := scan_all (txs := L.txs) (slotsL_64 h.holds.up.ok h.holds.fits.two) (by rw [slotsL_length]; omega) h.secs (by rw [slotsL_length]; omega) hn
  rw [slotsL_length] at this
  rw [Go.Proofs.Ytmgagkpokmaefaa.openL, this]
  have hw := h.whole
  cases L
  simp only at hus hw ⊢
  rw [hus, hw]
/-! Bytes stay bytes. -/
theorem Bytes.pieceB {tx : List Int} (h : Bytes tx) (i : Nat) : Bytes (pieceB tx i) := fun x hx => by
  rcases List.mem_cons.1 hx with rfl | hx
  · exact ⟨Int.le_refl _, by decide⟩
  · exact (((h.drop _).take _).append (Bytes.rep _)) x hx
theorem Bytes.mkHead {turn : BitVec 64} {num : Int} {tx : List Int} : Bytes (mkHead turn num tx) :=
  (((((show Bytes [1] from fun x hx => by rw [List.mem_singleton] at hx; omega).append (Bytes.leB _ _)).append (Bytes.leB _ _)).append (Bytes.leB _ _)).append ((Bytes.sha _).take _)).append (Bytes.rep _)
theorem Bytes.mkB {turn : BitVec 64} {num : Int} {tx : List Int} : Bytes (mkB turn num tx) := Bytes.mkHead.append ((Bytes.sha _).take _)
theorem Byt.put {D : Dk} (h : Byt D) (i : Int) {b : Blk} (hb : Bytes b) : Byt (D.put i b).1 := by
  unfold Dk.put
  split
  · exact h.write _ hb
  · exact h
theorem Byt.putsW {D : Dk} (h : Byt D) (used : Nat) {tx : List Int} (ht : Bytes tx) : ∀ k, Byt (putsW used tx D k).1
  | 0 => h
  | k + 1 => by
    rw [Go.Proofs.Ytmgagkpokmaefaa.putsW]
    split
    · exact (Byt.putsW h used ht k).put _ (ht.pieceB k)
    · exact Byt.putsW h used ht k
theorem Byt.writeL {D : Dk} (h : Byt D) (L : Lg) (S : Sb) {tx : List Int} (ht : Bytes tx) : Byt (writeL L S D tx).1 := by
  have h1 := h.putsW L.used ht (pieceN tx.length)
  unfold Go.Proofs.Ytmgagkpokmaefaa.writeL
  dsimp only
  split
  · split
    · split
      · exact (h1.sync.put _ Bytes.mkB).sync
      · exact h1.sync.put _ Bytes.mkB
    · exact h1.sync
  · exact h1
/-! An append. -/
theorem roomB_iff {S : Sb} {D : Dk} {L : Lg} (h : LH S D L) (n : Nat) : roomB L D (n : Int) = true ↔ L.used + needN n ≤ D.slots := by
  have := h.fit
  rw [roomB, decide_eq_true_iff, Int.toNat_natCast]
  omega
theorem wrote_slots {L : Lg} {S : Sb} {D D' : Dk} {tx : List Int} (h : Wrote L S D tx D') (h2 : 2 ≤ D.safe.length) {i : Nat} (hi : i < D.slots) :
    (slotsL D').getD i [] = if i = L.used then mkB S.turn L.txs.length tx else if L.used + 1 ≤ i ∧ i < L.used + 1 + pieceN tx.length then pieceB tx (i - (L.used + 1)) else (slotsL D).getD i [] := by
  have hh := half_eq h.len
  have hb : D'.base = D.base := by unfold Dk.base; rw [hh]
  have hs : D'.slots = D.slots := by unfold Dk.slots; rw [hh, h.len]
  have hbs := base_slots D h2
  rw [slotsL_find (by rw [hs]; exact hi), slotsL_find hi, hb, h.find _ (by omega)]
  by_cases h1 : i = L.used
  · rw [if_pos (by omega), if_pos h1]
  · rw [if_neg (by omega), if_neg h1]
    by_cases h3 : L.used + 1 ≤ i ∧ i < L.used + 1 + pieceN tx.length
    · rw [if_pos (by omega), if_pos h3, show D.base + i - (D.base + L.used + 1) = i - (L.used + 1) by omega]
    · rw [if_neg (by omega), if_neg h3]
theorem LH.wrote {S : Sb} {D D' : Dk} {L : Lg} (h : LH S D L) {tx : List Int} (hs : Small tx) (hroom : L.used + needN tx.length ≤ D.slots) (hW : Wrote L S D tx D') (hB : Byt D') :
    LH S D' { L with txs := L.txs ++ [tx], used := L.used + needN tx.length } := by
  have h2 := h.holds.fits.two
  have hh := half_eq hW.len
  have hb : D'.base = D.base := by unfold Dk.base; rw [hh]
  have hsl : D'.slots = D.slots := by unfold Dk.slots; rw [hh, hW.len]
  have hbs := base_slots D h2
  have hg := fun (i : Nat) (hi : i < D.slots) => wrote_slots hW h2 hi
  have hfew := usedN_len L.txs
  have hus := h.used
  have h512 := h.slots
  have hk : needN tx.length = 1 + pieceN tx.length := rfl
  refine ⟨?_, hB, h.whole, by dsimp only; rw [usedN_snoc, hus], by dsimp only; omega, h.small, ?_, ?_, ?_⟩
  · exact holds_log h.holds hW.up hW.none hW.len fun j hj => by rw [hW.find j (by omega), if_neg (by omega), if_neg (by omega)]
  · intro t ht
    rcases List.mem_append.1 ht with ht | ht
    · exact h.smalls t ht
    · rw [List.mem_singleton] at ht; rw [ht]; exact hs
  · intro k t hkt
    dsimp only at hkt ⊢
    rcases Nat.lt_or_ge k L.txs.length with hk1 | hk1
    · rw [List.getElem?_append_left hk1] at hkt
      rw [List.take_append_of_le_length (by omega)]
      have hA := h.secs k t hkt
      have hle : usedN (L.txs.take k) + needN t.length ≤ L.used := by
        have e1 : L.txs.take (k + 1) = L.txs.take k ++ [t] := by rw [List.take_add_one, hkt]; rfl
        have e2 : usedN L.txs = usedN (L.txs.take (k + 1)) + usedN (L.txs.drop (k + 1)) := by
          rw [usedN, usedN, usedN, ← List.sum_append, ← List.map_append, List.take_append_drop]
        rw [hus, e2, e1, usedN_snoc]
        omega
      refine hA.congr (by rw [slotsL_length, slotsL_length, hsl]) fun i h1 h3 => ?_
      rw [hg i (by omega), if_neg (by omega), if_neg (by omega)]
    · have hk2 : k = L.txs.length := by
        rcases Nat.lt_or_ge k (L.txs ++ [tx]).length with h3 | h3
        · simp at h3; omega
        · rw [List.getElem?_eq_none h3] at hkt; cases hkt
      subst hk2
      rw [List.getElem?_append_right (Nat.le_refl _), Nat.sub_self] at hkt
      cases hkt
      rw [List.take_append_of_le_length (Nat.le_refl _), List.take_length, ← hus]
      refine ⟨by rw [slotsL_length, hsl]; exact hroom, ?_, fun i hi => ?_⟩
      · rw [hg _ (by omega), if_pos rfl]
      · rw [hg _ (by omega), if_neg (by omega), if_pos (by omega), show L.used + 1 + i - (L.used + 1) = i by omega]
  · intro i hi h1
    dsimp only
    rw [hsl] at hi
    rw [hg i hi] at h1 ⊢
    by_cases h3 : i = L.used
    · rw [if_pos h3] at h1 ⊢
      have hlt : tx.length < 4294967296 := by unfold needN at hroom; omega
      rw [(mkB_facts S.turn L.txs.length tx (by omega) hlt).2.1]
      exact ⟨Nat.le_refl _, fun h4 => by omega⟩
    · rw [if_neg h3] at h1 ⊢
      by_cases h4 : L.used + 1 ≤ i ∧ i < L.used + 1 + pieceN tx.length
      · rw [if_pos h4] at h1
        exact absurd h1 (by show ¬ ((0 : Int) = 1); decide)
      · rw [if_neg h4] at h1 ⊢
        obtain ⟨o1, o2⟩ := h.old i hi h1
        exact ⟨o1, fun h5 => o2 (by omega)⟩
theorem LH.append {S : Sb} {D : Dk} {L : Lg} (h : LH S D L) {tx : List Int} (hs : Small tx) (hroom : L.used + needN tx.length ≤ D.slots) :
    ∃ D', appL L S D tx = ({ L with txs := L.txs ++ [tx], used := L.used + needN tx.length }, D', 0) ∧ LH S D' { L with txs := L.txs ++ [tx], used := L.used + needN tx.length } ∧ D'.safe.length = D.safe.length := by
  obtain ⟨D', e, hW⟩ := writeL_up (S := S) (tx := tx) h.holds.up h.holds.fits.two hroom
  have hB := h.byt.writeL L S hs.bytes
  rw [e] at hB
  exact ⟨D', by rw [appL, if_neg (by rw [h.whole]; simp), if_pos ((roomB_iff h _).2 hroom), e, if_pos rfl], h.wrote hs hroom hW hB, hW.len⟩
end Go.Proofs.Ytmgagkpokmaefaa
namespace Go.Proofs.Ytmgagkpokmaefaa
open Go Go.SL
/-! Chapter 12's own helpers. -/
def lg0 : Lg := ⟨[], [], 0, false⟩
theorem formatted_find {D : Dk} (h : Up D) (h2 : 2 ≤ D.safe.length) {j : Int} (h0 : 0 ≤ j) (hj : j < D.safe.length) : D.formatted.find j = if 1 = j then zeroB else if 0 = j then sbBlock sb0 else D.find j := by
  have h1 := h.push (i := 0) (b := sbBlock sb0) (by omega) (sbBlock_length sb0_hash)
  have h3 := h1.push (i := 1) (b := zeroB) (by simp only [Dk.push, Dk.does]; omega) rfl
  unfold Dk.formatted
  rw [dk_find_settle h3.ok j ⟨h0, hj⟩, dk_find_push, dk_find_push]
theorem lh_format {n : Nat} (h1 : 64 ≤ n) (h2 : n ≤ 512) : LH sb0 (Dk.new n).formatted lg0 ∧ (Dk.new n).formatted.safe.length = n := by
  have hu0 : Up (Dk.new n) := new_up (by omega) h2
  have hl0 : (Dk.new n).safe.length = n := by simp [Dk.new]
  obtain ⟨_, hl1, _⟩ := formatted_up hu0 (by omega)
  have hl : (Dk.new n).formatted.safe.length = n := hl1.trans hl0
  refine ⟨⟨holds_format hu0 (by omega), (Byt.new n).formatted, rfl, rfl, Nat.zero_le _, ⟨Bytes.nil, by decide⟩, fun tx h => (by simp [lg0] at h), fun k tx h => (by simp [lg0] at h), fun i hi h => ?_⟩, hl⟩
  have hbs := base_slots (Dk.new n).formatted (by omega)
  rw [slotsL_find hi, formatted_find hu0 (by omega) (by omega) (by omega), if_neg (by unfold Dk.base; omega), if_neg (by unfold Dk.base; omega)] at h
  obtain ⟨q, hq⟩ : ∃ q, (Dk.new n).formatted.base + i = q := ⟨_, rfl⟩
  rw [hq] at h
  have hz : (Dk.new n).find (q : Int) = zeroB := by
    simp only [Dk.find, Dk.new, List.reverse_nil, List.find?_nil, Int.toNat_natCast]
    rw [List.getD_eq_getElem?_getD, List.getElem?_replicate, if_pos (by omega)]
    rfl
  rw [hz] at h
  exact absurd h (by decide)
attribute [local irreducible] J JL JE JM LS Y Fc RV Code.wp wpList Code.wpIn wpListIn
attribute [local irreducible] Yc
variable (E : World)
theorem lopen_lh (st d : Nat) (S : Sb) (D : Dk) (L : Lg) (l : List HProp) (h : LH S D L) :
    Fc prog E 13 [.pointer (some ⟨st, 0, none⟩)].toArray (row st 90 (scells S d) :: disk d D :: l)
      (fun v l' => ∃ lg, v = .tuple #[.pointer (some ⟨lg, 0, none⟩), .int .i64 0] ∧ l' = logm lg st L :: row st 90 (scells S d) :: disk d D :: l) := by
  have q := lopen_spec E st d S D L.snap l h.holds.fits h.holds.up.dead h.byt (by rw [h.holds.none]; decide) h.holds.snap h.holds.hash
  rwa [h.openL] at q
def storeN (n : Int) : Nat := 64 + (BitVec.ofInt 64 n).toNat % 24
theorem storeN_le (n : Int) : 64 ≤ storeN n ∧ storeN n ≤ 87 := by unfold storeN; omega
theorem store_spec (n : Int) (l : List HProp) :
    Fc prog E 12 [.int .i64 n].toArray l (fun v l' => ∃ d st, v = .tuple #[.pointer (some ⟨d, 0, none⟩), .pointer (some ⟨st, 0, none⟩)] ∧ l' = row st 90 (scells sb0 d) :: disk d (Dk.new (storeN n)).formatted :: l) := by
  have hN := storeN_le n
  obtain ⟨N, hNe⟩ : ∃ N, storeN n = N := ⟨_, rfl⟩
  rw [hNe] at hN ⊢
  have hfmt : ∀ d l, Fc prog E 42 [.pointer (some ⟨d, 0, none⟩)].toArray (disk d (Dk.new N) :: l) (fun v l' => ∃ st, v = .tuple #[.pointer (some ⟨st, 0, none⟩), .int .i64 0] ∧ l' = row st 90 (scells sb0 d) :: disk d (Dk.new N).formatted :: l) := fun d l => format_good E d (Dk.new N) l (by simp [Dk.new]; omega) rfl rfl (by simp [Dk.new])
  refine Fc.of_body (c := ?codeC) Try.func12 ?hb Try.ntmps12 ?hl ?_
  case hb => exact rfl
  case hl => exact rfl
  refine J.seq ?_
  refine J.region ?_
  refine JL.step (y_assign rfl) rfl rfl rfl (JL.step (y_assign rfl) rfl rfl rfl ?_)
  refine JL.nil ?_
  refine JE.then_normal ?_
  refine J.seq ?_
  refine J.region ?_
  refine JL.step (y_move rfl) rfl rfl rfl ?_
  refine JL.step (y_convToQ hT rfl rfl rfl rfl) rfl rfl rfl ?_
  refine JL.step (y_rem (m := (((BitVec.ofInt 64 n).toNat % 24 : Nat) : Int)) rfl rfl (by decide) (by rw [Int.tmod_eq_emod_of_nonneg (by omega)]; omega)) rfl rfl rfl ?_
  refine JL.step (y_conv (m := (((BitVec.ofInt 64 n).toNat % 24 : Nat) : Int)) hT rfl rfl rfl rfl (wrap_i64 (by omega) (by omega))) rfl rfl rfl ?_
  refine JL.step (y_add (m := (N : Int)) rfl rfl (by rw [← hNe, storeN, show (64 : Int) + (((BitVec.ofInt 64 n).toNat % 24 : Nat) : Int) = ((64 + (BitVec.ofInt 64 n).toNat % 24 : Nat) : Int) by omega]; exact wrap_i64 (by omega) (by omega))) rfl rfl rfl ?_
  refine JL.loud rfl (l_callF e41 rfl rfl (new_good E N _ (by omega) (by omega)) ?_)
  rintro _ _ ⟨d, rfl, rfl⟩
  refine JL.step (y_move rfl) rfl rfl rfl (JL.step (y_extract rfl rfl) rfl rfl rfl (JL.step (y_extract rfl rfl) rfl rfl rfl (JL.step (y_assign rfl) rfl rfl rfl (JL.step (y_assign rfl) rfl rfl rfl ?_))))
  refine JL.nil ?_
  refine JE.then_normal ?_
  refine J.seq ?_
  refine J.seq ?_
  refine J.region ?_
  refine JL.step (y_move rfl) rfl rfl rfl (JL.step (y_neq rfl rfl) rfl rfl rfl ?_)
  refine JL.nil ?_
  refine JE.then_normal ?_
  refine J.cond_f rfl (by (first | rfl | assumption | (simp; done) | (simp; omega))) ?_
  refine J.skip ?_
  refine JE.then_normal ?_
  refine J.seq ?_
  refine J.region ?_
  refine JL.step (y_move rfl) rfl rfl rfl ?_
  refine JL.loud rfl (l_callF e42 rfl rfl (Fc.on (Split.cons (by (repeat (first | exact Pick.head | apply Pick.tail | apply Pick.app))) Split.nil) (hfmt d _)) ?_)
  rintro _ _ ⟨st, rfl, rfl⟩
  refine JL.step (y_move rfl) rfl rfl rfl (JL.step (y_extract rfl rfl) rfl rfl rfl (JL.step (y_extract rfl rfl) rfl rfl rfl (JL.step (y_assign rfl) rfl rfl rfl (JL.step (y_assign rfl) rfl rfl rfl ?_))))
  refine JL.nil ?_
  refine JE.then_normal ?_
  refine J.seq ?_
  refine J.seq ?_
  refine J.region ?_
  refine JL.step (y_move rfl) rfl rfl rfl (JL.step (y_neq rfl rfl) rfl rfl rfl ?_)
  refine JL.nil ?_
  refine JE.then_normal ?_
  refine J.cond_f rfl (by (first | rfl | assumption | (simp; done) | (simp; omega))) ?_
  refine J.skip ?_
  refine JE.then_normal ?_
  refine J.seq ?_
  refine J.region ?_
  refine JL.step (y_move rfl) rfl rfl rfl (JL.step (y_move rfl) rfl rfl rfl (JL.step (y_assign rfl) rfl rfl rfl (JL.step (y_assign rfl) rfl rfl rfl ?_)))
  refine JL.nil ?_
  refine JE.then_normal ?_
  refine J.ret ?_
  refine JE.ret2 (.inl rfl) rfl rfl (by (first | exact RV.tmp rfl | exact RV.cell1 hT rfl rfl rfl (by (exact Rd1.row (by (repeat (first | exact Pick.head | apply Pick.tail | apply Pick.app))) (by rfl))) | exact RV.cellN hT rfl rfl rfl (by (first | exact RdN.rowAll (by (repeat (first | exact Pick.head | apply Pick.tail | apply Pick.app))) | exact RdN.own (by (repeat (first | exact Pick.head | apply Pick.tail | apply Pick.app))))) (by (first | rfl | assumption | (simp; done) | omega)))) (by (first | exact RV.tmp rfl | exact RV.cell1 hT rfl rfl rfl (by (exact Rd1.row (by (repeat (first | exact Pick.head | apply Pick.tail | apply Pick.app))) (by rfl))) | exact RV.cellN hT rfl rfl rfl (by (first | exact RdN.rowAll (by (repeat (first | exact Pick.head | apply Pick.tail | apply Pick.app))) | exact RdN.own (by (repeat (first | exact Pick.head | apply Pick.tail | apply Pick.app))))) (by (first | rfl | assumption | (simp; done) | omega)))) ?_
  exact ⟨d, st, rfl, rfl⟩
theorem wakes12_spec (l : List HProp) : Fc prog E 11 [].toArray l (fun v l' => v = .bool true ∧ l' = l) := by
  refine Fc.eqs ?_
  obtain ⟨hL0, hl0⟩ := lh_format (n := storeN 0) (storeN_le 0).1 (by have := (storeN_le 0).2; omega)
  obtain ⟨D0, hD0⟩ : ∃ D0, (Dk.new (storeN 0)).formatted = D0 := ⟨_, rfl⟩
  rw [hD0] at hL0 hl0
  have hsl : 32 ≤ D0.slots := by
    have : storeN 0 = 64 := rfl
    unfold Dk.slots Dk.half
    omega
  have hx : Small [120] := ⟨fun x h => by rw [List.mem_singleton] at h; omega, by decide⟩
  obtain ⟨D1, eA, hL1, hl1⟩ := hL0.append hx (by show 0 + needN 1 ≤ _; have : needN 1 = 2 := rfl; omega)
  have capp : ∀ lg st d q c l, InL l q 1 c (ints .u8 [120]) → Fc prog E 19 [.pointer (some ⟨lg, 0, none⟩), .slice q 1 c].toArray (logm lg st lg0 :: row st 90 (scells sb0 d) :: disk d D0 :: l) (fun v l' => v = .int .i64 0 ∧ l' = logm lg st ⟨[], [[120]], 2, false⟩ :: row st 90 (scells sb0 d) :: disk d D1 :: l) := fun lg st d q c l hi => by
    have z := lappend_spec E lg st d lg0 sb0 D0 l sb0_hash hL0.holds.fits.two [120] q c 1 rfl hx (by rw [hL0.holds.none]; decide) (by decide) hi
    rw [eA] at z
    exact z
  refine Fc.of_body (c := ?codeC) Try.func11 ?hb Try.ntmps11 ?hl ?_
  case hb => exact rfl
  case hl => exact rfl
  refine J.seq ?_
  refine J.region ?_
  refine JL.step (y_assign rfl) rfl rfl rfl ?_
  refine JL.nil ?_
  refine JE.then_normal ?_
  refine J.seq ?_
  refine J.region ?_
  refine JL.loud rfl (l_callF e12 rfl rfl (store_spec E 0 _) ?_)
  rintro _ _ ⟨d, st, rfl, rfl⟩
  refine JL.step (y_move rfl) rfl rfl rfl (JL.step (y_extract rfl rfl) rfl rfl rfl (JL.step (y_extract rfl rfl) rfl rfl rfl (JL.step (y_assign rfl) rfl rfl rfl (JL.step (y_assign rfl) rfl rfl rfl ?_))))
  refine JL.nil ?_
  refine JE.then_normal ?_
  refine J.seq ?_
  refine J.seq ?_
  refine J.region ?_
  rw [hD0]
  refine JL.step (y_move rfl) rfl rfl rfl (JL.step (y_ptr_eq_nil hT rfl rfl rfl rfl) rfl rfl rfl ?_)
  refine JL.nil ?_
  refine JE.then_normal ?_
  refine J.cond_f rfl (by (first | rfl | assumption | (simp; done) | (simp; omega))) ?_
  refine J.skip ?_
  refine JE.then_normal ?_
  refine J.seq ?_
  refine J.region ?_
  refine JL.step (y_move rfl) rfl rfl rfl ?_
  refine JL.loud rfl (l_callF e13 rfl rfl (Fc.on (Split.cons (by (repeat (first | exact Pick.head | apply Pick.tail | apply Pick.app))) (Split.cons (by (repeat (first | exact Pick.head | apply Pick.tail | apply Pick.app))) Split.nil)) (lopen_lh E st d sb0 D0 lg0 _ hL0)) ?_)
  rintro _ _ ⟨lg, rfl, rfl⟩
  refine JL.step (y_move rfl) rfl rfl rfl (JL.step (y_extract rfl rfl) rfl rfl rfl (JL.step (y_extract rfl rfl) rfl rfl rfl (JL.step (y_assign rfl) rfl rfl rfl (JL.step (y_assign rfl) rfl rfl rfl ?_))))
  refine JL.nil ?_
  refine JE.then_normal ?_
  refine J.seq ?_
  refine J.seq ?_
  refine J.region ?_
  refine JL.step (y_move rfl) rfl rfl rfl (JL.step (y_neq rfl rfl) rfl rfl rfl (JL.step (y_move rfl) rfl rfl rfl ?_))
  all_goals (first | (refine JL.gsplit_dec rfl rfl rfl (fun h => ?_) (fun h => ?_) <;> try (first | (exfalso; omega) | exact absurd rfl h)) | (refine JL.gsplit rfl rfl rfl (fun h => ?_) (fun h => ?_) <;> try (first | cases h | (exfalso; simp at h; done))) | skip)
  all_goals (first | refine JL.gskip rfl rfl rfl rfl rfl rfl ?_ | refine JL.gskipU rfl rfl rfl rfl rfl ?_ | refine JL.gstep rfl rfl rfl (y_move rfl) rfl rfl ?_)
  all_goals (first | refine JL.gskip rfl rfl rfl rfl rfl rfl ?_ | refine JL.gskipU rfl rfl rfl rfl rfl ?_ | refine JL.gstep rfl rfl rfl (y_ptr_eq_nil hT rfl rfl rfl rfl) rfl rfl ?_)
  all_goals (refine JL.step (y_pick rfl rfl rfl) rfl rfl rfl ?_)
  all_goals (refine JL.step (y_move rfl) rfl rfl rfl ?_)
  all_goals (first | (refine JL.gsplit_dec rfl rfl rfl (fun h => ?_) (fun h => ?_) <;> try (first | (exfalso; omega) | exact absurd rfl h)) | (refine JL.gsplit rfl rfl rfl (fun h => ?_) (fun h => ?_) <;> try (first | cases h | (exfalso; simp at h; done))) | skip)
  all_goals (first | refine JL.gskip rfl rfl rfl rfl rfl rfl ?_ | refine JL.gskipU rfl rfl rfl rfl rfl ?_ | refine JL.gstep rfl rfl rfl (y_move rfl) rfl rfl ?_)
  all_goals (first | refine JL.gskip rfl rfl rfl rfl rfl rfl ?_ | refine JL.gskipU rfl rfl rfl rfl rfl ?_ | (refine JL.gloud rfl rfl rfl (l_buildSliceP hT rfl rfl rfl rfl rfl rfl rfl (by (first | exact fill_one rfl (by first | assumption | rfl | (simp; done)) | rfl | simp)) rfl (fun b3 => ?_))))
  all_goals (first | refine JL.gskip rfl rfl rfl rfl rfl rfl ?_ | refine JL.gskipU rfl rfl rfl rfl rfl ?_ | (refine JL.gloud rfl rfl rfl (l_convBytes hT rfl rfl rfl rfl rfl (by (repeat (first | exact Pick.head | apply Pick.tail | apply Pick.app))) rfl ?_)))
  all_goals (first | refine JL.gskip rfl rfl rfl rfl rfl rfl ?_ | refine JL.gskipU rfl rfl rfl rfl rfl ?_ | (refine JL.gloud rfl rfl rfl (l_callF e19 rfl rfl (Fc.on (Split.cons (by (repeat (first | exact Pick.head | apply Pick.tail | apply Pick.app))) (Split.cons (by (repeat (first | exact Pick.head | apply Pick.tail | apply Pick.app))) (Split.cons (by (repeat (first | exact Pick.head | apply Pick.tail | apply Pick.app))) Split.nil))) (capp lg st d _ _ _ (InL.ofMrow (by (repeat (first | exact Pick.head | apply Pick.tail | apply Pick.app))) (by decide)))) ?_); rintro _ _ ⟨rfl, rfl⟩))
  all_goals (first | refine JL.gskip rfl rfl rfl rfl rfl rfl ?_ | refine JL.gskipU rfl rfl rfl rfl rfl ?_ | refine JL.gstep rfl rfl rfl (y_neq rfl rfl) rfl rfl ?_)
  all_goals (refine JL.step (y_pick rfl rfl rfl) rfl rfl rfl ?_)
  all_goals refine JL.nil ?_
  all_goals refine JE.then_normal ?_
  all_goals
    refine J.cond_f rfl (by (first | rfl | assumption | (simp; done) | (simp; omega))) ?_
    refine J.skip ?_
  all_goals refine JE.then_normal ?_
  all_goals
    refine J.seq ?_
    refine J.region ?_
    refine JL.step (y_move rfl) rfl rfl rfl ?_
    refine JL.loud rfl (l_callF e13 rfl rfl (Fc.on (Split.cons (by (repeat (first | exact Pick.head | apply Pick.tail | apply Pick.app))) (Split.cons (by (repeat (first | exact Pick.head | apply Pick.tail | apply Pick.app))) Split.nil)) (lopen_lh E st d sb0 D1 ⟨[], [[120]], 2, false⟩ _ hL1)) ?_)
    rintro _ _ ⟨lg2, rfl, rfl⟩
    refine JL.step (y_move rfl) rfl rfl rfl (JL.step (y_extract rfl rfl) rfl rfl rfl (JL.step (y_extract rfl rfl) rfl rfl rfl (JL.step (y_assign rfl) rfl rfl rfl (JL.step (y_assign rfl) rfl rfl rfl ?_))))
    refine JL.nil ?_
    refine JE.then_normal ?_
    refine J.seq ?_
    refine J.region ?_
    refine JL.step (y_move rfl) rfl rfl rfl (JL.step (y_eql rfl rfl) rfl rfl rfl (JL.step (y_move rfl) rfl rfl rfl ?_))
    all_goals (first | (refine JL.gsplit_dec rfl rfl rfl (fun h => ?_) (fun h => ?_) <;> try (first | (exfalso; omega) | exact absurd rfl h)) | (refine JL.gsplit rfl rfl rfl (fun h => ?_) (fun h => ?_) <;> try (first | cases h | (exfalso; simp at h; done))) | skip)
    all_goals (first | refine JL.gskip rfl rfl rfl rfl rfl rfl ?_ | refine JL.gskipU rfl rfl rfl rfl rfl ?_ | refine JL.gstep rfl rfl rfl (y_move rfl) rfl rfl ?_)
    all_goals (first | refine JL.gskip rfl rfl rfl rfl rfl rfl ?_ | refine JL.gskipU rfl rfl rfl rfl rfl ?_ | refine JL.gstep rfl rfl rfl (y_ptr_ne_nil hT rfl rfl rfl rfl) rfl rfl ?_)
    all_goals (refine JL.step (y_pick rfl rfl rfl) rfl rfl rfl ?_)
    all_goals (refine JL.step (y_move rfl) rfl rfl rfl ?_)
    all_goals (first | (refine JL.gsplit_dec rfl rfl rfl (fun h => ?_) (fun h => ?_) <;> try (first | (exfalso; omega) | exact absurd rfl h)) | (refine JL.gsplit rfl rfl rfl (fun h => ?_) (fun h => ?_) <;> try (first | cases h | (exfalso; simp at h; done))) | skip)
    all_goals (first | refine JL.gskip rfl rfl rfl rfl rfl rfl ?_ | refine JL.gskipU rfl rfl rfl rfl rfl ?_ | refine JL.gstep rfl rfl rfl (y_move rfl) rfl rfl ?_)
    all_goals (first | refine JL.gskip rfl rfl rfl rfl rfl rfl ?_ | refine JL.gskipU rfl rfl rfl rfl rfl ?_ | (refine JL.gloud rfl rfl rfl (l_callF e24 rfl rfl (Fc.on (Split.cons (by (repeat (first | exact Pick.head | apply Pick.tail | apply Pick.app))) Split.nil) (ltxs_spec E lg2 st ⟨[], [[120]], 2, false⟩ _)) ?_); rintro _ _ ⟨ta, tc, tvals, rfl, htv, rfl⟩))
    all_goals (first | refine JL.gskip rfl rfl rfl rfl rfl rfl ?_ | refine JL.gskipU rfl rfl rfl rfl rfl ?_ | refine JL.gstep rfl rfl rfl (y_len_slice hT rfl rfl rfl) rfl rfl ?_)
    all_goals (first | refine JL.gskip rfl rfl rfl rfl rfl rfl ?_ | refine JL.gskipU rfl rfl rfl rfl rfl ?_ | refine JL.gstep rfl rfl rfl (y_eql rfl rfl) rfl rfl ?_)
    all_goals (refine JL.step (y_pick rfl rfl rfl) rfl rfl rfl ?_)
    all_goals (refine JL.step (y_move rfl) rfl rfl rfl ?_)
    all_goals (first | (refine JL.gsplit_dec rfl rfl rfl (fun h => ?_) (fun h => ?_) <;> try (first | (exfalso; omega) | exact absurd rfl h)) | (refine JL.gsplit rfl rfl rfl (fun h => ?_) (fun h => ?_) <;> try (first | cases h | (exfalso; simp at h; done))) | skip)
    all_goals (first | refine JL.gskip rfl rfl rfl rfl rfl rfl ?_ | refine JL.gskipU rfl rfl rfl rfl rfl ?_ | refine JL.gstep rfl rfl rfl (y_move rfl) rfl rfl ?_)
    all_goals (first | refine JL.gskip rfl rfl rfl rfl rfl rfl ?_ | refine JL.gskipU rfl rfl rfl rfl rfl ?_ | (refine JL.gloud rfl rfl rfl (l_callF e23 rfl rfl (Fc.on (Split.cons (by (repeat (first | exact Pick.head | apply Pick.tail | apply Pick.app))) Split.nil) (lused_spec E lg2 st ⟨[], [[120]], 2, false⟩ _)) ?_); rintro _ _ ⟨rfl, rfl⟩))
    all_goals (first | refine JL.gskip rfl rfl rfl rfl rfl rfl ?_ | refine JL.gskipU rfl rfl rfl rfl rfl ?_ | refine JL.gstep rfl rfl rfl (y_eql rfl rfl) rfl rfl ?_)
    all_goals (refine JL.step (y_pick rfl rfl rfl) rfl rfl rfl ?_)
    all_goals (refine JL.step (y_move rfl) rfl rfl rfl ?_)
    all_goals (first | (refine JL.gsplit_dec rfl rfl rfl (fun h => ?_) (fun h => ?_) <;> try (first | (exfalso; omega) | exact absurd rfl h)) | (refine JL.gsplit rfl rfl rfl (fun h => ?_) (fun h => ?_) <;> try (first | cases h | (exfalso; simp at h; done))) | skip)
    all_goals (first | refine JL.gskip rfl rfl rfl rfl rfl rfl ?_ | refine JL.gskipU rfl rfl rfl rfl rfl ?_ | (refine JL.gloud rfl rfl rfl (l_callF e14 rfl rfl (need_spec E 64 (by decide) _) ?_); rintro _ _ ⟨rfl, rfl⟩))
    all_goals (first | refine JL.gskip rfl rfl rfl rfl rfl rfl ?_ | refine JL.gskipU rfl rfl rfl rfl rfl ?_ | refine JL.gstep rfl rfl rfl (y_eql rfl rfl) rfl rfl ?_)
    all_goals (refine JL.step (y_pick rfl rfl rfl) rfl rfl rfl ?_)
    all_goals (refine JL.step (y_assign rfl) rfl rfl rfl ?_)
    all_goals refine JL.nil ?_
    all_goals refine JE.then_normal ?_
    all_goals
      refine J.ret ?_
      refine JE.ret1 (.inl rfl) rfl rfl (by (first | exact RV.tmp rfl | exact RV.cell1 hT rfl rfl rfl (by (exact Rd1.row (by (repeat (first | exact Pick.head | apply Pick.tail | apply Pick.app))) (by rfl))) | exact RV.cellN hT rfl rfl rfl (by (first | exact RdN.rowAll (by (repeat (first | exact Pick.head | apply Pick.tail | apply Pick.app))) | exact RdN.own (by (repeat (first | exact Pick.head | apply Pick.tail | apply Pick.app))))) (by (first | rfl | assumption | (simp; done) | omega)))) ?_
      exact ⟨rfl, fun w q => q.sup (by (repeat (first | exact Sup.refl | apply Sup.cons (by (repeat (first | exact Pick.head | apply Pick.tail | apply Pick.app))) | apply Sup.app | apply Sup.skip | apply Sup.skips)))⟩
end Go.Proofs.Ytmgagkpokmaefaa
namespace Go.Proofs.Ytmgagkpokmaefaa
open Go Go.SL
/-! A checkpoint of a log that a disk holds. -/
theorem taken_slots {S : Sb} {D D' : Dk} {bs : List Int} (hT : Taken S D bs D') (h2 : 2 ≤ D.safe.length) (hp : S.place = 0 ∨ S.place = 1) (hl : bs.length ≤ 64 * D.half) {i : Nat} (hi : i < D.slots) : (slotsL D').getD i [] = (slotsL D).getD i [] := by
  have hh := half_eq hT.len
  have hb : D'.base = D.base := by unfold Dk.base; rw [hh]
  have hs : D'.slots = D.slots := by unfold Dk.slots; rw [hh, hT.len]
  have hbs := base_slots D h2
  have h5 : (nextS S bs).place * (D.half : Int) ≤ D.half := by
    have e1 : (nextS S bs).place = 1 - S.place := rfl
    rw [e1]
    rcases hp with e | e <;> rw [e]
    · rw [show (1 - 0 : Int) = 1 by rfl, Int.one_mul]; omega
    · rw [show (1 - 1 : Int) = 0 by rfl, Int.zero_mul]; omega
  rw [slotsL_find (by rw [hs]; exact hi), slotsL_find hi, hb, hT.find _ (by omega) (by omega), if_neg (by unfold Dk.base; omega), if_neg (by unfold Dk.base; omega)]
theorem LH.check {S : Sb} {D : Dk} {L : Lg} (h : LH S D L) {state : List Int} (hs : Small state) (hl : state.length ≤ 64 * D.half) (ht : S.turn.toNat + 1 < 18446744073709551616) :
    ∃ D', ckL L S D state = (⟨state, [], 0, false⟩, nextS S state, D', 0) ∧ LH (nextS S state) D' ⟨state, [], 0, false⟩ ∧ D'.safe.length = D.safe.length := by
  have h2 := h.holds.fits.two
  have hp := h.holds.fits.place
  obtain ⟨D', e, hT⟩ := takeS_up h.holds.up h2 hp hl
  have hB := h.byt.takeS S hs.bytes
  rw [e] at hB
  have hsl : D'.slots = D.slots := by unfold Dk.slots Dk.half; rw [hT.len]
  have htn := next_turn (bs := state) ht
  have hw := h.whole
  refine ⟨D', ?_, ⟨holds_taken h.holds hl ht hT, hB, rfl, rfl, Nat.zero_le _, hs, fun tx h => (by simp at h), fun k tx h => (by simp at h), fun i hi h1 => ?_⟩, hT.len⟩
  · unfold ckL
    rw [if_neg (by rw [hw]; simp), e, if_pos rfl]
    cases L
    simp only at hw
    rw [hw]
  · rw [hsl] at hi
    rw [taken_slots hT h2 hp hl hi] at h1 ⊢
    have := (h.old i hi h1).1
    rw [htn]
    exact ⟨by omega, fun _ => by omega⟩
theorem ckL_long {S : Sb} {D : Dk} {L : Lg} (h : LH S D L) {state : List Int} (hl : 64 * D.half < state.length) : ckL L S D state = (L, S, D, 3) := by
  have e : takeS S D state = (S, D, 3) := by unfold takeS; rw [if_pos hl]
  unfold ckL
  rw [if_neg (by rw [h.whole]; simp), e, if_neg (show ¬ (3 : Int) = 0 by decide), if_pos rfl]
theorem appL_full {S : Sb} {D : Dk} {L : Lg} (h : LH S D L) {tx : List Int} (hl : ¬ L.used + needN tx.length ≤ D.slots) : appL L S D tx = (L, D, 6) := by
  rw [appL, if_neg (by rw [h.whole]; simp), if_neg (fun e => hl ((roomB_iff h _).1 e))]
/-- Empty transactions. -/
def lgE (i : Nat) : Lg := ⟨[], List.replicate i [], i, false⟩
theorem lgE_next (i : Nat) : ({ lgE i with txs := (lgE i).txs ++ [[]], used := (lgE i).used + needN 0 } : Lg) = lgE (i + 1) := by
  unfold lgE
  rw [List.replicate_succ']
  rfl
theorem small_nil : Small [] := ⟨Bytes.nil, by decide⟩
theorem LH.empty {D : Dk} {i : Nat} (h : LH sb0 D (lgE i)) (hi : i < D.slots) : ∃ D', appL (lgE i) sb0 D [] = (lgE (i + 1), D', 0) ∧ LH sb0 D' (lgE (i + 1)) ∧ D'.safe.length = D.safe.length := by
  obtain ⟨D', e, hL, hl⟩ := h.append small_nil (by show i + needN 0 ≤ _; have : needN 0 = 1 := rfl; omega)
  have e2 : ({ lgE i with txs := (lgE i).txs ++ [[]], used := (lgE i).used + needN ([] : List Int).length } : Lg) = lgE (i + 1) := lgE_next i
  rw [e2] at e hL
  exact ⟨D', e, hL, hl⟩
end Go.Proofs.Ytmgagkpokmaefaa
namespace Go.Proofs.Ytmgagkpokmaefaa
open Go Go.SL
/-! The document's sectors of a transaction. -/
theorem piece_cut (X : List Int) : List.take (0 + 1 * 1) (List.replicate 64 (Value.int .u8 0)) ++ List.take (min X.length 63) (ints .u8 X) ++ List.drop (0 + 1 * 1 + min X.length 63) (List.replicate 64 (Value.int .u8 0)) = encB (0 :: (X.take 63 ++ List.replicate (63 - (X.take 63).length) 0)) := by
  have h := piece_cells (X.take 63) (by rw [List.length_take]; omega)
  rw [← h, show (X.take 63).length = min X.length 63 by rw [List.length_take]; omega]
  have e : List.take (min X.length 63) (ints .u8 (X.take 63)) = List.take (min X.length 63) (ints .u8 X) := by
    simp only [ints, List.map_take, List.take_take]
    congr 1
    omega
  rw [e]
def secsK (turn : BitVec 64) (num : Nat) (tx : List Int) (k : Nat) : List Blk := mkB turn num tx :: piecesB tx k
theorem secsK_enc (turn : BitVec 64) (num : Nat) (tx : List Int) (k : Nat) : (secsK turn num tx (k + 1)).flatMap encB = (secsK turn num tx k).flatMap encB ++ encB (pieceB tx k) := by
  simp [secsK, piecesB_next]
theorem secs_K (turn : BitVec 64) (num : Nat) (tx : List Int) : secs turn num tx = secsK turn num tx (pieceN tx.length) := rfl
attribute [local irreducible] J JL JE JM LS Y Fc RV Code.wp wpList Code.wpIn wpListIn
attribute [local irreducible] Yc
variable (E : World)
theorem rsectors_spec (turn : BitVec 64) (num : Nat) (p : Option Addr) (cap n : Nat) (tx : List Int) (l : List HProp) (hn : tx.length = n) (hb : n ≤ 1073741824) (hin : InL l p n cap (ints .u8 tx)) :
    Fc prog E 20 [Q turn, .int .i64 (num : Int), .slice p n cap].toArray l (fun v l' => ∃ a c, v = .slice a (needN n) c ∧ l' = own 42 64 v (needN n) ((secs turn num tx).flatMap encB) :: l) := by
  refine Fc.post ?_
  have hmb : (encB (mkB turn num tx)).length = 64 := (encB_length _).trans (mkB_length _ _ _)
  refine Fc.of_body (c := ?codeC) Try.func20 ?hb Try.ntmps20 ?hl ?_
  case hb => exact rfl
  case hl => exact rfl
  refine J.seq ?_
  refine J.region ?_
  refine JL.step (y_assign rfl) rfl rfl rfl ?_
  refine JL.nil ?_
  refine JE.then_normal ?_
  refine J.seq ?_
  refine J.region ?_
  refine JL.step (y_move rfl) rfl rfl rfl (JL.step (y_move rfl) rfl rfl rfl (JL.step (y_move rfl) rfl rfl rfl ?_))
  refine JL.loud rfl (l_callF e49 rfl rfl (rmark_spec E turn (num : Int) p cap n tx _ hn hb (by (repeat (first | assumption | apply InL.cons | apply InL.app)))) ?_)
  rintro _ l1 ⟨rfl, e1⟩
  obtain rfl := e1.symm
  refine JL.loud rfl (l_buildSliceP hT rfl rfl rfl rfl rfl rfl rfl (by (first | exact fill_one rfl (by first | assumption | rfl | (simp; done)) | rfl | simp)) rfl (fun bm => ?_))
  refine JL.step (y_assign rfl) rfl rfl rfl ?_
  refine JL.nil ?_
  refine JE.then_normal ?_
  refine J.seq ?_
  refine J.seq ?_
  refine J.region ?_
  refine JL.step (y_assign rfl) rfl rfl rfl ?_
  refine JL.nil ?_
  refine JE.then_normal ?_
  refine J.block ?_
  refine J.pre (fun w q => q.ownAll (m := 1) (size := 64) (by decide) (by rw [hmb])) ?_
  refine J.loop (α := Nat × Option Addr × Nat) (fun s => s.1 ≤ pieceN n) (fun s => [(0, Q turn), (1, .int .i64 (num : Int)), (2, .slice p n cap), (7, .slice s.2.1 (s.1 + 1) s.2.2), (8, .int .i64 (63 * (s.1 : Int)))]) (fun s => own 42 64 (.slice s.2.1 (s.1 + 1) s.2.2) (s.1 + 1) ((secsK turn num tx s.1).flatMap encB) :: l) (fun s => pieceN n - s.1) (0, some ⟨bm, 0, none⟩, 1) (Nat.zero_le _) ⟨rfl, rfl, rfl, rfl, rfl, trivial⟩ (fun w h => ?_) ?_
  · have e : (secsK turn num tx 0).flatMap encB = encB (mkB turn num tx) := by simp [secsK, piecesB]
    rw [e]
    exact h.sup (by (repeat (first | exact Sup.refl | apply Sup.cons (by (repeat (first | exact Pick.head | apply Pick.tail | apply Pick.app))) | apply Sup.app | apply Sup.skip | apply Sup.skips)))
  rintro ⟨k, a, c⟩ hk
  dsimp only at hk ⊢
  refine J.seq ?_
  refine J.seq ?_
  refine J.region ?_
  refine JL.step (y_move rfl) rfl rfl rfl (JL.step (y_move rfl) rfl rfl rfl (JL.step (y_len_slice hT rfl rfl rfl) rfl rfl rfl (JL.step (y_lss rfl rfl) rfl rfl rfl ?_)))
  refine JL.nil ?_
  refine JE.then_normal ?_
  first | apply J.cond_dec rfl | apply J.cond rfl
  case' ht =>
    intro h
    try (first | (exfalso; omega) | (cases h; done) | (exfalso; simp at h; done) | subst h)
    all_goals
      refine J.skip ?_
  case' hf =>
    intro h
    try (first | (exfalso; omega) | (cases h; done) | (exfalso; simp at h; done) | subst h)
    all_goals
      refine J.exit ?_
      refine JE.then_exit ?_
      refine JE.then_exit ?_
      refine JE.block_exit ?_
      refine JE.then_normal ?_
      refine J.seq ?_
      refine J.region ?_
      refine JL.step (y_move rfl) rfl rfl rfl (JL.step (y_assign rfl) rfl rfl rfl ?_)
      refine JL.nil ?_
      refine JE.then_normal ?_
      refine J.ret ?_
      refine JE.ret1 (.inl rfl) rfl rfl (by (first | exact RV.tmp rfl | exact RV.cell1 hT rfl rfl rfl (by (exact Rd1.row (by (repeat (first | exact Pick.head | apply Pick.tail | apply Pick.app))) (by rfl))) | exact RV.cellN hT rfl rfl rfl (by (first | exact RdN.rowAll (by (repeat (first | exact Pick.head | apply Pick.tail | apply Pick.app))) | exact RdN.own (by (repeat (first | exact Pick.head | apply Pick.tail | apply Pick.app))))) (by (first | rfl | assumption | (simp; done) | omega)))) ?_
      obtain rfl : k = pieceN n := by unfold pieceN at hk ⊢; omega
      refine ⟨_, fun w q => q, a, c, ?_, ?_⟩
      · rw [show needN n = pieceN n + 1 by unfold needN pieceN; omega]
      · rw [show needN n = pieceN n + 1 by unfold needN pieceN; omega, secs_K, hn]
  all_goals refine JE.then_normal ?_
  all_goals
    refine J.seq ?_
    refine J.block ?_
    refine J.seq ?_
    refine J.region ?_
    have hlt : 63 * k < n := by omega
    obtain ⟨b9, off9, hb9, hin9⟩ := InL.part (lo := 63 * k) (hi := n) (k := 1) hin (by omega) (Nat.le_refl _) (by simp [ints, hn])
    have e9 : ((ints .u8 tx).drop (63 * k * 1)).take ((n - 63 * k) * 1) = ints .u8 (tx.drop (63 * k)) := by
      rw [Nat.mul_one, Nat.mul_one, List.take_of_length_le (by simp [ints, hn])]
      simp [ints]
    rw [e9] at hin9
    have hcap := hin.le
    obtain ⟨rfl⟩ : p = some ⟨b9, off9, none⟩ := hb9.resolve_right (by omega)
    refine JL.loud rfl (l_alloc hT rfl rfl (by (first | rfl | simp)) rfl (fun bb => ?_))
    refine JL.nil ?_
    refine JE.then_normal ?_
    refine J.seq ?_
    refine J.draw _ _ [(0, .q), (1, .q), (2, .q), (3, .q), (4, .l)] mixed (by kernel_rfl) (Split.cons (Pick.head) (Split.nil)) ?_
    refine JM.quiet rfl rfl rfl rfl (fun m => y_slice_arr (lo := 1) (hi := 64) hT rfl rfl rfl rfl (.inr ⟨_, _, _, rfl, rfl, rfl⟩) (.inl ⟨rfl, rfl⟩) (by decide) (by decide)) ?_
    refine JM.quiet rfl rfl rfl rfl (fun m => y_move rfl) ?_
    refine JM.quiet rfl rfl rfl rfl (fun m => y_move rfl) ?_
    refine JM.quiet rfl rfl rfl rfl (fun m => y_slice (b := b9) (off := off9) (lo := 63 * k) (hi := n) hT rfl rfl rfl rfl (.inr ⟨_, _, _, rfl, rfl, by omega⟩) (.inl ⟨rfl, rfl⟩) (by omega) (by omega) hcap (.inl rfl)) ?_
    refine JM.loud rfl rfl (fun fr => l_copy hT rfl rfl rfl rfl rfl rfl (by (repeat (first | exact Pick.head | apply Pick.tail | apply Pick.app))) (by (repeat (first | assumption | apply InL.cons | apply InL.app))) (by simp [ints, hn]) (by decide) (ints_one _ _) rfl ⟨[_], (by (repeat (first | exact Split.nil | exact Split.all | refine Split.cons Pick.head ?_))), ?_⟩)
    refine JM.nil ?_
    refine JE.then_normal ?_
    refine J.picks (A := row bb 42 _) (by (repeat (first | exact Pick.head | apply Pick.tail | apply Pick.app))) (J.row_eq (encB (pieceB tx k)) (by
      rw [show n - 63 * k = (tx.drop (63 * k)).length by rw [List.length_drop, hn], pieceB, if_neg (by decide), show i5.size = 1 from rfl]
      exact piece_cut _) ?_)
    have hpl : (encB (pieceB tx k)).length = 64 := (encB_length _).trans (pieceB_length tx k)
    refine J.region ?_
    refine JL.step (y_move rfl) rfl rfl rfl ?_
    refine JL.step (y_loadN hT rfl rfl rfl (by (first | exact RdN.rowAll (by (repeat (first | exact Pick.head | apply Pick.tail | apply Pick.app))) | exact RdN.own (by (repeat (first | exact Pick.head | apply Pick.tail | apply Pick.app))))) (by (first | rfl | assumption | (simp; done) | omega))) rfl rfl rfl ?_
    refine JL.loud rfl (l_buildSliceP hT rfl rfl rfl rfl rfl rfl rfl (by (first | exact fill_one rfl (by first | assumption | rfl | (simp; done)) | rfl | simp)) rfl (fun b2 => ?_))
    refine JL.loud rfl (l_append hT rfl rfl rfl rfl rfl rfl rfl rfl (by (repeat (first | exact Pick.head | apply Pick.tail | apply Pick.app))) (by (first | exact RdN.rowAll (by (repeat (first | exact Pick.head | apply Pick.tail | apply Pick.app))) | exact RdN.own (by (repeat (first | exact Pick.head | apply Pick.tail | apply Pick.app))))) (by (first | rfl | assumption | (simp; done) | omega)) (by (first | assumption | exact ones_of rfl | exact encW_one _ | exact encB_one _ | (intro u hu; simp at hu; rcases hu with rfl | rfl <;> rfl) | (intro u hu; simp at hu; subst hu; rfl) | simp)) (by rw [show i42.bytes = 64 from rfl]; omega) (by omega) rfl (fun na nc hnc => ?_))
    refine JL.step (y_assign rfl) rfl rfl rfl ?_
    refine JL.nil ?_
    refine JE.block_normal ?_
    refine JE.then_normal ?_
    refine J.region ?_
    refine JL.step (y_move rfl) rfl rfl rfl ?_
    refine JL.step (y_add rfl rfl (by (first | exact wrap_i64 (by omega) (by omega) | rfl))) rfl rfl rfl ?_
    refine JL.step (y_assign rfl) rfl rfl rfl ?_
    refine JL.nil ?_
  all_goals
    refine JE.round (s := (k, a, c)) (k + 1, na, nc) (by unfold pieceN; omega) ⟨rfl, rfl, rfl, rfl, by dsimp only; rw [show (63 : Int) * ((k + 1 : Nat) : Int) = 63 * (k : Int) + 63 by omega]; rfl, trivial⟩ (fun w q => ?_) (by unfold pieceN; dsimp only; omega)
    dsimp only
    rw [secsK_enc]
    exact q.sup (by (repeat (first | exact Sup.refl | apply Sup.cons (by (repeat (first | exact Pick.head | apply Pick.tail | apply Pick.app))) | apply Sup.app | apply Sup.skip | apply Sup.skips)))
end Go.Proofs.Ytmgagkpokmaefaa
namespace Go.Proofs.Ytmgagkpokmaefaa
open Go Go.SL
theorem secs_length (turn : BitVec 64) (num : Nat) (tx : List Int) : (secs turn num tx).length = needN tx.length := by
  rw [secs, List.length_cons, piecesB_length]
  unfold needN pieceN
  omega
theorem secs_64 (turn : BitVec 64) (num : Nat) (tx : List Int) : ∀ b ∈ secs turn num tx, b.length = 64 := fun b hb => by
  rcases List.mem_cons.1 hb with rfl | hb
  · exact mkB_length _ _ _
  · simp only [piecesB, List.mem_map, List.mem_range] at hb
    obtain ⟨i, _, rfl⟩ := hb
    exact pieceB_length tx i
attribute [local irreducible] J JL JE JM LS Y Fc RV Code.wp wpList Code.wpIn wpListIn
attribute [local irreducible] Yc
variable (E : World)
theorem check_lh (lg st d : Nat) {S S' : Sb} {D D' : Dk} {L L' : Lg} {e : Int} (l : List HProp) (h : LH S D L) (state : List Int) (p : Option Addr) (cap n : Nat) (hn : state.length = n) (hsm : Small state) (he : ckL L S D state = (L', S', D', e)) (hin : InL l p n cap (ints .u8 state)) :
    Fc prog E 18 [.pointer (some ⟨lg, 0, none⟩), .slice p n cap].toArray (logm lg st L :: row st 90 (scells S d) :: disk d D :: l) (fun v l' => v = .int .i64 e ∧ l' = logm lg st L' :: row st 90 (scells S' d) :: disk d D' :: l) := by
  subst hn
  have q := lcheck_spec E lg st d L S D l h.holds.fits.hash h.holds.fits.two h.holds.fits.place (by rw [h.holds.none]; decide) state p cap hsm hin
  rwa [he] at q
/-- An append, whether there is room or not. -/
theorem LH.put {S : Sb} {D : Dk} {L : Lg} (h : LH S D L) {tx : List Int} (hs : Small tx) : ∃ L' D' e, appL L S D tx = (L', D', e) ∧ LH S D' L' ∧ D'.safe.length = D.safe.length ∧
    ((L.used + needN tx.length ≤ D.slots ∧ e = 0 ∧ L' = { L with txs := L.txs ++ [tx], used := L.used + needN tx.length }) ∨ (¬ L.used + needN tx.length ≤ D.slots ∧ e = 6 ∧ L' = L ∧ D' = D)) := by
  by_cases hroom : L.used + needN tx.length ≤ D.slots
  · obtain ⟨D', e, hL, hl⟩ := h.append hs hroom
    exact ⟨_, D', 0, e, hL, hl, .inl ⟨hroom, rfl, rfl⟩⟩
  · exact ⟨L, D, 6, appL_full h hroom, h, rfl, .inr ⟨hroom, rfl, rfl, rfl⟩⟩
end Go.Proofs.Ytmgagkpokmaefaa
namespace Go.Proofs.Ytmgagkpokmaefaa
open Go Go.SL
/-! What a log tells. -/
/-- Slices of bytes that something keeps. -/
structure TxB (K : HProp) (vals : List Value) (txs : List (List Int)) : Prop where
  len : vals.length = txs.length
  get : ∀ (i : Nat) b, txs[i]? = some b → ∃ q c, vals[i]? = some (.slice q b.length c) ∧ InL [K] q b.length c (ints .u8 b)
theorem owns_pick {vals : List Value} {txs : List (List Int)} {r : List HProp} (hl : vals.length = txs.length) : ∀ (i : Nat) b, txs[i]? = some b → ∃ v, vals[i]? = some v ∧ ∃ r', Pick (owns vals txs ++ r) (own 5 1 v b.length (ints .u8 b)) r' := by
  induction txs generalizing vals with
  | nil => exact fun i b h => by simp at h
  | cons t ts ih =>
    intro i b h
    cases vals with
    | nil => simp at hl
    | cons v vs =>
      cases i with
      | zero =>
        simp at h
        subst h
        exact ⟨v, rfl, _, Pick.head⟩
      | succ i =>
        obtain ⟨u, h1, r', h2⟩ := ih (by simpa using hl) i b (by simpa using h)
        exact ⟨u, by simpa using h1, _, Pick.tail h2⟩
theorem owns_inl {E w : World} {vals : List Value} {txs : List (List Int)} {r : List HProp} (hl : vals.length = txs.length) (s : Sat E (stars (owns vals txs ++ r)) w) : ∀ (i : Nat) b, txs[i]? = some b → ∃ q c, vals[i]? = some (.slice q b.length c) ∧ InL (owns vals txs ++ r) q b.length c (ints .u8 b) := fun i b h => by
  obtain ⟨v, h1, r', hp⟩ := owns_pick (r := r) hl i b h
  obtain ⟨q, c, rfl, _⟩ := Sat.row_of_own s hp
  have og : OwnAt q b.length c (ints .u8 b) := Sat.own_at (s.pick hp)
  exact ⟨q, c, h1, og.inl hp⟩
theorem owns_drop {vals : List Value} {txs : List (List Int)} {i : Nat} {v : Value} {b : List Int} (hv : vals[i]? = some v) (hb : txs[i]? = some b) : owns (vals.drop i) (txs.drop i) = own 5 1 v b.length (ints .u8 b) :: owns (vals.drop (i + 1)) (txs.drop (i + 1)) := by
  obtain ⟨h1, rfl⟩ := List.getElem?_eq_some_iff.1 hv
  obtain ⟨h2, rfl⟩ := List.getElem?_eq_some_iff.1 hb
  rw [List.drop_eq_getElem_cons h1, List.drop_eq_getElem_cons h2]
  rfl
theorem usedN_le {txs : List (List Int)} (h : ∀ b ∈ txs, Small b) : usedN txs ≤ 20000 * txs.length := by
  induction txs with
  | nil => exact Nat.le_refl _
  | cons t ts ih =>
    have h1 := (h t (by simp)).len
    have h2 := ih fun b hb => h b (by simp [hb])
    simp only [usedN, List.map_cons, List.sum_cons, List.length_cons] at h2 ⊢
    have : needN t.length ≤ 20000 := by unfold needN; omega
    omega
attribute [local irreducible] J JL JE JM LS Y Fc RV Code.wp wpList Code.wpIn wpListIn
attribute [local irreducible] Yc
variable (E : World)
theorem rused_spec (q : Option Addr) (n c : Nat) (vals : List Value) (txs : List (List Int)) (l : List HProp) (hn : txs.length = n) (hb : n ≤ 100000) (hs : ∀ b ∈ txs, Small b) (hin : InL l q n c vals) (hg : ∀ (i : Nat) b, txs[i]? = some b → ∃ q c, vals[i]? = some (.slice q b.length c)) :
    Fc prog E 34 [.slice q n c].toArray l (fun v l' => v = .int .i64 (usedN txs : Int) ∧ l' = l) := by
  refine Fc.eqs ?_
  have hle := usedN_le hs
  refine Fc.of_body (c := ?codeC) Try.func34 ?hb Try.ntmps34 ?hl ?_
  case hb => exact rfl
  case hl => exact rfl
  refine J.seq ?_
  refine J.region ?_
  refine JL.step (y_assign rfl) rfl rfl rfl ?_
  refine JL.nil ?_
  refine JE.then_normal ?_
  refine J.seq ?_
  refine J.region ?_
  refine JL.step (y_assign rfl) rfl rfl rfl ?_
  refine JL.nil ?_
  refine JE.then_normal ?_
  refine J.seq ?_
  refine J.seq ?_
  refine J.region ?_
  refine JL.step (y_move rfl) rfl rfl rfl (JL.step (y_len_slice hT rfl rfl rfl) rfl rfl rfl (JL.step (y_move rfl) rfl rfl rfl ?_))
  refine JL.nil ?_
  refine JE.then_normal ?_
  refine J.block ?_
  refine J.loop (α := Nat) (fun j => j ≤ n) (fun j => [(3, .int .i64 (usedN (txs.take j))), (6, .slice q n c), (7, .int .i64 n), (8, .int .i64 j)]) (fun _ => l) (fun j => n - j) 0 (Nat.zero_le _) ⟨rfl, rfl, rfl, rfl, trivial⟩ (fun w h => h) ?_
  intro j hj
  refine J.seq ?_
  refine J.region ?_
  refine JL.step (y_lss rfl rfl) rfl rfl rfl ?_
  refine JL.nil ?_
  refine JE.then_normal ?_
  refine J.seq ?_
  first | apply J.cond_dec rfl | apply J.cond rfl
  case' ht =>
    intro h
    try (first | (exfalso; omega) | (cases h; done) | (exfalso; simp at h; done) | subst h)
    all_goals
      refine J.skip ?_
  case' hf =>
    intro h
    try (first | (exfalso; omega) | (cases h; done) | (exfalso; simp at h; done) | subst h)
    all_goals
      refine J.exit ?_
      refine JE.then_exit ?_
      refine JE.then_exit ?_
      refine JE.block_exit ?_
      refine JE.then_normal ?_
      refine J.seq ?_
      refine J.region ?_
      refine JL.step (y_move rfl) rfl rfl rfl (JL.step (y_assign rfl) rfl rfl rfl ?_)
      refine JL.nil ?_
      refine JE.then_normal ?_
      refine J.ret ?_
      refine JE.ret1 (.inl rfl) rfl rfl (by (first | exact RV.tmp rfl | exact RV.cell1 hT rfl rfl rfl (by (exact Rd1.row (by (repeat (first | exact Pick.head | apply Pick.tail | apply Pick.app))) (by rfl))) | exact RV.cellN hT rfl rfl rfl (by (first | exact RdN.rowAll (by (repeat (first | exact Pick.head | apply Pick.tail | apply Pick.app))) | exact RdN.own (by (repeat (first | exact Pick.head | apply Pick.tail | apply Pick.app))))) (by (first | rfl | assumption | (simp; done) | omega)))) ?_
      obtain rfl : j = n := by omega
      refine ⟨?_, fun w q => q⟩
      rw [← hn, List.take_length]
  all_goals refine JE.then_normal ?_
  all_goals
    refine J.seq ?_
    refine J.block ?_
    refine J.seq ?_
    refine J.region ?_
    have hlt : j < n := by omega
    obtain ⟨go, oo, rfl, hro⟩ := hin.addr (by omega)
    have hro0 : RdN l go oo vals := hro []
    obtain ⟨b, hb⟩ : ∃ b, txs[j]? = some b := ⟨_, List.getElem?_eq_getElem (by omega)⟩
    obtain ⟨bq, bc, hv⟩ := hg j b hb
    have hsb := (hs b (List.mem_of_getElem? hb)).len
    have e1 : txs.take (j + 1) = txs.take j ++ [b] := by rw [List.take_add_one, hb]; rfl
    have e2 : usedN txs = usedN (txs.take (j + 1)) + usedN (txs.drop (j + 1)) := by
      rw [usedN, usedN, usedN, ← List.sum_append, ← List.map_append, List.take_append_drop]
    have e3 := usedN_snoc (txs.take j) b
    rw [← e1] at e3
    refine JL.step (y_indexAddr_slice hT rfl rfl rfl rfl rfl (by (first | omega | exact Nat.le_of_ble_eq_true rfl | decide | (simp; omega))) (by (first | omega | exact Nat.le_of_ble_eq_true rfl | decide | (simp; omega)))) rfl rfl rfl ?_
    refine JL.step (y_load1 hT rfl rfl rfl (Rd1.elem (by (repeat (first | assumption | apply RdN.cons | apply RdN.app))) hv)) rfl rfl rfl ?_
    refine JL.step (y_assign rfl) rfl rfl rfl ?_
    refine JL.nil ?_
    refine JE.then_normal ?_
    refine J.region ?_
    refine JL.step (y_move rfl) rfl rfl rfl (JL.step (y_move rfl) rfl rfl rfl (JL.step (y_len_slice hT rfl rfl rfl) rfl rfl rfl ?_))
    refine JL.loud rfl (l_callF e15 rfl rfl (rneed_spec E b.length (by omega) _) ?_)
    rintro _ _ ⟨rfl, rfl⟩
    refine JL.step (y_add rfl rfl (by (first | exact wrap_i64 (by omega) (by omega) | rfl))) rfl rfl rfl ?_
    refine JL.step (y_assign rfl) rfl rfl rfl ?_
    refine JL.nil ?_
    refine JE.block_normal ?_
    refine JE.then_normal ?_
    refine J.region ?_
    refine JL.step (y_add rfl rfl (by (first | exact wrap_i64 (by omega) (by omega) | rfl))) rfl rfl rfl ?_
    refine JL.step (y_move rfl) rfl rfl rfl ?_
    refine JL.nil ?_
  all_goals
    refine JE.round (s := j) (j + 1) (by omega) ⟨by rw [e3, Int.natCast_add]; rfl, rfl, rfl, rfl, trivial⟩ (fun w q => q) (by omega)
theorem lists_spec (p q : Option Addr) (n m c1 c2 : Nat) (va vb : List Value) (ta tb : List (List Int)) (l : List HProp) (hn : ta.length = n) (hm : tb.length = m) (hb : n ≤ 1000000000) (hA : InL l p n c1 va) (hB : InL l q m c2 vb) (sa : ∀ b ∈ ta, Bytes b) (sb : ∀ b ∈ tb, Bytes b)
    (gA : ∀ (i : Nat) b, ta[i]? = some b → ∃ q c, va[i]? = some (.slice q b.length c) ∧ InL l q b.length c (ints .u8 b)) (gB : ∀ (i : Nat) b, tb[i]? = some b → ∃ q c, vb[i]? = some (.slice q b.length c) ∧ InL l q b.length c (ints .u8 b)) :
    Fc prog E 58 [.slice p n c1, .slice q m c2].toArray l (fun v l' => v = .bool (decide (ta = tb)) ∧ l' = l) := by
  refine Fc.of_body (c := ?codeC) Try.func58 ?hb Try.ntmps58 ?hl ?_
  case hb => exact rfl
  case hl => exact rfl
  refine J.seq ?_
  refine J.region ?_
  refine JL.step (y_assign rfl) rfl rfl rfl ?_
  refine JL.nil ?_
  refine JE.then_normal ?_
  refine J.seq ?_
  refine J.seq ?_
  refine J.region ?_
  refine JL.step (y_move rfl) rfl rfl rfl (JL.step (y_len_slice hT rfl rfl rfl) rfl rfl rfl (JL.step (y_move rfl) rfl rfl rfl (JL.step (y_len_slice hT rfl rfl rfl) rfl rfl rfl (JL.step (y_neq rfl rfl) rfl rfl rfl ?_))))
  refine JL.nil ?_
  refine JE.then_normal ?_
  first | apply J.cond_dec rfl | apply J.cond rfl
  case' ht =>
    intro h
    try (first | (exfalso; omega) | (cases h; done) | (exfalso; simp at h; done) | subst h)
    all_goals
      refine J.seq ?_
      refine J.region ?_
      refine JL.step (y_assign rfl) rfl rfl rfl ?_
      refine JL.nil ?_
      refine JE.then_normal ?_
      refine J.ret ?_
      refine JE.then_ret ?_
      refine JE.ret1 (.inl rfl) rfl rfl (by (first | exact RV.tmp rfl | exact RV.cell1 hT rfl rfl rfl (by (exact Rd1.row (by (repeat (first | exact Pick.head | apply Pick.tail | apply Pick.app))) (by rfl))) | exact RV.cellN hT rfl rfl rfl (by (first | exact RdN.rowAll (by (repeat (first | exact Pick.head | apply Pick.tail | apply Pick.app))) | exact RdN.own (by (repeat (first | exact Pick.head | apply Pick.tail | apply Pick.app))))) (by (first | rfl | assumption | (simp; done) | omega)))) ?_
      refine ⟨?_, rfl⟩
      first
        | exact congrArg Value.bool (decide_eq_false (fun e => hab (by rw [e, hb'] at ha; exact (Option.some.inj ha).symm))).symm
        | exact congrArg Value.bool (decide_eq_true (by
            rw [show j = n by omega] at hjt
            rwa [List.take_of_length_le (by omega), List.take_of_length_le (by omega)] at hjt)).symm
        | exact congrArg Value.bool (decide_eq_false (fun e => by rw [e] at hn; omega)).symm
  case' hf =>
    intro h
    try (first | (exfalso; omega) | (cases h; done) | (exfalso; simp at h; done) | subst h)
    all_goals
      refine J.skip ?_
  all_goals refine JE.then_normal ?_
  all_goals
    refine J.seq ?_
    refine J.seq ?_
    refine J.region ?_
    refine JL.step (y_move rfl) rfl rfl rfl (JL.step (y_len_slice hT rfl rfl rfl) rfl rfl rfl (JL.step (y_move rfl) rfl rfl rfl ?_))
    refine JL.nil ?_
    refine JE.then_normal ?_
    refine J.block ?_
    refine J.loop (α := Nat) (fun j => j ≤ n ∧ ta.take j = tb.take j) (fun j => [(0, .slice p n c1), (1, .slice q m c2), (12, .int .i64 n), (13, .int .i64 j)]) (fun _ => l) (fun j => n - j) 0 ⟨Nat.zero_le _, rfl⟩ ⟨rfl, rfl, rfl, rfl, trivial⟩ (fun w h => h) ?_
    intro j hj
    obtain ⟨hj, hjt⟩ := hj
    have hnm : n = m := by omega
    refine J.seq ?_
    refine J.region ?_
    refine JL.step (y_lss rfl rfl) rfl rfl rfl ?_
    refine JL.nil ?_
    refine JE.then_normal ?_
    refine J.seq ?_
    first | apply J.cond_dec rfl | apply J.cond rfl
    case' ht =>
      intro h
      try (first | (exfalso; omega) | (cases h; done) | (exfalso; simp at h; done) | subst h)
      all_goals
        refine J.skip ?_
    case' hf =>
      intro h
      try (first | (exfalso; omega) | (cases h; done) | (exfalso; simp at h; done) | subst h)
      all_goals
        refine J.exit ?_
        refine JE.then_exit ?_
        refine JE.then_exit ?_
        refine JE.block_exit ?_
        refine JE.then_normal ?_
        refine J.seq ?_
        refine J.region ?_
        refine JL.step (y_assign rfl) rfl rfl rfl ?_
        refine JL.nil ?_
        refine JE.then_normal ?_
        refine J.ret ?_
        refine JE.ret1 (.inl rfl) rfl rfl (by (first | exact RV.tmp rfl | exact RV.cell1 hT rfl rfl rfl (by (exact Rd1.row (by (repeat (first | exact Pick.head | apply Pick.tail | apply Pick.app))) (by rfl))) | exact RV.cellN hT rfl rfl rfl (by (first | exact RdN.rowAll (by (repeat (first | exact Pick.head | apply Pick.tail | apply Pick.app))) | exact RdN.own (by (repeat (first | exact Pick.head | apply Pick.tail | apply Pick.app))))) (by (first | rfl | assumption | (simp; done) | omega)))) ?_
        refine ⟨?_, rfl⟩
        first
          | exact congrArg Value.bool (decide_eq_false (fun e => hab (by rw [e, hb'] at ha; exact (Option.some.inj ha).symm))).symm
          | exact congrArg Value.bool (decide_eq_true (by
              rw [show j = n by omega] at hjt
              rwa [List.take_of_length_le (by omega), List.take_of_length_le (by omega)] at hjt)).symm
          | exact congrArg Value.bool (decide_eq_false (fun e => by rw [e] at hn; omega)).symm
    all_goals refine JE.then_normal ?_
    all_goals
      refine J.seq ?_
      refine J.block ?_
      refine J.seq ?_
      have hlt : j < n := by omega
      obtain ⟨g1, o1, rfl, hr1⟩ := hA.addr (by omega)
      obtain ⟨g2, o2, rfl, hr2⟩ := hB.addr (by omega)
      obtain ⟨a, ha⟩ : ∃ a, ta[j]? = some a := ⟨_, List.getElem?_eq_getElem (by omega)⟩
      obtain ⟨b, hb'⟩ : ∃ b, tb[j]? = some b := ⟨_, List.getElem?_eq_getElem (by omega)⟩
      obtain ⟨aq, ac, hva, ia⟩ := gA j a ha
      obtain ⟨bq, bc, hvb, ib⟩ := gB j b hb'
      refine J.region ?_
      refine JL.step (y_move rfl) rfl rfl rfl (JL.step (y_assign rfl) rfl rfl rfl ?_)
      refine JL.nil ?_
      refine JE.then_normal ?_
      refine J.seq ?_
      refine J.draw _ _ [(0, .q), (1, .q), (2, .q), (3, .q), (4, .q), (5, .q), (6, .q), (7, .q), (8, .q), (9, .q)] mixed (by kernel_rfl) (Split.nil) ?_
      refine JM.quiet rfl rfl rfl rfl (fun m => y_move rfl) ?_
      refine JM.quiet rfl rfl rfl rfl (fun m => y_move rfl) ?_
      refine JM.quiet rfl rfl rfl rfl (fun m => y_indexAddr_slice hT rfl rfl rfl rfl rfl (by (first | omega | exact Nat.le_of_ble_eq_true rfl | decide | (simp; omega))) (by (first | omega | exact Nat.le_of_ble_eq_true rfl | decide | (simp; omega)))) ?_
      refine JM.quiet rfl rfl rfl rfl (fun m => y_load1 hT rfl rfl rfl (Rd1.elem (hr1 m) hva)) ?_
      refine JM.quiet rfl rfl rfl rfl (fun m => y_move rfl) ?_
      refine JM.quiet rfl rfl rfl rfl (fun m => y_move rfl) ?_
      refine JM.quiet rfl rfl rfl rfl (fun m => y_indexAddr_slice hT rfl rfl rfl rfl rfl (by (first | omega | exact Nat.le_of_ble_eq_true rfl | decide | (simp; omega))) (by (first | omega | exact Nat.le_of_ble_eq_true rfl | decide | (simp; omega)))) ?_
      refine JM.quiet rfl rfl rfl rfl (fun m => y_load1 hT rfl rfl rfl (Rd1.elem (hr2 m) hvb)) ?_
      refine JM.quiet rfl rfl rfl rfl (fun m => y_callF e57 rfl (bequal_spec E aq bq ac bc a.length b.length a b _ rfl rfl (sa a (List.mem_of_getElem? ha)) (sb b (List.mem_of_getElem? hb')) (ia.app m) (ib.app m))) ?_
      refine JM.quiet rfl rfl rfl rfl (fun m => y_not rfl) ?_
      refine JM.nil ?_
      refine JE.then_normal ?_
      first | apply J.cond_dec rfl | apply J.cond rfl
      case' ht =>
        intro h
        try (first | (exfalso; omega) | (cases h; done) | (exfalso; simp at h; done) | subst h)
        all_goals
          have hab : ¬ a = b := by simpa using h
          refine J.seq ?_
          refine J.region ?_
          refine JL.step (y_assign rfl) rfl rfl rfl ?_
          refine JL.nil ?_
          refine JE.then_normal ?_
          refine J.ret ?_
          refine JE.block_ret ?_
          refine JE.then_ret ?_
          refine JE.then_ret ?_
          refine JE.block_ret ?_
          refine JE.then_ret ?_
          refine JE.ret1 (.inl rfl) rfl rfl (by (first | exact RV.tmp rfl | exact RV.cell1 hT rfl rfl rfl (by (exact Rd1.row (by (repeat (first | exact Pick.head | apply Pick.tail | apply Pick.app))) (by rfl))) | exact RV.cellN hT rfl rfl rfl (by (first | exact RdN.rowAll (by (repeat (first | exact Pick.head | apply Pick.tail | apply Pick.app))) | exact RdN.own (by (repeat (first | exact Pick.head | apply Pick.tail | apply Pick.app))))) (by (first | rfl | assumption | (simp; done) | omega)))) ?_
          refine ⟨?_, rfl⟩
          first
            | exact congrArg Value.bool (decide_eq_false (fun e => hab (by rw [e, hb'] at ha; exact (Option.some.inj ha).symm))).symm
            | exact congrArg Value.bool (decide_eq_true (by
                rw [show j = n by omega] at hjt
                rwa [List.take_of_length_le (by omega), List.take_of_length_le (by omega)] at hjt)).symm
            | exact congrArg Value.bool (decide_eq_false (fun e => by rw [e] at hn; omega)).symm
      case' hf =>
        intro h
        try (first | (exfalso; omega) | (cases h; done) | (exfalso; simp at h; done) | subst h)
        all_goals
          have hab : a = b := by simpa using h
          refine J.skip ?_
      all_goals refine JE.block_normal ?_
      all_goals refine JE.then_normal ?_
      all_goals
        refine J.region ?_
        refine JL.step (y_add rfl rfl (by (first | exact wrap_i64 (by omega) (by omega) | rfl))) rfl rfl rfl ?_
        refine JL.step (y_move rfl) rfl rfl rfl ?_
        refine JL.nil ?_
    all_goals
      exact JE.round (s := j) (j + 1) ⟨by omega, by rw [List.take_add_one, List.take_add_one, ha, hb', hjt, hab]⟩ ⟨rfl, rfl, rfl, rfl, trivial⟩ (fun w q => q) (by omega)
end Go.Proofs.Ytmgagkpokmaefaa
namespace Go.Proofs.Ytmgagkpokmaefaa
open Go Go.SL
attribute [local irreducible] J JL JE JM LS Y Fc RV Code.wp wpList Code.wpIn wpListIn
attribute [local irreducible] Yc
variable (E : World)
section
variable (lg st : Nat) (L : Lg) (l : List HProp)
/-- The transactions told, one by one; what tells them stays. -/
theorem lall2_spec (k b : Nat) (St Fin : Nat → List HProp)
    (hy : ∀ (fr : List HProp) (j : Nat) (tx : List Int) (a : Option Addr) (c : Nat), L.txs[j]? = some tx → Small tx → Yc prog E k [Value.int .i64 (j : Int), .slice a tx.length c].toArray (own 5 1 (.slice a tx.length c) tx.length (ints .u8 tx) :: (St j ++ fr))
      (fun v l' => (v = .bool true ∧ l' = St (j + 1) ++ fr) ∨ (v = .bool false ∧ l' = Fin j ++ fr))) :
    Fc prog E 52 [.func (.yield k) #[] #[], Value.pointer (some ⟨b, 0, none⟩)].toArray (row b 27 [.pointer (some ⟨lg, 0, none⟩)] :: logm lg st L :: (St 0 ++ l))
      (fun _ l' => l' = row b 27 [.pointer (some ⟨lg, 0, none⟩)] :: logm lg st L :: (St L.txs.length ++ l) ∨ ∃ j, j < L.txs.length ∧ l' = row b 27 [.pointer (some ⟨lg, 0, none⟩)] :: logm lg st L :: (Fin j ++ l)) := by
  refine Fc.on (Split.cons (Pick.tail Pick.head) Split.nil) ?_
  refine Fc.logm fun sv ta tc vals K hok => Fc.post ?_
  have hfew := hok.few
  refine Fc.of_body (c := ?codeC) Try.func52 ?hb Try.ntmps52 ?hl ?_
  case hb => exact rfl
  case hl => exact rfl
  refine J.seq ?_
  refine J.seq ?_
  refine J.region ?_
  refine JL.step (y_load1 hT rfl rfl rfl (by (exact Rd1.row (by (repeat (first | exact Pick.head | apply Pick.tail | apply Pick.app))) (by rfl)))) rfl rfl rfl ?_
  refine JL.step (y_ptr_eq_nil hT rfl rfl rfl rfl) rfl rfl rfl ?_
  refine JL.nil ?_
  refine JE.then_normal ?_
  refine J.cond_f rfl (by (first | rfl | assumption | (simp; done) | (simp; omega))) ?_
  refine J.skip ?_
  refine JE.then_normal ?_
  refine J.seq ?_
  refine J.region ?_
  refine JL.step (y_load1 hT rfl rfl rfl (by (exact Rd1.row (by (repeat (first | exact Pick.head | apply Pick.tail | apply Pick.app))) (by rfl)))) rfl rfl rfl ?_
  refine JL.step ((by first | exact y_nilCheck rfl | exact y_nilCheckF rfl | exact y_nilCheckY rfl)) rfl rfl rfl ?_
  refine JL.step (y_fieldAddr hT rfl rfl rfl rfl rfl rfl) rfl rfl rfl ?_
  refine JL.step (y_load1 hT rfl rfl rfl (by (exact Rd1.row (by (repeat (first | exact Pick.head | apply Pick.tail | apply Pick.app))) (by rfl)))) rfl rfl rfl ?_
  refine JL.step (y_len_slice hT rfl rfl rfl) rfl rfl rfl (JL.step (y_move rfl) rfl rfl rfl ?_)
  refine JL.nil ?_
  refine JE.then_normal ?_
  refine J.block ?_
  refine J.fact (p := OwnAt ta L.txs.length tc vals) (fun w s => Sat.own_at (s.pick (by (repeat (first | exact Pick.head | apply Pick.tail | apply Pick.app))))) fun oa => ?_
  refine J.loop (α := Nat) (fun j => j ≤ L.txs.length) (fun j => [(0, .func (.yield k) #[] #[]), (1, .pointer (some ⟨b, 0, none⟩)), (10, .slice ta L.txs.length tc), (11, .int .i64 L.txs.length), (12, .int .i64 j)]) (fun j => St j ++ (row lg 83 (lcells st sv (.slice ta L.txs.length tc) L) :: own 36 1 (.slice ta L.txs.length tc) L.txs.length vals :: K :: row b 27 [.pointer (some ⟨lg, 0, none⟩)] :: l)) (fun j => L.txs.length - j) 0 (Nat.zero_le _) ⟨rfl, rfl, rfl, rfl, rfl, trivial⟩ (fun w h => Sat.rot (p := [_, _, _, _]) (g := St 0) h) ?_
  intro j hj
  refine J.seq ?_
  refine J.region ?_
  refine JL.step (y_lss rfl rfl) rfl rfl rfl ?_
  refine JL.nil ?_
  refine JE.then_normal ?_
  refine J.seq ?_
  first | apply J.cond_dec rfl | apply J.cond rfl
  case' ht =>
    intro h
    try (first | (exfalso; omega) | (cases h; done) | (exfalso; simp at h; done) | subst h)
    all_goals
      refine J.skip ?_
  case' hf =>
    intro h
    try (first | (exfalso; omega) | (cases h; done) | (exfalso; simp at h; done) | subst h)
    all_goals
      refine J.exit ?_
      refine JE.then_exit ?_
      refine JE.then_exit ?_
      refine JE.block_exit ?_
      refine JE.ret0 (.inr rfl) rfl rfl  ?_
      first
        | (have zz := hlt
           refine ⟨_, fun w q => ?_, .inr ⟨j, hlt, rfl⟩⟩
           have s2 := Sat.rot (p := Fin j) (g := [row lg 83 _, own 36 1 _ L.txs.length vals, K, row b 27 _]) q
           exact (logm_shut (r := row b 27 _ :: (Fin j ++ l)) hok s2).sup (by (repeat (first | exact Sup.refl | apply Sup.cons (by (repeat (first | exact Pick.head | apply Pick.tail | apply Pick.app))) | apply Sup.app | apply Sup.skip | apply Sup.skips))))
        | (obtain rfl : j = L.txs.length := by omega
           refine ⟨_, fun w q => ?_, .inl rfl⟩
           have s2 := Sat.rot (p := St L.txs.length) (g := [row lg 83 _, own 36 1 _ L.txs.length vals, K, row b 27 _]) q
           exact (logm_shut (r := row b 27 _ :: (St L.txs.length ++ l)) hok s2).sup (by (repeat (first | exact Sup.refl | apply Sup.cons (by (repeat (first | exact Pick.head | apply Pick.tail | apply Pick.app))) | apply Sup.app | apply Sup.skip | apply Sup.skips))))
  all_goals refine JE.then_normal ?_
  all_goals
    refine J.seq ?_
    refine J.block ?_
    refine J.seq ?_
    refine J.region ?_
    have hlt : j < L.txs.length := by omega
    obtain ⟨tx, htx⟩ : ∃ tx, L.txs[j]? = some tx := ⟨_, List.getElem?_eq_getElem hlt⟩
    have hsm := hok.smalls tx (List.mem_of_getElem? htx)
    have htl := hsm.len
    obtain ⟨v, hv, p, cp, rfl, hp⟩ := hok.txs j tx htx
    obtain ⟨ga, rfl⟩ := oa.at_.resolve_right fun ⟨h0, _⟩ => by have := oa.le; omega
    refine JL.step (y_move rfl) rfl rfl rfl ?_
    refine JL.step (y_indexAddr_slice hT rfl rfl rfl rfl rfl (by (first | omega | exact Nat.le_of_ble_eq_true rfl | decide | (simp; omega))) (by (first | omega | exact Nat.le_of_ble_eq_true rfl | decide | (simp; omega)))) rfl rfl rfl ?_
    refine JL.step (y_load1 hT rfl rfl rfl (Rd1.elem (RdN.own (by (repeat (first | exact Pick.head | apply Pick.tail | apply Pick.app)))) hv)) rfl rfl rfl ?_
    refine JL.step (y_assign rfl) rfl rfl rfl (JL.step (y_assign rfl) rfl rfl rfl ?_)
    refine JL.nil ?_
    refine JE.then_normal ?_
    refine J.seq ?_
    refine J.region ?_
    refine JL.step (y_move rfl) rfl rfl rfl (JL.step (y_move rfl) rfl rfl rfl (JL.step (y_move rfl) rfl rfl rfl ?_))
    refine JL.loud rfl (l_callF e47 rfl rfl (cloneB_spec E p cp tx _ (hp.kept (by (repeat (first | exact Pick.head | apply Pick.tail | apply Pick.app)))) (by omega)) ?_)
    rintro _ _ ⟨a, c, rfl, rfl⟩
    refine JL.yield rfl rfl rfl (hy _ j tx a c htx hsm) ?_
    rintro _ _ (⟨rfl, rfl⟩ | ⟨rfl, rfl⟩)
    all_goals (refine JL.step (y_not rfl) rfl rfl rfl ?_)
    all_goals refine JL.nil ?_
    all_goals refine JE.then_normal ?_
    all_goals
      first | apply J.cond_dec rfl | apply J.cond rfl
      case' ht =>
        intro h
        try (first | (exfalso; omega) | (cases h; done) | (exfalso; simp at h; done) | subst h)
        all_goals
          refine J.ret ?_
          refine JE.block_ret ?_
          refine JE.then_ret ?_
          refine JE.then_ret ?_
          refine JE.block_ret ?_
          refine JE.ret0 (.inl rfl) rfl rfl  ?_
          first
            | (have zz := hlt
               refine ⟨_, fun w q => ?_, .inr ⟨j, hlt, rfl⟩⟩
               have s2 := Sat.rot (p := Fin j) (g := [row lg 83 _, own 36 1 _ L.txs.length vals, K, row b 27 _]) q
               exact (logm_shut (r := row b 27 _ :: (Fin j ++ l)) hok s2).sup (by (repeat (first | exact Sup.refl | apply Sup.cons (by (repeat (first | exact Pick.head | apply Pick.tail | apply Pick.app))) | apply Sup.app | apply Sup.skip | apply Sup.skips))))
            | (obtain rfl : j = L.txs.length := by omega
               refine ⟨_, fun w q => ?_, .inl rfl⟩
               have s2 := Sat.rot (p := St L.txs.length) (g := [row lg 83 _, own 36 1 _ L.txs.length vals, K, row b 27 _]) q
               exact (logm_shut (r := row b 27 _ :: (St L.txs.length ++ l)) hok s2).sup (by (repeat (first | exact Sup.refl | apply Sup.cons (by (repeat (first | exact Pick.head | apply Pick.tail | apply Pick.app))) | apply Sup.app | apply Sup.skip | apply Sup.skips))))
      case' hf =>
        intro h
        try (first | (exfalso; omega) | (cases h; done) | (exfalso; simp at h; done) | subst h)
        all_goals
          refine J.skip ?_
    all_goals refine JE.block_normal ?_
    all_goals refine JE.then_normal ?_
    all_goals
      refine J.region ?_
      refine JL.step (y_add rfl rfl (by (first | exact wrap_i64 (by omega) (by omega) | rfl))) rfl rfl rfl ?_
      refine JL.step (y_move rfl) rfl rfl rfl ?_
      refine JL.nil ?_
  all_goals
    exact JE.round (s := j) (j + 1) (by omega) ⟨rfl, rfl, rfl, rfl, rfl, trivial⟩ (fun w q => q) (by omega)
theorem tells_spec (p q : Option Addr) (ns cs n c : Nat) (vals : List Value) (K : HProp) (hns : L.snap.length = ns) (hn : L.txs.length = n) (hu : L.used = usedN L.txs) (hin : InL (K :: l) p ns cs (ints .u8 L.snap)) (hX : TxB K vals L.txs) :
    Fc prog E 35 [.pointer (some ⟨lg, 0, none⟩), .slice p ns cs, .slice q n c].toArray (logm lg st L :: own 36 1 (.slice q n c) n vals :: K :: l) (fun v l' => v = .bool true ∧ l' = logm lg st L :: own 36 1 (.slice q n c) n vals :: K :: l) := by
  refine Fc.fact (p := OwnAt q n c vals ∧ L.txs.length ≤ 512 ∧ Small L.snap ∧ ∀ b ∈ L.txs, Small b) (fun w s => ⟨Sat.own_at (s.pick (Pick.tail Pick.head)), (logm_open s).elim fun _ ⟨_, _, _, _, hok, _⟩ => ⟨hok.few, hok.small, hok.smalls⟩⟩) fun ⟨oq, hfew, hsn, hsm⟩ => Fc.eqs ?_
  rw [hn] at hfew
  have csn : ∀ l, Fc prog E 27 [.pointer (some ⟨lg, 0, none⟩)].toArray (logm lg st L :: l) (fun v l' => ∃ a c, v = .slice a ns c ∧ l' = own 5 1 (.slice a ns c) ns (ints .u8 L.snap) :: logm lg st L :: l ∧ OwnAt a ns c (ints .u8 L.snap)) := fun l => (lsnapshot_spec E lg st L l).know fun v l' w ⟨a, c, e1, e2⟩ s => by
    subst e1
    subst e2
    rw [hns] at s ⊢
    exact ⟨a, c, rfl, rfl, Sat.own_at s⟩
  have cus : ∀ l, Fc prog E 23 [.pointer (some ⟨lg, 0, none⟩)].toArray (logm lg st L :: l) (fun v l' => v = .int .i64 (usedN L.txs : Int) ∧ l' = logm lg st L :: l) := fun l => by rw [← hu]; exact lused_spec E lg st L l
  have ctx : ∀ l, Fc prog E 24 [.pointer (some ⟨lg, 0, none⟩)].toArray (logm lg st L :: l) (fun v l' => ∃ a c vals, v = .slice a n c ∧ vals.length = L.txs.length ∧ l' = own 36 1 (.slice a n c) n vals :: (owns vals L.txs ++ (logm lg st L :: l))) := fun l => (ltxs_spec E lg st L l).mono fun v l' ⟨a, c, vals, e1, e2, e3⟩ => ⟨a, c, vals, by rw [e1, hn], e2, by rw [e3, e1, hn]⟩
  have hbe : ∀ (p q : Option Addr) (c1 c2 : Nat) (bs : List Int) (m : Nat) (l : List HProp), bs.length = m → Bytes bs → InL l p m c1 (ints .u8 bs) → InL l q m c2 (ints .u8 bs) → Fc prog E 57 [.slice p m c1, .slice q m c2].toArray l (fun v l' => v = .bool true ∧ l' = l) := fun p q c1 c2 bs m l hm hb h1 h2 => by
    have z := bequal_spec E p q c1 c2 m m bs bs l hm hm hb hb h1 h2
    rwa [show decide (bs = bs) = true from decide_eq_true rfl] at z
  have clists : ∀ (p q : Option Addr) (c1 c2 : Nat) (va vb : List Value) (l : List HProp), InL l p n c1 va → InL l q n c2 vb → (∀ (i : Nat) b, L.txs[i]? = some b → ∃ q c, va[i]? = some (.slice q b.length c) ∧ InL l q b.length c (ints .u8 b)) → (∀ (i : Nat) b, L.txs[i]? = some b → ∃ q c, vb[i]? = some (.slice q b.length c) ∧ InL l q b.length c (ints .u8 b)) →
      Fc prog E 58 [.slice p n c1, .slice q n c2].toArray l (fun v l' => v = .bool true ∧ l' = l) := fun p q c1 c2 va vb l h1 h2 g1 g2 => by
    have z := lists_spec E p q n n c1 c2 va vb L.txs L.txs l hn hn (by omega) h1 h2 (fun b h => (hsm b h).bytes) (fun b h => (hsm b h).bytes) g1 g2
    rwa [show decide (L.txs = L.txs) = true from decide_eq_true rfl] at z
  have hXi : ∀ (i : Nat) b, L.txs[i]? = some b → ∃ q c, vals[i]? = some (.slice q b.length c) := fun i b h => let ⟨q, c, e, _⟩ := hX.get i b h; ⟨q, c, e⟩
  refine Fc.of_bodyM (c := ?codeC) Try.func35 ?hb Try.ntmps35 ?hl ?_
  case hb => exact rfl
  case hl => exact rfl
  refine J.seq ?_
  refine J.region ?_
  refine JL.loud rfl (l_box rfl (by (first | rfl | simp)) rfl (fun b5 => ?_))
  refine JL.loud rfl (l_alloc hT rfl rfl (by (first | rfl | simp)) rfl (fun b6 => ?_))
  refine JL.nil ?_
  refine JE.then_normal ?_
  refine J.seq ?_
  refine J.seq ?_
  refine J.draw _ _ [(0, .q), (1, .q), (2, .q), (3, .q), (5, .q), (4, .l), (6, .e), (7, .q), (8, .q), (9, .q), (10, .q), (12, .q), (11, .e), (13, .q), (14, .q), (15, .q)] mixed (by kernel_rfl) (Split.cons (Pick.tail (Pick.tail Pick.head)) (Split.nil)) ?_
  refine JM.quiet rfl rfl rfl rfl (fun m => y_move rfl) ?_
  refine JM.quiet rfl rfl rfl rfl (fun m => y_ptr_eq_nil hT rfl rfl rfl rfl) ?_
  refine JM.quiet rfl rfl rfl rfl (fun m => y_move rfl) ?_
  all_goals (first | refine JM.gskip rfl rfl rfl rfl rfl rfl rfl ?_ | refine JM.gskipU rfl rfl rfl rfl rfl rfl ?_ | refine JM.gquiet rfl rfl rfl rfl rfl rfl (fun m => y_move rfl) ?_)
  all_goals (first | refine JM.gskip rfl rfl rfl rfl rfl rfl rfl ?_ | refine JM.gskipU rfl rfl rfl rfl rfl rfl ?_ | refine JM.gquiet rfl rfl rfl rfl rfl rfl (fun m => y_move rfl) ?_)
  refine JM.gloud rfl rfl rfl rfl (fun fr => l_callF e27 rfl rfl (csn _) ?_)
  rintro _ _ ⟨sa, sc, rfl, rfl, os⟩
  refine ⟨[_, _], (by (repeat (first | exact Split.nil | exact Split.all | refine Split.cons Pick.head ?_))), ?_⟩
  refine JM.gearly rfl rfl rfl rfl rfl rfl (fun fr => y_callF e57 rfl (hbe _ _ _ _ L.snap ns _ hns hsn.bytes (os.inl (by (repeat (first | exact Pick.head | apply Pick.tail | apply Pick.app)))) (InL.app (InL.app (by (repeat (first | assumption | apply InL.cons | apply InL.app))) fr) [_, _]))) ?_
  all_goals (first | refine JM.gskip rfl rfl rfl rfl rfl rfl rfl ?_ | refine JM.gskipU rfl rfl rfl rfl rfl rfl ?_ | refine JM.gquiet rfl rfl rfl rfl rfl rfl (fun m => y_not rfl) ?_)
  all_goals refine JM.quiet rfl rfl rfl rfl (fun m => y_pick rfl rfl rfl) ?_
  all_goals refine JM.quiet rfl rfl rfl rfl (fun m => y_move rfl) ?_
  all_goals (first | refine JM.gskip rfl rfl rfl rfl rfl rfl rfl ?_ | refine JM.gskipU rfl rfl rfl rfl rfl rfl ?_ | refine JM.gquiet rfl rfl rfl rfl rfl rfl (fun m => y_move rfl) ?_)
  all_goals (first | refine JM.gskip rfl rfl rfl rfl rfl rfl rfl ?_ | refine JM.gskipU rfl rfl rfl rfl rfl rfl ?_ | refine JM.gquiet rfl rfl rfl rfl rfl rfl (fun m => y_load1 hT rfl rfl rfl (by (exact Rd1.row (Pick.app m (by (repeat (first | exact Pick.head | apply Pick.tail | apply Pick.app)))) (by rfl)))) ?_)
  refine JM.gearly rfl rfl rfl rfl rfl rfl (fun fr => y_callF e23 rfl (Fc.still (p := [logm lg st L]) (Split.cons (by (repeat (first | exact Pick.head | apply Pick.tail | apply Pick.app))) Split.nil) (cus _))) ?_
  all_goals (first | refine JM.gskip rfl rfl rfl rfl rfl rfl rfl ?_ | refine JM.gskipU rfl rfl rfl rfl rfl rfl ?_ | refine JM.gquiet rfl rfl rfl rfl rfl rfl (fun m => y_callF e34 rfl (rused_spec E q n c vals L.txs _ hn (by omega) hsm (oq.inl (Pick.app m (by (repeat (first | exact Pick.head | apply Pick.tail | apply Pick.app))))) hXi)) ?_)
  all_goals (first | refine JM.gskip rfl rfl rfl rfl rfl rfl rfl ?_ | refine JM.gskipU rfl rfl rfl rfl rfl rfl ?_ | refine JM.gquiet rfl rfl rfl rfl rfl rfl (fun m => y_neq rfl rfl) ?_)
  all_goals refine JM.quiet rfl rfl rfl rfl (fun m => y_pick rfl rfl rfl) ?_
  all_goals refine JM.nil ?_
  all_goals refine JE.then_normal ?_
  all_goals
    refine J.cond_f rfl (by (first | rfl | assumption | (simp; done) | (simp; omega))) ?_
    refine J.skip ?_
  all_goals refine JE.then_normal ?_
  all_goals
    refine J.seq ?_
    refine J.seq ?_
    refine J.region ?_
    refine JL.step (y_assign rfl) rfl rfl rfl ?_
    refine JL.nil ?_
    refine JE.then_normal ?_
    refine J.block ?_
    refine J.loopD (α := Nat × List Nat) (fun s => s.1 ≤ 2) (fun s => s.2.map SL.mark) (fun s => [(0, .pointer (some ⟨lg, 0, none⟩)), (5, .pointer (some ⟨b5, 0, none⟩)), (6, .pointer (some ⟨b6, 0, none⟩)), (7, .int .i64 s.1)]) (fun s => marksP s.2 :: row b6 4 [.bool false] :: row b5 34 [.slice q n c] :: logm lg st L :: own 36 1 (.slice q n c) n vals :: K :: l) (fun s => 2 - s.1) (0, []) (Nat.zero_le _) rfl ⟨rfl, rfl, rfl, rfl, trivial⟩ (fun w h => (Sat.marks_nil h).sup (by (repeat (first | exact Sup.refl | apply Sup.cons (by (repeat (first | exact Pick.head | apply Pick.tail | apply Pick.app))) | apply Sup.app | apply Sup.skip | apply Sup.skips)))) ?_
    rintro ⟨rd, Ds⟩ hrd
    dsimp only at hrd ⊢
    refine J.seq ?_
    refine J.seq ?_
    refine J.region ?_
    refine JL.step (y_move rfl) rfl rfl rfl (JL.step (y_lss rfl rfl) rfl rfl rfl ?_)
    refine JL.nil ?_
    refine JE.then_normal ?_
    first | apply J.cond_dec rfl | apply J.cond rfl
    case' ht =>
      intro h
      try (first | (exfalso; omega) | (cases h; done) | (exfalso; simp at h; done) | subst h)
      all_goals
        refine J.skip ?_
    case' hf =>
      intro h
      try (first | (exfalso; omega) | (cases h; done) | (exfalso; simp at h; done) | subst h)
      all_goals
        refine J.exit ?_
        refine JE.then_exit ?_
        refine JE.then_exit ?_
        refine JE.block_exit ?_
        refine JE.then_normal ?_
        refine J.seq ?_
        refine J.region ?_
        refine JL.loud rfl (l_store1 hT rfl rfl rfl rfl rfl (by (repeat (first | exact Pick.head | apply Pick.tail | apply Pick.app))) (by (first | omega | exact Nat.le_of_ble_eq_true rfl | decide | (simp; omega))) ?_)
        refine JL.nil ?_
        refine JE.then_normal ?_
        refine J.ret ?_
        refine JE.unmarks (Ds := Ds) (by first | exact .inl rfl | exact .inr rfl) rfl (by (repeat (first | exact Pick.head | apply Pick.tail | apply Pick.app))) ?_
        refine JE.ret1 (.inl rfl) rfl rfl (by (first | exact RV.tmp rfl | exact RV.cell1 hT rfl rfl rfl (by (exact Rd1.row (by (repeat (first | exact Pick.head | apply Pick.tail | apply Pick.app))) (by rfl))) | exact RV.cellN hT rfl rfl rfl (by (first | exact RdN.rowAll (by (repeat (first | exact Pick.head | apply Pick.tail | apply Pick.app))) | exact RdN.own (by (repeat (first | exact Pick.head | apply Pick.tail | apply Pick.app))))) (by (first | rfl | assumption | (simp; done) | omega)))) ?_
        exact ⟨rfl, fun w z => z.sup (by (repeat (first | exact Sup.refl | apply Sup.cons (by (repeat (first | exact Pick.head | apply Pick.tail | apply Pick.app))) | apply Sup.app | apply Sup.skip | apply Sup.skips)))⟩
    all_goals refine JE.then_normal ?_
    all_goals
      refine J.seq ?_
      refine J.block ?_
      refine J.seq ?_
      refine J.region ?_
      refine JL.step (y_move rfl) rfl rfl rfl ?_
      refine JL.loud rfl (l_callF e24 rfl rfl (Fc.on (Split.cons (by (repeat (first | exact Pick.head | apply Pick.tail | apply Pick.app))) Split.nil) (ctx _)) ?_)
      rintro _ _ ⟨ta, tc, tvals, rfl, htv, rfl⟩
      refine JL.step (y_assign rfl) rfl rfl rfl ?_
      refine JL.nil ?_
      refine JE.then_normal ?_
      refine J.seq ?_
      refine J.seq ?_
      refine J.region ?_
      refine JL.step (y_move rfl) rfl rfl rfl ?_
      refine JL.step (y_load1 hT rfl rfl rfl (by (exact Rd1.row (by (repeat (first | exact Pick.head | apply Pick.tail | apply Pick.app))) (by rfl)))) rfl rfl rfl ?_
      refine JL.loud rfl (l_callF e58 rfl rfl (Fc.fact (p := OwnAt ta n tc tvals) (fun w s => Sat.own_at (s.pick Pick.head)) fun o1 => Fc.fact (p := ∀ (i : Nat) b, L.txs[i]? = some b → ∃ q c, tvals[i]? = some (.slice q b.length c) ∧ InL (owns tvals L.txs ++ _) q b.length c (ints .u8 b)) (fun w s => owns_inl htv (Sat.drop s)) fun g1 => clists ta q tc c tvals vals _ (o1.inl Pick.head) (oq.inl (by (repeat (first | exact Pick.head | apply Pick.tail | apply Pick.app)))) (fun i b h => let ⟨q, c, e, i2⟩ := g1 i b h; ⟨q, c, e, i2.cons _⟩) (fun i b h => let ⟨q, c, e, i2⟩ := hX.get i b h; ⟨q, c, e, i2.kept (by (repeat (first | exact Pick.head | apply Pick.tail | apply Pick.app)))⟩)) ?_)
      rintro _ _ ⟨rfl, rfl⟩
      refine JL.step (y_not rfl) rfl rfl rfl ?_
      refine JL.nil ?_
      refine JE.then_normal ?_
      refine J.cond_f rfl (by (first | rfl | assumption | (simp; done) | (simp; omega))) ?_
      refine J.skip ?_
      refine JE.then_normal ?_
      refine J.seq ?_
      refine J.seq ?_
      refine J.region ?_
      refine JL.step (y_move rfl) rfl rfl rfl (JL.step (y_len_slice hT rfl rfl rfl) rfl rfl rfl (JL.step (y_move rfl) rfl rfl rfl ?_))
      refine JL.nil ?_
      refine JE.then_normal ?_
      refine J.block ?_
      refine J.fact (p := OwnAt ta n tc tvals) (fun w s => Sat.own_at (s.pick (by (repeat (first | exact Pick.head | apply Pick.tail | apply Pick.app))))) fun ot => ?_
      refine J.loop (α := Nat) (fun i => i ≤ n) (fun i => [(0, .pointer (some ⟨lg, 0, none⟩)), (5, .pointer (some ⟨b5, 0, none⟩)), (6, .pointer (some ⟨b6, 0, none⟩)), (7, .int .i64 rd), (42, .slice ta n tc), (43, .int .i64 n), (44, .int .i64 i)]) (fun i => own 36 1 (.slice ta n tc) n tvals :: (owns (tvals.drop i) (L.txs.drop i) ++ (logm lg st L :: marksP Ds :: row b6 4 [.bool false] :: row b5 34 [.slice q n c] :: own 36 1 (.slice q n c) n vals :: K :: l))) (fun i => n - i) 0 (Nat.zero_le _) ⟨rfl, rfl, rfl, rfl, rfl, rfl, rfl, trivial⟩ (fun w h => h.sup (by (repeat (first | exact Sup.refl | apply Sup.cons (by (repeat (first | exact Pick.head | apply Pick.tail | apply Pick.app))) | apply Sup.app | apply Sup.skip | apply Sup.skips)))) ?_
      intro i hi
      refine J.seq ?_
      refine J.region ?_
      refine JL.step (y_lss rfl rfl) rfl rfl rfl ?_
      refine JL.nil ?_
      refine JE.then_normal ?_
      refine J.seq ?_
      first | apply J.cond_dec rfl | apply J.cond rfl
      case' ht =>
        intro h
        try (first | (exfalso; omega) | (cases h; done) | (exfalso; simp at h; done) | subst h)
        all_goals
          refine J.skip ?_
      case' hf =>
        intro h
        try (first | (exfalso; omega) | (cases h; done) | (exfalso; simp at h; done) | subst h)
        all_goals
          refine J.exit ?_
          refine JE.then_exit ?_
          refine JE.then_exit ?_
          refine JE.block_exit ?_
          refine JE.then_normal ?_
          refine J.seq ?_
          refine J.region ?_
          refine JL.step (y_move rfl) rfl rfl rfl ?_
          refine JL.loud rfl (l_callF e26 rfl rfl (lall_spec E _ (.pointer (some ⟨lg, 0, none⟩)) rfl) ?_)
          rintro _ _ ⟨bc, rfl, rfl⟩
          refine JL.step (y_assign rfl) rfl rfl rfl ?_
          refine JL.nil ?_
          refine JE.then_normal ?_
          refine J.seq ?_
          refine J.seq ?_
          refine J.region ?_
          refine JL.step (y_move rfl) rfl rfl rfl ?_
          refine JL.step (y_func_eq_nil (by kernel_rfl) rfl rfl) rfl rfl rfl ?_
          refine JL.nil ?_
          refine JE.then_normal ?_
          refine J.cond_f rfl (by (first | rfl | assumption | (simp; done) | (simp; omega))) ?_
          refine J.skip ?_
          refine JE.then_normal ?_
          refine J.seq ?_
          refine J.region ?_
          refine JL.loud rfl (l_alloc hT rfl rfl (by (first | rfl | simp)) rfl (fun bn => ?_))
          refine JL.loud rfl (l_store1 hT rfl rfl rfl rfl rfl (by (repeat (first | exact Pick.head | apply Pick.tail | apply Pick.app))) (by (first | omega | exact Nat.le_of_ble_eq_true rfl | decide | (simp; omega))) ?_)
          refine JL.nil ?_
          refine JE.then_normal ?_
          refine J.seq ?_
          refine J.seq ?_
          refine J.region ?_
          refine JL.step (y_move rfl) rfl rfl rfl ?_
          refine JL.nil ?_
          refine JE.then_normal ?_
          refine J.block ?_
          refine J.rangeFunc e52 rfl fun fn a0 k DD K1 hK hf0 => ?_
          refine Fc.mono (Fc.imp (lall2_spec E lg st L (marksP Ds :: row b6 4 [.bool false] :: l) k bc (fun j => [row bn 3 [.int .i64 (j : Int)], row b5 34 [.slice q n c], own 36 1 (.slice q n c) n vals, K, K1 .ready none, blk DD (.deferred (some []))]) (fun _ => [pur False, K1 .ready none]) (fun fr j tx xa xc htx hsx => ?hy)) (fun w s => s.sup (by (repeat (first | exact Sup.refl | apply Sup.cons (by (repeat (first | exact Pick.head | apply Pick.tail | apply Pick.app))) | apply Sup.app | apply Sup.skip | apply Sup.skips))))) ?hm
          case hy =>
            refine Yc.split (p := [K1 .ready none]) ?_ (Split.cons (by (repeat (first | exact Pick.head | apply Pick.tail | apply Pick.app))) Split.nil)
            refine Yc.post ?_
            have hjl : j < n := by
              rcases Nat.lt_or_ge j L.txs.length with h | h
              · omega
              · rw [List.getElem?_eq_none h] at htx; cases htx
            obtain ⟨yq, yc, hyv, hyi⟩ := hX.get j tx htx
            obtain ⟨gq, rfl⟩ := oq.at_.resolve_right fun ⟨h0, _⟩ => by have := oq.le; omega
            refine Yc.of_body hK hf0 rfl (by decide) ?_
            refine J.seq ?_
            refine J.region ?_
            refine JL.step (y_assign rfl) rfl rfl rfl ?_
            refine JL.nil ?_
            refine JE.then_normal ?_
            refine J.region ?_
            refine JL.step (y_assign rfl) rfl rfl rfl ?_
            refine JL.nil ?_
            refine JE.assigned (by (repeat (first | exact Pick.head | apply Pick.tail | apply Pick.app))) ?_
            refine J.block ?_
            refine J.seq ?_
            refine J.seq ?_
            refine J.region ?_
            refine JL.step (y_move rfl) rfl rfl rfl ?_
            refine JL.step (y_load1 hT rfl rfl rfl (by (exact Rd1.row (by (repeat (first | exact Pick.head | apply Pick.tail | apply Pick.app))) (by rfl)))) rfl rfl rfl ?_
            refine JL.step (y_neq rfl rfl) rfl rfl rfl (JL.step (y_move rfl) rfl rfl rfl ?_)
            all_goals (first | (refine JL.gsplit_dec rfl rfl rfl (fun h => ?_) (fun h => ?_) <;> try (first | (exfalso; omega) | exact absurd rfl h)) | (refine JL.gsplit rfl rfl rfl (fun h => ?_) (fun h => ?_) <;> try (first | cases h | (exfalso; simp at h; done))) | skip)
            all_goals (first | refine JL.gskip rfl rfl rfl rfl rfl rfl ?_ | refine JL.gskipU rfl rfl rfl rfl rfl ?_ | refine JL.gstep rfl rfl rfl (y_load1 hT rfl rfl rfl (by (exact Rd1.row (by (repeat (first | exact Pick.head | apply Pick.tail | apply Pick.app))) (by rfl)))) rfl rfl ?_)
            all_goals (first | refine JL.gskip rfl rfl rfl rfl rfl rfl ?_ | refine JL.gskipU rfl rfl rfl rfl rfl ?_ | refine JL.gstep rfl rfl rfl (y_load1 hT rfl rfl rfl (by (exact Rd1.row (by (repeat (first | exact Pick.head | apply Pick.tail | apply Pick.app))) (by rfl)))) rfl rfl ?_)
            all_goals (first | refine JL.gskip rfl rfl rfl rfl rfl rfl ?_ | refine JL.gskipU rfl rfl rfl rfl rfl ?_ | refine JL.gstep rfl rfl rfl (y_len_slice hT rfl rfl rfl) rfl rfl ?_)
            all_goals (first | refine JL.gskip rfl rfl rfl rfl rfl rfl ?_ | refine JL.gskipU rfl rfl rfl rfl rfl ?_ | refine JL.gstep rfl rfl rfl (y_geq rfl rfl) rfl rfl ?_)
            all_goals (refine JL.step (y_pick rfl rfl rfl) rfl rfl rfl ?_)
            all_goals (refine JL.step (y_move rfl) rfl rfl rfl ?_)
            all_goals (first | (refine JL.gsplit_dec rfl rfl rfl (fun h => ?_) (fun h => ?_) <;> try (first | (exfalso; omega) | exact absurd rfl h)) | (refine JL.gsplit rfl rfl rfl (fun h => ?_) (fun h => ?_) <;> try (first | cases h | (exfalso; simp at h; done))) | skip)
            all_goals (first | refine JL.gskip rfl rfl rfl rfl rfl rfl ?_ | refine JL.gskipU rfl rfl rfl rfl rfl ?_ | refine JL.gstep rfl rfl rfl (y_move rfl) rfl rfl ?_)
            all_goals (first | refine JL.gskip rfl rfl rfl rfl rfl rfl ?_ | refine JL.gskipU rfl rfl rfl rfl rfl ?_ | refine JL.gstep rfl rfl rfl (y_load1 hT rfl rfl rfl (by (exact Rd1.row (by (repeat (first | exact Pick.head | apply Pick.tail | apply Pick.app))) (by rfl)))) rfl rfl ?_)
            all_goals (first | refine JL.gskip rfl rfl rfl rfl rfl rfl ?_ | refine JL.gskipU rfl rfl rfl rfl rfl ?_ | refine JL.gstep rfl rfl rfl (y_load1 hT rfl rfl rfl (by (exact Rd1.row (by (repeat (first | exact Pick.head | apply Pick.tail | apply Pick.app))) (by rfl)))) rfl rfl ?_)
            all_goals (first | refine JL.gskip rfl rfl rfl rfl rfl rfl ?_ | refine JL.gskipU rfl rfl rfl rfl rfl ?_ | refine JL.gstep rfl rfl rfl (y_indexAddr_slice hT rfl rfl rfl rfl rfl (by (first | omega | exact Nat.le_of_ble_eq_true rfl | decide | (simp; omega))) (by (first | omega | exact Nat.le_of_ble_eq_true rfl | decide | (simp; omega)))) rfl rfl ?_)
            all_goals (first | refine JL.gskip rfl rfl rfl rfl rfl rfl ?_ | refine JL.gskipU rfl rfl rfl rfl rfl ?_ | refine JL.gstep rfl rfl rfl (y_load1 hT rfl rfl rfl (Rd1.elem (RdN.own (by (repeat (first | exact Pick.head | apply Pick.tail | apply Pick.app)))) hyv)) rfl rfl ?_)
            all_goals (first | refine JL.gskip rfl rfl rfl rfl rfl rfl ?_ | refine JL.gskipU rfl rfl rfl rfl rfl ?_ | (refine JL.gloud rfl rfl rfl (l_callF e57 rfl rfl (Fc.fact (p := OwnAt xa tx.length xc (ints .u8 tx)) (fun w s => Sat.own_at (s.pick (by (repeat (first | exact Pick.head | apply Pick.tail | apply Pick.app))))) fun ox => hbe _ _ _ _ tx tx.length _ rfl hsx.bytes (ox.inl (by (repeat (first | exact Pick.head | apply Pick.tail | apply Pick.app)))) (hyi.kept (by (repeat (first | exact Pick.head | apply Pick.tail | apply Pick.app))))) ?_); rintro _ _ ⟨rfl, rfl⟩))
            all_goals (first | refine JL.gskip rfl rfl rfl rfl rfl rfl ?_ | refine JL.gskipU rfl rfl rfl rfl rfl ?_ | refine JL.gstep rfl rfl rfl (y_not rfl) rfl rfl ?_)
            all_goals (refine JL.step (y_pick rfl rfl rfl) rfl rfl rfl ?_)
            all_goals refine JL.nil ?_
            all_goals refine JE.then_normal ?_
            all_goals
              refine J.cond_f rfl (by (first | rfl | assumption | (simp; done) | (simp; omega))) ?_
              refine J.skip ?_
            all_goals refine JE.then_normal ?_
            all_goals
              refine J.region ?_
              refine JL.step (y_load1 hT rfl rfl rfl (by (exact Rd1.row (by (repeat (first | exact Pick.head | apply Pick.tail | apply Pick.app))) (by rfl)))) rfl rfl rfl ?_
              refine JL.step (y_add rfl rfl (by (first | exact wrap_i64 (by omega) (by omega) | rfl))) rfl rfl rfl ?_
              refine JL.loud rfl (l_store1 hT rfl rfl rfl rfl rfl (by (repeat (first | exact Pick.head | apply Pick.tail | apply Pick.app))) (by (first | omega | exact Nat.le_of_ble_eq_true rfl | decide | (simp; omega))) ?_)
              refine JL.nil ?_
            all_goals refine JE.block_normal ?_
            all_goals
              refine JE.round_on hK (by (repeat (first | exact Pick.head | apply Pick.tail | apply Pick.app))) ?_
              refine ⟨_, fun w z => z.sup (by (repeat (first | exact Sup.refl | apply Sup.cons (by (repeat (first | exact Pick.head | apply Pick.tail | apply Pick.app))) | apply Sup.app | apply Sup.skip | apply Sup.skips))), .inl ⟨rfl, rfl⟩⟩
          case hm =>
            rintro _ _ (rfl | ⟨j, hj, rfl⟩)
            · refine ⟨.ready, none, _, by (repeat (first | exact Pick.head | apply Pick.tail | apply Pick.app)), by simp, ?_⟩
              dsimp only
              rw [hn]
              refine JE.block_normal ?_
              refine JE.then_normal ?_
              refine J.seqKD (α := Nat) (fun _ => True) (fun D2 => SL.mark D2 :: SL.mark DD :: Ds.map SL.mark) (fun _ => [(0, .pointer (some ⟨lg, 0, none⟩)), (5, .pointer (some ⟨b5, 0, none⟩)), (6, .pointer (some ⟨b6, 0, none⟩)), (7, .int .i64 rd), (13, .pointer (some ⟨bn, 0, none⟩))]) (fun D2 => blk D2 (.deferred (some [])) :: blk DD (.deferred (some [])) :: row bn 3 [.int .i64 n] :: row b5 34 [.slice q n c] :: own 36 1 (.slice q n c) n vals :: K :: marksP Ds :: row b6 4 [.bool false] :: logm lg st L :: l) ?hj29 (fun hk29 => ?hf29)
              case hf29 =>
                refine J.seq ?_
                refine J.region ?_
                refine JL.step (y_move rfl) rfl rfl rfl ?_
                refine JL.nil ?_
                refine JE.then_normal ?_
                refine J.block ?_
                refine J.rangeFunc e52 rfl fun fn2 a02 k2 DD2 K2 hK hf2 => ?_
                refine Fc.mono (Fc.imp (lall2_spec E lg st L (blk DD2 (.deferred (some [])) :: blk DD (.deferred (some [])) :: row bn 3 [.int .i64 n] :: row b5 34 [.slice q n c] :: own 36 1 (.slice q n c) n vals :: K :: marksP Ds :: row b6 4 [.bool false] :: l) k2 bc (fun _ => [K2 .ready none]) (fun _ => [K2 .done (some (.exit 8))]) (fun fr j tx xa xc htx hsx => ?hy2)) (fun w s => s.sup (by (repeat (first | exact Sup.refl | apply Sup.cons (by (repeat (first | exact Pick.head | apply Pick.tail | apply Pick.app))) | apply Sup.app | apply Sup.skip | apply Sup.skips))))) ?hm2
                case hy2 =>
                  refine Yc.split (p := [K2 .ready none]) ?_ (Split.cons (by (repeat (first | exact Pick.head | apply Pick.tail | apply Pick.app))) Split.nil)
                  refine Yc.post ?_
                  refine Yc.of_body hK hf2 rfl (by decide) ?_
                  refine J.skip ?_
                  refine JE.assigned (by (repeat (first | exact Pick.head | apply Pick.tail | apply Pick.app))) ?_
                  refine J.block ?_
                  refine J.exit ?_
                  refine JE.block_past rfl ?_
                  refine JE.round_exit hK (by (repeat (first | exact Pick.head | apply Pick.tail | apply Pick.app))) ?_
                  refine ⟨_, fun w z => z.sup (by (repeat (first | exact Sup.refl | apply Sup.cons (by (repeat (first | exact Pick.head | apply Pick.tail | apply Pick.app))) | apply Sup.app | apply Sup.skip | apply Sup.skips))), .inr ⟨rfl, rfl⟩⟩
                case hm2 =>
                  rintro _ _ (rfl | ⟨j, hj, rfl⟩)
                  · refine ⟨.ready, none, _, by (repeat (first | exact Pick.head | apply Pick.tail | apply Pick.app)), by simp, ?_⟩
                    dsimp only
                    refine JE.block_normal ?_
                    refine JE.then_normal ?_
                    refine J.closeKD hk29 DD2 trivial rfl ⟨rfl, rfl, rfl, rfl, rfl, trivial⟩ ?_
                    exact fun w z => z.sup (by (repeat (first | exact Sup.refl | apply Sup.cons (by (repeat (first | exact Pick.head | apply Pick.tail | apply Pick.app))) | apply Sup.app | apply Sup.skip | apply Sup.skips)))
                  · refine ⟨.done, some (.exit 8), _, by (repeat (first | exact Pick.head | apply Pick.tail | apply Pick.app)), by simp, ?_⟩
                    dsimp only
                    refine J.exit ?_
                    refine JE.block_exit ?_
                    refine JE.then_normal ?_
                    refine J.closeKD hk29 DD2 trivial rfl ⟨rfl, rfl, rfl, rfl, rfl, trivial⟩ ?_
                    exact fun w z => z.sup (by (repeat (first | exact Sup.refl | apply Sup.cons (by (repeat (first | exact Pick.head | apply Pick.tail | apply Pick.app))) | apply Sup.app | apply Sup.skip | apply Sup.skips)))
              intro DD2 _
              try dsimp only
              refine J.seq ?_
              refine J.region ?_
              refine JL.step (y_load1 hT rfl rfl rfl (by (exact Rd1.row (by (repeat (first | exact Pick.head | apply Pick.tail | apply Pick.app))) (by rfl)))) rfl rfl rfl ?_
              refine JL.step (y_load1 hT rfl rfl rfl (by (exact Rd1.row (by (repeat (first | exact Pick.head | apply Pick.tail | apply Pick.app))) (by rfl)))) rfl rfl rfl ?_
              refine JL.step (y_len_slice hT rfl rfl rfl) rfl rfl rfl (JL.step (y_neq rfl rfl) rfl rfl rfl ?_)
              refine JL.nil ?_
              refine JE.then_normal ?_
              refine J.cond_f rfl (by (first | rfl | assumption | (simp; done) | (simp; omega))) ?_
              refine J.skip ?_
              refine JE.block_normal ?_
              refine JE.then_normal ?_
              refine J.region ?_
              refine JL.step (y_move rfl) rfl rfl rfl ?_
              refine JL.step (y_add rfl rfl (by (first | exact wrap_i64 (by omega) (by omega) | rfl))) rfl rfl rfl ?_
              refine JL.step (y_assign rfl) rfl rfl rfl ?_
              refine JL.nil ?_
              refine JE.roundD (s := (rd, Ds)) (rd + 1, DD2 :: DD :: Ds) (by dsimp only; omega) rfl ⟨rfl, rfl, rfl, rfl, trivial⟩ (fun w z => ?_) (by dsimp only; omega)
              have z1 := z.sup (p := blk DD (.deferred (some [])) :: marksP Ds :: blk DD2 (.deferred (some [])) :: row b6 4 [.bool false] :: row b5 34 [.slice q n c] :: logm lg st L :: own 36 1 (.slice q n c) n vals :: K :: l) (by (repeat (first | exact Sup.refl | apply Sup.cons (by (repeat (first | exact Pick.head | apply Pick.tail | apply Pick.app))) | apply Sup.app | apply Sup.skip | apply Sup.skips)))
              have z2 := z1.marks_cons.sup (p := blk DD2 (.deferred (some [])) :: marksP (DD :: Ds) :: row b6 4 [.bool false] :: row b5 34 [.slice q n c] :: logm lg st L :: own 36 1 (.slice q n c) n vals :: K :: l) (by (repeat (first | exact Sup.refl | apply Sup.cons (by (repeat (first | exact Pick.head | apply Pick.tail | apply Pick.app))) | apply Sup.app | apply Sup.skip | apply Sup.skips)))
              exact z2.marks_cons
            · refine ⟨.ready, none, _, by (repeat (first | exact Pick.head | apply Pick.tail | apply Pick.app)), by simp, ?_⟩
              dsimp only
              exact JE.picks (A := pur False) (by (repeat (first | exact Pick.head | apply Pick.tail | apply Pick.app))) (JE.purs fun h => h.elim)
      all_goals refine JE.then_normal ?_
      all_goals
        refine J.seq ?_
        refine J.block ?_
        refine J.seq ?_
        have hlt : i < n := by omega
        obtain ⟨b, hb⟩ : ∃ b, L.txs[i]? = some b := ⟨_, List.getElem?_eq_getElem (by omega)⟩
        obtain ⟨v, hv⟩ : ∃ v, tvals[i]? = some v := ⟨_, List.getElem?_eq_getElem (by omega)⟩
        rw [owns_drop hv hb, List.cons_append]
        refine J.fact (p := ∃ a c, v = .slice a b.length c ∧ OwnAt a b.length c (ints .u8 b)) (fun w s => ?_) fun ⟨xa, xc, hve, ox⟩ => ?_
        · obtain ⟨xa, xc, rfl, _⟩ := Sat.row_of_own s (Pick.tail Pick.head)
          exact ⟨xa, xc, rfl, Sat.own_at (s.pick (Pick.tail Pick.head))⟩
        subst hve
        obtain ⟨gt, rfl⟩ := ot.at_.resolve_right fun ⟨h0, _⟩ => by have := ot.le; omega
        have hbl := (hsm b (List.mem_of_getElem? hb)).len
        refine J.region ?_
        refine JL.step (y_indexAddr_slice hT rfl rfl rfl rfl rfl (by (first | omega | exact Nat.le_of_ble_eq_true rfl | decide | (simp; omega))) (by (first | omega | exact Nat.le_of_ble_eq_true rfl | decide | (simp; omega)))) rfl rfl rfl ?_
        refine JL.step (y_load1 hT rfl rfl rfl (Rd1.elem (RdN.own (by (repeat (first | exact Pick.head | apply Pick.tail | apply Pick.app)))) hv)) rfl rfl rfl ?_
        refine JL.step (y_assign rfl) rfl rfl rfl ?_
        refine JL.nil ?_
        refine JE.then_normal ?_
        refine J.seq ?_
        refine J.region ?_
        refine JL.step (y_move rfl) rfl rfl rfl (JL.step (y_len_slice hT rfl rfl rfl) rfl rfl rfl (JL.step (y_move rfl) rfl rfl rfl ?_))
        refine JL.nil ?_
        refine JE.then_normal ?_
        refine J.block ?_
        refine J.loop (α := Nat × List Value) (fun s => s.1 ≤ b.length ∧ s.2.length = b.length) (fun s => [(0, .pointer (some ⟨lg, 0, none⟩)), (5, .pointer (some ⟨b5, 0, none⟩)), (6, .pointer (some ⟨b6, 0, none⟩)), (7, .int .i64 rd), (10, .slice xa b.length xc), (42, .slice (some ⟨gt, 0, none⟩) n tc), (43, .int .i64 n), (44, .int .i64 i), (49, .int .i64 b.length), (50, .int .i64 s.1)]) (fun s => own 5 1 (.slice xa b.length xc) b.length s.2 :: own 36 1 (.slice (some ⟨gt, 0, none⟩) n tc) n tvals :: (owns (tvals.drop (i + 1)) (L.txs.drop (i + 1)) ++ (logm lg st L :: marksP Ds :: row b6 4 [.bool false] :: row b5 34 [.slice q n c] :: own 36 1 (.slice q n c) n vals :: K :: l))) (fun s => b.length - s.1) (0, ints .u8 b) ⟨Nat.zero_le _, by simp [ints]⟩ ⟨rfl, rfl, rfl, rfl, rfl, rfl, rfl, rfl, rfl, rfl, trivial⟩ (fun w h => h.sup (by (repeat (first | exact Sup.refl | apply Sup.cons (by (repeat (first | exact Pick.head | apply Pick.tail | apply Pick.app))) | apply Sup.app | apply Sup.skip | apply Sup.skips)))) ?_
        rintro ⟨j, ys⟩ ⟨hj, hys⟩
        dsimp only at hj hys ⊢
        refine J.seq ?_
        refine J.region ?_
        refine JL.step (y_lss rfl rfl) rfl rfl rfl ?_
        refine JL.nil ?_
        refine JE.then_normal ?_
        refine J.seq ?_
        first | apply J.cond_dec rfl | apply J.cond rfl
        case' ht =>
          intro h
          try (first | (exfalso; omega) | (cases h; done) | (exfalso; simp at h; done) | subst h)
          all_goals
            refine J.skip ?_
        case' hf =>
          intro h
          try (first | (exfalso; omega) | (cases h; done) | (exfalso; simp at h; done) | subst h)
          all_goals
            refine J.exit ?_
            refine JE.then_exit ?_
            refine JE.then_exit ?_
            refine JE.block_exit ?_
            refine JE.block_normal ?_
            refine JE.then_normal ?_
            refine J.region ?_
            refine JL.step (y_add rfl rfl (by (first | exact wrap_i64 (by omega) (by omega) | rfl))) rfl rfl rfl ?_
            refine JL.step (y_move rfl) rfl rfl rfl ?_
            refine JL.nil ?_
            exact JE.round (s := i) (i + 1) (by omega) ⟨rfl, rfl, rfl, rfl, rfl, rfl, rfl, trivial⟩ (fun w q => q.sup (by (repeat (first | exact Sup.refl | apply Sup.cons (by (repeat (first | exact Pick.head | apply Pick.tail | apply Pick.app))) | apply Sup.app | apply Sup.skip | apply Sup.skips)))) (by omega)
        all_goals refine JE.then_normal ?_
        all_goals
          refine J.seq ?_
          refine J.block ?_
          refine J.seq ?_
          have hltj : j < b.length := by omega
          obtain ⟨gx, rfl⟩ := ox.at_.resolve_right fun ⟨h0, _⟩ => by have := ox.le; omega
          refine J.region ?_
          refine JL.step (y_move rfl) rfl rfl rfl (JL.step (y_assign rfl) rfl rfl rfl ?_)
          refine JL.nil ?_
          refine JE.then_normal ?_
          refine J.region ?_
          refine JL.step (y_move rfl) rfl rfl rfl (JL.step (y_move rfl) rfl rfl rfl ?_)
          refine JL.step (y_indexAddr_slice hT rfl rfl rfl rfl rfl (by (first | omega | exact Nat.le_of_ble_eq_true rfl | decide | (simp; omega))) (by (first | omega | exact Nat.le_of_ble_eq_true rfl | decide | (simp; omega)))) rfl rfl rfl ?_
          refine JL.loud rfl (l_storeOwn1 hT rfl rfl rfl rfl rfl (by (repeat (first | exact Pick.head | apply Pick.tail | apply Pick.app))) (show 0 + (j : Int).toNat * i5.size < ys.length by rw [hys, show i5.size = 1 from rfl]; omega) ?_)
          refine JL.nil ?_
          refine JE.block_normal ?_
          refine JE.then_normal ?_
          refine J.region ?_
          refine JL.step (y_add rfl rfl (by (first | exact wrap_i64 (by omega) (by omega) | rfl))) rfl rfl rfl ?_
          refine JL.step (y_move rfl) rfl rfl rfl ?_
          refine JL.nil ?_
        all_goals
          exact JE.round (s := (j, ys)) (j + 1, ys.set (0 + (j : Int).toNat * i5.size) (.int .u8 238)) ⟨by dsimp only; omega, by simp [hys]⟩ ⟨rfl, rfl, rfl, rfl, rfl, rfl, rfl, rfl, rfl, rfl, trivial⟩ (fun w q => q.sup (by (repeat (first | exact Sup.refl | apply Sup.cons (by (repeat (first | exact Pick.head | apply Pick.tail | apply Pick.app))) | apply Sup.app | apply Sup.skip | apply Sup.skips)))) (by dsimp only; omega)
end
end Go.Proofs.Ytmgagkpokmaefaa
namespace Go.Proofs.Ytmgagkpokmaefaa
open Go Go.SL
/-! What is done to a log. -/
structure Op12 where
  kind : Int
  p : Option Addr
  c : Nat
  bs : List Int
structure Op12.Ok (o : Op12) (l : List HProp) : Prop where
  bytes : Bytes o.bs
  inl : InL l o.p o.bs.length o.c (ints .u8 o.bs)
def Op12.k (o : Op12) : Nat := (BitVec.ofInt 64 o.kind).toNat % 3
def Op12.b (o : Op12) : List Int := o.bs.take 2500
theorem Op12.Ok.small {o : Op12} {l : List HProp} (h : o.Ok l) : Small o.b := ⟨h.bytes.take _, by unfold Op12.b; rw [List.length_take]; omega⟩
attribute [local irreducible] J JL JE JM LS Y Fc RV Code.wp wpList Code.wpIn wpListIn
attribute [local irreducible] Yc
variable (E : World)
/-- A checkpoint, whether it fits or not. -/
theorem LH.take {S : Sb} {D : Dk} {L : Lg} (h : LH S D L) {state : List Int} (hs : Small state) (ht : S.turn.toNat + 1 < 18446744073709551616) : ∃ L' S' D' e, ckL L S D state = (L', S', D', e) ∧ LH S' D' L' ∧ D'.safe.length = D.safe.length ∧
    ((state.length ≤ 64 * D.half ∧ e = 0 ∧ L' = ⟨state, [], 0, false⟩ ∧ S' = nextS S state) ∨ (¬ state.length ≤ 64 * D.half ∧ e = 3 ∧ L' = L ∧ S' = S ∧ D' = D)) := by
  by_cases hl : state.length ≤ 64 * D.half
  · obtain ⟨D', e, hL, hd⟩ := h.check hs hl ht
    exact ⟨_, _, D', 0, e, hL, hd, .inl ⟨hl, rfl, rfl, rfl⟩⟩
  · exact ⟨L, S, D, 3, ckL_long h (by omega), h, rfl, .inr ⟨hl, rfl, rfl, rfl, rfl⟩⟩
end Go.Proofs.Ytmgagkpokmaefaa
namespace Go.Proofs.Ytmgagkpokmaefaa
open Go Go.SL
/-! The document's transactions of sectors. -/
theorem leG_ltn {bs : List Int} (hb : Bytes bs) {n : Nat} (hn : n ≤ 4) : (leG bs n).toNat < 4294967296 := by
  refine Nat.lt_pow_two_of_testBit (n := 32) _ fun i hi => ?_
  by_cases h : i < 64
  · have := leG_bit hb i h n (by omega)
    rw [BitVec.getLsbD] at this
    rw [this]
    simp
    omega
  · exact Nat.testBit_lt_two_pow (Nat.lt_of_lt_of_le (leG bs n).isLt (Nat.pow_le_pow_right (by decide) (by omega)))
theorem leG_one (bs : List Int) : leG bs 1 = BitVec.ofInt 64 (bs.getD 0 0) := by simp [leG]
theorem le_or {bs : List Int} (hb : Bytes bs) {n : Nat} (hn : n + 1 ≤ 4) : bitsE .or .i64 ((leG bs n).toNat : Int) ((BitVec.ofInt 64 (bs.getD n 0) <<< (8 * n)).toNat : Int) = some ((leG bs (n + 1)).toNat : Int) := by
  have e : ∀ A : BitVec 64, BitVec.ofInt 64 (A.toNat : Int) = A := fun A => BitVec.eq_of_toNat_eq (by rw [BitVec.toNat_ofInt]; have := A.isLt; omega)
  show some (IntKind.i64.wrap ((BitVec.ofInt 64 ((leG bs n).toNat : Int) ||| BitVec.ofInt 64 ((BitVec.ofInt 64 (bs.getD n 0) <<< (8 * n)).toNat : Int)).toNat : Int)) = _
  rw [e, e]
  have h := leG_ltn hb hn
  rw [leG] at h ⊢
  exact congrArg some (wrap_i64 (by omega) (by omega))
theorem le_shl {bs : List Int} (hb : Bytes bs) {n : Nat} (hn : n < 4) : IntKind.i64.wrap (bs.getD n 0 * 2 ^ (min (8 * n) IntKind.i64.bits)) = ((BitVec.ofInt 64 (bs.getD n 0) <<< (8 * n)).toNat : Int) := by
  have h := hb.getD n
  obtain ⟨x, hx⟩ : ∃ x : Nat, bs.getD n 0 = x := ⟨(bs.getD n 0).toNat, by omega⟩
  rw [hx] at h ⊢
  rw [show min (8 * n) IntKind.i64.bits = 8 * n by simp only [IntKind.bits]; omega, BitVec.toNat_shiftLeft, Nat.shiftLeft_eq, BitVec.toNat_ofInt]
  have hp : 2 ^ (8 * n) ≤ 16777216 := Nat.le_trans (Nat.pow_le_pow_right (by decide) (show 8 * n ≤ 24 by omega)) (by decide)
  have hm : x * 2 ^ (8 * n) ≤ 255 * 16777216 := Nat.mul_le_mul (by omega) hp
  rw [show ((x : Int) % ((2 ^ 64 : Nat) : Int)).toNat = x by omega, show ((x : Int) * 2 ^ (8 * n)) = ((x * 2 ^ (8 * n) : Nat) : Int) by simp]
  rw [Nat.mod_eq_of_lt (by omega)]
  exact wrap_i64 (by omega) (by omega)
theorem TxB.more {K K2 : HProp} {vals : List Value} {txs : List (List Int)} (h : TxB K vals txs) : TxB (stars [K, K2]) vals txs :=
  ⟨h.len, fun i b hb => let ⟨q, c, e, hi⟩ := h.get i b hb; ⟨q, c, e, hi.keepL⟩⟩
theorem TxB.push {K K2 : HProp} {vals : List Value} {txs : List (List Int)} (h : TxB K vals txs) {q : Option Addr} {c : Nat} {b : List Int} (hb : InL [K2] q b.length c (ints .u8 b)) : TxB (stars [K, K2]) (vals ++ [.slice q b.length c]) (txs ++ [b]) :=
  ⟨by simp [h.len], fun i t ht => by
    rcases Nat.lt_or_ge i txs.length with hi | hi
    · obtain ⟨p, z, h1, h2⟩ := h.get i t (by rwa [List.getElem?_append_left hi] at ht)
      exact ⟨p, z, by rw [List.getElem?_append_left (by rw [h.len]; exact hi)]; exact h1, h2.keepL⟩
    · have hi2 : i = txs.length := by
        rcases Nat.lt_or_ge i (txs ++ [b]).length with h3 | h3
        · simp at h3; omega
        · rw [List.getElem?_eq_none h3] at ht; cases ht
      subst hi2
      rw [List.getElem?_append_right (Nat.le_refl _), Nat.sub_self] at ht
      cases ht
      exact ⟨q, c, by rw [List.getElem?_append_right (by rw [h.len]; exact Nat.le_refl _), h.len, Nat.sub_self]; rfl, hb.keepR⟩⟩
/-- What a scan finds. -/
theorem scan_used (turn : BitVec 64) (bl : List Blk) : ∀ (f : Nat) (txs : List (List Int)) (used : Nat), used = usedN txs → (scan turn bl f txs used).2 = usedN (scan turn bl f txs used).1
  | 0, _, _, h => h
  | f + 1, txs, used, h => by
    rw [scan]
    cases nextTx turn txs.length bl used with
    | none => exact h
    | some tx => exact scan_used turn bl f _ _ (by rw [usedN_snoc, h])
attribute [local irreducible] J JL JE JM LS Y Fc RV Code.wp wpList Code.wpIn wpListIn
attribute [local irreducible] Yc
variable (E : World)
set_option maxHeartbeats 1000000 in
theorem rtxs_spec (turn : BitVec 64) (p : Option Addr) (cap N : Nat) (bl : List Blk) (l : List HProp) (hN : bl.length = N) (hb : N ≤ 512) (h64 : ∀ b ∈ bl, b.length = 64) (hB : ∀ b ∈ bl, Bytes b) (hin : InL l p N cap (bl.flatMap encB)) :
    Fc prog E 38 [Q turn, .slice p N cap].toArray l (fun v l' => ∃ a c n vals K, v = .slice a n c ∧ (scan turn bl N [] 0).1.length = n ∧ TxB K vals (scan turn bl N [] 0).1 ∧ l' = own 36 1 v n vals :: K :: l) := by
  refine Fc.post ?_
  have hE : ∀ x ∈ bl, (encB x).length = 64 := fun x hx => (encB_length x).trans (h64 x hx)
  refine Fc.of_body (c := ?codeC) Try.func38 ?hb Try.ntmps38 ?hl ?_
  case hb => exact rfl
  case hl => exact rfl
  refine J.seq ?_
  refine J.region ?_
  refine JL.step (y_assign rfl) rfl rfl rfl ?_
  refine JL.nil ?_
  refine JE.then_normal ?_
  refine J.seq ?_
  refine J.region ?_
  refine JL.step (y_assign rfl) rfl rfl rfl ?_
  refine JL.nil ?_
  refine JE.then_normal ?_
  refine J.seq ?_
  refine J.seq ?_
  refine J.region ?_
  refine JL.step (y_assign rfl) rfl rfl rfl ?_
  refine JL.nil ?_
  refine JE.then_normal ?_
  refine J.block ?_
  refine J.loop (α := List (List Int) × Nat × Option Addr × Nat × List Value × HProp) (fun s => s.1.length ≤ s.2.1 ∧ s.2.1 ≤ N ∧ scan turn bl (N - s.2.1) s.1 s.2.1 = scan turn bl N [] 0 ∧ TxB s.2.2.2.2.2 s.2.2.2.2.1 s.1) (fun s => [(0, Q turn), (1, .slice p N cap), (5, .slice s.2.2.1 s.1.length s.2.2.2.1), (6, .int .i64 s.2.1)]) (fun s => own 36 1 (.slice s.2.2.1 s.1.length s.2.2.2.1) s.1.length s.2.2.2.2.1 :: s.2.2.2.2.2 :: l) (fun s => N - s.2.1) ([], 0, none, 0, [], stars []) ⟨Nat.le_refl _, Nat.zero_le _, rfl, ⟨rfl, fun i b h => by simp at h⟩⟩ ⟨rfl, rfl, rfl, rfl, trivial⟩ (fun w h => (Sat.own_nil (Sat.fold (m := []) h)).sup (by (repeat (first | exact Sup.refl | apply Sup.cons (by (repeat (first | exact Pick.head | apply Pick.tail | apply Pick.app))) | apply Sup.app | apply Sup.skip | apply Sup.skips)))) ?_
  rintro ⟨txs, used, a, c, vals, K⟩ ⟨hlen, hus, hsc, hTx⟩
  dsimp only at hlen hus hsc hTx ⊢
  obtain ⟨n, hn⟩ : ∃ n, txs.length = n := ⟨_, rfl⟩
  rw [hn]
  have hend : nextTx turn n bl used = none → scan turn bl N [] 0 = (txs, used) := fun h => by
    rw [← hsc]
    cases hfu : N - used with
    | zero => rfl
    | succ f => rw [scan, hn, h]
  refine J.seq ?_
  refine J.seq ?_
  refine J.region ?_
  refine JL.step (y_move rfl) rfl rfl rfl (JL.step (y_move rfl) rfl rfl rfl (JL.step (y_len_slice hT rfl rfl rfl) rfl rfl rfl (JL.step (y_lss rfl rfl) rfl rfl rfl ?_)))
  refine JL.nil ?_
  refine JE.then_normal ?_
  focus
    first | apply J.cond_dec rfl | apply J.cond rfl
    focus
      intro h
      try (first | (exfalso; omega) | (cases h; done) | (exfalso; simp at h; done) | subst h)
      all_goals
        refine J.skip ?_
    rotate_right 1
    focus
      intro h
      try (first | (exfalso; omega) | (cases h; done) | (exfalso; simp at h; done) | subst h)
      all_goals
        have hno : nextTx turn n bl used = none := nextTx_end (by omega)
        refine J.exit ?_
        refine JE.then_exit ?_
        refine JE.then_exit ?_
        refine JE.block_exit ?_
        refine JE.then_normal ?_
        refine J.seq ?_
        refine J.region ?_
        refine JL.step (y_move rfl) rfl rfl rfl (JL.step (y_assign rfl) rfl rfl rfl ?_)
        refine JL.nil ?_
        refine JE.then_normal ?_
        refine J.ret ?_
        refine JE.ret1 (.inl rfl) rfl rfl (by (first | exact RV.tmp rfl | exact RV.cell1 hT rfl rfl rfl (by (exact Rd1.row (by (repeat (first | exact Pick.head | apply Pick.tail | apply Pick.app))) (by rfl))) | exact RV.cellN hT rfl rfl rfl (by (first | exact RdN.rowAll (by (repeat (first | exact Pick.head | apply Pick.tail | apply Pick.app))) | exact RdN.own (by (repeat (first | exact Pick.head | apply Pick.tail | apply Pick.app))))) (by (first | rfl | assumption | (simp; done) | omega)))) ?_
        have hres := hend hno
        refine ⟨own 36 1 (.slice a n c) n vals :: K :: l, fun w q => q.sup (by (repeat (first | exact Sup.refl | apply Sup.cons (by (repeat (first | exact Pick.head | apply Pick.tail | apply Pick.app))) | apply Sup.app | apply Sup.skip | apply Sup.skips))), a, c, n, vals, K, rfl, by rw [hres]; exact hn, by rw [hres]; exact hTx, rfl⟩
  all_goals refine JE.then_normal ?_
  all_goals
    refine J.block ?_
    refine J.seq ?_
    have hlt : used < N := by omega
    obtain ⟨go, oo, rfl, hro⟩ := hin.addr (by omega)
    have hro0 : RdN l go oo (bl.flatMap encB) := hro []
    obtain ⟨m, hm⟩ : ∃ m, bl[used]? = some m := ⟨_, List.getElem?_eq_getElem (by omega)⟩
    have hmem := List.mem_of_getElem? hm
    have hmL := hE m hmem
    have hm64 := h64 m hmem
    have hmB := hB m hmem
    have hmd : bl.getD used [] = m := by rw [List.getD_eq_getElem?_getD, hm]; rfl
    obtain ⟨ys, hys⟩ : ∃ ys, (m.drop 13).take 4 = ys := ⟨_, rfl⟩
    have hyb : Bytes ys := by rw [← hys]; exact hmB.part 13 4
    have hy : ∀ i, i < 4 → ys.getD i 0 = m.getD (13 + i) 0 := fun i hi => by
      rw [← hys, List.getD_eq_getElem?_getD, List.getElem?_take, if_pos hi, List.getElem?_drop, List.getD_eq_getElem?_getD]
    have hy0 := hy 0 (by decide)
    have hy1 := hy 1 (by decide)
    have hy2 := hy 2 (by decide)
    have hy3 := hy 3 (by decide)
    have hr0 := hyb.getD 0
    have hr1 := hyb.getD 1
    have hr2 := hyb.getD 2
    have hr3 := hyb.getD 3
    obtain ⟨z, hz⟩ : ∃ z, (leG ys 4).toNat = z := ⟨_, rfl⟩
    have hz32 : z < 4294967296 := by rw [← hz]; exact leG_ltn hyb (Nat.le_refl _)
    have hzs : sizeOf12 (bl.getD used []) = z := by rw [hmd, ← hz, ← hys]; rfl
    have hnz : needN z ≤ 100000000 := by unfold needN; omega
    have hpz : needN z = pieceN z + 1 := by unfold needN pieceN; omega
    have hrd : ∀ l', InL l' (some ⟨go, oo, none⟩) N cap (bl.flatMap encB) → RdN l' go oo (bl.flatMap encB) := fun l' h => by
      obtain ⟨b', o', e, hr⟩ := h.addr (by omega)
      cases e
      exact hr []
    refine J.region ?_
    refine JL.step (y_move rfl) rfl rfl rfl (JL.step (y_move rfl) rfl rfl rfl ?_)
    refine JL.step (y_indexAddr_slice hT rfl rfl rfl rfl rfl (by (first | omega | exact Nat.le_of_ble_eq_true rfl | decide | (simp; omega))) (by (first | omega | exact Nat.le_of_ble_eq_true rfl | decide | (simp; omega)))) rfl rfl rfl ?_
    refine JL.step (y_loadN hT rfl rfl rfl (RdN.elem (by (repeat (first | assumption | apply RdN.cons | apply RdN.app))) hE hm) hmL) rfl rfl rfl ?_
    refine JL.loud rfl (l_alloc hT rfl rfl (by (first | rfl | simp)) rfl (fun b1 => ?_))
    refine JL.loud rfl (l_storeAll hT rfl rfl rfl (by (first | rfl | assumption | (simp; done) | omega)) (by (first | assumption | exact ones_of rfl | exact encW_one _ | exact encB_one _ | (intro u hu; simp at hu; rcases hu with rfl | rfl <;> rfl) | (intro u hu; simp at hu; subst hu; rfl) | simp)) (by (repeat (first | exact Pick.head | apply Pick.tail | apply Pick.app))) (by (first | rfl | assumption | (simp; done) | omega)) ?_)
    refine JL.nil ?_
    refine JE.then_normal ?_
    refine J.seq ?_
    refine J.region ?_
    refine JL.step (y_indexAddr_arr hT rfl rfl rfl rfl rfl (by (first | omega | exact Nat.le_of_ble_eq_true rfl | decide | (simp; omega))) (by (first | omega | exact Nat.le_of_ble_eq_true rfl | decide | (simp; omega)))) rfl rfl rfl ?_
    refine JL.step (y_load1 (v := .int .u8 (ys.getD 0 0)) hT rfl rfl rfl (by rw [hy0]; exact Rd1.bytesAt (bs := m) (j := 13) (RdN.rowAll (by (repeat (first | exact Pick.head | apply Pick.tail | apply Pick.app)))) (by omega) rfl)) rfl rfl rfl ?_
    refine JL.step (y_conv (m := ((leG ys 1).toNat : Int)) hT rfl rfl rfl rfl (by
      rw [leG_one, BitVec.toNat_ofInt, show ((ys.getD 0 0 % ((2 ^ 64 : Nat) : Int)).toNat : Int) = ys.getD 0 0 by omega]
      exact wrap_i64 (by omega) (by omega))) rfl rfl rfl ?_
    refine JL.step (y_indexAddr_arr hT rfl rfl rfl rfl rfl (by (first | omega | exact Nat.le_of_ble_eq_true rfl | decide | (simp; omega))) (by (first | omega | exact Nat.le_of_ble_eq_true rfl | decide | (simp; omega)))) rfl rfl rfl ?_
    refine JL.step (y_load1 (v := .int .u8 (ys.getD 1 0)) hT rfl rfl rfl (by rw [hy1]; exact Rd1.bytesAt (bs := m) (j := 14) (RdN.rowAll (by (repeat (first | exact Pick.head | apply Pick.tail | apply Pick.app)))) (by omega) rfl)) rfl rfl rfl ?_
    refine JL.step (y_conv (m := ys.getD 1 0) hT rfl rfl rfl rfl (wrap_i64 (by omega) (by omega))) rfl rfl rfl ?_
    refine JL.step (y_shl rfl rfl (by decide) (le_shl hyb (n := 1) (by decide))) rfl rfl rfl ?_
    refine JL.step (y_bits rfl rfl (le_or hyb (n := 1) (by decide))) rfl rfl rfl ?_
    refine JL.step (y_indexAddr_arr hT rfl rfl rfl rfl rfl (by (first | omega | exact Nat.le_of_ble_eq_true rfl | decide | (simp; omega))) (by (first | omega | exact Nat.le_of_ble_eq_true rfl | decide | (simp; omega)))) rfl rfl rfl ?_
    refine JL.step (y_load1 (v := .int .u8 (ys.getD 2 0)) hT rfl rfl rfl (by rw [hy2]; exact Rd1.bytesAt (bs := m) (j := 15) (RdN.rowAll (by (repeat (first | exact Pick.head | apply Pick.tail | apply Pick.app)))) (by omega) rfl)) rfl rfl rfl ?_
    refine JL.step (y_conv (m := ys.getD 2 0) hT rfl rfl rfl rfl (wrap_i64 (by omega) (by omega))) rfl rfl rfl ?_
    refine JL.step (y_shl rfl rfl (by decide) (le_shl hyb (n := 2) (by decide))) rfl rfl rfl ?_
    refine JL.step (y_bits rfl rfl (le_or hyb (n := 2) (by decide))) rfl rfl rfl ?_
    refine JL.step (y_indexAddr_arr hT rfl rfl rfl rfl rfl (by (first | omega | exact Nat.le_of_ble_eq_true rfl | decide | (simp; omega))) (by (first | omega | exact Nat.le_of_ble_eq_true rfl | decide | (simp; omega)))) rfl rfl rfl ?_
    refine JL.step (y_load1 (v := .int .u8 (ys.getD 3 0)) hT rfl rfl rfl (by rw [hy3]; exact Rd1.bytesAt (bs := m) (j := 16) (RdN.rowAll (by (repeat (first | exact Pick.head | apply Pick.tail | apply Pick.app)))) (by omega) rfl)) rfl rfl rfl ?_
    refine JL.step (y_conv (m := ys.getD 3 0) hT rfl rfl rfl rfl (wrap_i64 (by omega) (by omega))) rfl rfl rfl ?_
    refine JL.step (y_shl rfl rfl (by decide) (le_shl hyb (n := 3) (by decide))) rfl rfl rfl ?_
    refine JL.step (y_bits (m := (z : Int)) rfl rfl (by rw [← hz]; exact le_or hyb (n := 3) (by decide))) rfl rfl rfl ?_
    refine JL.step (y_assign rfl) rfl rfl rfl ?_
    refine JL.nil ?_
    refine JE.then_normal ?_
    refine J.seq ?_
    refine J.seq ?_
    refine J.region ?_
    refine JL.step (y_move rfl) rfl rfl rfl (JL.step (y_move rfl) rfl rfl rfl ?_)
    refine JL.loud rfl (l_callF e15 rfl rfl (rneed_spec E z (by omega) _) ?_)
    rintro _ _ ⟨rfl, rfl⟩
    refine JL.step (y_add rfl rfl (by (first | exact wrap_i64 (by omega) (by omega) | rfl))) rfl rfl rfl ?_
    refine JL.step (y_move rfl) rfl rfl rfl (JL.step (y_len_slice hT rfl rfl rfl) rfl rfl rfl (JL.step (y_gtr rfl rfl) rfl rfl rfl ?_))
    refine JL.nil ?_
    refine JE.then_normal ?_
    focus
      first | apply J.cond_dec rfl | apply J.cond rfl
      focus
        intro h
        try (first | (exfalso; omega) | (cases h; done) | (exfalso; simp at h; done) | subst h)
        all_goals
          have hno : nextTx turn n bl used = none := by
            rw [nextTx, if_neg]
            rintro ⟨h1, _⟩
            rw [hzs] at h1
            omega
          refine J.exit ?_
          refine JE.then_exit ?_
          refine JE.block_past rfl ?_
          refine JE.then_exit ?_
          refine JE.block_exit ?_
          refine JE.then_normal ?_
          refine J.seq ?_
          refine J.region ?_
          refine JL.step (y_move rfl) rfl rfl rfl (JL.step (y_assign rfl) rfl rfl rfl ?_)
          refine JL.nil ?_
          refine JE.then_normal ?_
          refine J.ret ?_
          refine JE.ret1 (.inl rfl) rfl rfl (by (first | exact RV.tmp rfl | exact RV.cell1 hT rfl rfl rfl (by (exact Rd1.row (by (repeat (first | exact Pick.head | apply Pick.tail | apply Pick.app))) (by rfl))) | exact RV.cellN hT rfl rfl rfl (by (first | exact RdN.rowAll (by (repeat (first | exact Pick.head | apply Pick.tail | apply Pick.app))) | exact RdN.own (by (repeat (first | exact Pick.head | apply Pick.tail | apply Pick.app))))) (by (first | rfl | assumption | (simp; done) | omega)))) ?_
          have hres := hend hno
          refine ⟨own 36 1 (.slice a n c) n vals :: K :: l, fun w q => q.sup (by (repeat (first | exact Sup.refl | apply Sup.cons (by (repeat (first | exact Pick.head | apply Pick.tail | apply Pick.app))) | apply Sup.app | apply Sup.skip | apply Sup.skips))), a, c, n, vals, K, rfl, by rw [hres]; exact hn, by rw [hres]; exact hTx, rfl⟩
      rotate_right 1
      focus
        intro h
        try (first | (exfalso; omega) | (cases h; done) | (exfalso; simp at h; done) | subst h)
        all_goals
          have hfit : used + needN z ≤ N := by omega
          have hTl : ∀ k, k ≤ pieceN z → (tails bl used k).length = 63 * k := fun k hk => tails_length h64 _ _ (by omega)
          have hTb : ∀ k, k ≤ pieceN z → Bytes (tails bl used k) := fun k => by
            induction k with
            | zero => exact fun _ => Bytes.nil
            | succ k ih => exact fun hk => (ih (by omega)).append ((hB _ (by
                rw [List.getD_eq_getElem?_getD, List.getElem?_eq_getElem (show used + 1 + k < bl.length by omega)]
                exact List.getElem_mem _)).drop _)
          refine J.skip ?_
    all_goals refine JE.then_normal ?_
    all_goals
      refine J.seq ?_
      refine J.region ?_
      refine JL.step (y_assign rfl) rfl rfl rfl ?_
      refine JL.nil ?_
      refine JE.then_normal ?_
      refine J.seq ?_
      refine J.seq ?_
      refine J.region ?_
      refine JL.step (y_move rfl) rfl rfl rfl ?_
      refine JL.step (y_add rfl rfl (by (first | exact wrap_i64 (by omega) (by omega) | rfl))) rfl rfl rfl ?_
      refine JL.step (y_assign rfl) rfl rfl rfl ?_
      refine JL.nil ?_
      refine JE.then_normal ?_
      refine J.block ?_
      refine J.loop (α := Nat × Option Addr × Nat) (fun s => s.1 ≤ pieceN z) (fun s => [(0, Q turn), (1, .slice (some ⟨go, oo, none⟩) N cap), (5, .slice a n c), (6, .int .i64 used), (8, .int .i64 z), (9, .slice s.2.1 (63 * s.1) s.2.2), (10, .int .i64 ((used + 1 + s.1 : Nat) : Int))]) (fun s => own 5 1 (.slice s.2.1 (63 * s.1) s.2.2) (63 * s.1) (ints .u8 (tails bl used s.1)) :: own 36 1 (.slice a n c) n vals :: K :: l) (fun s => pieceN z - s.1) (0, none, 0) (Nat.zero_le _) ⟨rfl, rfl, rfl, rfl, rfl, rfl, rfl, trivial⟩ (fun w h => h.own_nil.sup (by (repeat (first | exact Sup.refl | apply Sup.cons (by (repeat (first | exact Pick.head | apply Pick.tail | apply Pick.app))) | apply Sup.app | apply Sup.skip | apply Sup.skips)))) ?_
      rintro ⟨k, ta, tc⟩ hk
      dsimp only at hk ⊢
      have hTk := hTl k hk
      refine J.seq ?_
      refine J.seq ?_
      refine J.region ?_
      refine JL.step (y_move rfl) rfl rfl rfl (JL.step (y_move rfl) rfl rfl rfl (JL.step (y_move rfl) rfl rfl rfl ?_))
      refine JL.loud rfl (l_callF e15 rfl rfl (rneed_spec E z (by omega) _) ?_)
      rintro _ _ ⟨rfl, rfl⟩
      refine JL.step (y_add rfl rfl (by (first | exact wrap_i64 (by omega) (by omega) | rfl))) rfl rfl rfl ?_
      refine JL.step (y_lss rfl rfl) rfl rfl rfl ?_
      refine JL.nil ?_
      refine JE.then_normal ?_
      focus
        first | apply J.cond_dec rfl | apply J.cond rfl
        focus
          intro h
          try (first | (exfalso; omega) | (cases h; done) | (exfalso; simp at h; done) | subst h)
          all_goals
            refine J.skip ?_
        rotate_right 1
        focus
          intro h
          try (first | (exfalso; omega) | (cases h; done) | (exfalso; simp at h; done) | subst h)
          all_goals
            refine J.exit ?_
            refine JE.then_exit ?_
            refine JE.then_exit ?_
            refine JE.block_exit ?_
            refine JE.then_normal ?_
            refine J.seq ?_
            obtain rfl : k = pieceN z := by omega
            have hTb := hTb _ (Nat.le_refl _)
            obtain ⟨T, hTe⟩ : ∃ T, tails bl used (pieceN z) = T := ⟨_, rfl⟩
            rw [hTe] at hTk hTb ⊢
            have hzN : z ≤ 63 * pieceN z := by unfold pieceN; omega
            obtain ⟨tx, htx⟩ : ∃ tx, T.take z = tx := ⟨_, rfl⟩
            have htl : tx.length = z := by rw [← htx, List.length_take]; omega
            have hta : txAt bl used = tx := by rw [txAt, hzs, hTe, htx]
            have hzs25 : z ≤ 40000 := by omega
            refine J.fact (p := OwnAt ta (63 * pieceN z) tc (ints .u8 T)) (fun w q => Sat.own_at (q.pick (by (repeat (first | exact Pick.head | apply Pick.tail | apply Pick.app))))) fun oT => ?_
            have hcut : ∀ l' r', Pick l' (own 5 1 (.slice ta (63 * pieceN z) tc) (63 * pieceN z) (ints .u8 T)) r' → InL l' ta z tc (ints .u8 tx) := fun l' r' hp => by
              have q := (oT.inl hp).cutTo z z hzN
              rwa [show (ints .u8 T).take z = ints .u8 tx by rw [← htx]; simp [ints, List.map_take]] at q
            obtain ⟨W, hW⟩ : ∃ W, secs turn n tx = W := ⟨_, rfl⟩
            have hWl : W.length = needN z := by rw [← hW, secs_length, htl]
            have hW64 : ∀ x ∈ W, x.length = 64 := fun x h => by rw [← hW] at h; exact secs_64 _ _ _ x h
            have hWE : ∀ x ∈ W, (encB x).length = 64 := fun x h => (encB_length x).trans (hW64 x h)
            have csec : ∀ l', InL l' ta z tc (ints .u8 tx) → Fc prog E 20 [Q turn, .int .i64 (n : Int), .slice ta z tc].toArray l' (fun v l'' => ∃ a c, v = .slice a (needN z) c ∧ l'' = own 42 64 v (needN z) (W.flatMap encB) :: l') := fun l' h => by
              have q := rsectors_spec E turn n ta tc z tx l' htl (by omega) h
              rwa [hW] at q
            refine J.region ?_
            refine JL.step (y_move rfl) rfl rfl rfl (JL.step (y_move rfl) rfl rfl rfl ?_)
            refine JL.step (y_cutTo hT rfl rfl rfl rfl rfl rfl hzN (oT.inl (l := [own 5 1 (.slice ta (63 * pieceN z) tc) (63 * pieceN z) (ints .u8 T)]) Pick.head)) rfl rfl rfl ?_
            refine JL.step (y_assign rfl) rfl rfl rfl ?_
            refine JL.nil ?_
            refine JE.then_normal ?_
            refine J.seq ?_
            refine J.region ?_
            refine JL.step (y_assign rfl) rfl rfl rfl ?_
            refine JL.nil ?_
            refine JE.then_normal ?_
            refine J.seq ?_
            refine J.seq ?_
            refine J.region ?_
            refine JL.step (y_move rfl) rfl rfl rfl (JL.step (y_move rfl) rfl rfl rfl (JL.step (y_len_slice hT rfl rfl rfl) rfl rfl rfl (JL.step (y_move rfl) rfl rfl rfl ?_)))
            refine JL.loud rfl (l_callF e20 rfl rfl (csec _ (hcut _ _ (by (repeat (first | exact Pick.head | apply Pick.tail | apply Pick.app))))) ?_)
            rintro _ _ ⟨sa, sc, rfl, rfl⟩
            refine JL.step (y_len_slice hT rfl rfl rfl) rfl rfl rfl (JL.step (y_move rfl) rfl rfl rfl ?_)
            refine JL.nil ?_
            refine JE.then_normal ?_
            refine J.block ?_
            refine J.fact (p := OwnAt sa (needN z) sc (W.flatMap encB)) (fun w s => Sat.own_at (s.pick (by (repeat (first | exact Pick.head | apply Pick.tail | apply Pick.app))))) fun oW => ?_
            refine J.loop (α := Nat × Bool) (fun s => s.1 ≤ needN z ∧ s.2 = decide ((bl.drop used).take s.1 = W.take s.1)) (fun s => [(0, Q turn), (1, .slice (some ⟨go, oo, none⟩) N cap), (5, .slice a n c), (6, .int .i64 used), (8, .int .i64 z), (9, .slice ta z tc), (11, .bool s.2), (70, .slice sa (needN z) sc), (71, .int .i64 (needN z)), (72, .int .i64 s.1)]) (fun _ => own 42 64 (.slice sa (needN z) sc) (needN z) (W.flatMap encB) :: own 5 1 (.slice ta (63 * pieceN z) tc) (63 * pieceN z) (ints .u8 T) :: own 36 1 (.slice a n c) n vals :: K :: l) (fun s => needN z - s.1) (0, true) ⟨Nat.zero_le _, rfl⟩ ⟨rfl, rfl, rfl, rfl, rfl, rfl, rfl, rfl, rfl, rfl, trivial⟩ (fun w h => h.sup (by (repeat (first | exact Sup.refl | apply Sup.cons (by (repeat (first | exact Pick.head | apply Pick.tail | apply Pick.app))) | apply Sup.app | apply Sup.skip | apply Sup.skips)))) ?_
            rintro ⟨j, sb⟩ ⟨hj, hsb⟩
            dsimp only at hj hsb ⊢
            refine J.seq ?_
            refine J.region ?_
            refine JL.step (y_lss rfl rfl) rfl rfl rfl ?_
            refine JL.nil ?_
            refine JE.then_normal ?_
            refine J.seq ?_
            focus
              first | apply J.cond_dec rfl | apply J.cond rfl
              focus
                intro h
                try (first | (exfalso; omega) | (cases h; done) | (exfalso; simp at h; done) | subst h)
                all_goals
                  refine J.skip ?_
              rotate_right 1
              focus
                intro h
                try (first | (exfalso; omega) | (cases h; done) | (exfalso; simp at h; done) | subst h)
                all_goals
                  refine J.exit ?_
                  refine JE.then_exit ?_
                  refine JE.then_exit ?_
                  refine JE.block_exit ?_
                  refine JE.then_normal ?_
                  refine J.seq ?_
                  refine J.seq ?_
                  obtain rfl : j = needN z := by omega
                  have hWt : W.take (needN z) = W := List.take_of_length_le (by omega)
                  rw [hWt] at hsb
                  refine J.region ?_
                  refine JL.step (y_move rfl) rfl rfl rfl (JL.step (y_not rfl) rfl rfl rfl ?_)
                  refine JL.nil ?_
                  refine JE.then_normal ?_
                  focus
                    first | apply J.cond_dec rfl | apply J.cond rfl
                    focus
                      intro h
                      try (first | (exfalso; omega) | (cases h; done) | (exfalso; simp at h; done) | subst h)
                      all_goals
                        have hno : nextTx turn n bl used = none := by
                          rw [nextTx, if_neg]
                          rintro ⟨_, h2⟩
                          rw [hzs, hta, hW] at h2
                          rw [decide_eq_true h2] at hsb
                          rw [hsb] at h
                          cases h
                        refine J.exit ?_
                        refine JE.then_exit ?_
                        refine JE.block_past rfl ?_
                        refine JE.then_exit ?_
                        refine JE.block_exit ?_
                        refine JE.then_normal ?_
                        refine J.seq ?_
                        refine J.region ?_
                        refine JL.step (y_move rfl) rfl rfl rfl (JL.step (y_assign rfl) rfl rfl rfl ?_)
                        refine JL.nil ?_
                        refine JE.then_normal ?_
                        refine J.ret ?_
                        refine JE.ret1 (.inl rfl) rfl rfl (by (first | exact RV.tmp rfl | exact RV.cell1 hT rfl rfl rfl (by (exact Rd1.row (by (repeat (first | exact Pick.head | apply Pick.tail | apply Pick.app))) (by rfl))) | exact RV.cellN hT rfl rfl rfl (by (first | exact RdN.rowAll (by (repeat (first | exact Pick.head | apply Pick.tail | apply Pick.app))) | exact RdN.own (by (repeat (first | exact Pick.head | apply Pick.tail | apply Pick.app))))) (by (first | rfl | assumption | (simp; done) | omega)))) ?_
                        have hres := hend hno
                        refine ⟨own 36 1 (.slice a n c) n vals :: K :: l, fun w q => q.sup (by (repeat (first | exact Sup.refl | apply Sup.cons (by (repeat (first | exact Pick.head | apply Pick.tail | apply Pick.app))) | apply Sup.app | apply Sup.skip | apply Sup.skips))), a, c, n, vals, K, rfl, by rw [hres]; exact hn, by rw [hres]; exact hTx, rfl⟩
                    rotate_right 1
                    focus
                      intro h
                      try (first | (exfalso; omega) | (cases h; done) | (exfalso; simp at h; done) | subst h)
                      all_goals
                        have hyes : nextTx turn n bl used = some tx := by
                          have h2 : (bl.drop used).take (needN z) = W := by
                            have h' : sb = true := by simpa using h
                            rw [h'] at hsb
                            exact of_decide_eq_true hsb.symm
                          rw [nextTx, if_pos, hta]
                          rw [hzs, hta, hW]
                          exact ⟨by omega, h2⟩
                        have hsc' : scan turn bl (N - (used + needN z)) (txs ++ [tx]) (used + needN z) = scan turn bl N [] 0 := by
                          rw [← hsc]
                          obtain ⟨f, hf⟩ : ∃ f, N - used = f + 1 := ⟨N - used - 1, by omega⟩
                          rw [hf, scan, hn, hyes]
                          dsimp only
                          rw [htl]
                          exact scan_enough turn bl _ _ _ _ (by omega) (by omega)
                        have hlen1 : (txs ++ [tx]).length = n + 1 := by simp [hn]
                        refine J.skip ?_
                  all_goals refine JE.then_normal ?_
                  all_goals
                    refine J.seq ?_
                    refine J.region ?_
                    refine JL.step (y_move rfl) rfl rfl rfl (JL.step (y_move rfl) rfl rfl rfl ?_)
                    refine JL.loud rfl (l_buildSliceP hT rfl rfl rfl rfl rfl rfl rfl (by (first | exact fill_one rfl (by first | assumption | rfl | (simp; done)) | rfl | simp)) rfl (fun b6 => ?_))
                    refine JL.loud rfl (l_append hT rfl rfl rfl rfl rfl rfl rfl rfl (by (repeat (first | exact Pick.head | apply Pick.tail | apply Pick.app))) (by (first | exact RdN.rowAll (by (repeat (first | exact Pick.head | apply Pick.tail | apply Pick.app))) | exact RdN.own (by (repeat (first | exact Pick.head | apply Pick.tail | apply Pick.app))))) (by (first | rfl | assumption | (simp; done) | omega)) (by (first | assumption | exact ones_of rfl | exact encW_one _ | exact encB_one _ | (intro u hu; simp at hu; rcases hu with rfl | rfl <;> rfl) | (intro u hu; simp at hu; subst hu; rfl) | simp)) (by rw [show i36.bytes = 24 from rfl]; omega) (by omega) rfl (fun na nc hnc => ?_))
                    refine JL.step (y_assign rfl) rfl rfl rfl ?_
                    refine JL.nil ?_
                    refine JE.then_normal ?_
                    refine J.region ?_
                    refine JL.step (y_move rfl) rfl rfl rfl (JL.step (y_move rfl) rfl rfl rfl ?_)
                    refine JL.loud rfl (l_callF e15 rfl rfl (rneed_spec E z (by omega) _) ?_)
                    rintro _ _ ⟨rfl, rfl⟩
                    refine JL.step (y_add rfl rfl (by (first | exact wrap_i64 (by omega) (by omega) | rfl))) rfl rfl rfl ?_
                    refine JL.step (y_assign rfl) rfl rfl rfl ?_
                    refine JL.nil ?_
                  all_goals
                    refine JE.block_normal ?_
                    refine JE.round (s := (txs, used, a, c, vals, K)) (txs ++ [tx], used + needN z, na, nc, vals ++ [.slice ta z tc], stars [K, own 5 1 (.slice ta (63 * pieceN z) tc) (63 * pieceN z) (ints .u8 T)]) ⟨by dsimp only; rw [hlen1]; omega, by dsimp only; omega, hsc', ?_⟩ ⟨rfl, rfl, by dsimp only; rw [hlen1]; rfl, rfl, trivial⟩ (fun w q => ?_) (by dsimp only; omega)
                    · have z1 := hTx.push (K2 := own 5 1 (.slice ta (63 * pieceN z) tc) (63 * pieceN z) (ints .u8 T)) (q := ta) (c := tc) (b := tx) (by rw [htl]; exact hcut _ _ Pick.head)
                      rwa [htl] at z1
                    · dsimp only
                      rw [hlen1]
                      have z1 := q.sup (p := [K, own 5 1 (.slice ta (63 * pieceN z) tc) (63 * pieceN z) (ints .u8 T)] ++ (own 36 1 (.slice na (n + 1) nc) (n + 1) (vals ++ [.slice ta z tc]) :: l)) (by (repeat (first | exact Sup.refl | apply Sup.cons (by (repeat (first | exact Pick.head | apply Pick.tail | apply Pick.app))) | apply Sup.app | apply Sup.skip | apply Sup.skips)))
                      exact (Sat.fold z1).sup (by (repeat (first | exact Sup.refl | apply Sup.cons (by (repeat (first | exact Pick.head | apply Pick.tail | apply Pick.app))) | apply Sup.app | apply Sup.skip | apply Sup.skips)))
            all_goals refine JE.then_normal ?_
            all_goals
              refine J.seq ?_
              refine J.block ?_
              refine J.seq ?_
              have hltj : j < needN z := by omega
              obtain ⟨gs, rfl⟩ := oW.at_.resolve_right fun ⟨h0, _⟩ => by have := oW.le; omega
              obtain ⟨Y, hY⟩ : ∃ Y, W[j]? = some Y := ⟨_, List.getElem?_eq_getElem (by omega)⟩
              obtain ⟨X, hX⟩ : ∃ X, bl[used + j]? = some X := ⟨_, List.getElem?_eq_getElem (by omega)⟩
              have hY64 := hW64 Y (List.mem_of_getElem? hY)
              have hX64 := h64 X (List.mem_of_getElem? hX)
              have hYL := hWE Y (List.mem_of_getElem? hY)
              have hXL := hE X (List.mem_of_getElem? hX)
              have e1 : (bl.drop used).take (j + 1) = (bl.drop used).take j ++ [X] := by rw [List.take_add_one, List.getElem?_drop, hX]; rfl
              have e2 : W.take (j + 1) = W.take j ++ [Y] := by rw [List.take_add_one, hY]; rfl
              have hlj : ((bl.drop used).take j).length = (W.take j).length := by simp [hWl, hN]; omega
              have e3 : ((bl.drop used).take (j + 1) = W.take (j + 1)) ↔ ((bl.drop used).take j = W.take j ∧ X = Y) := by
                rw [e1, e2]
                constructor
                · intro h
                  obtain ⟨h1, h2⟩ := List.append_inj h hlj
                  exact ⟨h1, by simpa using h2⟩
                · rintro ⟨h1, h2⟩
                  rw [h1, h2]
              refine J.region ?_
              refine JL.step (y_move rfl) rfl rfl rfl ?_
              refine JL.step (y_indexAddr_slice hT rfl rfl rfl rfl rfl (by (first | omega | exact Nat.le_of_ble_eq_true rfl | decide | (simp; omega))) (by (first | omega | exact Nat.le_of_ble_eq_true rfl | decide | (simp; omega)))) rfl rfl rfl ?_
              refine JL.step (y_loadN hT rfl rfl rfl (RdN.elem (RdN.own (by (repeat (first | exact Pick.head | apply Pick.tail | apply Pick.app)))) hWE hY) hYL) rfl rfl rfl ?_
              refine JL.loud rfl (l_alloc hT rfl rfl (by (first | rfl | simp)) rfl (fun b8 => ?_))
              refine JL.step (y_assign rfl) rfl rfl rfl ?_
              refine JL.loud rfl (l_storeAll hT rfl rfl rfl (by (first | rfl | assumption | (simp; done) | omega)) (by (first | assumption | exact ones_of rfl | exact encW_one _ | exact encB_one _ | (intro u hu; simp at hu; rcases hu with rfl | rfl <;> rfl) | (intro u hu; simp at hu; subst hu; rfl) | simp)) (by (repeat (first | exact Pick.head | apply Pick.tail | apply Pick.app))) (by (first | rfl | assumption | (simp; done) | omega)) ?_)
              refine JL.nil ?_
              refine JE.then_normal ?_
              have hsb2 : ((bl.drop used).take j = W.take j ∧ sb = true) ∨ (¬ (bl.drop used).take j = W.take j ∧ sb = false) := by
                by_cases hS : (bl.drop used).take j = W.take j
                · exact .inl ⟨hS, by rw [hsb]; exact decide_eq_true hS⟩
                · exact .inr ⟨hS, by rw [hsb]; exact decide_eq_false hS⟩
              rcases hsb2 with ⟨hS1, rfl⟩ | ⟨hS0, rfl⟩
              all_goals
                refine J.draw _ _ [(0, .q), (1, .q), (2, .q), (3, .q), (4, .q), (5, .q), (6, .q), (7, .q), (8, .q), (9, .q), (10, .q), (11, .q)] mixed (by kernel_rfl) (Split.nil) ?_
                refine JM.quiet rfl rfl rfl rfl (fun m => y_move rfl) ?_
                refine JM.quiet rfl rfl rfl rfl (fun m => y_move rfl) ?_
                all_goals (first | refine JM.gskip rfl rfl rfl rfl rfl rfl rfl ?_ | refine JM.gskipU rfl rfl rfl rfl rfl rfl ?_ | refine JM.gquiet rfl rfl rfl rfl rfl rfl (fun m => y_move rfl) ?_)
                all_goals (first | refine JM.gskip rfl rfl rfl rfl rfl rfl rfl ?_ | refine JM.gskipU rfl rfl rfl rfl rfl rfl ?_ | refine JM.gquiet rfl rfl rfl rfl rfl rfl (fun m => y_move rfl) ?_)
                all_goals (first | refine JM.gskip rfl rfl rfl rfl rfl rfl rfl ?_ | refine JM.gskipU rfl rfl rfl rfl rfl rfl ?_ | refine JM.gquiet rfl rfl rfl rfl rfl rfl (fun m => y_move rfl) ?_)
                first | refine JM.gskip rfl rfl rfl rfl rfl rfl rfl ?_ | refine JM.gskipU rfl rfl rfl rfl rfl rfl ?_ | refine JM.gquiet rfl rfl rfl rfl rfl rfl (fun m => y_add (m := ((used + j : Nat) : Int)) rfl rfl (by rw [show (used : Int) + (j : Int) = ((used + j : Nat) : Int) by omega]; exact wrap_i64 (by omega) (by omega))) ?_
                all_goals (first | refine JM.gskip rfl rfl rfl rfl rfl rfl rfl ?_ | refine JM.gskipU rfl rfl rfl rfl rfl rfl ?_ | refine JM.gquiet rfl rfl rfl rfl rfl rfl (fun m => y_indexAddr_slice hT rfl rfl rfl rfl rfl (by (first | omega | exact Nat.le_of_ble_eq_true rfl | decide | (simp; omega))) (by (first | omega | exact Nat.le_of_ble_eq_true rfl | decide | (simp; omega)))) ?_)
                first | refine JM.gskip rfl rfl rfl rfl rfl rfl rfl ?_ | refine JM.gskipU rfl rfl rfl rfl rfl rfl ?_ | refine JM.gquiet rfl rfl rfl rfl rfl rfl (fun m => y_loadN hT rfl rfl rfl (RdN.elem (i := used + j) (hrd _ (InL.app (by (repeat (first | assumption | apply InL.cons | apply InL.app))) m)) hE hX) hXL) ?_
                all_goals (first | refine JM.gskip rfl rfl rfl rfl rfl rfl rfl ?_ | refine JM.gskipU rfl rfl rfl rfl rfl rfl ?_ | refine JM.gquiet rfl rfl rfl rfl rfl rfl (fun m => y_loadN hT rfl rfl rfl (by (first | exact RdN.rowAll (Pick.app m (by (repeat (first | exact Pick.head | apply Pick.tail | apply Pick.app)))) | exact RdN.own (Pick.app m (by (repeat (first | exact Pick.head | apply Pick.tail | apply Pick.app)))))) (by (first | rfl | assumption | (simp; done) | omega))) ?_)
                first | refine JM.gskip rfl rfl rfl rfl rfl rfl rfl ?_ | refine JM.gskipU rfl rfl rfl rfl rfl rfl ?_ | refine JM.gquiet rfl rfl rfl rfl rfl rfl (fun m => y_arr_eq (xs := X) (ys := Y) hT rfl rfl rfl rfl rfl rfl rfl hX64 hY64) ?_
                all_goals refine JM.quiet rfl rfl rfl rfl (fun m => y_pick rfl rfl rfl) ?_
                all_goals refine JM.quiet rfl rfl rfl rfl (fun m => y_assign rfl) ?_
                all_goals refine JM.nil ?_
              all_goals refine JE.block_normal ?_
              all_goals refine JE.then_normal ?_
              all_goals
                refine J.region ?_
                refine JL.step (y_add rfl rfl (by (first | exact wrap_i64 (by omega) (by omega) | rfl))) rfl rfl rfl ?_
                refine JL.step (y_move rfl) rfl rfl rfl ?_
                refine JL.nil ?_
            all_goals
              first
                | (have zz := hS1
                   exact JE.round (s := (j, true)) (j + 1, decide (X = Y)) ⟨by dsimp only; omega, by dsimp only; exact decide_eq_decide.2 ⟨fun h => e3.2 ⟨hS1, h⟩, fun h => (e3.1 h).2⟩⟩ ⟨rfl, rfl, rfl, rfl, rfl, rfl, rfl, rfl, rfl, rfl, trivial⟩ (fun w q => q.sup (by (repeat (first | exact Sup.refl | apply Sup.cons (by (repeat (first | exact Pick.head | apply Pick.tail | apply Pick.app))) | apply Sup.app | apply Sup.skip | apply Sup.skips)))) (by dsimp only; omega))
                | (have zz := hS0
                   exact JE.round (s := (j, false)) (j + 1, false) ⟨by dsimp only; omega, by dsimp only; exact (decide_eq_false fun h => hS0 (e3.1 h).1).symm⟩ ⟨rfl, rfl, rfl, rfl, rfl, rfl, rfl, rfl, rfl, rfl, trivial⟩ (fun w q => q.sup (by (repeat (first | exact Sup.refl | apply Sup.cons (by (repeat (first | exact Pick.head | apply Pick.tail | apply Pick.app))) | apply Sup.app | apply Sup.skip | apply Sup.skips)))) (by dsimp only; omega))
      all_goals refine JE.then_normal ?_
      all_goals
        refine J.seq ?_
        refine J.block ?_
        have hlk : k < pieceN z := by omega
        obtain ⟨X, hX⟩ : ∃ X, bl[used + 1 + k]? = some X := ⟨_, List.getElem?_eq_getElem (by omega)⟩
        have hX64 := h64 X (List.mem_of_getElem? hX)
        have hXd : bl.getD (used + 1 + k) [] = X := by rw [List.getD_eq_getElem?_getD, hX]; rfl
        have htn : tails bl used (k + 1) = tails bl used k ++ X.drop 1 := by rw [tails, hXd]
        have hsrc : InL l (some ⟨go, oo + (used + 1 + k) * 64 + 1 * 1, none⟩) 63 63 (ints .u8 (X.drop 1)) := ⟨by decide, by decide, .inl ⟨go, _, rfl, fun mm => (RdN.elem (hro mm) hE hX).sub 1 63 (by simp [encB, ints, hX64, List.take_of_length_le])⟩⟩
        refine J.region ?_
        refine JL.step (y_move rfl) rfl rfl rfl (JL.step (y_move rfl) rfl rfl rfl (JL.step (y_move rfl) rfl rfl rfl ?_))
        refine JL.step (y_indexAddr_slice hT rfl rfl rfl rfl rfl (by (first | omega | exact Nat.le_of_ble_eq_true rfl | decide | (simp; omega))) (by (first | omega | exact Nat.le_of_ble_eq_true rfl | decide | (simp; omega)))) rfl rfl rfl ?_
        refine JL.step (y_slice_arr (lo := 1) (hi := 64) hT rfl rfl rfl rfl (.inr ⟨_, _, _, rfl, rfl, rfl⟩) (.inl ⟨rfl, rfl⟩) (by decide) (by decide)) rfl rfl rfl ?_
        rw [if_neg (show ¬ 64 = 1 by decide)]
        refine JL.loud rfl (l_appendIn (nn := 63 * k) (m := 63) hT rfl rfl rfl rfl rfl rfl rfl rfl (by (repeat (first | exact Pick.head | apply Pick.tail | apply Pick.app))) (by (repeat (first | assumption | apply InL.cons | apply InL.app))) (by simp [ints, hX64]; rfl) (ints_one _ _) (by rw [show i5.bytes = 1 from rfl]; omega) (by omega) rfl (fun na nc hnc => ?_))
        refine JL.step (y_assign rfl) rfl rfl rfl ?_
        refine JL.nil ?_
        refine JE.block_normal ?_
        refine JE.then_normal ?_
        refine J.region ?_
        refine JL.step (y_move rfl) rfl rfl rfl ?_
        refine JL.step (y_add rfl rfl (by (first | exact wrap_i64 (by omega) (by omega) | rfl))) rfl rfl rfl ?_
        refine JL.step (y_assign rfl) rfl rfl rfl ?_
        refine JL.nil ?_
      all_goals
        refine JE.round (s := (k, ta, tc)) (k + 1, na, nc) (by dsimp only; omega) ⟨rfl, rfl, rfl, rfl, rfl, rfl, rfl, trivial⟩ (fun w q => ?_) (by dsimp only; omega)
        dsimp only
        rw [htn, show 63 * (k + 1) = 63 * k + 63 from rfl, show ints .u8 (tails bl used k ++ X.drop 1) = ints .u8 (tails bl used k) ++ ints .u8 (X.drop 1) by simp [ints]]
        exact q.sup (by (repeat (first | exact Sup.refl | apply Sup.cons (by (repeat (first | exact Pick.head | apply Pick.tail | apply Pick.app))) | apply Sup.app | apply Sup.skip | apply Sup.skips)))
end Go.Proofs.Ytmgagkpokmaefaa
namespace Go.Proofs.Ytmgagkpokmaefaa
open Go Go.SL
/-! Whatever is put into the log's sectors. -/
theorem snap_log {S : Sb} {was : List Int} {D D' : Dk} (h : Holds S was D) (hu : Up D') (hl : D'.safe.length = D.safe.length) (hf : ∀ j : Nat, j < D.base → D'.find (j : Int) = D.find (j : Int)) : Fits S D' ∧ snapS S D' = was := by
  have hp := h.fits.place
  have h2 := h.fits.two
  have hhl := half_le D h2
  have hh := half_eq hl
  have h1 := half_mul (D := D) hp
  have hsn : ∀ k, k ≤ D.half → snapB S D' k = snapB S D k := by
    intro k
    induction k with
    | zero => intro _; rfl
    | succ k ih =>
      intro hk2
      rw [snapB, snapB, ih (by omega), hh]
      obtain ⟨j, hj⟩ : ∃ j : Nat, 2 + S.place * (D.half : Int) + k = (j : Int) := ⟨(2 + S.place * (D.half : Int) + k).toNat, by omega⟩
      rw [hj, hu.read (by rw [hl]; omega), h.up.read (by omega), hf j (by unfold Dk.base; omega)]
  have hn2 : (S.size.toNat + 63) / 64 ≤ D.half := by have := h.fits.hi; omega
  exact ⟨⟨h.fits.hash, hp, h.fits.lo, by rw [hh]; exact h.fits.hi, by rw [hl]; exact h2⟩, by rw [snapS, hsn _ hn2]; exact h.snap⟩
def padB (xs : List Blk) (i : Nat) : Blk := xs.getD i zeroB
def padL (xs : List Blk) (i : Nat) : List Blk := (List.range i).map (padB xs)
theorem padL_next (xs : List Blk) (i : Nat) : padL xs (i + 1) = padL xs i ++ [padB xs i] := by simp [padL, List.range_succ]
theorem padL_length (xs : List Blk) (i : Nat) : (padL xs i).length = i := by simp [padL]
theorem padB_64 {xs : List Blk} (h : ∀ b ∈ xs, b.length = 64) (i : Nat) : (padB xs i).length = 64 := by
  rw [padB, List.getD_eq_getElem?_getD]
  rcases Nat.lt_or_ge i xs.length with hi | hi
  · rw [List.getElem?_eq_getElem hi]; exact h _ (List.getElem_mem _)
  · rw [List.getElem?_eq_none hi]; rfl
theorem padB_bytes {xs : List Blk} (h : ∀ b ∈ xs, Bytes b) (i : Nat) : Bytes (padB xs i) := by
  rw [padB, List.getD_eq_getElem?_getD]
  rcases Nat.lt_or_ge i xs.length with hi | hi
  · rw [List.getElem?_eq_getElem hi]; exact h _ (List.getElem_mem _)
  · rw [List.getElem?_eq_none hi]; exact Bytes.rep 64
/-- Some of the log's sectors are put. -/
structure PutI (xs : List Blk) (D : Dk) (i : Nat) (X : Dk) : Prop where
  up : Up X
  byt : Byt X
  len : X.safe.length = D.safe.length
  few : X.pending.length ≤ i
  find : ∀ j : Nat, X.find (j : Int) = if D.base ≤ j ∧ j < D.base + i then padB xs (j - D.base) else D.find (j : Int)
theorem PutI.start {xs : List Blk} {D : Dk} (hu : Up D) (hb : Byt D) (hp : D.pending = []) : PutI xs D 0 D := ⟨hu, hb, rfl, by rw [hp]; exact Nat.le_refl _, fun j => by rw [if_neg (by omega)]⟩
theorem PutI.step {xs : List Blk} {D X : Dk} {i : Nat} (h : PutI xs D i X) (h2 : 2 ≤ D.safe.length) (hi : i < D.slots) (h64 : ∀ b ∈ xs, b.length = 64) (hB : ∀ b ∈ xs, Bytes b) : ∃ X', X.put (i : Int) (padB xs i) = (X', 0) ∧ PutI xs D (i + 1) X' := by
  have hh := half_eq h.len
  have hb : X.base = D.base := by unfold Dk.base; rw [hh]
  have hs : X.slots = D.slots := by unfold Dk.slots; rw [hh, h.len]
  have hbs := base_slots D h2
  have hp := put_up h.up (by rw [h.len]; exact h2) (i := i) (by rw [hs]; exact hi) (padB xs i)
  have hB2 := h.byt.put (i : Int) (padB_bytes hB i)
  rw [hp] at hB2
  refine ⟨_, hp, h.up.push (by rw [h.len]; omega) (padB_64 h64 i), hB2, h.len, ?_, fun j => ?_⟩
  · have := h.few
    simp only [Dk.push, Dk.does, List.length_append, List.length_singleton]
    omega
  · rw [dk_find_push, h.find, hb]
    by_cases hj : D.base + i = j
    · rw [if_pos (by omega), if_pos (by omega), show j - D.base = i by omega]
    · rw [if_neg (by omega)]
      by_cases hj2 : D.base ≤ j ∧ j < D.base + i
      · rw [if_pos hj2, if_pos (by omega)]
      · rw [if_neg hj2, if_neg (by omega)]
theorem PutI.slots {xs : List Blk} {D X : Dk} (h : PutI xs D D.slots X) : slotsL X = padL xs D.slots ∧ X.slots = D.slots := by
  have hh := half_eq h.len
  have hb : X.base = D.base := by unfold Dk.base; rw [hh]
  have hs : X.slots = D.slots := by unfold Dk.slots; rw [hh, h.len]
  refine ⟨List.ext_getElem (by rw [slotsL_length, padL_length, hs]) fun i h1 h3 => ?_, hs⟩
  have hi : i < D.slots := by rw [padL_length] at h3; exact h3
  have e1 : (slotsL X)[i] = (slotsL X).getD i [] := by rw [List.getD_eq_getElem?_getD, List.getElem?_eq_getElem h1]; rfl
  rw [e1, slotsL_find (by rw [hs]; exact hi), h.find, hb, if_pos (by omega), show D.base + i - D.base = i by omega]
  simp [padL]
end Go.Proofs.Ytmgagkpokmaefaa
