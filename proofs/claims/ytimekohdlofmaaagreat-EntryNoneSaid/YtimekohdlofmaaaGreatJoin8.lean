import Derived.Test.YtimekohdlofmaaaGreatJoin7
namespace Go.Proofs.YtimekohdlofmaaaGreat
open Go Go.SL
attribute [local irreducible] J JL JE JM LS Y Fc RV Code.wp wpList Code.wpIn wpListIn
attribute [local irreducible] Yc
variable (E : World)
theorem appL_arm {S : Sb} {D : Dk} {L : Lg} (h : LH S D L) (k : Nat) {tx : List Int} (hs : Small tx) (hroom : L.used + needN tx.length ≤ D.slots) : appL L S (D.arm k) tx = if (writeL L S (D.arm k) tx).2 = 0 then ({ L with txs := L.txs ++ [tx], used := L.used + needN tx.length }, (writeL L S (D.arm k) tx).1, 0) else ({ L with broken := true }, (writeL L S (D.arm k) tx).1, (writeL L S (D.arm k) tx).2) := by
  have hr : roomB L (D.arm k) (tx.length : Int) = true := (roomB_iff h tx.length).2 hroom
  rw [appL, if_neg (by rw [h.whole]; simp), if_pos hr]
theorem writeL_len (L : Lg) (S : Sb) (D : Dk) (tx : List Int) : (writeL L S D tx).1.safe.length = D.safe.length := by
  have h1 := (putsW_len L.used tx D (pieceN tx.length)).1
  unfold writeL
  dsimp only
  split
  · split
    · split
      · exact (sync_len _).1.trans ((put_len _ _ _).1.trans ((sync_len _).1.trans h1))
      · exact (put_len _ _ _).1.trans ((sync_len _).1.trans h1)
    · exact (sync_len _).1.trans h1
  · exact h1
theorem crash_len (D : Dk) (keep : List Bool) : (D.crash keep).safe.length = D.safe.length := liveOn_length _ _ _ _
end Go.Proofs.YtimekohdlofmaaaGreat
namespace Go.Proofs.YtimekohdlofmaaaGreat
open Go Go.SL
/-! A checkpoint that is cut, and what a cut leaves. -/
theorem LH.slots_same {S : Sb} {D D' : Dk} {L : Lg} (h : LH S D L) (hh : Holds S L.snap D') (hB : Byt D') (hsl : D'.slots = D.slots) (he : ∀ i, i < D.slots → (slotsL D').getD i [] = (slotsL D).getD i []) : LH S D' L :=
  ⟨hh, hB, h.whole, h.used, by rw [hsl]; exact h.fit, h.small, h.smalls, fun k t hkt => by
    refine (h.secs k t hkt).congr (by rw [slotsL_length, slotsL_length, hsl]) fun i h1 h3 => ?_
    have hfit := h.fit
    have hk : k < L.txs.length := by
      rcases Nat.lt_or_ge k L.txs.length with h | h
      · exact h
      · rw [List.getElem?_eq_none h] at hkt; cases hkt
    have hle : usedN (L.txs.take k) + needN t.length ≤ L.used := by
      have e1 : L.txs.take (k + 1) = L.txs.take k ++ [t] := by rw [List.take_add_one, hkt]; rfl
      have e2 : usedN L.txs = usedN (L.txs.take (k + 1)) + usedN (L.txs.drop (k + 1)) := by
        rw [usedN, usedN, usedN, ← List.sum_append, ← List.map_append, List.take_append_drop]
      rw [h.used, e2, e1, usedN_snoc]
      omega
    exact he i (by omega), fun i hi h1 => by
    rw [hsl] at hi
    rw [he i hi] at h1 ⊢
    exact h.old i hi h1⟩
theorem LH.kept {S : Sb} {D D' : Dk} {L : Lg} (h : LH S D L) (hk : Kept S D D') (hB : Byt D') : LH S D' L := by
  have h2 := h.holds.fits.two
  have hp := h.holds.fits.place
  have hh := half_eq hk.len
  have hb : D'.base = D.base := by unfold Dk.base; rw [hh]
  have hs : D'.slots = D.slots := by unfold Dk.slots; rw [hh, hk.len]
  have hbs := base_slots D h2
  have h5 : (1 - S.place) * (D.half : Int) ≤ D.half := by
    rcases hp with e | e <;> rw [e]
    · rw [show (1 - 0 : Int) = 1 by rfl, Int.one_mul]; omega
    · rw [show (1 - 1 : Int) = 0 by rfl, Int.zero_mul]; omega
  refine h.slots_same (holds_kept h.holds hk) hB hs fun i hi => ?_
  rw [slotsL_find (by rw [hs]; exact hi), slotsL_find hi, hb]
  exact hk.find _ (by omega) (by omega) (by unfold Dk.base; omega)
theorem LH.taken {S : Sb} {D D' : Dk} {L : Lg} (h : LH S D L) {state : List Int} (hs : Small state) (hl : state.length ≤ 64 * D.half) (ht : S.turn.toNat + 1 < 18446744073709551616) (hT : Taken S D state D') (hB : Byt D') :
    LH (nextS S state) D' ⟨state, [], 0, false⟩ := by
  have h2 := h.holds.fits.two
  have hp := h.holds.fits.place
  have hsl : D'.slots = D.slots := by unfold Dk.slots Dk.half; rw [hT.len]
  have htn := next_turn (bs := state) ht
  refine ⟨holds_taken h.holds hl ht hT, hB, rfl, rfl, Nat.zero_le _, hs, fun tx h => (by simp at h), fun k tx h => (by simp at h), fun i hi h1 => ?_⟩
  rw [hsl] at hi
  rw [taken_slots hT h2 hp hl hi] at h1 ⊢
  have := (h.old i hi h1).1
  rw [htn]
  exact ⟨by omega, fun _ => by omega⟩
/-- What a last call leaves, where the power may go: the log, the superblock and the disk behind it, its error; and that what lives is what was or what was to come. -/
structure Cuts (S : Sb) (D : Dk) (L A : Lg) (La : Lg) (Sa : Sb) (X : Dk) (f : Int) : Prop where
  few : X.pending.length ≤ 1000
  len : X.safe.length = D.safe.length
  out : (f = 7 ∧ La = { L with broken := true } ∧ Sa = S ∧ ∀ keep, (∃ S2, LH S2 (X.crash keep) L) ∨ (∃ S2, LH S2 (X.crash keep) A)) ∨
    (f = 0 ∧ La = A ∧ ∀ keep, LH Sa (X.crash keep) A)
end Go.Proofs.YtimekohdlofmaaaGreat
