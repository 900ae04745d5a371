import Derived.Test.YtilifeeddpkclaaExt11
import Derived.Test.YtilifeeddpkclaaOct3
import Derived.Test.YtilifeeddpkclaaLaw11b
namespace Go.Proofs.Ytilifeeddpkclaa
open Go Go.SL
theorem takeS_len (s : Sb) (D : Dk) (bs : List Int) : (takeS s D bs).2.1.safe.length = D.safe.length := by
  unfold takeS
  split
  · rfl
  · dsimp only
    obtain ⟨w, hw⟩ : ∃ w, takeW (2 + (nextS s bs).place * D.half) bs D ((bs.length + 63) / 64) = w := ⟨_, rfl⟩
    have h1 := (takeW_len (2 + (nextS s bs).place * D.half) bs D ((bs.length + 63) / 64)).1
    rw [hw] at h1 ⊢
    have h2 := (sync_len w.1).1
    have h3 := (write_len w.1.sync.1 (((nextS s bs).turn.toNat % 2 : Nat) : Int) (sbBlock (nextS s bs))).1
    have h4 := (sync_len (w.1.sync.1.write (((nextS s bs).turn.toNat % 2 : Nat) : Int) (sbBlock (nextS s bs))).1).1
    split
    · split
      · split
        · split
          · exact (h4.trans h3).trans (h2.trans h1)
          · exact (h4.trans h3).trans (h2.trans h1)
        · exact h3.trans (h2.trans h1)
      · exact h2.trans h1
    · exact h1
theorem range_n (n : Int) (m : Nat) (hm : 0 < m) : ∃ k : Nat, (max n 0).tmod m = k ∧ k < m := by
  have h1 : 0 ≤ max n 0 := by omega
  have h2 := Int.emod_nonneg (max n 0) (show (m : Int) ≠ 0 by omega)
  have h3 := Int.emod_lt_of_pos (max n 0) (show (0 : Int) < m by omega)
  refine ⟨((max n 0).tmod m).toNat, ?_, ?_⟩
  · rw [Int.tmod_eq_emod_of_nonneg h1]; omega
  · rw [Int.tmod_eq_emod_of_nonneg h1]; omega
attribute [local irreducible] J JL JE JM LS Y Fc RV Code.wp wpList Code.wpIn wpListIn
attribute [local irreducible] Yc
variable (E : World)
/-- A disk that holds a snapshot is opened. -/
theorem open_holds (d : Nat) (D : Dk) (s : Sb) (w : List Int) (l : List HProp) (h : Holds s w D) (h64 : 64 ≤ D.safe.length) :
    Fc prog E 49 [.pointer (some ⟨d, 0, none⟩)].toArray (disk d D :: l) (fun v l' => ∃ st, v = .tuple #[.pointer (some ⟨st, 0, none⟩), .int .i64 0] ∧ l' = row st 125 (scells s d) :: disk d D :: l) :=
  (open_spec E d D l h64 h.up.dead (by rw [h.none]; decide)).mono fun v l' q => by
    rw [h.counts] at q
    simp only [openP] at q
    rw [if_pos ⟨h.fits.hi, by rw [h.snap]; exact h.hash⟩] at q
    exact q
theorem snapshot_holds (st d : Nat) (D : Dk) (s : Sb) (w : List Int) (l : List HProp) (h : Holds s w D) :
    Fc prog E 50 [.pointer (some ⟨st, 0, none⟩)].toArray (row st 125 (scells s d) :: disk d D :: l)
      (fun v l' => ∃ a c, v = .tuple #[.slice a w.length c, .int .i64 0] ∧ l' = own 5 1 (.slice a w.length c) w.length (ints .u8 w) :: row st 125 (scells s d) :: disk d D :: l) :=
  snapshot_ok E st d s D w l h.fits h.up.dead (by rw [h.none]; decide) h.snap (by rw [h.size]; rfl) h.hash
end Go.Proofs.Ytilifeeddpkclaa
