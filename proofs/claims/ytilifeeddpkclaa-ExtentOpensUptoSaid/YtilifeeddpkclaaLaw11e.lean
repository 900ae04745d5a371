import Derived.Test.YtilifeeddpkclaaLaw11d
namespace Go.Proofs.Ytilifeeddpkclaa
open Go Go.SL
/-! A disk that is opened, or not. -/
def Good (D : Dk) : Prop := ∃ s, D.counts = some s ∧ s.size ≤ 64 * (D.half : Int) ∧ (sha (snapS s D)).take 16 = s.hash
theorem counts_fits {D : Dk} (hok : D.Ok) (h2 : 2 ≤ D.safe.length) {s : Sb} (hc : D.counts = some s) (hs : s.size ≤ 64 * (D.half : Int)) : Fits s D := by
  rw [counts_pick] at hc
  split at hc
  · rename_i hk
    obtain rfl := Option.some.inj hc
    have hl : (rpick (D.find 0) (D.find 1)).length = 64 := by
      unfold rpick
      split
      · exact hok.find ⟨by omega, by omega⟩
      · exact hok.find ⟨by omega, by omega⟩
    exact ⟨sbRead_hash hl, sbOk_place hk, sbRead_size _, hs, h2⟩
  · cases hc
theorem counts_some {D : Dk} {s : Sb} (hc : D.counts = some s) : sbOk (rpick (D.find 0) (D.find 1)) = true ∧ s = sbRead (rpick (D.find 0) (D.find 1)) := by
  rw [counts_pick] at hc
  split at hc
  · rename_i hk
    exact ⟨hk, (Option.some.inj hc).symm⟩
  · cases hc
/-- Two bytes, turned. -/
def xorB (a b : Int) : Int := ((BitVec.ofInt 8 a ^^^ BitVec.ofInt 8 b).toNat : Int)
def xorTo (b t : Blk) (k : Nat) : Blk := (List.range 64).map fun j => if j < k then xorB (b.getD j 0) (t.getD j 0) else b.getD j 0
@[simp] theorem xorTo_length (b t : Blk) (k : Nat) : (xorTo b t k).length = 64 := by simp [xorTo]
theorem xorTo_zero {b t : Blk} (h : b.length = 64) : xorTo b t 0 = b := by
  refine List.ext_getElem (by simp [h]) fun i h1 h2 => ?_
  simp [xorTo, List.getD_eq_getElem?_getD, h2]
theorem xorTo_get (b t : Blk) {k : Nat} (h : k < 64) : (xorTo b t k).getD k 0 = b.getD k 0 := by
  simp [xorTo, List.getD_eq_getElem?_getD, h]
theorem xorTo_next (b t : Blk) {k : Nat} (h : k < 64) : (xorTo b t k).set k (xorB (b.getD k 0) (t.getD k 0)) = xorTo b t (k + 1) := by
  refine List.ext_getElem (by simp) fun i h1 h2 => ?_
  have hi : i < 64 := by simpa using h2
  rw [List.getElem_set]
  simp only [xorTo, List.getElem_map, List.getElem_range]
  by_cases e : k = i
  · subst e
    rw [if_pos rfl, if_pos (by omega)]
  · rw [if_neg e]
    by_cases hk : i < k
    · rw [if_pos hk, if_pos (by omega)]
    · rw [if_neg hk, if_neg (by omega)]
theorem Bytes.xorTo {b : Blk} (hb : Bytes b) (t : Blk) (k : Nat) : Bytes (xorTo b t k) := fun x hx => by
  simp only [Go.Proofs.Ytilifeeddpkclaa.xorTo, List.mem_map, List.mem_range] at hx
  obtain ⟨j, _, rfl⟩ := hx
  split
  · have := (BitVec.ofInt 8 (b.getD j 0) ^^^ BitVec.ofInt 8 (t.getD j 0)).isLt
    unfold xorB
    omega
  · exact hb.getD j
theorem and_one (k : Nat) (h : k < 4294967296) : IntKind.i64.wrap ((BitVec.ofInt 64 (k : Int) &&& BitVec.ofInt 64 1).toNat : Int) = ((k % 2 : Nat) : Int) := by
  have e : (BitVec.ofInt 64 (k : Int) &&& BitVec.ofInt 64 1).toNat = k % 2 := by
    rw [BitVec.toNat_and, BitVec.toNat_ofInt, BitVec.toNat_ofInt, show (((k : Int) % ((2 ^ 64 : Nat) : Int)).toNat) = k by omega, show ((((1 : Int)) % ((2 ^ 64 : Nat) : Int)).toNat) = 1 by decide, Nat.and_one_is_mod]
  rw [e, wrap_i64 (by omega) (by omega)]
attribute [local irreducible] J JL JE JM LS Y Fc RV Code.wp wpList Code.wpIn wpListIn
attribute [local irreducible] Yc
variable (E : World)
section
variable (D : Dk) (hok : D.Ok) (hdead : D.dead = false) (h2 : 64 ≤ D.safe.length) (kb : Bool) (hkb : kb = true ↔ Good D)
include hok hdead h2 hkb
theorem osnap_spec (hbyt : Byt D) (n : Nat) (hn : D.safe.length = n) (p : Option Addr) (cap : Nat) (l : List HProp) (hin : InL l p n cap (D.cur.flatMap encB)) :
    Fc prog E 48 [.agg #[.slice p n cap]].toArray l (fun v l' => ∃ a m c g, v = .tuple #[.slice a m c, .bool kb] ∧ l' = g ++ l ∧ (kb = true → ∀ s, D.counts = some s → m = (snapS s D).length ∧ g = [own 5 1 (.slice a m c) m (ints .u8 (snapS s D))])) := by
  have h := rsnapshot_spec E D hok hbyt hdead h2 n hn p cap l hin
  refine h.mono fun v l' q => ?_
  cases hc : D.counts with
  | none =>
    rw [hc] at q
    have hb : kb = false := Bool.eq_false_iff.2 fun h => by
      obtain ⟨s, h1, _⟩ := hkb.1 h
      rw [hc] at h1; cases h1
    subst hb
    exact ⟨none, 0, 0, [], q.1, q.2, fun h => by cases h⟩
  | some s =>
    rw [hc] at q
    dsimp only at q
    split at q
    · rename_i hlt
      have hb : kb = false := Bool.eq_false_iff.2 fun h => by
        obtain ⟨s', h1, h2, _⟩ := hkb.1 h
        rw [hc] at h1; cases h1; omega
      subst hb
      exact ⟨none, 0, 0, [], q.1, q.2, fun h => by cases h⟩
    · rename_i hle
      obtain ⟨a, c, q1, q2⟩ := q
      have hb : kb = decide ((sha (snapS s D)).take 16 = s.hash) := by
        rw [Bool.eq_iff_iff, decide_eq_true_iff, hkb]
        constructor
        · rintro ⟨s', h1, _, h3⟩
          rw [hc] at h1; cases h1; exact h3
        · exact fun h => ⟨s, hc, by omega, h⟩
      subst q2
      refine ⟨a, s.size.toNat, c, [own 5 1 (.slice a s.size.toNat c) s.size.toNat (ints .u8 (snapS s D))], by rw [q1, hb], rfl, fun _ s' hs' => ?_⟩
      cases hs'
      exact ⟨(snapS_length hok s).symm, rfl⟩
omit hok in
theorem oopen_spec (d : Nat) (l : List HProp) (hpn : D.pending.length ≤ 1000000) :
    Fc prog E 49 [.pointer (some ⟨d, 0, none⟩)].toArray (disk d D :: l) (fun v l' => ∃ pv e g, v = .tuple #[.pointer pv, .int .i64 e] ∧ l' = g ++ (disk d D :: l) ∧ (kb = true → ∀ s, D.counts = some s → ∃ st, pv = some ⟨st, 0, none⟩ ∧ e = 0 ∧ g = [row st 125 (scells s d)]) ∧ (kb = false → pv = none ∧ e = 210 ∧ g = [])) := by
  refine (open_spec E d D l h2 hdead hpn).mono fun v l' q => ?_
  cases hc : D.counts with
  | none =>
    rw [hc] at q
    exact ⟨none, 210, [], q.1, q.2, (fun _ s h => by cases h), fun _ => ⟨rfl, rfl, rfl⟩⟩
  | some s =>
    rw [hc] at q
    simp only [openP] at q
    split at q
    · rename_i hg
      obtain ⟨st, q1, q2⟩ := q
      exact ⟨_, 0, [_], q1, q2, (fun _ s' h => by cases h; exact ⟨st, rfl, rfl, rfl⟩), fun h => by
        have : kb = true := hkb.2 ⟨s, hc, hg⟩
        rw [h] at this; cases this⟩
    · rename_i hg
      exact ⟨none, 210, [], q.1, q.2, (fun hb s' h => by
        obtain ⟨s2, h1, h3⟩ := hkb.1 hb
        rw [hc] at h1; cases h1
        exact absurd h3 hg), fun _ => ⟨rfl, rfl, rfl⟩⟩
end
end Go.Proofs.Ytilifeeddpkclaa
