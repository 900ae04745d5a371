import Derived.Test.YtimekohdlofmaaaGreatJoin5
namespace Go.Proofs.YtimekohdlofmaaaGreat
open Go Go.SL
theorem live_out (lv : Nat → Bool) (l : List (Int × Blk)) (k : Nat) (s : List Blk) (j : Nat) (hl : ∀ p ∈ l, p.1.toNat ≠ j) : (liveOn lv l k s).getD j [] = s.getD j [] := by
  induction l generalizing k s with
  | nil => rfl
  | cons p r ih =>
    rw [liveOn, ih _ _ (fun q hq => hl q (by simp [hq]))]
    split
    · have := hl p (by simp)
      simp [List.getD_eq_getElem?_getD, this]
    · rfl
theorem find_safe {D : Dk} (h : D.pending = []) (j : Int) : D.find j = D.safe.getD j.toNat [] := by simp [Dk.find, h]
theorem crash_find {X : Dk} (bs : List Bool) (j : Int) (hj : 0 ≤ j) (h : ∀ p ∈ X.pending, 0 ≤ p.1 ∧ p.1 ≠ j) : (X.crash bs).find j = X.safe.getD j.toNat [] := by
  rw [find_safe (D := X.crash bs) rfl]
  exact live_out (bitAt bs) X.pending 0 X.safe j.toNat (fun p hp => by have := h p hp; omega)
theorem crash_up {X : Dk} (h : X.Ok) (bs : List Bool) : Up (X.crash bs) ∧ (X.crash bs).pending = [] ∧ (X.crash bs).safe.length = X.safe.length :=
  ⟨⟨h.crash bs, rfl, rfl⟩, rfl, liveOn_length _ _ _ _⟩
/-- The pieces on their way. -/
structure OnWay (base : Int) (bs : List Int) (n : Nat) (D X : Dk) : Prop where
  ok : X.Ok
  safe : X.safe = D.safe
  pend : ∀ p ∈ X.pending, base ≤ p.1 ∧ p.1 < base + n
  few : X.pending.length ≤ n
theorem takeW_ar {D : Dk} {base : Int} {bs : List Int} {n k : Nat} (h : Ar D k) (hp : D.pending = []) (h0 : 0 ≤ base) (h1 : base + n ≤ D.safe.length) : ∀ j, j ≤ n →
    OnWay base bs n D (takeW base bs D j).1 ∧ (takeW base bs D j).1.pending.length ≤ j ∧
    (((takeW base bs D j).2 = 7 ∧ (takeW base bs D j).1.dead = true) ∨
    ((takeW base bs D j).2 = 0 ∧ (∃ k', Ar (takeW base bs D j).1 k') ∧ ∀ i : Int, (takeW base bs D j).1.find i = if base ≤ i ∧ i < base + j then chunk bs (i - base).toNat else D.find i))
  | 0, _ => ⟨⟨h.ok, rfl, by simp [takeW, hp], by simp [takeW, hp]⟩, by simp [takeW, hp], .inr ⟨rfl, ⟨k, h⟩, fun i => by rw [if_neg (by omega)]; rfl⟩⟩
  | j + 1, hj => by
    obtain ⟨hw, hpl, ⟨e, hd⟩ | ⟨e, ⟨k', ha⟩, hf⟩⟩ := takeW_ar h hp h0 h1 j (by omega)
    · have e2 : takeW base bs D (j + 1) = takeW base bs D j := by rw [takeW, if_neg (by rw [e]; decide)]
      rw [e2]
      exact ⟨hw, by omega, .inl ⟨e, hd⟩⟩
    · have e2 : takeW base bs D (j + 1) = (takeW base bs D j).1.write (base + j) (chunk bs j) := by rw [takeW, if_pos e]
      have hsl : (takeW base bs D j).1.safe.length = D.safe.length := by rw [hw.safe]
      rw [e2]
      rcases ha.write (i := base + j) (chunk_length bs j) (by rw [hsl]; omega) with ⟨_, e3⟩ | ⟨k2, _, e3, ha2⟩
      · rw [e3]
        exact ⟨⟨hw.ok.dies, hw.safe, hw.pend, hw.few⟩, by show (takeW base bs D j).1.pending.length ≤ j + 1; omega, .inl ⟨rfl, rfl⟩⟩
      · rw [e3]
        refine ⟨⟨ha2.ok, hw.safe, fun p hpp => ?_, ?_⟩, ?_, .inr ⟨rfl, ⟨k2, ha2⟩, fun i => ?_⟩⟩
        · simp only [Dk.push, Dk.does, List.mem_append, List.mem_singleton] at hpp
          rcases hpp with hpp | rfl
          · exact hw.pend p hpp
          · dsimp only; omega
        · simp only [Dk.push, Dk.does, List.length_append, List.length_singleton]; omega
        · simp only [Dk.push, Dk.does, List.length_append, List.length_singleton]; omega
        · dsimp only
          rw [dk_find_push, hf]
          by_cases hi : base + j = i
          · rw [if_pos hi, if_pos (by omega), show (i - base).toNat = j by omega]
          · rw [if_neg hi]
            by_cases hi2 : base ≤ i ∧ i < base + j
            · rw [if_pos hi2, if_pos (by omega)]
            · rw [if_neg hi2, if_neg (by omega)]
/-- What is left when the power went. -/
theorem kept_of {s : Sb} {D X : Dk} {base : Int} {bs : List Int} {n : Nat} (hD : D.pending = []) (hb : 2 + (1 - s.place) * (D.half : Int) = base) (hn : n ≤ D.half) (h0 : 0 ≤ base) (h : OnWay base bs n D X) (keep : List Bool) : Kept s D (X.crash keep) := by
  obtain ⟨hu, hp, hl⟩ := crash_up h.ok keep
  refine ⟨hu, hp, by rw [hl, h.safe], fun j hj0 hj1 hout => ?_⟩
  rw [crash_find keep j hj0 (fun p hpp => by have := h.pend p hpp; omega), h.safe, find_safe hD]
/-- A cut leaves all as it was, or as it was to come. -/
theorem cut_law {s : Sb} {D : Dk} {bs : List Int} {k : Nat} (h : Up D) (hD : D.pending = []) (hk : k ≤ 1000000) (h2 : 2 ≤ D.safe.length) (hp : s.place = 0 ∨ s.place = 1) (hl : bs.length ≤ 64 * D.half) :
    (takeS s (D.arm k) bs).2.1.pending.length ≤ 1000 ∧
    (((takeS s (D.arm k) bs).1 = s ∧ (takeS s (D.arm k) bs).2.2 = 7 ∧ (takeS s (D.arm k) bs).2.1.dead = true ∧ ∀ keep, Kept s D ((takeS s (D.arm k) bs).2.1.crash keep) ∨ Taken s D bs ((takeS s (D.arm k) bs).2.1.crash keep)) ∨
    ((takeS s (D.arm k) bs).1 = nextS s bs ∧ (takeS s (D.arm k) bs).2.2 = 0 ∧ (takeS s (D.arm k) bs).2.1.dead = false ∧ ∀ keep, Taken s D bs ((takeS s (D.arm k) bs).2.1.crash keep))) := by
  have hm := h.ok.most
  have h4 := half_le D h2
  have hA : Ar (D.arm k) k := ⟨⟨h.ok.safe, h.ok.pend, h.ok.some, h.ok.most, by simp only [Dk.arm]; omega⟩, h.dead, by simp [Dk.arm], rfl⟩
  obtain ⟨base, hb⟩ : ∃ base, 2 + (1 - s.place) * (D.half : Int) = base := ⟨_, rfl⟩
  obtain ⟨n, hn⟩ : ∃ n, (bs.length + 63) / 64 = n := ⟨_, rfl⟩
  have hbs : 0 ≤ base ∧ base + n ≤ D.safe.length ∧ 2 ≤ base := by
    have := half_mul (s := { s with place := 1 - s.place }) (D := D) (by dsimp only; omega)
    dsimp only at this
    omega
  have hnh : n ≤ D.half := by omega
  have hnx : nextS s bs = nextS s bs := rfl
  have hfa : ∀ i, (D.arm k).find i = D.find i := fun i => rfl
  obtain ⟨hw, hpl, hw2⟩ := takeW_ar (bs := bs) (n := n) hA (by exact hD) hbs.1 (by exact hbs.2.1) n (Nat.le_refl _)
  obtain ⟨t, ht⟩ : ∃ t : Nat, (nextS s bs).turn.toNat % 2 = t := ⟨_, rfl⟩
  have ht2 : t < 2 := by omega
  have hdef : takeS s (D.arm k) bs = (let w := takeW base bs (D.arm k) n
      if w.2 = 0 then
        if w.1.sync.2 = 0 then
          let v := w.1.sync.1.write (t : Int) (sbBlock (nextS s bs))
          if v.2 = 0 then
            if v.1.sync.2 = 0 then (nextS s bs, v.1.sync.1, 0) else (s, v.1.sync.1, v.1.sync.2)
          else (s, v.1, v.2)
        else (s, w.1.sync.1, w.1.sync.2)
      else (s, w.1, w.2)) := by
    unfold takeS
    rw [if_neg (show ¬ 64 * (D.arm k).half < bs.length from by show ¬ 64 * D.half < bs.length; omega)]
    rw [show 2 + (nextS s bs).place * ((D.arm k).half : Int) = base from hb, hn, ht]
  rw [hdef]
  dsimp only
  obtain ⟨W, hW⟩ : ∃ W, takeW base bs (D.arm k) n = W := ⟨_, rfl⟩
  rw [hW] at hw hpl hw2 ⊢
  have hwK : OnWay base bs n D W.1 := ⟨hw.ok, hw.safe, hw.pend, hw.few⟩
  have hwl : W.1.safe.length = D.safe.length := by rw [hwK.safe]
  rcases hw2 with ⟨e, hd⟩ | ⟨e, ⟨k1, ha⟩, hf⟩
  · rw [if_neg (by rw [e]; decide)]
    exact ⟨by show W.1.pending.length ≤ 1000; omega, .inl ⟨rfl, e, hd, fun keep => .inl (kept_of hD hb hnh hbs.1 hwK keep)⟩⟩
  rw [if_pos e]
  rcases ha.sync with ⟨_, e1⟩ | ⟨k2, _, e1, hy⟩
  · rw [e1, if_neg (show ¬ (7 : Int) = 0 by decide)]
    exact ⟨by show W.1.pending.length ≤ 1000; omega, .inl ⟨rfl, rfl, rfl, fun keep => .inl (kept_of (bs := bs) (X := W.1.dies) hD hb hnh hbs.1 ⟨hwK.ok.dies, hwK.safe, hwK.pend, hwK.few⟩ keep)⟩⟩
  rw [e1, if_pos rfl]
  dsimp only
  obtain ⟨Y, hY⟩ : ∃ Y, W.1.does.settle (fun _ => true) = Y := ⟨_, rfl⟩
  have hYp : Y.pending = [] := by rw [← hY]; rfl
  have hYl : Y.safe.length = D.safe.length := by rw [← hY]; simp [Dk.settle, liveOn_length, Dk.does, hwl]
  have hYf : ∀ j : Int, 0 ≤ j → j < D.safe.length → Y.find j = if base ≤ j ∧ j < base + n then chunk bs (j - base).toNat else D.find j := fun j hj0 hj1 => by
    rw [← hY, dk_find_settle hwK.ok j ⟨hj0, by omega⟩, hf, hfa]
  rw [hY] at hy ⊢
  have hYk : ∀ X : Dk, X.Ok → X.safe = Y.safe → X.pending = [] → ∀ keep, Kept s D (X.crash keep) := fun X hX hs hpe keep => by
    obtain ⟨hu, hp', hl'⟩ := crash_up hX keep
    refine ⟨hu, hp', by rw [hl', hs, hYl], fun j hj0 hj1 hout => ?_⟩
    rw [crash_find keep j hj0 (by rw [hpe]; simp), hs, ← find_safe hYp, hYf j hj0 hj1, if_neg (by omega)]
  rcases hy.write (i := (t : Int)) (b := sbBlock (nextS s bs)) (sbBlock_length (nextS_hash s bs)) (by omega) with ⟨_, e2⟩ | ⟨k3, _, e2, hv⟩
  · rw [e2, if_neg (show ¬ (7 : Int) = 0 by decide)]
    exact ⟨by show Y.pending.length ≤ 1000; rw [hYp]; decide, .inl ⟨rfl, rfl, rfl, fun keep => .inl (hYk Y.dies hy.ok.dies rfl hYp keep)⟩⟩
  rw [e2, if_pos rfl]
  dsimp only
  have hT : ∀ X : Dk, X.Ok → X.safe = Y.safe.set t (sbBlock (nextS s bs)) → X.pending = [] → ∀ keep, Taken s D bs (X.crash keep) := fun X hX hs hpe keep => by
    obtain ⟨hu, hp', hl'⟩ := crash_up hX keep
    refine ⟨hu, by rw [hl', hs, List.length_set, hYl], hp', fun j hj0 hj1 => ?_⟩
    rw [crash_find keep j hj0 (by rw [hpe]; simp), hs, ht, show 2 + (nextS s bs).place * (D.half : Int) = base from hb, hn]
    by_cases hjt : j = t
    · rw [if_pos hjt, hjt, List.getD_eq_getElem?_getD, show ((t : Int)).toNat = t from rfl, List.getElem?_set_self (by omega)]
      rfl
    · rw [if_neg hjt, ← hYf j hj0 hj1, find_safe hYp]
      simp [List.getD_eq_getElem?_getD, show ¬ t = j.toNat by omega]
  have hvp : (Y.does.push (t : Int) (sbBlock (nextS s bs))).pending = [((t : Int), sbBlock (nextS s bs))] := by simp [Dk.push, Dk.does, hYp]
  rcases hv.sync with ⟨_, e3⟩ | ⟨k4, _, e3, hz⟩
  · rw [e3, if_neg (show ¬ (7 : Int) = 0 by decide)]
    refine ⟨by show (Y.does.push (t : Int) (sbBlock (nextS s bs))).pending.length ≤ 1000; rw [hvp]; simp, .inl ⟨rfl, rfl, rfl, fun keep => ?_⟩⟩
    have hc : ((Y.does.push (t : Int) (sbBlock (nextS s bs))).dies.crash keep) = { (Y.does.push (t : Int) (sbBlock (nextS s bs))).dies with safe := if bitAt keep 0 then Y.safe.set t (sbBlock (nextS s bs)) else Y.safe, pending := [], dead := false, armed := false } := by
      simp [Dk.crash, Dk.settle, Dk.dies, hvp, liveOn]
      rfl
    have hce : ∀ X : Dk, X.pending = [] → X.dead = false → X.armed = false → X.crash keep = X := fun X h1 h2 h3 => by
      cases X
      simp only at h1 h2 h3
      subst h1 h2 h3
      rfl
    have hok := hv.ok.dies.crash keep
    rw [hc] at hok ⊢
    cases hb0 : bitAt keep 0 with
    | false =>
      rw [hb0] at hok
      have q := hYk _ hok rfl rfl keep
      rw [hce _ rfl rfl rfl] at q
      exact .inl q
    | true =>
      rw [hb0] at hok
      have q := hT _ hok rfl rfl keep
      rw [hce _ rfl rfl rfl] at q
      exact .inr q
  · rw [e3, if_pos rfl]
    refine ⟨Nat.zero_le _, .inr ⟨rfl, rfl, hz.dead, fun keep => hT _ hz.ok ?_ rfl keep⟩⟩
    show liveOn (fun _ => true) (Y.does.push (t : Int) (sbBlock (nextS s bs))).does.pending 0 Y.safe = _
    rw [show (Y.does.push (t : Int) (sbBlock (nextS s bs))).does.pending = [((t : Int), sbBlock (nextS s bs))] from hvp]
    rfl
end Go.Proofs.YtimekohdlofmaaaGreat
namespace Go.Proofs.YtimekohdlofmaaaGreat
open Go Go.SL
/-! A store that holds a snapshot (for the layers above). -/
theorem takeS_len (s : Sb) (D : Dk) (bs : List Int) : (takeS s D bs).2.1.safe.length = D.safe.length := by
  unfold takeS
  split
  · rfl
  · dsimp only
    obtain ⟨w, hw⟩ : ∃ w, takeW (2 + (nextS s bs).place * D.half) bs D ((bs.length + 63) / 64) = w := ⟨_, rfl⟩
    have h1 := (takeW_len (2 + (nextS s bs).place * D.half) bs D ((bs.length + 63) / 64)).1
    rw [hw] at h1 ⊢
    have h2 := (sync_len w.1).1
    have h3 := (write_len w.1.sync.1 (((nextS s bs).turn.toNat % 2 : Nat) : Int) (sbBlock (nextS s bs))).1
    have h4 := (sync_len (w.1.sync.1.write (((nextS s bs).turn.toNat % 2 : Nat) : Int) (sbBlock (nextS s bs))).1).1
    split
    · split
      · split
        · split
          · exact (h4.trans h3).trans (h2.trans h1)
          · exact (h4.trans h3).trans (h2.trans h1)
        · exact h3.trans (h2.trans h1)
      · exact h2.trans h1
    · exact h1
attribute [local irreducible] J JL JE JM LS Y Fc RV Code.wp wpList Code.wpIn wpListIn
attribute [local irreducible] Yc
variable (E : World)
theorem snapshot_ok (st d : Nat) (s : Sb) (D : Dk) (bs : List Int) (l : List HProp) (hf : Fits s D) (hdead : D.dead = false) (hpn : D.pending.length ≤ 1000000) (hb : snapS s D = bs) (hl : s.size.toNat = bs.length) (hs : (sha bs).take 16 = s.hash) :
    Fc prog E 107 [.pointer (some ⟨st, 0, none⟩)].toArray (row st 224 (scells s d) :: disk d D :: l)
      (fun v l' => ∃ a c, v = .tuple #[.slice a bs.length c, .int .i64 0] ∧ l' = own 5 1 (.slice a bs.length c) bs.length (ints .u8 bs) :: row st 224 (scells s d) :: disk d D :: l) :=
  (snapshot_spec E st d s D l hf hdead hpn).mono fun v l' h => by
    rw [hb, if_pos hs, hl] at h
    exact h
end Go.Proofs.YtimekohdlofmaaaGreat
