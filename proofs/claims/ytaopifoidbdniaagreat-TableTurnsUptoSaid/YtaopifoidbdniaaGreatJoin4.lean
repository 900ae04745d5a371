import Derived.Test.YtaopifoidbdniaaGreatJoin1
import Derived.Test.YtaopifoidbdniaaGreatJoin2
import Derived.Test.YtaopifoidbdniaaGreatJoin3
namespace Go.Proofs.YtaopifoidbdniaaGreat
section
open Go Go.SL
/-! A table's rows. -/
abbrev Rw := ByteArray × ByteArray
def kvT (m : List Rw) : List (ByteArray × Value) := m.map fun p => (p.1, Value.string p.2)
theorem kvT_keys (m : List Rw) : (kvT m).map (·.1) = m.map (·.1) := by simp [kvT, Function.comp_def]
theorem kvT_length (m : List Rw) : (kvT m).length = m.length := by simp [kvT]
def rget : List Rw → ByteArray → Option ByteArray
 | [], _ => none
 | (b, v) :: r, a => if a = b then some v else rget r a
def rput : List Rw → ByteArray → ByteArray → List Rw
 | [], a, v => [(a, v)]
 | (b, u) :: r, a, v => if a = b then (a, v) :: r else (b, u) :: rput r a v
def rdel : List Rw → ByteArray → List Rw
 | [], _ => []
 | (b, u) :: r, a => if a = b then r else (b, u) :: rdel r a
theorem mlook_kvT (m : List Rw) (k : ByteArray) : mlook (kvT m) k = (rget m k).map Value.string := by
 induction m with
 | nil => rfl
 | cons p r ih =>
   obtain ⟨b, v⟩ := p
   show (if k = b then _ else mlook (kvT r) k) = _
   simp only [rget]
   split
   · rfl
   · exact ih
theorem mput_kvT (m : List Rw) (k v : ByteArray) : mput (kvT m) k (Value.string v) = kvT (rput m k v) := by
 induction m with
 | nil => rfl
 | cons p r ih =>
   obtain ⟨b, u⟩ := p
   show (if k = b then _ else _ :: mput (kvT r) k (Value.string v)) = _
   simp only [rput]
   split
   · rfl
   · rw [ih]; rfl
theorem mdel_kvT (m : List Rw) (k : ByteArray) : mdel (kvT m) k = kvT (rdel m k) := by
 induction m with
 | nil => rfl
 | cons p r ih =>
   obtain ⟨b, u⟩ := p
   show (if k = b then kvT r else _ :: mdel (kvT r) k) = _
   simp only [rdel]
   split
   · rfl
   · rw [ih]; rfl
def Srt (R : List Rw) : Prop := R.Pairwise fun x y => ltS x.1 y.1 = true
theorem ltS_irr (a : ByteArray) : ltS a a = false := swo_ltS.irrefl a
theorem ltS_ne {a b : ByteArray} (h : ltS a b = true) : a ≠ b := fun e => by subst e; rw [ltS_irr] at h; cases h
theorem ltS_total {a b : ByteArray} (h : a ≠ b) (h2 : ltS a b = false) : ltS b a = true := by
 have q := ltS_tri a b
 rw [h2] at q
 simp only [Bool.false_or, decide_eq_false h] at q
 cases e : ltS b a with
 | true => rfl
 | false => rw [e] at q; simp at q
theorem Srt.nodup {R : List Rw} (h : Srt R) : (R.map (·.1)).Nodup := (List.pairwise_map.2 (h.imp fun q => ltS_ne q))
theorem rget_mem {m : List Rw} (hn : (m.map (·.1)).Nodup) {k v : ByteArray} : rget m k = some v ↔ (k, v) ∈ m := by
 induction m with
 | nil => simp [rget]
 | cons p r ih =>
   obtain ⟨b, u⟩ := p
   simp only [List.map_cons, List.nodup_cons] at hn
   simp only [rget]
   split
   · next e =>
     subst e
     constructor
     · intro h; cases h; exact List.mem_cons_self ..
     · intro h
       rcases List.mem_cons.1 h with h | h
       · cases h; rfl
       · exact absurd (List.mem_map_of_mem (f := (·.1)) h) hn.1
   · next e =>
     rw [ih hn.2]
     constructor
     · exact List.mem_cons_of_mem _
     · intro h
       rcases List.mem_cons.1 h with h | h
       · cases h; exact absurd rfl e
       · exact h
theorem rget_perm {m R : List Rw} (hp : m.Perm R) (hn : (R.map (·.1)).Nodup) (k : ByteArray) : rget m k = rget R k := by
 have hm : (m.map (·.1)).Nodup := (hp.map _).nodup_iff.2 hn
 apply Option.ext
 intro v
 rw [rget_mem hm, rget_mem hn, hp.mem_iff]
theorem rget_none {m : List Rw} {k : ByteArray} : rget m k = none ↔ k ∉ m.map (·.1) := by
 induction m with
 | nil => simp [rget]
 | cons p r ih =>
   obtain ⟨b, u⟩ := p
   simp only [rget, List.map_cons, List.mem_cons, not_or]
   split
   · next e => simp [e]
   · next e => rw [ih]; exact ⟨fun h => ⟨e, h⟩, fun h => h.2⟩
def rins : List Rw → ByteArray → ByteArray → List Rw
 | [], k, v => [(k, v)]
 | (b, u) :: r, k, v => if ltS b k then (b, u) :: rins r k v else if b = k then (k, v) :: r else (k, v) :: (b, u) :: r
def rrem (R : List Rw) (k : ByteArray) : List Rw := R.filter fun p => decide (p.1 ≠ k)
theorem rins_mem {R : List Rw} {k v : ByteArray} (h : Srt R) {p : Rw} : p ∈ rins R k v ↔ p = (k, v) ∨ (p ∈ R ∧ p.1 ≠ k) := by
 induction R with
 | nil => simp [rins]
 | cons q r ih =>
   obtain ⟨b, u⟩ := q
   have hc := List.pairwise_cons.1 h
   simp only [rins]
   split
   · next e =>
     rw [List.mem_cons, ih hc.2]
     constructor
     · rintro (h | h | h)
       · subst h; exact .inr ⟨List.mem_cons_self .., ltS_ne e⟩
       · exact .inl h
       · exact .inr ⟨List.mem_cons_of_mem _ h.1, h.2⟩
     · rintro (h | ⟨h, h2⟩)
       · exact .inr (.inl h)
       · rcases List.mem_cons.1 h with h | h
         · exact .inl h
         · exact .inr (.inr ⟨h, h2⟩)
   · next e =>
     have hr : ∀ q ∈ r, q.1 ≠ k := fun q hq hk => by
      have := hc.1 q hq
      dsimp only at this
      rw [hk] at this
      exact e this
     split
     · next e2 =>
       subst e2
       rw [List.mem_cons]
       constructor
       · rintro (h | h)
         · exact .inl h
         · exact .inr ⟨List.mem_cons_of_mem _ h, hr p h⟩
       · rintro (h | ⟨h, h2⟩)
         · exact .inl h
         · rcases List.mem_cons.1 h with h | h
           · subst h; exact absurd rfl h2
           · exact .inr h
     · next e2 =>
       rw [List.mem_cons]
       constructor
       · rintro (h | h)
         · exact .inl h
         · refine .inr ⟨h, ?_⟩
           rcases List.mem_cons.1 h with h | h
           · subst h; exact e2
           · exact hr p h
       · rintro (h | ⟨h, _⟩)
         · exact .inl h
         · exact .inr h
theorem rins_srt {R : List Rw} (h : Srt R) (k v : ByteArray) : Srt (rins R k v) := by
 induction R with
 | nil => exact List.pairwise_singleton ..
 | cons q r ih =>
   obtain ⟨b, u⟩ := q
   have hc := List.pairwise_cons.1 h
   simp only [rins]
   split
   · next e =>
     refine List.pairwise_cons.2 ⟨fun p hp => ?_, ih hc.2⟩
     rcases (rins_mem hc.2).1 hp with rfl | ⟨hp, _⟩
     · exact e
     · exact hc.1 p hp
   · next e =>
     have e : ltS b k = false := by simpa using e
     split
     · next e2 => subst e2; exact List.pairwise_cons.2 ⟨hc.1, hc.2⟩
     · next e2 =>
       have hkb := ltS_total e2 e
       refine List.pairwise_cons.2 ⟨fun p hp => ?_, h⟩
       rcases List.mem_cons.1 hp with rfl | hp
       · exact hkb
       · exact swo_ltS.trans _ _ _ hkb (hc.1 p hp)
theorem rrem_mem {R : List Rw} {k : ByteArray} {p : Rw} : p ∈ rrem R k ↔ p ∈ R ∧ p.1 ≠ k := by simp [rrem]
theorem rrem_srt {R : List Rw} (h : Srt R) (k : ByteArray) : Srt (rrem R k) := h.filter _
theorem rput_mem {m : List Rw} {k v : ByteArray} (hn : (m.map (·.1)).Nodup) {p : Rw} : p ∈ rput m k v ↔ p = (k, v) ∨ (p ∈ m ∧ p.1 ≠ k) := by
 induction m with
 | nil => simp [rput]
 | cons q r ih =>
   obtain ⟨b, u⟩ := q
   simp only [List.map_cons, List.nodup_cons] at hn
   simp only [rput]
   split
   · next e =>
     subst e
     rw [List.mem_cons]
     constructor
     · rintro (h | h)
       · exact .inl h
       · exact .inr ⟨List.mem_cons_of_mem _ h, fun e => hn.1 (e ▸ List.mem_map_of_mem (f := (·.1)) h)⟩
     · rintro (h | ⟨h, h2⟩)
       · exact .inl h
       · rcases List.mem_cons.1 h with h | h
         · subst h; exact absurd rfl h2
         · exact .inr h
   · next e =>
     rw [List.mem_cons, ih hn.2]
     constructor
     · rintro (h | h | h)
       · subst h; exact .inr ⟨List.mem_cons_self .., fun h => e h.symm⟩
       · exact .inl h
       · exact .inr ⟨List.mem_cons_of_mem _ h.1, h.2⟩
     · rintro (h | ⟨h, h2⟩)
       · exact .inr (.inl h)
       · rcases List.mem_cons.1 h with h | h
         · exact .inl h
         · exact .inr (.inr ⟨h, h2⟩)
theorem rput_keys {m : List Rw} {k v : ByteArray} (hn : (m.map (·.1)).Nodup) : ((rput m k v).map (·.1)).Nodup := by
 induction m with
 | nil => simp [rput]
 | cons q r ih =>
   obtain ⟨b, u⟩ := q
   simp only [List.map_cons, List.nodup_cons] at hn
   simp only [rput]
   split
   · next e => subst e; simpa using hn
   · next e =>
     simp only [List.map_cons, List.nodup_cons]
     refine ⟨fun hb => ?_, ih hn.2⟩
     obtain ⟨p, hp, rfl⟩ := List.mem_map.1 hb
     rcases (rput_mem hn.2).1 hp with h | ⟨h, _⟩
     · subst h; exact e rfl
     · exact hn.1 (List.mem_map_of_mem (f := (·.1)) h)
theorem rdel_filter {m : List Rw} {k : ByteArray} (hn : (m.map (·.1)).Nodup) : rdel m k = rrem m k := by
 induction m with
 | nil => rfl
 | cons q r ih =>
   obtain ⟨b, u⟩ := q
   simp only [List.map_cons, List.nodup_cons] at hn
   simp only [rdel]
   split
   · next e =>
     subst e
     have : rrem r k = r := List.filter_eq_self.2 fun p hp => by
      simp only [decide_eq_true_eq]
      exact fun e => hn.1 (e ▸ List.mem_map_of_mem (f := (·.1)) hp)
     simp only [rrem, List.filter_cons, ne_eq, not_true_eq_false, decide_false]
     exact this.symm
   · next e =>
     have e2 : b ≠ k := fun h => e h.symm
     simp only [rrem, List.filter_cons, e2, ne_eq, not_false_eq_true, decide_true, if_true]
     rw [ih hn.2]
     rfl
theorem perm_mem {xs ys : List Rw} (h1 : (xs.map (·.1)).Nodup) (h2 : (ys.map (·.1)).Nodup) (h : ∀ p, p ∈ xs ↔ p ∈ ys) : xs.Perm ys :=
 (List.perm_ext_iff_of_nodup ((List.pairwise_map.1 h1).imp fun q e => q (congrArg (·.1) e)) ((List.pairwise_map.1 h2).imp fun q e => q (congrArg (·.1) e))).2 h
theorem rput_perm {m R : List Rw} (hp : m.Perm R) (hR : Srt R) (k v : ByteArray) : (rput m k v).Perm (rins R k v) := by
 have hm : (m.map (·.1)).Nodup := (hp.map _).nodup_iff.2 hR.nodup
 refine perm_mem (rput_keys hm) (rins_srt hR k v).nodup fun p => ?_
 rw [rput_mem hm, rins_mem hR, hp.mem_iff]
theorem rdel_perm {m R : List Rw} (hp : m.Perm R) (hR : Srt R) (k : ByteArray) : (rdel m k).Perm (rrem R k) := by
 rw [rdel_filter ((hp.map _).nodup_iff.2 hR.nodup)]
 exact hp.filter _
theorem keys_eq : ∀ {R : List Rw} {vs : List ByteArray}, vs.Perm (R.map (·.1)) → (vs.Pairwise fun x y => ltS y x = false) → Srt R → vs = R.map (·.1)
 | [], vs, h, _, _ => by simpa using h
 | (k, v) :: R, vs, h, hx, hR => by
   cases vs with
   | nil => exact absurd h.symm.eq_nil (by simp)
   | cons x xs =>
     have hx1 := List.pairwise_cons.1 hx
     have hy1 := List.pairwise_cons.1 hR
     simp only [List.map_cons] at h ⊢
     have e : x = k := by
      have a1 : x ∈ k :: R.map (·.1) := h.subset (by simp)
      have a2 : k ∈ x :: xs := h.symm.subset (by simp)
      rcases List.mem_cons.1 a1 with q | q
      · exact q
      · rcases List.mem_cons.1 a2 with q2 | q2
        · exact q2.symm
        · obtain ⟨p, hp, rfl⟩ := List.mem_map.1 q
          have l1 := hy1.1 p hp
          have l2 := hx1.1 k q2
          dsimp only at l1
          rw [l1] at l2
          cases l2
     subst e
     rw [keys_eq (List.Perm.cons_inv h) hx1.2 hy1.2]
theorem rget_at {R : List Rw} (hR : Srt R) {i : Nat} {k v : ByteArray} (h : R[i]? = some (k, v)) : rget R k = some v := (rget_mem hR.nodup).2 (List.mem_of_getElem? h)
theorem rins_new {R : List Rw} (hR : Srt R) {k : ByteArray} (v : ByteArray) (h : rget R k = none) : (rins R k v).length = R.length + 1 := by
 induction R with
 | nil => rfl
 | cons q r ih =>
   obtain ⟨b, u⟩ := q
   have hc := List.pairwise_cons.1 hR
   have hne : k ≠ b := fun e => by simp [rget, e] at h
   simp only [rget, hne, if_false] at h
   simp only [rins]
   split
   · rw [List.length_cons, ih hc.2 h, List.length_cons]
   · rw [if_neg (fun e => hne e.symm)]; rfl
theorem rins_old {R : List Rw} (hR : Srt R) {k u : ByteArray} (v : ByteArray) (h : rget R k = some u) : (rins R k v).length = R.length := by
 induction R with
 | nil => simp [rget] at h
 | cons q r ih =>
   obtain ⟨b, x⟩ := q
   have hc := List.pairwise_cons.1 hR
   simp only [rins]
   split
   · next e =>
     have hne : k ≠ b := fun h => ltS_ne e h.symm
     simp only [rget, hne, if_false] at h
     rw [List.length_cons, ih hc.2 h, List.length_cons]
   · next e =>
     split
     · rfl
     · next e2 =>
       have hne : k ≠ b := fun h => e2 h.symm
       simp only [rget, hne, if_false] at h
       exact absurd (hc.1 _ ((rget_mem (Srt.nodup hc.2)).1 h)) e
theorem rrem_le (R : List Rw) (k : ByteArray) : (rrem R k).length ≤ R.length := List.length_filter_le ..
end
section
open Go Go.SL
section
def tabA (b : Nat) (R : List Rw) : HProp := pk fun m : List Rw => [pur (m.Perm R), mapA Value.string (fun _ => True) b (kvT m)]
def tabs (bs : List Nat) (Rs : List (List Rw)) : HProp := stars (List.zipWith tabA bs Rs)
def mapsV (bs : List Nat) : List Value := bs.map fun b => Value.map (some b)
def stM (a : Option Addr) (n c : Nat) (Rs : List (List Rw)) : HProp := pk fun bs : List Nat => [pur (bs.length = n ∧ Rs.length = n), own 147 1 (.slice a n c) n (mapsV bs), tabs bs Rs]
variable {E w : World} {r : List HProp}
theorem tabs_take {bs : List Nat} {Rs : List (List Rw)} {i b : Nat} {R : List Rw} (hb : bs[i]? = some b) (hR : Rs[i]? = some R) (s : Sat E (stars (tabs bs Rs :: r)) w) :
 Sat E (stars (tabA b R :: tabs (bs.eraseIdx i) (Rs.eraseIdx i) :: r)) w := by
 have e : ∀ (bs : List Nat) (Rs : List (List Rw)) (i : Nat), bs[i]? = some b → Rs[i]? = some R → ∃ A B, List.zipWith tabA bs Rs = A ++ tabA b R :: B ∧ List.zipWith tabA (bs.eraseIdx i) (Rs.eraseIdx i) = A ++ B := by
  intro bs
  induction bs with
  | nil => intro Rs i h; simp at h
  | cons c cs ih =>
    intro Rs i h1 h2
    cases Rs with
    | nil => simp at h2
    | cons q qs =>
      cases i with
      | zero =>
        simp at h1 h2
        subst h1 h2
        exact ⟨[], _, rfl, rfl⟩
      | succ i =>
        obtain ⟨A, B, e1, e2⟩ := ih qs i (by simpa using h1) (by simpa using h2)
        exact ⟨tabA c q :: A, B, by rw [List.zipWith_cons_cons, e1]; rfl, by rw [List.eraseIdx_cons_succ, List.eraseIdx_cons_succ, List.zipWith_cons_cons, e2]; rfl⟩
 obtain ⟨A, B, e1, e2⟩ := e bs Rs i hb hR
 unfold tabs at s ⊢
 have s1 := s.unfold
 rw [e1, List.append_assoc] at s1
 have s2 := Sat.rot (p := A) (g := [tabA b R]) s1
 refine Sat.pick (l := stars (List.zipWith tabA (bs.eraseIdx i) (Rs.eraseIdx i)) :: tabA b R :: r) (Sat.fold ?_) (Jz Jm)
 rw [e2]
 have s3 := Sat.rot (p := [tabA b R]) (g := A ++ B) (r := r) (by simpa [List.append_assoc] using s2)
 simpa [List.append_assoc] using s3
theorem tabs_put {bs : List Nat} {Rs : List (List Rw)} {i b : Nat} {R : List Rw} (hb : bs[i]? = some b) (hR : i < Rs.length) (s : Sat E (stars (tabA b R :: tabs (bs.eraseIdx i) (Rs.eraseIdx i) :: r)) w) :
 Sat E (stars (tabs bs (Rs.set i R) :: r)) w := by
 have e : ∀ (bs : List Nat) (Rs : List (List Rw)) (i : Nat), bs[i]? = some b → i < Rs.length → ∃ A B, List.zipWith tabA bs (Rs.set i R) = A ++ tabA b R :: B ∧ List.zipWith tabA (bs.eraseIdx i) (Rs.eraseIdx i) = A ++ B := by
  intro bs
  induction bs with
  | nil => intro Rs i h; simp at h
  | cons c cs ih =>
    intro Rs i h1 h2
    cases Rs with
    | nil => simp at h2
    | cons q qs =>
      cases i with
      | zero =>
        simp at h1
        subst h1
        exact ⟨[], _, rfl, rfl⟩
      | succ i =>
        obtain ⟨A, B, e1, e2⟩ := ih qs i (by simpa using h1) (by simpa using h2)
        exact ⟨tabA c q :: A, B, by rw [List.set_cons_succ, List.zipWith_cons_cons, e1]; rfl, by rw [List.eraseIdx_cons_succ, List.eraseIdx_cons_succ, List.zipWith_cons_cons, e2]; rfl⟩
 obtain ⟨A, B, e1, e2⟩ := e bs Rs i hb hR
 unfold tabs at s ⊢
 refine Sat.fold ?_
 rw [e1]
 have s1 := (Sat.pick s (Jz Jm)).unfold
 rw [e2] at s1
 have s2 := Sat.rot (p := A ++ B) (g := [tabA b R]) s1
 have s3 := Sat.rot (p := [tabA b R]) (g := A) (r := B ++ r) (by simpa [List.append_assoc] using s2)
 simpa [List.append_assoc] using s3
theorem tabs_push {bs : List Nat} {Rs : List (List Rw)} {b : Nat} {R : List Rw} (hl : bs.length = Rs.length) (s : Sat E (stars (tabA b R :: tabs bs Rs :: r)) w) : Sat E (stars (tabs (bs ++ [b]) (Rs ++ [R]) :: r)) w := by
 unfold tabs at s ⊢
 refine Sat.fold ?_
 rw [List.zipWith_append hl]
 have s1 := (Sat.pick s (Jz Jm)).unfold
 have s2 : Sat E (stars (List.zipWith tabA bs Rs ++ ([tabA b R] ++ r))) w := s1
 simpa [List.append_assoc] using s2
theorem tabs_nil (s : Sat E (stars r) w) : Sat E (stars (tabs [] [] :: r)) w := Sat.fold (m := []) s
theorem tabA_open {b : Nat} {R : List Rw} (s : Sat E (stars (tabA b R :: r)) w) : ∃ m : List Rw, m.Perm R ∧ Sat E (stars (mapA Value.string (fun _ => True) b (kvT m) :: r)) w := by
 obtain ⟨m, s⟩ := s.ofpk
 obtain ⟨h, s⟩ := s.ofpur
 exact ⟨m, h, s⟩
theorem tabA_shut {b : Nat} {R m : List Rw} (h : m.Perm R) (s : Sat E (stars (mapA Value.string (fun _ => True) b (kvT m) :: r)) w) : Sat E (stars (tabA b R :: r)) w :=
 Sat.topk (F := fun m : List Rw => [pur (m.Perm R), mapA Value.string (fun _ => True) b (kvT m)]) m (s.topur h)
theorem stM_open {a : Option Addr} {n c : Nat} {Rs : List (List Rw)} (s : Sat E (stars (stM a n c Rs :: r)) w) : ∃ bs, bs.length = n ∧ Rs.length = n ∧ Sat E (stars (own 147 1 (.slice a n c) n (mapsV bs) :: tabs bs Rs :: r)) w := by
 obtain ⟨bs, s⟩ := s.ofpk
 obtain ⟨h, s⟩ := s.ofpur
 exact ⟨bs, h.1, h.2, s⟩
theorem stM_shut {a : Option Addr} {n c : Nat} {Rs : List (List Rw)} {bs : List Nat} (h1 : bs.length = n) (h2 : Rs.length = n) (s : Sat E (stars (own 147 1 (.slice a n c) n (mapsV bs) :: tabs bs Rs :: r)) w) : Sat E (stars (stM a n c Rs :: r)) w :=
 Sat.topk (F := fun bs : List Nat => [pur (bs.length = n ∧ Rs.length = n), own 147 1 (.slice a n c) n (mapsV bs), tabs bs Rs]) bs (s.topur ⟨h1, h2⟩)
theorem mapsV_length (bs : List Nat) : (mapsV bs).length = bs.length := by simp [mapsV]
theorem mapsV_at {bs : List Nat} {i b : Nat} (h : bs[i]? = some b) : (mapsV bs)[i]? = some (.map (some b)) := by simp [mapsV, h]
theorem Fc.stAt {P : Program} {f : FuncId} {args : Array Value} {RR : Value → List HProp → Prop} {a : Option Addr} {n c i : Nat} {Rs : List (List Rw)} (hi : i < n)
 (h : ∀ bs b R m, bs.length = n → Rs.length = n → bs[i]? = some b → Rs[i]? = some R → m.Perm R → Fc P E f args (own 147 1 (.slice a n c) n (mapsV bs) :: mapA Value.string (fun _ => True) b (kvT m) :: tabs (bs.eraseIdx i) (Rs.eraseIdx i) :: r) RR) : Fc P E f args (stM a n c Rs :: r) RR := fun w hs => by
 obtain ⟨bs, h1, h2, s⟩ := stM_open hs
 have hb : bs[i]? = some (bs[i]'(by omega)) := List.getElem?_eq_getElem _
 have hR : Rs[i]? = some (Rs[i]'(by omega)) := List.getElem?_eq_getElem _
 have s1 := tabs_take hb hR (Sat.pick s (Jz Jm))
 obtain ⟨m, hm, s2⟩ := tabA_open s1
 refine h bs _ _ m h1 h2 hb hR hm w ?_
 exact s2.sup zsup
theorem st_back {a : Option Addr} {n c i b : Nat} {Rs : List (List Rw)} {R m : List Rw} {bs : List Nat} (h1 : bs.length = n) (h2 : Rs.length = n) (hb : bs[i]? = some b) (hi : i < n) (hm : m.Perm R)
 (s : Sat E (stars (mapA Value.string (fun _ => True) b (kvT m) :: own 147 1 (.slice a n c) n (mapsV bs) :: tabs (bs.eraseIdx i) (Rs.eraseIdx i) :: r)) w) : Sat E (stars (stM a n c (Rs.set i R) :: r)) w := by
 have s1 := tabA_shut hm s
 have s2 := tabs_put hb (by omega) (Sat.sup (p := tabA b R :: tabs (bs.eraseIdx i) (Rs.eraseIdx i) :: own 147 1 (.slice a n c) n (mapsV bs) :: r) s1 zsup)
 exact stM_shut h1 (by rw [List.length_set]; exact h2) (Sat.pick s2 (Jz Jm))
theorem tset_at {bs : List Nat} {j n b : Nat} (hb : bs.length = j) (hj : j < n) : (mapsV bs ++ List.replicate (n - j) (Value.map none)).set (0 + (j : Int).toNat * i147.size) (.map (some b)) = mapsV (bs ++ [b]) ++ List.replicate (n - (j + 1)) (Value.map none) := by
 rw [show 0 + (j : Int).toNat * i147.size = (mapsV bs).length + 0 by rw [mapsV_length]; simp [i147, hb], List.set_append_right _ _ (by omega), show n - j = (n - (j + 1)) + 1 by omega, List.replicate_succ]
 simp [mapsV]
theorem JL.tabA {P : Program} {ρ : Option Nat} {k : Nat} {ds : List Deferred} {ops : Array Oper} {rest : List Oper} {Q : Exit → Act → World → Prop} {env : Fr} {b : Nat} {R : List Rw}
 (h : ∀ m, m.Perm R → JL P E ρ k ds ops Q rest env (mapA Value.string (fun _ => True) b (kvT m) :: r)) : JL P E ρ k ds ops Q rest env (Go.Proofs.YtaopifoidbdniaaGreat.tabA b R :: r) :=
 JL.pks fun m => JL.fact (fun _ s => (Sat.ofpur s).1) fun hm => JL.pre (fun _ s => (Sat.ofpur s).2) (h m hm)
theorem set_same {α : Type} {l : List α} {i : Nat} {x : α} (h : l[i]? = some x) : l.set i x = l := WideElems.set_self _ _ _ h
end
section
attribute [local irreducible] J JL JE JM LS Y Fc RV Code.wp wpList Code.wpIn wpListIn
attribute [local irreducible] Yc
variable (E : World)
theorem tempty_spec (n : Nat) (hn : n ≤ 1000000) (l : List HProp) :
 Fc prog E 114 [.int .i64 (n : Int)].toArray l (fun v l' => ∃ a c, v = .slice a n c ∧ l' = stM a n c (List.replicate n []) :: l) := by
 refine Wg ?_
 refine Va (c := ?codeC) Tryz.func114 ?hb Tryz.ntmps114 ?hl ?_
 case hb => exact rfl
 case hl => exact rfl
 refine Jh (Je (Jb (Jf rfl) U U U ?_))
 refine Jg (Ja (Jh (Je (Jb (Jd rfl) U U U ?_))))
 refine Jl rfl (l_makeSlice hT U U U U U U (by omega) (by omega) (mk_fits rfl (by omega) (by omega)) (by omega) rfl (fun bk => ?_))
 have hmk : (madeCells (Value.map none).cells ((n : Int).toNat * i147.size)).toList = List.replicate n (Value.map none) := by
  rw [show (Value.map none).cells = (List.replicate 1 (Value.map none)).toArray from rfl, madeCells_rep _ (by omega)]
  simp [i147]
 refine JL.pre (l' := row bk 147 (List.replicate n (Value.map none)) :: _) (fun w s => by rw [← hmk]; exact s) ?_
 refine Jb (Jf rfl) U U U ?_
 refine Jg (Ja (Jh (Jh (Je (Jb (Jd rfl) U U U (Jb (Vf hT U U U) U U U (Jb (Jd rfl) U U U ?_)))))))
 refine Jg (Ja (Ve ?_))
 refine Wn (α := Nat × List Nat) (fun s => s.1 ≤ n ∧ s.2.length = s.1) (fun s => [(3, .slice (some ⟨bk, 0, none⟩) n n), (7, .slice (some ⟨bk, 0, none⟩) n n), (8, .int .i64 n), (9, .int .i64 s.1)]) (fun s => row bk 147 (mapsV s.2 ++ List.replicate (n - s.1) (Value.map none)) :: tabs s.2 (List.replicate s.1 []) :: l) (fun s => n - s.1) (0, []) ⟨by omega, rfl⟩ ⟨U, U, U, U, trivial⟩ (fun w h => Sat.pick (tabs_nil h) (Jz Jm)) ?_
 rintro ⟨j, bs⟩ ⟨hj, hbs⟩
 dsimp only at hj hbs ⊢
 refine Jh (Je (Jb (y_lss U U) U U U ?_))
 refine Jg (Ja (Jh ?_))
 first | apply Jx rfl | apply Vo rfl
 case' ht =>
  intro h
  try (first | exact zom | exact zho h | subst h)
  all_goals
   refine Vd ?_
 case' hf =>
  intro h
  try (first | exact zom | exact zho h | subst h)
  all_goals
   refine Wl (Jv (Jv (Vl (Ja (Jh (Je (Jb (Jd rfl) U U U (Jb (Jf rfl) U U U ?_))))))))
   refine Jg (Ja (Vn ?_))
   refine Vi (.inl rfl) U U zrv ?_
   obtain rfl : j = n := by omega
   refine ⟨_, fun w q => ?_, _, _, rfl, rfl⟩
   rw [Nat.sub_self, List.replicate_zero, List.append_nil] at q
   have q1 := q.ownAll (m := j) (size := 1) (by unfold maxLen; omega) (by rw [mapsV_length]; omega)
   exact stM_shut hbs List.length_replicate q1
 all_goals refine Ja ?_
 all_goals
  refine Jh (Ve (Jh (Je (Jb (Jd rfl) U U U (Jb (Jf rfl) U U U ?_)))))
  refine Jg (Ja (Je ?_))
  have hlt : j < n := by omega
  refine Jb (Jd rfl) U U U (Jb (Jd rfl) U U U ?_)
  refine Jl rfl (l_makeMap rfl (fun b1 => ?_))
  refine Jb (Jn hT U U U U U zix zix) U U U ?_
  refine Jl rfl (Vs hT U U U U U zpk (by rw [List.length_append, mapsV_length, List.length_replicate, show i147.size = 1 from rfl]; omega) ?_)
  refine Jg (Ju (Ja (Je ?_)))
  refine Jb (Wa U U zwr) U U U ?_
  refine Jb (Jd rfl) U U U ?_
  refine Jg ?_
 all_goals
  refine Vt (s := (j, bs)) (j + 1, bs ++ [b1]) ⟨by dsimp only; omega, by simp [hbs]⟩ ⟨U, U, U, U, trivial⟩ (fun w q => ?_) (by dsimp only; omega)
  have q1 := tabA_shut (m := []) (R := []) (List.Perm.refl _) (Sat.map_new (ok := fun _ => True) (enc := Value.string) (q.pick (r := row bk _ _ :: tabs bs (List.replicate j []) :: l) zpk))
  have q2 := tabs_push (by rw [hbs, List.length_replicate]) (q1.sup (p := tabA b1 [] :: tabs bs (List.replicate j []) :: row bk _ _ :: l) zsup)
  dsimp only
  rw [← tset_at hbs hlt, List.replicate_succ']
  exact q2.sup zsup
theorem mclone_spec (b : Nat) (m : List Rw) (l : List HProp) :
 Fc prog E 72 [.map (some b)].toArray (mapA Value.string (fun _ => True) b (kvT m) :: l) (fun v l' => ∃ c, v = .map (some c) ∧ l' = mapA Value.string (fun _ => True) c (kvT m) :: mapA Value.string (fun _ => True) b (kvT m) :: l) := by
 refine Wg ?_
 refine Va (c := ?codeC) Tryz.func72 ?hb Tryz.ntmps72 ?hl ?_
 case hb => exact rfl
 case hl => exact rfl
 refine Jh (Je (Jb (Jf rfl) U U U ?_))
 refine Jg (Ja (Jh (Jh (Je (Jb (Jd rfl) U U U ?_)))))
 refine Jb (y_map_eqNil hT U U U U) U U U ?_
 refine Jg (Ja ?_)
 refine Vk rfl zbl ?_
 refine Vd (Ja (Jh (Je (Jb (Jd rfl) U U U ?_))))
 refine Jb (y_iface_map hT U U U) U U U ?_
 refine Jl rfl (l_mapsClone Tryz.func123 (by kernel_rfl) (by kernel_rfl) (by kernel_rfl) (by kernel_rfl) rfl zpk rfl (fun c => ?_))
 refine Jb (y_assert_map hT U U U) U U U ?_
 refine Jb (Jf rfl) U U U ?_
 refine Jg (Ja (Vn ?_))
 refine Vi (.inl rfl) U U zrv ?_
 exact ⟨_, fun w q => q, c, rfl, rfl⟩
theorem copied_spec (a : Option Addr) (n c : Nat) (hn : n ≤ 1000000) (Rs : List (List Rw)) (l : List HProp) :
 Fc prog E 69 [.slice a n c].toArray (stM a n c Rs :: l) (fun v l' => ∃ a' c', v = .slice a' n c' ∧ l' = stM a' n c' Rs :: stM a n c Rs :: l) := by
 refine Wg ?_
 refine Fc.imp (l' := pk (fun bs : List Nat => [pur (bs.length = n ∧ Rs.length = n), own 147 1 (.slice a n c) n (mapsV bs), tabs bs Rs]) :: l) (Fc.pks fun bs => ?_) (fun w s => s)
 refine Fc.fact (fun w s => (Sat.ofpur s).1) fun ⟨hbn, hRn⟩ => Fc.imp (l' := own 147 1 (.slice a n c) n (mapsV bs) :: tabs bs Rs :: l) ?_ (fun w s => (Sat.ofpur s).2)
 refine Va (c := ?codeC) Tryz.func69 ?hb Tryz.ntmps69 ?hl ?_
 case hb => exact rfl
 case hl => exact rfl
 refine Jh (Je (Jb (Jf rfl) U U U ?_))
 refine Jg (Ja (Jh (Je (Jb (Jd rfl) U U U (Jb (Vf hT U U U) U U U ?_)))))
 refine Jl rfl (l_makeSlice hT U U U U U U (by omega) (by omega) (mk_fits rfl (by omega) (by omega)) (by omega) rfl (fun bk => ?_))
 have hmk : (madeCells (Value.map none).cells ((n : Int).toNat * i147.size)).toList = List.replicate n (Value.map none) := by
  rw [show (Value.map none).cells = (List.replicate 1 (Value.map none)).toArray from rfl, madeCells_rep _ (by omega)]
  simp [i147]
 refine JL.pre (l' := row bk 147 (List.replicate n (Value.map none)) :: _) (fun w s => by rw [← hmk]; exact s) ?_
 refine Jb (Jf rfl) U U U ?_
 refine Jg (Ja (Jh (Jh (Je (Jb (Jd rfl) U U U (Jb (Vf hT U U U) U U U (Jb (Jd rfl) U U U ?_)))))))
 refine Jg (Ja (Ve ?_))
 refine J.fact (p := OwnAt a n c (mapsV bs)) (fun w s => Vu (s.pick (Jz Jm))) fun op => ?_
 refine Wn (α := Nat × List Nat) (fun s => s.1 ≤ n ∧ s.2.length = s.1) (fun s => [(3, .slice (some ⟨bk, 0, none⟩) n n), (9, .slice a n c), (10, .int .i64 n), (11, .int .i64 s.1)]) (fun s => row bk 147 (mapsV s.2 ++ List.replicate (n - s.1) (Value.map none)) :: tabs s.2 (Rs.take s.1) :: own 147 1 (.slice a n c) n (mapsV bs) :: tabs bs Rs :: l) (fun s => n - s.1) (0, []) ⟨by omega, rfl⟩ ⟨U, U, U, U, trivial⟩ (fun w h => Sat.pick (tabs_nil h) (Jz Jm)) ?_
 rintro ⟨j, cs⟩ ⟨hj, hcs⟩
 dsimp only at hj hcs ⊢
 refine Jh (Je (Jb (y_lss U U) U U U ?_))
 refine Jg (Ja (Jh ?_))
 first | apply Jx rfl | apply Vo rfl
 case' ht =>
  intro h
  try (first | exact zom | exact zho h | subst h)
  all_goals
   refine Vd ?_
 case' hf =>
  intro h
  try (first | exact zom | exact zho h | subst h)
  all_goals
   refine Wl (Jv (Jv (Vl (Ja (Jh (Je (Jb (Jd rfl) U U U (Jb (Jf rfl) U U U ?_))))))))
   refine Jg (Ja (Vn ?_))
   refine Vi (.inl rfl) U U zrv ?_
   obtain rfl : j = n := by omega
   refine ⟨_, fun w q => ?_, _, _, rfl, rfl⟩
   rw [Nat.sub_self, List.replicate_zero, List.append_nil, List.take_of_length_le (by omega)] at q
   have q1 := q.ownAll (m := j) (size := 1) (by unfold maxLen; omega) (by rw [mapsV_length]; omega)
   have q2 := stM_shut hcs hRn q1
   exact Sat.pick (stM_shut (r := stM (some ⟨bk, 0, none⟩) j j Rs :: l) hbn hRn (q2.sup zsup)) (Jz Jm)
 all_goals refine Ja ?_
 all_goals
  refine Jh (Ve (Jh (Je ?_)))
  have hlt : j < n := by omega
  obtain ⟨b, hb⟩ : ∃ b, bs[j]? = some b := ⟨_, List.getElem?_eq_getElem (by omega)⟩
  obtain ⟨R, hR⟩ : ∃ R, Rs[j]? = some R := ⟨_, List.getElem?_eq_getElem (by omega)⟩
  have hkj := mapsV_at hb
  obtain ⟨ga, rfl⟩ := op.at_.resolve_right fun ⟨h0, _⟩ => by have := op.le; omega
  refine Jb (Jd rfl) U U U ?_
  refine Jb (Jn hT U U U U U zix zix) U U U ?_
  refine Jb (Jo hT U U U (Rd1.elem (RdN.own zpk) hkj)) U U U ?_
  refine Jb (Jf rfl) U U U (Jb (Jf rfl) U U U ?_)
  refine Jg (Ja (Je ?_))
  refine JL.pre (l' := tabA b R :: tabs (bs.eraseIdx j) (Rs.eraseIdx j) :: row bk 147 (mapsV cs ++ List.replicate (n - j) (Value.map none)) :: tabs cs (Rs.take j) :: own 147 1 (.slice (some ⟨ga, 0, none⟩) n c) n (mapsV bs) :: l) (fun w s => tabs_take hb hR (Sat.pick s zpk)) (JL.tabA fun m hm => ?_)
  refine Jb (Jd rfl) U U U (Jb (Jd rfl) U U U (Jb (Jd rfl) U U U ?_))
  refine Jl rfl (Jw e72 U U (Vw (Ji zpk Jj) (mclone_spec E b m _)) ?_)
  rintro _ _ ⟨cb, rfl, rfl⟩
  refine Jb (Jn hT U U U U U zix zix) U U U ?_
  refine Jl rfl (Vs hT U U U U U zpk (by rw [List.length_append, mapsV_length, List.length_replicate, show i147.size = 1 from rfl]; omega) ?_)
  refine Jg (Ju (Ja (Je ?_)))
  refine Jb (Wa U U zwr) U U U ?_
  refine Jb (Jd rfl) U U U ?_
  refine Jg ?_
 all_goals
  refine Vt (s := (j, cs)) (j + 1, cs ++ [cb]) ⟨by dsimp only; omega, by simp [hcs]⟩ ⟨U, U, U, U, trivial⟩ (fun w q => ?_) (by dsimp only; omega)
  have q1 := tabA_shut hm (Sat.pick (A := mapA Value.string (fun _ => True) cb (kvT m)) q zpk)
  have q2 := tabs_push (bs := cs) (Rs := Rs.take j) (by rw [hcs, List.length_take]; omega) (Sat.sup (p := tabA cb R :: tabs cs (Rs.take j) :: mapA Value.string (fun _ => True) b (kvT m) :: row bk 147 _ :: tabs (bs.eraseIdx j) (Rs.eraseIdx j) :: own 147 1 (.slice (some ⟨ga, 0, none⟩) n c) n (mapsV bs) :: l) q1 zsup)
  have q3 := tabA_shut hm (q2.pick zpk)
  have q4 := tabs_put hb (by omega) (Sat.sup (p := tabA b R :: tabs (bs.eraseIdx j) (Rs.eraseIdx j) :: tabs (cs ++ [cb]) (Rs.take j ++ [R]) :: row bk 147 _ :: own 147 1 (.slice (some ⟨ga, 0, none⟩) n c) n (mapsV bs) :: l) q3 zsup)
  rw [set_same hR] at q4
  dsimp only
  rw [← tset_at hcs hlt, List.take_add_one, hR, Option.toList_some]
  exact q4.sup zsup
end
end
section
open Go Go.SL
section
attribute [local irreducible] J JL JE JM LS Y Fc RV Code.wp wpList Code.wpIn wpListIn
attribute [local irreducible] Yc ltS
variable (E : World)
theorem mkeysT_spec (l : List HProp) (v : Value) (hv : v.oneCell' = true) : Fc prog E 74 [v].toArray l (fun u l' => ∃ b, u = .func (.func 126) #[] [Value.pointer (some ⟨b, 0, none⟩)].toArray ∧ l' = row b 147 [v] :: l) := by
 have hvc : v.cells = [v].toArray := by cases v <;> simp_all [Value.cells, Value.oneCell']
 refine Va (c := ?codeC) Tryz.func74 ?hb Tryz.ntmps74 ?hl ?_
 case hb => exact rfl
 case hl => exact rfl
 refine Jh (Je ?_)
 refine Jl rfl (l_box rfl hvc rfl (fun b1 => ?_))
 refine Jb (Jf rfl) U U U ?_
 refine Jg (Ja (Jh (Je (Jb (y_makeFunc U U) U U U (Jb (Jf rfl) U U U ?_)))))
 refine Jg (Ja (Vn ?_))
 refine Vi (.inl rfl) U U zrv ?_
 exact ⟨b1, rfl, rfl⟩
theorem mkeysT_each (k b mp : Nat) (m : List (ByteArray × Value)) (St : List ByteArray → List HProp) (l : List HProp)
 (hy : ∀ (fr : List HProp) (vs : List ByteArray) (a : ByteArray), vs.length < m.length → Yc prog E k [Value.string a].toArray (St vs ++ fr) (fun v l' => v = .bool true ∧ l' = St (vs ++ [a]) ++ fr)) :
 Fc prog E 126 [.func (.yield k) #[] #[], Value.pointer (some ⟨b, 0, none⟩)].toArray (row b 147 [.map (some mp)] :: mapA Value.string (fun _ => True) mp m :: (St [] ++ l))
  (fun _ l' => ∃ vs : List ByteArray, vs.Perm (m.map (·.1)) ∧ l' = row b 147 [.map (some mp)] :: mapA Value.string (fun _ => True) mp m :: (St vs ++ l)) := by
 refine Wg ?_
 refine Va (c := ?codeC) Tryz.func126 ?hb Tryz.ntmps126 ?hl ?_
 case hb => exact rfl
 case hl => exact rfl
 refine Jh (Je ?_)
 refine Jb (Jo hT U U U zrd) U U U ?_
 refine Jl rfl (l_rangeMap hT U U U zpk rfl (fun it => ?_))
 refine Jg (Ja (Ve ?_))
 refine Wn (α := List ByteArray × List (ByteArray × Value) × Option (ByteArray × Value)) (fun s => (s.1 ++ s.2.1.map (·.1)).Perm (m.map (·.1))) (fun s => [(0, .func (.yield k) #[] #[]), (1, .pointer (some ⟨b, 0, none⟩)), (5, .pointer (some ⟨it, 0, none⟩))]) (fun s => St s.1 ++ (mapIt Value.string (fun _ => True) mp it m s.2.1 s.2.2 :: row b 147 [.map (some mp)] :: l)) (fun s => s.2.1.length) ([], m, none) (by simp) ⟨U, U, U, trivial⟩ (fun w h => Sat.rot (p := [_, _]) (g := St []) h) ?_
 rintro ⟨vs, rest, cur⟩ hp
 dsimp only at hp ⊢
 refine Jh (Je ?_)
 refine Jl rfl (l_nextMap rfl zpk rfl (fun h0 => ?_) (fun r1 a v r2 he ha => ?_))
 all_goals (refine Jb (Vg U U) U U U ?_)
 all_goals refine Jg (Ja ?_)
 all_goals
  refine Jh ?_
  first | apply Jx rfl | apply Vo rfl
  case' ht =>
   intro h
   try (first | exact zom | exact zho h | subst h)
   all_goals
    refine Vd ?_
  case' hf =>
   intro h
   try (first | exact zom | exact zho h | subst h)
   all_goals
    refine Wl (Jv (Jv (Vl ?_)))
    refine JE.ret0 (.inr rfl) U U  ?_
    refine ⟨_, fun w h => ?_, vs, by rw [h0] at hp; simpa using hp, rfl⟩
    have s1 := Sat.rot (p := [_]) (g := St vs) h.it_end
    have s2 := Sat.rot (p := St vs) (g := [mapA Value.string (fun _ => True) mp m, row b 147 [.map (some mp)]]) s1
    exact s2.sup zsup
  all_goals refine Ja ?_
  all_goals
   refine Ve (Jh (Je ?_))
   refine Jb (y_entry rfl zpk) U U U ?_
   refine Jb (Vg U U) U U U (Jb (Jf rfl) U U U ?_)
   refine Jg (Ja (Jh (Je ?_)))
   have hlen : vs.length < m.length := by
    have := hp.length_eq
    rw [he] at this
    simp at this
    omega
   refine Jb (Jd rfl) U U U (Jb (Jd rfl) U U U ?_)
   refine JL.yield U U U (Yc.imp (hy _ vs a hlen) (fun w h => Sat.rot (p := [_]) (g := St vs) h)) ?_
   rintro _ _ ⟨rfl, rfl⟩
   all_goals (refine Jb (y_not rfl) U U U ?_)
   all_goals refine Jg (Ja ?_)
   all_goals
    refine Vk rfl zbl ?_
    refine Vd ?_
   all_goals refine Ju ?_
 all_goals
  exact Vt (s := (vs, rest, cur)) (vs ++ [a], r1 ++ r2, some (a, v)) (by
   dsimp only
   refine List.Perm.trans ?_ hp
   rw [he]
   simp only [List.map_append, List.map_cons, List.append_assoc, List.cons_append, List.nil_append]
   exact List.Perm.append_left vs List.perm_middle.symm) ⟨U, U, U, trivial⟩ (fun w h => h) (by dsimp only; rw [he]; simp)
def keysMT (bo : Nat) (vs : List ByteArray) : HProp := pk fun q : Option Addr × Nat => [row bo 22 [.slice q.1 vs.length q.2], own 9 1 (.slice q.1 vs.length q.2) vs.length (vs.map Value.string)]
theorem aseqT (b mp : Nat) (m : List (ByteArray × Value)) (l : List HProp) (hm : m.length ≤ 1000000) :
 Fc prog E 165 [.slice none 0 0, .func (.func 126) #[] [Value.pointer (some ⟨b, 0, none⟩)].toArray].toArray (row b 147 [.map (some mp)] :: mapA Value.string (fun _ => True) mp m :: l)
  (fun v l' => ∃ (vs : List ByteArray) (a : Option Addr) (c : Nat), vs.Perm (m.map (·.1)) ∧ v = .slice a vs.length c ∧ l' = own 9 1 v vs.length (vs.map Value.string) :: row b 147 [.map (some mp)] :: mapA Value.string (fun _ => True) mp m :: l) := by
 refine Wg ?_
 refine Fc.of_bodyM (c := ?codeC) Tryz.func165 ?hb Tryz.ntmps165 ?hl ?_
 case hb => exact rfl
 case hl => exact rfl
 refine Jh (Je ?_)
 refine Jl rfl (l_box rfl zcl rfl (fun b1 => ?_))
 refine Jb (Jf rfl) U U U ?_
 refine Jg (Ja (Jh (Jh (Je (Jb (Jd rfl) U U U ?_)))))
 refine Jg (Ja (Ve ?_))
 refine J.rangeFunc e126 rfl fun fn a0 k DD K hK hf0 => ?_
 refine Fc.mono (Fc.imp (mkeysT_each E k b mp m (fun vs => [keysMT b1 vs, K .ready none, blk DD (.deferred (some []))]) l (fun fr vs a hlt => ?hy)) ?hi) ?hm
 case hi =>
  intro w s
  have s2 := s.own_nil (e := 9) (size := 1)
  have s3 := s2.divide (p := [row b1 22 [.slice none 0 0], own 9 1 (.slice none 0 0) 0 []]) (Ji zpk (Ji zpk Jj))
  have s5 : Sat E (stars (keysMT b1 [] :: _)) w := s3.topk (none, 0)
  exact s5.sup zsup
 case hy =>
  unfold keysMT
  refine Yc.split (p := [pk _]) (Yc.pks fun q => ?_) (Ji Jm Jj)
  obtain ⟨qa, qc⟩ := q
  dsimp only
  refine Yc.split (p := [K .ready none]) ?_ (Ji zpk Jj)
  refine Yc.post ?_
  refine Yc.of_body hK hf0 rfl (by decide) ?_
  refine Je (Jb (Jf rfl) U U U ?_)
  refine Jg ?_
  refine JE.assigned zpk ?_
  refine Ve (Je ?_)
  refine Jb (Jo hT U U U zrd) U U U ?_
  refine Jb (Jd rfl) U U U ?_
  refine Jl rfl (l_buildSliceP hT U U U U U U U zfl rfl (fun b2 => ?_))
  refine Jl rfl (l_append hT U U U U U U U U zpk zrdn zln zoc (by rw [show i9.bytes = 16 from rfl]; omega) (by omega) rfl (fun na nc hnc => ?_))
  refine Jl rfl (Vs hT U U U U U zpk zix ?_)
  refine Jg (Ju ?_)
  all_goals
   refine JE.round_on hK zpk ?_
   refine ⟨[keysMT b1 (vs ++ [a]), K .ready none, blk DD (.deferred (some []))] ++ fr, fun w q => ?_, rfl, rfl⟩
   have q1 := q.sup (p := row b1 22 [.slice na (vs.length + 1) nc] :: own 9 1 (.slice na (vs.length + 1) nc) (vs.length + 1) (vs.map Value.string ++ [Value.string a]) :: K .ready none :: blk DD (.deferred (some [])) :: fr) zsup
   refine Sat.topk (F := fun q : Option Addr × Nat => [row b1 22 [.slice q.1 (vs ++ [a]).length q.2], own 9 1 (.slice q.1 (vs ++ [a]).length q.2) (vs ++ [a]).length ((vs ++ [a]).map Value.string)]) (na, nc) ?_
   dsimp only
   rw [List.length_append, List.map_append]
   exact q1
 case hm =>
  rintro _ _ ⟨vs, hvp, rfl⟩
  refine ⟨.ready, none, _, by (repeat (first | exact Jm | apply Jz | apply Vp)), by simp, ?_⟩
  dsimp only
  unfold keysMT
  refine JE.picks (Jz (Jz Jm)) (JE.pks fun q => ?_)
  obtain ⟨qa, qc⟩ := q
  dsimp only
  refine Ju (Ja (Jh (Je ?_)))
  refine Jb (Jo hT U U U zrd) U U U ?_
  refine Jb (Jf rfl) U U U ?_
  refine Jg (Ja (Vn ?_))
  first | refine JE.unmark (.inl rfl) rfl zpk ?_ | refine JE.nomark (.inl rfl) rfl ?_
  refine Vi (.inl rfl) U U zrv ?_
  exact ⟨_, fun w h => h.sup zsup, vs, qa, qc, hvp, rfl, rfl⟩
theorem collectT (b mp : Nat) (m : List (ByteArray × Value)) (l : List HProp) (hm : m.length ≤ 1000000) :
 Fc prog E 124 [.func (.func 126) #[] [Value.pointer (some ⟨b, 0, none⟩)].toArray].toArray (row b 147 [.map (some mp)] :: mapA Value.string (fun _ => True) mp m :: l)
  (fun v l' => ∃ (vs : List ByteArray) (a : Option Addr) (c : Nat), vs.Perm (m.map (·.1)) ∧ v = .slice a vs.length c ∧ l' = own 9 1 v vs.length (vs.map Value.string) :: row b 147 [.map (some mp)] :: mapA Value.string (fun _ => True) mp m :: l) := by
 refine Wg ?_
 refine Va (c := ?codeC) Tryz.func124 ?hb Tryz.ntmps124 ?hl ?_
 case hb => exact rfl
 case hl => exact rfl
 refine Jh (Je (Jb (Jf rfl) U U U ?_))
 refine Jg (Ja (Jh (Je (Jb (Jd rfl) U U U ?_))))
 refine Jl rfl (Jw e165 U U (aseqT E b mp m _ hm) ?_)
 rintro _ _ ⟨vs, a, c, h1, rfl, rfl⟩
 refine Jb (Jf rfl) U U U ?_
 refine Jg (Ja (Vn ?_))
 refine Vi (.inl rfl) U U zrv ?_
 exact ⟨_, fun w h => h.sup zsup, vs, a, c, h1, rfl, rfl⟩
def SortOk (N : Nat) : Prop := ∀ (n : Nat) (v : Value) (zs : List ByteArray) (r : List HProp), zs.length = n → n ≤ N →
 Fc prog E 125 [v].toArray (own 9 1 v n (zs.map Value.string) :: r) (fun u l' => u = .tuple #[] ∧ ∃ ys : List ByteArray, ys.Perm zs ∧ (ys.Pairwise fun x y => ltS y x = false) ∧ l' = own 9 1 v n (ys.map Value.string) :: r)
theorem sortedT {N : Nat} (hS : SortOk E N) (b mp : Nat) (m : List (ByteArray × Value)) (l : List HProp) (hm : m.length ≤ 1000000) (hN : m.length ≤ N) :
 Fc prog E 73 [.func (.func 126) #[] [Value.pointer (some ⟨b, 0, none⟩)].toArray].toArray (row b 147 [.map (some mp)] :: mapA Value.string (fun _ => True) mp m :: l)
  (fun v l' => ∃ (vs : List ByteArray) (a : Option Addr) (c : Nat), vs.Perm (m.map (·.1)) ∧ (vs.Pairwise fun x y => ltS y x = false) ∧ v = .slice a vs.length c ∧ l' = own 9 1 v vs.length (vs.map Value.string) :: row b 147 [.map (some mp)] :: mapA Value.string (fun _ => True) mp m :: l) := by
 refine Wg ?_
 refine Va (c := ?codeC) Tryz.func73 ?hb Tryz.ntmps73 ?hl ?_
 case hb => exact rfl
 case hl => exact rfl
 refine Jh (Je (Jb (Jf rfl) U U U ?_))
 refine Jg (Ja (Jh (Je (Jb (Jd rfl) U U U ?_))))
 refine Jl rfl (Jw e124 U U (collectT E b mp m _ hm) ?_)
 rintro _ _ ⟨vs, a, c, h1, rfl, rfl⟩
 refine Jb (Jf rfl) U U U ?_
 refine Jg (Ja (Jh (Je ?_)))
 have hvl := h1.length_eq
 rw [List.length_map] at hvl
 refine Jb (Jd rfl) U U U ?_
 refine Jl rfl (Jw e125 U U (Vw (Ji zpk Jj) (hS vs.length _ vs _ rfl (by omega))) ?_)
 rintro _ _ ⟨rfl, ys, h2, h3, rfl⟩
 refine Jg (Ja (Jh (Je (Jb (Jd rfl) U U U (Jb (Jf rfl) U U U ?_)))))
 refine Jg (Ja (Vn ?_))
 refine Vi (.inl rfl) U U zrv ?_
 rw [← h2.length_eq]
 exact ⟨_, fun w h => h.sup zsup, ys, a, c, h2.trans h1, h3, rfl, rfl⟩
end
end
section
open Go Go.SL
section
attribute [local irreducible] J JL JE JM LS Y Fc RV Code.wp wpList Code.wpIn wpListIn
attribute [local irreducible] Yc
variable (E : World)
theorem len64 (ix : Int) (x : Nat) (r : List HProp) (ex : ix = x) (hx : x < 18446744073709551616) :
 Fc prog E 191 [.int .u64 ix].toArray r (fun v l' => ∃ k : Nat, v = .int .i64 k ∧ k ≤ 64 ∧ (1 ≤ x → 2 ^ k ≤ 2 * x) ∧ l' = r) := by
 refine Wg ?_
 subst ex
 refine Va (c := ?codeC) Tryz.func191 ?hb Tryz.ntmps191 ?hl ?_
 case hb => exact rfl
 case hl => exact rfl
 refine Jh (Je (Jb (Jf rfl) U U U ?_))
 refine Jg (Ja ?_)
 refine J.seqK (α := Nat × Nat) (fun q => q.1 < 4294967296 ∧ q.2 ≤ 32 ∧ q.1 * 2 ^ q.2 ≤ x ∧ (1 ≤ x → 1 ≤ q.1)) (fun q => [(0, .int .u64 q.1), (2, .int .i64 q.2)]) (fun _ => r) ?hj4 (fun hk4 => ?hf4)
 case hf4 =>
  refine Jh (Je (Jb (Jd rfl) U U U (Jb (y_geq U U) U U U ?_)))
  refine Jg (Ja ?_)
  first | apply Jx rfl | apply Vo rfl
  case' ht =>
   intro h
   try (first | exact zom | exact zho h | subst h)
   all_goals
    refine Jh (Je (Jb (Jd rfl) U U U ?_))
    refine Jb (y_shr U U (by decide) (shr_nat (x := x) (k := 32) rfl (by decide))) U U U ?_
    refine Jb (Jf rfl) U U U ?_
    refine Jg (Ja (Je (Jb (Jf rfl) U U U ?_)))
    refine Jg ?_
  case' hf =>
   intro h
   try (first | exact zom | exact zho h | subst h)
   all_goals
    refine Vd ?_
  all_goals refine Ja ?_
  all_goals
   first | exact Wj hk4 (x / 2 ^ 32, 32) ⟨by dsimp only; omega, by dsimp only; omega, by dsimp only; omega, by dsimp only; omega⟩ ⟨U, U, trivial⟩ (fun w h => h) | exact Wj hk4 (x, 0) ⟨by dsimp only; omega, by dsimp only; omega, by dsimp only; omega, by dsimp only; omega⟩ ⟨U, U, trivial⟩ (fun w h => h)
 rintro ⟨y, k⟩ ⟨h1, h2, h3, h4⟩
 dsimp only at h1 h2 h3 h4 ⊢
 refine J.seqK (α := Nat × Nat) (fun q => q.1 < 65536 ∧ q.2 ≤ 48 ∧ q.1 * 2 ^ q.2 ≤ x ∧ (1 ≤ x → 1 ≤ q.1)) (fun q => [(0, .int .u64 q.1), (2, .int .i64 q.2)]) (fun _ => r) ?hj7 (fun hk7 => ?hf7)
 case hf7 =>
  refine Jh (Je (Jb (Jd rfl) U U U (Jb (y_geq U U) U U U ?_)))
  refine Jg (Ja ?_)
  first | apply Jx rfl | apply Vo rfl
  case' ht =>
   intro h
   try (first | exact zom | exact zho h | subst h)
   all_goals
    refine Jh (Je (Jb (Jd rfl) U U U ?_))
    refine Jb (y_shr U U (by decide) (shr_nat (x := y) (k := 16) rfl (by decide))) U U U ?_
    refine Jb (Jf rfl) U U U ?_
    refine Jg (Ja (Je (Jb (Jd rfl) U U U ?_)))
    refine Jb (Wa U U zwr) U U U ?_
    refine Jb (Jf rfl) U U U ?_
    refine Jg ?_
  case' hf =>
   intro h
   try (first | exact zom | exact zho h | subst h)
   all_goals
    refine Vd ?_
  all_goals refine Ja ?_
  all_goals
   first | exact Wj hk7 (y / 2 ^ 16, k + 16) ⟨by dsimp only; omega, by dsimp only; omega, shift_down h3, by dsimp only; omega⟩ ⟨rfl, (congrArg (fun z => some (Value.int .i64 z)) (by first | omega | (dsimp only; omega))), trivial⟩ (fun w h => h) | exact Wj hk7 (y, k) ⟨by dsimp only; omega, by dsimp only; omega, h3, h4⟩ ⟨U, U, trivial⟩ (fun w h => h)
 rintro ⟨y, k⟩ ⟨h1, h2, h3, h4⟩
 dsimp only at h1 h2 h3 h4 ⊢
 refine J.seqK (α := Nat × Nat) (fun q => q.1 < 256 ∧ q.2 ≤ 56 ∧ q.1 * 2 ^ q.2 ≤ x ∧ (1 ≤ x → 1 ≤ q.1)) (fun q => [(0, .int .u64 q.1), (2, .int .i64 q.2)]) (fun _ => r) ?hj10 (fun hk10 => ?hf10)
 case hf10 =>
  refine Jh (Je (Jb (Jd rfl) U U U (Jb (y_geq U U) U U U ?_)))
  refine Jg (Ja ?_)
  first | apply Jx rfl | apply Vo rfl
  case' ht =>
   intro h
   try (first | exact zom | exact zho h | subst h)
   all_goals
    refine Jh (Je (Jb (Jd rfl) U U U ?_))
    refine Jb (y_shr U U (by decide) (shr_nat (x := y) (k := 8) rfl (by decide))) U U U ?_
    refine Jb (Jf rfl) U U U ?_
    refine Jg (Ja (Je (Jb (Jd rfl) U U U ?_)))
    refine Jb (Wa U U zwr) U U U ?_
    refine Jb (Jf rfl) U U U ?_
    refine Jg ?_
  case' hf =>
   intro h
   try (first | exact zom | exact zho h | subst h)
   all_goals
    refine Vd ?_
  all_goals refine Ja ?_
  all_goals
   first | exact Wj hk10 (y / 2 ^ 8, k + 8) ⟨by dsimp only; omega, by dsimp only; omega, shift_down h3, by dsimp only; omega⟩ ⟨rfl, (congrArg (fun z => some (Value.int .i64 z)) (by first | omega | (dsimp only; omega))), trivial⟩ (fun w h => h) | exact Wj hk10 (y, k) ⟨by dsimp only; omega, by dsimp only; omega, h3, h4⟩ ⟨U, U, trivial⟩ (fun w h => h)
 rintro ⟨y, k⟩ ⟨h1, h2, h3, h4⟩
 dsimp only at h1 h2 h3 h4 ⊢
 obtain ⟨t, ht1, ht2, ht3⟩ := len8_at h1
 refine Jh (Je (Jb (Jd rfl) U U U (Jb (Jd rfl) U U U ?_)))
 refine Jb (y_conv (m := (y : Int)) hT U U U U (wrap_u8n (by omega))) U U U ?_
 refine Jb (y_index_len8 hT U U (by kernel_rfl) rfl (by omega) (by omega)) U U U ?_
 refine Jb (y_conv (m := (t : Int)) hT U U U U (by rw [ht1]; exact Wm (by omega) (by omega))) U U U ?_
 refine Jb (Wa (m := ((k + t : Nat) : Int)) U U (by rw [Wm (by omega) (by omega)]; omega)) U U U ?_
 refine Jb (Jf rfl) U U U ?_
 refine Jg (Ja (Vn ?_))
 refine Vi (.inl rfl) U U zrv ?_
 exact ⟨_, fun w h => h, k + t, rfl, by omega, fun hx1 => pow_len h3 (ht3 (h4 hx1)), rfl⟩
theorem lenU (ix : Int) (x : Nat) (r : List HProp) (ex : ix = x) (hx : x < 18446744073709551616) :
 Fc prog E 167 [.int .u64 ix].toArray r (fun v l' => ∃ k : Nat, v = .int .i64 k ∧ k ≤ 64 ∧ (1 ≤ x → 2 ^ k ≤ 2 * x) ∧ l' = r) := by
 refine Wg ?_
 refine Va (c := ?codeC) Tryz.func167 ?hb Tryz.ntmps167 ?hl ?_
 case hb => exact rfl
 case hl => exact rfl
 refine Jh (Je (Jb (Jf rfl) U U U ?_))
 refine Jg (Ja (Jh ?_))
 refine Vk rfl zbl ?_
 refine Vd (Ja (Jh (Je (Jb (Jd rfl) U U U ?_))))
 refine Jl rfl (Jw e191 U U (len64 E _ x _ ex hx) ?_)
 rintro _ _ ⟨k, rfl, hk1, hk2, rfl⟩
 refine Jb (Jf rfl) U U U ?_
 refine Jg (Ja (Vn ?_))
 refine Vi (.inl rfl) U U zrv ?_
 exact ⟨_, fun w h => h, k, rfl, hk1, hk2, rfl⟩
theorem npow (ix : Int) (x : Nat) (r : List HProp) (ex : ix = x) (h1 : 1 ≤ x) (hx : x < 4611686018427387904) :
 Fc prog E 201 [.int .i64 ix].toArray r (fun v l' => ∃ m : Nat, v = .int .u64 m ∧ 1 ≤ m ∧ m ≤ 2 * x ∧ l' = r) := by
 refine Wg ?_
 subst ex
 refine Va (c := ?codeC) Tryz.func201 ?hb Tryz.ntmps201 ?hl ?_
 case hb => exact rfl
 case hl => exact rfl
 refine Jh (Je (Jb (Jf rfl) U U U ?_))
 refine Jg (Ja (Jh (Je (Jb (Jd rfl) U U U ?_))))
 refine Jb (y_conv (m := (x : Int)) hT U U U U (wrap_u64n (by omega))) U U U ?_
 refine Jl rfl (Jw e167 U U (lenU E _ x _ rfl (by omega)) ?_)
 rintro _ _ ⟨k, rfl, hk1, hk2, rfl⟩
 have hk3 := hk2 h1
 have hk4 : k < 64 := pow_small (k := k) (by omega)
 refine Jb (y_shl (m := ((2 ^ k : Nat) : Int)) U U (by omega) (shl_one hk4)) U U U ?_
 refine Jb (Jf rfl) U U U ?_
 refine Jg (Ja (Vn ?_))
 refine Vi (.inl rfl) U U zrv ?_
 exact ⟨_, fun w h => h, 2 ^ k, rfl, Nat.one_le_two_pow, hk3, rfl⟩
theorem xnext (s : Nat) (e : TypeId) (z : BitVec 64) (r : List HProp) :
 Fc prog E 202 [.pointer (some ⟨s, 0, none⟩)].toArray (row s e [Q z] :: r) (fun v l' => ∃ z', v = Q z' ∧ l' = row s e [Q z'] :: r) := by
 refine Wg ?_
 refine Va (c := ?codeC) Tryz.func202 ?hb Tryz.ntmps202 ?hl ?_
 case hb => exact rfl
 case hl => exact rfl
 refine Jh (Je (Jb (Jf rfl) U U U ?_))
 refine Jg (Ja (Jh ?_))
 refine Vz _ _ [(0, .q), (1, .q), (3, .q), (4, .q), (2, .e), (5, .e), (6, .e), (7, .q), (8, .q), (9, .l)] mixed (by kernel_rfl) (Ji (Jm) (Jj)) ?_
 refine zqm U U U U U ?_
 refine Jc U U U U (fun m => znc) ?_
 refine zqm U U U U U ?_
 refine Jc U U U U (fun m => znc) ?_
 refine Wh U U U U (fun fr => Jo hT U U U zrd) ?_
 refine Wh U U U U (fun fr => Jo hT U U U zrd) ?_
 refine Wh U U U U (fun fr => (by first | exact y_shlQ U U zix zix | exact y_shl U U zix (by rfl))) ?_
 refine Jc U U U U (fun m => (by first | exact y_xorQ U U | exact y_bits U U (by rfl))) ?_
 refine Jc U U U U (fun m => znc) ?_
 refine Vm U U (fun fr => Vs hT U U U U U zpk zix (⟨[_], (by (repeat (first | exact Jj | exact Vc | refine Ji Jm ?_))), ?_⟩))
 refine Vv (Ja (Jh ?_))
 refine Vz _ _ [(0, .q), (1, .q), (3, .q), (4, .q), (2, .e), (5, .e), (6, .e), (7, .q), (8, .q), (9, .l)] mixed (by kernel_rfl) (Ji (Jm) (Jj)) ?_
 refine zqm U U U U U ?_
 refine Jc U U U U (fun m => znc) ?_
 refine zqm U U U U U ?_
 refine Jc U U U U (fun m => znc) ?_
 refine Wh U U U U (fun fr => Jo hT U U U zrd) ?_
 refine Wh U U U U (fun fr => Jo hT U U U zrd) ?_
 refine Wh U U U U (fun fr => (by first | exact y_shrQ U U zix zix | exact y_shr U U zix (by rfl))) ?_
 refine Jc U U U U (fun m => (by first | exact y_xorQ U U | exact y_bits U U (by rfl))) ?_
 refine Jc U U U U (fun m => znc) ?_
 refine Vm U U (fun fr => Vs hT U U U U U zpk zix (⟨[_], (by (repeat (first | exact Jj | exact Vc | refine Ji Jm ?_))), ?_⟩))
 refine Vv (Ja (Jh ?_))
 refine Vz _ _ [(0, .q), (1, .q), (3, .q), (4, .q), (2, .e), (5, .e), (6, .e), (7, .q), (8, .q), (9, .l)] mixed (by kernel_rfl) (Ji (Jm) (Jj)) ?_
 refine zqm U U U U U ?_
 refine Jc U U U U (fun m => znc) ?_
 refine zqm U U U U U ?_
 refine Jc U U U U (fun m => znc) ?_
 refine Wh U U U U (fun fr => Jo hT U U U zrd) ?_
 refine Wh U U U U (fun fr => Jo hT U U U zrd) ?_
 refine Wh U U U U (fun fr => (by first | exact y_shlQ U U zix zix | exact y_shl U U zix (by rfl))) ?_
 refine Jc U U U U (fun m => (by first | exact y_xorQ U U | exact y_bits U U (by rfl))) ?_
 refine Jc U U U U (fun m => znc) ?_
 refine Vm U U (fun fr => Vs hT U U U U U zpk zix (⟨[_], (by (repeat (first | exact Jj | exact Vc | refine Ji Jm ?_))), ?_⟩))
 refine Vv (Ja (Jh (Je (Jb (Jd rfl) U U U ?_))))
 refine Jb znc U U U ?_
 refine Jb (Jo hT U U U zrd) U U U ?_
 refine Jb (Jf rfl) U U U ?_
 refine Jg (Ja (Vn ?_))
 refine Vi (.inl rfl) U U zrv ?_
 exact ⟨_, fun w h => h, _, rfl, rfl⟩
end
end
section
open Go Go.SL
section
attribute [local irreducible] J JL JE JM LS Y Fc RV Code.wp wpList Code.wpIn wpListIn
attribute [local irreducible] Yc
variable (E : World)
abbrev arS (g : Nat) (d : Array ByteArray) (sp : List Value) : HProp := arr g 9 (fun x => [Value.string x]) d sp
theorem isNaNS (x : ByteArray) (l : List HProp) : Fc prog E 205 [Value.string x].toArray l (fun v l' => v = .bool false ∧ l' = l) := by
 refine Va (c := ?codeC) Tryz.func205 ?hb Tryz.ntmps205 ?hl ?_
 case hb => exact rfl
 case hl => exact rfl
 refine Jh (Je (Jb (Jf rfl) U U U ?_))
 refine Jg (Ja (Jh (Je (Jb (Jd rfl) U U U (Jb (Jd rfl) U U U (Jb (y_str_ne U U) U U U (Jb (Jf rfl) U U U ?_)))))))
 refine Jg (Ja (Vn ?_))
 refine Vi (.inl rfl) U U zrv ?_
 exact ⟨by simp, rfl⟩
theorem lessS (x y : ByteArray) (l : List HProp) : Fc prog E 187 [Value.string x, Value.string y].toArray l (fun v l' => v = .bool (ltS x y) ∧ l' = l) := by
 refine Va (c := ?codeC) Tryz.func187 ?hb Tryz.ntmps187 ?hl ?_
 case hb => exact rfl
 case hl => exact rfl
 refine Jh (Je (Jb (Jf rfl) U U U ?_))
 refine Jg (Ja (Jh (Je (Jb (Jd rfl) U U U ?_))))
 refine Jl rfl (Jw e205 U U (isNaNS E _ _) ?_)
 rintro _ _ ⟨rfl, rfl⟩
 refine Jb (Jd rfl) U U U ?_
 all_goals (first | (refine Vh U U U (fun h => ?_) (fun h => ?_) <;> try (first | (exfalso; omega) | exact absurd rfl h)) | (refine Vr U U U (fun h => ?_) (fun h => ?_) <;> try (first | cases h | (exfalso; simp at h; done))) | skip)
 all_goals (first | refine Js U U U U U U ?_ | refine Jp U U U U U ?_ | refine Jt U U U (Jd rfl) U U ?_)
 all_goals (first | refine Js U U U U U U ?_ | refine Jp U U U U U ?_ | (refine JL.gloud U U U (Jw e205 U U (isNaNS E _ _) ?_); rintro _ _ ⟨rfl, rfl⟩))
 all_goals (first | refine Js U U U U U U ?_ | refine Jp U U U U U ?_ | refine Jt U U U (y_not rfl) U U ?_)
 all_goals (refine Jb (Wb U U U) U U U ?_)
 all_goals (refine Jb (Jd rfl) U U U ?_)
 all_goals (first | (refine Vh U U U (fun h => ?_) (fun h => ?_) <;> try (first | (exfalso; omega) | exact absurd rfl h)) | (refine Vr U U U (fun h => ?_) (fun h => ?_) <;> try (first | cases h | (exfalso; simp at h; done))) | skip)
 all_goals (first | refine Js U U U U U U ?_ | refine Jp U U U U U ?_ | refine Jt U U U (Jd rfl) U U ?_)
 all_goals (first | refine Js U U U U U U ?_ | refine Jp U U U U U ?_ | refine Jt U U U (Jd rfl) U U ?_)
 all_goals (first | refine Js U U U U U U ?_ | refine Jp U U U U U ?_ | refine Jt U U U (y_str_lt U U) U U ?_)
 all_goals (refine Jb (Wb U U U) U U U ?_)
 all_goals (refine Jb (Jf rfl) U U U ?_)
 all_goals refine Jg (Ja ?_)
 all_goals
  refine Vn ?_
  refine Vi (.inl rfl) U U zrv ?_
  exact ⟨rfl, rfl⟩
attribute [local irreducible] ltS
theorem insS (g c n a b : Nat) (ia ib : Int) (d : Array ByteArray) (sp : List Value) (r : List HProp) (ea : ia = a) (eb : ib = b) (hn : d.size = n) (ha : a ≤ n) (hb : b ≤ n) (h63 : n < 4611686018427387904) :
 Fc prog E 181 [.slice (some ⟨g, 0, none⟩) n c, .int .i64 ia, .int .i64 ib].toArray (arS g d sp :: r) (fun v l' => v = .tuple #[] ∧ l' = arS g (Sort.insertionSort ltS d a b) sp :: r) := by
 refine Fc.eqs ?_
 subst ea eb
 refine Va (c := ?codeC) Tryz.func181 ?hb Tryz.ntmps181 ?hl ?_
 case hb => exact rfl
 case hl => exact rfl
 refine Jh (Je (Jb (Jd rfl) U U U ?_))
 refine Jb (Wa U U zwr) U U U ?_
 refine Jb (Jf rfl) U U U ?_
 refine Jg (Ja (Ve ?_))
 refine Wn (α := Nat × Array ByteArray) (fun s => a + 1 ≤ s.1 ∧ s.2.size = n ∧ Sort.insOuter ltS a b s.1 s.2 = Sort.insertionSort ltS d a b) (fun s => [(0, .slice (some ⟨g, 0, none⟩) n c), (1, .int .i64 a), (2, .int .i64 b), (6, .int .i64 s.1)]) (fun s => arS g s.2 sp :: r) (fun s => b - s.1) (a + 1, d) ⟨Nat.le_refl _, hn, rfl⟩ ⟨rfl, rfl, rfl, (congrArg (fun z => some (Value.int .i64 z)) (by first | omega | (dsimp only; omega))), trivial⟩ (fun w h => h) ?_
 rintro ⟨i, d1⟩ ⟨hi1, hs1, he1⟩
 try dsimp only at hi1 hs1 he1 ⊢
 refine Jh (Jh (Je (Jb (Jd rfl) U U U (Jb (Jd rfl) U U U (Jb (y_lss U U) U U U ?_)))))
 refine Jg (Ja ?_)
 first | apply Jx rfl | apply Vo rfl
 case' ht =>
  intro h
  try (first | exact zom | exact zho h | subst h)
  all_goals
   have hlt : i < b := by omega
   refine Vd ?_
 case' hf =>
  intro h
  try (first | exact zom | exact zho h | subst h)
  all_goals
   rw [insOuter_ge (by omega)] at he1
   refine Wl (Jv (Jv (Vl ?_)))
   refine JE.ret0 (.inr rfl) U U  ?_
   exact ⟨rfl, fun w h => by rw [← he1]; exact h⟩
 all_goals refine Ja ?_
 all_goals
  refine Jh (Ve (Jh (Je (Jb (Jd rfl) U U U (Jb (Jf rfl) U U U ?_)))))
  refine Jg (Ja (Ve ?_))
  refine Wn (α := Nat × Array ByteArray) (fun s => a ≤ s.1 ∧ s.1 ≤ i ∧ s.2.size = n ∧ Sort.insInner ltS a s.1 s.2 = Sort.insInner ltS a i d1) (fun s => [(0, .slice (some ⟨g, 0, none⟩) n c), (1, .int .i64 a), (2, .int .i64 b), (6, .int .i64 i), (7, .int .i64 s.1)]) (fun s => arS g s.2 sp :: r) (fun s => s.1) (i, d1) ⟨by dsimp only; omega, Nat.le_refl _, hs1, rfl⟩ ⟨U, U, U, U, U, trivial⟩ (fun w h => h) ?_
  rintro ⟨j, d2⟩ ⟨hj1, hj2, hs2, he2⟩
  try dsimp only at hj1 hj2 hs2 he2 ⊢
  refine Jh (Jh ?_)
  by_cases hg : a < j
  all_goals
   refine Vz _ _ [(0, .q), (1, .q), (2, .q), (3, .q), (4, .q), (5, .q), (6, .q), (7, .q), (8, .q), (9, .q), (10, .q), (11, .q), (12, .q), (13, .q), (14, .q)] mixed (by kernel_rfl) (Jj) ?_
   refine zqm U U U U U (zqm U U U U U ?_)
   first | refine Jc U U U U (fun m => y_gtrB U U (decide_eq_true (by omega))) ?_ | refine Jc U U U U (fun m => y_gtrB U U (decide_eq_false (by omega))) ?_
   refine zqm U U U U U ?_
   all_goals (first | refine Jy U U U U U U U ?_ | refine JM.gskipU U U U U U U ?_ | refine Jr U U U U U U (fun m => Jd rfl) ?_)
   all_goals (first | refine Jy U U U U U U U ?_ | refine JM.gskipU U U U U U U ?_ | refine Jr U U U U U U (fun m => Jd rfl) ?_)
   all_goals (first | refine Jy U U U U U U U ?_ | refine JM.gskipU U U U U U U ?_ | refine Jr U U U U U U (fun m => Jn hT U U U U U zix zix) ?_)
   all_goals (first | refine Jy U U U U U U U ?_ | refine JM.gskipU U U U U U U ?_ | refine Jr U U U U U U (fun m => Jo hT U U U (Wi (i := (j)) (Vp m zpk) zei zeo)) ?_)
   all_goals (first | refine Jy U U U U U U U ?_ | refine JM.gskipU U U U U U U ?_ | refine Jr U U U U U U (fun m => Jd rfl) ?_)
   all_goals (first | refine Jy U U U U U U U ?_ | refine JM.gskipU U U U U U U ?_ | refine Jr U U U U U U (fun m => Jd rfl) ?_)
   all_goals (first | refine Jy U U U U U U U ?_ | refine JM.gskipU U U U U U U ?_ | refine Jr U U U U U U (fun m => y_sub U U zwr) ?_)
   all_goals (first | refine Jy U U U U U U U ?_ | refine JM.gskipU U U U U U U ?_ | refine Jr U U U U U U (fun m => Jn hT U U U U U zix zix) ?_)
   all_goals (first | refine Jy U U U U U U U ?_ | refine JM.gskipU U U U U U U ?_ | refine Jr U U U U U U (fun m => Jo hT U U U (Wi (i := (j - 1)) (Vp m zpk) zei zeo)) ?_)
   all_goals (first | refine Jy U U U U U U U ?_ | refine JM.gskipU U U U U U U ?_ | refine Jr U U U U U U (fun m => y_callF e187 rfl (lessS E _ _ _)) ?_)
   all_goals refine Jc U U U U (fun m => Wb U U U) ?_
   all_goals refine Vv ?_
  all_goals refine Ja ?_
  all_goals
   first | apply Jx rfl | apply Vo rfl
   case' ht =>
    intro h
    try (first | exact zom | exact zho h | subst h)
    all_goals
     rw [insInner_go hg h] at he2
     refine Vd ?_
   case' hf =>
    intro h
    try (first | exact zom | exact zho h | subst h)
    all_goals
     rw [insInner_stop (by first | exact .inl (by omega) | exact .inr h)] at he2
     refine Wl (Jv (Jv (Vl (Ju (Ja (Je (Jb (Jd rfl) U U U ?_)))))))
     refine Jb (Wa U U zwr) U U U ?_
     refine Jb (Jf rfl) U U U ?_
     refine Jg ?_
     exact Vt (s := (i, d1)) (i + 1, Sort.insInner ltS a i d1) ⟨by dsimp only; omega, by dsimp only; rw [← he2]; exact hs2, by dsimp only; rw [← insOuter_lt hlt]; exact he1⟩ ⟨rfl, rfl, rfl, (congrArg (fun z => some (Value.int .i64 z)) (by first | omega | (dsimp only; omega))), trivial⟩ (fun w h => by rw [← he2]; exact h) (by dsimp only; omega)
  all_goals refine Ja ?_
  all_goals
   refine Jh (Ve ?_)
   refine Vz _ _ [(0, .q), (1, .q), (2, .q), (3, .q), (4, .q), (5, .q), (6, .q), (7, .q), (8, .q), (10, .q), (11, .q), (12, .q), (9, .e), (13, .e), (14, .q), (15, .l), (16, .q), (17, .l)] mixed (by kernel_rfl) (Ji (Jm) (Jj)) ?_
   refine zqm U U U U U (zqm U U U U U (zqm U U U U U (zqm U U U U U ?_)))
   refine Jc U U U U (fun m => y_sub U U zwr) ?_
   refine zqm U U U U U (zqm U U U U U ?_)
   refine Jc U U U U (fun m => y_sub U U zwr) ?_
   refine Jc U U U U (fun m => Jn hT U U U U U zix zix) ?_
   refine zqm U U U U U (zqm U U U U U ?_)
   refine Jc U U U U (fun m => Jn hT U U U U U zix zix) ?_
   refine Wh U U U U (fun fr => Jo hT U U U (Wi (i := (j - 1)) zpk zei zeo)) ?_
   refine Wh U U U U (fun fr => Jo hT U U U (Wi (i := (j)) zpk zei zeo)) ?_
   refine Jc U U U U (fun m => Jn hT U U U U U zix zix) ?_
   refine Vm U U (fun fr => l_storeArr (j := (j)) (u := d2[j - 1]!) hT U U U U (fun _ => rfl) zpk zei zeo (⟨[_], (by (repeat (first | exact Jj | exact Vc | refine Ji Jm ?_))), ?_⟩))
   refine Jc U U U U (fun m => Jn hT U U U U U zix zix) ?_
   refine Vm U U (fun fr => l_storeArr (j := (j - 1)) (u := d2[j]!) hT U U U U (fun _ => rfl) zpk zei zeo (⟨[_], (by (repeat (first | exact Jj | exact Vc | refine Ji Jm ?_))), ?_⟩))
   refine Vv (Ju (Ja (Je (Jb (Jd rfl) U U U ?_))))
   refine Jb (y_sub U U zwr) U U U ?_
   refine Jb (Jf rfl) U U U ?_
   refine Jg ?_
  all_goals
   exact Vt (s := (j, d2)) (j - 1, Sort.swp d2 j (j - 1)) ⟨by dsimp only; omega, by dsimp only; omega, by dsimp only; rw [swp_size]; exact hs2, he2⟩ ⟨rfl, rfl, rfl, rfl, (congrArg (fun z => some (Value.int .i64 z)) (by first | omega | (dsimp only; omega))), trivial⟩ (fun w h => h) (by dsimp only; omega)
end
end
section
open Go Go.SL
section
attribute [local irreducible] J JL JE JM LS Y Fc RV Code.wp wpList Code.wpIn wpListIn
attribute [local irreducible] Yc
attribute [local irreducible] ltS
variable (E : World)
theorem revS (g c n a b : Nat) (ia ib : Int) (d : Array ByteArray) (sp : List Value) (r : List HProp) (ea : ia = a) (eb : ib = b) (hn : d.size = n) (hab : a < b) (hb : b ≤ n) (h63 : n < 4611686018427387904) :
 Fc prog E 185 [.slice (some ⟨g, 0, none⟩) n c, .int .i64 ia, .int .i64 ib].toArray (arS g d sp :: r) (fun v l' => v = .tuple #[] ∧ l' = arS g (Sort.reverseRange d a b) sp :: r) := by
 refine Fc.eqs ?_
 subst ea eb
 refine Va (c := ?codeC) Tryz.func185 ?hb Tryz.ntmps185 ?hl ?_
 case hb => exact rfl
 case hl => exact rfl
 refine Jh (Je (Jb (Jd rfl) U U U (Jb (Jf rfl) U U U ?_)))
 refine Jg (Ja (Jh (Je (Jb (Jd rfl) U U U ?_))))
 refine Jb (y_sub U U zwr) U U U ?_
 refine Jb (Jf rfl) U U U ?_
 refine Jg (Ja (Ve ?_))
 refine Wn (α := Nat × Nat × Array ByteArray) (fun s => s.1 ≤ b ∧ s.2.1 < b ∧ s.2.2.size = n ∧ Sort.reverseLoop s.1 s.2.1 s.2.2 = Sort.reverseRange d a b) (fun s => [(0, .slice (some ⟨g, 0, none⟩) n c), (6, .int .i64 s.1), (7, .int .i64 s.2.1)]) (fun s => arS g s.2.2 sp :: r) (fun s => s.2.1 - s.1) (a, b - 1, d) ⟨by dsimp only; omega, by dsimp only; omega, hn, rfl⟩ ⟨rfl, rfl, (congrArg (fun z => some (Value.int .i64 z)) (by first | omega | (dsimp only; omega))), trivial⟩ (fun w h => h) ?_
 rintro ⟨i, j, d1⟩ ⟨hi1, hj1, hs1, he1⟩
 try dsimp only at hi1 hj1 hs1 he1 ⊢
 refine Jh (Jh (Je (Jb (Jd rfl) U U U (Jb (Jd rfl) U U U (Jb (y_lss U U) U U U ?_)))))
 refine Jg (Ja ?_)
 first | apply Jx rfl | apply Vo rfl
 case' ht =>
  intro h
  try (first | exact zom | exact zho h | subst h)
  all_goals
   rw [reverseLoop_lt (by omega)] at he1
   refine Vd ?_
 case' hf =>
  intro h
  try (first | exact zom | exact zho h | subst h)
  all_goals
   rw [reverseLoop_ge (by omega)] at he1
   refine Wl (Jv (Jv (Vl ?_)))
   refine JE.ret0 (.inr rfl) U U  ?_
   exact ⟨rfl, fun w h => by rw [← he1]; exact h⟩
 all_goals refine Ja ?_
 all_goals
  refine Ve (Jh ?_)
  refine Vz _ _ [(0, .q), (1, .q), (2, .q), (3, .q), (4, .q), (5, .q), (6, .q), (8, .q), (9, .q), (10, .q), (7, .e), (11, .e), (12, .q), (13, .l), (14, .q), (15, .l)] mixed (by kernel_rfl) (Ji (Jm) (Jj)) ?_
  refine zqm U U U U U (zqm U U U U U (zqm U U U U U (zqm U U U U U (zqm U U U U U (zqm U U U U U ?_)))))
  refine Jc U U U U (fun m => Jn hT U U U U U zix zix) ?_
  refine zqm U U U U U (zqm U U U U U ?_)
  refine Jc U U U U (fun m => Jn hT U U U U U zix zix) ?_
  refine Wh U U U U (fun fr => Jo hT U U U (Wi (i := (j)) zpk zei zeo)) ?_
  refine Wh U U U U (fun fr => Jo hT U U U (Wi (i := (i)) zpk zei zeo)) ?_
  refine Jc U U U U (fun m => Jn hT U U U U U zix zix) ?_
  refine Vm U U (fun fr => l_storeArr (j := (i)) (u := d1[j]!) hT U U U U (fun _ => rfl) zpk zei zeo (⟨[_], (by (repeat (first | exact Jj | exact Vc | refine Ji Jm ?_))), ?_⟩))
  refine Jc U U U U (fun m => Jn hT U U U U U zix zix) ?_
  refine Vm U U (fun fr => l_storeArr (j := (j)) (u := d1[i]!) hT U U U U (fun _ => rfl) zpk zei zeo (⟨[_], (by (repeat (first | exact Jj | exact Vc | refine Ji Jm ?_))), ?_⟩))
  refine Vv (Ja (Jh (Je (Jb (Jd rfl) U U U ?_))))
  refine Jb (Wa U U zwr) U U U ?_
  refine Jb (Jf rfl) U U U ?_
  refine Jg (Ja (Je (Jb (Jd rfl) U U U ?_)))
  refine Jb (y_sub U U zwr) U U U ?_
  refine Jb (Jf rfl) U U U ?_
  refine Jg (Ju ?_)
 all_goals
  exact Vt (s := (i, j, d1)) (i + 1, j - 1, Sort.swp d1 i j) ⟨by dsimp only; omega, by dsimp only; omega, by dsimp only; rw [swp_size]; exact hs1, he1⟩ ⟨rfl, (congrArg (fun z => some (Value.int .i64 z)) (by first | omega | (dsimp only; omega))), (congrArg (fun z => some (Value.int .i64 z)) (by first | omega | (dsimp only; omega))), trivial⟩ (fun w h => h) (by dsimp only; omega)
theorem siftS (g c n root hi first : Nat) (ir ih jf : Int) (d : Array ByteArray) (sp : List Value) (r : List HProp) (er : ir = root) (eh : ih = hi) (ef : jf = first) (hn : d.size = n) (hr : root ≤ n) (hf : first + hi ≤ n) (h63 : n < 4611686018427387904) :
 Fc prog E 200 [.slice (some ⟨g, 0, none⟩) n c, .int .i64 ir, .int .i64 ih, .int .i64 jf].toArray (arS g d sp :: r) (fun v l' => v = .tuple #[] ∧ l' = arS g (Sort.siftDown ltS hi first root d) sp :: r) := by
 refine Fc.eqs ?_
 subst er eh ef
 refine Va (c := ?codeC) Tryz.func200 ?hb Tryz.ntmps200 ?hl ?_
 case hb => exact rfl
 case hl => exact rfl
 refine Jh (Je (Jb (Jd rfl) U U U (Jb (Jf rfl) U U U ?_)))
 refine Jg (Ja (Ve ?_))
 refine Wn (α := Nat × Array ByteArray) (fun s => s.1 ≤ n ∧ s.2.size = n ∧ Sort.siftDown ltS hi first s.1 s.2 = Sort.siftDown ltS hi first root d) (fun s => [(0, .slice (some ⟨g, 0, none⟩) n c), (2, .int .i64 hi), (3, .int .i64 first), (8, .int .i64 s.1)]) (fun s => arS g s.2 sp :: r) (fun s => hi - s.1) (root, d) ⟨hr, hn, rfl⟩ ⟨U, U, U, U, trivial⟩ (fun w h => h) ?_
 rintro ⟨rt, d1⟩ ⟨hi1, hs1, he1⟩
 try dsimp only at hi1 hs1 he1 ⊢
 refine Ve (Jh (Je (Jb (Jd rfl) U U U ?_)))
 refine Jb (y_mul U U zwr) U U U ?_
 refine Jb (Wa U U zwr) U U U ?_
 refine Jb (Jf rfl) U U U ?_
 refine Jg (Ja (Jh (Jh (Je (Jb (Jd rfl) U U U (Jb (Jd rfl) U U U (Jb (y_geq U U) U U U ?_)))))))
 refine Jg (Ja ?_)
 first | apply Jx rfl | apply Vo rfl
 case' ht =>
  intro h
  try (first | exact zom | exact zho h | subst h)
  all_goals
   rw [siftDown_stop (by omega)] at he1
   refine Wl (Jv ?_)
   refine JE.block_past rfl ?_
   refine Jv (Vl ?_)
   refine JE.ret0 (.inr rfl) U U  ?_
   exact ⟨rfl, fun w h => by rw [← he1]; exact h⟩
 case' hf =>
  intro h
  try (first | exact zom | exact zho h | subst h)
  all_goals
   rw [siftDown_eq (by omega)] at he1
   refine Vd ?_
 all_goals refine Ja ?_
 all_goals
  refine J.seqK (α := Nat) (fun cc => sdChild ltS hi first rt d1 = cc ∧ cc < hi ∧ rt < cc) (fun cc => [(0, .slice (some ⟨g, 0, none⟩) n c), (2, .int .i64 hi), (3, .int .i64 first), (8, .int .i64 rt), (9, .int .i64 cc)]) (fun cc => arS g d1 sp :: r) ?hj5 (fun hk5 => ?hf5)
  case hf5 =>
   refine Jh ?_
   by_cases hg : 2 * rt + 1 + 1 < hi
   all_goals
    refine Vz _ _ [(0, .q), (1, .q), (2, .q), (3, .q), (4, .q), (5, .q), (6, .q), (7, .q), (8, .q), (9, .q), (10, .q), (11, .q), (12, .q), (13, .q), (14, .q), (15, .q), (16, .q), (17, .q), (18, .q), (19, .q)] mixed (by kernel_rfl) (Jj) ?_
    refine zqm U U U U U ?_
    refine Jc U U U U (fun m => Wa U U zwr) ?_
    refine zqm U U U U U ?_
    first | refine Jc U U U U (fun m => y_lssB U U (decide_eq_true (by omega))) ?_ | refine Jc U U U U (fun m => y_lssB U U (decide_eq_false (by omega))) ?_
    refine zqm U U U U U ?_
    all_goals (first | refine Jy U U U U U U U ?_ | refine JM.gskipU U U U U U U ?_ | refine Jr U U U U U U (fun m => Jd rfl) ?_)
    all_goals (first | refine Jy U U U U U U U ?_ | refine JM.gskipU U U U U U U ?_ | refine Jr U U U U U U (fun m => Jd rfl) ?_)
    all_goals (first | refine Jy U U U U U U U ?_ | refine JM.gskipU U U U U U U ?_ | refine Jr U U U U U U (fun m => Jd rfl) ?_)
    all_goals (first | refine Jy U U U U U U U ?_ | refine JM.gskipU U U U U U U ?_ | refine Jr U U U U U U (fun m => Wa U U zwr) ?_)
    all_goals (first | refine Jy U U U U U U U ?_ | refine JM.gskipU U U U U U U ?_ | refine Jr U U U U U U (fun m => Jn hT U U U U U zix zix) ?_)
    all_goals (first | refine Jy U U U U U U U ?_ | refine JM.gskipU U U U U U U ?_ | refine Jr U U U U U U (fun m => Jo hT U U U (Wi (i := (first + (2 * rt + 1))) (Vp m zpk) zei zeo)) ?_)
    all_goals (first | refine Jy U U U U U U U ?_ | refine JM.gskipU U U U U U U ?_ | refine Jr U U U U U U (fun m => Jd rfl) ?_)
    all_goals (first | refine Jy U U U U U U U ?_ | refine JM.gskipU U U U U U U ?_ | refine Jr U U U U U U (fun m => Jd rfl) ?_)
    all_goals (first | refine Jy U U U U U U U ?_ | refine JM.gskipU U U U U U U ?_ | refine Jr U U U U U U (fun m => Jd rfl) ?_)
    all_goals (first | refine Jy U U U U U U U ?_ | refine JM.gskipU U U U U U U ?_ | refine Jr U U U U U U (fun m => Wa U U zwr) ?_)
    all_goals (first | refine Jy U U U U U U U ?_ | refine JM.gskipU U U U U U U ?_ | refine Jr U U U U U U (fun m => Wa U U zwr) ?_)
    all_goals (first | refine Jy U U U U U U U ?_ | refine JM.gskipU U U U U U U ?_ | refine Jr U U U U U U (fun m => Jn hT U U U U U zix zix) ?_)
    all_goals (first | refine Jy U U U U U U U ?_ | refine JM.gskipU U U U U U U ?_ | refine Jr U U U U U U (fun m => Jo hT U U U (Wi (i := (first + (2 * rt + 1) + 1)) (Vp m zpk) zei zeo)) ?_)
    all_goals (first | refine Jy U U U U U U U ?_ | refine JM.gskipU U U U U U U ?_ | refine Jr U U U U U U (fun m => y_callF e187 rfl (lessS E _ _ _)) ?_)
    all_goals refine Jc U U U U (fun m => Wb U U U) ?_
    all_goals refine Vv ?_
   all_goals refine Ja ?_
   all_goals
    first | apply Jx rfl | apply Vo rfl
    case' ht =>
     intro h
     try (first | exact zom | exact zho h | subst h)
     all_goals
      refine Je (Jb (Jd rfl) U U U ?_)
      refine Jb (Wa U U zwr) U U U ?_
      refine Jb (Jf rfl) U U U ?_
      refine Jg ?_
    case' hf =>
     intro h
     try (first | exact zom | exact zho h | subst h)
     all_goals
      refine Vd ?_
   all_goals refine Ja ?_
   all_goals
    first | exact Wj hk5 (2 * rt + 2) ⟨if_pos ⟨hg, h⟩, by omega, by omega⟩ ⟨rfl, rfl, rfl, rfl, (congrArg (fun z => some (Value.int .i64 z)) (by first | omega | (dsimp only; omega))), trivial⟩ (fun w h => h) | exact Wj hk5 (2 * rt + 1) ⟨if_neg (by first | exact fun q => absurd q.1 hg | (rw [h]; exact fun q => absurd q.2 (by decide))), by omega, by omega⟩ ⟨rfl, rfl, rfl, rfl, (congrArg (fun z => some (Value.int .i64 z)) (by first | omega | (dsimp only; omega))), trivial⟩ (fun w h => h)
  rintro cc ⟨hc1, hc2, hc3⟩
  rw [hc1] at he1
  refine Jh (Jh ?_)
  refine Vz _ _ [(0, .q), (1, .q), (2, .q), (3, .q), (4, .q), (5, .q), (6, .q), (7, .q), (8, .q), (9, .q), (10, .q), (11, .q), (12, .q), (13, .q)] mixed (by kernel_rfl) (Jj) ?_
  refine zqm U U U U U (zqm U U U U U (zqm U U U U U ?_))
  refine Jc U U U U (fun m => Wa U U zwr) ?_
  refine Jc U U U U (fun m => Jn hT U U U U U zix zix) ?_
  refine Jc U U U U (fun m => Jo hT U U U (Wi (i := (first + rt)) (Vp m zpk) zei zeo)) ?_
  refine zqm U U U U U (zqm U U U U U (zqm U U U U U ?_))
  refine Jc U U U U (fun m => Wa U U zwr) ?_
  refine Jc U U U U (fun m => Jn hT U U U U U zix zix) ?_
  refine Jc U U U U (fun m => Jo hT U U U (Wi (i := (first + cc)) (Vp m zpk) zei zeo)) ?_
  refine Jc U U U U (fun m => y_callF e187 rfl (lessS E _ _ _)) (Jc U U U U (fun m => y_not rfl) ?_)
  refine Vv (Ja ?_)
  first | apply Jx rfl | apply Vo rfl
  case' ht =>
   intro h
   try (first | exact zom | exact zho h | subst h)
   all_goals
    rw [if_neg (by simpa using h)] at he1
    refine Vn (Vb (Vj (Vb (Vj ?_))))
    refine JE.ret0 (.inl rfl) U U  ?_
    exact ⟨rfl, fun w h => by rw [← he1]; exact h⟩
  case' hf =>
   intro h
   try (first | exact zom | exact zho h | subst h)
   all_goals
    rw [if_pos (by simpa using h)] at he1
    refine Vd ?_
  all_goals refine Ja ?_
  all_goals
   refine Jh ?_
   refine Vz _ _ [(0, .q), (1, .q), (2, .q), (3, .q), (4, .q), (5, .q), (6, .q), (7, .q), (8, .q), (9, .q), (10, .q), (11, .q), (12, .q), (14, .q), (15, .q), (16, .q), (17, .q), (18, .q), (13, .e), (19, .e), (20, .q), (21, .l), (22, .q), (23, .l)] mixed (by kernel_rfl) (Ji (Jm) (Jj)) ?_
   refine zqm U U U U U (zqm U U U U U (zqm U U U U U ?_))
   refine Jc U U U U (fun m => Wa U U zwr) ?_
   refine zqm U U U U U (zqm U U U U U (zqm U U U U U ?_))
   refine Jc U U U U (fun m => Wa U U zwr) ?_
   refine zqm U U U U U (zqm U U U U U (zqm U U U U U ?_))
   refine Jc U U U U (fun m => Wa U U zwr) ?_
   refine Jc U U U U (fun m => Jn hT U U U U U zix zix) ?_
   refine zqm U U U U U (zqm U U U U U (zqm U U U U U ?_))
   refine Jc U U U U (fun m => Wa U U zwr) ?_
   refine Jc U U U U (fun m => Jn hT U U U U U zix zix) ?_
   refine Wh U U U U (fun fr => Jo hT U U U (Wi (i := (first + cc)) zpk zei zeo)) ?_
   refine Wh U U U U (fun fr => Jo hT U U U (Wi (i := (first + rt)) zpk zei zeo)) ?_
   refine Jc U U U U (fun m => Jn hT U U U U U zix zix) ?_
   refine Vm U U (fun fr => l_storeArr (j := (first + rt)) (u := d1[first + cc]!) hT U U U U (fun _ => rfl) zpk zei zeo (⟨[_], (by (repeat (first | exact Jj | exact Vc | refine Ji Jm ?_))), ?_⟩))
   refine Jc U U U U (fun m => Jn hT U U U U U zix zix) ?_
   refine Vm U U (fun fr => l_storeArr (j := (first + cc)) (u := d1[first + rt]!) hT U U U U (fun _ => rfl) zpk zei zeo (⟨[_], (by (repeat (first | exact Jj | exact Vc | refine Ji Jm ?_))), ?_⟩))
   refine Vv (Ja (Je (Jb (Jd rfl) U U U (Jb (Jf rfl) U U U ?_))))
   refine Jg ?_
 all_goals refine Ju ?_
 all_goals
  exact Vt (s := (rt, d1)) (cc, Sort.swp d1 (first + rt) (first + cc)) ⟨by dsimp only; omega, by dsimp only; rw [swp_size]; exact hs1, he1⟩ ⟨U, U, U, U, trivial⟩ (fun w h => h) (by dsimp only; omega)
theorem heapS (g c n a b : Nat) (ia ib : Int) (d : Array ByteArray) (sp : List Value) (r : List HProp) (ea : ia = a) (eb : ib = b) (hn : d.size = n) (hab : a < b) (hb : b ≤ n) (h63 : n < 4611686018427387904) :
 Fc prog E 182 [.slice (some ⟨g, 0, none⟩) n c, .int .i64 ia, .int .i64 ib].toArray (arS g d sp :: r) (fun v l' => v = .tuple #[] ∧ ∃ d', d' = Sort.heapSort ltS d a b ∧ l' = arS g d' sp :: r) := by
 suffices hq : Fc prog E 182 [.slice (some ⟨g, 0, none⟩) n c, .int .i64 ia, .int .i64 ib].toArray (arS g d sp :: r) (fun v l' => v = .tuple #[] ∧ l' = arS g (Sort.heapSort ltS d a b) sp :: r) from hq.mono fun v l' q => ⟨q.1, _, rfl, q.2⟩
 refine Fc.eqs ?_
 subst ea eb
 refine Va (c := ?codeC) Tryz.func182 ?hb Tryz.ntmps182 ?hl ?_
 case hb => exact rfl
 case hl => exact rfl
 refine Jh (Je (Jb (Jd rfl) U U U (Jb (Jf rfl) U U U ?_)))
 refine Jg (Ja (Jh (Je (Jb (Jf rfl) U U U ?_))))
 refine Jg (Ja (Jh (Je (Jb (Jd rfl) U U U (Jb (Jd rfl) U U U ?_)))))
 refine Jb (y_sub U U zwr) U U U ?_
 refine Jb (Jf rfl) U U U ?_
 refine Jg (Ja (Jh (Jh (Je (Jb (Jd rfl) U U U ?_)))))
 refine Jb (y_sub U U zwr) U U U ?_
 refine Jb (y_quo U U (by decide) (quo_nat (x := b - a - 1) (k := 2) (by omega) (by omega))) U U U ?_
 refine Jb (Jf rfl) U U U ?_
 refine Jg (Ja (Ve ?_))
 refine Wn (α := Nat × Array ByteArray) (fun s => s.1 ≤ n ∧ s.2.size = n ∧ Sort.heapPop ltS a (b - a) (Sort.heapBuild ltS (b - a) a s.1 s.2) = Sort.heapSort ltS d a b) (fun s => [(0, .slice (some ⟨g, 0, none⟩) n c), (6, .int .i64 a), (7, .int .i64 0), (8, .int .i64 ((b - a : Nat) : Int)), (9, .int .i64 ((s.1 : Int) - 1))]) (fun s => arS g s.2 sp :: r) (fun s => s.1) ((b - a - 1) / 2 + 1, d) ⟨by dsimp only; omega, hn, rfl⟩ ⟨rfl, rfl, rfl, (congrArg (fun z => some (Value.int .i64 z)) (by first | omega | (dsimp only; omega))), (congrArg (fun z => some (Value.int .i64 z)) (by first | omega | (dsimp only; omega))), trivial⟩ (fun w h => h) ?_
 rintro ⟨k, d1⟩ ⟨hi1, hs1, he1⟩
 try dsimp only at hi1 hs1 he1 ⊢
 refine Jh (Jh (Je (Jb (Jd rfl) U U U (Jb (y_geq U U) U U U ?_))))
 refine Jg (Ja ?_)
 first | apply Jx rfl | apply Vo rfl
 case' ht =>
  intro h
  try (first | exact zom | exact zho h | subst h)
  all_goals
   obtain ⟨k, rfl⟩ : ∃ q, k = q + 1 := ⟨k - 1, by omega⟩
   have he1 : Sort.heapPop ltS a (b - a) (Sort.heapBuild ltS (b - a) a k (Sort.siftDown ltS (b - a) a k d1)) = Sort.heapSort ltS d a b := he1
   refine Vd ?_
 case' hf =>
  intro h
  try (first | exact zom | exact zho h | subst h)
  all_goals
   obtain rfl : k = 0 := by omega
   have he1 : Sort.heapPop ltS a (b - a) d1 = Sort.heapSort ltS d a b := he1
   refine Wl (Jv (Jv (Vl (Ja (Jh (Je (Jb (Jd rfl) U U U ?_)))))))
   refine Jb (y_sub U U zwr) U U U ?_
   refine Jb (Jf rfl) U U U ?_
   refine Jg (Ja (Ve ?_))
   refine Wn (α := Nat × Array ByteArray) (fun s => s.1 ≤ b - a ∧ s.2.size = n ∧ Sort.heapPop ltS a s.1 s.2 = Sort.heapSort ltS d a b) (fun s => [(0, .slice (some ⟨g, 0, none⟩) n c), (6, .int .i64 a), (7, .int .i64 0), (8, .int .i64 ((b - a : Nat) : Int)), (10, .int .i64 ((s.1 : Int) - 1))]) (fun s => arS g s.2 sp :: r) (fun s => s.1) (b - a, d1) ⟨Nat.le_refl _, hs1, he1⟩ ⟨rfl, rfl, rfl, rfl, (congrArg (fun z => some (Value.int .i64 z)) (by first | omega | (dsimp only; omega))), trivial⟩ (fun w h => h) ?_
   rintro ⟨k, d2⟩ ⟨hi2, hs2, he2⟩
   try dsimp only at hi2 hs2 he2 ⊢
   refine Jh (Jh (Je (Jb (Jd rfl) U U U (Jb (y_geq U U) U U U ?_))))
   refine Jg (Ja ?_)
   first | apply Jx rfl | apply Vo rfl
   case' ht =>
    intro h
    try (first | exact zom | exact zho h | subst h)
    all_goals
     obtain ⟨k, rfl⟩ : ∃ q, k = q + 1 := ⟨k - 1, by omega⟩
     have he2 : Sort.heapPop ltS a k (Sort.siftDown ltS k a 0 (Sort.swp d2 a (a + k))) = Sort.heapSort ltS d a b := he2
     refine Vd ?_
   case' hf =>
    intro h
    try (first | exact zom | exact zho h | subst h)
    all_goals
     obtain rfl : k = 0 := by omega
     have he2 : d2 = Sort.heapSort ltS d a b := he2
     refine Wl (Jv (Jv (Vl ?_)))
     refine JE.ret0 (.inr rfl) U U  ?_
     exact ⟨rfl, fun w h => by rw [← he2]; exact h⟩
   all_goals refine Ja ?_
   all_goals
    refine Jh (Ve (Jh ?_))
    refine Vz _ _ [(0, .q), (1, .q), (2, .q), (3, .q), (4, .q), (5, .q), (6, .q), (7, .q), (8, .q), (9, .q), (10, .q), (12, .q), (13, .q), (14, .q), (11, .e), (15, .e), (16, .q), (17, .l), (18, .q), (19, .l)] mixed (by kernel_rfl) (Ji (Jm) (Jj)) ?_
    refine zqm U U U U U (zqm U U U U U (zqm U U U U U (zqm U U U U U (zqm U U U U U ?_))))
    refine Jc U U U U (fun m => Wa U U zwr) ?_
    refine zqm U U U U U (zqm U U U U U (zqm U U U U U ?_))
    refine Jc U U U U (fun m => Wa U U zwr) ?_
    refine Jc U U U U (fun m => Jn hT U U U U U zix zix) ?_
    refine zqm U U U U U (zqm U U U U U ?_)
    refine Jc U U U U (fun m => Jn hT U U U U U zix zix) ?_
    refine Wh U U U U (fun fr => Jo hT U U U (Wi (i := (a + k)) zpk zei zeo)) ?_
    refine Wh U U U U (fun fr => Jo hT U U U (Wi (i := (a)) zpk zei zeo)) ?_
    refine Jc U U U U (fun m => Jn hT U U U U U zix zix) ?_
    refine Vm U U (fun fr => l_storeArr (j := (a)) (u := d2[a + k]!) hT U U U U (fun _ => rfl) zpk zei zeo (⟨[_], (by (repeat (first | exact Jj | exact Vc | refine Ji Jm ?_))), ?_⟩))
    refine Jc U U U U (fun m => Jn hT U U U U U zix zix) ?_
    refine Vm U U (fun fr => l_storeArr (j := (a + k)) (u := d2[a]!) hT U U U U (fun _ => rfl) zpk zei zeo (⟨[_], (by (repeat (first | exact Jj | exact Vc | refine Ji Jm ?_))), ?_⟩))
    refine Vv (Ja (Je (Jb (Jd rfl) U U U (Jb (Jd rfl) U U U (Jb (Jd rfl) U U U (Jb (Jd rfl) U U U ?_))))))
    refine Jl rfl (Jw e200 U U (Vw (Ji zpk Jj) (siftS E g c n 0 k a _ _ _ (Sort.swp d2 a (a + k)) sp _ rfl (by omega) rfl (by rw [swp_size]; exact hs2) (by omega) (by omega) h63)) ?_)
    rintro _ _ ⟨rfl, rfl⟩
    refine Jg (Ju (Ja (Je (Jb (Jd rfl) U U U ?_))))
    refine Jb (y_sub U U zwr) U U U ?_
    refine Jb (Jf rfl) U U U ?_
    refine Jg ?_
   all_goals
    exact Vt (s := (k + 1, d2)) (k, Sort.siftDown ltS k a 0 (Sort.swp d2 a (a + k))) ⟨by dsimp only; omega, by dsimp only; rw [siftDown_size, swp_size]; exact hs2, he2⟩ ⟨rfl, rfl, rfl, rfl, (congrArg (fun z => some (Value.int .i64 z)) (by first | omega | (dsimp only; omega))), trivial⟩ (fun w h => h) (by dsimp only; omega)
 all_goals refine Ja ?_
 all_goals
  refine Jh (Ve (Je (Jb (Jd rfl) U U U (Jb (Jd rfl) U U U (Jb (Jd rfl) U U U (Jb (Jd rfl) U U U ?_))))))
  refine Jl rfl (Jw e200 U U (Vw (Ji zpk Jj) (siftS E g c n k (b - a) a _ _ _ d1 sp _ (by omega) (by omega) rfl hs1 (by omega) (by omega) h63)) ?_)
  rintro _ _ ⟨rfl, rfl⟩
  refine Jg (Ju (Ja (Je (Jb (Jd rfl) U U U ?_))))
  refine Jb (y_sub U U zwr) U U U ?_
  refine Jb (Jf rfl) U U U ?_
  refine Jg ?_
 all_goals
  exact Vt (s := (k + 1, d1)) (k, Sort.siftDown ltS (b - a) a k d1) ⟨by dsimp only; omega, by dsimp only; rw [siftDown_size]; exact hs1, he1⟩ ⟨rfl, rfl, rfl, rfl, (congrArg (fun z => some (Value.int .i64 z)) (by first | omega | (dsimp only; omega))), trivial⟩ (fun w h => h) (by dsimp only; omega)
end
end
section
open Go Go.SL
section
attribute [local irreducible] J JL JE JM LS Y Fc RV Code.wp wpList Code.wpIn wpListIn
attribute [local irreducible] Yc
attribute [local irreducible] ltS
variable (E : World)
theorem order2S (g c n a b s : Nat) (ia ib : Int) (d : Array ByteArray) (sp : List Value) (z : Int) (r : List HProp) (ea : ia = a) (eb : ib = b) (hn : d.size = n) (ha : a < n) (hb : b < n) (h63 : n < 4611686018427387904) :
 Fc prog E 217 [.slice (some ⟨g, 0, none⟩) n c, .int .i64 ia, .int .i64 ib, .pointer (some ⟨s, 0, none⟩)].toArray (arS g d sp :: row s 3 [.int .i64 z] :: r) (fun v l' => ∃ (x y : Nat) (z' : Int), v = .tuple #[.int .i64 x, .int .i64 y] ∧ (x = a ∧ y = b ∨ x = b ∧ y = a) ∧ l' = arS g d sp :: row s 3 [.int .i64 z'] :: r) := by
 refine Wg ?_
 subst ea eb
 refine Va (c := ?codeC) Tryz.func217 ?hb Tryz.ntmps217 ?hl ?_
 case hb => exact rfl
 case hl => exact rfl
 refine Jh (Je (Jb (Jf rfl) U U U (Jb (Jf rfl) U U U ?_)))
 refine Jg (Ja (Jh (Jh ?_)))
 refine Vz _ _ [(0, .q), (1, .q), (2, .q), (3, .q), (4, .q), (5, .q), (6, .q), (7, .q), (8, .q)] mixed (by kernel_rfl) (Jj) ?_
 refine zqm U U U U U (zqm U U U U U ?_)
 refine Jc U U U U (fun m => Jn hT U U U U U zix zix) ?_
 refine Jc U U U U (fun m => Jo hT U U U (Wi (i := (b)) (Vp m zpk) zei zeo)) ?_
 refine zqm U U U U U (zqm U U U U U ?_)
 refine Jc U U U U (fun m => Jn hT U U U U U zix zix) ?_
 refine Jc U U U U (fun m => Jo hT U U U (Wi (i := (a)) (Vp m zpk) zei zeo)) ?_
 refine Jc U U U U (fun m => y_callF e187 rfl (lessS E _ _ _)) ?_
 refine Vv (Ja ?_)
 first | apply Jx rfl | apply Vo rfl
 case' ht =>
  intro h
  try (first | exact zom | exact zho h | subst h)
  all_goals
   refine Jh (Je (Jb (Jd rfl) U U U ?_))
   refine Jb znc U U U ?_
   refine Jb (Jo hT U U U zrd) U U U ?_
   refine Jb (Wa U U zwr) U U U ?_
   refine Jb znc U U U ?_
   refine Jl rfl (Vs hT U U U U U zpk zix ?_)
   refine Jg (Ja (Jh (Je (Jb (Jd rfl) U U U (Jb (Jd rfl) U U U (Jb (Jf rfl) U U U (Jb (Jf rfl) U U U ?_)))))))
   refine Jg (Ja (Vn (Vb ?_)))
   refine JE.ret2 (.inl rfl) U U zrv zrv ?_
   first | exact ⟨_, fun w h => h.sup zsup, a, b, _, rfl, .inl ⟨rfl, rfl⟩, rfl⟩ | exact ⟨_, fun w h => h.sup zsup, b, a, _, rfl, .inr ⟨rfl, rfl⟩, rfl⟩
 case' hf =>
  intro h
  try (first | exact zom | exact zho h | subst h)
  all_goals
   refine Vd ?_
 all_goals refine Ja ?_
 all_goals
  refine Jh (Je (Jb (Jd rfl) U U U (Jb (Jd rfl) U U U (Jb (Jf rfl) U U U (Jb (Jf rfl) U U U ?_)))))
  refine Jg (Ja (Vn ?_))
  refine JE.ret2 (.inl rfl) U U zrv zrv ?_
  first | exact ⟨_, fun w h => h.sup zsup, a, b, _, rfl, .inl ⟨rfl, rfl⟩, rfl⟩ | exact ⟨_, fun w h => h.sup zsup, b, a, _, rfl, .inr ⟨rfl, rfl⟩, rfl⟩
theorem medianS (g c n a b e s : Nat) (ia ib ie : Int) (d : Array ByteArray) (sp : List Value) (z : Int) (r : List HProp) (ea : ia = a) (eb : ib = b) (ee : ie = e) (hn : d.size = n) (ha : a < n) (hb : b < n) (he : e < n) (h63 : n < 4611686018427387904) :
 Fc prog E 204 [.slice (some ⟨g, 0, none⟩) n c, .int .i64 ia, .int .i64 ib, .int .i64 ie, .pointer (some ⟨s, 0, none⟩)].toArray (arS g d sp :: row s 3 [.int .i64 z] :: r) (fun v l' => ∃ (x : Nat) (z' : Int), v = .int .i64 x ∧ (x = a ∨ x = b ∨ x = e) ∧ l' = arS g d sp :: row s 3 [.int .i64 z'] :: r) := by
 refine Wg ?_
 subst ea eb ee
 refine Va (c := ?codeC) Tryz.func204 ?hb Tryz.ntmps204 ?hl ?_
 case hb => exact rfl
 case hl => exact rfl
 refine Jh (Je (Jb (Jf rfl) U U U ?_))
 refine Jg (Ja (Jh (Je (Jb (Jd rfl) U U U (Jb (Jd rfl) U U U (Jb (Jd rfl) U U U (Jb (Jd rfl) U U U ?_)))))))
 refine Jl rfl (Jw e217 U U (Vw (Ji zpk (Ji zpk Jj)) (order2S E g c n a b s _ _ d sp _ _ U U hn (by omega) (by omega) h63)) ?_)
 rintro _ _ ⟨x1, y1, z1, rfl, h1, rfl⟩
 refine Jb (Jd rfl) U U U (Jb (Vg U U) U U U (Jb (Vg U U) U U U (Jb (Jf rfl) U U U (Jb (Jf rfl) U U U ?_))))
 refine Jg (Ja (Jh (Je (Jb (Jd rfl) U U U (Jb (Jd rfl) U U U (Jb (Jd rfl) U U U (Jb (Jd rfl) U U U ?_)))))))
 refine Jl rfl (Jw e217 U U (Vw (Ji zpk (Ji zpk Jj)) (order2S E g c n y1 e s _ _ d sp _ _ U U hn (by omega) (by omega) h63)) ?_)
 rintro _ _ ⟨x2, y2, z2, rfl, h2, rfl⟩
 refine Jb (Jd rfl) U U U (Jb (Vg U U) U U U (Jb (Vg U U) U U U (Jb (Jf rfl) U U U (Jb (Jf rfl) U U U ?_))))
 refine Jg (Ja (Jh (Je (Jb (Jd rfl) U U U (Jb (Jd rfl) U U U (Jb (Jd rfl) U U U (Jb (Jd rfl) U U U ?_)))))))
 refine Jl rfl (Jw e217 U U (Vw (Ji zpk (Ji zpk Jj)) (order2S E g c n x1 x2 s _ _ d sp _ _ U U hn (by omega) (by omega) h63)) ?_)
 rintro _ _ ⟨x3, y3, z3, rfl, h3, rfl⟩
 refine Jb (Jd rfl) U U U (Jb (Vg U U) U U U (Jb (Vg U U) U U U (Jb (Jf rfl) U U U (Jb (Jf rfl) U U U ?_))))
 refine Jg (Ja (Jh (Je (Jb (Jd rfl) U U U (Jb (Jf rfl) U U U ?_)))))
 refine Jg (Ja (Vn ?_))
 refine Vi (.inl rfl) U U zrv ?_
 exact ⟨_, fun w h => h.sup zsup, y3, _, rfl, by omega, rfl⟩
theorem adjacentS (g c n a s : Nat) (ia : Int) (d : Array ByteArray) (sp : List Value) (z : Int) (r : List HProp) (ea : ia = a) (hn : d.size = n) (h1 : 1 ≤ a) (ha : a + 1 < n) (h63 : n < 4611686018427387904) :
 Fc prog E 203 [.slice (some ⟨g, 0, none⟩) n c, .int .i64 ia, .pointer (some ⟨s, 0, none⟩)].toArray (arS g d sp :: row s 3 [.int .i64 z] :: r) (fun v l' => ∃ (x : Nat) (z' : Int), v = .int .i64 x ∧ (x = a - 1 ∨ x = a ∨ x = a + 1) ∧ l' = arS g d sp :: row s 3 [.int .i64 z'] :: r) := by
 refine Wg ?_
 subst ea
 refine Va (c := ?codeC) Tryz.func203 ?hb Tryz.ntmps203 ?hl ?_
 case hb => exact rfl
 case hl => exact rfl
 refine Jh (Je (Jb (Jf rfl) U U U ?_))
 refine Jg (Ja (Jh (Je (Jb (Jd rfl) U U U (Jb (Jd rfl) U U U ?_)))))
 refine Jb (y_sub U U zwr) U U U ?_
 refine Jb (Jd rfl) U U U (Jb (Jd rfl) U U U ?_)
 refine Jb (Wa U U zwr) U U U ?_
 refine Jb (Jd rfl) U U U ?_
 refine Jl rfl (Jw e204 U U (Vw (Ji zpk (Ji zpk Jj)) (medianS E g c n (a - 1) a (a + 1) s _ _ _ d sp _ _ (by omega) rfl (by omega) hn (by omega) (by omega) (by omega) h63)) ?_)
 rintro _ _ ⟨x1, z1, rfl, h1, rfl⟩
 refine Jb (Jf rfl) U U U ?_
 refine Jg (Ja (Vn ?_))
 refine Vi (.inl rfl) U U zrv ?_
 exact ⟨_, fun w h => h.sup zsup, x1, _, rfl, by omega, rfl⟩
theorem pivotS (g c n a b : Nat) (ia ib : Int) (d : Array ByteArray) (sp : List Value) (r : List HProp) (ea : ia = a) (eb : ib = b) (hn : d.size = n) (hab : a + 12 < b) (hb : b ≤ n) (h63 : n < 4611686018427387904) :
 Fc prog E 184 [.slice (some ⟨g, 0, none⟩) n c, .int .i64 ia, .int .i64 ib].toArray (arS g d sp :: r) (fun v l' => ∃ (x h : Nat), v = .tuple #[.int .i64 x, .int .i64 h] ∧ a ≤ x ∧ x < b ∧ l' = arS g d sp :: r) := by
 refine Wg ?_
 subst ea eb
 refine Va (c := ?codeC) Tryz.func184 ?hb Tryz.ntmps184 ?hl ?_
 case hb => exact rfl
 case hl => exact rfl
 refine Jh (Je (Jb (Jf rfl) U U U (Jb (Jf rfl) U U U ?_)))
 refine Jg (Ja (Jh (Je (Jb (Jd rfl) U U U (Jb (Jd rfl) U U U ?_)))))
 refine Jb (y_sub U U zwr) U U U ?_
 refine Jb (Jf rfl) U U U ?_
 refine Jg (Ja (Jh (Je ?_)))
 refine Jl rfl (Wf hT U U zcl rfl (fun b1 => ?_))
 refine Jg (Ja (Jh (Je (Jb (Jd rfl) U U U (Jb (Jd rfl) U U U ?_)))))
 refine Jb (y_quo U U (by decide) (quo_nat (x := b - a) (k := 4) (by omega) (by omega))) U U U ?_
 refine Jb (y_mul U U zwr) U U U ?_
 refine Jb (Wa U U zwr) U U U ?_
 refine Jb (Jf rfl) U U U ?_
 refine Jg (Ja (Jh (Je (Jb (Jd rfl) U U U (Jb (Jd rfl) U U U ?_)))))
 refine Jb (y_quo U U (by decide) (quo_nat (x := b - a) (k := 4) (by omega) (by omega))) U U U ?_
 refine Jb (y_mul U U zwr) U U U ?_
 refine Jb (Wa U U zwr) U U U ?_
 refine Jb (Jf rfl) U U U ?_
 refine Jg (Ja (Jh (Je (Jb (Jd rfl) U U U (Jb (Jd rfl) U U U ?_)))))
 refine Jb (y_quo U U (by decide) (quo_nat (x := b - a) (k := 4) (by omega) (by omega))) U U U ?_
 refine Jb (y_mul U U zwr) U U U ?_
 refine Jb (Wa U U zwr) U U U ?_
 refine Jb (Jf rfl) U U U ?_
 refine Jg (Ja (Jh (Jh (Je (Jb (Jd rfl) U U U (Jb (y_geq U U) U U U ?_))))))
 refine Jg (Ja ?_)
 refine J.cond_t rfl zbl ?_
 refine J.seqK (α := Nat × Nat × Nat × Int) (fun q => (a ≤ q.1 ∧ q.1 < b) ∧ (a ≤ q.2.1 ∧ q.2.1 < b) ∧ (a ≤ q.2.2.1 ∧ q.2.2.1 < b)) (fun q => [(0, .slice (some ⟨g, 0, none⟩) n c), (9, .pointer (some ⟨b1, 0, none⟩)), (10, .int .i64 q.1), (11, .int .i64 q.2.1), (12, .int .i64 q.2.2.1)]) (fun q => arS g d sp :: row b1 3 [.int .i64 q.2.2.2] :: r) ?hj11 (fun hk11 => ?hf11)
 case hf11 =>
  refine Jh (Je (Jb (Jd rfl) U U U (Jb (y_geq U U) U U U ?_)))
  refine Jg (Ja ?_)
  first | apply Jx rfl | apply Vo rfl
  case' ht =>
   intro h
   try (first | exact zom | exact zho h | subst h)
   all_goals
    refine Jh (Je (Jb (Jd rfl) U U U (Jb (Jd rfl) U U U ?_)))
    refine Jl rfl (Jw e203 U U (Vw (Ji zpk (Ji zpk Jj)) (adjacentS E g c n (a + (b - a) / 4 * 1) _ _ d sp _ _ (by omega) hn (by omega) (by omega) h63)) ?_)
    rintro _ _ ⟨x1, z1, rfl, h1, rfl⟩
    refine Jb (Jf rfl) U U U ?_
    refine Jg (Ja (Jh (Je (Jb (Jd rfl) U U U (Jb (Jd rfl) U U U ?_)))))
    refine Jl rfl (Jw e203 U U (Vw (Ji zpk (Ji zpk Jj)) (adjacentS E g c n (a + (b - a) / 4 * 2) _ _ d sp _ _ (by omega) hn (by omega) (by omega) h63)) ?_)
    rintro _ _ ⟨x2, z2, rfl, h2, rfl⟩
    refine Jb (Jf rfl) U U U ?_
    refine Jg (Ja (Je (Jb (Jd rfl) U U U (Jb (Jd rfl) U U U ?_))))
    refine Jl rfl (Jw e203 U U (Vw (Ji zpk (Ji zpk Jj)) (adjacentS E g c n (a + (b - a) / 4 * 3) _ _ d sp _ _ (by omega) hn (by omega) (by omega) h63)) ?_)
    rintro _ _ ⟨x3, z3, rfl, h3, rfl⟩
    refine Jb (Jf rfl) U U U ?_
    refine Jg ?_
  case' hf =>
   intro h
   try (first | exact zom | exact zho h | subst h)
   all_goals
    refine Vd ?_
  all_goals refine Ja ?_
  all_goals
   first | exact Wj hk11 (x1, x2, x3, z3) ⟨by dsimp only; omega, by dsimp only; omega, by dsimp only; omega⟩ ⟨U, U, U, U, U, trivial⟩ (fun w h => h.sup zsup) | exact Wj hk11 (a + (b - a) / 4 * 1, a + (b - a) / 4 * 2, a + (b - a) / 4 * 3, 0) ⟨by dsimp only; omega, by dsimp only; omega, by dsimp only; omega⟩ ⟨rfl, rfl, (congrArg (fun z => some (Value.int .i64 z)) (by first | omega | (dsimp only; omega))), (congrArg (fun z => some (Value.int .i64 z)) (by first | omega | (dsimp only; omega))), (congrArg (fun z => some (Value.int .i64 z)) (by first | omega | (dsimp only; omega))), trivial⟩ (fun w h => h.sup zsup)
 rintro ⟨i, j, k, z⟩ ⟨hi, hj, hk⟩
 try dsimp only at hi hj hk ⊢
 refine Je (Jb (Jd rfl) U U U (Jb (Jd rfl) U U U (Jb (Jd rfl) U U U (Jb (Jd rfl) U U U ?_))))
 refine Jl rfl (Jw e204 U U (Vw (Ji zpk (Ji zpk Jj)) (medianS E g c n i j k _ _ _ _ d sp _ _ U U U hn (by omega) (by omega) (by omega) h63)) ?_)
 rintro _ _ ⟨m, zm, rfl, hm, rfl⟩
 refine Jb (Jf rfl) U U U ?_
 refine Jg ?_
 all_goals refine Ja ?_
 all_goals
  refine Jh (Je ?_)
  refine Jb (Jo hT U U U zrd) U U U ?_
  refine Jg (Ja (Ve (Jh (Je (Jb (y_eql U U) U U U (Jb (Jf rfl) U U U ?_))))))
  refine Jg (Ja ?_)
  first | apply Jx rfl | apply Vo rfl
  case' ht =>
   intro h
   try (first | exact zom | exact zho h | subst h)
   all_goals
    refine Jh (Je (Jb (Jd rfl) U U U (Jb (Jf rfl) U U U (Jb (Jf rfl) U U U ?_))))
    refine Jg (Ja (Vn (Vj ?_)))
    refine JE.ret2 (.inl rfl) U U zrv zrv ?_
    first | exact ⟨_, fun w h => h.sup zsup, m, 1, rfl, by omega, by omega, rfl⟩ | exact ⟨_, fun w h => h.sup zsup, m, 2, rfl, by omega, by omega, rfl⟩ | exact ⟨_, fun w h => h.sup zsup, m, 0, rfl, by omega, by omega, rfl⟩
  case' hf =>
   intro h
   try (first | exact zom | exact zho h | subst h)
   all_goals
    refine Jh (Je (Jb (y_eql U U) U U U (Jb (Jf rfl) U U U ?_)))
    refine Jg (Ja ?_)
    first | apply Jx rfl | apply Vo rfl
    case' ht =>
     intro h
     try (first | exact zom | exact zho h | subst h)
     all_goals
      refine Jh (Je (Jb (Jd rfl) U U U (Jb (Jf rfl) U U U (Jb (Jf rfl) U U U ?_))))
      refine Jg (Ja (Vn (Vj ?_)))
      refine JE.ret2 (.inl rfl) U U zrv zrv ?_
      first | exact ⟨_, fun w h => h.sup zsup, m, 1, rfl, by omega, by omega, rfl⟩ | exact ⟨_, fun w h => h.sup zsup, m, 2, rfl, by omega, by omega, rfl⟩ | exact ⟨_, fun w h => h.sup zsup, m, 0, rfl, by omega, by omega, rfl⟩
    case' hf =>
     intro h
     try (first | exact zom | exact zho h | subst h)
     all_goals
      refine Jh (Je (Jb (Jd rfl) U U U (Jb (Jf rfl) U U U (Jb (Jf rfl) U U U ?_))))
      refine Jg (Ja (Vn (Vj ?_)))
      refine JE.ret2 (.inl rfl) U U zrv zrv ?_
      first | exact ⟨_, fun w h => h.sup zsup, m, 1, rfl, by omega, by omega, rfl⟩ | exact ⟨_, fun w h => h.sup zsup, m, 2, rfl, by omega, by omega, rfl⟩ | exact ⟨_, fun w h => h.sup zsup, m, 0, rfl, by omega, by omega, rfl⟩
end
end
section
open Go Go.SL
section
attribute [local irreducible] J JL JE JM LS Y Fc RV Code.wp wpList Code.wpIn wpListIn
attribute [local irreducible] Yc
attribute [local irreducible] ltS
variable (E : World)
theorem brkS (g c n a b : Nat) (ia ib : Int) (d : Array ByteArray) (sp : List Value) (r : List HProp) (ea : ia = a) (eb : ib = b) (hn : d.size = n) (hab : a + 12 < b) (hb : b ≤ n) (h63 : n < 4611686018427387904) :
 Fc prog E 183 [.slice (some ⟨g, 0, none⟩) n c, .int .i64 ia, .int .i64 ib].toArray (arS g d sp :: r) (fun v l' => v = .tuple #[] ∧ ∃ d', Sort.PermIn a b d d' ∧ l' = arS g d' sp :: r) := by
 refine Wg ?_
 subst ea eb
 refine Va (c := ?codeC) Tryz.func183 ?hb Tryz.ntmps183 ?hl ?_
 case hb => exact rfl
 case hl => exact rfl
 refine Jh (Je (Jb (Jd rfl) U U U (Jb (Jd rfl) U U U ?_)))
 refine Jb (y_sub U U zwr) U U U ?_
 refine Jb (Jf rfl) U U U ?_
 refine Jg (Ja (Jh (Je (Jb (Jd rfl) U U U (Jb (y_geq U U) U U U ?_)))))
 refine Jg (Ja ?_)
 refine J.cond_t rfl zbl ?_
 refine Jh (Je (Jb (Jd rfl) U U U ?_))
 refine Jb ((by first | exact y_convToQ hT U U U U | exact y_conv hT U U U U zwr)) U U U ?_
 refine Jl rfl (Wf hT U U zcl rfl (fun b1 => ?_))
 refine Jl rfl (Vs hT U U U U U zpk zix ?_)
 refine Jg (Ja (Jh (Je (Jb (Jd rfl) U U U ?_))))
 refine Jl rfl (Jw e201 U U (npow E _ (b - a) _ (by omega) (by omega) (by omega)) ?_)
 rintro _ _ ⟨m, rfl, hm1, hm2, rfl⟩
 refine Jb (Jf rfl) U U U ?_
 refine Jg (Ja (Jh (Je (Jb (Jd rfl) U U U (Jb (Jd rfl) U U U ?_)))))
 refine Jb (y_quo U U (by decide) (quo_nat (x := b - a) (k := 4) (by omega) (by omega))) U U U ?_
 refine Jb (y_mul U U zwr) U U U ?_
 refine Jb (Wa U U zwr) U U U ?_
 refine Jb (y_sub U U zwr) U U U ?_
 refine Jb (Jf rfl) U U U ?_
 refine Jg (Ja (Ve ?_))
 refine Wn (α := Nat × BitVec 64 × Array ByteArray) (fun s => a ≤ s.1 ∧ s.1 < b ∧ s.2.2.size = n ∧ Sort.PermIn a b d s.2.2) (fun s => [(0, .slice (some ⟨g, 0, none⟩) n c), (1, .int .i64 a), (6, .int .i64 ((b - a : Nat) : Int)), (7, .pointer (some ⟨b1, 0, none⟩)), (8, .int .u64 m), (9, .int .i64 s.1)]) (fun s => arS g s.2.2 sp :: row b1 295 [Q s.2.1] :: r) (fun s => b - s.1) (a + (b - a) / 4 * 2 - 1, BitVec.ofInt 64 ((b : Int) - a), d) ⟨by dsimp only; omega, by dsimp only; omega, hn, Sort.permIn_refl _ _ _⟩ ⟨rfl, rfl, (congrArg (fun z => some (Value.int .i64 z)) (by first | omega | (dsimp only; omega))), rfl, rfl, (congrArg (fun z => some (Value.int .i64 z)) (by first | omega | (dsimp only; omega))), trivial⟩ (fun w h => h.sup zsup) ?_
 rintro ⟨i, z, d1⟩ ⟨hi1, hi2, hs1, hp1⟩
 try dsimp only at hi1 hi2 hs1 hp1 ⊢
 refine Jh (Jh (Je (Jb (Jd rfl) U U U (Jb (Jd rfl) U U U (Jb (Jd rfl) U U U ?_)))))
 refine Jb (y_quo U U (by decide) (quo_nat (x := b - a) (k := 4) (by omega) (by omega))) U U U ?_
 refine Jb (y_mul U U zwr) U U U ?_
 refine Jb (Wa U U zwr) U U U ?_
 refine Jb (Wa U U zwr) U U U ?_
 refine Jb (y_leq U U) U U U ?_
 refine Jg (Ja ?_)
 first | apply Jx rfl | apply Vo rfl
 case' ht =>
  intro h
  try (first | exact zom | exact zho h | subst h)
  all_goals
   refine Vd ?_
 case' hf =>
  intro h
  try (first | exact zom | exact zho h | subst h)
  all_goals
   refine Wl (Jv (Jv (Vl ?_)))
   refine JE.ret0 (.inr rfl) U U  ?_
   exact ⟨_, fun w h => h.sup zsup, rfl, d1, hp1, rfl⟩
 all_goals refine Ja ?_
 all_goals
  refine Jh (Ve (Jh (Je ?_)))
  refine Jl rfl (Jw e202 U U (Vw (Ji zpk Jj) (xnext E _ _ _ _)) ?_)
  rintro _ _ ⟨z', rfl, rfl⟩
  refine Jb (Jd rfl) U U U ?_
  refine Jb (y_sub (m := ((m - 1 : Nat) : Int)) U U (by rw [show ((m : Nat) : Int) - 1 = ((m - 1 : Nat) : Int) by omega]; exact wrap_u64n (by omega))) U U U ?_
  refine Jb (y_bits (m := ((z'.toNat &&& (m - 1) : Nat) : Int)) U U (and_nat (by omega))) U U U ?_
  refine Jb (y_conv (m := ((z'.toNat &&& (m - 1) : Nat) : Int)) hT U U U U (wrap_and (by omega))) U U U ?_
  refine Jb (Jf rfl) U U U ?_
  refine Jg (Ja ?_)
  refine J.seqK (α := Nat × BitVec 64) (fun q => q.1 < b - a) (fun q => [(0, .slice (some ⟨g, 0, none⟩) n c), (1, .int .i64 a), (6, .int .i64 ((b - a : Nat) : Int)), (7, .pointer (some ⟨b1, 0, none⟩)), (8, .int .u64 m), (9, .int .i64 i), (10, .int .i64 q.1)]) (fun q => arS g d1 sp :: row b1 295 [Q q.2] :: r) ?hj10 (fun hk10 => ?hf10)
  case hf10 =>
   refine Jh (Je ?_)
   have hle : z'.toNat &&& (m - 1) ≤ m - 1 := Nat.and_le_right
   generalize z'.toNat &&& (m - 1) = o at hle ⊢
   refine Jb (Jd rfl) U U U (Jb (Jd rfl) U U U (Jb (y_geq U U) U U U ?_))
   refine Jg (Ja ?_)
   first | apply Jx rfl | apply Vo rfl
   case' ht =>
    intro h
    try (first | exact zom | exact zho h | subst h)
    all_goals
     refine Je (Jb (Jd rfl) U U U (Jb (Jd rfl) U U U ?_))
     refine Jb (y_sub U U zwr) U U U ?_
     refine Jb (Jf rfl) U U U ?_
     refine Jg ?_
   case' hf =>
    intro h
    try (first | exact zom | exact zho h | subst h)
    all_goals
     refine Vd ?_
   all_goals refine Ja ?_
   all_goals
    first | exact Wj hk10 (o - (b - a), z') (by dsimp only; omega) ⟨rfl, rfl, rfl, rfl, rfl, rfl, (congrArg (fun z => some (Value.int .i64 z)) (by first | omega | (dsimp only; omega))), trivial⟩ (fun w h => h.sup zsup) | exact Wj hk10 (o, z') (by dsimp only; omega) ⟨U, U, U, U, U, U, U, trivial⟩ (fun w h => h.sup zsup)
  rintro ⟨o, z2⟩ ho
  dsimp only at ho ⊢
  refine Vz _ _ [(0, .q), (1, .q), (2, .q), (3, .q), (4, .q), (5, .q), (6, .q), (7, .q), (8, .q), (9, .q), (10, .q), (12, .q), (13, .q), (14, .q), (11, .e), (15, .e), (16, .q), (17, .l), (18, .q), (19, .l)] mixed (by kernel_rfl) (Ji (Jm) (Jj)) ?_
  refine zqm U U U U U (zqm U U U U U (zqm U U U U U (zqm U U U U U (zqm U U U U U ?_))))
  refine Jc U U U U (fun m => Wa U U zwr) ?_
  refine zqm U U U U U (zqm U U U U U (zqm U U U U U ?_))
  refine Jc U U U U (fun m => Wa U U zwr) ?_
  refine Jc U U U U (fun m => Jn hT U U U U U zix zix) ?_
  refine zqm U U U U U (zqm U U U U U ?_)
  refine Jc U U U U (fun m => Jn hT U U U U U zix zix) ?_
  refine Wh U U U U (fun fr => Jo hT U U U (Wi (i := (a + o)) zpk zei zeo)) ?_
  refine Wh U U U U (fun fr => Jo hT U U U (Wi (i := (i)) zpk zei zeo)) ?_
  refine Jc U U U U (fun m => Jn hT U U U U U zix zix) ?_
  refine Vm U U (fun fr => l_storeArr (j := (i)) (u := d1[a + o]!) hT U U U U (fun _ => rfl) zpk zei zeo (⟨[_], (by (repeat (first | exact Jj | exact Vc | refine Ji Jm ?_))), ?_⟩))
  refine Jc U U U U (fun m => Jn hT U U U U U zix zix) ?_
  refine Vm U U (fun fr => l_storeArr (j := (a + o)) (u := d1[i]!) hT U U U U (fun _ => rfl) zpk zei zeo (⟨[_], (by (repeat (first | exact Jj | exact Vc | refine Ji Jm ?_))), ?_⟩))
  refine Vv ?_
  all_goals refine Ju (Ja ?_)
  all_goals
   refine Je (Jb (Jd rfl) U U U ?_)
   refine Jb (Wa U U zwr) U U U ?_
   refine Jb (Jf rfl) U U U ?_
   refine Jg ?_
 all_goals
  exact Vt (s := (i, z, d1)) (i + 1, z2, Sort.swp d1 i (a + o)) ⟨by dsimp only; omega, by dsimp only; omega, by dsimp only; rw [swp_size]; exact hs1, Sort.permIn_trans _ _ _ _ _ hp1 (Sort.swp_permIn d1 a b i (a + o) hi1 hi2 (by omega) (by omega) (by omega))⟩ ⟨rfl, rfl, rfl, rfl, rfl, (congrArg (fun z => some (Value.int .i64 z)) (by first | omega | (dsimp only; omega))), trivial⟩ (fun w h => h.sup zsup) (by dsimp only; omega)
end
end
section
open Go Go.SL
section
attribute [local irreducible] J JL JE JM LS Y Fc RV Code.wp wpList Code.wpIn wpListIn
attribute [local irreducible] Yc
attribute [local irreducible] ltS
variable (E : World)
theorem partEqS (g c n a b p : Nat) (ia ib ip : Int) (d : Array ByteArray) (sp : List Value) (r : List HProp) (ea : ia = a) (eb : ib = b) (ep : ip = p) (hn : d.size = n) (hp1 : a ≤ p) (hp2 : p < b) (hb : b ≤ n) (h63 : n < 4611686018427387904) :
 Fc prog E 188 [.slice (some ⟨g, 0, none⟩) n c, .int .i64 ia, .int .i64 ib, .int .i64 ip].toArray (arS g d sp :: r) (fun v l' => v = .int .i64 ((Sort.partitionEqual ltS d a b p).1 : Int) ∧ l' = arS g (Sort.partitionEqual ltS d a b p).2 sp :: r) := by
 refine Fc.eqs ?_
 subst ea eb ep
 refine Va (c := ?codeC) Tryz.func188 ?hb Tryz.ntmps188 ?hl ?_
 case hb => exact rfl
 case hl => exact rfl
 refine Jh (Je (Jb (Jf rfl) U U U ?_))
 refine Jg (Ja (Jh ?_))
 refine Vz _ _ [(0, .q), (1, .q), (2, .q), (3, .q), (4, .q), (5, .q), (6, .q), (8, .q), (9, .q), (10, .q), (7, .e), (11, .e), (12, .q), (13, .l), (14, .q), (15, .l)] mixed (by kernel_rfl) (Ji (Jm) (Jj)) ?_
 refine zqm U U U U U (zqm U U U U U (zqm U U U U U (zqm U U U U U (zqm U U U U U (zqm U U U U U ?_)))))
 refine Jc U U U U (fun m => Jn hT U U U U U zix zix) ?_
 refine zqm U U U U U (zqm U U U U U ?_)
 refine Jc U U U U (fun m => Jn hT U U U U U zix zix) ?_
 refine Wh U U U U (fun fr => Jo hT U U U (Wi (i := (p)) zpk zei zeo)) ?_
 refine Wh U U U U (fun fr => Jo hT U U U (Wi (i := (a)) zpk zei zeo)) ?_
 refine Jc U U U U (fun m => Jn hT U U U U U zix zix) ?_
 refine Vm U U (fun fr => l_storeArr (j := (a)) (u := d[p]!) hT U U U U (fun _ => rfl) zpk zei zeo (⟨[_], (by (repeat (first | exact Jj | exact Vc | refine Ji Jm ?_))), ?_⟩))
 refine Jc U U U U (fun m => Jn hT U U U U U zix zix) ?_
 refine Vm U U (fun fr => l_storeArr (j := (p)) (u := d[a]!) hT U U U U (fun _ => rfl) zpk zei zeo (⟨[_], (by (repeat (first | exact Jj | exact Vc | refine Ji Jm ?_))), ?_⟩))
 refine Vv (Ja (Jh (Je (Jb (Jd rfl) U U U ?_))))
 refine Jb (Wa U U zwr) U U U ?_
 refine Jb (Jd rfl) U U U ?_
 refine Jb (y_sub U U zwr) U U U ?_
 refine Jb (Jf rfl) U U U (Jb (Jf rfl) U U U ?_)
 refine Jg (Ja (Jh (Ve ?_)))
 refine Wn (α := Nat × Nat × Array ByteArray) (fun s => a < s.1 ∧ s.1 ≤ b ∧ s.2.1 < b ∧ s.1 ≤ s.2.1 + 1 ∧ s.2.2.size = n ∧ Sort.partEqLoop ltS a s.1 s.2.1 s.2.2 = Sort.partitionEqual ltS d a b p) (fun s => [(0, .slice (some ⟨g, 0, none⟩) n c), (1, .int .i64 a), (9, .int .i64 s.1), (10, .int .i64 s.2.1)]) (fun s => arS g s.2.2 sp :: r) (fun s => s.2.1 + 1 - s.1) (a + 1, b - 1, Sort.swp d a p) ⟨by dsimp only; omega, by dsimp only; omega, by dsimp only; omega, by dsimp only; omega, by dsimp only; rw [swp_size]; exact hn, rfl⟩ ⟨rfl, rfl, (congrArg (fun z => some (Value.int .i64 z)) (by first | omega | (dsimp only; omega))), (congrArg (fun z => some (Value.int .i64 z)) (by first | omega | (dsimp only; omega))), trivial⟩ (fun w h => h) ?_
 rintro ⟨i, j, d1⟩ ⟨hi1, hi2, hj1, hij, hs1, he1⟩
 try dsimp only at hi1 hi2 hj1 hij hs1 he1 ⊢
 rw [Sort.partEqLoop_eq] at he1
 refine Ve (Jh (Ve ?_))
 refine Wn (α := Nat) (fun x => i ≤ x ∧ x ≤ j + 1 ∧ Sort.scanUp (fun x => !ltS d1[a]! x) d1 j x = Sort.scanUp (fun x => !ltS d1[a]! x) d1 j i) (fun x => [(0, .slice (some ⟨g, 0, none⟩) n c), (1, .int .i64 a), (9, .int .i64 x), (10, .int .i64 j)]) (fun x => arS g d1 sp :: r) (fun x => j + 1 - x) i ⟨Nat.le_refl _, hij, rfl⟩ ⟨U, U, U, U, trivial⟩ (fun w h => h) ?_
 rintro x ⟨hx1, hx2, hx3⟩
 try dsimp only at hx1 hx2 hx3 ⊢
 refine Jh (Jh ?_)
 by_cases hg : x ≤ j
 all_goals
  refine Vz _ _ [(0, .q), (1, .q), (2, .q), (3, .q), (4, .q), (5, .q), (6, .q), (7, .q), (8, .q), (9, .q), (10, .q), (11, .q), (12, .q), (13, .q), (14, .q)] mixed (by kernel_rfl) (Jj) ?_
  refine zqm U U U U U (zqm U U U U U ?_)
  first | refine Jc U U U U (fun m => y_leqB U U (decide_eq_true (by omega))) ?_ | refine Jc U U U U (fun m => y_leqB U U (decide_eq_false (by omega))) ?_
  refine zqm U U U U U ?_
  all_goals (first | refine Jy U U U U U U U ?_ | refine JM.gskipU U U U U U U ?_ | refine Jr U U U U U U (fun m => Jd rfl) ?_)
  all_goals (first | refine Jy U U U U U U U ?_ | refine JM.gskipU U U U U U U ?_ | refine Jr U U U U U U (fun m => Jd rfl) ?_)
  all_goals (first | refine Jy U U U U U U U ?_ | refine JM.gskipU U U U U U U ?_ | refine Jr U U U U U U (fun m => Jn hT U U U U U zix zix) ?_)
  all_goals (first | refine Jy U U U U U U U ?_ | refine JM.gskipU U U U U U U ?_ | refine Jr U U U U U U (fun m => Jo hT U U U (Wi (i := (a)) (Vp m zpk) zei zeo)) ?_)
  all_goals (first | refine Jy U U U U U U U ?_ | refine JM.gskipU U U U U U U ?_ | refine Jr U U U U U U (fun m => Jd rfl) ?_)
  all_goals (first | refine Jy U U U U U U U ?_ | refine JM.gskipU U U U U U U ?_ | refine Jr U U U U U U (fun m => Jd rfl) ?_)
  all_goals (first | refine Jy U U U U U U U ?_ | refine JM.gskipU U U U U U U ?_ | refine Jr U U U U U U (fun m => Jn hT U U U U U zix zix) ?_)
  all_goals (first | refine Jy U U U U U U U ?_ | refine JM.gskipU U U U U U U ?_ | refine Jr U U U U U U (fun m => Jo hT U U U (Wi (i := (x)) (Vp m zpk) zei zeo)) ?_)
  all_goals (first | refine Jy U U U U U U U ?_ | refine JM.gskipU U U U U U U ?_ | refine Jr U U U U U U (fun m => y_callF e187 rfl (lessS E _ _ _)) ?_)
  all_goals (first | refine Jy U U U U U U U ?_ | refine JM.gskipU U U U U U U ?_ | refine Jr U U U U U U (fun m => y_not rfl) ?_)
  all_goals refine Jc U U U U (fun m => Wb U U U) ?_
  all_goals refine Vv ?_
 all_goals refine Ja ?_
 all_goals
  first | apply Jx rfl | apply Vo rfl
  case' ht =>
   intro h
   try (first | exact zom | exact zho h | subst h)
   all_goals
    rw [scanUp_go (by omega) h] at hx3
    refine Vd ?_
  case' hf =>
   intro h
   try (first | exact zom | exact zho h | subst h)
   all_goals
    have st1 : j < x ∨ ltS d1[a]! d1[x]! = true := by first | exact .inl (by omega) | exact .inr (by simpa using h)
    rw [scanUp_stop (by first | exact .inl (by omega) | exact .inr h)] at hx3
    rw [← hx3] at he1
    refine Wl (Jv (Jv (Vl (Ja (Jh (Ve ?_))))))
    refine Wn (α := Nat) (fun y => y ≤ j ∧ x ≤ y + 1 ∧ Sort.scanDown (fun x => ltS d1[a]! x) d1 x y = Sort.scanDown (fun x => ltS d1[a]! x) d1 x j) (fun y => [(0, .slice (some ⟨g, 0, none⟩) n c), (1, .int .i64 a), (9, .int .i64 x), (10, .int .i64 y)]) (fun x => arS g d1 sp :: r) (fun y => y) j ⟨Nat.le_refl _, hx2, rfl⟩ ⟨U, U, U, U, trivial⟩ (fun w h => h) ?_
    rintro y ⟨hy1, hy2, hy3⟩
    try dsimp only at hy1 hy2 hy3 ⊢
    refine Jh (Jh ?_)
    by_cases hg : x ≤ y
    all_goals
     refine Vz _ _ [(0, .q), (1, .q), (2, .q), (3, .q), (4, .q), (5, .q), (6, .q), (7, .q), (8, .q), (9, .q), (10, .q), (11, .q), (12, .q), (13, .q)] mixed (by kernel_rfl) (Jj) ?_
     refine zqm U U U U U (zqm U U U U U ?_)
     first | refine Jc U U U U (fun m => y_leqB U U (decide_eq_true (by omega))) ?_ | refine Jc U U U U (fun m => y_leqB U U (decide_eq_false (by omega))) ?_
     refine zqm U U U U U ?_
     all_goals (first | refine Jy U U U U U U U ?_ | refine JM.gskipU U U U U U U ?_ | refine Jr U U U U U U (fun m => Jd rfl) ?_)
     all_goals (first | refine Jy U U U U U U U ?_ | refine JM.gskipU U U U U U U ?_ | refine Jr U U U U U U (fun m => Jd rfl) ?_)
     all_goals (first | refine Jy U U U U U U U ?_ | refine JM.gskipU U U U U U U ?_ | refine Jr U U U U U U (fun m => Jn hT U U U U U zix zix) ?_)
     all_goals (first | refine Jy U U U U U U U ?_ | refine JM.gskipU U U U U U U ?_ | refine Jr U U U U U U (fun m => Jo hT U U U (Wi (i := (a)) (Vp m zpk) zei zeo)) ?_)
     all_goals (first | refine Jy U U U U U U U ?_ | refine JM.gskipU U U U U U U ?_ | refine Jr U U U U U U (fun m => Jd rfl) ?_)
     all_goals (first | refine Jy U U U U U U U ?_ | refine JM.gskipU U U U U U U ?_ | refine Jr U U U U U U (fun m => Jd rfl) ?_)
     all_goals (first | refine Jy U U U U U U U ?_ | refine JM.gskipU U U U U U U ?_ | refine Jr U U U U U U (fun m => Jn hT U U U U U zix zix) ?_)
     all_goals (first | refine Jy U U U U U U U ?_ | refine JM.gskipU U U U U U U ?_ | refine Jr U U U U U U (fun m => Jo hT U U U (Wi (i := (y)) (Vp m zpk) zei zeo)) ?_)
     all_goals (first | refine Jy U U U U U U U ?_ | refine JM.gskipU U U U U U U ?_ | refine Jr U U U U U U (fun m => y_callF e187 rfl (lessS E _ _ _)) ?_)
     all_goals refine Jc U U U U (fun m => Wb U U U) ?_
     all_goals refine Vv ?_
    all_goals refine Ja ?_
    all_goals
     first | apply Jx rfl | apply Vo rfl
     case' ht =>
      intro h
      try (first | exact zom | exact zho h | subst h)
      all_goals
       rw [scanDown_go (by omega) (by omega) h] at hy3
       refine Vd ?_
     case' hf =>
      intro h
      try (first | exact zom | exact zho h | subst h)
      all_goals
       have st2 : y < x ∨ ltS d1[a]! d1[y]! = false := by first | exact .inl (by omega) | exact .inr h
       rw [scanDown_stop (by first | exact .inl (by omega) | exact .inr h)] at hy3
       rw [← hy3] at he1
       refine Wl (Jv (Jv (Vl (Ja (Jh (Jh (Je (Jb (Jd rfl) U U U (Jb (Jd rfl) U U U (Jb (y_gtr U U) U U U ?_))))))))))
       refine Jg (Ja ?_)
       first | apply Jx rfl | apply Vo rfl
       case' ht =>
        intro h
        try (first | exact zom | exact zho h | subst h)
        all_goals
         rw [if_pos (by omega)] at he1
         refine Wl (Jv ?_)
         refine JE.block_past rfl ?_
         refine Jv (Vl (Ja (Jh (Je (Jb (Jd rfl) U U U (Jb (Jf rfl) U U U ?_))))))
         refine Jg (Ja (Vn ?_))
         refine Vi (.inl rfl) U U zrv ?_
         exact ⟨by rw [← he1], fun w h => by rw [← he1]; exact h⟩
       case' hf =>
        intro h
        try (first | exact zom | exact zho h | subst h)
        all_goals
         rw [if_neg (by omega)] at he1
         have hne : ¬ x = y := by
          rintro rfl
          rcases st1 with q | q
          · omega
          · rcases st2 with q2 | q2
            · omega
            · rw [q] at q2; cases q2
         refine Vd ?_
       all_goals refine Ja ?_
       all_goals
        refine Jh ?_
        refine Vz _ _ [(0, .q), (1, .q), (2, .q), (3, .q), (4, .q), (5, .q), (6, .q), (8, .q), (9, .q), (10, .q), (7, .e), (11, .e), (12, .q), (13, .l), (14, .q), (15, .l)] mixed (by kernel_rfl) (Ji (Jm) (Jj)) ?_
        refine zqm U U U U U (zqm U U U U U (zqm U U U U U (zqm U U U U U (zqm U U U U U (zqm U U U U U ?_)))))
        refine Jc U U U U (fun m => Jn hT U U U U U zix zix) ?_
        refine zqm U U U U U (zqm U U U U U ?_)
        refine Jc U U U U (fun m => Jn hT U U U U U zix zix) ?_
        refine Wh U U U U (fun fr => Jo hT U U U (Wi (i := (y)) zpk zei zeo)) ?_
        refine Wh U U U U (fun fr => Jo hT U U U (Wi (i := (x)) zpk zei zeo)) ?_
        refine Jc U U U U (fun m => Jn hT U U U U U zix zix) ?_
        refine Vm U U (fun fr => l_storeArr (j := (x)) (u := d1[y]!) hT U U U U (fun _ => rfl) zpk zei zeo (⟨[_], (by (repeat (first | exact Jj | exact Vc | refine Ji Jm ?_))), ?_⟩))
        refine Jc U U U U (fun m => Jn hT U U U U U zix zix) ?_
        refine Vm U U (fun fr => l_storeArr (j := (y)) (u := d1[x]!) hT U U U U (fun _ => rfl) zpk zei zeo (⟨[_], (by (repeat (first | exact Jj | exact Vc | refine Ji Jm ?_))), ?_⟩))
        refine Vv (Ja (Jh (Je (Jb (Jd rfl) U U U ?_))))
        refine Jb (Wa U U zwr) U U U ?_
        refine Jb (Jf rfl) U U U ?_
        refine Jg (Ja (Je (Jb (Jd rfl) U U U ?_)))
        refine Jb (y_sub U U zwr) U U U ?_
        refine Jb (Jf rfl) U U U ?_
        refine Jg ?_
       all_goals
        refine Ju ?_
        exact Vt (s := (i, j, d1)) (x + 1, y - 1, Sort.swp d1 x y) ⟨by dsimp only; omega, by dsimp only; omega, by dsimp only; omega, by dsimp only; omega, by dsimp only; rw [swp_size]; exact hs1, he1⟩ ⟨rfl, rfl, (congrArg (fun z => some (Value.int .i64 z)) (by first | omega | (dsimp only; omega))), (congrArg (fun z => some (Value.int .i64 z)) (by first | omega | (dsimp only; omega))), trivial⟩ (fun w h => h) (by dsimp only; omega)
    all_goals refine Ja ?_
    all_goals
     refine Ve (Je (Jb (Jd rfl) U U U ?_))
     refine Jb (y_sub U U zwr) U U U ?_
     refine Jb (Jf rfl) U U U ?_
     refine Jg (Ju ?_)
    all_goals
     exact Vt (s := y) (y - 1) ⟨by omega, by omega, hy3⟩ ⟨rfl, rfl, rfl, (congrArg (fun z => some (Value.int .i64 z)) (by first | omega | (dsimp only; omega))), trivial⟩ (fun w h => h) (by omega)
 all_goals refine Ja ?_
 all_goals
  refine Ve (Je (Jb (Jd rfl) U U U ?_))
  refine Jb (Wa U U zwr) U U U ?_
  refine Jb (Jf rfl) U U U ?_
  refine Jg (Ju ?_)
 all_goals
  exact Vt (s := x) (x + 1) ⟨by omega, by omega, hx3⟩ ⟨rfl, rfl, (congrArg (fun z => some (Value.int .i64 z)) (by first | omega | (dsimp only; omega))), U, trivial⟩ (fun w h => h) (by omega)
theorem partS (g c n a b p : Nat) (ia ib ip : Int) (d : Array ByteArray) (sp : List Value) (r : List HProp) (ea : ia = a) (eb : ib = b) (ep : ip = p) (hn : d.size = n) (hp1 : a ≤ p) (hp2 : p < b) (hb : b ≤ n) (h63 : n < 4611686018427387904) :
 Fc prog E 189 [.slice (some ⟨g, 0, none⟩) n c, .int .i64 ia, .int .i64 ib, .int .i64 ip].toArray (arS g d sp :: r) (fun v l' => v = .tuple #[.int .i64 ((Sort.partition ltS d a b p).1 : Int), .bool (Sort.partition ltS d a b p).2.1] ∧ l' = arS g (Sort.partition ltS d a b p).2.2 sp :: r) := by
 refine Fc.eqs ?_
 subst ea eb ep
 generalize hres : Sort.partition ltS d a b p = res
 obtain ⟨d0, hd0⟩ : ∃ d0, Sort.swp d a p = d0 := ⟨_, rfl⟩
 rw [partition_eq, hd0] at hres
 have hs0 : d0.size = n := by rw [← hd0, swp_size]; exact hn
 refine Va (c := ?codeC) Tryz.func189 ?hb Tryz.ntmps189 ?hl ?_
 case hb => exact rfl
 case hl => exact rfl
 refine Jh (Je (Jb (Jf rfl) U U U (Jb (Jf rfl) U U U ?_)))
 refine Jg (Ja (Jh ?_))
 refine Vz _ _ [(0, .q), (1, .q), (2, .q), (3, .q), (4, .q), (5, .q), (6, .q), (8, .q), (9, .q), (10, .q), (7, .e), (11, .e), (12, .q), (13, .l), (14, .q), (15, .l)] mixed (by kernel_rfl) (Ji (Jm) (Jj)) ?_
 refine zqm U U U U U (zqm U U U U U (zqm U U U U U (zqm U U U U U (zqm U U U U U (zqm U U U U U ?_)))))
 refine Jc U U U U (fun m => Jn hT U U U U U zix zix) ?_
 refine zqm U U U U U (zqm U U U U U ?_)
 refine Jc U U U U (fun m => Jn hT U U U U U zix zix) ?_
 refine Wh U U U U (fun fr => Jo hT U U U (Wi (i := (p)) zpk zei zeo)) ?_
 refine Wh U U U U (fun fr => Jo hT U U U (Wi (i := (a)) zpk zei zeo)) ?_
 refine Jc U U U U (fun m => Jn hT U U U U U zix zix) ?_
 refine Vm U U (fun fr => l_storeArr (j := (a)) (u := d[p]!) hT U U U U (fun _ => rfl) zpk zei zeo (⟨[_], (by (repeat (first | exact Jj | exact Vc | refine Ji Jm ?_))), ?_⟩))
 refine Jc U U U U (fun m => Jn hT U U U U U zix zix) ?_
 refine Vm U U (fun fr => l_storeArr (j := (p)) (u := d[a]!) hT U U U U (fun _ => rfl) zpk zei zeo (⟨[_], (by (repeat (first | exact Jj | exact Vc | refine Ji Jm ?_))), ?_⟩))
 refine Vv (Ja (Jh (Je (Jb (Jd rfl) U U U ?_))))
 refine Jb (Wa U U zwr) U U U ?_
 refine Jb (Jd rfl) U U U ?_
 refine Jb (y_sub U U zwr) U U U ?_
 refine Jb (Jf rfl) U U U (Jb (Jf rfl) U U U ?_)
 refine Jg (Ja (Jh (Ve ?_)))
 refine Wn (α := Nat) (fun x => a < x ∧ x ≤ b ∧ Sort.scanUp (fun x => ltS x d0[a]!) d0 (b - 1) x = Sort.scanUp (fun x => ltS x d0[a]!) d0 (b - 1) (a + 1)) (fun x => [(0, .slice (some ⟨g, 0, none⟩) n c), (1, .int .i64 a), (10, .int .i64 x), (11, .int .i64 ((b - 1 : Nat) : Int))]) (fun x => arS g d0 sp :: r) (fun x => b - x) (a + 1) ⟨by omega, by omega, rfl⟩ ⟨rfl, rfl, (congrArg (fun z => some (Value.int .i64 z)) (by first | omega | (dsimp only; omega))), (congrArg (fun z => some (Value.int .i64 z)) (by first | omega | (dsimp only; omega))), trivial⟩ (fun w h => by rw [← hd0]; exact h) ?_
 rintro x ⟨hx1, hx2, hx3⟩
 try dsimp only at hx1 hx2 hx3 ⊢
 refine Jh (Jh ?_)
 by_cases hg : x ≤ b - 1
 all_goals
  refine Vz _ _ [(0, .q), (1, .q), (2, .q), (3, .q), (4, .q), (5, .q), (6, .q), (7, .q), (8, .q), (9, .q), (10, .q), (11, .q), (12, .q), (13, .q)] mixed (by kernel_rfl) (Jj) ?_
  refine zqm U U U U U (zqm U U U U U ?_)
  first | refine Jc U U U U (fun m => y_leqB U U (decide_eq_true (by omega))) ?_ | refine Jc U U U U (fun m => y_leqB U U (decide_eq_false (by omega))) ?_
  refine zqm U U U U U ?_
  all_goals (first | refine Jy U U U U U U U ?_ | refine JM.gskipU U U U U U U ?_ | refine Jr U U U U U U (fun m => Jd rfl) ?_)
  all_goals (first | refine Jy U U U U U U U ?_ | refine JM.gskipU U U U U U U ?_ | refine Jr U U U U U U (fun m => Jd rfl) ?_)
  all_goals (first | refine Jy U U U U U U U ?_ | refine JM.gskipU U U U U U U ?_ | refine Jr U U U U U U (fun m => Jn hT U U U U U zix zix) ?_)
  all_goals (first | refine Jy U U U U U U U ?_ | refine JM.gskipU U U U U U U ?_ | refine Jr U U U U U U (fun m => Jo hT U U U (Wi (i := (x)) (Vp m zpk) zei zeo)) ?_)
  all_goals (first | refine Jy U U U U U U U ?_ | refine JM.gskipU U U U U U U ?_ | refine Jr U U U U U U (fun m => Jd rfl) ?_)
  all_goals (first | refine Jy U U U U U U U ?_ | refine JM.gskipU U U U U U U ?_ | refine Jr U U U U U U (fun m => Jd rfl) ?_)
  all_goals (first | refine Jy U U U U U U U ?_ | refine JM.gskipU U U U U U U ?_ | refine Jr U U U U U U (fun m => Jn hT U U U U U zix zix) ?_)
  all_goals (first | refine Jy U U U U U U U ?_ | refine JM.gskipU U U U U U U ?_ | refine Jr U U U U U U (fun m => Jo hT U U U (Wi (i := (a)) (Vp m zpk) zei zeo)) ?_)
  all_goals (first | refine Jy U U U U U U U ?_ | refine JM.gskipU U U U U U U ?_ | refine Jr U U U U U U (fun m => y_callF e187 rfl (lessS E _ _ _)) ?_)
  all_goals refine Jc U U U U (fun m => Wb U U U) ?_
  all_goals refine Vv ?_
 all_goals refine Ja ?_
 all_goals
  first | apply Jx rfl | apply Vo rfl
  case' ht =>
   intro h
   try (first | exact zom | exact zho h | subst h)
   all_goals
    rw [scanUp_go (p := fun x => ltS x d0[a]!) (by omega) h] at hx3
    refine Vd ?_
  case' hf =>
   intro h
   try (first | exact zom | exact zho h | subst h)
   all_goals
    have st1 : b - 1 < x ∨ ltS d0[x]! d0[a]! = false := by first | exact .inl (by omega) | exact .inr h
    rw [scanUp_stop (p := fun x => ltS x d0[a]!) (by first | exact .inl (by omega) | exact .inr h)] at hx3
    rw [← hx3] at hres
    refine Wl (Jv (Jv (Vl (Ja (Jh (Ve ?_))))))
    refine Wn (α := Nat) (fun y => y ≤ b - 1 ∧ x ≤ y + 1 ∧ Sort.scanDown (fun x => !ltS x d0[a]!) d0 x y = Sort.scanDown (fun x => !ltS x d0[a]!) d0 x (b - 1)) (fun y => [(0, .slice (some ⟨g, 0, none⟩) n c), (1, .int .i64 a), (10, .int .i64 x), (11, .int .i64 y)]) (fun y => arS g d0 sp :: r) (fun y => y) (b - 1) ⟨Nat.le_refl _, by omega, rfl⟩ ⟨U, U, U, U, trivial⟩ (fun w h => h) ?_
    rintro y ⟨hy1, hy2, hy3⟩
    try dsimp only at hy1 hy2 hy3 ⊢
    refine Jh (Jh ?_)
    by_cases hg : x ≤ y
    all_goals
     refine Vz _ _ [(0, .q), (1, .q), (2, .q), (3, .q), (4, .q), (5, .q), (6, .q), (7, .q), (8, .q), (9, .q), (10, .q), (11, .q), (12, .q), (13, .q), (14, .q)] mixed (by kernel_rfl) (Jj) ?_
     refine zqm U U U U U (zqm U U U U U ?_)
     first | refine Jc U U U U (fun m => y_leqB U U (decide_eq_true (by omega))) ?_ | refine Jc U U U U (fun m => y_leqB U U (decide_eq_false (by omega))) ?_
     refine zqm U U U U U ?_
     all_goals (first | refine Jy U U U U U U U ?_ | refine JM.gskipU U U U U U U ?_ | refine Jr U U U U U U (fun m => Jd rfl) ?_)
     all_goals (first | refine Jy U U U U U U U ?_ | refine JM.gskipU U U U U U U ?_ | refine Jr U U U U U U (fun m => Jd rfl) ?_)
     all_goals (first | refine Jy U U U U U U U ?_ | refine JM.gskipU U U U U U U ?_ | refine Jr U U U U U U (fun m => Jn hT U U U U U zix zix) ?_)
     all_goals (first | refine Jy U U U U U U U ?_ | refine JM.gskipU U U U U U U ?_ | refine Jr U U U U U U (fun m => Jo hT U U U (Wi (i := (y)) (Vp m zpk) zei zeo)) ?_)
     all_goals (first | refine Jy U U U U U U U ?_ | refine JM.gskipU U U U U U U ?_ | refine Jr U U U U U U (fun m => Jd rfl) ?_)
     all_goals (first | refine Jy U U U U U U U ?_ | refine JM.gskipU U U U U U U ?_ | refine Jr U U U U U U (fun m => Jd rfl) ?_)
     all_goals (first | refine Jy U U U U U U U ?_ | refine JM.gskipU U U U U U U ?_ | refine Jr U U U U U U (fun m => Jn hT U U U U U zix zix) ?_)
     all_goals (first | refine Jy U U U U U U U ?_ | refine JM.gskipU U U U U U U ?_ | refine Jr U U U U U U (fun m => Jo hT U U U (Wi (i := (a)) (Vp m zpk) zei zeo)) ?_)
     all_goals (first | refine Jy U U U U U U U ?_ | refine JM.gskipU U U U U U U ?_ | refine Jr U U U U U U (fun m => y_callF e187 rfl (lessS E _ _ _)) ?_)
     all_goals (first | refine Jy U U U U U U U ?_ | refine JM.gskipU U U U U U U ?_ | refine Jr U U U U U U (fun m => y_not rfl) ?_)
     all_goals refine Jc U U U U (fun m => Wb U U U) ?_
     all_goals refine Vv ?_
    all_goals refine Ja ?_
    all_goals
     first | apply Jx rfl | apply Vo rfl
     case' ht =>
      intro h
      try (first | exact zom | exact zho h | subst h)
      all_goals
       rw [scanDown_go (p := fun x => !ltS x d0[a]!) (by omega) (by omega) h] at hy3
       refine Vd ?_
     case' hf =>
      intro h
      try (first | exact zom | exact zho h | subst h)
      all_goals
       have st2 : y < x ∨ ltS d0[y]! d0[a]! = true := by first | exact .inl (by omega) | exact .inr (by simpa using h)
       rw [scanDown_stop (p := fun x => !ltS x d0[a]!) (by first | exact .inl (by omega) | exact .inr h)] at hy3
       rw [← hy3] at hres
       refine Wl (Jv (Jv (Vl (Ja (Jh (Jh (Je (Jb (Jd rfl) U U U (Jb (Jd rfl) U U U (Jb (y_gtr U U) U U U ?_))))))))))
       refine Jg (Ja ?_)
       first | apply Jx rfl | apply Vo rfl
       case' ht =>
        intro h
        try (first | exact zom | exact zho h | subst h)
        all_goals
         rw [if_pos (by omega)] at hres
         refine Jh ?_
         refine Vz _ _ [(0, .q), (1, .q), (2, .q), (3, .q), (4, .q), (5, .q), (6, .q), (8, .q), (9, .q), (10, .q), (7, .e), (11, .e), (12, .q), (13, .l), (14, .q), (15, .l)] mixed (by kernel_rfl) (Ji (Jm) (Jj)) ?_
         refine zqm U U U U U (zqm U U U U U (zqm U U U U U (zqm U U U U U (zqm U U U U U (zqm U U U U U ?_)))))
         refine Jc U U U U (fun m => Jn hT U U U U U zix zix) ?_
         refine zqm U U U U U (zqm U U U U U ?_)
         refine Jc U U U U (fun m => Jn hT U U U U U zix zix) ?_
         refine Wh U U U U (fun fr => Jo hT U U U (Wi (i := (a)) zpk zei zeo)) ?_
         refine Wh U U U U (fun fr => Jo hT U U U (Wi (i := (y)) zpk zei zeo)) ?_
         refine Jc U U U U (fun m => Jn hT U U U U U zix zix) ?_
         refine Vm U U (fun fr => l_storeArr (j := (y)) (u := d0[a]!) hT U U U U (fun _ => rfl) zpk zei zeo (⟨[_], (by (repeat (first | exact Jj | exact Vc | refine Ji Jm ?_))), ?_⟩))
         refine Jc U U U U (fun m => Jn hT U U U U U zix zix) ?_
         refine Vm U U (fun fr => l_storeArr (j := (a)) (u := d0[y]!) hT U U U U (fun _ => rfl) zpk zei zeo (⟨[_], (by (repeat (first | exact Jj | exact Vc | refine Ji Jm ?_))), ?_⟩))
         refine Vv (Ja (Jh (Je (Jb (Jd rfl) U U U (Jb (Jf rfl) U U U (Jb (Jf rfl) U U U ?_))))))
         refine Jg (Ja (Vn (Vb ?_)))
         refine JE.ret2 (.inl rfl) U U zrv zrv ?_
         exact ⟨by rw [← hres], fun w h => by rw [← hres]; exact h⟩
       case' hf =>
        intro h
        try (first | exact zom | exact zho h | subst h)
        all_goals
         rw [if_neg (by omega)] at hres
         have hne : ¬ x = y := by
          rintro rfl
          rcases st1 with q | q
          · omega
          · rcases st2 with q2 | q2
            · omega
            · rw [q] at q2; cases q2
         refine Vd ?_
       all_goals refine Ja ?_
       all_goals
        refine Jh ?_
        refine Vz _ _ [(0, .q), (1, .q), (2, .q), (3, .q), (4, .q), (5, .q), (6, .q), (8, .q), (9, .q), (10, .q), (7, .e), (11, .e), (12, .q), (13, .l), (14, .q), (15, .l)] mixed (by kernel_rfl) (Ji (Jm) (Jj)) ?_
        refine zqm U U U U U (zqm U U U U U (zqm U U U U U (zqm U U U U U (zqm U U U U U (zqm U U U U U ?_)))))
        refine Jc U U U U (fun m => Jn hT U U U U U zix zix) ?_
        refine zqm U U U U U (zqm U U U U U ?_)
        refine Jc U U U U (fun m => Jn hT U U U U U zix zix) ?_
        refine Wh U U U U (fun fr => Jo hT U U U (Wi (i := (y)) zpk zei zeo)) ?_
        refine Wh U U U U (fun fr => Jo hT U U U (Wi (i := (x)) zpk zei zeo)) ?_
        refine Jc U U U U (fun m => Jn hT U U U U U zix zix) ?_
        refine Vm U U (fun fr => l_storeArr (j := (x)) (u := d0[y]!) hT U U U U (fun _ => rfl) zpk zei zeo (⟨[_], (by (repeat (first | exact Jj | exact Vc | refine Ji Jm ?_))), ?_⟩))
        refine Jc U U U U (fun m => Jn hT U U U U U zix zix) ?_
        refine Vm U U (fun fr => l_storeArr (j := (y)) (u := d0[x]!) hT U U U U (fun _ => rfl) zpk zei zeo (⟨[_], (by (repeat (first | exact Jj | exact Vc | refine Ji Jm ?_))), ?_⟩))
        refine Vv (Ja (Jh (Je (Jb (Jd rfl) U U U ?_))))
        refine Jb (Wa U U zwr) U U U ?_
        refine Jb (Jf rfl) U U U ?_
        refine Jg (Ja (Jh (Je (Jb (Jd rfl) U U U ?_))))
        refine Jb (y_sub U U zwr) U U U ?_
        refine Jb (Jf rfl) U U U ?_
        refine Jg (Ja (Jh (Ve ?_)))
        refine Wn (α := Nat × Nat × Array ByteArray) (fun s => a < s.1 ∧ s.1 ≤ b ∧ s.2.1 < b ∧ s.1 ≤ s.2.1 + 1 ∧ s.2.2.size = n ∧ Sort.partLoop ltS a s.1 s.2.1 s.2.2 = Sort.partLoop ltS a (x + 1) (y - 1) (Sort.swp d0 x y)) (fun s => [(0, .slice (some ⟨g, 0, none⟩) n c), (1, .int .i64 a), (10, .int .i64 s.1), (11, .int .i64 s.2.1)]) (fun s => arS g s.2.2 sp :: r) (fun s => s.2.1 + 1 - s.1) (x + 1, y - 1, Sort.swp d0 x y) ⟨by dsimp only; omega, by dsimp only; omega, by dsimp only; omega, by dsimp only; omega, by dsimp only; rw [swp_size]; exact hs0, rfl⟩ ⟨rfl, rfl, (congrArg (fun z => some (Value.int .i64 z)) (by first | omega | (dsimp only; omega))), (congrArg (fun z => some (Value.int .i64 z)) (by first | omega | (dsimp only; omega))), trivial⟩ (fun w h => h) ?_
        rintro ⟨i, j, d1⟩ ⟨hi1, hi2, hj1, hij, hs1, he1⟩
        try dsimp only at hi1 hi2 hj1 hij hs1 he1 ⊢
        rw [Sort.partLoop_eq] at he1
        refine Ve (Jh (Ve ?_))
        refine Wn (α := Nat) (fun u => i ≤ u ∧ u ≤ j + 1 ∧ Sort.scanUp (fun x => ltS x d1[a]!) d1 j u = Sort.scanUp (fun x => ltS x d1[a]!) d1 j i) (fun u => [(0, .slice (some ⟨g, 0, none⟩) n c), (1, .int .i64 a), (10, .int .i64 u), (11, .int .i64 j)]) (fun u => arS g d1 sp :: r) (fun u => j + 1 - u) i ⟨Nat.le_refl _, hij, rfl⟩ ⟨U, U, U, U, trivial⟩ (fun w h => h) ?_
        rintro u ⟨hu1, hu2, hu3⟩
        try dsimp only at hu1 hu2 hu3 ⊢
        refine Jh (Jh ?_)
        by_cases hg : u ≤ j
        all_goals
         refine Vz _ _ [(0, .q), (1, .q), (2, .q), (3, .q), (4, .q), (5, .q), (6, .q), (7, .q), (8, .q), (9, .q), (10, .q), (11, .q), (12, .q), (13, .q)] mixed (by kernel_rfl) (Jj) ?_
         refine zqm U U U U U (zqm U U U U U ?_)
         first | refine Jc U U U U (fun m => y_leqB U U (decide_eq_true (by omega))) ?_ | refine Jc U U U U (fun m => y_leqB U U (decide_eq_false (by omega))) ?_
         refine zqm U U U U U ?_
         all_goals (first | refine Jy U U U U U U U ?_ | refine JM.gskipU U U U U U U ?_ | refine Jr U U U U U U (fun m => Jd rfl) ?_)
         all_goals (first | refine Jy U U U U U U U ?_ | refine JM.gskipU U U U U U U ?_ | refine Jr U U U U U U (fun m => Jd rfl) ?_)
         all_goals (first | refine Jy U U U U U U U ?_ | refine JM.gskipU U U U U U U ?_ | refine Jr U U U U U U (fun m => Jn hT U U U U U zix zix) ?_)
         all_goals (first | refine Jy U U U U U U U ?_ | refine JM.gskipU U U U U U U ?_ | refine Jr U U U U U U (fun m => Jo hT U U U (Wi (i := (u)) (Vp m zpk) zei zeo)) ?_)
         all_goals (first | refine Jy U U U U U U U ?_ | refine JM.gskipU U U U U U U ?_ | refine Jr U U U U U U (fun m => Jd rfl) ?_)
         all_goals (first | refine Jy U U U U U U U ?_ | refine JM.gskipU U U U U U U ?_ | refine Jr U U U U U U (fun m => Jd rfl) ?_)
         all_goals (first | refine Jy U U U U U U U ?_ | refine JM.gskipU U U U U U U ?_ | refine Jr U U U U U U (fun m => Jn hT U U U U U zix zix) ?_)
         all_goals (first | refine Jy U U U U U U U ?_ | refine JM.gskipU U U U U U U ?_ | refine Jr U U U U U U (fun m => Jo hT U U U (Wi (i := (a)) (Vp m zpk) zei zeo)) ?_)
         all_goals (first | refine Jy U U U U U U U ?_ | refine JM.gskipU U U U U U U ?_ | refine Jr U U U U U U (fun m => y_callF e187 rfl (lessS E _ _ _)) ?_)
         all_goals refine Jc U U U U (fun m => Wb U U U) ?_
         all_goals refine Vv ?_
        all_goals refine Ja ?_
        all_goals
         first | apply Jx rfl | apply Vo rfl
         case' ht =>
          intro h
          try (first | exact zom | exact zho h | subst h)
          all_goals
           rw [scanUp_go (p := fun x => ltS x d1[a]!) (by omega) h] at hu3
           refine Vd ?_
         case' hf =>
          intro h
          try (first | exact zom | exact zho h | subst h)
          all_goals
           have st3 : j < u ∨ ltS d1[u]! d1[a]! = false := by first | exact .inl (by omega) | exact .inr h
           rw [scanUp_stop (p := fun x => ltS x d1[a]!) (by first | exact .inl (by omega) | exact .inr h)] at hu3
           rw [← hu3] at he1
           refine Wl (Jv (Jv (Vl (Ja (Jh (Ve ?_))))))
           refine Wn (α := Nat) (fun w => w ≤ j ∧ u ≤ w + 1 ∧ Sort.scanDown (fun x => !ltS x d1[a]!) d1 u w = Sort.scanDown (fun x => !ltS x d1[a]!) d1 u j) (fun w => [(0, .slice (some ⟨g, 0, none⟩) n c), (1, .int .i64 a), (10, .int .i64 u), (11, .int .i64 w)]) (fun w => arS g d1 sp :: r) (fun w => w) j ⟨Nat.le_refl _, hu2, rfl⟩ ⟨U, U, U, U, trivial⟩ (fun w h => h) ?_
           rintro v ⟨hv1, hv2, hv3⟩
           try dsimp only at hv1 hv2 hv3 ⊢
           refine Jh (Jh ?_)
           by_cases hg : u ≤ v
           all_goals
            refine Vz _ _ [(0, .q), (1, .q), (2, .q), (3, .q), (4, .q), (5, .q), (6, .q), (7, .q), (8, .q), (9, .q), (10, .q), (11, .q), (12, .q), (13, .q), (14, .q)] mixed (by kernel_rfl) (Jj) ?_
            refine zqm U U U U U (zqm U U U U U ?_)
            first | refine Jc U U U U (fun m => y_leqB U U (decide_eq_true (by omega))) ?_ | refine Jc U U U U (fun m => y_leqB U U (decide_eq_false (by omega))) ?_
            refine zqm U U U U U ?_
            all_goals (first | refine Jy U U U U U U U ?_ | refine JM.gskipU U U U U U U ?_ | refine Jr U U U U U U (fun m => Jd rfl) ?_)
            all_goals (first | refine Jy U U U U U U U ?_ | refine JM.gskipU U U U U U U ?_ | refine Jr U U U U U U (fun m => Jd rfl) ?_)
            all_goals (first | refine Jy U U U U U U U ?_ | refine JM.gskipU U U U U U U ?_ | refine Jr U U U U U U (fun m => Jn hT U U U U U zix zix) ?_)
            all_goals (first | refine Jy U U U U U U U ?_ | refine JM.gskipU U U U U U U ?_ | refine Jr U U U U U U (fun m => Jo hT U U U (Wi (i := (v)) (Vp m zpk) zei zeo)) ?_)
            all_goals (first | refine Jy U U U U U U U ?_ | refine JM.gskipU U U U U U U ?_ | refine Jr U U U U U U (fun m => Jd rfl) ?_)
            all_goals (first | refine Jy U U U U U U U ?_ | refine JM.gskipU U U U U U U ?_ | refine Jr U U U U U U (fun m => Jd rfl) ?_)
            all_goals (first | refine Jy U U U U U U U ?_ | refine JM.gskipU U U U U U U ?_ | refine Jr U U U U U U (fun m => Jn hT U U U U U zix zix) ?_)
            all_goals (first | refine Jy U U U U U U U ?_ | refine JM.gskipU U U U U U U ?_ | refine Jr U U U U U U (fun m => Jo hT U U U (Wi (i := (a)) (Vp m zpk) zei zeo)) ?_)
            all_goals (first | refine Jy U U U U U U U ?_ | refine JM.gskipU U U U U U U ?_ | refine Jr U U U U U U (fun m => y_callF e187 rfl (lessS E _ _ _)) ?_)
            all_goals (first | refine Jy U U U U U U U ?_ | refine JM.gskipU U U U U U U ?_ | refine Jr U U U U U U (fun m => y_not rfl) ?_)
            all_goals refine Jc U U U U (fun m => Wb U U U) ?_
            all_goals refine Vv ?_
           all_goals refine Ja ?_
           all_goals
            first | apply Jx rfl | apply Vo rfl
            case' ht =>
             intro h
             try (first | exact zom | exact zho h | subst h)
             all_goals
              rw [scanDown_go (p := fun x => !ltS x d1[a]!) (by omega) (by omega) h] at hv3
              refine Vd ?_
            case' hf =>
             intro h
             try (first | exact zom | exact zho h | subst h)
             all_goals
              have st4 : v < u ∨ ltS d1[v]! d1[a]! = true := by first | exact .inl (by omega) | exact .inr (by simpa using h)
              rw [scanDown_stop (p := fun x => !ltS x d1[a]!) (by first | exact .inl (by omega) | exact .inr h)] at hv3
              rw [← hv3] at he1
              refine Wl (Jv (Jv (Vl (Ja (Jh (Jh (Je (Jb (Jd rfl) U U U (Jb (Jd rfl) U U U (Jb (y_gtr U U) U U U ?_))))))))))
              refine Jg (Ja ?_)
              first | apply Jx rfl | apply Vo rfl
              case' ht =>
               intro h
               try (first | exact zom | exact zho h | subst h)
               all_goals
                rw [if_pos (by omega)] at he1
                rw [← he1] at hres
                refine Wl (Jv ?_)
                refine JE.block_past rfl ?_
                refine Jv (Vl (Ja (Jh ?_)))
                refine Vz _ _ [(0, .q), (1, .q), (2, .q), (3, .q), (4, .q), (5, .q), (6, .q), (8, .q), (9, .q), (10, .q), (7, .e), (11, .e), (12, .q), (13, .l), (14, .q), (15, .l)] mixed (by kernel_rfl) (Ji (Jm) (Jj)) ?_
                refine zqm U U U U U (zqm U U U U U (zqm U U U U U (zqm U U U U U (zqm U U U U U (zqm U U U U U ?_)))))
                refine Jc U U U U (fun m => Jn hT U U U U U zix zix) ?_
                refine zqm U U U U U (zqm U U U U U ?_)
                refine Jc U U U U (fun m => Jn hT U U U U U zix zix) ?_
                refine Wh U U U U (fun fr => Jo hT U U U (Wi (i := (a)) zpk zei zeo)) ?_
                refine Wh U U U U (fun fr => Jo hT U U U (Wi (i := (v)) zpk zei zeo)) ?_
                refine Jc U U U U (fun m => Jn hT U U U U U zix zix) ?_
                refine Vm U U (fun fr => l_storeArr (j := (v)) (u := d1[a]!) hT U U U U (fun _ => rfl) zpk zei zeo (⟨[_], (by (repeat (first | exact Jj | exact Vc | refine Ji Jm ?_))), ?_⟩))
                refine Jc U U U U (fun m => Jn hT U U U U U zix zix) ?_
                refine Vm U U (fun fr => l_storeArr (j := (a)) (u := d1[v]!) hT U U U U (fun _ => rfl) zpk zei zeo (⟨[_], (by (repeat (first | exact Jj | exact Vc | refine Ji Jm ?_))), ?_⟩))
                refine Vv (Ja (Jh (Je (Jb (Jd rfl) U U U (Jb (Jf rfl) U U U (Jb (Jf rfl) U U U ?_))))))
                refine Jg (Ja (Vn ?_))
                refine JE.ret2 (.inl rfl) U U zrv zrv ?_
                exact ⟨by rw [← hres], fun w h => by rw [← hres]; exact h⟩
              case' hf =>
               intro h
               try (first | exact zom | exact zho h | subst h)
               all_goals
                rw [if_neg (by omega)] at he1
                have hne : ¬ u = v := by
                 rintro rfl
                 rcases st3 with q | q
                 · omega
                 · rcases st4 with q2 | q2
                   · omega
                   · rw [q] at q2; cases q2
                refine Vd ?_
              all_goals refine Ja ?_
              all_goals
               refine Jh ?_
               refine Vz _ _ [(0, .q), (1, .q), (2, .q), (3, .q), (4, .q), (5, .q), (6, .q), (8, .q), (9, .q), (10, .q), (7, .e), (11, .e), (12, .q), (13, .l), (14, .q), (15, .l)] mixed (by kernel_rfl) (Ji (Jm) (Jj)) ?_
               refine zqm U U U U U (zqm U U U U U (zqm U U U U U (zqm U U U U U (zqm U U U U U (zqm U U U U U ?_)))))
               refine Jc U U U U (fun m => Jn hT U U U U U zix zix) ?_
               refine zqm U U U U U (zqm U U U U U ?_)
               refine Jc U U U U (fun m => Jn hT U U U U U zix zix) ?_
               refine Wh U U U U (fun fr => Jo hT U U U (Wi (i := (v)) zpk zei zeo)) ?_
               refine Wh U U U U (fun fr => Jo hT U U U (Wi (i := (u)) zpk zei zeo)) ?_
               refine Jc U U U U (fun m => Jn hT U U U U U zix zix) ?_
               refine Vm U U (fun fr => l_storeArr (j := (u)) (u := d1[v]!) hT U U U U (fun _ => rfl) zpk zei zeo (⟨[_], (by (repeat (first | exact Jj | exact Vc | refine Ji Jm ?_))), ?_⟩))
               refine Jc U U U U (fun m => Jn hT U U U U U zix zix) ?_
               refine Vm U U (fun fr => l_storeArr (j := (v)) (u := d1[u]!) hT U U U U (fun _ => rfl) zpk zei zeo (⟨[_], (by (repeat (first | exact Jj | exact Vc | refine Ji Jm ?_))), ?_⟩))
               refine Vv (Ja (Jh (Je (Jb (Jd rfl) U U U ?_))))
               refine Jb (Wa U U zwr) U U U ?_
               refine Jb (Jf rfl) U U U ?_
               refine Jg (Ja (Je (Jb (Jd rfl) U U U ?_)))
               refine Jb (y_sub U U zwr) U U U ?_
               refine Jb (Jf rfl) U U U ?_
               refine Jg ?_
              all_goals
               refine Ju ?_
               exact Vt (s := (i, j, d1)) (u + 1, v - 1, Sort.swp d1 u v) ⟨by dsimp only; omega, by dsimp only; omega, by dsimp only; omega, by dsimp only; omega, by dsimp only; rw [swp_size]; exact hs1, he1⟩ ⟨rfl, rfl, (congrArg (fun z => some (Value.int .i64 z)) (by first | omega | (dsimp only; omega))), (congrArg (fun z => some (Value.int .i64 z)) (by first | omega | (dsimp only; omega))), trivial⟩ (fun w h => h) (by dsimp only; omega)
           all_goals refine Ja ?_
           all_goals
            refine Ve (Je (Jb (Jd rfl) U U U ?_))
            refine Jb (y_sub U U zwr) U U U ?_
            refine Jb (Jf rfl) U U U ?_
            refine Jg (Ju ?_)
           all_goals
            exact Vt (s := v) (v - 1) ⟨by omega, by omega, hv3⟩ ⟨rfl, rfl, rfl, (congrArg (fun z => some (Value.int .i64 z)) (by first | omega | (dsimp only; omega))), trivial⟩ (fun w h => h) (by omega)
        all_goals refine Ja ?_
        all_goals
         refine Ve (Je (Jb (Jd rfl) U U U ?_))
         refine Jb (Wa U U zwr) U U U ?_
         refine Jb (Jf rfl) U U U ?_
         refine Jg (Ju ?_)
        all_goals
         exact Vt (s := u) (u + 1) ⟨by omega, by omega, hu3⟩ ⟨rfl, rfl, (congrArg (fun z => some (Value.int .i64 z)) (by first | omega | (dsimp only; omega))), U, trivial⟩ (fun w h => h) (by omega)
    all_goals refine Ja ?_
    all_goals
     refine Ve (Je (Jb (Jd rfl) U U U ?_))
     refine Jb (y_sub U U zwr) U U U ?_
     refine Jb (Jf rfl) U U U ?_
     refine Jg (Ju ?_)
    all_goals
     exact Vt (s := y) (y - 1) ⟨by omega, by omega, hy3⟩ ⟨rfl, rfl, rfl, (congrArg (fun z => some (Value.int .i64 z)) (by first | omega | (dsimp only; omega))), trivial⟩ (fun w h => h) (by omega)
 all_goals refine Ja ?_
 all_goals
  refine Ve (Je (Jb (Jd rfl) U U U ?_))
  refine Jb (Wa U U zwr) U U U ?_
  refine Jb (Jf rfl) U U U ?_
  refine Jg (Ju ?_)
 all_goals
  exact Vt (s := x) (x + 1) ⟨by omega, by omega, hx3⟩ ⟨rfl, rfl, (congrArg (fun z => some (Value.int .i64 z)) (by first | omega | (dsimp only; omega))), U, trivial⟩ (fun w h => h) (by omega)
end
end
section
open Go Go.SL
section
attribute [local irreducible] J JL JE JM LS Y Fc RV Code.wp wpList Code.wpIn wpListIn
attribute [local irreducible] Yc
attribute [local irreducible] ltS
variable (E : World)
theorem pinsS (g c n a b : Nat) (ia ib : Int) (d : Array ByteArray) (sp : List Value) (r : List HProp) (ea : ia = a) (eb : ib = b) (hn : d.size = n) (hab : a < b) (hb : b ≤ n) (h63 : n < 4611686018427387904) :
 Fc prog E 186 [.slice (some ⟨g, 0, none⟩) n c, .int .i64 ia, .int .i64 ib].toArray (arS g d sp :: r) (fun v l' => v = .bool (Sort.partialInsertionSort ltS d a b).2 ∧ l' = arS g (Sort.partialInsertionSort ltS d a b).1 sp :: r) := by
 refine Fc.eqs ?_
 subst ea eb
 generalize hres : Sort.partialInsertionSort ltS d a b = res
 have hres : Sort.partialIns ltS a b 5 (a + 1) d = res := hres
 refine Va (c := ?codeC) Tryz.func186 ?hb Tryz.ntmps186 ?hl ?_
 case hb => exact rfl
 case hl => exact rfl
 refine Jh (Je (Jb (Jf rfl) U U U ?_))
 refine Jg (Ja (Jh (Je (Jb (Jd rfl) U U U ?_))))
 refine Jb (Wa U U zwr) U U U ?_
 refine Jb (Jf rfl) U U U ?_
 refine Jg (Ja (Jh (Jh (Je (Jb (Jf rfl) U U U ?_)))))
 refine Jg (Ja (Ve ?_))
 refine Wn (α := Nat × Nat × Array ByteArray) (fun s => s.1 ≤ 5 ∧ a + 1 ≤ s.2.1 ∧ s.2.1 ≤ b ∧ s.2.2.size = n ∧ Sort.partialIns ltS a b s.1 s.2.1 s.2.2 = res) (fun s => [(0, .slice (some ⟨g, 0, none⟩) n c), (1, .int .i64 a), (2, .int .i64 b), (7, .int .i64 s.2.1), (8, .int .i64 (5 - (s.1 : Int)))]) (fun s => arS g s.2.2 sp :: r) (fun s => s.1) (5, a + 1, d) ⟨Nat.le_refl _, Nat.le_refl _, by dsimp only; omega, hn, hres⟩ ⟨rfl, rfl, rfl, (congrArg (fun z => some (Value.int .i64 z)) (by first | omega | (dsimp only; omega))), U, trivial⟩ (fun w h => h) ?_
 rintro ⟨s, i, d1⟩ ⟨hs5, hi1, hi2, hs1, he1⟩
 try dsimp only at hs5 hi1 hi2 hs1 he1 ⊢
 refine Jh (Jh (Je (Jb (Jd rfl) U U U (Jb (y_lss U U) U U U ?_))))
 refine Jg (Ja ?_)
 first | apply Jx rfl | apply Vo rfl
 case' ht =>
  intro h
  try (first | exact zom | exact zho h | subst h)
  all_goals
   obtain ⟨k, hk⟩ : ∃ k, s = k + 1 := ⟨s - 1, by omega⟩
   rw [hk, Sort.partialIns_succ] at he1
   refine Vd ?_
 case' hf =>
  intro h
  try (first | exact zom | exact zho h | subst h)
  all_goals
   obtain rfl : s = 0 := by omega
   have he1 : (d1, false) = res := he1
   refine Wl (Jv (Jv (Vl (Ja (Jh (Je (Jb (Jf rfl) U U U ?_)))))))
   refine Jg (Ja (Vn ?_))
   refine Vi (.inl rfl) U U zrv ?_
   exact ⟨by rw [← he1], fun w h => by rw [← he1]; exact h⟩
 all_goals refine Ja ?_
 all_goals
  refine J.seqK (α := Nat × Array ByteArray) (fun q => a + 1 ≤ q.1 ∧ q.1 ≤ b ∧ q.2.size = n ∧ ∃ k, s = k + 1 ∧ Sort.partialIns ltS a b k q.1 q.2 = res) (fun q => [(0, .slice (some ⟨g, 0, none⟩) n c), (1, .int .i64 a), (2, .int .i64 b), (7, .int .i64 q.1), (8, .int .i64 (5 - (s : Int)))]) (fun q => arS g q.2 sp :: r) ?hj4 (fun hk4 => ?hf4)
  case hf4 =>
   refine Ve (Jh (Ve ?_))
   refine Wn (α := Nat) (fun x => i ≤ x ∧ x ≤ b ∧ Sort.scanSorted ltS d1 b x = Sort.scanSorted ltS d1 b i) (fun x => [(0, .slice (some ⟨g, 0, none⟩) n c), (1, .int .i64 a), (2, .int .i64 b), (7, .int .i64 x), (8, .int .i64 (5 - (s : Int)))]) (fun x => arS g d1 sp :: r) (fun x => b - x) i ⟨Nat.le_refl _, hi2, rfl⟩ ⟨U, U, U, U, U, trivial⟩ (fun w h => h) ?_
   rintro x ⟨hx1, hx2, hx3⟩
   try dsimp only at hx1 hx2 hx3 ⊢
   refine Jh (Jh ?_)
   by_cases hg : x < b
   all_goals
    refine Vz _ _ [(0, .q), (1, .q), (2, .q), (3, .q), (4, .q), (5, .q), (6, .q), (7, .q), (8, .q), (9, .q), (10, .q), (11, .q), (12, .q), (13, .q), (14, .q), (15, .q)] mixed (by kernel_rfl) (Jj) ?_
    refine zqm U U U U U (zqm U U U U U ?_)
    first | refine Jc U U U U (fun m => y_lssB U U (decide_eq_true (by omega))) ?_ | refine Jc U U U U (fun m => y_lssB U U (decide_eq_false (by omega))) ?_
    refine zqm U U U U U ?_
    all_goals (first | refine Jy U U U U U U U ?_ | refine JM.gskipU U U U U U U ?_ | refine Jr U U U U U U (fun m => Jd rfl) ?_)
    all_goals (first | refine Jy U U U U U U U ?_ | refine JM.gskipU U U U U U U ?_ | refine Jr U U U U U U (fun m => Jd rfl) ?_)
    all_goals (first | refine Jy U U U U U U U ?_ | refine JM.gskipU U U U U U U ?_ | refine Jr U U U U U U (fun m => Jn hT U U U U U zix zix) ?_)
    all_goals (first | refine Jy U U U U U U U ?_ | refine JM.gskipU U U U U U U ?_ | refine Jr U U U U U U (fun m => Jo hT U U U (Wi (i := (x)) (Vp m zpk) zei zeo)) ?_)
    all_goals (first | refine Jy U U U U U U U ?_ | refine JM.gskipU U U U U U U ?_ | refine Jr U U U U U U (fun m => Jd rfl) ?_)
    all_goals (first | refine Jy U U U U U U U ?_ | refine JM.gskipU U U U U U U ?_ | refine Jr U U U U U U (fun m => Jd rfl) ?_)
    all_goals (first | refine Jy U U U U U U U ?_ | refine JM.gskipU U U U U U U ?_ | refine Jr U U U U U U (fun m => y_sub U U zwr) ?_)
    all_goals (first | refine Jy U U U U U U U ?_ | refine JM.gskipU U U U U U U ?_ | refine Jr U U U U U U (fun m => Jn hT U U U U U zix zix) ?_)
    all_goals (first | refine Jy U U U U U U U ?_ | refine JM.gskipU U U U U U U ?_ | refine Jr U U U U U U (fun m => Jo hT U U U (Wi (i := (x - 1)) (Vp m zpk) zei zeo)) ?_)
    all_goals (first | refine Jy U U U U U U U ?_ | refine JM.gskipU U U U U U U ?_ | refine Jr U U U U U U (fun m => y_callF e187 rfl (lessS E _ _ _)) ?_)
    all_goals (first | refine Jy U U U U U U U ?_ | refine JM.gskipU U U U U U U ?_ | refine Jr U U U U U U (fun m => y_not rfl) ?_)
    all_goals refine Jc U U U U (fun m => Wb U U U) ?_
    all_goals refine Vv ?_
   all_goals refine Ja ?_
   all_goals
    first | apply Jx rfl | apply Vo rfl
    case' ht =>
     intro h
     try (first | exact zom | exact zho h | subst h)
     all_goals
      rw [scanSorted_go (by omega) (by simpa using h)] at hx3
      refine Vd ?_
    case' hf =>
     intro h
     try (first | exact zom | exact zho h | subst h)
     all_goals
      rw [scanSorted_stop (by first | exact .inl (by omega) | exact .inr (by simpa using h))] at hx3
      rw [← hx3] at he1
      refine Wl (Jv (Jv (Vl (Ja (Jh (Jh (Je (Jb (Jd rfl) U U U (Jb (Jd rfl) U U U (Jb (y_eql U U) U U U ?_))))))))))
      refine Jg (Ja ?_)
      first | apply Jx rfl | apply Vo rfl
      case' ht =>
       intro h
       try (first | exact zom | exact zho h | subst h)
       all_goals
        rw [if_pos (by omega)] at he1
        refine Jh (Je (Jb (Jf rfl) U U U ?_))
        refine Jg (Ja (Vn (Vb (Vj (Vb (Vb (Vj (Vb ?_))))))))
        refine Vi (.inl rfl) U U zrv ?_
        exact ⟨by rw [← he1], fun w h => by rw [← he1]; exact h⟩
      case' hf =>
       intro h
       try (first | exact zom | exact zho h | subst h)
       all_goals
        rw [if_neg (by omega)] at he1
        refine Vd ?_
      all_goals refine Ja ?_
      all_goals
       refine Jh (Jh (Je (Jb (Jd rfl) U U U (Jb (Jd rfl) U U U ?_))))
       refine Jb (y_sub U U zwr) U U U ?_
       refine Jb (y_lss U U) U U U ?_
       refine Jg (Ja ?_)
       first | apply Jx rfl | apply Vo rfl
       case' ht =>
        intro h
        try (first | exact zom | exact zho h | subst h)
        all_goals
         rw [if_pos (by omega)] at he1
         refine Jh (Je (Jb (Jf rfl) U U U ?_))
         refine Jg (Ja (Vn (Vb (Vj (Vb (Vb (Vj (Vb ?_))))))))
         refine Vi (.inl rfl) U U zrv ?_
         exact ⟨by rw [← he1], fun w h => by rw [← he1]; exact h⟩
       case' hf =>
        intro h
        try (first | exact zom | exact zho h | subst h)
        all_goals
         rw [if_neg (by omega)] at he1
         refine Vd ?_
       all_goals refine Ja ?_
       all_goals
        refine Jh ?_
        refine Vz _ _ [(0, .q), (1, .q), (2, .q), (3, .q), (4, .q), (5, .q), (6, .q), (7, .q), (8, .q), (10, .q), (11, .q), (12, .q), (9, .e), (13, .e), (14, .q), (15, .l), (16, .q), (17, .l)] mixed (by kernel_rfl) (Ji (Jm) (Jj)) ?_
        refine zqm U U U U U (zqm U U U U U (zqm U U U U U (zqm U U U U U ?_)))
        refine Jc U U U U (fun m => y_sub U U zwr) ?_
        refine zqm U U U U U (zqm U U U U U ?_)
        refine Jc U U U U (fun m => y_sub U U zwr) ?_
        refine Jc U U U U (fun m => Jn hT U U U U U zix zix) ?_
        refine zqm U U U U U (zqm U U U U U ?_)
        refine Jc U U U U (fun m => Jn hT U U U U U zix zix) ?_
        refine Wh U U U U (fun fr => Jo hT U U U (Wi (i := (x - 1)) zpk zei zeo)) ?_
        refine Wh U U U U (fun fr => Jo hT U U U (Wi (i := (x)) zpk zei zeo)) ?_
        refine Jc U U U U (fun m => Jn hT U U U U U zix zix) ?_
        refine Vm U U (fun fr => l_storeArr (j := (x)) (u := d1[x - 1]!) hT U U U U (fun _ => rfl) zpk zei zeo (⟨[_], (by (repeat (first | exact Jj | exact Vc | refine Ji Jm ?_))), ?_⟩))
        refine Jc U U U U (fun m => Jn hT U U U U U zix zix) ?_
        refine Vm U U (fun fr => l_storeArr (j := (x - 1)) (u := d1[x]!) hT U U U U (fun _ => rfl) zpk zei zeo (⟨[_], (by (repeat (first | exact Jj | exact Vc | refine Ji Jm ?_))), ?_⟩))
        refine Vv (Ja ?_)
        refine J.seqK (α := Nat × Array ByteArray) (fun q => a + 1 ≤ q.1 ∧ q.1 < b ∧ q.2.size = n ∧ ∃ k, s = k + 1 ∧ Sort.partialIns ltS a b k q.1 (Sort.fixUp ltS b q.1 q.2) = res) (fun q => [(0, .slice (some ⟨g, 0, none⟩) n c), (1, .int .i64 a), (2, .int .i64 b), (7, .int .i64 q.1), (8, .int .i64 (5 - (s : Int)))]) (fun q => arS g q.2 sp :: r) ?hj18 (fun hk18 => ?hf18)
        case hf18 =>
         refine Jh (Je (Jb (Jd rfl) U U U (Jb (Jd rfl) U U U ?_)))
         refine Jb (y_sub U U zwr) U U U ?_
         refine Jb (y_geq U U) U U U ?_
         refine Jg (Ja ?_)
         first | apply Jx rfl | apply Vo rfl
         case' ht =>
          intro h
          try (first | exact zom | exact zho h | subst h)
          all_goals
           have hfd : Sort.fixDown ltS a x (Sort.swp d1 x (x - 1)) = Sort.shiftDown ltS (x - 1) (Sort.swp d1 x (x - 1)) := if_pos (by omega)
           rw [hfd] at he1
           refine Jh (Je (Jb (Jd rfl) U U U ?_))
           refine Jb (y_sub U U zwr) U U U ?_
           refine Jb (Jf rfl) U U U ?_
           refine Jg (Ja (Ve ?_))
           refine Wn (α := Nat × Array ByteArray) (fun q => q.1 ≤ x - 1 ∧ q.2.size = n ∧ Sort.shiftDown ltS q.1 q.2 = Sort.shiftDown ltS (x - 1) (Sort.swp d1 x (x - 1))) (fun q => [(0, .slice (some ⟨g, 0, none⟩) n c), (1, .int .i64 a), (2, .int .i64 b), (7, .int .i64 x), (8, .int .i64 (5 - (s : Int))), (9, .int .i64 q.1)]) (fun q => arS g q.2 sp :: r) (fun q => q.1) (x - 1, Sort.swp d1 x (x - 1)) ⟨Nat.le_refl _, by dsimp only; rw [swp_size]; exact hs1, rfl⟩ ⟨rfl, rfl, rfl, rfl, rfl, (congrArg (fun z => some (Value.int .i64 z)) (by first | omega | (dsimp only; omega))), trivial⟩ (fun w h => h) ?_
           rintro ⟨j, d2⟩ ⟨hj1, hs2, he2⟩
           try dsimp only at hj1 hs2 he2 ⊢
           refine Jh (Jh (Je (Jb (Jd rfl) U U U (Jb (y_geq U U) U U U ?_))))
           refine Jg (Ja ?_)
           first | apply Jx rfl | apply Vo rfl
           case' ht =>
            intro h
            try (first | exact zom | exact zho h | subst h)
            all_goals
             refine Vd ?_
           case' hf =>
            intro h
            try (first | exact zom | exact zho h | subst h)
            all_goals
             rw [shiftDown_stop (.inl (by omega))] at he2
             rw [← he2] at he1
             refine Wl (Jv (Jv (Vl (Ja ?_))))
             first | exact Wj hk18 (x, d2) ⟨by dsimp only; omega, by dsimp only; omega, hs2, k, hk, he1⟩ ⟨U, U, U, U, U, trivial⟩ (fun w h => h) | exact Wj hk18 (x, Sort.swp d1 x (x - 1)) ⟨by dsimp only; omega, by dsimp only; omega, by dsimp only; rw [swp_size]; exact hs1, k, hk, he1⟩ ⟨U, U, U, U, U, trivial⟩ (fun w h => h)
           all_goals refine Ja ?_
           all_goals
            refine Jh (Ve (Jh (Jh ?_)))
            refine Vz _ _ [(0, .q), (1, .q), (2, .q), (3, .q), (4, .q), (5, .q), (6, .q), (7, .q), (8, .q), (9, .q), (10, .q)] mixed (by kernel_rfl) (Jj) ?_
            refine zqm U U U U U (zqm U U U U U ?_)
            refine Jc U U U U (fun m => Jn hT U U U U U zix zix) ?_
            refine Jc U U U U (fun m => Jo hT U U U (Wi (i := (j)) (Vp m zpk) zei zeo)) ?_
            refine zqm U U U U U (zqm U U U U U ?_)
            refine Jc U U U U (fun m => y_sub U U zwr) ?_
            refine Jc U U U U (fun m => Jn hT U U U U U zix zix) ?_
            refine Jc U U U U (fun m => Jo hT U U U (Wi (i := (j - 1)) (Vp m zpk) zei zeo)) ?_
            refine Jc U U U U (fun m => y_callF e187 rfl (lessS E _ _ _)) (Jc U U U U (fun m => y_not rfl) ?_)
            refine Vv (Ja ?_)
            first | apply Jx rfl | apply Vo rfl
            case' ht =>
             intro h
             try (first | exact zom | exact zho h | subst h)
             all_goals
              rw [shiftDown_stop (.inr (by simpa using h))] at he2
              rw [← he2] at he1
              refine Wl (Jv ?_)
              refine JE.block_past rfl ?_
              refine Jv (Jv (Vl (Ja ?_)))
              first | exact Wj hk18 (x, d2) ⟨by dsimp only; omega, by dsimp only; omega, hs2, k, hk, he1⟩ ⟨U, U, U, U, U, trivial⟩ (fun w h => h) | exact Wj hk18 (x, Sort.swp d1 x (x - 1)) ⟨by dsimp only; omega, by dsimp only; omega, by dsimp only; rw [swp_size]; exact hs1, k, hk, he1⟩ ⟨U, U, U, U, U, trivial⟩ (fun w h => h)
            case' hf =>
             intro h
             try (first | exact zom | exact zho h | subst h)
             all_goals
              rw [shiftDown_go (by omega) (by simpa using h)] at he2
              refine Vd ?_
            all_goals refine Ja ?_
            all_goals
             refine Vz _ _ [(0, .q), (1, .q), (2, .q), (3, .q), (4, .q), (5, .q), (6, .q), (7, .q), (8, .q), (10, .q), (11, .q), (12, .q), (9, .e), (13, .e), (14, .q), (15, .l), (16, .q), (17, .l)] mixed (by kernel_rfl) (Ji (Jm) (Jj)) ?_
             refine zqm U U U U U (zqm U U U U U (zqm U U U U U (zqm U U U U U ?_)))
             refine Jc U U U U (fun m => y_sub U U zwr) ?_
             refine zqm U U U U U (zqm U U U U U ?_)
             refine Jc U U U U (fun m => y_sub U U zwr) ?_
             refine Jc U U U U (fun m => Jn hT U U U U U zix zix) ?_
             refine zqm U U U U U (zqm U U U U U ?_)
             refine Jc U U U U (fun m => Jn hT U U U U U zix zix) ?_
             refine Wh U U U U (fun fr => Jo hT U U U (Wi (i := (j - 1)) zpk zei zeo)) ?_
             refine Wh U U U U (fun fr => Jo hT U U U (Wi (i := (j)) zpk zei zeo)) ?_
             refine Jc U U U U (fun m => Jn hT U U U U U zix zix) ?_
             refine Vm U U (fun fr => l_storeArr (j := (j)) (u := d2[j - 1]!) hT U U U U (fun _ => rfl) zpk zei zeo (⟨[_], (by (repeat (first | exact Jj | exact Vc | refine Ji Jm ?_))), ?_⟩))
             refine Jc U U U U (fun m => Jn hT U U U U U zix zix) ?_
             refine Vm U U (fun fr => l_storeArr (j := (j - 1)) (u := d2[j]!) hT U U U U (fun _ => rfl) zpk zei zeo (⟨[_], (by (repeat (first | exact Jj | exact Vc | refine Ji Jm ?_))), ?_⟩))
             refine Vv ?_
            all_goals refine Ju (Ja ?_)
            all_goals
             refine Je (Jb (Jd rfl) U U U ?_)
             refine Jb (y_sub U U zwr) U U U ?_
             refine Jb (Jf rfl) U U U ?_
             refine Jg ?_
           all_goals
            exact Vt (s := (j, d2)) (j - 1, Sort.swp d2 j (j - 1)) ⟨by dsimp only; omega, by dsimp only; rw [swp_size]; exact hs2, he2⟩ ⟨rfl, rfl, rfl, rfl, rfl, (congrArg (fun z => some (Value.int .i64 z)) (by first | omega | (dsimp only; omega))), trivial⟩ (fun w h => h) (by dsimp only; omega)
         case' hf =>
          intro h
          try (first | exact zom | exact zho h | subst h)
          all_goals
           have hfd : Sort.fixDown ltS a x (Sort.swp d1 x (x - 1)) = Sort.swp d1 x (x - 1) := if_neg (by omega)
           rw [hfd] at he1
           refine Vd ?_
         all_goals refine Ja ?_
         all_goals
          first | exact Wj hk18 (x, d2) ⟨by dsimp only; omega, by dsimp only; omega, hs2, k, hk, he1⟩ ⟨U, U, U, U, U, trivial⟩ (fun w h => h) | exact Wj hk18 (x, Sort.swp d1 x (x - 1)) ⟨by dsimp only; omega, by dsimp only; omega, by dsimp only; rw [swp_size]; exact hs1, k, hk, he1⟩ ⟨U, U, U, U, U, trivial⟩ (fun w h => h)
        rintro ⟨x, d3⟩ ⟨hx1, hx2, hs3, k, hk, he3⟩
        try dsimp only at hx1 hx2 hs3 he3 ⊢
        refine Jh (Je (Jb (Jd rfl) U U U (Jb (Jd rfl) U U U ?_)))
        refine Jb (y_sub U U zwr) U U U ?_
        refine Jb (y_geq U U) U U U ?_
        refine Jg (Ja ?_)
        first | apply Jx rfl | apply Vo rfl
        case' ht =>
         intro h
         try (first | exact zom | exact zho h | subst h)
         all_goals
          have hfu : Sort.fixUp ltS b x d3 = Sort.shiftUp ltS b (x + 1) d3 := if_pos (by omega)
          rw [hfu] at he3
          refine Jh (Je (Jb (Jd rfl) U U U ?_))
          refine Jb (Wa U U zwr) U U U ?_
          refine Jb (Jf rfl) U U U ?_
          refine Jg (Ja (Ve ?_))
          refine Wn (α := Nat × Array ByteArray) (fun q => x + 1 ≤ q.1 ∧ q.1 ≤ b ∧ q.2.size = n ∧ Sort.shiftUp ltS b q.1 q.2 = Sort.shiftUp ltS b (x + 1) d3) (fun q => [(0, .slice (some ⟨g, 0, none⟩) n c), (1, .int .i64 a), (2, .int .i64 b), (7, .int .i64 x), (8, .int .i64 (5 - (s : Int))), (10, .int .i64 q.1)]) (fun q => arS g q.2 sp :: r) (fun q => b - q.1) (x + 1, d3) ⟨Nat.le_refl _, by dsimp only; omega, hs3, rfl⟩ ⟨rfl, rfl, rfl, rfl, rfl, (congrArg (fun z => some (Value.int .i64 z)) (by first | omega | (dsimp only; omega))), trivial⟩ (fun w h => h) ?_
          rintro ⟨j, d4⟩ ⟨hj1, hj2, hs4, he4⟩
          try dsimp only at hj1 hj2 hs4 he4 ⊢
          refine Jh (Jh (Je (Jb (Jd rfl) U U U (Jb (Jd rfl) U U U (Jb (y_lss U U) U U U ?_)))))
          refine Jg (Ja ?_)
          first | apply Jx rfl | apply Vo rfl
          case' ht =>
           intro h
           try (first | exact zom | exact zho h | subst h)
           all_goals
            refine Vd ?_
          case' hf =>
           intro h
           try (first | exact zom | exact zho h | subst h)
           all_goals
            rw [shiftUp_stop (.inl (by omega))] at he4
            rw [← he4] at he3
            refine Wl (Jv (Jv (Vl (Ju (Ja ?_)))))
            first | exact Wj hk4 (x, d4) ⟨by dsimp only; omega, by dsimp only; omega, hs4, k, hk, he3⟩ ⟨U, U, U, U, U, trivial⟩ (fun w h => h) | exact Wj hk4 (x, d3) ⟨by dsimp only; omega, by dsimp only; omega, hs3, k, hk, he3⟩ ⟨U, U, U, U, U, trivial⟩ (fun w h => h)
          all_goals refine Ja ?_
          all_goals
           refine Jh (Ve (Jh (Jh ?_)))
           refine Vz _ _ [(0, .q), (1, .q), (2, .q), (3, .q), (4, .q), (5, .q), (6, .q), (7, .q), (8, .q), (9, .q), (10, .q)] mixed (by kernel_rfl) (Jj) ?_
           refine zqm U U U U U (zqm U U U U U ?_)
           refine Jc U U U U (fun m => Jn hT U U U U U zix zix) ?_
           refine Jc U U U U (fun m => Jo hT U U U (Wi (i := (j)) (Vp m zpk) zei zeo)) ?_
           refine zqm U U U U U (zqm U U U U U ?_)
           refine Jc U U U U (fun m => y_sub U U zwr) ?_
           refine Jc U U U U (fun m => Jn hT U U U U U zix zix) ?_
           refine Jc U U U U (fun m => Jo hT U U U (Wi (i := (j - 1)) (Vp m zpk) zei zeo)) ?_
           refine Jc U U U U (fun m => y_callF e187 rfl (lessS E _ _ _)) (Jc U U U U (fun m => y_not rfl) ?_)
           refine Vv (Ja ?_)
           first | apply Jx rfl | apply Vo rfl
           case' ht =>
            intro h
            try (first | exact zom | exact zho h | subst h)
            all_goals
             rw [shiftUp_stop (.inr (by simpa using h))] at he4
             rw [← he4] at he3
             refine Wl (Jv ?_)
             refine JE.block_past rfl ?_
             refine Jv (Jv (Vl (Ju (Ja ?_))))
             first | exact Wj hk4 (x, d4) ⟨by dsimp only; omega, by dsimp only; omega, hs4, k, hk, he3⟩ ⟨U, U, U, U, U, trivial⟩ (fun w h => h) | exact Wj hk4 (x, d3) ⟨by dsimp only; omega, by dsimp only; omega, hs3, k, hk, he3⟩ ⟨U, U, U, U, U, trivial⟩ (fun w h => h)
           case' hf =>
            intro h
            try (first | exact zom | exact zho h | subst h)
            all_goals
             rw [shiftUp_go (by omega) (by simpa using h)] at he4
             refine Vd ?_
           all_goals refine Ja ?_
           all_goals
            refine Vz _ _ [(0, .q), (1, .q), (2, .q), (3, .q), (4, .q), (5, .q), (6, .q), (7, .q), (8, .q), (10, .q), (11, .q), (12, .q), (9, .e), (13, .e), (14, .q), (15, .l), (16, .q), (17, .l)] mixed (by kernel_rfl) (Ji (Jm) (Jj)) ?_
            refine zqm U U U U U (zqm U U U U U (zqm U U U U U (zqm U U U U U ?_)))
            refine Jc U U U U (fun m => y_sub U U zwr) ?_
            refine zqm U U U U U (zqm U U U U U ?_)
            refine Jc U U U U (fun m => y_sub U U zwr) ?_
            refine Jc U U U U (fun m => Jn hT U U U U U zix zix) ?_
            refine zqm U U U U U (zqm U U U U U ?_)
            refine Jc U U U U (fun m => Jn hT U U U U U zix zix) ?_
            refine Wh U U U U (fun fr => Jo hT U U U (Wi (i := (j - 1)) zpk zei zeo)) ?_
            refine Wh U U U U (fun fr => Jo hT U U U (Wi (i := (j)) zpk zei zeo)) ?_
            refine Jc U U U U (fun m => Jn hT U U U U U zix zix) ?_
            refine Vm U U (fun fr => l_storeArr (j := (j)) (u := d4[j - 1]!) hT U U U U (fun _ => rfl) zpk zei zeo (⟨[_], (by (repeat (first | exact Jj | exact Vc | refine Ji Jm ?_))), ?_⟩))
            refine Jc U U U U (fun m => Jn hT U U U U U zix zix) ?_
            refine Vm U U (fun fr => l_storeArr (j := (j - 1)) (u := d4[j]!) hT U U U U (fun _ => rfl) zpk zei zeo (⟨[_], (by (repeat (first | exact Jj | exact Vc | refine Ji Jm ?_))), ?_⟩))
            refine Vv ?_
           all_goals refine Ju (Ja ?_)
           all_goals
            refine Je (Jb (Jd rfl) U U U ?_)
            refine Jb (Wa U U zwr) U U U ?_
            refine Jb (Jf rfl) U U U ?_
            refine Jg ?_
          all_goals
           exact Vt (s := (j, d4)) (j + 1, Sort.swp d4 j (j - 1)) ⟨by dsimp only; omega, by dsimp only; omega, by dsimp only; rw [swp_size]; exact hs4, he4⟩ ⟨rfl, rfl, rfl, rfl, rfl, (congrArg (fun z => some (Value.int .i64 z)) (by first | omega | (dsimp only; omega))), trivial⟩ (fun w h => h) (by dsimp only; omega)
        case' hf =>
         intro h
         try (first | exact zom | exact zho h | subst h)
         all_goals
          have hfu : Sort.fixUp ltS b x d3 = d3 := if_neg (by omega)
          rw [hfu] at he3
          refine Vd ?_
      all_goals
       refine Ju (Ja ?_)
       first | exact Wj hk4 (x, d4) ⟨by dsimp only; omega, by dsimp only; omega, hs4, k, hk, he3⟩ ⟨U, U, U, U, U, trivial⟩ (fun w h => h) | exact Wj hk4 (x, d3) ⟨by dsimp only; omega, by dsimp only; omega, hs3, k, hk, he3⟩ ⟨U, U, U, U, U, trivial⟩ (fun w h => h)
   all_goals refine Ja ?_
   all_goals
    refine Ve (Je (Jb (Jd rfl) U U U ?_))
    refine Jb (Wa U U zwr) U U U ?_
    refine Jb (Jf rfl) U U U ?_
    refine Jg (Ju ?_)
   all_goals
    exact Vt (s := x) (x + 1) ⟨by omega, by omega, hx3⟩ ⟨rfl, rfl, rfl, (congrArg (fun z => some (Value.int .i64 z)) (by first | omega | (dsimp only; omega))), U, trivial⟩ (fun w h => h) (by omega)
  rintro ⟨x, d5⟩ ⟨hx1, hx2, hs5', k, hk, he5⟩
  try dsimp only at hx1 hx2 hs5' he5 ⊢
  refine Je (Jb (Jd rfl) U U U ?_)
  refine Jb (Wa U U zwr) U U U ?_
  refine Jb (Jf rfl) U U U ?_
  refine Jg ?_
 all_goals
  exact Vt (s := (s, i, d1)) (k, x, d5) ⟨by dsimp only; omega, hx1, hx2, hs5', he5⟩ ⟨rfl, rfl, rfl, rfl, (congrArg (fun z => some (Value.int .i64 z)) (by first | omega | (dsimp only; omega))), trivial⟩ (fun w h => h) (by dsimp only; omega)
end
end
section
open Go Go.SL
section
attribute [local irreducible] J JL JE JM LS Y Fc RV Code.wp wpList Code.wpIn wpListIn
attribute [local irreducible] Yc
attribute [local irreducible] ltS
variable (E : World)
theorem pdqS (hS : Sort.SWO ltS) (m : Nat) : ∀ (g c n a b : Nat) (ia ib lim : Int) (d : Array ByteArray) (sp : List Value) (r : List HProp), b - a ≤ m → ia = a → ib = b → d.size = n → a ≤ b → b ≤ n → Sort.Below ltS a b d → n < 4611686018427387904 →
 Fc prog E 166 [.slice (some ⟨g, 0, none⟩) n c, .int .i64 ia, .int .i64 ib, .int .i64 lim].toArray (arS g d sp :: r) (fun v l' => v = .tuple #[] ∧ ∃ d', Sort.PermIn a b d d' ∧ Sort.SortedIn ltS a b d' ∧ l' = arS g d' sp :: r) := by
 induction m using Nat.strongRecOn with
 | ind m ih =>
 intro g c n a b ia ib lim d sp r hm ea eb hn hab hb hB h63
 refine Wg ?_
 subst ea eb
 refine Va (c := ?codeC) Tryz.func166 ?hb Tryz.ntmps166 ?hl ?_
 case hb => exact rfl
 case hl => exact rfl
 refine Jh (Je (Jb (Jf rfl) U U U ?_))
 refine Jg (Ja (Jh (Je (Jb (Jf rfl) U U U ?_))))
 refine Jg (Ja (Ve ?_))
 refine Wn (α := Nat × Nat × Int × Bool × Bool × Array ByteArray) (fun s => a ≤ s.1 ∧ s.1 ≤ s.2.1 ∧ s.2.1 ≤ b ∧ s.2.2.2.2.2.size = n ∧ Sort.Below ltS s.1 s.2.1 s.2.2.2.2.2 ∧ ∀ R, Sort.PermIn s.1 s.2.1 s.2.2.2.2.2 R → Sort.SortedIn ltS s.1 s.2.1 R → Sort.PermIn a b d R ∧ Sort.SortedIn ltS a b R) (fun s => [(0, .slice (some ⟨g, 0, none⟩) n c), (1, .int .i64 s.1), (2, .int .i64 s.2.1), (3, .int .i64 s.2.2.1), (8, .bool s.2.2.2.1), (9, .bool s.2.2.2.2.1)]) (fun s => arS g s.2.2.2.2.2 sp :: r) (fun s => s.2.1 - s.1) (a, b, lim, true, true, d) ⟨Nat.le_refl _, hab, Nat.le_refl _, hn, hB, fun R h1 h2 => ⟨h1, h2⟩⟩ ⟨U, U, U, U, U, U, trivial⟩ (fun w h => h) ?_
 rintro ⟨x, y, lm0, wb, wp, d1⟩ ⟨hx, hxy, hy, hs1, hB1, hg1⟩
 try dsimp only at hx hxy hy hs1 hB1 hg1 ⊢
 refine Ve (Jh (Je (Jb (Jd rfl) U U U (Jb (Jd rfl) U U U ?_))))
 refine Jb (y_sub U U zwr) U U U ?_
 refine Jb (Jf rfl) U U U ?_
 refine Jg (Ja (Jh (Jh (Je (Jb (Jd rfl) U U U (Jb (y_leq U U) U U U ?_))))))
 refine Jg (Ja ?_)
 first | apply Jx rfl | apply Vo rfl
 case' ht =>
  intro h
  try (first | exact zom | exact zho h | subst h)
  all_goals
   have hfin := hg1 _ (Sort.insertionSort_holds hS d1 x y hxy (by omega)).1 (Sort.insertionSort_holds hS d1 x y hxy (by omega)).2
   refine Jh (Je (Jb (Jd rfl) U U U (Jb (Jd rfl) U U U (Jb (Jd rfl) U U U ?_))))
   refine Jl rfl (Jw e181 U U (Vw (Ji zpk Jj) (insS E g c n x y _ _ d1 sp _ U U hs1 (by omega) (by omega) h63)) ?_)
   rintro _ _ ⟨rfl, rfl⟩
   refine Jg (Ja (Vn (Vb (Vj (Vb (Vj ?_))))))
   refine JE.ret0 (.inl rfl) U U  ?_
   exact ⟨_, fun w h => h, rfl, _, hfin.1, hfin.2, rfl⟩
 case' hf =>
  intro h
  try (first | exact zom | exact zho h | subst h)
  all_goals
   refine Vd ?_
 all_goals refine Ja ?_
 all_goals
  refine Jh (Jh (Je (Jb (Jd rfl) U U U (Jb (y_eql U U) U U U ?_))))
  refine Jg (Ja ?_)
  first | apply Jx rfl | apply Vo rfl
  case' ht =>
   intro h
   try (first | exact zom | exact zho h | subst h)
   all_goals
    have hfin := hg1 _ (Sort.heapSort_holds hS d1 x y hxy (by omega)).1 (Sort.heapSort_holds hS d1 x y hxy (by omega)).2
    refine Jh (Je (Jb (Jd rfl) U U U (Jb (Jd rfl) U U U (Jb (Jd rfl) U U U ?_))))
    refine Jl rfl (Jw e182 U U (Vw (Ji zpk Jj) (heapS E g c n x y _ _ d1 sp _ U U hs1 (by omega) (by omega) h63)) ?_)
    rintro _ _ ⟨rfl, dh, rfl, rfl⟩
    refine Jg (Ja (Vn (Vb (Vj (Vb (Vj ?_))))))
    refine JE.ret0 (.inl rfl) U U  ?_
    exact ⟨_, fun w h => h, rfl, _, hfin.1, hfin.2, rfl⟩
  case' hf =>
   intro h
   try (first | exact zom | exact zho h | subst h)
   all_goals
    refine Vd ?_
  all_goals refine Ja ?_
  all_goals
   refine J.seqK (α := Int × Array ByteArray) (fun q => x + 12 < y ∧ Sort.PermIn x y d1 q.2) (fun q => [(0, .slice (some ⟨g, 0, none⟩) n c), (1, .int .i64 x), (2, .int .i64 y), (3, .int .i64 q.1), (8, .bool wb), (9, .bool wp), (10, .int .i64 ((y - x : Nat) : Int))]) (fun q => arS g q.2 sp :: r) ?hj10 (fun hk10 => ?hf10)
   case hf10 =>
    refine Jh (Je (Jb (Jd rfl) U U U (Jb (y_not rfl) U U U ?_)))
    refine Jg (Ja ?_)
    first | apply Jx rfl | apply Vo rfl
    case' ht =>
     intro h
     try (first | exact zom | exact zho h | subst h)
     all_goals
      refine Jh (Je (Jb (Jd rfl) U U U (Jb (Jd rfl) U U U (Jb (Jd rfl) U U U ?_))))
      refine Jl rfl (Jw e183 U U (Vw (Ji zpk Jj) (brkS E g c n x y _ _ d1 sp _ U U hs1 (by omega) (by omega) h63)) ?_)
      rintro _ _ ⟨rfl, db, hdb, rfl⟩
      refine Jg (Ja (Je (Jb (Jd rfl) U U U ?_)))
      refine Jb (y_sub U U zwr) U U U ?_
      refine Jb (Jf rfl) U U U ?_
      refine Jg ?_
    case' hf =>
     intro h
     try (first | exact zom | exact zho h | subst h)
     all_goals
      refine Vd ?_
    all_goals refine Ja ?_
    all_goals
     first | exact Wj hk10 (IntKind.i64.wrap (lm0 - 1), db) ⟨(by omega : x + 12 < y), hdb⟩ ⟨rfl, rfl, rfl, rfl, rfl, rfl, (congrArg (fun z => some (Value.int .i64 z)) (by first | omega | (dsimp only; omega))), trivial⟩ (fun w h => h) | exact Wj hk10 (lm0, d1) ⟨(by omega : x + 12 < y), Sort.permIn_refl _ _ _⟩ ⟨rfl, rfl, rfl, rfl, rfl, rfl, (congrArg (fun z => some (Value.int .i64 z)) (by first | omega | (dsimp only; omega))), trivial⟩ (fun w h => h)
   rintro ⟨lm, d2⟩ ⟨hlen, hp2⟩
   try dsimp only at hlen hp2 ⊢
   have hs2 : d2.size = n := by rw [hp2.1]; exact hs1
   refine Jh (Je (Jb (Jd rfl) U U U (Jb (Jd rfl) U U U (Jb (Jd rfl) U U U ?_))))
   refine Jl rfl (Jw e184 U U (Vw (Ji zpk Jj) (pivotS E g c n x y _ _ d2 sp _ U U hs2 (by omega) (by omega) h63)) ?_)
   rintro _ _ ⟨pv, hint, rfl, hv1, hv2, rfl⟩
   refine Jb (Jd rfl) U U U (Jb (Vg U U) U U U (Jb (Vg U U) U U U (Jb (Jf rfl) U U U (Jb (Jf rfl) U U U ?_))))
   refine Jg (Ja ?_)
   refine J.seqK (α := Nat × Int × Array ByteArray) (fun q => x ≤ q.1 ∧ q.1 < y ∧ x + 12 < y ∧ Sort.PermIn x y d1 q.2.2) (fun q => [(0, .slice (some ⟨g, 0, none⟩) n c), (1, .int .i64 x), (2, .int .i64 y), (3, .int .i64 lm), (8, .bool wb), (9, .bool wp), (10, .int .i64 ((y - x : Nat) : Int)), (11, .int .i64 q.1), (12, .int .i64 q.2.1)]) (fun q => arS g q.2.2 sp :: r) ?hj15 (fun hk15 => ?hf15)
   case hf15 =>
    refine Jh (Je (Jb (Jd rfl) U U U (Jb (y_eql U U) U U U ?_)))
    refine Jg (Ja ?_)
    first | apply Jx rfl | apply Vo rfl
    case' ht =>
     intro h
     try (first | exact zom | exact zho h | subst h)
     all_goals
      refine Jh (Je (Jb (Jd rfl) U U U (Jb (Jd rfl) U U U (Jb (Jd rfl) U U U ?_))))
      refine Jl rfl (Jw e185 U U (Vw (Ji zpk Jj) (revS E g c n x y _ _ d2 sp _ U U hs2 (by omega) (by omega) h63)) ?_)
      rintro _ _ ⟨rfl, rfl⟩
      refine Jg (Ja (Jh (Je (Jb (Jd rfl) U U U ?_))))
      refine Jb (y_sub U U zwr) U U U ?_
      refine Jb (Jd rfl) U U U (Jb (Jd rfl) U U U ?_)
      refine Jb (y_sub U U zwr) U U U ?_
      refine Jb (y_sub U U zwr) U U U ?_
      refine Jb (Jf rfl) U U U ?_
      refine Jg (Ja (Je (Jb (Jf rfl) U U U ?_)))
      refine Jg ?_
    case' hf =>
     intro h
     try (first | exact zom | exact zho h | subst h)
     all_goals
      refine Vd ?_
    all_goals refine Ja ?_
    all_goals
     first | exact Wj hk15 (y - 1 - (pv - x), 1, Sort.reverseRange d2 x y) ⟨by dsimp only; omega, by dsimp only; omega, hlen, Sort.permIn_trans _ _ _ _ _ hp2 (Sort.reverseRange_holds d2 x y hxy (by omega))⟩ ⟨rfl, rfl, rfl, rfl, rfl, rfl, rfl, (congrArg (fun z => some (Value.int .i64 z)) (by first | omega | (dsimp only; omega))), U, trivial⟩ (fun w h => h) | exact Wj hk15 (pv, hint, d2) ⟨hv1, hv2, hlen, hp2⟩ ⟨U, U, U, U, U, U, U, U, U, trivial⟩ (fun w h => h)
   rintro ⟨pv, hint, d2⟩ ⟨hv1, hv2, hlen, hp2⟩
   try dsimp only at hv1 hv2 hlen hp2 ⊢
   have hs2 : d2.size = n := by rw [hp2.1]; exact hs1
   have hB2 := hB1.perm (by omega) hp2
   have hpi := Sort.partialInsertionSort_holds hS d2 x y (by omega) (by omega) hB2
   refine J.seqK (α := Array ByteArray) (fun q => Sort.PermIn x y d1 q) (fun q => [(0, .slice (some ⟨g, 0, none⟩) n c), (1, .int .i64 x), (2, .int .i64 y), (3, .int .i64 lm), (8, .bool wb), (9, .bool wp), (10, .int .i64 ((y - x : Nat) : Int)), (11, .int .i64 pv)]) (fun q => arS g q sp :: r) ?hj17 (fun hk17 => ?hf17)
   case hf17 =>
    refine Jh (Je (Jb (Jd rfl) U U U (Jb (Jd rfl) U U U ?_)))
    all_goals (first | (refine Vh U U U (fun h => ?_) (fun h => ?_) <;> try (first | (exfalso; omega) | exact absurd rfl h)) | (refine Vr U U U (fun h => ?_) (fun h => ?_) <;> try (first | cases h | (exfalso; simp at h; done))) | skip)
    all_goals (first | refine Js U U U U U U ?_ | refine Jp U U U U U ?_ | refine Jt U U U (Jd rfl) U U ?_)
    all_goals (refine Jb (Wb U U U) U U U ?_)
    all_goals (refine Jb (Jd rfl) U U U ?_)
    all_goals (first | (refine Vh U U U (fun h => ?_) (fun h => ?_) <;> try (first | (exfalso; omega) | exact absurd rfl h)) | (refine Vr U U U (fun h => ?_) (fun h => ?_) <;> try (first | cases h | (exfalso; simp at h; done))) | skip)
    all_goals (first | refine Js U U U U U U ?_ | refine Jp U U U U U ?_ | refine Jt U U U (Jd rfl) U U ?_)
    all_goals (first | refine Js U U U U U U ?_ | refine Jp U U U U U ?_ | refine Jt U U U (y_eql U U) U U ?_)
    all_goals (refine Jb (Wb U U U) U U U ?_)
    all_goals refine Jg (Ja ?_)
    all_goals
     first | apply Jx rfl | apply Vo rfl
     case' ht =>
      intro h
      try (first | exact zom | exact zho h | subst h)
      all_goals
       refine Jh (Je (Jb (Jd rfl) U U U (Jb (Jd rfl) U U U (Jb (Jd rfl) U U U ?_))))
       refine Jl rfl (Jw e186 U U (Vw (Ji zpk Jj) (pinsS E g c n x y _ _ d2 sp _ U U hs2 (by omega) (by omega) h63)) ?_)
       rintro _ _ ⟨rfl, rfl⟩
       refine Jg (Ja ?_)
       first | apply Jx rfl | apply Vo rfl
       case' ht =>
        intro h
        try (first | exact zom | exact zho h | subst h)
        all_goals
         have hfin := hg1 _ (Sort.permIn_trans _ _ _ _ _ hp2 hpi.1) (hpi.2 h)
         refine Vn (Vb (Vj (Vb (Vj ?_))))
         refine JE.ret0 (.inl rfl) U U  ?_
         exact ⟨_, fun w h => h, rfl, _, hfin.1, hfin.2, rfl⟩
       case' hf =>
        intro h
        try (first | exact zom | exact zho h | subst h)
        all_goals
         refine Vd ?_
     case' hf =>
      intro h
      try (first | exact zom | exact zho h | subst h)
      all_goals
       refine Vd ?_
    all_goals refine Ja ?_
    all_goals
     first | exact Wj hk17 (Sort.partialInsertionSort ltS d2 x y).1 (Sort.permIn_trans _ _ _ _ _ hp2 hpi.1) ⟨U, U, U, U, U, U, U, U, trivial⟩ (fun w h => h) | exact Wj hk17 d2 hp2 ⟨U, U, U, U, U, U, U, U, trivial⟩ (fun w h => h)
   rintro d3 hp3
   try dsimp only at hp3 ⊢
   have hs3 : d3.size = n := by rw [hp3.1]; exact hs1
   have hB3 := hB1.perm (by omega) hp3
   refine Jh (Jh ?_)
   by_cases hg : 0 < x
   all_goals
    refine Vz _ _ [(0, .q), (1, .q), (2, .q), (3, .q), (4, .q), (5, .q), (6, .q), (7, .q), (8, .q), (9, .q), (10, .q), (11, .q), (12, .q), (13, .q), (14, .q)] mixed (by kernel_rfl) (Jj) ?_
    refine zqm U U U U U ?_
    first | refine Jc U U U U (fun m => y_gtrB U U (decide_eq_true (by omega))) ?_ | refine Jc U U U U (fun m => y_gtrB U U (decide_eq_false (by omega))) ?_
    refine zqm U U U U U ?_
    all_goals (first | refine Jy U U U U U U U ?_ | refine JM.gskipU U U U U U U ?_ | refine Jr U U U U U U (fun m => Jd rfl) ?_)
    all_goals (first | refine Jy U U U U U U U ?_ | refine JM.gskipU U U U U U U ?_ | refine Jr U U U U U U (fun m => Jd rfl) ?_)
    all_goals (first | refine Jy U U U U U U U ?_ | refine JM.gskipU U U U U U U ?_ | refine Jr U U U U U U (fun m => y_sub U U zwr) ?_)
    all_goals (first | refine Jy U U U U U U U ?_ | refine JM.gskipU U U U U U U ?_ | refine Jr U U U U U U (fun m => Jn hT U U U U U zix zix) ?_)
    all_goals (first | refine Jy U U U U U U U ?_ | refine JM.gskipU U U U U U U ?_ | refine Jr U U U U U U (fun m => Jo hT U U U (Wi (i := (x - 1)) (Vp m zpk) zei zeo)) ?_)
    all_goals (first | refine Jy U U U U U U U ?_ | refine JM.gskipU U U U U U U ?_ | refine Jr U U U U U U (fun m => Jd rfl) ?_)
    all_goals (first | refine Jy U U U U U U U ?_ | refine JM.gskipU U U U U U U ?_ | refine Jr U U U U U U (fun m => Jd rfl) ?_)
    all_goals (first | refine Jy U U U U U U U ?_ | refine JM.gskipU U U U U U U ?_ | refine Jr U U U U U U (fun m => Jn hT U U U U U zix zix) ?_)
    all_goals (first | refine Jy U U U U U U U ?_ | refine JM.gskipU U U U U U U ?_ | refine Jr U U U U U U (fun m => Jo hT U U U (Wi (i := (pv)) (Vp m zpk) zei zeo)) ?_)
    all_goals (first | refine Jy U U U U U U U ?_ | refine JM.gskipU U U U U U U ?_ | refine Jr U U U U U U (fun m => y_callF e187 rfl (lessS E _ _ _)) ?_)
    all_goals (first | refine Jy U U U U U U U ?_ | refine JM.gskipU U U U U U U ?_ | refine Jr U U U U U U (fun m => y_not rfl) ?_)
    all_goals refine Jc U U U U (fun m => Wb U U U) ?_
    all_goals refine Vv ?_
   all_goals refine Ja ?_
   all_goals
    first | apply Jx rfl | apply Vo rfl
    case' ht =>
     intro h
     try (first | exact zom | exact zho h | subst h)
     all_goals
      obtain ⟨q1, q2, q3, q4, q5⟩ := Sort.round_eq (mid := (Sort.partitionEqual ltS d3 x y pv).1) (d4 := (Sort.partitionEqual ltS d3 x y pv).2) hS (Sort.partitionEqual_holds _) hg hv1 hv2 (by omega) hB3 (by simpa using h) rfl
      refine Jh (Je (Jb (Jd rfl) U U U (Jb (Jd rfl) U U U (Jb (Jd rfl) U U U (Jb (Jd rfl) U U U ?_)))))
      refine Jl rfl (Jw e188 U U (Vw (Ji zpk Jj) (partEqS E g c n x y pv _ _ _ d3 sp _ U U U hs3 hv1 hv2 (by omega) h63)) ?_)
      rintro _ _ ⟨rfl, rfl⟩
      refine Jb (Jf rfl) U U U ?_
      refine Jg (Ja (Jh (Je (Jb (Jd rfl) U U U (Jb (Jf rfl) U U U ?_)))))
      refine Jg (Ja (Wl (Jv (Vl ?_))))
      first
      | exact Vt (s := (x, y, lm0, wb, wp, d1)) ((Sort.partitionEqual ltS d3 x y pv).1, y, lm, wb, wp, (Sort.partitionEqual ltS d3 x y pv).2) ⟨by dsimp only; omega, q2, hy, by dsimp only; rw [q3]; exact hs3, q4, fun R k1 k2 => hg1 R (Sort.permIn_trans _ _ _ _ _ hp3 (q5 R k1 k2).1) (q5 R k1 k2).2⟩ ⟨U, U, U, U, U, U, trivial⟩ (fun w h => h) (by dsimp only; omega)
      | exact Vt (s := (x, y, lm0, wb, wp, d1)) (mid + 1, y, lm, _, ap, dl) ⟨by dsimp only; omega, by dsimp only; omega, hy, by dsimp only; rw [hl1.1, q3]; exact hs3, (q6 dl hl1 hl2).1, fun R k1 k2 => hg1 R (Sort.permIn_trans _ _ _ _ _ hp3 ((q6 dl hl1 hl2).2 R k1 k2).1) ((q6 dl hl1 hl2).2 R k1 k2).2⟩ ⟨rfl, (congrArg (fun z => some (Value.int .i64 z)) (by first | omega | (dsimp only; omega))), U, U, U, U, trivial⟩ (fun w h => h) (by dsimp only; omega)
      | exact Vt (s := (x, y, lm0, wb, wp, d1)) (x, mid, lm, _, ap, dr) ⟨hx, q1, by dsimp only; omega, by dsimp only; rw [hr1.1, q3]; exact hs3, (q7 dr hr1 hr2).1, fun R k1 k2 => hg1 R (Sort.permIn_trans _ _ _ _ _ hp3 ((q7 dr hr1 hr2).2 R k1 k2).1) ((q7 dr hr1 hr2).2 R k1 k2).2⟩ ⟨U, U, U, U, U, U, trivial⟩ (fun w h => h) (by dsimp only; omega)
    case' hf =>
     intro h
     try (first | exact zom | exact zho h | subst h)
     all_goals
      obtain ⟨q1, q2, q3, q4, q5, q6, q7⟩ := Sort.round_part (mid := (Sort.partition ltS d3 x y pv).1) (ap := (Sort.partition ltS d3 x y pv).2.1) (d4 := (Sort.partition ltS d3 x y pv).2.2) hS (Sort.partition_holds _) hv1 hv2 (by omega) hB3 rfl
      refine Vd ?_
   all_goals refine Ja ?_
   all_goals
    refine Jh (Je (Jb (Jd rfl) U U U (Jb (Jd rfl) U U U (Jb (Jd rfl) U U U (Jb (Jd rfl) U U U ?_)))))
    refine Jl rfl (Jw e189 U U (Vw (Ji zpk Jj) (partS E g c n x y pv _ _ _ d3 sp _ U U U hs3 hv1 hv2 (by omega) h63)) ?_)
    rintro _ _ ⟨rfl, rfl⟩
    refine Jb (Jd rfl) U U U (Jb (Vg U U) U U U (Jb (Vg U U) U U U (Jb (Jf rfl) U U U (Jb (Jf rfl) U U U ?_))))
    refine Jg (Ja (Jh (Je ?_)))
    generalize (Sort.partition ltS d3 x y pv).1 = mid at *
    generalize (Sort.partition ltS d3 x y pv).2.1 = ap at *
    generalize (Sort.partition ltS d3 x y pv).2.2 = d4 at *
    refine Jb (Jd rfl) U U U (Jb (Jf rfl) U U U ?_)
    refine Jg (Ja (Jh (Je (Jb (Jd rfl) U U U (Jb (Jd rfl) U U U ?_)))))
    refine Jb (y_sub U U zwr) U U U ?_
    refine Jb (Jd rfl) U U U (Jb (Jd rfl) U U U ?_)
    refine Jb (y_sub U U zwr) U U U ?_
    refine Jb (Jf rfl) U U U (Jb (Jf rfl) U U U ?_)
    refine Jg (Ja (Jh (Je (Jb (Jd rfl) U U U ?_))))
    refine Jb (y_quo U U (by decide) (quo_nat (x := y - x) (k := 8) rfl (by omega))) U U U ?_
    refine Jb (Jf rfl) U U U ?_
    refine Jg (Ja (Jh (Je (Jb (Jd rfl) U U U (Jb (Jd rfl) U U U (Jb (y_lss U U) U U U ?_))))))
    refine Jg (Ja ?_)
    first | apply Jx rfl | apply Vo rfl
    case' ht =>
     intro h
     try (first | exact zom | exact zho h | subst h)
     all_goals
      refine Jh (Je (Jb (Jd rfl) U U U (Jb (Jd rfl) U U U (Jb (y_geq U U) U U U (Jb (Jf rfl) U U U ?_)))))
      refine Jg (Ja (Jh (Je (Jb (Jd rfl) U U U (Jb (Jd rfl) U U U (Jb (Jd rfl) U U U (Jb (Jd rfl) U U U ?_)))))))
      refine Jl rfl (Jw e166 U U (Vw (Ji zpk Jj) (ih (mid - x) (by omega) g c n x mid _ _ _ d4 sp _ (Nat.le_refl _) U U (by rw [q3]; exact hs3) q1 (by omega) q4 h63)) ?_)
      rintro _ _ ⟨rfl, dl, hl1, hl2, rfl⟩
      refine Jg (Ja (Je (Jb (Jd rfl) U U U ?_)))
      refine Jb (Wa U U zwr) U U U ?_
      refine Jb (Jf rfl) U U U ?_
      refine Jg ?_
    case' hf =>
     intro h
     try (first | exact zom | exact zho h | subst h)
     all_goals
      refine Jh (Je (Jb (Jd rfl) U U U (Jb (Jd rfl) U U U (Jb (y_geq U U) U U U (Jb (Jf rfl) U U U ?_)))))
      refine Jg (Ja (Jh (Je (Jb (Jd rfl) U U U (Jb (Jd rfl) U U U ?_)))))
      refine Jb (Wa U U zwr) U U U ?_
      refine Jb (Jd rfl) U U U (Jb (Jd rfl) U U U ?_)
      refine Jl rfl (Jw e166 U U (Vw (Ji zpk Jj) (ih (y - (mid + 1)) (by omega) g c n (mid + 1) y _ _ _ d4 sp _ (Nat.le_refl _) (by omega) rfl (by rw [q3]; exact hs3) (by omega) (by omega) q5 h63)) ?_)
      rintro _ _ ⟨rfl, dr, hr1, hr2, rfl⟩
      refine Jg (Ja (Je (Jb (Jd rfl) U U U (Jb (Jf rfl) U U U ?_))))
      refine Jg ?_
 all_goals refine Ju ?_
 all_goals
  first
  | exact Vt (s := (x, y, lm0, wb, wp, d1)) ((Sort.partitionEqual ltS d3 x y pv).1, y, lm, wb, wp, (Sort.partitionEqual ltS d3 x y pv).2) ⟨by dsimp only; omega, q2, hy, by dsimp only; rw [q3]; exact hs3, q4, fun R k1 k2 => hg1 R (Sort.permIn_trans _ _ _ _ _ hp3 (q5 R k1 k2).1) (q5 R k1 k2).2⟩ ⟨U, U, U, U, U, U, trivial⟩ (fun w h => h) (by dsimp only; omega)
  | exact Vt (s := (x, y, lm0, wb, wp, d1)) (mid + 1, y, lm, _, ap, dl) ⟨by dsimp only; omega, by dsimp only; omega, hy, by dsimp only; rw [hl1.1, q3]; exact hs3, (q6 dl hl1 hl2).1, fun R k1 k2 => hg1 R (Sort.permIn_trans _ _ _ _ _ hp3 ((q6 dl hl1 hl2).2 R k1 k2).1) ((q6 dl hl1 hl2).2 R k1 k2).2⟩ ⟨rfl, (congrArg (fun z => some (Value.int .i64 z)) (by first | omega | (dsimp only; omega))), U, U, U, U, trivial⟩ (fun w h => h) (by dsimp only; omega)
  | exact Vt (s := (x, y, lm0, wb, wp, d1)) (x, mid, lm, _, ap, dr) ⟨hx, q1, by dsimp only; omega, by dsimp only; rw [hr1.1, q3]; exact hs3, (q7 dr hr1 hr2).1, fun R k1 k2 => hg1 R (Sort.permIn_trans _ _ _ _ _ hp3 ((q7 dr hr1 hr2).2 R k1 k2).1) ((q7 dr hr1 hr2).2 R k1 k2).2⟩ ⟨U, U, U, U, U, U, trivial⟩ (fun w h => h) (by dsimp only; omega)
end
end
section
open Go Go.SL
section
attribute [local irreducible] J JL JE JM LS Y Fc RV Code.wp wpList Code.wpIn wpListIn
attribute [local irreducible] Yc
attribute [local irreducible] ltS
variable (E : World)
theorem insNilS (r : List HProp) : Fc prog E 181 [.slice none 0 0, .int .i64 0, .int .i64 0].toArray r (fun v l' => v = .tuple #[] ∧ l' = r) := by
 refine Va (c := ?codeC) Tryz.func181 ?hb Tryz.ntmps181 ?hl ?_
 case hb => exact rfl
 case hl => exact rfl
 refine Jh (Je (Jb (Jd rfl) U U U ?_))
 refine Jb (Wa U U zwr) U U U ?_
 refine Jb (Jf rfl) U U U ?_
 refine Jg (Ja (Ve ?_))
 refine Wn (α := Unit) (fun _ => True) (fun _ => [(2, .int .i64 0), (6, .int .i64 1)]) (fun _ => r) (fun _ => 0) () trivial ⟨U, U, trivial⟩ (fun w h => h) ?_
 rintro _ _
 refine Jh (Jh (Je (Jb (Jd rfl) U U U (Jb (Jd rfl) U U U (Jb (y_lss U U) U U U ?_)))))
 refine Jg (Ja ?_)
 refine Vk rfl zbl ?_
 refine Wl (Jv (Jv (Vl ?_)))
 refine JE.ret0 (.inr rfl) U U  ?_
 exact ⟨rfl, rfl⟩
theorem pdqNilS (lim : Int) (r : List HProp) : Fc prog E 166 [.slice none 0 0, .int .i64 0, .int .i64 0, .int .i64 lim].toArray r (fun v l' => v = .tuple #[] ∧ l' = r) := by
 refine Va (c := ?codeC) Tryz.func166 ?hb Tryz.ntmps166 ?hl ?_
 case hb => exact rfl
 case hl => exact rfl
 refine Jh (Je (Jb (Jf rfl) U U U ?_))
 refine Jg (Ja (Jh (Je (Jb (Jf rfl) U U U ?_))))
 refine Jg (Ja (Ve ?_))
 refine Wn (α := Unit) (fun _ => True) (fun _ => [(0, .slice none 0 0), (1, .int .i64 0), (2, .int .i64 0)]) (fun _ => r) (fun _ => 0) () trivial ⟨U, U, U, trivial⟩ (fun w h => h) ?_
 rintro _ _
 refine Ve (Jh (Je (Jb (Jd rfl) U U U (Jb (Jd rfl) U U U ?_))))
 refine Jb (y_sub U U zwr) U U U ?_
 refine Jb (Jf rfl) U U U ?_
 refine Jg (Ja (Jh (Jh (Je (Jb (Jd rfl) U U U (Jb (y_leq U U) U U U ?_))))))
 refine Jg (Ja ?_)
 refine J.cond_t rfl zbl ?_
 refine Jh (Je (Jb (Jd rfl) U U U (Jb (Jd rfl) U U U (Jb (Jd rfl) U U U ?_))))
 refine Jl rfl (Jw e181 U U (insNilS E _) ?_)
 rintro _ _ ⟨rfl, rfl⟩
 refine Jg (Ja (Vn (Vb (Vj (Vb (Vj ?_))))))
 refine JE.ret0 (.inl rfl) U U  ?_
 exact ⟨rfl, rfl⟩
theorem sortNilS (r : List HProp) : Fc prog E 125 [.slice none 0 0].toArray r (fun v l' => v = .tuple #[] ∧ l' = r) := by
 refine Va (c := ?codeC) Tryz.func125 ?hb Tryz.ntmps125 ?hl ?_
 case hb => exact rfl
 case hl => exact rfl
 refine Jh (Je (Jb (Jd rfl) U U U (Jb (Vf hT U U U) U U U (Jb (Jf rfl) U U U ?_))))
 refine Jg (Ja (Je (Jb (Jd rfl) U U U (Jb (Jd rfl) U U U (Jb (Jd rfl) U U U ?_)))))
 refine Jb (y_conv (m := 0) hT U U U U U) U U U ?_
 refine Jl rfl (Jw e167 U U (lenU E _ 0 _ rfl (by omega)) ?_)
 rintro _ _ ⟨k, rfl, _, _, rfl⟩
 refine Jl rfl (Jw e166 U U (pdqNilS E _ _) ?_)
 rintro _ _ ⟨rfl, rfl⟩
 refine Jg ?_
 all_goals
  refine JE.ret0 (.inr rfl) U U  ?_
  exact ⟨rfl, rfl⟩
theorem sortRowS (hS : Sort.SWO ltS) (g c n : Nat) (d : Array ByteArray) (sp : List Value) (r : List HProp) (hn : d.size = n) (h63 : n < 4611686018427387904) :
 Fc prog E 125 [.slice (some ⟨g, 0, none⟩) n c].toArray (arS g d sp :: r) (fun v l' => v = .tuple #[] ∧ ∃ d', Sort.PermIn 0 n d d' ∧ Sort.SortedIn ltS 0 n d' ∧ l' = arS g d' sp :: r) := by
 refine Wg ?_
 refine Va (c := ?codeC) Tryz.func125 ?hb Tryz.ntmps125 ?hl ?_
 case hb => exact rfl
 case hl => exact rfl
 refine Jh (Je (Jb (Jd rfl) U U U (Jb (Vf hT U U U) U U U (Jb (Jf rfl) U U U ?_))))
 refine Jg (Ja (Je (Jb (Jd rfl) U U U (Jb (Jd rfl) U U U (Jb (Jd rfl) U U U ?_)))))
 refine Jb (y_conv (m := (n : Int)) hT U U U U (wrap_u64n (by omega))) U U U ?_
 refine Jl rfl (Jw e167 U U (lenU E _ n _ rfl (by omega)) ?_)
 rintro _ _ ⟨k, rfl, _, _, rfl⟩
 refine Jl rfl (Jw e166 U U (Vw (Ji zpk Jj) (pdqS E hS (n - 0) g c n 0 n _ _ _ d sp _ (Nat.le_refl _) U U hn (Nat.zero_le _) (Nat.le_refl _) (.inl rfl) h63)) ?_)
 rintro _ _ ⟨rfl, d2, h1, h2, rfl⟩
 refine Jg ?_
 all_goals
  refine JE.ret0 (.inr rfl) U U  ?_
  exact ⟨_, fun w h => h, rfl, d2, h1, h2, rfl⟩
theorem sortS (hS : Sort.SWO ltS) (n : Nat) (v : Value) (zs : List ByteArray) (r : List HProp) (hz : zs.length = n) (h63 : n < 4611686018427387904) :
 Fc prog E 125 [v].toArray (own 9 1 v n (zs.map Value.string) :: r) (fun u l' => u = .tuple #[] ∧ ∃ ys : List ByteArray, ys.Perm zs ∧ (ys.Pairwise fun x y => ltS y x = false) ∧ l' = own 9 1 v n (ys.map Value.string) :: r) := by
 refine Fc.owns (fun e1 e2 e3 => ?_) (fun g cap sp e1 h1 h2 h3 h4 => ?_)
 · subst e1 e2
   obtain rfl : zs = [] := List.eq_nil_of_length_eq_zero hz
   exact Wg ((sortNilS E r).mono fun u l' ⟨a, b⟩ => ⟨own 9 1 (.slice none 0 0) 0 [] :: r, fun w h => Sat.own_nil (b ▸ h), a, [], List.Perm.refl _, List.Pairwise.nil, rfl⟩)
 · subst e1
   have hd : zs.toArray.size = n := by simpa using hz
   refine Wg (((sortRowS E hS g cap n zs.toArray sp r hd h63).imp fun w s => ?_).mono fun u l' ⟨a, d', p1, p2, b⟩ => ?_)
   · have e : zs.map Value.string = zs.toArray.toList.flatMap fun x => [Value.string x] := List.map_eq_flatMap
     rw [e] at s
     exact s
   · have hl : d'.toList.length = n := by rw [Array.length_toList, p1.1]; exact hd
     refine ⟨own 9 1 (.slice (some ⟨g, 0, none⟩) n cap) n (d'.toList.map Value.string) :: r, fun w h => ?_, a, d'.toList, perm_in hd p1, sorted_in (p1.1.trans hd) p2, rfl⟩
     have e : d'.toList.map Value.string = d'.toList.flatMap fun x => [Value.string x] := List.map_eq_flatMap
     have s : Sat E (stars (row g 9 (d'.toList.map Value.string ++ sp) :: r)) w := by
      rw [e]
      rw [b] at h
      exact h
     refine s.owned h1 h2 (by rw [List.length_map, hl, Nat.mul_one]) ?_
     rw [List.length_append, List.length_map] at h4 ⊢
     omega
end
end
section
open Go Go.SL
theorem sortOkF (E : World) : SortOk E 1000000 := fun n v zs r h1 h2 => sortS E swo_ltS n v zs r h1 (by omega)
end
end Go.Proofs.YtaopifoidbdniaaGreat
