import Derived.Test.YtaopifoidbdniaaGreatJoin1
import Derived.Test.YtaopifoidbdniaaGreatJoin2
/- Rows in order of keys: plain laws. -/
namespace Go.Proofs.YtaopifoidbdniaaGreat
open Go Go.SL
/-! A table's rows. -/
abbrev Rw := ByteArray × ByteArray
def kvT (m : List Rw) : List (ByteArray × Value) := m.map fun p => (p.1, Value.string p.2)
theorem kvT_length (m : List Rw) : (kvT m).length = m.length := by simp [kvT]
def rget : List Rw → ByteArray → Option ByteArray
  | [], _ => none
  | (b, v) :: r, a => if a = b then some v else rget r a
def rput : List Rw → ByteArray → ByteArray → List Rw
  | [], a, v => [(a, v)]
  | (b, u) :: r, a, v => if a = b then (a, v) :: r else (b, u) :: rput r a v
def rdel : List Rw → ByteArray → List Rw
  | [], _ => []
  | (b, u) :: r, a => if a = b then r else (b, u) :: rdel r a
theorem mlook_kvT (m : List Rw) (k : ByteArray) : mlook (kvT m) k = (rget m k).map Value.string := by
  induction m with
  | nil => rfl
  | cons p r ih =>
    obtain ⟨b, v⟩ := p
    show (if k = b then _ else mlook (kvT r) k) = _
    simp only [rget]
    split
    · rfl
    · exact ih
theorem mput_kvT (m : List Rw) (k v : ByteArray) : mput (kvT m) k (Value.string v) = kvT (rput m k v) := by
  induction m with
  | nil => rfl
  | cons p r ih =>
    obtain ⟨b, u⟩ := p
    show (if k = b then _ else _ :: mput (kvT r) k (Value.string v)) = _
    simp only [rput]
    split
    · rfl
    · rw [ih]; rfl
theorem mdel_kvT (m : List Rw) (k : ByteArray) : mdel (kvT m) k = kvT (rdel m k) := by
  induction m with
  | nil => rfl
  | cons p r ih =>
    obtain ⟨b, u⟩ := p
    show (if k = b then kvT r else _ :: mdel (kvT r) k) = _
    simp only [rdel]
    split
    · rfl
    · rw [ih]; rfl
/-- Rows by rising keys. -/
def Srt (R : List Rw) : Prop := R.Pairwise fun x y => ltS x.1 y.1 = true
theorem ltS_irr (a : ByteArray) : ltS a a = false := swo_ltS.irrefl a
theorem ltS_ne {a b : ByteArray} (h : ltS a b = true) : a ≠ b := fun e => by subst e; rw [ltS_irr] at h; cases h
theorem ltS_total {a b : ByteArray} (h : a ≠ b) (h2 : ltS a b = false) : ltS b a = true := by
  have q := ltS_tri a b
  rw [h2] at q
  simp only [Bool.false_or, decide_eq_false h] at q
  cases e : ltS b a with
  | true => rfl
  | false => rw [e] at q; simp at q
theorem Srt.nodup {R : List Rw} (h : Srt R) : (R.map (·.1)).Nodup := (List.pairwise_map.2 (h.imp fun q => ltS_ne q))
theorem rget_mem {m : List Rw} (hn : (m.map (·.1)).Nodup) {k v : ByteArray} : rget m k = some v ↔ (k, v) ∈ m := by
  induction m with
  | nil => simp [rget]
  | cons p r ih =>
    obtain ⟨b, u⟩ := p
    simp only [List.map_cons, List.nodup_cons] at hn
    simp only [rget]
    split
    · next e =>
      subst e
      constructor
      · intro h; cases h; exact List.mem_cons_self ..
      · intro h
        rcases List.mem_cons.1 h with h | h
        · cases h; rfl
        · exact absurd (List.mem_map_of_mem (f := (·.1)) h) hn.1
    · next e =>
      rw [ih hn.2]
      constructor
      · exact List.mem_cons_of_mem _
      · intro h
        rcases List.mem_cons.1 h with h | h
        · cases h; exact absurd rfl e
        · exact h
theorem rget_perm {m R : List Rw} (hp : m.Perm R) (hn : (R.map (·.1)).Nodup) (k : ByteArray) : rget m k = rget R k := by
  have hm : (m.map (·.1)).Nodup := (hp.map _).nodup_iff.2 hn
  apply Option.ext
  intro v
  rw [rget_mem hm, rget_mem hn, hp.mem_iff]
/-- A row is put in order. -/
def rins : List Rw → ByteArray → ByteArray → List Rw
  | [], k, v => [(k, v)]
  | (b, u) :: r, k, v => if ltS b k then (b, u) :: rins r k v else if b = k then (k, v) :: r else (k, v) :: (b, u) :: r
/-- A row goes. -/
def rrem (R : List Rw) (k : ByteArray) : List Rw := R.filter fun p => decide (p.1 ≠ k)
theorem rins_mem {R : List Rw} {k v : ByteArray} (h : Srt R) {p : Rw} : p ∈ rins R k v ↔ p = (k, v) ∨ (p ∈ R ∧ p.1 ≠ k) := by
  induction R with
  | nil => simp [rins]
  | cons q r ih =>
    obtain ⟨b, u⟩ := q
    have hc := List.pairwise_cons.1 h
    simp only [rins]
    split
    · next e =>
      rw [List.mem_cons, ih hc.2]
      constructor
      · rintro (h | h | h)
        · subst h; exact .inr ⟨List.mem_cons_self .., ltS_ne e⟩
        · exact .inl h
        · exact .inr ⟨List.mem_cons_of_mem _ h.1, h.2⟩
      · rintro (h | ⟨h, h2⟩)
        · exact .inr (.inl h)
        · rcases List.mem_cons.1 h with h | h
          · exact .inl h
          · exact .inr (.inr ⟨h, h2⟩)
    · next e =>
      have hr : ∀ q ∈ r, q.1 ≠ k := fun q hq hk => by
        have := hc.1 q hq
        dsimp only at this
        rw [hk] at this
        exact e this
      split
      · next e2 =>
        subst e2
        rw [List.mem_cons]
        constructor
        · rintro (h | h)
          · exact .inl h
          · exact .inr ⟨List.mem_cons_of_mem _ h, hr p h⟩
        · rintro (h | ⟨h, h2⟩)
          · exact .inl h
          · rcases List.mem_cons.1 h with h | h
            · subst h; exact absurd rfl h2
            · exact .inr h
      · next e2 =>
        rw [List.mem_cons]
        constructor
        · rintro (h | h)
          · exact .inl h
          · refine .inr ⟨h, ?_⟩
            rcases List.mem_cons.1 h with h | h
            · subst h; exact e2
            · exact hr p h
        · rintro (h | ⟨h, _⟩)
          · exact .inl h
          · exact .inr h
theorem rins_srt {R : List Rw} (h : Srt R) (k v : ByteArray) : Srt (rins R k v) := by
  induction R with
  | nil => exact List.pairwise_singleton ..
  | cons q r ih =>
    obtain ⟨b, u⟩ := q
    have hc := List.pairwise_cons.1 h
    simp only [rins]
    split
    · next e =>
      refine List.pairwise_cons.2 ⟨fun p hp => ?_, ih hc.2⟩
      rcases (rins_mem hc.2).1 hp with rfl | ⟨hp, _⟩
      · exact e
      · exact hc.1 p hp
    · next e =>
      have e : ltS b k = false := by simpa using e
      split
      · next e2 => subst e2; exact List.pairwise_cons.2 ⟨hc.1, hc.2⟩
      · next e2 =>
        have hkb := ltS_total e2 e
        refine List.pairwise_cons.2 ⟨fun p hp => ?_, h⟩
        rcases List.mem_cons.1 hp with rfl | hp
        · exact hkb
        · exact swo_ltS.trans _ _ _ hkb (hc.1 p hp)
theorem rrem_mem {R : List Rw} {k : ByteArray} {p : Rw} : p ∈ rrem R k ↔ p ∈ R ∧ p.1 ≠ k := by simp [rrem]
theorem rrem_srt {R : List Rw} (h : Srt R) (k : ByteArray) : Srt (rrem R k) := h.filter _
theorem rput_mem {m : List Rw} {k v : ByteArray} (hn : (m.map (·.1)).Nodup) {p : Rw} : p ∈ rput m k v ↔ p = (k, v) ∨ (p ∈ m ∧ p.1 ≠ k) := by
  induction m with
  | nil => simp [rput]
  | cons q r ih =>
    obtain ⟨b, u⟩ := q
    simp only [List.map_cons, List.nodup_cons] at hn
    simp only [rput]
    split
    · next e =>
      subst e
      rw [List.mem_cons]
      constructor
      · rintro (h | h)
        · exact .inl h
        · exact .inr ⟨List.mem_cons_of_mem _ h, fun e => hn.1 (e ▸ List.mem_map_of_mem (f := (·.1)) h)⟩
      · rintro (h | ⟨h, h2⟩)
        · exact .inl h
        · rcases List.mem_cons.1 h with h | h
          · subst h; exact absurd rfl h2
          · exact .inr h
    · next e =>
      rw [List.mem_cons, ih hn.2]
      constructor
      · rintro (h | h | h)
        · subst h; exact .inr ⟨List.mem_cons_self .., fun h => e h.symm⟩
        · exact .inl h
        · exact .inr ⟨List.mem_cons_of_mem _ h.1, h.2⟩
      · rintro (h | ⟨h, h2⟩)
        · exact .inr (.inl h)
        · rcases List.mem_cons.1 h with h | h
          · exact .inl h
          · exact .inr (.inr ⟨h, h2⟩)
theorem rput_keys {m : List Rw} {k v : ByteArray} (hn : (m.map (·.1)).Nodup) : ((rput m k v).map (·.1)).Nodup := by
  induction m with
  | nil => simp [rput]
  | cons q r ih =>
    obtain ⟨b, u⟩ := q
    simp only [List.map_cons, List.nodup_cons] at hn
    simp only [rput]
    split
    · next e => subst e; simpa using hn
    · next e =>
      simp only [List.map_cons, List.nodup_cons]
      refine ⟨fun hb => ?_, ih hn.2⟩
      obtain ⟨p, hp, rfl⟩ := List.mem_map.1 hb
      rcases (rput_mem hn.2).1 hp with h | ⟨h, _⟩
      · subst h; exact e rfl
      · exact hn.1 (List.mem_map_of_mem (f := (·.1)) h)
theorem rdel_filter {m : List Rw} {k : ByteArray} (hn : (m.map (·.1)).Nodup) : rdel m k = rrem m k := by
  induction m with
  | nil => rfl
  | cons q r ih =>
    obtain ⟨b, u⟩ := q
    simp only [List.map_cons, List.nodup_cons] at hn
    simp only [rdel]
    split
    · next e =>
      subst e
      have : rrem r k = r := List.filter_eq_self.2 fun p hp => by
        simp only [decide_eq_true_eq]
        exact fun e => hn.1 (e ▸ List.mem_map_of_mem (f := (·.1)) hp)
      simp only [rrem, List.filter_cons, ne_eq, not_true_eq_false, decide_false]
      exact this.symm
    · next e =>
      have e2 : b ≠ k := fun h => e h.symm
      simp only [rrem, List.filter_cons, e2, ne_eq, not_false_eq_true, decide_true, if_true]
      rw [ih hn.2]
      rfl
theorem perm_mem {xs ys : List Rw} (h1 : (xs.map (·.1)).Nodup) (h2 : (ys.map (·.1)).Nodup) (h : ∀ p, p ∈ xs ↔ p ∈ ys) : xs.Perm ys :=
  (List.perm_ext_iff_of_nodup ((List.pairwise_map.1 h1).imp fun q e => q (congrArg (·.1) e)) ((List.pairwise_map.1 h2).imp fun q e => q (congrArg (·.1) e))).2 h
theorem rput_perm {m R : List Rw} (hp : m.Perm R) (hR : Srt R) (k v : ByteArray) : (rput m k v).Perm (rins R k v) := by
  have hm : (m.map (·.1)).Nodup := (hp.map _).nodup_iff.2 hR.nodup
  refine perm_mem (rput_keys hm) (rins_srt hR k v).nodup fun p => ?_
  rw [rput_mem hm, rins_mem hR, hp.mem_iff]
theorem rdel_perm {m R : List Rw} (hp : m.Perm R) (hR : Srt R) (k : ByteArray) : (rdel m k).Perm (rrem R k) := by
  rw [rdel_filter ((hp.map _).nodup_iff.2 hR.nodup)]
  exact hp.filter _
theorem rins_new {R : List Rw} (hR : Srt R) {k : ByteArray} (v : ByteArray) (h : rget R k = none) : (rins R k v).length = R.length + 1 := by
  induction R with
  | nil => rfl
  | cons q r ih =>
    obtain ⟨b, u⟩ := q
    have hc := List.pairwise_cons.1 hR
    have hne : k ≠ b := fun e => by simp [rget, e] at h
    simp only [rget, hne, if_false] at h
    simp only [rins]
    split
    · rw [List.length_cons, ih hc.2 h, List.length_cons]
    · rw [if_neg (fun e => hne e.symm)]; rfl
theorem rins_old {R : List Rw} (hR : Srt R) {k u : ByteArray} (v : ByteArray) (h : rget R k = some u) : (rins R k v).length = R.length := by
  induction R with
  | nil => simp [rget] at h
  | cons q r ih =>
    obtain ⟨b, x⟩ := q
    have hc := List.pairwise_cons.1 hR
    simp only [rins]
    split
    · next e =>
      have hne : k ≠ b := fun h => ltS_ne e h.symm
      simp only [rget, hne, if_false] at h
      rw [List.length_cons, ih hc.2 h, List.length_cons]
    · next e =>
      split
      · rfl
      · next e2 =>
        have hne : k ≠ b := fun h => e2 h.symm
        simp only [rget, hne, if_false] at h
        exact absurd (hc.1 _ ((rget_mem (Srt.nodup hc.2)).1 h)) e
theorem rrem_le (R : List Rw) (k : ByteArray) : (rrem R k).length ≤ R.length := List.length_filter_le ..
end Go.Proofs.YtaopifoidbdniaaGreat
/- Tables in memory; empty, copied. -/
namespace Go.Proofs.YtaopifoidbdniaaGreat
open Go Go.SL
section
/-- A table: a map that holds these rows. -/
def tabA (b : Nat) (R : List Rw) : HProp := pk fun m : List Rw => [pur (m.Perm R), mapA Value.string (fun _ => True) b (kvT m)]
/-- Tables. -/
def tabs (bs : List Nat) (Rs : List (List Rw)) : HProp := stars (List.zipWith tabA bs Rs)
def mapsV (bs : List Nat) : List Value := bs.map fun b => Value.map (some b)
/-- A state: a slice of tables. -/
def stM (a : Option Addr) (n c : Nat) (Rs : List (List Rw)) : HProp := pk fun bs : List Nat => [pur (bs.length = n ∧ Rs.length = n), own 147 1 (.slice a n c) n (mapsV bs), tabs bs Rs]
variable {E w : World} {r : List HProp}
theorem tabs_take {bs : List Nat} {Rs : List (List Rw)} {i b : Nat} {R : List Rw} (hb : bs[i]? = some b) (hR : Rs[i]? = some R) (s : Sat E (stars (tabs bs Rs :: r)) w) :
    Sat E (stars (tabA b R :: tabs (bs.eraseIdx i) (Rs.eraseIdx i) :: r)) w := by
  have e : ∀ (bs : List Nat) (Rs : List (List Rw)) (i : Nat), bs[i]? = some b → Rs[i]? = some R → ∃ A B, List.zipWith tabA bs Rs = A ++ tabA b R :: B ∧ List.zipWith tabA (bs.eraseIdx i) (Rs.eraseIdx i) = A ++ B := by
    intro bs
    induction bs with
    | nil => intro Rs i h; simp at h
    | cons c cs ih =>
      intro Rs i h1 h2
      cases Rs with
      | nil => simp at h2
      | cons q qs =>
        cases i with
        | zero =>
          simp at h1 h2
          subst h1 h2
          exact ⟨[], _, rfl, rfl⟩
        | succ i =>
          obtain ⟨A, B, e1, e2⟩ := ih qs i (by simpa using h1) (by simpa using h2)
          exact ⟨tabA c q :: A, B, by rw [List.zipWith_cons_cons, e1]; rfl, by rw [List.eraseIdx_cons_succ, List.eraseIdx_cons_succ, List.zipWith_cons_cons, e2]; rfl⟩
  obtain ⟨A, B, e1, e2⟩ := e bs Rs i hb hR
  unfold tabs at s ⊢
  have s1 := s.unfold
  rw [e1, List.append_assoc] at s1
  have s2 := Sat.rot (p := A) (g := [tabA b R]) s1
  refine Sat.pick (l := stars (List.zipWith tabA (bs.eraseIdx i) (Rs.eraseIdx i)) :: tabA b R :: r) (Sat.fold ?_) (Pick.tail Pick.head)
  rw [e2]
  have s3 := Sat.rot (p := [tabA b R]) (g := A ++ B) (r := r) (by simpa [List.append_assoc] using s2)
  simpa [List.append_assoc] using s3
theorem tabs_put {bs : List Nat} {Rs : List (List Rw)} {i b : Nat} {R : List Rw} (hb : bs[i]? = some b) (hR : i < Rs.length) (s : Sat E (stars (tabA b R :: tabs (bs.eraseIdx i) (Rs.eraseIdx i) :: r)) w) :
    Sat E (stars (tabs bs (Rs.set i R) :: r)) w := by
  have e : ∀ (bs : List Nat) (Rs : List (List Rw)) (i : Nat), bs[i]? = some b → i < Rs.length → ∃ A B, List.zipWith tabA bs (Rs.set i R) = A ++ tabA b R :: B ∧ List.zipWith tabA (bs.eraseIdx i) (Rs.eraseIdx i) = A ++ B := by
    intro bs
    induction bs with
    | nil => intro Rs i h; simp at h
    | cons c cs ih =>
      intro Rs i h1 h2
      cases Rs with
      | nil => simp at h2
      | cons q qs =>
        cases i with
        | zero =>
          simp at h1
          subst h1
          exact ⟨[], _, rfl, rfl⟩
        | succ i =>
          obtain ⟨A, B, e1, e2⟩ := ih qs i (by simpa using h1) (by simpa using h2)
          exact ⟨tabA c q :: A, B, by rw [List.set_cons_succ, List.zipWith_cons_cons, e1]; rfl, by rw [List.eraseIdx_cons_succ, List.eraseIdx_cons_succ, List.zipWith_cons_cons, e2]; rfl⟩
  obtain ⟨A, B, e1, e2⟩ := e bs Rs i hb hR
  unfold tabs at s ⊢
  refine Sat.fold ?_
  rw [e1]
  have s1 := (Sat.pick s (Pick.tail Pick.head)).unfold
  rw [e2] at s1
  have s2 := Sat.rot (p := A ++ B) (g := [tabA b R]) s1
  have s3 := Sat.rot (p := [tabA b R]) (g := A) (r := B ++ r) (by simpa [List.append_assoc] using s2)
  simpa [List.append_assoc] using s3
theorem tabs_push {bs : List Nat} {Rs : List (List Rw)} {b : Nat} {R : List Rw} (hl : bs.length = Rs.length) (s : Sat E (stars (tabA b R :: tabs bs Rs :: r)) w) : Sat E (stars (tabs (bs ++ [b]) (Rs ++ [R]) :: r)) w := by
  unfold tabs at s ⊢
  refine Sat.fold ?_
  rw [List.zipWith_append hl]
  have s1 := (Sat.pick s (Pick.tail Pick.head)).unfold
  have s2 : Sat E (stars (List.zipWith tabA bs Rs ++ ([tabA b R] ++ r))) w := s1
  simpa [List.append_assoc] using s2
theorem tabs_nil (s : Sat E (stars r) w) : Sat E (stars (tabs [] [] :: r)) w := Sat.fold (m := []) s
theorem tabA_open {b : Nat} {R : List Rw} (s : Sat E (stars (tabA b R :: r)) w) : ∃ m : List Rw, m.Perm R ∧ Sat E (stars (mapA Value.string (fun _ => True) b (kvT m) :: r)) w := by
  obtain ⟨m, s⟩ := s.ofpk
  obtain ⟨h, s⟩ := s.ofpur
  exact ⟨m, h, s⟩
theorem tabA_shut {b : Nat} {R m : List Rw} (h : m.Perm R) (s : Sat E (stars (mapA Value.string (fun _ => True) b (kvT m) :: r)) w) : Sat E (stars (tabA b R :: r)) w :=
  Sat.topk (F := fun m : List Rw => [pur (m.Perm R), mapA Value.string (fun _ => True) b (kvT m)]) m (s.topur h)
theorem stM_open {a : Option Addr} {n c : Nat} {Rs : List (List Rw)} (s : Sat E (stars (stM a n c Rs :: r)) w) : ∃ bs, bs.length = n ∧ Rs.length = n ∧ Sat E (stars (own 147 1 (.slice a n c) n (mapsV bs) :: tabs bs Rs :: r)) w := by
  obtain ⟨bs, s⟩ := s.ofpk
  obtain ⟨h, s⟩ := s.ofpur
  exact ⟨bs, h.1, h.2, s⟩
theorem stM_shut {a : Option Addr} {n c : Nat} {Rs : List (List Rw)} {bs : List Nat} (h1 : bs.length = n) (h2 : Rs.length = n) (s : Sat E (stars (own 147 1 (.slice a n c) n (mapsV bs) :: tabs bs Rs :: r)) w) : Sat E (stars (stM a n c Rs :: r)) w :=
  Sat.topk (F := fun bs : List Nat => [pur (bs.length = n ∧ Rs.length = n), own 147 1 (.slice a n c) n (mapsV bs), tabs bs Rs]) bs (s.topur ⟨h1, h2⟩)
theorem mapsV_length (bs : List Nat) : (mapsV bs).length = bs.length := by simp [mapsV]
theorem mapsV_at {bs : List Nat} {i b : Nat} (h : bs[i]? = some b) : (mapsV bs)[i]? = some (.map (some b)) := by simp [mapsV, h]
/-- One table taken out of a state. -/
theorem Fc.stAt {P : Program} {f : FuncId} {args : Array Value} {RR : Value → List HProp → Prop} {a : Option Addr} {n c i : Nat} {Rs : List (List Rw)} (hi : i < n)
    (h : ∀ bs b R m, bs.length = n → Rs.length = n → bs[i]? = some b → Rs[i]? = some R → m.Perm R → Fc P E f args (own 147 1 (.slice a n c) n (mapsV bs) :: mapA Value.string (fun _ => True) b (kvT m) :: tabs (bs.eraseIdx i) (Rs.eraseIdx i) :: r) RR) : Fc P E f args (stM a n c Rs :: r) RR := fun w hs => by
  obtain ⟨bs, h1, h2, s⟩ := stM_open hs
  have hb : bs[i]? = some (bs[i]'(by omega)) := List.getElem?_eq_getElem _
  have hR : Rs[i]? = some (Rs[i]'(by omega)) := List.getElem?_eq_getElem _
  have s1 := tabs_take hb hR (Sat.pick s (Pick.tail Pick.head))
  obtain ⟨m, hm, s2⟩ := tabA_open s1
  refine h bs _ _ m h1 h2 hb hR hm w ?_
  exact s2.sup (by (repeat (first | exact Sup.refl | apply Sup.cons (by (repeat (first | exact Pick.head | apply Pick.tail | apply Pick.app))) | apply Sup.app | apply Sup.skip | apply Sup.skips)))
/-- … and put back. -/
theorem st_back {a : Option Addr} {n c i b : Nat} {Rs : List (List Rw)} {R m : List Rw} {bs : List Nat} (h1 : bs.length = n) (h2 : Rs.length = n) (hb : bs[i]? = some b) (hi : i < n) (hm : m.Perm R)
    (s : Sat E (stars (mapA Value.string (fun _ => True) b (kvT m) :: own 147 1 (.slice a n c) n (mapsV bs) :: tabs (bs.eraseIdx i) (Rs.eraseIdx i) :: r)) w) : Sat E (stars (stM a n c (Rs.set i R) :: r)) w := by
  have s1 := tabA_shut hm s
  have s2 := tabs_put hb (by omega) (Sat.sup (p := tabA b R :: tabs (bs.eraseIdx i) (Rs.eraseIdx i) :: own 147 1 (.slice a n c) n (mapsV bs) :: r) s1 (by (repeat (first | exact Sup.refl | apply Sup.cons (by (repeat (first | exact Pick.head | apply Pick.tail | apply Pick.app))) | apply Sup.app | apply Sup.skip | apply Sup.skips))))
  exact stM_shut h1 (by rw [List.length_set]; exact h2) (Sat.pick s2 (Pick.tail Pick.head))
theorem tset_at {bs : List Nat} {j n b : Nat} (hb : bs.length = j) (hj : j < n) : (mapsV bs ++ List.replicate (n - j) (Value.map none)).set (0 + (j : Int).toNat * i147.size) (.map (some b)) = mapsV (bs ++ [b]) ++ List.replicate (n - (j + 1)) (Value.map none) := by
  rw [show 0 + (j : Int).toNat * i147.size = (mapsV bs).length + 0 by rw [mapsV_length]; simp [i147, hb], List.set_append_right _ _ (by omega), show n - j = (n - (j + 1)) + 1 by omega, List.replicate_succ]
  simp [mapsV]
theorem JL.tabA {P : Program} {ρ : Option Nat} {k : Nat} {ds : List Deferred} {ops : Array Oper} {rest : List Oper} {Q : Exit → Act → World → Prop} {env : Fr} {b : Nat} {R : List Rw}
    (h : ∀ m, m.Perm R → JL P E ρ k ds ops Q rest env (mapA Value.string (fun _ => True) b (kvT m) :: r)) : JL P E ρ k ds ops Q rest env (Go.Proofs.YtaopifoidbdniaaGreat.tabA b R :: r) :=
  JL.pks fun m => JL.fact (fun w s => (Sat.ofpur s).1) fun hm => JL.pre (fun w s => (Sat.ofpur s).2) (h m hm)
theorem set_same {α : Type} {l : List α} {i : Nat} {x : α} (h : l[i]? = some x) : l.set i x = l := WideElems.set_self _ _ _ h
end
section
attribute [local irreducible] J JL JE JM LS Y Fc RV Code.wp wpList Code.wpIn wpListIn
attribute [local irreducible] Yc
variable (E : World)
theorem tempty_spec (n : Nat) (hn : n ≤ 1000000) (l : List HProp) :
    Fc prog E 114 [.int .i64 (n : Int)].toArray l (fun v l' => ∃ a c, v = .slice a n c ∧ l' = stM a n c (List.replicate n []) :: l) := by
  refine Fc.post ?_
  refine Fc.of_body (c := ?codeC) Tryz.func114 ?hb Tryz.ntmps114 ?hl ?_
  case hb => exact rfl
  case hl => exact rfl
  refine J.seq ?_
  refine J.region ?_
  refine JL.step (y_assign rfl) rfl rfl rfl ?_
  refine JL.nil ?_
  refine JE.then_normal ?_
  refine J.seq ?_
  refine J.region ?_
  refine JL.step (y_move rfl) rfl rfl rfl ?_
  refine JL.loud rfl (l_makeSlice hT rfl rfl rfl rfl rfl rfl (by omega) (by omega) (mk_fits rfl (by omega) (by omega)) (by omega) rfl (fun bk => ?_))
  have hmk : (madeCells (Value.map none).cells ((n : Int).toNat * i147.size)).toList = List.replicate n (Value.map none) := by
    rw [show (Value.map none).cells = (List.replicate 1 (Value.map none)).toArray from rfl, madeCells_rep _ (by omega)]
    simp [i147]
  refine JL.pre (l' := row bk 147 (List.replicate n (Value.map none)) :: _) (fun w s => by rw [← hmk]; exact s) ?_
  refine JL.step (y_assign rfl) rfl rfl rfl ?_
  refine JL.nil ?_
  refine JE.then_normal ?_
  refine J.seq ?_
  refine J.seq ?_
  refine J.region ?_
  refine JL.step (y_move rfl) rfl rfl rfl (JL.step (y_len_slice hT rfl rfl rfl) rfl rfl rfl (JL.step (y_move rfl) rfl rfl rfl ?_))
  refine JL.nil ?_
  refine JE.then_normal ?_
  refine J.block ?_
  refine J.loop (α := Nat × List Nat) (fun s => s.1 ≤ n ∧ s.2.length = s.1) (fun s => [(3, .slice (some ⟨bk, 0, none⟩) n n), (7, .slice (some ⟨bk, 0, none⟩) n n), (8, .int .i64 n), (9, .int .i64 s.1)]) (fun s => row bk 147 (mapsV s.2 ++ List.replicate (n - s.1) (Value.map none)) :: tabs s.2 (List.replicate s.1 []) :: l) (fun s => n - s.1) (0, []) ⟨by omega, rfl⟩ ⟨rfl, rfl, rfl, rfl, trivial⟩ (fun w h => Sat.pick (tabs_nil h) (Pick.tail Pick.head)) ?_
  rintro ⟨j, bs⟩ ⟨hj, hbs⟩
  dsimp only at hj hbs ⊢
  refine J.seq ?_
  refine J.region ?_
  refine JL.step (y_lss rfl rfl) rfl rfl rfl ?_
  refine JL.nil ?_
  refine JE.then_normal ?_
  refine J.seq ?_
  first | apply J.cond_dec rfl | apply J.cond rfl
  case' ht =>
    intro h
    try (first | (exfalso; omega) | (cases h; done) | (exfalso; simp at h; done) | subst h)
    all_goals
      refine J.skip ?_
  case' hf =>
    intro h
    try (first | (exfalso; omega) | (cases h; done) | (exfalso; simp at h; done) | subst h)
    all_goals
      refine J.exit ?_
      refine JE.then_exit ?_
      refine JE.then_exit ?_
      refine JE.block_exit ?_
      refine JE.then_normal ?_
      refine J.seq ?_
      refine J.region ?_
      refine JL.step (y_move rfl) rfl rfl rfl (JL.step (y_assign rfl) rfl rfl rfl ?_)
      refine JL.nil ?_
      refine JE.then_normal ?_
      refine J.ret ?_
      refine JE.ret1 (.inl rfl) rfl rfl (by (first | exact RV.tmp rfl | exact RV.cell1 hT rfl rfl rfl (by (exact Rd1.row (by (repeat (first | exact Pick.head | apply Pick.tail | apply Pick.app))) (by rfl))) | exact RV.cellN hT rfl rfl rfl (by (first | exact RdN.rowAll (by (repeat (first | exact Pick.head | apply Pick.tail | apply Pick.app))) | exact RdN.own (by (repeat (first | exact Pick.head | apply Pick.tail | apply Pick.app))))) (by (first | rfl | assumption | (simp; done) | omega)))) ?_
      obtain rfl : j = n := by omega
      refine ⟨_, fun w q => ?_, _, _, rfl, rfl⟩
      rw [Nat.sub_self, List.replicate_zero, List.append_nil] at q
      have q1 := q.ownAll (m := j) (size := 1) (by unfold maxLen; omega) (by rw [mapsV_length]; omega)
      exact stM_shut hbs List.length_replicate q1
  all_goals refine JE.then_normal ?_
  all_goals
    refine J.seq ?_
    refine J.block ?_
    refine J.seq ?_
    refine J.region ?_
    refine JL.step (y_move rfl) rfl rfl rfl (JL.step (y_assign rfl) rfl rfl rfl ?_)
    refine JL.nil ?_
    refine JE.then_normal ?_
    refine J.region ?_
    have hlt : j < n := by omega
    refine JL.step (y_move rfl) rfl rfl rfl (JL.step (y_move rfl) rfl rfl rfl ?_)
    refine JL.loud rfl (l_makeMap rfl (fun b1 => ?_))
    refine JL.step (y_indexAddr_slice hT rfl rfl rfl rfl rfl (by (first | omega | exact Nat.le_of_ble_eq_true rfl | decide | (simp; omega))) (by (first | omega | exact Nat.le_of_ble_eq_true rfl | decide | (simp; omega)))) rfl rfl rfl ?_
    refine JL.loud rfl (l_store1 hT rfl rfl rfl rfl rfl (by (repeat (first | exact Pick.head | apply Pick.tail | apply Pick.app))) (by rw [List.length_append, mapsV_length, List.length_replicate, show i147.size = 1 from rfl]; omega) ?_)
    refine JL.nil ?_
    refine JE.block_normal ?_
    refine JE.then_normal ?_
    refine J.region ?_
    refine JL.step (y_add rfl rfl (by (first | exact wrap_i64 (by omega) (by omega) | rfl))) rfl rfl rfl ?_
    refine JL.step (y_move rfl) rfl rfl rfl ?_
    refine JL.nil ?_
  all_goals
    refine JE.round (s := (j, bs)) (j + 1, bs ++ [b1]) ⟨by dsimp only; omega, by simp [hbs]⟩ ⟨rfl, rfl, rfl, rfl, trivial⟩ (fun w q => ?_) (by dsimp only; omega)
    have q1 := tabA_shut (m := []) (R := []) (List.Perm.refl _) (Sat.map_new (ok := fun _ => True) (enc := Value.string) (q.pick (r := row bk _ _ :: tabs bs (List.replicate j []) :: l) (by (repeat (first | exact Pick.head | apply Pick.tail | apply Pick.app)))))
    have q2 := tabs_push (by rw [hbs, List.length_replicate]) (q1.sup (p := tabA b1 [] :: tabs bs (List.replicate j []) :: row bk _ _ :: l) (by (repeat (first | exact Sup.refl | apply Sup.cons (by (repeat (first | exact Pick.head | apply Pick.tail | apply Pick.app))) | apply Sup.app | apply Sup.skip | apply Sup.skips))))
    dsimp only
    rw [← tset_at hbs hlt, List.replicate_succ']
    exact q2.sup (by (repeat (first | exact Sup.refl | apply Sup.cons (by (repeat (first | exact Pick.head | apply Pick.tail | apply Pick.app))) | apply Sup.app | apply Sup.skip | apply Sup.skips)))
theorem mclone_spec (b : Nat) (m : List Rw) (l : List HProp) :
    Fc prog E 72 [.map (some b)].toArray (mapA Value.string (fun _ => True) b (kvT m) :: l) (fun v l' => ∃ c, v = .map (some c) ∧ l' = mapA Value.string (fun _ => True) c (kvT m) :: mapA Value.string (fun _ => True) b (kvT m) :: l) := by
  refine Fc.post ?_
  refine Fc.of_body (c := ?codeC) Tryz.func72 ?hb Tryz.ntmps72 ?hl ?_
  case hb => exact rfl
  case hl => exact rfl
  refine J.seq ?_
  refine J.region ?_
  refine JL.step (y_assign rfl) rfl rfl rfl ?_
  refine JL.nil ?_
  refine JE.then_normal ?_
  refine J.seq ?_
  refine J.seq ?_
  refine J.region ?_
  refine JL.step (y_move rfl) rfl rfl rfl ?_
  refine JL.step (y_map_eqNil hT rfl rfl rfl rfl) rfl rfl rfl ?_
  refine JL.nil ?_
  refine JE.then_normal ?_
  refine J.cond_f rfl (by (first | rfl | assumption | (simp; done) | (simp; omega))) ?_
  refine J.skip ?_
  refine JE.then_normal ?_
  refine J.seq ?_
  refine J.region ?_
  refine JL.step (y_move rfl) rfl rfl rfl ?_
  refine JL.step (y_iface_map hT rfl rfl rfl) rfl rfl rfl ?_
  refine JL.loud rfl (l_mapsClone Tryz.func123 (by kernel_rfl) (by kernel_rfl) (by kernel_rfl) (by kernel_rfl) rfl (by (repeat (first | exact Pick.head | apply Pick.tail | apply Pick.app))) rfl (fun c => ?_))
  refine JL.step (y_assert_map hT rfl rfl rfl) rfl rfl rfl ?_
  refine JL.step (y_assign rfl) rfl rfl rfl ?_
  refine JL.nil ?_
  refine JE.then_normal ?_
  refine J.ret ?_
  refine JE.ret1 (.inl rfl) rfl rfl (by (first | exact RV.tmp rfl | exact RV.cell1 hT rfl rfl rfl (by (exact Rd1.row (by (repeat (first | exact Pick.head | apply Pick.tail | apply Pick.app))) (by rfl))) | exact RV.cellN hT rfl rfl rfl (by (first | exact RdN.rowAll (by (repeat (first | exact Pick.head | apply Pick.tail | apply Pick.app))) | exact RdN.own (by (repeat (first | exact Pick.head | apply Pick.tail | apply Pick.app))))) (by (first | rfl | assumption | (simp; done) | omega)))) ?_
  exact ⟨_, fun w q => q, c, rfl, rfl⟩
/-- A copy of tables. -/
theorem copied_spec (a : Option Addr) (n c : Nat) (hn : n ≤ 1000000) (Rs : List (List Rw)) (l : List HProp) :
    Fc prog E 69 [.slice a n c].toArray (stM a n c Rs :: l) (fun v l' => ∃ a' c', v = .slice a' n c' ∧ l' = stM a' n c' Rs :: stM a n c Rs :: l) := by
  refine Fc.post ?_
  refine Fc.imp (l' := pk (fun bs : List Nat => [pur (bs.length = n ∧ Rs.length = n), own 147 1 (.slice a n c) n (mapsV bs), tabs bs Rs]) :: l) (Fc.pks fun bs => ?_) (fun w s => s)
  refine Fc.fact (fun w s => (Sat.ofpur s).1) fun ⟨hbn, hRn⟩ => Fc.imp (l' := own 147 1 (.slice a n c) n (mapsV bs) :: tabs bs Rs :: l) ?_ (fun w s => (Sat.ofpur s).2)
  refine Fc.of_body (c := ?codeC) Tryz.func69 ?hb Tryz.ntmps69 ?hl ?_
  case hb => exact rfl
  case hl => exact rfl
  refine J.seq ?_
  refine J.region ?_
  refine JL.step (y_assign rfl) rfl rfl rfl ?_
  refine JL.nil ?_
  refine JE.then_normal ?_
  refine J.seq ?_
  refine J.region ?_
  refine JL.step (y_move rfl) rfl rfl rfl (JL.step (y_len_slice hT rfl rfl rfl) rfl rfl rfl ?_)
  refine JL.loud rfl (l_makeSlice hT rfl rfl rfl rfl rfl rfl (by omega) (by omega) (mk_fits rfl (by omega) (by omega)) (by omega) rfl (fun bk => ?_))
  have hmk : (madeCells (Value.map none).cells ((n : Int).toNat * i147.size)).toList = List.replicate n (Value.map none) := by
    rw [show (Value.map none).cells = (List.replicate 1 (Value.map none)).toArray from rfl, madeCells_rep _ (by omega)]
    simp [i147]
  refine JL.pre (l' := row bk 147 (List.replicate n (Value.map none)) :: _) (fun w s => by rw [← hmk]; exact s) ?_
  refine JL.step (y_assign rfl) rfl rfl rfl ?_
  refine JL.nil ?_
  refine JE.then_normal ?_
  refine J.seq ?_
  refine J.seq ?_
  refine J.region ?_
  refine JL.step (y_move rfl) rfl rfl rfl (JL.step (y_len_slice hT rfl rfl rfl) rfl rfl rfl (JL.step (y_move rfl) rfl rfl rfl ?_))
  refine JL.nil ?_
  refine JE.then_normal ?_
  refine J.block ?_
  refine J.fact (p := OwnAt a n c (mapsV bs)) (fun w s => Sat.own_at (s.pick (Pick.tail Pick.head))) fun op => ?_
  refine J.loop (α := Nat × List Nat) (fun s => s.1 ≤ n ∧ s.2.length = s.1) (fun s => [(3, .slice (some ⟨bk, 0, none⟩) n n), (9, .slice a n c), (10, .int .i64 n), (11, .int .i64 s.1)]) (fun s => row bk 147 (mapsV s.2 ++ List.replicate (n - s.1) (Value.map none)) :: tabs s.2 (Rs.take s.1) :: own 147 1 (.slice a n c) n (mapsV bs) :: tabs bs Rs :: l) (fun s => n - s.1) (0, []) ⟨by omega, rfl⟩ ⟨rfl, rfl, rfl, rfl, trivial⟩ (fun w h => Sat.pick (tabs_nil h) (Pick.tail Pick.head)) ?_
  rintro ⟨j, cs⟩ ⟨hj, hcs⟩
  dsimp only at hj hcs ⊢
  refine J.seq ?_
  refine J.region ?_
  refine JL.step (y_lss rfl rfl) rfl rfl rfl ?_
  refine JL.nil ?_
  refine JE.then_normal ?_
  refine J.seq ?_
  first | apply J.cond_dec rfl | apply J.cond rfl
  case' ht =>
    intro h
    try (first | (exfalso; omega) | (cases h; done) | (exfalso; simp at h; done) | subst h)
    all_goals
      refine J.skip ?_
  case' hf =>
    intro h
    try (first | (exfalso; omega) | (cases h; done) | (exfalso; simp at h; done) | subst h)
    all_goals
      refine J.exit ?_
      refine JE.then_exit ?_
      refine JE.then_exit ?_
      refine JE.block_exit ?_
      refine JE.then_normal ?_
      refine J.seq ?_
      refine J.region ?_
      refine JL.step (y_move rfl) rfl rfl rfl (JL.step (y_assign rfl) rfl rfl rfl ?_)
      refine JL.nil ?_
      refine JE.then_normal ?_
      refine J.ret ?_
      refine JE.ret1 (.inl rfl) rfl rfl (by (first | exact RV.tmp rfl | exact RV.cell1 hT rfl rfl rfl (by (exact Rd1.row (by (repeat (first | exact Pick.head | apply Pick.tail | apply Pick.app))) (by rfl))) | exact RV.cellN hT rfl rfl rfl (by (first | exact RdN.rowAll (by (repeat (first | exact Pick.head | apply Pick.tail | apply Pick.app))) | exact RdN.own (by (repeat (first | exact Pick.head | apply Pick.tail | apply Pick.app))))) (by (first | rfl | assumption | (simp; done) | omega)))) ?_
      obtain rfl : j = n := by omega
      refine ⟨_, fun w q => ?_, _, _, rfl, rfl⟩
      rw [Nat.sub_self, List.replicate_zero, List.append_nil, List.take_of_length_le (by omega)] at q
      have q1 := q.ownAll (m := j) (size := 1) (by unfold maxLen; omega) (by rw [mapsV_length]; omega)
      have q2 := stM_shut hcs hRn q1
      exact Sat.pick (stM_shut (r := stM (some ⟨bk, 0, none⟩) j j Rs :: l) hbn hRn (q2.sup (by (repeat (first | exact Sup.refl | apply Sup.cons (by (repeat (first | exact Pick.head | apply Pick.tail | apply Pick.app))) | apply Sup.app | apply Sup.skip | apply Sup.skips))))) (Pick.tail Pick.head)
  all_goals refine JE.then_normal ?_
  all_goals
    refine J.seq ?_
    refine J.block ?_
    refine J.seq ?_
    refine J.region ?_
    have hlt : j < n := by omega
    obtain ⟨b, hb⟩ : ∃ b, bs[j]? = some b := ⟨_, List.getElem?_eq_getElem (by omega)⟩
    obtain ⟨R, hR⟩ : ∃ R, Rs[j]? = some R := ⟨_, List.getElem?_eq_getElem (by omega)⟩
    have hkj := mapsV_at hb
    obtain ⟨ga, rfl⟩ := op.at_.resolve_right fun ⟨h0, _⟩ => by have := op.le; omega
    refine JL.step (y_move rfl) rfl rfl rfl ?_
    refine JL.step (y_indexAddr_slice hT rfl rfl rfl rfl rfl (by (first | omega | exact Nat.le_of_ble_eq_true rfl | decide | (simp; omega))) (by (first | omega | exact Nat.le_of_ble_eq_true rfl | decide | (simp; omega)))) rfl rfl rfl ?_
    refine JL.step (y_load1 hT rfl rfl rfl (Rd1.elem (RdN.own (by (repeat (first | exact Pick.head | apply Pick.tail | apply Pick.app)))) hkj)) rfl rfl rfl ?_
    refine JL.step (y_assign rfl) rfl rfl rfl (JL.step (y_assign rfl) rfl rfl rfl ?_)
    refine JL.nil ?_
    refine JE.then_normal ?_
    refine J.region ?_
    refine JL.pre (l' := tabA b R :: tabs (bs.eraseIdx j) (Rs.eraseIdx j) :: row bk 147 (mapsV cs ++ List.replicate (n - j) (Value.map none)) :: tabs cs (Rs.take j) :: own 147 1 (.slice (some ⟨ga, 0, none⟩) n c) n (mapsV bs) :: l) (fun w s => tabs_take hb hR (Sat.pick s (by (repeat (first | exact Pick.head | apply Pick.tail | apply Pick.app))))) (JL.tabA fun m hm => ?_)
    refine JL.step (y_move rfl) rfl rfl rfl (JL.step (y_move rfl) rfl rfl rfl (JL.step (y_move rfl) rfl rfl rfl ?_))
    refine JL.loud rfl (l_callF e72 rfl rfl (Fc.on (Split.cons (by (repeat (first | exact Pick.head | apply Pick.tail | apply Pick.app))) Split.nil) (mclone_spec E b m _)) ?_)
    rintro _ _ ⟨cb, rfl, rfl⟩
    refine JL.step (y_indexAddr_slice hT rfl rfl rfl rfl rfl (by (first | omega | exact Nat.le_of_ble_eq_true rfl | decide | (simp; omega))) (by (first | omega | exact Nat.le_of_ble_eq_true rfl | decide | (simp; omega)))) rfl rfl rfl ?_
    refine JL.loud rfl (l_store1 hT rfl rfl rfl rfl rfl (by (repeat (first | exact Pick.head | apply Pick.tail | apply Pick.app))) (by rw [List.length_append, mapsV_length, List.length_replicate, show i147.size = 1 from rfl]; omega) ?_)
    refine JL.nil ?_
    refine JE.block_normal ?_
    refine JE.then_normal ?_
    refine J.region ?_
    refine JL.step (y_add rfl rfl (by (first | exact wrap_i64 (by omega) (by omega) | rfl))) rfl rfl rfl ?_
    refine JL.step (y_move rfl) rfl rfl rfl ?_
    refine JL.nil ?_
  all_goals
    refine JE.round (s := (j, cs)) (j + 1, cs ++ [cb]) ⟨by dsimp only; omega, by simp [hcs]⟩ ⟨rfl, rfl, rfl, rfl, trivial⟩ (fun w q => ?_) (by dsimp only; omega)
    have q1 := tabA_shut hm (Sat.pick (A := mapA Value.string (fun _ => True) cb (kvT m)) q (by (repeat (first | exact Pick.head | apply Pick.tail | apply Pick.app))))
    have q2 := tabs_push (bs := cs) (Rs := Rs.take j) (by rw [hcs, List.length_take]; omega) (Sat.sup (p := tabA cb R :: tabs cs (Rs.take j) :: mapA Value.string (fun _ => True) b (kvT m) :: row bk 147 _ :: tabs (bs.eraseIdx j) (Rs.eraseIdx j) :: own 147 1 (.slice (some ⟨ga, 0, none⟩) n c) n (mapsV bs) :: l) q1 (by (repeat (first | exact Sup.refl | apply Sup.cons (by (repeat (first | exact Pick.head | apply Pick.tail | apply Pick.app))) | apply Sup.app | apply Sup.skip | apply Sup.skips))))
    have q3 := tabA_shut hm (q2.pick (by (repeat (first | exact Pick.head | apply Pick.tail | apply Pick.app))))
    have q4 := tabs_put hb (by omega) (Sat.sup (p := tabA b R :: tabs (bs.eraseIdx j) (Rs.eraseIdx j) :: tabs (cs ++ [cb]) (Rs.take j ++ [R]) :: row bk 147 _ :: own 147 1 (.slice (some ⟨ga, 0, none⟩) n c) n (mapsV bs) :: l) q3 (by (repeat (first | exact Sup.refl | apply Sup.cons (by (repeat (first | exact Pick.head | apply Pick.tail | apply Pick.app))) | apply Sup.app | apply Sup.skip | apply Sup.skips))))
    rw [set_same hR] at q4
    dsimp only
    rw [← tset_at hcs hlt, List.take_add_one, hR, Option.toList_some]
    exact q4.sup (by (repeat (first | exact Sup.refl | apply Sup.cons (by (repeat (first | exact Pick.head | apply Pick.tail | apply Pick.app))) | apply Sup.app | apply Sup.skip | apply Sup.skips)))
end
end Go.Proofs.YtaopifoidbdniaaGreat
/- A map's keys in order (by hand; gen_sort.py prints it no more). -/
namespace Go.Proofs.YtaopifoidbdniaaGreat
open Go Go.SL
section
attribute [local irreducible] J JL JE JM LS Y Fc RV Code.wp wpList Code.wpIn wpListIn
attribute [local irreducible] Yc ltS
variable (E : World)
end
end Go.Proofs.YtaopifoidbdniaaGreat
