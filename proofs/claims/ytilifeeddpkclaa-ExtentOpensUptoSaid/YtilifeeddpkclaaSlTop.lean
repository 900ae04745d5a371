import Derived.Test.YtilifeeddpkclaaSlEq
import Derived.ProofKit
import Derived.Deep.Slices
namespace Go.SL
open Go Go.RowKit Go.ChangeShapes Go.WideShapes

section
variable {H : Type} (enc : TypeId × Value → H) (P : Program)
/-- What reads, in the world of the call, as a datum of a kind that its parts inherit. -/
def Tr (ok : DataW H → Prop) (w : World) (t : TypeId) (cs : List Value) : Prop := ∃ fuel x, DataW.trod enc P w 0 (fun _ => true) true fuel t cs = some x ∧ ok x.1
end
structure Her {H : Type} (ok : DataW H → Prop) (L : Nat → Prop) : Prop where
  slice : ∀ es sp, ok (.slice es sp) → L es.length ∧ ∀ d ∈ es ++ sp, ok d
  nil : L 0
  agg : ∀ ps, ok (.agg ps) → ∀ d ∈ ps, ok d
  str : ∀ bs, ok (.lit (.string bs)) → L bs.length
theorem Her.all {H : Type} : Her (fun _ : DataW H => True) (fun _ => True) := ⟨fun _ _ _ => ⟨trivial, fun _ _ => trivial⟩, trivial, fun _ _ _ _ => trivial, fun _ _ => trivial⟩
/-- A slice in a world: n values whose cells are these. -/
structure InW (w : World) (p : Option Addr) (n cap : Nat) (cs : List Value) : Prop where
  le : n ≤ cap
  most : cap ≤ maxLen
  rd : (∃ b o, p = some ⟨b, o, none⟩ ∧ ∀ j v, cs[j]? = some v → w.cell? ⟨b, o + j, none⟩ = some v) ∨ (cap = 0 ∧ cs = [])
theorem InW.inl {w : World} {p : Option Addr} {n cap : Nat} {cs : List Value} (h : InW w p n cap cs) (l : List HProp) : InL (old w :: l) p n cap cs := InL.old h.le h.most h.rd

section
variable {H : Type} {enc : TypeId × Value → H} {P : Program} {w : World} {t e : TypeId} {ok : DataW H → Prop} {L : Nat → Prop}
theorem Tr.int {k : IntKind} {cs : List Value} (ht : P.underlying t = some (.int k)) (h : Tr enc P ok w t cs) : ∃ n, cs = [.int k n] ∧ k.min ≤ n ∧ n ≤ k.max := by
  obtain ⟨fuel, x, h, _⟩ := h
  obtain ⟨n, h1, _, h3⟩ := DataW.trod_int ht h
  simp only [Lit.wf, Bool.and_eq_true, decide_eq_true_eq] at h3
  exact ⟨n, h1, h3⟩
theorem Tr.bool {cs : List Value} (ht : P.underlying t = some .bool) (h : Tr enc P ok w t cs) : ∃ b, cs = [.bool b] := by
  obtain ⟨fuel, x, h, _⟩ := h
  obtain ⟨b, h1, _⟩ := DataW.trod_bool ht h
  exact ⟨b, h1⟩
theorem Tr.string {cs : List Value} (her : Her ok L) (ht : P.underlying t = some .string) (h : Tr enc P ok w t cs) : ∃ s : ByteArray, cs = [.string s] ∧ s.size ≤ maxLen ∧ L s.size := by
  obtain ⟨fuel, x, h, hok⟩ := h
  obtain ⟨s, h1, rfl, h3⟩ := DataW.trod_string ht h
  exact ⟨s, h1, h3, by simpa using her.str _ hok⟩
theorem flatMap_one {α β : Type} (f : α → β) : ∀ xs : List α, xs.flatMap (fun x => [f x]) = xs.map f
  | [] => rfl
  | x :: r => by rw [List.flatMap_cons, flatMap_one f r]; rfl
theorem mapM_each {α β : Type} {f : α → Option β} : ∀ {l : List α} {r : List β}, l.mapM f = some r → ∀ x ∈ l, ∃ y ∈ r, f x = some y
  | [], _, _, x, hx => by cases hx
  | a :: l, r, h, x, hx => by
    simp only [List.mapM_cons, Option.bind_eq_bind, Option.bind_eq_some_iff] at h
    obtain ⟨y, h1, ys, h2, h3⟩ := h
    cases h3
    rcases List.mem_cons.1 hx with rfl | hx
    · exact ⟨y, by simp, h1⟩
    · obtain ⟨z, z1, z2⟩ := mapM_each h2 x hx
      exact ⟨z, by simp [z1], z2⟩
/-- A struct's fields read. -/
theorem Tr.struct {fs : Array Field} {cs : List Value} (her : Her ok L) (ht : P.underlying t = some (.struct fs)) (h : Tr enc P ok w t cs) :
    cs.length = P.cellsOf t ∧ ∀ (i : Nat) f, fs.toList[i]? = some f → Tr enc P ok w f.type ((cs.drop f.offset).take (P.cellsOf f.type)) := by
  obtain ⟨fuel, x, h, hok⟩ := h
  cases fuel with
  | zero => simp [DataW.trod] at h
  | succ n =>
    simp only [DataW.trod, ht] at h
    split at h
    · rename_i hl
      refine ⟨hl, fun i f hfi => ?_⟩
      have hf := List.mem_of_getElem? hfi
      obtain ⟨xs, h1, rfl⟩ := Option.map_eq_some_iff.1 h
      obtain ⟨y, hm, hy⟩ := mapM_each h1 f hf
      exact ⟨n, y, hy, her.agg _ hok _ (List.mem_map.2 ⟨y, hm, rfl⟩)⟩
    · simp at h
/-- An array's elements read. -/
theorem Tr.array {m : Nat} {cs : List Value} (her : Her ok L) (ht : P.underlying t = some (.array m e)) (h : Tr enc P ok w t cs) :
    cs.length = P.cellsOf t ∧ ∀ i, i < m → Tr enc P ok w e ((cs.drop (i * P.cellsOf e)).take (P.cellsOf e)) := by
  obtain ⟨fuel, x, h, hok⟩ := h
  cases fuel with
  | zero => simp [DataW.trod] at h
  | succ n =>
    simp only [DataW.trod, ht] at h
    split at h
    · rename_i hl
      refine ⟨hl, fun i hi => ?_⟩
      obtain ⟨xs, h1, rfl⟩ := Option.map_eq_some_iff.1 h
      obtain ⟨y, hm, hy⟩ := mapM_each h1 i (by simpa using hi)
      exact ⟨n, y, hy, her.agg _ hok _ (List.mem_map.2 ⟨y, hm, rfl⟩)⟩
    · simp at h
theorem cells?_get {base n : Nat} {a : Addr} {cs : List Value} (h : w.cells? base a n = some cs) : cs.length = n ∧ ∀ i v, cs[i]? = some v → w.cell? (a.add i) = some v := by
  unfold World.cells? at h
  split at h
  · have key : ∀ (l : List Nat) (cs : List Value), l.mapM (fun i => w.cell? (a.add i)) = some cs → cs.length = l.length ∧ ∀ (i : Nat) v, cs[i]? = some v → ∃ k, l[i]? = some k ∧ w.cell? (a.add k) = some v := by
      intro l
      induction l with
      | nil => intro cs h; simp at h; subst h; simp
      | cons x l ih =>
        intro cs h
        simp only [List.mapM_cons, Option.bind_eq_bind, Option.bind_eq_some_iff] at h
        obtain ⟨y, h1, ys, h2, h3⟩ := h
        cases h3
        obtain ⟨i1, i2⟩ := ih ys h2
        refine ⟨by simp [i1], fun i v hi => ?_⟩
        cases i with
        | zero => simp at hi; subst hi; exact ⟨x, rfl, h1⟩
        | succ i => exact i2 i v (by simpa using hi)
    obtain ⟨k1, k2⟩ := key _ _ h
    refine ⟨by simpa using k1, fun i v hi => ?_⟩
    obtain ⟨k, h1, h2⟩ := k2 i v hi
    obtain ⟨_, rfl⟩ := List.getElem?_eq_some_iff.1 h1
    simpa using h2
  · simp at h
/-- A slice whose elements each read as a datum. -/
theorem Tr.slice {α : Type} {encA : α → List Value} {okA : α → Prop} {k : Nat} {v : Value} (her : Her ok L) (ht : P.underlying t = some (.slice e)) (hc : P.cellsOf e = k) (hk : 0 < k)
    (hl : ∀ a, okA a → (encA a).length = k) (he : ∀ cs, Tr enc P ok w e cs → ∃ a, cs = encA a ∧ okA a) (h : Tr enc P ok w t [v]) :
    ∃ (p : Option Addr) (cap : Nat) (xs : List α), v = .slice p xs.length cap ∧ L xs.length ∧ (∀ a ∈ xs, okA a) ∧ InW w p xs.length cap (xs.flatMap encA) := by
  obtain ⟨fuel, x, h, hok⟩ := h
  rcases Go.Deep.open_slice ht h with ⟨h0, _⟩ | ⟨a, len, cap, m, n, D, Pl, h0, _, h1, h2, h3, hx, h4⟩
  · cases h0
    exact ⟨none, 0, [], rfl, her.nil, fun a ha => by (cases ha), Nat.le_refl _, Nat.zero_le _, .inr ⟨rfl, rfl⟩⟩
  · simp only [if_true] at h3
    subst h3
    rw [hc] at h4
    subst hx
    obtain ⟨hL, hD⟩ := her.slice _ _ hok
    have hD' : ∀ i, i < m → ok (D i) := fun i hi => by
      rcases Nat.lt_or_ge i len with hil | hil
      · exact hD _ (List.mem_append_left _ (List.mem_map.2 ⟨i, by simpa using hil, rfl⟩))
      · exact hD _ (List.mem_append_right _ (List.mem_map.2 ⟨i - len, by simp; omega, by rw [show len + (i - len) = i by omega]⟩))
    have hex : ∀ i, i < m → ∃ a', okA a' ∧ w.cells? 0 (a.add (i * k)) k = some (encA a') := fun i hi => by
      obtain ⟨cs', c1, c2⟩ := h4 i hi
      obtain ⟨a', rfl, ha'⟩ := he cs' ⟨n, _, c2, hD' i hi⟩
      exact ⟨a', ha', c1⟩
    have build : ∀ q, q ≤ m → ∃ xs : List α, xs.length = q ∧ (∀ a ∈ xs, okA a) ∧ ∀ i x, xs[i]? = some x → w.cells? 0 (a.add (i * k)) k = some (encA x) := by
      intro q
      induction q with
      | zero => exact fun _ => ⟨[], rfl, fun a ha => by (cases ha), fun i x hx => by (simp at hx)⟩
      | succ q ih =>
        intro hq
        obtain ⟨xs, x1, x2, x3⟩ := ih (by omega)
        obtain ⟨y, y1, y2⟩ := hex q (by omega)
        refine ⟨xs ++ [y], by simp [x1], fun a ha => ?_, fun i x hx => ?_⟩
        · rcases List.mem_append.1 ha with ha | ha
          · exact x2 a ha
          · simp at ha; subst ha; exact y1
        · rcases Nat.lt_or_ge i q with hi | hi
          · rw [List.getElem?_append_left (by omega)] at hx; exact x3 i x hx
          · rw [List.getElem?_append_right (by omega)] at hx
            have hiq : i - xs.length = 0 := by
              rcases Nat.eq_zero_or_pos (i - xs.length) with h | h
              · exact h
              · rw [List.getElem?_eq_none (by simp; omega)] at hx; cases hx
            have : i = q := by omega
            subst this
            rw [hiq] at hx
            simp at hx
            subst hx
            exact y2
    obtain ⟨xs, x1, x2, x3⟩ := build len h1
    cases h0
    refine ⟨some a, m, xs, by rw [x1], by rw [x1]; simpa using hL, x2, by omega, h2, ?_⟩
    rcases Nat.eq_zero_or_pos m with hm | hm
    · right
      refine ⟨hm, ?_⟩
      have : xs = [] := List.eq_nil_of_length_eq_zero (by omega)
      rw [this]; rfl
    · left
      obtain ⟨y, y1, y2⟩ := hex 0 hm
      obtain ⟨z1, z2⟩ := cells?_get y2
      obtain ⟨v0, hv0⟩ : ∃ v0, (encA y)[0]? = some v0 := ⟨_, List.getElem?_eq_getElem (by omega)⟩
      have hs := World.cell?_spot (z2 0 v0 hv0)
      have hs' : a.spot = none := by simpa [Addr.add] using hs
      obtain ⟨b, o, sp⟩ := a
      simp only at hs'
      subst hs'
      refine ⟨b, o, rfl, fun j v hj => ?_⟩
      have hkx : ∀ x ∈ xs, (encA x).length = k := fun x hx => hl x (x2 x hx)
      have hlen := seg_len hkx
      have hjl : j < xs.length * k := by
        rcases Nat.lt_or_ge j (xs.flatMap encA).length with h | h
        · omega
        · rw [List.getElem?_eq_none h] at hj; cases hj
      have hi : j / k < xs.length := by rw [Nat.div_lt_iff_lt_mul hk]; exact hjl
      obtain ⟨x, hx⟩ : ∃ x, xs[j / k]? = some x := ⟨_, List.getElem?_eq_getElem hi⟩
      have hg := seg_get (sp := []) hkx hx
      rw [List.append_nil] at hg
      have hm' : j % k < k := Nat.mod_lt _ hk
      have hd := Nat.div_add_mod j k
      have hj' : (encA x)[j % k]? = some v := by
        rw [← hg, List.getElem?_take_of_lt hm', List.getElem?_drop, Nat.mul_comm, hd]
        exact hj
      have := (cells?_get (x3 (j / k) x hx)).2 (j % k) v hj'
      rw [addr_add, addr_add] at this
      rw [show o + j = o + j / k * k + j % k by rw [Nat.mul_comm]; omega]
      exact this
end

section
variable {H : Type} {enc : TypeId × Value → H} {P : Program} {w : World} {t e : TypeId} {r : Reach} {base : Nat} {v : Value} {d : DataW H} {ps : List MemPlace} {ok : DataW H → Prop}
theorem Tr.ofSlice (ht : P.underlying t = some (.slice e)) (h : Value.okWide P w r base t v) (hd : DataW.Trod enc P w 0 (fun _ => true) true t v d ps) (hok : ok d) : Tr enc P ok w t [v] := by
  obtain ⟨fuel, hd⟩ := hd
  have : v.cells.toList = [v] := by
    simp only [Value.okWide, ht, Cell.okWide] at h
    cases v <;> first | rfl | simp [Cell.ok, ht] at h
  rw [this] at hd
  exact ⟨fuel, _, hd, hok⟩
theorem Tr.ofInt {k : IntKind} (ht : P.underlying t = some (.int k)) (h : Value.okWide P w r base t v) (hd : DataW.Trod enc P w 0 (fun _ => true) true t v d ps) (hok : ok d) : Tr enc P ok w t [v] := by
  obtain ⟨fuel, hd⟩ := hd
  have : v.cells.toList = [v] := by
    simp only [Value.okWide, ht, Cell.okWide] at h
    cases v <;> first | rfl | simp [Cell.ok, ht] at h
  rw [this] at hd
  exact ⟨fuel, _, hd, hok⟩
theorem Tr.ofBool (ht : P.underlying t = some .bool) (h : Value.okWide P w r base t v) (hd : DataW.Trod enc P w 0 (fun _ => true) true t v d ps) (hok : ok d) : Tr enc P ok w t [v] := by
  obtain ⟨fuel, hd⟩ := hd
  have : v.cells.toList = [v] := by
    simp only [Value.okWide, ht, Cell.okWide] at h
    cases v <;> first | rfl | simp [Cell.ok, ht] at h
  rw [this] at hd
  exact ⟨fuel, _, hd, hok⟩
theorem Tr.ofString (ht : P.underlying t = some .string) (h : Value.okWide P w r base t v) (hd : DataW.Trod enc P w 0 (fun _ => true) true t v d ps) (hok : ok d) : Tr enc P ok w t [v] := by
  obtain ⟨fuel, hd⟩ := hd
  have : v.cells.toList = [v] := by
    simp only [Value.okWide, ht, Cell.okWide] at h
    cases v <;> first | rfl | simp [Cell.ok, ht] at h
  rw [this] at hd
  exact ⟨fuel, _, hd, hok⟩
theorem Tr.ofStruct {fs : Array Field} (ht : P.underlying t = some (.struct fs)) (h : Value.okWide P w r base t v) (hd : DataW.Trod enc P w 0 (fun _ => true) true t v d ps) (hok : ok d) : ∃ cs : List Value, v = .agg cs.toArray ∧ Tr enc P ok w t cs := by
  obtain ⟨fuel, hd⟩ := hd
  simp only [Value.okWide, ht] at h
  obtain ⟨cs, rfl, _⟩ := h
  exact ⟨cs.toList, rfl, fuel, _, hd, hok⟩
theorem Tr.ofArray {m : Nat} (ht : P.underlying t = some (.array m e)) (h : Value.okWide P w r base t v) (hd : DataW.Trod enc P w 0 (fun _ => true) true t v d ps) (hok : ok d) : ∃ cs : List Value, v = .agg cs.toArray ∧ Tr enc P ok w t cs := by
  obtain ⟨fuel, hd⟩ := hd
  simp only [Value.okWide, ht] at h
  obtain ⟨cs, rfl, _⟩ := h
  exact ⟨cs.toList, rfl, fuel, _, hd, hok⟩
end

theorem Sat.start (w : World) : Sat w (stars [old w]) w :=
  ⟨rfl, rfl, rfl, fun k => w.heap[k]?, fun _ _ h => h, fun k => w.heap[k]?, Hp.empty, fun _ => .inr rfl, (un_empty_right _).symm, fun _ => rfl, rfl⟩
theorem Sat.below {w w' : World} {l : List HProp} (s : Sat w (stars (old w :: l)) w') : Below w.heap.size w w' := by
  have hb : ∀ k, k < w.heap.size → w'.heap[k]? = w.heap[k]? := fun k hk => by
    have h1 : w.heap[k]? = some w.heap[k] := Array.getElem?_eq_getElem hk
    rw [h1]
    exact s.elder h1
  refine ⟨s.os, s.tape, s.output, ?_, hb⟩
  rcases Nat.eq_zero_or_pos w.heap.size with h | h
  · omega
  · have h1 := hb (w.heap.size - 1) (by omega)
    rw [Array.getElem?_eq_getElem (show w.heap.size - 1 < w.heap.size by omega)] at h1
    have := (Array.getElem?_eq_some_iff.1 h1).1
    omega
section
variable {H : Type} {enc : TypeId × Value → H} {P : Program}
theorem below_trodAll (hl : laidOutB P = true) {W W' : World} (hb : Below W.heap.size W W') : ∀ {ts : List TypeId} {vs : List Value} {ds : List (DataW H)} {ps : List MemPlace},
    (∀ t ∈ ts, P.readableRec t = true ∧ t < P.types.size) → DataW.TrodAll enc P W 0 (fun _ => true) true ts vs ds ps → (∀ x ∈ ps, x.block < W.heap.size) →
    DataW.TrodAll enc P W' 0 (fun b => decide (b < W.heap.size)) true ts vs ds ps
  | [], vs, ds, ps, _, h, _ => by
    obtain ⟨rfl, rfl, rfl⟩ := trodAll_nil h
    exact trodAll_mk0
  | t :: ts, vs, ds, ps, hr, h, hlt => by
    obtain ⟨v, vs', d, ds', p, q, rfl, rfl, rfl, h1, h2⟩ := trodAll_cons h
    refine ⟨p, q, ?_, below_trodAll hl hb (fun t' ht' => hr t' (by simp [ht'])) h2 (fun x hx => hlt x (by simp [hx])), rfl⟩
    exact Below.trod hl (hr t (by simp)).1 (hr t (by simp)).2 h1 hb (fun x hx => hlt x (by simp [hx]))
/-- What a law's row asks behind its call. -/
theorem law_post {f : Func} {s : ChangeSpec} {W W' : World} {args : Array Value} {ds : List (DataW H)} {before : List MemPlace} {tb : TypeId} (hl : laidOutB P = true) (hvars : s.vars = []) (hrt : f.resultTypes = #[tb]) (htb : P.underlying tb = some .bool)
    (hread : ∀ t ∈ f.params.toList, P.readableRec t = true ∧ t < P.types.size) (hW : DataW.Whole enc P f.params.toList s.vars false W args.toList ds [] before)
    (hres : (s.fn H (ds ++ [])).results = [.lit (.bool true)]) (hargs : (s.fn H (ds ++ [])).args = ds) (hvs : (s.fn H (ds ++ [])).vars = []) (hb : Below W.heap.size W W') : s.post enc P f false true false false W args (.bool true) W' := by
  have hlt := hW.lt
  obtain ⟨p, q, hA, hV, rfl, hfz, hnd⟩ := hW
  rw [hvars] at hV
  obtain ⟨_, rfl⟩ := trodVars_none hV
  refine ⟨ds, [], p ++ [], [], p, [], ⟨p, [], hA, by rw [hvars]; exact hV, rfl, hfz, hnd⟩, ?_, ?_, ?_, hb.frame _, fun h => by cases h⟩
  · rw [hres, hrt]
    refine trodAll_mk1 ⟨1, ?_⟩
    simp [DataW.trod, htb, Value.cells]
  · rw [hargs]
    exact below_trodAll hl hb hread hA (fun x hx => hlt x (by simpa using hx))
  · rw [hvars, hvs]
    rfl
end
end Go.SL
