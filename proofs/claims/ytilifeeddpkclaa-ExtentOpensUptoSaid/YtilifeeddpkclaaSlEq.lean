import Derived.Test.YtilifeeddpkclaaSlRange
import Derived.Laws.StructEq
import Derived.Laws.Cover3
namespace Go.SL
open Go Go.RowKit

theorem madeCells_rep (v : Value) {k : Nat} (hk : 0 < k) (m : Nat) : (madeCells (List.replicate k v).toArray m).toList = List.replicate m v := by
  apply List.ext_getElem
  · simp [size_madeCells]
  · intro i h1 h2
    simp only [Array.length_toList, size_madeCells] at h1
    have h3 : i % k < k := Nat.mod_lt _ hk
    simp [madeCells, h3]
theorem flatMap_rep {α β : Type} (f : α → List β) (x : α) (y : β) {k : Nat} (h : f x = List.replicate k y) : ∀ m : Nat, (List.replicate m x).flatMap f = List.replicate (m * k) y
  | 0 => by simp
  | m + 1 => by
    rw [List.replicate_succ, List.flatMap_cons, flatMap_rep f x y h m, h, List.replicate_append_replicate]
    congr 1
    rw [Nat.add_mul]
    omega
theorem Sat.ownAll {E w : World} {l : List HProp} {e size m g : Nat} {xs : List Value} (s : Sat E (stars (row g e xs :: l)) w) (h2 : m ≤ maxLen) (h3 : xs.length = m * size) :
    Sat E (stars (own e size (.slice (some ⟨g, 0, none⟩) m m) m xs :: l)) w := s.own_row (Nat.le_refl _) h2 h3 (by rw [← h3]; exact List.take_length) h3
theorem Sat.own_made {E w : World} {l : List HProp} {e size c g : Nat} {z : Array Value} (s : Sat E (stars (row g e (madeCells z (c * size)).toList :: l)) w) (h2 : c ≤ maxLen) :
    Sat E (stars (own e size (.slice (some ⟨g, 0, none⟩) 0 c) 0 [] :: l)) w := s.own_row (Nat.zero_le _) h2 (by simp [size_madeCells]) (by simp) (by simp)
theorem mk_fits {b : Nat} {c : Int} (hb : Nat.ble b 4096 = true) (h0 : 0 ≤ c) (hc : c ≤ 68719476736) : (b : Int) * c ≤ 281474976710656 := by
  have h1 : (b : Int) ≤ 4096 := by have := Nat.le_of_ble_eq_true hb; omega
  have h2 := Int.mul_le_mul_of_nonneg_right h1 h0
  omega
section
variable {P : Program} {E : World} {ρ : Option Nat} {n : Nat} {ds : List Deferred} {env : Fr} {l r : List HProp} {T : Tab} {N : Fr → List HProp → Prop}
variable {d : Tmp} {dst : Option Tmp} {ty : TypeId} {pos : String} {af : Array Edge} {gd : Option (Nat × Bool)} {x y z : Operand} {v u : Value} {t t' : TypeId} {o : Oper}

theorem guard_arr (hT : Tok P T) {i j : TI} {m : Nat} {e : TypeId} {k : IntKind} (hi : T.at t = some i) (hk : i.u = .array m e) (hj : T.at e = some j) (hjk : j.u = .int k) : P.eqGuardType P.depth t = false := by
  have h1 := (hT t i hi).1
  have h2 := (hT e j hj).1
  rw [hk] at h1
  rw [hjk] at h2
  rw [show P.depth = (2 * (P.types.size + Made.depth)) + 1 + 1 from rfl]
  simp only [Program.eqGuardType, h1, h2]
/-- Arrays of integers. -/
theorem run_equalIn_ints (w : World) (hT : Tok P T) {i j : TI} {m : Nat} {e : TypeId} {k : IntKind} (hi : T.at t = some i) (hk : i.u = .array m e) (hj : T.at e = some j) (hjk : j.u = .int k) (hs : j.size = 1)
    (q : Nat) (xs ys : List Int) (hx : xs.length = m) (hy : ys.length = m) :
    (Op.equalIn (q + 2) t (.agg (ints k xs).toArray) (.agg (ints k ys).toArray)).run P w = .ok (decide (xs = ys)) w := by
  have h1 := (hT t i hi).1
  have h2 := (hT e j hj).1
  have h3 : (sizeOf e).run P w = .ok 1 w := by rw [hT.siz w hj, hs]
  rw [hk] at h1
  rw [hjk] at h2
  have key : decide (xs = ys) = (List.range' 0 m 1).all fun a => xs.getD a 0 == ys.getD a 0 := by
    rw [Bool.eq_iff_iff]
    simp only [decide_eq_true_eq, List.all_eq_true, List.mem_range'_1, beq_iff_eq]
    constructor
    · rintro rfl a _; rfl
    · intro h
      apply List.ext_getElem (by omega)
      intro a ha hb
      have := h a (by omega)
      simpa [List.getD_eq_getElem?_getD, List.getElem?_eq_getElem ha, List.getElem?_eq_getElem hb] using this
  rw [key, Op.equalIn]
  simp only [Sem.run_bind, run_underlying h1, Result.andThen_ok, h3, Std.Legacy.Range.forIn_eq_forIn_range', Std.Legacy.Range.size, Nat.sub_zero, Nat.add_sub_cancel, Nat.div_one]
  have hl : ∀ a ∈ List.range' 0 m 1, a < m := fun a ha => by simpa using (List.mem_range'_1.1 ha).2
  generalize List.range' 0 m 1 = l at hl ⊢
  induction l with
  | nil => simp
  | cons a l ih =>
    have ha : a < m := hl a (by simp)
    have px : (part e (ints k xs).toArray (a * 1)).run P w = .ok (.int k (xs.getD a 0)) w := by
      simp [part, isAgg, run_underlying h2, ints, List.getD, List.getElem?_eq_getElem (show a < xs.length by omega)]
    have py : (part e (ints k ys).toArray (a * 1)).run P w = .ok (.int k (ys.getD a 0)) w := by
      simp [part, isAgg, run_underlying h2, ints, List.getD, List.getElem?_eq_getElem (show a < ys.length by omega)]
    have pe : (Op.equalIn (q + 1) e (.int k (xs.getD a 0)) (.int k (ys.getD a 0))).run P w = .ok (xs.getD a 0 == ys.getD a 0) w := run_equalIn_int w q e k k _ _ h2
    simp only [List.forIn_cons, Sem.run_bind, px, py, pe, Result.andThen_ok, List.all_cons]
    cases hb : (xs.getD a 0 == ys.getD a 0)
    · simp
    · simp only [Bool.not_true, Bool.false_eq_true, if_false, Sem.run_pure, Result.andThen_ok, Bool.true_and]
      exact ih fun b hb => hl b (by simp [hb])
theorem y_arr_eq (hT : Tok P T) {i j : TI} {m : Nat} {e : TypeId} {k : IntKind} (hi : T.at t = some i) (hk : i.u = .array m e) (hj : T.at e = some j) (hjk : j.u = .int k) (hs : j.size = 1)
    {xs ys : List Int} (hx : val env x = some (.agg (ints k xs).toArray)) (hy : val env y = some (.agg (ints k ys).toArray)) (hxl : xs.length = m) (hyl : ys.length = m) :
    Y P E n ds ⟨dst, .binOp .eql t x y t', ty, pos, af, gd⟩ env l (.bool (decide (xs = ys))) :=
  Y.of fun a w hf _ => by
    have g := guard_arr hT hi hk hj hjk
    have h := run_equalIn_ints w hT hi hk hj hjk hs 9998 xs ys hxl hyl
    simp only [execOp, hf.eval hx, hf.eval hy, Sem.run_bind, run_eqGuard_agg w _ t x y _ _ g, Result.andThen_ok, run_eql_struct, h, Sem.run_pure]
theorem y_arr_ne (hT : Tok P T) {i j : TI} {m : Nat} {e : TypeId} {k : IntKind} (hi : T.at t = some i) (hk : i.u = .array m e) (hj : T.at e = some j) (hjk : j.u = .int k) (hs : j.size = 1)
    {xs ys : List Int} (hx : val env x = some (.agg (ints k xs).toArray)) (hy : val env y = some (.agg (ints k ys).toArray)) (hxl : xs.length = m) (hyl : ys.length = m) :
    Y P E n ds ⟨dst, .binOp .neq t x y t', ty, pos, af, gd⟩ env l (.bool (!decide (xs = ys))) :=
  Y.of fun a w hf _ => by
    have g := guard_arr hT hi hk hj hjk
    have h := run_equalIn_ints w hT hi hk hj hjk hs 9998 xs ys hxl hyl
    simp only [execOp, hf.eval hx, hf.eval hy, Sem.run_bind, run_eqGuard_agg w _ t x y _ _ g, Result.andThen_ok, run_neq_struct, h, Sem.run_pure]
/-- An array's literal. -/
theorem y_buildArr (hT : Tok P T) {i j : TI} {m : Nat} {e : TypeId} {zs cs : List Value} {parts : List (Nat × Operand)} {pv : List (Nat × Value)} (hi : T.at t = some i) (hk : i.u = .array m e) (hj : T.at e = some j) (hz : i.zero = some (.agg zs.toArray))
    (hparts : partsV env parts = some pv) (hfill : Instr.fill (fun q => some (q * j.size, j.size)) zs.toArray pv = some cs.toArray) :
    Y P E n ds ⟨dst, .build t parts.toArray, ty, pos, af, gd⟩ env l (.agg cs.toArray) :=
  Y.of fun a w hf _ => by
    have h1 := hT.und w hi
    rw [hk] at h1
    have h2 := hT.siz w hj
    have h3 := hT.zer w hi hz
    have h7 := hf.parts hparts
    simp only [execOp, Instr.build, Sem.run_bind, h3, Result.andThen_ok, h1, h2, List.map_toArray, h7]
    simp only [Value.cells, hfill, Sem.run_pure, Result.andThen_ok]
theorem l_buildSliceP (hT : Tok P T) {i j : TI} {e : TypeId} {len : Nat} {parts : List (Nat × Operand)} {pv : List (Nat × Value)} {zc : Value} {cs : List Value} (hi : T.at t = some i) (hk : i.u = .slice e) (hj : T.at e = some j) (hz : j.zero = some zc)
    (hparts : partsV env parts = some pv) (hsm : Nat.ble (len * j.size) 16777216 = true) (hpos : Nat.ble 1 (len * j.size) = true)
    (hfill : Instr.fill (fun i => some (i * j.size, j.size)) ((Array.range (len * j.size)).map (zc.cells[· % zc.cells.size]!)) pv = some cs.toArray) (hn : Nat.blt d n = true)
    (h : ∀ b, N ((d, .slice (some ⟨b, 0, none⟩) len len) :: env) (row b e cs :: l)) :
    LS P E n ds ⟨some d, .buildSlice t len parts.toArray, ty, pos, af, gd⟩ env l N :=
  LS.of hn rfl fun _ w hf hs => ⟨_, w.alloc (.cells cs.toArray e), _, lays_buildSlice hT hi hk hj hz hf hparts hsm hpos hfill w, hs.alloc _, h w.heap.size⟩
/-- The empty literal: a slice, not nil, that owns an empty array. -/
theorem l_buildSlice0 (hT : Tok P T) {i j : TI} {e : TypeId} (hi : T.at t = some i) (hk : i.u = .slice e) (hj : T.at e = some j) (hn : Nat.blt d n = true)
    (h : ∀ b, N ((d, .slice (some ⟨b, 0, none⟩) 0 0) :: env) (own e j.size (.slice (some ⟨b, 0, none⟩) 0 0) 0 [] :: l)) :
    LS P E n ds ⟨some d, .buildSlice t 0 #[], ty, pos, af, gd⟩ env l N :=
  LS.of hn rfl fun a w hf hs => by
    have s1 : Sat E (stars (own e j.size (.slice (some ⟨w.heap.size, 0, none⟩) 0 0) 0 [] :: l)) (w.alloc (.cells #[] e)) :=
      (hs.alloc (.cells #[] e)).own_row (size := j.size) (cap := 0) (cur := []) (Nat.le_refl _) (Nat.zero_le _) (by simp) (by simp) (by simp)
    refine ⟨.slice (some ⟨w.heap.size, 0, none⟩) 0 0, w.alloc (.cells #[] e), _, ?_, s1, h w.heap.size⟩
    have h1 := hT.und w hi
    rw [hk] at h1
    have h2 := hT.siz w hj
    simp only [execOp, Instr.buildSlice, Sem.run_bind, h1, h2, Result.andThen_ok, Nat.zero_mul]
    have e0 : ∀ f : Nat → Value, (Array.range 0).map f = #[] := fun f => by rw [← Array.size_eq_zero_iff]; simp
    simp [Instr.fill, newRow, e0]
/-- A slice is nil or not. -/
theorem y_sl_eq_nil (hT : Tok P T) {i : TI} {e : TypeId} (hi : T.at t = some i) (hk : i.u = .slice e) {p : Option Addr} {k c : Nat} (hx : val env x = some (.slice p k c)) (hy : val env y = some (.slice none 0 0)) :
    Y P E n ds ⟨dst, .binOp .eql t x y t', ty, pos, af, gd⟩ env l (.bool p.isNone) :=
  Y.of fun a w hf _ => by
    have hu := (hT t i hi).1
    rw [hk] at hu
    have h : (binOp .eql t (.slice p k c) (.slice none 0 0)).run P w = .ok (.bool p.isNone) w := by
      have e : (Op.equalIn 10000 t (.slice p k c) (.slice none 0 0)).run P w = .ok p.isNone w := by
        rw [Op.equalIn]
        simp only [Sem.run_bind, run_underlying hu, Result.andThen_ok]
        cases p <;> rfl
      simp only [binOp, Op.equal, Op.maxDepth, Sem.run_bind, e, Result.andThen_ok, Sem.run_pure]
    simp only [execOp, hf.eval hx, hf.eval hy, eqGuard_at_slice, Sem.run_bind, Sem.run_pure, Result.andThen_ok, h]
theorem y_sl_ne_nil (hT : Tok P T) {i : TI} {e : TypeId} (hi : T.at t = some i) (hk : i.u = .slice e) {p : Option Addr} {k c : Nat} (hx : val env x = some (.slice p k c)) (hy : val env y = some (.slice none 0 0)) :
    Y P E n ds ⟨dst, .binOp .neq t x y t', ty, pos, af, gd⟩ env l (.bool (!p.isNone)) :=
  Y.of fun a w hf _ => by
    have hu := (hT t i hi).1
    rw [hk] at hu
    have h := run_neq_slice_nil (P := P) (w := w) t e p k c hu
    simp only [execOp, hf.eval hx, hf.eval hy, eqGuard_at_slice, Sem.run_bind, Sem.run_pure, Result.andThen_ok, h]
/-- A slice that nobody here owns: n values, whose cells read so whatever is laid ahead of the list. -/
structure InL (l : List HProp) (p : Option Addr) (n cap : Nat) (cs : List Value) : Prop where
  le : n ≤ cap
  most : cap ≤ maxLen
  rd : (∃ b o, p = some ⟨b, o, none⟩ ∧ ∀ m, RdN (m ++ l) b o cs) ∨ (cap = 0 ∧ cs = [])
theorem InL.app {p : Option Addr} {k cap : Nat} {cs : List Value} (h : InL l p k cap cs) (m : List HProp) : InL (m ++ l) p k cap cs :=
  ⟨h.le, h.most, h.rd.imp (fun ⟨b, o, e, hr⟩ => ⟨b, o, e, fun m' => by rw [← List.append_assoc]; exact hr _⟩) id⟩
theorem InL.cons {p : Option Addr} {k cap : Nat} {cs : List Value} (h : InL l p k cap cs) (A : HProp) : InL (A :: l) p k cap cs := h.app [A]
theorem InL.addr {p : Option Addr} {k cap : Nat} {cs : List Value} (h : InL l p k cap cs) (hk : 0 < k) : ∃ b o, p = some ⟨b, o, none⟩ ∧ ∀ m, RdN (m ++ l) b o cs := h.rd.resolve_right fun ⟨e, _⟩ => by have := h.le; omega
theorem InL.old {w0 : World} {p : Option Addr} {k cap : Nat} {cs : List Value} (hl : k ≤ cap) (hm : cap ≤ maxLen) (h : (∃ b o, p = some ⟨b, o, none⟩ ∧ ∀ j v, cs[j]? = some v → w0.cell? ⟨b, o + j, none⟩ = some v) ∨ (cap = 0 ∧ cs = [])) : InL (old w0 :: l) p k cap cs :=
  ⟨hl, hm, h.imp (fun ⟨b, o, e, hr⟩ => ⟨b, o, e, fun m j v hj => Rd1.old (Pick.app m Pick.head) (hr j v hj)⟩) id⟩
/-- Where an owned slice's array lies. -/
structure OwnAt (a : Option Addr) (k cap : Nat) (xs : List Value) : Prop where
  le : k ≤ cap
  most : cap ≤ maxLen
  at_ : (∃ g, a = some ⟨g, 0, none⟩) ∨ (cap = 0 ∧ xs = [])
theorem Sat.own_at {w : World} {e size k cap : Nat} {a : Option Addr} {xs : List Value} (s : Sat E (stars (own e size (.slice a k cap) k xs :: l)) w) : OwnAt a k cap xs := by
  obtain ⟨hl, ⟨h, h0, hx, _⟩ | ⟨g, cap', cur, he, h1, h2, h3, h4, _⟩⟩ := s.own_open
  · simp only [Value.slice.injEq] at h
    obtain ⟨rfl, rfl, rfl⟩ := h
    exact ⟨Nat.le_refl _, Nat.zero_le _, .inr ⟨rfl, hx⟩⟩
  · simp only [Value.slice.injEq] at he
    obtain ⟨rfl, _, rfl⟩ := he
    exact ⟨h1, h2, .inl ⟨g, rfl⟩⟩
theorem OwnAt.inl {e size k cap : Nat} {a : Option Addr} {xs : List Value} (h : OwnAt a k cap xs) (p : Pick l (own e size (.slice a k cap) k xs) r) : InL l a k cap xs :=
  ⟨h.le, h.most, h.at_.elim (fun ⟨g, e⟩ => .inl ⟨g, 0, e, fun m => by subst e; exact RdN.own (Pick.app m p)⟩) .inr⟩
theorem InL.ofRow {b e k : Nat} {cs : List Value} (p : Pick l (row b e cs) r) (h : k ≤ maxLen) : InL l (some ⟨b, 0, none⟩) k k cs := ⟨Nat.le_refl _, h, .inl ⟨b, 0, rfl, fun m => RdN.rowAll (Pick.app m p)⟩⟩
theorem yielded_none {ops : Array Oper} {a : Act} (hf : Frm n ds env a) {j t : Nat} (hd : (ops[j]?).bind (·.dst) = some t) (hv : look env t = some undef) : yielded ops a.tmps j = none := by
  simp [yielded, hd, hf.slot t _ hv, undef]
/-- The guard's own operation was passed over. -/
theorem JL.gskipU {ops : Array Oper} {rest : List Oper} {Q : Exit → Act → World → Prop} {j t : Nat} {b : Bool} (hg : o.guard = some (j, b)) (hgd : (ops[j]?).bind (·.dst) = some t) (hgv : look env t = some undef)
    (hd : o.dst = some d) (hn : Nat.blt d n = true)
    (h : JL P E ρ n ds ops Q rest ((d, undef) :: env) l) : JL P E ρ n ds ops Q (o :: rest) env l := fun a w hf hs => by
  refine wpListIn_step fun K hK => ?_
  rw [if_neg (by simp [Region.wanted, hg, yielded_none hf hgd hgv])]
  exact ⟨fun _ _ => trivial, hK _ _ (h _ w (by rw [hd]; exact hf.put _ hn) hs)⟩
theorem JM.gskipU {ops : Array Oper} {Q : Exit → Act → World → Prop} {lc m : List HProp} {k j t : Nat} {b : Bool} {π : List (Nat × Kd)} (ho : ops[k]? = some o) (hg : o.guard = some (j, b)) (hgd : (ops[j]?).bind (·.dst) = some t) (hgv : look env t = some undef) (hd : o.dst = some d) (hn : Nat.blt d n = true) (h : JM P E n ds ops lc Q π ((d, undef) :: env) m) :
    JM P E n ds ops lc Q ((k, .q) :: π) env m := fun a hf =>
  ⟨o, undef, ho, fun _ => .inr ⟨by simp [Region.wanted, hg, yielded_none hf hgd hgv], rfl⟩, h _ (by rw [hd]; exact hf.put _ hn)⟩
/-- What a list says. -/
theorem J.fact {c : Code} {Q : Exit → Act → World → Prop} {p : Prop} (hp : ∀ w, Sat E (stars l) w → p) (h : p → J P E ρ n ds c Q env l) : J P E ρ n ds c Q env l := fun a w hf hs => h (hp w hs) a w hf hs
theorem JL.fact {ops : Array Oper} {rest : List Oper} {Q : Exit → Act → World → Prop} {p : Prop} (hp : ∀ w, Sat E (stars l) w → p) (h : p → JL P E ρ n ds ops Q rest env l) : JL P E ρ n ds ops Q rest env l := fun a w hf hs => h (hp w hs) a w hf hs
theorem JE.fact {e : Exit} {Q : Exit → Act → World → Prop} {p : Prop} (hp : ∀ w, Sat E (stars l) w → p) (h : p → JE E n ds Q e env l) : JE E n ds Q e env l := fun a w hf hs => h (hp w hs) a w hf hs
theorem Fc.fact {f : FuncId} {args : Array Value} {R : Value → List HProp → Prop} {p : Prop} (hp : ∀ w, Sat E (stars l) w → p) (h : p → Fc P E f args l R) : Fc P E f args l R := fun w hs => h (hp w hs) w hs
theorem Fc.on {f : FuncId} {args : Array Value} {R : Value → List HProp → Prop} {p q : List HProp} (hs : Split l p q) (h : Fc P E f args (p ++ q) R) : Fc P E f args l R := h.split hs
theorem J.pre {c : Code} {Q : Exit → Act → World → Prop} {l' : List HProp} (hl : ∀ w, Sat E (stars l) w → Sat E (stars l') w) (h : J P E ρ n ds c Q env l') : J P E ρ n ds c Q env l := fun a w hf hs => h a w hf (hl w hs)
theorem JL.pre {ops : Array Oper} {rest : List Oper} {Q : Exit → Act → World → Prop} {l' : List HProp} (hl : ∀ w, Sat E (stars l) w → Sat E (stars l') w) (h : JL P E ρ n ds ops Q rest env l') : JL P E ρ n ds ops Q rest env l := fun a w hf hs => h a w hf (hl w hs)
theorem JE.pre {e : Exit} {Q : Exit → Act → World → Prop} {l' : List HProp} (hl : ∀ w, Sat E (stars l) w → Sat E (stars l') w) (h : JE E n ds Q e env l') : JE E n ds Q e env l := fun a w hf hs => h a w hf (hl w hs)
/-- A piece from the front. -/
theorem InL.take {α : Type} {enc : α → List Value} {p : Option Addr} {k cap : Nat} {xs : List α} (h : InL l p k cap (xs.flatMap enc)) (j : Nat) (hj : j ≤ k) : InL l p j cap ((xs.take j).flatMap enc) :=
  ⟨Nat.le_trans hj h.le, h.most, h.rd.imp (fun ⟨b, o, e, hr⟩ => ⟨b, o, e, fun m i v hi => hr m i v (by
    have e1 : xs.flatMap enc = (xs.take j).flatMap enc ++ (xs.drop j).flatMap enc := by rw [← List.flatMap_append, List.take_append_drop]
    rw [e1, List.getElem?_append_left]
    · exact hi
    · rcases Nat.lt_or_ge i ((xs.take j).flatMap enc).length with h | h
      · exact h
      · simp [List.getElem?_eq_none h] at hi)⟩) (fun ⟨e, hcs⟩ => ⟨e, by
    rw [List.flatMap_eq_nil_iff] at hcs ⊢
    exact fun x hx => hcs x (List.mem_of_mem_take hx)⟩)⟩
/-- append(x, y...): y is anybody's. -/
theorem l_appendIn (hT : Tok P T) {i j : TI} {e : TypeId} {zc : Value} {nn m c : Nat} {yp : Option Addr} {xs news : List Value} (hi : T.at t = some i) (hk : i.u = .slice e) (hj : T.at e = some j) (hz : j.zero = some zc) (hzs : zc.cells.size = j.size) (hsz : Nat.blt 0 j.size = true)
    (hx : val env x = some v) (hy : val env y = some (.slice yp m c)) (hp : Pick l (own e j.size v nn xs) r) (hin : InL l yp m c news) (hl : news.length = m * j.size) (h1 : ∀ u ∈ news, u.oneCell' = true)
    (hb : (nn + m) * j.bytes ≤ 140737488355328) (h63 : nn + m ≤ 9223372036854775807) (hn : Nat.blt d n = true)
    (h : ∀ a cap, nn + m ≤ cap → N ((d, .slice a (nn + m) cap) :: env) (own e j.size (.slice a (nn + m) cap) (nn + m) (xs ++ news) :: r)) :
    LS P E n ds ⟨some d, .call ⟨.builtin .append, #[x, y], #[t, t]⟩, ty, pos, af, gd⟩ env l N := by
  rcases hin.rd with ⟨b, o, rfl, hr⟩ | ⟨rfl, rfl⟩
  · exact l_append hT hi hk hj hz hzs hsz hx hy hp (hr []) hl h1 hb h63 hn h
  · have hm : m = 0 := by have := hin.le; omega
    subst hm
    refine LS.of hn rfl fun a w hf hs => ?_
    obtain ⟨a0, cap, rfl, hcap⟩ := hs.row_of_own hp
    refine ⟨.slice a0 nn cap, w, _, ?_, hs.pick hp, by simpa using h a0 cap (by omega)⟩
    have hu := (hT t i hi).1
    rw [hk] at hu
    have h2 := hT.siz w hj
    cases a0 <;> cases yp <;> simp [execOp, resolve, invoke, builtin, hf.eval hx, hf.eval hy, Builtin.append_, run_underlying hu, h2, Builtin.lenOf, Builtin.firstCells, loadCells, loadCellsFrom, storeCells, hcap]
end
end Go.SL
