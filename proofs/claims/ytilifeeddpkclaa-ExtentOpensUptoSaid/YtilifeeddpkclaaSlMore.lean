import Derived.Test.YtilifeeddpkclaaSlSeg
import Derived.WalkSpells
namespace Go.SL
open Go Go.RowKit

/-- The parts of a composite value laid over its noughts. -/
def fillE (pl : List (Nat × Nat)) : List Value → List (Nat × List Value) → List Value
  | cs, [] => cs
  | cs, (i, vs) :: r => match pl[i]? with
    | some (off, sz) => fillE pl (cs.take off ++ vs ++ cs.drop (off + sz)) r
    | none => cs
def fillOk (pl : List (Nat × Nat)) (n : Nat) : List (Nat × List Value) → Prop
  | [] => True
  | (i, vs) :: r => (match pl[i]? with
    | some (off, sz) => vs.length = sz ∧ off + sz ≤ n
    | none => False) ∧ fillOk pl n r
theorem fold_set (vs : List Value) : ∀ (cs : Array Value) (off k : Nat), off + k + vs.length ≤ cs.size →
    (vs.zipIdx k).foldl (fun cs (c : Value × Nat) => cs.setIfInBounds (off + c.2) c.1) cs = (cs.toList.take (off + k) ++ vs ++ cs.toList.drop (off + k + vs.length)).toArray := by
  induction vs with
  | nil => intro cs off k h; simp
  | cons v r ih =>
    intro cs off k h
    simp only [List.length_cons] at h
    rw [List.zipIdx_cons, List.foldl_cons, ih _ off (k + 1) (by simp; omega)]
    have e := list_seg_step cs.toList (off + k) v r (by simp; omega)
    congr 1
    simpa [Array.toList_setIfInBounds, Nat.add_assoc] using e
theorem fill_eq (place : Nat → Option (Nat × Nat)) (pl : List (Nat × Nat)) : ∀ (pv : List (Nat × Value)) (cs : List Value), (∀ q ∈ pv, place q.1 = pl[q.1]?) → fillOk pl cs.length (pv.map fun q => (q.1, q.2.cells.toList)) →
    Instr.fill place cs.toArray pv = some (fillE pl cs (pv.map fun q => (q.1, q.2.cells.toList))).toArray
  | [], cs, _, _ => by simp [Instr.fill, fillE]
  | (i, v) :: r, cs, hp, hok => by
    have hi : place i = pl[i]? := hp (i, v) (by simp)
    simp only [List.map_cons, fillOk] at hok
    obtain ⟨h1, h2⟩ := hok
    simp only [Instr.fill, hi, List.map_cons, fillE]
    cases e : pl[i]? with
    | none => rw [e] at h1; exact h1.elim
    | some q =>
      obtain ⟨off, sz⟩ := q
      rw [e] at h1
      simp only [Array.length_toList] at h1
      have hc : ¬ (v.cells.size ≠ sz ∨ cs.length < off + v.cells.size) := by omega
      have hf := fold_set v.cells.toList cs.toArray off 0 (by simp; omega)
      simp only [Nat.add_zero, Array.length_toList] at hf
      have hb : (v.cells.size != sz || decide (off + v.cells.size > cs.toArray.size)) = false := by simp; omega
      have hf' : v.cells.zipIdx.foldl (fun cs (x : Value × Nat) => cs.setIfInBounds (off + x.2) x.1) cs.toArray = (cs.take off ++ v.cells.toList ++ cs.drop (off + v.cells.size)).toArray := by
        rw [← Array.foldl_toList, Array.toList_zipIdx]
        exact hf
      have hlen : (cs.take off ++ v.cells.toList ++ cs.drop (off + v.cells.size)).length = cs.length := by simp; omega
      simp only [ne_eq, Bool.or_eq_true, decide_eq_true_eq, List.size_toArray] at hb ⊢
      rw [if_neg (by simp; omega)]
      rw [hf', fill_eq place pl r _ (fun q hq => hp q (by simp [hq])) (by rw [hlen]; exact h2), h1.1]

theorem fillE_two {k : Nat} {zs bs : List Value} {v : Value} (hz : zs.length = k + 1) (_ : bs.length = k) : fillE [(0, 1), (1, k)] zs [(0, [v]), (1, bs)] = v :: bs := by
  simp only [fillE, List.getElem?_cons_zero, List.getElem?_cons_succ, List.take_zero, List.nil_append, List.cons_append, List.take_succ_cons, Nat.zero_add]
  rw [show 1 + k = k + 1 by omega, List.drop_succ_cons, List.drop_drop, List.drop_of_length_le (by omega)]
  simp
section
variable {P : Program} {E : World} {ρ : Option Nat} {n : Nat} {ds : List Deferred} {env : Fr} {l : List HProp} {T : Tab} {N : Fr → List HProp → Prop}
variable {d : Tmp} {dst : Option Tmp} {ty : TypeId} {pos : String} {af : Array Edge} {gd : Option (Nat × Bool)} {x y z : Operand} {v u : Value} {t t' : TypeId} {o : Oper}

theorem parts_eval {a : Act} (hf : Frm n ds env a) {parts : List (Nat × Operand)} {pv : List (Nat × Value)} (hparts : vals env (parts.map (·.2)) = some (pv.map (·.2))) (hix : parts.map (·.1) = pv.map (·.1)) :
    parts.map (fun (q : Nat × Operand) => (q.1, a.eval q.2)) = pv := by
  have e1 := hf.evals hparts
  apply List.ext_getElem?
  intro k
  have e2 : (parts.map (·.1))[k]? = (pv.map (·.1))[k]? := by rw [hix]
  have e3 : ((parts.map (·.2)).map a.eval)[k]? = (pv.map (·.2))[k]? := by rw [e1]
  simp only [List.getElem?_map, Option.map_map] at e2 e3 ⊢
  cases hk : parts[k]? <;> cases hk' : pv[k]? <;> simp_all
/-- What stands in which place, told as values. -/
def partsV (env : Fr) : List (Nat × Operand) → Option (List (Nat × Value))
  | [] => some []
  | (i, x) :: r => match val env x with
    | none => none
    | some v => match partsV env r with
      | none => none
      | some vs => some ((i, v) :: vs)
theorem Frm.parts {a : Act} (h : Frm n ds env a) : ∀ {l : List (Nat × Operand)} {vs : List (Nat × Value)}, partsV env l = some vs → l.map (fun q => (q.1, a.eval q.2)) = vs
  | [], _, e => by simp [partsV] at e; simp [e]
  | (i, x) :: r, vs, e => by
    simp only [partsV] at e
    cases e1 : val env x with
    | none => simp [e1] at e
    | some v =>
      cases e2 : partsV env r with
      | none => simp [e1, e2] at e
      | some us =>
        simp [e1, e2] at e
        subst e
        simp [h.eval e1, h.parts e2]
/-- Where a struct's fields lie. -/
def placesOf (T : Tab) : List Field → Option (List (Nat × Nat))
  | [] => some []
  | f :: r => match T.at f.type with
    | none => none
    | some i => match placesOf T r with
      | none => none
      | some l => some ((f.offset, i.size) :: l)
theorem run_places (hT : Tok P T) (w : World) : ∀ {fs : List Field} {pl : List (Nat × Nat)}, placesOf T fs = some pl → (fs.mapM fun f => (do pure (f.offset, ← sizeOf f.type) : Sem (Nat × Nat))).run P w = .ok pl w
  | [], pl, h => by simp [placesOf] at h; subst h; simp
  | f :: r, pl, h => by
    simp only [placesOf] at h
    cases e1 : T.at f.type with
    | none => simp [e1] at h
    | some i =>
      cases e2 : placesOf T r with
      | none => simp [e1, e2] at h
      | some l =>
        simp [e1, e2] at h
        subst h
        have h1 := hT.siz w e1
        have h2 := run_places hT w e2
        simp only [List.mapM_cons, Sem.run_bind, h1, Result.andThen_ok, Sem.run_pure, h2]
theorem y_build (hT : Tok P T) {i : TI} {fs : Array Field} {zc : Value} {zs cs : List Value} {parts : List (Nat × Operand)} {pv : List (Nat × Value)} {pl : List (Nat × Nat)} (hi : T.at t = some i) (hk : i.u = .struct fs) (hz : i.zero = some zc) (hzc : zc.cells = zs.toArray)
    (hparts : partsV env parts = some pv) (hpl : placesOf T fs.toList = some pl) (hok : fillOk pl zs.length (pv.map fun q => (q.1, q.2.cells.toList))) (hc : fillE pl zs (pv.map fun q => (q.1, q.2.cells.toList)) = cs) :
    Y P E n ds ⟨dst, .build t parts.toArray, ty, pos, af, gd⟩ env l (.agg cs.toArray) :=
  Y.of fun a w hf _ => by
    have h1 := hT.und w hi
    rw [hk] at h1
    have h3 := hT.zer w hi hz
    have h4 := run_places hT w hpl
    have h5 : (fs.mapM fun f => (do pure (f.offset, ← sizeOf f.type) : Sem (Nat × Nat))).run P w = .ok pl.toArray w := by
      rw [Array.mapM_eq_mapM_toList]
      simp only [Sem.run_map, h4, Result.andThen_ok]
    have h6 := fill_eq (fun i => pl.toArray[i]?) pl pv zs (fun q _ => by simp) hok
    have h7 := hf.parts hparts
    simp only [execOp, Instr.build, Sem.run_bind, h3, Result.andThen_ok, h1, h5, hzc, List.map_toArray, h7]
    rw [h6, hc]
    rfl
theorem y_build_arr0 (hT : Tok P T) {i : TI} {zs : List Value} {m : Nat} {e : TypeId} {j : TI} (hi : T.at t = some i) (hag : i.u = .array m e) (hj : T.at e = some j) (hz : i.zero = some (.agg zs.toArray)) :
    Y P E n ds ⟨dst, .build t #[], ty, pos, af, gd⟩ env l (.agg zs.toArray) :=
  Y.of fun a w hf _ => by
    have h1 := hT.und w hi
    rw [hag] at h1
    have h2 := hT.siz w hj
    have h3 := hT.zer w hi hz
    simp [execOp, Instr.build, h1, h2, h3, Instr.fill, Value.cells]
theorem LS.ofY {o : Oper} {N : Fr → List HProp → Prop} (hn : Nat.blt d n = true) (hd : o.dst = some d) (hy : Y P E n ds o env l v) (h : N ((d, v) :: env) l) : LS P E n ds o env l N := fun a w hf hs => by
  refine Oper.wp_of_quiet (C := Sat E (stars l)) hs (K := fun a' => Frm n ds ((d, v) :: env) a') (fun a' w' hw' hf' => ⟨_, l, hf', hw', h⟩) ⟨v, fun w' hw' => hy a w' hf hw', by rw [hd]; exact hf.put v hn⟩
theorem lays_alloc (hT : Tok P T) {i : TI} {z' : Value} {cs : List Value} {a : Act} (hi : T.at t = some i) (hz : i.zero = some z') (hc : z'.cells = cs.toArray) :
    Lays P ⟨dst, .alloc t, ty, pos, af, gd⟩ a (fun b => .pointer (some ⟨b, 0, none⟩)) (.cells cs.toArray t (0, 0)) := fun w => by
  have h1 := hT.zer w hi hz
  simp [execOp, Instr.alloc, h1, newVar, newRow, hc]
theorem lays_buildSlice (hT : Tok P T) {i j : TI} {e : TypeId} {len : Nat} {parts : List (Nat × Operand)} {pv : List (Nat × Value)} {zc : Value} {cs : List Value} {a : Act} (hi : T.at t = some i) (hk : i.u = .slice e) (hj : T.at e = some j) (hz : j.zero = some zc) (hf : Frm n ds env a)
    (hparts : partsV env parts = some pv) (hsm : Nat.ble (len * j.size) 16777216 = true) (hpos : Nat.ble 1 (len * j.size) = true)
    (hfill : Instr.fill (fun i => some (i * j.size, j.size)) ((Array.range (len * j.size)).map (zc.cells[· % zc.cells.size]!)) pv = some cs.toArray) :
    Lays P ⟨dst, .buildSlice t len parts.toArray, ty, pos, af, gd⟩ a (fun b => .slice (some ⟨b, 0, none⟩) len len) (.cells cs.toArray e (0, 0)) := fun w => by
  have h1 := hT.und w hi
  rw [hk] at h1
  have h2 := hT.siz w hj
  have h3 := hT.zer w hj hz
  have hpv := hf.parts hparts
  have hle : ¬ (16777216 < len * j.size) := by have := Nat.le_of_ble_eq_true hsm; omega
  have h0 : ¬ (len * j.size = 0) := by have := Nat.le_of_ble_eq_true hpos; omega
  simp [execOp, Instr.buildSlice, h1, h2, hle, h0, h3, hpv, hfill, newRow]
/-- A slice of one element that is given whole. -/
theorem fill_one {size : Nat} {zc v : Value} {cs : List Value} (hv : v.cells = cs.toArray) (hl : cs.length = size) : Instr.fill (fun i => some (i * size, size)) ((Array.range (1 * size)).map (zc.cells[· % zc.cells.size]!)) [(0, v)] = some cs.toArray := by
  have h := fill_eq (fun i => some (i * size, size)) [(0, size)] [(0, v)] ((Array.range (1 * size)).map (zc.cells[· % zc.cells.size]!)).toList (fun q hq => by simp at hq; subst hq; simp) (by simp [fillOk, hv, hl])
  have e : ((Array.range (1 * size)).map (zc.cells[· % zc.cells.size]!)).toList.toArray = (Array.range (1 * size)).map (zc.cells[· % zc.cells.size]!) := rfl
  rw [e] at h
  rw [h]
  have e2 : (List.map (fun x => zc.cells[x % zc.cells.size]!) (List.range size)).length = size := by simp
  simp [fillE, hv]
theorem lays_box {cs : List Value} {a : Act} (hf : Frm n ds env a) (hx : val env x = some v) (hc : v.cells = cs.toArray) :
    Lays P ⟨dst, .box t x, ty, pos, af, gd⟩ a (fun b => .pointer (some ⟨b, 0, none⟩)) (.cells cs.toArray t (0, 0)) := fun w => by
  simp [execOp, hf.eval hx, Instr.box, newVar, newRow, hc]

theorem Fc.post {f : FuncId} {args : Array Value} {R : Value → List HProp → Prop} (h : Fc P E f args l (fun v l' => ∃ l'', (∀ w, Sat E (stars l') w → Sat E (stars l'') w) ∧ R v l'')) : Fc P E f args l R := fun w hs =>
  (h w hs).mono fun _ _ ⟨v, _, he, s, l'', hi, hR⟩ => ⟨v, l'', he, hi _ s, hR⟩
theorem Fc.eqs {f : FuncId} {args : Array Value} {v : Value} {l' : List HProp} (h : Fc P E f args l (fun u l'' => u = v ∧ ∀ w, Sat E (stars l'') w → Sat E (stars l') w)) : Fc P E f args l (fun u l'' => u = v ∧ l'' = l') := Fc.post (h.mono fun _ _ ⟨h1, h2⟩ => ⟨l', h2, h1, rfl⟩)
variable {c : Code} {Q : Exit → Act → World → Prop}
theorem J.own_addr {e size m cap : Nat} {a : Option Addr} {xs : List Value} (h : ∀ g, (0 < m → a = some ⟨g, 0, none⟩) → m ≤ cap → J P E ρ n ds c Q env (own e size (.slice a m cap) m xs :: l)) : J P E ρ n ds c Q env (own e size (.slice a m cap) m xs :: l) := fun ac w hf hs => by
  obtain ⟨hl, ⟨e1, e2, e3, s⟩ | ⟨g, cap', cur, e1, c1, c2, c3, c4, s⟩⟩ := hs.own_open
  · exact h 0 (fun h => by omega) (by omega) ac w hf hs
  · simp only [Value.slice.injEq] at e1
    exact h g (fun _ => e1.1) (by omega) ac w hf hs
theorem J.row_eq {b e : Nat} {cs : List Value} (cs' : List Value) (he : cs = cs') (h : J P E ρ n ds c Q env (row b e cs' :: l)) : J P E ρ n ds c Q env (row b e cs :: l) := he ▸ h
theorem J.lists {l' : List HProp} (hl : ∀ w, Sat E (stars l) w → Sat E (stars l') w) (h : J P E ρ n ds c Q env l') : J P E ρ n ds c Q env l := fun a w hf hs => h a w hf (hl w hs)
theorem J.picks {l' : List HProp} {A : HProp} (hp : Pick l A l') (h : J P E ρ n ds c Q env (A :: l')) : J P E ρ n ds c Q env l := fun a w hf hs => h a w hf (hs.pick hp)
theorem RdN.elem {α : Type} {enc : α → List Value} {xs : List α} {b off i k : Nat} {x : α} (h : RdN l b off (xs.flatMap enc)) (hk : ∀ x ∈ xs, (enc x).length = k) (hx : xs[i]? = some x) : RdN l b (off + i * k) (enc x) :=
  h.sub (i * k) k (by have := seg_get (sp := []) hk hx; simpa using this)
theorem RdN.rowAll {r : List HProp} {b e : Nat} {cs : List Value} (p : Pick l (SL.row b e cs) r) : RdN l b 0 cs := RdN.row (n := cs.length) p (by simp)
theorem RdN.rowElem {α : Type} {enc : α → List Value} {xs : List α} {sp : List Value} {r : List HProp} {b e i k : Nat} {x : α} (p : Pick l (SL.row b e (xs.flatMap enc ++ sp)) r) (hk : ∀ x ∈ xs, (enc x).length = k) (hx : xs[i]? = some x) : RdN l b (0 + i * k) (enc x) :=
  RdN.row (n := k) p (by rw [Nat.zero_add]; exact seg_get hk hx)
end
end Go.SL
