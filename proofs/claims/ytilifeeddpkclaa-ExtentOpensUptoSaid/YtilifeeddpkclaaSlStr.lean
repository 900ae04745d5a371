import Derived.Test.YtilifeeddpkclaaSlMem
import Derived.Laws.BytesString
import Derived.Lib.Builder
namespace Go.SL
open Go Go.RowKit
/-- Bytes as a text. -/
def strOf (xs : List Int) : ByteArray := xs.foldl (fun r n => r.push (UInt8.ofNat n.toNat)) ByteArray.empty
theorem strOf_from (xs : List Int) : ∀ s : ByteArray, (xs.foldl (fun r n => r.push (UInt8.ofNat n.toNat)) s).data.toList = s.data.toList ++ xs.map (fun n => UInt8.ofNat n.toNat) := by
  induction xs with
  | nil => intro s; simp
  | cons x xs ih =>
    intro s
    rw [List.foldl_cons, ih, ByteArray.data_push]
    simp
theorem strOf_data (xs : List Int) : (strOf xs).data.toList = xs.map (fun n => UInt8.ofNat n.toNat) := by
  have := strOf_from xs ByteArray.empty
  simpa [strOf] using this
theorem strOf_inj {xs ys : List Int} (hx : ∀ x ∈ xs, 0 ≤ x ∧ x ≤ 255) (hy : ∀ x ∈ ys, 0 ≤ x ∧ x ≤ 255) (h : strOf xs = strOf ys) : xs = ys := by
  have e : xs.map (fun n => UInt8.ofNat n.toNat) = ys.map (fun n => UInt8.ofNat n.toNat) := by rw [← strOf_data, ← strOf_data, h]
  have back : ∀ zs : List Int, (∀ x ∈ zs, 0 ≤ x ∧ x ≤ 255) → (zs.map (fun n => UInt8.ofNat n.toNat)).map (fun u => (u.toNat : Int)) = zs := by
    intro zs hz
    rw [List.map_map]
    conv => rhs; rw [← List.map_id zs]
    refine List.map_congr_left fun z hm => ?_
    have := hz z hm
    simp only [Function.comp, UInt8.toNat_ofNat', id]
    omega
  rw [← back xs hx, e, back ys hy]
theorem bytes_beq (s u : ByteArray) : (s.toList == u.toList) = decide (s = u) := by
  rw [Bool.eq_iff_iff, beq_iff_eq, decide_eq_true_iff, ByteArray.toList_eq, ByteArray.toList_eq]
  constructor
  · intro h
    exact ByteArray.ext (Array.ext' h)
  · rintro rfl
    rfl
section
variable {P : Program} {E : World} {n : Nat} {ds : List Deferred} {env : Fr} {l r : List HProp} {T : Tab}
variable {dst : Option Tmp} {ty : TypeId} {pos : String} {af : Array Edge} {gd : Option (Nat × Bool)} {x y z : Operand} {v : Value} {t t' : TypeId} {o : Oper}
theorem y_convString (hT : Tok P T) {i j d : TI} {e : TypeId} {xs : List Int} {b off c k : Nat} (hi : T.at t = some i) (hk : i.u = .slice e) (hj : T.at e = some j) (hjk : j.u = .int .u8) (hd : T.at t' = some d) (hdk : d.u = .string)
    (hx : val env x = some (.slice (some ⟨b, off, none⟩) k c)) (hr : RdN l b off (xs.map (Value.int .u8))) (hl : xs.length = k) :
    Y P E n ds ⟨dst, .convert t t' x, ty, pos, af, gd⟩ env l (.string (strOf xs)) :=
  Y.of fun a w hfr hs => by
    have g1 := (hT t i hi).1
    rw [hk] at g1
    have g2 := (hT e j hj).1
    rw [hjk] at g2
    have g3 := (hT t' d hd).1
    rw [hdk] at g3
    have g4 := run_loadCells_list (P := P) (w := w) ⟨b, off, none⟩ _ (hr.cells hs)
    rw [List.length_map, hl] at g4
    have g5 := run_convert_bytes_string (P := P) w t t' e (some ⟨b, off, none⟩) k c g1 g2 g3
    rw [run_bytesToString w _ k c xs g4] at g5
    simp only [execOp, hfr.eval hx]
    simp [g5, strOf]
theorem y_gtrB {k : IntKind} {i j : Int} {b : Bool} (hx : val env x = some (.int k i)) (hy : val env y = some (.int k j)) (hb : decide (j < i) = b) : Y P E n ds ⟨dst, .binOp .gtr t x y t', ty, pos, af, gd⟩ env l (.bool b) := hb ▸ y_gtr hx hy
theorem y_leqB {k : IntKind} {i j : Int} {b : Bool} (hx : val env x = some (.int k i)) (hy : val env y = some (.int k j)) (hb : decide (i ≤ j) = b) : Y P E n ds ⟨dst, .binOp .leq t x y t', ty, pos, af, gd⟩ env l (.bool b) := hb ▸ y_leq hx hy
theorem y_str_eq {s u : ByteArray} (hx : val env x = some (.string s)) (hy : val env y = some (.string u)) : Y P E n ds ⟨dst, .binOp .eql t x y t', ty, pos, af, gd⟩ env l (.bool (decide (s = u))) :=
  Y.of fun a w hf _ => by (rw [← bytes_beq]; simp only [execOp, hf.eval hx, hf.eval hy]; simp [go_sem])
theorem y_str_eqB {s u : ByteArray} {b : Bool} (hx : val env x = some (.string s)) (hy : val env y = some (.string u)) (hb : decide (s = u) = b) : Y P E n ds ⟨dst, .binOp .eql t x y t', ty, pos, af, gd⟩ env l (.bool b) := hb ▸ y_str_eq hx hy
theorem y_str_ne {s u : ByteArray} (hx : val env x = some (.string s)) (hy : val env y = some (.string u)) : Y P E n ds ⟨dst, .binOp .neq t x y t', ty, pos, af, gd⟩ env l (.bool (decide (s ≠ u))) :=
  Y.of fun a w hf _ => by (rw [decide_not, ← bytes_beq]; simp only [execOp, hf.eval hx, hf.eval hy]; simp [go_sem])
theorem y_ptr_ne_same (hT : Tok P T) {i j : TI} {e : TypeId} {p : Addr} (hi : T.at t = some i) (hk : i.u = .pointer e) (hj : T.at e = some j) (hx : val env x = some (.pointer (some p))) (hy : val env y = some (.pointer (some p))) :
    Y P E n ds ⟨dst, .binOp .neq t x y t', ty, pos, af, gd⟩ env l (.bool false) :=
  Y.of fun a w hf _ => by
    have hu := (hT t i hi).1
    rw [hk] at hu
    obtain ⟨_, q, hq, _⟩ := hT e j hj
    simp only [execOp, hf.eval hx, hf.eval hy]
    have hr := Go.Lib.run_neq_ptr_same (P := P) w p hu hq
    simp [eqGuard_at_pointer, hr]
theorem Fc.know {f : FuncId} {args : Array Value} {R R' : Value → List HProp → Prop} (h : Fc P E f args l R) (hk : ∀ v l' w, R v l' → Sat E (stars l') w → R' v l') : Fc P E f args l R' := fun w hs =>
  (h w hs).mono fun _ w' ⟨v, l', h1, h2, h3⟩ => ⟨v, l', h1, h2, hk _ _ w' h3 h2⟩
/-- Where the owned slice lies that a call gives. -/
theorem Fc.ownKnown {f : FuncId} {args : Array Value} {e size k : Nat} {xs : List Value} {l0 : List HProp} (hk : 0 < k) (h : Fc P E f args l (fun v l' => ∃ a c, v = .slice a k c ∧ l' = own e size v k xs :: l0)) :
    Fc P E f args l (fun v l' => ∃ g c, v = .slice (some ⟨g, 0, none⟩) k c ∧ k ≤ c ∧ c ≤ maxLen ∧ l' = own e size (.slice (some ⟨g, 0, none⟩) k c) k xs :: l0) :=
  h.know fun v l' w ⟨a, c, h1, h2⟩ s => by
    subst h1
    subst h2
    have o := s.own_at
    obtain ⟨g, rfl⟩ := o.at_.resolve_right fun ⟨h0, _⟩ => by have := o.le; omega
    exact ⟨g, c, rfl, o.le, o.most, rfl⟩
end
end Go.SL
