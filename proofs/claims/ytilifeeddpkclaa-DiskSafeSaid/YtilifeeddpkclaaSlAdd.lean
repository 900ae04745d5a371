import Derived.Test.YtilifeeddpkclaaSlTop
namespace Go.SL
open Go Go.RowKit
section
variable {P : Program} {E : World} {n : Nat} {ds : List Deferred} {env : Fr} {l : List HProp} {T : Tab}
variable {dst : Option Tmp} {ty : TypeId} {pos : String} {af : Array Edge} {gd : Option (Nat × Bool)} {x y z : Operand} {t t' : TypeId}
theorem ones_of {vs : List Value} (h : vs.all (·.oneCell') = true) : ∀ v ∈ vs, v.oneCell' = true := List.all_eq_true.1 h
theorem Rd1.elem {b off i : Nat} {xs : List Value} {v : Value} (h : RdN l b off xs) (hx : xs[i]? = some v) : Rd1 l b (off + i * 1) v := by rw [Nat.mul_one]; exact h i v hx
theorem y_eqlB {k : IntKind} {i j : Int} {b : Bool} (hx : val env x = some (.int k i)) (hy : val env y = some (.int k j)) (hb : decide (i = j) = b) : Y P E n ds ⟨dst, .binOp .eql t x y t', ty, pos, af, gd⟩ env l (.bool b) := hb ▸ y_eql hx hy
end
end Go.SL
