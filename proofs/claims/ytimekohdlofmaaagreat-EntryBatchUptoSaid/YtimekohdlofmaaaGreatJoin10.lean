import Derived.Test.YtimekohdlofmaaaGreatJoin2
import Derived.Test.YtimekohdlofmaaaGreatJoin4
import Derived.Test.YtimekohdlofmaaaGreatJoin8
/- Chapter 22's rows of what is done, read. -/
namespace Go.Proofs.YtimekohdlofmaaaGreat
open Go Go.SL
/-- What is done to an entry. -/
structure Op22 where
  kind : Int
  hops : Int
  client : Int
  slot : Int
  size : Int
  off : Int
  fill : Int
  p : Option Addr
  c : Nat
  raw : List Int
def I64 (x : Int) : Prop := -9223372036854775808 ≤ x ∧ x ≤ 9223372036854775807
structure Op22.Ok (o : Op22) (l : List HProp) : Prop where
  kind : I64 o.kind
  hops : I64 o.hops
  client : I64 o.client
  slot : I64 o.slot
  size : I64 o.size
  off : I64 o.off
  fill : 0 ≤ o.fill ∧ o.fill ≤ 255
  raw : Bytes o.raw
  inl : InL l o.p o.raw.length o.c (ints .u8 o.raw)
section
open Go.ChangeShapes Go.WideShapes Go.ChangeAt Go.RowKit
end
end Go.Proofs.YtimekohdlofmaaaGreat
