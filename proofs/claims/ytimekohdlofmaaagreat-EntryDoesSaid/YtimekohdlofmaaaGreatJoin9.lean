import Derived.Test.YtimekohdlofmaaaGreatJoin1
import Derived.Test.YtimekohdlofmaaaGreatJoin3
import Derived.Test.YtimekohdlofmaaaGreatJoin7
/- Chapter 22's rows of what is done, read. -/
namespace Go.Proofs.YtimekohdlofmaaaGreat
open Go Go.SL
/-- What is done to an entry. -/
structure Op22 where
  kind : Int
  hops : Int
  client : Int
  slot : Int
  size : Int
  off : Int
  fill : Int
  p : Option Addr
  c : Nat
  raw : List Int
def op22 (o : Op22) : List Value := [.int .i64 o.kind, .int .i64 o.hops, .int .i64 o.client, .int .i64 o.slot, .int .i64 o.size, .int .i64 o.off, .int .u8 o.fill, .slice o.p o.raw.length o.c]
def I64 (x : Int) : Prop := -9223372036854775808 ≤ x ∧ x ≤ 9223372036854775807
structure Op22.Ok (o : Op22) (l : List HProp) : Prop where
  kind : I64 o.kind
  hops : I64 o.hops
  client : I64 o.client
  slot : I64 o.slot
  size : I64 o.size
  off : I64 o.off
  fill : 0 ≤ o.fill ∧ o.fill ≤ 255
  raw : Bytes o.raw
  inl : InL l o.p o.raw.length o.c (ints .u8 o.raw)
section
open Go.ChangeShapes Go.WideShapes Go.ChangeAt Go.RowKit
set_option maxRecDepth 100000 in
theorem tr_op22 {H : Type} {enc : TypeId × Value → H} {w : World} {ok : DataW H → Prop} {L : Nat → Prop} {cs : List Value} (her : Her ok L) (h : Tr enc prog ok w 24 cs) : ∃ o : Op22, cs = op22 o ∧ o.Ok [old w] ∧ L o.raw.length := by
  obtain ⟨hl, hf⟩ := Tr.struct her u24 h
  rw [show prog.cellsOf 24 = 8 by kernel_rfl] at hl
  match cs, hl with
  | [a0, a1, a2, a3, a4, a5, a6, a7], _ =>
    have h0 := hf 0 _ rfl
    have h1 := hf 1 _ rfl
    have h2 := hf 2 _ rfl
    have h3 := hf 3 _ rfl
    have h4 := hf 4 _ rfl
    have h5 := hf 5 _ rfl
    have h6 := hf 6 _ rfl
    have h7 := hf 7 _ rfl
    dsimp only at h0 h1 h2 h3 h4 h5 h6 h7
    rw [show prog.cellsOf 3 = 1 by kernel_rfl] at h0 h1 h2 h3 h4 h5
    rw [show prog.cellsOf 5 = 1 by kernel_rfl] at h6
    rw [show prog.cellsOf 22 = 1 by kernel_rfl] at h7
    obtain ⟨k0, e0, r0⟩ := Tr.int u3 h0
    obtain ⟨k1, e1, r1⟩ := Tr.int u3 h1
    obtain ⟨k2, e2, r2⟩ := Tr.int u3 h2
    obtain ⟨k3, e3, r3⟩ := Tr.int u3 h3
    obtain ⟨k4, e4, r4⟩ := Tr.int u3 h4
    obtain ⟨k5, e5, r5⟩ := Tr.int u3 h5
    obtain ⟨k6, e6, r6⟩ := Tr.int u5 h6
    obtain ⟨p, c, bs, e7, hL, hb, hi⟩ := tr_bytesR her h7
    cases e0; cases e1; cases e2; cases e3; cases e4; cases e5; cases e6; cases e7
    exact ⟨⟨k0, k1, k2, k3, k4, k5, k6, p, c, bs⟩, rfl, ⟨r0, r1, r2, r3, r4, r5, r6, hb, hi.inl []⟩, hL⟩
set_option maxRecDepth 100000 in
theorem tr_ops22 {H : Type} {enc : TypeId × Value → H} {w : World} {ok : DataW H → Prop} {L : Nat → Prop} {v : Value} (her : Her ok L) (h : Tr enc prog ok w 66 [v]) : ∃ (p : Option Addr) (cap : Nat) (xs : List Op22), v = .slice p xs.length cap ∧ L xs.length ∧ (∀ x ∈ xs, x.Ok [old w] ∧ L x.raw.length) ∧ InW w p xs.length cap (xs.flatMap op22) := by
  obtain ⟨p, cap, xs, h1, hL, hk, h2⟩ := Tr.slice (encA := op22) (okA := fun o : Op22 => o.Ok [old w] ∧ L o.raw.length) (k := 8) her u66 (by kernel_rfl) (by decide) (fun _ _ => rfl) (fun cs hc => let ⟨o, e, ho, hl⟩ := tr_op22 her hc; ⟨o, e, ho, hl⟩) h
  exact ⟨p, cap, xs, h1, hL, hk, h2⟩
end
end Go.Proofs.YtimekohdlofmaaaGreat
