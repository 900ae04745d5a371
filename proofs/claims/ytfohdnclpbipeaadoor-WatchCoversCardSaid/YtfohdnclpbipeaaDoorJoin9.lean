import Derived.Test.YtfohdnclpbipeaaDoorJoin1
import Derived.Test.YtfohdnclpbipeaaDoorJoin3
import Derived.Test.YtfohdnclpbipeaaDoorJoin6
import Derived.Test.YtfohdnclpbipeaaDoorJoin7
import Derived.Test.YtfohdnclpbipeaaDoorJoin8
namespace Go.Proofs.YtfohdnclpbipeaaDoor
section
open Go Go.SL
section
open Go.ChangeShapes Go.WideShapes Go.ChangeAt Go.RowKit
theorem list_intsN {k : IntKind} : ∀ {cs : List Value}, (∀ i, i < cs.length → ∃ x, cs[i]? = some (.int k x)) → ∃ b : List Int, cs = ints k b
  | [], _ => ⟨[], rfl⟩
  | v :: cs, h => by
    obtain ⟨x, hx⟩ := h 0 (by simp)
    obtain ⟨b, hb⟩ := list_intsN (cs := cs) fun i hi => by
      obtain ⟨y, hy⟩ := h (i + 1) (by simpa using hi)
      exact ⟨y, by simpa using hy⟩
    simp only [List.getElem?_cons_zero, Option.some.injEq] at hx
    subst hx
    subst hb
    exact ⟨x :: b, rfl⟩
set_option maxRecDepth 100000 in
theorem tr_key {H : Type} {enc : TypeId × Value → H} {w : World} {ok : DataW H → Prop} {L : Nat → Prop} {cs : List Value} (her : Her ok L) (h : Tr enc prog ok w 50 cs) : ∃ b : List Int, cs = ints .u8 b ∧ b.length = 32 := by
  obtain ⟨hl, hf⟩ := Tr.array her u50 h
  rw [show prog.cellsOf 50 = 32 by kernel_rfl] at hl
  obtain ⟨b, hb⟩ := list_intsN (k := .u8) (cs := cs) (fun i hi => by
    have h0 := hf i (by omega)
    rw [show prog.cellsOf 5 = 1 by kernel_rfl] at h0
    obtain ⟨x, e, r⟩ := Tr.int u5 h0
    rw [List.drop_eq_getElem_cons (by omega)] at e
    simp only [Nat.mul_one, List.take_succ_cons, List.take_zero, List.cons.injEq, and_true] at e
    exact ⟨x, by rw [List.getElem?_eq_getElem hi, e]⟩)
  subst hb
  exact ⟨b, rfl, by simpa [ints] using hl⟩
set_option maxRecDepth 100000 in
theorem tr_body {H : Type} {enc : TypeId × Value → H} {w : World} {ok : DataW H → Prop} {L : Nat → Prop} {cs : List Value} (her : Her ok L) (h : Tr enc prog ok w 51 cs) : ∃ b : List Int, cs = ints .u8 b ∧ b.length = 130 := by
  obtain ⟨hl, hf⟩ := Tr.array her u51 h
  rw [show prog.cellsOf 51 = 130 by kernel_rfl] at hl
  obtain ⟨b, hb⟩ := list_intsN (k := .u8) (cs := cs) (fun i hi => by
    have h0 := hf i (by omega)
    rw [show prog.cellsOf 5 = 1 by kernel_rfl] at h0
    obtain ⟨x, e, r⟩ := Tr.int u5 h0
    rw [List.drop_eq_getElem_cons (by omega)] at e
    simp only [Nat.mul_one, List.take_succ_cons, List.take_zero, List.cons.injEq, and_true] at e
    exact ⟨x, by rw [List.getElem?_eq_getElem hi, e]⟩)
  subst hb
  exact ⟨b, rfl, by simpa [ints] using hl⟩
theorem cut5 {cs : List Value} (hl : cs.length = 165) : cs = cs.take 1 ++ ((((cs.drop 1).take 164).drop 0).take 1 ++ ((((cs.drop 1).take 164).drop 1).take 32 ++ ((((cs.drop 1).take 164).drop 33).take 1 ++ (((cs.drop 1).take 164).drop 34).take 130))) := by
  rw [List.take_of_length_le (l := cs.drop 1) (by rw [List.length_drop]; omega)]
  rw [List.take_of_length_le (l := (cs.drop 1).drop 34) (by rw [List.length_drop, List.length_drop]; omega)]
  have e (xs : List Value) (a b : Nat) : (xs.drop a).take b ++ xs.drop (a + b) = xs.drop a := by rw [← List.drop_drop, List.take_append_drop]
  rw [e _ 33 1, e _ 1 32, e _ 0 1, List.drop_zero, List.take_append_drop]
set_option maxRecDepth 100000 in
theorem tr_seal {H : Type} {enc : TypeId × Value → H} {w : World} {ok : DataW H → Prop} {L : Nat → Prop} {cs : List Value} (her : Her ok L) (h : Tr enc prog ok w 55 cs) : ∃ s : SealT, cs = seE s ∧ SeOk s := by
  obtain ⟨hl, hf⟩ := Tr.struct her u55 h
  rw [show prog.cellsOf 55 = 165 by kernel_rfl] at hl
  have h0 := hf 0 _ rfl
  have h1 := hf 1 _ rfl
  dsimp only at h0 h1
  rw [show prog.cellsOf 3 = 1 by kernel_rfl] at h0
  rw [show prog.cellsOf 53 = 164 by kernel_rfl] at h1
  obtain ⟨c, e0, _⟩ := Tr.int u3 h0
  obtain ⟨_, hg⟩ := Tr.struct her u53 h1
  have g0 := hg 0 _ rfl
  have g1 := hg 1 _ rfl
  have g2 := hg 2 _ rfl
  have g3 := hg 3 _ rfl
  dsimp only at g0 g1 g2 g3
  rw [show prog.cellsOf 4 = 1 by kernel_rfl] at g0
  rw [show prog.cellsOf 50 = 32 by kernel_rfl] at g1
  rw [show prog.cellsOf 35 = 1 by kernel_rfl] at g2
  rw [show prog.cellsOf 51 = 130 by kernel_rfl] at g3
  obtain ⟨o, e1⟩ := Tr.bool u4 g0
  obtain ⟨p, e2, hp⟩ := tr_key her g1
  obtain ⟨r, e3, _⟩ := Tr.int u35 g2
  obtain ⟨b, e4, hb⟩ := tr_body her g3
  refine ⟨⟨c, o, p, r, b⟩, ?_, hp, hb⟩
  rw [cut5 hl, e1, e2, e3, e4]
  rw [List.drop_zero] at e0
  rw [e0]
  rfl
set_option maxRecDepth 100000 in
theorem tr_seals {H : Type} {enc : TypeId × Value → H} {w : World} {ok : DataW H → Prop} {L : Nat → Prop} {v : Value} (her : Her ok L) (h : Tr enc prog ok w 41 [v]) : ∃ (p : Option Addr) (cap : Nat) (xs : List SealT), v = .slice p xs.length cap ∧ L xs.length ∧ (∀ x ∈ xs, SeOk x) ∧ InW w p xs.length cap (xs.flatMap seE) := by
  obtain ⟨p, cap, xs, h1, hL, hk, h2⟩ := Tr.slice (encA := seE) (okA := SeOk) (k := 165) her u41 (by kernel_rfl) (by decide) (fun _ h => seE_length h) (fun cs hc => tr_seal her hc) h
  exact ⟨p, cap, xs, h1, hL, hk, h2⟩
set_option maxRecDepth 100000 in
theorem tr_keys {H : Type} {enc : TypeId × Value → H} {w : World} {ok : DataW H → Prop} {L : Nat → Prop} {v : Value} (her : Her ok L) (h : Tr enc prog ok w 40 [v]) : ∃ (p : Option Addr) (cap : Nat) (xs : List (List Int)), v = .slice p xs.length cap ∧ L xs.length ∧ (∀ x ∈ xs, x.length = 32) ∧ InW w p xs.length cap (xs.flatMap (ints .u8)) := by
  obtain ⟨p, cap, xs, h1, hL, hk, h2⟩ := Tr.slice (encA := ints .u8) (okA := fun k => k.length = 32) (k := 32) her u40 (by kernel_rfl) (by decide) (fun _ h => by simp [ints, h]) (fun cs hc => tr_key her hc) h
  exact ⟨p, cap, xs, h1, hL, hk, h2⟩
end
end
section
open Go Go.SL
section
attribute [local irreducible] J JL JE JM LS Y Fc RV Code.wp wpList Code.wpIn wpListIn
attribute [local irreducible] Yc
variable (E : World)
theorem intsU_spec (p1 p2 : Option Addr) (n c1 c2 : Nat) (xs : List Int) (l : List HProp) (hn : xs.length = n) (hn8 : n ≤ 1000000) (h1 : InL l p1 n c1 (ints .u64 xs)) (h2 : InL l p2 n c2 (ints .u64 xs)) :
    Fc prog E 20 [.slice p1 n c1, .slice p2 n c2].toArray l (fun v l' => v = .bool true ∧ l' = l) := by
  refine Fc.eqs ?_
  refine Fc.of_body (c := ?codeC) Tryd.func20 ?hb Tryd.ntmps20 ?hl ?_
  case hb => exact rfl
  case hl => exact rfl
  refine J.seq ?_
  refine J.region ?_
  refine JL.step (y_assign rfl) rfl rfl rfl ?_
  refine JL.nil ?_
  refine JE.then_normal ?_
  refine J.seq ?_
  refine J.seq ?_
  refine J.region ?_
  refine JL.step (y_move rfl) rfl rfl rfl (JL.step (y_len_slice hT rfl rfl rfl) rfl rfl rfl (JL.step (y_move rfl) rfl rfl rfl (JL.step (y_len_slice hT rfl rfl rfl) rfl rfl rfl (JL.step (y_neq rfl rfl) rfl rfl rfl ?_))))
  refine JL.nil ?_
  refine JE.then_normal ?_
  refine J.cond_f rfl (by (first | rfl | assumption | (simp; done) | (simp; omega))) ?_
  refine J.skip ?_
  refine JE.then_normal ?_
  refine J.seq ?_
  refine J.seq ?_
  refine J.region ?_
  refine JL.step (y_move rfl) rfl rfl rfl (JL.step (y_len_slice hT rfl rfl rfl) rfl rfl rfl (JL.step (y_move rfl) rfl rfl rfl ?_))
  refine JL.nil ?_
  refine JE.then_normal ?_
  refine J.block ?_
  refine J.loop (α := Nat) (fun i => i ≤ n) (fun i => [(0, .slice p1 n c1), (1, .slice p2 n c2), (12, .int .i64 n), (13, .int .i64 i)]) (fun _ => l) (fun i => n - i) 0 (Nat.zero_le _) ⟨rfl, rfl, rfl, rfl, trivial⟩ (fun w h => h) ?_
  intro i hi
  try dsimp only
  refine J.seq ?_
  refine J.region ?_
  refine JL.step (y_lss rfl rfl) rfl rfl rfl ?_
  refine JL.nil ?_
  refine JE.then_normal ?_
  refine J.seq ?_
  first | apply J.cond_dec rfl | apply J.cond rfl
  case' ht =>
    intro h
    try (first | (exfalso; omega) | (cases h; done) | (exfalso; simp at h; done) | subst h)
    all_goals
      refine J.skip ?_
  case' hf =>
    intro h
    try (first | (exfalso; omega) | (cases h; done) | (exfalso; simp at h; done) | subst h)
    all_goals
      refine J.exit ?_
      refine JE.then_exit ?_
      refine JE.then_exit ?_
      refine JE.block_exit ?_
      refine JE.then_normal ?_
      refine J.seq ?_
      refine J.region ?_
      refine JL.step (y_assign rfl) rfl rfl rfl ?_
      refine JL.nil ?_
      refine JE.then_normal ?_
      refine J.ret ?_
      refine JE.ret1 (.inl rfl) rfl rfl (by (first | exact RV.tmp rfl | exact RV.cell1 hT rfl rfl rfl (by (exact Rd1.row (by (repeat (first | exact Pick.head | apply Pick.tail | apply Pick.app))) (by rfl))) | exact RV.cellN hT rfl rfl rfl (by (first | exact RdN.rowAll (by (repeat (first | exact Pick.head | apply Pick.tail | apply Pick.app))) | exact RdN.own (by (repeat (first | exact Pick.head | apply Pick.tail | apply Pick.app))))) (by (first | rfl | assumption | (simp; done) | omega)))) ?_
      exact ⟨rfl, fun w h => h⟩
  all_goals refine JE.then_normal ?_
  all_goals
    refine J.seq ?_
    refine J.block ?_
    refine J.seq ?_
    refine J.region ?_
    refine JL.step (y_move rfl) rfl rfl rfl (JL.step (y_assign rfl) rfl rfl rfl ?_)
    refine JL.nil ?_
    refine JE.then_normal ?_
    refine J.seq ?_
    obtain ⟨x, hh⟩ : ∃ x, xs[i]? = some x := ⟨xs[i]'(by omega), List.getElem?_eq_getElem _⟩
    obtain ⟨g1, o1, rfl, hr1⟩ := h1.addr (by omega)
    obtain ⟨g2, o2, rfl, hr2⟩ := h2.addr (by omega)
    refine J.draw _ _ [(0, .q), (1, .q), (2, .q), (3, .q), (4, .q), (5, .q), (6, .q), (7, .q), (8, .q)] mixed (by kernel_rfl) (Split.nil) ?_
    refine JM.quiet rfl rfl rfl rfl (fun m => y_move rfl) ?_
    refine JM.quiet rfl rfl rfl rfl (fun m => y_move rfl) ?_
    refine JM.quiet rfl rfl rfl rfl (fun m => y_indexAddr_slice hT rfl rfl rfl rfl rfl (by (first | omega | exact Nat.le_of_ble_eq_true rfl | decide | (simp; omega))) (by (first | omega | exact Nat.le_of_ble_eq_true rfl | decide | (simp; omega)))) ?_
    refine JM.quiet rfl rfl rfl rfl (fun m => y_load1 hT rfl rfl rfl (Rd1.elem ((hr1 []).app m) (by rw [Int.toNat_natCast]; unfold ints; rw [List.getElem?_map, hh]; rfl))) ?_
    refine JM.quiet rfl rfl rfl rfl (fun m => y_move rfl) ?_
    refine JM.quiet rfl rfl rfl rfl (fun m => y_move rfl) ?_
    refine JM.quiet rfl rfl rfl rfl (fun m => y_indexAddr_slice hT rfl rfl rfl rfl rfl (by (first | omega | exact Nat.le_of_ble_eq_true rfl | decide | (simp; omega))) (by (first | omega | exact Nat.le_of_ble_eq_true rfl | decide | (simp; omega)))) ?_
    refine JM.quiet rfl rfl rfl rfl (fun m => y_load1 hT rfl rfl rfl (Rd1.elem ((hr2 []).app m) (by rw [Int.toNat_natCast]; unfold ints; rw [List.getElem?_map, hh]; rfl))) ?_
    refine JM.quiet rfl rfl rfl rfl (fun m => y_neq rfl rfl) ?_
    refine JM.nil ?_
    refine JE.then_normal ?_
    refine J.cond_f rfl (by (first | rfl | assumption | (simp; done) | (simp; omega))) ?_
    refine J.skip ?_
    refine JE.block_normal ?_
    refine JE.then_normal ?_
    refine J.region ?_
    refine JL.step (y_add rfl rfl (by (first | exact wrap_i64 (by omega) (by omega) | rfl))) rfl rfl rfl ?_
    refine JL.step (y_move rfl) rfl rfl rfl ?_
    refine JL.nil ?_
  all_goals
    exact JE.round (s := i) (i + 1) (by omega) ⟨rfl, rfl, rfl, rfl, trivial⟩ (fun w h => h) (by omega)
end
section
open Go.ChangeShapes Go.WideShapes Go.ChangeAt Go.RowKit
end
end
section
open Go Go.SL
section
theorem keys_cut {l : List HProp} {kp : Option Addr} {kn kc : Nat} {keys : List (List Int)} (hkn : keys.length = kn) (hk32 : ∀ k ∈ keys, k.length = 32) (hkin : InL l kp kn kc (keys.flatMap (ints .u8))) (mk : Nat) (hmk : mk ≤ kn) :
    ∃ b off, (kp = some ⟨b, off, none⟩ ∨ kc = 0) ∧ InL l (if kc = 0 then kp else some ⟨b, off + 0 * 32, none⟩) (mk - 0) (kc - 0) ((keys.take mk).flatMap (ints .u8)) := by
  have hs : ∀ x ∈ keys, (ints .u8 x).length = 32 := fun x hx => by simp [ints, hk32 x hx]
  obtain ⟨b, off, h1, h2⟩ := hkin.part (lo := 0) (hi := mk) (k := 32) (Nat.zero_le _) hmk (by rw [seg_len hs, hkn])
  rw [Nat.zero_mul, List.drop_zero, Nat.sub_zero, seg_take hs] at h2
  exact ⟨b, off, h1, by simpa using h2⟩
end
section
attribute [local irreducible] J JL JE JM LS Y Fc RV Code.wp wpList Code.wpIn wpListIn
attribute [local irreducible] Yc
variable (E : World)
end
section
open Go.ChangeShapes Go.WideShapes Go.ChangeAt Go.RowKit
end
end
end Go.Proofs.YtfohdnclpbipeaaDoor
