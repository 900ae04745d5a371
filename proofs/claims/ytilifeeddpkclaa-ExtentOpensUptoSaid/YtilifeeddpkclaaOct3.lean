import Derived.Test.YtilifeeddpkclaaOct2
namespace Go.Proofs.Ytilifeeddpkclaa
open Go Go.SL
/-- Bytes held against each other. -/
def unlike (xs ys : List Int) : Nat → BitVec 8
  | 0 => 0#8
  | k + 1 => unlike xs ys k ||| (BitVec.ofInt 8 (xs.getD k 0) ^^^ BitVec.ofInt 8 (ys.getD k 0))
theorem wrap_bv8 (z : BitVec 8) : IntKind.u8.wrap (z.toNat : Int) = (z.toNat : Int) := by
  rw [wrap_u8]
  have := z.isLt
  omega
def Bytes (xs : List Int) : Prop := ∀ x ∈ xs, 0 ≤ x ∧ x ≤ 255
theorem byte_inj {x y : Int} (hx : 0 ≤ x ∧ x ≤ 255) (hy : 0 ≤ y ∧ y ≤ 255) (h : BitVec.ofInt 8 x = BitVec.ofInt 8 y) : x = y := by
  have h1 := congrArg BitVec.toNat h
  rw [BitVec.toNat_ofInt, BitVec.toNat_ofInt] at h1
  omega
theorem Bytes.getD {xs : List Int} (h : Bytes xs) (k : Nat) : 0 ≤ xs.getD k 0 ∧ xs.getD k 0 ≤ 255 := by
  rw [List.getD_eq_getElem?_getD]
  cases e : xs[k]? with
  | none => exact ⟨Int.le_refl 0, by decide⟩
  | some x => exact h x (List.mem_of_getElem? e)
theorem unlike_zero {xs ys : List Int} (hx : Bytes xs) (hy : Bytes ys) : ∀ k, unlike xs ys k = 0#8 ↔ ∀ i, i < k → xs.getD i 0 = ys.getD i 0
  | 0 => by simp [unlike]
  | k + 1 => by
    rw [unlike, BitVec.or_eq_zero_iff, unlike_zero hx hy k, BitVec.xor_eq_zero_iff]
    constructor
    · rintro ⟨h1, h2⟩ i hi
      by_cases h : i = k
      · subst h; exact byte_inj (hx.getD i) (hy.getD i) h2
      · exact h1 i (by omega)
    · exact fun h => ⟨fun i hi => h i (by omega), by rw [h k (by omega)]⟩
theorem unlike_eq {xs ys : List Int} (hx : Bytes xs) (hy : Bytes ys) (hl : xs.length = ys.length) : unlike xs ys xs.length = 0#8 ↔ xs = ys := by
  rw [unlike_zero hx hy]
  constructor
  · intro h
    refine List.ext_getElem hl fun i h1 h2 => ?_
    have := h i h1
    simpa [List.getD_eq_getElem?_getD, h1, h2] using this
  · rintro rfl i _
    rfl
attribute [local irreducible] J JL JE JM LS Y Fc RV Code.wp wpList Code.wpIn wpListIn
variable (E : World)
theorem equal_spec (p q : Option Addr) (c1 c2 : Nat) (xs ys : List Int) (l : List HProp) (hx : Bytes xs) (hy : Bytes ys) (hp : InL l p xs.length c1 (ints .u8 xs)) (hq : InL l q ys.length c2 (ints .u8 ys)) (hb : xs.length ≤ 70368744177664) (hb2 : ys.length ≤ 70368744177664) :
    Fc prog E 55 [.slice p xs.length c1, .slice q ys.length c2].toArray l (fun v l' => v = .bool (decide (xs = ys)) ∧ l' = l) := by
  by_cases hl : xs.length = ys.length
  case neg =>
    have e : decide (xs = ys) = false := by simp; rintro rfl; exact hl rfl
    rw [e]
    refine Fc.of_body (c := ?c) Try.func55 ?hb Try.ntmps55 ?hl ?_
    case hb => exact rfl
    case hl => exact rfl
    refine J.seq ?_
    refine J.region ?_
    refine JL.step (y_assign rfl) rfl rfl rfl ?_
    refine JL.nil ?_
    refine JE.then_normal ?_
    refine J.seq ?_
    refine J.seq ?_
    refine J.region ?_
    refine JL.step (y_move rfl) rfl rfl rfl (JL.step (y_len_slice hT rfl rfl rfl) rfl rfl rfl (JL.step (y_move rfl) rfl rfl rfl (JL.step (y_len_slice hT rfl rfl rfl) rfl rfl rfl (JL.step (y_neq rfl rfl) rfl rfl rfl ?_))))
    refine JL.nil ?_
    refine JE.then_normal ?_
    refine J.cond_t rfl (by (first | rfl | assumption | (simp; done) | (simp; omega))) ?_
    refine J.seq ?_
    refine J.region ?_
    refine JL.step (y_assign rfl) rfl rfl rfl ?_
    refine JL.nil ?_
    refine JE.then_normal ?_
    refine J.ret ?_
    refine JE.then_ret ?_
    refine JE.ret1 (.inl rfl) rfl rfl (by (first | exact RV.tmp rfl | exact RV.cell1 hT rfl rfl rfl (by (exact Rd1.row (by (repeat (first | exact Pick.head | apply Pick.tail | apply Pick.app))) (by rfl))) | exact RV.cellN hT rfl rfl rfl (by (first | exact RdN.rowAll (by (repeat (first | exact Pick.head | apply Pick.tail | apply Pick.app))) | exact RdN.own (by (repeat (first | exact Pick.head | apply Pick.tail | apply Pick.app))))) (by (first | rfl | assumption | (simp; done) | omega)))) ?_
    exact ⟨rfl, rfl⟩
  obtain ⟨n, hn⟩ : ∃ n, xs.length = n := ⟨_, rfl⟩
  have hn2 : ys.length = n := by omega
  have hxl : (ints .u8 xs).length = n := by simp [ints, hn]
  have hyl : (ints .u8 ys).length = n := by simp [ints, hn2]
  rw [hn] at hp hb
  rw [hn2] at hq
  rw [hn, hn2]
  refine Fc.of_body (c := ?c) Try.func55 ?hb Try.ntmps55 ?hl ?_
  case hb => exact rfl
  case hl => exact rfl
  refine J.seq ?_
  refine J.region ?_
  refine JL.step (y_assign rfl) rfl rfl rfl ?_
  refine JL.nil ?_
  refine JE.then_normal ?_
  refine J.seq ?_
  refine J.seq ?_
  refine J.region ?_
  refine JL.step (y_move rfl) rfl rfl rfl (JL.step (y_len_slice hT rfl rfl rfl) rfl rfl rfl (JL.step (y_move rfl) rfl rfl rfl (JL.step (y_len_slice hT rfl rfl rfl) rfl rfl rfl (JL.step (y_neq rfl rfl) rfl rfl rfl ?_))))
  refine JL.nil ?_
  refine JE.then_normal ?_
  refine J.cond_f rfl (by (first | rfl | assumption | (simp; done) | (simp; omega))) ?_
  refine J.skip ?_
  refine JE.then_normal ?_
  refine J.seq ?_
  refine J.region ?_
  refine JL.step (y_assign rfl) rfl rfl rfl ?_
  refine JL.nil ?_
  refine JE.then_normal ?_
  refine J.seq ?_
  refine J.seq ?_
  refine J.region ?_
  refine JL.step (y_move rfl) rfl rfl rfl (JL.step (y_len_slice hT rfl rfl rfl) rfl rfl rfl (JL.step (y_move rfl) rfl rfl rfl ?_))
  refine JL.nil ?_
  refine JE.then_normal ?_
  refine J.block ?_
  refine J.loop (α := Nat) (fun j => j ≤ n) (fun j => [(0, .slice p n c1), (1, .slice q n c2), (5, .int .u8 ((unlike xs ys j).toNat : Int)), (13, .int .i64 n), (14, .int .i64 j)]) (fun _ => l) (fun j => n - j) 0 (by omega) ⟨rfl, rfl, rfl, rfl, rfl, trivial⟩ (fun w h => h) ?_
  intro j hj
  refine J.seq ?_
  refine J.region ?_
  refine JL.step (y_lss rfl rfl) rfl rfl rfl ?_
  refine JL.nil ?_
  refine JE.then_normal ?_
  refine J.seq ?_
  first | apply J.cond_dec rfl | apply J.cond rfl
  case' ht =>
    intro h
    try (first | (exfalso; omega) | (cases h; done) | (exfalso; simp at h; done) | subst h)
    all_goals
      refine J.skip ?_
  case' hf =>
    intro h
    try (first | (exfalso; omega) | (cases h; done) | (exfalso; simp at h; done) | subst h)
    all_goals
      refine J.exit ?_
      refine JE.then_exit ?_
      refine JE.then_exit ?_
      refine JE.block_exit ?_
      refine JE.then_normal ?_
      refine J.seq ?_
      refine J.region ?_
      refine JL.step (y_move rfl) rfl rfl rfl (JL.step (y_eql rfl rfl) rfl rfl rfl (JL.step (y_assign rfl) rfl rfl rfl ?_))
      refine JL.nil ?_
      refine JE.then_normal ?_
      refine J.ret ?_
      refine JE.ret1 (.inl rfl) rfl rfl (by (first | exact RV.tmp rfl | exact RV.cell1 hT rfl rfl rfl (by (exact Rd1.row (by (repeat (first | exact Pick.head | apply Pick.tail | apply Pick.app))) (by rfl))) | exact RV.cellN hT rfl rfl rfl (by (first | exact RdN.rowAll (by (repeat (first | exact Pick.head | apply Pick.tail | apply Pick.app))) | exact RdN.own (by (repeat (first | exact Pick.head | apply Pick.tail | apply Pick.app))))) (by (first | rfl | assumption | (simp; done) | omega)))) ?_
      obtain rfl : j = n := by omega
      refine ⟨?_, rfl⟩
      congr 1
      rw [decide_eq_decide]
      have := unlike_eq hx hy hl
      rw [hn] at this
      rw [← this]
      constructor
      · intro h
        exact BitVec.eq_of_toNat_eq (by simp; omega)
      · intro h
        rw [h]
        rfl
  all_goals refine JE.then_normal ?_
  all_goals
    refine J.seq ?_
    refine J.block ?_
    refine J.seq ?_
    refine J.region ?_
    refine JL.step (y_move rfl) rfl rfl rfl (JL.step (y_assign rfl) rfl rfl rfl ?_)
    refine JL.nil ?_
    refine JE.then_normal ?_
    refine J.draw _ _ [(0, .q), (1, .q), (2, .q), (3, .q), (4, .q), (5, .q), (6, .q), (7, .q), (8, .q), (9, .q), (10, .q), (11, .q)] mixed (by kernel_rfl) (Split.nil) ?_
    have hlt : j < n := by omega
    obtain ⟨g1, o1, rfl, hr1⟩ := hp.addr (by omega)
    obtain ⟨g2, o2, rfl, hr2⟩ := hq.addr (by omega)
    refine JM.quiet rfl rfl rfl rfl (fun m => y_move rfl) ?_
    refine JM.quiet rfl rfl rfl rfl (fun m => y_move rfl) ?_
    refine JM.quiet rfl rfl rfl rfl (fun m => y_move rfl) ?_
    refine JM.quiet rfl rfl rfl rfl (fun m => y_indexAddr_slice hT rfl rfl rfl rfl rfl (by (first | omega | exact Nat.le_of_ble_eq_true rfl | decide | (simp; omega))) (by (first | omega | exact Nat.le_of_ble_eq_true rfl | decide | (simp; omega)))) ?_
    refine JM.quiet rfl rfl rfl rfl (fun m => y_load1 hT rfl rfl rfl (Rd1.bytesAt (bs := xs) (j := j) (hr1 m) (by omega) (by rw [show i5.size = 1 from rfl]; omega))) ?_
    refine JM.quiet rfl rfl rfl rfl (fun m => y_move rfl) ?_
    refine JM.quiet rfl rfl rfl rfl (fun m => y_move rfl) ?_
    refine JM.quiet rfl rfl rfl rfl (fun m => y_indexAddr_slice hT rfl rfl rfl rfl rfl (by (first | omega | exact Nat.le_of_ble_eq_true rfl | decide | (simp; omega))) (by (first | omega | exact Nat.le_of_ble_eq_true rfl | decide | (simp; omega)))) ?_
    refine JM.quiet rfl rfl rfl rfl (fun m => y_load1 hT rfl rfl rfl (Rd1.bytesAt (bs := ys) (j := j) (hr2 m) (by omega) (by rw [show i5.size = 1 from rfl]; omega))) ?_
    refine JM.quiet rfl rfl rfl rfl (fun m => y_bits (m := ((BitVec.ofInt 8 (xs.getD j 0) ^^^ BitVec.ofInt 8 (ys.getD j 0)).toNat : Int)) rfl rfl (by simp only [bitsE]; exact congrArg some (wrap_bv8 _))) ?_
    refine JM.quiet rfl rfl rfl rfl (fun m => y_bits (m := ((unlike xs ys (j + 1)).toNat : Int)) rfl rfl (by
      simp only [bitsE]
      rw [show BitVec.ofInt IntKind.u8.bits ((unlike xs ys j).toNat : Int) = unlike xs ys j from BitVec.eq_of_toNat_eq (by simp [IntKind.bits])]
      rw [show ∀ z : BitVec 8, BitVec.ofInt IntKind.u8.bits (z.toNat : Int) = z from fun z => BitVec.eq_of_toNat_eq (by simp [IntKind.bits])]
      exact congrArg some (wrap_bv8 _))) ?_
    refine JM.quiet rfl rfl rfl rfl (fun m => y_assign rfl) ?_
    refine JM.nil ?_
    refine JE.block_normal ?_
    refine JE.then_normal ?_
    refine J.region ?_
    refine JL.step (y_add rfl rfl (by (first | exact wrap_i64 (by omega) (by omega) | rfl))) rfl rfl rfl ?_
    refine JL.step (y_move rfl) rfl rfl rfl ?_
    refine JL.nil ?_
  all_goals
    exact JE.round (s := j) (j + 1) (by omega) ⟨rfl, rfl, rfl, rfl, rfl, trivial⟩ (fun w q => q) (by omega)
end Go.Proofs.Ytilifeeddpkclaa
