import Derived.Test.YtilifeeddpkclaaBase
import Derived.Test.YtilifeeddpkclaaSlMem
namespace Go.Proofs.Ytilifeeddpkclaa
open Go Go.SL
/-- A number's lowest bytes. -/
def leB (n : Nat) (x : BitVec 64) : List Int := (List.range n).map fun i => (((x >>> (8 * i)).toNat % 256 : Nat) : Int)
theorem leB_length (n : Nat) (x : BitVec 64) : (leB n x).length = n := by simp [leB]
theorem leB_next (n : Nat) (x : BitVec 64) : leB (n + 1) x = leB n x ++ [(((x >>> (8 * n)).toNat % 256 : Nat) : Int)] := by simp [leB, List.range_succ]
/-- The number that bytes begin with. -/
def leG (bs : List Int) : Nat → BitVec 64
  | 0 => 0#64
  | i + 1 => leG bs i ||| BitVec.ofInt 64 (bs.getD i 0) <<< (8 * i)
attribute [local irreducible] J JL JE JM LS Y Fc RV Code.wp wpList Code.wpIn wpListIn
variable (E : World)
theorem cloneB_spec (p : Option Addr) (cap : Nat) (bs : List Int) (l : List HProp) (hin : InL l p bs.length cap (ints .u8 bs)) (hn : bs.length ≤ 70368744177664) :
    Fc prog E 103 [.slice p bs.length cap].toArray l (fun v l' => ∃ a c, v = .slice a bs.length c ∧ l' = own 5 1 v bs.length (ints .u8 bs) :: l) := by
  refine Fc.post ?_
  have hbl : (ints .u8 bs).length = bs.length := by simp [ints]
  cases hp : p with
  | none =>
    subst hp
    obtain ⟨hc, hx⟩ := hin.rd.resolve_left (fun ⟨b, o, e, _⟩ => by cases e)
    have h0 : bs.length = 0 := by have := hin.le; omega
    refine Fc.of_body (c := ?c) Try.func103 ?hb Try.ntmps103 ?hl ?_
    case hb => exact rfl
    case hl => exact rfl
    refine J.seq ?_
    refine J.region ?_
    refine JL.step (y_assign rfl) rfl rfl rfl ?_
    refine JL.nil ?_
    refine JE.then_normal ?_
    refine J.seq ?_
    refine J.seq ?_
    refine J.region ?_
    refine JL.step (y_move rfl) rfl rfl rfl (JL.step (y_sl_eq_nil hT rfl rfl rfl rfl) rfl rfl rfl ?_)
    refine JL.nil ?_
    refine JE.then_normal ?_
    refine J.cond_t rfl (by (first | rfl | assumption | (simp; done) | (simp; omega))) ?_
    refine J.seq ?_
    refine J.region ?_
    refine JL.step (y_assign rfl) rfl rfl rfl ?_
    refine JL.nil ?_
    refine JE.then_normal ?_
    refine J.ret ?_
    refine JE.then_ret ?_
    refine JE.ret1 (.inl rfl) rfl rfl (by (first | exact RV.tmp rfl | exact RV.cell1 hT rfl rfl rfl (by (exact Rd1.row (by (repeat (first | exact Pick.head | apply Pick.tail | apply Pick.app))) (by rfl))) | exact RV.cellN hT rfl rfl rfl (by (first | exact RdN.rowAll (by (repeat (first | exact Pick.head | apply Pick.tail | apply Pick.app))) | exact RdN.own (by (repeat (first | exact Pick.head | apply Pick.tail | apply Pick.app))))) (by (first | rfl | assumption | (simp; done) | omega)))) ?_
    exact ⟨_, fun w q => by rw [hx, h0]; exact q.own_nil, none, 0, by rw [h0], rfl⟩
  | some a0 =>
    subst hp
    refine Fc.of_body (c := ?c) Try.func103 ?hb Try.ntmps103 ?hl ?_
    case hb => exact rfl
    case hl => exact rfl
    refine J.seq ?_
    refine J.region ?_
    refine JL.step (y_assign rfl) rfl rfl rfl ?_
    refine JL.nil ?_
    refine JE.then_normal ?_
    refine J.seq ?_
    refine J.seq ?_
    refine J.region ?_
    refine JL.step (y_move rfl) rfl rfl rfl (JL.step (y_sl_eq_nil hT rfl rfl rfl rfl) rfl rfl rfl ?_)
    refine JL.nil ?_
    refine JE.then_normal ?_
    refine J.cond_f rfl (by (first | rfl | assumption | (simp; done) | (simp; omega))) ?_
    refine J.skip ?_
    refine JE.then_normal ?_
    refine J.seq ?_
    refine J.region ?_
    refine JL.loud rfl (l_buildSlice0 hT rfl rfl rfl rfl (fun b1 => ?_))
    refine JL.step (y_move rfl) rfl rfl rfl ?_
    refine JL.loud rfl (l_appendIn hT rfl rfl rfl rfl rfl rfl rfl rfl Pick.head (hin.cons _) (by rw [hbl, show i5.size = 1 from rfl]; omega) (ints_one _ _) (by rw [show i5.bytes = 1 from rfl]; omega) (by omega) rfl (fun q c hc => ?_))
    refine JL.step (y_assign rfl) rfl rfl rfl ?_
    refine JL.nil ?_
    refine JE.then_normal ?_
    refine J.ret ?_
    refine JE.ret1 (.inl rfl) rfl rfl (by (first | exact RV.tmp rfl | exact RV.cell1 hT rfl rfl rfl (by (exact Rd1.row (by (repeat (first | exact Pick.head | apply Pick.tail | apply Pick.app))) (by rfl))) | exact RV.cellN hT rfl rfl rfl (by (first | exact RdN.rowAll (by (repeat (first | exact Pick.head | apply Pick.tail | apply Pick.app))) | exact RdN.own (by (repeat (first | exact Pick.head | apply Pick.tail | apply Pick.app))))) (by (first | rfl | assumption | (simp; done) | omega)))) ?_
    exact ⟨_, fun w s => by simp only [Nat.zero_add, List.nil_append] at s ⊢; exact s, q, c, by simp, rfl⟩
theorem octPut_spec (p : Option Addr) (cap : Nat) (bs : List Int) (x : BitVec 64) (n : Nat) (hn8 : n ≤ 8) (l : List HProp) (hin : InL l p bs.length cap (ints .u8 bs)) (hn : bs.length ≤ 1073741824) :
    Fc prog E 98 [.slice p bs.length cap, Q x, .int .i64 (n : Int)].toArray l (fun v l' => ∃ a c, v = .slice a (bs.length + n) c ∧ l' = own 5 1 v (bs.length + n) (ints .u8 (bs ++ leB n x)) :: l) := by
  refine Fc.post ?_
  refine Fc.of_body (c := ?c) Try.func98 ?hb Try.ntmps98 ?hl ?_
  case hb => exact rfl
  case hl => exact rfl
  refine J.seq ?_
  refine J.region ?_
  refine JL.step (y_assign rfl) rfl rfl rfl ?_
  refine JL.nil ?_
  refine JE.then_normal ?_
  refine J.seq ?_
  refine J.region ?_
  refine JL.step (y_move rfl) rfl rfl rfl ?_
  refine JL.loud rfl (l_callF e103 rfl rfl (cloneB_spec E p cap bs _ (by (repeat (first | assumption | apply InL.cons | apply InL.app))) (by omega)) ?_)
  rintro _ _ ⟨a0, c0, rfl, rfl⟩
  refine JL.step (y_assign rfl) rfl rfl rfl ?_
  refine JL.nil ?_
  refine JE.then_normal ?_
  refine J.seq ?_
  refine J.seq ?_
  refine J.region ?_
  refine JL.step (y_move rfl) rfl rfl rfl (JL.step (y_move rfl) rfl rfl rfl ?_)
  refine JL.nil ?_
  refine JE.then_normal ?_
  refine J.block ?_
  refine J.loop (α := Nat × Value) (fun s => s.1 ≤ n ∧ ∃ a c, s.2 = .slice a (bs.length + s.1) c) (fun s => [(0, s.2), (1, Q (x >>> (8 * s.1))), (9, .int .i64 n), (10, .int .i64 s.1)]) (fun s => own 5 1 s.2 (bs.length + s.1) (ints .u8 (bs ++ leB s.1 x)) :: l) (fun s => n - s.1) (0, .slice a0 bs.length c0) ⟨by simp, a0, c0, rfl⟩ ⟨rfl, rfl, rfl, rfl, trivial⟩ (fun w h => by simpa [leB] using h) ?_
  rintro ⟨j, v⟩ ⟨hj, hv⟩
  dsimp only at hj hv ⊢
  refine J.seq ?_
  refine J.region ?_
  refine JL.step (y_lss rfl rfl) rfl rfl rfl ?_
  refine JL.nil ?_
  refine JE.then_normal ?_
  refine J.seq ?_
  first | apply J.cond_dec rfl | apply J.cond rfl
  case' ht =>
    intro h
    try (first | (exfalso; omega) | (cases h; done) | (exfalso; simp at h; done) | subst h)
    all_goals
      refine J.skip ?_
  case' hf =>
    intro h
    try (first | (exfalso; omega) | (cases h; done) | (exfalso; simp at h; done) | subst h)
    all_goals
      refine J.exit ?_
      refine JE.then_exit ?_
      refine JE.then_exit ?_
      refine JE.block_exit ?_
      refine JE.then_normal ?_
      refine J.seq ?_
      refine J.region ?_
      refine JL.step (y_move rfl) rfl rfl rfl (JL.step (y_assign rfl) rfl rfl rfl ?_)
      refine JL.nil ?_
      refine JE.then_normal ?_
      refine J.ret ?_
      refine JE.ret1 (.inl rfl) rfl rfl (by (first | exact RV.tmp rfl | exact RV.cell1 hT rfl rfl rfl (by (exact Rd1.row (by (repeat (first | exact Pick.head | apply Pick.tail | apply Pick.app))) (by rfl))) | exact RV.cellN hT rfl rfl rfl (by (first | exact RdN.rowAll (by (repeat (first | exact Pick.head | apply Pick.tail | apply Pick.app))) | exact RdN.own (by (repeat (first | exact Pick.head | apply Pick.tail | apply Pick.app))))) (by (first | rfl | assumption | (simp; done) | omega)))) ?_
      obtain ⟨a, c, rfl⟩ := hv
      obtain rfl : j = n := by omega
      exact ⟨_, fun w q => q, a, c, rfl, rfl⟩
  all_goals refine JE.then_normal ?_
  all_goals
    refine J.seq ?_
    refine J.block ?_
    refine J.seq ?_
    refine J.region ?_
    refine JL.step (y_move rfl) rfl rfl rfl (JL.step (y_move rfl) rfl rfl rfl ?_)
    refine JL.step ((by first | exact y_convOfQ hT rfl rfl rfl rfl | exact y_conv hT rfl rfl rfl rfl (by (first | exact wrap_i64 (by omega) (by omega) | rfl)))) rfl rfl rfl ?_
    refine JL.loud rfl (l_buildSliceP hT rfl rfl rfl rfl rfl rfl rfl (by (first | exact fill_one rfl (by first | assumption | rfl | (simp; done)) | rfl | simp)) rfl (fun b2 => ?_))
    refine JL.loud rfl (l_append hT rfl rfl rfl rfl rfl rfl rfl rfl (by (repeat (first | exact Pick.head | apply Pick.tail | apply Pick.app))) (by (first | exact RdN.rowAll (by (repeat (first | exact Pick.head | apply Pick.tail | apply Pick.app))) | exact RdN.own (by (repeat (first | exact Pick.head | apply Pick.tail | apply Pick.app))))) (by (first | rfl | assumption | (simp; done) | omega)) (by (first | assumption | exact ones_of rfl | exact encW_one _ | exact encB_one _ | (intro u hu; simp at hu; rcases hu with rfl | rfl <;> rfl) | (intro u hu; simp at hu; subst hu; rfl) | simp)) (by (exact Nat.le_trans (Nat.mul_le_mul_left _ (Nat.le_of_ble_eq_true rfl : _ ≤ 4096)) (by omega))) (by (first | omega | exact Nat.le_of_ble_eq_true rfl | decide | (simp; omega))) rfl (fun ab3 cb3 hb3 => ?_))
    refine JL.step (y_assign rfl) rfl rfl rfl ?_
    refine JL.nil ?_
    refine JE.then_normal ?_
    refine J.region ?_
    refine JL.step (y_move rfl) rfl rfl rfl ?_
    refine JL.step ((by first | exact y_shrQ rfl rfl (by (first | omega | exact Nat.le_of_ble_eq_true rfl | decide | (simp; omega))) (by (first | omega | exact Nat.le_of_ble_eq_true rfl | decide | (simp; omega))) | exact y_shr rfl rfl (by (first | omega | exact Nat.le_of_ble_eq_true rfl | decide | (simp; omega))) (by rfl))) rfl rfl rfl ?_
    refine JL.step (y_assign rfl) rfl rfl rfl ?_
    refine JL.nil ?_
    refine JE.block_normal ?_
    refine JE.then_normal ?_
    refine J.region ?_
    refine JL.step (y_add rfl rfl (by (first | exact wrap_i64 (by omega) (by omega) | rfl))) rfl rfl rfl ?_
    refine JL.step (y_move rfl) rfl rfl rfl ?_
    refine JL.nil ?_
  all_goals
    refine JE.round (s := (j, v)) (j + 1, _) ⟨by dsimp only; omega, _, _, rfl⟩ ⟨rfl, congrArg (fun y => some (Q y)) (by dsimp only; rw [show 8 * (j + 1) = 8 * j + 8 by omega, BitVec.shiftRight_add]; rfl), rfl, rfl, trivial⟩ (fun w q => ?_) (by dsimp only; omega)
    have e : ints .u8 (bs ++ leB (j + 1) x) = ints .u8 (bs ++ leB j x) ++ [.int .u8 (((x >>> (8 * j)).toNat % 256 : Nat) : Int)] := by rw [leB_next]; simp [ints]
    dsimp only
    rw [e]
    exact q.sup (by (repeat (first | exact Sup.refl | apply Sup.cons (by (repeat (first | exact Pick.head | apply Pick.tail | apply Pick.app))) | apply Sup.app | apply Sup.skip | apply Sup.skips)))
theorem octPut64_spec (p : Option Addr) (cap : Nat) (bs : List Int) (x : BitVec 64) (l : List HProp) (hin : InL l p bs.length cap (ints .u8 bs)) (hn : bs.length ≤ 1073741824) :
    Fc prog E 87 [.slice p bs.length cap, Q x].toArray l (fun v l' => ∃ a c, v = .slice a (bs.length + 8) c ∧ l' = own 5 1 v (bs.length + 8) (ints .u8 (bs ++ leB 8 x)) :: l) := by
  refine Fc.of_body (c := ?c) Try.func87 ?hb Try.ntmps87 ?hl ?_
  case hb => exact rfl
  case hl => exact rfl
  refine J.seq ?_
  refine J.region ?_
  refine JL.step (y_assign rfl) rfl rfl rfl ?_
  refine JL.nil ?_
  refine JE.then_normal ?_
  refine J.seq ?_
  refine J.region ?_
  refine JL.step (y_move rfl) rfl rfl rfl (JL.step (y_move rfl) rfl rfl rfl ?_)
  refine JL.loud rfl (l_callF e98 rfl rfl (octPut_spec E p cap bs x 8 (by omega) _ (by (repeat (first | assumption | apply InL.cons | apply InL.app))) hn) ?_)
  rintro _ _ ⟨a, c, rfl, rfl⟩
  refine JL.step (y_assign rfl) rfl rfl rfl ?_
  refine JL.nil ?_
  refine JE.then_normal ?_
  refine J.ret ?_
  refine JE.ret1 (.inl rfl) rfl rfl (by (first | exact RV.tmp rfl | exact RV.cell1 hT rfl rfl rfl (by (exact Rd1.row (by (repeat (first | exact Pick.head | apply Pick.tail | apply Pick.app))) (by rfl))) | exact RV.cellN hT rfl rfl rfl (by (first | exact RdN.rowAll (by (repeat (first | exact Pick.head | apply Pick.tail | apply Pick.app))) | exact RdN.own (by (repeat (first | exact Pick.head | apply Pick.tail | apply Pick.app))))) (by (first | rfl | assumption | (simp; done) | omega)))) ?_
  exact ⟨a, c, rfl, rfl⟩
theorem octPut32_spec (p : Option Addr) (cap : Nat) (bs : List Int) (x : BitVec 32) (l : List HProp) (hin : InL l p bs.length cap (ints .u8 bs)) (hn : bs.length ≤ 1073741824) :
    Fc prog E 88 [.slice p bs.length cap, W x].toArray l (fun v l' => ∃ a c, v = .slice a (bs.length + 4) c ∧ l' = own 5 1 v (bs.length + 4) (ints .u8 (bs ++ leB 4 (BitVec.ofInt 64 (x.toNat : Int)))) :: l) := by
  refine Fc.of_body (c := ?c) Try.func88 ?hb Try.ntmps88 ?hl ?_
  case hb => exact rfl
  case hl => exact rfl
  refine J.seq ?_
  refine J.region ?_
  refine JL.step (y_assign rfl) rfl rfl rfl ?_
  refine JL.nil ?_
  refine JE.then_normal ?_
  refine J.seq ?_
  refine J.region ?_
  refine JL.step (y_move rfl) rfl rfl rfl (JL.step (y_move rfl) rfl rfl rfl ?_)
  refine JL.step (y_convToQ hT rfl rfl rfl rfl) rfl rfl rfl ?_
  refine JL.loud rfl (l_callF e98 rfl rfl (octPut_spec E p cap bs _ 4 (by omega) _ (by (repeat (first | assumption | apply InL.cons | apply InL.app))) hn) ?_)
  rintro _ _ ⟨a, c, rfl, rfl⟩
  refine JL.step (y_assign rfl) rfl rfl rfl ?_
  refine JL.nil ?_
  refine JE.then_normal ?_
  refine J.ret ?_
  refine JE.ret1 (.inl rfl) rfl rfl (by (first | exact RV.tmp rfl | exact RV.cell1 hT rfl rfl rfl (by (exact Rd1.row (by (repeat (first | exact Pick.head | apply Pick.tail | apply Pick.app))) (by rfl))) | exact RV.cellN hT rfl rfl rfl (by (first | exact RdN.rowAll (by (repeat (first | exact Pick.head | apply Pick.tail | apply Pick.app))) | exact RdN.own (by (repeat (first | exact Pick.head | apply Pick.tail | apply Pick.app))))) (by (first | rfl | assumption | (simp; done) | omega)))) ?_
  exact ⟨a, c, rfl, rfl⟩
theorem octGet64_spec (p : Option Addr) (cap : Nat) (bs : List Int) (l : List HProp) (hin : InL l p bs.length cap (ints .u8 bs)) :
    Fc prog E 105 [.slice p bs.length cap].toArray l (fun v l' => v = Q (leG bs (min bs.length 8)) ∧ l' = l) := by
  have hbl : (ints .u8 bs).length = bs.length := by simp [ints]
  have hpp : ∃ b o, p = some ⟨b, o, none⟩ ∨ cap = 0 := by
    rcases hin.rd with ⟨b, o, e, _⟩ | ⟨e, _⟩
    · exact ⟨b, o, .inl e⟩
    · exact ⟨0, 0, .inr e⟩
  obtain ⟨b, o, hpo⟩ := hpp
  obtain ⟨n, hn⟩ : ∃ n, min bs.length 8 = n := ⟨_, rfl⟩
  rw [hn]
  refine Fc.of_body (c := ?c) Try.func105 ?hb Try.ntmps105 ?hl ?_
  case hb => exact rfl
  case hl => exact rfl
  refine J.seq ?_
  refine J.region ?_
  refine JL.step (y_assign rfl) rfl rfl rfl ?_
  refine JL.nil ?_
  refine JE.then_normal ?_
  refine J.seq ?_
  refine J.region ?_
  refine JL.step (y_assign rfl) rfl rfl rfl ?_
  refine JL.nil ?_
  refine JE.then_normal ?_
  refine J.seq ?_
  refine J.seq ?_
  refine J.region ?_
  refine JL.step (y_move rfl) rfl rfl rfl (JL.step (y_move rfl) rfl rfl rfl (JL.step (y_len_slice hT rfl rfl rfl) rfl rfl rfl ?_))
  refine JL.step (y_min2 (m := (n : Int)) rfl rfl (by omega)) rfl rfl rfl ?_
  refine JL.step (y_slice (lo := 0) (hi := n) (b := b) (off := o) hT rfl rfl rfl rfl (.inl ⟨rfl, rfl⟩) (.inr ⟨_, _, _, rfl, rfl, rfl⟩) (by omega) (by have := hin.le; omega) hin.le hpo) rfl rfl rfl ?_
  refine JL.step (y_len_slice hT rfl rfl rfl) rfl rfl rfl (JL.step (y_move rfl) rfl rfl rfl ?_)
  refine JL.nil ?_
  refine JE.then_normal ?_
  refine J.block ?_
  refine J.loop (α := Nat) (fun j => j ≤ n) (fun j => [(3, Q (leG bs j)), (10, .slice (if cap = 0 then p else some ⟨b, o + 0 * i5.size, none⟩) (n - 0) (cap - 0)), (11, .int .i64 n), (12, .int .i64 j)]) (fun _ => l) (fun j => n - j) 0 (by omega) ⟨rfl, rfl, rfl, rfl, trivial⟩ (fun w h => h) ?_
  intro j hj
  refine J.seq ?_
  refine J.region ?_
  refine JL.step (y_lss rfl rfl) rfl rfl rfl ?_
  refine JL.nil ?_
  refine JE.then_normal ?_
  refine J.seq ?_
  first | apply J.cond_dec rfl | apply J.cond rfl
  case' ht =>
    intro h
    try (first | (exfalso; omega) | (cases h; done) | (exfalso; simp at h; done) | subst h)
    all_goals
      refine J.skip ?_
  case' hf =>
    intro h
    try (first | (exfalso; omega) | (cases h; done) | (exfalso; simp at h; done) | subst h)
    all_goals
      refine J.exit ?_
      refine JE.then_exit ?_
      refine JE.then_exit ?_
      refine JE.block_exit ?_
      refine JE.then_normal ?_
      refine J.seq ?_
      refine J.region ?_
      refine JL.step (y_move rfl) rfl rfl rfl (JL.step (y_assign rfl) rfl rfl rfl ?_)
      refine JL.nil ?_
      refine JE.then_normal ?_
      refine J.ret ?_
      refine JE.ret1 (.inl rfl) rfl rfl (by (first | exact RV.tmp rfl | exact RV.cell1 hT rfl rfl rfl (by (exact Rd1.row (by (repeat (first | exact Pick.head | apply Pick.tail | apply Pick.app))) (by rfl))) | exact RV.cellN hT rfl rfl rfl (by (first | exact RdN.rowAll (by (repeat (first | exact Pick.head | apply Pick.tail | apply Pick.app))) | exact RdN.own (by (repeat (first | exact Pick.head | apply Pick.tail | apply Pick.app))))) (by (first | rfl | assumption | (simp; done) | omega)))) ?_
      obtain rfl : j = n := by omega
      exact ⟨rfl, rfl⟩
  all_goals refine JE.then_normal ?_
  all_goals
    refine J.seq ?_
    refine J.block ?_
    refine J.seq ?_
    refine J.region ?_
    obtain ⟨g, o', rfl, hr⟩ := hin.addr (by omega)
    have hle := hin.le
    have hr0 : RdN l g o' (ints .u8 bs) := hr []
    have hc0 : ¬ cap = 0 := by omega
    obtain ⟨rfl, rfl⟩ : g = b ∧ o' = o := by
      rcases hpo with h | h
      · simpa using h
      · exact absurd h hc0
    rw [if_neg hc0]
    refine JL.step (y_move rfl) rfl rfl rfl ?_
    refine JL.step (y_indexAddr_slice hT rfl rfl rfl rfl rfl (by (first | omega | exact Nat.le_of_ble_eq_true rfl | decide | (simp; omega))) (by (first | omega | exact Nat.le_of_ble_eq_true rfl | decide | (simp; omega)))) rfl rfl rfl ?_
    refine JL.step (y_load1 hT rfl rfl rfl (Rd1.bytesAt (j := j) (by (repeat (first | assumption | apply RdN.cons | apply RdN.app))) (by omega) (by rw [show i5.size = 1 from rfl]; omega))) rfl rfl rfl ?_
    refine JL.step (y_assign rfl) rfl rfl rfl (JL.step (y_assign rfl) rfl rfl rfl ?_)
    refine JL.nil ?_
    refine JE.then_normal ?_
    refine J.region ?_
    refine JL.step (y_move rfl) rfl rfl rfl (JL.step (y_move rfl) rfl rfl rfl ?_)
    refine JL.step ((by first | exact y_convToQ hT rfl rfl rfl rfl | exact y_conv hT rfl rfl rfl rfl (by (first | exact wrap_i64 (by omega) (by omega) | rfl)))) rfl rfl rfl ?_
    refine JL.step (y_move rfl) rfl rfl rfl ?_
    refine JL.step (y_mul rfl rfl (by (first | exact wrap_i64 (by omega) (by omega) | rfl))) rfl rfl rfl ?_
    refine JL.step (y_shlQ rfl rfl (by omega) (by omega)) rfl rfl rfl ?_
    refine JL.step ((by first | exact y_orQ rfl rfl | exact y_bits rfl rfl (by rfl))) rfl rfl rfl ?_
    refine JL.step (y_assign rfl) rfl rfl rfl ?_
    refine JL.nil ?_
    refine JE.block_normal ?_
    refine JE.then_normal ?_
    refine J.region ?_
    refine JL.step (y_add rfl rfl (by (first | exact wrap_i64 (by omega) (by omega) | rfl))) rfl rfl rfl ?_
    refine JL.step (y_move rfl) rfl rfl rfl ?_
    refine JL.nil ?_
  all_goals
    refine JE.round (s := j) (j + 1) (by omega) ⟨?_, by first | rfl | (rw [if_neg hc0]; rfl), rfl, rfl, trivial⟩ (fun w h => h) (by omega)
    have e : (8 * (j : Int)).toNat = 8 * j := by omega
    rw [e]
    rfl
end Go.Proofs.Ytilifeeddpkclaa
