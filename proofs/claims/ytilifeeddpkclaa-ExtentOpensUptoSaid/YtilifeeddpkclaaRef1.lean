import Derived.Test.YtilifeeddpkclaaOct3
namespace Go.Proofs.Ytilifeeddpkclaa
open Go Go.SL
/-! The document's answer for layer 1: rows of bytes, low forms. -/
/-- The number of the low form, from above. -/
def highR (bs : List Int) : Nat → BitVec 64
  | 0 => 0#64
  | k + 1 => highR bs k * 256#64 + (if 7 - k < bs.length then BitVec.ofInt 64 (bs.getD (7 - k) 0) else 0#64)
theorem byte_or (x : BitVec 64) {b : Int} (hb : 0 ≤ b ∧ b ≤ 255) : x <<< 8 + BitVec.ofInt 64 b = x <<< 8 ||| BitVec.ofInt 64 b := by
  refine BitVec.add_eq_or_of_and_eq_zero _ _ ?_
  refine BitVec.eq_of_getLsbD_eq fun j hj => ?_
  rw [BitVec.getLsbD_and, BitVec.getLsbD_shiftLeft, show (0#64 : BitVec 64).getLsbD j = false by simp]
  by_cases h8 : j < 8
  · simp [h8]
  · have : (BitVec.ofInt 64 b).getLsbD j = false := by
      rw [BitVec.getLsbD]
      refine Nat.testBit_lt_two_pow ?_
      have h1 : (BitVec.ofInt 64 b).toNat = b.toNat := by rw [BitVec.toNat_ofInt]; omega
      rw [h1]
      have : 2 ^ 8 ≤ 2 ^ j := Nat.pow_le_pow_right (by decide) (by omega)
      omega
    simp [this]
theorem leG_cons (y : Int) (ys : List Int) : ∀ m, m ≤ 7 → leG (y :: ys) (m + 1) = leG ys m <<< 8 ||| BitVec.ofInt 64 y
  | 0, _ => by simp [leG]
  | m + 1, h => by
    rw [leG, leG_cons y ys m (by omega), leG, List.getD_cons_succ, BitVec.shiftLeft_or_distrib, show 8 * (m + 1) = 8 * m + 8 by omega, BitVec.shiftLeft_add]
    simp only [BitVec.or_assoc, BitVec.or_comm (BitVec.ofInt 64 y)]
theorem highR_eq {bs : List Int} (hb : Bytes bs) : ∀ k, k ≤ 8 → highR bs k = leG (bs.drop (8 - k)) (min (bs.length - (8 - k)) k)
  | 0, _ => by simp [highR, leG]
  | k + 1, h => by
    rw [highR, highR_eq hb k (by omega)]
    by_cases h7 : 7 - k < bs.length
    · rw [if_pos h7, show (256#64 : BitVec 64) = BitVec.twoPow 64 8 from rfl, BitVec.mul_twoPow_eq_shiftLeft, byte_or _ (hb.getD _), show 8 - (k + 1) = 7 - k by omega, List.drop_eq_getElem_cons h7]
      rw [show min (bs.length - (7 - k)) (k + 1) = min (bs.length - (8 - k)) k + 1 by omega, leG_cons _ _ _ (by omega), show 7 - k + 1 = 8 - k by omega, List.getD_eq_getElem?_getD, List.getElem?_eq_getElem h7]
      rfl
    · rw [if_neg h7, show min (bs.length - (8 - k)) k = 0 by omega, show min (bs.length - (8 - (k + 1))) (k + 1) = 0 by omega]
      simp [leG]
theorem low_get (x : BitVec 64) (i : Nat) : (x >>> (8 * i)).toNat / 256 = (x >>> (8 * (i + 1))).toNat := by
  rw [BitVec.toNat_ushiftRight, BitVec.toNat_ushiftRight, Nat.shiftRight_eq_div_pow, Nat.shiftRight_eq_div_pow, Nat.div_div_eq_div_mul, show 8 * (i + 1) = 8 * i + 8 by omega, Nat.pow_add]
theorem take_snocD (xs : List Int) {k : Nat} (h : k < xs.length) : xs.take (k + 1) = xs.take k ++ [xs.getD k 0] := by
  rw [List.take_add_one, List.getD_eq_getElem?_getD, List.getElem?_eq_getElem h]
  rfl
attribute [local irreducible] J JL JE JM LS Y Fc RV Code.wp wpList Code.wpIn wpListIn
variable (E : World)
theorem rlow_spec (x : BitVec 64) (n : Nat) (hn : n ≤ 4096) (l : List HProp) :
    Fc prog E 75 [Q x, .int .i64 (n : Int)].toArray l (fun v l' => ∃ a c, v = .slice a n c ∧ l' = own 5 1 v n (ints .u8 (leB n x)) :: l) := by
  refine Fc.post ?_
  have e0 : (madeCells (Value.int .u8 0).cells ((n : Int).toNat * i5.size)).toList = ints .u8 (leB 0 x ++ List.replicate (n - 0) 0) := by
    rw [show (Value.int .u8 0).cells = (List.replicate 1 (Value.int .u8 0)).toArray from rfl, madeCells_rep _ (by omega), show i5.size = 1 from rfl, Int.toNat_natCast]
    simp [leB, ints]
  refine Fc.of_body (c := ?c) Try.func75 ?hb Try.ntmps75 ?hl ?_
  case hb => exact rfl
  case hl => exact rfl
  refine J.seq ?_
  refine J.region ?_
  refine JL.step (y_assign rfl) rfl rfl rfl ?_
  refine JL.nil ?_
  refine JE.then_normal ?_
  refine J.seq ?_
  refine J.region ?_
  refine JL.step (y_move rfl) rfl rfl rfl ?_
  refine JL.loud rfl (l_makeSlice hT rfl rfl rfl rfl rfl rfl (by (first | omega | exact Nat.le_of_ble_eq_true rfl | decide | (simp; omega))) (by (first | omega | exact Nat.le_of_ble_eq_true rfl | decide | (simp; omega))) (mk_fits rfl (by (first | omega | exact Nat.le_of_ble_eq_true rfl | decide | (simp; omega))) (by (first | omega | exact Nat.le_of_ble_eq_true rfl | decide | (simp; omega)))) (by (first | omega | exact Nat.le_of_ble_eq_true rfl | decide | (simp; omega))) rfl (fun b1 => ?_))
  refine JL.step (y_assign rfl) rfl rfl rfl ?_
  refine JL.nil ?_
  refine JE.then_normal ?_
  refine J.seq ?_
  refine J.seq ?_
  refine J.region ?_
  refine JL.step (y_assign rfl) rfl rfl rfl ?_
  refine JL.nil ?_
  refine JE.then_normal ?_
  refine J.block ?_
  rw [e0]
  refine J.loop (α := Nat) (fun k => k ≤ n) (fun k => [(0, .int .u64 ((x >>> (8 * k)).toNat : Int)), (1, .int .i64 n), (5, .slice (some ⟨b1, 0, none⟩) n n), (6, .int .i64 k)]) (fun k => row b1 5 (ints .u8 (leB k x ++ List.replicate (n - k) 0)) :: l) (fun k => n - k) 0 (by omega) ⟨by rw [Nat.mul_zero, BitVec.ushiftRight_zero]; rfl, rfl, rfl, rfl, trivial⟩ (fun w h => h) ?_
  intro k hk
  have hlen : (ints .u8 (leB k x ++ List.replicate (n - k) 0)).length = n := by simp [ints, leB_length]; omega
  refine J.seq ?_
  refine J.seq ?_
  refine J.region ?_
  refine JL.step (y_move rfl) rfl rfl rfl (JL.step (y_move rfl) rfl rfl rfl (JL.step (y_lss rfl rfl) rfl rfl rfl ?_))
  refine JL.nil ?_
  refine JE.then_normal ?_
  first | apply J.cond_dec rfl | apply J.cond rfl
  case' ht =>
    intro h
    try (first | (exfalso; omega) | (cases h; done) | (exfalso; simp at h; done) | subst h)
    all_goals
      refine J.skip ?_
  case' hf =>
    intro h
    try (first | (exfalso; omega) | (cases h; done) | (exfalso; simp at h; done) | subst h)
    all_goals
      refine J.exit ?_
      refine JE.then_exit ?_
      refine JE.then_exit ?_
      refine JE.block_exit ?_
      refine JE.then_normal ?_
      refine J.seq ?_
      refine J.region ?_
      refine JL.step (y_move rfl) rfl rfl rfl (JL.step (y_assign rfl) rfl rfl rfl ?_)
      refine JL.nil ?_
      refine JE.then_normal ?_
      refine J.ret ?_
      refine JE.ret1 (.inl rfl) rfl rfl (by (first | exact RV.tmp rfl | exact RV.cell1 hT rfl rfl rfl (by (exact Rd1.row (by (repeat (first | exact Pick.head | apply Pick.tail | apply Pick.app))) (by rfl))) | exact RV.cellN hT rfl rfl rfl (by (first | exact RdN.rowAll (by (repeat (first | exact Pick.head | apply Pick.tail | apply Pick.app))) | exact RdN.own (by (repeat (first | exact Pick.head | apply Pick.tail | apply Pick.app))))) (by (first | rfl | assumption | (simp; done) | omega)))) ?_
      obtain rfl : k = n := by omega
      refine ⟨_, fun w q => ?_, _, _, rfl, rfl⟩
      rw [Nat.sub_self, List.replicate_zero, List.append_nil] at q
      exact q.ownAll (m := k) (size := 1) (by unfold maxLen; omega) (by simp [ints, leB_length])
  all_goals refine JE.then_normal ?_
  all_goals
    refine J.seq ?_
    refine J.block ?_
    refine J.seq ?_
    refine J.region ?_
    refine JL.step (y_move rfl) rfl rfl rfl (JL.step (y_move rfl) rfl rfl rfl (JL.step (y_move rfl) rfl rfl rfl ?_))
    refine JL.step (y_rem (m := (((x >>> (8 * k)).toNat % 256 : Nat) : Int)) rfl rfl (by decide) (by rw [Int.tmod_eq_emod_of_nonneg (by omega)]; omega)) rfl rfl rfl ?_
    refine JL.step (y_conv (m := (((x >>> (8 * k)).toNat % 256 : Nat) : Int)) hT rfl rfl rfl rfl (by rw [wrap_u8]; omega)) rfl rfl rfl ?_
    refine JL.step (y_indexAddr_slice hT rfl rfl rfl rfl rfl (by (first | omega | exact Nat.le_of_ble_eq_true rfl | decide | (simp; omega))) (by (first | omega | exact Nat.le_of_ble_eq_true rfl | decide | (simp; omega)))) rfl rfl rfl ?_
    refine JL.loud rfl (l_store1 hT rfl rfl rfl rfl rfl (by (repeat (first | exact Pick.head | apply Pick.tail | apply Pick.app))) (by rw [hlen, show i5.size = 1 from rfl]; omega) ?_)
    refine JL.nil ?_
    refine JE.then_normal ?_
    refine J.region ?_
    refine JL.step (y_move rfl) rfl rfl rfl ?_
    refine JL.step (y_quo (m := ((x >>> (8 * (k + 1))).toNat : Int)) rfl rfl (by decide) (by
      rw [Int.tdiv_eq_ediv_of_nonneg (by omega), ← low_get, wrap_Q]
      have := (x >>> (8 * k)).isLt
      omega)) rfl rfl rfl ?_
    refine JL.step (y_assign rfl) rfl rfl rfl ?_
    refine JL.nil ?_
    refine JE.block_normal ?_
    refine JE.then_normal ?_
    refine J.region ?_
    refine JL.step (y_move rfl) rfl rfl rfl ?_
    refine JL.step (y_add rfl rfl (by (first | exact wrap_i64 (by omega) (by omega) | rfl))) rfl rfl rfl ?_
    refine JL.step (y_assign rfl) rfl rfl rfl ?_
    refine JL.nil ?_
  all_goals
    refine JE.round (s := k) (k + 1) (by omega) ⟨rfl, rfl, rfl, rfl, trivial⟩ (fun w q => ?_) (by omega)
    have e : ints .u8 (leB (k + 1) x ++ List.replicate (n - (k + 1)) 0) = (ints .u8 (leB k x ++ List.replicate (n - k) 0)).set k (.int .u8 (((x >>> (8 * k)).toNat % 256 : Nat) : Int)) := by
      rw [ints, ints, ← List.map_set, List.set_append_right _ _ (by rw [leB_length]; omega), leB_length, Nat.sub_self, show n - k = (n - (k + 1)) + 1 by omega, List.replicate_succ, List.set_cons_zero, leB_next]
      simp
    rw [show 0 + (k : Int).toNat * i5.size = k by rw [show i5.size = 1 from rfl]; omega] at q
    rw [e]
    exact q
theorem rhigh_spec (p : Option Addr) (cap : Nat) (bs : List Int) (l : List HProp) (hb : Bytes bs) (hin : InL l p bs.length cap (ints .u8 bs)) :
    Fc prog E 94 [.slice p bs.length cap].toArray l (fun v l' => v = Q (leG bs (min bs.length 8)) ∧ l' = l) := by
  obtain ⟨n, hn⟩ : ∃ n, bs.length = n := ⟨_, rfl⟩
  have hbl : (ints .u8 bs).length = n := by simp [ints, hn]
  rw [hn] at hin ⊢
  refine Fc.of_body (c := ?c) Try.func94 ?hb Try.ntmps94 ?hl ?_
  case hb => exact rfl
  case hl => exact rfl
  refine J.seq ?_
  refine J.region ?_
  refine JL.step (y_assign rfl) rfl rfl rfl ?_
  refine JL.nil ?_
  refine JE.then_normal ?_
  refine J.seq ?_
  refine J.region ?_
  refine JL.step (y_assign rfl) rfl rfl rfl ?_
  refine JL.nil ?_
  refine JE.then_normal ?_
  refine J.seq ?_
  refine J.seq ?_
  refine J.region ?_
  refine JL.step (y_assign rfl) rfl rfl rfl ?_
  refine JL.nil ?_
  refine JE.then_normal ?_
  refine J.block ?_
  refine J.loop (α := Nat) (fun k => k ≤ 8) (fun k => [(0, .slice p n cap), (3, Q (highR bs k)), (4, .int .i64 (7 - (k : Int)))]) (fun _ => l) (fun k => 8 - k) 0 (by omega) ⟨rfl, rfl, rfl, trivial⟩ (fun w h => h) ?_
  intro k hk
  refine J.seq ?_
  refine J.seq ?_
  refine J.region ?_
  refine JL.step (y_move rfl) rfl rfl rfl (JL.step (y_geq rfl rfl) rfl rfl rfl ?_)
  refine JL.nil ?_
  refine JE.then_normal ?_
  first | apply J.cond_dec rfl | apply J.cond rfl
  case' ht =>
    intro h
    try (first | (exfalso; omega) | (cases h; done) | (exfalso; simp at h; done) | subst h)
    all_goals
      refine J.skip ?_
  case' hf =>
    intro h
    try (first | (exfalso; omega) | (cases h; done) | (exfalso; simp at h; done) | subst h)
    all_goals
      refine J.exit ?_
      refine JE.then_exit ?_
      refine JE.then_exit ?_
      refine JE.block_exit ?_
      refine JE.then_normal ?_
      refine J.seq ?_
      refine J.region ?_
      refine JL.step (y_move rfl) rfl rfl rfl (JL.step (y_assign rfl) rfl rfl rfl ?_)
      refine JL.nil ?_
      refine JE.then_normal ?_
      refine J.ret ?_
      refine JE.ret1 (.inl rfl) rfl rfl (by (first | exact RV.tmp rfl | exact RV.cell1 hT rfl rfl rfl (by (exact Rd1.row (by (repeat (first | exact Pick.head | apply Pick.tail | apply Pick.app))) (by rfl))) | exact RV.cellN hT rfl rfl rfl (by (first | exact RdN.rowAll (by (repeat (first | exact Pick.head | apply Pick.tail | apply Pick.app))) | exact RdN.own (by (repeat (first | exact Pick.head | apply Pick.tail | apply Pick.app))))) (by (first | rfl | assumption | (simp; done) | omega)))) ?_
      obtain rfl : k = 8 := by omega
      refine ⟨?_, rfl⟩
      have e := highR_eq hb 8 (Nat.le_refl _)
      rw [Nat.sub_self, List.drop_zero, Nat.sub_zero, hn] at e
      rw [e]
  all_goals refine JE.then_normal ?_
  all_goals
    refine J.seq ?_
    refine J.block ?_
    refine J.seq ?_
    refine J.region ?_
    refine JL.step (y_move rfl) rfl rfl rfl ?_
    refine JL.step (y_mulQ (b := 256#64) rfl rfl) rfl rfl rfl ?_
    refine JL.step (y_assign rfl) rfl rfl rfl ?_
    refine JL.nil ?_
    refine JE.then_normal ?_
    refine J.seq ?_
    refine J.region ?_
    refine JL.step (y_move rfl) rfl rfl rfl (JL.step (y_move rfl) rfl rfl rfl (JL.step (y_len_slice hT rfl rfl rfl) rfl rfl rfl (JL.step (y_lss rfl rfl) rfl rfl rfl ?_)))
    refine JL.nil ?_
    refine JE.then_normal ?_
    first | apply J.cond_dec rfl | apply J.cond rfl
    case' ht =>
      intro h
      try (first | (exfalso; omega) | (cases h; done) | (exfalso; simp at h; done) | subst h)
      all_goals
        refine J.region ?_
        obtain ⟨g, o, rfl, hr⟩ := hin.addr (by omega)
        refine JL.step (y_move rfl) rfl rfl rfl (JL.step (y_move rfl) rfl rfl rfl (JL.step (y_move rfl) rfl rfl rfl ?_))
        refine JL.step (y_indexAddr_slice hT rfl rfl rfl rfl rfl (by (first | omega | exact Nat.le_of_ble_eq_true rfl | decide | (simp; omega))) (by (first | omega | exact Nat.le_of_ble_eq_true rfl | decide | (simp; omega)))) rfl rfl rfl ?_
        refine JL.step (y_load1 hT rfl rfl rfl (Rd1.bytesAt (bs := bs) (j := 7 - k) (hr []) (by omega) (by rw [show i5.size = 1 from rfl]; omega))) rfl rfl rfl ?_
        refine JL.step ((by first | exact y_convToQ hT rfl rfl rfl rfl | exact y_conv hT rfl rfl rfl rfl (by (first | exact wrap_i64 (by omega) (by omega) | rfl)))) rfl rfl rfl ?_
        refine JL.step ((by first | exact y_addQ rfl rfl | exact y_add rfl rfl (by (first | exact wrap_i64 (by omega) (by omega) | rfl)))) rfl rfl rfl ?_
        refine JL.step (y_assign rfl) rfl rfl rfl ?_
        refine JL.nil ?_
    case' hf =>
      intro h
      try (first | (exfalso; omega) | (cases h; done) | (exfalso; simp at h; done) | subst h)
      all_goals
        refine J.skip ?_
    all_goals refine JE.block_normal ?_
    all_goals refine JE.then_normal ?_
    all_goals
      refine J.region ?_
      refine JL.step (y_move rfl) rfl rfl rfl ?_
      refine JL.step (y_sub rfl rfl (by (first | exact wrap_i64 (by omega) (by omega) | rfl))) rfl rfl rfl ?_
      refine JL.step (y_assign rfl) rfl rfl rfl ?_
      refine JL.nil ?_
  all_goals
    first
      | have h7 : 7 - k < bs.length := by omega
        refine JE.round (s := k) (k + 1) (by omega) ⟨rfl, ?_, ?_, trivial⟩ (fun w q => q) (by omega)
        · rw [highR, if_pos h7]; rfl
        · rw [show (7 : Int) - ((k + 1 : Nat) : Int) = 7 - (k : Int) - 1 by omega]; rfl
      | have h7 : ¬ 7 - k < bs.length := by omega
        refine JE.round (s := k) (k + 1) (by omega) ⟨rfl, ?_, ?_, trivial⟩ (fun w q => q) (by omega)
        · rw [highR, if_neg h7, BitVec.add_zero]; rfl
        · rw [show (7 : Int) - ((k + 1 : Nat) : Int) = 7 - (k : Int) - 1 by omega]; rfl
theorem rboth_spec (p1 p2 : Option Addr) (c1 c2 : Nat) (xs ys : List Int) (l : List HProp) (h1 : InL l p1 xs.length c1 (ints .u8 xs)) (h2 : InL l p2 ys.length c2 (ints .u8 ys)) (hb : xs.length + ys.length ≤ 70368744177664) :
    Fc prog E 74 [.slice p1 xs.length c1, .slice p2 ys.length c2].toArray l (fun v l' => ∃ a c, v = .slice a (xs.length + ys.length) c ∧ l' = own 5 1 v (xs.length + ys.length) (ints .u8 (xs ++ ys)) :: l) := by
  refine Fc.post ?_
  obtain ⟨n, hn⟩ : ∃ n, xs.length = n := ⟨_, rfl⟩
  obtain ⟨m, hm⟩ : ∃ m, ys.length = m := ⟨_, rfl⟩
  have hxl : (ints .u8 xs).length = n := by simp [ints, hn]
  have hyl : (ints .u8 ys).length = m := by simp [ints, hm]
  rw [hn] at h1 hb
  rw [hm] at h2 hb
  rw [hn, hm]
  refine Fc.of_body (c := ?c) Try.func74 ?hb Try.ntmps74 ?hl ?_
  case hb => exact rfl
  case hl => exact rfl
  refine J.seq ?_
  refine J.region ?_
  refine JL.step (y_assign rfl) rfl rfl rfl ?_
  refine JL.nil ?_
  refine JE.then_normal ?_
  refine J.seq ?_
  refine J.region ?_
  refine JL.step (y_move rfl) rfl rfl rfl (JL.step (y_len_slice hT rfl rfl rfl) rfl rfl rfl (JL.step (y_move rfl) rfl rfl rfl (JL.step (y_len_slice hT rfl rfl rfl) rfl rfl rfl ?_)))
  refine JL.step (y_add rfl rfl (by (first | exact wrap_i64 (by omega) (by omega) | rfl))) rfl rfl rfl ?_
  refine JL.loud rfl (l_makeSlice hT rfl rfl rfl rfl rfl rfl (by omega) (by omega) (by rw [show i5.bytes = 1 from rfl]; omega) (by omega) rfl (fun b1 => ?_))
  refine JL.pre (fun w q => q.own_made (by unfold maxLen; omega)) ?_
  refine JL.step (y_assign rfl) rfl rfl rfl ?_
  refine JL.nil ?_
  refine JE.then_normal ?_
  refine J.seq ?_
  refine J.seq ?_
  refine J.region ?_
  refine JL.step (y_assign rfl) rfl rfl rfl ?_
  refine JL.nil ?_
  refine JE.then_normal ?_
  refine J.block ?_
  refine J.loop (α := Nat × Value) (fun s => s.1 ≤ n ∧ ∃ a c, s.2 = .slice a s.1 c) (fun s => [(0, .slice p1 n c1), (1, .slice p2 m c2), (5, s.2), (6, .int .i64 s.1)]) (fun s => own 5 1 s.2 s.1 (ints .u8 (xs.take s.1)) :: l) (fun s => n - s.1) (0, _) ⟨by simp, _, _, rfl⟩ ⟨rfl, rfl, rfl, rfl, trivial⟩ (fun w q => q) ?_
  rintro ⟨k, v⟩ ⟨hk, a, c, hv⟩
  dsimp only at hk hv ⊢
  subst hv
  refine J.seq ?_
  refine J.seq ?_
  refine J.region ?_
  refine JL.step (y_move rfl) rfl rfl rfl (JL.step (y_move rfl) rfl rfl rfl (JL.step (y_len_slice hT rfl rfl rfl) rfl rfl rfl (JL.step (y_lss rfl rfl) rfl rfl rfl ?_)))
  refine JL.nil ?_
  refine JE.then_normal ?_
  first | apply J.cond_dec rfl | apply J.cond rfl
  case' ht =>
    intro h
    try (first | (exfalso; omega) | (cases h; done) | (exfalso; simp at h; done) | subst h)
    all_goals
      refine J.skip ?_
  case' hf =>
    intro h
    try (first | (exfalso; omega) | (cases h; done) | (exfalso; simp at h; done) | subst h)
    all_goals
      refine J.exit ?_
      refine JE.then_exit ?_
      refine JE.then_exit ?_
      refine JE.block_exit ?_
      refine JE.then_normal ?_
      refine J.seq ?_
      refine J.seq ?_
      refine J.region ?_
      refine JL.step (y_assign rfl) rfl rfl rfl ?_
      refine JL.nil ?_
      refine JE.then_normal ?_
      refine J.block ?_
      obtain rfl : k = n := by omega
      refine J.loop (α := Nat × Value) (fun s => s.1 ≤ m ∧ ∃ a c, s.2 = .slice a (k + s.1) c) (fun s => [(0, .slice p1 k c1), (1, .slice p2 m c2), (5, s.2), (7, .int .i64 s.1)]) (fun s => own 5 1 s.2 (k + s.1) (ints .u8 (xs ++ ys.take s.1)) :: l) (fun s => m - s.1) (0, .slice a k c) ⟨by simp, _, _, rfl⟩ ⟨rfl, rfl, rfl, rfl, trivial⟩ (fun w q => by rw [List.take_of_length_le (by omega)] at q; simpa using q) ?_
      rintro ⟨j, v⟩ ⟨hj, a, c, hv⟩
      dsimp only at hj hv ⊢
      subst hv
      refine J.seq ?_
      refine J.seq ?_
      refine J.region ?_
      refine JL.step (y_move rfl) rfl rfl rfl (JL.step (y_move rfl) rfl rfl rfl (JL.step (y_len_slice hT rfl rfl rfl) rfl rfl rfl (JL.step (y_lss rfl rfl) rfl rfl rfl ?_)))
      refine JL.nil ?_
      refine JE.then_normal ?_
      first | apply J.cond_dec rfl | apply J.cond rfl
      case' ht =>
        intro h
        try (first | (exfalso; omega) | (cases h; done) | (exfalso; simp at h; done) | subst h)
        all_goals
          refine J.skip ?_
      case' hf =>
        intro h
        try (first | (exfalso; omega) | (cases h; done) | (exfalso; simp at h; done) | subst h)
        all_goals
          refine J.exit ?_
          refine JE.then_exit ?_
          refine JE.then_exit ?_
          refine JE.block_exit ?_
          refine JE.then_normal ?_
          refine J.seq ?_
          refine J.region ?_
          refine JL.step (y_move rfl) rfl rfl rfl (JL.step (y_assign rfl) rfl rfl rfl ?_)
          refine JL.nil ?_
          refine JE.then_normal ?_
          refine J.ret ?_
          refine JE.ret1 (.inl rfl) rfl rfl (by (first | exact RV.tmp rfl | exact RV.cell1 hT rfl rfl rfl (by (exact Rd1.row (by (repeat (first | exact Pick.head | apply Pick.tail | apply Pick.app))) (by rfl))) | exact RV.cellN hT rfl rfl rfl (by (first | exact RdN.rowAll (by (repeat (first | exact Pick.head | apply Pick.tail | apply Pick.app))) | exact RdN.own (by (repeat (first | exact Pick.head | apply Pick.tail | apply Pick.app))))) (by (first | rfl | assumption | (simp; done) | omega)))) ?_
          obtain rfl : j = m := by omega
          refine ⟨_, fun w q => ?_, a, c, rfl, rfl⟩
          rw [List.take_of_length_le (by omega)] at q
          exact q
      all_goals refine JE.then_normal ?_
      all_goals
        refine J.seq ?_
        refine J.block ?_
        refine J.region ?_
        obtain ⟨g, o, rfl, hr⟩ := h2.addr (by omega)
        refine JL.step (y_move rfl) rfl rfl rfl (JL.step (y_move rfl) rfl rfl rfl (JL.step (y_move rfl) rfl rfl rfl ?_))
        refine JL.step (y_indexAddr_slice hT rfl rfl rfl rfl rfl (by (first | omega | exact Nat.le_of_ble_eq_true rfl | decide | (simp; omega))) (by (first | omega | exact Nat.le_of_ble_eq_true rfl | decide | (simp; omega)))) rfl rfl rfl ?_
        refine JL.step (y_load1 hT rfl rfl rfl (Rd1.bytesAt (bs := ys) (j := j) (hr [_]) (by omega) (by rw [show i5.size = 1 from rfl]; omega))) rfl rfl rfl ?_
        refine JL.loud rfl (l_buildSliceP hT rfl rfl rfl rfl rfl rfl rfl (by (first | exact fill_one rfl (by first | assumption | rfl | (simp; done)) | rfl | simp)) rfl (fun b1 => ?_))
        refine JL.loud rfl (l_append hT rfl rfl rfl rfl rfl rfl rfl rfl (by (repeat (first | exact Pick.head | apply Pick.tail | apply Pick.app))) (by (first | exact RdN.rowAll (by (repeat (first | exact Pick.head | apply Pick.tail | apply Pick.app))) | exact RdN.own (by (repeat (first | exact Pick.head | apply Pick.tail | apply Pick.app))))) (by (first | rfl | assumption | (simp; done) | omega)) (by (first | assumption | exact ones_of rfl | exact encW_one _ | exact encB_one _ | (intro u hu; simp at hu; rcases hu with rfl | rfl <;> rfl) | (intro u hu; simp at hu; subst hu; rfl) | simp)) (by (first | exact Nat.le_trans (Nat.mul_le_mul_left _ (Nat.le_of_ble_eq_true rfl : _ ≤ 4096)) (by omega) | exact Nat.le_trans (Nat.mul_le_mul_left _ (Nat.le_of_ble_eq_true rfl : _ ≤ 1)) (by omega))) (by (first | omega | exact Nat.le_of_ble_eq_true rfl | decide | (simp; omega))) rfl (fun ab2 cb2 hb2 => ?_))
        refine JL.step (y_assign rfl) rfl rfl rfl ?_
        refine JL.nil ?_
        refine JE.block_normal ?_
        refine JE.then_normal ?_
        refine J.region ?_
        refine JL.step (y_move rfl) rfl rfl rfl ?_
        refine JL.step (y_add rfl rfl (by (first | exact wrap_i64 (by omega) (by omega) | rfl))) rfl rfl rfl ?_
        refine JL.step (y_assign rfl) rfl rfl rfl ?_
        refine JL.nil ?_
      all_goals
        refine JE.round (s := (j, .slice a (k + j) c)) (j + 1, _) ⟨by dsimp only; omega, _, _, rfl⟩ ⟨rfl, rfl, rfl, rfl, trivial⟩ (fun w q => ?_) (by dsimp only; omega)
        have e : ints .u8 (xs ++ ys.take (j + 1)) = ints .u8 (xs ++ ys.take j) ++ [.int .u8 (ys.getD j 0)] := by
          rw [take_snocD ys (by omega)]
          simp only [ints, List.map_append, List.map_cons, List.map_nil, List.append_assoc]
        dsimp only
        rw [e, show k + (j + 1) = k + j + 1 from rfl]
        exact q.sup (by (repeat (first | exact Sup.refl | apply Sup.cons (by (repeat (first | exact Pick.head | apply Pick.tail | apply Pick.app))) | apply Sup.app | apply Sup.skip | apply Sup.skips)))
  all_goals refine JE.then_normal ?_
  all_goals
    refine J.seq ?_
    refine J.block ?_
    refine J.region ?_
    obtain ⟨g, o, rfl, hr⟩ := h1.addr (by omega)
    refine JL.step (y_move rfl) rfl rfl rfl (JL.step (y_move rfl) rfl rfl rfl (JL.step (y_move rfl) rfl rfl rfl ?_))
    refine JL.step (y_indexAddr_slice hT rfl rfl rfl rfl rfl (by (first | omega | exact Nat.le_of_ble_eq_true rfl | decide | (simp; omega))) (by (first | omega | exact Nat.le_of_ble_eq_true rfl | decide | (simp; omega)))) rfl rfl rfl ?_
    refine JL.step (y_load1 hT rfl rfl rfl (Rd1.bytesAt (bs := xs) (j := k) (hr [_]) (by omega) (by rw [show i5.size = 1 from rfl]; omega))) rfl rfl rfl ?_
    refine JL.loud rfl (l_buildSliceP hT rfl rfl rfl rfl rfl rfl rfl (by (first | exact fill_one rfl (by first | assumption | rfl | (simp; done)) | rfl | simp)) rfl (fun b3 => ?_))
    refine JL.loud rfl (l_append hT rfl rfl rfl rfl rfl rfl rfl rfl (by (repeat (first | exact Pick.head | apply Pick.tail | apply Pick.app))) (by (first | exact RdN.rowAll (by (repeat (first | exact Pick.head | apply Pick.tail | apply Pick.app))) | exact RdN.own (by (repeat (first | exact Pick.head | apply Pick.tail | apply Pick.app))))) (by (first | rfl | assumption | (simp; done) | omega)) (by (first | assumption | exact ones_of rfl | exact encW_one _ | exact encB_one _ | (intro u hu; simp at hu; rcases hu with rfl | rfl <;> rfl) | (intro u hu; simp at hu; subst hu; rfl) | simp)) (by (first | exact Nat.le_trans (Nat.mul_le_mul_left _ (Nat.le_of_ble_eq_true rfl : _ ≤ 4096)) (by omega) | exact Nat.le_trans (Nat.mul_le_mul_left _ (Nat.le_of_ble_eq_true rfl : _ ≤ 1)) (by omega))) (by (first | omega | exact Nat.le_of_ble_eq_true rfl | decide | (simp; omega))) rfl (fun ab4 cb4 hb4 => ?_))
    refine JL.step (y_assign rfl) rfl rfl rfl ?_
    refine JL.nil ?_
    refine JE.block_normal ?_
    refine JE.then_normal ?_
    refine J.region ?_
    refine JL.step (y_move rfl) rfl rfl rfl ?_
    refine JL.step (y_add rfl rfl (by (first | exact wrap_i64 (by omega) (by omega) | rfl))) rfl rfl rfl ?_
    refine JL.step (y_assign rfl) rfl rfl rfl ?_
    refine JL.nil ?_
  all_goals
    refine JE.round (s := (k, .slice a k c)) (k + 1, _) ⟨by dsimp only; omega, _, _, rfl⟩ ⟨rfl, rfl, rfl, rfl, trivial⟩ (fun w q => ?_) (by dsimp only; omega)
    have e : ints .u8 (xs.take (k + 1)) = ints .u8 (xs.take k) ++ [.int .u8 (xs.getD k 0)] := by
      rw [take_snocD xs (by omega)]
      simp only [ints, List.map_append, List.map_cons, List.map_nil]
    dsimp only
    rw [e]
    exact q.sup (by (repeat (first | exact Sup.refl | apply Sup.cons (by (repeat (first | exact Pick.head | apply Pick.tail | apply Pick.app))) | apply Sup.app | apply Sup.skip | apply Sup.skips)))
theorem rsame_spec (p q : Option Addr) (c1 c2 : Nat) (xs ys : List Int) (l : List HProp) (hp : InL l p xs.length c1 (ints .u8 xs)) (hq : InL l q ys.length c2 (ints .u8 ys)) (hb : xs.length ≤ 70368744177664) (hb2 : ys.length ≤ 70368744177664) :
    Fc prog E 51 [.slice p xs.length c1, .slice q ys.length c2].toArray l (fun v l' => v = .bool (decide (xs = ys)) ∧ l' = l) := by
  by_cases hl : xs.length = ys.length
  case neg =>
    have e : decide (xs = ys) = false := by simp; rintro rfl; exact hl rfl
    rw [e]
    refine Fc.of_body (c := ?c) Try.func51 ?hb Try.ntmps51 ?hl ?_
    case hb => exact rfl
    case hl => exact rfl
    refine J.seq ?_
    refine J.region ?_
    refine JL.step (y_assign rfl) rfl rfl rfl ?_
    refine JL.nil ?_
    refine JE.then_normal ?_
    refine J.seq ?_
    refine J.seq ?_
    refine J.region ?_
    refine JL.step (y_move rfl) rfl rfl rfl (JL.step (y_len_slice hT rfl rfl rfl) rfl rfl rfl (JL.step (y_move rfl) rfl rfl rfl (JL.step (y_len_slice hT rfl rfl rfl) rfl rfl rfl (JL.step (y_neq rfl rfl) rfl rfl rfl ?_))))
    refine JL.nil ?_
    refine JE.then_normal ?_
    refine J.cond_t rfl (by (first | rfl | assumption | (simp; done) | (simp; omega))) ?_
    refine J.seq ?_
    refine J.region ?_
    refine JL.step (y_assign rfl) rfl rfl rfl ?_
    refine JL.nil ?_
    refine JE.then_normal ?_
    refine J.ret ?_
    refine JE.then_ret ?_
    refine JE.ret1 (.inl rfl) rfl rfl (by (first | exact RV.tmp rfl | exact RV.cell1 hT rfl rfl rfl (by (exact Rd1.row (by (repeat (first | exact Pick.head | apply Pick.tail | apply Pick.app))) (by rfl))) | exact RV.cellN hT rfl rfl rfl (by (first | exact RdN.rowAll (by (repeat (first | exact Pick.head | apply Pick.tail | apply Pick.app))) | exact RdN.own (by (repeat (first | exact Pick.head | apply Pick.tail | apply Pick.app))))) (by (first | rfl | assumption | (simp; done) | omega)))) ?_
    exact ⟨rfl, rfl⟩
  obtain ⟨n, hn⟩ : ∃ n, xs.length = n := ⟨_, rfl⟩
  have hn2 : ys.length = n := by omega
  have hxl : (ints .u8 xs).length = n := by simp [ints, hn]
  have hyl : (ints .u8 ys).length = n := by simp [ints, hn2]
  rw [hn] at hp hb
  rw [hn2] at hq
  rw [hn, hn2]
  refine Fc.of_body (c := ?c) Try.func51 ?hb Try.ntmps51 ?hl ?_
  case hb => exact rfl
  case hl => exact rfl
  refine J.seq ?_
  refine J.region ?_
  refine JL.step (y_assign rfl) rfl rfl rfl ?_
  refine JL.nil ?_
  refine JE.then_normal ?_
  refine J.seq ?_
  refine J.seq ?_
  refine J.region ?_
  refine JL.step (y_move rfl) rfl rfl rfl (JL.step (y_len_slice hT rfl rfl rfl) rfl rfl rfl (JL.step (y_move rfl) rfl rfl rfl (JL.step (y_len_slice hT rfl rfl rfl) rfl rfl rfl (JL.step (y_neq rfl rfl) rfl rfl rfl ?_))))
  refine JL.nil ?_
  refine JE.then_normal ?_
  refine J.cond_f rfl (by (first | rfl | assumption | (simp; done) | (simp; omega))) ?_
  refine J.skip ?_
  refine JE.then_normal ?_
  refine J.seq ?_
  refine J.seq ?_
  refine J.region ?_
  refine JL.step (y_assign rfl) rfl rfl rfl ?_
  refine JL.nil ?_
  refine JE.then_normal ?_
  refine J.block ?_
  refine J.loop (α := Nat) (fun j => j ≤ n ∧ ∀ i, i < j → xs.getD i 0 = ys.getD i 0) (fun j => [(0, .slice p n c1), (1, .slice q n c2), (5, .int .i64 j)]) (fun _ => l) (fun j => n - j) 0 ⟨by omega, fun i hi => absurd hi (by omega)⟩ ⟨rfl, rfl, rfl, trivial⟩ (fun w h => h) ?_
  rintro j ⟨hj, hs⟩
  refine J.seq ?_
  refine J.seq ?_
  refine J.region ?_
  refine JL.step (y_move rfl) rfl rfl rfl (JL.step (y_move rfl) rfl rfl rfl (JL.step (y_len_slice hT rfl rfl rfl) rfl rfl rfl (JL.step (y_lss rfl rfl) rfl rfl rfl ?_)))
  refine JL.nil ?_
  refine JE.then_normal ?_
  first | apply J.cond_dec rfl | apply J.cond rfl
  case' ht =>
    intro h
    try (first | (exfalso; omega) | (cases h; done) | (exfalso; simp at h; done) | subst h)
    all_goals
      refine J.skip ?_
  case' hf =>
    intro h
    try (first | (exfalso; omega) | (cases h; done) | (exfalso; simp at h; done) | subst h)
    all_goals
      refine J.exit ?_
      refine JE.then_exit ?_
      refine JE.then_exit ?_
      refine JE.block_exit ?_
      refine JE.then_normal ?_
      refine J.seq ?_
      refine J.region ?_
      refine JL.step (y_assign rfl) rfl rfl rfl ?_
      refine JL.nil ?_
      refine JE.then_normal ?_
      refine J.ret ?_
      refine JE.ret1 (.inl rfl) rfl rfl (by (first | exact RV.tmp rfl | exact RV.cell1 hT rfl rfl rfl (by (exact Rd1.row (by (repeat (first | exact Pick.head | apply Pick.tail | apply Pick.app))) (by rfl))) | exact RV.cellN hT rfl rfl rfl (by (first | exact RdN.rowAll (by (repeat (first | exact Pick.head | apply Pick.tail | apply Pick.app))) | exact RdN.own (by (repeat (first | exact Pick.head | apply Pick.tail | apply Pick.app))))) (by (first | rfl | assumption | (simp; done) | omega)))) ?_
      refine ⟨?_, rfl⟩
      congr 1
      first
        | have hjn : j = n := by omega
          refine (decide_eq_true ?_).symm
          refine List.ext_getElem (by omega) fun i h1 h2 => ?_
          have := hs i (by omega)
          rwa [List.getD_eq_getElem?_getD, List.getD_eq_getElem?_getD, List.getElem?_eq_getElem h1, List.getElem?_eq_getElem h2] at this
        | refine (decide_eq_false ?_).symm
          rintro rfl
          exact h rfl
  all_goals refine JE.then_normal ?_
  all_goals
    refine J.seq ?_
    refine J.block ?_
    refine J.seq ?_
    refine J.draw _ _ [(0, .q), (1, .q), (2, .q), (3, .q), (4, .q), (5, .q), (6, .q), (7, .q), (8, .q)] mixed (by kernel_rfl) (Split.nil) ?_
    have hlt : j < n := by omega
    obtain ⟨g1, o1, rfl, hr1⟩ := hp.addr (by omega)
    obtain ⟨g2, o2, rfl, hr2⟩ := hq.addr (by omega)
    refine JM.quiet rfl rfl rfl rfl (fun m => y_move rfl) ?_
    refine JM.quiet rfl rfl rfl rfl (fun m => y_move rfl) ?_
    refine JM.quiet rfl rfl rfl rfl (fun m => y_indexAddr_slice hT rfl rfl rfl rfl rfl (by (first | omega | exact Nat.le_of_ble_eq_true rfl | decide | (simp; omega))) (by (first | omega | exact Nat.le_of_ble_eq_true rfl | decide | (simp; omega)))) ?_
    refine JM.quiet rfl rfl rfl rfl (fun m => y_load1 hT rfl rfl rfl (Rd1.bytesAt (bs := xs) (j := j) (hr1 m) (by omega) (by rw [show i5.size = 1 from rfl]; omega))) ?_
    refine JM.quiet rfl rfl rfl rfl (fun m => y_move rfl) ?_
    refine JM.quiet rfl rfl rfl rfl (fun m => y_move rfl) ?_
    refine JM.quiet rfl rfl rfl rfl (fun m => y_indexAddr_slice hT rfl rfl rfl rfl rfl (by (first | omega | exact Nat.le_of_ble_eq_true rfl | decide | (simp; omega))) (by (first | omega | exact Nat.le_of_ble_eq_true rfl | decide | (simp; omega)))) ?_
    refine JM.quiet rfl rfl rfl rfl (fun m => y_load1 hT rfl rfl rfl (Rd1.bytesAt (bs := ys) (j := j) (hr2 m) (by omega) (by rw [show i5.size = 1 from rfl]; omega))) ?_
    refine JM.quiet rfl rfl rfl rfl (fun m => y_neq rfl rfl) ?_
    refine JM.nil ?_
    refine JE.then_normal ?_
    first | apply J.cond_dec rfl | apply J.cond rfl
    case' ht =>
      intro h
      try (first | (exfalso; omega) | (cases h; done) | (exfalso; simp at h; done) | subst h)
      all_goals
        refine J.seq ?_
        refine J.region ?_
        refine JL.step (y_assign rfl) rfl rfl rfl ?_
        refine JL.nil ?_
        refine JE.then_normal ?_
        refine J.ret ?_
        refine JE.block_ret ?_
        refine JE.then_ret ?_
        refine JE.then_ret ?_
        refine JE.block_ret ?_
        refine JE.then_ret ?_
        refine JE.ret1 (.inl rfl) rfl rfl (by (first | exact RV.tmp rfl | exact RV.cell1 hT rfl rfl rfl (by (exact Rd1.row (by (repeat (first | exact Pick.head | apply Pick.tail | apply Pick.app))) (by rfl))) | exact RV.cellN hT rfl rfl rfl (by (first | exact RdN.rowAll (by (repeat (first | exact Pick.head | apply Pick.tail | apply Pick.app))) | exact RdN.own (by (repeat (first | exact Pick.head | apply Pick.tail | apply Pick.app))))) (by (first | rfl | assumption | (simp; done) | omega)))) ?_
        refine ⟨?_, rfl⟩
        congr 1
        first
          | have hjn : j = n := by omega
            refine (decide_eq_true ?_).symm
            refine List.ext_getElem (by omega) fun i h1 h2 => ?_
            have := hs i (by omega)
            rwa [List.getD_eq_getElem?_getD, List.getD_eq_getElem?_getD, List.getElem?_eq_getElem h1, List.getElem?_eq_getElem h2] at this
          | refine (decide_eq_false ?_).symm
            rintro rfl
            exact h rfl
    case' hf =>
      intro h
      try (first | (exfalso; omega) | (cases h; done) | (exfalso; simp at h; done) | subst h)
      all_goals
        refine J.skip ?_
    all_goals refine JE.block_normal ?_
    all_goals refine JE.then_normal ?_
    all_goals
      refine J.region ?_
      refine JL.step (y_move rfl) rfl rfl rfl ?_
      refine JL.step (y_add rfl rfl (by (first | exact wrap_i64 (by omega) (by omega) | rfl))) rfl rfl rfl ?_
      refine JL.step (y_assign rfl) rfl rfl rfl ?_
      refine JL.nil ?_
  all_goals
    refine JE.round (s := j) (j + 1) ⟨by omega, fun i hi => ?_⟩ ⟨rfl, rfl, rfl, trivial⟩ (fun w q => q) (by omega)
    by_cases hij : i = j
    · subst hij
      exact Decidable.not_not.mp h
    · exact hs i (by omega)
end Go.Proofs.Ytilifeeddpkclaa
