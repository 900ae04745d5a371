import Derived.Test.YtilifeeddpkclaaRsha1
namespace Go.Proofs.Ytilifeeddpkclaa
open Go Go.SL
/-! The document's Sum. -/
theorem word4_drop (M : List Int) (a i : Nat) : word4 (M.drop a) i = BitVec.ofInt 32 (M.getD (a + 4 * i) 0) <<< 24 ||| BitVec.ofInt 32 (M.getD (a + (4 * i + 1)) 0) <<< 16 ||| BitVec.ofInt 32 (M.getD (a + (4 * i + 2)) 0) <<< 8 ||| BitVec.ofInt 32 (M.getD (a + (4 * i + 3)) 0) := by
  simp only [word4, List.getD_eq_getElem?_getD, List.getElem?_drop]
theorem rsched (a b c d : BitVec 32) : a + c + b + d = a + b + c + d := by rw [BitVec.add_assoc a c b, BitVec.add_comm c b, ← BitVec.add_assoc]
def S8.rt1 (s : S8) (k w : BitVec 32) : BitVec 32 := s.h + (rotr s.e 6 ^^^ rotr s.e 11 ^^^ rotr s.e 25) + ((s.e &&& s.f) ^^^ (~~~s.e &&& s.g)) + k + w
def S8.rt2 (s : S8) : BitVec 32 := (rotr s.a 2 ^^^ rotr s.a 13 ^^^ rotr s.a 22) + ((s.a &&& s.b) ^^^ (s.a &&& s.c) ^^^ (s.b &&& s.c))
theorem S8.rt1_eq (s : S8) (k w : BitVec 32) : s.rt1 k w = s.t1 k w := by unfold S8.rt1 S8.t1; rw [ch_eq]
theorem S8.rt2_eq (s : S8) : s.rt2 = s.t2 := by unfold S8.rt2 S8.t2; rw [maj_eq]
def S8.rr (s : S8) (k w : BitVec 32) : List Value := [W (s.rt1 k w + s.rt2), W s.a, W s.b, W s.c, W (s.d + s.rt1 k w), W s.e, W s.f, W s.g]
theorem S8.rr_eq (s : S8) (k w : BitVec 32) : s.rr k w = (s.rnd k w).list.map W := by simp [S8.rr, S8.rt1_eq, S8.rt2_eq, S8.rnd, S8.list]
/-- The key on its way. -/
def keyI (s : S8) (k : Nat) : List Int := (shaOut s).take k ++ List.replicate (32 - k) 0
theorem keyI_length (s : S8) {k : Nat} (h : k ≤ 32) : (keyI s k).length = 32 := by simp [keyI, show (shaOut s).length = 32 from rfl]; omega
theorem keyI_set (s : S8) {i m : Nat} (hi : i < 8) (hm : m < 4) : (keyI s (4 * i + m)).set (4 * i + m) ((((s.list.getD i 0) >>> (24 - 8 * m)).toNat % 256 : Nat) : Int) = keyI s (4 * i + m + 1) := by
  have h32 : (shaOut s).length = 32 := rfl
  have e : (shaOut s)[4 * i + m]? = some ((((s.list.getD i 0) >>> (24 - 8 * m)).toNat % 256 : Nat) : Int) := by
    obtain ⟨a, b, c, d, e, f, g, h⟩ := s
    rcases (by omega : i = 0 ∨ i = 1 ∨ i = 2 ∨ i = 3 ∨ i = 4 ∨ i = 5 ∨ i = 6 ∨ i = 7) with rfl | rfl | rfl | rfl | rfl | rfl | rfl | rfl <;> rcases (by omega : m = 0 ∨ m = 1 ∨ m = 2 ∨ m = 3) with rfl | rfl | rfl | rfl <;> simp [shaOut, S8.list, out4]
  obtain ⟨p, hp⟩ : ∃ p, 4 * i + m = p := ⟨_, rfl⟩
  rw [hp] at e ⊢
  have hpl : p < 32 := by omega
  simp only [keyI]
  rw [List.set_append_right _ _ (by rw [List.length_take, h32]; omega), List.length_take, h32, show p - min p 32 = 0 by omega, show 32 - p = (32 - (p + 1)) + 1 by omega, List.replicate_succ, List.set_cons_zero, List.take_add_one, e]
  simp
attribute [local irreducible] J JL JE JM LS Y Fc RV Code.wp wpList Code.wpIn wpListIn
variable (E : World)
set_option maxRecDepth 20000 in
theorem rsum_spec (p : Option Addr) (cap : Nat) (bs : List Int) (l : List HProp) (hin : InL l p bs.length cap (ints .u8 bs)) (hn : bs.length ≤ 70368744177000) :
    Fc prog E 89 [.slice p bs.length cap].toArray l (fun v l' => v = .agg (ints .u8 (sha bs)).toArray ∧ l' = l) := by
  refine Fc.eqs ?_
  obtain ⟨n, hnl⟩ : ∃ n, bs.length = n := ⟨_, rfl⟩
  have hz : padZ n ≤ 63 := by unfold padZ; omega
  obtain ⟨M, hM⟩ : ∃ M, bs ++ shaPad n = M := ⟨_, rfl⟩
  have hML : M.length = n + (padZ n + 9) := by rw [← hM, List.length_append, shaPad_length, hnl]
  obtain ⟨q, hq⟩ : ∃ q, n + (padZ n + 9) = 64 * q := ⟨(n + (padZ n + 9)) / 64, by unfold padZ; omega⟩
  have hsha : sha bs = shaOut (absorb q init8 M) := by
    rw [sha, hnl, hM, hML, hq, show 64 * q / 64 = q by omega]
  rw [hsha]
  rw [hnl] at hin ⊢
  have hbl : (ints .u8 bs).length = n := by simp [ints, hnl]
  refine Fc.of_body (c := ?c) Try.func89 ?hb Try.ntmps89 ?hl ?_
  case hb => exact rfl
  case hl => exact rfl
  refine J.seq ?_
  refine J.region ?_
  refine JL.loud rfl (l_alloc hT rfl rfl (by (first | rfl | simp)) rfl (fun b1 => ?_))
  refine JL.nil ?_
  refine JE.then_normal ?_
  refine J.seq ?_
  refine J.region ?_
  refine JL.loud rfl (l_callF e99 rfl rfl (rconst_spec E _) ?_)
  rintro _ _ ⟨rfl, rfl⟩
  refine JL.loud rfl (l_alloc hT rfl rfl (by (first | rfl | simp)) rfl (fun b3 => ?_))
  refine JL.loud rfl (l_storeAll hT rfl rfl rfl (by (first | rfl | assumption | (simp; done) | omega)) (by (first | assumption | exact ones_of rfl | exact encW_one _ | exact encB_one _ | (intro u hu; simp at hu; rcases hu with rfl | rfl <;> rfl) | (intro u hu; simp at hu; subst hu; rfl) | simp)) (by (repeat (first | exact Pick.head | apply Pick.tail | apply Pick.app))) (by (first | rfl | assumption | (simp; done) | omega)) ?_)
  refine JL.nil ?_
  refine JE.then_normal ?_
  refine J.seq ?_
  refine J.region ?_
  refine JL.loud rfl (l_buildSlice0 hT rfl rfl rfl rfl (fun b5 => ?_))
  refine JL.step (y_move rfl) rfl rfl rfl ?_
  refine JL.loud rfl (l_appendIn hT rfl rfl rfl rfl rfl rfl rfl rfl (by (repeat (first | exact Pick.head | apply Pick.tail | apply Pick.app))) (by (repeat (first | assumption | apply InL.cons | apply InL.app))) (by rw [hbl, show i5.size = 1 from rfl]; omega) (ints_one _ _) (by rw [show i5.bytes = 1 from rfl]; omega) (by omega) rfl (fun qa qc hqc => ?_))
  rw [Nat.zero_add n, List.nil_append (ints .u8 bs)]
  refine JL.step (y_move rfl) rfl rfl rfl (JL.step (y_len_slice hT rfl rfl rfl) rfl rfl rfl ?_)
  refine JL.loud rfl (l_callF e100 rfl rfl (rpad_spec E n (by omega) _) ?_)
  rintro _ _ ⟨pa, pc, rfl, rfl⟩
  refine JL.loud rfl (LS.fact (fun w s => Sat.own_at (a := pa) (k := padZ n + 9) (s.pick (by (repeat (first | exact Pick.head | apply Pick.tail | apply Pick.app))))) fun ok => l_appendIn hT rfl rfl rfl rfl rfl rfl rfl rfl (by (repeat (first | exact Pick.head | apply Pick.tail | apply Pick.app))) (ok.inl (by (repeat (first | exact Pick.head | apply Pick.tail | apply Pick.app)))) (by rw [show i5.size = 1 from rfl, Nat.mul_one]; simp [ints, shaPad_length]) (ints_one _ _) (by rw [show i5.bytes = 1 from rfl]; omega) (by omega) rfl (fun ga gc hgc => ?_))
  rw [show ints .u8 bs ++ ints .u8 (shaPad n) = ints .u8 M by rw [← hM]; simp [ints], hq]
  refine JL.step (y_assign rfl) rfl rfl rfl ?_
  refine JL.nil ?_
  refine JE.then_normal ?_
  refine J.seq ?_
  refine J.region ?_
  refine JL.loud rfl (l_callF e101 rfl rfl (rbegin_spec E _) ?_)
  rintro _ _ ⟨rfl, rfl⟩
  refine JL.loud rfl (l_alloc hT rfl rfl (by (first | rfl | simp)) rfl (fun b8 => ?_))
  refine JL.loud rfl (l_storeAll hT rfl rfl rfl (by (first | rfl | assumption | (simp; done) | omega)) (by (first | assumption | exact ones_of rfl | exact encW_one _ | exact encB_one _ | (intro u hu; simp at hu; rcases hu with rfl | rfl <;> rfl) | (intro u hu; simp at hu; subst hu; rfl) | simp)) (by (repeat (first | exact Pick.head | apply Pick.tail | apply Pick.app))) (by (first | rfl | assumption | (simp; done) | omega)) ?_)
  refine JL.nil ?_
  refine JE.then_normal ?_
  refine J.seq ?_
  refine J.block ?_
  have hqp : 0 < q := by omega
  refine J.fact (fun w s => Sat.own_at (a := ga) (k := 64 * q) (s.pick (by (repeat (first | exact Pick.head | apply Pick.tail | apply Pick.app))))) fun oa => ?_
  have hgc := oa.le
  have hgm := oa.most
  obtain ⟨g, rfl⟩ : ∃ g, ga = some ⟨g, 0, none⟩ := oa.at_.elim id (fun e => absurd e.1 (by omega))
  clear oa hqc ok
  refine J.loop (α := Nat × Option Addr) (fun s => s.1 ≤ q ∧ (s.1 < q → s.2 = some ⟨g, 64 * s.1, none⟩)) (fun s => [(0, .slice s.2 (64 * q - 64 * s.1) (gc - 64 * s.1)), (2, .pointer (some ⟨b1, 0, none⟩)), (3, .pointer (some ⟨b3, 0, none⟩)), (4, .pointer (some ⟨b8, 0, none⟩))]) (fun s => row b8 157 ((absorb s.1 init8 M).list.map W) :: own 5 1 (.slice (some ⟨g, 0, none⟩) (64 * q) gc) (64 * q) (ints .u8 M) :: row b3 155 (K64.map W) :: row b1 140 (ints .u8 (List.replicate 32 0)) :: l) (fun s => q - s.1) (0, some ⟨g, 0, none⟩) ⟨by simp, fun _ => rfl⟩ ⟨rfl, rfl, rfl, rfl, trivial⟩ (fun w h => h.sup (by (repeat (first | exact Sup.refl | apply Sup.cons (by (repeat (first | exact Pick.head | apply Pick.tail | apply Pick.app))) | apply Sup.app | apply Sup.skip | apply Sup.skips)))) ?_
  rintro ⟨j, pj⟩ ⟨hj, hpj⟩
  dsimp only at hj hpj ⊢
  refine J.seq ?_
  refine J.seq ?_
  refine J.region ?_
  refine JL.step (y_move rfl) rfl rfl rfl (JL.step (y_len_slice hT rfl rfl rfl) rfl rfl rfl (JL.step (y_gtr rfl rfl) rfl rfl rfl ?_))
  refine JL.nil ?_
  refine JE.then_normal ?_
  first | apply J.cond_dec rfl | apply J.cond rfl
  case' ht =>
    intro h
    try (first | (exfalso; omega) | (cases h; done) | (exfalso; simp at h; done) | subst h)
    all_goals
      refine J.skip ?_
  case' hf =>
    intro h
    try (first | (exfalso; omega) | (cases h; done) | (exfalso; simp at h; done) | subst h)
    all_goals
      refine J.exit ?_
      refine JE.then_exit ?_
      refine JE.then_exit ?_
      refine JE.block_exit ?_
      refine JE.then_normal ?_
      refine J.seq ?_
      have hjq : j = q := by omega
      rw [hjq]
      obtain ⟨s8, hs8⟩ : ∃ s8, absorb q init8 M = s8 := ⟨_, rfl⟩
      rw [hs8]
      refine J.region ?_
      refine JL.loud rfl (l_alloc hT rfl rfl (by (first | rfl | simp)) rfl (fun b10 => ?_))
      refine JL.nil ?_
      refine JE.then_normal ?_
      refine J.seq ?_
      refine J.seq ?_
      refine J.region ?_
      refine JL.step (y_loadN hT rfl rfl rfl (RdN.rowAll (by (repeat (first | exact Pick.head | apply Pick.tail | apply Pick.app)))) (by rw [List.length_map]; rfl)) rfl rfl rfl ?_
      refine JL.step (y_move rfl) rfl rfl rfl ?_
      refine JL.nil ?_
      refine JE.then_normal ?_
      refine J.block ?_
      refine J.loop (α := Nat) (fun i => i ≤ 8) (fun i => [(2, .pointer (some ⟨b1, 0, none⟩)), (16, .pointer (some ⟨b10, 0, none⟩)), (205, .agg (s8.list.map W).toArray), (206, .int .i64 i)]) (fun i => row b10 140 (ints .u8 (keyI s8 (4 * i))) :: row b8 157 (s8.list.map W) :: own 5 1 (.slice (some ⟨g, 0, none⟩) (64 * q) gc) (64 * q) (ints .u8 M) :: row b3 155 (K64.map W) :: row b1 140 (ints .u8 (List.replicate 32 0)) :: l) (fun i => 8 - i) 0 (by omega) ⟨rfl, rfl, rfl, rfl, trivial⟩ (fun w h => h) ?_
      intro i hi
      have hsi : (s8.list.map W)[i]? = some (W (s8.list.getD i 0)) ∨ 8 ≤ i := by
        rcases Nat.lt_or_ge i 8 with h | h
        · refine .inl ?_
          rw [List.getElem?_map, List.getD_eq_getElem?_getD, List.getElem?_eq_getElem (show i < s8.list.length from h)]; rfl
        · exact .inr h
      refine J.seq ?_
      refine J.region ?_
      refine JL.step (y_lss rfl rfl) rfl rfl rfl ?_
      refine JL.nil ?_
      refine JE.then_normal ?_
      refine J.seq ?_
      first | apply J.cond_dec rfl | apply J.cond rfl
      case' ht =>
        intro h
        try (first | (exfalso; omega) | (cases h; done) | (exfalso; simp at h; done) | subst h)
        all_goals
          refine J.skip ?_
      case' hf =>
        intro h
        try (first | (exfalso; omega) | (cases h; done) | (exfalso; simp at h; done) | subst h)
        all_goals
          refine J.exit ?_
          refine JE.then_exit ?_
          refine JE.then_exit ?_
          refine JE.block_exit ?_
          refine JE.then_normal ?_
          refine J.seq ?_
          obtain rfl : i = 8 := by omega
          refine J.region ?_
          refine JL.step (y_loadN hT rfl rfl rfl (by (first | exact RdN.rowAll (by (repeat (first | exact Pick.head | apply Pick.tail | apply Pick.app))) | exact RdN.own (by (repeat (first | exact Pick.head | apply Pick.tail | apply Pick.app))))) (by (first | rfl | assumption | (simp; done) | omega))) rfl rfl rfl ?_
          refine JL.loud rfl (l_storeAll hT rfl rfl rfl (by (first | rfl | assumption | (simp; done) | omega)) (by (first | assumption | exact ones_of rfl | exact encW_one _ | exact encB_one _ | (intro u hu; simp at hu; rcases hu with rfl | rfl <;> rfl) | (intro u hu; simp at hu; subst hu; rfl) | simp)) (by (repeat (first | exact Pick.head | apply Pick.tail | apply Pick.app))) (by (first | rfl | assumption | (simp; done) | omega)) ?_)
          refine JL.nil ?_
          refine JE.then_normal ?_
          refine J.ret ?_
          refine JE.ret1 (.inl rfl) rfl rfl (by (first | exact RV.tmp rfl | exact RV.cell1 hT rfl rfl rfl (by (exact Rd1.row (by (repeat (first | exact Pick.head | apply Pick.tail | apply Pick.app))) (by rfl))) | exact RV.cellN hT rfl rfl rfl (by (first | exact RdN.rowAll (by (repeat (first | exact Pick.head | apply Pick.tail | apply Pick.app))) | exact RdN.own (by (repeat (first | exact Pick.head | apply Pick.tail | apply Pick.app))))) (by (first | rfl | assumption | (simp; done) | omega)))) ?_
          have e : keyI s8 (4 * 8) = shaOut s8 := by
            have h32 : (shaOut s8).length = 32 := rfl
            rw [keyI, List.take_of_length_le (by omega)]
            simp
          exact ⟨by rw [e], fun w q => q.sup (by (repeat (first | exact Sup.refl | apply Sup.cons (by (repeat (first | exact Pick.head | apply Pick.tail | apply Pick.app))) | apply Sup.app | apply Sup.skip | apply Sup.skips)))⟩
      all_goals refine JE.then_normal ?_
      all_goals
        refine J.seq ?_
        refine J.block ?_
        refine J.seq ?_
        refine J.region ?_
        refine JL.step (y_move rfl) rfl rfl rfl ?_
        refine JL.step (y_index1 hT rfl rfl rfl rfl rfl rfl rfl (by (first | omega | exact Nat.le_of_ble_eq_true rfl | decide | (simp; omega))) (by (first | omega | exact Nat.le_of_ble_eq_true rfl | decide | (simp; omega))) (hsi.resolve_right (by omega))) rfl rfl rfl ?_
        refine JL.step (y_assign rfl) rfl rfl rfl (JL.step (y_assign rfl) rfl rfl rfl ?_)
        refine JL.nil ?_
        refine JE.then_normal ?_
        refine J.seq ?_
        refine J.region ?_
        refine JL.step (y_move rfl) rfl rfl rfl ?_
        refine JL.nil ?_
        refine JE.then_normal ?_
        refine J.block ?_
        refine J.loop (α := Nat) (fun m => m ≤ 4) (fun m => [(2, .pointer (some ⟨b1, 0, none⟩)), (16, .pointer (some ⟨b10, 0, none⟩)), (205, .agg (s8.list.map W).toArray), (206, .int .i64 i), (17, .int .i64 i), (18, W (s8.list.getD i 0)), (210, .int .i64 m)]) (fun m => row b10 140 (ints .u8 (keyI s8 (4 * i + m))) :: row b8 157 (s8.list.map W) :: own 5 1 (.slice (some ⟨g, 0, none⟩) (64 * q) gc) (64 * q) (ints .u8 M) :: row b3 155 (K64.map W) :: row b1 140 (ints .u8 (List.replicate 32 0)) :: l) (fun m => 4 - m) 0 (by omega) ⟨rfl, rfl, rfl, rfl, rfl, rfl, rfl, trivial⟩ (fun w h => h) ?_
        intro m hm
        have hkl := keyI_length s8 (k := 4 * i + m)
        refine J.seq ?_
        refine J.region ?_
        refine JL.step (y_lss rfl rfl) rfl rfl rfl ?_
        refine JL.nil ?_
        refine JE.then_normal ?_
        refine J.seq ?_
        first | apply J.cond_dec rfl | apply J.cond rfl
        case' ht =>
          intro h
          try (first | (exfalso; omega) | (cases h; done) | (exfalso; simp at h; done) | subst h)
          all_goals
            refine J.skip ?_
        case' hf =>
          intro h
          try (first | (exfalso; omega) | (cases h; done) | (exfalso; simp at h; done) | subst h)
          all_goals
            refine J.exit ?_
            refine JE.then_exit ?_
            refine JE.then_exit ?_
            refine JE.block_exit ?_
            refine JE.block_normal ?_
            refine JE.then_normal ?_
            refine J.region ?_
            refine JL.step (y_add rfl rfl (by (first | exact wrap_i64 (by omega) (by omega) | rfl))) rfl rfl rfl ?_
            refine JL.step (y_move rfl) rfl rfl rfl ?_
            refine JL.nil ?_
            obtain rfl : m = 4 := by omega
            exact JE.round (s := i) (i + 1) (by omega) ⟨rfl, rfl, rfl, rfl, trivial⟩ (fun w q => q.sup (by (repeat (first | exact Sup.refl | apply Sup.cons (by (repeat (first | exact Pick.head | apply Pick.tail | apply Pick.app))) | apply Sup.app | apply Sup.skip | apply Sup.skips)))) (by omega)
        all_goals refine JE.then_normal ?_
        all_goals
          refine J.seq ?_
          refine J.block ?_
          refine J.seq ?_
          refine J.region ?_
          refine JL.step (y_move rfl) rfl rfl rfl (JL.step (y_assign rfl) rfl rfl rfl ?_)
          refine JL.nil ?_
          refine JE.then_normal ?_
          refine J.region ?_
          refine JL.step (y_move rfl) rfl rfl rfl ?_
          refine JL.step (y_mul rfl rfl (by (first | exact wrap_i64 (by omega) (by omega) | rfl))) rfl rfl rfl ?_
          refine JL.step (y_move rfl) rfl rfl rfl ?_
          refine JL.step (y_add rfl rfl (by (first | exact wrap_i64 (by omega) (by omega) | rfl))) rfl rfl rfl ?_
          refine JL.step (y_move rfl) rfl rfl rfl (JL.step (y_move rfl) rfl rfl rfl ?_)
          refine JL.step (y_mul rfl rfl (by (first | exact wrap_i64 (by omega) (by omega) | rfl))) rfl rfl rfl ?_
          refine JL.step (y_sub (m := ((24 - 8 * m : Nat) : Int)) rfl rfl (by rw [show (24 : Int) - 8 * m = ((24 - 8 * m : Nat) : Int) by omega]; exact wrap_i64 (by omega) (by omega))) rfl rfl rfl ?_
          refine JL.step ((by first | exact y_shrW rfl rfl (by (first | omega | exact Nat.le_of_ble_eq_true rfl | decide | (simp; omega))) (by (first | omega | exact Nat.le_of_ble_eq_true rfl | decide | (simp; omega))) | exact y_shr rfl rfl (by (first | omega | exact Nat.le_of_ble_eq_true rfl | decide | (simp; omega))) (by rfl))) rfl rfl rfl ?_
          refine JL.step ((by first | exact y_convOfW hT rfl rfl rfl rfl | exact y_conv hT rfl rfl rfl rfl (by (first | exact wrap_i64 (by omega) (by omega) | rfl)))) rfl rfl rfl ?_
          refine JL.step (y_indexAddr_arr hT rfl rfl rfl rfl rfl (by (first | omega | exact Nat.le_of_ble_eq_true rfl | decide | (simp; omega))) (by (first | omega | exact Nat.le_of_ble_eq_true rfl | decide | (simp; omega)))) rfl rfl rfl ?_
          refine JL.loud rfl (l_store1 hT rfl rfl rfl rfl rfl (by (repeat (first | exact Pick.head | apply Pick.tail | apply Pick.app))) (by simp only [ints, List.length_map]; rw [hkl (by omega), show i5.size = 1 from rfl]; omega) ?_)
          refine JL.nil ?_
          refine JE.block_normal ?_
          refine JE.then_normal ?_
          refine J.region ?_
          refine JL.step (y_add rfl rfl (by (first | exact wrap_i64 (by omega) (by omega) | rfl))) rfl rfl rfl ?_
          refine JL.step (y_move rfl) rfl rfl rfl ?_
          refine JL.nil ?_
        all_goals
          refine JE.round (s := m) (m + 1) (by omega) ⟨rfl, rfl, rfl, rfl, rfl, rfl, rfl, trivial⟩ (fun w q => ?_) (by omega)
          have e := keyI_set s8 (i := i) (m := m) (by omega) (by omega)
          rw [show 4 * i + (m + 1) = 4 * i + m + 1 by omega, ← e]
          simp only [ints, List.map_set]
          rw [show 0 + ((4 : Int) * i + m).toNat * i5.size = 4 * i + m by rw [show i5.size = 1 from rfl]; omega] at q
          exact q.sup (by (repeat (first | exact Sup.refl | apply Sup.cons (by (repeat (first | exact Pick.head | apply Pick.tail | apply Pick.app))) | apply Sup.app | apply Sup.skip | apply Sup.skips)))
  all_goals refine JE.then_normal ?_
  all_goals
    refine J.seq ?_
    refine J.block ?_
    refine J.seq ?_
    obtain rfl : pj = _ := hpj (by omega)
    refine J.region ?_
    refine JL.loud rfl (l_alloc hT rfl rfl (by (first | rfl | simp)) rfl (fun b12 => ?_))
    refine JL.nil ?_
    refine JE.then_normal ?_
    refine J.seq ?_
    refine J.seq ?_
    refine J.region ?_
    refine JL.step (y_move rfl) rfl rfl rfl ?_
    refine JL.nil ?_
    refine JE.then_normal ?_
    refine J.block ?_
    refine J.loop (α := Nat) (fun i => i ≤ 64) (fun i => [(0, .slice (some ⟨g, 64 * j, none⟩) (64 * q - 64 * j) (gc - 64 * j)), (2, .pointer (some ⟨b1, 0, none⟩)), (3, .pointer (some ⟨b3, 0, none⟩)), (4, .pointer (some ⟨b8, 0, none⟩)), (5, .pointer (some ⟨b12, 0, none⟩)), (34, .int .i64 i)]) (fun i => row b12 155 ((schedW (M.drop (64 * j)) i).map W) :: row b8 157 ((absorb j init8 M).list.map W) :: own 5 1 (.slice (some ⟨g, 0, none⟩) (64 * q) gc) (64 * q) (ints .u8 M) :: row b3 155 (K64.map W) :: row b1 140 (ints .u8 (List.replicate 32 0)) :: l) (fun i => 64 - i) 0 (by omega) ⟨rfl, rfl, rfl, rfl, rfl, rfl, trivial⟩ (fun w h => h) ?_
    intro i hi
    have hwl := schedW_length (M.drop (64 * j)) (i := i) (by omega)
    refine J.seq ?_
    refine J.region ?_
    refine JL.step (y_lss rfl rfl) rfl rfl rfl ?_
    refine JL.nil ?_
    refine JE.then_normal ?_
    refine J.seq ?_
    first | apply J.cond_dec rfl | apply J.cond rfl
    case' ht =>
      intro h
      try (first | (exfalso; omega) | (cases h; done) | (exfalso; simp at h; done) | subst h)
      all_goals
        refine J.skip ?_
    case' hf =>
      intro h
      try (first | (exfalso; omega) | (cases h; done) | (exfalso; simp at h; done) | subst h)
      all_goals
        refine J.exit ?_
        refine JE.then_exit ?_
        refine JE.then_exit ?_
        refine JE.block_exit ?_
        refine JE.then_normal ?_
        refine J.seq ?_
        have hi64 : i = 64 := by omega
        rw [hi64]
        clear hi64 hwl h hi
        clear i
        have hwl := schedW_length (M.drop (64 * j)) (i := 64) (by omega)
        rw [schedW_all] at hwl ⊢
        obtain ⟨ws, hws⟩ : ∃ ws, schedTo (M.drop (64 * j)) 64 = ws := ⟨_, rfl⟩
        rw [hws] at hwl ⊢
        obtain ⟨s, hs⟩ : ∃ s, absorb j init8 M = s := ⟨_, rfl⟩
        rw [hs]
        refine J.region ?_
        refine JL.step (y_loadN hT rfl rfl rfl (RdN.rowAll (by (repeat (first | exact Pick.head | apply Pick.tail | apply Pick.app)))) (by rw [List.length_map]; rfl)) rfl rfl rfl ?_
        refine JL.loud rfl (l_alloc hT rfl rfl (by (first | rfl | simp)) rfl (fun b13 => ?_))
        refine JL.loud rfl (l_storeAll hT rfl rfl rfl (by (first | rfl | assumption | (simp; done) | omega)) (by (first | assumption | exact ones_of rfl | exact encW_one _ | exact encB_one _ | (intro u hu; simp at hu; rcases hu with rfl | rfl <;> rfl) | (intro u hu; simp at hu; subst hu; rfl) | simp)) (by (repeat (first | exact Pick.head | apply Pick.tail | apply Pick.app))) (by (first | rfl | assumption | (simp; done) | omega)) ?_)
        refine JL.nil ?_
        refine JE.then_normal ?_
        refine J.seq ?_
        refine J.seq ?_
        refine J.region ?_
        refine JL.step (y_move rfl) rfl rfl rfl ?_
        refine JL.nil ?_
        refine JE.then_normal ?_
        refine J.block ?_
        refine J.loop (α := Nat) (fun i => i ≤ 64) (fun i => [(0, .slice (some ⟨g, 64 * j, none⟩) (64 * q - 64 * j) (gc - 64 * j)), (2, .pointer (some ⟨b1, 0, none⟩)), (3, .pointer (some ⟨b3, 0, none⟩)), (4, .pointer (some ⟨b8, 0, none⟩)), (5, .pointer (some ⟨b12, 0, none⟩)), (9, .pointer (some ⟨b13, 0, none⟩)), (113, .int .i64 i)]) (fun i => row b13 157 ((roundsTo ws s i).list.map W) :: row b12 155 (ws.map W) :: row b8 157 (s.list.map W) :: own 5 1 (.slice (some ⟨g, 0, none⟩) (64 * q) gc) (64 * q) (ints .u8 M) :: row b3 155 (K64.map W) :: row b1 140 (ints .u8 (List.replicate 32 0)) :: l) (fun i => 64 - i) 0 (by omega) ⟨rfl, rfl, rfl, rfl, rfl, rfl, rfl, trivial⟩ (fun w h => h) ?_
        intro i hi
        refine J.seq ?_
        refine J.region ?_
        refine JL.step (y_lss rfl rfl) rfl rfl rfl ?_
        refine JL.nil ?_
        refine JE.then_normal ?_
        refine J.seq ?_
        first | apply J.cond_dec rfl | apply J.cond rfl
        case' ht =>
          intro h
          try (first | (exfalso; omega) | (cases h; done) | (exfalso; simp at h; done) | subst h)
          all_goals
            refine J.skip ?_
        case' hf =>
          intro h
          try (first | (exfalso; omega) | (cases h; done) | (exfalso; simp at h; done) | subst h)
          all_goals
            refine J.exit ?_
            refine JE.then_exit ?_
            refine JE.then_exit ?_
            refine JE.block_exit ?_
            refine JE.then_normal ?_
            refine J.seq ?_
            have hi64 : i = 64 := by omega
            rw [hi64]
            clear hi64 h hi
            clear i
            obtain ⟨q0, hq0⟩ : ∃ q0, roundsTo ws s 64 = q0 := ⟨_, rfl⟩
            rw [hq0]
            have hcmp : compress s (M.drop (64 * j)) = ⟨s.a + q0.a, s.b + q0.b, s.c + q0.c, s.d + q0.d, s.e + q0.e, s.f + q0.f, s.g + q0.g, s.h + q0.h⟩ := by rw [compress, hws, hq0]
            have hab : absorb (j + 1) init8 M = ⟨s.a + q0.a, s.b + q0.b, s.c + q0.c, s.d + q0.d, s.e + q0.e, s.f + q0.f, s.g + q0.g, s.h + q0.h⟩ := by rw [absorb_snoc, hs, compress_take, hcmp]
            clear hcmp hq0 hs hws
            obtain ⟨qa, qb, qc, qd, qe, qf, qg, qh⟩ := q0
            obtain ⟨sa, sb, sc, sd, se, sf, sg, sh⟩ := s
            dsimp only [S8.list] at hab ⊢
            refine J.region ?_
            refine JL.step (y_move rfl) rfl rfl rfl ?_
            refine JL.nil ?_
            refine JE.then_normal ?_
            refine J.block ?_
            refine J.loop (α := Nat) (fun i => i ≤ 8) (fun i => [(0, .slice (some ⟨g, 64 * j, none⟩) (64 * q - 64 * j) (gc - 64 * j)), (2, .pointer (some ⟨b1, 0, none⟩)), (3, .pointer (some ⟨b3, 0, none⟩)), (4, .pointer (some ⟨b8, 0, none⟩)), (9, .pointer (some ⟨b13, 0, none⟩)), (193, .int .i64 i)]) (fun i => row b8 157 (([sa + qa, sb + qb, sc + qc, sd + qd, se + qe, sf + qf, sg + qg, sh + qh].take i ++ [sa, sb, sc, sd, se, sf, sg, sh].drop i).map W) :: row b13 157 [W qa, W qb, W qc, W qd, W qe, W qf, W qg, W qh] :: row b12 155 (ws.map W) :: own 5 1 (.slice (some ⟨g, 0, none⟩) (64 * q) gc) (64 * q) (ints .u8 M) :: row b3 155 (K64.map W) :: row b1 140 (ints .u8 (List.replicate 32 0)) :: l) (fun i => 8 - i) 0 (by omega) ⟨rfl, rfl, rfl, rfl, rfl, rfl, trivial⟩ (fun w h => h.sup (by (repeat (first | exact Sup.refl | apply Sup.cons (by (repeat (first | exact Pick.head | apply Pick.tail | apply Pick.app))) | apply Sup.app | apply Sup.skip | apply Sup.skips)))) ?_
            intro i hi
            refine J.seq ?_
            refine J.region ?_
            refine JL.step (y_lss rfl rfl) rfl rfl rfl ?_
            refine JL.nil ?_
            refine JE.then_normal ?_
            refine J.seq ?_
            first | apply J.cond_dec rfl | apply J.cond rfl
            case' ht =>
              intro h
              try (first | (exfalso; omega) | (cases h; done) | (exfalso; simp at h; done) | subst h)
              all_goals
                refine J.skip ?_
            case' hf =>
              intro h
              try (first | (exfalso; omega) | (cases h; done) | (exfalso; simp at h; done) | subst h)
              all_goals
                refine J.exit ?_
                refine JE.then_exit ?_
                refine JE.then_exit ?_
                refine JE.block_exit ?_
                refine JE.block_normal ?_
                refine JE.then_normal ?_
                refine J.region ?_
                refine JL.step (y_move rfl) rfl rfl rfl ?_
                refine JL.step (y_slice hT rfl rfl rfl rfl (.inr ⟨_, _, _, rfl, rfl, (by (first | rfl | simp))⟩) (.inl ⟨rfl, rfl⟩) (by (first | omega | exact Nat.le_of_ble_eq_true rfl | decide | (simp; omega))) (by (first | omega | exact Nat.le_of_ble_eq_true rfl | decide | (simp; omega))) (by (first | omega | exact Nat.le_of_ble_eq_true rfl | decide | (simp; omega))) (by (first | exact .inl rfl | exact .inr rfl | assumption))) rfl rfl rfl ?_
                refine JL.step (y_assign rfl) rfl rfl rfl ?_
                refine JL.nil ?_
                obtain rfl : i = 8 := by omega
                refine JE.round (s := (j, some ⟨g, 64 * j, none⟩)) (j + 1, _) ⟨by dsimp only; omega, fun h => ?_⟩ ⟨by dsimp only; rw [show 64 * q - 64 * (j + 1) = 64 * q - 64 * j - 64 by omega, show gc - 64 * (j + 1) = gc - 64 * j - 64 by omega]; rfl, rfl, rfl, rfl, trivial⟩ (fun w q => ?_) (by dsimp only; omega)
                · dsimp only at h ⊢
                  rw [if_neg (by omega), show i5.size = 1 from rfl, show 64 * j + 64 * 1 = 64 * (j + 1) by omega]
                · dsimp only
                  rw [hab]
                  exact q.sup (by (repeat (first | exact Sup.refl | apply Sup.cons (by (repeat (first | exact Pick.head | apply Pick.tail | apply Pick.app))) | apply Sup.app | apply Sup.skip | apply Sup.skips)))
            all_goals refine JE.then_normal ?_
            all_goals
              refine J.seq ?_
              refine J.block ?_
              refine J.seq ?_
              refine J.region ?_
              rcases (by omega : i = 0 ∨ i = 1 ∨ i = 2 ∨ i = 3 ∨ i = 4 ∨ i = 5 ∨ i = 6 ∨ i = 7) with rfl | rfl | rfl | rfl | rfl | rfl | rfl | rfl <;> refine JL.step (y_move rfl) rfl rfl rfl ?_
              all_goals (refine JL.step (y_assign rfl) rfl rfl rfl ?_)
              all_goals refine JL.nil ?_
              all_goals refine JE.then_normal ?_
              all_goals
                refine J.draw _ _ [(0, .q), (1, .q), (3, .q), (4, .q), (5, .q), (2, .e), (6, .q), (7, .q), (8, .l)] mixed (by kernel_rfl) (Split.cons (Pick.head) (Split.nil)) ?_
                refine JM.quiet rfl rfl rfl rfl (fun m => y_move rfl) ?_
                refine JM.quiet rfl rfl rfl rfl (fun m => y_indexAddr_arr hT rfl rfl rfl rfl rfl (by (first | omega | exact Nat.le_of_ble_eq_true rfl | decide | (simp; omega))) (by (first | omega | exact Nat.le_of_ble_eq_true rfl | decide | (simp; omega)))) ?_
                refine JM.quiet rfl rfl rfl rfl (fun m => y_move rfl) ?_
                refine JM.quiet rfl rfl rfl rfl (fun m => y_indexAddr_arr hT rfl rfl rfl rfl rfl (by (first | omega | exact Nat.le_of_ble_eq_true rfl | decide | (simp; omega))) (by (first | omega | exact Nat.le_of_ble_eq_true rfl | decide | (simp; omega)))) ?_
                refine JM.quiet rfl rfl rfl rfl (fun m => y_load1 hT rfl rfl rfl (by (exact Rd1.row (Pick.app m (by (repeat (first | exact Pick.head | apply Pick.tail | apply Pick.app)))) (by rfl)))) ?_
                refine JM.early rfl rfl rfl rfl (fun fr => y_load1 hT rfl rfl rfl (by (exact Rd1.row (by (repeat (first | exact Pick.head | apply Pick.tail | apply Pick.app))) (by rfl)))) ?_
                refine JM.quiet rfl rfl rfl rfl (fun m => (by first | exact y_addW rfl rfl | exact y_add rfl rfl (by (first | exact wrap_i64 (by omega) (by omega) | rfl)))) ?_
                refine JM.quiet rfl rfl rfl rfl (fun m => y_indexAddr_arr hT rfl rfl rfl rfl rfl (by (first | omega | exact Nat.le_of_ble_eq_true rfl | decide | (simp; omega))) (by (first | omega | exact Nat.le_of_ble_eq_true rfl | decide | (simp; omega)))) ?_
                refine JM.loud rfl rfl (fun fr => l_store1 hT rfl rfl rfl rfl rfl (by (repeat (first | exact Pick.head | apply Pick.tail | apply Pick.app))) (by (first | omega | exact Nat.le_of_ble_eq_true rfl | decide | (simp; omega))) (⟨[_], (by (repeat (first | exact Split.nil | exact Split.all | refine Split.cons Pick.head ?_))), ?_⟩))
                refine JM.nil ?_
              all_goals refine JE.block_normal ?_
              all_goals refine JE.then_normal ?_
              all_goals
                refine J.region ?_
                refine JL.step (y_add rfl rfl (by (first | exact wrap_i64 (by omega) (by omega) | rfl))) rfl rfl rfl ?_
                refine JL.step (y_move rfl) rfl rfl rfl ?_
                refine JL.nil ?_
            all_goals
              first
                | exact JE.round (s := 0) 1 (by omega) ⟨rfl, rfl, rfl, rfl, rfl, rfl, trivial⟩ (fun w q => q.sup (by (repeat (first | exact Sup.refl | apply Sup.cons (by (repeat (first | exact Pick.head | apply Pick.tail | apply Pick.app))) | apply Sup.app | apply Sup.skip | apply Sup.skips)))) (by omega)
                | exact JE.round (s := 1) 2 (by omega) ⟨rfl, rfl, rfl, rfl, rfl, rfl, trivial⟩ (fun w q => q.sup (by (repeat (first | exact Sup.refl | apply Sup.cons (by (repeat (first | exact Pick.head | apply Pick.tail | apply Pick.app))) | apply Sup.app | apply Sup.skip | apply Sup.skips)))) (by omega)
                | exact JE.round (s := 2) 3 (by omega) ⟨rfl, rfl, rfl, rfl, rfl, rfl, trivial⟩ (fun w q => q.sup (by (repeat (first | exact Sup.refl | apply Sup.cons (by (repeat (first | exact Pick.head | apply Pick.tail | apply Pick.app))) | apply Sup.app | apply Sup.skip | apply Sup.skips)))) (by omega)
                | exact JE.round (s := 3) 4 (by omega) ⟨rfl, rfl, rfl, rfl, rfl, rfl, trivial⟩ (fun w q => q.sup (by (repeat (first | exact Sup.refl | apply Sup.cons (by (repeat (first | exact Pick.head | apply Pick.tail | apply Pick.app))) | apply Sup.app | apply Sup.skip | apply Sup.skips)))) (by omega)
                | exact JE.round (s := 4) 5 (by omega) ⟨rfl, rfl, rfl, rfl, rfl, rfl, trivial⟩ (fun w q => q.sup (by (repeat (first | exact Sup.refl | apply Sup.cons (by (repeat (first | exact Pick.head | apply Pick.tail | apply Pick.app))) | apply Sup.app | apply Sup.skip | apply Sup.skips)))) (by omega)
                | exact JE.round (s := 5) 6 (by omega) ⟨rfl, rfl, rfl, rfl, rfl, rfl, trivial⟩ (fun w q => q.sup (by (repeat (first | exact Sup.refl | apply Sup.cons (by (repeat (first | exact Pick.head | apply Pick.tail | apply Pick.app))) | apply Sup.app | apply Sup.skip | apply Sup.skips)))) (by omega)
                | exact JE.round (s := 6) 7 (by omega) ⟨rfl, rfl, rfl, rfl, rfl, rfl, trivial⟩ (fun w q => q.sup (by (repeat (first | exact Sup.refl | apply Sup.cons (by (repeat (first | exact Pick.head | apply Pick.tail | apply Pick.app))) | apply Sup.app | apply Sup.skip | apply Sup.skips)))) (by omega)
                | exact JE.round (s := 7) 8 (by omega) ⟨rfl, rfl, rfl, rfl, rfl, rfl, trivial⟩ (fun w q => q.sup (by (repeat (first | exact Sup.refl | apply Sup.cons (by (repeat (first | exact Pick.head | apply Pick.tail | apply Pick.app))) | apply Sup.app | apply Sup.skip | apply Sup.skips)))) (by omega)
        all_goals refine JE.then_normal ?_
        all_goals
          refine J.seq ?_
          refine J.block ?_
          refine J.seq ?_
          obtain ⟨r, hr⟩ : ∃ r, roundsTo ws s i = r := ⟨_, rfl⟩
          rw [hr]
          obtain ⟨qa, qb, qc, qd, qe, qf, qg, qh⟩ := r
          dsimp only [S8.list]
          refine J.region ?_
          refine JL.step (y_move rfl) rfl rfl rfl (JL.step (y_assign rfl) rfl rfl rfl ?_)
          refine JL.nil ?_
          refine JE.then_normal ?_
          refine J.seq ?_
          refine J.draw _ _ [(0, .q), (1, .q), (2, .q), (3, .q), (4, .q), (5, .q)] mixed (by kernel_rfl) (Split.nil) ?_
          refine JM.quiet rfl rfl rfl rfl (fun m => y_indexAddr_arr hT rfl rfl rfl rfl rfl (by (first | omega | exact Nat.le_of_ble_eq_true rfl | decide | (simp; omega))) (by (first | omega | exact Nat.le_of_ble_eq_true rfl | decide | (simp; omega)))) ?_
          refine JM.quiet rfl rfl rfl rfl (fun m => y_load1 hT rfl rfl rfl (by (exact Rd1.row (Pick.app m (by (repeat (first | exact Pick.head | apply Pick.tail | apply Pick.app)))) (by rfl)))) ?_
          refine JM.quiet rfl rfl rfl rfl (fun m => y_indexAddr_arr hT rfl rfl rfl rfl rfl (by (first | omega | exact Nat.le_of_ble_eq_true rfl | decide | (simp; omega))) (by (first | omega | exact Nat.le_of_ble_eq_true rfl | decide | (simp; omega)))) ?_
          refine JM.quiet rfl rfl rfl rfl (fun m => y_load1 hT rfl rfl rfl (by (exact Rd1.row (Pick.app m (by (repeat (first | exact Pick.head | apply Pick.tail | apply Pick.app)))) (by rfl)))) ?_
          refine JM.quiet rfl rfl rfl rfl (fun m => y_assign rfl) ?_
          refine JM.quiet rfl rfl rfl rfl (fun m => y_assign rfl) ?_
          refine JM.nil ?_
          refine JE.then_normal ?_
          refine J.seq ?_
          refine J.draw _ _ [(0, .q), (1, .q), (2, .q), (3, .q), (4, .q), (5, .q), (6, .q), (7, .q), (8, .q), (9, .q), (10, .q), (11, .q), (12, .q), (13, .q), (14, .q), (15, .q), (16, .q), (17, .q), (18, .q), (19, .q), (20, .q), (21, .q), (22, .q), (23, .q), (24, .q), (25, .q), (26, .q), (27, .q), (28, .q), (29, .q), (30, .q)] mixed (by kernel_rfl) (Split.nil) ?_
          refine JM.quiet rfl rfl rfl rfl (fun m => y_indexAddr_arr hT rfl rfl rfl rfl rfl (by (first | omega | exact Nat.le_of_ble_eq_true rfl | decide | (simp; omega))) (by (first | omega | exact Nat.le_of_ble_eq_true rfl | decide | (simp; omega)))) ?_
          refine JM.quiet rfl rfl rfl rfl (fun m => y_load1 hT rfl rfl rfl (by (exact Rd1.row (Pick.app m (by (repeat (first | exact Pick.head | apply Pick.tail | apply Pick.app)))) (by rfl)))) ?_
          refine JM.quiet rfl rfl rfl rfl (fun m => y_move rfl) ?_
          refine JM.quiet rfl rfl rfl rfl (fun m => y_callF e102 rfl (rright_spec E _ 6 (by omega) _)) ?_
          refine JM.quiet rfl rfl rfl rfl (fun m => y_move rfl) ?_
          refine JM.quiet rfl rfl rfl rfl (fun m => y_callF e102 rfl (rright_spec E _ 11 (by omega) _)) ?_
          refine JM.quiet rfl rfl rfl rfl (fun m => (by first | exact y_xorW rfl rfl | exact y_bits rfl rfl (by rfl))) ?_
          refine JM.quiet rfl rfl rfl rfl (fun m => y_move rfl) ?_
          refine JM.quiet rfl rfl rfl rfl (fun m => y_callF e102 rfl (rright_spec E _ 25 (by omega) _)) ?_
          refine JM.quiet rfl rfl rfl rfl (fun m => (by first | exact y_xorW rfl rfl | exact y_bits rfl rfl (by rfl))) ?_
          refine JM.quiet rfl rfl rfl rfl (fun m => (by first | exact y_addW rfl rfl | exact y_add rfl rfl (by (first | exact wrap_i64 (by omega) (by omega) | rfl)))) ?_
          refine JM.quiet rfl rfl rfl rfl (fun m => y_move rfl) ?_
          refine JM.quiet rfl rfl rfl rfl (fun m => y_indexAddr_arr hT rfl rfl rfl rfl rfl (by (first | omega | exact Nat.le_of_ble_eq_true rfl | decide | (simp; omega))) (by (first | omega | exact Nat.le_of_ble_eq_true rfl | decide | (simp; omega)))) ?_
          refine JM.quiet rfl rfl rfl rfl (fun m => y_load1 hT rfl rfl rfl (by (exact Rd1.row (Pick.app m (by (repeat (first | exact Pick.head | apply Pick.tail | apply Pick.app)))) (by rfl)))) ?_
          refine JM.quiet rfl rfl rfl rfl (fun m => (by first | exact y_andW rfl rfl | exact y_bits rfl rfl (by rfl))) ?_
          refine JM.quiet rfl rfl rfl rfl (fun m => y_move rfl) ?_
          refine JM.quiet rfl rfl rfl rfl (fun m => (by first | exact y_cplW rfl | exact y_cplQ rfl)) ?_
          refine JM.quiet rfl rfl rfl rfl (fun m => y_indexAddr_arr hT rfl rfl rfl rfl rfl (by (first | omega | exact Nat.le_of_ble_eq_true rfl | decide | (simp; omega))) (by (first | omega | exact Nat.le_of_ble_eq_true rfl | decide | (simp; omega)))) ?_
          refine JM.quiet rfl rfl rfl rfl (fun m => y_load1 hT rfl rfl rfl (by (exact Rd1.row (Pick.app m (by (repeat (first | exact Pick.head | apply Pick.tail | apply Pick.app)))) (by rfl)))) ?_
          refine JM.quiet rfl rfl rfl rfl (fun m => (by first | exact y_andW rfl rfl | exact y_bits rfl rfl (by rfl))) ?_
          refine JM.quiet rfl rfl rfl rfl (fun m => (by first | exact y_xorW rfl rfl | exact y_bits rfl rfl (by rfl))) ?_
          refine JM.quiet rfl rfl rfl rfl (fun m => (by first | exact y_addW rfl rfl | exact y_add rfl rfl (by (first | exact wrap_i64 (by omega) (by omega) | rfl)))) ?_
          refine JM.quiet rfl rfl rfl rfl (fun m => y_move rfl) ?_
          refine JM.quiet rfl rfl rfl rfl (fun m => y_indexAddr_arr hT rfl rfl rfl rfl rfl (by (first | omega | exact Nat.le_of_ble_eq_true rfl | decide | (simp; omega))) (by (first | omega | exact Nat.le_of_ble_eq_true rfl | decide | (simp; omega)))) ?_
          refine JM.quiet rfl rfl rfl rfl (fun m => y_load1 hT rfl rfl rfl (Rd1.wordsAt (j := i) (Pick.app m (by (repeat (first | exact Pick.head | apply Pick.tail | apply Pick.app)))) (by rw [K64_length]; omega) (by rw [show i145.size = 1 from rfl]; omega))) ?_
          refine JM.quiet rfl rfl rfl rfl (fun m => (by first | exact y_addW rfl rfl | exact y_add rfl rfl (by (first | exact wrap_i64 (by omega) (by omega) | rfl)))) ?_
          refine JM.quiet rfl rfl rfl rfl (fun m => y_move rfl) ?_
          refine JM.quiet rfl rfl rfl rfl (fun m => y_indexAddr_arr hT rfl rfl rfl rfl rfl (by (first | omega | exact Nat.le_of_ble_eq_true rfl | decide | (simp; omega))) (by (first | omega | exact Nat.le_of_ble_eq_true rfl | decide | (simp; omega)))) ?_
          refine JM.quiet rfl rfl rfl rfl (fun m => y_load1 hT rfl rfl rfl (Rd1.wordsAt (j := i) (Pick.app m (by (repeat (first | exact Pick.head | apply Pick.tail | apply Pick.app)))) (by rw [hwl]; omega) (by rw [show i145.size = 1 from rfl]; omega))) ?_
          refine JM.quiet rfl rfl rfl rfl (fun m => (by first | exact y_addW rfl rfl | exact y_add rfl rfl (by (first | exact wrap_i64 (by omega) (by omega) | rfl)))) ?_
          refine JM.quiet rfl rfl rfl rfl (fun m => y_assign rfl) ?_
          refine JM.nil ?_
          refine JE.then_normal ?_
          refine J.seq ?_
          refine J.draw _ _ [(0, .q), (1, .q), (2, .q), (3, .q), (4, .q), (5, .q), (6, .q), (7, .q), (8, .q), (9, .q), (10, .q), (11, .q), (12, .q), (13, .q), (14, .q), (15, .q), (16, .q), (17, .q), (18, .q), (19, .q), (20, .q), (21, .q), (22, .q), (23, .q), (24, .q)] mixed (by kernel_rfl) (Split.nil) ?_
          refine JM.quiet rfl rfl rfl rfl (fun m => y_move rfl) ?_
          refine JM.quiet rfl rfl rfl rfl (fun m => y_callF e102 rfl (rright_spec E _ 2 (by omega) _)) ?_
          refine JM.quiet rfl rfl rfl rfl (fun m => y_move rfl) ?_
          refine JM.quiet rfl rfl rfl rfl (fun m => y_callF e102 rfl (rright_spec E _ 13 (by omega) _)) ?_
          refine JM.quiet rfl rfl rfl rfl (fun m => (by first | exact y_xorW rfl rfl | exact y_bits rfl rfl (by rfl))) ?_
          refine JM.quiet rfl rfl rfl rfl (fun m => y_move rfl) ?_
          refine JM.quiet rfl rfl rfl rfl (fun m => y_callF e102 rfl (rright_spec E _ 22 (by omega) _)) ?_
          refine JM.quiet rfl rfl rfl rfl (fun m => (by first | exact y_xorW rfl rfl | exact y_bits rfl rfl (by rfl))) ?_
          refine JM.quiet rfl rfl rfl rfl (fun m => y_move rfl) ?_
          refine JM.quiet rfl rfl rfl rfl (fun m => y_indexAddr_arr hT rfl rfl rfl rfl rfl (by (first | omega | exact Nat.le_of_ble_eq_true rfl | decide | (simp; omega))) (by (first | omega | exact Nat.le_of_ble_eq_true rfl | decide | (simp; omega)))) ?_
          refine JM.quiet rfl rfl rfl rfl (fun m => y_load1 hT rfl rfl rfl (by (exact Rd1.row (Pick.app m (by (repeat (first | exact Pick.head | apply Pick.tail | apply Pick.app)))) (by rfl)))) ?_
          refine JM.quiet rfl rfl rfl rfl (fun m => (by first | exact y_andW rfl rfl | exact y_bits rfl rfl (by rfl))) ?_
          refine JM.quiet rfl rfl rfl rfl (fun m => y_move rfl) ?_
          refine JM.quiet rfl rfl rfl rfl (fun m => y_indexAddr_arr hT rfl rfl rfl rfl rfl (by (first | omega | exact Nat.le_of_ble_eq_true rfl | decide | (simp; omega))) (by (first | omega | exact Nat.le_of_ble_eq_true rfl | decide | (simp; omega)))) ?_
          refine JM.quiet rfl rfl rfl rfl (fun m => y_load1 hT rfl rfl rfl (by (exact Rd1.row (Pick.app m (by (repeat (first | exact Pick.head | apply Pick.tail | apply Pick.app)))) (by rfl)))) ?_
          refine JM.quiet rfl rfl rfl rfl (fun m => (by first | exact y_andW rfl rfl | exact y_bits rfl rfl (by rfl))) ?_
          refine JM.quiet rfl rfl rfl rfl (fun m => (by first | exact y_xorW rfl rfl | exact y_bits rfl rfl (by rfl))) ?_
          refine JM.quiet rfl rfl rfl rfl (fun m => y_indexAddr_arr hT rfl rfl rfl rfl rfl (by (first | omega | exact Nat.le_of_ble_eq_true rfl | decide | (simp; omega))) (by (first | omega | exact Nat.le_of_ble_eq_true rfl | decide | (simp; omega)))) ?_
          refine JM.quiet rfl rfl rfl rfl (fun m => y_load1 hT rfl rfl rfl (by (exact Rd1.row (Pick.app m (by (repeat (first | exact Pick.head | apply Pick.tail | apply Pick.app)))) (by rfl)))) ?_
          refine JM.quiet rfl rfl rfl rfl (fun m => y_indexAddr_arr hT rfl rfl rfl rfl rfl (by (first | omega | exact Nat.le_of_ble_eq_true rfl | decide | (simp; omega))) (by (first | omega | exact Nat.le_of_ble_eq_true rfl | decide | (simp; omega)))) ?_
          refine JM.quiet rfl rfl rfl rfl (fun m => y_load1 hT rfl rfl rfl (by (exact Rd1.row (Pick.app m (by (repeat (first | exact Pick.head | apply Pick.tail | apply Pick.app)))) (by rfl)))) ?_
          refine JM.quiet rfl rfl rfl rfl (fun m => (by first | exact y_andW rfl rfl | exact y_bits rfl rfl (by rfl))) ?_
          refine JM.quiet rfl rfl rfl rfl (fun m => (by first | exact y_xorW rfl rfl | exact y_bits rfl rfl (by rfl))) ?_
          refine JM.quiet rfl rfl rfl rfl (fun m => (by first | exact y_addW rfl rfl | exact y_add rfl rfl (by (first | exact wrap_i64 (by omega) (by omega) | rfl)))) ?_
          refine JM.quiet rfl rfl rfl rfl (fun m => y_assign rfl) ?_
          refine JM.nil ?_
          refine JE.then_normal ?_
          refine J.region ?_
          refine JL.step (y_move rfl) rfl rfl rfl (JL.step (y_move rfl) rfl rfl rfl ?_)
          refine JL.step ((by first | exact y_addW rfl rfl | exact y_add rfl rfl (by (first | exact wrap_i64 (by omega) (by omega) | rfl)))) rfl rfl rfl ?_
          refine JL.step (y_move rfl) rfl rfl rfl ?_
          refine JL.step (y_indexAddr_arr hT rfl rfl rfl rfl rfl (by (first | omega | exact Nat.le_of_ble_eq_true rfl | decide | (simp; omega))) (by (first | omega | exact Nat.le_of_ble_eq_true rfl | decide | (simp; omega)))) rfl rfl rfl ?_
          refine JL.step (y_load1 hT rfl rfl rfl (by (exact Rd1.row (by (repeat (first | exact Pick.head | apply Pick.tail | apply Pick.app))) (by rfl)))) rfl rfl rfl ?_
          refine JL.step (y_indexAddr_arr hT rfl rfl rfl rfl rfl (by (first | omega | exact Nat.le_of_ble_eq_true rfl | decide | (simp; omega))) (by (first | omega | exact Nat.le_of_ble_eq_true rfl | decide | (simp; omega)))) rfl rfl rfl ?_
          refine JL.step (y_load1 hT rfl rfl rfl (by (exact Rd1.row (by (repeat (first | exact Pick.head | apply Pick.tail | apply Pick.app))) (by rfl)))) rfl rfl rfl ?_
          refine JL.step (y_indexAddr_arr hT rfl rfl rfl rfl rfl (by (first | omega | exact Nat.le_of_ble_eq_true rfl | decide | (simp; omega))) (by (first | omega | exact Nat.le_of_ble_eq_true rfl | decide | (simp; omega)))) rfl rfl rfl ?_
          refine JL.step (y_load1 hT rfl rfl rfl (by (exact Rd1.row (by (repeat (first | exact Pick.head | apply Pick.tail | apply Pick.app))) (by rfl)))) rfl rfl rfl ?_
          refine JL.step (y_move rfl) rfl rfl rfl ?_
          refine JL.step ((by first | exact y_addW rfl rfl | exact y_add rfl rfl (by (first | exact wrap_i64 (by omega) (by omega) | rfl)))) rfl rfl rfl ?_
          refine JL.step (y_move rfl) rfl rfl rfl ?_
          refine JL.step (y_indexAddr_arr hT rfl rfl rfl rfl rfl (by (first | omega | exact Nat.le_of_ble_eq_true rfl | decide | (simp; omega))) (by (first | omega | exact Nat.le_of_ble_eq_true rfl | decide | (simp; omega)))) rfl rfl rfl ?_
          refine JL.step (y_load1 hT rfl rfl rfl (by (exact Rd1.row (by (repeat (first | exact Pick.head | apply Pick.tail | apply Pick.app))) (by rfl)))) rfl rfl rfl ?_
          refine JL.step (y_indexAddr_arr hT rfl rfl rfl rfl rfl (by (first | omega | exact Nat.le_of_ble_eq_true rfl | decide | (simp; omega))) (by (first | omega | exact Nat.le_of_ble_eq_true rfl | decide | (simp; omega)))) rfl rfl rfl ?_
          refine JL.step (y_load1 hT rfl rfl rfl (by (exact Rd1.row (by (repeat (first | exact Pick.head | apply Pick.tail | apply Pick.app))) (by rfl)))) rfl rfl rfl ?_
          refine JL.step (y_buildArr (cs := S8.rr ⟨qa, qb, qc, qd, qe, qf, qg, qh⟩ (K64.getD i 0) (ws.getD i 0)) hT rfl rfl rfl rfl rfl (by kernel_rfl)) rfl rfl rfl ?_
          refine JL.loud rfl (l_storeAll hT rfl rfl rfl (by (first | rfl | assumption | (simp; done) | omega)) (by (first | assumption | exact ones_of rfl | exact encW_one _ | exact encB_one _ | (intro u hu; simp at hu; rcases hu with rfl | rfl <;> rfl) | (intro u hu; simp at hu; subst hu; rfl) | simp)) (by (repeat (first | exact Pick.head | apply Pick.tail | apply Pick.app))) (by (first | rfl | assumption | (simp; done) | omega)) ?_)
          refine JL.nil ?_
          refine JE.block_normal ?_
          refine JE.then_normal ?_
          refine J.region ?_
          refine JL.step (y_add rfl rfl (by (first | exact wrap_i64 (by omega) (by omega) | rfl))) rfl rfl rfl ?_
          refine JL.step (y_move rfl) rfl rfl rfl ?_
          refine JL.nil ?_
        all_goals
          refine JE.round (s := i) (i + 1) (by omega) ⟨rfl, rfl, rfl, rfl, rfl, rfl, rfl, trivial⟩ (fun w q => ?_) (by omega)
          have e := S8.rr_eq ⟨qa, qb, qc, qd, qe, qf, qg, qh⟩ (K64.getD i 0) (ws.getD i 0)
          simp only [S8.list] at e
          rw [roundsTo, hr, ← e]
          exact q.sup (by (repeat (first | exact Sup.refl | apply Sup.cons (by (repeat (first | exact Pick.head | apply Pick.tail | apply Pick.app))) | apply Sup.app | apply Sup.skip | apply Sup.skips)))
    all_goals refine JE.then_normal ?_
    all_goals
      refine J.seq ?_
      refine J.block ?_
      refine J.seq ?_
      refine J.region ?_
      refine JL.step (y_move rfl) rfl rfl rfl (JL.step (y_assign rfl) rfl rfl rfl ?_)
      refine JL.nil ?_
      refine JE.then_normal ?_
      refine J.seq ?_
      refine J.seq ?_
      refine J.region ?_
      refine JL.step (y_move rfl) rfl rfl rfl (JL.step (y_lss rfl rfl) rfl rfl rfl ?_)
      refine JL.nil ?_
      refine JE.then_normal ?_
      first | apply J.cond_dec rfl | apply J.cond rfl
      case' ht =>
        intro h
        try (first | (exfalso; omega) | (cases h; done) | (exfalso; simp at h; done) | subst h)
        all_goals
          refine J.seq ?_
          refine J.draw _ _ [(0, .q), (1, .q), (2, .q), (3, .q), (4, .q), (5, .q), (6, .q), (7, .q), (8, .q), (9, .q), (10, .q), (11, .q), (12, .q), (13, .q), (14, .q), (15, .q), (16, .q), (17, .q), (18, .q), (19, .q), (20, .q), (21, .q), (22, .q), (23, .q), (24, .q), (25, .q), (26, .q), (27, .q), (28, .q), (29, .q), (30, .q), (31, .q), (32, .q), (33, .q), (34, .q), (35, .l)] mixed (by kernel_rfl) (Split.cons (Pick.head) (Split.nil)) ?_
          refine JM.quiet rfl rfl rfl rfl (fun m => y_move rfl) ?_
          refine JM.quiet rfl rfl rfl rfl (fun m => y_move rfl) ?_
          refine JM.quiet rfl rfl rfl rfl (fun m => y_move rfl) ?_
          refine JM.quiet rfl rfl rfl rfl (fun m => y_mul rfl rfl (by (first | exact wrap_i64 (by omega) (by omega) | rfl))) ?_
          refine JM.quiet rfl rfl rfl rfl (fun m => y_indexAddr_slice hT rfl rfl rfl rfl rfl (by (first | omega | exact Nat.le_of_ble_eq_true rfl | decide | (simp; omega))) (by (first | omega | exact Nat.le_of_ble_eq_true rfl | decide | (simp; omega)))) ?_
          refine JM.quiet rfl rfl rfl rfl (fun m => y_load1 hT rfl rfl rfl (Rd1.bytesAt (j := 64 * j + 4 * i) (RdN.own (Pick.app m (by (repeat (first | exact Pick.head | apply Pick.tail | apply Pick.app))))) (by omega) (by rw [show i5.size = 1 from rfl]; omega))) ?_
          refine JM.quiet rfl rfl rfl rfl (fun m => (by first | exact y_convToW hT rfl rfl rfl rfl | exact y_conv hT rfl rfl rfl rfl (by (first | exact wrap_i64 (by omega) (by omega) | rfl)))) ?_
          refine JM.quiet rfl rfl rfl rfl (fun m => (by first | exact y_shlW rfl rfl (by (first | omega | exact Nat.le_of_ble_eq_true rfl | decide | (simp; omega))) (by (first | omega | exact Nat.le_of_ble_eq_true rfl | decide | (simp; omega))) | exact y_shl rfl rfl (by (first | omega | exact Nat.le_of_ble_eq_true rfl | decide | (simp; omega))) (by rfl))) ?_
          refine JM.quiet rfl rfl rfl rfl (fun m => y_move rfl) ?_
          refine JM.quiet rfl rfl rfl rfl (fun m => y_move rfl) ?_
          refine JM.quiet rfl rfl rfl rfl (fun m => y_mul rfl rfl (by (first | exact wrap_i64 (by omega) (by omega) | rfl))) ?_
          refine JM.quiet rfl rfl rfl rfl (fun m => y_add rfl rfl (by (first | exact wrap_i64 (by omega) (by omega) | rfl))) ?_
          refine JM.quiet rfl rfl rfl rfl (fun m => y_indexAddr_slice hT rfl rfl rfl rfl rfl (by (first | omega | exact Nat.le_of_ble_eq_true rfl | decide | (simp; omega))) (by (first | omega | exact Nat.le_of_ble_eq_true rfl | decide | (simp; omega)))) ?_
          refine JM.quiet rfl rfl rfl rfl (fun m => y_load1 hT rfl rfl rfl (Rd1.bytesAt (j := 64 * j + (4 * i + 1)) (RdN.own (Pick.app m (by (repeat (first | exact Pick.head | apply Pick.tail | apply Pick.app))))) (by omega) (by rw [show i5.size = 1 from rfl]; omega))) ?_
          refine JM.quiet rfl rfl rfl rfl (fun m => (by first | exact y_convToW hT rfl rfl rfl rfl | exact y_conv hT rfl rfl rfl rfl (by (first | exact wrap_i64 (by omega) (by omega) | rfl)))) ?_
          refine JM.quiet rfl rfl rfl rfl (fun m => (by first | exact y_shlW rfl rfl (by (first | omega | exact Nat.le_of_ble_eq_true rfl | decide | (simp; omega))) (by (first | omega | exact Nat.le_of_ble_eq_true rfl | decide | (simp; omega))) | exact y_shl rfl rfl (by (first | omega | exact Nat.le_of_ble_eq_true rfl | decide | (simp; omega))) (by rfl))) ?_
          refine JM.quiet rfl rfl rfl rfl (fun m => (by first | exact y_orW rfl rfl | exact y_bits rfl rfl (by rfl))) ?_
          refine JM.quiet rfl rfl rfl rfl (fun m => y_move rfl) ?_
          refine JM.quiet rfl rfl rfl rfl (fun m => y_move rfl) ?_
          refine JM.quiet rfl rfl rfl rfl (fun m => y_mul rfl rfl (by (first | exact wrap_i64 (by omega) (by omega) | rfl))) ?_
          refine JM.quiet rfl rfl rfl rfl (fun m => y_add rfl rfl (by (first | exact wrap_i64 (by omega) (by omega) | rfl))) ?_
          refine JM.quiet rfl rfl rfl rfl (fun m => y_indexAddr_slice hT rfl rfl rfl rfl rfl (by (first | omega | exact Nat.le_of_ble_eq_true rfl | decide | (simp; omega))) (by (first | omega | exact Nat.le_of_ble_eq_true rfl | decide | (simp; omega)))) ?_
          refine JM.quiet rfl rfl rfl rfl (fun m => y_load1 hT rfl rfl rfl (Rd1.bytesAt (j := 64 * j + (4 * i + 2)) (RdN.own (Pick.app m (by (repeat (first | exact Pick.head | apply Pick.tail | apply Pick.app))))) (by omega) (by rw [show i5.size = 1 from rfl]; omega))) ?_
          refine JM.quiet rfl rfl rfl rfl (fun m => (by first | exact y_convToW hT rfl rfl rfl rfl | exact y_conv hT rfl rfl rfl rfl (by (first | exact wrap_i64 (by omega) (by omega) | rfl)))) ?_
          refine JM.quiet rfl rfl rfl rfl (fun m => (by first | exact y_shlW rfl rfl (by (first | omega | exact Nat.le_of_ble_eq_true rfl | decide | (simp; omega))) (by (first | omega | exact Nat.le_of_ble_eq_true rfl | decide | (simp; omega))) | exact y_shl rfl rfl (by (first | omega | exact Nat.le_of_ble_eq_true rfl | decide | (simp; omega))) (by rfl))) ?_
          refine JM.quiet rfl rfl rfl rfl (fun m => (by first | exact y_orW rfl rfl | exact y_bits rfl rfl (by rfl))) ?_
          refine JM.quiet rfl rfl rfl rfl (fun m => y_move rfl) ?_
          refine JM.quiet rfl rfl rfl rfl (fun m => y_move rfl) ?_
          refine JM.quiet rfl rfl rfl rfl (fun m => y_mul rfl rfl (by (first | exact wrap_i64 (by omega) (by omega) | rfl))) ?_
          refine JM.quiet rfl rfl rfl rfl (fun m => y_add rfl rfl (by (first | exact wrap_i64 (by omega) (by omega) | rfl))) ?_
          refine JM.quiet rfl rfl rfl rfl (fun m => y_indexAddr_slice hT rfl rfl rfl rfl rfl (by (first | omega | exact Nat.le_of_ble_eq_true rfl | decide | (simp; omega))) (by (first | omega | exact Nat.le_of_ble_eq_true rfl | decide | (simp; omega)))) ?_
          refine JM.quiet rfl rfl rfl rfl (fun m => y_load1 hT rfl rfl rfl (Rd1.bytesAt (j := 64 * j + (4 * i + 3)) (RdN.own (Pick.app m (by (repeat (first | exact Pick.head | apply Pick.tail | apply Pick.app))))) (by omega) (by rw [show i5.size = 1 from rfl]; omega))) ?_
          refine JM.quiet rfl rfl rfl rfl (fun m => (by first | exact y_convToW hT rfl rfl rfl rfl | exact y_conv hT rfl rfl rfl rfl (by (first | exact wrap_i64 (by omega) (by omega) | rfl)))) ?_
          refine JM.quiet rfl rfl rfl rfl (fun m => (by first | exact y_orW rfl rfl | exact y_bits rfl rfl (by rfl))) ?_
          refine JM.quiet rfl rfl rfl rfl (fun m => y_indexAddr_arr hT rfl rfl rfl rfl rfl (by (first | omega | exact Nat.le_of_ble_eq_true rfl | decide | (simp; omega))) (by (first | omega | exact Nat.le_of_ble_eq_true rfl | decide | (simp; omega)))) ?_
          refine JM.loud rfl rfl (fun fr => l_store1 hT rfl rfl rfl rfl rfl (by (repeat (first | exact Pick.head | apply Pick.tail | apply Pick.app))) (by rw [List.length_map, hwl, show i145.size = 1 from rfl]; omega) ⟨[_], (by (repeat (first | exact Split.nil | exact Split.all | refine Split.cons Pick.head ?_))), ?_⟩)
          refine JM.nil ?_
          refine JE.then_normal ?_
          refine J.exit ?_
          refine JE.then_exit ?_
          refine JE.block_exit ?_
          refine JE.then_normal ?_
          refine J.region ?_
          refine JL.step (y_add rfl rfl (by (first | exact wrap_i64 (by omega) (by omega) | rfl))) rfl rfl rfl ?_
          refine JL.step (y_move rfl) rfl rfl rfl ?_
          refine JL.nil ?_
          have e := schedW_next (M.drop (64 * j)) (i := i) (by omega)
          refine JE.round (s := i) (i + 1) (by omega) ⟨rfl, rfl, rfl, rfl, rfl, rfl, trivial⟩ (fun w q => ?_) (by omega)
          rw [show 0 + (i : Int).toNat * i145.size = i by rw [show i145.size = 1 from rfl]; omega] at q
          first
            | have h16 : i < 16 := by omega
              rw [schedNext, if_pos (by omega), word4_drop] at e
              rw [← e, List.map_set]
              exact q.sup (by (repeat (first | exact Sup.refl | apply Sup.cons (by (repeat (first | exact Pick.head | apply Pick.tail | apply Pick.app))) | apply Sup.app | apply Sup.skip | apply Sup.skips)))
            | have h16 : 16 ≤ i := by omega
              rw [schedNext, if_neg (by omega), ← rsched, ← schedW_get (M.drop (64 * j)) (i := i) (j := i - 16) (by omega), ← schedW_get (M.drop (64 * j)) (i := i) (j := i - 7) (by omega), ← schedW_get (M.drop (64 * j)) (i := i) (j := i - 15) (by omega), ← schedW_get (M.drop (64 * j)) (i := i) (j := i - 2) (by omega)] at e
              rw [← e, List.map_set]
              exact q.sup (by (repeat (first | exact Sup.refl | apply Sup.cons (by (repeat (first | exact Pick.head | apply Pick.tail | apply Pick.app))) | apply Sup.app | apply Sup.skip | apply Sup.skips)))
      case' hf =>
        intro h
        try (first | (exfalso; omega) | (cases h; done) | (exfalso; simp at h; done) | subst h)
        all_goals
          refine J.skip ?_
      all_goals refine JE.then_normal ?_
      all_goals
        refine J.seq ?_
        refine J.draw _ _ [(0, .q), (1, .q), (2, .q), (3, .q), (4, .q), (5, .q), (6, .q), (7, .q), (8, .q), (9, .q)] mixed (by kernel_rfl) (Split.nil) ?_
        refine JM.quiet rfl rfl rfl rfl (fun m => y_move rfl) ?_
        refine JM.quiet rfl rfl rfl rfl (fun m => y_sub rfl rfl (by (first | exact wrap_i64 (by omega) (by omega) | rfl))) ?_
        refine JM.quiet rfl rfl rfl rfl (fun m => y_indexAddr_arr hT rfl rfl rfl rfl rfl (by (first | omega | exact Nat.le_of_ble_eq_true rfl | decide | (simp; omega))) (by (first | omega | exact Nat.le_of_ble_eq_true rfl | decide | (simp; omega)))) ?_
        refine JM.quiet rfl rfl rfl rfl (fun m => y_load1 hT rfl rfl rfl (Rd1.wordsAt (j := i - 15) (Pick.app m (by (repeat (first | exact Pick.head | apply Pick.tail | apply Pick.app)))) (by omega) (by rw [show i145.size = 1 from rfl]; omega))) ?_
        refine JM.quiet rfl rfl rfl rfl (fun m => y_move rfl) ?_
        refine JM.quiet rfl rfl rfl rfl (fun m => y_sub rfl rfl (by (first | exact wrap_i64 (by omega) (by omega) | rfl))) ?_
        refine JM.quiet rfl rfl rfl rfl (fun m => y_indexAddr_arr hT rfl rfl rfl rfl rfl (by (first | omega | exact Nat.le_of_ble_eq_true rfl | decide | (simp; omega))) (by (first | omega | exact Nat.le_of_ble_eq_true rfl | decide | (simp; omega)))) ?_
        refine JM.quiet rfl rfl rfl rfl (fun m => y_load1 hT rfl rfl rfl (Rd1.wordsAt (j := i - 2) (Pick.app m (by (repeat (first | exact Pick.head | apply Pick.tail | apply Pick.app)))) (by omega) (by rw [show i145.size = 1 from rfl]; omega))) ?_
        refine JM.quiet rfl rfl rfl rfl (fun m => y_assign rfl) ?_
        refine JM.quiet rfl rfl rfl rfl (fun m => y_assign rfl) ?_
        refine JM.nil ?_
        refine JE.then_normal ?_
        refine J.draw _ _ [(0, .q), (1, .q), (2, .q), (3, .q), (5, .q), (6, .q), (7, .q), (8, .q), (9, .q), (10, .q), (11, .q), (12, .q), (14, .q), (15, .q), (16, .q), (19, .q), (20, .q), (21, .q), (22, .q), (23, .q), (24, .q), (25, .q), (26, .q), (4, .e), (13, .q), (17, .e), (18, .q), (27, .q), (28, .q), (29, .l)] mixed (by kernel_rfl) (Split.cons (Pick.head) (Split.nil)) ?_
        refine JM.quiet rfl rfl rfl rfl (fun m => y_move rfl) ?_
        refine JM.quiet rfl rfl rfl rfl (fun m => y_move rfl) ?_
        refine JM.quiet rfl rfl rfl rfl (fun m => y_sub rfl rfl (by (first | exact wrap_i64 (by omega) (by omega) | rfl))) ?_
        refine JM.quiet rfl rfl rfl rfl (fun m => y_indexAddr_arr hT rfl rfl rfl rfl rfl (by (first | omega | exact Nat.le_of_ble_eq_true rfl | decide | (simp; omega))) (by (first | omega | exact Nat.le_of_ble_eq_true rfl | decide | (simp; omega)))) ?_
        refine JM.quiet rfl rfl rfl rfl (fun m => y_move rfl) ?_
        refine JM.quiet rfl rfl rfl rfl (fun m => y_callF e102 rfl (rright_spec E _ 7 (by omega) _)) ?_
        refine JM.quiet rfl rfl rfl rfl (fun m => y_move rfl) ?_
        refine JM.quiet rfl rfl rfl rfl (fun m => y_callF e102 rfl (rright_spec E _ 18 (by omega) _)) ?_
        refine JM.quiet rfl rfl rfl rfl (fun m => (by first | exact y_xorW rfl rfl | exact y_bits rfl rfl (by rfl))) ?_
        refine JM.quiet rfl rfl rfl rfl (fun m => y_move rfl) ?_
        refine JM.quiet rfl rfl rfl rfl (fun m => (by first | exact y_shrW rfl rfl (by (first | omega | exact Nat.le_of_ble_eq_true rfl | decide | (simp; omega))) (by (first | omega | exact Nat.le_of_ble_eq_true rfl | decide | (simp; omega))) | exact y_shr rfl rfl (by (first | omega | exact Nat.le_of_ble_eq_true rfl | decide | (simp; omega))) (by rfl))) ?_
        refine JM.quiet rfl rfl rfl rfl (fun m => (by first | exact y_xorW rfl rfl | exact y_bits rfl rfl (by rfl))) ?_
        refine JM.quiet rfl rfl rfl rfl (fun m => y_move rfl) ?_
        refine JM.quiet rfl rfl rfl rfl (fun m => y_sub rfl rfl (by (first | exact wrap_i64 (by omega) (by omega) | rfl))) ?_
        refine JM.quiet rfl rfl rfl rfl (fun m => y_indexAddr_arr hT rfl rfl rfl rfl rfl (by (first | omega | exact Nat.le_of_ble_eq_true rfl | decide | (simp; omega))) (by (first | omega | exact Nat.le_of_ble_eq_true rfl | decide | (simp; omega)))) ?_
        refine JM.quiet rfl rfl rfl rfl (fun m => y_move rfl) ?_
        refine JM.quiet rfl rfl rfl rfl (fun m => y_callF e102 rfl (rright_spec E _ 17 (by omega) _)) ?_
        refine JM.quiet rfl rfl rfl rfl (fun m => y_move rfl) ?_
        refine JM.quiet rfl rfl rfl rfl (fun m => y_callF e102 rfl (rright_spec E _ 19 (by omega) _)) ?_
        refine JM.quiet rfl rfl rfl rfl (fun m => (by first | exact y_xorW rfl rfl | exact y_bits rfl rfl (by rfl))) ?_
        refine JM.quiet rfl rfl rfl rfl (fun m => y_move rfl) ?_
        refine JM.quiet rfl rfl rfl rfl (fun m => (by first | exact y_shrW rfl rfl (by (first | omega | exact Nat.le_of_ble_eq_true rfl | decide | (simp; omega))) (by (first | omega | exact Nat.le_of_ble_eq_true rfl | decide | (simp; omega))) | exact y_shr rfl rfl (by (first | omega | exact Nat.le_of_ble_eq_true rfl | decide | (simp; omega))) (by rfl))) ?_
        refine JM.quiet rfl rfl rfl rfl (fun m => (by first | exact y_xorW rfl rfl | exact y_bits rfl rfl (by rfl))) ?_
        refine JM.early rfl rfl rfl rfl (fun fr => y_load1 hT rfl rfl rfl (Rd1.wordsAt (j := i - 16) (by (repeat (first | exact Pick.head | apply Pick.tail | apply Pick.app))) (by omega) (by rw [show i145.size = 1 from rfl]; omega))) ?_
        refine JM.quiet rfl rfl rfl rfl (fun m => (by first | exact y_addW rfl rfl | exact y_add rfl rfl (by (first | exact wrap_i64 (by omega) (by omega) | rfl)))) ?_
        refine JM.early rfl rfl rfl rfl (fun fr => y_load1 hT rfl rfl rfl (Rd1.wordsAt (j := i - 7) (by (repeat (first | exact Pick.head | apply Pick.tail | apply Pick.app))) (by omega) (by rw [show i145.size = 1 from rfl]; omega))) ?_
        refine JM.quiet rfl rfl rfl rfl (fun m => (by first | exact y_addW rfl rfl | exact y_add rfl rfl (by (first | exact wrap_i64 (by omega) (by omega) | rfl)))) ?_
        refine JM.quiet rfl rfl rfl rfl (fun m => (by first | exact y_addW rfl rfl | exact y_add rfl rfl (by (first | exact wrap_i64 (by omega) (by omega) | rfl)))) ?_
        refine JM.quiet rfl rfl rfl rfl (fun m => y_indexAddr_arr hT rfl rfl rfl rfl rfl (by (first | omega | exact Nat.le_of_ble_eq_true rfl | decide | (simp; omega))) (by (first | omega | exact Nat.le_of_ble_eq_true rfl | decide | (simp; omega)))) ?_
        refine JM.loud rfl rfl (fun fr => l_store1 hT rfl rfl rfl rfl rfl (by (repeat (first | exact Pick.head | apply Pick.tail | apply Pick.app))) (by rw [List.length_map, hwl, show i145.size = 1 from rfl]; omega) ⟨[_], (by (repeat (first | exact Split.nil | exact Split.all | refine Split.cons Pick.head ?_))), ?_⟩)
        refine JM.nil ?_
      all_goals refine JE.block_normal ?_
      all_goals refine JE.then_normal ?_
      all_goals
        refine J.region ?_
        refine JL.step (y_add rfl rfl (by (first | exact wrap_i64 (by omega) (by omega) | rfl))) rfl rfl rfl ?_
        refine JL.step (y_move rfl) rfl rfl rfl ?_
        refine JL.nil ?_
    all_goals
      have e := schedW_next (M.drop (64 * j)) (i := i) (by omega)
      refine JE.round (s := i) (i + 1) (by omega) ⟨rfl, rfl, rfl, rfl, rfl, rfl, trivial⟩ (fun w q => ?_) (by omega)
      rw [show 0 + (i : Int).toNat * i145.size = i by rw [show i145.size = 1 from rfl]; omega] at q
      first
        | have h16 : i < 16 := by omega
          rw [schedNext, if_pos (by omega), word4_drop] at e
          rw [← e, List.map_set]
          exact q.sup (by (repeat (first | exact Sup.refl | apply Sup.cons (by (repeat (first | exact Pick.head | apply Pick.tail | apply Pick.app))) | apply Sup.app | apply Sup.skip | apply Sup.skips)))
        | have h16 : 16 ≤ i := by omega
          rw [schedNext, if_neg (by omega), ← rsched, ← schedW_get (M.drop (64 * j)) (i := i) (j := i - 16) (by omega), ← schedW_get (M.drop (64 * j)) (i := i) (j := i - 7) (by omega), ← schedW_get (M.drop (64 * j)) (i := i) (j := i - 15) (by omega), ← schedW_get (M.drop (64 * j)) (i := i) (j := i - 2) (by omega)] at e
          rw [← e, List.map_set]
          exact q.sup (by (repeat (first | exact Sup.refl | apply Sup.cons (by (repeat (first | exact Pick.head | apply Pick.tail | apply Pick.app))) | apply Sup.app | apply Sup.skip | apply Sup.skips)))
end Go.Proofs.Ytilifeeddpkclaa
