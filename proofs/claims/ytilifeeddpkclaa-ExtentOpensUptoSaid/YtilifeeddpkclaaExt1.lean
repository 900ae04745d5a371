import Derived.Test.YtilifeeddpkclaaOct2
import Derived.Test.YtilifeeddpkclaaSha5
import Derived.Test.YtilifeeddpkclaaDisk4
namespace Go.Proofs.Ytilifeeddpkclaa
open Go Go.SL
attribute [local irreducible] J JL JE JM LS Y Fc RV Code.wp wpList Code.wpIn wpListIn
attribute [local irreducible] Yc
variable (E : World)
theorem octread_spec (p : Option Addr) (cap : Nat) (bs : List Int) (l : List HProp) (hin : InL l p bs.length cap (ints .u8 bs)) (h1 : 1 ≤ bs.length) (hn : bs.length ≤ 1073741824) :
    Fc prog E 90 [.slice p bs.length cap].toArray l (fun v l' => ∃ b g c, v = .pointer (some ⟨b, 0, none⟩) ∧ l' = row b 163 (rcells (some ⟨g, 0, none⟩) bs.length c 0) :: own 5 1 (.slice (some ⟨g, 0, none⟩) bs.length c) bs.length (ints .u8 bs) :: l) := by
  refine Fc.post ?_
  refine Fc.of_body (c := ?c) Try.func90 ?hb Try.ntmps90 ?hl ?_
  case hb => exact rfl
  case hl => exact rfl
  refine J.seq ?_
  refine J.region ?_
  refine JL.step (y_assign rfl) rfl rfl rfl ?_
  refine JL.nil ?_
  refine JE.then_normal ?_
  refine J.seq ?_
  refine J.region ?_
  refine JL.step (y_move rfl) rfl rfl rfl ?_
  refine JL.loud rfl (l_callF e103 rfl rfl (cloneB_spec E p cap bs _ hin (by omega)) ?_)
  rintro _ _ ⟨a, c, rfl, rfl⟩
  refine JL.fact (fun w s => s.own_at) fun oa => ?_
  obtain ⟨g, rfl⟩ := oa.at_.resolve_right (fun ⟨h0, _⟩ => by have := oa.le; omega)
  refine JL.step (y_build (cs := [_, _, _]) hT rfl rfl rfl rfl rfl rfl ⟨⟨(by (first | rfl | assumption | (simp; done) | omega)), Nat.le_of_ble_eq_true rfl⟩, trivial⟩ rfl) rfl rfl rfl ?_
  refine JL.step (y_build (cs := [_, _, _]) hT rfl rfl rfl rfl rfl rfl ⟨⟨(by (first | rfl | assumption | (simp; done) | omega)), Nat.le_of_ble_eq_true rfl⟩, trivial⟩ rfl) rfl rfl rfl ?_
  refine JL.loud rfl (l_box rfl (by (first | rfl | simp)) rfl (fun b2 => ?_))
  refine JL.step (y_assign rfl) rfl rfl rfl ?_
  refine JL.nil ?_
  refine JE.then_normal ?_
  refine J.ret ?_
  refine JE.ret1 (.inl rfl) rfl rfl (by (first | exact RV.tmp rfl | exact RV.cell1 hT rfl rfl rfl (by (exact Rd1.row (by (repeat (first | exact Pick.head | apply Pick.tail | apply Pick.app))) (by rfl))) | exact RV.cellN hT rfl rfl rfl (by (first | exact RdN.rowAll (by (repeat (first | exact Pick.head | apply Pick.tail | apply Pick.app))) | exact RdN.own (by (repeat (first | exact Pick.head | apply Pick.tail | apply Pick.app))))) (by (first | rfl | assumption | (simp; done) | omega)))) ?_
  exact ⟨_, fun w q => q, b2, g, c, rfl, rfl⟩
theorem u64_spec (b : Nat) (g c at_ : Nat) (bs : List Int) (l : List HProp) (h2 : at_ + 8 ≤ bs.length) (h4 : bs.length ≤ 1073741824) :
    Fc prog E 92 [.pointer (some ⟨b, 0, none⟩)].toArray (row b 163 (rcells (some ⟨g, 0, none⟩) bs.length c at_) :: own 5 1 (.slice (some ⟨g, 0, none⟩) bs.length c) bs.length (ints .u8 bs) :: l)
      (fun v l' => v = Q (leG ((bs.drop at_).take 8) 8) ∧ l' = row b 163 (rcells (some ⟨g, 0, none⟩) bs.length c (at_ + 8)) :: own 5 1 (.slice (some ⟨g, 0, none⟩) bs.length c) bs.length (ints .u8 bs) :: l) := by
  refine Fc.eqs ?_
  have hk : ((bs.drop at_).take 8).length = 8 := by simp; omega
  refine Fc.of_body (c := ?c) Try.func92 ?hb Try.ntmps92 ?hl ?_
  case hb => exact rfl
  case hl => exact rfl
  refine J.seq ?_
  refine J.region ?_
  refine JL.step (y_assign rfl) rfl rfl rfl ?_
  refine JL.nil ?_
  refine JE.then_normal ?_
  refine J.seq ?_
  refine J.region ?_
  refine JL.step (y_move rfl) rfl rfl rfl ?_
  refine JL.loud rfl (l_callF e91 rfl rfl (octRaw_spec E b g c at_ 8 bs _ (by omega) h2 h4) ?_)
  rintro _ _ ⟨a, c', rfl, rfl⟩
  refine JL.fact (fun w s => s.own_at) fun oa => ?_
  have hget : ∀ l, InL l a 8 c' (ints .u8 ((bs.drop at_).take 8)) → Fc prog E 105 [.slice a 8 c'].toArray l (fun v l' => v = Q (leG ((bs.drop at_).take 8) 8) ∧ l' = l) := fun l h => by
    have q := octGet64_spec E a c' ((bs.drop at_).take 8) l (by rwa [hk])
    rwa [hk] at q
  refine JL.loud rfl (l_callF e105 rfl rfl (hget _ (oa.inl Pick.head)) ?_)
  rintro _ _ ⟨rfl, rfl⟩
  refine JL.step (y_assign rfl) rfl rfl rfl ?_
  refine JL.nil ?_
  refine JE.then_normal ?_
  refine J.ret ?_
  refine JE.ret1 (.inl rfl) rfl rfl (by (first | exact RV.tmp rfl | exact RV.cell1 hT rfl rfl rfl (by (exact Rd1.row (by (repeat (first | exact Pick.head | apply Pick.tail | apply Pick.app))) (by rfl))) | exact RV.cellN hT rfl rfl rfl (by (first | exact RdN.rowAll (by (repeat (first | exact Pick.head | apply Pick.tail | apply Pick.app))) | exact RdN.own (by (repeat (first | exact Pick.head | apply Pick.tail | apply Pick.app))))) (by (first | rfl | assumption | (simp; done) | omega)))) ?_
  exact ⟨rfl, fun w q => q.sup (by (repeat (first | exact Sup.refl | apply Sup.cons (by (repeat (first | exact Pick.head | apply Pick.tail | apply Pick.app))) | apply Sup.app | apply Sup.skip | apply Sup.skips)))⟩
theorem u32_spec (b : Nat) (g c at_ : Nat) (bs : List Int) (l : List HProp) (h2 : at_ + 4 ≤ bs.length) (h4 : bs.length ≤ 1073741824) :
    Fc prog E 93 [.pointer (some ⟨b, 0, none⟩)].toArray (row b 163 (rcells (some ⟨g, 0, none⟩) bs.length c at_) :: own 5 1 (.slice (some ⟨g, 0, none⟩) bs.length c) bs.length (ints .u8 bs) :: l)
      (fun v l' => v = W (BitVec.ofInt 32 ((leG ((bs.drop at_).take 4) 4).toNat : Int)) ∧ l' = row b 163 (rcells (some ⟨g, 0, none⟩) bs.length c (at_ + 4)) :: own 5 1 (.slice (some ⟨g, 0, none⟩) bs.length c) bs.length (ints .u8 bs) :: l) := by
  refine Fc.eqs ?_
  have hk : ((bs.drop at_).take 4).length = 4 := by simp; omega
  refine Fc.of_body (c := ?c) Try.func93 ?hb Try.ntmps93 ?hl ?_
  case hb => exact rfl
  case hl => exact rfl
  refine J.seq ?_
  refine J.region ?_
  refine JL.step (y_assign rfl) rfl rfl rfl ?_
  refine JL.nil ?_
  refine JE.then_normal ?_
  refine J.seq ?_
  refine J.region ?_
  refine JL.step (y_move rfl) rfl rfl rfl ?_
  refine JL.loud rfl (l_callF e91 rfl rfl (octRaw_spec E b g c at_ 4 bs _ (by omega) h2 h4) ?_)
  rintro _ _ ⟨a, c', rfl, rfl⟩
  refine JL.fact (fun w s => s.own_at) fun oa => ?_
  have hget : ∀ l, InL l a 4 c' (ints .u8 ((bs.drop at_).take 4)) → Fc prog E 105 [.slice a 4 c'].toArray l (fun v l' => v = Q (leG ((bs.drop at_).take 4) 4) ∧ l' = l) := fun l h => by
    have q := octGet64_spec E a c' ((bs.drop at_).take 4) l (by rwa [hk])
    rwa [hk] at q
  refine JL.loud rfl (l_callF e105 rfl rfl (hget _ (oa.inl Pick.head)) ?_)
  rintro _ _ ⟨rfl, rfl⟩
  refine JL.step (y_convToW hT rfl rfl rfl rfl) rfl rfl rfl ?_
  refine JL.step (y_assign rfl) rfl rfl rfl ?_
  refine JL.nil ?_
  refine JE.then_normal ?_
  refine J.ret ?_
  refine JE.ret1 (.inl rfl) rfl rfl (by (first | exact RV.tmp rfl | exact RV.cell1 hT rfl rfl rfl (by (exact Rd1.row (by (repeat (first | exact Pick.head | apply Pick.tail | apply Pick.app))) (by rfl))) | exact RV.cellN hT rfl rfl rfl (by (first | exact RdN.rowAll (by (repeat (first | exact Pick.head | apply Pick.tail | apply Pick.app))) | exact RdN.own (by (repeat (first | exact Pick.head | apply Pick.tail | apply Pick.app))))) (by (first | rfl | assumption | (simp; done) | omega)))) ?_
  exact ⟨rfl, fun w q => q.sup (by (repeat (first | exact Sup.refl | apply Sup.cons (by (repeat (first | exact Pick.head | apply Pick.tail | apply Pick.app))) | apply Sup.app | apply Sup.skip | apply Sup.skips)))⟩
theorem short_spec (p : Option Addr) (cap : Nat) (bs : List Int) (l : List HProp) (hin : InL l p bs.length cap (ints .u8 bs)) (hn : bs.length ≤ 576460752303423488) :
    Fc prog E 70 [.slice p bs.length cap].toArray l (fun v l' => v = .agg (ints .u8 ((sha bs).take 16)).toArray ∧ l' = l) := by
  refine Fc.eqs ?_
  have hl : (ints .u8 (sha bs)).length = 32 := by rw [ints, List.length_map, sha_length]
  have hl2 : (ints .u8 ((sha bs).take 16)).length = 16 := by rw [ints, List.length_map, List.length_take, sha_length]; rfl
  refine Fc.of_body (c := ?c) Try.func70 ?hb Try.ntmps70 ?hl ?_
  case hb => exact rfl
  case hl => exact rfl
  refine J.seq ?_
  refine J.region ?_
  refine JL.loud rfl (l_alloc hT rfl rfl (by (first | rfl | simp)) rfl (fun br => ?_))
  refine JL.nil ?_
  refine JE.then_normal ?_
  refine J.seq ?_
  refine J.region ?_
  refine JL.step (y_move rfl) rfl rfl rfl ?_
  refine JL.loud rfl (l_callF e85 rfl rfl (shaSum_spec E p cap bs _ (by (repeat (first | assumption | apply InL.cons | apply InL.app))) hn) ?_)
  rintro _ _ ⟨rfl, rfl⟩
  refine JL.loud rfl (l_alloc hT rfl rfl (by (first | rfl | simp)) rfl (fun b2 => ?_))
  refine JL.loud rfl (l_storeAll hT rfl rfl rfl (by (first | rfl | assumption | (simp; done) | omega)) (by (first | assumption | exact ones_of rfl | exact encW_one _ | exact encB_one _ | (intro u hu; simp at hu; rcases hu with rfl | rfl <;> rfl) | (intro u hu; simp at hu; subst hu; rfl) | simp)) (by (repeat (first | exact Pick.head | apply Pick.tail | apply Pick.app))) (by (first | rfl | assumption | (simp; done) | omega)) ?_)
  refine JL.nil ?_
  refine JE.then_normal ?_
  refine J.seq ?_
  refine J.region ?_
  refine JL.step (y_slice_arr hT rfl rfl rfl rfl (.inl ⟨rfl, rfl⟩) (.inr ⟨_, _, _, rfl, rfl, (by (first | rfl | simp))⟩) (by (first | omega | exact Nat.le_of_ble_eq_true rfl | decide | (simp; omega))) (by (first | omega | exact Nat.le_of_ble_eq_true rfl | decide | (simp; omega)))) rfl rfl rfl ?_
  refine JL.step (y_sliceToArr hT rfl rfl rfl (by (first | omega | exact Nat.le_of_ble_eq_true rfl | decide | (simp; omega)))) rfl rfl rfl ?_
  refine JL.step (y_loadN hT rfl rfl rfl (RdN.row (n := 16) (vs := ints .u8 ((sha bs).take 16)) (by (repeat (first | exact Pick.head | apply Pick.tail | apply Pick.app))) (by simp [ints])) hl2) rfl rfl rfl ?_
  refine JL.loud rfl (l_storeAll hT rfl rfl rfl (by (first | rfl | assumption | (simp; done) | omega)) (by (first | assumption | exact ones_of rfl | exact encW_one _ | exact encB_one _ | (intro u hu; simp at hu; rcases hu with rfl | rfl <;> rfl) | (intro u hu; simp at hu; subst hu; rfl) | simp)) (by (repeat (first | exact Pick.head | apply Pick.tail | apply Pick.app))) (by (first | rfl | assumption | (simp; done) | omega)) ?_)
  refine JL.nil ?_
  refine JE.then_normal ?_
  refine J.ret ?_
  refine JE.ret1 (.inl rfl) rfl rfl (by (first | exact RV.tmp rfl | exact RV.cell1 hT rfl rfl rfl (by (exact Rd1.row (by (repeat (first | exact Pick.head | apply Pick.tail | apply Pick.app))) (by rfl))) | exact RV.cellN hT rfl rfl rfl (by (first | exact RdN.rowAll (by (repeat (first | exact Pick.head | apply Pick.tail | apply Pick.app))) | exact RdN.own (by (repeat (first | exact Pick.head | apply Pick.tail | apply Pick.app))))) (by (first | rfl | assumption | (simp; done) | omega)))) ?_
  exact ⟨rfl, fun w q => q.sup (by (repeat (first | exact Sup.refl | apply Sup.cons (by (repeat (first | exact Pick.head | apply Pick.tail | apply Pick.app))) | apply Sup.app | apply Sup.skip | apply Sup.skips)))⟩
theorem superPut_spec (bat bout at_ : Nat) (out xs : List Int) (p : Option Addr) (cap : Nat) (l : List HProp) (hin : InL l p xs.length cap (ints .u8 xs)) (ho : out.length = 64) (ha : at_ < 64) (hx : at_ + xs.length ≤ 64) :
    Fc prog E 86 ([Value.slice p xs.length cap] ++ [Value.pointer (some ⟨bat, 0, none⟩), Value.pointer (some ⟨bout, 0, none⟩)]).toArray (row bat 3 [.int .i64 (at_ : Int)] :: row bout 27 (ints .u8 out) :: l)
      (fun v l' => v = .tuple #[] ∧ l' = row bat 3 [.int .i64 ((at_ + xs.length : Nat) : Int)] :: row bout 27 (ints .u8 (out.take at_ ++ xs ++ out.drop (at_ + xs.length))) :: l) := by
  refine Fc.eqs ?_
  have hol : (ints .u8 out).length = 64 := by simp [ints, ho]
  have hxl : (ints .u8 xs).length = xs.length := by simp [ints]
  refine Fc.of_body (c := ?c) Try.func86 ?hb Try.ntmps86 ?hl ?_
  case hb => exact rfl
  case hl => exact rfl
  refine J.drawT _ _ [(0, .q), (1, .q), (2, .q), (3, .q), (4, .l), (5, .q)] (fun j => Nat.beq j 6) 1 6 [(6, .l)] mixed (by kernel_rfl) (Split.cons (Pick.tail Pick.head) (Split.nil)) ?_
  refine JM.quiet rfl rfl rfl rfl (fun m => y_load1 hT rfl rfl rfl (by (exact Rd1.row (Pick.app m (by (repeat (first | exact Pick.head | apply Pick.tail | apply Pick.app)))) (by rfl)))) ?_
  refine JM.quiet rfl rfl rfl rfl (fun m => y_load1 hT rfl rfl rfl (by (exact Rd1.row (Pick.app m (by (repeat (first | exact Pick.head | apply Pick.tail | apply Pick.app)))) (by rfl)))) ?_
  refine JM.quiet rfl rfl rfl rfl (fun m => y_slice_arr (lo := at_) (hi := 64) hT rfl rfl rfl rfl (.inr ⟨_, _, _, rfl, rfl, rfl⟩) (.inl ⟨rfl, rfl⟩) (by omega) (by omega)) ?_
  rw [if_neg (show ¬ 64 = at_ by omega)]
  refine JM.quiet rfl rfl rfl rfl (fun m => y_move rfl) ?_
  refine JM.loud rfl rfl (fun fr => l_copy hT rfl rfl rfl rfl rfl rfl (by (repeat (first | exact Pick.head | apply Pick.tail | apply Pick.app))) (by (repeat (first | assumption | apply InL.cons | apply InL.app))) hxl (by rw [hol]; show 0 + at_ * 1 + (64 - at_) ≤ 64; omega) (ints_one _ _) rfl ⟨[_], (by (repeat (first | exact Split.nil | exact Split.all | refine Split.cons Pick.head ?_))), ?_⟩)
  rw [show min xs.length (64 - at_) = xs.length by omega]
  refine JM.quiet rfl rfl rfl rfl (fun m => y_add rfl rfl (by (first | exact wrap_i64 (by omega) (by omega) | rfl))) ?_
  refine JM.nil ?_
  refine JE.tail _ _ (by kernel_rfl) (Split.cons (Pick.tail Pick.head) (Split.nil)) ?_
  refine JM.loud rfl rfl (fun fr => l_store1 hT rfl rfl rfl rfl rfl (by (repeat (first | exact Pick.head | apply Pick.tail | apply Pick.app))) (by (first | omega | exact Nat.le_of_ble_eq_true rfl | decide | (simp; omega))) (⟨[_], (by (repeat (first | exact Split.nil | exact Split.all | refine Split.cons Pick.head ?_))), ?_⟩))
  refine JM.nil ?_
  all_goals
    refine JE.ret0 (.inr rfl) rfl rfl  ?_
    refine ⟨rfl, fun w q => ?_⟩
    have e1 : (ints .u8 out).take (0 + at_ * i5.size) ++ (ints .u8 xs).take xs.length ++ (ints .u8 out).drop (0 + at_ * i5.size + xs.length) = ints .u8 (out.take at_ ++ xs ++ out.drop (at_ + xs.length)) := by
      rw [show 0 + at_ * i5.size = at_ by rw [show i5.size = 1 from rfl]; omega, List.take_of_length_le (show (ints .u8 xs).length ≤ xs.length by omega)]
      simp [ints]
    rw [← e1, show ((at_ + xs.length : Nat) : Int) = (at_ : Int) + (xs.length : Int) by omega]
    exact q.sup (by (repeat (first | exact Sup.refl | apply Sup.cons (by (repeat (first | exact Pick.head | apply Pick.tail | apply Pick.app))) | apply Sup.app | apply Sup.skip | apply Sup.skips)))
/-- What a superblock says. -/
structure Sb where
  place : Int
  turn : BitVec 64
  size : Int
  hash : List Int
def encS (s : Sb) : List Value := .int .i64 s.place :: Q s.turn :: .int .i64 s.size :: ints .u8 s.hash
def lettersL : List Int := [104, 111, 108, 108, 111, 119, 116, 114, 101, 101]
/-- A superblock's first bytes. -/
def sbHead (s : Sb) : List Int := lettersL ++ [s.place % 256, 0] ++ leB 8 s.turn ++ leB 4 (BitVec.ofInt 64 ((BitVec.ofInt 32 s.size).toNat : Int)) ++ s.hash ++ List.replicate 8 0
def sbBlock (s : Sb) : Blk := sbHead s ++ (sha (sbHead s)).take 16
theorem sbHead_length {s : Sb} (h : s.hash.length = 16) : (sbHead s).length = 48 := by simp [sbHead, lettersL, leB_length, h]
theorem sbBlock_length {s : Sb} (h : s.hash.length = 16) : (sbBlock s).length = 64 := by simp [sbBlock, sbHead_length h, sha_length]
/-- A block on its way. -/
def outZ (pre : List Int) : List Int := pre ++ List.replicate (64 - pre.length) 0
theorem outZ_length {pre : List Int} (h : pre.length ≤ 64) : (outZ pre).length = 64 := by simp [outZ]; omega
theorem superPutZ_spec (bat bout : Nat) (pre xs : List Int) (n : Nat) (p : Option Addr) (cap : Nat) (l : List HProp) (hn : xs.length = n) (hin : InL l p n cap (ints .u8 xs)) (ha : pre.length < 64) (hx : pre.length + n ≤ 64) :
    Fc prog E 86 ([Value.slice p n cap] ++ [Value.pointer (some ⟨bat, 0, none⟩), Value.pointer (some ⟨bout, 0, none⟩)]).toArray (row bat 3 [.int .i64 (pre.length : Int)] :: row bout 27 (ints .u8 (outZ pre)) :: l)
      (fun v l' => v = .tuple #[] ∧ l' = row bat 3 [.int .i64 ((pre ++ xs).length : Int)] :: row bout 27 (ints .u8 (outZ (pre ++ xs))) :: l) := by
  subst hn
  have h := superPut_spec E bat bout pre.length (outZ pre) xs p cap l hin (outZ_length (by omega)) ha hx
  have e1 : (outZ pre).take pre.length ++ xs ++ (outZ pre).drop (pre.length + xs.length) = outZ (pre ++ xs) := by
    simp only [outZ, List.take_left', List.length_append]
    rw [List.drop_append, List.drop_of_length_le (by omega), List.drop_replicate]
    simp
    omega
  rwa [e1, ← List.length_append] at h
theorem block_super_spec (s : Sb) (l : List HProp) (hh : s.hash.length = 16) :
    Fc prog E 71 [.agg (encS s).toArray].toArray l (fun v l' => v = .agg (encB (sbBlock s)).toArray ∧ l' = l) := by
  refine Fc.eqs ?_
  have hlen : (encS s).length = 19 := by simp [encS, ints, hh]
  have hnilIn : ∀ l, InL l none 0 0 (ints .u8 []) := fun l => ⟨Nat.le_refl _, Nat.zero_le _, .inr ⟨rfl, rfl⟩⟩
  have hhd := sbHead_length hh
  refine Fc.of_body (c := ?c) Try.func71 ?hb Try.ntmps71 ?hl ?_
  case hb => exact rfl
  case hl => exact rfl
  refine J.seq ?_
  refine J.region ?_
  refine JL.loud rfl (l_box rfl (by (first | rfl | simp)) rfl (fun bs => ?_))
  have hhash : ∀ l', (∃ r, Pick l' (row bs 122 (encS s)) r) → InL l' (some ⟨bs, 0 + 3, none⟩) 16 16 (ints .u8 s.hash) := fun l' ⟨r, hp⟩ => ⟨Nat.le_refl _, by decide, .inl ⟨bs, 3, rfl, fun m => RdN.row (n := 16) (Pick.app m hp) (by simp [encS, ints, hh, List.take_of_length_le])⟩⟩
  refine JL.loud rfl (l_alloc hT rfl rfl (by (first | rfl | simp)) rfl (fun b1 => ?_))
  refine JL.nil ?_
  refine JE.then_normal ?_
  refine J.seq ?_
  refine J.region ?_
  refine JL.loud rfl (l_alloc hT rfl rfl (by (first | rfl | simp)) rfl (fun bout => ?_))
  refine JL.nil ?_
  refine JE.then_normal ?_
  refine J.seq ?_
  refine J.region ?_
  refine JL.loud rfl (l_alloc hT rfl rfl (by (first | rfl | simp)) rfl (fun bat => ?_))
  refine JL.loud rfl (l_store1 hT rfl rfl rfl rfl rfl (by (repeat (first | exact Pick.head | apply Pick.tail | apply Pick.app))) (by (first | omega | exact Nat.le_of_ble_eq_true rfl | decide | (simp; omega))) ?_)
  refine JL.nil ?_
  refine JE.then_normal ?_
  refine J.seq ?_
  refine J.region ?_
  refine JL.step (y_makeFunc rfl rfl) rfl rfl rfl (JL.step (y_assign rfl) rfl rfl rfl ?_)
  refine JL.nil ?_
  refine JE.then_normal ?_
  refine J.seq ?_
  refine J.region ?_
  refine JL.step (y_move rfl) rfl rfl rfl ?_
  refine JL.loud rfl (l_buildSliceP (cs := ints .u8 lettersL) hT rfl rfl rfl rfl rfl rfl rfl (by kernel_rfl) rfl (fun bl => ?_))
  refine JL.loud rfl (l_convBytes hT rfl rfl rfl rfl rfl (by (repeat (first | exact Pick.head | apply Pick.tail | apply Pick.app))) rfl ?_)
  refine JL.loud rfl (l_callV e86 rfl rfl rfl (Fc.on (Split.cons (A := row bat 3 [.int .i64 (([] : List Int).length : Int)]) (by (repeat (first | exact Pick.head | apply Pick.tail | apply Pick.app))) (Split.cons (A := row bout 27 (ints .u8 (outZ []))) (by (repeat (first | exact Pick.head | apply Pick.tail | apply Pick.app))) Split.nil)) (superPutZ_spec E bat bout [] lettersL 10 _ _ _ rfl (InL.ofMrow (by (repeat (first | exact Pick.head | apply Pick.tail | apply Pick.app))) (by decide)) (by decide) (by decide))) ?_)
  rintro _ _ ⟨rfl, rfl⟩
  refine JL.nil ?_
  refine JE.then_normal ?_
  refine J.seq ?_
  refine J.region ?_
  refine JL.step (y_move rfl) rfl rfl rfl (JL.step (y_fieldAddr hT rfl rfl rfl rfl rfl rfl) rfl rfl rfl ?_)
  refine JL.step (y_load1 hT rfl rfl rfl (by (exact Rd1.row (by (repeat (first | exact Pick.head | apply Pick.tail | apply Pick.app))) (by rfl)))) rfl rfl rfl ?_
  refine JL.step (y_conv hT rfl rfl rfl rfl (wrap_u8 _)) rfl rfl rfl ?_
  refine JL.loud rfl (l_buildSliceP (cs := ints .u8 [s.place % 256, 0]) hT rfl rfl rfl rfl rfl rfl rfl (by kernel_rfl) rfl (fun bp => ?_))
  refine JL.loud rfl (l_callV e86 rfl rfl rfl (Fc.on (Split.cons (by (repeat (first | exact Pick.head | apply Pick.tail | apply Pick.app))) (Split.cons (by (repeat (first | exact Pick.head | apply Pick.tail | apply Pick.app))) Split.nil)) (superPutZ_spec E bat bout lettersL [s.place % 256, 0] 2 _ _ _ rfl (InL.ofRow (by (repeat (first | exact Pick.head | apply Pick.tail | apply Pick.app))) (by decide)) (by decide) (by decide))) ?_)
  rintro _ _ ⟨rfl, rfl⟩
  refine JL.nil ?_
  refine JE.then_normal ?_
  refine J.seq ?_
  refine J.region ?_
  refine JL.step (y_move rfl) rfl rfl rfl (JL.step (y_fieldAddr hT rfl rfl rfl rfl rfl rfl) rfl rfl rfl ?_)
  refine JL.step (y_load1 hT rfl rfl rfl (by (exact Rd1.row (by (repeat (first | exact Pick.head | apply Pick.tail | apply Pick.app))) (by rfl)))) rfl rfl rfl ?_
  refine JL.loud rfl (l_callF e87 rfl rfl (octPut64_spec E none 0 [] s.turn _ (hnilIn _) (by decide)) ?_)
  rintro _ _ ⟨a6, c6, rfl, rfl⟩
  refine JL.fact (fun w q => q.own_at) fun o6 => ?_
  refine JL.loud rfl (l_callV e86 rfl rfl rfl (Fc.on (Split.cons (A := row bat 3 [.int .i64 (((lettersL ++ [s.place % 256, 0]) : List Int).length : Int)]) (by (repeat (first | exact Pick.head | apply Pick.tail | apply Pick.app))) (Split.cons (A := row bout 27 (ints .u8 (outZ (lettersL ++ [s.place % 256, 0])))) (by (repeat (first | exact Pick.head | apply Pick.tail | apply Pick.app))) Split.nil)) (superPutZ_spec E bat bout (lettersL ++ [s.place % 256, 0]) (leB 8 s.turn) 8 _ _ _ (leB_length _ _) (o6.inl (by (repeat (first | exact Pick.head | apply Pick.tail | apply Pick.app)))) (by simp [lettersL]) (by simp [lettersL]))) ?_)
  rintro _ _ ⟨rfl, rfl⟩
  refine JL.nil ?_
  refine JE.then_normal ?_
  refine J.seq ?_
  refine J.region ?_
  refine JL.step (y_move rfl) rfl rfl rfl (JL.step (y_fieldAddr hT rfl rfl rfl rfl rfl rfl) rfl rfl rfl ?_)
  refine JL.step (y_load1 hT rfl rfl rfl (by (exact Rd1.row (by (repeat (first | exact Pick.head | apply Pick.tail | apply Pick.app))) (by rfl)))) rfl rfl rfl ?_
  refine JL.step (y_convToW hT rfl rfl rfl rfl) rfl rfl rfl ?_
  refine JL.loud rfl (l_callF e88 rfl rfl (octPut32_spec E none 0 [] _ _ (hnilIn _) (by decide)) ?_)
  rintro _ _ ⟨a7, c7, rfl, rfl⟩
  refine JL.fact (fun w q => q.own_at) fun o7 => ?_
  refine JL.loud rfl (l_callV e86 rfl rfl rfl (Fc.on (Split.cons (A := row bat 3 [.int .i64 (((lettersL ++ [s.place % 256, 0] ++ leB 8 s.turn) : List Int).length : Int)]) (by (repeat (first | exact Pick.head | apply Pick.tail | apply Pick.app))) (Split.cons (A := row bout 27 (ints .u8 (outZ (lettersL ++ [s.place % 256, 0] ++ leB 8 s.turn)))) (by (repeat (first | exact Pick.head | apply Pick.tail | apply Pick.app))) Split.nil)) (superPutZ_spec E bat bout (lettersL ++ [s.place % 256, 0] ++ leB 8 s.turn) (leB 4 (BitVec.ofInt 64 ((BitVec.ofInt 32 s.size).toNat : Int))) 4 _ _ _ (leB_length _ _) (o7.inl (by (repeat (first | exact Pick.head | apply Pick.tail | apply Pick.app)))) (by simp [lettersL, leB_length]) (by simp [lettersL, leB_length]))) ?_)
  rintro _ _ ⟨rfl, rfl⟩
  refine JL.nil ?_
  refine JE.then_normal ?_
  refine J.seq ?_
  refine J.region ?_
  refine JL.step (y_move rfl) rfl rfl rfl (JL.step (y_fieldAddr hT rfl rfl rfl rfl rfl rfl) rfl rfl rfl ?_)
  refine JL.step (y_slice_arr hT rfl rfl rfl rfl (.inl ⟨rfl, rfl⟩) (.inl ⟨rfl, rfl⟩) (by (first | omega | exact Nat.le_of_ble_eq_true rfl | decide | (simp; omega))) (by (first | omega | exact Nat.le_of_ble_eq_true rfl | decide | (simp; omega)))) rfl rfl rfl ?_
  refine JL.loud rfl (l_callV e86 rfl rfl rfl (Fc.on (Split.cons (A := row bat 3 [.int .i64 (((lettersL ++ [s.place % 256, 0] ++ leB 8 s.turn ++ leB 4 (BitVec.ofInt 64 ((BitVec.ofInt 32 s.size).toNat : Int))) : List Int).length : Int)]) (by (repeat (first | exact Pick.head | apply Pick.tail | apply Pick.app))) (Split.cons (A := row bout 27 (ints .u8 (outZ (lettersL ++ [s.place % 256, 0] ++ leB 8 s.turn ++ leB 4 (BitVec.ofInt 64 ((BitVec.ofInt 32 s.size).toNat : Int)))))) (by (repeat (first | exact Pick.head | apply Pick.tail | apply Pick.app))) Split.nil)) (superPutZ_spec E bat bout (lettersL ++ [s.place % 256, 0] ++ leB 8 s.turn ++ leB 4 (BitVec.ofInt 64 ((BitVec.ofInt 32 s.size).toNat : Int))) s.hash 16 _ _ _ hh (hhash _ ⟨_, by (repeat (first | exact Pick.head | apply Pick.tail | apply Pick.app))⟩) (by simp [lettersL, leB_length]) (by simp [lettersL, leB_length]))) ?_)
  rintro _ _ ⟨rfl, rfl⟩
  refine JL.nil ?_
  refine JE.then_normal ?_
  refine J.seq ?_
  refine J.region ?_
  refine JL.loud rfl (l_store1 hT rfl rfl rfl rfl rfl (by (repeat (first | exact Pick.head | apply Pick.tail | apply Pick.app))) (by (first | omega | exact Nat.le_of_ble_eq_true rfl | decide | (simp; omega))) ?_)
  refine JL.nil ?_
  refine JE.then_normal ?_
  refine J.seq ?_
  have eo : outZ ((lettersL ++ [s.place % 256, 0] ++ leB 8 s.turn ++ leB 4 (BitVec.ofInt 64 ((BitVec.ofInt 32 s.size).toNat : Int))) ++ s.hash) = outZ (sbHead s) := by simp [outZ, sbHead, lettersL, leB_length, hh]
  rw [eo]
  have hbo : ∀ l', (∃ r, Pick l' (row bout 27 (ints .u8 (outZ (sbHead s)))) r) → InL l' (some ⟨bout, 0, none⟩) 48 64 (ints .u8 (sbHead s)) := fun l' ⟨r, hp⟩ => ⟨by decide, by decide, .inl ⟨bout, 0, rfl, fun m => RdN.row (n := 48) (Pick.app m hp) (by simp [outZ, ints, hhd])⟩⟩
  have hshort : ∀ l' p cap, InL l' p 48 cap (ints .u8 (sbHead s)) → Fc prog E 70 [.slice p 48 cap].toArray l' (fun v l'' => v = .agg (ints .u8 ((sha (sbHead s)).take 16)).toArray ∧ l'' = l') := fun l' p cap h => by
    have q := short_spec E p cap (sbHead s) l' (by rwa [hhd]) (by omega)
    rwa [hhd] at q
  have hs16 : ((sha (sbHead s)).take 16).length = 16 := by rw [List.length_take, sha_length]; rfl
  have hs16' : (ints .u8 ((sha (sbHead s)).take 16)).length = 16 := by rw [ints, List.length_map, hs16]
  have hput : ∀ l' p cap, InL l' p 16 cap (ints .u8 ((sha (sbHead s)).take 16)) → Fc prog E 86 ([Value.slice p 16 cap] ++ [Value.pointer (some ⟨bat, 0, none⟩), Value.pointer (some ⟨bout, 0, none⟩)]).toArray (row bat 3 [.int .i64 48] :: row bout 27 (ints .u8 (outZ (sbHead s))) :: l')
      (fun v l'' => v = .tuple #[] ∧ l'' = row bat 3 [.int .i64 ((sbBlock s).length : Int)] :: row bout 27 (ints .u8 (outZ (sbBlock s))) :: l') := fun l' p cap h => by
    have q := superPutZ_spec E bat bout (sbHead s) ((sha (sbHead s)).take 16) 16 p cap l' hs16 h (by omega) (by omega)
    rw [hhd] at q
    exact q
  refine J.region ?_
  refine JL.step (y_slice_arr hT rfl rfl rfl rfl (.inl ⟨rfl, rfl⟩) (.inr ⟨_, _, _, rfl, rfl, (by (first | rfl | simp))⟩) (by (first | omega | exact Nat.le_of_ble_eq_true rfl | decide | (simp; omega))) (by (first | omega | exact Nat.le_of_ble_eq_true rfl | decide | (simp; omega)))) rfl rfl rfl ?_
  refine JL.loud rfl (l_callF e70 rfl rfl (hshort _ _ _ (hbo _ ⟨_, by (repeat (first | exact Pick.head | apply Pick.tail | apply Pick.app))⟩)) ?_)
  rintro _ _ ⟨rfl, rfl⟩
  refine JL.loud rfl (l_alloc hT rfl rfl (by (first | rfl | simp)) rfl (fun bh => ?_))
  refine JL.loud rfl (l_storeAll hT rfl rfl rfl (by (first | rfl | assumption | (simp; done) | omega)) (by (first | assumption | exact ones_of rfl | exact encW_one _ | exact encB_one _ | (intro u hu; simp at hu; rcases hu with rfl | rfl <;> rfl) | (intro u hu; simp at hu; subst hu; rfl) | simp)) (by (repeat (first | exact Pick.head | apply Pick.tail | apply Pick.app))) (by (first | rfl | assumption | (simp; done) | omega)) ?_)
  refine JL.nil ?_
  refine JE.then_normal ?_
  refine J.seq ?_
  refine J.region ?_
  refine JL.step (y_move rfl) rfl rfl rfl ?_
  refine JL.step (y_slice_arr hT rfl rfl rfl rfl (.inl ⟨rfl, rfl⟩) (.inl ⟨rfl, rfl⟩) (by (first | omega | exact Nat.le_of_ble_eq_true rfl | decide | (simp; omega))) (by (first | omega | exact Nat.le_of_ble_eq_true rfl | decide | (simp; omega)))) rfl rfl rfl ?_
  refine JL.loud rfl (l_callV e86 rfl rfl rfl (Fc.on (Split.cons (A := row bat 3 [.int .i64 48]) (by (repeat (first | exact Pick.head | apply Pick.tail | apply Pick.app))) (Split.cons (A := row bout 27 (ints .u8 (outZ (sbHead s)))) (by (repeat (first | exact Pick.head | apply Pick.tail | apply Pick.app))) Split.nil)) (hput _ _ _ (InL.ofRow (by (repeat (first | exact Pick.head | apply Pick.tail | apply Pick.app))) (by decide)))) ?_)
  rintro _ _ ⟨rfl, rfl⟩
  refine JL.nil ?_
  refine JE.then_normal ?_
  refine J.seq ?_
  have eb : outZ (sbBlock s) = sbBlock s := by simp [outZ, sbBlock_length hh]
  rw [eb]
  have hbl : (encB (sbBlock s)).length = 64 := (encB_length _).trans (sbBlock_length hh)
  have hbl' : (ints .u8 (sbBlock s)).length = 64 := hbl
  refine J.region ?_
  refine JL.step (y_loadN hT rfl rfl rfl (by (first | exact RdN.rowAll (by (repeat (first | exact Pick.head | apply Pick.tail | apply Pick.app))) | exact RdN.own (by (repeat (first | exact Pick.head | apply Pick.tail | apply Pick.app))))) (by (first | rfl | assumption | (simp; done) | omega))) rfl rfl rfl ?_
  refine JL.loud rfl (l_storeAll hT rfl rfl rfl (by (first | rfl | assumption | (simp; done) | omega)) (by (first | assumption | exact ones_of rfl | exact encW_one _ | exact encB_one _ | (intro u hu; simp at hu; rcases hu with rfl | rfl <;> rfl) | (intro u hu; simp at hu; subst hu; rfl) | simp)) (by (repeat (first | exact Pick.head | apply Pick.tail | apply Pick.app))) (by (first | rfl | assumption | (simp; done) | omega)) ?_)
  refine JL.nil ?_
  refine JE.then_normal ?_
  refine J.ret ?_
  refine JE.ret1 (.inl rfl) rfl rfl (by (first | exact RV.tmp rfl | exact RV.cell1 hT rfl rfl rfl (by (exact Rd1.row (by (repeat (first | exact Pick.head | apply Pick.tail | apply Pick.app))) (by rfl))) | exact RV.cellN hT rfl rfl rfl (by (first | exact RdN.rowAll (by (repeat (first | exact Pick.head | apply Pick.tail | apply Pick.app))) | exact RdN.own (by (repeat (first | exact Pick.head | apply Pick.tail | apply Pick.app))))) (by (first | rfl | assumption | (simp; done) | omega)))) ?_
  exact ⟨rfl, fun w q => q.sup (by (repeat (first | exact Sup.refl | apply Sup.cons (by (repeat (first | exact Pick.head | apply Pick.tail | apply Pick.app))) | apply Sup.app | apply Sup.skip | apply Sup.skips)))⟩
end Go.Proofs.Ytilifeeddpkclaa
