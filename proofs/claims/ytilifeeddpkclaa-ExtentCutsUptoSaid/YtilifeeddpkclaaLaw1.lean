import Derived.Test.YtilifeeddpkclaaDisk4
namespace Go.Proofs.Ytilifeeddpkclaa
open Go Go.SL
attribute [local irreducible] J JL JE JM LS Y Fc RV Code.wp wpList Code.wpIn wpListIn
attribute [local irreducible] Yc
variable (E : World)
/-- An op of the law. -/
structure OpA where
  kind : Int
  at_ : Int
  fill : Int
  kp : Option Addr
  kc : Nat
  bits : List Bool
def encO (o : OpA) : List Value := [.int .i64 o.kind, .int .i64 o.at_, .int .u8 o.fill, .slice o.kp o.bits.length o.kc]
def OpA.k (o : OpA) : Int := (IntKind.u64.wrap o.kind).tmod 5
theorem wrap_u64 (x : Int) : IntKind.u64.wrap x = x % 18446744073709551616 := by simp [IntKind.wrap, IntKind.bits, IntKind.signed]
theorem OpA.k_range (o : OpA) : 0 ≤ o.k ∧ o.k < 5 := by
  unfold OpA.k
  rw [wrap_u64]
  have h := Int.emod_nonneg o.kind (show (18446744073709551616 : Int) ≠ 0 by decide)
  rw [Int.tmod_eq_emod_of_nonneg h]
  omega
theorem kind_spec (o : OpA) (l : List HProp) : Fc prog E 18 [Value.agg (encO o).toArray].toArray l (fun v l' => v = .int .i64 o.k ∧ l' = l) := by
  refine Fc.eqs ?_
  have hr := o.k_range
  refine Fc.of_body (c := ?c) Try.func18 ?hb Try.ntmps18 ?hl ?_
  case hb => exact rfl
  case hl => exact rfl
  refine J.seq ?_
  refine J.region ?_
  refine JL.loud rfl (l_box rfl (by (first | rfl | simp)) rfl (fun b1 => ?_))
  refine JL.step (y_assign rfl) rfl rfl rfl ?_
  refine JL.nil ?_
  refine JE.then_normal ?_
  refine J.seq ?_
  refine J.region ?_
  refine JL.step (y_fieldAddr hT rfl rfl rfl rfl rfl rfl) rfl rfl rfl ?_
  refine JL.step (y_load1 hT rfl rfl rfl (by (exact Rd1.row (by (repeat (first | exact Pick.head | apply Pick.tail | apply Pick.app))) (by rfl)))) rfl rfl rfl ?_
  refine JL.step (y_conv hT rfl rfl rfl rfl rfl) rfl rfl rfl ?_
  refine JL.step (y_rem rfl rfl (by decide) rfl) rfl rfl rfl ?_
  refine JL.step (y_conv hT rfl rfl rfl rfl (show IntKind.i64.wrap o.k = o.k from wrap_i64 (by omega) (by omega))) rfl rfl rfl ?_
  refine JL.step (y_assign rfl) rfl rfl rfl ?_
  refine JL.nil ?_
  refine JE.then_normal ?_
  refine J.ret ?_
  refine JE.ret1 (.inl rfl) rfl rfl (by (first | exact RV.tmp rfl | exact RV.cell1 hT rfl rfl rfl (by (exact Rd1.row (by (repeat (first | exact Pick.head | apply Pick.tail | apply Pick.app))) (by rfl))) | exact RV.cellN hT rfl rfl rfl (by (first | exact RdN.rowAll (by (repeat (first | exact Pick.head | apply Pick.tail | apply Pick.app))) | exact RdN.own (by (repeat (first | exact Pick.head | apply Pick.tail | apply Pick.app))))) (by (first | rfl | assumption | (simp; done) | omega)))) ?_
  exact ⟨rfl, fun w q => q.drop⟩
theorem few_spec (p : Option Addr) (n cap : Nat) (cs : List Value) (l : List HProp) (hin : InL l p n cap cs) : Fc prog E 17 [Value.slice p n cap].toArray l (fun v l' => v = .slice p (min n 120) cap ∧ l' = l) := by
  have hle := hin.le
  have hpp : ∃ b o, p = some ⟨b, o, none⟩ ∨ cap = 0 := by
    rcases hin.rd with ⟨b, o, e, _⟩ | ⟨e, _⟩
    · exact ⟨b, o, .inl e⟩
    · exact ⟨0, 0, .inr e⟩
  obtain ⟨b, o, hpo⟩ := hpp
  refine Fc.of_body (c := ?c) Try.func17 ?hb Try.ntmps17 ?hl ?_
  case hb => exact rfl
  case hl => exact rfl
  refine J.seq ?_
  refine J.region ?_
  refine JL.step (y_assign rfl) rfl rfl rfl ?_
  refine JL.nil ?_
  refine JE.then_normal ?_
  refine J.seq ?_
  refine J.region ?_
  refine JL.step (y_move rfl) rfl rfl rfl (JL.step (y_move rfl) rfl rfl rfl (JL.step (y_len_slice hT rfl rfl rfl) rfl rfl rfl ?_))
  refine JL.step (y_min2 (m := ((min n 120 : Nat) : Int)) rfl rfl (by omega)) rfl rfl rfl ?_
  refine JL.step (y_slice (lo := 0) (hi := min n 120) (b := b) (off := o) hT rfl rfl rfl rfl (.inl ⟨rfl, rfl⟩) (.inr ⟨_, _, _, rfl, rfl, rfl⟩) (by omega) (by omega) hle hpo) rfl rfl rfl ?_
  refine JL.step (y_assign rfl) rfl rfl rfl ?_
  refine JL.nil ?_
  refine JE.then_normal ?_
  refine J.ret ?_
  refine JE.ret1 (.inl rfl) rfl rfl (by (first | exact RV.tmp rfl | exact RV.cell1 hT rfl rfl rfl (by (exact Rd1.row (by (repeat (first | exact Pick.head | apply Pick.tail | apply Pick.app))) (by rfl))) | exact RV.cellN hT rfl rfl rfl (by (first | exact RdN.rowAll (by (repeat (first | exact Pick.head | apply Pick.tail | apply Pick.app))) | exact RdN.own (by (repeat (first | exact Pick.head | apply Pick.tail | apply Pick.app))))) (by (first | rfl | assumption | (simp; done) | omega)))) ?_
  refine ⟨?_, rfl⟩
  rcases hpo with rfl | rfl
  · simp
  · simp
/-- The block of a byte. -/
def xorB (x i : Int) : Int := IntKind.u8.wrap ((BitVec.ofInt IntKind.u8.bits x) ^^^ (BitVec.ofInt IntKind.u8.bits (IntKind.u8.wrap i))).toNat
def blockOf (x : Int) : Blk := (List.range 64).map fun (i : Nat) => xorB x (i : Int)
theorem blockOf_length (x : Int) : (blockOf x).length = 64 := by simp [blockOf]
def blockTo (x : Int) (j : Nat) : Blk := (blockOf x).take j ++ List.replicate (64 - j) 0
theorem blockTo_length (x : Int) {j : Nat} (h : j ≤ 64) : (blockTo x j).length = 64 := by simp [blockTo, blockOf_length]; omega
theorem blockTo_next (x : Int) {j : Nat} (h : j < 64) : (blockTo x j).set j (xorB x j) = blockTo x (j + 1) := by
  have h1 : ((blockOf x).take j).length = j := by simp [blockOf_length]; omega
  have h2 : (blockOf x)[j]? = some (xorB x j) := by simp [blockOf, h]
  simp only [blockTo]
  rw [List.set_append_right _ _ (by omega), h1, Nat.sub_self, List.take_add_one, h2, show 64 - j = (64 - (j + 1)) + 1 by omega, List.replicate_succ]
  simp
theorem block_spec (x : Int) (l : List HProp) : Fc prog E 19 [Value.int .u8 x].toArray l (fun v l' => v = .agg (encB (blockOf x)).toArray ∧ l' = l) := by
  refine Fc.eqs ?_
  refine Fc.of_body (c := ?c) Try.func19 ?hb Try.ntmps19 ?hl ?_
  case hb => exact rfl
  case hl => exact rfl
  refine J.seq ?_
  refine J.region ?_
  refine JL.loud rfl (l_alloc hT rfl rfl (by (first | rfl | simp)) rfl (fun b1 => ?_))
  refine JL.nil ?_
  refine JE.then_normal ?_
  refine J.seq ?_
  refine J.region ?_
  refine JL.loud rfl (l_alloc hT rfl rfl (by (first | rfl | simp)) rfl (fun b2 => ?_))
  refine JL.nil ?_
  refine JE.then_normal ?_
  refine J.seq ?_
  refine J.seq ?_
  refine J.region ?_
  refine JL.step (y_move rfl) rfl rfl rfl ?_
  refine JL.nil ?_
  refine JE.then_normal ?_
  refine J.block ?_
  refine J.loop (α := Nat) (fun j => j ≤ 64) (fun j => [(0, .int .u8 x), (2, .pointer (some ⟨b1, 0, none⟩)), (3, .pointer (some ⟨b2, 0, none⟩)), (5, .int .i64 j)]) (fun j => row b2 27 (encB (blockTo x j)) :: row b1 27 (List.replicate 64 (.int .u8 0)) :: l) (fun j => 64 - j) 0 (by omega) ⟨rfl, rfl, rfl, rfl, trivial⟩ (fun w h => h) ?_
  intro j hj
  have hbl : (encB (blockTo x j)).length = 64 := by rw [encB_length]; exact blockTo_length x hj
  refine J.seq ?_
  refine J.region ?_
  refine JL.step (y_lss rfl rfl) rfl rfl rfl ?_
  refine JL.nil ?_
  refine JE.then_normal ?_
  refine J.seq ?_
  first | apply J.cond_dec rfl | apply J.cond rfl
  case' ht =>
    intro h
    try (first | (exfalso; omega) | (cases h; done) | (exfalso; simp at h; done) | subst h)
    all_goals
      refine J.skip ?_
  case' hf =>
    intro h
    try (first | (exfalso; omega) | (cases h; done) | (exfalso; simp at h; done) | subst h)
    all_goals
      refine J.exit ?_
      refine JE.then_exit ?_
      refine JE.then_exit ?_
      refine JE.block_exit ?_
      refine JE.then_normal ?_
      refine J.seq ?_
      obtain rfl : j = 64 := by omega
      refine J.region ?_
      refine JL.step (y_loadN hT rfl rfl rfl (by (first | exact RdN.rowAll (by (repeat (first | exact Pick.head | apply Pick.tail | apply Pick.app))) | exact RdN.own (by (repeat (first | exact Pick.head | apply Pick.tail | apply Pick.app))))) (by (first | rfl | assumption | (simp; done) | omega))) rfl rfl rfl ?_
      refine JL.loud rfl (l_storeAll hT rfl rfl rfl (by (first | rfl | assumption | (simp; done) | omega)) (by (first | assumption | exact ones_of rfl | exact encW_one _ | exact encB_one _ | (intro u hu; simp at hu; rcases hu with rfl | rfl <;> rfl) | (intro u hu; simp at hu; subst hu; rfl) | simp)) (by (repeat (first | exact Pick.head | apply Pick.tail | apply Pick.app))) (by (first | rfl | assumption | (simp; done) | omega)) ?_)
      refine JL.nil ?_
      refine JE.then_normal ?_
      refine J.ret ?_
      refine JE.ret1 (.inl rfl) rfl rfl (by (first | exact RV.tmp rfl | exact RV.cell1 hT rfl rfl rfl (by (exact Rd1.row (by (repeat (first | exact Pick.head | apply Pick.tail | apply Pick.app))) (by rfl))) | exact RV.cellN hT rfl rfl rfl (by (first | exact RdN.rowAll (by (repeat (first | exact Pick.head | apply Pick.tail | apply Pick.app))) | exact RdN.own (by (repeat (first | exact Pick.head | apply Pick.tail | apply Pick.app))))) (by (first | rfl | assumption | (simp; done) | omega)))) ?_
      have e : blockTo x 64 = blockOf x := by simp [blockTo, List.take_of_length_le, blockOf_length]
      rw [e]
      exact ⟨rfl, fun w q => q.sup (by (repeat (first | exact Sup.refl | apply Sup.cons (by (repeat (first | exact Pick.head | apply Pick.tail | apply Pick.app))) | apply Sup.app | apply Sup.skip | apply Sup.skips)))⟩
  all_goals refine JE.then_normal ?_
  all_goals
    refine J.seq ?_
    refine J.block ?_
    refine J.seq ?_
    refine J.region ?_
    refine JL.step (y_move rfl) rfl rfl rfl (JL.step (y_assign rfl) rfl rfl rfl ?_)
    refine JL.nil ?_
    refine JE.then_normal ?_
    refine J.region ?_
    refine JL.step (y_move rfl) rfl rfl rfl (JL.step (y_move rfl) rfl rfl rfl (JL.step (y_move rfl) rfl rfl rfl ?_))
    refine JL.step (y_conv hT rfl rfl rfl rfl (by (first | exact wrap_i64 (by omega) (by omega) | rfl))) rfl rfl rfl ?_
    refine JL.step (y_bits rfl rfl rfl) rfl rfl rfl ?_
    refine JL.step (y_indexAddr_arr hT rfl rfl rfl rfl rfl (by (first | omega | exact Nat.le_of_ble_eq_true rfl | decide | (simp; omega))) (by (first | omega | exact Nat.le_of_ble_eq_true rfl | decide | (simp; omega)))) rfl rfl rfl ?_
    refine JL.loud rfl (l_store1 hT rfl rfl rfl rfl rfl (by (repeat (first | exact Pick.head | apply Pick.tail | apply Pick.app))) (by rw [hbl, show i5.size = 1 from rfl]; omega) ?_)
    refine JL.nil ?_
    refine JE.block_normal ?_
    refine JE.then_normal ?_
    refine J.region ?_
    refine JL.step (y_add rfl rfl (by (first | exact wrap_i64 (by omega) (by omega) | rfl))) rfl rfl rfl ?_
    refine JL.step (y_move rfl) rfl rfl rfl ?_
    refine JL.nil ?_
  all_goals
    refine JE.round (s := j) (j + 1) (by omega) ⟨rfl, rfl, rfl, rfl, trivial⟩ (fun w q => ?_) (by omega)
    have e : (encB (blockTo x j)).set (0 + (j : Int).toNat * i5.size) (.int .u8 (xorB x j)) = encB (blockTo x (j + 1)) := by
      rw [← blockTo_next x (by omega), show 0 + (j : Int).toNat * i5.size = j by simp [i5], encB, encB, ints, ints, List.map_set]
    rw [← e]
    exact q
theorem keeps_spec (p : Option Addr) (cap : Nat) (bs : List Bool) (l : List HProp) (hin : InL l p bs.length cap (bs.map Value.bool)) (hn : bs.length ≤ 60000000000) :
    Fc prog E 56 [Value.slice p bs.length cap].toArray l (fun v l' => ∃ q c, v = .slice q bs.length c ∧ l' = own 4 1 v bs.length (bs.map Value.bool) :: l) := by
  have h1 : ∀ u ∈ bs.map Value.bool, u.oneCell' = true := by
    intro u hu
    obtain ⟨b, _, rfl⟩ := List.mem_map.1 hu
    rfl
  refine Fc.of_body (c := ?c) Try.func56 ?hb Try.ntmps56 ?hl ?_
  case hb => exact rfl
  case hl => exact rfl
  refine J.seq ?_
  refine J.region ?_
  refine JL.step (y_assign rfl) rfl rfl rfl ?_
  refine JL.nil ?_
  refine JE.then_normal ?_
  refine J.seq ?_
  refine J.region ?_
  refine JL.step (y_move rfl) rfl rfl rfl (JL.step (y_len_slice hT rfl rfl rfl) rfl rfl rfl ?_)
  refine JL.step (y_add rfl rfl (by (first | exact wrap_i64 (by omega) (by omega) | rfl))) rfl rfl rfl ?_
  refine JL.loud rfl (l_makeSlice hT rfl rfl rfl rfl rfl rfl (by omega) (by omega) (mk_fits rfl (by omega) (by omega)) (by omega) rfl (fun b1 => ?_))
  refine JL.pre (fun w s => s.own_made (by unfold maxLen; omega)) ?_
  refine JL.step (y_move rfl) rfl rfl rfl ?_
  refine JL.loud rfl (l_appendIn hT rfl rfl rfl rfl rfl rfl rfl rfl Pick.head (hin.cons _) (by simp [i4]) h1 (by rw [show i4.bytes = 1 from rfl]; omega) (by omega) rfl (fun q c hc => ?_))
  refine JL.step (y_assign rfl) rfl rfl rfl ?_
  refine JL.nil ?_
  refine JE.then_normal ?_
  refine J.ret ?_
  refine JE.ret1 (.inl rfl) rfl rfl (by (first | exact RV.tmp rfl | exact RV.cell1 hT rfl rfl rfl (by (exact Rd1.row (by (repeat (first | exact Pick.head | apply Pick.tail | apply Pick.app))) (by rfl))) | exact RV.cellN hT rfl rfl rfl (by (first | exact RdN.rowAll (by (repeat (first | exact Pick.head | apply Pick.tail | apply Pick.app))) | exact RdN.own (by (repeat (first | exact Pick.head | apply Pick.tail | apply Pick.app))))) (by (first | rfl | assumption | (simp; done) | omega)))) ?_
  simp only [Int.toNat_zero, Nat.zero_add, List.nil_append]
  exact ⟨q, c, rfl, rfl⟩
/-- What an op does. -/
def Dk.opd (D : Dk) (o : OpA) : Dk × Blk × Int :=
  if o.k = 0 then (D, D.read o.at_, D.ready o.at_) else if o.k = 1 then ((D.write o.at_ (blockOf o.fill)).1, zeroB, (D.write o.at_ (blockOf o.fill)).2)
  else if o.k = 2 then (D.sync.1, zeroB, D.sync.2) else if o.k = 3 then (if D.dead then D else D.arm o.at_, zeroB, if D.dead then 7 else 0) else (D.crash o.bits, zeroB, 0)
structure OpA.Ok (o : OpA) (l : List HProp) : Prop where
  at_ : -9223372036854775808 ≤ o.at_ ∧ o.at_ ≤ 9223372036854775807
  inl : InL l o.kp o.bits.length o.kc (o.bits.map Value.bool)
section
variable {D : Dk} {o : OpA}
theorem Dk.opd0 (h : o.k = 0) : D.opd o = (D, D.read o.at_, D.ready o.at_) := by simp [Dk.opd, h]
theorem Dk.opd1 (h : o.k = 1) : D.opd o = ((D.write o.at_ (blockOf o.fill)).1, zeroB, (D.write o.at_ (blockOf o.fill)).2) := by simp [Dk.opd, h]
theorem Dk.opd2 (h : o.k = 2) : D.opd o = (D.sync.1, zeroB, D.sync.2) := by simp [Dk.opd, h]
theorem Dk.opd3 (h : o.k = 3) : D.opd o = (if D.dead then D else D.arm o.at_, zeroB, if D.dead then 7 else 0) := by simp [Dk.opd, h]
theorem Dk.opd4 (h : o.k = 4) : D.opd o = (D.crash o.bits, zeroB, 0) := by simp [Dk.opd, h]
end
theorem Dk.Ok.read {D : Dk} (h : D.Ok) (i : Int) : (D.read i).length = 64 := by
  unfold Dk.read
  split
  · rename_i hr
    exact h.find (ready_zero hr).2
  · rfl
theorem does_spec (d : Nat) (D : Dk) (o : OpA) (r : List HProp) (hpn : D.pending.length ≤ 1000000) (ho : ∃ l, o.Ok l) (ho4 : o.k = 4 → o.Ok r ∧ o.bits.length ≤ 60000000000) :
    Fc prog E 23 [Value.pointer (some ⟨d, 0, none⟩), .agg (encO o).toArray].toArray (disk d D :: r)
      (fun v l' => v = .tuple #[.agg (encB (D.opd o).2.1).toArray, .int .i64 (D.opd o).2.2] ∧ l' = disk d (D.opd o).1 :: r) := by
  refine disk_okd fun hok => Fc.eqs ?_
  have hk := o.k_range
  have hrl : (encB (D.read o.at_)).length = 64 := (encB_length _).trans (hok.read _)
  refine Fc.of_body (c := ?c) Try.func23 ?hb Try.ntmps23 ?hl ?_
  case hb => exact rfl
  case hl => exact rfl
  refine J.seq ?_
  refine J.region ?_
  refine JL.loud rfl (l_box rfl (by (first | rfl | simp)) rfl (fun b1 => ?_))
  refine JL.loud rfl (l_alloc hT rfl rfl (by (first | rfl | simp)) rfl (fun b2 => ?_))
  refine JL.step (y_assign rfl) rfl rfl rfl ?_
  refine JL.nil ?_
  refine JE.then_normal ?_
  refine J.seq ?_
  refine J.seq ?_
  refine J.region ?_
  refine JL.step (y_loadN hT rfl rfl rfl (by (first | exact RdN.rowAll (by (repeat (first | exact Pick.head | apply Pick.tail | apply Pick.app))) | exact RdN.own (by (repeat (first | exact Pick.head | apply Pick.tail | apply Pick.app))))) (by (first | rfl | assumption | (simp; done) | omega))) rfl rfl rfl ?_
  refine JL.loud rfl (l_callF e18 rfl rfl (kind_spec E o _) ?_)
  rintro _ _ ⟨rfl, rfl⟩
  refine JL.nil ?_
  refine JE.then_normal ?_
  refine J.block ?_
  refine J.seq ?_
  refine J.region ?_
  refine JL.step (y_eql rfl rfl) rfl rfl rfl (JL.step (y_assign rfl) rfl rfl rfl ?_)
  refine JL.nil ?_
  refine JE.then_normal ?_
  first | apply J.cond_dec rfl | apply J.cond rfl
  case' ht =>
    intro h
    try (first | (exfalso; omega) | (cases h; done) | (exfalso; simp at h; done) | subst h)
    all_goals
      refine J.seq ?_
      refine J.region ?_
      refine JL.step (y_move rfl) rfl rfl rfl (JL.step (y_fieldAddr hT rfl rfl rfl rfl rfl rfl) rfl rfl rfl ?_)
      refine JL.step (y_load1 hT rfl rfl rfl (by (exact Rd1.row (by (repeat (first | exact Pick.head | apply Pick.tail | apply Pick.app))) (by rfl)))) rfl rfl rfl ?_
      refine JL.loud rfl (l_callF e27 rfl rfl ((read_spec E d D o.at_ _ hpn).split (Split.cons (by (repeat (first | exact Pick.head | apply Pick.tail | apply Pick.app))) Split.nil)) ?_)
      rintro _ _ ⟨rfl, rfl⟩
      refine JL.step (y_extract rfl rfl) rfl rfl rfl (JL.step (y_extract rfl rfl) rfl rfl rfl ?_)
      refine JL.loud rfl (l_storeAll hT rfl rfl rfl (by (first | rfl | assumption | (simp; done) | omega)) (by (first | assumption | exact ones_of rfl | exact encW_one _ | exact encB_one _ | (intro u hu; simp at hu; rcases hu with rfl | rfl <;> rfl) | (intro u hu; simp at hu; subst hu; rfl) | simp)) (by (repeat (first | exact Pick.head | apply Pick.tail | apply Pick.app))) (by (first | rfl | assumption | (simp; done) | omega)) ?_)
      refine JL.step (y_assign rfl) rfl rfl rfl ?_
      refine JL.nil ?_
      refine JE.then_normal ?_
      refine J.ret ?_
      refine JE.block_ret ?_
      refine JE.then_ret ?_
      refine JE.ret2 (.inl rfl) rfl rfl (by (first | exact RV.tmp rfl | exact RV.cell1 hT rfl rfl rfl (by (exact Rd1.row (by (repeat (first | exact Pick.head | apply Pick.tail | apply Pick.app))) (by rfl))) | exact RV.cellN hT rfl rfl rfl (by (first | exact RdN.rowAll (by (repeat (first | exact Pick.head | apply Pick.tail | apply Pick.app))) | exact RdN.own (by (repeat (first | exact Pick.head | apply Pick.tail | apply Pick.app))))) (by (first | rfl | assumption | (simp; done) | omega)))) (by (first | exact RV.tmp rfl | exact RV.cell1 hT rfl rfl rfl (by (exact Rd1.row (by (repeat (first | exact Pick.head | apply Pick.tail | apply Pick.app))) (by rfl))) | exact RV.cellN hT rfl rfl rfl (by (first | exact RdN.rowAll (by (repeat (first | exact Pick.head | apply Pick.tail | apply Pick.app))) | exact RdN.own (by (repeat (first | exact Pick.head | apply Pick.tail | apply Pick.app))))) (by (first | rfl | assumption | (simp; done) | omega)))) ?_
      first
        | rw [Dk.opd0 (by assumption)]
        | rw [Dk.opd1 (by assumption)]
        | rw [Dk.opd2 (by assumption)]
        | rw [Dk.opd3 (by assumption)]
        | rw [Dk.opd4 (by assumption)]
      exact ⟨rfl, fun w q => q.sup (by (repeat (first | exact Sup.refl | apply Sup.cons (by (repeat (first | exact Pick.head | apply Pick.tail | apply Pick.app))) | apply Sup.app | apply Sup.skip | apply Sup.skips)))⟩
  case' hf =>
    intro h
    try (first | (exfalso; omega) | (cases h; done) | (exfalso; simp at h; done) | subst h)
    all_goals
      refine J.seq ?_
      refine J.region ?_
      refine JL.step (y_eql rfl rfl) rfl rfl rfl (JL.step (y_assign rfl) rfl rfl rfl ?_)
      refine JL.nil ?_
      refine JE.then_normal ?_
      first | apply J.cond_dec rfl | apply J.cond rfl
      case' ht =>
        intro h
        try (first | (exfalso; omega) | (cases h; done) | (exfalso; simp at h; done) | subst h)
        all_goals
          refine J.seq ?_
          refine J.draw _ _ [(0, .q), (1, .q), (2, .q), (3, .q), (4, .q), (5, .q), (6, .q), (7, .l), (8, .l), (9, .q)] mixed (by kernel_rfl) (Split.cons (Pick.head) (Split.cons (Pick.tail Pick.head) (Split.nil))) ?_
          refine JM.quiet rfl rfl rfl rfl (fun m => y_build_arr0 hT rfl rfl rfl rfl) ?_
          refine JM.quiet rfl rfl rfl rfl (fun m => y_move rfl) ?_
          refine JM.quiet rfl rfl rfl rfl (fun m => y_fieldAddr hT rfl rfl rfl rfl rfl rfl) ?_
          refine JM.quiet rfl rfl rfl rfl (fun m => y_load1 hT rfl rfl rfl (by (exact Rd1.row (Pick.app m (by (repeat (first | exact Pick.head | apply Pick.tail | apply Pick.app)))) (by rfl)))) ?_
          refine JM.quiet rfl rfl rfl rfl (fun m => y_fieldAddr hT rfl rfl rfl rfl rfl rfl) ?_
          refine JM.quiet rfl rfl rfl rfl (fun m => y_load1 hT rfl rfl rfl (by (exact Rd1.row (Pick.app m (by (repeat (first | exact Pick.head | apply Pick.tail | apply Pick.app)))) (by rfl)))) ?_
          refine JM.quiet rfl rfl rfl rfl (fun m => y_callF e19 rfl (block_spec E _ _)) ?_
          refine JM.loud rfl rfl (fun fr => l_callF e47 rfl rfl ((write_spec E d D o.at_ (blockOf o.fill) (blockOf_length _) _ hpn).split (Split.cons (by (repeat (first | exact Pick.head | apply Pick.tail | apply Pick.app))) Split.nil)) ?_)
          rintro _ _ ⟨rfl, rfl⟩
          refine ⟨[_, _], (by (repeat (first | exact Split.nil | exact Split.all | refine Split.cons Pick.head ?_))), ?_⟩
          refine JM.loud rfl rfl (fun fr => l_storeAll hT rfl rfl rfl (by (first | rfl | assumption | (simp; done) | omega)) (by (first | assumption | exact ones_of rfl | exact encW_one _ | exact encB_one _ | (intro u hu; simp at hu; rcases hu with rfl | rfl <;> rfl) | (intro u hu; simp at hu; subst hu; rfl) | simp)) (by (repeat (first | exact Pick.head | apply Pick.tail | apply Pick.app))) (by (first | rfl | assumption | (simp; done) | omega)) (⟨[_, _], (by (repeat (first | exact Split.nil | exact Split.all | refine Split.cons Pick.head ?_))), ?_⟩))
          refine JM.quiet rfl rfl rfl rfl (fun m => y_assign rfl) ?_
          refine JM.nil ?_
          refine JE.then_normal ?_
          refine J.ret ?_
          refine JE.block_ret ?_
          refine JE.then_ret ?_
          refine JE.ret2 (.inl rfl) rfl rfl (by (first | exact RV.tmp rfl | exact RV.cell1 hT rfl rfl rfl (by (exact Rd1.row (by (repeat (first | exact Pick.head | apply Pick.tail | apply Pick.app))) (by rfl))) | exact RV.cellN hT rfl rfl rfl (by (first | exact RdN.rowAll (by (repeat (first | exact Pick.head | apply Pick.tail | apply Pick.app))) | exact RdN.own (by (repeat (first | exact Pick.head | apply Pick.tail | apply Pick.app))))) (by (first | rfl | assumption | (simp; done) | omega)))) (by (first | exact RV.tmp rfl | exact RV.cell1 hT rfl rfl rfl (by (exact Rd1.row (by (repeat (first | exact Pick.head | apply Pick.tail | apply Pick.app))) (by rfl))) | exact RV.cellN hT rfl rfl rfl (by (first | exact RdN.rowAll (by (repeat (first | exact Pick.head | apply Pick.tail | apply Pick.app))) | exact RdN.own (by (repeat (first | exact Pick.head | apply Pick.tail | apply Pick.app))))) (by (first | rfl | assumption | (simp; done) | omega)))) ?_
          first
            | rw [Dk.opd0 (by assumption)]
            | rw [Dk.opd1 (by assumption)]
            | rw [Dk.opd2 (by assumption)]
            | rw [Dk.opd3 (by assumption)]
            | rw [Dk.opd4 (by assumption)]
          exact ⟨rfl, fun w q => q.sup (by (repeat (first | exact Sup.refl | apply Sup.cons (by (repeat (first | exact Pick.head | apply Pick.tail | apply Pick.app))) | apply Sup.app | apply Sup.skip | apply Sup.skips)))⟩
      case' hf =>
        intro h
        try (first | (exfalso; omega) | (cases h; done) | (exfalso; simp at h; done) | subst h)
        all_goals
          refine J.seq ?_
          refine J.region ?_
          refine JL.step (y_eql rfl rfl) rfl rfl rfl (JL.step (y_assign rfl) rfl rfl rfl ?_)
          refine JL.nil ?_
          refine JE.then_normal ?_
          first | apply J.cond_dec rfl | apply J.cond rfl
          case' ht =>
            intro h
            try (first | (exfalso; omega) | (cases h; done) | (exfalso; simp at h; done) | subst h)
            all_goals
              refine J.seq ?_
              refine J.region ?_
              refine JL.step (y_build_arr0 hT rfl rfl rfl rfl) rfl rfl rfl (JL.step (y_move rfl) rfl rfl rfl ?_)
              refine JL.loud rfl (l_callF e32 rfl rfl ((sync_spec E d D _ hpn).split (Split.cons (by (repeat (first | exact Pick.head | apply Pick.tail | apply Pick.app))) Split.nil)) ?_)
              rintro _ _ ⟨rfl, rfl⟩
              refine JL.loud rfl (l_storeAll hT rfl rfl rfl (by (first | rfl | assumption | (simp; done) | omega)) (by (first | assumption | exact ones_of rfl | exact encW_one _ | exact encB_one _ | (intro u hu; simp at hu; rcases hu with rfl | rfl <;> rfl) | (intro u hu; simp at hu; subst hu; rfl) | simp)) (by (repeat (first | exact Pick.head | apply Pick.tail | apply Pick.app))) (by (first | rfl | assumption | (simp; done) | omega)) ?_)
              refine JL.step (y_assign rfl) rfl rfl rfl ?_
              refine JL.nil ?_
              refine JE.then_normal ?_
              refine J.ret ?_
              refine JE.block_ret ?_
              refine JE.then_ret ?_
              refine JE.ret2 (.inl rfl) rfl rfl (by (first | exact RV.tmp rfl | exact RV.cell1 hT rfl rfl rfl (by (exact Rd1.row (by (repeat (first | exact Pick.head | apply Pick.tail | apply Pick.app))) (by rfl))) | exact RV.cellN hT rfl rfl rfl (by (first | exact RdN.rowAll (by (repeat (first | exact Pick.head | apply Pick.tail | apply Pick.app))) | exact RdN.own (by (repeat (first | exact Pick.head | apply Pick.tail | apply Pick.app))))) (by (first | rfl | assumption | (simp; done) | omega)))) (by (first | exact RV.tmp rfl | exact RV.cell1 hT rfl rfl rfl (by (exact Rd1.row (by (repeat (first | exact Pick.head | apply Pick.tail | apply Pick.app))) (by rfl))) | exact RV.cellN hT rfl rfl rfl (by (first | exact RdN.rowAll (by (repeat (first | exact Pick.head | apply Pick.tail | apply Pick.app))) | exact RdN.own (by (repeat (first | exact Pick.head | apply Pick.tail | apply Pick.app))))) (by (first | rfl | assumption | (simp; done) | omega)))) ?_
              first
                | rw [Dk.opd0 (by assumption)]
                | rw [Dk.opd1 (by assumption)]
                | rw [Dk.opd2 (by assumption)]
                | rw [Dk.opd3 (by assumption)]
                | rw [Dk.opd4 (by assumption)]
              exact ⟨rfl, fun w q => q.sup (by (repeat (first | exact Sup.refl | apply Sup.cons (by (repeat (first | exact Pick.head | apply Pick.tail | apply Pick.app))) | apply Sup.app | apply Sup.skip | apply Sup.skips)))⟩
          case' hf =>
            intro h
            try (first | (exfalso; omega) | (cases h; done) | (exfalso; simp at h; done) | subst h)
            all_goals
              refine J.seq ?_
              refine J.region ?_
              refine JL.step (y_eql rfl rfl) rfl rfl rfl (JL.step (y_assign rfl) rfl rfl rfl ?_)
              refine JL.nil ?_
              refine JE.then_normal ?_
              first | apply J.cond_dec rfl | apply J.cond rfl
              case' ht =>
                intro h
                try (first | (exfalso; omega) | (cases h; done) | (exfalso; simp at h; done) | subst h)
                all_goals
                  refine J.seq ?_
                  refine J.region ?_
                  refine JL.step (y_build_arr0 hT rfl rfl rfl rfl) rfl rfl rfl (JL.step (y_move rfl) rfl rfl rfl (JL.step (y_fieldAddr hT rfl rfl rfl rfl rfl rfl) rfl rfl rfl ?_))
                  refine JL.step (y_load1 hT rfl rfl rfl (by (exact Rd1.row (by (repeat (first | exact Pick.head | apply Pick.tail | apply Pick.app))) (by rfl)))) rfl rfl rfl ?_
                  refine JL.loud rfl (l_callF e29 rfl rfl ((arm_spec E d D o.at_ ho.choose_spec.at_ _).split (Split.cons (by (repeat (first | exact Pick.head | apply Pick.tail | apply Pick.app))) Split.nil)) ?_)
                  rintro _ _ ⟨rfl, rfl⟩
                  refine JL.loud rfl (l_storeAll hT rfl rfl rfl (by (first | rfl | assumption | (simp; done) | omega)) (by (first | assumption | exact ones_of rfl | exact encW_one _ | exact encB_one _ | (intro u hu; simp at hu; rcases hu with rfl | rfl <;> rfl) | (intro u hu; simp at hu; subst hu; rfl) | simp)) (by (repeat (first | exact Pick.head | apply Pick.tail | apply Pick.app))) (by (first | rfl | assumption | (simp; done) | omega)) ?_)
                  refine JL.step (y_assign rfl) rfl rfl rfl ?_
                  refine JL.nil ?_
                  refine JE.then_normal ?_
                  refine J.ret ?_
                  refine JE.block_ret ?_
                  refine JE.then_ret ?_
                  refine JE.ret2 (.inl rfl) rfl rfl (by (first | exact RV.tmp rfl | exact RV.cell1 hT rfl rfl rfl (by (exact Rd1.row (by (repeat (first | exact Pick.head | apply Pick.tail | apply Pick.app))) (by rfl))) | exact RV.cellN hT rfl rfl rfl (by (first | exact RdN.rowAll (by (repeat (first | exact Pick.head | apply Pick.tail | apply Pick.app))) | exact RdN.own (by (repeat (first | exact Pick.head | apply Pick.tail | apply Pick.app))))) (by (first | rfl | assumption | (simp; done) | omega)))) (by (first | exact RV.tmp rfl | exact RV.cell1 hT rfl rfl rfl (by (exact Rd1.row (by (repeat (first | exact Pick.head | apply Pick.tail | apply Pick.app))) (by rfl))) | exact RV.cellN hT rfl rfl rfl (by (first | exact RdN.rowAll (by (repeat (first | exact Pick.head | apply Pick.tail | apply Pick.app))) | exact RdN.own (by (repeat (first | exact Pick.head | apply Pick.tail | apply Pick.app))))) (by (first | rfl | assumption | (simp; done) | omega)))) ?_
                  first
                    | rw [Dk.opd0 (by assumption)]
                    | rw [Dk.opd1 (by assumption)]
                    | rw [Dk.opd2 (by assumption)]
                    | rw [Dk.opd3 (by assumption)]
                    | rw [Dk.opd4 (by assumption)]
                  exact ⟨rfl, fun w q => q.sup (by (repeat (first | exact Sup.refl | apply Sup.cons (by (repeat (first | exact Pick.head | apply Pick.tail | apply Pick.app))) | apply Sup.app | apply Sup.skip | apply Sup.skips)))⟩
              case' hf =>
                intro h
                try (first | (exfalso; omega) | (cases h; done) | (exfalso; simp at h; done) | subst h)
                all_goals
                  refine J.skip ?_
  all_goals refine JE.block_normal ?_
  all_goals refine JE.then_normal ?_
  all_goals
    refine J.seq ?_
    have hk4 : o.k = 4 := by omega
    obtain ⟨hO, hOb⟩ := ho4 hk4
    refine J.region ?_
    refine JL.step (y_build_arr0 hT rfl rfl rfl rfl) rfl rfl rfl (JL.step (y_move rfl) rfl rfl rfl (JL.step (y_fieldAddr hT rfl rfl rfl rfl rfl rfl) rfl rfl rfl ?_))
    refine JL.step (y_load1 hT rfl rfl rfl (by (exact Rd1.row (by (repeat (first | exact Pick.head | apply Pick.tail | apply Pick.app))) (by rfl)))) rfl rfl rfl ?_
    refine JL.loud rfl (l_callF e56 rfl rfl (keeps_spec E _ _ _ _ (((hO.inl.cons _).cons _).cons _) hOb) ?_)
    rintro _ _ ⟨q, c, rfl, rfl⟩
    refine JL.fact (fun w s => s.own_at) fun hi => ?_
    refine JL.loud rfl (l_callF e34 rfl rfl (Fc.on (Split.cons (by (repeat (first | exact Pick.head | apply Pick.tail | apply Pick.app))) Split.nil) (crash_spec E d D q c o.bits _ (hi.inl (by (repeat (first | exact Pick.head | apply Pick.tail | apply Pick.app)))) hpn)) ?_)
    rintro _ _ ⟨rfl, rfl⟩
    refine JL.loud rfl (l_storeAll hT rfl rfl rfl (by (first | rfl | assumption | (simp; done) | omega)) (by (first | assumption | exact ones_of rfl | exact encW_one _ | exact encB_one _ | (intro u hu; simp at hu; rcases hu with rfl | rfl <;> rfl) | (intro u hu; simp at hu; subst hu; rfl) | simp)) (by (repeat (first | exact Pick.head | apply Pick.tail | apply Pick.app))) (by (first | rfl | assumption | (simp; done) | omega)) ?_)
    refine JL.step (y_assign rfl) rfl rfl rfl ?_
    refine JL.nil ?_
    refine JE.then_normal ?_
    refine J.ret ?_
    refine JE.ret2 (.inl rfl) rfl rfl (by (first | exact RV.tmp rfl | exact RV.cell1 hT rfl rfl rfl (by (exact Rd1.row (by (repeat (first | exact Pick.head | apply Pick.tail | apply Pick.app))) (by rfl))) | exact RV.cellN hT rfl rfl rfl (by (first | exact RdN.rowAll (by (repeat (first | exact Pick.head | apply Pick.tail | apply Pick.app))) | exact RdN.own (by (repeat (first | exact Pick.head | apply Pick.tail | apply Pick.app))))) (by (first | rfl | assumption | (simp; done) | omega)))) (by (first | exact RV.tmp rfl | exact RV.cell1 hT rfl rfl rfl (by (exact Rd1.row (by (repeat (first | exact Pick.head | apply Pick.tail | apply Pick.app))) (by rfl))) | exact RV.cellN hT rfl rfl rfl (by (first | exact RdN.rowAll (by (repeat (first | exact Pick.head | apply Pick.tail | apply Pick.app))) | exact RdN.own (by (repeat (first | exact Pick.head | apply Pick.tail | apply Pick.app))))) (by (first | rfl | assumption | (simp; done) | omega)))) ?_
    first
      | rw [Dk.opd0 (by assumption)]
      | rw [Dk.opd1 (by assumption)]
      | rw [Dk.opd2 (by assumption)]
      | rw [Dk.opd3 (by assumption)]
      | rw [Dk.opd4 (by assumption)]
    exact ⟨rfl, fun w q => q.sup (by (repeat (first | exact Sup.refl | apply Sup.cons (by (repeat (first | exact Pick.head | apply Pick.tail | apply Pick.app))) | apply Sup.app | apply Sup.skip | apply Sup.skips)))⟩
/-- What reads as a row of ops. -/
structure OpsIn (l : List HProp) (p : Option Addr) (cap : Nat) (xs : List OpA) : Prop where
  inl : InL l p xs.length cap (xs.flatMap encO)
  ok : ∀ o ∈ xs, o.Ok l
theorem encO_length (o : OpA) : (encO o).length = 4 := rfl
theorem encO_one (o : OpA) : ∀ u ∈ encO o, u.oneCell' = true := by
  intro u hu
  simp only [encO, List.mem_cons, List.not_mem_nil, or_false] at hu
  rcases hu with rfl | rfl | rfl | rfl <;> rfl
theorem OpA.Ok.app {o : OpA} {l : List HProp} (h : o.Ok l) (m : List HProp) : o.Ok (m ++ l) := ⟨h.at_, h.inl.app m⟩
theorem OpsIn.app {l : List HProp} {p : Option Addr} {cap : Nat} {xs : List OpA} (h : OpsIn l p cap xs) (m : List HProp) : OpsIn (m ++ l) p cap xs := ⟨h.inl.app m, fun o ho => (h.ok o ho).app m⟩
theorem OpsIn.take {l : List HProp} {p : Option Addr} {cap : Nat} {xs : List OpA} (h : OpsIn l p cap xs) (n : Nat) : OpsIn l p cap (xs.take n) := ⟨by have := h.inl.take (min n xs.length) (Nat.min_le_right _ _); rw [List.length_take]; have e : xs.take (min n xs.length) = xs.take n := (by rw [List.take_eq_take_iff]; omega); rwa [e] at this, fun o ho => h.ok o (List.mem_of_mem_take ho)⟩
/-- What is done to a worn disk. -/
def stepW (D : Dk) (o : OpA) : Dk := if o.k < 3 then (D.opd o).1 else D
def wear (D : Dk) (xs : List OpA) : Dk := xs.foldl stepW D
def Dk.worn (xs : List OpA) : Dk := wear (Dk.new 6) (xs.take 120)
theorem wear_next {D : Dk} {xs : List OpA} {j : Nat} {o : OpA} (h : xs[j]? = some o) : wear D (xs.take (j + 1)) = stepW (wear D (xs.take j)) o := by
  rw [wear, wear, List.take_add_one, h, List.foldl_append]
  rfl
theorem opd_pending (D : Dk) (o : OpA) : (D.opd o).1.pending.length ≤ D.pending.length + 1 := by
  have hk := o.k_range
  unfold Dk.opd Dk.write Dk.sync Dk.crash Dk.settle Dk.push Dk.does Dk.dies Dk.arm
  repeat' split
  all_goals simp
theorem stepW_pending (D : Dk) (o : OpA) : (stepW D o).pending.length ≤ D.pending.length + 1 := by
  unfold stepW
  split
  · exact opd_pending D o
  · omega
theorem wear_pending (xs : List OpA) : ∀ D : Dk, (wear D xs).pending.length ≤ D.pending.length + xs.length := by
  induction xs with
  | nil => intro D; simp [wear]
  | cons o r ih =>
    intro D
    have h1 := ih (stepW D o)
    have h2 := stepW_pending D o
    have e : wear D (o :: r) = wear (stepW D o) r := rfl
    rw [e, List.length_cons]
    omega
end Go.Proofs.Ytilifeeddpkclaa
