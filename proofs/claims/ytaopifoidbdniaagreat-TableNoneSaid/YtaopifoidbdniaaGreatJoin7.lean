import Derived.Test.YtaopifoidbdniaaGreatJoin3
import Derived.Test.YtaopifoidbdniaaGreatJoin4
import Derived.Test.YtaopifoidbdniaaGreatJoin6
/- Short numbers and texts, written and read. -/
namespace Go.Proofs.YtaopifoidbdniaaGreat
open Go Go.SL
section
/-- A short number's bytes. -/
def num2 (x : Nat) : List Int := leB 2 (BitVec.ofInt 64 (x : Int))
theorem num2_length (x : Nat) : (num2 x).length = 2 := leB_length ..
/-- A text's bytes, their number ahead. -/
def txtB (s : ByteArray) : List Int := num2 s.size ++ bytesS s
theorem txtB_length (s : ByteArray) : (txtB s).length = 2 + s.size := by rw [txtB, List.length_append, num2_length, bytesS_length]
theorem leG_num2 {x : Nat} (h : x < 65536) : leG (num2 x) 2 = BitVec.ofNat 64 x := by
  have e : BitVec.ofInt 64 (x : Int) = BitVec.ofNat 64 x := BitVec.ofInt_natCast ..
  rw [num2, e]
  refine BitVec.eq_of_getLsbD_eq fun j hj => ?_
  rw [leG_leB _ j 2 (Nat.le_refl _)]
  by_cases h1 : j < 16
  · simp [h1]
  · have h2 : (BitVec.ofNat 64 x).getLsbD j = false := by
      rw [BitVec.getLsbD_ofNat, Nat.testBit_lt_two_pow (Nat.lt_of_lt_of_le h (Nat.pow_le_pow_right (n := 2) (by decide) (show 16 ≤ j by omega)))]
      simp
    simp [h1, h2]
theorem wrap_u16 {x : Nat} (h : x < 65536) : IntKind.u16.wrap (x : Int) = (x : Int) := by
  simp [IntKind.wrap, IntKind.bits, IntKind.signed]
  omega
/-- A reader of bytes. -/
def rdr (b : Nat) (bs : List Int) (at_ : Nat) : HProp := pk fun q : Nat × Nat => [row b 257 (rcells (some ⟨q.1, 0, none⟩) bs.length q.2 at_), own 5 1 (.slice (some ⟨q.1, 0, none⟩) bs.length q.2) bs.length (ints .u8 bs)]
theorem rdr_shut {E w : World} {b g c at_ : Nat} {bs : List Int} {r : List HProp} (s : Sat E (stars (row b 257 (rcells (some ⟨g, 0, none⟩) bs.length c at_) :: own 5 1 (.slice (some ⟨g, 0, none⟩) bs.length c) bs.length (ints .u8 bs) :: r)) w) : Sat E (stars (rdr b bs at_ :: r)) w :=
  Sat.topk (F := fun q : Nat × Nat => [row b 257 (rcells (some ⟨q.1, 0, none⟩) bs.length q.2 at_), own 5 1 (.slice (some ⟨q.1, 0, none⟩) bs.length q.2) bs.length (ints .u8 bs)]) (g, c) s
theorem Fc.rdr {P : Program} {E : World} {l : List HProp} {f : FuncId} {args : Array Value} {R : Value → List HProp → Prop} {b at_ : Nat} {bs : List Int}
    (h : ∀ g c, Fc P E f args (row b 257 (rcells (some ⟨g, 0, none⟩) bs.length c at_) :: own 5 1 (.slice (some ⟨g, 0, none⟩) bs.length c) bs.length (ints .u8 bs) :: l) R) : Fc P E f args (Go.Proofs.YtaopifoidbdniaaGreat.rdr b bs at_ :: l) R := Fc.pks fun q => h q.1 q.2
theorem drop_more {α : Type} {bs A B : List α} {k : Nat} (h : bs.drop k = A ++ B) : bs.drop (k + A.length) = B ∧ (bs.drop k).take A.length = A ∧ (A ≠ [] → k + A.length ≤ bs.length) := by
  refine ⟨by rw [← List.drop_drop, h, List.drop_left], by rw [h, List.take_left], fun hA => ?_⟩
  have hl := congrArg List.length h
  rw [List.length_drop, List.length_append] at hl
  have : 0 < A.length := List.length_pos_iff.2 hA
  omega
end
section
attribute [local irreducible] J JL JE JM LS Y Fc RV Code.wp wpList Code.wpIn wpListIn
attribute [local irreducible] Yc
variable (E : World)
theorem octPut16_spec (p : Option Addr) (cap n : Nat) (bs : List Int) (x : Nat) (l : List HProp) (hn : bs.length = n) (hin : InL l p n cap (ints .u8 bs)) (hb : n ≤ 1073741824) :
    Fc prog E 127 [.slice p n cap, .int .u16 (x : Int)].toArray l (fun v l' => ∃ a c, v = .slice a (n + 2) c ∧ l' = own 5 1 v (n + 2) (ints .u8 (bs ++ num2 x)) :: l) := by
  subst hn
  refine Fc.of_body (c := ?codeC) Tryz.func127 ?hb Tryz.ntmps127 ?hl ?_
  case hb => exact rfl
  case hl => exact rfl
  refine J.seq ?_
  refine J.region ?_
  refine JL.step (y_assign rfl) rfl rfl rfl ?_
  refine JL.nil ?_
  refine JE.then_normal ?_
  refine J.seq ?_
  refine J.region ?_
  refine JL.step (y_move rfl) rfl rfl rfl (JL.step (y_move rfl) rfl rfl rfl ?_)
  refine JL.step (y_convToQ hT rfl rfl rfl rfl) rfl rfl rfl ?_
  refine JL.loud rfl (l_callF e168 rfl rfl (octPut_spec E p cap bs _ 2 (by omega) _ (by (repeat (first | assumption | apply InL.cons | apply InL.app))) hb) ?_)
  rintro _ _ ⟨a, c, rfl, rfl⟩
  refine JL.step (y_assign rfl) rfl rfl rfl ?_
  refine JL.nil ?_
  refine JE.then_normal ?_
  refine J.ret ?_
  refine JE.ret1 (.inl rfl) rfl rfl (by (first | exact RV.tmp rfl | exact RV.cell1 hT rfl rfl rfl (by (exact Rd1.row (by (repeat (first | exact Pick.head | apply Pick.tail | apply Pick.app))) (by rfl))) | exact RV.cellN hT rfl rfl rfl (by (first | exact RdN.rowAll (by (repeat (first | exact Pick.head | apply Pick.tail | apply Pick.app))) | exact RdN.own (by (repeat (first | exact Pick.head | apply Pick.tail | apply Pick.app))))) (by (first | rfl | assumption | (simp; done) | omega)))) ?_
  exact ⟨a, c, rfl, rfl⟩
theorem octRaw0_spec (b g c at_ : Nat) (bs : List Int) (l : List HProp) (h2 : at_ ≤ bs.length) (h3 : bs.length ≤ c) (h4 : bs.length ≤ 1073741824) (hc : c ≤ maxLen) :
    Fc prog E 164 [.pointer (some ⟨b, 0, none⟩), .int .i64 0].toArray (row b 257 (rcells (some ⟨g, 0, none⟩) bs.length c at_) :: l) (fun v l' => v = .slice (some ⟨g, if c = at_ then 0 else at_, none⟩) 0 (c - at_) ∧ l' = row b 257 (rcells (some ⟨g, 0, none⟩) bs.length c at_) :: l) := by
  refine Fc.eqs ?_
  refine Fc.of_body (c := ?codeC) Tryz.func164 ?hb Tryz.ntmps164 ?hl ?_
  case hb => exact rfl
  case hl => exact rfl
  refine J.seq ?_
  refine J.region ?_
  refine JL.step (y_assign rfl) rfl rfl rfl ?_
  refine JL.nil ?_
  refine JE.then_normal ?_
  refine J.seq ?_
  refine J.block ?_
  refine J.seq ?_
  refine J.region ?_
  refine JL.step (y_move rfl) rfl rfl rfl ?_
  refine JL.step ((by first | exact y_nilCheck rfl | exact y_nilCheckF rfl | exact y_nilCheckY rfl)) rfl rfl rfl ?_
  refine JL.step (y_fieldAddr hT rfl rfl rfl rfl rfl rfl) rfl rfl rfl ?_
  refine JL.step (y_load1 hT rfl rfl rfl (by (exact Rd1.row (by (repeat (first | exact Pick.head | apply Pick.tail | apply Pick.app))) (by rfl)))) rfl rfl rfl ?_
  refine JL.step (y_neq rfl rfl) rfl rfl rfl (JL.step (y_assign rfl) rfl rfl rfl ?_)
  refine JL.nil ?_
  refine JE.then_normal ?_
  refine J.cond_f rfl (by (first | rfl | assumption | (simp; done) | (simp; omega))) ?_
  refine J.seq ?_
  refine J.region ?_
  refine JL.step (y_move rfl) rfl rfl rfl (JL.step (y_lss rfl rfl) rfl rfl rfl (JL.step (y_assign rfl) rfl rfl rfl ?_))
  refine JL.nil ?_
  refine JE.then_normal ?_
  refine J.cond_f rfl (by (first | rfl | assumption | (simp; done) | (simp; omega))) ?_
  refine J.seq ?_
  refine J.draw _ _ [(0, .q), (1, .q), (2, .q), (3, .q), (4, .q), (5, .q), (6, .q), (7, .q), (8, .q), (9, .q), (10, .q), (11, .q), (12, .q)] mixed (by kernel_rfl) (Split.nil) ?_
  refine JM.quiet rfl rfl rfl rfl (fun m => y_move rfl) ?_
  refine JM.quiet rfl rfl rfl rfl (fun m => y_move rfl) ?_
  refine JM.quiet rfl rfl rfl rfl (fun m => (by first | exact y_nilCheck rfl | exact y_nilCheckF rfl | exact y_nilCheckY rfl)) ?_
  refine JM.quiet rfl rfl rfl rfl (fun m => y_fieldAddr hT rfl rfl rfl rfl rfl rfl) ?_
  refine JM.quiet rfl rfl rfl rfl (fun m => y_load1 hT rfl rfl rfl (by (exact Rd1.row (Pick.app m (by (repeat (first | exact Pick.head | apply Pick.tail | apply Pick.app)))) (by rfl)))) ?_
  refine JM.quiet rfl rfl rfl rfl (fun m => y_len_slice hT rfl rfl rfl) ?_
  refine JM.quiet rfl rfl rfl rfl (fun m => y_move rfl) ?_
  refine JM.quiet rfl rfl rfl rfl (fun m => (by first | exact y_nilCheck rfl | exact y_nilCheckF rfl | exact y_nilCheckY rfl)) ?_
  refine JM.quiet rfl rfl rfl rfl (fun m => y_fieldAddr hT rfl rfl rfl rfl rfl rfl) ?_
  refine JM.quiet rfl rfl rfl rfl (fun m => y_load1 hT rfl rfl rfl (by (exact Rd1.row (Pick.app m (by (repeat (first | exact Pick.head | apply Pick.tail | apply Pick.app)))) (by rfl)))) ?_
  refine JM.quiet rfl rfl rfl rfl (fun m => y_sub rfl rfl (by (first | exact wrap_i64 (by omega) (by omega) | rfl))) ?_
  refine JM.quiet rfl rfl rfl rfl (fun m => y_gtr rfl rfl) ?_
  refine JM.quiet rfl rfl rfl rfl (fun m => y_assign rfl) ?_
  refine JM.nil ?_
  refine JE.then_normal ?_
  refine J.cond_f rfl (by (first | rfl | assumption | (simp; done) | (simp; omega))) ?_
  refine J.skip ?_
  refine JE.block_normal ?_
  refine JE.then_normal ?_
  refine J.seq ?_
  refine J.region ?_
  refine JL.step (y_move rfl) rfl rfl rfl ?_
  refine JL.step ((by first | exact y_nilCheck rfl | exact y_nilCheckF rfl | exact y_nilCheckY rfl)) rfl rfl rfl ?_
  refine JL.step (y_fieldAddr hT rfl rfl rfl rfl rfl rfl) rfl rfl rfl ?_
  refine JL.step (y_load1 hT rfl rfl rfl (by (exact Rd1.row (by (repeat (first | exact Pick.head | apply Pick.tail | apply Pick.app))) (by rfl)))) rfl rfl rfl ?_
  refine JL.step (y_move rfl) rfl rfl rfl ?_
  refine JL.step (y_add (m := (at_ : Int)) rfl rfl (by rw [show ((at_ : Nat) : Int) + 0 = (at_ : Int) by omega]; exact wrap_i64 (by omega) (by omega))) rfl rfl rfl ?_
  refine JL.step ((by first | exact y_nilCheck rfl | exact y_nilCheckF rfl | exact y_nilCheckY rfl)) rfl rfl rfl ?_
  refine JL.step (y_fieldAddr hT rfl rfl rfl rfl rfl rfl) rfl rfl rfl ?_
  refine JL.loud rfl (l_store1 hT rfl rfl rfl rfl rfl (by (repeat (first | exact Pick.head | apply Pick.tail | apply Pick.app))) (by (first | omega | exact Nat.le_of_ble_eq_true rfl | decide | (simp; omega))) ?_)
  refine JL.nil ?_
  refine JE.then_normal ?_
  refine J.seq ?_
  refine J.draw _ _ [(0, .q), (1, .q), (2, .q), (3, .q), (4, .q), (5, .q), (6, .q), (7, .q), (8, .q), (9, .q), (10, .q), (11, .q), (12, .q), (13, .q), (14, .q), (15, .q)] mixed (by kernel_rfl) (Split.nil) ?_
  refine JM.quiet rfl rfl rfl rfl (fun m => y_move rfl) ?_
  refine JM.quiet rfl rfl rfl rfl (fun m => (by first | exact y_nilCheck rfl | exact y_nilCheckF rfl | exact y_nilCheckY rfl)) ?_
  refine JM.quiet rfl rfl rfl rfl (fun m => y_fieldAddr hT rfl rfl rfl rfl rfl rfl) ?_
  refine JM.quiet rfl rfl rfl rfl (fun m => y_load1 hT rfl rfl rfl (by (exact Rd1.row (Pick.app m (by (repeat (first | exact Pick.head | apply Pick.tail | apply Pick.app)))) (by rfl)))) ?_
  refine JM.quiet rfl rfl rfl rfl (fun m => y_move rfl) ?_
  refine JM.quiet rfl rfl rfl rfl (fun m => (by first | exact y_nilCheck rfl | exact y_nilCheckF rfl | exact y_nilCheckY rfl)) ?_
  refine JM.quiet rfl rfl rfl rfl (fun m => y_fieldAddr hT rfl rfl rfl rfl rfl rfl) ?_
  refine JM.quiet rfl rfl rfl rfl (fun m => y_load1 hT rfl rfl rfl (by (exact Rd1.row (Pick.app m (by (repeat (first | exact Pick.head | apply Pick.tail | apply Pick.app)))) (by rfl)))) ?_
  refine JM.quiet rfl rfl rfl rfl (fun m => y_move rfl) ?_
  refine JM.quiet rfl rfl rfl rfl (fun m => y_sub (m := (at_ : Int)) rfl rfl (by rw [show ((at_ : Nat) : Int) - 0 = (at_ : Int) by omega]; exact wrap_i64 (by omega) (by omega))) ?_
  refine JM.quiet rfl rfl rfl rfl (fun m => y_move rfl) ?_
  refine JM.quiet rfl rfl rfl rfl (fun m => (by first | exact y_nilCheck rfl | exact y_nilCheckF rfl | exact y_nilCheckY rfl)) ?_
  refine JM.quiet rfl rfl rfl rfl (fun m => y_fieldAddr hT rfl rfl rfl rfl rfl rfl) ?_
  refine JM.quiet rfl rfl rfl rfl (fun m => y_load1 hT rfl rfl rfl (by (exact Rd1.row (Pick.app m (by (repeat (first | exact Pick.head | apply Pick.tail | apply Pick.app)))) (by rfl)))) ?_
  refine JM.quiet rfl rfl rfl rfl (fun m => y_slice (lo := at_) (hi := at_) hT rfl rfl rfl rfl (.inr ⟨_, _, _, rfl, rfl, rfl⟩) (.inr ⟨_, _, _, rfl, rfl, rfl⟩) (by omega) (by omega) h3 (.inl rfl)) ?_
  refine JM.quiet rfl rfl rfl rfl (fun m => y_assign rfl) ?_
  refine JM.nil ?_
  refine JE.then_normal ?_
  refine J.ret ?_
  refine JE.ret1 (.inl rfl) rfl rfl (by (first | exact RV.tmp rfl | exact RV.cell1 hT rfl rfl rfl (by (exact Rd1.row (by (repeat (first | exact Pick.head | apply Pick.tail | apply Pick.app))) (by rfl))) | exact RV.cellN hT rfl rfl rfl (by (first | exact RdN.rowAll (by (repeat (first | exact Pick.head | apply Pick.tail | apply Pick.app))) | exact RdN.own (by (repeat (first | exact Pick.head | apply Pick.tail | apply Pick.app))))) (by (first | rfl | assumption | (simp; done) | omega)))) ?_
  refine ⟨?_, fun w q => q⟩
  rw [Nat.sub_self, show 0 + at_ * i5.size = at_ by rw [show i5.size = 1 from rfl]; omega]
  split <;> rfl
/-- Some bytes more are read. -/
theorem raw_spec (b at_ k : Nat) (bs : List Int) (l : List HProp) (h2 : at_ + k ≤ bs.length) (h4 : bs.length ≤ 1073741824) :
    Fc prog E 122 [.pointer (some ⟨b, 0, none⟩), .int .i64 (k : Int)].toArray (rdr b bs at_ :: l)
      (fun v l' => ∃ a c', v = .slice a k c' ∧ l' = own 5 1 v k (ints .u8 ((bs.drop at_).take k)) :: rdr b bs (at_ + k) :: l) := by
  refine Fc.rdr fun g c => ?_
  by_cases hk : k = 0
  · subst hk
    refine Fc.fact (fun w s => Sat.own_at (a := some ⟨g, 0, none⟩) (k := bs.length) (s.pick (by (repeat (first | exact Pick.head | apply Pick.tail | apply Pick.app))))) fun oa => ?_
    refine Fc.post ?_
    refine Fc.of_body (c := ?codeC) Tryz.func122 ?hb Tryz.ntmps122 ?hl ?_
    case hb => exact rfl
    case hl => exact rfl
    refine J.seq ?_
    refine J.region ?_
    refine JL.step (y_assign rfl) rfl rfl rfl ?_
    refine JL.nil ?_
    refine JE.then_normal ?_
    refine J.seq ?_
    refine J.seq ?_
    refine J.region ?_
    refine JL.step (y_move rfl) rfl rfl rfl (JL.step (y_ptr_eq_nil hT rfl rfl rfl rfl) rfl rfl rfl ?_)
    refine JL.nil ?_
    refine JE.then_normal ?_
    refine J.cond_f rfl (by (first | rfl | assumption | (simp; done) | (simp; omega))) ?_
    refine J.skip ?_
    refine JE.then_normal ?_
    refine J.seq ?_
    refine J.region ?_
    refine JL.step (y_move rfl) rfl rfl rfl ?_
    refine JL.step ((by first | exact y_nilCheck rfl | exact y_nilCheckF rfl | exact y_nilCheckY rfl)) rfl rfl rfl ?_
    refine JL.step (y_fieldAddr hT rfl rfl rfl rfl rfl rfl) rfl rfl rfl (JL.step (y_move rfl) rfl rfl rfl ?_)
    refine JL.loud rfl (l_callF e164 rfl rfl (octRaw0_spec E b g c at_ bs _ (by omega) oa.le h4 oa.most) ?_)
    rintro _ _ ⟨rfl, rfl⟩
    refine JL.loud rfl (l_callF e81 rfl rfl (cloneB_spec E (some ⟨g, if c = at_ then 0 else at_, none⟩) (c - at_) [] _ ⟨Nat.zero_le _, by have := oa.most; omega, .inl ⟨_, _, rfl, fun m j v h => by simp [ints] at h⟩⟩ (by simp)) ?_)
    rintro _ _ ⟨a, c', rfl, rfl⟩
    refine JL.step (y_assign rfl) rfl rfl rfl ?_
    refine JL.nil ?_
    refine JE.then_normal ?_
    refine J.ret ?_
    refine JE.ret1 (.inl rfl) rfl rfl (by (first | exact RV.tmp rfl | exact RV.cell1 hT rfl rfl rfl (by (exact Rd1.row (by (repeat (first | exact Pick.head | apply Pick.tail | apply Pick.app))) (by rfl))) | exact RV.cellN hT rfl rfl rfl (by (first | exact RdN.rowAll (by (repeat (first | exact Pick.head | apply Pick.tail | apply Pick.app))) | exact RdN.own (by (repeat (first | exact Pick.head | apply Pick.tail | apply Pick.app))))) (by (first | rfl | assumption | (simp; done) | omega)))) ?_
    exact ⟨_, fun w q => Sat.pick (rdr_shut (r := own 5 1 (.slice a 0 c') 0 (ints .u8 []) :: l) (q.sup (by (repeat (first | exact Sup.refl | apply Sup.cons (by (repeat (first | exact Pick.head | apply Pick.tail | apply Pick.app))) | apply Sup.app | apply Sup.skip | apply Sup.skips))))) (Pick.tail Pick.head), a, c', rfl, by simp⟩
  · refine Fc.post ((octRaw_spec E b g c at_ k bs l (by omega) h2 h4).mono fun v l' ⟨a, c', h1, h2⟩ => ⟨_, fun w s => ?_, a, c', h1, rfl⟩)
    rw [h2] at s
    exact Sat.pick (rdr_shut (r := own 5 1 v k (ints .u8 ((bs.drop at_).take k)) :: l) (s.sup (by (repeat (first | exact Sup.refl | apply Sup.cons (by (repeat (first | exact Pick.head | apply Pick.tail | apply Pick.app))) | apply Sup.app | apply Sup.skip | apply Sup.skips))))) (Pick.tail Pick.head)
theorem u16_spec (b at_ x : Nat) (bs B : List Int) (l : List HProp) (hx : x < 65536) (hd : bs.drop at_ = num2 x ++ B) (h4 : bs.length ≤ 1073741824) :
    Fc prog E 116 [.pointer (some ⟨b, 0, none⟩)].toArray (rdr b bs at_ :: l) (fun v l' => v = .int .u16 (x : Int) ∧ l' = rdr b bs (at_ + 2) :: l) := by
  refine Fc.eqs ?_
  obtain ⟨_, hk, hle⟩ := drop_more hd
  rw [num2_length] at hk hle
  have hle := hle (by rw [← List.length_pos_iff, num2_length]; decide)
  refine Fc.of_body (c := ?codeC) Tryz.func116 ?hb Tryz.ntmps116 ?hl ?_
  case hb => exact rfl
  case hl => exact rfl
  refine J.seq ?_
  refine J.region ?_
  refine JL.step (y_assign rfl) rfl rfl rfl ?_
  refine JL.nil ?_
  refine JE.then_normal ?_
  refine J.seq ?_
  refine J.region ?_
  refine JL.step (y_move rfl) rfl rfl rfl ?_
  refine JL.loud rfl (l_callF e122 rfl rfl (raw_spec E b at_ 2 bs _ hle h4) ?_)
  rintro _ _ ⟨a, c', rfl, rfl⟩
  rw [hk]
  refine JL.fact (fun w s => s.own_at) fun oa => ?_
  have hget : ∀ l, InL l a 2 c' (ints .u8 (num2 x)) → Fc prog E 77 [.slice a 2 c'].toArray l (fun v l' => v = Q (leG (num2 x) 2) ∧ l' = l) := fun l h => by
    have q := octGet64_spec E a c' (num2 x) l (by rwa [num2_length])
    rwa [num2_length] at q
  refine JL.loud rfl (l_callF e77 rfl rfl (hget _ (oa.inl Pick.head)) ?_)
  rintro _ _ ⟨rfl, rfl⟩
  refine JL.step (y_conv (m := (x : Int)) hT rfl rfl rfl rfl (by rw [leG_num2 hx, BitVec.toNat_ofNat, Nat.mod_eq_of_lt (by omega)]; exact wrap_u16 hx)) rfl rfl rfl ?_
  refine JL.step (y_assign rfl) rfl rfl rfl ?_
  refine JL.nil ?_
  refine JE.then_normal ?_
  refine J.ret ?_
  refine JE.ret1 (.inl rfl) rfl rfl (by (first | exact RV.tmp rfl | exact RV.cell1 hT rfl rfl rfl (by (exact Rd1.row (by (repeat (first | exact Pick.head | apply Pick.tail | apply Pick.app))) (by rfl))) | exact RV.cellN hT rfl rfl rfl (by (first | exact RdN.rowAll (by (repeat (first | exact Pick.head | apply Pick.tail | apply Pick.app))) | exact RdN.own (by (repeat (first | exact Pick.head | apply Pick.tail | apply Pick.app))))) (by (first | rfl | assumption | (simp; done) | omega)))) ?_
  exact ⟨rfl, fun w q => q.sup (by (repeat (first | exact Sup.refl | apply Sup.cons (by (repeat (first | exact Pick.head | apply Pick.tail | apply Pick.app))) | apply Sup.app | apply Sup.skip | apply Sup.skips)))⟩
/-- The next text. -/
theorem text_spec (b at_ : Nat) (s : ByteArray) (bs B : List Int) (l : List HProp) (hx : s.size < 65536) (hd : bs.drop at_ = txtB s ++ B) (h4 : bs.length ≤ 1073741824) :
    Fc prog E 117 [.pointer (some ⟨b, 0, none⟩)].toArray (rdr b bs at_ :: l) (fun v l' => v = .string s ∧ l' = rdr b bs (at_ + (2 + s.size)) :: l) := by
  refine Fc.eqs ?_
  have hd2 : bs.drop at_ = num2 s.size ++ (bytesS s ++ B) := by rw [hd, txtB, List.append_assoc]
  obtain ⟨hd3, _, hle⟩ := drop_more hd
  obtain ⟨hd4, _, hle2⟩ := drop_more hd2
  have hle := hle (by rw [← List.length_pos_iff, txtB_length]; omega)
  rw [txtB_length] at hle
  rw [num2_length] at hd4
  have htk : (bs.drop (at_ + 2)).take s.size = bytesS s := by rw [hd4, ← bytesS_length, List.take_left]
  refine Fc.of_body (c := ?codeC) Tryz.func117 ?hb Tryz.ntmps117 ?hl ?_
  case hb => exact rfl
  case hl => exact rfl
  refine J.seq ?_
  refine J.region ?_
  refine JL.step (y_assign rfl) rfl rfl rfl ?_
  refine JL.nil ?_
  refine JE.then_normal ?_
  refine J.seq ?_
  refine J.region ?_
  refine JL.step (y_move rfl) rfl rfl rfl (JL.step (y_move rfl) rfl rfl rfl ?_)
  refine JL.loud rfl (l_callF e116 rfl rfl (u16_spec E b at_ s.size bs _ _ hx hd2 h4) ?_)
  rintro _ _ ⟨rfl, rfl⟩
  refine JL.step (y_conv (m := (s.size : Int)) hT rfl rfl rfl rfl (wrap_i64 (by omega) (by omega))) rfl rfl rfl ?_
  refine JL.loud rfl (l_callF e122 rfl rfl (raw_spec E b (at_ + 2) s.size bs _ (by omega) h4) ?_)
  rintro _ _ ⟨a, c', rfl, rfl⟩
  rw [htk]
  refine JL.fact (fun w s => s.own_at) fun oa => ?_
  refine JL.step (y_convStringL hT rfl rfl rfl rfl rfl rfl rfl (oa.inl Pick.head) (bytesS_length s)) rfl rfl rfl ?_
  refine JL.step (y_assign rfl) rfl rfl rfl ?_
  refine JL.nil ?_
  refine JE.then_normal ?_
  refine J.ret ?_
  refine JE.ret1 (.inl rfl) rfl rfl (by (first | exact RV.tmp rfl | exact RV.cell1 hT rfl rfl rfl (by (exact Rd1.row (by (repeat (first | exact Pick.head | apply Pick.tail | apply Pick.app))) (by rfl))) | exact RV.cellN hT rfl rfl rfl (by (first | exact RdN.rowAll (by (repeat (first | exact Pick.head | apply Pick.tail | apply Pick.app))) | exact RdN.own (by (repeat (first | exact Pick.head | apply Pick.tail | apply Pick.app))))) (by (first | rfl | assumption | (simp; done) | omega)))) ?_
  exact ⟨by rw [strOf_bytesS], fun w q => by rw [show at_ + (2 + s.size) = at_ + 2 + s.size by omega]; exact q.sup (by (repeat (first | exact Sup.refl | apply Sup.cons (by (repeat (first | exact Pick.head | apply Pick.tail | apply Pick.app))) | apply Sup.app | apply Sup.skip | apply Sup.skips)))⟩
theorem rerr_spec (b at_ : Nat) (bs : List Int) (l : List HProp) : Fc prog E 118 [.pointer (some ⟨b, 0, none⟩)].toArray (rdr b bs at_ :: l) (fun v l' => v = .int .i64 0 ∧ l' = rdr b bs at_ :: l) := by
  refine Fc.rdr fun g c => Fc.eqs ?_
  refine Fc.of_body (c := ?codeC) Tryz.func118 ?hb Tryz.ntmps118 ?hl ?_
  case hb => exact rfl
  case hl => exact rfl
  refine J.seq ?_
  refine J.region ?_
  refine JL.step (y_assign rfl) rfl rfl rfl ?_
  refine JL.nil ?_
  refine JE.then_normal ?_
  refine J.seq ?_
  refine J.seq ?_
  refine J.region ?_
  refine JL.step (y_move rfl) rfl rfl rfl (JL.step (y_ptr_eq_nil hT rfl rfl rfl rfl) rfl rfl rfl ?_)
  refine JL.nil ?_
  refine JE.then_normal ?_
  refine J.cond_f rfl (by (first | rfl | assumption | (simp; done) | (simp; omega))) ?_
  refine J.skip ?_
  refine JE.then_normal ?_
  refine J.seq ?_
  refine J.region ?_
  refine JL.step (y_move rfl) rfl rfl rfl ?_
  refine JL.step ((by first | exact y_nilCheck rfl | exact y_nilCheckF rfl | exact y_nilCheckY rfl)) rfl rfl rfl ?_
  refine JL.step (y_fieldAddr hT rfl rfl rfl rfl rfl rfl) rfl rfl rfl (JL.step (y_fieldAddr hT rfl rfl rfl rfl rfl rfl) rfl rfl rfl ?_)
  refine JL.step (y_load1 hT rfl rfl rfl (by (exact Rd1.row (by (repeat (first | exact Pick.head | apply Pick.tail | apply Pick.app))) (by rfl)))) rfl rfl rfl ?_
  refine JL.step (y_assign rfl) rfl rfl rfl ?_
  refine JL.nil ?_
  refine JE.then_normal ?_
  refine J.ret ?_
  refine JE.ret1 (.inl rfl) rfl rfl (by (first | exact RV.tmp rfl | exact RV.cell1 hT rfl rfl rfl (by (exact Rd1.row (by (repeat (first | exact Pick.head | apply Pick.tail | apply Pick.app))) (by rfl))) | exact RV.cellN hT rfl rfl rfl (by (first | exact RdN.rowAll (by (repeat (first | exact Pick.head | apply Pick.tail | apply Pick.app))) | exact RdN.own (by (repeat (first | exact Pick.head | apply Pick.tail | apply Pick.app))))) (by (first | rfl | assumption | (simp; done) | omega)))) ?_
  exact ⟨rfl, fun w q => rdr_shut q⟩
theorem rleft_spec (b at_ : Nat) (bs : List Int) (l : List HProp) (h2 : at_ ≤ bs.length) (h4 : bs.length ≤ 1073741824) : Fc prog E 120 [.pointer (some ⟨b, 0, none⟩)].toArray (rdr b bs at_ :: l) (fun v l' => v = .int .i64 ((bs.length - at_ : Nat) : Int) ∧ l' = rdr b bs at_ :: l) := by
  refine Fc.rdr fun g c => Fc.eqs ?_
  refine Fc.of_body (c := ?codeC) Tryz.func120 ?hb Tryz.ntmps120 ?hl ?_
  case hb => exact rfl
  case hl => exact rfl
  refine J.seq ?_
  refine J.region ?_
  refine JL.step (y_assign rfl) rfl rfl rfl ?_
  refine JL.nil ?_
  refine JE.then_normal ?_
  refine J.seq ?_
  refine J.seq ?_
  refine J.region ?_
  refine JL.step (y_move rfl) rfl rfl rfl (JL.step (y_ptr_eq_nil hT rfl rfl rfl rfl) rfl rfl rfl ?_)
  refine JL.nil ?_
  refine JE.then_normal ?_
  refine J.cond_f rfl (by (first | rfl | assumption | (simp; done) | (simp; omega))) ?_
  refine J.skip ?_
  refine JE.then_normal ?_
  refine J.seq ?_
  refine J.draw _ _ [(0, .q), (1, .q), (2, .q), (3, .q), (4, .q), (5, .q), (6, .q), (7, .q), (8, .q), (9, .q), (10, .q), (11, .q), (12, .q)] mixed (by kernel_rfl) (Split.nil) ?_
  refine JM.quiet rfl rfl rfl rfl (fun m => y_move rfl) ?_
  refine JM.quiet rfl rfl rfl rfl (fun m => (by first | exact y_nilCheck rfl | exact y_nilCheckF rfl | exact y_nilCheckY rfl)) ?_
  refine JM.quiet rfl rfl rfl rfl (fun m => y_fieldAddr hT rfl rfl rfl rfl rfl rfl) ?_
  refine JM.quiet rfl rfl rfl rfl (fun m => y_fieldAddr hT rfl rfl rfl rfl rfl rfl) ?_
  refine JM.quiet rfl rfl rfl rfl (fun m => y_load1 hT rfl rfl rfl (by (exact Rd1.row (Pick.app m (by (repeat (first | exact Pick.head | apply Pick.tail | apply Pick.app)))) (by rfl)))) ?_
  refine JM.quiet rfl rfl rfl rfl (fun m => y_len_slice hT rfl rfl rfl) ?_
  refine JM.quiet rfl rfl rfl rfl (fun m => y_move rfl) ?_
  refine JM.quiet rfl rfl rfl rfl (fun m => (by first | exact y_nilCheck rfl | exact y_nilCheckF rfl | exact y_nilCheckY rfl)) ?_
  refine JM.quiet rfl rfl rfl rfl (fun m => y_fieldAddr hT rfl rfl rfl rfl rfl rfl) ?_
  refine JM.quiet rfl rfl rfl rfl (fun m => y_fieldAddr hT rfl rfl rfl rfl rfl rfl) ?_
  refine JM.quiet rfl rfl rfl rfl (fun m => y_load1 hT rfl rfl rfl (by (exact Rd1.row (Pick.app m (by (repeat (first | exact Pick.head | apply Pick.tail | apply Pick.app)))) (by rfl)))) ?_
  refine JM.quiet rfl rfl rfl rfl (fun m => y_sub (m := ((bs.length - at_ : Nat) : Int)) rfl rfl (by rw [show ((bs.length : Nat) : Int) - (at_ : Int) = ((bs.length - at_ : Nat) : Int) by omega]; exact wrap_i64 (by omega) (by omega))) ?_
  refine JM.quiet rfl rfl rfl rfl (fun m => y_assign rfl) ?_
  refine JM.nil ?_
  refine JE.then_normal ?_
  refine J.ret ?_
  refine JE.ret1 (.inl rfl) rfl rfl (by (first | exact RV.tmp rfl | exact RV.cell1 hT rfl rfl rfl (by (exact Rd1.row (by (repeat (first | exact Pick.head | apply Pick.tail | apply Pick.app))) (by rfl))) | exact RV.cellN hT rfl rfl rfl (by (first | exact RdN.rowAll (by (repeat (first | exact Pick.head | apply Pick.tail | apply Pick.app))) | exact RdN.own (by (repeat (first | exact Pick.head | apply Pick.tail | apply Pick.app))))) (by (first | rfl | assumption | (simp; done) | omega)))) ?_
  exact ⟨rfl, fun w q => rdr_shut q⟩
/-- A reader of bytes that are there. -/
theorem rnew_spec (p : Option Addr) (cap n : Nat) (bs : List Int) (l : List HProp) (hn : bs.length = n) (hin : InL l p n cap (ints .u8 bs)) (h0 : 0 < n) (hb : n ≤ 1073741824) :
    Fc prog E 115 [.slice p n cap].toArray l (fun v l' => ∃ b, v = .pointer (some ⟨b, 0, none⟩) ∧ l' = rdr b bs 0 :: l) := by
  subst hn
  refine Fc.post ((octread_spec E p cap bs l hin h0 hb).mono fun v l' ⟨b, g, c, h1, h2⟩ => ⟨_, fun w s => ?_, b, h1, rfl⟩)
  rw [h2] at s
  exact rdr_shut s
end
end Go.Proofs.YtaopifoidbdniaaGreat
/- A state's bytes. -/
namespace Go.Proofs.YtaopifoidbdniaaGreat
open Go Go.SL
section
def rowB (p : Rw) : List Int := txtB p.1 ++ txtB p.2
def tabB (R : List Rw) : List Int := num2 R.length ++ R.flatMap rowB
def stB (Rs : List (List Rw)) : List Int := Rs.flatMap tabB
/-- Tables that may be. -/
structure ROk (R : List Rw) : Prop where
  srt : Srt R
  few : R.length ≤ 64
  small : ∀ p ∈ R, p.1.size ≤ 64 ∧ p.2.size ≤ 1024
theorem rowB_le {p : Rw} (h : p.1.size ≤ 64 ∧ p.2.size ≤ 1024) : (rowB p).length ≤ 1092 := by
  rw [rowB, List.length_append, txtB_length, txtB_length]; omega
theorem flatMap_le {α β : Type} {f : α → List β} {k : Nat} : ∀ {l : List α}, (∀ x ∈ l, (f x).length ≤ k) → (l.flatMap f).length ≤ l.length * k
  | [], _ => by simp
  | x :: l, h => by
    have h1 := h x (List.mem_cons_self ..)
    have h2 := flatMap_le (l := l) fun y hy => h y (List.mem_cons_of_mem _ hy)
    rw [List.flatMap_cons, List.length_append, List.length_cons, Nat.succ_mul]
    omega
theorem rowsB_le {R : List Rw} (h : ROk R) (i : Nat) : ((R.take i).flatMap rowB).length ≤ 69888 := by
  have h1 := flatMap_le (l := R.take i) (f := rowB) (k := 1092) fun p hp => rowB_le (h.small p (List.mem_of_mem_take hp))
  have h2 : (R.take i).length ≤ 64 := Nat.le_trans (List.length_take_le' ..) h.few
  have h3 : (R.take i).length * 1092 ≤ 64 * 1092 := Nat.mul_le_mul_right _ h2
  omega
theorem tabB_le {R : List Rw} (h : ROk R) : (tabB R).length ≤ 69890 := by
  have h1 := rowsB_le h R.length
  rw [List.take_length] at h1
  rw [tabB, List.length_append, num2_length]; omega
theorem stB_le {Rs : List (List Rw)} (h : ∀ R ∈ Rs, ROk R) (hn : Rs.length ≤ 8) (j : Nat) : (stB (Rs.take j)).length ≤ 559120 := by
  have h1 := flatMap_le (l := Rs.take j) (f := tabB) (k := 69890) fun R hR => tabB_le (h R (List.mem_of_mem_take hR))
  have h2 : (Rs.take j).length ≤ 8 := Nat.le_trans (List.length_take_le' ..) hn
  have h3 : (Rs.take j).length * 69890 ≤ 8 * 69890 := Nat.mul_le_mul_right _ h2
  rw [stB]
  omega
theorem num2_bytes (x : Nat) : Bytes (num2 x) := fun y h => by
  obtain ⟨i, _, rfl⟩ := List.mem_map.1 h
  omega
theorem txtB_bytes (s : ByteArray) : Bytes (txtB s) := fun y h => by
  rcases List.mem_append.1 h with h | h
  · exact num2_bytes _ y h
  · exact bytesS_range _ y h
end
section
attribute [local irreducible] J JL JE JM LS Y Fc RV Code.wp wpList Code.wpIn wpListIn
attribute [local irreducible] Yc ltS
variable (E : World)
theorem fits_spec (rw ky vl : Int) (k v : ByteArray) (hk : k.size ≤ 9000000) (hv : v.size ≤ 9000000) (l : List HProp) :
    Fc prog E 119 [.agg #[.int .i64 rw, .int .i64 ky, .int .i64 vl], .string k, .string v].toArray l (fun u l' => u = .bool (decide (0 < k.size ∧ (k.size : Int) ≤ ky ∧ (v.size : Int) ≤ vl)) ∧ l' = l) := by
  refine Fc.eqs ?_
  refine Fc.of_body (c := ?codeC) Tryz.func119 ?hb Tryz.ntmps119 ?hl ?_
  case hb => exact rfl
  case hl => exact rfl
  refine J.seq ?_
  refine J.region ?_
  refine JL.loud rfl (l_box rfl (by (first | rfl | simp)) rfl (fun b1 => ?_))
  refine JL.step (y_assign rfl) rfl rfl rfl ?_
  refine JL.nil ?_
  refine JE.then_normal ?_
  refine J.seq ?_
  refine J.region ?_
  refine JL.step (y_move rfl) rfl rfl rfl (JL.step (y_len_string hT rfl rfl rfl) rfl rfl rfl (JL.step (y_gtr rfl rfl) rfl rfl rfl (JL.step (y_move rfl) rfl rfl rfl ?_)))
  all_goals (first | (refine JL.gsplit_dec rfl rfl rfl (fun h => ?_) (fun h => ?_) <;> try (first | (exfalso; omega) | exact absurd rfl h)) | (refine JL.gsplit rfl rfl rfl (fun h => ?_) (fun h => ?_) <;> try (first | cases h | (exfalso; simp at h; done))) | skip)
  all_goals (first | refine JL.gskip rfl rfl rfl rfl rfl rfl ?_ | refine JL.gskipU rfl rfl rfl rfl rfl ?_ | refine JL.gstep rfl rfl rfl (y_move rfl) rfl rfl ?_)
  all_goals (first | refine JL.gskip rfl rfl rfl rfl rfl rfl ?_ | refine JL.gskipU rfl rfl rfl rfl rfl ?_ | refine JL.gstep rfl rfl rfl (y_len_string hT rfl rfl rfl) rfl rfl ?_)
  all_goals (first | refine JL.gskip rfl rfl rfl rfl rfl rfl ?_ | refine JL.gskipU rfl rfl rfl rfl rfl ?_ | refine JL.gstep rfl rfl rfl (y_fieldAddr hT rfl rfl rfl rfl rfl rfl) rfl rfl ?_)
  all_goals (first | refine JL.gskip rfl rfl rfl rfl rfl rfl ?_ | refine JL.gskipU rfl rfl rfl rfl rfl ?_ | refine JL.gstep rfl rfl rfl (y_load1 hT rfl rfl rfl (by (exact Rd1.row (by (repeat (first | exact Pick.head | apply Pick.tail | apply Pick.app))) (by rfl)))) rfl rfl ?_)
  all_goals (first | refine JL.gskip rfl rfl rfl rfl rfl rfl ?_ | refine JL.gskipU rfl rfl rfl rfl rfl ?_ | refine JL.gstep rfl rfl rfl (y_leq rfl rfl) rfl rfl ?_)
  all_goals (refine JL.step (y_pick rfl rfl rfl) rfl rfl rfl ?_)
  all_goals (refine JL.step (y_move rfl) rfl rfl rfl ?_)
  all_goals (first | (refine JL.gsplit_dec rfl rfl rfl (fun h => ?_) (fun h => ?_) <;> try (first | (exfalso; omega) | exact absurd rfl h)) | (refine JL.gsplit rfl rfl rfl (fun h => ?_) (fun h => ?_) <;> try (first | cases h | (exfalso; simp at h; done))) | skip)
  all_goals (first | refine JL.gskip rfl rfl rfl rfl rfl rfl ?_ | refine JL.gskipU rfl rfl rfl rfl rfl ?_ | refine JL.gstep rfl rfl rfl (y_move rfl) rfl rfl ?_)
  all_goals (first | refine JL.gskip rfl rfl rfl rfl rfl rfl ?_ | refine JL.gskipU rfl rfl rfl rfl rfl ?_ | refine JL.gstep rfl rfl rfl (y_len_string hT rfl rfl rfl) rfl rfl ?_)
  all_goals (first | refine JL.gskip rfl rfl rfl rfl rfl rfl ?_ | refine JL.gskipU rfl rfl rfl rfl rfl ?_ | refine JL.gstep rfl rfl rfl (y_fieldAddr hT rfl rfl rfl rfl rfl rfl) rfl rfl ?_)
  all_goals (first | refine JL.gskip rfl rfl rfl rfl rfl rfl ?_ | refine JL.gskipU rfl rfl rfl rfl rfl ?_ | refine JL.gstep rfl rfl rfl (y_load1 hT rfl rfl rfl (by (exact Rd1.row (by (repeat (first | exact Pick.head | apply Pick.tail | apply Pick.app))) (by rfl)))) rfl rfl ?_)
  all_goals (first | refine JL.gskip rfl rfl rfl rfl rfl rfl ?_ | refine JL.gskipU rfl rfl rfl rfl rfl ?_ | refine JL.gstep rfl rfl rfl (y_leq rfl rfl) rfl rfl ?_)
  all_goals (refine JL.step (y_pick rfl rfl rfl) rfl rfl rfl ?_)
  all_goals (refine JL.step (y_assign rfl) rfl rfl rfl ?_)
  all_goals refine JL.nil ?_
  all_goals refine JE.then_normal ?_
  all_goals
    refine J.ret ?_
    refine JE.ret1 (.inl rfl) rfl rfl (by (first | exact RV.tmp rfl | exact RV.cell1 hT rfl rfl rfl (by (exact Rd1.row (by (repeat (first | exact Pick.head | apply Pick.tail | apply Pick.app))) (by rfl))) | exact RV.cellN hT rfl rfl rfl (by (first | exact RdN.rowAll (by (repeat (first | exact Pick.head | apply Pick.tail | apply Pick.app))) | exact RdN.own (by (repeat (first | exact Pick.head | apply Pick.tail | apply Pick.app))))) (by (first | rfl | assumption | (simp; done) | omega)))) ?_
    refine ⟨?_, fun w q => q.drop⟩
    refine congrArg Value.bool ?_
    first
      | exact decide_eq_decide.2 (by omega)
      | exact (decide_eq_false (by omega)).symm
end
end Go.Proofs.YtaopifoidbdniaaGreat
