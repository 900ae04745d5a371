import Derived.Test.YtaopifoidbdniaaGreatJoin2
import Derived.Test.YtaopifoidbdniaaGreatJoin4
import Derived.Test.YtaopifoidbdniaaGreatJoin5
import Derived.Test.YtaopifoidbdniaaGreatJoin7
namespace Go.Proofs.YtaopifoidbdniaaGreat
section
open Go Go.SL
section
def num2 (x : Nat) : List Int := leB 2 (BitVec.ofInt 64 (x : Int))
theorem num2_length (x : Nat) : (num2 x).length = 2 := leB_length ..
def txtB (s : ByteArray) : List Int := num2 s.size ++ bytesS s
theorem txtB_length (s : ByteArray) : (txtB s).length = 2 + s.size := by rw [txtB, List.length_append, num2_length, bytesS_length]
theorem leG_num2 {x : Nat} (h : x < 65536) : leG (num2 x) 2 = BitVec.ofNat 64 x := by
 have e : BitVec.ofInt 64 (x : Int) = BitVec.ofNat 64 x := BitVec.ofInt_natCast ..
 rw [num2, e]
 refine BitVec.eq_of_getLsbD_eq fun j hj => ?_
 rw [leG_leB _ j 2 (Nat.le_refl _)]
 by_cases h1 : j < 16
 · simp [h1]
 · have h2 : (BitVec.ofNat 64 x).getLsbD j = false := by
    rw [BitVec.getLsbD_ofNat, Nat.testBit_lt_two_pow (Nat.lt_of_lt_of_le h (Nat.pow_le_pow_right (n := 2) (by decide) (show 16 ≤ j by omega)))]
    simp
   simp [h1, h2]
theorem wrap_u16 {x : Nat} (h : x < 65536) : IntKind.u16.wrap (x : Int) = (x : Int) := by
 simp [IntKind.wrap, IntKind.bits, IntKind.signed]
 omega
def rdr (b : Nat) (bs : List Int) (at_ : Nat) : HProp := pk fun q : Nat × Nat => [row b 257 (rcells (some ⟨q.1, 0, none⟩) bs.length q.2 at_), own 5 1 (.slice (some ⟨q.1, 0, none⟩) bs.length q.2) bs.length (ints .u8 bs)]
theorem rdr_shut {E w : World} {b g c at_ : Nat} {bs : List Int} {r : List HProp} (s : Sat E (stars (row b 257 (rcells (some ⟨g, 0, none⟩) bs.length c at_) :: own 5 1 (.slice (some ⟨g, 0, none⟩) bs.length c) bs.length (ints .u8 bs) :: r)) w) : Sat E (stars (rdr b bs at_ :: r)) w :=
 Sat.topk (F := fun q : Nat × Nat => [row b 257 (rcells (some ⟨q.1, 0, none⟩) bs.length q.2 at_), own 5 1 (.slice (some ⟨q.1, 0, none⟩) bs.length q.2) bs.length (ints .u8 bs)]) (g, c) s
theorem Fc.rdr {P : Program} {E : World} {l : List HProp} {f : FuncId} {args : Array Value} {R : Value → List HProp → Prop} {b at_ : Nat} {bs : List Int}
 (h : ∀ g c, Fc P E f args (row b 257 (rcells (some ⟨g, 0, none⟩) bs.length c at_) :: own 5 1 (.slice (some ⟨g, 0, none⟩) bs.length c) bs.length (ints .u8 bs) :: l) R) : Fc P E f args (Go.Proofs.YtaopifoidbdniaaGreat.rdr b bs at_ :: l) R := Fc.pks fun q => h q.1 q.2
theorem drop_more {α : Type} {bs A B : List α} {k : Nat} (h : bs.drop k = A ++ B) : bs.drop (k + A.length) = B ∧ (bs.drop k).take A.length = A ∧ (A ≠ [] → k + A.length ≤ bs.length) := by
 refine ⟨by rw [← List.drop_drop, h, List.drop_left], by rw [h, List.take_left], fun hA => ?_⟩
 have hl := congrArg List.length h
 rw [List.length_drop, List.length_append] at hl
 have : 0 < A.length := List.length_pos_iff.2 hA
 omega
end
section
attribute [local irreducible] J JL JE JM LS Y Fc RV Code.wp wpList Code.wpIn wpListIn
attribute [local irreducible] Yc
variable (E : World)
theorem octPut16_spec (p : Option Addr) (cap n : Nat) (bs : List Int) (x : Nat) (l : List HProp) (hn : bs.length = n) (hin : InL l p n cap (ints .u8 bs)) (hb : n ≤ 1073741824) :
 Fc prog E 127 [.slice p n cap, .int .u16 (x : Int)].toArray l (fun v l' => ∃ a c, v = .slice a (n + 2) c ∧ l' = own 5 1 v (n + 2) (ints .u8 (bs ++ num2 x)) :: l) := by
 subst hn
 refine Va (c := ?codeC) Tryz.func127 ?hb Tryz.ntmps127 ?hl ?_
 case hb => exact rfl
 case hl => exact rfl
 refine Jh (Je (Jb (Jf rfl) U U U ?_))
 refine Jg (Ja (Jh (Je (Jb (Jd rfl) U U U (Jb (Jd rfl) U U U ?_)))))
 refine Jb (y_convToQ hT U U U U) U U U ?_
 refine Jl rfl (Jw e168 U U (octPut_spec E p cap bs _ 2 (by omega) _ zinl hb) ?_)
 rintro _ _ ⟨a, c, rfl, rfl⟩
 refine Jb (Jf rfl) U U U ?_
 refine Jg (Ja (Vn ?_))
 refine Vi (.inl rfl) U U zrv ?_
 exact ⟨a, c, rfl, rfl⟩
theorem octRaw0_spec (b g c at_ : Nat) (bs : List Int) (l : List HProp) (h2 : at_ ≤ bs.length) (h3 : bs.length ≤ c) (h4 : bs.length ≤ 1073741824) (_ : c ≤ maxLen) :
 Fc prog E 164 [.pointer (some ⟨b, 0, none⟩), .int .i64 0].toArray (row b 257 (rcells (some ⟨g, 0, none⟩) bs.length c at_) :: l) (fun v l' => v = .slice (some ⟨g, if c = at_ then 0 else at_, none⟩) 0 (c - at_) ∧ l' = row b 257 (rcells (some ⟨g, 0, none⟩) bs.length c at_) :: l) := by
 refine Fc.eqs ?_
 refine Va (c := ?codeC) Tryz.func164 ?hb Tryz.ntmps164 ?hl ?_
 case hb => exact rfl
 case hl => exact rfl
 refine Jh (Je (Jb (Jf rfl) U U U ?_))
 refine Jg (Ja (Jh (Ve (Jh (Je (Jb (Jd rfl) U U U ?_))))))
 refine Jb znc U U U ?_
 refine Jb (Jk hT U U U U U U) U U U ?_
 refine Jb (Jo hT U U U zrd) U U U ?_
 refine Jb (y_neq U U) U U U (Jb (Jf rfl) U U U ?_)
 refine Jg (Ja ?_)
 refine Vk rfl zbl ?_
 refine Jh (Je (Jb (Jd rfl) U U U (Jb (y_lss U U) U U U (Jb (Jf rfl) U U U ?_))))
 refine Jg (Ja ?_)
 refine Vk rfl zbl ?_
 refine Jh ?_
 refine Vz _ _ [(0, .q), (1, .q), (2, .q), (3, .q), (4, .q), (5, .q), (6, .q), (7, .q), (8, .q), (9, .q), (10, .q), (11, .q), (12, .q)] mixed (by kernel_rfl) (Jj) ?_
 refine zqm U U U U U (zqm U U U U U ?_)
 refine Jc U U U U (fun m => znc) ?_
 refine Jc U U U U (fun m => Jk hT U U U U U U) ?_
 refine Jc U U U U (fun m => Jo hT U U U zrda) ?_
 refine Jc U U U U (fun m => Vf hT U U U) (zqm U U U U U ?_)
 refine Jc U U U U (fun m => znc) ?_
 refine Jc U U U U (fun m => Jk hT U U U U U U) ?_
 refine Jc U U U U (fun m => Jo hT U U U zrda) ?_
 refine Jc U U U U (fun m => y_sub U U zwr) ?_
 refine Jc U U U U (fun m => y_gtr U U) (Jc U U U U (fun m => Jf rfl) ?_)
 refine Vv (Ja ?_)
 refine Vk rfl zbl ?_
 refine Vd (Ju (Ja (Jh (Je (Jb (Jd rfl) U U U ?_)))))
 refine Jb znc U U U ?_
 refine Jb (Jk hT U U U U U U) U U U ?_
 refine Jb (Jo hT U U U zrd) U U U ?_
 refine Jb (Jd rfl) U U U ?_
 refine Jb (Wa (m := (at_ : Int)) U U (by rw [show ((at_ : Nat) : Int) + 0 = (at_ : Int) by omega]; exact Wm (by omega) (by omega))) U U U ?_
 refine Jb znc U U U ?_
 refine Jb (Jk hT U U U U U U) U U U ?_
 refine Jl rfl (Vs hT U U U U U zpk zix ?_)
 refine Jg (Ja (Jh ?_))
 refine Vz _ _ [(0, .q), (1, .q), (2, .q), (3, .q), (4, .q), (5, .q), (6, .q), (7, .q), (8, .q), (9, .q), (10, .q), (11, .q), (12, .q), (13, .q), (14, .q), (15, .q)] mixed (by kernel_rfl) (Jj) ?_
 refine zqm U U U U U ?_
 refine Jc U U U U (fun m => znc) ?_
 refine Jc U U U U (fun m => Jk hT U U U U U U) ?_
 refine Jc U U U U (fun m => Jo hT U U U zrda) ?_
 refine zqm U U U U U ?_
 refine Jc U U U U (fun m => znc) ?_
 refine Jc U U U U (fun m => Jk hT U U U U U U) ?_
 refine Jc U U U U (fun m => Jo hT U U U zrda) ?_
 refine zqm U U U U U ?_
 refine Jc U U U U (fun m => y_sub (m := (at_ : Int)) U U (by rw [show ((at_ : Nat) : Int) - 0 = (at_ : Int) by omega]; exact Wm (by omega) (by omega))) ?_
 refine zqm U U U U U ?_
 refine Jc U U U U (fun m => znc) ?_
 refine Jc U U U U (fun m => Jk hT U U U U U U) ?_
 refine Jc U U U U (fun m => Jo hT U U U zrda) ?_
 refine Jc U U U U (fun m => y_slice (lo := at_) (hi := at_) hT U U U U (.inr ⟨_, _, _, rfl, rfl, rfl⟩) (.inr ⟨_, _, _, rfl, rfl, rfl⟩) (by omega) (by omega) h3 (.inl rfl)) ?_
 refine Jc U U U U (fun m => Jf rfl) ?_
 refine Vv (Ja (Vn ?_))
 refine Vi (.inl rfl) U U zrv ?_
 refine ⟨?_, fun w q => q⟩
 rw [Nat.sub_self, show 0 + at_ * i5.size = at_ by rw [show i5.size = 1 from rfl]; omega]
 split <;> rfl
theorem raw_spec (b at_ k : Nat) (bs : List Int) (l : List HProp) (h2 : at_ + k ≤ bs.length) (h4 : bs.length ≤ 1073741824) :
 Fc prog E 122 [.pointer (some ⟨b, 0, none⟩), .int .i64 (k : Int)].toArray (rdr b bs at_ :: l)
  (fun v l' => ∃ a c', v = .slice a k c' ∧ l' = own 5 1 v k (ints .u8 ((bs.drop at_).take k)) :: rdr b bs (at_ + k) :: l) := by
 refine Fc.rdr fun g c => ?_
 by_cases hk : k = 0
 · subst hk
   refine Fc.fact (fun w s => Vu (a := some ⟨g, 0, none⟩) (k := bs.length) (s.pick zpk)) fun oa => ?_
   refine Wg ?_
   refine Va (c := ?codeC) Tryz.func122 ?hb Tryz.ntmps122 ?hl ?_
   case hb => exact rfl
   case hl => exact rfl
   refine Jh (Je (Jb (Jf rfl) U U U ?_))
   refine Jg (Ja (Jh (Jh (Je (Jb (Jd rfl) U U U (Jb (Wc hT U U U U) U U U ?_))))))
   refine Jg (Ja ?_)
   refine Vk rfl zbl ?_
   refine Vd (Ja (Jh (Je (Jb (Jd rfl) U U U ?_))))
   refine Jb znc U U U ?_
   refine Jb (Jk hT U U U U U U) U U U (Jb (Jd rfl) U U U ?_)
   refine Jl rfl (Jw e164 U U (octRaw0_spec E b g c at_ bs _ (by omega) oa.le h4 oa.most) ?_)
   rintro _ _ ⟨rfl, rfl⟩
   refine Jl rfl (Jw e81 U U (cloneB_spec E (some ⟨g, if c = at_ then 0 else at_, none⟩) (c - at_) [] _ ⟨Nat.zero_le _, by have := oa.most; omega, .inl ⟨_, _, rfl, fun m j v h => by simp [ints] at h⟩⟩ (by simp)) ?_)
   rintro _ _ ⟨a, c', rfl, rfl⟩
   refine Jb (Jf rfl) U U U ?_
   refine Jg (Ja (Vn ?_))
   refine Vi (.inl rfl) U U zrv ?_
   exact ⟨_, fun w q => Sat.pick (rdr_shut (r := own 5 1 (.slice a 0 c') 0 (ints .u8 []) :: l) (q.sup zsup)) (Jz Jm), a, c', rfl, by simp⟩
 · refine Wg ((octRaw_spec E b g c at_ k bs l (by omega) h2 h4).mono fun v l' ⟨a, c', h1, h2⟩ => ⟨_, fun w s => ?_, a, c', h1, rfl⟩)
   rw [h2] at s
   exact Sat.pick (rdr_shut (r := own 5 1 v k (ints .u8 ((bs.drop at_).take k)) :: l) (s.sup zsup)) (Jz Jm)
theorem u16_spec (b at_ x : Nat) (bs B : List Int) (l : List HProp) (hx : x < 65536) (hd : bs.drop at_ = num2 x ++ B) (h4 : bs.length ≤ 1073741824) :
 Fc prog E 116 [.pointer (some ⟨b, 0, none⟩)].toArray (rdr b bs at_ :: l) (fun v l' => v = .int .u16 (x : Int) ∧ l' = rdr b bs (at_ + 2) :: l) := by
 refine Fc.eqs ?_
 obtain ⟨_, hk, hle⟩ := drop_more hd
 rw [num2_length] at hk hle
 have hle := hle (by rw [← List.length_pos_iff, num2_length]; decide)
 refine Va (c := ?codeC) Tryz.func116 ?hb Tryz.ntmps116 ?hl ?_
 case hb => exact rfl
 case hl => exact rfl
 refine Jh (Je (Jb (Jf rfl) U U U ?_))
 refine Jg (Ja (Jh (Je (Jb (Jd rfl) U U U ?_))))
 refine Jl rfl (Jw e122 U U (raw_spec E b at_ 2 bs _ hle h4) ?_)
 rintro _ _ ⟨a, c', rfl, rfl⟩
 rw [hk]
 refine JL.fact (fun w s => s.own_at) fun oa => ?_
 have hget : ∀ l, InL l a 2 c' (ints .u8 (num2 x)) → Fc prog E 77 [.slice a 2 c'].toArray l (fun v l' => v = Q (leG (num2 x) 2) ∧ l' = l) := fun l h => by
  have q := octGet64_spec E a c' (num2 x) l (by rwa [num2_length])
  rwa [num2_length] at q
 refine Jl rfl (Jw e77 U U (hget _ (oa.inl Jm)) ?_)
 rintro _ _ ⟨rfl, rfl⟩
 refine Jb (y_conv (m := (x : Int)) hT U U U U (by rw [leG_num2 hx, BitVec.toNat_ofNat, Nat.mod_eq_of_lt (by omega)]; exact wrap_u16 hx)) U U U ?_
 refine Jb (Jf rfl) U U U ?_
 refine Jg (Ja (Vn ?_))
 refine Vi (.inl rfl) U U zrv ?_
 exact ⟨rfl, fun w q => q.sup zsup⟩
theorem text_spec (b at_ : Nat) (s : ByteArray) (bs B : List Int) (l : List HProp) (hx : s.size < 65536) (hd : bs.drop at_ = txtB s ++ B) (h4 : bs.length ≤ 1073741824) :
 Fc prog E 117 [.pointer (some ⟨b, 0, none⟩)].toArray (rdr b bs at_ :: l) (fun v l' => v = .string s ∧ l' = rdr b bs (at_ + (2 + s.size)) :: l) := by
 refine Fc.eqs ?_
 have hd2 : bs.drop at_ = num2 s.size ++ (bytesS s ++ B) := by rw [hd, txtB, List.append_assoc]
 obtain ⟨hd3, _, hle⟩ := drop_more hd
 obtain ⟨hd4, _, hle2⟩ := drop_more hd2
 have hle := hle (by rw [← List.length_pos_iff, txtB_length]; omega)
 rw [txtB_length] at hle
 rw [num2_length] at hd4
 have htk : (bs.drop (at_ + 2)).take s.size = bytesS s := by rw [hd4, ← bytesS_length, List.take_left]
 refine Va (c := ?codeC) Tryz.func117 ?hb Tryz.ntmps117 ?hl ?_
 case hb => exact rfl
 case hl => exact rfl
 refine Jh (Je (Jb (Jf rfl) U U U ?_))
 refine Jg (Ja (Jh (Je (Jb (Jd rfl) U U U (Jb (Jd rfl) U U U ?_)))))
 refine Jl rfl (Jw e116 U U (u16_spec E b at_ s.size bs _ _ hx hd2 h4) ?_)
 rintro _ _ ⟨rfl, rfl⟩
 refine Jb (y_conv (m := (s.size : Int)) hT U U U U (Wm (by omega) (by omega))) U U U ?_
 refine Jl rfl (Jw e122 U U (raw_spec E b (at_ + 2) s.size bs _ (by omega) h4) ?_)
 rintro _ _ ⟨a, c', rfl, rfl⟩
 rw [htk]
 refine JL.fact (fun w s => s.own_at) fun oa => ?_
 refine Jb (y_convStringL hT U U U U U U U (oa.inl Jm) (bytesS_length s)) U U U ?_
 refine Jb (Jf rfl) U U U ?_
 refine Jg (Ja (Vn ?_))
 refine Vi (.inl rfl) U U zrv ?_
 exact ⟨by rw [strOf_bytesS], fun w q => by rw [show at_ + (2 + s.size) = at_ + 2 + s.size by omega]; exact q.sup zsup⟩
theorem rerr_spec (b at_ : Nat) (bs : List Int) (l : List HProp) : Fc prog E 118 [.pointer (some ⟨b, 0, none⟩)].toArray (rdr b bs at_ :: l) (fun v l' => v = .int .i64 0 ∧ l' = rdr b bs at_ :: l) := by
 refine Fc.rdr fun g c => Fc.eqs ?_
 refine Va (c := ?codeC) Tryz.func118 ?hb Tryz.ntmps118 ?hl ?_
 case hb => exact rfl
 case hl => exact rfl
 refine Jh (Je (Jb (Jf rfl) U U U ?_))
 refine Jg (Ja (Jh (Jh (Je (Jb (Jd rfl) U U U (Jb (Wc hT U U U U) U U U ?_))))))
 refine Jg (Ja ?_)
 refine Vk rfl zbl ?_
 refine Vd (Ja (Jh (Je (Jb (Jd rfl) U U U ?_))))
 refine Jb znc U U U ?_
 refine Jb (Jk hT U U U U U U) U U U (Jb (Jk hT U U U U U U) U U U ?_)
 refine Jb (Jo hT U U U zrd) U U U ?_
 refine Jb (Jf rfl) U U U ?_
 refine Jg (Ja (Vn ?_))
 refine Vi (.inl rfl) U U zrv ?_
 exact ⟨rfl, fun w q => rdr_shut q⟩
theorem rleft_spec (b at_ : Nat) (bs : List Int) (l : List HProp) (h2 : at_ ≤ bs.length) (h4 : bs.length ≤ 1073741824) : Fc prog E 120 [.pointer (some ⟨b, 0, none⟩)].toArray (rdr b bs at_ :: l) (fun v l' => v = .int .i64 ((bs.length - at_ : Nat) : Int) ∧ l' = rdr b bs at_ :: l) := by
 refine Fc.rdr fun g c => Fc.eqs ?_
 refine Va (c := ?codeC) Tryz.func120 ?hb Tryz.ntmps120 ?hl ?_
 case hb => exact rfl
 case hl => exact rfl
 refine Jh (Je (Jb (Jf rfl) U U U ?_))
 refine Jg (Ja (Jh (Jh (Je (Jb (Jd rfl) U U U (Jb (Wc hT U U U U) U U U ?_))))))
 refine Jg (Ja ?_)
 refine Vk rfl zbl ?_
 refine Vd (Ja (Jh ?_))
 refine Vz _ _ [(0, .q), (1, .q), (2, .q), (3, .q), (4, .q), (5, .q), (6, .q), (7, .q), (8, .q), (9, .q), (10, .q), (11, .q), (12, .q)] mixed (by kernel_rfl) (Jj) ?_
 refine zqm U U U U U ?_
 refine Jc U U U U (fun m => znc) ?_
 refine Jc U U U U (fun m => Jk hT U U U U U U) (Jc U U U U (fun m => Jk hT U U U U U U) ?_)
 refine Jc U U U U (fun m => Jo hT U U U zrda) ?_
 refine Jc U U U U (fun m => Vf hT U U U) (zqm U U U U U ?_)
 refine Jc U U U U (fun m => znc) ?_
 refine Jc U U U U (fun m => Jk hT U U U U U U) (Jc U U U U (fun m => Jk hT U U U U U U) ?_)
 refine Jc U U U U (fun m => Jo hT U U U zrda) ?_
 refine Jc U U U U (fun m => y_sub (m := ((bs.length - at_ : Nat) : Int)) U U (by rw [show ((bs.length : Nat) : Int) - (at_ : Int) = ((bs.length - at_ : Nat) : Int) by omega]; exact Wm (by omega) (by omega))) ?_
 refine Jc U U U U (fun m => Jf rfl) ?_
 refine Vv (Ja (Vn ?_))
 refine Vi (.inl rfl) U U zrv ?_
 exact ⟨rfl, fun w q => rdr_shut q⟩
theorem rnew_spec (p : Option Addr) (cap n : Nat) (bs : List Int) (l : List HProp) (hn : bs.length = n) (hin : InL l p n cap (ints .u8 bs)) (h0 : 0 < n) (hb : n ≤ 1073741824) :
 Fc prog E 115 [.slice p n cap].toArray l (fun v l' => ∃ b, v = .pointer (some ⟨b, 0, none⟩) ∧ l' = rdr b bs 0 :: l) := by
 subst hn
 refine Wg ((octread_spec E p cap bs l hin h0 hb).mono fun v l' ⟨b, g, c, h1, h2⟩ => ⟨_, fun w s => ?_, b, h1, rfl⟩)
 rw [h2] at s
 exact rdr_shut s
end
end
section
open Go Go.SL
section
def rowB (p : Rw) : List Int := txtB p.1 ++ txtB p.2
def tabB (R : List Rw) : List Int := num2 R.length ++ R.flatMap rowB
def stB (Rs : List (List Rw)) : List Int := Rs.flatMap tabB
structure ROk (R : List Rw) : Prop where
 srt : Srt R
 few : R.length ≤ 64
 small : ∀ p ∈ R, p.1.size ≤ 64 ∧ p.2.size ≤ 1024
theorem rowB_le {p : Rw} (h : p.1.size ≤ 64 ∧ p.2.size ≤ 1024) : (rowB p).length ≤ 1092 := by
 rw [rowB, List.length_append, txtB_length, txtB_length]; omega
theorem flatMap_le {α β : Type} {f : α → List β} {k : Nat} : ∀ {l : List α}, (∀ x ∈ l, (f x).length ≤ k) → (l.flatMap f).length ≤ l.length * k
 | [], _ => by simp
 | x :: l, h => by
   have h1 := h x (List.mem_cons_self ..)
   have h2 := flatMap_le (l := l) fun y hy => h y (List.mem_cons_of_mem _ hy)
   rw [List.flatMap_cons, List.length_append, List.length_cons, Nat.succ_mul]
   omega
theorem rowsB_le {R : List Rw} (h : ROk R) (i : Nat) : ((R.take i).flatMap rowB).length ≤ 69888 := by
 have h1 := flatMap_le (l := R.take i) (f := rowB) (k := 1092) fun p hp => rowB_le (h.small p (List.mem_of_mem_take hp))
 have h2 : (R.take i).length ≤ 64 := Nat.le_trans (List.length_take_le' ..) h.few
 have h3 : (R.take i).length * 1092 ≤ 64 * 1092 := Nat.mul_le_mul_right _ h2
 omega
theorem tabB_le {R : List Rw} (h : ROk R) : (tabB R).length ≤ 69890 := by
 have h1 := rowsB_le h R.length
 rw [List.take_length] at h1
 rw [tabB, List.length_append, num2_length]; omega
theorem stB_le {Rs : List (List Rw)} (h : ∀ R ∈ Rs, ROk R) (hn : Rs.length ≤ 8) (j : Nat) : (stB (Rs.take j)).length ≤ 559120 := by
 have h1 := flatMap_le (l := Rs.take j) (f := tabB) (k := 69890) fun R hR => tabB_le (h R (List.mem_of_mem_take hR))
 have h2 : (Rs.take j).length ≤ 8 := Nat.le_trans (List.length_take_le' ..) hn
 have h3 : (Rs.take j).length * 69890 ≤ 8 * 69890 := Nat.mul_le_mul_right _ h2
 rw [stB]
 omega
theorem num2_bytes (x : Nat) : Bytes (num2 x) := fun y h => by
 obtain ⟨i, _, rfl⟩ := List.mem_map.1 h
 omega
theorem txtB_bytes (s : ByteArray) : Bytes (txtB s) := fun y h => by
 rcases List.mem_append.1 h with h | h
 · exact num2_bytes _ y h
 · exact bytesS_range _ y h
theorem rowB_bytes (p : Rw) : Bytes (rowB p) := fun y h => (List.mem_append.1 h).elim (txtB_bytes _ y) (txtB_bytes _ y)
theorem tabB_bytes (R : List Rw) : Bytes (tabB R) := fun y h => by
 rcases List.mem_append.1 h with h | h
 · exact num2_bytes _ y h
 · obtain ⟨p, _, h⟩ := List.mem_flatMap.1 h
   exact rowB_bytes p y h
theorem stB_bytes (Rs : List (List Rw)) : Bytes (stB Rs) := fun y h => by
 obtain ⟨R, _, h⟩ := List.mem_flatMap.1 h
 exact tabB_bytes R y h
end
section
attribute [local irreducible] J JL JE JM LS Y Fc RV Code.wp wpList Code.wpIn wpListIn
attribute [local irreducible] Yc ltS
variable (E : World)
theorem fits_spec (rw ky vl : Int) (k v : ByteArray) (hk : k.size ≤ 9000000) (_ : v.size ≤ 9000000) (l : List HProp) :
 Fc prog E 119 [.agg #[.int .i64 rw, .int .i64 ky, .int .i64 vl], .string k, .string v].toArray l (fun u l' => u = .bool (decide (0 < k.size ∧ (k.size : Int) ≤ ky ∧ (v.size : Int) ≤ vl)) ∧ l' = l) := by
 refine Fc.eqs ?_
 refine Va (c := ?codeC) Tryz.func119 ?hb Tryz.ntmps119 ?hl ?_
 case hb => exact rfl
 case hl => exact rfl
 refine Jh (Je ?_)
 refine Jl rfl (l_box rfl zcl rfl (fun b1 => ?_))
 refine Jb (Jf rfl) U U U ?_
 refine Jg (Ja (Jh (Je (Jb (Jd rfl) U U U (Jb (y_len_string hT U U U) U U U (Jb (y_gtr U U) U U U (Jb (Jd rfl) U U U ?_)))))))
 all_goals (first | (refine Vh U U U (fun h => ?_) (fun h => ?_) <;> try (first | (exfalso; omega) | exact absurd rfl h)) | (refine Vr U U U (fun h => ?_) (fun h => ?_) <;> try (first | cases h | (exfalso; simp at h; done))) | skip)
 all_goals (first | refine Js U U U U U U ?_ | refine Jp U U U U U ?_ | refine Jt U U U (Jd rfl) U U ?_)
 all_goals (first | refine Js U U U U U U ?_ | refine Jp U U U U U ?_ | refine Jt U U U (y_len_string hT U U U) U U ?_)
 all_goals (first | refine Js U U U U U U ?_ | refine Jp U U U U U ?_ | refine Jt U U U (Jk hT U U U U U U) U U ?_)
 all_goals (first | refine Js U U U U U U ?_ | refine Jp U U U U U ?_ | refine Jt U U U (Jo hT U U U zrd) U U ?_)
 all_goals (first | refine Js U U U U U U ?_ | refine Jp U U U U U ?_ | refine Jt U U U (y_leq U U) U U ?_)
 all_goals (refine Jb (Wb U U U) U U U ?_)
 all_goals (refine Jb (Jd rfl) U U U ?_)
 all_goals (first | (refine Vh U U U (fun h => ?_) (fun h => ?_) <;> try (first | (exfalso; omega) | exact absurd rfl h)) | (refine Vr U U U (fun h => ?_) (fun h => ?_) <;> try (first | cases h | (exfalso; simp at h; done))) | skip)
 all_goals (first | refine Js U U U U U U ?_ | refine Jp U U U U U ?_ | refine Jt U U U (Jd rfl) U U ?_)
 all_goals (first | refine Js U U U U U U ?_ | refine Jp U U U U U ?_ | refine Jt U U U (y_len_string hT U U U) U U ?_)
 all_goals (first | refine Js U U U U U U ?_ | refine Jp U U U U U ?_ | refine Jt U U U (Jk hT U U U U U U) U U ?_)
 all_goals (first | refine Js U U U U U U ?_ | refine Jp U U U U U ?_ | refine Jt U U U (Jo hT U U U zrd) U U ?_)
 all_goals (first | refine Js U U U U U U ?_ | refine Jp U U U U U ?_ | refine Jt U U U (y_leq U U) U U ?_)
 all_goals (refine Jb (Wb U U U) U U U ?_)
 all_goals (refine Jb (Jf rfl) U U U ?_)
 all_goals refine Jg (Ja ?_)
 all_goals
  refine Vn ?_
  refine Vi (.inl rfl) U U zrv ?_
  refine ⟨?_, fun w q => q.drop⟩
  refine congrArg Value.bool ?_
  first
   | exact decide_eq_decide.2 (by omega)
   | exact (decide_eq_false (by omega)).symm
theorem bytes_spec {K : Nat} (hS : SortOk E K) (a : Option Addr) (n c : Nat) (hn : n ≤ 8) (Rs : List (List Rw)) (hR : ∀ R ∈ Rs, ROk R) (hK : ∀ R ∈ Rs, R.length ≤ K) (l : List HProp) :
 Fc prog E 75 [.slice a n c].toArray (stM a n c Rs :: l) (fun v l' => ∃ a' c', v = .slice a' (stB Rs).length c' ∧ l' = own 5 1 v (stB Rs).length (ints .u8 (stB Rs)) :: stM a n c Rs :: l) := by
 refine Wg ?_
 refine Fc.imp (l' := pk (fun bs : List Nat => [pur (bs.length = n ∧ Rs.length = n), own 147 1 (.slice a n c) n (mapsV bs), tabs bs Rs]) :: l) (Fc.pks fun bs => ?_) (fun w s => s)
 refine Fc.fact (fun w s => (Sat.ofpur s).1) fun ⟨hbn, hRn⟩ => Fc.imp (l' := own 147 1 (.slice a n c) n (mapsV bs) :: tabs bs Rs :: l) ?_ (fun w s => (Sat.ofpur s).2)
 refine Va (c := ?codeC) Tryz.func75 ?hb Tryz.ntmps75 ?hl ?_
 case hb => exact rfl
 case hl => exact rfl
 refine Jh (Je (Jb (Jf rfl) U U U ?_))
 refine Jg (Ja (Jh (Je (Jb (Jf rfl) U U U ?_))))
 refine Jg (Ja (Jh (Jh (Je (Jb (Jd rfl) U U U (Jb (Vf hT U U U) U U U (Jb (Jd rfl) U U U ?_)))))))
 refine Jg (Ja (Ve ?_))
 refine J.fact (p := OwnAt a n c (mapsV bs)) (fun w s => Vu (s.pick Jm)) fun op => ?_
 refine Wn (α := Nat × Option Addr × Nat) (fun s => s.1 ≤ n) (fun s => [(3, .slice s.2.1 (stB (Rs.take s.1)).length s.2.2), (8, .slice a n c), (9, .int .i64 n), (10, .int .i64 s.1)]) (fun s => own 5 1 (.slice s.2.1 (stB (Rs.take s.1)).length s.2.2) (stB (Rs.take s.1)).length (ints .u8 (stB (Rs.take s.1))) :: own 147 1 (.slice a n c) n (mapsV bs) :: tabs bs Rs :: l) (fun s => n - s.1) (0, none, 0) (Nat.zero_le _) ⟨U, U, U, U, trivial⟩ (fun w h => Sat.own_nil h) ?_
 rintro ⟨j, qa, qc⟩ hj
 dsimp only at hj ⊢
 refine Jh (Je (Jb (y_lss U U) U U U ?_))
 refine Jg (Ja (Jh ?_))
 first | apply Jx rfl | apply Vo rfl
 case' ht =>
  intro h
  try (first | exact zom | exact zho h | subst h)
  all_goals
   refine Vd ?_
 case' hf =>
  intro h
  try (first | exact zom | exact zho h | subst h)
  all_goals
   refine Wl (Jv (Jv (Vl (Ja (Jh (Je (Jb (Jd rfl) U U U (Jb (Jf rfl) U U U ?_))))))))
   refine Jg (Ja (Vn ?_))
   refine Vi (.inl rfl) U U zrv ?_
   obtain rfl : j = n := by omega
   rw [List.take_of_length_le (by omega)]
   exact ⟨_, fun w q => Sat.pick (stM_shut (r := own 5 1 (.slice qa (stB Rs).length qc) (stB Rs).length (ints .u8 (stB Rs)) :: l) hbn hRn (q.sup zsup)) (Jz Jm), _, _, rfl, rfl⟩
 all_goals refine Ja ?_
 all_goals
  refine Jh (Ve (Jh (Je ?_)))
  have hlt : j < n := by omega
  obtain ⟨b, hb⟩ : ∃ b, bs[j]? = some b := ⟨_, List.getElem?_eq_getElem (by omega)⟩
  obtain ⟨R, hRj⟩ : ∃ R, Rs[j]? = some R := ⟨_, List.getElem?_eq_getElem (by omega)⟩
  have hkj := mapsV_at hb
  have hRok := hR R (List.mem_of_getElem? hRj)
  have hRK := hK R (List.mem_of_getElem? hRj)
  have hfew := hRok.few
  have hob := stB_le hR (by omega) j
  obtain ⟨ga, rfl⟩ := op.at_.resolve_right fun ⟨h0, _⟩ => by have := op.le; omega
  obtain ⟨out, hout⟩ : ∃ out, stB (Rs.take j) = out := ⟨_, rfl⟩
  rw [hout] at hob ⊢
  refine JL.pre (l' := tabA b R :: tabs (bs.eraseIdx j) (Rs.eraseIdx j) :: own 5 1 (.slice qa out.length qc) out.length (ints .u8 out) :: own 147 1 (.slice (some ⟨ga, 0, none⟩) n c) n (mapsV bs) :: l) (fun w s => tabs_take hb hRj (Sat.pick s zpk)) (JL.tabA fun m hm => ?_)
  have hml : (kvT m).length = R.length := by rw [kvT_length, hm.length_eq]
  refine JL.fact (fun w s => Vu (s.pick (A := own 5 1 (.slice qa out.length qc) out.length (ints .u8 out)) zpk)) fun oq => ?_
  refine Jb (Jn hT U U U U U zix zix) U U U ?_
  refine Jb (Jo hT U U U (Rd1.elem (RdN.own zpk) hkj)) U U U ?_
  refine Jb (Jf rfl) U U U ?_
  refine Jg (Ja (Jh (Je (Jb (Jd rfl) U U U (Jb (Jd rfl) U U U ?_)))))
  refine Jb (y_len_map hT U U U zpk) U U U ?_
  rw [hml]
  refine Jb (y_conv (m := (R.length : Int)) hT U U U U (wrap_u16 (by omega))) U U U ?_
  refine Jl rfl (Jw e127 U U (octPut16_spec E qa qc out.length out R.length _ rfl (oq.inl zpk) (by omega)) ?_)
  rintro _ _ ⟨a1, c1, rfl, rfl⟩
  refine Jb (Jf rfl) U U U ?_
  refine Jg (Ja (Jh (Je (Jb (Jd rfl) U U U ?_))))
  refine Jl rfl (Jw e74 U U (mkeysT_spec E _ (.map (some b)) rfl) ?_)
  rintro _ _ ⟨bk, rfl, rfl⟩
  refine Jl rfl (Jw e73 U U (Vw (Ji zpk (Ji zpk Jj)) (sortedT E hS bk b (kvT m) _ (by omega) (by omega))) ?_)
  rintro _ _ ⟨vs, ka, kc, hv1, hv2, rfl, rfl⟩
  obtain rfl : vs = R.map (·.1) := keys_eq (hv1.trans (by rw [kvT_keys]; exact hm.map _)) hv2 hRok.srt
  rw [List.length_map]
  refine Jb (Vf hT U U U) U U U (Jb (Jd rfl) U U U ?_)
  refine Jg (Ja (Ve ?_))
  refine J.fact (p := OwnAt ka R.length kc ((R.map (·.1)).map Value.string)) (fun w s => Vu (s.pick Jm)) fun ok => ?_
  have hl0 : out.length + 2 = (out ++ num2 R.length).length := by rw [List.length_append, num2_length]
  obtain ⟨O, hO⟩ : ∃ O, out ++ num2 R.length = O := ⟨_, rfl⟩
  rw [hl0, hO]
  rw [hO] at hl0
  have e0 : O ++ (R.take 0).flatMap rowB = O := by simp
  refine Wn (α := Nat × Option Addr × Nat) (fun s => s.1 ≤ R.length) (fun s => [(3, .slice s.2.1 (O ++ (R.take s.1).flatMap rowB).length s.2.2), (5, .map (some b)), (8, .slice (some ⟨ga, 0, none⟩) n c), (9, .int .i64 n), (10, .int .i64 j), (21, .slice ka R.length kc), (22, .int .i64 R.length), (23, .int .i64 s.1)]) (fun s => own 5 1 (.slice s.2.1 (O ++ (R.take s.1).flatMap rowB).length s.2.2) (O ++ (R.take s.1).flatMap rowB).length (ints .u8 (O ++ (R.take s.1).flatMap rowB)) :: own 9 1 (.slice ka R.length kc) R.length ((R.map (·.1)).map Value.string) :: mapA Value.string (fun _ => True) b (kvT m) :: tabs (bs.eraseIdx j) (Rs.eraseIdx j) :: own 147 1 (.slice (some ⟨ga, 0, none⟩) n c) n (mapsV bs) :: l) (fun s => R.length - s.1) (0, a1, c1) (Nat.zero_le _) ⟨by dsimp only; rw [e0]; rfl, U, U, U, U, U, U, U, trivial⟩ (fun w h => by dsimp only; rw [e0]; exact Sat.sup h zsup) ?_
  rintro ⟨i, pa, pc⟩ hi
  dsimp only at hi ⊢
  obtain ⟨ob, hob2⟩ : ∃ ob, O ++ (R.take i).flatMap rowB = ob := ⟨_, rfl⟩
  have hobl : ob.length ≤ 629010 := by
   have := rowsB_le hRok i
   rw [← hob2, List.length_append, ← hl0]; omega
  rw [hob2]
  refine Jh (Je (Jb (y_lss U U) U U U ?_))
  refine Jg (Ja (Jh ?_))
  first | apply Jx rfl | apply Vo rfl
  case' ht =>
   intro h
   try (first | exact zom | exact zho h | subst h)
   all_goals
    refine Vd ?_
  case' hf =>
   intro h
   try (first | exact zom | exact zho h | subst h)
   all_goals
    refine Wl (Jv (Jv (Vl (Ju (Ja (Je ?_))))))
    obtain rfl : i = R.length := by omega
    have hnx : stB (Rs.take (j + 1)) = ob := by
     rw [← hob2, ← hO, ← hout, List.take_length, List.take_add_one, hRj]
     simp [stB, tabB]
    refine Jb (Wa U U zwr) U U U ?_
    refine Jb (Jd rfl) U U U ?_
    refine Jg ?_
    refine Vt (s := (j, qa, qc)) (j + 1, pa, pc) (by dsimp only; omega) ⟨by dsimp only; rw [hnx]; rfl, U, U, U, trivial⟩ (fun w q => ?_) (by dsimp only; omega)
    have q1 := tabA_shut hm (q.pick zpk)
    have q2 := tabs_put hb (by omega) (Sat.sup (p := tabA b R :: tabs (bs.eraseIdx j) (Rs.eraseIdx j) :: own 5 1 (.slice pa ob.length pc) ob.length (ints .u8 ob) :: own 147 1 (.slice (some ⟨ga, 0, none⟩) n c) n (mapsV bs) :: l) q1 zsup)
    rw [set_same hRj] at q2
    dsimp only
    rw [hnx]
    exact q2.sup zsup
  all_goals refine Ja ?_
  all_goals
   refine Jh (Ve (Jh (Je ?_)))
   have hilt : i < R.length := by omega
   obtain ⟨⟨k, v⟩, hkv⟩ : ∃ p, R[i]? = some p := ⟨_, List.getElem?_eq_getElem hilt⟩
   have hki : ((R.map (·.1)).map Value.string)[i]? = some (.string k) := by simp [hkv]
   have hsz := hRok.small _ (List.mem_of_getElem? hkv)
   dsimp only at hsz
   have hlk : lookV false (mlook (kvT m) k) (.string ⟨#[]⟩) = .string v := by
    rw [mlook_kvT, rget_perm hm hRok.srt.nodup, rget_at hRok.srt hkv]; rfl
   obtain ⟨gk, rfl⟩ := ok.at_.resolve_right fun ⟨h0, _⟩ => by have := ok.le; omega
   refine JL.fact (fun w s => Vu (s.pick (A := own 5 1 (.slice pa ob.length pc) ob.length (ints .u8 ob)) zpk)) fun oq2 => ?_
   refine Jb (Jn hT U U U U U zix zix) U U U ?_
   refine Jb (Jo hT U U U (Rd1.elem (RdN.own zpk) hki)) U U U ?_
   refine Jb (Jf rfl) U U U ?_
   refine Jg (Ja (Jh (Je (Jb (Jd rfl) U U U (Jb (Jd rfl) U U U (Jb (y_len_string hT U U U) U U U ?_))))))
   refine Jb (y_conv (m := (k.size : Int)) hT U U U U (wrap_u16 (by omega))) U U U ?_
   refine Jl rfl (Jw e127 U U (octPut16_spec E pa pc ob.length ob k.size _ rfl (oq2.inl zpk) (by omega)) ?_)
   rintro _ _ ⟨a2, c2, rfl, rfl⟩
   refine Jb (Jd rfl) U U U ?_
   refine Jl rfl (l_appendStr hT U U U U U U U U U U zpk (by omega) rfl (fun a3 c3 hc3 => ?_))
   refine Jb (Jf rfl) U U U ?_
   refine Jg (Ja ?_)
   refine J.fact (fun w s => Vu (s.pick Jm)) fun oq3 => ?_
   have hi3 : ints .u8 (ob ++ num2 k.size) ++ (bytesS k).map (Value.int .u8) = ints .u8 (ob ++ txtB k) := by simp [ints, txtB]
   have hl3 : (ob ++ txtB k).length = ob.length + 2 + k.size := by rw [List.length_append, txtB_length]; omega
   rw [hi3] at oq3 ⊢
   refine Vz _ _ [(0, .q), (1, .q), (2, .q), (3, .q), (4, .q), (5, .q), (7, .q), (8, .q), (9, .q), (6, .l), (10, .l), (11, .q)] mixed (by kernel_rfl) (Ji (Jm) (Jj)) ?_
   refine zqm U U U U U (zqm U U U U U (zqm U U U U U ?_))
   refine Jc U U U U (fun m => (y_lookup (a := k) hT U U U U (keyStr hT U U) U U U trivial zpk).cast (u := .string v) hlk) ?_
   refine Jc U U U U (fun m => y_len_string hT U U U) ?_
   refine Jc U U U U (fun m => y_conv (m := (v.size : Int)) hT U U U U (wrap_u16 (by omega))) ?_
   refine zqm U U U U U (zqm U U U U U ?_)
   refine Jc U U U U (fun m => (y_lookup (a := k) hT U U U U (keyStr hT U U) U U U trivial zpk).cast (u := .string v) hlk) ?_
   refine Vm U U (fun fr => Jw e127 U U (octPut16_spec E a3 c3 _ (ob ++ txtB k) v.size _ hl3 (oq3.inl zpk) (by omega)) ?_)
   rintro _ _ ⟨a4, c4, rfl, rfl⟩
   refine ⟨[_, _], (by (repeat (first | exact Jj | exact Vc | refine Ji Jm ?_))), ?_⟩
   refine Vm U U (fun fr => l_appendStr hT U U U U U U U U U U zpk (by omega) rfl (fun a5 c5 hc5 => ⟨[_, _], (by (repeat (first | exact Jj | exact Vc | refine Ji Jm ?_))), ?_⟩))
   refine Jc U U U U (fun m => Jf rfl) ?_
   refine Vv (Ju (Ja (Je ?_)))
   refine Jb (Wa U U zwr) U U U ?_
   refine Jb (Jd rfl) U U U ?_
   refine Jg ?_
  all_goals
   have hnx : O ++ (R.take (i + 1)).flatMap rowB = ob ++ rowB (k, v) := by rw [List.take_add_one, hkv, List.flatMap_append, ← List.append_assoc, hob2]; simp
   have hnl : (ob ++ rowB (k, v)).length = ob.length + 2 + k.size + 2 + v.size := by rw [List.length_append, rowB, List.length_append, txtB_length, txtB_length]; dsimp only; omega
   refine Vt (s := (i, pa, pc)) (i + 1, a5, c5) (by dsimp only; omega) ⟨by dsimp only; rw [hnx, hnl]; rfl, U, U, U, U, U, U, U, trivial⟩ (fun w q => ?_) (by dsimp only; omega)
   have e : ints .u8 (ob ++ rowB (k, v)) = ints .u8 (ob ++ txtB k ++ num2 v.size) ++ (bytesS v).map (Value.int .u8) := by simp [ints, rowB, txtB]
   dsimp only
   rw [hnx, hnl, e]
   exact q.sup zsup
end
end
end Go.Proofs.YtaopifoidbdniaaGreat
