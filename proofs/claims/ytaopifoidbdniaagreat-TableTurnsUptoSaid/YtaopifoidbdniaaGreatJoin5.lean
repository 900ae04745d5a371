import Derived.Test.YtaopifoidbdniaaGreatJoin1
import Derived.Test.YtaopifoidbdniaaGreatJoin2
import Derived.Test.YtaopifoidbdniaaGreatJoin3
namespace Go.Proofs.YtaopifoidbdniaaGreat
section
open Go Go.SL
def leB (n : Nat) (x : BitVec 64) : List Int := (List.range n).map fun i => (((x >>> (8 * i)).toNat % 256 : Nat) : Int)
theorem leB_length (n : Nat) (x : BitVec 64) : (leB n x).length = n := by simp [leB]
theorem leB_next (n : Nat) (x : BitVec 64) : leB (n + 1) x = leB n x ++ [(((x >>> (8 * n)).toNat % 256 : Nat) : Int)] := by simp [leB, List.range_succ]
def leG (bs : List Int) : Nat → BitVec 64
 | 0 => 0#64
 | i + 1 => leG bs i ||| BitVec.ofInt 64 (bs.getD i 0) <<< (8 * i)
attribute [local irreducible] J JL JE JM LS Y Fc RV Code.wp wpList Code.wpIn wpListIn
variable (E : World)
theorem cloneB_spec (p : Option Addr) (cap : Nat) (bs : List Int) (l : List HProp) (hin : InL l p bs.length cap (ints .u8 bs)) (hn : bs.length ≤ 70368744177664) :
 Fc prog E 81 [.slice p bs.length cap].toArray l (fun v l' => ∃ a c, v = .slice a bs.length c ∧ l' = own 5 1 v bs.length (ints .u8 bs) :: l) := by
 refine Wg ?_
 have hbl : (ints .u8 bs).length = bs.length := by simp [ints]
 cases hp : p with
 | none =>
   subst hp
   obtain ⟨hc, hx⟩ := hin.rd.resolve_left (fun ⟨b, o, e, _⟩ => by cases e)
   have h0 : bs.length = 0 := by have := hin.le; omega
   refine Va (c := ?codeC) Tryz.func81 ?hb Tryz.ntmps81 ?hl ?_
   case hb => exact rfl
   case hl => exact rfl
   refine Jh (Je (Jb (Jf rfl) U U U ?_))
   refine Jg (Ja (Jh (Jh (Je (Jb (Jd rfl) U U U (Jb (y_sl_eq_nil hT U U U U) U U U ?_))))))
   refine Jg (Ja ?_)
   refine J.cond_t rfl zbl ?_
   refine Jh (Je (Jb (Jf rfl) U U U ?_))
   refine Jg (Ja (Vn (Vb ?_)))
   refine Vi (.inl rfl) U U zrv ?_
   exact ⟨_, fun w q => by rw [hx, h0]; exact q.own_nil, none, 0, by rw [h0], rfl⟩
 | some a0 =>
   subst hp
   refine Va (c := ?codeC) Tryz.func81 ?hb Tryz.ntmps81 ?hl ?_
   case hb => exact rfl
   case hl => exact rfl
   refine Jh (Je (Jb (Jf rfl) U U U ?_))
   refine Jg (Ja (Jh (Jh (Je (Jb (Jd rfl) U U U (Jb (y_sl_eq_nil hT U U U U) U U U ?_))))))
   refine Jg (Ja ?_)
   refine Vk rfl zbl ?_
   refine Vd (Ja (Jh (Je ?_)))
   refine Jl rfl (l_buildSlice0 hT U U U U (fun b1 => ?_))
   refine Jb (Jd rfl) U U U ?_
   refine Jl rfl (l_appendIn hT U U U U U U U U Jm (hin.cons _) (by rw [hbl, show i5.size = 1 from rfl]; omega) (ints_one _ _) (by rw [show i5.bytes = 1 from rfl]; omega) (by omega) rfl (fun q c hc => ?_))
   refine Jb (Jf rfl) U U U ?_
   refine Jg (Ja (Vn ?_))
   refine Vi (.inl rfl) U U zrv ?_
   exact ⟨_, fun w s => by simp only [Nat.zero_add, List.nil_append] at s ⊢; exact s, q, c, by simp, rfl⟩
theorem octPut_spec (p : Option Addr) (cap : Nat) (bs : List Int) (x : BitVec 64) (n : Nat) (hn8 : n ≤ 8) (l : List HProp) (hin : InL l p bs.length cap (ints .u8 bs)) (hn : bs.length ≤ 1073741824) :
 Fc prog E 168 [.slice p bs.length cap, Q x, .int .i64 (n : Int)].toArray l (fun v l' => ∃ a c, v = .slice a (bs.length + n) c ∧ l' = own 5 1 v (bs.length + n) (ints .u8 (bs ++ leB n x)) :: l) := by
 refine Wg ?_
 refine Va (c := ?codeC) Tryz.func168 ?hb Tryz.ntmps168 ?hl ?_
 case hb => exact rfl
 case hl => exact rfl
 refine Jh (Je (Jb (Jf rfl) U U U ?_))
 refine Jg (Ja (Jh (Je (Jb (Jd rfl) U U U ?_))))
 refine Jl rfl (Jw e81 U U (cloneB_spec E p cap bs _ zinl (by omega)) ?_)
 rintro _ _ ⟨a0, c0, rfl, rfl⟩
 refine Jb (Jf rfl) U U U ?_
 refine Jg (Ja (Jh (Jh (Je (Jb (Jd rfl) U U U (Jb (Jd rfl) U U U ?_))))))
 refine Jg (Ja (Ve ?_))
 refine Wn (α := Nat × Value) (fun s => s.1 ≤ n ∧ ∃ a c, s.2 = .slice a (bs.length + s.1) c) (fun s => [(0, s.2), (1, Q (x >>> (8 * s.1))), (9, .int .i64 n), (10, .int .i64 s.1)]) (fun s => own 5 1 s.2 (bs.length + s.1) (ints .u8 (bs ++ leB s.1 x)) :: l) (fun s => n - s.1) (0, .slice a0 bs.length c0) ⟨by simp, a0, c0, rfl⟩ ⟨U, U, U, U, trivial⟩ (fun w h => by simpa [leB] using h) ?_
 rintro ⟨j, v⟩ ⟨hj, hv⟩
 dsimp only at hj hv ⊢
 refine Jh (Je (Jb (y_lss U U) U U U ?_))
 refine Jg (Ja (Jh ?_))
 first | apply Jx rfl | apply Vo rfl
 case' ht =>
  intro h
  try (first | exact zom | exact zho h | subst h)
  all_goals
   refine Vd ?_
 case' hf =>
  intro h
  try (first | exact zom | exact zho h | subst h)
  all_goals
   refine Wl (Jv (Jv (Vl (Ja (Jh (Je (Jb (Jd rfl) U U U (Jb (Jf rfl) U U U ?_))))))))
   refine Jg (Ja (Vn ?_))
   refine Vi (.inl rfl) U U zrv ?_
   obtain ⟨a, c, rfl⟩ := hv
   obtain rfl : j = n := by omega
   exact ⟨_, fun w q => q, a, c, rfl, rfl⟩
 all_goals refine Ja ?_
 all_goals
  refine Jh (Ve (Jh (Je (Jb (Jd rfl) U U U (Jb (Jd rfl) U U U ?_)))))
  refine Jb ((by first | exact y_convOfQ hT U U U U | exact y_conv hT U U U U zwr)) U U U ?_
  refine Jl rfl (l_buildSliceP hT U U U U U U U zfl rfl (fun b2 => ?_))
  refine Jl rfl (l_append hT U U U U U U U U zpk zrdn zln zoc zab zix rfl (fun ab3 cb3 hb3 => ?_))
  refine Jb (Jf rfl) U U U ?_
  refine Jg (Ja (Je (Jb (Jd rfl) U U U ?_)))
  refine Jb ((by first | exact y_shrQ U U zix zix | exact y_shr U U zix (by rfl))) U U U ?_
  refine Jb (Jf rfl) U U U ?_
  refine Jg (Ju (Ja (Je ?_)))
  refine Jb (Wa U U zwr) U U U ?_
  refine Jb (Jd rfl) U U U ?_
  refine Jg ?_
 all_goals
  refine Vt (s := (j, v)) (j + 1, _) ⟨by dsimp only; omega, _, _, rfl⟩ ⟨rfl, congrArg (fun y => some (Q y)) (by dsimp only; rw [show 8 * (j + 1) = 8 * j + 8 by omega, BitVec.shiftRight_add]; rfl), U, U, trivial⟩ (fun w q => ?_) (by dsimp only; omega)
  have e : ints .u8 (bs ++ leB (j + 1) x) = ints .u8 (bs ++ leB j x) ++ [.int .u8 (((x >>> (8 * j)).toNat % 256 : Nat) : Int)] := by rw [leB_next]; simp [ints]
  dsimp only
  rw [e]
  exact q.sup zsup
theorem octPut64_spec (p : Option Addr) (cap : Nat) (bs : List Int) (x : BitVec 64) (l : List HProp) (hin : InL l p bs.length cap (ints .u8 bs)) (hn : bs.length ≤ 1073741824) :
 Fc prog E 128 [.slice p bs.length cap, Q x].toArray l (fun v l' => ∃ a c, v = .slice a (bs.length + 8) c ∧ l' = own 5 1 v (bs.length + 8) (ints .u8 (bs ++ leB 8 x)) :: l) := by
 refine Va (c := ?codeC) Tryz.func128 ?hb Tryz.ntmps128 ?hl ?_
 case hb => exact rfl
 case hl => exact rfl
 refine Jh (Je (Jb (Jf rfl) U U U ?_))
 refine Jg (Ja (Jh (Je (Jb (Jd rfl) U U U (Jb (Jd rfl) U U U ?_)))))
 refine Jl rfl (Jw e168 U U (octPut_spec E p cap bs x 8 (by omega) _ zinl hn) ?_)
 rintro _ _ ⟨a, c, rfl, rfl⟩
 refine Jb (Jf rfl) U U U ?_
 refine Jg (Ja (Vn ?_))
 refine Vi (.inl rfl) U U zrv ?_
 exact ⟨a, c, rfl, rfl⟩
theorem octPut32_spec (p : Option Addr) (cap : Nat) (bs : List Int) (x : BitVec 32) (l : List HProp) (hin : InL l p bs.length cap (ints .u8 bs)) (hn : bs.length ≤ 1073741824) :
 Fc prog E 152 [.slice p bs.length cap, W x].toArray l (fun v l' => ∃ a c, v = .slice a (bs.length + 4) c ∧ l' = own 5 1 v (bs.length + 4) (ints .u8 (bs ++ leB 4 (BitVec.ofInt 64 (x.toNat : Int)))) :: l) := by
 refine Va (c := ?codeC) Tryz.func152 ?hb Tryz.ntmps152 ?hl ?_
 case hb => exact rfl
 case hl => exact rfl
 refine Jh (Je (Jb (Jf rfl) U U U ?_))
 refine Jg (Ja (Jh (Je (Jb (Jd rfl) U U U (Jb (Jd rfl) U U U ?_)))))
 refine Jb (y_convToQ hT U U U U) U U U ?_
 refine Jl rfl (Jw e168 U U (octPut_spec E p cap bs _ 4 (by omega) _ zinl hn) ?_)
 rintro _ _ ⟨a, c, rfl, rfl⟩
 refine Jb (Jf rfl) U U U ?_
 refine Jg (Ja (Vn ?_))
 refine Vi (.inl rfl) U U zrv ?_
 exact ⟨a, c, rfl, rfl⟩
theorem octGet64_spec (p : Option Addr) (cap : Nat) (bs : List Int) (l : List HProp) (hin : InL l p bs.length cap (ints .u8 bs)) :
 Fc prog E 77 [.slice p bs.length cap].toArray l (fun v l' => v = Q (leG bs (min bs.length 8)) ∧ l' = l) := by
 have hbl : (ints .u8 bs).length = bs.length := by simp [ints]
 have hpp : ∃ b o, p = some ⟨b, o, none⟩ ∨ cap = 0 := by
  rcases hin.rd with ⟨b, o, e, _⟩ | ⟨e, _⟩
  · exact ⟨b, o, .inl e⟩
  · exact ⟨0, 0, .inr e⟩
 obtain ⟨b, o, hpo⟩ := hpp
 obtain ⟨n, hn⟩ : ∃ n, min bs.length 8 = n := ⟨_, rfl⟩
 rw [hn]
 refine Va (c := ?codeC) Tryz.func77 ?hb Tryz.ntmps77 ?hl ?_
 case hb => exact rfl
 case hl => exact rfl
 refine Jh (Je (Jb (Jf rfl) U U U ?_))
 refine Jg (Ja (Jh (Je (Jb (Jf rfl) U U U ?_))))
 refine Jg (Ja (Jh (Jh (Je (Jb (Jd rfl) U U U (Jb (Jd rfl) U U U (Jb (Vf hT U U U) U U U ?_)))))))
 refine Jb (y_min2 (m := (n : Int)) U U (by omega)) U U U ?_
 refine Jb (y_slice (lo := 0) (hi := n) (b := b) (off := o) hT U U U U (.inl ⟨rfl, rfl⟩) (.inr ⟨_, _, _, rfl, rfl, rfl⟩) (by omega) (by have := hin.le; omega) hin.le hpo) U U U ?_
 refine Jb (Vf hT U U U) U U U (Jb (Jd rfl) U U U ?_)
 refine Jg (Ja (Ve ?_))
 refine Wn (α := Nat) (fun j => j ≤ n) (fun j => [(3, Q (leG bs j)), (10, .slice (if cap = 0 then p else some ⟨b, o + 0 * i5.size, none⟩) (n - 0) (cap - 0)), (11, .int .i64 n), (12, .int .i64 j)]) (fun _ => l) (fun j => n - j) 0 (by omega) ⟨U, U, U, U, trivial⟩ (fun w h => h) ?_
 intro j hj
 refine Jh (Je (Jb (y_lss U U) U U U ?_))
 refine Jg (Ja (Jh ?_))
 first | apply Jx rfl | apply Vo rfl
 case' ht =>
  intro h
  try (first | exact zom | exact zho h | subst h)
  all_goals
   refine Vd ?_
 case' hf =>
  intro h
  try (first | exact zom | exact zho h | subst h)
  all_goals
   refine Wl (Jv (Jv (Vl (Ja (Jh (Je (Jb (Jd rfl) U U U (Jb (Jf rfl) U U U ?_))))))))
   refine Jg (Ja (Vn ?_))
   refine Vi (.inl rfl) U U zrv ?_
   obtain rfl : j = n := by omega
   exact ⟨rfl, rfl⟩
 all_goals refine Ja ?_
 all_goals
  refine Jh (Ve (Jh (Je ?_)))
  obtain ⟨g, o', rfl, hr⟩ := hin.addr (by omega)
  have hle := hin.le
  have hr0 : RdN l g o' (ints .u8 bs) := hr []
  have hc0 : ¬ cap = 0 := by omega
  obtain ⟨rfl, rfl⟩ : g = b ∧ o' = o := by
   rcases hpo with h | h
   · simpa using h
   · exact absurd h hc0
  rw [if_neg hc0]
  refine Jb (Jd rfl) U U U ?_
  refine Jb (Jn hT U U U U U zix zix) U U U ?_
  refine Jb (Jo hT U U U (Rd1.bytesAt (j := j) zri (by omega) (by rw [show i5.size = 1 from rfl]; omega))) U U U ?_
  refine Jb (Jf rfl) U U U (Jb (Jf rfl) U U U ?_)
  refine Jg (Ja (Je (Jb (Jd rfl) U U U (Jb (Jd rfl) U U U ?_))))
  refine Jb ((by first | exact y_convToQ hT U U U U | exact y_conv hT U U U U zwr)) U U U ?_
  refine Jb (Jd rfl) U U U ?_
  refine Jb (y_mul U U zwr) U U U ?_
  refine Jb (y_shlQ U U (by omega) (by omega)) U U U ?_
  refine Jb ((by first | exact y_orQ U U | exact y_bits U U (by rfl))) U U U ?_
  refine Jb (Jf rfl) U U U ?_
  refine Jg (Ju (Ja (Je ?_)))
  refine Jb (Wa U U zwr) U U U ?_
  refine Jb (Jd rfl) U U U ?_
  refine Jg ?_
 all_goals
  refine Vt (s := j) (j + 1) (by omega) ⟨?_, by first | rfl | (rw [if_neg hc0]; rfl), U, U, trivial⟩ (fun w h => h) (by omega)
  have e : (8 * (j : Int)).toNat = 8 * j := by omega
  rw [e]
  rfl
end
section
open Go Go.SL
attribute [local irreducible] J JL JE JM LS Y Fc RV Code.wp wpList Code.wpIn wpListIn
variable (E : World)
def rcells (p : Option Addr) (n c at_ : Nat) : List Value := [.slice p n c, .int .i64 (at_ : Int), .int .i64 0]
theorem octTake_spec (b : Nat) (g n c at_ k : Nat) (l : List HProp) (h1 : 1 ≤ k) (h2 : at_ + k ≤ n) (h3 : n ≤ c) (h4 : n ≤ 1152921504606846976) :
 Fc prog E 164 [.pointer (some ⟨b, 0, none⟩), .int .i64 (k : Int)].toArray (row b 257 (rcells (some ⟨g, 0, none⟩) n c at_) :: l) (fun v l' => v = .slice (some ⟨g, at_, none⟩) k (c - at_) ∧ l' = row b 257 (rcells (some ⟨g, 0, none⟩) n c (at_ + k)) :: l) := by
 refine Fc.eqs ?_
 refine Va (c := ?codeC) Tryz.func164 ?hb Tryz.ntmps164 ?hl ?_
 case hb => exact rfl
 case hl => exact rfl
 refine Jh (Je (Jb (Jf rfl) U U U ?_))
 refine Jg (Ja (Jh (Ve (Jh (Je (Jb (Jd rfl) U U U ?_))))))
 refine Jb znc U U U ?_
 refine Jb (Jk hT U U U U U U) U U U ?_
 refine Jb (Jo hT U U U zrd) U U U ?_
 refine Jb (y_neq U U) U U U (Jb (Jf rfl) U U U ?_)
 refine Jg (Ja ?_)
 refine Vk rfl zbl ?_
 refine Jh (Je (Jb (Jd rfl) U U U (Jb (y_lss U U) U U U (Jb (Jf rfl) U U U ?_))))
 refine Jg (Ja ?_)
 refine Vk rfl zbl ?_
 refine Jh ?_
 refine Vz _ _ [(0, .q), (1, .q), (2, .q), (3, .q), (4, .q), (5, .q), (6, .q), (7, .q), (8, .q), (9, .q), (10, .q), (11, .q), (12, .q)] mixed (by kernel_rfl) (Jj) ?_
 refine zqm U U U U U (zqm U U U U U ?_)
 refine Jc U U U U (fun m => znc) ?_
 refine Jc U U U U (fun m => Jk hT U U U U U U) ?_
 refine Jc U U U U (fun m => Jo hT U U U zrda) ?_
 refine Jc U U U U (fun m => Vf hT U U U) (zqm U U U U U ?_)
 refine Jc U U U U (fun m => znc) ?_
 refine Jc U U U U (fun m => Jk hT U U U U U U) ?_
 refine Jc U U U U (fun m => Jo hT U U U zrda) ?_
 refine Jc U U U U (fun m => y_sub U U zwr) ?_
 refine Jc U U U U (fun m => y_gtr U U) (Jc U U U U (fun m => Jf rfl) ?_)
 refine Vv (Ja ?_)
 refine Vk rfl zbl ?_
 refine Vd (Ju (Ja (Jh (Je (Jb (Jd rfl) U U U ?_)))))
 refine Jb znc U U U ?_
 refine Jb (Jk hT U U U U U U) U U U ?_
 refine Jb (Jo hT U U U zrd) U U U ?_
 refine Jb (Jd rfl) U U U ?_
 refine Jb (Wa (m := ((at_ + k : Nat) : Int)) U U (by rw [show ((at_ : Nat) : Int) + ((k : Nat) : Int) = ((at_ + k : Nat) : Int) by omega]; exact Wm (by omega) (by omega))) U U U ?_
 refine Jb znc U U U ?_
 refine Jb (Jk hT U U U U U U) U U U ?_
 refine Jl rfl (Vs hT U U U U U zpk zix ?_)
 refine Jg (Ja (Jh ?_))
 refine Vz _ _ [(0, .q), (1, .q), (2, .q), (3, .q), (4, .q), (5, .q), (6, .q), (7, .q), (8, .q), (9, .q), (10, .q), (11, .q), (12, .q), (13, .q), (14, .q), (15, .q)] mixed (by kernel_rfl) (Jj) ?_
 refine zqm U U U U U ?_
 refine Jc U U U U (fun m => znc) ?_
 refine Jc U U U U (fun m => Jk hT U U U U U U) ?_
 refine Jc U U U U (fun m => Jo hT U U U zrda) ?_
 refine zqm U U U U U ?_
 refine Jc U U U U (fun m => znc) ?_
 refine Jc U U U U (fun m => Jk hT U U U U U U) ?_
 refine Jc U U U U (fun m => Jo hT U U U zrda) ?_
 refine zqm U U U U U ?_
 refine Jc U U U U (fun m => y_sub (m := (at_ : Int)) U U (by rw [show ((at_ + k : Nat) : Int) - ((k : Nat) : Int) = (at_ : Int) by omega]; exact Wm (by omega) (by omega))) ?_
 refine zqm U U U U U ?_
 refine Jc U U U U (fun m => znc) ?_
 refine Jc U U U U (fun m => Jk hT U U U U U U) ?_
 refine Jc U U U U (fun m => Jo hT U U U zrda) ?_
 refine Jc U U U U (fun m => y_slice (lo := at_) (hi := at_ + k) hT U U U U (.inr ⟨_, _, _, rfl, rfl, rfl⟩) (.inr ⟨_, _, _, rfl, rfl, rfl⟩) (by omega) (by omega) h3 (.inl rfl)) ?_
 refine Jc U U U U (fun m => Jf rfl) ?_
 refine Vv (Ja (Vn ?_))
 refine Vi (.inl rfl) U U zrv ?_
 refine ⟨?_, fun w q => q⟩
 rw [if_neg (by omega), show at_ + k - at_ = k by omega, show 0 + at_ * i5.size = at_ by rw [show i5.size = 1 from rfl]; omega]
theorem octRaw_spec (b : Nat) (g c at_ k : Nat) (bs : List Int) (l : List HProp) (h1 : 1 ≤ k) (h2 : at_ + k ≤ bs.length) (h4 : bs.length ≤ 1073741824) :
 Fc prog E 122 [.pointer (some ⟨b, 0, none⟩), .int .i64 (k : Int)].toArray (row b 257 (rcells (some ⟨g, 0, none⟩) bs.length c at_) :: own 5 1 (.slice (some ⟨g, 0, none⟩) bs.length c) bs.length (ints .u8 bs) :: l)
  (fun v l' => ∃ a c', v = .slice a k c' ∧ l' = own 5 1 v k (ints .u8 ((bs.drop at_).take k)) :: row b 257 (rcells (some ⟨g, 0, none⟩) bs.length c (at_ + k)) :: own 5 1 (.slice (some ⟨g, 0, none⟩) bs.length c) bs.length (ints .u8 bs) :: l) := by
 refine Fc.fact (fun w s => Vu (a := some ⟨g, 0, none⟩) (k := bs.length) (s.pick zpk)) fun oa => ?_
 have hk : ((bs.drop at_).take k).length = k := by simp; omega
 have hin : ∀ n', InL (row b 257 (rcells (some ⟨g, 0, none⟩) bs.length c n') :: own 5 1 (.slice (some ⟨g, 0, none⟩) bs.length c) bs.length (ints .u8 bs) :: l) (some ⟨g, at_, none⟩) ((bs.drop at_).take k).length (c - at_) (ints .u8 ((bs.drop at_).take k)) := fun n' => by
  have hi : InL (row b 257 (rcells (some ⟨g, 0, none⟩) bs.length c n') :: own 5 1 (.slice (some ⟨g, 0, none⟩) bs.length c) bs.length (ints .u8 bs) :: l) (some ⟨g, 0, none⟩) bs.length c (ints .u8 bs) := oa.inl zpk
  obtain ⟨b', o', hb, hp⟩ := hi.part (lo := at_) (hi := at_ + k) (k := 1) (by omega) h2 (by simp [ints])
  have hle := oa.le
  rcases hb with hb | hb
  · simp only [Option.some.injEq, Addr.mk.injEq] at hb
    obtain ⟨rfl, rfl, _⟩ := hb
    rw [if_neg (by omega), show at_ + k - at_ = k by omega] at hp
    rw [hk]
    have e : ((ints .u8 bs).drop (at_ * 1)).take (k * 1) = ints .u8 ((bs.drop at_).take k) := by simp [ints]
    rw [e, show 0 + at_ * 1 = at_ by omega] at hp
    exact hp
  · omega
 have hcl : ∀ n', Fc prog E 81 [.slice (some ⟨g, at_, none⟩) k (c - at_)].toArray (row b 257 (rcells (some ⟨g, 0, none⟩) bs.length c n') :: own 5 1 (.slice (some ⟨g, 0, none⟩) bs.length c) bs.length (ints .u8 bs) :: l) (fun v l' => ∃ a c, v = .slice a k c ∧ l' = own 5 1 v k (ints .u8 ((bs.drop at_).take k)) :: row b 257 (rcells (some ⟨g, 0, none⟩) bs.length _ n') :: own 5 1 (.slice (some ⟨g, 0, none⟩) bs.length _) bs.length (ints .u8 bs) :: l) := fun n' => by
  have h := cloneB_spec E (some ⟨g, at_, none⟩) (c - at_) ((bs.drop at_).take k) _ (hin n') (by omega)
  rwa [hk] at h
 have hle := oa.le
 refine Va (c := ?codeC) Tryz.func122 ?hb Tryz.ntmps122 ?hl ?_
 case hb => exact rfl
 case hl => exact rfl
 refine Jh (Je (Jb (Jf rfl) U U U ?_))
 refine Jg (Ja (Jh (Jh (Je (Jb (Jd rfl) U U U (Jb (Wc hT U U U U) U U U ?_))))))
 refine Jg (Ja ?_)
 refine Vk rfl zbl ?_
 refine Vd (Ja (Jh (Je (Jb (Jd rfl) U U U ?_))))
 refine Jb znc U U U ?_
 refine Jb (Jk hT U U U U U U) U U U (Jb (Jd rfl) U U U ?_)
 refine Jl rfl (Jw e164 U U (octTake_spec E b g bs.length c at_ k _ h1 h2 hle (by omega)) ?_)
 rintro _ _ ⟨rfl, rfl⟩
 refine Jl rfl (Jw e81 U U (hcl (at_ + k)) ?_)
 rintro _ _ ⟨a, c', rfl, rfl⟩
 refine Jb (Jf rfl) U U U ?_
 refine Jg (Ja (Vn ?_))
 refine Vi (.inl rfl) U U zrv ?_
 exact ⟨a, c', rfl, rfl⟩
end
section
open Go Go.SL
def unlike (xs ys : List Int) : Nat → BitVec 8
 | 0 => 0#8
 | k + 1 => unlike xs ys k ||| (BitVec.ofInt 8 (xs.getD k 0) ^^^ BitVec.ofInt 8 (ys.getD k 0))
theorem wrap_bv8 (z : BitVec 8) : IntKind.u8.wrap (z.toNat : Int) = (z.toNat : Int) := by
 rw [wrap_u8]
 have := z.isLt
 omega
def Bytes (xs : List Int) : Prop := ∀ x ∈ xs, 0 ≤ x ∧ x ≤ 255
theorem byte_inj {x y : Int} (hx : 0 ≤ x ∧ x ≤ 255) (hy : 0 ≤ y ∧ y ≤ 255) (h : BitVec.ofInt 8 x = BitVec.ofInt 8 y) : x = y := by
 have h1 := congrArg BitVec.toNat h
 rw [BitVec.toNat_ofInt, BitVec.toNat_ofInt] at h1
 omega
theorem Bytes.getD {xs : List Int} (h : Bytes xs) (k : Nat) : 0 ≤ xs.getD k 0 ∧ xs.getD k 0 ≤ 255 := by
 rw [List.getD_eq_getElem?_getD]
 cases e : xs[k]? with
 | none => exact ⟨Int.le_refl 0, by decide⟩
 | some x => exact h x (List.mem_of_getElem? e)
theorem unlike_zero {xs ys : List Int} (hx : Bytes xs) (hy : Bytes ys) : ∀ k, unlike xs ys k = 0#8 ↔ ∀ i, i < k → xs.getD i 0 = ys.getD i 0
 | 0 => by simp [unlike]
 | k + 1 => by
   rw [unlike, BitVec.or_eq_zero_iff, unlike_zero hx hy k, BitVec.xor_eq_zero_iff]
   constructor
   · rintro ⟨h1, h2⟩ i hi
     by_cases h : i = k
     · subst h; exact byte_inj (hx.getD i) (hy.getD i) h2
     · exact h1 i (by omega)
   · exact fun h => ⟨fun i hi => h i (by omega), by rw [h k (by omega)]⟩
theorem unlike_eq {xs ys : List Int} (hx : Bytes xs) (hy : Bytes ys) (hl : xs.length = ys.length) : unlike xs ys xs.length = 0#8 ↔ xs = ys := by
 rw [unlike_zero hx hy]
 constructor
 · intro h
   refine List.ext_getElem hl fun i h1 h2 => ?_
   have := h i h1
   simpa [List.getD_eq_getElem?_getD, h1, h2] using this
 · rintro rfl i _
   rfl
attribute [local irreducible] J JL JE JM LS Y Fc RV Code.wp wpList Code.wpIn wpListIn
variable (E : World)
theorem equal_spec (p q : Option Addr) (c1 c2 : Nat) (xs ys : List Int) (l : List HProp) (hx : Bytes xs) (hy : Bytes ys) (hp : InL l p xs.length c1 (ints .u8 xs)) (hq : InL l q ys.length c2 (ints .u8 ys)) (hb : xs.length ≤ 70368744177664) (hb2 : ys.length ≤ 70368744177664) :
 Fc prog E 19 [.slice p xs.length c1, .slice q ys.length c2].toArray l (fun v l' => v = .bool (decide (xs = ys)) ∧ l' = l) := by
 by_cases hl : xs.length = ys.length
 case neg =>
  have e : decide (xs = ys) = false := by simp; rintro rfl; exact hl rfl
  rw [e]
  refine Va (c := ?codeC) Tryz.func19 ?hb Tryz.ntmps19 ?hl ?_
  case hb => exact rfl
  case hl => exact rfl
  refine Jh (Je (Jb (Jf rfl) U U U ?_))
  refine Jg (Ja (Jh (Jh (Je (Jb (Jd rfl) U U U (Jb (Vf hT U U U) U U U (Jb (Jd rfl) U U U (Jb (Vf hT U U U) U U U (Jb (y_neq U U) U U U ?_)))))))))
  refine Jg (Ja ?_)
  refine J.cond_t rfl zbl ?_
  refine Jh (Je (Jb (Jf rfl) U U U ?_))
  refine Jg (Ja (Vn (Vb ?_)))
  refine Vi (.inl rfl) U U zrv ?_
  exact ⟨rfl, rfl⟩
 obtain ⟨n, hn⟩ : ∃ n, xs.length = n := ⟨_, rfl⟩
 have hn2 : ys.length = n := by omega
 have hxl : (ints .u8 xs).length = n := by simp [ints, hn]
 have hyl : (ints .u8 ys).length = n := by simp [ints, hn2]
 rw [hn] at hp hb
 rw [hn2] at hq
 rw [hn, hn2]
 refine Va (c := ?codeC) Tryz.func19 ?hb Tryz.ntmps19 ?hl ?_
 case hb => exact rfl
 case hl => exact rfl
 refine Jh (Je (Jb (Jf rfl) U U U ?_))
 refine Jg (Ja (Jh (Jh (Je (Jb (Jd rfl) U U U (Jb (Vf hT U U U) U U U (Jb (Jd rfl) U U U (Jb (Vf hT U U U) U U U (Jb (y_neq U U) U U U ?_)))))))))
 refine Jg (Ja ?_)
 refine Vk rfl zbl ?_
 refine Vd (Ja (Jh (Je (Jb (Jf rfl) U U U ?_))))
 refine Jg (Ja (Jh (Jh (Je (Jb (Jd rfl) U U U (Jb (Vf hT U U U) U U U (Jb (Jd rfl) U U U ?_)))))))
 refine Jg (Ja (Ve ?_))
 refine Wn (α := Nat) (fun j => j ≤ n) (fun j => [(0, .slice p n c1), (1, .slice q n c2), (5, .int .u8 ((unlike xs ys j).toNat : Int)), (13, .int .i64 n), (14, .int .i64 j)]) (fun _ => l) (fun j => n - j) 0 (by omega) ⟨U, U, U, U, U, trivial⟩ (fun w h => h) ?_
 intro j hj
 refine Jh (Je (Jb (y_lss U U) U U U ?_))
 refine Jg (Ja (Jh ?_))
 first | apply Jx rfl | apply Vo rfl
 case' ht =>
  intro h
  try (first | exact zom | exact zho h | subst h)
  all_goals
   refine Vd ?_
 case' hf =>
  intro h
  try (first | exact zom | exact zho h | subst h)
  all_goals
   refine Wl (Jv (Jv (Vl (Ja (Jh (Je (Jb (Jd rfl) U U U (Jb (y_eql U U) U U U (Jb (Jf rfl) U U U ?_)))))))))
   refine Jg (Ja (Vn ?_))
   refine Vi (.inl rfl) U U zrv ?_
   obtain rfl : j = n := by omega
   refine ⟨?_, rfl⟩
   congr 1
   rw [decide_eq_decide]
   have := unlike_eq hx hy hl
   rw [hn] at this
   rw [← this]
   constructor
   · intro h
     exact BitVec.eq_of_toNat_eq (by simp; omega)
   · intro h
     rw [h]
     rfl
 all_goals refine Ja ?_
 all_goals
  refine Jh (Ve (Jh (Je (Jb (Jd rfl) U U U (Jb (Jf rfl) U U U ?_)))))
  refine Jg (Ja ?_)
  refine Vz _ _ [(0, .q), (1, .q), (2, .q), (3, .q), (4, .q), (5, .q), (6, .q), (7, .q), (8, .q), (9, .q), (10, .q), (11, .q)] mixed (by kernel_rfl) (Jj) ?_
  have hlt : j < n := by omega
  obtain ⟨g1, o1, rfl, hr1⟩ := hp.addr (by omega)
  obtain ⟨g2, o2, rfl, hr2⟩ := hq.addr (by omega)
  refine zqm U U U U U (zqm U U U U U (zqm U U U U U ?_))
  refine Jc U U U U (fun m => Jn hT U U U U U zix zix) ?_
  refine Jc U U U U (fun m => Jo hT U U U (Rd1.bytesAt (bs := xs) (j := j) (hr1 m) (by omega) (by rw [show i5.size = 1 from rfl]; omega))) ?_
  refine zqm U U U U U (zqm U U U U U ?_)
  refine Jc U U U U (fun m => Jn hT U U U U U zix zix) ?_
  refine Jc U U U U (fun m => Jo hT U U U (Rd1.bytesAt (bs := ys) (j := j) (hr2 m) (by omega) (by rw [show i5.size = 1 from rfl]; omega))) ?_
  refine Jc U U U U (fun m => y_bits (m := ((BitVec.ofInt 8 (xs.getD j 0) ^^^ BitVec.ofInt 8 (ys.getD j 0)).toNat : Int)) U U (by simp only [bitsE]; exact congrArg some (wrap_bv8 _))) ?_
  refine Jc U U U U (fun m => y_bits (m := ((unlike xs ys (j + 1)).toNat : Int)) U U (by
   simp only [bitsE]
   rw [show BitVec.ofInt IntKind.u8.bits ((unlike xs ys j).toNat : Int) = unlike xs ys j from BitVec.eq_of_toNat_eq (by simp [IntKind.bits])]
   rw [show ∀ z : BitVec 8, BitVec.ofInt IntKind.u8.bits (z.toNat : Int) = z from fun z => BitVec.eq_of_toNat_eq (by simp [IntKind.bits])]
   exact congrArg some (wrap_bv8 _))) ?_
  refine Jc U U U U (fun m => Jf rfl) ?_
  refine Vv (Ju (Ja (Je ?_)))
  refine Jb (Wa U U zwr) U U U ?_
  refine Jb (Jd rfl) U U U ?_
  refine Jg ?_
 all_goals
  exact Vt (s := j) (j + 1) (by omega) ⟨U, U, U, U, U, trivial⟩ (fun w q => q) (by omega)
end
section
open Go Go.SL
/-! More on rows of bytes. -/
attribute [local irreducible] J JL JE JM LS Y Fc RV Code.wp wpList Code.wpIn wpListIn
variable (E : World)
theorem zero_spec (p : Option Addr) (c n : Nat) (xs : List Int) (l : List HProp) (hn : xs.length = n) (hx : Bytes xs) (hp : InL l p n c (ints .u8 xs)) (hb : n ≤ 70368744177664) :
 Fc prog E 161 [.slice p n c].toArray l (fun v l' => v = .bool (decide (xs = List.replicate n 0)) ∧ l' = l) := by
 obtain ⟨zs, hz⟩ : ∃ zs, List.replicate n (0 : Int) = zs := ⟨_, rfl⟩
 have hzl : zs.length = n := by rw [← hz, List.length_replicate]
 have hzb : Bytes zs := fun x h => by rw [← hz] at h; rw [List.eq_of_mem_replicate h]; exact ⟨Int.le_refl _, by decide⟩
 have hz0 : ∀ j, zs.getD j 0 = 0 := fun j => by
  rw [← hz, List.getD_eq_getElem?_getD, List.getElem?_replicate]
  split <;> rfl
 rw [hz]
 refine Va (c := ?codeC) Tryz.func161 ?hb Tryz.ntmps161 ?hl ?_
 case hb => exact rfl
 case hl => exact rfl
 refine Jh (Je (Jb (Jf rfl) U U U ?_))
 refine Jg (Ja (Jh (Je (Jb (Jf rfl) U U U ?_))))
 refine Jg (Ja (Jh (Jh (Je (Jb (Jd rfl) U U U (Jb (Vf hT U U U) U U U (Jb (Jd rfl) U U U ?_)))))))
 refine Jg (Ja (Ve ?_))
 refine Wn (α := Nat) (fun j => j ≤ n) (fun j => [(3, .int .u8 ((unlike xs zs j).toNat : Int)), (6, .slice p n c), (7, .int .i64 n), (8, .int .i64 j)]) (fun _ => l) (fun j => n - j) 0 (by omega) ⟨U, U, U, U, trivial⟩ (fun w h => h) ?_
 intro j hj
 refine Jh (Je (Jb (y_lss U U) U U U ?_))
 refine Jg (Ja (Jh ?_))
 first | apply Jx rfl | apply Vo rfl
 case' ht =>
  intro h
  try (first | exact zom | exact zho h | subst h)
  all_goals
   refine Vd ?_
 case' hf =>
  intro h
  try (first | exact zom | exact zho h | subst h)
  all_goals
   refine Wl (Jv (Jv (Vl (Ja (Jh (Je (Jb (Jd rfl) U U U (Jb (y_eql U U) U U U (Jb (Jf rfl) U U U ?_)))))))))
   refine Jg (Ja (Vn ?_))
   refine Vi (.inl rfl) U U zrv ?_
   obtain rfl : j = n := by omega
   refine ⟨?_, rfl⟩
   congr 1
   rw [decide_eq_decide]
   have := unlike_eq hx hzb (hn.trans hzl.symm)
   rw [hn] at this
   rw [← this]
   constructor
   · intro h
     exact BitVec.eq_of_toNat_eq (by simp; omega)
   · intro h
     rw [h]
     rfl
 all_goals refine Ja ?_
 all_goals
  refine Jh (Ve (Jh (Je ?_)))
  have hlt : j < n := by omega
  obtain ⟨g1, o1, rfl, hr1⟩ := hp.addr (by omega)
  refine Jb (Jn hT U U U U U zix zix) U U U ?_
  refine Jb (Jo hT U U U (Rd1.bytesAt (bs := xs) (j := j) (hr1 []) (by omega) (by rw [show i5.size = 1 from rfl]; omega))) U U U ?_
  refine Jb (Jf rfl) U U U ?_
  refine Jg (Ja (Je (Jb (Jd rfl) U U U (Jb (Jd rfl) U U U ?_))))
  refine Jb (y_bits (m := ((unlike xs zs (j + 1)).toNat : Int)) U U (by
   simp only [bitsE]
   rw [show BitVec.ofInt IntKind.u8.bits ((unlike xs zs j).toNat : Int) = unlike xs zs j from BitVec.eq_of_toNat_eq (by simp [IntKind.bits])]
   rw [unlike, hz0, show BitVec.ofInt 8 0 = 0#8 from rfl, BitVec.xor_zero]
   exact congrArg some (wrap_bv8 _))) U U U ?_
  refine Jb (Jf rfl) U U U ?_
  refine Jg (Ju (Ja (Je ?_)))
  refine Jb (Wa U U zwr) U U U ?_
  refine Jb (Jd rfl) U U U ?_
  refine Jg ?_
 all_goals
  exact Vt (s := j) (j + 1) (by omega) ⟨U, U, U, U, trivial⟩ (fun w q => q) (by omega)
theorem clip_spec (p : Option Addr) (n c : Nat) (l : List HProp) (hc : n ≤ c) (hp : (∃ b off, p = some ⟨b, off, none⟩) ∨ c = 0) (_ : c ≤ maxLen) :
 Fc prog E 162 [.slice p n c].toArray l (fun v l' => v = .slice p n n ∧ l' = l) := by
 obtain ⟨b, off, hp2⟩ : ∃ b off, p = some ⟨b, off, none⟩ ∨ c = 0 := by
  rcases hp with ⟨b, off, e⟩ | e
  · exact ⟨b, off, .inl e⟩
  · exact ⟨0, 0, .inr e⟩
 have hpe : (if n = 0 then p else some ⟨b, off + 0 * i5.size, none⟩) = p := by
  split
  · rfl
  · rcases hp2 with e | e
    · rw [e]; simp
    · omega
 refine Va (c := ?codeC) Tryz.func162 ?hb Tryz.ntmps162 ?hl ?_
 case hb => exact rfl
 case hl => exact rfl
 refine Jh (Je (Jb (Jf rfl) U U U ?_))
 refine Jg (Ja (Jh (Je (Jb (Jd rfl) U U U (Jb (Jd rfl) U U U (Jb (Vf hT U U U) U U U (Jb (Jd rfl) U U U (Jb (Vf hT U U U) U U U ?_))))))))
 refine Jb (y_slice3 (b := b) (off := off) (lo := 0) (hi := n) (mx := n) hT U U U U (.inl ⟨rfl, rfl⟩) U U U U (by omega) (by omega) hc hp2) U U U ?_
 rw [hpe]
 refine Jb (Jf rfl) U U U ?_
 refine Jg (Ja (Vn ?_))
 refine Vi (.inl rfl) U U zrv ?_
 exact ⟨rfl, rfl⟩
end
section
open Go.ChangeShapes Go.WideShapes Go.ChangeAt Go.RowKit Go.SL
section
variable {H : Type} {enc : TypeId × Value → H} {w : World} {ok : DataW H → Prop} {L : Nat → Prop}
end
end
end Go.Proofs.YtaopifoidbdniaaGreat
