import Derived.Test.YtaopifoidbdniaaGreatJoin2
import Derived.Test.YtaopifoidbdniaaGreatJoin3
import Derived.Test.YtaopifoidbdniaaGreatJoin5
import Derived.Test.YtaopifoidbdniaaGreatJoin6
namespace Go.Proofs.YtaopifoidbdniaaGreat
section
open Go Go.SL
attribute [local irreducible] J JL JE JM LS Y Fc RV Code.wp wpList Code.wpIn wpListIn
attribute [local irreducible] Yc
variable (E : World)
theorem octread_spec (p : Option Addr) (cap : Nat) (bs : List Int) (l : List HProp) (hin : InL l p bs.length cap (ints .u8 bs)) (h1 : 1 ≤ bs.length) (hn : bs.length ≤ 1073741824) :
 Fc prog E 115 [.slice p bs.length cap].toArray l (fun v l' => ∃ b g c, v = .pointer (some ⟨b, 0, none⟩) ∧ l' = row b 257 (rcells (some ⟨g, 0, none⟩) bs.length c 0) :: own 5 1 (.slice (some ⟨g, 0, none⟩) bs.length c) bs.length (ints .u8 bs) :: l) := by
 refine Wg ?_
 refine Va (c := ?codeC) Tryz.func115 ?hb Tryz.ntmps115 ?hl ?_
 case hb => exact rfl
 case hl => exact rfl
 refine Jh (Je (Jb (Jf rfl) U U U ?_))
 refine Jg (Ja (Jh (Je (Jb (Jd rfl) U U U ?_))))
 refine Jl rfl (Jw e81 U U (cloneB_spec E p cap bs _ hin (by omega)) ?_)
 rintro _ _ ⟨a, c, rfl, rfl⟩
 refine JL.fact (fun w s => s.own_at) fun oa => ?_
 obtain ⟨g, rfl⟩ := oa.at_.resolve_right (fun ⟨h0, _⟩ => by have := oa.le; omega)
 refine Jb (y_build (cs := [_, _, _]) hT U U U U U U ⟨⟨zln, Nat.le_of_ble_eq_true rfl⟩, trivial⟩ rfl) U U U ?_
 refine Jb (y_build (cs := [_, _, _]) hT U U U U U U ⟨⟨zln, Nat.le_of_ble_eq_true rfl⟩, trivial⟩ rfl) U U U ?_
 refine Jl rfl (l_box rfl zcl rfl (fun b2 => ?_))
 refine Jb (Jf rfl) U U U ?_
 refine Jg (Ja (Vn ?_))
 refine Vi (.inl rfl) U U zrv ?_
 exact ⟨_, fun w q => q, b2, g, c, rfl, rfl⟩
theorem u64_spec (b : Nat) (g c at_ : Nat) (bs : List Int) (l : List HProp) (h2 : at_ + 8 ≤ bs.length) (h4 : bs.length ≤ 1073741824) :
 Fc prog E 158 [.pointer (some ⟨b, 0, none⟩)].toArray (row b 257 (rcells (some ⟨g, 0, none⟩) bs.length c at_) :: own 5 1 (.slice (some ⟨g, 0, none⟩) bs.length c) bs.length (ints .u8 bs) :: l)
  (fun v l' => v = Q (leG ((bs.drop at_).take 8) 8) ∧ l' = row b 257 (rcells (some ⟨g, 0, none⟩) bs.length c (at_ + 8)) :: own 5 1 (.slice (some ⟨g, 0, none⟩) bs.length c) bs.length (ints .u8 bs) :: l) := by
 refine Fc.eqs ?_
 have hk : ((bs.drop at_).take 8).length = 8 := by simp; omega
 refine Va (c := ?codeC) Tryz.func158 ?hb Tryz.ntmps158 ?hl ?_
 case hb => exact rfl
 case hl => exact rfl
 refine Jh (Je (Jb (Jf rfl) U U U ?_))
 refine Jg (Ja (Jh (Je (Jb (Jd rfl) U U U ?_))))
 refine Jl rfl (Jw e122 U U (octRaw_spec E b g c at_ 8 bs _ (by omega) h2 h4) ?_)
 rintro _ _ ⟨a, c', rfl, rfl⟩
 refine JL.fact (fun w s => s.own_at) fun oa => ?_
 have hget : ∀ l, InL l a 8 c' (ints .u8 ((bs.drop at_).take 8)) → Fc prog E 77 [.slice a 8 c'].toArray l (fun v l' => v = Q (leG ((bs.drop at_).take 8) 8) ∧ l' = l) := fun l h => by
  have q := octGet64_spec E a c' ((bs.drop at_).take 8) l (by rwa [hk])
  rwa [hk] at q
 refine Jl rfl (Jw e77 U U (hget _ (oa.inl Jm)) ?_)
 rintro _ _ ⟨rfl, rfl⟩
 refine Jb (Jf rfl) U U U ?_
 refine Jg (Ja (Vn ?_))
 refine Vi (.inl rfl) U U zrv ?_
 exact ⟨rfl, fun w q => q.sup zsup⟩
theorem u32_spec (b : Nat) (g c at_ : Nat) (bs : List Int) (l : List HProp) (h2 : at_ + 4 ≤ bs.length) (h4 : bs.length ≤ 1073741824) :
 Fc prog E 159 [.pointer (some ⟨b, 0, none⟩)].toArray (row b 257 (rcells (some ⟨g, 0, none⟩) bs.length c at_) :: own 5 1 (.slice (some ⟨g, 0, none⟩) bs.length c) bs.length (ints .u8 bs) :: l)
  (fun v l' => v = W (BitVec.ofInt 32 ((leG ((bs.drop at_).take 4) 4).toNat : Int)) ∧ l' = row b 257 (rcells (some ⟨g, 0, none⟩) bs.length c (at_ + 4)) :: own 5 1 (.slice (some ⟨g, 0, none⟩) bs.length c) bs.length (ints .u8 bs) :: l) := by
 refine Fc.eqs ?_
 have hk : ((bs.drop at_).take 4).length = 4 := by simp; omega
 refine Va (c := ?codeC) Tryz.func159 ?hb Tryz.ntmps159 ?hl ?_
 case hb => exact rfl
 case hl => exact rfl
 refine Jh (Je (Jb (Jf rfl) U U U ?_))
 refine Jg (Ja (Jh (Je (Jb (Jd rfl) U U U ?_))))
 refine Jl rfl (Jw e122 U U (octRaw_spec E b g c at_ 4 bs _ (by omega) h2 h4) ?_)
 rintro _ _ ⟨a, c', rfl, rfl⟩
 refine JL.fact (fun w s => s.own_at) fun oa => ?_
 have hget : ∀ l, InL l a 4 c' (ints .u8 ((bs.drop at_).take 4)) → Fc prog E 77 [.slice a 4 c'].toArray l (fun v l' => v = Q (leG ((bs.drop at_).take 4) 4) ∧ l' = l) := fun l h => by
  have q := octGet64_spec E a c' ((bs.drop at_).take 4) l (by rwa [hk])
  rwa [hk] at q
 refine Jl rfl (Jw e77 U U (hget _ (oa.inl Jm)) ?_)
 rintro _ _ ⟨rfl, rfl⟩
 refine Jb (y_convToW hT U U U U) U U U ?_
 refine Jb (Jf rfl) U U U ?_
 refine Jg (Ja (Vn ?_))
 refine Vi (.inl rfl) U U zrv ?_
 exact ⟨rfl, fun w q => q.sup zsup⟩
theorem short_spec (p : Option Addr) (cap : Nat) (bs : List Int) (l : List HProp) (hin : InL l p bs.length cap (ints .u8 bs)) (hn : bs.length ≤ 576460752303423488) :
 Fc prog E 107 [.slice p bs.length cap].toArray l (fun v l' => v = .agg (ints .u8 ((sha bs).take 16)).toArray ∧ l' = l) := by
 refine Fc.eqs ?_
 have hl : (ints .u8 (sha bs)).length = 32 := by rw [ints, List.length_map, sha_length]
 have hl2 : (ints .u8 ((sha bs).take 16)).length = 16 := by rw [ints, List.length_map, List.length_take, sha_length]; rfl
 refine Va (c := ?codeC) Tryz.func107 ?hb Tryz.ntmps107 ?hl ?_
 case hb => exact rfl
 case hl => exact rfl
 refine Jh (Je ?_)
 refine Jl rfl (Wf hT U U zcl rfl (fun br => ?_))
 refine Jg (Ja (Jh (Je (Jb (Jd rfl) U U U ?_))))
 refine Jl rfl (Jw e148 U U (shaSum_spec E p cap bs _ zinl hn) ?_)
 rintro _ _ ⟨rfl, rfl⟩
 refine Jl rfl (Wf hT U U zcl rfl (fun b2 => ?_))
 refine Jl rfl (Vx hT U U U zln zoc zpk zln ?_)
 refine Jg (Ja (Jh (Je ?_)))
 refine Jb (y_slice_arr hT U U U U (.inl ⟨rfl, rfl⟩) (.inr ⟨_, _, _, rfl, rfl, zcl⟩) zix zix) U U U ?_
 refine Jb (y_sliceToArr hT U U U zix) U U U ?_
 refine Jb (We hT U U U (RdN.row (n := 16) (vs := ints .u8 ((sha bs).take 16)) zpk (by simp [ints])) hl2) U U U ?_
 refine Jl rfl (Vx hT U U U zln zoc zpk zln ?_)
 refine Jg (Ja (Vn ?_))
 refine Vi (.inl rfl) U U zrv ?_
 exact ⟨rfl, fun w q => q.sup zsup⟩
theorem superPut_spec (bat bout at_ : Nat) (out xs : List Int) (p : Option Addr) (cap : Nat) (l : List HProp) (hin : InL l p xs.length cap (ints .u8 xs)) (ho : out.length = 64) (ha : at_ < 64) (hx : at_ + xs.length ≤ 64) :
 Fc prog E 151 ([Value.slice p xs.length cap] ++ [Value.pointer (some ⟨bat, 0, none⟩), Value.pointer (some ⟨bout, 0, none⟩)]).toArray (row bat 3 [.int .i64 (at_ : Int)] :: row bout 202 (ints .u8 out) :: l)
  (fun v l' => v = .tuple #[] ∧ l' = row bat 3 [.int .i64 ((at_ + xs.length : Nat) : Int)] :: row bout 202 (ints .u8 (out.take at_ ++ xs ++ out.drop (at_ + xs.length))) :: l) := by
 refine Fc.eqs ?_
 have hol : (ints .u8 out).length = 64 := by simp [ints, ho]
 have hxl : (ints .u8 xs).length = xs.length := by simp [ints]
 refine Va (c := ?codeC) Tryz.func151 ?hb Tryz.ntmps151 ?hl ?_
 case hb => exact rfl
 case hl => exact rfl
 refine J.drawT _ _ [(0, .q), (1, .q), (2, .q), (3, .q), (4, .l), (5, .q)] (fun j => Nat.beq j 6) 1 6 [(6, .l)] mixed (by kernel_rfl) (Ji (Jz Jm) (Jj)) ?_
 refine Jc U U U U (fun m => Jo hT U U U zrda) ?_
 refine Jc U U U U (fun m => Jo hT U U U zrda) ?_
 refine Jc U U U U (fun m => y_slice_arr (lo := at_) (hi := 64) hT U U U U (.inr ⟨_, _, _, rfl, rfl, rfl⟩) (.inl ⟨rfl, rfl⟩) (by omega) (by omega)) ?_
 rw [if_neg (show ¬ 64 = at_ by omega)]
 refine zqm U U U U U ?_
 refine Vm U U (fun fr => l_copy hT U U U U U U zpk zinl hxl (by rw [hol]; show 0 + at_ * 1 + (64 - at_) ≤ 64; omega) (ints_one _ _) rfl ⟨[_], (by (repeat (first | exact Jj | exact Vc | refine Ji Jm ?_))), ?_⟩)
 rw [show min xs.length (64 - at_) = xs.length by omega]
 refine Jc U U U U (fun m => Wa U U zwr) ?_
 refine Vv ?_
 refine JE.tail _ _ (by kernel_rfl) (Ji (Jz Jm) (Jj)) ?_
 refine Vm U U (fun fr => Vs hT U U U U U zpk zix (⟨[_], (by (repeat (first | exact Jj | exact Vc | refine Ji Jm ?_))), ?_⟩))
 refine Vv ?_
 all_goals
  refine JE.ret0 (.inr rfl) U U  ?_
  refine ⟨rfl, fun w q => ?_⟩
  have e1 : (ints .u8 out).take (0 + at_ * i5.size) ++ (ints .u8 xs).take xs.length ++ (ints .u8 out).drop (0 + at_ * i5.size + xs.length) = ints .u8 (out.take at_ ++ xs ++ out.drop (at_ + xs.length)) := by
   rw [show 0 + at_ * i5.size = at_ by rw [show i5.size = 1 from rfl]; omega, List.take_of_length_le (show (ints .u8 xs).length ≤ xs.length by omega)]
   simp [ints]
  rw [← e1, show ((at_ + xs.length : Nat) : Int) = (at_ : Int) + (xs.length : Int) by omega]
  exact q.sup zsup
structure Sb where
 place : Int
 turn : BitVec 64
 size : Int
 hash : List Int
def encS (s : Sb) : List Value := .int .i64 s.place :: Q s.turn :: .int .i64 s.size :: ints .u8 s.hash
def lettersL : List Int := [104, 111, 108, 108, 111, 119, 116, 114, 101, 101]
def sbHead (s : Sb) : List Int := lettersL ++ [s.place % 256, 0] ++ leB 8 s.turn ++ leB 4 (BitVec.ofInt 64 ((BitVec.ofInt 32 s.size).toNat : Int)) ++ s.hash ++ List.replicate 8 0
def sbBlock (s : Sb) : Blk := sbHead s ++ (sha (sbHead s)).take 16
theorem sbHead_length {s : Sb} (h : s.hash.length = 16) : (sbHead s).length = 48 := by simp [sbHead, lettersL, leB_length, h]
theorem sbBlock_length {s : Sb} (h : s.hash.length = 16) : (sbBlock s).length = 64 := by simp [sbBlock, sbHead_length h, sha_length]
def outZ (pre : List Int) : List Int := pre ++ List.replicate (64 - pre.length) 0
theorem outZ_length {pre : List Int} (h : pre.length ≤ 64) : (outZ pre).length = 64 := by simp [outZ]; omega
theorem superPutZ_spec (bat bout : Nat) (pre xs : List Int) (n : Nat) (p : Option Addr) (cap : Nat) (l : List HProp) (hn : xs.length = n) (hin : InL l p n cap (ints .u8 xs)) (ha : pre.length < 64) (hx : pre.length + n ≤ 64) :
 Fc prog E 151 ([Value.slice p n cap] ++ [Value.pointer (some ⟨bat, 0, none⟩), Value.pointer (some ⟨bout, 0, none⟩)]).toArray (row bat 3 [.int .i64 (pre.length : Int)] :: row bout 202 (ints .u8 (outZ pre)) :: l)
  (fun v l' => v = .tuple #[] ∧ l' = row bat 3 [.int .i64 ((pre ++ xs).length : Int)] :: row bout 202 (ints .u8 (outZ (pre ++ xs))) :: l) := by
 subst hn
 have h := superPut_spec E bat bout pre.length (outZ pre) xs p cap l hin (outZ_length (by omega)) ha hx
 have e1 : (outZ pre).take pre.length ++ xs ++ (outZ pre).drop (pre.length + xs.length) = outZ (pre ++ xs) := by
  simp only [outZ, List.take_left', List.length_append]
  rw [List.drop_append, List.drop_of_length_le (by omega), List.drop_replicate]
  simp
  omega
 rwa [e1, ← List.length_append] at h
theorem block_super_spec (s : Sb) (l : List HProp) (hh : s.hash.length = 16) :
 Fc prog E 109 [.agg (encS s).toArray].toArray l (fun v l' => v = .agg (encB (sbBlock s)).toArray ∧ l' = l) := by
 refine Fc.eqs ?_
 have hlen : (encS s).length = 19 := by simp [encS, ints, hh]
 have hnilIn : ∀ l, InL l none 0 0 (ints .u8 []) := fun l => ⟨Nat.le_refl _, Nat.zero_le _, .inr ⟨rfl, rfl⟩⟩
 have hhd := sbHead_length hh
 refine Va (c := ?codeC) Tryz.func109 ?hb Tryz.ntmps109 ?hl ?_
 case hb => exact rfl
 case hl => exact rfl
 refine Jh (Je ?_)
 refine Jl rfl (l_box rfl zcl rfl (fun bs => ?_))
 have hhash : ∀ l', (∃ r, Pick l' (row bs 199 (encS s)) r) → InL l' (some ⟨bs, 0 + 3, none⟩) 16 16 (ints .u8 s.hash) := fun l' ⟨r, hp⟩ => ⟨Nat.le_refl _, by decide, .inl ⟨bs, 3, rfl, fun m => RdN.row (n := 16) (Vp m hp) (by simp [encS, ints, hh, List.take_of_length_le])⟩⟩
 refine Jl rfl (Wf hT U U zcl rfl (fun b1 => ?_))
 refine Jg (Ja (Jh (Je ?_)))
 refine Jl rfl (Wf hT U U zcl rfl (fun bout => ?_))
 refine Jg (Ja (Jh (Je ?_)))
 refine Jl rfl (Wf hT U U zcl rfl (fun bat => ?_))
 refine Jl rfl (Vs hT U U U U U zpk zix ?_)
 refine Jg (Ja (Jh (Je (Jb (y_makeFunc U U) U U U (Jb (Jf rfl) U U U ?_)))))
 refine Jg (Ja (Jh (Je (Jb (Jd rfl) U U U ?_))))
 refine Jl rfl (l_buildSliceP (cs := ints .u8 lettersL) hT U U U U U U U (by kernel_rfl) rfl (fun bl => ?_))
 refine Jl rfl (l_convBytes hT U U U U U zpk rfl ?_)
 refine Jl rfl (l_callV e151 U U U (Vw (Ji (A := row bat 3 [.int .i64 (([] : List Int).length : Int)]) zpk (Ji (A := row bout 202 (ints .u8 (outZ []))) zpk Jj)) (superPutZ_spec E bat bout [] lettersL 10 _ _ _ rfl (InL.ofMrow zpk (by decide)) (by decide) (by decide))) ?_)
 rintro _ _ ⟨rfl, rfl⟩
 refine Jg (Ja (Jh (Je (Jb (Jd rfl) U U U (Jb (Jk hT U U U U U U) U U U ?_)))))
 refine Jb (Jo hT U U U zrd) U U U ?_
 refine Jb (y_conv hT U U U U (wrap_u8 _)) U U U ?_
 refine Jl rfl (l_buildSliceP (cs := ints .u8 [s.place % 256, 0]) hT U U U U U U U (by kernel_rfl) rfl (fun bp => ?_))
 refine Jl rfl (l_callV e151 U U U (Vw (Ji zpk (Ji zpk Jj)) (superPutZ_spec E bat bout lettersL [s.place % 256, 0] 2 _ _ _ rfl (InL.ofRow zpk (by decide)) (by decide) (by decide))) ?_)
 rintro _ _ ⟨rfl, rfl⟩
 refine Jg (Ja (Jh (Je (Jb (Jd rfl) U U U (Jb (Jk hT U U U U U U) U U U ?_)))))
 refine Jb (Jo hT U U U zrd) U U U ?_
 refine Jl rfl (Jw e128 U U (octPut64_spec E none 0 [] s.turn _ (hnilIn _) (by decide)) ?_)
 rintro _ _ ⟨a6, c6, rfl, rfl⟩
 refine JL.fact (fun w q => q.own_at) fun o6 => ?_
 refine Jl rfl (l_callV e151 U U U (Vw (Ji (A := row bat 3 [.int .i64 (((lettersL ++ [s.place % 256, 0]) : List Int).length : Int)]) zpk (Ji (A := row bout 202 (ints .u8 (outZ (lettersL ++ [s.place % 256, 0])))) zpk Jj)) (superPutZ_spec E bat bout (lettersL ++ [s.place % 256, 0]) (leB 8 s.turn) 8 _ _ _ (leB_length _ _) (o6.inl zpk) (by simp [lettersL]) (by simp [lettersL]))) ?_)
 rintro _ _ ⟨rfl, rfl⟩
 refine Jg (Ja (Jh (Je (Jb (Jd rfl) U U U (Jb (Jk hT U U U U U U) U U U ?_)))))
 refine Jb (Jo hT U U U zrd) U U U ?_
 refine Jb (y_convToW hT U U U U) U U U ?_
 refine Jl rfl (Jw e152 U U (octPut32_spec E none 0 [] _ _ (hnilIn _) (by decide)) ?_)
 rintro _ _ ⟨a7, c7, rfl, rfl⟩
 refine JL.fact (fun w q => q.own_at) fun o7 => ?_
 refine Jl rfl (l_callV e151 U U U (Vw (Ji (A := row bat 3 [.int .i64 (((lettersL ++ [s.place % 256, 0] ++ leB 8 s.turn) : List Int).length : Int)]) zpk (Ji (A := row bout 202 (ints .u8 (outZ (lettersL ++ [s.place % 256, 0] ++ leB 8 s.turn)))) zpk Jj)) (superPutZ_spec E bat bout (lettersL ++ [s.place % 256, 0] ++ leB 8 s.turn) (leB 4 (BitVec.ofInt 64 ((BitVec.ofInt 32 s.size).toNat : Int))) 4 _ _ _ (leB_length _ _) (o7.inl zpk) (by simp [lettersL, leB_length]) (by simp [lettersL, leB_length]))) ?_)
 rintro _ _ ⟨rfl, rfl⟩
 refine Jg (Ja (Jh (Je (Jb (Jd rfl) U U U (Jb (Jk hT U U U U U U) U U U ?_)))))
 refine Jb (y_slice_arr hT U U U U (.inl ⟨rfl, rfl⟩) (.inl ⟨rfl, rfl⟩) zix zix) U U U ?_
 refine Jl rfl (l_callV e151 U U U (Vw (Ji (A := row bat 3 [.int .i64 (((lettersL ++ [s.place % 256, 0] ++ leB 8 s.turn ++ leB 4 (BitVec.ofInt 64 ((BitVec.ofInt 32 s.size).toNat : Int))) : List Int).length : Int)]) zpk (Ji (A := row bout 202 (ints .u8 (outZ (lettersL ++ [s.place % 256, 0] ++ leB 8 s.turn ++ leB 4 (BitVec.ofInt 64 ((BitVec.ofInt 32 s.size).toNat : Int)))))) zpk Jj)) (superPutZ_spec E bat bout (lettersL ++ [s.place % 256, 0] ++ leB 8 s.turn ++ leB 4 (BitVec.ofInt 64 ((BitVec.ofInt 32 s.size).toNat : Int))) s.hash 16 _ _ _ hh (hhash _ ⟨_, by (repeat (first | exact Jm | apply Jz | apply Vp))⟩) (by simp [lettersL, leB_length]) (by simp [lettersL, leB_length]))) ?_)
 rintro _ _ ⟨rfl, rfl⟩
 refine Jg (Ja (Jh (Je ?_)))
 refine Jl rfl (Vs hT U U U U U zpk zix ?_)
 refine Jg (Ja (Jh ?_))
 have eo : outZ ((lettersL ++ [s.place % 256, 0] ++ leB 8 s.turn ++ leB 4 (BitVec.ofInt 64 ((BitVec.ofInt 32 s.size).toNat : Int))) ++ s.hash) = outZ (sbHead s) := by simp [outZ, sbHead, lettersL, leB_length, hh]
 rw [eo]
 have hbo : ∀ l', (∃ r, Pick l' (row bout 202 (ints .u8 (outZ (sbHead s)))) r) → InL l' (some ⟨bout, 0, none⟩) 48 64 (ints .u8 (sbHead s)) := fun l' ⟨r, hp⟩ => ⟨by decide, by decide, .inl ⟨bout, 0, rfl, fun m => RdN.row (n := 48) (Vp m hp) (by simp [outZ, ints, hhd])⟩⟩
 have hshort : ∀ l' p cap, InL l' p 48 cap (ints .u8 (sbHead s)) → Fc prog E 107 [.slice p 48 cap].toArray l' (fun v l'' => v = .agg (ints .u8 ((sha (sbHead s)).take 16)).toArray ∧ l'' = l') := fun l' p cap h => by
  have q := short_spec E p cap (sbHead s) l' (by rwa [hhd]) (by omega)
  rwa [hhd] at q
 have hs16 : ((sha (sbHead s)).take 16).length = 16 := by rw [List.length_take, sha_length]; rfl
 have hs16' : (ints .u8 ((sha (sbHead s)).take 16)).length = 16 := by rw [ints, List.length_map, hs16]
 have hput : ∀ l' p cap, InL l' p 16 cap (ints .u8 ((sha (sbHead s)).take 16)) → Fc prog E 151 ([Value.slice p 16 cap] ++ [Value.pointer (some ⟨bat, 0, none⟩), Value.pointer (some ⟨bout, 0, none⟩)]).toArray (row bat 3 [.int .i64 48] :: row bout 202 (ints .u8 (outZ (sbHead s))) :: l')
  (fun v l'' => v = .tuple #[] ∧ l'' = row bat 3 [.int .i64 ((sbBlock s).length : Int)] :: row bout 202 (ints .u8 (outZ (sbBlock s))) :: l') := fun l' p cap h => by
  have q := superPutZ_spec E bat bout (sbHead s) ((sha (sbHead s)).take 16) 16 p cap l' hs16 h (by omega) (by omega)
  rw [hhd] at q
  exact q
 refine Je ?_
 refine Jb (y_slice_arr hT U U U U (.inl ⟨rfl, rfl⟩) (.inr ⟨_, _, _, rfl, rfl, zcl⟩) zix zix) U U U ?_
 refine Jl rfl (Jw e107 U U (hshort _ _ _ (hbo _ ⟨_, by (repeat (first | exact Jm | apply Jz | apply Vp))⟩)) ?_)
 rintro _ _ ⟨rfl, rfl⟩
 refine Jl rfl (Wf hT U U zcl rfl (fun bh => ?_))
 refine Jl rfl (Vx hT U U U zln zoc zpk zln ?_)
 refine Jg (Ja (Jh (Je (Jb (Jd rfl) U U U ?_))))
 refine Jb (y_slice_arr hT U U U U (.inl ⟨rfl, rfl⟩) (.inl ⟨rfl, rfl⟩) zix zix) U U U ?_
 refine Jl rfl (l_callV e151 U U U (Vw (Ji (A := row bat 3 [.int .i64 48]) zpk (Ji (A := row bout 202 (ints .u8 (outZ (sbHead s)))) zpk Jj)) (hput _ _ _ (InL.ofRow zpk (by decide)))) ?_)
 rintro _ _ ⟨rfl, rfl⟩
 refine Jg (Ja (Jh ?_))
 have eb : outZ (sbBlock s) = sbBlock s := by simp [outZ, sbBlock_length hh]
 rw [eb]
 have hbl : (encB (sbBlock s)).length = 64 := (encB_length _).trans (sbBlock_length hh)
 have hbl' : (ints .u8 (sbBlock s)).length = 64 := hbl
 refine Je ?_
 refine Jb (We hT U U U zrdn zln) U U U ?_
 refine Jl rfl (Vx hT U U U zln zoc zpk zln ?_)
 refine Jg (Ja (Vn ?_))
 refine Vi (.inl rfl) U U zrv ?_
 exact ⟨rfl, fun w q => q.sup zsup⟩
end
section
open Go Go.SL
theorem encS_one (s : Sb) : ∀ u ∈ encS s, u.oneCell' = true := by
 intro u hu
 simp only [encS, List.mem_cons] at hu
 rcases hu with rfl | rfl | rfl | h
 · rfl
 · rfl
 · rfl
 · exact ints_one _ _ u h
attribute [local irreducible] J JL JE JM LS Y Fc RV Code.wp wpList Code.wpIn wpListIn
attribute [local irreducible] Yc
variable (E : World)
def sbRead (b : Blk) : Sb := ⟨IntKind.i64.wrap (b.getD 10 0), leG ((b.drop 12).take 8) 8, ((BitVec.ofInt 32 ((leG ((b.drop 20).take 4) 4).toNat : Int)).toNat : Int), (b.drop 24).take 16⟩
def sbOk (b : Blk) : Bool := decide ((sbRead b).place < 2) && decide (sbBlock (sbRead b) = b)
theorem read_super_spec (b : Blk) (l : List HProp) (hb : b.length = 64) :
 Fc prog E 136 [.agg (encB b).toArray].toArray l (fun v l' => v = .tuple #[.agg (encS (sbRead b)).toArray, .bool (sbOk b)] ∧ l' = l) := by
 refine Fc.eqs ?_
 have hbL : (encB b).length = 64 := (encB_length b).trans hb
 obtain ⟨bs, hbs⟩ : ∃ bs, b.drop 10 = bs := ⟨_, rfl⟩
 have hbsl : bs.length = 54 := by rw [← hbs, List.length_drop, hb]
 have hh16 : ((b.drop 24).take 16).length = 16 := by simp [hb]
 have hor : ∀ l' p cap, InL l' p 54 cap (ints .u8 bs) → Fc prog E 115 [.slice p 54 cap].toArray l' (fun v l'' => ∃ br g c, v = .pointer (some ⟨br, 0, none⟩) ∧ l'' = row br 257 (rcells (some ⟨g, 0, none⟩) bs.length c 0) :: own 5 1 (.slice (some ⟨g, 0, none⟩) bs.length c) bs.length (ints .u8 bs) :: l') := fun l' p cap h => by
  have q := octread_spec E p cap bs l' (by rwa [hbsl]) (by omega) (by omega)
  rw [hbsl] at q ⊢
  exact q
 have hob : ∀ bb l', (∃ r, Pick l' (row bb 202 (encB b)) r) → InL l' (some ⟨bb, 0 + 10 * 1, none⟩) 54 54 (ints .u8 bs) := fun bb l' ⟨r, hp⟩ => ⟨Nat.le_refl _, by decide, .inl ⟨bb, 10, rfl, fun m => RdN.row (n := 54) (Vp m hp) (by
  have e : (encB b).drop 10 = ints .u8 bs := by rw [← hbs]; simp [encB, ints]
  rw [e, List.take_of_length_le (by simp [ints, hbsl])])⟩⟩
 refine Va (c := ?codeC) Tryz.func136 ?hb Tryz.ntmps136 ?hl ?_
 case hb => exact rfl
 case hl => exact rfl
 refine Jh (Je ?_)
 refine Jl rfl (l_box rfl zcl rfl (fun bb => ?_))
 refine Jl rfl (Wf hT U U zcl rfl (fun b1 => ?_))
 refine Jb (Jf rfl) U U U ?_
 refine Jg (Ja (Jh (Je ?_)))
 refine Jb (y_slice_arr hT U U U U (.inr ⟨_, _, _, rfl, rfl, zcl⟩) (.inl ⟨rfl, rfl⟩) zix zix) U U U ?_
 refine Jl rfl (Jw e115 U U (hor _ _ _ (hob bb _ ⟨_, by (repeat (first | exact Jm | apply Jz | apply Vp))⟩)) ?_)
 rintro _ _ ⟨br, g, c, rfl, rfl⟩
 refine Jb (Jf rfl) U U U ?_
 refine Jg (Ja (Jh (Je (Jb (Jd rfl) U U U ?_))))
 refine Jl rfl (Jw e122 U U (octRaw_spec E br g c 0 2 bs _ (by omega) (by omega) (by omega)) ?_)
 rintro _ _ ⟨a5, c5, rfl, rfl⟩
 refine Jb (Jf rfl) U U U ?_
 refine Jg (Ja (Jh ?_))
 refine J.fact (fun w s => Vu (a := a5) (k := 2) (s.pick zpk)) fun o5 => ?_
 obtain ⟨g5, rfl⟩ := o5.at_.resolve_right (fun ⟨h0, _⟩ => by have := o5.le; omega)
 refine Vz _ _ [(0, .q), (1, .q), (2, .q), (3, .q), (4, .q), (6, .q), (5, .l), (7, .l), (8, .q), (9, .q), (10, .n), (11, .l)] mixed (by kernel_rfl) (Ji (Jz Jm) (Ji (Jz Jm) (Jj))) ?_
 refine zqm U U U U U ?_
 refine Jc U U U U (fun m => Jn hT U U U U U zix zix) ?_
 refine Jc U U U U (fun m => Jo hT U U U (Rd1.bytesAt (j := 0) (RdN.own (Vp m zpk)) (by simp [hbsl]) rfl)) ?_
 refine Jc U U U U (fun m => y_conv hT U U U U zwr) ?_
 refine zqm U U U U U (zqm U U U U U ?_)
 refine Vm U U (fun fr => Jw e158 U U (Vw (Ji zpk (Ji zpk Jj)) (u64_spec E br g c 2 bs _ (by omega) (by omega))) ?_)
 rintro _ _ ⟨rfl, rfl⟩
 refine ⟨[_, _], (by (repeat (first | exact Jj | exact Vc | refine Ji Jm ?_))), ?_⟩
 refine Vm U U (fun fr => Jw e159 U U (Vw (Ji zpk (Ji zpk Jj)) (u32_spec E br g c 10 bs _ (by omega) (by omega))) ?_)
 rintro _ _ ⟨rfl, rfl⟩
 refine ⟨[_, _], (by (repeat (first | exact Jj | exact Vc | refine Ji Jm ?_))), ?_⟩
 refine Jc U U U U (fun m => y_conv hT U U U U (Wm (by omega) (by have := (BitVec.ofInt 32 ((leG ((bs.drop 10).take 4) 4).toNat : Int)).isLt; omega))) ?_
 refine Jc U U U U (fun m => y_build (cs := [_, _, _, _, _, _, _, _, _, _, _, _, _, _, _, _, _, _, _]) hT U U U U U U ⟨⟨zln, Nat.le_of_ble_eq_true rfl⟩, ⟨⟨zln, Nat.le_of_ble_eq_true rfl⟩, ⟨⟨zln, Nat.le_of_ble_eq_true rfl⟩, trivial⟩⟩⟩ rfl) ?_
 refine JM.lay U U U U (fun a hf => lays_alloc hT U U zcl) (fun b6 => ?_)
 refine Vm U U (fun fr => Vx hT U U U zln zoc zpk zln (⟨[_, _, _], (by (repeat (first | exact Jj | exact Vc | refine Ji Jm ?_))), ?_⟩))
 refine Vv (Ja (Jh ?_))
 refine Vz _ _ [(0, .q), (1, .q), (2, .q), (3, .l), (4, .l)] mixed (by kernel_rfl) (Ji (Jm) (Ji (Jm) (Ji (Jm) (Jj)))) ?_
 refine Jc U U U U (fun m => Jk hT U U U U U U) ?_
 refine Jc U U U U (fun m => y_slice_arr hT U U U U (.inl ⟨rfl, rfl⟩) (.inl ⟨rfl, rfl⟩) zix zix) ?_
 refine zqm U U U U U ?_
 refine Vm U U (fun fr => Jw e122 U U (Vw (Ji zpk (Ji zpk Jj)) (octRaw_spec E br g c 14 16 bs _ (by omega) (by omega) (by omega))) ?_)
 rintro _ _ ⟨a6, c6, rfl, rfl⟩
 refine ⟨[_, _, _, _], (by (repeat (first | exact Jj | exact Vc | refine Ji Jm ?_))), ?_⟩
 refine Vm U U (fun fr => LS.fact (fun w s => Vu (a := a6) (k := 16) (s.pick zpk)) fun o6 => l_copy (sLen := 16) (dLen := 16) (off := 3) hT U U U U U U zpk (o6.inl zpk) (by simp [ints, hbsl]) (Nat.le_of_ble_eq_true rfl) (ints_one _ _) rfl ⟨[_, _, _, _], (by (repeat (first | exact Jj | exact Vc | refine Ji Jm ?_))), ?_⟩)
 refine Vv (Ja (Jh ?_))
 have hpl : ((bs.drop 0).take 2).getD 0 0 = b.getD 10 0 := by rw [← hbs]; simp [List.getD_eq_getElem?_getD, hb]
 have htu : bs.drop 2 = b.drop 12 := by rw [← hbs, List.drop_drop]
 have hsz : bs.drop 10 = b.drop 20 := by rw [← hbs, List.drop_drop]
 have hha : bs.drop 14 = b.drop 24 := by rw [← hbs, List.drop_drop]
 rw [hpl, htu, hsz, hha]
 refine J.picks (A := row b6 199 _) zpk (J.row_eq (encS (sbRead b)) (by simp [encS, sbRead, ints, List.take_of_length_le, hb]) ?_)
 have hS19 : (encS (sbRead b)).length = 19 := by simp [encS, ints, sbRead, hb]
 have hS1 := encS_one (sbRead b)
 have hbk : (encB (sbBlock (sbRead b))).length = 64 := (encB_length _).trans (sbBlock_length hh16)
 refine Vz _ _ [(0, .q), (1, .q), (2, .q), (3, .q), (4, .q), (5, .q), (6, .q), (7, .q), (8, .q), (9, .q), (10, .l), (11, .q)] mixed (by kernel_rfl) (Ji (Jz (Jz (Jz (Jz (Jz Jm))))) (Jj)) ?_
 by_cases hpl2 : (sbRead b).place < 2
 all_goals refine Jc U U U U (fun m => We hT U U U (RdN.rowAll (Vp m zpk)) hS19) ?_
 all_goals refine Jc U U U U (fun m => Jk hT U U U U U U) ?_
 all_goals refine Jc U U U U (fun m => Jo hT U U U (Rd1.row (Vp m zpk) (by rfl))) ?_
 all_goals (first | refine Jc U U U U (fun m => y_lssB U U (decide_eq_true hpl2)) ?_ | refine Jc U U U U (fun m => y_lssB U U (decide_eq_false hpl2)) ?_)
 all_goals refine zqm U U U U U ?_
 all_goals (first | refine Jy U U U U U U U ?_ | refine JM.gskipU U U U U U U ?_ | refine Jr U U U U U U (fun m => We hT U U U zrdna zln) ?_)
 all_goals (first | refine Jy U U U U U U U ?_ | refine JM.gskipU U U U U U U ?_ | refine Jr U U U U U U (fun m => y_callF e109 rfl (block_super_spec E (sbRead b) _ hh16)) ?_)
 all_goals (first | refine Jy U U U U U U U ?_ | refine JM.gskipU U U U U U U ?_ | refine Jr U U U U U U (fun m => We hT U U U zrdna zln) ?_)
 all_goals (first | refine Jy U U U U U U U ?_ | refine Jr U U U U U U (fun m => y_arr_eq (xs := sbBlock (sbRead b)) (ys := b) hT U U U U U U U (sbBlock_length hh16) hb) ?_)
 all_goals refine Jc U U U U (fun m => Wb U U U) ?_
 all_goals refine Vm U U (fun fr => Vx hT U U U zln zoc zpk zln (⟨[_], (by (repeat (first | exact Jj | exact Vc | refine Ji Jm ?_))), ?_⟩))
 all_goals refine Jc U U U U (fun m => Jf rfl) ?_
 all_goals refine Vv (Ja ?_)
 all_goals
  refine Vn ?_
  refine JE.ret2 (.inl rfl) U U zrv zrv ?_
  refine ⟨?_, fun w q => q.sup zsup⟩
  unfold sbOk
  first
   | (rw [decide_eq_true hpl2]; rfl)
   | (rw [decide_eq_false hpl2]; rfl)
end
section
open Go Go.SL
def scells (s : Sb) (d : Nat) : List Value := encS s ++ [.pointer (some ⟨d, 0, none⟩)]
theorem scells_disk {s : Sb} {d : Nat} (h : s.hash.length = 16) : (scells s d)[0 + 19]? = some (Value.pointer (some ⟨d, 0, none⟩)) := by simp [scells, encS, ints, h]
theorem scells_length {s : Sb} {d : Nat} (h : s.hash.length = 16) : (scells s d).length = 20 := by simp [scells, encS, ints, h]
theorem Dk.Ok.readLen {D : Dk} (h : D.Ok) (i : Int) : (D.read i).length = 64 := by
 unfold Dk.read
 split
 · rename_i hr
   exact h.find (ready_zero hr).2
 · rfl
def Dk.half (D : Dk) : Nat := (D.safe.length - 2) / 4
def Dk.slots (D : Dk) : Nat := D.safe.length - 2 - 2 * D.half
attribute [local irreducible] J JL JE JM LS Y Fc RV Code.wp wpList Code.wpIn wpListIn
attribute [local irreducible] Yc
variable (E : World)
theorem h_spec (d : Nat) (D : Dk) (l : List HProp) (h2 : 2 ≤ D.safe.length) :
 Fc prog E 155 [.pointer (some ⟨d, 0, none⟩)].toArray (disk d D :: l) (fun v l' => v = .int .i64 (D.half : Int) ∧ l' = disk d D :: l) := by
 refine disk_okd fun hok => ?_
 have hm := hok.most
 refine Va (c := ?codeC) Tryz.func155 ?hb Tryz.ntmps155 ?hl ?_
 case hb => exact rfl
 case hl => exact rfl
 refine Jh (Je (Jb (Jf rfl) U U U ?_))
 refine Jg (Ja (Jh (Je (Jb (Jd rfl) U U U ?_))))
 refine Jl rfl (Jw e61 U U (len_spec E d D _) ?_)
 rintro _ _ ⟨rfl, rfl⟩
 refine Jb (y_sub (m := ((D.safe.length - 2 : Nat) : Int)) U U (by rw [show (D.safe.length : Int) - 2 = ((D.safe.length - 2 : Nat) : Int) by omega]; exact Wm (by omega) (by omega))) U U U ?_
 refine Jb (y_quo (m := (D.half : Int)) U U (by decide) (by rw [show ((D.safe.length - 2 : Nat) : Int).tdiv 4 = (D.half : Int) by (unfold Dk.half; rw [Int.tdiv_eq_ediv_of_nonneg (by omega)]; omega)]; exact Wm (by omega) (by unfold Dk.half; omega))) U U U ?_
 refine Jb (Jf rfl) U U U ?_
 refine Jg (Ja (Vn ?_))
 refine Vi (.inl rfl) U U zrv ?_
 exact ⟨rfl, rfl⟩
section
variable (st d : Nat) (s : Sb) (D : Dk) (l : List HProp) (hh : s.hash.length = 16) (h2 : 2 ≤ D.safe.length)
include hh
theorem turn_spec : Fc prog E 160 [.pointer (some ⟨st, 0, none⟩)].toArray (row st 205 (scells s d) :: disk d D :: l) (fun v l' => v = Q s.turn ∧ l' = row st 205 (scells s d) :: disk d D :: l) := by
 have _hh := hh
 refine Va (c := ?codeC) Tryz.func160 ?hb Tryz.ntmps160 ?hl ?_
 case hb => exact rfl
 case hl => exact rfl
 refine Jh (Je (Jb (Jf rfl) U U U ?_))
 refine Jg (Ja (Jh (Jh (Je (Jb (Jd rfl) U U U (Jb (Wc hT U U U U) U U U ?_))))))
 refine Jg (Ja ?_)
 refine Vk rfl zbl ?_
 refine Vd (Ja (Jh (Je (Jb (Jd rfl) U U U ?_))))
 refine Jb znc U U U ?_
 refine Jb (Jk hT U U U U U U) U U U (Jb (Jk hT U U U U U U) U U U ?_)
 refine Jb (Jo hT U U U zrd) U U U ?_
 refine Jb (Jf rfl) U U U ?_
 refine Jg (Ja (Vn ?_))
 refine Vi (.inl rfl) U U zrv ?_
 exact ⟨rfl, rfl⟩
theorem ssync_spec (hpn : D.pending.length ≤ 1000000) : Fc prog E 174 [.pointer (some ⟨st, 0, none⟩)].toArray (row st 205 (scells s d) :: disk d D :: l) (fun v l' => v = .int .i64 D.sync.2 ∧ l' = row st 205 (scells s d) :: disk d D.sync.1 :: l) := by
 refine Fc.eqs ?_
 have hd := scells_disk (d := d) hh
 refine Va (c := ?codeC) Tryz.func174 ?hb Tryz.ntmps174 ?hl ?_
 case hb => exact rfl
 case hl => exact rfl
 refine Jh (Je (Jb (Jf rfl) U U U ?_))
 refine Jg (Ja (Jh (Jh (Je (Jb (Jd rfl) U U U (Jb (Wc hT U U U U) U U U ?_))))))
 refine Jg (Ja ?_)
 refine Vk rfl zbl ?_
 refine Vd (Ja (Jh (Je (Jb (Jd rfl) U U U ?_))))
 refine Jb znc U U U ?_
 refine Jb (Jk hT U U U U U U) U U U ?_
 refine Jb (Jo hT U U U (Rd1.row zpk hd)) U U U ?_
 refine Jl rfl (Jw e110 U U (Vw (Ji zpk Jj) (sync_spec E d D _ hpn)) ?_)
 rintro _ _ ⟨rfl, rfl⟩
 refine Jb (Jf rfl) U U U ?_
 refine Jg (Ja (Vn ?_))
 refine Vi (.inl rfl) U U zrv ?_
 exact ⟨rfl, fun w q => q.sup zsup⟩
include h2
theorem room_spec : Fc prog E 137 [.pointer (some ⟨st, 0, none⟩)].toArray (row st 205 (scells s d) :: disk d D :: l) (fun v l' => v = .int .i64 ((64 * D.half : Nat) : Int) ∧ l' = row st 205 (scells s d) :: disk d D :: l) := by
 refine Fc.fact (p := D.Ok) (fun w q => (disk_open (q.pick (Jz Jm))).elim fun _ ⟨_, _, _, h, _⟩ => h) fun hok => Fc.eqs ?_
 have hm := hok.most
 have hd := scells_disk (d := d) hh
 refine Va (c := ?codeC) Tryz.func137 ?hb Tryz.ntmps137 ?hl ?_
 case hb => exact rfl
 case hl => exact rfl
 refine Jh (Je (Jb (Jf rfl) U U U ?_))
 refine Jg (Ja (Jh (Jh (Je (Jb (Jd rfl) U U U (Jb (Wc hT U U U U) U U U ?_))))))
 refine Jg (Ja ?_)
 refine Vk rfl zbl ?_
 refine Vd (Ja (Jh (Je (Jb (Jd rfl) U U U ?_))))
 refine Jb znc U U U ?_
 refine Jb (Jk hT U U U U U U) U U U ?_
 refine Jb (Jo hT U U U (Rd1.row zpk hd)) U U U ?_
 refine Jl rfl (Jw e155 U U (Vw (Ji zpk Jj) (h_spec E d D _ h2)) ?_)
 rintro _ _ ⟨rfl, rfl⟩
 refine Jb (y_mul (m := ((64 * D.half : Nat) : Int)) U U (by rw [show (64 : Int) * (D.half : Int) = ((64 * D.half : Nat) : Int) by omega]; exact Wm (by omega) (by unfold Dk.half; omega))) U U U ?_
 refine Jb (Jf rfl) U U U ?_
 refine Jg (Ja (Vn ?_))
 refine Vi (.inl rfl) U U zrv ?_
 exact ⟨rfl, fun w q => q.sup zsup⟩
theorem slots_spec : Fc prog E 156 [.pointer (some ⟨st, 0, none⟩)].toArray (row st 205 (scells s d) :: disk d D :: l) (fun v l' => v = .int .i64 (D.slots : Int) ∧ l' = row st 205 (scells s d) :: disk d D :: l) := by
 refine Fc.fact (p := D.Ok) (fun w q => (disk_open (q.pick (Jz Jm))).elim fun _ ⟨_, _, _, h, _⟩ => h) fun hok => Fc.eqs ?_
 have hm := hok.most
 have hd := scells_disk (d := d) hh
 have hq : 4 * D.half ≤ D.safe.length - 2 := by unfold Dk.half; omega
 refine Va (c := ?codeC) Tryz.func156 ?hb Tryz.ntmps156 ?hl ?_
 case hb => exact rfl
 case hl => exact rfl
 refine Jh (Je (Jb (Jf rfl) U U U ?_))
 refine Jg (Ja (Jh (Jh (Je (Jb (Jd rfl) U U U (Jb (Wc hT U U U U) U U U ?_))))))
 refine Jg (Ja ?_)
 refine Vk rfl zbl ?_
 refine Vd (Ja (Jh ?_))
 refine Vz _ _ [(0, .q), (1, .q), (2, .q), (3, .q), (6, .q), (7, .q), (8, .q), (9, .q), (4, .l), (5, .q), (10, .l), (11, .q), (12, .q), (13, .q)] mixed (by kernel_rfl) (Ji (Jz Jm) (Jj)) ?_
 refine zqm U U U U U ?_
 refine Jc U U U U (fun m => znc) ?_
 refine Jc U U U U (fun m => Jk hT U U U U U U) ?_
 refine Jc U U U U (fun m => Jo hT U U U (Rd1.row (Vp m zpk) hd)) ?_
 refine zqm U U U U U ?_
 refine Jc U U U U (fun m => znc) ?_
 refine Jc U U U U (fun m => Jk hT U U U U U U) ?_
 refine Jc U U U U (fun m => Jo hT U U U (Rd1.row (Vp m zpk) hd)) ?_
 refine Vm U U (fun fr => Jw e61 U U (Vw (Ji zpk Jj) (len_spec E d D _)) ?_)
 rintro _ _ ⟨rfl, rfl⟩
 refine ⟨[_], (by (repeat (first | exact Jj | exact Vc | refine Ji Jm ?_))), ?_⟩
 refine Jc U U U U (fun m => y_sub U U zwr) ?_
 refine Vm U U (fun fr => Jw e155 U U (Vw (Ji zpk Jj) (h_spec E d D _ h2)) ?_)
 rintro _ _ ⟨rfl, rfl⟩
 refine ⟨[_], (by (repeat (first | exact Jj | exact Vc | refine Ji Jm ?_))), ?_⟩
 refine Jc U U U U (fun m => y_mul U U zwr) ?_
 refine Jc U U U U (fun m => y_sub (m := (D.slots : Int)) U U (by rw [show (D.safe.length : Int) - 2 - 2 * (D.half : Int) = (D.slots : Int) by (unfold Dk.slots; omega)]; exact Wm (by omega) (by unfold Dk.slots; omega))) ?_
 refine Jc U U U U (fun m => Jf rfl) ?_
 refine Vv (Ja (Vn ?_))
 refine Vi (.inl rfl) U U zrv ?_
 exact ⟨rfl, fun w q => q.sup zsup⟩
def Dk.slotAt (D : Dk) (i : Int) : Int × Int := if i < 0 ∨ (D.slots : Int) ≤ i then (0, 2) else (2 + 2 * (D.half : Int) + i, 0)
theorem at_spec (i : Int) : Fc prog E 179 [.pointer (some ⟨st, 0, none⟩), .int .i64 i].toArray (row st 205 (scells s d) :: disk d D :: l) (fun v l' => v = .tuple #[.int .i64 (D.slotAt i).1, .int .i64 (D.slotAt i).2] ∧ l' = row st 205 (scells s d) :: disk d D :: l) := by
 refine Fc.fact (p := D.Ok) (fun w q => (disk_open (q.pick (Jz Jm))).elim fun _ ⟨_, _, _, h, _⟩ => h) fun hok => Fc.eqs ?_
 have hm := hok.most
 have hd := scells_disk (d := d) hh
 have hq : 4 * D.half ≤ D.safe.length - 2 := by unfold Dk.half; omega
 have hsl : D.slots ≤ D.safe.length := by unfold Dk.slots; omega
 refine Va (c := ?codeC) Tryz.func179 ?hb Tryz.ntmps179 ?hl ?_
 case hb => exact rfl
 case hl => exact rfl
 refine Jh (Je (Jb (Jf rfl) U U U (Jb (Jf rfl) U U U ?_)))
 refine Jg (Ja (Jh (Ve (Jh (Je (Jb (Jd rfl) U U U (Jb (Wc hT U U U U) U U U (Jb (Jf rfl) U U U ?_))))))))
 refine Jg (Ja ?_)
 refine Vk rfl zbl ?_
 refine Jh (Je (Jb (Jd rfl) U U U (Jb (y_lss U U) U U U (Jb (Jd rfl) U U U ?_))))
 all_goals (first | (refine Vh U U U (fun h => ?_) (fun h => ?_) <;> try (first | (exfalso; omega) | exact absurd rfl h)) | (refine Vr U U U (fun h => ?_) (fun h => ?_) <;> try (first | cases h | (exfalso; simp at h; done))) | skip)
 all_goals (first | refine Js U U U U U U ?_ | refine Jp U U U U U ?_ | refine Jt U U U (Jd rfl) U U ?_)
 all_goals (first | refine Js U U U U U U ?_ | refine Jp U U U U U ?_ | refine Jt U U U (Jd rfl) U U ?_)
 all_goals (first | refine Js U U U U U U ?_ | refine Jp U U U U U ?_ | (refine JL.gloud U U U (Jw e156 U U (slots_spec E st d s D _ hh h2) ?_); rintro _ _ ⟨rfl, rfl⟩))
 all_goals (first | refine Js U U U U U U ?_ | refine Jp U U U U U ?_ | refine Jt U U U (y_geq U U) U U ?_)
 all_goals (refine Jb (Wb U U U) U U U ?_)
 all_goals (refine Jb (Jf rfl) U U U ?_)
 all_goals refine Jg (Ja ?_)
 all_goals
  first | apply Jx rfl | apply Vo rfl
  case' ht =>
   intro h
   try (first | exact zom | exact zho h | subst h)
   all_goals
    refine Jh (Je (Jb (Jf rfl) U U U (Jb (Jf rfl) U U U ?_)))
    refine Jg (Ja (Vn (Vj (Vb ?_))))
    refine JE.ret2 (.inl rfl) U U zrv zrv ?_
    refine ⟨?_, fun w q => q.sup zsup⟩
    unfold Dk.slotAt
    first
     | rw [if_pos (by omega)]
     | rw [if_neg (by omega)]
  case' hf =>
   intro h
   try (first | exact zom | exact zho h | subst h)
   all_goals
    refine Vd ?_
 all_goals refine Ju (Ja ?_)
 all_goals
  refine Jh (Je (Jb (Jd rfl) U U U ?_))
  refine Jb znc U U U ?_
  refine Jb (Jk hT U U U U U U) U U U ?_
  refine Jb (Jo hT U U U (Rd1.row zpk hd)) U U U ?_
  refine Jl rfl (Jw e155 U U (Vw (Ji zpk Jj) (h_spec E d D _ h2)) ?_)
  rintro _ _ ⟨rfl, rfl⟩
  refine Jb (y_mul U U zwr) U U U ?_
  refine Jb (Wa U U zwr) U U U ?_
  refine Jb (Jd rfl) U U U ?_
  refine Jb (Wa U U zwr) U U U ?_
  refine Jb (Jf rfl) U U U (Jb (Jf rfl) U U U ?_)
  refine Jg (Ja (Vn ?_))
  refine JE.ret2 (.inl rfl) U U zrv zrv ?_
  refine ⟨?_, fun w q => q.sup zsup⟩
  unfold Dk.slotAt
  first
   | rw [if_pos (by omega)]
   | rw [if_neg (by omega)]
end
end
section
open Go Go.SL
def Dk.slot (D : Dk) (i : Int) : Blk × Int := if (D.slotAt i).2 = 0 then (D.read (D.slotAt i).1, D.ready (D.slotAt i).1) else (zeroB, (D.slotAt i).2)
def Dk.put (D : Dk) (i : Int) (b : Blk) : Dk × Int := if (D.slotAt i).2 = 0 then D.write (D.slotAt i).1 b else (D, (D.slotAt i).2)
attribute [local irreducible] J JL JE JM LS Y Fc RV Code.wp wpList Code.wpIn wpListIn
attribute [local irreducible] Yc
variable (E : World)
section
variable (st d : Nat) (s : Sb) (D : Dk) (l : List HProp) (hh : s.hash.length = 16) (h2 : 2 ≤ D.safe.length) (hpn : D.pending.length ≤ 1000000)
include hh h2 hpn
theorem slot_spec (i : Int) : Fc prog E 157 [.pointer (some ⟨st, 0, none⟩), .int .i64 i].toArray (row st 205 (scells s d) :: disk d D :: l) (fun v l' => v = .tuple #[.agg (encB (D.slot i).1).toArray, .int .i64 (D.slot i).2] ∧ l' = row st 205 (scells s d) :: disk d D :: l) := by
 refine Fc.fact (p := D.Ok) (fun w q => (disk_open (q.pick (Jz Jm))).elim fun _ ⟨_, _, _, h, _⟩ => h) fun hok => Fc.eqs ?_
 have hd := scells_disk (d := d) hh
 have hrl : (encB (D.read (D.slotAt i).1)).length = 64 := (encB_length _).trans (hok.readLen _)
 refine Va (c := ?codeC) Tryz.func157 ?hb Tryz.ntmps157 ?hl ?_
 case hb => exact rfl
 case hl => exact rfl
 refine Jh (Je ?_)
 refine Jl rfl (Wf hT U U zcl rfl (fun b1 => ?_))
 refine Jb (Jf rfl) U U U ?_
 refine Jg (Ja (Jh (Je (Jb (Jd rfl) U U U (Jb (Jd rfl) U U U ?_)))))
 refine Jl rfl (Jw e179 U U (Vw (Ji zpk (Ji zpk Jj)) (at_spec E st d s D _ hh h2 i)) ?_)
 rintro _ _ ⟨rfl, rfl⟩
 refine Jb (Jd rfl) U U U (Jb (Vg U U) U U U (Jb (Vg U U) U U U (Jb (Jf rfl) U U U (Jb (Jf rfl) U U U ?_))))
 refine Jg (Ja (Jh (Jh (Je (Jb (Jd rfl) U U U (Jb (y_neq U U) U U U ?_))))))
 refine Jg (Ja ?_)
 first | apply Jx rfl | apply Vo rfl
 case' ht =>
  intro h
  try (first | exact zom | exact zho h | subst h)
  all_goals
   refine Jh (Je (Jb (y_build_arr0 hT U U U U) U U U (Jb (Jd rfl) U U U ?_)))
   refine Jl rfl (Vx hT U U U zln zoc zpk zln ?_)
   refine Jb (Jf rfl) U U U ?_
   refine Jg (Ja (Vn (Vb ?_)))
   refine JE.ret2 (.inl rfl) U U zrv zrv ?_
   refine ⟨?_, fun w q => q.sup zsup⟩
   unfold Dk.slot
   first
    | (rw [if_pos (by omega)]; rfl)
    | (rw [if_neg (by omega)]; rfl)
 case' hf =>
  intro h
  try (first | exact zom | exact zho h | subst h)
  all_goals
   refine Vd ?_
 all_goals refine Ja ?_
 all_goals
  refine Jh (Je (Jb (Jd rfl) U U U ?_))
  refine Jb znc U U U ?_
  refine Jb (Jk hT U U U U U U) U U U ?_
  refine Jb (Jo hT U U U (Rd1.row zpk hd)) U U U ?_
  refine Jb (Jd rfl) U U U ?_
  refine Jl rfl (Jw e135 U U (Vw (Ji zpk Jj) (read_spec E d D (D.slotAt i).1 _ hpn)) ?_)
  rintro _ _ ⟨rfl, rfl⟩
  refine Jb (Vg U U) U U U (Jb (Vg U U) U U U ?_)
  refine Jl rfl (Vx hT U U U zln zoc zpk zln ?_)
  refine Jb (Jf rfl) U U U ?_
  refine Jg (Ja (Vn ?_))
  refine JE.ret2 (.inl rfl) U U zrv zrv ?_
  refine ⟨?_, fun w q => q.sup zsup⟩
  unfold Dk.slot
  first
   | (rw [if_pos (by omega)]; rfl)
   | (rw [if_neg (by omega)]; rfl)
theorem sput_spec (i : Int) (b : Blk) (hb : b.length = 64) : Fc prog E 173 [.pointer (some ⟨st, 0, none⟩), .int .i64 i, .agg (encB b).toArray].toArray (row st 205 (scells s d) :: disk d D :: l) (fun v l' => v = .int .i64 (D.put i b).2 ∧ l' = row st 205 (scells s d) :: disk d (D.put i b).1 :: l) := by
 refine Fc.eqs ?_
 have hd := scells_disk (d := d) hh
 have hbL : (encB b).length = 64 := (encB_length _).trans hb
 refine Va (c := ?codeC) Tryz.func173 ?hb Tryz.ntmps173 ?hl ?_
 case hb => exact rfl
 case hl => exact rfl
 refine Jh (Je ?_)
 refine Jl rfl (l_box rfl zcl rfl (fun b1 => ?_))
 refine Jb (Jf rfl) U U U ?_
 refine Jg (Ja (Jh (Je (Jb (Jd rfl) U U U (Jb (Jd rfl) U U U ?_)))))
 refine Jl rfl (Jw e179 U U (Vw (Ji zpk (Ji zpk Jj)) (at_spec E st d s D _ hh h2 i)) ?_)
 rintro _ _ ⟨rfl, rfl⟩
 refine Jb (Jd rfl) U U U (Jb (Vg U U) U U U (Jb (Vg U U) U U U (Jb (Jf rfl) U U U (Jb (Jf rfl) U U U ?_))))
 refine Jg (Ja (Jh (Jh (Je (Jb (Jd rfl) U U U (Jb (y_neq U U) U U U ?_))))))
 refine Jg (Ja ?_)
 first | apply Jx rfl | apply Vo rfl
 case' ht =>
  intro h
  try (first | exact zom | exact zho h | subst h)
  all_goals
   refine Jh (Je (Jb (Jd rfl) U U U (Jb (Jf rfl) U U U ?_)))
   refine Jg (Ja (Vn (Vb ?_)))
   refine Vi (.inl rfl) U U zrv ?_
   unfold Dk.put
   first
    | (rw [if_pos (by omega)]; exact ⟨rfl, fun w q => q.sup zsup⟩)
    | (rw [if_neg (by omega)]; exact ⟨rfl, fun w q => q.sup zsup⟩)
 case' hf =>
  intro h
  try (first | exact zom | exact zho h | subst h)
  all_goals
   refine Vd ?_
 all_goals refine Ja ?_
 all_goals
  refine Jh ?_
  refine Vz _ _ [(0, .q), (1, .q), (2, .q), (3, .q), (4, .q), (5, .q), (6, .l), (7, .q)] mixed (by kernel_rfl) (Ji (Jz Jm) (Jj)) ?_
  refine zqm U U U U U ?_
  refine Jc U U U U (fun m => znc) ?_
  refine Jc U U U U (fun m => Jk hT U U U U U U) ?_
  refine Jc U U U U (fun m => Jo hT U U U (Rd1.row (Vp m zpk) hd)) ?_
  refine zqm U U U U U ?_
  refine Jc U U U U (fun m => We hT U U U zrdna zln) ?_
  refine Vm U U (fun fr => Jw e108 U U (Vw (Ji zpk Jj) (write_spec E d D (D.slotAt i).1 b hb _ hpn)) ?_)
  rintro _ _ ⟨rfl, rfl⟩
  refine ⟨[_], (by (repeat (first | exact Jj | exact Vc | refine Ji Jm ?_))), ?_⟩
  refine Jc U U U U (fun m => Jf rfl) ?_
  refine Vv (Ja (Vn ?_))
  refine Vi (.inl rfl) U U zrv ?_
  unfold Dk.put
  first
   | (rw [if_pos (by omega)]; exact ⟨rfl, fun w q => q.sup zsup⟩)
   | (rw [if_neg (by omega)]; exact ⟨rfl, fun w q => q.sup zsup⟩)
end
def sb0 : Sb := ⟨0, 0#64, 0, (sha []).take 16⟩
theorem sb0_hash : sb0.hash.length = 16 := by simp [sb0, sha_length]
def Dk.formatted (D : Dk) : Dk := ((D.does.push 0 (sbBlock sb0)).does.push 1 zeroB).does.settle (fun _ => true)
theorem format_good (d : Nat) (D : Dk) (l : List HProp) (h : 64 ≤ D.safe.length) (hdead : D.dead = false) (harm : D.armed = false) (hpn : D.pending.length ≤ 100000) :
 Fc prog E 62 [.pointer (some ⟨d, 0, none⟩)].toArray (disk d D :: l) (fun v l' => ∃ st, v = .tuple #[.pointer (some ⟨st, 0, none⟩), .int .i64 0] ∧ l' = row st 205 (scells sb0 d) :: disk d D.formatted :: l) := by
 refine Wg ?_
 have hnilIn : ∀ l, InL l none 0 0 (ints .u8 []) := fun l => ⟨Nat.le_refl _, Nat.zero_le _, .inr ⟨rfl, rfl⟩⟩
 have hw0 : D.write 0 (sbBlock sb0) = (D.does.push 0 (sbBlock sb0), 0) := by
  have hr : D.ready 0 = 0 := by rw [Dk.ready, hdead, if_neg (by simp), if_neg (by omega)]
  rw [Dk.write, if_neg (by rw [hr]; simp), if_neg (by simp [harm])]
 obtain ⟨D1, hD1⟩ : ∃ D1, D.does.push 0 (sbBlock sb0) = D1 := ⟨_, rfl⟩
 have h1d : D1.dead = false := by rw [← hD1]; exact hdead
 have h1a : D1.armed = false := by rw [← hD1]; exact harm
 have h1s : D1.safe.length = D.safe.length := by rw [← hD1]; rfl
 have h1p : D1.pending.length = D.pending.length + 1 := by rw [← hD1]; simp [Dk.push, Dk.does]
 have hw1 : D1.write 1 zeroB = (D1.does.push 1 zeroB, 0) := by
  have hr : D1.ready 1 = 0 := by rw [Dk.ready, h1d, if_neg (by simp), if_neg (by omega)]
  rw [Dk.write, if_neg (by rw [hr]; simp), if_neg (by simp [h1a])]
 obtain ⟨D2, hD2⟩ : ∃ D2, D1.does.push 1 zeroB = D2 := ⟨_, rfl⟩
 have h2p : D2.pending.length = D1.pending.length + 1 := by rw [← hD2]; simp [Dk.push, Dk.does]
 have hs2 : D2.sync = (D2.does.settle (fun _ => true), 0) := by
  rw [Dk.sync, if_neg (by rw [← hD2]; simp [Dk.push, Dk.does, h1d]), if_neg (by rw [← hD2]; simp [Dk.push, Dk.does, h1a])]
 have hfin : D.formatted = D2.does.settle (fun _ => true) := by rw [← hD2, ← hD1]; rfl
 rw [hfin]
 have c0 : ∀ l, Fc prog E 108 [Value.pointer (some ⟨d, 0, none⟩), .int .i64 0, .agg (encB (sbBlock sb0)).toArray].toArray (disk d D :: l) (fun v l' => v = .int .i64 0 ∧ l' = disk d D1 :: l) := fun l => by
  have q := write_spec E d D 0 (sbBlock sb0) (sbBlock_length sb0_hash) l (by omega)
  rwa [hw0, hD1] at q
 have c1 : ∀ l, Fc prog E 108 [Value.pointer (some ⟨d, 0, none⟩), .int .i64 1, .agg (encB zeroB).toArray].toArray (disk d D1 :: l) (fun v l' => v = .int .i64 0 ∧ l' = disk d D2 :: l) := fun l => by
  have q := write_spec E d D1 1 zeroB rfl l (by omega)
  rwa [hw1, hD2] at q
 have c2 : ∀ l, Fc prog E 110 [Value.pointer (some ⟨d, 0, none⟩)].toArray (disk d D2 :: l) (fun v l' => v = .int .i64 0 ∧ l' = disk d (D2.does.settle (fun _ => true)) :: l) := fun l => by
  have q := sync_spec E d D2 l (by omega)
  rwa [hs2] at q
 have hS19 : (encS sb0).length = 19 := by simp [encS, ints, sb0_hash]
 have hS1 := encS_one sb0
 obtain ⟨hs, hhs⟩ : ∃ hs, (sha []).take 16 = hs := ⟨_, rfl⟩
 have hsl : hs.length = 16 := by rw [← hhs]; simp [sha_length]
 have hs16 : (ints .u8 hs).length = 16 := by simp [ints, hsl]
 have esb : encS sb0 = .int .i64 0 :: Q 0#64 :: .int .i64 0 :: ints .u8 hs := by rw [encS, sb0, hhs]
 have hshort : ∀ l, Fc prog E 107 [.slice none 0 0].toArray l (fun v l' => v = .agg (ints .u8 hs).toArray ∧ l' = l) := fun l => by
  have q := short_spec E none 0 [] l (hnilIn l) (by simp)
  rwa [hhs] at q
 obtain ⟨S0, hS0⟩ : ∃ S0, sb0 = S0 := ⟨_, rfl⟩
 have hS0h : S0.hash.length = 16 := by rw [← hS0]; exact sb0_hash
 rw [hS0] at c0 hS19 hS1 esb ⊢
 refine Va (c := ?codeC) Tryz.func62 ?hb Tryz.ntmps62 ?hl ?_
 case hb => exact rfl
 case hl => exact rfl
 refine Jh (Je (Jb (Jf rfl) U U U (Jb (Jf rfl) U U U ?_)))
 refine Jg (Ja (Jh (Ve (Jh (Je (Jb (Jd rfl) U U U (Jb (Wc hT U U U U) U U U (Jb (Jf rfl) U U U ?_))))))))
 refine Jg (Ja ?_)
 refine Vk rfl zbl ?_
 refine Jh (Je (Jb (Jd rfl) U U U ?_))
 refine Jl rfl (Jw e61 U U (len_spec E d D _) ?_)
 rintro _ _ ⟨rfl, rfl⟩
 refine Jb (y_lss U U) U U U (Jb (Jf rfl) U U U ?_)
 refine Jg (Ja ?_)
 refine Vk rfl zbl ?_
 refine Vd (Ju (Ja (Jh (Je ?_))))
 refine Jl rfl (Jw e107 U U (hshort _) ?_)
 rintro _ _ ⟨rfl, rfl⟩
 refine Jb (y_build (cs := encS S0) hT U U U U U U ⟨⟨hs16, Nat.le_of_ble_eq_true rfl⟩, trivial⟩ (by rw [esb]; simp [fillE, Value.cells, ints]; exact ⟨rfl, Nat.le_of_ble_eq_true rfl⟩)) U U U ?_
 refine Jl rfl (Wf hT U U zcl rfl (fun b3 => ?_))
 refine Jl rfl (Vx hT U U U zln zoc zpk zln ?_)
 refine Jg (Ja (Jh (Jh (Je (Jb (Jd rfl) U U U ?_)))))
 refine Jb (We hT U U U zrdn zln) U U U ?_
 refine Jl rfl (Jw e109 U U (block_super_spec E S0 _ hS0h) ?_)
 rintro _ _ ⟨rfl, rfl⟩
 refine Jl rfl (Jw e108 U U (Vw (Ji zpk Jj) (c0 _)) ?_)
 rintro _ _ ⟨rfl, rfl⟩
 refine Jb (Jf rfl) U U U ?_
 refine Jg (Ja (Jh (Je (Jb (Jd rfl) U U U (Jb (y_neq U U) U U U ?_)))))
 refine Jg (Ja ?_)
 refine Vk rfl zbl ?_
 refine Vd (Ja (Jh (Jh (Je (Jb (Jd rfl) U U U (Jb (y_build_arr0 hT U U U U) U U U ?_))))))
 refine Jl rfl (Jw e108 U U (Vw (Ji zpk Jj) (c1 _)) ?_)
 rintro _ _ ⟨rfl, rfl⟩
 refine Jb (Jf rfl) U U U ?_
 refine Jg (Ja (Jh (Je (Jb (Jd rfl) U U U (Jb (y_neq U U) U U U ?_)))))
 refine Jg (Ja ?_)
 refine Vk rfl zbl ?_
 refine Vd (Ja (Jh (Jh (Je (Jb (Jd rfl) U U U ?_)))))
 refine Jl rfl (Jw e110 U U (Vw (Ji zpk Jj) (c2 _)) ?_)
 rintro _ _ ⟨rfl, rfl⟩
 refine Jb (Jf rfl) U U U ?_
 refine Jg (Ja (Jh (Je (Jb (Jd rfl) U U U (Jb (y_neq U U) U U U ?_)))))
 refine Jg (Ja ?_)
 refine Vk rfl zbl ?_
 refine Vd (Ja (Jh (Je ?_)))
 refine Jb (We hT U U U zrdn zln) U U U ?_
 refine Jb (Jd rfl) U U U ?_
 refine Jb (y_build (cs := scells S0 d) hT U U U U U U ⟨⟨hS19, Nat.le_of_ble_eq_true rfl⟩, ⟨rfl, Nat.le_of_ble_eq_true rfl⟩, trivial⟩ (by simp [fillE, Value.cells, scells, hS19, i199, i27])) U U U ?_
 refine Jl rfl (l_box rfl zcl rfl (fun b9 => ?_))
 refine Jb (Jf rfl) U U U (Jb (Jf rfl) U U U ?_)
 refine Jg (Ja (Vn ?_))
 refine JE.ret2 (.inl rfl) U U zrv zrv ?_
 exact ⟨_, fun w q => q.sup zsup, _, rfl, rfl⟩
end
section
open Go Go.SL
def chunk (bs : List Int) (i : Nat) : Blk := (bs.drop (64 * i)).take 64 ++ List.replicate (64 - ((bs.drop (64 * i)).take 64).length) 0
theorem chunk_length (bs : List Int) (i : Nat) : (chunk bs i).length = 64 := by simp [chunk]; omega
def takeW (base : Int) (bs : List Int) (D : Dk) : Nat → Dk × Int
 | 0 => (D, 0)
 | k + 1 => if (takeW base bs D k).2 = 0 then (takeW base bs D k).1.write (base + k) (chunk bs k) else takeW base bs D k
theorem takeW_stop {base : Int} {bs : List Int} {D : Dk} {k : Nat} (h : (takeW base bs D k).2 ≠ 0) : ∀ m, takeW base bs D (k + m) = takeW base bs D k
 | 0 => rfl
 | m + 1 => by rw [← Nat.add_assoc, takeW, takeW_stop h m, if_neg h]
theorem write_len (D : Dk) (i : Int) (b : Blk) : (D.write i b).1.safe.length = D.safe.length ∧ (D.write i b).1.pending.length ≤ D.pending.length + 1 := by
 unfold Dk.write
 split
 · exact ⟨rfl, Nat.le_succ _⟩
 · split
   · exact ⟨rfl, Nat.le_succ _⟩
   · exact ⟨rfl, by simp [Dk.push, Dk.does]⟩
theorem sync_len (D : Dk) : D.sync.1.safe.length = D.safe.length ∧ D.sync.1.pending.length ≤ D.pending.length := by
 unfold Dk.sync
 split
 · exact ⟨rfl, Nat.le_refl _⟩
 · split
   · exact ⟨rfl, Nat.le_refl _⟩
   · exact ⟨by simp [Dk.settle, liveOn_length, Dk.does], Nat.zero_le _⟩
theorem takeW_len (base : Int) (bs : List Int) (D : Dk) : ∀ k, (takeW base bs D k).1.safe.length = D.safe.length ∧ (takeW base bs D k).1.pending.length ≤ D.pending.length + k
 | 0 => ⟨rfl, Nat.le_refl _⟩
 | k + 1 => by
   have h := takeW_len base bs D k
   rw [takeW]
   split
   · have h2 := write_len (takeW base bs D k).1 (base + k) (chunk bs k)
     exact ⟨h2.1.trans h.1, by omega⟩
   · exact ⟨h.1, by omega⟩
def nextS (s : Sb) (bs : List Int) : Sb := ⟨1 - s.place, s.turn + 1#64, bs.length, (sha bs).take 16⟩
theorem nextS_hash (s : Sb) (bs : List Int) : (nextS s bs).hash.length = 16 := by simp [nextS, sha_length]
def takeS (s : Sb) (D : Dk) (bs : List Int) : Sb × Dk × Int :=
 if 64 * D.half < bs.length then (s, D, 3) else
 let w := takeW (2 + (nextS s bs).place * D.half) bs D ((bs.length + 63) / 64)
 if w.2 = 0 then
  if w.1.sync.2 = 0 then
   let v := w.1.sync.1.write (((nextS s bs).turn.toNat % 2 : Nat) : Int) (sbBlock (nextS s bs))
   if v.2 = 0 then
    if v.1.sync.2 = 0 then (nextS s bs, v.1.sync.1, 0) else (s, v.1.sync.1, v.1.sync.2)
   else (s, v.1, v.2)
  else (s, w.1.sync.1, w.1.sync.2)
 else (s, w.1, w.2)
attribute [local irreducible] J JL JE JM LS Y Fc RV Code.wp wpList Code.wpIn wpListIn
attribute [local irreducible] Yc
variable (E : World)
theorem stake_spec (st d : Nat) (s : Sb) (D : Dk) (p : Option Addr) (cap : Nat) (bs : List Int) (l : List HProp) (hh : s.hash.length = 16) (h2 : 2 ≤ D.safe.length) (hpl : s.place = 0 ∨ s.place = 1) (hpn : D.pending.length ≤ 100000) (hin : InL l p bs.length cap (ints .u8 bs)) :
 Fc prog E 134 [.pointer (some ⟨st, 0, none⟩), .slice p bs.length cap].toArray (row st 205 (scells s d) :: disk d D :: l)
  (fun v l' => v = .int .i64 (takeS s D bs).2.2 ∧ l' = row st 205 (scells (takeS s D bs).1 d) :: disk d (takeS s D bs).2.1 :: l) := by
 refine Fc.fact (p := D.Ok) (fun w q => (disk_open (q.pick (Jz Jm))).elim fun _ ⟨_, _, _, h, _⟩ => h) fun hok => Fc.eqs ?_
 have hm := hok.most
 have hd := scells_disk (d := d) hh
 have hbl : (ints .u8 bs).length = bs.length := by simp [ints]
 have hhalf : 4 * D.half ≤ 510 := by unfold Dk.half; omega
 obtain ⟨nx, hnx⟩ : ∃ nx, nextS s bs = nx := ⟨_, rfl⟩
 have hnh : nx.hash.length = 16 := by rw [← hnx]; exact nextS_hash s bs
 have hnp : nx.place = 1 - s.place := by rw [← hnx]; rfl
 have hn1 := encS_one nx
 have hn19 : (encS nx).length = 19 := by simp [encS, ints, hnh]
 have hs16 : (ints .u8 ((sha bs).take 16)).length = 16 := by simp [ints, sha_length]
 have hne : encS nx = .int .i64 (1 - s.place) :: Q (s.turn + 1#64) :: .int .i64 (bs.length : Int) :: ints .u8 ((sha bs).take 16) := by rw [← hnx]; rfl
 refine Va (c := ?codeC) Tryz.func134 ?hb Tryz.ntmps134 ?hl ?_
 case hb => exact rfl
 case hl => exact rfl
 refine Jh (Je (Jb (Jf rfl) U U U ?_))
 refine Jg (Ja (Jh (Ve (Jh (Je (Jb (Jd rfl) U U U (Jb (Wc hT U U U U) U U U (Jb (Jf rfl) U U U ?_))))))))
 refine Jg (Ja ?_)
 refine Vk rfl zbl ?_
 refine Jh (Je (Jb (Jd rfl) U U U (Jb (Vf hT U U U) U U U (Jb (Jd rfl) U U U ?_))))
 refine Jl rfl (Jw e137 U U (Vw (Ji zpk (Ji zpk Jj)) (room_spec E st d s D _ hh h2)) ?_)
 rintro _ _ ⟨rfl, rfl⟩
 refine Jb (y_gtr U U) U U U (Jb (Jf rfl) U U U ?_)
 refine Jg (Ja ?_)
 first | apply Jx rfl | apply Vo rfl
 case' ht =>
  intro h
  try (first | exact zom | exact zho h | subst h)
  all_goals
   refine Jh (Je (Jb (Jf rfl) U U U ?_))
   refine Jg (Ja (Vn (Vj (Vb ?_))))
   refine Vi (.inl rfl) U U zrv ?_
   first
    | (rw [show takeS s D bs = (s, D, 3) by rw [takeS, if_pos (by omega)]]; exact ⟨rfl, fun w q => q.sup zsup⟩)
    | (have ht : takeS s D bs = (s, (takeW base bs D (k + 1)).1, (takeW base bs D (k + 1)).2) := by
        have hst := takeW_stop (base := base) (bs := bs) (D := D) (k := k + 1) h (n - (k + 1))
        rw [show k + 1 + (n - (k + 1)) = n by omega] at hst
        unfold takeS
        rw [if_neg (by omega), hnx, hbase, hn]
        dsimp only
        rw [hst, if_neg h]
       rw [ht]
       exact ⟨rfl, fun w q => q.sup zsup⟩)
    | (rw [if_neg h]; exact ⟨rfl, fun w q => q.sup zsup⟩)
    | (rw [if_pos (by omega)]; dsimp only; rw [if_neg h]; exact ⟨rfl, fun w q => q.sup zsup⟩)
    | (rw [if_pos (by omega)]; dsimp only; rw [if_pos (by omega), if_neg h]; exact ⟨rfl, fun w q => q.sup zsup⟩)
    | (rw [if_pos (by omega)]; dsimp only; rw [if_pos (by omega), if_pos (by omega)]; exact ⟨rfl, fun w q => q.sup zsup⟩)
 case' hf =>
  intro h
  try (first | exact zom | exact zho h | subst h)
  all_goals
   refine Vd ?_
 all_goals refine Ju (Ja ?_)
 all_goals
  refine Jh ?_
  refine Vz _ _ [(0, .q), (1, .q), (2, .q), (3, .q), (4, .q), (5, .q), (6, .q), (7, .q), (8, .q), (9, .q), (10, .q), (11, .q), (12, .q), (13, .q), (14, .q), (15, .q), (16, .q), (17, .n), (18, .l)] mixed (by kernel_rfl) (Jj) ?_
  refine zqm U U U U U ?_
  refine Jc U U U U (fun m => znc) ?_
  refine Jc U U U U (fun m => Jk hT U U U U U U) (Jc U U U U (fun m => Jk hT U U U U U U) ?_)
  refine Jc U U U U (fun m => Jo hT U U U zrda) ?_
  refine Jc U U U U (fun m => y_sub (m := 1 - s.place) U U (Wm (by omega) (by omega))) ?_
  refine zqm U U U U U ?_
  refine Jc U U U U (fun m => znc) ?_
  refine Jc U U U U (fun m => Jk hT U U U U U U) (Jc U U U U (fun m => Jk hT U U U U U U) ?_)
  refine Jc U U U U (fun m => Jo hT U U U zrda) ?_
  refine Jc U U U U (fun m => y_addQ (b := 1#64) U U) (zqm U U U U U (Jc U U U U (fun m => Vf hT U U U) (zqm U U U U U ?_)))
  refine Jc U U U U (fun m => y_callF e107 rfl (short_spec E p cap bs _ zinl (by omega))) ?_
  refine Jc U U U U (fun m => y_build (cs := encS nx) hT U U U U U U ⟨⟨rfl, Nat.le_of_ble_eq_true rfl⟩, ⟨rfl, Nat.le_of_ble_eq_true rfl⟩, ⟨rfl, Nat.le_of_ble_eq_true rfl⟩, ⟨hs16, Nat.le_of_ble_eq_true rfl⟩, trivial⟩ (by rw [hne]; simp [fillE, Q_cells, int_cells, agg_cells, ints, i3, i52, i196])) ?_
  refine JM.lay U U U U (fun a hf => lays_alloc hT U U zcl) (fun b5 => ?_)
  refine Vm U U (fun fr => Vx hT U U U zln zoc zpk zln (⟨[_], (by (repeat (first | exact Jj | exact Vc | refine Ji Jm ?_))), ?_⟩))
  refine Vv (Ja (Jh (Jh (Je (Jb (Jf rfl) U U U ?_)))))
  refine Jg (Ja (Ve ?_))
  have hlen : bs.length ≤ 64 * D.half := by omega
  have hpm : 0 ≤ nx.place * (D.half : Int) ∧ nx.place * (D.half : Int) ≤ 127 := by
   rw [hnp]
   rcases hpl with e | e <;> rw [e]
   · rw [show (1 - 0 : Int) = 1 by rfl, Int.one_mul]; omega
   · rw [show (1 - 1 : Int) = 0 by rfl, Int.zero_mul]; omega
  obtain ⟨base, hbase⟩ : ∃ base, 2 + nx.place * (D.half : Int) = base := ⟨_, rfl⟩
  obtain ⟨n, hn⟩ : ∃ n, (bs.length + 63) / 64 = n := ⟨_, rfl⟩
  have hwk : ∀ k, k ≤ n → (takeW base bs D k).1.safe.length = D.safe.length ∧ (takeW base bs D k).1.pending.length ≤ 101000 := fun k hk => by
   have := takeW_len base bs D k
   exact ⟨this.1, by omega⟩
  refine Wn (α := Nat) (fun k => k ≤ n ∧ (takeW base bs D k).2 = 0) (fun k => [(0, .pointer (some ⟨st, 0, none⟩)), (1, .slice p bs.length cap), (5, .pointer (some ⟨b5, 0, none⟩)), (6, .int .i64 k)]) (fun k => row b5 199 (encS nx) :: row st 205 (scells s d) :: disk d (takeW base bs D k).1 :: l) (fun k => n - k) 0 ⟨by omega, rfl⟩ ⟨U, U, U, U, trivial⟩ (fun w h => h.sup zsup) ?_
  intro k ⟨hk, hk0⟩
  have hkl := hwk k hk
  have hhk : (takeW base bs D k).1.half = D.half := by unfold Dk.half; rw [hkl.1]
  have hk1 : takeW base bs D (k + 1) = (takeW base bs D k).1.write (base + k) (chunk bs k) := by rw [takeW, if_pos hk0]
  have hwr : ∀ l, Fc prog E 108 [Value.pointer (some ⟨d, 0, none⟩), .int .i64 (base + k), .agg (encB (chunk bs k)).toArray].toArray (disk d (takeW base bs D k).1 :: l) (fun v l' => v = .int .i64 (takeW base bs D (k + 1)).2 ∧ l' = disk d (takeW base bs D (k + 1)).1 :: l) := fun l => by
   have q := write_spec E d (takeW base bs D k).1 (base + k) (chunk bs k) (chunk_length _ _) l (by omega)
   rwa [← hk1] at q
  have hhc : ∀ l, Fc prog E 155 [.pointer (some ⟨d, 0, none⟩)].toArray (disk d (takeW base bs D k).1 :: l) (fun v l' => v = .int .i64 (D.half : Int) ∧ l' = disk d (takeW base bs D k).1 :: l) := fun l => by
   have q := h_spec E d (takeW base bs D k).1 l (by omega)
   rwa [hhk] at q
  have hckl : (encB (chunk bs k)).length = 64 := (encB_length _).trans (chunk_length _ _)
  refine Jh (Jh (Je (Jb (Jd rfl) U U U ?_)))
  refine Jb (y_mul U U zwr) U U U ?_
  refine Jb (Jd rfl) U U U (Jb (Vf hT U U U) U U U (Jb (y_lss U U) U U U ?_))
  refine Jg (Ja ?_)
  first | apply Jx rfl | apply Vo rfl
  case' ht =>
   intro h
   try (first | exact zom | exact zho h | subst h)
   all_goals
    refine Vd ?_
  case' hf =>
   intro h
   try (first | exact zom | exact zho h | subst h)
   all_goals
    refine Wl (Jv (Jv (Vl (Ja (Jh (Jh ?_))))))
    have hkn : k = n := by omega
    obtain ⟨Wd, hWd⟩ : ∃ Wd, (takeW base bs D n).1 = Wd := ⟨_, rfl⟩
    have hWe : (takeW base bs D n).2 = 0 := by rw [← hkn]; exact hk0
    have hWl := hwk n (Nat.le_refl _)
    rw [hWd] at hWl
    rw [hkn, hWd]
    have hsl1 := sync_len Wd
    have htk : takeS s D bs = if Wd.sync.2 = 0 then (let v := Wd.sync.1.write ((nx.turn.toNat % 2 : Nat) : Int) (sbBlock nx); if v.2 = 0 then if v.1.sync.2 = 0 then (nx, v.1.sync.1, 0) else (s, v.1.sync.1, v.1.sync.2) else (s, v.1, v.2)) else (s, Wd.sync.1, Wd.sync.2) := by
     unfold takeS
     rw [if_neg (by omega), hnx, hbase, hn]
     dsimp only
     rw [if_pos hWe, hWd]
    rw [htk]
    obtain ⟨Y, hY⟩ : ∃ Y, Wd.sync.1 = Y := ⟨_, rfl⟩
    obtain ⟨V, hV⟩ : ∃ V, Y.write ((nx.turn.toNat % 2 : Nat) : Int) (sbBlock nx) = V := ⟨_, rfl⟩
    have hwl2 := write_len Y ((nx.turn.toNat % 2 : Nat) : Int) (sbBlock nx)
    rw [hV] at hwl2
    rw [hY, hV]
    rw [hY] at hsl1
    have hc1 : ∀ l, Fc prog E 110 [Value.pointer (some ⟨d, 0, none⟩)].toArray (disk d Wd :: l) (fun v l' => v = .int .i64 Wd.sync.2 ∧ l' = disk d Y :: l) := fun l => by
     have q := sync_spec E d Wd l (by omega)
     rwa [hY] at q
    have hc2 : ∀ l, Fc prog E 108 [Value.pointer (some ⟨d, 0, none⟩), .int .i64 ((nx.turn.toNat % 2 : Nat) : Int), .agg (encB (sbBlock nx)).toArray].toArray (disk d Y :: l) (fun v l' => v = .int .i64 V.2 ∧ l' = disk d V.1 :: l) := fun l => by
     have q := write_spec E d Y ((nx.turn.toNat % 2 : Nat) : Int) (sbBlock nx) (sbBlock_length hnh) l (by omega)
     rwa [hV] at q
    refine Je (Jb (Jd rfl) U U U ?_)
    refine Jb znc U U U ?_
    refine Jb (Jk hT U U U U U U) U U U ?_
    refine Jb (Jo hT U U U (Rd1.row zpk hd)) U U U ?_
    refine Jl rfl (Jw e110 U U (Vw (Ji zpk Jj) (hc1 _)) ?_)
    rintro _ _ ⟨rfl, rfl⟩
    refine Jb (Jf rfl) U U U ?_
    refine Jg (Ja (Jh (Je (Jb (Jd rfl) U U U (Jb (y_neq U U) U U U ?_)))))
    refine Jg (Ja ?_)
    first | apply Jx rfl | apply Vo rfl
    case' ht =>
     intro h
     try (first | exact zom | exact zho h | subst h)
     all_goals
      refine Jh (Je (Jb (Jd rfl) U U U (Jb (Jf rfl) U U U ?_)))
      refine Jg (Ja (Vn (Vb ?_)))
      refine Vi (.inl rfl) U U zrv ?_
      first
       | (rw [show takeS s D bs = (s, D, 3) by rw [takeS, if_pos (by omega)]]; exact ⟨rfl, fun w q => q.sup zsup⟩)
       | (have ht : takeS s D bs = (s, (takeW base bs D (k + 1)).1, (takeW base bs D (k + 1)).2) := by
           have hst := takeW_stop (base := base) (bs := bs) (D := D) (k := k + 1) h (n - (k + 1))
           rw [show k + 1 + (n - (k + 1)) = n by omega] at hst
           unfold takeS
           rw [if_neg (by omega), hnx, hbase, hn]
           dsimp only
           rw [hst, if_neg h]
          rw [ht]
          exact ⟨rfl, fun w q => q.sup zsup⟩)
       | (rw [if_neg h]; exact ⟨rfl, fun w q => q.sup zsup⟩)
       | (rw [if_pos (by omega)]; dsimp only; rw [if_neg h]; exact ⟨rfl, fun w q => q.sup zsup⟩)
       | (rw [if_pos (by omega)]; dsimp only; rw [if_pos (by omega), if_neg h]; exact ⟨rfl, fun w q => q.sup zsup⟩)
       | (rw [if_pos (by omega)]; dsimp only; rw [if_pos (by omega), if_pos (by omega)]; exact ⟨rfl, fun w q => q.sup zsup⟩)
    case' hf =>
     intro h
     try (first | exact zom | exact zho h | subst h)
     all_goals
      refine Vd ?_
    all_goals refine Ja ?_
    all_goals
     refine Jh (Jh ?_)
     refine Vz _ _ [(0, .q), (1, .q), (2, .q), (3, .q), (4, .q), (5, .q), (6, .q), (7, .q), (8, .q), (9, .q), (10, .l), (11, .q)] mixed (by kernel_rfl) (Ji (Jm) (Jj)) ?_
     refine zqm U U U U U ?_
     refine Jc U U U U (fun m => znc) ?_
     refine Jc U U U U (fun m => Jk hT U U U U U U) ?_
     refine Jc U U U U (fun m => Jo hT U U U (Rd1.row (Vp m zpk) hd)) ?_
     refine Jc U U U U (fun m => Jk hT U U U U U U) ?_
     refine Jc U U U U (fun m => Jo hT U U U zrda) ?_
     refine Jc U U U U (fun m => y_rem (m := ((nx.turn.toNat % 2 : Nat) : Int)) (i := (nx.turn.toNat : Int)) (k := .u64) U U (by decide) (by rw [Int.tmod_eq_emod_of_nonneg (by omega)]; omega)) ?_
     refine Jc U U U U (fun m => y_conv hT U U U U (Wm (by omega) (by omega))) ?_
     refine Jc U U U U (fun m => We hT U U U zrdna zln) ?_
     refine Jc U U U U (fun m => y_callF e109 rfl (block_super_spec E nx _ hnh)) ?_
     refine Vm U U (fun fr => Jw e108 U U (Vw (Ji zpk Jj) (hc2 _)) ?_)
     rintro _ _ ⟨rfl, rfl⟩
     refine ⟨[_], (by (repeat (first | exact Jj | exact Vc | refine Ji Jm ?_))), ?_⟩
     refine Jc U U U U (fun m => Jf rfl) ?_
     refine Vv (Ja (Jh (Je (Jb (Jd rfl) U U U (Jb (y_neq U U) U U U ?_)))))
     refine Jg (Ja ?_)
     first | apply Jx rfl | apply Vo rfl
     case' ht =>
      intro h
      try (first | exact zom | exact zho h | subst h)
      all_goals
       refine Jh (Je (Jb (Jd rfl) U U U (Jb (Jf rfl) U U U ?_)))
       refine Jg (Ja (Vn (Vb ?_)))
       refine Vi (.inl rfl) U U zrv ?_
       first
        | (rw [show takeS s D bs = (s, D, 3) by rw [takeS, if_pos (by omega)]]; exact ⟨rfl, fun w q => q.sup zsup⟩)
        | (have ht : takeS s D bs = (s, (takeW base bs D (k + 1)).1, (takeW base bs D (k + 1)).2) := by
            have hst := takeW_stop (base := base) (bs := bs) (D := D) (k := k + 1) h (n - (k + 1))
            rw [show k + 1 + (n - (k + 1)) = n by omega] at hst
            unfold takeS
            rw [if_neg (by omega), hnx, hbase, hn]
            dsimp only
            rw [hst, if_neg h]
           rw [ht]
           exact ⟨rfl, fun w q => q.sup zsup⟩)
        | (rw [if_neg h]; exact ⟨rfl, fun w q => q.sup zsup⟩)
        | (rw [if_pos (by omega)]; dsimp only; rw [if_neg h]; exact ⟨rfl, fun w q => q.sup zsup⟩)
        | (rw [if_pos (by omega)]; dsimp only; rw [if_pos (by omega), if_neg h]; exact ⟨rfl, fun w q => q.sup zsup⟩)
        | (rw [if_pos (by omega)]; dsimp only; rw [if_pos (by omega), if_pos (by omega)]; exact ⟨rfl, fun w q => q.sup zsup⟩)
     case' hf =>
      intro h
      try (first | exact zom | exact zho h | subst h)
      all_goals
       refine Vd ?_
     all_goals refine Ja ?_
     all_goals
      refine Jh (Jh (Je (Jb (Jd rfl) U U U ?_)))
      refine Jb znc U U U ?_
      refine Jb (Jk hT U U U U U U) U U U ?_
      refine Jb (Jo hT U U U (Rd1.row zpk hd)) U U U ?_
      refine Jl rfl (Jw e110 U U (Vw (Ji zpk Jj) (sync_spec E d V.1 _ (by omega))) ?_)
      rintro _ _ ⟨rfl, rfl⟩
      refine Jb (Jf rfl) U U U ?_
      refine Jg (Ja (Jh (Je (Jb (Jd rfl) U U U (Jb (y_neq U U) U U U ?_)))))
      refine Jg (Ja ?_)
      first | apply Jx rfl | apply Vo rfl
      case' ht =>
       intro h
       try (first | exact zom | exact zho h | subst h)
       all_goals
        refine Jh (Je (Jb (Jd rfl) U U U (Jb (Jf rfl) U U U ?_)))
        refine Jg (Ja (Vn (Vb ?_)))
        refine Vi (.inl rfl) U U zrv ?_
        first
         | (rw [show takeS s D bs = (s, D, 3) by rw [takeS, if_pos (by omega)]]; exact ⟨rfl, fun w q => q.sup zsup⟩)
         | (have ht : takeS s D bs = (s, (takeW base bs D (k + 1)).1, (takeW base bs D (k + 1)).2) := by
             have hst := takeW_stop (base := base) (bs := bs) (D := D) (k := k + 1) h (n - (k + 1))
             rw [show k + 1 + (n - (k + 1)) = n by omega] at hst
             unfold takeS
             rw [if_neg (by omega), hnx, hbase, hn]
             dsimp only
             rw [hst, if_neg h]
            rw [ht]
            exact ⟨rfl, fun w q => q.sup zsup⟩)
         | (rw [if_neg h]; exact ⟨rfl, fun w q => q.sup zsup⟩)
         | (rw [if_pos (by omega)]; dsimp only; rw [if_neg h]; exact ⟨rfl, fun w q => q.sup zsup⟩)
         | (rw [if_pos (by omega)]; dsimp only; rw [if_pos (by omega), if_neg h]; exact ⟨rfl, fun w q => q.sup zsup⟩)
         | (rw [if_pos (by omega)]; dsimp only; rw [if_pos (by omega), if_pos (by omega)]; exact ⟨rfl, fun w q => q.sup zsup⟩)
      case' hf =>
       intro h
       try (first | exact zom | exact zho h | subst h)
       all_goals
        refine Vd ?_
      all_goals refine Ja ?_
      all_goals
       refine Jh (Je (Jb (Jd rfl) U U U ?_))
       refine Jb (We hT U U U zrdn zln) U U U ?_
       refine Jb znc U U U ?_
       refine Jb (Jk hT U U U U U U) U U U ?_
       refine Jl rfl (l_storeN (off := 0) hT U U U hn19 hn1 zpk (by rw [scells_length hh, hn19]; decide) ?_)
       have hsc : (scells s d).take 0 ++ encS nx ++ (scells s d).drop (0 + (encS nx).length) = scells nx d := by
        have e19 : (encS s).length = 19 := by simp [encS, ints, hh]
        rw [hn19, List.take_zero, List.nil_append, scells, List.drop_append_of_le_length (by omega), List.drop_of_length_le (by omega)]
        rfl
       rw [hsc]
       refine Jg (Ja (Jh (Je (Jb (Jf rfl) U U U ?_))))
       refine Jg (Ja (Vn ?_))
       refine Vi (.inl rfl) U U zrv ?_
       first
        | (rw [show takeS s D bs = (s, D, 3) by rw [takeS, if_pos (by omega)]]; exact ⟨rfl, fun w q => q.sup zsup⟩)
        | (have ht : takeS s D bs = (s, (takeW base bs D (k + 1)).1, (takeW base bs D (k + 1)).2) := by
            have hst := takeW_stop (base := base) (bs := bs) (D := D) (k := k + 1) h (n - (k + 1))
            rw [show k + 1 + (n - (k + 1)) = n by omega] at hst
            unfold takeS
            rw [if_neg (by omega), hnx, hbase, hn]
            dsimp only
            rw [hst, if_neg h]
           rw [ht]
           exact ⟨rfl, fun w q => q.sup zsup⟩)
        | (rw [if_neg h]; exact ⟨rfl, fun w q => q.sup zsup⟩)
        | (rw [if_pos (by omega)]; dsimp only; rw [if_neg h]; exact ⟨rfl, fun w q => q.sup zsup⟩)
        | (rw [if_pos (by omega)]; dsimp only; rw [if_pos (by omega), if_neg h]; exact ⟨rfl, fun w q => q.sup zsup⟩)
        | (rw [if_pos (by omega)]; dsimp only; rw [if_pos (by omega), if_pos (by omega)]; exact ⟨rfl, fun w q => q.sup zsup⟩)
  all_goals refine Ja ?_
  all_goals
   refine Jh (Ve (Jh (Je ?_)))
   refine Jl rfl (Wf hT U U zcl rfl (fun b7 => ?_))
   refine Jg (Ja (Jh ?_))
   obtain ⟨g0, o0, hp0, hin1⟩ := hin.part (lo := 64 * k) (hi := bs.length) (k := 1) (by omega) (Nat.le_refl _) (by omega)
   have hsrc : ((ints .u8 bs).drop (64 * k * 1)).take ((bs.length - 64 * k) * 1) = ints .u8 (bs.drop (64 * k)) := by
    rw [Nat.mul_one, Nat.mul_one, List.take_of_length_le (by simp [ints])]
    simp [ints]
   rw [hsrc] at hin1
   refine Vz _ _ [(0, .q), (1, .q), (2, .q), (3, .q), (4, .q), (5, .l)] mixed (by kernel_rfl) (Ji (Jm) (Jj)) ?_
   refine Jc U U U U (fun m => y_slice_arr hT U U U U (.inl ⟨rfl, rfl⟩) (.inl ⟨rfl, rfl⟩) zix zix) ?_
   refine zqm U U U U U (zqm U U U U U ?_)
   refine Jc U U U U (fun m => y_mul U U zwr) ?_
   refine Jc U U U U (fun m => y_slice (lo := 64 * k) (hi := bs.length) hT U U U U (.inr ⟨_, _, _, rfl, rfl, by omega⟩) (.inl ⟨rfl, rfl⟩) (by omega) hin.le hin.le hp0) ?_
   refine Vm U U (fun fr => l_copy (sLen := bs.length - 64 * k) (dLen := 64) (off := 0) hT U U U U U U zpk zinl (by simp [ints]) (by simp) (ints_one _ _) rfl ⟨[_], (by (repeat (first | exact Jj | exact Vc | refine Ji Jm ?_))), ?_⟩)
   refine Vv (Ja (Jh ?_))
   refine J.row_eq (encB (chunk bs k)) (by
    simp only [List.take_zero, List.nil_append, Nat.zero_add, chunk, encB, ints, List.map_append, List.map_take, List.map_drop, List.map_replicate, List.drop_replicate, List.length_take, List.length_drop]
    rw [show min (bs.length - 64 * k) 64 = min 64 (bs.length - 64 * k) from Nat.min_comm _ _]
    congr 1
    by_cases hmn : 64 ≤ bs.length - 64 * k
    · rw [show min 64 (bs.length - 64 * k) = 64 by omega]
    · rw [show min 64 (bs.length - 64 * k) = bs.length - 64 * k by omega, List.take_of_length_le (by simp), List.take_of_length_le (by simp; omega)]) ?_
   refine Vz _ _ [(0, .q), (1, .q), (2, .q), (3, .q), (4, .q), (5, .q), (6, .q), (7, .q), (8, .q), (9, .q), (13, .q), (15, .q), (10, .l), (11, .q), (12, .q), (14, .q), (16, .l), (17, .q)] mixed (by kernel_rfl) (Ji (Jz (Jz (Jz Jm))) (Jj)) ?_
   refine zqm U U U U U ?_
   refine Jc U U U U (fun m => znc) ?_
   refine Jc U U U U (fun m => Jk hT U U U U U U) ?_
   refine Jc U U U U (fun m => Jo hT U U U (Rd1.row (Vp m zpk) hd)) ?_
   refine Jc U U U U (fun m => Jk hT U U U U U U) ?_
   refine Jc U U U U (fun m => Jo hT U U U zrda) ?_
   refine zqm U U U U U ?_
   refine Jc U U U U (fun m => znc) ?_
   refine Jc U U U U (fun m => Jk hT U U U U U U) ?_
   refine Jc U U U U (fun m => Jo hT U U U (Rd1.row (Vp m zpk) hd)) ?_
   refine zqm U U U U U ?_
   refine Jc U U U U (fun m => We hT U U U zrdna zln) ?_
   refine Vm U U (fun fr => Jw e155 U U (Vw (Ji zpk Jj) (hhc _)) ?_)
   rintro _ _ ⟨rfl, rfl⟩
   refine ⟨[_], (by (repeat (first | exact Jj | exact Vc | refine Ji Jm ?_))), ?_⟩
   refine Jc U U U U (fun m => y_mul (m := nx.place * (D.half : Int)) U U (Wm (by omega) (by omega))) ?_
   refine Jc U U U U (fun m => Wa (m := base) U U (by rw [hbase]; exact Wm (by omega) (by omega))) ?_
   refine Jc U U U U (fun m => Wa U U zwr) ?_
   refine Vm U U (fun fr => Jw e108 U U (Vw (Ji zpk Jj) (hwr _)) ?_)
   rintro _ _ ⟨rfl, rfl⟩
   refine ⟨[_], (by (repeat (first | exact Jj | exact Vc | refine Ji Jm ?_))), ?_⟩
   refine Jc U U U U (fun m => Jf rfl) ?_
   refine Vv (Ja (Jh (Je (Jb (Jd rfl) U U U (Jb (y_neq U U) U U U ?_)))))
   refine Jg (Ja ?_)
   first | apply Jx rfl | apply Vo rfl
   case' ht =>
    intro h
    try (first | exact zom | exact zho h | subst h)
    all_goals
     refine Jh (Je (Jb (Jd rfl) U U U (Jb (Jf rfl) U U U ?_)))
     refine Jg (Ja (Vn (Vj (Vb (Vb (Vj (Vb ?_)))))))
     refine Vi (.inl rfl) U U zrv ?_
     first
      | (rw [show takeS s D bs = (s, D, 3) by rw [takeS, if_pos (by omega)]]; exact ⟨rfl, fun w q => q.sup zsup⟩)
      | (have ht : takeS s D bs = (s, (takeW base bs D (k + 1)).1, (takeW base bs D (k + 1)).2) := by
          have hst := takeW_stop (base := base) (bs := bs) (D := D) (k := k + 1) h (n - (k + 1))
          rw [show k + 1 + (n - (k + 1)) = n by omega] at hst
          unfold takeS
          rw [if_neg (by omega), hnx, hbase, hn]
          dsimp only
          rw [hst, if_neg h]
         rw [ht]
         exact ⟨rfl, fun w q => q.sup zsup⟩)
      | (rw [if_neg h]; exact ⟨rfl, fun w q => q.sup zsup⟩)
      | (rw [if_pos (by omega)]; dsimp only; rw [if_neg h]; exact ⟨rfl, fun w q => q.sup zsup⟩)
      | (rw [if_pos (by omega)]; dsimp only; rw [if_pos (by omega), if_neg h]; exact ⟨rfl, fun w q => q.sup zsup⟩)
      | (rw [if_pos (by omega)]; dsimp only; rw [if_pos (by omega), if_pos (by omega)]; exact ⟨rfl, fun w q => q.sup zsup⟩)
   case' hf =>
    intro h
    try (first | exact zom | exact zho h | subst h)
    all_goals
     refine Vd ?_
   all_goals refine Ju (Ja ?_)
   all_goals
    refine Je (Jb (Jd rfl) U U U ?_)
    refine Jb (Wa U U zwr) U U U ?_
    refine Jb (Jf rfl) U U U ?_
    refine Jg ?_
  all_goals
   exact Vt (s := k) (k + 1) ⟨by omega, by omega⟩ ⟨U, U, U, U, trivial⟩ (fun w q => q.sup zsup) (by omega)
end
section
open Go Go.SL
def snapB (s : Sb) (D : Dk) : Nat → List Int
 | 0 => []
 | k + 1 => snapB s D k ++ D.read (2 + s.place * (D.half : Int) + k)
def snapS (s : Sb) (D : Dk) : List Int := (snapB s D ((s.size.toNat + 63) / 64)).take s.size.toNat
theorem snapB_length {D : Dk} (h : D.Ok) (s : Sb) : ∀ k, (snapB s D k).length = 64 * k
 | 0 => rfl
 | k + 1 => by simp [snapB, snapB_length h s k, h.readLen]; omega
theorem snapS_length {D : Dk} (h : D.Ok) (s : Sb) : (snapS s D).length = s.size.toNat := by
 simp only [snapS, List.length_take, snapB_length h]; omega
structure Fits (s : Sb) (D : Dk) : Prop where
 hash : s.hash.length = 16
 place : s.place = 0 ∨ s.place = 1
 lo : 0 ≤ s.size
 hi : s.size ≤ 64 * D.half
 two : 2 ≤ D.safe.length
theorem Fits.ready {s : Sb} {D : Dk} (h : Fits s D) {k : Nat} (hk : k < (s.size.toNat + 63) / 64) : D.ready (2 + s.place * (D.half : Int) + k) = if D.dead then 7 else 0 := by
 have h1 := h.hi
 have h2 := h.lo
 have h3 := h.two
 have h4 : 4 * D.half ≤ D.safe.length - 2 := by unfold Dk.half; omega
 have h5 : 0 ≤ s.place * (D.half : Int) ∧ s.place * (D.half : Int) ≤ D.half := by
  rcases h.place with e | e <;> rw [e]
  · rw [Int.zero_mul]; omega
  · rw [Int.one_mul]; omega
 unfold Dk.ready
 rw [if_neg (show ¬ (2 + s.place * (D.half : Int) + k < 0 ∨ (D.safe.length : Int) ≤ 2 + s.place * (D.half : Int) + k) by omega)]
attribute [local irreducible] J JL JE JM LS Y Fc RV Code.wp wpList Code.wpIn wpListIn
attribute [local irreducible] Yc
variable (E : World)
theorem snapshot_spec (st d : Nat) (s : Sb) (D : Dk) (l : List HProp) (hf : Fits s D) (hdead : D.dead = false) (hpn : D.pending.length ≤ 1000000) :
 Fc prog E 111 [.pointer (some ⟨st, 0, none⟩)].toArray (row st 205 (scells s d) :: disk d D :: l)
  (fun v l' => if (sha (snapS s D)).take 16 = s.hash then ∃ a c, v = .tuple #[.slice a s.size.toNat c, .int .i64 0] ∧ l' = own 5 1 (.slice a s.size.toNat c) s.size.toNat (ints .u8 (snapS s D)) :: row st 205 (scells s d) :: disk d D :: l
    else v = .tuple #[.slice none 0 0, .int .i64 210] ∧ l' = row st 205 (scells s d) :: disk d D :: l) := by
 refine Fc.fact (p := D.Ok) (fun w q => (disk_open (q.pick (Jz Jm))).elim fun _ ⟨_, _, _, h, _⟩ => h) fun hok => Wg ?_
 have hm := hok.most
 have hh := hf.hash
 have h2 := hf.two
 have hd := scells_disk (d := d) hh
 have hlo := hf.lo
 have hhi := hf.hi
 have hhalf : 4 * D.half ≤ 510 := by unfold Dk.half; omega
 have hpm : 0 ≤ s.place * (D.half : Int) ∧ s.place * (D.half : Int) ≤ D.half := by
  rcases hf.place with e | e <;> rw [e]
  · rw [Int.zero_mul]; omega
  · rw [Int.one_mul]; omega
 obtain ⟨z, hz⟩ : ∃ z : Nat, s.size = z := ⟨s.size.toNat, by omega⟩
 obtain ⟨n, hn⟩ : ∃ n, (z + 63) / 64 = n := ⟨_, rfl⟩
 have hzn : s.size.toNat = z := by omega
 have hready : ∀ k, k < n → D.ready (2 + s.place * (D.half : Int) + k) = 0 := fun k hk => by rw [hf.ready (by omega), hdead]; simp
 have hs1 : (scells s d)[2]? = some (Value.int .i64 z) := by rw [← hz]; rfl
 have hs16 : (ints .u8 s.hash).length = 16 := by simp [ints, hh]
 have hsb : snapS s D = (snapB s D n).take z := by rw [snapS, hzn, hn]
 rw [hzn]
 refine Va (c := ?codeC) Tryz.func111 ?hb Tryz.ntmps111 ?hl ?_
 case hb => exact rfl
 case hl => exact rfl
 refine Jh (Je (Jb (Jf rfl) U U U (Jb (Jf rfl) U U U ?_)))
 refine Jg (Ja (Jh (Jh (Je (Jb (Jd rfl) U U U (Jb (Wc hT U U U U) U U U ?_))))))
 refine Jg (Ja ?_)
 refine Vk rfl zbl ?_
 refine Vd (Ja (Jh (Je (Jb (Jd rfl) U U U ?_))))
 refine Jb znc U U U ?_
 refine Jb (Jk hT U U U U U U) U U U (Jb (Jk hT U U U U U U) U U U ?_)
 refine Jb (Jo hT U U U (Rd1.row zpk hs1)) U U U ?_
 refine Jb (Wa (m := ((z + 64 : Nat) : Int)) U U (by rw [show (z : Int) + 64 = ((z + 64 : Nat) : Int) by omega]; exact Wm (by omega) (by omega))) U U U ?_
 refine Jl rfl (l_makeSlice hT U U U U U U (by omega) (by omega) (mk_fits rfl (by omega) (by omega)) (by omega) rfl (fun bk => ?_))
 refine JL.pre (fun w q => q.own_made (by unfold maxLen; omega)) ?_
 refine Jb (Jf rfl) U U U ?_
 refine Jg (Ja (Jh (Jh (Je (Jb (Jf rfl) U U U ?_)))))
 refine Jg (Ja (Ve ?_))
 refine Wn (α := Nat × Value) (fun q => q.1 ≤ n ∧ ∃ a c, q.2 = .slice a (64 * q.1) c ∧ 1 ≤ c ∧ 64 * q.1 ≤ c) (fun q => [(0, .pointer (some ⟨st, 0, none⟩)), (4, q.2), (5, .int .i64 q.1)]) (fun q => own 5 1 q.2 (64 * q.1) (ints .u8 (snapB s D q.1)) :: row st 205 (scells s d) :: disk d D :: l) (fun q => n - q.1) (0, _) ⟨by simp, _, _, rfl, by omega, by omega⟩ ⟨U, U, U, trivial⟩ (fun w h => h) ?_
 rintro ⟨k, v⟩ ⟨hk, a, c, hv, hc, hc2⟩
 dsimp only at hk hv ⊢
 subst hv
 refine Jh (Jh (Je (Jb (Jd rfl) U U U (Jb (Vf hT U U U) U U U (Jb (Jd rfl) U U U ?_)))))
 refine Jb znc U U U ?_
 refine Jb (Jk hT U U U U U U) U U U (Jb (Jk hT U U U U U U) U U U ?_)
 refine Jb (Jo hT U U U (Rd1.row zpk hs1)) U U U ?_
 refine Jb (y_lss U U) U U U ?_
 refine Jg (Ja ?_)
 first | apply Jx rfl | apply Vo rfl
 case' ht =>
  intro h
  try (first | exact zom | exact zho h | subst h)
  all_goals
   refine Vd ?_
 case' hf =>
  intro h
  try (first | exact zom | exact zho h | subst h)
  all_goals
   refine Wl (Jv (Jv (Vl (Ja (Jh ?_)))))
   have hkn : k = n := by omega
   rw [hkn]
   refine J.fact (fun w q => q.own_at) fun oa => ?_
   obtain ⟨g, rfl⟩ := oa.at_.resolve_right (fun ⟨h0, _⟩ => by omega)
   refine Je (Jb (Jd rfl) U U U (Jb (Jd rfl) U U U ?_))
   refine Jb znc U U U ?_
   refine Jb (Jk hT U U U U U U) U U U (Jb (Jk hT U U U U U U) U U U ?_)
   refine Jb (Jo hT U U U (Rd1.row zpk hs1)) U U U ?_
   refine Jb (y_slice (lo := 0) (hi := z) hT U U U U (.inl ⟨rfl, rfl⟩) (.inr ⟨_, _, _, rfl, rfl, rfl⟩) (by omega) (by omega) oa.le (.inl rfl)) U U U ?_
   rw [if_neg (show ¬ c = 0 by omega)]
   refine Jb (Jf rfl) U U U ?_
   refine Jg (Ja (Jh (Jh ?_)))
   refine J.lists (l' := own 5 1 (.slice (some ⟨g, 0, none⟩) z c) z (ints .u8 (snapS s D)) :: row st 205 (scells s d) :: disk d D :: l) (fun w q => by
    have q1 := q.own_take (k := z) (by omega)
    have e : (ints .u8 (snapB s D n)).take (z * 1) = ints .u8 (snapS s D) := by rw [hsb]; simp [ints]
    rwa [e] at q1) ?_
   refine J.fact (fun w q => q.own_at) fun oz => ?_
   have hsl : (snapS s D).length = z := by rw [snapS_length hok, hzn]
   have hshort : ∀ l, InL l (some ⟨g, 0, none⟩) z c (ints .u8 (snapS s D)) → Fc prog E 107 [.slice (some ⟨g, 0, none⟩) z c].toArray l (fun v l' => v = .agg (ints .u8 ((sha (snapS s D)).take 16)).toArray ∧ l' = l) := fun l h => by
    have q := short_spec E (some ⟨g, 0, none⟩) c (snapS s D) l (by rwa [hsl]) (by omega)
    rwa [hsl] at q
   have hs16' : ((sha (snapS s D)).take 16).length = 16 := by rw [List.length_take, sha_length]; rfl
   refine Vz _ _ [(0, .q), (1, .q), (2, .q), (3, .q), (4, .q), (5, .q), (6, .q), (7, .q)] mixed (by kernel_rfl) (Jj) ?_
   refine zqm U U U U U (Jc U U U U (fun m => y_callF e107 rfl (hshort _ ((oz.inl Jm).app m))) (zqm U U U U U ?_))
   refine Jc U U U U (fun m => znc) ?_
   refine Jc U U U U (fun m => Jk hT U U U U U U) (Jc U U U U (fun m => Jk hT U U U U U U) ?_)
   refine Jc U U U U (fun m => We hT U U U (RdN.row (n := 16) (vs := ints .u8 s.hash) (Vp m zpk) (by simp [scells, encS, ints, hh])) hs16) ?_
   refine Jc U U U U (fun m => y_arr_ne (xs := (sha (snapS s D)).take 16) (ys := s.hash) hT U U U U U U U hs16' hh) ?_
   refine Vv (Ja ?_)
   first | apply Jx rfl | apply Vo rfl
   case' ht =>
    intro h
    try (first | exact zom | exact zho h | subst h)
    all_goals
     refine Jh (Je (Jb (Jf rfl) U U U (Jb (Jf rfl) U U U ?_)))
     refine Jg (Ja (Vn (Vb ?_)))
     refine JE.ret2 (.inl rfl) U U zrv zrv ?_
     first
      | (have hne : ¬ (sha (snapS s D)).take 16 = s.hash := by simpa using h
         refine ⟨row st 205 (scells s d) :: disk d D :: l, fun w q => q.sup zsup, ?_⟩
         rw [if_neg hne]
         exact ⟨rfl, rfl⟩)
      | (have hne : (sha (snapS s D)).take 16 = s.hash := by simpa using h
         refine ⟨own 5 1 (.slice (some ⟨g, 0, none⟩) z c) z (ints .u8 (snapS s D)) :: row st 205 (scells s d) :: disk d D :: l, fun w q => q.sup zsup, ?_⟩
         rw [if_pos hne]
         exact ⟨some ⟨g, 0, none⟩, c, rfl, rfl⟩)
   case' hf =>
    intro h
    try (first | exact zom | exact zho h | subst h)
    all_goals
     refine Vd ?_
   all_goals refine Ja ?_
   all_goals
    refine Jh (Je (Jb (Jd rfl) U U U (Jb (Jf rfl) U U U (Jb (Jf rfl) U U U ?_))))
    refine Jg (Ja (Vn ?_))
    refine JE.ret2 (.inl rfl) U U zrv zrv ?_
    first
     | (have hne : ¬ (sha (snapS s D)).take 16 = s.hash := by simpa using h
        refine ⟨row st 205 (scells s d) :: disk d D :: l, fun w q => q.sup zsup, ?_⟩
        rw [if_neg hne]
        exact ⟨rfl, rfl⟩)
     | (have hne : (sha (snapS s D)).take 16 = s.hash := by simpa using h
        refine ⟨own 5 1 (.slice (some ⟨g, 0, none⟩) z c) z (ints .u8 (snapS s D)) :: row st 205 (scells s d) :: disk d D :: l, fun w q => q.sup zsup, ?_⟩
        rw [if_pos hne]
        exact ⟨some ⟨g, 0, none⟩, c, rfl, rfl⟩)
 all_goals refine Ja ?_
 all_goals
  refine Jh (Ve (Jh ?_))
  have hrd := hready k (by omega)
  have hrl := hok.readLen (2 + s.place * (D.half : Int) + k)
  have hrL : (encB (D.read (2 + s.place * (D.half : Int) + k))).length = 64 := (encB_length _).trans hrl
  refine Vz _ _ [(0, .q), (1, .q), (2, .q), (3, .q), (4, .q), (5, .q), (6, .q), (7, .q), (8, .q), (9, .q), (10, .q), (11, .q), (12, .q), (16, .q), (13, .l), (14, .q), (15, .q), (17, .q), (18, .l), (19, .q), (20, .q), (21, .q), (22, .n), (23, .l), (24, .q)] mixed (by kernel_rfl) (Ji (Jz (Jz Jm)) (Jj)) ?_
  refine zqm U U U U U ?_
  refine Jc U U U U (fun m => znc) ?_
  refine Jc U U U U (fun m => Jk hT U U U U U U) ?_
  refine Jc U U U U (fun m => Jo hT U U U (Rd1.row (Vp m zpk) hd)) ?_
  refine zqm U U U U U ?_
  refine Jc U U U U (fun m => znc) ?_
  refine Jc U U U U (fun m => Jk hT U U U U U U) (Jc U U U U (fun m => Jk hT U U U U U U) ?_)
  refine Jc U U U U (fun m => Jo hT U U U zrda) ?_
  refine zqm U U U U U ?_
  refine Jc U U U U (fun m => znc) ?_
  refine Jc U U U U (fun m => Jk hT U U U U U U) ?_
  refine Jc U U U U (fun m => Jo hT U U U (Rd1.row (Vp m zpk) hd)) ?_
  refine zqm U U U U U ?_
  refine Vm U U (fun fr => Jw e155 U U (Vw (Ji zpk Jj) (h_spec E d D _ h2)) ?_)
  rintro _ _ ⟨rfl, rfl⟩
  refine ⟨[_], (by (repeat (first | exact Jj | exact Vc | refine Ji Jm ?_))), ?_⟩
  refine Jc U U U U (fun m => y_mul (m := s.place * (D.half : Int)) U U (Wm (by omega) (by omega))) ?_
  refine Jc U U U U (fun m => Wa U U zwr) ?_
  refine Jc U U U U (fun m => Wa U U zwr) ?_
  refine Vm U U (fun fr => Jw e135 U U (Vw (Ji zpk Jj) (read_spec E d D (2 + s.place * (D.half : Int) + k) _ hpn)) ?_)
  rintro _ _ ⟨rfl, rfl⟩
  refine ⟨[_], (by (repeat (first | exact Jj | exact Vc | refine Ji Jm ?_))), ?_⟩
  refine zqm U U U U U (Jc U U U U (fun m => Vg U U) (Jc U U U U (fun m => Vg U U) ?_))
  refine JM.lay U U U U (fun a hf => lays_alloc hT U U zcl) (fun b3 => ?_)
  refine Vm U U (fun fr => Vx hT U U U zln zoc zpk zln (⟨[_, _], (by (repeat (first | exact Jj | exact Vc | refine Ji Jm ?_))), ?_⟩))
  refine Jc U U U U (fun m => Jf rfl) ?_
  refine Vv (Ja (Jh (Jh ?_)))
  rw [hrd]
  refine Je (Jb (Jd rfl) U U U (Jb (y_neq U U) U U U ?_))
  refine Jg (Ja ?_)
  first | apply Jx rfl | apply Vo rfl
  case' ht =>
   intro h
   try (first | exact zom | exact zho h | subst h)
   all_goals
    refine Jh (Je (Jb (Jd rfl) U U U (Jb (Jf rfl) U U U (Jb (Jf rfl) U U U ?_))))
    refine Jg (Ja (Vn (Vb (Vj (Vb (Vb (Vj (Vb ?_))))))))
    refine JE.ret2 (.inl rfl) U U zrv zrv ?_
    first
     | (have hne : ¬ (sha (snapS s D)).take 16 = s.hash := by simpa using h
        refine ⟨row st 205 (scells s d) :: disk d D :: l, fun w q => q.sup zsup, ?_⟩
        rw [if_neg hne]
        exact ⟨rfl, rfl⟩)
     | (have hne : (sha (snapS s D)).take 16 = s.hash := by simpa using h
        refine ⟨own 5 1 (.slice (some ⟨g, 0, none⟩) z c) z (ints .u8 (snapS s D)) :: row st 205 (scells s d) :: disk d D :: l, fun w q => q.sup zsup, ?_⟩
        rw [if_pos hne]
        exact ⟨some ⟨g, 0, none⟩, c, rfl, rfl⟩)
  case' hf =>
   intro h
   try (first | exact zom | exact zho h | subst h)
   all_goals
    refine Vd ?_
  all_goals refine Ja ?_
  all_goals
   refine Je (Jb (Jd rfl) U U U ?_)
   refine Jb (y_slice_arr hT U U U U (.inl ⟨rfl, rfl⟩) (.inl ⟨rfl, rfl⟩) zix zix) U U U ?_
   refine Jl rfl (l_append hT U U U U U U U U zpk zrdn zln zoc zab zix rfl (fun ab5 cb5 hb5 => ?_))
   refine Jb (Jf rfl) U U U ?_
   refine Jg ?_
  all_goals refine Ju (Ja ?_)
  all_goals
   refine Je (Jb (Jd rfl) U U U ?_)
   refine Jb (Wa U U zwr) U U U ?_
   refine Jb (Jf rfl) U U U ?_
   refine Jg ?_
 all_goals
  refine Vt (s := (k, Value.slice a (64 * k) c)) (k + 1, _) ⟨by dsimp only; omega, _, _, rfl, by omega, by dsimp only; omega⟩ ⟨U, U, U, trivial⟩ (fun w q => ?_) (by dsimp only; omega)
  have e : ints .u8 (snapB s D (k + 1)) = ints .u8 (snapB s D k) ++ encB (D.read (2 + s.place * (D.half : Int) + k)) := by rw [snapB]; simp [ints, encB]
  dsimp only
  rw [e]
  exact q.sup zsup
end
section
open Go Go.SL
/-! What the sectors hold behind a snapshot's taking. -/
theorem dk_find_push (D : Dk) (i j : Int) (b : Blk) : (D.does.push i b).find j = if i = j then b else D.find j := by
 simp only [Dk.find, Dk.push, Dk.does, List.reverse_append, List.reverse_singleton, List.singleton_append, List.find?_cons]
 by_cases h : i = j <;> simp [h]
theorem dk_live_find (l : List (Int × Blk)) (k : Nat) (s : List Blk) (j : Nat) (hl : ∀ p ∈ l, 0 ≤ p.1 ∧ p.1 < s.length) (hj : j < s.length) :
 (liveOn (fun _ => true) l k s).getD j [] = match l.reverse.find? (fun p => p.1 = (j : Int)) with | some p => p.2 | none => s.getD j [] := by
 induction l generalizing k s with
 | nil => rfl
 | cons p r ih =>
   have hp := hl p (by simp)
   simp only [liveOn, if_true, List.reverse_cons, List.find?_append]
   rw [ih (k + 1) (s.set p.1.toNat p.2) (fun q hq => by simpa using hl q (by simp [hq])) (by simpa using hj)]
   cases hf : r.reverse.find? (fun p => p.1 = (j : Int)) with
   | some q => rfl
   | none =>
     simp only [Option.none_or, List.find?_singleton, List.getD_eq_getElem?_getD]
     by_cases he : p.1 = (j : Int)
     · simp [he, hj]
     · have : ¬ p.1.toNat = j := by omega
       simp [he, this]
theorem dk_find_settle {D : Dk} (h : D.Ok) (j : Int) (hj : 0 ≤ j ∧ j < D.safe.length) : (D.does.settle (fun _ => true)).find j = D.find j := by
 obtain ⟨k, rfl⟩ : ∃ k : Nat, j = k := ⟨j.toNat, by omega⟩
 have := dk_live_find D.pending 0 D.safe k (fun p hp => (h.pend p hp).2) (by omega)
 simp only [Dk.find, Dk.settle, Dk.does, List.reverse_nil, List.find?_nil, Int.toNat_natCast]
 exact this
structure Up (D : Dk) : Prop where
 ok : D.Ok
 dead : D.dead = false
 armed : D.armed = false
theorem Up.ready {D : Dk} (h : Up D) {i : Int} (hi : 0 ≤ i ∧ i < D.safe.length) : D.ready i = 0 := by
 rw [Dk.ready, h.dead, if_neg (by simp), if_neg (by omega)]
theorem Up.write {D : Dk} (h : Up D) {i : Int} (b : Blk) (hi : 0 ≤ i ∧ i < D.safe.length) : D.write i b = (D.does.push i b, 0) := by
 rw [Dk.write, if_neg (by rw [h.ready hi]; simp), if_neg (by simp [h.armed])]
theorem Up.push {D : Dk} (h : Up D) {i : Int} {b : Blk} (hi : 0 ≤ i ∧ i < D.safe.length) (hb : b.length = 64) : Up (D.does.push i b) := ⟨h.ok.does.push hb hi, h.dead, h.armed⟩
theorem Up.sync {D : Dk} (h : Up D) : D.sync = (D.does.settle (fun _ => true), 0) := by
 rw [Dk.sync, if_neg (by simp [h.dead]), if_neg (by simp [h.armed])]
theorem Up.settle {D : Dk} (h : Up D) : Up (D.does.settle (fun _ => true)) := ⟨h.ok.does.settle _, h.dead, h.armed⟩
theorem Up.read {D : Dk} (h : Up D) {i : Int} (hi : 0 ≤ i ∧ i < D.safe.length) : D.read i = D.find i := by rw [Dk.read, if_pos (h.ready hi)]
theorem takeW_up {D : Dk} {base : Int} {bs : List Int} {n : Nat} (h : Up D) (h0 : 0 ≤ base) (h1 : base + n ≤ D.safe.length) : ∀ k, k ≤ n →
 (takeW base bs D k).2 = 0 ∧ Up (takeW base bs D k).1 ∧ ∀ j : Int, (takeW base bs D k).1.find j = if base ≤ j ∧ j < base + k then chunk bs (j - base).toNat else D.find j
 | 0, _ => ⟨rfl, h, fun j => by rw [if_neg (by omega)]; rfl⟩
 | k + 1, hk => by
   obtain ⟨e, hu, hf⟩ := takeW_up h h0 h1 k (by omega)
   have hl := (takeW_len base bs D k).1
   have hi : 0 ≤ base + k ∧ base + k < (takeW base bs D k).1.safe.length := by omega
   rw [takeW, if_pos e, hu.write _ hi]
   refine ⟨rfl, hu.push hi (chunk_length _ _), fun j => ?_⟩
   dsimp only
   rw [dk_find_push, hf]
   by_cases hj : base + k = j
   · rw [if_pos hj, if_pos (by omega), show (j - base).toNat = k by omega]
   · rw [if_neg hj]
     by_cases hj2 : base ≤ j ∧ j < base + k
     · rw [if_pos hj2, if_pos (by omega)]
     · rw [if_neg hj2, if_neg (by omega)]
structure Taken (s : Sb) (D : Dk) (bs : List Int) (D' : Dk) : Prop where
 up : Up D'
 len : D'.safe.length = D.safe.length
 none : D'.pending = []
 find : ∀ j : Int, 0 ≤ j → j < D.safe.length → D'.find j = if j = ((nextS s bs).turn.toNat % 2 : Nat) then sbBlock (nextS s bs)
  else if 2 + (nextS s bs).place * (D.half : Int) ≤ j ∧ j < 2 + (nextS s bs).place * (D.half : Int) + ((bs.length + 63) / 64 : Nat) then chunk bs (j - (2 + (nextS s bs).place * (D.half : Int))).toNat else D.find j
theorem takeS_up {s : Sb} {D : Dk} {bs : List Int} (h : Up D) (h2 : 2 ≤ D.safe.length) (hp : s.place = 0 ∨ s.place = 1) (hl : bs.length ≤ 64 * D.half) : ∃ D', takeS s D bs = (nextS s bs, D', 0) ∧ Taken s D bs D' := by
 have h4 : 4 * D.half ≤ D.safe.length - 2 := by unfold Dk.half; omega
 obtain ⟨base, hb⟩ : ∃ base, 2 + (nextS s bs).place * (D.half : Int) = base := ⟨_, rfl⟩
 obtain ⟨n, hn⟩ : ∃ n, (bs.length + 63) / 64 = n := ⟨_, rfl⟩
 have h5 : 0 ≤ (nextS s bs).place * (D.half : Int) ∧ (nextS s bs).place * (D.half : Int) ≤ D.half := by
  have e1 : (nextS s bs).place = 1 - s.place := rfl
  rw [e1]
  rcases hp with e | e <;> rw [e]
  · rw [show (1 - 0 : Int) = 1 by rfl, Int.one_mul]; omega
  · rw [show (1 - 1 : Int) = 0 by rfl, Int.zero_mul]; omega
 obtain ⟨e, hu, hf⟩ := takeW_up (bs := bs) (n := n) h (base := base) (by omega) (by omega) n (Nat.le_refl _)
 have hwl := (takeW_len base bs D n).1
 obtain ⟨Wd, hW⟩ : ∃ Wd, (takeW base bs D n).1 = Wd := ⟨_, rfl⟩
 rw [hW] at hu hf hwl
 have hY := hu.settle
 have hYl : (Wd.does.settle (fun _ => true)).safe.length = D.safe.length := by simp [Dk.settle, liveOn_length, Dk.does, hwl]
 obtain ⟨t, ht⟩ : ∃ t : Int, (((nextS s bs).turn.toNat % 2 : Nat) : Int) = t := ⟨_, rfl⟩
 have hti : 0 ≤ t ∧ t < (Wd.does.settle (fun _ => true)).safe.length := by omega
 have hV := hY.push hti (sbBlock_length (nextS_hash s bs))
 have hVl : ((Wd.does.settle (fun _ => true)).does.push t (sbBlock (nextS s bs))).safe.length = D.safe.length := hYl
 refine ⟨_, ?_, hV.settle, ?_, rfl, fun j hj0 hj1 => ?_⟩
 · unfold takeS
   rw [if_neg (by omega), hb, hn]
   dsimp only
   rw [if_pos e, hW, hu.sync, if_pos rfl]
   dsimp only
   rw [ht, hY.write _ hti, if_pos rfl]
   dsimp only
   rw [hV.sync, if_pos rfl]
 · simp [Dk.settle, liveOn_length, Dk.does, Dk.push, hwl]
 · rw [dk_find_settle hV.ok j (by rw [hVl]; omega), dk_find_push, ht, hb, hn]
   by_cases hjt : t = j
   · rw [if_pos hjt, if_pos hjt.symm]
   · rw [if_neg hjt, if_neg (fun e => hjt e.symm), dk_find_settle hu.ok j (by omega), hf]
theorem snapB_taken {s : Sb} {D D' : Dk} {bs : List Int} (h : Taken s D bs D') (h2 : 2 ≤ D.safe.length) (hp : s.place = 0 ∨ s.place = 1) (hl : bs.length ≤ 64 * D.half) : ∀ k, k ≤ (bs.length + 63) / 64 →
 snapB (nextS s bs) D' k = bs.take (64 * k) ++ List.replicate (64 * k - bs.length) 0
 | 0, _ => by simp [snapB]
 | k + 1, hk => by
   have h4 : 4 * D.half ≤ D.safe.length - 2 := by unfold Dk.half; omega
   have hh : D'.half = D.half := by unfold Dk.half; rw [h.len]
   have h5 : 0 ≤ (nextS s bs).place * (D.half : Int) ∧ (nextS s bs).place * (D.half : Int) ≤ D.half := by
    have e1 : (nextS s bs).place = 1 - s.place := rfl
    rw [e1]
    rcases hp with e | e <;> rw [e]
    · rw [show (1 - 0 : Int) = 1 by rfl, Int.one_mul]; omega
    · rw [show (1 - 1 : Int) = 0 by rfl, Int.zero_mul]; omega
   rw [snapB, snapB_taken h h2 hp hl k (by omega), hh, h.up.read (by rw [h.len]; omega), h.find _ (by omega) (by omega), if_neg (by omega), if_pos (by omega)]
   rw [show (2 + (nextS s bs).place * (D.half : Int) + (k : Int) - (2 + (nextS s bs).place * (D.half : Int))).toNat = k by omega, show 64 * k - bs.length = 0 by omega, List.replicate_zero, List.append_nil, chunk, ← List.append_assoc]
   rw [show bs.take (64 * k) ++ (bs.drop (64 * k)).take 64 = bs.take (64 * (k + 1)) by rw [show 64 * (k + 1) = 64 * k + 64 by omega, List.take_add]]
   congr 2
   rw [List.length_take, List.length_drop]
   omega
theorem snapS_taken {s : Sb} {D D' : Dk} {bs : List Int} (h : Taken s D bs D') (h2 : 2 ≤ D.safe.length) (hp : s.place = 0 ∨ s.place = 1) (hl : bs.length ≤ 64 * D.half) : snapS (nextS s bs) D' = bs := by
 have hz : (nextS s bs).size.toNat = bs.length := by simp [nextS]
 have hN : bs.take (64 * ((bs.length + 63) / 64)) = bs := List.take_of_length_le (by omega)
 rw [snapS, hz, snapB_taken h h2 hp hl _ (Nat.le_refl _), hN, List.take_left' rfl]
theorem Taken.fits {s : Sb} {D D' : Dk} {bs : List Int} (h : Taken s D bs D') (h2 : 2 ≤ D.safe.length) (hp : s.place = 0 ∨ s.place = 1) (hl : bs.length ≤ 64 * D.half) : Fits (nextS s bs) D' :=
 ⟨nextS_hash s bs, by have e1 : (nextS s bs).place = 1 - s.place := rfl; rw [e1]; omega, by simp [nextS], by
  have hh : D'.half = D.half := by unfold Dk.half; rw [h.len]
  rw [hh]
  simp only [nextS]
  omega, by rw [h.len]; exact h2⟩
theorem new_up {n : Nat} (h1 : 1 ≤ n) (h2 : n ≤ 512) : Up (Dk.new n) := ⟨Dk.new_ok h1 h2, rfl, rfl⟩
theorem formatted_up {D : Dk} (h : Up D) (h2 : 2 ≤ D.safe.length) : Up D.formatted ∧ D.formatted.safe.length = D.safe.length ∧ D.formatted.pending = [] := by
 have h1 := h.push (i := 0) (b := sbBlock sb0) (by omega) (sbBlock_length sb0_hash)
 have h3 := h1.push (i := 1) (b := zeroB) (by simp only [Dk.push, Dk.does]; omega) rfl
 exact ⟨h3.settle, by simp [Dk.formatted, Dk.settle, liveOn_length, Dk.push, Dk.does], rfl⟩
end
section
open Go Go.SL
theorem Fc.still {P : Program} {E : World} {f : FuncId} {args : Array Value} {l p r : List HProp} {V : Value} (hs : Split l p r) (h : Fc P E f args (p ++ r) (fun v l' => v = V ∧ l' = p ++ r)) : Fc P E f args l (fun v l' => v = V ∧ l' = l) :=
 Fc.eqs ((Vw hs h).mono fun v l' ⟨h1, h2⟩ => ⟨h1, fun w s => by subst h2; exact s.imp fun hp => (hs.iff hp).2⟩)
theorem sbBlock_ten (s : Sb) : (sbBlock s).getD 10 0 = s.place % 256 := by simp [sbBlock, sbHead, lettersL]
theorem sbOk_place {b : Blk} (h : sbOk b = true) : (sbRead b).place = 0 ∨ (sbRead b).place = 1 := by
 simp only [sbOk, Bool.and_eq_true, decide_eq_true_eq] at h
 obtain ⟨h1, h2⟩ := h
 have h3 := sbBlock_ten (sbRead b)
 rw [h2] at h3
 have h4 : (sbRead b).place = b.getD 10 0 := by
  show IntKind.i64.wrap (b.getD 10 0) = b.getD 10 0
  exact Wm (by omega) (by omega)
 omega
theorem sbRead_hash {b : Blk} (h : b.length = 64) : (sbRead b).hash.length = 16 := by simp [sbRead, h]
theorem sbRead_size (b : Blk) : 0 ≤ (sbRead b).size := Int.natCast_nonneg _
def Dk.counts (D : Dk) : Option Sb :=
 if sbOk (D.find 0) = true then (if sbOk (D.find 1) = true ∧ (sbRead (D.find 0)).turn.toNat < (sbRead (D.find 1)).turn.toNat then some (sbRead (D.find 1)) else some (sbRead (D.find 0)))
 else if sbOk (D.find 1) = true then some (sbRead (D.find 1)) else none
def openP (s : Sb) (d : Nat) (D : Dk) (l : List HProp) (v : Value) (l' : List HProp) : Prop :=
 if s.size ≤ 64 * D.half ∧ (sha (snapS s D)).take 16 = s.hash then ∃ st, v = .tuple #[.pointer (some ⟨st, 0, none⟩), .int .i64 0] ∧ l' = row st 205 (scells s d) :: disk d D :: l
 else v = .tuple #[.pointer none, .int .i64 210] ∧ l' = disk d D :: l
attribute [local irreducible] J JL JE JM LS Y Fc RV Code.wp wpList Code.wpIn wpListIn
attribute [local irreducible] Yc
variable (E : World)
theorem snapshot_any (st d : Nat) (s : Sb) (D : Dk) (l : List HProp) (hf : Fits s D) (hdead : D.dead = false) (hpn : D.pending.length ≤ 1000000) :
 Fc prog E 111 [.pointer (some ⟨st, 0, none⟩)].toArray (row st 205 (scells s d) :: disk d D :: l)
  (fun v l' => ∃ a n c e g, v = .tuple #[.slice a n c, .int .i64 e] ∧ ((sha (snapS s D)).take 16 = s.hash ∧ e = 0 ∨ ¬ (sha (snapS s D)).take 16 = s.hash ∧ e = 210) ∧ l' = g ++ (row st 205 (scells s d) :: disk d D :: l)) :=
 (snapshot_spec E st d s D l hf hdead hpn).mono fun v l' h => by
   by_cases hs : (sha (snapS s D)).take 16 = s.hash
   · rw [if_pos hs] at h
     obtain ⟨a, c, e1, e2⟩ := h
     exact ⟨a, _, c, 0, [_], e1, .inl ⟨hs, rfl⟩, e2⟩
   · rw [if_neg hs] at h
     exact ⟨none, 0, 0, 210, [], h.1, .inr ⟨hs, rfl⟩, h.2⟩
section
variable (d : Nat) (D : Dk) (l : List HProp) (h64 : 64 ≤ D.safe.length) (hdead : D.dead = false) (hpn : D.pending.length ≤ 1000000) (A B : Blk) (hA : D.find 0 = A) (hB : D.find 1 = B) (one two : Sb) (h1 : sbRead A = one) (h2 : sbRead B = two)
include h64 hdead hpn hA hB h1 h2
theorem open_none (k1 : sbOk A = false) (k2 : sbOk B = false) :
 Fc prog E 87 [.pointer (some ⟨d, 0, none⟩)].toArray (disk d D :: l) (fun v l' => v = .tuple #[.pointer none, .int .i64 210] ∧ l' = disk d D :: l) := by
 refine disk_okd fun hok => Fc.eqs ?_
 have hm := hok.most
 have hAl : A.length = 64 := by rw [← hA]; exact hok.find ⟨by omega, by omega⟩
 have hBl : B.length = 64 := by rw [← hB]; exact hok.find ⟨by omega, by omega⟩
 have hAL : (encB A).length = 64 := (encB_length _).trans hAl
 have hBL : (encB B).length = 64 := (encB_length _).trans hBl
 have ha : one.hash.length = 16 := by rw [← h1]; exact sbRead_hash hAl
 have hb : two.hash.length = 16 := by rw [← h2]; exact sbRead_hash hBl
 have ha19 : (encS one).length = 19 := by simp [encS, ints, ha]
 have hb19 : (encS two).length = 19 := by simp [encS, ints, hb]
 have ha1 := encS_one one
 have hb1 := encS_one two
 have hr : ∀ i : Int, 0 ≤ i → i < 2 → D.ready i = 0 := fun i h0 hi => by rw [Dk.ready, hdead, if_neg (by simp), if_neg (by omega)]
 have c0 : ∀ l, Fc prog E 135 [.pointer (some ⟨d, 0, none⟩), .int .i64 0].toArray (disk d D :: l) (fun v l' => v = .tuple #[.agg (encB A).toArray, .int .i64 0] ∧ l' = disk d D :: l) := fun l => by
  have q := read_good E d D 0 l (hr 0 (by decide) (by decide)) hpn
  rwa [hA] at q
 have c1 : ∀ l, Fc prog E 135 [.pointer (some ⟨d, 0, none⟩), .int .i64 1].toArray (disk d D :: l) (fun v l' => v = .tuple #[.agg (encB B).toArray, .int .i64 0] ∧ l' = disk d D :: l) := fun l => by
  have q := read_good E d D 1 l (hr 1 (by decide) (by decide)) hpn
  rwa [hB] at q
 have s0 : ∀ l, Fc prog E 136 [.agg (encB A).toArray].toArray l (fun v l' => v = .tuple #[.agg (encS one).toArray, .bool false] ∧ l' = l) := fun l => by
  have q := read_super_spec E A l hAl
  rwa [h1, k1] at q
 have s1 : ∀ l, Fc prog E 136 [.agg (encB B).toArray].toArray l (fun v l' => v = .tuple #[.agg (encS two).toArray, .bool false] ∧ l' = l) := fun l => by
  have q := read_super_spec E B l hBl
  rwa [h2, k2] at q
 refine Va (c := ?codeC) Tryz.func87 ?hb Tryz.ntmps87 ?hl ?_
 case hb => exact rfl
 case hl => exact rfl
 refine Jh (Je (Jb (Jf rfl) U U U (Jb (Jf rfl) U U U ?_)))
 refine Jg (Ja (Jh (Ve (Jh (Je (Jb (Jd rfl) U U U (Jb (Wc hT U U U U) U U U (Jb (Jf rfl) U U U ?_))))))))
 refine Jg (Ja ?_)
 refine Vk rfl zbl ?_
 refine Jh (Je (Jb (Jd rfl) U U U ?_))
 refine Jl rfl (Jw e61 U U (len_spec E d D _) ?_)
 rintro _ _ ⟨rfl, rfl⟩
 refine Jb (y_lss U U) U U U (Jb (Jf rfl) U U U ?_)
 refine Jg (Ja ?_)
 refine Vk rfl zbl ?_
 refine Vd (Ju (Ja (Jh (Je (Jb (Jd rfl) U U U ?_)))))
 refine Jl rfl (Jw e135 U U (c0 _) ?_)
 rintro _ _ ⟨rfl, rfl⟩
 refine Jb (Jd rfl) U U U (Jb (Vg U U) U U U (Jb (Vg U U) U U U ?_))
 refine Jl rfl (Wf hT U U zcl rfl (fun b3 => ?_))
 refine Jl rfl (Vx hT U U U zln zoc zpk zln ?_)
 refine Jb (Jf rfl) U U U ?_
 refine Jg (Ja (Jh (Jh (Je (Jb (Jd rfl) U U U (Jb (y_neq U U) U U U ?_))))))
 refine Jg (Ja ?_)
 refine Vk rfl zbl ?_
 refine Vd (Ja (Jh (Je (Jb (Jd rfl) U U U ?_))))
 refine Jl rfl (Jw e135 U U (Vw (Ji zpk Jj) (c1 _)) ?_)
 rintro _ _ ⟨rfl, rfl⟩
 refine Jb (Jd rfl) U U U (Jb (Vg U U) U U U (Jb (Vg U U) U U U ?_))
 refine Jl rfl (Wf hT U U zcl rfl (fun b6 => ?_))
 refine Jl rfl (Vx hT U U U zln zoc zpk zln ?_)
 refine Jb (Jf rfl) U U U ?_
 refine Jg (Ja (Jh (Jh (Je (Jb (Jd rfl) U U U (Jb (y_neq U U) U U U ?_))))))
 refine Jg (Ja ?_)
 refine Vk rfl zbl ?_
 refine Vd (Ja (Jh (Je ?_)))
 refine Jb (We hT U U U zrdn zln) U U U ?_
 refine Jl rfl (Jw e136 U U (s0 _) ?_)
 rintro _ _ ⟨rfl, rfl⟩
 refine Jb (Jd rfl) U U U (Jb (Vg U U) U U U (Jb (Vg U U) U U U ?_))
 refine Jl rfl (Wf hT U U zcl rfl (fun b9 => ?_))
 refine Jl rfl (Vx hT U U U zln zoc zpk zln ?_)
 refine Jb (Jf rfl) U U U ?_
 refine Jg (Ja (Jh (Je ?_)))
 refine Jb (We hT U U U zrdn zln) U U U ?_
 refine Jl rfl (Jw e136 U U (s1 _) ?_)
 rintro _ _ ⟨rfl, rfl⟩
 refine Jb (Jd rfl) U U U (Jb (Vg U U) U U U (Jb (Vg U U) U U U ?_))
 refine Jl rfl (Wf hT U U zcl rfl (fun b12 => ?_))
 refine Jl rfl (Vx hT U U U zln zoc zpk zln ?_)
 refine Jb (Jf rfl) U U U ?_
 refine Jg (Ja (Jh (Je ?_)))
 refine Jb (We hT U U U zrdn zln) U U U ?_
 refine Jb (Jd rfl) U U U ?_
 refine Jb (y_build (cs := scells one d) hT U U U U U U ⟨⟨ha19, Nat.le_of_ble_eq_true rfl⟩, ⟨rfl, Nat.le_of_ble_eq_true rfl⟩, trivial⟩ (by simp [fillE, Value.cells, scells, ha19, i199, i27])) U U U ?_
 refine Jl rfl (l_box rfl zcl rfl (fun b14 => ?_))
 refine Jb (Jf rfl) U U U ?_
 refine Jg (Ja (Jh (Ve (Jh (Je (Jb (Jd rfl) U U U (Jb (y_not rfl) U U U (Jb (Jd rfl) U U U ?_))))))))
 all_goals (first | (refine Vh U U U (fun h => ?_) (fun h => ?_) <;> try (first | (exfalso; omega) | exact absurd rfl h)) | (refine Vr U U U (fun h => ?_) (fun h => ?_) <;> try (first | cases h | (exfalso; simp at h; done))) | skip)
 all_goals (first | refine Js U U U U U U ?_ | refine Jp U U U U U ?_ | refine Jt U U U (Jd rfl) U U ?_)
 all_goals (first | refine Js U U U U U U ?_ | refine Jp U U U U U ?_ | refine Jt U U U (y_not rfl) U U ?_)
 all_goals (refine Jb (Wb U U U) U U U ?_)
 all_goals (refine Jb (Jf rfl) U U U ?_)
 all_goals refine Jg (Ja ?_)
 all_goals
  refine J.cond_t rfl zbl ?_
  refine Jh (Je (Jb (Jf rfl) U U U (Jb (Jf rfl) U U U ?_)))
  refine Jg (Ja (Vn (Vj (Vb ?_))))
  refine JE.ret2 (.inl rfl) U U zrv zrv ?_
  exact ⟨rfl, fun w q => q.sup zsup⟩
theorem open_one (k1 : sbOk A = true) (k2 : sbOk B = false) :
 Fc prog E 87 [.pointer (some ⟨d, 0, none⟩)].toArray (disk d D :: l) (openP one d D l) := by
 refine disk_okd fun hok => Wg ?_
 have hm := hok.most
 have hAl : A.length = 64 := by rw [← hA]; exact hok.find ⟨by omega, by omega⟩
 have hBl : B.length = 64 := by rw [← hB]; exact hok.find ⟨by omega, by omega⟩
 have hAL : (encB A).length = 64 := (encB_length _).trans hAl
 have hBL : (encB B).length = 64 := (encB_length _).trans hBl
 have ha : one.hash.length = 16 := by rw [← h1]; exact sbRead_hash hAl
 have hb : two.hash.length = 16 := by rw [← h2]; exact sbRead_hash hBl
 have ha19 : (encS one).length = 19 := by simp [encS, ints, ha]
 have hb19 : (encS two).length = 19 := by simp [encS, ints, hb]
 have ha1 := encS_one one
 have hb1 := encS_one two
 have hr : ∀ i : Int, 0 ≤ i → i < 2 → D.ready i = 0 := fun i h0 hi => by rw [Dk.ready, hdead, if_neg (by simp), if_neg (by omega)]
 have c0 : ∀ l, Fc prog E 135 [.pointer (some ⟨d, 0, none⟩), .int .i64 0].toArray (disk d D :: l) (fun v l' => v = .tuple #[.agg (encB A).toArray, .int .i64 0] ∧ l' = disk d D :: l) := fun l => by
  have q := read_good E d D 0 l (hr 0 (by decide) (by decide)) hpn
  rwa [hA] at q
 have c1 : ∀ l, Fc prog E 135 [.pointer (some ⟨d, 0, none⟩), .int .i64 1].toArray (disk d D :: l) (fun v l' => v = .tuple #[.agg (encB B).toArray, .int .i64 0] ∧ l' = disk d D :: l) := fun l => by
  have q := read_good E d D 1 l (hr 1 (by decide) (by decide)) hpn
  rwa [hB] at q
 have s0 : ∀ l, Fc prog E 136 [.agg (encB A).toArray].toArray l (fun v l' => v = .tuple #[.agg (encS one).toArray, .bool true] ∧ l' = l) := fun l => by
  have q := read_super_spec E A l hAl
  rwa [h1, k1] at q
 have s1 : ∀ l, Fc prog E 136 [.agg (encB B).toArray].toArray l (fun v l' => v = .tuple #[.agg (encS two).toArray, .bool false] ∧ l' = l) := fun l => by
  have q := read_super_spec E B l hBl
  rwa [h2, k2] at q
 refine Va (c := ?codeC) Tryz.func87 ?hb Tryz.ntmps87 ?hl ?_
 case hb => exact rfl
 case hl => exact rfl
 refine Jh (Je (Jb (Jf rfl) U U U (Jb (Jf rfl) U U U ?_)))
 refine Jg (Ja (Jh (Ve (Jh (Je (Jb (Jd rfl) U U U (Jb (Wc hT U U U U) U U U (Jb (Jf rfl) U U U ?_))))))))
 refine Jg (Ja ?_)
 refine Vk rfl zbl ?_
 refine Jh (Je (Jb (Jd rfl) U U U ?_))
 refine Jl rfl (Jw e61 U U (len_spec E d D _) ?_)
 rintro _ _ ⟨rfl, rfl⟩
 refine Jb (y_lss U U) U U U (Jb (Jf rfl) U U U ?_)
 refine Jg (Ja ?_)
 refine Vk rfl zbl ?_
 refine Vd (Ju (Ja (Jh (Je (Jb (Jd rfl) U U U ?_)))))
 refine Jl rfl (Jw e135 U U (c0 _) ?_)
 rintro _ _ ⟨rfl, rfl⟩
 refine Jb (Jd rfl) U U U (Jb (Vg U U) U U U (Jb (Vg U U) U U U ?_))
 refine Jl rfl (Wf hT U U zcl rfl (fun b3 => ?_))
 refine Jl rfl (Vx hT U U U zln zoc zpk zln ?_)
 refine Jb (Jf rfl) U U U ?_
 refine Jg (Ja (Jh (Jh (Je (Jb (Jd rfl) U U U (Jb (y_neq U U) U U U ?_))))))
 refine Jg (Ja ?_)
 refine Vk rfl zbl ?_
 refine Vd (Ja (Jh (Je (Jb (Jd rfl) U U U ?_))))
 refine Jl rfl (Jw e135 U U (Vw (Ji zpk Jj) (c1 _)) ?_)
 rintro _ _ ⟨rfl, rfl⟩
 refine Jb (Jd rfl) U U U (Jb (Vg U U) U U U (Jb (Vg U U) U U U ?_))
 refine Jl rfl (Wf hT U U zcl rfl (fun b6 => ?_))
 refine Jl rfl (Vx hT U U U zln zoc zpk zln ?_)
 refine Jb (Jf rfl) U U U ?_
 refine Jg (Ja (Jh (Jh (Je (Jb (Jd rfl) U U U (Jb (y_neq U U) U U U ?_))))))
 refine Jg (Ja ?_)
 refine Vk rfl zbl ?_
 refine Vd (Ja (Jh (Je ?_)))
 refine Jb (We hT U U U zrdn zln) U U U ?_
 refine Jl rfl (Jw e136 U U (s0 _) ?_)
 rintro _ _ ⟨rfl, rfl⟩
 refine Jb (Jd rfl) U U U (Jb (Vg U U) U U U (Jb (Vg U U) U U U ?_))
 refine Jl rfl (Wf hT U U zcl rfl (fun b9 => ?_))
 refine Jl rfl (Vx hT U U U zln zoc zpk zln ?_)
 refine Jb (Jf rfl) U U U ?_
 refine Jg (Ja (Jh (Je ?_)))
 refine Jb (We hT U U U zrdn zln) U U U ?_
 refine Jl rfl (Jw e136 U U (s1 _) ?_)
 rintro _ _ ⟨rfl, rfl⟩
 refine Jb (Jd rfl) U U U (Jb (Vg U U) U U U (Jb (Vg U U) U U U ?_))
 refine Jl rfl (Wf hT U U zcl rfl (fun b12 => ?_))
 refine Jl rfl (Vx hT U U U zln zoc zpk zln ?_)
 refine Jb (Jf rfl) U U U ?_
 refine Jg (Ja (Jh (Je ?_)))
 refine Jb (We hT U U U zrdn zln) U U U ?_
 refine Jb (Jd rfl) U U U ?_
 refine Jb (y_build (cs := scells one d) hT U U U U U U ⟨⟨ha19, Nat.le_of_ble_eq_true rfl⟩, ⟨rfl, Nat.le_of_ble_eq_true rfl⟩, trivial⟩ (by simp [fillE, Value.cells, scells, ha19, i199, i27])) U U U ?_
 refine Jl rfl (l_box rfl zcl rfl (fun b14 => ?_))
 refine Jb (Jf rfl) U U U ?_
 refine Jg (Ja (Jh (Ve (Jh (Je (Jb (Jd rfl) U U U (Jb (y_not rfl) U U U (Jb (Jd rfl) U U U ?_))))))))
 all_goals (first | (refine Vh U U U (fun h => ?_) (fun h => ?_) <;> try (first | (exfalso; omega) | exact absurd rfl h)) | (refine Vr U U U (fun h => ?_) (fun h => ?_) <;> try (first | cases h | (exfalso; simp at h; done))) | skip)
 all_goals (first | refine Js U U U U U U ?_ | refine Jp U U U U U ?_ | refine Jt U U U (Jd rfl) U U ?_)
 all_goals (first | refine Js U U U U U U ?_ | refine Jp U U U U U ?_ | refine Jt U U U (y_not rfl) U U ?_)
 all_goals (refine Jb (Wb U U U) U U U ?_)
 all_goals (refine Jb (Jf rfl) U U U ?_)
 all_goals refine Jg (Ja ?_)
 all_goals
  refine Vk rfl zbl ?_
  refine Jh (Je (Jb (Jd rfl) U U U (Jb (y_not rfl) U U U (Jb (Jd rfl) U U U ?_))))
  all_goals (first | (refine Vh U U U (fun h => ?_) (fun h => ?_) <;> try (first | (exfalso; omega) | exact absurd rfl h)) | (refine Vr U U U (fun h => ?_) (fun h => ?_) <;> try (first | cases h | (exfalso; simp at h; done))) | skip)
  all_goals (first | refine Js U U U U U U ?_ | refine Jp U U U U U ?_ | refine Jt U U U (Jd rfl) U U ?_)
  all_goals (first | refine Js U U U U U U ?_ | refine Jp U U U U U ?_ | refine Jt U U U (Jd rfl) U U ?_)
  all_goals (first | (refine Vh U U U (fun h => ?_) (fun h => ?_) <;> try (first | (exfalso; omega) | exact absurd rfl h)) | (refine Vr U U U (fun h => ?_) (fun h => ?_) <;> try (first | cases h | (exfalso; simp at h; done))) | skip)
  all_goals (first | refine Js U U U U U U ?_ | refine Jp U U U U U ?_ | refine Jt U U U (Jk hT U U U U U U) U U ?_)
  all_goals (first | refine Js U U U U U U ?_ | refine Jp U U U U U ?_ | refine Jt U U U (Jo hT U U U zrd) U U ?_)
  all_goals (first | refine Js U U U U U U ?_ | refine Jp U U U U U ?_ | refine Jt U U U (Jk hT U U U U U U) U U ?_)
  all_goals (first | refine Js U U U U U U ?_ | refine Jp U U U U U ?_ | refine Jt U U U (Jo hT U U U zrd) U U ?_)
  all_goals (first | refine Js U U U U U U ?_ | refine Jp U U U U U ?_ | refine Jt U U U (y_gtr U U) U U ?_)
  all_goals (first | refine Js U U U U U U ?_ | refine Jp U U U U U ?_ | refine Jt U U U (Wb U U U) U U ?_)
  all_goals (refine Jb (Wb U U U) U U U ?_)
  all_goals (refine Jb (Jf rfl) U U U ?_)
  all_goals refine Jg (Ja ?_)
  all_goals
   refine Vk rfl zbl ?_
   refine Vd ?_
 all_goals refine Ju (Ja ?_)
 all_goals
  refine Jh (Jh ?_)
  refine Vz _ _ [(0, .q), (1, .q), (2, .q), (3, .q), (4, .q), (5, .q), (6, .q), (7, .q)] mixed (by kernel_rfl) (Jj) ?_
  refine zqm U U U U U ?_
  refine Jc U U U U (fun m => znc) ?_
  refine Jc U U U U (fun m => Jk hT U U U U U U) (Jc U U U U (fun m => Jk hT U U U U U U) ?_)
  refine Jc U U U U (fun m => Jo hT U U U zrda) ?_
  refine zqm U U U U U ?_
  refine Jc U U U U (fun m => y_callF e137 rfl (Fc.still (p := [row b14 205 (scells one d), disk d D]) (Ji (Vp m zpk) (Ji (Vp m zpk) Jj)) (room_spec E b14 d one D _ ha (by omega)))) ?_
  refine Jc U U U U (fun m => y_gtr U U) ?_
  refine Vv (Ja ?_)
  first | apply Jx rfl | apply Vo rfl
  case' ht =>
   intro h
   try (first | exact zom | exact zho h | subst h)
   all_goals
    refine Jh (Je (Jb (Jf rfl) U U U (Jb (Jf rfl) U U U ?_)))
    refine Jg (Ja (Vn (Vb ?_)))
    refine JE.ret2 (.inl rfl) U U zrv zrv ?_
    unfold openP
    first
     | (refine ⟨disk d D :: l, fun w q => q.sup zsup, ?_⟩
        rw [if_neg (by rintro ⟨hq, _⟩; omega)]
        exact ⟨rfl, rfl⟩)
     | (refine ⟨disk d D :: l, fun w q => q.sup zsup, ?_⟩
        rw [if_neg (by rintro ⟨_, hq⟩; rcases he with ⟨_, e0⟩ | ⟨hn, _⟩; exact h e0; exact hn hq)]
        rcases he with ⟨_, rfl⟩ | ⟨_, rfl⟩
        · exact absurd rfl h
        · exact ⟨rfl, rfl⟩)
     | (refine ⟨row b14 205 (scells one d) :: disk d D :: l, fun w q => q.sup zsup, ?_⟩
        rw [if_pos ⟨by omega, by rcases he with ⟨hq, _⟩ | ⟨_, e0⟩; exact hq; omega⟩]
        exact ⟨b14, rfl, rfl⟩)
  case' hf =>
   intro h
   try (first | exact zom | exact zho h | subst h)
   all_goals
    refine Vd ?_
  all_goals refine Ja ?_
  all_goals
   refine Jh (Jh ?_)
   have hfit : Fits one D := ⟨ha, by rw [← h1]; exact sbOk_place k1, by rw [← h1]; exact sbRead_size _, by omega, by omega⟩
   refine Je (Jb (Jd rfl) U U U ?_)
   refine Jl rfl (Jw e111 U U (Vw (Ji zpk (Ji zpk Jj)) (snapshot_any E b14 d one D _ hfit hdead hpn)) ?_)
   rintro _ _ ⟨sa, sn, sc, e, g, rfl, he, rfl⟩
   refine Jb (Jd rfl) U U U (Jb (Vg U U) U U U (Jb (Vg U U) U U U (Jb (Jf rfl) U U U (Jb (Jf rfl) U U U ?_))))
   refine Jg (Ja (Jh (Je (Jb (Jd rfl) U U U (Jb (y_neq U U) U U U ?_)))))
   refine Jg (Ja ?_)
   first | apply Jx rfl | apply Vo rfl
   case' ht =>
    intro h
    try (first | exact zom | exact zho h | subst h)
    all_goals
     refine Jh (Je (Jb (Jd rfl) U U U (Jb (Jf rfl) U U U (Jb (Jf rfl) U U U ?_))))
     refine Jg (Ja (Vn (Vb ?_)))
     refine JE.ret2 (.inl rfl) U U zrv zrv ?_
     unfold openP
     first
      | (refine ⟨disk d D :: l, fun w q => q.sup zsup, ?_⟩
         rw [if_neg (by rintro ⟨hq, _⟩; omega)]
         exact ⟨rfl, rfl⟩)
      | (refine ⟨disk d D :: l, fun w q => q.sup zsup, ?_⟩
         rw [if_neg (by rintro ⟨_, hq⟩; rcases he with ⟨_, e0⟩ | ⟨hn, _⟩; exact h e0; exact hn hq)]
         rcases he with ⟨_, rfl⟩ | ⟨_, rfl⟩
         · exact absurd rfl h
         · exact ⟨rfl, rfl⟩)
      | (refine ⟨row b14 205 (scells one d) :: disk d D :: l, fun w q => q.sup zsup, ?_⟩
         rw [if_pos ⟨by omega, by rcases he with ⟨hq, _⟩ | ⟨_, e0⟩; exact hq; omega⟩]
         exact ⟨b14, rfl, rfl⟩)
   case' hf =>
    intro h
    try (first | exact zom | exact zho h | subst h)
    all_goals
     refine Vd ?_
   all_goals refine Ja ?_
   all_goals
    refine Jh (Je (Jb (Jd rfl) U U U (Jb (Jf rfl) U U U (Jb (Jf rfl) U U U ?_))))
    refine Jg (Ja (Vn ?_))
    refine JE.ret2 (.inl rfl) U U zrv zrv ?_
    unfold openP
    first
     | (refine ⟨disk d D :: l, fun w q => q.sup zsup, ?_⟩
        rw [if_neg (by rintro ⟨hq, _⟩; omega)]
        exact ⟨rfl, rfl⟩)
     | (refine ⟨disk d D :: l, fun w q => q.sup zsup, ?_⟩
        rw [if_neg (by rintro ⟨_, hq⟩; rcases he with ⟨_, e0⟩ | ⟨hn, _⟩; exact h e0; exact hn hq)]
        rcases he with ⟨_, rfl⟩ | ⟨_, rfl⟩
        · exact absurd rfl h
        · exact ⟨rfl, rfl⟩)
     | (refine ⟨row b14 205 (scells one d) :: disk d D :: l, fun w q => q.sup zsup, ?_⟩
        rw [if_pos ⟨by omega, by rcases he with ⟨hq, _⟩ | ⟨_, e0⟩; exact hq; omega⟩]
        exact ⟨b14, rfl, rfl⟩)
theorem open_two (k1 : sbOk A = false) (k2 : sbOk B = true) :
 Fc prog E 87 [.pointer (some ⟨d, 0, none⟩)].toArray (disk d D :: l) (openP two d D l) := by
 refine disk_okd fun hok => Wg ?_
 have hm := hok.most
 have hAl : A.length = 64 := by rw [← hA]; exact hok.find ⟨by omega, by omega⟩
 have hBl : B.length = 64 := by rw [← hB]; exact hok.find ⟨by omega, by omega⟩
 have hAL : (encB A).length = 64 := (encB_length _).trans hAl
 have hBL : (encB B).length = 64 := (encB_length _).trans hBl
 have ha : one.hash.length = 16 := by rw [← h1]; exact sbRead_hash hAl
 have hb : two.hash.length = 16 := by rw [← h2]; exact sbRead_hash hBl
 have ha19 : (encS one).length = 19 := by simp [encS, ints, ha]
 have hb19 : (encS two).length = 19 := by simp [encS, ints, hb]
 have ha1 := encS_one one
 have hb1 := encS_one two
 have hr : ∀ i : Int, 0 ≤ i → i < 2 → D.ready i = 0 := fun i h0 hi => by rw [Dk.ready, hdead, if_neg (by simp), if_neg (by omega)]
 have c0 : ∀ l, Fc prog E 135 [.pointer (some ⟨d, 0, none⟩), .int .i64 0].toArray (disk d D :: l) (fun v l' => v = .tuple #[.agg (encB A).toArray, .int .i64 0] ∧ l' = disk d D :: l) := fun l => by
  have q := read_good E d D 0 l (hr 0 (by decide) (by decide)) hpn
  rwa [hA] at q
 have c1 : ∀ l, Fc prog E 135 [.pointer (some ⟨d, 0, none⟩), .int .i64 1].toArray (disk d D :: l) (fun v l' => v = .tuple #[.agg (encB B).toArray, .int .i64 0] ∧ l' = disk d D :: l) := fun l => by
  have q := read_good E d D 1 l (hr 1 (by decide) (by decide)) hpn
  rwa [hB] at q
 have s0 : ∀ l, Fc prog E 136 [.agg (encB A).toArray].toArray l (fun v l' => v = .tuple #[.agg (encS one).toArray, .bool false] ∧ l' = l) := fun l => by
  have q := read_super_spec E A l hAl
  rwa [h1, k1] at q
 have s1 : ∀ l, Fc prog E 136 [.agg (encB B).toArray].toArray l (fun v l' => v = .tuple #[.agg (encS two).toArray, .bool true] ∧ l' = l) := fun l => by
  have q := read_super_spec E B l hBl
  rwa [h2, k2] at q
 refine Va (c := ?codeC) Tryz.func87 ?hb Tryz.ntmps87 ?hl ?_
 case hb => exact rfl
 case hl => exact rfl
 refine Jh (Je (Jb (Jf rfl) U U U (Jb (Jf rfl) U U U ?_)))
 refine Jg (Ja (Jh (Ve (Jh (Je (Jb (Jd rfl) U U U (Jb (Wc hT U U U U) U U U (Jb (Jf rfl) U U U ?_))))))))
 refine Jg (Ja ?_)
 refine Vk rfl zbl ?_
 refine Jh (Je (Jb (Jd rfl) U U U ?_))
 refine Jl rfl (Jw e61 U U (len_spec E d D _) ?_)
 rintro _ _ ⟨rfl, rfl⟩
 refine Jb (y_lss U U) U U U (Jb (Jf rfl) U U U ?_)
 refine Jg (Ja ?_)
 refine Vk rfl zbl ?_
 refine Vd (Ju (Ja (Jh (Je (Jb (Jd rfl) U U U ?_)))))
 refine Jl rfl (Jw e135 U U (c0 _) ?_)
 rintro _ _ ⟨rfl, rfl⟩
 refine Jb (Jd rfl) U U U (Jb (Vg U U) U U U (Jb (Vg U U) U U U ?_))
 refine Jl rfl (Wf hT U U zcl rfl (fun b3 => ?_))
 refine Jl rfl (Vx hT U U U zln zoc zpk zln ?_)
 refine Jb (Jf rfl) U U U ?_
 refine Jg (Ja (Jh (Jh (Je (Jb (Jd rfl) U U U (Jb (y_neq U U) U U U ?_))))))
 refine Jg (Ja ?_)
 refine Vk rfl zbl ?_
 refine Vd (Ja (Jh (Je (Jb (Jd rfl) U U U ?_))))
 refine Jl rfl (Jw e135 U U (Vw (Ji zpk Jj) (c1 _)) ?_)
 rintro _ _ ⟨rfl, rfl⟩
 refine Jb (Jd rfl) U U U (Jb (Vg U U) U U U (Jb (Vg U U) U U U ?_))
 refine Jl rfl (Wf hT U U zcl rfl (fun b6 => ?_))
 refine Jl rfl (Vx hT U U U zln zoc zpk zln ?_)
 refine Jb (Jf rfl) U U U ?_
 refine Jg (Ja (Jh (Jh (Je (Jb (Jd rfl) U U U (Jb (y_neq U U) U U U ?_))))))
 refine Jg (Ja ?_)
 refine Vk rfl zbl ?_
 refine Vd (Ja (Jh (Je ?_)))
 refine Jb (We hT U U U zrdn zln) U U U ?_
 refine Jl rfl (Jw e136 U U (s0 _) ?_)
 rintro _ _ ⟨rfl, rfl⟩
 refine Jb (Jd rfl) U U U (Jb (Vg U U) U U U (Jb (Vg U U) U U U ?_))
 refine Jl rfl (Wf hT U U zcl rfl (fun b9 => ?_))
 refine Jl rfl (Vx hT U U U zln zoc zpk zln ?_)
 refine Jb (Jf rfl) U U U ?_
 refine Jg (Ja (Jh (Je ?_)))
 refine Jb (We hT U U U zrdn zln) U U U ?_
 refine Jl rfl (Jw e136 U U (s1 _) ?_)
 rintro _ _ ⟨rfl, rfl⟩
 refine Jb (Jd rfl) U U U (Jb (Vg U U) U U U (Jb (Vg U U) U U U ?_))
 refine Jl rfl (Wf hT U U zcl rfl (fun b12 => ?_))
 refine Jl rfl (Vx hT U U U zln zoc zpk zln ?_)
 refine Jb (Jf rfl) U U U ?_
 refine Jg (Ja (Jh (Je ?_)))
 refine Jb (We hT U U U zrdn zln) U U U ?_
 refine Jb (Jd rfl) U U U ?_
 refine Jb (y_build (cs := scells one d) hT U U U U U U ⟨⟨ha19, Nat.le_of_ble_eq_true rfl⟩, ⟨rfl, Nat.le_of_ble_eq_true rfl⟩, trivial⟩ (by simp [fillE, Value.cells, scells, ha19, i199, i27])) U U U ?_
 refine Jl rfl (l_box rfl zcl rfl (fun b14 => ?_))
 refine Jb (Jf rfl) U U U ?_
 refine Jg (Ja (Jh (Ve (Jh (Je (Jb (Jd rfl) U U U (Jb (y_not rfl) U U U (Jb (Jd rfl) U U U ?_))))))))
 all_goals (first | (refine Vh U U U (fun h => ?_) (fun h => ?_) <;> try (first | (exfalso; omega) | exact absurd rfl h)) | (refine Vr U U U (fun h => ?_) (fun h => ?_) <;> try (first | cases h | (exfalso; simp at h; done))) | skip)
 all_goals (first | refine Js U U U U U U ?_ | refine Jp U U U U U ?_ | refine Jt U U U (Jd rfl) U U ?_)
 all_goals (first | refine Js U U U U U U ?_ | refine Jp U U U U U ?_ | refine Jt U U U (y_not rfl) U U ?_)
 all_goals (refine Jb (Wb U U U) U U U ?_)
 all_goals (refine Jb (Jf rfl) U U U ?_)
 all_goals refine Jg (Ja ?_)
 all_goals
  refine Vk rfl zbl ?_
  refine Jh (Je (Jb (Jd rfl) U U U (Jb (y_not rfl) U U U (Jb (Jd rfl) U U U ?_))))
  all_goals (first | (refine Vh U U U (fun h => ?_) (fun h => ?_) <;> try (first | (exfalso; omega) | exact absurd rfl h)) | (refine Vr U U U (fun h => ?_) (fun h => ?_) <;> try (first | cases h | (exfalso; simp at h; done))) | skip)
  all_goals (first | refine Js U U U U U U ?_ | refine Jp U U U U U ?_ | refine Jt U U U (Jd rfl) U U ?_)
  all_goals (first | refine Js U U U U U U ?_ | refine Jp U U U U U ?_ | refine Jt U U U (Jd rfl) U U ?_)
  all_goals (first | (refine Vh U U U (fun h => ?_) (fun h => ?_) <;> try (first | (exfalso; omega) | exact absurd rfl h)) | (refine Vr U U U (fun h => ?_) (fun h => ?_) <;> try (first | cases h | (exfalso; simp at h; done))) | skip)
  all_goals (first | refine Js U U U U U U ?_ | refine Jp U U U U U ?_ | refine Jt U U U (Jk hT U U U U U U) U U ?_)
  all_goals (first | refine Js U U U U U U ?_ | refine Jp U U U U U ?_ | refine Jt U U U (Jo hT U U U zrd) U U ?_)
  all_goals (first | refine Js U U U U U U ?_ | refine Jp U U U U U ?_ | refine Jt U U U (Jk hT U U U U U U) U U ?_)
  all_goals (first | refine Js U U U U U U ?_ | refine Jp U U U U U ?_ | refine Jt U U U (Jo hT U U U zrd) U U ?_)
  all_goals (first | refine Js U U U U U U ?_ | refine Jp U U U U U ?_ | refine Jt U U U (y_gtr U U) U U ?_)
  all_goals (first | refine Js U U U U U U ?_ | refine Jp U U U U U ?_ | refine Jt U U U (Wb U U U) U U ?_)
  all_goals (refine Jb (Wb U U U) U U U ?_)
  all_goals (refine Jb (Jf rfl) U U U ?_)
  all_goals refine Jg (Ja ?_)
  all_goals
   refine J.cond_t rfl zbl ?_
   refine Je (Jb (Jd rfl) U U U ?_)
   refine Jb (We hT U U U zrdn zln) U U U ?_
   refine Jb znc U U U ?_
   refine Jb (Jk hT U U U U U U) U U U ?_
   refine Jl rfl (l_storeN (off := 0) hT U U U hb19 hb1 zpk (by rw [scells_length ha, hb19]; decide) ?_)
   have hsc : (scells one d).take 0 ++ encS two ++ (scells one d).drop (0 + (encS two).length) = scells two d := by
    rw [hb19, List.take_zero, List.nil_append, scells, List.drop_append_of_le_length (by omega), List.drop_of_length_le (by omega)]
    rfl
   rw [hsc]
   refine Jg ?_
 all_goals refine Ju (Ja ?_)
 all_goals
  refine Jh (Jh ?_)
  refine Vz _ _ [(0, .q), (1, .q), (2, .q), (3, .q), (4, .q), (5, .q), (6, .q), (7, .q)] mixed (by kernel_rfl) (Jj) ?_
  refine zqm U U U U U ?_
  refine Jc U U U U (fun m => znc) ?_
  refine Jc U U U U (fun m => Jk hT U U U U U U) (Jc U U U U (fun m => Jk hT U U U U U U) ?_)
  refine Jc U U U U (fun m => Jo hT U U U zrda) ?_
  refine zqm U U U U U ?_
  refine Jc U U U U (fun m => y_callF e137 rfl (Fc.still (p := [row b14 205 (scells two d), disk d D]) (Ji (Vp m zpk) (Ji (Vp m zpk) Jj)) (room_spec E b14 d two D _ hb (by omega)))) ?_
  refine Jc U U U U (fun m => y_gtr U U) ?_
  refine Vv (Ja ?_)
  first | apply Jx rfl | apply Vo rfl
  case' ht =>
   intro h
   try (first | exact zom | exact zho h | subst h)
   all_goals
    refine Jh (Je (Jb (Jf rfl) U U U (Jb (Jf rfl) U U U ?_)))
    refine Jg (Ja (Vn (Vb ?_)))
    refine JE.ret2 (.inl rfl) U U zrv zrv ?_
    unfold openP
    first
     | (refine ⟨disk d D :: l, fun w q => q.sup zsup, ?_⟩
        rw [if_neg (by rintro ⟨hq, _⟩; omega)]
        exact ⟨rfl, rfl⟩)
     | (refine ⟨disk d D :: l, fun w q => q.sup zsup, ?_⟩
        rw [if_neg (by rintro ⟨_, hq⟩; rcases he with ⟨_, e0⟩ | ⟨hn, _⟩; exact h e0; exact hn hq)]
        rcases he with ⟨_, rfl⟩ | ⟨_, rfl⟩
        · exact absurd rfl h
        · exact ⟨rfl, rfl⟩)
     | (refine ⟨row b14 205 (scells two d) :: disk d D :: l, fun w q => q.sup zsup, ?_⟩
        rw [if_pos ⟨by omega, by rcases he with ⟨hq, _⟩ | ⟨_, e0⟩; exact hq; omega⟩]
        exact ⟨b14, rfl, rfl⟩)
  case' hf =>
   intro h
   try (first | exact zom | exact zho h | subst h)
   all_goals
    refine Vd ?_
  all_goals refine Ja ?_
  all_goals
   refine Jh (Jh ?_)
   have hfit : Fits two D := ⟨hb, by rw [← h2]; exact sbOk_place k2, by rw [← h2]; exact sbRead_size _, by omega, by omega⟩
   refine Je (Jb (Jd rfl) U U U ?_)
   refine Jl rfl (Jw e111 U U (Vw (Ji zpk (Ji zpk Jj)) (snapshot_any E b14 d two D _ hfit hdead hpn)) ?_)
   rintro _ _ ⟨sa, sn, sc, e, g, rfl, he, rfl⟩
   refine Jb (Jd rfl) U U U (Jb (Vg U U) U U U (Jb (Vg U U) U U U (Jb (Jf rfl) U U U (Jb (Jf rfl) U U U ?_))))
   refine Jg (Ja (Jh (Je (Jb (Jd rfl) U U U (Jb (y_neq U U) U U U ?_)))))
   refine Jg (Ja ?_)
   first | apply Jx rfl | apply Vo rfl
   case' ht =>
    intro h
    try (first | exact zom | exact zho h | subst h)
    all_goals
     refine Jh (Je (Jb (Jd rfl) U U U (Jb (Jf rfl) U U U (Jb (Jf rfl) U U U ?_))))
     refine Jg (Ja (Vn (Vb ?_)))
     refine JE.ret2 (.inl rfl) U U zrv zrv ?_
     unfold openP
     first
      | (refine ⟨disk d D :: l, fun w q => q.sup zsup, ?_⟩
         rw [if_neg (by rintro ⟨hq, _⟩; omega)]
         exact ⟨rfl, rfl⟩)
      | (refine ⟨disk d D :: l, fun w q => q.sup zsup, ?_⟩
         rw [if_neg (by rintro ⟨_, hq⟩; rcases he with ⟨_, e0⟩ | ⟨hn, _⟩; exact h e0; exact hn hq)]
         rcases he with ⟨_, rfl⟩ | ⟨_, rfl⟩
         · exact absurd rfl h
         · exact ⟨rfl, rfl⟩)
      | (refine ⟨row b14 205 (scells two d) :: disk d D :: l, fun w q => q.sup zsup, ?_⟩
         rw [if_pos ⟨by omega, by rcases he with ⟨hq, _⟩ | ⟨_, e0⟩; exact hq; omega⟩]
         exact ⟨b14, rfl, rfl⟩)
   case' hf =>
    intro h
    try (first | exact zom | exact zho h | subst h)
    all_goals
     refine Vd ?_
   all_goals refine Ja ?_
   all_goals
    refine Jh (Je (Jb (Jd rfl) U U U (Jb (Jf rfl) U U U (Jb (Jf rfl) U U U ?_))))
    refine Jg (Ja (Vn ?_))
    refine JE.ret2 (.inl rfl) U U zrv zrv ?_
    unfold openP
    first
     | (refine ⟨disk d D :: l, fun w q => q.sup zsup, ?_⟩
        rw [if_neg (by rintro ⟨hq, _⟩; omega)]
        exact ⟨rfl, rfl⟩)
     | (refine ⟨disk d D :: l, fun w q => q.sup zsup, ?_⟩
        rw [if_neg (by rintro ⟨_, hq⟩; rcases he with ⟨_, e0⟩ | ⟨hn, _⟩; exact h e0; exact hn hq)]
        rcases he with ⟨_, rfl⟩ | ⟨_, rfl⟩
        · exact absurd rfl h
        · exact ⟨rfl, rfl⟩)
     | (refine ⟨row b14 205 (scells two d) :: disk d D :: l, fun w q => q.sup zsup, ?_⟩
        rw [if_pos ⟨by omega, by rcases he with ⟨hq, _⟩ | ⟨_, e0⟩; exact hq; omega⟩]
        exact ⟨b14, rfl, rfl⟩)
theorem open_lt (k1 : sbOk A = true) (k2 : sbOk B = true) (hlt : one.turn.toNat < two.turn.toNat) :
 Fc prog E 87 [.pointer (some ⟨d, 0, none⟩)].toArray (disk d D :: l) (openP two d D l) := by
 refine disk_okd fun hok => Wg ?_
 have hm := hok.most
 have hAl : A.length = 64 := by rw [← hA]; exact hok.find ⟨by omega, by omega⟩
 have hBl : B.length = 64 := by rw [← hB]; exact hok.find ⟨by omega, by omega⟩
 have hAL : (encB A).length = 64 := (encB_length _).trans hAl
 have hBL : (encB B).length = 64 := (encB_length _).trans hBl
 have ha : one.hash.length = 16 := by rw [← h1]; exact sbRead_hash hAl
 have hb : two.hash.length = 16 := by rw [← h2]; exact sbRead_hash hBl
 have ha19 : (encS one).length = 19 := by simp [encS, ints, ha]
 have hb19 : (encS two).length = 19 := by simp [encS, ints, hb]
 have ha1 := encS_one one
 have hb1 := encS_one two
 have hr : ∀ i : Int, 0 ≤ i → i < 2 → D.ready i = 0 := fun i h0 hi => by rw [Dk.ready, hdead, if_neg (by simp), if_neg (by omega)]
 have c0 : ∀ l, Fc prog E 135 [.pointer (some ⟨d, 0, none⟩), .int .i64 0].toArray (disk d D :: l) (fun v l' => v = .tuple #[.agg (encB A).toArray, .int .i64 0] ∧ l' = disk d D :: l) := fun l => by
  have q := read_good E d D 0 l (hr 0 (by decide) (by decide)) hpn
  rwa [hA] at q
 have c1 : ∀ l, Fc prog E 135 [.pointer (some ⟨d, 0, none⟩), .int .i64 1].toArray (disk d D :: l) (fun v l' => v = .tuple #[.agg (encB B).toArray, .int .i64 0] ∧ l' = disk d D :: l) := fun l => by
  have q := read_good E d D 1 l (hr 1 (by decide) (by decide)) hpn
  rwa [hB] at q
 have s0 : ∀ l, Fc prog E 136 [.agg (encB A).toArray].toArray l (fun v l' => v = .tuple #[.agg (encS one).toArray, .bool true] ∧ l' = l) := fun l => by
  have q := read_super_spec E A l hAl
  rwa [h1, k1] at q
 have s1 : ∀ l, Fc prog E 136 [.agg (encB B).toArray].toArray l (fun v l' => v = .tuple #[.agg (encS two).toArray, .bool true] ∧ l' = l) := fun l => by
  have q := read_super_spec E B l hBl
  rwa [h2, k2] at q
 refine Va (c := ?codeC) Tryz.func87 ?hb Tryz.ntmps87 ?hl ?_
 case hb => exact rfl
 case hl => exact rfl
 refine Jh (Je (Jb (Jf rfl) U U U (Jb (Jf rfl) U U U ?_)))
 refine Jg (Ja (Jh (Ve (Jh (Je (Jb (Jd rfl) U U U (Jb (Wc hT U U U U) U U U (Jb (Jf rfl) U U U ?_))))))))
 refine Jg (Ja ?_)
 refine Vk rfl zbl ?_
 refine Jh (Je (Jb (Jd rfl) U U U ?_))
 refine Jl rfl (Jw e61 U U (len_spec E d D _) ?_)
 rintro _ _ ⟨rfl, rfl⟩
 refine Jb (y_lss U U) U U U (Jb (Jf rfl) U U U ?_)
 refine Jg (Ja ?_)
 refine Vk rfl zbl ?_
 refine Vd (Ju (Ja (Jh (Je (Jb (Jd rfl) U U U ?_)))))
 refine Jl rfl (Jw e135 U U (c0 _) ?_)
 rintro _ _ ⟨rfl, rfl⟩
 refine Jb (Jd rfl) U U U (Jb (Vg U U) U U U (Jb (Vg U U) U U U ?_))
 refine Jl rfl (Wf hT U U zcl rfl (fun b3 => ?_))
 refine Jl rfl (Vx hT U U U zln zoc zpk zln ?_)
 refine Jb (Jf rfl) U U U ?_
 refine Jg (Ja (Jh (Jh (Je (Jb (Jd rfl) U U U (Jb (y_neq U U) U U U ?_))))))
 refine Jg (Ja ?_)
 refine Vk rfl zbl ?_
 refine Vd (Ja (Jh (Je (Jb (Jd rfl) U U U ?_))))
 refine Jl rfl (Jw e135 U U (Vw (Ji zpk Jj) (c1 _)) ?_)
 rintro _ _ ⟨rfl, rfl⟩
 refine Jb (Jd rfl) U U U (Jb (Vg U U) U U U (Jb (Vg U U) U U U ?_))
 refine Jl rfl (Wf hT U U zcl rfl (fun b6 => ?_))
 refine Jl rfl (Vx hT U U U zln zoc zpk zln ?_)
 refine Jb (Jf rfl) U U U ?_
 refine Jg (Ja (Jh (Jh (Je (Jb (Jd rfl) U U U (Jb (y_neq U U) U U U ?_))))))
 refine Jg (Ja ?_)
 refine Vk rfl zbl ?_
 refine Vd (Ja (Jh (Je ?_)))
 refine Jb (We hT U U U zrdn zln) U U U ?_
 refine Jl rfl (Jw e136 U U (s0 _) ?_)
 rintro _ _ ⟨rfl, rfl⟩
 refine Jb (Jd rfl) U U U (Jb (Vg U U) U U U (Jb (Vg U U) U U U ?_))
 refine Jl rfl (Wf hT U U zcl rfl (fun b9 => ?_))
 refine Jl rfl (Vx hT U U U zln zoc zpk zln ?_)
 refine Jb (Jf rfl) U U U ?_
 refine Jg (Ja (Jh (Je ?_)))
 refine Jb (We hT U U U zrdn zln) U U U ?_
 refine Jl rfl (Jw e136 U U (s1 _) ?_)
 rintro _ _ ⟨rfl, rfl⟩
 refine Jb (Jd rfl) U U U (Jb (Vg U U) U U U (Jb (Vg U U) U U U ?_))
 refine Jl rfl (Wf hT U U zcl rfl (fun b12 => ?_))
 refine Jl rfl (Vx hT U U U zln zoc zpk zln ?_)
 refine Jb (Jf rfl) U U U ?_
 refine Jg (Ja (Jh (Je ?_)))
 refine Jb (We hT U U U zrdn zln) U U U ?_
 refine Jb (Jd rfl) U U U ?_
 refine Jb (y_build (cs := scells one d) hT U U U U U U ⟨⟨ha19, Nat.le_of_ble_eq_true rfl⟩, ⟨rfl, Nat.le_of_ble_eq_true rfl⟩, trivial⟩ (by simp [fillE, Value.cells, scells, ha19, i199, i27])) U U U ?_
 refine Jl rfl (l_box rfl zcl rfl (fun b14 => ?_))
 refine Jb (Jf rfl) U U U ?_
 refine Jg (Ja (Jh (Ve (Jh (Je (Jb (Jd rfl) U U U (Jb (y_not rfl) U U U (Jb (Jd rfl) U U U ?_))))))))
 all_goals (first | (refine Vh U U U (fun h => ?_) (fun h => ?_) <;> try (first | (exfalso; omega) | exact absurd rfl h)) | (refine Vr U U U (fun h => ?_) (fun h => ?_) <;> try (first | cases h | (exfalso; simp at h; done))) | skip)
 all_goals (first | refine Js U U U U U U ?_ | refine Jp U U U U U ?_ | refine Jt U U U (Jd rfl) U U ?_)
 all_goals (first | refine Js U U U U U U ?_ | refine Jp U U U U U ?_ | refine Jt U U U (y_not rfl) U U ?_)
 all_goals (refine Jb (Wb U U U) U U U ?_)
 all_goals (refine Jb (Jf rfl) U U U ?_)
 all_goals refine Jg (Ja ?_)
 all_goals
  refine Vk rfl zbl ?_
  refine Jh (Je (Jb (Jd rfl) U U U (Jb (y_not rfl) U U U (Jb (Jd rfl) U U U ?_))))
  all_goals (first | (refine Vh U U U (fun h => ?_) (fun h => ?_) <;> try (first | (exfalso; omega) | exact absurd rfl h)) | (refine Vr U U U (fun h => ?_) (fun h => ?_) <;> try (first | cases h | (exfalso; simp at h; done))) | skip)
  all_goals (first | refine Js U U U U U U ?_ | refine Jp U U U U U ?_ | refine Jt U U U (Jd rfl) U U ?_)
  all_goals (first | refine Js U U U U U U ?_ | refine Jp U U U U U ?_ | refine Jt U U U (Jd rfl) U U ?_)
  all_goals (first | (refine Vh U U U (fun h => ?_) (fun h => ?_) <;> try (first | (exfalso; omega) | exact absurd rfl h)) | (refine Vr U U U (fun h => ?_) (fun h => ?_) <;> try (first | cases h | (exfalso; simp at h; done))) | skip)
  all_goals (first | refine Js U U U U U U ?_ | refine Jp U U U U U ?_ | refine Jt U U U (Jk hT U U U U U U) U U ?_)
  all_goals (first | refine Js U U U U U U ?_ | refine Jp U U U U U ?_ | refine Jt U U U (Jo hT U U U zrd) U U ?_)
  all_goals (first | refine Js U U U U U U ?_ | refine Jp U U U U U ?_ | refine Jt U U U (Jk hT U U U U U U) U U ?_)
  all_goals (first | refine Js U U U U U U ?_ | refine Jp U U U U U ?_ | refine Jt U U U (Jo hT U U U zrd) U U ?_)
  all_goals (first | refine Js U U U U U U ?_ | refine Jp U U U U U ?_ | refine Jt U U U (y_gtr U U) U U ?_)
  all_goals (first | refine Js U U U U U U ?_ | refine Jp U U U U U ?_ | refine Jt U U U (Wb U U U) U U ?_)
  all_goals (refine Jb (Wb U U U) U U U ?_)
  all_goals (refine Jb (Jf rfl) U U U ?_)
  all_goals refine Jg (Ja ?_)
  all_goals
   refine J.cond_t rfl zbl ?_
   refine Je (Jb (Jd rfl) U U U ?_)
   refine Jb (We hT U U U zrdn zln) U U U ?_
   refine Jb znc U U U ?_
   refine Jb (Jk hT U U U U U U) U U U ?_
   refine Jl rfl (l_storeN (off := 0) hT U U U hb19 hb1 zpk (by rw [scells_length ha, hb19]; decide) ?_)
   have hsc : (scells one d).take 0 ++ encS two ++ (scells one d).drop (0 + (encS two).length) = scells two d := by
    rw [hb19, List.take_zero, List.nil_append, scells, List.drop_append_of_le_length (by omega), List.drop_of_length_le (by omega)]
    rfl
   rw [hsc]
   refine Jg ?_
 all_goals refine Ju (Ja ?_)
 all_goals
  refine Jh (Jh ?_)
  refine Vz _ _ [(0, .q), (1, .q), (2, .q), (3, .q), (4, .q), (5, .q), (6, .q), (7, .q)] mixed (by kernel_rfl) (Jj) ?_
  refine zqm U U U U U ?_
  refine Jc U U U U (fun m => znc) ?_
  refine Jc U U U U (fun m => Jk hT U U U U U U) (Jc U U U U (fun m => Jk hT U U U U U U) ?_)
  refine Jc U U U U (fun m => Jo hT U U U zrda) ?_
  refine zqm U U U U U ?_
  refine Jc U U U U (fun m => y_callF e137 rfl (Fc.still (p := [row b14 205 (scells two d), disk d D]) (Ji (Vp m zpk) (Ji (Vp m zpk) Jj)) (room_spec E b14 d two D _ hb (by omega)))) ?_
  refine Jc U U U U (fun m => y_gtr U U) ?_
  refine Vv (Ja ?_)
  first | apply Jx rfl | apply Vo rfl
  case' ht =>
   intro h
   try (first | exact zom | exact zho h | subst h)
   all_goals
    refine Jh (Je (Jb (Jf rfl) U U U (Jb (Jf rfl) U U U ?_)))
    refine Jg (Ja (Vn (Vb ?_)))
    refine JE.ret2 (.inl rfl) U U zrv zrv ?_
    unfold openP
    first
     | (refine ⟨disk d D :: l, fun w q => q.sup zsup, ?_⟩
        rw [if_neg (by rintro ⟨hq, _⟩; omega)]
        exact ⟨rfl, rfl⟩)
     | (refine ⟨disk d D :: l, fun w q => q.sup zsup, ?_⟩
        rw [if_neg (by rintro ⟨_, hq⟩; rcases he with ⟨_, e0⟩ | ⟨hn, _⟩; exact h e0; exact hn hq)]
        rcases he with ⟨_, rfl⟩ | ⟨_, rfl⟩
        · exact absurd rfl h
        · exact ⟨rfl, rfl⟩)
     | (refine ⟨row b14 205 (scells two d) :: disk d D :: l, fun w q => q.sup zsup, ?_⟩
        rw [if_pos ⟨by omega, by rcases he with ⟨hq, _⟩ | ⟨_, e0⟩; exact hq; omega⟩]
        exact ⟨b14, rfl, rfl⟩)
  case' hf =>
   intro h
   try (first | exact zom | exact zho h | subst h)
   all_goals
    refine Vd ?_
  all_goals refine Ja ?_
  all_goals
   refine Jh (Jh ?_)
   have hfit : Fits two D := ⟨hb, by rw [← h2]; exact sbOk_place k2, by rw [← h2]; exact sbRead_size _, by omega, by omega⟩
   refine Je (Jb (Jd rfl) U U U ?_)
   refine Jl rfl (Jw e111 U U (Vw (Ji zpk (Ji zpk Jj)) (snapshot_any E b14 d two D _ hfit hdead hpn)) ?_)
   rintro _ _ ⟨sa, sn, sc, e, g, rfl, he, rfl⟩
   refine Jb (Jd rfl) U U U (Jb (Vg U U) U U U (Jb (Vg U U) U U U (Jb (Jf rfl) U U U (Jb (Jf rfl) U U U ?_))))
   refine Jg (Ja (Jh (Je (Jb (Jd rfl) U U U (Jb (y_neq U U) U U U ?_)))))
   refine Jg (Ja ?_)
   first | apply Jx rfl | apply Vo rfl
   case' ht =>
    intro h
    try (first | exact zom | exact zho h | subst h)
    all_goals
     refine Jh (Je (Jb (Jd rfl) U U U (Jb (Jf rfl) U U U (Jb (Jf rfl) U U U ?_))))
     refine Jg (Ja (Vn (Vb ?_)))
     refine JE.ret2 (.inl rfl) U U zrv zrv ?_
     unfold openP
     first
      | (refine ⟨disk d D :: l, fun w q => q.sup zsup, ?_⟩
         rw [if_neg (by rintro ⟨hq, _⟩; omega)]
         exact ⟨rfl, rfl⟩)
      | (refine ⟨disk d D :: l, fun w q => q.sup zsup, ?_⟩
         rw [if_neg (by rintro ⟨_, hq⟩; rcases he with ⟨_, e0⟩ | ⟨hn, _⟩; exact h e0; exact hn hq)]
         rcases he with ⟨_, rfl⟩ | ⟨_, rfl⟩
         · exact absurd rfl h
         · exact ⟨rfl, rfl⟩)
      | (refine ⟨row b14 205 (scells two d) :: disk d D :: l, fun w q => q.sup zsup, ?_⟩
         rw [if_pos ⟨by omega, by rcases he with ⟨hq, _⟩ | ⟨_, e0⟩; exact hq; omega⟩]
         exact ⟨b14, rfl, rfl⟩)
   case' hf =>
    intro h
    try (first | exact zom | exact zho h | subst h)
    all_goals
     refine Vd ?_
   all_goals refine Ja ?_
   all_goals
    refine Jh (Je (Jb (Jd rfl) U U U (Jb (Jf rfl) U U U (Jb (Jf rfl) U U U ?_))))
    refine Jg (Ja (Vn ?_))
    refine JE.ret2 (.inl rfl) U U zrv zrv ?_
    unfold openP
    first
     | (refine ⟨disk d D :: l, fun w q => q.sup zsup, ?_⟩
        rw [if_neg (by rintro ⟨hq, _⟩; omega)]
        exact ⟨rfl, rfl⟩)
     | (refine ⟨disk d D :: l, fun w q => q.sup zsup, ?_⟩
        rw [if_neg (by rintro ⟨_, hq⟩; rcases he with ⟨_, e0⟩ | ⟨hn, _⟩; exact h e0; exact hn hq)]
        rcases he with ⟨_, rfl⟩ | ⟨_, rfl⟩
        · exact absurd rfl h
        · exact ⟨rfl, rfl⟩)
     | (refine ⟨row b14 205 (scells two d) :: disk d D :: l, fun w q => q.sup zsup, ?_⟩
        rw [if_pos ⟨by omega, by rcases he with ⟨hq, _⟩ | ⟨_, e0⟩; exact hq; omega⟩]
        exact ⟨b14, rfl, rfl⟩)
theorem open_ge (k1 : sbOk A = true) (k2 : sbOk B = true) (hlt : ¬ one.turn.toNat < two.turn.toNat) :
 Fc prog E 87 [.pointer (some ⟨d, 0, none⟩)].toArray (disk d D :: l) (openP one d D l) := by
 refine disk_okd fun hok => Wg ?_
 have hm := hok.most
 have hAl : A.length = 64 := by rw [← hA]; exact hok.find ⟨by omega, by omega⟩
 have hBl : B.length = 64 := by rw [← hB]; exact hok.find ⟨by omega, by omega⟩
 have hAL : (encB A).length = 64 := (encB_length _).trans hAl
 have hBL : (encB B).length = 64 := (encB_length _).trans hBl
 have ha : one.hash.length = 16 := by rw [← h1]; exact sbRead_hash hAl
 have hb : two.hash.length = 16 := by rw [← h2]; exact sbRead_hash hBl
 have ha19 : (encS one).length = 19 := by simp [encS, ints, ha]
 have hb19 : (encS two).length = 19 := by simp [encS, ints, hb]
 have ha1 := encS_one one
 have hb1 := encS_one two
 have hr : ∀ i : Int, 0 ≤ i → i < 2 → D.ready i = 0 := fun i h0 hi => by rw [Dk.ready, hdead, if_neg (by simp), if_neg (by omega)]
 have c0 : ∀ l, Fc prog E 135 [.pointer (some ⟨d, 0, none⟩), .int .i64 0].toArray (disk d D :: l) (fun v l' => v = .tuple #[.agg (encB A).toArray, .int .i64 0] ∧ l' = disk d D :: l) := fun l => by
  have q := read_good E d D 0 l (hr 0 (by decide) (by decide)) hpn
  rwa [hA] at q
 have c1 : ∀ l, Fc prog E 135 [.pointer (some ⟨d, 0, none⟩), .int .i64 1].toArray (disk d D :: l) (fun v l' => v = .tuple #[.agg (encB B).toArray, .int .i64 0] ∧ l' = disk d D :: l) := fun l => by
  have q := read_good E d D 1 l (hr 1 (by decide) (by decide)) hpn
  rwa [hB] at q
 have s0 : ∀ l, Fc prog E 136 [.agg (encB A).toArray].toArray l (fun v l' => v = .tuple #[.agg (encS one).toArray, .bool true] ∧ l' = l) := fun l => by
  have q := read_super_spec E A l hAl
  rwa [h1, k1] at q
 have s1 : ∀ l, Fc prog E 136 [.agg (encB B).toArray].toArray l (fun v l' => v = .tuple #[.agg (encS two).toArray, .bool true] ∧ l' = l) := fun l => by
  have q := read_super_spec E B l hBl
  rwa [h2, k2] at q
 refine Va (c := ?codeC) Tryz.func87 ?hb Tryz.ntmps87 ?hl ?_
 case hb => exact rfl
 case hl => exact rfl
 refine Jh (Je (Jb (Jf rfl) U U U (Jb (Jf rfl) U U U ?_)))
 refine Jg (Ja (Jh (Ve (Jh (Je (Jb (Jd rfl) U U U (Jb (Wc hT U U U U) U U U (Jb (Jf rfl) U U U ?_))))))))
 refine Jg (Ja ?_)
 refine Vk rfl zbl ?_
 refine Jh (Je (Jb (Jd rfl) U U U ?_))
 refine Jl rfl (Jw e61 U U (len_spec E d D _) ?_)
 rintro _ _ ⟨rfl, rfl⟩
 refine Jb (y_lss U U) U U U (Jb (Jf rfl) U U U ?_)
 refine Jg (Ja ?_)
 refine Vk rfl zbl ?_
 refine Vd (Ju (Ja (Jh (Je (Jb (Jd rfl) U U U ?_)))))
 refine Jl rfl (Jw e135 U U (c0 _) ?_)
 rintro _ _ ⟨rfl, rfl⟩
 refine Jb (Jd rfl) U U U (Jb (Vg U U) U U U (Jb (Vg U U) U U U ?_))
 refine Jl rfl (Wf hT U U zcl rfl (fun b3 => ?_))
 refine Jl rfl (Vx hT U U U zln zoc zpk zln ?_)
 refine Jb (Jf rfl) U U U ?_
 refine Jg (Ja (Jh (Jh (Je (Jb (Jd rfl) U U U (Jb (y_neq U U) U U U ?_))))))
 refine Jg (Ja ?_)
 refine Vk rfl zbl ?_
 refine Vd (Ja (Jh (Je (Jb (Jd rfl) U U U ?_))))
 refine Jl rfl (Jw e135 U U (Vw (Ji zpk Jj) (c1 _)) ?_)
 rintro _ _ ⟨rfl, rfl⟩
 refine Jb (Jd rfl) U U U (Jb (Vg U U) U U U (Jb (Vg U U) U U U ?_))
 refine Jl rfl (Wf hT U U zcl rfl (fun b6 => ?_))
 refine Jl rfl (Vx hT U U U zln zoc zpk zln ?_)
 refine Jb (Jf rfl) U U U ?_
 refine Jg (Ja (Jh (Jh (Je (Jb (Jd rfl) U U U (Jb (y_neq U U) U U U ?_))))))
 refine Jg (Ja ?_)
 refine Vk rfl zbl ?_
 refine Vd (Ja (Jh (Je ?_)))
 refine Jb (We hT U U U zrdn zln) U U U ?_
 refine Jl rfl (Jw e136 U U (s0 _) ?_)
 rintro _ _ ⟨rfl, rfl⟩
 refine Jb (Jd rfl) U U U (Jb (Vg U U) U U U (Jb (Vg U U) U U U ?_))
 refine Jl rfl (Wf hT U U zcl rfl (fun b9 => ?_))
 refine Jl rfl (Vx hT U U U zln zoc zpk zln ?_)
 refine Jb (Jf rfl) U U U ?_
 refine Jg (Ja (Jh (Je ?_)))
 refine Jb (We hT U U U zrdn zln) U U U ?_
 refine Jl rfl (Jw e136 U U (s1 _) ?_)
 rintro _ _ ⟨rfl, rfl⟩
 refine Jb (Jd rfl) U U U (Jb (Vg U U) U U U (Jb (Vg U U) U U U ?_))
 refine Jl rfl (Wf hT U U zcl rfl (fun b12 => ?_))
 refine Jl rfl (Vx hT U U U zln zoc zpk zln ?_)
 refine Jb (Jf rfl) U U U ?_
 refine Jg (Ja (Jh (Je ?_)))
 refine Jb (We hT U U U zrdn zln) U U U ?_
 refine Jb (Jd rfl) U U U ?_
 refine Jb (y_build (cs := scells one d) hT U U U U U U ⟨⟨ha19, Nat.le_of_ble_eq_true rfl⟩, ⟨rfl, Nat.le_of_ble_eq_true rfl⟩, trivial⟩ (by simp [fillE, Value.cells, scells, ha19, i199, i27])) U U U ?_
 refine Jl rfl (l_box rfl zcl rfl (fun b14 => ?_))
 refine Jb (Jf rfl) U U U ?_
 refine Jg (Ja (Jh (Ve (Jh (Je (Jb (Jd rfl) U U U (Jb (y_not rfl) U U U (Jb (Jd rfl) U U U ?_))))))))
 all_goals (first | (refine Vh U U U (fun h => ?_) (fun h => ?_) <;> try (first | (exfalso; omega) | exact absurd rfl h)) | (refine Vr U U U (fun h => ?_) (fun h => ?_) <;> try (first | cases h | (exfalso; simp at h; done))) | skip)
 all_goals (first | refine Js U U U U U U ?_ | refine Jp U U U U U ?_ | refine Jt U U U (Jd rfl) U U ?_)
 all_goals (first | refine Js U U U U U U ?_ | refine Jp U U U U U ?_ | refine Jt U U U (y_not rfl) U U ?_)
 all_goals (refine Jb (Wb U U U) U U U ?_)
 all_goals (refine Jb (Jf rfl) U U U ?_)
 all_goals refine Jg (Ja ?_)
 all_goals
  refine Vk rfl zbl ?_
  refine Jh (Je (Jb (Jd rfl) U U U (Jb (y_not rfl) U U U (Jb (Jd rfl) U U U ?_))))
  all_goals (first | (refine Vh U U U (fun h => ?_) (fun h => ?_) <;> try (first | (exfalso; omega) | exact absurd rfl h)) | (refine Vr U U U (fun h => ?_) (fun h => ?_) <;> try (first | cases h | (exfalso; simp at h; done))) | skip)
  all_goals (first | refine Js U U U U U U ?_ | refine Jp U U U U U ?_ | refine Jt U U U (Jd rfl) U U ?_)
  all_goals (first | refine Js U U U U U U ?_ | refine Jp U U U U U ?_ | refine Jt U U U (Jd rfl) U U ?_)
  all_goals (first | (refine Vh U U U (fun h => ?_) (fun h => ?_) <;> try (first | (exfalso; omega) | exact absurd rfl h)) | (refine Vr U U U (fun h => ?_) (fun h => ?_) <;> try (first | cases h | (exfalso; simp at h; done))) | skip)
  all_goals (first | refine Js U U U U U U ?_ | refine Jp U U U U U ?_ | refine Jt U U U (Jk hT U U U U U U) U U ?_)
  all_goals (first | refine Js U U U U U U ?_ | refine Jp U U U U U ?_ | refine Jt U U U (Jo hT U U U zrd) U U ?_)
  all_goals (first | refine Js U U U U U U ?_ | refine Jp U U U U U ?_ | refine Jt U U U (Jk hT U U U U U U) U U ?_)
  all_goals (first | refine Js U U U U U U ?_ | refine Jp U U U U U ?_ | refine Jt U U U (Jo hT U U U zrd) U U ?_)
  all_goals (first | refine Js U U U U U U ?_ | refine Jp U U U U U ?_ | refine Jt U U U (y_gtr U U) U U ?_)
  all_goals (first | refine Js U U U U U U ?_ | refine Jp U U U U U ?_ | refine Jt U U U (Wb U U U) U U ?_)
  all_goals (refine Jb (Wb U U U) U U U ?_)
  all_goals (refine Jb (Jf rfl) U U U ?_)
  all_goals refine Jg (Ja ?_)
  all_goals
   refine Vk rfl zbl ?_
   refine Vd ?_
 all_goals refine Ju (Ja ?_)
 all_goals
  refine Jh (Jh ?_)
  refine Vz _ _ [(0, .q), (1, .q), (2, .q), (3, .q), (4, .q), (5, .q), (6, .q), (7, .q)] mixed (by kernel_rfl) (Jj) ?_
  refine zqm U U U U U ?_
  refine Jc U U U U (fun m => znc) ?_
  refine Jc U U U U (fun m => Jk hT U U U U U U) (Jc U U U U (fun m => Jk hT U U U U U U) ?_)
  refine Jc U U U U (fun m => Jo hT U U U zrda) ?_
  refine zqm U U U U U ?_
  refine Jc U U U U (fun m => y_callF e137 rfl (Fc.still (p := [row b14 205 (scells one d), disk d D]) (Ji (Vp m zpk) (Ji (Vp m zpk) Jj)) (room_spec E b14 d one D _ ha (by omega)))) ?_
  refine Jc U U U U (fun m => y_gtr U U) ?_
  refine Vv (Ja ?_)
  first | apply Jx rfl | apply Vo rfl
  case' ht =>
   intro h
   try (first | exact zom | exact zho h | subst h)
   all_goals
    refine Jh (Je (Jb (Jf rfl) U U U (Jb (Jf rfl) U U U ?_)))
    refine Jg (Ja (Vn (Vb ?_)))
    refine JE.ret2 (.inl rfl) U U zrv zrv ?_
    unfold openP
    first
     | (refine ⟨disk d D :: l, fun w q => q.sup zsup, ?_⟩
        rw [if_neg (by rintro ⟨hq, _⟩; omega)]
        exact ⟨rfl, rfl⟩)
     | (refine ⟨disk d D :: l, fun w q => q.sup zsup, ?_⟩
        rw [if_neg (by rintro ⟨_, hq⟩; rcases he with ⟨_, e0⟩ | ⟨hn, _⟩; exact h e0; exact hn hq)]
        rcases he with ⟨_, rfl⟩ | ⟨_, rfl⟩
        · exact absurd rfl h
        · exact ⟨rfl, rfl⟩)
     | (refine ⟨row b14 205 (scells one d) :: disk d D :: l, fun w q => q.sup zsup, ?_⟩
        rw [if_pos ⟨by omega, by rcases he with ⟨hq, _⟩ | ⟨_, e0⟩; exact hq; omega⟩]
        exact ⟨b14, rfl, rfl⟩)
  case' hf =>
   intro h
   try (first | exact zom | exact zho h | subst h)
   all_goals
    refine Vd ?_
  all_goals refine Ja ?_
  all_goals
   refine Jh (Jh ?_)
   have hfit : Fits one D := ⟨ha, by rw [← h1]; exact sbOk_place k1, by rw [← h1]; exact sbRead_size _, by omega, by omega⟩
   refine Je (Jb (Jd rfl) U U U ?_)
   refine Jl rfl (Jw e111 U U (Vw (Ji zpk (Ji zpk Jj)) (snapshot_any E b14 d one D _ hfit hdead hpn)) ?_)
   rintro _ _ ⟨sa, sn, sc, e, g, rfl, he, rfl⟩
   refine Jb (Jd rfl) U U U (Jb (Vg U U) U U U (Jb (Vg U U) U U U (Jb (Jf rfl) U U U (Jb (Jf rfl) U U U ?_))))
   refine Jg (Ja (Jh (Je (Jb (Jd rfl) U U U (Jb (y_neq U U) U U U ?_)))))
   refine Jg (Ja ?_)
   first | apply Jx rfl | apply Vo rfl
   case' ht =>
    intro h
    try (first | exact zom | exact zho h | subst h)
    all_goals
     refine Jh (Je (Jb (Jd rfl) U U U (Jb (Jf rfl) U U U (Jb (Jf rfl) U U U ?_))))
     refine Jg (Ja (Vn (Vb ?_)))
     refine JE.ret2 (.inl rfl) U U zrv zrv ?_
     unfold openP
     first
      | (refine ⟨disk d D :: l, fun w q => q.sup zsup, ?_⟩
         rw [if_neg (by rintro ⟨hq, _⟩; omega)]
         exact ⟨rfl, rfl⟩)
      | (refine ⟨disk d D :: l, fun w q => q.sup zsup, ?_⟩
         rw [if_neg (by rintro ⟨_, hq⟩; rcases he with ⟨_, e0⟩ | ⟨hn, _⟩; exact h e0; exact hn hq)]
         rcases he with ⟨_, rfl⟩ | ⟨_, rfl⟩
         · exact absurd rfl h
         · exact ⟨rfl, rfl⟩)
      | (refine ⟨row b14 205 (scells one d) :: disk d D :: l, fun w q => q.sup zsup, ?_⟩
         rw [if_pos ⟨by omega, by rcases he with ⟨hq, _⟩ | ⟨_, e0⟩; exact hq; omega⟩]
         exact ⟨b14, rfl, rfl⟩)
   case' hf =>
    intro h
    try (first | exact zom | exact zho h | subst h)
    all_goals
     refine Vd ?_
   all_goals refine Ja ?_
   all_goals
    refine Jh (Je (Jb (Jd rfl) U U U (Jb (Jf rfl) U U U (Jb (Jf rfl) U U U ?_))))
    refine Jg (Ja (Vn ?_))
    refine JE.ret2 (.inl rfl) U U zrv zrv ?_
    unfold openP
    first
     | (refine ⟨disk d D :: l, fun w q => q.sup zsup, ?_⟩
        rw [if_neg (by rintro ⟨hq, _⟩; omega)]
        exact ⟨rfl, rfl⟩)
     | (refine ⟨disk d D :: l, fun w q => q.sup zsup, ?_⟩
        rw [if_neg (by rintro ⟨_, hq⟩; rcases he with ⟨_, e0⟩ | ⟨hn, _⟩; exact h e0; exact hn hq)]
        rcases he with ⟨_, rfl⟩ | ⟨_, rfl⟩
        · exact absurd rfl h
        · exact ⟨rfl, rfl⟩)
     | (refine ⟨row b14 205 (scells one d) :: disk d D :: l, fun w q => q.sup zsup, ?_⟩
        rw [if_pos ⟨by omega, by rcases he with ⟨hq, _⟩ | ⟨_, e0⟩; exact hq; omega⟩]
        exact ⟨b14, rfl, rfl⟩)
end
theorem open_spec (d : Nat) (D : Dk) (l : List HProp) (h64 : 64 ≤ D.safe.length) (hdead : D.dead = false) (hpn : D.pending.length ≤ 1000000) :
 Fc prog E 87 [.pointer (some ⟨d, 0, none⟩)].toArray (disk d D :: l) (fun v l' => match D.counts with | none => v = .tuple #[.pointer none, .int .i64 210] ∧ l' = disk d D :: l | some s => openP s d D l v l') := by
 cases k1 : sbOk (D.find 0) with
 | false =>
   cases k2 : sbOk (D.find 1) with
   | false =>
     have e : D.counts = none := by simp [Dk.counts, k1, k2]
     rw [e]
     exact open_none E d D l h64 hdead hpn _ _ U U _ _ U U k1 k2
   | true =>
     have e : D.counts = some (sbRead (D.find 1)) := by simp [Dk.counts, k1, k2]
     rw [e]
     exact open_two E d D l h64 hdead hpn _ _ U U _ _ U U k1 k2
 | true =>
   cases k2 : sbOk (D.find 1) with
   | false =>
     have e : D.counts = some (sbRead (D.find 0)) := by simp [Dk.counts, k1, k2]
     rw [e]
     exact open_one E d D l h64 hdead hpn _ _ U U _ _ U U k1 k2
   | true =>
     by_cases h : (sbRead (D.find 0)).turn.toNat < (sbRead (D.find 1)).turn.toNat
     · have e : D.counts = some (sbRead (D.find 1)) := by simp [Dk.counts, k1, k2, h]
       rw [e]
       exact open_lt E d D l h64 hdead hpn _ _ U U _ _ U U k1 k2 h
     · have e : D.counts = some (sbRead (D.find 0)) := by simp [Dk.counts, k1, k2, h]
       rw [e]
       exact open_ge E d D l h64 hdead hpn _ _ U U _ _ U U k1 k2 h
end
section
open Go Go.SL
/-! A superblock that is written is the one that is read. -/
theorem leB_getD {n i : Nat} (x : BitVec 64) (h : i < n) : (leB n x).getD i 0 = (((x >>> (8 * i)).toNat % 256 : Nat) : Int) := by
 simp [leB, List.getD_eq_getElem?_getD, h]
theorem leG_leB {n : Nat} (x : BitVec 64) (j : Nat) : ∀ i, i ≤ n → (leG (leB n x) i).getLsbD j = (decide (j < 8 * i) && x.getLsbD j)
 | 0, _ => by simp [leG]
 | i + 1, hi => by
   rw [leG, leB_getD x (by omega), BitVec.getLsbD_or, leG_leB x j i (by omega), BitVec.getLsbD_shiftLeft]
   rw [show BitVec.ofInt 64 (((x >>> (8 * i)).toNat % 256 : Nat) : Int) = BitVec.ofNat 64 ((x >>> (8 * i)).toNat % 2 ^ 8) from BitVec.ofInt_natCast ..]
   rw [BitVec.getLsbD_ofNat, Nat.testBit_mod_two_pow, ← BitVec.getLsbD, BitVec.getLsbD_ushiftRight]
   by_cases h1 : j < 8 * i
   · have h2 : j < 8 * (i + 1) := by omega
     simp [h1, h2]
   · by_cases h2 : j < 8 * (i + 1)
     · have h3 : j - 8 * i < 8 := by omega
       have h4 : j - 8 * i < 64 := by omega
       have h5 : 8 * i + (j - 8 * i) = j := by omega
       by_cases h6 : j < 64
       · simp [h1, h2, h3, h4, h5, h6]
       · simp [h1, h2, h6, BitVec.getLsbD_of_ge x j (by omega)]
     · have h3 : ¬ j - 8 * i < 8 := by omega
       simp [h1, h2, h3]
theorem leG_leB8 (x : BitVec 64) : leG (leB 8 x) 8 = x := by
 refine BitVec.eq_of_getLsbD_eq fun j hj => ?_
 rw [leG_leB x j 8 (Nat.le_refl _)]
 simp [hj]
theorem leG_leB4 (x : BitVec 64) (h : x.toNat < 4294967296) : leG (leB 4 x) 4 = x := by
 refine BitVec.eq_of_getLsbD_eq fun j hj => ?_
 rw [leG_leB x j 4 (Nat.le_refl _)]
 by_cases h1 : j < 32
 · simp [h1]
 · have : x.getLsbD j = false := by
    rw [BitVec.getLsbD]
    exact Nat.testBit_lt_two_pow (Nat.lt_of_lt_of_le h (by
     have : 2 ^ 32 ≤ 2 ^ j := Nat.pow_le_pow_right (by decide) (by omega)
     omega))
   simp [this]
structure Sb.Good (s : Sb) : Prop where
 hash : s.hash.length = 16
 place : s.place = 0 ∨ s.place = 1
 lo : 0 ≤ s.size
 hi : s.size < 4294967296
theorem sbRead_block {s : Sb} (h : s.Good) : sbRead (sbBlock s) = s := by
 have hp : s.place % 256 = s.place := by rcases h.place with e | e <;> rw [e] <;> rfl
 have hz : (BitVec.ofInt 32 s.size).toNat = s.size.toNat := by
  rw [BitVec.toNat_ofInt]
  have := h.lo
  have := h.hi
  omega
 have hz2 : (BitVec.ofInt 64 (s.size.toNat : Int)).toNat = s.size.toNat := by
  rw [BitVec.toNat_ofInt]
  have := h.hi
  omega
 obtain ⟨y, hy⟩ : ∃ y, BitVec.ofInt 64 ((BitVec.ofInt 32 s.size).toNat : Int) = y := ⟨_, rfl⟩
 obtain ⟨z, hB⟩ : ∃ z, sbBlock s = lettersL ++ ([s.place % 256, 0] ++ (leB 8 s.turn ++ (leB 4 y ++ (s.hash ++ (List.replicate 8 0 ++ z))))) := ⟨(sha (sbHead s)).take 16, by
  rw [sbBlock]
  conv => lhs; lhs; rw [sbHead]
  rw [hy]
  simp only [List.append_assoc]⟩
 have h12 : ((sbBlock s).drop 12).take 8 = leB 8 s.turn := by
  rw [hB, ← List.append_assoc, List.drop_left' (by simp [lettersL]), List.take_left' (leB_length _ _)]
 have h20 : ((sbBlock s).drop 20).take 4 = leB 4 (BitVec.ofInt 64 ((BitVec.ofInt 32 s.size).toNat : Int)) := by
  rw [hB, hy, ← List.append_assoc, ← List.append_assoc, List.drop_left' (by simp [lettersL, leB_length]), List.take_left' (leB_length _ _)]
 have h24 : ((sbBlock s).drop 24).take 16 = s.hash := by
  rw [hB, ← List.append_assoc, ← List.append_assoc, ← List.append_assoc, List.drop_left' (by simp [lettersL, leB_length]), List.take_left' h.hash]
 unfold sbRead
 rw [sbBlock_ten, hp, h12, h20, h24, leG_leB8, hz, leG_leB4 _ (by rw [hz2]; have := h.hi; omega), hz2]
 rw [show IntKind.i64.wrap s.place = s.place from Wm (by rcases h.place with e | e <;> rw [e] <;> decide) (by rcases h.place with e | e <;> rw [e] <;> decide)]
 rw [BitVec.toNat_ofInt, show ((((s.size.toNat : Nat) : Int) % ((2 ^ 32 : Nat) : Int)).toNat : Int) = s.size by have := h.lo; have := h.hi; omega]
theorem sbOk_block {s : Sb} (h : s.Good) : sbOk (sbBlock s) = true := by
 rw [sbOk, sbRead_block h]
 rcases h.place with e | e <;> simp [e]
theorem sbOk_zero : sbOk zeroB = false := by
 have h : ¬ sbBlock (sbRead zeroB) = zeroB := fun e => by
  have h1 : (sbBlock (sbRead zeroB)).getD 0 0 = 104 := by simp [sbBlock, sbHead, lettersL]
  rw [e] at h1
  exact absurd h1 (by decide)
 rw [sbOk, decide_eq_false h, Bool.and_false]
end
section
open Go Go.SL
/-! What a disk holds, and what a cut leaves. -/
structure Holds (s : Sb) (was : List Int) (D : Dk) : Prop where
 up : Up D
 none : D.pending = []
 fits : Fits s D
 size : s.size = was.length
 hash : (sha was).take 16 = s.hash
 snap : snapS s D = was
 mine : D.find ((s.turn.toNat % 2 : Nat) : Int) = sbBlock s
 other : sbOk (D.find ((1 - s.turn.toNat % 2 : Nat) : Int)) = true → (sbRead (D.find ((1 - s.turn.toNat % 2 : Nat) : Int))).turn.toNat < s.turn.toNat
theorem Fits.good {s : Sb} {D : Dk} (h : Fits s D) (hok : D.Ok) : s.Good := ⟨h.hash, h.place, h.lo, by
 have h1 := h.hi
 have h2 := hok.most
 have h4 : 4 * D.half ≤ D.safe.length - 2 := by unfold Dk.half; omega
 omega⟩
theorem Holds.counts {s : Sb} {was : List Int} {D : Dk} (h : Holds s was D) : D.counts = some s := by
 have hg := h.fits.good h.up.ok
 have hm := h.mine
 have ho := h.other
 unfold Dk.counts
 rcases Nat.mod_two_eq_zero_or_one s.turn.toNat with e | e
 · rw [e] at hm ho
   have hm : D.find 0 = sbBlock s := hm
   have ho : sbOk (D.find 1) = true → (sbRead (D.find 1)).turn.toNat < s.turn.toNat := ho
   rw [hm, sbOk_block hg, sbRead_block hg, if_pos rfl, if_neg]
   rintro ⟨h1, h2⟩
   have := ho h1
   omega
 · rw [e] at hm ho
   have hm : D.find 1 = sbBlock s := hm
   have ho : sbOk (D.find 0) = true → (sbRead (D.find 0)).turn.toNat < s.turn.toNat := ho
   rw [hm, sbOk_block hg, sbRead_block hg]
   by_cases h0 : sbOk (D.find 0) = true
   · rw [if_pos h0, if_pos ⟨rfl, ho h0⟩]
   · rw [if_neg h0, if_pos rfl]
theorem half_mul {s : Sb} {D : Dk} (h : s.place = 0 ∨ s.place = 1) : s.place = 0 ∧ s.place * (D.half : Int) = 0 ∨ s.place = 1 ∧ s.place * (D.half : Int) = D.half := by
 rcases h with e | e
 · exact .inl ⟨e, by rw [e, Int.zero_mul]⟩
 · exact .inr ⟨e, by rw [e, Int.one_mul]⟩
theorem half_le (D : Dk) (h : 2 ≤ D.safe.length) : 4 * D.half + 2 ≤ D.safe.length := by unfold Dk.half; omega
theorem holds_format {D : Dk} (h : Up D) (h64 : 64 ≤ D.safe.length) : Holds sb0 [] D.formatted := by
 obtain ⟨hu, hl, hp⟩ := formatted_up h (by omega)
 have h1 := h.push (i := 0) (b := sbBlock sb0) (by omega) (sbBlock_length sb0_hash)
 have h3 := h1.push (i := 1) (b := zeroB) (by simp only [Dk.push, Dk.does]; omega) rfl
 have e : ∀ j : Int, 0 ≤ j → j < D.safe.length → D.formatted.find j = if 1 = j then zeroB else if 0 = j then sbBlock sb0 else D.find j := fun j h0 hj => by
  unfold Dk.formatted
  rw [dk_find_settle h3.ok j ⟨h0, hj⟩, dk_find_push, dk_find_push]
 refine ⟨hu, hp, ⟨sb0_hash, .inl rfl, by decide, by simp [sb0]; omega, by omega⟩, rfl, rfl, rfl, ?_, ?_⟩
 · rw [show (((sb0.turn.toNat % 2 : Nat)) : Int) = 0 from rfl, e 0 (by decide) (by omega), if_neg (by decide), if_pos rfl]
 · rw [show (((1 - sb0.turn.toNat % 2 : Nat)) : Int) = 1 from rfl, e 1 (by decide) (by omega), if_pos rfl, sbOk_zero]
   exact fun h => absurd h (by decide)
theorem next_turn {s : Sb} {bs : List Int} (h : s.turn.toNat + 1 < 18446744073709551616) : (nextS s bs).turn.toNat = s.turn.toNat + 1 := by
 simp only [nextS, BitVec.toNat_add]
 rw [show (1#64).toNat = 1 from rfl]
 omega
theorem holds_taken {s : Sb} {was bs : List Int} {D D' : Dk} (h : Holds s was D) (hl : bs.length ≤ 64 * D.half) (ht : s.turn.toNat + 1 < 18446744073709551616) (hT : Taken s D bs D') : Holds (nextS s bs) bs D' := by
 have hp := h.fits.place
 have h2 := h.fits.two
 have hf := hT.fits h2 hp hl
 have hg := h.fits.good h.up.ok
 have htn := next_turn (bs := bs) ht
 have hhl := half_le D h2
 have hpl : (nextS s bs).place = 1 - s.place := rfl
 have h5 : 0 ≤ (nextS s bs).place * (D.half : Int) := by
  rcases half_mul (D := D) hf.place with ⟨_, e⟩ | ⟨_, e⟩ <;> omega
 have hm := hT.find ((nextS s bs).turn.toNat % 2 : Nat) (by omega) (by omega)
 rw [if_pos rfl] at hm
 have ho := hT.find ((1 - (nextS s bs).turn.toNat % 2 : Nat) : Int) (by omega) (by omega)
 rw [if_neg (by omega), if_neg (by omega)] at ho
 refine ⟨hT.up, hT.none, hf, rfl, rfl, snapS_taken hT h2 hp hl, hm, ?_⟩
 rw [ho, show (1 - (nextS s bs).turn.toNat % 2) = s.turn.toNat % 2 by omega, h.mine, sbRead_block hg, htn]
 exact fun _ => by omega
end
section
open Go Go.SL
end
section
open Go Go.SL
theorem range_n (n : Int) (m : Nat) (hm : 0 < m) : ∃ k : Nat, (max n 0).tmod m = k ∧ k < m := by
 have h1 : 0 ≤ max n 0 := by omega
 have h2 := Int.emod_nonneg (max n 0) (show (m : Int) ≠ 0 by omega)
 have h3 := Int.emod_lt_of_pos (max n 0) (show (0 : Int) < m by omega)
 refine ⟨((max n 0).tmod m).toNat, ?_, ?_⟩
 · rw [Int.tmod_eq_emod_of_nonneg h1]; omega
 · rw [Int.tmod_eq_emod_of_nonneg h1]; omega
attribute [local irreducible] J JL JE JM LS Y Fc RV Code.wp wpList Code.wpIn wpListIn
attribute [local irreducible] Yc
variable (E : World)
theorem snapshot_ok (st d : Nat) (s : Sb) (D : Dk) (bs : List Int) (l : List HProp) (hf : Fits s D) (hdead : D.dead = false) (hpn : D.pending.length ≤ 1000000) (hb : snapS s D = bs) (hl : s.size.toNat = bs.length) (hs : (sha bs).take 16 = s.hash) :
 Fc prog E 111 [.pointer (some ⟨st, 0, none⟩)].toArray (row st 205 (scells s d) :: disk d D :: l)
  (fun v l' => ∃ a c, v = .tuple #[.slice a bs.length c, .int .i64 0] ∧ l' = own 5 1 (.slice a bs.length c) bs.length (ints .u8 bs) :: row st 205 (scells s d) :: disk d D :: l) :=
 (snapshot_spec E st d s D l hf hdead hpn).mono fun v l' h => by
   rw [hb, if_pos hs, hl] at h
   exact h
theorem open_holds (d : Nat) (D : Dk) (s : Sb) (w : List Int) (l : List HProp) (h : Holds s w D) (h64 : 64 ≤ D.safe.length) :
 Fc prog E 87 [.pointer (some ⟨d, 0, none⟩)].toArray (disk d D :: l) (fun v l' => ∃ st, v = .tuple #[.pointer (some ⟨st, 0, none⟩), .int .i64 0] ∧ l' = row st 205 (scells s d) :: disk d D :: l) :=
 (open_spec E d D l h64 h.up.dead (by rw [h.none]; decide)).mono fun v l' q => by
   rw [h.counts] at q
   simp only [openP] at q
   rw [if_pos ⟨h.fits.hi, by rw [h.snap]; exact h.hash⟩] at q
   exact q
end
end Go.Proofs.YtaopifoidbdniaaGreat
