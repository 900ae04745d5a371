import Derived.Test.YtaopifoidbdniaaGreatJoin1
import Derived.Test.YtaopifoidbdniaaGreatJoin2
import Derived.Test.YtaopifoidbdniaaGreatJoin5
import Derived.Test.YtaopifoidbdniaaGreatJoin6
import Derived.Test.YtaopifoidbdniaaGreatJoin7
namespace Go.Proofs.YtaopifoidbdniaaGreat
section
open Go Go.SL
/-! A transaction's sectors. -/
def needN (n : Nat) : Nat := 1 + (n + 62) / 63
def mkHead (turn : BitVec 64) (number : Int) (tx : List Int) : List Int := [1] ++ leB 8 turn ++ leB 4 (BitVec.ofInt 64 number) ++ leB 4 (BitVec.ofInt 64 (tx.length : Int)) ++ (sha tx).take 16 ++ List.replicate 15 0
def mkB (turn : BitVec 64) (number : Int) (tx : List Int) : Blk := mkHead turn number tx ++ (sha (mkHead turn number tx)).take 16
theorem sha16 (bs : List Int) : ((sha bs).take 16).length = 16 := by rw [List.length_take, sha_length]; rfl
theorem mkHead_length (turn : BitVec 64) (number : Int) (tx : List Int) : (mkHead turn number tx).length = 48 := by simp only [mkHead, List.length_append, leB_length, sha16, List.length_replicate]; rfl
theorem mkB_length (turn : BitVec 64) (number : Int) (tx : List Int) : (mkB turn number tx).length = 64 := by rw [mkB, List.length_append, mkHead_length, sha16]
theorem leB4_mod (z : Int) : leB 4 (BitVec.ofInt 64 ((BitVec.ofInt 32 z).toNat : Int)) = leB 4 (BitVec.ofInt 64 z) := by
 simp only [leB, List.range, List.range.loop, List.map_cons, List.map_nil, BitVec.toNat_ushiftRight, BitVec.toNat_ofInt, Nat.shiftRight_eq_div_pow]
 congr 1
 · omega
 congr 1
 · omega
 congr 1
 · omega
 congr 1
 omega
attribute [local irreducible] J JL JE JM LS Y Fc RV Code.wp wpList Code.wpIn wpListIn
attribute [local irreducible] Yc
variable (E : World)
theorem need_spec (n : Nat) (hn : n ≤ 9223372036854775807) (l : List HProp) : Fc prog E 113 [.int .i64 (n : Int)].toArray l (fun v l' => v = .int .i64 (needN n : Int) ∧ l' = l) := by
 refine Va (c := ?codeC) Tryz.func113 ?hb Tryz.ntmps113 ?hl ?_
 case hb => exact rfl
 case hl => exact rfl
 refine Jh (Je (Jb (Jf rfl) U U U ?_))
 refine Jg (Ja (Jh (Jh (Je (Jb (Jd rfl) U U U (Jb (y_lss U U) U U U ?_))))))
 refine Jg (Ja ?_)
 refine Vk rfl zbl ?_
 refine Vd (Ja (Jh (Je (Jb (Jd rfl) U U U ?_))))
 refine Jb (y_quo (m := ((n / 63 : Nat) : Int)) U U (by decide) (by rw [Int.tdiv_eq_ediv_of_nonneg (by omega)]; exact Wm (by omega) (by omega))) U U U ?_
 refine Jb (Wa U U zwr) U U U ?_
 refine Jb (Jd rfl) U U U ?_
 refine Jb (y_rem (m := ((n % 63 : Nat) : Int)) U U (by decide) (by rw [Int.tmod_eq_emod_of_nonneg (by omega)]; omega)) U U U ?_
 refine Jb (y_min2 U U (by (first | rfl | omega))) U U U ?_
 refine Jb (Wa (m := (needN n : Int)) U U (by rw [show (1 : Int) + ((n / 63 : Nat) : Int) + min ((n % 63 : Nat) : Int) 1 = (needN n : Int) by unfold needN; omega]; exact Wm (by unfold needN; omega) (by unfold needN; omega))) U U U ?_
 refine Jb (Jf rfl) U U U ?_
 refine Jg (Ja (Vn ?_))
 refine Vi (.inl rfl) U U zrv ?_
 exact ⟨rfl, rfl⟩
theorem octPut64_at (p : Option Addr) (cap n k : Nat) (bs : List Int) (x : BitVec 64) (l : List HProp) (hn : bs.length = n) (hk : n + 8 = k) (hin : InL l p n cap (ints .u8 bs)) (hb : n ≤ 1073741824) :
 Fc prog E 128 [.slice p n cap, Q x].toArray l (fun v l' => ∃ a c, v = .slice a k c ∧ l' = own 5 1 v k (ints .u8 (bs ++ leB 8 x)) :: l) := by
 subst hn
 subst hk
 exact octPut64_spec E p cap bs x l hin hb
theorem octPut32_at (p : Option Addr) (cap n k : Nat) (bs : List Int) (x : BitVec 32) (l : List HProp) (hn : bs.length = n) (hk : n + 4 = k) (hin : InL l p n cap (ints .u8 bs)) (hb : n ≤ 1073741824) :
 Fc prog E 152 [.slice p n cap, W x].toArray l (fun v l' => ∃ a c, v = .slice a k c ∧ l' = own 5 1 v k (ints .u8 (bs ++ leB 4 (BitVec.ofInt 64 (x.toNat : Int)))) :: l) := by
 subst hn
 subst hk
 exact octPut32_spec E p cap bs x l hin hb
theorem shaSum_at (p : Option Addr) (cap n : Nat) (bs : List Int) (l : List HProp) (hn : bs.length = n) (hin : InL l p n cap (ints .u8 bs)) (hb : n ≤ 576460752303423488) :
 Fc prog E 148 [.slice p n cap].toArray l (fun v l' => v = .agg (ints .u8 (sha bs)).toArray ∧ l' = l) := by
 subst hn
 exact shaSum_spec E p cap bs l hin hb
theorem mark1_spec (b : Nat) (a p : Option Addr) (c cap n m : Nat) (bs tx : List Int) (l : List HProp) (hn : bs.length = n) (hm : tx.length = m) (hnb : n ≤ 1073741824) (hmb : m ≤ 576460752303423488)
 (hin : InL (row b 41 [.slice a n c] :: own 5 1 (.slice a n c) n (ints .u8 bs) :: l) p m cap (ints .u8 tx)) :
 Fc prog E 180 ([Value.slice p m cap] ++ [Value.pointer (some ⟨b, 0, none⟩)]).toArray (row b 41 [.slice a n c] :: own 5 1 (.slice a n c) n (ints .u8 bs) :: l)
  (fun v l' => ∃ a2 c2, v = .tuple #[] ∧ l' = row b 41 [.slice a2 (n + 16) c2] :: own 5 1 (.slice a2 (n + 16) c2) (n + 16) (ints .u8 (bs ++ (sha tx).take 16)) :: l) := by
 refine Wg ?_
 have hl : (ints .u8 (sha tx)).length = 32 := by rw [ints, List.length_map, sha_length]
 have hrow : ∀ b' l', (∃ r, Pick l' (row b' 120 (ints .u8 (sha tx))) r) → InL l' (some ⟨b', 0 + 0 * 1, .none⟩) 16 32 (ints .u8 ((sha tx).take 16)) := fun b' l' ⟨r, hp⟩ => ⟨by decide, by decide, .inl ⟨b', 0, rfl, fun mm => RdN.row (n := 16) (Vp mm hp) (by simp [ints])⟩⟩
 refine Va (c := ?codeC) Tryz.func180 ?hb Tryz.ntmps180 ?hl ?_
 case hb => exact rfl
 case hl => exact rfl
 refine Jh (Je (Jb (Jd rfl) U U U ?_))
 refine Jl rfl (Jw e148 U U (shaSum_at E p cap m tx _ hm zinl hmb) ?_)
 rintro _ _ ⟨rfl, rfl⟩
 refine Jl rfl (Wf hT U U zcl rfl (fun b2 => ?_))
 refine Jl rfl (Vx hT U U U zln zoc zpk zln ?_)
 refine Jg (Ja ?_)
 refine Vz _ _ [(1, .q), (0, .e), (2, .l), (3, .l)] mixed (by kernel_rfl) (Ji (Jz Jm) (Ji (Jz Jm) (Jj))) ?_
 refine Jc U U U U (fun m => y_slice_arr hT U U U U (.inl ⟨rfl, rfl⟩) (.inr ⟨_, _, _, rfl, rfl, zcl⟩) zix zix) ?_
 refine Wh U U U U (fun fr => Jo hT U U U zrd) ?_
 refine Vm U U (fun fr => l_appendIn hT U U U U U U U U zpk (hrow _ _ ⟨_, by (repeat (first | exact Jm | apply Jz | apply Vp))⟩) (by simp [ints, sha16]; rfl) (ints_one _ _) (by show (n + 16) * 1 ≤ 140737488355328; omega) (by show n + 16 ≤ 9223372036854775807; omega) rfl (fun qa qc hqc => ⟨[_, _], (by (repeat (first | exact Jj | exact Vc | refine Ji Jm ?_))), ?_⟩))
 refine Vm U U (fun fr => Vs hT U U U U U zpk zix (⟨[_, _], (by (repeat (first | exact Jj | exact Vc | refine Ji Jm ?_))), ?_⟩))
 refine Vv ?_
 all_goals
  refine JE.ret0 (.inr rfl) U U  ?_
  refine ⟨_, fun w q => ?_, qa, qc, rfl, rfl⟩
  have e : ints .u8 (bs ++ (sha tx).take 16) = ints .u8 bs ++ ints .u8 ((sha tx).take 16) := by simp [ints]
  rw [e]
  exact q.sup zsup
theorem mark_spec (turn : BitVec 64) (number : Int) (p : Option Addr) (cap n : Nat) (tx : List Int) (l : List HProp) (hn : tx.length = n) (hb : n ≤ 1073741824) (hin : InL l p n cap (ints .u8 tx)) :
 Fc prog E 163 [Q turn, .int .i64 number, .slice p n cap].toArray l (fun v l' => v = .agg (encB (mkB turn number tx)).toArray ∧ l' = l) := by
 refine Fc.eqs ?_
 obtain ⟨h1, e1⟩ : ∃ h1, [1] ++ leB 8 turn = h1 := ⟨_, rfl⟩
 have l1 : h1.length = 9 := by rw [← e1, List.length_append, leB_length]; rfl
 obtain ⟨h2, e2⟩ : ∃ h2, h1 ++ leB 4 (BitVec.ofInt 64 number) = h2 := ⟨_, rfl⟩
 have l2 : h2.length = 13 := by rw [← e2, List.length_append, l1, leB_length]
 obtain ⟨h3, e3⟩ : ∃ h3, h2 ++ leB 4 (BitVec.ofInt 64 (n : Int)) = h3 := ⟨_, rfl⟩
 have l3 : h3.length = 17 := by rw [← e3, List.length_append, l2, leB_length]
 obtain ⟨h4, e4⟩ : ∃ h4, h3 ++ (sha tx).take 16 = h4 := ⟨_, rfl⟩
 have l4 : h4.length = 33 := by rw [← e4, List.length_append, l3, sha16]
 obtain ⟨H, eH⟩ : ∃ H, mkHead turn number tx = H := ⟨_, rfl⟩
 have lH : H.length = 48 := by rw [← eH]; exact mkHead_length turn number tx
 have eh : h4 ++ List.replicate 15 0 = H := by rw [← eH, mkHead, hn, ← e4, ← e3, ← e2, ← e1]
 have eB : mkB turn number tx = H ++ (sha H).take 16 := by rw [mkB, eH]
 have hB64 : (ints .u8 (H ++ (sha H).take 16)).length = 64 := by rw [ints, List.length_map, List.length_append, lH, sha16]
 have hE64 : (encB (H ++ (sha H).take 16)).length = 64 := hB64
 rw [eB]
 refine Va (c := ?codeC) Tryz.func163 ?hb Tryz.ntmps163 ?hl ?_
 case hb => exact rfl
 case hl => exact rfl
 refine Jh (Je ?_)
 refine Jl rfl (Wf hT U U zcl rfl (fun b1 => ?_))
 refine Jg (Ja (Jh (Je ?_)))
 refine Jl rfl (Wf hT U U zcl rfl (fun b2 => ?_))
 refine Jg (Ja (Jh (Je (Jb (y_makeFunc U U) U U U (Jb (Jf rfl) U U U ?_)))))
 refine Jg (Ja (Jh (Je ?_)))
 refine Jl rfl (l_buildSliceP hT U U U U U U U zfl rfl (fun b3 => ?_))
 refine Jb (Jd rfl) U U U ?_
 refine Jl rfl (Jw e128 U U (octPut64_at E _ 1 1 9 [1] turn _ U U (InL.ofRow zpk (by decide)) (by decide)) ?_)
 rintro _ _ ⟨a1, c1, rfl, rfl⟩
 refine Jl rfl (Vs hT U U U U U zpk zix ?_)
 refine Jg (Ja (Jh ?_))
 rw [e1]
 refine J.fact (p := OwnAt a1 9 c1 (ints .u8 h1)) (fun w q => Vu (q.pick zpk)) fun o1 => ?_
 refine Je ?_
 refine Jb (Jo hT U U U zrd) U U U ?_
 refine Jb (Jd rfl) U U U ?_
 refine Jb (y_convToW hT U U U U) U U U ?_
 refine Jl rfl (Jw e152 U U (octPut32_at E a1 c1 9 13 h1 (BitVec.ofInt 32 number) _ l1 rfl (o1.inl zpk) (by decide)) ?_)
 rintro _ _ ⟨a2, c2, rfl, rfl⟩
 rw [leB4_mod, e2]
 refine JL.fact (p := OwnAt a2 13 c2 (ints .u8 h2)) (fun w q => Vu (q.pick zpk)) fun o2 => ?_
 refine Jb (Jd rfl) U U U (Jb (Vf hT U U U) U U U ?_)
 refine Jb (y_convToW hT U U U U) U U U ?_
 refine Jl rfl (Jw e152 U U (octPut32_at E a2 c2 13 17 h2 (BitVec.ofInt 32 (n : Int)) _ l2 rfl (o2.inl zpk) (by decide)) ?_)
 rintro _ _ ⟨a3, c3, rfl, rfl⟩
 rw [leB4_mod, e3]
 refine Jl rfl (Vs hT U U U U U zpk zix ?_)
 refine Jg (Ja (Jh (Je (Jb (Jd rfl) U U U (Jb (Jd rfl) U U U ?_)))))
 refine Jl rfl (l_callV e180 U U U (Vw (Ji (A := row b2 41 [.slice a3 17 c3]) zpk (Ji (A := own 5 1 (.slice a3 17 c3) 17 (ints .u8 h3)) zpk Jj)) (mark1_spec E b2 a3 p c3 cap 17 n h3 tx _ l3 hn (by decide) (by omega) zinl)) ?_)
 rintro _ _ ⟨a4, c4, rfl, rfl⟩
 refine Jg (Ja (Jh ?_))
 rw [e4]
 refine Je ?_
 refine Jb (Jo hT U U U zrd) U U U ?_
 refine Jb (Jo hT U U U zrd) U U U ?_
 refine Jb (Vf hT U U U) U U U ?_
 refine Jb (y_sub U U zwr) U U U ?_
 refine Jl rfl (l_appendZ (m := 15) hT U U U U U U U U U U U zpk (by decide) (by rw [show i5.bytes = 1 from rfl]; decide) (by decide) rfl (fun a5 c5 hc5 => ?_))
 rw [show ints .u8 h4 ++ List.replicate 15 (Value.int .u8 0) = ints .u8 H by rw [← eh]; simp [ints]]
 refine Jl rfl (Vs hT U U U U U zpk zix ?_)
 refine Jg (Ja (Jh ?_))
 refine J.fact (p := OwnAt a5 48 c5 (ints .u8 H)) (fun w q => Vu (q.pick zpk)) fun o5 => ?_
 refine Je (Jb (Jd rfl) U U U ?_)
 refine Jb (Jo hT U U U zrd) U U U ?_
 refine Jl rfl (l_callV e180 U U U (Vw (Ji (A := row b2 41 [.slice a5 48 c5]) zpk (Ji (A := own 5 1 (.slice a5 48 c5) 48 (ints .u8 H)) zpk Jj)) (mark1_spec E b2 a5 a5 c5 c5 48 48 H H _ lH lH (by decide) (by decide) (o5.inl zpk))) ?_)
 rintro _ _ ⟨a6, c6, rfl, rfl⟩
 refine Jg (Ja (Jh ?_))
 refine J.fact (p := OwnAt a6 64 c6 (ints .u8 (H ++ (sha H).take 16))) (fun w q => Vu (q.pick zpk)) fun o6 => ?_
 obtain ⟨g6, rfl⟩ := o6.at_.resolve_right fun ⟨h0, _⟩ => by have := o6.le; omega
 refine Je ?_
 refine Jb (Jo hT U U U zrd) U U U ?_
 refine Jb (y_sliceToArr hT U U U zix) U U U ?_
 refine Jb (We hT U U U (RdN.own zpk) hE64) U U U ?_
 refine Jl rfl (Vx hT U U U zln zoc zpk zln ?_)
 refine Jg (Ja (Vn ?_))
 refine Vi (.inl rfl) U U zrv ?_
 exact ⟨rfl, fun w q => q.sup zsup⟩
end
section
open Go Go.SL
/-! The document's mark. -/
attribute [local irreducible] J JL JE JM LS Y Fc RV Code.wp wpList Code.wpIn wpListIn
attribute [local irreducible] Yc
variable (E : World)
end
section
open Go Go.SL
/-! A transaction's pieces. -/
def pieceB (tx : List Int) (i : Nat) : Blk := 0 :: ((tx.drop (63 * i)).take 63 ++ List.replicate (63 - ((tx.drop (63 * i)).take 63).length) 0)
theorem pieceB_length (tx : List Int) (i : Nat) : (pieceB tx i).length = 64 := by simp [pieceB]; omega
theorem piece_cells (X : List Int) (h : X.length ≤ 63) : List.take (0 + 1 * 1) (List.replicate 64 (Value.int .u8 0)) ++ List.take X.length (ints .u8 X) ++ List.drop (0 + 1 * 1 + X.length) (List.replicate 64 (Value.int .u8 0)) = encB (0 :: (X ++ List.replicate (63 - X.length) 0)) := by
 rw [List.take_replicate, List.drop_replicate, List.take_of_length_le (by simp [ints]), show 64 - (0 + 1 * 1 + X.length) = 63 - X.length by omega]
 simp [encB, ints]
def pieceN (n : Nat) : Nat := (n + 62) / 63
def piecesB (tx : List Int) (k : Nat) : List Blk := (List.range k).map (pieceB tx)
theorem piecesB_length (tx : List Int) (k : Nat) : (piecesB tx k).length = k := by simp [piecesB]
theorem piecesB_next (tx : List Int) (k : Nat) : piecesB tx (k + 1) = piecesB tx k ++ [pieceB tx k] := by simp [piecesB, List.range_succ]
attribute [local irreducible] J JL JE JM LS Y Fc RV Code.wp wpList Code.wpIn wpListIn
attribute [local irreducible] Yc
variable (E : World)
theorem chunk_spec (v : Value) (k : Nat) (hk : 1 ≤ k) (l : List HProp) (hv : v.oneCell' = true) :
 Fc prog E 194 [v, .int .i64 (k : Int)].toArray l (fun u l' => ∃ b1 b2, u = .func (.func 215) #[] [Value.pointer (some ⟨b1, 0, none⟩), .pointer (some ⟨b2, 0, none⟩)].toArray ∧ l' = row b2 3 [.int .i64 (k : Int)] :: row b1 41 [v] :: l) := by
 have hvc : v.cells = [v].toArray := by cases v <;> simp_all [Value.cells, Value.oneCell']
 refine Va (c := ?codeC) Tryz.func194 ?hb Tryz.ntmps194 ?hl ?_
 case hb => exact rfl
 case hl => exact rfl
 refine Jh (Je ?_)
 refine Jl rfl (l_box rfl hvc rfl (fun b1 => ?_))
 refine Jl rfl (l_box rfl zcl rfl (fun b2 => ?_))
 refine Jb (Jf rfl) U U U ?_
 refine Jg (Ja (Jh (Jh (Je ?_))))
 refine Jb (Jo hT U U U zrd) U U U ?_
 refine Jb (y_lss U U) U U U ?_
 refine Jg (Ja ?_)
 refine Vk rfl zbl ?_
 refine Vd (Ja (Jh (Je (Jb (y_makeFunc U U) U U U (Jb (Jf rfl) U U U ?_)))))
 refine Jg (Ja (Vn ?_))
 refine Vi (.inl rfl) U U zrv ?_
 exact ⟨b1, b2, rfl, rfl⟩
theorem chunk1_spec (k b1 b2 g o n c : Nat) (p : Option Addr) (hp : 0 < n → p = some ⟨g, o, none⟩) (hnc : n ≤ c) (hn : n ≤ 1073741824) (St : Nat → List HProp)
 (hy : ∀ j, 63 * j < n → Yc prog E k [Value.slice (some ⟨g, o + 63 * j, none⟩) (min 63 (n - 63 * j)) (min 63 (n - 63 * j))].toArray (row b2 3 [.int .i64 63] :: row b1 41 [.slice p n c] :: St j)
   (fun v l' => v = .bool true ∧ l' = row b2 3 [.int .i64 63] :: row b1 41 [.slice p n c] :: St (j + 1))) :
 Fc prog E 215 [.func (.yield k) #[] #[], Value.pointer (some ⟨b1, 0, none⟩), .pointer (some ⟨b2, 0, none⟩)].toArray (row b2 3 [.int .i64 63] :: row b1 41 [.slice p n c] :: St 0)
  (fun _ l' => l' = row b2 3 [.int .i64 63] :: row b1 41 [.slice p n c] :: St (pieceN n)) := by
 refine Va (c := ?codeC) Tryz.func215 ?hb Tryz.ntmps215 ?hl ?_
 case hb => exact rfl
 case hl => exact rfl
 refine Jh (Je (Jb (Jf rfl) U U U ?_))
 refine Jg (Ja (Ve ?_))
 refine Wn (α := Nat) (fun j => j ≤ pieceN n) (fun j => [(0, .func (.yield k) #[] #[]), (1, .pointer (some ⟨b1, 0, none⟩)), (2, .pointer (some ⟨b2, 0, none⟩)), (4, .int .i64 (63 * (j : Int)))]) (fun j => row b2 3 [.int .i64 63] :: row b1 41 [.slice p n c] :: St j) (fun j => pieceN n - j) 0 (Nat.zero_le _) ⟨U, U, U, U, trivial⟩ (fun w h => h) ?_
 intro j hj
 refine Jh (Jh (Je (Jb (Jd rfl) U U U ?_)))
 refine Jb (Jo hT U U U zrd) U U U ?_
 refine Jb (Vf hT U U U) U U U (Jb (y_lss U U) U U U ?_)
 refine Jg (Ja ?_)
 first | apply Jx rfl | apply Vo rfl
 case' ht =>
  intro h
  try (first | exact zom | exact zho h | subst h)
  all_goals
   refine Vd ?_
 case' hf =>
  intro h
  try (first | exact zom | exact zho h | subst h)
  all_goals
   refine Wl (Jv (Jv (Vl ?_)))
   refine JE.ret0 (.inr rfl) U U  ?_
   obtain rfl : j = pieceN n := by unfold pieceN at hj ⊢; omega
   rfl
 all_goals refine Ja ?_
 all_goals
  refine Jh (Ve (Jh ?_))
  refine Vz _ _ [(0, .q), (1, .q), (2, .q), (3, .q), (4, .q), (5, .q), (6, .q)] mixed (by kernel_rfl) (Jj) ?_
  have hlt : 63 * j < n := by omega
  obtain rfl := hp (by omega)
  refine Jc U U U U (fun m => Jo hT U U U zrda) ?_
  refine Jc U U U U (fun m => Jo hT U U U zrda) ?_
  refine zqm U U U U U ?_
  refine Jc U U U U (fun m => y_slice (b := g) (off := o) (lo := 63 * j) (hi := n) hT U U U U (.inr ⟨_, _, _, rfl, rfl, by omega⟩) (.inl ⟨rfl, rfl⟩) (by omega) (by omega) hnc (.inl rfl)) ?_
  refine Jc U U U U (fun m => Vf hT U U U) ?_
  refine Jc U U U U (fun m => y_min2 (m := ((min 63 (n - 63 * j) : Nat) : Int)) U U (by omega)) ?_
  refine Jc U U U U (fun m => Jf rfl) ?_
  refine Vv (Ja (Jh (Je (Jb (Jd rfl) U U U ?_))))
  refine Jb (Jo hT U U U zrd) U U U ?_
  refine Jb (Jd rfl) U U U (Jb (Jd rfl) U U U (Jb (Jd rfl) U U U ?_))
  refine Jb (Wa U U zwr) U U U ?_
  refine Jb (Jd rfl) U U U (Jb (Jd rfl) U U U ?_)
  refine Jb (Wa U U zwr) U U U ?_
  refine Jb (y_slice3 (b := g) (off := o) (lo := 63 * j) (hi := 63 * j + min 63 (n - 63 * j)) (mx := 63 * j + min 63 (n - 63 * j)) hT U U U U (.inr ⟨_, _, _, rfl, rfl, by omega⟩) rfl (by omega) rfl (by omega) (by omega) (by omega) (by omega) (.inl rfl)) U U U ?_
  rw [if_neg (by omega), show i5.size = 1 from rfl, Nat.mul_one, show 63 * j + min 63 (n - 63 * j) - 63 * j = min 63 (n - 63 * j) by omega]
  refine JL.yield U U U (hy j hlt) ?_
  rintro _ _ ⟨rfl, rfl⟩
  all_goals (refine Jb (y_not rfl) U U U ?_)
  all_goals refine Jg (Ja ?_)
  all_goals
   first | apply Jx rfl | apply Vo rfl
   case' ht =>
    intro h
    try (first | exact zom | exact zho h | subst h)
    all_goals
     refine Vn (Vj (Vb (Vb (Vj ?_))))
     refine JE.ret0 (.inl rfl) U U  ?_
     obtain rfl : j = pieceN n := by unfold pieceN at hj ⊢; omega
     rfl
   case' hf =>
    intro h
    try (first | exact zom | exact zho h | subst h)
    all_goals
     refine Vd ?_
  all_goals refine Ju (Ja ?_)
  all_goals
   refine Je (Jb (Jd rfl) U U U ?_)
   refine Jb (Jo hT U U U zrd) U U U ?_
   refine Jb (Wa U U zwr) U U U ?_
   refine Jb (Jf rfl) U U U ?_
   refine Jg ?_
 all_goals
  refine Vt (s := j) (j + 1) (by unfold pieceN; omega) ⟨rfl, rfl, rfl, ?_, trivial⟩ (fun w h => h) (by unfold pieceN; omega)
  rw [show (63 : Int) * ((j + 1 : Nat) : Int) = 63 * (j : Int) + 63 by omega]
  rfl
def outM (b : Nat) (tx : List Int) (j : Nat) : HProp := pk fun q : Option Addr × Nat => [row b 170 [.slice q.1 j q.2], own 202 64 (.slice q.1 j q.2) j ((piecesB tx j).flatMap encB)]
def partsS (b : Nat) (tx : List Int) (K : LoopState → Option Code → HProp) (DD : Nat) (l : List HProp) (j : Nat) : List HProp := outM b tx j :: K .ready none :: blk DD (.deferred (some [])) :: l
theorem parts_spec (p : Option Addr) (cap n : Nat) (tx : List Int) (l : List HProp) (hn : tx.length = n) (hb : n ≤ 1073741824) (hin : InL l p n cap (ints .u8 tx)) :
 Fc prog E 172 [.slice p n cap].toArray l (fun v l' => ∃ a c, v = .slice a (pieceN n) c ∧ l' = own 202 64 v (pieceN n) ((piecesB tx (pieceN n)).flatMap encB) :: l) := by
 refine Wg ?_
 obtain ⟨g, o, hp, hr⟩ : ∃ g o, (0 < n → p = some ⟨g, o, none⟩) ∧ (0 < n → ∀ m, RdN (m ++ l) g o (ints .u8 tx)) := by
  rcases hin.rd with ⟨g, o, e, hr⟩ | ⟨e, _⟩
  · exact ⟨g, o, fun _ => e, fun _ => hr⟩
  · exact ⟨0, 0, fun h => absurd h (by have := hin.le; omega), fun h => absurd h (by have := hin.le; omega)⟩
 refine Fc.of_bodyM (c := ?codeC) Tryz.func172 ?hb Tryz.ntmps172 ?hl ?_
 case hb => exact rfl
 case hl => exact rfl
 refine Jh (Je (Jb (Jf rfl) U U U ?_))
 refine Jg (Ja (Jh (Je ?_)))
 refine Jl rfl (Wf hT U U zcl rfl (fun bo => ?_))
 refine Jg (Ja (Jh (Jh (Je (Jb (Jd rfl) U U U ?_)))))
 refine Jl rfl (Jw e194 U U (chunk_spec E _ 63 (by decide) _ rfl) ?_)
 rintro _ _ ⟨c1, c2, rfl, rfl⟩
 refine Jg (Ja (Ve ?_))
 refine J.rangeFunc e215 rfl fun fn a0 k DD K hK hf0 => ?_
 refine Fc.mono (Fc.imp (chunk1_spec E k c1 c2 g o n cap p hp hin.le hb (partsS bo tx K DD l) (fun j hlt => ?hy)) ?hi) ?hm
 case hi =>
  intro w s
  have s2 := s.own_nil (e := 202) (size := 64)
  have s3 := s2.divide (p := [row c2 3 _, row c1 41 _, row bo 170 [.slice none 0 0], own 202 64 (.slice none 0 0) 0 []]) (Ji zpk (Ji zpk (Ji zpk (Ji zpk Jj))))
  have s4 := s3.divide (p := [row bo 170 [.slice none 0 0], own 202 64 (.slice none 0 0) 0 []]) (Ji zpk (Ji zpk Jj))
  have s5 : Sat E (stars (outM bo tx 0 :: _)) w := s4.topk (none, 0)
  exact s5.sup zsup
 case hy =>
  unfold partsS outM
  refine Yc.split (p := [pk _]) (Yc.pks fun q => ?_) (Ji (Jz (Jz Jm)) Jj)
  obtain ⟨qa, qc⟩ := q
  dsimp only
  refine Yc.split (p := [K .ready none]) ?_ (Ji zpk Jj)
  refine Yc.post ?_
  have hm1 : min 63 (n - 63 * j) = ((tx.drop (63 * j)).take 63).length := by rw [List.length_take, List.length_drop, hn]
  have hpin : ∀ m', InL (m' ++ l) (some ⟨g, o + 63 * j, none⟩) (min 63 (n - 63 * j)) (min 63 (n - 63 * j)) (ints .u8 ((tx.drop (63 * j)).take 63)) := fun m' => ⟨Nat.le_refl _, by unfold maxLen; omega, .inl ⟨g, o + 63 * j, rfl, fun mm => by
   rw [← List.append_assoc]
   exact ((hr (by omega) (mm ++ m')).sub (63 * j) 63 (by simp [ints]))⟩⟩
  have hpl : (encB (pieceB tx j)).length = 64 := (encB_length _).trans (pieceB_length tx j)
  refine Yc.of_body hK hf0 rfl (by decide) ?_
  refine Je (Jb (Jf rfl) U U U ?_)
  refine Jg ?_
  refine JE.assigned zpk ?_
  refine Ve (Jh (Je ?_))
  refine Jl rfl (Wf hT U U zcl rfl (fun bb => ?_))
  refine Jg (Ja (Jh (Je ?_)))
  refine Jb (y_slice_arr hT U U U U (.inr ⟨_, _, _, rfl, rfl, zcl⟩) (.inl ⟨rfl, rfl⟩) zix zix) U U U ?_
  refine Jb (Jd rfl) U U U ?_
  refine Jl rfl (l_copy hT U U U U U U zpk (by (repeat (first | exact hpin [] | exact hpin _ | apply InL.cons | apply InL.app))) (by rw [hm1]; simp [ints]) (by decide) (ints_one _ _) rfl ?_)
  refine Jg (Ja ?_)
  refine J.picks (A := row bb 202 _) zpk (J.row_eq (encB (pieceB tx j)) (by
   obtain ⟨X, hX⟩ : ∃ X, (tx.drop (63 * j)).take 63 = X := ⟨_, rfl⟩
   have hXl : X.length ≤ 63 := by rw [← hX, List.length_take]; omega
   rw [hX] at hm1 ⊢
   rw [hm1, pieceB, hX, show min X.length (64 - 1) = X.length by omega, if_neg (by decide), show i5.size = 1 from rfl]
   exact piece_cells X hXl) ?_)
  refine Je ?_
  refine Jb (Jo hT U U U zrd) U U U ?_
  refine Jb (We hT U U U zrdn zln) U U U ?_
  refine Jl rfl (l_buildSliceP hT U U U U U U U zfl rfl (fun b2 => ?_))
  refine Jl rfl (l_append hT U U U U U U U U zpk zrdn zln zoc (by rw [show i202.bytes = 64 from rfl]; omega) (by omega) rfl (fun na nc hnc => ?_))
  refine Jl rfl (Vs hT U U U U U zpk zix ?_)
  refine Jg (Ju ?_)
  all_goals
   refine JE.round_on hK zpk ?_
   refine ⟨row c2 3 [.int .i64 63] :: row c1 41 [.slice p n cap] :: partsS bo tx K DD l (j + 1), fun w q => ?_, rfl, rfl⟩
   have e : (piecesB tx (j + 1)).flatMap encB = (piecesB tx j).flatMap encB ++ encB (pieceB tx j) := by rw [piecesB_next]; simp
   have s3 := q.divide (p := [row bo 170 [.slice na (j + 1) nc], own 202 64 (.slice na (j + 1) nc) (j + 1) ((piecesB tx (j + 1)).flatMap encB)]) (by rw [e]; exact Ji zpk (Ji zpk Jj))
   have s4 : Sat E (stars (outM bo tx (j + 1) :: _)) w := s3.topk (na, nc)
   unfold partsS
   exact s4.sup zsup
 case hm =>
  rintro _ _ rfl
  refine ⟨.ready, none, _, Jz (Jz (Jz Jm)), by simp, ?_⟩
  dsimp only
  unfold outM
  refine JE.picks (Jz (Jz Jm)) (JE.pks fun q => ?_)
  obtain ⟨qa, qc⟩ := q
  dsimp only
  refine Ju (Ja (Jh (Je ?_)))
  refine Jb (Jo hT U U U zrd) U U U ?_
  refine Jb (Jf rfl) U U U ?_
  refine Jg (Ja (Vn ?_))
  first | refine JE.unmark (.inl rfl) rfl zpk ?_ | refine JE.nomark (.inl rfl) rfl ?_
  refine Vi (.inl rfl) U U zrv ?_
  exact ⟨_, fun w q => q.sup zsup, qa, qc, rfl, rfl⟩
end
section
open Go Go.SL
/-! A log in memory. -/
structure Lg where
 snap : List Int
 txs : List (List Int)
 used : Nat
 broken : Bool
def lcells (st : Nat) (sv tv : Value) (L : Lg) : List Value := [.pointer (some ⟨st, 0, none⟩), sv, tv, .int .i64 (L.used : Int), .bool L.broken]
def IsB (K : HProp) (v : Value) (b : List Int) : Prop := ∃ p c, v = .slice p b.length c ∧ InL [K] p b.length c (ints .u8 b)
theorem IsB.more {K K2 : HProp} {v : Value} {b : List Int} (h : IsB K v b) : IsB (stars [K, K2]) v b := let ⟨p, c, e, hi⟩ := h; ⟨p, c, e, hi.keepL⟩
theorem IsB.new {K K2 : HProp} {v : Value} {b : List Int} (h : IsB K2 v b) : IsB (stars [K, K2]) v b := let ⟨p, c, e, hi⟩ := h; ⟨p, c, e, hi.keepR⟩
structure Small (b : List Int) : Prop where
 bytes : Bytes b
 len : b.length ≤ 1048576
structure LgOk (L : Lg) (sv : Value) (vals : List Value) (K : HProp) : Prop where
 snap : IsB K sv L.snap
 len : vals.length = L.txs.length
 txs : ∀ (i : Nat) b, L.txs[i]? = some b → ∃ v, vals[i]? = some v ∧ IsB K v b
 small : Small L.snap
 smalls : ∀ b ∈ L.txs, Small b
 few : L.txs.length ≤ 512
 used : L.used ≤ 512
abbrev LgQ := Value × Option Addr × Nat × List Value × HProp
def lgList (lg st : Nat) (L : Lg) (q : LgQ) : List HProp := [row lg 208 (lcells st q.1 (.slice q.2.1 L.txs.length q.2.2.1) L), own 41 1 (.slice q.2.1 L.txs.length q.2.2.1) L.txs.length q.2.2.2.1, q.2.2.2.2]
def logm (lg st : Nat) (L : Lg) : HProp := pk fun q : LgQ => pur (LgOk L q.1 q.2.2.2.1 q.2.2.2.2) :: lgList lg st L q
theorem logm_open {E w : World} {lg st : Nat} {L : Lg} {r : List HProp} (s : Sat E (stars (logm lg st L :: r)) w) : ∃ sv ta tc vals K, LgOk L sv vals K ∧ Sat E (stars (row lg 208 (lcells st sv (.slice ta L.txs.length tc) L) :: own 41 1 (.slice ta L.txs.length tc) L.txs.length vals :: K :: r)) w := by
 obtain ⟨⟨sv, ta, tc, vals, K⟩, s⟩ := s.ofpk
 obtain ⟨hok, s⟩ := s.ofpur
 exact ⟨sv, ta, tc, vals, K, hok, s⟩
theorem logm_shut {E w : World} {lg st : Nat} {L : Lg} {r : List HProp} {sv : Value} {ta : Option Addr} {tc : Nat} {vals : List Value} {K : HProp} (hok : LgOk L sv vals K)
 (s : Sat E (stars (row lg 208 (lcells st sv (.slice ta L.txs.length tc) L) :: own 41 1 (.slice ta L.txs.length tc) L.txs.length vals :: K :: r)) w) : Sat E (stars (logm lg st L :: r)) w :=
 Sat.topk (F := fun q : LgQ => pur (LgOk L q.1 q.2.2.2.1 q.2.2.2.2) :: lgList lg st L q) (sv, ta, tc, vals, K) (s.topur hok)
section
variable {E : World} {ρ : Option Nat} {n : Nat} {ds : List Deferred} {env : Fr} {c : Code} {Q : Exit → Act → World → Prop} {lg st : Nat} {L : Lg} {r : List HProp}
theorem J.logm (h : ∀ sv ta tc vals K, LgOk L sv vals K → J prog E ρ n ds c Q env (row lg 208 (lcells st sv (.slice ta L.txs.length tc) L) :: own 41 1 (.slice ta L.txs.length tc) L.txs.length vals :: K :: r)) : J prog E ρ n ds c Q env (Go.Proofs.YtaopifoidbdniaaGreat.logm lg st L :: r) := fun a w hf hs =>
 let ⟨sv, ta, tc, vals, K, hok, s⟩ := logm_open hs
 h sv ta tc vals K hok a w hf s
theorem Fc.logm {f : FuncId} {args : Array Value} {R : Value → List HProp → Prop} (h : ∀ sv ta tc vals K, LgOk L sv vals K → Fc prog E f args (row lg 208 (lcells st sv (.slice ta L.txs.length tc) L) :: own 41 1 (.slice ta L.txs.length tc) L.txs.length vals :: K :: r) R) : Fc prog E f args (Go.Proofs.YtaopifoidbdniaaGreat.logm lg st L :: r) R := fun w hs =>
 let ⟨sv, ta, tc, vals, K, hok, s⟩ := logm_open hs
 h sv ta tc vals K hok w s
end
attribute [local irreducible] J JL JE JM LS Y Fc RV Code.wp wpList Code.wpIn wpListIn
attribute [local irreducible] Yc
variable (E : World)
section
variable (lg st : Nat) (L : Lg) (l : List HProp)
theorem lsnapshot_spec : Fc prog E 66 [.pointer (some ⟨lg, 0, none⟩)].toArray (logm lg st L :: l) (fun v l' => ∃ a c, v = .slice a L.snap.length c ∧ l' = own 5 1 v L.snap.length (ints .u8 L.snap) :: logm lg st L :: l) := by
 refine Fc.logm fun sv ta tc vals K hok => Wg ?_
 obtain ⟨p, cp, rfl, hp⟩ := hok.snap
 have hsl := hok.small.len
 refine Va (c := ?codeC) Tryz.func66 ?hb Tryz.ntmps66 ?hl ?_
 case hb => exact rfl
 case hl => exact rfl
 refine Jh (Je (Jb (Jf rfl) U U U ?_))
 refine Jg (Ja (Jh (Jh (Je (Jb (Jd rfl) U U U (Jb (Wc hT U U U U) U U U ?_))))))
 refine Jg (Ja ?_)
 refine Vk rfl zbl ?_
 refine Vd (Ja (Jh (Je (Jb (Jd rfl) U U U ?_))))
 refine Jb znc U U U ?_
 refine Jb (Jk hT U U U U U U) U U U ?_
 refine Jb (Jo hT U U U zrd) U U U ?_
 refine Jl rfl (Jw e81 U U (cloneB_spec E p cp L.snap _ (hp.kept zpk) (by omega)) ?_)
 rintro _ _ ⟨a, c, rfl, rfl⟩
 refine Jb (Jf rfl) U U U ?_
 refine Jg (Ja (Vn ?_))
 refine Vi (.inl rfl) U U zrv ?_
 refine ⟨_, fun w q => ?_, a, c, rfl, rfl⟩
 have s2 := logm_shut (r := own 5 1 (.slice a L.snap.length c) L.snap.length (ints .u8 L.snap) :: l) hok (q.sup zsup)
 exact s2.sup zsup
theorem lall_spec (v : Value) (hv : v.oneCell' = true) : Fc prog E 67 [v].toArray l (fun u l' => ∃ b, u = .func (.func 121) #[] [Value.pointer (some ⟨b, 0, none⟩)].toArray ∧ l' = row b 26 [v] :: l) := by
 have hvc : v.cells = [v].toArray := by cases v <;> simp_all [Value.cells, Value.oneCell']
 refine Va (c := ?codeC) Tryz.func67 ?hb Tryz.ntmps67 ?hl ?_
 case hb => exact rfl
 case hl => exact rfl
 refine Jh (Je ?_)
 refine Jl rfl (l_box rfl hvc rfl (fun b1 => ?_))
 refine Jb (Jf rfl) U U U ?_
 refine Jg (Ja (Jh (Je (Jb (y_makeFunc U U) U U U (Jb (Jf rfl) U U U ?_)))))
 refine Jg (Ja (Vn ?_))
 refine Vi (.inl rfl) U U zrv ?_
 exact ⟨b1, rfl, rfl⟩
theorem lall1_spec (k b : Nat) (St Fin : Nat → List HProp)
 (hy : ∀ (fr : List HProp) (j : Nat) (tx : List Int) (a : Option Addr) (c : Nat), L.txs[j]? = some tx → Small tx → Yc prog E k [Value.int .i64 (j : Int), .slice a tx.length c].toArray (own 5 1 (.slice a tx.length c) tx.length (ints .u8 tx) :: (St j ++ fr))
   (fun v l' => (v = .bool true ∧ l' = St (j + 1) ++ fr) ∨ (v = .bool false ∧ l' = Fin j ++ fr))) :
 Fc prog E 121 [.func (.yield k) #[] #[], Value.pointer (some ⟨b, 0, none⟩)].toArray (row b 26 [.pointer (some ⟨lg, 0, none⟩)] :: logm lg st L :: (St 0 ++ l))
  (fun _ l' => l' = logm lg st L :: (St L.txs.length ++ l) ∨ ∃ j, j < L.txs.length ∧ l' = logm lg st L :: (Fin j ++ l)) := by
 refine Vw (Ji (Jz Jm) Jj) ?_
 refine Fc.logm fun sv ta tc vals K hok => Wg ?_
 have hfew := hok.few
 refine Va (c := ?codeC) Tryz.func121 ?hb Tryz.ntmps121 ?hl ?_
 case hb => exact rfl
 case hl => exact rfl
 refine Jh (Jh (Je ?_))
 refine Jb (Jo hT U U U zrd) U U U ?_
 refine Jb (Wc hT U U U U) U U U ?_
 refine Jg (Ja ?_)
 refine Vk rfl zbl ?_
 refine Vd (Ja (Jh (Je ?_)))
 refine Jb (Jo hT U U U zrd) U U U ?_
 refine Jb znc U U U ?_
 refine Jb (Jk hT U U U U U U) U U U ?_
 refine Jb (Jo hT U U U zrd) U U U ?_
 refine Jb (Vf hT U U U) U U U (Jb (Jd rfl) U U U ?_)
 refine Jg (Ja (Ve ?_))
 refine J.fact (p := OwnAt ta L.txs.length tc vals) (fun w s => Vu (s.pick zpk)) fun oa => ?_
 refine Wn (α := Nat) (fun j => j ≤ L.txs.length) (fun j => [(0, .func (.yield k) #[] #[]), (1, .pointer (some ⟨b, 0, none⟩)), (10, .slice ta L.txs.length tc), (11, .int .i64 L.txs.length), (12, .int .i64 j)]) (fun j => St j ++ (row lg 208 (lcells st sv (.slice ta L.txs.length tc) L) :: own 41 1 (.slice ta L.txs.length tc) L.txs.length vals :: K :: row b 26 [.pointer (some ⟨lg, 0, none⟩)] :: l)) (fun j => L.txs.length - j) 0 (Nat.zero_le _) ⟨U, U, U, U, U, trivial⟩ (fun w h => Sat.rot (p := [_, _, _, _]) (g := St 0) h) ?_
 intro j hj
 refine Jh (Je (Jb (y_lss U U) U U U ?_))
 refine Jg (Ja (Jh ?_))
 first | apply Jx rfl | apply Vo rfl
 case' ht =>
  intro h
  try (first | exact zom | exact zho h | subst h)
  all_goals
   refine Vd ?_
 case' hf =>
  intro h
  try (first | exact zom | exact zho h | subst h)
  all_goals
   refine Wl (Jv (Jv (Vl ?_)))
   refine JE.ret0 (.inr rfl) U U  ?_
   first
    | (have zz := hlt
       refine ⟨_, fun w q => ?_, .inr ⟨j, hlt, rfl⟩⟩
       have s2 := Sat.rot (p := Fin j) (g := [row lg 208 _, own 41 1 _ L.txs.length vals, K, row b 26 _]) q
       exact (logm_shut (r := row b 26 _ :: (Fin j ++ l)) hok s2).sup zsup)
    | (obtain rfl : j = L.txs.length := by omega
       refine ⟨_, fun w q => ?_, .inl rfl⟩
       have s2 := Sat.rot (p := St L.txs.length) (g := [row lg 208 _, own 41 1 _ L.txs.length vals, K, row b 26 _]) q
       exact (logm_shut (r := row b 26 _ :: (St L.txs.length ++ l)) hok s2).sup zsup)
 all_goals refine Ja ?_
 all_goals
  refine Jh (Ve (Jh (Je ?_)))
  have hlt : j < L.txs.length := by omega
  obtain ⟨tx, htx⟩ : ∃ tx, L.txs[j]? = some tx := ⟨_, List.getElem?_eq_getElem hlt⟩
  have hsm := hok.smalls tx (List.mem_of_getElem? htx)
  have htl := hsm.len
  obtain ⟨v, hv, p, cp, rfl, hp⟩ := hok.txs j tx htx
  obtain ⟨ga, rfl⟩ := oa.at_.resolve_right fun ⟨h0, _⟩ => by have := oa.le; omega
  refine Jb (Jd rfl) U U U ?_
  refine Jb (Jn hT U U U U U zix zix) U U U ?_
  refine Jb (Jo hT U U U (Rd1.elem (RdN.own zpk) hv)) U U U ?_
  refine Jb (Jf rfl) U U U (Jb (Jf rfl) U U U ?_)
  refine Jg (Ja (Jh (Je (Jb (Jd rfl) U U U (Jb (Jd rfl) U U U (Jb (Jd rfl) U U U ?_))))))
  refine Jl rfl (Jw e81 U U (cloneB_spec E p cp tx _ (hp.kept zpk) (by omega)) ?_)
  rintro _ _ ⟨a, c, rfl, rfl⟩
  refine JL.yield U U U (hy _ j tx a c htx hsm) ?_
  rintro _ _ (⟨rfl, rfl⟩ | ⟨rfl, rfl⟩)
  all_goals (refine Jb (y_not rfl) U U U ?_)
  all_goals refine Jg (Ja ?_)
  all_goals
   first | apply Jx rfl | apply Vo rfl
   case' ht =>
    intro h
    try (first | exact zom | exact zho h | subst h)
    all_goals
     refine Vn (Vj (Vb (Vb (Vj ?_))))
     refine JE.ret0 (.inl rfl) U U  ?_
     first
      | (have zz := hlt
         refine ⟨_, fun w q => ?_, .inr ⟨j, hlt, rfl⟩⟩
         have s2 := Sat.rot (p := Fin j) (g := [row lg 208 _, own 41 1 _ L.txs.length vals, K, row b 26 _]) q
         exact (logm_shut (r := row b 26 _ :: (Fin j ++ l)) hok s2).sup zsup)
      | (obtain rfl : j = L.txs.length := by omega
         refine ⟨_, fun w q => ?_, .inl rfl⟩
         have s2 := Sat.rot (p := St L.txs.length) (g := [row lg 208 _, own 41 1 _ L.txs.length vals, K, row b 26 _]) q
         exact (logm_shut (r := row b 26 _ :: (St L.txs.length ++ l)) hok s2).sup zsup)
   case' hf =>
    intro h
    try (first | exact zom | exact zho h | subst h)
    all_goals
     refine Vd ?_
  all_goals refine Ju (Ja ?_)
  all_goals
   refine Je ?_
   refine Jb (Wa U U zwr) U U U ?_
   refine Jb (Jd rfl) U U U ?_
   refine Jg ?_
 all_goals
  exact Vt (s := j) (j + 1) (by omega) ⟨U, U, U, U, U, trivial⟩ (fun w q => q) (by omega)
end
end
section
open Go Go.SL
/-! Room; a transaction written. -/
def roomB (L : Lg) (D : Dk) (n : Int) : Bool := decide (0 ≤ n ∧ (needN n.toNat : Int) ≤ (D.slots : Int) - (L.used : Int))
def putsW (used : Nat) (tx : List Int) (D : Dk) : Nat → Dk × Int
 | 0 => (D, 0)
 | k + 1 => if (putsW used tx D k).2 = 0 then (putsW used tx D k).1.put ((used + 1 + k : Nat) : Int) (pieceB tx k) else putsW used tx D k
theorem putsW_stop {used : Nat} {tx : List Int} {D : Dk} {k : Nat} (h : (putsW used tx D k).2 ≠ 0) : ∀ m, putsW used tx D (k + m) = putsW used tx D k
 | 0 => rfl
 | m + 1 => by rw [← Nat.add_assoc, putsW, putsW_stop h m, if_neg h]
theorem put_len (D : Dk) (i : Int) (b : Blk) : (D.put i b).1.safe.length = D.safe.length ∧ (D.put i b).1.pending.length ≤ D.pending.length + 1 := by
 unfold Dk.put
 split
 · exact write_len D _ b
 · exact ⟨rfl, Nat.le_succ _⟩
theorem putsW_len (used : Nat) (tx : List Int) (D : Dk) : ∀ k, (putsW used tx D k).1.safe.length = D.safe.length ∧ (putsW used tx D k).1.pending.length ≤ D.pending.length + k
 | 0 => ⟨rfl, Nat.le_refl _⟩
 | k + 1 => by
   obtain ⟨h1, h2⟩ := putsW_len used tx D k
   rw [putsW]
   split
   · obtain ⟨h3, h4⟩ := put_len (putsW used tx D k).1 ((used + 1 + k : Nat) : Int) (pieceB tx k)
     exact ⟨h3.trans h1, by omega⟩
   · exact ⟨h1, by omega⟩
def writeL (L : Lg) (S : Sb) (D : Dk) (tx : List Int) : Dk × Int :=
 let w := putsW L.used tx D (pieceN tx.length)
 if w.2 = 0 then
  if w.1.sync.2 = 0 then
   let m := w.1.sync.1.put (L.used : Int) (mkB S.turn L.txs.length tx)
   if m.2 = 0 then m.1.sync else m
  else w.1.sync
 else w
attribute [local irreducible] J JL JE JM LS Y Fc RV Code.wp wpList Code.wpIn wpListIn
attribute [local irreducible] Yc
variable (E : World)
section
variable (lg st d : Nat) (L : Lg) (S : Sb) (D : Dk) (l : List HProp) (hh : S.hash.length = 16) (h2 : 2 ≤ D.safe.length)
include hh h2
theorem lroom_spec (n : Int) (hn : n ≤ 9223372036854775807) :
 Fc prog E 132 [.pointer (some ⟨lg, 0, none⟩), .int .i64 n].toArray (logm lg st L :: row st 205 (scells S d) :: disk d D :: l) (fun v l' => v = .bool (roomB L D n) ∧ l' = logm lg st L :: row st 205 (scells S d) :: disk d D :: l) := by
 refine Fc.fact (p := D.Ok) (fun w q => (disk_open (q.sup (p := disk d D :: l) zsup)).elim fun _ ⟨_, _, _, h, _⟩ => h) fun hok0 => ?_
 have hm := hok0.most
 have hsl : D.slots ≤ 512 := by unfold Dk.slots; omega
 refine Fc.logm fun sv ta tc vals K hok => Fc.eqs ?_
 have hu := hok.used
 have hneed : ∀ l, 0 ≤ n → Fc prog E 113 [.int .i64 n].toArray l (fun v l' => v = .int .i64 (needN n.toNat : Int) ∧ l' = l) := fun l h => by
  obtain ⟨k, rfl⟩ : ∃ k : Nat, n = k := ⟨n.toNat, by omega⟩
  exact need_spec E k (by omega) l
 have hnb : needN n.toNat ≤ 4611686018427387904 := by unfold needN; omega
 refine Va (c := ?codeC) Tryz.func132 ?hb Tryz.ntmps132 ?hl ?_
 case hb => exact rfl
 case hl => exact rfl
 refine Jh (Je (Jb (Jf rfl) U U U ?_))
 refine Jg (Ja (Jh ?_))
 by_cases hn0 : 0 ≤ n
 all_goals
  refine Vz _ _ [(0, .q), (1, .q), (2, .q), (3, .q), (4, .q), (5, .q), (6, .q), (7, .q), (8, .q), (9, .q), (10, .q), (11, .q), (12, .q), (13, .q), (14, .q), (15, .q), (16, .q), (17, .q), (18, .q), (19, .q), (20, .q), (21, .q)] mixed (by kernel_rfl) (Jj) ?_
  refine zqm U U U U U (Jc U U U U (fun m => y_ptr_ne_nil hT U U U U) (zqm U U U U U ?_))
  all_goals (first | refine Jy U U U U U U U ?_ | refine JM.gskipU U U U U U U ?_ | refine Jr U U U U U U (fun m => Jd rfl) ?_)
  first | refine Jr U U U U U U (fun m => y_geqB U U (decide_eq_true hn0)) ?_ | refine Jr U U U U U U (fun m => y_geqB U U (decide_eq_false hn0)) ?_
  all_goals refine Jc U U U U (fun m => Wb U U U) ?_
  all_goals refine zqm U U U U U ?_
  all_goals (first | refine Jy U U U U U U U ?_ | refine JM.gskipU U U U U U U ?_ | refine Jr U U U U U U (fun m => Jd rfl) ?_)
  all_goals (first | refine Jy U U U U U U U ?_ | refine JM.gskipU U U U U U U ?_ | refine Jr U U U U U U (fun m => y_callF e113 rfl (hneed _ hn0)) ?_)
  all_goals (first | refine Jy U U U U U U U ?_ | refine JM.gskipU U U U U U U ?_ | refine Jr U U U U U U (fun m => Jd rfl) ?_)
  all_goals (first | refine Jy U U U U U U U ?_ | refine JM.gskipU U U U U U U ?_ | refine Jr U U U U U U (fun m => znc) ?_)
  all_goals (first | refine Jy U U U U U U U ?_ | refine JM.gskipU U U U U U U ?_ | refine Jr U U U U U U (fun m => Jk hT U U U U U U) ?_)
  all_goals (first | refine Jy U U U U U U U ?_ | refine JM.gskipU U U U U U U ?_ | refine Jr U U U U U U (fun m => Jo hT U U U zrda) ?_)
  all_goals (first | refine Jy U U U U U U U ?_ | refine JM.gskipU U U U U U U ?_ | refine Jr U U U U U U (fun m => y_callF e156 rfl (Fc.still (p := [row st 205 (scells S d), disk d D]) (Ji (Vp m zpk) (Ji (Vp m zpk) Jj)) (slots_spec E st d S D _ hh h2))) ?_)
  all_goals (first | refine Jy U U U U U U U ?_ | refine JM.gskipU U U U U U U ?_ | refine Jr U U U U U U (fun m => Jd rfl) ?_)
  all_goals (first | refine Jy U U U U U U U ?_ | refine JM.gskipU U U U U U U ?_ | refine Jr U U U U U U (fun m => znc) ?_)
  all_goals (first | refine Jy U U U U U U U ?_ | refine JM.gskipU U U U U U U ?_ | refine Jr U U U U U U (fun m => Jk hT U U U U U U) ?_)
  all_goals (first | refine Jy U U U U U U U ?_ | refine JM.gskipU U U U U U U ?_ | refine Jr U U U U U U (fun m => Jo hT U U U zrda) ?_)
  all_goals (first | refine Jy U U U U U U U ?_ | refine JM.gskipU U U U U U U ?_ | refine Jr U U U U U U (fun m => y_sub U U zwr) ?_)
  all_goals (first | refine Jy U U U U U U U ?_ | refine JM.gskipU U U U U U U ?_ | refine Jr U U U U U U (fun m => y_leq U U) ?_)
  all_goals refine Jc U U U U (fun m => Wb U U U) ?_
  all_goals refine Jc U U U U (fun m => Jf rfl) ?_
  all_goals refine Vv ?_
 all_goals refine Ja ?_
 all_goals
  refine Vn ?_
  refine Vi (.inl rfl) U U zrv ?_
  refine ⟨?_, fun w q => logm_shut hok (q.sup zsup)⟩
  first
   | exact congrArg Value.bool (decide_eq_decide.2 ⟨fun h => ⟨hn0, h⟩, fun h => h.2⟩)
   | exact congrArg Value.bool (decide_eq_false (fun h => hn0 h.1)).symm
theorem lwrite_spec (tx : List Int) (p : Option Addr) (cap n : Nat) (hn : tx.length = n) (hb : n ≤ 1048576) (hpn : D.pending.length ≤ 100000) (hroom : L.used + needN n ≤ D.slots) (hin : InL l p n cap (ints .u8 tx)) :
 Fc prog E 133 [.pointer (some ⟨lg, 0, none⟩), .slice p n cap].toArray (logm lg st L :: row st 205 (scells S d) :: disk d D :: l) (fun v l' => v = .int .i64 (writeL L S D tx).2 ∧ l' = logm lg st L :: row st 205 (scells S d) :: disk d (writeL L S D tx).1 :: l) := by
 refine Fc.fact (p := D.Ok) (fun w q => (disk_open (q.sup (p := disk d D :: l) zsup)).elim fun _ ⟨_, _, _, h, _⟩ => h) fun hok0 => ?_
 have hm := hok0.most
 have hsl : D.slots ≤ 512 := by unfold Dk.slots; omega
 refine Fc.logm fun sv ta tc vals K hok => Fc.eqs ?_
 have hu := hok.used
 have hfew := hok.few
 have hk : needN n = 1 + pieceN n := rfl
 obtain ⟨N, hN⟩ : ∃ N, pieceN n = N := ⟨_, rfl⟩
 have hN512 : N ≤ 512 := by omega
 have hlw := fun k => putsW_len L.used tx D k
 have cput : ∀ (k : Nat) l, k < N → (putsW L.used tx D k).2 = 0 → Fc prog E 173 [.pointer (some ⟨st, 0, none⟩), .int .i64 ((L.used : Int) + 1 + k), .agg (encB (pieceB tx k)).toArray].toArray (row st 205 (scells S d) :: disk d (putsW L.used tx D k).1 :: l)
  (fun v l' => v = .int .i64 (putsW L.used tx D (k + 1)).2 ∧ l' = row st 205 (scells S d) :: disk d (putsW L.used tx D (k + 1)).1 :: l) := fun k l hk h0 => by
  have q := sput_spec E st d S (putsW L.used tx D k).1 l hh (by rw [(hlw k).1]; exact h2) (by have := (hlw k).2; omega) ((L.used : Int) + 1 + k) (pieceB tx k) (pieceB_length tx k)
  have e : putsW L.used tx D (k + 1) = (putsW L.used tx D k).1.put ((L.used : Int) + 1 + k) (pieceB tx k) := by
   rw [putsW, if_pos h0]
   congr 1
  rw [e]
  exact q
 have hPL : ∀ x ∈ piecesB tx N, (encB x).length = 64 := fun x hx => by
  simp only [piecesB, List.mem_map, List.mem_range] at hx
  obtain ⟨i, _, rfl⟩ := hx
  exact (encB_length _).trans (pieceB_length tx i)
 have hPx : ∀ k, k < N → (piecesB tx N)[k]? = some (pieceB tx k) := fun k h => by simp [piecesB, h]
 have hPl : ∀ k, (encB (pieceB tx k)).length = 64 := fun k => (encB_length _).trans (pieceB_length tx k)
 have hmk : (encB (mkB S.turn L.txs.length tx)).length = 64 := (encB_length _).trans (mkB_length _ _ _)
 have hstop : ∀ k, k < N → (putsW L.used tx D (k + 1)).2 ≠ 0 → writeL L S D tx = putsW L.used tx D (k + 1) := fun k hk h => by
  unfold writeL
  rw [hn, hN, show N = (k + 1) + (N - (k + 1)) by omega, putsW_stop h, if_neg h]
 obtain ⟨W0, hW0⟩ : ∃ W0, putsW L.used tx D N = W0 := ⟨_, rfl⟩
 have hW0l := hlw N
 rw [hW0] at hW0l
 have hgo : W0.2 = 0 → writeL L S D tx = if W0.1.sync.2 = 0 then (if (W0.1.sync.1.put (L.used : Int) (mkB S.turn L.txs.length tx)).2 = 0 then (W0.1.sync.1.put (L.used : Int) (mkB S.turn L.txs.length tx)).1.sync else W0.1.sync.1.put (L.used : Int) (mkB S.turn L.txs.length tx)) else W0.1.sync := fun h => by
  unfold writeL
  rw [hn, hN, hW0]
  dsimp only
  rw [if_pos h]
 have hY := sync_len W0.1
 have hM := put_len W0.1.sync.1 (L.used : Int) (mkB S.turn L.txs.length tx)
 refine Va (c := ?codeC) Tryz.func133 ?hb Tryz.ntmps133 ?hl ?_
 case hb => exact rfl
 case hl => exact rfl
 refine Jh (Je (Jb (Jf rfl) U U U ?_))
 refine Jg (Ja (Jh (Jh (Je (Jb (Jd rfl) U U U ?_)))))
 refine Jl rfl (Jw e172 U U (parts_spec E p cap n tx _ hn (by omega) zinl) ?_)
 rintro _ _ ⟨xa, xc, rfl, rfl⟩
 refine Jb (Vf hT U U U) U U U (Jb (Jd rfl) U U U ?_)
 refine Jg (Ja (Ve ?_))
 rw [hN]
 refine J.fact (p := OwnAt xa N xc ((piecesB tx N).flatMap encB)) (fun w s => Vu (s.pick zpk)) fun oa => ?_
 refine Wn (α := Nat) (fun k => k ≤ N ∧ (putsW L.used tx D k).2 = 0) (fun k => [(0, .pointer (some ⟨lg, 0, none⟩)), (1, .slice p n cap), (11, .slice xa N xc), (12, .int .i64 N), (13, .int .i64 k)]) (fun k => own 202 64 (.slice xa N xc) N ((piecesB tx N).flatMap encB) :: row lg 208 (lcells st sv (.slice ta L.txs.length tc) L) :: own 41 1 (.slice ta L.txs.length tc) L.txs.length vals :: K :: row st 205 (scells S d) :: disk d (putsW L.used tx D k).1 :: l) (fun k => N - k) 0 ⟨Nat.zero_le _, rfl⟩ ⟨U, U, U, U, U, trivial⟩ (fun w h => h) ?_
 rintro k ⟨hk, hk0⟩
 refine Jh (Je (Jb (y_lss U U) U U U ?_))
 refine Jg (Ja (Jh ?_))
 first | apply Jx rfl | apply Vo rfl
 case' ht =>
  intro h
  try (first | exact zom | exact zho h | subst h)
  all_goals
   refine Vd ?_
 case' hf =>
  intro h
  try (first | exact zom | exact zho h | subst h)
  all_goals
   refine Wl (Jv (Jv (Vl (Ja (Jh (Jh ?_))))))
   obtain rfl : k = N := by omega
   rw [hW0] at hk0 ⊢
   have hgo := hgo hk0
   refine Je (Jb (Jd rfl) U U U ?_)
   refine Jb znc U U U ?_
   refine Jb (Jk hT U U U U U U) U U U ?_
   refine Jb (Jo hT U U U zrd) U U U ?_
   refine Jl rfl (Jw e174 U U (Vw (Ji zpk (Ji zpk Jj)) (ssync_spec E st d S W0.1 _ hh (by omega))) ?_)
   rintro _ _ ⟨rfl, rfl⟩
   refine Jb (Jf rfl) U U U ?_
   refine Jg (Ja (Jh (Je (Jb (Jd rfl) U U U (Jb (y_neq U U) U U U ?_)))))
   refine Jg (Ja ?_)
   first | apply Jx rfl | apply Vo rfl
   case' ht =>
    intro h
    try (first | exact zom | exact zho h | subst h)
    all_goals
     refine Jh (Je (Jb (Jd rfl) U U U (Jb (Jf rfl) U U U ?_)))
     refine Jg (Ja (Vn (Vb ?_)))
     refine Vi (.inl rfl) U U zrv ?_
     first
      | (rw [hstop k hlt h]
         exact ⟨rfl, fun w q => logm_shut hok (q.sup zsup)⟩)
      | (rw [hgo, if_neg (by omega)]
         exact ⟨rfl, fun w q => logm_shut hok (q.sup zsup)⟩)
      | (rw [hgo, if_pos (by omega), if_neg (by omega)]
         exact ⟨rfl, fun w q => logm_shut hok (q.sup zsup)⟩)
      | (rw [hgo, if_pos (by omega), if_pos (by omega)]
         exact ⟨rfl, fun w q => logm_shut hok (q.sup zsup)⟩)
   case' hf =>
    intro h
    try (first | exact zom | exact zho h | subst h)
    all_goals
     refine Vd ?_
   all_goals refine Ja ?_
   all_goals
    refine Jh (Jh ?_)
    refine Vz _ _ [(0, .q), (1, .q), (2, .q), (3, .q), (4, .q), (5, .q), (6, .q), (7, .q), (8, .q), (9, .q), (10, .q), (11, .q), (13, .q), (14, .q), (15, .q), (16, .q), (17, .q), (18, .q), (12, .e), (19, .q), (20, .l), (21, .q)] mixed (by kernel_rfl) (Ji (Jm) (Ji (Jm) (Jj))) ?_
    refine zqm U U U U U ?_
    refine Jc U U U U (fun m => znc) ?_
    refine Jc U U U U (fun m => Jk hT U U U U U U) ?_
    refine Jc U U U U (fun m => Jo hT U U U zrda) ?_
    refine zqm U U U U U ?_
    refine Jc U U U U (fun m => znc) ?_
    refine Jc U U U U (fun m => Jk hT U U U U U U) ?_
    refine Jc U U U U (fun m => Jo hT U U U zrda) ?_
    refine zqm U U U U U ?_
    refine Jc U U U U (fun m => znc) ?_
    refine Jc U U U U (fun m => Jk hT U U U U U U) ?_
    refine Jc U U U U (fun m => Jo hT U U U zrda) ?_
    refine zqm U U U U U ?_
    refine Jc U U U U (fun m => znc) ?_
    refine Jc U U U U (fun m => Jk hT U U U U U U) ?_
    refine Jc U U U U (fun m => Jo hT U U U zrda) ?_
    refine Jc U U U U (fun m => Vf hT U U U) (zqm U U U U U ?_)
    refine Wh U U U U (fun fr => y_callF e160 rfl (Fc.still (p := [row st 205 (scells S d), disk d W0.1.sync.1]) (Ji zpk (Ji zpk Jj)) (turn_spec E st d S _ _ hh))) ?_
    refine Jc U U U U (fun m => y_callF e163 rfl (mark_spec E S.turn (L.txs.length : Int) p cap n tx _ hn (by omega) zinl)) ?_
    refine Vm U U (fun fr => Jw e173 U U (Vw (Ji zpk (Ji zpk Jj)) (sput_spec E st d S W0.1.sync.1 _ hh (by rw [hY.1, hW0l.1]; exact h2) (by omega) (L.used : Int) (mkB S.turn L.txs.length tx) (mkB_length _ _ _))) ?_)
    rintro _ _ ⟨rfl, rfl⟩
    refine ⟨[_, _], (by (repeat (first | exact Jj | exact Vc | refine Ji Jm ?_))), ?_⟩
    refine Jc U U U U (fun m => Jf rfl) ?_
    refine Vv (Ja (Jh (Je (Jb (Jd rfl) U U U (Jb (y_neq U U) U U U ?_)))))
    refine Jg (Ja ?_)
    first | apply Jx rfl | apply Vo rfl
    case' ht =>
     intro h
     try (first | exact zom | exact zho h | subst h)
     all_goals
      refine Jh (Je (Jb (Jd rfl) U U U (Jb (Jf rfl) U U U ?_)))
      refine Jg (Ja (Vn (Vb ?_)))
      refine Vi (.inl rfl) U U zrv ?_
      first
       | (rw [hstop k hlt h]
          exact ⟨rfl, fun w q => logm_shut hok (q.sup zsup)⟩)
       | (rw [hgo, if_neg (by omega)]
          exact ⟨rfl, fun w q => logm_shut hok (q.sup zsup)⟩)
       | (rw [hgo, if_pos (by omega), if_neg (by omega)]
          exact ⟨rfl, fun w q => logm_shut hok (q.sup zsup)⟩)
       | (rw [hgo, if_pos (by omega), if_pos (by omega)]
          exact ⟨rfl, fun w q => logm_shut hok (q.sup zsup)⟩)
    case' hf =>
     intro h
     try (first | exact zom | exact zho h | subst h)
     all_goals
      refine Vd ?_
    all_goals refine Ja ?_
    all_goals
     refine Jh (Je (Jb (Jd rfl) U U U ?_))
     refine Jb znc U U U ?_
     refine Jb (Jk hT U U U U U U) U U U ?_
     refine Jb (Jo hT U U U zrd) U U U ?_
     refine Jl rfl (Jw e174 U U (Vw (Ji zpk (Ji zpk Jj)) (ssync_spec E st d S (W0.1.sync.1.put (L.used : Int) (mkB S.turn L.txs.length tx)).1 _ hh (by omega))) ?_)
     rintro _ _ ⟨rfl, rfl⟩
     refine Jb (Jf rfl) U U U ?_
     refine Jg (Ja (Vn ?_))
     refine Vi (.inl rfl) U U zrv ?_
     first
      | (rw [hstop k hlt h]
         exact ⟨rfl, fun w q => logm_shut hok (q.sup zsup)⟩)
      | (rw [hgo, if_neg (by omega)]
         exact ⟨rfl, fun w q => logm_shut hok (q.sup zsup)⟩)
      | (rw [hgo, if_pos (by omega), if_neg (by omega)]
         exact ⟨rfl, fun w q => logm_shut hok (q.sup zsup)⟩)
      | (rw [hgo, if_pos (by omega), if_pos (by omega)]
         exact ⟨rfl, fun w q => logm_shut hok (q.sup zsup)⟩)
 all_goals refine Ja ?_
 all_goals
  refine Jh (Ve (Jh (Je ?_)))
  have hlt : k < N := by omega
  obtain ⟨ga, rfl⟩ := oa.at_.resolve_right fun ⟨h0, _⟩ => by have := oa.le; omega
  have hpk := hPl k
  refine Jb (Jd rfl) U U U ?_
  refine Jb (Jn hT U U U U U zix zix) U U U ?_
  refine Jb (We hT U U U (RdN.elem (RdN.own zpk) hPL (hPx k hlt)) (hPl k)) U U U ?_
  refine Jl rfl (Wf hT U U zcl rfl (fun b5 => ?_))
  refine Jb (Jf rfl) U U U ?_
  refine Jl rfl (Vx hT U U U zln zoc zpk zln ?_)
  refine Jg (Ja (Jh ?_))
  refine Vz _ _ [(0, .q), (1, .q), (2, .q), (3, .q), (4, .q), (5, .q), (6, .q), (7, .q), (8, .q), (9, .q), (10, .q), (11, .q), (12, .l), (13, .q)] mixed (by kernel_rfl) (Ji (Jz (Jz (Jz (Jz (Jz Jm))))) (Ji (Jz (Jz (Jz (Jz (Jz Jm))))) (Jj))) ?_
  refine zqm U U U U U ?_
  refine Jc U U U U (fun m => znc) ?_
  refine Jc U U U U (fun m => Jk hT U U U U U U) ?_
  refine Jc U U U U (fun m => Jo hT U U U zrda) ?_
  refine zqm U U U U U ?_
  refine Jc U U U U (fun m => znc) ?_
  refine Jc U U U U (fun m => Jk hT U U U U U U) ?_
  refine Jc U U U U (fun m => Jo hT U U U zrda) ?_
  refine Jc U U U U (fun m => Wa U U zwr) ?_
  refine zqm U U U U U ?_
  refine Jc U U U U (fun m => Wa U U zwr) ?_
  refine Jc U U U U (fun m => We hT U U U zrdna zln) ?_
  refine Vm U U (fun fr => Jw e173 U U (Vw (Ji zpk (Ji zpk Jj)) (cput k _ hlt hk0)) ?_)
  rintro _ _ ⟨rfl, rfl⟩
  refine ⟨[_, _], (by (repeat (first | exact Jj | exact Vc | refine Ji Jm ?_))), ?_⟩
  refine Jc U U U U (fun m => Jf rfl) ?_
  refine Vv (Ja (Jh (Je (Jb (Jd rfl) U U U (Jb (y_neq U U) U U U ?_)))))
  refine Jg (Ja ?_)
  first | apply Jx rfl | apply Vo rfl
  case' ht =>
   intro h
   try (first | exact zom | exact zho h | subst h)
   all_goals
    refine Jh (Je (Jb (Jd rfl) U U U (Jb (Jf rfl) U U U ?_)))
    refine Jg (Ja (Vn (Vj (Vb (Vb (Vj (Vb ?_)))))))
    refine Vi (.inl rfl) U U zrv ?_
    first
     | (rw [hstop k hlt h]
        exact ⟨rfl, fun w q => logm_shut hok (q.sup zsup)⟩)
     | (rw [hgo, if_neg (by omega)]
        exact ⟨rfl, fun w q => logm_shut hok (q.sup zsup)⟩)
     | (rw [hgo, if_pos (by omega), if_neg (by omega)]
        exact ⟨rfl, fun w q => logm_shut hok (q.sup zsup)⟩)
     | (rw [hgo, if_pos (by omega), if_pos (by omega)]
        exact ⟨rfl, fun w q => logm_shut hok (q.sup zsup)⟩)
  case' hf =>
   intro h
   try (first | exact zom | exact zho h | subst h)
   all_goals
    refine Vd ?_
  all_goals refine Ju (Ja ?_)
  all_goals
   refine Je ?_
   refine Jb (Wa U U zwr) U U U ?_
   refine Jb (Jd rfl) U U U ?_
   refine Jg ?_
 all_goals
  refine Vt (s := k) (k + 1) ⟨by omega, by omega⟩ ⟨U, U, U, U, U, trivial⟩ (fun w q => q.sup zsup) (by omega)
def appL (L : Lg) (S : Sb) (D : Dk) (tx : List Int) : Lg × Dk × Int :=
 if L.broken = true then (L, D, 7)
 else if roomB L D tx.length = true then
  (if (writeL L S D tx).2 = 0 then ({ L with txs := L.txs ++ [tx], used := L.used + needN tx.length }, (writeL L S D tx).1, 0) else ({ L with broken := true }, (writeL L S D tx).1, (writeL L S D tx).2))
 else (L, D, 6)
omit hh h2 in
theorem LgOk.more {L : Lg} {sv : Value} {vals : List Value} {K K2 : HProp} {v : Value} {tx : List Int} (h : LgOk L sv vals K) (hv : IsB K2 v tx) (hs : Small tx) (hf : L.txs.length < 512) {u : Nat} (hu : u ≤ 512) : LgOk { L with txs := L.txs ++ [tx], used := u } sv (vals ++ [v]) (stars [K, K2]) :=
 ⟨h.snap.more, by simp [h.len], fun i b hb => by
  rcases Nat.lt_or_ge i L.txs.length with hi | hi
  · have hb' : L.txs[i]? = some b := by rwa [List.getElem?_append_left hi] at hb
    obtain ⟨v', h1, h2⟩ := h.txs i b hb'
    exact ⟨v', by rw [List.getElem?_append_left (by rw [h.len]; exact hi)]; exact h1, h2.more⟩
  · have hi2 : i = L.txs.length := by
     rcases Nat.lt_or_ge i (L.txs ++ [tx]).length with h3 | h3
     · simp at h3; omega
     · rw [List.getElem?_eq_none h3] at hb; cases hb
    subst hi2
    rw [List.getElem?_append_right (Nat.le_refl _), Nat.sub_self] at hb
    cases hb
    exact ⟨v, by rw [List.getElem?_append_right (by rw [h.len]; exact Nat.le_refl _), h.len, Nat.sub_self]; rfl, hv.new⟩, h.small, fun b hb => by
  rcases List.mem_append.1 hb with hb | hb
  · exact h.smalls b hb
  · rw [List.mem_singleton] at hb; rw [hb]; exact hs, by simp; omega, hu⟩
theorem lappend_spec (tx : List Int) (p : Option Addr) (cap n : Nat) (hn : tx.length = n) (hsm : Small tx) (hpn : D.pending.length ≤ 100000) (hfew : L.txs.length < 512) (hin : InL l p n cap (ints .u8 tx)) :
 Fc prog E 84 [.pointer (some ⟨lg, 0, none⟩), .slice p n cap].toArray (logm lg st L :: row st 205 (scells S d) :: disk d D :: l) (fun v l' => v = .int .i64 (appL L S D tx).2.2 ∧ l' = logm lg st (appL L S D tx).1 :: row st 205 (scells S d) :: disk d (appL L S D tx).2.1 :: l) := by
 refine Fc.fact (p := D.Ok) (fun w q => (disk_open (q.sup (p := disk d D :: l) zsup)).elim fun _ ⟨_, _, _, h, _⟩ => h) fun hok0 => ?_
 have hm := hok0.most
 have hsl : D.slots ≤ 512 := by unfold Dk.slots; omega
 have hlen := hsm.len
 refine Fc.eqs ?_
 refine Va (c := ?codeC) Tryz.func84 ?hb Tryz.ntmps84 ?hl ?_
 case hb => exact rfl
 case hl => exact rfl
 refine Jh (Je (Jb (Jf rfl) U U U ?_))
 refine Jg (Ja (Jh (Ve (Jh (Je (Jb (Jd rfl) U U U (Jb (Wc hT U U U U) U U U (Jb (Jf rfl) U U U ?_))))))))
 refine Jg (Ja ?_)
 refine Vk rfl zbl ?_
 refine Jh ?_
 refine J.logm fun sv ta tc vals K hok => ?_
 refine Je (Jb (Jd rfl) U U U ?_)
 refine Jb znc U U U ?_
 refine Jb (Jk hT U U U U U U) U U U ?_
 refine Jb (Jo hT U U U zrd) U U U ?_
 refine Jb (Jf rfl) U U U ?_
 refine Jg (Ja ?_)
 first | apply Jx rfl | apply Vo rfl
 case' ht =>
  intro h
  try (first | exact zom | exact zho h | subst h)
  all_goals
   refine Jh (Je (Jb (Jf rfl) U U U ?_))
   refine Jg (Ja (Vn (Vj (Vb ?_))))
   refine Vi (.inl rfl) U U zrv ?_
   first
    | (have e : appL L S D tx = (L, D, 7) := by rw [appL, if_pos h]
       rw [e]
       exact ⟨rfl, fun w q => logm_shut hok (q.sup zsup)⟩)
    | (have hrm : ¬ roomB L D n = true := by simpa using h
       have e : appL L S D tx = (L, D, 6) := by rw [appL, if_neg hbr, hn, if_neg hrm]
       rw [e]
       exact ⟨rfl, fun w q => q.sup zsup⟩)
    | (have hne : ¬ (writeL L S D tx).2 = 0 := h
       have e : appL L S D tx = ({ L with broken := true }, (writeL L S D tx).1, (writeL L S D tx).2) := by rw [appL, if_neg hbr, hn, if_pos hrm, if_neg hne]
       rw [e]
       exact ⟨rfl, fun w q => logm_shut (L := { L with broken := true }) ⟨hok.snap, hok.len, hok.txs, hok.small, hok.smalls, hok.few, hok.used⟩ (q.sup zsup)⟩)
    | (have hne : (writeL L S D tx).2 = 0 := by omega
       have e : appL L S D tx = ({ L with txs := L.txs ++ [tx], used := L.used + needN n }, (writeL L S D tx).1, 0) := by rw [appL, if_neg hbr, hn, if_pos hrm, if_pos hne]
       rw [e]
       refine ⟨rfl, fun w q => ?_⟩
       have og : OwnAt ca n cc (ints .u8 tx) := Vu (q.pick zpk)
       have hB : IsB (own 5 1 (.slice ca n cc) n (ints .u8 tx)) (.slice ca n cc) tx := ⟨ca, cc, by rw [hn], by rw [hn]; exact og.inl Jm⟩
       have q2 := q.sup (p := [K, own 5 1 (.slice ca n cc) n (ints .u8 tx)] ++ (row lg 208 (lcells st sv (.slice na (L.txs.length + 1) nc) { L with txs := L.txs ++ [tx], used := L.used + needN n }) :: own 41 1 (.slice na (L.txs.length + 1) nc) (L.txs.length + 1) (vals ++ [.slice ca n cc]) :: row st 205 (scells S d) :: disk d (writeL L S D tx).1 :: l)) zsup
       have q3 := (Sat.fold q2).sup (p := row lg 208 (lcells st sv (.slice na (L.txs.length + 1) nc) { L with txs := L.txs ++ [tx], used := L.used + needN n }) :: own 41 1 (.slice na (L.txs.length + 1) nc) (L.txs.length + 1) (vals ++ [.slice ca n cc]) :: stars [K, own 5 1 (.slice ca n cc) n (ints .u8 tx)] :: row st 205 (scells S d) :: disk d (writeL L S D tx).1 :: l) zsup
       have hlen2 : (L.txs ++ [tx]).length = L.txs.length + 1 := by simp
       exact logm_shut (L := { L with txs := L.txs ++ [tx], used := L.used + needN n }) (hok.more hB hsm hfew (by omega)) (by simpa only [hlen2] using q3))
 case' hf =>
  intro h
  try (first | exact zom | exact zho h | subst h)
  all_goals
   have hbr : ¬ L.broken = true := by simpa using h
   refine Jh ?_
   refine J.pre (fun w q => logm_shut hok q) ?_
   refine Je (Jb (Jd rfl) U U U (Jb (Jd rfl) U U U (Jb (Vf hT U U U) U U U ?_)))
   refine Jl rfl (Jw e132 U U (lroom_spec E lg st d L S D _ hh h2 (n : Int) (by omega)) ?_)
   rintro _ _ ⟨rfl, rfl⟩
   refine Jb (y_not rfl) U U U (Jb (Jf rfl) U U U ?_)
   refine Jg (Ja ?_)
   first | apply Jx rfl | apply Vo rfl
   case' ht =>
    intro h
    try (first | exact zom | exact zho h | subst h)
    all_goals
     refine Jh (Je (Jb (Jf rfl) U U U ?_))
     refine Jg (Ja (Vn (Vj (Vb ?_))))
     refine Vi (.inl rfl) U U zrv ?_
     first
      | (have e : appL L S D tx = (L, D, 7) := by rw [appL, if_pos h]
         rw [e]
         exact ⟨rfl, fun w q => logm_shut hok (q.sup zsup)⟩)
      | (have hrm : ¬ roomB L D n = true := by simpa using h
         have e : appL L S D tx = (L, D, 6) := by rw [appL, if_neg hbr, hn, if_neg hrm]
         rw [e]
         exact ⟨rfl, fun w q => q.sup zsup⟩)
      | (have hne : ¬ (writeL L S D tx).2 = 0 := h
         have e : appL L S D tx = ({ L with broken := true }, (writeL L S D tx).1, (writeL L S D tx).2) := by rw [appL, if_neg hbr, hn, if_pos hrm, if_neg hne]
         rw [e]
         exact ⟨rfl, fun w q => logm_shut (L := { L with broken := true }) ⟨hok.snap, hok.len, hok.txs, hok.small, hok.smalls, hok.few, hok.used⟩ (q.sup zsup)⟩)
      | (have hne : (writeL L S D tx).2 = 0 := by omega
         have e : appL L S D tx = ({ L with txs := L.txs ++ [tx], used := L.used + needN n }, (writeL L S D tx).1, 0) := by rw [appL, if_neg hbr, hn, if_pos hrm, if_pos hne]
         rw [e]
         refine ⟨rfl, fun w q => ?_⟩
         have og : OwnAt ca n cc (ints .u8 tx) := Vu (q.pick zpk)
         have hB : IsB (own 5 1 (.slice ca n cc) n (ints .u8 tx)) (.slice ca n cc) tx := ⟨ca, cc, by rw [hn], by rw [hn]; exact og.inl Jm⟩
         have q2 := q.sup (p := [K, own 5 1 (.slice ca n cc) n (ints .u8 tx)] ++ (row lg 208 (lcells st sv (.slice na (L.txs.length + 1) nc) { L with txs := L.txs ++ [tx], used := L.used + needN n }) :: own 41 1 (.slice na (L.txs.length + 1) nc) (L.txs.length + 1) (vals ++ [.slice ca n cc]) :: row st 205 (scells S d) :: disk d (writeL L S D tx).1 :: l)) zsup
         have q3 := (Sat.fold q2).sup (p := row lg 208 (lcells st sv (.slice na (L.txs.length + 1) nc) { L with txs := L.txs ++ [tx], used := L.used + needN n }) :: own 41 1 (.slice na (L.txs.length + 1) nc) (L.txs.length + 1) (vals ++ [.slice ca n cc]) :: stars [K, own 5 1 (.slice ca n cc) n (ints .u8 tx)] :: row st 205 (scells S d) :: disk d (writeL L S D tx).1 :: l) zsup
         have hlen2 : (L.txs ++ [tx]).length = L.txs.length + 1 := by simp
         exact logm_shut (L := { L with txs := L.txs ++ [tx], used := L.used + needN n }) (hok.more hB hsm hfew (by omega)) (by simpa only [hlen2] using q3))
   case' hf =>
    intro h
    try (first | exact zom | exact zho h | subst h)
    all_goals
     refine Vd ?_
 all_goals refine Ju (Ja ?_)
 all_goals
  refine Jh (Jh ?_)
  have hrm : roomB L D n = true := by simpa using h
  have hfit : L.used + needN n ≤ D.slots := by
   have := of_decide_eq_true hrm
   rw [Int.toNat_natCast] at this
   omega
  refine Je (Jb (Jd rfl) U U U (Jb (Jd rfl) U U U ?_))
  refine Jl rfl (Jw e133 U U (lwrite_spec E lg st d L S D _ hh h2 tx p cap n hn (by omega) hpn hfit zinl) ?_)
  rintro _ _ ⟨rfl, rfl⟩
  refine Jb (Jf rfl) U U U ?_
  refine Jg (Ja (Jh (Je (Jb (Jd rfl) U U U (Jb (y_neq U U) U U U ?_)))))
  refine Jg (Ja ?_)
  first | apply Jx rfl | apply Vo rfl
  case' ht =>
   intro h
   try (first | exact zom | exact zho h | subst h)
   all_goals
    refine Jh ?_
    refine J.logm fun sv ta tc vals K hok => ?_
    refine Je (Jb (Jd rfl) U U U ?_)
    refine Jb znc U U U ?_
    refine Jb (Jk hT U U U U U U) U U U ?_
    refine Jl rfl (Vs hT U U U U U zpk zix ?_)
    refine Jg (Ja (Jh (Je (Jb (Jd rfl) U U U (Jb (Jf rfl) U U U ?_)))))
    refine Jg (Ja (Vn (Vb ?_)))
    refine Vi (.inl rfl) U U zrv ?_
    first
     | (have e : appL L S D tx = (L, D, 7) := by rw [appL, if_pos h]
        rw [e]
        exact ⟨rfl, fun w q => logm_shut hok (q.sup zsup)⟩)
     | (have hrm : ¬ roomB L D n = true := by simpa using h
        have e : appL L S D tx = (L, D, 6) := by rw [appL, if_neg hbr, hn, if_neg hrm]
        rw [e]
        exact ⟨rfl, fun w q => q.sup zsup⟩)
     | (have hne : ¬ (writeL L S D tx).2 = 0 := h
        have e : appL L S D tx = ({ L with broken := true }, (writeL L S D tx).1, (writeL L S D tx).2) := by rw [appL, if_neg hbr, hn, if_pos hrm, if_neg hne]
        rw [e]
        exact ⟨rfl, fun w q => logm_shut (L := { L with broken := true }) ⟨hok.snap, hok.len, hok.txs, hok.small, hok.smalls, hok.few, hok.used⟩ (q.sup zsup)⟩)
     | (have hne : (writeL L S D tx).2 = 0 := by omega
        have e : appL L S D tx = ({ L with txs := L.txs ++ [tx], used := L.used + needN n }, (writeL L S D tx).1, 0) := by rw [appL, if_neg hbr, hn, if_pos hrm, if_pos hne]
        rw [e]
        refine ⟨rfl, fun w q => ?_⟩
        have og : OwnAt ca n cc (ints .u8 tx) := Vu (q.pick zpk)
        have hB : IsB (own 5 1 (.slice ca n cc) n (ints .u8 tx)) (.slice ca n cc) tx := ⟨ca, cc, by rw [hn], by rw [hn]; exact og.inl Jm⟩
        have q2 := q.sup (p := [K, own 5 1 (.slice ca n cc) n (ints .u8 tx)] ++ (row lg 208 (lcells st sv (.slice na (L.txs.length + 1) nc) { L with txs := L.txs ++ [tx], used := L.used + needN n }) :: own 41 1 (.slice na (L.txs.length + 1) nc) (L.txs.length + 1) (vals ++ [.slice ca n cc]) :: row st 205 (scells S d) :: disk d (writeL L S D tx).1 :: l)) zsup
        have q3 := (Sat.fold q2).sup (p := row lg 208 (lcells st sv (.slice na (L.txs.length + 1) nc) { L with txs := L.txs ++ [tx], used := L.used + needN n }) :: own 41 1 (.slice na (L.txs.length + 1) nc) (L.txs.length + 1) (vals ++ [.slice ca n cc]) :: stars [K, own 5 1 (.slice ca n cc) n (ints .u8 tx)] :: row st 205 (scells S d) :: disk d (writeL L S D tx).1 :: l) zsup
        have hlen2 : (L.txs ++ [tx]).length = L.txs.length + 1 := by simp
        exact logm_shut (L := { L with txs := L.txs ++ [tx], used := L.used + needN n }) (hok.more hB hsm hfew (by omega)) (by simpa only [hlen2] using q3))
  case' hf =>
   intro h
   try (first | exact zom | exact zho h | subst h)
   all_goals
    refine Vd ?_
  all_goals refine Ja ?_
  all_goals
   refine Jh ?_
   refine J.logm fun sv ta tc vals K hok => ?_
   refine J.drawT _ _ [(0, .q), (1, .q), (2, .q), (3, .q), (4, .q), (5, .q), (6, .l), (7, .n), (8, .l)] (fun j => Nat.beq j 9 || Nat.beq j 10 || Nat.beq j 11) 3 9 [(9, .q), (10, .q), (11, .l)] mixed (by kernel_rfl) (Ji (Jz Jm) (Jj)) ?_
   refine zqm U U U U U (zqm U U U U U ?_)
   refine Jc U U U U (fun m => znc) ?_
   refine Jc U U U U (fun m => Jk hT U U U U U U) ?_
   refine Jc U U U U (fun m => Jo hT U U U zrda) ?_
   refine zqm U U U U U ?_
   refine Vm U U (fun fr => Jw e81 U U (by have q := fun l h => cloneB_spec E p cap tx l h (by omega); rw [hn] at q; exact q _ zinl) ?_)
   rintro _ _ ⟨ca, cc, rfl, rfl⟩
   refine ⟨[_, _], (by (repeat (first | exact Jj | exact Vc | refine Ji Jm ?_))), ?_⟩
   refine JM.lay U U U U (fun a hf => lays_buildSlice hT U U U U hf U U U zfl) (fun b5 => ?_)
   refine Vm U U (fun fr => l_append hT U U U U U U U U zpk zrdn zln zoc (by rw [show i41.bytes = 24 from rfl]; omega) (by omega) rfl (fun na nc hnc => ⟨[_, _, _], (by (repeat (first | exact Jj | exact Vc | refine Ji Jm ?_))), ?_⟩))
   refine Vv ?_
   refine JE.tail _ _ (by kernel_rfl) (Ji (Jz (Jz (Jz Jm))) (Jj)) ?_
   refine Jc U U U U (fun m => znc) ?_
   refine Jc U U U U (fun m => Jk hT U U U U U U) ?_
   refine Vm U U (fun fr => Vs hT U U U U U zpk zix (⟨[_], (by (repeat (first | exact Jj | exact Vc | refine Ji Jm ?_))), ?_⟩))
   refine Vv (Ja (Jh ?_))
   refine Vz _ _ [(0, .q), (1, .q), (2, .q), (4, .q), (5, .q), (6, .q), (3, .e), (7, .q), (8, .q), (9, .q), (10, .l)] mixed (by kernel_rfl) (Ji (Jm) (Jj)) ?_
   refine zqm U U U U U ?_
   refine Jc U U U U (fun m => znc) ?_
   refine Jc U U U U (fun m => Jk hT U U U U U U) (zqm U U U U U (Jc U U U U (fun m => Vf hT U U U) ?_))
   refine Jc U U U U (fun m => y_callF e113 rfl (need_spec E n (by omega) _)) ?_
   refine Wh U U U U (fun fr => Jo hT U U U zrd) ?_
   refine Jc U U U U (fun m => Wa U U zwr) ?_
   refine Jc U U U U (fun m => znc) ?_
   refine Jc U U U U (fun m => Jk hT U U U U U U) ?_
   refine Vm U U (fun fr => Vs hT U U U U U zpk zix (⟨[_], (by (repeat (first | exact Jj | exact Vc | refine Ji Jm ?_))), ?_⟩))
   refine Vv (Ja (Jh (Je (Jb (Jf rfl) U U U ?_))))
   refine Jg (Ja (Vn ?_))
   refine Vi (.inl rfl) U U zrv ?_
   first
    | (have e : appL L S D tx = (L, D, 7) := by rw [appL, if_pos h]
       rw [e]
       exact ⟨rfl, fun w q => logm_shut hok (q.sup zsup)⟩)
    | (have hrm : ¬ roomB L D n = true := by simpa using h
       have e : appL L S D tx = (L, D, 6) := by rw [appL, if_neg hbr, hn, if_neg hrm]
       rw [e]
       exact ⟨rfl, fun w q => q.sup zsup⟩)
    | (have hne : ¬ (writeL L S D tx).2 = 0 := h
       have e : appL L S D tx = ({ L with broken := true }, (writeL L S D tx).1, (writeL L S D tx).2) := by rw [appL, if_neg hbr, hn, if_pos hrm, if_neg hne]
       rw [e]
       exact ⟨rfl, fun w q => logm_shut (L := { L with broken := true }) ⟨hok.snap, hok.len, hok.txs, hok.small, hok.smalls, hok.few, hok.used⟩ (q.sup zsup)⟩)
    | (have hne : (writeL L S D tx).2 = 0 := by omega
       have e : appL L S D tx = ({ L with txs := L.txs ++ [tx], used := L.used + needN n }, (writeL L S D tx).1, 0) := by rw [appL, if_neg hbr, hn, if_pos hrm, if_pos hne]
       rw [e]
       refine ⟨rfl, fun w q => ?_⟩
       have og : OwnAt ca n cc (ints .u8 tx) := Vu (q.pick zpk)
       have hB : IsB (own 5 1 (.slice ca n cc) n (ints .u8 tx)) (.slice ca n cc) tx := ⟨ca, cc, by rw [hn], by rw [hn]; exact og.inl Jm⟩
       have q2 := q.sup (p := [K, own 5 1 (.slice ca n cc) n (ints .u8 tx)] ++ (row lg 208 (lcells st sv (.slice na (L.txs.length + 1) nc) { L with txs := L.txs ++ [tx], used := L.used + needN n }) :: own 41 1 (.slice na (L.txs.length + 1) nc) (L.txs.length + 1) (vals ++ [.slice ca n cc]) :: row st 205 (scells S d) :: disk d (writeL L S D tx).1 :: l)) zsup
       have q3 := (Sat.fold q2).sup (p := row lg 208 (lcells st sv (.slice na (L.txs.length + 1) nc) { L with txs := L.txs ++ [tx], used := L.used + needN n }) :: own 41 1 (.slice na (L.txs.length + 1) nc) (L.txs.length + 1) (vals ++ [.slice ca n cc]) :: stars [K, own 5 1 (.slice ca n cc) n (ints .u8 tx)] :: row st 205 (scells S d) :: disk d (writeL L S D tx).1 :: l) zsup
       have hlen2 : (L.txs ++ [tx]).length = L.txs.length + 1 := by simp
       exact logm_shut (L := { L with txs := L.txs ++ [tx], used := L.used + needN n }) (hok.more hB hsm hfew (by omega)) (by simpa only [hlen2] using q3))
end
end
section
open Go Go.SL
/-! A checkpoint. -/
def ckL (L : Lg) (S : Sb) (D : Dk) (state : List Int) : Lg × Sb × Dk × Int :=
 if L.broken = true then (L, S, D, 7)
 else if (takeS S D state).2.2 = 0 then ({ L with snap := state, txs := [], used := 0 }, (takeS S D state).1, (takeS S D state).2.1, 0)
 else if (takeS S D state).2.2 = 3 then (L, (takeS S D state).1, (takeS S D state).2.1, 3)
 else ({ L with broken := true }, (takeS S D state).1, (takeS S D state).2.1, (takeS S D state).2.2)
attribute [local irreducible] J JL JE JM LS Y Fc RV Code.wp wpList Code.wpIn wpListIn
attribute [local irreducible] Yc
variable (E : World)
theorem lcheck_spec (lg st d : Nat) (L : Lg) (S : Sb) (D : Dk) (l : List HProp) (hh : S.hash.length = 16) (h2 : 2 ≤ D.safe.length) (hpl : S.place = 0 ∨ S.place = 1) (hpn : D.pending.length ≤ 100000) (state : List Int) (p : Option Addr) (cap : Nat) (hsm : Small state) (hin : InL l p state.length cap (ints .u8 state)) :
 Fc prog E 86 [.pointer (some ⟨lg, 0, none⟩), .slice p state.length cap].toArray (logm lg st L :: row st 205 (scells S d) :: disk d D :: l)
  (fun v l' => v = .int .i64 (ckL L S D state).2.2.2 ∧ l' = logm lg st (ckL L S D state).1 :: row st 205 (scells (ckL L S D state).2.1 d) :: disk d (ckL L S D state).2.2.1 :: l) := by
 refine Fc.logm fun sv ta tc vals K hok => Fc.eqs ?_
 have hlen := hsm.len
 refine Va (c := ?codeC) Tryz.func86 ?hb Tryz.ntmps86 ?hl ?_
 case hb => exact rfl
 case hl => exact rfl
 refine Jh (Je (Jb (Jf rfl) U U U ?_))
 refine Jg (Ja (Jh (Ve (Jh (Je (Jb (Jd rfl) U U U (Jb (Wc hT U U U U) U U U (Jb (Jf rfl) U U U ?_))))))))
 refine Jg (Ja ?_)
 refine Vk rfl zbl ?_
 refine Jh (Je (Jb (Jd rfl) U U U ?_))
 refine Jb znc U U U ?_
 refine Jb (Jk hT U U U U U U) U U U ?_
 refine Jb (Jo hT U U U zrd) U U U ?_
 refine Jb (Jf rfl) U U U ?_
 refine Jg (Ja ?_)
 first | apply Jx rfl | apply Vo rfl
 case' ht =>
  intro h
  try (first | exact zom | exact zho h | subst h)
  all_goals
   refine Jh (Je (Jb (Jf rfl) U U U ?_))
   refine Jg (Ja (Vn (Vj (Vb ?_))))
   refine Vi (.inl rfl) U U zrv ?_
   first
    | (have e : ckL L S D state = (L, S, D, 7) := by rw [ckL, if_pos h]
       rw [e]
       exact ⟨rfl, fun w q => logm_shut hok (q.sup zsup)⟩)
    | (have h0 : (takeS S D state).2.2 = 0 := h
       have e : ckL L S D state = ({ L with snap := state, txs := [], used := 0 }, (takeS S D state).1, (takeS S D state).2.1, 0) := by rw [ckL, if_neg hbr, if_pos h0]
       rw [e]
       refine ⟨rfl, fun w q => ?_⟩
       have og : OwnAt ca state.length cc (ints .u8 state) := Vu (q.pick zpk)
       have hB : IsB (own 5 1 (.slice ca state.length cc) state.length (ints .u8 state)) (.slice ca state.length cc) state := ⟨ca, cc, rfl, og.inl Jm⟩
       exact logm_shut (L := { L with snap := state, txs := [], used := 0 }) (sv := .slice ca state.length cc) (ta := none) (tc := 0) (vals := []) (K := own 5 1 (.slice ca state.length cc) state.length (ints .u8 state)) ⟨hB, rfl, fun i b hb => (by simp at hb), hsm, fun b hb => (by simp at hb), Nat.zero_le _, Nat.zero_le _⟩ ((q.own_nil (e := 41) (size := 1)).sup zsup))
    | (have h0 : ¬ (takeS S D state).2.2 = 0 := by assumption
       have h3 : (takeS S D state).2.2 = 3 := h
       have e : ckL L S D state = (L, (takeS S D state).1, (takeS S D state).2.1, 3) := by rw [ckL, if_neg hbr, if_neg h0, if_pos h3]
       rw [e]
       exact ⟨congrArg _ h3, fun w q => logm_shut hok (q.sup zsup)⟩)
    | (have h0 : ¬ (takeS S D state).2.2 = 0 := by assumption
       have h3 : ¬ (takeS S D state).2.2 = 3 := h
       have e : ckL L S D state = ({ L with broken := true }, (takeS S D state).1, (takeS S D state).2.1, (takeS S D state).2.2) := by rw [ckL, if_neg hbr, if_neg h0, if_neg h3]
       rw [e]
       exact ⟨rfl, fun w q => logm_shut (L := { L with broken := true }) ⟨hok.snap, hok.len, hok.txs, hok.small, hok.smalls, hok.few, hok.used⟩ (q.sup zsup)⟩)
 case' hf =>
  intro h
  try (first | exact zom | exact zho h | subst h)
  all_goals
   have hbr : ¬ L.broken = true := by simpa using h
   refine Vd ?_
 all_goals refine Ju (Ja ?_)
 all_goals
  refine Jh (Jh (Je (Jb (Jd rfl) U U U ?_)))
  refine Jb znc U U U ?_
  refine Jb (Jk hT U U U U U U) U U U ?_
  refine Jb (Jo hT U U U zrd) U U U ?_
  refine Jb (Jd rfl) U U U ?_
  refine Jl rfl (Jw e134 U U (Vw (Ji zpk (Ji zpk Jj)) (stake_spec E st d S D p cap state _ hh h2 hpl hpn zinl)) ?_)
  rintro _ _ ⟨rfl, rfl⟩
  refine Jb (Jf rfl) U U U ?_
  refine Jg (Ja (Jh (Je (Jb (Jd rfl) U U U ?_))))
  refine Jg (Ja (Ve (Jh (Je (Jb (y_eql U U) U U U (Jb (Jf rfl) U U U ?_))))))
  refine Jg (Ja ?_)
  first | apply Jx rfl | apply Vo rfl
  case' ht =>
   intro h
   try (first | exact zom | exact zho h | subst h)
   all_goals
    refine Vd ?_
  case' hf =>
   intro h
   try (first | exact zom | exact zho h | subst h)
   all_goals
    refine Jh (Je (Jb (y_eql U U) U U U (Jb (Jf rfl) U U U ?_)))
    refine Jg (Ja ?_)
    first | apply Jx rfl | apply Vo rfl
    case' ht =>
     intro h
     try (first | exact zom | exact zho h | subst h)
     all_goals
      refine Jh (Je (Jb (Jd rfl) U U U (Jb (Jf rfl) U U U ?_)))
      refine Jg (Ja (Vn (Vj (Vb ?_))))
      refine Vi (.inl rfl) U U zrv ?_
      first
       | (have e : ckL L S D state = (L, S, D, 7) := by rw [ckL, if_pos h]
          rw [e]
          exact ⟨rfl, fun w q => logm_shut hok (q.sup zsup)⟩)
       | (have h0 : (takeS S D state).2.2 = 0 := h
          have e : ckL L S D state = ({ L with snap := state, txs := [], used := 0 }, (takeS S D state).1, (takeS S D state).2.1, 0) := by rw [ckL, if_neg hbr, if_pos h0]
          rw [e]
          refine ⟨rfl, fun w q => ?_⟩
          have og : OwnAt ca state.length cc (ints .u8 state) := Vu (q.pick zpk)
          have hB : IsB (own 5 1 (.slice ca state.length cc) state.length (ints .u8 state)) (.slice ca state.length cc) state := ⟨ca, cc, rfl, og.inl Jm⟩
          exact logm_shut (L := { L with snap := state, txs := [], used := 0 }) (sv := .slice ca state.length cc) (ta := none) (tc := 0) (vals := []) (K := own 5 1 (.slice ca state.length cc) state.length (ints .u8 state)) ⟨hB, rfl, fun i b hb => (by simp at hb), hsm, fun b hb => (by simp at hb), Nat.zero_le _, Nat.zero_le _⟩ ((q.own_nil (e := 41) (size := 1)).sup zsup))
       | (have h0 : ¬ (takeS S D state).2.2 = 0 := by assumption
          have h3 : (takeS S D state).2.2 = 3 := h
          have e : ckL L S D state = (L, (takeS S D state).1, (takeS S D state).2.1, 3) := by rw [ckL, if_neg hbr, if_neg h0, if_pos h3]
          rw [e]
          exact ⟨congrArg _ h3, fun w q => logm_shut hok (q.sup zsup)⟩)
       | (have h0 : ¬ (takeS S D state).2.2 = 0 := by assumption
          have h3 : ¬ (takeS S D state).2.2 = 3 := h
          have e : ckL L S D state = ({ L with broken := true }, (takeS S D state).1, (takeS S D state).2.1, (takeS S D state).2.2) := by rw [ckL, if_neg hbr, if_neg h0, if_neg h3]
          rw [e]
          exact ⟨rfl, fun w q => logm_shut (L := { L with broken := true }) ⟨hok.snap, hok.len, hok.txs, hok.small, hok.smalls, hok.few, hok.used⟩ (q.sup zsup)⟩)
    case' hf =>
     intro h
     try (first | exact zom | exact zho h | subst h)
     all_goals
      refine Jh (Je (Jb (Jd rfl) U U U ?_))
      refine Jb znc U U U ?_
      refine Jb (Jk hT U U U U U U) U U U ?_
      refine Jl rfl (Vs hT U U U U U zpk zix ?_)
      refine Jg (Ja (Jh (Je (Jb (Jd rfl) U U U (Jb (Jf rfl) U U U ?_)))))
      refine Jg (Ja (Vn (Vj (Vb ?_))))
      refine Vi (.inl rfl) U U zrv ?_
      first
       | (have e : ckL L S D state = (L, S, D, 7) := by rw [ckL, if_pos h]
          rw [e]
          exact ⟨rfl, fun w q => logm_shut hok (q.sup zsup)⟩)
       | (have h0 : (takeS S D state).2.2 = 0 := h
          have e : ckL L S D state = ({ L with snap := state, txs := [], used := 0 }, (takeS S D state).1, (takeS S D state).2.1, 0) := by rw [ckL, if_neg hbr, if_pos h0]
          rw [e]
          refine ⟨rfl, fun w q => ?_⟩
          have og : OwnAt ca state.length cc (ints .u8 state) := Vu (q.pick zpk)
          have hB : IsB (own 5 1 (.slice ca state.length cc) state.length (ints .u8 state)) (.slice ca state.length cc) state := ⟨ca, cc, rfl, og.inl Jm⟩
          exact logm_shut (L := { L with snap := state, txs := [], used := 0 }) (sv := .slice ca state.length cc) (ta := none) (tc := 0) (vals := []) (K := own 5 1 (.slice ca state.length cc) state.length (ints .u8 state)) ⟨hB, rfl, fun i b hb => (by simp at hb), hsm, fun b hb => (by simp at hb), Nat.zero_le _, Nat.zero_le _⟩ ((q.own_nil (e := 41) (size := 1)).sup zsup))
       | (have h0 : ¬ (takeS S D state).2.2 = 0 := by assumption
          have h3 : (takeS S D state).2.2 = 3 := h
          have e : ckL L S D state = (L, (takeS S D state).1, (takeS S D state).2.1, 3) := by rw [ckL, if_neg hbr, if_neg h0, if_pos h3]
          rw [e]
          exact ⟨congrArg _ h3, fun w q => logm_shut hok (q.sup zsup)⟩)
       | (have h0 : ¬ (takeS S D state).2.2 = 0 := by assumption
          have h3 : ¬ (takeS S D state).2.2 = 3 := h
          have e : ckL L S D state = ({ L with broken := true }, (takeS S D state).1, (takeS S D state).2.1, (takeS S D state).2.2) := by rw [ckL, if_neg hbr, if_neg h0, if_neg h3]
          rw [e]
          exact ⟨rfl, fun w q => logm_shut (L := { L with broken := true }) ⟨hok.snap, hok.len, hok.txs, hok.small, hok.smalls, hok.few, hok.used⟩ (q.sup zsup)⟩)
  all_goals refine Ju (Ja ?_)
  all_goals
   refine Jh (Je (Jb (Jd rfl) U U U (Jb (Jd rfl) U U U (Jb (Jd rfl) U U U (Jb (Jd rfl) U U U ?_)))))
   refine Jl rfl (Jw e81 U U (cloneB_spec E p cap state _ zinl (by omega)) ?_)
   rintro _ _ ⟨ca, cc, rfl, rfl⟩
   refine Jb znc U U U ?_
   refine Jb (Jk hT U U U U U U) U U U ?_
   refine Jl rfl (Vs hT U U U U U zpk zix ?_)
   refine Jb znc U U U ?_
   refine Jb (Jk hT U U U U U U) U U U ?_
   refine Jl rfl (Vs hT U U U U U zpk zix ?_)
   refine Jb znc U U U ?_
   refine Jb (Jk hT U U U U U U) U U U ?_
   refine Jl rfl (Vs hT U U U U U zpk zix ?_)
   refine Jg (Ja (Jh (Je (Jb (Jf rfl) U U U ?_))))
   refine Jg (Ja (Vn ?_))
   refine Vi (.inl rfl) U U zrv ?_
   first
    | (have e : ckL L S D state = (L, S, D, 7) := by rw [ckL, if_pos h]
       rw [e]
       exact ⟨rfl, fun w q => logm_shut hok (q.sup zsup)⟩)
    | (have h0 : (takeS S D state).2.2 = 0 := h
       have e : ckL L S D state = ({ L with snap := state, txs := [], used := 0 }, (takeS S D state).1, (takeS S D state).2.1, 0) := by rw [ckL, if_neg hbr, if_pos h0]
       rw [e]
       refine ⟨rfl, fun w q => ?_⟩
       have og : OwnAt ca state.length cc (ints .u8 state) := Vu (q.pick zpk)
       have hB : IsB (own 5 1 (.slice ca state.length cc) state.length (ints .u8 state)) (.slice ca state.length cc) state := ⟨ca, cc, rfl, og.inl Jm⟩
       exact logm_shut (L := { L with snap := state, txs := [], used := 0 }) (sv := .slice ca state.length cc) (ta := none) (tc := 0) (vals := []) (K := own 5 1 (.slice ca state.length cc) state.length (ints .u8 state)) ⟨hB, rfl, fun i b hb => (by simp at hb), hsm, fun b hb => (by simp at hb), Nat.zero_le _, Nat.zero_le _⟩ ((q.own_nil (e := 41) (size := 1)).sup zsup))
    | (have h0 : ¬ (takeS S D state).2.2 = 0 := by assumption
       have h3 : (takeS S D state).2.2 = 3 := h
       have e : ckL L S D state = (L, (takeS S D state).1, (takeS S D state).2.1, 3) := by rw [ckL, if_neg hbr, if_neg h0, if_pos h3]
       rw [e]
       exact ⟨congrArg _ h3, fun w q => logm_shut hok (q.sup zsup)⟩)
    | (have h0 : ¬ (takeS S D state).2.2 = 0 := by assumption
       have h3 : ¬ (takeS S D state).2.2 = 3 := h
       have e : ckL L S D state = ({ L with broken := true }, (takeS S D state).1, (takeS S D state).2.1, (takeS S D state).2.2) := by rw [ckL, if_neg hbr, if_neg h0, if_neg h3]
       rw [e]
       exact ⟨rfl, fun w q => logm_shut (L := { L with broken := true }) ⟨hok.snap, hok.len, hok.txs, hok.small, hok.smalls, hok.few, hok.used⟩ (q.sup zsup)⟩)
end
section
open Go Go.SL
/-! The transaction that sectors are, or none: in plain lists. -/
def sizeOf12 (m : Blk) : Nat := (leG ((m.drop 13).take 4) 4).toNat
def tails (bl : List Blk) (at_ : Nat) : Nat → List Int
 | 0 => []
 | k + 1 => tails bl at_ k ++ (bl.getD (at_ + 1 + k) []).drop 1
def secs (turn : BitVec 64) (num : Nat) (tx : List Int) : List Blk := mkB turn num tx :: piecesB tx (pieceN tx.length)
def txAt (bl : List Blk) (at_ : Nat) : List Int := (tails bl at_ (pieceN (sizeOf12 (bl.getD at_ [])))).take (sizeOf12 (bl.getD at_ []))
def nextTx (turn : BitVec 64) (num : Nat) (bl : List Blk) (at_ : Nat) : Option (List Int) :=
 if at_ + needN (sizeOf12 (bl.getD at_ [])) ≤ bl.length ∧ (bl.drop at_).take (needN (sizeOf12 (bl.getD at_ []))) = secs turn num (txAt bl at_) then some (txAt bl at_) else none
theorem getD_mem {bl : List Blk} (h64 : ∀ b ∈ bl, b.length = 64) {i : Nat} (h : i < bl.length) : (bl.getD i []).length = 64 := by
 rw [List.getD_eq_getElem?_getD, List.getElem?_eq_getElem h]
 exact h64 _ (List.getElem_mem _)
theorem tails_length {bl : List Blk} (h64 : ∀ b ∈ bl, b.length = 64) (at_ : Nat) : ∀ k, at_ + 1 + k ≤ bl.length → (tails bl at_ k).length = 63 * k
 | 0, _ => rfl
 | k + 1, h => by
   rw [tails, List.length_append, tails_length h64 at_ k (by omega), List.length_drop, getD_mem h64 (by omega)]
   omega
theorem tails_piece {bl : List Blk} (h64 : ∀ b ∈ bl, b.length = 64) (at_ : Nat) : ∀ (k i : Nat), i < k → at_ + 1 + k ≤ bl.length → ((tails bl at_ k).drop (63 * i)).take 63 = (bl.getD (at_ + 1 + i) []).drop 1
 | k + 1, i, hi, h => by
   have hl := tails_length h64 at_ k (by omega)
   have hp : ((bl.getD (at_ + 1 + k) []).drop 1).length = 63 := by rw [List.length_drop, getD_mem h64 (by omega)]
   rw [tails]
   rcases Nat.lt_or_ge i k with h1 | h1
   · rw [List.drop_append_of_le_length (by omega), List.take_append_of_le_length (by rw [List.length_drop]; omega)]
     exact tails_piece h64 at_ k i h1 (by omega)
   · obtain rfl : i = k := by omega
     rw [List.drop_left' hl, List.take_of_length_le (by omega)]
theorem secs_iff {bl : List Blk} {turn : BitVec 64} {num at_ : Nat} {tx : List Int} (h : at_ + needN tx.length ≤ bl.length) :
 (bl.drop at_).take (needN tx.length) = secs turn num tx ↔ bl.getD at_ [] = mkB turn num tx ∧ ∀ i, i < pieceN tx.length → bl.getD (at_ + 1 + i) [] = pieceB tx i := by
 have hk : needN tx.length = pieceN tx.length + 1 := by unfold needN pieceN; omega
 have e : ∀ j, at_ + j < bl.length → j < needN tx.length → ((bl.drop at_).take (needN tx.length))[j]? = some (bl.getD (at_ + j) []) := fun j h1 h2 => by
  rw [List.getElem?_take, if_pos h2, List.getElem?_drop, List.getD_eq_getElem?_getD, List.getElem?_eq_getElem h1]; rfl
 constructor
 · intro hs
   refine ⟨?_, fun i hi => ?_⟩
   · have := e 0 (by omega) (by omega)
     rw [hs] at this
     exact (Option.some.inj this).symm
   · have := e (i + 1) (by omega) (by omega)
     rw [hs, secs, List.getElem?_cons_succ, piecesB, List.getElem?_map, List.getElem?_range hi] at this
     rw [show at_ + 1 + i = at_ + (i + 1) by omega]
     exact (Option.some.inj this).symm
 · rintro ⟨h1, h2⟩
   refine List.ext_getElem? fun j => ?_
   rcases Nat.lt_or_ge j (needN tx.length) with hj | hj
   · rw [e j (by omega) hj]
     cases j with
     | zero => rw [Nat.add_zero, h1]; rfl
     | succ i =>
       rw [secs, List.getElem?_cons_succ, piecesB, List.getElem?_map, List.getElem?_range (by omega), show at_ + (i + 1) = at_ + 1 + i by omega, h2 i (by omega)]
       rfl
   · rw [List.getElem?_take, if_neg (by omega), secs, List.getElem?_eq_none]
     rw [List.length_cons, piecesB_length]
     omega
theorem pieceB_of {T tx : List Int} {z i k : Nat} (hz : z ≤ 63 * k) (hT : T.length = 63 * k) (ht : tx = T.take z) (h0 : T.drop z = List.replicate (63 * k - z) 0) (hi : i < k) : 0 :: (T.drop (63 * i)).take 63 = pieceB tx i := by
 have e : T = tx ++ List.replicate (63 * k - z) 0 := by rw [ht, ← h0, List.take_append_drop]
 have hl : tx.length = z := by rw [ht, List.length_take]; omega
 rw [pieceB]
 congr 1
 rw [e, List.drop_append, List.take_append, List.drop_replicate, List.take_replicate]
 congr 1
 congr 1
 simp only [List.length_take, List.length_drop, hl]
 omega
theorem tails_pieces {tx : List Int} {bl : List Blk} {at_ : Nat} (h : ∀ i, i < pieceN tx.length → bl.getD (at_ + 1 + i) [] = pieceB tx i) : ∀ k, k ≤ pieceN tx.length → tails bl at_ k = tx.take (63 * k) ++ List.replicate (63 * k - tx.length) 0
 | 0, _ => by simp [tails]
 | k + 1, hk => by
   rw [tails, tails_pieces h k (by omega), h k (by omega), pieceB, List.drop_one, List.tail_cons]
   have h1 : 63 * k < tx.length := by unfold pieceN at hk; omega
   rw [show 63 * k - tx.length = 0 by omega, List.replicate_zero, List.append_nil, ← List.append_assoc, show tx.take (63 * k) ++ (tx.drop (63 * k)).take 63 = tx.take (63 * (k + 1)) by rw [show 63 * (k + 1) = 63 * k + 63 by omega, List.take_add]]
   congr 2
   simp only [List.length_take, List.length_drop]
   omega
theorem mkB_facts (turn : BitVec 64) (num : Nat) (tx : List Int) (hn : num < 4294967296) (ht : tx.length < 4294967296) : (mkB turn num tx).getD 0 0 = 1 ∧ leG (((mkB turn num tx).drop 1).take 8) 8 = turn ∧ (leG (((mkB turn num tx).drop 9).take 4) 4).toNat = num ∧ sizeOf12 (mkB turn num tx) = tx.length ∧ (mkB turn num tx).drop 48 = (sha ((mkB turn num tx).take 48)).take 16 := by
 obtain ⟨Z, hZ⟩ : ∃ Z, mkB turn num tx = [1] ++ (leB 8 turn ++ (leB 4 (BitVec.ofInt 64 (num : Int)) ++ (leB 4 (BitVec.ofInt 64 (tx.length : Int)) ++ Z))) := by
  refine ⟨(sha tx).take 16 ++ (List.replicate 15 0 ++ (sha (mkHead turn num tx)).take 16), ?_⟩
  rw [mkB]
  conv => lhs; lhs; rw [mkHead]
  simp only [List.append_assoc]
 have x1 : (BitVec.ofInt 64 (num : Int)).toNat = num := by rw [BitVec.toNat_ofInt]; omega
 have x2 : (BitVec.ofInt 64 (tx.length : Int)).toNat = tx.length := by rw [BitVec.toNat_ofInt]; omega
 have d9 : (mkB turn num tx).drop 9 = leB 4 (BitVec.ofInt 64 (num : Int)) ++ (leB 4 (BitVec.ofInt 64 (tx.length : Int)) ++ Z) := by
  rw [hZ, ← List.append_assoc, List.drop_left' (by simp [leB_length])]
 have d13 : (mkB turn num tx).drop 13 = leB 4 (BitVec.ofInt 64 (tx.length : Int)) ++ Z := by
  rw [show 13 = 9 + 4 by rfl, ← List.drop_drop, d9, List.drop_left' (leB_length _ _)]
 refine ⟨by rw [hZ]; rfl, ?_, ?_, ?_, ?_⟩
 · rw [hZ, List.singleton_append, List.drop_one, List.tail_cons, List.take_left' (leB_length _ _), leG_leB8]
 · rw [d9, List.take_left' (leB_length _ _), leG_leB4 _ (by omega), x1]
 · rw [sizeOf12, d13, List.take_left' (leB_length _ _), leG_leB4 _ (by omega), x2]
 · rw [mkB, List.drop_left' (mkHead_length _ _ _), List.take_left' (mkHead_length _ _ _)]
theorem nextTx_some {turn : BitVec 64} {num at_ : Nat} {bl : List Blk} {tx : List Int} (h64 : ∀ b ∈ bl, b.length = 64) (_ : bl.length ≤ 512) (h : nextTx turn num bl at_ = some tx) :
 tx = txAt bl at_ ∧ sizeOf12 (bl.getD at_ []) = tx.length ∧ at_ + needN tx.length ≤ bl.length ∧ bl.getD at_ [] = mkB turn num tx ∧ ∀ i, i < pieceN tx.length → bl.getD (at_ + 1 + i) [] = pieceB tx i := by
 rw [nextTx] at h
 split at h
 · rename_i hc
   obtain rfl := Option.some.inj h
   obtain ⟨z, hz⟩ : ∃ z, sizeOf12 (bl.getD at_ []) = z := ⟨_, rfl⟩
   have hl : (txAt bl at_).length = z := by
    rw [txAt, hz, List.length_take, tails_length h64 at_ _ (by have := hc.1; rw [hz] at this; unfold needN at this; unfold pieceN; omega)]
    unfold pieceN
    omega
   rw [hz, ← hl] at hc
   exact ⟨rfl, by rw [hz, hl], hc.1, (secs_iff hc.1).1 hc.2⟩
 · cases h
theorem nextTx_is {turn : BitVec 64} {num at_ : Nat} {bl : List Blk} (h64 : ∀ b ∈ bl, b.length = 64) {z : Nat} (hz : sizeOf12 (bl.getD at_ []) = z) (h5 : at_ + needN z ≤ bl.length) (h7 : ∀ i, i < pieceN z → (bl.getD (at_ + 1 + i) []).getD 0 0 = 0)
 (h8 : (tails bl at_ (pieceN z)).drop z = List.replicate (63 * pieceN z - z) 0) (h9 : mkB turn num ((tails bl at_ (pieceN z)).take z) = bl.getD at_ []) : nextTx turn num bl at_ = some ((tails bl at_ (pieceN z)).take z) := by
 have hT : (tails bl at_ (pieceN z)).length = 63 * pieceN z := tails_length h64 at_ _ (by unfold needN at h5; unfold pieceN; omega)
 have hzk : z ≤ 63 * pieceN z := by unfold pieceN; omega
 have ht : txAt bl at_ = (tails bl at_ (pieceN z)).take z := by rw [txAt, hz]
 have hl : (txAt bl at_).length = z := by rw [ht, List.length_take]; omega
 rw [nextTx, if_pos, ht]
 rw [hz]
 refine ⟨h5, ?_⟩
 rw [← hl] at h5 ⊢
 refine (secs_iff h5).2 ⟨by rw [ht, h9], fun i hi => ?_⟩
 rw [hl] at hi
 have h1 := tails_piece h64 at_ (pieceN z) i hi (by rw [hl] at h5; unfold needN at h5; unfold pieceN; omega)
 rw [← pieceB_of hzk hT ht h8 hi, h1]
 have hb := getD_mem h64 (show at_ + 1 + i < bl.length by rw [hl] at h5; unfold needN at h5; unfold pieceN at hi; omega)
 have h0 := h7 i hi
 match hc : bl.getD (at_ + 1 + i) [], hb, h0 with
 | x :: r, _, h0 =>
   simp only [List.getD_cons_zero] at h0
   rw [h0]
   rfl
end
section
open Go Go.SL
/-! Bytes: low forms, and what stands on a disk (for the layers above; chapter 11's own texts have these in Ref11b and Law11d). -/
theorem leG_bit {bs : List Int} (hb : Bytes bs) (k : Nat) (hk : k < 64) : ∀ n, n ≤ 8 → (leG bs n).getLsbD k = (decide (k < 8 * n) && (bs.getD (k / 8) 0).toNat.testBit (k % 8))
 | 0, _ => by simp [leG]
 | n + 1, hn => by
   rw [leG, BitVec.getLsbD_or, leG_bit hb k hk n (by omega), BitVec.getLsbD_shiftLeft]
   have hB := hb.getD n
   have e1 : (BitVec.ofInt 64 (bs.getD n 0)).getLsbD (k - 8 * n) = (bs.getD n 0).toNat.testBit (k - 8 * n) := by
    rw [BitVec.getLsbD, BitVec.toNat_ofInt]
    congr 1
    omega
   rw [e1]
   by_cases h1 : k < 8 * n
   · have h2 : k < 8 * (n + 1) := by omega
     simp [h1, h2]
   · by_cases h2 : k < 8 * (n + 1)
     · have h3 : k / 8 = n := by omega
       have h4 : k - 8 * n = k % 8 := by omega
       simp [h1, h2, h3, h4, hk]
     · have h5 : (bs.getD n 0).toNat.testBit (k - 8 * n) = false := by
        refine Nat.testBit_lt_two_pow ?_
        have : 2 ^ 8 ≤ 2 ^ (k - 8 * n) := Nat.pow_le_pow_right (by decide) (by omega)
        omega
       rw [h5]
       simp [h1, h2]
theorem leG_lt {bs : List Int} (hb : Bytes bs) : (leG bs 4).toNat < 4294967296 := by
 refine Nat.lt_pow_two_of_testBit (n := 32) _ fun i hi => ?_
 by_cases h : i < 64
 · have := leG_bit hb i h 4 (by omega)
   rw [BitVec.getLsbD] at this
   rw [this]
   simp
   omega
 · exact Nat.testBit_lt_two_pow (Nat.lt_of_lt_of_le (leG bs 4).isLt (Nat.pow_le_pow_right (by decide) (by omega)))
theorem Bytes.part {bs : List Int} (h : Bytes bs) (lo n : Nat) : Bytes ((bs.drop lo).take n) := fun x hx => h x (List.mem_of_mem_drop (List.mem_of_mem_take hx))
theorem Bytes.nil : Bytes [] := fun x hx => absurd hx (by simp)
theorem Bytes.append {xs ys : List Int} (hx : Bytes xs) (hy : Bytes ys) : Bytes (xs ++ ys) := fun z hz => by
 rcases List.mem_append.1 hz with h | h
 · exact hx z h
 · exact hy z h
theorem Bytes.rep (n : Nat) : Bytes (List.replicate n 0) := fun x hx => by
 rw [List.eq_of_mem_replicate hx]; exact ⟨Int.le_refl _, by decide⟩
theorem Bytes.take {xs : List Int} (h : Bytes xs) (n : Nat) : Bytes (xs.take n) := fun x hx => h x (List.mem_of_mem_take hx)
theorem Bytes.drop {xs : List Int} (h : Bytes xs) (n : Nat) : Bytes (xs.drop n) := fun x hx => h x (List.mem_of_mem_drop hx)
theorem Bytes.sha (bs : List Int) : Bytes (sha bs) := fun x hx => by
 rw [Go.Proofs.YtaopifoidbdniaaGreat.sha, shaOut, List.mem_flatMap] at hx
 obtain ⟨w, _, hw⟩ := hx
 simp only [out4, List.mem_cons, List.not_mem_nil, or_false] at hw
 rcases hw with rfl | rfl | rfl | rfl <;> omega
theorem Bytes.leB (n : Nat) (x : BitVec 64) : Bytes (leB n x) := fun y hy => by
 simp only [Go.Proofs.YtaopifoidbdniaaGreat.leB, List.mem_map] at hy
 obtain ⟨i, _, rfl⟩ := hy
 omega
theorem Bytes.sbHead {s : Sb} (h : Bytes s.hash) : Bytes (sbHead s) :=
 (((((show Bytes (lettersL ++ [s.place % 256, 0]) from fun x hx => by
   simp only [lettersL, List.mem_append, List.mem_cons, List.not_mem_nil, or_false] at hx
   omega).append (Bytes.leB _ _)).append (Bytes.leB _ _)).append h).append (Bytes.rep _))
theorem Bytes.sbBlock {s : Sb} (h : Bytes s.hash) : Bytes (sbBlock s) := (Bytes.sbHead h).append ((Bytes.sha _).take _)
theorem Bytes.chunk {bs : List Int} (h : Bytes bs) (i : Nat) : Bytes (chunk bs i) := ((h.drop _).take _).append (Bytes.rep _)
structure Byt (D : Dk) : Prop where
 safe : ∀ b ∈ D.safe, Bytes b
 pend : ∀ p ∈ D.pending, Bytes p.2
theorem Byt.find {D : Dk} (h : Byt D) (i : Int) : Bytes (D.find i) := by
 unfold Dk.find
 split
 · rename_i p hp
   exact h.pend p (List.mem_reverse.1 (List.mem_of_find?_eq_some hp))
 · rw [List.getD_eq_getElem?_getD]
   cases e : D.safe[i.toNat]? with
   | none => exact Bytes.nil
   | some b => exact h.safe b (List.mem_of_getElem? e)
theorem byt_live (lv : Nat → Bool) : ∀ (l : List (Int × Blk)) (k : Nat) (s : List Blk), (∀ p ∈ l, Bytes p.2) → (∀ b ∈ s, Bytes b) → ∀ b ∈ liveOn lv l k s, Bytes b
 | [], _, _, _, hs => hs
 | p :: r, k, s, hl, hs => by
   simp only [liveOn]
   refine byt_live lv r (k + 1) _ (fun q hq => hl q (by simp [hq])) ?_
   split
   · intro b hb
     rcases List.mem_or_eq_of_mem_set hb with h | rfl
     · exact hs b h
     · exact hl p (by simp)
   · exact hs
theorem Byt.does {D : Dk} (h : Byt D) : Byt D.does := ⟨h.safe, h.pend⟩
theorem Byt.dies {D : Dk} (h : Byt D) : Byt D.dies := ⟨h.safe, h.pend⟩
theorem Byt.push {D : Dk} (h : Byt D) (i : Int) {b : Blk} (hb : Bytes b) : Byt (D.push i b) := ⟨h.safe, fun p hp => by
 simp only [Dk.push, List.mem_append, List.mem_singleton] at hp
 rcases hp with hp | rfl
 · exact h.pend p hp
 · exact hb⟩
theorem Byt.settle {D : Dk} (h : Byt D) (lv : Nat → Bool) : Byt (D.settle lv) := ⟨byt_live lv _ _ _ h.pend h.safe, fun p hp => absurd hp (by simp [Dk.settle])⟩
theorem Byt.new (n : Nat) : Byt (Dk.new n) := ⟨fun b hb => by rw [List.eq_of_mem_replicate hb]; exact Bytes.rep 64, fun p hp => absurd hp (by simp [Dk.new])⟩
theorem Byt.formatted {D : Dk} (h : Byt D) : Byt D.formatted := ((h.does.push 0 (Bytes.sbBlock ((Bytes.sha _).take _))).does.push 1 (Bytes.rep 64)).does.settle _
theorem Byt.write {D : Dk} (h : Byt D) (i : Int) {b : Blk} (hb : Bytes b) : Byt (D.write i b).1 := by
 unfold Dk.write
 split
 · exact h
 · split
   · exact h.dies
   · exact h.does.push i hb
theorem Byt.sync {D : Dk} (h : Byt D) : Byt D.sync.1 := by
 unfold Dk.sync
 split
 · exact h
 · split
   · exact h.dies
   · exact h.does.settle _
theorem Byt.takeW {D : Dk} (h : Byt D) (base : Int) {bs : List Int} (hb : Bytes bs) : ∀ k, Byt (takeW base bs D k).1
 | 0 => h
 | k + 1 => by
   rw [Go.Proofs.YtaopifoidbdniaaGreat.takeW]
   split
   · exact (Byt.takeW h base hb k).write _ (hb.chunk k)
   · exact Byt.takeW h base hb k
theorem Byt.takeS {D : Dk} (h : Byt D) (s : Sb) {bs : List Int} (hb : Bytes bs) : Byt (takeS s D bs).2.1 := by
 unfold Go.Proofs.YtaopifoidbdniaaGreat.takeS
 split
 · exact h
 · have h1 := (h.takeW (2 + (nextS s bs).place * D.half) hb ((bs.length + 63) / 64))
   have h2 : Bytes (Go.Proofs.YtaopifoidbdniaaGreat.sbBlock (nextS s bs)) := Bytes.sbBlock ((Bytes.sha _).take _)
   dsimp only
   split
   · split
     · split
       · split
         · exact (h1.sync.write _ h2).sync
         · exact (h1.sync.write _ h2).sync
       · exact h1.sync.write _ h2
     · exact h1.sync
   · exact h1
end
section
open Go Go.SL
/-! The next transaction read. -/
def slotsL (D : Dk) : List Blk := (List.range D.slots).map fun i : Nat => D.find (2 + 2 * (D.half : Int) + (i : Int))
@[simp] theorem slotsL_length (D : Dk) : (slotsL D).length = D.slots := by simp [slotsL]
theorem slotsL_getD {D : Dk} {i : Nat} (h : i < D.slots) : (slotsL D).getD i [] = D.find (2 + 2 * (D.half : Int) + (i : Int)) := by simp [slotsL, List.getD_eq_getElem?_getD, h]
theorem slotsL_64 {D : Dk} (hok : D.Ok) (h2 : 2 ≤ D.safe.length) : ∀ b ∈ slotsL D, b.length = 64 := fun b hb => by
 simp only [slotsL, List.mem_map, List.mem_range] at hb
 obtain ⟨i, hi, rfl⟩ := hb
 have := half_le D h2
 exact hok.find ⟨by omega, by unfold Dk.slots at hi; omega⟩
theorem nextTx_facts {turn : BitVec 64} {num at_ : Nat} {bl : List Blk} {tx : List Int} (h64 : ∀ b ∈ bl, b.length = 64) (hb : bl.length ≤ 512) (hn : num < 4294967296) (h : nextTx turn num bl at_ = some tx) {m : Blk} (hm : bl.getD at_ [] = m) {z : Nat} (hz : sizeOf12 m = z) :
 m.getD 0 0 = 1 ∧ leG ((m.drop 1).take 8) 8 = turn ∧ (leG ((m.drop 9).take 4) 4).toNat = num ∧ at_ + needN z ≤ bl.length ∧ m.drop 48 = (sha (m.take 48)).take 16 ∧ (∀ i, i < pieceN z → (bl.getD (at_ + 1 + i) []).getD 0 0 = 0) ∧ (tails bl at_ (pieceN z)).drop z = List.replicate (63 * pieceN z - z) 0 ∧ mkB turn num ((tails bl at_ (pieceN z)).take z) = m := by
 obtain ⟨h1, h2, h3, h4, h5⟩ := nextTx_some h64 hb h
 rw [hm] at h2 h4
 rw [hz] at h2
 have hlt : tx.length < 4294967296 := by unfold needN at h3; omega
 obtain ⟨f1, f2, f3, f4, f5⟩ := mkB_facts turn num tx hn hlt
 rw [← h4] at f1 f2 f3 f4 f5
 have ht := tails_pieces h5 (pieceN tx.length) (Nat.le_refl _)
 have hle : tx.length ≤ 63 * pieceN tx.length := by unfold pieceN; omega
 rw [List.take_of_length_le hle] at ht
 subst h2
 refine ⟨f1, f2, f3, h3, f5, fun i hi => by rw [h5 i hi]; rfl, ?_, ?_⟩
 · rw [ht, List.drop_left' rfl]
 · rw [ht, List.take_left' rfl, h4]
attribute [local irreducible] J JL JE JM LS Y Fc RV Code.wp wpList Code.wpIn wpListIn
attribute [local irreducible] Yc
variable (E : World)
theorem equal_at (p q : Option Addr) (c1 c2 n m : Nat) (xs ys : List Int) (l : List HProp) (hn : xs.length = n) (hm : ys.length = m) (hx : Bytes xs) (hy : Bytes ys) (hp : InL l p n c1 (ints .u8 xs)) (hq : InL l q m c2 (ints .u8 ys)) (hb : n ≤ 70368744177664) (hb2 : m ≤ 70368744177664) :
 Fc prog E 19 [.slice p n c1, .slice q m c2].toArray l (fun v l' => v = .bool (decide (xs = ys)) ∧ l' = l) := by
 subst hn
 subst hm
 exact equal_spec E p q c1 c2 xs ys l hx hy hp hq hb hb2
theorem lnext_spec (lg st d : Nat) (L : Lg) (S : Sb) (D : Dk) (l : List HProp) (hh : S.hash.length = 16) (h2 : 2 ≤ D.safe.length) (hdead : D.dead = false) (hbyt : Byt D) (hpn : D.pending.length ≤ 1000000) (hused : L.used ≤ D.slots) :
 Fc prog E 112 [.pointer (some ⟨lg, 0, none⟩)].toArray (logm lg st L :: row st 205 (scells S d) :: disk d D :: l)
  (fun v l' => ∃ tv ok g, v = .tuple #[tv, .bool ok, .int .i64 0] ∧ l' = g ++ (logm lg st L :: row st 205 (scells S d) :: disk d D :: l) ∧ ((nextTx S.turn L.txs.length (slotsL D) L.used = none ∧ ok = false) ∨ ∃ tx A, nextTx S.turn L.txs.length (slotsL D) L.used = some tx ∧ ok = true ∧ g = [A] ∧ IsB A tv tx ∧ Small tx)) := by
 refine Fc.fact (p := D.Ok) (fun w q => (disk_open (q.sup (p := disk d D :: l) zsup)).elim fun _ ⟨_, _, _, h, _⟩ => h) fun hok0 => ?_
 have hm := hok0.most
 have hsl : D.slots ≤ 512 := by unfold Dk.slots; omega
 have hhl := half_le D h2
 refine Fc.logm fun sv ta tc vals K hok => Wg ?_
 have hfew := hok.few
 obtain ⟨B, hB⟩ : ∃ B, slotsL D = B := ⟨_, rfl⟩
 have hB64 : ∀ b ∈ B, b.length = 64 := by rw [← hB]; exact slotsL_64 hok0 h2
 have hBl : B.length = D.slots := by rw [← hB, slotsL_length]
 have hBb : ∀ i, i < D.slots → Bytes (B.getD i []) := fun i hi => by rw [← hB, slotsL_getD hi]; exact hbyt.find _
 have cslot : ∀ (i : Nat) l, i < D.slots → Fc prog E 157 [.pointer (some ⟨st, 0, none⟩), .int .i64 (i : Int)].toArray (row st 205 (scells S d) :: disk d D :: l) (fun v l' => v = .tuple #[.agg (encB (B.getD i [])).toArray, .int .i64 0] ∧ l' = row st 205 (scells S d) :: disk d D :: l) := fun i l hi => by
  have q := slot_spec E st d S D l hh h2 hpn (i : Int)
  have e1 : D.slotAt (i : Int) = (2 + 2 * (D.half : Int) + i, 0) := by rw [Dk.slotAt, if_neg (by omega)]
  have e2 : D.ready (2 + 2 * (D.half : Int) + i) = 0 := by rw [Dk.ready, hdead, if_neg (by simp), if_neg (by unfold Dk.slots at hi; omega)]
  have e3 : D.slot (i : Int) = (B.getD i [], 0) := by rw [Dk.slot, e1, if_pos rfl, ← hB, slotsL_getD hi, Dk.read, if_pos e2, e2]
  rwa [e3] at q
 rw [hB]
 obtain ⟨mb, hmm⟩ : ∃ mb, B.getD L.used [] = mb := ⟨_, rfl⟩
 obtain ⟨z, hz⟩ : ∃ z, sizeOf12 mb = z := ⟨_, rfl⟩
 have hfacts := fun tx h => nextTx_facts (tx := tx) (turn := S.turn) (num := L.txs.length) (at_ := L.used) hB64 (by omega) (by omega) h hmm hz
 obtain ⟨nx, hnx⟩ : ∃ nx, nextTx S.turn L.txs.length B L.used = nx := ⟨_, rfl⟩
 rw [hnx] at hfacts ⊢
 refine Va (c := ?codeC) Tryz.func112 ?hb Tryz.ntmps112 ?hl ?_
 case hb => exact rfl
 case hl => exact rfl
 refine Jh (Je (Jb (Jf rfl) U U U (Jb (Jf rfl) U U U (Jb (Jf rfl) U U U ?_))))
 refine Jg (Ja (Jh (Jh ?_)))
 refine Vz _ _ [(0, .q), (1, .q), (2, .q), (3, .q), (4, .q), (5, .q), (6, .q), (7, .q), (8, .q), (9, .q)] mixed (by kernel_rfl) (Jj) ?_
 refine zqm U U U U U ?_
 refine Jc U U U U (fun m => znc) ?_
 refine Jc U U U U (fun m => Jk hT U U U U U U) ?_
 refine Jc U U U U (fun m => Jo hT U U U zrda) ?_
 refine zqm U U U U U ?_
 refine Jc U U U U (fun m => znc) ?_
 refine Jc U U U U (fun m => Jk hT U U U U U U) ?_
 refine Jc U U U U (fun m => Jo hT U U U zrda) ?_
 refine Jc U U U U (fun m => y_callF e156 rfl (Fc.still (p := [row st 205 (scells S d), disk d D]) (Ji (Vp m zpk) (Ji (Vp m zpk) Jj)) (slots_spec E st d S D _ hh h2))) ?_
 refine Jc U U U U (fun m => y_eql U U) ?_
 refine Vv (Ja ?_)
 first | apply Jx rfl | apply Vo rfl
 case' ht =>
  intro h
  try (first | exact zom | exact zho h | subst h)
  all_goals
   have hno : nx = none := by
    cases hx : nx with
    | none => rfl
    | some tx =>
      have f := (hfacts tx hx).2.2.2.1
      unfold needN at f
      omega
   refine Jh (Je (Jb (Jf rfl) U U U (Jb (Jf rfl) U U U (Jb (Jf rfl) U U U ?_))))
   refine Jg (Ja (Vn (Vb ?_)))
   refine JE.ret3 (.inl rfl) U U zrv zrv zrv ?_
   first
    | (have zz := hno
       exact ⟨logm lg st L :: row st 205 (scells S d) :: disk d D :: l, fun w q => logm_shut hok (q.sup zsup), _, false, [], rfl, rfl, .inl ⟨hno, rfl⟩⟩)
    | (have zz := hzr
       by_cases heq : mkB tu (nu : Int) (T.take z) = mb
       · have hsome : nx = some (T.take z) := by
          rw [← hnx, ← hT1, ← hN1, ← hTe, ← hN]
          exact nextTx_is hB64 (by rw [hmm]; exact hz) (by omega) (fun i hi => hz0 i (by rw [hN] at hi; exact hi)) (by rw [hN, hTe]; exact hzr) (by rw [hN, hTe, heq, hmm])
         refine ⟨own 5 1 (.slice a (63 * k) c) (63 * k) (ints .u8 T) :: logm lg st L :: row st 205 (scells S d) :: disk d D :: l, fun w q => ?_, _, true, [_], ?_, rfl, .inr ⟨T.take z, _, hsome, rfl, rfl, ⟨a, z, by rw [htl], by rw [htl]; exact hclip2⟩, ⟨hTb.take _, by rw [htl]; omega⟩⟩⟩
         · have s2 := logm_shut (r := own 5 1 (.slice a (63 * k) c) (63 * k) (ints .u8 T) :: row st 205 (scells S d) :: disk d D :: l) hok (q.sup zsup)
           exact s2.sup zsup
         · rw [show decide (mkB tu (nu : Int) (T.take z) = mb) = true from decide_eq_true heq]
       · have hno : nx = none := hnone (fun tx hx => (hfacts tx hx).2.2.2.2.2.2.2) (by rw [← hT1, ← hN1]; exact heq)
         rw [show decide (mkB tu (nu : Int) (T.take z) = mb) = false from decide_eq_false heq]
         exact ⟨logm lg st L :: row st 205 (scells S d) :: disk d D :: l, fun w q => logm_shut hok (q.sup zsup), _, false, [], rfl, rfl, .inl ⟨hno, rfl⟩⟩)
 case' hf =>
  intro h
  try (first | exact zom | exact zho h | subst h)
  all_goals
   refine Vd ?_
 all_goals refine Ja ?_
 all_goals
  refine Jh ?_
  have hlt : L.used < D.slots := by omega
  have hmb : mb.length = 64 := by rw [← hmm]; exact getD_mem hB64 (by omega)
  have hmB : Bytes mb := by rw [← hmm]; exact hBb L.used hlt
  have hmL : (encB mb).length = 64 := (encB_length _).trans hmb
  have hz32 : z < 4294967296 := by rw [← hz]; exact leG_lt (hmB.part 13 4)
  have hn32 : (leG ((mb.drop 9).take 4) 4).toNat < 4294967296 := leG_lt (hmB.part 9 4)
  have hnone : ∀ {c : Prop}, (∀ tx, nx = some tx → c) → ¬ c → nx = none := fun {c} h hc => by
   cases hx : nx with
   | none => rfl
   | some tx => exact absurd (h tx hx) hc
  have cslot1 : ∀ l, Fc prog E 157 [.pointer (some ⟨st, 0, none⟩), .int .i64 (L.used : Int)].toArray (row st 205 (scells S d) :: disk d D :: l) (fun v l' => v = .tuple #[.agg (encB mb).toArray, .int .i64 0] ∧ l' = row st 205 (scells S d) :: disk d D :: l) := fun l => by
   have q := cslot L.used l hlt
   rwa [hmm] at q
  refine Vz _ _ [(0, .q), (1, .q), (2, .q), (3, .q), (4, .q), (5, .q), (6, .q), (7, .q), (8, .q), (9, .q), (10, .q), (11, .q), (12, .n), (13, .l), (14, .q)] mixed (by kernel_rfl) (Jj) ?_
  refine zqm U U U U U ?_
  refine Jc U U U U (fun m => znc) ?_
  refine Jc U U U U (fun m => Jk hT U U U U U U) ?_
  refine Jc U U U U (fun m => Jo hT U U U zrda) ?_
  refine zqm U U U U U ?_
  refine Jc U U U U (fun m => znc) ?_
  refine Jc U U U U (fun m => Jk hT U U U U U U) ?_
  refine Jc U U U U (fun m => Jo hT U U U zrda) ?_
  refine Jc U U U U (fun m => y_callF e157 rfl (Fc.still (p := [row st 205 (scells S d), disk d D]) (Ji (Vp m zpk) (Ji (Vp m zpk) Jj)) (cslot1 _))) ?_
  refine zqm U U U U U (Jc U U U U (fun m => Vg U U) (Jc U U U U (fun m => Vg U U) ?_))
  refine JM.lay U U U U (fun a hf => lays_alloc hT U U zcl) (fun b1 => ?_)
  refine Vm U U (fun fr => Vx hT U U U zln zoc zpk zln (⟨[_], (by (repeat (first | exact Jj | exact Vc | refine Ji Jm ?_))), ?_⟩))
  refine Jc U U U U (fun m => Jf rfl) ?_
  refine Vv (Ja (Jh (Jh (Je (Jb (Jd rfl) U U U (Jb (y_neq U U) U U U (Jb (Jd rfl) U U U ?_)))))))
  all_goals (first | (refine Vh U U U (fun h => ?_) (fun h => ?_) <;> try (first | (exfalso; omega) | exact absurd rfl h)) | (refine Vr U U U (fun h => ?_) (fun h => ?_) <;> try (first | cases h | (exfalso; simp at h; done))) | skip)
  all_goals (first | refine Js U U U U U U ?_ | refine Jp U U U U U ?_ | refine Jt U U U (Wk hT U U U U U zix zix) U U ?_)
  all_goals (first | refine Js U U U U U U ?_ | refine Jp U U U U U ?_ | refine Jt U U U (Jo hT U U U (Rd1.bytesAt (bs := mb) (j := 0) (RdN.rowAll zpk) (by omega) rfl)) U U ?_)
  all_goals (first | refine Js U U U U U U ?_ | refine Jp U U U U U ?_ | refine Jt U U U (y_neq U U) U U ?_)
  all_goals (refine Jb (Wb U U U) U U U ?_)
  all_goals refine Jg (Ja ?_)
  all_goals
   first | apply Jx rfl | apply Vo rfl
   case' ht =>
    intro h
    try (first | exact zom | exact zho h | subst h)
    all_goals
     have hno : nx = none := hnone (fun tx hx => (hfacts tx hx).1) (by simpa using h)
     refine Jh (Je (Jb (Jd rfl) U U U (Jb (Jf rfl) U U U (Jb (Jf rfl) U U U (Jb (Jf rfl) U U U ?_)))))
     refine Jg (Ja (Vn (Vb ?_)))
     refine JE.ret3 (.inl rfl) U U zrv zrv zrv ?_
     first
      | (have zz := hno
         exact ⟨logm lg st L :: row st 205 (scells S d) :: disk d D :: l, fun w q => logm_shut hok (q.sup zsup), _, false, [], rfl, rfl, .inl ⟨hno, rfl⟩⟩)
      | (have zz := hzr
         by_cases heq : mkB tu (nu : Int) (T.take z) = mb
         · have hsome : nx = some (T.take z) := by
            rw [← hnx, ← hT1, ← hN1, ← hTe, ← hN]
            exact nextTx_is hB64 (by rw [hmm]; exact hz) (by omega) (fun i hi => hz0 i (by rw [hN] at hi; exact hi)) (by rw [hN, hTe]; exact hzr) (by rw [hN, hTe, heq, hmm])
           refine ⟨own 5 1 (.slice a (63 * k) c) (63 * k) (ints .u8 T) :: logm lg st L :: row st 205 (scells S d) :: disk d D :: l, fun w q => ?_, _, true, [_], ?_, rfl, .inr ⟨T.take z, _, hsome, rfl, rfl, ⟨a, z, by rw [htl], by rw [htl]; exact hclip2⟩, ⟨hTb.take _, by rw [htl]; omega⟩⟩⟩
           · have s2 := logm_shut (r := own 5 1 (.slice a (63 * k) c) (63 * k) (ints .u8 T) :: row st 205 (scells S d) :: disk d D :: l) hok (q.sup zsup)
             exact s2.sup zsup
           · rw [show decide (mkB tu (nu : Int) (T.take z) = mb) = true from decide_eq_true heq]
         · have hno : nx = none := hnone (fun tx hx => (hfacts tx hx).2.2.2.2.2.2.2) (by rw [← hT1, ← hN1]; exact heq)
           rw [show decide (mkB tu (nu : Int) (T.take z) = mb) = false from decide_eq_false heq]
           exact ⟨logm lg st L :: row st 205 (scells S d) :: disk d D :: l, fun w q => logm_shut hok (q.sup zsup), _, false, [], rfl, rfl, .inl ⟨hno, rfl⟩⟩)
   case' hf =>
    intro h
    try (first | exact zom | exact zho h | subst h)
    all_goals
     refine Vd ?_
  all_goals refine Ja ?_
  all_goals
   refine Jh ?_
   obtain ⟨bs, hbs⟩ : ∃ bs, mb.drop 1 = bs := ⟨_, rfl⟩
   have hbsl : bs.length = 63 := by rw [← hbs, List.length_drop, hmb]
   have hd9 : (bs.drop 8).take 4 = (mb.drop 9).take 4 := by rw [← hbs, List.drop_drop]
   have hd13 : (bs.drop 12).take 4 = (mb.drop 13).take 4 := by rw [← hbs, List.drop_drop]
   have hor : ∀ l' p cap, InL l' p 63 cap (ints .u8 bs) → Fc prog E 115 [.slice p 63 cap].toArray l' (fun v l'' => ∃ br g c, v = .pointer (some ⟨br, 0, none⟩) ∧ l'' = row br 257 (rcells (some ⟨g, 0, none⟩) bs.length c 0) :: own 5 1 (.slice (some ⟨g, 0, none⟩) bs.length c) bs.length (ints .u8 bs) :: l') := fun l' p cap h => by
    have q := octread_spec E p cap bs l' (by rwa [hbsl]) (by omega) (by omega)
    rw [hbsl] at q ⊢
    exact q
   have hob : ∀ bb l', (∃ r, Pick l' (row bb 202 (encB mb)) r) → InL l' (some ⟨bb, 0 + 1 * 1, none⟩) 63 63 (ints .u8 bs) := fun bb l' ⟨r, hp⟩ => ⟨Nat.le_refl _, by decide, .inl ⟨bb, 1, rfl, fun m => RdN.row (n := 63) (Vp m hp) (by
    have e : (encB mb).drop 1 = ints .u8 bs := by rw [← hbs]; simp [encB, ints]
    rw [e, List.take_of_length_le (by simp [ints, hbsl])])⟩⟩
   refine Je ?_
   refine Jb (y_slice_arr hT U U U U (.inr ⟨_, _, _, rfl, rfl, zcl⟩) (.inl ⟨rfl, rfl⟩) zix zix) U U U ?_
   refine Jl rfl (Jw e115 U U (hor _ _ _ (hob _ _ ⟨_, by (repeat (first | exact Jm | apply Jz | apply Vp))⟩)) ?_)
   rintro _ _ ⟨br, rg, rc, rfl, rfl⟩
   refine Jb (Jf rfl) U U U ?_
   refine Jg (Ja (Jh (Je (Jb (Jd rfl) U U U ?_))))
   refine Jl rfl (Jw e158 U U (Vw (Ji zpk (Ji zpk Jj)) (u64_spec E br rg rc 0 bs _ (by omega) (by omega))) ?_)
   rintro _ _ ⟨rfl, rfl⟩
   refine Jb (Jd rfl) U U U ?_
   refine Jl rfl (Jw e159 U U (Vw (Ji zpk (Ji zpk Jj)) (u32_spec E br rg rc 8 bs _ (by omega) (by omega))) ?_)
   rintro _ _ ⟨rfl, rfl⟩
   refine Jb (Jd rfl) U U U ?_
   refine Jl rfl (Jw e159 U U (Vw (Ji zpk (Ji zpk Jj)) (u32_spec E br rg rc 12 bs _ (by omega) (by omega))) ?_)
   rintro _ _ ⟨rfl, rfl⟩
   refine Jb (y_conv (m := (z : Int)) hT U U U U (by
    rw [hd13, show (leG ((mb.drop 13).take 4) 4).toNat = z from hz, BitVec.toNat_ofInt]
    rw [show (((z : Int) % ((2 ^ 32 : Nat) : Int)).toNat : Int) = (z : Int) by omega]
    exact Wm (by omega) (by omega))) U U U ?_
   refine Jb (Jf rfl) U U U (Jb (Jf rfl) U U U (Jb (Jf rfl) U U U ?_))
   refine Jg (Ja (Jh (Jh ?_)))
   obtain ⟨tu, htu⟩ : ∃ tu, leG ((mb.drop 1).take 8) 8 = tu := ⟨_, rfl⟩
   have htb : leG ((bs.drop 0).take 8) 8 = tu := by rw [List.drop_zero, ← hbs]; exact htu
   rw [htb]
   obtain ⟨nu, hnu⟩ : ∃ nu, (leG ((mb.drop 9).take 4) 4).toNat = nu := ⟨_, rfl⟩
   rw [hnu] at hn32
   rw [hd9, hnu]
   have hWn : IntKind.i64.wrap ((BitVec.ofInt 32 (nu : Int)).toNat : Int) = (nu : Int) := by
    rw [BitVec.toNat_ofInt, show (((nu : Int) % ((2 ^ 32 : Nat) : Int)).toNat : Int) = (nu : Int) by omega]
    exact Wm (by omega) (by omega)
   by_cases hT1 : tu = S.turn
   by_cases hN1 : nu = L.txs.length
   all_goals
    refine Vz _ _ [(0, .q), (1, .q), (2, .q), (3, .q), (4, .q), (5, .q), (6, .q), (7, .q), (8, .q), (9, .q), (10, .q), (11, .q), (12, .q), (13, .q), (14, .q), (15, .q), (16, .q), (17, .q), (18, .q), (19, .q), (20, .q), (21, .q), (22, .q), (23, .q), (24, .q), (25, .q), (26, .q), (27, .q), (28, .q), (29, .q), (30, .q), (31, .q)] mixed (by kernel_rfl) (Jj) ?_
    refine zqm U U U U U (zqm U U U U U ?_)
    refine Jc U U U U (fun m => znc) ?_
    refine Jc U U U U (fun m => Jk hT U U U U U U) ?_
    refine Jc U U U U (fun m => Jo hT U U U zrda) ?_
    refine Jc U U U U (fun m => y_callF e160 rfl (Fc.still (p := [row st 205 (scells S d), disk d D]) (Ji (Vp m zpk) (Ji (Vp m zpk) Jj)) (turn_spec E st d S D _ hh))) ?_
    first | refine Jc U U U U (fun m => y_neqB U U (decide_eq_false (fun e => e (by rw [hT1])))) ?_ | refine Jc U U U U (fun m => y_neqB U U (decide_eq_true (fun e => hT1 (BitVec.eq_of_toNat_eq (by omega))))) ?_
    refine zqm U U U U U ?_
    all_goals (first | refine Jy U U U U U U U ?_ | refine JM.gskipU U U U U U U ?_ | refine Jr U U U U U U (fun m => Jd rfl) ?_)
    first | refine Jy U U U U U U U ?_ | refine JM.gskipU U U U U U U ?_ | refine Jr U U U U U U (fun m => y_conv (m := (nu : Int)) hT U U U U hWn) ?_
    all_goals (first | refine Jy U U U U U U U ?_ | refine JM.gskipU U U U U U U ?_ | refine Jr U U U U U U (fun m => Jd rfl) ?_)
    all_goals (first | refine Jy U U U U U U U ?_ | refine JM.gskipU U U U U U U ?_ | refine Jr U U U U U U (fun m => znc) ?_)
    all_goals (first | refine Jy U U U U U U U ?_ | refine JM.gskipU U U U U U U ?_ | refine Jr U U U U U U (fun m => Jk hT U U U U U U) ?_)
    all_goals (first | refine Jy U U U U U U U ?_ | refine JM.gskipU U U U U U U ?_ | refine Jr U U U U U U (fun m => Jo hT U U U zrda) ?_)
    all_goals (first | refine Jy U U U U U U U ?_ | refine JM.gskipU U U U U U U ?_ | refine Jr U U U U U U (fun m => Vf hT U U U) ?_)
    first | refine Jy U U U U U U U ?_ | refine JM.gskipU U U U U U U ?_ | refine Jr U U U U U U (fun m => y_neqB U U (decide_eq_false (fun e => e (by rw [hN1])))) ?_ | refine Jr U U U U U U (fun m => y_neqB U U (decide_eq_true (fun e => hN1 (by omega)))) ?_
    all_goals refine Jc U U U U (fun m => Wb U U U) ?_
    all_goals refine zqm U U U U U ?_
    all_goals (first | refine Jy U U U U U U U ?_ | refine JM.gskipU U U U U U U ?_ | refine Jr U U U U U U (fun m => Jd rfl) ?_)
    all_goals (first | refine Jy U U U U U U U ?_ | refine JM.gskipU U U U U U U ?_ | refine Jr U U U U U U (fun m => y_callF e113 rfl (need_spec E z (by omega) _)) ?_)
    all_goals (first | refine Jy U U U U U U U ?_ | refine JM.gskipU U U U U U U ?_ | refine Jr U U U U U U (fun m => Jd rfl) ?_)
    all_goals (first | refine Jy U U U U U U U ?_ | refine JM.gskipU U U U U U U ?_ | refine Jr U U U U U U (fun m => znc) ?_)
    all_goals (first | refine Jy U U U U U U U ?_ | refine JM.gskipU U U U U U U ?_ | refine Jr U U U U U U (fun m => Jk hT U U U U U U) ?_)
    all_goals (first | refine Jy U U U U U U U ?_ | refine JM.gskipU U U U U U U ?_ | refine Jr U U U U U U (fun m => Jo hT U U U zrda) ?_)
    all_goals (first | refine Jy U U U U U U U ?_ | refine JM.gskipU U U U U U U ?_ | refine Jr U U U U U U (fun m => y_callF e156 rfl (Fc.still (p := [row st 205 (scells S d), disk d D]) (Ji (Vp m zpk) (Ji (Vp m zpk) Jj)) (slots_spec E st d S D _ hh h2))) ?_)
    all_goals (first | refine Jy U U U U U U U ?_ | refine JM.gskipU U U U U U U ?_ | refine Jr U U U U U U (fun m => Jd rfl) ?_)
    all_goals (first | refine Jy U U U U U U U ?_ | refine JM.gskipU U U U U U U ?_ | refine Jr U U U U U U (fun m => znc) ?_)
    all_goals (first | refine Jy U U U U U U U ?_ | refine JM.gskipU U U U U U U ?_ | refine Jr U U U U U U (fun m => Jk hT U U U U U U) ?_)
    all_goals (first | refine Jy U U U U U U U ?_ | refine JM.gskipU U U U U U U ?_ | refine Jr U U U U U U (fun m => Jo hT U U U zrda) ?_)
    all_goals (first | refine Jy U U U U U U U ?_ | refine JM.gskipU U U U U U U ?_ | refine Jr U U U U U U (fun m => y_sub U U zwr) ?_)
    all_goals (first | refine Jy U U U U U U U ?_ | refine JM.gskipU U U U U U U ?_ | refine Jr U U U U U U (fun m => y_gtr U U) ?_)
    all_goals refine Jc U U U U (fun m => Wb U U U) ?_
    all_goals refine Vv ?_
   all_goals refine Ja ?_
   all_goals
    first | apply Jx rfl | apply Vo rfl
    case' ht =>
     intro h
     try (first | exact zom | exact zho h | subst h)
     all_goals
      have hno : nx = none := by
       first
        | exact hnone (fun tx hx => (hfacts tx hx).2.1) (by rw [htu]; exact hT1)
        | exact hnone (fun tx hx => (hfacts tx hx).2.2.1) (by rw [hnu]; exact hN1)
        | exact hnone (fun tx hx => (hfacts tx hx).2.2.2.1) (by rw [hBl]; first | omega | (have h' := h; simp at h'; omega))
      refine Jh (Je (Jb (Jf rfl) U U U (Jb (Jf rfl) U U U (Jb (Jf rfl) U U U ?_))))
      refine Jg (Ja (Vn (Vb ?_)))
      refine JE.ret3 (.inl rfl) U U zrv zrv zrv ?_
      first
       | (have zz := hno
          exact ⟨logm lg st L :: row st 205 (scells S d) :: disk d D :: l, fun w q => logm_shut hok (q.sup zsup), _, false, [], rfl, rfl, .inl ⟨hno, rfl⟩⟩)
       | (have zz := hzr
          by_cases heq : mkB tu (nu : Int) (T.take z) = mb
          · have hsome : nx = some (T.take z) := by
             rw [← hnx, ← hT1, ← hN1, ← hTe, ← hN]
             exact nextTx_is hB64 (by rw [hmm]; exact hz) (by omega) (fun i hi => hz0 i (by rw [hN] at hi; exact hi)) (by rw [hN, hTe]; exact hzr) (by rw [hN, hTe, heq, hmm])
            refine ⟨own 5 1 (.slice a (63 * k) c) (63 * k) (ints .u8 T) :: logm lg st L :: row st 205 (scells S d) :: disk d D :: l, fun w q => ?_, _, true, [_], ?_, rfl, .inr ⟨T.take z, _, hsome, rfl, rfl, ⟨a, z, by rw [htl], by rw [htl]; exact hclip2⟩, ⟨hTb.take _, by rw [htl]; omega⟩⟩⟩
            · have s2 := logm_shut (r := own 5 1 (.slice a (63 * k) c) (63 * k) (ints .u8 T) :: row st 205 (scells S d) :: disk d D :: l) hok (q.sup zsup)
              exact s2.sup zsup
            · rw [show decide (mkB tu (nu : Int) (T.take z) = mb) = true from decide_eq_true heq]
          · have hno : nx = none := hnone (fun tx hx => (hfacts tx hx).2.2.2.2.2.2.2) (by rw [← hT1, ← hN1]; exact heq)
            rw [show decide (mkB tu (nu : Int) (T.take z) = mb) = false from decide_eq_false heq]
            exact ⟨logm lg st L :: row st 205 (scells S d) :: disk d D :: l, fun w q => logm_shut hok (q.sup zsup), _, false, [], rfl, rfl, .inl ⟨hno, rfl⟩⟩)
    case' hf =>
     intro h
     try (first | exact zom | exact zho h | subst h)
     all_goals
      have hfit : L.used + needN z ≤ D.slots := by first | omega | (have h' := h; simp at h'; omega)
      obtain ⟨N, hN⟩ : ∃ N, pieceN z = N := ⟨_, rfl⟩
      have hNn : needN z = N + 1 := by rw [← hN]; unfold needN pieceN; omega
      have hk48 : ∀ bb l', (∃ r, Pick l' (row bb 202 (encB mb)) r) → InL l' (some ⟨bb, 0 + 0 * 1, none⟩) 48 64 (ints .u8 (mb.take 48)) := fun bb l' ⟨r, hp⟩ => ⟨by decide, by decide, .inl ⟨bb, 0, rfl, fun m => RdN.row (n := 48) (Vp m hp) (by simp [encB, ints])⟩⟩
      have hd48 : ∀ bb l', (∃ r, Pick l' (row bb 202 (encB mb)) r) → InL l' (some ⟨bb, 0 + 48 * 1, none⟩) 16 16 (ints .u8 (mb.drop 48)) := fun bb l' ⟨r, hp⟩ => ⟨by decide, by decide, .inl ⟨bb, 48, rfl, fun m => RdN.row (n := 16) (Vp m hp) (by simp [encB, ints, hmb, List.take_of_length_le])⟩⟩
      have hkey : ∀ bb l', (∃ r, Pick l' (row bb 120 (ints .u8 (sha (mb.take 48)))) r) → InL l' (some ⟨bb, 0 + 0 * 1, none⟩) 16 32 (ints .u8 ((sha (mb.take 48)).take 16)) := fun bb l' ⟨r, hp⟩ => ⟨by decide, by decide, .inl ⟨bb, 0, rfl, fun m => RdN.row (n := 16) (Vp m hp) (by simp [ints])⟩⟩
      have hsl32 : (ints .u8 (sha (mb.take 48))).length = 32 := by rw [ints, List.length_map, sha_length]
      refine Vd ?_
   all_goals refine Ja ?_
   all_goals
    refine Jh (Jh (Je ?_))
    refine Jb (y_slice_arr hT U U U U (.inl ⟨rfl, rfl⟩) (.inr ⟨_, _, _, rfl, rfl, zcl⟩) zix zix) U U U ?_
    refine Jl rfl (Jw e148 U U (shaSum_at E _ 64 48 (mb.take 48) _ (by simp [hmb]) (hk48 _ _ ⟨_, by (repeat (first | exact Jm | apply Jz | apply Vp))⟩) (by decide)) ?_)
    rintro _ _ ⟨rfl, rfl⟩
    refine Jl rfl (Wf hT U U zcl rfl (fun b8 => ?_))
    refine Jl rfl (Vx hT U U U zln zoc zpk zln ?_)
    refine Jg (Ja (Jh ?_))
    refine Vz _ _ [(0, .q), (1, .q), (2, .q), (3, .q)] mixed (by kernel_rfl) (Jj) ?_
    refine Jc U U U U (fun m => y_slice_arr hT U U U U (.inl ⟨rfl, rfl⟩) (.inr ⟨_, _, _, rfl, rfl, zcl⟩) zix zix) ?_
    refine Jc U U U U (fun m => y_slice_arr hT U U U U (.inr ⟨_, _, _, rfl, rfl, zcl⟩) (.inl ⟨rfl, rfl⟩) zix zix) ?_
    refine Jc U U U U (fun m => y_callF e19 rfl (equal_at E _ _ 32 16 16 16 ((sha (mb.take 48)).take 16) (mb.drop 48) _ (sha16 _) (by simp [hmb]) ((Bytes.sha _).take _) (hmB.drop _) (hkey _ _ ⟨_, Vp m zpk⟩) (hd48 _ _ ⟨_, Vp m zpk⟩) (by decide) (by decide))) ?_
    refine Jc U U U U (fun m => y_not rfl) ?_
    refine Vv (Ja ?_)
    first | apply Jx rfl | apply Vo rfl
    case' ht =>
     intro h
     try (first | exact zom | exact zho h | subst h)
     all_goals
      have hno : nx = none := hnone (fun tx hx => (hfacts tx hx).2.2.2.2.1.symm) (by simpa using h)
      refine Jh (Je (Jb (Jf rfl) U U U (Jb (Jf rfl) U U U (Jb (Jf rfl) U U U ?_))))
      refine Jg (Ja (Vn (Vb ?_)))
      refine JE.ret3 (.inl rfl) U U zrv zrv zrv ?_
      first
       | (have zz := hno
          exact ⟨logm lg st L :: row st 205 (scells S d) :: disk d D :: l, fun w q => logm_shut hok (q.sup zsup), _, false, [], rfl, rfl, .inl ⟨hno, rfl⟩⟩)
       | (have zz := hzr
          by_cases heq : mkB tu (nu : Int) (T.take z) = mb
          · have hsome : nx = some (T.take z) := by
             rw [← hnx, ← hT1, ← hN1, ← hTe, ← hN]
             exact nextTx_is hB64 (by rw [hmm]; exact hz) (by omega) (fun i hi => hz0 i (by rw [hN] at hi; exact hi)) (by rw [hN, hTe]; exact hzr) (by rw [hN, hTe, heq, hmm])
            refine ⟨own 5 1 (.slice a (63 * k) c) (63 * k) (ints .u8 T) :: logm lg st L :: row st 205 (scells S d) :: disk d D :: l, fun w q => ?_, _, true, [_], ?_, rfl, .inr ⟨T.take z, _, hsome, rfl, rfl, ⟨a, z, by rw [htl], by rw [htl]; exact hclip2⟩, ⟨hTb.take _, by rw [htl]; omega⟩⟩⟩
            · have s2 := logm_shut (r := own 5 1 (.slice a (63 * k) c) (63 * k) (ints .u8 T) :: row st 205 (scells S d) :: disk d D :: l) hok (q.sup zsup)
              exact s2.sup zsup
            · rw [show decide (mkB tu (nu : Int) (T.take z) = mb) = true from decide_eq_true heq]
          · have hno : nx = none := hnone (fun tx hx => (hfacts tx hx).2.2.2.2.2.2.2) (by rw [← hT1, ← hN1]; exact heq)
            rw [show decide (mkB tu (nu : Int) (T.take z) = mb) = false from decide_eq_false heq]
            exact ⟨logm lg st L :: row st 205 (scells S d) :: disk d D :: l, fun w q => logm_shut hok (q.sup zsup), _, false, [], rfl, rfl, .inl ⟨hno, rfl⟩⟩)
    case' hf =>
     intro h
     try (first | exact zom | exact zho h | subst h)
     all_goals
      have hsh : (sha (mb.take 48)).take 16 = mb.drop 48 := by simpa using h
      refine Vd ?_
    all_goals refine Ja ?_
    all_goals
     refine Jh (Je (Jb (Jf rfl) U U U ?_))
     refine Jg (Ja (Jh (Jh (Je (Jb (Jf rfl) U U U ?_)))))
     refine Jg (Ja (Ve ?_))
     have cslot2 : ∀ (k : Nat) l, k < N → Fc prog E 157 [.pointer (some ⟨st, 0, none⟩), .int .i64 ((L.used : Int) + ((k : Int) + 1))].toArray (row st 205 (scells S d) :: disk d D :: l) (fun v l' => v = .tuple #[.agg (encB (B.getD (L.used + 1 + k) [])).toArray, .int .i64 0] ∧ l' = row st 205 (scells S d) :: disk d D :: l) := fun k l hk => by
      have q := cslot (L.used + 1 + k) l (by omega)
      rwa [show ((L.used + 1 + k : Nat) : Int) = (L.used : Int) + ((k : Int) + 1) by omega] at q
     have hTl : ∀ k, k ≤ N → (tails B L.used k).length = 63 * k := fun k hk => tails_length hB64 _ _ (by omega)
     have hTb : ∀ k, k ≤ N → Bytes (tails B L.used k) := fun k => by
      induction k with
      | zero => exact fun _ => Bytes.nil
      | succ k ih => exact fun hk => (ih (by omega)).append ((hBb _ (by omega)).drop _)
     refine Wn (α := Nat × Option Addr × Nat) (fun s => s.1 ≤ N ∧ ∀ i, i < s.1 → (B.getD (L.used + 1 + i) []).getD 0 0 = 0) (fun s => [(0, .pointer (some ⟨lg, 0, none⟩)), (5, .pointer (some ⟨b1, 0, none⟩)), (8, Q tu), (9, W (BitVec.ofInt 32 (nu : Int))), (10, .int .i64 z), (12, .slice s.2.1 (63 * s.1) s.2.2), (13, .int .i64 ((s.1 : Int) + 1))]) (fun s => own 5 1 (.slice s.2.1 (63 * s.1) s.2.2) (63 * s.1) (ints .u8 (tails B L.used s.1)) :: row b1 202 (encB mb) :: row lg 208 (lcells st sv (.slice ta L.txs.length tc) L) :: own 41 1 (.slice ta L.txs.length tc) L.txs.length vals :: K :: row st 205 (scells S d) :: disk d D :: l) (fun s => N - s.1) (0, none, 0) ⟨Nat.zero_le _, fun i h => absurd h (by dsimp only; omega)⟩ ⟨U, U, U, U, U, U, U, trivial⟩ (fun w h => h.own_nil.sup zsup) ?_
     rintro ⟨k, a, c⟩ ⟨hk, hz0⟩
     dsimp only at hk hz0 ⊢
     have hTk := hTl k hk
     refine Jh (Jh (Je (Jb (Jd rfl) U U U (Jb (Jd rfl) U U U ?_))))
     refine Jl rfl (Jw e113 U U (need_spec E z (by omega) _) ?_)
     rintro _ _ ⟨rfl, rfl⟩
     refine Jb (y_lss U U) U U U ?_
     refine Jg (Ja ?_)
     first | apply Jx rfl | apply Vo rfl
     case' ht =>
      intro h
      try (first | exact zom | exact zho h | subst h)
      all_goals
       refine Vd ?_
     case' hf =>
      intro h
      try (first | exact zom | exact zho h | subst h)
      all_goals
       refine Wl (Jv (Jv (Vl (Ja (Jh (Jh ?_))))))
       obtain rfl : k = N := by omega
       have hTb := hTb k (Nat.le_refl _)
       obtain ⟨T, hTe⟩ : ∃ T, tails B L.used k = T := ⟨_, rfl⟩
       rw [hTe] at hTk hTb ⊢
       rw [hN, hTe] at hfacts
       have hzN : z ≤ 63 * k := by rw [← hN]; unfold pieceN; omega
       have hkb : k ≤ 512 := by omega
       refine J.fact (p := OwnAt a (63 * k) c (ints .u8 T)) (fun w q => Vu (q.pick zpk)) fun oT => ?_
       have hTc := oT.le
       have hTin : InL [own 5 1 (.slice a (63 * k) c) (63 * k) (ints .u8 T)] a (63 * k) c (ints .u8 T) := oT.inl Jm
       obtain ⟨b9, off9, hb9, hin9⟩ := InL.part (lo := z) (hi := 63 * k) (k := 1) hTin hzN (Nat.le_refl _) (by simp [ints, hTk])
       have e9c : ((ints .u8 T).drop (z * 1)).take ((63 * k - z) * 1) = ints .u8 (T.drop z) := by
        rw [Nat.mul_one, Nat.mul_one, List.take_of_length_le (by simp [ints, hTk])]
        simp [ints]
       rw [e9c] at hin9
       have e9 : (if c = 0 then a else some ⟨b9, off9 + 0 * i5.size, none⟩) = a := by
        split
        · rfl
        · rcases hb9 with e | e
          · rw [e]; simp
          · omega
       have htl : (T.take z).length = z := by rw [List.length_take]; omega
       have hclip := InL.clip hTin z hzN
       have hclip2 : InL [own 5 1 (.slice a (63 * k) c) (63 * k) (ints .u8 T)] a z z (ints .u8 (T.take z)) := by
        rw [show ints .u8 (T.take z) = (ints .u8 T).take z by simp [ints, List.map_take]]
        exact hclip
       refine Je (Jb (Jd rfl) U U U (Jb (Jd rfl) U U U ?_))
       refine Jb (y_slice (b := b9) (off := off9) (lo := z) (hi := 63 * k) hT U U U U (.inr ⟨_, _, _, rfl, rfl, rfl⟩) (.inl ⟨rfl, rfl⟩) hzN hTc hTc hb9) U U U ?_
       refine Jl rfl (Jw e161 U U (zero_spec E _ (c - z) (63 * k - z) (T.drop z) _ (by rw [List.length_drop, hTk]) (hTb.drop _) (InL.kept hin9 zpk) (by omega)) ?_)
       rintro _ _ ⟨rfl, rfl⟩
       refine Jb (y_not rfl) U U U ?_
       refine Jg (Ja ?_)
       first | apply Jx rfl | apply Vo rfl
       case' ht =>
        intro h
        try (first | exact zom | exact zho h | subst h)
        all_goals
         have hno : nx = none := hnone (fun tx hx => (hfacts tx hx).2.2.2.2.2.2.1) (by simpa using h)
         refine Jh (Je (Jb (Jf rfl) U U U (Jb (Jf rfl) U U U (Jb (Jf rfl) U U U ?_))))
         refine Jg (Ja (Vn (Vb ?_)))
         refine JE.ret3 (.inl rfl) U U zrv zrv zrv ?_
         first
          | (have zz := hno
             exact ⟨logm lg st L :: row st 205 (scells S d) :: disk d D :: l, fun w q => logm_shut hok (q.sup zsup), _, false, [], rfl, rfl, .inl ⟨hno, rfl⟩⟩)
          | (have zz := hzr
             by_cases heq : mkB tu (nu : Int) (T.take z) = mb
             · have hsome : nx = some (T.take z) := by
                rw [← hnx, ← hT1, ← hN1, ← hTe, ← hN]
                exact nextTx_is hB64 (by rw [hmm]; exact hz) (by omega) (fun i hi => hz0 i (by rw [hN] at hi; exact hi)) (by rw [hN, hTe]; exact hzr) (by rw [hN, hTe, heq, hmm])
               refine ⟨own 5 1 (.slice a (63 * k) c) (63 * k) (ints .u8 T) :: logm lg st L :: row st 205 (scells S d) :: disk d D :: l, fun w q => ?_, _, true, [_], ?_, rfl, .inr ⟨T.take z, _, hsome, rfl, rfl, ⟨a, z, by rw [htl], by rw [htl]; exact hclip2⟩, ⟨hTb.take _, by rw [htl]; omega⟩⟩⟩
               · have s2 := logm_shut (r := own 5 1 (.slice a (63 * k) c) (63 * k) (ints .u8 T) :: row st 205 (scells S d) :: disk d D :: l) hok (q.sup zsup)
                 exact s2.sup zsup
               · rw [show decide (mkB tu (nu : Int) (T.take z) = mb) = true from decide_eq_true heq]
             · have hno : nx = none := hnone (fun tx hx => (hfacts tx hx).2.2.2.2.2.2.2) (by rw [← hT1, ← hN1]; exact heq)
               rw [show decide (mkB tu (nu : Int) (T.take z) = mb) = false from decide_eq_false heq]
               exact ⟨logm lg st L :: row st 205 (scells S d) :: disk d D :: l, fun w q => logm_shut hok (q.sup zsup), _, false, [], rfl, rfl, .inl ⟨hno, rfl⟩⟩)
       case' hf =>
        intro h
        try (first | exact zom | exact zho h | subst h)
        all_goals
         have hzr : T.drop z = List.replicate (63 * k - z) 0 := by simpa using h
         refine Vd ?_
       all_goals refine Ja ?_
       all_goals
        refine Jh (Je (Jb (Jd rfl) U U U (Jb (Jd rfl) U U U ?_)))
        refine Jb (y_slice (b := b9) (off := off9) (lo := 0) (hi := z) hT U U U U (.inl ⟨rfl, rfl⟩) (.inr ⟨_, _, _, rfl, rfl, rfl⟩) (by omega) (by omega) hTc hb9) U U U ?_
        rw [e9]
        refine Jl rfl (Jw e162 U U (clip_spec E a z c _ (by omega) (hb9.imp (fun e => ⟨_, _, e⟩) id) oT.most) ?_)
        rintro _ _ ⟨rfl, rfl⟩
        refine Jb (Jf rfl) U U U ?_
        refine Jg (Ja (Jh ?_))
        refine Vz _ _ [(0, .q), (1, .q), (2, .q), (3, .q), (4, .q), (5, .q), (6, .q), (7, .q), (8, .q), (9, .q), (10, .q)] mixed (by kernel_rfl) (Jj) ?_
        refine zqm U U U U U (zqm U U U U U (zqm U U U U U (Jc U U U U (fun m => y_conv (m := (nu : Int)) hT U U U U hWn) (zqm U U U U U ?_))))
        refine Jc U U U U (fun m => y_callF e163 rfl (mark_spec E tu (nu : Int) a z z (T.take z) _ htl (by omega) (InL.kept hclip2 (Vp m zpk)))) ?_
        refine Jc U U U U (fun m => We hT U U U zrdna zln) ?_
        refine Jc U U U U (fun m => y_arr_eq (xs := mkB tu (nu : Int) (T.take z)) (ys := mb) hT U U U U U U U (mkB_length _ _ _) hmb) (Jc U U U U (fun m => Jf rfl) (Jc U U U U (fun m => Jf rfl) (Jc U U U U (fun m => Jf rfl) ?_)))
        refine Vv (Ja (Vn ?_))
        refine JE.ret3 (.inl rfl) U U zrv zrv zrv ?_
        first
         | (have zz := hno
            exact ⟨logm lg st L :: row st 205 (scells S d) :: disk d D :: l, fun w q => logm_shut hok (q.sup zsup), _, false, [], rfl, rfl, .inl ⟨hno, rfl⟩⟩)
         | (have zz := hzr
            by_cases heq : mkB tu (nu : Int) (T.take z) = mb
            · have hsome : nx = some (T.take z) := by
               rw [← hnx, ← hT1, ← hN1, ← hTe, ← hN]
               exact nextTx_is hB64 (by rw [hmm]; exact hz) (by omega) (fun i hi => hz0 i (by rw [hN] at hi; exact hi)) (by rw [hN, hTe]; exact hzr) (by rw [hN, hTe, heq, hmm])
              refine ⟨own 5 1 (.slice a (63 * k) c) (63 * k) (ints .u8 T) :: logm lg st L :: row st 205 (scells S d) :: disk d D :: l, fun w q => ?_, _, true, [_], ?_, rfl, .inr ⟨T.take z, _, hsome, rfl, rfl, ⟨a, z, by rw [htl], by rw [htl]; exact hclip2⟩, ⟨hTb.take _, by rw [htl]; omega⟩⟩⟩
              · have s2 := logm_shut (r := own 5 1 (.slice a (63 * k) c) (63 * k) (ints .u8 T) :: row st 205 (scells S d) :: disk d D :: l) hok (q.sup zsup)
                exact s2.sup zsup
              · rw [show decide (mkB tu (nu : Int) (T.take z) = mb) = true from decide_eq_true heq]
            · have hno : nx = none := hnone (fun tx hx => (hfacts tx hx).2.2.2.2.2.2.2) (by rw [← hT1, ← hN1]; exact heq)
              rw [show decide (mkB tu (nu : Int) (T.take z) = mb) = false from decide_eq_false heq]
              exact ⟨logm lg st L :: row st 205 (scells S d) :: disk d D :: l, fun w q => logm_shut hok (q.sup zsup), _, false, [], rfl, rfl, .inl ⟨hno, rfl⟩⟩)
     all_goals refine Ja ?_
     all_goals
      refine Jh (Ve (Jh ?_))
      refine Vz _ _ [(0, .q), (1, .q), (2, .q), (3, .q), (4, .q), (5, .q), (6, .q), (7, .q), (8, .q), (9, .q), (10, .q), (11, .q), (12, .q), (13, .q), (14, .n), (15, .l), (16, .q)] mixed (by kernel_rfl) (Jj) ?_
      have hlk : k < N := by omega
      obtain ⟨X, hX⟩ : ∃ X, B.getD (L.used + 1 + k) [] = X := ⟨_, rfl⟩
      have hXl : X.length = 64 := by rw [← hX]; exact getD_mem hB64 (by omega)
      have hXL : (encB X).length = 64 := (encB_length _).trans hXl
      have cslot2 := fun l => cslot2 k l hlk
      rw [hX] at cslot2
      have htn : tails B L.used (k + 1) = tails B L.used k ++ X.drop 1 := by rw [tails, hX]
      have hx1 : ∀ bb l', (∃ r, Pick l' (row bb 202 (encB X)) r) → InL l' (some ⟨bb, 0 + 1 * 1, none⟩) 63 63 (ints .u8 (X.drop 1)) := fun bb l' ⟨r, hp⟩ => ⟨by decide, by decide, .inl ⟨bb, 1, rfl, fun m => RdN.row (n := 63) (Vp m hp) (by simp [encB, ints, hXl, List.take_of_length_le])⟩⟩
      refine zqm U U U U U ?_
      refine Jc U U U U (fun m => znc) ?_
      refine Jc U U U U (fun m => Jk hT U U U U U U) ?_
      refine Jc U U U U (fun m => Jo hT U U U zrda) ?_
      refine zqm U U U U U ?_
      refine Jc U U U U (fun m => znc) ?_
      refine Jc U U U U (fun m => Jk hT U U U U U U) ?_
      refine Jc U U U U (fun m => Jo hT U U U zrda) ?_
      refine zqm U U U U U ?_
      refine Jc U U U U (fun m => Wa U U zwr) ?_
      refine Jc U U U U (fun m => y_callF e157 rfl (Fc.still (p := [row st 205 (scells S d), disk d D]) (Ji (Vp m zpk) (Ji (Vp m zpk) Jj)) (cslot2 _))) ?_
      refine zqm U U U U U (Jc U U U U (fun m => Vg U U) (Jc U U U U (fun m => Vg U U) ?_))
      refine JM.lay U U U U (fun a hf => lays_alloc hT U U zcl) (fun bx => ?_)
      refine Vm U U (fun fr => Vx hT U U U zln zoc zpk zln (⟨[_], (by (repeat (first | exact Jj | exact Vc | refine Ji Jm ?_))), ?_⟩))
      refine Jc U U U U (fun m => Jf rfl) ?_
      refine Vv (Ja (Jh (Jh (Je (Jb (Jd rfl) U U U (Jb (y_neq U U) U U U ?_))))))
      refine Jg (Ja ?_)
      refine Vk rfl zbl ?_
      refine Vd (Ja (Jh (Je (Jb (Jd rfl) U U U ?_))))
      refine Jb (y_slice_arr hT U U U U (.inr ⟨_, _, _, rfl, rfl, zcl⟩) (.inl ⟨rfl, rfl⟩) zix zix) U U U ?_
      refine Jl rfl (l_appendIn (nn := 63 * k) (m := 63) hT U U U U U U U U zpk (hx1 _ _ ⟨_, by (repeat (first | exact Jm | apply Jz | apply Vp))⟩) (by simp [ints, hXl]; rfl) (ints_one _ _) (by rw [show i5.bytes = 1 from rfl]; omega) (by omega) rfl (fun na nc hnc => ?_))
      refine Jb (Jf rfl) U U U ?_
      refine Jg (Ja (Jh (Je ?_)))
      refine Jb (Wk hT U U U U U zix zix) U U U ?_
      refine Jb (Jo hT U U U (Rd1.bytesAt (bs := X) (j := 0) (RdN.rowAll zpk) (by omega) rfl)) U U U ?_
      refine Jb (y_neq U U) U U U ?_
      refine Jg (Ja ?_)
      first | apply Jx rfl | apply Vo rfl
      case' ht =>
       intro h
       try (first | exact zom | exact zho h | subst h)
       all_goals
        have hno : nx = none := hnone (fun tx hx => (hfacts tx hx).2.2.2.2.2.1 k (by rw [hN]; exact hlk)) (by rw [hX]; simpa using h)
        refine Jh (Je (Jb (Jf rfl) U U U (Jb (Jf rfl) U U U (Jb (Jf rfl) U U U ?_))))
        refine Jg (Ja (Vn (Vj (Vb (Vb (Vj (Vb ?_)))))))
        refine JE.ret3 (.inl rfl) U U zrv zrv zrv ?_
        first
         | (have zz := hno
            exact ⟨logm lg st L :: row st 205 (scells S d) :: disk d D :: l, fun w q => logm_shut hok (q.sup zsup), _, false, [], rfl, rfl, .inl ⟨hno, rfl⟩⟩)
         | (have zz := hzr
            by_cases heq : mkB tu (nu : Int) (T.take z) = mb
            · have hsome : nx = some (T.take z) := by
               rw [← hnx, ← hT1, ← hN1, ← hTe, ← hN]
               exact nextTx_is hB64 (by rw [hmm]; exact hz) (by omega) (fun i hi => hz0 i (by rw [hN] at hi; exact hi)) (by rw [hN, hTe]; exact hzr) (by rw [hN, hTe, heq, hmm])
              refine ⟨own 5 1 (.slice a (63 * k) c) (63 * k) (ints .u8 T) :: logm lg st L :: row st 205 (scells S d) :: disk d D :: l, fun w q => ?_, _, true, [_], ?_, rfl, .inr ⟨T.take z, _, hsome, rfl, rfl, ⟨a, z, by rw [htl], by rw [htl]; exact hclip2⟩, ⟨hTb.take _, by rw [htl]; omega⟩⟩⟩
              · have s2 := logm_shut (r := own 5 1 (.slice a (63 * k) c) (63 * k) (ints .u8 T) :: row st 205 (scells S d) :: disk d D :: l) hok (q.sup zsup)
                exact s2.sup zsup
              · rw [show decide (mkB tu (nu : Int) (T.take z) = mb) = true from decide_eq_true heq]
            · have hno : nx = none := hnone (fun tx hx => (hfacts tx hx).2.2.2.2.2.2.2) (by rw [← hT1, ← hN1]; exact heq)
              rw [show decide (mkB tu (nu : Int) (T.take z) = mb) = false from decide_eq_false heq]
              exact ⟨logm lg st L :: row st 205 (scells S d) :: disk d D :: l, fun w q => logm_shut hok (q.sup zsup), _, false, [], rfl, rfl, .inl ⟨hno, rfl⟩⟩)
      case' hf =>
       intro h
       try (first | exact zom | exact zho h | subst h)
       all_goals
        have hb0 : X.getD 0 0 = 0 := Decidable.not_not.mp h
        refine Vd ?_
      all_goals refine Ju (Ja ?_)
      all_goals
       refine Je (Jb (Jd rfl) U U U ?_)
       refine Jb (Wa U U zwr) U U U ?_
       refine Jb (Jf rfl) U U U ?_
       refine Jg ?_
     all_goals
      refine Vt (s := (k, a, c)) (k + 1, na, nc) ⟨by dsimp only; omega, fun i hi => ?_⟩ ⟨rfl, rfl, rfl, rfl, rfl, rfl, by dsimp only; rw [show (((k + 1 : Nat) : Int) + 1) = (k : Int) + 1 + 1 by omega]; rfl, trivial⟩ (fun w q => ?_) (by dsimp only; omega)
      · by_cases hik : i = k
        · subst hik
          rw [hX]
          exact hb0
        · exact hz0 i (by dsimp only at hi; omega)
      · dsimp only
        rw [htn, show 63 * (k + 1) = 63 * k + 63 from rfl, show ints .u8 (tails B L.used k ++ X.drop 1) = ints .u8 (tails B L.used k) ++ ints .u8 (X.drop 1) by simp [ints]]
        exact q.sup zsup
end
section
open Go Go.SL
/-! A log opened. -/
def scan (turn : BitVec 64) (bl : List Blk) : Nat → List (List Int) → Nat → List (List Int) × Nat
 | 0, txs, used => (txs, used)
 | f + 1, txs, used => match nextTx turn txs.length bl used with
   | none => (txs, used)
   | some tx => scan turn bl f (txs ++ [tx]) (used + needN tx.length)
theorem nextTx_end {turn : BitVec 64} {num at_ : Nat} {bl : List Blk} (h : bl.length ≤ at_) : nextTx turn num bl at_ = none := by
 rw [nextTx, if_neg]
 rintro ⟨h1, _⟩
 unfold needN at h1
 omega
theorem scan_enough (turn : BitVec 64) (bl : List Blk) : ∀ (f g : Nat) (txs : List (List Int)) (used : Nat), bl.length ≤ f + used → bl.length ≤ g + used → scan turn bl f txs used = scan turn bl g txs used
 | 0, 0, _, _, _, _ => rfl
 | 0, g + 1, txs, used, h1, _ => by rw [scan, scan, nextTx_end (by omega)]
 | f + 1, 0, txs, used, _, h2 => by rw [scan, scan, nextTx_end (by omega)]
 | f + 1, g + 1, txs, used, h1, h2 => by
   rw [scan, scan]
   cases nextTx turn txs.length bl used with
   | none => rfl
   | some tx => exact scan_enough turn bl f g _ _ (by unfold needN; omega) (by unfold needN; omega)
def openL (S : Sb) (D : Dk) (bs : List Int) : Lg := ⟨bs, (scan S.turn (slotsL D) D.slots [] 0).1, (scan S.turn (slotsL D) D.slots [] 0).2, false⟩
theorem Byt.read {D : Dk} (h : Byt D) (i : Int) : Bytes (D.read i) := by
 unfold Dk.read
 split
 · exact h.find i
 · exact Bytes.rep 64
theorem Byt.snapB {D : Dk} (h : Byt D) (s : Sb) : ∀ k, Bytes (snapB s D k)
 | 0 => Bytes.nil
 | k + 1 => (Byt.snapB h s k).append (h.read _)
theorem Byt.snapS {D : Dk} (h : Byt D) (s : Sb) : Bytes (snapS s D) := (h.snapB s _).take _
attribute [local irreducible] J JL JE JM LS Y Fc RV Code.wp wpList Code.wpIn wpListIn
attribute [local irreducible] Yc
variable (E : World)
theorem lopen_spec (st d : Nat) (S : Sb) (D : Dk) (bs : List Int) (l : List HProp) (hf : Fits S D) (hdead : D.dead = false) (hbyt : Byt D) (hpn : D.pending.length ≤ 1000000) (hb : snapS S D = bs) (hs : (sha bs).take 16 = S.hash) :
 Fc prog E 63 [.pointer (some ⟨st, 0, none⟩)].toArray (row st 205 (scells S d) :: disk d D :: l)
  (fun v l' => ∃ lg, v = .tuple #[.pointer (some ⟨lg, 0, none⟩), .int .i64 0] ∧ l' = logm lg st (openL S D bs) :: row st 205 (scells S d) :: disk d D :: l) := by
 refine Fc.fact (p := D.Ok) (fun w q => (disk_open (q.sup (p := disk d D :: l) zsup)).elim fun _ ⟨_, _, _, h, _⟩ => h) fun hok0 => Wg ?_
 have hm := hok0.most
 have hsl : D.slots ≤ 512 := by unfold Dk.slots; omega
 have hbl : S.size.toNat = bs.length := by rw [← hb, snapS_length hok0]
 have hsm : Small bs := ⟨by rw [← hb]; exact hbyt.snapS S, by have := hf.hi; have := half_le D hf.two; omega⟩
 obtain ⟨B, hB⟩ : ∃ B, slotsL D = B := ⟨_, rfl⟩
 have hB64 : ∀ b ∈ B, b.length = 64 := by rw [← hB]; exact slotsL_64 hok0 hf.two
 have hBl : B.length = D.slots := by rw [← hB, slotsL_length]
 refine Va (c := ?codeC) Tryz.func63 ?hb Tryz.ntmps63 ?hl ?_
 case hb => exact rfl
 case hl => exact rfl
 refine Jh (Je (Jb (Jf rfl) U U U (Jb (Jf rfl) U U U ?_)))
 refine Jg (Ja (J.scope (Jh (Jh (Je (Jb (Jd rfl) U U U (Jb (Wc hT U U U U) U U U ?_)))))))
 refine Jg (Ja ?_)
 refine Vk rfl zbl ?_
 refine Vd (Ja (Jh (Je (Jb (Jd rfl) U U U ?_))))
 refine Jl rfl (Jw e111 U U (Vw (Ji zpk (Ji zpk Jj)) (snapshot_ok E st d S D bs _ hf hdead hpn hb hbl hs)) ?_)
 rintro _ _ ⟨sa, sc, rfl, rfl⟩
 refine Jb (Jd rfl) U U U (Jb (Vg U U) U U U (Jb (Vg U U) U U U (Jb (Jf rfl) U U U (Jb (Jf rfl) U U U ?_))))
 refine Jg (Ja (Jh (Jh (Je (Jb (Jd rfl) U U U (Jb (y_neq U U) U U U ?_))))))
 refine Jg (Ja ?_)
 refine Vk rfl zbl ?_
 refine Vd (Ja (Jh (Je (Jb (Jd rfl) U U U (Jb (Jd rfl) U U U ?_)))))
 refine Jb (y_build (cs := [.pointer (some ⟨st, 0, none⟩), .slice sa bs.length sc, .slice none 0 0, .int .i64 0, .bool false]) hT U U U U U U ⟨⟨rfl, Nat.le_of_ble_eq_true rfl⟩, ⟨rfl, Nat.le_of_ble_eq_true rfl⟩, trivial⟩ rfl) U U U ?_
 refine Jl rfl (l_box U U U (fun lg => ?_))
 refine Jb (Jf rfl) U U U ?_
 refine Jg (Ja (Jh (J.label (Ja (Jh (Ve ?_))))))
 refine J.pre (l' := logm lg st ⟨bs, [], 0, false⟩ :: row st 205 (scells S d) :: disk d D :: l) (fun w q => ?_) ?_
 · have og : OwnAt sa bs.length sc (ints .u8 bs) := Vu (q.pick zpk)
   exact logm_shut (L := ⟨bs, [], 0, false⟩) (sv := .slice sa bs.length sc) (ta := none) (tc := 0) (vals := []) (K := own 5 1 (.slice sa bs.length sc) bs.length (ints .u8 bs)) ⟨⟨sa, sc, rfl, og.inl Jm⟩, rfl, fun i b hb => (by simp at hb), hsm, fun b hb => (by simp at hb), Nat.zero_le _, Nat.zero_le _⟩ ((q.own_nil (e := 41) (size := 1)).sup zsup)
 refine Wn (α := List (List Int) × Nat) (fun s => s.1.length ≤ s.2 ∧ s.2 ≤ D.slots ∧ scan S.turn B (D.slots - s.2) s.1 s.2 = scan S.turn B D.slots [] 0) (fun _ => [(6, .pointer (some ⟨lg, 0, none⟩))]) (fun s => logm lg st ⟨bs, s.1, s.2, false⟩ :: row st 205 (scells S d) :: disk d D :: l) (fun s => D.slots - s.2) ([], 0) ⟨Nat.le_refl 0, Nat.zero_le _, rfl⟩ ⟨U, trivial⟩ (fun w h => h) ?_
 rintro ⟨txs, used⟩ ⟨hlen, hus, hsc⟩
 dsimp only at hlen hus hsc ⊢
 refine Ve (Jh (Je (Jb (Jd rfl) U U U ?_)))
 refine Jl rfl (Jw e112 U U (lnext_spec E lg st d ⟨bs, txs, used, false⟩ S D l hf.hash hf.two hdead hbyt hpn hus) ?_)
 rintro _ _ ⟨tv, ok, g, rfl, rfl, hor⟩
 refine Jb (Jd rfl) U U U (Jb (Vg U U) U U U (Jb (Vg U U) U U U (Jb (Vg U U) U U U (Jb (Jf rfl) U U U (Jb (Jf rfl) U U U (Jb (Jf rfl) U U U ?_))))))
 refine Jg (Ja (Jh (Ve (Jh (Je (Jb (Jd rfl) U U U (Jb (y_neq U U) U U U (Jb (Jf rfl) U U U ?_))))))))
 refine Jg (Ja ?_)
 refine Vk rfl zbl ?_
 refine Jh (Je (Jb (Jd rfl) U U U (Jb (y_not rfl) U U U (Jb (Jf rfl) U U U ?_))))
 refine Jg (Ja ?_)
 first | apply Jx rfl | apply Vo rfl
 case' ht =>
  intro h
  try (first | exact zom | exact zho h | subst h)
  all_goals
   have hb2 : ok = false := by simpa using h
   obtain ⟨hno, _⟩ := hor.resolve_right (fun ⟨_, _, _, e, _⟩ => by rw [hb2] at e; cases e)
   have hscn : scan S.turn B (D.slots - used) txs used = (txs, used) := by
    rw [hB] at hno
    cases hfu : D.slots - used with
    | zero => rfl
    | succ f => rw [scan, hno]
   have hop : openL S D bs = ⟨bs, txs, used, false⟩ := by rw [openL, hB, ← hsc, hscn]
   refine Wl ?_
   refine JE.block_past rfl ?_
   refine Jv ?_
   refine JE.block_past rfl ?_
   refine Jv (Vl (Ja (Jh (Je (Jb (Jd rfl) U U U (Jb (Jf rfl) U U U (Jb (Jf rfl) U U U ?_)))))))
   refine Jg (Ja (Vn (JE.scope_ret ?_)))
   refine JE.ret2 (.inl rfl) U U zrv zrv ?_
   refine ⟨_, fun w q => ?_, lg, rfl, rfl⟩
   rw [hop]
   exact q.sup zsup
 case' hf =>
  intro h
  try (first | exact zom | exact zho h | subst h)
  all_goals
   have hb2 : ok = true := by simpa using h
   obtain ⟨tx, A, hso, _, rfl, hA, hsmt⟩ := hor.resolve_left (fun ⟨_, e⟩ => by rw [hb2] at e; cases e)
   obtain ⟨p, c, rfl, hAin⟩ := hA
   rw [hB] at hso
   dsimp only at hso
   obtain ⟨_, _, hfit, _, _⟩ := nextTx_some hB64 (by omega) hso
   have htl := hsmt.len
   have hne : 1 ≤ needN tx.length := by unfold needN; omega
   refine Vd ?_
 all_goals refine Ju (Ja ?_)
 all_goals
  refine Jh ?_
  refine J.picks (A := logm lg st ⟨bs, txs, used, false⟩) zpk (J.logm fun sv ta tc vals K hok => ?_)
  dsimp only
  refine Je (Jb (Jd rfl) U U U (Jb (Jd rfl) U U U ?_))
  refine Jb znc U U U ?_
  refine Jb (Jk hT U U U U U U) U U U ?_
  refine Jb (Jo hT U U U zrd) U U U ?_
  refine Jb (Jd rfl) U U U ?_
  refine Jl rfl (l_buildSliceP hT U U U U U U U zfl rfl (fun b3 => ?_))
  refine Jl rfl (l_append hT U U U U U U U U zpk zrdn zln zoc (by rw [show i41.bytes = 24 from rfl]; omega) (by omega) rfl (fun na nc hnc => ?_))
  refine Jb znc U U U ?_
  refine Jb (Jk hT U U U U U U) U U U ?_
  refine Jl rfl (Vs hT U U U U U zpk zix ?_)
  refine Jg (Ja ?_)
  refine Vz _ _ [(0, .q), (1, .q), (2, .q), (4, .q), (5, .q), (6, .q), (3, .e), (7, .q), (8, .q), (9, .q), (10, .l)] mixed (by kernel_rfl) (Ji (Jm) (Jj)) ?_
  refine zqm U U U U U ?_
  refine Jc U U U U (fun m => znc) ?_
  refine Jc U U U U (fun m => Jk hT U U U U U U) (zqm U U U U U (Jc U U U U (fun m => Vf hT U U U) ?_))
  refine Jc U U U U (fun m => y_callF e113 rfl (need_spec E tx.length (by omega) _)) ?_
  refine Wh U U U U (fun fr => Jo hT U U U zrd) ?_
  refine Jc U U U U (fun m => Wa (m := ((used + needN tx.length : Nat) : Int)) U U (by show IntKind.i64.wrap ((used : Int) + (needN tx.length : Int)) = _; rw [← Int.natCast_add]; exact Wm (by omega) (by omega))) ?_
  refine Jc U U U U (fun m => znc) ?_
  refine Jc U U U U (fun m => Jk hT U U U U U U) ?_
  refine Vm U U (fun fr => Vs hT U U U U U zpk zix (⟨[_], (by (repeat (first | exact Jj | exact Vc | refine Ji Jm ?_))), ?_⟩))
  refine Vv ?_
 all_goals refine Ju ?_
 all_goals
  refine Vt (s := (txs, used)) (txs ++ [tx], used + needN tx.length) ⟨by dsimp only; rw [List.length_append, List.length_singleton]; omega, by dsimp only; omega, ?_⟩ ⟨U, trivial⟩ (fun w q => ?_) (by dsimp only; omega)
  · dsimp only
    rw [← hsc]
    obtain ⟨f, hfu⟩ : ∃ f, D.slots - used = f + 1 := ⟨D.slots - used - 1, by omega⟩
    rw [hfu, scan, hso]
    exact scan_enough _ _ _ _ _ _ (by omega) (by omega)
  · dsimp only
    have hBt : IsB A (.slice p tx.length c) tx := ⟨p, c, rfl, hAin⟩
    have q2 := q.sup (p := [K, A] ++ (row lg 208 (lcells st sv (.slice na (txs.length + 1) nc) ⟨bs, txs ++ [tx], used + needN tx.length, false⟩) :: own 41 1 (.slice na (txs.length + 1) nc) (txs.length + 1) (vals ++ [Value.slice p tx.length c]) :: row st 205 (scells S d) :: disk d D :: l)) zsup
    have q3 := (Sat.fold q2).sup (p := row lg 208 (lcells st sv (.slice na (txs.length + 1) nc) ⟨bs, txs ++ [tx], used + needN tx.length, false⟩) :: own 41 1 (.slice na (txs.length + 1) nc) (txs.length + 1) (vals ++ [Value.slice p tx.length c]) :: stars [K, A] :: row st 205 (scells S d) :: disk d D :: l) zsup
    have hlen2 : (txs ++ [tx]).length = txs.length + 1 := by simp
    have hmore := LgOk.more (L := ⟨bs, txs, used, false⟩) hok hBt hsmt (by dsimp only; omega) (u := used + needN tx.length) (by omega)
    exact logm_shut (L := ⟨bs, txs ++ [tx], used + needN tx.length, false⟩) hmore (by simpa only [hlen2] using q3)
end
section
open Go Go.SL
/-! What a log's sectors hold. -/
def Dk.base (D : Dk) : Nat := 2 + 2 * D.half
theorem slotsL_find {D : Dk} {i : Nat} (h : i < D.slots) : (slotsL D).getD i [] = D.find ((D.base + i : Nat) : Int) := by
 rw [slotsL_getD h, show (2 + 2 * (D.half : Int) + (i : Int)) = ((D.base + i : Nat) : Int) by unfold Dk.base; omega]
theorem base_slots (D : Dk) (h2 : 2 ≤ D.safe.length) : D.base + D.slots = D.safe.length := by
 have := half_le D h2
 unfold Dk.base Dk.slots
 omega
theorem half_eq {D D' : Dk} (h : D'.safe.length = D.safe.length) : D'.half = D.half := by unfold Dk.half; rw [h]
theorem put_up {D : Dk} (h : Up D) (h2 : 2 ≤ D.safe.length) {i : Nat} (hi : i < D.slots) (b : Blk) : D.put (i : Int) b = (D.does.push ((D.base + i : Nat) : Int) b, 0) := by
 have hb := base_slots D h2
 have e1 : D.slotAt (i : Int) = (((D.base + i : Nat) : Int), 0) := by
  rw [Dk.slotAt, if_neg (by omega), show (2 + 2 * (D.half : Int) + (i : Int)) = ((D.base + i : Nat) : Int) by unfold Dk.base; omega]
 rw [Dk.put, e1, if_pos rfl, h.write b (by omega)]
theorem putsW_up {D : Dk} {used : Nat} {tx : List Int} (h : Up D) (h2 : 2 ≤ D.safe.length) : ∀ k, used + 1 + k ≤ D.slots →
 (putsW used tx D k).2 = 0 ∧ Up (putsW used tx D k).1 ∧ (putsW used tx D k).1.safe.length = D.safe.length ∧ ∀ j : Nat, (putsW used tx D k).1.find (j : Int) = if D.base + used + 1 ≤ j ∧ j < D.base + used + 1 + k then pieceB tx (j - (D.base + used + 1)) else D.find (j : Int)
 | 0, _ => ⟨rfl, h, rfl, fun j => by rw [if_neg (by omega)]; rfl⟩
 | k + 1, hk => by
   obtain ⟨e, hu, hl, hf⟩ := putsW_up (used := used) (tx := tx) h h2 k (by omega)
   have hh := half_eq hl
   have hb : (putsW used tx D k).1.base = D.base := by unfold Dk.base; rw [hh]
   have hs : (putsW used tx D k).1.slots = D.slots := by unfold Dk.slots; rw [hh, hl]
   have hbs := base_slots D h2
   have hp := put_up hu (by rw [hl]; exact h2) (i := used + 1 + k) (by rw [hs]; omega) (pieceB tx k)
   rw [putsW, if_pos e, hp, hb]
   refine ⟨rfl, hu.push (by rw [hl]; omega) (pieceB_length tx k), hl, fun j => ?_⟩
   dsimp only
   rw [dk_find_push, hf]
   by_cases hj : D.base + (used + 1 + k) = j
   · rw [if_pos (by omega), if_pos (by omega), show j - (D.base + used + 1) = k by omega]
   · rw [if_neg (by omega)]
     by_cases hj2 : D.base + used + 1 ≤ j ∧ j < D.base + used + 1 + k
     · rw [if_pos hj2, if_pos (by omega)]
     · rw [if_neg hj2, if_neg (by omega)]
structure Wrote (L : Lg) (S : Sb) (D : Dk) (tx : List Int) (D' : Dk) : Prop where
 up : Up D'
 none : D'.pending = []
 len : D'.safe.length = D.safe.length
 find : ∀ j : Nat, j < D.safe.length → D'.find (j : Int) = if j = D.base + L.used then mkB S.turn L.txs.length tx else if D.base + L.used + 1 ≤ j ∧ j < D.base + L.used + 1 + pieceN tx.length then pieceB tx (j - (D.base + L.used + 1)) else D.find (j : Int)
theorem writeL_up {L : Lg} {S : Sb} {D : Dk} {tx : List Int} (h : Up D) (h2 : 2 ≤ D.safe.length) (hroom : L.used + needN tx.length ≤ D.slots) : ∃ D', writeL L S D tx = (D', 0) ∧ Wrote L S D tx D' := by
 have hk : needN tx.length = 1 + pieceN tx.length := rfl
 obtain ⟨e, hu, hl, hf⟩ := putsW_up (tx := tx) h h2 (used := L.used) (pieceN tx.length) (by omega)
 obtain ⟨W0, hW0⟩ : ∃ W0, putsW L.used tx D (pieceN tx.length) = W0 := ⟨_, rfl⟩
 rw [hW0] at e hu hl hf
 have hbs := base_slots D h2
 have hY := hu.settle
 have hYl : (W0.1.does.settle (fun _ => true)).safe.length = D.safe.length := by simp [Dk.settle, liveOn_length, Dk.does, hl]
 have hYh := half_eq hYl
 have hYb : (W0.1.does.settle (fun _ => true)).base = D.base := by unfold Dk.base; rw [hYh]
 have hYs : (W0.1.does.settle (fun _ => true)).slots = D.slots := by unfold Dk.slots; rw [hYh, hYl]
 have hp := put_up hY (by rw [hYl]; exact h2) (i := L.used) (by rw [hYs]; omega) (mkB S.turn L.txs.length tx)
 rw [hYb] at hp
 have hV := hY.push (i := ((D.base + L.used : Nat) : Int)) (b := mkB S.turn L.txs.length tx) (by rw [hYl]; omega) (mkB_length _ _ _)
 have hVl : ((W0.1.does.settle (fun _ => true)).does.push ((D.base + L.used : Nat) : Int) (mkB S.turn L.txs.length tx)).safe.length = D.safe.length := hYl
 refine ⟨_, ?_, hV.settle, rfl, ?_, fun j hj => ?_⟩
 · unfold writeL
   dsimp only
   rw [hW0, if_pos e, hu.sync, if_pos rfl]
   dsimp only
   rw [hp, if_pos rfl]
   dsimp only
   rw [hV.sync]
 · simp [Dk.settle, liveOn_length, Dk.does, Dk.push, hl]
 · rw [dk_find_settle hV.ok _ (by rw [hVl]; omega), dk_find_push]
   by_cases hjt : j = D.base + L.used
   · rw [if_pos (by omega), if_pos hjt]
   · rw [if_neg (by omega), if_neg hjt, dk_find_settle hu.ok _ (by omega), hf]
theorem holds_log {S : Sb} {was : List Int} {D D' : Dk} (h : Holds S was D) (hu : Up D') (hn : D'.pending = []) (hl : D'.safe.length = D.safe.length) (hf : ∀ j : Nat, j < D.base → D'.find (j : Int) = D.find (j : Int)) : Holds S was D' := by
 have hp := h.fits.place
 have h2 := h.fits.two
 have hhl := half_le D h2
 have hh := half_eq hl
 have hfit : Fits S D' := ⟨h.fits.hash, hp, h.fits.lo, by rw [hh]; exact h.fits.hi, by rw [hl]; exact h2⟩
 have h1 := half_mul (D := D) hp
 have hsn : ∀ k, k ≤ D.half → snapB S D' k = snapB S D k := by
  intro k
  induction k with
  | zero => intro _; rfl
  | succ k ih =>
    intro hk2
    rw [snapB, snapB, ih (by omega), hh]
    obtain ⟨j, hj⟩ : ∃ j : Nat, 2 + S.place * (D.half : Int) + k = (j : Int) := ⟨(2 + S.place * (D.half : Int) + k).toNat, by omega⟩
    rw [hj, hu.read (by rw [hl]; omega), h.up.read (by omega), hf j (by unfold Dk.base; omega)]
 have hn2 : (S.size.toNat + 63) / 64 ≤ D.half := by have := h.fits.hi; omega
 have hfi : ∀ j : Nat, j < 2 → D'.find j = D.find j := fun j hj => hf j (by unfold Dk.base; omega)
 exact ⟨hu, hn, hfit, h.size, h.hash, by rw [snapS, hsn _ hn2]; exact h.snap, by rw [hfi _ (by omega)]; exact h.mine, by rw [hfi _ (by omega)]; exact h.other⟩
end
section
open Go Go.SL
/-! A log and its disk. -/
def usedN (txs : List (List Int)) : Nat := (txs.map fun tx => needN tx.length).sum
theorem usedN_snoc (txs : List (List Int)) (tx : List Int) : usedN (txs ++ [tx]) = usedN txs + needN tx.length := by simp [usedN]
theorem needN_pos (n : Nat) : 1 ≤ needN n := by unfold needN; omega
theorem usedN_len (txs : List (List Int)) : txs.length ≤ usedN txs := by
 induction txs with
 | nil => exact Nat.le_refl _
 | cons tx r ih =>
   have := needN_pos tx.length
   simp only [usedN, List.map_cons, List.sum_cons, List.length_cons] at ih ⊢
   omega
structure AtTx (turn : BitVec 64) (num : Nat) (tx : List Int) (bl : List Blk) (at_ : Nat) : Prop where
 fit : at_ + needN tx.length ≤ bl.length
 mark : bl.getD at_ [] = mkB turn num tx
 piece : ∀ i, i < pieceN tx.length → bl.getD (at_ + 1 + i) [] = pieceB tx i
theorem AtTx.next {turn : BitVec 64} {num at_ : Nat} {tx : List Int} {bl : List Blk} (h : AtTx turn num tx bl at_) (h64 : ∀ b ∈ bl, b.length = 64) (hn : num < 4294967296) (hb : bl.length ≤ 512) : nextTx turn num bl at_ = some tx := by
 have hlt : tx.length < 4294967296 := by have := h.fit; unfold needN at this; omega
 obtain ⟨_, _, _, f4, _⟩ := mkB_facts turn num tx hn hlt
 have ht := tails_pieces h.piece (pieceN tx.length) (Nat.le_refl _)
 have hle : tx.length ≤ 63 * pieceN tx.length := by unfold pieceN; omega
 rw [List.take_of_length_le hle] at ht
 have := nextTx_is (turn := turn) (num := num) (at_ := at_) h64 (z := tx.length) (by rw [h.mark]; exact f4) h.fit (fun i hi => by rw [h.piece i hi]; rfl) (by rw [ht, List.drop_left' rfl]) (by rw [ht, List.take_left' rfl, h.mark])
 rw [this, ht, List.take_left' rfl]
theorem AtTx.congr {turn : BitVec 64} {num at_ : Nat} {tx : List Int} {bl bl' : List Blk} (h : AtTx turn num tx bl at_) (hl : bl'.length = bl.length) (he : ∀ i, at_ ≤ i → i < at_ + needN tx.length → bl'.getD i [] = bl.getD i []) : AtTx turn num tx bl' at_ :=
 ⟨by rw [hl]; exact h.fit, by rw [he at_ (Nat.le_refl _) (by have := needN_pos tx.length; omega)]; exact h.mark, fun i hi => by
  rw [he (at_ + 1 + i) (by omega) (by unfold needN; unfold pieceN at hi; omega)]
  exact h.piece i hi⟩
theorem scan_all {turn : BitVec 64} {bl : List Blk} {txs : List (List Int)} (h64 : ∀ b ∈ bl, b.length = 64) (hb : bl.length ≤ 512) (ha : ∀ (k : Nat) tx, txs[k]? = some tx → AtTx turn k tx bl (usedN (txs.take k))) (hu : usedN txs ≤ bl.length) (hn : nextTx turn txs.length bl (usedN txs) = none) :
 scan turn bl bl.length [] 0 = (txs, usedN txs) := by
 have hl := usedN_len txs
 have key : ∀ (m j : Nat), m + j = txs.length → ∀ f, bl.length ≤ f + usedN (txs.take j) → scan turn bl f (txs.take j) (usedN (txs.take j)) = (txs, usedN txs) := by
  intro m
  induction m with
  | zero =>
    intro j hj f hf
    have e : txs.take j = txs := List.take_of_length_le (by omega)
    rw [e] at hf ⊢
    cases f with
    | zero => rfl
    | succ f => rw [scan, hn]
  | succ m ih =>
    intro j hj f hf
    have hjl : j < txs.length := by omega
    obtain ⟨tx, htx⟩ : ∃ tx, txs[j]? = some tx := ⟨_, List.getElem?_eq_getElem hjl⟩
    have hA := ha j tx htx
    have hnx := hA.next h64 (by omega) hb
    have e1 : txs.take (j + 1) = txs.take j ++ [tx] := by rw [List.take_add_one, htx]; rfl
    have hpos := needN_pos tx.length
    have hfit := hA.fit
    cases f with
    | zero => omega
    | succ f =>
      have hjt : (txs.take j).length = j := by rw [List.length_take]; omega
      rw [scan, hjt, hnx]
      dsimp only
      rw [← usedN_snoc, ← e1]
      exact ih (j + 1) (by omega) f (by rw [e1, usedN_snoc]; omega)
 exact key txs.length 0 (by omega) bl.length (by simp [usedN])
structure LH (S : Sb) (D : Dk) (L : Lg) : Prop where
 holds : Holds S L.snap D
 byt : Byt D
 whole : L.broken = false
 used : L.used = usedN L.txs
 fit : L.used ≤ D.slots
 small : Small L.snap
 smalls : ∀ tx ∈ L.txs, Small tx
 secs : ∀ (k : Nat) tx, L.txs[k]? = some tx → AtTx S.turn k tx (slotsL D) (usedN (L.txs.take k))
 old : ∀ i, i < D.slots → ((slotsL D).getD i []).getD 0 0 = 1 → (leG ((((slotsL D).getD i []).drop 1).take 8) 8).toNat ≤ S.turn.toNat ∧ (L.used ≤ i → (leG ((((slotsL D).getD i []).drop 1).take 8) 8).toNat < S.turn.toNat)
theorem LH.slots {S : Sb} {D : Dk} {L : Lg} (h : LH S D L) : D.slots ≤ 512 := by
 have := h.holds.up.ok.most
 unfold Dk.slots
 omega
theorem LH.none {S : Sb} {D : Dk} {L : Lg} (h : LH S D L) : nextTx S.turn L.txs.length (slotsL D) L.used = none := by
 cases hx : nextTx S.turn L.txs.length (slotsL D) L.used with
 | none => rfl
 | some tx =>
   have hsl := h.slots
   have hfew := usedN_len L.txs
   have hus := h.used
   have hfit := h.fit
   have f := nextTx_facts (slotsL_64 h.holds.up.ok h.holds.fits.two) (by rw [slotsL_length]; omega) (by omega) hx U U
   have hlt : L.used < D.slots := by
    have := f.2.2.2.1
    rw [slotsL_length] at this
    have := needN_pos (sizeOf12 ((slotsL D).getD L.used []))
    omega
   have := (h.old L.used hlt f.1).2 (Nat.le_refl _)
   rw [f.2.1] at this
   omega
theorem LH.openL {S : Sb} {D : Dk} {L : Lg} (h : LH S D L) : openL S D L.snap = L := by
 have hsl := h.slots
 have hn := h.none
 have hus := h.used
 have hfit := h.fit
 rw [hus] at hn
 have := scan_all (txs := L.txs) (slotsL_64 h.holds.up.ok h.holds.fits.two) (by rw [slotsL_length]; omega) h.secs (by rw [slotsL_length]; omega) hn
 rw [slotsL_length] at this
 rw [Go.Proofs.YtaopifoidbdniaaGreat.openL, this]
 have hw := h.whole
 cases L
 simp only at hus hw ⊢
 rw [hus, hw]
/-! Bytes stay bytes. -/
theorem Bytes.pieceB {tx : List Int} (h : Bytes tx) (i : Nat) : Bytes (pieceB tx i) := fun x hx => by
 rcases List.mem_cons.1 hx with rfl | hx
 · exact ⟨Int.le_refl _, by decide⟩
 · exact (((h.drop _).take _).append (Bytes.rep _)) x hx
theorem Bytes.mkHead {turn : BitVec 64} {num : Int} {tx : List Int} : Bytes (mkHead turn num tx) :=
 (((((show Bytes [1] from fun x hx => by rw [List.mem_singleton] at hx; omega).append (Bytes.leB _ _)).append (Bytes.leB _ _)).append (Bytes.leB _ _)).append ((Bytes.sha _).take _)).append (Bytes.rep _)
theorem Bytes.mkB {turn : BitVec 64} {num : Int} {tx : List Int} : Bytes (mkB turn num tx) := Bytes.mkHead.append ((Bytes.sha _).take _)
theorem Byt.put {D : Dk} (h : Byt D) (i : Int) {b : Blk} (hb : Bytes b) : Byt (D.put i b).1 := by
 unfold Dk.put
 split
 · exact h.write _ hb
 · exact h
theorem Byt.putsW {D : Dk} (h : Byt D) (used : Nat) {tx : List Int} (ht : Bytes tx) : ∀ k, Byt (putsW used tx D k).1
 | 0 => h
 | k + 1 => by
   rw [Go.Proofs.YtaopifoidbdniaaGreat.putsW]
   split
   · exact (Byt.putsW h used ht k).put _ (ht.pieceB k)
   · exact Byt.putsW h used ht k
theorem Byt.writeL {D : Dk} (h : Byt D) (L : Lg) (S : Sb) {tx : List Int} (ht : Bytes tx) : Byt (writeL L S D tx).1 := by
 have h1 := h.putsW L.used ht (pieceN tx.length)
 unfold Go.Proofs.YtaopifoidbdniaaGreat.writeL
 dsimp only
 split
 · split
   · split
     · exact (h1.sync.put _ Bytes.mkB).sync
     · exact h1.sync.put _ Bytes.mkB
   · exact h1.sync
 · exact h1
/-! An append. -/
theorem roomB_iff {S : Sb} {D : Dk} {L : Lg} (h : LH S D L) (n : Nat) : roomB L D (n : Int) = true ↔ L.used + needN n ≤ D.slots := by
 have := h.fit
 rw [roomB, decide_eq_true_iff, Int.toNat_natCast]
 omega
theorem wrote_slots {L : Lg} {S : Sb} {D D' : Dk} {tx : List Int} (h : Wrote L S D tx D') (h2 : 2 ≤ D.safe.length) {i : Nat} (hi : i < D.slots) :
 (slotsL D').getD i [] = if i = L.used then mkB S.turn L.txs.length tx else if L.used + 1 ≤ i ∧ i < L.used + 1 + pieceN tx.length then pieceB tx (i - (L.used + 1)) else (slotsL D).getD i [] := by
 have hh := half_eq h.len
 have hb : D'.base = D.base := by unfold Dk.base; rw [hh]
 have hs : D'.slots = D.slots := by unfold Dk.slots; rw [hh, h.len]
 have hbs := base_slots D h2
 rw [slotsL_find (by rw [hs]; exact hi), slotsL_find hi, hb, h.find _ (by omega)]
 by_cases h1 : i = L.used
 · rw [if_pos (by omega), if_pos h1]
 · rw [if_neg (by omega), if_neg h1]
   by_cases h3 : L.used + 1 ≤ i ∧ i < L.used + 1 + pieceN tx.length
   · rw [if_pos (by omega), if_pos h3, show D.base + i - (D.base + L.used + 1) = i - (L.used + 1) by omega]
   · rw [if_neg (by omega), if_neg h3]
theorem LH.wrote {S : Sb} {D D' : Dk} {L : Lg} (h : LH S D L) {tx : List Int} (hs : Small tx) (hroom : L.used + needN tx.length ≤ D.slots) (hW : Wrote L S D tx D') (hB : Byt D') :
 LH S D' { L with txs := L.txs ++ [tx], used := L.used + needN tx.length } := by
 have h2 := h.holds.fits.two
 have hh := half_eq hW.len
 have hb : D'.base = D.base := by unfold Dk.base; rw [hh]
 have hsl : D'.slots = D.slots := by unfold Dk.slots; rw [hh, hW.len]
 have hbs := base_slots D h2
 have hg := fun (i : Nat) (hi : i < D.slots) => wrote_slots hW h2 hi
 have hfew := usedN_len L.txs
 have hus := h.used
 have h512 := h.slots
 have hk : needN tx.length = 1 + pieceN tx.length := rfl
 refine ⟨?_, hB, h.whole, by dsimp only; rw [usedN_snoc, hus], by dsimp only; omega, h.small, ?_, ?_, ?_⟩
 · exact holds_log h.holds hW.up hW.none hW.len fun j hj => by rw [hW.find j (by omega), if_neg (by omega), if_neg (by omega)]
 · intro t ht
   rcases List.mem_append.1 ht with ht | ht
   · exact h.smalls t ht
   · rw [List.mem_singleton] at ht; rw [ht]; exact hs
 · intro k t hkt
   dsimp only at hkt ⊢
   rcases Nat.lt_or_ge k L.txs.length with hk1 | hk1
   · rw [List.getElem?_append_left hk1] at hkt
     rw [List.take_append_of_le_length (by omega)]
     have hA := h.secs k t hkt
     have hle : usedN (L.txs.take k) + needN t.length ≤ L.used := by
      have e1 : L.txs.take (k + 1) = L.txs.take k ++ [t] := by rw [List.take_add_one, hkt]; rfl
      have e2 : usedN L.txs = usedN (L.txs.take (k + 1)) + usedN (L.txs.drop (k + 1)) := by
       rw [usedN, usedN, usedN, ← List.sum_append, ← List.map_append, List.take_append_drop]
      rw [hus, e2, e1, usedN_snoc]
      omega
     refine hA.congr (by rw [slotsL_length, slotsL_length, hsl]) fun i h1 h3 => ?_
     rw [hg i (by omega), if_neg (by omega), if_neg (by omega)]
   · have hk2 : k = L.txs.length := by
      rcases Nat.lt_or_ge k (L.txs ++ [tx]).length with h3 | h3
      · simp at h3; omega
      · rw [List.getElem?_eq_none h3] at hkt; cases hkt
     subst hk2
     rw [List.getElem?_append_right (Nat.le_refl _), Nat.sub_self] at hkt
     cases hkt
     rw [List.take_append_of_le_length (Nat.le_refl _), List.take_length, ← hus]
     refine ⟨by rw [slotsL_length, hsl]; exact hroom, ?_, fun i hi => ?_⟩
     · rw [hg _ (by omega), if_pos rfl]
     · rw [hg _ (by omega), if_neg (by omega), if_pos (by omega), show L.used + 1 + i - (L.used + 1) = i by omega]
 · intro i hi h1
   dsimp only
   rw [hsl] at hi
   rw [hg i hi] at h1 ⊢
   by_cases h3 : i = L.used
   · rw [if_pos h3] at h1 ⊢
     have hlt : tx.length < 4294967296 := by unfold needN at hroom; omega
     rw [(mkB_facts S.turn L.txs.length tx (by omega) hlt).2.1]
     exact ⟨Nat.le_refl _, fun h4 => by omega⟩
   · rw [if_neg h3] at h1 ⊢
     by_cases h4 : L.used + 1 ≤ i ∧ i < L.used + 1 + pieceN tx.length
     · rw [if_pos h4] at h1
       exact absurd h1 (by show ¬ ((0 : Int) = 1); decide)
     · rw [if_neg h4] at h1 ⊢
       obtain ⟨o1, o2⟩ := h.old i hi h1
       exact ⟨o1, fun h5 => o2 (by omega)⟩
theorem LH.append {S : Sb} {D : Dk} {L : Lg} (h : LH S D L) {tx : List Int} (hs : Small tx) (hroom : L.used + needN tx.length ≤ D.slots) :
 ∃ D', appL L S D tx = ({ L with txs := L.txs ++ [tx], used := L.used + needN tx.length }, D', 0) ∧ LH S D' { L with txs := L.txs ++ [tx], used := L.used + needN tx.length } ∧ D'.safe.length = D.safe.length := by
 obtain ⟨D', e, hW⟩ := writeL_up (S := S) (tx := tx) h.holds.up h.holds.fits.two hroom
 have hB := h.byt.writeL L S hs.bytes
 rw [e] at hB
 exact ⟨D', by rw [appL, if_neg (by rw [h.whole]; simp), if_pos ((roomB_iff h _).2 hroom), e, if_pos rfl], h.wrote hs hroom hW hB, hW.len⟩
end
section
open Go Go.SL
/-! Chapter 12's own helpers. -/
def lg0 : Lg := ⟨[], [], 0, false⟩
theorem formatted_find {D : Dk} (h : Up D) (h2 : 2 ≤ D.safe.length) {j : Int} (h0 : 0 ≤ j) (hj : j < D.safe.length) : D.formatted.find j = if 1 = j then zeroB else if 0 = j then sbBlock sb0 else D.find j := by
 have h1 := h.push (i := 0) (b := sbBlock sb0) (by omega) (sbBlock_length sb0_hash)
 have h3 := h1.push (i := 1) (b := zeroB) (by simp only [Dk.push, Dk.does]; omega) rfl
 unfold Dk.formatted
 rw [dk_find_settle h3.ok j ⟨h0, hj⟩, dk_find_push, dk_find_push]
theorem lh_format {n : Nat} (h1 : 64 ≤ n) (h2 : n ≤ 512) : LH sb0 (Dk.new n).formatted lg0 ∧ (Dk.new n).formatted.safe.length = n := by
 have hu0 : Up (Dk.new n) := new_up (by omega) h2
 have hl0 : (Dk.new n).safe.length = n := by simp [Dk.new]
 obtain ⟨_, hl1, _⟩ := formatted_up hu0 (by omega)
 have hl : (Dk.new n).formatted.safe.length = n := hl1.trans hl0
 refine ⟨⟨holds_format hu0 (by omega), (Byt.new n).formatted, rfl, rfl, Nat.zero_le _, ⟨Bytes.nil, by decide⟩, fun tx h => (by simp [lg0] at h), fun k tx h => (by simp [lg0] at h), fun i hi h => ?_⟩, hl⟩
 have hbs := base_slots (Dk.new n).formatted (by omega)
 rw [slotsL_find hi, formatted_find hu0 (by omega) (by omega) (by omega), if_neg (by unfold Dk.base; omega), if_neg (by unfold Dk.base; omega)] at h
 obtain ⟨q, hq⟩ : ∃ q, (Dk.new n).formatted.base + i = q := ⟨_, rfl⟩
 rw [hq] at h
 have hz : (Dk.new n).find (q : Int) = zeroB := by
  simp only [Dk.find, Dk.new, List.reverse_nil, List.find?_nil, Int.toNat_natCast]
  rw [List.getD_eq_getElem?_getD, List.getElem?_replicate, if_pos (by omega)]
  rfl
 rw [hz] at h
 exact absurd h (by decide)
attribute [local irreducible] J JL JE JM LS Y Fc RV Code.wp wpList Code.wpIn wpListIn
attribute [local irreducible] Yc
variable (E : World)
theorem lopen_lh (st d : Nat) (S : Sb) (D : Dk) (L : Lg) (l : List HProp) (h : LH S D L) :
 Fc prog E 63 [.pointer (some ⟨st, 0, none⟩)].toArray (row st 205 (scells S d) :: disk d D :: l)
  (fun v l' => ∃ lg, v = .tuple #[.pointer (some ⟨lg, 0, none⟩), .int .i64 0] ∧ l' = logm lg st L :: row st 205 (scells S d) :: disk d D :: l) := by
 have q := lopen_spec E st d S D L.snap l h.holds.fits h.holds.up.dead h.byt (by rw [h.holds.none]; decide) h.holds.snap h.holds.hash
 rwa [h.openL] at q
end
section
open Go Go.SL
/-! A checkpoint of a log that a disk holds. -/
theorem taken_slots {S : Sb} {D D' : Dk} {bs : List Int} (hT : Taken S D bs D') (h2 : 2 ≤ D.safe.length) (hp : S.place = 0 ∨ S.place = 1) (hl : bs.length ≤ 64 * D.half) {i : Nat} (hi : i < D.slots) : (slotsL D').getD i [] = (slotsL D).getD i [] := by
 have hh := half_eq hT.len
 have hb : D'.base = D.base := by unfold Dk.base; rw [hh]
 have hs : D'.slots = D.slots := by unfold Dk.slots; rw [hh, hT.len]
 have hbs := base_slots D h2
 have h5 : (nextS S bs).place * (D.half : Int) ≤ D.half := by
  have e1 : (nextS S bs).place = 1 - S.place := rfl
  rw [e1]
  rcases hp with e | e <;> rw [e]
  · rw [show (1 - 0 : Int) = 1 by rfl, Int.one_mul]; omega
  · rw [show (1 - 1 : Int) = 0 by rfl, Int.zero_mul]; omega
 rw [slotsL_find (by rw [hs]; exact hi), slotsL_find hi, hb, hT.find _ (by omega) (by omega), if_neg (by unfold Dk.base; omega), if_neg (by unfold Dk.base; omega)]
theorem LH.check {S : Sb} {D : Dk} {L : Lg} (h : LH S D L) {state : List Int} (hs : Small state) (hl : state.length ≤ 64 * D.half) (ht : S.turn.toNat + 1 < 18446744073709551616) :
 ∃ D', ckL L S D state = (⟨state, [], 0, false⟩, nextS S state, D', 0) ∧ LH (nextS S state) D' ⟨state, [], 0, false⟩ ∧ D'.safe.length = D.safe.length := by
 have h2 := h.holds.fits.two
 have hp := h.holds.fits.place
 obtain ⟨D', e, hT⟩ := takeS_up h.holds.up h2 hp hl
 have hB := h.byt.takeS S hs.bytes
 rw [e] at hB
 have hsl : D'.slots = D.slots := by unfold Dk.slots Dk.half; rw [hT.len]
 have htn := next_turn (bs := state) ht
 have hw := h.whole
 refine ⟨D', ?_, ⟨holds_taken h.holds hl ht hT, hB, rfl, rfl, Nat.zero_le _, hs, fun tx h => (by simp at h), fun k tx h => (by simp at h), fun i hi h1 => ?_⟩, hT.len⟩
 · unfold ckL
   rw [if_neg (by rw [hw]; simp), e, if_pos rfl]
   cases L
   simp only at hw
   rw [hw]
 · rw [hsl] at hi
   rw [taken_slots hT h2 hp hl hi] at h1 ⊢
   have := (h.old i hi h1).1
   rw [htn]
   exact ⟨by omega, fun _ => by omega⟩
theorem ckL_long {S : Sb} {D : Dk} {L : Lg} (h : LH S D L) {state : List Int} (hl : 64 * D.half < state.length) : ckL L S D state = (L, S, D, 3) := by
 have e : takeS S D state = (S, D, 3) := by unfold takeS; rw [if_pos hl]
 unfold ckL
 rw [if_neg (by rw [h.whole]; simp), e, if_neg (show ¬ (3 : Int) = 0 by decide), if_pos rfl]
theorem appL_full {S : Sb} {D : Dk} {L : Lg} (h : LH S D L) {tx : List Int} (hl : ¬ L.used + needN tx.length ≤ D.slots) : appL L S D tx = (L, D, 6) := by
 rw [appL, if_neg (by rw [h.whole]; simp), if_neg (fun e => hl ((roomB_iff h _).1 e))]
end
section
open Go Go.SL
attribute [local irreducible] J JL JE JM LS Y Fc RV Code.wp wpList Code.wpIn wpListIn
attribute [local irreducible] Yc
variable (E : World)
end
section
open Go Go.SL
attribute [local irreducible] J JL JE JM LS Y Fc RV Code.wp wpList Code.wpIn wpListIn
attribute [local irreducible] Yc
variable (E : World)
theorem append_lh (lg st d : Nat) {S : Sb} {D D' : Dk} {L L' : Lg} {e : Int} (l : List HProp) (h : LH S D L) (tx : List Int) (p : Option Addr) (cap n : Nat) (hn : tx.length = n) (hsm : Small tx) (hfew : L.txs.length < 512) (he : appL L S D tx = (L', D', e)) (hin : InL l p n cap (ints .u8 tx)) :
 Fc prog E 84 [.pointer (some ⟨lg, 0, none⟩), .slice p n cap].toArray (logm lg st L :: row st 205 (scells S d) :: disk d D :: l) (fun v l' => v = .int .i64 e ∧ l' = logm lg st L' :: row st 205 (scells S d) :: disk d D' :: l) := by
 have q := lappend_spec E lg st d L S D l h.holds.fits.hash h.holds.fits.two tx p cap n hn hsm (by rw [h.holds.none]; decide) hfew hin
 rwa [he] at q
end
section
open Go Go.SL
attribute [local irreducible] J JL JE JM LS Y Fc RV Code.wp wpList Code.wpIn wpListIn
attribute [local irreducible] Yc
variable (E : World)
end
section
open Go Go.SL
attribute [local irreducible] J JL JE JM LS Y Fc RV Code.wp wpList Code.wpIn wpListIn
attribute [local irreducible] Yc
variable (E : World)
section
variable (lg st : Nat) (L : Lg) (l : List HProp)
end
end
section
open Go Go.SL
end
section
open Go Go.SL
attribute [local irreducible] J JL JE JM LS Y Fc RV Code.wp wpList Code.wpIn wpListIn
attribute [local irreducible] Yc
variable (E : World)
end
section
open Go Go.SL
end
section
open Go Go.SL
theorem leG_cons (y : Int) (ys : List Int) : ∀ m, m ≤ 7 → leG (y :: ys) (m + 1) = leG ys m <<< 8 ||| BitVec.ofInt 64 y
 | 0, _ => by simp [leG]
 | m + 1, h => by
   rw [leG, leG_cons y ys m (by omega), leG, List.getD_cons_succ, BitVec.shiftLeft_or_distrib, show 8 * (m + 1) = 8 * m + 8 by omega, BitVec.shiftLeft_add]
   simp only [BitVec.or_assoc, BitVec.or_comm (BitVec.ofInt 64 y)]
theorem low_get (x : BitVec 64) (i : Nat) : (x >>> (8 * i)).toNat / 256 = (x >>> (8 * (i + 1))).toNat := by
 rw [BitVec.toNat_ushiftRight, BitVec.toNat_ushiftRight, Nat.shiftRight_eq_div_pow, Nat.shiftRight_eq_div_pow, Nat.div_div_eq_div_mul, show 8 * (i + 1) = 8 * i + 8 by omega, Nat.pow_add]
theorem take_snocD (xs : List Int) {k : Nat} (h : k < xs.length) : xs.take (k + 1) = xs.take k ++ [xs.getD k 0] := by
 rw [List.take_add_one, List.getD_eq_getElem?_getD, List.getElem?_eq_getElem h]
 rfl
attribute [local irreducible] J JL JE JM LS Y Fc RV Code.wp wpList Code.wpIn wpListIn
variable (E : World)
theorem rlow_spec (x : BitVec 64) (n : Nat) (hn : n ≤ 4096) (l : List HProp) :
 Fc prog E 140 [Q x, .int .i64 (n : Int)].toArray l (fun v l' => ∃ a c, v = .slice a n c ∧ l' = own 5 1 v n (ints .u8 (leB n x)) :: l) := by
 refine Wg ?_
 have e0 : (madeCells (Value.int .u8 0).cells ((n : Int).toNat * i5.size)).toList = ints .u8 (leB 0 x ++ List.replicate (n - 0) 0) := by
  rw [show (Value.int .u8 0).cells = (List.replicate 1 (Value.int .u8 0)).toArray from rfl, madeCells_rep _ (by omega), show i5.size = 1 from rfl, Int.toNat_natCast]
  simp [leB, ints]
 refine Va (c := ?codeC) Tryz.func140 ?hb Tryz.ntmps140 ?hl ?_
 case hb => exact rfl
 case hl => exact rfl
 refine Jh (Je (Jb (Jf rfl) U U U ?_))
 refine Jg (Ja (Jh (Je (Jb (Jd rfl) U U U ?_))))
 refine Jl rfl (l_makeSlice hT U U U U U U zix zix (mk_fits rfl zix zix) zix rfl (fun b1 => ?_))
 refine Jb (Jf rfl) U U U ?_
 refine Jg (Ja (Jh (Jh (Je (Jb (Jf rfl) U U U ?_)))))
 refine Jg (Ja (Ve ?_))
 rw [e0]
 refine Wn (α := Nat) (fun k => k ≤ n) (fun k => [(0, .int .u64 ((x >>> (8 * k)).toNat : Int)), (1, .int .i64 n), (5, .slice (some ⟨b1, 0, none⟩) n n), (6, .int .i64 k)]) (fun k => row b1 5 (ints .u8 (leB k x ++ List.replicate (n - k) 0)) :: l) (fun k => n - k) 0 (by omega) ⟨by rw [Nat.mul_zero, BitVec.ushiftRight_zero]; rfl, U, U, U, trivial⟩ (fun w h => h) ?_
 intro k hk
 have hlen : (ints .u8 (leB k x ++ List.replicate (n - k) 0)).length = n := by simp [ints, leB_length]; omega
 refine Jh (Jh (Je (Jb (Jd rfl) U U U (Jb (Jd rfl) U U U (Jb (y_lss U U) U U U ?_)))))
 refine Jg (Ja ?_)
 first | apply Jx rfl | apply Vo rfl
 case' ht =>
  intro h
  try (first | exact zom | exact zho h | subst h)
  all_goals
   refine Vd ?_
 case' hf =>
  intro h
  try (first | exact zom | exact zho h | subst h)
  all_goals
   refine Wl (Jv (Jv (Vl (Ja (Jh (Je (Jb (Jd rfl) U U U (Jb (Jf rfl) U U U ?_))))))))
   refine Jg (Ja (Vn ?_))
   refine Vi (.inl rfl) U U zrv ?_
   obtain rfl : k = n := by omega
   refine ⟨_, fun w q => ?_, _, _, rfl, rfl⟩
   rw [Nat.sub_self, List.replicate_zero, List.append_nil] at q
   exact q.ownAll (m := k) (size := 1) (by unfold maxLen; omega) (by simp [ints, leB_length])
 all_goals refine Ja ?_
 all_goals
  refine Jh (Ve (Jh (Je (Jb (Jd rfl) U U U (Jb (Jd rfl) U U U (Jb (Jd rfl) U U U ?_))))))
  refine Jb (y_rem (m := (((x >>> (8 * k)).toNat % 256 : Nat) : Int)) U U (by decide) (by rw [Int.tmod_eq_emod_of_nonneg (by omega)]; omega)) U U U ?_
  refine Jb (y_conv (m := (((x >>> (8 * k)).toNat % 256 : Nat) : Int)) hT U U U U (by rw [wrap_u8]; omega)) U U U ?_
  refine Jb (Jn hT U U U U U zix zix) U U U ?_
  refine Jl rfl (Vs hT U U U U U zpk (by rw [hlen, show i5.size = 1 from rfl]; omega) ?_)
  refine Jg (Ja (Je (Jb (Jd rfl) U U U ?_)))
  refine Jb (y_quo (m := ((x >>> (8 * (k + 1))).toNat : Int)) U U (by decide) (by
   rw [Int.tdiv_eq_ediv_of_nonneg (by omega), ← low_get, wrap_Q]
   have := (x >>> (8 * k)).isLt
   omega)) U U U ?_
  refine Jb (Jf rfl) U U U ?_
  refine Jg (Ju (Ja (Je (Jb (Jd rfl) U U U ?_))))
  refine Jb (Wa U U zwr) U U U ?_
  refine Jb (Jf rfl) U U U ?_
  refine Jg ?_
 all_goals
  refine Vt (s := k) (k + 1) (by omega) ⟨U, U, U, U, trivial⟩ (fun w q => ?_) (by omega)
  have e : ints .u8 (leB (k + 1) x ++ List.replicate (n - (k + 1)) 0) = (ints .u8 (leB k x ++ List.replicate (n - k) 0)).set k (.int .u8 (((x >>> (8 * k)).toNat % 256 : Nat) : Int)) := by
   rw [ints, ints, ← List.map_set, List.set_append_right _ _ (by rw [leB_length]; omega), leB_length, Nat.sub_self, show n - k = (n - (k + 1)) + 1 by omega, List.replicate_succ, List.set_cons_zero, leB_next]
   simp
  rw [show 0 + (k : Int).toNat * i5.size = k by rw [show i5.size = 1 from rfl]; omega] at q
  rw [e]
  exact q
theorem rboth_spec (p1 p2 : Option Addr) (c1 c2 : Nat) (xs ys : List Int) (l : List HProp) (h1 : InL l p1 xs.length c1 (ints .u8 xs)) (h2 : InL l p2 ys.length c2 (ints .u8 ys)) (hb : xs.length + ys.length ≤ 70368744177664) :
 Fc prog E 139 [.slice p1 xs.length c1, .slice p2 ys.length c2].toArray l (fun v l' => ∃ a c, v = .slice a (xs.length + ys.length) c ∧ l' = own 5 1 v (xs.length + ys.length) (ints .u8 (xs ++ ys)) :: l) := by
 refine Wg ?_
 obtain ⟨n, hn⟩ : ∃ n, xs.length = n := ⟨_, rfl⟩
 obtain ⟨m, hm⟩ : ∃ m, ys.length = m := ⟨_, rfl⟩
 have hxl : (ints .u8 xs).length = n := by simp [ints, hn]
 have hyl : (ints .u8 ys).length = m := by simp [ints, hm]
 rw [hn] at h1 hb
 rw [hm] at h2 hb
 rw [hn, hm]
 refine Va (c := ?codeC) Tryz.func139 ?hb Tryz.ntmps139 ?hl ?_
 case hb => exact rfl
 case hl => exact rfl
 refine Jh (Je (Jb (Jf rfl) U U U ?_))
 refine Jg (Ja (Jh (Je (Jb (Jd rfl) U U U (Jb (Vf hT U U U) U U U (Jb (Jd rfl) U U U (Jb (Vf hT U U U) U U U ?_)))))))
 refine Jb (Wa U U zwr) U U U ?_
 refine Jl rfl (l_makeSlice hT U U U U U U (by omega) (by omega) (by rw [show i5.bytes = 1 from rfl]; omega) (by omega) rfl (fun b1 => ?_))
 refine JL.pre (fun w q => q.own_made (by unfold maxLen; omega)) ?_
 refine Jb (Jf rfl) U U U ?_
 refine Jg (Ja (Jh (Jh (Je (Jb (Jf rfl) U U U ?_)))))
 refine Jg (Ja (Ve ?_))
 refine Wn (α := Nat × Value) (fun s => s.1 ≤ n ∧ ∃ a c, s.2 = .slice a s.1 c) (fun s => [(0, .slice p1 n c1), (1, .slice p2 m c2), (5, s.2), (6, .int .i64 s.1)]) (fun s => own 5 1 s.2 s.1 (ints .u8 (xs.take s.1)) :: l) (fun s => n - s.1) (0, _) ⟨by simp, _, _, rfl⟩ ⟨U, U, U, U, trivial⟩ (fun w q => q) ?_
 rintro ⟨k, v⟩ ⟨hk, a, c, hv⟩
 dsimp only at hk hv ⊢
 subst hv
 refine Jh (Jh (Je (Jb (Jd rfl) U U U (Jb (Jd rfl) U U U (Jb (Vf hT U U U) U U U (Jb (y_lss U U) U U U ?_))))))
 refine Jg (Ja ?_)
 first | apply Jx rfl | apply Vo rfl
 case' ht =>
  intro h
  try (first | exact zom | exact zho h | subst h)
  all_goals
   refine Vd ?_
 case' hf =>
  intro h
  try (first | exact zom | exact zho h | subst h)
  all_goals
   refine Wl (Jv (Jv (Vl (Ja (Jh (Jh (Je (Jb (Jf rfl) U U U ?_))))))))
   refine Jg (Ja (Ve ?_))
   obtain rfl : k = n := by omega
   refine Wn (α := Nat × Value) (fun s => s.1 ≤ m ∧ ∃ a c, s.2 = .slice a (k + s.1) c) (fun s => [(0, .slice p1 k c1), (1, .slice p2 m c2), (5, s.2), (7, .int .i64 s.1)]) (fun s => own 5 1 s.2 (k + s.1) (ints .u8 (xs ++ ys.take s.1)) :: l) (fun s => m - s.1) (0, .slice a k c) ⟨by simp, _, _, rfl⟩ ⟨U, U, U, U, trivial⟩ (fun w q => by rw [List.take_of_length_le (by omega)] at q; simpa using q) ?_
   rintro ⟨j, v⟩ ⟨hj, a, c, hv⟩
   dsimp only at hj hv ⊢
   subst hv
   refine Jh (Jh (Je (Jb (Jd rfl) U U U (Jb (Jd rfl) U U U (Jb (Vf hT U U U) U U U (Jb (y_lss U U) U U U ?_))))))
   refine Jg (Ja ?_)
   first | apply Jx rfl | apply Vo rfl
   case' ht =>
    intro h
    try (first | exact zom | exact zho h | subst h)
    all_goals
     refine Vd ?_
   case' hf =>
    intro h
    try (first | exact zom | exact zho h | subst h)
    all_goals
     refine Wl (Jv (Jv (Vl (Ja (Jh (Je (Jb (Jd rfl) U U U (Jb (Jf rfl) U U U ?_))))))))
     refine Jg (Ja (Vn ?_))
     refine Vi (.inl rfl) U U zrv ?_
     obtain rfl : j = m := by omega
     refine ⟨_, fun w q => ?_, a, c, rfl, rfl⟩
     rw [List.take_of_length_le (by omega)] at q
     exact q
   all_goals refine Ja ?_
   all_goals
    refine Jh (Ve (Je ?_))
    obtain ⟨g, o, rfl, hr⟩ := h2.addr (by omega)
    refine Jb (Jd rfl) U U U (Jb (Jd rfl) U U U (Jb (Jd rfl) U U U ?_))
    refine Jb (Jn hT U U U U U zix zix) U U U ?_
    refine Jb (Jo hT U U U (Rd1.bytesAt (bs := ys) (j := j) (hr [_]) (by omega) (by rw [show i5.size = 1 from rfl]; omega))) U U U ?_
    refine Jl rfl (l_buildSliceP hT U U U U U U U zfl rfl (fun b1 => ?_))
    refine Jl rfl (l_append hT U U U U U U U U zpk zrdn zln zoc zab zix rfl (fun ab2 cb2 hb2 => ?_))
    refine Jb (Jf rfl) U U U ?_
    refine Jg (Ju (Ja (Je (Jb (Jd rfl) U U U ?_))))
    refine Jb (Wa U U zwr) U U U ?_
    refine Jb (Jf rfl) U U U ?_
    refine Jg ?_
   all_goals
    refine Vt (s := (j, .slice a (k + j) c)) (j + 1, _) ⟨by dsimp only; omega, _, _, rfl⟩ ⟨U, U, U, U, trivial⟩ (fun w q => ?_) (by dsimp only; omega)
    have e : ints .u8 (xs ++ ys.take (j + 1)) = ints .u8 (xs ++ ys.take j) ++ [.int .u8 (ys.getD j 0)] := by
     rw [take_snocD ys (by omega)]
     simp only [ints, List.map_append, List.map_cons, List.map_nil, List.append_assoc]
    dsimp only
    rw [e, show k + (j + 1) = k + j + 1 from rfl]
    exact q.sup zsup
 all_goals refine Ja ?_
 all_goals
  refine Jh (Ve (Je ?_))
  obtain ⟨g, o, rfl, hr⟩ := h1.addr (by omega)
  refine Jb (Jd rfl) U U U (Jb (Jd rfl) U U U (Jb (Jd rfl) U U U ?_))
  refine Jb (Jn hT U U U U U zix zix) U U U ?_
  refine Jb (Jo hT U U U (Rd1.bytesAt (bs := xs) (j := k) (hr [_]) (by omega) (by rw [show i5.size = 1 from rfl]; omega))) U U U ?_
  refine Jl rfl (l_buildSliceP hT U U U U U U U zfl rfl (fun b3 => ?_))
  refine Jl rfl (l_append hT U U U U U U U U zpk zrdn zln zoc zab zix rfl (fun ab4 cb4 hb4 => ?_))
  refine Jb (Jf rfl) U U U ?_
  refine Jg (Ju (Ja (Je (Jb (Jd rfl) U U U ?_))))
  refine Jb (Wa U U zwr) U U U ?_
  refine Jb (Jf rfl) U U U ?_
  refine Jg ?_
 all_goals
  refine Vt (s := (k, .slice a k c)) (k + 1, _) ⟨by dsimp only; omega, _, _, rfl⟩ ⟨U, U, U, U, trivial⟩ (fun w q => ?_) (by dsimp only; omega)
  have e : ints .u8 (xs.take (k + 1)) = ints .u8 (xs.take k) ++ [.int .u8 (xs.getD k 0)] := by
   rw [take_snocD xs (by omega)]
   simp only [ints, List.map_append, List.map_cons, List.map_nil]
  dsimp only
  rw [e]
  exact q.sup zsup
theorem rsame_spec (p q : Option Addr) (c1 c2 : Nat) (xs ys : List Int) (l : List HProp) (hp : InL l p xs.length c1 (ints .u8 xs)) (hq : InL l q ys.length c2 (ints .u8 ys)) (hb : xs.length ≤ 70368744177664) (hb2 : ys.length ≤ 70368744177664) :
 Fc prog E 92 [.slice p xs.length c1, .slice q ys.length c2].toArray l (fun v l' => v = .bool (decide (xs = ys)) ∧ l' = l) := by
 by_cases hl : xs.length = ys.length
 case neg =>
  have e : decide (xs = ys) = false := by simp; rintro rfl; exact hl rfl
  rw [e]
  refine Va (c := ?codeC) Tryz.func92 ?hb Tryz.ntmps92 ?hl ?_
  case hb => exact rfl
  case hl => exact rfl
  refine Jh (Je (Jb (Jf rfl) U U U ?_))
  refine Jg (Ja (Jh (Jh (Je (Jb (Jd rfl) U U U (Jb (Vf hT U U U) U U U (Jb (Jd rfl) U U U (Jb (Vf hT U U U) U U U (Jb (y_neq U U) U U U ?_)))))))))
  refine Jg (Ja ?_)
  refine J.cond_t rfl zbl ?_
  refine Jh (Je (Jb (Jf rfl) U U U ?_))
  refine Jg (Ja (Vn (Vb ?_)))
  refine Vi (.inl rfl) U U zrv ?_
  exact ⟨rfl, rfl⟩
 obtain ⟨n, hn⟩ : ∃ n, xs.length = n := ⟨_, rfl⟩
 have hn2 : ys.length = n := by omega
 have hxl : (ints .u8 xs).length = n := by simp [ints, hn]
 have hyl : (ints .u8 ys).length = n := by simp [ints, hn2]
 rw [hn] at hp hb
 rw [hn2] at hq
 rw [hn, hn2]
 refine Va (c := ?codeC) Tryz.func92 ?hb Tryz.ntmps92 ?hl ?_
 case hb => exact rfl
 case hl => exact rfl
 refine Jh (Je (Jb (Jf rfl) U U U ?_))
 refine Jg (Ja (Jh (Jh (Je (Jb (Jd rfl) U U U (Jb (Vf hT U U U) U U U (Jb (Jd rfl) U U U (Jb (Vf hT U U U) U U U (Jb (y_neq U U) U U U ?_)))))))))
 refine Jg (Ja ?_)
 refine Vk rfl zbl ?_
 refine Vd (Ja (Jh (Jh (Je (Jb (Jf rfl) U U U ?_)))))
 refine Jg (Ja (Ve ?_))
 refine Wn (α := Nat) (fun j => j ≤ n ∧ ∀ i, i < j → xs.getD i 0 = ys.getD i 0) (fun j => [(0, .slice p n c1), (1, .slice q n c2), (5, .int .i64 j)]) (fun _ => l) (fun j => n - j) 0 ⟨by omega, fun i hi => absurd hi (by omega)⟩ ⟨U, U, U, trivial⟩ (fun w h => h) ?_
 rintro j ⟨hj, hs⟩
 refine Jh (Jh (Je (Jb (Jd rfl) U U U (Jb (Jd rfl) U U U (Jb (Vf hT U U U) U U U (Jb (y_lss U U) U U U ?_))))))
 refine Jg (Ja ?_)
 first | apply Jx rfl | apply Vo rfl
 case' ht =>
  intro h
  try (first | exact zom | exact zho h | subst h)
  all_goals
   refine Vd ?_
 case' hf =>
  intro h
  try (first | exact zom | exact zho h | subst h)
  all_goals
   refine Wl (Jv (Jv (Vl (Ja (Jh (Je (Jb (Jf rfl) U U U ?_)))))))
   refine Jg (Ja (Vn ?_))
   refine Vi (.inl rfl) U U zrv ?_
   refine ⟨?_, rfl⟩
   congr 1
   first
    | have hjn : j = n := by omega
      refine (decide_eq_true ?_).symm
      refine List.ext_getElem (by omega) fun i h1 h2 => ?_
      have := hs i (by omega)
      rwa [List.getD_eq_getElem?_getD, List.getD_eq_getElem?_getD, List.getElem?_eq_getElem h1, List.getElem?_eq_getElem h2] at this
    | refine (decide_eq_false ?_).symm
      rintro rfl
      exact h rfl
 all_goals refine Ja ?_
 all_goals
  refine Jh (Ve (Jh ?_))
  refine Vz _ _ [(0, .q), (1, .q), (2, .q), (3, .q), (4, .q), (5, .q), (6, .q), (7, .q), (8, .q)] mixed (by kernel_rfl) (Jj) ?_
  have hlt : j < n := by omega
  obtain ⟨g1, o1, rfl, hr1⟩ := hp.addr (by omega)
  obtain ⟨g2, o2, rfl, hr2⟩ := hq.addr (by omega)
  refine zqm U U U U U (zqm U U U U U ?_)
  refine Jc U U U U (fun m => Jn hT U U U U U zix zix) ?_
  refine Jc U U U U (fun m => Jo hT U U U (Rd1.bytesAt (bs := xs) (j := j) (hr1 m) (by omega) (by rw [show i5.size = 1 from rfl]; omega))) ?_
  refine zqm U U U U U (zqm U U U U U ?_)
  refine Jc U U U U (fun m => Jn hT U U U U U zix zix) ?_
  refine Jc U U U U (fun m => Jo hT U U U (Rd1.bytesAt (bs := ys) (j := j) (hr2 m) (by omega) (by rw [show i5.size = 1 from rfl]; omega))) ?_
  refine Jc U U U U (fun m => y_neq U U) ?_
  refine Vv (Ja ?_)
  first | apply Jx rfl | apply Vo rfl
  case' ht =>
   intro h
   try (first | exact zom | exact zho h | subst h)
   all_goals
    refine Jh (Je (Jb (Jf rfl) U U U ?_))
    refine Jg (Ja (Vn (Vj (Vb (Vb (Vj (Vb ?_)))))))
    refine Vi (.inl rfl) U U zrv ?_
    refine ⟨?_, rfl⟩
    congr 1
    first
     | have hjn : j = n := by omega
       refine (decide_eq_true ?_).symm
       refine List.ext_getElem (by omega) fun i h1 h2 => ?_
       have := hs i (by omega)
       rwa [List.getD_eq_getElem?_getD, List.getD_eq_getElem?_getD, List.getElem?_eq_getElem h1, List.getElem?_eq_getElem h2] at this
     | refine (decide_eq_false ?_).symm
       rintro rfl
       exact h rfl
  case' hf =>
   intro h
   try (first | exact zom | exact zho h | subst h)
   all_goals
    refine Vd ?_
  all_goals refine Ju (Ja ?_)
  all_goals
   refine Je (Jb (Jd rfl) U U U ?_)
   refine Jb (Wa U U zwr) U U U ?_
   refine Jb (Jf rfl) U U U ?_
   refine Jg ?_
 all_goals
  refine Vt (s := j) (j + 1) ⟨by omega, fun i hi => ?_⟩ ⟨U, U, U, trivial⟩ (fun w q => q) (by omega)
  by_cases hij : i = j
  · subst hij
    exact Decidable.not_not.mp h
  · exact hs i (by omega)
end
end Go.Proofs.YtaopifoidbdniaaGreat
