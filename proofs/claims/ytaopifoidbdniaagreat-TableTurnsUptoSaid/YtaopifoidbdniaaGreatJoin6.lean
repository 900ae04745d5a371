import Derived.KernelRfl
import Derived.Test.YtaopifoidbdniaaGreatJoin1
import Derived.Test.YtaopifoidbdniaaGreatJoin2
import Derived.Test.YtaopifoidbdniaaGreatJoin3
namespace Go.Proofs.YtaopifoidbdniaaGreat
section
open Go Go.SL
/-! SHA-256, in plain Lean. -/
def rotr (x : BitVec 32) (n : Nat) : BitVec 32 := x >>> n ||| x <<< (32 - n)
def word4 (bs : List Int) (i : Nat) : BitVec 32 :=
 BitVec.ofInt 32 (bs.getD (4 * i) 0) <<< 24 ||| BitVec.ofInt 32 (bs.getD (4 * i + 1) 0) <<< 16 ||| BitVec.ofInt 32 (bs.getD (4 * i + 2) 0) <<< 8 ||| BitVec.ofInt 32 (bs.getD (4 * i + 3) 0)
def sig0 (x : BitVec 32) : BitVec 32 := rotr x 7 ^^^ rotr x 18 ^^^ x >>> 3
def sig1 (x : BitVec 32) : BitVec 32 := rotr x 17 ^^^ rotr x 19 ^^^ x >>> 10
def schedNext (bs : List Int) (ws : List (BitVec 32)) (i : Nat) : BitVec 32 :=
 if i < 16 then word4 bs i else ws.getD (i - 16) 0 + ws.getD (i - 7) 0 + sig0 (ws.getD (i - 15) 0) + sig1 (ws.getD (i - 2) 0)
def schedTo (bs : List Int) : Nat → List (BitVec 32)
 | 0 => []
 | i + 1 => schedTo bs i ++ [schedNext bs (schedTo bs i) i]
theorem schedTo_length (bs : List Int) : ∀ i, (schedTo bs i).length = i
 | 0 => rfl
 | i + 1 => by simp [schedTo, schedTo_length bs i]
structure S8 where
 a : BitVec 32
 b : BitVec 32
 c : BitVec 32
 d : BitVec 32
 e : BitVec 32
 f : BitVec 32
 g : BitVec 32
 h : BitVec 32
def S8.list (s : S8) : List (BitVec 32) := [s.a, s.b, s.c, s.d, s.e, s.f, s.g, s.h]
def ch (e f g : BitVec 32) : BitVec 32 := g ^^^ (e &&& (f ^^^ g))
def maj (a b c : BitVec 32) : BitVec 32 := (a &&& b) ||| (c &&& (a ||| b))
def S8.t1 (s : S8) (k w : BitVec 32) : BitVec 32 := s.h + (rotr s.e 6 ^^^ rotr s.e 11 ^^^ rotr s.e 25) + ch s.e s.f s.g + k + w
def S8.t2 (s : S8) : BitVec 32 := (rotr s.a 2 ^^^ rotr s.a 13 ^^^ rotr s.a 22) + maj s.a s.b s.c
def S8.rnd (s : S8) (k w : BitVec 32) : S8 := ⟨s.t1 k w + s.t2, s.a, s.b, s.c, s.d + s.t1 k w, s.e, s.f, s.g⟩
def K64 : List (BitVec 32) := [0x428a2f98#32, 0x71374491#32, 0xb5c0fbcf#32, 0xe9b5dba5#32, 0x3956c25b#32, 0x59f111f1#32, 0x923f82a4#32, 0xab1c5ed5#32, 0xd807aa98#32, 0x12835b01#32, 0x243185be#32, 0x550c7dc3#32, 0x72be5d74#32, 0x80deb1fe#32, 0x9bdc06a7#32, 0xc19bf174#32, 0xe49b69c1#32, 0xefbe4786#32, 0x0fc19dc6#32, 0x240ca1cc#32, 0x2de92c6f#32, 0x4a7484aa#32, 0x5cb0a9dc#32, 0x76f988da#32, 0x983e5152#32, 0xa831c66d#32, 0xb00327c8#32, 0xbf597fc7#32, 0xc6e00bf3#32, 0xd5a79147#32, 0x06ca6351#32, 0x14292967#32, 0x27b70a85#32, 0x2e1b2138#32, 0x4d2c6dfc#32, 0x53380d13#32, 0x650a7354#32, 0x766a0abb#32, 0x81c2c92e#32, 0x92722c85#32, 0xa2bfe8a1#32, 0xa81a664b#32, 0xc24b8b70#32, 0xc76c51a3#32, 0xd192e819#32, 0xd6990624#32, 0xf40e3585#32, 0x106aa070#32, 0x19a4c116#32, 0x1e376c08#32, 0x2748774c#32, 0x34b0bcb5#32, 0x391c0cb3#32, 0x4ed8aa4a#32, 0x5b9cca4f#32, 0x682e6ff3#32, 0x748f82ee#32, 0x78a5636f#32, 0x84c87814#32, 0x8cc70208#32, 0x90befffa#32, 0xa4506ceb#32, 0xbef9a3f7#32, 0xc67178f2#32]
theorem K64_length : K64.length = 64 := rfl
def init8 : S8 := ⟨0x6a09e667#32, 0xbb67ae85#32, 0x3c6ef372#32, 0xa54ff53a#32, 0x510e527f#32, 0x9b05688c#32, 0x1f83d9ab#32, 0x5be0cd19#32⟩
def roundsTo (ws : List (BitVec 32)) (s : S8) : Nat → S8
 | 0 => s
 | i + 1 => (roundsTo ws s i).rnd (K64.getD i 0) (ws.getD i 0)
def compress (s : S8) (bs : List Int) : S8 :=
 let q := roundsTo (schedTo bs 64) s 64
 ⟨s.a + q.a, s.b + q.b, s.c + q.c, s.d + q.d, s.e + q.e, s.f + q.f, s.g + q.g, s.h + q.h⟩
def absorb : Nat → S8 → List Int → S8
 | 0, s, _ => s
 | n + 1, s, bs => absorb n (compress s (bs.take 64)) (bs.drop 64)
def be64 (x : BitVec 64) : List Int := (List.range 8).map fun i => ((x >>> (8 * (7 - i))).toNat % 256 : Nat)
def padZ (n : Nat) : Nat := 63 - (n + 8) % 64
def shaPad (n : Nat) : List Int := (128 : Int) :: (List.replicate (padZ n) (0 : Int) ++ be64 (BitVec.ofInt 64 (n : Int) <<< 3))
theorem be64_length (x : BitVec 64) : (be64 x).length = 8 := by simp [be64]
theorem shaPad_length (n : Nat) : (shaPad n).length = padZ n + 9 := by simp [shaPad, be64_length]
def out4 (x : BitVec 32) : List Int := [((x >>> 24).toNat % 256 : Nat), ((x >>> 16).toNat % 256 : Nat), ((x >>> 8).toNat % 256 : Nat), (x.toNat % 256 : Nat)]
def shaOut (s : S8) : List Int := s.list.flatMap out4
def sha (bs : List Int) : List Int := shaOut (absorb ((bs ++ shaPad bs.length).length / 64) init8 (bs ++ shaPad bs.length))
theorem sha_length (bs : List Int) : (sha bs).length = 32 := rfl
def digit (c : Nat) : BitVec 32 := if (97 : Int) ≤ c then BitVec.ofInt 32 (IntKind.i32.wrap ((c : Int) - 97)) + 10#32 else BitVec.ofInt 32 (IntKind.i32.wrap ((c : Int) - 48))
def wordsStep (acc : List (BitVec 32)) (i c : Nat) : List (BitVec 32) :=
 let q := if i % 8 = 0 then acc ++ [0#32] else acc
 q.set (i / 8) (q.getD (i / 8) 0 <<< 4 ||| digit c)
def wordsTo (s : ByteArray) : Nat → List (BitVec 32)
 | 0 => []
 | i + 1 => wordsStep (wordsTo s i) i (s.data.getD i 0).toNat
theorem wordsTo_length (s : ByteArray) : ∀ i, (wordsTo s i).length = (i + 7) / 8
 | 0 => rfl
 | i + 1 => by
   have h := wordsTo_length s i
   simp only [wordsTo, wordsStep, List.length_set]
   split
   · rw [List.length_append, h]; simp; omega
   · rw [h]; omega
end
section
open Go Go.SL
attribute [local irreducible] J JL JE JM LS Y Fc RV Code.wp wpList Code.wpIn wpListIn
variable (E : World)
theorem shaTurn_spec (x : BitVec 32) (k : Nat) (hk : k ≤ 32) (l : List HProp) : Fc prog E 216 [W x, .int .i64 (k : Int)].toArray l (fun v l' => v = W (rotr x k) ∧ l' = l) := by
 refine Va (c := ?codeC) Tryz.func216 ?hb Tryz.ntmps216 ?hl ?_
 case hb => exact rfl
 case hl => exact rfl
 refine Jh (Je (Jb (Jf rfl) U U U ?_))
 refine Jg (Ja (Jh ?_))
 refine Vz _ _ [(0, .q), (1, .q), (2, .q), (3, .q), (4, .q), (5, .q), (6, .q), (7, .q), (8, .q)] mixed (by kernel_rfl) (Jj) ?_
 refine zqm U U U U U (zqm U U U U U ?_)
 refine Jc U U U U (fun m => (by first | exact y_shrW U U zix zix | exact y_shr U U zix (by rfl))) ?_
 refine zqm U U U U U (zqm U U U U U ?_)
 refine Jc U U U U (fun m => y_sub (m := ((32 - k : Nat) : Int)) U U (by rw [show (32 : Int) - k = ((32 - k : Nat) : Int) by omega]; exact Wm (by omega) (by omega))) ?_
 refine Jc U U U U (fun m => (by first | exact y_shlW U U zix zix | exact y_shl U U zix (by rfl))) ?_
 refine Jc U U U U (fun m => (by first | exact y_orW U U | exact y_bits U U (by rfl))) ?_
 refine Jc U U U U (fun m => Jf rfl) ?_
 refine Vv (Ja (Vn ?_))
 refine Vi (.inl rfl) U U zrv ?_
 exact ⟨rfl, rfl⟩
theorem shaWords_spec (s : ByteArray) (hs : ∀ i, i < s.size → (s.data.getD i 0).toNat < 128) (hn : s.size ≤ 1000000) (l : List HProp) :
 Fc prog E 196 [.string s].toArray l (fun v l' => ∃ a c, v = .slice a ((s.size + 7) / 8) c ∧ l' = own 239 1 v ((s.size + 7) / 8) ((wordsTo s s.size).map W) :: l) := by
 refine Wg ?_
 have hget : ∀ p (h : p < s.size), s[p]'h = s.data.getD p 0 := fun p h => by
  have h2 : p < s.data.size := h
  show s.data[p] = _
  simp [Array.getD]
  exact fun h3 => absurd h (by omega)
 refine Va (c := ?codeC) Tryz.func196 ?hb Tryz.ntmps196 ?hl ?_
 case hb => exact rfl
 case hl => exact rfl
 refine Jh (Je (Jb (Jf rfl) U U U ?_))
 refine Jg (Ja (Jh (Je (Jb (Jf rfl) U U U ?_))))
 refine Jg (Ja (Jh (Jh (Je (Jb (Jd rfl) U U U ?_)))))
 refine Jl rfl (l_range hT U U U U (fun bi => ?_))
 refine Jg (Ja (Ve ?_))
 refine Wn (α := Nat × Value) (fun q => q.1 ≤ s.size ∧ ∃ a c, q.2 = .slice a ((q.1 + 7) / 8) c) (fun q => [(3, q.2), (8, .pointer (some ⟨bi, 0, none⟩))]) (fun q => own 239 1 q.2 ((q.1 + 7) / 8) ((wordsTo s q.1).map W) :: blk bi (.stringIter s q.1) :: l) (fun q => s.size - q.1) (0, .slice none 0 0) ⟨by simp, none, 0, rfl⟩ ⟨U, U, trivial⟩ (fun w h => h.own_nil) ?_
 rintro ⟨j, v⟩ ⟨hj, hv⟩
 dsimp only at hj hv ⊢
 refine Jh (Je ?_)
 refine Jl rfl (l_next rfl zpk rfl (fun hlt => ⟨by rw [hget j hlt]; exact hs j hlt, ?_⟩) (fun hge => ?_))
 all_goals (refine Jb (Vg U U) U U U ?_)
 all_goals refine Jg (Ja ?_)
 all_goals
  refine Jh ?_
  first | apply Jx rfl | apply Vo rfl
  case' ht =>
   intro h
   try (first | exact zom | exact zho h | subst h)
   all_goals
    refine Vd ?_
  case' hf =>
   intro h
   try (first | exact zom | exact zho h | subst h)
   all_goals
    refine Wl (Jv (Jv (Vl (Ja (Jh (Je (Jb (Jd rfl) U U U (Jb (Jf rfl) U U U ?_))))))))
    refine Jg (Ja (Vn ?_))
    refine Vi (.inl rfl) U U zrv ?_
    obtain ⟨a, c, rfl⟩ := hv
    obtain rfl : j = s.size := by omega
    exact ⟨_, fun w q => q.sup zsup, a, c, rfl, rfl⟩
  all_goals refine Ja ?_
  all_goals
   refine Ve (Jh (Je (Jb (Vg U U) U U U (Jb (Vg U U) U U U (Jb (Jf rfl) U U U (Jb (Jf rfl) U U U ?_))))))
   refine Jg (Ja (Jh (Jh (Je (Jb (Jd rfl) U U U ?_)))))
   all_goals (refine Jb (y_rem U U (by decide) (show ((j : Nat) : Int).tmod 8 = ((j % 8 : Nat) : Int) from by rw [Int.tmod_eq_emod_of_nonneg (by omega)]; omega)) U U U ?_)
   refine Jb (y_eql U U) U U U ?_
   refine Jg (Ja ?_)
   first | apply Jx rfl | apply Vo rfl
   case' ht =>
    intro h
    try (first | exact zom | exact zho h | subst h)
    all_goals
     refine Je (Jb (Jd rfl) U U U ?_)
     refine Jl rfl (l_buildSliceP hT U U U U U U U zfl rfl (fun b1 => ?_))
     refine Jl rfl (l_append hT U U U U U U U U zpk zrdn zln zoc zab zix rfl (fun ab2 cb2 hb2 => ?_))
     refine Jb (Jf rfl) U U U ?_
     refine Jg ?_
   case' hf =>
    intro h
    try (first | exact zom | exact zho h | subst h)
    all_goals
     refine Vd ?_
   all_goals refine Ja ?_
   all_goals
    refine Jh ?_
    obtain ⟨a0, c0, hv0⟩ := hv
    have hwl := wordsTo_length s j
    have hQ : ∃ Q, Q = (if j % 8 = 0 then wordsTo s j ++ [0#32] else wordsTo s j) := ⟨_, rfl⟩
    obtain ⟨Q, hQ⟩ := hQ
    have hQl : Q.length = (j + 8) / 8 := by
     rw [hQ]
     split
     · rw [List.length_append, hwl]; simp; omega
     · rw [hwl]; omega
    first
     | (have hj8 : j % 8 = 0 := by omega
        rw [if_pos hj8] at hQ
        rw [show (j + 7) / 8 + 1 = (j + 8) / 8 by omega, show (wordsTo s j).map W ++ [Value.int .u32 0] = Q.map W by rw [hQ, List.map_append]; rfl])
     | (have hj8 : ¬ j % 8 = 0 := by omega
        rw [if_neg hj8] at hQ
        subst hv0
        rw [show (j + 7) / 8 = (j + 8) / 8 by omega, ← hQ])
    refine Je (Jb (Jd rfl) U U U ?_)
    refine Jb (y_sub U U zwr) U U U ?_
    refine Jb ((by first | exact y_convToW hT U U U U | exact y_conv hT U U U U zwr)) U U U ?_
    refine Jb (Jf rfl) U U U ?_
    refine Jg (Ja (Jh (Jh (Je (Jb (Jd rfl) U U U (Jb (y_geq U U) U U U ?_))))))
    refine Jg (Ja ?_)
    first | apply Jx rfl | apply Vo rfl
    case' ht =>
     intro h
     try (first | exact zom | exact zho h | subst h)
     all_goals
      refine Je (Jb (Jd rfl) U U U ?_)
      refine Jb (y_sub U U zwr) U U U ?_
      refine Jb ((by first | exact y_convToW hT U U U U | exact y_conv hT U U U U zwr)) U U U ?_
      refine Jb (y_addW (b := 10#32) U U) U U U ?_
      refine Jb (Jf rfl) U U U ?_
      refine Jg ?_
    case' hf =>
     intro h
     try (first | exact zom | exact zho h | subst h)
     all_goals
      refine Vd ?_
    all_goals refine Ja ?_
    all_goals
     refine J.fact (fun w q => Vu (k := (j + 8) / 8) (q.pick zpk)) fun oq => ?_
     obtain ⟨gq, hgq⟩ := oq.at_.resolve_right (fun ⟨h0, _⟩ => by have := oq.le; omega)
     cases hgq
     have hq : IntKind.i64.wrap ((j : Int).tdiv 8) = ((j / 8 : Nat) : Int) := by
      rw [show (j : Int).tdiv 8 = ((j / 8 : Nat) : Int) by rw [Int.tdiv_eq_ediv_of_nonneg (by omega)]; omega]
      exact Wm (by omega) (by omega)
     have hQj : (Q.map W)[j / 8]? = some (W (Q.getD (j / 8) 0)) := by
      rw [List.getElem?_map, List.getD_eq_getElem?_getD, List.getElem?_eq_getElem (by omega)]; rfl
     refine Je (Jb (Jd rfl) U U U (Jb (Jd rfl) U U U ?_))
     refine Jb (y_quo U U (by decide) hq) U U U ?_
     refine Jb (Jd rfl) U U U (Jb (Jd rfl) U U U ?_)
     refine Jb (y_quo U U (by decide) hq) U U U ?_
     refine Jb (Jn hT U U U U U zix zix) U U U ?_
     refine Jb (Jo hT U U U (Rd1.elem (RdN.own zpk) hQj)) U U U ?_
     refine Jb ((by first | exact y_shlW U U zix zix | exact y_shl U U zix (by rfl))) U U U ?_
     refine Jb (Jd rfl) U U U ?_
     refine Jb ((by first | exact y_orW U U | exact y_bits U U (by rfl))) U U U ?_
     refine Jb (Jn hT U U U U U zix zix) U U U ?_
     refine Jl rfl (l_storeOwn1 hT U U U U U zpk (show 0 + ((j / 8 : Nat) : Int).toNat * i239.size < (Q.map W).length by rw [List.length_map, hQl, show i239.size = 1 from rfl]; omega) ?_)
     refine Jg ?_
   all_goals refine Ju ?_
 all_goals
  first
   | refine Vt (s := (j, v)) (j + 1, _) ⟨by dsimp only; omega, _, _, rfl⟩ ⟨U, U, trivial⟩ (fun w q => ?_) (by dsimp only; omega)
   | refine Vt (s := (j, Value.slice (some ⟨gq, 0, none⟩) ((j + 7) / 8) c0)) (j + 1, _) ⟨by dsimp only; omega, _, _, rfl⟩ ⟨U, U, trivial⟩ (fun w q => ?_) (by dsimp only; omega)
  have e : wordsTo s (j + 1) = Q.set (j / 8) (Q.getD (j / 8) 0 <<< 4 ||| digit (s[j]'(by assumption)).toNat) := by
   rw [hget j (by assumption), hQ]
   show wordsStep (wordsTo s j) j (s.data.getD j 0).toNat = _
   unfold wordsStep
   simp only [hj8, if_true, if_false]
  dsimp only
  rw [e, show (j + 1 + 7) / 8 = (j + 8) / 8 by omega, List.map_set]
  rw [show 0 + ((j / 8 : Nat) : Int).toNat * i239.size = j / 8 by rw [show i239.size = 1 from rfl]; omega] at q
  unfold digit
  first
   | (rw [if_pos (by assumption)]; exact q.sup zsup)
   | (rw [if_neg (by assumption)]; exact q.sup zsup)
end
section
open Go Go.SL
def digitsS : ByteArray := ⟨#[52, 50, 56, 97, 50, 102, 57, 56, 55, 49, 51, 55, 52, 52, 57, 49, 98, 53, 99, 48, 102, 98, 99, 102, 101, 57, 98, 53, 100, 98, 97, 53, 51, 57, 53, 54, 99, 50, 53, 98, 53, 57, 102, 49, 49, 49, 102, 49, 57, 50, 51, 102, 56, 50, 97, 52, 97, 98, 49, 99, 53, 101, 100, 53,
100, 56, 48, 55, 97, 97, 57, 56, 49, 50, 56, 51, 53, 98, 48, 49, 50, 52, 51, 49, 56, 53, 98, 101, 53, 53, 48, 99, 55, 100, 99, 51, 55, 50, 98, 101, 53, 100, 55, 52, 56, 48, 100, 101, 98, 49, 102, 101, 57, 98, 100, 99, 48, 54, 97, 55, 99, 49, 57, 98, 102, 49, 55, 52,
101, 52, 57, 98, 54, 57, 99, 49, 101, 102, 98, 101, 52, 55, 56, 54, 48, 102, 99, 49, 57, 100, 99, 54, 50, 52, 48, 99, 97, 49, 99, 99, 50, 100, 101, 57, 50, 99, 54, 102, 52, 97, 55, 52, 56, 52, 97, 97, 53, 99, 98, 48, 97, 57, 100, 99, 55, 54, 102, 57, 56, 56, 100, 97,
57, 56, 51, 101, 53, 49, 53, 50, 97, 56, 51, 49, 99, 54, 54, 100, 98, 48, 48, 51, 50, 55, 99, 56, 98, 102, 53, 57, 55, 102, 99, 55, 99, 54, 101, 48, 48, 98, 102, 51, 100, 53, 97, 55, 57, 49, 52, 55, 48, 54, 99, 97, 54, 51, 53, 49, 49, 52, 50, 57, 50, 57, 54, 55,
50, 55, 98, 55, 48, 97, 56, 53, 50, 101, 49, 98, 50, 49, 51, 56, 52, 100, 50, 99, 54, 100, 102, 99, 53, 51, 51, 56, 48, 100, 49, 51, 54, 53, 48, 97, 55, 51, 53, 52, 55, 54, 54, 97, 48, 97, 98, 98, 56, 49, 99, 50, 99, 57, 50, 101, 57, 50, 55, 50, 50, 99, 56, 53,
97, 50, 98, 102, 101, 56, 97, 49, 97, 56, 49, 97, 54, 54, 52, 98, 99, 50, 52, 98, 56, 98, 55, 48, 99, 55, 54, 99, 53, 49, 97, 51, 100, 49, 57, 50, 101, 56, 49, 57, 100, 54, 57, 57, 48, 54, 50, 52, 102, 52, 48, 101, 51, 53, 56, 53, 49, 48, 54, 97, 97, 48, 55, 48,
49, 57, 97, 52, 99, 49, 49, 54, 49, 101, 51, 55, 54, 99, 48, 56, 50, 55, 52, 56, 55, 55, 52, 99, 51, 52, 98, 48, 98, 99, 98, 53, 51, 57, 49, 99, 48, 99, 98, 51, 52, 101, 100, 56, 97, 97, 52, 97, 53, 98, 57, 99, 99, 97, 52, 102, 54, 56, 50, 101, 54, 102, 102, 51,
55, 52, 56, 102, 56, 50, 101, 101, 55, 56, 97, 53, 54, 51, 54, 102, 56, 52, 99, 56, 55, 56, 49, 52, 56, 99, 99, 55, 48, 50, 48, 56, 57, 48, 98, 101, 102, 102, 102, 97, 97, 52, 53, 48, 54, 99, 101, 98, 98, 101, 102, 57, 97, 51, 102, 55, 99, 54, 55, 49, 55, 56, 102, 50]⟩
def startS : ByteArray := ⟨#[54, 97, 48, 57, 101, 54, 54, 55, 98, 98, 54, 55, 97, 101, 56, 53, 51, 99, 54, 101, 102, 51, 55, 50, 97, 53, 52, 102, 102, 53, 51, 97, 53, 49, 48, 101, 53, 50, 55, 102, 57, 98, 48, 53, 54, 56, 56, 99, 49, 102, 56, 51, 100, 57, 97, 98, 53, 98, 101, 48, 99, 100, 49, 57]⟩
theorem digits_size : digitsS.size = 512 := by kernel_rfl
theorem start_size : startS.size = 64 := by kernel_rfl
theorem digits_words : wordsTo digitsS 512 = K64 := by kernel_rfl
theorem start_words : wordsTo startS 64 = init8.list := by kernel_rfl
theorem digits_ascii : ∀ i, i < digitsS.size → (digitsS.data.getD i 0).toNat < 128 := by
 have h : (List.range 512).all (fun i => Nat.blt (digitsS.data.getD i 0).toNat 128) = true := by kernel_rfl
 intro i hi
 rw [digits_size] at hi
 exact Nat.le_of_ble_eq_true (List.all_eq_true.1 h i (List.mem_range.2 hi))
theorem start_ascii : ∀ i, i < startS.size → (startS.data.getD i 0).toNat < 128 := by
 have h : (List.range 64).all (fun i => Nat.blt (startS.data.getD i 0).toNat 128) = true := by kernel_rfl
 intro i hi
 rw [start_size] at hi
 exact Nat.le_of_ble_eq_true (List.all_eq_true.1 h i (List.mem_range.2 hi))
end
section
open Go Go.SL
attribute [local irreducible] J JL JE JM LS Y Fc RV Code.wp wpList Code.wpIn wpListIn
variable (E : World)
def hcells (st : List (BitVec 32)) (kp : Option Addr) (kc : Nat) (rest : List Int) (n : Int) : List Value := st.map W ++ (.slice kp 64 kc :: (ints .u8 rest ++ [.int .i64 n]))
set_option maxRecDepth 100000 in
theorem shaNew_spec (l : List HProp) : Fc prog E 176 [].toArray l (fun v l' => ∃ b kp kc, v = .pointer (some ⟨b, 0, none⟩) ∧ l' = row b 294 (hcells init8.list kp kc (List.replicate 64 0) 0) :: own 239 1 (.slice kp 64 kc) 64 (K64.map W) :: l) := by
 refine Wg ?_
 have hd : ∀ l, Fc prog E 196 [.string digitsS].toArray l (fun v l' => ∃ a c, v = .slice a 64 c ∧ l' = own 239 1 v 64 (K64.map W) :: l) := fun l => by
  have h := shaWords_spec E digitsS digits_ascii (by rw [digits_size]; omega) l
  rw [digits_size, digits_words] at h
  exact h
 have hs : ∀ l, Fc prog E 196 [.string startS].toArray l (fun v l' => ∃ a c, v = .slice a 8 c ∧ l' = own 239 1 v 8 (init8.list.map W) :: l) := fun l => by
  have h := shaWords_spec E startS start_ascii (by rw [start_size]; omega) l
  rw [start_size, start_words] at h
  exact h
 refine Va (c := ?codeC) Tryz.func176 ?hb Tryz.ntmps176 ?hl ?_
 case hb => exact rfl
 case hl => exact rfl
 refine Jh (Je (Jb (Jf rfl) U U U ?_))
 refine Jg (Ja (Jh (Je ?_)))
 refine Jl rfl (Jw e196 U U (hd _) ?_)
 rintro _ _ ⟨kp, kc, rfl, rfl⟩
 refine Jb (y_build (cs := hcells (List.replicate 8 0) kp kc (List.replicate 64 0) 0) hT U U U U U U ⟨⟨rfl, Nat.le_of_ble_eq_true rfl⟩, trivial⟩ rfl) U U U ?_
 refine Jl rfl (l_box rfl zcl rfl (fun b2 => ?_))
 refine Jb (Jf rfl) U U U ?_
 refine Jg (Ja (Jh ?_))
 refine Vz _ _ [(0, .q), (1, .q), (2, .q), (3, .q), (4, .l), (5, .l)] mixed (by kernel_rfl) (Ji (Jm) (Jj)) ?_
 refine zqm U U U U U ?_
 refine Jc U U U U (fun m => znc) ?_
 refine Jc U U U U (fun m => Jk hT U U U U U U) ?_
 refine Jc U U U U (fun m => y_slice_arr hT U U U U (.inl ⟨rfl, rfl⟩) (.inl ⟨rfl, rfl⟩) zix zix) ?_
 refine Vm U U (fun fr => Jw e196 U U (hs _) ?_)
 rintro _ _ ⟨sp, sc, rfl, rfl⟩
 refine ⟨[_, _], (by (repeat (first | exact Jj | exact Vc | refine Ji Jm ?_))), ?_⟩
 refine Vm U U (fun fr => LS.fact (fun w s => Vu (a := sp) (k := 8) (s.pick zpk)) fun os => l_copy hT U U U U U U zpk (os.inl zpk) rfl zix (Ws_one _) rfl ⟨[_, _], (by (repeat (first | exact Jj | exact Vc | refine Ji Jm ?_))), ?_⟩)
 refine Vv (Ja (Jh (Je (Jb (Jd rfl) U U U (Jb (Jf rfl) U U U ?_)))))
 refine Jg (Ja (Vn ?_))
 refine Vi (.inl rfl) U U zrv ?_
 exact ⟨_, fun w q => q.sup zsup, b2, kp, kc, rfl, rfl⟩
def schedW (bs : List Int) (i : Nat) : List (BitVec 32) := schedTo bs i ++ List.replicate (64 - i) 0
theorem schedW_length (bs : List Int) {i : Nat} (h : i ≤ 64) : (schedW bs i).length = 64 := by simp [schedW, schedTo_length]; omega
theorem schedW_get (bs : List Int) {i j : Nat} (h : j < i) : (schedW bs i).getD j 0 = (schedTo bs i).getD j 0 := by
 simp only [schedW, List.getD_eq_getElem?_getD]
 rw [List.getElem?_append_left (by rw [schedTo_length]; exact h)]
theorem schedW_next (bs : List Int) {i : Nat} (h : i < 64) : (schedW bs i).set i (schedNext bs (schedTo bs i) i) = schedW bs (i + 1) := by
 simp only [schedW, schedTo]
 rw [List.set_append_right _ _ (by rw [schedTo_length]; omega), schedTo_length, Nat.sub_self, show 64 - i = (64 - (i + 1)) + 1 by omega, List.replicate_succ, List.set_cons_zero]
 simp
theorem schedW_all (bs : List Int) : schedW bs 64 = schedTo bs 64 := by simp [schedW]
set_option maxRecDepth 20000 in
theorem shaStep_spec (b : Nat) (s : S8) (kp : Option Addr) (kc : Nat) (rest : List Int) (N : Int) (g o n cap : Nat) (bs : List Int) (l : List HProp) (_ : rest.length = 64) (hn : 64 ≤ n) (_ : n ≤ cap) (hb : 64 ≤ bs.length)
 (hr : ∀ st : List (BitVec 32), st.length = 8 → RdN (row b 294 (hcells st kp kc rest N) :: l) g o (ints .u8 bs)) (hK : InL l kp 64 kc (K64.map W)) :
 Fc prog E 197 [.pointer (some ⟨b, 0, none⟩), .slice (some ⟨g, o, none⟩) n cap].toArray (row b 294 (hcells s.list kp kc rest N) :: l) (fun v l' => v = .tuple #[] ∧ l' = row b 294 (hcells (compress s bs).list kp kc rest N) :: l) := by
 refine Fc.eqs ?_
 have hr0 : RdN (row b 294 (hcells s.list kp kc rest N) :: l) g o (ints .u8 bs) := hr s.list rfl
 obtain ⟨gk, ok, rfl, hrk⟩ := hK.addr (by omega)
 have hk0 : RdN l gk ok (K64.map W) := hrk []
 refine Va (c := ?codeC) Tryz.func197 ?hb Tryz.ntmps197 ?hl ?_
 case hb => exact rfl
 case hl => exact rfl
 refine Jh (Je ?_)
 refine Jl rfl (Wf hT U U zcl rfl (fun bw => ?_))
 refine Jg (Ja (Jh (Jh (Je (Jb (Jd rfl) U U U ?_)))))
 refine Jg (Ja (Ve ?_))
 refine Wn (α := Nat) (fun i => i ≤ 16) (fun i => [(0, .pointer (some ⟨b, 0, none⟩)), (1, .slice (some ⟨g, o, none⟩) n cap), (4, .pointer (some ⟨bw, 0, none⟩)), (23, .int .i64 i)]) (fun i => row bw 306 ((schedW bs i).map W) :: row b 294 (hcells s.list (some ⟨gk, ok, none⟩) kc rest N) :: l) (fun i => 16 - i) 0 (by omega) ⟨U, U, U, U, trivial⟩ (fun w h => h) ?_
 intro i hi
 have hwl := schedW_length bs (i := i) (by omega)
 refine Jh (Je (Jb (y_lss U U) U U U ?_))
 refine Jg (Ja (Jh ?_))
 first | apply Jx rfl | apply Vo rfl
 case' ht =>
  intro h
  try (first | exact zom | exact zho h | subst h)
  all_goals
   refine Vd ?_
 case' hf =>
  intro h
  try (first | exact zom | exact zho h | subst h)
  all_goals
   refine Wl (Jv (Jv (Vl (Ja (Jh (Jh (Je (Jb (Jf rfl) U U U ?_))))))))
   refine Jg (Ja (Ve ?_))
   have hi16 : i = 16 := by omega
   refine Wn (α := Nat) (fun i => 16 ≤ i ∧ i ≤ 64) (fun i => [(0, .pointer (some ⟨b, 0, none⟩)), (4, .pointer (some ⟨bw, 0, none⟩)), (6, .int .i64 i)]) (fun i => row bw 306 ((schedW bs i).map W) :: row b 294 (hcells s.list (some ⟨gk, ok, none⟩) kc rest N) :: l) (fun i => 64 - i) 16 (by omega) ⟨U, U, U, trivial⟩ (fun w h => by rw [hi16] at h; exact h) ?_
   clear hi16 hwl h hi
   clear i
   intro i hi
   have hwl := schedW_length bs (i := i) (by omega)
   refine Jh (Jh (Je (Jb (Jd rfl) U U U (Jb (y_lss U U) U U U ?_))))
   refine Jg (Ja ?_)
   first | apply Jx rfl | apply Vo rfl
   case' ht =>
    intro h
    try (first | exact zom | exact zho h | subst h)
    all_goals
     refine Vd ?_
   case' hf =>
    intro h
    try (first | exact zom | exact zho h | subst h)
    all_goals
     refine Wl (Jv (Jv (Vl (Ja (Jh ?_)))))
     have hi64 : i = 64 := by omega
     rw [hi64]
     clear hi64 hwl h hi
     clear i
     have hwl := schedW_length bs (i := 64) (by omega)
     rw [schedW_all] at hwl ⊢
     obtain ⟨ws, hws⟩ : ∃ ws, schedTo bs 64 = ws := ⟨_, rfl⟩
     rw [hws] at hwl ⊢
     refine Vz _ _ [(0, .q), (1, .q), (2, .q), (3, .q), (4, .q), (5, .q), (6, .q), (7, .q), (8, .q), (9, .q), (10, .q), (11, .q), (12, .q), (13, .q), (14, .q), (15, .q), (16, .q), (17, .q), (18, .q), (19, .q), (20, .q), (21, .q), (22, .q), (23, .q), (24, .q), (25, .q), (26, .q), (27, .q), (28, .q), (29, .q), (30, .q), (31, .q), (32, .q), (33, .q), (34, .q), (35, .q), (36, .q), (37, .q), (38, .q), (39, .q), (40, .q), (41, .q), (42, .q), (43, .q), (44, .q), (45, .q), (46, .q), (47, .q)] mixed (by kernel_rfl) (Jj) ?_
     refine zqm U U U U U ?_
     refine Jc U U U U (fun m => znc) ?_
     refine Jc U U U U (fun m => Jk hT U U U U U U) ?_
     refine Jc U U U U (fun m => Wk hT U U U U U zix zix) ?_
     refine Jc U U U U (fun m => Jo hT U U U zrda) ?_
     refine zqm U U U U U ?_
     refine Jc U U U U (fun m => znc) ?_
     refine Jc U U U U (fun m => Jk hT U U U U U U) ?_
     refine Jc U U U U (fun m => Wk hT U U U U U zix zix) ?_
     refine Jc U U U U (fun m => Jo hT U U U zrda) ?_
     refine zqm U U U U U ?_
     refine Jc U U U U (fun m => znc) ?_
     refine Jc U U U U (fun m => Jk hT U U U U U U) ?_
     refine Jc U U U U (fun m => Wk hT U U U U U zix zix) ?_
     refine Jc U U U U (fun m => Jo hT U U U zrda) ?_
     refine zqm U U U U U ?_
     refine Jc U U U U (fun m => znc) ?_
     refine Jc U U U U (fun m => Jk hT U U U U U U) ?_
     refine Jc U U U U (fun m => Wk hT U U U U U zix zix) ?_
     refine Jc U U U U (fun m => Jo hT U U U zrda) ?_
     refine zqm U U U U U ?_
     refine Jc U U U U (fun m => znc) ?_
     refine Jc U U U U (fun m => Jk hT U U U U U U) ?_
     refine Jc U U U U (fun m => Wk hT U U U U U zix zix) ?_
     refine Jc U U U U (fun m => Jo hT U U U zrda) ?_
     refine zqm U U U U U ?_
     refine Jc U U U U (fun m => znc) ?_
     refine Jc U U U U (fun m => Jk hT U U U U U U) ?_
     refine Jc U U U U (fun m => Wk hT U U U U U zix zix) ?_
     refine Jc U U U U (fun m => Jo hT U U U zrda) ?_
     refine zqm U U U U U ?_
     refine Jc U U U U (fun m => znc) ?_
     refine Jc U U U U (fun m => Jk hT U U U U U U) ?_
     refine Jc U U U U (fun m => Wk hT U U U U U zix zix) ?_
     refine Jc U U U U (fun m => Jo hT U U U zrda) ?_
     refine zqm U U U U U ?_
     refine Jc U U U U (fun m => znc) ?_
     refine Jc U U U U (fun m => Jk hT U U U U U U) ?_
     refine Jc U U U U (fun m => Wk hT U U U U U zix zix) ?_
     refine Jc U U U U (fun m => Jo hT U U U zrda) ?_
     refine Jc U U U U (fun m => Jf rfl) (Jc U U U U (fun m => Jf rfl) (Jc U U U U (fun m => Jf rfl) (Jc U U U U (fun m => Jf rfl) (Jc U U U U (fun m => Jf rfl) (Jc U U U U (fun m => Jf rfl) (Jc U U U U (fun m => Jf rfl) (Jc U U U U (fun m => Jf rfl) ?_)))))))
     refine Vv (Ja (Jh (Jh (Je ?_))))
     refine Jb (We hT U U U (RdN.rowAll zpk) (by rw [List.length_map, hwl]; rfl)) U U U ?_
     refine Jb (Jd rfl) U U U ?_
     refine Jg (Ja (Ve ?_))
     refine Wn (α := Nat) (fun i => i ≤ 64) (fun i => [(0, .pointer (some ⟨b, 0, none⟩)), (9, W (roundsTo ws s i).a), (10, W (roundsTo ws s i).b), (11, W (roundsTo ws s i).c), (12, W (roundsTo ws s i).d), (13, W (roundsTo ws s i).e), (14, W (roundsTo ws s i).f), (15, W (roundsTo ws s i).g), (16, W (roundsTo ws s i).h), (143, .agg (ws.map W).toArray), (144, .int .i64 i)]) (fun i => row b 294 (hcells s.list (some ⟨gk, ok, none⟩) kc rest N) :: l) (fun i => 64 - i) 0 (by omega) ⟨U, U, U, U, U, U, U, U, U, U, U, trivial⟩ (fun w h => h.sup zsup) ?_
     intro i hi
     have hki : (K64.map W)[i]? = some (W (K64.getD i 0)) ∨ 64 ≤ i := by
      rcases Nat.lt_or_ge i 64 with h | h
      · refine .inl ?_
        rw [List.getElem?_map, List.getD_eq_getElem?_getD, List.getElem?_eq_getElem (by rw [K64_length]; exact h)]; rfl
      · exact .inr h
     have hsi : (ws.map W)[i]? = some (W (ws.getD i 0)) ∨ 64 ≤ i := by
      rcases Nat.lt_or_ge i 64 with h | h
      · refine .inl ?_
        rw [List.getElem?_map, List.getD_eq_getElem?_getD, List.getElem?_eq_getElem (by rw [hwl]; exact h)]; rfl
      · exact .inr h
     refine Jh (Je (Jb (y_lss U U) U U U ?_))
     refine Jg (Ja (Jh ?_))
     first | apply Jx rfl | apply Vo rfl
     case' ht =>
      intro h
      try (first | exact zom | exact zho h | subst h)
      all_goals
       refine Vd ?_
     case' hf =>
      intro h
      try (first | exact zom | exact zho h | subst h)
      all_goals
       refine Wl (Jv (Jv (Vl (Ja (Jh ?_)))))
       have hi64 : i = 64 := by omega
       rw [hi64]
       clear hi64 h hki hsi hi
       clear i
       obtain ⟨q0, hq0⟩ : ∃ q0, roundsTo ws s 64 = q0 := ⟨_, rfl⟩
       rw [hq0]
       have hcmp : compress s bs = ⟨s.a + q0.a, s.b + q0.b, s.c + q0.c, s.d + q0.d, s.e + q0.e, s.f + q0.f, s.g + q0.g, s.h + q0.h⟩ := by rw [compress, hws, hq0]
       rw [hcmp]
       clear hcmp hq0
       obtain ⟨qa, qb, qc, qd, qe, qf, qg, qh⟩ := q0
       obtain ⟨sa, sb, sc, sd, se, sf, sg, sh⟩ := s
       dsimp only [S8.list]
       refine Je (Jb (Jd rfl) U U U (Jb (Jd rfl) U U U (Jb (Jd rfl) U U U (Jb (Jd rfl) U U U (Jb (Jd rfl) U U U (Jb (Jd rfl) U U U (Jb (Jd rfl) U U U (Jb (Jd rfl) U U U ?_))))))))
       refine Jb (y_buildArr (cs := [W qa, W qb, W qc, W qd, W qe, W qf, W qg, W qh]) hT U U U U U (by kernel_rfl)) U U U ?_
       refine Jb (Jd rfl) U U U ?_
       refine Jg (Ja (Ve ?_))
       refine Wn (α := Nat) (fun i => i ≤ 8) (fun i => [(0, .pointer (some ⟨b, 0, none⟩)), (215, .agg [W qa, W qb, W qc, W qd, W qe, W qf, W qg, W qh].toArray), (216, .int .i64 i)]) (fun i => row b 294 (hcells ([sa + qa, sb + qb, sc + qc, sd + qd, se + qe, sf + qf, sg + qg, sh + qh].take i ++ [sa, sb, sc, sd, se, sf, sg, sh].drop i) (some ⟨gk, ok, none⟩) kc rest N) :: l) (fun i => 8 - i) 0 (by omega) ⟨U, U, U, trivial⟩ (fun w h => h) ?_
       intro i hi
       refine Jh (Je (Jb (y_lss U U) U U U ?_))
       refine Jg (Ja (Jh ?_))
       first | apply Jx rfl | apply Vo rfl
       case' ht =>
        intro h
        try (first | exact zom | exact zho h | subst h)
        all_goals
         refine Vd ?_
       case' hf =>
        intro h
        try (first | exact zom | exact zho h | subst h)
        all_goals
         refine Wl (Jv (Jv (Vl ?_)))
         refine JE.ret0 (.inr rfl) U U  ?_
         obtain rfl : i = 8 := by omega
         exact ⟨rfl, fun w q => q.sup zsup⟩
       all_goals refine Ja ?_
       all_goals
        refine Jh (Ve (Jh (Je ?_)))
        rcases (by omega : i = 0 ∨ i = 1 ∨ i = 2 ∨ i = 3 ∨ i = 4 ∨ i = 5 ∨ i = 6 ∨ i = 7) with rfl | rfl | rfl | rfl | rfl | rfl | rfl | rfl <;> refine Jb (Jd rfl) U U U ?_
        all_goals (refine Jb (y_index1 hT U U U U U U U zix zix (by rfl)) U U U ?_)
        all_goals (refine Jb (Jf rfl) U U U ?_)
        all_goals (refine Jb (Jf rfl) U U U ?_)
        all_goals refine Jg (Ja ?_)
        all_goals
         refine Vz _ _ [(0, .q), (1, .q), (2, .q), (3, .q), (4, .q), (6, .q), (8, .q), (9, .q), (5, .l), (7, .q), (10, .q), (11, .l)] mixed (by kernel_rfl) (Ji (Jm) (Jj)) ?_
         refine zqm U U U U U (zqm U U U U U ?_)
         refine Jc U U U U (fun m => znc) ?_
         refine Jc U U U U (fun m => Jk hT U U U U U U) ?_
         refine Jc U U U U (fun m => Wk hT U U U U U zix zix) ?_
         refine zqm U U U U U ?_
         refine Jc U U U U (fun m => znc) ?_
         refine Jc U U U U (fun m => Jk hT U U U U U U) ?_
         refine Vm U U (fun fr => LS.ofY U U (Jo hT U U U zrd) ⟨[_], (by (repeat (first | exact Jj | exact Vc | refine Ji Jm ?_))), ?_⟩)
         refine Jc U U U U (fun m => (by first | exact y_addW U U | exact Wa U U zwr)) ?_
         refine Jc U U U U (fun m => Wk hT U U U U U zix zix) ?_
         refine Vm U U (fun fr => Vs hT U U U U U zpk zix (⟨[_], (by (repeat (first | exact Jj | exact Vc | refine Ji Jm ?_))), ?_⟩))
         refine Vv ?_
        all_goals refine Ju (Ja ?_)
        all_goals
         refine Je ?_
         refine Jb (Wa U U zwr) U U U ?_
         refine Jb (Jd rfl) U U U ?_
         refine Jg ?_
       all_goals
        first
         | exact Vt (s := 0) 1 (by omega) ⟨U, U, U, trivial⟩ (fun w q => q.sup zsup) (by omega)
         | exact Vt (s := 1) 2 (by omega) ⟨U, U, U, trivial⟩ (fun w q => q.sup zsup) (by omega)
         | exact Vt (s := 2) 3 (by omega) ⟨U, U, U, trivial⟩ (fun w q => q.sup zsup) (by omega)
         | exact Vt (s := 3) 4 (by omega) ⟨U, U, U, trivial⟩ (fun w q => q.sup zsup) (by omega)
         | exact Vt (s := 4) 5 (by omega) ⟨U, U, U, trivial⟩ (fun w q => q.sup zsup) (by omega)
         | exact Vt (s := 5) 6 (by omega) ⟨U, U, U, trivial⟩ (fun w q => q.sup zsup) (by omega)
         | exact Vt (s := 6) 7 (by omega) ⟨U, U, U, trivial⟩ (fun w q => q.sup zsup) (by omega)
         | exact Vt (s := 7) 8 (by omega) ⟨U, U, U, trivial⟩ (fun w q => q.sup zsup) (by omega)
     all_goals refine Ja ?_
     all_goals
      refine Jh (Ve (Jh (Je (Jb (Jd rfl) U U U ?_))))
      refine Jb (y_index1 hT U U U U U U U zix zix (hsi.resolve_right (by omega))) U U U ?_
      refine Jb (Jf rfl) U U U (Jb (Jf rfl) U U U ?_)
      refine Jg (Ja (Jh ?_))
      refine Vz _ _ [(0, .q), (1, .q), (2, .q), (3, .q), (4, .q), (5, .q), (6, .q), (7, .q), (8, .q), (9, .q), (10, .q), (11, .q), (12, .q), (13, .q), (14, .q), (15, .q), (16, .q), (17, .q), (18, .q), (19, .q), (20, .q), (21, .q), (22, .q), (23, .q), (24, .q), (25, .q), (26, .q), (27, .q), (28, .q)] mixed (by kernel_rfl) (Jj) ?_
      refine zqm U U U U U (zqm U U U U U ?_)
      refine Jc U U U U (fun m => y_callF e216 rfl (shaTurn_spec E _ 6 (by omega) _)) ?_
      refine zqm U U U U U ?_
      refine Jc U U U U (fun m => y_callF e216 rfl (shaTurn_spec E _ 11 (by omega) _)) ?_
      refine Jc U U U U (fun m => (by first | exact y_xorW U U | exact y_bits U U (by rfl))) ?_
      refine zqm U U U U U ?_
      refine Jc U U U U (fun m => y_callF e216 rfl (shaTurn_spec E _ 25 (by omega) _)) ?_
      refine Jc U U U U (fun m => (by first | exact y_xorW U U | exact y_bits U U (by rfl))) ?_
      refine Jc U U U U (fun m => (by first | exact y_addW U U | exact Wa U U zwr)) ?_
      refine zqm U U U U U (zqm U U U U U (zqm U U U U U (zqm U U U U U ?_)))
      refine Jc U U U U (fun m => (by first | exact y_xorW U U | exact y_bits U U (by rfl))) ?_
      refine Jc U U U U (fun m => (by first | exact y_andW U U | exact y_bits U U (by rfl))) ?_
      refine Jc U U U U (fun m => (by first | exact y_xorW U U | exact y_bits U U (by rfl))) ?_
      refine Jc U U U U (fun m => (by first | exact y_addW U U | exact Wa U U zwr)) ?_
      refine zqm U U U U U ?_
      refine Jc U U U U (fun m => znc) ?_
      refine Jc U U U U (fun m => Jk hT U U U U U U) ?_
      refine Jc U U U U (fun m => Jo hT U U U zrda) ?_
      refine zqm U U U U U ?_
      refine Jc U U U U (fun m => Jn hT U U U U U zix zix) ?_
      refine Jc U U U U (fun m => Jo hT U U U (Rd1.elem zri (hki.resolve_right (by omega)))) ?_
      refine Jc U U U U (fun m => (by first | exact y_addW U U | exact Wa U U zwr)) ?_
      refine zqm U U U U U ?_
      refine Jc U U U U (fun m => (by first | exact y_addW U U | exact Wa U U zwr)) ?_
      refine Jc U U U U (fun m => Jf rfl) ?_
      refine Vv (Ja (Jh (Je (Jb (Jd rfl) U U U ?_))))
      refine Jl rfl (Jw e216 U U (shaTurn_spec E _ 2 (by omega) _) ?_)
      rintro _ _ ⟨rfl, rfl⟩
      refine Jb (Jd rfl) U U U ?_
      refine Jl rfl (Jw e216 U U (shaTurn_spec E _ 13 (by omega) _) ?_)
      rintro _ _ ⟨rfl, rfl⟩
      refine Jb ((by first | exact y_xorW U U | exact y_bits U U (by rfl))) U U U ?_
      refine Jb (Jd rfl) U U U ?_
      refine Jl rfl (Jw e216 U U (shaTurn_spec E _ 22 (by omega) _) ?_)
      rintro _ _ ⟨rfl, rfl⟩
      refine Jb ((by first | exact y_xorW U U | exact y_bits U U (by rfl))) U U U ?_
      refine Jb (Jd rfl) U U U (Jb (Jd rfl) U U U ?_)
      refine Jb ((by first | exact y_andW U U | exact y_bits U U (by rfl))) U U U ?_
      refine Jb (Jd rfl) U U U (Jb (Jd rfl) U U U (Jb (Jd rfl) U U U ?_))
      refine Jb ((by first | exact y_orW U U | exact y_bits U U (by rfl))) U U U ?_
      refine Jb ((by first | exact y_andW U U | exact y_bits U U (by rfl))) U U U ?_
      refine Jb ((by first | exact y_orW U U | exact y_bits U U (by rfl))) U U U ?_
      refine Jb ((by first | exact y_addW U U | exact Wa U U zwr)) U U U ?_
      refine Jb (Jf rfl) U U U ?_
      refine Jg (Ja (Je (Jb (Jd rfl) U U U (Jb (Jd rfl) U U U ?_))))
      refine Jb ((by first | exact y_addW U U | exact Wa U U zwr)) U U U ?_
      refine Jb (Jd rfl) U U U (Jb (Jd rfl) U U U (Jb (Jd rfl) U U U (Jb (Jd rfl) U U U (Jb (Jd rfl) U U U ?_))))
      refine Jb ((by first | exact y_addW U U | exact Wa U U zwr)) U U U ?_
      refine Jb (Jd rfl) U U U (Jb (Jd rfl) U U U (Jb (Jd rfl) U U U (Jb (Jf rfl) U U U (Jb (Jf rfl) U U U (Jb (Jf rfl) U U U (Jb (Jf rfl) U U U (Jb (Jf rfl) U U U (Jb (Jf rfl) U U U (Jb (Jf rfl) U U U (Jb (Jf rfl) U U U ?_))))))))))
      refine Jg (Ju (Ja (Je ?_)))
      refine Jb (Wa U U zwr) U U U ?_
      refine Jb (Jd rfl) U U U ?_
      refine Jg ?_
     all_goals
      exact Vt (s := i) (i + 1) (by omega) ⟨U, U, U, U, U, U, U, U, U, U, U, trivial⟩ (fun w q => q.sup zsup) (by omega)
   all_goals refine Ja ?_
   all_goals
    refine Jh (Ve (Jh ?_))
    refine Vz _ _ [(0, .q), (1, .q), (2, .q), (3, .q), (4, .q), (5, .q), (6, .q), (7, .q), (8, .q), (9, .q)] mixed (by kernel_rfl) (Jj) ?_
    refine zqm U U U U U ?_
    refine Jc U U U U (fun m => y_sub U U zwr) ?_
    refine Jc U U U U (fun m => Wk hT U U U U U zix zix) ?_
    refine Jc U U U U (fun m => Jo hT U U U (Rd1.wordsAt (j := i - 15) (Vp m zpk) (by omega) (by rw [show i239.size = 1 from rfl]; omega))) ?_
    refine zqm U U U U U ?_
    refine Jc U U U U (fun m => y_sub U U zwr) ?_
    refine Jc U U U U (fun m => Wk hT U U U U U zix zix) ?_
    refine Jc U U U U (fun m => Jo hT U U U (Rd1.wordsAt (j := i - 2) (Vp m zpk) (by omega) (by rw [show i239.size = 1 from rfl]; omega))) ?_
    refine Jc U U U U (fun m => Jf rfl) (Jc U U U U (fun m => Jf rfl) ?_)
    refine Vv (Ja ?_)
    refine Vz _ _ [(0, .q), (1, .q), (2, .q), (3, .q), (5, .q), (6, .q), (7, .q), (10, .q), (11, .q), (12, .q), (13, .q), (14, .q), (15, .q), (16, .q), (17, .q), (19, .q), (20, .q), (21, .q), (22, .q), (23, .q), (24, .q), (25, .q), (26, .q), (4, .e), (8, .e), (9, .q), (18, .q), (27, .q), (28, .q), (29, .l)] mixed (by kernel_rfl) (Ji (Jm) (Jj)) ?_
    refine zqm U U U U U (zqm U U U U U ?_)
    refine Jc U U U U (fun m => y_sub U U zwr) ?_
    refine Jc U U U U (fun m => Wk hT U U U U U zix zix) ?_
    refine zqm U U U U U ?_
    refine Jc U U U U (fun m => y_sub U U zwr) ?_
    refine Jc U U U U (fun m => Wk hT U U U U U zix zix) ?_
    refine zqm U U U U U ?_
    refine Jc U U U U (fun m => y_callF e216 rfl (shaTurn_spec E _ 7 (by omega) _)) ?_
    refine zqm U U U U U ?_
    refine Jc U U U U (fun m => y_callF e216 rfl (shaTurn_spec E _ 18 (by omega) _)) ?_
    refine Jc U U U U (fun m => (by first | exact y_xorW U U | exact y_bits U U (by rfl))) ?_
    refine zqm U U U U U ?_
    refine Jc U U U U (fun m => (by first | exact y_shrW U U zix zix | exact y_shr U U zix (by rfl))) ?_
    refine Jc U U U U (fun m => (by first | exact y_xorW U U | exact y_bits U U (by rfl))) ?_
    refine zqm U U U U U ?_
    refine Jc U U U U (fun m => y_callF e216 rfl (shaTurn_spec E _ 17 (by omega) _)) ?_
    refine zqm U U U U U ?_
    refine Jc U U U U (fun m => y_callF e216 rfl (shaTurn_spec E _ 19 (by omega) _)) ?_
    refine Jc U U U U (fun m => (by first | exact y_xorW U U | exact y_bits U U (by rfl))) ?_
    refine zqm U U U U U ?_
    refine Jc U U U U (fun m => (by first | exact y_shrW U U zix zix | exact y_shr U U zix (by rfl))) ?_
    refine Jc U U U U (fun m => (by first | exact y_xorW U U | exact y_bits U U (by rfl))) ?_
    refine Wh U U U U (fun fr => Jo hT U U U (Rd1.wordsAt (j := i - 16) zpk (by omega) (by rw [show i239.size = 1 from rfl]; omega))) ?_
    refine Wh U U U U (fun fr => Jo hT U U U (Rd1.wordsAt (j := i - 7) zpk (by omega) (by rw [show i239.size = 1 from rfl]; omega))) ?_
    refine Jc U U U U (fun m => (by first | exact y_addW U U | exact Wa U U zwr)) ?_
    refine Jc U U U U (fun m => (by first | exact y_addW U U | exact Wa U U zwr)) ?_
    refine Jc U U U U (fun m => (by first | exact y_addW U U | exact Wa U U zwr)) ?_
    refine Jc U U U U (fun m => Wk hT U U U U U zix zix) ?_
    refine Vm U U (fun fr => Vs hT U U U U U zpk (by rw [List.length_map, hwl, show i239.size = 1 from rfl]; omega) ⟨[_], (by (repeat (first | exact Jj | exact Vc | refine Ji Jm ?_))), ?_⟩)
    refine Vv (Ju (Ja (Je (Jb (Jd rfl) U U U ?_))))
    refine Jb (Wa U U zwr) U U U ?_
    refine Jb (Jf rfl) U U U ?_
    refine Jg ?_
   all_goals
    refine Vt (s := i) (i + 1) (by omega) ⟨U, U, U, trivial⟩ (fun w q => ?_) (by omega)
    have e := schedW_next bs (i := i) (by omega)
    rw [schedNext, if_neg (by omega), ← schedW_get bs (i := i) (j := i - 16) (by omega), ← schedW_get bs (i := i) (j := i - 7) (by omega), ← schedW_get bs (i := i) (j := i - 15) (by omega), ← schedW_get bs (i := i) (j := i - 2) (by omega)] at e
    rw [← e, List.map_set]
    rw [show 0 + (i : Int).toNat * i239.size = i by rw [show i239.size = 1 from rfl]; omega] at q
    exact q.sup zsup
 all_goals refine Ja ?_
 all_goals
  refine Jh (Ve (Jh (Je (Jb (Jd rfl) U U U (Jb (Jf rfl) U U U ?_)))))
  refine Jg (Ja ?_)
  refine Vz _ _ [(0, .q), (1, .q), (2, .q), (3, .q), (4, .q), (5, .q), (6, .q), (7, .q), (8, .q), (9, .q), (10, .q), (11, .q), (12, .q), (13, .q), (14, .q), (15, .q), (16, .q), (17, .q), (18, .q), (19, .q), (20, .q), (21, .q), (22, .q), (23, .q), (24, .q), (25, .q), (26, .q), (27, .q), (28, .q), (29, .q), (30, .q), (31, .q), (32, .q), (33, .q), (34, .q), (35, .l)] mixed (by kernel_rfl) (Ji (Jm) (Jj)) ?_
  refine zqm U U U U U (zqm U U U U U (zqm U U U U U ?_))
  refine Jc U U U U (fun m => y_mul U U zwr) ?_
  refine Jc U U U U (fun m => Jn hT U U U U U zix zix) ?_
  refine Jc U U U U (fun m => Jo hT U U U (Rd1.bytesAt (j := 4 * i) zri (by omega) (by rw [show i5.size = 1 from rfl]; omega))) ?_
  refine Jc U U U U (fun m => (by first | exact y_convToW hT U U U U | exact y_conv hT U U U U zwr)) ?_
  refine Jc U U U U (fun m => (by first | exact y_shlW U U zix zix | exact y_shl U U zix (by rfl))) ?_
  refine zqm U U U U U (zqm U U U U U ?_)
  refine Jc U U U U (fun m => y_mul U U zwr) ?_
  refine Jc U U U U (fun m => Wa U U zwr) ?_
  refine Jc U U U U (fun m => Jn hT U U U U U zix zix) ?_
  refine Jc U U U U (fun m => Jo hT U U U (Rd1.bytesAt (j := 4 * i + 1) zri (by omega) (by rw [show i5.size = 1 from rfl]; omega))) ?_
  refine Jc U U U U (fun m => (by first | exact y_convToW hT U U U U | exact y_conv hT U U U U zwr)) ?_
  refine Jc U U U U (fun m => (by first | exact y_shlW U U zix zix | exact y_shl U U zix (by rfl))) ?_
  refine Jc U U U U (fun m => (by first | exact y_orW U U | exact y_bits U U (by rfl))) ?_
  refine zqm U U U U U (zqm U U U U U ?_)
  refine Jc U U U U (fun m => y_mul U U zwr) ?_
  refine Jc U U U U (fun m => Wa U U zwr) ?_
  refine Jc U U U U (fun m => Jn hT U U U U U zix zix) ?_
  refine Jc U U U U (fun m => Jo hT U U U (Rd1.bytesAt (j := 4 * i + 2) zri (by omega) (by rw [show i5.size = 1 from rfl]; omega))) ?_
  refine Jc U U U U (fun m => (by first | exact y_convToW hT U U U U | exact y_conv hT U U U U zwr)) ?_
  refine Jc U U U U (fun m => (by first | exact y_shlW U U zix zix | exact y_shl U U zix (by rfl))) ?_
  refine Jc U U U U (fun m => (by first | exact y_orW U U | exact y_bits U U (by rfl))) ?_
  refine zqm U U U U U (zqm U U U U U ?_)
  refine Jc U U U U (fun m => y_mul U U zwr) ?_
  refine Jc U U U U (fun m => Wa U U zwr) ?_
  refine Jc U U U U (fun m => Jn hT U U U U U zix zix) ?_
  refine Jc U U U U (fun m => Jo hT U U U (Rd1.bytesAt (j := 4 * i + 3) zri (by omega) (by rw [show i5.size = 1 from rfl]; omega))) ?_
  refine Jc U U U U (fun m => (by first | exact y_convToW hT U U U U | exact y_conv hT U U U U zwr)) ?_
  refine Jc U U U U (fun m => (by first | exact y_orW U U | exact y_bits U U (by rfl))) ?_
  refine Jc U U U U (fun m => Wk hT U U U U U zix zix) ?_
  refine Vm U U (fun fr => Vs hT U U U U U zpk (by rw [List.length_map, hwl, show i239.size = 1 from rfl]; omega) ⟨[_], (by (repeat (first | exact Jj | exact Vc | refine Ji Jm ?_))), ?_⟩)
  refine Vv (Ju (Ja (Je ?_)))
  refine Jb (Wa U U zwr) U U U ?_
  refine Jb (Jd rfl) U U U ?_
  refine Jg ?_
 all_goals
  refine Vt (s := i) (i + 1) (by omega) ⟨U, U, U, U, trivial⟩ (fun w q => ?_) (by omega)
  have e := schedW_next bs (i := i) (by omega)
  rw [schedNext, if_pos (by omega)] at e
  rw [← e, List.map_set]
  rw [show 0 + (i : Int).toNat * i239.size = i by rw [show i239.size = 1 from rfl]; omega] at q
  exact q.sup zsup
end
section
open Go Go.SL
theorem word4_take (bs : List Int) {i : Nat} (h : i < 16) : word4 (bs.take 64) i = word4 bs i := by
 have e : ∀ j, j < 64 → (bs.take 64).getD j 0 = bs.getD j 0 := fun j hj => by
  rw [List.getD_eq_getElem?_getD, List.getD_eq_getElem?_getD, List.getElem?_take, if_pos hj]
 unfold word4
 rw [e _ (by omega), e _ (by omega), e _ (by omega), e _ (by omega)]
theorem schedTo_take (bs : List Int) : ∀ i, schedTo (bs.take 64) i = schedTo bs i
 | 0 => rfl
 | i + 1 => by
   rw [schedTo, schedTo, schedTo_take bs i, schedNext, schedNext]
   by_cases h : i < 16
   · rw [if_pos h, if_pos h, word4_take bs h]
   · rw [if_neg h, if_neg h]
theorem compress_take (s : S8) (bs : List Int) : compress s (bs.take 64) = compress s bs := by
 unfold compress
 rw [schedTo_take]
theorem absorb_append : ∀ (n : Nat) (s : S8) (xs ys : List Int), 64 * n ≤ xs.length → absorb n s (xs ++ ys) = absorb n s xs
 | 0, _, _, _, _ => rfl
 | n + 1, s, xs, ys, h => by
   rw [absorb, absorb, List.take_append_of_le_length (by omega), List.drop_append_of_le_length (by omega), absorb_append n _ _ ys (by rw [List.length_drop]; omega)]
theorem absorb_snoc : ∀ (n : Nat) (s : S8) (xs : List Int), absorb (n + 1) s xs = compress (absorb n s xs) ((xs.drop (64 * n)).take 64)
 | 0, _, _ => rfl
 | n + 1, s, xs => by
   rw [absorb, absorb_snoc n, absorb, List.drop_drop, show 64 + 64 * n = 64 * (n + 1) by omega]
def shaA (xs : List Int) : S8 := absorb (xs.length / 64) init8 xs
theorem shaA_add {xs ys : List Int} (h : xs.length % 64 = 0) (hy : ys.length = 64) : shaA (xs ++ ys) = compress (shaA xs) ys := by
 have e : (xs ++ ys).length / 64 = xs.length / 64 + 1 := by rw [List.length_append]; omega
 unfold shaA
 rw [e, absorb_snoc, absorb_append _ _ _ _ (by omega)]
 congr 1
 rw [show 64 * (xs.length / 64) = xs.length by omega, List.drop_left', List.take_of_length_le (by omega)]
 rfl
theorem shaA_small {xs ys : List Int} (h : xs.length % 64 + ys.length < 64) : shaA (xs ++ ys) = shaA xs := by
 have e : (xs ++ ys).length / 64 = xs.length / 64 := by rw [List.length_append]; omega
 unfold shaA
 rw [e, absorb_append _ _ _ _ (by omega)]
structure HI (ms : List Int) (s : S8) (rest : List Int) : Prop where
 st : s = shaA ms
 len : rest.length = 64
 tail : rest.take (ms.length % 64) = ms.drop (64 * (ms.length / 64))
theorem HI.new : HI [] init8 (List.replicate 64 0) := ⟨rfl, rfl, rfl⟩
theorem HI.few {ms bs rest : List Int} {s : S8} (h : HI ms s rest) (hk : ms.length % 64 + bs.length < 64) : HI (ms ++ bs) s (rest.take (ms.length % 64) ++ bs ++ rest.drop (ms.length % 64 + bs.length)) := by
 have hl := h.len
 have e1 : (ms ++ bs).length % 64 = ms.length % 64 + bs.length := by rw [List.length_append]; omega
 have e2 : (ms ++ bs).length / 64 = ms.length / 64 := by rw [List.length_append]; omega
 have e3 : (rest.take (ms.length % 64)).length = ms.length % 64 := by rw [List.length_take]; omega
 refine ⟨by rw [shaA_small hk]; exact h.st, by simp; omega, ?_⟩
 rw [e1, e2, List.take_left' (by simp; omega), h.tail, List.drop_append_of_le_length (by omega)]
theorem HI.full {ms ys rest : List Int} {s : S8} (h : HI ms s rest) (hy : ms.length % 64 + ys.length = 64) : compress s (rest.take (ms.length % 64) ++ ys) = shaA (ms ++ ys) ∧ (ms ++ ys).length % 64 = 0 := by
 have hl := h.len
 have e0 : ms.take (64 * (ms.length / 64)) ++ ms.drop (64 * (ms.length / 64)) = ms := List.take_append_drop _ _
 have l0 : (ms.take (64 * (ms.length / 64))).length = 64 * (ms.length / 64) := by rw [List.length_take]; omega
 have l1 : (ms.drop (64 * (ms.length / 64))).length = ms.length % 64 := by rw [List.length_drop]; omega
 refine ⟨?_, by rw [List.length_append]; omega⟩
 rw [h.tail, h.st]
 have hs : shaA ms = shaA (ms.take (64 * (ms.length / 64))) := by
  by_cases hz : ms.length % 64 = 0
  · rw [List.take_of_length_le (by omega)]
  · conv => lhs; rw [← e0]
    exact shaA_small (by rw [l0, l1]; omega)
 rw [hs, ← shaA_add (by rw [l0]; omega) (by rw [List.length_append, l1]; omega), ← List.append_assoc, e0]
theorem HI.last {ms ys rest : List Int} (h0 : ms.length % 64 = 0) (hy : ys.length < 64) (hl : rest.length = 64) : HI (ms ++ ys) (shaA ms) (ys ++ rest.drop ys.length) := by
 have e1 : (ms ++ ys).length % 64 = ys.length := by rw [List.length_append]; omega
 have e2 : 64 * ((ms ++ ys).length / 64) = ms.length := by rw [List.length_append]; omega
 refine ⟨(shaA_small (by omega)).symm, by simp; omega, ?_⟩
 rw [e1, e2, List.take_left', List.drop_left']
 · rfl
 · rfl
end
section
open Go Go.SL
def hsh (b : Nat) (kp : Option Addr) (kc : Nat) (ms : List Int) : HProp := ex fun q : S8 × List Int => stars [pur (HI ms q.1 q.2), row b 294 (hcells q.1.list kp kc q.2 ms.length)]
section
variable {w : World} {b : Nat} {kp : Option Addr} {kc : Nat} {ms : List Int} {l : List HProp}
variable {E : World}
theorem hsh_open (s : Sat E (stars (hsh b kp kc ms :: l)) w) : ∃ st rest, HI ms st rest ∧ Sat E (stars (row b 294 (hcells st.list kp kc rest ms.length) :: l)) w := by
 obtain ⟨⟨st, rest⟩, s⟩ := s.ofex
 obtain ⟨h, s⟩ := s.unfold.ofpur
 exact ⟨st, rest, h, s⟩
theorem hsh_shut {st : S8} {rest : List Int} (h : HI ms st rest) (s : Sat E (stars (row b 294 (hcells st.list kp kc rest ms.length) :: l)) w) : Sat E (stars (hsh b kp kc ms :: l)) w :=
 Sat.toex (F := fun _ : S8 × List Int => _) (st, rest) (Sat.fold (m := [_, _]) (s.topur h))
theorem Fc.hsh_in {f : FuncId} {args : Array Value} {R : Value → List HProp → Prop} (h : ∀ st rest, HI ms st rest → Fc prog E f args (row b 294 (hcells st.list kp kc rest ms.length) :: l) R) : Fc prog E f args (hsh b kp kc ms :: l) R := fun w hs =>
 let ⟨st, rest, hH, s⟩ := hsh_open hs
 h st rest hH w s
end
attribute [local irreducible] J JL JE JM LS Y Fc RV Code.wp wpList Code.wpIn wpListIn
variable (E : World)
theorem hcells_split (st : List (BitVec 32)) (kp : Option Addr) (kc : Nat) (rest : List Int) (n : Int) : hcells st kp kc rest n = (st.map W ++ [.slice kp 64 kc]) ++ (ints .u8 rest ++ [.int .i64 n]) := by simp [hcells]
section
variable {st : List (BitVec 32)} {kp : Option Addr} {kc : Nat} {rest : List Int} {n : Int} (hs : st.length = 8) (hr : rest.length = 64)
include hs hr
theorem hcells_len : (hcells st kp kc rest n).length = 74 := by simp [hcells, ints, hs, hr]
theorem hcells_n : (hcells st kp kc rest n)[0 + 73]? = some (Value.int .i64 n) := by
 rw [hcells_split, List.getElem?_append_right (by simp [hs])]
 simp [hs, ints, hr]
theorem hcells_setn (m : Int) : (hcells st kp kc rest n).set (0 + 73) (.int .i64 m) = hcells st kp kc rest m := by
 rw [hcells_split, hcells_split, List.set_append_right _ _ (by simp [hs])]
 congr 1
 rw [List.set_append_right _ _ (by simp [hs, ints, hr])]
 simp [hs, ints, hr]
theorem hcells_rest : ((hcells st kp kc rest n).drop 9).take 64 = ints .u8 rest := by
 rw [hcells_split, List.drop_left' (by simp [hs]), List.take_left' (by simp [ints, hr])]
theorem hcells_copy {a k : Nat} (xs : List Int) (hk : xs.length = k) (hak : a + k ≤ 64) : (hcells st kp kc rest n).take (9 + a) ++ ints .u8 xs ++ (hcells st kp kc rest n).drop (9 + a + k) = hcells st kp kc (rest.take a ++ xs ++ rest.drop (a + k)) n := by
 have h9 : (st.map W ++ [Value.slice kp 64 kc]).length = 9 := by simp [hs]
 rw [hcells_split, hcells_split]
 have e1 : ((st.map W ++ [Value.slice kp 64 kc]) ++ (ints .u8 rest ++ [Value.int .i64 n])).take (9 + a) = (st.map W ++ [Value.slice kp 64 kc]) ++ (ints .u8 rest).take a := by
  rw [List.take_append, List.take_of_length_le (by omega), h9, show 9 + a - 9 = a by omega, List.take_append_of_le_length (by simp [ints, hr]; omega)]
 have e2 : ((st.map W ++ [Value.slice kp 64 kc]) ++ (ints .u8 rest ++ [Value.int .i64 n])).drop (9 + a + k) = (ints .u8 rest).drop (a + k) ++ [.int .i64 n] := by
  rw [List.drop_append, List.drop_of_length_le (by omega), h9, show 9 + a + k - 9 = a + k by omega, List.drop_append_of_le_length (by simp [ints, hr]; omega)]
  rfl
 rw [e1, e2]
 simp [ints]
end
theorem hcells_rd {b e : Nat} {st : List (BitVec 32)} {kp : Option Addr} {kc : Nat} {rest : List Int} {n : Int} (l : List HProp) (hs : st.length = 8) (hr : rest.length = 64) : RdN (row b e (hcells st kp kc rest n) :: l) b 9 (ints .u8 rest) :=
 RdN.row Jm (hcells_rest hs hr)
theorem shaWrite_spec0 (b : Nat) (kp : Option Addr) (kc : Nat) (ms : List Int) (s : S8) (rest : List Int) (p : Option Addr) (cap : Nat) (bs : List Int) (l : List HProp) (hH : HI ms s rest) (hin : InL l p bs.length cap (ints .u8 bs)) (hK : InL l kp 64 kc (K64.map W)) (hms : ms.length + bs.length ≤ 1152921504606846976) :
 Fc prog E 177 [.pointer (some ⟨b, 0, none⟩), .slice p bs.length cap].toArray (row b 294 (hcells s.list kp kc rest ms.length) :: l)
  (fun v l' => ∃ s' rest', HI (ms ++ bs) s' rest' ∧ v = .tuple #[] ∧ l' = row b 294 (hcells s'.list kp kc rest' ((ms.length + bs.length : Nat) : Int)) :: l) := by
 refine Wg ?_
 have hrl := hH.len
 have hs8 : ∀ s : S8, s.list.length = 8 := fun _ => rfl
 have hmod : ((ms.length : Nat) : Int).tmod 64 = ((ms.length % 64 : Nat) : Int) := by rw [Int.tmod_eq_emod_of_nonneg (by omega)]; omega
 obtain ⟨a, ha⟩ : ∃ a, ms.length % 64 = a := ⟨_, rfl⟩
 rw [ha] at hmod
 obtain ⟨N, hN⟩ : ∃ N : Nat, ms.length + bs.length = N := ⟨_, rfl⟩
 have hbl : (ints .u8 bs).length = bs.length := by simp [ints]
 refine Va (c := ?codeC) Tryz.func177 ?hb Tryz.ntmps177 ?hl ?_
 case hb => exact rfl
 case hl => exact rfl
 refine Jh (Je (Jb (Jd rfl) U U U ?_))
 refine Jb znc U U U ?_
 refine Jb (Jk hT U U U U U U) U U U ?_
 refine Jb (Jo hT U U U (Rd1.row zpk (hcells_n (hs8 s) hrl))) U U U ?_
 refine Jb (y_rem U U (by decide) hmod) U U U ?_
 refine Jb (Jf rfl) U U U ?_
 refine Jg (Ja (Jh (Je (Jb (Jd rfl) U U U ?_))))
 refine Jb znc U U U ?_
 refine Jb (Jk hT U U U U U U) U U U ?_
 refine Jb (Jo hT U U U (Rd1.row zpk (hcells_n (hs8 s) hrl))) U U U ?_
 refine Jb (Jd rfl) U U U (Jb (Vf hT U U U) U U U ?_)
 refine Jb (Wa (m := (N : Int)) U U (by rw [← hN, show ((ms.length : Nat) : Int) + ((bs.length : Nat) : Int) = ((ms.length + bs.length : Nat) : Int) by omega]; exact Wm (by omega) (by omega))) U U U ?_
 refine Jb znc U U U ?_
 refine Jb (Jk hT U U U U U U) U U U ?_
 refine Jl rfl (Vs hT U U U U U zpk (by rw [hcells_len (hs8 s) hrl]; decide) ?_)
 refine JL.pre (l' := row b 294 (hcells s.list kp kc rest N) :: l) (fun w q => by have e := hcells_setn (kp := kp) (kc := kc) (n := ms.length) (hs8 s) hrl (N : Int); rw [← e]; exact q) ?_
 refine Jg (Ja (Jh (Jh (Je (Jb (Jd rfl) U U U (Jb (y_gtr U U) U U U ?_))))))
 refine Jg (Ja ?_)
 first | apply Jx rfl | apply Vo rfl
 case' ht =>
  intro h
  try (first | exact zom | exact zho h | subst h)
  all_goals
   have ha0 : 0 < a := by omega
   have ha64 : a < 64 := by omega
   obtain ⟨k, hk⟩ : ∃ k, min bs.length (64 - a) = k := ⟨_, rfl⟩
   have hkb : k ≤ bs.length := by omega
   have htk : (bs.take k).length = k := by rw [List.length_take]; omega
   refine Jh (Je (Jb (Jd rfl) U U U ?_))
   refine Jb znc U U U ?_
   refine Jb (Jk hT U U U U U U) U U U (Jb (Jd rfl) U U U ?_)
   refine Jb (y_slice_arr (lo := a) (hi := 64) hT U U U U (.inr ⟨_, _, _, rfl, rfl, rfl⟩) (.inl ⟨rfl, rfl⟩) (by omega) (by omega)) U U U ?_
   rw [if_neg (show ¬ 64 = a by omega)]
   refine Jb (Jd rfl) U U U ?_
   refine Jl rfl (l_copy hT U U U U U U zpk zinl hbl (by rw [hcells_len (hs8 s) hrl]; show 0 + 9 + a * 1 + (64 - a) ≤ 74; omega) (ints_one _ _) rfl ?_)
   rw [hk]
   refine JL.pre (l' := row b 294 (hcells s.list kp kc (rest.take a ++ bs.take k ++ rest.drop (a + k)) N) :: l) (fun w q => by
    have e := hcells_copy (kp := kp) (kc := kc) (n := (N : Int)) (hs8 s) hrl (a := a) (bs.take k) htk (by omega)
    rw [← e]
    have e2 : ints .u8 (bs.take k) = (ints .u8 bs).take k := by simp [ints]
    rw [e2]
    have e3 : 0 + 9 + a * i5.size = 9 + a := by rw [show i5.size = 1 from rfl]; omega
    rw [← e3]
    exact q) ?_
   refine Jb (Jf rfl) U U U ?_
   refine Jg (Ja (Jh (Je ?_)))
   obtain ⟨g0, o0, hp0, hin1⟩ := hin.part (lo := k) (hi := bs.length) (k := 1) hkb (Nat.le_refl _) (by rw [hbl]; omega)
   refine Jb (Jd rfl) U U U (Jb (Jd rfl) U U U ?_)
   refine Jb (y_slice (lo := k) (hi := bs.length) hT U U U U (.inr ⟨_, _, _, rfl, rfl, rfl⟩) (.inl ⟨rfl, rfl⟩) hkb hin.le hin.le hp0) U U U ?_
   refine Jb (Jf rfl) U U U ?_
   refine Jg (Ja (Jh (Jh (Je (Jb (Jd rfl) U U U (Jb (Jd rfl) U U U ?_))))))
   refine Jb (Wa (m := ((a + k : Nat) : Int)) U U (by rw [show ((a : Nat) : Int) + ((k : Nat) : Int) = ((a + k : Nat) : Int) by omega]; exact Wm (by omega) (by omega))) U U U ?_
   refine Jb (y_lss U U) U U U ?_
   refine Jg (Ja ?_)
   first | apply Jx rfl | apply Vo rfl
   case' ht =>
    intro h
    try (first | exact zom | exact zho h | subst h)
    all_goals
     refine Vn (Vb (Vb ?_))
     refine JE.ret0 (.inl rfl) U U  ?_
     first
      | (have hkk : k = bs.length := by omega
         have hfew := hH.few (bs := bs) (by omega)
         rw [ha] at hfew
         refine ⟨_, fun w q => q, s, _, ?_, rfl, by rw [hN]⟩
         rw [hkk, List.take_length]
         exact hfew)
      | (have hlast := HI.last (ms := ms ++ bs.take j) (ys := bs.drop j) (rest := R) (by rw [List.length_append, List.length_take]; omega) (by rw [List.length_drop]; omega) hRl
         rw [List.append_assoc, List.take_append_drop, ← hst, List.length_drop] at hlast
         exact ⟨_, fun w q => q, st, _, hlast, rfl, by rw [hN]⟩)
   case' hf =>
    intro h
    try (first | exact zom | exact zho h | subst h)
    all_goals
     refine Vd ?_
   all_goals refine Ja ?_
   all_goals
    have hrl2 : (rest.take a ++ bs.take k ++ rest.drop (a + k)).length = 64 := by simp; omega
    have hfull := hH.full (ys := bs.take k) (by omega)
    have hdrop : rest.drop (a + k) = [] := List.drop_of_length_le (by omega)
    rw [ha] at hfull
    rw [hdrop, List.append_nil] at hrl2 ⊢
    refine Je (Jb (Jd rfl) U U U (Jb (Jd rfl) U U U ?_))
    refine Jb znc U U U ?_
    refine Jb (Jk hT U U U U U U) U U U ?_
    refine Jb (y_slice_arr hT U U U U (.inl ⟨rfl, rfl⟩) (.inl ⟨rfl, rfl⟩) zix zix) U U U ?_
    refine Jl rfl (Jw e197 U U (shaStep_spec E b s kp kc (rest.take a ++ bs.take k) N b 9 64 64 (rest.take a ++ bs.take k) l hrl2 (by omega) (by omega) (by omega) (fun st h => hcells_rd l h hrl2) hK) ?_)
    rintro _ _ ⟨rfl, rfl⟩
    refine Jg ?_
 case' hf =>
  intro h
  try (first | exact zom | exact zho h | subst h)
  all_goals
   refine Vd ?_
 all_goals refine Ja ?_
 all_goals
  refine Jh (Ve ?_)
  have hI0 : (ms.length % 64 = 0 → 0 ≤ bs.length ∧ (ms.length + 0) % 64 = 0 ∧ s = shaA (ms ++ bs.take 0) ∧ rest.length = 64 ∧ InL l p (bs.length - 0) (cap - 0) (ints .u8 (bs.drop 0))) := fun h0 => ⟨Nat.zero_le _, h0, by rw [List.take_zero, List.append_nil]; exact hH.st, hrl, hin⟩
  first
   | (refine Wn (α := Nat × Option Addr × S8 × List Int) (fun s => s.1 ≤ bs.length ∧ (ms.length + s.1) % 64 = 0 ∧ s.2.2.1 = shaA (ms ++ bs.take s.1) ∧ s.2.2.2.length = 64 ∧ InL l s.2.1 (bs.length - s.1) (cap - s.1) (ints .u8 (bs.drop s.1))) (fun s => [(0, .pointer (some ⟨b, 0, none⟩)), (1, .slice s.2.1 (bs.length - s.1) (cap - s.1))]) (fun s => row b 294 (hcells s.2.2.1.list kp kc s.2.2.2 N) :: l) (fun s => bs.length - s.1) (0, p, s, rest) (hI0 (by omega)) ⟨U, U, trivial⟩ (fun w h => h) ?_)
   | (refine Wn (α := Nat × Option Addr × S8 × List Int) (fun s => s.1 ≤ bs.length ∧ (ms.length + s.1) % 64 = 0 ∧ s.2.2.1 = shaA (ms ++ bs.take s.1) ∧ s.2.2.2.length = 64 ∧ InL l s.2.1 (bs.length - s.1) (cap - s.1) (ints .u8 (bs.drop s.1))) (fun s => [(0, .pointer (some ⟨b, 0, none⟩)), (1, .slice s.2.1 (bs.length - s.1) (cap - s.1))]) (fun s => row b 294 (hcells s.2.2.1.list kp kc s.2.2.2 N) :: l) (fun s => bs.length - s.1) (k, _, compress s (rest.take a ++ bs.take k), rest.take a ++ bs.take k) ⟨hkb, by have := hfull.2; rw [List.length_append, htk] at this; exact this, hfull.1, hrl2, by
       have e : (ints .u8 bs).drop (k * 1) = ints .u8 (bs.drop k) := by simp [ints]
       rw [e, List.take_of_length_le (by simp [ints])] at hin1
       exact hin1⟩ ⟨U, U, trivial⟩ (fun w h => h) ?_)
  rintro ⟨j, q, st, R⟩ ⟨hj, hjm, hst, hRl, hq⟩
  dsimp only at hj hjm hst hRl hq ⊢
  refine Jh (Jh (Je (Jb (Jd rfl) U U U (Jb (Vf hT U U U) U U U (Jb (y_geq U U) U U U ?_)))))
  refine Jg (Ja ?_)
  first | apply Jx rfl | apply Vo rfl
  case' ht =>
   intro h
   try (first | exact zom | exact zho h | subst h)
   all_goals
    refine Vd ?_
  case' hf =>
   intro h
   try (first | exact zom | exact zho h | subst h)
   all_goals
    refine Wl (Jv (Jv (Vl (Ja (Je (Jb (Jd rfl) U U U ?_))))))
    refine Jb znc U U U ?_
    refine Jb (Jk hT U U U U U U) U U U ?_
    refine Jb (y_slice_arr hT U U U U (.inl ⟨rfl, rfl⟩) (.inl ⟨rfl, rfl⟩) zix zix) U U U ?_
    refine Jb (Jd rfl) U U U ?_
    refine Jl rfl (l_copy (dLen := 64) hT U U U U U U zpk zinl (by simp [ints]) (by rw [hcells_len (hs8 st) hRl]; decide) (ints_one _ _) rfl ?_)
    rw [show min (bs.length - j) 64 = bs.length - j by omega]
    refine JL.pre (l' := row b 294 (hcells st.list kp kc (bs.drop j ++ R.drop (bs.length - j)) N) :: l) (fun w q => by
     have e := hcells_copy (kp := kp) (kc := kc) (n := (N : Int)) (hs8 st) hRl (a := 0) (k := bs.length - j) (bs.drop j) (by simp) (by omega)
     rw [List.take_zero, List.nil_append, Nat.zero_add] at e
     rw [← e]
     rw [List.take_of_length_le (show (ints .u8 (bs.drop j)).length ≤ bs.length - j by simp [ints])] at q
     exact q) ?_
    refine Jg ?_
    refine JE.ret0 (.inr rfl) U U  ?_
    first
     | (have hkk : k = bs.length := by omega
        have hfew := hH.few (bs := bs) (by omega)
        rw [ha] at hfew
        refine ⟨_, fun w q => q, s, _, ?_, rfl, by rw [hN]⟩
        rw [hkk, List.take_length]
        exact hfew)
     | (have hlast := HI.last (ms := ms ++ bs.take j) (ys := bs.drop j) (rest := R) (by rw [List.length_append, List.length_take]; omega) (by rw [List.length_drop]; omega) hRl
        rw [List.append_assoc, List.take_append_drop, ← hst, List.length_drop] at hlast
        exact ⟨_, fun w q => q, st, _, hlast, rfl, by rw [hN]⟩)
  all_goals refine Ja ?_
  all_goals
   refine Jh (Ve (Je ?_))
   obtain ⟨gq, oq, rfl, hqr⟩ := hq.addr (by omega)
   obtain ⟨g1, o1, hq1, hin2⟩ := hq.part (lo := 64) (hi := bs.length - j) (k := 1) (by omega) (Nat.le_refl _) (by simp [ints])
   refine Jb (Jd rfl) U U U (Jb (Jd rfl) U U U ?_)
   refine Jl rfl (Jw e197 U U (shaStep_spec E b st kp kc R N gq oq (bs.length - j) (cap - j) (bs.drop j) l hRl (by omega) (by have := hq.le; omega) (by simp; omega) (fun st h => (hqr []).cons _) hK) ?_)
   rintro _ _ ⟨rfl, rfl⟩
   refine Jg (Ju (Ja (Je (Jb (Jd rfl) U U U ?_))))
   refine Jb (y_slice (lo := 64) (hi := bs.length - j) hT U U U U (.inr ⟨_, _, _, rfl, rfl, rfl⟩) (.inl ⟨rfl, rfl⟩) (by omega) hq.le hq.le hq1) U U U ?_
   refine Jb (Jf rfl) U U U ?_
   refine Jg ?_
  all_goals
   refine Vt (s := (j, some ⟨gq, oq, none⟩, st, R)) (j + 64, _, compress st (bs.drop j), R) ⟨by dsimp only; omega, by dsimp only; omega, ?_, hRl, ?_⟩ ⟨rfl, by
    show some _ = some _
    rw [show bs.length - (j + 64) = bs.length - j - 64 by omega, show cap - (j + 64) = cap - j - 64 by omega], trivial⟩ (fun w q => q) (by dsimp only; omega)
   · dsimp only
     rw [hst, ← compress_take]
     have e : ms ++ bs.take (j + 64) = (ms ++ bs.take j) ++ (bs.drop j).take 64 := by rw [List.append_assoc, List.take_add]
     rw [e]
     exact (shaA_add (xs := ms ++ bs.take j) (ys := (bs.drop j).take 64) (by rw [List.length_append, List.length_take]; omega) (by rw [List.length_take, List.length_drop]; omega)).symm
   · dsimp only
     rw [show bs.length - (j + 64) = bs.length - j - 64 by omega, show cap - (j + 64) = cap - j - 64 by omega]
     have e : (ints .u8 (bs.drop j)).drop (64 * 1) = ints .u8 (bs.drop (j + 64)) := by simp [ints]
     rw [e, List.take_of_length_le (by simp [ints]; omega)] at hin2
     exact hin2
theorem shaWrite_spec (b : Nat) (kp : Option Addr) (kc : Nat) (ms : List Int) (p : Option Addr) (cap : Nat) (bs : List Int) (l : List HProp) (hin : InL l p bs.length cap (ints .u8 bs)) (hK : InL l kp 64 kc (K64.map W)) (hms : ms.length + bs.length ≤ 1152921504606846976) :
 Fc prog E 177 [.pointer (some ⟨b, 0, none⟩), .slice p bs.length cap].toArray (hsh b kp kc ms :: l) (fun v l' => v = .tuple #[] ∧ l' = hsh b kp kc (ms ++ bs) :: l) :=
 Fc.hsh_in fun st rest hH => Wg ((shaWrite_spec0 E b kp kc ms st rest p cap bs l hH hin hK hms).mono fun v l' ⟨s', rest', h1, h2, h3⟩ => ⟨_, fun w q => hsh_shut h1 (by rw [List.length_append]; exact h3 ▸ q), h2, rfl⟩)
end
section
open Go Go.SL
section
variable {E : World} {ρ : Option Nat} {n : Nat} {ds : List Deferred} {env : Fr} {c : Code} {Q : Exit → Act → World → Prop} {b : Nat} {kp : Option Addr} {kc : Nat} {ms : List Int} {l : List HProp}
theorem J.hsh (h : ∀ st rest, HI ms st rest → J prog E ρ n ds c Q env (row b 294 (hcells st.list kp kc rest ms.length) :: l)) : J prog E ρ n ds c Q env (Go.Proofs.YtaopifoidbdniaaGreat.hsh b kp kc ms :: l) := fun a w hf hs =>
 let ⟨st, rest, hH, s⟩ := hsh_open hs
 h st rest hH a w hf s
end
def padByte (n m : Nat) : Int := (((BitVec.ofInt 64 (n : Int) <<< 3) >>> (8 * m)).toNat % 256 : Nat)
def padI (n i : Nat) : List Int := (List.range (padZ n + 9)).map fun j => if j = 0 then 128 else if padZ n + 9 - i ≤ j then padByte n (padZ n + 8 - j) else 0
theorem padI_length (n i : Nat) : (padI n i).length = padZ n + 9 := by simp [padI]
theorem padI_next (n : Nat) {i : Nat} (h : i < 8) : (padI n i).set (padZ n + 8 - i) (padByte n i) = padI n (i + 1) := by
 apply List.ext_getElem?
 intro j
 rw [List.getElem?_set, padI_length]
 by_cases hj : j < padZ n + 9
 · by_cases he : padZ n + 8 - i = j
   · rw [if_pos he, if_pos (by omega)]
     simp only [padI, List.getElem?_map, List.getElem?_range hj, Option.map_some]
     rw [if_neg (by omega), if_pos (by omega), show padZ n + 8 - j = i by omega]
   · rw [if_neg he]
     simp only [padI, List.getElem?_map, List.getElem?_range hj, Option.map_some]
     by_cases h0 : j = 0
     · simp [h0]
     · rw [if_neg h0, if_neg h0]
       by_cases h1 : padZ n + 9 - i ≤ j
       · rw [if_pos h1, if_pos (by omega)]
       · rw [if_neg h1, if_neg (by omega)]
 · rw [if_neg (by omega), List.getElem?_eq_none (by rw [padI_length]; omega), List.getElem?_eq_none (by rw [padI_length]; omega)]
theorem padI_zero (n : Nat) : padI n 0 = (List.replicate (padZ n + 9) 0).set 0 128 := by
 apply List.ext_getElem?
 intro j
 rw [List.getElem?_set, List.length_replicate, List.getElem?_replicate]
 by_cases hj : j < padZ n + 9
 · simp only [padI, List.getElem?_map, List.getElem?_range hj, Option.map_some]
   by_cases h0 : 0 = j
   · subst h0; simp
   · rw [if_neg h0, if_pos hj, if_neg (fun e => h0 e.symm), if_neg (by omega)]
 · rw [List.getElem?_eq_none (by rw [padI_length]; omega), if_neg (show ¬ 0 = j by omega), if_neg hj]
theorem padI_all (n : Nat) : padI n 8 = shaPad n := by
 apply List.ext_getElem?
 intro j
 by_cases hj : j < padZ n + 9
 · simp only [padI, List.getElem?_map, List.getElem?_range hj, Option.map_some, shaPad]
   rcases Nat.eq_zero_or_pos j with h0 | h0
   · simp [h0]
   · obtain ⟨m, rfl⟩ : ∃ m, j = m + 1 := ⟨j - 1, by omega⟩
     rw [if_neg (by omega), List.getElem?_cons_succ, List.getElem?_append, List.length_replicate]
     by_cases h1 : m < padZ n
     · rw [if_pos h1, if_neg (by omega), List.getElem?_replicate, if_pos h1]
     · rw [if_neg h1, if_pos (by omega)]
       simp only [be64, List.getElem?_map]
       rw [List.getElem?_range (by omega)]
       simp only [Option.map_some, padByte]
       rw [show padZ n + 8 - (m + 1) = 7 - (m - padZ n) by omega]
 · rw [List.getElem?_eq_none (by rw [padI_length]; omega), List.getElem?_eq_none (by rw [shaPad_length]; omega)]
attribute [local irreducible] J JL JE JM LS Y Fc RV Code.wp wpList Code.wpIn wpListIn
variable (E : World)
theorem shaPad_spec (n : Nat) (hn : n ≤ 2305843009213693952) (l : List HProp) : Fc prog E 199 [.int .i64 (n : Int)].toArray l (fun v l' => ∃ b, v = .slice (some ⟨b, 0, none⟩) (padZ n + 9) (padZ n + 9) ∧ l' = row b 5 (ints .u8 (shaPad n)) :: l) := by
 refine Wg ?_
 have hz : padZ n ≤ 63 := by unfold padZ; omega
 have hmod : ((n + 8 : Nat) : Int).tmod 64 = (((n + 8) % 64 : Nat) : Int) := by rw [Int.tmod_eq_emod_of_nonneg (by omega)]; omega
 have hpz : 72 - (n + 8) % 64 = padZ n + 9 := by unfold padZ; omega
 refine Va (c := ?codeC) Tryz.func199 ?hb Tryz.ntmps199 ?hl ?_
 case hb => exact rfl
 case hl => exact rfl
 refine Jh (Je (Jb (Jf rfl) U U U ?_))
 refine Jg (Ja (Jh (Jh (Je (Jb (Jd rfl) U U U (Jb (y_lss U U) U U U ?_))))))
 refine Jg (Ja ?_)
 refine Vk rfl zbl ?_
 refine Vd (Ja (Jh (Je (Jb (Jd rfl) U U U ?_))))
 refine Jb (Wa (m := ((n + 8 : Nat) : Int)) U U (by rw [show ((n : Nat) : Int) + 8 = ((n + 8 : Nat) : Int) by omega]; exact Wm (by omega) (by omega))) U U U ?_
 refine Jb (y_rem U U (by decide) hmod) U U U ?_
 refine Jb (y_sub (m := ((64 - (n + 8) % 64 : Nat) : Int)) U U (by rw [show (64 : Int) - (((n + 8) % 64 : Nat) : Int) = ((64 - (n + 8) % 64 : Nat) : Int) by omega]; exact Wm (by omega) (by omega))) U U U ?_
 refine Jb (Wa (m := ((padZ n + 9 : Nat) : Int)) U U (by rw [show ((64 - (n + 8) % 64 : Nat) : Int) + 8 = ((padZ n + 9 : Nat) : Int) by omega]; exact Wm (by omega) (by omega))) U U U ?_
 refine Jl rfl (l_makeSlice hT U U U U U U (by omega) (by omega) (mk_fits rfl (by omega) (by omega)) (by omega) rfl (fun b => ?_))
 have hmk : (madeCells (Value.int .u8 0).cells (((padZ n + 9 : Nat) : Int).toNat * i5.size)).toList = ints .u8 (List.replicate (padZ n + 9) 0) := by
  rw [show (Value.int .u8 0).cells = (List.replicate 1 (Value.int .u8 0)).toArray from rfl, madeCells_rep _ (by omega)]
  simp [i5, ints]
  omega
 refine JL.pre (l' := row b 5 (ints .u8 (List.replicate (padZ n + 9) 0)) :: l) (fun w s => by rw [← hmk]; exact s) ?_
 refine Jb (Jf rfl) U U U ?_
 refine Jg (Ja (Jh (Je (Jb (Jd rfl) U U U ?_))))
 refine Jb (Jn hT U U U U U zix zix) U U U ?_
 refine Jl rfl (Vs hT U U U U U zpk (by show 0 + 0 * 1 < _; simp [ints]) ?_)
 refine JL.pre (l' := row b 5 (ints .u8 (padI n 0)) :: l) (fun w s => by
  have e : ints .u8 (padI n 0) = (ints .u8 (List.replicate (padZ n + 9) 0)).set 0 (.int .u8 128) := by rw [padI_zero, ints, ints, List.map_set]
  rw [e]
  exact s) ?_
 refine Jg (Ja (Jh (Je (Jb (Jd rfl) U U U ?_))))
 refine Jb ((by first | exact y_convToQ hT U U U U | exact y_conv hT U U U U zwr)) U U U ?_
 refine Jb ((by first | exact y_shlQ U U zix zix | exact y_shl U U zix (by rfl))) U U U ?_
 refine Jb (Jf rfl) U U U ?_
 refine Jg (Ja (Jh (Jh (Je (Jb (Jd rfl) U U U ?_)))))
 refine Jg (Ja (Ve ?_))
 refine Wn (α := Nat) (fun i => i ≤ 8) (fun i => [(3, .slice (some ⟨b, 0, none⟩) (padZ n + 9) (padZ n + 9)), (4, Q (BitVec.ofInt 64 (n : Int) <<< 3)), (19, .int .i64 i)]) (fun i => row b 5 (ints .u8 (padI n i)) :: l) (fun i => 8 - i) 0 (by omega) ⟨U, U, U, trivial⟩ (fun w h => h) ?_
 intro i hi
 refine Jh (Je (Jb (y_lss U U) U U U ?_))
 refine Jg (Ja (Jh ?_))
 first | apply Jx rfl | apply Vo rfl
 case' ht =>
  intro h
  try (first | exact zom | exact zho h | subst h)
  all_goals
   refine Vd ?_
 case' hf =>
  intro h
  try (first | exact zom | exact zho h | subst h)
  all_goals
   refine Wl (Jv (Jv (Vl (Ja (Jh (Je (Jb (Jd rfl) U U U (Jb (Jf rfl) U U U ?_))))))))
   refine Jg (Ja (Vn ?_))
   refine Vi (.inl rfl) U U zrv ?_
   obtain rfl : i = 8 := by omega
   rw [padI_all]
   exact ⟨_, fun w q => q, b, rfl, rfl⟩
 all_goals refine Ja ?_
 all_goals
  refine Jh (Ve (Jh (Je (Jb (Jd rfl) U U U (Jb (Jf rfl) U U U ?_)))))
  refine Jg (Ja (Je (Jb (Jd rfl) U U U (Jb (Jd rfl) U U U (Jb (Vf hT U U U) U U U ?_)))))
  refine Jb (y_sub U U zwr) U U U ?_
  refine Jb (Jd rfl) U U U ?_
  refine Jb (y_sub (m := ((padZ n + 8 - i : Nat) : Int)) U U (by rw [show ((padZ n + 9 : Nat) : Int) - 1 - ((i : Nat) : Int) = ((padZ n + 8 - i : Nat) : Int) by omega]; exact Wm (by omega) (by omega))) U U U ?_
  refine Jb (Jd rfl) U U U (Jb (Jd rfl) U U U ?_)
  refine Jb (y_mul U U zwr) U U U ?_
  refine Jb ((by first | exact y_shrQ U U zix zix | exact y_shr U U zix (by rfl))) U U U ?_
  refine Jb ((by first | exact y_convOfQ hT U U U U | exact y_conv hT U U U U zwr)) U U U ?_
  refine Jb (Jn hT U U U U U zix zix) U U U ?_
  refine Jl rfl (Vs hT U U U U U zpk (by rw [show i5.size = 1 from rfl]; simp [ints, padI_length]; omega) ?_)
  refine Jg (Ju (Ja (Je ?_)))
  refine Jb (Wa U U zwr) U U U ?_
  refine Jb (Jd rfl) U U U ?_
  refine Jg ?_
 all_goals
  refine Vt (s := i) (i + 1) (by omega) ⟨U, U, U, trivial⟩ (fun w q => ?_) (by omega)
  have e : (ints .u8 (padI n i)).set (padZ n + 8 - i) (.int .u8 (padByte n i)) = ints .u8 (padI n (i + 1)) := by rw [← padI_next n (by omega), ints, ints, List.map_set]
  rw [← e]
  have e2 : 0 + ((padZ n + 8 - i : Nat) : Int).toNat * i5.size = padZ n + 8 - i := by rw [show i5.size = 1 from rfl]; omega
  rw [e2, show ((8 : Int) * (i : Int)).toNat = 8 * i by omega] at q
  exact q
theorem hcopy_spec (b : Nat) (kp : Option Addr) (kc : Nat) (ms : List Int) (l : List HProp) :
 Fc prog E 198 [.pointer (some ⟨b, 0, none⟩)].toArray (hsh b kp kc ms :: l) (fun v l' => ∃ g, v = .pointer (some ⟨g, 0, none⟩) ∧ l' = hsh g kp kc ms :: hsh b kp kc ms :: l) := by
 refine Wg ?_
 refine Va (c := ?codeC) Tryz.func198 ?hb Tryz.ntmps198 ?hl ?_
 case hb => exact rfl
 case hl => exact rfl
 refine J.hsh fun st rest hH => ?_
 have hlen : (hcells st.list kp kc rest ms.length).length = 74 := hcells_len rfl hH.len
 have hone : ∀ u ∈ hcells st.list kp kc rest ms.length, u.oneCell' = true := by
  intro u hu
  simp only [hcells, List.mem_append, List.mem_cons, List.not_mem_nil, or_false] at hu
  rcases hu with h | rfl | h | rfl
  · exact Ws_one _ u h
  · rfl
  · exact ints_one _ _ u h
  · rfl
 refine Jh (Je (Jb (Jf rfl) U U U ?_))
 refine Jg (Ja (Jh (Jh (Je (Jb (Jd rfl) U U U (Jb (Wc hT U U U U) U U U ?_))))))
 refine Jg (Ja ?_)
 refine Vk rfl zbl ?_
 refine Vd (Ja (Jh (Je (Jb (Jd rfl) U U U ?_))))
 refine Jb znc U U U ?_
 refine Jb (We hT U U U zrdn zln) U U U ?_
 refine Jl rfl (Wf hT U U U U (fun g => ?_))
 refine Jl rfl (Vx hT U U U zln zoc zpk zln ?_)
 refine Jg (Ja (Jh (Je (Jb (Jf rfl) U U U ?_))))
 refine Jg (Ja (Vn ?_))
 refine Vi (.inl rfl) U U zrv ?_
 refine ⟨_, fun w q => ?_, g, rfl, rfl⟩
 exact (hsh_shut hH ((hsh_shut hH q).sup (p := row b 294 (hcells st.list kp kc rest ms.length) :: hsh g kp kc ms :: l) zsup)).sup zsup
set_option maxRecDepth 20000 in
theorem hsum_spec (b : Nat) (kp : Option Addr) (kc : Nat) (ms : List Int) (l : List HProp) (hK : InL l kp 64 kc (K64.map W)) (hms : ms.length ≤ 576460752303423488) :
 Fc prog E 178 [.pointer (some ⟨b, 0, none⟩)].toArray (hsh b kp kc ms :: l) (fun v l' => v = .agg (ints .u8 (sha ms)).toArray ∧ l' = hsh b kp kc ms :: l) := by
 refine Fc.eqs ?_
 have hpl : (shaPad ms.length).length = padZ ms.length + 9 := shaPad_length _
 have hpz : padZ ms.length ≤ 63 := by unfold padZ; omega
 have hw : ∀ g pb l', InL l' kp 64 kc (K64.map W) → InL l' (some ⟨pb, 0, none⟩) (padZ ms.length + 9) (padZ ms.length + 9) (ints .u8 (shaPad ms.length)) → Fc prog E 177 [.pointer (some ⟨g, 0, none⟩), .slice (some ⟨pb, 0, none⟩) (padZ ms.length + 9) (padZ ms.length + 9)].toArray (hsh g kp kc ms :: l') (fun v l'' => v = .tuple #[] ∧ l'' = hsh g kp kc (ms ++ shaPad ms.length) :: l') := fun g pb l' h1 h2 => by
  have h := shaWrite_spec E g kp kc ms (some ⟨pb, 0, none⟩) (padZ ms.length + 9) (shaPad ms.length) l' (by rwa [hpl]) h1 (by rw [hpl]; omega)
  rwa [hpl] at h
 refine Va (c := ?codeC) Tryz.func178 ?hb Tryz.ntmps178 ?hl ?_
 case hb => exact rfl
 case hl => exact rfl
 refine Jh (Je ?_)
 refine Jl rfl (Wf hT U U zcl rfl (fun br => ?_))
 refine Jg (Ja (Jh (Je ?_)))
 refine Jl rfl (Wf hT U U zcl rfl (fun bo => ?_))
 refine Jg (Ja (Jh (Jh (Je (Jb (Jd rfl) U U U (Jb (Wc hT U U U U) U U U ?_))))))
 refine Jg (Ja ?_)
 refine Vk rfl zbl ?_
 refine Vd (Ja (Jh (Je (Jb (Jd rfl) U U U ?_))))
 refine Jl rfl (Jw e198 U U (Vw (Ji zpk Jj) (hcopy_spec E b kp kc ms _)) ?_)
 rintro _ _ ⟨g, rfl, rfl⟩
 refine Jb (Jf rfl) U U U ?_
 refine Jg (Ja (Jh ?_))
 refine J.picks (A := hsh b kp kc ms) zpk (J.hsh fun st rest hH => ?_)
 refine Je (Jb (Jd rfl) U U U (Jb (Jd rfl) U U U ?_))
 refine Jb znc U U U ?_
 refine Jb (Jk hT U U U U U U) U U U ?_
 refine Jb (Jo hT U U U (Rd1.row zpk (hcells_n rfl hH.len))) U U U ?_
 refine Jl rfl (Jw e199 U U (shaPad_spec E ms.length (by omega) _) ?_)
 rintro _ _ ⟨pb, rfl, rfl⟩
 refine Jl rfl (Jw e177 U U (Vw (Ji zpk Jj) (hw g pb _ zinl (InL.ofRow Jm (by unfold maxLen; omega)))) ?_)
 rintro _ _ ⟨rfl, rfl⟩
 refine Jg (Ja (Jh (Jh ?_)))
 refine J.picks (A := hsh g kp kc (ms ++ shaPad ms.length)) zpk (J.hsh fun st2 rest2 hH2 => ?_)
 have hsha : sha ms = shaOut st2 := by rw [hH2.st]; rfl
 rw [hsha]
 clear hsha hH2
 obtain ⟨sa, sb, sc, sd, se, sf, sg, sh⟩ := st2
 refine Je (Jb (Jd rfl) U U U ?_)
 refine Jb znc U U U ?_
 refine Jb (Jk hT U U U U U U) U U U ?_
 refine Jb (We hT U U U (RdN.row (n := 8) (vs := [W sa, W sb, W sc, W sd, W se, W sf, W sg, W sh]) zpk rfl) rfl) U U U ?_
 refine Jb (Jd rfl) U U U ?_
 refine Jg (Ja (Ve ?_))
 refine Wn (α := Nat) (fun i => i ≤ 8) (fun i => [(2, .pointer (some ⟨br, 0, none⟩)), (3, .pointer (some ⟨bo, 0, none⟩)), (22, .agg [W sa, W sb, W sc, W sd, W se, W sf, W sg, W sh].toArray), (23, .int .i64 i)]) (fun i => row bo 120 (ints .u8 ((shaOut ⟨sa, sb, sc, sd, se, sf, sg, sh⟩).take (4 * i) ++ List.replicate (32 - 4 * i) 0)) :: row br 120 (List.replicate 32 (.int .u8 0)) :: row b 294 (hcells st.list kp kc rest ms.length) :: l) (fun i => 8 - i) 0 (by omega) ⟨U, U, U, U, trivial⟩ (fun w h => h.sup zsup) ?_
 intro i hi
 refine Jh (Je (Jb (y_lss U U) U U U ?_))
 refine Jg (Ja (Jh ?_))
 first | apply Jx rfl | apply Vo rfl
 case' ht =>
  intro h
  try (first | exact zom | exact zho h | subst h)
  all_goals
   refine Vd ?_
 case' hf =>
  intro h
  try (first | exact zom | exact zho h | subst h)
  all_goals
   refine Wl (Jv (Jv (Vl (Ja (Jh ?_)))))
   obtain rfl : i = 8 := by omega
   rw [show (shaOut ⟨sa, sb, sc, sd, se, sf, sg, sh⟩).take (4 * 8) ++ List.replicate (32 - 4 * 8) 0 = shaOut ⟨sa, sb, sc, sd, se, sf, sg, sh⟩ from rfl]
   refine Je ?_
   refine Jb (We hT U U U zrdn zln) U U U ?_
   refine Jl rfl (Vx hT U U U zln zoc zpk zln ?_)
   refine Jg (Ja (Vn ?_))
   refine Vi (.inl rfl) U U zrv ?_
   refine ⟨rfl, fun w q => hsh_shut hH (q.sup zsup)⟩
 all_goals refine Ja ?_
 all_goals
  refine Jh (Ve (Jh (Je ?_)))
  rcases (by omega : i = 0 ∨ i = 1 ∨ i = 2 ∨ i = 3 ∨ i = 4 ∨ i = 5 ∨ i = 6 ∨ i = 7) with rfl | rfl | rfl | rfl | rfl | rfl | rfl | rfl <;> refine Jb (Jd rfl) U U U ?_
  all_goals (refine Jb (y_index1 hT U U U U U U U zix zix (by rfl)) U U U ?_)
  all_goals (refine Jb (Jf rfl) U U U ?_)
  all_goals (refine Jb (Jf rfl) U U U ?_)
  all_goals refine Jg (Ja ?_)
  all_goals
   refine Je (Jb (Jd rfl) U U U ?_)
   refine Jb (y_mul U U zwr) U U U ?_
   refine Jb (Jd rfl) U U U ?_
   refine Jb (y_mul U U zwr) U U U ?_
   refine Jb (Wa U U zwr) U U U ?_
   refine Jb (Jd rfl) U U U ?_
   refine Jb (y_mul U U zwr) U U U ?_
   refine Jb (Wa U U zwr) U U U ?_
   refine Jb (Jd rfl) U U U ?_
   refine Jb (y_mul U U zwr) U U U ?_
   refine Jb (Wa U U zwr) U U U ?_
   refine Jb (Jd rfl) U U U ?_
   refine Jb ((by first | exact y_shrW U U zix zix | exact y_shr U U zix (by rfl))) U U U ?_
   refine Jb ((by first | exact y_convOfW hT U U U U | exact y_conv hT U U U U zwr)) U U U ?_
   refine Jb (Jd rfl) U U U ?_
   refine Jb ((by first | exact y_shrW U U zix zix | exact y_shr U U zix (by rfl))) U U U ?_
   refine Jb ((by first | exact y_convOfW hT U U U U | exact y_conv hT U U U U zwr)) U U U ?_
   refine Jb (Jd rfl) U U U ?_
   refine Jb ((by first | exact y_shrW U U zix zix | exact y_shr U U zix (by rfl))) U U U ?_
   refine Jb ((by first | exact y_convOfW hT U U U U | exact y_conv hT U U U U zwr)) U U U ?_
   refine Jb (Jd rfl) U U U ?_
   refine Jb ((by first | exact y_convOfW hT U U U U | exact y_conv hT U U U U zwr)) U U U ?_
   refine Jb (Wk hT U U U U U zix zix) U U U ?_
   refine Jl rfl (Vs hT U U U U U zpk zix ?_)
   refine Jb (Wk hT U U U U U zix zix) U U U ?_
   refine Jl rfl (Vs hT U U U U U zpk zix ?_)
   refine Jb (Wk hT U U U U U zix zix) U U U ?_
   refine Jl rfl (Vs hT U U U U U zpk zix ?_)
   refine Jb (Wk hT U U U U U zix zix) U U U ?_
   refine Jl rfl (Vs hT U U U U U zpk zix ?_)
   refine Jg ?_
  all_goals refine Ju (Ja ?_)
  all_goals
   refine Je ?_
   refine Jb (Wa U U zwr) U U U ?_
   refine Jb (Jd rfl) U U U ?_
   refine Jg ?_
 all_goals
  first
   | exact Vt (s := 0) 1 (by omega) ⟨U, U, U, U, trivial⟩ (fun w q => q.sup zsup) (by omega)
   | exact Vt (s := 1) 2 (by omega) ⟨U, U, U, U, trivial⟩ (fun w q => q.sup zsup) (by omega)
   | exact Vt (s := 2) 3 (by omega) ⟨U, U, U, U, trivial⟩ (fun w q => q.sup zsup) (by omega)
   | exact Vt (s := 3) 4 (by omega) ⟨U, U, U, U, trivial⟩ (fun w q => q.sup zsup) (by omega)
   | exact Vt (s := 4) 5 (by omega) ⟨U, U, U, U, trivial⟩ (fun w q => q.sup zsup) (by omega)
   | exact Vt (s := 5) 6 (by omega) ⟨U, U, U, U, trivial⟩ (fun w q => q.sup zsup) (by omega)
   | exact Vt (s := 6) 7 (by omega) ⟨U, U, U, U, trivial⟩ (fun w q => q.sup zsup) (by omega)
   | exact Vt (s := 7) 8 (by omega) ⟨U, U, U, U, trivial⟩ (fun w q => q.sup zsup) (by omega)
theorem hnew_spec (l : List HProp) : Fc prog E 176 [].toArray l (fun v l' => ∃ b kp kc, v = .pointer (some ⟨b, 0, none⟩) ∧ l' = hsh b kp kc [] :: own 239 1 (.slice kp 64 kc) 64 (K64.map W) :: l) :=
 Wg ((shaNew_spec E l).mono fun _ _ ⟨b, kp, kc, h1, h2⟩ => ⟨_, fun _ q => hsh_shut HI.new (h2 ▸ q), b, kp, kc, h1, rfl⟩)
theorem shaSum_spec (p : Option Addr) (cap : Nat) (bs : List Int) (l : List HProp) (hin : InL l p bs.length cap (ints .u8 bs)) (hn : bs.length ≤ 576460752303423488) :
 Fc prog E 148 [.slice p bs.length cap].toArray l (fun v l' => v = .agg (ints .u8 (sha bs)).toArray ∧ l' = l) := by
 refine Fc.eqs ?_
 refine Va (c := ?codeC) Tryz.func148 ?hb Tryz.ntmps148 ?hl ?_
 case hb => exact rfl
 case hl => exact rfl
 refine Jh (Je ?_)
 refine Jl rfl (Wf hT U U zcl rfl (fun b1 => ?_))
 refine Jg (Ja (Jh (Je ?_)))
 refine Jl rfl (Jw e176 U U (hnew_spec E _) ?_)
 rintro _ _ ⟨b, kp, kc, rfl, rfl⟩
 refine Jb (Jf rfl) U U U ?_
 refine Jg (Ja (Jh ?_))
 refine J.fact (fun w s => Vu (a := kp) (k := 64) (s.pick zpk)) fun ok => ?_
 refine Je (Jb (Jd rfl) U U U (Jb (Jd rfl) U U U ?_))
 refine Jl rfl (Jw e177 U U (Vw (Ji zpk Jj) (shaWrite_spec E b kp kc [] p cap bs _ zinl (ok.inl zpk) (by simp; omega))) ?_)
 rintro _ _ ⟨rfl, rfl⟩
 refine Jg (Ja (Jh (Je (Jb (Jd rfl) U U U ?_))))
 refine Jl rfl (Jw e178 U U (Vw (Ji zpk Jj) (hsum_spec E b kp kc bs _ (ok.inl zpk) hn)) ?_)
 rintro _ _ ⟨rfl, rfl⟩
 refine Jl rfl (Vx hT U U U zln zoc zpk zln ?_)
 refine Jg (Ja (Vn ?_))
 refine Vi (.inl rfl) U U zrv ?_
 exact ⟨rfl, fun w q => q.sup zsup⟩
end
section
open Go Go.SL
/-! The document's hash (hollowtreeref04) is the same one. -/
attribute [local irreducible] J JL JE JM LS Y Fc RV Code.wp wpList Code.wpIn wpListIn
variable (E : World)
end
section
open Go Go.SL
attribute [local irreducible] J JL JE JM LS Y Fc RV Code.wp wpList Code.wpIn wpListIn
variable (E : World)
end
end Go.Proofs.YtaopifoidbdniaaGreat
