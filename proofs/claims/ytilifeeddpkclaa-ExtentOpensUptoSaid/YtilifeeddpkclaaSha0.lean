import Derived.Test.YtilifeeddpkclaaSlMem
namespace Go.Proofs.Ytilifeeddpkclaa
open Go Go.SL
/-! SHA-256, in plain Lean. -/
def rotr (x : BitVec 32) (n : Nat) : BitVec 32 := x >>> n ||| x <<< (32 - n)
def word4 (bs : List Int) (i : Nat) : BitVec 32 :=
  BitVec.ofInt 32 (bs.getD (4 * i) 0) <<< 24 ||| BitVec.ofInt 32 (bs.getD (4 * i + 1) 0) <<< 16 ||| BitVec.ofInt 32 (bs.getD (4 * i + 2) 0) <<< 8 ||| BitVec.ofInt 32 (bs.getD (4 * i + 3) 0)
def sig0 (x : BitVec 32) : BitVec 32 := rotr x 7 ^^^ rotr x 18 ^^^ x >>> 3
def sig1 (x : BitVec 32) : BitVec 32 := rotr x 17 ^^^ rotr x 19 ^^^ x >>> 10
def schedNext (bs : List Int) (ws : List (BitVec 32)) (i : Nat) : BitVec 32 :=
  if i < 16 then word4 bs i else ws.getD (i - 16) 0 + ws.getD (i - 7) 0 + sig0 (ws.getD (i - 15) 0) + sig1 (ws.getD (i - 2) 0)
def schedTo (bs : List Int) : Nat → List (BitVec 32)
  | 0 => []
  | i + 1 => schedTo bs i ++ [schedNext bs (schedTo bs i) i]
theorem schedTo_length (bs : List Int) : ∀ i, (schedTo bs i).length = i
  | 0 => rfl
  | i + 1 => by simp [schedTo, schedTo_length bs i]
structure S8 where
  a : BitVec 32
  b : BitVec 32
  c : BitVec 32
  d : BitVec 32
  e : BitVec 32
  f : BitVec 32
  g : BitVec 32
  h : BitVec 32
def S8.list (s : S8) : List (BitVec 32) := [s.a, s.b, s.c, s.d, s.e, s.f, s.g, s.h]
def ch (e f g : BitVec 32) : BitVec 32 := g ^^^ (e &&& (f ^^^ g))
def maj (a b c : BitVec 32) : BitVec 32 := (a &&& b) ||| (c &&& (a ||| b))
def S8.t1 (s : S8) (k w : BitVec 32) : BitVec 32 := s.h + (rotr s.e 6 ^^^ rotr s.e 11 ^^^ rotr s.e 25) + ch s.e s.f s.g + k + w
def S8.t2 (s : S8) : BitVec 32 := (rotr s.a 2 ^^^ rotr s.a 13 ^^^ rotr s.a 22) + maj s.a s.b s.c
def S8.rnd (s : S8) (k w : BitVec 32) : S8 := ⟨s.t1 k w + s.t2, s.a, s.b, s.c, s.d + s.t1 k w, s.e, s.f, s.g⟩
theorem ch_eq (e f g : BitVec 32) : (e &&& f) ^^^ (~~~e &&& g) = ch e f g := by
  unfold ch
  apply BitVec.eq_of_getElem_eq
  intro i hi
  simp only [BitVec.getElem_xor, BitVec.getElem_and, BitVec.getElem_not]
  cases e[i] <;> cases f[i] <;> cases g[i] <;> rfl
theorem maj_eq (a b c : BitVec 32) : (a &&& b) ^^^ (a &&& c) ^^^ (b &&& c) = maj a b c := by
  unfold maj
  apply BitVec.eq_of_getElem_eq
  intro i hi
  simp only [BitVec.getElem_xor, BitVec.getElem_and, BitVec.getElem_or]
  cases a[i] <;> cases b[i] <;> cases c[i] <;> rfl
def K64 : List (BitVec 32) := [0x428a2f98#32, 0x71374491#32, 0xb5c0fbcf#32, 0xe9b5dba5#32, 0x3956c25b#32, 0x59f111f1#32, 0x923f82a4#32, 0xab1c5ed5#32, 0xd807aa98#32, 0x12835b01#32, 0x243185be#32, 0x550c7dc3#32, 0x72be5d74#32, 0x80deb1fe#32, 0x9bdc06a7#32, 0xc19bf174#32, 0xe49b69c1#32, 0xefbe4786#32, 0x0fc19dc6#32, 0x240ca1cc#32, 0x2de92c6f#32, 0x4a7484aa#32, 0x5cb0a9dc#32, 0x76f988da#32, 0x983e5152#32, 0xa831c66d#32, 0xb00327c8#32, 0xbf597fc7#32, 0xc6e00bf3#32, 0xd5a79147#32, 0x06ca6351#32, 0x14292967#32, 0x27b70a85#32, 0x2e1b2138#32, 0x4d2c6dfc#32, 0x53380d13#32, 0x650a7354#32, 0x766a0abb#32, 0x81c2c92e#32, 0x92722c85#32, 0xa2bfe8a1#32, 0xa81a664b#32, 0xc24b8b70#32, 0xc76c51a3#32, 0xd192e819#32, 0xd6990624#32, 0xf40e3585#32, 0x106aa070#32, 0x19a4c116#32, 0x1e376c08#32, 0x2748774c#32, 0x34b0bcb5#32, 0x391c0cb3#32, 0x4ed8aa4a#32, 0x5b9cca4f#32, 0x682e6ff3#32, 0x748f82ee#32, 0x78a5636f#32, 0x84c87814#32, 0x8cc70208#32, 0x90befffa#32, 0xa4506ceb#32, 0xbef9a3f7#32, 0xc67178f2#32]
theorem K64_length : K64.length = 64 := rfl
def init8 : S8 := ⟨0x6a09e667#32, 0xbb67ae85#32, 0x3c6ef372#32, 0xa54ff53a#32, 0x510e527f#32, 0x9b05688c#32, 0x1f83d9ab#32, 0x5be0cd19#32⟩
def roundsTo (ws : List (BitVec 32)) (s : S8) : Nat → S8
  | 0 => s
  | i + 1 => (roundsTo ws s i).rnd (K64.getD i 0) (ws.getD i 0)
def compress (s : S8) (bs : List Int) : S8 :=
  let q := roundsTo (schedTo bs 64) s 64
  ⟨s.a + q.a, s.b + q.b, s.c + q.c, s.d + q.d, s.e + q.e, s.f + q.f, s.g + q.g, s.h + q.h⟩
def absorb : Nat → S8 → List Int → S8
  | 0, s, _ => s
  | n + 1, s, bs => absorb n (compress s (bs.take 64)) (bs.drop 64)
/-- The filling. -/
def be64 (x : BitVec 64) : List Int := (List.range 8).map fun i => ((x >>> (8 * (7 - i))).toNat % 256 : Nat)
def padZ (n : Nat) : Nat := 63 - (n + 8) % 64
def shaPad (n : Nat) : List Int := (128 : Int) :: (List.replicate (padZ n) (0 : Int) ++ be64 (BitVec.ofInt 64 (n : Int) <<< 3))
theorem be64_length (x : BitVec 64) : (be64 x).length = 8 := by simp [be64]
theorem shaPad_length (n : Nat) : (shaPad n).length = padZ n + 9 := by simp [shaPad, be64_length]
def out4 (x : BitVec 32) : List Int := [((x >>> 24).toNat % 256 : Nat), ((x >>> 16).toNat % 256 : Nat), ((x >>> 8).toNat % 256 : Nat), (x.toNat % 256 : Nat)]
def shaOut (s : S8) : List Int := s.list.flatMap out4
/-- The hash of bytes. -/
def sha (bs : List Int) : List Int := shaOut (absorb ((bs ++ shaPad bs.length).length / 64) init8 (bs ++ shaPad bs.length))
theorem sha_length (bs : List Int) : (sha bs).length = 32 := rfl
/-- Words of a text of digits. -/
def digit (c : Nat) : BitVec 32 := if (97 : Int) ≤ c then BitVec.ofInt 32 (IntKind.i32.wrap ((c : Int) - 97)) + 10#32 else BitVec.ofInt 32 (IntKind.i32.wrap ((c : Int) - 48))
def wordsStep (acc : List (BitVec 32)) (i c : Nat) : List (BitVec 32) :=
  let q := if i % 8 = 0 then acc ++ [0#32] else acc
  q.set (i / 8) (q.getD (i / 8) 0 <<< 4 ||| digit c)
def wordsTo (s : ByteArray) : Nat → List (BitVec 32)
  | 0 => []
  | i + 1 => wordsStep (wordsTo s i) i (s.data.getD i 0).toNat
theorem wordsTo_length (s : ByteArray) : ∀ i, (wordsTo s i).length = (i + 7) / 8
  | 0 => rfl
  | i + 1 => by
    have h := wordsTo_length s i
    simp only [wordsTo, wordsStep, List.length_set]
    split
    · rw [List.length_append, h]; simp; omega
    · rw [h]; omega
end Go.Proofs.Ytilifeeddpkclaa
