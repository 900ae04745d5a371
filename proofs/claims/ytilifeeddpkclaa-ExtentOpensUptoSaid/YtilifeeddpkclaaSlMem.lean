import Derived.Test.YtilifeeddpkclaaSlAdd
import Derived.Laws.IdiomCopy
import Derived.Laws.CopyRow
import Derived.Lib.OthersKept
import Derived.Laws.RangeString
namespace Go.SL
open Go Go.RowKit
section
variable {P : Program} {E : World} {n : Nat} {ds : List Deferred} {env : Fr} {l r : List HProp} {T : Tab} {N : Fr → List HProp → Prop}
variable {d : Tmp} {dst : Option Tmp} {ty : TypeId} {pos : String} {af : Array Edge} {gd : Option (Nat × Bool)} {x y z : Operand} {v : Value} {t t' : TypeId} {o : Oper}
/-- The builtin copy, of cells one by one. -/
theorem l_copy (hT : Tok P T) {i j : TI} {e el : TypeId} {g off dLen dCap sLen sCap : Nat} {yp : Option Addr} {cur src : List Value} (hi : T.at t = some i) (hk : i.u = .slice el) (hj : T.at el = some j) (hsz : j.size = 1)
    (hx : val env x = some (.slice (some ⟨g, off, none⟩) dLen dCap)) (hy : val env y = some (.slice yp sLen sCap)) (hp : Pick l (row g e cur) r) (hin : InL l yp sLen sCap src) (hsl : src.length = sLen) (hfit : off + dLen ≤ cur.length) (h1 : ∀ u ∈ src, u.oneCell' = true) (hn : Nat.blt d n = true)
    (h : N ((d, .int .i64 (min sLen dLen : Nat)) :: env) (row g e (cur.take off ++ src.take (min sLen dLen) ++ cur.drop (off + min sLen dLen)) :: r)) :
    LS P E n ds ⟨some d, .call ⟨.builtin .copy, #[x, y], #[t, t']⟩, ty, pos, af, gd⟩ env l N :=
  LS.of hn rfl fun a w hf hs => by
    obtain ⟨hu, _⟩ := hT t i hi
    rw [hk] at hu
    have hs1 : (P.info? el).map (·.size) = some 1 := by obtain ⟨_, q, hq, hqs, _⟩ := hT el j hj; simp [hq, hqs, hsz]
    have s := hs.pick hp
    by_cases hm : min sLen dLen = 0
    · refine ⟨.int .i64 (min sLen dLen : Nat), w, row g e cur :: r, ?_, s, ?_⟩
      · have hr := run_copy_none (P := P) w t t' ty el (some ⟨g, off, none⟩) yp dLen dCap sLen sCap hu hs1 hm
        simp [execOp, resolve, invoke, builtin, hf.eval hx, hf.eval hy, hr, hm, goInt]
      · rw [hm] at h ⊢
        simpa using h
    · obtain ⟨b, oo, rfl, hr⟩ := hin.addr (by omega)
      have hlen : (src.take (min sLen dLen)).length = min sLen dLen := by rw [List.length_take]; omega
      have hrc := run_copy_row (P := P) w t t' ty el g off dLen dCap ⟨b, oo, none⟩ sLen sCap cur.toArray e (src.take (min sLen dLen)) hu hs1 s.block (by rw [hlen]) (fun j v hj => (hr []).cells hs j v (by
        rw [List.getElem?_take] at hj
        split at hj
        · exact hj
        · cases hj)) (by rw [hlen]; simp; omega) (fun u hu => h1 u (List.mem_of_mem_take hu))
      rw [hlen] at hrc
      refine ⟨.int .i64 (min sLen dLen : Nat), _, _, ?_, s.setRow (cur.take off ++ src.take (min sLen dLen) ++ cur.drop (off + min sLen dLen)), h⟩
      simp [execOp, resolve, invoke, builtin, hf.eval hx, hf.eval hy, hrc, goInt]
theorem y_lssB {k : IntKind} {i j : Int} {b : Bool} (hx : val env x = some (.int k i)) (hy : val env y = some (.int k j)) (hb : decide (i < j) = b) : Y P E n ds ⟨dst, .binOp .lss t x y t', ty, pos, af, gd⟩ env l (.bool b) := hb ▸ y_lss hx hy
theorem y_slice_arr (hT : Tok P T) {q e' : TI} {e : TypeId} {b off len lo hi : Nat} (hd : T.at t = some q) (hk : q.u = .array len e) (he : T.at e = some e')
    {ol oh : Option Operand} (hx : val env x = some (.pointer (some ⟨b, off, none⟩)))
    (hol : (ol = none ∧ lo = 0) ∨ ∃ o kl il, ol = some o ∧ val env o = some (.int kl il) ∧ il = (lo : Int))
    (hoh : (oh = none ∧ hi = len) ∨ ∃ o kh ih, oh = some o ∧ val env o = some (.int kh ih) ∧ ih = (hi : Int))
    (h1 : lo ≤ hi) (h2 : hi ≤ len) :
    Y P E n ds ⟨dst, .slice t x ol oh none, ty, pos, af, gd⟩ env l (.slice (some ⟨b, if len = lo then off else off + lo * e'.size, none⟩) (hi - lo) (len - lo)) :=
  Y.of fun a w hfr _ => by
    have g1 := hT.und w hd
    rw [hk] at g1
    have g3 := hT.siz w he
    have hb : (Instr.sliceBounds false len len (ol.map a.eval) (oh.map a.eval) none).run P w = .ok (lo, hi, len) w := by
      unfold Instr.sliceBounds
      rcases hol with ⟨rfl, rfl⟩ | ⟨o, kl, il, rfl, ho, rfl⟩ <;> rcases hoh with ⟨rfl, rfl⟩ | ⟨o', kh, ih, rfl, ho', rfl⟩
      · simp
      · simp [Instr.sliceBound, hfr.eval ho', asIntOf, h2]
      · simp [Instr.sliceBound, hfr.eval ho, asIntOf, h1]
      · simp [Instr.sliceBound, hfr.eval ho, hfr.eval ho', asIntOf, h1, h2]
    by_cases hc : len = lo
    · subst hc
      simp [execOp, hfr.eval hx, Instr.sliceAt, g1, hb, g3, Instr.sureAddr]
    · simp [execOp, hfr.eval hx, Instr.sliceAt, g1, hb, g3, hc, addr_add, Instr.sureAddr]
theorem LS.fact {p : Prop} (hp : ∀ w, Sat E (stars l) w → p) (h : p → LS P E n ds o env l N) : LS P E n ds o env l N := fun a w hf hs => h (hp w hs) a w hf hs
theorem y_sliceToArr (hT : Tok P T) {q : TI} {e : TypeId} {m len cap : Nat} {p : Option Addr} (hd : T.at t = some q) (hk : q.u = .array m e) (hx : val env x = some (.slice p len cap)) (h : m ≤ len) :
    Y P E n ds ⟨dst, .sliceToArrayPointer t x, ty, pos, af, gd⟩ env l (.pointer p) :=
  Y.of fun a w hfr _ => by
    have g1 := hT.und w hd
    rw [hk] at g1
    simp [execOp, hfr.eval hx, Instr.arrayAt, g1, show ¬ len < m by omega]
/-- A row that was made of a constant text: read as any other. -/
def mrow (b : Nat) (e : TypeId) (cs : List Value) : HProp := blk b (.cells cs.toArray e (cs.length, cs.length + 1))
theorem RdN.mrow {b : Nat} {e : TypeId} {cs : List Value} (p : Pick l (SL.mrow b e cs) r) : RdN l b 0 cs := fun j v hj E w s => by
  have hb := (s.pick p).block
  simp [World.cell?, hb, hj]
theorem InL.ofMrow {b e k : Nat} {cs : List Value} (p : Pick l (SL.mrow b e cs) r) (h : k ≤ maxLen) : InL l (some ⟨b, 0, none⟩) k k cs := ⟨Nat.le_refl _, h, .inl ⟨b, 0, rfl, fun m => RdN.mrow (Pick.app m p)⟩⟩
theorem l_convBytes (hT : Tok P T) {i j : TI} {e : TypeId} {b k c : Nat} {cs : List Value} (hi : T.at t = some i) (hk : i.u = .slice e) (hj : T.at e = some j) (hjk : j.u = .int .u8)
    (hx : val env x = some (.slice (some ⟨b, 0, none⟩) k c)) (hp : Pick l (row b e cs) r) (hn : Nat.blt d n = true)
    (h : N ((d, .slice (some ⟨b, 0, none⟩) k c) :: env) (mrow b e cs :: r)) : LS P E n ds ⟨some d, .convert t t x, ty, pos, af, gd⟩ env l N :=
  LS.of hn rfl fun a w hf hs => by
    obtain ⟨hu, _⟩ := hT t i hi
    rw [hk] at hu
    obtain ⟨he, _⟩ := hT e j hj
    rw [hjk] at he
    have s := hs.pick hp
    have hsh := s.shape
    have hb := s.block
    refine ⟨_, w.freeze ⟨b, cs.length, none⟩ 1, _, ?_, s.turn (o' := .cells cs.toArray e (cs.length, cs.length + 1)) rfl rfl rfl ?_ (fun k hk => ?_), h⟩
    · simp only [execOp]
      rw [hf.eval hx]
      simp [convert, run_underlying hu, run_underlying he, markStringish, hsh]
    · unfold World.freeze
      rw [if_neg (by decide)]
      simp [Array.getElem?_modify, hb]
    · unfold World.freeze
      rw [if_neg (by decide)]
      simp [Array.getElem?_modify, Ne.symm hk]
theorem l_range (hT : Tok P T) {i : TI} {s : ByteArray} (hi : T.at t = some i) (hk : i.u = .string) (hx : val env x = some (.string s)) (hn : Nat.blt d n = true)
    (h : ∀ b, N ((d, .pointer (some ⟨b, 0, none⟩)) :: env) (blk b (.stringIter s 0) :: l)) : LS P E n ds ⟨some d, .range t x, ty, pos, af, gd⟩ env l N :=
  LS.of hn rfl fun a w hf hs => by
    obtain ⟨hu, _⟩ := hT t i hi
    rw [hk] at hu
    refine ⟨_, w.alloc (.stringIter s 0), _, ?_, hs.alloc _, h w.heap.size⟩
    have hr := run_range_string (P := P) w t s hu
    simp only [execOp]
    rw [hf.eval hx]
    simp [hr, World.iter]
theorem l_next {b p : Nat} {s : ByteArray} (hx : val env x = some (.pointer (some ⟨b, 0, none⟩))) (hp : Pick l (blk b (.stringIter s p)) r) (hn : Nat.blt d n = true)
    (ht : ∀ (hlt : p < s.size), (s[p]'hlt).toNat < 128 ∧ N ((d, .tuple #[.bool true, .int .i64 p, .int .i32 (s[p]'hlt).toNat]) :: env) (blk b (.stringIter s (p + 1)) :: r))
    (hf : ¬ p < s.size → N ((d, .tuple #[.bool false]) :: env) (blk b (.stringIter s p) :: r)) : LS P E n ds ⟨some d, .next x true, ty, pos, af, gd⟩ env l N :=
  LS.of hn rfl fun a w hfr hs => by
    have s1 := hs.pick hp
    have hb := s1.block
    by_cases hlt : p < s.size
    · have hr := Lib.run_next_ascii_at (P := P) w b s p ty hb hlt (ht hlt).1
      refine ⟨_, _, _, ?_, s1.turn (w' := w.iterAt b s (p + 1)) rfl rfl rfl (Lib.iterAt_heap w b s p (p + 1) hb) (fun k hk => Lib.iterAt_other w b k s (p + 1) hk), (ht hlt).2⟩
      simp only [execOp]
      rw [hfr.eval hx]
      simp [hr]
    · have hr := Lib.run_next_end_at (P := P) w b s p ty hb hlt
      refine ⟨_, w, _, ?_, s1, hf hlt⟩
      simp only [execOp]
      rw [hfr.eval hx]
      simp [hr]
end
theorem wrap_u8 (x : Int) : IntKind.u8.wrap x = x % 256 := by simp [IntKind.wrap, IntKind.bits, IntKind.signed]
/-! ### Words of 32 bits -/
def W (x : BitVec 32) : Value := .int .u32 x.toNat
theorem W_one (x : BitVec 32) : (W x).oneCell' = true := rfl
theorem Ws_one (xs : List (BitVec 32)) : ∀ u ∈ xs.map W, u.oneCell' = true := fun u hu => by
  obtain ⟨x, _, rfl⟩ := List.mem_map.1 hu
  rfl
theorem wrap_W (x : Int) : IntKind.u32.wrap x = x % 4294967296 := by simp [IntKind.wrap, IntKind.bits, IntKind.signed]
theorem W_of (x : Int) : (IntKind.u32.wrap x) = ((BitVec.ofInt 32 x).toNat : Int) := by
  rw [wrap_W, BitVec.toNat_ofInt]
  omega
theorem W_ofs (a : BitVec 32) : BitVec.ofInt 32 (a.toNat : Int) = a := by simp
section
variable {P : Program} {E : World} {n : Nat} {ds : List Deferred} {env : Fr} {l r : List HProp} {T : Tab} {N : Fr → List HProp → Prop}
variable {d : Tmp} {dst : Option Tmp} {ty : TypeId} {pos : String} {af : Array Edge} {gd : Option (Nat × Bool)} {x y z : Operand} {v : Value} {t t' : TypeId} {o : Oper}
theorem y_addW {a b : BitVec 32} (hx : val env x = some (W a)) (hy : val env y = some (W b)) : Y P E n ds ⟨dst, .binOp .add t x y t', ty, pos, af, gd⟩ env l (W (a + b)) :=
  y_add hx hy (by rw [wrap_W, BitVec.toNat_add]; omega)
theorem y_subW {a b : BitVec 32} (hx : val env x = some (W a)) (hy : val env y = some (W b)) : Y P E n ds ⟨dst, .binOp .sub t x y t', ty, pos, af, gd⟩ env l (W (a - b)) :=
  y_sub hx hy (by rw [wrap_W, BitVec.toNat_sub]; have := a.isLt; have := b.isLt; omega)
theorem y_mulW {a b : BitVec 32} (hx : val env x = some (W a)) (hy : val env y = some (W b)) : Y P E n ds ⟨dst, .binOp .mul t x y t', ty, pos, af, gd⟩ env l (W (a * b)) :=
  y_mul hx hy (by rw [wrap_W, BitVec.toNat_mul, ← Int.natCast_mul]; omega)
theorem y_andW {a b : BitVec 32} (hx : val env x = some (W a)) (hy : val env y = some (W b)) : Y P E n ds ⟨dst, .binOp .and t x y t', ty, pos, af, gd⟩ env l (W (a &&& b)) :=
  y_bits hx hy (by
    show some (IntKind.u32.wrap ((BitVec.ofInt 32 (a.toNat : Int) &&& BitVec.ofInt 32 (b.toNat : Int)).toNat : Int)) = _
    rw [W_ofs, W_ofs, wrap_W]; congr 1; have := (a &&& b).isLt; omega)
theorem y_orW {a b : BitVec 32} (hx : val env x = some (W a)) (hy : val env y = some (W b)) : Y P E n ds ⟨dst, .binOp .or t x y t', ty, pos, af, gd⟩ env l (W (a ||| b)) :=
  y_bits hx hy (by
    show some (IntKind.u32.wrap ((BitVec.ofInt 32 (a.toNat : Int) ||| BitVec.ofInt 32 (b.toNat : Int)).toNat : Int)) = _
    rw [W_ofs, W_ofs, wrap_W]; congr 1; have := (a ||| b).isLt; omega)
theorem y_xorW {a b : BitVec 32} (hx : val env x = some (W a)) (hy : val env y = some (W b)) : Y P E n ds ⟨dst, .binOp .xor t x y t', ty, pos, af, gd⟩ env l (W (a ^^^ b)) :=
  y_bits hx hy (by
    show some (IntKind.u32.wrap ((BitVec.ofInt 32 (a.toNat : Int) ^^^ BitVec.ofInt 32 (b.toNat : Int)).toNat : Int)) = _
    rw [W_ofs, W_ofs, wrap_W]; congr 1; have := (a ^^^ b).isLt; omega)
theorem y_cplW {a : BitVec 32} (hx : val env x = some (W a)) : Y P E n ds ⟨dst, .unOp .xor t x, ty, pos, af, gd⟩ env l (W (~~~a)) :=
  Y.of fun w _ hf _ => by
    have e : IntKind.u32.wrap ((BitVec.ofInt 32 IntKind.u32.max ^^^ BitVec.ofInt 32 (a.toNat : Int)).toNat : Int) = ((~~~a).toNat : Int) := by
      rw [W_ofs, wrap_W, show BitVec.ofInt 32 IntKind.u32.max = BitVec.allOnes 32 by decide, BitVec.allOnes_xor]
      have := (~~~a).isLt
      omega
    simp only [execOp, hf.eval hx, W, Op.unary, Op.intBits]
    rw [← e]
    rfl
theorem y_shlW {a : BitVec 32} {k' : IntKind} {j : Int} (hx : val env x = some (W a)) (hy : val env y = some (.int k' j)) (h0 : 0 ≤ j) (h1 : j ≤ 32) : Y P E n ds ⟨dst, .binOp .shl t x y t', ty, pos, af, gd⟩ env l (W (a <<< j.toNat)) :=
  y_shl hx hy h0 (by
    rw [wrap_W, BitVec.toNat_shiftLeft, Nat.shiftLeft_eq, show min j.toNat IntKind.u32.bits = j.toNat by simp only [IntKind.bits]; omega]
    rw [show ((a.toNat : Int) * 2 ^ j.toNat) = ((a.toNat * 2 ^ j.toNat : Nat) : Int) by simp]
    omega)
theorem y_shrW {a : BitVec 32} {k' : IntKind} {j : Int} (hx : val env x = some (W a)) (hy : val env y = some (.int k' j)) (h0 : 0 ≤ j) (h1 : j ≤ 32) : Y P E n ds ⟨dst, .binOp .shr t x y t', ty, pos, af, gd⟩ env l (W (a >>> j.toNat)) :=
  y_shr hx hy h0 (by
    rw [BitVec.toNat_ushiftRight, Nat.shiftRight_eq_div_pow, show min j.toNat IntKind.u32.bits = j.toNat by simp only [IntKind.bits]; omega, Int.fdiv_eq_ediv_of_nonneg _ (by exact_mod_cast Nat.zero_le _)]
    simp)
theorem y_convToW (hT : Tok P T) {s : TI} {q : TI} {k : IntKind} {i : Int} (hs : T.at t = some s) (hd : T.at t' = some q) (hk : q.u = .int .u32) (hx : val env x = some (.int k i)) : Y P E n ds ⟨dst, .convert t t' x, ty, pos, af, gd⟩ env l (W (BitVec.ofInt 32 i)) :=
  y_conv hT hs hd hk hx (W_of i)
theorem y_convOfW (hT : Tok P T) {s : TI} {q : TI} {a : BitVec 32} (hs : T.at t = some s) (hd : T.at t' = some q) (hk : q.u = .int .u8) (hx : val env x = some (W a)) : Y P E n ds ⟨dst, .convert t t' x, ty, pos, af, gd⟩ env l (.int .u8 ((a.toNat % 256 : Nat) : Int)) :=
  y_conv hT hs hd hk hx (by rw [wrap_u8]; omega)
end
/-! ### Words of 64 bits -/
def Q (x : BitVec 64) : Value := .int .u64 x.toNat
theorem Q_one (x : BitVec 64) : (Q x).oneCell' = true := rfl
theorem Qs_one (xs : List (BitVec 64)) : ∀ u ∈ xs.map Q, u.oneCell' = true := fun u hu => by
  obtain ⟨x, _, rfl⟩ := List.mem_map.1 hu
  rfl
theorem wrap_Q (x : Int) : IntKind.u64.wrap x = x % 18446744073709551616 := by simp [IntKind.wrap, IntKind.bits, IntKind.signed]
theorem Q_of (x : Int) : (IntKind.u64.wrap x) = ((BitVec.ofInt 64 x).toNat : Int) := by
  rw [wrap_Q, BitVec.toNat_ofInt]
  omega
theorem Q_ofs (a : BitVec 64) : BitVec.ofInt 64 (a.toNat : Int) = a := by simp
section
variable {P : Program} {E : World} {n : Nat} {ds : List Deferred} {env : Fr} {l r : List HProp} {T : Tab} {N : Fr → List HProp → Prop}
variable {d : Tmp} {dst : Option Tmp} {ty : TypeId} {pos : String} {af : Array Edge} {gd : Option (Nat × Bool)} {x y z : Operand} {v : Value} {t t' : TypeId} {o : Oper}
theorem y_addQ {a b : BitVec 64} (hx : val env x = some (Q a)) (hy : val env y = some (Q b)) : Y P E n ds ⟨dst, .binOp .add t x y t', ty, pos, af, gd⟩ env l (Q (a + b)) :=
  y_add hx hy (by rw [wrap_Q, BitVec.toNat_add]; omega)
theorem y_subQ {a b : BitVec 64} (hx : val env x = some (Q a)) (hy : val env y = some (Q b)) : Y P E n ds ⟨dst, .binOp .sub t x y t', ty, pos, af, gd⟩ env l (Q (a - b)) :=
  y_sub hx hy (by rw [wrap_Q, BitVec.toNat_sub]; have := a.isLt; have := b.isLt; omega)
theorem y_mulQ {a b : BitVec 64} (hx : val env x = some (Q a)) (hy : val env y = some (Q b)) : Y P E n ds ⟨dst, .binOp .mul t x y t', ty, pos, af, gd⟩ env l (Q (a * b)) :=
  y_mul hx hy (by rw [wrap_Q, BitVec.toNat_mul, ← Int.natCast_mul]; omega)
theorem y_andQ {a b : BitVec 64} (hx : val env x = some (Q a)) (hy : val env y = some (Q b)) : Y P E n ds ⟨dst, .binOp .and t x y t', ty, pos, af, gd⟩ env l (Q (a &&& b)) :=
  y_bits hx hy (by
    show some (IntKind.u64.wrap ((BitVec.ofInt 64 (a.toNat : Int) &&& BitVec.ofInt 64 (b.toNat : Int)).toNat : Int)) = _
    rw [Q_ofs, Q_ofs, wrap_Q]; congr 1; have := (a &&& b).isLt; omega)
theorem y_orQ {a b : BitVec 64} (hx : val env x = some (Q a)) (hy : val env y = some (Q b)) : Y P E n ds ⟨dst, .binOp .or t x y t', ty, pos, af, gd⟩ env l (Q (a ||| b)) :=
  y_bits hx hy (by
    show some (IntKind.u64.wrap ((BitVec.ofInt 64 (a.toNat : Int) ||| BitVec.ofInt 64 (b.toNat : Int)).toNat : Int)) = _
    rw [Q_ofs, Q_ofs, wrap_Q]; congr 1; have := (a ||| b).isLt; omega)
theorem y_xorQ {a b : BitVec 64} (hx : val env x = some (Q a)) (hy : val env y = some (Q b)) : Y P E n ds ⟨dst, .binOp .xor t x y t', ty, pos, af, gd⟩ env l (Q (a ^^^ b)) :=
  y_bits hx hy (by
    show some (IntKind.u64.wrap ((BitVec.ofInt 64 (a.toNat : Int) ^^^ BitVec.ofInt 64 (b.toNat : Int)).toNat : Int)) = _
    rw [Q_ofs, Q_ofs, wrap_Q]; congr 1; have := (a ^^^ b).isLt; omega)
theorem y_cplQ {a : BitVec 64} (hx : val env x = some (Q a)) : Y P E n ds ⟨dst, .unOp .xor t x, ty, pos, af, gd⟩ env l (Q (~~~a)) :=
  Y.of fun w _ hf _ => by
    have e : IntKind.u64.wrap ((BitVec.ofInt 64 IntKind.u64.max ^^^ BitVec.ofInt 64 (a.toNat : Int)).toNat : Int) = ((~~~a).toNat : Int) := by
      rw [Q_ofs, wrap_Q, show BitVec.ofInt 64 IntKind.u64.max = BitVec.allOnes 64 by decide, BitVec.allOnes_xor]
      have := (~~~a).isLt
      omega
    simp only [execOp, hf.eval hx, Q, Op.unary, Op.intBits]
    rw [← e]
    rfl
theorem y_shlQ {a : BitVec 64} {k' : IntKind} {j : Int} (hx : val env x = some (Q a)) (hy : val env y = some (.int k' j)) (h0 : 0 ≤ j) (h1 : j ≤ 64) : Y P E n ds ⟨dst, .binOp .shl t x y t', ty, pos, af, gd⟩ env l (Q (a <<< j.toNat)) :=
  y_shl hx hy h0 (by
    rw [wrap_Q, BitVec.toNat_shiftLeft, Nat.shiftLeft_eq, show min j.toNat IntKind.u64.bits = j.toNat by simp only [IntKind.bits]; omega]
    rw [show ((a.toNat : Int) * 2 ^ j.toNat) = ((a.toNat * 2 ^ j.toNat : Nat) : Int) by simp]
    omega)
theorem y_shrQ {a : BitVec 64} {k' : IntKind} {j : Int} (hx : val env x = some (Q a)) (hy : val env y = some (.int k' j)) (h0 : 0 ≤ j) (h1 : j ≤ 64) : Y P E n ds ⟨dst, .binOp .shr t x y t', ty, pos, af, gd⟩ env l (Q (a >>> j.toNat)) :=
  y_shr hx hy h0 (by
    rw [BitVec.toNat_ushiftRight, Nat.shiftRight_eq_div_pow, show min j.toNat IntKind.u64.bits = j.toNat by simp only [IntKind.bits]; omega, Int.fdiv_eq_ediv_of_nonneg _ (by exact_mod_cast Nat.zero_le _)]
    simp)
theorem y_convToQ (hT : Tok P T) {s : TI} {q : TI} {k : IntKind} {i : Int} (hs : T.at t = some s) (hd : T.at t' = some q) (hk : q.u = .int .u64) (hx : val env x = some (.int k i)) : Y P E n ds ⟨dst, .convert t t' x, ty, pos, af, gd⟩ env l (Q (BitVec.ofInt 64 i)) :=
  y_conv hT hs hd hk hx (Q_of i)
theorem y_convOfQ (hT : Tok P T) {s : TI} {q : TI} {a : BitVec 64} (hs : T.at t = some s) (hd : T.at t' = some q) (hk : q.u = .int .u8) (hx : val env x = some (Q a)) : Y P E n ds ⟨dst, .convert t t' x, ty, pos, af, gd⟩ env l (.int .u8 ((a.toNat % 256 : Nat) : Int)) :=
  y_conv hT hs hd hk hx (by rw [wrap_u8]; omega)
end
section
variable {l r : List HProp}
theorem Rd1.wordsAt {b e off j : Nat} {ws : List (BitVec 32)} (p : Pick l (SL.row b e (ws.map W)) r) (hj : j < ws.length) (ho : off = j) : Rd1 l b off (W (ws.getD j 0)) :=
  Rd1.row p (by rw [ho, List.getElem?_map, List.getD_eq_getElem?_getD, List.getElem?_eq_getElem hj]; rfl)
theorem Rd1.bytesAt {b o off j : Nat} {bs : List Int} (h : RdN l b o (ints .u8 bs)) (hj : j < bs.length) (ho : off = o + j) : Rd1 l b off (.int .u8 (bs.getD j 0)) := by
  rw [ho]
  exact h j _ (by rw [ints, List.getElem?_map, List.getD_eq_getElem?_getD, List.getElem?_eq_getElem hj]; rfl)
end
section
variable {l r : List HProp}
/-- A piece of a slice. -/
theorem InL.part {p : Option Addr} {n cap lo hi k : Nat} {cs : List Value} (h : InL l p n cap cs) (h1 : lo ≤ hi) (h2 : hi ≤ n) (hl : cs.length = n * k) :
    ∃ b off, (p = some ⟨b, off, none⟩ ∨ cap = 0) ∧ InL l (if cap = lo then p else some ⟨b, off + lo * k, none⟩) (hi - lo) (cap - lo) ((cs.drop (lo * k)).take ((hi - lo) * k)) := by
  have hle := h.le
  have hm := h.most
  rcases h.rd with ⟨b, o, rfl, hr⟩ | ⟨h0, hcs⟩
  · refine ⟨b, o, .inl rfl, by omega, by omega, ?_⟩
    by_cases hc : cap = lo
    · subst hc
      rw [if_pos rfl]
      have : hi - cap = 0 := by omega
      rw [this]
      exact .inl ⟨b, o, rfl, fun m => by simpa using RdN.nil⟩
    · rw [if_neg hc]
      exact .inl ⟨b, o + lo * k, rfl, fun m => (hr m).sub (lo * k) ((hi - lo) * k) rfl⟩
  · subst h0
    obtain rfl : lo = 0 := by omega
    obtain rfl : hi = 0 := by omega
    subst hcs
    exact ⟨0, 0, .inr rfl, Nat.le_refl _, Nat.zero_le _, .inr ⟨rfl, by simp⟩⟩
end
theorem Q_cells (x : BitVec 64) : (Q x).cells = #[Q x] := rfl
theorem W_cells (x : BitVec 32) : (W x).cells = #[W x] := rfl
theorem int_cells (k : IntKind) (i : Int) : (Value.int k i).cells = #[Value.int k i] := rfl
theorem agg_cells (xs : Array Value) : (Value.agg xs).cells = xs := rfl
theorem Sat.own_take {E w : World} {l : List HProp} {e size m k cap : Nat} {a : Option Addr} {xs : List Value} (s : Sat E (stars (own e size (.slice a m cap) m xs :: l)) w) (hk : k ≤ m) : Sat E (stars (own e size (.slice a k cap) k (xs.take (k * size)) :: l)) w := by
  obtain ⟨hl, ⟨h1, h2, h3, s0⟩ | ⟨g, cap', cur, he, h1, h2, h3, h4, s0⟩⟩ := s.own_open
  · cases h1
    obtain rfl : k = 0 := by omega
    subst h3
    simpa using s0.own_nil
  · simp only [Value.slice.injEq] at he
    obtain ⟨rfl, _, rfl⟩ := he
    have hk2 := Nat.mul_le_mul_right size hk
    exact s0.own_row (by omega) h2 h3 (by rw [← h4, List.take_take, Nat.min_eq_left hk2]) (by rw [List.length_take, hl]; omega)
end Go.SL
