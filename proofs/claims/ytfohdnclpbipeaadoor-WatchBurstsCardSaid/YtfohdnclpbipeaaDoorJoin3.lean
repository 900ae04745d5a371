import Derived.Shelf.Strconv.Itoa1
import Derived.Shelf.Strconv.Itoa2
import Derived.Lib.ItoaMem
import Derived.Shelf.SlicesE.Compact
import Derived.Test.YtfohdnclpbipeaaDoorJoin1
import Derived.Test.YtfohdnclpbipeaaDoorJoin2
namespace Go.Proofs.YtfohdnclpbipeaaDoor
section
open Go Go.Shelf
def lays283_ren : Go.Shelf.Ren := ⟨fun | 283 => 83 | n => n, fun | 3 => 3 | 9 => 9 | 4 => 4 | n => n, fun | n => n⟩
theorem lays283 : Go.Proofs.Lays.n283 prog lays283_ren := {
 mixed := by kernel_rfl
 f283 := Go.Proofs.Tryd.func83.trans (congrArg some (by kernel_rfl))
 t3 := Go.Proofs.Tryd.underlying3
 a3 := Go.Proofs.Tryd.isAgg3
 z3 := Go.Proofs.Tryd.sizeOf3
 v3 := Go.Proofs.Tryd.zeroValue3
 t4 := Go.Proofs.Tryd.underlying4
 a4 := Go.Proofs.Tryd.isAgg4
 z4 := Go.Proofs.Tryd.sizeOf4
 v4 := Go.Proofs.Tryd.zeroValue4
 t9 := Go.Proofs.Tryd.underlying9
 a9 := Go.Proofs.Tryd.isAgg9
 z9 := Go.Proofs.Tryd.sizeOf9
 v9 := Go.Proofs.Tryd.zeroValue9 }
def lays284_ren : Go.Shelf.Ren := ⟨fun | 284 => 84 | 129 => 96 | 317 => 117 | 318 => 118 | n => n, fun | 53 => 35 | 3 => 3 | 212 => 155 | 0 => 0 | 4 => 4 | 46 => 43 | 5 => 5 | 9 => 9 | n => n, fun | 17 => 1 | n => n⟩
theorem lays284 : Go.Proofs.LaysM.n284 prog lays284_ren := {
 mixed := by kernel_rfl
 f129 := Go.Proofs.Tryd.func96.trans (congrArg some (by kernel_rfl))
 f284 := Go.Proofs.Tryd.func84.trans (congrArg some (by kernel_rfl))
 f317 := Go.Proofs.Tryd.func117.trans (congrArg some (by kernel_rfl))
 f318 := Go.Proofs.Tryd.func118.trans (congrArg some (by kernel_rfl))
 t0 := Go.Proofs.Tryd.underlying0
 a0 := Go.Proofs.Tryd.isAgg0
 z0 := Go.Proofs.Tryd.sizeOf0
 v0 := Go.Proofs.Tryd.zeroValue0
 t3 := Go.Proofs.Tryd.underlying3
 a3 := Go.Proofs.Tryd.isAgg3
 z3 := Go.Proofs.Tryd.sizeOf3
 v3 := Go.Proofs.Tryd.zeroValue3
 t4 := Go.Proofs.Tryd.underlying4
 a4 := Go.Proofs.Tryd.isAgg4
 z4 := Go.Proofs.Tryd.sizeOf4
 v4 := Go.Proofs.Tryd.zeroValue4
 t5 := Go.Proofs.Tryd.underlying5
 a5 := Go.Proofs.Tryd.isAgg5
 z5 := Go.Proofs.Tryd.sizeOf5
 v5 := Go.Proofs.Tryd.zeroValue5
 t9 := Go.Proofs.Tryd.underlying9
 a9 := Go.Proofs.Tryd.isAgg9
 z9 := Go.Proofs.Tryd.sizeOf9
 v9 := Go.Proofs.Tryd.zeroValue9
 t46 := Go.Proofs.Tryd.underlying43
 a46 := Go.Proofs.Tryd.isAgg43
 z46 := Go.Proofs.Tryd.sizeOf43
 v46 := Go.Proofs.Tryd.zeroValue43
 t53 := Go.Proofs.Tryd.underlying35
 a53 := Go.Proofs.Tryd.isAgg35
 z53 := Go.Proofs.Tryd.sizeOf35
 v53 := Go.Proofs.Tryd.zeroValue35
 t212 := Go.Proofs.Tryd.underlying155
 a212 := Go.Proofs.Tryd.isAgg155
 z212 := Go.Proofs.Tryd.sizeOf155
 v212 := Go.Proofs.Tryd.zeroValue155
 g17 := by kernel_rfl
 i0 := by kernel_rfl
 i3 := by kernel_rfl
 i4 := by kernel_rfl
 i5 := by kernel_rfl
 i9 := by kernel_rfl
 i46 := by kernel_rfl
 i53 := by kernel_rfl
 i212 := by kernel_rfl
 m17 := by kernel_rfl }
def lays285_ren : Go.Shelf.Ren := ⟨fun | 285 => 85 | n => n, fun | 37 => 58 | 53 => 35 | 3 => 3 | 4 => 4 | 51 => 139 | 9 => 9 | 5 => 5 | 0 => 0 | n => n, fun | n => n⟩
theorem lays285 : Go.Proofs.Lays.n285 prog lays285_ren := {
 mixed := by kernel_rfl
 f285 := Go.Proofs.Tryd.func85.trans (congrArg some (by kernel_rfl))
 t0 := Go.Proofs.Tryd.underlying0
 a0 := Go.Proofs.Tryd.isAgg0
 z0 := Go.Proofs.Tryd.sizeOf0
 v0 := Go.Proofs.Tryd.zeroValue0
 t3 := Go.Proofs.Tryd.underlying3
 a3 := Go.Proofs.Tryd.isAgg3
 z3 := Go.Proofs.Tryd.sizeOf3
 v3 := Go.Proofs.Tryd.zeroValue3
 t4 := Go.Proofs.Tryd.underlying4
 a4 := Go.Proofs.Tryd.isAgg4
 z4 := Go.Proofs.Tryd.sizeOf4
 v4 := Go.Proofs.Tryd.zeroValue4
 t5 := Go.Proofs.Tryd.underlying5
 a5 := Go.Proofs.Tryd.isAgg5
 z5 := Go.Proofs.Tryd.sizeOf5
 v5 := Go.Proofs.Tryd.zeroValue5
 t9 := Go.Proofs.Tryd.underlying9
 a9 := Go.Proofs.Tryd.isAgg9
 z9 := Go.Proofs.Tryd.sizeOf9
 v9 := Go.Proofs.Tryd.zeroValue9
 t37 := Go.Proofs.Tryd.underlying58
 a37 := Go.Proofs.Tryd.isAgg58
 z37 := Go.Proofs.Tryd.sizeOf58
 v37 := Go.Proofs.Tryd.zeroValue58
 t51 := Go.Proofs.Tryd.underlying139
 a51 := Go.Proofs.Tryd.isAgg139
 z51 := Go.Proofs.Tryd.sizeOf139
 v51 := Go.Proofs.Tryd.zeroValue139
 t53 := Go.Proofs.Tryd.underlying35
 a53 := Go.Proofs.Tryd.isAgg35
 z53 := Go.Proofs.Tryd.sizeOf35
 v53 := Go.Proofs.Tryd.zeroValue35 }
end
section
open Go Go.SL
section
def dig (u : Nat) : List Int := (Lib.decDigits u).map fun b => (b.toNat : Int)
def numT (n : Int) : List Int := if n < 0 then 45 :: dig n.natAbs else dig n.toNat
theorem dig_length (u : Nat) : (dig u).length = Lib.nDigits u := by unfold dig; rw [List.length_map, Lib.decDigits_length]
theorem nDigits_le {u : Nat} (h : u < 18446744073709551616) : Lib.nDigits u ≤ 20 := by
 rcases Nat.eq_zero_or_pos u with rfl | h1
 · rw [Lib.nDigits_small (by omega)]; omega
 · have := Lib.numDigits_eq u h1 h
   split at this <;> omega
theorem dig_size {u : Nat} (h : u < 18446744073709551616) : 1 ≤ (dig u).length ∧ (dig u).length ≤ 20 := by
 rw [dig_length]
 exact ⟨Lib.nDigits_pos u, nDigits_le h⟩
theorem bytesS_dig (u : Nat) : bytesS ⟨(Lib.decDigits u).toArray⟩ = dig u := rfl
variable {P : Program} {E : World} {l r : List HProp}
theorem TabIs.keep {w0 w : World} {n : String} {k : IntKind} {zs : List Int} (h : Lib.TabIs P w0 n k zs) (hk : ∀ (b : Nat) (o : Obj), w0.heap[b]? = some o → w.heap[b]? = some o) : Lib.TabIs P w n k zs := by
 unfold Lib.TabIs World.var? at *
 cases hg : P.globalNamed n with
 | none => simp [hg] at h
 | some g =>
   simp only [hg, Option.bind_some] at h ⊢
   cases e : w0.heap[g]? with
   | none => rw [e] at h; simp at h
   | some o => rw [hk g o e]; rw [e] at h; exact h
def T10 (E : World) (l : List HProp) : Prop := ∀ w, Sat E (stars l) w → Lib.TabIs prog w "internal/strconv.uint64pow10" .u64 Lib.pow10Tab
theorem T10.cons (h : T10 E l) (A : HProp) : T10 E (A :: l) := fun w s => h w s.drop
theorem T10.app (h : T10 E l) (m : List HProp) : T10 E (m ++ l) := fun w s => h w (s.dropApp m)
theorem T10.old {w0 : World} (h : Lib.TabIs prog w0 "internal/strconv.uint64pow10" .u64 Lib.pow10Tab) (hp : Pick l (old w0) r) : T10 E l := fun w s => TabIs.keep h fun _ _ => (s.pick hp).elder
theorem Fc.ofQuiet {f : FuncId} {args : Array Value} {v : Value} (h : ∀ w, Sat E (stars l) w → Calls P f args w fun e w' => e = .returned v ∧ w' = w) : Fc P E f args l (fun u l' => u = v ∧ l' = l) :=
 fun w hs => (h w hs).mono fun e w' ⟨a, b⟩ => ⟨v, l, a, b ▸ hs, rfl, rfl⟩
theorem Fc.ofCalls {f : FuncId} {args : Array Value} {R : Value → List HProp → Prop} (h : ∀ w, Sat E (stars l) w → Calls P f args w fun e w' => ∃ v l', e = .returned v ∧ Sat E (stars l') w' ∧ R v l') : Fc P E f args l R := h
theorem put_cells {α : Type} [Inhabited α] {enc : α → Value} {dk : Array α} {cs : List Value} {n : Nat} (hd : dk.size = n) (hn : n ≤ cs.length) :
 Sort.putCells enc 0 dk cs.toArray = (dk.toList.map enc ++ cs.drop n).toArray := by
 apply Array.ext_getElem?
 intro i
 unfold Sort.putCells
 rw [Array.getElem?_mapIdx]
 simp only [List.getElem?_toArray]
 by_cases hi : i < n
 · have h1 : i < cs.length := by omega
   rw [List.getElem?_eq_getElem h1, Option.map_some, if_pos ⟨Nat.zero_le _, by omega⟩, List.getElem?_append_left (by simp; omega), List.getElem?_map, Array.getElem?_toList, Array.getElem?_eq_getElem (by omega), Option.map_some, Nat.sub_zero, getElem!_pos dk i (by omega)]
 · rw [List.getElem?_append_right (by simp; omega), List.length_map, Array.length_toList, hd, List.getElem?_drop, show n + (i - n) = i by omega]
   cases h : cs[i]? with
   | none => rfl
   | some v => rw [Option.map_some, if_neg (by omega)]
theorem sat_put {α : Type} [Inhabited α] {enc : α → Value} {dk : Array α} {cs : List Value} {n b k : Nat} {e : TypeId} {w : World} (hs : Sat E (stars (row b e cs :: l)) w) (hd : dk.size = n) (hn : n ≤ cs.length) :
 Sat E (stars (row b e (dk.toList.map enc ++ cs.drop n) :: l)) (Sort.ahead (Sort.putRow enc w b 0 dk) k) := by
 have hb := hs.block
 have hp := put_cells (enc := enc) hd hn
 refine Sat.drawn (hs.turn (w' := Sort.putRow enc w b 0 dk) rfl rfl rfl ?_ fun k hk => ?_) _
 · simp only [Sort.putRow, Sort.mapBlock, Array.getElem?_modify, if_true, hb, Option.map_some, Sort.onCells, hp]
 · simp only [Sort.putRow, Sort.mapBlock, Array.getElem?_modify, if_neg (Ne.symm hk)]
theorem holds_row {α : Type} [Inhabited α] {enc : α → Value} {xs : List α} {sp : List Value} {b : Nat} {e : TypeId} {w : World} (hs : Sat E (stars (row b e (xs.map enc ++ sp) :: l)) w) : Sort.Holds enc w b 0 xs.toArray := fun j hj => by
 have hj' : j < xs.length := by simpa using hj
 refine ⟨?_, hs.free _⟩
 rw [Nat.zero_add, hs.cell, List.getElem?_append_left (by simpa using hj'), List.getElem?_map, List.getElem?_eq_getElem hj', getElem!_pos _ j hj]
 simp
end
section
attribute [local irreducible] J JL JE JM LS Y Fc RV Code.wp wpList Code.wpIn wpListIn
attribute [local irreducible] Yc
variable (E : World)
theorem small10 (i : Nat) (h : i < 100) (l : List HProp) : Fc prog E 83 [.int .i64 i].toArray l (fun v l' => v = .string ⟨(Lib.decDigits i).toArray⟩ ∧ l' = l) :=
 Fc.ofQuiet fun w _ => Any.internal_strconv_small lays283 i h w
theorem numDigits10 (u : Nat) (h1 : 1 ≤ u) (h2 : u < 18446744073709551616) (l : List HProp) (ht : T10 E l) : Fc prog E 84 [.int .u64 u].toArray l (fun v l' => v = .int .i64 (Lib.nDigits u) ∧ l' = l) :=
 Fc.ofQuiet fun w s => Any.internal_strconv_numDigits lays284 u h1 h2 w (ht w s)
theorem format10 (b e cap u : Nat) (cs : List Value) (r : List HProp) (hu : u < 18446744073709551616) (hn : Lib.nDigits u ≤ cs.length) (hz : ∀ i, i < Lib.nDigits u → cs[i]? = some (.int .u8 0)) :
 Fc prog E 85 [.slice (some ⟨b, 0, none⟩) (Lib.nDigits u) cap, .int .u64 u].toArray (row b e cs :: r) (fun v l' => v = .tuple #[] ∧ l' = row b e ((dig u).map (Value.int .u8) ++ cs.drop (Lib.nDigits u)) :: r) := Fc.ofCalls fun w hs => by
 have hsz : (Array.replicate (Lib.nDigits u) (0 : UInt8)).size = Lib.nDigits u := Array.size_replicate ..
 have hH : Sort.Holds (fun (b : UInt8) => Value.int .u8 (b.toNat : Int)) w b 0 (Array.replicate (Lib.nDigits u) (0 : UInt8)) := fun j hj => by
  have hj' : j < Lib.nDigits u := by rw [hsz] at hj; exact hj
  refine ⟨?_, hs.free _⟩
  rw [Nat.zero_add, hs.cell, hz j hj', getElem!_pos _ j hj]
  simp
 have h20 := nDigits_le hu
 have hc := Any.internal_strconv_formatBase10 lays285 b 0 cap u (Array.replicate (Lib.nDigits u) (0 : UInt8)) w hH (by rw [hsz]; exact Lib.lt_pow_nDigits u) hu (by rw [hsz]; omega)
 rw [hsz] at hc
 refine hc.mono ?_
 rintro e1 w' ⟨rfl, n, v', dk, rfl, hI⟩
 refine ⟨_, _, rfl, ?_, rfl, rfl⟩
 have hdl : dk.toList.map (fun b => Value.int .u8 (b.toNat : Int)) = (dig u).map (Value.int .u8) := by
  unfold dig
  rw [List.map_map, Lib.decDigits_eq]
  apply List.ext_getElem?
  intro i
  rw [List.getElem?_map, List.getElem?_map, List.getElem?_map]
  by_cases hi : i < Lib.nDigits u
  · have h1 := hI.done i (Nat.zero_le _) hi
    have h2 : i < dk.size := by rw [hI.size]; exact hi
    rw [Array.getElem?_toList, Array.getElem?_eq_getElem h2, List.getElem?_range hi]
    rw [getElem!_pos dk i h2] at h1
    simp [h1]
  · rw [Array.getElem?_toList, Array.getElem?_eq_none (by rw [hI.size]; omega), List.getElem?_eq_none (by simp; omega)]
    rfl
 have hp := sat_put hs (enc := fun (b : UInt8) => Value.int .u8 (b.toNat : Int)) (k := n) hI.size hn
 rw [hdl] at hp
 exact hp
end
end
section
open Go Go.Shelf
def laysCompact_ren : Go.Shelf.Ren := ⟨fun | 43 => 41 | n => n, fun | 23 => 35 | 22 => 32 | n => n, fun | n => n⟩
theorem laysCompact : Go.Proofs.SlLaysE.n43 prog laysCompact_ren := {
 mixed := by kernel_rfl
 f43 := ⟨Go.Proofs.Tryd.f41.name, by decide, Go.Proofs.Tryd.func41.trans (congrArg some (by kernel_rfl))⟩
 t0 := Go.Proofs.Tryd.underlying0
 a0 := Go.Proofs.Tryd.isAgg0
 z0 := Go.Proofs.Tryd.sizeOf0
 v0 := Go.Proofs.Tryd.zeroValue0
 t3 := Go.Proofs.Tryd.underlying3
 a3 := Go.Proofs.Tryd.isAgg3
 z3 := Go.Proofs.Tryd.sizeOf3
 v3 := Go.Proofs.Tryd.zeroValue3
 t4 := Go.Proofs.Tryd.underlying4
 a4 := Go.Proofs.Tryd.isAgg4
 z4 := Go.Proofs.Tryd.sizeOf4
 v4 := Go.Proofs.Tryd.zeroValue4
 t22 := Go.Proofs.Tryd.underlying32
 a22 := Go.Proofs.Tryd.isAgg32
 z22 := Go.Proofs.Tryd.sizeOf32
 v22 := Go.Proofs.Tryd.zeroValue32
 a23 := Go.Proofs.Tryd.isAgg35
 z23 := Go.Proofs.Tryd.sizeOf35 }
end
section
open Go Go.SL
section
attribute [local irreducible] J JL JE JM LS Y Fc RV Code.wp wpList Code.wpIn wpListIn
attribute [local irreducible] Yc
variable (E : World)
theorem len64 (ix : Int) (x : Nat) (r : List HProp) (ex : ix = x) (hx : x < 18446744073709551616) :
 Fc prog E 96 [.int .u64 ix].toArray r (fun v l' => ∃ k : Nat, v = .int .i64 k ∧ k ≤ 64 ∧ (1 ≤ x → 2 ^ k ≤ 2 * x) ∧ l' = r) := by
 refine Fc.post ?_
 subst ex
 refine Fc.of_body (c := ?codeC) Tryd.func96 ?hb Tryd.ntmps96 ?hl ?_
 case hb => exact rfl
 case hl => exact rfl
 refine J.seq (J.region (JL.step (y_assign rfl) rfl rfl rfl ?_))
 refine JL.nil (JE.then_normal ?_)
 refine J.seqK (α := Nat × Nat) (fun q => q.1 < 4294967296 ∧ q.2 ≤ 32 ∧ q.1 * 2 ^ q.2 ≤ x ∧ (1 ≤ x → 1 ≤ q.1)) (fun q => [(0, .int .u64 q.1), (2, .int .i64 q.2)]) (fun _ => r) ?hj4 (fun hk4 => ?hf4)
 case hf4 =>
  refine J.seq (J.region (JL.step (y_move rfl) rfl rfl rfl (JL.step (y_geq rfl rfl) rfl rfl rfl ?_)))
  refine JL.nil (JE.then_normal ?_)
  first | apply J.cond_dec rfl | apply J.cond rfl
  case' ht =>
   intro h
   try (first | (exfalso; omega) | (cases h; done) | (exfalso; simp at h; done) | subst h)
   all_goals
    refine J.seq (J.region (JL.step (y_move rfl) rfl rfl rfl ?_))
    refine JL.step (y_shr rfl rfl (by decide) (shr_nat (x := x) (k := 32) rfl (by decide))) rfl rfl rfl ?_
    refine JL.step (y_assign rfl) rfl rfl rfl ?_
    refine JL.nil (JE.then_normal (J.region (JL.step (y_assign rfl) rfl rfl rfl ?_)))
    refine JL.nil ?_
  case' hf =>
   intro h
   try (first | (exfalso; omega) | (cases h; done) | (exfalso; simp at h; done) | subst h)
   all_goals
    refine J.skip ?_
  all_goals refine JE.then_normal ?_
  all_goals
   first | exact J.closeK hk4 (x / 2 ^ 32, 32) ⟨by dsimp only; omega, by dsimp only; omega, by dsimp only; omega, by dsimp only; omega⟩ ⟨rfl, rfl, trivial⟩ (fun w h => h) | exact J.closeK hk4 (x, 0) ⟨by dsimp only; omega, by dsimp only; omega, by dsimp only; omega, by dsimp only; omega⟩ ⟨rfl, rfl, trivial⟩ (fun w h => h)
 rintro ⟨y, k⟩ ⟨h1, h2, h3, h4⟩
 dsimp only at h1 h2 h3 h4 ⊢
 refine J.seqK (α := Nat × Nat) (fun q => q.1 < 65536 ∧ q.2 ≤ 48 ∧ q.1 * 2 ^ q.2 ≤ x ∧ (1 ≤ x → 1 ≤ q.1)) (fun q => [(0, .int .u64 q.1), (2, .int .i64 q.2)]) (fun _ => r) ?hj7 (fun hk7 => ?hf7)
 case hf7 =>
  refine J.seq (J.region (JL.step (y_move rfl) rfl rfl rfl (JL.step (y_geq rfl rfl) rfl rfl rfl ?_)))
  refine JL.nil (JE.then_normal ?_)
  first | apply J.cond_dec rfl | apply J.cond rfl
  case' ht =>
   intro h
   try (first | (exfalso; omega) | (cases h; done) | (exfalso; simp at h; done) | subst h)
   all_goals
    refine J.seq (J.region (JL.step (y_move rfl) rfl rfl rfl ?_))
    refine JL.step (y_shr rfl rfl (by decide) (shr_nat (x := y) (k := 16) rfl (by decide))) rfl rfl rfl ?_
    refine JL.step (y_assign rfl) rfl rfl rfl ?_
    refine JL.nil (JE.then_normal (J.region (JL.step (y_move rfl) rfl rfl rfl ?_)))
    refine JL.step (y_add rfl rfl (by (first | exact wrap_i64 (by omega) (by omega) | rfl))) rfl rfl rfl ?_
    refine JL.step (y_assign rfl) rfl rfl rfl ?_
    refine JL.nil ?_
  case' hf =>
   intro h
   try (first | (exfalso; omega) | (cases h; done) | (exfalso; simp at h; done) | subst h)
   all_goals
    refine J.skip ?_
  all_goals refine JE.then_normal ?_
  all_goals
   first | exact J.closeK hk7 (y / 2 ^ 16, k + 16) ⟨by dsimp only; omega, by dsimp only; omega, shift_down h3, by dsimp only; omega⟩ ⟨rfl, (congrArg (fun z => some (Value.int .i64 z)) (by first | omega | (dsimp only; omega))), trivial⟩ (fun w h => h) | exact J.closeK hk7 (y, k) ⟨by dsimp only; omega, by dsimp only; omega, h3, h4⟩ ⟨rfl, rfl, trivial⟩ (fun w h => h)
 rintro ⟨y, k⟩ ⟨h1, h2, h3, h4⟩
 dsimp only at h1 h2 h3 h4 ⊢
 refine J.seqK (α := Nat × Nat) (fun q => q.1 < 256 ∧ q.2 ≤ 56 ∧ q.1 * 2 ^ q.2 ≤ x ∧ (1 ≤ x → 1 ≤ q.1)) (fun q => [(0, .int .u64 q.1), (2, .int .i64 q.2)]) (fun _ => r) ?hj10 (fun hk10 => ?hf10)
 case hf10 =>
  refine J.seq (J.region (JL.step (y_move rfl) rfl rfl rfl (JL.step (y_geq rfl rfl) rfl rfl rfl ?_)))
  refine JL.nil (JE.then_normal ?_)
  first | apply J.cond_dec rfl | apply J.cond rfl
  case' ht =>
   intro h
   try (first | (exfalso; omega) | (cases h; done) | (exfalso; simp at h; done) | subst h)
   all_goals
    refine J.seq (J.region (JL.step (y_move rfl) rfl rfl rfl ?_))
    refine JL.step (y_shr rfl rfl (by decide) (shr_nat (x := y) (k := 8) rfl (by decide))) rfl rfl rfl ?_
    refine JL.step (y_assign rfl) rfl rfl rfl ?_
    refine JL.nil (JE.then_normal (J.region (JL.step (y_move rfl) rfl rfl rfl ?_)))
    refine JL.step (y_add rfl rfl (by (first | exact wrap_i64 (by omega) (by omega) | rfl))) rfl rfl rfl ?_
    refine JL.step (y_assign rfl) rfl rfl rfl ?_
    refine JL.nil ?_
  case' hf =>
   intro h
   try (first | (exfalso; omega) | (cases h; done) | (exfalso; simp at h; done) | subst h)
   all_goals
    refine J.skip ?_
  all_goals refine JE.then_normal ?_
  all_goals
   first | exact J.closeK hk10 (y / 2 ^ 8, k + 8) ⟨by dsimp only; omega, by dsimp only; omega, shift_down h3, by dsimp only; omega⟩ ⟨rfl, (congrArg (fun z => some (Value.int .i64 z)) (by first | omega | (dsimp only; omega))), trivial⟩ (fun w h => h) | exact J.closeK hk10 (y, k) ⟨by dsimp only; omega, by dsimp only; omega, h3, h4⟩ ⟨rfl, rfl, trivial⟩ (fun w h => h)
 rintro ⟨y, k⟩ ⟨h1, h2, h3, h4⟩
 dsimp only at h1 h2 h3 h4 ⊢
 obtain ⟨t, ht1, ht2, ht3⟩ := len8_at h1
 refine J.seq (J.region (JL.step (y_move rfl) rfl rfl rfl (JL.step (y_move rfl) rfl rfl rfl ?_)))
 refine JL.step (y_conv (m := (y : Int)) hT rfl rfl rfl rfl (wrap_u8n (by omega))) rfl rfl rfl ?_
 refine JL.step (y_index_len8 hT rfl rfl (by kernel_rfl) rfl (by omega) (by omega)) rfl rfl rfl ?_
 refine JL.step (y_conv (m := (t : Int)) hT rfl rfl rfl rfl (by rw [ht1]; exact wrap_i64 (by omega) (by omega))) rfl rfl rfl ?_
 refine JL.step (y_add (m := ((k + t : Nat) : Int)) rfl rfl (by rw [wrap_i64 (by omega) (by omega)]; omega)) rfl rfl rfl ?_
 refine JL.step (y_assign rfl) rfl rfl rfl ?_
 refine JL.nil (JE.then_normal (J.ret ?_))
 refine JE.ret1 (.inl rfl) rfl rfl (by (first | exact RV.tmp rfl | exact RV.cell1 hT rfl rfl rfl (by (exact Rd1.row (by (repeat (first | exact Pick.head | apply Pick.tail | apply Pick.app))) (by rfl))) | exact RV.cellN hT rfl rfl rfl (by (first | exact RdN.rowAll (by (repeat (first | exact Pick.head | apply Pick.tail | apply Pick.app))) | exact RdN.own (by (repeat (first | exact Pick.head | apply Pick.tail | apply Pick.app))))) (by (first | rfl | assumption | (simp; done) | omega)))) ?_
 exact ⟨_, fun w h => h, k + t, rfl, by omega, fun hx1 => pow_len h3 (ht3 (h4 hx1)), rfl⟩
theorem lenU (ix : Int) (x : Nat) (r : List HProp) (ex : ix = x) (hx : x < 18446744073709551616) :
 Fc prog E 74 [.int .u64 ix].toArray r (fun v l' => ∃ k : Nat, v = .int .i64 k ∧ k ≤ 64 ∧ (1 ≤ x → 2 ^ k ≤ 2 * x) ∧ l' = r) := by
 refine Fc.post ?_
 refine Fc.of_body (c := ?codeC) Tryd.func74 ?hb Tryd.ntmps74 ?hl ?_
 case hb => exact rfl
 case hl => exact rfl
 refine J.seq (J.region (JL.step (y_assign rfl) rfl rfl rfl ?_))
 refine JL.nil (JE.then_normal (J.seq ?_))
 refine J.cond_f rfl (by (first | rfl | assumption | (simp; done) | (simp; omega))) ?_
 refine J.skip (JE.then_normal (J.seq (J.region (JL.step (y_move rfl) rfl rfl rfl ?_))))
 refine JL.loud rfl (l_callF e96 rfl rfl (len64 E _ x _ ex hx) ?_)
 rintro _ _ ⟨k, rfl, hk1, hk2, rfl⟩
 refine JL.step (y_assign rfl) rfl rfl rfl ?_
 refine JL.nil (JE.then_normal (J.ret ?_))
 refine JE.ret1 (.inl rfl) rfl rfl (by (first | exact RV.tmp rfl | exact RV.cell1 hT rfl rfl rfl (by (exact Rd1.row (by (repeat (first | exact Pick.head | apply Pick.tail | apply Pick.app))) (by rfl))) | exact RV.cellN hT rfl rfl rfl (by (first | exact RdN.rowAll (by (repeat (first | exact Pick.head | apply Pick.tail | apply Pick.app))) | exact RdN.own (by (repeat (first | exact Pick.head | apply Pick.tail | apply Pick.app))))) (by (first | rfl | assumption | (simp; done) | omega)))) ?_
 exact ⟨_, fun w h => h, k, rfl, hk1, hk2, rfl⟩
theorem npow (ix : Int) (x : Nat) (r : List HProp) (ex : ix = x) (h1 : 1 ≤ x) (hx : x < 4611686018427387904) :
 Fc prog E 122 [.int .i64 ix].toArray r (fun v l' => ∃ m : Nat, v = .int .u64 m ∧ 1 ≤ m ∧ m ≤ 2 * x ∧ l' = r) := by
 refine Fc.post ?_
 subst ex
 refine Fc.of_body (c := ?codeC) Tryd.func122 ?hb Tryd.ntmps122 ?hl ?_
 case hb => exact rfl
 case hl => exact rfl
 refine J.seq (J.region (JL.step (y_assign rfl) rfl rfl rfl ?_))
 refine JL.nil (JE.then_normal (J.seq (J.region (JL.step (y_move rfl) rfl rfl rfl ?_))))
 refine JL.step (y_conv (m := (x : Int)) hT rfl rfl rfl rfl (wrap_u64n (by omega))) rfl rfl rfl ?_
 refine JL.loud rfl (l_callF e74 rfl rfl (lenU E _ x _ rfl (by omega)) ?_)
 rintro _ _ ⟨k, rfl, hk1, hk2, rfl⟩
 have hk3 := hk2 h1
 have hk4 : k < 64 := pow_small (k := k) (by omega)
 refine JL.step (y_shl (m := ((2 ^ k : Nat) : Int)) rfl rfl (by omega) (shl_one hk4)) rfl rfl rfl ?_
 refine JL.step (y_assign rfl) rfl rfl rfl ?_
 refine JL.nil (JE.then_normal (J.ret ?_))
 refine JE.ret1 (.inl rfl) rfl rfl (by (first | exact RV.tmp rfl | exact RV.cell1 hT rfl rfl rfl (by (exact Rd1.row (by (repeat (first | exact Pick.head | apply Pick.tail | apply Pick.app))) (by rfl))) | exact RV.cellN hT rfl rfl rfl (by (first | exact RdN.rowAll (by (repeat (first | exact Pick.head | apply Pick.tail | apply Pick.app))) | exact RdN.own (by (repeat (first | exact Pick.head | apply Pick.tail | apply Pick.app))))) (by (first | rfl | assumption | (simp; done) | omega)))) ?_
 exact ⟨_, fun w h => h, 2 ^ k, rfl, Nat.one_le_two_pow, hk3, rfl⟩
theorem xnext (s : Nat) (e : TypeId) (z : BitVec 64) (r : List HProp) :
 Fc prog E 123 [.pointer (some ⟨s, 0, none⟩)].toArray (row s e [Q z] :: r) (fun v l' => ∃ z', v = Q z' ∧ l' = row s e [Q z'] :: r) := by
 refine Fc.post ?_
 refine Fc.of_body (c := ?codeC) Tryd.func123 ?hb Tryd.ntmps123 ?hl ?_
 case hb => exact rfl
 case hl => exact rfl
 refine J.seq (J.region (JL.step (y_assign rfl) rfl rfl rfl ?_))
 refine JL.nil (JE.then_normal (J.seq ?_))
 refine J.draw _ _ [(0, .q), (1, .q), (3, .q), (4, .q), (2, .e), (5, .e), (6, .e), (7, .q), (8, .q), (9, .l)] mixed (by kernel_rfl) (Split.cons (Pick.head) (Split.nil)) ?_
 refine JM.quiet rfl rfl rfl rfl (fun m => y_move rfl) ?_
 refine JM.quiet rfl rfl rfl rfl (fun m => (by first | exact y_nilCheck rfl | exact y_nilCheckF rfl | exact y_nilCheckY rfl)) ?_
 refine JM.quiet rfl rfl rfl rfl (fun m => y_move rfl) ?_
 refine JM.quiet rfl rfl rfl rfl (fun m => (by first | exact y_nilCheck rfl | exact y_nilCheckF rfl | exact y_nilCheckY rfl)) ?_
 refine JM.early rfl rfl rfl rfl (fun fr => y_load1 hT rfl rfl rfl (by (exact Rd1.row (by (repeat (first | exact Pick.head | apply Pick.tail | apply Pick.app))) (by rfl)))) ?_
 refine JM.early rfl rfl rfl rfl (fun fr => y_load1 hT rfl rfl rfl (by (exact Rd1.row (by (repeat (first | exact Pick.head | apply Pick.tail | apply Pick.app))) (by rfl)))) ?_
 refine JM.early rfl rfl rfl rfl (fun fr => (by first | exact y_shlQ rfl rfl (by (first | omega | exact Nat.le_of_ble_eq_true rfl | decide | (simp; omega))) (by (first | omega | exact Nat.le_of_ble_eq_true rfl | decide | (simp; omega))) | exact y_shl rfl rfl (by (first | omega | exact Nat.le_of_ble_eq_true rfl | decide | (simp; omega))) (by rfl))) ?_
 refine JM.quiet rfl rfl rfl rfl (fun m => (by first | exact y_xorQ rfl rfl | exact y_bits rfl rfl (by rfl))) ?_
 refine JM.quiet rfl rfl rfl rfl (fun m => (by first | exact y_nilCheck rfl | exact y_nilCheckF rfl | exact y_nilCheckY rfl)) ?_
 refine JM.loud rfl rfl (fun fr => l_store1 hT rfl rfl rfl rfl rfl (by (repeat (first | exact Pick.head | apply Pick.tail | apply Pick.app))) (by (first | omega | exact Nat.le_of_ble_eq_true rfl | decide | (simp; omega))) (⟨[_], (by (repeat (first | exact Split.nil | exact Split.all | refine Split.cons Pick.head ?_))), ?_⟩))
 refine JM.nil (JE.then_normal (J.seq ?_))
 refine J.draw _ _ [(0, .q), (1, .q), (3, .q), (4, .q), (2, .e), (5, .e), (6, .e), (7, .q), (8, .q), (9, .l)] mixed (by kernel_rfl) (Split.cons (Pick.head) (Split.nil)) ?_
 refine JM.quiet rfl rfl rfl rfl (fun m => y_move rfl) ?_
 refine JM.quiet rfl rfl rfl rfl (fun m => (by first | exact y_nilCheck rfl | exact y_nilCheckF rfl | exact y_nilCheckY rfl)) ?_
 refine JM.quiet rfl rfl rfl rfl (fun m => y_move rfl) ?_
 refine JM.quiet rfl rfl rfl rfl (fun m => (by first | exact y_nilCheck rfl | exact y_nilCheckF rfl | exact y_nilCheckY rfl)) ?_
 refine JM.early rfl rfl rfl rfl (fun fr => y_load1 hT rfl rfl rfl (by (exact Rd1.row (by (repeat (first | exact Pick.head | apply Pick.tail | apply Pick.app))) (by rfl)))) ?_
 refine JM.early rfl rfl rfl rfl (fun fr => y_load1 hT rfl rfl rfl (by (exact Rd1.row (by (repeat (first | exact Pick.head | apply Pick.tail | apply Pick.app))) (by rfl)))) ?_
 refine JM.early rfl rfl rfl rfl (fun fr => (by first | exact y_shrQ rfl rfl (by (first | omega | exact Nat.le_of_ble_eq_true rfl | decide | (simp; omega))) (by (first | omega | exact Nat.le_of_ble_eq_true rfl | decide | (simp; omega))) | exact y_shr rfl rfl (by (first | omega | exact Nat.le_of_ble_eq_true rfl | decide | (simp; omega))) (by rfl))) ?_
 refine JM.quiet rfl rfl rfl rfl (fun m => (by first | exact y_xorQ rfl rfl | exact y_bits rfl rfl (by rfl))) ?_
 refine JM.quiet rfl rfl rfl rfl (fun m => (by first | exact y_nilCheck rfl | exact y_nilCheckF rfl | exact y_nilCheckY rfl)) ?_
 refine JM.loud rfl rfl (fun fr => l_store1 hT rfl rfl rfl rfl rfl (by (repeat (first | exact Pick.head | apply Pick.tail | apply Pick.app))) (by (first | omega | exact Nat.le_of_ble_eq_true rfl | decide | (simp; omega))) (⟨[_], (by (repeat (first | exact Split.nil | exact Split.all | refine Split.cons Pick.head ?_))), ?_⟩))
 refine JM.nil (JE.then_normal (J.seq ?_))
 refine J.draw _ _ [(0, .q), (1, .q), (3, .q), (4, .q), (2, .e), (5, .e), (6, .e), (7, .q), (8, .q), (9, .l)] mixed (by kernel_rfl) (Split.cons (Pick.head) (Split.nil)) ?_
 refine JM.quiet rfl rfl rfl rfl (fun m => y_move rfl) ?_
 refine JM.quiet rfl rfl rfl rfl (fun m => (by first | exact y_nilCheck rfl | exact y_nilCheckF rfl | exact y_nilCheckY rfl)) ?_
 refine JM.quiet rfl rfl rfl rfl (fun m => y_move rfl) ?_
 refine JM.quiet rfl rfl rfl rfl (fun m => (by first | exact y_nilCheck rfl | exact y_nilCheckF rfl | exact y_nilCheckY rfl)) ?_
 refine JM.early rfl rfl rfl rfl (fun fr => y_load1 hT rfl rfl rfl (by (exact Rd1.row (by (repeat (first | exact Pick.head | apply Pick.tail | apply Pick.app))) (by rfl)))) ?_
 refine JM.early rfl rfl rfl rfl (fun fr => y_load1 hT rfl rfl rfl (by (exact Rd1.row (by (repeat (first | exact Pick.head | apply Pick.tail | apply Pick.app))) (by rfl)))) ?_
 refine JM.early rfl rfl rfl rfl (fun fr => (by first | exact y_shlQ rfl rfl (by (first | omega | exact Nat.le_of_ble_eq_true rfl | decide | (simp; omega))) (by (first | omega | exact Nat.le_of_ble_eq_true rfl | decide | (simp; omega))) | exact y_shl rfl rfl (by (first | omega | exact Nat.le_of_ble_eq_true rfl | decide | (simp; omega))) (by rfl))) ?_
 refine JM.quiet rfl rfl rfl rfl (fun m => (by first | exact y_xorQ rfl rfl | exact y_bits rfl rfl (by rfl))) ?_
 refine JM.quiet rfl rfl rfl rfl (fun m => (by first | exact y_nilCheck rfl | exact y_nilCheckF rfl | exact y_nilCheckY rfl)) ?_
 refine JM.loud rfl rfl (fun fr => l_store1 hT rfl rfl rfl rfl rfl (by (repeat (first | exact Pick.head | apply Pick.tail | apply Pick.app))) (by (first | omega | exact Nat.le_of_ble_eq_true rfl | decide | (simp; omega))) (⟨[_], (by (repeat (first | exact Split.nil | exact Split.all | refine Split.cons Pick.head ?_))), ?_⟩))
 refine JM.nil (JE.then_normal (J.seq (J.region (JL.step (y_move rfl) rfl rfl rfl ?_))))
 refine JL.step ((by first | exact y_nilCheck rfl | exact y_nilCheckF rfl | exact y_nilCheckY rfl)) rfl rfl rfl ?_
 refine JL.step (y_load1 hT rfl rfl rfl (by (exact Rd1.row (by (repeat (first | exact Pick.head | apply Pick.tail | apply Pick.app))) (by rfl)))) rfl rfl rfl ?_
 refine JL.step (y_assign rfl) rfl rfl rfl ?_
 refine JL.nil (JE.then_normal (J.ret ?_))
 refine JE.ret1 (.inl rfl) rfl rfl (by (first | exact RV.tmp rfl | exact RV.cell1 hT rfl rfl rfl (by (exact Rd1.row (by (repeat (first | exact Pick.head | apply Pick.tail | apply Pick.app))) (by rfl))) | exact RV.cellN hT rfl rfl rfl (by (first | exact RdN.rowAll (by (repeat (first | exact Pick.head | apply Pick.tail | apply Pick.app))) | exact RdN.own (by (repeat (first | exact Pick.head | apply Pick.tail | apply Pick.app))))) (by (first | rfl | assumption | (simp; done) | omega)))) ?_
 exact ⟨_, fun w h => h, _, rfl, rfl⟩
end
end
section
open Go Go.SL
section
attribute [local irreducible] J JL JE JM LS Y Fc RV Code.wp wpList Code.wpIn wpListIn
attribute [local irreducible] Yc
variable (E : World)
abbrev arU (g : Nat) (d : Array Int) (sp : List Value) : HProp := arr g 35 (fun x => [(Value.int .u64) x]) d sp
theorem isNaNU (x : Int) (l : List HProp) : Fc prog E 129 [(Value.int .u64) x].toArray l (fun v l' => v = .bool false ∧ l' = l) := by
 refine Fc.of_body (c := ?codeC) Tryd.func129 ?hb Tryd.ntmps129 ?hl ?_
 case hb => exact rfl
 case hl => exact rfl
 refine J.seq (J.region (JL.step (y_assign rfl) rfl rfl rfl ?_))
 refine JL.nil (JE.then_normal (J.seq (J.region (JL.step (y_move rfl) rfl rfl rfl (JL.step (y_move rfl) rfl rfl rfl (JL.step (y_neq rfl rfl) rfl rfl rfl (JL.step (y_assign rfl) rfl rfl rfl ?_)))))))
 refine JL.nil (JE.then_normal (J.ret ?_))
 refine JE.ret1 (.inl rfl) rfl rfl (by (first | exact RV.tmp rfl | exact RV.cell1 hT rfl rfl rfl (by (exact Rd1.row (by (repeat (first | exact Pick.head | apply Pick.tail | apply Pick.app))) (by rfl))) | exact RV.cellN hT rfl rfl rfl (by (first | exact RdN.rowAll (by (repeat (first | exact Pick.head | apply Pick.tail | apply Pick.app))) | exact RdN.own (by (repeat (first | exact Pick.head | apply Pick.tail | apply Pick.app))))) (by (first | rfl | assumption | (simp; done) | omega)))) ?_
 exact ⟨by simp, rfl⟩
theorem lessU (x y : Int) (l : List HProp) : Fc prog E 103 [(Value.int .u64) x, (Value.int .u64) y].toArray l (fun v l' => v = .bool (Sort.ltInt x y) ∧ l' = l) := by
 refine Fc.of_body (c := ?codeC) Tryd.func103 ?hb Tryd.ntmps103 ?hl ?_
 case hb => exact rfl
 case hl => exact rfl
 refine J.seq (J.region (JL.step (y_assign rfl) rfl rfl rfl ?_))
 refine JL.nil (JE.then_normal (J.seq (J.region (JL.step (y_move rfl) rfl rfl rfl ?_))))
 refine JL.loud rfl (l_callF e129 rfl rfl (isNaNU E _ _) ?_)
 rintro _ _ ⟨rfl, rfl⟩
 refine JL.step (y_move rfl) rfl rfl rfl ?_
 all_goals (first | (refine JL.gsplit_dec rfl rfl rfl (fun h => ?_) (fun h => ?_) <;> try (first | (exfalso; omega) | exact absurd rfl h)) | (refine JL.gsplit rfl rfl rfl (fun h => ?_) (fun h => ?_) <;> try (first | cases h | (exfalso; simp at h; done))) | skip)
 all_goals (first | refine JL.gskip rfl rfl rfl rfl rfl rfl ?_ | refine JL.gskipU rfl rfl rfl rfl rfl ?_ | refine JL.gstep rfl rfl rfl (y_move rfl) rfl rfl ?_)
 all_goals (first | refine JL.gskip rfl rfl rfl rfl rfl rfl ?_ | refine JL.gskipU rfl rfl rfl rfl rfl ?_ | (refine JL.gloud rfl rfl rfl (l_callF e129 rfl rfl (isNaNU E _ _) ?_); rintro _ _ ⟨rfl, rfl⟩))
 all_goals (first | refine JL.gskip rfl rfl rfl rfl rfl rfl ?_ | refine JL.gskipU rfl rfl rfl rfl rfl ?_ | refine JL.gstep rfl rfl rfl (y_not rfl) rfl rfl ?_)
 all_goals (refine JL.step (y_pick rfl rfl rfl) rfl rfl rfl ?_)
 all_goals (refine JL.step (y_move rfl) rfl rfl rfl ?_)
 all_goals (first | (refine JL.gsplit_dec rfl rfl rfl (fun h => ?_) (fun h => ?_) <;> try (first | (exfalso; omega) | exact absurd rfl h)) | (refine JL.gsplit rfl rfl rfl (fun h => ?_) (fun h => ?_) <;> try (first | cases h | (exfalso; simp at h; done))) | skip)
 all_goals (first | refine JL.gskip rfl rfl rfl rfl rfl rfl ?_ | refine JL.gskipU rfl rfl rfl rfl rfl ?_ | refine JL.gstep rfl rfl rfl (y_move rfl) rfl rfl ?_)
 all_goals (first | refine JL.gskip rfl rfl rfl rfl rfl rfl ?_ | refine JL.gskipU rfl rfl rfl rfl rfl ?_ | refine JL.gstep rfl rfl rfl (y_move rfl) rfl rfl ?_)
 all_goals (first | refine JL.gskip rfl rfl rfl rfl rfl rfl ?_ | refine JL.gskipU rfl rfl rfl rfl rfl ?_ | refine JL.gstep rfl rfl rfl (y_lss rfl rfl) rfl rfl ?_)
 all_goals (refine JL.step (y_pick rfl rfl rfl) rfl rfl rfl ?_)
 all_goals (refine JL.step (y_assign rfl) rfl rfl rfl ?_)
 all_goals refine JL.nil (JE.then_normal ?_)
 all_goals
  refine J.ret ?_
  refine JE.ret1 (.inl rfl) rfl rfl (by (first | exact RV.tmp rfl | exact RV.cell1 hT rfl rfl rfl (by (exact Rd1.row (by (repeat (first | exact Pick.head | apply Pick.tail | apply Pick.app))) (by rfl))) | exact RV.cellN hT rfl rfl rfl (by (first | exact RdN.rowAll (by (repeat (first | exact Pick.head | apply Pick.tail | apply Pick.app))) | exact RdN.own (by (repeat (first | exact Pick.head | apply Pick.tail | apply Pick.app))))) (by (first | rfl | assumption | (simp; done) | omega)))) ?_
  exact ⟨rfl, rfl⟩
attribute [local irreducible] Sort.ltInt
theorem insU (g c n a b : Nat) (ia ib : Int) (d : Array Int) (sp : List Value) (r : List HProp) (ea : ia = a) (eb : ib = b) (hn : d.size = n) (ha : a ≤ n) (hb : b ≤ n) (h63 : n < 4611686018427387904) :
 Fc prog E 97 [.slice (some ⟨g, 0, none⟩) n c, .int .i64 ia, .int .i64 ib].toArray (arU g d sp :: r) (fun v l' => v = .tuple #[] ∧ l' = arU g (Sort.insertionSort Sort.ltInt d a b) sp :: r) := by
 refine Fc.eqs ?_
 subst ea eb
 refine Fc.of_body (c := ?codeC) Tryd.func97 ?hb Tryd.ntmps97 ?hl ?_
 case hb => exact rfl
 case hl => exact rfl
 refine J.seq (J.region (JL.step (y_move rfl) rfl rfl rfl ?_))
 refine JL.step (y_add rfl rfl (by (first | exact wrap_i64 (by omega) (by omega) | rfl))) rfl rfl rfl ?_
 refine JL.step (y_assign rfl) rfl rfl rfl ?_
 refine JL.nil (JE.then_normal (J.block ?_))
 refine J.loop (α := Nat × Array Int) (fun s => a + 1 ≤ s.1 ∧ s.2.size = n ∧ Sort.insOuter Sort.ltInt a b s.1 s.2 = Sort.insertionSort Sort.ltInt d a b) (fun s => [(0, .slice (some ⟨g, 0, none⟩) n c), (1, .int .i64 a), (2, .int .i64 b), (6, .int .i64 s.1)]) (fun s => arU g s.2 sp :: r) (fun s => b - s.1) (a + 1, d) ⟨Nat.le_refl _, hn, rfl⟩ ⟨rfl, rfl, rfl, (congrArg (fun z => some (Value.int .i64 z)) (by first | omega | (dsimp only; omega))), trivial⟩ (fun w h => h) ?_
 rintro ⟨i, d1⟩ ⟨hi1, hs1, he1⟩
 try dsimp only at hi1 hs1 he1 ⊢
 refine J.seq (J.seq (J.region (JL.step (y_move rfl) rfl rfl rfl (JL.step (y_move rfl) rfl rfl rfl (JL.step (y_lss rfl rfl) rfl rfl rfl ?_)))))
 refine JL.nil (JE.then_normal ?_)
 first | apply J.cond_dec rfl | apply J.cond rfl
 case' ht =>
  intro h
  try (first | (exfalso; omega) | (cases h; done) | (exfalso; simp at h; done) | subst h)
  all_goals
   have hlt : i < b := by omega
   refine J.skip ?_
 case' hf =>
  intro h
  try (first | (exfalso; omega) | (cases h; done) | (exfalso; simp at h; done) | subst h)
  all_goals
   rw [insOuter_ge (by omega)] at he1
   refine J.exit (JE.then_exit (JE.then_exit (JE.block_exit ?_)))
   refine JE.ret0 (.inr rfl) rfl rfl  ?_
   exact ⟨rfl, fun w h => by rw [← he1]; exact h⟩
 all_goals refine JE.then_normal ?_
 all_goals
  refine J.seq (J.block (J.seq (J.region (JL.step (y_move rfl) rfl rfl rfl (JL.step (y_assign rfl) rfl rfl rfl ?_)))))
  refine JL.nil (JE.then_normal (J.block ?_))
  refine J.loop (α := Nat × Array Int) (fun s => a ≤ s.1 ∧ s.1 ≤ i ∧ s.2.size = n ∧ Sort.insInner Sort.ltInt a s.1 s.2 = Sort.insInner Sort.ltInt a i d1) (fun s => [(0, .slice (some ⟨g, 0, none⟩) n c), (1, .int .i64 a), (2, .int .i64 b), (6, .int .i64 i), (7, .int .i64 s.1)]) (fun s => arU g s.2 sp :: r) (fun s => s.1) (i, d1) ⟨by dsimp only; omega, Nat.le_refl _, hs1, rfl⟩ ⟨rfl, rfl, rfl, rfl, rfl, trivial⟩ (fun w h => h) ?_
  rintro ⟨j, d2⟩ ⟨hj1, hj2, hs2, he2⟩
  try dsimp only at hj1 hj2 hs2 he2 ⊢
  refine J.seq (J.seq ?_)
  by_cases hg : a < j
  all_goals
   refine J.draw _ _ [(0, .q), (1, .q), (2, .q), (3, .q), (4, .q), (5, .q), (6, .q), (7, .q), (8, .q), (9, .q), (10, .q), (11, .q), (12, .q), (13, .q), (14, .q)] mixed (by kernel_rfl) (Split.nil) ?_
   refine JM.quiet rfl rfl rfl rfl (fun m => y_move rfl) (JM.quiet rfl rfl rfl rfl (fun m => y_move rfl) ?_)
   first | refine JM.quiet rfl rfl rfl rfl (fun m => y_gtrB rfl rfl (decide_eq_true (by omega))) ?_ | refine JM.quiet rfl rfl rfl rfl (fun m => y_gtrB rfl rfl (decide_eq_false (by omega))) ?_
   refine JM.quiet rfl rfl rfl rfl (fun m => y_move rfl) ?_
   all_goals (first | refine JM.gskip rfl rfl rfl rfl rfl rfl rfl ?_ | refine JM.gskipU rfl rfl rfl rfl rfl rfl ?_ | refine JM.gquiet rfl rfl rfl rfl rfl rfl (fun m => y_move rfl) ?_)
   all_goals (first | refine JM.gskip rfl rfl rfl rfl rfl rfl rfl ?_ | refine JM.gskipU rfl rfl rfl rfl rfl rfl ?_ | refine JM.gquiet rfl rfl rfl rfl rfl rfl (fun m => y_move rfl) ?_)
   all_goals (first | refine JM.gskip rfl rfl rfl rfl rfl rfl rfl ?_ | refine JM.gskipU rfl rfl rfl rfl rfl rfl ?_ | refine JM.gquiet rfl rfl rfl rfl rfl rfl (fun m => y_indexAddr_slice hT rfl rfl rfl rfl rfl (by (first | omega | exact Nat.le_of_ble_eq_true rfl | decide | (simp; omega))) (by (first | omega | exact Nat.le_of_ble_eq_true rfl | decide | (simp; omega)))) ?_)
   all_goals (first | refine JM.gskip rfl rfl rfl rfl rfl rfl rfl ?_ | refine JM.gskipU rfl rfl rfl rfl rfl rfl ?_ | refine JM.gquiet rfl rfl rfl rfl rfl rfl (fun m => y_load1 hT rfl rfl rfl (Rd1.arr (i := (j)) (Pick.app m (by (repeat (first | exact Pick.head | apply Pick.tail | apply Pick.app)))) (by (first | assumption | omega | (simp only [Array.size_setIfInBounds]; omega))) (by exact arr_off rfl (by omega)))) ?_)
   all_goals (first | refine JM.gskip rfl rfl rfl rfl rfl rfl rfl ?_ | refine JM.gskipU rfl rfl rfl rfl rfl rfl ?_ | refine JM.gquiet rfl rfl rfl rfl rfl rfl (fun m => y_move rfl) ?_)
   all_goals (first | refine JM.gskip rfl rfl rfl rfl rfl rfl rfl ?_ | refine JM.gskipU rfl rfl rfl rfl rfl rfl ?_ | refine JM.gquiet rfl rfl rfl rfl rfl rfl (fun m => y_move rfl) ?_)
   all_goals (first | refine JM.gskip rfl rfl rfl rfl rfl rfl rfl ?_ | refine JM.gskipU rfl rfl rfl rfl rfl rfl ?_ | refine JM.gquiet rfl rfl rfl rfl rfl rfl (fun m => y_sub rfl rfl (by (first | exact wrap_i64 (by omega) (by omega) | rfl))) ?_)
   all_goals (first | refine JM.gskip rfl rfl rfl rfl rfl rfl rfl ?_ | refine JM.gskipU rfl rfl rfl rfl rfl rfl ?_ | refine JM.gquiet rfl rfl rfl rfl rfl rfl (fun m => y_indexAddr_slice hT rfl rfl rfl rfl rfl (by (first | omega | exact Nat.le_of_ble_eq_true rfl | decide | (simp; omega))) (by (first | omega | exact Nat.le_of_ble_eq_true rfl | decide | (simp; omega)))) ?_)
   all_goals (first | refine JM.gskip rfl rfl rfl rfl rfl rfl rfl ?_ | refine JM.gskipU rfl rfl rfl rfl rfl rfl ?_ | refine JM.gquiet rfl rfl rfl rfl rfl rfl (fun m => y_load1 hT rfl rfl rfl (Rd1.arr (i := (j - 1)) (Pick.app m (by (repeat (first | exact Pick.head | apply Pick.tail | apply Pick.app)))) (by (first | assumption | omega | (simp only [Array.size_setIfInBounds]; omega))) (by exact arr_off rfl (by omega)))) ?_)
   all_goals (first | refine JM.gskip rfl rfl rfl rfl rfl rfl rfl ?_ | refine JM.gskipU rfl rfl rfl rfl rfl rfl ?_ | refine JM.gquiet rfl rfl rfl rfl rfl rfl (fun m => y_callF e103 rfl (lessU E _ _ _)) ?_)
   all_goals refine JM.quiet rfl rfl rfl rfl (fun m => y_pick rfl rfl rfl) ?_
   all_goals refine JM.nil ?_
  all_goals refine JE.then_normal ?_
  all_goals
   first | apply J.cond_dec rfl | apply J.cond rfl
   case' ht =>
    intro h
    try (first | (exfalso; omega) | (cases h; done) | (exfalso; simp at h; done) | subst h)
    all_goals
     rw [insInner_go hg h] at he2
     refine J.skip ?_
   case' hf =>
    intro h
    try (first | (exfalso; omega) | (cases h; done) | (exfalso; simp at h; done) | subst h)
    all_goals
     rw [insInner_stop (by first | exact .inl (by omega) | exact .inr h)] at he2
     refine J.exit (JE.then_exit (JE.then_exit (JE.block_exit (JE.block_normal (JE.then_normal (J.region (JL.step (y_move rfl) rfl rfl rfl ?_)))))))
     refine JL.step (y_add rfl rfl (by (first | exact wrap_i64 (by omega) (by omega) | rfl))) rfl rfl rfl ?_
     refine JL.step (y_assign rfl) rfl rfl rfl ?_
     refine JL.nil ?_
     exact JE.round (s := (i, d1)) (i + 1, Sort.insInner Sort.ltInt a i d1) ⟨by dsimp only; omega, by dsimp only; rw [← he2]; exact hs2, by dsimp only; rw [← insOuter_lt hlt]; exact he1⟩ ⟨rfl, rfl, rfl, (congrArg (fun z => some (Value.int .i64 z)) (by first | omega | (dsimp only; omega))), trivial⟩ (fun w h => by rw [← he2]; exact h) (by dsimp only; omega)
  all_goals refine JE.then_normal ?_
  all_goals
   refine J.seq (J.block ?_)
   refine J.draw _ _ [(0, .q), (1, .q), (2, .q), (3, .q), (4, .q), (5, .q), (6, .q), (7, .q), (8, .q), (10, .q), (11, .q), (12, .q), (9, .e), (13, .e), (14, .q), (15, .l), (16, .q), (17, .l)] mixed (by kernel_rfl) (Split.cons (Pick.head) (Split.nil)) ?_
   refine JM.quiet rfl rfl rfl rfl (fun m => y_move rfl) (JM.quiet rfl rfl rfl rfl (fun m => y_move rfl) (JM.quiet rfl rfl rfl rfl (fun m => y_move rfl) (JM.quiet rfl rfl rfl rfl (fun m => y_move rfl) ?_)))
   refine JM.quiet rfl rfl rfl rfl (fun m => y_sub rfl rfl (by (first | exact wrap_i64 (by omega) (by omega) | rfl))) ?_
   refine JM.quiet rfl rfl rfl rfl (fun m => y_move rfl) (JM.quiet rfl rfl rfl rfl (fun m => y_move rfl) ?_)
   refine JM.quiet rfl rfl rfl rfl (fun m => y_sub rfl rfl (by (first | exact wrap_i64 (by omega) (by omega) | rfl))) ?_
   refine JM.quiet rfl rfl rfl rfl (fun m => y_indexAddr_slice hT rfl rfl rfl rfl rfl (by (first | omega | exact Nat.le_of_ble_eq_true rfl | decide | (simp; omega))) (by (first | omega | exact Nat.le_of_ble_eq_true rfl | decide | (simp; omega)))) ?_
   refine JM.quiet rfl rfl rfl rfl (fun m => y_move rfl) (JM.quiet rfl rfl rfl rfl (fun m => y_move rfl) ?_)
   refine JM.quiet rfl rfl rfl rfl (fun m => y_indexAddr_slice hT rfl rfl rfl rfl rfl (by (first | omega | exact Nat.le_of_ble_eq_true rfl | decide | (simp; omega))) (by (first | omega | exact Nat.le_of_ble_eq_true rfl | decide | (simp; omega)))) ?_
   refine JM.early rfl rfl rfl rfl (fun fr => y_load1 hT rfl rfl rfl (Rd1.arr (i := (j - 1)) (by (repeat (first | exact Pick.head | apply Pick.tail | apply Pick.app))) (by (first | assumption | omega | (simp only [Array.size_setIfInBounds]; omega))) (by exact arr_off rfl (by omega)))) ?_
   refine JM.early rfl rfl rfl rfl (fun fr => y_load1 hT rfl rfl rfl (Rd1.arr (i := (j)) (by (repeat (first | exact Pick.head | apply Pick.tail | apply Pick.app))) (by (first | assumption | omega | (simp only [Array.size_setIfInBounds]; omega))) (by exact arr_off rfl (by omega)))) ?_
   refine JM.quiet rfl rfl rfl rfl (fun m => y_indexAddr_slice hT rfl rfl rfl rfl rfl (by (first | omega | exact Nat.le_of_ble_eq_true rfl | decide | (simp; omega))) (by (first | omega | exact Nat.le_of_ble_eq_true rfl | decide | (simp; omega)))) ?_
   refine JM.loud rfl rfl (fun fr => l_storeArr (j := (j)) (u := d2[j - 1]!) hT rfl rfl rfl rfl (fun _ => rfl) (by (repeat (first | exact Pick.head | apply Pick.tail | apply Pick.app))) (by (first | assumption | omega | (simp only [Array.size_setIfInBounds]; omega))) (by exact arr_off rfl (by omega)) (⟨[_], (by (repeat (first | exact Split.nil | exact Split.all | refine Split.cons Pick.head ?_))), ?_⟩))
   refine JM.quiet rfl rfl rfl rfl (fun m => y_indexAddr_slice hT rfl rfl rfl rfl rfl (by (first | omega | exact Nat.le_of_ble_eq_true rfl | decide | (simp; omega))) (by (first | omega | exact Nat.le_of_ble_eq_true rfl | decide | (simp; omega)))) ?_
   refine JM.loud rfl rfl (fun fr => l_storeArr (j := (j - 1)) (u := d2[j]!) hT rfl rfl rfl rfl (fun _ => rfl) (by (repeat (first | exact Pick.head | apply Pick.tail | apply Pick.app))) (by (first | assumption | omega | (simp only [Array.size_setIfInBounds]; omega))) (by exact arr_off rfl (by omega)) (⟨[_], (by (repeat (first | exact Split.nil | exact Split.all | refine Split.cons Pick.head ?_))), ?_⟩))
   refine JM.nil (JE.block_normal (JE.then_normal (J.region (JL.step (y_move rfl) rfl rfl rfl ?_))))
   refine JL.step (y_sub rfl rfl (by (first | exact wrap_i64 (by omega) (by omega) | rfl))) rfl rfl rfl ?_
   refine JL.step (y_assign rfl) rfl rfl rfl ?_
   refine JL.nil ?_
  all_goals
   exact JE.round (s := (j, d2)) (j - 1, Sort.swp d2 j (j - 1)) ⟨by dsimp only; omega, by dsimp only; omega, by dsimp only; rw [swp_size]; exact hs2, he2⟩ ⟨rfl, rfl, rfl, rfl, (congrArg (fun z => some (Value.int .i64 z)) (by first | omega | (dsimp only; omega))), trivial⟩ (fun w h => h) (by dsimp only; omega)
end
end
section
open Go Go.SL
section
attribute [local irreducible] J JL JE JM LS Y Fc RV Code.wp wpList Code.wpIn wpListIn
attribute [local irreducible] Yc
attribute [local irreducible] Sort.ltInt
variable (E : World)
theorem revU (g c n a b : Nat) (ia ib : Int) (d : Array Int) (sp : List Value) (r : List HProp) (ea : ia = a) (eb : ib = b) (hn : d.size = n) (hab : a < b) (hb : b ≤ n) (h63 : n < 4611686018427387904) :
 Fc prog E 101 [.slice (some ⟨g, 0, none⟩) n c, .int .i64 ia, .int .i64 ib].toArray (arU g d sp :: r) (fun v l' => v = .tuple #[] ∧ l' = arU g (Sort.reverseRange d a b) sp :: r) := by
 refine Fc.eqs ?_
 subst ea eb
 refine Fc.of_body (c := ?codeC) Tryd.func101 ?hb Tryd.ntmps101 ?hl ?_
 case hb => exact rfl
 case hl => exact rfl
 refine J.seq (J.region (JL.step (y_move rfl) rfl rfl rfl (JL.step (y_assign rfl) rfl rfl rfl ?_)))
 refine JL.nil (JE.then_normal (J.seq (J.region (JL.step (y_move rfl) rfl rfl rfl ?_))))
 refine JL.step (y_sub rfl rfl (by (first | exact wrap_i64 (by omega) (by omega) | rfl))) rfl rfl rfl ?_
 refine JL.step (y_assign rfl) rfl rfl rfl ?_
 refine JL.nil (JE.then_normal (J.block ?_))
 refine J.loop (α := Nat × Nat × Array Int) (fun s => s.1 ≤ b ∧ s.2.1 < b ∧ s.2.2.size = n ∧ Sort.reverseLoop s.1 s.2.1 s.2.2 = Sort.reverseRange d a b) (fun s => [(0, .slice (some ⟨g, 0, none⟩) n c), (6, .int .i64 s.1), (7, .int .i64 s.2.1)]) (fun s => arU g s.2.2 sp :: r) (fun s => s.2.1 - s.1) (a, b - 1, d) ⟨by dsimp only; omega, by dsimp only; omega, hn, rfl⟩ ⟨rfl, rfl, (congrArg (fun z => some (Value.int .i64 z)) (by first | omega | (dsimp only; omega))), trivial⟩ (fun w h => h) ?_
 rintro ⟨i, j, d1⟩ ⟨hi1, hj1, hs1, he1⟩
 try dsimp only at hi1 hj1 hs1 he1 ⊢
 refine J.seq (J.seq (J.region (JL.step (y_move rfl) rfl rfl rfl (JL.step (y_move rfl) rfl rfl rfl (JL.step (y_lss rfl rfl) rfl rfl rfl ?_)))))
 refine JL.nil (JE.then_normal ?_)
 first | apply J.cond_dec rfl | apply J.cond rfl
 case' ht =>
  intro h
  try (first | (exfalso; omega) | (cases h; done) | (exfalso; simp at h; done) | subst h)
  all_goals
   rw [reverseLoop_lt (by omega)] at he1
   refine J.skip ?_
 case' hf =>
  intro h
  try (first | (exfalso; omega) | (cases h; done) | (exfalso; simp at h; done) | subst h)
  all_goals
   rw [reverseLoop_ge (by omega)] at he1
   refine J.exit (JE.then_exit (JE.then_exit (JE.block_exit ?_)))
   refine JE.ret0 (.inr rfl) rfl rfl  ?_
   exact ⟨rfl, fun w h => by rw [← he1]; exact h⟩
 all_goals refine JE.then_normal ?_
 all_goals
  refine J.block (J.seq ?_)
  refine J.draw _ _ [(0, .q), (1, .q), (2, .q), (3, .q), (4, .q), (5, .q), (6, .q), (8, .q), (9, .q), (10, .q), (7, .e), (11, .e), (12, .q), (13, .l), (14, .q), (15, .l)] mixed (by kernel_rfl) (Split.cons (Pick.head) (Split.nil)) ?_
  refine JM.quiet rfl rfl rfl rfl (fun m => y_move rfl) (JM.quiet rfl rfl rfl rfl (fun m => y_move rfl) (JM.quiet rfl rfl rfl rfl (fun m => y_move rfl) (JM.quiet rfl rfl rfl rfl (fun m => y_move rfl) (JM.quiet rfl rfl rfl rfl (fun m => y_move rfl) (JM.quiet rfl rfl rfl rfl (fun m => y_move rfl) ?_)))))
  refine JM.quiet rfl rfl rfl rfl (fun m => y_indexAddr_slice hT rfl rfl rfl rfl rfl (by (first | omega | exact Nat.le_of_ble_eq_true rfl | decide | (simp; omega))) (by (first | omega | exact Nat.le_of_ble_eq_true rfl | decide | (simp; omega)))) ?_
  refine JM.quiet rfl rfl rfl rfl (fun m => y_move rfl) (JM.quiet rfl rfl rfl rfl (fun m => y_move rfl) ?_)
  refine JM.quiet rfl rfl rfl rfl (fun m => y_indexAddr_slice hT rfl rfl rfl rfl rfl (by (first | omega | exact Nat.le_of_ble_eq_true rfl | decide | (simp; omega))) (by (first | omega | exact Nat.le_of_ble_eq_true rfl | decide | (simp; omega)))) ?_
  refine JM.early rfl rfl rfl rfl (fun fr => y_load1 hT rfl rfl rfl (Rd1.arr (i := (j)) (by (repeat (first | exact Pick.head | apply Pick.tail | apply Pick.app))) (by (first | assumption | omega | (simp only [Array.size_setIfInBounds]; omega))) (by exact arr_off rfl (by omega)))) ?_
  refine JM.early rfl rfl rfl rfl (fun fr => y_load1 hT rfl rfl rfl (Rd1.arr (i := (i)) (by (repeat (first | exact Pick.head | apply Pick.tail | apply Pick.app))) (by (first | assumption | omega | (simp only [Array.size_setIfInBounds]; omega))) (by exact arr_off rfl (by omega)))) ?_
  refine JM.quiet rfl rfl rfl rfl (fun m => y_indexAddr_slice hT rfl rfl rfl rfl rfl (by (first | omega | exact Nat.le_of_ble_eq_true rfl | decide | (simp; omega))) (by (first | omega | exact Nat.le_of_ble_eq_true rfl | decide | (simp; omega)))) ?_
  refine JM.loud rfl rfl (fun fr => l_storeArr (j := (i)) (u := d1[j]!) hT rfl rfl rfl rfl (fun _ => rfl) (by (repeat (first | exact Pick.head | apply Pick.tail | apply Pick.app))) (by (first | assumption | omega | (simp only [Array.size_setIfInBounds]; omega))) (by exact arr_off rfl (by omega)) (⟨[_], (by (repeat (first | exact Split.nil | exact Split.all | refine Split.cons Pick.head ?_))), ?_⟩))
  refine JM.quiet rfl rfl rfl rfl (fun m => y_indexAddr_slice hT rfl rfl rfl rfl rfl (by (first | omega | exact Nat.le_of_ble_eq_true rfl | decide | (simp; omega))) (by (first | omega | exact Nat.le_of_ble_eq_true rfl | decide | (simp; omega)))) ?_
  refine JM.loud rfl rfl (fun fr => l_storeArr (j := (j)) (u := d1[i]!) hT rfl rfl rfl rfl (fun _ => rfl) (by (repeat (first | exact Pick.head | apply Pick.tail | apply Pick.app))) (by (first | assumption | omega | (simp only [Array.size_setIfInBounds]; omega))) (by exact arr_off rfl (by omega)) (⟨[_], (by (repeat (first | exact Split.nil | exact Split.all | refine Split.cons Pick.head ?_))), ?_⟩))
  refine JM.nil (JE.then_normal (J.seq (J.region (JL.step (y_move rfl) rfl rfl rfl ?_))))
  refine JL.step (y_add rfl rfl (by (first | exact wrap_i64 (by omega) (by omega) | rfl))) rfl rfl rfl ?_
  refine JL.step (y_assign rfl) rfl rfl rfl ?_
  refine JL.nil (JE.then_normal (J.region (JL.step (y_move rfl) rfl rfl rfl ?_)))
  refine JL.step (y_sub rfl rfl (by (first | exact wrap_i64 (by omega) (by omega) | rfl))) rfl rfl rfl ?_
  refine JL.step (y_assign rfl) rfl rfl rfl ?_
  refine JL.nil (JE.block_normal ?_)
 all_goals
  exact JE.round (s := (i, j, d1)) (i + 1, j - 1, Sort.swp d1 i j) ⟨by dsimp only; omega, by dsimp only; omega, by dsimp only; rw [swp_size]; exact hs1, he1⟩ ⟨rfl, (congrArg (fun z => some (Value.int .i64 z)) (by first | omega | (dsimp only; omega))), (congrArg (fun z => some (Value.int .i64 z)) (by first | omega | (dsimp only; omega))), trivial⟩ (fun w h => h) (by dsimp only; omega)
theorem siftU (g c n root hi first : Nat) (ir ih jf : Int) (d : Array Int) (sp : List Value) (r : List HProp) (er : ir = root) (eh : ih = hi) (ef : jf = first) (hn : d.size = n) (hr : root ≤ n) (hf : first + hi ≤ n) (h63 : n < 4611686018427387904) :
 Fc prog E 126 [.slice (some ⟨g, 0, none⟩) n c, .int .i64 ir, .int .i64 ih, .int .i64 jf].toArray (arU g d sp :: r) (fun v l' => v = .tuple #[] ∧ l' = arU g (Sort.siftDown Sort.ltInt hi first root d) sp :: r) := by
 refine Fc.eqs ?_
 subst er eh ef
 refine Fc.of_body (c := ?codeC) Tryd.func126 ?hb Tryd.ntmps126 ?hl ?_
 case hb => exact rfl
 case hl => exact rfl
 refine J.seq (J.region (JL.step (y_move rfl) rfl rfl rfl (JL.step (y_assign rfl) rfl rfl rfl ?_)))
 refine JL.nil (JE.then_normal (J.block ?_))
 refine J.loop (α := Nat × Array Int) (fun s => s.1 ≤ n ∧ s.2.size = n ∧ Sort.siftDown Sort.ltInt hi first s.1 s.2 = Sort.siftDown Sort.ltInt hi first root d) (fun s => [(0, .slice (some ⟨g, 0, none⟩) n c), (2, .int .i64 hi), (3, .int .i64 first), (8, .int .i64 s.1)]) (fun s => arU g s.2 sp :: r) (fun s => hi - s.1) (root, d) ⟨hr, hn, rfl⟩ ⟨rfl, rfl, rfl, rfl, trivial⟩ (fun w h => h) ?_
 rintro ⟨rt, d1⟩ ⟨hi1, hs1, he1⟩
 try dsimp only at hi1 hs1 he1 ⊢
 refine J.block (J.seq (J.region (JL.step (y_move rfl) rfl rfl rfl ?_)))
 refine JL.step (y_mul rfl rfl (by (first | exact wrap_i64 (by omega) (by omega) | rfl))) rfl rfl rfl ?_
 refine JL.step (y_add rfl rfl (by (first | exact wrap_i64 (by omega) (by omega) | rfl))) rfl rfl rfl ?_
 refine JL.step (y_assign rfl) rfl rfl rfl ?_
 refine JL.nil (JE.then_normal (J.seq (J.seq (J.region (JL.step (y_move rfl) rfl rfl rfl (JL.step (y_move rfl) rfl rfl rfl (JL.step (y_geq rfl rfl) rfl rfl rfl ?_)))))))
 refine JL.nil (JE.then_normal ?_)
 first | apply J.cond_dec rfl | apply J.cond rfl
 case' ht =>
  intro h
  try (first | (exfalso; omega) | (cases h; done) | (exfalso; simp at h; done) | subst h)
  all_goals
   rw [siftDown_stop (by omega)] at he1
   refine J.exit (JE.then_exit ?_)
   refine JE.block_past rfl ?_
   refine JE.then_exit (JE.block_exit ?_)
   refine JE.ret0 (.inr rfl) rfl rfl  ?_
   exact ⟨rfl, fun w h => by rw [← he1]; exact h⟩
 case' hf =>
  intro h
  try (first | (exfalso; omega) | (cases h; done) | (exfalso; simp at h; done) | subst h)
  all_goals
   rw [siftDown_eq (by omega)] at he1
   refine J.skip ?_
 all_goals refine JE.then_normal ?_
 all_goals
  refine J.seqK (α := Nat) (fun cc => sdChild Sort.ltInt hi first rt d1 = cc ∧ cc < hi ∧ rt < cc) (fun cc => [(0, .slice (some ⟨g, 0, none⟩) n c), (2, .int .i64 hi), (3, .int .i64 first), (8, .int .i64 rt), (9, .int .i64 cc)]) (fun cc => arU g d1 sp :: r) ?hj5 (fun hk5 => ?hf5)
  case hf5 =>
   refine J.seq ?_
   by_cases hg : 2 * rt + 1 + 1 < hi
   all_goals
    refine J.draw _ _ [(0, .q), (1, .q), (2, .q), (3, .q), (4, .q), (5, .q), (6, .q), (7, .q), (8, .q), (9, .q), (10, .q), (11, .q), (12, .q), (13, .q), (14, .q), (15, .q), (16, .q), (17, .q), (18, .q), (19, .q)] mixed (by kernel_rfl) (Split.nil) ?_
    refine JM.quiet rfl rfl rfl rfl (fun m => y_move rfl) ?_
    refine JM.quiet rfl rfl rfl rfl (fun m => y_add rfl rfl (by (first | exact wrap_i64 (by omega) (by omega) | rfl))) ?_
    refine JM.quiet rfl rfl rfl rfl (fun m => y_move rfl) ?_
    first | refine JM.quiet rfl rfl rfl rfl (fun m => y_lssB rfl rfl (decide_eq_true (by omega))) ?_ | refine JM.quiet rfl rfl rfl rfl (fun m => y_lssB rfl rfl (decide_eq_false (by omega))) ?_
    refine JM.quiet rfl rfl rfl rfl (fun m => y_move rfl) ?_
    all_goals (first | refine JM.gskip rfl rfl rfl rfl rfl rfl rfl ?_ | refine JM.gskipU rfl rfl rfl rfl rfl rfl ?_ | refine JM.gquiet rfl rfl rfl rfl rfl rfl (fun m => y_move rfl) ?_)
    all_goals (first | refine JM.gskip rfl rfl rfl rfl rfl rfl rfl ?_ | refine JM.gskipU rfl rfl rfl rfl rfl rfl ?_ | refine JM.gquiet rfl rfl rfl rfl rfl rfl (fun m => y_move rfl) ?_)
    all_goals (first | refine JM.gskip rfl rfl rfl rfl rfl rfl rfl ?_ | refine JM.gskipU rfl rfl rfl rfl rfl rfl ?_ | refine JM.gquiet rfl rfl rfl rfl rfl rfl (fun m => y_move rfl) ?_)
    all_goals (first | refine JM.gskip rfl rfl rfl rfl rfl rfl rfl ?_ | refine JM.gskipU rfl rfl rfl rfl rfl rfl ?_ | refine JM.gquiet rfl rfl rfl rfl rfl rfl (fun m => y_add rfl rfl (by (first | exact wrap_i64 (by omega) (by omega) | rfl))) ?_)
    all_goals (first | refine JM.gskip rfl rfl rfl rfl rfl rfl rfl ?_ | refine JM.gskipU rfl rfl rfl rfl rfl rfl ?_ | refine JM.gquiet rfl rfl rfl rfl rfl rfl (fun m => y_indexAddr_slice hT rfl rfl rfl rfl rfl (by (first | omega | exact Nat.le_of_ble_eq_true rfl | decide | (simp; omega))) (by (first | omega | exact Nat.le_of_ble_eq_true rfl | decide | (simp; omega)))) ?_)
    all_goals (first | refine JM.gskip rfl rfl rfl rfl rfl rfl rfl ?_ | refine JM.gskipU rfl rfl rfl rfl rfl rfl ?_ | refine JM.gquiet rfl rfl rfl rfl rfl rfl (fun m => y_load1 hT rfl rfl rfl (Rd1.arr (i := (first + (2 * rt + 1))) (Pick.app m (by (repeat (first | exact Pick.head | apply Pick.tail | apply Pick.app)))) (by (first | assumption | omega | (simp only [Array.size_setIfInBounds]; omega))) (by exact arr_off rfl (by omega)))) ?_)
    all_goals (first | refine JM.gskip rfl rfl rfl rfl rfl rfl rfl ?_ | refine JM.gskipU rfl rfl rfl rfl rfl rfl ?_ | refine JM.gquiet rfl rfl rfl rfl rfl rfl (fun m => y_move rfl) ?_)
    all_goals (first | refine JM.gskip rfl rfl rfl rfl rfl rfl rfl ?_ | refine JM.gskipU rfl rfl rfl rfl rfl rfl ?_ | refine JM.gquiet rfl rfl rfl rfl rfl rfl (fun m => y_move rfl) ?_)
    all_goals (first | refine JM.gskip rfl rfl rfl rfl rfl rfl rfl ?_ | refine JM.gskipU rfl rfl rfl rfl rfl rfl ?_ | refine JM.gquiet rfl rfl rfl rfl rfl rfl (fun m => y_move rfl) ?_)
    all_goals (first | refine JM.gskip rfl rfl rfl rfl rfl rfl rfl ?_ | refine JM.gskipU rfl rfl rfl rfl rfl rfl ?_ | refine JM.gquiet rfl rfl rfl rfl rfl rfl (fun m => y_add rfl rfl (by (first | exact wrap_i64 (by omega) (by omega) | rfl))) ?_)
    all_goals (first | refine JM.gskip rfl rfl rfl rfl rfl rfl rfl ?_ | refine JM.gskipU rfl rfl rfl rfl rfl rfl ?_ | refine JM.gquiet rfl rfl rfl rfl rfl rfl (fun m => y_add rfl rfl (by (first | exact wrap_i64 (by omega) (by omega) | rfl))) ?_)
    all_goals (first | refine JM.gskip rfl rfl rfl rfl rfl rfl rfl ?_ | refine JM.gskipU rfl rfl rfl rfl rfl rfl ?_ | refine JM.gquiet rfl rfl rfl rfl rfl rfl (fun m => y_indexAddr_slice hT rfl rfl rfl rfl rfl (by (first | omega | exact Nat.le_of_ble_eq_true rfl | decide | (simp; omega))) (by (first | omega | exact Nat.le_of_ble_eq_true rfl | decide | (simp; omega)))) ?_)
    all_goals (first | refine JM.gskip rfl rfl rfl rfl rfl rfl rfl ?_ | refine JM.gskipU rfl rfl rfl rfl rfl rfl ?_ | refine JM.gquiet rfl rfl rfl rfl rfl rfl (fun m => y_load1 hT rfl rfl rfl (Rd1.arr (i := (first + (2 * rt + 1) + 1)) (Pick.app m (by (repeat (first | exact Pick.head | apply Pick.tail | apply Pick.app)))) (by (first | assumption | omega | (simp only [Array.size_setIfInBounds]; omega))) (by exact arr_off rfl (by omega)))) ?_)
    all_goals (first | refine JM.gskip rfl rfl rfl rfl rfl rfl rfl ?_ | refine JM.gskipU rfl rfl rfl rfl rfl rfl ?_ | refine JM.gquiet rfl rfl rfl rfl rfl rfl (fun m => y_callF e103 rfl (lessU E _ _ _)) ?_)
    all_goals refine JM.quiet rfl rfl rfl rfl (fun m => y_pick rfl rfl rfl) ?_
    all_goals refine JM.nil ?_
   all_goals refine JE.then_normal ?_
   all_goals
    first | apply J.cond_dec rfl | apply J.cond rfl
    case' ht =>
     intro h
     try (first | (exfalso; omega) | (cases h; done) | (exfalso; simp at h; done) | subst h)
     all_goals
      refine J.region (JL.step (y_move rfl) rfl rfl rfl ?_)
      refine JL.step (y_add rfl rfl (by (first | exact wrap_i64 (by omega) (by omega) | rfl))) rfl rfl rfl ?_
      refine JL.step (y_assign rfl) rfl rfl rfl ?_
      refine JL.nil ?_
    case' hf =>
     intro h
     try (first | (exfalso; omega) | (cases h; done) | (exfalso; simp at h; done) | subst h)
     all_goals
      refine J.skip ?_
   all_goals refine JE.then_normal ?_
   all_goals
    first | exact J.closeK hk5 (2 * rt + 2) ⟨if_pos ⟨hg, h⟩, by omega, by omega⟩ ⟨rfl, rfl, rfl, rfl, (congrArg (fun z => some (Value.int .i64 z)) (by first | omega | (dsimp only; omega))), trivial⟩ (fun w h => h) | exact J.closeK hk5 (2 * rt + 1) ⟨if_neg (by first | exact fun q => absurd q.1 hg | (rw [h]; exact fun q => absurd q.2 (by decide))), by omega, by omega⟩ ⟨rfl, rfl, rfl, rfl, (congrArg (fun z => some (Value.int .i64 z)) (by first | omega | (dsimp only; omega))), trivial⟩ (fun w h => h)
  rintro cc ⟨hc1, hc2, hc3⟩
  rw [hc1] at he1
  refine J.seq (J.seq ?_)
  refine J.draw _ _ [(0, .q), (1, .q), (2, .q), (3, .q), (4, .q), (5, .q), (6, .q), (7, .q), (8, .q), (9, .q), (10, .q), (11, .q), (12, .q), (13, .q)] mixed (by kernel_rfl) (Split.nil) ?_
  refine JM.quiet rfl rfl rfl rfl (fun m => y_move rfl) (JM.quiet rfl rfl rfl rfl (fun m => y_move rfl) (JM.quiet rfl rfl rfl rfl (fun m => y_move rfl) ?_))
  refine JM.quiet rfl rfl rfl rfl (fun m => y_add rfl rfl (by (first | exact wrap_i64 (by omega) (by omega) | rfl))) ?_
  refine JM.quiet rfl rfl rfl rfl (fun m => y_indexAddr_slice hT rfl rfl rfl rfl rfl (by (first | omega | exact Nat.le_of_ble_eq_true rfl | decide | (simp; omega))) (by (first | omega | exact Nat.le_of_ble_eq_true rfl | decide | (simp; omega)))) ?_
  refine JM.quiet rfl rfl rfl rfl (fun m => y_load1 hT rfl rfl rfl (Rd1.arr (i := (first + rt)) (Pick.app m (by (repeat (first | exact Pick.head | apply Pick.tail | apply Pick.app)))) (by (first | assumption | omega | (simp only [Array.size_setIfInBounds]; omega))) (by exact arr_off rfl (by omega)))) ?_
  refine JM.quiet rfl rfl rfl rfl (fun m => y_move rfl) (JM.quiet rfl rfl rfl rfl (fun m => y_move rfl) (JM.quiet rfl rfl rfl rfl (fun m => y_move rfl) ?_))
  refine JM.quiet rfl rfl rfl rfl (fun m => y_add rfl rfl (by (first | exact wrap_i64 (by omega) (by omega) | rfl))) ?_
  refine JM.quiet rfl rfl rfl rfl (fun m => y_indexAddr_slice hT rfl rfl rfl rfl rfl (by (first | omega | exact Nat.le_of_ble_eq_true rfl | decide | (simp; omega))) (by (first | omega | exact Nat.le_of_ble_eq_true rfl | decide | (simp; omega)))) ?_
  refine JM.quiet rfl rfl rfl rfl (fun m => y_load1 hT rfl rfl rfl (Rd1.arr (i := (first + cc)) (Pick.app m (by (repeat (first | exact Pick.head | apply Pick.tail | apply Pick.app)))) (by (first | assumption | omega | (simp only [Array.size_setIfInBounds]; omega))) (by exact arr_off rfl (by omega)))) ?_
  refine JM.quiet rfl rfl rfl rfl (fun m => y_callF e103 rfl (lessU E _ _ _)) (JM.quiet rfl rfl rfl rfl (fun m => y_not rfl) ?_)
  refine JM.nil (JE.then_normal ?_)
  first | apply J.cond_dec rfl | apply J.cond rfl
  case' ht =>
   intro h
   try (first | (exfalso; omega) | (cases h; done) | (exfalso; simp at h; done) | subst h)
   all_goals
    rw [if_neg (by simpa using h)] at he1
    refine J.ret (JE.then_ret (JE.block_ret (JE.then_ret (JE.block_ret ?_))))
    refine JE.ret0 (.inl rfl) rfl rfl  ?_
    exact ⟨rfl, fun w h => by rw [← he1]; exact h⟩
  case' hf =>
   intro h
   try (first | (exfalso; omega) | (cases h; done) | (exfalso; simp at h; done) | subst h)
   all_goals
    rw [if_pos (by simpa using h)] at he1
    refine J.skip ?_
  all_goals refine JE.then_normal ?_
  all_goals
   refine J.seq ?_
   refine J.draw _ _ [(0, .q), (1, .q), (2, .q), (3, .q), (4, .q), (5, .q), (6, .q), (7, .q), (8, .q), (9, .q), (10, .q), (11, .q), (12, .q), (14, .q), (15, .q), (16, .q), (17, .q), (18, .q), (13, .e), (19, .e), (20, .q), (21, .l), (22, .q), (23, .l)] mixed (by kernel_rfl) (Split.cons (Pick.head) (Split.nil)) ?_
   refine JM.quiet rfl rfl rfl rfl (fun m => y_move rfl) (JM.quiet rfl rfl rfl rfl (fun m => y_move rfl) (JM.quiet rfl rfl rfl rfl (fun m => y_move rfl) ?_))
   refine JM.quiet rfl rfl rfl rfl (fun m => y_add rfl rfl (by (first | exact wrap_i64 (by omega) (by omega) | rfl))) ?_
   refine JM.quiet rfl rfl rfl rfl (fun m => y_move rfl) (JM.quiet rfl rfl rfl rfl (fun m => y_move rfl) (JM.quiet rfl rfl rfl rfl (fun m => y_move rfl) ?_))
   refine JM.quiet rfl rfl rfl rfl (fun m => y_add rfl rfl (by (first | exact wrap_i64 (by omega) (by omega) | rfl))) ?_
   refine JM.quiet rfl rfl rfl rfl (fun m => y_move rfl) (JM.quiet rfl rfl rfl rfl (fun m => y_move rfl) (JM.quiet rfl rfl rfl rfl (fun m => y_move rfl) ?_))
   refine JM.quiet rfl rfl rfl rfl (fun m => y_add rfl rfl (by (first | exact wrap_i64 (by omega) (by omega) | rfl))) ?_
   refine JM.quiet rfl rfl rfl rfl (fun m => y_indexAddr_slice hT rfl rfl rfl rfl rfl (by (first | omega | exact Nat.le_of_ble_eq_true rfl | decide | (simp; omega))) (by (first | omega | exact Nat.le_of_ble_eq_true rfl | decide | (simp; omega)))) ?_
   refine JM.quiet rfl rfl rfl rfl (fun m => y_move rfl) (JM.quiet rfl rfl rfl rfl (fun m => y_move rfl) (JM.quiet rfl rfl rfl rfl (fun m => y_move rfl) ?_))
   refine JM.quiet rfl rfl rfl rfl (fun m => y_add rfl rfl (by (first | exact wrap_i64 (by omega) (by omega) | rfl))) ?_
   refine JM.quiet rfl rfl rfl rfl (fun m => y_indexAddr_slice hT rfl rfl rfl rfl rfl (by (first | omega | exact Nat.le_of_ble_eq_true rfl | decide | (simp; omega))) (by (first | omega | exact Nat.le_of_ble_eq_true rfl | decide | (simp; omega)))) ?_
   refine JM.early rfl rfl rfl rfl (fun fr => y_load1 hT rfl rfl rfl (Rd1.arr (i := (first + cc)) (by (repeat (first | exact Pick.head | apply Pick.tail | apply Pick.app))) (by (first | assumption | omega | (simp only [Array.size_setIfInBounds]; omega))) (by exact arr_off rfl (by omega)))) ?_
   refine JM.early rfl rfl rfl rfl (fun fr => y_load1 hT rfl rfl rfl (Rd1.arr (i := (first + rt)) (by (repeat (first | exact Pick.head | apply Pick.tail | apply Pick.app))) (by (first | assumption | omega | (simp only [Array.size_setIfInBounds]; omega))) (by exact arr_off rfl (by omega)))) ?_
   refine JM.quiet rfl rfl rfl rfl (fun m => y_indexAddr_slice hT rfl rfl rfl rfl rfl (by (first | omega | exact Nat.le_of_ble_eq_true rfl | decide | (simp; omega))) (by (first | omega | exact Nat.le_of_ble_eq_true rfl | decide | (simp; omega)))) ?_
   refine JM.loud rfl rfl (fun fr => l_storeArr (j := (first + rt)) (u := d1[first + cc]!) hT rfl rfl rfl rfl (fun _ => rfl) (by (repeat (first | exact Pick.head | apply Pick.tail | apply Pick.app))) (by (first | assumption | omega | (simp only [Array.size_setIfInBounds]; omega))) (by exact arr_off rfl (by omega)) (⟨[_], (by (repeat (first | exact Split.nil | exact Split.all | refine Split.cons Pick.head ?_))), ?_⟩))
   refine JM.quiet rfl rfl rfl rfl (fun m => y_indexAddr_slice hT rfl rfl rfl rfl rfl (by (first | omega | exact Nat.le_of_ble_eq_true rfl | decide | (simp; omega))) (by (first | omega | exact Nat.le_of_ble_eq_true rfl | decide | (simp; omega)))) ?_
   refine JM.loud rfl rfl (fun fr => l_storeArr (j := (first + cc)) (u := d1[first + rt]!) hT rfl rfl rfl rfl (fun _ => rfl) (by (repeat (first | exact Pick.head | apply Pick.tail | apply Pick.app))) (by (first | assumption | omega | (simp only [Array.size_setIfInBounds]; omega))) (by exact arr_off rfl (by omega)) (⟨[_], (by (repeat (first | exact Split.nil | exact Split.all | refine Split.cons Pick.head ?_))), ?_⟩))
   refine JM.nil (JE.then_normal (J.region (JL.step (y_move rfl) rfl rfl rfl (JL.step (y_assign rfl) rfl rfl rfl ?_))))
   refine JL.nil ?_
 all_goals refine JE.block_normal ?_
 all_goals
  exact JE.round (s := (rt, d1)) (cc, Sort.swp d1 (first + rt) (first + cc)) ⟨by dsimp only; omega, by dsimp only; rw [swp_size]; exact hs1, he1⟩ ⟨rfl, rfl, rfl, rfl, trivial⟩ (fun w h => h) (by dsimp only; omega)
theorem heapU (g c n a b : Nat) (ia ib : Int) (d : Array Int) (sp : List Value) (r : List HProp) (ea : ia = a) (eb : ib = b) (hn : d.size = n) (hab : a < b) (hb : b ≤ n) (h63 : n < 4611686018427387904) :
 Fc prog E 98 [.slice (some ⟨g, 0, none⟩) n c, .int .i64 ia, .int .i64 ib].toArray (arU g d sp :: r) (fun v l' => v = .tuple #[] ∧ ∃ d', d' = Sort.heapSort Sort.ltInt d a b ∧ l' = arU g d' sp :: r) := by
 suffices hq : Fc prog E 98 [.slice (some ⟨g, 0, none⟩) n c, .int .i64 ia, .int .i64 ib].toArray (arU g d sp :: r) (fun v l' => v = .tuple #[] ∧ l' = arU g (Sort.heapSort Sort.ltInt d a b) sp :: r) from hq.mono fun v l' q => ⟨q.1, _, rfl, q.2⟩
 refine Fc.eqs ?_
 subst ea eb
 refine Fc.of_body (c := ?codeC) Tryd.func98 ?hb Tryd.ntmps98 ?hl ?_
 case hb => exact rfl
 case hl => exact rfl
 refine J.seq (J.region (JL.step (y_move rfl) rfl rfl rfl (JL.step (y_assign rfl) rfl rfl rfl ?_)))
 refine JL.nil (JE.then_normal (J.seq (J.region (JL.step (y_assign rfl) rfl rfl rfl ?_))))
 refine JL.nil (JE.then_normal (J.seq (J.region (JL.step (y_move rfl) rfl rfl rfl (JL.step (y_move rfl) rfl rfl rfl ?_)))))
 refine JL.step (y_sub rfl rfl (by (first | exact wrap_i64 (by omega) (by omega) | rfl))) rfl rfl rfl ?_
 refine JL.step (y_assign rfl) rfl rfl rfl ?_
 refine JL.nil (JE.then_normal (J.seq (J.seq (J.region (JL.step (y_move rfl) rfl rfl rfl ?_)))))
 refine JL.step (y_sub rfl rfl (by (first | exact wrap_i64 (by omega) (by omega) | rfl))) rfl rfl rfl ?_
 refine JL.step (y_quo rfl rfl (by decide) (quo_nat (x := b - a - 1) (k := 2) (by omega) (by omega))) rfl rfl rfl ?_
 refine JL.step (y_assign rfl) rfl rfl rfl ?_
 refine JL.nil (JE.then_normal (J.block ?_))
 refine J.loop (α := Nat × Array Int) (fun s => s.1 ≤ n ∧ s.2.size = n ∧ Sort.heapPop Sort.ltInt a (b - a) (Sort.heapBuild Sort.ltInt (b - a) a s.1 s.2) = Sort.heapSort Sort.ltInt d a b) (fun s => [(0, .slice (some ⟨g, 0, none⟩) n c), (6, .int .i64 a), (7, .int .i64 0), (8, .int .i64 ((b - a : Nat) : Int)), (9, .int .i64 ((s.1 : Int) - 1))]) (fun s => arU g s.2 sp :: r) (fun s => s.1) ((b - a - 1) / 2 + 1, d) ⟨by dsimp only; omega, hn, rfl⟩ ⟨rfl, rfl, rfl, (congrArg (fun z => some (Value.int .i64 z)) (by first | omega | (dsimp only; omega))), (congrArg (fun z => some (Value.int .i64 z)) (by first | omega | (dsimp only; omega))), trivial⟩ (fun w h => h) ?_
 rintro ⟨k, d1⟩ ⟨hi1, hs1, he1⟩
 try dsimp only at hi1 hs1 he1 ⊢
 refine J.seq (J.seq (J.region (JL.step (y_move rfl) rfl rfl rfl (JL.step (y_geq rfl rfl) rfl rfl rfl ?_))))
 refine JL.nil (JE.then_normal ?_)
 first | apply J.cond_dec rfl | apply J.cond rfl
 case' ht =>
  intro h
  try (first | (exfalso; omega) | (cases h; done) | (exfalso; simp at h; done) | subst h)
  all_goals
   obtain ⟨k, rfl⟩ : ∃ q, k = q + 1 := ⟨k - 1, by omega⟩
   have he1 : Sort.heapPop Sort.ltInt a (b - a) (Sort.heapBuild Sort.ltInt (b - a) a k (Sort.siftDown Sort.ltInt (b - a) a k d1)) = Sort.heapSort Sort.ltInt d a b := he1
   refine J.skip ?_
 case' hf =>
  intro h
  try (first | (exfalso; omega) | (cases h; done) | (exfalso; simp at h; done) | subst h)
  all_goals
   obtain rfl : k = 0 := by omega
   have he1 : Sort.heapPop Sort.ltInt a (b - a) d1 = Sort.heapSort Sort.ltInt d a b := he1
   refine J.exit (JE.then_exit (JE.then_exit (JE.block_exit (JE.then_normal (J.seq (J.region (JL.step (y_move rfl) rfl rfl rfl ?_)))))))
   refine JL.step (y_sub rfl rfl (by (first | exact wrap_i64 (by omega) (by omega) | rfl))) rfl rfl rfl ?_
   refine JL.step (y_assign rfl) rfl rfl rfl ?_
   refine JL.nil (JE.then_normal (J.block ?_))
   refine J.loop (α := Nat × Array Int) (fun s => s.1 ≤ b - a ∧ s.2.size = n ∧ Sort.heapPop Sort.ltInt a s.1 s.2 = Sort.heapSort Sort.ltInt d a b) (fun s => [(0, .slice (some ⟨g, 0, none⟩) n c), (6, .int .i64 a), (7, .int .i64 0), (8, .int .i64 ((b - a : Nat) : Int)), (10, .int .i64 ((s.1 : Int) - 1))]) (fun s => arU g s.2 sp :: r) (fun s => s.1) (b - a, d1) ⟨Nat.le_refl _, hs1, he1⟩ ⟨rfl, rfl, rfl, rfl, (congrArg (fun z => some (Value.int .i64 z)) (by first | omega | (dsimp only; omega))), trivial⟩ (fun w h => h) ?_
   rintro ⟨k, d2⟩ ⟨hi2, hs2, he2⟩
   try dsimp only at hi2 hs2 he2 ⊢
   refine J.seq (J.seq (J.region (JL.step (y_move rfl) rfl rfl rfl (JL.step (y_geq rfl rfl) rfl rfl rfl ?_))))
   refine JL.nil (JE.then_normal ?_)
   first | apply J.cond_dec rfl | apply J.cond rfl
   case' ht =>
    intro h
    try (first | (exfalso; omega) | (cases h; done) | (exfalso; simp at h; done) | subst h)
    all_goals
     obtain ⟨k, rfl⟩ : ∃ q, k = q + 1 := ⟨k - 1, by omega⟩
     have he2 : Sort.heapPop Sort.ltInt a k (Sort.siftDown Sort.ltInt k a 0 (Sort.swp d2 a (a + k))) = Sort.heapSort Sort.ltInt d a b := he2
     refine J.skip ?_
   case' hf =>
    intro h
    try (first | (exfalso; omega) | (cases h; done) | (exfalso; simp at h; done) | subst h)
    all_goals
     obtain rfl : k = 0 := by omega
     have he2 : d2 = Sort.heapSort Sort.ltInt d a b := he2
     refine J.exit (JE.then_exit (JE.then_exit (JE.block_exit ?_)))
     refine JE.ret0 (.inr rfl) rfl rfl  ?_
     exact ⟨rfl, fun w h => by rw [← he2]; exact h⟩
   all_goals refine JE.then_normal ?_
   all_goals
    refine J.seq (J.block (J.seq ?_))
    refine J.draw _ _ [(0, .q), (1, .q), (2, .q), (3, .q), (4, .q), (5, .q), (6, .q), (7, .q), (8, .q), (9, .q), (10, .q), (12, .q), (13, .q), (14, .q), (11, .e), (15, .e), (16, .q), (17, .l), (18, .q), (19, .l)] mixed (by kernel_rfl) (Split.cons (Pick.head) (Split.nil)) ?_
    refine JM.quiet rfl rfl rfl rfl (fun m => y_move rfl) (JM.quiet rfl rfl rfl rfl (fun m => y_move rfl) (JM.quiet rfl rfl rfl rfl (fun m => y_move rfl) (JM.quiet rfl rfl rfl rfl (fun m => y_move rfl) (JM.quiet rfl rfl rfl rfl (fun m => y_move rfl) ?_))))
    refine JM.quiet rfl rfl rfl rfl (fun m => y_add rfl rfl (by (first | exact wrap_i64 (by omega) (by omega) | rfl))) ?_
    refine JM.quiet rfl rfl rfl rfl (fun m => y_move rfl) (JM.quiet rfl rfl rfl rfl (fun m => y_move rfl) (JM.quiet rfl rfl rfl rfl (fun m => y_move rfl) ?_))
    refine JM.quiet rfl rfl rfl rfl (fun m => y_add rfl rfl (by (first | exact wrap_i64 (by omega) (by omega) | rfl))) ?_
    refine JM.quiet rfl rfl rfl rfl (fun m => y_indexAddr_slice hT rfl rfl rfl rfl rfl (by (first | omega | exact Nat.le_of_ble_eq_true rfl | decide | (simp; omega))) (by (first | omega | exact Nat.le_of_ble_eq_true rfl | decide | (simp; omega)))) ?_
    refine JM.quiet rfl rfl rfl rfl (fun m => y_move rfl) (JM.quiet rfl rfl rfl rfl (fun m => y_move rfl) ?_)
    refine JM.quiet rfl rfl rfl rfl (fun m => y_indexAddr_slice hT rfl rfl rfl rfl rfl (by (first | omega | exact Nat.le_of_ble_eq_true rfl | decide | (simp; omega))) (by (first | omega | exact Nat.le_of_ble_eq_true rfl | decide | (simp; omega)))) ?_
    refine JM.early rfl rfl rfl rfl (fun fr => y_load1 hT rfl rfl rfl (Rd1.arr (i := (a + k)) (by (repeat (first | exact Pick.head | apply Pick.tail | apply Pick.app))) (by (first | assumption | omega | (simp only [Array.size_setIfInBounds]; omega))) (by exact arr_off rfl (by omega)))) ?_
    refine JM.early rfl rfl rfl rfl (fun fr => y_load1 hT rfl rfl rfl (Rd1.arr (i := (a)) (by (repeat (first | exact Pick.head | apply Pick.tail | apply Pick.app))) (by (first | assumption | omega | (simp only [Array.size_setIfInBounds]; omega))) (by exact arr_off rfl (by omega)))) ?_
    refine JM.quiet rfl rfl rfl rfl (fun m => y_indexAddr_slice hT rfl rfl rfl rfl rfl (by (first | omega | exact Nat.le_of_ble_eq_true rfl | decide | (simp; omega))) (by (first | omega | exact Nat.le_of_ble_eq_true rfl | decide | (simp; omega)))) ?_
    refine JM.loud rfl rfl (fun fr => l_storeArr (j := (a)) (u := d2[a + k]!) hT rfl rfl rfl rfl (fun _ => rfl) (by (repeat (first | exact Pick.head | apply Pick.tail | apply Pick.app))) (by (first | assumption | omega | (simp only [Array.size_setIfInBounds]; omega))) (by exact arr_off rfl (by omega)) (⟨[_], (by (repeat (first | exact Split.nil | exact Split.all | refine Split.cons Pick.head ?_))), ?_⟩))
    refine JM.quiet rfl rfl rfl rfl (fun m => y_indexAddr_slice hT rfl rfl rfl rfl rfl (by (first | omega | exact Nat.le_of_ble_eq_true rfl | decide | (simp; omega))) (by (first | omega | exact Nat.le_of_ble_eq_true rfl | decide | (simp; omega)))) ?_
    refine JM.loud rfl rfl (fun fr => l_storeArr (j := (a + k)) (u := d2[a]!) hT rfl rfl rfl rfl (fun _ => rfl) (by (repeat (first | exact Pick.head | apply Pick.tail | apply Pick.app))) (by (first | assumption | omega | (simp only [Array.size_setIfInBounds]; omega))) (by exact arr_off rfl (by omega)) (⟨[_], (by (repeat (first | exact Split.nil | exact Split.all | refine Split.cons Pick.head ?_))), ?_⟩))
    refine JM.nil (JE.then_normal (J.region (JL.step (y_move rfl) rfl rfl rfl (JL.step (y_move rfl) rfl rfl rfl (JL.step (y_move rfl) rfl rfl rfl (JL.step (y_move rfl) rfl rfl rfl ?_))))))
    refine JL.loud rfl (l_callF e126 rfl rfl (Fc.on (Split.cons (by (repeat (first | exact Pick.head | apply Pick.tail | apply Pick.app))) Split.nil) (siftU E g c n 0 k a _ _ _ (Sort.swp d2 a (a + k)) sp _ rfl (by omega) rfl (by rw [swp_size]; exact hs2) (by omega) (by omega) h63)) ?_)
    rintro _ _ ⟨rfl, rfl⟩
    refine JL.nil (JE.block_normal (JE.then_normal (J.region (JL.step (y_move rfl) rfl rfl rfl ?_))))
    refine JL.step (y_sub rfl rfl (by (first | exact wrap_i64 (by omega) (by omega) | rfl))) rfl rfl rfl ?_
    refine JL.step (y_assign rfl) rfl rfl rfl ?_
    refine JL.nil ?_
   all_goals
    exact JE.round (s := (k + 1, d2)) (k, Sort.siftDown Sort.ltInt k a 0 (Sort.swp d2 a (a + k))) ⟨by dsimp only; omega, by dsimp only; rw [siftDown_size, swp_size]; exact hs2, he2⟩ ⟨rfl, rfl, rfl, rfl, (congrArg (fun z => some (Value.int .i64 z)) (by first | omega | (dsimp only; omega))), trivial⟩ (fun w h => h) (by dsimp only; omega)
 all_goals refine JE.then_normal ?_
 all_goals
  refine J.seq (J.block (J.region (JL.step (y_move rfl) rfl rfl rfl (JL.step (y_move rfl) rfl rfl rfl (JL.step (y_move rfl) rfl rfl rfl (JL.step (y_move rfl) rfl rfl rfl ?_))))))
  refine JL.loud rfl (l_callF e126 rfl rfl (Fc.on (Split.cons (by (repeat (first | exact Pick.head | apply Pick.tail | apply Pick.app))) Split.nil) (siftU E g c n k (b - a) a _ _ _ d1 sp _ (by omega) (by omega) rfl hs1 (by omega) (by omega) h63)) ?_)
  rintro _ _ ⟨rfl, rfl⟩
  refine JL.nil (JE.block_normal (JE.then_normal (J.region (JL.step (y_move rfl) rfl rfl rfl ?_))))
  refine JL.step (y_sub rfl rfl (by (first | exact wrap_i64 (by omega) (by omega) | rfl))) rfl rfl rfl ?_
  refine JL.step (y_assign rfl) rfl rfl rfl ?_
  refine JL.nil ?_
 all_goals
  exact JE.round (s := (k + 1, d1)) (k, Sort.siftDown Sort.ltInt (b - a) a k d1) ⟨by dsimp only; omega, by dsimp only; rw [siftDown_size]; exact hs1, he1⟩ ⟨rfl, rfl, rfl, rfl, (congrArg (fun z => some (Value.int .i64 z)) (by first | omega | (dsimp only; omega))), trivial⟩ (fun w h => h) (by dsimp only; omega)
end
end
section
open Go Go.SL
section
attribute [local irreducible] J JL JE JM LS Y Fc RV Code.wp wpList Code.wpIn wpListIn
attribute [local irreducible] Yc
attribute [local irreducible] Sort.ltInt
variable (E : World)
theorem order2U (g c n a b s : Nat) (ia ib : Int) (d : Array Int) (sp : List Value) (z : Int) (r : List HProp) (ea : ia = a) (eb : ib = b) (hn : d.size = n) (ha : a < n) (hb : b < n) (h63 : n < 4611686018427387904) :
 Fc prog E 136 [.slice (some ⟨g, 0, none⟩) n c, .int .i64 ia, .int .i64 ib, .pointer (some ⟨s, 0, none⟩)].toArray (arU g d sp :: row s 3 [.int .i64 z] :: r) (fun v l' => ∃ (x y : Nat) (z' : Int), v = .tuple #[.int .i64 x, .int .i64 y] ∧ (x = a ∧ y = b ∨ x = b ∧ y = a) ∧ l' = arU g d sp :: row s 3 [.int .i64 z'] :: r) := by
 refine Fc.post ?_
 subst ea eb
 refine Fc.of_body (c := ?codeC) Tryd.func136 ?hb Tryd.ntmps136 ?hl ?_
 case hb => exact rfl
 case hl => exact rfl
 refine J.seq (J.region (JL.step (y_assign rfl) rfl rfl rfl (JL.step (y_assign rfl) rfl rfl rfl ?_)))
 refine JL.nil (JE.then_normal (J.seq (J.seq ?_)))
 refine J.draw _ _ [(0, .q), (1, .q), (2, .q), (3, .q), (4, .q), (5, .q), (6, .q), (7, .q), (8, .q)] mixed (by kernel_rfl) (Split.nil) ?_
 refine JM.quiet rfl rfl rfl rfl (fun m => y_move rfl) (JM.quiet rfl rfl rfl rfl (fun m => y_move rfl) ?_)
 refine JM.quiet rfl rfl rfl rfl (fun m => y_indexAddr_slice hT rfl rfl rfl rfl rfl (by (first | omega | exact Nat.le_of_ble_eq_true rfl | decide | (simp; omega))) (by (first | omega | exact Nat.le_of_ble_eq_true rfl | decide | (simp; omega)))) ?_
 refine JM.quiet rfl rfl rfl rfl (fun m => y_load1 hT rfl rfl rfl (Rd1.arr (i := (b)) (Pick.app m (by (repeat (first | exact Pick.head | apply Pick.tail | apply Pick.app)))) (by (first | assumption | omega | (simp only [Array.size_setIfInBounds]; omega))) (by exact arr_off rfl (by omega)))) ?_
 refine JM.quiet rfl rfl rfl rfl (fun m => y_move rfl) (JM.quiet rfl rfl rfl rfl (fun m => y_move rfl) ?_)
 refine JM.quiet rfl rfl rfl rfl (fun m => y_indexAddr_slice hT rfl rfl rfl rfl rfl (by (first | omega | exact Nat.le_of_ble_eq_true rfl | decide | (simp; omega))) (by (first | omega | exact Nat.le_of_ble_eq_true rfl | decide | (simp; omega)))) ?_
 refine JM.quiet rfl rfl rfl rfl (fun m => y_load1 hT rfl rfl rfl (Rd1.arr (i := (a)) (Pick.app m (by (repeat (first | exact Pick.head | apply Pick.tail | apply Pick.app)))) (by (first | assumption | omega | (simp only [Array.size_setIfInBounds]; omega))) (by exact arr_off rfl (by omega)))) ?_
 refine JM.quiet rfl rfl rfl rfl (fun m => y_callF e103 rfl (lessU E _ _ _)) ?_
 refine JM.nil (JE.then_normal ?_)
 first | apply J.cond_dec rfl | apply J.cond rfl
 case' ht =>
  intro h
  try (first | (exfalso; omega) | (cases h; done) | (exfalso; simp at h; done) | subst h)
  all_goals
   refine J.seq (J.region (JL.step (y_move rfl) rfl rfl rfl ?_))
   refine JL.step ((by first | exact y_nilCheck rfl | exact y_nilCheckF rfl | exact y_nilCheckY rfl)) rfl rfl rfl ?_
   refine JL.step (y_load1 hT rfl rfl rfl (by (exact Rd1.row (by (repeat (first | exact Pick.head | apply Pick.tail | apply Pick.app))) (by rfl)))) rfl rfl rfl ?_
   refine JL.step (y_add rfl rfl (by (first | exact wrap_i64 (by omega) (by omega) | rfl))) rfl rfl rfl ?_
   refine JL.step ((by first | exact y_nilCheck rfl | exact y_nilCheckF rfl | exact y_nilCheckY rfl)) rfl rfl rfl ?_
   refine JL.loud rfl (l_store1 hT rfl rfl rfl rfl rfl (by (repeat (first | exact Pick.head | apply Pick.tail | apply Pick.app))) (by (first | omega | exact Nat.le_of_ble_eq_true rfl | decide | (simp; omega))) ?_)
   refine JL.nil (JE.then_normal (J.seq (J.region (JL.step (y_move rfl) rfl rfl rfl (JL.step (y_move rfl) rfl rfl rfl (JL.step (y_assign rfl) rfl rfl rfl (JL.step (y_assign rfl) rfl rfl rfl ?_)))))))
   refine JL.nil (JE.then_normal (J.ret (JE.then_ret ?_)))
   refine JE.ret2 (.inl rfl) rfl rfl (by (first | exact RV.tmp rfl | exact RV.cell1 hT rfl rfl rfl (by (exact Rd1.row (by (repeat (first | exact Pick.head | apply Pick.tail | apply Pick.app))) (by rfl))) | exact RV.cellN hT rfl rfl rfl (by (first | exact RdN.rowAll (by (repeat (first | exact Pick.head | apply Pick.tail | apply Pick.app))) | exact RdN.own (by (repeat (first | exact Pick.head | apply Pick.tail | apply Pick.app))))) (by (first | rfl | assumption | (simp; done) | omega)))) (by (first | exact RV.tmp rfl | exact RV.cell1 hT rfl rfl rfl (by (exact Rd1.row (by (repeat (first | exact Pick.head | apply Pick.tail | apply Pick.app))) (by rfl))) | exact RV.cellN hT rfl rfl rfl (by (first | exact RdN.rowAll (by (repeat (first | exact Pick.head | apply Pick.tail | apply Pick.app))) | exact RdN.own (by (repeat (first | exact Pick.head | apply Pick.tail | apply Pick.app))))) (by (first | rfl | assumption | (simp; done) | omega)))) ?_
   first | exact ⟨_, fun w h => h.sup (by (repeat (first | exact Sup.refl | apply Sup.cons (by (repeat (first | exact Pick.head | apply Pick.tail | apply Pick.app))) | apply Sup.app | apply Sup.skip | apply Sup.skips))), a, b, _, rfl, .inl ⟨rfl, rfl⟩, rfl⟩ | exact ⟨_, fun w h => h.sup (by (repeat (first | exact Sup.refl | apply Sup.cons (by (repeat (first | exact Pick.head | apply Pick.tail | apply Pick.app))) | apply Sup.app | apply Sup.skip | apply Sup.skips))), b, a, _, rfl, .inr ⟨rfl, rfl⟩, rfl⟩
 case' hf =>
  intro h
  try (first | (exfalso; omega) | (cases h; done) | (exfalso; simp at h; done) | subst h)
  all_goals
   refine J.skip ?_
 all_goals refine JE.then_normal ?_
 all_goals
  refine J.seq (J.region (JL.step (y_move rfl) rfl rfl rfl (JL.step (y_move rfl) rfl rfl rfl (JL.step (y_assign rfl) rfl rfl rfl (JL.step (y_assign rfl) rfl rfl rfl ?_)))))
  refine JL.nil (JE.then_normal (J.ret ?_))
  refine JE.ret2 (.inl rfl) rfl rfl (by (first | exact RV.tmp rfl | exact RV.cell1 hT rfl rfl rfl (by (exact Rd1.row (by (repeat (first | exact Pick.head | apply Pick.tail | apply Pick.app))) (by rfl))) | exact RV.cellN hT rfl rfl rfl (by (first | exact RdN.rowAll (by (repeat (first | exact Pick.head | apply Pick.tail | apply Pick.app))) | exact RdN.own (by (repeat (first | exact Pick.head | apply Pick.tail | apply Pick.app))))) (by (first | rfl | assumption | (simp; done) | omega)))) (by (first | exact RV.tmp rfl | exact RV.cell1 hT rfl rfl rfl (by (exact Rd1.row (by (repeat (first | exact Pick.head | apply Pick.tail | apply Pick.app))) (by rfl))) | exact RV.cellN hT rfl rfl rfl (by (first | exact RdN.rowAll (by (repeat (first | exact Pick.head | apply Pick.tail | apply Pick.app))) | exact RdN.own (by (repeat (first | exact Pick.head | apply Pick.tail | apply Pick.app))))) (by (first | rfl | assumption | (simp; done) | omega)))) ?_
  first | exact ⟨_, fun w h => h.sup (by (repeat (first | exact Sup.refl | apply Sup.cons (by (repeat (first | exact Pick.head | apply Pick.tail | apply Pick.app))) | apply Sup.app | apply Sup.skip | apply Sup.skips))), a, b, _, rfl, .inl ⟨rfl, rfl⟩, rfl⟩ | exact ⟨_, fun w h => h.sup (by (repeat (first | exact Sup.refl | apply Sup.cons (by (repeat (first | exact Pick.head | apply Pick.tail | apply Pick.app))) | apply Sup.app | apply Sup.skip | apply Sup.skips))), b, a, _, rfl, .inr ⟨rfl, rfl⟩, rfl⟩
theorem medianU (g c n a b e s : Nat) (ia ib ie : Int) (d : Array Int) (sp : List Value) (z : Int) (r : List HProp) (ea : ia = a) (eb : ib = b) (ee : ie = e) (hn : d.size = n) (ha : a < n) (hb : b < n) (he : e < n) (h63 : n < 4611686018427387904) :
 Fc prog E 128 [.slice (some ⟨g, 0, none⟩) n c, .int .i64 ia, .int .i64 ib, .int .i64 ie, .pointer (some ⟨s, 0, none⟩)].toArray (arU g d sp :: row s 3 [.int .i64 z] :: r) (fun v l' => ∃ (x : Nat) (z' : Int), v = .int .i64 x ∧ (x = a ∨ x = b ∨ x = e) ∧ l' = arU g d sp :: row s 3 [.int .i64 z'] :: r) := by
 refine Fc.post ?_
 subst ea eb ee
 refine Fc.of_body (c := ?codeC) Tryd.func128 ?hb Tryd.ntmps128 ?hl ?_
 case hb => exact rfl
 case hl => exact rfl
 refine J.seq (J.region (JL.step (y_assign rfl) rfl rfl rfl ?_))
 refine JL.nil (JE.then_normal (J.seq (J.region (JL.step (y_move rfl) rfl rfl rfl (JL.step (y_move rfl) rfl rfl rfl (JL.step (y_move rfl) rfl rfl rfl (JL.step (y_move rfl) rfl rfl rfl ?_)))))))
 refine JL.loud rfl (l_callF e136 rfl rfl (Fc.on (Split.cons (by (repeat (first | exact Pick.head | apply Pick.tail | apply Pick.app))) (Split.cons (by (repeat (first | exact Pick.head | apply Pick.tail | apply Pick.app))) Split.nil)) (order2U E g c n a b s _ _ d sp _ _ rfl rfl hn (by omega) (by omega) h63)) ?_)
 rintro _ _ ⟨x1, y1, z1, rfl, h1, rfl⟩
 refine JL.step (y_move rfl) rfl rfl rfl (JL.step (y_extract rfl rfl) rfl rfl rfl (JL.step (y_extract rfl rfl) rfl rfl rfl (JL.step (y_assign rfl) rfl rfl rfl (JL.step (y_assign rfl) rfl rfl rfl ?_))))
 refine JL.nil (JE.then_normal (J.seq (J.region (JL.step (y_move rfl) rfl rfl rfl (JL.step (y_move rfl) rfl rfl rfl (JL.step (y_move rfl) rfl rfl rfl (JL.step (y_move rfl) rfl rfl rfl ?_)))))))
 refine JL.loud rfl (l_callF e136 rfl rfl (Fc.on (Split.cons (by (repeat (first | exact Pick.head | apply Pick.tail | apply Pick.app))) (Split.cons (by (repeat (first | exact Pick.head | apply Pick.tail | apply Pick.app))) Split.nil)) (order2U E g c n y1 e s _ _ d sp _ _ rfl rfl hn (by omega) (by omega) h63)) ?_)
 rintro _ _ ⟨x2, y2, z2, rfl, h2, rfl⟩
 refine JL.step (y_move rfl) rfl rfl rfl (JL.step (y_extract rfl rfl) rfl rfl rfl (JL.step (y_extract rfl rfl) rfl rfl rfl (JL.step (y_assign rfl) rfl rfl rfl (JL.step (y_assign rfl) rfl rfl rfl ?_))))
 refine JL.nil (JE.then_normal (J.seq (J.region (JL.step (y_move rfl) rfl rfl rfl (JL.step (y_move rfl) rfl rfl rfl (JL.step (y_move rfl) rfl rfl rfl (JL.step (y_move rfl) rfl rfl rfl ?_)))))))
 refine JL.loud rfl (l_callF e136 rfl rfl (Fc.on (Split.cons (by (repeat (first | exact Pick.head | apply Pick.tail | apply Pick.app))) (Split.cons (by (repeat (first | exact Pick.head | apply Pick.tail | apply Pick.app))) Split.nil)) (order2U E g c n x1 x2 s _ _ d sp _ _ rfl rfl hn (by omega) (by omega) h63)) ?_)
 rintro _ _ ⟨x3, y3, z3, rfl, h3, rfl⟩
 refine JL.step (y_move rfl) rfl rfl rfl (JL.step (y_extract rfl rfl) rfl rfl rfl (JL.step (y_extract rfl rfl) rfl rfl rfl (JL.step (y_assign rfl) rfl rfl rfl (JL.step (y_assign rfl) rfl rfl rfl ?_))))
 refine JL.nil (JE.then_normal (J.seq (J.region (JL.step (y_move rfl) rfl rfl rfl (JL.step (y_assign rfl) rfl rfl rfl ?_)))))
 refine JL.nil (JE.then_normal (J.ret ?_))
 refine JE.ret1 (.inl rfl) rfl rfl (by (first | exact RV.tmp rfl | exact RV.cell1 hT rfl rfl rfl (by (exact Rd1.row (by (repeat (first | exact Pick.head | apply Pick.tail | apply Pick.app))) (by rfl))) | exact RV.cellN hT rfl rfl rfl (by (first | exact RdN.rowAll (by (repeat (first | exact Pick.head | apply Pick.tail | apply Pick.app))) | exact RdN.own (by (repeat (first | exact Pick.head | apply Pick.tail | apply Pick.app))))) (by (first | rfl | assumption | (simp; done) | omega)))) ?_
 exact ⟨_, fun w h => h.sup (by (repeat (first | exact Sup.refl | apply Sup.cons (by (repeat (first | exact Pick.head | apply Pick.tail | apply Pick.app))) | apply Sup.app | apply Sup.skip | apply Sup.skips))), y3, _, rfl, by omega, rfl⟩
theorem adjacentU (g c n a s : Nat) (ia : Int) (d : Array Int) (sp : List Value) (z : Int) (r : List HProp) (ea : ia = a) (hn : d.size = n) (h1 : 1 ≤ a) (ha : a + 1 < n) (h63 : n < 4611686018427387904) :
 Fc prog E 127 [.slice (some ⟨g, 0, none⟩) n c, .int .i64 ia, .pointer (some ⟨s, 0, none⟩)].toArray (arU g d sp :: row s 3 [.int .i64 z] :: r) (fun v l' => ∃ (x : Nat) (z' : Int), v = .int .i64 x ∧ (x = a - 1 ∨ x = a ∨ x = a + 1) ∧ l' = arU g d sp :: row s 3 [.int .i64 z'] :: r) := by
 refine Fc.post ?_
 subst ea
 refine Fc.of_body (c := ?codeC) Tryd.func127 ?hb Tryd.ntmps127 ?hl ?_
 case hb => exact rfl
 case hl => exact rfl
 refine J.seq (J.region (JL.step (y_assign rfl) rfl rfl rfl ?_))
 refine JL.nil (JE.then_normal (J.seq (J.region (JL.step (y_move rfl) rfl rfl rfl (JL.step (y_move rfl) rfl rfl rfl ?_)))))
 refine JL.step (y_sub rfl rfl (by (first | exact wrap_i64 (by omega) (by omega) | rfl))) rfl rfl rfl ?_
 refine JL.step (y_move rfl) rfl rfl rfl (JL.step (y_move rfl) rfl rfl rfl ?_)
 refine JL.step (y_add rfl rfl (by (first | exact wrap_i64 (by omega) (by omega) | rfl))) rfl rfl rfl ?_
 refine JL.step (y_move rfl) rfl rfl rfl ?_
 refine JL.loud rfl (l_callF e128 rfl rfl (Fc.on (Split.cons (by (repeat (first | exact Pick.head | apply Pick.tail | apply Pick.app))) (Split.cons (by (repeat (first | exact Pick.head | apply Pick.tail | apply Pick.app))) Split.nil)) (medianU E g c n (a - 1) a (a + 1) s _ _ _ d sp _ _ (by omega) rfl (by omega) hn (by omega) (by omega) (by omega) h63)) ?_)
 rintro _ _ ⟨x1, z1, rfl, h1, rfl⟩
 refine JL.step (y_assign rfl) rfl rfl rfl ?_
 refine JL.nil (JE.then_normal (J.ret ?_))
 refine JE.ret1 (.inl rfl) rfl rfl (by (first | exact RV.tmp rfl | exact RV.cell1 hT rfl rfl rfl (by (exact Rd1.row (by (repeat (first | exact Pick.head | apply Pick.tail | apply Pick.app))) (by rfl))) | exact RV.cellN hT rfl rfl rfl (by (first | exact RdN.rowAll (by (repeat (first | exact Pick.head | apply Pick.tail | apply Pick.app))) | exact RdN.own (by (repeat (first | exact Pick.head | apply Pick.tail | apply Pick.app))))) (by (first | rfl | assumption | (simp; done) | omega)))) ?_
 exact ⟨_, fun w h => h.sup (by (repeat (first | exact Sup.refl | apply Sup.cons (by (repeat (first | exact Pick.head | apply Pick.tail | apply Pick.app))) | apply Sup.app | apply Sup.skip | apply Sup.skips))), x1, _, rfl, by omega, rfl⟩
theorem pivotU (g c n a b : Nat) (ia ib : Int) (d : Array Int) (sp : List Value) (r : List HProp) (ea : ia = a) (eb : ib = b) (hn : d.size = n) (hab : a + 12 < b) (hb : b ≤ n) (h63 : n < 4611686018427387904) :
 Fc prog E 100 [.slice (some ⟨g, 0, none⟩) n c, .int .i64 ia, .int .i64 ib].toArray (arU g d sp :: r) (fun v l' => ∃ (x h : Nat), v = .tuple #[.int .i64 x, .int .i64 h] ∧ a ≤ x ∧ x < b ∧ l' = arU g d sp :: r) := by
 refine Fc.post ?_
 subst ea eb
 refine Fc.of_body (c := ?codeC) Tryd.func100 ?hb Tryd.ntmps100 ?hl ?_
 case hb => exact rfl
 case hl => exact rfl
 refine J.seq (J.region (JL.step (y_assign rfl) rfl rfl rfl (JL.step (y_assign rfl) rfl rfl rfl ?_)))
 refine JL.nil (JE.then_normal (J.seq (J.region (JL.step (y_move rfl) rfl rfl rfl (JL.step (y_move rfl) rfl rfl rfl ?_)))))
 refine JL.step (y_sub rfl rfl (by (first | exact wrap_i64 (by omega) (by omega) | rfl))) rfl rfl rfl ?_
 refine JL.step (y_assign rfl) rfl rfl rfl ?_
 refine JL.nil (JE.then_normal (J.seq (J.region ?_)))
 refine JL.loud rfl (l_alloc hT rfl rfl (by (first | rfl | simp)) rfl (fun b1 => ?_))
 refine JL.nil (JE.then_normal (J.seq (J.region (JL.step (y_move rfl) rfl rfl rfl (JL.step (y_move rfl) rfl rfl rfl ?_)))))
 refine JL.step (y_quo rfl rfl (by decide) (quo_nat (x := b - a) (k := 4) (by omega) (by omega))) rfl rfl rfl ?_
 refine JL.step (y_mul rfl rfl (by (first | exact wrap_i64 (by omega) (by omega) | rfl))) rfl rfl rfl ?_
 refine JL.step (y_add rfl rfl (by (first | exact wrap_i64 (by omega) (by omega) | rfl))) rfl rfl rfl ?_
 refine JL.step (y_assign rfl) rfl rfl rfl ?_
 refine JL.nil (JE.then_normal (J.seq (J.region (JL.step (y_move rfl) rfl rfl rfl (JL.step (y_move rfl) rfl rfl rfl ?_)))))
 refine JL.step (y_quo rfl rfl (by decide) (quo_nat (x := b - a) (k := 4) (by omega) (by omega))) rfl rfl rfl ?_
 refine JL.step (y_mul rfl rfl (by (first | exact wrap_i64 (by omega) (by omega) | rfl))) rfl rfl rfl ?_
 refine JL.step (y_add rfl rfl (by (first | exact wrap_i64 (by omega) (by omega) | rfl))) rfl rfl rfl ?_
 refine JL.step (y_assign rfl) rfl rfl rfl ?_
 refine JL.nil (JE.then_normal (J.seq (J.region (JL.step (y_move rfl) rfl rfl rfl (JL.step (y_move rfl) rfl rfl rfl ?_)))))
 refine JL.step (y_quo rfl rfl (by decide) (quo_nat (x := b - a) (k := 4) (by omega) (by omega))) rfl rfl rfl ?_
 refine JL.step (y_mul rfl rfl (by (first | exact wrap_i64 (by omega) (by omega) | rfl))) rfl rfl rfl ?_
 refine JL.step (y_add rfl rfl (by (first | exact wrap_i64 (by omega) (by omega) | rfl))) rfl rfl rfl ?_
 refine JL.step (y_assign rfl) rfl rfl rfl ?_
 refine JL.nil (JE.then_normal (J.seq (J.seq (J.region (JL.step (y_move rfl) rfl rfl rfl (JL.step (y_geq rfl rfl) rfl rfl rfl ?_))))))
 refine JL.nil (JE.then_normal ?_)
 refine J.cond_t rfl (by (first | rfl | assumption | (simp; done) | (simp; omega))) ?_
 refine J.seqK (α := Nat × Nat × Nat × Int) (fun q => (a ≤ q.1 ∧ q.1 < b) ∧ (a ≤ q.2.1 ∧ q.2.1 < b) ∧ (a ≤ q.2.2.1 ∧ q.2.2.1 < b)) (fun q => [(0, .slice (some ⟨g, 0, none⟩) n c), (9, .pointer (some ⟨b1, 0, none⟩)), (10, .int .i64 q.1), (11, .int .i64 q.2.1), (12, .int .i64 q.2.2.1)]) (fun q => arU g d sp :: row b1 3 [.int .i64 q.2.2.2] :: r) ?hj11 (fun hk11 => ?hf11)
 case hf11 =>
  refine J.seq (J.region (JL.step (y_move rfl) rfl rfl rfl (JL.step (y_geq rfl rfl) rfl rfl rfl ?_)))
  refine JL.nil (JE.then_normal ?_)
  first | apply J.cond_dec rfl | apply J.cond rfl
  case' ht =>
   intro h
   try (first | (exfalso; omega) | (cases h; done) | (exfalso; simp at h; done) | subst h)
   all_goals
    refine J.seq (J.region (JL.step (y_move rfl) rfl rfl rfl (JL.step (y_move rfl) rfl rfl rfl ?_)))
    refine JL.loud rfl (l_callF e127 rfl rfl (Fc.on (Split.cons (by (repeat (first | exact Pick.head | apply Pick.tail | apply Pick.app))) (Split.cons (by (repeat (first | exact Pick.head | apply Pick.tail | apply Pick.app))) Split.nil)) (adjacentU E g c n (a + (b - a) / 4 * 1) _ _ d sp _ _ (by omega) hn (by omega) (by omega) h63)) ?_)
    rintro _ _ ⟨x1, z1, rfl, h1, rfl⟩
    refine JL.step (y_assign rfl) rfl rfl rfl ?_
    refine JL.nil (JE.then_normal (J.seq (J.region (JL.step (y_move rfl) rfl rfl rfl (JL.step (y_move rfl) rfl rfl rfl ?_)))))
    refine JL.loud rfl (l_callF e127 rfl rfl (Fc.on (Split.cons (by (repeat (first | exact Pick.head | apply Pick.tail | apply Pick.app))) (Split.cons (by (repeat (first | exact Pick.head | apply Pick.tail | apply Pick.app))) Split.nil)) (adjacentU E g c n (a + (b - a) / 4 * 2) _ _ d sp _ _ (by omega) hn (by omega) (by omega) h63)) ?_)
    rintro _ _ ⟨x2, z2, rfl, h2, rfl⟩
    refine JL.step (y_assign rfl) rfl rfl rfl ?_
    refine JL.nil (JE.then_normal (J.region (JL.step (y_move rfl) rfl rfl rfl (JL.step (y_move rfl) rfl rfl rfl ?_))))
    refine JL.loud rfl (l_callF e127 rfl rfl (Fc.on (Split.cons (by (repeat (first | exact Pick.head | apply Pick.tail | apply Pick.app))) (Split.cons (by (repeat (first | exact Pick.head | apply Pick.tail | apply Pick.app))) Split.nil)) (adjacentU E g c n (a + (b - a) / 4 * 3) _ _ d sp _ _ (by omega) hn (by omega) (by omega) h63)) ?_)
    rintro _ _ ⟨x3, z3, rfl, h3, rfl⟩
    refine JL.step (y_assign rfl) rfl rfl rfl ?_
    refine JL.nil ?_
  case' hf =>
   intro h
   try (first | (exfalso; omega) | (cases h; done) | (exfalso; simp at h; done) | subst h)
   all_goals
    refine J.skip ?_
  all_goals refine JE.then_normal ?_
  all_goals
   first | exact J.closeK hk11 (x1, x2, x3, z3) ⟨by dsimp only; omega, by dsimp only; omega, by dsimp only; omega⟩ ⟨rfl, rfl, rfl, rfl, rfl, trivial⟩ (fun w h => h.sup (by (repeat (first | exact Sup.refl | apply Sup.cons (by (repeat (first | exact Pick.head | apply Pick.tail | apply Pick.app))) | apply Sup.app | apply Sup.skip | apply Sup.skips)))) | exact J.closeK hk11 (a + (b - a) / 4 * 1, a + (b - a) / 4 * 2, a + (b - a) / 4 * 3, 0) ⟨by dsimp only; omega, by dsimp only; omega, by dsimp only; omega⟩ ⟨rfl, rfl, (congrArg (fun z => some (Value.int .i64 z)) (by first | omega | (dsimp only; omega))), (congrArg (fun z => some (Value.int .i64 z)) (by first | omega | (dsimp only; omega))), (congrArg (fun z => some (Value.int .i64 z)) (by first | omega | (dsimp only; omega))), trivial⟩ (fun w h => h.sup (by (repeat (first | exact Sup.refl | apply Sup.cons (by (repeat (first | exact Pick.head | apply Pick.tail | apply Pick.app))) | apply Sup.app | apply Sup.skip | apply Sup.skips))))
 rintro ⟨i, j, k, z⟩ ⟨hi, hj, hk⟩
 try dsimp only at hi hj hk ⊢
 refine J.region (JL.step (y_move rfl) rfl rfl rfl (JL.step (y_move rfl) rfl rfl rfl (JL.step (y_move rfl) rfl rfl rfl (JL.step (y_move rfl) rfl rfl rfl ?_))))
 refine JL.loud rfl (l_callF e128 rfl rfl (Fc.on (Split.cons (by (repeat (first | exact Pick.head | apply Pick.tail | apply Pick.app))) (Split.cons (by (repeat (first | exact Pick.head | apply Pick.tail | apply Pick.app))) Split.nil)) (medianU E g c n i j k _ _ _ _ d sp _ _ rfl rfl rfl hn (by omega) (by omega) (by omega) h63)) ?_)
 rintro _ _ ⟨m, zm, rfl, hm, rfl⟩
 refine JL.step (y_assign rfl) rfl rfl rfl ?_
 refine JL.nil ?_
 all_goals refine JE.then_normal ?_
 all_goals
  refine J.seq (J.region ?_)
  refine JL.step (y_load1 hT rfl rfl rfl (by (exact Rd1.row (by (repeat (first | exact Pick.head | apply Pick.tail | apply Pick.app))) (by rfl)))) rfl rfl rfl ?_
  refine JL.nil (JE.then_normal (J.block (J.seq (J.region (JL.step (y_eql rfl rfl) rfl rfl rfl (JL.step (y_assign rfl) rfl rfl rfl ?_))))))
  refine JL.nil (JE.then_normal ?_)
  first | apply J.cond_dec rfl | apply J.cond rfl
  case' ht =>
   intro h
   try (first | (exfalso; omega) | (cases h; done) | (exfalso; simp at h; done) | subst h)
   all_goals
    refine J.seq (J.region (JL.step (y_move rfl) rfl rfl rfl (JL.step (y_assign rfl) rfl rfl rfl (JL.step (y_assign rfl) rfl rfl rfl ?_))))
    refine JL.nil (JE.then_normal (J.ret (JE.block_ret ?_)))
    refine JE.ret2 (.inl rfl) rfl rfl (by (first | exact RV.tmp rfl | exact RV.cell1 hT rfl rfl rfl (by (exact Rd1.row (by (repeat (first | exact Pick.head | apply Pick.tail | apply Pick.app))) (by rfl))) | exact RV.cellN hT rfl rfl rfl (by (first | exact RdN.rowAll (by (repeat (first | exact Pick.head | apply Pick.tail | apply Pick.app))) | exact RdN.own (by (repeat (first | exact Pick.head | apply Pick.tail | apply Pick.app))))) (by (first | rfl | assumption | (simp; done) | omega)))) (by (first | exact RV.tmp rfl | exact RV.cell1 hT rfl rfl rfl (by (exact Rd1.row (by (repeat (first | exact Pick.head | apply Pick.tail | apply Pick.app))) (by rfl))) | exact RV.cellN hT rfl rfl rfl (by (first | exact RdN.rowAll (by (repeat (first | exact Pick.head | apply Pick.tail | apply Pick.app))) | exact RdN.own (by (repeat (first | exact Pick.head | apply Pick.tail | apply Pick.app))))) (by (first | rfl | assumption | (simp; done) | omega)))) ?_
    first | exact ⟨_, fun w h => h.sup (by (repeat (first | exact Sup.refl | apply Sup.cons (by (repeat (first | exact Pick.head | apply Pick.tail | apply Pick.app))) | apply Sup.app | apply Sup.skip | apply Sup.skips))), m, 1, rfl, by omega, by omega, rfl⟩ | exact ⟨_, fun w h => h.sup (by (repeat (first | exact Sup.refl | apply Sup.cons (by (repeat (first | exact Pick.head | apply Pick.tail | apply Pick.app))) | apply Sup.app | apply Sup.skip | apply Sup.skips))), m, 2, rfl, by omega, by omega, rfl⟩ | exact ⟨_, fun w h => h.sup (by (repeat (first | exact Sup.refl | apply Sup.cons (by (repeat (first | exact Pick.head | apply Pick.tail | apply Pick.app))) | apply Sup.app | apply Sup.skip | apply Sup.skips))), m, 0, rfl, by omega, by omega, rfl⟩
  case' hf =>
   intro h
   try (first | (exfalso; omega) | (cases h; done) | (exfalso; simp at h; done) | subst h)
   all_goals
    refine J.seq (J.region (JL.step (y_eql rfl rfl) rfl rfl rfl (JL.step (y_assign rfl) rfl rfl rfl ?_)))
    refine JL.nil (JE.then_normal ?_)
    first | apply J.cond_dec rfl | apply J.cond rfl
    case' ht =>
     intro h
     try (first | (exfalso; omega) | (cases h; done) | (exfalso; simp at h; done) | subst h)
     all_goals
      refine J.seq (J.region (JL.step (y_move rfl) rfl rfl rfl (JL.step (y_assign rfl) rfl rfl rfl (JL.step (y_assign rfl) rfl rfl rfl ?_))))
      refine JL.nil (JE.then_normal (J.ret (JE.block_ret ?_)))
      refine JE.ret2 (.inl rfl) rfl rfl (by (first | exact RV.tmp rfl | exact RV.cell1 hT rfl rfl rfl (by (exact Rd1.row (by (repeat (first | exact Pick.head | apply Pick.tail | apply Pick.app))) (by rfl))) | exact RV.cellN hT rfl rfl rfl (by (first | exact RdN.rowAll (by (repeat (first | exact Pick.head | apply Pick.tail | apply Pick.app))) | exact RdN.own (by (repeat (first | exact Pick.head | apply Pick.tail | apply Pick.app))))) (by (first | rfl | assumption | (simp; done) | omega)))) (by (first | exact RV.tmp rfl | exact RV.cell1 hT rfl rfl rfl (by (exact Rd1.row (by (repeat (first | exact Pick.head | apply Pick.tail | apply Pick.app))) (by rfl))) | exact RV.cellN hT rfl rfl rfl (by (first | exact RdN.rowAll (by (repeat (first | exact Pick.head | apply Pick.tail | apply Pick.app))) | exact RdN.own (by (repeat (first | exact Pick.head | apply Pick.tail | apply Pick.app))))) (by (first | rfl | assumption | (simp; done) | omega)))) ?_
      first | exact ⟨_, fun w h => h.sup (by (repeat (first | exact Sup.refl | apply Sup.cons (by (repeat (first | exact Pick.head | apply Pick.tail | apply Pick.app))) | apply Sup.app | apply Sup.skip | apply Sup.skips))), m, 1, rfl, by omega, by omega, rfl⟩ | exact ⟨_, fun w h => h.sup (by (repeat (first | exact Sup.refl | apply Sup.cons (by (repeat (first | exact Pick.head | apply Pick.tail | apply Pick.app))) | apply Sup.app | apply Sup.skip | apply Sup.skips))), m, 2, rfl, by omega, by omega, rfl⟩ | exact ⟨_, fun w h => h.sup (by (repeat (first | exact Sup.refl | apply Sup.cons (by (repeat (first | exact Pick.head | apply Pick.tail | apply Pick.app))) | apply Sup.app | apply Sup.skip | apply Sup.skips))), m, 0, rfl, by omega, by omega, rfl⟩
    case' hf =>
     intro h
     try (first | (exfalso; omega) | (cases h; done) | (exfalso; simp at h; done) | subst h)
     all_goals
      refine J.seq (J.region (JL.step (y_move rfl) rfl rfl rfl (JL.step (y_assign rfl) rfl rfl rfl (JL.step (y_assign rfl) rfl rfl rfl ?_))))
      refine JL.nil (JE.then_normal (J.ret (JE.block_ret ?_)))
      refine JE.ret2 (.inl rfl) rfl rfl (by (first | exact RV.tmp rfl | exact RV.cell1 hT rfl rfl rfl (by (exact Rd1.row (by (repeat (first | exact Pick.head | apply Pick.tail | apply Pick.app))) (by rfl))) | exact RV.cellN hT rfl rfl rfl (by (first | exact RdN.rowAll (by (repeat (first | exact Pick.head | apply Pick.tail | apply Pick.app))) | exact RdN.own (by (repeat (first | exact Pick.head | apply Pick.tail | apply Pick.app))))) (by (first | rfl | assumption | (simp; done) | omega)))) (by (first | exact RV.tmp rfl | exact RV.cell1 hT rfl rfl rfl (by (exact Rd1.row (by (repeat (first | exact Pick.head | apply Pick.tail | apply Pick.app))) (by rfl))) | exact RV.cellN hT rfl rfl rfl (by (first | exact RdN.rowAll (by (repeat (first | exact Pick.head | apply Pick.tail | apply Pick.app))) | exact RdN.own (by (repeat (first | exact Pick.head | apply Pick.tail | apply Pick.app))))) (by (first | rfl | assumption | (simp; done) | omega)))) ?_
      first | exact ⟨_, fun w h => h.sup (by (repeat (first | exact Sup.refl | apply Sup.cons (by (repeat (first | exact Pick.head | apply Pick.tail | apply Pick.app))) | apply Sup.app | apply Sup.skip | apply Sup.skips))), m, 1, rfl, by omega, by omega, rfl⟩ | exact ⟨_, fun w h => h.sup (by (repeat (first | exact Sup.refl | apply Sup.cons (by (repeat (first | exact Pick.head | apply Pick.tail | apply Pick.app))) | apply Sup.app | apply Sup.skip | apply Sup.skips))), m, 2, rfl, by omega, by omega, rfl⟩ | exact ⟨_, fun w h => h.sup (by (repeat (first | exact Sup.refl | apply Sup.cons (by (repeat (first | exact Pick.head | apply Pick.tail | apply Pick.app))) | apply Sup.app | apply Sup.skip | apply Sup.skips))), m, 0, rfl, by omega, by omega, rfl⟩
end
end
section
open Go Go.SL
section
attribute [local irreducible] J JL JE JM LS Y Fc RV Code.wp wpList Code.wpIn wpListIn
attribute [local irreducible] Yc
attribute [local irreducible] Sort.ltInt
variable (E : World)
theorem brkU (g c n a b : Nat) (ia ib : Int) (d : Array Int) (sp : List Value) (r : List HProp) (ea : ia = a) (eb : ib = b) (hn : d.size = n) (hab : a + 12 < b) (hb : b ≤ n) (h63 : n < 4611686018427387904) :
 Fc prog E 99 [.slice (some ⟨g, 0, none⟩) n c, .int .i64 ia, .int .i64 ib].toArray (arU g d sp :: r) (fun v l' => v = .tuple #[] ∧ ∃ d', Sort.PermIn a b d d' ∧ l' = arU g d' sp :: r) := by
 refine Fc.post ?_
 subst ea eb
 refine Fc.of_body (c := ?codeC) Tryd.func99 ?hb Tryd.ntmps99 ?hl ?_
 case hb => exact rfl
 case hl => exact rfl
 refine J.seq (J.region (JL.step (y_move rfl) rfl rfl rfl (JL.step (y_move rfl) rfl rfl rfl ?_)))
 refine JL.step (y_sub rfl rfl (by (first | exact wrap_i64 (by omega) (by omega) | rfl))) rfl rfl rfl ?_
 refine JL.step (y_assign rfl) rfl rfl rfl ?_
 refine JL.nil (JE.then_normal (J.seq (J.region (JL.step (y_move rfl) rfl rfl rfl (JL.step (y_geq rfl rfl) rfl rfl rfl ?_)))))
 refine JL.nil (JE.then_normal ?_)
 refine J.cond_t rfl (by (first | rfl | assumption | (simp; done) | (simp; omega))) ?_
 refine J.seq (J.region (JL.step (y_move rfl) rfl rfl rfl ?_))
 refine JL.step ((by first | exact y_convToQ hT rfl rfl rfl rfl | exact y_conv hT rfl rfl rfl rfl (by (first | exact wrap_i64 (by omega) (by omega) | rfl)))) rfl rfl rfl ?_
 refine JL.loud rfl (l_alloc hT rfl rfl (by (first | rfl | simp)) rfl (fun b1 => ?_))
 refine JL.loud rfl (l_store1 hT rfl rfl rfl rfl rfl (by (repeat (first | exact Pick.head | apply Pick.tail | apply Pick.app))) (by (first | omega | exact Nat.le_of_ble_eq_true rfl | decide | (simp; omega))) ?_)
 refine JL.nil (JE.then_normal (J.seq (J.region (JL.step (y_move rfl) rfl rfl rfl ?_))))
 refine JL.loud rfl (l_callF e122 rfl rfl (npow E _ (b - a) _ (by omega) (by omega) (by omega)) ?_)
 rintro _ _ ⟨m, rfl, hm1, hm2, rfl⟩
 refine JL.step (y_assign rfl) rfl rfl rfl ?_
 refine JL.nil (JE.then_normal (J.seq (J.region (JL.step (y_move rfl) rfl rfl rfl (JL.step (y_move rfl) rfl rfl rfl ?_)))))
 refine JL.step (y_quo rfl rfl (by decide) (quo_nat (x := b - a) (k := 4) (by omega) (by omega))) rfl rfl rfl ?_
 refine JL.step (y_mul rfl rfl (by (first | exact wrap_i64 (by omega) (by omega) | rfl))) rfl rfl rfl ?_
 refine JL.step (y_add rfl rfl (by (first | exact wrap_i64 (by omega) (by omega) | rfl))) rfl rfl rfl ?_
 refine JL.step (y_sub rfl rfl (by (first | exact wrap_i64 (by omega) (by omega) | rfl))) rfl rfl rfl ?_
 refine JL.step (y_assign rfl) rfl rfl rfl ?_
 refine JL.nil (JE.then_normal (J.block ?_))
 refine J.loop (α := Nat × BitVec 64 × Array Int) (fun s => a ≤ s.1 ∧ s.1 < b ∧ s.2.2.size = n ∧ Sort.PermIn a b d s.2.2) (fun s => [(0, .slice (some ⟨g, 0, none⟩) n c), (1, .int .i64 a), (6, .int .i64 ((b - a : Nat) : Int)), (7, .pointer (some ⟨b1, 0, none⟩)), (8, .int .u64 m), (9, .int .i64 s.1)]) (fun s => arU g s.2.2 sp :: row b1 157 [Q s.2.1] :: r) (fun s => b - s.1) (a + (b - a) / 4 * 2 - 1, BitVec.ofInt 64 ((b : Int) - a), d) ⟨by dsimp only; omega, by dsimp only; omega, hn, Sort.permIn_refl _ _ _⟩ ⟨rfl, rfl, (congrArg (fun z => some (Value.int .i64 z)) (by first | omega | (dsimp only; omega))), rfl, rfl, (congrArg (fun z => some (Value.int .i64 z)) (by first | omega | (dsimp only; omega))), trivial⟩ (fun w h => h.sup (by (repeat (first | exact Sup.refl | apply Sup.cons (by (repeat (first | exact Pick.head | apply Pick.tail | apply Pick.app))) | apply Sup.app | apply Sup.skip | apply Sup.skips)))) ?_
 rintro ⟨i, z, d1⟩ ⟨hi1, hi2, hs1, hp1⟩
 try dsimp only at hi1 hi2 hs1 hp1 ⊢
 refine J.seq (J.seq (J.region (JL.step (y_move rfl) rfl rfl rfl (JL.step (y_move rfl) rfl rfl rfl (JL.step (y_move rfl) rfl rfl rfl ?_)))))
 refine JL.step (y_quo rfl rfl (by decide) (quo_nat (x := b - a) (k := 4) (by omega) (by omega))) rfl rfl rfl ?_
 refine JL.step (y_mul rfl rfl (by (first | exact wrap_i64 (by omega) (by omega) | rfl))) rfl rfl rfl ?_
 refine JL.step (y_add rfl rfl (by (first | exact wrap_i64 (by omega) (by omega) | rfl))) rfl rfl rfl ?_
 refine JL.step (y_add rfl rfl (by (first | exact wrap_i64 (by omega) (by omega) | rfl))) rfl rfl rfl ?_
 refine JL.step (y_leq rfl rfl) rfl rfl rfl ?_
 refine JL.nil (JE.then_normal ?_)
 first | apply J.cond_dec rfl | apply J.cond rfl
 case' ht =>
  intro h
  try (first | (exfalso; omega) | (cases h; done) | (exfalso; simp at h; done) | subst h)
  all_goals
   refine J.skip ?_
 case' hf =>
  intro h
  try (first | (exfalso; omega) | (cases h; done) | (exfalso; simp at h; done) | subst h)
  all_goals
   refine J.exit (JE.then_exit (JE.then_exit (JE.block_exit ?_)))
   refine JE.ret0 (.inr rfl) rfl rfl  ?_
   exact ⟨_, fun w h => h.sup (by (repeat (first | exact Sup.refl | apply Sup.cons (by (repeat (first | exact Pick.head | apply Pick.tail | apply Pick.app))) | apply Sup.app | apply Sup.skip | apply Sup.skips))), rfl, d1, hp1, rfl⟩
 all_goals refine JE.then_normal ?_
 all_goals
  refine J.seq (J.block (J.seq (J.region ?_)))
  refine JL.loud rfl (l_callF e123 rfl rfl (Fc.on (Split.cons (by (repeat (first | exact Pick.head | apply Pick.tail | apply Pick.app))) Split.nil) (xnext E _ _ _ _)) ?_)
  rintro _ _ ⟨z', rfl, rfl⟩
  refine JL.step (y_move rfl) rfl rfl rfl ?_
  refine JL.step (y_sub (m := ((m - 1 : Nat) : Int)) rfl rfl (by rw [show ((m : Nat) : Int) - 1 = ((m - 1 : Nat) : Int) by omega]; exact wrap_u64n (by omega))) rfl rfl rfl ?_
  refine JL.step (y_bits (m := ((z'.toNat &&& (m - 1) : Nat) : Int)) rfl rfl (and_nat (by omega))) rfl rfl rfl ?_
  refine JL.step (y_conv (m := ((z'.toNat &&& (m - 1) : Nat) : Int)) hT rfl rfl rfl rfl (wrap_and (by omega))) rfl rfl rfl ?_
  refine JL.step (y_assign rfl) rfl rfl rfl ?_
  refine JL.nil (JE.then_normal ?_)
  refine J.seqK (α := Nat × BitVec 64) (fun q => q.1 < b - a) (fun q => [(0, .slice (some ⟨g, 0, none⟩) n c), (1, .int .i64 a), (6, .int .i64 ((b - a : Nat) : Int)), (7, .pointer (some ⟨b1, 0, none⟩)), (8, .int .u64 m), (9, .int .i64 i), (10, .int .i64 q.1)]) (fun q => arU g d1 sp :: row b1 157 [Q q.2] :: r) ?hj10 (fun hk10 => ?hf10)
  case hf10 =>
   refine J.seq (J.region ?_)
   have hle : z'.toNat &&& (m - 1) ≤ m - 1 := Nat.and_le_right
   generalize z'.toNat &&& (m - 1) = o at hle ⊢
   refine JL.step (y_move rfl) rfl rfl rfl (JL.step (y_move rfl) rfl rfl rfl (JL.step (y_geq rfl rfl) rfl rfl rfl ?_))
   refine JL.nil (JE.then_normal ?_)
   first | apply J.cond_dec rfl | apply J.cond rfl
   case' ht =>
    intro h
    try (first | (exfalso; omega) | (cases h; done) | (exfalso; simp at h; done) | subst h)
    all_goals
     refine J.region (JL.step (y_move rfl) rfl rfl rfl (JL.step (y_move rfl) rfl rfl rfl ?_))
     refine JL.step (y_sub rfl rfl (by (first | exact wrap_i64 (by omega) (by omega) | rfl))) rfl rfl rfl ?_
     refine JL.step (y_assign rfl) rfl rfl rfl ?_
     refine JL.nil ?_
   case' hf =>
    intro h
    try (first | (exfalso; omega) | (cases h; done) | (exfalso; simp at h; done) | subst h)
    all_goals
     refine J.skip ?_
   all_goals refine JE.then_normal ?_
   all_goals
    first | exact J.closeK hk10 (o - (b - a), z') (by dsimp only; omega) ⟨rfl, rfl, rfl, rfl, rfl, rfl, (congrArg (fun z => some (Value.int .i64 z)) (by first | omega | (dsimp only; omega))), trivial⟩ (fun w h => h.sup (by (repeat (first | exact Sup.refl | apply Sup.cons (by (repeat (first | exact Pick.head | apply Pick.tail | apply Pick.app))) | apply Sup.app | apply Sup.skip | apply Sup.skips)))) | exact J.closeK hk10 (o, z') (by dsimp only; omega) ⟨rfl, rfl, rfl, rfl, rfl, rfl, rfl, trivial⟩ (fun w h => h.sup (by (repeat (first | exact Sup.refl | apply Sup.cons (by (repeat (first | exact Pick.head | apply Pick.tail | apply Pick.app))) | apply Sup.app | apply Sup.skip | apply Sup.skips))))
  rintro ⟨o, z2⟩ ho
  dsimp only at ho ⊢
  refine J.draw _ _ [(0, .q), (1, .q), (2, .q), (3, .q), (4, .q), (5, .q), (6, .q), (7, .q), (8, .q), (9, .q), (10, .q), (12, .q), (13, .q), (14, .q), (11, .e), (15, .e), (16, .q), (17, .l), (18, .q), (19, .l)] mixed (by kernel_rfl) (Split.cons (Pick.head) (Split.nil)) ?_
  refine JM.quiet rfl rfl rfl rfl (fun m => y_move rfl) (JM.quiet rfl rfl rfl rfl (fun m => y_move rfl) (JM.quiet rfl rfl rfl rfl (fun m => y_move rfl) (JM.quiet rfl rfl rfl rfl (fun m => y_move rfl) (JM.quiet rfl rfl rfl rfl (fun m => y_move rfl) ?_))))
  refine JM.quiet rfl rfl rfl rfl (fun m => y_add rfl rfl (by (first | exact wrap_i64 (by omega) (by omega) | rfl))) ?_
  refine JM.quiet rfl rfl rfl rfl (fun m => y_move rfl) (JM.quiet rfl rfl rfl rfl (fun m => y_move rfl) (JM.quiet rfl rfl rfl rfl (fun m => y_move rfl) ?_))
  refine JM.quiet rfl rfl rfl rfl (fun m => y_add rfl rfl (by (first | exact wrap_i64 (by omega) (by omega) | rfl))) ?_
  refine JM.quiet rfl rfl rfl rfl (fun m => y_indexAddr_slice hT rfl rfl rfl rfl rfl (by (first | omega | exact Nat.le_of_ble_eq_true rfl | decide | (simp; omega))) (by (first | omega | exact Nat.le_of_ble_eq_true rfl | decide | (simp; omega)))) ?_
  refine JM.quiet rfl rfl rfl rfl (fun m => y_move rfl) (JM.quiet rfl rfl rfl rfl (fun m => y_move rfl) ?_)
  refine JM.quiet rfl rfl rfl rfl (fun m => y_indexAddr_slice hT rfl rfl rfl rfl rfl (by (first | omega | exact Nat.le_of_ble_eq_true rfl | decide | (simp; omega))) (by (first | omega | exact Nat.le_of_ble_eq_true rfl | decide | (simp; omega)))) ?_
  refine JM.early rfl rfl rfl rfl (fun fr => y_load1 hT rfl rfl rfl (Rd1.arr (i := (a + o)) (by (repeat (first | exact Pick.head | apply Pick.tail | apply Pick.app))) (by (first | assumption | omega | (simp only [Array.size_setIfInBounds]; omega))) (by exact arr_off rfl (by omega)))) ?_
  refine JM.early rfl rfl rfl rfl (fun fr => y_load1 hT rfl rfl rfl (Rd1.arr (i := (i)) (by (repeat (first | exact Pick.head | apply Pick.tail | apply Pick.app))) (by (first | assumption | omega | (simp only [Array.size_setIfInBounds]; omega))) (by exact arr_off rfl (by omega)))) ?_
  refine JM.quiet rfl rfl rfl rfl (fun m => y_indexAddr_slice hT rfl rfl rfl rfl rfl (by (first | omega | exact Nat.le_of_ble_eq_true rfl | decide | (simp; omega))) (by (first | omega | exact Nat.le_of_ble_eq_true rfl | decide | (simp; omega)))) ?_
  refine JM.loud rfl rfl (fun fr => l_storeArr (j := (i)) (u := d1[a + o]!) hT rfl rfl rfl rfl (fun _ => rfl) (by (repeat (first | exact Pick.head | apply Pick.tail | apply Pick.app))) (by (first | assumption | omega | (simp only [Array.size_setIfInBounds]; omega))) (by exact arr_off rfl (by omega)) (⟨[_], (by (repeat (first | exact Split.nil | exact Split.all | refine Split.cons Pick.head ?_))), ?_⟩))
  refine JM.quiet rfl rfl rfl rfl (fun m => y_indexAddr_slice hT rfl rfl rfl rfl rfl (by (first | omega | exact Nat.le_of_ble_eq_true rfl | decide | (simp; omega))) (by (first | omega | exact Nat.le_of_ble_eq_true rfl | decide | (simp; omega)))) ?_
  refine JM.loud rfl rfl (fun fr => l_storeArr (j := (a + o)) (u := d1[i]!) hT rfl rfl rfl rfl (fun _ => rfl) (by (repeat (first | exact Pick.head | apply Pick.tail | apply Pick.app))) (by (first | assumption | omega | (simp only [Array.size_setIfInBounds]; omega))) (by exact arr_off rfl (by omega)) (⟨[_], (by (repeat (first | exact Split.nil | exact Split.all | refine Split.cons Pick.head ?_))), ?_⟩))
  refine JM.nil ?_
  all_goals refine JE.block_normal (JE.then_normal ?_)
  all_goals
   refine J.region (JL.step (y_move rfl) rfl rfl rfl ?_)
   refine JL.step (y_add rfl rfl (by (first | exact wrap_i64 (by omega) (by omega) | rfl))) rfl rfl rfl ?_
   refine JL.step (y_assign rfl) rfl rfl rfl ?_
   refine JL.nil ?_
 all_goals
  exact JE.round (s := (i, z, d1)) (i + 1, z2, Sort.swp d1 i (a + o)) ⟨by dsimp only; omega, by dsimp only; omega, by dsimp only; rw [swp_size]; exact hs1, Sort.permIn_trans _ _ _ _ _ hp1 (Sort.swp_permIn d1 a b i (a + o) hi1 hi2 (by omega) (by omega) (by omega))⟩ ⟨rfl, rfl, rfl, rfl, rfl, (congrArg (fun z => some (Value.int .i64 z)) (by first | omega | (dsimp only; omega))), trivial⟩ (fun w h => h.sup (by (repeat (first | exact Sup.refl | apply Sup.cons (by (repeat (first | exact Pick.head | apply Pick.tail | apply Pick.app))) | apply Sup.app | apply Sup.skip | apply Sup.skips)))) (by dsimp only; omega)
end
end
section
open Go Go.SL
section
attribute [local irreducible] J JL JE JM LS Y Fc RV Code.wp wpList Code.wpIn wpListIn
attribute [local irreducible] Yc
attribute [local irreducible] Sort.ltInt
variable (E : World)
theorem partEqU (g c n a b p : Nat) (ia ib ip : Int) (d : Array Int) (sp : List Value) (r : List HProp) (ea : ia = a) (eb : ib = b) (ep : ip = p) (hn : d.size = n) (hp1 : a ≤ p) (hp2 : p < b) (hb : b ≤ n) (h63 : n < 4611686018427387904) :
 Fc prog E 104 [.slice (some ⟨g, 0, none⟩) n c, .int .i64 ia, .int .i64 ib, .int .i64 ip].toArray (arU g d sp :: r) (fun v l' => v = .int .i64 ((Sort.partitionEqual Sort.ltInt d a b p).1 : Int) ∧ l' = arU g (Sort.partitionEqual Sort.ltInt d a b p).2 sp :: r) := by
 refine Fc.eqs ?_
 subst ea eb ep
 refine Fc.of_body (c := ?codeC) Tryd.func104 ?hb Tryd.ntmps104 ?hl ?_
 case hb => exact rfl
 case hl => exact rfl
 refine J.seq (J.region (JL.step (y_assign rfl) rfl rfl rfl ?_))
 refine JL.nil (JE.then_normal (J.seq ?_))
 refine J.draw _ _ [(0, .q), (1, .q), (2, .q), (3, .q), (4, .q), (5, .q), (6, .q), (8, .q), (9, .q), (10, .q), (7, .e), (11, .e), (12, .q), (13, .l), (14, .q), (15, .l)] mixed (by kernel_rfl) (Split.cons (Pick.head) (Split.nil)) ?_
 refine JM.quiet rfl rfl rfl rfl (fun m => y_move rfl) (JM.quiet rfl rfl rfl rfl (fun m => y_move rfl) (JM.quiet rfl rfl rfl rfl (fun m => y_move rfl) (JM.quiet rfl rfl rfl rfl (fun m => y_move rfl) (JM.quiet rfl rfl rfl rfl (fun m => y_move rfl) (JM.quiet rfl rfl rfl rfl (fun m => y_move rfl) ?_)))))
 refine JM.quiet rfl rfl rfl rfl (fun m => y_indexAddr_slice hT rfl rfl rfl rfl rfl (by (first | omega | exact Nat.le_of_ble_eq_true rfl | decide | (simp; omega))) (by (first | omega | exact Nat.le_of_ble_eq_true rfl | decide | (simp; omega)))) ?_
 refine JM.quiet rfl rfl rfl rfl (fun m => y_move rfl) (JM.quiet rfl rfl rfl rfl (fun m => y_move rfl) ?_)
 refine JM.quiet rfl rfl rfl rfl (fun m => y_indexAddr_slice hT rfl rfl rfl rfl rfl (by (first | omega | exact Nat.le_of_ble_eq_true rfl | decide | (simp; omega))) (by (first | omega | exact Nat.le_of_ble_eq_true rfl | decide | (simp; omega)))) ?_
 refine JM.early rfl rfl rfl rfl (fun fr => y_load1 hT rfl rfl rfl (Rd1.arr (i := (p)) (by (repeat (first | exact Pick.head | apply Pick.tail | apply Pick.app))) (by (first | assumption | omega | (simp only [Array.size_setIfInBounds]; omega))) (by exact arr_off rfl (by omega)))) ?_
 refine JM.early rfl rfl rfl rfl (fun fr => y_load1 hT rfl rfl rfl (Rd1.arr (i := (a)) (by (repeat (first | exact Pick.head | apply Pick.tail | apply Pick.app))) (by (first | assumption | omega | (simp only [Array.size_setIfInBounds]; omega))) (by exact arr_off rfl (by omega)))) ?_
 refine JM.quiet rfl rfl rfl rfl (fun m => y_indexAddr_slice hT rfl rfl rfl rfl rfl (by (first | omega | exact Nat.le_of_ble_eq_true rfl | decide | (simp; omega))) (by (first | omega | exact Nat.le_of_ble_eq_true rfl | decide | (simp; omega)))) ?_
 refine JM.loud rfl rfl (fun fr => l_storeArr (j := (a)) (u := d[p]!) hT rfl rfl rfl rfl (fun _ => rfl) (by (repeat (first | exact Pick.head | apply Pick.tail | apply Pick.app))) (by (first | assumption | omega | (simp only [Array.size_setIfInBounds]; omega))) (by exact arr_off rfl (by omega)) (⟨[_], (by (repeat (first | exact Split.nil | exact Split.all | refine Split.cons Pick.head ?_))), ?_⟩))
 refine JM.quiet rfl rfl rfl rfl (fun m => y_indexAddr_slice hT rfl rfl rfl rfl rfl (by (first | omega | exact Nat.le_of_ble_eq_true rfl | decide | (simp; omega))) (by (first | omega | exact Nat.le_of_ble_eq_true rfl | decide | (simp; omega)))) ?_
 refine JM.loud rfl rfl (fun fr => l_storeArr (j := (p)) (u := d[a]!) hT rfl rfl rfl rfl (fun _ => rfl) (by (repeat (first | exact Pick.head | apply Pick.tail | apply Pick.app))) (by (first | assumption | omega | (simp only [Array.size_setIfInBounds]; omega))) (by exact arr_off rfl (by omega)) (⟨[_], (by (repeat (first | exact Split.nil | exact Split.all | refine Split.cons Pick.head ?_))), ?_⟩))
 refine JM.nil (JE.then_normal (J.seq (J.region (JL.step (y_move rfl) rfl rfl rfl ?_))))
 refine JL.step (y_add rfl rfl (by (first | exact wrap_i64 (by omega) (by omega) | rfl))) rfl rfl rfl ?_
 refine JL.step (y_move rfl) rfl rfl rfl ?_
 refine JL.step (y_sub rfl rfl (by (first | exact wrap_i64 (by omega) (by omega) | rfl))) rfl rfl rfl ?_
 refine JL.step (y_assign rfl) rfl rfl rfl (JL.step (y_assign rfl) rfl rfl rfl ?_)
 refine JL.nil (JE.then_normal (J.seq (J.block ?_)))
 refine J.loop (α := Nat × Nat × Array Int) (fun s => a < s.1 ∧ s.1 ≤ b ∧ s.2.1 < b ∧ s.1 ≤ s.2.1 + 1 ∧ s.2.2.size = n ∧ Sort.partEqLoop Sort.ltInt a s.1 s.2.1 s.2.2 = Sort.partitionEqual Sort.ltInt d a b p) (fun s => [(0, .slice (some ⟨g, 0, none⟩) n c), (1, .int .i64 a), (9, .int .i64 s.1), (10, .int .i64 s.2.1)]) (fun s => arU g s.2.2 sp :: r) (fun s => s.2.1 + 1 - s.1) (a + 1, b - 1, Sort.swp d a p) ⟨by dsimp only; omega, by dsimp only; omega, by dsimp only; omega, by dsimp only; omega, by dsimp only; rw [swp_size]; exact hn, rfl⟩ ⟨rfl, rfl, (congrArg (fun z => some (Value.int .i64 z)) (by first | omega | (dsimp only; omega))), (congrArg (fun z => some (Value.int .i64 z)) (by first | omega | (dsimp only; omega))), trivial⟩ (fun w h => h) ?_
 rintro ⟨i, j, d1⟩ ⟨hi1, hi2, hj1, hij, hs1, he1⟩
 try dsimp only at hi1 hi2 hj1 hij hs1 he1 ⊢
 rw [Sort.partEqLoop_eq] at he1
 refine J.block (J.seq (J.block ?_))
 refine J.loop (α := Nat) (fun x => i ≤ x ∧ x ≤ j + 1 ∧ Sort.scanUp (fun x => !Sort.ltInt d1[a]! x) d1 j x = Sort.scanUp (fun x => !Sort.ltInt d1[a]! x) d1 j i) (fun x => [(0, .slice (some ⟨g, 0, none⟩) n c), (1, .int .i64 a), (9, .int .i64 x), (10, .int .i64 j)]) (fun x => arU g d1 sp :: r) (fun x => j + 1 - x) i ⟨Nat.le_refl _, hij, rfl⟩ ⟨rfl, rfl, rfl, rfl, trivial⟩ (fun w h => h) ?_
 rintro x ⟨hx1, hx2, hx3⟩
 try dsimp only at hx1 hx2 hx3 ⊢
 refine J.seq (J.seq ?_)
 by_cases hg : x ≤ j
 all_goals
  refine J.draw _ _ [(0, .q), (1, .q), (2, .q), (3, .q), (4, .q), (5, .q), (6, .q), (7, .q), (8, .q), (9, .q), (10, .q), (11, .q), (12, .q), (13, .q), (14, .q)] mixed (by kernel_rfl) (Split.nil) ?_
  refine JM.quiet rfl rfl rfl rfl (fun m => y_move rfl) (JM.quiet rfl rfl rfl rfl (fun m => y_move rfl) ?_)
  first | refine JM.quiet rfl rfl rfl rfl (fun m => y_leqB rfl rfl (decide_eq_true (by omega))) ?_ | refine JM.quiet rfl rfl rfl rfl (fun m => y_leqB rfl rfl (decide_eq_false (by omega))) ?_
  refine JM.quiet rfl rfl rfl rfl (fun m => y_move rfl) ?_
  all_goals (first | refine JM.gskip rfl rfl rfl rfl rfl rfl rfl ?_ | refine JM.gskipU rfl rfl rfl rfl rfl rfl ?_ | refine JM.gquiet rfl rfl rfl rfl rfl rfl (fun m => y_move rfl) ?_)
  all_goals (first | refine JM.gskip rfl rfl rfl rfl rfl rfl rfl ?_ | refine JM.gskipU rfl rfl rfl rfl rfl rfl ?_ | refine JM.gquiet rfl rfl rfl rfl rfl rfl (fun m => y_move rfl) ?_)
  all_goals (first | refine JM.gskip rfl rfl rfl rfl rfl rfl rfl ?_ | refine JM.gskipU rfl rfl rfl rfl rfl rfl ?_ | refine JM.gquiet rfl rfl rfl rfl rfl rfl (fun m => y_indexAddr_slice hT rfl rfl rfl rfl rfl (by (first | omega | exact Nat.le_of_ble_eq_true rfl | decide | (simp; omega))) (by (first | omega | exact Nat.le_of_ble_eq_true rfl | decide | (simp; omega)))) ?_)
  all_goals (first | refine JM.gskip rfl rfl rfl rfl rfl rfl rfl ?_ | refine JM.gskipU rfl rfl rfl rfl rfl rfl ?_ | refine JM.gquiet rfl rfl rfl rfl rfl rfl (fun m => y_load1 hT rfl rfl rfl (Rd1.arr (i := (a)) (Pick.app m (by (repeat (first | exact Pick.head | apply Pick.tail | apply Pick.app)))) (by (first | assumption | omega | (simp only [Array.size_setIfInBounds]; omega))) (by exact arr_off rfl (by omega)))) ?_)
  all_goals (first | refine JM.gskip rfl rfl rfl rfl rfl rfl rfl ?_ | refine JM.gskipU rfl rfl rfl rfl rfl rfl ?_ | refine JM.gquiet rfl rfl rfl rfl rfl rfl (fun m => y_move rfl) ?_)
  all_goals (first | refine JM.gskip rfl rfl rfl rfl rfl rfl rfl ?_ | refine JM.gskipU rfl rfl rfl rfl rfl rfl ?_ | refine JM.gquiet rfl rfl rfl rfl rfl rfl (fun m => y_move rfl) ?_)
  all_goals (first | refine JM.gskip rfl rfl rfl rfl rfl rfl rfl ?_ | refine JM.gskipU rfl rfl rfl rfl rfl rfl ?_ | refine JM.gquiet rfl rfl rfl rfl rfl rfl (fun m => y_indexAddr_slice hT rfl rfl rfl rfl rfl (by (first | omega | exact Nat.le_of_ble_eq_true rfl | decide | (simp; omega))) (by (first | omega | exact Nat.le_of_ble_eq_true rfl | decide | (simp; omega)))) ?_)
  all_goals (first | refine JM.gskip rfl rfl rfl rfl rfl rfl rfl ?_ | refine JM.gskipU rfl rfl rfl rfl rfl rfl ?_ | refine JM.gquiet rfl rfl rfl rfl rfl rfl (fun m => y_load1 hT rfl rfl rfl (Rd1.arr (i := (x)) (Pick.app m (by (repeat (first | exact Pick.head | apply Pick.tail | apply Pick.app)))) (by (first | assumption | omega | (simp only [Array.size_setIfInBounds]; omega))) (by exact arr_off rfl (by omega)))) ?_)
  all_goals (first | refine JM.gskip rfl rfl rfl rfl rfl rfl rfl ?_ | refine JM.gskipU rfl rfl rfl rfl rfl rfl ?_ | refine JM.gquiet rfl rfl rfl rfl rfl rfl (fun m => y_callF e103 rfl (lessU E _ _ _)) ?_)
  all_goals (first | refine JM.gskip rfl rfl rfl rfl rfl rfl rfl ?_ | refine JM.gskipU rfl rfl rfl rfl rfl rfl ?_ | refine JM.gquiet rfl rfl rfl rfl rfl rfl (fun m => y_not rfl) ?_)
  all_goals refine JM.quiet rfl rfl rfl rfl (fun m => y_pick rfl rfl rfl) ?_
  all_goals refine JM.nil ?_
 all_goals refine JE.then_normal ?_
 all_goals
  first | apply J.cond_dec rfl | apply J.cond rfl
  case' ht =>
   intro h
   try (first | (exfalso; omega) | (cases h; done) | (exfalso; simp at h; done) | subst h)
   all_goals
    rw [scanUp_go (by omega) h] at hx3
    refine J.skip ?_
  case' hf =>
   intro h
   try (first | (exfalso; omega) | (cases h; done) | (exfalso; simp at h; done) | subst h)
   all_goals
    have st1 : j < x ∨ Sort.ltInt d1[a]! d1[x]! = true := by first | exact .inl (by omega) | exact .inr (by simpa using h)
    rw [scanUp_stop (by first | exact .inl (by omega) | exact .inr h)] at hx3
    rw [← hx3] at he1
    refine J.exit (JE.then_exit (JE.then_exit (JE.block_exit (JE.then_normal (J.seq (J.block ?_))))))
    refine J.loop (α := Nat) (fun y => y ≤ j ∧ x ≤ y + 1 ∧ Sort.scanDown (fun x => Sort.ltInt d1[a]! x) d1 x y = Sort.scanDown (fun x => Sort.ltInt d1[a]! x) d1 x j) (fun y => [(0, .slice (some ⟨g, 0, none⟩) n c), (1, .int .i64 a), (9, .int .i64 x), (10, .int .i64 y)]) (fun x => arU g d1 sp :: r) (fun y => y) j ⟨Nat.le_refl _, hx2, rfl⟩ ⟨rfl, rfl, rfl, rfl, trivial⟩ (fun w h => h) ?_
    rintro y ⟨hy1, hy2, hy3⟩
    try dsimp only at hy1 hy2 hy3 ⊢
    refine J.seq (J.seq ?_)
    by_cases hg : x ≤ y
    all_goals
     refine J.draw _ _ [(0, .q), (1, .q), (2, .q), (3, .q), (4, .q), (5, .q), (6, .q), (7, .q), (8, .q), (9, .q), (10, .q), (11, .q), (12, .q), (13, .q)] mixed (by kernel_rfl) (Split.nil) ?_
     refine JM.quiet rfl rfl rfl rfl (fun m => y_move rfl) (JM.quiet rfl rfl rfl rfl (fun m => y_move rfl) ?_)
     first | refine JM.quiet rfl rfl rfl rfl (fun m => y_leqB rfl rfl (decide_eq_true (by omega))) ?_ | refine JM.quiet rfl rfl rfl rfl (fun m => y_leqB rfl rfl (decide_eq_false (by omega))) ?_
     refine JM.quiet rfl rfl rfl rfl (fun m => y_move rfl) ?_
     all_goals (first | refine JM.gskip rfl rfl rfl rfl rfl rfl rfl ?_ | refine JM.gskipU rfl rfl rfl rfl rfl rfl ?_ | refine JM.gquiet rfl rfl rfl rfl rfl rfl (fun m => y_move rfl) ?_)
     all_goals (first | refine JM.gskip rfl rfl rfl rfl rfl rfl rfl ?_ | refine JM.gskipU rfl rfl rfl rfl rfl rfl ?_ | refine JM.gquiet rfl rfl rfl rfl rfl rfl (fun m => y_move rfl) ?_)
     all_goals (first | refine JM.gskip rfl rfl rfl rfl rfl rfl rfl ?_ | refine JM.gskipU rfl rfl rfl rfl rfl rfl ?_ | refine JM.gquiet rfl rfl rfl rfl rfl rfl (fun m => y_indexAddr_slice hT rfl rfl rfl rfl rfl (by (first | omega | exact Nat.le_of_ble_eq_true rfl | decide | (simp; omega))) (by (first | omega | exact Nat.le_of_ble_eq_true rfl | decide | (simp; omega)))) ?_)
     all_goals (first | refine JM.gskip rfl rfl rfl rfl rfl rfl rfl ?_ | refine JM.gskipU rfl rfl rfl rfl rfl rfl ?_ | refine JM.gquiet rfl rfl rfl rfl rfl rfl (fun m => y_load1 hT rfl rfl rfl (Rd1.arr (i := (a)) (Pick.app m (by (repeat (first | exact Pick.head | apply Pick.tail | apply Pick.app)))) (by (first | assumption | omega | (simp only [Array.size_setIfInBounds]; omega))) (by exact arr_off rfl (by omega)))) ?_)
     all_goals (first | refine JM.gskip rfl rfl rfl rfl rfl rfl rfl ?_ | refine JM.gskipU rfl rfl rfl rfl rfl rfl ?_ | refine JM.gquiet rfl rfl rfl rfl rfl rfl (fun m => y_move rfl) ?_)
     all_goals (first | refine JM.gskip rfl rfl rfl rfl rfl rfl rfl ?_ | refine JM.gskipU rfl rfl rfl rfl rfl rfl ?_ | refine JM.gquiet rfl rfl rfl rfl rfl rfl (fun m => y_move rfl) ?_)
     all_goals (first | refine JM.gskip rfl rfl rfl rfl rfl rfl rfl ?_ | refine JM.gskipU rfl rfl rfl rfl rfl rfl ?_ | refine JM.gquiet rfl rfl rfl rfl rfl rfl (fun m => y_indexAddr_slice hT rfl rfl rfl rfl rfl (by (first | omega | exact Nat.le_of_ble_eq_true rfl | decide | (simp; omega))) (by (first | omega | exact Nat.le_of_ble_eq_true rfl | decide | (simp; omega)))) ?_)
     all_goals (first | refine JM.gskip rfl rfl rfl rfl rfl rfl rfl ?_ | refine JM.gskipU rfl rfl rfl rfl rfl rfl ?_ | refine JM.gquiet rfl rfl rfl rfl rfl rfl (fun m => y_load1 hT rfl rfl rfl (Rd1.arr (i := (y)) (Pick.app m (by (repeat (first | exact Pick.head | apply Pick.tail | apply Pick.app)))) (by (first | assumption | omega | (simp only [Array.size_setIfInBounds]; omega))) (by exact arr_off rfl (by omega)))) ?_)
     all_goals (first | refine JM.gskip rfl rfl rfl rfl rfl rfl rfl ?_ | refine JM.gskipU rfl rfl rfl rfl rfl rfl ?_ | refine JM.gquiet rfl rfl rfl rfl rfl rfl (fun m => y_callF e103 rfl (lessU E _ _ _)) ?_)
     all_goals refine JM.quiet rfl rfl rfl rfl (fun m => y_pick rfl rfl rfl) ?_
     all_goals refine JM.nil ?_
    all_goals refine JE.then_normal ?_
    all_goals
     first | apply J.cond_dec rfl | apply J.cond rfl
     case' ht =>
      intro h
      try (first | (exfalso; omega) | (cases h; done) | (exfalso; simp at h; done) | subst h)
      all_goals
       rw [scanDown_go (by omega) (by omega) h] at hy3
       refine J.skip ?_
     case' hf =>
      intro h
      try (first | (exfalso; omega) | (cases h; done) | (exfalso; simp at h; done) | subst h)
      all_goals
       have st2 : y < x ∨ Sort.ltInt d1[a]! d1[y]! = false := by first | exact .inl (by omega) | exact .inr h
       rw [scanDown_stop (by first | exact .inl (by omega) | exact .inr h)] at hy3
       rw [← hy3] at he1
       refine J.exit (JE.then_exit (JE.then_exit (JE.block_exit (JE.then_normal (J.seq (J.seq (J.region (JL.step (y_move rfl) rfl rfl rfl (JL.step (y_move rfl) rfl rfl rfl (JL.step (y_gtr rfl rfl) rfl rfl rfl ?_))))))))))
       refine JL.nil (JE.then_normal ?_)
       first | apply J.cond_dec rfl | apply J.cond rfl
       case' ht =>
        intro h
        try (first | (exfalso; omega) | (cases h; done) | (exfalso; simp at h; done) | subst h)
        all_goals
         rw [if_pos (by omega)] at he1
         refine J.exit (JE.then_exit ?_)
         refine JE.block_past rfl ?_
         refine JE.then_exit (JE.block_exit (JE.then_normal (J.seq (J.region (JL.step (y_move rfl) rfl rfl rfl (JL.step (y_assign rfl) rfl rfl rfl ?_))))))
         refine JL.nil (JE.then_normal (J.ret ?_))
         refine JE.ret1 (.inl rfl) rfl rfl (by (first | exact RV.tmp rfl | exact RV.cell1 hT rfl rfl rfl (by (exact Rd1.row (by (repeat (first | exact Pick.head | apply Pick.tail | apply Pick.app))) (by rfl))) | exact RV.cellN hT rfl rfl rfl (by (first | exact RdN.rowAll (by (repeat (first | exact Pick.head | apply Pick.tail | apply Pick.app))) | exact RdN.own (by (repeat (first | exact Pick.head | apply Pick.tail | apply Pick.app))))) (by (first | rfl | assumption | (simp; done) | omega)))) ?_
         exact ⟨by rw [← he1], fun w h => by rw [← he1]; exact h⟩
       case' hf =>
        intro h
        try (first | (exfalso; omega) | (cases h; done) | (exfalso; simp at h; done) | subst h)
        all_goals
         rw [if_neg (by omega)] at he1
         have hne : ¬ x = y := by
          rintro rfl
          rcases st1 with q | q
          · omega
          · rcases st2 with q2 | q2
            · omega
            · rw [q] at q2; cases q2
         refine J.skip ?_
       all_goals refine JE.then_normal ?_
       all_goals
        refine J.seq ?_
        refine J.draw _ _ [(0, .q), (1, .q), (2, .q), (3, .q), (4, .q), (5, .q), (6, .q), (8, .q), (9, .q), (10, .q), (7, .e), (11, .e), (12, .q), (13, .l), (14, .q), (15, .l)] mixed (by kernel_rfl) (Split.cons (Pick.head) (Split.nil)) ?_
        refine JM.quiet rfl rfl rfl rfl (fun m => y_move rfl) (JM.quiet rfl rfl rfl rfl (fun m => y_move rfl) (JM.quiet rfl rfl rfl rfl (fun m => y_move rfl) (JM.quiet rfl rfl rfl rfl (fun m => y_move rfl) (JM.quiet rfl rfl rfl rfl (fun m => y_move rfl) (JM.quiet rfl rfl rfl rfl (fun m => y_move rfl) ?_)))))
        refine JM.quiet rfl rfl rfl rfl (fun m => y_indexAddr_slice hT rfl rfl rfl rfl rfl (by (first | omega | exact Nat.le_of_ble_eq_true rfl | decide | (simp; omega))) (by (first | omega | exact Nat.le_of_ble_eq_true rfl | decide | (simp; omega)))) ?_
        refine JM.quiet rfl rfl rfl rfl (fun m => y_move rfl) (JM.quiet rfl rfl rfl rfl (fun m => y_move rfl) ?_)
        refine JM.quiet rfl rfl rfl rfl (fun m => y_indexAddr_slice hT rfl rfl rfl rfl rfl (by (first | omega | exact Nat.le_of_ble_eq_true rfl | decide | (simp; omega))) (by (first | omega | exact Nat.le_of_ble_eq_true rfl | decide | (simp; omega)))) ?_
        refine JM.early rfl rfl rfl rfl (fun fr => y_load1 hT rfl rfl rfl (Rd1.arr (i := (y)) (by (repeat (first | exact Pick.head | apply Pick.tail | apply Pick.app))) (by (first | assumption | omega | (simp only [Array.size_setIfInBounds]; omega))) (by exact arr_off rfl (by omega)))) ?_
        refine JM.early rfl rfl rfl rfl (fun fr => y_load1 hT rfl rfl rfl (Rd1.arr (i := (x)) (by (repeat (first | exact Pick.head | apply Pick.tail | apply Pick.app))) (by (first | assumption | omega | (simp only [Array.size_setIfInBounds]; omega))) (by exact arr_off rfl (by omega)))) ?_
        refine JM.quiet rfl rfl rfl rfl (fun m => y_indexAddr_slice hT rfl rfl rfl rfl rfl (by (first | omega | exact Nat.le_of_ble_eq_true rfl | decide | (simp; omega))) (by (first | omega | exact Nat.le_of_ble_eq_true rfl | decide | (simp; omega)))) ?_
        refine JM.loud rfl rfl (fun fr => l_storeArr (j := (x)) (u := d1[y]!) hT rfl rfl rfl rfl (fun _ => rfl) (by (repeat (first | exact Pick.head | apply Pick.tail | apply Pick.app))) (by (first | assumption | omega | (simp only [Array.size_setIfInBounds]; omega))) (by exact arr_off rfl (by omega)) (⟨[_], (by (repeat (first | exact Split.nil | exact Split.all | refine Split.cons Pick.head ?_))), ?_⟩))
        refine JM.quiet rfl rfl rfl rfl (fun m => y_indexAddr_slice hT rfl rfl rfl rfl rfl (by (first | omega | exact Nat.le_of_ble_eq_true rfl | decide | (simp; omega))) (by (first | omega | exact Nat.le_of_ble_eq_true rfl | decide | (simp; omega)))) ?_
        refine JM.loud rfl rfl (fun fr => l_storeArr (j := (y)) (u := d1[x]!) hT rfl rfl rfl rfl (fun _ => rfl) (by (repeat (first | exact Pick.head | apply Pick.tail | apply Pick.app))) (by (first | assumption | omega | (simp only [Array.size_setIfInBounds]; omega))) (by exact arr_off rfl (by omega)) (⟨[_], (by (repeat (first | exact Split.nil | exact Split.all | refine Split.cons Pick.head ?_))), ?_⟩))
        refine JM.nil (JE.then_normal (J.seq (J.region (JL.step (y_move rfl) rfl rfl rfl ?_))))
        refine JL.step (y_add rfl rfl (by (first | exact wrap_i64 (by omega) (by omega) | rfl))) rfl rfl rfl ?_
        refine JL.step (y_assign rfl) rfl rfl rfl ?_
        refine JL.nil (JE.then_normal (J.region (JL.step (y_move rfl) rfl rfl rfl ?_)))
        refine JL.step (y_sub rfl rfl (by (first | exact wrap_i64 (by omega) (by omega) | rfl))) rfl rfl rfl ?_
        refine JL.step (y_assign rfl) rfl rfl rfl ?_
        refine JL.nil ?_
       all_goals
        refine JE.block_normal ?_
        exact JE.round (s := (i, j, d1)) (x + 1, y - 1, Sort.swp d1 x y) ⟨by dsimp only; omega, by dsimp only; omega, by dsimp only; omega, by dsimp only; omega, by dsimp only; rw [swp_size]; exact hs1, he1⟩ ⟨rfl, rfl, (congrArg (fun z => some (Value.int .i64 z)) (by first | omega | (dsimp only; omega))), (congrArg (fun z => some (Value.int .i64 z)) (by first | omega | (dsimp only; omega))), trivial⟩ (fun w h => h) (by dsimp only; omega)
    all_goals refine JE.then_normal ?_
    all_goals
     refine J.block (J.region (JL.step (y_move rfl) rfl rfl rfl ?_))
     refine JL.step (y_sub rfl rfl (by (first | exact wrap_i64 (by omega) (by omega) | rfl))) rfl rfl rfl ?_
     refine JL.step (y_assign rfl) rfl rfl rfl ?_
     refine JL.nil (JE.block_normal ?_)
    all_goals
     exact JE.round (s := y) (y - 1) ⟨by omega, by omega, hy3⟩ ⟨rfl, rfl, rfl, (congrArg (fun z => some (Value.int .i64 z)) (by first | omega | (dsimp only; omega))), trivial⟩ (fun w h => h) (by omega)
 all_goals refine JE.then_normal ?_
 all_goals
  refine J.block (J.region (JL.step (y_move rfl) rfl rfl rfl ?_))
  refine JL.step (y_add rfl rfl (by (first | exact wrap_i64 (by omega) (by omega) | rfl))) rfl rfl rfl ?_
  refine JL.step (y_assign rfl) rfl rfl rfl ?_
  refine JL.nil (JE.block_normal ?_)
 all_goals
  exact JE.round (s := x) (x + 1) ⟨by omega, by omega, hx3⟩ ⟨rfl, rfl, (congrArg (fun z => some (Value.int .i64 z)) (by first | omega | (dsimp only; omega))), rfl, trivial⟩ (fun w h => h) (by omega)
theorem partU (g c n a b p : Nat) (ia ib ip : Int) (d : Array Int) (sp : List Value) (r : List HProp) (ea : ia = a) (eb : ib = b) (ep : ip = p) (hn : d.size = n) (hp1 : a ≤ p) (hp2 : p < b) (hb : b ≤ n) (h63 : n < 4611686018427387904) :
 Fc prog E 105 [.slice (some ⟨g, 0, none⟩) n c, .int .i64 ia, .int .i64 ib, .int .i64 ip].toArray (arU g d sp :: r) (fun v l' => v = .tuple #[.int .i64 ((Sort.partition Sort.ltInt d a b p).1 : Int), .bool (Sort.partition Sort.ltInt d a b p).2.1] ∧ l' = arU g (Sort.partition Sort.ltInt d a b p).2.2 sp :: r) := by
 refine Fc.eqs ?_
 subst ea eb ep
 generalize hres : Sort.partition Sort.ltInt d a b p = res
 obtain ⟨d0, hd0⟩ : ∃ d0, Sort.swp d a p = d0 := ⟨_, rfl⟩
 rw [partition_eq, hd0] at hres
 have hs0 : d0.size = n := by rw [← hd0, swp_size]; exact hn
 refine Fc.of_body (c := ?codeC) Tryd.func105 ?hb Tryd.ntmps105 ?hl ?_
 case hb => exact rfl
 case hl => exact rfl
 refine J.seq (J.region (JL.step (y_assign rfl) rfl rfl rfl (JL.step (y_assign rfl) rfl rfl rfl ?_)))
 refine JL.nil (JE.then_normal (J.seq ?_))
 refine J.draw _ _ [(0, .q), (1, .q), (2, .q), (3, .q), (4, .q), (5, .q), (6, .q), (8, .q), (9, .q), (10, .q), (7, .e), (11, .e), (12, .q), (13, .l), (14, .q), (15, .l)] mixed (by kernel_rfl) (Split.cons (Pick.head) (Split.nil)) ?_
 refine JM.quiet rfl rfl rfl rfl (fun m => y_move rfl) (JM.quiet rfl rfl rfl rfl (fun m => y_move rfl) (JM.quiet rfl rfl rfl rfl (fun m => y_move rfl) (JM.quiet rfl rfl rfl rfl (fun m => y_move rfl) (JM.quiet rfl rfl rfl rfl (fun m => y_move rfl) (JM.quiet rfl rfl rfl rfl (fun m => y_move rfl) ?_)))))
 refine JM.quiet rfl rfl rfl rfl (fun m => y_indexAddr_slice hT rfl rfl rfl rfl rfl (by (first | omega | exact Nat.le_of_ble_eq_true rfl | decide | (simp; omega))) (by (first | omega | exact Nat.le_of_ble_eq_true rfl | decide | (simp; omega)))) ?_
 refine JM.quiet rfl rfl rfl rfl (fun m => y_move rfl) (JM.quiet rfl rfl rfl rfl (fun m => y_move rfl) ?_)
 refine JM.quiet rfl rfl rfl rfl (fun m => y_indexAddr_slice hT rfl rfl rfl rfl rfl (by (first | omega | exact Nat.le_of_ble_eq_true rfl | decide | (simp; omega))) (by (first | omega | exact Nat.le_of_ble_eq_true rfl | decide | (simp; omega)))) ?_
 refine JM.early rfl rfl rfl rfl (fun fr => y_load1 hT rfl rfl rfl (Rd1.arr (i := (p)) (by (repeat (first | exact Pick.head | apply Pick.tail | apply Pick.app))) (by (first | assumption | omega | (simp only [Array.size_setIfInBounds]; omega))) (by exact arr_off rfl (by omega)))) ?_
 refine JM.early rfl rfl rfl rfl (fun fr => y_load1 hT rfl rfl rfl (Rd1.arr (i := (a)) (by (repeat (first | exact Pick.head | apply Pick.tail | apply Pick.app))) (by (first | assumption | omega | (simp only [Array.size_setIfInBounds]; omega))) (by exact arr_off rfl (by omega)))) ?_
 refine JM.quiet rfl rfl rfl rfl (fun m => y_indexAddr_slice hT rfl rfl rfl rfl rfl (by (first | omega | exact Nat.le_of_ble_eq_true rfl | decide | (simp; omega))) (by (first | omega | exact Nat.le_of_ble_eq_true rfl | decide | (simp; omega)))) ?_
 refine JM.loud rfl rfl (fun fr => l_storeArr (j := (a)) (u := d[p]!) hT rfl rfl rfl rfl (fun _ => rfl) (by (repeat (first | exact Pick.head | apply Pick.tail | apply Pick.app))) (by (first | assumption | omega | (simp only [Array.size_setIfInBounds]; omega))) (by exact arr_off rfl (by omega)) (⟨[_], (by (repeat (first | exact Split.nil | exact Split.all | refine Split.cons Pick.head ?_))), ?_⟩))
 refine JM.quiet rfl rfl rfl rfl (fun m => y_indexAddr_slice hT rfl rfl rfl rfl rfl (by (first | omega | exact Nat.le_of_ble_eq_true rfl | decide | (simp; omega))) (by (first | omega | exact Nat.le_of_ble_eq_true rfl | decide | (simp; omega)))) ?_
 refine JM.loud rfl rfl (fun fr => l_storeArr (j := (p)) (u := d[a]!) hT rfl rfl rfl rfl (fun _ => rfl) (by (repeat (first | exact Pick.head | apply Pick.tail | apply Pick.app))) (by (first | assumption | omega | (simp only [Array.size_setIfInBounds]; omega))) (by exact arr_off rfl (by omega)) (⟨[_], (by (repeat (first | exact Split.nil | exact Split.all | refine Split.cons Pick.head ?_))), ?_⟩))
 refine JM.nil (JE.then_normal (J.seq (J.region (JL.step (y_move rfl) rfl rfl rfl ?_))))
 refine JL.step (y_add rfl rfl (by (first | exact wrap_i64 (by omega) (by omega) | rfl))) rfl rfl rfl ?_
 refine JL.step (y_move rfl) rfl rfl rfl ?_
 refine JL.step (y_sub rfl rfl (by (first | exact wrap_i64 (by omega) (by omega) | rfl))) rfl rfl rfl ?_
 refine JL.step (y_assign rfl) rfl rfl rfl (JL.step (y_assign rfl) rfl rfl rfl ?_)
 refine JL.nil (JE.then_normal (J.seq (J.block ?_)))
 refine J.loop (α := Nat) (fun x => a < x ∧ x ≤ b ∧ Sort.scanUp (fun x => Sort.ltInt x d0[a]!) d0 (b - 1) x = Sort.scanUp (fun x => Sort.ltInt x d0[a]!) d0 (b - 1) (a + 1)) (fun x => [(0, .slice (some ⟨g, 0, none⟩) n c), (1, .int .i64 a), (10, .int .i64 x), (11, .int .i64 ((b - 1 : Nat) : Int))]) (fun x => arU g d0 sp :: r) (fun x => b - x) (a + 1) ⟨by omega, by omega, rfl⟩ ⟨rfl, rfl, (congrArg (fun z => some (Value.int .i64 z)) (by first | omega | (dsimp only; omega))), (congrArg (fun z => some (Value.int .i64 z)) (by first | omega | (dsimp only; omega))), trivial⟩ (fun w h => by rw [← hd0]; exact h) ?_
 rintro x ⟨hx1, hx2, hx3⟩
 try dsimp only at hx1 hx2 hx3 ⊢
 refine J.seq (J.seq ?_)
 by_cases hg : x ≤ b - 1
 all_goals
  refine J.draw _ _ [(0, .q), (1, .q), (2, .q), (3, .q), (4, .q), (5, .q), (6, .q), (7, .q), (8, .q), (9, .q), (10, .q), (11, .q), (12, .q), (13, .q)] mixed (by kernel_rfl) (Split.nil) ?_
  refine JM.quiet rfl rfl rfl rfl (fun m => y_move rfl) (JM.quiet rfl rfl rfl rfl (fun m => y_move rfl) ?_)
  first | refine JM.quiet rfl rfl rfl rfl (fun m => y_leqB rfl rfl (decide_eq_true (by omega))) ?_ | refine JM.quiet rfl rfl rfl rfl (fun m => y_leqB rfl rfl (decide_eq_false (by omega))) ?_
  refine JM.quiet rfl rfl rfl rfl (fun m => y_move rfl) ?_
  all_goals (first | refine JM.gskip rfl rfl rfl rfl rfl rfl rfl ?_ | refine JM.gskipU rfl rfl rfl rfl rfl rfl ?_ | refine JM.gquiet rfl rfl rfl rfl rfl rfl (fun m => y_move rfl) ?_)
  all_goals (first | refine JM.gskip rfl rfl rfl rfl rfl rfl rfl ?_ | refine JM.gskipU rfl rfl rfl rfl rfl rfl ?_ | refine JM.gquiet rfl rfl rfl rfl rfl rfl (fun m => y_move rfl) ?_)
  all_goals (first | refine JM.gskip rfl rfl rfl rfl rfl rfl rfl ?_ | refine JM.gskipU rfl rfl rfl rfl rfl rfl ?_ | refine JM.gquiet rfl rfl rfl rfl rfl rfl (fun m => y_indexAddr_slice hT rfl rfl rfl rfl rfl (by (first | omega | exact Nat.le_of_ble_eq_true rfl | decide | (simp; omega))) (by (first | omega | exact Nat.le_of_ble_eq_true rfl | decide | (simp; omega)))) ?_)
  all_goals (first | refine JM.gskip rfl rfl rfl rfl rfl rfl rfl ?_ | refine JM.gskipU rfl rfl rfl rfl rfl rfl ?_ | refine JM.gquiet rfl rfl rfl rfl rfl rfl (fun m => y_load1 hT rfl rfl rfl (Rd1.arr (i := (x)) (Pick.app m (by (repeat (first | exact Pick.head | apply Pick.tail | apply Pick.app)))) (by (first | assumption | omega | (simp only [Array.size_setIfInBounds]; omega))) (by exact arr_off rfl (by omega)))) ?_)
  all_goals (first | refine JM.gskip rfl rfl rfl rfl rfl rfl rfl ?_ | refine JM.gskipU rfl rfl rfl rfl rfl rfl ?_ | refine JM.gquiet rfl rfl rfl rfl rfl rfl (fun m => y_move rfl) ?_)
  all_goals (first | refine JM.gskip rfl rfl rfl rfl rfl rfl rfl ?_ | refine JM.gskipU rfl rfl rfl rfl rfl rfl ?_ | refine JM.gquiet rfl rfl rfl rfl rfl rfl (fun m => y_move rfl) ?_)
  all_goals (first | refine JM.gskip rfl rfl rfl rfl rfl rfl rfl ?_ | refine JM.gskipU rfl rfl rfl rfl rfl rfl ?_ | refine JM.gquiet rfl rfl rfl rfl rfl rfl (fun m => y_indexAddr_slice hT rfl rfl rfl rfl rfl (by (first | omega | exact Nat.le_of_ble_eq_true rfl | decide | (simp; omega))) (by (first | omega | exact Nat.le_of_ble_eq_true rfl | decide | (simp; omega)))) ?_)
  all_goals (first | refine JM.gskip rfl rfl rfl rfl rfl rfl rfl ?_ | refine JM.gskipU rfl rfl rfl rfl rfl rfl ?_ | refine JM.gquiet rfl rfl rfl rfl rfl rfl (fun m => y_load1 hT rfl rfl rfl (Rd1.arr (i := (a)) (Pick.app m (by (repeat (first | exact Pick.head | apply Pick.tail | apply Pick.app)))) (by (first | assumption | omega | (simp only [Array.size_setIfInBounds]; omega))) (by exact arr_off rfl (by omega)))) ?_)
  all_goals (first | refine JM.gskip rfl rfl rfl rfl rfl rfl rfl ?_ | refine JM.gskipU rfl rfl rfl rfl rfl rfl ?_ | refine JM.gquiet rfl rfl rfl rfl rfl rfl (fun m => y_callF e103 rfl (lessU E _ _ _)) ?_)
  all_goals refine JM.quiet rfl rfl rfl rfl (fun m => y_pick rfl rfl rfl) ?_
  all_goals refine JM.nil ?_
 all_goals refine JE.then_normal ?_
 all_goals
  first | apply J.cond_dec rfl | apply J.cond rfl
  case' ht =>
   intro h
   try (first | (exfalso; omega) | (cases h; done) | (exfalso; simp at h; done) | subst h)
   all_goals
    rw [scanUp_go (p := fun x => Sort.ltInt x d0[a]!) (by omega) h] at hx3
    refine J.skip ?_
  case' hf =>
   intro h
   try (first | (exfalso; omega) | (cases h; done) | (exfalso; simp at h; done) | subst h)
   all_goals
    have st1 : b - 1 < x ∨ Sort.ltInt d0[x]! d0[a]! = false := by first | exact .inl (by omega) | exact .inr h
    rw [scanUp_stop (p := fun x => Sort.ltInt x d0[a]!) (by first | exact .inl (by omega) | exact .inr h)] at hx3
    rw [← hx3] at hres
    refine J.exit (JE.then_exit (JE.then_exit (JE.block_exit (JE.then_normal (J.seq (J.block ?_))))))
    refine J.loop (α := Nat) (fun y => y ≤ b - 1 ∧ x ≤ y + 1 ∧ Sort.scanDown (fun x => !Sort.ltInt x d0[a]!) d0 x y = Sort.scanDown (fun x => !Sort.ltInt x d0[a]!) d0 x (b - 1)) (fun y => [(0, .slice (some ⟨g, 0, none⟩) n c), (1, .int .i64 a), (10, .int .i64 x), (11, .int .i64 y)]) (fun y => arU g d0 sp :: r) (fun y => y) (b - 1) ⟨Nat.le_refl _, by omega, rfl⟩ ⟨rfl, rfl, rfl, rfl, trivial⟩ (fun w h => h) ?_
    rintro y ⟨hy1, hy2, hy3⟩
    try dsimp only at hy1 hy2 hy3 ⊢
    refine J.seq (J.seq ?_)
    by_cases hg : x ≤ y
    all_goals
     refine J.draw _ _ [(0, .q), (1, .q), (2, .q), (3, .q), (4, .q), (5, .q), (6, .q), (7, .q), (8, .q), (9, .q), (10, .q), (11, .q), (12, .q), (13, .q), (14, .q)] mixed (by kernel_rfl) (Split.nil) ?_
     refine JM.quiet rfl rfl rfl rfl (fun m => y_move rfl) (JM.quiet rfl rfl rfl rfl (fun m => y_move rfl) ?_)
     first | refine JM.quiet rfl rfl rfl rfl (fun m => y_leqB rfl rfl (decide_eq_true (by omega))) ?_ | refine JM.quiet rfl rfl rfl rfl (fun m => y_leqB rfl rfl (decide_eq_false (by omega))) ?_
     refine JM.quiet rfl rfl rfl rfl (fun m => y_move rfl) ?_
     all_goals (first | refine JM.gskip rfl rfl rfl rfl rfl rfl rfl ?_ | refine JM.gskipU rfl rfl rfl rfl rfl rfl ?_ | refine JM.gquiet rfl rfl rfl rfl rfl rfl (fun m => y_move rfl) ?_)
     all_goals (first | refine JM.gskip rfl rfl rfl rfl rfl rfl rfl ?_ | refine JM.gskipU rfl rfl rfl rfl rfl rfl ?_ | refine JM.gquiet rfl rfl rfl rfl rfl rfl (fun m => y_move rfl) ?_)
     all_goals (first | refine JM.gskip rfl rfl rfl rfl rfl rfl rfl ?_ | refine JM.gskipU rfl rfl rfl rfl rfl rfl ?_ | refine JM.gquiet rfl rfl rfl rfl rfl rfl (fun m => y_indexAddr_slice hT rfl rfl rfl rfl rfl (by (first | omega | exact Nat.le_of_ble_eq_true rfl | decide | (simp; omega))) (by (first | omega | exact Nat.le_of_ble_eq_true rfl | decide | (simp; omega)))) ?_)
     all_goals (first | refine JM.gskip rfl rfl rfl rfl rfl rfl rfl ?_ | refine JM.gskipU rfl rfl rfl rfl rfl rfl ?_ | refine JM.gquiet rfl rfl rfl rfl rfl rfl (fun m => y_load1 hT rfl rfl rfl (Rd1.arr (i := (y)) (Pick.app m (by (repeat (first | exact Pick.head | apply Pick.tail | apply Pick.app)))) (by (first | assumption | omega | (simp only [Array.size_setIfInBounds]; omega))) (by exact arr_off rfl (by omega)))) ?_)
     all_goals (first | refine JM.gskip rfl rfl rfl rfl rfl rfl rfl ?_ | refine JM.gskipU rfl rfl rfl rfl rfl rfl ?_ | refine JM.gquiet rfl rfl rfl rfl rfl rfl (fun m => y_move rfl) ?_)
     all_goals (first | refine JM.gskip rfl rfl rfl rfl rfl rfl rfl ?_ | refine JM.gskipU rfl rfl rfl rfl rfl rfl ?_ | refine JM.gquiet rfl rfl rfl rfl rfl rfl (fun m => y_move rfl) ?_)
     all_goals (first | refine JM.gskip rfl rfl rfl rfl rfl rfl rfl ?_ | refine JM.gskipU rfl rfl rfl rfl rfl rfl ?_ | refine JM.gquiet rfl rfl rfl rfl rfl rfl (fun m => y_indexAddr_slice hT rfl rfl rfl rfl rfl (by (first | omega | exact Nat.le_of_ble_eq_true rfl | decide | (simp; omega))) (by (first | omega | exact Nat.le_of_ble_eq_true rfl | decide | (simp; omega)))) ?_)
     all_goals (first | refine JM.gskip rfl rfl rfl rfl rfl rfl rfl ?_ | refine JM.gskipU rfl rfl rfl rfl rfl rfl ?_ | refine JM.gquiet rfl rfl rfl rfl rfl rfl (fun m => y_load1 hT rfl rfl rfl (Rd1.arr (i := (a)) (Pick.app m (by (repeat (first | exact Pick.head | apply Pick.tail | apply Pick.app)))) (by (first | assumption | omega | (simp only [Array.size_setIfInBounds]; omega))) (by exact arr_off rfl (by omega)))) ?_)
     all_goals (first | refine JM.gskip rfl rfl rfl rfl rfl rfl rfl ?_ | refine JM.gskipU rfl rfl rfl rfl rfl rfl ?_ | refine JM.gquiet rfl rfl rfl rfl rfl rfl (fun m => y_callF e103 rfl (lessU E _ _ _)) ?_)
     all_goals (first | refine JM.gskip rfl rfl rfl rfl rfl rfl rfl ?_ | refine JM.gskipU rfl rfl rfl rfl rfl rfl ?_ | refine JM.gquiet rfl rfl rfl rfl rfl rfl (fun m => y_not rfl) ?_)
     all_goals refine JM.quiet rfl rfl rfl rfl (fun m => y_pick rfl rfl rfl) ?_
     all_goals refine JM.nil ?_
    all_goals refine JE.then_normal ?_
    all_goals
     first | apply J.cond_dec rfl | apply J.cond rfl
     case' ht =>
      intro h
      try (first | (exfalso; omega) | (cases h; done) | (exfalso; simp at h; done) | subst h)
      all_goals
       rw [scanDown_go (p := fun x => !Sort.ltInt x d0[a]!) (by omega) (by omega) h] at hy3
       refine J.skip ?_
     case' hf =>
      intro h
      try (first | (exfalso; omega) | (cases h; done) | (exfalso; simp at h; done) | subst h)
      all_goals
       have st2 : y < x ∨ Sort.ltInt d0[y]! d0[a]! = true := by first | exact .inl (by omega) | exact .inr (by simpa using h)
       rw [scanDown_stop (p := fun x => !Sort.ltInt x d0[a]!) (by first | exact .inl (by omega) | exact .inr h)] at hy3
       rw [← hy3] at hres
       refine J.exit (JE.then_exit (JE.then_exit (JE.block_exit (JE.then_normal (J.seq (J.seq (J.region (JL.step (y_move rfl) rfl rfl rfl (JL.step (y_move rfl) rfl rfl rfl (JL.step (y_gtr rfl rfl) rfl rfl rfl ?_))))))))))
       refine JL.nil (JE.then_normal ?_)
       first | apply J.cond_dec rfl | apply J.cond rfl
       case' ht =>
        intro h
        try (first | (exfalso; omega) | (cases h; done) | (exfalso; simp at h; done) | subst h)
        all_goals
         rw [if_pos (by omega)] at hres
         refine J.seq ?_
         refine J.draw _ _ [(0, .q), (1, .q), (2, .q), (3, .q), (4, .q), (5, .q), (6, .q), (8, .q), (9, .q), (10, .q), (7, .e), (11, .e), (12, .q), (13, .l), (14, .q), (15, .l)] mixed (by kernel_rfl) (Split.cons (Pick.head) (Split.nil)) ?_
         refine JM.quiet rfl rfl rfl rfl (fun m => y_move rfl) (JM.quiet rfl rfl rfl rfl (fun m => y_move rfl) (JM.quiet rfl rfl rfl rfl (fun m => y_move rfl) (JM.quiet rfl rfl rfl rfl (fun m => y_move rfl) (JM.quiet rfl rfl rfl rfl (fun m => y_move rfl) (JM.quiet rfl rfl rfl rfl (fun m => y_move rfl) ?_)))))
         refine JM.quiet rfl rfl rfl rfl (fun m => y_indexAddr_slice hT rfl rfl rfl rfl rfl (by (first | omega | exact Nat.le_of_ble_eq_true rfl | decide | (simp; omega))) (by (first | omega | exact Nat.le_of_ble_eq_true rfl | decide | (simp; omega)))) ?_
         refine JM.quiet rfl rfl rfl rfl (fun m => y_move rfl) (JM.quiet rfl rfl rfl rfl (fun m => y_move rfl) ?_)
         refine JM.quiet rfl rfl rfl rfl (fun m => y_indexAddr_slice hT rfl rfl rfl rfl rfl (by (first | omega | exact Nat.le_of_ble_eq_true rfl | decide | (simp; omega))) (by (first | omega | exact Nat.le_of_ble_eq_true rfl | decide | (simp; omega)))) ?_
         refine JM.early rfl rfl rfl rfl (fun fr => y_load1 hT rfl rfl rfl (Rd1.arr (i := (a)) (by (repeat (first | exact Pick.head | apply Pick.tail | apply Pick.app))) (by (first | assumption | omega | (simp only [Array.size_setIfInBounds]; omega))) (by exact arr_off rfl (by omega)))) ?_
         refine JM.early rfl rfl rfl rfl (fun fr => y_load1 hT rfl rfl rfl (Rd1.arr (i := (y)) (by (repeat (first | exact Pick.head | apply Pick.tail | apply Pick.app))) (by (first | assumption | omega | (simp only [Array.size_setIfInBounds]; omega))) (by exact arr_off rfl (by omega)))) ?_
         refine JM.quiet rfl rfl rfl rfl (fun m => y_indexAddr_slice hT rfl rfl rfl rfl rfl (by (first | omega | exact Nat.le_of_ble_eq_true rfl | decide | (simp; omega))) (by (first | omega | exact Nat.le_of_ble_eq_true rfl | decide | (simp; omega)))) ?_
         refine JM.loud rfl rfl (fun fr => l_storeArr (j := (y)) (u := d0[a]!) hT rfl rfl rfl rfl (fun _ => rfl) (by (repeat (first | exact Pick.head | apply Pick.tail | apply Pick.app))) (by (first | assumption | omega | (simp only [Array.size_setIfInBounds]; omega))) (by exact arr_off rfl (by omega)) (⟨[_], (by (repeat (first | exact Split.nil | exact Split.all | refine Split.cons Pick.head ?_))), ?_⟩))
         refine JM.quiet rfl rfl rfl rfl (fun m => y_indexAddr_slice hT rfl rfl rfl rfl rfl (by (first | omega | exact Nat.le_of_ble_eq_true rfl | decide | (simp; omega))) (by (first | omega | exact Nat.le_of_ble_eq_true rfl | decide | (simp; omega)))) ?_
         refine JM.loud rfl rfl (fun fr => l_storeArr (j := (a)) (u := d0[y]!) hT rfl rfl rfl rfl (fun _ => rfl) (by (repeat (first | exact Pick.head | apply Pick.tail | apply Pick.app))) (by (first | assumption | omega | (simp only [Array.size_setIfInBounds]; omega))) (by exact arr_off rfl (by omega)) (⟨[_], (by (repeat (first | exact Split.nil | exact Split.all | refine Split.cons Pick.head ?_))), ?_⟩))
         refine JM.nil (JE.then_normal (J.seq (J.region (JL.step (y_move rfl) rfl rfl rfl (JL.step (y_assign rfl) rfl rfl rfl (JL.step (y_assign rfl) rfl rfl rfl ?_))))))
         refine JL.nil (JE.then_normal (J.ret (JE.then_ret ?_)))
         refine JE.ret2 (.inl rfl) rfl rfl (by (first | exact RV.tmp rfl | exact RV.cell1 hT rfl rfl rfl (by (exact Rd1.row (by (repeat (first | exact Pick.head | apply Pick.tail | apply Pick.app))) (by rfl))) | exact RV.cellN hT rfl rfl rfl (by (first | exact RdN.rowAll (by (repeat (first | exact Pick.head | apply Pick.tail | apply Pick.app))) | exact RdN.own (by (repeat (first | exact Pick.head | apply Pick.tail | apply Pick.app))))) (by (first | rfl | assumption | (simp; done) | omega)))) (by (first | exact RV.tmp rfl | exact RV.cell1 hT rfl rfl rfl (by (exact Rd1.row (by (repeat (first | exact Pick.head | apply Pick.tail | apply Pick.app))) (by rfl))) | exact RV.cellN hT rfl rfl rfl (by (first | exact RdN.rowAll (by (repeat (first | exact Pick.head | apply Pick.tail | apply Pick.app))) | exact RdN.own (by (repeat (first | exact Pick.head | apply Pick.tail | apply Pick.app))))) (by (first | rfl | assumption | (simp; done) | omega)))) ?_
         exact ⟨by rw [← hres], fun w h => by rw [← hres]; exact h⟩
       case' hf =>
        intro h
        try (first | (exfalso; omega) | (cases h; done) | (exfalso; simp at h; done) | subst h)
        all_goals
         rw [if_neg (by omega)] at hres
         have hne : ¬ x = y := by
          rintro rfl
          rcases st1 with q | q
          · omega
          · rcases st2 with q2 | q2
            · omega
            · rw [q] at q2; cases q2
         refine J.skip ?_
       all_goals refine JE.then_normal ?_
       all_goals
        refine J.seq ?_
        refine J.draw _ _ [(0, .q), (1, .q), (2, .q), (3, .q), (4, .q), (5, .q), (6, .q), (8, .q), (9, .q), (10, .q), (7, .e), (11, .e), (12, .q), (13, .l), (14, .q), (15, .l)] mixed (by kernel_rfl) (Split.cons (Pick.head) (Split.nil)) ?_
        refine JM.quiet rfl rfl rfl rfl (fun m => y_move rfl) (JM.quiet rfl rfl rfl rfl (fun m => y_move rfl) (JM.quiet rfl rfl rfl rfl (fun m => y_move rfl) (JM.quiet rfl rfl rfl rfl (fun m => y_move rfl) (JM.quiet rfl rfl rfl rfl (fun m => y_move rfl) (JM.quiet rfl rfl rfl rfl (fun m => y_move rfl) ?_)))))
        refine JM.quiet rfl rfl rfl rfl (fun m => y_indexAddr_slice hT rfl rfl rfl rfl rfl (by (first | omega | exact Nat.le_of_ble_eq_true rfl | decide | (simp; omega))) (by (first | omega | exact Nat.le_of_ble_eq_true rfl | decide | (simp; omega)))) ?_
        refine JM.quiet rfl rfl rfl rfl (fun m => y_move rfl) (JM.quiet rfl rfl rfl rfl (fun m => y_move rfl) ?_)
        refine JM.quiet rfl rfl rfl rfl (fun m => y_indexAddr_slice hT rfl rfl rfl rfl rfl (by (first | omega | exact Nat.le_of_ble_eq_true rfl | decide | (simp; omega))) (by (first | omega | exact Nat.le_of_ble_eq_true rfl | decide | (simp; omega)))) ?_
        refine JM.early rfl rfl rfl rfl (fun fr => y_load1 hT rfl rfl rfl (Rd1.arr (i := (y)) (by (repeat (first | exact Pick.head | apply Pick.tail | apply Pick.app))) (by (first | assumption | omega | (simp only [Array.size_setIfInBounds]; omega))) (by exact arr_off rfl (by omega)))) ?_
        refine JM.early rfl rfl rfl rfl (fun fr => y_load1 hT rfl rfl rfl (Rd1.arr (i := (x)) (by (repeat (first | exact Pick.head | apply Pick.tail | apply Pick.app))) (by (first | assumption | omega | (simp only [Array.size_setIfInBounds]; omega))) (by exact arr_off rfl (by omega)))) ?_
        refine JM.quiet rfl rfl rfl rfl (fun m => y_indexAddr_slice hT rfl rfl rfl rfl rfl (by (first | omega | exact Nat.le_of_ble_eq_true rfl | decide | (simp; omega))) (by (first | omega | exact Nat.le_of_ble_eq_true rfl | decide | (simp; omega)))) ?_
        refine JM.loud rfl rfl (fun fr => l_storeArr (j := (x)) (u := d0[y]!) hT rfl rfl rfl rfl (fun _ => rfl) (by (repeat (first | exact Pick.head | apply Pick.tail | apply Pick.app))) (by (first | assumption | omega | (simp only [Array.size_setIfInBounds]; omega))) (by exact arr_off rfl (by omega)) (⟨[_], (by (repeat (first | exact Split.nil | exact Split.all | refine Split.cons Pick.head ?_))), ?_⟩))
        refine JM.quiet rfl rfl rfl rfl (fun m => y_indexAddr_slice hT rfl rfl rfl rfl rfl (by (first | omega | exact Nat.le_of_ble_eq_true rfl | decide | (simp; omega))) (by (first | omega | exact Nat.le_of_ble_eq_true rfl | decide | (simp; omega)))) ?_
        refine JM.loud rfl rfl (fun fr => l_storeArr (j := (y)) (u := d0[x]!) hT rfl rfl rfl rfl (fun _ => rfl) (by (repeat (first | exact Pick.head | apply Pick.tail | apply Pick.app))) (by (first | assumption | omega | (simp only [Array.size_setIfInBounds]; omega))) (by exact arr_off rfl (by omega)) (⟨[_], (by (repeat (first | exact Split.nil | exact Split.all | refine Split.cons Pick.head ?_))), ?_⟩))
        refine JM.nil (JE.then_normal (J.seq (J.region (JL.step (y_move rfl) rfl rfl rfl ?_))))
        refine JL.step (y_add rfl rfl (by (first | exact wrap_i64 (by omega) (by omega) | rfl))) rfl rfl rfl ?_
        refine JL.step (y_assign rfl) rfl rfl rfl ?_
        refine JL.nil (JE.then_normal (J.seq (J.region (JL.step (y_move rfl) rfl rfl rfl ?_))))
        refine JL.step (y_sub rfl rfl (by (first | exact wrap_i64 (by omega) (by omega) | rfl))) rfl rfl rfl ?_
        refine JL.step (y_assign rfl) rfl rfl rfl ?_
        refine JL.nil (JE.then_normal (J.seq (J.block ?_)))
        refine J.loop (α := Nat × Nat × Array Int) (fun s => a < s.1 ∧ s.1 ≤ b ∧ s.2.1 < b ∧ s.1 ≤ s.2.1 + 1 ∧ s.2.2.size = n ∧ Sort.partLoop Sort.ltInt a s.1 s.2.1 s.2.2 = Sort.partLoop Sort.ltInt a (x + 1) (y - 1) (Sort.swp d0 x y)) (fun s => [(0, .slice (some ⟨g, 0, none⟩) n c), (1, .int .i64 a), (10, .int .i64 s.1), (11, .int .i64 s.2.1)]) (fun s => arU g s.2.2 sp :: r) (fun s => s.2.1 + 1 - s.1) (x + 1, y - 1, Sort.swp d0 x y) ⟨by dsimp only; omega, by dsimp only; omega, by dsimp only; omega, by dsimp only; omega, by dsimp only; rw [swp_size]; exact hs0, rfl⟩ ⟨rfl, rfl, (congrArg (fun z => some (Value.int .i64 z)) (by first | omega | (dsimp only; omega))), (congrArg (fun z => some (Value.int .i64 z)) (by first | omega | (dsimp only; omega))), trivial⟩ (fun w h => h) ?_
        rintro ⟨i, j, d1⟩ ⟨hi1, hi2, hj1, hij, hs1, he1⟩
        try dsimp only at hi1 hi2 hj1 hij hs1 he1 ⊢
        rw [Sort.partLoop_eq] at he1
        refine J.block (J.seq (J.block ?_))
        refine J.loop (α := Nat) (fun u => i ≤ u ∧ u ≤ j + 1 ∧ Sort.scanUp (fun x => Sort.ltInt x d1[a]!) d1 j u = Sort.scanUp (fun x => Sort.ltInt x d1[a]!) d1 j i) (fun u => [(0, .slice (some ⟨g, 0, none⟩) n c), (1, .int .i64 a), (10, .int .i64 u), (11, .int .i64 j)]) (fun u => arU g d1 sp :: r) (fun u => j + 1 - u) i ⟨Nat.le_refl _, hij, rfl⟩ ⟨rfl, rfl, rfl, rfl, trivial⟩ (fun w h => h) ?_
        rintro u ⟨hu1, hu2, hu3⟩
        try dsimp only at hu1 hu2 hu3 ⊢
        refine J.seq (J.seq ?_)
        by_cases hg : u ≤ j
        all_goals
         refine J.draw _ _ [(0, .q), (1, .q), (2, .q), (3, .q), (4, .q), (5, .q), (6, .q), (7, .q), (8, .q), (9, .q), (10, .q), (11, .q), (12, .q), (13, .q)] mixed (by kernel_rfl) (Split.nil) ?_
         refine JM.quiet rfl rfl rfl rfl (fun m => y_move rfl) (JM.quiet rfl rfl rfl rfl (fun m => y_move rfl) ?_)
         first | refine JM.quiet rfl rfl rfl rfl (fun m => y_leqB rfl rfl (decide_eq_true (by omega))) ?_ | refine JM.quiet rfl rfl rfl rfl (fun m => y_leqB rfl rfl (decide_eq_false (by omega))) ?_
         refine JM.quiet rfl rfl rfl rfl (fun m => y_move rfl) ?_
         all_goals (first | refine JM.gskip rfl rfl rfl rfl rfl rfl rfl ?_ | refine JM.gskipU rfl rfl rfl rfl rfl rfl ?_ | refine JM.gquiet rfl rfl rfl rfl rfl rfl (fun m => y_move rfl) ?_)
         all_goals (first | refine JM.gskip rfl rfl rfl rfl rfl rfl rfl ?_ | refine JM.gskipU rfl rfl rfl rfl rfl rfl ?_ | refine JM.gquiet rfl rfl rfl rfl rfl rfl (fun m => y_move rfl) ?_)
         all_goals (first | refine JM.gskip rfl rfl rfl rfl rfl rfl rfl ?_ | refine JM.gskipU rfl rfl rfl rfl rfl rfl ?_ | refine JM.gquiet rfl rfl rfl rfl rfl rfl (fun m => y_indexAddr_slice hT rfl rfl rfl rfl rfl (by (first | omega | exact Nat.le_of_ble_eq_true rfl | decide | (simp; omega))) (by (first | omega | exact Nat.le_of_ble_eq_true rfl | decide | (simp; omega)))) ?_)
         all_goals (first | refine JM.gskip rfl rfl rfl rfl rfl rfl rfl ?_ | refine JM.gskipU rfl rfl rfl rfl rfl rfl ?_ | refine JM.gquiet rfl rfl rfl rfl rfl rfl (fun m => y_load1 hT rfl rfl rfl (Rd1.arr (i := (u)) (Pick.app m (by (repeat (first | exact Pick.head | apply Pick.tail | apply Pick.app)))) (by (first | assumption | omega | (simp only [Array.size_setIfInBounds]; omega))) (by exact arr_off rfl (by omega)))) ?_)
         all_goals (first | refine JM.gskip rfl rfl rfl rfl rfl rfl rfl ?_ | refine JM.gskipU rfl rfl rfl rfl rfl rfl ?_ | refine JM.gquiet rfl rfl rfl rfl rfl rfl (fun m => y_move rfl) ?_)
         all_goals (first | refine JM.gskip rfl rfl rfl rfl rfl rfl rfl ?_ | refine JM.gskipU rfl rfl rfl rfl rfl rfl ?_ | refine JM.gquiet rfl rfl rfl rfl rfl rfl (fun m => y_move rfl) ?_)
         all_goals (first | refine JM.gskip rfl rfl rfl rfl rfl rfl rfl ?_ | refine JM.gskipU rfl rfl rfl rfl rfl rfl ?_ | refine JM.gquiet rfl rfl rfl rfl rfl rfl (fun m => y_indexAddr_slice hT rfl rfl rfl rfl rfl (by (first | omega | exact Nat.le_of_ble_eq_true rfl | decide | (simp; omega))) (by (first | omega | exact Nat.le_of_ble_eq_true rfl | decide | (simp; omega)))) ?_)
         all_goals (first | refine JM.gskip rfl rfl rfl rfl rfl rfl rfl ?_ | refine JM.gskipU rfl rfl rfl rfl rfl rfl ?_ | refine JM.gquiet rfl rfl rfl rfl rfl rfl (fun m => y_load1 hT rfl rfl rfl (Rd1.arr (i := (a)) (Pick.app m (by (repeat (first | exact Pick.head | apply Pick.tail | apply Pick.app)))) (by (first | assumption | omega | (simp only [Array.size_setIfInBounds]; omega))) (by exact arr_off rfl (by omega)))) ?_)
         all_goals (first | refine JM.gskip rfl rfl rfl rfl rfl rfl rfl ?_ | refine JM.gskipU rfl rfl rfl rfl rfl rfl ?_ | refine JM.gquiet rfl rfl rfl rfl rfl rfl (fun m => y_callF e103 rfl (lessU E _ _ _)) ?_)
         all_goals refine JM.quiet rfl rfl rfl rfl (fun m => y_pick rfl rfl rfl) ?_
         all_goals refine JM.nil ?_
        all_goals refine JE.then_normal ?_
        all_goals
         first | apply J.cond_dec rfl | apply J.cond rfl
         case' ht =>
          intro h
          try (first | (exfalso; omega) | (cases h; done) | (exfalso; simp at h; done) | subst h)
          all_goals
           rw [scanUp_go (p := fun x => Sort.ltInt x d1[a]!) (by omega) h] at hu3
           refine J.skip ?_
         case' hf =>
          intro h
          try (first | (exfalso; omega) | (cases h; done) | (exfalso; simp at h; done) | subst h)
          all_goals
           have st3 : j < u ∨ Sort.ltInt d1[u]! d1[a]! = false := by first | exact .inl (by omega) | exact .inr h
           rw [scanUp_stop (p := fun x => Sort.ltInt x d1[a]!) (by first | exact .inl (by omega) | exact .inr h)] at hu3
           rw [← hu3] at he1
           refine J.exit (JE.then_exit (JE.then_exit (JE.block_exit (JE.then_normal (J.seq (J.block ?_))))))
           refine J.loop (α := Nat) (fun w => w ≤ j ∧ u ≤ w + 1 ∧ Sort.scanDown (fun x => !Sort.ltInt x d1[a]!) d1 u w = Sort.scanDown (fun x => !Sort.ltInt x d1[a]!) d1 u j) (fun w => [(0, .slice (some ⟨g, 0, none⟩) n c), (1, .int .i64 a), (10, .int .i64 u), (11, .int .i64 w)]) (fun w => arU g d1 sp :: r) (fun w => w) j ⟨Nat.le_refl _, hu2, rfl⟩ ⟨rfl, rfl, rfl, rfl, trivial⟩ (fun w h => h) ?_
           rintro v ⟨hv1, hv2, hv3⟩
           try dsimp only at hv1 hv2 hv3 ⊢
           refine J.seq (J.seq ?_)
           by_cases hg : u ≤ v
           all_goals
            refine J.draw _ _ [(0, .q), (1, .q), (2, .q), (3, .q), (4, .q), (5, .q), (6, .q), (7, .q), (8, .q), (9, .q), (10, .q), (11, .q), (12, .q), (13, .q), (14, .q)] mixed (by kernel_rfl) (Split.nil) ?_
            refine JM.quiet rfl rfl rfl rfl (fun m => y_move rfl) (JM.quiet rfl rfl rfl rfl (fun m => y_move rfl) ?_)
            first | refine JM.quiet rfl rfl rfl rfl (fun m => y_leqB rfl rfl (decide_eq_true (by omega))) ?_ | refine JM.quiet rfl rfl rfl rfl (fun m => y_leqB rfl rfl (decide_eq_false (by omega))) ?_
            refine JM.quiet rfl rfl rfl rfl (fun m => y_move rfl) ?_
            all_goals (first | refine JM.gskip rfl rfl rfl rfl rfl rfl rfl ?_ | refine JM.gskipU rfl rfl rfl rfl rfl rfl ?_ | refine JM.gquiet rfl rfl rfl rfl rfl rfl (fun m => y_move rfl) ?_)
            all_goals (first | refine JM.gskip rfl rfl rfl rfl rfl rfl rfl ?_ | refine JM.gskipU rfl rfl rfl rfl rfl rfl ?_ | refine JM.gquiet rfl rfl rfl rfl rfl rfl (fun m => y_move rfl) ?_)
            all_goals (first | refine JM.gskip rfl rfl rfl rfl rfl rfl rfl ?_ | refine JM.gskipU rfl rfl rfl rfl rfl rfl ?_ | refine JM.gquiet rfl rfl rfl rfl rfl rfl (fun m => y_indexAddr_slice hT rfl rfl rfl rfl rfl (by (first | omega | exact Nat.le_of_ble_eq_true rfl | decide | (simp; omega))) (by (first | omega | exact Nat.le_of_ble_eq_true rfl | decide | (simp; omega)))) ?_)
            all_goals (first | refine JM.gskip rfl rfl rfl rfl rfl rfl rfl ?_ | refine JM.gskipU rfl rfl rfl rfl rfl rfl ?_ | refine JM.gquiet rfl rfl rfl rfl rfl rfl (fun m => y_load1 hT rfl rfl rfl (Rd1.arr (i := (v)) (Pick.app m (by (repeat (first | exact Pick.head | apply Pick.tail | apply Pick.app)))) (by (first | assumption | omega | (simp only [Array.size_setIfInBounds]; omega))) (by exact arr_off rfl (by omega)))) ?_)
            all_goals (first | refine JM.gskip rfl rfl rfl rfl rfl rfl rfl ?_ | refine JM.gskipU rfl rfl rfl rfl rfl rfl ?_ | refine JM.gquiet rfl rfl rfl rfl rfl rfl (fun m => y_move rfl) ?_)
            all_goals (first | refine JM.gskip rfl rfl rfl rfl rfl rfl rfl ?_ | refine JM.gskipU rfl rfl rfl rfl rfl rfl ?_ | refine JM.gquiet rfl rfl rfl rfl rfl rfl (fun m => y_move rfl) ?_)
            all_goals (first | refine JM.gskip rfl rfl rfl rfl rfl rfl rfl ?_ | refine JM.gskipU rfl rfl rfl rfl rfl rfl ?_ | refine JM.gquiet rfl rfl rfl rfl rfl rfl (fun m => y_indexAddr_slice hT rfl rfl rfl rfl rfl (by (first | omega | exact Nat.le_of_ble_eq_true rfl | decide | (simp; omega))) (by (first | omega | exact Nat.le_of_ble_eq_true rfl | decide | (simp; omega)))) ?_)
            all_goals (first | refine JM.gskip rfl rfl rfl rfl rfl rfl rfl ?_ | refine JM.gskipU rfl rfl rfl rfl rfl rfl ?_ | refine JM.gquiet rfl rfl rfl rfl rfl rfl (fun m => y_load1 hT rfl rfl rfl (Rd1.arr (i := (a)) (Pick.app m (by (repeat (first | exact Pick.head | apply Pick.tail | apply Pick.app)))) (by (first | assumption | omega | (simp only [Array.size_setIfInBounds]; omega))) (by exact arr_off rfl (by omega)))) ?_)
            all_goals (first | refine JM.gskip rfl rfl rfl rfl rfl rfl rfl ?_ | refine JM.gskipU rfl rfl rfl rfl rfl rfl ?_ | refine JM.gquiet rfl rfl rfl rfl rfl rfl (fun m => y_callF e103 rfl (lessU E _ _ _)) ?_)
            all_goals (first | refine JM.gskip rfl rfl rfl rfl rfl rfl rfl ?_ | refine JM.gskipU rfl rfl rfl rfl rfl rfl ?_ | refine JM.gquiet rfl rfl rfl rfl rfl rfl (fun m => y_not rfl) ?_)
            all_goals refine JM.quiet rfl rfl rfl rfl (fun m => y_pick rfl rfl rfl) ?_
            all_goals refine JM.nil ?_
           all_goals refine JE.then_normal ?_
           all_goals
            first | apply J.cond_dec rfl | apply J.cond rfl
            case' ht =>
             intro h
             try (first | (exfalso; omega) | (cases h; done) | (exfalso; simp at h; done) | subst h)
             all_goals
              rw [scanDown_go (p := fun x => !Sort.ltInt x d1[a]!) (by omega) (by omega) h] at hv3
              refine J.skip ?_
            case' hf =>
             intro h
             try (first | (exfalso; omega) | (cases h; done) | (exfalso; simp at h; done) | subst h)
             all_goals
              have st4 : v < u ∨ Sort.ltInt d1[v]! d1[a]! = true := by first | exact .inl (by omega) | exact .inr (by simpa using h)
              rw [scanDown_stop (p := fun x => !Sort.ltInt x d1[a]!) (by first | exact .inl (by omega) | exact .inr h)] at hv3
              rw [← hv3] at he1
              refine J.exit (JE.then_exit (JE.then_exit (JE.block_exit (JE.then_normal (J.seq (J.seq (J.region (JL.step (y_move rfl) rfl rfl rfl (JL.step (y_move rfl) rfl rfl rfl (JL.step (y_gtr rfl rfl) rfl rfl rfl ?_))))))))))
              refine JL.nil (JE.then_normal ?_)
              first | apply J.cond_dec rfl | apply J.cond rfl
              case' ht =>
               intro h
               try (first | (exfalso; omega) | (cases h; done) | (exfalso; simp at h; done) | subst h)
               all_goals
                rw [if_pos (by omega)] at he1
                rw [← he1] at hres
                refine J.exit (JE.then_exit ?_)
                refine JE.block_past rfl ?_
                refine JE.then_exit (JE.block_exit (JE.then_normal (J.seq ?_)))
                refine J.draw _ _ [(0, .q), (1, .q), (2, .q), (3, .q), (4, .q), (5, .q), (6, .q), (8, .q), (9, .q), (10, .q), (7, .e), (11, .e), (12, .q), (13, .l), (14, .q), (15, .l)] mixed (by kernel_rfl) (Split.cons (Pick.head) (Split.nil)) ?_
                refine JM.quiet rfl rfl rfl rfl (fun m => y_move rfl) (JM.quiet rfl rfl rfl rfl (fun m => y_move rfl) (JM.quiet rfl rfl rfl rfl (fun m => y_move rfl) (JM.quiet rfl rfl rfl rfl (fun m => y_move rfl) (JM.quiet rfl rfl rfl rfl (fun m => y_move rfl) (JM.quiet rfl rfl rfl rfl (fun m => y_move rfl) ?_)))))
                refine JM.quiet rfl rfl rfl rfl (fun m => y_indexAddr_slice hT rfl rfl rfl rfl rfl (by (first | omega | exact Nat.le_of_ble_eq_true rfl | decide | (simp; omega))) (by (first | omega | exact Nat.le_of_ble_eq_true rfl | decide | (simp; omega)))) ?_
                refine JM.quiet rfl rfl rfl rfl (fun m => y_move rfl) (JM.quiet rfl rfl rfl rfl (fun m => y_move rfl) ?_)
                refine JM.quiet rfl rfl rfl rfl (fun m => y_indexAddr_slice hT rfl rfl rfl rfl rfl (by (first | omega | exact Nat.le_of_ble_eq_true rfl | decide | (simp; omega))) (by (first | omega | exact Nat.le_of_ble_eq_true rfl | decide | (simp; omega)))) ?_
                refine JM.early rfl rfl rfl rfl (fun fr => y_load1 hT rfl rfl rfl (Rd1.arr (i := (a)) (by (repeat (first | exact Pick.head | apply Pick.tail | apply Pick.app))) (by (first | assumption | omega | (simp only [Array.size_setIfInBounds]; omega))) (by exact arr_off rfl (by omega)))) ?_
                refine JM.early rfl rfl rfl rfl (fun fr => y_load1 hT rfl rfl rfl (Rd1.arr (i := (v)) (by (repeat (first | exact Pick.head | apply Pick.tail | apply Pick.app))) (by (first | assumption | omega | (simp only [Array.size_setIfInBounds]; omega))) (by exact arr_off rfl (by omega)))) ?_
                refine JM.quiet rfl rfl rfl rfl (fun m => y_indexAddr_slice hT rfl rfl rfl rfl rfl (by (first | omega | exact Nat.le_of_ble_eq_true rfl | decide | (simp; omega))) (by (first | omega | exact Nat.le_of_ble_eq_true rfl | decide | (simp; omega)))) ?_
                refine JM.loud rfl rfl (fun fr => l_storeArr (j := (v)) (u := d1[a]!) hT rfl rfl rfl rfl (fun _ => rfl) (by (repeat (first | exact Pick.head | apply Pick.tail | apply Pick.app))) (by (first | assumption | omega | (simp only [Array.size_setIfInBounds]; omega))) (by exact arr_off rfl (by omega)) (⟨[_], (by (repeat (first | exact Split.nil | exact Split.all | refine Split.cons Pick.head ?_))), ?_⟩))
                refine JM.quiet rfl rfl rfl rfl (fun m => y_indexAddr_slice hT rfl rfl rfl rfl rfl (by (first | omega | exact Nat.le_of_ble_eq_true rfl | decide | (simp; omega))) (by (first | omega | exact Nat.le_of_ble_eq_true rfl | decide | (simp; omega)))) ?_
                refine JM.loud rfl rfl (fun fr => l_storeArr (j := (a)) (u := d1[v]!) hT rfl rfl rfl rfl (fun _ => rfl) (by (repeat (first | exact Pick.head | apply Pick.tail | apply Pick.app))) (by (first | assumption | omega | (simp only [Array.size_setIfInBounds]; omega))) (by exact arr_off rfl (by omega)) (⟨[_], (by (repeat (first | exact Split.nil | exact Split.all | refine Split.cons Pick.head ?_))), ?_⟩))
                refine JM.nil (JE.then_normal (J.seq (J.region (JL.step (y_move rfl) rfl rfl rfl (JL.step (y_assign rfl) rfl rfl rfl (JL.step (y_assign rfl) rfl rfl rfl ?_))))))
                refine JL.nil (JE.then_normal (J.ret ?_))
                refine JE.ret2 (.inl rfl) rfl rfl (by (first | exact RV.tmp rfl | exact RV.cell1 hT rfl rfl rfl (by (exact Rd1.row (by (repeat (first | exact Pick.head | apply Pick.tail | apply Pick.app))) (by rfl))) | exact RV.cellN hT rfl rfl rfl (by (first | exact RdN.rowAll (by (repeat (first | exact Pick.head | apply Pick.tail | apply Pick.app))) | exact RdN.own (by (repeat (first | exact Pick.head | apply Pick.tail | apply Pick.app))))) (by (first | rfl | assumption | (simp; done) | omega)))) (by (first | exact RV.tmp rfl | exact RV.cell1 hT rfl rfl rfl (by (exact Rd1.row (by (repeat (first | exact Pick.head | apply Pick.tail | apply Pick.app))) (by rfl))) | exact RV.cellN hT rfl rfl rfl (by (first | exact RdN.rowAll (by (repeat (first | exact Pick.head | apply Pick.tail | apply Pick.app))) | exact RdN.own (by (repeat (first | exact Pick.head | apply Pick.tail | apply Pick.app))))) (by (first | rfl | assumption | (simp; done) | omega)))) ?_
                exact ⟨by rw [← hres], fun w h => by rw [← hres]; exact h⟩
              case' hf =>
               intro h
               try (first | (exfalso; omega) | (cases h; done) | (exfalso; simp at h; done) | subst h)
               all_goals
                rw [if_neg (by omega)] at he1
                have hne : ¬ u = v := by
                 rintro rfl
                 rcases st3 with q | q
                 · omega
                 · rcases st4 with q2 | q2
                   · omega
                   · rw [q] at q2; cases q2
                refine J.skip ?_
              all_goals refine JE.then_normal ?_
              all_goals
               refine J.seq ?_
               refine J.draw _ _ [(0, .q), (1, .q), (2, .q), (3, .q), (4, .q), (5, .q), (6, .q), (8, .q), (9, .q), (10, .q), (7, .e), (11, .e), (12, .q), (13, .l), (14, .q), (15, .l)] mixed (by kernel_rfl) (Split.cons (Pick.head) (Split.nil)) ?_
               refine JM.quiet rfl rfl rfl rfl (fun m => y_move rfl) (JM.quiet rfl rfl rfl rfl (fun m => y_move rfl) (JM.quiet rfl rfl rfl rfl (fun m => y_move rfl) (JM.quiet rfl rfl rfl rfl (fun m => y_move rfl) (JM.quiet rfl rfl rfl rfl (fun m => y_move rfl) (JM.quiet rfl rfl rfl rfl (fun m => y_move rfl) ?_)))))
               refine JM.quiet rfl rfl rfl rfl (fun m => y_indexAddr_slice hT rfl rfl rfl rfl rfl (by (first | omega | exact Nat.le_of_ble_eq_true rfl | decide | (simp; omega))) (by (first | omega | exact Nat.le_of_ble_eq_true rfl | decide | (simp; omega)))) ?_
               refine JM.quiet rfl rfl rfl rfl (fun m => y_move rfl) (JM.quiet rfl rfl rfl rfl (fun m => y_move rfl) ?_)
               refine JM.quiet rfl rfl rfl rfl (fun m => y_indexAddr_slice hT rfl rfl rfl rfl rfl (by (first | omega | exact Nat.le_of_ble_eq_true rfl | decide | (simp; omega))) (by (first | omega | exact Nat.le_of_ble_eq_true rfl | decide | (simp; omega)))) ?_
               refine JM.early rfl rfl rfl rfl (fun fr => y_load1 hT rfl rfl rfl (Rd1.arr (i := (v)) (by (repeat (first | exact Pick.head | apply Pick.tail | apply Pick.app))) (by (first | assumption | omega | (simp only [Array.size_setIfInBounds]; omega))) (by exact arr_off rfl (by omega)))) ?_
               refine JM.early rfl rfl rfl rfl (fun fr => y_load1 hT rfl rfl rfl (Rd1.arr (i := (u)) (by (repeat (first | exact Pick.head | apply Pick.tail | apply Pick.app))) (by (first | assumption | omega | (simp only [Array.size_setIfInBounds]; omega))) (by exact arr_off rfl (by omega)))) ?_
               refine JM.quiet rfl rfl rfl rfl (fun m => y_indexAddr_slice hT rfl rfl rfl rfl rfl (by (first | omega | exact Nat.le_of_ble_eq_true rfl | decide | (simp; omega))) (by (first | omega | exact Nat.le_of_ble_eq_true rfl | decide | (simp; omega)))) ?_
               refine JM.loud rfl rfl (fun fr => l_storeArr (j := (u)) (u := d1[v]!) hT rfl rfl rfl rfl (fun _ => rfl) (by (repeat (first | exact Pick.head | apply Pick.tail | apply Pick.app))) (by (first | assumption | omega | (simp only [Array.size_setIfInBounds]; omega))) (by exact arr_off rfl (by omega)) (⟨[_], (by (repeat (first | exact Split.nil | exact Split.all | refine Split.cons Pick.head ?_))), ?_⟩))
               refine JM.quiet rfl rfl rfl rfl (fun m => y_indexAddr_slice hT rfl rfl rfl rfl rfl (by (first | omega | exact Nat.le_of_ble_eq_true rfl | decide | (simp; omega))) (by (first | omega | exact Nat.le_of_ble_eq_true rfl | decide | (simp; omega)))) ?_
               refine JM.loud rfl rfl (fun fr => l_storeArr (j := (v)) (u := d1[u]!) hT rfl rfl rfl rfl (fun _ => rfl) (by (repeat (first | exact Pick.head | apply Pick.tail | apply Pick.app))) (by (first | assumption | omega | (simp only [Array.size_setIfInBounds]; omega))) (by exact arr_off rfl (by omega)) (⟨[_], (by (repeat (first | exact Split.nil | exact Split.all | refine Split.cons Pick.head ?_))), ?_⟩))
               refine JM.nil (JE.then_normal (J.seq (J.region (JL.step (y_move rfl) rfl rfl rfl ?_))))
               refine JL.step (y_add rfl rfl (by (first | exact wrap_i64 (by omega) (by omega) | rfl))) rfl rfl rfl ?_
               refine JL.step (y_assign rfl) rfl rfl rfl ?_
               refine JL.nil (JE.then_normal (J.region (JL.step (y_move rfl) rfl rfl rfl ?_)))
               refine JL.step (y_sub rfl rfl (by (first | exact wrap_i64 (by omega) (by omega) | rfl))) rfl rfl rfl ?_
               refine JL.step (y_assign rfl) rfl rfl rfl ?_
               refine JL.nil ?_
              all_goals
               refine JE.block_normal ?_
               exact JE.round (s := (i, j, d1)) (u + 1, v - 1, Sort.swp d1 u v) ⟨by dsimp only; omega, by dsimp only; omega, by dsimp only; omega, by dsimp only; omega, by dsimp only; rw [swp_size]; exact hs1, he1⟩ ⟨rfl, rfl, (congrArg (fun z => some (Value.int .i64 z)) (by first | omega | (dsimp only; omega))), (congrArg (fun z => some (Value.int .i64 z)) (by first | omega | (dsimp only; omega))), trivial⟩ (fun w h => h) (by dsimp only; omega)
           all_goals refine JE.then_normal ?_
           all_goals
            refine J.block (J.region (JL.step (y_move rfl) rfl rfl rfl ?_))
            refine JL.step (y_sub rfl rfl (by (first | exact wrap_i64 (by omega) (by omega) | rfl))) rfl rfl rfl ?_
            refine JL.step (y_assign rfl) rfl rfl rfl ?_
            refine JL.nil (JE.block_normal ?_)
           all_goals
            exact JE.round (s := v) (v - 1) ⟨by omega, by omega, hv3⟩ ⟨rfl, rfl, rfl, (congrArg (fun z => some (Value.int .i64 z)) (by first | omega | (dsimp only; omega))), trivial⟩ (fun w h => h) (by omega)
        all_goals refine JE.then_normal ?_
        all_goals
         refine J.block (J.region (JL.step (y_move rfl) rfl rfl rfl ?_))
         refine JL.step (y_add rfl rfl (by (first | exact wrap_i64 (by omega) (by omega) | rfl))) rfl rfl rfl ?_
         refine JL.step (y_assign rfl) rfl rfl rfl ?_
         refine JL.nil (JE.block_normal ?_)
        all_goals
         exact JE.round (s := u) (u + 1) ⟨by omega, by omega, hu3⟩ ⟨rfl, rfl, (congrArg (fun z => some (Value.int .i64 z)) (by first | omega | (dsimp only; omega))), rfl, trivial⟩ (fun w h => h) (by omega)
    all_goals refine JE.then_normal ?_
    all_goals
     refine J.block (J.region (JL.step (y_move rfl) rfl rfl rfl ?_))
     refine JL.step (y_sub rfl rfl (by (first | exact wrap_i64 (by omega) (by omega) | rfl))) rfl rfl rfl ?_
     refine JL.step (y_assign rfl) rfl rfl rfl ?_
     refine JL.nil (JE.block_normal ?_)
    all_goals
     exact JE.round (s := y) (y - 1) ⟨by omega, by omega, hy3⟩ ⟨rfl, rfl, rfl, (congrArg (fun z => some (Value.int .i64 z)) (by first | omega | (dsimp only; omega))), trivial⟩ (fun w h => h) (by omega)
 all_goals refine JE.then_normal ?_
 all_goals
  refine J.block (J.region (JL.step (y_move rfl) rfl rfl rfl ?_))
  refine JL.step (y_add rfl rfl (by (first | exact wrap_i64 (by omega) (by omega) | rfl))) rfl rfl rfl ?_
  refine JL.step (y_assign rfl) rfl rfl rfl ?_
  refine JL.nil (JE.block_normal ?_)
 all_goals
  exact JE.round (s := x) (x + 1) ⟨by omega, by omega, hx3⟩ ⟨rfl, rfl, (congrArg (fun z => some (Value.int .i64 z)) (by first | omega | (dsimp only; omega))), rfl, trivial⟩ (fun w h => h) (by omega)
end
end
section
open Go Go.SL
section
attribute [local irreducible] J JL JE JM LS Y Fc RV Code.wp wpList Code.wpIn wpListIn
attribute [local irreducible] Yc
attribute [local irreducible] Sort.ltInt
variable (E : World)
theorem pinsU (g c n a b : Nat) (ia ib : Int) (d : Array Int) (sp : List Value) (r : List HProp) (ea : ia = a) (eb : ib = b) (hn : d.size = n) (hab : a < b) (hb : b ≤ n) (h63 : n < 4611686018427387904) :
 Fc prog E 102 [.slice (some ⟨g, 0, none⟩) n c, .int .i64 ia, .int .i64 ib].toArray (arU g d sp :: r) (fun v l' => v = .bool (Sort.partialInsertionSort Sort.ltInt d a b).2 ∧ l' = arU g (Sort.partialInsertionSort Sort.ltInt d a b).1 sp :: r) := by
 refine Fc.eqs ?_
 subst ea eb
 generalize hres : Sort.partialInsertionSort Sort.ltInt d a b = res
 have hres : Sort.partialIns Sort.ltInt a b 5 (a + 1) d = res := hres
 refine Fc.of_body (c := ?codeC) Tryd.func102 ?hb Tryd.ntmps102 ?hl ?_
 case hb => exact rfl
 case hl => exact rfl
 refine J.seq (J.region (JL.step (y_assign rfl) rfl rfl rfl ?_))
 refine JL.nil (JE.then_normal (J.seq (J.region (JL.step (y_move rfl) rfl rfl rfl ?_))))
 refine JL.step (y_add rfl rfl (by (first | exact wrap_i64 (by omega) (by omega) | rfl))) rfl rfl rfl ?_
 refine JL.step (y_assign rfl) rfl rfl rfl ?_
 refine JL.nil (JE.then_normal (J.seq (J.seq (J.region (JL.step (y_assign rfl) rfl rfl rfl ?_)))))
 refine JL.nil (JE.then_normal (J.block ?_))
 refine J.loop (α := Nat × Nat × Array Int) (fun s => s.1 ≤ 5 ∧ a + 1 ≤ s.2.1 ∧ s.2.1 ≤ b ∧ s.2.2.size = n ∧ Sort.partialIns Sort.ltInt a b s.1 s.2.1 s.2.2 = res) (fun s => [(0, .slice (some ⟨g, 0, none⟩) n c), (1, .int .i64 a), (2, .int .i64 b), (7, .int .i64 s.2.1), (8, .int .i64 (5 - (s.1 : Int)))]) (fun s => arU g s.2.2 sp :: r) (fun s => s.1) (5, a + 1, d) ⟨Nat.le_refl _, Nat.le_refl _, by dsimp only; omega, hn, hres⟩ ⟨rfl, rfl, rfl, (congrArg (fun z => some (Value.int .i64 z)) (by first | omega | (dsimp only; omega))), rfl, trivial⟩ (fun w h => h) ?_
 rintro ⟨s, i, d1⟩ ⟨hs5, hi1, hi2, hs1, he1⟩
 try dsimp only at hs5 hi1 hi2 hs1 he1 ⊢
 refine J.seq (J.seq (J.region (JL.step (y_move rfl) rfl rfl rfl (JL.step (y_lss rfl rfl) rfl rfl rfl ?_))))
 refine JL.nil (JE.then_normal ?_)
 first | apply J.cond_dec rfl | apply J.cond rfl
 case' ht =>
  intro h
  try (first | (exfalso; omega) | (cases h; done) | (exfalso; simp at h; done) | subst h)
  all_goals
   obtain ⟨k, hk⟩ : ∃ k, s = k + 1 := ⟨s - 1, by omega⟩
   rw [hk, Sort.partialIns_succ] at he1
   refine J.skip ?_
 case' hf =>
  intro h
  try (first | (exfalso; omega) | (cases h; done) | (exfalso; simp at h; done) | subst h)
  all_goals
   obtain rfl : s = 0 := by omega
   have he1 : (d1, false) = res := he1
   refine J.exit (JE.then_exit (JE.then_exit (JE.block_exit (JE.then_normal (J.seq (J.region (JL.step (y_assign rfl) rfl rfl rfl ?_)))))))
   refine JL.nil (JE.then_normal (J.ret ?_))
   refine JE.ret1 (.inl rfl) rfl rfl (by (first | exact RV.tmp rfl | exact RV.cell1 hT rfl rfl rfl (by (exact Rd1.row (by (repeat (first | exact Pick.head | apply Pick.tail | apply Pick.app))) (by rfl))) | exact RV.cellN hT rfl rfl rfl (by (first | exact RdN.rowAll (by (repeat (first | exact Pick.head | apply Pick.tail | apply Pick.app))) | exact RdN.own (by (repeat (first | exact Pick.head | apply Pick.tail | apply Pick.app))))) (by (first | rfl | assumption | (simp; done) | omega)))) ?_
   exact ⟨by rw [← he1], fun w h => by rw [← he1]; exact h⟩
 all_goals refine JE.then_normal ?_
 all_goals
  refine J.seqK (α := Nat × Array Int) (fun q => a + 1 ≤ q.1 ∧ q.1 ≤ b ∧ q.2.size = n ∧ ∃ k, s = k + 1 ∧ Sort.partialIns Sort.ltInt a b k q.1 q.2 = res) (fun q => [(0, .slice (some ⟨g, 0, none⟩) n c), (1, .int .i64 a), (2, .int .i64 b), (7, .int .i64 q.1), (8, .int .i64 (5 - (s : Int)))]) (fun q => arU g q.2 sp :: r) ?hj4 (fun hk4 => ?hf4)
  case hf4 =>
   refine J.block (J.seq (J.block ?_))
   refine J.loop (α := Nat) (fun x => i ≤ x ∧ x ≤ b ∧ Sort.scanSorted Sort.ltInt d1 b x = Sort.scanSorted Sort.ltInt d1 b i) (fun x => [(0, .slice (some ⟨g, 0, none⟩) n c), (1, .int .i64 a), (2, .int .i64 b), (7, .int .i64 x), (8, .int .i64 (5 - (s : Int)))]) (fun x => arU g d1 sp :: r) (fun x => b - x) i ⟨Nat.le_refl _, hi2, rfl⟩ ⟨rfl, rfl, rfl, rfl, rfl, trivial⟩ (fun w h => h) ?_
   rintro x ⟨hx1, hx2, hx3⟩
   try dsimp only at hx1 hx2 hx3 ⊢
   refine J.seq (J.seq ?_)
   by_cases hg : x < b
   all_goals
    refine J.draw _ _ [(0, .q), (1, .q), (2, .q), (3, .q), (4, .q), (5, .q), (6, .q), (7, .q), (8, .q), (9, .q), (10, .q), (11, .q), (12, .q), (13, .q), (14, .q), (15, .q)] mixed (by kernel_rfl) (Split.nil) ?_
    refine JM.quiet rfl rfl rfl rfl (fun m => y_move rfl) (JM.quiet rfl rfl rfl rfl (fun m => y_move rfl) ?_)
    first | refine JM.quiet rfl rfl rfl rfl (fun m => y_lssB rfl rfl (decide_eq_true (by omega))) ?_ | refine JM.quiet rfl rfl rfl rfl (fun m => y_lssB rfl rfl (decide_eq_false (by omega))) ?_
    refine JM.quiet rfl rfl rfl rfl (fun m => y_move rfl) ?_
    all_goals (first | refine JM.gskip rfl rfl rfl rfl rfl rfl rfl ?_ | refine JM.gskipU rfl rfl rfl rfl rfl rfl ?_ | refine JM.gquiet rfl rfl rfl rfl rfl rfl (fun m => y_move rfl) ?_)
    all_goals (first | refine JM.gskip rfl rfl rfl rfl rfl rfl rfl ?_ | refine JM.gskipU rfl rfl rfl rfl rfl rfl ?_ | refine JM.gquiet rfl rfl rfl rfl rfl rfl (fun m => y_move rfl) ?_)
    all_goals (first | refine JM.gskip rfl rfl rfl rfl rfl rfl rfl ?_ | refine JM.gskipU rfl rfl rfl rfl rfl rfl ?_ | refine JM.gquiet rfl rfl rfl rfl rfl rfl (fun m => y_indexAddr_slice hT rfl rfl rfl rfl rfl (by (first | omega | exact Nat.le_of_ble_eq_true rfl | decide | (simp; omega))) (by (first | omega | exact Nat.le_of_ble_eq_true rfl | decide | (simp; omega)))) ?_)
    all_goals (first | refine JM.gskip rfl rfl rfl rfl rfl rfl rfl ?_ | refine JM.gskipU rfl rfl rfl rfl rfl rfl ?_ | refine JM.gquiet rfl rfl rfl rfl rfl rfl (fun m => y_load1 hT rfl rfl rfl (Rd1.arr (i := (x)) (Pick.app m (by (repeat (first | exact Pick.head | apply Pick.tail | apply Pick.app)))) (by (first | assumption | omega | (simp only [Array.size_setIfInBounds]; omega))) (by exact arr_off rfl (by omega)))) ?_)
    all_goals (first | refine JM.gskip rfl rfl rfl rfl rfl rfl rfl ?_ | refine JM.gskipU rfl rfl rfl rfl rfl rfl ?_ | refine JM.gquiet rfl rfl rfl rfl rfl rfl (fun m => y_move rfl) ?_)
    all_goals (first | refine JM.gskip rfl rfl rfl rfl rfl rfl rfl ?_ | refine JM.gskipU rfl rfl rfl rfl rfl rfl ?_ | refine JM.gquiet rfl rfl rfl rfl rfl rfl (fun m => y_move rfl) ?_)
    all_goals (first | refine JM.gskip rfl rfl rfl rfl rfl rfl rfl ?_ | refine JM.gskipU rfl rfl rfl rfl rfl rfl ?_ | refine JM.gquiet rfl rfl rfl rfl rfl rfl (fun m => y_sub rfl rfl (by (first | exact wrap_i64 (by omega) (by omega) | rfl))) ?_)
    all_goals (first | refine JM.gskip rfl rfl rfl rfl rfl rfl rfl ?_ | refine JM.gskipU rfl rfl rfl rfl rfl rfl ?_ | refine JM.gquiet rfl rfl rfl rfl rfl rfl (fun m => y_indexAddr_slice hT rfl rfl rfl rfl rfl (by (first | omega | exact Nat.le_of_ble_eq_true rfl | decide | (simp; omega))) (by (first | omega | exact Nat.le_of_ble_eq_true rfl | decide | (simp; omega)))) ?_)
    all_goals (first | refine JM.gskip rfl rfl rfl rfl rfl rfl rfl ?_ | refine JM.gskipU rfl rfl rfl rfl rfl rfl ?_ | refine JM.gquiet rfl rfl rfl rfl rfl rfl (fun m => y_load1 hT rfl rfl rfl (Rd1.arr (i := (x - 1)) (Pick.app m (by (repeat (first | exact Pick.head | apply Pick.tail | apply Pick.app)))) (by (first | assumption | omega | (simp only [Array.size_setIfInBounds]; omega))) (by exact arr_off rfl (by omega)))) ?_)
    all_goals (first | refine JM.gskip rfl rfl rfl rfl rfl rfl rfl ?_ | refine JM.gskipU rfl rfl rfl rfl rfl rfl ?_ | refine JM.gquiet rfl rfl rfl rfl rfl rfl (fun m => y_callF e103 rfl (lessU E _ _ _)) ?_)
    all_goals (first | refine JM.gskip rfl rfl rfl rfl rfl rfl rfl ?_ | refine JM.gskipU rfl rfl rfl rfl rfl rfl ?_ | refine JM.gquiet rfl rfl rfl rfl rfl rfl (fun m => y_not rfl) ?_)
    all_goals refine JM.quiet rfl rfl rfl rfl (fun m => y_pick rfl rfl rfl) ?_
    all_goals refine JM.nil ?_
   all_goals refine JE.then_normal ?_
   all_goals
    first | apply J.cond_dec rfl | apply J.cond rfl
    case' ht =>
     intro h
     try (first | (exfalso; omega) | (cases h; done) | (exfalso; simp at h; done) | subst h)
     all_goals
      rw [scanSorted_go (by omega) (by simpa using h)] at hx3
      refine J.skip ?_
    case' hf =>
     intro h
     try (first | (exfalso; omega) | (cases h; done) | (exfalso; simp at h; done) | subst h)
     all_goals
      rw [scanSorted_stop (by first | exact .inl (by omega) | exact .inr (by simpa using h))] at hx3
      rw [← hx3] at he1
      refine J.exit (JE.then_exit (JE.then_exit (JE.block_exit (JE.then_normal (J.seq (J.seq (J.region (JL.step (y_move rfl) rfl rfl rfl (JL.step (y_move rfl) rfl rfl rfl (JL.step (y_eql rfl rfl) rfl rfl rfl ?_))))))))))
      refine JL.nil (JE.then_normal ?_)
      first | apply J.cond_dec rfl | apply J.cond rfl
      case' ht =>
       intro h
       try (first | (exfalso; omega) | (cases h; done) | (exfalso; simp at h; done) | subst h)
       all_goals
        rw [if_pos (by omega)] at he1
        refine J.seq (J.region (JL.step (y_assign rfl) rfl rfl rfl ?_))
        refine JL.nil (JE.then_normal (J.ret (JE.then_ret (JE.block_ret (JE.then_ret (JE.then_ret (JE.block_ret (JE.then_ret ?_))))))))
        refine JE.ret1 (.inl rfl) rfl rfl (by (first | exact RV.tmp rfl | exact RV.cell1 hT rfl rfl rfl (by (exact Rd1.row (by (repeat (first | exact Pick.head | apply Pick.tail | apply Pick.app))) (by rfl))) | exact RV.cellN hT rfl rfl rfl (by (first | exact RdN.rowAll (by (repeat (first | exact Pick.head | apply Pick.tail | apply Pick.app))) | exact RdN.own (by (repeat (first | exact Pick.head | apply Pick.tail | apply Pick.app))))) (by (first | rfl | assumption | (simp; done) | omega)))) ?_
        exact ⟨by rw [← he1], fun w h => by rw [← he1]; exact h⟩
      case' hf =>
       intro h
       try (first | (exfalso; omega) | (cases h; done) | (exfalso; simp at h; done) | subst h)
       all_goals
        rw [if_neg (by omega)] at he1
        refine J.skip ?_
      all_goals refine JE.then_normal ?_
      all_goals
       refine J.seq (J.seq (J.region (JL.step (y_move rfl) rfl rfl rfl (JL.step (y_move rfl) rfl rfl rfl ?_))))
       refine JL.step (y_sub rfl rfl (by (first | exact wrap_i64 (by omega) (by omega) | rfl))) rfl rfl rfl ?_
       refine JL.step (y_lss rfl rfl) rfl rfl rfl ?_
       refine JL.nil (JE.then_normal ?_)
       first | apply J.cond_dec rfl | apply J.cond rfl
       case' ht =>
        intro h
        try (first | (exfalso; omega) | (cases h; done) | (exfalso; simp at h; done) | subst h)
        all_goals
         rw [if_pos (by omega)] at he1
         refine J.seq (J.region (JL.step (y_assign rfl) rfl rfl rfl ?_))
         refine JL.nil (JE.then_normal (J.ret (JE.then_ret (JE.block_ret (JE.then_ret (JE.then_ret (JE.block_ret (JE.then_ret ?_))))))))
         refine JE.ret1 (.inl rfl) rfl rfl (by (first | exact RV.tmp rfl | exact RV.cell1 hT rfl rfl rfl (by (exact Rd1.row (by (repeat (first | exact Pick.head | apply Pick.tail | apply Pick.app))) (by rfl))) | exact RV.cellN hT rfl rfl rfl (by (first | exact RdN.rowAll (by (repeat (first | exact Pick.head | apply Pick.tail | apply Pick.app))) | exact RdN.own (by (repeat (first | exact Pick.head | apply Pick.tail | apply Pick.app))))) (by (first | rfl | assumption | (simp; done) | omega)))) ?_
         exact ⟨by rw [← he1], fun w h => by rw [← he1]; exact h⟩
       case' hf =>
        intro h
        try (first | (exfalso; omega) | (cases h; done) | (exfalso; simp at h; done) | subst h)
        all_goals
         rw [if_neg (by omega)] at he1
         refine J.skip ?_
       all_goals refine JE.then_normal ?_
       all_goals
        refine J.seq ?_
        refine J.draw _ _ [(0, .q), (1, .q), (2, .q), (3, .q), (4, .q), (5, .q), (6, .q), (7, .q), (8, .q), (10, .q), (11, .q), (12, .q), (9, .e), (13, .e), (14, .q), (15, .l), (16, .q), (17, .l)] mixed (by kernel_rfl) (Split.cons (Pick.head) (Split.nil)) ?_
        refine JM.quiet rfl rfl rfl rfl (fun m => y_move rfl) (JM.quiet rfl rfl rfl rfl (fun m => y_move rfl) (JM.quiet rfl rfl rfl rfl (fun m => y_move rfl) (JM.quiet rfl rfl rfl rfl (fun m => y_move rfl) ?_)))
        refine JM.quiet rfl rfl rfl rfl (fun m => y_sub rfl rfl (by (first | exact wrap_i64 (by omega) (by omega) | rfl))) ?_
        refine JM.quiet rfl rfl rfl rfl (fun m => y_move rfl) (JM.quiet rfl rfl rfl rfl (fun m => y_move rfl) ?_)
        refine JM.quiet rfl rfl rfl rfl (fun m => y_sub rfl rfl (by (first | exact wrap_i64 (by omega) (by omega) | rfl))) ?_
        refine JM.quiet rfl rfl rfl rfl (fun m => y_indexAddr_slice hT rfl rfl rfl rfl rfl (by (first | omega | exact Nat.le_of_ble_eq_true rfl | decide | (simp; omega))) (by (first | omega | exact Nat.le_of_ble_eq_true rfl | decide | (simp; omega)))) ?_
        refine JM.quiet rfl rfl rfl rfl (fun m => y_move rfl) (JM.quiet rfl rfl rfl rfl (fun m => y_move rfl) ?_)
        refine JM.quiet rfl rfl rfl rfl (fun m => y_indexAddr_slice hT rfl rfl rfl rfl rfl (by (first | omega | exact Nat.le_of_ble_eq_true rfl | decide | (simp; omega))) (by (first | omega | exact Nat.le_of_ble_eq_true rfl | decide | (simp; omega)))) ?_
        refine JM.early rfl rfl rfl rfl (fun fr => y_load1 hT rfl rfl rfl (Rd1.arr (i := (x - 1)) (by (repeat (first | exact Pick.head | apply Pick.tail | apply Pick.app))) (by (first | assumption | omega | (simp only [Array.size_setIfInBounds]; omega))) (by exact arr_off rfl (by omega)))) ?_
        refine JM.early rfl rfl rfl rfl (fun fr => y_load1 hT rfl rfl rfl (Rd1.arr (i := (x)) (by (repeat (first | exact Pick.head | apply Pick.tail | apply Pick.app))) (by (first | assumption | omega | (simp only [Array.size_setIfInBounds]; omega))) (by exact arr_off rfl (by omega)))) ?_
        refine JM.quiet rfl rfl rfl rfl (fun m => y_indexAddr_slice hT rfl rfl rfl rfl rfl (by (first | omega | exact Nat.le_of_ble_eq_true rfl | decide | (simp; omega))) (by (first | omega | exact Nat.le_of_ble_eq_true rfl | decide | (simp; omega)))) ?_
        refine JM.loud rfl rfl (fun fr => l_storeArr (j := (x)) (u := d1[x - 1]!) hT rfl rfl rfl rfl (fun _ => rfl) (by (repeat (first | exact Pick.head | apply Pick.tail | apply Pick.app))) (by (first | assumption | omega | (simp only [Array.size_setIfInBounds]; omega))) (by exact arr_off rfl (by omega)) (⟨[_], (by (repeat (first | exact Split.nil | exact Split.all | refine Split.cons Pick.head ?_))), ?_⟩))
        refine JM.quiet rfl rfl rfl rfl (fun m => y_indexAddr_slice hT rfl rfl rfl rfl rfl (by (first | omega | exact Nat.le_of_ble_eq_true rfl | decide | (simp; omega))) (by (first | omega | exact Nat.le_of_ble_eq_true rfl | decide | (simp; omega)))) ?_
        refine JM.loud rfl rfl (fun fr => l_storeArr (j := (x - 1)) (u := d1[x]!) hT rfl rfl rfl rfl (fun _ => rfl) (by (repeat (first | exact Pick.head | apply Pick.tail | apply Pick.app))) (by (first | assumption | omega | (simp only [Array.size_setIfInBounds]; omega))) (by exact arr_off rfl (by omega)) (⟨[_], (by (repeat (first | exact Split.nil | exact Split.all | refine Split.cons Pick.head ?_))), ?_⟩))
        refine JM.nil (JE.then_normal ?_)
        refine J.seqK (α := Nat × Array Int) (fun q => a + 1 ≤ q.1 ∧ q.1 < b ∧ q.2.size = n ∧ ∃ k, s = k + 1 ∧ Sort.partialIns Sort.ltInt a b k q.1 (Sort.fixUp Sort.ltInt b q.1 q.2) = res) (fun q => [(0, .slice (some ⟨g, 0, none⟩) n c), (1, .int .i64 a), (2, .int .i64 b), (7, .int .i64 q.1), (8, .int .i64 (5 - (s : Int)))]) (fun q => arU g q.2 sp :: r) ?hj18 (fun hk18 => ?hf18)
        case hf18 =>
         refine J.seq (J.region (JL.step (y_move rfl) rfl rfl rfl (JL.step (y_move rfl) rfl rfl rfl ?_)))
         refine JL.step (y_sub rfl rfl (by (first | exact wrap_i64 (by omega) (by omega) | rfl))) rfl rfl rfl ?_
         refine JL.step (y_geq rfl rfl) rfl rfl rfl ?_
         refine JL.nil (JE.then_normal ?_)
         first | apply J.cond_dec rfl | apply J.cond rfl
         case' ht =>
          intro h
          try (first | (exfalso; omega) | (cases h; done) | (exfalso; simp at h; done) | subst h)
          all_goals
           have hfd : Sort.fixDown Sort.ltInt a x (Sort.swp d1 x (x - 1)) = Sort.shiftDown Sort.ltInt (x - 1) (Sort.swp d1 x (x - 1)) := if_pos (by omega)
           rw [hfd] at he1
           refine J.seq (J.region (JL.step (y_move rfl) rfl rfl rfl ?_))
           refine JL.step (y_sub rfl rfl (by (first | exact wrap_i64 (by omega) (by omega) | rfl))) rfl rfl rfl ?_
           refine JL.step (y_assign rfl) rfl rfl rfl ?_
           refine JL.nil (JE.then_normal (J.block ?_))
           refine J.loop (α := Nat × Array Int) (fun q => q.1 ≤ x - 1 ∧ q.2.size = n ∧ Sort.shiftDown Sort.ltInt q.1 q.2 = Sort.shiftDown Sort.ltInt (x - 1) (Sort.swp d1 x (x - 1))) (fun q => [(0, .slice (some ⟨g, 0, none⟩) n c), (1, .int .i64 a), (2, .int .i64 b), (7, .int .i64 x), (8, .int .i64 (5 - (s : Int))), (9, .int .i64 q.1)]) (fun q => arU g q.2 sp :: r) (fun q => q.1) (x - 1, Sort.swp d1 x (x - 1)) ⟨Nat.le_refl _, by dsimp only; rw [swp_size]; exact hs1, rfl⟩ ⟨rfl, rfl, rfl, rfl, rfl, (congrArg (fun z => some (Value.int .i64 z)) (by first | omega | (dsimp only; omega))), trivial⟩ (fun w h => h) ?_
           rintro ⟨j, d2⟩ ⟨hj1, hs2, he2⟩
           try dsimp only at hj1 hs2 he2 ⊢
           refine J.seq (J.seq (J.region (JL.step (y_move rfl) rfl rfl rfl (JL.step (y_geq rfl rfl) rfl rfl rfl ?_))))
           refine JL.nil (JE.then_normal ?_)
           first | apply J.cond_dec rfl | apply J.cond rfl
           case' ht =>
            intro h
            try (first | (exfalso; omega) | (cases h; done) | (exfalso; simp at h; done) | subst h)
            all_goals
             refine J.skip ?_
           case' hf =>
            intro h
            try (first | (exfalso; omega) | (cases h; done) | (exfalso; simp at h; done) | subst h)
            all_goals
             rw [shiftDown_stop (.inl (by omega))] at he2
             rw [← he2] at he1
             refine J.exit (JE.then_exit (JE.then_exit (JE.block_exit (JE.then_normal ?_))))
             first | exact J.closeK hk18 (x, d2) ⟨by dsimp only; omega, by dsimp only; omega, hs2, k, hk, he1⟩ ⟨rfl, rfl, rfl, rfl, rfl, trivial⟩ (fun w h => h) | exact J.closeK hk18 (x, Sort.swp d1 x (x - 1)) ⟨by dsimp only; omega, by dsimp only; omega, by dsimp only; rw [swp_size]; exact hs1, k, hk, he1⟩ ⟨rfl, rfl, rfl, rfl, rfl, trivial⟩ (fun w h => h)
           all_goals refine JE.then_normal ?_
           all_goals
            refine J.seq (J.block (J.seq (J.seq ?_)))
            refine J.draw _ _ [(0, .q), (1, .q), (2, .q), (3, .q), (4, .q), (5, .q), (6, .q), (7, .q), (8, .q), (9, .q), (10, .q)] mixed (by kernel_rfl) (Split.nil) ?_
            refine JM.quiet rfl rfl rfl rfl (fun m => y_move rfl) (JM.quiet rfl rfl rfl rfl (fun m => y_move rfl) ?_)
            refine JM.quiet rfl rfl rfl rfl (fun m => y_indexAddr_slice hT rfl rfl rfl rfl rfl (by (first | omega | exact Nat.le_of_ble_eq_true rfl | decide | (simp; omega))) (by (first | omega | exact Nat.le_of_ble_eq_true rfl | decide | (simp; omega)))) ?_
            refine JM.quiet rfl rfl rfl rfl (fun m => y_load1 hT rfl rfl rfl (Rd1.arr (i := (j)) (Pick.app m (by (repeat (first | exact Pick.head | apply Pick.tail | apply Pick.app)))) (by (first | assumption | omega | (simp only [Array.size_setIfInBounds]; omega))) (by exact arr_off rfl (by omega)))) ?_
            refine JM.quiet rfl rfl rfl rfl (fun m => y_move rfl) (JM.quiet rfl rfl rfl rfl (fun m => y_move rfl) ?_)
            refine JM.quiet rfl rfl rfl rfl (fun m => y_sub rfl rfl (by (first | exact wrap_i64 (by omega) (by omega) | rfl))) ?_
            refine JM.quiet rfl rfl rfl rfl (fun m => y_indexAddr_slice hT rfl rfl rfl rfl rfl (by (first | omega | exact Nat.le_of_ble_eq_true rfl | decide | (simp; omega))) (by (first | omega | exact Nat.le_of_ble_eq_true rfl | decide | (simp; omega)))) ?_
            refine JM.quiet rfl rfl rfl rfl (fun m => y_load1 hT rfl rfl rfl (Rd1.arr (i := (j - 1)) (Pick.app m (by (repeat (first | exact Pick.head | apply Pick.tail | apply Pick.app)))) (by (first | assumption | omega | (simp only [Array.size_setIfInBounds]; omega))) (by exact arr_off rfl (by omega)))) ?_
            refine JM.quiet rfl rfl rfl rfl (fun m => y_callF e103 rfl (lessU E _ _ _)) (JM.quiet rfl rfl rfl rfl (fun m => y_not rfl) ?_)
            refine JM.nil (JE.then_normal ?_)
            first | apply J.cond_dec rfl | apply J.cond rfl
            case' ht =>
             intro h
             try (first | (exfalso; omega) | (cases h; done) | (exfalso; simp at h; done) | subst h)
             all_goals
              rw [shiftDown_stop (.inr (by simpa using h))] at he2
              rw [← he2] at he1
              refine J.exit (JE.then_exit ?_)
              refine JE.block_past rfl ?_
              refine JE.then_exit (JE.then_exit (JE.block_exit (JE.then_normal ?_)))
              first | exact J.closeK hk18 (x, d2) ⟨by dsimp only; omega, by dsimp only; omega, hs2, k, hk, he1⟩ ⟨rfl, rfl, rfl, rfl, rfl, trivial⟩ (fun w h => h) | exact J.closeK hk18 (x, Sort.swp d1 x (x - 1)) ⟨by dsimp only; omega, by dsimp only; omega, by dsimp only; rw [swp_size]; exact hs1, k, hk, he1⟩ ⟨rfl, rfl, rfl, rfl, rfl, trivial⟩ (fun w h => h)
            case' hf =>
             intro h
             try (first | (exfalso; omega) | (cases h; done) | (exfalso; simp at h; done) | subst h)
             all_goals
              rw [shiftDown_go (by omega) (by simpa using h)] at he2
              refine J.skip ?_
            all_goals refine JE.then_normal ?_
            all_goals
             refine J.draw _ _ [(0, .q), (1, .q), (2, .q), (3, .q), (4, .q), (5, .q), (6, .q), (7, .q), (8, .q), (10, .q), (11, .q), (12, .q), (9, .e), (13, .e), (14, .q), (15, .l), (16, .q), (17, .l)] mixed (by kernel_rfl) (Split.cons (Pick.head) (Split.nil)) ?_
             refine JM.quiet rfl rfl rfl rfl (fun m => y_move rfl) (JM.quiet rfl rfl rfl rfl (fun m => y_move rfl) (JM.quiet rfl rfl rfl rfl (fun m => y_move rfl) (JM.quiet rfl rfl rfl rfl (fun m => y_move rfl) ?_)))
             refine JM.quiet rfl rfl rfl rfl (fun m => y_sub rfl rfl (by (first | exact wrap_i64 (by omega) (by omega) | rfl))) ?_
             refine JM.quiet rfl rfl rfl rfl (fun m => y_move rfl) (JM.quiet rfl rfl rfl rfl (fun m => y_move rfl) ?_)
             refine JM.quiet rfl rfl rfl rfl (fun m => y_sub rfl rfl (by (first | exact wrap_i64 (by omega) (by omega) | rfl))) ?_
             refine JM.quiet rfl rfl rfl rfl (fun m => y_indexAddr_slice hT rfl rfl rfl rfl rfl (by (first | omega | exact Nat.le_of_ble_eq_true rfl | decide | (simp; omega))) (by (first | omega | exact Nat.le_of_ble_eq_true rfl | decide | (simp; omega)))) ?_
             refine JM.quiet rfl rfl rfl rfl (fun m => y_move rfl) (JM.quiet rfl rfl rfl rfl (fun m => y_move rfl) ?_)
             refine JM.quiet rfl rfl rfl rfl (fun m => y_indexAddr_slice hT rfl rfl rfl rfl rfl (by (first | omega | exact Nat.le_of_ble_eq_true rfl | decide | (simp; omega))) (by (first | omega | exact Nat.le_of_ble_eq_true rfl | decide | (simp; omega)))) ?_
             refine JM.early rfl rfl rfl rfl (fun fr => y_load1 hT rfl rfl rfl (Rd1.arr (i := (j - 1)) (by (repeat (first | exact Pick.head | apply Pick.tail | apply Pick.app))) (by (first | assumption | omega | (simp only [Array.size_setIfInBounds]; omega))) (by exact arr_off rfl (by omega)))) ?_
             refine JM.early rfl rfl rfl rfl (fun fr => y_load1 hT rfl rfl rfl (Rd1.arr (i := (j)) (by (repeat (first | exact Pick.head | apply Pick.tail | apply Pick.app))) (by (first | assumption | omega | (simp only [Array.size_setIfInBounds]; omega))) (by exact arr_off rfl (by omega)))) ?_
             refine JM.quiet rfl rfl rfl rfl (fun m => y_indexAddr_slice hT rfl rfl rfl rfl rfl (by (first | omega | exact Nat.le_of_ble_eq_true rfl | decide | (simp; omega))) (by (first | omega | exact Nat.le_of_ble_eq_true rfl | decide | (simp; omega)))) ?_
             refine JM.loud rfl rfl (fun fr => l_storeArr (j := (j)) (u := d2[j - 1]!) hT rfl rfl rfl rfl (fun _ => rfl) (by (repeat (first | exact Pick.head | apply Pick.tail | apply Pick.app))) (by (first | assumption | omega | (simp only [Array.size_setIfInBounds]; omega))) (by exact arr_off rfl (by omega)) (⟨[_], (by (repeat (first | exact Split.nil | exact Split.all | refine Split.cons Pick.head ?_))), ?_⟩))
             refine JM.quiet rfl rfl rfl rfl (fun m => y_indexAddr_slice hT rfl rfl rfl rfl rfl (by (first | omega | exact Nat.le_of_ble_eq_true rfl | decide | (simp; omega))) (by (first | omega | exact Nat.le_of_ble_eq_true rfl | decide | (simp; omega)))) ?_
             refine JM.loud rfl rfl (fun fr => l_storeArr (j := (j - 1)) (u := d2[j]!) hT rfl rfl rfl rfl (fun _ => rfl) (by (repeat (first | exact Pick.head | apply Pick.tail | apply Pick.app))) (by (first | assumption | omega | (simp only [Array.size_setIfInBounds]; omega))) (by exact arr_off rfl (by omega)) (⟨[_], (by (repeat (first | exact Split.nil | exact Split.all | refine Split.cons Pick.head ?_))), ?_⟩))
             refine JM.nil ?_
            all_goals refine JE.block_normal (JE.then_normal ?_)
            all_goals
             refine J.region (JL.step (y_move rfl) rfl rfl rfl ?_)
             refine JL.step (y_sub rfl rfl (by (first | exact wrap_i64 (by omega) (by omega) | rfl))) rfl rfl rfl ?_
             refine JL.step (y_assign rfl) rfl rfl rfl ?_
             refine JL.nil ?_
           all_goals
            exact JE.round (s := (j, d2)) (j - 1, Sort.swp d2 j (j - 1)) ⟨by dsimp only; omega, by dsimp only; rw [swp_size]; exact hs2, he2⟩ ⟨rfl, rfl, rfl, rfl, rfl, (congrArg (fun z => some (Value.int .i64 z)) (by first | omega | (dsimp only; omega))), trivial⟩ (fun w h => h) (by dsimp only; omega)
         case' hf =>
          intro h
          try (first | (exfalso; omega) | (cases h; done) | (exfalso; simp at h; done) | subst h)
          all_goals
           have hfd : Sort.fixDown Sort.ltInt a x (Sort.swp d1 x (x - 1)) = Sort.swp d1 x (x - 1) := if_neg (by omega)
           rw [hfd] at he1
           refine J.skip ?_
         all_goals refine JE.then_normal ?_
         all_goals
          first | exact J.closeK hk18 (x, d2) ⟨by dsimp only; omega, by dsimp only; omega, hs2, k, hk, he1⟩ ⟨rfl, rfl, rfl, rfl, rfl, trivial⟩ (fun w h => h) | exact J.closeK hk18 (x, Sort.swp d1 x (x - 1)) ⟨by dsimp only; omega, by dsimp only; omega, by dsimp only; rw [swp_size]; exact hs1, k, hk, he1⟩ ⟨rfl, rfl, rfl, rfl, rfl, trivial⟩ (fun w h => h)
        rintro ⟨x, d3⟩ ⟨hx1, hx2, hs3, k, hk, he3⟩
        try dsimp only at hx1 hx2 hs3 he3 ⊢
        refine J.seq (J.region (JL.step (y_move rfl) rfl rfl rfl (JL.step (y_move rfl) rfl rfl rfl ?_)))
        refine JL.step (y_sub rfl rfl (by (first | exact wrap_i64 (by omega) (by omega) | rfl))) rfl rfl rfl ?_
        refine JL.step (y_geq rfl rfl) rfl rfl rfl ?_
        refine JL.nil (JE.then_normal ?_)
        first | apply J.cond_dec rfl | apply J.cond rfl
        case' ht =>
         intro h
         try (first | (exfalso; omega) | (cases h; done) | (exfalso; simp at h; done) | subst h)
         all_goals
          have hfu : Sort.fixUp Sort.ltInt b x d3 = Sort.shiftUp Sort.ltInt b (x + 1) d3 := if_pos (by omega)
          rw [hfu] at he3
          refine J.seq (J.region (JL.step (y_move rfl) rfl rfl rfl ?_))
          refine JL.step (y_add rfl rfl (by (first | exact wrap_i64 (by omega) (by omega) | rfl))) rfl rfl rfl ?_
          refine JL.step (y_assign rfl) rfl rfl rfl ?_
          refine JL.nil (JE.then_normal (J.block ?_))
          refine J.loop (α := Nat × Array Int) (fun q => x + 1 ≤ q.1 ∧ q.1 ≤ b ∧ q.2.size = n ∧ Sort.shiftUp Sort.ltInt b q.1 q.2 = Sort.shiftUp Sort.ltInt b (x + 1) d3) (fun q => [(0, .slice (some ⟨g, 0, none⟩) n c), (1, .int .i64 a), (2, .int .i64 b), (7, .int .i64 x), (8, .int .i64 (5 - (s : Int))), (10, .int .i64 q.1)]) (fun q => arU g q.2 sp :: r) (fun q => b - q.1) (x + 1, d3) ⟨Nat.le_refl _, by dsimp only; omega, hs3, rfl⟩ ⟨rfl, rfl, rfl, rfl, rfl, (congrArg (fun z => some (Value.int .i64 z)) (by first | omega | (dsimp only; omega))), trivial⟩ (fun w h => h) ?_
          rintro ⟨j, d4⟩ ⟨hj1, hj2, hs4, he4⟩
          try dsimp only at hj1 hj2 hs4 he4 ⊢
          refine J.seq (J.seq (J.region (JL.step (y_move rfl) rfl rfl rfl (JL.step (y_move rfl) rfl rfl rfl (JL.step (y_lss rfl rfl) rfl rfl rfl ?_)))))
          refine JL.nil (JE.then_normal ?_)
          first | apply J.cond_dec rfl | apply J.cond rfl
          case' ht =>
           intro h
           try (first | (exfalso; omega) | (cases h; done) | (exfalso; simp at h; done) | subst h)
           all_goals
            refine J.skip ?_
          case' hf =>
           intro h
           try (first | (exfalso; omega) | (cases h; done) | (exfalso; simp at h; done) | subst h)
           all_goals
            rw [shiftUp_stop (.inl (by omega))] at he4
            rw [← he4] at he3
            refine J.exit (JE.then_exit (JE.then_exit (JE.block_exit (JE.block_normal (JE.then_normal ?_)))))
            first | exact J.closeK hk4 (x, d4) ⟨by dsimp only; omega, by dsimp only; omega, hs4, k, hk, he3⟩ ⟨rfl, rfl, rfl, rfl, rfl, trivial⟩ (fun w h => h) | exact J.closeK hk4 (x, d3) ⟨by dsimp only; omega, by dsimp only; omega, hs3, k, hk, he3⟩ ⟨rfl, rfl, rfl, rfl, rfl, trivial⟩ (fun w h => h)
          all_goals refine JE.then_normal ?_
          all_goals
           refine J.seq (J.block (J.seq (J.seq ?_)))
           refine J.draw _ _ [(0, .q), (1, .q), (2, .q), (3, .q), (4, .q), (5, .q), (6, .q), (7, .q), (8, .q), (9, .q), (10, .q)] mixed (by kernel_rfl) (Split.nil) ?_
           refine JM.quiet rfl rfl rfl rfl (fun m => y_move rfl) (JM.quiet rfl rfl rfl rfl (fun m => y_move rfl) ?_)
           refine JM.quiet rfl rfl rfl rfl (fun m => y_indexAddr_slice hT rfl rfl rfl rfl rfl (by (first | omega | exact Nat.le_of_ble_eq_true rfl | decide | (simp; omega))) (by (first | omega | exact Nat.le_of_ble_eq_true rfl | decide | (simp; omega)))) ?_
           refine JM.quiet rfl rfl rfl rfl (fun m => y_load1 hT rfl rfl rfl (Rd1.arr (i := (j)) (Pick.app m (by (repeat (first | exact Pick.head | apply Pick.tail | apply Pick.app)))) (by (first | assumption | omega | (simp only [Array.size_setIfInBounds]; omega))) (by exact arr_off rfl (by omega)))) ?_
           refine JM.quiet rfl rfl rfl rfl (fun m => y_move rfl) (JM.quiet rfl rfl rfl rfl (fun m => y_move rfl) ?_)
           refine JM.quiet rfl rfl rfl rfl (fun m => y_sub rfl rfl (by (first | exact wrap_i64 (by omega) (by omega) | rfl))) ?_
           refine JM.quiet rfl rfl rfl rfl (fun m => y_indexAddr_slice hT rfl rfl rfl rfl rfl (by (first | omega | exact Nat.le_of_ble_eq_true rfl | decide | (simp; omega))) (by (first | omega | exact Nat.le_of_ble_eq_true rfl | decide | (simp; omega)))) ?_
           refine JM.quiet rfl rfl rfl rfl (fun m => y_load1 hT rfl rfl rfl (Rd1.arr (i := (j - 1)) (Pick.app m (by (repeat (first | exact Pick.head | apply Pick.tail | apply Pick.app)))) (by (first | assumption | omega | (simp only [Array.size_setIfInBounds]; omega))) (by exact arr_off rfl (by omega)))) ?_
           refine JM.quiet rfl rfl rfl rfl (fun m => y_callF e103 rfl (lessU E _ _ _)) (JM.quiet rfl rfl rfl rfl (fun m => y_not rfl) ?_)
           refine JM.nil (JE.then_normal ?_)
           first | apply J.cond_dec rfl | apply J.cond rfl
           case' ht =>
            intro h
            try (first | (exfalso; omega) | (cases h; done) | (exfalso; simp at h; done) | subst h)
            all_goals
             rw [shiftUp_stop (.inr (by simpa using h))] at he4
             rw [← he4] at he3
             refine J.exit (JE.then_exit ?_)
             refine JE.block_past rfl ?_
             refine JE.then_exit (JE.then_exit (JE.block_exit (JE.block_normal (JE.then_normal ?_))))
             first | exact J.closeK hk4 (x, d4) ⟨by dsimp only; omega, by dsimp only; omega, hs4, k, hk, he3⟩ ⟨rfl, rfl, rfl, rfl, rfl, trivial⟩ (fun w h => h) | exact J.closeK hk4 (x, d3) ⟨by dsimp only; omega, by dsimp only; omega, hs3, k, hk, he3⟩ ⟨rfl, rfl, rfl, rfl, rfl, trivial⟩ (fun w h => h)
           case' hf =>
            intro h
            try (first | (exfalso; omega) | (cases h; done) | (exfalso; simp at h; done) | subst h)
            all_goals
             rw [shiftUp_go (by omega) (by simpa using h)] at he4
             refine J.skip ?_
           all_goals refine JE.then_normal ?_
           all_goals
            refine J.draw _ _ [(0, .q), (1, .q), (2, .q), (3, .q), (4, .q), (5, .q), (6, .q), (7, .q), (8, .q), (10, .q), (11, .q), (12, .q), (9, .e), (13, .e), (14, .q), (15, .l), (16, .q), (17, .l)] mixed (by kernel_rfl) (Split.cons (Pick.head) (Split.nil)) ?_
            refine JM.quiet rfl rfl rfl rfl (fun m => y_move rfl) (JM.quiet rfl rfl rfl rfl (fun m => y_move rfl) (JM.quiet rfl rfl rfl rfl (fun m => y_move rfl) (JM.quiet rfl rfl rfl rfl (fun m => y_move rfl) ?_)))
            refine JM.quiet rfl rfl rfl rfl (fun m => y_sub rfl rfl (by (first | exact wrap_i64 (by omega) (by omega) | rfl))) ?_
            refine JM.quiet rfl rfl rfl rfl (fun m => y_move rfl) (JM.quiet rfl rfl rfl rfl (fun m => y_move rfl) ?_)
            refine JM.quiet rfl rfl rfl rfl (fun m => y_sub rfl rfl (by (first | exact wrap_i64 (by omega) (by omega) | rfl))) ?_
            refine JM.quiet rfl rfl rfl rfl (fun m => y_indexAddr_slice hT rfl rfl rfl rfl rfl (by (first | omega | exact Nat.le_of_ble_eq_true rfl | decide | (simp; omega))) (by (first | omega | exact Nat.le_of_ble_eq_true rfl | decide | (simp; omega)))) ?_
            refine JM.quiet rfl rfl rfl rfl (fun m => y_move rfl) (JM.quiet rfl rfl rfl rfl (fun m => y_move rfl) ?_)
            refine JM.quiet rfl rfl rfl rfl (fun m => y_indexAddr_slice hT rfl rfl rfl rfl rfl (by (first | omega | exact Nat.le_of_ble_eq_true rfl | decide | (simp; omega))) (by (first | omega | exact Nat.le_of_ble_eq_true rfl | decide | (simp; omega)))) ?_
            refine JM.early rfl rfl rfl rfl (fun fr => y_load1 hT rfl rfl rfl (Rd1.arr (i := (j - 1)) (by (repeat (first | exact Pick.head | apply Pick.tail | apply Pick.app))) (by (first | assumption | omega | (simp only [Array.size_setIfInBounds]; omega))) (by exact arr_off rfl (by omega)))) ?_
            refine JM.early rfl rfl rfl rfl (fun fr => y_load1 hT rfl rfl rfl (Rd1.arr (i := (j)) (by (repeat (first | exact Pick.head | apply Pick.tail | apply Pick.app))) (by (first | assumption | omega | (simp only [Array.size_setIfInBounds]; omega))) (by exact arr_off rfl (by omega)))) ?_
            refine JM.quiet rfl rfl rfl rfl (fun m => y_indexAddr_slice hT rfl rfl rfl rfl rfl (by (first | omega | exact Nat.le_of_ble_eq_true rfl | decide | (simp; omega))) (by (first | omega | exact Nat.le_of_ble_eq_true rfl | decide | (simp; omega)))) ?_
            refine JM.loud rfl rfl (fun fr => l_storeArr (j := (j)) (u := d4[j - 1]!) hT rfl rfl rfl rfl (fun _ => rfl) (by (repeat (first | exact Pick.head | apply Pick.tail | apply Pick.app))) (by (first | assumption | omega | (simp only [Array.size_setIfInBounds]; omega))) (by exact arr_off rfl (by omega)) (⟨[_], (by (repeat (first | exact Split.nil | exact Split.all | refine Split.cons Pick.head ?_))), ?_⟩))
            refine JM.quiet rfl rfl rfl rfl (fun m => y_indexAddr_slice hT rfl rfl rfl rfl rfl (by (first | omega | exact Nat.le_of_ble_eq_true rfl | decide | (simp; omega))) (by (first | omega | exact Nat.le_of_ble_eq_true rfl | decide | (simp; omega)))) ?_
            refine JM.loud rfl rfl (fun fr => l_storeArr (j := (j - 1)) (u := d4[j]!) hT rfl rfl rfl rfl (fun _ => rfl) (by (repeat (first | exact Pick.head | apply Pick.tail | apply Pick.app))) (by (first | assumption | omega | (simp only [Array.size_setIfInBounds]; omega))) (by exact arr_off rfl (by omega)) (⟨[_], (by (repeat (first | exact Split.nil | exact Split.all | refine Split.cons Pick.head ?_))), ?_⟩))
            refine JM.nil ?_
           all_goals refine JE.block_normal (JE.then_normal ?_)
           all_goals
            refine J.region (JL.step (y_move rfl) rfl rfl rfl ?_)
            refine JL.step (y_add rfl rfl (by (first | exact wrap_i64 (by omega) (by omega) | rfl))) rfl rfl rfl ?_
            refine JL.step (y_assign rfl) rfl rfl rfl ?_
            refine JL.nil ?_
          all_goals
           exact JE.round (s := (j, d4)) (j + 1, Sort.swp d4 j (j - 1)) ⟨by dsimp only; omega, by dsimp only; omega, by dsimp only; rw [swp_size]; exact hs4, he4⟩ ⟨rfl, rfl, rfl, rfl, rfl, (congrArg (fun z => some (Value.int .i64 z)) (by first | omega | (dsimp only; omega))), trivial⟩ (fun w h => h) (by dsimp only; omega)
        case' hf =>
         intro h
         try (first | (exfalso; omega) | (cases h; done) | (exfalso; simp at h; done) | subst h)
         all_goals
          have hfu : Sort.fixUp Sort.ltInt b x d3 = d3 := if_neg (by omega)
          rw [hfu] at he3
          refine J.skip ?_
      all_goals
       refine JE.block_normal (JE.then_normal ?_)
       first | exact J.closeK hk4 (x, d4) ⟨by dsimp only; omega, by dsimp only; omega, hs4, k, hk, he3⟩ ⟨rfl, rfl, rfl, rfl, rfl, trivial⟩ (fun w h => h) | exact J.closeK hk4 (x, d3) ⟨by dsimp only; omega, by dsimp only; omega, hs3, k, hk, he3⟩ ⟨rfl, rfl, rfl, rfl, rfl, trivial⟩ (fun w h => h)
   all_goals refine JE.then_normal ?_
   all_goals
    refine J.block (J.region (JL.step (y_move rfl) rfl rfl rfl ?_))
    refine JL.step (y_add rfl rfl (by (first | exact wrap_i64 (by omega) (by omega) | rfl))) rfl rfl rfl ?_
    refine JL.step (y_assign rfl) rfl rfl rfl ?_
    refine JL.nil (JE.block_normal ?_)
   all_goals
    exact JE.round (s := x) (x + 1) ⟨by omega, by omega, hx3⟩ ⟨rfl, rfl, rfl, (congrArg (fun z => some (Value.int .i64 z)) (by first | omega | (dsimp only; omega))), rfl, trivial⟩ (fun w h => h) (by omega)
  rintro ⟨x, d5⟩ ⟨hx1, hx2, hs5', k, hk, he5⟩
  try dsimp only at hx1 hx2 hs5' he5 ⊢
  refine J.region (JL.step (y_move rfl) rfl rfl rfl ?_)
  refine JL.step (y_add rfl rfl (by (first | exact wrap_i64 (by omega) (by omega) | rfl))) rfl rfl rfl ?_
  refine JL.step (y_assign rfl) rfl rfl rfl ?_
  refine JL.nil ?_
 all_goals
  exact JE.round (s := (s, i, d1)) (k, x, d5) ⟨by dsimp only; omega, hx1, hx2, hs5', he5⟩ ⟨rfl, rfl, rfl, rfl, (congrArg (fun z => some (Value.int .i64 z)) (by first | omega | (dsimp only; omega))), trivial⟩ (fun w h => h) (by dsimp only; omega)
end
end
section
open Go Go.SL
section
attribute [local irreducible] J JL JE JM LS Y Fc RV Code.wp wpList Code.wpIn wpListIn
attribute [local irreducible] Yc
attribute [local irreducible] Sort.ltInt
variable (E : World)
theorem pdqU (hS : Sort.SWO Sort.ltInt) (m : Nat) : ∀ (g c n a b : Nat) (ia ib lim : Int) (d : Array Int) (sp : List Value) (r : List HProp), b - a ≤ m → ia = a → ib = b → d.size = n → a ≤ b → b ≤ n → Sort.Below Sort.ltInt a b d → n < 4611686018427387904 →
 Fc prog E 76 [.slice (some ⟨g, 0, none⟩) n c, .int .i64 ia, .int .i64 ib, .int .i64 lim].toArray (arU g d sp :: r) (fun v l' => v = .tuple #[] ∧ ∃ d', Sort.PermIn a b d d' ∧ Sort.SortedIn Sort.ltInt a b d' ∧ l' = arU g d' sp :: r) := by
 induction m using Nat.strongRecOn with
 | ind m ih =>
 intro g c n a b ia ib lim d sp r hm ea eb hn hab hb hB h63
 refine Fc.post ?_
 subst ea eb
 refine Fc.of_body (c := ?codeC) Tryd.func76 ?hb Tryd.ntmps76 ?hl ?_
 case hb => exact rfl
 case hl => exact rfl
 refine J.seq (J.region (JL.step (y_assign rfl) rfl rfl rfl ?_))
 refine JL.nil (JE.then_normal (J.seq (J.region (JL.step (y_assign rfl) rfl rfl rfl ?_))))
 refine JL.nil (JE.then_normal (J.block ?_))
 refine J.loop (α := Nat × Nat × Int × Bool × Bool × Array Int) (fun s => a ≤ s.1 ∧ s.1 ≤ s.2.1 ∧ s.2.1 ≤ b ∧ s.2.2.2.2.2.size = n ∧ Sort.Below Sort.ltInt s.1 s.2.1 s.2.2.2.2.2 ∧ ∀ R, Sort.PermIn s.1 s.2.1 s.2.2.2.2.2 R → Sort.SortedIn Sort.ltInt s.1 s.2.1 R → Sort.PermIn a b d R ∧ Sort.SortedIn Sort.ltInt a b R) (fun s => [(0, .slice (some ⟨g, 0, none⟩) n c), (1, .int .i64 s.1), (2, .int .i64 s.2.1), (3, .int .i64 s.2.2.1), (8, .bool s.2.2.2.1), (9, .bool s.2.2.2.2.1)]) (fun s => arU g s.2.2.2.2.2 sp :: r) (fun s => s.2.1 - s.1) (a, b, lim, true, true, d) ⟨Nat.le_refl _, hab, Nat.le_refl _, hn, hB, fun R h1 h2 => ⟨h1, h2⟩⟩ ⟨rfl, rfl, rfl, rfl, rfl, rfl, trivial⟩ (fun w h => h) ?_
 rintro ⟨x, y, lm0, wb, wp, d1⟩ ⟨hx, hxy, hy, hs1, hB1, hg1⟩
 try dsimp only at hx hxy hy hs1 hB1 hg1 ⊢
 refine J.block (J.seq (J.region (JL.step (y_move rfl) rfl rfl rfl (JL.step (y_move rfl) rfl rfl rfl ?_))))
 refine JL.step (y_sub rfl rfl (by (first | exact wrap_i64 (by omega) (by omega) | rfl))) rfl rfl rfl ?_
 refine JL.step (y_assign rfl) rfl rfl rfl ?_
 refine JL.nil (JE.then_normal (J.seq (J.seq (J.region (JL.step (y_move rfl) rfl rfl rfl (JL.step (y_leq rfl rfl) rfl rfl rfl ?_))))))
 refine JL.nil (JE.then_normal ?_)
 first | apply J.cond_dec rfl | apply J.cond rfl
 case' ht =>
  intro h
  try (first | (exfalso; omega) | (cases h; done) | (exfalso; simp at h; done) | subst h)
  all_goals
   have hfin := hg1 _ (Sort.insertionSort_holds hS d1 x y hxy (by omega)).1 (Sort.insertionSort_holds hS d1 x y hxy (by omega)).2
   refine J.seq (J.region (JL.step (y_move rfl) rfl rfl rfl (JL.step (y_move rfl) rfl rfl rfl (JL.step (y_move rfl) rfl rfl rfl ?_))))
   refine JL.loud rfl (l_callF e97 rfl rfl (Fc.on (Split.cons (by (repeat (first | exact Pick.head | apply Pick.tail | apply Pick.app))) Split.nil) (insU E g c n x y _ _ d1 sp _ rfl rfl hs1 (by omega) (by omega) h63)) ?_)
   rintro _ _ ⟨rfl, rfl⟩
   refine JL.nil (JE.then_normal (J.ret (JE.then_ret (JE.block_ret (JE.then_ret (JE.block_ret ?_))))))
   refine JE.ret0 (.inl rfl) rfl rfl  ?_
   exact ⟨_, fun w h => h, rfl, _, hfin.1, hfin.2, rfl⟩
 case' hf =>
  intro h
  try (first | (exfalso; omega) | (cases h; done) | (exfalso; simp at h; done) | subst h)
  all_goals
   refine J.skip ?_
 all_goals refine JE.then_normal ?_
 all_goals
  refine J.seq (J.seq (J.region (JL.step (y_move rfl) rfl rfl rfl (JL.step (y_eql rfl rfl) rfl rfl rfl ?_))))
  refine JL.nil (JE.then_normal ?_)
  first | apply J.cond_dec rfl | apply J.cond rfl
  case' ht =>
   intro h
   try (first | (exfalso; omega) | (cases h; done) | (exfalso; simp at h; done) | subst h)
   all_goals
    have hfin := hg1 _ (Sort.heapSort_holds hS d1 x y hxy (by omega)).1 (Sort.heapSort_holds hS d1 x y hxy (by omega)).2
    refine J.seq (J.region (JL.step (y_move rfl) rfl rfl rfl (JL.step (y_move rfl) rfl rfl rfl (JL.step (y_move rfl) rfl rfl rfl ?_))))
    refine JL.loud rfl (l_callF e98 rfl rfl (Fc.on (Split.cons (by (repeat (first | exact Pick.head | apply Pick.tail | apply Pick.app))) Split.nil) (heapU E g c n x y _ _ d1 sp _ rfl rfl hs1 (by omega) (by omega) h63)) ?_)
    rintro _ _ ⟨rfl, dh, rfl, rfl⟩
    refine JL.nil (JE.then_normal (J.ret (JE.then_ret (JE.block_ret (JE.then_ret (JE.block_ret ?_))))))
    refine JE.ret0 (.inl rfl) rfl rfl  ?_
    exact ⟨_, fun w h => h, rfl, _, hfin.1, hfin.2, rfl⟩
  case' hf =>
   intro h
   try (first | (exfalso; omega) | (cases h; done) | (exfalso; simp at h; done) | subst h)
   all_goals
    refine J.skip ?_
  all_goals refine JE.then_normal ?_
  all_goals
   refine J.seqK (α := Int × Array Int) (fun q => x + 12 < y ∧ Sort.PermIn x y d1 q.2) (fun q => [(0, .slice (some ⟨g, 0, none⟩) n c), (1, .int .i64 x), (2, .int .i64 y), (3, .int .i64 q.1), (8, .bool wb), (9, .bool wp), (10, .int .i64 ((y - x : Nat) : Int))]) (fun q => arU g q.2 sp :: r) ?hj10 (fun hk10 => ?hf10)
   case hf10 =>
    refine J.seq (J.region (JL.step (y_move rfl) rfl rfl rfl (JL.step (y_not rfl) rfl rfl rfl ?_)))
    refine JL.nil (JE.then_normal ?_)
    first | apply J.cond_dec rfl | apply J.cond rfl
    case' ht =>
     intro h
     try (first | (exfalso; omega) | (cases h; done) | (exfalso; simp at h; done) | subst h)
     all_goals
      refine J.seq (J.region (JL.step (y_move rfl) rfl rfl rfl (JL.step (y_move rfl) rfl rfl rfl (JL.step (y_move rfl) rfl rfl rfl ?_))))
      refine JL.loud rfl (l_callF e99 rfl rfl (Fc.on (Split.cons (by (repeat (first | exact Pick.head | apply Pick.tail | apply Pick.app))) Split.nil) (brkU E g c n x y _ _ d1 sp _ rfl rfl hs1 (by omega) (by omega) h63)) ?_)
      rintro _ _ ⟨rfl, db, hdb, rfl⟩
      refine JL.nil (JE.then_normal (J.region (JL.step (y_move rfl) rfl rfl rfl ?_)))
      refine JL.step (y_sub rfl rfl (by (first | exact wrap_i64 (by omega) (by omega) | rfl))) rfl rfl rfl ?_
      refine JL.step (y_assign rfl) rfl rfl rfl ?_
      refine JL.nil ?_
    case' hf =>
     intro h
     try (first | (exfalso; omega) | (cases h; done) | (exfalso; simp at h; done) | subst h)
     all_goals
      refine J.skip ?_
    all_goals refine JE.then_normal ?_
    all_goals
     first | exact J.closeK hk10 (IntKind.i64.wrap (lm0 - 1), db) ⟨(by omega : x + 12 < y), hdb⟩ ⟨rfl, rfl, rfl, rfl, rfl, rfl, (congrArg (fun z => some (Value.int .i64 z)) (by first | omega | (dsimp only; omega))), trivial⟩ (fun w h => h) | exact J.closeK hk10 (lm0, d1) ⟨(by omega : x + 12 < y), Sort.permIn_refl _ _ _⟩ ⟨rfl, rfl, rfl, rfl, rfl, rfl, (congrArg (fun z => some (Value.int .i64 z)) (by first | omega | (dsimp only; omega))), trivial⟩ (fun w h => h)
   rintro ⟨lm, d2⟩ ⟨hlen, hp2⟩
   try dsimp only at hlen hp2 ⊢
   have hs2 : d2.size = n := by rw [hp2.1]; exact hs1
   refine J.seq (J.region (JL.step (y_move rfl) rfl rfl rfl (JL.step (y_move rfl) rfl rfl rfl (JL.step (y_move rfl) rfl rfl rfl ?_))))
   refine JL.loud rfl (l_callF e100 rfl rfl (Fc.on (Split.cons (by (repeat (first | exact Pick.head | apply Pick.tail | apply Pick.app))) Split.nil) (pivotU E g c n x y _ _ d2 sp _ rfl rfl hs2 (by omega) (by omega) h63)) ?_)
   rintro _ _ ⟨pv, hint, rfl, hv1, hv2, rfl⟩
   refine JL.step (y_move rfl) rfl rfl rfl (JL.step (y_extract rfl rfl) rfl rfl rfl (JL.step (y_extract rfl rfl) rfl rfl rfl (JL.step (y_assign rfl) rfl rfl rfl (JL.step (y_assign rfl) rfl rfl rfl ?_))))
   refine JL.nil (JE.then_normal ?_)
   refine J.seqK (α := Nat × Int × Array Int) (fun q => x ≤ q.1 ∧ q.1 < y ∧ x + 12 < y ∧ Sort.PermIn x y d1 q.2.2) (fun q => [(0, .slice (some ⟨g, 0, none⟩) n c), (1, .int .i64 x), (2, .int .i64 y), (3, .int .i64 lm), (8, .bool wb), (9, .bool wp), (10, .int .i64 ((y - x : Nat) : Int)), (11, .int .i64 q.1), (12, .int .i64 q.2.1)]) (fun q => arU g q.2.2 sp :: r) ?hj15 (fun hk15 => ?hf15)
   case hf15 =>
    refine J.seq (J.region (JL.step (y_move rfl) rfl rfl rfl (JL.step (y_eql rfl rfl) rfl rfl rfl ?_)))
    refine JL.nil (JE.then_normal ?_)
    first | apply J.cond_dec rfl | apply J.cond rfl
    case' ht =>
     intro h
     try (first | (exfalso; omega) | (cases h; done) | (exfalso; simp at h; done) | subst h)
     all_goals
      refine J.seq (J.region (JL.step (y_move rfl) rfl rfl rfl (JL.step (y_move rfl) rfl rfl rfl (JL.step (y_move rfl) rfl rfl rfl ?_))))
      refine JL.loud rfl (l_callF e101 rfl rfl (Fc.on (Split.cons (by (repeat (first | exact Pick.head | apply Pick.tail | apply Pick.app))) Split.nil) (revU E g c n x y _ _ d2 sp _ rfl rfl hs2 (by omega) (by omega) h63)) ?_)
      rintro _ _ ⟨rfl, rfl⟩
      refine JL.nil (JE.then_normal (J.seq (J.region (JL.step (y_move rfl) rfl rfl rfl ?_))))
      refine JL.step (y_sub rfl rfl (by (first | exact wrap_i64 (by omega) (by omega) | rfl))) rfl rfl rfl ?_
      refine JL.step (y_move rfl) rfl rfl rfl (JL.step (y_move rfl) rfl rfl rfl ?_)
      refine JL.step (y_sub rfl rfl (by (first | exact wrap_i64 (by omega) (by omega) | rfl))) rfl rfl rfl ?_
      refine JL.step (y_sub rfl rfl (by (first | exact wrap_i64 (by omega) (by omega) | rfl))) rfl rfl rfl ?_
      refine JL.step (y_assign rfl) rfl rfl rfl ?_
      refine JL.nil (JE.then_normal (J.region (JL.step (y_assign rfl) rfl rfl rfl ?_)))
      refine JL.nil ?_
    case' hf =>
     intro h
     try (first | (exfalso; omega) | (cases h; done) | (exfalso; simp at h; done) | subst h)
     all_goals
      refine J.skip ?_
    all_goals refine JE.then_normal ?_
    all_goals
     first | exact J.closeK hk15 (y - 1 - (pv - x), 1, Sort.reverseRange d2 x y) ⟨by dsimp only; omega, by dsimp only; omega, hlen, Sort.permIn_trans _ _ _ _ _ hp2 (Sort.reverseRange_holds d2 x y hxy (by omega))⟩ ⟨rfl, rfl, rfl, rfl, rfl, rfl, rfl, (congrArg (fun z => some (Value.int .i64 z)) (by first | omega | (dsimp only; omega))), rfl, trivial⟩ (fun w h => h) | exact J.closeK hk15 (pv, hint, d2) ⟨hv1, hv2, hlen, hp2⟩ ⟨rfl, rfl, rfl, rfl, rfl, rfl, rfl, rfl, rfl, trivial⟩ (fun w h => h)
   rintro ⟨pv, hint, d2⟩ ⟨hv1, hv2, hlen, hp2⟩
   try dsimp only at hv1 hv2 hlen hp2 ⊢
   have hs2 : d2.size = n := by rw [hp2.1]; exact hs1
   have hB2 := hB1.perm (by omega) hp2
   have hpi := Sort.partialInsertionSort_holds hS d2 x y (by omega) (by omega) hB2
   refine J.seqK (α := Array Int) (fun q => Sort.PermIn x y d1 q) (fun q => [(0, .slice (some ⟨g, 0, none⟩) n c), (1, .int .i64 x), (2, .int .i64 y), (3, .int .i64 lm), (8, .bool wb), (9, .bool wp), (10, .int .i64 ((y - x : Nat) : Int)), (11, .int .i64 pv)]) (fun q => arU g q sp :: r) ?hj17 (fun hk17 => ?hf17)
   case hf17 =>
    refine J.seq (J.region (JL.step (y_move rfl) rfl rfl rfl (JL.step (y_move rfl) rfl rfl rfl ?_)))
    all_goals (first | (refine JL.gsplit_dec rfl rfl rfl (fun h => ?_) (fun h => ?_) <;> try (first | (exfalso; omega) | exact absurd rfl h)) | (refine JL.gsplit rfl rfl rfl (fun h => ?_) (fun h => ?_) <;> try (first | cases h | (exfalso; simp at h; done))) | skip)
    all_goals (first | refine JL.gskip rfl rfl rfl rfl rfl rfl ?_ | refine JL.gskipU rfl rfl rfl rfl rfl ?_ | refine JL.gstep rfl rfl rfl (y_move rfl) rfl rfl ?_)
    all_goals (refine JL.step (y_pick rfl rfl rfl) rfl rfl rfl ?_)
    all_goals (refine JL.step (y_move rfl) rfl rfl rfl ?_)
    all_goals (first | (refine JL.gsplit_dec rfl rfl rfl (fun h => ?_) (fun h => ?_) <;> try (first | (exfalso; omega) | exact absurd rfl h)) | (refine JL.gsplit rfl rfl rfl (fun h => ?_) (fun h => ?_) <;> try (first | cases h | (exfalso; simp at h; done))) | skip)
    all_goals (first | refine JL.gskip rfl rfl rfl rfl rfl rfl ?_ | refine JL.gskipU rfl rfl rfl rfl rfl ?_ | refine JL.gstep rfl rfl rfl (y_move rfl) rfl rfl ?_)
    all_goals (first | refine JL.gskip rfl rfl rfl rfl rfl rfl ?_ | refine JL.gskipU rfl rfl rfl rfl rfl ?_ | refine JL.gstep rfl rfl rfl (y_eql rfl rfl) rfl rfl ?_)
    all_goals (refine JL.step (y_pick rfl rfl rfl) rfl rfl rfl ?_)
    all_goals refine JL.nil (JE.then_normal ?_)
    all_goals
     first | apply J.cond_dec rfl | apply J.cond rfl
     case' ht =>
      intro h
      try (first | (exfalso; omega) | (cases h; done) | (exfalso; simp at h; done) | subst h)
      all_goals
       refine J.seq (J.region (JL.step (y_move rfl) rfl rfl rfl (JL.step (y_move rfl) rfl rfl rfl (JL.step (y_move rfl) rfl rfl rfl ?_))))
       refine JL.loud rfl (l_callF e102 rfl rfl (Fc.on (Split.cons (by (repeat (first | exact Pick.head | apply Pick.tail | apply Pick.app))) Split.nil) (pinsU E g c n x y _ _ d2 sp _ rfl rfl hs2 (by omega) (by omega) h63)) ?_)
       rintro _ _ ⟨rfl, rfl⟩
       refine JL.nil (JE.then_normal ?_)
       first | apply J.cond_dec rfl | apply J.cond rfl
       case' ht =>
        intro h
        try (first | (exfalso; omega) | (cases h; done) | (exfalso; simp at h; done) | subst h)
        all_goals
         have hfin := hg1 _ (Sort.permIn_trans _ _ _ _ _ hp2 hpi.1) (hpi.2 h)
         refine J.ret (JE.then_ret (JE.block_ret (JE.then_ret (JE.block_ret ?_))))
         refine JE.ret0 (.inl rfl) rfl rfl  ?_
         exact ⟨_, fun w h => h, rfl, _, hfin.1, hfin.2, rfl⟩
       case' hf =>
        intro h
        try (first | (exfalso; omega) | (cases h; done) | (exfalso; simp at h; done) | subst h)
        all_goals
         refine J.skip ?_
     case' hf =>
      intro h
      try (first | (exfalso; omega) | (cases h; done) | (exfalso; simp at h; done) | subst h)
      all_goals
       refine J.skip ?_
    all_goals refine JE.then_normal ?_
    all_goals
     first | exact J.closeK hk17 (Sort.partialInsertionSort Sort.ltInt d2 x y).1 (Sort.permIn_trans _ _ _ _ _ hp2 hpi.1) ⟨rfl, rfl, rfl, rfl, rfl, rfl, rfl, rfl, trivial⟩ (fun w h => h) | exact J.closeK hk17 d2 hp2 ⟨rfl, rfl, rfl, rfl, rfl, rfl, rfl, rfl, trivial⟩ (fun w h => h)
   rintro d3 hp3
   try dsimp only at hp3 ⊢
   have hs3 : d3.size = n := by rw [hp3.1]; exact hs1
   have hB3 := hB1.perm (by omega) hp3
   refine J.seq (J.seq ?_)
   by_cases hg : 0 < x
   all_goals
    refine J.draw _ _ [(0, .q), (1, .q), (2, .q), (3, .q), (4, .q), (5, .q), (6, .q), (7, .q), (8, .q), (9, .q), (10, .q), (11, .q), (12, .q), (13, .q), (14, .q)] mixed (by kernel_rfl) (Split.nil) ?_
    refine JM.quiet rfl rfl rfl rfl (fun m => y_move rfl) ?_
    first | refine JM.quiet rfl rfl rfl rfl (fun m => y_gtrB rfl rfl (decide_eq_true (by omega))) ?_ | refine JM.quiet rfl rfl rfl rfl (fun m => y_gtrB rfl rfl (decide_eq_false (by omega))) ?_
    refine JM.quiet rfl rfl rfl rfl (fun m => y_move rfl) ?_
    all_goals (first | refine JM.gskip rfl rfl rfl rfl rfl rfl rfl ?_ | refine JM.gskipU rfl rfl rfl rfl rfl rfl ?_ | refine JM.gquiet rfl rfl rfl rfl rfl rfl (fun m => y_move rfl) ?_)
    all_goals (first | refine JM.gskip rfl rfl rfl rfl rfl rfl rfl ?_ | refine JM.gskipU rfl rfl rfl rfl rfl rfl ?_ | refine JM.gquiet rfl rfl rfl rfl rfl rfl (fun m => y_move rfl) ?_)
    all_goals (first | refine JM.gskip rfl rfl rfl rfl rfl rfl rfl ?_ | refine JM.gskipU rfl rfl rfl rfl rfl rfl ?_ | refine JM.gquiet rfl rfl rfl rfl rfl rfl (fun m => y_sub rfl rfl (by (first | exact wrap_i64 (by omega) (by omega) | rfl))) ?_)
    all_goals (first | refine JM.gskip rfl rfl rfl rfl rfl rfl rfl ?_ | refine JM.gskipU rfl rfl rfl rfl rfl rfl ?_ | refine JM.gquiet rfl rfl rfl rfl rfl rfl (fun m => y_indexAddr_slice hT rfl rfl rfl rfl rfl (by (first | omega | exact Nat.le_of_ble_eq_true rfl | decide | (simp; omega))) (by (first | omega | exact Nat.le_of_ble_eq_true rfl | decide | (simp; omega)))) ?_)
    all_goals (first | refine JM.gskip rfl rfl rfl rfl rfl rfl rfl ?_ | refine JM.gskipU rfl rfl rfl rfl rfl rfl ?_ | refine JM.gquiet rfl rfl rfl rfl rfl rfl (fun m => y_load1 hT rfl rfl rfl (Rd1.arr (i := (x - 1)) (Pick.app m (by (repeat (first | exact Pick.head | apply Pick.tail | apply Pick.app)))) (by (first | assumption | omega | (simp only [Array.size_setIfInBounds]; omega))) (by exact arr_off rfl (by omega)))) ?_)
    all_goals (first | refine JM.gskip rfl rfl rfl rfl rfl rfl rfl ?_ | refine JM.gskipU rfl rfl rfl rfl rfl rfl ?_ | refine JM.gquiet rfl rfl rfl rfl rfl rfl (fun m => y_move rfl) ?_)
    all_goals (first | refine JM.gskip rfl rfl rfl rfl rfl rfl rfl ?_ | refine JM.gskipU rfl rfl rfl rfl rfl rfl ?_ | refine JM.gquiet rfl rfl rfl rfl rfl rfl (fun m => y_move rfl) ?_)
    all_goals (first | refine JM.gskip rfl rfl rfl rfl rfl rfl rfl ?_ | refine JM.gskipU rfl rfl rfl rfl rfl rfl ?_ | refine JM.gquiet rfl rfl rfl rfl rfl rfl (fun m => y_indexAddr_slice hT rfl rfl rfl rfl rfl (by (first | omega | exact Nat.le_of_ble_eq_true rfl | decide | (simp; omega))) (by (first | omega | exact Nat.le_of_ble_eq_true rfl | decide | (simp; omega)))) ?_)
    all_goals (first | refine JM.gskip rfl rfl rfl rfl rfl rfl rfl ?_ | refine JM.gskipU rfl rfl rfl rfl rfl rfl ?_ | refine JM.gquiet rfl rfl rfl rfl rfl rfl (fun m => y_load1 hT rfl rfl rfl (Rd1.arr (i := (pv)) (Pick.app m (by (repeat (first | exact Pick.head | apply Pick.tail | apply Pick.app)))) (by (first | assumption | omega | (simp only [Array.size_setIfInBounds]; omega))) (by exact arr_off rfl (by omega)))) ?_)
    all_goals (first | refine JM.gskip rfl rfl rfl rfl rfl rfl rfl ?_ | refine JM.gskipU rfl rfl rfl rfl rfl rfl ?_ | refine JM.gquiet rfl rfl rfl rfl rfl rfl (fun m => y_callF e103 rfl (lessU E _ _ _)) ?_)
    all_goals (first | refine JM.gskip rfl rfl rfl rfl rfl rfl rfl ?_ | refine JM.gskipU rfl rfl rfl rfl rfl rfl ?_ | refine JM.gquiet rfl rfl rfl rfl rfl rfl (fun m => y_not rfl) ?_)
    all_goals refine JM.quiet rfl rfl rfl rfl (fun m => y_pick rfl rfl rfl) ?_
    all_goals refine JM.nil ?_
   all_goals refine JE.then_normal ?_
   all_goals
    first | apply J.cond_dec rfl | apply J.cond rfl
    case' ht =>
     intro h
     try (first | (exfalso; omega) | (cases h; done) | (exfalso; simp at h; done) | subst h)
     all_goals
      obtain ⟨q1, q2, q3, q4, q5⟩ := Sort.round_eq (mid := (Sort.partitionEqual Sort.ltInt d3 x y pv).1) (d4 := (Sort.partitionEqual Sort.ltInt d3 x y pv).2) hS (Sort.partitionEqual_holds _) hg hv1 hv2 (by omega) hB3 (by simpa using h) rfl
      refine J.seq (J.region (JL.step (y_move rfl) rfl rfl rfl (JL.step (y_move rfl) rfl rfl rfl (JL.step (y_move rfl) rfl rfl rfl (JL.step (y_move rfl) rfl rfl rfl ?_)))))
      refine JL.loud rfl (l_callF e104 rfl rfl (Fc.on (Split.cons (by (repeat (first | exact Pick.head | apply Pick.tail | apply Pick.app))) Split.nil) (partEqU E g c n x y pv _ _ _ d3 sp _ rfl rfl rfl hs3 hv1 hv2 (by omega) h63)) ?_)
      rintro _ _ ⟨rfl, rfl⟩
      refine JL.step (y_assign rfl) rfl rfl rfl ?_
      refine JL.nil (JE.then_normal (J.seq (J.region (JL.step (y_move rfl) rfl rfl rfl (JL.step (y_assign rfl) rfl rfl rfl ?_)))))
      refine JL.nil (JE.then_normal (J.exit (JE.then_exit (JE.block_exit ?_))))
      first
      | exact JE.round (s := (x, y, lm0, wb, wp, d1)) ((Sort.partitionEqual Sort.ltInt d3 x y pv).1, y, lm, wb, wp, (Sort.partitionEqual Sort.ltInt d3 x y pv).2) ⟨by dsimp only; omega, q2, hy, by dsimp only; rw [q3]; exact hs3, q4, fun R k1 k2 => hg1 R (Sort.permIn_trans _ _ _ _ _ hp3 (q5 R k1 k2).1) (q5 R k1 k2).2⟩ ⟨rfl, rfl, rfl, rfl, rfl, rfl, trivial⟩ (fun w h => h) (by dsimp only; omega)
      | exact JE.round (s := (x, y, lm0, wb, wp, d1)) (mid + 1, y, lm, _, ap, dl) ⟨by dsimp only; omega, by dsimp only; omega, hy, by dsimp only; rw [hl1.1, q3]; exact hs3, (q6 dl hl1 hl2).1, fun R k1 k2 => hg1 R (Sort.permIn_trans _ _ _ _ _ hp3 ((q6 dl hl1 hl2).2 R k1 k2).1) ((q6 dl hl1 hl2).2 R k1 k2).2⟩ ⟨rfl, (congrArg (fun z => some (Value.int .i64 z)) (by first | omega | (dsimp only; omega))), rfl, rfl, rfl, rfl, trivial⟩ (fun w h => h) (by dsimp only; omega)
      | exact JE.round (s := (x, y, lm0, wb, wp, d1)) (x, mid, lm, _, ap, dr) ⟨hx, q1, by dsimp only; omega, by dsimp only; rw [hr1.1, q3]; exact hs3, (q7 dr hr1 hr2).1, fun R k1 k2 => hg1 R (Sort.permIn_trans _ _ _ _ _ hp3 ((q7 dr hr1 hr2).2 R k1 k2).1) ((q7 dr hr1 hr2).2 R k1 k2).2⟩ ⟨rfl, rfl, rfl, rfl, rfl, rfl, trivial⟩ (fun w h => h) (by dsimp only; omega)
    case' hf =>
     intro h
     try (first | (exfalso; omega) | (cases h; done) | (exfalso; simp at h; done) | subst h)
     all_goals
      obtain ⟨q1, q2, q3, q4, q5, q6, q7⟩ := Sort.round_part (mid := (Sort.partition Sort.ltInt d3 x y pv).1) (ap := (Sort.partition Sort.ltInt d3 x y pv).2.1) (d4 := (Sort.partition Sort.ltInt d3 x y pv).2.2) hS (Sort.partition_holds _) hv1 hv2 (by omega) hB3 rfl
      refine J.skip ?_
   all_goals refine JE.then_normal ?_
   all_goals
    refine J.seq (J.region (JL.step (y_move rfl) rfl rfl rfl (JL.step (y_move rfl) rfl rfl rfl (JL.step (y_move rfl) rfl rfl rfl (JL.step (y_move rfl) rfl rfl rfl ?_)))))
    refine JL.loud rfl (l_callF e105 rfl rfl (Fc.on (Split.cons (by (repeat (first | exact Pick.head | apply Pick.tail | apply Pick.app))) Split.nil) (partU E g c n x y pv _ _ _ d3 sp _ rfl rfl rfl hs3 hv1 hv2 (by omega) h63)) ?_)
    rintro _ _ ⟨rfl, rfl⟩
    refine JL.step (y_move rfl) rfl rfl rfl (JL.step (y_extract rfl rfl) rfl rfl rfl (JL.step (y_extract rfl rfl) rfl rfl rfl (JL.step (y_assign rfl) rfl rfl rfl (JL.step (y_assign rfl) rfl rfl rfl ?_))))
    refine JL.nil (JE.then_normal (J.seq (J.region ?_)))
    generalize (Sort.partition Sort.ltInt d3 x y pv).1 = mid at *
    generalize (Sort.partition Sort.ltInt d3 x y pv).2.1 = ap at *
    generalize (Sort.partition Sort.ltInt d3 x y pv).2.2 = d4 at *
    refine JL.step (y_move rfl) rfl rfl rfl (JL.step (y_assign rfl) rfl rfl rfl ?_)
    refine JL.nil (JE.then_normal (J.seq (J.region (JL.step (y_move rfl) rfl rfl rfl (JL.step (y_move rfl) rfl rfl rfl ?_)))))
    refine JL.step (y_sub rfl rfl (by (first | exact wrap_i64 (by omega) (by omega) | rfl))) rfl rfl rfl ?_
    refine JL.step (y_move rfl) rfl rfl rfl (JL.step (y_move rfl) rfl rfl rfl ?_)
    refine JL.step (y_sub rfl rfl (by (first | exact wrap_i64 (by omega) (by omega) | rfl))) rfl rfl rfl ?_
    refine JL.step (y_assign rfl) rfl rfl rfl (JL.step (y_assign rfl) rfl rfl rfl ?_)
    refine JL.nil (JE.then_normal (J.seq (J.region (JL.step (y_move rfl) rfl rfl rfl ?_))))
    refine JL.step (y_quo rfl rfl (by decide) (quo_nat (x := y - x) (k := 8) rfl (by omega))) rfl rfl rfl ?_
    refine JL.step (y_assign rfl) rfl rfl rfl ?_
    refine JL.nil (JE.then_normal (J.seq (J.region (JL.step (y_move rfl) rfl rfl rfl (JL.step (y_move rfl) rfl rfl rfl (JL.step (y_lss rfl rfl) rfl rfl rfl ?_))))))
    refine JL.nil (JE.then_normal ?_)
    first | apply J.cond_dec rfl | apply J.cond rfl
    case' ht =>
     intro h
     try (first | (exfalso; omega) | (cases h; done) | (exfalso; simp at h; done) | subst h)
     all_goals
      refine J.seq (J.region (JL.step (y_move rfl) rfl rfl rfl (JL.step (y_move rfl) rfl rfl rfl (JL.step (y_geq rfl rfl) rfl rfl rfl (JL.step (y_assign rfl) rfl rfl rfl ?_)))))
      refine JL.nil (JE.then_normal (J.seq (J.region (JL.step (y_move rfl) rfl rfl rfl (JL.step (y_move rfl) rfl rfl rfl (JL.step (y_move rfl) rfl rfl rfl (JL.step (y_move rfl) rfl rfl rfl ?_)))))))
      refine JL.loud rfl (l_callF e76 rfl rfl (Fc.on (Split.cons (by (repeat (first | exact Pick.head | apply Pick.tail | apply Pick.app))) Split.nil) (ih (mid - x) (by omega) g c n x mid _ _ _ d4 sp _ (Nat.le_refl _) rfl rfl (by rw [q3]; exact hs3) q1 (by omega) q4 h63)) ?_)
      rintro _ _ ⟨rfl, dl, hl1, hl2, rfl⟩
      refine JL.nil (JE.then_normal (J.region (JL.step (y_move rfl) rfl rfl rfl ?_)))
      refine JL.step (y_add rfl rfl (by (first | exact wrap_i64 (by omega) (by omega) | rfl))) rfl rfl rfl ?_
      refine JL.step (y_assign rfl) rfl rfl rfl ?_
      refine JL.nil ?_
    case' hf =>
     intro h
     try (first | (exfalso; omega) | (cases h; done) | (exfalso; simp at h; done) | subst h)
     all_goals
      refine J.seq (J.region (JL.step (y_move rfl) rfl rfl rfl (JL.step (y_move rfl) rfl rfl rfl (JL.step (y_geq rfl rfl) rfl rfl rfl (JL.step (y_assign rfl) rfl rfl rfl ?_)))))
      refine JL.nil (JE.then_normal (J.seq (J.region (JL.step (y_move rfl) rfl rfl rfl (JL.step (y_move rfl) rfl rfl rfl ?_)))))
      refine JL.step (y_add rfl rfl (by (first | exact wrap_i64 (by omega) (by omega) | rfl))) rfl rfl rfl ?_
      refine JL.step (y_move rfl) rfl rfl rfl (JL.step (y_move rfl) rfl rfl rfl ?_)
      refine JL.loud rfl (l_callF e76 rfl rfl (Fc.on (Split.cons (by (repeat (first | exact Pick.head | apply Pick.tail | apply Pick.app))) Split.nil) (ih (y - (mid + 1)) (by omega) g c n (mid + 1) y _ _ _ d4 sp _ (Nat.le_refl _) (by omega) rfl (by rw [q3]; exact hs3) (by omega) (by omega) q5 h63)) ?_)
      rintro _ _ ⟨rfl, dr, hr1, hr2, rfl⟩
      refine JL.nil (JE.then_normal (J.region (JL.step (y_move rfl) rfl rfl rfl (JL.step (y_assign rfl) rfl rfl rfl ?_))))
      refine JL.nil ?_
 all_goals refine JE.block_normal ?_
 all_goals
  first
  | exact JE.round (s := (x, y, lm0, wb, wp, d1)) ((Sort.partitionEqual Sort.ltInt d3 x y pv).1, y, lm, wb, wp, (Sort.partitionEqual Sort.ltInt d3 x y pv).2) ⟨by dsimp only; omega, q2, hy, by dsimp only; rw [q3]; exact hs3, q4, fun R k1 k2 => hg1 R (Sort.permIn_trans _ _ _ _ _ hp3 (q5 R k1 k2).1) (q5 R k1 k2).2⟩ ⟨rfl, rfl, rfl, rfl, rfl, rfl, trivial⟩ (fun w h => h) (by dsimp only; omega)
  | exact JE.round (s := (x, y, lm0, wb, wp, d1)) (mid + 1, y, lm, _, ap, dl) ⟨by dsimp only; omega, by dsimp only; omega, hy, by dsimp only; rw [hl1.1, q3]; exact hs3, (q6 dl hl1 hl2).1, fun R k1 k2 => hg1 R (Sort.permIn_trans _ _ _ _ _ hp3 ((q6 dl hl1 hl2).2 R k1 k2).1) ((q6 dl hl1 hl2).2 R k1 k2).2⟩ ⟨rfl, (congrArg (fun z => some (Value.int .i64 z)) (by first | omega | (dsimp only; omega))), rfl, rfl, rfl, rfl, trivial⟩ (fun w h => h) (by dsimp only; omega)
  | exact JE.round (s := (x, y, lm0, wb, wp, d1)) (x, mid, lm, _, ap, dr) ⟨hx, q1, by dsimp only; omega, by dsimp only; rw [hr1.1, q3]; exact hs3, (q7 dr hr1 hr2).1, fun R k1 k2 => hg1 R (Sort.permIn_trans _ _ _ _ _ hp3 ((q7 dr hr1 hr2).2 R k1 k2).1) ((q7 dr hr1 hr2).2 R k1 k2).2⟩ ⟨rfl, rfl, rfl, rfl, rfl, rfl, trivial⟩ (fun w h => h) (by dsimp only; omega)
end
end
section
open Go Go.SL
section
attribute [local irreducible] J JL JE JM LS Y Fc RV Code.wp wpList Code.wpIn wpListIn
attribute [local irreducible] Yc
attribute [local irreducible] Sort.ltInt
variable (E : World)
theorem insNilU (r : List HProp) : Fc prog E 97 [.slice none 0 0, .int .i64 0, .int .i64 0].toArray r (fun v l' => v = .tuple #[] ∧ l' = r) := by
 refine Fc.of_body (c := ?codeC) Tryd.func97 ?hb Tryd.ntmps97 ?hl ?_
 case hb => exact rfl
 case hl => exact rfl
 refine J.seq (J.region (JL.step (y_move rfl) rfl rfl rfl ?_))
 refine JL.step (y_add rfl rfl (by (first | exact wrap_i64 (by omega) (by omega) | rfl))) rfl rfl rfl ?_
 refine JL.step (y_assign rfl) rfl rfl rfl ?_
 refine JL.nil (JE.then_normal (J.block ?_))
 refine J.loop (α := Unit) (fun _ => True) (fun _ => [(2, .int .i64 0), (6, .int .i64 1)]) (fun _ => r) (fun _ => 0) () trivial ⟨rfl, rfl, trivial⟩ (fun w h => h) ?_
 rintro _ _
 refine J.seq (J.seq (J.region (JL.step (y_move rfl) rfl rfl rfl (JL.step (y_move rfl) rfl rfl rfl (JL.step (y_lss rfl rfl) rfl rfl rfl ?_)))))
 refine JL.nil (JE.then_normal ?_)
 refine J.cond_f rfl (by (first | rfl | assumption | (simp; done) | (simp; omega))) ?_
 refine J.exit (JE.then_exit (JE.then_exit (JE.block_exit ?_)))
 refine JE.ret0 (.inr rfl) rfl rfl  ?_
 exact ⟨rfl, rfl⟩
theorem pdqNilU (lim : Int) (r : List HProp) : Fc prog E 76 [.slice none 0 0, .int .i64 0, .int .i64 0, .int .i64 lim].toArray r (fun v l' => v = .tuple #[] ∧ l' = r) := by
 refine Fc.of_body (c := ?codeC) Tryd.func76 ?hb Tryd.ntmps76 ?hl ?_
 case hb => exact rfl
 case hl => exact rfl
 refine J.seq (J.region (JL.step (y_assign rfl) rfl rfl rfl ?_))
 refine JL.nil (JE.then_normal (J.seq (J.region (JL.step (y_assign rfl) rfl rfl rfl ?_))))
 refine JL.nil (JE.then_normal (J.block ?_))
 refine J.loop (α := Unit) (fun _ => True) (fun _ => [(0, .slice none 0 0), (1, .int .i64 0), (2, .int .i64 0)]) (fun _ => r) (fun _ => 0) () trivial ⟨rfl, rfl, rfl, trivial⟩ (fun w h => h) ?_
 rintro _ _
 refine J.block (J.seq (J.region (JL.step (y_move rfl) rfl rfl rfl (JL.step (y_move rfl) rfl rfl rfl ?_))))
 refine JL.step (y_sub rfl rfl (by (first | exact wrap_i64 (by omega) (by omega) | rfl))) rfl rfl rfl ?_
 refine JL.step (y_assign rfl) rfl rfl rfl ?_
 refine JL.nil (JE.then_normal (J.seq (J.seq (J.region (JL.step (y_move rfl) rfl rfl rfl (JL.step (y_leq rfl rfl) rfl rfl rfl ?_))))))
 refine JL.nil (JE.then_normal ?_)
 refine J.cond_t rfl (by (first | rfl | assumption | (simp; done) | (simp; omega))) ?_
 refine J.seq (J.region (JL.step (y_move rfl) rfl rfl rfl (JL.step (y_move rfl) rfl rfl rfl (JL.step (y_move rfl) rfl rfl rfl ?_))))
 refine JL.loud rfl (l_callF e97 rfl rfl (insNilU E _) ?_)
 rintro _ _ ⟨rfl, rfl⟩
 refine JL.nil (JE.then_normal (J.ret (JE.then_ret (JE.block_ret (JE.then_ret (JE.block_ret ?_))))))
 refine JE.ret0 (.inl rfl) rfl rfl  ?_
 exact ⟨rfl, rfl⟩
theorem sortNilU (r : List HProp) : Fc prog E 64 [.slice none 0 0].toArray r (fun v l' => v = .tuple #[] ∧ l' = r) := by
 refine Fc.of_body (c := ?codeC) Tryd.func64 ?hb Tryd.ntmps64 ?hl ?_
 case hb => exact rfl
 case hl => exact rfl
 refine J.seq (J.region (JL.step (y_move rfl) rfl rfl rfl (JL.step (y_len_slice hT rfl rfl rfl) rfl rfl rfl (JL.step (y_assign rfl) rfl rfl rfl ?_))))
 refine JL.nil (JE.then_normal (J.region (JL.step (y_move rfl) rfl rfl rfl (JL.step (y_move rfl) rfl rfl rfl (JL.step (y_move rfl) rfl rfl rfl ?_)))))
 refine JL.step (y_conv (m := 0) hT rfl rfl rfl rfl rfl) rfl rfl rfl ?_
 refine JL.loud rfl (l_callF e74 rfl rfl (lenU E _ 0 _ rfl (by omega)) ?_)
 rintro _ _ ⟨k, rfl, _, _, rfl⟩
 refine JL.loud rfl (l_callF e76 rfl rfl (pdqNilU E _ _) ?_)
 rintro _ _ ⟨rfl, rfl⟩
 refine JL.nil ?_
 all_goals
  refine JE.ret0 (.inr rfl) rfl rfl  ?_
  exact ⟨rfl, rfl⟩
theorem sortRowU (hS : Sort.SWO Sort.ltInt) (g c n : Nat) (d : Array Int) (sp : List Value) (r : List HProp) (hn : d.size = n) (h63 : n < 4611686018427387904) :
 Fc prog E 64 [.slice (some ⟨g, 0, none⟩) n c].toArray (arU g d sp :: r) (fun v l' => v = .tuple #[] ∧ ∃ d', Sort.PermIn 0 n d d' ∧ Sort.SortedIn Sort.ltInt 0 n d' ∧ l' = arU g d' sp :: r) := by
 refine Fc.post ?_
 refine Fc.of_body (c := ?codeC) Tryd.func64 ?hb Tryd.ntmps64 ?hl ?_
 case hb => exact rfl
 case hl => exact rfl
 refine J.seq (J.region (JL.step (y_move rfl) rfl rfl rfl (JL.step (y_len_slice hT rfl rfl rfl) rfl rfl rfl (JL.step (y_assign rfl) rfl rfl rfl ?_))))
 refine JL.nil (JE.then_normal (J.region (JL.step (y_move rfl) rfl rfl rfl (JL.step (y_move rfl) rfl rfl rfl (JL.step (y_move rfl) rfl rfl rfl ?_)))))
 refine JL.step (y_conv (m := (n : Int)) hT rfl rfl rfl rfl (wrap_u64n (by omega))) rfl rfl rfl ?_
 refine JL.loud rfl (l_callF e74 rfl rfl (lenU E _ n _ rfl (by omega)) ?_)
 rintro _ _ ⟨k, rfl, _, _, rfl⟩
 refine JL.loud rfl (l_callF e76 rfl rfl (Fc.on (Split.cons (by (repeat (first | exact Pick.head | apply Pick.tail | apply Pick.app))) Split.nil) (pdqU E hS (n - 0) g c n 0 n _ _ _ d sp _ (Nat.le_refl _) rfl rfl hn (Nat.zero_le _) (Nat.le_refl _) (.inl rfl) h63)) ?_)
 rintro _ _ ⟨rfl, d2, h1, h2, rfl⟩
 refine JL.nil ?_
 all_goals
  refine JE.ret0 (.inr rfl) rfl rfl  ?_
  exact ⟨_, fun w h => h, rfl, d2, h1, h2, rfl⟩
theorem sortU (hS : Sort.SWO Sort.ltInt) (n : Nat) (v : Value) (zs : List Int) (r : List HProp) (hz : zs.length = n) (h63 : n < 4611686018427387904) :
 Fc prog E 64 [v].toArray (own 35 1 v n (zs.map (Value.int .u64)) :: r) (fun u l' => u = .tuple #[] ∧ ∃ ys : List Int, ys.Perm zs ∧ (ys.Pairwise fun x y => Sort.ltInt y x = false) ∧ l' = own 35 1 v n (ys.map (Value.int .u64)) :: r) := by
 refine Fc.owns (fun e1 e2 e3 => ?_) (fun g cap sp e1 h1 h2 h3 h4 => ?_)
 · subst e1 e2
   obtain rfl : zs = [] := List.eq_nil_of_length_eq_zero hz
   exact Fc.post ((sortNilU E r).mono fun u l' ⟨a, b⟩ => ⟨own 35 1 (.slice none 0 0) 0 [] :: r, fun w h => Sat.own_nil (b ▸ h), a, [], List.Perm.refl _, List.Pairwise.nil, rfl⟩)
 · subst e1
   have hd : zs.toArray.size = n := by simpa using hz
   refine Fc.post (((sortRowU E hS g cap n zs.toArray sp r hd h63).imp fun w s => ?_).mono fun u l' ⟨a, d', p1, p2, b⟩ => ?_)
   · have e : zs.map (Value.int .u64) = zs.toArray.toList.flatMap fun x => [(Value.int .u64) x] := List.map_eq_flatMap
     rw [e] at s
     exact s
   · have hl : d'.toList.length = n := by rw [Array.length_toList, p1.1]; exact hd
     refine ⟨own 35 1 (.slice (some ⟨g, 0, none⟩) n cap) n (d'.toList.map (Value.int .u64)) :: r, fun w h => ?_, a, d'.toList, perm_in hd p1, sorted_in (p1.1.trans hd) p2, rfl⟩
     have e : d'.toList.map (Value.int .u64) = d'.toList.flatMap fun x => [(Value.int .u64) x] := List.map_eq_flatMap
     have s : Sat E (stars (row g 35 (d'.toList.map (Value.int .u64) ++ sp) :: r)) w := by
      rw [e]
      rw [b] at h
      exact h
     refine s.owned h1 h2 (by rw [List.length_map, hl, Nat.mul_one]) ?_
     rw [List.length_append, List.length_map] at h4 ⊢
     omega
end
end
section
open Go Go.SL
section
attribute [local irreducible] J JL JE JM LS Y Fc RV Code.wp wpList Code.wpIn wpListIn
attribute [local irreducible] Yc Sort.ltInt
variable (E : World)
def IterU (fi : FuncId) (b N : Nat) (Q : List Int → Prop) (A : HProp) (l : List HProp) : Prop :=
 ∀ (k : Nat) (St : List Int → List HProp), (∀ (fr : List HProp) (vs : List Int) (a : Int), vs.length < N → Yc prog E k [Value.int .u64 a].toArray (St vs ++ fr) (fun v l' => v = .bool true ∧ l' = St (vs ++ [a]) ++ fr)) →
  Fc prog E fi [.func (.yield k) #[] #[], Value.pointer (some ⟨b, 0, none⟩)].toArray (A :: (St [] ++ l)) (fun _ l' => ∃ vs, Q vs ∧ l' = A :: (St vs ++ l))
def numsM (bo : Nat) (vs : List Int) : HProp := pk fun q : Option Addr × Nat => [row bo 32 [.slice q.1 vs.length q.2], own 35 1 (.slice q.1 vs.length q.2) vs.length (vs.map (Value.int .u64))]
theorem aseqU {fi : FuncId} {b N : Nat} {Q : List Int → Prop} {A : HProp} {l : List HProp} (eF : Ent prog fi) (hI : IterU E fi b N Q A l) (hN : N ≤ 1000000) :
 Fc prog E 75 [.slice none 0 0, .func (.func fi) #[] [Value.pointer (some ⟨b, 0, none⟩)].toArray].toArray (A :: l)
  (fun v l' => ∃ (vs : List Int) (a : Option Addr) (c : Nat), Q vs ∧ v = .slice a vs.length c ∧ l' = own 35 1 v vs.length (vs.map (Value.int .u64)) :: A :: l) := by
 refine Fc.post ?_
 refine Fc.of_bodyM (c := ?codeC) Tryd.func75 ?hb Tryd.ntmps75 ?hl ?_
 case hb => exact rfl
 case hl => exact rfl
 refine J.seq (J.region ?_)
 refine JL.loud rfl (l_box rfl (by (first | rfl | simp)) rfl (fun b1 => ?_))
 refine JL.step (y_assign rfl) rfl rfl rfl ?_
 refine JL.nil (JE.then_normal (J.seq (J.seq (J.region (JL.step (y_move rfl) rfl rfl rfl ?_)))))
 refine JL.nil (JE.then_normal (J.block ?_))
 refine J.rangeFunc eF rfl fun fn a0 k DD K hK hf0 => ?_
 refine Fc.mono (Fc.imp (hI k (fun vs => [numsM b1 vs, K .ready none, blk DD (.deferred (some []))]) (fun fr vs a hlt => ?hy)) ?hi) ?hm
 case hi =>
  intro w s
  have s2 := s.own_nil (e := 35) (size := 1)
  have s3 := s2.divide (p := [row b1 32 [.slice none 0 0], own 35 1 (.slice none 0 0) 0 []]) (Split.cons (by (repeat (first | exact Pick.head | apply Pick.tail | apply Pick.app))) (Split.cons (by (repeat (first | exact Pick.head | apply Pick.tail | apply Pick.app))) Split.nil))
  have s5 : Sat E (stars (numsM b1 [] :: _)) w := s3.topk (none, 0)
  exact s5.sup (by (repeat (first | exact Sup.refl | apply Sup.cons (by (repeat (first | exact Pick.head | apply Pick.tail | apply Pick.app))) | apply Sup.app | apply Sup.skip | apply Sup.skips)))
 case hy =>
  unfold numsM
  refine Yc.split (p := [pk _]) (Yc.pks fun q => ?_) (Split.cons Pick.head Split.nil)
  obtain ⟨qa, qc⟩ := q
  dsimp only
  refine Yc.split (p := [K .ready none]) ?_ (Split.cons (by (repeat (first | exact Pick.head | apply Pick.tail | apply Pick.app))) Split.nil)
  refine Yc.post ?_
  refine Yc.of_body hK hf0 rfl (by decide) ?_
  refine J.region (JL.step (y_assign rfl) rfl rfl rfl ?_)
  refine JL.nil ?_
  refine JE.assigned (by (repeat (first | exact Pick.head | apply Pick.tail | apply Pick.app))) ?_
  refine J.block (J.region ?_)
  refine JL.step (y_load1 hT rfl rfl rfl (by (exact Rd1.row (by (repeat (first | exact Pick.head | apply Pick.tail | apply Pick.app))) (by rfl)))) rfl rfl rfl ?_
  refine JL.step (y_move rfl) rfl rfl rfl ?_
  refine JL.loud rfl (l_buildSliceP hT rfl rfl rfl rfl rfl rfl rfl (by (first | exact fill_one rfl (by first | assumption | rfl | (simp; done)) | rfl | simp)) rfl (fun b2 => ?_))
  refine JL.loud rfl (l_append hT rfl rfl rfl rfl rfl rfl rfl rfl (by (repeat (first | exact Pick.head | apply Pick.tail | apply Pick.app))) (by (first | exact RdN.rowAll (by (repeat (first | exact Pick.head | apply Pick.tail | apply Pick.app))) | exact RdN.own (by (repeat (first | exact Pick.head | apply Pick.tail | apply Pick.app))))) (by (first | rfl | assumption | (simp; done) | omega)) (by (first | assumption | exact ones_of rfl | exact encW_one _ | exact encB_one _ | (intro u hu; simp at hu; rcases hu with rfl | rfl <;> rfl) | (intro u hu; simp at hu; subst hu; rfl) | simp)) (by rw [show i35.bytes = 8 from rfl]; omega) (by omega) rfl (fun na nc hnc => ?_))
  refine JL.loud rfl (l_store1 hT rfl rfl rfl rfl rfl (by (repeat (first | exact Pick.head | apply Pick.tail | apply Pick.app))) (by (first | omega | exact Nat.le_of_ble_eq_true rfl | decide | (simp; omega))) ?_)
  refine JL.nil (JE.block_normal ?_)
  all_goals
   refine JE.round_on hK (by (repeat (first | exact Pick.head | apply Pick.tail | apply Pick.app))) ?_
   refine ⟨[numsM b1 (vs ++ [a]), K .ready none, blk DD (.deferred (some []))] ++ fr, fun w q => ?_, rfl, rfl⟩
   have q1 := q.sup (p := row b1 32 [.slice na (vs.length + 1) nc] :: own 35 1 (.slice na (vs.length + 1) nc) (vs.length + 1) (vs.map (Value.int .u64) ++ [(Value.int .u64) a]) :: K .ready none :: blk DD (.deferred (some [])) :: fr) (by (repeat (first | exact Sup.refl | apply Sup.cons (by (repeat (first | exact Pick.head | apply Pick.tail | apply Pick.app))) | apply Sup.app | apply Sup.skip | apply Sup.skips)))
   refine Sat.topk (F := fun q : Option Addr × Nat => [row b1 32 [.slice q.1 (vs ++ [a]).length q.2], own 35 1 (.slice q.1 (vs ++ [a]).length q.2) (vs ++ [a]).length ((vs ++ [a]).map (Value.int .u64))]) (na, nc) ?_
   dsimp only
   rw [List.length_append, List.map_append]
   exact q1
 case hm =>
  rintro _ _ ⟨vs, hvp, rfl⟩
  refine ⟨.ready, none, _, by (repeat (first | exact Pick.head | apply Pick.tail | apply Pick.app)), by simp, ?_⟩
  dsimp only
  unfold numsM
  refine JE.picks (Pick.tail Pick.head) (JE.pks fun q => ?_)
  obtain ⟨qa, qc⟩ := q
  dsimp only
  refine JE.block_normal (JE.then_normal (J.seq (J.region ?_)))
  refine JL.step (y_load1 hT rfl rfl rfl (by (exact Rd1.row (by (repeat (first | exact Pick.head | apply Pick.tail | apply Pick.app))) (by rfl)))) rfl rfl rfl ?_
  refine JL.step (y_assign rfl) rfl rfl rfl ?_
  refine JL.nil (JE.then_normal (J.ret ?_))
  first | refine JE.unmark (.inl rfl) rfl (by (repeat (first | exact Pick.head | apply Pick.tail | apply Pick.app))) ?_ | refine JE.nomark (.inl rfl) rfl ?_
  refine JE.ret1 (.inl rfl) rfl rfl (by (first | exact RV.tmp rfl | exact RV.cell1 hT rfl rfl rfl (by (exact Rd1.row (by (repeat (first | exact Pick.head | apply Pick.tail | apply Pick.app))) (by rfl))) | exact RV.cellN hT rfl rfl rfl (by (first | exact RdN.rowAll (by (repeat (first | exact Pick.head | apply Pick.tail | apply Pick.app))) | exact RdN.own (by (repeat (first | exact Pick.head | apply Pick.tail | apply Pick.app))))) (by (first | rfl | assumption | (simp; done) | omega)))) ?_
  exact ⟨_, fun w h => h.sup (by (repeat (first | exact Sup.refl | apply Sup.cons (by (repeat (first | exact Pick.head | apply Pick.tail | apply Pick.app))) | apply Sup.app | apply Sup.skip | apply Sup.skips))), vs, qa, qc, hvp, rfl, rfl⟩
theorem collectU {fi : FuncId} {b N : Nat} {Q : List Int → Prop} {A : HProp} {l : List HProp} (eF : Ent prog fi) (hI : IterU E fi b N Q A l) (hN : N ≤ 1000000) :
 Fc prog E 63 [.func (.func fi) #[] [Value.pointer (some ⟨b, 0, none⟩)].toArray].toArray (A :: l)
  (fun v l' => ∃ (vs : List Int) (a : Option Addr) (c : Nat), Q vs ∧ v = .slice a vs.length c ∧ l' = own 35 1 v vs.length (vs.map (Value.int .u64)) :: A :: l) := by
 refine Fc.post ?_
 refine Fc.of_body (c := ?codeC) Tryd.func63 ?hb Tryd.ntmps63 ?hl ?_
 case hb => exact rfl
 case hl => exact rfl
 refine J.seq (J.region (JL.step (y_assign rfl) rfl rfl rfl ?_))
 refine JL.nil (JE.then_normal (J.seq (J.region (JL.step (y_move rfl) rfl rfl rfl ?_))))
 refine JL.loud rfl (l_callF e75 rfl rfl (aseqU E eF hI hN) ?_)
 rintro _ _ ⟨vs, a, c, h1, rfl, rfl⟩
 refine JL.step (y_assign rfl) rfl rfl rfl ?_
 refine JL.nil (JE.then_normal (J.ret ?_))
 refine JE.ret1 (.inl rfl) rfl rfl (by (first | exact RV.tmp rfl | exact RV.cell1 hT rfl rfl rfl (by (exact Rd1.row (by (repeat (first | exact Pick.head | apply Pick.tail | apply Pick.app))) (by rfl))) | exact RV.cellN hT rfl rfl rfl (by (first | exact RdN.rowAll (by (repeat (first | exact Pick.head | apply Pick.tail | apply Pick.app))) | exact RdN.own (by (repeat (first | exact Pick.head | apply Pick.tail | apply Pick.app))))) (by (first | rfl | assumption | (simp; done) | omega)))) ?_
 exact ⟨_, fun w h => h.sup (by (repeat (first | exact Sup.refl | apply Sup.cons (by (repeat (first | exact Pick.head | apply Pick.tail | apply Pick.app))) | apply Sup.app | apply Sup.skip | apply Sup.skips))), vs, a, c, h1, rfl, rfl⟩
theorem sortedU {fi : FuncId} {b N : Nat} {Q : List Int → Prop} {A : HProp} {l : List HProp} (eF : Ent prog fi) (hI : IterU E fi b N Q A l) (hN : N ≤ 1000000) (hQ : ∀ vs, Q vs → vs.length ≤ N) :
 Fc prog E 42 [.func (.func fi) #[] [Value.pointer (some ⟨b, 0, none⟩)].toArray].toArray (A :: l)
  (fun v l' => ∃ (us vs : List Int) (a : Option Addr) (c : Nat), Q us ∧ vs.Perm us ∧ (vs.Pairwise fun x y => Sort.ltInt y x = false) ∧ v = .slice a vs.length c ∧ l' = own 35 1 v vs.length (vs.map (Value.int .u64)) :: A :: l) := by
 refine Fc.post ?_
 refine Fc.of_body (c := ?codeC) Tryd.func42 ?hb Tryd.ntmps42 ?hl ?_
 case hb => exact rfl
 case hl => exact rfl
 refine J.seq (J.region (JL.step (y_assign rfl) rfl rfl rfl ?_))
 refine JL.nil (JE.then_normal (J.seq (J.region (JL.step (y_move rfl) rfl rfl rfl ?_))))
 refine JL.loud rfl (l_callF e63 rfl rfl (collectU E eF hI hN) ?_)
 rintro _ _ ⟨us, a, c, h1, rfl, rfl⟩
 refine JL.step (y_assign rfl) rfl rfl rfl ?_
 refine JL.nil (JE.then_normal (J.seq (J.region ?_)))
 have hvl := hQ us h1
 refine JL.step (y_move rfl) rfl rfl rfl ?_
 refine JL.loud rfl (l_callF e64 rfl rfl (Fc.on (Split.cons (by (repeat (first | exact Pick.head | apply Pick.tail | apply Pick.app))) Split.nil) (sortU E Sort.swo_ltInt us.length _ us _ rfl (by omega))) ?_)
 rintro _ _ ⟨rfl, ys, h2, h3, rfl⟩
 refine JL.nil (JE.then_normal (J.seq (J.region (JL.step (y_move rfl) rfl rfl rfl (JL.step (y_assign rfl) rfl rfl rfl ?_)))))
 refine JL.nil (JE.then_normal (J.ret ?_))
 refine JE.ret1 (.inl rfl) rfl rfl (by (first | exact RV.tmp rfl | exact RV.cell1 hT rfl rfl rfl (by (exact Rd1.row (by (repeat (first | exact Pick.head | apply Pick.tail | apply Pick.app))) (by rfl))) | exact RV.cellN hT rfl rfl rfl (by (first | exact RdN.rowAll (by (repeat (first | exact Pick.head | apply Pick.tail | apply Pick.app))) | exact RdN.own (by (repeat (first | exact Pick.head | apply Pick.tail | apply Pick.app))))) (by (first | rfl | assumption | (simp; done) | omega)))) ?_
 rw [← h2.length_eq]
 exact ⟨_, fun w h => h.sup (by (repeat (first | exact Sup.refl | apply Sup.cons (by (repeat (first | exact Pick.head | apply Pick.tail | apply Pick.app))) | apply Sup.app | apply Sup.skip | apply Sup.skips))), us, ys, a, c, h1, h2, h3, rfl, rfl⟩
theorem valuesU_spec (p : Option Addr) (n c : Nat) (l : List HProp) : Fc prog E 43 [.slice p n c].toArray l (fun u l' => ∃ b, u = .func (.func 65) #[] [Value.pointer (some ⟨b, 0, none⟩)].toArray ∧ l' = row b 32 [.slice p n c] :: l) := by
 refine Fc.of_body (c := ?codeC) Tryd.func43 ?hb Tryd.ntmps43 ?hl ?_
 case hb => exact rfl
 case hl => exact rfl
 refine J.seq (J.region ?_)
 refine JL.loud rfl (l_box rfl (by (first | rfl | simp)) rfl (fun b1 => ?_))
 refine JL.step (y_assign rfl) rfl rfl rfl ?_
 refine JL.nil (JE.then_normal (J.seq (J.region (JL.step (y_makeFunc rfl rfl) rfl rfl rfl (JL.step (y_assign rfl) rfl rfl rfl ?_)))))
 refine JL.nil (JE.then_normal (J.ret ?_))
 refine JE.ret1 (.inl rfl) rfl rfl (by (first | exact RV.tmp rfl | exact RV.cell1 hT rfl rfl rfl (by (exact Rd1.row (by (repeat (first | exact Pick.head | apply Pick.tail | apply Pick.app))) (by rfl))) | exact RV.cellN hT rfl rfl rfl (by (first | exact RdN.rowAll (by (repeat (first | exact Pick.head | apply Pick.tail | apply Pick.app))) | exact RdN.own (by (repeat (first | exact Pick.head | apply Pick.tail | apply Pick.app))))) (by (first | rfl | assumption | (simp; done) | omega)))) ?_
 exact ⟨b1, rfl, rfl⟩
theorem valuesU_each (p : Option Addr) (n c b : Nat) (xs : List Int) (l : List HProp) (hn : xs.length = n) (hn8 : n ≤ 1000000) (hin : InL l p n c (ints .u64 xs)) :
 IterU E 65 b n (fun vs => vs = xs) (row b 32 [.slice p n c]) l := by
 intro k St hy
 refine Fc.post ?_
 refine Fc.of_body (c := ?codeC) Tryd.func65 ?hb Tryd.ntmps65 ?hl ?_
 case hb => exact rfl
 case hl => exact rfl
 refine J.seq (J.region ?_)
 refine JL.step (y_load1 hT rfl rfl rfl (by (exact Rd1.row (by (repeat (first | exact Pick.head | apply Pick.tail | apply Pick.app))) (by rfl)))) rfl rfl rfl ?_
 refine JL.step (y_len_slice hT rfl rfl rfl) rfl rfl rfl (JL.step (y_move rfl) rfl rfl rfl ?_)
 refine JL.nil (JE.then_normal (J.block ?_))
 refine J.loop (α := Nat) (fun i => i ≤ n) (fun i => [(0, .func (.yield k) #[] #[]), (1, .pointer (some ⟨b, 0, none⟩)), (5, .slice p n c), (6, .int .i64 n), (7, .int .i64 i)]) (fun i => row b 32 [.slice p n c] :: (St (xs.take i) ++ l)) (fun i => n - i) 0 (Nat.zero_le _) ⟨rfl, rfl, rfl, rfl, rfl, trivial⟩ (fun w h => h) ?_
 intro i hi
 try dsimp only
 refine J.seq (J.region (JL.step (y_lss rfl rfl) rfl rfl rfl ?_))
 refine JL.nil (JE.then_normal (J.seq ?_))
 first | apply J.cond_dec rfl | apply J.cond rfl
 case' ht =>
  intro h
  try (first | (exfalso; omega) | (cases h; done) | (exfalso; simp at h; done) | subst h)
  all_goals
   refine J.skip ?_
 case' hf =>
  intro h
  try (first | (exfalso; omega) | (cases h; done) | (exfalso; simp at h; done) | subst h)
  all_goals
   refine J.exit (JE.then_exit (JE.then_exit (JE.block_exit ?_)))
   refine JE.ret0 (.inr rfl) rfl rfl  ?_
   obtain rfl : i = n := by omega
   exact ⟨_, fun w h => h, _, rfl, by rw [List.take_of_length_le (by omega)]⟩
 all_goals refine JE.then_normal ?_
 all_goals
  refine J.seq (J.block (J.seq (J.region ?_)))
  have hlt : i < n := by omega
  obtain ⟨x, hh⟩ : ∃ x, xs[i]? = some x := ⟨xs[i]'(by omega), List.getElem?_eq_getElem _⟩
  have hst : xs.take (i + 1) = xs.take i ++ [x] := by rw [List.take_add_one, hh]; rfl
  obtain ⟨g, o, rfl, hr⟩ := hin.addr (by omega)
  refine JL.step (y_indexAddr_slice hT rfl rfl rfl rfl rfl (by (first | omega | exact Nat.le_of_ble_eq_true rfl | decide | (simp; omega))) (by (first | omega | exact Nat.le_of_ble_eq_true rfl | decide | (simp; omega)))) rfl rfl rfl ?_
  refine JL.step (y_load1 hT rfl rfl rfl (Rd1.elem (((hr []).app (St (xs.take i))).cons _) (by rw [Int.toNat_natCast]; unfold ints; rw [List.getElem?_map, hh]; rfl))) rfl rfl rfl ?_
  refine JL.step (y_assign rfl) rfl rfl rfl ?_
  refine JL.nil (JE.then_normal (J.seq (J.region (JL.step (y_move rfl) rfl rfl rfl (JL.step (y_move rfl) rfl rfl rfl ?_)))))
  refine JL.yield rfl rfl rfl (Yc.imp (hy _ (xs.take i) x (by rw [List.length_take]; omega)) (fun w h => Sat.rot (p := [_]) (g := St (xs.take i)) h)) ?_
  rintro _ _ ⟨rfl, rfl⟩
  all_goals (refine JL.step (y_not rfl) rfl rfl rfl ?_)
  all_goals refine JL.nil (JE.then_normal ?_)
  all_goals
   refine J.cond_f rfl (by (first | rfl | assumption | (simp; done) | (simp; omega))) ?_
   refine J.skip ?_
  all_goals refine JE.block_normal (JE.then_normal ?_)
  all_goals
   refine J.region ?_
   refine JL.step (y_add rfl rfl (by (first | exact wrap_i64 (by omega) (by omega) | rfl))) rfl rfl rfl ?_
   refine JL.step (y_move rfl) rfl rfl rfl ?_
   refine JL.nil ?_
 all_goals
  exact JE.round (s := i) (i + 1) (by omega) ⟨rfl, rfl, rfl, rfl, rfl, trivial⟩ (fun w h => by
   rw [hst]
   exact Sat.rot (p := St (xs.take i ++ [x])) (g := [row b 32 [.slice (some ⟨g, o, none⟩) n c]]) h) (by omega)
end
section
attribute [local irreducible] J JL JE JM LS Y Fc RV Code.wp wpList Code.wpIn wpListIn
attribute [local irreducible] Yc
variable (E : World)
theorem oneU : OneCell (Value.int .u64) := fun _ => rfl
theorem compact_nil (r : List HProp) : Fc prog E 41 [.slice none 0 0].toArray r (fun v l' => v = .slice none 0 0 ∧ l' = r) := by
 refine Fc.of_body (c := ?codeC) Tryd.func41 ?hb Tryd.ntmps41 ?hl ?_
 case hb => exact rfl
 case hl => exact rfl
 refine J.seq (J.region (JL.step (y_assign rfl) rfl rfl rfl ?_))
 refine JL.nil (JE.then_normal (J.seq (J.seq (J.region (JL.step (y_move rfl) rfl rfl rfl (JL.step (y_len_slice hT rfl rfl rfl) rfl rfl rfl (JL.step (y_lss rfl rfl) rfl rfl rfl ?_)))))))
 refine JL.nil (JE.then_normal ?_)
 refine J.cond_t rfl (by (first | rfl | assumption | (simp; done) | (simp; omega))) ?_
 refine J.seq (J.region (JL.step (y_move rfl) rfl rfl rfl (JL.step (y_assign rfl) rfl rfl rfl ?_)))
 refine JL.nil (JE.then_normal (J.ret (JE.then_ret ?_)))
 refine JE.ret1 (.inl rfl) rfl rfl (by (first | exact RV.tmp rfl | exact RV.cell1 hT rfl rfl rfl (by (exact Rd1.row (by (repeat (first | exact Pick.head | apply Pick.tail | apply Pick.app))) (by rfl))) | exact RV.cellN hT rfl rfl rfl (by (first | exact RdN.rowAll (by (repeat (first | exact Pick.head | apply Pick.tail | apply Pick.app))) | exact RdN.own (by (repeat (first | exact Pick.head | apply Pick.tail | apply Pick.app))))) (by (first | rfl | assumption | (simp; done) | omega)))) ?_
 exact ⟨rfl, rfl⟩
theorem compactU (n : Nat) (v : Value) (xs : List Int) (r : List HProp) (hn : xs.length = n) (h63 : n ≤ 1000000) :
 Fc prog E 41 [v].toArray (own 35 1 v n (xs.map (Value.int .u64)) :: r) (fun u l' => ∃ a c, u = .slice a (Lib.compact xs).length c ∧ l' = own 35 1 u (Lib.compact xs).length ((Lib.compact xs).map (Value.int .u64)) :: r) := by
 refine Fc.owns (fun e1 e2 e3 => ?_) (fun g cap sp e1 h1 h2 h3 h4 => ?_)
 · subst e1 e2
   obtain rfl : xs = [] := List.eq_nil_of_length_eq_zero hn
   exact Fc.post ((compact_nil E r).mono fun u l' ⟨a, b⟩ => ⟨own 35 1 (.slice none 0 0) 0 [] :: r, fun w h => Sat.own_nil (b ▸ h), none, 0, a, by rw [a]; rfl⟩)
 · subst e1
   refine Fc.ofCalls fun w hs => ?_
   have hc := AnyE.slices_Compact laysCompact (Value.int .u64) oneU (EqlAt.intD _ _ _) (NeqAt.intD _ _ _) 0 (fun w => Go.Proofs.Tryd.zeroValue35 w) g 0 cap xs.toArray w (holds_row hs) (by simp; omega) (by simp; omega)
   have hsz : xs.toArray.size = n := by simpa using hn
   have e1 : Lib.compactUpTo xs.toArray n = Lib.compact xs := by unfold Lib.compact; rw [hn]
   rw [hsz, e1] at hc
   refine hc.mono ?_
   rintro e w' ⟨rfl, q, rfl⟩
   have hcl : (Lib.compact xs).length ≤ n := by
    unfold Lib.compact Lib.compactUpTo
    rw [List.length_map]
    have := List.length_filter_le (Lib.keeps xs.toArray) (List.range xs.length)
    rw [List.length_range] at this
    omega
   have hsz2 : ((Lib.compact xs) ++ List.replicate (n - (Lib.compact xs).length) 0).toArray.size = n := by simp; omega
   have hp := sat_put hs (enc := Value.int .u64) (dk := ((Lib.compact xs) ++ List.replicate (n - (Lib.compact xs).length) 0).toArray) (k := q) hsz2 (by simp; omega)
   refine ⟨_, own 35 1 (.slice (some ⟨g, 0, none⟩) (Lib.compact xs).length cap) (Lib.compact xs).length ((Lib.compact xs).map (Value.int .u64)) :: r, rfl, ?_, some ⟨g, 0, none⟩, cap, rfl, rfl⟩
   rw [List.map_append, List.append_assoc] at hp
   refine Sat.owned hp (by omega) h2 (by rw [List.length_map, Nat.mul_one]) ?_
   rw [List.length_append, List.length_map] at h4
   simp only [List.length_append, List.length_map, List.length_replicate, List.length_drop]
   omega
end
end
end Go.Proofs.YtfohdnclpbipeaaDoor
