import Derived.Test.YtfohdnclpbipeaaDoorJoin4
import Derived.Test.YtfohdnclpbipeaaDoorJoin5
import Derived.Test.YtfohdnclpbipeaaDoorJoin6
namespace Go.Proofs.YtfohdnclpbipeaaDoor
section
open Go Go.SL
section
theorem sorted_one : ∀ {ys xs : List Int}, xs.Perm ys → (xs.Pairwise fun x y => Sort.ltInt y x = false) → ys.Pairwise (· ≤ ·) → xs = ys
 | [], xs, h, _, _ => h.eq_nil
 | y :: ys, xs, h, hx, hy => by
   cases xs with
   | nil => exact absurd h.symm.eq_nil (by simp)
   | cons x xs =>
     have hx1 := List.pairwise_cons.1 hx
     have hy1 := List.pairwise_cons.1 hy
     have e : x = y := by
      have a1 : x ∈ y :: ys := h.subset (by simp)
      have a2 : y ∈ x :: xs := h.symm.subset (by simp)
      rcases List.mem_cons.1 a1 with q | q
      · exact q
      · rcases List.mem_cons.1 a2 with q2 | q2
        · exact q2.symm
        · have l1 := hy1.1 x q
          have l2 := hx1.1 y q2
          simp only [Sort.ltInt, decide_eq_false_iff_not] at l2
          omega
     subst e
     rw [sorted_one (List.Perm.cons_inv h) hx1.2 hy1.2]
theorem dig_small {u : Nat} (h : u < 10) : dig u = [(48 + u : Int)] := by
 unfold dig
 rw [Lib.decDigits_one h]
 simp
 omega
theorem dig_big {u : Nat} (h : ¬ u < 10) : dig u = dig (u / 10) ++ [(48 + u % 10 : Int)] := by
 unfold dig
 rw [Lib.decDigits, dif_neg h, List.map_append]
 congr 1
 simp
 omega
theorem woke_shape : strOf (shapeB [((3, 0, 100, 1, 205) : WireT)]) = ⟨#[51, 32, 48, 32, 49, 48, 48, 32, 49, 32, 50, 48, 53, 10]⟩ := by
 have e : shapeB [((3, 0, 100, 1, 205) : WireT)] = [51, 32, 48, 32, 49, 48, 48, 32, 49, 32, 50, 48, 53, 10] := by
  have n0 : numT 0 = [48] := by rw [numT, if_neg (by decide)]; exact dig_small (by decide)
  have n1 : numT 1 = [49] := by rw [numT, if_neg (by decide)]; exact dig_small (by decide)
  have n3 : numT 3 = [51] := by rw [numT, if_neg (by decide)]; exact dig_small (by decide)
  have n100 : numT 100 = [49, 48, 48] := by
   rw [numT, if_neg (by decide), show (100 : Int).toNat = 100 from rfl, dig_big (by decide), show 100 / 10 = 10 from rfl, dig_big (by decide), show 10 / 10 = 1 from rfl, dig_small (by decide)]; rfl
  have n205 : numT 205 = [50, 48, 53] := by
   rw [numT, if_neg (by decide), show (205 : Int).toNat = 205 from rfl, dig_big (by decide), show 205 / 10 = 20 from rfl, dig_big (by decide), show 20 / 10 = 2 from rfl, dig_small (by decide)]; rfl
  simp only [shapeB, List.flatMap_cons, List.flatMap_nil, lineB, n0, n1, n3, n100, n205]
  rfl
 rw [e]
 rfl
theorem woke_runs {ys : List Int} (h : ys.Perm [1, 2, 3]) (hs : ys.Pairwise fun x y => Sort.ltInt y x = false) : (runsF 3 (Lib.compact ys)).1 = 1 := by
 rw [sorted_one h hs (by decide)]
 decide
theorem wire0_ok : WiOk (3, 0, 100, 1, 205) := by unfold WiOk R64; decide
theorem fill_123 : Instr.fill (fun i => some (i * 1, 1)) ((Array.range (3 * 1)).map ((Value.int .u64 0).cells[· % (Value.int .u64 0).cells.size]!)) [(0, .int .u64 1), (1, .int .u64 2), (2, .int .u64 3)] = some (ints .u64 [1, 2, 3]).toArray := by
 have h := fill_eq (fun i => some (i * 1, 1)) [(0, 1), (1, 1), (2, 1)] [(0, .int .u64 1), (1, .int .u64 2), (2, .int .u64 3)] [Value.int .u64 0, Value.int .u64 0, Value.int .u64 0] (by intro q hq; simp at hq; rcases hq with rfl | rfl | rfl <;> rfl) (by simp [fillOk, Value.cells])
 have e : ((Array.range (3 * 1)).map ((Value.int .u64 0).cells[· % (Value.int .u64 0).cells.size]!)) = [Value.int .u64 0, Value.int .u64 0, Value.int .u64 0].toArray := by kernel_rfl
 rw [e, h]
 rfl
def sea0 : SealT := ⟨0, true, List.replicate 32 0, 0, List.replicate 130 0⟩
theorem sea0_ok : SeOk sea0 := ⟨by simp [sea0], by simp [sea0]⟩
end
section
attribute [local irreducible] J JL JE JM LS Y Fc RV Code.wp wpList Code.wpIn wpListIn
attribute [local irreducible] Yc Sort.ltInt
variable (E : World)
set_option maxRecDepth 100000 in
theorem wakes_spec (l : List HProp) (ht : T10 E l) : Fc prog E 11 [].toArray l (fun v l' => v = .bool true ∧ l' = l) := by
 refine Fc.eqs ?_
 refine Fc.of_body (c := ?codeC) Tryd.func11 ?hb Tryd.ntmps11 ?hl ?_
 case hb => exact rfl
 case hl => exact rfl
 refine J.seq (J.region (JL.step (y_assign rfl) rfl rfl rfl ?_))
 refine JL.nil (JE.then_normal (J.seq (J.region ?_)))
 refine JL.step (y_build (cs := [_, _, _, _, _]) hT rfl rfl rfl rfl rfl rfl ⟨⟨(by (first | rfl | assumption | (simp; done) | omega)), Nat.le_of_ble_eq_true rfl⟩, ⟨⟨(by (first | rfl | assumption | (simp; done) | omega)), Nat.le_of_ble_eq_true rfl⟩, ⟨⟨(by (first | rfl | assumption | (simp; done) | omega)), Nat.le_of_ble_eq_true rfl⟩, ⟨⟨(by (first | rfl | assumption | (simp; done) | omega)), Nat.le_of_ble_eq_true rfl⟩, ⟨⟨(by (first | rfl | assumption | (simp; done) | omega)), Nat.le_of_ble_eq_true rfl⟩, trivial⟩⟩⟩⟩⟩ rfl) rfl rfl rfl ?_
 refine JL.loud rfl (l_buildSliceP hT rfl rfl rfl rfl rfl rfl rfl (by (first | exact fill_one rfl (by first | assumption | rfl | (simp; done)) | rfl | simp)) rfl (fun b1 => ?_))
 refine JL.step (y_assign rfl) rfl rfl rfl ?_
 refine JL.nil (JE.then_normal (J.seq (J.region (JL.step (y_move rfl) rfl rfl rfl ?_))))
 refine JL.loud rfl (l_callF e13 rfl rfl (shape_spec E (some ⟨b1, 0, none⟩) 1 1 [(3, 0, 100, 1, 205)] _ rfl (by omega) (by intro w hw; simp at hw; subst hw; exact wire0_ok) (InL.ofRow Pick.head (by unfold maxLen; omega)) (by (repeat (first | assumption | apply T10.cons | apply T10.app)))) ?_)
 rintro _ _ ⟨rfl, rfl⟩
 refine JL.step (v := .bool true) (Y.val (y_str_eq rfl rfl) (by rw [woke_shape]; rfl)) rfl rfl rfl ?_
 refine JL.step (y_move rfl) rfl rfl rfl ?_
 all_goals (first | (refine JL.gsplit_dec rfl rfl rfl (fun h => ?_) (fun h => ?_) <;> try (first | (exfalso; omega) | exact absurd rfl h)) | (refine JL.gsplit rfl rfl rfl (fun h => ?_) (fun h => ?_) <;> try (first | cases h | (exfalso; simp at h; done))) | skip)
 all_goals (first | refine JL.gskip rfl rfl rfl rfl rfl rfl ?_ | refine JL.gskipU rfl rfl rfl rfl rfl ?_ | refine JL.gstep rfl rfl rfl (y_move rfl) rfl rfl ?_)
 all_goals (first | refine JL.gskip rfl rfl rfl rfl rfl rfl ?_ | refine JL.gskipU rfl rfl rfl rfl rfl ?_ | (refine JL.gloud rfl rfl rfl (l_callF e16 rfl rfl (flows_spec E (some ⟨b1, 0, none⟩) 1 1 [(3, 0, 100, 1, 205)] _ rfl (by omega) (by intro w hw; simp at hw; subst hw; exact wire0_ok) (InL.ofRow Pick.head (by unfold maxLen; omega))) ?_); rintro _ _ ⟨vs, a, c', hvs, _, rfl, rfl⟩))
 all_goals (first | refine JL.gskip rfl rfl rfl rfl rfl rfl ?_ | refine JL.gskipU rfl rfl rfl rfl rfl ?_ | refine JL.gstep rfl rfl rfl (y_len_slice hT rfl rfl rfl) rfl rfl ?_)
 all_goals (first | refine JL.gskip rfl rfl rfl rfl rfl rfl ?_ | refine JL.gskipU rfl rfl rfl rfl rfl ?_ | refine JL.gstep rfl rfl rfl (v := .bool true) (Y.val (y_eql rfl rfl) (by rw [hvs.length_eq]; rfl)) rfl rfl ?_)
 all_goals (refine JL.step (y_pick rfl rfl rfl) rfl rfl rfl ?_)
 all_goals (refine JL.step (y_move rfl) rfl rfl rfl ?_)
 all_goals (first | refine JL.gskip rfl rfl rfl rfl rfl rfl ?_ | refine JL.gskipU rfl rfl rfl rfl rfl ?_ | refine JL.gloud rfl rfl rfl (l_buildSliceP (cs := ints .u64 [1, 2, 3]) hT rfl rfl rfl rfl rfl rfl rfl fill_123 rfl (fun b3 => ?_)))
 all_goals (first | refine JL.gskip rfl rfl rfl rfl rfl rfl ?_ | refine JL.gskipU rfl rfl rfl rfl rfl ?_ | (refine JL.gloud rfl rfl rfl (l_callF e18 rfl rfl (runs_spec E (some ⟨b3, 0, none⟩) 3 3 [1, 2, 3] 3 _ rfl (by omega) (InL.ofRow Pick.head (by unfold maxLen; omega))) ?_); rintro _ _ ⟨z, rfl, _, hz, rfl⟩))
 all_goals (first | refine JL.gskip rfl rfl rfl rfl rfl rfl ?_ | refine JL.gskipU rfl rfl rfl rfl rfl ?_ | refine JL.gstep rfl rfl rfl (v := .bool true) (Y.val (y_eql rfl rfl) (by obtain ⟨ys, h1, h2, rfl⟩ := hz (by decide); rw [woke_runs h1 h2]; rfl)) rfl rfl ?_)
 all_goals (refine JL.step (y_pick rfl rfl rfl) rfl rfl rfl ?_)
 all_goals (refine JL.step (y_move rfl) rfl rfl rfl ?_)
 all_goals (first | refine JL.gskip rfl rfl rfl rfl rfl rfl ?_ | refine JL.gskipU rfl rfl rfl rfl rfl ?_ | refine JL.gstep rfl rfl rfl (y_build (cs := (seE sea0).tail) hT rfl rfl rfl rfl rfl rfl ⟨⟨rfl, Nat.le_of_ble_eq_true rfl⟩, trivial⟩ rfl) rfl rfl ?_)
 all_goals (first | refine JL.gskip rfl rfl rfl rfl rfl rfl ?_ | refine JL.gskipU rfl rfl rfl rfl rfl ?_ | refine JL.gstep rfl rfl rfl (y_build (cs := seE sea0) hT rfl rfl rfl rfl rfl rfl ⟨⟨rfl, Nat.le_of_ble_eq_true rfl⟩, trivial⟩ rfl) rfl rfl ?_)
 all_goals (first | refine JL.gskip rfl rfl rfl rfl rfl rfl ?_ | refine JL.gskipU rfl rfl rfl rfl rfl ?_ | refine JL.gloud rfl rfl rfl (l_buildSliceP (cs := seE sea0) hT rfl rfl rfl rfl rfl rfl rfl (fill_one rfl (seE_length sea0_ok)) rfl (fun b5 => ?_)))
 all_goals (first | refine JL.gskip rfl rfl rfl rfl rfl rfl ?_ | refine JL.gskipU rfl rfl rfl rfl rfl ?_ | (refine JL.gloud rfl rfl rfl (l_callF e23 rfl rfl (accidents_spec E none 0 0 [] (some ⟨b5, 0, none⟩) 1 1 [sea0] _ rfl (by simp) ⟨Nat.le_refl _, by unfold maxLen; omega, .inr ⟨rfl, rfl⟩⟩ (by omega) rfl (by omega) (by intro x hx; simp at hx; subst hx; exact sea0_ok) (InL.ofRow Pick.head (by unfold maxLen; omega))) ?_); rintro _ _ ⟨a4, c4, rfl, rfl⟩))
 all_goals (first | refine JL.gskip rfl rfl rfl rfl rfl rfl ?_ | refine JL.gskipU rfl rfl rfl rfl rfl ?_ | refine JL.gstep rfl rfl rfl (y_len_slice hT rfl rfl rfl) rfl rfl ?_)
 all_goals (first | refine JL.gskip rfl rfl rfl rfl rfl rfl ?_ | refine JL.gskipU rfl rfl rfl rfl rfl ?_ | refine JL.gstep rfl rfl rfl (y_eql rfl rfl) rfl rfl ?_)
 all_goals (refine JL.step (y_pick rfl rfl rfl) rfl rfl rfl ?_)
 all_goals (refine JL.step (y_assign rfl) rfl rfl rfl ?_)
 all_goals refine JL.nil (JE.then_normal ?_)
 all_goals
  refine J.ret ?_
  refine JE.ret1 (.inl rfl) rfl rfl (by (first | exact RV.tmp rfl | exact RV.cell1 hT rfl rfl rfl (by (exact Rd1.row (by (repeat (first | exact Pick.head | apply Pick.tail | apply Pick.app))) (by rfl))) | exact RV.cellN hT rfl rfl rfl (by (first | exact RdN.rowAll (by (repeat (first | exact Pick.head | apply Pick.tail | apply Pick.app))) | exact RdN.own (by (repeat (first | exact Pick.head | apply Pick.tail | apply Pick.app))))) (by (first | rfl | assumption | (simp; done) | omega)))) ?_
  exact ⟨rfl, fun w h => h.sup (by (repeat (first | exact Sup.refl | apply Sup.cons (by (repeat (first | exact Pick.head | apply Pick.tail | apply Pick.app))) | apply Sup.app | apply Sup.skip | apply Sup.skips)))⟩
end
end
section
open Go Go.SL
section
theorem strict_eq : ∀ {a b : List Int}, a.Pairwise (· < ·) → b.Pairwise (· < ·) → (∀ x, x ∈ a ↔ x ∈ b) → a = b
 | [], [], _, _, _ => rfl
 | [], y :: b, _, _, h => absurd ((h y).2 (by simp)) (by simp)
 | x :: a, [], _, _, h => absurd ((h x).1 (by simp)) (by simp)
 | x :: a, y :: b, ha, hb, h => by
   have ha1 := List.pairwise_cons.1 ha
   have hb1 := List.pairwise_cons.1 hb
   have e : x = y := by
    have h1 := (h x).1 (by simp)
    have h2 := (h y).2 (by simp)
    rcases List.mem_cons.1 h1 with q | q
    · exact q
    · rcases List.mem_cons.1 h2 with q2 | q2
      · exact q2.symm
      · have := hb1.1 x q; have := ha1.1 y q2; omega
   subst e
   rw [strict_eq ha1.2 hb1.2 fun z => ?_]
   have hz := h z
   rw [List.mem_cons, List.mem_cons] at hz
   constructor
   · intro q
     rcases hz.1 (.inr q) with q2 | q2
     · subst q2; exact absurd (ha1.1 z q) (by omega)
     · exact q2
   · intro q
     rcases hz.2 (.inr q) with q2 | q2
     · subst q2; exact absurd (hb1.1 z q) (by omega)
     · exact q2
end
end
section
open Go Go.SL
section
abbrev BurT := Int × Int × Int
def buE (b : BurT) : List Value := [.int .i64 b.1, .int .i64 b.2.1, .int .i64 b.2.2]
theorem buE_length (b : BurT) : (buE b).length = 3 := rfl
theorem buE_one (b : BurT) : ∀ v ∈ buE b, v.oneCell' = true := by
 intro v hv
 simp only [buE, List.mem_cons, List.not_mem_nil, or_false] at hv
 rcases hv with rfl | rfl | rfl <;> rfl
def eachZ (w : WireT) : Int := if w.2.2.2.1 < 1 ∨ w.2.2.2.2.tmod w.2.2.2.1 ≠ 0 then -1 else w.2.2.2.2.tdiv w.2.2.2.1
theorem tdiv_range {x y : Int} (h : R64 x) (hy : 1 ≤ y) : R64 (x.tdiv y) := by
 unfold R64 at *
 have h1 : (x.tdiv y).natAbs ≤ x.natAbs := by
  rw [Int.natAbs_tdiv]
  exact Nat.div_le_self _ _
 have h2 : 0 ≤ x → 0 ≤ x.tdiv y := fun q => Int.tdiv_nonneg q (by omega)
 have h3 : x ≤ 0 → x.tdiv y ≤ 0 := fun q => by
  have a := Int.neg_tdiv (-x) y
  rw [Int.neg_neg] at a
  have b := Int.tdiv_nonneg (a := -x) (b := y) (by omega) (by omega)
  omega
 omega
def bput : List BurT → WireT → List BurT
 | [], w => [(w.1, wr (0 + w.2.2.2.1), eachZ w)]
 | b :: r, w => if w.1 = b.1 then (w.1, wr (b.2.1 + w.2.2.2.1), if b.2.2 ≠ eachZ w then -1 else eachZ w) :: r else b :: bput r w
def blook : List BurT → Int → Option BurT
 | [], _ => none
 | b :: r, n => if n = b.1 then some b else blook r n
def bmE (M : List BurT) : List (Int × Value) := M.map fun b => (b.1, .agg (buE b).toArray)
theorem bmE_length (M : List BurT) : (bmE M).length = M.length := by unfold bmE; rw [List.length_map]
theorem blook_eq : ∀ (M : List BurT) (n : Int), mlook (bmE M) n = (blook M n).map fun b => .agg (buE b).toArray
 | [], n => rfl
 | b :: r, n => by
   have ih := blook_eq r n
   unfold bmE at ih ⊢
   rw [List.map_cons, mlook, blook]
   by_cases h : n = b.1
   · rw [if_pos h, if_pos h]; rfl
   · rw [if_neg h, if_neg h]; exact ih
theorem bput_eq : ∀ (M : List BurT) (w : WireT), mput (bmE M) w.1 (.agg (buE (w.1, wr (((blook M w.1).getD (0, 0, 0)).2.1 + w.2.2.2.1), match blook M w.1 with | some b => if b.2.2 ≠ eachZ w then -1 else eachZ w | none => eachZ w)).toArray) = bmE (bput M w)
 | [], w => rfl
 | b :: r, w => by
   have ih := bput_eq r w
   unfold bmE at ih ⊢
   rw [List.map_cons, mput, blook, bput]
   by_cases h : w.1 = b.1
   · rw [if_pos h, if_pos h, if_pos h]; rfl
   · rw [if_neg h, if_neg h, if_neg h, ih]; rfl
theorem bput_keys (M : List BurT) (w : WireT) (k : Int) : k ∈ (bput M w).map (·.1) ↔ k = w.1 ∨ k ∈ M.map (·.1) := by
 induction M with
 | nil => simp [bput]
 | cons e r ih =>
   unfold bput
   split
   · rename_i h
     simp [h]
   · rw [List.map_cons, List.mem_cons, ih, List.map_cons, List.mem_cons]
     constructor
     · rintro (q | q | q)
       · exact .inr (.inl q)
       · exact .inl q
       · exact .inr (.inr q)
     · rintro (q | q | q)
       · exact .inr (.inl q)
       · exact .inl q
       · exact .inr (.inr q)
theorem bput_nodup (M : List BurT) (w : WireT) (h : (M.map (·.1)).Nodup) : ((bput M w).map (·.1)).Nodup := by
 induction M with
 | nil => simp [bput]
 | cons e r ih =>
   rw [List.map_cons, List.nodup_cons] at h
   unfold bput
   split
   · rename_i h2
     rw [List.map_cons, List.nodup_cons]
     dsimp only
     rw [h2]
     exact h
   · rename_i h2
     rw [List.map_cons, List.nodup_cons, bput_keys]
     exact ⟨fun q => q.elim (fun q => h2 q.symm) h.1, ih h.2⟩
theorem bput_length (M : List BurT) (w : WireT) : (bput M w).length ≤ M.length + 1 := by
 induction M with
 | nil => simp [bput]
 | cons e r ih => unfold bput; split <;> simp only [List.length_cons] <;> omega
def ofC (c : Int) (w : WireT) : Bool := decide (w.2.1 = c ∧ w.2.2.1 = 100)
def burF (c : Int) (ws : List WireT) : List BurT := (ws.filter (ofC c)).foldl bput []
theorem filt_take {f : WireT → Bool} {ws : List WireT} {i : Nat} {w : WireT} (h : ws[i]? = some w) : (ws.take (i + 1)).filter f = (ws.take i).filter f ++ (if f w then [w] else []) := by
 rw [List.take_add_one, h, Option.toList_some, List.filter_append]
 cases hf : f w <;> simp [hf]
theorem burF_take {c : Int} {ws : List WireT} {i : Nat} {w : WireT} (h : ws[i]? = some w) : burF c (ws.take (i + 1)) = if ofC c w then bput (burF c (ws.take i)) w else burF c (ws.take i) := by
 unfold burF
 rw [filt_take h, List.foldl_append]
 cases ofC c w <;> rfl
theorem bfold_facts (ws : List WireT) (M : List BurT) (h : (M.map (·.1)).Nodup) : ((ws.foldl bput M).map (·.1)).Nodup ∧ (ws.foldl bput M).length ≤ M.length + ws.length := by
 induction ws generalizing M with
 | nil => exact ⟨h, by simp⟩
 | cons w r ih =>
   obtain ⟨h1, h2⟩ := ih (bput M w) (bput_nodup M w h)
   have := bput_length M w
   exact ⟨h1, by rw [List.foldl_cons, List.length_cons]; omega⟩
theorem burF_facts (c : Int) (ws : List WireT) : ((burF c ws).map (·.1)).Nodup ∧ (burF c ws).length ≤ ws.length := by
 obtain ⟨h1, h2⟩ := bfold_facts (ws.filter (ofC c)) [] List.nodup_nil
 refine ⟨h1, ?_⟩
 have := List.length_filter_le (ofC c) ws
 unfold burF
 simp only [List.length_nil] at h2
 omega
def plB (w : WireT) : List BurT → List BurT
 | [] => [(w.1, wr (0 + w.2.2.2.1), eachZ w)]
 | b :: r => if b.1 < w.1 then b :: plB w r else if b.1 = w.1 then (b.1, wr (b.2.1 + w.2.2.2.1), if b.2.2 ≠ eachZ w then -1 else b.2.2) :: r else (w.1, wr (0 + w.2.2.2.1), eachZ w) :: b :: r
def refB (c : Int) (ws : List WireT) : List BurT := (ws.filter (ofC c)).foldl (fun l w => plB w l) []
theorem refB_take {c : Int} {ws : List WireT} {i : Nat} {w : WireT} (h : ws[i]? = some w) : refB c (ws.take (i + 1)) = if ofC c w then plB w (refB c (ws.take i)) else refB c (ws.take i) := by
 unfold refB
 rw [filt_take h, List.foldl_append]
 cases ofC c w <;> rfl
theorem plB_length (w : WireT) (l : List BurT) : (plB w l).length ≤ l.length + 1 := by
 induction l with
 | nil => simp [plB]
 | cons b r ih => unfold plB; split <;> (try split) <;> simp only [List.length_cons] <;> omega
theorem refB_length (c : Int) (ws : List WireT) : (refB c ws).length ≤ ws.length := by
 have h : ∀ (ws : List WireT) (l : List BurT), (ws.foldl (fun l w => plB w l) l).length ≤ l.length + ws.length := by
  intro ws
  induction ws with
  | nil => intro l; simp
  | cons w r ih =>
    intro l
    have h1 := ih (plB w l)
    have h2 := plB_length w l
    rw [List.foldl_cons, List.length_cons]; omega
 have h1 := h (ws.filter (ofC c)) []
 have h2 := List.length_filter_le (ofC c) ws
 unfold refB
 simp only [List.length_nil] at h1
 omega
theorem plB_keys (w : WireT) : ∀ (l : List BurT) (y : BurT), y ∈ plB w l → y.1 = w.1 ∨ ∃ z ∈ l, y.1 = z.1
 | [], y, h => by simp [plB] at h; subst h; exact .inl rfl
 | b :: r, y, h => by
   unfold plB at h
   split at h
   · rcases List.mem_cons.1 h with rfl | h
     · exact .inr ⟨y, by simp, rfl⟩
     · rcases plB_keys w r y h with q | ⟨z, hz, q⟩
       · exact .inl q
       · exact .inr ⟨z, List.mem_cons_of_mem _ hz, q⟩
   · split at h
     · rcases List.mem_cons.1 h with rfl | h
       · exact .inr ⟨b, by simp, rfl⟩
       · exact .inr ⟨y, List.mem_cons_of_mem _ h, rfl⟩
     · rcases List.mem_cons.1 h with rfl | h
       · exact .inl rfl
       · exact .inr ⟨y, h, rfl⟩
abbrev bl (a b : BurT) : Prop := a.1 < b.1
theorem plB_sorted (w : WireT) : ∀ {l : List BurT}, l.Pairwise bl → (plB w l).Pairwise bl
 | [], _ => List.pairwise_singleton _ _
 | b :: r, h => by
   have h1 := List.pairwise_cons.1 h
   unfold plB
   split
   · rename_i hk
     refine List.pairwise_cons.2 ⟨fun y hy => ?_, plB_sorted w h1.2⟩
     rcases plB_keys w r y hy with q | ⟨z, hz, q1⟩
     · show b.1 < y.1; omega
     · have := h1.1 z hz
       show b.1 < y.1
       have : b.1 < z.1 := this
       omega
   · split
     · exact List.pairwise_cons.2 ⟨fun y hy => h1.1 y hy, h1.2⟩
     · rename_i hk he
       refine List.pairwise_cons.2 ⟨fun y hy => ?_, h⟩
       rcases List.mem_cons.1 hy with rfl | q
       · show w.1 < y.1; omega
       · have : b.1 < y.1 := h1.1 y q
         show w.1 < y.1; omega
theorem refB_sorted (c : Int) (ws : List WireT) : (refB c ws).Pairwise bl := by
 have h : ∀ (ws : List WireT) (l : List BurT), l.Pairwise bl → (ws.foldl (fun l w => plB w l) l).Pairwise bl := by
  intro ws
  induction ws with
  | nil => intro l h; exact h
  | cons w r ih => intro l h; exact ih _ (plB_sorted w h)
 exact h _ [] List.Pairwise.nil
theorem bput_new (w : WireT) : ∀ (l : List BurT), (∀ f ∈ l, ¬ f.1 = w.1) → bput l w = l ++ [(w.1, wr (0 + w.2.2.2.1), eachZ w)]
 | [], _ => rfl
 | f :: r, h => by
   have h1 := h f (by simp)
   rw [bput, if_neg (fun q => h1 q.symm), bput_new w r fun x hx => h x (List.mem_cons_of_mem _ hx)]
   rfl
theorem plB_perm (w : WireT) : ∀ {l : List BurT}, l.Pairwise bl → (plB w l).Perm (bput l w)
 | [], _ => List.Perm.refl _
 | b :: r, h => by
   have h1 := List.pairwise_cons.1 h
   unfold plB
   split
   · rename_i hk
     rw [bput, if_neg (by omega)]
     exact (plB_perm w h1.2).cons _
   · split
     · rename_i hk he
       rw [bput, if_pos he.symm, he]
       have e : (if b.2.2 ≠ eachZ w then -1 else b.2.2) = if b.2.2 ≠ eachZ w then -1 else eachZ w := by
        split
        · rfl
        · rename_i q; exact Decidable.of_not_not q
       rw [e]
     · rename_i hk he
       rw [bput_new w (b :: r) fun x hx q => ?_]
       · exact (List.perm_append_singleton _ (b :: r)).symm
       · rcases List.mem_cons.1 hx with rfl | hx
         · exact he q
         · have : b.1 < x.1 := h1.1 x hx
           omega
theorem bput_perm (w : WireT) {l m : List BurT} (hp : l.Perm m) : (l.Pairwise fun a b => a.1 ≠ b.1) → (bput l w).Perm (bput m w) := by
 induction hp with
 | nil => intro _; exact List.Perm.refl _
 | cons x hp ih =>
   intro h
   have h1 := List.pairwise_cons.1 h
   unfold bput
   split
   · exact hp.cons _
   · exact (ih h1.2).cons _
 | swap x y r =>
   intro h
   have h1 := (List.pairwise_cons.1 h).1 x (by simp)
   simp only [bput]
   by_cases a : w.1 = x.1 <;> by_cases b : w.1 = y.1
   · exact absurd (b.symm.trans a) h1
   · rw [if_neg b, if_pos a, if_pos a]; exact List.Perm.swap ..
   · rw [if_pos b, if_neg a, if_pos b]; exact List.Perm.swap ..
   · rw [if_neg b, if_neg a, if_neg a, if_neg b]; exact List.Perm.swap ..
 | trans hp1 _ ih1 ih2 =>
   intro h
   refine (ih1 h).trans (ih2 ?_)
   exact (hp1.pairwise_iff fun {a b} q r => q r.symm).1 h
theorem refB_perm (c : Int) (ws : List WireT) : (refB c ws).Perm (burF c ws) := by
 have h : ∀ (ws : List WireT) (l m : List BurT), l.Pairwise bl → l.Perm m → (ws.foldl (fun l w => plB w l) l).Perm (ws.foldl bput m) := by
  intro ws
  induction ws with
  | nil => intro l m _ h; exact h
  | cons w r ih =>
    intro l m hs hp
    refine ih _ _ (plB_sorted w hs) ((plB_perm w hs).trans (bput_perm w hp (hs.imp fun {a b} q r => ?_)))
    have q : a.1 < b.1 := q
    omega
 exact h _ [] [] List.Pairwise.nil (List.Perm.refl _)
theorem blook_mem : ∀ {M : List BurT} {b : BurT}, (M.map (·.1)).Nodup → b ∈ M → blook M b.1 = some b
 | e :: r, b, h, hb => by
   rw [List.map_cons, List.nodup_cons] at h
   rw [blook]
   rcases List.mem_cons.1 hb with rfl | q
   · rw [if_pos rfl]
   · rw [if_neg (fun z => h.1 (by rw [← z]; exact List.mem_map.2 ⟨b, q, rfl⟩))]
     exact blook_mem h.2 q
theorem bursts_same {c : Int} {ws : List WireT} {ys : List Int} (hp : ys.Perm ((burF c ws).map (·.1))) (hs : ys.Pairwise fun x y => Sort.ltInt y x = false) :
 ys = (refB c ws).map (·.1) ∧ ∀ b ∈ refB c ws, blook (burF c ws) b.1 = some b := by
 obtain ⟨h1, _⟩ := burF_facts c ws
 have hr := refB_perm c ws
 have hnd : ys.Nodup := hp.nodup_iff.2 h1
 have hlt : ys.Pairwise (· < ·) := by
  refine (List.Pairwise.and hs hnd).imp fun {x y} q => ?_
  have := q.1
  simp only [Sort.ltInt, decide_eq_false_iff_not] at this
  have := q.2
  omega
 refine ⟨strict_eq hlt (List.pairwise_map.2 (refB_sorted c ws)) fun x => ?_, fun b hb => blook_mem h1 (hr.mem_iff.1 hb)⟩
 rw [hp.mem_iff, (hr.map (·.1)).mem_iff]
theorem plB_at {w : WireT} : ∀ {l : List BurT} {k : Nat}, k ≤ l.length → (∀ (j : Nat) (y : BurT), j < k → l[j]? = some y → y.1 < w.1) → (∀ y, l[k]? = some y → ¬ y.1 < w.1) →
 plB w l = match l[k]? with
  | some f => if f.1 = w.1 then l.set k (f.1, wr (f.2.1 + w.2.2.2.1), if f.2.2 ≠ eachZ w then -1 else f.2.2) else l.take k ++ (w.1, wr (0 + w.2.2.2.1), eachZ w) :: l.drop k
  | none => l.take k ++ (w.1, wr (0 + w.2.2.2.1), eachZ w) :: l.drop k
 | [], k, h, _, _ => by
   obtain rfl : k = 0 := by simpa using h
   rfl
 | f :: r, 0, _, _, h2 => by
   have h := h2 f rfl
   rw [plB, if_neg h]
   simp
 | f :: r, k + 1, h, h1, h2 => by
   have h0 := h1 0 f (by omega) rfl
   rw [plB, if_pos h0, plB_at (l := r) (k := k) (by simpa using h) (fun j y hj hy => h1 (j + 1) y (by omega) (by simpa using hy)) (fun y hy => h2 y (by simpa using hy))]
   rw [List.getElem?_cons_succ]
   cases r[k]? with
   | none => rfl
   | some g => simp only; split <;> rfl
def okB (hops : Int) (b : BurT) : Prop := ¬ (b.2.1 < 1 ∨ b.2.1.tmod 3 ≠ 0 ∨ b.2.2 ≠ 157 + 48 * hops)
instance (hops : Int) (b : BurT) : Decidable (okB hops b) := by unfold okB; infer_instance
def stP (clients hops : Int) (ws : List WireT) : Prop := 1 ≤ clients ∧ 1 ≤ hops ∧ hops ≤ 3 ∧ ∀ w ∈ ws, 0 ≤ w.2.1 → w.2.1 < clients → ∀ b ∈ refB w.2.1 ws, okB hops b
end
end
end Go.Proofs.YtfohdnclpbipeaaDoor
