import Derived.Test.YtfohdnclpbipeaaDoorJoin1
import Derived.Test.YtfohdnclpbipeaaDoorJoin5
import Derived.Test.YtfohdnclpbipeaaDoorJoin6
namespace Go.Proofs.YtfohdnclpbipeaaDoor
section
open Go Go.SL
section
def sea77 : SealT := ⟨77, false, List.replicate 32 0, 0, List.replicate 130 0⟩
theorem sea77_ok : SeOk sea77 := ⟨by simp [sea77], by simp [sea77]⟩
theorem ses_len {ls : List SealT} (h : ∀ x ∈ ls, SeOk x) : (ls.flatMap seE).length = ls.length * 165 := seg_len fun x hx => seE_length (h x hx)
theorem ses_one (ls : List SealT) : ∀ u ∈ ls.flatMap seE, u.oneCell' = true := by
  intro u hu
  obtain ⟨w, _, h⟩ := List.mem_flatMap.1 hu
  exact seE_one w u h
def keK : List CK := List.replicate 32 (.int .u8)
theorem ke_fits {k : List Int} (h : k.length = 32) : Fits keK (ints .u8 k) := by
  have h1 := Fits.ints .u8 k
  rwa [h] at h1
theorem ints_iff (k : IntKind) (x y : List Int) : decide (x = y) = true ↔ ints k x = ints k y :=
  ⟨fun h => by rw [of_decide_eq_true h], fun h => decide_eq_true (ints_one h)⟩
theorem cutInS {a : Option Addr} {m c' : Nat} {zs : List SealT} {L r : List HProp} (hz : zs.length = m) (hok : ∀ x ∈ zs, SeOk x) (oo : OwnAt a (m + 1) c' (zs.flatMap seE ++ seE sea77)) (p : Pick L (own 55 165 (.slice a (m + 1) c') (m + 1) (zs.flatMap seE ++ seE sea77)) r) :
    InL L a (m + 1) c' (zs.flatMap seE ++ seE sea77) ∧ InL L a m c' (zs.flatMap seE) := by
  have h := oo.inl p
  have h2 := h.cutTo m (m * 165) (by omega)
  rw [List.take_left' (by rw [ses_len hok, hz])] at h2
  exact ⟨h, h2⟩
end
section
attribute [local irreducible] J JL JE JM LS Y Fc RV Code.wp wpList Code.wpIn wpListIn
attribute [local irreducible] Yc
variable (E : World)
set_option maxRecDepth 100000 in
theorem short_spec (p : Option Addr) (n c m : Nat) (ws : List SealT) (l : List HProp) (hn : ws.length = n) (hm : m = min n 60) (hok : ∀ x ∈ ws, SeOk x) (hin : InL l p n c (ws.flatMap seE)) :
    Fc prog E 21 [.slice p n c].toArray l (fun v l' => ∃ (a : Option Addr) (c' : Nat), m + 1 ≤ c' ∧ v = .slice a m c' ∧ l' = own 55 165 (.slice a (m + 1) c') (m + 1) ((ws.take m).flatMap seE ++ seE sea77) :: l) := by
  refine Fc.post ?_
  refine Fc.of_body (c := ?codeC) Tryd.func21 ?hb Tryd.ntmps21 ?hl ?_
  case hb => exact rfl
  case hl => exact rfl
  refine J.seq ?_
  refine J.region ?_
  refine JL.step (y_assign rfl) rfl rfl rfl ?_
  refine JL.nil ?_
  refine JE.then_normal ?_
  refine J.seq ?_
  obtain ⟨gb, ob, hp0, hpt⟩ := hin.part (lo := 0) (hi := m) (k := 165) (Nat.zero_le _) (by omega) (by rw [ses_len hok, hn])
  have hle := hin.le
  refine J.region ?_
  refine JL.step (y_move rfl) rfl rfl rfl (JL.step (y_move rfl) rfl rfl rfl (JL.step (y_len_slice hT rfl rfl rfl) rfl rfl rfl ?_))
  refine JL.step (v := .int .i64 (m : Int)) (y_min2 rfl rfl (by omega)) rfl rfl rfl ?_
  refine JL.step (y_slice (lo := 0) (hi := m) hT rfl rfl rfl rfl (.inl ⟨rfl, rfl⟩) (.inr ⟨_, _, _, rfl, rfl, rfl⟩) (by omega) (by omega) hin.le hp0) rfl rfl rfl ?_
  refine JL.step (y_assign rfl) rfl rfl rfl ?_
  refine JL.nil ?_
  refine JE.then_normal ?_
  refine J.seq ?_
  obtain ⟨q, hq⟩ : ∃ q, (if c = 0 then p else some ⟨gb, ob + 0 * i55.size, none⟩) = q := ⟨_, rfl⟩
  obtain ⟨c2, hc2⟩ : ∃ c2, c - 0 = c2 := ⟨_, rfl⟩
  have e0 : ((ws.flatMap seE).drop (0 * 165)).take ((m - 0) * 165) = (ws.take m).flatMap seE := by rw [Nat.zero_mul, List.drop_zero, Nat.sub_zero, seg_take fun x hx => seE_length (hok x hx)]
  have hxm : (ws.take m).length = m := by rw [List.length_take]; omega
  have hok2 : ∀ x ∈ ws.take m, SeOk x := fun x hx => hok x (List.mem_of_mem_take hx)
  rw [e0, Nat.sub_zero, hc2] at hpt
  rw [Nat.sub_zero, hc2]
  have hin2 : InL l q m c2 ((ws.take m).flatMap seE) := by rw [← hq]; exact hpt
  rw [hq]
  obtain ⟨zs, hzs⟩ : ∃ zs, ws.take m = zs := ⟨_, rfl⟩
  rw [hzs] at hin2 hxm hok2 ⊢
  refine J.region ?_
  refine JL.step (y_move rfl) rfl rfl rfl (JL.step (y_len_slice hT rfl rfl rfl) rfl rfl rfl ?_)
  refine JL.step (y_add rfl rfl (by (first | exact wrap_i64 (by omega) (by omega) | rfl))) rfl rfl rfl ?_
  refine JL.loud rfl (l_makeSlice hT rfl rfl rfl rfl rfl rfl (by omega) (by omega) (mk_fits rfl (by omega) (by omega)) (by omega) rfl (fun b3 => ?_))
  refine JL.step (y_move rfl) rfl rfl rfl ?_
  refine JL.pre (l' := own 55 165 (.slice (some ⟨b3, 0, none⟩) 0 (m + 2)) 0 [] :: l) (fun w s => s.own_row (Nat.zero_le _) (by unfold maxLen; omega) (by
    show (madeCells _ (((m : Int) + 2).toNat * 165)).toList.length = _
    rw [Array.length_toList, size_madeCells]
    · omega) (by simp) (by simp)) ?_
  refine JL.loud rfl (l_appendIn hT rfl rfl rfl rfl rfl rfl rfl rfl (by (repeat (first | exact Pick.head | apply Pick.tail | apply Pick.app))) (hin2.cons _) (by rw [show i55.size = 165 from rfl, ses_len hok2, hxm]) (ses_one zs) (by rw [show i55.bytes = 192 from rfl]; omega) (by omega) rfl (fun a5 c5 hc5 => ?_))
  refine JL.step (y_build (cs := seE sea77) hT rfl rfl rfl rfl rfl rfl ⟨⟨rfl, Nat.le_of_ble_eq_true rfl⟩, trivial⟩ rfl) rfl rfl rfl ?_
  refine JL.loud rfl (l_buildSliceP (cs := seE sea77) hT rfl rfl rfl rfl rfl rfl rfl (fill_one rfl (seE_length sea77_ok)) rfl (fun b7 => ?_))
  refine JL.loud rfl (l_append (news := seE sea77) hT rfl rfl rfl rfl rfl rfl rfl rfl (by (repeat (first | exact Pick.head | apply Pick.tail | apply Pick.app))) (RdN.rowAll (by (repeat (first | exact Pick.head | apply Pick.tail | apply Pick.app)))) (seE_length sea77_ok) (seE_one sea77) (by rw [show i55.bytes = 192 from rfl]; omega) (by omega) rfl (fun a8 c8 hc8 => ?_))
  refine JL.step (y_move rfl) rfl rfl rfl (JL.step (y_len_slice hT rfl rfl rfl) rfl rfl rfl ?_)
  refine JL.fact (fun w s => Sat.own_at (s.pick Pick.head)) fun oo => ?_
  refine JL.step (y_cutTo hT rfl rfl rfl rfl rfl rfl (by omega) (oo.inl (e := 55) (size := 165) (l := [_]) Pick.head)) rfl rfl rfl ?_
  refine JL.step (y_assign rfl) rfl rfl rfl ?_
  refine JL.nil ?_
  refine JE.then_normal ?_
  refine J.ret ?_
  refine JE.ret1 (.inl rfl) rfl rfl (by (first | exact RV.tmp rfl | exact RV.cell1 hT rfl rfl rfl (by (exact Rd1.row (by (repeat (first | exact Pick.head | apply Pick.tail | apply Pick.app))) (by rfl))) | exact RV.cellN hT rfl rfl rfl (by (first | exact RdN.rowAll (by (repeat (first | exact Pick.head | apply Pick.tail | apply Pick.app))) | exact RdN.own (by (repeat (first | exact Pick.head | apply Pick.tail | apply Pick.app))))) (by (first | rfl | assumption | (simp; done) | omega)))) ?_
  refine ⟨own 55 165 (.slice a8 (m + 1) c8) (m + 1) (zs.flatMap seE ++ seE sea77) :: l, fun w h => ?_, a8, c8, by omega, rfl, rfl⟩
  rw [Nat.zero_add] at h
  exact h.sup (by (repeat (first | exact Sup.refl | apply Sup.cons (by (repeat (first | exact Pick.head | apply Pick.tail | apply Pick.app))) | apply Sup.app | apply Sup.skip | apply Sup.skips)))
theorem intsI_spec (p1 p2 : Option Addr) (n c1 c2 : Nat) (xs : List Int) (l : List HProp) (hn : xs.length = n) (hn8 : n ≤ 1000000) (h1 : InL l p1 n c1 (ints .i64 xs)) (h2 : InL l p2 n c2 (ints .i64 xs)) :
    Fc prog E 22 [.slice p1 n c1, .slice p2 n c2].toArray l (fun v l' => v = .bool true ∧ l' = l) := by
  refine Fc.eqs ?_
  refine Fc.of_body (c := ?codeC) Tryd.func22 ?hb Tryd.ntmps22 ?hl ?_
  case hb => exact rfl
  case hl => exact rfl
  refine J.seq ?_
  refine J.region ?_
  refine JL.step (y_assign rfl) rfl rfl rfl ?_
  refine JL.nil ?_
  refine JE.then_normal ?_
  refine J.seq ?_
  refine J.seq ?_
  refine J.region ?_
  refine JL.step (y_move rfl) rfl rfl rfl (JL.step (y_len_slice hT rfl rfl rfl) rfl rfl rfl (JL.step (y_move rfl) rfl rfl rfl (JL.step (y_len_slice hT rfl rfl rfl) rfl rfl rfl (JL.step (y_neq rfl rfl) rfl rfl rfl ?_))))
  refine JL.nil ?_
  refine JE.then_normal ?_
  refine J.cond_f rfl (by (first | rfl | assumption | (simp; done) | (simp; omega))) ?_
  refine J.skip ?_
  refine JE.then_normal ?_
  refine J.seq ?_
  refine J.seq ?_
  refine J.region ?_
  refine JL.step (y_move rfl) rfl rfl rfl (JL.step (y_len_slice hT rfl rfl rfl) rfl rfl rfl (JL.step (y_move rfl) rfl rfl rfl ?_))
  refine JL.nil ?_
  refine JE.then_normal ?_
  refine J.block ?_
  refine J.loop (α := Nat) (fun i => i ≤ n) (fun i => [(0, .slice p1 n c1), (1, .slice p2 n c2), (12, .int .i64 n), (13, .int .i64 i)]) (fun _ => l) (fun i => n - i) 0 (Nat.zero_le _) ⟨rfl, rfl, rfl, rfl, trivial⟩ (fun w h => h) ?_
  intro i hi
  try dsimp only
  refine J.seq ?_
  refine J.region ?_
  refine JL.step (y_lss rfl rfl) rfl rfl rfl ?_
  refine JL.nil ?_
  refine JE.then_normal ?_
  refine J.seq ?_
  first | apply J.cond_dec rfl | apply J.cond rfl
  case' ht =>
    intro h
    try (first | (exfalso; omega) | (cases h; done) | (exfalso; simp at h; done) | subst h)
    all_goals
      refine J.skip ?_
  case' hf =>
    intro h
    try (first | (exfalso; omega) | (cases h; done) | (exfalso; simp at h; done) | subst h)
    all_goals
      refine J.exit ?_
      refine JE.then_exit ?_
      refine JE.then_exit ?_
      refine JE.block_exit ?_
      refine JE.then_normal ?_
      refine J.seq ?_
      refine J.region ?_
      refine JL.step (y_assign rfl) rfl rfl rfl ?_
      refine JL.nil ?_
      refine JE.then_normal ?_
      refine J.ret ?_
      refine JE.ret1 (.inl rfl) rfl rfl (by (first | exact RV.tmp rfl | exact RV.cell1 hT rfl rfl rfl (by (exact Rd1.row (by (repeat (first | exact Pick.head | apply Pick.tail | apply Pick.app))) (by rfl))) | exact RV.cellN hT rfl rfl rfl (by (first | exact RdN.rowAll (by (repeat (first | exact Pick.head | apply Pick.tail | apply Pick.app))) | exact RdN.own (by (repeat (first | exact Pick.head | apply Pick.tail | apply Pick.app))))) (by (first | rfl | assumption | (simp; done) | omega)))) ?_
      exact ⟨rfl, fun w h => h⟩
  all_goals refine JE.then_normal ?_
  all_goals
    refine J.seq ?_
    refine J.block ?_
    refine J.seq ?_
    refine J.region ?_
    refine JL.step (y_move rfl) rfl rfl rfl (JL.step (y_assign rfl) rfl rfl rfl ?_)
    refine JL.nil ?_
    refine JE.then_normal ?_
    refine J.seq ?_
    obtain ⟨x, hh⟩ : ∃ x, xs[i]? = some x := ⟨xs[i]'(by omega), List.getElem?_eq_getElem _⟩
    obtain ⟨g1, o1, rfl, hr1⟩ := h1.addr (by omega)
    obtain ⟨g2, o2, rfl, hr2⟩ := h2.addr (by omega)
    refine J.draw _ _ [(0, .q), (1, .q), (2, .q), (3, .q), (4, .q), (5, .q), (6, .q), (7, .q), (8, .q)] mixed (by kernel_rfl) (Split.nil) ?_
    refine JM.quiet rfl rfl rfl rfl (fun m => y_move rfl) ?_
    refine JM.quiet rfl rfl rfl rfl (fun m => y_move rfl) ?_
    refine JM.quiet rfl rfl rfl rfl (fun m => y_indexAddr_slice hT rfl rfl rfl rfl rfl (by (first | omega | exact Nat.le_of_ble_eq_true rfl | decide | (simp; omega))) (by (first | omega | exact Nat.le_of_ble_eq_true rfl | decide | (simp; omega)))) ?_
    refine JM.quiet rfl rfl rfl rfl (fun m => y_load1 hT rfl rfl rfl (Rd1.elem ((hr1 []).app m) (by rw [Int.toNat_natCast]; unfold ints; rw [List.getElem?_map, hh]; rfl))) ?_
    refine JM.quiet rfl rfl rfl rfl (fun m => y_move rfl) ?_
    refine JM.quiet rfl rfl rfl rfl (fun m => y_move rfl) ?_
    refine JM.quiet rfl rfl rfl rfl (fun m => y_indexAddr_slice hT rfl rfl rfl rfl rfl (by (first | omega | exact Nat.le_of_ble_eq_true rfl | decide | (simp; omega))) (by (first | omega | exact Nat.le_of_ble_eq_true rfl | decide | (simp; omega)))) ?_
    refine JM.quiet rfl rfl rfl rfl (fun m => y_load1 hT rfl rfl rfl (Rd1.elem ((hr2 []).app m) (by rw [Int.toNat_natCast]; unfold ints; rw [List.getElem?_map, hh]; rfl))) ?_
    refine JM.quiet rfl rfl rfl rfl (fun m => y_neq rfl rfl) ?_
    refine JM.nil ?_
    refine JE.then_normal ?_
    refine J.cond_f rfl (by (first | rfl | assumption | (simp; done) | (simp; omega))) ?_
    refine J.skip ?_
    refine JE.block_normal ?_
    refine JE.then_normal ?_
    refine J.region ?_
    refine JL.step (y_add rfl rfl (by (first | exact wrap_i64 (by omega) (by omega) | rfl))) rfl rfl rfl ?_
    refine JL.step (y_move rfl) rfl rfl rfl ?_
    refine JL.nil ?_
  all_goals
    exact JE.round (s := i) (i + 1) (by omega) ⟨rfl, rfl, rfl, rfl, trivial⟩ (fun w h => h) (by omega)
end
section
attribute [local irreducible] J JL JE JM LS Y Fc RV Code.wp wpList Code.wpIn wpListIn
attribute [local irreducible] Yc
variable {E : World} {n : Nat} {ds : List Deferred} {env : Fr} {l : List HProp}
variable {dst : Option Tmp} {ty : TypeId} {pos : String} {af : Array Edge} {gd : Option (Nat × Bool)} {x y : Operand} {t' : TypeId}
theorem y_keyEq {xs ys : List Int} {b : Bool} (hx : val env x = some (.agg (ints .u8 xs).toArray)) (hy : val env y = some (.agg (ints .u8 ys).toArray)) (lx : xs.length = 32) (ly : ys.length = 32) (hb : b = decide (xs = ys)) :
    Y prog E n ds ⟨dst, .binOp .eql 50 x y t', ty, pos, af, gd⟩ env l (.bool b) :=
  y_flat_eq (m := 2) (ks := keK) hT (by kernel_rfl) rfl (by kernel_rfl) (by kernel_rfl) rfl rfl hx hy (ke_fits lx) (ke_fits ly) (by rw [hb]; exact ints_iff .u8 xs ys)
end
section
attribute [local irreducible] J JL JE JM LS Y Fc RV Code.wp wpList Code.wpIn wpListIn
attribute [local irreducible] Yc
variable (E : World)
end
end
section
open Go Go.SL
section
/-- What Good answers. -/
def GoodV (keys : List (List Int)) (ls : List SealT) (a b : Int) (gs : List Int) : Prop :=
  ((keyOf keys a = none ∨ keyOf keys b = none ∨ a = b) ∧ gs = []) ∨ ∃ ka kb, keyOf keys a = some ka ∧ keyOf keys b = some kb ∧ a ≠ b ∧ GoodL keys ls a b ka kb gs
theorem GoodV.one {keys : List (List Int)} {ls : List SealT} {a b : Int} {g1 g2 : List Int} (h1 : GoodV keys ls a b g1) (h2 : GoodV keys ls a b g2) : g1 = g2 := by
  rcases h1 with ⟨p1, q1⟩ | ⟨ka, kb, p1, p2, p3, q1⟩ <;> rcases h2 with ⟨r1, s1⟩ | ⟨ka', kb', r1, r2, r3, s1⟩
  · rw [q1, s1]
  · rw [r1, r2] at p1; simp [r3] at p1
  · rw [p1, p2] at r1; simp [p3] at r1
  · rw [p1] at r1; rw [p2] at r2
    cases r1; cases r2
    exact q1.one s1
theorem GoodV.turn {keys : List (List Int)} {ls : List SealT} {a b : Int} {gs : List Int} (h : GoodV keys ls a b gs) : GoodV keys ls b a gs := by
  rcases h with ⟨p1, q1⟩ | ⟨ka, kb, p1, p2, p3, q1⟩
  · refine .inl ⟨?_, q1⟩
    rcases p1 with p | p | p
    · exact .inr (.inl p)
    · exact .inl p
    · exact .inr (.inr p.symm)
  · exact .inr ⟨kb, ka, p2, p1, p3.symm, q1.turn⟩
theorem GoodV.sort {keys : List (List Int)} {ls : List SealT} {a b : Int} {gs : List Int} (h : GoodV keys ls a b gs) : gs.Pairwise (· < ·) := by
  rcases h with ⟨_, rfl⟩ | ⟨_, _, _, _, _, q⟩
  · exact List.Pairwise.nil
  · exact q.sort
theorem GoodV.same {keys : List (List Int)} {ls : List SealT} {a : Int} {gs : List Int} (h : GoodV keys ls a a gs) : gs = [] := by
  rcases h with ⟨_, rfl⟩ | ⟨_, _, _, _, q, _⟩
  · rfl
  · exact absurd rfl q
end
section
attribute [local irreducible] J JL JE JM LS Y Fc RV Code.wp wpList Code.wpIn wpListIn
attribute [local irreducible] Yc
variable (E : World)
end
end
section
open Go Go.SL
section
end
section
attribute [local irreducible] J JL JE JM LS Y Fc RV Code.wp wpList Code.wpIn wpListIn
attribute [local irreducible] Yc Sort.ltInt
variable (E : World)
end
end
section
open Go Go.SL
section
/-- What was heard in each round: of one by the other, and the other way round. -/
abbrev HdT := List (Int × Bool × Bool)
def hlook : HdT → Int → Bool × Bool
  | [], _ => (false, false)
  | e :: r, n => if n = e.1 then e.2 else hlook r n
def hput : HdT → Int → Bool × Bool → HdT
  | [], n, v => [(n, v)]
  | e :: r, n, v => if n = e.1 then (n, v) :: r else e :: hput r n v
def hmE (M : HdT) : List (Int × Value) := M.map fun e => (e.1, .agg #[.bool e.2.1, .bool e.2.2])
theorem hmE_length (M : HdT) : (hmE M).length = M.length := by unfold hmE; rw [List.length_map]
theorem hlook_eq : ∀ (M : HdT) (n : Int), lookV false (mlook (hmE M) n) (.agg #[.bool false, .bool false]) = .agg #[.bool (hlook M n).1, .bool (hlook M n).2]
  | [], n => rfl
  | e :: r, n => by
    have ih := hlook_eq r n
    unfold hmE at ih ⊢
    rw [List.map_cons, mlook, hlook]
    by_cases h : n = e.1
    · rw [if_pos h, if_pos h]; rfl
    · rw [if_neg h, if_neg h]; exact ih
theorem hput_eq (p q : Bool) : ∀ (M : HdT) (n : Int), mput (hmE M) n (.agg #[.bool p, .bool q]) = hmE (hput M n (p, q))
  | [], n => rfl
  | e :: r, n => by
    have ih := hput_eq p q r n
    unfold hmE at ih ⊢
    rw [List.map_cons, mput, hput]
    by_cases h : n = e.1
    · rw [if_pos h, if_pos h]; rfl
    · rw [if_neg h, if_neg h, ih]; rfl
theorem hlook_put (M : HdT) (n k : Int) (v : Bool × Bool) : hlook (hput M n v) k = if k = n then v else hlook M k := by
  induction M with
  | nil => simp [hput, hlook]
  | cons e r ih =>
    unfold hput
    by_cases h : n = e.1
    · rw [if_pos h, hlook, hlook]
      by_cases h2 : k = n
      · rw [if_pos h2, if_pos h2]
      · rw [if_neg h2, if_neg h2, if_neg (by omega)]
    · rw [if_neg h, hlook, hlook, ih]
      by_cases h2 : k = e.1
      · rw [if_pos h2, if_pos h2, if_neg (by omega)]
      · rw [if_neg h2, if_neg h2]
theorem hput_keys (M : HdT) (n k : Int) (v : Bool × Bool) : k ∈ (hput M n v).map (·.1) ↔ k = n ∨ k ∈ M.map (·.1) := by
  induction M with
  | nil => simp [hput]
  | cons e r ih =>
    unfold hput
    split
    · rename_i h
      simp [h]
    · rw [List.map_cons, List.mem_cons, ih, List.map_cons, List.mem_cons]
      constructor
      · rintro (q | q | q)
        · exact .inr (.inl q)
        · exact .inl q
        · exact .inr (.inr q)
      · rintro (q | q | q)
        · exact .inr (.inl q)
        · exact .inl q
        · exact .inr (.inr q)
theorem hput_nodup (M : HdT) (n : Int) (v : Bool × Bool) (h : (M.map (·.1)).Nodup) : ((hput M n v).map (·.1)).Nodup := by
  induction M with
  | nil => simp [hput]
  | cons e r ih =>
    rw [List.map_cons, List.nodup_cons] at h
    unfold hput
    split
    · rename_i h2
      rw [List.map_cons, List.nodup_cons]
      dsimp only
      rw [h2]
      exact h
    · rename_i h2
      rw [List.map_cons, List.nodup_cons, hput_keys]
      exact ⟨fun q => q.elim (fun q => h2 q.symm) h.1, ih h.2⟩
theorem hput_length (M : HdT) (n : Int) (v : Bool × Bool) : (hput M n v).length ≤ M.length + 1 := by
  induction M with
  | nil => simp [hput]
  | cons e r ih => unfold hput; split <;> simp only [List.length_cons] <;> omega
theorem hlook_key {M : HdT} {n : Int} (h : hlook M n ≠ (false, false)) : n ∈ M.map (·.1) := by
  induction M with
  | nil => exact absurd rfl h
  | cons e r ih =>
    rw [hlook] at h
    by_cases q : n = e.1
    · simp [q]
    · rw [if_neg q] at h
      rw [List.map_cons, List.mem_cons]
      exact .inr (ih h)
def hStep (a b : Int) (ka kb : List Int) (M : HdT) (c : Nat × SealT × Bool) : HdT :=
  hput M c.2.1.round ((hlook M c.2.1.round).1 || (c.2.2 && decide (c.2.1.client = a) && decide (c.2.1.peer = kb)), (hlook M c.2.1.round).2 || (c.2.2 && decide (c.2.1.client = b) && decide (c.2.1.peer = ka)))
def hF (a b : Int) (ka kb : List Int) (cs : List (Nat × SealT × Bool)) : HdT := cs.foldl (hStep a b ka kb) []
theorem hF_snoc (a b : Int) (ka kb : List Int) (cs : List (Nat × SealT × Bool)) (c : Nat × SealT × Bool) : hF a b ka kb (cs ++ [c]) = hStep a b ka kb (hF a b ka kb cs) c := by
  unfold hF
  rw [List.foldl_append]; rfl
theorem hF_facts (a b : Int) (ka kb : List Int) (cs : List (Nat × SealT × Bool)) : ((hF a b ka kb cs).map (·.1)).Nodup ∧ (hF a b ka kb cs).length ≤ cs.length ∧ ∀ n, ((hlook (hF a b ka kb cs) n).1 = true ↔ ∃ c ∈ cs, c.2.2 = true ∧ c.2.1.client = a ∧ c.2.1.peer = kb ∧ c.2.1.round = n) ∧ ((hlook (hF a b ka kb cs) n).2 = true ↔ ∃ c ∈ cs, c.2.2 = true ∧ c.2.1.client = b ∧ c.2.1.peer = ka ∧ c.2.1.round = n) := by
  have h : ∀ (cs : List (Nat × SealT × Bool)) (M : HdT), (M.map (·.1)).Nodup → ((cs.foldl (hStep a b ka kb) M).map (·.1)).Nodup ∧ (cs.foldl (hStep a b ka kb) M).length ≤ M.length + cs.length ∧ ∀ n, ((hlook (cs.foldl (hStep a b ka kb) M) n).1 = true ↔ (hlook M n).1 = true ∨ ∃ c ∈ cs, c.2.2 = true ∧ c.2.1.client = a ∧ c.2.1.peer = kb ∧ c.2.1.round = n) ∧ ((hlook (cs.foldl (hStep a b ka kb) M) n).2 = true ↔ (hlook M n).2 = true ∨ ∃ c ∈ cs, c.2.2 = true ∧ c.2.1.client = b ∧ c.2.1.peer = ka ∧ c.2.1.round = n) := by
    intro cs
    induction cs with
    | nil => intro M hM; exact ⟨hM, by simp, fun n => by simp⟩
    | cons c r ih =>
      intro M hM
      obtain ⟨i1, i2, i3⟩ := ih (hStep a b ka kb M c) (hput_nodup _ _ _ hM)
      refine ⟨i1, ?_, fun n => ?_⟩
      · have := hput_length M c.2.1.round ((hlook M c.2.1.round).1 || (c.2.2 && decide (c.2.1.client = a) && decide (c.2.1.peer = kb)), (hlook M c.2.1.round).2 || (c.2.2 && decide (c.2.1.client = b) && decide (c.2.1.peer = ka)))
        rw [List.foldl_cons, List.length_cons]
        have e : (hStep a b ka kb M c).length ≤ M.length + 1 := this
        omega
      · obtain ⟨j1, j2⟩ := i3 n
        rw [List.foldl_cons, j1, j2]
        unfold hStep
        rw [hlook_put]
        simp only [List.mem_cons, exists_eq_or_imp]
        by_cases hn : n = c.2.1.round
        · subst hn
          rw [if_pos rfl]
          simp only [Bool.or_eq_true, Bool.and_eq_true, decide_eq_true_eq]
          constructor
          · constructor
            · rintro ((q | ⟨⟨q1, q2⟩, q3⟩) | q)
              · exact .inl q
              · exact .inr (.inl ⟨q1, q2, q3, by first | rfl | trivial⟩)
              · exact .inr (.inr q)
            · rintro (q | ⟨q1, q2, q3, _⟩ | q)
              · exact .inl (.inl q)
              · exact .inl (.inr ⟨⟨q1, q2⟩, q3⟩)
              · exact .inr q
          · constructor
            · rintro ((q | ⟨⟨q1, q2⟩, q3⟩) | q)
              · exact .inl q
              · exact .inr (.inl ⟨q1, q2, q3, by first | rfl | trivial⟩)
              · exact .inr (.inr q)
            · rintro (q | ⟨q1, q2, q3, _⟩ | q)
              · exact .inl (.inl q)
              · exact .inl (.inr ⟨⟨q1, q2⟩, q3⟩)
              · exact .inr q
        · rw [if_neg hn]
          constructor
          · constructor
            · rintro (q | q)
              · exact .inl q
              · exact .inr (.inr q)
            · rintro (q | ⟨_, _, _, q⟩ | q)
              · exact .inl q
              · exact absurd q.symm hn
              · exact .inr q
          · constructor
            · rintro (q | q)
              · exact .inl q
              · exact .inr (.inr q)
            · rintro (q | ⟨_, _, _, q⟩ | q)
              · exact .inl q
              · exact absurd q.symm hn
              · exact .inr q
  obtain ⟨h1, h2, h3⟩ := h cs [] List.nodup_nil
  exact ⟨h1, by simpa [hF] using h2, fun n => by simpa [hF, hlook] using h3 n⟩
theorem hF_hrd {keys : List (List Int)} {ls : List SealT} {a : Int} {kb : List Int} {n : Int} : (∃ c ∈ (readF keys ls).2.1, c.2.2 = true ∧ c.2.1.client = a ∧ c.2.1.peer = kb ∧ c.2.1.round = n) ↔ hrd keys ls a kb n := by
  have e : (readF keys ls).2.1 = (readF keys (ls.take ls.length)).2.1 := by rw [List.take_length]
  rw [e]
  constructor
  · rintro ⟨⟨i, x, cv⟩, hc, h1, h2, h3, h4⟩
    obtain ⟨_, hx, ho, hcv⟩ := (calls_mem keys ls ls.length (Nat.le_refl _) i x cv).1 hc
    exact ⟨i, x, hx, h2, ho, h4, h3, by rw [← hcv]; exact h1⟩
  · rintro ⟨i, x, hx, h2, ho, h4, h3, hcv⟩
    exact ⟨(i, x, true), (calls_mem keys ls ls.length (Nat.le_refl _) i x true).2 ⟨(List.getElem?_eq_some_iff.1 hx).1, hx, ho, hcv.symm⟩, rfl, h2, h3, h4⟩
/-- Rounds in order, and those of them in which both were heard. -/
theorem good_list {keys : List (List Int)} {ls : List SealT} {a b : Int} {ka kb : List Int} {ys : List Int} (hp : ys.Perm ((hF a b ka kb (readF keys ls).2.1).map (·.1))) (hs : ys.Pairwise fun x y => Sort.ltInt y x = false) :
    GoodL keys ls a b ka kb (ys.filter fun n => (hlook (hF a b ka kb (readF keys ls).2.1) n).1 && (hlook (hF a b ka kb (readF keys ls).2.1) n).2) := by
  obtain ⟨h1, _, h3⟩ := hF_facts a b ka kb (readF keys ls).2.1
  have hnd : ys.Nodup := hp.nodup_iff.2 h1
  have hlt : ys.Pairwise (· < ·) := by
    refine (List.Pairwise.and hs hnd).imp fun {x y} q => ?_
    have := q.1
    simp only [Sort.ltInt, decide_eq_false_iff_not] at this
    have := q.2
    omega
  refine ⟨hlt.filter _, fun n => ?_⟩
  rw [List.mem_filter, Bool.and_eq_true, (h3 n).1, (h3 n).2, hF_hrd, hF_hrd]
  constructor
  · exact fun q => q.2
  · intro q
    refine ⟨hp.mem_iff.2 (hlook_key ?_), q⟩
    intro z
    have := ((h3 n).1).2 (hF_hrd.2 q.1)
    rw [z] at this
    cases this
end
section
attribute [local irreducible] J JL JE JM LS Y Fc RV Code.wp wpList Code.wpIn wpListIn
attribute [local irreducible] Yc
variable (E : World)
abbrev hMap (b mp : Nat) (M : HdT) : HProp := pk fun _ : Unit => [row b 90 [.map (some mp)], mapA (Value.int .u64) (fun _ => True) mp (hmE M)]
theorem mkeysU_spec (l : List HProp) (v : Value) (hv : v.oneCell' = true) : Fc prog E 48 [v].toArray l (fun u l' => ∃ b, u = .func (.func 66) #[] [Value.pointer (some ⟨b, 0, none⟩)].toArray ∧ l' = row b 90 [v] :: l) := by
  have hvc : v.cells = [v].toArray := by cases v <;> simp_all [Value.cells, Value.oneCell']
  refine Fc.of_body (c := ?codeC) Tryd.func48 ?hb Tryd.ntmps48 ?hl ?_
  case hb => exact rfl
  case hl => exact rfl
  refine J.seq ?_
  refine J.region ?_
  refine JL.loud rfl (l_box rfl hvc rfl (fun b1 => ?_))
  refine JL.step (y_assign rfl) rfl rfl rfl ?_
  refine JL.nil ?_
  refine JE.then_normal ?_
  refine J.seq ?_
  refine J.region ?_
  refine JL.step (y_makeFunc rfl rfl) rfl rfl rfl (JL.step (y_assign rfl) rfl rfl rfl ?_)
  refine JL.nil ?_
  refine JE.then_normal ?_
  refine J.ret ?_
  refine JE.ret1 (.inl rfl) rfl rfl (by (first | exact RV.tmp rfl | exact RV.cell1 hT rfl rfl rfl (by (exact Rd1.row (by (repeat (first | exact Pick.head | apply Pick.tail | apply Pick.app))) (by rfl))) | exact RV.cellN hT rfl rfl rfl (by (first | exact RdN.rowAll (by (repeat (first | exact Pick.head | apply Pick.tail | apply Pick.app))) | exact RdN.own (by (repeat (first | exact Pick.head | apply Pick.tail | apply Pick.app))))) (by (first | rfl | assumption | (simp; done) | omega)))) ?_
  exact ⟨b1, rfl, rfl⟩
theorem hmE_split {fs : HdT} {r1 r2 : List (Int × Value)} {a : Int} {v : Value} (h : hmE fs = r1 ++ (a, v) :: r2) : ∃ q1 f q2, fs = q1 ++ f :: q2 ∧ r1 ++ r2 = hmE (q1 ++ q2) ∧ a = f.1 ∧ v = .agg #[.bool f.2.1, .bool f.2.2] := by
  unfold hmE at h
  obtain ⟨q1, q', h1, h2, h3⟩ := List.map_eq_append_iff.1 h
  obtain ⟨f, q2, h4, h5, h6⟩ := List.map_eq_cons_iff.1 h3
  simp only [Prod.mk.injEq] at h5
  exact ⟨q1, f, q2, by rw [h1, h4], by unfold hmE; rw [List.map_append, h2, h6], h5.1.symm, h5.2.symm⟩
theorem mkeysU_each (b mp : Nat) (fs : HdT) (l : List HProp) : IterU E 66 b fs.length (fun vs => vs.Perm (fs.map (·.1))) (hMap b mp fs) l := by
  intro k St hy
  refine Fc.post ?_
  unfold hMap
  refine Fc.pks fun _ => ?_
  dsimp only
  refine Fc.of_body (c := ?codeC) Tryd.func66 ?hb Tryd.ntmps66 ?hl ?_
  case hb => exact rfl
  case hl => exact rfl
  refine J.seq ?_
  refine J.region ?_
  refine JL.step (y_load1 hT rfl rfl rfl (by (exact Rd1.row (by (repeat (first | exact Pick.head | apply Pick.tail | apply Pick.app))) (by rfl)))) rfl rfl rfl ?_
  refine JL.loud rfl (l_rangeMap hT rfl rfl rfl (by (repeat (first | exact Pick.head | apply Pick.tail | apply Pick.app))) rfl (fun it => ?_))
  refine JL.nil ?_
  refine JE.then_normal ?_
  refine J.block ?_
  refine J.loop (α := List Int × HdT × Option (Int × Value)) (fun s => (s.1 ++ s.2.1.map (·.1)).Perm (fs.map (·.1))) (fun s => [(0, .func (.yield k) #[] #[]), (1, .pointer (some ⟨b, 0, none⟩)), (5, .pointer (some ⟨it, 0, none⟩))]) (fun s => St s.1 ++ (mapIt (Value.int .u64) (fun _ => True) mp it (hmE fs) (hmE s.2.1) s.2.2 :: row b 90 [.map (some mp)] :: l)) (fun s => s.2.1.length) ([], fs, none) (by simp) ⟨rfl, rfl, rfl, trivial⟩ (fun w h => by
    have h2 := h.sup (p := mapIt (Value.int .u64) (fun _ => True) mp it (hmE fs) (hmE fs) none :: row b 90 [.map (some mp)] :: (St [] ++ l)) (by (repeat (first | exact Sup.refl | apply Sup.cons (by (repeat (first | exact Pick.head | apply Pick.tail | apply Pick.app))) | apply Sup.app | apply Sup.skip | apply Sup.skips)))
    exact Sat.rot (p := [_, _]) (g := St []) h2) ?_
  rintro ⟨vs, rest, cur⟩ hp
  dsimp only at hp ⊢
  refine J.seq ?_
  refine J.region ?_
  refine JL.loud rfl (l_nextMap rfl (by (repeat (first | exact Pick.head | apply Pick.tail | apply Pick.app))) rfl (fun h0 => ?_) (fun r1 a v r2 he ha => ?_))
  all_goals (refine JL.step (y_extract rfl rfl) rfl rfl rfl ?_)
  all_goals refine JL.nil ?_
  all_goals refine JE.then_normal ?_
  all_goals
    refine J.seq ?_
    first | apply J.cond_dec rfl | apply J.cond rfl
    case' ht =>
      intro h
      try (first | (exfalso; omega) | (cases h; done) | (exfalso; simp at h; done) | subst h)
      all_goals
        refine J.skip ?_
    case' hf =>
      intro h
      try (first | (exfalso; omega) | (cases h; done) | (exfalso; simp at h; done) | subst h)
      all_goals
        refine J.exit ?_
        refine JE.then_exit ?_
        refine JE.then_exit ?_
        refine JE.block_exit ?_
        refine JE.ret0 (.inr rfl) rfl rfl  ?_
        refine ⟨hMap b mp fs :: (St vs ++ l), fun w h => ?_, vs, by rw [show rest = [] from List.eq_nil_of_length_eq_zero (by rw [← hmE_length, h0]; rfl)] at hp; simpa using hp, rfl⟩
        have s1 := Sat.rot (p := [_]) (g := St vs) h.it_end
        have s2 := Sat.rot (p := St vs) (g := [mapA (Value.int .u64) (fun _ => True) mp (hmE fs), row b 90 [.map (some mp)]]) s1
        exact Sat.topk (F := fun _ : Unit => [row b 90 [.map (some mp)], mapA (Value.int .u64) (fun _ => True) mp (hmE fs)]) () (s2.sup (by (repeat (first | exact Sup.refl | apply Sup.cons (by (repeat (first | exact Pick.head | apply Pick.tail | apply Pick.app))) | apply Sup.app | apply Sup.skip | apply Sup.skips))))
    all_goals refine JE.then_normal ?_
    all_goals
      refine J.block ?_
      refine J.seq ?_
      obtain ⟨q1, f, q2, rfl, he2, rfl, rfl⟩ := hmE_split he
      refine J.region ?_
      refine JL.step (y_entry rfl (by (repeat (first | exact Pick.head | apply Pick.tail | apply Pick.app)))) rfl rfl rfl ?_
      refine JL.step (y_extract rfl rfl) rfl rfl rfl (JL.step (y_assign rfl) rfl rfl rfl ?_)
      refine JL.nil ?_
      refine JE.then_normal ?_
      refine J.seq ?_
      refine J.region ?_
      have hlen : vs.length < fs.length := by
        have := hp.length_eq
        simp at this
        omega
      refine JL.step (y_move rfl) rfl rfl rfl (JL.step (y_move rfl) rfl rfl rfl ?_)
      refine JL.yield rfl rfl rfl (Yc.imp (hy _ vs f.1 hlen) (fun w h => Sat.rot (p := [_]) (g := St vs) h)) ?_
      rintro _ _ ⟨rfl, rfl⟩
      all_goals (refine JL.step (y_not rfl) rfl rfl rfl ?_)
      all_goals refine JL.nil ?_
      all_goals refine JE.then_normal ?_
      all_goals
        refine J.cond_f rfl (by (first | rfl | assumption | (simp; done) | (simp; omega))) ?_
        refine J.skip ?_
      all_goals refine JE.block_normal ?_
  all_goals
    exact JE.round (s := (vs, q1 ++ f :: q2, cur)) (vs ++ [f.1], q1 ++ q2, some (f.1, .agg #[.bool f.2.1, .bool f.2.2])) (by
      dsimp only
      refine List.Perm.trans ?_ hp
      simp only [List.map_append, List.map_cons, List.append_assoc, List.cons_append, List.nil_append]
      exact List.Perm.append_left vs List.perm_middle.symm) ⟨rfl, rfl, rfl, trivial⟩ (fun w h => by rw [← he2]; exact h.sup (by (repeat (first | exact Sup.refl | apply Sup.cons (by (repeat (first | exact Pick.head | apply Pick.tail | apply Pick.app))) | apply Sup.app | apply Sup.skip | apply Sup.skips)))) (by dsimp only; simp)
/-- What the closure holds: the rounds so far, who, the keys, whom. -/
abbrev goodA (bh mp ba bk bb : Nat) (a b : Int) (ka kb : List Int) (kp : Option Addr) (kn kc : Nat) (cs : List (Nat × SealT × Bool)) : HProp :=
  pk fun _ : Unit => [row bh 90 [.map (some mp)], mapA (Value.int .u64) (fun _ => True) mp (hmE (hF a b ka kb cs)), row ba 3 [.int .i64 a], row bk 40 [.slice kp kn kc], row bb 3 [.int .i64 b]]
theorem good1_spec (bh mp ba bk bb i : Nat) (a b : Int) (ka kb : List Int) (kp : Option Addr) (kn kc : Nat) (keys : List (List Int)) (x : SealT) (cv : Bool) (cs : List (Nat × SealT × Bool)) (r : List HProp) (hx : SeOk x)
    (hkn : keys.length = kn) (hk32 : ∀ k ∈ keys, k.length = 32) (hkin : InL r kp kn kc (keys.flatMap (ints .u8))) (hA : keyOf keys a = some ka) (hB : keyOf keys b = some kb) :
    Fc prog E 47 [.int .i64 i, .agg (seE x).toArray, .bool cv, .pointer (some ⟨bh, 0, none⟩), .pointer (some ⟨ba, 0, none⟩), .pointer (some ⟨bk, 0, none⟩), .pointer (some ⟨bb, 0, none⟩)].toArray (goodA bh mp ba bk bb a b ka kb kp kn kc cs :: r) (fun v l' => v = .tuple #[] ∧ l' = goodA bh mp ba bk bb a b ka kb kp kn kc (cs ++ [(i, x, cv)]) :: r) := by
  refine Fc.eqs ?_
  unfold goodA
  refine Fc.pks fun _ => ?_
  rw [hF_snoc]
  obtain ⟨M, hM⟩ : ∃ M, hF a b ka kb cs = M := ⟨_, rfl⟩
  rw [hM]
  unfold hStep
  try dsimp only
  obtain ⟨p0, hp0⟩ : ∃ p, (hlook M x.round).1 = p := ⟨_, rfl⟩
  obtain ⟨p1, hp1⟩ : ∃ p, (hlook M x.round).2 = p := ⟨_, rfl⟩
  rw [hp0, hp1]
  obtain ⟨e1, he1⟩ : ∃ e, e = decide (x.client = a) := ⟨_, rfl⟩
  obtain ⟨e2, he2⟩ : ∃ e, e = decide (x.peer = kb) := ⟨_, rfl⟩
  obtain ⟨e3, he3⟩ : ∃ e, e = decide (x.client = b) := ⟨_, rfl⟩
  obtain ⟨e4, he4⟩ : ∃ e, e = decide (x.peer = ka) := ⟨_, rfl⟩
  rw [← he1, ← he2, ← he3, ← he4]
  obtain ⟨ha0, ha1, hak⟩ := keyOf_some hA
  obtain ⟨hb0, hb1, hbk⟩ := keyOf_some hB
  rw [hkn] at ha1 hb1
  have hal := hk32 ka (List.mem_of_getElem? hak)
  have hbl := hk32 kb (List.mem_of_getElem? hbk)
  obtain ⟨kg, ko, rfl, hkr⟩ := hkin.addr (by omega)
  have hea : RdN r kg (ko + a.toNat * 32) (ints .u8 ka) := RdN.elem (hkr []) (fun k hk => by simp [ints, hk32 k hk]) hak
  have heb : RdN r kg (ko + b.toNat * 32) (ints .u8 kb) := RdN.elem (hkr []) (fun k hk => by simp [ints, hk32 k hk]) hbk
  refine Fc.of_body (c := ?codeC) Tryd.func47 ?hb Tryd.ntmps47 ?hl ?_
  case hb => exact rfl
  case hl => exact rfl
  refine J.seq ?_
  refine J.region ?_
  refine JL.loud rfl (l_box (cs := seE x) rfl rfl rfl (fun bX => ?_))
  refine JL.nil ?_
  refine JE.then_normal ?_
  refine J.seq ?_
  refine J.region ?_
  refine JL.step (y_load1 hT rfl rfl rfl (by (exact Rd1.row (by (repeat (first | exact Pick.head | apply Pick.tail | apply Pick.app))) (by rfl)))) rfl rfl rfl ?_
  refine JL.step (y_fieldAddr hT rfl rfl rfl rfl rfl rfl) rfl rfl rfl (JL.step (y_fieldAddr hT rfl rfl rfl rfl rfl rfl) rfl rfl rfl ?_)
  refine JL.step (y_load1 hT rfl rfl rfl (Rd1.row (by (repeat (first | exact Pick.head | apply Pick.tail | apply Pick.app))) (seE_round hx))) rfl rfl rfl ?_
  refine JL.step (v := .agg #[.bool p0, .bool p1]) (Y.val (y_lookup (a := x.round) hT rfl rfl rfl rfl (keyInt hT rfl rfl) rfl rfl rfl trivial (by (repeat (first | exact Pick.head | apply Pick.tail | apply Pick.app)))) (by rw [← hp0, ← hp1]; exact hlook_eq M _)) rfl rfl rfl ?_
  refine JL.loud rfl (l_alloc hT rfl rfl (by (first | rfl | simp)) rfl (fun b1 => ?_))
  refine JL.loud rfl (l_storeAll (vs := [.bool p0, .bool p1]) hT rfl rfl rfl rfl (by (first | assumption | exact ones_of rfl | exact encW_one _ | exact encB_one _ | (intro u hu; simp at hu; rcases hu with rfl | rfl <;> rfl) | (intro u hu; simp at hu; subst hu; rfl) | simp)) (by (repeat (first | exact Pick.head | apply Pick.tail | apply Pick.app))) (by (first | rfl | assumption | (simp; done) | omega)) ?_)
  refine JL.nil ?_
  refine JE.then_normal ?_
  refine J.seqK (α := Unit) (fun _ => True) (fun _ => [(2, .bool cv), (3, .pointer (some ⟨bh, 0, none⟩)), (4, .pointer (some ⟨ba, 0, none⟩)), (5, .pointer (some ⟨bk, 0, none⟩)), (6, .pointer (some ⟨bb, 0, none⟩)), (8, .pointer (some ⟨bX, 0, none⟩)), (10, .pointer (some ⟨b1, 0, none⟩))]) (fun _ => row b1 91 [.bool (p0 || (cv && e1 && e2)), .bool p1] :: row bX 55 (seE x) :: row bh 90 [.map (some mp)] :: mapA (Value.int .u64) (fun _ => True) mp (hmE M) :: row ba 3 [.int .i64 a] :: row bk 40 [.slice (some ⟨kg, ko, none⟩) kn kc] :: row bb 3 [.int .i64 b] :: r) ?hj3 (fun hk3 => ?hf3)
  case hf3 =>
    obtain rfl | ⟨rfl, rfl⟩ | ⟨rfl, rfl, rfl⟩ | ⟨rfl, rfl, rfl⟩ : p0 = true ∨ (p0 = false ∧ cv = false) ∨ (p0 = false ∧ cv = true ∧ e1 = false) ∨ (p0 = false ∧ cv = true ∧ e1 = true) := by cases p0 <;> cases cv <;> cases e1 <;> simp
    all_goals
      refine J.draw _ _ [(0, .q), (1, .e), (2, .q), (3, .q), (4, .q), (5, .q), (6, .q), (7, .q), (8, .q), (9, .q), (10, .q), (11, .q), (12, .q), (13, .q), (14, .q), (15, .q), (16, .q), (17, .q), (18, .q), (19, .q), (20, .q), (21, .q), (22, .l)] mixed (by kernel_rfl) (Split.cons (Pick.head) (Split.nil)) ?_
      refine JM.quiet rfl rfl rfl rfl (fun m => y_indexAddr_arr hT rfl rfl rfl rfl rfl (by (first | omega | exact Nat.le_of_ble_eq_true rfl | decide | (simp; omega))) (by (first | omega | exact Nat.le_of_ble_eq_true rfl | decide | (simp; omega)))) ?_
      refine JM.early rfl rfl rfl rfl (fun fr => y_load1 hT rfl rfl rfl (by (exact Rd1.row (by (repeat (first | exact Pick.head | apply Pick.tail | apply Pick.app))) (by rfl)))) ?_
      refine JM.quiet rfl rfl rfl rfl (fun m => y_move rfl) ?_
      all_goals (first | refine JM.gskip rfl rfl rfl rfl rfl rfl rfl ?_ | refine JM.gskipU rfl rfl rfl rfl rfl rfl ?_ | refine JM.gquiet rfl rfl rfl rfl rfl rfl (fun m => y_move rfl) ?_)
      all_goals (first | refine JM.gskip rfl rfl rfl rfl rfl rfl rfl ?_ | refine JM.gskipU rfl rfl rfl rfl rfl rfl ?_ | refine JM.gquiet rfl rfl rfl rfl rfl rfl (fun m => y_move rfl) ?_)
      all_goals (first | refine JM.gskip rfl rfl rfl rfl rfl rfl rfl ?_ | refine JM.gskipU rfl rfl rfl rfl rfl rfl ?_ | refine JM.gquiet rfl rfl rfl rfl rfl rfl (fun m => y_fieldAddr hT rfl rfl rfl rfl rfl rfl) ?_)
      all_goals (first | refine JM.gskip rfl rfl rfl rfl rfl rfl rfl ?_ | refine JM.gskipU rfl rfl rfl rfl rfl rfl ?_ | refine JM.gquiet rfl rfl rfl rfl rfl rfl (fun m => y_load1 hT rfl rfl rfl (by (exact Rd1.row (Pick.app m (by (repeat (first | exact Pick.head | apply Pick.tail | apply Pick.app)))) (by rfl)))) ?_)
      all_goals (first | refine JM.gskip rfl rfl rfl rfl rfl rfl rfl ?_ | refine JM.gskipU rfl rfl rfl rfl rfl rfl ?_ | refine JM.gquiet rfl rfl rfl rfl rfl rfl (fun m => y_load1 hT rfl rfl rfl (by (exact Rd1.row (Pick.app m (by (repeat (first | exact Pick.head | apply Pick.tail | apply Pick.app)))) (by rfl)))) ?_)
      all_goals (first | refine JM.gskip rfl rfl rfl rfl rfl rfl rfl ?_ | refine JM.gskipU rfl rfl rfl rfl rfl rfl ?_ | refine JM.gquiet rfl rfl rfl rfl rfl rfl (fun m => y_eqlB rfl rfl he1.symm) ?_)
      all_goals (first | refine JM.gskip rfl rfl rfl rfl rfl rfl rfl ?_ | refine JM.gskipU rfl rfl rfl rfl rfl rfl ?_ | refine JM.gquiet rfl rfl rfl rfl rfl rfl (fun m => y_pick rfl rfl rfl) ?_)
      all_goals (first | refine JM.gskip rfl rfl rfl rfl rfl rfl rfl ?_ | refine JM.gskipU rfl rfl rfl rfl rfl rfl ?_ | refine JM.gquiet rfl rfl rfl rfl rfl rfl (fun m => y_move rfl) ?_)
      all_goals (first | refine JM.gskip rfl rfl rfl rfl rfl rfl rfl ?_ | refine JM.gskipU rfl rfl rfl rfl rfl rfl ?_ | refine JM.gquiet rfl rfl rfl rfl rfl rfl (fun m => y_fieldAddr hT rfl rfl rfl rfl rfl rfl) ?_)
      all_goals (first | refine JM.gskip rfl rfl rfl rfl rfl rfl rfl ?_ | refine JM.gskipU rfl rfl rfl rfl rfl rfl ?_ | refine JM.gquiet rfl rfl rfl rfl rfl rfl (fun m => y_fieldAddr hT rfl rfl rfl rfl rfl rfl) ?_)
      all_goals (first | refine JM.gskip rfl rfl rfl rfl rfl rfl rfl ?_ | refine JM.gskipU rfl rfl rfl rfl rfl rfl ?_ | refine JM.gquiet rfl rfl rfl rfl rfl rfl (fun m => y_loadN hT rfl rfl rfl (RdN.row (n := 32) (vs := ints .u8 x.peer) (Pick.app m (by (repeat (first | exact Pick.head | apply Pick.tail | apply Pick.app)))) (seE_peer hx)) (by simp [ints, hx.peer]; rfl)) ?_)
      all_goals (first | refine JM.gskip rfl rfl rfl rfl rfl rfl rfl ?_ | refine JM.gskipU rfl rfl rfl rfl rfl rfl ?_ | refine JM.gquiet rfl rfl rfl rfl rfl rfl (fun m => y_load1 hT rfl rfl rfl (by (exact Rd1.row (Pick.app m (by (repeat (first | exact Pick.head | apply Pick.tail | apply Pick.app)))) (by rfl)))) ?_)
      all_goals (first | refine JM.gskip rfl rfl rfl rfl rfl rfl rfl ?_ | refine JM.gskipU rfl rfl rfl rfl rfl rfl ?_ | refine JM.gquiet rfl rfl rfl rfl rfl rfl (fun m => y_load1 hT rfl rfl rfl (by (exact Rd1.row (Pick.app m (by (repeat (first | exact Pick.head | apply Pick.tail | apply Pick.app)))) (by rfl)))) ?_)
      all_goals (first | refine JM.gskip rfl rfl rfl rfl rfl rfl rfl ?_ | refine JM.gskipU rfl rfl rfl rfl rfl rfl ?_ | refine JM.gquiet rfl rfl rfl rfl rfl rfl (fun m => y_indexAddr_slice hT rfl rfl rfl rfl rfl (by (first | omega | exact Nat.le_of_ble_eq_true rfl | decide | (simp; omega))) (by (first | omega | exact Nat.le_of_ble_eq_true rfl | decide | (simp; omega)))) ?_)
      all_goals (first | refine JM.gskip rfl rfl rfl rfl rfl rfl rfl ?_ | refine JM.gskipU rfl rfl rfl rfl rfl rfl ?_ | refine JM.gquiet rfl rfl rfl rfl rfl rfl (fun m => y_loadN hT rfl rfl rfl (vs := ints .u8 kb) (by (repeat (first | assumption | apply RdN.cons | apply RdN.app))) (by simp [ints, hbl]; rfl)) ?_)
      all_goals (first | refine JM.gskip rfl rfl rfl rfl rfl rfl rfl ?_ | refine JM.gskipU rfl rfl rfl rfl rfl rfl ?_ | refine JM.gquiet rfl rfl rfl rfl rfl rfl (fun m => y_keyEq rfl rfl hx.peer hbl he2) ?_)
      all_goals (first | refine JM.gskip rfl rfl rfl rfl rfl rfl rfl ?_ | refine JM.gskipU rfl rfl rfl rfl rfl rfl ?_ | refine JM.gquiet rfl rfl rfl rfl rfl rfl (fun m => y_pick rfl rfl rfl) ?_)
      all_goals refine JM.quiet rfl rfl rfl rfl (fun m => y_pick rfl rfl rfl) ?_
      all_goals refine JM.quiet rfl rfl rfl rfl (fun m => y_indexAddr_arr hT rfl rfl rfl rfl rfl (by (first | omega | exact Nat.le_of_ble_eq_true rfl | decide | (simp; omega))) (by (first | omega | exact Nat.le_of_ble_eq_true rfl | decide | (simp; omega)))) ?_
      all_goals refine JM.loud rfl rfl (fun fr => l_store1 hT rfl rfl rfl rfl rfl (by (repeat (first | exact Pick.head | apply Pick.tail | apply Pick.app))) (by (first | omega | exact Nat.le_of_ble_eq_true rfl | decide | (simp; omega))) (⟨[_], (by (repeat (first | exact Split.nil | exact Split.all | refine Split.cons Pick.head ?_))), ?_⟩))
      all_goals refine JM.nil ?_
    all_goals refine JE.then_normal ?_
    all_goals
      exact J.closeK hk3 () trivial ⟨rfl, rfl, rfl, rfl, rfl, rfl, rfl, trivial⟩ (fun w h => h)
  rintro _ _
  try dsimp only
  refine J.seqK (α := Unit) (fun _ => True) (fun _ => [(3, .pointer (some ⟨bh, 0, none⟩)), (8, .pointer (some ⟨bX, 0, none⟩)), (10, .pointer (some ⟨b1, 0, none⟩))]) (fun _ => row b1 91 [.bool (p0 || (cv && e1 && e2)), .bool (p1 || (cv && e3 && e4))] :: row bX 55 (seE x) :: row bh 90 [.map (some mp)] :: mapA (Value.int .u64) (fun _ => True) mp (hmE M) :: row ba 3 [.int .i64 a] :: row bk 40 [.slice (some ⟨kg, ko, none⟩) kn kc] :: row bb 3 [.int .i64 b] :: r) ?hj4 (fun hk4 => ?hf4)
  case hf4 =>
    obtain rfl | ⟨rfl, rfl⟩ | ⟨rfl, rfl, rfl⟩ | ⟨rfl, rfl, rfl⟩ : p1 = true ∨ (p1 = false ∧ cv = false) ∨ (p1 = false ∧ cv = true ∧ e3 = false) ∨ (p1 = false ∧ cv = true ∧ e3 = true) := by cases p1 <;> cases cv <;> cases e3 <;> simp
    all_goals
      refine J.draw _ _ [(0, .q), (1, .e), (2, .q), (3, .q), (4, .q), (5, .q), (6, .q), (7, .q), (8, .q), (9, .q), (10, .q), (11, .q), (12, .q), (13, .q), (14, .q), (15, .q), (16, .q), (17, .q), (18, .q), (19, .q), (20, .q), (21, .q), (22, .l)] mixed (by kernel_rfl) (Split.cons (Pick.head) (Split.nil)) ?_
      refine JM.quiet rfl rfl rfl rfl (fun m => y_indexAddr_arr hT rfl rfl rfl rfl rfl (by (first | omega | exact Nat.le_of_ble_eq_true rfl | decide | (simp; omega))) (by (first | omega | exact Nat.le_of_ble_eq_true rfl | decide | (simp; omega)))) ?_
      refine JM.early rfl rfl rfl rfl (fun fr => y_load1 hT rfl rfl rfl (by (exact Rd1.row (by (repeat (first | exact Pick.head | apply Pick.tail | apply Pick.app))) (by rfl)))) ?_
      refine JM.quiet rfl rfl rfl rfl (fun m => y_move rfl) ?_
      all_goals (first | refine JM.gskip rfl rfl rfl rfl rfl rfl rfl ?_ | refine JM.gskipU rfl rfl rfl rfl rfl rfl ?_ | refine JM.gquiet rfl rfl rfl rfl rfl rfl (fun m => y_move rfl) ?_)
      all_goals (first | refine JM.gskip rfl rfl rfl rfl rfl rfl rfl ?_ | refine JM.gskipU rfl rfl rfl rfl rfl rfl ?_ | refine JM.gquiet rfl rfl rfl rfl rfl rfl (fun m => y_move rfl) ?_)
      all_goals (first | refine JM.gskip rfl rfl rfl rfl rfl rfl rfl ?_ | refine JM.gskipU rfl rfl rfl rfl rfl rfl ?_ | refine JM.gquiet rfl rfl rfl rfl rfl rfl (fun m => y_fieldAddr hT rfl rfl rfl rfl rfl rfl) ?_)
      all_goals (first | refine JM.gskip rfl rfl rfl rfl rfl rfl rfl ?_ | refine JM.gskipU rfl rfl rfl rfl rfl rfl ?_ | refine JM.gquiet rfl rfl rfl rfl rfl rfl (fun m => y_load1 hT rfl rfl rfl (by (exact Rd1.row (Pick.app m (by (repeat (first | exact Pick.head | apply Pick.tail | apply Pick.app)))) (by rfl)))) ?_)
      all_goals (first | refine JM.gskip rfl rfl rfl rfl rfl rfl rfl ?_ | refine JM.gskipU rfl rfl rfl rfl rfl rfl ?_ | refine JM.gquiet rfl rfl rfl rfl rfl rfl (fun m => y_load1 hT rfl rfl rfl (by (exact Rd1.row (Pick.app m (by (repeat (first | exact Pick.head | apply Pick.tail | apply Pick.app)))) (by rfl)))) ?_)
      all_goals (first | refine JM.gskip rfl rfl rfl rfl rfl rfl rfl ?_ | refine JM.gskipU rfl rfl rfl rfl rfl rfl ?_ | refine JM.gquiet rfl rfl rfl rfl rfl rfl (fun m => y_eqlB rfl rfl he3.symm) ?_)
      all_goals (first | refine JM.gskip rfl rfl rfl rfl rfl rfl rfl ?_ | refine JM.gskipU rfl rfl rfl rfl rfl rfl ?_ | refine JM.gquiet rfl rfl rfl rfl rfl rfl (fun m => y_pick rfl rfl rfl) ?_)
      all_goals (first | refine JM.gskip rfl rfl rfl rfl rfl rfl rfl ?_ | refine JM.gskipU rfl rfl rfl rfl rfl rfl ?_ | refine JM.gquiet rfl rfl rfl rfl rfl rfl (fun m => y_move rfl) ?_)
      all_goals (first | refine JM.gskip rfl rfl rfl rfl rfl rfl rfl ?_ | refine JM.gskipU rfl rfl rfl rfl rfl rfl ?_ | refine JM.gquiet rfl rfl rfl rfl rfl rfl (fun m => y_fieldAddr hT rfl rfl rfl rfl rfl rfl) ?_)
      all_goals (first | refine JM.gskip rfl rfl rfl rfl rfl rfl rfl ?_ | refine JM.gskipU rfl rfl rfl rfl rfl rfl ?_ | refine JM.gquiet rfl rfl rfl rfl rfl rfl (fun m => y_fieldAddr hT rfl rfl rfl rfl rfl rfl) ?_)
      all_goals (first | refine JM.gskip rfl rfl rfl rfl rfl rfl rfl ?_ | refine JM.gskipU rfl rfl rfl rfl rfl rfl ?_ | refine JM.gquiet rfl rfl rfl rfl rfl rfl (fun m => y_loadN hT rfl rfl rfl (RdN.row (n := 32) (vs := ints .u8 x.peer) (Pick.app m (by (repeat (first | exact Pick.head | apply Pick.tail | apply Pick.app)))) (seE_peer hx)) (by simp [ints, hx.peer]; rfl)) ?_)
      all_goals (first | refine JM.gskip rfl rfl rfl rfl rfl rfl rfl ?_ | refine JM.gskipU rfl rfl rfl rfl rfl rfl ?_ | refine JM.gquiet rfl rfl rfl rfl rfl rfl (fun m => y_load1 hT rfl rfl rfl (by (exact Rd1.row (Pick.app m (by (repeat (first | exact Pick.head | apply Pick.tail | apply Pick.app)))) (by rfl)))) ?_)
      all_goals (first | refine JM.gskip rfl rfl rfl rfl rfl rfl rfl ?_ | refine JM.gskipU rfl rfl rfl rfl rfl rfl ?_ | refine JM.gquiet rfl rfl rfl rfl rfl rfl (fun m => y_load1 hT rfl rfl rfl (by (exact Rd1.row (Pick.app m (by (repeat (first | exact Pick.head | apply Pick.tail | apply Pick.app)))) (by rfl)))) ?_)
      all_goals (first | refine JM.gskip rfl rfl rfl rfl rfl rfl rfl ?_ | refine JM.gskipU rfl rfl rfl rfl rfl rfl ?_ | refine JM.gquiet rfl rfl rfl rfl rfl rfl (fun m => y_indexAddr_slice hT rfl rfl rfl rfl rfl (by (first | omega | exact Nat.le_of_ble_eq_true rfl | decide | (simp; omega))) (by (first | omega | exact Nat.le_of_ble_eq_true rfl | decide | (simp; omega)))) ?_)
      all_goals (first | refine JM.gskip rfl rfl rfl rfl rfl rfl rfl ?_ | refine JM.gskipU rfl rfl rfl rfl rfl rfl ?_ | refine JM.gquiet rfl rfl rfl rfl rfl rfl (fun m => y_loadN hT rfl rfl rfl (vs := ints .u8 ka) (by (repeat (first | assumption | apply RdN.cons | apply RdN.app))) (by simp [ints, hal]; rfl)) ?_)
      all_goals (first | refine JM.gskip rfl rfl rfl rfl rfl rfl rfl ?_ | refine JM.gskipU rfl rfl rfl rfl rfl rfl ?_ | refine JM.gquiet rfl rfl rfl rfl rfl rfl (fun m => y_keyEq rfl rfl hx.peer hal he4) ?_)
      all_goals (first | refine JM.gskip rfl rfl rfl rfl rfl rfl rfl ?_ | refine JM.gskipU rfl rfl rfl rfl rfl rfl ?_ | refine JM.gquiet rfl rfl rfl rfl rfl rfl (fun m => y_pick rfl rfl rfl) ?_)
      all_goals refine JM.quiet rfl rfl rfl rfl (fun m => y_pick rfl rfl rfl) ?_
      all_goals refine JM.quiet rfl rfl rfl rfl (fun m => y_indexAddr_arr hT rfl rfl rfl rfl rfl (by (first | omega | exact Nat.le_of_ble_eq_true rfl | decide | (simp; omega))) (by (first | omega | exact Nat.le_of_ble_eq_true rfl | decide | (simp; omega)))) ?_
      all_goals refine JM.loud rfl rfl (fun fr => l_store1 hT rfl rfl rfl rfl rfl (by (repeat (first | exact Pick.head | apply Pick.tail | apply Pick.app))) (by (first | omega | exact Nat.le_of_ble_eq_true rfl | decide | (simp; omega))) (⟨[_], (by (repeat (first | exact Split.nil | exact Split.all | refine Split.cons Pick.head ?_))), ?_⟩))
      all_goals refine JM.nil ?_
    all_goals refine JE.then_normal ?_
    all_goals
      exact J.closeK hk4 () trivial ⟨rfl, rfl, rfl, trivial⟩ (fun w h => h)
  rintro _ _
  try dsimp only
  refine J.region ?_
  refine JL.step (y_load1 hT rfl rfl rfl (by (exact Rd1.row (by (repeat (first | exact Pick.head | apply Pick.tail | apply Pick.app))) (by rfl)))) rfl rfl rfl ?_
  refine JL.step (y_fieldAddr hT rfl rfl rfl rfl rfl rfl) rfl rfl rfl (JL.step (y_fieldAddr hT rfl rfl rfl rfl rfl rfl) rfl rfl rfl ?_)
  refine JL.step (y_load1 hT rfl rfl rfl (Rd1.row (by (repeat (first | exact Pick.head | apply Pick.tail | apply Pick.app))) (seE_round hx))) rfl rfl rfl ?_
  refine JL.step (y_loadN hT rfl rfl rfl (by (first | exact RdN.rowAll (by (repeat (first | exact Pick.head | apply Pick.tail | apply Pick.app))) | exact RdN.own (by (repeat (first | exact Pick.head | apply Pick.tail | apply Pick.app))))) (by (first | rfl | assumption | (simp; done) | omega))) rfl rfl rfl ?_
  refine JL.loud rfl (l_mapUpdate (a := x.round) hT rfl rfl (keyInt hT rfl rfl) rfl rfl rfl rfl trivial (by (repeat (first | exact Pick.head | apply Pick.tail | apply Pick.app))) ?_)
  refine JL.nil ?_
  all_goals
    refine JE.ret0 (.inr rfl) rfl rfl  ?_
    refine ⟨rfl, fun w h => ?_⟩
    rw [← hput_eq]
    exact Sat.topk (F := fun _ : Unit => [row bh 90 [.map (some mp)], mapA (Value.int .u64) (fun _ => True) mp (mput (hmE M) x.round (.agg #[.bool (p0 || (cv && e1 && e2)), .bool (p1 || (cv && e3 && e4))])), row ba 3 [.int .i64 a], row bk 40 [.slice (some ⟨kg, ko, none⟩) kn kc], row bb 3 [.int .i64 b]]) () (h.sup (by (repeat (first | exact Sup.refl | apply Sup.cons (by (repeat (first | exact Pick.head | apply Pick.tail | apply Pick.app))) | apply Sup.app | apply Sup.skip | apply Sup.skips))))
end
end
section
open Go Go.SL
section
theorem keyOf_out {keys : List (List Int)} {c : Int} (h : c < 0 ∨ (keys.length : Int) ≤ c) : keyOf keys c = none := by
  unfold keyOf
  split
  · exact List.getElem?_eq_none (by omega)
  · rfl
theorem keyOf_in {keys : List (List Int)} {c : Int} (h : 0 ≤ c) (h2 : c < keys.length) : ∃ k, keyOf keys c = some k := by
  unfold keyOf
  rw [if_pos h]
  exact ⟨keys[c.toNat]'(by omega), List.getElem?_eq_getElem _⟩
theorem filter_take {f : Int → Bool} {ys : List Int} {i : Nat} {y : Int} (h : ys[i]? = some y) : (ys.take (i + 1)).filter f = (ys.take i).filter f ++ (if f y then [y] else []) := by
  rw [List.take_add_one, h, Option.toList_some, List.filter_append]
  cases hf : f y <;> simp [hf]
end
section
attribute [local irreducible] J JL JE JM LS Y Fc RV Code.wp wpList Code.wpIn wpListIn
attribute [local irreducible] Yc Sort.ltInt
variable (E : World)
theorem good_spec (kp : Option Addr) (kn kc : Nat) (keys : List (List Int)) (lp : Option Addr) (n lc : Nat) (ls : List SealT) (a b : Int) (l : List HProp)
    (hkn : keys.length = kn) (hk32 : ∀ k ∈ keys, k.length = 32) (hkm : kn ≤ 1000000) (hkin : InL l kp kn kc (keys.flatMap (ints .u8)))
    (hn : ls.length = n) (hn8 : n ≤ 1000) (hok : ∀ x ∈ ls, SeOk x) (hin : InL l lp n lc (ls.flatMap seE)) :
    Fc prog E 25 [.slice kp kn kc, .slice lp n lc, .int .i64 a, .int .i64 b].toArray l (fun v l' => ∃ gs a' c', GoodV keys ls a b gs ∧ gs.length ≤ 1000 ∧ v = .slice a' gs.length c' ∧ l' = own 35 1 v gs.length (gs.map (Value.int .u64)) :: l) := by
  refine Fc.post ?_
  have hcl := calls_length keys ls
  refine Fc.of_body (c := ?codeC) Tryd.func25 ?hb Tryd.ntmps25 ?hl ?_
  case hb => exact rfl
  case hl => exact rfl
  refine J.seq ?_
  refine J.region ?_
  refine JL.loud rfl (l_box rfl (by (first | rfl | simp)) rfl (fun b1 => ?_))
  refine JL.loud rfl (l_box rfl (by (first | rfl | simp)) rfl (fun b2 => ?_))
  refine JL.loud rfl (l_box rfl (by (first | rfl | simp)) rfl (fun b3 => ?_))
  refine JL.step (y_assign rfl) rfl rfl rfl ?_
  refine JL.nil ?_
  refine JE.then_normal ?_
  refine J.seq ?_
  refine J.seq ?_
  refine J.region ?_
  refine JL.step (y_load1 hT rfl rfl rfl (by (exact Rd1.row (by (repeat (first | exact Pick.head | apply Pick.tail | apply Pick.app))) (by rfl)))) rfl rfl rfl ?_
  refine JL.step (y_load1 hT rfl rfl rfl (by (exact Rd1.row (by (repeat (first | exact Pick.head | apply Pick.tail | apply Pick.app))) (by rfl)))) rfl rfl rfl ?_
  refine JL.step (y_eql rfl rfl) rfl rfl rfl (JL.step (y_move rfl) rfl rfl rfl ?_)
  all_goals (first | (refine JL.gsplit_dec rfl rfl rfl (fun h => ?_) (fun h => ?_) <;> try (first | (exfalso; omega) | exact absurd rfl h)) | (refine JL.gsplit rfl rfl rfl (fun h => ?_) (fun h => ?_) <;> try (first | cases h | (exfalso; simp at h; done))) | skip)
  all_goals (first | refine JL.gskip rfl rfl rfl rfl rfl rfl ?_ | refine JL.gskipU rfl rfl rfl rfl rfl ?_ | refine JL.gstep rfl rfl rfl (y_load1 hT rfl rfl rfl (by (exact Rd1.row (by (repeat (first | exact Pick.head | apply Pick.tail | apply Pick.app))) (by rfl)))) rfl rfl ?_)
  all_goals (first | refine JL.gskip rfl rfl rfl rfl rfl rfl ?_ | refine JL.gskipU rfl rfl rfl rfl rfl ?_ | refine JL.gstep rfl rfl rfl (y_lss rfl rfl) rfl rfl ?_)
  all_goals (refine JL.step (y_pick rfl rfl rfl) rfl rfl rfl ?_)
  all_goals (refine JL.step (y_move rfl) rfl rfl rfl ?_)
  all_goals (first | (refine JL.gsplit_dec rfl rfl rfl (fun h => ?_) (fun h => ?_) <;> try (first | (exfalso; omega) | exact absurd rfl h)) | (refine JL.gsplit rfl rfl rfl (fun h => ?_) (fun h => ?_) <;> try (first | cases h | (exfalso; simp at h; done))) | skip)
  all_goals (first | refine JL.gskip rfl rfl rfl rfl rfl rfl ?_ | refine JL.gskipU rfl rfl rfl rfl rfl ?_ | refine JL.gstep rfl rfl rfl (y_load1 hT rfl rfl rfl (by (exact Rd1.row (by (repeat (first | exact Pick.head | apply Pick.tail | apply Pick.app))) (by rfl)))) rfl rfl ?_)
  all_goals (first | refine JL.gskip rfl rfl rfl rfl rfl rfl ?_ | refine JL.gskipU rfl rfl rfl rfl rfl ?_ | refine JL.gstep rfl rfl rfl (y_lss rfl rfl) rfl rfl ?_)
  all_goals (refine JL.step (y_pick rfl rfl rfl) rfl rfl rfl ?_)
  all_goals (refine JL.step (y_move rfl) rfl rfl rfl ?_)
  all_goals (first | (refine JL.gsplit_dec rfl rfl rfl (fun h => ?_) (fun h => ?_) <;> try (first | (exfalso; omega) | exact absurd rfl h)) | (refine JL.gsplit rfl rfl rfl (fun h => ?_) (fun h => ?_) <;> try (first | cases h | (exfalso; simp at h; done))) | skip)
  all_goals (first | refine JL.gskip rfl rfl rfl rfl rfl rfl ?_ | refine JL.gskipU rfl rfl rfl rfl rfl ?_ | refine JL.gstep rfl rfl rfl (y_load1 hT rfl rfl rfl (by (exact Rd1.row (by (repeat (first | exact Pick.head | apply Pick.tail | apply Pick.app))) (by rfl)))) rfl rfl ?_)
  all_goals (first | refine JL.gskip rfl rfl rfl rfl rfl rfl ?_ | refine JL.gskipU rfl rfl rfl rfl rfl ?_ | refine JL.gstep rfl rfl rfl (y_load1 hT rfl rfl rfl (by (exact Rd1.row (by (repeat (first | exact Pick.head | apply Pick.tail | apply Pick.app))) (by rfl)))) rfl rfl ?_)
  all_goals (first | refine JL.gskip rfl rfl rfl rfl rfl rfl ?_ | refine JL.gskipU rfl rfl rfl rfl rfl ?_ | refine JL.gstep rfl rfl rfl (y_len_slice hT rfl rfl rfl) rfl rfl ?_)
  all_goals (first | refine JL.gskip rfl rfl rfl rfl rfl rfl ?_ | refine JL.gskipU rfl rfl rfl rfl rfl ?_ | refine JL.gstep rfl rfl rfl (y_geq rfl rfl) rfl rfl ?_)
  all_goals (refine JL.step (y_pick rfl rfl rfl) rfl rfl rfl ?_)
  all_goals (refine JL.step (y_move rfl) rfl rfl rfl ?_)
  all_goals (first | (refine JL.gsplit_dec rfl rfl rfl (fun h => ?_) (fun h => ?_) <;> try (first | (exfalso; omega) | exact absurd rfl h)) | (refine JL.gsplit rfl rfl rfl (fun h => ?_) (fun h => ?_) <;> try (first | cases h | (exfalso; simp at h; done))) | skip)
  all_goals (first | refine JL.gskip rfl rfl rfl rfl rfl rfl ?_ | refine JL.gskipU rfl rfl rfl rfl rfl ?_ | refine JL.gstep rfl rfl rfl (y_load1 hT rfl rfl rfl (by (exact Rd1.row (by (repeat (first | exact Pick.head | apply Pick.tail | apply Pick.app))) (by rfl)))) rfl rfl ?_)
  all_goals (first | refine JL.gskip rfl rfl rfl rfl rfl rfl ?_ | refine JL.gskipU rfl rfl rfl rfl rfl ?_ | refine JL.gstep rfl rfl rfl (y_load1 hT rfl rfl rfl (by (exact Rd1.row (by (repeat (first | exact Pick.head | apply Pick.tail | apply Pick.app))) (by rfl)))) rfl rfl ?_)
  all_goals (first | refine JL.gskip rfl rfl rfl rfl rfl rfl ?_ | refine JL.gskipU rfl rfl rfl rfl rfl ?_ | refine JL.gstep rfl rfl rfl (y_len_slice hT rfl rfl rfl) rfl rfl ?_)
  all_goals (first | refine JL.gskip rfl rfl rfl rfl rfl rfl ?_ | refine JL.gskipU rfl rfl rfl rfl rfl ?_ | refine JL.gstep rfl rfl rfl (y_geq rfl rfl) rfl rfl ?_)
  all_goals (refine JL.step (y_pick rfl rfl rfl) rfl rfl rfl ?_)
  all_goals refine JL.nil ?_
  all_goals refine JE.then_normal ?_
  all_goals
    first | apply J.cond_dec rfl | apply J.cond rfl
    case' ht =>
      intro h
      try (first | (exfalso; omega) | (cases h; done) | (exfalso; simp at h; done) | subst h)
      all_goals
        refine J.seq ?_
        refine J.region ?_
        refine JL.step (y_assign rfl) rfl rfl rfl ?_
        refine JL.nil ?_
        refine JE.then_normal ?_
        refine J.ret ?_
        refine JE.then_ret ?_
        refine JE.ret1 (.inl rfl) rfl rfl (by (first | exact RV.tmp rfl | exact RV.cell1 hT rfl rfl rfl (by (exact Rd1.row (by (repeat (first | exact Pick.head | apply Pick.tail | apply Pick.app))) (by rfl))) | exact RV.cellN hT rfl rfl rfl (by (first | exact RdN.rowAll (by (repeat (first | exact Pick.head | apply Pick.tail | apply Pick.app))) | exact RdN.own (by (repeat (first | exact Pick.head | apply Pick.tail | apply Pick.app))))) (by (first | rfl | assumption | (simp; done) | omega)))) ?_
        first
        | refine ⟨own 35 1 (.slice none 0 0) 0 [] :: l, fun w h => (Sat.own_nil (e := 35) (size := 1) h).sup (by (repeat (first | exact Sup.refl | apply Sup.cons (by (repeat (first | exact Pick.head | apply Pick.tail | apply Pick.app))) | apply Sup.app | apply Sup.skip | apply Sup.skips))), [], none, 0, ?_, Nat.zero_le _, rfl, rfl⟩
          first
          | exact .inl ⟨.inr (.inr (by assumption)), rfl⟩
          | exact .inl ⟨.inl (keyOf_out (by omega)), rfl⟩
          | exact .inl ⟨.inr (.inl (keyOf_out (by omega))), rfl⟩
        | obtain rfl : i = ys.length := by omega
          rw [List.take_length]
          exact ⟨_, fun w h => h.sup (by (repeat (first | exact Sup.refl | apply Sup.cons (by (repeat (first | exact Pick.head | apply Pick.tail | apply Pick.app))) | apply Sup.app | apply Sup.skip | apply Sup.skips))), ys.filter f, a2, c2, .inr ⟨ka, kb, hA, hB, hab, by rw [← hf, ← hM]; exact good_list (by rw [hM]; exact hys.trans hus) hsort⟩, Nat.le_trans (List.length_filter_le f ys) hyl, rfl, rfl⟩
    case' hf =>
      intro h
      try (first | (exfalso; omega) | (cases h; done) | (exfalso; simp at h; done) | subst h)
      all_goals
        have hab : a ≠ b := by assumption
        obtain ⟨ka, hA⟩ := keyOf_in (keys := keys) (c := a) (by omega) (by omega)
        obtain ⟨kb, hB⟩ := keyOf_in (keys := keys) (c := b) (by omega) (by omega)
        refine J.skip ?_
  all_goals refine JE.then_normal ?_
  all_goals
    refine J.seq ?_
    refine J.region ?_
    refine JL.loud rfl (l_makeMap rfl (fun b4 => ?_))
    refine JL.loud rfl (l_alloc hT rfl rfl (by (first | rfl | simp)) rfl (fun b5 => ?_))
    refine JL.loud rfl (l_store1 hT rfl rfl rfl rfl rfl (by (repeat (first | exact Pick.head | apply Pick.tail | apply Pick.app))) (by (first | omega | exact Nat.le_of_ble_eq_true rfl | decide | (simp; omega))) ?_)
    refine JL.nil ?_
    refine JE.then_normal ?_
    refine J.seq ?_
    refine J.pre (l' := goodA b5 b4 b2 b1 b3 a b ka kb kp kn kc [] :: l) (fun w s => ?_) ?_
    · have s1 := s.sup (p := blk b4 (.map #[] 0) :: row b5 90 [.map (some b4)] :: row b2 3 [.int .i64 a] :: row b1 40 [.slice kp kn kc] :: row b3 3 [.int .i64 b] :: l) (by (repeat (first | exact Sup.refl | apply Sup.cons (by (repeat (first | exact Pick.head | apply Pick.tail | apply Pick.app))) | apply Sup.app | apply Sup.skip | apply Sup.skips)))
      have s2 := s1.map_new (enc := Value.int .u64) (ok := fun _ => True)
      exact Sat.topk (F := fun _ : Unit => [row b5 90 [.map (some b4)], mapA (Value.int .u64) (fun _ => True) b4 (hmE (hF a b ka kb [])), row b2 3 [.int .i64 a], row b1 40 [.slice kp kn kc], row b3 3 [.int .i64 b]]) () (s2.sup (by (repeat (first | exact Sup.refl | apply Sup.cons (by (repeat (first | exact Pick.head | apply Pick.tail | apply Pick.app))) | apply Sup.app | apply Sup.skip | apply Sup.skips))))
    refine J.region ?_
    skip
    refine JL.pks fun _ => ?_
    refine JL.step (y_load1 hT rfl rfl rfl (by (exact Rd1.row (by (repeat (first | exact Pick.head | apply Pick.tail | apply Pick.app))) (by rfl)))) rfl rfl rfl ?_
    refine JL.step (y_move rfl) rfl rfl rfl (JL.step (y_makeFunc rfl rfl) rfl rfl rfl ?_)
    refine JL.pre (l' := goodA b5 b4 b2 b1 b3 a b ka kb kp kn kc [] :: l) (fun w s => Sat.topk (F := fun _ : Unit => [row b5 90 [.map (some b4)], mapA (Value.int .u64) (fun _ => True) b4 (hmE (hF a b ka kb [])), row b2 3 [.int .i64 a], row b1 40 [.slice kp kn kc], row b3 3 [.int .i64 b]]) () s) ?_
    refine JL.loud rfl (l_callF e44 rfl rfl (read_spec E _ e47 [Value.pointer (some ⟨b5, 0, none⟩), Value.pointer (some ⟨b2, 0, none⟩), Value.pointer (some ⟨b1, 0, none⟩), Value.pointer (some ⟨b3, 0, none⟩)] kp kn kc keys lp n lc ls (fun cs => goodA b5 b4 b2 b1 b3 a b ka kb kp kn kc cs) l hkn hk32 hkin hkm hn (by omega) hok hin (fun r i x cv hh hm => good1_spec E b5 b4 b2 b1 b3 i a b ka kb kp kn kc keys x cv _ r (hok x (List.mem_of_getElem? hh)) hkn hk32 (by obtain ⟨m, rfl⟩ := hm; exact hkin.app m) hA hB)) ?_)
    rintro _ _ ⟨rfl, rfl⟩
    refine JL.nil ?_
    refine JE.then_normal ?_
    refine J.seq ?_
    refine J.region ?_
    refine JL.step (y_assign rfl) rfl rfl rfl ?_
    refine JL.nil ?_
    refine JE.then_normal ?_
    refine J.seq ?_
    refine J.seq ?_
    obtain ⟨M, hM⟩ : ∃ M, hF a b ka kb (readF keys ls).2.1 = M := ⟨_, rfl⟩
    have hMl : M.length ≤ 1000 := by
      have := (hF_facts a b ka kb (readF keys ls).2.1).2.1
      rw [hM] at this
      omega
    unfold goodA
    refine J.pks fun _ => ?_
    rw [hM]
    refine J.region ?_
    refine JL.step (y_load1 hT rfl rfl rfl (by (exact Rd1.row (by (repeat (first | exact Pick.head | apply Pick.tail | apply Pick.app))) (by rfl)))) rfl rfl rfl ?_
    refine JL.loud rfl (l_callF e48 rfl rfl (mkeysU_spec E _ _ rfl) ?_)
    rintro _ _ ⟨bK, rfl, rfl⟩
    refine JL.pre (l' := hMap bK b4 M :: row b5 90 [.map (some b4)] :: l) (fun w s => Sat.topk (F := fun _ : Unit => [row bK 90 [.map (some b4)], mapA (Value.int .u64) (fun _ => True) b4 (hmE M)]) () (s.sup (by (repeat (first | exact Sup.refl | apply Sup.cons (by (repeat (first | exact Pick.head | apply Pick.tail | apply Pick.app))) | apply Sup.app | apply Sup.skip | apply Sup.skips))))) ?_
    refine JL.loud rfl (l_callF e42 rfl rfl (sortedU E e66 (mkeysU_each E bK b4 M _) (by omega) (fun vs h => by have := h.length_eq; rw [List.length_map] at this; omega)) ?_)
    rintro _ _ ⟨us, ys, a7, c7, hus, hys, hsort, rfl, rfl⟩
    refine JL.step (y_len_slice hT rfl rfl rfl) rfl rfl rfl (JL.step (y_move rfl) rfl rfl rfl ?_)
    refine JL.nil ?_
    refine JE.then_normal ?_
    refine J.block ?_
    have hyl : ys.length ≤ 1000 := by
      have h1 := hys.length_eq
      have h2 := hus.length_eq
      rw [List.length_map] at h2
      omega
    refine J.pre (l' := own 35 1 (.slice none 0 0) 0 [] :: own 35 1 (.slice a7 ys.length c7) ys.length (ys.map (Value.int .u64)) :: mapA (Value.int .u64) (fun _ => True) b4 (hmE M) :: row b5 90 [.map (some b4)] :: l) (fun w s => ?_) ?_
    · obtain ⟨_, s2⟩ := Sat.ofpk (s.pick (Pick.tail Pick.head))
      exact (Sat.own_nil (e := 35) (size := 1) s2).sup (by (repeat (first | exact Sup.refl | apply Sup.cons (by (repeat (first | exact Pick.head | apply Pick.tail | apply Pick.app))) | apply Sup.app | apply Sup.skip | apply Sup.skips)))
    refine J.fact (fun w s => Sat.own_at (s.pick (Pick.tail Pick.head))) fun oy => ?_
    obtain ⟨f, hf⟩ : ∃ f : Int → Bool, (fun n => (hlook M n).1 && (hlook M n).2) = f := ⟨_, rfl⟩
    refine J.loop (α := Nat × Option Addr × Nat) (fun s => s.1 ≤ ys.length) (fun s => [(9, .pointer (some ⟨b5, 0, none⟩)), (10, .slice s.2.1 ((ys.take s.1).filter f).length s.2.2), (43, .slice a7 ys.length c7), (44, .int .i64 ys.length), (45, .int .i64 s.1)]) (fun s => own 35 1 (.slice s.2.1 ((ys.take s.1).filter f).length s.2.2) ((ys.take s.1).filter f).length (((ys.take s.1).filter f).map (Value.int .u64)) :: own 35 1 (.slice a7 ys.length c7) ys.length (ys.map (Value.int .u64)) :: mapA (Value.int .u64) (fun _ => True) b4 (hmE M) :: row b5 90 [.map (some b4)] :: l) (fun s => ys.length - s.1) (0, none, 0) (Nat.zero_le _) ⟨rfl, rfl, rfl, rfl, rfl, trivial⟩ (fun w h => h) ?_
    rintro ⟨i, a2, c2⟩ hi
    dsimp only at hi ⊢
    refine J.seq ?_
    refine J.region ?_
    refine JL.step (y_lss rfl rfl) rfl rfl rfl ?_
    refine JL.nil ?_
    refine JE.then_normal ?_
    refine J.seq ?_
    first | apply J.cond_dec rfl | apply J.cond rfl
    case' ht =>
      intro h
      try (first | (exfalso; omega) | (cases h; done) | (exfalso; simp at h; done) | subst h)
      all_goals
        refine J.skip ?_
    case' hf =>
      intro h
      try (first | (exfalso; omega) | (cases h; done) | (exfalso; simp at h; done) | subst h)
      all_goals
        refine J.exit ?_
        refine JE.then_exit ?_
        refine JE.then_exit ?_
        refine JE.block_exit ?_
        refine JE.then_normal ?_
        refine J.seq ?_
        refine J.region ?_
        refine JL.step (y_move rfl) rfl rfl rfl (JL.step (y_assign rfl) rfl rfl rfl ?_)
        refine JL.nil ?_
        refine JE.then_normal ?_
        refine J.ret ?_
        refine JE.ret1 (.inl rfl) rfl rfl (by (first | exact RV.tmp rfl | exact RV.cell1 hT rfl rfl rfl (by (exact Rd1.row (by (repeat (first | exact Pick.head | apply Pick.tail | apply Pick.app))) (by rfl))) | exact RV.cellN hT rfl rfl rfl (by (first | exact RdN.rowAll (by (repeat (first | exact Pick.head | apply Pick.tail | apply Pick.app))) | exact RdN.own (by (repeat (first | exact Pick.head | apply Pick.tail | apply Pick.app))))) (by (first | rfl | assumption | (simp; done) | omega)))) ?_
        first
        | refine ⟨own 35 1 (.slice none 0 0) 0 [] :: l, fun w h => (Sat.own_nil (e := 35) (size := 1) h).sup (by (repeat (first | exact Sup.refl | apply Sup.cons (by (repeat (first | exact Pick.head | apply Pick.tail | apply Pick.app))) | apply Sup.app | apply Sup.skip | apply Sup.skips))), [], none, 0, ?_, Nat.zero_le _, rfl, rfl⟩
          first
          | exact .inl ⟨.inr (.inr (by assumption)), rfl⟩
          | exact .inl ⟨.inl (keyOf_out (by omega)), rfl⟩
          | exact .inl ⟨.inr (.inl (keyOf_out (by omega))), rfl⟩
        | obtain rfl : i = ys.length := by omega
          rw [List.take_length]
          exact ⟨_, fun w h => h.sup (by (repeat (first | exact Sup.refl | apply Sup.cons (by (repeat (first | exact Pick.head | apply Pick.tail | apply Pick.app))) | apply Sup.app | apply Sup.skip | apply Sup.skips))), ys.filter f, a2, c2, .inr ⟨ka, kb, hA, hB, hab, by rw [← hf, ← hM]; exact good_list (by rw [hM]; exact hys.trans hus) hsort⟩, Nat.le_trans (List.length_filter_le f ys) hyl, rfl, rfl⟩
    all_goals refine JE.then_normal ?_
    all_goals
      refine J.seq ?_
      refine J.block ?_
      refine J.seq ?_
      have hlt : i < ys.length := by omega
      obtain ⟨y, hh⟩ : ∃ y, ys[i]? = some y := ⟨ys[i], List.getElem?_eq_getElem _⟩
      have hst := filter_take (f := f) hh
      have hfl : ((ys.take i).filter f).length ≤ i := by
        have := List.length_filter_le f (ys.take i)
        rw [List.length_take] at this
        omega
      obtain ⟨gs, hgs⟩ : ∃ gs, (ys.take i).filter f = gs := ⟨_, rfl⟩
      rw [hgs] at hst hfl ⊢
      obtain ⟨g7, o7, rfl, hr7⟩ := (oy.inl (l := own 35 1 (.slice a2 gs.length c2) gs.length (gs.map (Value.int .u64)) :: own 35 1 (.slice a7 ys.length c7) ys.length (ys.map (Value.int .u64)) :: mapA (Value.int .u64) (fun _ => True) b4 (hmE M) :: row b5 90 [.map (some b4)] :: l) (Pick.tail Pick.head)).addr (by omega)
      refine J.region ?_
      refine JL.step (y_indexAddr_slice hT rfl rfl rfl rfl rfl (by (first | omega | exact Nat.le_of_ble_eq_true rfl | decide | (simp; omega))) (by (first | omega | exact Nat.le_of_ble_eq_true rfl | decide | (simp; omega)))) rfl rfl rfl ?_
      refine JL.step (y_load1 hT rfl rfl rfl (Rd1.elem (hr7 []) (by rw [Int.toNat_natCast, List.getElem?_map, hh]; rfl))) rfl rfl rfl ?_
      refine JL.step (y_assign rfl) rfl rfl rfl ?_
      refine JL.nil ?_
      refine JE.then_normal ?_
      refine J.seq ?_
      refine J.region ?_
      refine JL.step (y_load1 hT rfl rfl rfl (by (exact Rd1.row (by (repeat (first | exact Pick.head | apply Pick.tail | apply Pick.app))) (by rfl)))) rfl rfl rfl ?_
      refine JL.step (y_move rfl) rfl rfl rfl ?_
      refine JL.step (v := .agg #[.bool (hlook M y).1, .bool (hlook M y).2]) (Y.val (y_lookup (a := y) hT rfl rfl rfl rfl (keyInt hT rfl rfl) rfl rfl rfl trivial (by (repeat (first | exact Pick.head | apply Pick.tail | apply Pick.app)))) (hlook_eq M _)) rfl rfl rfl ?_
      refine JL.step (y_buildArr (cs := [.bool true, .bool true]) hT rfl rfl rfl rfl rfl (by first | rfl | decide)) rfl rfl rfl ?_
      refine JL.step (y_flat_eq (m := 2) (ks := [.bool, .bool]) (xs := [.bool (hlook M y).1, .bool (hlook M y).2]) (ys := [.bool true, .bool true]) (b := f y) hT (by kernel_rfl) rfl (by kernel_rfl) (by kernel_rfl) rfl rfl rfl rfl ⟨⟨_, rfl⟩, ⟨_, rfl⟩, trivial⟩ ⟨⟨_, rfl⟩, ⟨_, rfl⟩, trivial⟩ (by rw [← hf]; simp)) rfl rfl rfl ?_
      refine JL.nil ?_
      refine JE.then_normal ?_
      first | apply J.cond_dec rfl | apply J.cond rfl
      case' ht =>
        intro h
        try (first | (exfalso; omega) | (cases h; done) | (exfalso; simp at h; done) | subst h)
        all_goals
          have hadd : (ys.take (i + 1)).filter f = gs ++ [y] := by rw [hst, if_pos (by assumption)]
          refine J.region ?_
          refine JL.step (y_move rfl) rfl rfl rfl (JL.step (y_move rfl) rfl rfl rfl ?_)
          refine JL.loud rfl (l_buildSliceP hT rfl rfl rfl rfl rfl rfl rfl (by (first | exact fill_one rfl (by first | assumption | rfl | (simp; done)) | rfl | simp)) rfl (fun b10 => ?_))
          refine JL.loud rfl (l_append hT rfl rfl rfl rfl rfl rfl rfl rfl (by (repeat (first | exact Pick.head | apply Pick.tail | apply Pick.app))) (by (first | exact RdN.rowAll (by (repeat (first | exact Pick.head | apply Pick.tail | apply Pick.app))) | exact RdN.own (by (repeat (first | exact Pick.head | apply Pick.tail | apply Pick.app))))) (by (first | rfl | assumption | (simp; done) | omega)) (by (first | assumption | exact ones_of rfl | exact encW_one _ | exact encB_one _ | (intro u hu; simp at hu; rcases hu with rfl | rfl <;> rfl) | (intro u hu; simp at hu; subst hu; rfl) | simp)) (by (first | exact Nat.le_trans (Nat.mul_le_mul_left _ (Nat.le_of_ble_eq_true rfl : _ ≤ 4096)) (by omega) | exact Nat.le_trans (Nat.mul_le_mul_left _ (Nat.le_of_ble_eq_true rfl : _ ≤ 1)) (by omega))) (by (first | omega | exact Nat.le_of_ble_eq_true rfl | decide | (simp; omega))) rfl (fun ab11 cb11 hb11 => ?_))
          refine JL.step (y_assign rfl) rfl rfl rfl ?_
          refine JL.nil ?_
      case' hf =>
        intro h
        try (first | (exfalso; omega) | (cases h; done) | (exfalso; simp at h; done) | subst h)
        all_goals
          have hadd : (ys.take (i + 1)).filter f = gs := by rw [hst, if_neg (by simp_all), List.append_nil]
          refine J.skip ?_
      all_goals refine JE.block_normal ?_
      all_goals refine JE.then_normal ?_
      all_goals
        refine J.region ?_
        refine JL.step (y_add rfl rfl (by (first | exact wrap_i64 (by omega) (by omega) | rfl))) rfl rfl rfl ?_
        refine JL.step (y_move rfl) rfl rfl rfl ?_
        refine JL.nil ?_
    all_goals
      first
      | have zz : (ys.take (i + 1)).filter f = gs ++ [y] := hadd
        exact JE.round (s := (i, a2, c2)) (i + 1, ab11, cb11) (by dsimp only; omega) ⟨rfl, by dsimp only; rw [zz, List.length_append]; rfl, rfl, rfl, rfl, trivial⟩ (fun w h => by dsimp only; rw [zz, List.length_append, List.map_append]; exact h.sup (by (repeat (first | exact Sup.refl | apply Sup.cons (by (repeat (first | exact Pick.head | apply Pick.tail | apply Pick.app))) | apply Sup.app | apply Sup.skip | apply Sup.skips)))) (by dsimp only; omega)
      | exact JE.round (s := (i, a2, c2)) (i + 1, a2, c2) (by dsimp only; omega) ⟨rfl, by dsimp only; rw [hadd]; rfl, rfl, rfl, rfl, trivial⟩ (fun w h => by dsimp only; rw [hadd]; exact h.sup (by (repeat (first | exact Sup.refl | apply Sup.cons (by (repeat (first | exact Pick.head | apply Pick.tail | apply Pick.app))) | apply Sup.app | apply Sup.skip | apply Sup.skips)))) (by dsimp only; omega)
end
end
end Go.Proofs.YtfohdnclpbipeaaDoor
