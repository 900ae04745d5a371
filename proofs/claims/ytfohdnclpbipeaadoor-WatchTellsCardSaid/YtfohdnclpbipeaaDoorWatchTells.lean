
/-
  hollowtreelaw30.WatchTells returns true for every input, and leaves its input as it was. No condition but that the tables of the program's text are laid.
-/
import Derived.Test.YtfohdnclpbipeaaDoorJoin7
import Derived.Test.YtfohdnclpbipeaaDoorJoin8
import Derived.Test.YtfohdnclpbipeaaDoorJoin10
namespace Go.Proofs.YtfohdnclpbipeaaDoor
open Go Go.SL
section
/-- Are wires the same so far? -/
def sameW (a b : List WireT) (i : Nat) : Bool := decide (a.length = b.length ∧ a.take i = b.take i)
theorem sameW_all (a b : List WireT) : sameW a b a.length = decide (a = b) := by
  unfold sameW
  refine decide_eq_decide.2 ⟨fun ⟨h1, h2⟩ => ?_, fun h => by subst h; exact ⟨rfl, rfl⟩⟩
  rw [List.take_length, List.take_of_length_le (by omega)] at h2
  exact h2
theorem sameW_step {a b : List WireT} {i : Nat} {x : WireT} (h : a[i]? = some x) : sameW a b (i + 1) = (sameW a b i && decide (b[i]? = some x)) := by
  unfold sameW
  rw [← Bool.decide_and]
  refine decide_eq_decide.2 ?_
  rw [List.take_add_one, List.take_add_one, h, Option.toList_some]
  have hl := (List.getElem?_eq_some_iff.1 h).1
  constructor
  · rintro ⟨h1, h2⟩
    cases hb : b[i]? with
    | none => rw [List.getElem?_eq_none_iff] at hb; omega
    | some y =>
      rw [hb, Option.toList_some] at h2
      obtain ⟨e1, e2⟩ := List.append_inj h2 (by rw [List.length_take, List.length_take]; omega)
      simp only [List.cons.injEq, and_true] at e2
      exact ⟨⟨h1, e1⟩, by rw [e2]⟩
  · rintro ⟨⟨h1, h2⟩, h3⟩
    exact ⟨h1, by rw [h2, h3, Option.toList_some]⟩
end
section
attribute [local irreducible] J JL JE JM LS Y Fc RV Code.wp wpList Code.wpIn wpListIn
attribute [local irreducible] Yc strOf
variable (E : World)
theorem watch_tells (p p2 : Option Addr) (n c n2 c2 : Nat) (ws ws2 : List WireT) (l : List HProp) (hn : ws.length = n) (hn2 : ws2.length = n2) (hw : ∀ w ∈ ws, WiOk w) (hw2 : ∀ w ∈ ws2, WiOk w) (hin : InL l p n c (ws.flatMap wiE)) (hin2 : InL l p2 n2 c2 (ws2.flatMap wiE)) (ht : T10 E l) :
    Fc prog E 10 [.slice p n c, .slice p2 n2 c2].toArray l (fun v l' => v = .bool true ∧ l' = l) := by
  refine Fc.eqs ?_
  obtain ⟨m, hm⟩ : ∃ m, m = min n 120 := ⟨_, rfl⟩
  obtain ⟨zs, hzs⟩ : ∃ zs, ws.take m = zs := ⟨_, rfl⟩
  have hz : zs.length = m := by rw [← hzs, List.length_take]; omega
  have hzw : ∀ w ∈ zs, WiOk w := fun w h => hw w (List.mem_of_mem_take (hzs ▸ h))
  have hm8 : m ≤ 120 := by omega
  have hcut := cut_spec E p n c m ws l hn hm hin
  rw [hzs] at hcut
  obtain ⟨m2, hm2⟩ : ∃ m, m = min n2 120 := ⟨_, rfl⟩
  obtain ⟨zs2, hzs2⟩ : ∃ zs, ws2.take m2 = zs := ⟨_, rfl⟩
  have hz2 : zs2.length = m2 := by rw [← hzs2, List.length_take]; omega
  have hzw2 : ∀ w ∈ zs2, WiOk w := fun w h => hw2 w (List.mem_of_mem_take (hzs2 ▸ h))
  have hm28 : m2 ≤ 120 := by omega
  have hcut2 := fun l' hin => cut_spec E p2 n2 c2 m2 ws2 l' hn2 hm2 hin
  rw [hzs2] at hcut2
  have hs1 := shape_size hzw
  have hs2 := shape_size hzw2
  refine Fc.of_body (c := ?codeC) Tryd.func10 ?hb Tryd.ntmps10 ?hl ?_
  case hb => exact rfl
  case hl => exact rfl
  refine J.seq ?_
  refine J.region ?_
  refine JL.step (y_assign rfl) rfl rfl rfl ?_
  refine JL.nil ?_
  refine JE.then_normal ?_
  refine J.seq ?_
  refine J.seq ?_
  refine J.region ?_
  refine JL.loud rfl (l_callF e11 rfl rfl (wakes_spec E _ ht) ?_)
  rintro _ l1 ⟨rfl, e1⟩
  obtain rfl := e1.symm
  refine JL.step (y_not rfl) rfl rfl rfl ?_
  refine JL.nil ?_
  refine JE.then_normal ?_
  refine J.cond_f rfl (by (first | rfl | assumption | (simp; done) | (simp; omega))) ?_
  refine J.skip ?_
  refine JE.then_normal ?_
  refine J.seq ?_
  refine J.region ?_
  refine JL.step (y_move rfl) rfl rfl rfl ?_
  refine JL.loud rfl (l_callF e12 rfl rfl (hcut) ?_)
  rintro _ _ ⟨a, c', hc', rfl, rfl⟩
  refine JL.step (y_move rfl) rfl rfl rfl ?_
  refine JL.loud rfl (l_callF e12 rfl rfl (hcut2 _ (hin2.cons _)) ?_)
  rintro _ _ ⟨a2, c2', hc2', rfl, rfl⟩
  refine JL.step (y_assign rfl) rfl rfl rfl (JL.step (y_assign rfl) rfl rfl rfl ?_)
  refine JL.nil ?_
  refine JE.then_normal ?_
  refine J.seq ?_
  refine J.region ?_
  refine JL.step (y_move rfl) rfl rfl rfl (JL.step (y_len_slice hT rfl rfl rfl) rfl rfl rfl (JL.step (y_move rfl) rfl rfl rfl (JL.step (y_len_slice hT rfl rfl rfl) rfl rfl rfl (JL.step (y_eql rfl rfl) rfl rfl rfl (JL.step (y_assign rfl) rfl rfl rfl ?_)))))
  refine JL.nil ?_
  refine JE.then_normal ?_
  refine J.seq ?_
  refine J.seq ?_
  refine J.region ?_
  refine JL.step (y_move rfl) rfl rfl rfl (JL.step (y_len_slice hT rfl rfl rfl) rfl rfl rfl (JL.step (y_move rfl) rfl rfl rfl ?_))
  refine JL.nil ?_
  refine JE.then_normal ?_
  refine J.block ?_
  refine J.fact (fun w s => Sat.own_at (s.pick Pick.head)) fun oo2 => ?_
  refine J.fact (fun w s => Sat.own_at (s.pick (Pick.tail Pick.head))) fun oo => ?_
  have hL := (cutIn (L := own 38 5 (.slice a2 (m2 + 1) c2') (m2 + 1) (zs2.flatMap wiE ++ wiE wi77) :: own 38 5 (.slice a (m + 1) c') (m + 1) (zs.flatMap wiE ++ wiE wi77) :: l) hz oo (by (repeat (first | exact Pick.head | apply Pick.tail | apply Pick.app)))).2
  have hL2 := (cutIn (L := own 38 5 (.slice a2 (m2 + 1) c2') (m2 + 1) (zs2.flatMap wiE ++ wiE wi77) :: own 38 5 (.slice a (m + 1) c') (m + 1) (zs.flatMap wiE ++ wiE wi77) :: l) hz2 oo2 (by (repeat (first | exact Pick.head | apply Pick.tail | apply Pick.app)))).2
  refine J.loop (α := Nat × Bool) (fun s => s.1 ≤ m ∧ s.2 = sameW zs zs2 s.1) (fun s => [(0, .slice a m c'), (1, .slice a2 m2 c2'), (5, .bool s.2), (21, .int .i64 m), (22, .int .i64 s.1)]) (fun _ => own 38 5 (.slice a2 (m2 + 1) c2') (m2 + 1) (zs2.flatMap wiE ++ wiE wi77) :: own 38 5 (.slice a (m + 1) c') (m + 1) (zs.flatMap wiE ++ wiE wi77) :: l) (fun s => m - s.1) (0, decide ((m : Int) = (m2 : Int))) ⟨Nat.zero_le _, by unfold sameW; refine decide_eq_decide.2 ?_; rw [hz, hz2]; constructor <;> simp <;> omega⟩ ⟨rfl, rfl, rfl, rfl, rfl, trivial⟩ (fun w h => h) ?_
  rintro ⟨i, b⟩ ⟨hi, hb⟩
  dsimp only at hi hb ⊢
  refine J.seq ?_
  refine J.region ?_
  refine JL.step (y_lss rfl rfl) rfl rfl rfl ?_
  refine JL.nil ?_
  refine JE.then_normal ?_
  refine J.seq ?_
  first | apply J.cond_dec rfl | apply J.cond rfl
  case' ht =>
    intro h
    try (first | (exfalso; omega) | (cases h; done) | (exfalso; simp at h; done) | subst h)
    all_goals
      refine J.skip ?_
  case' hf =>
    intro h
    try (first | (exfalso; omega) | (cases h; done) | (exfalso; simp at h; done) | subst h)
    all_goals
      refine J.exit ?_
      refine JE.then_exit ?_
      refine JE.then_exit ?_
      refine JE.block_exit ?_
      refine JE.then_normal ?_
      refine J.seq ?_
      obtain rfl : i = m := by omega
      rw [show sameW zs zs2 i = decide (zs = zs2) by rw [← hz]; exact sameW_all zs zs2] at hb
      have hcnt : (((bytesS (strOf (shapeB zs))).count 10 : Nat) : Int) = (i : Int) := by rw [bytesS_strOf (shape_byte zs), shape_count, hz]
      refine J.region ?_
      refine JL.step (y_move rfl) rfl rfl rfl ?_
      refine JL.loud rfl (l_callF e13 rfl rfl (shape_spec E a i c' zs _ hz (by omega) hzw hL (by (repeat (first | assumption | apply T10.cons | apply T10.app)))) ?_)
      rintro _ _ ⟨rfl, rfl⟩
      refine JL.step (y_move rfl) rfl rfl rfl ?_
      refine JL.loud rfl (l_callF e13 rfl rfl (shape_spec E a2 m2 c2' zs2 _ hz2 (by omega) hzw2 hL2 (by (repeat (first | assumption | apply T10.cons | apply T10.app)))) ?_)
      rintro _ _ ⟨rfl, rfl⟩
      refine JL.step (y_assign rfl) rfl rfl rfl (JL.step (y_assign rfl) rfl rfl rfl ?_)
      refine JL.nil ?_
      refine JE.then_normal ?_
      refine J.seq ?_
      refine J.seq ?_
      refine J.region ?_
      refine JL.step (y_move rfl) rfl rfl rfl (JL.step (y_move rfl) rfl rfl rfl ?_)
      refine JL.step (y_str_eqB (b := decide (zs = zs2)) rfl rfl (decide_eq_decide.2 (shape_eq_iff zs zs2))) rfl rfl rfl ?_
      refine JL.step (y_move rfl) rfl rfl rfl ?_
      refine JL.step (v := .bool false) (y_bool_neB hT rfl rfl rfl rfl (by rw [hb]; cases decide (zs = zs2) <;> rfl)) rfl rfl rfl ?_
      refine JL.step (y_move rfl) rfl rfl rfl ?_
      all_goals (first | (refine JL.gsplit_dec rfl rfl rfl (fun h => ?_) (fun h => ?_) <;> try (first | (exfalso; omega) | exact absurd rfl h)) | (refine JL.gsplit rfl rfl rfl (fun h => ?_) (fun h => ?_) <;> try (first | cases h | (exfalso; simp at h; done))) | skip)
      all_goals (first | refine JL.gskip rfl rfl rfl rfl rfl rfl ?_ | refine JL.gskipU rfl rfl rfl rfl rfl ?_ | refine JL.gstep rfl rfl rfl (y_move rfl) rfl rfl ?_)
      all_goals (first | refine JL.gskip rfl rfl rfl rfl rfl rfl ?_ | refine JL.gskipU rfl rfl rfl rfl rfl ?_ | (refine JL.gloud rfl rfl rfl (l_callF e32 rfl rfl (count10 E _ _) ?_); rintro _ _ ⟨rfl, rfl⟩))
      all_goals (first | refine JL.gskip rfl rfl rfl rfl rfl rfl ?_ | refine JL.gskipU rfl rfl rfl rfl rfl ?_ | refine JL.gstep rfl rfl rfl (y_move rfl) rfl rfl ?_)
      all_goals (first | refine JL.gskip rfl rfl rfl rfl rfl rfl ?_ | refine JL.gskipU rfl rfl rfl rfl rfl ?_ | refine JL.gstep rfl rfl rfl (y_len_slice hT rfl rfl rfl) rfl rfl ?_)
      all_goals (first | refine JL.gskip rfl rfl rfl rfl rfl rfl ?_ | refine JL.gskipU rfl rfl rfl rfl rfl ?_ | refine JL.gstep rfl rfl rfl (v := .bool false) (Y.val (y_neq rfl rfl) (by rw [hcnt]; simp)) rfl rfl ?_)
      all_goals (refine JL.step (y_pick rfl rfl rfl) rfl rfl rfl ?_)
      all_goals refine JL.nil ?_
      all_goals refine JE.then_normal ?_
      all_goals
        refine J.cond_f rfl (by (first | rfl | assumption | (simp; done) | (simp; omega))) ?_
        refine J.skip ?_
      all_goals refine JE.then_normal ?_
      all_goals
        refine J.seq ?_
        refine J.region ?_
        refine JL.loud rfl (l_buildSlice0 hT rfl rfl rfl rfl (fun b7 => ?_))
        refine JL.step (y_move rfl) rfl rfl rfl ?_
        refine JL.loud rfl (l_appendIn hT rfl rfl rfl rfl rfl rfl rfl rfl (by (repeat (first | exact Pick.head | apply Pick.tail | apply Pick.app))) (hL.cons _) (by rw [show i38.size = 5 from rfl, wis_len, hz]) (wis_one zs) (by rw [show i38.bytes = 40 from rfl]; omega) (by omega) rfl (fun a13 c13 hc13 => ?_))
        refine JL.step (y_move rfl) rfl rfl rfl ?_
        refine JL.loud rfl (l_appendIn hT rfl rfl rfl rfl rfl rfl rfl rfl (by (repeat (first | exact Pick.head | apply Pick.tail | apply Pick.app))) (hL2.cons _) (by rw [show i38.size = 5 from rfl, wis_len, hz2]) (wis_one zs2) (by rw [show i38.bytes = 40 from rfl]; omega) (by omega) rfl (fun a14 c14 hc14 => ?_))
        refine JL.fact (fun w s => Sat.own_at (s.pick Pick.head)) fun o14 => ?_
        refine JL.loud rfl (l_callF e13 rfl rfl (shape_spec E a14 (0 + i + m2) c14 (zs ++ zs2) _ (by rw [List.length_append]; omega) (by omega) (fun w h => (List.mem_append.1 h).elim (hzw w) (hzw2 w)) (by rw [List.flatMap_append]; exact o14.inl (by (repeat (first | exact Pick.head | apply Pick.tail | apply Pick.app)))) (by (repeat (first | assumption | apply T10.cons | apply T10.app)))) ?_)
        rintro _ _ ⟨rfl, rfl⟩
        refine JL.step (y_move rfl) rfl rfl rfl (JL.step (y_move rfl) rfl rfl rfl ?_)
        refine JL.step (y_addS (zs := shapeB (zs ++ zs2)) rfl rfl (shape_app zs zs2).symm (by omega)) rfl rfl rfl ?_
        refine JL.step (v := .bool true) (y_str_eqB rfl rfl (by simp)) rfl rfl rfl ?_
        refine JL.step (y_assign rfl) rfl rfl rfl ?_
        refine JL.nil ?_
        refine JE.then_normal ?_
        refine J.ret ?_
        refine JE.ret1 (.inl rfl) rfl rfl (by (first | exact RV.tmp rfl | exact RV.cell1 hT rfl rfl rfl (by (exact Rd1.row (by (repeat (first | exact Pick.head | apply Pick.tail | apply Pick.app))) (by rfl))) | exact RV.cellN hT rfl rfl rfl (by (first | exact RdN.rowAll (by (repeat (first | exact Pick.head | apply Pick.tail | apply Pick.app))) | exact RdN.own (by (repeat (first | exact Pick.head | apply Pick.tail | apply Pick.app))))) (by (first | rfl | assumption | (simp; done) | omega)))) ?_
        exact ⟨rfl, fun w h => h.sup (by (repeat (first | exact Sup.refl | apply Sup.cons (by (repeat (first | exact Pick.head | apply Pick.tail | apply Pick.app))) | apply Sup.app | apply Sup.skip | apply Sup.skips)))⟩
  all_goals refine JE.then_normal ?_
  all_goals
    refine J.seq ?_
    refine J.block ?_
    refine J.seq ?_
    have hlt : i < m := by omega
    obtain ⟨x, hh⟩ : ∃ x, zs[i]? = some x := ⟨zs[i]'(by omega), List.getElem?_eq_getElem _⟩
    have hst := sameW_step (b := zs2) hh
    rw [← hb] at hst
    obtain ⟨g1, o1, rfl, hr1⟩ := hL.addr (by omega)
    refine J.region ?_
    refine JL.step (y_move rfl) rfl rfl rfl (JL.step (y_assign rfl) rfl rfl rfl ?_)
    refine JL.nil ?_
    refine JE.then_normal ?_
    cases b
    rotate_left
    have hlen : m = m2 := by
      have := of_decide_eq_true hb.symm
      omega
    obtain ⟨y, hh2⟩ : ∃ y, zs2[i]? = some y := ⟨zs2[i]'(by omega), List.getElem?_eq_getElem _⟩
    obtain ⟨g2, o2, rfl, hr2⟩ := hL2.addr (by omega)
    rw [hh2] at hst
    all_goals
      refine J.draw _ _ [(0, .q), (1, .q), (2, .q), (3, .q), (4, .q), (5, .q), (6, .q), (7, .q), (8, .q), (9, .q), (10, .q), (11, .q), (12, .q)] mixed (by kernel_rfl) (Split.nil) ?_
      refine JM.quiet rfl rfl rfl rfl (fun m => y_move rfl) ?_
      refine JM.quiet rfl rfl rfl rfl (fun m => y_move rfl) ?_
      all_goals (first | refine JM.gskip rfl rfl rfl rfl rfl rfl rfl ?_ | refine JM.gskipU rfl rfl rfl rfl rfl rfl ?_ | refine JM.gquiet rfl rfl rfl rfl rfl rfl (fun m => y_move rfl) ?_)
      all_goals (first | refine JM.gskip rfl rfl rfl rfl rfl rfl rfl ?_ | refine JM.gskipU rfl rfl rfl rfl rfl rfl ?_ | refine JM.gquiet rfl rfl rfl rfl rfl rfl (fun m => y_move rfl) ?_)
      all_goals (first | refine JM.gskip rfl rfl rfl rfl rfl rfl rfl ?_ | refine JM.gskipU rfl rfl rfl rfl rfl rfl ?_ | refine JM.gquiet rfl rfl rfl rfl rfl rfl (fun m => y_indexAddr_slice hT rfl rfl rfl rfl rfl (by (first | omega | exact Nat.le_of_ble_eq_true rfl | decide | (simp; omega))) (by (first | omega | exact Nat.le_of_ble_eq_true rfl | decide | (simp; omega)))) ?_)
      all_goals (first | refine JM.gskip rfl rfl rfl rfl rfl rfl rfl ?_ | refine JM.gskipU rfl rfl rfl rfl rfl rfl ?_ | refine JM.gquiet rfl rfl rfl rfl rfl rfl (fun m => y_loadN hT rfl rfl rfl (RdN.elem ((hr1 []).app m) (fun x _ => wiE_length x) hh) rfl) ?_)
      all_goals (first | refine JM.gskip rfl rfl rfl rfl rfl rfl rfl ?_ | refine JM.gskipU rfl rfl rfl rfl rfl rfl ?_ | refine JM.gquiet rfl rfl rfl rfl rfl rfl (fun m => y_move rfl) ?_)
      all_goals (first | refine JM.gskip rfl rfl rfl rfl rfl rfl rfl ?_ | refine JM.gskipU rfl rfl rfl rfl rfl rfl ?_ | refine JM.gquiet rfl rfl rfl rfl rfl rfl (fun m => y_move rfl) ?_)
      all_goals (first | refine JM.gskip rfl rfl rfl rfl rfl rfl rfl ?_ | refine JM.gskipU rfl rfl rfl rfl rfl rfl ?_ | refine JM.gquiet rfl rfl rfl rfl rfl rfl (fun m => y_indexAddr_slice hT rfl rfl rfl rfl rfl (by (first | omega | exact Nat.le_of_ble_eq_true rfl | decide | (simp; omega))) (by (first | omega | exact Nat.le_of_ble_eq_true rfl | decide | (simp; omega)))) ?_)
      all_goals (first | refine JM.gskip rfl rfl rfl rfl rfl rfl rfl ?_ | refine JM.gskipU rfl rfl rfl rfl rfl rfl ?_ | refine JM.gquiet rfl rfl rfl rfl rfl rfl (fun m => y_loadN hT rfl rfl rfl (RdN.elem ((hr2 []).app m) (fun x _ => wiE_length x) hh2) rfl) ?_)
      all_goals (first | refine JM.gskip rfl rfl rfl rfl rfl rfl rfl ?_ | refine JM.gskipU rfl rfl rfl rfl rfl rfl ?_ | refine JM.gquiet rfl rfl rfl rfl rfl rfl (fun m => y_flat_eq (m := 3) (ks := wiK) (xs := wiE x) (ys := wiE y) (b := decide (some y = some x)) hT (by kernel_rfl) rfl (by kernel_rfl) (by kernel_rfl) rfl rfl rfl rfl (wi_fits x) (wi_fits y) ⟨fun q => by rw [Option.some.inj (of_decide_eq_true q)], fun q => decide_eq_true (by rw [wiE_inj q])⟩) ?_)
      all_goals refine JM.quiet rfl rfl rfl rfl (fun m => y_pick rfl rfl rfl) ?_
      all_goals refine JM.quiet rfl rfl rfl rfl (fun m => y_assign rfl) ?_
      all_goals refine JM.nil ?_
    all_goals refine JE.block_normal ?_
    all_goals refine JE.then_normal ?_
    all_goals
      refine J.region ?_
      refine JL.step (y_add rfl rfl (by (first | exact wrap_i64 (by omega) (by omega) | rfl))) rfl rfl rfl ?_
      refine JL.step (y_move rfl) rfl rfl rfl ?_
      refine JL.nil ?_
  all_goals
    first
    | exact JE.round (s := (i, true)) (i + 1, decide (some y = some x)) ⟨by dsimp only; omega, by dsimp only; rw [hst]; rfl⟩ ⟨rfl, rfl, rfl, rfl, rfl, trivial⟩ (fun w h => h) (by dsimp only; omega)
    | exact JE.round (s := (i, false)) (i + 1, false) ⟨by dsimp only; omega, by dsimp only; rw [hst]; rfl⟩ ⟨rfl, rfl, rfl, rfl, rfl, trivial⟩ (fun w h => h) (by dsimp only; omega)
end
section
open Go.ChangeShapes Go.WideShapes Go.ChangeAt Go.RowKit
theorem watch_tells_reads : ∀ t ∈ Tryd.f10.params.toList, Tryd.prog.readableRec t = true ∧ t < Tryd.prog.types.size := by
  rw [Tryd.params10]
  intro t ht
  simp only [List.mem_cons, List.not_mem_nil, or_false] at ht
  rcases ht with rfl | rfl
  all_goals exact ⟨by kernel_rfl, of_decide_eq_true (by kernel_rfl)⟩
set_option maxRecDepth 100000 in
theorem watch_tells_contract (H : Type) (enc : TypeId × Value → H) (W : World) (base : Nat) (args : Array Value) (ds gs : List (DataW H)) (before : List MemPlace)
    (hval : ∀ (j : Nat) t v, Tryd.f10.params[j]? = some t → args[j]? = some v → Value.okWide Tryd.prog W .any base t v)
    (hW : DataW.Whole enc Tryd.prog Tryd.f10.params.toList Rows.watchTellsSpec.vars false W args.toList ds gs before) (hL : laidMetH Tryd.prog Rows.watchTellsRow.laid W) :
    Calls Tryd.prog 10 args W fun e W' => ∃ v, e = .returned v ∧ Rows.watchTellsSpec.post enc Tryd.prog Tryd.f10 false true false false W args v W' := by
  have hW' := hW
  obtain ⟨p, q, hA0, hV, rfl, hfz, hnd⟩ := hW
  have hA : DataW.TrodAll enc Tryd.prog W 0 (fun _ => true) true Tryd.f10.params.toList args.toList ds p := hA0
  rw [Tryd.params10] at hA hval
  obtain ⟨v0, vs0, d0, ds0, p0, q0, hargs, rfl, rfl, h0, r0⟩ := trodAll_cons hA
  obtain ⟨v1, vs1, d1, ds1, p1, q1, rfl, rfl, rfl, h1, r1⟩ := trodAll_cons r0
  obtain ⟨rfl, rfl, rfl⟩ := trodAll_nil r1
  obtain rfl : args = #[v0, v1] := by cases args; simp_all
  obtain ⟨rfl, rfl⟩ := trodVars_none hV
  clear hA0
  have t0 : Tr enc prog (fun _ => True) W 22 [v0] := Tr.ofSlice u22 (hval 0 22 v0 rfl rfl) h0 trivial
  have t1 : Tr enc prog (fun _ => True) W 22 [v1] := Tr.ofSlice u22 (hval 1 22 v1 rfl rfl) h1 trivial
  obtain ⟨p, cap, xs, rfl, _, hok, hin⟩ := tr_wires Her.all t0
  obtain ⟨p2, cap2, xs2, rfl, _, hok2, hin2⟩ := tr_wires Her.all t1
  refine ((watch_tells W p p2 xs.length cap xs2.length cap2 xs xs2 [old W] rfl rfl hok hok2 (hin.inl []) (hin2.inl []) (T10.old (table30 hL) Pick.head)) W (Sat.start W)).mono fun e W' hq => ?_
  obtain ⟨v, l', rfl, hs, rfl, rfl⟩ := hq
  exact ⟨_, rfl, law_post laidOut_ rfl rfl u4 watch_tells_reads hW' rfl rfl rfl hs.below⟩
set_option maxRecDepth 100000 in
theorem watch_tells_lifted (os : Os) (started : os.Started) (H : Type) (enc : TypeId × Value → H) (F : Stop.Interp) :
    ReturnsInHanded {} Tryd.checked os 10 .any ((OpenSpec.ofChange Rows.watchTellsSpec).preRow enc Tryd.prog Tryd.f10 Rows.watchTellsRow.domain false Rows.watchTellsRow.laid) (((OpenSpec.ofChange Rows.watchTellsSpec).at F).post enc Tryd.prog Tryd.f10 false true false false) := by
  have hx : ∃ places, DataW.whole enc Tryd.prog ((laidWorld os).forCall (fun _ _ => 0) ⟨#[], #[.slice none 0 0, .slice none 0 0], []⟩).memory Tryd.f10.params.toList Rows.watchTellsSpec.vars false (#[.slice none 0 0, .slice none 0 0] : Array Value).toList 8 = some ([.nil, .nil], [], places) := ⟨[], by kernel_rfl⟩
  obtain ⟨places, hx⟩ := hx
  refine returnsInHanded_of_row (C := Tryd.checked) (s := OpenSpec.ofChange Rows.watchTellsSpec) own_ started (by kernel_rfl) Tryd.func10
    (witness_row_at (enc := enc) (C := Tryd.checked) false (laidWorld os) #[.slice none 0 0, .slice none 0 0] rfl (by kernel_rfl) (by kernel_rfl) (by kernel_rfl)
      (OpenSpec.preRow_of_cond 8 hx (by kernel_rfl) (fun k hk => by cases hk) (by kernel_rfl) (laid_met os _))) ?_
  intro W base args ds gs before hval hW _ hk _ hL _ _
  exact watch_tells_contract H enc W base args ds gs before hval hW hL
theorem watch_tells_said : Rows.WatchTellsSaid :=
  OpenClaim.holds_of_cond 10 Tryd.f10 rfl rfl rfl rfl rfl rfl rfl ⟨rfl, rfl, rfl, rfl, rfl⟩ rfl rfl rfl rfl rfl (by kernel_rfl) Tryd.func10 (by kernel_rfl)
    (of_decide_eq_true (by kernel_rfl)) (by unfold Func.isWrapper; first | (rw [if_pos (by decide +kernel)]; kernel_rfl) | (rw [if_neg (by decide +kernel)]; exact ⟨rfl, rfl⟩))
    (fun os started H enc _ F => by rw [OpenClaim.pre_eq_preRow]; exact watch_tells_lifted os started H enc F)
set_option maxRecDepth 100000 in
theorem watch_tells_plain (f : FuncId) (fn : Func) (hf : Tryd.pinned.checked.prog.funcNamed Rows.watchTellsRow.func = some f) (hfn : Tryd.pinned.checked.prog.funcs[f]? = some fn) :
    false = Tryd.pinned.checked.prog.looks [] ∧ ∀ (j : Nat) t, fn.params[j]? = some t → Tryd.pinned.checked.prog.wantsStandIn t = false := by
  obtain rfl : f = 10 := Option.some.inj ((show Tryd.prog.funcNamed Rows.watchTellsRow.func = some 10 by kernel_rfl).symm.trans hf) |>.symm
  obtain rfl : fn = Tryd.f10 := (Option.some.inj (Tryd.func10.symm.trans hfn)).symm
  refine ⟨by kernel_rfl, fun j t ht => ?_⟩
  rw [Tryd.params10] at ht
  have hm := Array.mem_of_getElem? ht
  simp only [List.mem_toArray, List.mem_cons, List.not_mem_nil, or_false] at hm
  rcases hm with rfl | rfl
  · exact (show Tryd.prog.wantsStandIn 22 = false by kernel_rfl)
  · exact (show Tryd.prog.wantsStandIn 22 = false by kernel_rfl)
theorem watch_tells_holds : Rows.WatchTellsCardSaid :=
  Claim7.holds_tied_plain_at .later [] _ _ _ _ watch_tells_said (fun _ h => by cases h) (by kernel_rfl) (fun _ h => by cases h) watchTells_row_tie rfl ⟨rfl, rfl⟩ (by kernel_rfl) rfl watch_tells_plain (by kernel_rfl)
end
end Go.Proofs.YtfohdnclpbipeaaDoor
