
/-
  hollowtreelaw30.WatchSums returns true for every input, and leaves its input as it was. No condition but that the tables of the program's text are laid.
-/
import Derived.Test.YtfohdnclpbipeaaDoorJoin7
import Derived.Test.YtfohdnclpbipeaaDoorJoin9
import Derived.Test.YtfohdnclpbipeaaDoorJoin11
namespace Go.Proofs.YtfohdnclpbipeaaDoor
open Go Go.SL
section
theorem sum_take {α : Type} (f : α → Int) {xs : List α} {i : Nat} {x : α} (h : xs[i]? = some x) : sumI ((xs.take (i + 1)).map f) = sumI ((xs.take i).map f) + f x := by
  rw [List.take_add_one, h, Option.toList_some, List.map_append, sumI_app]
  simp [sumI]
end
section
attribute [local irreducible] J JL JE JM LS Y Fc RV Code.wp wpList Code.wpIn wpListIn
attribute [local irreducible] Yc
variable (E : World)
theorem watch_sums (p : Option Addr) (n c : Nat) (ws : List WireT) (l : List HProp) (hn : ws.length = n) (hw : ∀ w ∈ ws, WiOk w) (hin : InL l p n c (ws.flatMap wiE)) (ht : T10 E l) :
    Fc prog E 5 [.slice p n c].toArray l (fun v l' => v = .bool true ∧ l' = l) := by
  refine Fc.eqs ?_
  obtain ⟨m, hm⟩ : ∃ m, m = min n 120 := ⟨_, rfl⟩
  obtain ⟨zs, hzs⟩ : ∃ zs, ws.take m = zs := ⟨_, rfl⟩
  have hz : zs.length = m := by rw [← hzs, List.length_take]; omega
  have hzw : ∀ w ∈ zs, WiOk w := fun w h => hw w (List.mem_of_mem_take (hzs ▸ h))
  have hm8 : m ≤ 120 := by omega
  have hcut := cut_spec E p n c m ws l hn hm hin
  rw [hzs] at hcut
  obtain ⟨⟨qc, hqc⟩, ⟨qs, hqs⟩⟩ := flows_sums zs
  have hsrt := refF_sorted zs
  refine Fc.of_body (c := ?codeC) Tryd.func5 ?hb Tryd.ntmps5 ?hl ?_
  case hb => exact rfl
  case hl => exact rfl
  refine J.seq ?_
  refine J.region ?_
  refine JL.step (y_assign rfl) rfl rfl rfl ?_
  refine JL.nil ?_
  refine JE.then_normal ?_
  refine J.seq ?_
  refine J.seq ?_
  refine J.region ?_
  refine JL.loud rfl (l_callF e11 rfl rfl (wakes_spec E _ ht) ?_)
  rintro _ l1 ⟨rfl, e1⟩
  obtain rfl := e1.symm
  refine JL.step (y_not rfl) rfl rfl rfl ?_
  refine JL.nil ?_
  refine JE.then_normal ?_
  refine J.cond_f rfl (by (first | rfl | assumption | (simp; done) | (simp; omega))) ?_
  refine J.skip ?_
  refine JE.then_normal ?_
  refine J.seq ?_
  refine J.region ?_
  refine JL.step (y_move rfl) rfl rfl rfl ?_
  refine JL.loud rfl (l_callF e12 rfl rfl (hcut) ?_)
  rintro _ _ ⟨a, c', hc', rfl, rfl⟩
  refine JL.step (y_assign rfl) rfl rfl rfl ?_
  refine JL.nil ?_
  refine JE.then_normal ?_
  refine J.seq ?_
  refine J.region ?_
  refine JL.step (y_assign rfl) rfl rfl rfl (JL.step (y_assign rfl) rfl rfl rfl ?_)
  refine JL.nil ?_
  refine JE.then_normal ?_
  refine J.seq ?_
  refine J.seq ?_
  refine J.region ?_
  refine JL.step (y_move rfl) rfl rfl rfl (JL.step (y_len_slice hT rfl rfl rfl) rfl rfl rfl (JL.step (y_move rfl) rfl rfl rfl ?_))
  refine JL.nil ?_
  refine JE.then_normal ?_
  refine J.block ?_
  refine J.fact (fun w s => Sat.own_at (s.pick Pick.head)) fun oo => ?_
  refine J.loop (α := Nat × Int × Int) (fun s => s.1 ≤ m ∧ R64 s.2.1 ∧ R64 s.2.2 ∧ (∃ q, s.2.1 = sumI ((zs.take s.1).map (·.2.2.2.1)) + 18446744073709551616 * q) ∧ ∃ q, s.2.2 = sumI ((zs.take s.1).map (·.2.2.2.2)) + 18446744073709551616 * q) (fun s => [(0, .slice a m c'), (3, .int .i64 s.2.1), (4, .int .i64 s.2.2), (14, .slice a m c'), (15, .int .i64 m), (16, .int .i64 s.1)]) (fun _ => own 38 5 (.slice a (m + 1) c') (m + 1) (zs.flatMap wiE ++ wiE wi77) :: l) (fun s => m - s.1) (0, 0, 0) ⟨Nat.zero_le _, by unfold R64; decide, by unfold R64; decide, ⟨0, rfl⟩, ⟨0, rfl⟩⟩ ⟨rfl, rfl, rfl, rfl, rfl, rfl, trivial⟩ (fun w h => h) ?_
  rintro ⟨i, x, y⟩ ⟨hi, hx64, hy64, ⟨q1, hq1⟩, ⟨q2, hq2⟩⟩
  dsimp only at hi hx64 hy64 hq1 hq2 ⊢
  refine J.seq ?_
  refine J.region ?_
  refine JL.step (y_lss rfl rfl) rfl rfl rfl ?_
  refine JL.nil ?_
  refine JE.then_normal ?_
  refine J.seq ?_
  first | apply J.cond_dec rfl | apply J.cond rfl
  case' ht =>
    intro h
    try (first | (exfalso; omega) | (cases h; done) | (exfalso; simp at h; done) | subst h)
    all_goals
      refine J.skip ?_
  case' hf =>
    intro h
    try (first | (exfalso; omega) | (cases h; done) | (exfalso; simp at h; done) | subst h)
    all_goals
      refine J.exit ?_
      refine JE.then_exit ?_
      refine JE.then_exit ?_
      refine JE.block_exit ?_
      refine JE.then_normal ?_
      refine J.seq ?_
      obtain rfl : i = m := by omega
      rw [List.take_of_length_le (by omega)] at hq1 hq2
      refine J.region ?_
      refine JL.step (y_build (cs := [_, _, _, _]) hT rfl rfl rfl rfl rfl rfl trivial rfl) rfl rfl rfl ?_
      refine JL.loud rfl (l_alloc hT rfl rfl (by (first | rfl | simp)) rfl (fun b3 => ?_))
      refine JL.loud rfl (l_storeAll hT rfl rfl rfl (by (first | rfl | assumption | (simp; done) | omega)) (by (first | assumption | exact ones_of rfl | exact encW_one _ | exact encB_one _ | (intro u hu; simp at hu; rcases hu with rfl | rfl <;> rfl) | (intro u hu; simp at hu; subst hu; rfl) | simp)) (by (repeat (first | exact Pick.head | apply Pick.tail | apply Pick.app))) (by (first | rfl | assumption | (simp; done) | omega)) ?_)
      refine JL.nil ?_
      refine JE.then_normal ?_
      refine J.seq ?_
      refine J.seq ?_
      refine J.region ?_
      refine JL.step (y_move rfl) rfl rfl rfl ?_
      refine JL.loud rfl (l_callF e16 rfl rfl (flows_spec E a i c' zs _ hz (by omega) hzw (cutIn hz oo (by (repeat (first | exact Pick.head | apply Pick.tail | apply Pick.app)))).2) ?_)
      rintro _ _ ⟨vs, a9, c9, hv1, hv2, rfl, rfl⟩
      refine JL.step (y_len_slice hT rfl rfl rfl) rfl rfl rfl (JL.step (y_move rfl) rfl rfl rfl ?_)
      refine JL.nil ?_
      refine JE.then_normal ?_
      refine J.block ?_
      obtain rfl : vs = refF zs := flows_same hv1 hv2
      obtain ⟨vs, hvs⟩ : ∃ vs, refF zs = vs := ⟨_, rfl⟩
      have hvl : vs.length ≤ 120 := by
        have := refF_length zs
        rw [hvs] at this
        omega
      rw [hvs] at hqc hqs hsrt ⊢
      refine J.fact (fun w s => Sat.own_at (s.pick Pick.head)) fun oo9 => ?_
      refine J.loop (α := Nat × Int × Int × FlowT) (fun s => s.1 ≤ vs.length ∧ R64 s.2.1 ∧ R64 s.2.2.1 ∧ (0 < s.1 → vs[s.1 - 1]? = some s.2.2.2) ∧ (∃ q, s.2.1 = x - sumI ((vs.take s.1).map (·.2.2.1)) + 18446744073709551616 * q) ∧ ∃ q, s.2.2.1 = y - sumI ((vs.take s.1).map (·.2.2.2)) + 18446744073709551616 * q) (fun s => [(3, .int .i64 s.2.1), (4, .int .i64 s.2.2.1), (7, .pointer (some ⟨b3, 0, none⟩)), (31, .slice a9 vs.length c9), (32, .int .i64 vs.length), (33, .int .i64 s.1)]) (fun s => own 29 4 (.slice a9 vs.length c9) vs.length (vs.flatMap flE) :: row b3 29 (flE s.2.2.2) :: l) (fun s => vs.length - s.1) (0, x, y, (0, 0, 0, 0)) ⟨Nat.zero_le _, hx64, hy64, by dsimp only; omega, ⟨0, by simp [sumI]⟩, ⟨0, by simp [sumI]⟩⟩ ⟨rfl, rfl, rfl, rfl, rfl, rfl, trivial⟩ (fun w h => h.sup (by (repeat (first | exact Sup.refl | apply Sup.cons (by (repeat (first | exact Pick.head | apply Pick.tail | apply Pick.app))) | apply Sup.app | apply Sup.skip | apply Sup.skips)))) ?_
      rintro ⟨k, x2, y2, last⟩ ⟨hk, hx2, hy2, hlast, ⟨q3, hq3⟩, ⟨q4, hq4⟩⟩
      dsimp only at hk hx2 hy2 hlast hq3 hq4 ⊢
      refine J.seq ?_
      refine J.region ?_
      refine JL.step (y_lss rfl rfl) rfl rfl rfl ?_
      refine JL.nil ?_
      refine JE.then_normal ?_
      refine J.seq ?_
      first | apply J.cond_dec rfl | apply J.cond rfl
      case' ht =>
        intro h
        try (first | (exfalso; omega) | (cases h; done) | (exfalso; simp at h; done) | subst h)
        all_goals
          refine J.skip ?_
      case' hf =>
        intro h
        try (first | (exfalso; omega) | (cases h; done) | (exfalso; simp at h; done) | subst h)
        all_goals
          refine J.exit ?_
          refine JE.then_exit ?_
          refine JE.then_exit ?_
          refine JE.block_exit ?_
          refine JE.then_normal ?_
          refine J.seq ?_
          obtain rfl : k = vs.length := by omega
          rw [List.take_of_length_le (Nat.le_refl _)] at hq3 hq4
          obtain rfl : x2 = 0 := by unfold R64 at hx2; omega
          obtain rfl : y2 = 0 := by unfold R64 at hy2; omega
          refine J.region ?_
          refine JL.step (y_move rfl) rfl rfl rfl (JL.step (y_eql rfl rfl) rfl rfl rfl (JL.step (y_move rfl) rfl rfl rfl ?_))
          all_goals (first | (refine JL.gsplit_dec rfl rfl rfl (fun h => ?_) (fun h => ?_) <;> try (first | (exfalso; omega) | exact absurd rfl h)) | (refine JL.gsplit rfl rfl rfl (fun h => ?_) (fun h => ?_) <;> try (first | cases h | (exfalso; simp at h; done))) | skip)
          all_goals (first | refine JL.gskip rfl rfl rfl rfl rfl rfl ?_ | refine JL.gskipU rfl rfl rfl rfl rfl ?_ | refine JL.gstep rfl rfl rfl (y_move rfl) rfl rfl ?_)
          all_goals (first | refine JL.gskip rfl rfl rfl rfl rfl rfl ?_ | refine JL.gskipU rfl rfl rfl rfl rfl ?_ | refine JL.gstep rfl rfl rfl (y_eql rfl rfl) rfl rfl ?_)
          all_goals (refine JL.step (y_pick rfl rfl rfl) rfl rfl rfl ?_)
          all_goals (refine JL.step (y_assign rfl) rfl rfl rfl ?_)
          all_goals refine JL.nil ?_
          all_goals refine JE.then_normal ?_
          all_goals
            refine J.ret ?_
            refine JE.ret1 (.inl rfl) rfl rfl (by (first | exact RV.tmp rfl | exact RV.cell1 hT rfl rfl rfl (by (exact Rd1.row (by (repeat (first | exact Pick.head | apply Pick.tail | apply Pick.app))) (by rfl))) | exact RV.cellN hT rfl rfl rfl (by (first | exact RdN.rowAll (by (repeat (first | exact Pick.head | apply Pick.tail | apply Pick.app))) | exact RdN.own (by (repeat (first | exact Pick.head | apply Pick.tail | apply Pick.app))))) (by (first | rfl | assumption | (simp; done) | omega)))) ?_
            exact ⟨rfl, fun w h => h.sup (by (repeat (first | exact Sup.refl | apply Sup.cons (by (repeat (first | exact Pick.head | apply Pick.tail | apply Pick.app))) | apply Sup.app | apply Sup.skip | apply Sup.skips)))⟩
      all_goals refine JE.then_normal ?_
      all_goals
        refine J.seq ?_
        refine J.block ?_
        refine J.seq ?_
        have hlt : k < vs.length := by omega
        obtain ⟨f, hh⟩ : ∃ f, vs[k]? = some f := ⟨vs[k]'(by omega), List.getElem?_eq_getElem _⟩
        have hs1 := sum_take (fun w : FlowT => w.2.2.1) hh
        have hs2 := sum_take (fun w : FlowT => w.2.2.2) hh
        obtain ⟨u1, hu1⟩ := wr_mod (x2 - f.2.2.1)
        obtain ⟨u2, hu2⟩ := wr_mod (y2 - f.2.2.2)
        have hkl : 0 < k → last.1 < f.1 ∨ last.1 = f.1 ∧ last.2.1 < f.2.1 := fun h0 => by
          have h1 := hlast h0
          obtain ⟨i1, e1⟩ := List.getElem?_eq_some_iff.1 h1
          obtain ⟨i2, e2⟩ := List.getElem?_eq_some_iff.1 hh
          have := List.pairwise_iff_getElem.1 hsrt (k - 1) k i1 i2 (by omega)
          rw [e1, e2] at this
          exact this
        obtain ⟨g9, o9, rfl, hr9⟩ := (oo9.inl (l := own 29 4 (.slice a9 vs.length c9) vs.length (vs.flatMap flE) :: row b3 29 (flE last) :: l) (by (repeat (first | exact Pick.head | apply Pick.tail | apply Pick.app)))).addr (by omega)
        refine J.region ?_
        refine JL.step (y_move rfl) rfl rfl rfl ?_
        refine JL.step (y_indexAddr_slice hT rfl rfl rfl rfl rfl (by (first | omega | exact Nat.le_of_ble_eq_true rfl | decide | (simp; omega))) (by (first | omega | exact Nat.le_of_ble_eq_true rfl | decide | (simp; omega)))) rfl rfl rfl ?_
        refine JL.step (y_loadN hT rfl rfl rfl (RdN.elem (hr9 []) (fun x _ => hkE x) hh) rfl) rfl rfl rfl ?_
        refine JL.loud rfl (l_alloc hT rfl rfl (by (first | rfl | simp)) rfl (fun b6 => ?_))
        refine JL.step (y_assign rfl) rfl rfl rfl ?_
        refine JL.loud rfl (l_storeAll hT rfl rfl rfl (by (first | rfl | assumption | (simp; done) | omega)) (by (first | assumption | exact ones_of rfl | exact encW_one _ | exact encB_one _ | (intro u hu; simp at hu; rcases hu with rfl | rfl <;> rfl) | (intro u hu; simp at hu; subst hu; rfl) | simp)) (by (repeat (first | exact Pick.head | apply Pick.tail | apply Pick.app))) (by (first | rfl | assumption | (simp; done) | omega)) ?_)
        refine JL.nil ?_
        refine JE.then_normal ?_
        refine J.seq ?_
        refine J.seq ?_
        refine J.region ?_
        refine JL.step (y_move rfl) rfl rfl rfl (JL.step (y_gtr rfl rfl) rfl rfl rfl (JL.step (y_move rfl) rfl rfl rfl ?_))
        all_goals (first | (refine JL.gsplit_dec rfl rfl rfl (fun h => ?_) (fun h => ?_) <;> try (first | (exfalso; omega) | exact absurd rfl h)) | (refine JL.gsplit rfl rfl rfl (fun h => ?_) (fun h => ?_) <;> try (first | cases h | (exfalso; simp at h; done))) | skip)
        all_goals (first | refine JL.gskip rfl rfl rfl rfl rfl rfl ?_ | refine JL.gskipU rfl rfl rfl rfl rfl ?_ | refine JL.gstep rfl rfl rfl (y_fieldAddr hT rfl rfl rfl rfl rfl rfl) rfl rfl ?_)
        all_goals (first | refine JL.gskip rfl rfl rfl rfl rfl rfl ?_ | refine JL.gskipU rfl rfl rfl rfl rfl ?_ | refine JL.gstep rfl rfl rfl (y_load1 hT rfl rfl rfl (by (exact Rd1.row (by (repeat (first | exact Pick.head | apply Pick.tail | apply Pick.app))) (by rfl)))) rfl rfl ?_)
        all_goals (first | refine JL.gskip rfl rfl rfl rfl rfl rfl ?_ | refine JL.gskipU rfl rfl rfl rfl rfl ?_ | refine JL.gstep rfl rfl rfl (y_fieldAddr hT rfl rfl rfl rfl rfl rfl) rfl rfl ?_)
        all_goals (first | refine JL.gskip rfl rfl rfl rfl rfl rfl ?_ | refine JL.gskipU rfl rfl rfl rfl rfl ?_ | refine JL.gstep rfl rfl rfl (y_load1 hT rfl rfl rfl (by (exact Rd1.row (by (repeat (first | exact Pick.head | apply Pick.tail | apply Pick.app))) (by rfl)))) rfl rfl ?_)
        all_goals (first | refine JL.gskip rfl rfl rfl rfl rfl rfl ?_ | refine JL.gskipU rfl rfl rfl rfl rfl ?_ | refine JL.gstep rfl rfl rfl (v := .bool false) (Y.val (y_lss rfl rfl) (by rw [decide_eq_false (by omega)])) rfl rfl ?_)
        all_goals (first | refine JL.gskip rfl rfl rfl rfl rfl rfl ?_ | refine JL.gskipU rfl rfl rfl rfl rfl ?_ | refine JL.gstep rfl rfl rfl (y_move rfl) rfl rfl ?_)
        all_goals (first | (refine JL.gsplit_dec rfl rfl rfl (fun h => ?_) (fun h => ?_) <;> try (first | (exfalso; omega) | exact absurd rfl h)) | (refine JL.gsplit rfl rfl rfl (fun h => ?_) (fun h => ?_) <;> try (first | cases h | (exfalso; simp at h; done))) | skip)
        all_goals (first | refine JL.gskip rfl rfl rfl rfl rfl rfl ?_ | refine JL.gskipU rfl rfl rfl rfl rfl ?_ | refine JL.gstep rfl rfl rfl (y_fieldAddr hT rfl rfl rfl rfl rfl rfl) rfl rfl ?_)
        all_goals (first | refine JL.gskip rfl rfl rfl rfl rfl rfl ?_ | refine JL.gskipU rfl rfl rfl rfl rfl ?_ | refine JL.gstep rfl rfl rfl (y_load1 hT rfl rfl rfl (by (exact Rd1.row (by (repeat (first | exact Pick.head | apply Pick.tail | apply Pick.app))) (by rfl)))) rfl rfl ?_)
        all_goals (first | refine JL.gskip rfl rfl rfl rfl rfl rfl ?_ | refine JL.gskipU rfl rfl rfl rfl rfl ?_ | refine JL.gstep rfl rfl rfl (y_fieldAddr hT rfl rfl rfl rfl rfl rfl) rfl rfl ?_)
        all_goals (first | refine JL.gskip rfl rfl rfl rfl rfl rfl ?_ | refine JL.gskipU rfl rfl rfl rfl rfl ?_ | refine JL.gstep rfl rfl rfl (y_load1 hT rfl rfl rfl (by (exact Rd1.row (by (repeat (first | exact Pick.head | apply Pick.tail | apply Pick.app))) (by rfl)))) rfl rfl ?_)
        all_goals (first | refine JL.gskip rfl rfl rfl rfl rfl rfl ?_ | refine JL.gskipU rfl rfl rfl rfl rfl ?_ | refine JL.gstep rfl rfl rfl (y_eql rfl rfl) rfl rfl ?_)
        all_goals (first | refine JL.gskip rfl rfl rfl rfl rfl rfl ?_ | refine JL.gskipU rfl rfl rfl rfl rfl ?_ | refine JL.gstep rfl rfl rfl (y_move rfl) rfl rfl ?_)
        all_goals (first | (refine JL.gsplit_dec rfl rfl rfl (fun h => ?_) (fun h => ?_) <;> try (first | (exfalso; omega) | exact absurd rfl h)) | (refine JL.gsplit rfl rfl rfl (fun h => ?_) (fun h => ?_) <;> try (first | cases h | (exfalso; simp at h; done))) | skip)
        all_goals (first | refine JL.gskip rfl rfl rfl rfl rfl rfl ?_ | refine JL.gskipU rfl rfl rfl rfl rfl ?_ | refine JL.gstep rfl rfl rfl (y_fieldAddr hT rfl rfl rfl rfl rfl rfl) rfl rfl ?_)
        all_goals (first | refine JL.gskip rfl rfl rfl rfl rfl rfl ?_ | refine JL.gskipU rfl rfl rfl rfl rfl ?_ | refine JL.gstep rfl rfl rfl (y_load1 hT rfl rfl rfl (by (exact Rd1.row (by (repeat (first | exact Pick.head | apply Pick.tail | apply Pick.app))) (by rfl)))) rfl rfl ?_)
        all_goals (first | refine JL.gskip rfl rfl rfl rfl rfl rfl ?_ | refine JL.gskipU rfl rfl rfl rfl rfl ?_ | refine JL.gstep rfl rfl rfl (y_fieldAddr hT rfl rfl rfl rfl rfl rfl) rfl rfl ?_)
        all_goals (first | refine JL.gskip rfl rfl rfl rfl rfl rfl ?_ | refine JL.gskipU rfl rfl rfl rfl rfl ?_ | refine JL.gstep rfl rfl rfl (y_load1 hT rfl rfl rfl (by (exact Rd1.row (by (repeat (first | exact Pick.head | apply Pick.tail | apply Pick.app))) (by rfl)))) rfl rfl ?_)
        all_goals (first | refine JL.gskip rfl rfl rfl rfl rfl rfl ?_ | refine JL.gskipU rfl rfl rfl rfl rfl ?_ | refine JL.gstep rfl rfl rfl (v := .bool false) (Y.val (y_leq rfl rfl) (by rw [decide_eq_false (by omega)])) rfl rfl ?_)
        all_goals (first | refine JL.gskip rfl rfl rfl rfl rfl rfl ?_ | refine JL.gskipU rfl rfl rfl rfl rfl ?_ | refine JL.gstep rfl rfl rfl (y_pick rfl rfl rfl) rfl rfl ?_)
        all_goals (first | refine JL.gskip rfl rfl rfl rfl rfl rfl ?_ | refine JL.gskipU rfl rfl rfl rfl rfl ?_ | refine JL.gstep rfl rfl rfl (y_pick rfl rfl rfl) rfl rfl ?_)
        all_goals (refine JL.step (y_pick rfl rfl rfl) rfl rfl rfl ?_)
        all_goals refine JL.nil ?_
        all_goals refine JE.then_normal ?_
        all_goals
          refine J.cond_f rfl (by (first | rfl | assumption | (simp; done) | (simp; omega))) ?_
          refine J.skip ?_
        all_goals refine JE.then_normal ?_
        all_goals
          refine J.seq ?_
          refine J.region ?_
          refine JL.step (y_loadN hT rfl rfl rfl (by (first | exact RdN.rowAll (by (repeat (first | exact Pick.head | apply Pick.tail | apply Pick.app))) | exact RdN.own (by (repeat (first | exact Pick.head | apply Pick.tail | apply Pick.app))))) (by (first | rfl | assumption | (simp; done) | omega))) rfl rfl rfl ?_
          refine JL.loud rfl (l_storeAll hT rfl rfl rfl (by (first | rfl | assumption | (simp; done) | omega)) (by (first | assumption | exact ones_of rfl | exact encW_one _ | exact encB_one _ | (intro u hu; simp at hu; rcases hu with rfl | rfl <;> rfl) | (intro u hu; simp at hu; subst hu; rfl) | simp)) (by (repeat (first | exact Pick.head | apply Pick.tail | apply Pick.app))) (by (first | rfl | assumption | (simp; done) | omega)) ?_)
          refine JL.nil ?_
          refine JE.then_normal ?_
          refine J.seq ?_
          refine J.region ?_
          refine JL.step (y_move rfl) rfl rfl rfl (JL.step (y_fieldAddr hT rfl rfl rfl rfl rfl rfl) rfl rfl rfl ?_)
          refine JL.step (y_load1 hT rfl rfl rfl (by (exact Rd1.row (by (repeat (first | exact Pick.head | apply Pick.tail | apply Pick.app))) (by rfl)))) rfl rfl rfl ?_
          refine JL.step (y_sub (m := wr (x2 - f.2.2.1)) rfl rfl rfl) rfl rfl rfl ?_
          refine JL.step (y_assign rfl) rfl rfl rfl ?_
          refine JL.nil ?_
          refine JE.then_normal ?_
          refine J.region ?_
          refine JL.step (y_move rfl) rfl rfl rfl (JL.step (y_fieldAddr hT rfl rfl rfl rfl rfl rfl) rfl rfl rfl ?_)
          refine JL.step (y_load1 hT rfl rfl rfl (by (exact Rd1.row (by (repeat (first | exact Pick.head | apply Pick.tail | apply Pick.app))) (by rfl)))) rfl rfl rfl ?_
          refine JL.step (y_sub (m := wr (y2 - f.2.2.2)) rfl rfl rfl) rfl rfl rfl ?_
          refine JL.step (y_assign rfl) rfl rfl rfl ?_
          refine JL.nil ?_
        all_goals refine JE.block_normal ?_
        all_goals refine JE.then_normal ?_
        all_goals
          refine J.region ?_
          refine JL.step (y_add rfl rfl (by (first | exact wrap_i64 (by omega) (by omega) | rfl))) rfl rfl rfl ?_
          refine JL.step (y_move rfl) rfl rfl rfl ?_
          refine JL.nil ?_
      all_goals
        exact JE.round (s := (k, x2, y2, last)) (k + 1, wr (x2 - f.2.2.1), wr (y2 - f.2.2.2), f) ⟨by dsimp only; omega, wr_range _, wr_range _, fun _ => by dsimp only; rw [Nat.add_sub_cancel]; exact hh, ⟨q3 + u1, by dsimp only at hs1 ⊢; rw [hu1, hs1, hq3]; omega⟩, ⟨q4 + u2, by dsimp only at hs2 ⊢; rw [hu2, hs2, hq4]; omega⟩⟩ ⟨rfl, rfl, rfl, rfl, rfl, rfl, trivial⟩ (fun w h => h.sup (by (repeat (first | exact Sup.refl | apply Sup.cons (by (repeat (first | exact Pick.head | apply Pick.tail | apply Pick.app))) | apply Sup.app | apply Sup.skip | apply Sup.skips)))) (by dsimp only; omega)
  all_goals refine JE.then_normal ?_
  all_goals
    refine J.seq ?_
    refine J.block ?_
    refine J.seq ?_
    have hlt : i < m := by omega
    obtain ⟨w, hh⟩ : ∃ w, zs[i]? = some w := ⟨zs[i]'(by omega), List.getElem?_eq_getElem _⟩
    have hs1 := sum_take (fun w : WireT => w.2.2.2.1) hh
    have hs2 := sum_take (fun w : WireT => w.2.2.2.2) hh
    obtain ⟨u1, hu1⟩ := wr_mod (x + w.2.2.2.1)
    obtain ⟨u2, hu2⟩ := wr_mod (y + w.2.2.2.2)
    have hL := (cutIn (L := own 38 5 (.slice a (m + 1) c') (m + 1) (zs.flatMap wiE ++ wiE wi77) :: l) hz oo (by (repeat (first | exact Pick.head | apply Pick.tail | apply Pick.app)))).2
    obtain ⟨g, o, rfl, hr⟩ := hL.addr (by omega)
    refine J.region ?_
    refine JL.step (y_indexAddr_slice hT rfl rfl rfl rfl rfl (by (first | omega | exact Nat.le_of_ble_eq_true rfl | decide | (simp; omega))) (by (first | omega | exact Nat.le_of_ble_eq_true rfl | decide | (simp; omega)))) rfl rfl rfl ?_
    refine JL.step (y_loadN hT rfl rfl rfl (RdN.elem (hr []) (fun x _ => wiE_length x) hh) rfl) rfl rfl rfl ?_
    refine JL.loud rfl (l_alloc hT rfl rfl (by (first | rfl | simp)) rfl (fun b9 => ?_))
    refine JL.loud rfl (l_storeAll hT rfl rfl rfl (by (first | rfl | assumption | (simp; done) | omega)) (by (first | assumption | exact ones_of rfl | exact encW_one _ | exact encB_one _ | (intro u hu; simp at hu; rcases hu with rfl | rfl <;> rfl) | (intro u hu; simp at hu; subst hu; rfl) | simp)) (by (repeat (first | exact Pick.head | apply Pick.tail | apply Pick.app))) (by (first | rfl | assumption | (simp; done) | omega)) ?_)
    refine JL.nil ?_
    refine JE.then_normal ?_
    refine J.seq ?_
    refine J.region ?_
    refine JL.step (y_move rfl) rfl rfl rfl (JL.step (y_fieldAddr hT rfl rfl rfl rfl rfl rfl) rfl rfl rfl ?_)
    refine JL.step (y_load1 hT rfl rfl rfl (by (exact Rd1.row (by (repeat (first | exact Pick.head | apply Pick.tail | apply Pick.app))) (by rfl)))) rfl rfl rfl ?_
    refine JL.step (y_add (m := wr (x + w.2.2.2.1)) rfl rfl rfl) rfl rfl rfl ?_
    refine JL.step (y_assign rfl) rfl rfl rfl ?_
    refine JL.nil ?_
    refine JE.then_normal ?_
    refine J.region ?_
    refine JL.step (y_move rfl) rfl rfl rfl (JL.step (y_fieldAddr hT rfl rfl rfl rfl rfl rfl) rfl rfl rfl ?_)
    refine JL.step (y_load1 hT rfl rfl rfl (by (exact Rd1.row (by (repeat (first | exact Pick.head | apply Pick.tail | apply Pick.app))) (by rfl)))) rfl rfl rfl ?_
    refine JL.step (y_add (m := wr (y + w.2.2.2.2)) rfl rfl rfl) rfl rfl rfl ?_
    refine JL.step (y_assign rfl) rfl rfl rfl ?_
    refine JL.nil ?_
    refine JE.block_normal ?_
    refine JE.then_normal ?_
    refine J.region ?_
    refine JL.step (y_add rfl rfl (by (first | exact wrap_i64 (by omega) (by omega) | rfl))) rfl rfl rfl ?_
    refine JL.step (y_move rfl) rfl rfl rfl ?_
    refine JL.nil ?_
  all_goals
    exact JE.round (s := (i, x, y)) (i + 1, wr (x + w.2.2.2.1), wr (y + w.2.2.2.2)) ⟨by dsimp only; omega, wr_range _, wr_range _, ⟨q1 + u1, by dsimp only at hs1 ⊢; rw [hu1, hs1, hq1]; omega⟩, ⟨q2 + u2, by dsimp only at hs2 ⊢; rw [hu2, hs2, hq2]; omega⟩⟩ ⟨rfl, rfl, rfl, rfl, rfl, rfl, trivial⟩ (fun w h => h.sup (by (repeat (first | exact Sup.refl | apply Sup.cons (by (repeat (first | exact Pick.head | apply Pick.tail | apply Pick.app))) | apply Sup.app | apply Sup.skip | apply Sup.skips)))) (by dsimp only; omega)
end
section
open Go.ChangeShapes Go.WideShapes Go.ChangeAt Go.RowKit
theorem watch_sums_reads : ∀ t ∈ Tryd.f5.params.toList, Tryd.prog.readableRec t = true ∧ t < Tryd.prog.types.size := by
  rw [Tryd.params5]
  intro t ht
  simp only [List.mem_cons, List.not_mem_nil, or_false] at ht
  rcases ht with rfl
  all_goals exact ⟨by kernel_rfl, of_decide_eq_true (by kernel_rfl)⟩
set_option maxRecDepth 100000 in
theorem watch_sums_contract (H : Type) (enc : TypeId × Value → H) (W : World) (base : Nat) (args : Array Value) (ds gs : List (DataW H)) (before : List MemPlace)
    (hval : ∀ (j : Nat) t v, Tryd.f5.params[j]? = some t → args[j]? = some v → Value.okWide Tryd.prog W .any base t v)
    (hW : DataW.Whole enc Tryd.prog Tryd.f5.params.toList Rows.watchSumsSpec.vars false W args.toList ds gs before) (hL : laidMetH Tryd.prog Rows.watchSumsRow.laid W) :
    Calls Tryd.prog 5 args W fun e W' => ∃ v, e = .returned v ∧ Rows.watchSumsSpec.post enc Tryd.prog Tryd.f5 false true false false W args v W' := by
  have hW' := hW
  obtain ⟨p, q, hA0, hV, rfl, hfz, hnd⟩ := hW
  have hA : DataW.TrodAll enc Tryd.prog W 0 (fun _ => true) true Tryd.f5.params.toList args.toList ds p := hA0
  rw [Tryd.params5] at hA hval
  obtain ⟨v0, vs0, d0, ds0, p0, q0, hargs, rfl, rfl, h0, r0⟩ := trodAll_cons hA
  obtain ⟨rfl, rfl, rfl⟩ := trodAll_nil r0
  obtain rfl : args = #[v0] := by cases args; simp_all
  obtain ⟨rfl, rfl⟩ := trodVars_none hV
  clear hA0
  have t0 : Tr enc prog (fun _ => True) W 22 [v0] := Tr.ofSlice u22 (hval 0 22 v0 rfl rfl) h0 trivial
  obtain ⟨p, cap, xs, rfl, _, hok, hin⟩ := tr_wires Her.all t0
  refine ((watch_sums W p xs.length cap xs [old W] rfl hok (hin.inl []) (T10.old (table30 hL) Pick.head)) W (Sat.start W)).mono fun e W' hq => ?_
  obtain ⟨v, l', rfl, hs, rfl, rfl⟩ := hq
  exact ⟨_, rfl, law_post laidOut_ rfl rfl u4 watch_sums_reads hW' rfl rfl rfl hs.below⟩
set_option maxRecDepth 100000 in
theorem watch_sums_lifted (os : Os) (started : os.Started) (H : Type) (enc : TypeId × Value → H) (F : Stop.Interp) :
    ReturnsInHanded {} Tryd.checked os 5 .any ((OpenSpec.ofChange Rows.watchSumsSpec).preRow enc Tryd.prog Tryd.f5 Rows.watchSumsRow.domain false Rows.watchSumsRow.laid) (((OpenSpec.ofChange Rows.watchSumsSpec).at F).post enc Tryd.prog Tryd.f5 false true false false) := by
  have hx : ∃ places, DataW.whole enc Tryd.prog ((laidWorld os).forCall (fun _ _ => 0) ⟨#[], #[.slice none 0 0], []⟩).memory Tryd.f5.params.toList Rows.watchSumsSpec.vars false (#[.slice none 0 0] : Array Value).toList 8 = some ([.nil], [], places) := ⟨[], by kernel_rfl⟩
  obtain ⟨places, hx⟩ := hx
  refine returnsInHanded_of_row (C := Tryd.checked) (s := OpenSpec.ofChange Rows.watchSumsSpec) own_ started (by kernel_rfl) Tryd.func5
    (witness_row_at (enc := enc) (C := Tryd.checked) false (laidWorld os) #[.slice none 0 0] rfl (by kernel_rfl) (by kernel_rfl) (by kernel_rfl)
      (OpenSpec.preRow_of_cond 8 hx (by kernel_rfl) (fun k hk => by cases hk) (by kernel_rfl) (laid_met os _))) ?_
  intro W base args ds gs before hval hW _ hk _ hL _ _
  exact watch_sums_contract H enc W base args ds gs before hval hW hL
theorem watch_sums_said : Rows.WatchSumsSaid :=
  OpenClaim.holds_of_cond 5 Tryd.f5 rfl rfl rfl rfl rfl rfl rfl ⟨rfl, rfl, rfl, rfl, rfl⟩ rfl rfl rfl rfl rfl (by kernel_rfl) Tryd.func5 (by kernel_rfl)
    (of_decide_eq_true (by kernel_rfl)) (by unfold Func.isWrapper; first | (rw [if_pos (by decide +kernel)]; kernel_rfl) | (rw [if_neg (by decide +kernel)]; exact ⟨rfl, rfl⟩))
    (fun os started H enc _ F => by rw [OpenClaim.pre_eq_preRow]; exact watch_sums_lifted os started H enc F)
set_option maxRecDepth 100000 in
theorem watch_sums_plain (f : FuncId) (fn : Func) (hf : Tryd.pinned.checked.prog.funcNamed Rows.watchSumsRow.func = some f) (hfn : Tryd.pinned.checked.prog.funcs[f]? = some fn) :
    false = Tryd.pinned.checked.prog.looks [] ∧ ∀ (j : Nat) t, fn.params[j]? = some t → Tryd.pinned.checked.prog.wantsStandIn t = false := by
  obtain rfl : f = 5 := Option.some.inj ((show Tryd.prog.funcNamed Rows.watchSumsRow.func = some 5 by kernel_rfl).symm.trans hf) |>.symm
  obtain rfl : fn = Tryd.f5 := (Option.some.inj (Tryd.func5.symm.trans hfn)).symm
  refine ⟨by kernel_rfl, fun j t ht => ?_⟩
  rw [Tryd.params5] at ht
  have hm := Array.mem_of_getElem? ht
  simp only [List.mem_toArray, List.mem_cons, List.not_mem_nil, or_false] at hm
  rcases hm with rfl
  · exact (show Tryd.prog.wantsStandIn 22 = false by kernel_rfl)
theorem watch_sums_holds : Rows.WatchSumsCardSaid :=
  Claim7.holds_tied_plain_at .later [] _ _ _ _ watch_sums_said (fun _ h => by cases h) (by kernel_rfl) (fun _ h => by cases h) watchSums_row_tie rfl ⟨rfl, rfl⟩ (by kernel_rfl) rfl watch_sums_plain (by kernel_rfl)
end
end Go.Proofs.YtfohdnclpbipeaaDoor
