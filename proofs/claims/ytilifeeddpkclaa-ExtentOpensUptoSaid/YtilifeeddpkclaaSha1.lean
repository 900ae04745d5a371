import Derived.Test.YtilifeeddpkclaaBase
import Derived.Test.YtilifeeddpkclaaSha0
namespace Go.Proofs.Ytilifeeddpkclaa
open Go Go.SL
attribute [local irreducible] J JL JE JM LS Y Fc RV Code.wp wpList Code.wpIn wpListIn
variable (E : World)
theorem shaTurn_spec (x : BitVec 32) (k : Nat) (hk : k ≤ 32) (l : List HProp) : Fc prog E 110 [W x, .int .i64 (k : Int)].toArray l (fun v l' => v = W (rotr x k) ∧ l' = l) := by
  refine Fc.of_body (c := ?c) Try.func110 ?hb Try.ntmps110 ?hl ?_
  case hb => exact rfl
  case hl => exact rfl
  refine J.seq ?_
  refine J.region ?_
  refine JL.step (y_assign rfl) rfl rfl rfl ?_
  refine JL.nil ?_
  refine JE.then_normal ?_
  refine J.seq ?_
  refine J.draw _ _ [(0, .q), (1, .q), (2, .q), (3, .q), (4, .q), (5, .q), (6, .q), (7, .q), (8, .q)] mixed (by kernel_rfl) (Split.nil) ?_
  refine JM.quiet rfl rfl rfl rfl (fun m => y_move rfl) ?_
  refine JM.quiet rfl rfl rfl rfl (fun m => y_move rfl) ?_
  refine JM.quiet rfl rfl rfl rfl (fun m => (by first | exact y_shrW rfl rfl (by (first | omega | exact Nat.le_of_ble_eq_true rfl | decide | (simp; omega))) (by (first | omega | exact Nat.le_of_ble_eq_true rfl | decide | (simp; omega))) | exact y_shr rfl rfl (by (first | omega | exact Nat.le_of_ble_eq_true rfl | decide | (simp; omega))) (by rfl))) ?_
  refine JM.quiet rfl rfl rfl rfl (fun m => y_move rfl) ?_
  refine JM.quiet rfl rfl rfl rfl (fun m => y_move rfl) ?_
  refine JM.quiet rfl rfl rfl rfl (fun m => y_sub (m := ((32 - k : Nat) : Int)) rfl rfl (by rw [show (32 : Int) - k = ((32 - k : Nat) : Int) by omega]; exact wrap_i64 (by omega) (by omega))) ?_
  refine JM.quiet rfl rfl rfl rfl (fun m => (by first | exact y_shlW rfl rfl (by (first | omega | exact Nat.le_of_ble_eq_true rfl | decide | (simp; omega))) (by (first | omega | exact Nat.le_of_ble_eq_true rfl | decide | (simp; omega))) | exact y_shl rfl rfl (by (first | omega | exact Nat.le_of_ble_eq_true rfl | decide | (simp; omega))) (by rfl))) ?_
  refine JM.quiet rfl rfl rfl rfl (fun m => (by first | exact y_orW rfl rfl | exact y_bits rfl rfl (by rfl))) ?_
  refine JM.quiet rfl rfl rfl rfl (fun m => y_assign rfl) ?_
  refine JM.nil ?_
  refine JE.then_normal ?_
  refine J.ret ?_
  refine JE.ret1 (.inl rfl) rfl rfl (by (first | exact RV.tmp rfl | exact RV.cell1 hT rfl rfl rfl (by (exact Rd1.row (by (repeat (first | exact Pick.head | apply Pick.tail | apply Pick.app))) (by rfl))) | exact RV.cellN hT rfl rfl rfl (by (first | exact RdN.rowAll (by (repeat (first | exact Pick.head | apply Pick.tail | apply Pick.app))) | exact RdN.own (by (repeat (first | exact Pick.head | apply Pick.tail | apply Pick.app))))) (by (first | rfl | assumption | (simp; done) | omega)))) ?_
  exact ⟨rfl, rfl⟩
theorem shaWords_spec (s : ByteArray) (hs : ∀ i, i < s.size → (s.data.getD i 0).toNat < 128) (hn : s.size ≤ 1000000) (l : List HProp) :
    Fc prog E 106 [.string s].toArray l (fun v l' => ∃ a c, v = .slice a ((s.size + 7) / 8) c ∧ l' = own 145 1 v ((s.size + 7) / 8) ((wordsTo s s.size).map W) :: l) := by
  refine Fc.post ?_
  have hget : ∀ p (h : p < s.size), s[p]'h = s.data.getD p 0 := fun p h => by
    have h2 : p < s.data.size := h
    show s.data[p] = _
    simp [Array.getD]
    exact fun h3 => absurd h (by omega)
  refine Fc.of_body (c := ?c) Try.func106 ?hb Try.ntmps106 ?hl ?_
  case hb => exact rfl
  case hl => exact rfl
  refine J.seq ?_
  refine J.region ?_
  refine JL.step (y_assign rfl) rfl rfl rfl ?_
  refine JL.nil ?_
  refine JE.then_normal ?_
  refine J.seq ?_
  refine J.region ?_
  refine JL.step (y_assign rfl) rfl rfl rfl ?_
  refine JL.nil ?_
  refine JE.then_normal ?_
  refine J.seq ?_
  refine J.seq ?_
  refine J.region ?_
  refine JL.step (y_move rfl) rfl rfl rfl ?_
  refine JL.loud rfl (l_range hT rfl rfl rfl rfl (fun bi => ?_))
  refine JL.nil ?_
  refine JE.then_normal ?_
  refine J.block ?_
  refine J.loop (α := Nat × Value) (fun q => q.1 ≤ s.size ∧ ∃ a c, q.2 = .slice a ((q.1 + 7) / 8) c) (fun q => [(3, q.2), (8, .pointer (some ⟨bi, 0, none⟩))]) (fun q => own 145 1 q.2 ((q.1 + 7) / 8) ((wordsTo s q.1).map W) :: blk bi (.stringIter s q.1) :: l) (fun q => s.size - q.1) (0, .slice none 0 0) ⟨by simp, none, 0, rfl⟩ ⟨rfl, rfl, trivial⟩ (fun w h => h.own_nil) ?_
  rintro ⟨j, v⟩ ⟨hj, hv⟩
  dsimp only at hj hv ⊢
  refine J.seq ?_
  refine J.region ?_
  refine JL.loud rfl (l_next rfl (by (repeat (first | exact Pick.head | apply Pick.tail | apply Pick.app))) rfl (fun hlt => ⟨by rw [hget j hlt]; exact hs j hlt, ?_⟩) (fun hge => ?_))
  all_goals (refine JL.step (y_extract rfl rfl) rfl rfl rfl ?_)
  all_goals refine JL.nil ?_
  all_goals refine JE.then_normal ?_
  all_goals
    refine J.seq ?_
    first | apply J.cond_dec rfl | apply J.cond rfl
    case' ht =>
      intro h
      try (first | (exfalso; omega) | (cases h; done) | (exfalso; simp at h; done) | subst h)
      all_goals
        refine J.skip ?_
    case' hf =>
      intro h
      try (first | (exfalso; omega) | (cases h; done) | (exfalso; simp at h; done) | subst h)
      all_goals
        refine J.exit ?_
        refine JE.then_exit ?_
        refine JE.then_exit ?_
        refine JE.block_exit ?_
        refine JE.then_normal ?_
        refine J.seq ?_
        refine J.region ?_
        refine JL.step (y_move rfl) rfl rfl rfl (JL.step (y_assign rfl) rfl rfl rfl ?_)
        refine JL.nil ?_
        refine JE.then_normal ?_
        refine J.ret ?_
        refine JE.ret1 (.inl rfl) rfl rfl (by (first | exact RV.tmp rfl | exact RV.cell1 hT rfl rfl rfl (by (exact Rd1.row (by (repeat (first | exact Pick.head | apply Pick.tail | apply Pick.app))) (by rfl))) | exact RV.cellN hT rfl rfl rfl (by (first | exact RdN.rowAll (by (repeat (first | exact Pick.head | apply Pick.tail | apply Pick.app))) | exact RdN.own (by (repeat (first | exact Pick.head | apply Pick.tail | apply Pick.app))))) (by (first | rfl | assumption | (simp; done) | omega)))) ?_
        obtain ⟨a, c, rfl⟩ := hv
        obtain rfl : j = s.size := by omega
        exact ⟨_, fun w q => q.sup (by (repeat (first | exact Sup.refl | apply Sup.cons (by (repeat (first | exact Pick.head | apply Pick.tail | apply Pick.app))) | apply Sup.app | apply Sup.skip | apply Sup.skips))), a, c, rfl, rfl⟩
    all_goals refine JE.then_normal ?_
    all_goals
      refine J.block ?_
      refine J.seq ?_
      refine J.region ?_
      refine JL.step (y_extract rfl rfl) rfl rfl rfl (JL.step (y_extract rfl rfl) rfl rfl rfl (JL.step (y_assign rfl) rfl rfl rfl (JL.step (y_assign rfl) rfl rfl rfl ?_)))
      refine JL.nil ?_
      refine JE.then_normal ?_
      refine J.seq ?_
      refine J.seq ?_
      refine J.region ?_
      refine JL.step (y_move rfl) rfl rfl rfl ?_
      all_goals (refine JL.step (y_rem rfl rfl (by decide) (show ((j : Nat) : Int).tmod 8 = ((j % 8 : Nat) : Int) from by rw [Int.tmod_eq_emod_of_nonneg (by omega)]; omega)) rfl rfl rfl ?_)
      refine JL.step (y_eql rfl rfl) rfl rfl rfl ?_
      refine JL.nil ?_
      refine JE.then_normal ?_
      first | apply J.cond_dec rfl | apply J.cond rfl
      case' ht =>
        intro h
        try (first | (exfalso; omega) | (cases h; done) | (exfalso; simp at h; done) | subst h)
        all_goals
          refine J.region ?_
          refine JL.step (y_move rfl) rfl rfl rfl ?_
          refine JL.loud rfl (l_buildSliceP hT rfl rfl rfl rfl rfl rfl rfl (by (first | exact fill_one rfl (by first | assumption | rfl | (simp; done)) | rfl | simp)) rfl (fun b1 => ?_))
          refine JL.loud rfl (l_append hT rfl rfl rfl rfl rfl rfl rfl rfl (by (repeat (first | exact Pick.head | apply Pick.tail | apply Pick.app))) (by (first | exact RdN.rowAll (by (repeat (first | exact Pick.head | apply Pick.tail | apply Pick.app))) | exact RdN.own (by (repeat (first | exact Pick.head | apply Pick.tail | apply Pick.app))))) (by (first | rfl | assumption | (simp; done) | omega)) (by (first | assumption | exact ones_of rfl | exact encW_one _ | exact encB_one _ | (intro u hu; simp at hu; rcases hu with rfl | rfl <;> rfl) | (intro u hu; simp at hu; subst hu; rfl) | simp)) (by (exact Nat.le_trans (Nat.mul_le_mul_left _ (Nat.le_of_ble_eq_true rfl : _ ≤ 4096)) (by omega))) (by (first | omega | exact Nat.le_of_ble_eq_true rfl | decide | (simp; omega))) rfl (fun ab2 cb2 hb2 => ?_))
          refine JL.step (y_assign rfl) rfl rfl rfl ?_
          refine JL.nil ?_
      case' hf =>
        intro h
        try (first | (exfalso; omega) | (cases h; done) | (exfalso; simp at h; done) | subst h)
        all_goals
          refine J.skip ?_
      all_goals refine JE.then_normal ?_
      all_goals
        refine J.seq ?_
        obtain ⟨a0, c0, hv0⟩ := hv
        have hwl := wordsTo_length s j
        have hQ : ∃ Q, Q = (if j % 8 = 0 then wordsTo s j ++ [0#32] else wordsTo s j) := ⟨_, rfl⟩
        obtain ⟨Q, hQ⟩ := hQ
        have hQl : Q.length = (j + 8) / 8 := by
          rw [hQ]
          split
          · rw [List.length_append, hwl]; simp; omega
          · rw [hwl]; omega
        first
          | (have hj8 : j % 8 = 0 := by omega
             rw [if_pos hj8] at hQ
             rw [show (j + 7) / 8 + 1 = (j + 8) / 8 by omega, show (wordsTo s j).map W ++ [Value.int .u32 0] = Q.map W by rw [hQ, List.map_append]; rfl])
          | (have hj8 : ¬ j % 8 = 0 := by omega
             rw [if_neg hj8] at hQ
             subst hv0
             rw [show (j + 7) / 8 = (j + 8) / 8 by omega, ← hQ])
        refine J.region ?_
        refine JL.step (y_move rfl) rfl rfl rfl ?_
        refine JL.step (y_sub rfl rfl (by (first | exact wrap_i64 (by omega) (by omega) | rfl))) rfl rfl rfl ?_
        refine JL.step ((by first | exact y_convToW hT rfl rfl rfl rfl | exact y_conv hT rfl rfl rfl rfl (by (first | exact wrap_i64 (by omega) (by omega) | rfl)))) rfl rfl rfl ?_
        refine JL.step (y_assign rfl) rfl rfl rfl ?_
        refine JL.nil ?_
        refine JE.then_normal ?_
        refine J.seq ?_
        refine J.seq ?_
        refine J.region ?_
        refine JL.step (y_move rfl) rfl rfl rfl (JL.step (y_geq rfl rfl) rfl rfl rfl ?_)
        refine JL.nil ?_
        refine JE.then_normal ?_
        first | apply J.cond_dec rfl | apply J.cond rfl
        case' ht =>
          intro h
          try (first | (exfalso; omega) | (cases h; done) | (exfalso; simp at h; done) | subst h)
          all_goals
            refine J.region ?_
            refine JL.step (y_move rfl) rfl rfl rfl ?_
            refine JL.step (y_sub rfl rfl (by (first | exact wrap_i64 (by omega) (by omega) | rfl))) rfl rfl rfl ?_
            refine JL.step ((by first | exact y_convToW hT rfl rfl rfl rfl | exact y_conv hT rfl rfl rfl rfl (by (first | exact wrap_i64 (by omega) (by omega) | rfl)))) rfl rfl rfl ?_
            refine JL.step (y_addW (b := 10#32) rfl rfl) rfl rfl rfl ?_
            refine JL.step (y_assign rfl) rfl rfl rfl ?_
            refine JL.nil ?_
        case' hf =>
          intro h
          try (first | (exfalso; omega) | (cases h; done) | (exfalso; simp at h; done) | subst h)
          all_goals
            refine J.skip ?_
        all_goals refine JE.then_normal ?_
        all_goals
          refine J.fact (fun w q => Sat.own_at (k := (j + 8) / 8) (q.pick (by (repeat (first | exact Pick.head | apply Pick.tail | apply Pick.app))))) fun oq => ?_
          obtain ⟨gq, hgq⟩ := oq.at_.resolve_right (fun ⟨h0, _⟩ => by have := oq.le; omega)
          cases hgq
          have hq : IntKind.i64.wrap ((j : Int).tdiv 8) = ((j / 8 : Nat) : Int) := by
            rw [show (j : Int).tdiv 8 = ((j / 8 : Nat) : Int) by rw [Int.tdiv_eq_ediv_of_nonneg (by omega)]; omega]
            exact wrap_i64 (by omega) (by omega)
          have hQj : (Q.map W)[j / 8]? = some (W (Q.getD (j / 8) 0)) := by
            rw [List.getElem?_map, List.getD_eq_getElem?_getD, List.getElem?_eq_getElem (by omega)]; rfl
          refine J.region ?_
          refine JL.step (y_move rfl) rfl rfl rfl (JL.step (y_move rfl) rfl rfl rfl ?_)
          refine JL.step (y_quo rfl rfl (by decide) hq) rfl rfl rfl ?_
          refine JL.step (y_move rfl) rfl rfl rfl (JL.step (y_move rfl) rfl rfl rfl ?_)
          refine JL.step (y_quo rfl rfl (by decide) hq) rfl rfl rfl ?_
          refine JL.step (y_indexAddr_slice hT rfl rfl rfl rfl rfl (by (first | omega | exact Nat.le_of_ble_eq_true rfl | decide | (simp; omega))) (by (first | omega | exact Nat.le_of_ble_eq_true rfl | decide | (simp; omega)))) rfl rfl rfl ?_
          refine JL.step (y_load1 hT rfl rfl rfl (Rd1.elem (RdN.own (by (repeat (first | exact Pick.head | apply Pick.tail | apply Pick.app)))) hQj)) rfl rfl rfl ?_
          refine JL.step ((by first | exact y_shlW rfl rfl (by (first | omega | exact Nat.le_of_ble_eq_true rfl | decide | (simp; omega))) (by (first | omega | exact Nat.le_of_ble_eq_true rfl | decide | (simp; omega))) | exact y_shl rfl rfl (by (first | omega | exact Nat.le_of_ble_eq_true rfl | decide | (simp; omega))) (by rfl))) rfl rfl rfl ?_
          refine JL.step (y_move rfl) rfl rfl rfl ?_
          refine JL.step ((by first | exact y_orW rfl rfl | exact y_bits rfl rfl (by rfl))) rfl rfl rfl ?_
          refine JL.step (y_indexAddr_slice hT rfl rfl rfl rfl rfl (by (first | omega | exact Nat.le_of_ble_eq_true rfl | decide | (simp; omega))) (by (first | omega | exact Nat.le_of_ble_eq_true rfl | decide | (simp; omega)))) rfl rfl rfl ?_
          refine JL.loud rfl (l_storeOwn1 hT rfl rfl rfl rfl rfl (by (repeat (first | exact Pick.head | apply Pick.tail | apply Pick.app))) (show 0 + ((j / 8 : Nat) : Int).toNat * i145.size < (Q.map W).length by rw [List.length_map, hQl, show i145.size = 1 from rfl]; omega) ?_)
          refine JL.nil ?_
      all_goals refine JE.block_normal ?_
  all_goals
    first
      | refine JE.round (s := (j, v)) (j + 1, _) ⟨by dsimp only; omega, _, _, rfl⟩ ⟨rfl, rfl, trivial⟩ (fun w q => ?_) (by dsimp only; omega)
      | refine JE.round (s := (j, Value.slice (some ⟨gq, 0, none⟩) ((j + 7) / 8) c0)) (j + 1, _) ⟨by dsimp only; omega, _, _, rfl⟩ ⟨rfl, rfl, trivial⟩ (fun w q => ?_) (by dsimp only; omega)
    have e : wordsTo s (j + 1) = Q.set (j / 8) (Q.getD (j / 8) 0 <<< 4 ||| digit (s[j]'(by assumption)).toNat) := by
      rw [hget j (by assumption), hQ]
      show wordsStep (wordsTo s j) j (s.data.getD j 0).toNat = _
      unfold wordsStep
      simp only [hj8, if_true, if_false]
    dsimp only
    rw [e, show (j + 1 + 7) / 8 = (j + 8) / 8 by omega, List.map_set]
    rw [show 0 + ((j / 8 : Nat) : Int).toNat * i145.size = j / 8 by rw [show i145.size = 1 from rfl]; omega] at q
    unfold digit
    first
      | (rw [if_pos (by assumption)]; exact q.sup (by (repeat (first | exact Sup.refl | apply Sup.cons (by (repeat (first | exact Pick.head | apply Pick.tail | apply Pick.app))) | apply Sup.app | apply Sup.skip | apply Sup.skips))))
      | (rw [if_neg (by assumption)]; exact q.sup (by (repeat (first | exact Sup.refl | apply Sup.cons (by (repeat (first | exact Pick.head | apply Pick.tail | apply Pick.app))) | apply Sup.app | apply Sup.skip | apply Sup.skips))))
end Go.Proofs.Ytilifeeddpkclaa
