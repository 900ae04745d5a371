import Derived.Test.YtilifeeddpkclaaRef10b
import Derived.Test.YtilifeeddpkclaaLaw2
import Derived.Test.YtilifeeddpkclaaDisk5
namespace Go.Proofs.Ytilifeeddpkclaa
open Go Go.SL
attribute [local irreducible] J JL JE JM LS Y Fc RV Code.wp wpList Code.wpIn wpListIn
attribute [local irreducible] Yc
variable (E : World)
/-- What an op does by the document. -/
def Rk.opd (k : Rk) (o : OpA) : Rk × Blk × Int :=
  if o.k = 0 then (k, k.read o.at_) else if o.k = 1 then ((k.write o.at_ (blockOf o.fill)).1, zeroB, (k.write o.at_ (blockOf o.fill)).2)
  else if o.k = 2 then (k.sync.1, zeroB, k.sync.2) else if o.k = 3 then ((k.arm o.at_).1, zeroB, (k.arm o.at_).2) else (k.crash o.bits, zeroB, 0)
section
variable {k : Rk} {o : OpA}
theorem Rk.opd0 (h : o.k = 0) : k.opd o = (k, k.read o.at_) := by simp [Rk.opd, h]
theorem Rk.opd1 (h : o.k = 1) : k.opd o = ((k.write o.at_ (blockOf o.fill)).1, zeroB, (k.write o.at_ (blockOf o.fill)).2) := by simp [Rk.opd, h]
theorem Rk.opd2 (h : o.k = 2) : k.opd o = (k.sync.1, zeroB, k.sync.2) := by simp [Rk.opd, h]
theorem Rk.opd3 (h : o.k = 3) : k.opd o = ((k.arm o.at_).1, zeroB, (k.arm o.at_).2) := by simp [Rk.opd, h]
theorem Rk.opd4 (h : o.k = 4) : k.opd o = (k.crash o.bits, zeroB, 0) := by simp [Rk.opd, h]
end
theorem Rk.read_length {k : Rk} (h : k.Ok) (i : Int) : (k.read i).1.length = 64 := by
  unfold Rk.read
  split
  · rfl
  · split
    · rfl
    · refine lastW_len (fun p hp => (h.pend p hp).1) ?_
      rename_i h1
      rw [List.getD_eq_getElem?_getD, List.getElem?_eq_getElem (by omega)]
      exact h.safe _ (List.getElem_mem _)
theorem Rv.In.arm {x : Rv} {l : List HProp} (h : x.In l) {n : Int} (hn : -9223372036854775808 ≤ n ∧ n ≤ 9223372036854775807) : Rv.In { x with k := (x.k.arm n).1 } l := by
  unfold Rk.arm
  split
  · exact h
  · exact ⟨⟨h.ok.safe, h.ok.pend, h.ok.most, by dsimp only; omega⟩, h.safe, h.pend⟩
theorem want_spec (x : Rv) (o : OpA) (l : List HProp) (hx : x.In l) (ho : o.Ok l) (hn : x.k.pending.length ≤ 1000000) :
    Fc prog E 24 [.agg (encR x).toArray, .agg (encO o).toArray].toArray l (fun v l' => ∃ x' g, v = .tuple #[.agg (encR x').toArray, .agg (encB (x.k.opd o).2.1).toArray, .int .i64 (x.k.opd o).2.2] ∧ x'.k = (x.k.opd o).1 ∧ l' = g ++ l ∧ ∀ m, x.In m → x'.In (g ++ m)) := by
  refine Fc.post ?_
  have hkr := o.k_range
  have hrl : (encB (x.k.read o.at_).1).length = 64 := (encB_length _).trans (Rk.read_length hx.ok _)
  have hoi := ho.inl
  refine Fc.of_body (c := ?c) Try.func24 ?hb Try.ntmps24 ?hl ?_
  case hb => exact rfl
  case hl => exact rfl
  refine J.seq ?_
  refine J.region ?_
  refine JL.loud rfl (l_box rfl (by (first | rfl | simp)) rfl (fun b1 => ?_))
  refine JL.loud rfl (l_box rfl (by (first | rfl | simp)) rfl (fun b2 => ?_))
  refine JL.loud rfl (l_alloc hT rfl rfl (by (first | rfl | simp)) rfl (fun b3 => ?_))
  refine JL.loud rfl (l_alloc hT rfl rfl (by (first | rfl | simp)) rfl (fun b4 => ?_))
  refine JL.step (y_assign rfl) rfl rfl rfl ?_
  refine JL.nil ?_
  refine JE.then_normal ?_
  refine J.seq ?_
  refine J.region ?_
  refine JL.step (y_assign rfl) rfl rfl rfl ?_
  refine JL.nil ?_
  refine JE.then_normal ?_
  refine J.seq ?_
  refine J.seq ?_
  refine J.region ?_
  refine JL.step (y_loadN hT rfl rfl rfl (by (first | exact RdN.rowAll (by (repeat (first | exact Pick.head | apply Pick.tail | apply Pick.app))) | exact RdN.own (by (repeat (first | exact Pick.head | apply Pick.tail | apply Pick.app))))) (by (first | rfl | assumption | (simp; done) | omega))) rfl rfl rfl ?_
  refine JL.loud rfl (l_callF e18 rfl rfl (kind_spec E o _) ?_)
  rintro _ _ ⟨rfl, rfl⟩
  refine JL.nil ?_
  refine JE.then_normal ?_
  refine J.block ?_
  refine J.seq ?_
  refine J.region ?_
  refine JL.step (y_eql rfl rfl) rfl rfl rfl (JL.step (y_assign rfl) rfl rfl rfl ?_)
  refine JL.nil ?_
  refine JE.then_normal ?_
  first | apply J.cond_dec rfl | apply J.cond rfl
  case' ht =>
    intro h
    try (first | (exfalso; omega) | (cases h; done) | (exfalso; simp at h; done) | subst h)
    all_goals
      refine J.seq ?_
      refine J.region ?_
      refine JL.step (y_loadN hT rfl rfl rfl (by (first | exact RdN.rowAll (by (repeat (first | exact Pick.head | apply Pick.tail | apply Pick.app))) | exact RdN.own (by (repeat (first | exact Pick.head | apply Pick.tail | apply Pick.app))))) (by (first | rfl | assumption | (simp; done) | omega))) rfl rfl rfl ?_
      refine JL.step (y_fieldAddr hT rfl rfl rfl rfl rfl rfl) rfl rfl rfl ?_
      refine JL.step (y_load1 hT rfl rfl rfl (by (exact Rd1.row (by (repeat (first | exact Pick.head | apply Pick.tail | apply Pick.app))) (by rfl)))) rfl rfl rfl ?_
      refine JL.loud rfl (l_callF e28 rfl rfl (rread_spec E x o.at_ _ (by (repeat (first | assumption | apply Rv.In.cons | apply Rv.In.app))) hn) ?_)
      rintro _ _ ⟨rfl, rfl⟩
      refine JL.step (y_move rfl) rfl rfl rfl (JL.step (y_extract rfl rfl) rfl rfl rfl (JL.step (y_extract rfl rfl) rfl rfl rfl ?_))
      refine JL.loud rfl (l_alloc hT rfl rfl (by (first | rfl | simp)) rfl (fun b7 => ?_))
      refine JL.loud rfl (l_storeAll hT rfl rfl rfl (by (first | rfl | assumption | (simp; done) | omega)) (by (first | assumption | exact ones_of rfl | exact encW_one _ | exact encB_one _ | (intro u hu; simp at hu; rcases hu with rfl | rfl <;> rfl) | (intro u hu; simp at hu; subst hu; rfl) | simp)) (by (repeat (first | exact Pick.head | apply Pick.tail | apply Pick.app))) (by (first | rfl | assumption | (simp; done) | omega)) ?_)
      refine JL.step (y_assign rfl) rfl rfl rfl ?_
      refine JL.nil ?_
      refine JE.then_normal ?_
      refine J.seq ?_
      refine J.draw _ _ [(0, .q), (1, .q), (2, .q), (3, .l), (4, .l), (5, .q)] mixed (by kernel_rfl) (Split.cons (Pick.tail Pick.head) (Split.cons (Pick.tail Pick.head) (Split.nil))) ?_
      refine JM.quiet rfl rfl rfl rfl (fun m => y_loadN hT rfl rfl rfl (by (first | exact RdN.rowAll (Pick.app m (by (repeat (first | exact Pick.head | apply Pick.tail | apply Pick.app)))) | exact RdN.own (Pick.app m (by (repeat (first | exact Pick.head | apply Pick.tail | apply Pick.app)))))) (by (first | rfl | assumption | (simp; done) | omega))) ?_
      refine JM.quiet rfl rfl rfl rfl (fun m => y_loadN hT rfl rfl rfl (by (first | exact RdN.rowAll (Pick.app m (by (repeat (first | exact Pick.head | apply Pick.tail | apply Pick.app)))) | exact RdN.own (Pick.app m (by (repeat (first | exact Pick.head | apply Pick.tail | apply Pick.app)))))) (by (first | rfl | assumption | (simp; done) | omega))) ?_
      refine JM.quiet rfl rfl rfl rfl (fun m => y_move rfl) ?_
      refine JM.loud rfl rfl (fun fr => l_storeAll hT rfl rfl rfl (by (first | rfl | assumption | (simp; done) | omega)) (by (first | assumption | exact ones_of rfl | exact encW_one _ | exact encB_one _ | (intro u hu; simp at hu; rcases hu with rfl | rfl <;> rfl) | (intro u hu; simp at hu; subst hu; rfl) | simp)) (by (repeat (first | exact Pick.head | apply Pick.tail | apply Pick.app))) (by (first | rfl | assumption | (simp; done) | omega)) (⟨[_, _], (by (repeat (first | exact Split.nil | exact Split.all | refine Split.cons Pick.head ?_))), ?_⟩))
      refine JM.loud rfl rfl (fun fr => l_storeAll hT rfl rfl rfl (by (first | rfl | assumption | (simp; done) | omega)) (by (first | assumption | exact ones_of rfl | exact encW_one _ | exact encB_one _ | (intro u hu; simp at hu; rcases hu with rfl | rfl <;> rfl) | (intro u hu; simp at hu; subst hu; rfl) | simp)) (by (repeat (first | exact Pick.head | apply Pick.tail | apply Pick.app))) (by (first | rfl | assumption | (simp; done) | omega)) (⟨[_, _], (by (repeat (first | exact Split.nil | exact Split.all | refine Split.cons Pick.head ?_))), ?_⟩))
      refine JM.quiet rfl rfl rfl rfl (fun m => y_assign rfl) ?_
      refine JM.nil ?_
      refine JE.then_normal ?_
      refine J.ret ?_
      refine JE.block_ret ?_
      refine JE.then_ret ?_
      refine JE.ret3 (.inl rfl) rfl rfl (by (first | exact RV.tmp rfl | exact RV.cell1 hT rfl rfl rfl (by (exact Rd1.row (by (repeat (first | exact Pick.head | apply Pick.tail | apply Pick.app))) (by rfl))) | exact RV.cellN hT rfl rfl rfl (by (first | exact RdN.rowAll (by (repeat (first | exact Pick.head | apply Pick.tail | apply Pick.app))) | exact RdN.own (by (repeat (first | exact Pick.head | apply Pick.tail | apply Pick.app))))) (by (first | rfl | assumption | (simp; done) | omega)))) (by (first | exact RV.tmp rfl | exact RV.cell1 hT rfl rfl rfl (by (exact Rd1.row (by (repeat (first | exact Pick.head | apply Pick.tail | apply Pick.app))) (by rfl))) | exact RV.cellN hT rfl rfl rfl (by (first | exact RdN.rowAll (by (repeat (first | exact Pick.head | apply Pick.tail | apply Pick.app))) | exact RdN.own (by (repeat (first | exact Pick.head | apply Pick.tail | apply Pick.app))))) (by (first | rfl | assumption | (simp; done) | omega)))) (by (first | exact RV.tmp rfl | exact RV.cell1 hT rfl rfl rfl (by (exact Rd1.row (by (repeat (first | exact Pick.head | apply Pick.tail | apply Pick.app))) (by rfl))) | exact RV.cellN hT rfl rfl rfl (by (first | exact RdN.rowAll (by (repeat (first | exact Pick.head | apply Pick.tail | apply Pick.app))) | exact RdN.own (by (repeat (first | exact Pick.head | apply Pick.tail | apply Pick.app))))) (by (first | rfl | assumption | (simp; done) | omega)))) ?_
      first
        | (rw [Rk.opd0 (by assumption)]; exact ⟨l, fun w q => q.sup (by (repeat (first | exact Sup.refl | apply Sup.cons (by (repeat (first | exact Pick.head | apply Pick.tail | apply Pick.app))) | apply Sup.app | apply Sup.skip | apply Sup.skips))), x, [], rfl, rfl, rfl, fun m hm => hm⟩)
        | (rw [Rk.opd1 (by assumption)]; exact ⟨g ++ l, fun w q => q.sup (by (repeat (first | exact Sup.refl | apply Sup.cons (by (repeat (first | exact Pick.head | apply Pick.tail | apply Pick.app))) | apply Sup.app | apply Sup.skip | apply Sup.skips))), x', g, rfl, hk, rfl, hxi⟩)
        | (rw [Rk.opd2 (by assumption)]; exact ⟨g ++ l, fun w q => q.sup (by (repeat (first | exact Sup.refl | apply Sup.cons (by (repeat (first | exact Pick.head | apply Pick.tail | apply Pick.app))) | apply Sup.app | apply Sup.skip | apply Sup.skips))), x', g, rfl, hk, rfl, hxi⟩)
        | (rw [Rk.opd3 (by assumption)]; exact ⟨l, fun w q => q.sup (by (repeat (first | exact Sup.refl | apply Sup.cons (by (repeat (first | exact Pick.head | apply Pick.tail | apply Pick.app))) | apply Sup.app | apply Sup.skip | apply Sup.skips))), { x with k := (x.k.arm o.at_).1 }, [], rfl, rfl, rfl, fun m hm => hm.arm ho.at_⟩)
        | (rw [Rk.opd4 (by omega)]; exact ⟨g ++ l, fun w q => q.sup (by (repeat (first | exact Sup.refl | apply Sup.cons (by (repeat (first | exact Pick.head | apply Pick.tail | apply Pick.app))) | apply Sup.app | apply Sup.skip | apply Sup.skips))), x', g, rfl, hk, rfl, fun m _ => hxi m⟩)
  case' hf =>
    intro h
    try (first | (exfalso; omega) | (cases h; done) | (exfalso; simp at h; done) | subst h)
    all_goals
      refine J.seq ?_
      refine J.region ?_
      refine JL.step (y_eql rfl rfl) rfl rfl rfl (JL.step (y_assign rfl) rfl rfl rfl ?_)
      refine JL.nil ?_
      refine JE.then_normal ?_
      first | apply J.cond_dec rfl | apply J.cond rfl
      case' ht =>
        intro h
        try (first | (exfalso; omega) | (cases h; done) | (exfalso; simp at h; done) | subst h)
        all_goals
          refine J.draw _ _ [(1, .q), (2, .q), (3, .q), (4, .q), (5, .q), (0, .l), (6, .l), (7, .q), (8, .q), (9, .q), (10, .l), (11, .q)] mixed (by kernel_rfl) (Split.cons (Pick.tail (Pick.tail (Pick.tail Pick.head))) (Split.nil)) ?_
          refine JM.quiet rfl rfl rfl rfl (fun m => y_fieldAddr hT rfl rfl rfl rfl rfl rfl) ?_
          refine JM.quiet rfl rfl rfl rfl (fun m => y_load1 hT rfl rfl rfl (by (exact Rd1.row (Pick.app m (by (repeat (first | exact Pick.head | apply Pick.tail | apply Pick.app)))) (by rfl)))) ?_
          refine JM.quiet rfl rfl rfl rfl (fun m => y_fieldAddr hT rfl rfl rfl rfl rfl rfl) ?_
          refine JM.quiet rfl rfl rfl rfl (fun m => y_load1 hT rfl rfl rfl (by (exact Rd1.row (Pick.app m (by (repeat (first | exact Pick.head | apply Pick.tail | apply Pick.app)))) (by rfl)))) ?_
          refine JM.quiet rfl rfl rfl rfl (fun m => y_callF e19 rfl (block_spec E _ _)) ?_
          refine JM.loud rfl rfl (fun fr => LS.ofY rfl rfl (y_loadN hT rfl rfl rfl (by (first | exact RdN.rowAll (by (repeat (first | exact Pick.head | apply Pick.tail | apply Pick.app))) | exact RdN.own (by (repeat (first | exact Pick.head | apply Pick.tail | apply Pick.app))))) (by (first | rfl | assumption | (simp; done) | omega))) ⟨[_], (by (repeat (first | exact Split.nil | exact Split.all | refine Split.cons Pick.head ?_))), ?_⟩)
          refine JM.loud rfl rfl (fun fr => l_callF e57 rfl rfl (rwrite_spec E x o.at_ (blockOf o.fill) _ (by (repeat (first | assumption | apply Rv.In.cons | apply Rv.In.app))) (blockOf_length _) hn) ?_)
          rintro _ _ ⟨x', g, rfl, hk, rfl, hxi⟩
          refine ⟨_ :: g, Split.cons (Pick.app g Pick.head) Split.all, ?_⟩
          refine JM.quiet rfl rfl rfl rfl (fun m => y_move rfl) ?_
          refine JM.quiet rfl rfl rfl rfl (fun m => y_extract rfl rfl) ?_
          refine JM.quiet rfl rfl rfl rfl (fun m => y_extract rfl rfl) ?_
          refine JM.loud rfl rfl (fun fr => l_storeAll hT rfl rfl rfl rfl (ones_of rfl) (by (repeat (first | exact Pick.head | apply Pick.tail | apply Pick.app))) rfl ⟨_ :: g, Split.cons Pick.head Split.all, ?_⟩)
          refine JM.quiet rfl rfl rfl rfl (fun m => y_assign rfl) ?_
          refine JM.nil ?_
      case' hf =>
        intro h
        try (first | (exfalso; omega) | (cases h; done) | (exfalso; simp at h; done) | subst h)
        all_goals
          refine J.seq ?_
          refine J.region ?_
          refine JL.step (y_eql rfl rfl) rfl rfl rfl (JL.step (y_assign rfl) rfl rfl rfl ?_)
          refine JL.nil ?_
          refine JE.then_normal ?_
          first | apply J.cond_dec rfl | apply J.cond rfl
          case' ht =>
            intro h
            try (first | (exfalso; omega) | (cases h; done) | (exfalso; simp at h; done) | subst h)
            all_goals
              refine J.region ?_
              refine JL.step (y_loadN hT rfl rfl rfl (by (first | exact RdN.rowAll (by (repeat (first | exact Pick.head | apply Pick.tail | apply Pick.app))) | exact RdN.own (by (repeat (first | exact Pick.head | apply Pick.tail | apply Pick.app))))) (by (first | rfl | assumption | (simp; done) | omega))) rfl rfl rfl ?_
              refine JL.loud rfl (l_callF e58 rfl rfl (rsync_spec E x _ (by (repeat (first | assumption | apply Rv.In.cons | apply Rv.In.app))) hn) ?_)
              rintro _ _ ⟨x', g, rfl, hk, rfl, hxi⟩
              refine JL.step (y_move rfl) rfl rfl rfl (JL.step (y_extract rfl rfl) rfl rfl rfl (JL.step (y_extract rfl rfl) rfl rfl rfl ?_))
              refine JL.loud rfl (l_storeAll hT rfl rfl rfl (by (first | rfl | assumption | (simp; done) | omega)) (by (first | assumption | exact ones_of rfl | exact encW_one _ | exact encB_one _ | (intro u hu; simp at hu; rcases hu with rfl | rfl <;> rfl) | (intro u hu; simp at hu; subst hu; rfl) | simp)) (by (repeat (first | exact Pick.head | apply Pick.tail | apply Pick.app))) (by (first | rfl | assumption | (simp; done) | omega)) ?_)
              refine JL.step (y_assign rfl) rfl rfl rfl ?_
              refine JL.nil ?_
          case' hf =>
            intro h
            try (first | (exfalso; omega) | (cases h; done) | (exfalso; simp at h; done) | subst h)
            all_goals
              refine J.seq ?_
              refine J.region ?_
              refine JL.step (y_eql rfl rfl) rfl rfl rfl (JL.step (y_assign rfl) rfl rfl rfl ?_)
              refine JL.nil ?_
              refine JE.then_normal ?_
              first | apply J.cond_dec rfl | apply J.cond rfl
              case' ht =>
                intro h
                try (first | (exfalso; omega) | (cases h; done) | (exfalso; simp at h; done) | subst h)
                all_goals
                  refine J.region ?_
                  refine JL.step (y_loadN hT rfl rfl rfl (by (first | exact RdN.rowAll (by (repeat (first | exact Pick.head | apply Pick.tail | apply Pick.app))) | exact RdN.own (by (repeat (first | exact Pick.head | apply Pick.tail | apply Pick.app))))) (by (first | rfl | assumption | (simp; done) | omega))) rfl rfl rfl ?_
                  refine JL.step (y_fieldAddr hT rfl rfl rfl rfl rfl rfl) rfl rfl rfl ?_
                  refine JL.step (y_load1 hT rfl rfl rfl (by (exact Rd1.row (by (repeat (first | exact Pick.head | apply Pick.tail | apply Pick.app))) (by rfl)))) rfl rfl rfl ?_
                  refine JL.loud rfl (l_callF e59 rfl rfl (rarm_spec E x o.at_ _ (by (repeat (first | assumption | apply Rv.In.cons | apply Rv.In.app))) ho.at_) ?_)
                  rintro _ _ ⟨rfl, rfl⟩
                  refine JL.step (y_move rfl) rfl rfl rfl (JL.step (y_extract rfl rfl) rfl rfl rfl (JL.step (y_extract rfl rfl) rfl rfl rfl ?_))
                  refine JL.loud rfl (l_storeAll hT rfl rfl rfl (by (first | rfl | assumption | (simp; done) | omega)) (by (first | assumption | exact ones_of rfl | exact encW_one _ | exact encB_one _ | (intro u hu; simp at hu; rcases hu with rfl | rfl <;> rfl) | (intro u hu; simp at hu; subst hu; rfl) | simp)) (by (repeat (first | exact Pick.head | apply Pick.tail | apply Pick.app))) (by (first | rfl | assumption | (simp; done) | omega)) ?_)
                  refine JL.step (y_assign rfl) rfl rfl rfl ?_
                  refine JL.nil ?_
              case' hf =>
                intro h
                try (first | (exfalso; omega) | (cases h; done) | (exfalso; simp at h; done) | subst h)
                all_goals
                  refine J.region ?_
                  refine JL.step (y_loadN hT rfl rfl rfl (by (first | exact RdN.rowAll (by (repeat (first | exact Pick.head | apply Pick.tail | apply Pick.app))) | exact RdN.own (by (repeat (first | exact Pick.head | apply Pick.tail | apply Pick.app))))) (by (first | rfl | assumption | (simp; done) | omega))) rfl rfl rfl ?_
                  refine JL.step (y_fieldAddr hT rfl rfl rfl rfl rfl rfl) rfl rfl rfl ?_
                  refine JL.step (y_load1 hT rfl rfl rfl (by (exact Rd1.row (by (repeat (first | exact Pick.head | apply Pick.tail | apply Pick.app))) (by rfl)))) rfl rfl rfl ?_
                  refine JL.loud rfl (l_callF e60 rfl rfl (rcrash_spec E x.k x.sa x.sc x.pa x.pc o.kp o.kc o.bits _ (by (repeat (first | assumption | apply Rv.In.cons | apply Rv.In.app))) (by (repeat (first | assumption | apply InL.cons | apply InL.app))) hn) ?_)
                  rintro _ _ ⟨x', g, rfl, hk, rfl, hxi⟩
                  refine JL.loud rfl (l_storeAll hT rfl rfl rfl (by (first | rfl | assumption | (simp; done) | omega)) (by (first | assumption | exact ones_of rfl | exact encW_one _ | exact encB_one _ | (intro u hu; simp at hu; rcases hu with rfl | rfl <;> rfl) | (intro u hu; simp at hu; subst hu; rfl) | simp)) (by (repeat (first | exact Pick.head | apply Pick.tail | apply Pick.app))) (by (first | rfl | assumption | (simp; done) | omega)) ?_)
                  refine JL.nil ?_
  all_goals refine JE.block_normal ?_
  all_goals refine JE.then_normal ?_
  all_goals
    refine J.seq ?_
    refine J.region ?_
    refine JL.step (y_loadN hT rfl rfl rfl (by (first | exact RdN.rowAll (by (repeat (first | exact Pick.head | apply Pick.tail | apply Pick.app))) | exact RdN.own (by (repeat (first | exact Pick.head | apply Pick.tail | apply Pick.app))))) (by (first | rfl | assumption | (simp; done) | omega))) rfl rfl rfl ?_
    refine JL.step (y_build_arr0 hT rfl rfl rfl rfl) rfl rfl rfl (JL.step (y_move rfl) rfl rfl rfl ?_)
    refine JL.loud rfl (l_storeAll hT rfl rfl rfl (by (first | rfl | assumption | (simp; done) | omega)) (by (first | assumption | exact ones_of rfl | exact encW_one _ | exact encB_one _ | (intro u hu; simp at hu; rcases hu with rfl | rfl <;> rfl) | (intro u hu; simp at hu; subst hu; rfl) | simp)) (by (repeat (first | exact Pick.head | apply Pick.tail | apply Pick.app))) (by (first | rfl | assumption | (simp; done) | omega)) ?_)
    refine JL.loud rfl (l_storeAll hT rfl rfl rfl (by (first | rfl | assumption | (simp; done) | omega)) (by (first | assumption | exact ones_of rfl | exact encW_one _ | exact encB_one _ | (intro u hu; simp at hu; rcases hu with rfl | rfl <;> rfl) | (intro u hu; simp at hu; subst hu; rfl) | simp)) (by (repeat (first | exact Pick.head | apply Pick.tail | apply Pick.app))) (by (first | rfl | assumption | (simp; done) | omega)) ?_)
    refine JL.step (y_assign rfl) rfl rfl rfl ?_
    refine JL.nil ?_
    refine JE.then_normal ?_
    refine J.ret ?_
    refine JE.ret3 (.inl rfl) rfl rfl (by (first | exact RV.tmp rfl | exact RV.cell1 hT rfl rfl rfl (by (exact Rd1.row (by (repeat (first | exact Pick.head | apply Pick.tail | apply Pick.app))) (by rfl))) | exact RV.cellN hT rfl rfl rfl (by (first | exact RdN.rowAll (by (repeat (first | exact Pick.head | apply Pick.tail | apply Pick.app))) | exact RdN.own (by (repeat (first | exact Pick.head | apply Pick.tail | apply Pick.app))))) (by (first | rfl | assumption | (simp; done) | omega)))) (by (first | exact RV.tmp rfl | exact RV.cell1 hT rfl rfl rfl (by (exact Rd1.row (by (repeat (first | exact Pick.head | apply Pick.tail | apply Pick.app))) (by rfl))) | exact RV.cellN hT rfl rfl rfl (by (first | exact RdN.rowAll (by (repeat (first | exact Pick.head | apply Pick.tail | apply Pick.app))) | exact RdN.own (by (repeat (first | exact Pick.head | apply Pick.tail | apply Pick.app))))) (by (first | rfl | assumption | (simp; done) | omega)))) (by (first | exact RV.tmp rfl | exact RV.cell1 hT rfl rfl rfl (by (exact Rd1.row (by (repeat (first | exact Pick.head | apply Pick.tail | apply Pick.app))) (by rfl))) | exact RV.cellN hT rfl rfl rfl (by (first | exact RdN.rowAll (by (repeat (first | exact Pick.head | apply Pick.tail | apply Pick.app))) | exact RdN.own (by (repeat (first | exact Pick.head | apply Pick.tail | apply Pick.app))))) (by (first | rfl | assumption | (simp; done) | omega)))) ?_
    first
      | (rw [Rk.opd0 (by assumption)]; exact ⟨l, fun w q => q.sup (by (repeat (first | exact Sup.refl | apply Sup.cons (by (repeat (first | exact Pick.head | apply Pick.tail | apply Pick.app))) | apply Sup.app | apply Sup.skip | apply Sup.skips))), x, [], rfl, rfl, rfl, fun m hm => hm⟩)
      | (rw [Rk.opd1 (by assumption)]; exact ⟨g ++ l, fun w q => q.sup (by (repeat (first | exact Sup.refl | apply Sup.cons (by (repeat (first | exact Pick.head | apply Pick.tail | apply Pick.app))) | apply Sup.app | apply Sup.skip | apply Sup.skips))), x', g, rfl, hk, rfl, hxi⟩)
      | (rw [Rk.opd2 (by assumption)]; exact ⟨g ++ l, fun w q => q.sup (by (repeat (first | exact Sup.refl | apply Sup.cons (by (repeat (first | exact Pick.head | apply Pick.tail | apply Pick.app))) | apply Sup.app | apply Sup.skip | apply Sup.skips))), x', g, rfl, hk, rfl, hxi⟩)
      | (rw [Rk.opd3 (by assumption)]; exact ⟨l, fun w q => q.sup (by (repeat (first | exact Sup.refl | apply Sup.cons (by (repeat (first | exact Pick.head | apply Pick.tail | apply Pick.app))) | apply Sup.app | apply Sup.skip | apply Sup.skips))), { x with k := (x.k.arm o.at_).1 }, [], rfl, rfl, rfl, fun m hm => hm.arm ho.at_⟩)
      | (rw [Rk.opd4 (by omega)]; exact ⟨g ++ l, fun w q => q.sup (by (repeat (first | exact Sup.refl | apply Sup.cons (by (repeat (first | exact Pick.head | apply Pick.tail | apply Pick.app))) | apply Sup.app | apply Sup.skip | apply Sup.skips))), x', g, rfl, hk, rfl, fun m _ => hxi m⟩)
/-- Is a disk as the document says? -/
structure Rel (D : Dk) (k : Rk) : Prop where
  safe : k.safe = D.safe
  pend : k.pending = D.pending
  dead : k.dead = D.dead
  ops : k.ops = D.ops
  left : D.dead = false → k.left = if D.armed then D.left else -1
  more : D.dead = false → D.armed = true → 0 ≤ D.left
theorem lastW_find (i : Int) : ∀ (l : List (Int × Blk)) (b : Blk), lastW i l b = match l.reverse.find? (fun p => p.1 = i) with | some p => p.2 | none => b
  | [], _ => rfl
  | p :: r, b => by
    have h := lastW_find i r (if p.1 = i then p.2 else b)
    rw [List.reverse_cons, List.find?_append]
    have e : lastW i (p :: r) b = lastW i r (if p.1 = i then p.2 else b) := rfl
    rw [e, h]
    cases hf : r.reverse.find? (fun p => p.1 = i) with
    | some q => rfl
    | none =>
      by_cases he : p.1 = i <;> simp [he]
theorem rel_read {D : Dk} {k : Rk} (h : Rel D k) (i : Int) : k.read i = (D.read i, D.ready i) := by
  unfold Rk.read Dk.read Dk.ready
  rw [h.dead, h.safe, h.pend, lastW_find]
  cases hd : D.dead with
  | true => simp
  | false =>
    by_cases hi : i < 0 ∨ (D.safe.length : Int) ≤ i
    · simp [hi]
    · simp only [hi, if_false, Bool.false_eq_true, if_true]
      rfl
theorem rel_done {D : Dk} {k : Rk} (h : Rel D k) (hd : D.dead = false) (hok : D.Ok) : if D.armed = true ∧ D.left = 0 then k.done.2 = false ∧ Rel D.dies k.done.1 else k.done.2 = true ∧ Rel D.does k.done.1 := by
  have hl := h.left hd
  have hm := h.more hd
  have hr := hok.left
  unfold Rk.done
  cases ha : D.armed with
  | true =>
    rw [ha] at hl
    simp only [if_true] at hl
    have h0 := hm ha
    by_cases hz : D.left = 0
    · have e : k.left = 0 := by omega
      simp only [hz, e, and_self, if_true]
      exact ⟨trivial, h.safe, h.pend, rfl, h.ops, fun q => by simp [Dk.dies] at q, fun q => by simp [Dk.dies] at q⟩
    · have e : ¬ k.left = 0 := by omega
      have e2 : 0 < k.left := by omega
      have e3 : IntKind.i64.wrap (D.left - 1) = D.left - 1 := wrap_i64 (by omega) (by omega)
      simp only [hz, e, and_false, if_false, e2, if_true]
      refine ⟨trivial, h.safe, h.pend, h.dead, by simp [Dk.does, h.ops], fun _ => ?_, fun _ _ => ?_⟩
      · simp only [Dk.does, ha, if_true, e3]; omega
      · simp only [Dk.does, ha, if_true, e3]; omega
  | false =>
    rw [ha] at hl
    simp only [Bool.false_eq_true, if_false] at hl
    have e : ¬ k.left = 0 := by omega
    have e2 : ¬ 0 < k.left := by omega
    simp only [Bool.false_eq_true, false_and, if_false, e, e2]
    refine ⟨trivial, h.safe, h.pend, h.dead, by simp [Dk.does, h.ops], fun _ => ?_, fun _ q => ?_⟩
    · simp only [Dk.does, ha, Bool.false_eq_true, if_false]; exact hl
    · simp [Dk.does, ha] at q
theorem rel_live {D : Dk} {k : Rk} (h : Rel D k) (lv : Nat → Bool) : Rel (D.settle lv) (k.live lv) :=
  ⟨by simp only [Rk.live, Dk.settle, h.pend, h.safe], rfl, h.dead, h.ops, h.left, h.more⟩
theorem rel_push {D : Dk} {k : Rk} (h : Rel D k) (i : Int) (b : Blk) : Rel (D.push i b) { k with pending := k.pending ++ [(i, b)] } :=
  ⟨h.safe, by simp only [Dk.push, h.pend], h.dead, h.ops, h.left, h.more⟩
theorem rel_step {D : Dk} {k : Rk} (h : Rel D k) (hok : D.Ok) (o : OpA) : Rel (D.opd o).1 (k.opd o).1 ∧ (k.opd o).2 = (D.opd o).2 := by
  have hr := o.k_range
  rcases (by omega : o.k = 0 ∨ o.k = 1 ∨ o.k = 2 ∨ o.k = 3 ∨ o.k = 4) with e | e | e | e | e
  · rw [Rk.opd0 e, Dk.opd0 e]
    exact ⟨h, rel_read h _⟩
  · rw [Rk.opd1 e, Dk.opd1 e]
    have hdk := h.dead
    have hsk := h.safe
    cases hd : D.dead with
    | true =>
      have e1 : D.ready o.at_ = 7 := by simp [Dk.ready, hd]
      have hD : D.write o.at_ (blockOf o.fill) = (D, 7) := by simp [Dk.write, e1]
      have hK : k.write o.at_ (blockOf o.fill) = (k, 7) := by simp [Rk.write, hdk, hd]
      rw [hD, hK]
      exact ⟨h, rfl⟩
    | false =>
      by_cases hi : o.at_ < 0 ∨ (D.safe.length : Int) ≤ o.at_
      · have e1 : D.ready o.at_ = 2 := by simp [Dk.ready, hd, hi]
        have hD : D.write o.at_ (blockOf o.fill) = (D, 2) := by simp [Dk.write, e1]
        have hK : k.write o.at_ (blockOf o.fill) = (k, 2) := by simp [Rk.write, hdk, hd, hsk, hi]
        rw [hD, hK]
        exact ⟨h, rfl⟩
      · have e1 : D.ready o.at_ = 0 := by simp [Dk.ready, hd, hi]
        have hdn := rel_done h hd hok
        by_cases hz : D.armed = true ∧ D.left = 0
        · rw [if_pos hz] at hdn
          have hD : D.write o.at_ (blockOf o.fill) = (D.dies, 7) := by simp [Dk.write, e1, hz]
          have hK : k.write o.at_ (blockOf o.fill) = (k.done.1, 7) := by simp [Rk.write, hdk, hd, hsk, hi, hdn.1]
          rw [hD, hK]
          exact ⟨hdn.2, rfl⟩
        · rw [if_neg hz] at hdn
          have hD : D.write o.at_ (blockOf o.fill) = (D.does.push o.at_ (blockOf o.fill), 0) := by rw [Dk.write, if_neg (by simp [e1]), if_neg hz]
          have hK : k.write o.at_ (blockOf o.fill) = ({ k.done.1 with pending := k.pending ++ [(o.at_, blockOf o.fill)] }, 0) := by simp [Rk.write, hdk, hd, hsk, hi, hdn.1]
          rw [hD, hK]
          have e2 := rel_push hdn.2 o.at_ (blockOf o.fill)
          rw [done_pending] at e2
          exact ⟨e2, rfl⟩
  · rw [Rk.opd2 e, Dk.opd2 e]
    have hdk := h.dead
    cases hd : D.dead with
    | true =>
      have hD : D.sync = (D, 7) := by simp [Dk.sync, hd]
      have hK : k.sync = (k, 7) := by simp [Rk.sync, hdk, hd]
      rw [hD, hK]
      exact ⟨h, rfl⟩
    | false =>
      have hdn := rel_done h hd hok
      by_cases hz : D.armed = true ∧ D.left = 0
      · rw [if_pos hz] at hdn
        have hD : D.sync = (D.dies, 7) := by simp [Dk.sync, hd, hz]
        have hK : k.sync = (k.done.1, 7) := by simp [Rk.sync, hdk, hd, hdn.1]
        rw [hD, hK]
        exact ⟨hdn.2, rfl⟩
      · rw [if_neg hz] at hdn
        have hD : D.sync = (D.does.settle (fun _ => true), 0) := by rw [Dk.sync, if_neg (by simp [hd]), if_neg hz]
        have hK : k.sync = (k.done.1.live (fun _ => true), 0) := by simp [Rk.sync, hdk, hd, hdn.1]
        rw [hD, hK]
        exact ⟨rel_live hdn.2 _, rfl⟩
  · rw [Rk.opd3 e, Dk.opd3 e]
    have hdk := h.dead
    cases hd : D.dead with
    | true =>
      have hK : k.arm o.at_ = (k, 7) := by simp [Rk.arm, hdk, hd]
      rw [hK]
      exact ⟨h, rfl⟩
    | false =>
      have hK : k.arm o.at_ = ({ k with left := max o.at_ (-1) }, 0) := by simp [Rk.arm, hdk, hd]
      rw [hK]
      refine ⟨⟨h.safe, h.pend, ?_, h.ops, fun _ => ?_, fun _ q => ?_⟩, rfl⟩
      · simp only [Dk.arm, Bool.false_eq_true, if_false]; rw [h.dead, hd]
      · simp only [Dk.arm, Bool.false_eq_true, if_false]
        by_cases hn : 0 ≤ o.at_
        · simp only [hn, decide_true, if_true]; omega
        · simp only [hn, decide_false, Bool.false_eq_true, if_false]; omega
      · simpa [Dk.arm] using q
  · rw [Rk.opd4 e, Dk.opd4 e]
    refine ⟨⟨?_, rfl, rfl, h.ops, fun _ => rfl, fun _ q => by simp [Dk.crash] at q⟩, rfl⟩
    simp only [Rk.crash, Rk.live, Dk.crash, Dk.settle, h.pend, h.safe]
end Go.Proofs.Ytilifeeddpkclaa
