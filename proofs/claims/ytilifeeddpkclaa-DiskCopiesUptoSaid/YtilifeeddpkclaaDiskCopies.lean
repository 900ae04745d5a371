/-
  hollowtreelaw10.DiskCopies returns true for every input of a size that a machine can hold (the statement's own bound), and leaves its input as it was. No other condition.
-/
import Derived.Test.YtilifeeddpkclaaTop1
import Derived.Test.YtilifeeddpkclaaLaw10b
namespace Go.Proofs.Ytilifeeddpkclaa
open Go Go.SL
section
attribute [local irreducible] J JL JE JM LS Y Fc RV Code.wp wpList Code.wpIn wpListIn
attribute [local irreducible] Yc
variable (E : World)
theorem disk_copies (p1 p2 p3 : Option Addr) (c1 c2 c3 : Nat) (xs ys zs : List OpA) (r : List HProp) (hx : OpsIn r p1 c1 xs) (hy : OpsIn r p2 c2 ys) (hz : OpsIn r p3 c3 zs)
    (hxb : ∀ o ∈ xs, o.bits.length ≤ 60000000000) (hyb : ∀ o ∈ ys, o.bits.length ≤ 60000000000) (hzb : ∀ o ∈ zs, o.bits.length ≤ 60000000000) :
    Fc prog E 7 [.slice p1 xs.length c1, .slice p2 ys.length c2, .slice p3 zs.length c3].toArray r (fun v l' => v = .bool true ∧ l' = r) := by
  refine Fc.eqs ?_
  have hx' := hx.take 120
  have hxl : (xs.take 120).length = min xs.length 120 := by rw [List.length_take]; omega
  have hy' := hy.take 120
  have hyl : (ys.take 120).length = min ys.length 120 := by rw [List.length_take]; omega
  have hz' := hz.take 120
  have hzl : (zs.take 120).length = min zs.length 120 := by rw [List.length_take]; omega
  have hxi := hx.inl
  have hyi := hy.inl
  have hzi := hz.inl
  have hd : ∀ (d : Nat) (D : Dk) (u : OpA) l, u.Ok l → D.pending.length ≤ 1000 → u.bits.length ≤ 60000000000 → Fc prog E 23 [Value.pointer (some ⟨d, 0, none⟩), .agg (encO u).toArray].toArray (disk d D :: l) (fun v l' => v = .tuple #[.agg (encB (D.opd u).2.1).toArray, .int .i64 (D.opd u).2.2] ∧ l' = disk d (D.opd u).1 :: l) := fun d D u l h h1 h2 =>
    does_spec E d D u l (by omega) ⟨_, h⟩ (fun _ => ⟨h, h2⟩)
  have hw : ∀ (D : Dk) (x : Rv) (u : OpA) l m j, Both D x j m → j ≤ 1000 → x.In l → u.Ok l → Fc prog E 24 [.agg (encR x).toArray, .agg (encO u).toArray].toArray l (fun v l' => ∃ x' g, v = .tuple #[.agg (encR x').toArray, .agg (encB (D.opd u).2.1).toArray, .int .i64 (D.opd u).2.2] ∧ x'.k = (x.k.opd u).1 ∧ l' = g ++ l ∧ ∀ m, x.In m → x'.In (g ++ m)) := fun D x u l m j hB hj hi h => by
    have hfew := hB.few
    have q := want_spec E x u l hi h (by rw [hB.rel.pend]; omega)
    rwa [(rel_step hB.rel hB.ok u).2] at q
  refine Fc.of_body (c := ?c) Try.func7 ?hb Try.ntmps7 ?hl ?_
  case hb => exact rfl
  case hl => exact rfl
  refine J.seq ?_
  refine J.region ?_
  refine JL.step (y_assign rfl) rfl rfl rfl ?_
  refine JL.nil ?_
  refine JE.then_normal ?_
  refine J.seq ?_
  refine J.seq ?_
  refine J.region ?_
  refine JL.loud rfl (l_callF e15 rfl rfl (wakes_spec E _) ?_)
  rintro _ l1 ⟨rfl, e1⟩
  obtain rfl := e1.symm
  refine JL.step (y_not rfl) rfl rfl rfl ?_
  refine JL.nil ?_
  refine JE.then_normal ?_
  refine J.cond_f rfl (by (first | rfl | assumption | (simp; done) | (simp; omega))) ?_
  refine J.skip ?_
  refine JE.then_normal ?_
  refine J.seq ?_
  refine J.region ?_
  refine JL.loud rfl (l_callF e21 rfl rfl (new_good E 6 _ (by omega) (by omega)) ?_)
  rintro _ _ ⟨d, rfl, rfl⟩
  refine JL.step (y_move rfl) rfl rfl rfl (JL.step (y_extract rfl rfl) rfl rfl rfl (JL.step (y_extract rfl rfl) rfl rfl rfl (JL.step (y_assign rfl) rfl rfl rfl (JL.step (y_assign rfl) rfl rfl rfl ?_))))
  refine JL.nil ?_
  refine JE.then_normal ?_
  refine J.seq ?_
  refine J.region ?_
  refine JL.loud rfl (l_callF e22 rfl rfl (rnew_good E 6 _ (by omega) (by omega)) ?_)
  rintro _ _ ⟨x0, g0, rfl, hk0, rfl, hx0⟩
  refine JL.step (y_move rfl) rfl rfl rfl (JL.step (y_extract rfl rfl) rfl rfl rfl (JL.step (y_extract rfl rfl) rfl rfl rfl ?_))
  refine JL.loud rfl (l_alloc hT rfl rfl (by (first | rfl | simp)) rfl (fun bx => ?_))
  refine JL.loud rfl (l_storeAll hT rfl rfl rfl (by (first | rfl | assumption | (simp; done) | omega)) (by (first | assumption | exact ones_of rfl | exact encW_one _ | exact encB_one _ | (intro u hu; simp at hu; rcases hu with rfl | rfl <;> rfl) | (intro u hu; simp at hu; subst hu; rfl) | simp)) (by (repeat (first | exact Pick.head | apply Pick.tail | apply Pick.app))) (by (first | rfl | assumption | (simp; done) | omega)) ?_)
  refine JL.step (y_assign rfl) rfl rfl rfl ?_
  refine JL.nil ?_
  refine JE.then_normal ?_
  refine J.seq ?_
  refine J.seq ?_
  refine J.region ?_
  refine JL.step (y_move rfl) rfl rfl rfl (JL.step (y_neq rfl rfl) rfl rfl rfl (JL.step (y_move rfl) rfl rfl rfl ?_))
  all_goals (first | (refine JL.gsplit_dec rfl rfl rfl (fun h => ?_) (fun h => ?_) <;> try (first | (exfalso; omega) | exact absurd rfl h)) | (refine JL.gsplit rfl rfl rfl (fun h => ?_) (fun h => ?_) <;> try (first | cases h | (exfalso; simp at h; done))) | skip)
  all_goals (first | refine JL.gskip rfl rfl rfl rfl rfl rfl ?_ | refine JL.gskipU rfl rfl rfl rfl rfl ?_ | refine JL.gstep rfl rfl rfl (y_move rfl) rfl rfl ?_)
  all_goals (first | refine JL.gskip rfl rfl rfl rfl rfl rfl ?_ | refine JL.gskipU rfl rfl rfl rfl rfl ?_ | refine JL.gstep rfl rfl rfl (y_neq rfl rfl) rfl rfl ?_)
  all_goals (refine JL.step (y_pick rfl rfl rfl) rfl rfl rfl ?_)
  all_goals refine JL.nil ?_
  all_goals refine JE.then_normal ?_
  all_goals
    refine J.cond_f rfl (by (first | rfl | assumption | (simp; done) | (simp; omega))) ?_
    refine J.skip ?_
  all_goals refine JE.then_normal ?_
  all_goals
    refine J.seq ?_
    refine J.seq ?_
    refine J.region ?_
    refine JL.step (y_move rfl) rfl rfl rfl ?_
    refine JL.loud rfl (l_callF e17 rfl rfl (few_spec E p1 xs.length c1 _ _ (by (repeat (first | assumption | apply InL.cons | apply InL.app)))) ?_)
    rintro _ _ ⟨rfl, rfl⟩
    refine JL.step (y_len_slice hT rfl rfl rfl) rfl rfl rfl (JL.step (y_move rfl) rfl rfl rfl ?_)
    refine JL.nil ?_
    refine JE.then_normal ?_
    refine J.block ?_
    refine J.loop (α := Nat × Dk × Rv × List HProp) (fun s => s.1 ≤ (xs.take 120).length ∧ Both s.2.1 s.2.2.1 s.1 (s.2.2.2 ++ r)) (fun s => [(1, .slice p2 ys.length c2), (2, .slice p3 zs.length c3), (7, .pointer (some ⟨d, 0, none⟩)), (9, .pointer (some ⟨bx, 0, none⟩)), (39, .slice p1 (min xs.length 120) c1), (40, .int .i64 (min xs.length 120 : Nat)), (41, .int .i64 s.1)]) (fun s => row bx 43 (encR s.2.2.1) :: disk d s.2.1 :: (s.2.2.2 ++ r)) (fun s => (xs.take 120).length - s.1) (0, Dk.new 6, x0, g0) ⟨by dsimp only; omega, by rw [hk0]; exact rel_new 6, hx0 r, Nat.zero_le _, Dk.new_ok (by omega) (by omega)⟩ ⟨rfl, rfl, rfl, rfl, rfl, rfl, rfl, trivial⟩ (fun w h => h.sup (by (repeat (first | exact Sup.refl | apply Sup.cons (by (repeat (first | exact Pick.head | apply Pick.tail | apply Pick.app))) | apply Sup.app | apply Sup.skip | apply Sup.skips)))) ?_
    rintro ⟨j, D, x, G⟩ ⟨hj, hB⟩
    dsimp only at hj hB ⊢
    have hin : x.In (G ++ r) := hB.inn
    have hfew := hB.few
    refine J.seq ?_
    refine J.region ?_
    refine JL.step (y_lss rfl rfl) rfl rfl rfl ?_
    refine JL.nil ?_
    refine JE.then_normal ?_
    refine J.seq ?_
    first | apply J.cond_dec rfl | apply J.cond rfl
    case' ht =>
      intro h
      try (first | (exfalso; omega) | (cases h; done) | (exfalso; simp at h; done) | subst h)
      all_goals
        refine J.skip ?_
    case' hf =>
      intro h
      try (first | (exfalso; omega) | (cases h; done) | (exfalso; simp at h; done) | subst h)
      all_goals
        refine J.exit ?_
        refine JE.then_exit ?_
        refine JE.then_exit ?_
        refine JE.block_exit ?_
        refine JE.then_normal ?_
        refine J.seq ?_
        refine J.draw _ _ [(0, .q), (2, .q), (1, .l), (3, .n), (4, .q), (5, .l)] mixed (by kernel_rfl) (Split.cons (Pick.tail Pick.head) (Split.nil)) ?_
        refine JM.quiet rfl rfl rfl rfl (fun m => y_move rfl) ?_
        refine JM.quiet rfl rfl rfl rfl (fun m => y_loadN hT rfl rfl rfl (by (first | exact RdN.rowAll (Pick.app m (by (repeat (first | exact Pick.head | apply Pick.tail | apply Pick.app)))) | exact RdN.own (Pick.app m (by (repeat (first | exact Pick.head | apply Pick.tail | apply Pick.app)))))) (by (first | rfl | assumption | (simp; done) | omega))) ?_
        refine JM.loud rfl rfl (fun fr => l_callF e36 rfl rfl (Fc.on (Split.cons (by (repeat (first | exact Pick.head | apply Pick.tail | apply Pick.app))) Split.nil) (copy_spec E d D _ (by omega))) ?_)
        rintro _ _ ⟨dc, rfl, rfl⟩
        refine ⟨[_, _], (by (repeat (first | exact Split.nil | exact Split.all | refine Split.cons Pick.head ?_))), ?_⟩
        refine JM.lay rfl rfl rfl rfl (fun a hf => lays_alloc hT rfl rfl (by (first | rfl | simp))) (fun b_y => ?_)
        refine JM.quiet rfl rfl rfl rfl (fun m => y_assign rfl) ?_
        refine JM.loud rfl rfl (fun fr => l_storeN hT rfl rfl rfl (by (first | rfl | assumption | (simp; done) | omega)) (by (first | assumption | exact ones_of rfl | exact encW_one _ | exact encB_one _ | (intro u hu; simp at hu; rcases hu with rfl | rfl <;> rfl) | (intro u hu; simp at hu; subst hu; rfl) | simp)) (by (repeat (first | exact Pick.head | apply Pick.tail | apply Pick.app))) (by (first | omega | exact Nat.le_of_ble_eq_true rfl | decide | (simp; omega))) (⟨[_, _, _], (by (repeat (first | exact Split.nil | exact Split.all | refine Split.cons Pick.head ?_))), ?_⟩))
        refine JM.nil ?_
        refine JE.then_normal ?_
        refine J.seq ?_
        refine J.seq ?_
        refine J.region ?_
        refine JL.step (y_move rfl) rfl rfl rfl (JL.step (y_ptr_eq_nil hT rfl rfl rfl rfl) rfl rfl rfl ?_)
        refine JL.nil ?_
        refine JE.then_normal ?_
        refine J.cond_f rfl (by (first | rfl | assumption | (simp; done) | (simp; omega))) ?_
        refine J.skip ?_
        refine JE.then_normal ?_
        refine J.seq ?_
        refine J.seq ?_
        refine J.region ?_
        refine JL.step (y_move rfl) rfl rfl rfl ?_
        refine JL.loud rfl (l_callF e17 rfl rfl (few_spec E p2 ys.length c2 _ _ (by (repeat (first | assumption | apply InL.cons | apply InL.app)))) ?_)
        rintro _ _ ⟨rfl, rfl⟩
        refine JL.step (y_len_slice hT rfl rfl rfl) rfl rfl rfl (JL.step (y_move rfl) rfl rfl rfl ?_)
        refine JL.nil ?_
        refine JE.then_normal ?_
        refine J.block ?_
        have hB0 := hB.le (j' := 120 + 0) (by omega)
        refine J.loop (α := Nat × Dk × Rv × List HProp) (fun s => s.1 ≤ (ys.take 120).length ∧ Both s.2.1 s.2.2.1 (120 + s.1) (s.2.2.2 ++ r) ∧ x.In (s.2.2.2 ++ r)) (fun s => [(2, .slice p3 zs.length c3), (7, .pointer (some ⟨d, 0, none⟩)), (9, .pointer (some ⟨bx, 0, none⟩)), (13, .pointer (some ⟨dc, 0, none⟩)), (14, .pointer (some ⟨b_y, 0, none⟩)), (62, .slice p2 (min ys.length 120) c2), (63, .int .i64 (min ys.length 120 : Nat)), (64, .int .i64 s.1)]) (fun s => row bx 43 (encR s.2.2.1) :: disk d s.2.1 :: row b_y 43 (encR x) :: disk dc D :: (s.2.2.2 ++ r)) (fun s => (ys.take 120).length - s.1) (0, D, x, G) ⟨by dsimp only; omega, hB0, hin⟩ ⟨rfl, rfl, rfl, rfl, rfl, rfl, rfl, rfl, trivial⟩ (fun w h => h.sup (by (repeat (first | exact Sup.refl | apply Sup.cons (by (repeat (first | exact Pick.head | apply Pick.tail | apply Pick.app))) | apply Sup.app | apply Sup.skip | apply Sup.skips)))) ?_
        rintro ⟨j2, D2, x2, G2⟩ ⟨hj2, hB2, hinx⟩
        dsimp only at hj2 hB2 hinx ⊢
        have hin2 : x2.In (G2 ++ r) := hB2.inn
        have hfew2 := hB2.few
        refine J.seq ?_
        refine J.region ?_
        refine JL.step (y_lss rfl rfl) rfl rfl rfl ?_
        refine JL.nil ?_
        refine JE.then_normal ?_
        refine J.seq ?_
        first | apply J.cond_dec rfl | apply J.cond rfl
        case' ht =>
          intro h
          try (first | (exfalso; omega) | (cases h; done) | (exfalso; simp at h; done) | subst h)
          all_goals
            refine J.skip ?_
        case' hf =>
          intro h
          try (first | (exfalso; omega) | (cases h; done) | (exfalso; simp at h; done) | subst h)
          all_goals
            refine J.exit ?_
            refine JE.then_exit ?_
            refine JE.then_exit ?_
            refine JE.block_exit ?_
            refine JE.then_normal ?_
            refine J.seq ?_
            refine J.seq ?_
            refine J.region ?_
            refine JL.step (y_move rfl) rfl rfl rfl ?_
            refine JL.loud rfl (l_callF e17 rfl rfl (few_spec E p3 zs.length c3 _ _ (by (repeat (first | assumption | apply InL.cons | apply InL.app)))) ?_)
            rintro _ _ ⟨rfl, rfl⟩
            refine JL.step (y_len_slice hT rfl rfl rfl) rfl rfl rfl (JL.step (y_move rfl) rfl rfl rfl ?_)
            refine JL.nil ?_
            refine JE.then_normal ?_
            refine J.block ?_
            have hB3 : Both D x (120 + 0) (G2 ++ r) := ⟨hB.rel, hinx, hB0.few, hB.ok⟩
            refine J.loop (α := Nat × Dk × Rv × List HProp) (fun s => s.1 ≤ (zs.take 120).length ∧ Both s.2.1 s.2.2.1 (120 + s.1) (s.2.2.2 ++ r) ∧ x2.In (s.2.2.2 ++ r)) (fun s => [(7, .pointer (some ⟨d, 0, none⟩)), (9, .pointer (some ⟨bx, 0, none⟩)), (13, .pointer (some ⟨dc, 0, none⟩)), (14, .pointer (some ⟨b_y, 0, none⟩)), (80, .slice p3 (min zs.length 120) c3), (81, .int .i64 (min zs.length 120 : Nat)), (82, .int .i64 s.1)]) (fun s => row bx 43 (encR x2) :: disk d D2 :: row b_y 43 (encR s.2.2.1) :: disk dc s.2.1 :: (s.2.2.2 ++ r)) (fun s => (zs.take 120).length - s.1) (0, D, x, G2) ⟨by dsimp only; omega, hB3, hin2⟩ ⟨rfl, rfl, rfl, rfl, rfl, rfl, rfl, trivial⟩ (fun w h => h.sup (by (repeat (first | exact Sup.refl | apply Sup.cons (by (repeat (first | exact Pick.head | apply Pick.tail | apply Pick.app))) | apply Sup.app | apply Sup.skip | apply Sup.skips)))) ?_
            rintro ⟨j3, D3, x3, G3⟩ ⟨hj3, hB3, hinx2⟩
            dsimp only at hj3 hB3 hinx2 ⊢
            have hin3 : x3.In (G3 ++ r) := hB3.inn
            have hfew3 := hB3.few
            refine J.seq ?_
            refine J.region ?_
            refine JL.step (y_lss rfl rfl) rfl rfl rfl ?_
            refine JL.nil ?_
            refine JE.then_normal ?_
            refine J.seq ?_
            first | apply J.cond_dec rfl | apply J.cond rfl
            case' ht =>
              intro h
              try (first | (exfalso; omega) | (cases h; done) | (exfalso; simp at h; done) | subst h)
              all_goals
                refine J.skip ?_
            case' hf =>
              intro h
              try (first | (exfalso; omega) | (cases h; done) | (exfalso; simp at h; done) | subst h)
              all_goals
                refine J.exit ?_
                refine JE.then_exit ?_
                refine JE.then_exit ?_
                refine JE.block_exit ?_
                refine JE.then_normal ?_
                refine J.seq ?_
                refine J.region ?_
                refine JL.step (y_move rfl) rfl rfl rfl ?_
                refine JL.step (y_loadN hT rfl rfl rfl (by (first | exact RdN.rowAll (by (repeat (first | exact Pick.head | apply Pick.tail | apply Pick.app))) | exact RdN.own (by (repeat (first | exact Pick.head | apply Pick.tail | apply Pick.app))))) (by (first | rfl | assumption | (simp; done) | omega))) rfl rfl rfl ?_
                refine JL.loud rfl (l_callF e25 rfl rfl (Fc.on (Split.cons (by (repeat (first | exact Pick.head | apply Pick.tail | apply Pick.app))) Split.nil) (agree_spec E d D2 x2.k x2.sa x2.sc x2.pa x2.pc _ (by (repeat (first | assumption | apply Rv.In.cons | apply Rv.In.app))) hB2.rel (by omega))) ?_)
                rintro _ _ ⟨rfl, rfl⟩
                refine JL.step (y_move rfl) rfl rfl rfl ?_
                all_goals (first | (refine JL.gsplit_dec rfl rfl rfl (fun h => ?_) (fun h => ?_) <;> try (first | (exfalso; omega) | exact absurd rfl h)) | (refine JL.gsplit rfl rfl rfl (fun h => ?_) (fun h => ?_) <;> try (first | cases h | (exfalso; simp at h; done))) | skip)
                all_goals (first | refine JL.gskip rfl rfl rfl rfl rfl rfl ?_ | refine JL.gskipU rfl rfl rfl rfl rfl ?_ | refine JL.gstep rfl rfl rfl (y_move rfl) rfl rfl ?_)
                all_goals (first | refine JL.gskip rfl rfl rfl rfl rfl rfl ?_ | refine JL.gskipU rfl rfl rfl rfl rfl ?_ | refine JL.gstep rfl rfl rfl (y_loadN hT rfl rfl rfl (by (first | exact RdN.rowAll (by (repeat (first | exact Pick.head | apply Pick.tail | apply Pick.app))) | exact RdN.own (by (repeat (first | exact Pick.head | apply Pick.tail | apply Pick.app))))) (by (first | rfl | assumption | (simp; done) | omega))) rfl rfl ?_)
                all_goals (first | refine JL.gskip rfl rfl rfl rfl rfl rfl ?_ | refine JL.gskipU rfl rfl rfl rfl rfl ?_ | (refine JL.gloud rfl rfl rfl (l_callF e25 rfl rfl (Fc.on (Split.cons (by (repeat (first | exact Pick.head | apply Pick.tail | apply Pick.app))) Split.nil) (agree_spec E dc D3 x3.k x3.sa x3.sc x3.pa x3.pc _ (by (repeat (first | assumption | apply Rv.In.cons | apply Rv.In.app))) hB3.rel (by omega))) ?_); rintro _ _ ⟨rfl, rfl⟩))
                all_goals (refine JL.step (y_pick rfl rfl rfl) rfl rfl rfl ?_)
                all_goals (refine JL.step (y_assign rfl) rfl rfl rfl ?_)
                all_goals refine JL.nil ?_
                all_goals refine JE.then_normal ?_
                all_goals
                  refine J.ret ?_
                  refine JE.ret1 (.inl rfl) rfl rfl (by (first | exact RV.tmp rfl | exact RV.cell1 hT rfl rfl rfl (by (exact Rd1.row (by (repeat (first | exact Pick.head | apply Pick.tail | apply Pick.app))) (by rfl))) | exact RV.cellN hT rfl rfl rfl (by (first | exact RdN.rowAll (by (repeat (first | exact Pick.head | apply Pick.tail | apply Pick.app))) | exact RdN.own (by (repeat (first | exact Pick.head | apply Pick.tail | apply Pick.app))))) (by (first | rfl | assumption | (simp; done) | omega)))) ?_
                  exact ⟨rfl, fun w q => q.sup (by (repeat (first | exact Sup.refl | apply Sup.cons (by (repeat (first | exact Pick.head | apply Pick.tail | apply Pick.app))) | apply Sup.app | apply Sup.skip | apply Sup.skips)))⟩
            all_goals refine JE.then_normal ?_
            all_goals
              refine J.seq ?_
              refine J.block ?_
              refine J.seq ?_
              refine J.region ?_
              obtain ⟨gx3, ox3, rfl, hr3⟩ := hz'.inl.addr (by omega)
              have hr0 : RdN r gx3 ox3 ((zs.take 120).flatMap encO) := hr3 []
              obtain ⟨u, hu⟩ : ∃ u, (zs.take 120)[j3]? = some u := ⟨_, List.getElem?_eq_getElem (by omega)⟩
              have hu1 := encO_one u
              have huo := hz'.ok u (List.mem_of_getElem? hu)
              have hub := hzb u (List.mem_of_mem_take (List.mem_of_getElem? hu))
              have hok' := hB3.ok.opd u huo.at_
              have hb64 := opd_blk hB3.ok u
              have hbL : (encB (D3.opd u).2.1).length = 64 := (encB_length _).trans hb64
              refine JL.step (y_indexAddr_slice hT rfl rfl rfl rfl rfl (by (first | omega | exact Nat.le_of_ble_eq_true rfl | decide | (simp; omega))) (by (first | omega | exact Nat.le_of_ble_eq_true rfl | decide | (simp; omega)))) rfl rfl rfl ?_
              refine JL.step (y_loadN hT rfl rfl rfl (RdN.elem (by (repeat (first | assumption | apply RdN.cons | apply RdN.app))) (fun o _ => encO_length o) hu) rfl) rfl rfl rfl ?_
              refine JL.loud rfl (l_alloc hT rfl rfl (by (first | rfl | simp)) rfl (fun b12 => ?_))
              refine JL.loud rfl (l_storeAll hT rfl rfl rfl (by (first | rfl | assumption | (simp; done) | omega)) (by (first | assumption | exact ones_of rfl | exact encW_one _ | exact encB_one _ | (intro u hu; simp at hu; rcases hu with rfl | rfl <;> rfl) | (intro u hu; simp at hu; subst hu; rfl) | simp)) (by (repeat (first | exact Pick.head | apply Pick.tail | apply Pick.app))) (by (first | rfl | assumption | (simp; done) | omega)) ?_)
              refine JL.nil ?_
              refine JE.then_normal ?_
              refine J.seq ?_
              refine J.region ?_
              refine JL.step (y_move rfl) rfl rfl rfl ?_
              refine JL.step (y_loadN hT rfl rfl rfl (by (first | exact RdN.rowAll (by (repeat (first | exact Pick.head | apply Pick.tail | apply Pick.app))) | exact RdN.own (by (repeat (first | exact Pick.head | apply Pick.tail | apply Pick.app))))) (by (first | rfl | assumption | (simp; done) | omega))) rfl rfl rfl ?_
              refine JL.loud rfl (l_callF e23 rfl rfl (Fc.on (Split.cons (by (repeat (first | exact Pick.head | apply Pick.tail | apply Pick.app))) Split.nil) (hd dc D3 u _ (by (repeat (first | assumption | apply OpA.Ok.cons | apply OpA.Ok.app))) (by omega) hub)) ?_)
              rintro _ _ ⟨rfl, rfl⟩
              refine JL.step (y_move rfl) rfl rfl rfl (JL.step (y_extract rfl rfl) rfl rfl rfl (JL.step (y_extract rfl rfl) rfl rfl rfl ?_))
              refine JL.loud rfl (l_alloc hT rfl rfl (by (first | rfl | simp)) rfl (fun b15 => ?_))
              refine JL.loud rfl (l_storeAll hT rfl rfl rfl (by (first | rfl | assumption | (simp; done) | omega)) (by (first | assumption | exact ones_of rfl | exact encW_one _ | exact encB_one _ | (intro u hu; simp at hu; rcases hu with rfl | rfl <;> rfl) | (intro u hu; simp at hu; subst hu; rfl) | simp)) (by (repeat (first | exact Pick.head | apply Pick.tail | apply Pick.app))) (by (first | rfl | assumption | (simp; done) | omega)) ?_)
              refine JL.step (y_assign rfl) rfl rfl rfl ?_
              refine JL.nil ?_
              refine JE.then_normal ?_
              refine J.seq ?_
              refine J.region ?_
              refine JL.loud rfl (l_alloc hT rfl rfl (by (first | rfl | simp)) rfl (fun b17 => ?_))
              refine JL.nil ?_
              refine JE.then_normal ?_
              refine J.seq ?_
              refine J.region ?_
              refine JL.step (y_loadN hT rfl rfl rfl (by (first | exact RdN.rowAll (by (repeat (first | exact Pick.head | apply Pick.tail | apply Pick.app))) | exact RdN.own (by (repeat (first | exact Pick.head | apply Pick.tail | apply Pick.app))))) (by (first | rfl | assumption | (simp; done) | omega))) rfl rfl rfl ?_
              refine JL.step (y_loadN hT rfl rfl rfl (by (first | exact RdN.rowAll (by (repeat (first | exact Pick.head | apply Pick.tail | apply Pick.app))) | exact RdN.own (by (repeat (first | exact Pick.head | apply Pick.tail | apply Pick.app))))) (by (first | rfl | assumption | (simp; done) | omega))) rfl rfl rfl ?_
              refine JL.loud rfl (l_callF e24 rfl rfl (hw D3 x3 u _ _ (120 + j3) hB3 (by omega) (by (repeat (first | assumption | apply Rv.In.cons | apply Rv.In.app))) (by (repeat (first | assumption | apply OpA.Ok.cons | apply OpA.Ok.app)))) ?_)
              rintro _ _ ⟨x', g, rfl, hk', rfl, hxi'⟩
              refine JL.step (y_move rfl) rfl rfl rfl (JL.step (y_extract rfl rfl) rfl rfl rfl (JL.step (y_extract rfl rfl) rfl rfl rfl (JL.step (y_extract rfl rfl) rfl rfl rfl ?_)))
              refine JL.loud rfl (l_storeN hT rfl rfl rfl (by (first | rfl | assumption | (simp; done) | omega)) (by (first | assumption | exact ones_of rfl | exact encW_one _ | exact encB_one _ | (intro u hu; simp at hu; rcases hu with rfl | rfl <;> rfl) | (intro u hu; simp at hu; subst hu; rfl) | simp)) (by (repeat (first | exact Pick.head | apply Pick.tail | apply Pick.app))) (by (first | omega | exact Nat.le_of_ble_eq_true rfl | decide | (simp; omega))) ?_)
              refine JL.loud rfl (l_storeAll hT rfl rfl rfl (by (first | rfl | assumption | (simp; done) | omega)) (by (first | assumption | exact ones_of rfl | exact encW_one _ | exact encB_one _ | (intro u hu; simp at hu; rcases hu with rfl | rfl <;> rfl) | (intro u hu; simp at hu; subst hu; rfl) | simp)) (by (repeat (first | exact Pick.head | apply Pick.tail | apply Pick.app))) (by (first | rfl | assumption | (simp; done) | omega)) ?_)
              refine JL.step (y_assign rfl) rfl rfl rfl ?_
              refine JL.nil ?_
              refine JE.then_normal ?_
              refine J.seq ?_
              refine J.region ?_
              refine JL.step (y_loadN hT rfl rfl rfl (by (first | exact RdN.rowAll (by (repeat (first | exact Pick.head | apply Pick.tail | apply Pick.app))) | exact RdN.own (by (repeat (first | exact Pick.head | apply Pick.tail | apply Pick.app))))) (by (first | rfl | assumption | (simp; done) | omega))) rfl rfl rfl ?_
              refine JL.step (y_loadN hT rfl rfl rfl (by (first | exact RdN.rowAll (by (repeat (first | exact Pick.head | apply Pick.tail | apply Pick.app))) | exact RdN.own (by (repeat (first | exact Pick.head | apply Pick.tail | apply Pick.app))))) (by (first | rfl | assumption | (simp; done) | omega))) rfl rfl rfl ?_
              refine JL.step (y_arr_ne (xs := (D3.opd u).2.1) (ys := (D3.opd u).2.1) hT rfl rfl rfl rfl rfl rfl rfl hb64 hb64) rfl rfl rfl ?_
              refine JL.step (y_move rfl) rfl rfl rfl ?_
              all_goals (first | (refine JL.gsplit_dec rfl rfl rfl (fun h => ?_) (fun h => ?_) <;> try (first | (exfalso; omega) | exact absurd rfl h)) | (refine JL.gsplit rfl rfl rfl (fun h => ?_) (fun h => ?_) <;> try (first | cases h | (exfalso; simp at h; done))) | skip)
              all_goals (first | refine JL.gskip rfl rfl rfl rfl rfl rfl ?_ | refine JL.gskipU rfl rfl rfl rfl rfl ?_ | refine JL.gstep rfl rfl rfl (y_move rfl) rfl rfl ?_)
              all_goals (first | refine JL.gskip rfl rfl rfl rfl rfl rfl ?_ | refine JL.gskipU rfl rfl rfl rfl rfl ?_ | refine JL.gstep rfl rfl rfl (y_move rfl) rfl rfl ?_)
              all_goals (first | refine JL.gskip rfl rfl rfl rfl rfl rfl ?_ | refine JL.gskipU rfl rfl rfl rfl rfl ?_ | refine JL.gstep rfl rfl rfl (y_neq rfl rfl) rfl rfl ?_)
              all_goals (refine JL.step (y_pick rfl rfl rfl) rfl rfl rfl ?_)
              all_goals refine JL.nil ?_
              all_goals refine JE.then_normal ?_
              all_goals
                refine J.cond_f rfl (by (first | rfl | assumption | (simp; done) | (simp; omega))) ?_
                refine J.skip ?_
              all_goals refine JE.block_normal ?_
              all_goals refine JE.then_normal ?_
              all_goals
                refine J.region ?_
                refine JL.step (y_add rfl rfl (by (first | exact wrap_i64 (by omega) (by omega) | rfl))) rfl rfl rfl ?_
                refine JL.step (y_move rfl) rfl rfl rfl ?_
                refine JL.nil ?_
            all_goals
              refine JE.round (s := (j3, D3, x3, G3)) (j3 + 1, (D3.opd u).1, x', g ++ G3) ⟨by dsimp only; omega, hB3.next u hk' (by dsimp only; rw [List.append_assoc]; exact hxi' _ hin3) hok', by dsimp only; rw [List.append_assoc]; exact hinx2.app _⟩ ⟨rfl, rfl, rfl, rfl, rfl, rfl, rfl, trivial⟩ (fun w q => ?_) (by dsimp only; omega)
              dsimp only
              rw [List.append_assoc]
              exact q.sup (by (repeat (first | exact Sup.refl | apply Sup.cons (by (repeat (first | exact Pick.head | apply Pick.tail | apply Pick.app))) | apply Sup.app | apply Sup.skip | apply Sup.skips)))
        all_goals refine JE.then_normal ?_
        all_goals
          refine J.seq ?_
          refine J.block ?_
          refine J.seq ?_
          refine J.region ?_
          obtain ⟨gx2, ox2, rfl, hr2⟩ := hy'.inl.addr (by omega)
          have hr0 : RdN r gx2 ox2 ((ys.take 120).flatMap encO) := hr2 []
          obtain ⟨u, hu⟩ : ∃ u, (ys.take 120)[j2]? = some u := ⟨_, List.getElem?_eq_getElem (by omega)⟩
          have hu1 := encO_one u
          have huo := hy'.ok u (List.mem_of_getElem? hu)
          have hub := hyb u (List.mem_of_mem_take (List.mem_of_getElem? hu))
          have hok' := hB2.ok.opd u huo.at_
          refine JL.step (y_indexAddr_slice hT rfl rfl rfl rfl rfl (by (first | omega | exact Nat.le_of_ble_eq_true rfl | decide | (simp; omega))) (by (first | omega | exact Nat.le_of_ble_eq_true rfl | decide | (simp; omega)))) rfl rfl rfl ?_
          refine JL.step (y_loadN hT rfl rfl rfl (RdN.elem (by (repeat (first | assumption | apply RdN.cons | apply RdN.app))) (fun o _ => encO_length o) hu) rfl) rfl rfl rfl ?_
          refine JL.loud rfl (l_alloc hT rfl rfl (by (first | rfl | simp)) rfl (fun b21 => ?_))
          refine JL.loud rfl (l_storeAll hT rfl rfl rfl (by (first | rfl | assumption | (simp; done) | omega)) (by (first | assumption | exact ones_of rfl | exact encW_one _ | exact encB_one _ | (intro u hu; simp at hu; rcases hu with rfl | rfl <;> rfl) | (intro u hu; simp at hu; subst hu; rfl) | simp)) (by (repeat (first | exact Pick.head | apply Pick.tail | apply Pick.app))) (by (first | rfl | assumption | (simp; done) | omega)) ?_)
          refine JL.nil ?_
          refine JE.then_normal ?_
          refine J.seq ?_
          refine J.region ?_
          refine JL.step (y_move rfl) rfl rfl rfl ?_
          refine JL.step (y_loadN hT rfl rfl rfl (by (first | exact RdN.rowAll (by (repeat (first | exact Pick.head | apply Pick.tail | apply Pick.app))) | exact RdN.own (by (repeat (first | exact Pick.head | apply Pick.tail | apply Pick.app))))) (by (first | rfl | assumption | (simp; done) | omega))) rfl rfl rfl ?_
          refine JL.loud rfl (l_callF e23 rfl rfl (Fc.on (Split.cons (by (repeat (first | exact Pick.head | apply Pick.tail | apply Pick.app))) Split.nil) (hd d D2 u _ (by (repeat (first | assumption | apply OpA.Ok.cons | apply OpA.Ok.app))) (by omega) hub)) ?_)
          rintro _ _ ⟨rfl, rfl⟩
          refine JL.nil ?_
          refine JE.then_normal ?_
          refine J.region ?_
          refine JL.step (y_loadN hT rfl rfl rfl (by (first | exact RdN.rowAll (by (repeat (first | exact Pick.head | apply Pick.tail | apply Pick.app))) | exact RdN.own (by (repeat (first | exact Pick.head | apply Pick.tail | apply Pick.app))))) (by (first | rfl | assumption | (simp; done) | omega))) rfl rfl rfl ?_
          refine JL.step (y_loadN hT rfl rfl rfl (by (first | exact RdN.rowAll (by (repeat (first | exact Pick.head | apply Pick.tail | apply Pick.app))) | exact RdN.own (by (repeat (first | exact Pick.head | apply Pick.tail | apply Pick.app))))) (by (first | rfl | assumption | (simp; done) | omega))) rfl rfl rfl ?_
          refine JL.loud rfl (l_callF e24 rfl rfl (hw D2 x2 u _ _ (120 + j2) hB2 (by omega) (by (repeat (first | assumption | apply Rv.In.cons | apply Rv.In.app))) (by (repeat (first | assumption | apply OpA.Ok.cons | apply OpA.Ok.app)))) ?_)
          rintro _ _ ⟨x', g, rfl, hk', rfl, hxi'⟩
          refine JL.step (y_move rfl) rfl rfl rfl (JL.step (y_extract rfl rfl) rfl rfl rfl (JL.step (y_extract rfl rfl) rfl rfl rfl (JL.step (y_extract rfl rfl) rfl rfl rfl ?_)))
          refine JL.loud rfl (l_storeAll hT rfl rfl rfl (by (first | rfl | assumption | (simp; done) | omega)) (by (first | assumption | exact ones_of rfl | exact encW_one _ | exact encB_one _ | (intro u hu; simp at hu; rcases hu with rfl | rfl <;> rfl) | (intro u hu; simp at hu; subst hu; rfl) | simp)) (by (repeat (first | exact Pick.head | apply Pick.tail | apply Pick.app))) (by (first | rfl | assumption | (simp; done) | omega)) ?_)
          refine JL.nil ?_
          refine JE.block_normal ?_
          refine JE.then_normal ?_
          refine J.region ?_
          refine JL.step (y_add rfl rfl (by (first | exact wrap_i64 (by omega) (by omega) | rfl))) rfl rfl rfl ?_
          refine JL.step (y_move rfl) rfl rfl rfl ?_
          refine JL.nil ?_
        all_goals
          refine JE.round (s := (j2, D2, x2, G2)) (j2 + 1, (D2.opd u).1, x', g ++ G2) ⟨by dsimp only; omega, hB2.next u hk' (by dsimp only; rw [List.append_assoc]; exact hxi' _ hin2) hok', by dsimp only; rw [List.append_assoc]; exact hinx.app _⟩ ⟨rfl, rfl, rfl, rfl, rfl, rfl, rfl, rfl, trivial⟩ (fun w q => ?_) (by dsimp only; omega)
          dsimp only
          rw [List.append_assoc]
          exact q.sup (by (repeat (first | exact Sup.refl | apply Sup.cons (by (repeat (first | exact Pick.head | apply Pick.tail | apply Pick.app))) | apply Sup.app | apply Sup.skip | apply Sup.skips)))
    all_goals refine JE.then_normal ?_
    all_goals
      refine J.seq ?_
      refine J.block ?_
      refine J.seq ?_
      refine J.region ?_
      obtain ⟨gx, ox, rfl, hr⟩ := hx'.inl.addr (by omega)
      have hr0 : RdN r gx ox ((xs.take 120).flatMap encO) := hr []
      obtain ⟨u, hu⟩ : ∃ u, (xs.take 120)[j]? = some u := ⟨_, List.getElem?_eq_getElem (by omega)⟩
      have hu1 := encO_one u
      have huo := hx'.ok u (List.mem_of_getElem? hu)
      have hub := hxb u (List.mem_of_mem_take (List.mem_of_getElem? hu))
      have hok' := hB.ok.opd u huo.at_
      refine JL.step (y_indexAddr_slice hT rfl rfl rfl rfl rfl (by (first | omega | exact Nat.le_of_ble_eq_true rfl | decide | (simp; omega))) (by (first | omega | exact Nat.le_of_ble_eq_true rfl | decide | (simp; omega)))) rfl rfl rfl ?_
      refine JL.step (y_loadN hT rfl rfl rfl (RdN.elem (by (repeat (first | assumption | apply RdN.cons | apply RdN.app))) (fun o _ => encO_length o) hu) rfl) rfl rfl rfl ?_
      refine JL.loud rfl (l_alloc hT rfl rfl (by (first | rfl | simp)) rfl (fun b26 => ?_))
      refine JL.loud rfl (l_storeAll hT rfl rfl rfl (by (first | rfl | assumption | (simp; done) | omega)) (by (first | assumption | exact ones_of rfl | exact encW_one _ | exact encB_one _ | (intro u hu; simp at hu; rcases hu with rfl | rfl <;> rfl) | (intro u hu; simp at hu; subst hu; rfl) | simp)) (by (repeat (first | exact Pick.head | apply Pick.tail | apply Pick.app))) (by (first | rfl | assumption | (simp; done) | omega)) ?_)
      refine JL.nil ?_
      refine JE.then_normal ?_
      refine J.seq ?_
      refine J.region ?_
      refine JL.step (y_move rfl) rfl rfl rfl ?_
      refine JL.step (y_loadN hT rfl rfl rfl (by (first | exact RdN.rowAll (by (repeat (first | exact Pick.head | apply Pick.tail | apply Pick.app))) | exact RdN.own (by (repeat (first | exact Pick.head | apply Pick.tail | apply Pick.app))))) (by (first | rfl | assumption | (simp; done) | omega))) rfl rfl rfl ?_
      refine JL.loud rfl (l_callF e23 rfl rfl (Fc.on (Split.cons (by (repeat (first | exact Pick.head | apply Pick.tail | apply Pick.app))) Split.nil) (hd d D u _ (by (repeat (first | assumption | apply OpA.Ok.cons | apply OpA.Ok.app))) (by omega) hub)) ?_)
      rintro _ _ ⟨rfl, rfl⟩
      refine JL.nil ?_
      refine JE.then_normal ?_
      refine J.region ?_
      refine JL.step (y_loadN hT rfl rfl rfl (by (first | exact RdN.rowAll (by (repeat (first | exact Pick.head | apply Pick.tail | apply Pick.app))) | exact RdN.own (by (repeat (first | exact Pick.head | apply Pick.tail | apply Pick.app))))) (by (first | rfl | assumption | (simp; done) | omega))) rfl rfl rfl ?_
      refine JL.step (y_loadN hT rfl rfl rfl (by (first | exact RdN.rowAll (by (repeat (first | exact Pick.head | apply Pick.tail | apply Pick.app))) | exact RdN.own (by (repeat (first | exact Pick.head | apply Pick.tail | apply Pick.app))))) (by (first | rfl | assumption | (simp; done) | omega))) rfl rfl rfl ?_
      refine JL.loud rfl (l_callF e24 rfl rfl (hw D x u _ _ j hB (by omega) (by (repeat (first | assumption | apply Rv.In.cons | apply Rv.In.app))) (by (repeat (first | assumption | apply OpA.Ok.cons | apply OpA.Ok.app)))) ?_)
      rintro _ _ ⟨x', g, rfl, hk', rfl, hxi'⟩
      refine JL.step (y_move rfl) rfl rfl rfl (JL.step (y_extract rfl rfl) rfl rfl rfl (JL.step (y_extract rfl rfl) rfl rfl rfl (JL.step (y_extract rfl rfl) rfl rfl rfl ?_)))
      refine JL.loud rfl (l_storeAll hT rfl rfl rfl (by (first | rfl | assumption | (simp; done) | omega)) (by (first | assumption | exact ones_of rfl | exact encW_one _ | exact encB_one _ | (intro u hu; simp at hu; rcases hu with rfl | rfl <;> rfl) | (intro u hu; simp at hu; subst hu; rfl) | simp)) (by (repeat (first | exact Pick.head | apply Pick.tail | apply Pick.app))) (by (first | rfl | assumption | (simp; done) | omega)) ?_)
      refine JL.nil ?_
      refine JE.block_normal ?_
      refine JE.then_normal ?_
      refine J.region ?_
      refine JL.step (y_add rfl rfl (by (first | exact wrap_i64 (by omega) (by omega) | rfl))) rfl rfl rfl ?_
      refine JL.step (y_move rfl) rfl rfl rfl ?_
      refine JL.nil ?_
    all_goals
      refine JE.round (s := (j, D, x, G)) (j + 1, (D.opd u).1, x', g ++ G) ⟨by dsimp only; omega, hB.next u hk' (by dsimp only; rw [List.append_assoc]; exact hxi' _ hin) hok'⟩ ⟨rfl, rfl, rfl, rfl, rfl, rfl, rfl, trivial⟩ (fun w q => ?_) (by dsimp only; omega)
      dsimp only
      rw [List.append_assoc]
      exact q.sup (by (repeat (first | exact Sup.refl | apply Sup.cons (by (repeat (first | exact Pick.head | apply Pick.tail | apply Pick.app))) | apply Sup.app | apply Sup.skip | apply Sup.skips)))
end
section
open Go.ChangeShapes Go.WideShapes Go.ChangeAt Go.RowKit
theorem disk_copies_reads : ∀ t ∈ Try.f7.params.toList, Try.prog.readableRec t = true ∧ t < Try.prog.types.size := by
  rw [Try.params7]
  intro t ht
  simp only [List.mem_cons, List.not_mem_nil, or_false] at ht
  rcases ht with rfl | rfl | rfl
  all_goals exact ⟨by kernel_rfl, of_decide_eq_true (by kernel_rfl)⟩
set_option maxRecDepth 100000 in
theorem disk_copies_contract (H : Type) (enc : TypeId × Value → H) (W : World) (base : Nat) (args : Array Value) (ds gs : List (DataW H)) (before : List MemPlace)
    (hval : ∀ (j : Nat) t v, Try.f7.params[j]? = some t → args[j]? = some v → Value.okWide Try.prog W .any base t v)
    (hW : DataW.Whole enc Try.prog Try.f7.params.toList Rows.diskCopiesSpec.vars false W args.toList ds gs before) (hk : Rows.uptoSmall H (ds ++ gs) = true) :
    Calls Try.prog 7 args W fun e W' => ∃ v, e = .returned v ∧ Rows.diskCopiesSpec.post enc Try.prog Try.f7 false true false false W args v W' := by
  have hW' := hW
  obtain ⟨p, q, hA0, hV, rfl, hfz, hnd⟩ := hW
  have hA : DataW.TrodAll enc Try.prog W 0 (fun _ => true) true Try.f7.params.toList args.toList ds p := hA0
  rw [Try.params7] at hA hval
  obtain ⟨v0, vs0, d0, ds0, p0, q0, hargs, rfl, rfl, h0, r0⟩ := trodAll_cons hA
  obtain ⟨v1, vs1, d1, ds1, p1, q1, rfl, rfl, rfl, h1, r1⟩ := trodAll_cons r0
  obtain ⟨v2, vs2, d2, ds2, p2, q2, rfl, rfl, rfl, h2, r2⟩ := trodAll_cons r1
  obtain ⟨rfl, rfl, rfl⟩ := trodAll_nil r2
  obtain rfl : args = #[v0, v1, v2] := by cases args; simp_all
  obtain ⟨rfl, rfl⟩ := trodVars_none hV
  clear hA0
  have t0 : Tr enc prog upOk W 22 [v0] := Tr.ofSlice u22 (hval 0 22 v0 rfl rfl) h0 (upOk_of hk d0 (by simp))
  have t1 : Tr enc prog upOk W 22 [v1] := Tr.ofSlice u22 (hval 1 22 v1 rfl rfl) h1 (upOk_of hk d1 (by simp))
  have t2 : Tr enc prog upOk W 22 [v2] := Tr.ofSlice u22 (hval 2 22 v2 rfl rfl) h2 (upOk_of hk d2 (by simp))
  obtain ⟨sp, cap, xs, rfl, _, hok, hin⟩ := tr_ops upHer t0
  have hx : OpsIn [old W] sp cap xs := ⟨hin.inl [], fun o ho => (hok o ho).here []⟩
  obtain ⟨sp2, cap2, ys, rfl, _, hok2, hin2⟩ := tr_ops upHer t1
  have hy : OpsIn [old W] sp2 cap2 ys := ⟨hin2.inl [], fun o ho => (hok2 o ho).here []⟩
  obtain ⟨sp3, cap3, zs, rfl, _, hok3, hin3⟩ := tr_ops upHer t2
  have hz : OpsIn [old W] sp3 cap3 zs := ⟨hin3.inl [], fun o ho => (hok3 o ho).here []⟩
  refine ((disk_copies W sp sp2 sp3 cap cap2 cap3 xs ys zs [old W] hx hy hz (fun o ho => by have := (hok o ho).few; omega) (fun o ho => by have := (hok2 o ho).few; omega) (fun o ho => by have := (hok3 o ho).few; omega)) W (Sat.start W)).mono fun e W' hq => ?_
  obtain ⟨v, l', rfl, hs, rfl, rfl⟩ := hq
  exact ⟨_, rfl, law_post laidOut_ rfl rfl u4 disk_copies_reads hW' rfl rfl rfl hs.below⟩
set_option maxRecDepth 100000 in
theorem disk_copies_lifted (os : Os) (started : os.Started) (H : Type) (enc : TypeId × Value → H) (F : Stop.Interp) :
    ReturnsInHanded {} Try.checked os 7 .any ((Rows.OpenSpec.upto Rows.diskCopiesSpec).pre6 enc Try.prog Try.f7 Rows.diskCopiesUptoRow.domain false) (((Rows.OpenSpec.upto Rows.diskCopiesSpec).at F).post enc Try.prog Try.f7 false true false false) := by
  refine returnsInHanded_of_cond (C := Try.checked) (s := Rows.OpenSpec.upto Rows.diskCopiesSpec) (k := Rows.uptoSmall) rfl own_ started (by kernel_rfl) Try.func7
    (OpenSpec.witness (enc := enc) (C := Try.checked) (s := Rows.OpenSpec.upto Rows.diskCopiesSpec) (k := Rows.uptoSmall) rfl false ⟨#[], #[.slice none 0 0, .slice none 0 0, .slice none 0 0], []⟩ 8 (by kernel_rfl) (by kernel_rfl) (by kernel_rfl)
      (x := ([.nil, .nil, .nil], [], [])) (by kernel_rfl) rfl (by kernel_rfl)) ?_
  intro W base args ds gs before hval hW _ hk _
  exact disk_copies_contract H enc W base args ds gs before hval hW hk
theorem disk_copies_holds : Rows.DiskCopiesUptoSaid :=
  OpenClaim.holds_of_cond 7 Try.f7 rfl rfl rfl rfl rfl rfl rfl ⟨rfl, rfl, rfl, rfl, rfl⟩ rfl rfl rfl rfl rfl (by kernel_rfl) Try.func7 (by kernel_rfl)
    (of_decide_eq_true (by kernel_rfl)) (by unfold Func.isWrapper; first | (rw [if_pos (by decide +kernel)]; kernel_rfl) | (rw [if_neg (by decide +kernel)]; exact ⟨rfl, rfl⟩))
    (fun os started H enc _ F => disk_copies_lifted os started H enc F)
end
end Go.Proofs.Ytilifeeddpkclaa
