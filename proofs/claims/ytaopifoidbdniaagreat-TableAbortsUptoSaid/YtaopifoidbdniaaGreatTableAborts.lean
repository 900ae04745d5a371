
/-
  hollowtreelaw13.TableAborts returns true for every input that is not too large for any machine, and leaves its input as it was. No condition.
-/
import Derived.Test.YtaopifoidbdniaaGreatJoin2
import Derived.Test.YtaopifoidbdniaaGreatJoin4
import Derived.Test.YtaopifoidbdniaaGreatJoin5
import Derived.Test.YtaopifoidbdniaaGreatJoin7
import Derived.Test.YtaopifoidbdniaaGreatJoin11
namespace Go.Proofs.YtaopifoidbdniaaGreat
open Go Go.SL
section
attribute [local irreducible] J JL JE JM LS Y Fc RV Code.wp wpList Code.wpIn wpListIn
attribute [local irreducible] Yc ltS
variable (E : World)
theorem table_aborts (x y : Rws) (more : Int) (r : List HProp) (hx : x.Ok r) (hy : y.Ok r) : Fc prog E 6 [.agg (rwsC x).toArray, .agg (rwsC y).toArray, .int .i64 more].toArray r (fun v l' => v = .bool true ∧ l' = r) := by
  refine Fc.eqs ?_
  obtain ⟨k, hk, hk1⟩ := range_n more 200 (by decide)
  have hk : (max more 0).tmod 200 = (k : Int) := hk
  obtain ⟨N, hN⟩ : ∃ N, 64 + k = N := ⟨_, rfl⟩
  obtain ⟨hL0, hl0⟩ := lh_format (n := N) (by omega) (by omega)
  obtain ⟨D0, hD0⟩ : ∃ D0, (Dk.new N).formatted = D0 := ⟨_, rfl⟩
  rw [hD0] at hL0 hl0
  have hT0 := Ties.new shs13_ok
  obtain ⟨B0, hB0⟩ : ∃ B0 : Bs, ⟨shs13, List.replicate shs13.length [], List.replicate shs13.length [], []⟩ = B0 := ⟨_, rfl⟩
  have hO0 : BOk B0 0 := by rw [← hB0]; exact BOk.start hT0.fit shs13_ok (by decide) 0
  have hs0 : B0.shs = shs13 := by rw [← hB0]
  have hT0 : Ties B0.shs B0.kept lg0 0 := by rw [← hB0]; exact hT0
  have clog : ∀ l, Fc prog E 12 [.int .i64 (N : Int)].toArray l (fun v l' => ∃ lg st d, v = .tuple #[.pointer (some ⟨lg, 0, none⟩), .pointer (some ⟨d, 0, none⟩)] ∧ l' = logm lg st lg0 :: row st 205 (scells sb0 d) :: disk d D0 :: l) := fun l => by rw [← hD0]; exact log13_spec E N (by omega) (by omega) l
  have copen : ∀ lg st g l, Fc prog E 13 [.pointer (some ⟨lg, 0, none⟩), .slice (some ⟨g, 0, none⟩) 2 2].toArray (logm lg st lg0 :: row g 71 (shs13.flatMap shC) :: l) (fun v l' => ∃ b, v = .tuple #[.pointer (some ⟨b, 0, none⟩), .int .i64 0] ∧ l' = baseM b lg B0 :: logm lg st lg0 :: row g 71 (shs13.flatMap shC) :: l) := fun lg st g l => by
    rw [← hB0]
    exact topen_ties E lg st 2 lg0 shs13 _ 0 _ _ (Ties.new shs13_ok) (by decide) rfl (by decide) (by decide) shs13_ok _ (InL.ofRow (cs := shs13.flatMap shC) Jm (by decide))
  obtain ⟨B1, hB1⟩ : ∃ B1, x.on B0 = B1 := ⟨_, rfl⟩
  have hO1 : BOk B1 20 := by rw [← hB1]; exact x.on_ok hO0
  have hs1 : B1.shs = shs13 := by rw [← hB1]; exact (putsB_kept _ _ _ _).1.trans hs0
  have hk1' : B1.kept = B0.kept := by rw [← hB1]; exact (putsB_kept _ _ _ _).2
  have hrow1 : ∀ h ∈ B1.shs, h.rows ≤ (12 : Nat) := by rw [hs1]; exact shs13_rows
  obtain ⟨B2, hB2⟩ : ∃ B2, B1.done = B2 := ⟨_, rfl⟩
  have hO2 : BOk B2 0 := by rw [← hB2]; exact hO1.done 0
  have hs2 : B2.shs = shs13 := by rw [← hB2]; exact hs1
  have hkm2 : B2.kept = B1.meant := by rw [← hB2]; rfl
  have hmm2 : B2.meant = B1.meant := by rw [← hB2]; rfl
  obtain ⟨T, hT2⟩ : ∃ T, stB B1.meant = T := ⟨_, rfl⟩
  have hsm : Small T := by rw [← hT2]; exact hO1.small
  have hTl := hsm.len
  obtain ⟨B3, hB3⟩ : ∃ B3, y.on B2 = B3 := ⟨_, rfl⟩
  have hO3 : BOk B3 20 := by rw [← hB3]; exact y.on_ok hO2
  have hs3 : B3.shs = shs13 := by rw [← hB3]; exact (putsB_kept _ _ _ _).1.trans hs2
  have hk3 : B3.kept = B1.meant := by rw [← hB3]; exact (putsB_kept _ _ _ _).2.trans hkm2
  obtain ⟨B4, hB4⟩ : ∃ B4 : Bs, { B3 with meant := B3.kept, turned := [] } = B4 := ⟨_, rfl⟩
  have hO4 : BOk B4 0 := by rw [← hB4]; exact hO3.abort 0
  have hs4 : B4.shs = shs13 := by rw [← hB4]; exact hs3
  have hm4 : stB B4.meant = T := by rw [← hB4, ← hT2, ← hk3]
  have ht4 : B4.turned = [] := by rw [← hB4]
  have cabort : ∀ b lg l, Fc prog E 36 [.pointer (some ⟨b, 0, none⟩)].toArray (baseM b lg B3 :: l) (fun v l' => v = .int .i64 0 ∧ l' = baseM b lg B4 :: l) := fun b lg l => by rw [← hB4]; exact abort_spec E b lg B3 hO3.n8 l
  have cdirty : ∀ b lg l, Fc prog E 34 [.pointer (some ⟨b, 0, none⟩)].toArray (baseM b lg B4 :: l) (fun v l' => v = .int .i64 0 ∧ l' = baseM b lg B4 :: l) := fun b lg l => by
    have q := dirty_spec E b lg B4 l
    rwa [ht4] at q
  have cput1 : ∀ b lg l, x.Ok l → Fc prog E 15 [.agg (rwsC x).toArray, .pointer (some ⟨b, 0, none⟩)].toArray (baseM b lg B0 :: l) (fun v l' => v = .tuple #[] ∧ l' = baseM b lg B1 :: l) := fun b lg l h => by rw [← hB1]; exact put13_spec E b lg B0 x 0 hO0 (by decide) (by rw [hs0]; rfl) l h
  have cput2 : ∀ b lg l, y.Ok l → Fc prog E 15 [.agg (rwsC y).toArray, .pointer (some ⟨b, 0, none⟩)].toArray (baseM b lg B2 :: l) (fun v l' => v = .tuple #[] ∧ l' = baseM b lg B3 :: l) := fun b lg l h => by rw [← hB3]; exact put13_spec E b lg B2 y 0 hO2 (by decide) (by rw [hs2]; rfl) l h
  have sb0t : sb0.turn.toNat = 0 := rfl
  obtain ⟨B5, hB5⟩ : ∃ B5 : Bs, ⟨shs13, B1.meant, B1.meant, []⟩ = B5 := ⟨_, rfl⟩
  have hO5 : BOk B5 0 := by
    rw [← hB5, ← hs1]
    exact BOk.start hO1.mfit hO1.sh hO1.n8 0
  have hs5 : B5.shs = shs13 := by rw [← hB5]
  have hm5 : stB B5.meant = T := by rw [← hB5]; exact hT2
  refine Jw (c := ?codeC) Tryz.func6 ?hb Tryz.ntmps6 ?hl ?_
  case hb => exact rfl
  case hl => exact rfl
  refine Jh ?_
  refine Jc ?_
  refine Jj rfl (l_box (cs := rwsC x) U U U (fun b3 => ?_))
  refine Jj rfl (l_box (cs := rwsC y) U U U (fun b4 => ?_))
  refine Jb (Jf rfl) U U U ?_
  refine Jg ?_
  refine Ja ?_
  refine Jh ?_
  refine Jh ?_
  refine Jc ?_
  refine Jj rfl (Ju e11 U U (wakes13_spec E _) ?_)
  rintro _ l1 ⟨rfl, e1⟩
  obtain rfl := e1.symm
  refine Jb (y_not rfl) U U U ?_
  refine Jg ?_
  refine Ja ?_
  refine Ve rfl zbl ?_
  refine Vd ?_
  refine Ja ?_
  refine Jh ?_
  refine Jc ?_
  refine Jb (Je rfl) U U U ?_
  refine Jb (y_max2 U U U) U U U ?_
  refine Jb (y_rem U U (by decide) hk) U U U ?_
  refine Jb (y_add (m := (N : Int)) U U (by rw [show (64 : Int) + (k : Int) = (N : Int) by omega]; exact wrap_i64 (by omega) (by omega))) U U U ?_
  refine Jj rfl (Ju e12 U U (clog _) ?_)
  rintro _ _ ⟨lg, st, d, rfl, rfl⟩
  refine Jb (Je rfl) U U U (Jb (Vb U U) U U U (Jb (Vb U U) U U U (Jb (Jf rfl) U U U (Jb (Jf rfl) U U U ?_))))
  refine Jg ?_
  refine Ja ?_
  refine Jh ?_
  refine Jc ?_
  refine Jb (Je rfl) U U U ?_
  refine Jj rfl (Ju e14 U U (shapes13_spec E _) ?_)
  rintro _ _ ⟨g1, rfl, rfl⟩
  refine Jj rfl (Ju e13 U U (Vy (Ji zpk (Ji (A := row g1 71 (shs13.flatMap shC)) zpk Jk)) (copen lg st g1 _)) ?_)
  rintro _ _ ⟨b, rfl, rfl⟩
  refine Jb (Je rfl) U U U (Jb (Vb U U) U U U (Jb (Vb U U) U U U (Jb (Jf rfl) U U U (Jb (Jf rfl) U U U ?_))))
  refine Jg ?_
  refine Ja ?_
  refine Jh ?_
  refine Jh ?_
  refine Jc ?_
  refine Jb (Je rfl) U U U (Jb (y_neq U U) U U U ?_)
  refine Jg ?_
  refine Ja ?_
  refine Ve rfl zbl ?_
  refine Vd ?_
  refine Ja ?_
  refine Jh ?_
  refine Jc ?_
  refine Jb (Wf hT U U U (RdN.rowAll (cs := rwsC x) zpk) rfl) U U U ?_
  refine Jb (Je rfl) U U U ?_
  refine Jj rfl (Ju e15 U U (Vy (Ji (A := baseM b lg B0) zpk Jk) (cput1 b lg _ ⟨by have := hx.kin; (repeat (first | assumption | apply InL.cons | apply InL.app)), by have := hx.vin; (repeat (first | assumption | apply InL.cons | apply InL.app)), hx.ksm, hx.vsm, hx.kl, hx.vl⟩)) ?_)
  rintro _ _ ⟨rfl, rfl⟩
  refine Jg ?_
  refine Ja ?_
  rcases commit_none E (sortOk12 E) hL0 hO1 (by decide) (by rw [hs1, hk1', ← hs0]; exact hT0) (by decide) hrow1 (by rw [sb0t]; decide) with ⟨La, Sa, D1, hL1, hTi, hl1, htn1, hc1⟩ | ⟨_, hc1⟩
  ·
    rw [hB2] at hc1
    refine Jh ?_
    refine Jh ?_
    refine Jc ?_
    refine Jb (Je rfl) U U U ?_
    refine Jj rfl (Ju e35 U U (Vy (Ji (A := baseM b lg B1) zpk (Ji (A := logm lg st lg0) zpk (Ji (A := row st 205 (scells sb0 d)) zpk (Ji (A := disk d D0) zpk Jk)))) (hc1 b lg st d _)) ?_)
    rintro _ _ ⟨rfl, rfl⟩
    refine Jb (Jf rfl) U U U ?_
    refine Jg ?_
    refine Ja ?_
    refine Jh ?_
    refine Jc ?_
    refine Jb (Je rfl) U U U (Jb (y_neq U U) U U U ?_)
    refine Jg ?_
    refine Ja ?_
    refine Ve rfl zbl ?_
    refine Vd ?_
    refine Ja ?_
    refine Jh ?_
    refine Jc ?_
    refine Jb (Je rfl) U U U ?_
    refine Jj rfl (Ju e20 U U (Vy (Ji (A := baseM b lg B2) zpk Jk) (state13 E (sortOk12 E) b lg B2 hO2 (by rw [hs2]; exact shs13_rows) T (by rw [hmm2]; exact hT2) _)) ?_)
    rintro _ _ ⟨a12, c12, rfl, rfl⟩
    refine Jb (Jf rfl) U U U ?_
    refine Jg ?_
    refine Ja ?_
    refine Jh ?_
    refine Jc ?_
    refine Jb (Wf hT U U U (RdN.rowAll (cs := rwsC y) zpk) rfl) U U U ?_
    refine Jb (Je rfl) U U U ?_
    refine Jj rfl (Ju e15 U U (Vy (Ji (A := baseM b lg B2) zpk Jk) (cput2 b lg _ ⟨by have := hy.kin; (repeat (first | assumption | apply InL.cons | apply InL.app)), by have := hy.vin; (repeat (first | assumption | apply InL.cons | apply InL.app)), hy.ksm, hy.vsm, hy.kl, hy.vl⟩)) ?_)
    rintro _ _ ⟨rfl, rfl⟩
    refine Jg ?_
    refine Ja ?_
    refine Jh ?_
    refine Jc ?_
    refine Jb (Je rfl) U U U ?_
    refine Jj rfl (Ju e37 U U (Vy (Ji (A := disk d D1) zpk Jk) (ops_spec E d D1 _)) ?_)
    rintro _ _ ⟨rfl, rfl⟩
    refine Jb (Jf rfl) U U U ?_
    refine Jg ?_
    refine Ja ?_
    refine Jh ?_
    refine Jh ?_
    refine Jc ?_
    refine Jb (Je rfl) U U U ?_
    refine Jj rfl (Ju e36 U U (Vy (Ji (A := baseM b lg B3) zpk Jk) (cabort b lg _)) ?_)
    rintro _ _ ⟨rfl, rfl⟩
    refine Jb (y_neq U U) U U U (Jb (Je rfl) U U U ?_)
    all_goals (first | (refine Vg U U U (fun h => ?_) (fun h => ?_) <;> try (first | (exfalso; omega) | exact absurd rfl h)) | (refine Vw U U U (fun h => ?_) (fun h => ?_) <;> try (first | cases h | (exfalso; simp at h; done))) | skip)
    all_goals (first | refine Jt U U U U U U ?_ | refine Jp U U U U U ?_ | refine Jv U U U (Je rfl) U U ?_)
    all_goals (first | refine Jt U U U U U U ?_ | refine Jp U U U U U ?_ | (refine JL.gloud U U U (Ju e34 U U (Vy (Ji (A := baseM b lg B4) zpk Jk) (cdirty b lg _)) ?_); rintro _ _ ⟨rfl, rfl⟩))
    all_goals (first | refine Jt U U U U U U ?_ | refine Jp U U U U U ?_ | refine Jv U U U (y_neq U U) U U ?_)
    all_goals (refine Jb (Wh U U U) U U U ?_)
    all_goals (refine Jb (Je rfl) U U U ?_)
    all_goals (first | (refine Vg U U U (fun h => ?_) (fun h => ?_) <;> try (first | (exfalso; omega) | exact absurd rfl h)) | (refine Vw U U U (fun h => ?_) (fun h => ?_) <;> try (first | cases h | (exfalso; simp at h; done))) | skip)
    all_goals (first | refine Jt U U U U U U ?_ | refine Jp U U U U U ?_ | refine Jv U U U (Je rfl) U U ?_)
    all_goals (first | refine Jt U U U U U U ?_ | refine Jp U U U U U ?_ | (refine JL.gloud U U U (Ju e20 U U (Vy (Ji (A := baseM b lg B4) zpk Jk) (state13 E (sortOk12 E) b lg B4 hO4 (by rw [hs4]; exact shs13_rows) T hm4 _)) ?_); rintro _ _ ⟨a59, c59, rfl, rfl⟩))
    all_goals (first | refine Jt U U U U U U ?_ | refine Jp U U U U U ?_ | refine Jv U U U (Je rfl) U U ?_)
    all_goals (first | refine Jt U U U U U U ?_ | refine Jp U U U U U ?_ | (refine JL.gloud U U U (Ju e19 U U (Fc.fact (p := OwnAt a12 T.length c12 (ints .u8 T)) (fun w s => Vr (s.pick zpk)) fun o1 => Fc.fact (p := OwnAt a59 T.length c59 (ints .u8 T)) (fun w s => Vr (s.pick zpk)) fun o2 => equal_same E T hsm.bytes (by omega) _ _ _ _ _ (o2.inl zpk) (o1.inl zpk)) ?_); rintro _ _ ⟨rfl, rfl⟩))
    all_goals (first | refine Jt U U U U U U ?_ | refine Jp U U U U U ?_ | refine Jv U U U (y_not rfl) U U ?_)
    all_goals (refine Jb (Wh U U U) U U U ?_)
    all_goals (refine Jb (Je rfl) U U U ?_)
    all_goals (first | (refine Vg U U U (fun h => ?_) (fun h => ?_) <;> try (first | (exfalso; omega) | exact absurd rfl h)) | (refine Vw U U U (fun h => ?_) (fun h => ?_) <;> try (first | cases h | (exfalso; simp at h; done))) | skip)
    all_goals (first | refine Jt U U U U U U ?_ | refine Jp U U U U U ?_ | refine Jv U U U (Je rfl) U U ?_)
    all_goals (first | refine Jt U U U U U U ?_ | refine Jp U U U U U ?_ | (refine JL.gloud U U U (Ju e35 U U (Vy (Ji (A := baseM b lg B4) zpk Jk) (commit_clean E b lg B4 ht4 _)) ?_); rintro _ _ ⟨rfl, rfl⟩))
    all_goals (first | refine Jt U U U U U U ?_ | refine Jp U U U U U ?_ | refine Jv U U U (y_neq U U) U U ?_)
    all_goals (refine Jb (Wh U U U) U U U ?_)
    all_goals (refine Jb (Je rfl) U U U ?_)
    all_goals (first | (refine Vg U U U (fun h => ?_) (fun h => ?_) <;> try (first | (exfalso; omega) | exact absurd rfl h)) | (refine Vw U U U (fun h => ?_) (fun h => ?_) <;> try (first | cases h | (exfalso; simp at h; done))) | skip)
    all_goals (first | refine Jt U U U U U U ?_ | refine Jp U U U U U ?_ | refine Jv U U U (Je rfl) U U ?_)
    all_goals (first | refine Jt U U U U U U ?_ | refine Jp U U U U U ?_ | (refine JL.gloud U U U (Ju e37 U U (Vy (Ji (A := disk d D1) zpk Jk) (ops_spec E d D1 _)) ?_); rintro _ _ ⟨rfl, rfl⟩))
    all_goals (first | refine Jt U U U U U U ?_ | refine Jp U U U U U ?_ | refine Jv U U U (Je rfl) U U ?_)
    all_goals (first | refine Jt U U U U U U ?_ | refine Jp U U U U U ?_ | (refine Jv U U U (y_neqB (b := false) U U (decide_eq_false (fun h => h rfl))) U U ?_))
    all_goals (refine Jb (Wh U U U) U U U ?_)
    all_goals refine Jg ?_
    all_goals refine Ja ?_
    all_goals
      refine Ve rfl zbl ?_
      refine Vd ?_
    all_goals refine Ja ?_
    all_goals
      refine Jh ?_
      refine Jc ?_
      refine Jb (Je rfl) U U U ?_
      refine Jj rfl (Ju e38 U U (Vy (Ji (A := disk d D1) zpk Jk) (again13_spec E d _ hL1 (by omega))) ?_)
      rintro _ _ ⟨lg2, st2, rfl, rfl⟩
      refine Jj rfl (Ju e14 U U (shapes13_spec E _) ?_)
      rintro _ _ ⟨g2, rfl, rfl⟩
      refine Jj rfl (Ju e13 U U (Vy (Ji (A := logm lg2 st2 La) zpk Jk) (topen_ties E lg2 st2 2 La shs13 B1.meant 1 _ _ (hs1 ▸ hTi) (by decide) rfl (by decide) (by decide) shs13_ok _ (InL.ofRow (cs := shs13.flatMap shC) zpk (by decide)))) ?_)
      rintro _ _ ⟨b5, rfl, rfl⟩
      refine Jb (Je rfl) U U U (Jb (Vb U U) U U U (Jb (Vb U U) U U U (Jb (Jf rfl) U U U (Jb (Jf rfl) U U U ?_))))
      refine Jg ?_
      refine Ja ?_
      refine Jh ?_
      rw [hB5]
      all_goals
        refine Jc ?_
        refine Jb (Je rfl) U U U (Jb (y_eql U U) U U U (Jb (Je rfl) U U U ?_))
        all_goals (first | (refine Vg U U U (fun h => ?_) (fun h => ?_) <;> try (first | (exfalso; omega) | exact absurd rfl h)) | (refine Vw U U U (fun h => ?_) (fun h => ?_) <;> try (first | cases h | (exfalso; simp at h; done))) | skip)
        all_goals (first | refine Jt U U U U U U ?_ | refine Jp U U U U U ?_ | refine Jv U U U (Je rfl) U U ?_)
        all_goals (first | refine Jt U U U U U U ?_ | refine Jp U U U U U ?_ | (refine JL.gloud U U U (Ju e20 U U (Vy (Ji (A := baseM b5 lg2 B5) zpk Jk) (state13 E (sortOk12 E) b5 lg2 B5 hO5 (by rw [hs5]; exact shs13_rows) T hm5 _)) ?_); rintro _ _ ⟨a86, c86, rfl, rfl⟩))
        all_goals (first | refine Jt U U U U U U ?_ | refine Jp U U U U U ?_ | refine Jv U U U (Je rfl) U U ?_)
        all_goals (first | refine Jt U U U U U U ?_ | refine Jp U U U U U ?_ | (refine JL.gloud U U U (Ju e19 U U (Fc.fact (p := OwnAt a12 T.length c12 (ints .u8 T)) (fun w s => Vr (s.pick zpk)) fun o1 => Fc.fact (p := OwnAt a86 T.length c86 (ints .u8 T)) (fun w s => Vr (s.pick zpk)) fun o2 => equal_same E T hsm.bytes (by omega) _ _ _ _ _ (o2.inl zpk) (o1.inl zpk)) ?_); rintro _ _ ⟨rfl, rfl⟩))
        all_goals (refine Jb (Wh U U U) U U U ?_)
        all_goals (refine Jb (Jf rfl) U U U ?_)
        all_goals refine Jg ?_
      all_goals refine Ja ?_
      all_goals
        refine Vk ?_
        refine Vf (.inl rfl) U U zrv ?_
        exact ⟨rfl, fun w q => q.sup zsup⟩
  ·
    skip
    refine Jh ?_
    refine Jh ?_
    refine Jc ?_
    refine Jb (Je rfl) U U U ?_
    refine Jj rfl (Ju e35 U U (Vy (Ji (A := baseM b lg B1) zpk (Ji (A := logm lg st lg0) zpk (Ji (A := row st 205 (scells sb0 d)) zpk (Ji (A := disk d D0) zpk Jk)))) (hc1 b lg st d _)) ?_)
    rintro _ _ ⟨rfl, rfl⟩
    refine Jb (Jf rfl) U U U ?_
    refine Jg ?_
    refine Ja ?_
    refine Jh ?_
    refine Jc ?_
    refine Jb (Je rfl) U U U (Jb (y_neq U U) U U U ?_)
    refine Jg ?_
    refine Ja ?_
    refine J.cond_t rfl zbl ?_
    refine Jh ?_
    refine Jc ?_
    refine Jb (Je rfl) U U U (Jb (y_eql U U) U U U (Jb (Jf rfl) U U U ?_))
    refine Jg ?_
    refine Ja ?_
    refine Vk ?_
    refine Jy ?_
    refine Vf (.inl rfl) U U zrv ?_
    exact ⟨rfl, fun w q => q.sup zsup⟩
end
section
open Go.ChangeShapes Go.WideShapes Go.ChangeAt Go.RowKit
theorem table_aborts_reads : ∀ t ∈ Tryz.f6.params.toList, Tryz.prog.readableRec t = true ∧ t < Tryz.prog.types.size := by
  rw [Tryz.params6]
  intro t ht
  simp only [List.mem_cons, List.not_mem_nil, or_false] at ht
  rcases ht with rfl | rfl | rfl
  all_goals exact ⟨by kernel_rfl, of_decide_eq_true (by kernel_rfl)⟩
set_option maxRecDepth 100000 in
theorem table_aborts_contract (H : Type) (enc : TypeId × Value → H) (W : World) (base : Nat) (args : Array Value) (ds gs : List (DataW H)) (before : List MemPlace)
    (hval : ∀ (j : Nat) t v, Tryz.f6.params[j]? = some t → args[j]? = some v → Value.okWide Tryz.prog W .any base t v)
    (hW : DataW.Whole enc Tryz.prog Tryz.f6.params.toList Rows.tableAbortsSpec.vars false W args.toList ds gs before) (hk : Rows.uptoSmall H (ds ++ gs) = true) :
    Calls Tryz.prog 6 args W fun e W' => ∃ v, e = .returned v ∧ Rows.tableAbortsSpec.post enc Tryz.prog Tryz.f6 false true false false W args v W' := by
  have hW' := hW
  obtain ⟨p, q, hA0, hV, rfl, hfz, hnd⟩ := hW
  have hA : DataW.TrodAll enc Tryz.prog W 0 (fun _ => true) true Tryz.f6.params.toList args.toList ds p := hA0
  rw [Tryz.params6] at hA hval
  obtain ⟨v0, vs0, d0, ds0, p0, q0, hargs, rfl, rfl, h0, r0⟩ := trodAll_cons hA
  obtain ⟨v1, vs1, d1, ds1, p1, q1, rfl, rfl, rfl, h1, r1⟩ := trodAll_cons r0
  obtain ⟨v2, vs2, d2, ds2, p2, q2, rfl, rfl, rfl, h2, r2⟩ := trodAll_cons r1
  obtain ⟨rfl, rfl, rfl⟩ := trodAll_nil r2
  obtain rfl : args = #[v0, v1, v2] := by cases args; simp_all
  obtain ⟨rfl, rfl⟩ := trodVars_none hV
  clear hA0
  obtain ⟨cs0, rfl, t0⟩ := Tr.ofStruct (ok := upOk) u24 (hval 0 24 v0 U U) h0 (upOk_of hk d0 (by simp))
  obtain ⟨cs1, rfl, t1⟩ := Tr.ofStruct (ok := upOk) u24 (hval 1 24 v1 U U) h1 (upOk_of hk d1 (by simp))
  have t2 : Tr enc prog upOk W 3 [v2] := Tr.ofInt u3 (hval 2 3 v2 U U) h2 (upOk_of hk d2 (by simp))
  obtain ⟨x, rfl, hx⟩ := tr_rws upHer t0
  obtain ⟨y, rfl, hy⟩ := tr_rws upHer t1
  obtain ⟨n, e0, hn⟩ := Tr.int u3 t2
  cases e0
  refine ((table_aborts W x y n [old W] hx hy) W (Sat.start W)).mono fun e W' hq => ?_
  obtain ⟨v, l', rfl, hs, rfl, rfl⟩ := hq
  exact ⟨_, rfl, law_post laidOut_ U U u4 table_aborts_reads hW' U U U hs.below⟩
set_option maxRecDepth 100000 in
theorem table_aborts_lifted (os : Os) (started : os.Started) (H : Type) (enc : TypeId × Value → H) (F : Stop.Interp) :
    ReturnsInHanded {} Tryz.checked os 6 .any ((Rows.OpenSpec.upto Rows.tableAbortsSpec).pre6 enc Tryz.prog Tryz.f6 Rows.tableAbortsUptoRow.domain false) (((Rows.OpenSpec.upto Rows.tableAbortsSpec).at F).post enc Tryz.prog Tryz.f6 false true false false) := by
  refine returnsInHanded_of_cond (C := Tryz.checked) (s := Rows.OpenSpec.upto Rows.tableAbortsSpec) (k := Rows.uptoSmall) rfl own_ started (by kernel_rfl) Tryz.func6
    (OpenSpec.witness (enc := enc) (C := Tryz.checked) (s := Rows.OpenSpec.upto Rows.tableAbortsSpec) (k := Rows.uptoSmall) rfl false ⟨#[], #[.agg #[.slice none 0 0, .slice none 0 0], .agg #[.slice none 0 0, .slice none 0 0], .int .i64 0], []⟩ 8 (by kernel_rfl) (by kernel_rfl) (by kernel_rfl)
      (x := ([.agg [.nil, .nil], .agg [.nil, .nil], .lit (.int .i64 0)], [], [])) (by kernel_rfl) rfl (by kernel_rfl)) ?_
  intro W base args ds gs before hval hW _ hk _
  exact table_aborts_contract H enc W base args ds gs before hval hW hk
theorem table_aborts_holds : Rows.TableAbortsUptoSaid :=
  OpenClaim.holds_of_cond 6 Tryz.f6 U U U U U U U ⟨rfl, rfl, rfl, rfl, rfl⟩ U U U U U (by kernel_rfl) Tryz.func6 (by kernel_rfl)
    (of_decide_eq_true (by kernel_rfl)) (by unfold Func.isWrapper; first | (rw [if_pos (by decide +kernel)]; kernel_rfl) | (rw [if_neg (by decide +kernel)]; exact ⟨rfl, rfl⟩))
    (fun os started H enc _ F => table_aborts_lifted os started H enc F)
end
end Go.Proofs.YtaopifoidbdniaaGreat
