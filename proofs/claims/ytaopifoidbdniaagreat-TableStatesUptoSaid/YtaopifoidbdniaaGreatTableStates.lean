
/-
  hollowtreelaw13.TableStates returns true for every input that is not too large for any machine, and leaves its input as it was. No condition.
-/
import Derived.Test.YtaopifoidbdniaaGreatJoin2
import Derived.Test.YtaopifoidbdniaaGreatJoin4
import Derived.Test.YtaopifoidbdniaaGreatJoin5
import Derived.Test.YtaopifoidbdniaaGreatJoin11
namespace Go.Proofs.YtaopifoidbdniaaGreat
open Go Go.SL
section
/-- Are the first tables the same? -/
def sAll (A B : List (List Rw)) : Nat → Bool
  | 0 => true
  | i + 1 => sAll A B i && decide (A.getD i [] = B.getD i [])
theorem sAll_two {A B : List (List Rw)} (hA : A.length = 2) (hB : B.length = 2) : sAll A B 2 = decide (A = B) := by
  match A, hA, B, hB with
  | [a, b], _, [c, d], _ =>
    rw [Bool.eq_iff_iff]
    simp [sAll]
attribute [local irreducible] J JL JE JM LS Y Fc RV Code.wp wpList Code.wpIn wpListIn
attribute [local irreducible] Yc ltS
variable (E : World)
set_option maxHeartbeats 1000000 in
theorem table_states (x y : Rws) (r : List HProp) (hx : x.Ok r) (hy : y.Ok r) :
    Fc prog E 3 [.agg (rwsC x).toArray, .agg (rwsC y).toArray].toArray r (fun v l' => v = .bool true ∧ l' = r) := by
  refine Fc.eqs ?_
  have hT0 := Ties.new shs13_ok
  obtain ⟨B0, hB0⟩ : ∃ B0 : Bs, ⟨shs13, List.replicate shs13.length [], List.replicate shs13.length [], []⟩ = B0 := ⟨_, rfl⟩
  have hO0 : BOk B0 0 := by rw [← hB0]; exact BOk.start hT0.fit shs13_ok (by decide) 0
  have hs0 : B0.shs = shs13 := by rw [← hB0]
  have copen : ∀ lg st g l, Fc prog E 13 [.pointer (some ⟨lg, 0, none⟩), .slice (some ⟨g, 0, none⟩) 2 2].toArray (logm lg st lg0 :: row g 71 (shs13.flatMap shC) :: l) (fun v l' => ∃ b, v = .tuple #[.pointer (some ⟨b, 0, none⟩), .int .i64 0] ∧ l' = baseM b lg B0 :: logm lg st lg0 :: row g 71 (shs13.flatMap shC) :: l) := fun lg st g l => by
    rw [← hB0]
    exact topen_ties E lg st 2 lg0 shs13 _ 0 _ _ (Ties.new shs13_ok) (by decide) rfl (by decide) (by decide) shs13_ok _ (InL.ofRow (cs := shs13.flatMap shC) Jm (by decide))
  obtain ⟨X, hX⟩ : ∃ B1, x.on B0 = B1 := ⟨_, rfl⟩
  have hOX : BOk X 20 := by rw [← hX]; exact x.on_ok hO0
  have hsX : X.shs = shs13 := by rw [← hX]; exact (putsB_kept _ _ _ _).1.trans hs0
  have hrX : ∀ h ∈ X.shs, h.rows ≤ (12 : Nat) := by rw [hsX]; exact shs13_rows
  obtain ⟨Y, hY⟩ : ∃ B1, y.on B0 = B1 := ⟨_, rfl⟩
  have hOY : BOk Y 20 := by rw [← hY]; exact y.on_ok hO0
  have hsY : Y.shs = shs13 := by rw [← hY]; exact (putsB_kept _ _ _ _).1.trans hs0
  have hrY : ∀ h ∈ Y.shs, h.rows ≤ (12 : Nat) := by rw [hsY]; exact shs13_rows
  have hlX : X.meant.length = 2 := by rw [hOX.mfit.len, hsX]; rfl
  have hlY : Y.meant.length = 2 := by rw [hOY.mfit.len, hsY]; rfl
  have cput1 : ∀ b lg l, x.Ok l → Fc prog E 15 [.agg (rwsC x).toArray, .pointer (some ⟨b, 0, none⟩)].toArray (baseM b lg B0 :: l) (fun v l' => v = .tuple #[] ∧ l' = baseM b lg X :: l) := fun b lg l h => by rw [← hX]; exact put13_spec E b lg B0 x 0 hO0 (by decide) (by rw [hs0]; rfl) l h
  have cput2 : ∀ b lg l, y.Ok l → Fc prog E 15 [.agg (rwsC y).toArray, .pointer (some ⟨b, 0, none⟩)].toArray (baseM b lg B0 :: l) (fun v l' => v = .tuple #[] ∧ l' = baseM b lg Y :: l) := fun b lg l h => by rw [← hY]; exact put13_spec E b lg B0 y 0 hO0 (by decide) (by rw [hs0]; rfl) l h
  obtain ⟨TX, hTX⟩ : ∃ T, stB X.meant = T := ⟨_, rfl⟩
  have hsmX : Small TX := by rw [← hTX]; exact hOX.small
  have hlTX := hsmX.len
  obtain ⟨TY, hTY⟩ : ∃ T, stB Y.meant = T := ⟨_, rfl⟩
  have hsmY : Small TY := by rw [← hTY]; exact hOY.small
  have hlTY := hsmY.len
  have hfin : (sAll X.meant Y.meant 2 == decide (TX = TY)) = true := by
    rw [sAll_two hlX hlY, ← hTX, ← hTY, beq_iff_eq]
    apply decide_eq_decide.2
    exact ⟨fun e => by rw [e], stB_inj (hOX.mfit.rok hOX.sh) (hOY.mfit.rok hOY.sh) (by rw [hlX, hlY])⟩
  have cequ : ∀ (v u : ByteArray) (p q : Option Addr) (c1 c2 : Nat) l, v.size ≤ 1000000 → u.size ≤ 1000000 → InL l p v.size c1 (ints .u8 (bytesS v)) → InL l q u.size c2 (ints .u8 (bytesS u)) → Fc prog E 19 [.slice p v.size c1, .slice q u.size c2].toArray l (fun z l' => z = .bool (decide (v = u)) ∧ l' = l) := fun v u p q c1 c2 l h1 h2 h3 h4 => by
    have hb : ∀ s : ByteArray, Bytes (bytesS s) := fun s y hy => txtB_bytes s y (List.mem_append_right _ hy)
    have z := equal_spec E p q c1 c2 (bytesS v) (bytesS u) l (hb v) (hb u) (by rw [bytesS_length]; exact h3) (by rw [bytesS_length]; exact h4) (by rw [bytesS_length]; omega) (by rw [bytesS_length]; omega)
    rw [bytesS_length, bytesS_length] at z
    rwa [show decide (bytesS v = bytesS u) = decide (v = u) from decide_eq_decide.2 ⟨bytesS_inj, fun e => by rw [e]⟩] at z
  refine Fc.of_bodyM (c := ?codeC) Tryz.func3 ?hb Tryz.ntmps3 ?hl ?_
  case hb => exact rfl
  case hl => exact rfl
  refine Jh ?_
  refine Jc ?_
  refine Jk rfl (l_box (cs := rwsC x) U U U (fun b3 => ?_))
  refine Jk rfl (l_box (cs := rwsC y) U U U (fun b4 => ?_))
  refine Jb (Jf rfl) U U U ?_
  refine Jg ?_
  refine Ja ?_
  refine Jh ?_
  refine Jh ?_
  refine Jc ?_
  refine Jk rfl (Ju e11 U U (wakes13_spec E _) ?_)
  rintro _ l1 ⟨rfl, e1⟩
  obtain rfl := e1.symm
  refine Jb (y_not rfl) U U U ?_
  refine Jg ?_
  refine Ja ?_
  refine Vo rfl zbl ?_
  refine Vd ?_
  refine Ja ?_
  refine Jh ?_
  refine Jc ?_
  refine Jk rfl (Ju e12 U U (log13_spec E 64 (by decide) (by decide) _) ?_)
  rintro _ _ ⟨lga, sta, da, rfl, rfl⟩
  refine Jb (Je rfl) U U U (Jb (Vi U U) U U U (Jb (Vi U U) U U U (Jb (Jf rfl) U U U (Jb (Jf rfl) U U U ?_))))
  refine Jg ?_
  refine Ja ?_
  refine Jh ?_
  refine Jc ?_
  refine Jk rfl (Ju e12 U U (log13_spec E 64 (by decide) (by decide) _) ?_)
  rintro _ _ ⟨lgb, stb, db, rfl, rfl⟩
  refine Jb (Je rfl) U U U (Jb (Vi U U) U U U (Jb (Vi U U) U U U (Jb (Jf rfl) U U U (Jb (Jf rfl) U U U ?_))))
  refine Jg ?_
  refine Ja ?_
  refine Jh ?_
  refine Jc ?_
  refine Jb (Je rfl) U U U ?_
  refine Jk rfl (Ju e14 U U (shapes13_spec E _) ?_)
  rintro _ _ ⟨g1, rfl, rfl⟩
  refine Jk rfl (Ju e13 U U (Vz (Ji (A := logm lga sta lg0) zpk (Ji (A := row g1 71 (shs13.flatMap shC)) zpk Jj)) (copen lga sta g1 _)) ?_)
  rintro _ _ ⟨a, rfl, rfl⟩
  refine Jb (Je rfl) U U U (Jb (Vi U U) U U U (Jb (Vi U U) U U U (Jb (Jf rfl) U U U (Jb (Jf rfl) U U U ?_))))
  refine Jg ?_
  refine Ja ?_
  refine Jh ?_
  refine Jc ?_
  refine Jb (Je rfl) U U U ?_
  refine Jk rfl (Ju e14 U U (shapes13_spec E _) ?_)
  rintro _ _ ⟨g2, rfl, rfl⟩
  refine Jk rfl (Ju e13 U U (Vz (Ji (A := logm lgb stb lg0) zpk (Ji (A := row g2 71 (shs13.flatMap shC)) zpk Jj)) (copen lgb stb g2 _)) ?_)
  rintro _ _ ⟨b, rfl, rfl⟩
  refine Jb (Je rfl) U U U (Jb (Vi U U) U U U (Jb (Vi U U) U U U ?_))
  refine Jk rfl (l_alloc hT U U zcl rfl (fun b11 => ?_))
  refine Jk rfl (Vt hT U U U U U zpk zix ?_)
  refine Jb (Jf rfl) U U U ?_
  refine Jg ?_
  refine Ja ?_
  refine Jh ?_
  refine Jh ?_
  refine Jc ?_
  refine Jb (Je rfl) U U U (Jb (y_neq U U) U U U (Jb (Je rfl) U U U ?_))
  all_goals (first | (refine Vc U U U (fun h => ?_) (fun h => ?_) <;> try (first | (exfalso; omega) | exact absurd rfl h)) | (refine Vs U U U (fun h => ?_) (fun h => ?_) <;> try (first | cases h | (exfalso; simp at h; done))) | skip)
  all_goals (first | refine Js U U U U U U ?_ | refine Jo U U U U U ?_ | refine Jv U U U (Je rfl) U U ?_)
  all_goals (first | refine Js U U U U U U ?_ | refine Jo U U U U U ?_ | refine Jv U U U (y_neq U U) U U ?_)
  all_goals (refine Jb (Wb U U U) U U U ?_)
  all_goals refine Jg ?_
  all_goals refine Ja ?_
  all_goals
    refine Vo rfl zbl ?_
    refine Vd ?_
  all_goals refine Ja ?_
  all_goals
    refine Jh ?_
    refine Jc ?_
    refine Jb (y_loadN hT U U U (RdN.rowAll (cs := rwsC x) zpk) rfl) U U U ?_
    refine Jb (Je rfl) U U U ?_
    refine Jk rfl (Ju e15 U U (Vz (Ji (A := baseM a lga B0) zpk Jj) (cput1 a lga _ ⟨by have := hx.kin; (repeat (first | assumption | apply InL.cons | apply InL.app)), by have := hx.vin; (repeat (first | assumption | apply InL.cons | apply InL.app)), hx.ksm, hx.vsm, hx.kl, hx.vl⟩)) ?_)
    rintro _ _ ⟨rfl, rfl⟩
    refine Jg ?_
    refine Ja ?_
    refine Jh ?_
    refine Jc ?_
    refine Jb (y_loadN hT U U U (RdN.rowAll (cs := rwsC y) zpk) rfl) U U U ?_
    refine Jb (Jn hT U U U zrd) U U U ?_
    refine Jk rfl (Ju e15 U U (Vz (Ji (A := baseM b lgb B0) zpk Jj) (cput2 b lgb _ ⟨by have := hy.kin; (repeat (first | assumption | apply InL.cons | apply InL.app)), by have := hy.vin; (repeat (first | assumption | apply InL.cons | apply InL.app)), hy.ksm, hy.vsm, hy.kl, hy.vl⟩)) ?_)
    rintro _ _ ⟨rfl, rfl⟩
    refine Jg ?_
    refine Ja ?_
    refine Jh ?_
    refine Jc ?_
    refine Jk rfl (l_alloc hT U U zcl rfl (fun b13 => ?_))
    refine Jk rfl (Vt hT U U U U U zpk zix ?_)
    refine Jg ?_
    refine Ja ?_
    refine Jh ?_
    refine Jh ?_
    refine Jc ?_
    refine Jb (Je rfl) U U U ?_
    refine Jg ?_
    refine Ja ?_
    refine Vh ?_
    refine J.loopD (α := Nat × List Nat) (fun s => s.1 ≤ 2) (fun s => s.2.map SL.mark) (fun s => [(9, .pointer (some ⟨a, 0, none⟩)), (11, .pointer (some ⟨b11, 0, none⟩)), (13, .pointer (some ⟨b13, 0, none⟩)), (53, .int .i64 s.1)]) (fun s => marksP s.2 :: row b13 4 [.bool (sAll X.meant Y.meant s.1)] :: row b11 30 [.pointer (some ⟨b, 0, none⟩)] :: baseM a lga X :: baseM b lgb Y :: r) (fun s => 2 - s.1) (0, []) (Nat.zero_le _) rfl ⟨U, U, U, U, trivial⟩ (fun w h => (Sat.marks_nil h).sup zsup) ?_
    rintro ⟨i, Ds⟩ hi
    dsimp only at hi ⊢
    refine Jh ?_
    refine Jc ?_
    refine Jb (y_lss U U) U U U ?_
    refine Jg ?_
    refine Ja ?_
    refine Jh ?_
    first | apply Va rfl | apply Vv rfl
    case' ht =>
      intro h
      try (first | (exfalso; omega) | (cases h; done) | (exfalso; simp at h; done) | subst h)
      all_goals
        refine Vd ?_
    case' hf =>
      intro h
      try (first | (exfalso; omega) | (cases h; done) | (exfalso; simp at h; done) | subst h)
      all_goals
        refine J.exit ?_
        refine Jy ?_
        refine Jy ?_
        refine Vr ?_
        refine Ja ?_
        refine Jh ?_
        obtain rfl : i = 2 := by omega
        refine J.pre (l' := baseM a lga X :: baseM b lgb Y :: row b13 4 [.bool (sAll X.meant Y.meant 2)] :: row b11 30 [.pointer (some ⟨b, 0, none⟩)] :: marksP Ds :: r) (fun w s => s.sup zsup) ?_
        refine J.draw _ _ [(0, .q), (1, .q), (3, .q), (2, .l), (4, .l), (5, .l), (6, .q), (7, .q)] mixed (by kernel_rfl) (Ji (Jm) (Ji (Jm) (Jj))) ?_
        refine Jd U U U U (fun m => Jn hT U U U zrda) ?_
        refine Jd U U U U (fun m => Je rfl) ?_
        refine Jd U U U U (fun m => Jn hT U U U zrda) ?_
        refine Vw U U (fun fr => Ju e20 U U (Vz (Ji (A := baseM a lga X) zpk Jj) (state13 E (sortOk12 E) a lga X hOX hrX TX hTX _)) ?_)
        rintro _ _ ⟨xa, xc, rfl, rfl⟩
        refine ⟨[_, _, _], (by (repeat (first | exact Jj | exact Vk | refine Ji Jm ?_))), ?_⟩
        refine Vw U U (fun fr => Ju e20 U U (Vz (Ji (A := baseM b lgb Y) zpk Jj) (state13 E (sortOk12 E) b lgb Y hOY hrY TY hTY _)) ?_)
        rintro _ _ ⟨ya, yc, rfl, rfl⟩
        refine ⟨[_, _, _, _], (by (repeat (first | exact Jj | exact Vk | refine Ji Jm ?_))), ?_⟩
        refine Vw U U (fun fr => Ju e19 U U (Fc.fact (p := OwnAt xa TX.length xc (ints .u8 TX)) (fun w s => Vu (s.pick zpk)) fun o1 => Fc.fact (p := OwnAt ya TY.length yc (ints .u8 TY)) (fun w s => Vu (s.pick zpk)) fun o2 => equal_spec E _ _ _ _ TX TY _ hsmX.bytes hsmY.bytes (o1.inl zpk) (o2.inl zpk) (by omega) (by omega)) ?_)
        rintro _ _ ⟨rfl, rfl⟩
        refine ⟨[_, _, _, _], (by (repeat (first | exact Jj | exact Vk | refine Ji Jm ?_))), ?_⟩
        refine Jd U U U U (fun m => (y_bool_eq hT U U U U).cast (u := .bool true) (congrArg Value.bool hfin)) ?_
        refine Jd U U U U (fun m => Jf rfl) ?_
        refine JM.nil ?_
        refine Ja ?_
        refine Vn ?_
        refine JE.unmarks (Ds := Ds) (by first | exact .inl rfl | exact .inr rfl) rfl zpk ?_
        refine Vg (.inl rfl) U U zrv ?_
        exact ⟨rfl, fun w q => q.sup zsup⟩
    all_goals refine Ja ?_
    all_goals
      refine Jh ?_
      refine Vh ?_
      refine Jh ?_
      have hlt : i < 2 := by omega
      obtain ⟨QA, hQA⟩ : ∃ R, X.meant[i]? = some R := ⟨_, List.getElem?_eq_getElem (by omega)⟩
      obtain ⟨QB, hQB⟩ : ∃ R, Y.meant[i]? = some R := ⟨_, List.getElem?_eq_getElem (by omega)⟩
      have okA := (hOX.mfit.rok hOX.sh) QA (List.mem_of_getElem? hQA)
      have okB := (hOY.mfit.rok hOY.sh) QB (List.mem_of_getElem? hQB)
      have hfA := (hOX.mfit.few hrX) QA (List.mem_of_getElem? hQA)
      have hiX : i < X.shs.length := by rw [hsX]; exact hlt
      have hiY : i < Y.shs.length := by rw [hsY]; exact hlt
      have hnext : sAll X.meant Y.meant (i + 1) = ((sAll X.meant Y.meant i && decide ((QA.length : Int) = QB.length)) && sameN QA QB QA.length) := by
        rw [Bool.and_assoc, sameN_all okA.srt okB.srt, sAll, List.getD_eq_getElem?_getD, List.getD_eq_getElem?_getD, hQA, hQB]
        rfl
      refine Jc ?_
      refine Jb (Je rfl) U U U ?_
      refine Jk rfl (l_alloc hT U U zcl rfl (fun b14 => ?_))
      refine Jk rfl (Vt hT U U U U U zpk zix ?_)
      refine Jg ?_
      refine Ja ?_
      obtain ⟨s, hs⟩ : ∃ s, sAll X.meant Y.meant i = s := ⟨_, rfl⟩
      rw [hs]
      refine J.pre (l' := row b13 4 [.bool s] :: row b14 3 [.int .i64 i] :: marksP Ds :: row b11 30 [.pointer (some ⟨b, 0, none⟩)] :: baseM a lga X :: baseM b lgb Y :: r) (fun w s => s.sup zsup) ?_
      cases s
      ·
        skip
        refine J.seqK (α := Unit) (fun _ => True) (fun _ => [(9, .pointer (some ⟨a, 0, none⟩)), (11, .pointer (some ⟨b11, 0, none⟩)), (13, .pointer (some ⟨b13, 0, none⟩)), (14, .pointer (some ⟨b14, 0, none⟩)), (53, .int .i64 i)]) (fun _ => row b13 4 [.bool (sAll X.meant Y.meant i && decide ((QA.length : Int) = QB.length))] :: row b14 3 [.int .i64 i] :: marksP Ds :: row b11 30 [.pointer (some ⟨b, 0, none⟩)] :: baseM a lga X :: baseM b lgb Y :: r) ?hj16F (fun hk16 => ?hf16F)
        case hf16F =>
          refine J.draw _ _ [(0, .e), (1, .q), (2, .q), (3, .q), (4, .q), (5, .q), (6, .q), (7, .q), (8, .q), (9, .q), (10, .l)] mixed (by kernel_rfl) (Ji (Jm) (Jj)) ?_
          refine JM.early U U U U (fun fr => Jn hT U U U zrd) ?_
          refine Jd U U U U (fun m => Je rfl) ?_
          all_goals (first | refine Vp U U U U U U U ?_ | refine Vj U U U U U U ?_ | refine Ve U U U U U U (fun m => Je rfl) ?_)
          all_goals (first | refine Vp U U U U U U U ?_ | refine Vj U U U U U U ?_ | refine Ve U U U U U U (fun m => Jn hT U U U zrda) ?_)
          all_goals (first | refine Vp U U U U U U U ?_ | refine Vj U U U U U U ?_ | refine Ve U U U U U U (fun m => y_callF e16 rfl (Fc.still (p := [baseM a lga X]) (Ji zpk Jj) (tlen_spec E a lga X i QA hOX.n8 hiX hQA _))) ?_)
          all_goals (first | refine Vp U U U U U U U ?_ | refine Vj U U U U U U ?_ | refine Ve U U U U U U (fun m => Jn hT U U U zrda) ?_)
          all_goals (first | refine Vp U U U U U U U ?_ | refine Vj U U U U U U ?_ | refine Ve U U U U U U (fun m => Jn hT U U U zrda) ?_)
          all_goals (first | refine Vp U U U U U U U ?_ | refine Vj U U U U U U ?_ | refine Ve U U U U U U (fun m => y_callF e16 rfl (Fc.still (p := [baseM b lgb Y]) (Ji zpk Jj) (tlen_spec E b lgb Y i QB hOY.n8 hiY hQB _))) ?_)
          all_goals (first | refine Vp U U U U U U U ?_ | refine Vj U U U U U U ?_ | refine Ve U U U U U U (fun m => y_eql U U) ?_)
          all_goals refine Jd U U U U (fun m => Wb U U U) ?_
          all_goals refine Vw U U (fun fr => Vt hT U U U U U zpk zix (⟨[_], (by (repeat (first | exact Jj | exact Vk | refine Ji Jm ?_))), ?_⟩))
          all_goals refine JM.nil ?_
          all_goals refine Ja ?_
          all_goals
            refine J.closeK hk16 () trivial ⟨U, U, U, U, U, trivial⟩ ?_
            rw [hs]
            exact fun w q => q.sup zsup
        intro _ _
        obtain ⟨s0, hs0'⟩ : ∃ s, (sAll X.meant Y.meant i && decide ((QA.length : Int) = QB.length)) = s := ⟨_, rfl⟩
        rw [hs0'] at hnext ⊢
        refine Jh ?_
        refine Jc ?_
        refine Jb (Je rfl) U U U ?_
        refine Jb (Jn hT U U U zrd) U U U ?_
        refine Jk rfl (Ju e17 U U (tall_spec E (.pointer (some ⟨a, 0, none⟩)) rfl (i : Int) _) ?_)
        rintro _ _ ⟨c1, c2, rfl, rfl⟩
        refine Jg ?_
        refine Ja ?_
        refine Vh ?_
        refine J.rangeFunc e71 rfl fun fn a0 kk DD K hK hf0 => ?_
        refine Fc.mono (Fc.imp (tall1_spec E (sortOk12 E) kk c1 c2 a lga X i QA [baseM b lgb Y, row b11 30 [.pointer (some ⟨b, 0, none⟩)], row b14 3 [.int .i64 i], row b13 4 [.bool s0], K .ready none, blk DD (.deferred (some []))] (marksP Ds :: r) (fun j => [baseM a lga X, baseM b lgb Y, row b11 30 [.pointer (some ⟨b, 0, none⟩)], row b14 3 [.int .i64 i], row b13 4 [.bool (s0 && sameN QA QB j)], K .ready none, blk DD (.deferred (some []))]) (fun _ => [pur False, K .ready none]) hOX.n8 hiX hQA okA hfA (fun w r s => ?h0) (fun frr j key v g c KK hkv hKK => ?hy)) (fun w s => s.sup zsup)) ?hm
        case h0 =>
          rw [show (s0 && sameN QA QB 0) = s0 by rw [show sameN QA QB 0 = true from rfl, Bool.and_true]]
          exact s
        case hy =>
          refine Yc.split (p := [K .ready none]) ?_ (Ji zpk Jj)
          refine Yc.post ?_
          have hvs := (okA.small _ (List.mem_of_getElem? hkv)).2
          dsimp only at hvs
          have hnx := sameN_next (R := QB) hkv
          refine Yc.of_body hK hf0 rfl (by decide) ?_
          refine Jh ?_
          refine Jc ?_
          refine Jb (Jf rfl) U U U ?_
          refine Jg ?_
          refine Ja ?_
          refine Jc ?_
          refine Jb (Jf rfl) U U U ?_
          refine Jg ?_
          refine JE.assigned zpk ?_
          obtain ⟨s, hs⟩ : ∃ s, (s0 && sameN QA QB j) = s := ⟨_, rfl⟩
          have hnx2 : (s0 && sameN QA QB (j + 1)) = (s && decide (rget QB key = some v)) := by rw [hnx, ← Bool.and_assoc, hs]
          rw [hs]
          obtain ⟨gb, hgb⟩ : ∃ o, rget QB key = o := ⟨_, rfl⟩
          rw [hgb] at hnx2
          cases s <;> cases gb
          ·
            skip
            refine Vh ?_
            refine Jh ?_
            refine Jc ?_
            refine Jb (Jn hT U U U zrd) U U U ?_
            refine Jb (Jn hT U U U zrd) U U U ?_
            refine Jb (Je rfl) U U U ?_
            refine Jk rfl (Ju e18 U U (Vz (Ji (A := baseM b lgb Y) zpk Jj) (tget_none E b lgb Y i QB key hOY.n8 hiY hQB okB.srt hgb _)) ?_)
            rintro _ _ ⟨rfl, rfl⟩
            refine Jb (Je rfl) U U U (Jb (Vi U U) U U U (Jb (Vi U U) U U U (Jb (Jf rfl) U U U (Jb (Jf rfl) U U U ?_))))
            refine Jg ?_
            refine Ja ?_
            refine Jc ?_
            refine Jb (Jn hT U U U zrd) U U U ?_
            refine Jb (Je rfl) U U U ?_
            all_goals (first | (refine Vc U U U (fun h => ?_) (fun h => ?_) <;> try (first | (exfalso; omega) | exact absurd rfl h)) | (refine Vs U U U (fun h => ?_) (fun h => ?_) <;> try (first | cases h | (exfalso; simp at h; done))) | skip)
            all_goals (first | refine Js U U U U U U ?_ | refine Jo U U U U U ?_ | refine Jv U U U (Je rfl) U U ?_)
            all_goals (first | refine Js U U U U U U ?_ | refine Jo U U U U U ?_ | refine Jv U U U (y_eql U U) U U ?_)
            all_goals (refine Jb (Wb U U U) U U U ?_)
            all_goals (refine Jb (Je rfl) U U U ?_)
            all_goals (first | (refine Vc U U U (fun h => ?_) (fun h => ?_) <;> try (first | (exfalso; omega) | exact absurd rfl h)) | (refine Vs U U U (fun h => ?_) (fun h => ?_) <;> try (first | cases h | (exfalso; simp at h; done))) | skip)
            all_goals (first | refine Js U U U U U U ?_ | refine Jo U U U U U ?_ | refine Jv U U U (Je rfl) U U ?_)
            all_goals (first | refine Js U U U U U U ?_ | refine Jo U U U U U ?_ | refine Jv U U U (Je rfl) U U ?_)
            all_goals (first | refine Js U U U U U U ?_ | refine Jo U U U U U ?_ | (refine JL.gloud U U U (Ju e19 U U (cequ v u _ _ _ _ _ (by omega) (by omega) (hKK.kept zpk) (hK9.kept zpk)) ?_); rintro _ _ ⟨rfl, rfl⟩))
            all_goals (refine Jb (Wb U U U) U U U ?_)
            all_goals (refine Jk rfl (Vt hT U U U U U zpk zix ?_))
            all_goals refine Jg ?_
            all_goals refine Jw ?_
            all_goals
              refine JE.round_on hK zpk ?_
              refine ⟨[baseM a lga X, baseM b lgb Y, row b11 30 [.pointer (some ⟨b, 0, none⟩)], row b14 3 [.int .i64 i], row b13 4 [.bool (s0 && sameN QA QB (j + 1))], K .ready none, blk DD (.deferred (some []))] ++ frr, fun w q => ?_, .inl ⟨rfl, rfl⟩⟩
              rw [hnx2]
              exact q.sup zsup
          ·
            rename_i u
            have hus := (okB.small _ ((rget_mem okB.srt.nodup).1 hgb)).2
            dsimp only at hus
            refine Vh ?_
            refine Jh ?_
            refine Jc ?_
            refine Jb (Jn hT U U U zrd) U U U ?_
            refine Jb (Jn hT U U U zrd) U U U ?_
            refine Jb (Je rfl) U U U ?_
            refine Jk rfl (Ju e18 U U (Vz (Ji (A := baseM b lgb Y) zpk Jj) (tget_some E b lgb Y i QB key u hOY.n8 hiY hQB okB.srt hgb (by omega) _)) ?_)
            rintro _ _ ⟨g9, c9, K9, hK9, rfl, rfl⟩
            refine Jb (Je rfl) U U U (Jb (Vi U U) U U U (Jb (Vi U U) U U U (Jb (Jf rfl) U U U (Jb (Jf rfl) U U U ?_))))
            refine Jg ?_
            refine Ja ?_
            refine Jc ?_
            refine Jb (Jn hT U U U zrd) U U U ?_
            refine Jb (Je rfl) U U U ?_
            all_goals (first | (refine Vc U U U (fun h => ?_) (fun h => ?_) <;> try (first | (exfalso; omega) | exact absurd rfl h)) | (refine Vs U U U (fun h => ?_) (fun h => ?_) <;> try (first | cases h | (exfalso; simp at h; done))) | skip)
            all_goals (first | refine Js U U U U U U ?_ | refine Jo U U U U U ?_ | refine Jv U U U (Je rfl) U U ?_)
            all_goals (first | refine Js U U U U U U ?_ | refine Jo U U U U U ?_ | refine Jv U U U (y_eql U U) U U ?_)
            all_goals (refine Jb (Wb U U U) U U U ?_)
            all_goals (refine Jb (Je rfl) U U U ?_)
            all_goals (first | (refine Vc U U U (fun h => ?_) (fun h => ?_) <;> try (first | (exfalso; omega) | exact absurd rfl h)) | (refine Vs U U U (fun h => ?_) (fun h => ?_) <;> try (first | cases h | (exfalso; simp at h; done))) | skip)
            all_goals (first | refine Js U U U U U U ?_ | refine Jo U U U U U ?_ | refine Jv U U U (Je rfl) U U ?_)
            all_goals (first | refine Js U U U U U U ?_ | refine Jo U U U U U ?_ | refine Jv U U U (Je rfl) U U ?_)
            all_goals (first | refine Js U U U U U U ?_ | refine Jo U U U U U ?_ | (refine JL.gloud U U U (Ju e19 U U (cequ v u _ _ _ _ _ (by omega) (by omega) (hKK.kept zpk) (hK9.kept zpk)) ?_); rintro _ _ ⟨rfl, rfl⟩))
            all_goals (refine Jb (Wb U U U) U U U ?_)
            all_goals (refine Jk rfl (Vt hT U U U U U zpk zix ?_))
            all_goals refine Jg ?_
            all_goals refine Jw ?_
            all_goals
              refine JE.round_on hK zpk ?_
              refine ⟨[baseM a lga X, baseM b lgb Y, row b11 30 [.pointer (some ⟨b, 0, none⟩)], row b14 3 [.int .i64 i], row b13 4 [.bool (s0 && sameN QA QB (j + 1))], K .ready none, blk DD (.deferred (some []))] ++ frr, fun w q => ?_, .inl ⟨rfl, rfl⟩⟩
              rw [hnx2]
              exact q.sup zsup
          ·
            skip
            refine Vh ?_
            refine Jh ?_
            refine Jc ?_
            refine Jb (Jn hT U U U zrd) U U U ?_
            refine Jb (Jn hT U U U zrd) U U U ?_
            refine Jb (Je rfl) U U U ?_
            refine Jk rfl (Ju e18 U U (Vz (Ji (A := baseM b lgb Y) zpk Jj) (tget_none E b lgb Y i QB key hOY.n8 hiY hQB okB.srt hgb _)) ?_)
            rintro _ _ ⟨rfl, rfl⟩
            refine Jb (Je rfl) U U U (Jb (Vi U U) U U U (Jb (Vi U U) U U U (Jb (Jf rfl) U U U (Jb (Jf rfl) U U U ?_))))
            refine Jg ?_
            refine Ja ?_
            refine Jc ?_
            refine Jb (Jn hT U U U zrd) U U U ?_
            refine Jb (Je rfl) U U U ?_
            all_goals (first | (refine Vc U U U (fun h => ?_) (fun h => ?_) <;> try (first | (exfalso; omega) | exact absurd rfl h)) | (refine Vs U U U (fun h => ?_) (fun h => ?_) <;> try (first | cases h | (exfalso; simp at h; done))) | skip)
            all_goals (first | refine Js U U U U U U ?_ | refine Jo U U U U U ?_ | refine Jv U U U (Je rfl) U U ?_)
            all_goals (first | refine Js U U U U U U ?_ | refine Jo U U U U U ?_ | refine Jv U U U (y_eql U U) U U ?_)
            all_goals (refine Jb (Wb U U U) U U U ?_)
            all_goals (refine Jb (Je rfl) U U U ?_)
            all_goals (first | (refine Vc U U U (fun h => ?_) (fun h => ?_) <;> try (first | (exfalso; omega) | exact absurd rfl h)) | (refine Vs U U U (fun h => ?_) (fun h => ?_) <;> try (first | cases h | (exfalso; simp at h; done))) | skip)
            all_goals (first | refine Js U U U U U U ?_ | refine Jo U U U U U ?_ | refine Jv U U U (Je rfl) U U ?_)
            all_goals (first | refine Js U U U U U U ?_ | refine Jo U U U U U ?_ | refine Jv U U U (Je rfl) U U ?_)
            all_goals (first | refine Js U U U U U U ?_ | refine Jo U U U U U ?_ | (refine JL.gloud U U U (Ju e19 U U (cequ v u _ _ _ _ _ (by omega) (by omega) (hKK.kept zpk) (hK9.kept zpk)) ?_); rintro _ _ ⟨rfl, rfl⟩))
            all_goals (refine Jb (Wb U U U) U U U ?_)
            all_goals (refine Jk rfl (Vt hT U U U U U zpk zix ?_))
            all_goals refine Jg ?_
            all_goals refine Jw ?_
            all_goals
              refine JE.round_on hK zpk ?_
              refine ⟨[baseM a lga X, baseM b lgb Y, row b11 30 [.pointer (some ⟨b, 0, none⟩)], row b14 3 [.int .i64 i], row b13 4 [.bool (s0 && sameN QA QB (j + 1))], K .ready none, blk DD (.deferred (some []))] ++ frr, fun w q => ?_, .inl ⟨rfl, rfl⟩⟩
              rw [hnx2]
              exact q.sup zsup
          ·
            rename_i u
            have hus := (okB.small _ ((rget_mem okB.srt.nodup).1 hgb)).2
            dsimp only at hus
            refine Vh ?_
            refine Jh ?_
            refine Jc ?_
            refine Jb (Jn hT U U U zrd) U U U ?_
            refine Jb (Jn hT U U U zrd) U U U ?_
            refine Jb (Je rfl) U U U ?_
            refine Jk rfl (Ju e18 U U (Vz (Ji (A := baseM b lgb Y) zpk Jj) (tget_some E b lgb Y i QB key u hOY.n8 hiY hQB okB.srt hgb (by omega) _)) ?_)
            rintro _ _ ⟨g9, c9, K9, hK9, rfl, rfl⟩
            refine Jb (Je rfl) U U U (Jb (Vi U U) U U U (Jb (Vi U U) U U U (Jb (Jf rfl) U U U (Jb (Jf rfl) U U U ?_))))
            refine Jg ?_
            refine Ja ?_
            refine Jc ?_
            refine Jb (Jn hT U U U zrd) U U U ?_
            refine Jb (Je rfl) U U U ?_
            all_goals (first | (refine Vc U U U (fun h => ?_) (fun h => ?_) <;> try (first | (exfalso; omega) | exact absurd rfl h)) | (refine Vs U U U (fun h => ?_) (fun h => ?_) <;> try (first | cases h | (exfalso; simp at h; done))) | skip)
            all_goals (first | refine Js U U U U U U ?_ | refine Jo U U U U U ?_ | refine Jv U U U (Je rfl) U U ?_)
            all_goals (first | refine Js U U U U U U ?_ | refine Jo U U U U U ?_ | refine Jv U U U (y_eql U U) U U ?_)
            all_goals (refine Jb (Wb U U U) U U U ?_)
            all_goals (refine Jb (Je rfl) U U U ?_)
            all_goals (first | (refine Vc U U U (fun h => ?_) (fun h => ?_) <;> try (first | (exfalso; omega) | exact absurd rfl h)) | (refine Vs U U U (fun h => ?_) (fun h => ?_) <;> try (first | cases h | (exfalso; simp at h; done))) | skip)
            all_goals (first | refine Js U U U U U U ?_ | refine Jo U U U U U ?_ | refine Jv U U U (Je rfl) U U ?_)
            all_goals (first | refine Js U U U U U U ?_ | refine Jo U U U U U ?_ | refine Jv U U U (Je rfl) U U ?_)
            all_goals (first | refine Js U U U U U U ?_ | refine Jo U U U U U ?_ | (refine JL.gloud U U U (Ju e19 U U (cequ v u _ _ _ _ _ (by omega) (by omega) (hKK.kept zpk) (hK9.kept zpk)) ?_); rintro _ _ ⟨rfl, rfl⟩))
            all_goals (refine Jb (Wb U U U) U U U ?_)
            all_goals (refine Jk rfl (Vt hT U U U U U zpk zix ?_))
            all_goals refine Jg ?_
            all_goals refine Jw ?_
            all_goals
              refine JE.round_on hK zpk ?_
              refine ⟨[baseM a lga X, baseM b lgb Y, row b11 30 [.pointer (some ⟨b, 0, none⟩)], row b14 3 [.int .i64 i], row b13 4 [.bool (s0 && sameN QA QB (j + 1))], K .ready none, blk DD (.deferred (some []))] ++ frr, fun w q => ?_, .inl ⟨rfl, rfl⟩⟩
              have e : decide (some u = some v) = decide (v = u) := decide_eq_decide.2 ⟨fun h => (Option.some.inj h).symm, fun h => by rw [h]⟩
              rw [hnx2, e]
              exact q.sup zsup
        case hm =>
          rintro _ _ (rfl | ⟨j, hj, rfl⟩)
          · refine ⟨.ready, none, _, by (repeat (first | exact Jm | apply Jt | apply Vx)), by simp, ?_⟩
            dsimp only
            refine Jw ?_
            refine Jw ?_
            refine Ja ?_
            refine Jc ?_
            refine Jb (y_add U U zwr) U U U ?_
            refine Jb (Je rfl) U U U ?_
            refine Jg ?_
            refine JE.roundD (s := (i, Ds)) (i + 1, DD :: Ds) (by dsimp only; omega) rfl ⟨U, U, U, U, trivial⟩ (fun w z => ?_) (by dsimp only; omega)
            rw [hnext]
            have z1 := z.sup (p := blk DD (.deferred (some [])) :: marksP Ds :: row b13 4 [.bool (s0 && sameN QA QB QA.length)] :: row b11 30 [.pointer (some ⟨b, 0, none⟩)] :: baseM a lga X :: baseM b lgb Y :: r) zsup
            exact z1.marks_cons
          · refine ⟨.ready, none, _, by (repeat (first | exact Jm | apply Jt | apply Vx)), by simp, ?_⟩
            dsimp only
            exact JE.picks (A := pur False) zpk (JE.purs fun h => h.elim)
      ·
        skip
        refine J.seqK (α := Unit) (fun _ => True) (fun _ => [(9, .pointer (some ⟨a, 0, none⟩)), (11, .pointer (some ⟨b11, 0, none⟩)), (13, .pointer (some ⟨b13, 0, none⟩)), (14, .pointer (some ⟨b14, 0, none⟩)), (53, .int .i64 i)]) (fun _ => row b13 4 [.bool (sAll X.meant Y.meant i && decide ((QA.length : Int) = QB.length))] :: row b14 3 [.int .i64 i] :: marksP Ds :: row b11 30 [.pointer (some ⟨b, 0, none⟩)] :: baseM a lga X :: baseM b lgb Y :: r) ?hj16T (fun hk16 => ?hf16T)
        case hf16T =>
          refine J.draw _ _ [(0, .e), (1, .q), (2, .q), (3, .q), (4, .q), (5, .q), (6, .q), (7, .q), (8, .q), (9, .q), (10, .l)] mixed (by kernel_rfl) (Ji (Jm) (Jj)) ?_
          refine JM.early U U U U (fun fr => Jn hT U U U zrd) ?_
          refine Jd U U U U (fun m => Je rfl) ?_
          all_goals (first | refine Vp U U U U U U U ?_ | refine Vj U U U U U U ?_ | refine Ve U U U U U U (fun m => Je rfl) ?_)
          all_goals (first | refine Vp U U U U U U U ?_ | refine Vj U U U U U U ?_ | refine Ve U U U U U U (fun m => Jn hT U U U zrda) ?_)
          all_goals (first | refine Vp U U U U U U U ?_ | refine Vj U U U U U U ?_ | refine Ve U U U U U U (fun m => y_callF e16 rfl (Fc.still (p := [baseM a lga X]) (Ji zpk Jj) (tlen_spec E a lga X i QA hOX.n8 hiX hQA _))) ?_)
          all_goals (first | refine Vp U U U U U U U ?_ | refine Vj U U U U U U ?_ | refine Ve U U U U U U (fun m => Jn hT U U U zrda) ?_)
          all_goals (first | refine Vp U U U U U U U ?_ | refine Vj U U U U U U ?_ | refine Ve U U U U U U (fun m => Jn hT U U U zrda) ?_)
          all_goals (first | refine Vp U U U U U U U ?_ | refine Vj U U U U U U ?_ | refine Ve U U U U U U (fun m => y_callF e16 rfl (Fc.still (p := [baseM b lgb Y]) (Ji zpk Jj) (tlen_spec E b lgb Y i QB hOY.n8 hiY hQB _))) ?_)
          all_goals (first | refine Vp U U U U U U U ?_ | refine Vj U U U U U U ?_ | refine Ve U U U U U U (fun m => y_eql U U) ?_)
          all_goals refine Jd U U U U (fun m => Wb U U U) ?_
          all_goals refine Vw U U (fun fr => Vt hT U U U U U zpk zix (⟨[_], (by (repeat (first | exact Jj | exact Vk | refine Ji Jm ?_))), ?_⟩))
          all_goals refine JM.nil ?_
          all_goals refine Ja ?_
          all_goals
            refine J.closeK hk16 () trivial ⟨U, U, U, U, U, trivial⟩ ?_
            rw [hs]
            exact fun w q => q.sup zsup
        intro _ _
        obtain ⟨s0, hs0'⟩ : ∃ s, (sAll X.meant Y.meant i && decide ((QA.length : Int) = QB.length)) = s := ⟨_, rfl⟩
        rw [hs0'] at hnext ⊢
        refine Jh ?_
        refine Jc ?_
        refine Jb (Je rfl) U U U ?_
        refine Jb (Jn hT U U U zrd) U U U ?_
        refine Jk rfl (Ju e17 U U (tall_spec E (.pointer (some ⟨a, 0, none⟩)) rfl (i : Int) _) ?_)
        rintro _ _ ⟨c1, c2, rfl, rfl⟩
        refine Jg ?_
        refine Ja ?_
        refine Vh ?_
        refine J.rangeFunc e71 rfl fun fn a0 kk DD K hK hf0 => ?_
        refine Fc.mono (Fc.imp (tall1_spec E (sortOk12 E) kk c1 c2 a lga X i QA [baseM b lgb Y, row b11 30 [.pointer (some ⟨b, 0, none⟩)], row b14 3 [.int .i64 i], row b13 4 [.bool s0], K .ready none, blk DD (.deferred (some []))] (marksP Ds :: r) (fun j => [baseM a lga X, baseM b lgb Y, row b11 30 [.pointer (some ⟨b, 0, none⟩)], row b14 3 [.int .i64 i], row b13 4 [.bool (s0 && sameN QA QB j)], K .ready none, blk DD (.deferred (some []))]) (fun _ => [pur False, K .ready none]) hOX.n8 hiX hQA okA hfA (fun w r s => ?h0) (fun frr j key v g c KK hkv hKK => ?hy)) (fun w s => s.sup zsup)) ?hm
        case h0 =>
          rw [show (s0 && sameN QA QB 0) = s0 by rw [show sameN QA QB 0 = true from rfl, Bool.and_true]]
          exact s
        case hy =>
          refine Yc.split (p := [K .ready none]) ?_ (Ji zpk Jj)
          refine Yc.post ?_
          have hvs := (okA.small _ (List.mem_of_getElem? hkv)).2
          dsimp only at hvs
          have hnx := sameN_next (R := QB) hkv
          refine Yc.of_body hK hf0 rfl (by decide) ?_
          refine Jh ?_
          refine Jc ?_
          refine Jb (Jf rfl) U U U ?_
          refine Jg ?_
          refine Ja ?_
          refine Jc ?_
          refine Jb (Jf rfl) U U U ?_
          refine Jg ?_
          refine JE.assigned zpk ?_
          obtain ⟨s, hs⟩ : ∃ s, (s0 && sameN QA QB j) = s := ⟨_, rfl⟩
          have hnx2 : (s0 && sameN QA QB (j + 1)) = (s && decide (rget QB key = some v)) := by rw [hnx, ← Bool.and_assoc, hs]
          rw [hs]
          obtain ⟨gb, hgb⟩ : ∃ o, rget QB key = o := ⟨_, rfl⟩
          rw [hgb] at hnx2
          cases s <;> cases gb
          ·
            skip
            refine Vh ?_
            refine Jh ?_
            refine Jc ?_
            refine Jb (Jn hT U U U zrd) U U U ?_
            refine Jb (Jn hT U U U zrd) U U U ?_
            refine Jb (Je rfl) U U U ?_
            refine Jk rfl (Ju e18 U U (Vz (Ji (A := baseM b lgb Y) zpk Jj) (tget_none E b lgb Y i QB key hOY.n8 hiY hQB okB.srt hgb _)) ?_)
            rintro _ _ ⟨rfl, rfl⟩
            refine Jb (Je rfl) U U U (Jb (Vi U U) U U U (Jb (Vi U U) U U U (Jb (Jf rfl) U U U (Jb (Jf rfl) U U U ?_))))
            refine Jg ?_
            refine Ja ?_
            refine Jc ?_
            refine Jb (Jn hT U U U zrd) U U U ?_
            refine Jb (Je rfl) U U U ?_
            all_goals (first | (refine Vc U U U (fun h => ?_) (fun h => ?_) <;> try (first | (exfalso; omega) | exact absurd rfl h)) | (refine Vs U U U (fun h => ?_) (fun h => ?_) <;> try (first | cases h | (exfalso; simp at h; done))) | skip)
            all_goals (first | refine Js U U U U U U ?_ | refine Jo U U U U U ?_ | refine Jv U U U (Je rfl) U U ?_)
            all_goals (first | refine Js U U U U U U ?_ | refine Jo U U U U U ?_ | refine Jv U U U (y_eql U U) U U ?_)
            all_goals (refine Jb (Wb U U U) U U U ?_)
            all_goals (refine Jb (Je rfl) U U U ?_)
            all_goals (first | (refine Vc U U U (fun h => ?_) (fun h => ?_) <;> try (first | (exfalso; omega) | exact absurd rfl h)) | (refine Vs U U U (fun h => ?_) (fun h => ?_) <;> try (first | cases h | (exfalso; simp at h; done))) | skip)
            all_goals (first | refine Js U U U U U U ?_ | refine Jo U U U U U ?_ | refine Jv U U U (Je rfl) U U ?_)
            all_goals (first | refine Js U U U U U U ?_ | refine Jo U U U U U ?_ | refine Jv U U U (Je rfl) U U ?_)
            all_goals (first | refine Js U U U U U U ?_ | refine Jo U U U U U ?_ | (refine JL.gloud U U U (Ju e19 U U (cequ v u _ _ _ _ _ (by omega) (by omega) (hKK.kept zpk) (hK9.kept zpk)) ?_); rintro _ _ ⟨rfl, rfl⟩))
            all_goals (refine Jb (Wb U U U) U U U ?_)
            all_goals (refine Jk rfl (Vt hT U U U U U zpk zix ?_))
            all_goals refine Jg ?_
            all_goals refine Jw ?_
            all_goals
              refine JE.round_on hK zpk ?_
              refine ⟨[baseM a lga X, baseM b lgb Y, row b11 30 [.pointer (some ⟨b, 0, none⟩)], row b14 3 [.int .i64 i], row b13 4 [.bool (s0 && sameN QA QB (j + 1))], K .ready none, blk DD (.deferred (some []))] ++ frr, fun w q => ?_, .inl ⟨rfl, rfl⟩⟩
              rw [hnx2]
              exact q.sup zsup
          ·
            rename_i u
            have hus := (okB.small _ ((rget_mem okB.srt.nodup).1 hgb)).2
            dsimp only at hus
            refine Vh ?_
            refine Jh ?_
            refine Jc ?_
            refine Jb (Jn hT U U U zrd) U U U ?_
            refine Jb (Jn hT U U U zrd) U U U ?_
            refine Jb (Je rfl) U U U ?_
            refine Jk rfl (Ju e18 U U (Vz (Ji (A := baseM b lgb Y) zpk Jj) (tget_some E b lgb Y i QB key u hOY.n8 hiY hQB okB.srt hgb (by omega) _)) ?_)
            rintro _ _ ⟨g9, c9, K9, hK9, rfl, rfl⟩
            refine Jb (Je rfl) U U U (Jb (Vi U U) U U U (Jb (Vi U U) U U U (Jb (Jf rfl) U U U (Jb (Jf rfl) U U U ?_))))
            refine Jg ?_
            refine Ja ?_
            refine Jc ?_
            refine Jb (Jn hT U U U zrd) U U U ?_
            refine Jb (Je rfl) U U U ?_
            all_goals (first | (refine Vc U U U (fun h => ?_) (fun h => ?_) <;> try (first | (exfalso; omega) | exact absurd rfl h)) | (refine Vs U U U (fun h => ?_) (fun h => ?_) <;> try (first | cases h | (exfalso; simp at h; done))) | skip)
            all_goals (first | refine Js U U U U U U ?_ | refine Jo U U U U U ?_ | refine Jv U U U (Je rfl) U U ?_)
            all_goals (first | refine Js U U U U U U ?_ | refine Jo U U U U U ?_ | refine Jv U U U (y_eql U U) U U ?_)
            all_goals (refine Jb (Wb U U U) U U U ?_)
            all_goals (refine Jb (Je rfl) U U U ?_)
            all_goals (first | (refine Vc U U U (fun h => ?_) (fun h => ?_) <;> try (first | (exfalso; omega) | exact absurd rfl h)) | (refine Vs U U U (fun h => ?_) (fun h => ?_) <;> try (first | cases h | (exfalso; simp at h; done))) | skip)
            all_goals (first | refine Js U U U U U U ?_ | refine Jo U U U U U ?_ | refine Jv U U U (Je rfl) U U ?_)
            all_goals (first | refine Js U U U U U U ?_ | refine Jo U U U U U ?_ | refine Jv U U U (Je rfl) U U ?_)
            all_goals (first | refine Js U U U U U U ?_ | refine Jo U U U U U ?_ | (refine JL.gloud U U U (Ju e19 U U (cequ v u _ _ _ _ _ (by omega) (by omega) (hKK.kept zpk) (hK9.kept zpk)) ?_); rintro _ _ ⟨rfl, rfl⟩))
            all_goals (refine Jb (Wb U U U) U U U ?_)
            all_goals (refine Jk rfl (Vt hT U U U U U zpk zix ?_))
            all_goals refine Jg ?_
            all_goals refine Jw ?_
            all_goals
              refine JE.round_on hK zpk ?_
              refine ⟨[baseM a lga X, baseM b lgb Y, row b11 30 [.pointer (some ⟨b, 0, none⟩)], row b14 3 [.int .i64 i], row b13 4 [.bool (s0 && sameN QA QB (j + 1))], K .ready none, blk DD (.deferred (some []))] ++ frr, fun w q => ?_, .inl ⟨rfl, rfl⟩⟩
              rw [hnx2]
              exact q.sup zsup
          ·
            skip
            refine Vh ?_
            refine Jh ?_
            refine Jc ?_
            refine Jb (Jn hT U U U zrd) U U U ?_
            refine Jb (Jn hT U U U zrd) U U U ?_
            refine Jb (Je rfl) U U U ?_
            refine Jk rfl (Ju e18 U U (Vz (Ji (A := baseM b lgb Y) zpk Jj) (tget_none E b lgb Y i QB key hOY.n8 hiY hQB okB.srt hgb _)) ?_)
            rintro _ _ ⟨rfl, rfl⟩
            refine Jb (Je rfl) U U U (Jb (Vi U U) U U U (Jb (Vi U U) U U U (Jb (Jf rfl) U U U (Jb (Jf rfl) U U U ?_))))
            refine Jg ?_
            refine Ja ?_
            refine Jc ?_
            refine Jb (Jn hT U U U zrd) U U U ?_
            refine Jb (Je rfl) U U U ?_
            all_goals (first | (refine Vc U U U (fun h => ?_) (fun h => ?_) <;> try (first | (exfalso; omega) | exact absurd rfl h)) | (refine Vs U U U (fun h => ?_) (fun h => ?_) <;> try (first | cases h | (exfalso; simp at h; done))) | skip)
            all_goals (first | refine Js U U U U U U ?_ | refine Jo U U U U U ?_ | refine Jv U U U (Je rfl) U U ?_)
            all_goals (first | refine Js U U U U U U ?_ | refine Jo U U U U U ?_ | refine Jv U U U (y_eql U U) U U ?_)
            all_goals (refine Jb (Wb U U U) U U U ?_)
            all_goals (refine Jb (Je rfl) U U U ?_)
            all_goals (first | (refine Vc U U U (fun h => ?_) (fun h => ?_) <;> try (first | (exfalso; omega) | exact absurd rfl h)) | (refine Vs U U U (fun h => ?_) (fun h => ?_) <;> try (first | cases h | (exfalso; simp at h; done))) | skip)
            all_goals (first | refine Js U U U U U U ?_ | refine Jo U U U U U ?_ | refine Jv U U U (Je rfl) U U ?_)
            all_goals (first | refine Js U U U U U U ?_ | refine Jo U U U U U ?_ | refine Jv U U U (Je rfl) U U ?_)
            all_goals (first | refine Js U U U U U U ?_ | refine Jo U U U U U ?_ | (refine JL.gloud U U U (Ju e19 U U (cequ v u _ _ _ _ _ (by omega) (by omega) (hKK.kept zpk) (hK9.kept zpk)) ?_); rintro _ _ ⟨rfl, rfl⟩))
            all_goals (refine Jb (Wb U U U) U U U ?_)
            all_goals (refine Jk rfl (Vt hT U U U U U zpk zix ?_))
            all_goals refine Jg ?_
            all_goals refine Jw ?_
            all_goals
              refine JE.round_on hK zpk ?_
              refine ⟨[baseM a lga X, baseM b lgb Y, row b11 30 [.pointer (some ⟨b, 0, none⟩)], row b14 3 [.int .i64 i], row b13 4 [.bool (s0 && sameN QA QB (j + 1))], K .ready none, blk DD (.deferred (some []))] ++ frr, fun w q => ?_, .inl ⟨rfl, rfl⟩⟩
              rw [hnx2]
              exact q.sup zsup
          ·
            rename_i u
            have hus := (okB.small _ ((rget_mem okB.srt.nodup).1 hgb)).2
            dsimp only at hus
            refine Vh ?_
            refine Jh ?_
            refine Jc ?_
            refine Jb (Jn hT U U U zrd) U U U ?_
            refine Jb (Jn hT U U U zrd) U U U ?_
            refine Jb (Je rfl) U U U ?_
            refine Jk rfl (Ju e18 U U (Vz (Ji (A := baseM b lgb Y) zpk Jj) (tget_some E b lgb Y i QB key u hOY.n8 hiY hQB okB.srt hgb (by omega) _)) ?_)
            rintro _ _ ⟨g9, c9, K9, hK9, rfl, rfl⟩
            refine Jb (Je rfl) U U U (Jb (Vi U U) U U U (Jb (Vi U U) U U U (Jb (Jf rfl) U U U (Jb (Jf rfl) U U U ?_))))
            refine Jg ?_
            refine Ja ?_
            refine Jc ?_
            refine Jb (Jn hT U U U zrd) U U U ?_
            refine Jb (Je rfl) U U U ?_
            all_goals (first | (refine Vc U U U (fun h => ?_) (fun h => ?_) <;> try (first | (exfalso; omega) | exact absurd rfl h)) | (refine Vs U U U (fun h => ?_) (fun h => ?_) <;> try (first | cases h | (exfalso; simp at h; done))) | skip)
            all_goals (first | refine Js U U U U U U ?_ | refine Jo U U U U U ?_ | refine Jv U U U (Je rfl) U U ?_)
            all_goals (first | refine Js U U U U U U ?_ | refine Jo U U U U U ?_ | refine Jv U U U (y_eql U U) U U ?_)
            all_goals (refine Jb (Wb U U U) U U U ?_)
            all_goals (refine Jb (Je rfl) U U U ?_)
            all_goals (first | (refine Vc U U U (fun h => ?_) (fun h => ?_) <;> try (first | (exfalso; omega) | exact absurd rfl h)) | (refine Vs U U U (fun h => ?_) (fun h => ?_) <;> try (first | cases h | (exfalso; simp at h; done))) | skip)
            all_goals (first | refine Js U U U U U U ?_ | refine Jo U U U U U ?_ | refine Jv U U U (Je rfl) U U ?_)
            all_goals (first | refine Js U U U U U U ?_ | refine Jo U U U U U ?_ | refine Jv U U U (Je rfl) U U ?_)
            all_goals (first | refine Js U U U U U U ?_ | refine Jo U U U U U ?_ | (refine JL.gloud U U U (Ju e19 U U (cequ v u _ _ _ _ _ (by omega) (by omega) (hKK.kept zpk) (hK9.kept zpk)) ?_); rintro _ _ ⟨rfl, rfl⟩))
            all_goals (refine Jb (Wb U U U) U U U ?_)
            all_goals (refine Jk rfl (Vt hT U U U U U zpk zix ?_))
            all_goals refine Jg ?_
            all_goals refine Jw ?_
            all_goals
              refine JE.round_on hK zpk ?_
              refine ⟨[baseM a lga X, baseM b lgb Y, row b11 30 [.pointer (some ⟨b, 0, none⟩)], row b14 3 [.int .i64 i], row b13 4 [.bool (s0 && sameN QA QB (j + 1))], K .ready none, blk DD (.deferred (some []))] ++ frr, fun w q => ?_, .inl ⟨rfl, rfl⟩⟩
              have e : decide (some u = some v) = decide (v = u) := decide_eq_decide.2 ⟨fun h => (Option.some.inj h).symm, fun h => by rw [h]⟩
              rw [hnx2, e]
              exact q.sup zsup
        case hm =>
          rintro _ _ (rfl | ⟨j, hj, rfl⟩)
          · refine ⟨.ready, none, _, by (repeat (first | exact Jm | apply Jt | apply Vx)), by simp, ?_⟩
            dsimp only
            refine Jw ?_
            refine Jw ?_
            refine Ja ?_
            refine Jc ?_
            refine Jb (y_add U U zwr) U U U ?_
            refine Jb (Je rfl) U U U ?_
            refine Jg ?_
            refine JE.roundD (s := (i, Ds)) (i + 1, DD :: Ds) (by dsimp only; omega) rfl ⟨U, U, U, U, trivial⟩ (fun w z => ?_) (by dsimp only; omega)
            rw [hnext]
            have z1 := z.sup (p := blk DD (.deferred (some [])) :: marksP Ds :: row b13 4 [.bool (s0 && sameN QA QB QA.length)] :: row b11 30 [.pointer (some ⟨b, 0, none⟩)] :: baseM a lga X :: baseM b lgb Y :: r) zsup
            exact z1.marks_cons
          · refine ⟨.ready, none, _, by (repeat (first | exact Jm | apply Jt | apply Vx)), by simp, ?_⟩
            dsimp only
            exact JE.picks (A := pur False) zpk (JE.purs fun h => h.elim)
end
section
open Go.ChangeShapes Go.WideShapes Go.ChangeAt Go.RowKit
theorem table_states_reads : ∀ t ∈ Tryz.f3.params.toList, Tryz.prog.readableRec t = true ∧ t < Tryz.prog.types.size := by
  rw [Tryz.params3]
  intro t ht
  simp only [List.mem_cons, List.not_mem_nil, or_false] at ht
  rcases ht with rfl | rfl
  all_goals exact ⟨by kernel_rfl, of_decide_eq_true (by kernel_rfl)⟩
set_option maxRecDepth 100000 in
theorem table_states_contract (H : Type) (enc : TypeId × Value → H) (W : World) (base : Nat) (args : Array Value) (ds gs : List (DataW H)) (before : List MemPlace)
    (hval : ∀ (j : Nat) t v, Tryz.f3.params[j]? = some t → args[j]? = some v → Value.okWide Tryz.prog W .any base t v)
    (hW : DataW.Whole enc Tryz.prog Tryz.f3.params.toList Rows.tableStatesSpec.vars false W args.toList ds gs before) (hk : Rows.uptoSmall H (ds ++ gs) = true) :
    Calls Tryz.prog 3 args W fun e W' => ∃ v, e = .returned v ∧ Rows.tableStatesSpec.post enc Tryz.prog Tryz.f3 false true false false W args v W' := by
  have hW' := hW
  obtain ⟨p, q, hA0, hV, rfl, hfz, hnd⟩ := hW
  have hA : DataW.TrodAll enc Tryz.prog W 0 (fun _ => true) true Tryz.f3.params.toList args.toList ds p := hA0
  rw [Tryz.params3] at hA hval
  obtain ⟨v0, vs0, d0, ds0, p0, q0, hargs, rfl, rfl, h0, r0⟩ := trodAll_cons hA
  obtain ⟨v1, vs1, d1, ds1, p1, q1, rfl, rfl, rfl, h1, r1⟩ := trodAll_cons r0
  obtain ⟨rfl, rfl, rfl⟩ := trodAll_nil r1
  obtain rfl : args = #[v0, v1] := by cases args; simp_all
  obtain ⟨rfl, rfl⟩ := trodVars_none hV
  clear hA0
  obtain ⟨cs0, rfl, t0⟩ := Tr.ofStruct (ok := upOk) u24 (hval 0 24 v0 U U) h0 (upOk_of hk d0 (by simp))
  obtain ⟨cs1, rfl, t1⟩ := Tr.ofStruct (ok := upOk) u24 (hval 1 24 v1 U U) h1 (upOk_of hk d1 (by simp))
  obtain ⟨x, rfl, hx⟩ := tr_rws upHer t0
  obtain ⟨y, rfl, hy⟩ := tr_rws upHer t1
  refine ((table_states W x y [old W] hx hy) W (Sat.start W)).mono fun e W' hq => ?_
  obtain ⟨v, l', rfl, hs, rfl, rfl⟩ := hq
  exact ⟨_, rfl, law_post laidOut_ U U u4 table_states_reads hW' U U U hs.below⟩
set_option maxRecDepth 100000 in
theorem table_states_lifted (os : Os) (started : os.Started) (H : Type) (enc : TypeId × Value → H) (F : Stop.Interp) :
    ReturnsInHanded {} Tryz.checked os 3 .any ((Rows.OpenSpec.upto Rows.tableStatesSpec).pre6 enc Tryz.prog Tryz.f3 Rows.tableStatesUptoRow.domain false) (((Rows.OpenSpec.upto Rows.tableStatesSpec).at F).post enc Tryz.prog Tryz.f3 false true false false) := by
  refine returnsInHanded_of_cond (C := Tryz.checked) (s := Rows.OpenSpec.upto Rows.tableStatesSpec) (k := Rows.uptoSmall) rfl own_ started (by kernel_rfl) Tryz.func3
    (OpenSpec.witness (enc := enc) (C := Tryz.checked) (s := Rows.OpenSpec.upto Rows.tableStatesSpec) (k := Rows.uptoSmall) rfl false ⟨#[], #[.agg #[.slice none 0 0, .slice none 0 0], .agg #[.slice none 0 0, .slice none 0 0]], []⟩ 8 (by kernel_rfl) (by kernel_rfl) (by kernel_rfl)
      (x := ([.agg [.nil, .nil], .agg [.nil, .nil]], [], [])) (by kernel_rfl) rfl (by kernel_rfl)) ?_
  intro W base args ds gs before hval hW _ hk _
  exact table_states_contract H enc W base args ds gs before hval hW hk
theorem table_states_holds : Rows.TableStatesUptoSaid :=
  OpenClaim.holds_of_cond 3 Tryz.f3 U U U U U U U ⟨rfl, rfl, rfl, rfl, rfl⟩ U U U U U (by kernel_rfl) Tryz.func3 (by kernel_rfl)
    (of_decide_eq_true (by kernel_rfl)) (by unfold Func.isWrapper; first | (rw [if_pos (by decide +kernel)]; kernel_rfl) | (rw [if_neg (by decide +kernel)]; exact ⟨rfl, rfl⟩))
    (fun os started H enc _ F => table_states_lifted os started H enc F)
end
end Go.Proofs.YtaopifoidbdniaaGreat
