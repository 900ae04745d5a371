
/-
  hollowtreelaw13.TableCuts returns true for every input that is not too large for any machine, and leaves its input as it was. No condition.
-/
import Derived.Test.YtaopifoidbdniaaGreatJoin2
import Derived.Test.YtaopifoidbdniaaGreatJoin4
import Derived.Test.YtaopifoidbdniaaGreatJoin5
import Derived.Test.YtaopifoidbdniaaGreatJoin7
import Derived.Test.YtaopifoidbdniaaGreatJoin11
namespace Go.Proofs.YtaopifoidbdniaaGreat
open Go Go.SL
section
/-- The first row of the first table goes. -/
def delFirst (B : Bs) : Bs := match B.meant[0]? with
  | some ((k, v) :: R) => B.del 0 ((k, v) :: R) k
  | _ => B
theorem delFirst_kept (B : Bs) : (delFirst B).shs = B.shs ∧ (delFirst B).kept = B.kept := by
  unfold delFirst
  split
  · exact ⟨rfl, rfl⟩
  · exact ⟨rfl, rfl⟩
theorem delFirst_ok {B : Bs} {n : Nat} (h : BOk B n) : BOk (delFirst B) (n + 1) := by
  unfold delFirst
  split
  · next k v R hR =>
    have hl : 0 < B.shs.length := by
      rw [← h.mfit.len]
      rcases Nat.eq_zero_or_pos B.meant.length with q | q
      · rw [List.getElem?_eq_none (by omega)] at hR; cases hR
      · exact q
    exact h.del (List.getElem?_eq_getElem hl) hR (by simp [rget])
  · exact h.mono (Nat.le_succ _)
attribute [local irreducible] J JL JE JM LS Y Fc RV Code.wp wpList Code.wpIn wpListIn
attribute [local irreducible] Yc ltS
variable (E : World)
set_option maxHeartbeats 1000000 in
theorem table_cuts (x y : Rws) (at_ more : Int) (kp : Option Addr) (kc : Nat) (keep : List Bool) (r : List HProp) (hx : x.Ok r) (hy : y.Ok r) (hink : InL r kp keep.length kc (keep.map Value.bool)) (hkn : keep.length ≤ 2000000) :
    Fc prog E 8 [.agg (rwsC x).toArray, .agg (rwsC y).toArray, .agg #[.int .i64 at_, .int .i64 more, .slice kp keep.length kc]].toArray r (fun v l' => v = .bool true ∧ l' = r) := by
  refine Fc.eqs ?_
  obtain ⟨k, hk, hk1⟩ := range_n more 200 (by decide)
  have hk : (max more 0).tmod 200 = (k : Int) := hk
  obtain ⟨ka, hka, hka1⟩ := range_n at_ 40 (by decide)
  have hka : (max at_ 0).tmod 40 = (ka : Int) := hka
  obtain ⟨N, hN⟩ : ∃ N, 64 + k = N := ⟨_, rfl⟩
  obtain ⟨hL0, hl0⟩ := lh_format (n := N) (by omega) (by omega)
  obtain ⟨D0, hD0⟩ : ∃ D0, (Dk.new N).formatted = D0 := ⟨_, rfl⟩
  rw [hD0] at hL0 hl0
  have hT0 := Ties.new shs13_ok
  obtain ⟨B0, hB0⟩ : ∃ B0 : Bs, ⟨shs13, List.replicate shs13.length [], List.replicate shs13.length [], []⟩ = B0 := ⟨_, rfl⟩
  have hO0 : BOk B0 0 := by rw [← hB0]; exact BOk.start hT0.fit shs13_ok (by decide) 0
  have hs0 : B0.shs = shs13 := by rw [← hB0]
  have hT0 : Ties B0.shs B0.kept lg0 0 := by rw [← hB0]; exact hT0
  have clog : ∀ l, Fc prog E 12 [.int .i64 (N : Int)].toArray l (fun v l' => ∃ lg st d, v = .tuple #[.pointer (some ⟨lg, 0, none⟩), .pointer (some ⟨d, 0, none⟩)] ∧ l' = logm lg st lg0 :: row st 205 (scells sb0 d) :: disk d D0 :: l) := fun l => by rw [← hD0]; exact log13_spec E N (by omega) (by omega) l
  have copen : ∀ lg st g l, Fc prog E 13 [.pointer (some ⟨lg, 0, none⟩), .slice (some ⟨g, 0, none⟩) 2 2].toArray (logm lg st lg0 :: row g 71 (shs13.flatMap shC) :: l) (fun v l' => ∃ b, v = .tuple #[.pointer (some ⟨b, 0, none⟩), .int .i64 0] ∧ l' = baseM b lg B0 :: logm lg st lg0 :: row g 71 (shs13.flatMap shC) :: l) := fun lg st g l => by
    rw [← hB0]
    exact topen_ties E lg st 2 lg0 shs13 _ 0 _ _ (Ties.new shs13_ok) (by decide) rfl (by decide) (by decide) shs13_ok _ (InL.ofRow (cs := shs13.flatMap shC) Jm (by decide))
  obtain ⟨B1, hB1⟩ : ∃ B1, x.on B0 = B1 := ⟨_, rfl⟩
  have hO1 : BOk B1 20 := by rw [← hB1]; exact x.on_ok hO0
  have hs1 : B1.shs = shs13 := by rw [← hB1]; exact (putsB_kept _ _ _ _).1.trans hs0
  have hk1' : B1.kept = B0.kept := by rw [← hB1]; exact (putsB_kept _ _ _ _).2
  have hrow1 : ∀ h ∈ B1.shs, h.rows ≤ (12 : Nat) := by rw [hs1]; exact shs13_rows
  obtain ⟨B2, hB2⟩ : ∃ B2, B1.done = B2 := ⟨_, rfl⟩
  have hO2 : BOk B2 0 := by rw [← hB2]; exact hO1.done 0
  have hs2 : B2.shs = shs13 := by rw [← hB2]; exact hs1
  have hkm2 : B2.kept = B1.meant := by rw [← hB2]; rfl
  have hmm2 : B2.meant = B1.meant := by rw [← hB2]; rfl
  obtain ⟨T, hT2⟩ : ∃ T, stB B1.meant = T := ⟨_, rfl⟩
  have hsm : Small T := by rw [← hT2]; exact hO1.small
  have hTl := hsm.len
  obtain ⟨B3, hB3⟩ : ∃ B3, delFirst B2 = B3 := ⟨_, rfl⟩
  have hO3 : BOk B3 1 := by rw [← hB3]; exact delFirst_ok hO2
  have hs3 : B3.shs = shs13 := by rw [← hB3]; exact (delFirst_kept _).1.trans hs2
  have hk3 : B3.kept = B1.meant := by rw [← hB3]; exact (delFirst_kept _).2.trans hkm2
  obtain ⟨B4, hB4⟩ : ∃ B4 : Bs, y.on B3 = B4 := ⟨_, rfl⟩
  have hO4 : BOk B4 21 := by rw [← hB4]; exact y.on_ok hO3
  have hs4 : B4.shs = shs13 := by rw [← hB4]; exact (putsB_kept _ _ _ _).1.trans hs3
  have hk4 : B4.kept = B1.meant := by rw [← hB4]; exact (putsB_kept _ _ _ _).2.trans hk3
  obtain ⟨T4, hT4⟩ : ∃ T, stB B4.meant = T := ⟨_, rfl⟩
  have hsm4 : Small T4 := by rw [← hT4]; exact hO4.small
  have hTl4 := hsm4.len
  have hrow4 : ∀ h ∈ B4.shs, h.rows ≤ (12 : Nat) := by rw [hs4]; exact shs13_rows
  have hrow2 : ∀ h ∈ B2.shs, h.rows ≤ (12 : Nat) := by rw [hs2]; exact shs13_rows
  have cput1 : ∀ b lg l, x.Ok l → Fc prog E 15 [.agg (rwsC x).toArray, .pointer (some ⟨b, 0, none⟩)].toArray (baseM b lg B0 :: l) (fun v l' => v = .tuple #[] ∧ l' = baseM b lg B1 :: l) := fun b lg l h => by rw [← hB1]; exact put13_spec E b lg B0 x 0 hO0 (by decide) (by rw [hs0]; rfl) l h
  have cput2 : ∀ b lg l, y.Ok l → Fc prog E 15 [.agg (rwsC y).toArray, .pointer (some ⟨b, 0, none⟩)].toArray (baseM b lg B3 :: l) (fun v l' => v = .tuple #[] ∧ l' = baseM b lg B4 :: l) := fun b lg l h => by rw [← hB4]; exact put13_spec E b lg B3 y 1 hO3 (by decide) (by rw [hs3]; rfl) l h
  have sb0t : sb0.turn.toNat = 0 := rfl
  -- a base that is opened again has the one or the other
  have cagain : ∀ (kept : List (List Rw)) (L : Lg) (m lg st : Nat) (TT : List Int), Ties shs13 kept L m → m ≤ 512 → stB kept = TT → ∀ (sp : Option Addr) (l : List HProp), InL l sp 2 2 (shs13.flatMap shC) → Fc prog E 13 [.pointer (some ⟨lg, 0, none⟩), .slice sp 2 2].toArray (logm lg st L :: l) (fun v l' => ∃ b B, v = .tuple #[.pointer (some ⟨b, 0, none⟩), .int .i64 0] ∧ l' = baseM b lg B :: logm lg st L :: l ∧ BOk B 0 ∧ B.shs = shs13 ∧ stB B.meant = TT) := fun kept L m lg st TT h1 h2 h3 sp l h4 =>
    (topen_ties E lg st 2 L shs13 kept m sp 2 h1 h2 rfl (by decide) (by decide) shs13_ok l h4).mono fun v l' ⟨b, e1, e2⟩ => ⟨b, _, e1, e2, BOk.start h1.fit shs13_ok (by decide) 0, rfl, h3⟩
  refine Fc.of_bodyM (c := ?codeC) Tryz.func8 ?hb Tryz.ntmps8 ?hl ?_
  case hb => exact rfl
  case hl => exact rfl
  refine Ji ?_
  refine Jc ?_
  refine Jj rfl (l_box (cs := rwsC x) U U U (fun b3 => ?_))
  refine Jj rfl (l_box (cs := rwsC y) U U U (fun b4 => ?_))
  refine Jj rfl (l_box (cs := [.int .i64 at_, .int .i64 more, .slice kp keep.length kc]) U U U (fun b5 => ?_))
  refine Jb (Jf rfl) U U U ?_
  refine Jg ?_
  refine Ja ?_
  refine Ji ?_
  refine Ji ?_
  refine Jc ?_
  refine Jj rfl (Js e11 U U (wakes13_spec E _) ?_)
  rintro _ l1 ⟨rfl, e1⟩
  obtain rfl := e1.symm
  refine Jb (y_not rfl) U U U ?_
  refine Jg ?_
  refine Ja ?_
  refine Ve rfl zbl ?_
  refine Vd ?_
  refine Ja ?_
  refine Ji ?_
  refine Jc ?_
  refine Jb (Jl hT U U U U U U) U U U ?_
  refine Jb (Jq hT U U U zrd) U U U ?_
  refine Jb (y_max2 U U U) U U U ?_
  refine Jb (y_rem U U (by decide) hk) U U U ?_
  refine Jb (y_add (m := (N : Int)) U U (by rw [show (64 : Int) + (k : Int) = (N : Int) by omega]; exact wrap_i64 (by omega) (by omega))) U U U ?_
  refine Jj rfl (Js e12 U U (clog _) ?_)
  rintro _ _ ⟨lg, st, d, rfl, rfl⟩
  refine Jb (Je rfl) U U U (Jb (Vb U U) U U U (Jb (Vb U U) U U U (Jb (Jf rfl) U U U (Jb (Jf rfl) U U U ?_))))
  refine Jg ?_
  refine Ja ?_
  refine Ji ?_
  refine Jc ?_
  refine Jb (Je rfl) U U U ?_
  refine Jj rfl (Js e14 U U (shapes13_spec E _) ?_)
  rintro _ _ ⟨g1, rfl, rfl⟩
  refine Jj rfl (Js e13 U U (Vq (Jh zpk (Jh (A := row g1 71 (shs13.flatMap shC)) zpk Jk)) (copen lg st g1 _)) ?_)
  rintro _ _ ⟨b, rfl, rfl⟩
  refine Jb (Je rfl) U U U (Jb (Vb U U) U U U (Jb (Vb U U) U U U ?_))
  refine Jj rfl (Wf hT U U zcl rfl (fun b9 => ?_))
  refine Jj rfl (Vz hT U U U U U zpk zix ?_)
  refine Jb (Jf rfl) U U U ?_
  refine Jg ?_
  refine Ja ?_
  refine Ji ?_
  refine Ji ?_
  refine Jc ?_
  refine Jb (Je rfl) U U U (Jb (y_neq U U) U U U ?_)
  refine Jg ?_
  refine Ja ?_
  refine Ve rfl zbl ?_
  refine Vd ?_
  refine Ja ?_
  refine Ji ?_
  refine Jc ?_
  refine Jb (Wh hT U U U (RdN.rowAll (cs := rwsC x) zpk) rfl) U U U ?_
  refine Jb (Jq hT U U U zrd) U U U ?_
  refine Jj rfl (Js e15 U U (Vq (Jh (A := baseM b lg B0) zpk Jk) (cput1 b lg _ ⟨by have := hx.kin; (repeat (first | assumption | apply InL.cons | apply InL.app)), by have := hx.vin; (repeat (first | assumption | apply InL.cons | apply InL.app)), hx.ksm, hx.vsm, hx.kl, hx.vl⟩)) ?_)
  rintro _ _ ⟨rfl, rfl⟩
  refine Jg ?_
  refine Ja ?_
  rcases commit_none E (sortOk12 E) hL0 hO1 (by decide) (by rw [hs1, hk1', ← hs0]; exact hT0) (by decide) hrow1 (by rw [sb0t]; decide) with ⟨La, Sa, D1, hL1, hTi, hl1, htn1, hc1⟩ | ⟨_, hc1⟩
  ·
    rw [hB2] at hc1
    rw [hs1] at hTi
    refine Ji ?_
    refine Ji ?_
    refine Jc ?_
    refine Jb (Jq hT U U U zrd) U U U ?_
    refine Jj rfl (Js e35 U U (Vq (Jh (A := baseM b lg B1) zpk (Jh (A := logm lg st lg0) zpk (Jh (A := row st 205 (scells sb0 d)) zpk (Jh (A := disk d D0) zpk Jk)))) (hc1 b lg st d _)) ?_)
    rintro _ _ ⟨rfl, rfl⟩
    refine Jb (Jf rfl) U U U ?_
    refine Jg ?_
    refine Ja ?_
    refine Ji ?_
    refine Jc ?_
    refine Jb (Je rfl) U U U (Jb (y_neq U U) U U U ?_)
    refine Jg ?_
    refine Ja ?_
    refine Ve rfl zbl ?_
    refine Vd ?_
    refine Ja ?_
    refine Ji ?_
    refine Jc ?_
    refine Jb (Jq hT U U U zrd) U U U ?_
    refine Jj rfl (Js e20 U U (Vq (Jh (A := baseM b lg B2) zpk Jk) (state13 E (sortOk12 E) b lg B2 hO2 hrow2 T (by rw [hmm2]; exact hT2) _)) ?_)
    rintro _ _ ⟨a12, c12, rfl, rfl⟩
    refine Jb (Jf rfl) U U U ?_
    refine Jg ?_
    refine Ja ?_
    refine J.seqKD (α := Nat) (fun _ => True) (fun DD => [SL.mark DD]) (fun _ => [(4, .pointer (some ⟨b4, 0, none⟩)), (5, .pointer (some ⟨b5, 0, none⟩)), (8, .pointer (some ⟨d, 0, none⟩)), (9, .pointer (some ⟨b9, 0, none⟩)), (12, .slice a12 T.length c12)]) (fun DD => blk DD (.deferred (some [])) :: baseM b lg B3 :: logm lg st La :: row st 205 (scells Sa d) :: disk d D1 :: row b9 30 [.pointer (some ⟨b, 0, none⟩)] :: own 5 1 (.slice a12 T.length c12) T.length (ints .u8 T) :: row b4 24 (rwsC y) :: row b5 95 [.int .i64 at_, .int .i64 more, .slice kp keep.length kc] :: r) ?hj15O (fun hk15 => ?hf15O)
    case hf15O =>
      refine Ji ?_
      refine Jc ?_
      refine Jb (Jq hT U U U zrd) U U U ?_
      refine Jj rfl (Js e17 U U (tall_spec E (.pointer (some ⟨b, 0, none⟩)) rfl ((0 : Nat) : Int) _) ?_)
      rintro _ _ ⟨c1, c2, rfl, rfl⟩
      refine Jg ?_
      refine Ja ?_
      refine Vi ?_
      have hm0 : 0 < B2.shs.length := by rw [hs2]; decide
      have hmm0 : 0 < B2.meant.length := by rw [hO2.mfit.len]; exact hm0
      obtain ⟨s0, hsh0⟩ : ∃ s, B2.shs[0]? = some s := ⟨_, List.getElem?_eq_getElem hm0⟩
      obtain ⟨R, hR⟩ : ∃ R, B2.meant[0]? = some R := ⟨_, List.getElem?_eq_getElem hmm0⟩
      have hRok := (hO2.mfit.rok hO2.sh) R (List.mem_of_getElem? hR)
      have hRf := (hO2.mfit.few hrow2) R (List.mem_of_getElem? hR)
      refine J.rangeFunc e71 rfl fun fn a0 kk DD K hK hf0 => ?_
      refine Fc.mono (Fc.imp (tall1_spec E (sortOk12 E) kk c1 c2 b lg B2 0 R [row b9 30 [.pointer (some ⟨b, 0, none⟩)], K .ready none, blk DD (.deferred (some []))] (logm lg st La :: row st 205 (scells Sa d) :: disk d D1 :: own 5 1 (.slice a12 T.length c12) T.length (ints .u8 T) :: row b4 24 (rwsC y) :: row b5 95 [.int .i64 at_, .int .i64 more, .slice kp keep.length kc] :: r) (fun j => match j with | 0 => [baseM b lg B2, row b9 30 [.pointer (some ⟨b, 0, none⟩)], K .ready none, blk DD (.deferred (some []))] | _ + 1 => [pur False, K .ready none]) (fun _ => [baseM b lg B3, row b9 30 [.pointer (some ⟨b, 0, none⟩)], K .done (some (.exit 0)), blk DD (.deferred (some []))]) hO2.n8 hm0 hR hRok hRf (fun w r s => s) (fun frr j key v g c KK hkv hKK => ?hy)) (fun w s => s.sup zsup)) ?hm
      case hy =>
        cases j with
        | succ j =>
          refine Yc.split (p := [pur False]) ?_ (Jh zpk Jk)
          exact Yc.purs fun h => h.elim
        | zero =>
        refine Yc.split (p := [K .ready none]) ?_ (Jh zpk Jk)
        refine Yc.post ?_
        have hdel : delFirst B2 = B2.del 0 R key := by
          cases R with
          | nil => simp at hkv
          | cons p R' =>
            obtain ⟨k1, v1⟩ := p
            simp only [List.getElem?_cons_zero, Option.some.injEq, Prod.mk.injEq] at hkv
            obtain ⟨rfl, rfl⟩ := hkv
            rw [delFirst, hR]
        have hdl : ∀ l, Fc prog E 33 [.pointer (some ⟨b, 0, none⟩), .int .i64 0, .string key].toArray (baseM b lg B2 :: l) (fun v l' => v = .int .i64 0 ∧ l' = baseM b lg B3 :: l) := fun l => by
          rw [← hB3, hdel]
          exact del_ok E b lg B2 0 R key hO2.n8 hm0 hR hRok.srt (by rw [rget_at hRok.srt hkv]; simp) (by have := hO2.few; omega) l
        refine Yc.of_body hK hf0 rfl (by decide) ?_
        refine Jc ?_
        refine Jb (Jf rfl) U U U ?_
        refine Jg ?_
        refine JE.assigned zpk ?_
        refine Vi ?_
        refine Ji ?_
        refine Jc ?_
        refine Jb (Jq hT U U U zrd) U U U ?_
        refine Jb (Je rfl) U U U ?_
        refine Jj rfl (Js e33 U U (Vq (Jh (A := baseM b lg B2) zpk Jk) (hdl _)) ?_)
        rintro _ _ ⟨rfl, rfl⟩
        refine Jg ?_
        refine Ja ?_
        refine J.exit ?_
        refine JE.block_past rfl ?_
        refine JE.round_exit hK zpk ?_
        refine ⟨_, fun w z => z.sup zsup, .inr ⟨rfl, rfl⟩⟩
      case hm =>
        rintro _ _ (rfl | ⟨j, hj, rfl⟩)
        · cases R with
          | nil =>
            have hB32 : B3 = B2 := by rw [← hB3, delFirst, hR]
            dsimp only [List.length_nil]
            refine ⟨.ready, none, _, by (repeat (first | exact Jm | apply Ju | apply Vv)), by simp, ?_⟩
            dsimp only
            rw [← hB32]
            refine Jx ?_
            refine Ja ?_
            refine J.closeKD hk15 DD trivial rfl ⟨U, U, U, U, U, trivial⟩ ?_
            exact fun w z => z.sup zsup
          | cons p R' =>
            dsimp only [List.length_cons]
            refine ⟨.ready, none, _, by (repeat (first | exact Jm | apply Ju | apply Vv)), by simp, ?_⟩
            dsimp only
            exact JE.picks (A := pur False) zpk (JE.purs fun h => h.elim)
        · refine ⟨.done, some (.exit 0), _, by (repeat (first | exact Jm | apply Ju | apply Vv)), by simp, ?_⟩
          dsimp only
          refine J.exit ?_
          refine Vt ?_
          refine Ja ?_
          refine J.closeKD hk15 DD trivial rfl ⟨U, U, U, U, U, trivial⟩ ?_
          exact fun w z => z.sup zsup
    intro DD _
    try dsimp only
    refine Ji ?_
    have carm : ∀ d l, Fc prog E 43 [.pointer (some ⟨d, 0, none⟩), .int .i64 (ka : Int)].toArray (disk d D1 :: l) (fun v l' => v = .int .i64 0 ∧ l' = disk d (D1.armO (some ka)) :: l) := fun d l => by
      have z := arm_spec E d D1 ka (by omega) l
      have hd := hL1.holds.up.dead
      rw [hd] at z
      simpa [Dk.armO] using z
    refine Jc ?_
    refine Jb (Wh hT U U U (RdN.rowAll (cs := rwsC y) zpk) rfl) U U U ?_
    refine Jb (Jq hT U U U zrd) U U U ?_
    refine Jj rfl (Js e15 U U (Vq (Jh (A := baseM b lg B3) zpk Jk) (cput2 b lg _ ⟨by have := hy.kin; (repeat (first | assumption | apply InL.cons | apply InL.app)), by have := hy.vin; (repeat (first | assumption | apply InL.cons | apply InL.app)), hy.ksm, hy.vsm, hy.kl, hy.vl⟩)) ?_)
    rintro _ _ ⟨rfl, rfl⟩
    refine Jg ?_
    refine Ja ?_
    refine Ji ?_
    refine Jc ?_
    refine Jb (Jq hT U U U zrd) U U U ?_
    refine Jj rfl (Js e20 U U (Vq (Jh (A := baseM b lg B4) zpk Jk) (state13 E (sortOk12 E) b lg B4 hO4 hrow4 T4 hT4 _)) ?_)
    rintro _ _ ⟨a14, c14, rfl, rfl⟩
    refine Jb (Jf rfl) U U U ?_
    refine Jg ?_
    refine Ja ?_
    refine Ji ?_
    refine Jc ?_
    refine Jb (Je rfl) U U U (Jb (Jl hT U U U U U U) U U U ?_)
    refine Jb (Jq hT U U U zrd) U U U ?_
    refine Jb (y_max2 U U U) U U U ?_
    refine Jb (y_rem U U (by decide) hka) U U U ?_
    refine Jj rfl (Js e43 U U (Vq (Jh (A := disk d D1) zpk Jk) (carm d _)) ?_)
    rintro _ _ ⟨rfl, rfl⟩
    refine Jg ?_
    refine Ja ?_
    have hTi4 : Ties B4.shs B4.kept La 1 := by rw [hs4, hk4]; exact hTi
    obtain ⟨Lb, Sb', X, e, hcm, hc⟩ := commit_any E (sortOk12 E) (a := some ka) hL1 hO4 (by decide) hTi4 (by decide) hrow4 (fun j hj => by cases hj; omega) (by omega)
    have hpX := hcm.few
    have hlX := hcm.len
    have hcrX : ∀ l p c, InL l p keep.length c (keep.map Value.bool) → Fc prog E 45 [Value.pointer (some ⟨d, 0, none⟩), .slice p keep.length c].toArray (disk d X :: l) (fun v l' => v = .int .i64 0 ∧ l' = disk d (X.crash keep) :: l) := fun l p c h => crash_spec E d X p c keep l h (by omega)
    have hlc : 64 ≤ (X.crash keep).safe.length := by rw [crash_len]; omega
    obtain ⟨Y, hY⟩ : ∃ Y, X.crash keep = Y := ⟨_, rfl⟩
    rw [hY] at hcrX hlc
    have hfin : (e = 0 ∧ X.dead = false ∧ ∃ S2 L2, LH S2 Y L2 ∧ Ties shs13 B4.meant L2 2) ∨ (e = 3 ∧ X.dead = false ∧ ∃ S2 L2, LH S2 Y L2 ∧ Ties shs13 B1.meant L2 1) ∨ (e = 7 ∧ X.dead = true ∧ ∃ S2 L2, LH S2 Y L2 ∧ Ties shs13 B1.meant L2 1) ∨ (e = 7 ∧ X.dead = true ∧ ∃ S2 L2, LH S2 Y L2 ∧ Ties shs13 B4.meant L2 2) := by
      rcases hcm.out with ⟨he, h1, D', a', hX, h2, h3, h4, _, h6⟩ | ⟨he, hLb, hSb, hX⟩ | ⟨he, _, hdd, hkp⟩
      · refine .inl ⟨he, by rw [hX, armO_dead]; exact h2.holds.up.dead, Sb', Lb, ?_, by rw [hs4] at h4; exact h4⟩
        rw [← hY, hX]
        exact h2.crashed h6 keep
      · refine .inr (.inl ⟨he, by rw [hX, armO_dead]; exact hL1.holds.up.dead, Sa, La, ?_, hTi⟩)
        rw [← hY, hX]
        exact hL1.crashed (fun j hj => by cases hj; omega) keep
      · obtain ⟨S2, L2, h1, h2, _⟩ := hkp keep
        rw [hY] at h1
        rcases h2 with h2 | h2
        · exact .inr (.inr (.inl ⟨he, hdd, S2, L2, h1, by rw [hs4, hk4] at h2; exact h2⟩))
        · exact .inr (.inr (.inr ⟨he, hdd, S2, L2, h1, by rw [hs4] at h2; exact h2⟩))
    rcases hfin with ⟨rfl, hdd, S2, L2, hL2, hT5⟩ | ⟨rfl, hdd, S2, L2, hL2, hT5⟩ | ⟨rfl, hdd, S2, L2, hL2, hT5⟩ | ⟨rfl, hdd, S2, L2, hL2, hT5⟩
    ·
      skip
      refine Ji ?_
      refine Jc ?_
      refine Jb (Jq hT U U U zrd) U U U ?_
      refine Jj rfl (Js e35 U U (Vq (Jh (A := baseM b lg B4) zpk (Jh (A := logm lg st La) zpk (Jh (A := row st 205 (scells Sa d)) zpk (Jh (A := disk d (D1.armO (some ka))) zpk Jk)))) (hc b lg st d _)) ?_)
      rintro _ _ ⟨rfl, rfl⟩
      refine Jb (Jf rfl) U U U ?_
      refine Jg ?_
      refine Ja ?_
      refine Ji ?_
      refine Jc ?_
      refine Jb (Je rfl) U U U ?_
      refine Jj rfl (Js e44 U U (Vq (Jh (A := disk d X) zpk Jk) (dead_spec E d X _)) ?_)
      rintro _ _ ⟨rfl, rfl⟩
      rw [hdd]
      refine Jb (Jf rfl) U U U ?_
      refine Jg ?_
      refine Ja ?_
      refine Ji ?_
      refine Jc ?_
      refine Jb (Je rfl) U U U ?_
      refine Jj rfl (l_buildSlice0 hT U U U U (fun b16 => ?_))
      refine Jb (Jl hT U U U U U U) U U U ?_
      refine Jb (Jq hT U U U zrd) U U U ?_
      refine Jj rfl (l_appendIn hT U U U U U U U U zpk zinl (by rw [show i4.size = 1 from rfl]; simp) (by intro u hu; simp only [List.mem_map] at hu; obtain ⟨z, _, rfl⟩ := hu; rfl) (by rw [show i4.bytes = 1 from rfl]; omega) (by omega) rfl (fun kka kkc hkk => ?_))
      rw [Nat.zero_add keep.length, List.nil_append (keep.map Value.bool)]
      refine Jj rfl (Js e45 U U (Fc.fact (p := OwnAt kka keep.length kkc (keep.map Value.bool)) (fun w s => Vl (s.pick zpk)) fun ok => Vq (Jh (A := disk d X) zpk Jk) (hcrX _ _ _ (ok.inl zpk))) ?_)
      rintro _ _ ⟨rfl, rfl⟩
      refine Jg ?_
      refine Ja ?_
      refine Ji ?_
      refine Jc ?_
      refine Jb (Je rfl) U U U ?_
      refine Jj rfl (Js e38 U U (Vq (Jh (A := disk d Y) zpk Jk) (again13_spec E d _ hL2 hlc)) ?_)
      rintro _ _ ⟨lg2, st2, rfl, rfl⟩
      refine Jj rfl (Js e14 U U (shapes13_spec E _) ?_)
      rintro _ _ ⟨g2, rfl, rfl⟩
      refine Jj rfl (Js e13 U U (Vq (Jh (A := logm lg2 st2 L2) zpk Jk) (cagain B4.meant L2 2 lg2 st2 T4 hT5 (by decide) hT4 _ _ (InL.ofRow (cs := shs13.flatMap shC) zpk (by decide)))) ?_)
      rintro _ _ ⟨b5, B5, rfl, rfl, hO5, hs5, hm5⟩
      refine Jb (Je rfl) U U U (Jb (Vb U U) U U U (Jb (Vb U U) U U U (Jb (Jf rfl) U U U (Jb (Jf rfl) U U U ?_))))
      refine Jg ?_
      refine Ja ?_
      refine Ji ?_
      refine Ji ?_
      refine Jc ?_
      refine Jb (Je rfl) U U U (Jb (y_neq U U) U U U (Jb (Je rfl) U U U ?_))
      all_goals (first | (refine Vf U U U (fun h => ?_) (fun h => ?_) <;> try (first | (exfalso; omega) | exact absurd rfl h)) | (refine Vr U U U (fun h => ?_) (fun h => ?_) <;> try (first | cases h | (exfalso; simp at h; done))) | skip)
      all_goals (first | refine Jt U U U U U U ?_ | refine Jp U U U U U ?_ | refine Jv U U U (Je rfl) U U ?_)
      all_goals (first | refine Jt U U U U U U ?_ | refine Jp U U U U U ?_ | refine Jv U U U (Je rfl) U U ?_)
      all_goals (first | refine Jt U U U U U U ?_ | refine Jp U U U U U ?_ | refine Jv U U U (y_eql U U) U U ?_)
      all_goals (first | refine Jt U U U U U U ?_ | refine Jp U U U U U ?_ | refine Jv U U U (y_bool_ne hT U U U U) U U ?_)
      all_goals (refine Jb (We U U U) U U U ?_)
      all_goals refine Jg ?_
      all_goals refine Ja ?_
      all_goals
        refine Ve rfl zbl ?_
        refine Vd ?_
      all_goals refine Ja ?_
      all_goals
        refine Ji ?_
        refine Ji ?_
        refine Jc ?_
        refine Jb (Je rfl) U U U (Jb (y_eql U U) U U U ?_)
        refine Jg ?_
        refine Ja ?_
        refine J.cond_t rfl zbl ?_
        refine Ji ?_
        refine Jc ?_
        refine Jb (Je rfl) U U U ?_
        refine Jj rfl (Js e20 U U (Vq (Jh (A := baseM b5 lg2 B5) zpk Jk) (state13 E (sortOk12 E) b5 lg2 B5 hO5 (by rw [hs5]; exact shs13_rows) T4 hm5 _)) ?_)
        rintro _ _ ⟨a94, c94, rfl, rfl⟩
        refine Jb (Je rfl) U U U ?_
        refine Jj rfl (Js e19 U U (Fc.fact (p := OwnAt a14 T4.length c14 (ints .u8 T4)) (fun w s => Vl (s.pick zpk)) fun o1 => Fc.fact (p := OwnAt a94 T4.length c94 (ints .u8 T4)) (fun w s => Vl (s.pick zpk)) fun o2 => equal_same E T4 hsm4.bytes (by omega) _ _ _ _ _ (o2.inl zpk) (o1.inl zpk)) ?_)
        rintro _ _ ⟨rfl, rfl⟩
        refine Jb (Jf rfl) U U U ?_
        refine Jg ?_
        refine Ja ?_
        refine Vk ?_
        refine Jy ?_
        first | refine JE.unmark (.inl rfl) rfl zpk ?_ | refine JE.nomark (.inl rfl) rfl ?_
        refine Vg (.inl rfl) U U zrv ?_
        exact ⟨rfl, fun w q => q.sup zsup⟩
    ·
      skip
      refine Ji ?_
      refine Jc ?_
      refine Jb (Jq hT U U U zrd) U U U ?_
      refine Jj rfl (Js e35 U U (Vq (Jh (A := baseM b lg B4) zpk (Jh (A := logm lg st La) zpk (Jh (A := row st 205 (scells Sa d)) zpk (Jh (A := disk d (D1.armO (some ka))) zpk Jk)))) (hc b lg st d _)) ?_)
      rintro _ _ ⟨rfl, rfl⟩
      refine Jb (Jf rfl) U U U ?_
      refine Jg ?_
      refine Ja ?_
      refine Ji ?_
      refine Jc ?_
      refine Jb (Je rfl) U U U ?_
      refine Jj rfl (Js e44 U U (Vq (Jh (A := disk d X) zpk Jk) (dead_spec E d X _)) ?_)
      rintro _ _ ⟨rfl, rfl⟩
      rw [hdd]
      refine Jb (Jf rfl) U U U ?_
      refine Jg ?_
      refine Ja ?_
      refine Ji ?_
      refine Jc ?_
      refine Jb (Je rfl) U U U ?_
      refine Jj rfl (l_buildSlice0 hT U U U U (fun b16 => ?_))
      refine Jb (Jl hT U U U U U U) U U U ?_
      refine Jb (Jq hT U U U zrd) U U U ?_
      refine Jj rfl (l_appendIn hT U U U U U U U U zpk zinl (by rw [show i4.size = 1 from rfl]; simp) (by intro u hu; simp only [List.mem_map] at hu; obtain ⟨z, _, rfl⟩ := hu; rfl) (by rw [show i4.bytes = 1 from rfl]; omega) (by omega) rfl (fun kka kkc hkk => ?_))
      rw [Nat.zero_add keep.length, List.nil_append (keep.map Value.bool)]
      refine Jj rfl (Js e45 U U (Fc.fact (p := OwnAt kka keep.length kkc (keep.map Value.bool)) (fun w s => Vl (s.pick zpk)) fun ok => Vq (Jh (A := disk d X) zpk Jk) (hcrX _ _ _ (ok.inl zpk))) ?_)
      rintro _ _ ⟨rfl, rfl⟩
      refine Jg ?_
      refine Ja ?_
      refine Ji ?_
      refine Jc ?_
      refine Jb (Je rfl) U U U ?_
      refine Jj rfl (Js e38 U U (Vq (Jh (A := disk d Y) zpk Jk) (again13_spec E d _ hL2 hlc)) ?_)
      rintro _ _ ⟨lg2, st2, rfl, rfl⟩
      refine Jj rfl (Js e14 U U (shapes13_spec E _) ?_)
      rintro _ _ ⟨g2, rfl, rfl⟩
      refine Jj rfl (Js e13 U U (Vq (Jh (A := logm lg2 st2 L2) zpk Jk) (cagain B1.meant L2 1 lg2 st2 T hT5 (by decide) hT2 _ _ (InL.ofRow (cs := shs13.flatMap shC) zpk (by decide)))) ?_)
      rintro _ _ ⟨b5, B5, rfl, rfl, hO5, hs5, hm5⟩
      refine Jb (Je rfl) U U U (Jb (Vb U U) U U U (Jb (Vb U U) U U U (Jb (Jf rfl) U U U (Jb (Jf rfl) U U U ?_))))
      refine Jg ?_
      refine Ja ?_
      refine Ji ?_
      refine Ji ?_
      refine Jc ?_
      refine Jb (Je rfl) U U U (Jb (y_neq U U) U U U (Jb (Je rfl) U U U ?_))
      all_goals (first | (refine Vf U U U (fun h => ?_) (fun h => ?_) <;> try (first | (exfalso; omega) | exact absurd rfl h)) | (refine Vr U U U (fun h => ?_) (fun h => ?_) <;> try (first | cases h | (exfalso; simp at h; done))) | skip)
      all_goals (first | refine Jt U U U U U U ?_ | refine Jp U U U U U ?_ | refine Jv U U U (Je rfl) U U ?_)
      all_goals (first | refine Jt U U U U U U ?_ | refine Jp U U U U U ?_ | refine Jv U U U (Je rfl) U U ?_)
      all_goals (first | refine Jt U U U U U U ?_ | refine Jp U U U U U ?_ | refine Jv U U U (y_eql U U) U U ?_)
      all_goals (first | refine Jt U U U U U U ?_ | refine Jp U U U U U ?_ | refine Jv U U U (y_bool_ne hT U U U U) U U ?_)
      all_goals (refine Jb (We U U U) U U U ?_)
      all_goals refine Jg ?_
      all_goals refine Ja ?_
      all_goals
        refine Ve rfl zbl ?_
        refine Vd ?_
      all_goals refine Ja ?_
      all_goals
        refine Ji ?_
        refine Ji ?_
        refine Jc ?_
        refine Jb (Je rfl) U U U (Jb (y_eql U U) U U U ?_)
        refine Jg ?_
        refine Ja ?_
        refine Ve rfl zbl ?_
        refine Vd ?_
        refine Ja ?_
        refine Ji ?_
        refine Jc ?_
        refine Jb (Je rfl) U U U ?_
        refine Jj rfl (Js e20 U U (Vq (Jh (A := baseM b5 lg2 B5) zpk Jk) (state13 E (sortOk12 E) b5 lg2 B5 hO5 (by rw [hs5]; exact shs13_rows) T hm5 _)) ?_)
        rintro _ _ ⟨a94, c94, rfl, rfl⟩
        refine Jb (Je rfl) U U U ?_
        refine Jj rfl (Js e19 U U (Fc.fact (p := OwnAt a14 T4.length c14 (ints .u8 T4)) (fun w s => Vl (s.pick zpk)) fun o1 => Fc.fact (p := OwnAt a94 T.length c94 (ints .u8 T)) (fun w s => Vl (s.pick zpk)) fun o2 => equal_spec E _ _ _ _ T T4 _ hsm.bytes hsm4.bytes (o2.inl zpk) (o1.inl zpk) (by omega) (by omega)) ?_)
        rintro _ _ ⟨rfl, rfl⟩
        refine Jb (Je rfl) U U U ?_
        all_goals (first | (refine Vf U U U (fun h => ?_) (fun h => ?_) <;> try (first | (exfalso; omega) | exact absurd rfl h)) | (refine Vr U U U (fun h => ?_) (fun h => ?_) <;> try (first | cases h | (exfalso; simp at h; done))) | skip)
        all_goals (first | refine Jt U U U U U U ?_ | refine Jp U U U U U ?_ | refine Jv U U U (Je rfl) U U ?_)
        all_goals (refine Jb (We U U U) U U U ?_)
        all_goals (refine Jb (Je rfl) U U U ?_)
        all_goals (first | (refine Vf U U U (fun h => ?_) (fun h => ?_) <;> try (first | (exfalso; omega) | exact absurd rfl h)) | (refine Vr U U U (fun h => ?_) (fun h => ?_) <;> try (first | cases h | (exfalso; simp at h; done))) | skip)
        all_goals (first | refine Jt U U U U U U ?_ | refine Jp U U U U U ?_ | refine Jv U U U (Je rfl) U U ?_)
        all_goals (first | refine Jt U U U U U U ?_ | refine Jp U U U U U ?_ | (refine JL.gloud U U U (Js e20 U U (Vq (Jh (A := baseM b5 lg2 B5) zpk Jk) (state13 E (sortOk12 E) b5 lg2 B5 hO5 (by rw [hs5]; exact shs13_rows) T hm5 _)) ?_); rintro _ _ ⟨a106, c106, rfl, rfl⟩))
        all_goals (first | refine Jt U U U U U U ?_ | refine Jp U U U U U ?_ | refine Jv U U U (Je rfl) U U ?_)
        all_goals (first | refine Jt U U U U U U ?_ | refine Jp U U U U U ?_ | (refine JL.gloud U U U (Js e19 U U (Fc.fact (p := OwnAt a12 T.length c12 (ints .u8 T)) (fun w s => Vl (s.pick zpk)) fun o1 => Fc.fact (p := OwnAt a106 T.length c106 (ints .u8 T)) (fun w s => Vl (s.pick zpk)) fun o2 => equal_same E T hsm.bytes (by omega) _ _ _ _ _ (o2.inl zpk) (o1.inl zpk)) ?_); rintro _ _ ⟨rfl, rfl⟩))
        all_goals (refine Jb (We U U U) U U U ?_)
        all_goals (refine Jb (Jf rfl) U U U ?_)
        all_goals refine Jg ?_
        all_goals refine Ja ?_
        all_goals
          refine Vk ?_
          first | refine JE.unmark (.inl rfl) rfl zpk ?_ | refine JE.nomark (.inl rfl) rfl ?_
          refine Vg (.inl rfl) U U zrv ?_
          exact ⟨rfl, fun w q => q.sup zsup⟩
    ·
      skip
      refine Ji ?_
      refine Jc ?_
      refine Jb (Jq hT U U U zrd) U U U ?_
      refine Jj rfl (Js e35 U U (Vq (Jh (A := baseM b lg B4) zpk (Jh (A := logm lg st La) zpk (Jh (A := row st 205 (scells Sa d)) zpk (Jh (A := disk d (D1.armO (some ka))) zpk Jk)))) (hc b lg st d _)) ?_)
      rintro _ _ ⟨rfl, rfl⟩
      refine Jb (Jf rfl) U U U ?_
      refine Jg ?_
      refine Ja ?_
      refine Ji ?_
      refine Jc ?_
      refine Jb (Je rfl) U U U ?_
      refine Jj rfl (Js e44 U U (Vq (Jh (A := disk d X) zpk Jk) (dead_spec E d X _)) ?_)
      rintro _ _ ⟨rfl, rfl⟩
      rw [hdd]
      refine Jb (Jf rfl) U U U ?_
      refine Jg ?_
      refine Ja ?_
      refine Ji ?_
      refine Jc ?_
      refine Jb (Je rfl) U U U ?_
      refine Jj rfl (l_buildSlice0 hT U U U U (fun b16 => ?_))
      refine Jb (Jl hT U U U U U U) U U U ?_
      refine Jb (Jq hT U U U zrd) U U U ?_
      refine Jj rfl (l_appendIn hT U U U U U U U U zpk zinl (by rw [show i4.size = 1 from rfl]; simp) (by intro u hu; simp only [List.mem_map] at hu; obtain ⟨z, _, rfl⟩ := hu; rfl) (by rw [show i4.bytes = 1 from rfl]; omega) (by omega) rfl (fun kka kkc hkk => ?_))
      rw [Nat.zero_add keep.length, List.nil_append (keep.map Value.bool)]
      refine Jj rfl (Js e45 U U (Fc.fact (p := OwnAt kka keep.length kkc (keep.map Value.bool)) (fun w s => Vl (s.pick zpk)) fun ok => Vq (Jh (A := disk d X) zpk Jk) (hcrX _ _ _ (ok.inl zpk))) ?_)
      rintro _ _ ⟨rfl, rfl⟩
      refine Jg ?_
      refine Ja ?_
      refine Ji ?_
      refine Jc ?_
      refine Jb (Je rfl) U U U ?_
      refine Jj rfl (Js e38 U U (Vq (Jh (A := disk d Y) zpk Jk) (again13_spec E d _ hL2 hlc)) ?_)
      rintro _ _ ⟨lg2, st2, rfl, rfl⟩
      refine Jj rfl (Js e14 U U (shapes13_spec E _) ?_)
      rintro _ _ ⟨g2, rfl, rfl⟩
      refine Jj rfl (Js e13 U U (Vq (Jh (A := logm lg2 st2 L2) zpk Jk) (cagain B1.meant L2 1 lg2 st2 T hT5 (by decide) hT2 _ _ (InL.ofRow (cs := shs13.flatMap shC) zpk (by decide)))) ?_)
      rintro _ _ ⟨b5, B5, rfl, rfl, hO5, hs5, hm5⟩
      refine Jb (Je rfl) U U U (Jb (Vb U U) U U U (Jb (Vb U U) U U U (Jb (Jf rfl) U U U (Jb (Jf rfl) U U U ?_))))
      refine Jg ?_
      refine Ja ?_
      refine Ji ?_
      refine Ji ?_
      refine Jc ?_
      refine Jb (Je rfl) U U U (Jb (y_neq U U) U U U (Jb (Je rfl) U U U ?_))
      all_goals (first | (refine Vf U U U (fun h => ?_) (fun h => ?_) <;> try (first | (exfalso; omega) | exact absurd rfl h)) | (refine Vr U U U (fun h => ?_) (fun h => ?_) <;> try (first | cases h | (exfalso; simp at h; done))) | skip)
      all_goals (first | refine Jt U U U U U U ?_ | refine Jp U U U U U ?_ | refine Jv U U U (Je rfl) U U ?_)
      all_goals (first | refine Jt U U U U U U ?_ | refine Jp U U U U U ?_ | refine Jv U U U (Je rfl) U U ?_)
      all_goals (first | refine Jt U U U U U U ?_ | refine Jp U U U U U ?_ | refine Jv U U U (y_eql U U) U U ?_)
      all_goals (first | refine Jt U U U U U U ?_ | refine Jp U U U U U ?_ | refine Jv U U U (y_bool_ne hT U U U U) U U ?_)
      all_goals (refine Jb (We U U U) U U U ?_)
      all_goals refine Jg ?_
      all_goals refine Ja ?_
      all_goals
        refine Ve rfl zbl ?_
        refine Vd ?_
      all_goals refine Ja ?_
      all_goals
        refine Ji ?_
        refine Ji ?_
        refine Jc ?_
        refine Jb (Je rfl) U U U (Jb (y_eql U U) U U U ?_)
        refine Jg ?_
        refine Ja ?_
        refine Ve rfl zbl ?_
        refine Vd ?_
        refine Ja ?_
        refine Ji ?_
        refine Jc ?_
        refine Jb (Je rfl) U U U ?_
        refine Jj rfl (Js e20 U U (Vq (Jh (A := baseM b5 lg2 B5) zpk Jk) (state13 E (sortOk12 E) b5 lg2 B5 hO5 (by rw [hs5]; exact shs13_rows) T hm5 _)) ?_)
        rintro _ _ ⟨a94, c94, rfl, rfl⟩
        refine Jb (Je rfl) U U U ?_
        refine Jj rfl (Js e19 U U (Fc.fact (p := OwnAt a14 T4.length c14 (ints .u8 T4)) (fun w s => Vl (s.pick zpk)) fun o1 => Fc.fact (p := OwnAt a94 T.length c94 (ints .u8 T)) (fun w s => Vl (s.pick zpk)) fun o2 => equal_spec E _ _ _ _ T T4 _ hsm.bytes hsm4.bytes (o2.inl zpk) (o1.inl zpk) (by omega) (by omega)) ?_)
        rintro _ _ ⟨rfl, rfl⟩
        refine Jb (Je rfl) U U U ?_
        all_goals (first | (refine Vf U U U (fun h => ?_) (fun h => ?_) <;> try (first | (exfalso; omega) | exact absurd rfl h)) | (refine Vr U U U (fun h => ?_) (fun h => ?_) <;> try (first | cases h | (exfalso; simp at h; done))) | skip)
        all_goals (first | refine Jt U U U U U U ?_ | refine Jp U U U U U ?_ | refine Jv U U U (Je rfl) U U ?_)
        all_goals (refine Jb (We U U U) U U U ?_)
        all_goals (refine Jb (Je rfl) U U U ?_)
        all_goals (first | (refine Vf U U U (fun h => ?_) (fun h => ?_) <;> try (first | (exfalso; omega) | exact absurd rfl h)) | (refine Vr U U U (fun h => ?_) (fun h => ?_) <;> try (first | cases h | (exfalso; simp at h; done))) | skip)
        all_goals (first | refine Jt U U U U U U ?_ | refine Jp U U U U U ?_ | refine Jv U U U (Je rfl) U U ?_)
        all_goals (first | refine Jt U U U U U U ?_ | refine Jp U U U U U ?_ | (refine JL.gloud U U U (Js e20 U U (Vq (Jh (A := baseM b5 lg2 B5) zpk Jk) (state13 E (sortOk12 E) b5 lg2 B5 hO5 (by rw [hs5]; exact shs13_rows) T hm5 _)) ?_); rintro _ _ ⟨a106, c106, rfl, rfl⟩))
        all_goals (first | refine Jt U U U U U U ?_ | refine Jp U U U U U ?_ | refine Jv U U U (Je rfl) U U ?_)
        all_goals (first | refine Jt U U U U U U ?_ | refine Jp U U U U U ?_ | (refine JL.gloud U U U (Js e19 U U (Fc.fact (p := OwnAt a12 T.length c12 (ints .u8 T)) (fun w s => Vl (s.pick zpk)) fun o1 => Fc.fact (p := OwnAt a106 T.length c106 (ints .u8 T)) (fun w s => Vl (s.pick zpk)) fun o2 => equal_same E T hsm.bytes (by omega) _ _ _ _ _ (o2.inl zpk) (o1.inl zpk)) ?_); rintro _ _ ⟨rfl, rfl⟩))
        all_goals (refine Jb (We U U U) U U U ?_)
        all_goals (refine Jb (Jf rfl) U U U ?_)
        all_goals refine Jg ?_
        all_goals refine Ja ?_
        all_goals
          refine Vk ?_
          first | refine JE.unmark (.inl rfl) rfl zpk ?_ | refine JE.nomark (.inl rfl) rfl ?_
          refine Vg (.inl rfl) U U zrv ?_
          exact ⟨rfl, fun w q => q.sup zsup⟩
    ·
      skip
      refine Ji ?_
      refine Jc ?_
      refine Jb (Jq hT U U U zrd) U U U ?_
      refine Jj rfl (Js e35 U U (Vq (Jh (A := baseM b lg B4) zpk (Jh (A := logm lg st La) zpk (Jh (A := row st 205 (scells Sa d)) zpk (Jh (A := disk d (D1.armO (some ka))) zpk Jk)))) (hc b lg st d _)) ?_)
      rintro _ _ ⟨rfl, rfl⟩
      refine Jb (Jf rfl) U U U ?_
      refine Jg ?_
      refine Ja ?_
      refine Ji ?_
      refine Jc ?_
      refine Jb (Je rfl) U U U ?_
      refine Jj rfl (Js e44 U U (Vq (Jh (A := disk d X) zpk Jk) (dead_spec E d X _)) ?_)
      rintro _ _ ⟨rfl, rfl⟩
      rw [hdd]
      refine Jb (Jf rfl) U U U ?_
      refine Jg ?_
      refine Ja ?_
      refine Ji ?_
      refine Jc ?_
      refine Jb (Je rfl) U U U ?_
      refine Jj rfl (l_buildSlice0 hT U U U U (fun b16 => ?_))
      refine Jb (Jl hT U U U U U U) U U U ?_
      refine Jb (Jq hT U U U zrd) U U U ?_
      refine Jj rfl (l_appendIn hT U U U U U U U U zpk zinl (by rw [show i4.size = 1 from rfl]; simp) (by intro u hu; simp only [List.mem_map] at hu; obtain ⟨z, _, rfl⟩ := hu; rfl) (by rw [show i4.bytes = 1 from rfl]; omega) (by omega) rfl (fun kka kkc hkk => ?_))
      rw [Nat.zero_add keep.length, List.nil_append (keep.map Value.bool)]
      refine Jj rfl (Js e45 U U (Fc.fact (p := OwnAt kka keep.length kkc (keep.map Value.bool)) (fun w s => Vl (s.pick zpk)) fun ok => Vq (Jh (A := disk d X) zpk Jk) (hcrX _ _ _ (ok.inl zpk))) ?_)
      rintro _ _ ⟨rfl, rfl⟩
      refine Jg ?_
      refine Ja ?_
      refine Ji ?_
      refine Jc ?_
      refine Jb (Je rfl) U U U ?_
      refine Jj rfl (Js e38 U U (Vq (Jh (A := disk d Y) zpk Jk) (again13_spec E d _ hL2 hlc)) ?_)
      rintro _ _ ⟨lg2, st2, rfl, rfl⟩
      refine Jj rfl (Js e14 U U (shapes13_spec E _) ?_)
      rintro _ _ ⟨g2, rfl, rfl⟩
      refine Jj rfl (Js e13 U U (Vq (Jh (A := logm lg2 st2 L2) zpk Jk) (cagain B4.meant L2 2 lg2 st2 T4 hT5 (by decide) hT4 _ _ (InL.ofRow (cs := shs13.flatMap shC) zpk (by decide)))) ?_)
      rintro _ _ ⟨b5, B5, rfl, rfl, hO5, hs5, hm5⟩
      refine Jb (Je rfl) U U U (Jb (Vb U U) U U U (Jb (Vb U U) U U U (Jb (Jf rfl) U U U (Jb (Jf rfl) U U U ?_))))
      refine Jg ?_
      refine Ja ?_
      refine Ji ?_
      refine Ji ?_
      refine Jc ?_
      refine Jb (Je rfl) U U U (Jb (y_neq U U) U U U (Jb (Je rfl) U U U ?_))
      all_goals (first | (refine Vf U U U (fun h => ?_) (fun h => ?_) <;> try (first | (exfalso; omega) | exact absurd rfl h)) | (refine Vr U U U (fun h => ?_) (fun h => ?_) <;> try (first | cases h | (exfalso; simp at h; done))) | skip)
      all_goals (first | refine Jt U U U U U U ?_ | refine Jp U U U U U ?_ | refine Jv U U U (Je rfl) U U ?_)
      all_goals (first | refine Jt U U U U U U ?_ | refine Jp U U U U U ?_ | refine Jv U U U (Je rfl) U U ?_)
      all_goals (first | refine Jt U U U U U U ?_ | refine Jp U U U U U ?_ | refine Jv U U U (y_eql U U) U U ?_)
      all_goals (first | refine Jt U U U U U U ?_ | refine Jp U U U U U ?_ | refine Jv U U U (y_bool_ne hT U U U U) U U ?_)
      all_goals (refine Jb (We U U U) U U U ?_)
      all_goals refine Jg ?_
      all_goals refine Ja ?_
      all_goals
        refine Ve rfl zbl ?_
        refine Vd ?_
      all_goals refine Ja ?_
      all_goals
        refine Ji ?_
        refine Ji ?_
        refine Jc ?_
        refine Jb (Je rfl) U U U (Jb (y_eql U U) U U U ?_)
        refine Jg ?_
        refine Ja ?_
        refine Ve rfl zbl ?_
        refine Vd ?_
        refine Ja ?_
        refine Ji ?_
        refine Jc ?_
        refine Jb (Je rfl) U U U ?_
        refine Jj rfl (Js e20 U U (Vq (Jh (A := baseM b5 lg2 B5) zpk Jk) (state13 E (sortOk12 E) b5 lg2 B5 hO5 (by rw [hs5]; exact shs13_rows) T4 hm5 _)) ?_)
        rintro _ _ ⟨a94, c94, rfl, rfl⟩
        refine Jb (Je rfl) U U U ?_
        refine Jj rfl (Js e19 U U (Fc.fact (p := OwnAt a14 T4.length c14 (ints .u8 T4)) (fun w s => Vl (s.pick zpk)) fun o1 => Fc.fact (p := OwnAt a94 T4.length c94 (ints .u8 T4)) (fun w s => Vl (s.pick zpk)) fun o2 => equal_same E T4 hsm4.bytes (by omega) _ _ _ _ _ (o2.inl zpk) (o1.inl zpk)) ?_)
        rintro _ _ ⟨rfl, rfl⟩
        refine Jb (Je rfl) U U U ?_
        all_goals (first | (refine Vf U U U (fun h => ?_) (fun h => ?_) <;> try (first | (exfalso; omega) | exact absurd rfl h)) | (refine Vr U U U (fun h => ?_) (fun h => ?_) <;> try (first | cases h | (exfalso; simp at h; done))) | skip)
        all_goals (first | refine Jt U U U U U U ?_ | refine Jp U U U U U ?_ | refine Jv U U U (Je rfl) U U ?_)
        all_goals (refine Jb (We U U U) U U U ?_)
        all_goals (refine Jb (Je rfl) U U U ?_)
        all_goals (first | (refine Vf U U U (fun h => ?_) (fun h => ?_) <;> try (first | (exfalso; omega) | exact absurd rfl h)) | (refine Vr U U U (fun h => ?_) (fun h => ?_) <;> try (first | cases h | (exfalso; simp at h; done))) | skip)
        all_goals (first | refine Jt U U U U U U ?_ | refine Jp U U U U U ?_ | refine Jv U U U (Je rfl) U U ?_)
        all_goals (first | refine Jt U U U U U U ?_ | refine Jp U U U U U ?_ | (refine JL.gloud U U U (Js e20 U U (Vq (Jh (A := baseM b5 lg2 B5) zpk Jk) (state13 E (sortOk12 E) b5 lg2 B5 hO5 (by rw [hs5]; exact shs13_rows) T hm5 _)) ?_); rintro _ _ ⟨a106, c106, rfl, rfl⟩))
        all_goals (first | refine Jt U U U U U U ?_ | refine Jp U U U U U ?_ | refine Jv U U U (Je rfl) U U ?_)
        all_goals (first | refine Jt U U U U U U ?_ | refine Jp U U U U U ?_ | (refine JL.gloud U U U (Js e19 U U (Fc.fact (p := OwnAt a12 T.length c12 (ints .u8 T)) (fun w s => Vl (s.pick zpk)) fun o1 => Fc.fact (p := OwnAt a106 T.length c106 (ints .u8 T)) (fun w s => Vl (s.pick zpk)) fun o2 => equal_same E T hsm.bytes (by omega) _ _ _ _ _ (o2.inl zpk) (o1.inl zpk)) ?_); rintro _ _ ⟨rfl, rfl⟩))
        all_goals (refine Jb (We U U U) U U U ?_)
        all_goals (refine Jb (Jf rfl) U U U ?_)
        all_goals refine Jg ?_
        all_goals refine Ja ?_
        all_goals
          refine Vk ?_
          first | refine JE.unmark (.inl rfl) rfl zpk ?_ | refine JE.nomark (.inl rfl) rfl ?_
          refine Vg (.inl rfl) U U zrv ?_
          exact ⟨rfl, fun w q => q.sup zsup⟩
  ·
    skip
    refine Ji ?_
    refine Ji ?_
    refine Jc ?_
    refine Jb (Jq hT U U U zrd) U U U ?_
    refine Jj rfl (Js e35 U U (Vq (Jh (A := baseM b lg B1) zpk (Jh (A := logm lg st lg0) zpk (Jh (A := row st 205 (scells sb0 d)) zpk (Jh (A := disk d D0) zpk Jk)))) (hc1 b lg st d _)) ?_)
    rintro _ _ ⟨rfl, rfl⟩
    refine Jb (Jf rfl) U U U ?_
    refine Jg ?_
    refine Ja ?_
    refine Ji ?_
    refine Jc ?_
    refine Jb (Je rfl) U U U (Jb (y_neq U U) U U U ?_)
    refine Jg ?_
    refine Ja ?_
    refine J.cond_t rfl zbl ?_
    refine Ji ?_
    refine Jc ?_
    refine Jb (Je rfl) U U U (Jb (y_eql U U) U U U (Jb (Jf rfl) U U U ?_))
    refine Jg ?_
    refine Ja ?_
    refine Vk ?_
    refine Jy ?_
    first | refine JE.unmark (.inl rfl) rfl zpk ?_ | refine JE.nomark (.inl rfl) rfl ?_
    refine Vg (.inl rfl) U U zrv ?_
    exact ⟨rfl, fun w q => q.sup zsup⟩
end
section
open Go.ChangeShapes Go.WideShapes Go.ChangeAt Go.RowKit
set_option maxRecDepth 100000 in
theorem tr_bools13 {H : Type} {enc : TypeId × Value → H} {w : World} {ok : DataW H → Prop} {L : Nat → Prop} {v : Value} (her : Her ok L) (h : Tr enc prog ok w 93 [v]) : ∃ (p : Option Addr) (cap : Nat) (bs : List Bool), v = .slice p bs.length cap ∧ L bs.length ∧ InW w p bs.length cap (bs.map Value.bool) := by
  obtain ⟨p, cap, xs, h1, hL, _, h2⟩ := Tr.slice (encA := fun b => [Value.bool b]) (okA := fun _ => True) (k := 1) her u93 (by kernel_rfl) (by decide) (fun _ _ => rfl) (fun cs hc => by
    obtain ⟨b, hb⟩ := Tr.bool u4 hc
    exact ⟨b, hb, trivial⟩) h
  have e := flatMap_one Value.bool xs
  exact ⟨p, cap, xs, h1, hL, e ▸ h2⟩
set_option maxRecDepth 100000 in
theorem tr_cut13 {H : Type} {enc : TypeId × Value → H} {w : World} {ok : DataW H → Prop} {L : Nat → Prop} {cs : List Value} (her : Her ok L) (h : Tr enc prog ok w 95 cs) :
    ∃ (at_ more : Int) (kp : Option Addr) (kc : Nat) (keep : List Bool), cs = [.int .i64 at_, .int .i64 more, .slice kp keep.length kc] ∧ L keep.length ∧ InW w kp keep.length kc (keep.map Value.bool) := by
  obtain ⟨hl, hf⟩ := Tr.struct her u95 h
  rw [show prog.cellsOf 95 = 3 by kernel_rfl] at hl
  match cs, hl with
  | [a, c, d], _ =>
    have h0 := hf 0 _ rfl
    have h1 := hf 1 _ rfl
    have h3 := hf 2 _ rfl
    dsimp only at h0 h1 h3
    rw [show prog.cellsOf 3 = 1 by kernel_rfl] at h0 h1
    rw [show prog.cellsOf 93 = 1 by kernel_rfl] at h3
    obtain ⟨k, e0, _⟩ := Tr.int u3 h0
    obtain ⟨k1, e1, _⟩ := Tr.int u3 h1
    obtain ⟨p, cap, bs, e3, l3, r3⟩ := tr_bools13 her h3
    cases e0; cases e1; cases e3
    exact ⟨k, k1, p, cap, bs, rfl, l3, r3⟩
theorem table_cuts_reads : ∀ t ∈ Tryz.f8.params.toList, Tryz.prog.readableRec t = true ∧ t < Tryz.prog.types.size := by
  rw [Tryz.params8]
  intro t ht
  simp only [List.mem_cons, List.not_mem_nil, or_false] at ht
  rcases ht with rfl | rfl | rfl
  all_goals exact ⟨by kernel_rfl, of_decide_eq_true (by kernel_rfl)⟩
set_option maxRecDepth 100000 in
theorem table_cuts_contract (H : Type) (enc : TypeId × Value → H) (W : World) (base : Nat) (args : Array Value) (ds gs : List (DataW H)) (before : List MemPlace)
    (hval : ∀ (j : Nat) t v, Tryz.f8.params[j]? = some t → args[j]? = some v → Value.okWide Tryz.prog W .any base t v)
    (hW : DataW.Whole enc Tryz.prog Tryz.f8.params.toList Rows.tableCutsSpec.vars false W args.toList ds gs before) (hk : Rows.uptoSmall H (ds ++ gs) = true) :
    Calls Tryz.prog 8 args W fun e W' => ∃ v, e = .returned v ∧ Rows.tableCutsSpec.post enc Tryz.prog Tryz.f8 false true false false W args v W' := by
  have hW' := hW
  obtain ⟨p, q, hA0, hV, rfl, hfz, hnd⟩ := hW
  have hA : DataW.TrodAll enc Tryz.prog W 0 (fun _ => true) true Tryz.f8.params.toList args.toList ds p := hA0
  rw [Tryz.params8] at hA hval
  obtain ⟨v0, vs0, d0, ds0, p0, q0, hargs, rfl, rfl, h0, r0⟩ := trodAll_cons hA
  obtain ⟨v1, vs1, d1, ds1, p1, q1, rfl, rfl, rfl, h1, r1⟩ := trodAll_cons r0
  obtain ⟨v2, vs2, d2, ds2, p2, q2, rfl, rfl, rfl, h2, r2⟩ := trodAll_cons r1
  obtain ⟨rfl, rfl, rfl⟩ := trodAll_nil r2
  obtain rfl : args = #[v0, v1, v2] := by cases args; simp_all
  obtain ⟨rfl, rfl⟩ := trodVars_none hV
  clear hA0
  obtain ⟨cs0, rfl, t0⟩ := Tr.ofStruct (ok := upOk) u24 (hval 0 24 v0 U U) h0 (upOk_of hk d0 (by simp))
  obtain ⟨cs1, rfl, t1⟩ := Tr.ofStruct (ok := upOk) u24 (hval 1 24 v1 U U) h1 (upOk_of hk d1 (by simp))
  obtain ⟨cs2, rfl, t2⟩ := Tr.ofStruct (ok := upOk) u95 (hval 2 95 v2 U U) h2 (upOk_of hk d2 (by simp))
  obtain ⟨x, rfl, hx⟩ := tr_rws upHer t0
  obtain ⟨y, rfl, hy⟩ := tr_rws upHer t1
  obtain ⟨at_, more, kp, kc, keep, rfl, hkl, hki⟩ := tr_cut13 upHer t2
  refine ((table_cuts W x y at_ more kp kc keep [old W] hx hy (hki.inl []) (by omega)) W (Sat.start W)).mono fun e W' hq => ?_
  obtain ⟨v, l', rfl, hs, rfl, rfl⟩ := hq
  exact ⟨_, rfl, law_post laidOut_ U U u4 table_cuts_reads hW' U U U hs.below⟩
set_option maxRecDepth 100000 in
theorem table_cuts_lifted (os : Os) (started : os.Started) (H : Type) (enc : TypeId × Value → H) (F : Stop.Interp) :
    ReturnsInHanded {} Tryz.checked os 8 .any ((Rows.OpenSpec.upto Rows.tableCutsSpec).pre6 enc Tryz.prog Tryz.f8 Rows.tableCutsUptoRow.domain false) (((Rows.OpenSpec.upto Rows.tableCutsSpec).at F).post enc Tryz.prog Tryz.f8 false true false false) := by
  refine returnsInHanded_of_cond (C := Tryz.checked) (s := Rows.OpenSpec.upto Rows.tableCutsSpec) (k := Rows.uptoSmall) rfl own_ started (by kernel_rfl) Tryz.func8
    (OpenSpec.witness (enc := enc) (C := Tryz.checked) (s := Rows.OpenSpec.upto Rows.tableCutsSpec) (k := Rows.uptoSmall) rfl false ⟨#[], #[.agg #[.slice none 0 0, .slice none 0 0], .agg #[.slice none 0 0, .slice none 0 0], .agg #[.int .i64 0, .int .i64 0, .slice none 0 0]], []⟩ 8 (by kernel_rfl) (by kernel_rfl) (by kernel_rfl)
      (x := ([.agg [.nil, .nil], .agg [.nil, .nil], .agg [.lit (.int .i64 0), .lit (.int .i64 0), .nil]], [], [])) (by kernel_rfl) rfl (by kernel_rfl)) ?_
  intro W base args ds gs before hval hW _ hk _
  exact table_cuts_contract H enc W base args ds gs before hval hW hk
theorem table_cuts_holds : Rows.TableCutsUptoSaid :=
  OpenClaim.holds_of_cond 8 Tryz.f8 U U U U U U U ⟨rfl, rfl, rfl, rfl, rfl⟩ U U U U U (by kernel_rfl) Tryz.func8 (by kernel_rfl)
    (of_decide_eq_true (by kernel_rfl)) (by unfold Func.isWrapper; first | (rw [if_pos (by decide +kernel)]; kernel_rfl) | (rw [if_neg (by decide +kernel)]; exact ⟨rfl, rfl⟩))
    (fun os started H enc _ F => table_cuts_lifted os started H enc F)
end
end Go.Proofs.YtaopifoidbdniaaGreat
