
/-
  hollowtreelaw22.EntryRises returns true for every input, and leaves its input as it was. No condition.
-/
import Derived.Test.YtimekohdlofmaaaJoin3
import Derived.Test.YtimekohdlofmaaaJoin10
namespace Go.Proofs.Ytimekohdlofmaaa
open Go Go.SL
section
/-- How the power goes. -/
structure Cut22 where
  at_ : Int
  kp : Option Addr
  kc : Nat
  keep : List Bool
def cutE (c : Cut22) : List Value := [.int .i64 c.at_, .slice c.kp c.keep.length c.kc]
theorem cutE_one (c : Cut22) : ∀ u ∈ cutE c, u.oneCell' = true := by
  intro u hu
  simp only [cutE, List.mem_cons, List.not_mem_nil, or_false] at hu
  rcases hu with rfl | rfl <;> rfl
/-- What the power leaves. -/
def After (T : Nat) (X : Dk) (last : BitVec 64) (trying : Bool) : Prop := X.pending.length ≤ 1000 ∧ ∀ keep, ∃ last', ESt T (X.crash keep) last' ∧ (last' = last ∨ (trying = true ∧ last' = last + 1#64))
attribute [local irreducible] J JL JE JM LS Y Fc RV Code.wp wpList Code.wpIn wpListIn
attribute [local irreducible] Yc
variable (E : World)
set_option maxHeartbeats 2000000 in
theorem entry_rises (q : Option Addr) (qc : Nat) (xs : List Cut22) (p : Option Addr) (cap : Nat) (ys : List Int) (r : List HProp) (hin : InL r q xs.length qc (xs.flatMap cutE)) (hx : ∀ c ∈ xs, InL r c.kp c.keep.length c.kc (c.keep.map Value.bool) ∧ c.keep.length ≤ 2000000) (hy : Bytes ys) (hyin : InL r p ys.length cap (ints .u8 ys)) :
    Fc prog E 5 [.slice q xs.length qc, .slice p ys.length cap].toArray r (fun v l' => v = .bool true ∧ l' = r) := by
  refine Fc.eqs ?_
  have hone : ∀ x ∈ xs, (cutE x).length = 2 := fun x _ => rfl
  obtain ⟨mm, hmm⟩ : ∃ mm, min xs.length 12 = mm := ⟨_, rfl⟩
  have hb63 : ∀ {p n c cs}, InL r p n c cs → n ≤ 9223372036854775807 := fun {p n c cs} h => by
    have h1 := h.le
    have h2 := h.most
    unfold maxLen at h2
    omega
  have hx63 := hb63 hin
  have hy63 := hb63 hyin
  refine Fc.of_body (c := ?codeC) Try.func5 ?hb Try.ntmps5 ?hl ?_
  case hb => exact rfl
  case hl => exact rfl
  refine J.seq ?_
  refine J.region ?_
  refine JL.step (y_assign rfl) rfl rfl rfl ?_
  refine JL.nil ?_
  refine JE.then_normal ?_
  refine J.seq ?_
  refine J.seq ?_
  refine J.region ?_
  refine JL.loud rfl (l_callF e6 rfl rfl (wakes22_spec E _) ?_)
  rintro _ l1 ⟨rfl, e1⟩
  obtain rfl := e1.symm
  refine JL.step (y_not rfl) rfl rfl rfl ?_
  refine JL.nil ?_
  refine JE.then_normal ?_
  refine J.cond_f rfl (by (first | rfl | assumption | (simp; done) | (simp; omega))) ?_
  refine J.skip ?_
  refine JE.then_normal ?_
  refine J.seq ?_
  refine J.region ?_
  refine JL.loud rfl (l_callF e7 rfl rfl (new_good E 64 _ (by decide) (by decide)) ?_)
  rintro _ _ ⟨d, rfl, rfl⟩
  refine JL.step (y_move rfl) rfl rfl rfl (JL.step (y_extract rfl rfl) rfl rfl rfl (JL.step (y_extract rfl rfl) rfl rfl rfl (JL.step (y_assign rfl) rfl rfl rfl (JL.step (y_assign rfl) rfl rfl rfl ?_))))
  refine JL.nil ?_
  refine JE.then_normal ?_
  refine J.seq ?_
  refine J.seq ?_
  refine J.region ?_
  refine JL.step (y_move rfl) rfl rfl rfl (JL.step (y_neq rfl rfl) rfl rfl rfl ?_)
  refine JL.nil ?_
  refine JE.then_normal ?_
  refine J.cond_f rfl (by (first | rfl | assumption | (simp; done) | (simp; omega))) ?_
  refine J.skip ?_
  refine JE.then_normal ?_
  refine J.seq ?_
  refine J.region ?_
  refine JL.step (y_assign rfl) rfl rfl rfl ?_
  refine JL.nil ?_
  refine JE.then_normal ?_
  refine J.seq ?_
  refine J.seq ?_
  refine J.region ?_
  refine JL.step (y_move rfl) rfl rfl rfl (JL.step (y_move rfl) rfl rfl rfl (JL.step (y_len_slice hT rfl rfl rfl) rfl rfl rfl ?_))
  refine JL.step (y_min2 (m := (mm : Int)) rfl rfl (by omega)) rfl rfl rfl ?_
  refine JL.step (y_cutTo hT rfl rfl rfl rfl rfl rfl (show mm ≤ xs.length by omega) hin) rfl rfl rfl ?_
  refine JL.step (y_len_slice hT rfl rfl rfl) rfl rfl rfl (JL.step (y_move rfl) rfl rfl rfl ?_)
  refine JL.nil ?_
  refine JE.then_normal ?_
  refine J.block ?_
  refine J.loop (α := Nat × Dk × BitVec 64) (fun s => s.1 ≤ mm ∧ ESt (60 * s.1) s.2.1 s.2.2 ∧ s.2.2.toNat ≤ 60 * s.1) (fun s => [(1, .slice p ys.length cap), (5, .pointer (some ⟨d, 0, none⟩)), (7, Q s.2.2), (31, .slice q mm qc), (32, .int .i64 mm), (33, .int .i64 s.1)]) (fun s => disk d s.2.1 :: r) (fun s => mm - s.1) (0, Dk.new 64, 0#64) ⟨Nat.zero_le _, ESt.new, Nat.le_refl _⟩ ⟨rfl, rfl, rfl, rfl, rfl, rfl, trivial⟩ (fun w h => h.sup (by (repeat (first | exact Sup.refl | apply Sup.cons (by (repeat (first | exact Pick.head | apply Pick.tail | apply Pick.app))) | apply Sup.app | apply Sup.skip | apply Sup.skips)))) ?_
  rintro ⟨i, D, last⟩ ⟨hi, hE, hlast⟩
  dsimp only at hi hE hlast ⊢
  refine J.seq ?_
  refine J.region ?_
  refine JL.step (y_lss rfl rfl) rfl rfl rfl ?_
  refine JL.nil ?_
  refine JE.then_normal ?_
  refine J.seq ?_
  focus
    first | apply J.cond_dec rfl | apply J.cond rfl
    focus
      intro h
      try (first | (exfalso; omega) | (cases h; done) | (exfalso; simp at h; done) | subst h)
      all_goals
        refine J.skip ?_
    rotate_right 1
    focus
      intro h
      try (first | (exfalso; omega) | (cases h; done) | (exfalso; simp at h; done) | subst h)
      all_goals
        refine J.exit ?_
        refine JE.then_exit ?_
        refine JE.then_exit ?_
        refine JE.block_exit ?_
        refine JE.then_normal ?_
        refine J.seq ?_
        refine J.region ?_
        refine JL.step (y_assign rfl) rfl rfl rfl ?_
        refine JL.nil ?_
        refine JE.then_normal ?_
        refine J.ret ?_
        refine JE.ret1 (.inl rfl) rfl rfl (by (first | exact RV.tmp rfl | exact RV.cell1 hT rfl rfl rfl (by (exact Rd1.row (by (repeat (first | exact Pick.head | apply Pick.tail | apply Pick.app))) (by rfl))) | exact RV.cellN hT rfl rfl rfl (by (first | exact RdN.rowAll (by (repeat (first | exact Pick.head | apply Pick.tail | apply Pick.app))) | exact RdN.own (by (repeat (first | exact Pick.head | apply Pick.tail | apply Pick.app))))) (by (first | rfl | assumption | (simp; done) | omega)))) ?_
        exact ⟨rfl, fun w q => q.sup (by (repeat (first | exact Sup.refl | apply Sup.cons (by (repeat (first | exact Pick.head | apply Pick.tail | apply Pick.app))) | apply Sup.app | apply Sup.skip | apply Sup.skips)))⟩
  all_goals refine JE.then_normal ?_
  all_goals
    refine J.seq ?_
    refine J.block ?_
    refine J.seq ?_
    have hlt : i < mm := by omega
    obtain ⟨go, oo, rfl, hro⟩ := hin.addr (by omega)
    have hro0 : RdN r go oo (xs.flatMap cutE) := hro []
    obtain ⟨u, hu⟩ : ∃ u, xs[i]? = some u := ⟨_, List.getElem?_eq_getElem (by omega)⟩
    obtain ⟨hkin, hkn⟩ := hx u (List.mem_of_getElem? hu)
    have hel : (cutE u).length = 2 := rfl
    have heo := cutE_one u
    obtain ⟨at_, kp, kc, keep⟩ := u
    dsimp only at hkin hkn
    obtain ⟨k, hk, hk1⟩ := range_n at_ 60 (by decide)
    have hk : (max at_ 0).tmod 60 = (k : Int) := hk
    have carm : ∀ l, Fc prog E 19 [.pointer (some ⟨d, 0, none⟩), .int .i64 (k : Int)].toArray (disk d D :: l) (fun v l' => v = .int .i64 0 ∧ l' = disk d (D.armO (some k)) :: l) := fun l => by
      have z := arm_spec E d D k (by omega) l
      rw [hE.up.dead] at z
      simp only [Bool.false_eq_true, if_false] at z
      exact z
    refine J.region ?_
    refine JL.step (y_move rfl) rfl rfl rfl ?_
    refine JL.step (y_indexAddr_slice hT rfl rfl rfl rfl rfl (by (first | omega | exact Nat.le_of_ble_eq_true rfl | decide | (simp; omega))) (by (first | omega | exact Nat.le_of_ble_eq_true rfl | decide | (simp; omega)))) rfl rfl rfl ?_
    refine JL.step (y_loadN hT rfl rfl rfl (RdN.elem (by (repeat (first | assumption | apply RdN.cons | apply RdN.app))) hone hu) hel) rfl rfl rfl ?_
    refine JL.loud rfl (l_alloc hT rfl rfl (by (first | rfl | simp)) rfl (fun b9 => ?_))
    refine JL.step (y_assign rfl) rfl rfl rfl ?_
    refine JL.loud rfl (l_storeAll hT rfl rfl rfl (by (first | rfl | assumption | (simp; done) | omega)) (by (first | assumption | exact ones_of rfl | exact encW_one _ | exact encB_one _ | (intro u hu; simp at hu; rcases hu with rfl | rfl <;> rfl) | (intro u hu; simp at hu; subst hu; rfl) | simp)) (by (repeat (first | exact Pick.head | apply Pick.tail | apply Pick.app))) (by (first | rfl | assumption | (simp; done) | omega)) ?_)
    refine JL.nil ?_
    refine JE.then_normal ?_
    refine J.seq ?_
    refine J.seq ?_
    refine J.region ?_
    refine JL.step (y_move rfl) rfl rfl rfl (JL.step (y_fieldAddr hT rfl rfl rfl rfl rfl rfl) rfl rfl rfl ?_)
    refine JL.step (y_load1 hT rfl rfl rfl (by (exact Rd1.row (by (repeat (first | exact Pick.head | apply Pick.tail | apply Pick.app))) (by rfl)))) rfl rfl rfl ?_
    refine JL.step (y_max2 rfl rfl rfl) rfl rfl rfl ?_
    refine JL.step (y_rem rfl rfl (by decide) hk) rfl rfl rfl ?_
    refine JL.loud rfl (l_callF e19 rfl rfl (Fc.on (Split.cons (by (repeat (first | exact Pick.head | apply Pick.tail | apply Pick.app))) Split.nil) (carm _)) ?_)
    rintro _ _ ⟨rfl, rfl⟩
    refine JL.step (y_neq rfl rfl) rfl rfl rfl ?_
    refine JL.nil ?_
    refine JE.then_normal ?_
    refine J.cond_f rfl (by (first | rfl | assumption | (simp; done) | (simp; omega))) ?_
    refine J.skip ?_
    refine JE.then_normal ?_
    refine J.seq ?_
    refine J.region ?_
    refine JL.step (y_assign rfl) rfl rfl rfl ?_
    refine JL.nil ?_
    refine JE.then_normal ?_
    rcases eopen_cases E (a := some k) hE (fun j hj => by cases hj; omega) with ⟨S1, D1, L1, a1, hL1, hN1, ht1, hl1, _, ha1, hop⟩ | ⟨_, X, hpX, hkX, hop⟩
    ·
      skip
      refine J.seq ?_
      refine J.region ?_
      refine JL.step (y_move rfl) rfl rfl rfl ?_
      refine JL.loud rfl (l_callF e13 rfl rfl (Fc.on (Split.cons (by (repeat (first | exact Pick.head | apply Pick.tail | apply Pick.app))) Split.nil) (hop d _)) ?_)
      rintro _ _ ⟨x, lg, st, rfl, rfl⟩
      refine JL.step (y_move rfl) rfl rfl rfl (JL.step (y_extract rfl rfl) rfl rfl rfl (JL.step (y_extract rfl rfl) rfl rfl rfl (JL.step (y_assign rfl) rfl rfl rfl (JL.step (y_assign rfl) rfl rfl rfl ?_))))
      refine JL.nil ?_
      refine JE.then_normal ?_
      refine J.seqK (α := Dk × BitVec 64 × Bool) (fun s => After (60 * i + 55) s.1 s.2.1 s.2.2 ∧ s.2.1.toNat ≤ 60 * i + 50) (fun s => [(1, .slice p ys.length cap), (5, .pointer (some ⟨d, 0, none⟩)), (7, Q s.2.1), (9, .pointer (some ⟨b9, 0, none⟩)), (10, .bool s.2.2), (31, .slice (some ⟨go, oo, none⟩) mm qc), (32, .int .i64 mm), (33, .int .i64 i)]) (fun s => disk d s.1 :: row b9 55 [.int .i64 at_, .slice kp keep.length kc] :: r) ?hj38O (fun hk38 => ?hf38O)
      case hf38O =>
        refine J.seq ?_
        refine J.region ?_
        refine JL.step (y_move rfl) rfl rfl rfl (JL.step (y_eql rfl rfl) rfl rfl rfl ?_)
        refine JL.nil ?_
        refine JE.then_normal ?_
        refine J.cond_t rfl (by (first | rfl | assumption | (simp; done) | (simp; omega))) ?_
        refine J.seq ?_
        refine J.seq ?_
        refine J.region ?_
        refine JL.step (y_move rfl) rfl rfl rfl ?_
        refine JL.loud rfl (l_callF e14 rfl rfl (Fc.on (Split.cons (by (repeat (first | exact Pick.head | apply Pick.tail | apply Pick.app))) Split.nil) (eround_spec E x lg false last 0 0 _ _)) ?_)
        rintro _ _ ⟨rfl, rfl⟩
        refine JL.step (y_move rfl) rfl rfl rfl ?_
        refine JL.step (y_neqB (b := false) rfl rfl (decide_eq_false (fun h => h rfl))) rfl rfl rfl ?_
        refine JL.step (y_move rfl) rfl rfl rfl ?_
        all_goals (first | (refine JL.gsplit_dec rfl rfl rfl (fun h => ?_) (fun h => ?_) <;> try (first | (exfalso; omega) | exact absurd rfl h)) | (refine JL.gsplit rfl rfl rfl (fun h => ?_) (fun h => ?_) <;> try (first | cases h | (exfalso; simp at h; done))) | skip)
        all_goals (first | refine JL.gskip rfl rfl rfl rfl rfl rfl ?_ | refine JL.gskipU rfl rfl rfl rfl rfl ?_ | refine JL.gstep rfl rfl rfl (y_move rfl) rfl rfl ?_)
        all_goals (first | refine JL.gskip rfl rfl rfl rfl rfl rfl ?_ | refine JL.gskipU rfl rfl rfl rfl rfl ?_ | (refine JL.gloud rfl rfl rfl (l_callF e14 rfl rfl (Fc.on (Split.cons (by (repeat (first | exact Pick.head | apply Pick.tail | apply Pick.app))) Split.nil) (eround_spec E x lg false last 0 0 _ _)) ?_); rintro _ _ ⟨rfl, rfl⟩))
        all_goals (first | refine JL.gskip rfl rfl rfl rfl rfl rfl ?_ | refine JL.gskipU rfl rfl rfl rfl rfl ?_ | refine JL.gstep rfl rfl rfl (y_move rfl) rfl rfl ?_)
        all_goals (first | refine JL.gskip rfl rfl rfl rfl rfl rfl ?_ | refine JL.gskipU rfl rfl rfl rfl rfl ?_ | refine JL.gstep rfl rfl rfl ((by first | exact y_addQ rfl rfl | exact y_add rfl rfl (by (first | exact wrap_i64 (by omega) (by omega) | rfl)))) rfl rfl ?_)
        all_goals (first | refine JL.gskip rfl rfl rfl rfl rfl rfl ?_ | refine JL.gskipU rfl rfl rfl rfl rfl ?_ | refine JL.gstep rfl rfl rfl (y_neq rfl rfl) rfl rfl ?_)
        all_goals (refine JL.step (y_pick rfl rfl rfl) rfl rfl rfl ?_)
        all_goals refine JL.nil ?_
        all_goals refine JE.then_normal ?_
        all_goals
          refine J.cond_f rfl (by (first | rfl | assumption | (simp; done) | (simp; omega))) ?_
          refine J.skip ?_
        all_goals refine JE.then_normal ?_
        all_goals
          refine J.seq ?_
          refine J.region ?_
          refine JL.step (y_move rfl) rfl rfl rfl ?_
          refine JL.loud rfl (l_callF e14 rfl rfl (Fc.on (Split.cons (by (repeat (first | exact Pick.head | apply Pick.tail | apply Pick.app))) Split.nil) (eround_spec E x lg false last 0 0 _ _)) ?_)
          rintro _ _ ⟨rfl, rfl⟩
          refine JL.step (y_assign rfl) rfl rfl rfl ?_
          refine JL.nil ?_
          refine JE.then_normal ?_
          refine J.seq ?_
          refine J.region ?_
          refine JL.step (y_assign rfl) rfl rfl rfl ?_
          refine JL.nil ?_
          refine JE.then_normal ?_
          refine J.seqK (α := Nat) (fun n => n ≤ 49) (fun n => [(1, .slice p ys.length cap), (5, .pointer (some ⟨d, 0, none⟩)), (7, Q last), (9, .pointer (some ⟨b9, 0, none⟩)), (10, .bool false), (11, .pointer (some ⟨x, 0, none⟩)), (13, .int .i64 n), (31, .slice (some ⟨go, oo, none⟩) mm qc), (32, .int .i64 mm), (33, .int .i64 i)]) (fun _ => entR x lg false last 0 0 (.map none) :: logm lg st L1 :: row st 74 (scells S1 d) :: disk d (D1.armO a1) :: row b9 55 [.int .i64 at_, .slice kp keep.length kc] :: r) ?hj21O (fun hk21 => ?hf21O)
          case hf21O =>
            refine J.seq ?_
            refine J.region ?_
            refine JL.step (y_move rfl) rfl rfl rfl (JL.step (y_move rfl) rfl rfl rfl (JL.step (y_len_slice hT rfl rfl rfl) rfl rfl rfl (JL.step (y_lss rfl rfl) rfl rfl rfl ?_)))
            refine JL.nil ?_
            refine JE.then_normal ?_
            focus
              first | apply J.cond_dec rfl | apply J.cond rfl
              focus
                intro h
                try (first | (exfalso; omega) | (cases h; done) | (exfalso; simp at h; done) | subst h)
                all_goals
                  obtain ⟨gy, oy, rfl, hry⟩ := hyin.addr (by omega)
                  have hry0 : RdN r gy oy (ints .u8 ys) := hry []
                  obtain ⟨yv, hyv⟩ : ∃ yv, ys[i]? = some yv := ⟨_, List.getElem?_eq_getElem (by omega)⟩
                  have hyb := hy yv (List.mem_of_getElem? hyv)
                  obtain ⟨n0, hn0, hn1⟩ : ∃ n0 : Nat, yv.tmod 50 = n0 ∧ n0 ≤ 49 := ⟨(yv.tmod 50).toNat, by
                    have := Int.tmod_nonneg 50 hyb.1
                    omega, by
                    have := Int.tmod_lt_of_pos yv (show (0 : Int) < 50 by decide)
                    omega⟩
                  have hyv2 : (ints .u8 ys)[i]? = some (.int .u8 yv) := by simp [ints, hyv]
                  refine J.region ?_
                  refine JL.step (y_move rfl) rfl rfl rfl (JL.step (y_move rfl) rfl rfl rfl ?_)
                  refine JL.step (y_indexAddr_slice hT rfl rfl rfl rfl rfl (by (first | omega | exact Nat.le_of_ble_eq_true rfl | decide | (simp; omega))) (by (first | omega | exact Nat.le_of_ble_eq_true rfl | decide | (simp; omega)))) rfl rfl rfl ?_
                  refine JL.step (y_load1 hT rfl rfl rfl (Rd1.elem (by (repeat (first | assumption | apply RdN.cons | apply RdN.app))) hyv2)) rfl rfl rfl ?_
                  refine JL.step (y_rem (m := (n0 : Int)) rfl rfl (by decide) hn0) rfl rfl rfl ?_
                  refine JL.step (y_conv (m := (n0 : Int)) hT rfl rfl rfl rfl (wrap_i64 (by omega) (by omega))) rfl rfl rfl ?_
                  refine JL.step (y_assign rfl) rfl rfl rfl ?_
                  refine JL.nil ?_
              rotate_right 1
              focus
                intro h
                try (first | (exfalso; omega) | (cases h; done) | (exfalso; simp at h; done) | subst h)
                all_goals
                  refine J.skip ?_
            all_goals refine JE.then_normal ?_
            all_goals
              first
                | (have zz := hn1
                   exact J.closeK hk21 n0 hn1 ⟨rfl, rfl, rfl, rfl, rfl, rfl, rfl, rfl, rfl, rfl, trivial⟩ (fun w s => s.sup (by (repeat (first | exact Sup.refl | apply Sup.cons (by (repeat (first | exact Pick.head | apply Pick.tail | apply Pick.app))) | apply Sup.app | apply Sup.skip | apply Sup.skips)))))
                | exact J.closeK hk21 3 (by decide) ⟨rfl, rfl, rfl, rfl, rfl, rfl, rfl, rfl, rfl, rfl, trivial⟩ (fun w s => s.sup (by (repeat (first | exact Sup.refl | apply Sup.cons (by (repeat (first | exact Pick.head | apply Pick.tail | apply Pick.app))) | apply Sup.app | apply Sup.skip | apply Sup.skips))))
          intro n hn
          refine J.seq ?_
          refine J.region ?_
          refine JL.step (y_move rfl) rfl rfl rfl (JL.step (y_move rfl) rfl rfl rfl ?_)
          refine JL.nil ?_
          refine JE.then_normal ?_
          refine J.block ?_
          refine J.loop (α := Nat × Sb × Dk × Lg × Option Nat × BitVec 64) (fun s => s.1 ≤ n ∧ LH s.2.1 s.2.2.1 s.2.2.2.1 ∧ entryN s.2.2.2.1 = some s.2.2.2.2.2 ∧ s.2.1.turn.toNat ≤ 60 * i + s.1 ∧ s.2.2.1.safe.length = 64 ∧ (∀ j, s.2.2.2.2.1 = some j → j ≤ 1000000) ∧ s.2.2.2.2.2.toNat ≤ 60 * i + s.1) (fun s => [(1, .slice p ys.length cap), (5, .pointer (some ⟨d, 0, none⟩)), (7, Q s.2.2.2.2.2), (9, .pointer (some ⟨b9, 0, none⟩)), (10, .bool false), (11, .pointer (some ⟨x, 0, none⟩)), (31, .slice (some ⟨go, oo, none⟩) mm qc), (32, .int .i64 mm), (33, .int .i64 i), (75, .int .i64 n), (76, .int .i64 s.1)]) (fun s => entR x lg false s.2.2.2.2.2 0 0 (.map none) :: logm lg st s.2.2.2.1 :: row st 74 (scells s.2.1 d) :: disk d (s.2.2.1.armO s.2.2.2.2.1) :: row b9 55 [.int .i64 at_, .slice kp keep.length kc] :: r) (fun s => n - s.1) (0, S1, D1, L1, a1, last) ⟨Nat.zero_le _, hL1, hN1, by dsimp only; omega, hl1, ha1, by dsimp only; omega⟩ ⟨rfl, rfl, rfl, rfl, rfl, rfl, rfl, rfl, rfl, rfl, rfl, trivial⟩ (fun w h => h.sup (by (repeat (first | exact Sup.refl | apply Sup.cons (by (repeat (first | exact Pick.head | apply Pick.tail | apply Pick.app))) | apply Sup.app | apply Sup.skip | apply Sup.skips)))) ?_
          rintro ⟨j, S2, D2, L2, a2, last2⟩ ⟨hj, hL2, hN2, ht2, hl2, ha2, hb2⟩
          dsimp only at hj hL2 hN2 ht2 hl2 ha2 hb2 ⊢
          refine J.seq ?_
          refine J.region ?_
          refine JL.step (y_lss rfl rfl) rfl rfl rfl ?_
          refine JL.nil ?_
          refine JE.then_normal ?_
          refine J.seq ?_
          focus
            first | apply J.cond_dec rfl | apply J.cond rfl
            focus
              intro h
              try (first | (exfalso; omega) | (cases h; done) | (exfalso; simp at h; done) | subst h)
              all_goals
                refine J.skip ?_
            rotate_right 1
            focus
              intro h
              try (first | (exfalso; omega) | (cases h; done) | (exfalso; simp at h; done) | subst h)
              all_goals
                have hEnd := hb2
                refine J.exit ?_
                refine JE.then_exit ?_
                refine JE.then_exit ?_
                refine JE.block_exit ?_
                refine JE.then_normal ?_
                first
                  | (have zz := hB
                     exact J.closeK hk38 (X2, last2, true) ⟨⟨hK.few, fun keep => (by
                      obtain ⟨S5, L5, h5, hor5, ht5⟩ := hkp keep
                      have hl5 : (X2.crash keep).safe.length = 64 := by rw [crash_len, hK.len]; exact hl2
                      rcases hor5 with rfl | rfl
                      · exact ⟨last2, ESt.of h5 hN2 (by omega) hl5, .inl rfl⟩
                      · exact ⟨last2 + 1#64, ESt.of h5 hA (by omega) hl5, .inr ⟨rfl, rfl⟩⟩)⟩, by dsimp only; omega⟩ ⟨rfl, rfl, rfl, rfl, rfl, rfl, rfl, rfl, trivial⟩ (fun w s => s.sup (by (repeat (first | exact Sup.refl | apply Sup.cons (by (repeat (first | exact Pick.head | apply Pick.tail | apply Pick.app))) | apply Sup.app | apply Sup.skip | apply Sup.skips)))))
                  | (have zz := hEnd
                     exact J.closeK hk38 (D2.armO a2, last2, false) ⟨⟨by rw [armO_pending, hL2.holds.none]; exact Nat.zero_le _, fun keep => ⟨last2, ESt.of (hL2.crashed ha2 keep) hN2 (by omega) (by rw [crash_len, armO_safe]; exact hl2), .inl rfl⟩⟩, by dsimp only; omega⟩ ⟨rfl, rfl, rfl, rfl, rfl, rfl, rfl, rfl, trivial⟩ (fun w s => s.sup (by (repeat (first | exact Sup.refl | apply Sup.cons (by (repeat (first | exact Pick.head | apply Pick.tail | apply Pick.app))) | apply Sup.app | apply Sup.skip | apply Sup.skips)))))
                  | (have zz := hX
                     exact J.closeK hk38 (X, last, false) ⟨⟨hpX, fun keep => ⟨last, (hkX keep).mono (by omega), .inl rfl⟩⟩, by dsimp only; omega⟩ ⟨rfl, rfl, rfl, rfl, rfl, rfl, rfl, rfl, trivial⟩ (fun w s => s.sup (by (repeat (first | exact Sup.refl | apply Sup.cons (by (repeat (first | exact Pick.head | apply Pick.tail | apply Pick.app))) | apply Sup.app | apply Sup.skip | apply Sup.skips)))))
          all_goals refine JE.then_normal ?_
          all_goals
            refine J.seq ?_
            refine J.block ?_
            refine J.seq ?_
            refine J.region ?_
            refine JL.step (y_assign rfl) rfl rfl rfl ?_
            refine JL.nil ?_
            refine JE.then_normal ?_
            have hnz : last2 + 1#64 ≠ 0#64 := fun e => by
              have z := congrArg BitVec.toNat e
              rw [BitVec.toNat_add] at z
              simp at z
              omega
            have hl2n := next_num hnz
            obtain ⟨A, La, Sa, X2, e, hA, hK, hc⟩ := announce_lh E (a := a2) hL2 hN2 hnz ha2 (by omega) (by omega)
            rcases hK.out with ⟨he, hLa, htn, D3, a3, hX3, hL3, hl3, _, ha3⟩ | ⟨he, _, hLa, hSa, hkp⟩
            ·
              subst he hLa hX3
              have hann : ∀ p cap l, InL l p 1 cap ((keysL 1).flatMap (ints .u8)) → Fc prog E 16 [.pointer (some ⟨x, 0, none⟩), .slice p 1 cap].toArray (entR x lg false last2 0 0 (.map none) :: logm lg st L2 :: row st 74 (scells S2 d) :: disk d (D2.armO a2) :: l)
                  (fun v l' => ∃ a c g, v = .tuple #[.agg #[Q (last2 + 1#64), .slice a 1 c], .int .i64 0] ∧ l' = own 60 32 (.slice a 1 c) 1 ((keysL 1).flatMap (ints .u8)) :: blk g (.map #[] 0) :: entR x lg false (last2 + 1#64) 1 1 (.map (some g)) :: logm lg st La :: row st 74 (scells Sa d) :: disk d (D3.armO a3) :: l) := fun p cap l h5 =>
                (announce_spec E x lg st d last2 0 (.map none) S2 Sa (D2.armO a2) (D3.armO a3) L2 La p cap 1 (keysL 1) l rfl (by decide) (by decide) keyB_mem h5 0 hnz (fun l => hc x lg st d 0 (.map none) l)).mono fun v l' z => by
                  rcases z with ⟨_, z⟩ | ⟨z, _⟩
                  · exact z
                  · exact absurd rfl z
              refine J.seq ?_
              refine J.region ?_
              refine JL.step (y_move rfl) rfl rfl rfl ?_
              refine JL.loud rfl (l_callF e17 rfl rfl (keys22_spec E 1 _ 1 (by decide)) ?_)
              rintro _ _ ⟨ka, kc1, rfl, rfl⟩
              refine JL.loud rfl (l_callF e16 rfl rfl (Fc.fact (p := OwnAt ka 1 kc1 ((keysL 1).flatMap (ints .u8))) (fun w s => Sat.own_at (s.pick Pick.head)) fun ok => Fc.on (Split.cons (by (repeat (first | exact Pick.head | apply Pick.tail | apply Pick.app))) (Split.cons (by (repeat (first | exact Pick.head | apply Pick.tail | apply Pick.app))) (Split.cons (by (repeat (first | exact Pick.head | apply Pick.tail | apply Pick.app))) (Split.cons (by (repeat (first | exact Pick.head | apply Pick.tail | apply Pick.app))) Split.nil)))) (hann ka kc1 _ (ok.inl (by (repeat (first | exact Pick.head | apply Pick.tail | apply Pick.app)))))) ?_)
              rintro _ _ ⟨za, zc, g, rfl, rfl⟩
              refine JL.step (y_move rfl) rfl rfl rfl (JL.step (y_extract rfl rfl) rfl rfl rfl (JL.step (y_extract rfl rfl) rfl rfl rfl ?_))
              refine JL.loud rfl (l_alloc hT rfl rfl (by (first | rfl | simp)) rfl (fun b11 => ?_))
              refine JL.loud rfl (l_storeAll hT rfl rfl rfl (by (first | rfl | assumption | (simp; done) | omega)) (by (first | assumption | exact ones_of rfl | exact encW_one _ | exact encB_one _ | (intro u hu; simp at hu; rcases hu with rfl | rfl <;> rfl) | (intro u hu; simp at hu; subst hu; rfl) | simp)) (by (repeat (first | exact Pick.head | apply Pick.tail | apply Pick.app))) (by (first | rfl | assumption | (simp; done) | omega)) ?_)
              refine JL.step (y_assign rfl) rfl rfl rfl ?_
              refine JL.nil ?_
              refine JE.then_normal ?_
              refine J.seq ?_
              refine J.seq ?_
              refine J.region ?_
              refine JL.step (y_move rfl) rfl rfl rfl (JL.step (y_neq rfl rfl) rfl rfl rfl ?_)
              refine JL.nil ?_
              refine JE.then_normal ?_
              refine J.cond_f rfl (by (first | rfl | assumption | (simp; done) | (simp; omega))) ?_
              refine J.skip ?_
              refine JE.then_normal ?_
              refine J.seq ?_
              refine J.seq ?_
              refine J.region ?_
              refine JL.step (y_fieldAddr hT rfl rfl rfl rfl rfl rfl) rfl rfl rfl ?_
              refine JL.step (y_load1 hT rfl rfl rfl (by (exact Rd1.row (by (repeat (first | exact Pick.head | apply Pick.tail | apply Pick.app))) (by rfl)))) rfl rfl rfl ?_
              refine JL.step (y_move rfl) rfl rfl rfl ?_
              refine JL.step ((by first | exact y_addQ rfl rfl | exact y_add rfl rfl (by (first | exact wrap_i64 (by omega) (by omega) | rfl)))) rfl rfl rfl ?_
              refine JL.step (y_neqB (b := false) rfl rfl (decide_eq_false (fun h => h rfl))) rfl rfl rfl ?_
              refine JL.step (y_move rfl) rfl rfl rfl ?_
              all_goals (first | (refine JL.gsplit_dec rfl rfl rfl (fun h => ?_) (fun h => ?_) <;> try (first | (exfalso; omega) | exact absurd rfl h)) | (refine JL.gsplit rfl rfl rfl (fun h => ?_) (fun h => ?_) <;> try (first | cases h | (exfalso; simp at h; done))) | skip)
              all_goals (first | refine JL.gskip rfl rfl rfl rfl rfl rfl ?_ | refine JL.gskipU rfl rfl rfl rfl rfl ?_ | refine JL.gstep rfl rfl rfl (y_move rfl) rfl rfl ?_)
              all_goals (first | refine JL.gskip rfl rfl rfl rfl rfl rfl ?_ | refine JL.gskipU rfl rfl rfl rfl rfl ?_ | (refine JL.gloud rfl rfl rfl (l_callF e18 rfl rfl (Fc.on (Split.cons (by (repeat (first | exact Pick.head | apply Pick.tail | apply Pick.app))) Split.nil) (eabort_spec E x lg false _ 1 _ _ _ (by decide))) ?_); rintro _ _ ⟨rfl, rfl⟩))
              all_goals (first | refine JL.gskip rfl rfl rfl rfl rfl rfl ?_ | refine JL.gskipU rfl rfl rfl rfl rfl ?_ | refine JL.gstep rfl rfl rfl (y_neq rfl rfl) rfl rfl ?_)
              all_goals (refine JL.step (y_pick rfl rfl rfl) rfl rfl rfl ?_)
              all_goals refine JL.nil ?_
              all_goals refine JE.then_normal ?_
              all_goals
                refine J.cond_f rfl (by (first | rfl | assumption | (simp; done) | (simp; omega))) ?_
                refine J.skip ?_
              all_goals refine JE.then_normal ?_
              all_goals
                refine J.seq ?_
                refine J.region ?_
                refine JL.step (y_fieldAddr hT rfl rfl rfl rfl rfl rfl) rfl rfl rfl ?_
                refine JL.step (y_load1 hT rfl rfl rfl (by (exact Rd1.row (by (repeat (first | exact Pick.head | apply Pick.tail | apply Pick.app))) (by rfl)))) rfl rfl rfl ?_
                refine JL.step (y_assign rfl) rfl rfl rfl ?_
                refine JL.nil ?_
                refine JE.then_normal ?_
                refine J.region ?_
                refine JL.step (y_assign rfl) rfl rfl rfl ?_
                refine JL.nil ?_
              all_goals
                refine JE.block_normal ?_
                refine JE.then_normal ?_
                refine J.region ?_
                refine JL.step (y_add rfl rfl (by (first | exact wrap_i64 (by omega) (by omega) | rfl))) rfl rfl rfl ?_
                refine JL.step (y_move rfl) rfl rfl rfl ?_
                refine JL.nil ?_
                exact JE.round (s := (j, S2, D2, L2, a2, last2)) (j + 1, Sa, D3, La, a3, last2 + 1#64) ⟨by dsimp only; omega, hL3, hA, by dsimp only; omega, hl3.trans hl2, ha3, by dsimp only; omega⟩ ⟨rfl, rfl, rfl, rfl, rfl, rfl, rfl, rfl, rfl, rfl, rfl, trivial⟩ (fun w s => s.sup (by (repeat (first | exact Sup.refl | apply Sup.cons (by (repeat (first | exact Pick.head | apply Pick.tail | apply Pick.app))) | apply Sup.app | apply Sup.skip | apply Sup.skips)))) (by dsimp only; omega)
            ·
              subst he
              have hB := hLa
              have hann : ∀ p cap l, InL l p 1 cap ((keysL 1).flatMap (ints .u8)) → Fc prog E 16 [.pointer (some ⟨x, 0, none⟩), .slice p 1 cap].toArray (entR x lg false last2 0 0 (.map none) :: logm lg st L2 :: row st 74 (scells S2 d) :: disk d (D2.armO a2) :: l)
                  (fun v l' => v = .tuple #[.agg #[Q 0#64, .slice none 0 0], .int .i64 7] ∧ l' = entR x lg true last2 0 0 (.map none) :: logm lg st La :: row st 74 (scells Sa d) :: disk d X2 :: l) := fun p cap l h5 =>
                (announce_spec E x lg st d last2 0 (.map none) S2 Sa (D2.armO a2) X2 L2 La p cap 1 (keysL 1) l rfl (by decide) (by decide) keyB_mem h5 7 hnz (fun l => hc x lg st d 0 (.map none) l)).mono fun v l' z => by
                  rcases z with ⟨z, _⟩ | ⟨_, z⟩
                  · exact absurd z (by decide)
                  · exact z
              refine J.seq ?_
              refine J.region ?_
              refine JL.step (y_move rfl) rfl rfl rfl ?_
              refine JL.loud rfl (l_callF e17 rfl rfl (keys22_spec E 1 _ 1 (by decide)) ?_)
              rintro _ _ ⟨ka, kc1, rfl, rfl⟩
              refine JL.loud rfl (l_callF e16 rfl rfl (Fc.fact (p := OwnAt ka 1 kc1 ((keysL 1).flatMap (ints .u8))) (fun w s => Sat.own_at (s.pick Pick.head)) fun ok => Fc.on (Split.cons (by (repeat (first | exact Pick.head | apply Pick.tail | apply Pick.app))) (Split.cons (by (repeat (first | exact Pick.head | apply Pick.tail | apply Pick.app))) (Split.cons (by (repeat (first | exact Pick.head | apply Pick.tail | apply Pick.app))) (Split.cons (by (repeat (first | exact Pick.head | apply Pick.tail | apply Pick.app))) Split.nil)))) (hann ka kc1 _ (ok.inl (by (repeat (first | exact Pick.head | apply Pick.tail | apply Pick.app)))))) ?_)
              rintro _ _ ⟨rfl, rfl⟩
              refine JL.step (y_move rfl) rfl rfl rfl (JL.step (y_extract rfl rfl) rfl rfl rfl (JL.step (y_extract rfl rfl) rfl rfl rfl ?_))
              refine JL.loud rfl (l_alloc hT rfl rfl (by (first | rfl | simp)) rfl (fun b11 => ?_))
              refine JL.loud rfl (l_storeAll hT rfl rfl rfl (by (first | rfl | assumption | (simp; done) | omega)) (by (first | assumption | exact ones_of rfl | exact encW_one _ | exact encB_one _ | (intro u hu; simp at hu; rcases hu with rfl | rfl <;> rfl) | (intro u hu; simp at hu; subst hu; rfl) | simp)) (by (repeat (first | exact Pick.head | apply Pick.tail | apply Pick.app))) (by (first | rfl | assumption | (simp; done) | omega)) ?_)
              refine JL.step (y_assign rfl) rfl rfl rfl ?_
              refine JL.nil ?_
              refine JE.then_normal ?_
              refine J.seq ?_
              refine J.seq ?_
              refine J.region ?_
              refine JL.step (y_move rfl) rfl rfl rfl (JL.step (y_neq rfl rfl) rfl rfl rfl ?_)
              refine JL.nil ?_
              refine JE.then_normal ?_
              refine J.cond_t rfl (by (first | rfl | assumption | (simp; done) | (simp; omega))) ?_
              refine J.seq ?_
              refine J.seq ?_
              refine J.region ?_
              refine JL.step (y_move rfl) rfl rfl rfl (JL.step (y_neq rfl rfl) rfl rfl rfl (JL.step (y_move rfl) rfl rfl rfl ?_))
              all_goals (first | (refine JL.gsplit_dec rfl rfl rfl (fun h => ?_) (fun h => ?_) <;> try (first | (exfalso; omega) | exact absurd rfl h)) | (refine JL.gsplit rfl rfl rfl (fun h => ?_) (fun h => ?_) <;> try (first | cases h | (exfalso; simp at h; done))) | skip)
              all_goals (first | refine JL.gskip rfl rfl rfl rfl rfl rfl ?_ | refine JL.gskipU rfl rfl rfl rfl rfl ?_ | refine JL.gstep rfl rfl rfl (y_move rfl) rfl rfl ?_)
              all_goals (first | refine JL.gskip rfl rfl rfl rfl rfl rfl ?_ | refine JL.gskipU rfl rfl rfl rfl rfl ?_ | (refine JL.gloud rfl rfl rfl (l_callF e18 rfl rfl (Fc.on (Split.cons (by (repeat (first | exact Pick.head | apply Pick.tail | apply Pick.app))) Split.nil) (eabort_idle E x lg true last2 0 _ _)) ?_); rintro _ _ ⟨rfl, rfl⟩))
              all_goals (first | refine JL.gskip rfl rfl rfl rfl rfl rfl ?_ | refine JL.gskipU rfl rfl rfl rfl rfl ?_ | refine JL.gstep rfl rfl rfl (y_neq rfl rfl) rfl rfl ?_)
              all_goals (refine JL.step (y_pick rfl rfl rfl) rfl rfl rfl ?_)
              all_goals refine JL.nil ?_
              all_goals refine JE.then_normal ?_
              all_goals
                refine J.cond_f rfl (by (first | rfl | assumption | (simp; done) | (simp; omega))) ?_
                refine J.skip ?_
              all_goals refine JE.then_normal ?_
              all_goals
                refine J.seq ?_
                refine J.seq ?_
                refine J.region ?_
                refine JL.step (y_move rfl) rfl rfl rfl ?_
                refine JL.loud rfl (l_callF e17 rfl rfl (keys22_spec E 1 _ 1 (by decide)) ?_)
                rintro _ _ ⟨ka2, kc2, rfl, rfl⟩
                refine JL.loud rfl (l_callF e16 rfl rfl (Fc.on (Split.cons (by (repeat (first | exact Pick.head | apply Pick.tail | apply Pick.app))) Split.nil) (announce_broken E x lg last2 0 0 _ ka2 kc2 1 _)) ?_)
                rintro _ _ ⟨rfl, rfl⟩
                refine JL.step (y_move rfl) rfl rfl rfl (JL.step (y_extract rfl rfl) rfl rfl rfl (JL.step (y_extract rfl rfl) rfl rfl rfl ?_))
                refine JL.loud rfl (l_alloc hT rfl rfl (by (first | rfl | simp)) rfl (fun b16 => ?_))
                refine JL.loud rfl (l_storeAll hT rfl rfl rfl (by (first | rfl | assumption | (simp; done) | omega)) (by (first | assumption | exact ones_of rfl | exact encW_one _ | exact encB_one _ | (intro u hu; simp at hu; rcases hu with rfl | rfl <;> rfl) | (intro u hu; simp at hu; subst hu; rfl) | simp)) (by (repeat (first | exact Pick.head | apply Pick.tail | apply Pick.app))) (by (first | rfl | assumption | (simp; done) | omega)) ?_)
                refine JL.step (y_assign rfl) rfl rfl rfl ?_
                refine JL.nil ?_
                refine JE.then_normal ?_
                refine J.seq ?_
                refine J.region ?_
                refine JL.step (y_move rfl) rfl rfl rfl (JL.step (y_neq rfl rfl) rfl rfl rfl ?_)
                refine JL.nil ?_
                refine JE.then_normal ?_
                refine J.cond_f rfl (by (first | rfl | assumption | (simp; done) | (simp; omega))) ?_
                refine J.skip ?_
                refine JE.then_normal ?_
                refine J.exit ?_
                refine JE.then_exit ?_
                refine JE.block_past rfl ?_
                refine JE.then_exit ?_
                refine JE.then_exit ?_
                refine JE.block_exit ?_
                refine JE.then_normal ?_
                first
                  | (have zz := hB
                     exact J.closeK hk38 (X2, last2, true) ⟨⟨hK.few, fun keep => (by
                      obtain ⟨S5, L5, h5, hor5, ht5⟩ := hkp keep
                      have hl5 : (X2.crash keep).safe.length = 64 := by rw [crash_len, hK.len]; exact hl2
                      rcases hor5 with rfl | rfl
                      · exact ⟨last2, ESt.of h5 hN2 (by omega) hl5, .inl rfl⟩
                      · exact ⟨last2 + 1#64, ESt.of h5 hA (by omega) hl5, .inr ⟨rfl, rfl⟩⟩)⟩, by dsimp only; omega⟩ ⟨rfl, rfl, rfl, rfl, rfl, rfl, rfl, rfl, trivial⟩ (fun w s => s.sup (by (repeat (first | exact Sup.refl | apply Sup.cons (by (repeat (first | exact Pick.head | apply Pick.tail | apply Pick.app))) | apply Sup.app | apply Sup.skip | apply Sup.skips)))))
                  | (have zz := hEnd
                     exact J.closeK hk38 (D2.armO a2, last2, false) ⟨⟨by rw [armO_pending, hL2.holds.none]; exact Nat.zero_le _, fun keep => ⟨last2, ESt.of (hL2.crashed ha2 keep) hN2 (by omega) (by rw [crash_len, armO_safe]; exact hl2), .inl rfl⟩⟩, by dsimp only; omega⟩ ⟨rfl, rfl, rfl, rfl, rfl, rfl, rfl, rfl, trivial⟩ (fun w s => s.sup (by (repeat (first | exact Sup.refl | apply Sup.cons (by (repeat (first | exact Pick.head | apply Pick.tail | apply Pick.app))) | apply Sup.app | apply Sup.skip | apply Sup.skips)))))
                  | (have zz := hX
                     exact J.closeK hk38 (X, last, false) ⟨⟨hpX, fun keep => ⟨last, (hkX keep).mono (by omega), .inl rfl⟩⟩, by dsimp only; omega⟩ ⟨rfl, rfl, rfl, rfl, rfl, rfl, rfl, rfl, trivial⟩ (fun w s => s.sup (by (repeat (first | exact Sup.refl | apply Sup.cons (by (repeat (first | exact Pick.head | apply Pick.tail | apply Pick.app))) | apply Sup.app | apply Sup.skip | apply Sup.skips)))))
      rintro ⟨X, last3, trying⟩ ⟨⟨hpX, hkX⟩, hl3b⟩
      dsimp only at hpX hkX hl3b ⊢
      obtain ⟨last4, hE4, hor4⟩ := hkX keep
      refine J.seq ?_
      refine J.seq ?_
      refine J.region ?_
      refine JL.step (y_move rfl) rfl rfl rfl ?_
      refine JL.loud rfl (l_buildSlice0 hT rfl rfl rfl rfl (fun b18 => ?_))
      refine JL.step (y_fieldAddr hT rfl rfl rfl rfl rfl rfl) rfl rfl rfl ?_
      refine JL.step (y_load1 hT rfl rfl rfl (by (exact Rd1.row (by (repeat (first | exact Pick.head | apply Pick.tail | apply Pick.app))) (by rfl)))) rfl rfl rfl ?_
      refine JL.loud rfl (l_appendIn hT rfl rfl rfl rfl rfl rfl rfl rfl (by (repeat (first | exact Pick.head | apply Pick.tail | apply Pick.app))) (by (repeat (first | assumption | apply InL.cons | apply InL.app))) (by rw [show i4.size = 1 from rfl]; simp) (by intro u hu; simp only [List.mem_map] at hu; obtain ⟨z, _, rfl⟩ := hu; rfl) (by rw [show i4.bytes = 1 from rfl]; omega) (by omega) rfl (fun kka kkc hkk => ?_))
      rw [Nat.zero_add keep.length, List.nil_append (keep.map Value.bool)]
      refine JL.loud rfl (l_callF e20 rfl rfl (Fc.fact (p := OwnAt kka keep.length kkc (keep.map Value.bool)) (fun w s => Sat.own_at (s.pick (by (repeat (first | exact Pick.head | apply Pick.tail | apply Pick.app))))) fun ok => Fc.on (Split.cons (by (repeat (first | exact Pick.head | apply Pick.tail | apply Pick.app))) Split.nil) (crash_spec E d X _ _ keep _ (ok.inl (by (repeat (first | exact Pick.head | apply Pick.tail | apply Pick.app)))) (by omega))) ?_)
      rintro _ _ ⟨rfl, rfl⟩
      refine JL.step (y_neq rfl rfl) rfl rfl rfl ?_
      refine JL.nil ?_
      refine JE.then_normal ?_
      refine J.cond_f rfl (by (first | rfl | assumption | (simp; done) | (simp; omega))) ?_
      refine J.skip ?_
      refine JE.then_normal ?_
      refine J.seq ?_
      obtain ⟨S4, D4, L4, a4, hL4, hN4, ht4, hl4, hna4, _, hop4⟩ := (eopen_cases E (a := none) hE4 (fun j hj => by cases hj)).resolve_right (fun h => h.1 rfl)
      obtain rfl := hna4 rfl
      rcases hor4 with rfl | ⟨rfl, rfl⟩
      case' inl =>
        have hb6 : decide (¬ (last4.toNat : Int) = last4.toNat) = false := decide_eq_false (fun h => h rfl)
        have hb4 : last4.toNat ≤ 60 * (i + 1) := by omega
      case' inr =>
        have hnn : (last3 + 1#64).toNat = last3.toNat + 1 := by
          rw [BitVec.toNat_add]
          show (last3.toNat + 1) % 18446744073709551616 = _
          omega
        have hb6 : decide (¬ ((last3 + 1#64).toNat : Int) = last3.toNat) = true := decide_eq_true (by omega)
        have hb4 : (last3 + 1#64).toNat ≤ 60 * (i + 1) := by omega
      all_goals
        refine J.region ?_
        refine JL.step (y_move rfl) rfl rfl rfl ?_
        refine JL.loud rfl (l_callF e13 rfl rfl (Fc.on (Split.cons (by (repeat (first | exact Pick.head | apply Pick.tail | apply Pick.app))) Split.nil) (hop4 d _)) ?_)
        rintro _ _ ⟨x4, lg4, st4, rfl, rfl⟩
        refine JL.step (y_move rfl) rfl rfl rfl (JL.step (y_extract rfl rfl) rfl rfl rfl (JL.step (y_extract rfl rfl) rfl rfl rfl (JL.step (y_assign rfl) rfl rfl rfl (JL.step (y_assign rfl) rfl rfl rfl ?_))))
        refine JL.nil ?_
      all_goals refine JE.then_normal ?_
      all_goals
        refine J.seq ?_
        refine J.seq ?_
        refine J.region ?_
        refine JL.step (y_move rfl) rfl rfl rfl (JL.step (y_neq rfl rfl) rfl rfl rfl (JL.step (y_move rfl) rfl rfl rfl ?_))
        all_goals (first | (refine JL.gsplit_dec rfl rfl rfl (fun h => ?_) (fun h => ?_) <;> try (first | (exfalso; omega) | exact absurd rfl h)) | (refine JL.gsplit rfl rfl rfl (fun h => ?_) (fun h => ?_) <;> try (first | cases h | (exfalso; simp at h; done))) | skip)
        all_goals (first | refine JL.gskip rfl rfl rfl rfl rfl rfl ?_ | refine JL.gskipU rfl rfl rfl rfl rfl ?_ | refine JL.gstep rfl rfl rfl (y_move rfl) rfl rfl ?_)
        all_goals (first | refine JL.gskip rfl rfl rfl rfl rfl rfl ?_ | refine JL.gskipU rfl rfl rfl rfl rfl ?_ | (refine JL.gloud rfl rfl rfl (l_callF e14 rfl rfl (Fc.on (Split.cons (by (repeat (first | exact Pick.head | apply Pick.tail | apply Pick.app))) Split.nil) (eround_spec E x4 lg4 false _ 0 0 _ _)) ?_); rintro _ _ ⟨rfl, rfl⟩))
        all_goals (first | refine JL.gskip rfl rfl rfl rfl rfl rfl ?_ | refine JL.gskipU rfl rfl rfl rfl rfl ?_ | refine JL.gstep rfl rfl rfl (y_move rfl) rfl rfl ?_)
        all_goals (first | refine JL.gskip rfl rfl rfl rfl rfl rfl ?_ | refine JL.gskipU rfl rfl rfl rfl rfl ?_ | (refine JL.gstep rfl rfl rfl (y_neqB rfl rfl hb6) rfl rfl ?_))
        all_goals (first | refine JL.gskip rfl rfl rfl rfl rfl rfl ?_ | refine JL.gskipU rfl rfl rfl rfl rfl ?_ | refine JL.gstep rfl rfl rfl (y_move rfl) rfl rfl ?_)
        all_goals (first | (refine JL.gsplit_dec rfl rfl rfl (fun h => ?_) (fun h => ?_) <;> try (first | (exfalso; omega) | exact absurd rfl h)) | (refine JL.gsplit rfl rfl rfl (fun h => ?_) (fun h => ?_) <;> try (first | cases h | (exfalso; simp at h; done))) | skip)
        all_goals (first | refine JL.gskip rfl rfl rfl rfl rfl rfl ?_ | refine JL.gskipU rfl rfl rfl rfl rfl ?_ | refine JL.gstep rfl rfl rfl (y_move rfl) rfl rfl ?_)
        all_goals (first | refine JL.gskip rfl rfl rfl rfl rfl rfl ?_ | refine JL.gskipU rfl rfl rfl rfl rfl ?_ | refine JL.gstep rfl rfl rfl (y_move rfl) rfl rfl ?_)
        all_goals (first | (refine JL.gsplit_dec rfl rfl rfl (fun h => ?_) (fun h => ?_) <;> try (first | (exfalso; omega) | exact absurd rfl h)) | (refine JL.gsplit rfl rfl rfl (fun h => ?_) (fun h => ?_) <;> try (first | cases h | (exfalso; simp at h; done))) | skip)
        all_goals (first | refine JL.gskip rfl rfl rfl rfl rfl rfl ?_ | refine JL.gskipU rfl rfl rfl rfl rfl ?_ | refine JL.gstep rfl rfl rfl (y_move rfl) rfl rfl ?_)
        all_goals (first | refine JL.gskip rfl rfl rfl rfl rfl rfl ?_ | refine JL.gskipU rfl rfl rfl rfl rfl ?_ | (refine JL.gloud rfl rfl rfl (l_callF e14 rfl rfl (Fc.on (Split.cons (by (repeat (first | exact Pick.head | apply Pick.tail | apply Pick.app))) Split.nil) (eround_spec E x4 lg4 false _ 0 0 _ _)) ?_); rintro _ _ ⟨rfl, rfl⟩))
        all_goals (first | refine JL.gskip rfl rfl rfl rfl rfl rfl ?_ | refine JL.gskipU rfl rfl rfl rfl rfl ?_ | refine JL.gstep rfl rfl rfl (y_move rfl) rfl rfl ?_)
        all_goals (first | refine JL.gskip rfl rfl rfl rfl rfl rfl ?_ | refine JL.gskipU rfl rfl rfl rfl rfl ?_ | refine JL.gstep rfl rfl rfl ((by first | exact y_addQ rfl rfl | exact y_add rfl rfl (by (first | exact wrap_i64 (by omega) (by omega) | rfl)))) rfl rfl ?_)
        all_goals (first | refine JL.gskip rfl rfl rfl rfl rfl rfl ?_ | refine JL.gskipU rfl rfl rfl rfl rfl ?_ | (refine JL.gstep rfl rfl rfl (y_eqlB (b := true) rfl rfl (decide_eq_true rfl)) rfl rfl ?_))
        all_goals (first | refine JL.gskip rfl rfl rfl rfl rfl rfl ?_ | refine JL.gskipU rfl rfl rfl rfl rfl ?_ | refine JL.gstep rfl rfl rfl (y_pick rfl rfl rfl) rfl rfl ?_)
        all_goals (first | refine JL.gskip rfl rfl rfl rfl rfl rfl ?_ | refine JL.gskipU rfl rfl rfl rfl rfl ?_ | refine JL.gstep rfl rfl rfl (y_not rfl) rfl rfl ?_)
        all_goals (first | refine JL.gskip rfl rfl rfl rfl rfl rfl ?_ | refine JL.gskipU rfl rfl rfl rfl rfl ?_ | refine JL.gstep rfl rfl rfl (y_pick rfl rfl rfl) rfl rfl ?_)
        all_goals (refine JL.step (y_pick rfl rfl rfl) rfl rfl rfl ?_)
        all_goals refine JL.nil ?_
        all_goals refine JE.then_normal ?_
        all_goals
          refine J.cond_f rfl (by (first | rfl | assumption | (simp; done) | (simp; omega))) ?_
          refine J.skip ?_
        all_goals refine JE.then_normal ?_
        all_goals
          refine J.region ?_
          refine JL.step (y_move rfl) rfl rfl rfl ?_
          refine JL.loud rfl (l_callF e14 rfl rfl (Fc.on (Split.cons (by (repeat (first | exact Pick.head | apply Pick.tail | apply Pick.app))) Split.nil) (eround_spec E x4 lg4 false _ 0 0 _ _)) ?_)
          rintro _ _ ⟨rfl, rfl⟩
          refine JL.step (y_assign rfl) rfl rfl rfl ?_
          refine JL.nil ?_
      all_goals
        refine JE.block_normal ?_
        refine JE.then_normal ?_
        refine J.region ?_
        refine JL.step (y_add rfl rfl (by (first | exact wrap_i64 (by omega) (by omega) | rfl))) rfl rfl rfl ?_
        refine JL.step (y_move rfl) rfl rfl rfl ?_
        refine JL.nil ?_
        first
          | exact JE.round (s := (i, D, last)) (i + 1, D4, last4) ⟨by dsimp only; omega, ESt.of hL4 hN4 (by omega) hl4, hb4⟩ ⟨rfl, rfl, rfl, rfl, rfl, rfl, trivial⟩ (fun w s => s.sup (by (repeat (first | exact Sup.refl | apply Sup.cons (by (repeat (first | exact Pick.head | apply Pick.tail | apply Pick.app))) | apply Sup.app | apply Sup.skip | apply Sup.skips)))) (by dsimp only; omega)
          | exact JE.round (s := (i, D, last)) (i + 1, D4, last3 + 1#64) ⟨by dsimp only; omega, ESt.of hL4 hN4 (by omega) hl4, hb4⟩ ⟨rfl, rfl, rfl, rfl, rfl, rfl, trivial⟩ (fun w s => s.sup (by (repeat (first | exact Sup.refl | apply Sup.cons (by (repeat (first | exact Pick.head | apply Pick.tail | apply Pick.app))) | apply Sup.app | apply Sup.skip | apply Sup.skips)))) (by dsimp only; omega)
    ·
      have hX := hpX
      refine J.seq ?_
      refine J.region ?_
      refine JL.step (y_move rfl) rfl rfl rfl ?_
      refine JL.loud rfl (l_callF e13 rfl rfl (Fc.on (Split.cons (by (repeat (first | exact Pick.head | apply Pick.tail | apply Pick.app))) Split.nil) (hop d _)) ?_)
      rintro _ _ ⟨rfl, rfl⟩
      refine JL.step (y_move rfl) rfl rfl rfl (JL.step (y_extract rfl rfl) rfl rfl rfl (JL.step (y_extract rfl rfl) rfl rfl rfl (JL.step (y_assign rfl) rfl rfl rfl (JL.step (y_assign rfl) rfl rfl rfl ?_))))
      refine JL.nil ?_
      refine JE.then_normal ?_
      refine J.seqK (α := Dk × BitVec 64 × Bool) (fun s => After (60 * i + 55) s.1 s.2.1 s.2.2 ∧ s.2.1.toNat ≤ 60 * i + 50) (fun s => [(1, .slice p ys.length cap), (5, .pointer (some ⟨d, 0, none⟩)), (7, Q s.2.1), (9, .pointer (some ⟨b9, 0, none⟩)), (10, .bool s.2.2), (31, .slice (some ⟨go, oo, none⟩) mm qc), (32, .int .i64 mm), (33, .int .i64 i)]) (fun s => disk d s.1 :: row b9 55 [.int .i64 at_, .slice kp keep.length kc] :: r) ?hj38X (fun hk38 => ?hf38X)
      case hf38X =>
        refine J.seq ?_
        refine J.region ?_
        refine JL.step (y_move rfl) rfl rfl rfl (JL.step (y_eql rfl rfl) rfl rfl rfl ?_)
        refine JL.nil ?_
        refine JE.then_normal ?_
        refine J.cond_f rfl (by (first | rfl | assumption | (simp; done) | (simp; omega))) ?_
        refine J.seq ?_
        refine J.region ?_
        refine JL.step (y_move rfl) rfl rfl rfl (JL.step (y_neq rfl rfl) rfl rfl rfl ?_)
        refine JL.nil ?_
        refine JE.then_normal ?_
        refine J.cond_f rfl (by (first | rfl | assumption | (simp; done) | (simp; omega))) ?_
        refine J.skip ?_
        all_goals refine JE.then_normal ?_
        all_goals
          first
            | (have zz := hB
               exact J.closeK hk38 (X2, last2, true) ⟨⟨hK.few, fun keep => (by
                obtain ⟨S5, L5, h5, hor5, ht5⟩ := hkp keep
                have hl5 : (X2.crash keep).safe.length = 64 := by rw [crash_len, hK.len]; exact hl2
                rcases hor5 with rfl | rfl
                · exact ⟨last2, ESt.of h5 hN2 (by omega) hl5, .inl rfl⟩
                · exact ⟨last2 + 1#64, ESt.of h5 hA (by omega) hl5, .inr ⟨rfl, rfl⟩⟩)⟩, by dsimp only; omega⟩ ⟨rfl, rfl, rfl, rfl, rfl, rfl, rfl, rfl, trivial⟩ (fun w s => s.sup (by (repeat (first | exact Sup.refl | apply Sup.cons (by (repeat (first | exact Pick.head | apply Pick.tail | apply Pick.app))) | apply Sup.app | apply Sup.skip | apply Sup.skips)))))
            | (have zz := hEnd
               exact J.closeK hk38 (D2.armO a2, last2, false) ⟨⟨by rw [armO_pending, hL2.holds.none]; exact Nat.zero_le _, fun keep => ⟨last2, ESt.of (hL2.crashed ha2 keep) hN2 (by omega) (by rw [crash_len, armO_safe]; exact hl2), .inl rfl⟩⟩, by dsimp only; omega⟩ ⟨rfl, rfl, rfl, rfl, rfl, rfl, rfl, rfl, trivial⟩ (fun w s => s.sup (by (repeat (first | exact Sup.refl | apply Sup.cons (by (repeat (first | exact Pick.head | apply Pick.tail | apply Pick.app))) | apply Sup.app | apply Sup.skip | apply Sup.skips)))))
            | (have zz := hX
               exact J.closeK hk38 (X, last, false) ⟨⟨hpX, fun keep => ⟨last, (hkX keep).mono (by omega), .inl rfl⟩⟩, by dsimp only; omega⟩ ⟨rfl, rfl, rfl, rfl, rfl, rfl, rfl, rfl, trivial⟩ (fun w s => s.sup (by (repeat (first | exact Sup.refl | apply Sup.cons (by (repeat (first | exact Pick.head | apply Pick.tail | apply Pick.app))) | apply Sup.app | apply Sup.skip | apply Sup.skips)))))
      rintro ⟨X, last3, trying⟩ ⟨⟨hpX, hkX⟩, hl3b⟩
      dsimp only at hpX hkX hl3b ⊢
      obtain ⟨last4, hE4, hor4⟩ := hkX keep
      refine J.seq ?_
      refine J.seq ?_
      refine J.region ?_
      refine JL.step (y_move rfl) rfl rfl rfl ?_
      refine JL.loud rfl (l_buildSlice0 hT rfl rfl rfl rfl (fun b6 => ?_))
      refine JL.step (y_fieldAddr hT rfl rfl rfl rfl rfl rfl) rfl rfl rfl ?_
      refine JL.step (y_load1 hT rfl rfl rfl (by (exact Rd1.row (by (repeat (first | exact Pick.head | apply Pick.tail | apply Pick.app))) (by rfl)))) rfl rfl rfl ?_
      refine JL.loud rfl (l_appendIn hT rfl rfl rfl rfl rfl rfl rfl rfl (by (repeat (first | exact Pick.head | apply Pick.tail | apply Pick.app))) (by (repeat (first | assumption | apply InL.cons | apply InL.app))) (by rw [show i4.size = 1 from rfl]; simp) (by intro u hu; simp only [List.mem_map] at hu; obtain ⟨z, _, rfl⟩ := hu; rfl) (by rw [show i4.bytes = 1 from rfl]; omega) (by omega) rfl (fun kka kkc hkk => ?_))
      rw [Nat.zero_add keep.length, List.nil_append (keep.map Value.bool)]
      refine JL.loud rfl (l_callF e20 rfl rfl (Fc.fact (p := OwnAt kka keep.length kkc (keep.map Value.bool)) (fun w s => Sat.own_at (s.pick (by (repeat (first | exact Pick.head | apply Pick.tail | apply Pick.app))))) fun ok => Fc.on (Split.cons (by (repeat (first | exact Pick.head | apply Pick.tail | apply Pick.app))) Split.nil) (crash_spec E d X _ _ keep _ (ok.inl (by (repeat (first | exact Pick.head | apply Pick.tail | apply Pick.app)))) (by omega))) ?_)
      rintro _ _ ⟨rfl, rfl⟩
      refine JL.step (y_neq rfl rfl) rfl rfl rfl ?_
      refine JL.nil ?_
      refine JE.then_normal ?_
      refine J.cond_f rfl (by (first | rfl | assumption | (simp; done) | (simp; omega))) ?_
      refine J.skip ?_
      refine JE.then_normal ?_
      refine J.seq ?_
      obtain ⟨S4, D4, L4, a4, hL4, hN4, ht4, hl4, hna4, _, hop4⟩ := (eopen_cases E (a := none) hE4 (fun j hj => by cases hj)).resolve_right (fun h => h.1 rfl)
      obtain rfl := hna4 rfl
      rcases hor4 with rfl | ⟨rfl, rfl⟩
      case' inl =>
        have hb6 : decide (¬ (last4.toNat : Int) = last4.toNat) = false := decide_eq_false (fun h => h rfl)
        have hb4 : last4.toNat ≤ 60 * (i + 1) := by omega
      case' inr =>
        have hnn : (last3 + 1#64).toNat = last3.toNat + 1 := by
          rw [BitVec.toNat_add]
          show (last3.toNat + 1) % 18446744073709551616 = _
          omega
        have hb6 : decide (¬ ((last3 + 1#64).toNat : Int) = last3.toNat) = true := decide_eq_true (by omega)
        have hb4 : (last3 + 1#64).toNat ≤ 60 * (i + 1) := by omega
      all_goals
        refine J.region ?_
        refine JL.step (y_move rfl) rfl rfl rfl ?_
        refine JL.loud rfl (l_callF e13 rfl rfl (Fc.on (Split.cons (by (repeat (first | exact Pick.head | apply Pick.tail | apply Pick.app))) Split.nil) (hop4 d _)) ?_)
        rintro _ _ ⟨x4, lg4, st4, rfl, rfl⟩
        refine JL.step (y_move rfl) rfl rfl rfl (JL.step (y_extract rfl rfl) rfl rfl rfl (JL.step (y_extract rfl rfl) rfl rfl rfl (JL.step (y_assign rfl) rfl rfl rfl (JL.step (y_assign rfl) rfl rfl rfl ?_))))
        refine JL.nil ?_
      all_goals refine JE.then_normal ?_
      all_goals
        refine J.seq ?_
        refine J.seq ?_
        refine J.region ?_
        refine JL.step (y_move rfl) rfl rfl rfl (JL.step (y_neq rfl rfl) rfl rfl rfl (JL.step (y_move rfl) rfl rfl rfl ?_))
        all_goals (first | (refine JL.gsplit_dec rfl rfl rfl (fun h => ?_) (fun h => ?_) <;> try (first | (exfalso; omega) | exact absurd rfl h)) | (refine JL.gsplit rfl rfl rfl (fun h => ?_) (fun h => ?_) <;> try (first | cases h | (exfalso; simp at h; done))) | skip)
        all_goals (first | refine JL.gskip rfl rfl rfl rfl rfl rfl ?_ | refine JL.gskipU rfl rfl rfl rfl rfl ?_ | refine JL.gstep rfl rfl rfl (y_move rfl) rfl rfl ?_)
        all_goals (first | refine JL.gskip rfl rfl rfl rfl rfl rfl ?_ | refine JL.gskipU rfl rfl rfl rfl rfl ?_ | (refine JL.gloud rfl rfl rfl (l_callF e14 rfl rfl (Fc.on (Split.cons (by (repeat (first | exact Pick.head | apply Pick.tail | apply Pick.app))) Split.nil) (eround_spec E x4 lg4 false _ 0 0 _ _)) ?_); rintro _ _ ⟨rfl, rfl⟩))
        all_goals (first | refine JL.gskip rfl rfl rfl rfl rfl rfl ?_ | refine JL.gskipU rfl rfl rfl rfl rfl ?_ | refine JL.gstep rfl rfl rfl (y_move rfl) rfl rfl ?_)
        all_goals (first | refine JL.gskip rfl rfl rfl rfl rfl rfl ?_ | refine JL.gskipU rfl rfl rfl rfl rfl ?_ | (refine JL.gstep rfl rfl rfl (y_neqB rfl rfl hb6) rfl rfl ?_))
        all_goals (first | refine JL.gskip rfl rfl rfl rfl rfl rfl ?_ | refine JL.gskipU rfl rfl rfl rfl rfl ?_ | refine JL.gstep rfl rfl rfl (y_move rfl) rfl rfl ?_)
        all_goals (first | (refine JL.gsplit_dec rfl rfl rfl (fun h => ?_) (fun h => ?_) <;> try (first | (exfalso; omega) | exact absurd rfl h)) | (refine JL.gsplit rfl rfl rfl (fun h => ?_) (fun h => ?_) <;> try (first | cases h | (exfalso; simp at h; done))) | skip)
        all_goals (first | refine JL.gskip rfl rfl rfl rfl rfl rfl ?_ | refine JL.gskipU rfl rfl rfl rfl rfl ?_ | refine JL.gstep rfl rfl rfl (y_move rfl) rfl rfl ?_)
        all_goals (first | refine JL.gskip rfl rfl rfl rfl rfl rfl ?_ | refine JL.gskipU rfl rfl rfl rfl rfl ?_ | refine JL.gstep rfl rfl rfl (y_move rfl) rfl rfl ?_)
        all_goals (first | (refine JL.gsplit_dec rfl rfl rfl (fun h => ?_) (fun h => ?_) <;> try (first | (exfalso; omega) | exact absurd rfl h)) | (refine JL.gsplit rfl rfl rfl (fun h => ?_) (fun h => ?_) <;> try (first | cases h | (exfalso; simp at h; done))) | skip)
        all_goals (first | refine JL.gskip rfl rfl rfl rfl rfl rfl ?_ | refine JL.gskipU rfl rfl rfl rfl rfl ?_ | refine JL.gstep rfl rfl rfl (y_move rfl) rfl rfl ?_)
        all_goals (first | refine JL.gskip rfl rfl rfl rfl rfl rfl ?_ | refine JL.gskipU rfl rfl rfl rfl rfl ?_ | (refine JL.gloud rfl rfl rfl (l_callF e14 rfl rfl (Fc.on (Split.cons (by (repeat (first | exact Pick.head | apply Pick.tail | apply Pick.app))) Split.nil) (eround_spec E x4 lg4 false _ 0 0 _ _)) ?_); rintro _ _ ⟨rfl, rfl⟩))
        all_goals (first | refine JL.gskip rfl rfl rfl rfl rfl rfl ?_ | refine JL.gskipU rfl rfl rfl rfl rfl ?_ | refine JL.gstep rfl rfl rfl (y_move rfl) rfl rfl ?_)
        all_goals (first | refine JL.gskip rfl rfl rfl rfl rfl rfl ?_ | refine JL.gskipU rfl rfl rfl rfl rfl ?_ | refine JL.gstep rfl rfl rfl ((by first | exact y_addQ rfl rfl | exact y_add rfl rfl (by (first | exact wrap_i64 (by omega) (by omega) | rfl)))) rfl rfl ?_)
        all_goals (first | refine JL.gskip rfl rfl rfl rfl rfl rfl ?_ | refine JL.gskipU rfl rfl rfl rfl rfl ?_ | (refine JL.gstep rfl rfl rfl (y_eqlB (b := true) rfl rfl (decide_eq_true rfl)) rfl rfl ?_))
        all_goals (first | refine JL.gskip rfl rfl rfl rfl rfl rfl ?_ | refine JL.gskipU rfl rfl rfl rfl rfl ?_ | refine JL.gstep rfl rfl rfl (y_pick rfl rfl rfl) rfl rfl ?_)
        all_goals (first | refine JL.gskip rfl rfl rfl rfl rfl rfl ?_ | refine JL.gskipU rfl rfl rfl rfl rfl ?_ | refine JL.gstep rfl rfl rfl (y_not rfl) rfl rfl ?_)
        all_goals (first | refine JL.gskip rfl rfl rfl rfl rfl rfl ?_ | refine JL.gskipU rfl rfl rfl rfl rfl ?_ | refine JL.gstep rfl rfl rfl (y_pick rfl rfl rfl) rfl rfl ?_)
        all_goals (refine JL.step (y_pick rfl rfl rfl) rfl rfl rfl ?_)
        all_goals refine JL.nil ?_
        all_goals refine JE.then_normal ?_
        all_goals
          refine J.cond_f rfl (by (first | rfl | assumption | (simp; done) | (simp; omega))) ?_
          refine J.skip ?_
        all_goals refine JE.then_normal ?_
        all_goals
          refine J.region ?_
          refine JL.step (y_move rfl) rfl rfl rfl ?_
          refine JL.loud rfl (l_callF e14 rfl rfl (Fc.on (Split.cons (by (repeat (first | exact Pick.head | apply Pick.tail | apply Pick.app))) Split.nil) (eround_spec E x4 lg4 false _ 0 0 _ _)) ?_)
          rintro _ _ ⟨rfl, rfl⟩
          refine JL.step (y_assign rfl) rfl rfl rfl ?_
          refine JL.nil ?_
      all_goals
        refine JE.block_normal ?_
        refine JE.then_normal ?_
        refine J.region ?_
        refine JL.step (y_add rfl rfl (by (first | exact wrap_i64 (by omega) (by omega) | rfl))) rfl rfl rfl ?_
        refine JL.step (y_move rfl) rfl rfl rfl ?_
        refine JL.nil ?_
        first
          | exact JE.round (s := (i, D, last)) (i + 1, D4, last4) ⟨by dsimp only; omega, ESt.of hL4 hN4 (by omega) hl4, hb4⟩ ⟨rfl, rfl, rfl, rfl, rfl, rfl, trivial⟩ (fun w s => s.sup (by (repeat (first | exact Sup.refl | apply Sup.cons (by (repeat (first | exact Pick.head | apply Pick.tail | apply Pick.app))) | apply Sup.app | apply Sup.skip | apply Sup.skips)))) (by dsimp only; omega)
          | exact JE.round (s := (i, D, last)) (i + 1, D4, last3 + 1#64) ⟨by dsimp only; omega, ESt.of hL4 hN4 (by omega) hl4, hb4⟩ ⟨rfl, rfl, rfl, rfl, rfl, rfl, trivial⟩ (fun w s => s.sup (by (repeat (first | exact Sup.refl | apply Sup.cons (by (repeat (first | exact Pick.head | apply Pick.tail | apply Pick.app))) | apply Sup.app | apply Sup.skip | apply Sup.skips)))) (by dsimp only; omega)
end
section
open Go.ChangeShapes Go.WideShapes Go.ChangeAt Go.RowKit
set_option maxRecDepth 100000 in
theorem tr_bools22 {H : Type} {enc : TypeId × Value → H} {w : World} {ok : DataW H → Prop} {L : Nat → Prop} {v : Value} (her : Her ok L) (h : Tr enc prog ok w 53 [v]) : ∃ (p : Option Addr) (cap : Nat) (bs : List Bool), v = .slice p bs.length cap ∧ L bs.length ∧ InW w p bs.length cap (bs.map Value.bool) := by
  obtain ⟨p, cap, xs, h1, hL, _, h2⟩ := Tr.slice (encA := fun b => [Value.bool b]) (okA := fun _ => True) (k := 1) her u53 (by kernel_rfl) (by decide) (fun _ _ => rfl) (fun cs hc => by
    obtain ⟨b, hb⟩ := Tr.bool u4 hc
    exact ⟨b, hb, trivial⟩) h
  have e := flatMap_one Value.bool xs
  exact ⟨p, cap, xs, h1, hL, e ▸ h2⟩
set_option maxRecDepth 100000 in
theorem tr_cut22 {H : Type} {enc : TypeId × Value → H} {w : World} {ok : DataW H → Prop} {L : Nat → Prop} {cs : List Value} (her : Her ok L) (h : Tr enc prog ok w 55 cs) :
    ∃ c : Cut22, cs = cutE c ∧ L c.keep.length ∧ InW w c.kp c.keep.length c.kc (c.keep.map Value.bool) := by
  obtain ⟨hl, hf⟩ := Tr.struct her u55 h
  rw [show prog.cellsOf 55 = 2 by kernel_rfl] at hl
  match cs, hl with
  | [a, d], _ =>
    have h0 := hf 0 _ rfl
    have h3 := hf 1 _ rfl
    dsimp only at h0 h3
    rw [show prog.cellsOf 3 = 1 by kernel_rfl] at h0
    rw [show prog.cellsOf 53 = 1 by kernel_rfl] at h3
    obtain ⟨k, e0, _⟩ := Tr.int u3 h0
    obtain ⟨p, cap, bs, e3, l3, r3⟩ := tr_bools22 her h3
    cases e0; cases e3
    exact ⟨⟨k, p, cap, bs⟩, rfl, l3, r3⟩
set_option maxRecDepth 100000 in
theorem tr_cuts22 {H : Type} {enc : TypeId × Value → H} {w : World} {ok : DataW H → Prop} {L : Nat → Prop} {v : Value} (her : Her ok L) (h : Tr enc prog ok w 52 [v]) :
    ∃ (p : Option Addr) (cap : Nat) (xs : List Cut22), v = .slice p xs.length cap ∧ (∀ c ∈ xs, L c.keep.length ∧ InW w c.kp c.keep.length c.kc (c.keep.map Value.bool)) ∧ InW w p xs.length cap (xs.flatMap cutE) := by
  obtain ⟨p, cap, xs, h1, hL, hk, h2⟩ := Tr.slice (encA := cutE) (okA := fun c : Cut22 => L c.keep.length ∧ InW w c.kp c.keep.length c.kc (c.keep.map Value.bool)) (k := 2) her u52 (by kernel_rfl) (by decide) (fun _ _ => rfl) (fun cs hc => let ⟨c, e, ho⟩ := tr_cut22 her hc; ⟨c, e, ho⟩) h
  exact ⟨p, cap, xs, h1, hk, h2⟩
theorem entry_rises_reads : ∀ t ∈ Try.f5.params.toList, Try.prog.readableRec t = true ∧ t < Try.prog.types.size := by
  rw [Try.params5]
  intro t ht
  simp only [List.mem_cons, List.not_mem_nil, or_false] at ht
  rcases ht with rfl | rfl
  all_goals exact ⟨by kernel_rfl, of_decide_eq_true (by kernel_rfl)⟩
set_option maxRecDepth 100000 in
theorem entry_rises_contract (H : Type) (enc : TypeId × Value → H) (W : World) (base : Nat) (args : Array Value) (ds gs : List (DataW H)) (before : List MemPlace)
    (hval : ∀ (j : Nat) t v, Try.f5.params[j]? = some t → args[j]? = some v → Value.okWide Try.prog W .any base t v)
    (hW : DataW.Whole enc Try.prog Try.f5.params.toList Rows.entryRisesSpec.vars false W args.toList ds gs before) (hk : Rows.uptoSmall H (ds ++ gs) = true) :
    Calls Try.prog 5 args W fun e W' => ∃ v, e = .returned v ∧ Rows.entryRisesSpec.post enc Try.prog Try.f5 false true false false W args v W' := by
  have hW' := hW
  obtain ⟨p, q, hA0, hV, rfl, hfz, hnd⟩ := hW
  have hA : DataW.TrodAll enc Try.prog W 0 (fun _ => true) true Try.f5.params.toList args.toList ds p := hA0
  rw [Try.params5] at hA hval
  obtain ⟨v0, vs0, d0, ds0, p0, q0, hargs, rfl, rfl, h0, r0⟩ := trodAll_cons hA
  obtain ⟨v1, vs1, d1, ds1, p1, q1, rfl, rfl, rfl, h1, r1⟩ := trodAll_cons r0
  obtain ⟨rfl, rfl, rfl⟩ := trodAll_nil r1
  obtain rfl : args = #[v0, v1] := by cases args; simp_all
  obtain ⟨rfl, rfl⟩ := trodVars_none hV
  clear hA0
  have t0 : Tr enc prog upOk W 52 [v0] := Tr.ofSlice u52 (hval 0 52 v0 rfl rfl) h0 (upOk_of hk d0 (by simp))
  have t1 : Tr enc prog upOk W 22 [v1] := Tr.ofSlice u22 (hval 1 22 v1 rfl rfl) h1 (upOk_of hk d1 (by simp))
  obtain ⟨q, qc, xs, rfl, hx, hin⟩ := tr_cuts22 upHer t0
  obtain ⟨p, c, ys, rfl, _, hb, hin1⟩ := tr_bytesR upHer t1
  refine ((entry_rises W q qc xs p c ys [old W] (hin.inl []) (fun c h => ⟨(hx c h).2.inl [], by have := (hx c h).1; omega⟩) hb (hin1.inl [])) W (Sat.start W)).mono fun e W' hq => ?_
  obtain ⟨v, l', rfl, hs, rfl, rfl⟩ := hq
  exact ⟨_, rfl, law_post laidOut_ rfl rfl u4 entry_rises_reads hW' rfl rfl rfl hs.below⟩
set_option maxRecDepth 100000 in
theorem entry_rises_lifted (os : Os) (started : os.Started) (H : Type) (enc : TypeId × Value → H) (F : Stop.Interp) :
    ReturnsInHanded {} Try.checked os 5 .any ((Rows.OpenSpec.upto Rows.entryRisesSpec).pre6 enc Try.prog Try.f5 Rows.entryRisesUptoRow.domain false) (((Rows.OpenSpec.upto Rows.entryRisesSpec).at F).post enc Try.prog Try.f5 false true false false) := by
  refine returnsInHanded_of_cond (C := Try.checked) (s := Rows.OpenSpec.upto Rows.entryRisesSpec) (k := Rows.uptoSmall) rfl own_ started (by kernel_rfl) Try.func5
    (OpenSpec.witness (enc := enc) (C := Try.checked) (s := Rows.OpenSpec.upto Rows.entryRisesSpec) (k := Rows.uptoSmall) rfl false ⟨#[], #[.slice none 0 0, .slice none 0 0], []⟩ 8 (by kernel_rfl) (by kernel_rfl) (by kernel_rfl)
      (x := ([.nil, .nil], [], [])) (by kernel_rfl) rfl (by kernel_rfl)) ?_
  intro W base args ds gs before hval hW _ hk _
  exact entry_rises_contract H enc W base args ds gs before hval hW hk
theorem entry_rises_holds : Rows.EntryRisesUptoSaid :=
  OpenClaim.holds_of_cond 5 Try.f5 rfl rfl rfl rfl rfl rfl rfl ⟨rfl, rfl, rfl, rfl, rfl⟩ rfl rfl rfl rfl rfl (by kernel_rfl) Try.func5 (by kernel_rfl)
    (of_decide_eq_true (by kernel_rfl)) (by unfold Func.isWrapper; first | (rw [if_pos (by decide +kernel)]; kernel_rfl) | (rw [if_neg (by decide +kernel)]; exact ⟨rfl, rfl⟩))
    (fun os started H enc _ F => entry_rises_lifted os started H enc F)
end
end Go.Proofs.Ytimekohdlofmaaa
