import Derived.Test.YtmgagkpokmaefaaJoin1
import Derived.Test.YtmgagkpokmaefaaJoin6
namespace Go.Proofs.Ytmgagkpokmaefaa
open Go Go.SL
/-! Chapter 12's own helpers. -/
def lg0 : Lg := ⟨[], [], 0, false⟩
theorem formatted_find {D : Dk} (h : Up D) (h2 : 2 ≤ D.safe.length) {j : Int} (h0 : 0 ≤ j) (hj : j < D.safe.length) : D.formatted.find j = if 1 = j then zeroB else if 0 = j then sbBlock sb0 else D.find j := by
  have h1 := h.push (i := 0) (b := sbBlock sb0) (by omega) (sbBlock_length sb0_hash)
  have h3 := h1.push (i := 1) (b := zeroB) (by simp only [Dk.push, Dk.does]; omega) rfl
  unfold Dk.formatted
  rw [dk_find_settle h3.ok j ⟨h0, hj⟩, dk_find_push, dk_find_push]
theorem lh_format {n : Nat} (h1 : 64 ≤ n) (h2 : n ≤ 512) : LH sb0 (Dk.new n).formatted lg0 ∧ (Dk.new n).formatted.safe.length = n := by
  have hu0 : Up (Dk.new n) := new_up (by omega) h2
  have hl0 : (Dk.new n).safe.length = n := by simp [Dk.new]
  obtain ⟨_, hl1, _⟩ := formatted_up hu0 (by omega)
  have hl : (Dk.new n).formatted.safe.length = n := hl1.trans hl0
  refine ⟨⟨holds_format hu0 (by omega), (Byt.new n).formatted, rfl, rfl, Nat.zero_le _, ⟨Bytes.nil, by decide⟩, fun tx h => (by simp [lg0] at h), fun k tx h => (by simp [lg0] at h), fun i hi h => ?_⟩, hl⟩
  have hbs := base_slots (Dk.new n).formatted (by omega)
  rw [slotsL_find hi, formatted_find hu0 (by omega) (by omega) (by omega), if_neg (by unfold Dk.base; omega), if_neg (by unfold Dk.base; omega)] at h
  obtain ⟨q, hq⟩ : ∃ q, (Dk.new n).formatted.base + i = q := ⟨_, rfl⟩
  rw [hq] at h
  have hz : (Dk.new n).find (q : Int) = zeroB := by
    simp only [Dk.find, Dk.new, List.reverse_nil, List.find?_nil, Int.toNat_natCast]
    rw [List.getD_eq_getElem?_getD, List.getElem?_replicate, if_pos (by omega)]
    rfl
  rw [hz] at h
  exact absurd h (by decide)
attribute [local irreducible] J JL JE JM LS Y Fc RV Code.wp wpList Code.wpIn wpListIn
attribute [local irreducible] Yc
variable (E : World)
theorem lopen_lh (st d : Nat) (S : Sb) (D : Dk) (L : Lg) (l : List HProp) (h : LH S D L) :
    Fc prog E 13 [.pointer (some ⟨st, 0, none⟩)].toArray (row st 90 (scells S d) :: disk d D :: l)
      (fun v l' => ∃ lg, v = .tuple #[.pointer (some ⟨lg, 0, none⟩), .int .i64 0] ∧ l' = logm lg st L :: row st 90 (scells S d) :: disk d D :: l) := by
  have q := lopen_spec E st d S D L.snap l h.holds.fits h.holds.up.dead h.byt (by rw [h.holds.none]; decide) h.holds.snap h.holds.hash
  rwa [h.openL] at q
def storeN (n : Int) : Nat := 64 + (BitVec.ofInt 64 n).toNat % 24
theorem storeN_le (n : Int) : 64 ≤ storeN n ∧ storeN n ≤ 87 := by unfold storeN; omega
theorem store_spec (n : Int) (l : List HProp) :
    Fc prog E 12 [.int .i64 n].toArray l (fun v l' => ∃ d st, v = .tuple #[.pointer (some ⟨d, 0, none⟩), .pointer (some ⟨st, 0, none⟩)] ∧ l' = row st 90 (scells sb0 d) :: disk d (Dk.new (storeN n)).formatted :: l) := by
  have hN := storeN_le n
  obtain ⟨N, hNe⟩ : ∃ N, storeN n = N := ⟨_, rfl⟩
  rw [hNe] at hN ⊢
  have hfmt : ∀ d l, Fc prog E 42 [.pointer (some ⟨d, 0, none⟩)].toArray (disk d (Dk.new N) :: l) (fun v l' => ∃ st, v = .tuple #[.pointer (some ⟨st, 0, none⟩), .int .i64 0] ∧ l' = row st 90 (scells sb0 d) :: disk d (Dk.new N).formatted :: l) := fun d l => format_good E d (Dk.new N) l (by simp [Dk.new]; omega) rfl rfl (by simp [Dk.new])
  refine Fc.of_body (c := ?codeC) Try.func12 ?hb Try.ntmps12 ?hl ?_
  case hb => exact rfl
  case hl => exact rfl
  refine J.seq ?_
  refine J.region ?_
  refine JL.step (y_assign rfl) rfl rfl rfl (JL.step (y_assign rfl) rfl rfl rfl ?_)
  refine JL.nil ?_
  refine JE.then_normal ?_
  refine J.seq ?_
  refine J.region ?_
  refine JL.step (y_move rfl) rfl rfl rfl ?_
  refine JL.step (y_convToQ hT rfl rfl rfl rfl) rfl rfl rfl ?_
  refine JL.step (y_rem (m := (((BitVec.ofInt 64 n).toNat % 24 : Nat) : Int)) rfl rfl (by decide) (by rw [Int.tmod_eq_emod_of_nonneg (by omega)]; omega)) rfl rfl rfl ?_
  refine JL.step (y_conv (m := (((BitVec.ofInt 64 n).toNat % 24 : Nat) : Int)) hT rfl rfl rfl rfl (wrap_i64 (by omega) (by omega))) rfl rfl rfl ?_
  refine JL.step (y_add (m := (N : Int)) rfl rfl (by rw [← hNe, storeN, show (64 : Int) + (((BitVec.ofInt 64 n).toNat % 24 : Nat) : Int) = ((64 + (BitVec.ofInt 64 n).toNat % 24 : Nat) : Int) by omega]; exact wrap_i64 (by omega) (by omega))) rfl rfl rfl ?_
  refine JL.loud rfl (l_callF e41 rfl rfl (new_good E N _ (by omega) (by omega)) ?_)
  rintro _ _ ⟨d, rfl, rfl⟩
  refine JL.step (y_move rfl) rfl rfl rfl (JL.step (y_extract rfl rfl) rfl rfl rfl (JL.step (y_extract rfl rfl) rfl rfl rfl (JL.step (y_assign rfl) rfl rfl rfl (JL.step (y_assign rfl) rfl rfl rfl ?_))))
  refine JL.nil ?_
  refine JE.then_normal ?_
  refine J.seq ?_
  refine J.seq ?_
  refine J.region ?_
  refine JL.step (y_move rfl) rfl rfl rfl (JL.step (y_neq rfl rfl) rfl rfl rfl ?_)
  refine JL.nil ?_
  refine JE.then_normal ?_
  refine J.cond_f rfl (by (first | rfl | assumption | (simp; done) | (simp; omega))) ?_
  refine J.skip ?_
  refine JE.then_normal ?_
  refine J.seq ?_
  refine J.region ?_
  refine JL.step (y_move rfl) rfl rfl rfl ?_
  refine JL.loud rfl (l_callF e42 rfl rfl (Fc.on (Split.cons (by (repeat (first | exact Pick.head | apply Pick.tail | apply Pick.app))) Split.nil) (hfmt d _)) ?_)
  rintro _ _ ⟨st, rfl, rfl⟩
  refine JL.step (y_move rfl) rfl rfl rfl (JL.step (y_extract rfl rfl) rfl rfl rfl (JL.step (y_extract rfl rfl) rfl rfl rfl (JL.step (y_assign rfl) rfl rfl rfl (JL.step (y_assign rfl) rfl rfl rfl ?_))))
  refine JL.nil ?_
  refine JE.then_normal ?_
  refine J.seq ?_
  refine J.seq ?_
  refine J.region ?_
  refine JL.step (y_move rfl) rfl rfl rfl (JL.step (y_neq rfl rfl) rfl rfl rfl ?_)
  refine JL.nil ?_
  refine JE.then_normal ?_
  refine J.cond_f rfl (by (first | rfl | assumption | (simp; done) | (simp; omega))) ?_
  refine J.skip ?_
  refine JE.then_normal ?_
  refine J.seq ?_
  refine J.region ?_
  refine JL.step (y_move rfl) rfl rfl rfl (JL.step (y_move rfl) rfl rfl rfl (JL.step (y_assign rfl) rfl rfl rfl (JL.step (y_assign rfl) rfl rfl rfl ?_)))
  refine JL.nil ?_
  refine JE.then_normal ?_
  refine J.ret ?_
  refine JE.ret2 (.inl rfl) rfl rfl (by (first | exact RV.tmp rfl | exact RV.cell1 hT rfl rfl rfl (by (exact Rd1.row (by (repeat (first | exact Pick.head | apply Pick.tail | apply Pick.app))) (by rfl))) | exact RV.cellN hT rfl rfl rfl (by (first | exact RdN.rowAll (by (repeat (first | exact Pick.head | apply Pick.tail | apply Pick.app))) | exact RdN.own (by (repeat (first | exact Pick.head | apply Pick.tail | apply Pick.app))))) (by (first | rfl | assumption | (simp; done) | omega)))) (by (first | exact RV.tmp rfl | exact RV.cell1 hT rfl rfl rfl (by (exact Rd1.row (by (repeat (first | exact Pick.head | apply Pick.tail | apply Pick.app))) (by rfl))) | exact RV.cellN hT rfl rfl rfl (by (first | exact RdN.rowAll (by (repeat (first | exact Pick.head | apply Pick.tail | apply Pick.app))) | exact RdN.own (by (repeat (first | exact Pick.head | apply Pick.tail | apply Pick.app))))) (by (first | rfl | assumption | (simp; done) | omega)))) ?_
  exact ⟨d, st, rfl, rfl⟩
theorem wakes12_spec (l : List HProp) : Fc prog E 11 [].toArray l (fun v l' => v = .bool true ∧ l' = l) := by
  refine Fc.eqs ?_
  obtain ⟨hL0, hl0⟩ := lh_format (n := storeN 0) (storeN_le 0).1 (by have := (storeN_le 0).2; omega)
  obtain ⟨D0, hD0⟩ : ∃ D0, (Dk.new (storeN 0)).formatted = D0 := ⟨_, rfl⟩
  rw [hD0] at hL0 hl0
  have hsl : 32 ≤ D0.slots := by
    have : storeN 0 = 64 := rfl
    unfold Dk.slots Dk.half
    omega
  have hx : Small [120] := ⟨fun x h => by rw [List.mem_singleton] at h; omega, by decide⟩
  obtain ⟨D1, eA, hL1, hl1⟩ := hL0.append hx (by show 0 + needN 1 ≤ _; have : needN 1 = 2 := rfl; omega)
  have capp : ∀ lg st d q c l, InL l q 1 c (ints .u8 [120]) → Fc prog E 19 [.pointer (some ⟨lg, 0, none⟩), .slice q 1 c].toArray (logm lg st lg0 :: row st 90 (scells sb0 d) :: disk d D0 :: l) (fun v l' => v = .int .i64 0 ∧ l' = logm lg st ⟨[], [[120]], 2, false⟩ :: row st 90 (scells sb0 d) :: disk d D1 :: l) := fun lg st d q c l hi => by
    have z := lappend_spec E lg st d lg0 sb0 D0 l sb0_hash hL0.holds.fits.two [120] q c 1 rfl hx (by rw [hL0.holds.none]; decide) (by decide) hi
    rw [eA] at z
    exact z
  refine Fc.of_body (c := ?codeC) Try.func11 ?hb Try.ntmps11 ?hl ?_
  case hb => exact rfl
  case hl => exact rfl
  refine J.seq ?_
  refine J.region ?_
  refine JL.step (y_assign rfl) rfl rfl rfl ?_
  refine JL.nil ?_
  refine JE.then_normal ?_
  refine J.seq ?_
  refine J.region ?_
  refine JL.loud rfl (l_callF e12 rfl rfl (store_spec E 0 _) ?_)
  rintro _ _ ⟨d, st, rfl, rfl⟩
  refine JL.step (y_move rfl) rfl rfl rfl (JL.step (y_extract rfl rfl) rfl rfl rfl (JL.step (y_extract rfl rfl) rfl rfl rfl (JL.step (y_assign rfl) rfl rfl rfl (JL.step (y_assign rfl) rfl rfl rfl ?_))))
  refine JL.nil ?_
  refine JE.then_normal ?_
  refine J.seq ?_
  refine J.seq ?_
  refine J.region ?_
  rw [hD0]
  refine JL.step (y_move rfl) rfl rfl rfl (JL.step (y_ptr_eq_nil hT rfl rfl rfl rfl) rfl rfl rfl ?_)
  refine JL.nil ?_
  refine JE.then_normal ?_
  refine J.cond_f rfl (by (first | rfl | assumption | (simp; done) | (simp; omega))) ?_
  refine J.skip ?_
  refine JE.then_normal ?_
  refine J.seq ?_
  refine J.region ?_
  refine JL.step (y_move rfl) rfl rfl rfl ?_
  refine JL.loud rfl (l_callF e13 rfl rfl (Fc.on (Split.cons (by (repeat (first | exact Pick.head | apply Pick.tail | apply Pick.app))) (Split.cons (by (repeat (first | exact Pick.head | apply Pick.tail | apply Pick.app))) Split.nil)) (lopen_lh E st d sb0 D0 lg0 _ hL0)) ?_)
  rintro _ _ ⟨lg, rfl, rfl⟩
  refine JL.step (y_move rfl) rfl rfl rfl (JL.step (y_extract rfl rfl) rfl rfl rfl (JL.step (y_extract rfl rfl) rfl rfl rfl (JL.step (y_assign rfl) rfl rfl rfl (JL.step (y_assign rfl) rfl rfl rfl ?_))))
  refine JL.nil ?_
  refine JE.then_normal ?_
  refine J.seq ?_
  refine J.seq ?_
  refine J.region ?_
  refine JL.step (y_move rfl) rfl rfl rfl (JL.step (y_neq rfl rfl) rfl rfl rfl (JL.step (y_move rfl) rfl rfl rfl ?_))
  all_goals (first | (refine JL.gsplit_dec rfl rfl rfl (fun h => ?_) (fun h => ?_) <;> try (first | (exfalso; omega) | exact absurd rfl h)) | (refine JL.gsplit rfl rfl rfl (fun h => ?_) (fun h => ?_) <;> try (first | cases h | (exfalso; simp at h; done))) | skip)
  all_goals (first | refine JL.gskip rfl rfl rfl rfl rfl rfl ?_ | refine JL.gskipU rfl rfl rfl rfl rfl ?_ | refine JL.gstep rfl rfl rfl (y_move rfl) rfl rfl ?_)
  all_goals (first | refine JL.gskip rfl rfl rfl rfl rfl rfl ?_ | refine JL.gskipU rfl rfl rfl rfl rfl ?_ | refine JL.gstep rfl rfl rfl (y_ptr_eq_nil hT rfl rfl rfl rfl) rfl rfl ?_)
  all_goals (refine JL.step (y_pick rfl rfl rfl) rfl rfl rfl ?_)
  all_goals (refine JL.step (y_move rfl) rfl rfl rfl ?_)
  all_goals (first | (refine JL.gsplit_dec rfl rfl rfl (fun h => ?_) (fun h => ?_) <;> try (first | (exfalso; omega) | exact absurd rfl h)) | (refine JL.gsplit rfl rfl rfl (fun h => ?_) (fun h => ?_) <;> try (first | cases h | (exfalso; simp at h; done))) | skip)
  all_goals (first | refine JL.gskip rfl rfl rfl rfl rfl rfl ?_ | refine JL.gskipU rfl rfl rfl rfl rfl ?_ | refine JL.gstep rfl rfl rfl (y_move rfl) rfl rfl ?_)
  all_goals (first | refine JL.gskip rfl rfl rfl rfl rfl rfl ?_ | refine JL.gskipU rfl rfl rfl rfl rfl ?_ | (refine JL.gloud rfl rfl rfl (l_buildSliceP hT rfl rfl rfl rfl rfl rfl rfl (by (first | exact fill_one rfl (by first | assumption | rfl | (simp; done)) | rfl | simp)) rfl (fun b3 => ?_))))
  all_goals (first | refine JL.gskip rfl rfl rfl rfl rfl rfl ?_ | refine JL.gskipU rfl rfl rfl rfl rfl ?_ | (refine JL.gloud rfl rfl rfl (l_convBytes hT rfl rfl rfl rfl rfl (by (repeat (first | exact Pick.head | apply Pick.tail | apply Pick.app))) rfl ?_)))
  all_goals (first | refine JL.gskip rfl rfl rfl rfl rfl rfl ?_ | refine JL.gskipU rfl rfl rfl rfl rfl ?_ | (refine JL.gloud rfl rfl rfl (l_callF e19 rfl rfl (Fc.on (Split.cons (by (repeat (first | exact Pick.head | apply Pick.tail | apply Pick.app))) (Split.cons (by (repeat (first | exact Pick.head | apply Pick.tail | apply Pick.app))) (Split.cons (by (repeat (first | exact Pick.head | apply Pick.tail | apply Pick.app))) Split.nil))) (capp lg st d _ _ _ (InL.ofMrow (by (repeat (first | exact Pick.head | apply Pick.tail | apply Pick.app))) (by decide)))) ?_); rintro _ _ ⟨rfl, rfl⟩))
  all_goals (first | refine JL.gskip rfl rfl rfl rfl rfl rfl ?_ | refine JL.gskipU rfl rfl rfl rfl rfl ?_ | refine JL.gstep rfl rfl rfl (y_neq rfl rfl) rfl rfl ?_)
  all_goals (refine JL.step (y_pick rfl rfl rfl) rfl rfl rfl ?_)
  all_goals refine JL.nil ?_
  all_goals refine JE.then_normal ?_
  all_goals
    refine J.cond_f rfl (by (first | rfl | assumption | (simp; done) | (simp; omega))) ?_
    refine J.skip ?_
  all_goals refine JE.then_normal ?_
  all_goals
    refine J.seq ?_
    refine J.region ?_
    refine JL.step (y_move rfl) rfl rfl rfl ?_
    refine JL.loud rfl (l_callF e13 rfl rfl (Fc.on (Split.cons (by (repeat (first | exact Pick.head | apply Pick.tail | apply Pick.app))) (Split.cons (by (repeat (first | exact Pick.head | apply Pick.tail | apply Pick.app))) Split.nil)) (lopen_lh E st d sb0 D1 ⟨[], [[120]], 2, false⟩ _ hL1)) ?_)
    rintro _ _ ⟨lg2, rfl, rfl⟩
    refine JL.step (y_move rfl) rfl rfl rfl (JL.step (y_extract rfl rfl) rfl rfl rfl (JL.step (y_extract rfl rfl) rfl rfl rfl (JL.step (y_assign rfl) rfl rfl rfl (JL.step (y_assign rfl) rfl rfl rfl ?_))))
    refine JL.nil ?_
    refine JE.then_normal ?_
    refine J.seq ?_
    refine J.region ?_
    refine JL.step (y_move rfl) rfl rfl rfl (JL.step (y_eql rfl rfl) rfl rfl rfl (JL.step (y_move rfl) rfl rfl rfl ?_))
    all_goals (first | (refine JL.gsplit_dec rfl rfl rfl (fun h => ?_) (fun h => ?_) <;> try (first | (exfalso; omega) | exact absurd rfl h)) | (refine JL.gsplit rfl rfl rfl (fun h => ?_) (fun h => ?_) <;> try (first | cases h | (exfalso; simp at h; done))) | skip)
    all_goals (first | refine JL.gskip rfl rfl rfl rfl rfl rfl ?_ | refine JL.gskipU rfl rfl rfl rfl rfl ?_ | refine JL.gstep rfl rfl rfl (y_move rfl) rfl rfl ?_)
    all_goals (first | refine JL.gskip rfl rfl rfl rfl rfl rfl ?_ | refine JL.gskipU rfl rfl rfl rfl rfl ?_ | refine JL.gstep rfl rfl rfl (y_ptr_ne_nil hT rfl rfl rfl rfl) rfl rfl ?_)
    all_goals (refine JL.step (y_pick rfl rfl rfl) rfl rfl rfl ?_)
    all_goals (refine JL.step (y_move rfl) rfl rfl rfl ?_)
    all_goals (first | (refine JL.gsplit_dec rfl rfl rfl (fun h => ?_) (fun h => ?_) <;> try (first | (exfalso; omega) | exact absurd rfl h)) | (refine JL.gsplit rfl rfl rfl (fun h => ?_) (fun h => ?_) <;> try (first | cases h | (exfalso; simp at h; done))) | skip)
    all_goals (first | refine JL.gskip rfl rfl rfl rfl rfl rfl ?_ | refine JL.gskipU rfl rfl rfl rfl rfl ?_ | refine JL.gstep rfl rfl rfl (y_move rfl) rfl rfl ?_)
    all_goals (first | refine JL.gskip rfl rfl rfl rfl rfl rfl ?_ | refine JL.gskipU rfl rfl rfl rfl rfl ?_ | (refine JL.gloud rfl rfl rfl (l_callF e24 rfl rfl (Fc.on (Split.cons (by (repeat (first | exact Pick.head | apply Pick.tail | apply Pick.app))) Split.nil) (ltxs_spec E lg2 st ⟨[], [[120]], 2, false⟩ _)) ?_); rintro _ _ ⟨ta, tc, tvals, rfl, htv, rfl⟩))
    all_goals (first | refine JL.gskip rfl rfl rfl rfl rfl rfl ?_ | refine JL.gskipU rfl rfl rfl rfl rfl ?_ | refine JL.gstep rfl rfl rfl (y_len_slice hT rfl rfl rfl) rfl rfl ?_)
    all_goals (first | refine JL.gskip rfl rfl rfl rfl rfl rfl ?_ | refine JL.gskipU rfl rfl rfl rfl rfl ?_ | refine JL.gstep rfl rfl rfl (y_eql rfl rfl) rfl rfl ?_)
    all_goals (refine JL.step (y_pick rfl rfl rfl) rfl rfl rfl ?_)
    all_goals (refine JL.step (y_move rfl) rfl rfl rfl ?_)
    all_goals (first | (refine JL.gsplit_dec rfl rfl rfl (fun h => ?_) (fun h => ?_) <;> try (first | (exfalso; omega) | exact absurd rfl h)) | (refine JL.gsplit rfl rfl rfl (fun h => ?_) (fun h => ?_) <;> try (first | cases h | (exfalso; simp at h; done))) | skip)
    all_goals (first | refine JL.gskip rfl rfl rfl rfl rfl rfl ?_ | refine JL.gskipU rfl rfl rfl rfl rfl ?_ | refine JL.gstep rfl rfl rfl (y_move rfl) rfl rfl ?_)
    all_goals (first | refine JL.gskip rfl rfl rfl rfl rfl rfl ?_ | refine JL.gskipU rfl rfl rfl rfl rfl ?_ | (refine JL.gloud rfl rfl rfl (l_callF e23 rfl rfl (Fc.on (Split.cons (by (repeat (first | exact Pick.head | apply Pick.tail | apply Pick.app))) Split.nil) (lused_spec E lg2 st ⟨[], [[120]], 2, false⟩ _)) ?_); rintro _ _ ⟨rfl, rfl⟩))
    all_goals (first | refine JL.gskip rfl rfl rfl rfl rfl rfl ?_ | refine JL.gskipU rfl rfl rfl rfl rfl ?_ | refine JL.gstep rfl rfl rfl (y_eql rfl rfl) rfl rfl ?_)
    all_goals (refine JL.step (y_pick rfl rfl rfl) rfl rfl rfl ?_)
    all_goals (refine JL.step (y_move rfl) rfl rfl rfl ?_)
    all_goals (first | (refine JL.gsplit_dec rfl rfl rfl (fun h => ?_) (fun h => ?_) <;> try (first | (exfalso; omega) | exact absurd rfl h)) | (refine JL.gsplit rfl rfl rfl (fun h => ?_) (fun h => ?_) <;> try (first | cases h | (exfalso; simp at h; done))) | skip)
    all_goals (first | refine JL.gskip rfl rfl rfl rfl rfl rfl ?_ | refine JL.gskipU rfl rfl rfl rfl rfl ?_ | (refine JL.gloud rfl rfl rfl (l_callF e14 rfl rfl (need_spec E 64 (by decide) _) ?_); rintro _ _ ⟨rfl, rfl⟩))
    all_goals (first | refine JL.gskip rfl rfl rfl rfl rfl rfl ?_ | refine JL.gskipU rfl rfl rfl rfl rfl ?_ | refine JL.gstep rfl rfl rfl (y_eql rfl rfl) rfl rfl ?_)
    all_goals (refine JL.step (y_pick rfl rfl rfl) rfl rfl rfl ?_)
    all_goals (refine JL.step (y_assign rfl) rfl rfl rfl ?_)
    all_goals refine JL.nil ?_
    all_goals refine JE.then_normal ?_
    all_goals
      refine J.ret ?_
      refine JE.ret1 (.inl rfl) rfl rfl (by (first | exact RV.tmp rfl | exact RV.cell1 hT rfl rfl rfl (by (exact Rd1.row (by (repeat (first | exact Pick.head | apply Pick.tail | apply Pick.app))) (by rfl))) | exact RV.cellN hT rfl rfl rfl (by (first | exact RdN.rowAll (by (repeat (first | exact Pick.head | apply Pick.tail | apply Pick.app))) | exact RdN.own (by (repeat (first | exact Pick.head | apply Pick.tail | apply Pick.app))))) (by (first | rfl | assumption | (simp; done) | omega)))) ?_
      exact ⟨rfl, fun w q => q.sup (by (repeat (first | exact Sup.refl | apply Sup.cons (by (repeat (first | exact Pick.head | apply Pick.tail | apply Pick.app))) | apply Sup.app | apply Sup.skip | apply Sup.skips)))⟩
end Go.Proofs.Ytmgagkpokmaefaa
namespace Go.Proofs.Ytmgagkpokmaefaa
open Go Go.SL
/-! A checkpoint of a log that a disk holds. -/
theorem taken_slots {S : Sb} {D D' : Dk} {bs : List Int} (hT : Taken S D bs D') (h2 : 2 ≤ D.safe.length) (hp : S.place = 0 ∨ S.place = 1) (hl : bs.length ≤ 64 * D.half) {i : Nat} (hi : i < D.slots) : (slotsL D').getD i [] = (slotsL D).getD i [] := by
  have hh := half_eq hT.len
  have hb : D'.base = D.base := by unfold Dk.base; rw [hh]
  have hs : D'.slots = D.slots := by unfold Dk.slots; rw [hh, hT.len]
  have hbs := base_slots D h2
  have h5 : (nextS S bs).place * (D.half : Int) ≤ D.half := by
    have e1 : (nextS S bs).place = 1 - S.place := rfl
    rw [e1]
    rcases hp with e | e <;> rw [e]
    · rw [show (1 - 0 : Int) = 1 by rfl, Int.one_mul]; omega
    · rw [show (1 - 1 : Int) = 0 by rfl, Int.zero_mul]; omega
  rw [slotsL_find (by rw [hs]; exact hi), slotsL_find hi, hb, hT.find _ (by omega) (by omega), if_neg (by unfold Dk.base; omega), if_neg (by unfold Dk.base; omega)]
theorem LH.check {S : Sb} {D : Dk} {L : Lg} (h : LH S D L) {state : List Int} (hs : Small state) (hl : state.length ≤ 64 * D.half) (ht : S.turn.toNat + 1 < 18446744073709551616) :
    ∃ D', ckL L S D state = (⟨state, [], 0, false⟩, nextS S state, D', 0) ∧ LH (nextS S state) D' ⟨state, [], 0, false⟩ ∧ D'.safe.length = D.safe.length := by
  have h2 := h.holds.fits.two
  have hp := h.holds.fits.place
  obtain ⟨D', e, hT⟩ := takeS_up h.holds.up h2 hp hl
  have hB := h.byt.takeS S hs.bytes
  rw [e] at hB
  have hsl : D'.slots = D.slots := by unfold Dk.slots Dk.half; rw [hT.len]
  have htn := next_turn (bs := state) ht
  have hw := h.whole
  refine ⟨D', ?_, ⟨holds_taken h.holds hl ht hT, hB, rfl, rfl, Nat.zero_le _, hs, fun tx h => (by simp at h), fun k tx h => (by simp at h), fun i hi h1 => ?_⟩, hT.len⟩
  · unfold ckL
    rw [if_neg (by rw [hw]; simp), e, if_pos rfl]
    cases L
    simp only at hw
    rw [hw]
  · rw [hsl] at hi
    rw [taken_slots hT h2 hp hl hi] at h1 ⊢
    have := (h.old i hi h1).1
    rw [htn]
    exact ⟨by omega, fun _ => by omega⟩
theorem ckL_long {S : Sb} {D : Dk} {L : Lg} (h : LH S D L) {state : List Int} (hl : 64 * D.half < state.length) : ckL L S D state = (L, S, D, 3) := by
  have e : takeS S D state = (S, D, 3) := by unfold takeS; rw [if_pos hl]
  unfold ckL
  rw [if_neg (by rw [h.whole]; simp), e, if_neg (show ¬ (3 : Int) = 0 by decide), if_pos rfl]
theorem appL_full {S : Sb} {D : Dk} {L : Lg} (h : LH S D L) {tx : List Int} (hl : ¬ L.used + needN tx.length ≤ D.slots) : appL L S D tx = (L, D, 6) := by
  rw [appL, if_neg (by rw [h.whole]; simp), if_neg (fun e => hl ((roomB_iff h _).1 e))]
/-- Empty transactions. -/
def lgE (i : Nat) : Lg := ⟨[], List.replicate i [], i, false⟩
theorem lgE_next (i : Nat) : ({ lgE i with txs := (lgE i).txs ++ [[]], used := (lgE i).used + needN 0 } : Lg) = lgE (i + 1) := by
  unfold lgE
  rw [List.replicate_succ']
  rfl
theorem small_nil : Small [] := ⟨Bytes.nil, by decide⟩
theorem LH.empty {D : Dk} {i : Nat} (h : LH sb0 D (lgE i)) (hi : i < D.slots) : ∃ D', appL (lgE i) sb0 D [] = (lgE (i + 1), D', 0) ∧ LH sb0 D' (lgE (i + 1)) ∧ D'.safe.length = D.safe.length := by
  obtain ⟨D', e, hL, hl⟩ := h.append small_nil (by show i + needN 0 ≤ _; have : needN 0 = 1 := rfl; omega)
  have e2 : ({ lgE i with txs := (lgE i).txs ++ [[]], used := (lgE i).used + needN ([] : List Int).length } : Lg) = lgE (i + 1) := lgE_next i
  rw [e2] at e hL
  exact ⟨D', e, hL, hl⟩
end Go.Proofs.Ytmgagkpokmaefaa
namespace Go.Proofs.Ytmgagkpokmaefaa
open Go Go.SL
attribute [local irreducible] J JL JE JM LS Y Fc RV Code.wp wpList Code.wpIn wpListIn
attribute [local irreducible] Yc
variable (E : World)
end Go.Proofs.Ytmgagkpokmaefaa
namespace Go.Proofs.Ytmgagkpokmaefaa
open Go Go.SL
attribute [local irreducible] J JL JE JM LS Y Fc RV Code.wp wpList Code.wpIn wpListIn
attribute [local irreducible] Yc
variable (E : World)
theorem append_lh (lg st d : Nat) {S : Sb} {D D' : Dk} {L L' : Lg} {e : Int} (l : List HProp) (h : LH S D L) (tx : List Int) (p : Option Addr) (cap n : Nat) (hn : tx.length = n) (hsm : Small tx) (hfew : L.txs.length < 512) (he : appL L S D tx = (L', D', e)) (hin : InL l p n cap (ints .u8 tx)) :
    Fc prog E 19 [.pointer (some ⟨lg, 0, none⟩), .slice p n cap].toArray (logm lg st L :: row st 90 (scells S d) :: disk d D :: l) (fun v l' => v = .int .i64 e ∧ l' = logm lg st L' :: row st 90 (scells S d) :: disk d D' :: l) := by
  have q := lappend_spec E lg st d L S D l h.holds.fits.hash h.holds.fits.two tx p cap n hn hsm (by rw [h.holds.none]; decide) hfew hin
  rwa [he] at q
theorem check_lh (lg st d : Nat) {S S' : Sb} {D D' : Dk} {L L' : Lg} {e : Int} (l : List HProp) (h : LH S D L) (state : List Int) (p : Option Addr) (cap n : Nat) (hn : state.length = n) (hsm : Small state) (he : ckL L S D state = (L', S', D', e)) (hin : InL l p n cap (ints .u8 state)) :
    Fc prog E 18 [.pointer (some ⟨lg, 0, none⟩), .slice p n cap].toArray (logm lg st L :: row st 90 (scells S d) :: disk d D :: l) (fun v l' => v = .int .i64 e ∧ l' = logm lg st L' :: row st 90 (scells S' d) :: disk d D' :: l) := by
  subst hn
  have q := lcheck_spec E lg st d L S D l h.holds.fits.hash h.holds.fits.two h.holds.fits.place (by rw [h.holds.none]; decide) state p cap hsm hin
  rwa [he] at q
/-- An append, whether there is room or not. -/
theorem LH.put {S : Sb} {D : Dk} {L : Lg} (h : LH S D L) {tx : List Int} (hs : Small tx) : ∃ L' D' e, appL L S D tx = (L', D', e) ∧ LH S D' L' ∧ D'.safe.length = D.safe.length ∧
    ((L.used + needN tx.length ≤ D.slots ∧ e = 0 ∧ L' = { L with txs := L.txs ++ [tx], used := L.used + needN tx.length }) ∨ (¬ L.used + needN tx.length ≤ D.slots ∧ e = 6 ∧ L' = L ∧ D' = D)) := by
  by_cases hroom : L.used + needN tx.length ≤ D.slots
  · obtain ⟨D', e, hL, hl⟩ := h.append hs hroom
    exact ⟨_, D', 0, e, hL, hl, .inl ⟨hroom, rfl, rfl⟩⟩
  · exact ⟨L, D, 6, appL_full h hroom, h, rfl, .inr ⟨hroom, rfl, rfl, rfl⟩⟩
end Go.Proofs.Ytmgagkpokmaefaa
namespace Go.Proofs.Ytmgagkpokmaefaa
open Go Go.SL
/-! What a log tells. -/
/-- Slices of bytes that something keeps. -/
structure TxB (K : HProp) (vals : List Value) (txs : List (List Int)) : Prop where
  len : vals.length = txs.length
  get : ∀ (i : Nat) b, txs[i]? = some b → ∃ q c, vals[i]? = some (.slice q b.length c) ∧ InL [K] q b.length c (ints .u8 b)
theorem owns_pick {vals : List Value} {txs : List (List Int)} {r : List HProp} (hl : vals.length = txs.length) : ∀ (i : Nat) b, txs[i]? = some b → ∃ v, vals[i]? = some v ∧ ∃ r', Pick (owns vals txs ++ r) (own 5 1 v b.length (ints .u8 b)) r' := by
  induction txs generalizing vals with
  | nil => exact fun i b h => by simp at h
  | cons t ts ih =>
    intro i b h
    cases vals with
    | nil => simp at hl
    | cons v vs =>
      cases i with
      | zero =>
        simp at h
        subst h
        exact ⟨v, rfl, _, Pick.head⟩
      | succ i =>
        obtain ⟨u, h1, r', h2⟩ := ih (by simpa using hl) i b (by simpa using h)
        exact ⟨u, by simpa using h1, _, Pick.tail h2⟩
theorem owns_inl {E w : World} {vals : List Value} {txs : List (List Int)} {r : List HProp} (hl : vals.length = txs.length) (s : Sat E (stars (owns vals txs ++ r)) w) : ∀ (i : Nat) b, txs[i]? = some b → ∃ q c, vals[i]? = some (.slice q b.length c) ∧ InL (owns vals txs ++ r) q b.length c (ints .u8 b) := fun i b h => by
  obtain ⟨v, h1, r', hp⟩ := owns_pick (r := r) hl i b h
  obtain ⟨q, c, rfl, _⟩ := Sat.row_of_own s hp
  have og : OwnAt q b.length c (ints .u8 b) := Sat.own_at (s.pick hp)
  exact ⟨q, c, h1, og.inl hp⟩
theorem owns_drop {vals : List Value} {txs : List (List Int)} {i : Nat} {v : Value} {b : List Int} (hv : vals[i]? = some v) (hb : txs[i]? = some b) : owns (vals.drop i) (txs.drop i) = own 5 1 v b.length (ints .u8 b) :: owns (vals.drop (i + 1)) (txs.drop (i + 1)) := by
  obtain ⟨h1, rfl⟩ := List.getElem?_eq_some_iff.1 hv
  obtain ⟨h2, rfl⟩ := List.getElem?_eq_some_iff.1 hb
  rw [List.drop_eq_getElem_cons h1, List.drop_eq_getElem_cons h2]
  rfl
theorem usedN_le {txs : List (List Int)} (h : ∀ b ∈ txs, Small b) : usedN txs ≤ 20000 * txs.length := by
  induction txs with
  | nil => exact Nat.le_refl _
  | cons t ts ih =>
    have h1 := (h t (by simp)).len
    have h2 := ih fun b hb => h b (by simp [hb])
    simp only [usedN, List.map_cons, List.sum_cons, List.length_cons] at h2 ⊢
    have : needN t.length ≤ 20000 := by unfold needN; omega
    omega
attribute [local irreducible] J JL JE JM LS Y Fc RV Code.wp wpList Code.wpIn wpListIn
attribute [local irreducible] Yc
variable (E : World)
theorem rused_spec (q : Option Addr) (n c : Nat) (vals : List Value) (txs : List (List Int)) (l : List HProp) (hn : txs.length = n) (hb : n ≤ 100000) (hs : ∀ b ∈ txs, Small b) (hin : InL l q n c vals) (hg : ∀ (i : Nat) b, txs[i]? = some b → ∃ q c, vals[i]? = some (.slice q b.length c)) :
    Fc prog E 34 [.slice q n c].toArray l (fun v l' => v = .int .i64 (usedN txs : Int) ∧ l' = l) := by
  refine Fc.eqs ?_
  have hle := usedN_le hs
  refine Fc.of_body (c := ?codeC) Try.func34 ?hb Try.ntmps34 ?hl ?_
  case hb => exact rfl
  case hl => exact rfl
  refine J.seq ?_
  refine J.region ?_
  refine JL.step (y_assign rfl) rfl rfl rfl ?_
  refine JL.nil ?_
  refine JE.then_normal ?_
  refine J.seq ?_
  refine J.region ?_
  refine JL.step (y_assign rfl) rfl rfl rfl ?_
  refine JL.nil ?_
  refine JE.then_normal ?_
  refine J.seq ?_
  refine J.seq ?_
  refine J.region ?_
  refine JL.step (y_move rfl) rfl rfl rfl (JL.step (y_len_slice hT rfl rfl rfl) rfl rfl rfl (JL.step (y_move rfl) rfl rfl rfl ?_))
  refine JL.nil ?_
  refine JE.then_normal ?_
  refine J.block ?_
  refine J.loop (α := Nat) (fun j => j ≤ n) (fun j => [(3, .int .i64 (usedN (txs.take j))), (6, .slice q n c), (7, .int .i64 n), (8, .int .i64 j)]) (fun _ => l) (fun j => n - j) 0 (Nat.zero_le _) ⟨rfl, rfl, rfl, rfl, trivial⟩ (fun w h => h) ?_
  intro j hj
  refine J.seq ?_
  refine J.region ?_
  refine JL.step (y_lss rfl rfl) rfl rfl rfl ?_
  refine JL.nil ?_
  refine JE.then_normal ?_
  refine J.seq ?_
  first | apply J.cond_dec rfl | apply J.cond rfl
  case' ht =>
    intro h
    try (first | (exfalso; omega) | (cases h; done) | (exfalso; simp at h; done) | subst h)
    all_goals
      refine J.skip ?_
  case' hf =>
    intro h
    try (first | (exfalso; omega) | (cases h; done) | (exfalso; simp at h; done) | subst h)
    all_goals
      refine J.exit ?_
      refine JE.then_exit ?_
      refine JE.then_exit ?_
      refine JE.block_exit ?_
      refine JE.then_normal ?_
      refine J.seq ?_
      refine J.region ?_
      refine JL.step (y_move rfl) rfl rfl rfl (JL.step (y_assign rfl) rfl rfl rfl ?_)
      refine JL.nil ?_
      refine JE.then_normal ?_
      refine J.ret ?_
      refine JE.ret1 (.inl rfl) rfl rfl (by (first | exact RV.tmp rfl | exact RV.cell1 hT rfl rfl rfl (by (exact Rd1.row (by (repeat (first | exact Pick.head | apply Pick.tail | apply Pick.app))) (by rfl))) | exact RV.cellN hT rfl rfl rfl (by (first | exact RdN.rowAll (by (repeat (first | exact Pick.head | apply Pick.tail | apply Pick.app))) | exact RdN.own (by (repeat (first | exact Pick.head | apply Pick.tail | apply Pick.app))))) (by (first | rfl | assumption | (simp; done) | omega)))) ?_
      obtain rfl : j = n := by omega
      refine ⟨?_, fun w q => q⟩
      rw [← hn, List.take_length]
  all_goals refine JE.then_normal ?_
  all_goals
    refine J.seq ?_
    refine J.block ?_
    refine J.seq ?_
    refine J.region ?_
    have hlt : j < n := by omega
    obtain ⟨go, oo, rfl, hro⟩ := hin.addr (by omega)
    have hro0 : RdN l go oo vals := hro []
    obtain ⟨b, hb⟩ : ∃ b, txs[j]? = some b := ⟨_, List.getElem?_eq_getElem (by omega)⟩
    obtain ⟨bq, bc, hv⟩ := hg j b hb
    have hsb := (hs b (List.mem_of_getElem? hb)).len
    have e1 : txs.take (j + 1) = txs.take j ++ [b] := by rw [List.take_add_one, hb]; rfl
    have e2 : usedN txs = usedN (txs.take (j + 1)) + usedN (txs.drop (j + 1)) := by
      rw [usedN, usedN, usedN, ← List.sum_append, ← List.map_append, List.take_append_drop]
    have e3 := usedN_snoc (txs.take j) b
    rw [← e1] at e3
    refine JL.step (y_indexAddr_slice hT rfl rfl rfl rfl rfl (by (first | omega | exact Nat.le_of_ble_eq_true rfl | decide | (simp; omega))) (by (first | omega | exact Nat.le_of_ble_eq_true rfl | decide | (simp; omega)))) rfl rfl rfl ?_
    refine JL.step (y_load1 hT rfl rfl rfl (Rd1.elem (by (repeat (first | assumption | apply RdN.cons | apply RdN.app))) hv)) rfl rfl rfl ?_
    refine JL.step (y_assign rfl) rfl rfl rfl ?_
    refine JL.nil ?_
    refine JE.then_normal ?_
    refine J.region ?_
    refine JL.step (y_move rfl) rfl rfl rfl (JL.step (y_move rfl) rfl rfl rfl (JL.step (y_len_slice hT rfl rfl rfl) rfl rfl rfl ?_))
    refine JL.loud rfl (l_callF e15 rfl rfl (rneed_spec E b.length (by omega) _) ?_)
    rintro _ _ ⟨rfl, rfl⟩
    refine JL.step (y_add rfl rfl (by (first | exact wrap_i64 (by omega) (by omega) | rfl))) rfl rfl rfl ?_
    refine JL.step (y_assign rfl) rfl rfl rfl ?_
    refine JL.nil ?_
    refine JE.block_normal ?_
    refine JE.then_normal ?_
    refine J.region ?_
    refine JL.step (y_add rfl rfl (by (first | exact wrap_i64 (by omega) (by omega) | rfl))) rfl rfl rfl ?_
    refine JL.step (y_move rfl) rfl rfl rfl ?_
    refine JL.nil ?_
  all_goals
    refine JE.round (s := j) (j + 1) (by omega) ⟨by rw [e3, Int.natCast_add]; rfl, rfl, rfl, rfl, trivial⟩ (fun w q => q) (by omega)
theorem lists_spec (p q : Option Addr) (n m c1 c2 : Nat) (va vb : List Value) (ta tb : List (List Int)) (l : List HProp) (hn : ta.length = n) (hm : tb.length = m) (hb : n ≤ 1000000000) (hA : InL l p n c1 va) (hB : InL l q m c2 vb) (sa : ∀ b ∈ ta, Bytes b) (sb : ∀ b ∈ tb, Bytes b)
    (gA : ∀ (i : Nat) b, ta[i]? = some b → ∃ q c, va[i]? = some (.slice q b.length c) ∧ InL l q b.length c (ints .u8 b)) (gB : ∀ (i : Nat) b, tb[i]? = some b → ∃ q c, vb[i]? = some (.slice q b.length c) ∧ InL l q b.length c (ints .u8 b)) :
    Fc prog E 58 [.slice p n c1, .slice q m c2].toArray l (fun v l' => v = .bool (decide (ta = tb)) ∧ l' = l) := by
  refine Fc.of_body (c := ?codeC) Try.func58 ?hb Try.ntmps58 ?hl ?_
  case hb => exact rfl
  case hl => exact rfl
  refine J.seq ?_
  refine J.region ?_
  refine JL.step (y_assign rfl) rfl rfl rfl ?_
  refine JL.nil ?_
  refine JE.then_normal ?_
  refine J.seq ?_
  refine J.seq ?_
  refine J.region ?_
  refine JL.step (y_move rfl) rfl rfl rfl (JL.step (y_len_slice hT rfl rfl rfl) rfl rfl rfl (JL.step (y_move rfl) rfl rfl rfl (JL.step (y_len_slice hT rfl rfl rfl) rfl rfl rfl (JL.step (y_neq rfl rfl) rfl rfl rfl ?_))))
  refine JL.nil ?_
  refine JE.then_normal ?_
  first | apply J.cond_dec rfl | apply J.cond rfl
  case' ht =>
    intro h
    try (first | (exfalso; omega) | (cases h; done) | (exfalso; simp at h; done) | subst h)
    all_goals
      refine J.seq ?_
      refine J.region ?_
      refine JL.step (y_assign rfl) rfl rfl rfl ?_
      refine JL.nil ?_
      refine JE.then_normal ?_
      refine J.ret ?_
      refine JE.then_ret ?_
      refine JE.ret1 (.inl rfl) rfl rfl (by (first | exact RV.tmp rfl | exact RV.cell1 hT rfl rfl rfl (by (exact Rd1.row (by (repeat (first | exact Pick.head | apply Pick.tail | apply Pick.app))) (by rfl))) | exact RV.cellN hT rfl rfl rfl (by (first | exact RdN.rowAll (by (repeat (first | exact Pick.head | apply Pick.tail | apply Pick.app))) | exact RdN.own (by (repeat (first | exact Pick.head | apply Pick.tail | apply Pick.app))))) (by (first | rfl | assumption | (simp; done) | omega)))) ?_
      refine ⟨?_, rfl⟩
      first
        | exact congrArg Value.bool (decide_eq_false (fun e => hab (by rw [e, hb'] at ha; exact (Option.some.inj ha).symm))).symm
        | exact congrArg Value.bool (decide_eq_true (by
            rw [show j = n by omega] at hjt
            rwa [List.take_of_length_le (by omega), List.take_of_length_le (by omega)] at hjt)).symm
        | exact congrArg Value.bool (decide_eq_false (fun e => by rw [e] at hn; omega)).symm
  case' hf =>
    intro h
    try (first | (exfalso; omega) | (cases h; done) | (exfalso; simp at h; done) | subst h)
    all_goals
      refine J.skip ?_
  all_goals refine JE.then_normal ?_
  all_goals
    refine J.seq ?_
    refine J.seq ?_
    refine J.region ?_
    refine JL.step (y_move rfl) rfl rfl rfl (JL.step (y_len_slice hT rfl rfl rfl) rfl rfl rfl (JL.step (y_move rfl) rfl rfl rfl ?_))
    refine JL.nil ?_
    refine JE.then_normal ?_
    refine J.block ?_
    refine J.loop (α := Nat) (fun j => j ≤ n ∧ ta.take j = tb.take j) (fun j => [(0, .slice p n c1), (1, .slice q m c2), (12, .int .i64 n), (13, .int .i64 j)]) (fun _ => l) (fun j => n - j) 0 ⟨Nat.zero_le _, rfl⟩ ⟨rfl, rfl, rfl, rfl, trivial⟩ (fun w h => h) ?_
    intro j hj
    obtain ⟨hj, hjt⟩ := hj
    have hnm : n = m := by omega
    refine J.seq ?_
    refine J.region ?_
    refine JL.step (y_lss rfl rfl) rfl rfl rfl ?_
    refine JL.nil ?_
    refine JE.then_normal ?_
    refine J.seq ?_
    first | apply J.cond_dec rfl | apply J.cond rfl
    case' ht =>
      intro h
      try (first | (exfalso; omega) | (cases h; done) | (exfalso; simp at h; done) | subst h)
      all_goals
        refine J.skip ?_
    case' hf =>
      intro h
      try (first | (exfalso; omega) | (cases h; done) | (exfalso; simp at h; done) | subst h)
      all_goals
        refine J.exit ?_
        refine JE.then_exit ?_
        refine JE.then_exit ?_
        refine JE.block_exit ?_
        refine JE.then_normal ?_
        refine J.seq ?_
        refine J.region ?_
        refine JL.step (y_assign rfl) rfl rfl rfl ?_
        refine JL.nil ?_
        refine JE.then_normal ?_
        refine J.ret ?_
        refine JE.ret1 (.inl rfl) rfl rfl (by (first | exact RV.tmp rfl | exact RV.cell1 hT rfl rfl rfl (by (exact Rd1.row (by (repeat (first | exact Pick.head | apply Pick.tail | apply Pick.app))) (by rfl))) | exact RV.cellN hT rfl rfl rfl (by (first | exact RdN.rowAll (by (repeat (first | exact Pick.head | apply Pick.tail | apply Pick.app))) | exact RdN.own (by (repeat (first | exact Pick.head | apply Pick.tail | apply Pick.app))))) (by (first | rfl | assumption | (simp; done) | omega)))) ?_
        refine ⟨?_, rfl⟩
        first
          | exact congrArg Value.bool (decide_eq_false (fun e => hab (by rw [e, hb'] at ha; exact (Option.some.inj ha).symm))).symm
          | exact congrArg Value.bool (decide_eq_true (by
              rw [show j = n by omega] at hjt
              rwa [List.take_of_length_le (by omega), List.take_of_length_le (by omega)] at hjt)).symm
          | exact congrArg Value.bool (decide_eq_false (fun e => by rw [e] at hn; omega)).symm
    all_goals refine JE.then_normal ?_
    all_goals
      refine J.seq ?_
      refine J.block ?_
      refine J.seq ?_
      have hlt : j < n := by omega
      obtain ⟨g1, o1, rfl, hr1⟩ := hA.addr (by omega)
      obtain ⟨g2, o2, rfl, hr2⟩ := hB.addr (by omega)
      obtain ⟨a, ha⟩ : ∃ a, ta[j]? = some a := ⟨_, List.getElem?_eq_getElem (by omega)⟩
      obtain ⟨b, hb'⟩ : ∃ b, tb[j]? = some b := ⟨_, List.getElem?_eq_getElem (by omega)⟩
      obtain ⟨aq, ac, hva, ia⟩ := gA j a ha
      obtain ⟨bq, bc, hvb, ib⟩ := gB j b hb'
      refine J.region ?_
      refine JL.step (y_move rfl) rfl rfl rfl (JL.step (y_assign rfl) rfl rfl rfl ?_)
      refine JL.nil ?_
      refine JE.then_normal ?_
      refine J.seq ?_
      refine J.draw _ _ [(0, .q), (1, .q), (2, .q), (3, .q), (4, .q), (5, .q), (6, .q), (7, .q), (8, .q), (9, .q)] mixed (by kernel_rfl) (Split.nil) ?_
      refine JM.quiet rfl rfl rfl rfl (fun m => y_move rfl) ?_
      refine JM.quiet rfl rfl rfl rfl (fun m => y_move rfl) ?_
      refine JM.quiet rfl rfl rfl rfl (fun m => y_indexAddr_slice hT rfl rfl rfl rfl rfl (by (first | omega | exact Nat.le_of_ble_eq_true rfl | decide | (simp; omega))) (by (first | omega | exact Nat.le_of_ble_eq_true rfl | decide | (simp; omega)))) ?_
      refine JM.quiet rfl rfl rfl rfl (fun m => y_load1 hT rfl rfl rfl (Rd1.elem (hr1 m) hva)) ?_
      refine JM.quiet rfl rfl rfl rfl (fun m => y_move rfl) ?_
      refine JM.quiet rfl rfl rfl rfl (fun m => y_move rfl) ?_
      refine JM.quiet rfl rfl rfl rfl (fun m => y_indexAddr_slice hT rfl rfl rfl rfl rfl (by (first | omega | exact Nat.le_of_ble_eq_true rfl | decide | (simp; omega))) (by (first | omega | exact Nat.le_of_ble_eq_true rfl | decide | (simp; omega)))) ?_
      refine JM.quiet rfl rfl rfl rfl (fun m => y_load1 hT rfl rfl rfl (Rd1.elem (hr2 m) hvb)) ?_
      refine JM.quiet rfl rfl rfl rfl (fun m => y_callF e57 rfl (bequal_spec E aq bq ac bc a.length b.length a b _ rfl rfl (sa a (List.mem_of_getElem? ha)) (sb b (List.mem_of_getElem? hb')) (ia.app m) (ib.app m))) ?_
      refine JM.quiet rfl rfl rfl rfl (fun m => y_not rfl) ?_
      refine JM.nil ?_
      refine JE.then_normal ?_
      first | apply J.cond_dec rfl | apply J.cond rfl
      case' ht =>
        intro h
        try (first | (exfalso; omega) | (cases h; done) | (exfalso; simp at h; done) | subst h)
        all_goals
          have hab : ¬ a = b := by simpa using h
          refine J.seq ?_
          refine J.region ?_
          refine JL.step (y_assign rfl) rfl rfl rfl ?_
          refine JL.nil ?_
          refine JE.then_normal ?_
          refine J.ret ?_
          refine JE.block_ret ?_
          refine JE.then_ret ?_
          refine JE.then_ret ?_
          refine JE.block_ret ?_
          refine JE.then_ret ?_
          refine JE.ret1 (.inl rfl) rfl rfl (by (first | exact RV.tmp rfl | exact RV.cell1 hT rfl rfl rfl (by (exact Rd1.row (by (repeat (first | exact Pick.head | apply Pick.tail | apply Pick.app))) (by rfl))) | exact RV.cellN hT rfl rfl rfl (by (first | exact RdN.rowAll (by (repeat (first | exact Pick.head | apply Pick.tail | apply Pick.app))) | exact RdN.own (by (repeat (first | exact Pick.head | apply Pick.tail | apply Pick.app))))) (by (first | rfl | assumption | (simp; done) | omega)))) ?_
          refine ⟨?_, rfl⟩
          first
            | exact congrArg Value.bool (decide_eq_false (fun e => hab (by rw [e, hb'] at ha; exact (Option.some.inj ha).symm))).symm
            | exact congrArg Value.bool (decide_eq_true (by
                rw [show j = n by omega] at hjt
                rwa [List.take_of_length_le (by omega), List.take_of_length_le (by omega)] at hjt)).symm
            | exact congrArg Value.bool (decide_eq_false (fun e => by rw [e] at hn; omega)).symm
      case' hf =>
        intro h
        try (first | (exfalso; omega) | (cases h; done) | (exfalso; simp at h; done) | subst h)
        all_goals
          have hab : a = b := by simpa using h
          refine J.skip ?_
      all_goals refine JE.block_normal ?_
      all_goals refine JE.then_normal ?_
      all_goals
        refine J.region ?_
        refine JL.step (y_add rfl rfl (by (first | exact wrap_i64 (by omega) (by omega) | rfl))) rfl rfl rfl ?_
        refine JL.step (y_move rfl) rfl rfl rfl ?_
        refine JL.nil ?_
    all_goals
      exact JE.round (s := j) (j + 1) ⟨by omega, by rw [List.take_add_one, List.take_add_one, ha, hb', hjt, hab]⟩ ⟨rfl, rfl, rfl, rfl, trivial⟩ (fun w q => q) (by omega)
end Go.Proofs.Ytmgagkpokmaefaa
namespace Go.Proofs.Ytmgagkpokmaefaa
open Go Go.SL
attribute [local irreducible] J JL JE JM LS Y Fc RV Code.wp wpList Code.wpIn wpListIn
attribute [local irreducible] Yc
variable (E : World)
section
variable (lg st : Nat) (L : Lg) (l : List HProp)
/-- The transactions told, one by one; what tells them stays. -/
theorem lall2_spec (k b : Nat) (St Fin : Nat → List HProp)
    (hy : ∀ (fr : List HProp) (j : Nat) (tx : List Int) (a : Option Addr) (c : Nat), L.txs[j]? = some tx → Small tx → Yc prog E k [Value.int .i64 (j : Int), .slice a tx.length c].toArray (own 5 1 (.slice a tx.length c) tx.length (ints .u8 tx) :: (St j ++ fr))
      (fun v l' => (v = .bool true ∧ l' = St (j + 1) ++ fr) ∨ (v = .bool false ∧ l' = Fin j ++ fr))) :
    Fc prog E 52 [.func (.yield k) #[] #[], Value.pointer (some ⟨b, 0, none⟩)].toArray (row b 27 [.pointer (some ⟨lg, 0, none⟩)] :: logm lg st L :: (St 0 ++ l))
      (fun _ l' => l' = row b 27 [.pointer (some ⟨lg, 0, none⟩)] :: logm lg st L :: (St L.txs.length ++ l) ∨ ∃ j, j < L.txs.length ∧ l' = row b 27 [.pointer (some ⟨lg, 0, none⟩)] :: logm lg st L :: (Fin j ++ l)) := by
  refine Fc.on (Split.cons (Pick.tail Pick.head) Split.nil) ?_
  refine Fc.logm fun sv ta tc vals K hok => Fc.post ?_
  have hfew := hok.few
  refine Fc.of_body (c := ?codeC) Try.func52 ?hb Try.ntmps52 ?hl ?_
  case hb => exact rfl
  case hl => exact rfl
  refine J.seq ?_
  refine J.seq ?_
  refine J.region ?_
  refine JL.step (y_load1 hT rfl rfl rfl (by (exact Rd1.row (by (repeat (first | exact Pick.head | apply Pick.tail | apply Pick.app))) (by rfl)))) rfl rfl rfl ?_
  refine JL.step (y_ptr_eq_nil hT rfl rfl rfl rfl) rfl rfl rfl ?_
  refine JL.nil ?_
  refine JE.then_normal ?_
  refine J.cond_f rfl (by (first | rfl | assumption | (simp; done) | (simp; omega))) ?_
  refine J.skip ?_
  refine JE.then_normal ?_
  refine J.seq ?_
  refine J.region ?_
  refine JL.step (y_load1 hT rfl rfl rfl (by (exact Rd1.row (by (repeat (first | exact Pick.head | apply Pick.tail | apply Pick.app))) (by rfl)))) rfl rfl rfl ?_
  refine JL.step ((by first | exact y_nilCheck rfl | exact y_nilCheckF rfl | exact y_nilCheckY rfl)) rfl rfl rfl ?_
  refine JL.step (y_fieldAddr hT rfl rfl rfl rfl rfl rfl) rfl rfl rfl ?_
  refine JL.step (y_load1 hT rfl rfl rfl (by (exact Rd1.row (by (repeat (first | exact Pick.head | apply Pick.tail | apply Pick.app))) (by rfl)))) rfl rfl rfl ?_
  refine JL.step (y_len_slice hT rfl rfl rfl) rfl rfl rfl (JL.step (y_move rfl) rfl rfl rfl ?_)
  refine JL.nil ?_
  refine JE.then_normal ?_
  refine J.block ?_
  refine J.fact (p := OwnAt ta L.txs.length tc vals) (fun w s => Sat.own_at (s.pick (by (repeat (first | exact Pick.head | apply Pick.tail | apply Pick.app))))) fun oa => ?_
  refine J.loop (α := Nat) (fun j => j ≤ L.txs.length) (fun j => [(0, .func (.yield k) #[] #[]), (1, .pointer (some ⟨b, 0, none⟩)), (10, .slice ta L.txs.length tc), (11, .int .i64 L.txs.length), (12, .int .i64 j)]) (fun j => St j ++ (row lg 83 (lcells st sv (.slice ta L.txs.length tc) L) :: own 36 1 (.slice ta L.txs.length tc) L.txs.length vals :: K :: row b 27 [.pointer (some ⟨lg, 0, none⟩)] :: l)) (fun j => L.txs.length - j) 0 (Nat.zero_le _) ⟨rfl, rfl, rfl, rfl, rfl, trivial⟩ (fun w h => Sat.rot (p := [_, _, _, _]) (g := St 0) h) ?_
  intro j hj
  refine J.seq ?_
  refine J.region ?_
  refine JL.step (y_lss rfl rfl) rfl rfl rfl ?_
  refine JL.nil ?_
  refine JE.then_normal ?_
  refine J.seq ?_
  first | apply J.cond_dec rfl | apply J.cond rfl
  case' ht =>
    intro h
    try (first | (exfalso; omega) | (cases h; done) | (exfalso; simp at h; done) | subst h)
    all_goals
      refine J.skip ?_
  case' hf =>
    intro h
    try (first | (exfalso; omega) | (cases h; done) | (exfalso; simp at h; done) | subst h)
    all_goals
      refine J.exit ?_
      refine JE.then_exit ?_
      refine JE.then_exit ?_
      refine JE.block_exit ?_
      refine JE.ret0 (.inr rfl) rfl rfl  ?_
      first
        | (have zz := hlt
           refine ⟨_, fun w q => ?_, .inr ⟨j, hlt, rfl⟩⟩
           have s2 := Sat.rot (p := Fin j) (g := [row lg 83 _, own 36 1 _ L.txs.length vals, K, row b 27 _]) q
           exact (logm_shut (r := row b 27 _ :: (Fin j ++ l)) hok s2).sup (by (repeat (first | exact Sup.refl | apply Sup.cons (by (repeat (first | exact Pick.head | apply Pick.tail | apply Pick.app))) | apply Sup.app | apply Sup.skip | apply Sup.skips))))
        | (obtain rfl : j = L.txs.length := by omega
           refine ⟨_, fun w q => ?_, .inl rfl⟩
           have s2 := Sat.rot (p := St L.txs.length) (g := [row lg 83 _, own 36 1 _ L.txs.length vals, K, row b 27 _]) q
           exact (logm_shut (r := row b 27 _ :: (St L.txs.length ++ l)) hok s2).sup (by (repeat (first | exact Sup.refl | apply Sup.cons (by (repeat (first | exact Pick.head | apply Pick.tail | apply Pick.app))) | apply Sup.app | apply Sup.skip | apply Sup.skips))))
  all_goals refine JE.then_normal ?_
  all_goals
    refine J.seq ?_
    refine J.block ?_
    refine J.seq ?_
    refine J.region ?_
    have hlt : j < L.txs.length := by omega
    obtain ⟨tx, htx⟩ : ∃ tx, L.txs[j]? = some tx := ⟨_, List.getElem?_eq_getElem hlt⟩
    have hsm := hok.smalls tx (List.mem_of_getElem? htx)
    have htl := hsm.len
    obtain ⟨v, hv, p, cp, rfl, hp⟩ := hok.txs j tx htx
    obtain ⟨ga, rfl⟩ := oa.at_.resolve_right fun ⟨h0, _⟩ => by have := oa.le; omega
    refine JL.step (y_move rfl) rfl rfl rfl ?_
    refine JL.step (y_indexAddr_slice hT rfl rfl rfl rfl rfl (by (first | omega | exact Nat.le_of_ble_eq_true rfl | decide | (simp; omega))) (by (first | omega | exact Nat.le_of_ble_eq_true rfl | decide | (simp; omega)))) rfl rfl rfl ?_
    refine JL.step (y_load1 hT rfl rfl rfl (Rd1.elem (RdN.own (by (repeat (first | exact Pick.head | apply Pick.tail | apply Pick.app)))) hv)) rfl rfl rfl ?_
    refine JL.step (y_assign rfl) rfl rfl rfl (JL.step (y_assign rfl) rfl rfl rfl ?_)
    refine JL.nil ?_
    refine JE.then_normal ?_
    refine J.seq ?_
    refine J.region ?_
    refine JL.step (y_move rfl) rfl rfl rfl (JL.step (y_move rfl) rfl rfl rfl (JL.step (y_move rfl) rfl rfl rfl ?_))
    refine JL.loud rfl (l_callF e47 rfl rfl (cloneB_spec E p cp tx _ (hp.kept (by (repeat (first | exact Pick.head | apply Pick.tail | apply Pick.app)))) (by omega)) ?_)
    rintro _ _ ⟨a, c, rfl, rfl⟩
    refine JL.yield rfl rfl rfl (hy _ j tx a c htx hsm) ?_
    rintro _ _ (⟨rfl, rfl⟩ | ⟨rfl, rfl⟩)
    all_goals (refine JL.step (y_not rfl) rfl rfl rfl ?_)
    all_goals refine JL.nil ?_
    all_goals refine JE.then_normal ?_
    all_goals
      first | apply J.cond_dec rfl | apply J.cond rfl
      case' ht =>
        intro h
        try (first | (exfalso; omega) | (cases h; done) | (exfalso; simp at h; done) | subst h)
        all_goals
          refine J.ret ?_
          refine JE.block_ret ?_
          refine JE.then_ret ?_
          refine JE.then_ret ?_
          refine JE.block_ret ?_
          refine JE.ret0 (.inl rfl) rfl rfl  ?_
          first
            | (have zz := hlt
               refine ⟨_, fun w q => ?_, .inr ⟨j, hlt, rfl⟩⟩
               have s2 := Sat.rot (p := Fin j) (g := [row lg 83 _, own 36 1 _ L.txs.length vals, K, row b 27 _]) q
               exact (logm_shut (r := row b 27 _ :: (Fin j ++ l)) hok s2).sup (by (repeat (first | exact Sup.refl | apply Sup.cons (by (repeat (first | exact Pick.head | apply Pick.tail | apply Pick.app))) | apply Sup.app | apply Sup.skip | apply Sup.skips))))
            | (obtain rfl : j = L.txs.length := by omega
               refine ⟨_, fun w q => ?_, .inl rfl⟩
               have s2 := Sat.rot (p := St L.txs.length) (g := [row lg 83 _, own 36 1 _ L.txs.length vals, K, row b 27 _]) q
               exact (logm_shut (r := row b 27 _ :: (St L.txs.length ++ l)) hok s2).sup (by (repeat (first | exact Sup.refl | apply Sup.cons (by (repeat (first | exact Pick.head | apply Pick.tail | apply Pick.app))) | apply Sup.app | apply Sup.skip | apply Sup.skips))))
      case' hf =>
        intro h
        try (first | (exfalso; omega) | (cases h; done) | (exfalso; simp at h; done) | subst h)
        all_goals
          refine J.skip ?_
    all_goals refine JE.block_normal ?_
    all_goals refine JE.then_normal ?_
    all_goals
      refine J.region ?_
      refine JL.step (y_add rfl rfl (by (first | exact wrap_i64 (by omega) (by omega) | rfl))) rfl rfl rfl ?_
      refine JL.step (y_move rfl) rfl rfl rfl ?_
      refine JL.nil ?_
  all_goals
    exact JE.round (s := j) (j + 1) (by omega) ⟨rfl, rfl, rfl, rfl, rfl, trivial⟩ (fun w q => q) (by omega)
theorem tells_spec (p q : Option Addr) (ns cs n c : Nat) (vals : List Value) (K : HProp) (hns : L.snap.length = ns) (hn : L.txs.length = n) (hu : L.used = usedN L.txs) (hin : InL (K :: l) p ns cs (ints .u8 L.snap)) (hX : TxB K vals L.txs) :
    Fc prog E 35 [.pointer (some ⟨lg, 0, none⟩), .slice p ns cs, .slice q n c].toArray (logm lg st L :: own 36 1 (.slice q n c) n vals :: K :: l) (fun v l' => v = .bool true ∧ l' = logm lg st L :: own 36 1 (.slice q n c) n vals :: K :: l) := by
  refine Fc.fact (p := OwnAt q n c vals ∧ L.txs.length ≤ 512 ∧ Small L.snap ∧ ∀ b ∈ L.txs, Small b) (fun w s => ⟨Sat.own_at (s.pick (Pick.tail Pick.head)), (logm_open s).elim fun _ ⟨_, _, _, _, hok, _⟩ => ⟨hok.few, hok.small, hok.smalls⟩⟩) fun ⟨oq, hfew, hsn, hsm⟩ => Fc.eqs ?_
  rw [hn] at hfew
  have csn : ∀ l, Fc prog E 27 [.pointer (some ⟨lg, 0, none⟩)].toArray (logm lg st L :: l) (fun v l' => ∃ a c, v = .slice a ns c ∧ l' = own 5 1 (.slice a ns c) ns (ints .u8 L.snap) :: logm lg st L :: l ∧ OwnAt a ns c (ints .u8 L.snap)) := fun l => (lsnapshot_spec E lg st L l).know fun v l' w ⟨a, c, e1, e2⟩ s => by
    subst e1
    subst e2
    rw [hns] at s ⊢
    exact ⟨a, c, rfl, rfl, Sat.own_at s⟩
  have cus : ∀ l, Fc prog E 23 [.pointer (some ⟨lg, 0, none⟩)].toArray (logm lg st L :: l) (fun v l' => v = .int .i64 (usedN L.txs : Int) ∧ l' = logm lg st L :: l) := fun l => by rw [← hu]; exact lused_spec E lg st L l
  have ctx : ∀ l, Fc prog E 24 [.pointer (some ⟨lg, 0, none⟩)].toArray (logm lg st L :: l) (fun v l' => ∃ a c vals, v = .slice a n c ∧ vals.length = L.txs.length ∧ l' = own 36 1 (.slice a n c) n vals :: (owns vals L.txs ++ (logm lg st L :: l))) := fun l => (ltxs_spec E lg st L l).mono fun v l' ⟨a, c, vals, e1, e2, e3⟩ => ⟨a, c, vals, by rw [e1, hn], e2, by rw [e3, e1, hn]⟩
  have hbe : ∀ (p q : Option Addr) (c1 c2 : Nat) (bs : List Int) (m : Nat) (l : List HProp), bs.length = m → Bytes bs → InL l p m c1 (ints .u8 bs) → InL l q m c2 (ints .u8 bs) → Fc prog E 57 [.slice p m c1, .slice q m c2].toArray l (fun v l' => v = .bool true ∧ l' = l) := fun p q c1 c2 bs m l hm hb h1 h2 => by
    have z := bequal_spec E p q c1 c2 m m bs bs l hm hm hb hb h1 h2
    rwa [show decide (bs = bs) = true from decide_eq_true rfl] at z
  have clists : ∀ (p q : Option Addr) (c1 c2 : Nat) (va vb : List Value) (l : List HProp), InL l p n c1 va → InL l q n c2 vb → (∀ (i : Nat) b, L.txs[i]? = some b → ∃ q c, va[i]? = some (.slice q b.length c) ∧ InL l q b.length c (ints .u8 b)) → (∀ (i : Nat) b, L.txs[i]? = some b → ∃ q c, vb[i]? = some (.slice q b.length c) ∧ InL l q b.length c (ints .u8 b)) →
      Fc prog E 58 [.slice p n c1, .slice q n c2].toArray l (fun v l' => v = .bool true ∧ l' = l) := fun p q c1 c2 va vb l h1 h2 g1 g2 => by
    have z := lists_spec E p q n n c1 c2 va vb L.txs L.txs l hn hn (by omega) h1 h2 (fun b h => (hsm b h).bytes) (fun b h => (hsm b h).bytes) g1 g2
    rwa [show decide (L.txs = L.txs) = true from decide_eq_true rfl] at z
  have hXi : ∀ (i : Nat) b, L.txs[i]? = some b → ∃ q c, vals[i]? = some (.slice q b.length c) := fun i b h => let ⟨q, c, e, _⟩ := hX.get i b h; ⟨q, c, e⟩
  refine Fc.of_bodyM (c := ?codeC) Try.func35 ?hb Try.ntmps35 ?hl ?_
  case hb => exact rfl
  case hl => exact rfl
  refine J.seq ?_
  refine J.region ?_
  refine JL.loud rfl (l_box rfl (by (first | rfl | simp)) rfl (fun b5 => ?_))
  refine JL.loud rfl (l_alloc hT rfl rfl (by (first | rfl | simp)) rfl (fun b6 => ?_))
  refine JL.nil ?_
  refine JE.then_normal ?_
  refine J.seq ?_
  refine J.seq ?_
  refine J.draw _ _ [(0, .q), (1, .q), (2, .q), (3, .q), (5, .q), (4, .l), (6, .e), (7, .q), (8, .q), (9, .q), (10, .q), (12, .q), (11, .e), (13, .q), (14, .q), (15, .q)] mixed (by kernel_rfl) (Split.cons (Pick.tail (Pick.tail Pick.head)) (Split.nil)) ?_
  refine JM.quiet rfl rfl rfl rfl (fun m => y_move rfl) ?_
  refine JM.quiet rfl rfl rfl rfl (fun m => y_ptr_eq_nil hT rfl rfl rfl rfl) ?_
  refine JM.quiet rfl rfl rfl rfl (fun m => y_move rfl) ?_
  all_goals (first | refine JM.gskip rfl rfl rfl rfl rfl rfl rfl ?_ | refine JM.gskipU rfl rfl rfl rfl rfl rfl ?_ | refine JM.gquiet rfl rfl rfl rfl rfl rfl (fun m => y_move rfl) ?_)
  all_goals (first | refine JM.gskip rfl rfl rfl rfl rfl rfl rfl ?_ | refine JM.gskipU rfl rfl rfl rfl rfl rfl ?_ | refine JM.gquiet rfl rfl rfl rfl rfl rfl (fun m => y_move rfl) ?_)
  refine JM.gloud rfl rfl rfl rfl (fun fr => l_callF e27 rfl rfl (csn _) ?_)
  rintro _ _ ⟨sa, sc, rfl, rfl, os⟩
  refine ⟨[_, _], (by (repeat (first | exact Split.nil | exact Split.all | refine Split.cons Pick.head ?_))), ?_⟩
  refine JM.gearly rfl rfl rfl rfl rfl rfl (fun fr => y_callF e57 rfl (hbe _ _ _ _ L.snap ns _ hns hsn.bytes (os.inl (by (repeat (first | exact Pick.head | apply Pick.tail | apply Pick.app)))) (InL.app (InL.app (by (repeat (first | assumption | apply InL.cons | apply InL.app))) fr) [_, _]))) ?_
  all_goals (first | refine JM.gskip rfl rfl rfl rfl rfl rfl rfl ?_ | refine JM.gskipU rfl rfl rfl rfl rfl rfl ?_ | refine JM.gquiet rfl rfl rfl rfl rfl rfl (fun m => y_not rfl) ?_)
  all_goals refine JM.quiet rfl rfl rfl rfl (fun m => y_pick rfl rfl rfl) ?_
  all_goals refine JM.quiet rfl rfl rfl rfl (fun m => y_move rfl) ?_
  all_goals (first | refine JM.gskip rfl rfl rfl rfl rfl rfl rfl ?_ | refine JM.gskipU rfl rfl rfl rfl rfl rfl ?_ | refine JM.gquiet rfl rfl rfl rfl rfl rfl (fun m => y_move rfl) ?_)
  all_goals (first | refine JM.gskip rfl rfl rfl rfl rfl rfl rfl ?_ | refine JM.gskipU rfl rfl rfl rfl rfl rfl ?_ | refine JM.gquiet rfl rfl rfl rfl rfl rfl (fun m => y_load1 hT rfl rfl rfl (by (exact Rd1.row (Pick.app m (by (repeat (first | exact Pick.head | apply Pick.tail | apply Pick.app)))) (by rfl)))) ?_)
  refine JM.gearly rfl rfl rfl rfl rfl rfl (fun fr => y_callF e23 rfl (Fc.still (p := [logm lg st L]) (Split.cons (by (repeat (first | exact Pick.head | apply Pick.tail | apply Pick.app))) Split.nil) (cus _))) ?_
  all_goals (first | refine JM.gskip rfl rfl rfl rfl rfl rfl rfl ?_ | refine JM.gskipU rfl rfl rfl rfl rfl rfl ?_ | refine JM.gquiet rfl rfl rfl rfl rfl rfl (fun m => y_callF e34 rfl (rused_spec E q n c vals L.txs _ hn (by omega) hsm (oq.inl (Pick.app m (by (repeat (first | exact Pick.head | apply Pick.tail | apply Pick.app))))) hXi)) ?_)
  all_goals (first | refine JM.gskip rfl rfl rfl rfl rfl rfl rfl ?_ | refine JM.gskipU rfl rfl rfl rfl rfl rfl ?_ | refine JM.gquiet rfl rfl rfl rfl rfl rfl (fun m => y_neq rfl rfl) ?_)
  all_goals refine JM.quiet rfl rfl rfl rfl (fun m => y_pick rfl rfl rfl) ?_
  all_goals refine JM.nil ?_
  all_goals refine JE.then_normal ?_
  all_goals
    refine J.cond_f rfl (by (first | rfl | assumption | (simp; done) | (simp; omega))) ?_
    refine J.skip ?_
  all_goals refine JE.then_normal ?_
  all_goals
    refine J.seq ?_
    refine J.seq ?_
    refine J.region ?_
    refine JL.step (y_assign rfl) rfl rfl rfl ?_
    refine JL.nil ?_
    refine JE.then_normal ?_
    refine J.block ?_
    refine J.loopD (α := Nat × List Nat) (fun s => s.1 ≤ 2) (fun s => s.2.map SL.mark) (fun s => [(0, .pointer (some ⟨lg, 0, none⟩)), (5, .pointer (some ⟨b5, 0, none⟩)), (6, .pointer (some ⟨b6, 0, none⟩)), (7, .int .i64 s.1)]) (fun s => marksP s.2 :: row b6 4 [.bool false] :: row b5 34 [.slice q n c] :: logm lg st L :: own 36 1 (.slice q n c) n vals :: K :: l) (fun s => 2 - s.1) (0, []) (Nat.zero_le _) rfl ⟨rfl, rfl, rfl, rfl, trivial⟩ (fun w h => (Sat.marks_nil h).sup (by (repeat (first | exact Sup.refl | apply Sup.cons (by (repeat (first | exact Pick.head | apply Pick.tail | apply Pick.app))) | apply Sup.app | apply Sup.skip | apply Sup.skips)))) ?_
    rintro ⟨rd, Ds⟩ hrd
    dsimp only at hrd ⊢
    refine J.seq ?_
    refine J.seq ?_
    refine J.region ?_
    refine JL.step (y_move rfl) rfl rfl rfl (JL.step (y_lss rfl rfl) rfl rfl rfl ?_)
    refine JL.nil ?_
    refine JE.then_normal ?_
    first | apply J.cond_dec rfl | apply J.cond rfl
    case' ht =>
      intro h
      try (first | (exfalso; omega) | (cases h; done) | (exfalso; simp at h; done) | subst h)
      all_goals
        refine J.skip ?_
    case' hf =>
      intro h
      try (first | (exfalso; omega) | (cases h; done) | (exfalso; simp at h; done) | subst h)
      all_goals
        refine J.exit ?_
        refine JE.then_exit ?_
        refine JE.then_exit ?_
        refine JE.block_exit ?_
        refine JE.then_normal ?_
        refine J.seq ?_
        refine J.region ?_
        refine JL.loud rfl (l_store1 hT rfl rfl rfl rfl rfl (by (repeat (first | exact Pick.head | apply Pick.tail | apply Pick.app))) (by (first | omega | exact Nat.le_of_ble_eq_true rfl | decide | (simp; omega))) ?_)
        refine JL.nil ?_
        refine JE.then_normal ?_
        refine J.ret ?_
        refine JE.unmarks (Ds := Ds) (by first | exact .inl rfl | exact .inr rfl) rfl (by (repeat (first | exact Pick.head | apply Pick.tail | apply Pick.app))) ?_
        refine JE.ret1 (.inl rfl) rfl rfl (by (first | exact RV.tmp rfl | exact RV.cell1 hT rfl rfl rfl (by (exact Rd1.row (by (repeat (first | exact Pick.head | apply Pick.tail | apply Pick.app))) (by rfl))) | exact RV.cellN hT rfl rfl rfl (by (first | exact RdN.rowAll (by (repeat (first | exact Pick.head | apply Pick.tail | apply Pick.app))) | exact RdN.own (by (repeat (first | exact Pick.head | apply Pick.tail | apply Pick.app))))) (by (first | rfl | assumption | (simp; done) | omega)))) ?_
        exact ⟨rfl, fun w z => z.sup (by (repeat (first | exact Sup.refl | apply Sup.cons (by (repeat (first | exact Pick.head | apply Pick.tail | apply Pick.app))) | apply Sup.app | apply Sup.skip | apply Sup.skips)))⟩
    all_goals refine JE.then_normal ?_
    all_goals
      refine J.seq ?_
      refine J.block ?_
      refine J.seq ?_
      refine J.region ?_
      refine JL.step (y_move rfl) rfl rfl rfl ?_
      refine JL.loud rfl (l_callF e24 rfl rfl (Fc.on (Split.cons (by (repeat (first | exact Pick.head | apply Pick.tail | apply Pick.app))) Split.nil) (ctx _)) ?_)
      rintro _ _ ⟨ta, tc, tvals, rfl, htv, rfl⟩
      refine JL.step (y_assign rfl) rfl rfl rfl ?_
      refine JL.nil ?_
      refine JE.then_normal ?_
      refine J.seq ?_
      refine J.seq ?_
      refine J.region ?_
      refine JL.step (y_move rfl) rfl rfl rfl ?_
      refine JL.step (y_load1 hT rfl rfl rfl (by (exact Rd1.row (by (repeat (first | exact Pick.head | apply Pick.tail | apply Pick.app))) (by rfl)))) rfl rfl rfl ?_
      refine JL.loud rfl (l_callF e58 rfl rfl (Fc.fact (p := OwnAt ta n tc tvals) (fun w s => Sat.own_at (s.pick Pick.head)) fun o1 => Fc.fact (p := ∀ (i : Nat) b, L.txs[i]? = some b → ∃ q c, tvals[i]? = some (.slice q b.length c) ∧ InL (owns tvals L.txs ++ _) q b.length c (ints .u8 b)) (fun w s => owns_inl htv (Sat.drop s)) fun g1 => clists ta q tc c tvals vals _ (o1.inl Pick.head) (oq.inl (by (repeat (first | exact Pick.head | apply Pick.tail | apply Pick.app)))) (fun i b h => let ⟨q, c, e, i2⟩ := g1 i b h; ⟨q, c, e, i2.cons _⟩) (fun i b h => let ⟨q, c, e, i2⟩ := hX.get i b h; ⟨q, c, e, i2.kept (by (repeat (first | exact Pick.head | apply Pick.tail | apply Pick.app)))⟩)) ?_)
      rintro _ _ ⟨rfl, rfl⟩
      refine JL.step (y_not rfl) rfl rfl rfl ?_
      refine JL.nil ?_
      refine JE.then_normal ?_
      refine J.cond_f rfl (by (first | rfl | assumption | (simp; done) | (simp; omega))) ?_
      refine J.skip ?_
      refine JE.then_normal ?_
      refine J.seq ?_
      refine J.seq ?_
      refine J.region ?_
      refine JL.step (y_move rfl) rfl rfl rfl (JL.step (y_len_slice hT rfl rfl rfl) rfl rfl rfl (JL.step (y_move rfl) rfl rfl rfl ?_))
      refine JL.nil ?_
      refine JE.then_normal ?_
      refine J.block ?_
      refine J.fact (p := OwnAt ta n tc tvals) (fun w s => Sat.own_at (s.pick (by (repeat (first | exact Pick.head | apply Pick.tail | apply Pick.app))))) fun ot => ?_
      refine J.loop (α := Nat) (fun i => i ≤ n) (fun i => [(0, .pointer (some ⟨lg, 0, none⟩)), (5, .pointer (some ⟨b5, 0, none⟩)), (6, .pointer (some ⟨b6, 0, none⟩)), (7, .int .i64 rd), (42, .slice ta n tc), (43, .int .i64 n), (44, .int .i64 i)]) (fun i => own 36 1 (.slice ta n tc) n tvals :: (owns (tvals.drop i) (L.txs.drop i) ++ (logm lg st L :: marksP Ds :: row b6 4 [.bool false] :: row b5 34 [.slice q n c] :: own 36 1 (.slice q n c) n vals :: K :: l))) (fun i => n - i) 0 (Nat.zero_le _) ⟨rfl, rfl, rfl, rfl, rfl, rfl, rfl, trivial⟩ (fun w h => h.sup (by (repeat (first | exact Sup.refl | apply Sup.cons (by (repeat (first | exact Pick.head | apply Pick.tail | apply Pick.app))) | apply Sup.app | apply Sup.skip | apply Sup.skips)))) ?_
      intro i hi
      refine J.seq ?_
      refine J.region ?_
      refine JL.step (y_lss rfl rfl) rfl rfl rfl ?_
      refine JL.nil ?_
      refine JE.then_normal ?_
      refine J.seq ?_
      first | apply J.cond_dec rfl | apply J.cond rfl
      case' ht =>
        intro h
        try (first | (exfalso; omega) | (cases h; done) | (exfalso; simp at h; done) | subst h)
        all_goals
          refine J.skip ?_
      case' hf =>
        intro h
        try (first | (exfalso; omega) | (cases h; done) | (exfalso; simp at h; done) | subst h)
        all_goals
          refine J.exit ?_
          refine JE.then_exit ?_
          refine JE.then_exit ?_
          refine JE.block_exit ?_
          refine JE.then_normal ?_
          refine J.seq ?_
          refine J.region ?_
          refine JL.step (y_move rfl) rfl rfl rfl ?_
          refine JL.loud rfl (l_callF e26 rfl rfl (lall_spec E _ (.pointer (some ⟨lg, 0, none⟩)) rfl) ?_)
          rintro _ _ ⟨bc, rfl, rfl⟩
          refine JL.step (y_assign rfl) rfl rfl rfl ?_
          refine JL.nil ?_
          refine JE.then_normal ?_
          refine J.seq ?_
          refine J.seq ?_
          refine J.region ?_
          refine JL.step (y_move rfl) rfl rfl rfl ?_
          refine JL.step (y_func_eq_nil (by kernel_rfl) rfl rfl) rfl rfl rfl ?_
          refine JL.nil ?_
          refine JE.then_normal ?_
          refine J.cond_f rfl (by (first | rfl | assumption | (simp; done) | (simp; omega))) ?_
          refine J.skip ?_
          refine JE.then_normal ?_
          refine J.seq ?_
          refine J.region ?_
          refine JL.loud rfl (l_alloc hT rfl rfl (by (first | rfl | simp)) rfl (fun bn => ?_))
          refine JL.loud rfl (l_store1 hT rfl rfl rfl rfl rfl (by (repeat (first | exact Pick.head | apply Pick.tail | apply Pick.app))) (by (first | omega | exact Nat.le_of_ble_eq_true rfl | decide | (simp; omega))) ?_)
          refine JL.nil ?_
          refine JE.then_normal ?_
          refine J.seq ?_
          refine J.seq ?_
          refine J.region ?_
          refine JL.step (y_move rfl) rfl rfl rfl ?_
          refine JL.nil ?_
          refine JE.then_normal ?_
          refine J.block ?_
          refine J.rangeFunc e52 rfl fun fn a0 k DD K1 hK hf0 => ?_
          refine Fc.mono (Fc.imp (lall2_spec E lg st L (marksP Ds :: row b6 4 [.bool false] :: l) k bc (fun j => [row bn 3 [.int .i64 (j : Int)], row b5 34 [.slice q n c], own 36 1 (.slice q n c) n vals, K, K1 .ready none, blk DD (.deferred (some []))]) (fun _ => [pur False, K1 .ready none]) (fun fr j tx xa xc htx hsx => ?hy)) (fun w s => s.sup (by (repeat (first | exact Sup.refl | apply Sup.cons (by (repeat (first | exact Pick.head | apply Pick.tail | apply Pick.app))) | apply Sup.app | apply Sup.skip | apply Sup.skips))))) ?hm
          case hy =>
            refine Yc.split (p := [K1 .ready none]) ?_ (Split.cons (by (repeat (first | exact Pick.head | apply Pick.tail | apply Pick.app))) Split.nil)
            refine Yc.post ?_
            have hjl : j < n := by
              rcases Nat.lt_or_ge j L.txs.length with h | h
              · omega
              · rw [List.getElem?_eq_none h] at htx; cases htx
            obtain ⟨yq, yc, hyv, hyi⟩ := hX.get j tx htx
            obtain ⟨gq, rfl⟩ := oq.at_.resolve_right fun ⟨h0, _⟩ => by have := oq.le; omega
            refine Yc.of_body hK hf0 rfl (by decide) ?_
            refine J.seq ?_
            refine J.region ?_
            refine JL.step (y_assign rfl) rfl rfl rfl ?_
            refine JL.nil ?_
            refine JE.then_normal ?_
            refine J.region ?_
            refine JL.step (y_assign rfl) rfl rfl rfl ?_
            refine JL.nil ?_
            refine JE.assigned (by (repeat (first | exact Pick.head | apply Pick.tail | apply Pick.app))) ?_
            refine J.block ?_
            refine J.seq ?_
            refine J.seq ?_
            refine J.region ?_
            refine JL.step (y_move rfl) rfl rfl rfl ?_
            refine JL.step (y_load1 hT rfl rfl rfl (by (exact Rd1.row (by (repeat (first | exact Pick.head | apply Pick.tail | apply Pick.app))) (by rfl)))) rfl rfl rfl ?_
            refine JL.step (y_neq rfl rfl) rfl rfl rfl (JL.step (y_move rfl) rfl rfl rfl ?_)
            all_goals (first | (refine JL.gsplit_dec rfl rfl rfl (fun h => ?_) (fun h => ?_) <;> try (first | (exfalso; omega) | exact absurd rfl h)) | (refine JL.gsplit rfl rfl rfl (fun h => ?_) (fun h => ?_) <;> try (first | cases h | (exfalso; simp at h; done))) | skip)
            all_goals (first | refine JL.gskip rfl rfl rfl rfl rfl rfl ?_ | refine JL.gskipU rfl rfl rfl rfl rfl ?_ | refine JL.gstep rfl rfl rfl (y_load1 hT rfl rfl rfl (by (exact Rd1.row (by (repeat (first | exact Pick.head | apply Pick.tail | apply Pick.app))) (by rfl)))) rfl rfl ?_)
            all_goals (first | refine JL.gskip rfl rfl rfl rfl rfl rfl ?_ | refine JL.gskipU rfl rfl rfl rfl rfl ?_ | refine JL.gstep rfl rfl rfl (y_load1 hT rfl rfl rfl (by (exact Rd1.row (by (repeat (first | exact Pick.head | apply Pick.tail | apply Pick.app))) (by rfl)))) rfl rfl ?_)
            all_goals (first | refine JL.gskip rfl rfl rfl rfl rfl rfl ?_ | refine JL.gskipU rfl rfl rfl rfl rfl ?_ | refine JL.gstep rfl rfl rfl (y_len_slice hT rfl rfl rfl) rfl rfl ?_)
            all_goals (first | refine JL.gskip rfl rfl rfl rfl rfl rfl ?_ | refine JL.gskipU rfl rfl rfl rfl rfl ?_ | refine JL.gstep rfl rfl rfl (y_geq rfl rfl) rfl rfl ?_)
            all_goals (refine JL.step (y_pick rfl rfl rfl) rfl rfl rfl ?_)
            all_goals (refine JL.step (y_move rfl) rfl rfl rfl ?_)
            all_goals (first | (refine JL.gsplit_dec rfl rfl rfl (fun h => ?_) (fun h => ?_) <;> try (first | (exfalso; omega) | exact absurd rfl h)) | (refine JL.gsplit rfl rfl rfl (fun h => ?_) (fun h => ?_) <;> try (first | cases h | (exfalso; simp at h; done))) | skip)
            all_goals (first | refine JL.gskip rfl rfl rfl rfl rfl rfl ?_ | refine JL.gskipU rfl rfl rfl rfl rfl ?_ | refine JL.gstep rfl rfl rfl (y_move rfl) rfl rfl ?_)
            all_goals (first | refine JL.gskip rfl rfl rfl rfl rfl rfl ?_ | refine JL.gskipU rfl rfl rfl rfl rfl ?_ | refine JL.gstep rfl rfl rfl (y_load1 hT rfl rfl rfl (by (exact Rd1.row (by (repeat (first | exact Pick.head | apply Pick.tail | apply Pick.app))) (by rfl)))) rfl rfl ?_)
            all_goals (first | refine JL.gskip rfl rfl rfl rfl rfl rfl ?_ | refine JL.gskipU rfl rfl rfl rfl rfl ?_ | refine JL.gstep rfl rfl rfl (y_load1 hT rfl rfl rfl (by (exact Rd1.row (by (repeat (first | exact Pick.head | apply Pick.tail | apply Pick.app))) (by rfl)))) rfl rfl ?_)
            all_goals (first | refine JL.gskip rfl rfl rfl rfl rfl rfl ?_ | refine JL.gskipU rfl rfl rfl rfl rfl ?_ | refine JL.gstep rfl rfl rfl (y_indexAddr_slice hT rfl rfl rfl rfl rfl (by (first | omega | exact Nat.le_of_ble_eq_true rfl | decide | (simp; omega))) (by (first | omega | exact Nat.le_of_ble_eq_true rfl | decide | (simp; omega)))) rfl rfl ?_)
            all_goals (first | refine JL.gskip rfl rfl rfl rfl rfl rfl ?_ | refine JL.gskipU rfl rfl rfl rfl rfl ?_ | refine JL.gstep rfl rfl rfl (y_load1 hT rfl rfl rfl (Rd1.elem (RdN.own (by (repeat (first | exact Pick.head | apply Pick.tail | apply Pick.app)))) hyv)) rfl rfl ?_)
            all_goals (first | refine JL.gskip rfl rfl rfl rfl rfl rfl ?_ | refine JL.gskipU rfl rfl rfl rfl rfl ?_ | (refine JL.gloud rfl rfl rfl (l_callF e57 rfl rfl (Fc.fact (p := OwnAt xa tx.length xc (ints .u8 tx)) (fun w s => Sat.own_at (s.pick (by (repeat (first | exact Pick.head | apply Pick.tail | apply Pick.app))))) fun ox => hbe _ _ _ _ tx tx.length _ rfl hsx.bytes (ox.inl (by (repeat (first | exact Pick.head | apply Pick.tail | apply Pick.app)))) (hyi.kept (by (repeat (first | exact Pick.head | apply Pick.tail | apply Pick.app))))) ?_); rintro _ _ ⟨rfl, rfl⟩))
            all_goals (first | refine JL.gskip rfl rfl rfl rfl rfl rfl ?_ | refine JL.gskipU rfl rfl rfl rfl rfl ?_ | refine JL.gstep rfl rfl rfl (y_not rfl) rfl rfl ?_)
            all_goals (refine JL.step (y_pick rfl rfl rfl) rfl rfl rfl ?_)
            all_goals refine JL.nil ?_
            all_goals refine JE.then_normal ?_
            all_goals
              refine J.cond_f rfl (by (first | rfl | assumption | (simp; done) | (simp; omega))) ?_
              refine J.skip ?_
            all_goals refine JE.then_normal ?_
            all_goals
              refine J.region ?_
              refine JL.step (y_load1 hT rfl rfl rfl (by (exact Rd1.row (by (repeat (first | exact Pick.head | apply Pick.tail | apply Pick.app))) (by rfl)))) rfl rfl rfl ?_
              refine JL.step (y_add rfl rfl (by (first | exact wrap_i64 (by omega) (by omega) | rfl))) rfl rfl rfl ?_
              refine JL.loud rfl (l_store1 hT rfl rfl rfl rfl rfl (by (repeat (first | exact Pick.head | apply Pick.tail | apply Pick.app))) (by (first | omega | exact Nat.le_of_ble_eq_true rfl | decide | (simp; omega))) ?_)
              refine JL.nil ?_
            all_goals refine JE.block_normal ?_
            all_goals
              refine JE.round_on hK (by (repeat (first | exact Pick.head | apply Pick.tail | apply Pick.app))) ?_
              refine ⟨_, fun w z => z.sup (by (repeat (first | exact Sup.refl | apply Sup.cons (by (repeat (first | exact Pick.head | apply Pick.tail | apply Pick.app))) | apply Sup.app | apply Sup.skip | apply Sup.skips))), .inl ⟨rfl, rfl⟩⟩
          case hm =>
            rintro _ _ (rfl | ⟨j, hj, rfl⟩)
            · refine ⟨.ready, none, _, by (repeat (first | exact Pick.head | apply Pick.tail | apply Pick.app)), by simp, ?_⟩
              dsimp only
              rw [hn]
              refine JE.block_normal ?_
              refine JE.then_normal ?_
              refine J.seqKD (α := Nat) (fun _ => True) (fun D2 => SL.mark D2 :: SL.mark DD :: Ds.map SL.mark) (fun _ => [(0, .pointer (some ⟨lg, 0, none⟩)), (5, .pointer (some ⟨b5, 0, none⟩)), (6, .pointer (some ⟨b6, 0, none⟩)), (7, .int .i64 rd), (13, .pointer (some ⟨bn, 0, none⟩))]) (fun D2 => blk D2 (.deferred (some [])) :: blk DD (.deferred (some [])) :: row bn 3 [.int .i64 n] :: row b5 34 [.slice q n c] :: own 36 1 (.slice q n c) n vals :: K :: marksP Ds :: row b6 4 [.bool false] :: logm lg st L :: l) ?hj29 (fun hk29 => ?hf29)
              case hf29 =>
                refine J.seq ?_
                refine J.region ?_
                refine JL.step (y_move rfl) rfl rfl rfl ?_
                refine JL.nil ?_
                refine JE.then_normal ?_
                refine J.block ?_
                refine J.rangeFunc e52 rfl fun fn2 a02 k2 DD2 K2 hK hf2 => ?_
                refine Fc.mono (Fc.imp (lall2_spec E lg st L (blk DD2 (.deferred (some [])) :: blk DD (.deferred (some [])) :: row bn 3 [.int .i64 n] :: row b5 34 [.slice q n c] :: own 36 1 (.slice q n c) n vals :: K :: marksP Ds :: row b6 4 [.bool false] :: l) k2 bc (fun _ => [K2 .ready none]) (fun _ => [K2 .done (some (.exit 8))]) (fun fr j tx xa xc htx hsx => ?hy2)) (fun w s => s.sup (by (repeat (first | exact Sup.refl | apply Sup.cons (by (repeat (first | exact Pick.head | apply Pick.tail | apply Pick.app))) | apply Sup.app | apply Sup.skip | apply Sup.skips))))) ?hm2
                case hy2 =>
                  refine Yc.split (p := [K2 .ready none]) ?_ (Split.cons (by (repeat (first | exact Pick.head | apply Pick.tail | apply Pick.app))) Split.nil)
                  refine Yc.post ?_
                  refine Yc.of_body hK hf2 rfl (by decide) ?_
                  refine J.skip ?_
                  refine JE.assigned (by (repeat (first | exact Pick.head | apply Pick.tail | apply Pick.app))) ?_
                  refine J.block ?_
                  refine J.exit ?_
                  refine JE.block_past rfl ?_
                  refine JE.round_exit hK (by (repeat (first | exact Pick.head | apply Pick.tail | apply Pick.app))) ?_
                  refine ⟨_, fun w z => z.sup (by (repeat (first | exact Sup.refl | apply Sup.cons (by (repeat (first | exact Pick.head | apply Pick.tail | apply Pick.app))) | apply Sup.app | apply Sup.skip | apply Sup.skips))), .inr ⟨rfl, rfl⟩⟩
                case hm2 =>
                  rintro _ _ (rfl | ⟨j, hj, rfl⟩)
                  · refine ⟨.ready, none, _, by (repeat (first | exact Pick.head | apply Pick.tail | apply Pick.app)), by simp, ?_⟩
                    dsimp only
                    refine JE.block_normal ?_
                    refine JE.then_normal ?_
                    refine J.closeKD hk29 DD2 trivial rfl ⟨rfl, rfl, rfl, rfl, rfl, trivial⟩ ?_
                    exact fun w z => z.sup (by (repeat (first | exact Sup.refl | apply Sup.cons (by (repeat (first | exact Pick.head | apply Pick.tail | apply Pick.app))) | apply Sup.app | apply Sup.skip | apply Sup.skips)))
                  · refine ⟨.done, some (.exit 8), _, by (repeat (first | exact Pick.head | apply Pick.tail | apply Pick.app)), by simp, ?_⟩
                    dsimp only
                    refine J.exit ?_
                    refine JE.block_exit ?_
                    refine JE.then_normal ?_
                    refine J.closeKD hk29 DD2 trivial rfl ⟨rfl, rfl, rfl, rfl, rfl, trivial⟩ ?_
                    exact fun w z => z.sup (by (repeat (first | exact Sup.refl | apply Sup.cons (by (repeat (first | exact Pick.head | apply Pick.tail | apply Pick.app))) | apply Sup.app | apply Sup.skip | apply Sup.skips)))
              intro DD2 _
              try dsimp only
              refine J.seq ?_
              refine J.region ?_
              refine JL.step (y_load1 hT rfl rfl rfl (by (exact Rd1.row (by (repeat (first | exact Pick.head | apply Pick.tail | apply Pick.app))) (by rfl)))) rfl rfl rfl ?_
              refine JL.step (y_load1 hT rfl rfl rfl (by (exact Rd1.row (by (repeat (first | exact Pick.head | apply Pick.tail | apply Pick.app))) (by rfl)))) rfl rfl rfl ?_
              refine JL.step (y_len_slice hT rfl rfl rfl) rfl rfl rfl (JL.step (y_neq rfl rfl) rfl rfl rfl ?_)
              refine JL.nil ?_
              refine JE.then_normal ?_
              refine J.cond_f rfl (by (first | rfl | assumption | (simp; done) | (simp; omega))) ?_
              refine J.skip ?_
              refine JE.block_normal ?_
              refine JE.then_normal ?_
              refine J.region ?_
              refine JL.step (y_move rfl) rfl rfl rfl ?_
              refine JL.step (y_add rfl rfl (by (first | exact wrap_i64 (by omega) (by omega) | rfl))) rfl rfl rfl ?_
              refine JL.step (y_assign rfl) rfl rfl rfl ?_
              refine JL.nil ?_
              refine JE.roundD (s := (rd, Ds)) (rd + 1, DD2 :: DD :: Ds) (by dsimp only; omega) rfl ⟨rfl, rfl, rfl, rfl, trivial⟩ (fun w z => ?_) (by dsimp only; omega)
              have z1 := z.sup (p := blk DD (.deferred (some [])) :: marksP Ds :: blk DD2 (.deferred (some [])) :: row b6 4 [.bool false] :: row b5 34 [.slice q n c] :: logm lg st L :: own 36 1 (.slice q n c) n vals :: K :: l) (by (repeat (first | exact Sup.refl | apply Sup.cons (by (repeat (first | exact Pick.head | apply Pick.tail | apply Pick.app))) | apply Sup.app | apply Sup.skip | apply Sup.skips)))
              have z2 := z1.marks_cons.sup (p := blk DD2 (.deferred (some [])) :: marksP (DD :: Ds) :: row b6 4 [.bool false] :: row b5 34 [.slice q n c] :: logm lg st L :: own 36 1 (.slice q n c) n vals :: K :: l) (by (repeat (first | exact Sup.refl | apply Sup.cons (by (repeat (first | exact Pick.head | apply Pick.tail | apply Pick.app))) | apply Sup.app | apply Sup.skip | apply Sup.skips)))
              exact z2.marks_cons
            · refine ⟨.ready, none, _, by (repeat (first | exact Pick.head | apply Pick.tail | apply Pick.app)), by simp, ?_⟩
              dsimp only
              exact JE.picks (A := pur False) (by (repeat (first | exact Pick.head | apply Pick.tail | apply Pick.app))) (JE.purs fun h => h.elim)
      all_goals refine JE.then_normal ?_
      all_goals
        refine J.seq ?_
        refine J.block ?_
        refine J.seq ?_
        have hlt : i < n := by omega
        obtain ⟨b, hb⟩ : ∃ b, L.txs[i]? = some b := ⟨_, List.getElem?_eq_getElem (by omega)⟩
        obtain ⟨v, hv⟩ : ∃ v, tvals[i]? = some v := ⟨_, List.getElem?_eq_getElem (by omega)⟩
        rw [owns_drop hv hb, List.cons_append]
        refine J.fact (p := ∃ a c, v = .slice a b.length c ∧ OwnAt a b.length c (ints .u8 b)) (fun w s => ?_) fun ⟨xa, xc, hve, ox⟩ => ?_
        · obtain ⟨xa, xc, rfl, _⟩ := Sat.row_of_own s (Pick.tail Pick.head)
          exact ⟨xa, xc, rfl, Sat.own_at (s.pick (Pick.tail Pick.head))⟩
        subst hve
        obtain ⟨gt, rfl⟩ := ot.at_.resolve_right fun ⟨h0, _⟩ => by have := ot.le; omega
        have hbl := (hsm b (List.mem_of_getElem? hb)).len
        refine J.region ?_
        refine JL.step (y_indexAddr_slice hT rfl rfl rfl rfl rfl (by (first | omega | exact Nat.le_of_ble_eq_true rfl | decide | (simp; omega))) (by (first | omega | exact Nat.le_of_ble_eq_true rfl | decide | (simp; omega)))) rfl rfl rfl ?_
        refine JL.step (y_load1 hT rfl rfl rfl (Rd1.elem (RdN.own (by (repeat (first | exact Pick.head | apply Pick.tail | apply Pick.app)))) hv)) rfl rfl rfl ?_
        refine JL.step (y_assign rfl) rfl rfl rfl ?_
        refine JL.nil ?_
        refine JE.then_normal ?_
        refine J.seq ?_
        refine J.region ?_
        refine JL.step (y_move rfl) rfl rfl rfl (JL.step (y_len_slice hT rfl rfl rfl) rfl rfl rfl (JL.step (y_move rfl) rfl rfl rfl ?_))
        refine JL.nil ?_
        refine JE.then_normal ?_
        refine J.block ?_
        refine J.loop (α := Nat × List Value) (fun s => s.1 ≤ b.length ∧ s.2.length = b.length) (fun s => [(0, .pointer (some ⟨lg, 0, none⟩)), (5, .pointer (some ⟨b5, 0, none⟩)), (6, .pointer (some ⟨b6, 0, none⟩)), (7, .int .i64 rd), (10, .slice xa b.length xc), (42, .slice (some ⟨gt, 0, none⟩) n tc), (43, .int .i64 n), (44, .int .i64 i), (49, .int .i64 b.length), (50, .int .i64 s.1)]) (fun s => own 5 1 (.slice xa b.length xc) b.length s.2 :: own 36 1 (.slice (some ⟨gt, 0, none⟩) n tc) n tvals :: (owns (tvals.drop (i + 1)) (L.txs.drop (i + 1)) ++ (logm lg st L :: marksP Ds :: row b6 4 [.bool false] :: row b5 34 [.slice q n c] :: own 36 1 (.slice q n c) n vals :: K :: l))) (fun s => b.length - s.1) (0, ints .u8 b) ⟨Nat.zero_le _, by simp [ints]⟩ ⟨rfl, rfl, rfl, rfl, rfl, rfl, rfl, rfl, rfl, rfl, trivial⟩ (fun w h => h.sup (by (repeat (first | exact Sup.refl | apply Sup.cons (by (repeat (first | exact Pick.head | apply Pick.tail | apply Pick.app))) | apply Sup.app | apply Sup.skip | apply Sup.skips)))) ?_
        rintro ⟨j, ys⟩ ⟨hj, hys⟩
        dsimp only at hj hys ⊢
        refine J.seq ?_
        refine J.region ?_
        refine JL.step (y_lss rfl rfl) rfl rfl rfl ?_
        refine JL.nil ?_
        refine JE.then_normal ?_
        refine J.seq ?_
        first | apply J.cond_dec rfl | apply J.cond rfl
        case' ht =>
          intro h
          try (first | (exfalso; omega) | (cases h; done) | (exfalso; simp at h; done) | subst h)
          all_goals
            refine J.skip ?_
        case' hf =>
          intro h
          try (first | (exfalso; omega) | (cases h; done) | (exfalso; simp at h; done) | subst h)
          all_goals
            refine J.exit ?_
            refine JE.then_exit ?_
            refine JE.then_exit ?_
            refine JE.block_exit ?_
            refine JE.block_normal ?_
            refine JE.then_normal ?_
            refine J.region ?_
            refine JL.step (y_add rfl rfl (by (first | exact wrap_i64 (by omega) (by omega) | rfl))) rfl rfl rfl ?_
            refine JL.step (y_move rfl) rfl rfl rfl ?_
            refine JL.nil ?_
            exact JE.round (s := i) (i + 1) (by omega) ⟨rfl, rfl, rfl, rfl, rfl, rfl, rfl, trivial⟩ (fun w q => q.sup (by (repeat (first | exact Sup.refl | apply Sup.cons (by (repeat (first | exact Pick.head | apply Pick.tail | apply Pick.app))) | apply Sup.app | apply Sup.skip | apply Sup.skips)))) (by omega)
        all_goals refine JE.then_normal ?_
        all_goals
          refine J.seq ?_
          refine J.block ?_
          refine J.seq ?_
          have hltj : j < b.length := by omega
          obtain ⟨gx, rfl⟩ := ox.at_.resolve_right fun ⟨h0, _⟩ => by have := ox.le; omega
          refine J.region ?_
          refine JL.step (y_move rfl) rfl rfl rfl (JL.step (y_assign rfl) rfl rfl rfl ?_)
          refine JL.nil ?_
          refine JE.then_normal ?_
          refine J.region ?_
          refine JL.step (y_move rfl) rfl rfl rfl (JL.step (y_move rfl) rfl rfl rfl ?_)
          refine JL.step (y_indexAddr_slice hT rfl rfl rfl rfl rfl (by (first | omega | exact Nat.le_of_ble_eq_true rfl | decide | (simp; omega))) (by (first | omega | exact Nat.le_of_ble_eq_true rfl | decide | (simp; omega)))) rfl rfl rfl ?_
          refine JL.loud rfl (l_storeOwn1 hT rfl rfl rfl rfl rfl (by (repeat (first | exact Pick.head | apply Pick.tail | apply Pick.app))) (show 0 + (j : Int).toNat * i5.size < ys.length by rw [hys, show i5.size = 1 from rfl]; omega) ?_)
          refine JL.nil ?_
          refine JE.block_normal ?_
          refine JE.then_normal ?_
          refine J.region ?_
          refine JL.step (y_add rfl rfl (by (first | exact wrap_i64 (by omega) (by omega) | rfl))) rfl rfl rfl ?_
          refine JL.step (y_move rfl) rfl rfl rfl ?_
          refine JL.nil ?_
        all_goals
          exact JE.round (s := (j, ys)) (j + 1, ys.set (0 + (j : Int).toNat * i5.size) (.int .u8 238)) ⟨by dsimp only; omega, by simp [hys]⟩ ⟨rfl, rfl, rfl, rfl, rfl, rfl, rfl, rfl, rfl, rfl, trivial⟩ (fun w q => q.sup (by (repeat (first | exact Sup.refl | apply Sup.cons (by (repeat (first | exact Pick.head | apply Pick.tail | apply Pick.app))) | apply Sup.app | apply Sup.skip | apply Sup.skips)))) (by dsimp only; omega)
end
end Go.Proofs.Ytmgagkpokmaefaa
namespace Go.Proofs.Ytmgagkpokmaefaa
open Go Go.SL
/-! What is done to a log. -/
structure Op12 where
  kind : Int
  p : Option Addr
  c : Nat
  bs : List Int
def opE (o : Op12) : List Value := [.int .i64 o.kind, .slice o.p o.bs.length o.c]
theorem opE_one (o : Op12) : ∀ u ∈ opE o, u.oneCell' = true := by
  intro u hu
  simp only [opE, List.mem_cons, List.not_mem_nil, or_false] at hu
  rcases hu with rfl | rfl <;> rfl
structure Op12.Ok (o : Op12) (l : List HProp) : Prop where
  bytes : Bytes o.bs
  inl : InL l o.p o.bs.length o.c (ints .u8 o.bs)
def Op12.k (o : Op12) : Nat := (BitVec.ofInt 64 o.kind).toNat % 3
def Op12.b (o : Op12) : List Int := o.bs.take 2500
theorem Op12.Ok.small {o : Op12} {l : List HProp} (h : o.Ok l) : Small o.b := ⟨h.bytes.take _, by unfold Op12.b; rw [List.length_take]; omega⟩
theorem Op12.b_len (o : Op12) : o.b.length = min o.bs.length 2500 := by rw [Op12.b, List.length_take]; omega
theorem Op12.Ok.binl {o : Op12} {l : List HProp} (h : o.Ok l) : InL l o.p o.b.length o.c (ints .u8 o.b) := by
  have q := h.inl.cutTo o.b.length 2500 (by rw [o.b_len]; omega)
  rwa [show (ints .u8 o.bs).take 2500 = ints .u8 o.b by unfold Op12.b; simp [ints, List.map_take]] at q
attribute [local irreducible] J JL JE JM LS Y Fc RV Code.wp wpList Code.wpIn wpListIn
attribute [local irreducible] Yc
variable (E : World)
theorem kind12_spec (o : Op12) (l : List HProp) : Fc prog E 33 [.agg (opE o).toArray].toArray l (fun v l' => v = .int .i64 (o.k : Int) ∧ l' = l) := by
  refine Fc.eqs ?_
  have hk : o.k = (BitVec.ofInt 64 o.kind).toNat % 3 := rfl
  refine Fc.of_body (c := ?codeC) Try.func33 ?hb Try.ntmps33 ?hl ?_
  case hb => exact rfl
  case hl => exact rfl
  refine J.seq ?_
  refine J.region ?_
  refine JL.loud rfl (l_box rfl (by (first | rfl | simp)) rfl (fun b1 => ?_))
  refine JL.step (y_assign rfl) rfl rfl rfl ?_
  refine JL.nil ?_
  refine JE.then_normal ?_
  refine J.seq ?_
  refine J.region ?_
  refine JL.step (y_fieldAddr hT rfl rfl rfl rfl rfl rfl) rfl rfl rfl ?_
  refine JL.step (y_load1 hT rfl rfl rfl (by (exact Rd1.row (by (repeat (first | exact Pick.head | apply Pick.tail | apply Pick.app))) (by rfl)))) rfl rfl rfl ?_
  refine JL.step (y_convToQ hT rfl rfl rfl rfl) rfl rfl rfl ?_
  refine JL.step (y_rem (m := (o.k : Int)) rfl rfl (by decide) (by rw [Int.tmod_eq_emod_of_nonneg (by omega)]; omega)) rfl rfl rfl ?_
  refine JL.step (y_conv (m := (o.k : Int)) hT rfl rfl rfl rfl (wrap_i64 (by omega) (by omega))) rfl rfl rfl ?_
  refine JL.step (y_assign rfl) rfl rfl rfl ?_
  refine JL.nil ?_
  refine JE.then_normal ?_
  refine J.ret ?_
  refine JE.ret1 (.inl rfl) rfl rfl (by (first | exact RV.tmp rfl | exact RV.cell1 hT rfl rfl rfl (by (exact Rd1.row (by (repeat (first | exact Pick.head | apply Pick.tail | apply Pick.app))) (by rfl))) | exact RV.cellN hT rfl rfl rfl (by (first | exact RdN.rowAll (by (repeat (first | exact Pick.head | apply Pick.tail | apply Pick.app))) | exact RdN.own (by (repeat (first | exact Pick.head | apply Pick.tail | apply Pick.app))))) (by (first | rfl | assumption | (simp; done) | omega)))) ?_
  exact ⟨rfl, fun w q => q.sup (by (repeat (first | exact Sup.refl | apply Sup.cons (by (repeat (first | exact Pick.head | apply Pick.tail | apply Pick.app))) | apply Sup.app | apply Sup.skip | apply Sup.skips)))⟩
theorem bytes12_spec (o : Op12) (l l0 : List HProp) (ho : o.Ok l0) : Fc prog E 32 [.agg (opE o).toArray].toArray l (fun v l' => v = .slice o.p o.b.length o.c ∧ l' = l) := by
  refine Fc.eqs ?_
  have hb := o.b_len
  refine Fc.of_body (c := ?codeC) Try.func32 ?hb Try.ntmps32 ?hl ?_
  case hb => exact rfl
  case hl => exact rfl
  refine J.seq ?_
  refine J.region ?_
  refine JL.loud rfl (l_box rfl (by (first | rfl | simp)) rfl (fun b1 => ?_))
  refine JL.step (y_assign rfl) rfl rfl rfl ?_
  refine JL.nil ?_
  refine JE.then_normal ?_
  refine J.seq ?_
  refine J.region ?_
  refine JL.step (y_fieldAddr hT rfl rfl rfl rfl rfl rfl) rfl rfl rfl ?_
  refine JL.step (y_load1 hT rfl rfl rfl (by (exact Rd1.row (by (repeat (first | exact Pick.head | apply Pick.tail | apply Pick.app))) (by rfl)))) rfl rfl rfl ?_
  refine JL.step (y_fieldAddr hT rfl rfl rfl rfl rfl rfl) rfl rfl rfl ?_
  refine JL.step (y_load1 hT rfl rfl rfl (by (exact Rd1.row (by (repeat (first | exact Pick.head | apply Pick.tail | apply Pick.app))) (by rfl)))) rfl rfl rfl ?_
  refine JL.step (y_len_slice hT rfl rfl rfl) rfl rfl rfl ?_
  refine JL.step (y_min2 (m := (o.b.length : Int)) rfl rfl (by omega)) rfl rfl rfl ?_
  refine JL.step (y_cutTo hT rfl rfl rfl rfl rfl rfl (show o.b.length ≤ o.bs.length by omega) ho.inl) rfl rfl rfl ?_
  refine JL.step (y_assign rfl) rfl rfl rfl ?_
  refine JL.nil ?_
  refine JE.then_normal ?_
  refine J.ret ?_
  refine JE.ret1 (.inl rfl) rfl rfl (by (first | exact RV.tmp rfl | exact RV.cell1 hT rfl rfl rfl (by (exact Rd1.row (by (repeat (first | exact Pick.head | apply Pick.tail | apply Pick.app))) (by rfl))) | exact RV.cellN hT rfl rfl rfl (by (first | exact RdN.rowAll (by (repeat (first | exact Pick.head | apply Pick.tail | apply Pick.app))) | exact RdN.own (by (repeat (first | exact Pick.head | apply Pick.tail | apply Pick.app))))) (by (first | rfl | assumption | (simp; done) | omega)))) ?_
  exact ⟨rfl, fun w q => q.sup (by (repeat (first | exact Sup.refl | apply Sup.cons (by (repeat (first | exact Pick.head | apply Pick.tail | apply Pick.app))) | apply Sup.app | apply Sup.skip | apply Sup.skips)))⟩
theorem few12_spec (p : Option Addr) (n c : Nat) (cs : List Value) (l l0 : List HProp) (hin : InL l0 p n c cs) : Fc prog E 31 [.slice p n c].toArray l (fun v l' => v = .slice p (min n 30) c ∧ l' = l) := by
  refine Fc.of_body (c := ?codeC) Try.func31 ?hb Try.ntmps31 ?hl ?_
  case hb => exact rfl
  case hl => exact rfl
  refine J.seq ?_
  refine J.region ?_
  refine JL.step (y_assign rfl) rfl rfl rfl ?_
  refine JL.nil ?_
  refine JE.then_normal ?_
  refine J.seq ?_
  refine J.region ?_
  refine JL.step (y_move rfl) rfl rfl rfl (JL.step (y_move rfl) rfl rfl rfl (JL.step (y_len_slice hT rfl rfl rfl) rfl rfl rfl ?_))
  refine JL.step (y_min2 (m := ((min n 30 : Nat) : Int)) rfl rfl (by omega)) rfl rfl rfl ?_
  refine JL.step (y_cutTo hT rfl rfl rfl rfl rfl rfl (show min n 30 ≤ n by omega) hin) rfl rfl rfl ?_
  refine JL.step (y_assign rfl) rfl rfl rfl ?_
  refine JL.nil ?_
  refine JE.then_normal ?_
  refine J.ret ?_
  refine JE.ret1 (.inl rfl) rfl rfl (by (first | exact RV.tmp rfl | exact RV.cell1 hT rfl rfl rfl (by (exact Rd1.row (by (repeat (first | exact Pick.head | apply Pick.tail | apply Pick.app))) (by rfl))) | exact RV.cellN hT rfl rfl rfl (by (first | exact RdN.rowAll (by (repeat (first | exact Pick.head | apply Pick.tail | apply Pick.app))) | exact RdN.own (by (repeat (first | exact Pick.head | apply Pick.tail | apply Pick.app))))) (by (first | rfl | assumption | (simp; done) | omega)))) ?_
  exact ⟨rfl, rfl⟩
/-- A checkpoint, whether it fits or not. -/
theorem LH.take {S : Sb} {D : Dk} {L : Lg} (h : LH S D L) {state : List Int} (hs : Small state) (ht : S.turn.toNat + 1 < 18446744073709551616) : ∃ L' S' D' e, ckL L S D state = (L', S', D', e) ∧ LH S' D' L' ∧ D'.safe.length = D.safe.length ∧
    ((state.length ≤ 64 * D.half ∧ e = 0 ∧ L' = ⟨state, [], 0, false⟩ ∧ S' = nextS S state) ∨ (¬ state.length ≤ 64 * D.half ∧ e = 3 ∧ L' = L ∧ S' = S ∧ D' = D)) := by
  by_cases hl : state.length ≤ 64 * D.half
  · obtain ⟨D', e, hL, hd⟩ := h.check hs hl ht
    exact ⟨_, _, D', 0, e, hL, hd, .inl ⟨hl, rfl, rfl, rfl⟩⟩
  · exact ⟨L, S, D, 3, ckL_long h (by omega), h, rfl, .inr ⟨hl, rfl, rfl, rfl, rfl⟩⟩
end Go.Proofs.Ytmgagkpokmaefaa
