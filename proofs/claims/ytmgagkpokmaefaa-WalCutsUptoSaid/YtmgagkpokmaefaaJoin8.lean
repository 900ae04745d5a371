import Derived.Test.YtmgagkpokmaefaaJoin1
import Derived.Test.YtmgagkpokmaefaaJoin7
namespace Go.Proofs.Ytmgagkpokmaefaa
open Go Go.SL
/-! Chapter 12's own helpers. -/
def lg0 : Lg := ⟨[], [], 0, false⟩
theorem formatted_find {D : Dk} (h : Up D) (h2 : 2 ≤ D.safe.length) {j : Int} (h0 : 0 ≤ j) (hj : j < D.safe.length) : D.formatted.find j = if 1 = j then zeroB else if 0 = j then sbBlock sb0 else D.find j := by
  have h1 := h.push (i := 0) (b := sbBlock sb0) (by omega) (sbBlock_length sb0_hash)
  have h3 := h1.push (i := 1) (b := zeroB) (by simp only [Dk.push, Dk.does]; omega) rfl
  unfold Dk.formatted
  rw [dk_find_settle h3.ok j ⟨h0, hj⟩, dk_find_push, dk_find_push]
theorem lh_format {n : Nat} (h1 : 64 ≤ n) (h2 : n ≤ 512) : LH sb0 (Dk.new n).formatted lg0 ∧ (Dk.new n).formatted.safe.length = n := by
  have hu0 : Up (Dk.new n) := new_up (by omega) h2
  have hl0 : (Dk.new n).safe.length = n := by simp [Dk.new]
  obtain ⟨_, hl1, _⟩ := formatted_up hu0 (by omega)
  have hl : (Dk.new n).formatted.safe.length = n := hl1.trans hl0
  refine ⟨⟨holds_format hu0 (by omega), (Byt.new n).formatted, rfl, rfl, Nat.zero_le _, ⟨Bytes.nil, by decide⟩, fun tx h => (by simp [lg0] at h), fun k tx h => (by simp [lg0] at h), fun i hi h => ?_⟩, hl⟩
  have hbs := base_slots (Dk.new n).formatted (by omega)
  rw [slotsL_find hi, formatted_find hu0 (by omega) (by omega) (by omega), if_neg (by unfold Dk.base; omega), if_neg (by unfold Dk.base; omega)] at h
  obtain ⟨q, hq⟩ : ∃ q, (Dk.new n).formatted.base + i = q := ⟨_, rfl⟩
  rw [hq] at h
  have hz : (Dk.new n).find (q : Int) = zeroB := by
    simp only [Dk.find, Dk.new, List.reverse_nil, List.find?_nil, Int.toNat_natCast]
    rw [List.getD_eq_getElem?_getD, List.getElem?_replicate, if_pos (by omega)]
    rfl
  rw [hz] at h
  exact absurd h (by decide)
attribute [local irreducible] J JL JE JM LS Y Fc RV Code.wp wpList Code.wpIn wpListIn
attribute [local irreducible] Yc
variable (E : World)
theorem lopen_lh (st d : Nat) (S : Sb) (D : Dk) (L : Lg) (l : List HProp) (h : LH S D L) :
    Fc prog E 13 [.pointer (some ⟨st, 0, none⟩)].toArray (row st 90 (scells S d) :: disk d D :: l)
      (fun v l' => ∃ lg, v = .tuple #[.pointer (some ⟨lg, 0, none⟩), .int .i64 0] ∧ l' = logm lg st L :: row st 90 (scells S d) :: disk d D :: l) := by
  have q := lopen_spec E st d S D L.snap l h.holds.fits h.holds.up.dead h.byt (by rw [h.holds.none]; decide) h.holds.snap h.holds.hash
  rwa [h.openL] at q
def storeN (n : Int) : Nat := 64 + (BitVec.ofInt 64 n).toNat % 24
theorem storeN_le (n : Int) : 64 ≤ storeN n ∧ storeN n ≤ 87 := by unfold storeN; omega
theorem store_spec (n : Int) (l : List HProp) :
    Fc prog E 12 [.int .i64 n].toArray l (fun v l' => ∃ d st, v = .tuple #[.pointer (some ⟨d, 0, none⟩), .pointer (some ⟨st, 0, none⟩)] ∧ l' = row st 90 (scells sb0 d) :: disk d (Dk.new (storeN n)).formatted :: l) := by
  have hN := storeN_le n
  obtain ⟨N, hNe⟩ : ∃ N, storeN n = N := ⟨_, rfl⟩
  rw [hNe] at hN ⊢
  have hfmt : ∀ d l, Fc prog E 42 [.pointer (some ⟨d, 0, none⟩)].toArray (disk d (Dk.new N) :: l) (fun v l' => ∃ st, v = .tuple #[.pointer (some ⟨st, 0, none⟩), .int .i64 0] ∧ l' = row st 90 (scells sb0 d) :: disk d (Dk.new N).formatted :: l) := fun d l => format_good E d (Dk.new N) l (by simp [Dk.new]; omega) rfl rfl (by simp [Dk.new])
  refine Fc.of_body (c := ?codeC) Try.func12 ?hb Try.ntmps12 ?hl ?_
  case hb => exact rfl
  case hl => exact rfl
  refine J.seq ?_
  refine J.region ?_
  refine JL.step (y_assign rfl) rfl rfl rfl (JL.step (y_assign rfl) rfl rfl rfl ?_)
  refine JL.nil ?_
  refine JE.then_normal ?_
  refine J.seq ?_
  refine J.region ?_
  refine JL.step (y_move rfl) rfl rfl rfl ?_
  refine JL.step (y_convToQ hT rfl rfl rfl rfl) rfl rfl rfl ?_
  refine JL.step (y_rem (m := (((BitVec.ofInt 64 n).toNat % 24 : Nat) : Int)) rfl rfl (by decide) (by rw [Int.tmod_eq_emod_of_nonneg (by omega)]; omega)) rfl rfl rfl ?_
  refine JL.step (y_conv (m := (((BitVec.ofInt 64 n).toNat % 24 : Nat) : Int)) hT rfl rfl rfl rfl (wrap_i64 (by omega) (by omega))) rfl rfl rfl ?_
  refine JL.step (y_add (m := (N : Int)) rfl rfl (by rw [← hNe, storeN, show (64 : Int) + (((BitVec.ofInt 64 n).toNat % 24 : Nat) : Int) = ((64 + (BitVec.ofInt 64 n).toNat % 24 : Nat) : Int) by omega]; exact wrap_i64 (by omega) (by omega))) rfl rfl rfl ?_
  refine JL.loud rfl (l_callF e41 rfl rfl (new_good E N _ (by omega) (by omega)) ?_)
  rintro _ _ ⟨d, rfl, rfl⟩
  refine JL.step (y_move rfl) rfl rfl rfl (JL.step (y_extract rfl rfl) rfl rfl rfl (JL.step (y_extract rfl rfl) rfl rfl rfl (JL.step (y_assign rfl) rfl rfl rfl (JL.step (y_assign rfl) rfl rfl rfl ?_))))
  refine JL.nil ?_
  refine JE.then_normal ?_
  refine J.seq ?_
  refine J.seq ?_
  refine J.region ?_
  refine JL.step (y_move rfl) rfl rfl rfl (JL.step (y_neq rfl rfl) rfl rfl rfl ?_)
  refine JL.nil ?_
  refine JE.then_normal ?_
  refine J.cond_f rfl (by (first | rfl | assumption | (simp; done) | (simp; omega))) ?_
  refine J.skip ?_
  refine JE.then_normal ?_
  refine J.seq ?_
  refine J.region ?_
  refine JL.step (y_move rfl) rfl rfl rfl ?_
  refine JL.loud rfl (l_callF e42 rfl rfl (Fc.on (Split.cons (by (repeat (first | exact Pick.head | apply Pick.tail | apply Pick.app))) Split.nil) (hfmt d _)) ?_)
  rintro _ _ ⟨st, rfl, rfl⟩
  refine JL.step (y_move rfl) rfl rfl rfl (JL.step (y_extract rfl rfl) rfl rfl rfl (JL.step (y_extract rfl rfl) rfl rfl rfl (JL.step (y_assign rfl) rfl rfl rfl (JL.step (y_assign rfl) rfl rfl rfl ?_))))
  refine JL.nil ?_
  refine JE.then_normal ?_
  refine J.seq ?_
  refine J.seq ?_
  refine J.region ?_
  refine JL.step (y_move rfl) rfl rfl rfl (JL.step (y_neq rfl rfl) rfl rfl rfl ?_)
  refine JL.nil ?_
  refine JE.then_normal ?_
  refine J.cond_f rfl (by (first | rfl | assumption | (simp; done) | (simp; omega))) ?_
  refine J.skip ?_
  refine JE.then_normal ?_
  refine J.seq ?_
  refine J.region ?_
  refine JL.step (y_move rfl) rfl rfl rfl (JL.step (y_move rfl) rfl rfl rfl (JL.step (y_assign rfl) rfl rfl rfl (JL.step (y_assign rfl) rfl rfl rfl ?_)))
  refine JL.nil ?_
  refine JE.then_normal ?_
  refine J.ret ?_
  refine JE.ret2 (.inl rfl) rfl rfl (by (first | exact RV.tmp rfl | exact RV.cell1 hT rfl rfl rfl (by (exact Rd1.row (by (repeat (first | exact Pick.head | apply Pick.tail | apply Pick.app))) (by rfl))) | exact RV.cellN hT rfl rfl rfl (by (first | exact RdN.rowAll (by (repeat (first | exact Pick.head | apply Pick.tail | apply Pick.app))) | exact RdN.own (by (repeat (first | exact Pick.head | apply Pick.tail | apply Pick.app))))) (by (first | rfl | assumption | (simp; done) | omega)))) (by (first | exact RV.tmp rfl | exact RV.cell1 hT rfl rfl rfl (by (exact Rd1.row (by (repeat (first | exact Pick.head | apply Pick.tail | apply Pick.app))) (by rfl))) | exact RV.cellN hT rfl rfl rfl (by (first | exact RdN.rowAll (by (repeat (first | exact Pick.head | apply Pick.tail | apply Pick.app))) | exact RdN.own (by (repeat (first | exact Pick.head | apply Pick.tail | apply Pick.app))))) (by (first | rfl | assumption | (simp; done) | omega)))) ?_
  exact ⟨d, st, rfl, rfl⟩
theorem wakes12_spec (l : List HProp) : Fc prog E 11 [].toArray l (fun v l' => v = .bool true ∧ l' = l) := by
  refine Fc.eqs ?_
  obtain ⟨hL0, hl0⟩ := lh_format (n := storeN 0) (storeN_le 0).1 (by have := (storeN_le 0).2; omega)
  obtain ⟨D0, hD0⟩ : ∃ D0, (Dk.new (storeN 0)).formatted = D0 := ⟨_, rfl⟩
  rw [hD0] at hL0 hl0
  have hsl : 32 ≤ D0.slots := by
    have : storeN 0 = 64 := rfl
    unfold Dk.slots Dk.half
    omega
  have hx : Small [120] := ⟨fun x h => by rw [List.mem_singleton] at h; omega, by decide⟩
  obtain ⟨D1, eA, hL1, hl1⟩ := hL0.append hx (by show 0 + needN 1 ≤ _; have : needN 1 = 2 := rfl; omega)
  have capp : ∀ lg st d q c l, InL l q 1 c (ints .u8 [120]) → Fc prog E 19 [.pointer (some ⟨lg, 0, none⟩), .slice q 1 c].toArray (logm lg st lg0 :: row st 90 (scells sb0 d) :: disk d D0 :: l) (fun v l' => v = .int .i64 0 ∧ l' = logm lg st ⟨[], [[120]], 2, false⟩ :: row st 90 (scells sb0 d) :: disk d D1 :: l) := fun lg st d q c l hi => by
    have z := lappend_spec E lg st d lg0 sb0 D0 l sb0_hash hL0.holds.fits.two [120] q c 1 rfl hx (by rw [hL0.holds.none]; decide) (by decide) hi
    rw [eA] at z
    exact z
  refine Fc.of_body (c := ?codeC) Try.func11 ?hb Try.ntmps11 ?hl ?_
  case hb => exact rfl
  case hl => exact rfl
  refine J.seq ?_
  refine J.region ?_
  refine JL.step (y_assign rfl) rfl rfl rfl ?_
  refine JL.nil ?_
  refine JE.then_normal ?_
  refine J.seq ?_
  refine J.region ?_
  refine JL.loud rfl (l_callF e12 rfl rfl (store_spec E 0 _) ?_)
  rintro _ _ ⟨d, st, rfl, rfl⟩
  refine JL.step (y_move rfl) rfl rfl rfl (JL.step (y_extract rfl rfl) rfl rfl rfl (JL.step (y_extract rfl rfl) rfl rfl rfl (JL.step (y_assign rfl) rfl rfl rfl (JL.step (y_assign rfl) rfl rfl rfl ?_))))
  refine JL.nil ?_
  refine JE.then_normal ?_
  refine J.seq ?_
  refine J.seq ?_
  refine J.region ?_
  rw [hD0]
  refine JL.step (y_move rfl) rfl rfl rfl (JL.step (y_ptr_eq_nil hT rfl rfl rfl rfl) rfl rfl rfl ?_)
  refine JL.nil ?_
  refine JE.then_normal ?_
  refine J.cond_f rfl (by (first | rfl | assumption | (simp; done) | (simp; omega))) ?_
  refine J.skip ?_
  refine JE.then_normal ?_
  refine J.seq ?_
  refine J.region ?_
  refine JL.step (y_move rfl) rfl rfl rfl ?_
  refine JL.loud rfl (l_callF e13 rfl rfl (Fc.on (Split.cons (by (repeat (first | exact Pick.head | apply Pick.tail | apply Pick.app))) (Split.cons (by (repeat (first | exact Pick.head | apply Pick.tail | apply Pick.app))) Split.nil)) (lopen_lh E st d sb0 D0 lg0 _ hL0)) ?_)
  rintro _ _ ⟨lg, rfl, rfl⟩
  refine JL.step (y_move rfl) rfl rfl rfl (JL.step (y_extract rfl rfl) rfl rfl rfl (JL.step (y_extract rfl rfl) rfl rfl rfl (JL.step (y_assign rfl) rfl rfl rfl (JL.step (y_assign rfl) rfl rfl rfl ?_))))
  refine JL.nil ?_
  refine JE.then_normal ?_
  refine J.seq ?_
  refine J.seq ?_
  refine J.region ?_
  refine JL.step (y_move rfl) rfl rfl rfl (JL.step (y_neq rfl rfl) rfl rfl rfl (JL.step (y_move rfl) rfl rfl rfl ?_))
  all_goals (first | (refine JL.gsplit_dec rfl rfl rfl (fun h => ?_) (fun h => ?_) <;> try (first | (exfalso; omega) | exact absurd rfl h)) | (refine JL.gsplit rfl rfl rfl (fun h => ?_) (fun h => ?_) <;> try (first | cases h | (exfalso; simp at h; done))) | skip)
  all_goals (first | refine JL.gskip rfl rfl rfl rfl rfl rfl ?_ | refine JL.gskipU rfl rfl rfl rfl rfl ?_ | refine JL.gstep rfl rfl rfl (y_move rfl) rfl rfl ?_)
  all_goals (first | refine JL.gskip rfl rfl rfl rfl rfl rfl ?_ | refine JL.gskipU rfl rfl rfl rfl rfl ?_ | refine JL.gstep rfl rfl rfl (y_ptr_eq_nil hT rfl rfl rfl rfl) rfl rfl ?_)
  all_goals (refine JL.step (y_pick rfl rfl rfl) rfl rfl rfl ?_)
  all_goals (refine JL.step (y_move rfl) rfl rfl rfl ?_)
  all_goals (first | (refine JL.gsplit_dec rfl rfl rfl (fun h => ?_) (fun h => ?_) <;> try (first | (exfalso; omega) | exact absurd rfl h)) | (refine JL.gsplit rfl rfl rfl (fun h => ?_) (fun h => ?_) <;> try (first | cases h | (exfalso; simp at h; done))) | skip)
  all_goals (first | refine JL.gskip rfl rfl rfl rfl rfl rfl ?_ | refine JL.gskipU rfl rfl rfl rfl rfl ?_ | refine JL.gstep rfl rfl rfl (y_move rfl) rfl rfl ?_)
  all_goals (first | refine JL.gskip rfl rfl rfl rfl rfl rfl ?_ | refine JL.gskipU rfl rfl rfl rfl rfl ?_ | (refine JL.gloud rfl rfl rfl (l_buildSliceP hT rfl rfl rfl rfl rfl rfl rfl (by (first | exact fill_one rfl (by first | assumption | rfl | (simp; done)) | rfl | simp)) rfl (fun b3 => ?_))))
  all_goals (first | refine JL.gskip rfl rfl rfl rfl rfl rfl ?_ | refine JL.gskipU rfl rfl rfl rfl rfl ?_ | (refine JL.gloud rfl rfl rfl (l_convBytes hT rfl rfl rfl rfl rfl (by (repeat (first | exact Pick.head | apply Pick.tail | apply Pick.app))) rfl ?_)))
  all_goals (first | refine JL.gskip rfl rfl rfl rfl rfl rfl ?_ | refine JL.gskipU rfl rfl rfl rfl rfl ?_ | (refine JL.gloud rfl rfl rfl (l_callF e19 rfl rfl (Fc.on (Split.cons (by (repeat (first | exact Pick.head | apply Pick.tail | apply Pick.app))) (Split.cons (by (repeat (first | exact Pick.head | apply Pick.tail | apply Pick.app))) (Split.cons (by (repeat (first | exact Pick.head | apply Pick.tail | apply Pick.app))) Split.nil))) (capp lg st d _ _ _ (InL.ofMrow (by (repeat (first | exact Pick.head | apply Pick.tail | apply Pick.app))) (by decide)))) ?_); rintro _ _ ⟨rfl, rfl⟩))
  all_goals (first | refine JL.gskip rfl rfl rfl rfl rfl rfl ?_ | refine JL.gskipU rfl rfl rfl rfl rfl ?_ | refine JL.gstep rfl rfl rfl (y_neq rfl rfl) rfl rfl ?_)
  all_goals (refine JL.step (y_pick rfl rfl rfl) rfl rfl rfl ?_)
  all_goals refine JL.nil ?_
  all_goals refine JE.then_normal ?_
  all_goals
    refine J.cond_f rfl (by (first | rfl | assumption | (simp; done) | (simp; omega))) ?_
    refine J.skip ?_
  all_goals refine JE.then_normal ?_
  all_goals
    refine J.seq ?_
    refine J.region ?_
    refine JL.step (y_move rfl) rfl rfl rfl ?_
    refine JL.loud rfl (l_callF e13 rfl rfl (Fc.on (Split.cons (by (repeat (first | exact Pick.head | apply Pick.tail | apply Pick.app))) (Split.cons (by (repeat (first | exact Pick.head | apply Pick.tail | apply Pick.app))) Split.nil)) (lopen_lh E st d sb0 D1 ⟨[], [[120]], 2, false⟩ _ hL1)) ?_)
    rintro _ _ ⟨lg2, rfl, rfl⟩
    refine JL.step (y_move rfl) rfl rfl rfl (JL.step (y_extract rfl rfl) rfl rfl rfl (JL.step (y_extract rfl rfl) rfl rfl rfl (JL.step (y_assign rfl) rfl rfl rfl (JL.step (y_assign rfl) rfl rfl rfl ?_))))
    refine JL.nil ?_
    refine JE.then_normal ?_
    refine J.seq ?_
    refine J.region ?_
    refine JL.step (y_move rfl) rfl rfl rfl (JL.step (y_eql rfl rfl) rfl rfl rfl (JL.step (y_move rfl) rfl rfl rfl ?_))
    all_goals (first | (refine JL.gsplit_dec rfl rfl rfl (fun h => ?_) (fun h => ?_) <;> try (first | (exfalso; omega) | exact absurd rfl h)) | (refine JL.gsplit rfl rfl rfl (fun h => ?_) (fun h => ?_) <;> try (first | cases h | (exfalso; simp at h; done))) | skip)
    all_goals (first | refine JL.gskip rfl rfl rfl rfl rfl rfl ?_ | refine JL.gskipU rfl rfl rfl rfl rfl ?_ | refine JL.gstep rfl rfl rfl (y_move rfl) rfl rfl ?_)
    all_goals (first | refine JL.gskip rfl rfl rfl rfl rfl rfl ?_ | refine JL.gskipU rfl rfl rfl rfl rfl ?_ | refine JL.gstep rfl rfl rfl (y_ptr_ne_nil hT rfl rfl rfl rfl) rfl rfl ?_)
    all_goals (refine JL.step (y_pick rfl rfl rfl) rfl rfl rfl ?_)
    all_goals (refine JL.step (y_move rfl) rfl rfl rfl ?_)
    all_goals (first | (refine JL.gsplit_dec rfl rfl rfl (fun h => ?_) (fun h => ?_) <;> try (first | (exfalso; omega) | exact absurd rfl h)) | (refine JL.gsplit rfl rfl rfl (fun h => ?_) (fun h => ?_) <;> try (first | cases h | (exfalso; simp at h; done))) | skip)
    all_goals (first | refine JL.gskip rfl rfl rfl rfl rfl rfl ?_ | refine JL.gskipU rfl rfl rfl rfl rfl ?_ | refine JL.gstep rfl rfl rfl (y_move rfl) rfl rfl ?_)
    all_goals (first | refine JL.gskip rfl rfl rfl rfl rfl rfl ?_ | refine JL.gskipU rfl rfl rfl rfl rfl ?_ | (refine JL.gloud rfl rfl rfl (l_callF e24 rfl rfl (Fc.on (Split.cons (by (repeat (first | exact Pick.head | apply Pick.tail | apply Pick.app))) Split.nil) (ltxs_spec E lg2 st ⟨[], [[120]], 2, false⟩ _)) ?_); rintro _ _ ⟨ta, tc, tvals, rfl, htv, rfl⟩))
    all_goals (first | refine JL.gskip rfl rfl rfl rfl rfl rfl ?_ | refine JL.gskipU rfl rfl rfl rfl rfl ?_ | refine JL.gstep rfl rfl rfl (y_len_slice hT rfl rfl rfl) rfl rfl ?_)
    all_goals (first | refine JL.gskip rfl rfl rfl rfl rfl rfl ?_ | refine JL.gskipU rfl rfl rfl rfl rfl ?_ | refine JL.gstep rfl rfl rfl (y_eql rfl rfl) rfl rfl ?_)
    all_goals (refine JL.step (y_pick rfl rfl rfl) rfl rfl rfl ?_)
    all_goals (refine JL.step (y_move rfl) rfl rfl rfl ?_)
    all_goals (first | (refine JL.gsplit_dec rfl rfl rfl (fun h => ?_) (fun h => ?_) <;> try (first | (exfalso; omega) | exact absurd rfl h)) | (refine JL.gsplit rfl rfl rfl (fun h => ?_) (fun h => ?_) <;> try (first | cases h | (exfalso; simp at h; done))) | skip)
    all_goals (first | refine JL.gskip rfl rfl rfl rfl rfl rfl ?_ | refine JL.gskipU rfl rfl rfl rfl rfl ?_ | refine JL.gstep rfl rfl rfl (y_move rfl) rfl rfl ?_)
    all_goals (first | refine JL.gskip rfl rfl rfl rfl rfl rfl ?_ | refine JL.gskipU rfl rfl rfl rfl rfl ?_ | (refine JL.gloud rfl rfl rfl (l_callF e23 rfl rfl (Fc.on (Split.cons (by (repeat (first | exact Pick.head | apply Pick.tail | apply Pick.app))) Split.nil) (lused_spec E lg2 st ⟨[], [[120]], 2, false⟩ _)) ?_); rintro _ _ ⟨rfl, rfl⟩))
    all_goals (first | refine JL.gskip rfl rfl rfl rfl rfl rfl ?_ | refine JL.gskipU rfl rfl rfl rfl rfl ?_ | refine JL.gstep rfl rfl rfl (y_eql rfl rfl) rfl rfl ?_)
    all_goals (refine JL.step (y_pick rfl rfl rfl) rfl rfl rfl ?_)
    all_goals (refine JL.step (y_move rfl) rfl rfl rfl ?_)
    all_goals (first | (refine JL.gsplit_dec rfl rfl rfl (fun h => ?_) (fun h => ?_) <;> try (first | (exfalso; omega) | exact absurd rfl h)) | (refine JL.gsplit rfl rfl rfl (fun h => ?_) (fun h => ?_) <;> try (first | cases h | (exfalso; simp at h; done))) | skip)
    all_goals (first | refine JL.gskip rfl rfl rfl rfl rfl rfl ?_ | refine JL.gskipU rfl rfl rfl rfl rfl ?_ | (refine JL.gloud rfl rfl rfl (l_callF e14 rfl rfl (need_spec E 64 (by decide) _) ?_); rintro _ _ ⟨rfl, rfl⟩))
    all_goals (first | refine JL.gskip rfl rfl rfl rfl rfl rfl ?_ | refine JL.gskipU rfl rfl rfl rfl rfl ?_ | refine JL.gstep rfl rfl rfl (y_eql rfl rfl) rfl rfl ?_)
    all_goals (refine JL.step (y_pick rfl rfl rfl) rfl rfl rfl ?_)
    all_goals (refine JL.step (y_assign rfl) rfl rfl rfl ?_)
    all_goals refine JL.nil ?_
    all_goals refine JE.then_normal ?_
    all_goals
      refine J.ret ?_
      refine JE.ret1 (.inl rfl) rfl rfl (by (first | exact RV.tmp rfl | exact RV.cell1 hT rfl rfl rfl (by (exact Rd1.row (by (repeat (first | exact Pick.head | apply Pick.tail | apply Pick.app))) (by rfl))) | exact RV.cellN hT rfl rfl rfl (by (first | exact RdN.rowAll (by (repeat (first | exact Pick.head | apply Pick.tail | apply Pick.app))) | exact RdN.own (by (repeat (first | exact Pick.head | apply Pick.tail | apply Pick.app))))) (by (first | rfl | assumption | (simp; done) | omega)))) ?_
      exact ⟨rfl, fun w q => q.sup (by (repeat (first | exact Sup.refl | apply Sup.cons (by (repeat (first | exact Pick.head | apply Pick.tail | apply Pick.app))) | apply Sup.app | apply Sup.skip | apply Sup.skips)))⟩
end Go.Proofs.Ytmgagkpokmaefaa
namespace Go.Proofs.Ytmgagkpokmaefaa
open Go Go.SL
/-! A checkpoint of a log that a disk holds. -/
theorem taken_slots {S : Sb} {D D' : Dk} {bs : List Int} (hT : Taken S D bs D') (h2 : 2 ≤ D.safe.length) (hp : S.place = 0 ∨ S.place = 1) (hl : bs.length ≤ 64 * D.half) {i : Nat} (hi : i < D.slots) : (slotsL D').getD i [] = (slotsL D).getD i [] := by
  have hh := half_eq hT.len
  have hb : D'.base = D.base := by unfold Dk.base; rw [hh]
  have hs : D'.slots = D.slots := by unfold Dk.slots; rw [hh, hT.len]
  have hbs := base_slots D h2
  have h5 : (nextS S bs).place * (D.half : Int) ≤ D.half := by
    have e1 : (nextS S bs).place = 1 - S.place := rfl
    rw [e1]
    rcases hp with e | e <;> rw [e]
    · rw [show (1 - 0 : Int) = 1 by rfl, Int.one_mul]; omega
    · rw [show (1 - 1 : Int) = 0 by rfl, Int.zero_mul]; omega
  rw [slotsL_find (by rw [hs]; exact hi), slotsL_find hi, hb, hT.find _ (by omega) (by omega), if_neg (by unfold Dk.base; omega), if_neg (by unfold Dk.base; omega)]
theorem LH.check {S : Sb} {D : Dk} {L : Lg} (h : LH S D L) {state : List Int} (hs : Small state) (hl : state.length ≤ 64 * D.half) (ht : S.turn.toNat + 1 < 18446744073709551616) :
    ∃ D', ckL L S D state = (⟨state, [], 0, false⟩, nextS S state, D', 0) ∧ LH (nextS S state) D' ⟨state, [], 0, false⟩ ∧ D'.safe.length = D.safe.length := by
  have h2 := h.holds.fits.two
  have hp := h.holds.fits.place
  obtain ⟨D', e, hT⟩ := takeS_up h.holds.up h2 hp hl
  have hB := h.byt.takeS S hs.bytes
  rw [e] at hB
  have hsl : D'.slots = D.slots := by unfold Dk.slots Dk.half; rw [hT.len]
  have htn := next_turn (bs := state) ht
  have hw := h.whole
  refine ⟨D', ?_, ⟨holds_taken h.holds hl ht hT, hB, rfl, rfl, Nat.zero_le _, hs, fun tx h => (by simp at h), fun k tx h => (by simp at h), fun i hi h1 => ?_⟩, hT.len⟩
  · unfold ckL
    rw [if_neg (by rw [hw]; simp), e, if_pos rfl]
    cases L
    simp only at hw
    rw [hw]
  · rw [hsl] at hi
    rw [taken_slots hT h2 hp hl hi] at h1 ⊢
    have := (h.old i hi h1).1
    rw [htn]
    exact ⟨by omega, fun _ => by omega⟩
theorem ckL_long {S : Sb} {D : Dk} {L : Lg} (h : LH S D L) {state : List Int} (hl : 64 * D.half < state.length) : ckL L S D state = (L, S, D, 3) := by
  have e : takeS S D state = (S, D, 3) := by unfold takeS; rw [if_pos hl]
  unfold ckL
  rw [if_neg (by rw [h.whole]; simp), e, if_neg (show ¬ (3 : Int) = 0 by decide), if_pos rfl]
theorem appL_full {S : Sb} {D : Dk} {L : Lg} (h : LH S D L) {tx : List Int} (hl : ¬ L.used + needN tx.length ≤ D.slots) : appL L S D tx = (L, D, 6) := by
  rw [appL, if_neg (by rw [h.whole]; simp), if_neg (fun e => hl ((roomB_iff h _).1 e))]
/-- Empty transactions. -/
def lgE (i : Nat) : Lg := ⟨[], List.replicate i [], i, false⟩
theorem lgE_next (i : Nat) : ({ lgE i with txs := (lgE i).txs ++ [[]], used := (lgE i).used + needN 0 } : Lg) = lgE (i + 1) := by
  unfold lgE
  rw [List.replicate_succ']
  rfl
theorem small_nil : Small [] := ⟨Bytes.nil, by decide⟩
theorem LH.empty {D : Dk} {i : Nat} (h : LH sb0 D (lgE i)) (hi : i < D.slots) : ∃ D', appL (lgE i) sb0 D [] = (lgE (i + 1), D', 0) ∧ LH sb0 D' (lgE (i + 1)) ∧ D'.safe.length = D.safe.length := by
  obtain ⟨D', e, hL, hl⟩ := h.append small_nil (by show i + needN 0 ≤ _; have : needN 0 = 1 := rfl; omega)
  have e2 : ({ lgE i with txs := (lgE i).txs ++ [[]], used := (lgE i).used + needN ([] : List Int).length } : Lg) = lgE (i + 1) := lgE_next i
  rw [e2] at e hL
  exact ⟨D', e, hL, hl⟩
end Go.Proofs.Ytmgagkpokmaefaa
namespace Go.Proofs.Ytmgagkpokmaefaa
open Go Go.SL
attribute [local irreducible] J JL JE JM LS Y Fc RV Code.wp wpList Code.wpIn wpListIn
attribute [local irreducible] Yc
variable (E : World)
end Go.Proofs.Ytmgagkpokmaefaa
namespace Go.Proofs.Ytmgagkpokmaefaa
open Go Go.SL
attribute [local irreducible] J JL JE JM LS Y Fc RV Code.wp wpList Code.wpIn wpListIn
attribute [local irreducible] Yc
variable (E : World)
theorem append_lh (lg st d : Nat) {S : Sb} {D D' : Dk} {L L' : Lg} {e : Int} (l : List HProp) (h : LH S D L) (tx : List Int) (p : Option Addr) (cap n : Nat) (hn : tx.length = n) (hsm : Small tx) (hfew : L.txs.length < 512) (he : appL L S D tx = (L', D', e)) (hin : InL l p n cap (ints .u8 tx)) :
    Fc prog E 19 [.pointer (some ⟨lg, 0, none⟩), .slice p n cap].toArray (logm lg st L :: row st 90 (scells S d) :: disk d D :: l) (fun v l' => v = .int .i64 e ∧ l' = logm lg st L' :: row st 90 (scells S d) :: disk d D' :: l) := by
  have q := lappend_spec E lg st d L S D l h.holds.fits.hash h.holds.fits.two tx p cap n hn hsm (by rw [h.holds.none]; decide) hfew hin
  rwa [he] at q
theorem check_lh (lg st d : Nat) {S S' : Sb} {D D' : Dk} {L L' : Lg} {e : Int} (l : List HProp) (h : LH S D L) (state : List Int) (p : Option Addr) (cap n : Nat) (hn : state.length = n) (hsm : Small state) (he : ckL L S D state = (L', S', D', e)) (hin : InL l p n cap (ints .u8 state)) :
    Fc prog E 18 [.pointer (some ⟨lg, 0, none⟩), .slice p n cap].toArray (logm lg st L :: row st 90 (scells S d) :: disk d D :: l) (fun v l' => v = .int .i64 e ∧ l' = logm lg st L' :: row st 90 (scells S' d) :: disk d D' :: l) := by
  subst hn
  have q := lcheck_spec E lg st d L S D l h.holds.fits.hash h.holds.fits.two h.holds.fits.place (by rw [h.holds.none]; decide) state p cap hsm hin
  rwa [he] at q
/-- An append, whether there is room or not. -/
theorem LH.put {S : Sb} {D : Dk} {L : Lg} (h : LH S D L) {tx : List Int} (hs : Small tx) : ∃ L' D' e, appL L S D tx = (L', D', e) ∧ LH S D' L' ∧ D'.safe.length = D.safe.length ∧
    ((L.used + needN tx.length ≤ D.slots ∧ e = 0 ∧ L' = { L with txs := L.txs ++ [tx], used := L.used + needN tx.length }) ∨ (¬ L.used + needN tx.length ≤ D.slots ∧ e = 6 ∧ L' = L ∧ D' = D)) := by
  by_cases hroom : L.used + needN tx.length ≤ D.slots
  · obtain ⟨D', e, hL, hl⟩ := h.append hs hroom
    exact ⟨_, D', 0, e, hL, hl, .inl ⟨hroom, rfl, rfl⟩⟩
  · exact ⟨L, D, 6, appL_full h hroom, h, rfl, .inr ⟨hroom, rfl, rfl, rfl⟩⟩
end Go.Proofs.Ytmgagkpokmaefaa
namespace Go.Proofs.Ytmgagkpokmaefaa
open Go Go.SL
/-! What a log tells. -/
/-- Slices of bytes that something keeps. -/
structure TxB (K : HProp) (vals : List Value) (txs : List (List Int)) : Prop where
  len : vals.length = txs.length
  get : ∀ (i : Nat) b, txs[i]? = some b → ∃ q c, vals[i]? = some (.slice q b.length c) ∧ InL [K] q b.length c (ints .u8 b)
theorem owns_pick {vals : List Value} {txs : List (List Int)} {r : List HProp} (hl : vals.length = txs.length) : ∀ (i : Nat) b, txs[i]? = some b → ∃ v, vals[i]? = some v ∧ ∃ r', Pick (owns vals txs ++ r) (own 5 1 v b.length (ints .u8 b)) r' := by
  induction txs generalizing vals with
  | nil => exact fun i b h => by simp at h
  | cons t ts ih =>
    intro i b h
    cases vals with
    | nil => simp at hl
    | cons v vs =>
      cases i with
      | zero =>
        simp at h
        subst h
        exact ⟨v, rfl, _, Pick.head⟩
      | succ i =>
        obtain ⟨u, h1, r', h2⟩ := ih (by simpa using hl) i b (by simpa using h)
        exact ⟨u, by simpa using h1, _, Pick.tail h2⟩
theorem owns_inl {E w : World} {vals : List Value} {txs : List (List Int)} {r : List HProp} (hl : vals.length = txs.length) (s : Sat E (stars (owns vals txs ++ r)) w) : ∀ (i : Nat) b, txs[i]? = some b → ∃ q c, vals[i]? = some (.slice q b.length c) ∧ InL (owns vals txs ++ r) q b.length c (ints .u8 b) := fun i b h => by
  obtain ⟨v, h1, r', hp⟩ := owns_pick (r := r) hl i b h
  obtain ⟨q, c, rfl, _⟩ := Sat.row_of_own s hp
  have og : OwnAt q b.length c (ints .u8 b) := Sat.own_at (s.pick hp)
  exact ⟨q, c, h1, og.inl hp⟩
attribute [local irreducible] J JL JE JM LS Y Fc RV Code.wp wpList Code.wpIn wpListIn
attribute [local irreducible] Yc
variable (E : World)
theorem lists_spec (p q : Option Addr) (n m c1 c2 : Nat) (va vb : List Value) (ta tb : List (List Int)) (l : List HProp) (hn : ta.length = n) (hm : tb.length = m) (hb : n ≤ 1000000000) (hA : InL l p n c1 va) (hB : InL l q m c2 vb) (sa : ∀ b ∈ ta, Bytes b) (sb : ∀ b ∈ tb, Bytes b)
    (gA : ∀ (i : Nat) b, ta[i]? = some b → ∃ q c, va[i]? = some (.slice q b.length c) ∧ InL l q b.length c (ints .u8 b)) (gB : ∀ (i : Nat) b, tb[i]? = some b → ∃ q c, vb[i]? = some (.slice q b.length c) ∧ InL l q b.length c (ints .u8 b)) :
    Fc prog E 58 [.slice p n c1, .slice q m c2].toArray l (fun v l' => v = .bool (decide (ta = tb)) ∧ l' = l) := by
  refine Fc.of_body (c := ?codeC) Try.func58 ?hb Try.ntmps58 ?hl ?_
  case hb => exact rfl
  case hl => exact rfl
  refine J.seq ?_
  refine J.region ?_
  refine JL.step (y_assign rfl) rfl rfl rfl ?_
  refine JL.nil ?_
  refine JE.then_normal ?_
  refine J.seq ?_
  refine J.seq ?_
  refine J.region ?_
  refine JL.step (y_move rfl) rfl rfl rfl (JL.step (y_len_slice hT rfl rfl rfl) rfl rfl rfl (JL.step (y_move rfl) rfl rfl rfl (JL.step (y_len_slice hT rfl rfl rfl) rfl rfl rfl (JL.step (y_neq rfl rfl) rfl rfl rfl ?_))))
  refine JL.nil ?_
  refine JE.then_normal ?_
  first | apply J.cond_dec rfl | apply J.cond rfl
  case' ht =>
    intro h
    try (first | (exfalso; omega) | (cases h; done) | (exfalso; simp at h; done) | subst h)
    all_goals
      refine J.seq ?_
      refine J.region ?_
      refine JL.step (y_assign rfl) rfl rfl rfl ?_
      refine JL.nil ?_
      refine JE.then_normal ?_
      refine J.ret ?_
      refine JE.then_ret ?_
      refine JE.ret1 (.inl rfl) rfl rfl (by (first | exact RV.tmp rfl | exact RV.cell1 hT rfl rfl rfl (by (exact Rd1.row (by (repeat (first | exact Pick.head | apply Pick.tail | apply Pick.app))) (by rfl))) | exact RV.cellN hT rfl rfl rfl (by (first | exact RdN.rowAll (by (repeat (first | exact Pick.head | apply Pick.tail | apply Pick.app))) | exact RdN.own (by (repeat (first | exact Pick.head | apply Pick.tail | apply Pick.app))))) (by (first | rfl | assumption | (simp; done) | omega)))) ?_
      refine ⟨?_, rfl⟩
      first
        | exact congrArg Value.bool (decide_eq_false (fun e => hab (by rw [e, hb'] at ha; exact (Option.some.inj ha).symm))).symm
        | exact congrArg Value.bool (decide_eq_true (by
            rw [show j = n by omega] at hjt
            rwa [List.take_of_length_le (by omega), List.take_of_length_le (by omega)] at hjt)).symm
        | exact congrArg Value.bool (decide_eq_false (fun e => by rw [e] at hn; omega)).symm
  case' hf =>
    intro h
    try (first | (exfalso; omega) | (cases h; done) | (exfalso; simp at h; done) | subst h)
    all_goals
      refine J.skip ?_
  all_goals refine JE.then_normal ?_
  all_goals
    refine J.seq ?_
    refine J.seq ?_
    refine J.region ?_
    refine JL.step (y_move rfl) rfl rfl rfl (JL.step (y_len_slice hT rfl rfl rfl) rfl rfl rfl (JL.step (y_move rfl) rfl rfl rfl ?_))
    refine JL.nil ?_
    refine JE.then_normal ?_
    refine J.block ?_
    refine J.loop (α := Nat) (fun j => j ≤ n ∧ ta.take j = tb.take j) (fun j => [(0, .slice p n c1), (1, .slice q m c2), (12, .int .i64 n), (13, .int .i64 j)]) (fun _ => l) (fun j => n - j) 0 ⟨Nat.zero_le _, rfl⟩ ⟨rfl, rfl, rfl, rfl, trivial⟩ (fun w h => h) ?_
    intro j hj
    obtain ⟨hj, hjt⟩ := hj
    have hnm : n = m := by omega
    refine J.seq ?_
    refine J.region ?_
    refine JL.step (y_lss rfl rfl) rfl rfl rfl ?_
    refine JL.nil ?_
    refine JE.then_normal ?_
    refine J.seq ?_
    first | apply J.cond_dec rfl | apply J.cond rfl
    case' ht =>
      intro h
      try (first | (exfalso; omega) | (cases h; done) | (exfalso; simp at h; done) | subst h)
      all_goals
        refine J.skip ?_
    case' hf =>
      intro h
      try (first | (exfalso; omega) | (cases h; done) | (exfalso; simp at h; done) | subst h)
      all_goals
        refine J.exit ?_
        refine JE.then_exit ?_
        refine JE.then_exit ?_
        refine JE.block_exit ?_
        refine JE.then_normal ?_
        refine J.seq ?_
        refine J.region ?_
        refine JL.step (y_assign rfl) rfl rfl rfl ?_
        refine JL.nil ?_
        refine JE.then_normal ?_
        refine J.ret ?_
        refine JE.ret1 (.inl rfl) rfl rfl (by (first | exact RV.tmp rfl | exact RV.cell1 hT rfl rfl rfl (by (exact Rd1.row (by (repeat (first | exact Pick.head | apply Pick.tail | apply Pick.app))) (by rfl))) | exact RV.cellN hT rfl rfl rfl (by (first | exact RdN.rowAll (by (repeat (first | exact Pick.head | apply Pick.tail | apply Pick.app))) | exact RdN.own (by (repeat (first | exact Pick.head | apply Pick.tail | apply Pick.app))))) (by (first | rfl | assumption | (simp; done) | omega)))) ?_
        refine ⟨?_, rfl⟩
        first
          | exact congrArg Value.bool (decide_eq_false (fun e => hab (by rw [e, hb'] at ha; exact (Option.some.inj ha).symm))).symm
          | exact congrArg Value.bool (decide_eq_true (by
              rw [show j = n by omega] at hjt
              rwa [List.take_of_length_le (by omega), List.take_of_length_le (by omega)] at hjt)).symm
          | exact congrArg Value.bool (decide_eq_false (fun e => by rw [e] at hn; omega)).symm
    all_goals refine JE.then_normal ?_
    all_goals
      refine J.seq ?_
      refine J.block ?_
      refine J.seq ?_
      have hlt : j < n := by omega
      obtain ⟨g1, o1, rfl, hr1⟩ := hA.addr (by omega)
      obtain ⟨g2, o2, rfl, hr2⟩ := hB.addr (by omega)
      obtain ⟨a, ha⟩ : ∃ a, ta[j]? = some a := ⟨_, List.getElem?_eq_getElem (by omega)⟩
      obtain ⟨b, hb'⟩ : ∃ b, tb[j]? = some b := ⟨_, List.getElem?_eq_getElem (by omega)⟩
      obtain ⟨aq, ac, hva, ia⟩ := gA j a ha
      obtain ⟨bq, bc, hvb, ib⟩ := gB j b hb'
      refine J.region ?_
      refine JL.step (y_move rfl) rfl rfl rfl (JL.step (y_assign rfl) rfl rfl rfl ?_)
      refine JL.nil ?_
      refine JE.then_normal ?_
      refine J.seq ?_
      refine J.draw _ _ [(0, .q), (1, .q), (2, .q), (3, .q), (4, .q), (5, .q), (6, .q), (7, .q), (8, .q), (9, .q)] mixed (by kernel_rfl) (Split.nil) ?_
      refine JM.quiet rfl rfl rfl rfl (fun m => y_move rfl) ?_
      refine JM.quiet rfl rfl rfl rfl (fun m => y_move rfl) ?_
      refine JM.quiet rfl rfl rfl rfl (fun m => y_indexAddr_slice hT rfl rfl rfl rfl rfl (by (first | omega | exact Nat.le_of_ble_eq_true rfl | decide | (simp; omega))) (by (first | omega | exact Nat.le_of_ble_eq_true rfl | decide | (simp; omega)))) ?_
      refine JM.quiet rfl rfl rfl rfl (fun m => y_load1 hT rfl rfl rfl (Rd1.elem (hr1 m) hva)) ?_
      refine JM.quiet rfl rfl rfl rfl (fun m => y_move rfl) ?_
      refine JM.quiet rfl rfl rfl rfl (fun m => y_move rfl) ?_
      refine JM.quiet rfl rfl rfl rfl (fun m => y_indexAddr_slice hT rfl rfl rfl rfl rfl (by (first | omega | exact Nat.le_of_ble_eq_true rfl | decide | (simp; omega))) (by (first | omega | exact Nat.le_of_ble_eq_true rfl | decide | (simp; omega)))) ?_
      refine JM.quiet rfl rfl rfl rfl (fun m => y_load1 hT rfl rfl rfl (Rd1.elem (hr2 m) hvb)) ?_
      refine JM.quiet rfl rfl rfl rfl (fun m => y_callF e57 rfl (bequal_spec E aq bq ac bc a.length b.length a b _ rfl rfl (sa a (List.mem_of_getElem? ha)) (sb b (List.mem_of_getElem? hb')) (ia.app m) (ib.app m))) ?_
      refine JM.quiet rfl rfl rfl rfl (fun m => y_not rfl) ?_
      refine JM.nil ?_
      refine JE.then_normal ?_
      first | apply J.cond_dec rfl | apply J.cond rfl
      case' ht =>
        intro h
        try (first | (exfalso; omega) | (cases h; done) | (exfalso; simp at h; done) | subst h)
        all_goals
          have hab : ¬ a = b := by simpa using h
          refine J.seq ?_
          refine J.region ?_
          refine JL.step (y_assign rfl) rfl rfl rfl ?_
          refine JL.nil ?_
          refine JE.then_normal ?_
          refine J.ret ?_
          refine JE.block_ret ?_
          refine JE.then_ret ?_
          refine JE.then_ret ?_
          refine JE.block_ret ?_
          refine JE.then_ret ?_
          refine JE.ret1 (.inl rfl) rfl rfl (by (first | exact RV.tmp rfl | exact RV.cell1 hT rfl rfl rfl (by (exact Rd1.row (by (repeat (first | exact Pick.head | apply Pick.tail | apply Pick.app))) (by rfl))) | exact RV.cellN hT rfl rfl rfl (by (first | exact RdN.rowAll (by (repeat (first | exact Pick.head | apply Pick.tail | apply Pick.app))) | exact RdN.own (by (repeat (first | exact Pick.head | apply Pick.tail | apply Pick.app))))) (by (first | rfl | assumption | (simp; done) | omega)))) ?_
          refine ⟨?_, rfl⟩
          first
            | exact congrArg Value.bool (decide_eq_false (fun e => hab (by rw [e, hb'] at ha; exact (Option.some.inj ha).symm))).symm
            | exact congrArg Value.bool (decide_eq_true (by
                rw [show j = n by omega] at hjt
                rwa [List.take_of_length_le (by omega), List.take_of_length_le (by omega)] at hjt)).symm
            | exact congrArg Value.bool (decide_eq_false (fun e => by rw [e] at hn; omega)).symm
      case' hf =>
        intro h
        try (first | (exfalso; omega) | (cases h; done) | (exfalso; simp at h; done) | subst h)
        all_goals
          have hab : a = b := by simpa using h
          refine J.skip ?_
      all_goals refine JE.block_normal ?_
      all_goals refine JE.then_normal ?_
      all_goals
        refine J.region ?_
        refine JL.step (y_add rfl rfl (by (first | exact wrap_i64 (by omega) (by omega) | rfl))) rfl rfl rfl ?_
        refine JL.step (y_move rfl) rfl rfl rfl ?_
        refine JL.nil ?_
    all_goals
      exact JE.round (s := j) (j + 1) ⟨by omega, by rw [List.take_add_one, List.take_add_one, ha, hb', hjt, hab]⟩ ⟨rfl, rfl, rfl, rfl, trivial⟩ (fun w q => q) (by omega)
end Go.Proofs.Ytmgagkpokmaefaa
namespace Go.Proofs.Ytmgagkpokmaefaa
open Go Go.SL
attribute [local irreducible] J JL JE JM LS Y Fc RV Code.wp wpList Code.wpIn wpListIn
attribute [local irreducible] Yc
variable (E : World)
section
variable (lg st : Nat) (L : Lg) (l : List HProp)
end
end Go.Proofs.Ytmgagkpokmaefaa
namespace Go.Proofs.Ytmgagkpokmaefaa
open Go Go.SL
/-! What is done to a log. -/
structure Op12 where
  kind : Int
  p : Option Addr
  c : Nat
  bs : List Int
def opE (o : Op12) : List Value := [.int .i64 o.kind, .slice o.p o.bs.length o.c]
theorem opE_one (o : Op12) : ∀ u ∈ opE o, u.oneCell' = true := by
  intro u hu
  simp only [opE, List.mem_cons, List.not_mem_nil, or_false] at hu
  rcases hu with rfl | rfl <;> rfl
structure Op12.Ok (o : Op12) (l : List HProp) : Prop where
  bytes : Bytes o.bs
  inl : InL l o.p o.bs.length o.c (ints .u8 o.bs)
def Op12.k (o : Op12) : Nat := (BitVec.ofInt 64 o.kind).toNat % 3
def Op12.b (o : Op12) : List Int := o.bs.take 2500
theorem Op12.Ok.small {o : Op12} {l : List HProp} (h : o.Ok l) : Small o.b := ⟨h.bytes.take _, by unfold Op12.b; rw [List.length_take]; omega⟩
theorem Op12.b_len (o : Op12) : o.b.length = min o.bs.length 2500 := by rw [Op12.b, List.length_take]; omega
theorem Op12.Ok.binl {o : Op12} {l : List HProp} (h : o.Ok l) : InL l o.p o.b.length o.c (ints .u8 o.b) := by
  have q := h.inl.cutTo o.b.length 2500 (by rw [o.b_len]; omega)
  rwa [show (ints .u8 o.bs).take 2500 = ints .u8 o.b by unfold Op12.b; simp [ints, List.map_take]] at q
attribute [local irreducible] J JL JE JM LS Y Fc RV Code.wp wpList Code.wpIn wpListIn
attribute [local irreducible] Yc
variable (E : World)
theorem kind12_spec (o : Op12) (l : List HProp) : Fc prog E 33 [.agg (opE o).toArray].toArray l (fun v l' => v = .int .i64 (o.k : Int) ∧ l' = l) := by
  refine Fc.eqs ?_
  have hk : o.k = (BitVec.ofInt 64 o.kind).toNat % 3 := rfl
  refine Fc.of_body (c := ?codeC) Try.func33 ?hb Try.ntmps33 ?hl ?_
  case hb => exact rfl
  case hl => exact rfl
  refine J.seq ?_
  refine J.region ?_
  refine JL.loud rfl (l_box rfl (by (first | rfl | simp)) rfl (fun b1 => ?_))
  refine JL.step (y_assign rfl) rfl rfl rfl ?_
  refine JL.nil ?_
  refine JE.then_normal ?_
  refine J.seq ?_
  refine J.region ?_
  refine JL.step (y_fieldAddr hT rfl rfl rfl rfl rfl rfl) rfl rfl rfl ?_
  refine JL.step (y_load1 hT rfl rfl rfl (by (exact Rd1.row (by (repeat (first | exact Pick.head | apply Pick.tail | apply Pick.app))) (by rfl)))) rfl rfl rfl ?_
  refine JL.step (y_convToQ hT rfl rfl rfl rfl) rfl rfl rfl ?_
  refine JL.step (y_rem (m := (o.k : Int)) rfl rfl (by decide) (by rw [Int.tmod_eq_emod_of_nonneg (by omega)]; omega)) rfl rfl rfl ?_
  refine JL.step (y_conv (m := (o.k : Int)) hT rfl rfl rfl rfl (wrap_i64 (by omega) (by omega))) rfl rfl rfl ?_
  refine JL.step (y_assign rfl) rfl rfl rfl ?_
  refine JL.nil ?_
  refine JE.then_normal ?_
  refine J.ret ?_
  refine JE.ret1 (.inl rfl) rfl rfl (by (first | exact RV.tmp rfl | exact RV.cell1 hT rfl rfl rfl (by (exact Rd1.row (by (repeat (first | exact Pick.head | apply Pick.tail | apply Pick.app))) (by rfl))) | exact RV.cellN hT rfl rfl rfl (by (first | exact RdN.rowAll (by (repeat (first | exact Pick.head | apply Pick.tail | apply Pick.app))) | exact RdN.own (by (repeat (first | exact Pick.head | apply Pick.tail | apply Pick.app))))) (by (first | rfl | assumption | (simp; done) | omega)))) ?_
  exact ⟨rfl, fun w q => q.sup (by (repeat (first | exact Sup.refl | apply Sup.cons (by (repeat (first | exact Pick.head | apply Pick.tail | apply Pick.app))) | apply Sup.app | apply Sup.skip | apply Sup.skips)))⟩
theorem bytes12_spec (o : Op12) (l l0 : List HProp) (ho : o.Ok l0) : Fc prog E 32 [.agg (opE o).toArray].toArray l (fun v l' => v = .slice o.p o.b.length o.c ∧ l' = l) := by
  refine Fc.eqs ?_
  have hb := o.b_len
  refine Fc.of_body (c := ?codeC) Try.func32 ?hb Try.ntmps32 ?hl ?_
  case hb => exact rfl
  case hl => exact rfl
  refine J.seq ?_
  refine J.region ?_
  refine JL.loud rfl (l_box rfl (by (first | rfl | simp)) rfl (fun b1 => ?_))
  refine JL.step (y_assign rfl) rfl rfl rfl ?_
  refine JL.nil ?_
  refine JE.then_normal ?_
  refine J.seq ?_
  refine J.region ?_
  refine JL.step (y_fieldAddr hT rfl rfl rfl rfl rfl rfl) rfl rfl rfl ?_
  refine JL.step (y_load1 hT rfl rfl rfl (by (exact Rd1.row (by (repeat (first | exact Pick.head | apply Pick.tail | apply Pick.app))) (by rfl)))) rfl rfl rfl ?_
  refine JL.step (y_fieldAddr hT rfl rfl rfl rfl rfl rfl) rfl rfl rfl ?_
  refine JL.step (y_load1 hT rfl rfl rfl (by (exact Rd1.row (by (repeat (first | exact Pick.head | apply Pick.tail | apply Pick.app))) (by rfl)))) rfl rfl rfl ?_
  refine JL.step (y_len_slice hT rfl rfl rfl) rfl rfl rfl ?_
  refine JL.step (y_min2 (m := (o.b.length : Int)) rfl rfl (by omega)) rfl rfl rfl ?_
  refine JL.step (y_cutTo hT rfl rfl rfl rfl rfl rfl (show o.b.length ≤ o.bs.length by omega) ho.inl) rfl rfl rfl ?_
  refine JL.step (y_assign rfl) rfl rfl rfl ?_
  refine JL.nil ?_
  refine JE.then_normal ?_
  refine J.ret ?_
  refine JE.ret1 (.inl rfl) rfl rfl (by (first | exact RV.tmp rfl | exact RV.cell1 hT rfl rfl rfl (by (exact Rd1.row (by (repeat (first | exact Pick.head | apply Pick.tail | apply Pick.app))) (by rfl))) | exact RV.cellN hT rfl rfl rfl (by (first | exact RdN.rowAll (by (repeat (first | exact Pick.head | apply Pick.tail | apply Pick.app))) | exact RdN.own (by (repeat (first | exact Pick.head | apply Pick.tail | apply Pick.app))))) (by (first | rfl | assumption | (simp; done) | omega)))) ?_
  exact ⟨rfl, fun w q => q.sup (by (repeat (first | exact Sup.refl | apply Sup.cons (by (repeat (first | exact Pick.head | apply Pick.tail | apply Pick.app))) | apply Sup.app | apply Sup.skip | apply Sup.skips)))⟩
theorem few12_spec (p : Option Addr) (n c : Nat) (cs : List Value) (l l0 : List HProp) (hin : InL l0 p n c cs) : Fc prog E 31 [.slice p n c].toArray l (fun v l' => v = .slice p (min n 30) c ∧ l' = l) := by
  refine Fc.of_body (c := ?codeC) Try.func31 ?hb Try.ntmps31 ?hl ?_
  case hb => exact rfl
  case hl => exact rfl
  refine J.seq ?_
  refine J.region ?_
  refine JL.step (y_assign rfl) rfl rfl rfl ?_
  refine JL.nil ?_
  refine JE.then_normal ?_
  refine J.seq ?_
  refine J.region ?_
  refine JL.step (y_move rfl) rfl rfl rfl (JL.step (y_move rfl) rfl rfl rfl (JL.step (y_len_slice hT rfl rfl rfl) rfl rfl rfl ?_))
  refine JL.step (y_min2 (m := ((min n 30 : Nat) : Int)) rfl rfl (by omega)) rfl rfl rfl ?_
  refine JL.step (y_cutTo hT rfl rfl rfl rfl rfl rfl (show min n 30 ≤ n by omega) hin) rfl rfl rfl ?_
  refine JL.step (y_assign rfl) rfl rfl rfl ?_
  refine JL.nil ?_
  refine JE.then_normal ?_
  refine J.ret ?_
  refine JE.ret1 (.inl rfl) rfl rfl (by (first | exact RV.tmp rfl | exact RV.cell1 hT rfl rfl rfl (by (exact Rd1.row (by (repeat (first | exact Pick.head | apply Pick.tail | apply Pick.app))) (by rfl))) | exact RV.cellN hT rfl rfl rfl (by (first | exact RdN.rowAll (by (repeat (first | exact Pick.head | apply Pick.tail | apply Pick.app))) | exact RdN.own (by (repeat (first | exact Pick.head | apply Pick.tail | apply Pick.app))))) (by (first | rfl | assumption | (simp; done) | omega)))) ?_
  exact ⟨rfl, rfl⟩
/-- A checkpoint, whether it fits or not. -/
theorem LH.take {S : Sb} {D : Dk} {L : Lg} (h : LH S D L) {state : List Int} (hs : Small state) (ht : S.turn.toNat + 1 < 18446744073709551616) : ∃ L' S' D' e, ckL L S D state = (L', S', D', e) ∧ LH S' D' L' ∧ D'.safe.length = D.safe.length ∧
    ((state.length ≤ 64 * D.half ∧ e = 0 ∧ L' = ⟨state, [], 0, false⟩ ∧ S' = nextS S state) ∨ (¬ state.length ≤ 64 * D.half ∧ e = 3 ∧ L' = L ∧ S' = S ∧ D' = D)) := by
  by_cases hl : state.length ≤ 64 * D.half
  · obtain ⟨D', e, hL, hd⟩ := h.check hs hl ht
    exact ⟨_, _, D', 0, e, hL, hd, .inl ⟨hl, rfl, rfl, rfl⟩⟩
  · exact ⟨L, S, D, 3, ckL_long h (by omega), h, rfl, .inr ⟨hl, rfl, rfl, rfl, rfl⟩⟩
end Go.Proofs.Ytmgagkpokmaefaa
namespace Go.Proofs.Ytmgagkpokmaefaa
open Go Go.SL
/-! What is left of a log when the power goes. -/
theorem Byt.crash {D : Dk} (h : Byt D) (bs : List Bool) : Byt (D.crash bs) := ⟨(h.settle (bitAt bs)).safe, (h.settle (bitAt bs)).pend⟩
theorem live_or (lv : Nat → Bool) (l : List (Int × Blk)) (k : Nat) (s : List Blk) (j : Nat) : (liveOn lv l k s).getD j [] = s.getD j [] ∨ ∃ p ∈ l, p.1.toNat = j ∧ (liveOn lv l k s).getD j [] = p.2 := by
  induction l generalizing k s with
  | nil => exact .inl rfl
  | cons p r ih =>
    rw [liveOn]
    rcases ih (k + 1) (if lv k then s.set p.1.toNat p.2 else s) with h | ⟨q, hq, h1, h2⟩
    · rw [h]
      split
      · by_cases hj : p.1.toNat = j
        · rcases Nat.lt_or_ge j s.length with hl | hl
          · exact .inr ⟨p, by simp, hj, by simp [List.getD_eq_getElem?_getD, hj, hl]⟩
          · exact .inl (by simp [List.getD_eq_getElem?_getD, hj, hl])
        · exact .inl (by simp [List.getD_eq_getElem?_getD, hj])
      · exact .inl rfl
    · exact .inr ⟨q, by simp [hq], h1, h2⟩
/-- Some pieces of a transaction stand behind the log. -/
structure Mixed (L : Lg) (D : Dk) (tx : List Int) (D' : Dk) : Prop where
  up : Up D'
  none : D'.pending = []
  len : D'.safe.length = D.safe.length
  find : ∀ j : Nat, j < D.safe.length → D'.find (j : Int) = D.find (j : Int) ∨ ∃ i, i < pieceN tx.length ∧ j = D.base + L.used + 1 + i ∧ D'.find (j : Int) = pieceB tx i
theorem LH.mixed {S : Sb} {D D' : Dk} {L : Lg} (h : LH S D L) {tx : List Int} (hM : Mixed L D tx D') (hB : Byt D') : LH S D' L := by
  have h2 := h.holds.fits.two
  have hh := half_eq hM.len
  have hb : D'.base = D.base := by unfold Dk.base; rw [hh]
  have hsl : D'.slots = D.slots := by unfold Dk.slots; rw [hh, hM.len]
  have hbs := base_slots D h2
  have hus := h.used
  have hfit := h.fit
  have hg : ∀ i, i < D.slots → (slotsL D').getD i [] = (slotsL D).getD i [] ∨ L.used < i ∧ ∃ k, (slotsL D').getD i [] = pieceB tx k := fun i hi => by
    rw [slotsL_find (by rw [hsl]; exact hi), slotsL_find hi, hb]
    rcases hM.find (D.base + i) (by omega) with e | ⟨k, _, e1, e2⟩
    · exact .inl e
    · exact .inr ⟨by omega, k, e2⟩
  refine ⟨?_, hB, h.whole, hus, by rw [hsl]; exact hfit, h.small, h.smalls, fun k t hkt => ?_, fun i hi h1 => ?_⟩
  · refine holds_log h.holds hM.up hM.none hM.len fun j hj => ?_
    rcases hM.find j (by omega) with e | ⟨k, _, e1, _⟩
    · exact e
    · omega
  · refine (h.secs k t hkt).congr (by rw [slotsL_length, slotsL_length, hsl]) fun i h1 h3 => ?_
    have hk : k < L.txs.length := by
      rcases Nat.lt_or_ge k L.txs.length with h | h
      · exact h
      · rw [List.getElem?_eq_none h] at hkt; cases hkt
    have hle : usedN (L.txs.take k) + needN t.length ≤ L.used := by
      have e1 : L.txs.take (k + 1) = L.txs.take k ++ [t] := by rw [List.take_add_one, hkt]; rfl
      have e2 : usedN L.txs = usedN (L.txs.take (k + 1)) + usedN (L.txs.drop (k + 1)) := by
        rw [usedN, usedN, usedN, ← List.sum_append, ← List.map_append, List.take_append_drop]
      rw [hus, e2, e1, usedN_snoc]
      omega
    rcases hg i (by omega) with e | ⟨h4, _⟩
    · exact e
    · omega
  · rw [hsl] at hi
    rcases hg i hi with e | ⟨_, k, e⟩
    · rw [e] at h1 ⊢
      exact h.old i hi h1
    · rw [e] at h1
      exact absurd h1 (by show ¬ ((0 : Int) = 1); decide)
/-- The pieces on their way. -/
structure OnP (L : Lg) (D : Dk) (tx : List Int) (n : Nat) (X : Dk) : Prop where
  ok : X.Ok
  safe : X.safe = D.safe
  pend : ∀ p ∈ X.pending, ∃ i, i < pieceN tx.length ∧ p = (((D.base + L.used + 1 + i : Nat) : Int), pieceB tx i)
  few : X.pending.length ≤ n
theorem OnP.mixed {L : Lg} {D X : Dk} {tx : List Int} {n : Nat} (h : OnP L D tx n X) (hD : D.pending = []) (keep : List Bool) : Mixed L D tx (X.crash keep) := by
  obtain ⟨hu, hp, hl⟩ := crash_up h.ok keep
  refine ⟨hu, hp, by rw [hl, h.safe], fun j hj => ?_⟩
  rw [find_safe hp, find_safe hD, Int.toNat_natCast]
  have e : (X.crash keep).safe = liveOn (bitAt keep) X.pending 0 X.safe := rfl
  rw [e, h.safe]
  rcases live_or (bitAt keep) X.pending 0 D.safe j with q | ⟨p, hpp, h1, h2⟩
  · exact .inl q
  · obtain ⟨i, hi, rfl⟩ := h.pend p hpp
    exact .inr ⟨i, hi, by dsimp only at h1; rw [Int.toNat_natCast] at h1; exact h1.symm, h2⟩
theorem put_ar {D : Dk} {k : Nat} (h : Ar D k) (h2 : 2 ≤ D.safe.length) {i : Nat} (hi : i < D.slots) {b : Blk} (hb : b.length = 64) :
    (k = 0 ∧ D.put (i : Int) b = (D.dies, 7)) ∨ (∃ k', k = k' + 1 ∧ D.put (i : Int) b = (D.does.push ((D.base + i : Nat) : Int) b, 0) ∧ Ar (D.does.push ((D.base + i : Nat) : Int) b) k') := by
  have hbs := base_slots D h2
  have e1 : D.slotAt (i : Int) = (((D.base + i : Nat) : Int), 0) := by
    rw [Dk.slotAt, if_neg (by omega), show (2 + 2 * (D.half : Int) + (i : Int)) = ((D.base + i : Nat) : Int) by unfold Dk.base; omega]
  rw [Dk.put, e1, if_pos rfl]
  exact h.write hb (by omega)
theorem putsW_ar {L : Lg} {D Da : Dk} {tx : List Int} {k : Nat} (h : Ar Da k) (hs : Da.safe = D.safe) (hp : Da.pending = []) (hf : ∀ i, Da.find i = D.find i) (h2 : 2 ≤ D.safe.length) : ∀ j, j ≤ pieceN tx.length → L.used + 1 + j ≤ D.slots →
    OnP L D tx j (putsW L.used tx Da j).1 ∧
    (((putsW L.used tx Da j).2 = 7 ∧ (putsW L.used tx Da j).1.dead = true ∧ k < j) ∨
    ((putsW L.used tx Da j).2 = 0 ∧ j ≤ k ∧ Ar (putsW L.used tx Da j).1 (k - j) ∧ ∀ i : Nat, (putsW L.used tx Da j).1.find (i : Int) = if D.base + L.used + 1 ≤ i ∧ i < D.base + L.used + 1 + j then pieceB tx (i - (D.base + L.used + 1)) else D.find (i : Int)))
  | 0, _, _ => ⟨⟨h.ok, hs, fun p hpp => (by
    have hpp : p ∈ Da.pending := hpp
    rw [hp] at hpp
    exact absurd hpp (by simp)), by show Da.pending.length ≤ 0; rw [hp]; exact Nat.le_refl _⟩, .inr ⟨rfl, Nat.zero_le _, h, fun i => by rw [if_neg (by omega)]; exact hf _⟩⟩
  | j + 1, hj, hr => by
    obtain ⟨hw, ⟨e, hd, hk⟩ | ⟨e, hk, ha, hfj⟩⟩ := putsW_ar (L := L) (tx := tx) h hs hp hf h2 j (by omega) (by omega)
    · have e2 : putsW L.used tx Da (j + 1) = putsW L.used tx Da j := by rw [putsW, if_neg (by rw [e]; decide)]
      rw [e2]
      exact ⟨⟨hw.ok, hw.safe, hw.pend, Nat.le_succ_of_le hw.few⟩, .inl ⟨e, hd, by omega⟩⟩
    · have e2 : putsW L.used tx Da (j + 1) = (putsW L.used tx Da j).1.put ((L.used + 1 + j : Nat) : Int) (pieceB tx j) := by rw [putsW, if_pos e]
      have hl : (putsW L.used tx Da j).1.safe.length = D.safe.length := by rw [hw.safe]
      have hh := half_eq hl
      have hb : (putsW L.used tx Da j).1.base = D.base := by unfold Dk.base; rw [hh]
      have hsl : (putsW L.used tx Da j).1.slots = D.slots := by unfold Dk.slots; rw [hh, hl]
      rw [e2]
      rcases put_ar ha (by rw [hl]; exact h2) (i := L.used + 1 + j) (by rw [hsl]; omega) (pieceB_length tx j) with ⟨hk0, e3⟩ | ⟨k2, hk2, e3, ha2⟩
      · rw [e3]
        exact ⟨⟨hw.ok.dies, hw.safe, hw.pend, Nat.le_succ_of_le hw.few⟩, .inl ⟨rfl, rfl, by omega⟩⟩
      · rw [e3, hb]
        rw [hb] at ha2
        refine ⟨⟨ha2.ok, hw.safe, fun p hpp => ?_, ?_⟩, .inr ⟨rfl, by omega, by rw [show k - (j + 1) = k2 by omega]; exact ha2, fun i => ?_⟩⟩
        · simp only [Dk.push, Dk.does, List.mem_append, List.mem_singleton] at hpp
          rcases hpp with hpp | rfl
          · exact hw.pend p hpp
          · exact ⟨j, by omega, by rw [show D.base + (L.used + 1 + j) = D.base + L.used + 1 + j by omega]⟩
        · have := hw.few
          simp only [Dk.push, Dk.does, List.length_append, List.length_singleton]
          omega
        · dsimp only
          rw [dk_find_push, hfj]
          by_cases hi : D.base + (L.used + 1 + j) = i
          · rw [if_pos (by omega), if_pos (by omega), show i - (D.base + L.used + 1) = j by omega]
          · rw [if_neg (by omega)]
            by_cases hi2 : D.base + L.used + 1 ≤ i ∧ i < D.base + L.used + 1 + j
            · rw [if_pos hi2, if_pos (by omega)]
            · rw [if_neg hi2, if_neg (by omega)]
/-- An append that is cut. -/
theorem append_cut {S : Sb} {D : Dk} {L : Lg} {tx : List Int} {k : Nat} (h : LH S D L) (hs : Small tx) (hk : k ≤ 1000000) (hroom : L.used + needN tx.length ≤ D.slots) :
    ∃ X e, writeL L S (D.arm k) tx = (X, e) ∧ X.pending.length ≤ 1000 ∧ Byt X ∧
    ((e = 7 ∧ X.dead = true ∧ k < needN tx.length + 2 ∧ ∀ keep, LH S (X.crash keep) L ∨ needN tx.length < k ∧ LH S (X.crash keep) { L with txs := L.txs ++ [tx], used := L.used + needN tx.length }) ∨
    (e = 0 ∧ X.dead = false ∧ needN tx.length + 2 ≤ k ∧ ∀ keep, LH S (X.crash keep) { L with txs := L.txs ++ [tx], used := L.used + needN tx.length })) := by
  have h2 := h.holds.fits.two
  have hm := h.holds.up.ok.most
  have hD := h.holds.none
  have hbs := base_slots D h2
  have hsl := h.slots
  obtain ⟨N, hN⟩ : ∃ N, pieceN tx.length = N := ⟨_, rfl⟩
  have hnN : needN tx.length = 1 + N := by rw [← hN]; rfl
  have hA : Ar (D.arm k) k := ⟨⟨h.holds.up.ok.safe, h.holds.up.ok.pend, h.holds.up.ok.some, h.holds.up.ok.most, by simp only [Dk.arm]; omega⟩, h.holds.up.dead, by simp [Dk.arm], rfl⟩
  have hBa : Byt (D.arm k) := ⟨h.byt.safe, h.byt.pend⟩
  have hBX := hBa.writeL L S hs.bytes
  obtain ⟨hw, hw2⟩ := putsW_ar (L := L) (D := D) (tx := tx) hA rfl hD (fun i => rfl) h2 N (by omega) (by omega)
  have hdef : writeL L S (D.arm k) tx = (let w := putsW L.used tx (D.arm k) N
      if w.2 = 0 then
        if w.1.sync.2 = 0 then
          let m := w.1.sync.1.put (L.used : Int) (mkB S.turn L.txs.length tx)
          if m.2 = 0 then m.1.sync else m
        else w.1.sync
      else w) := by rw [← hN]; rfl
  rw [hdef] at hBX ⊢
  dsimp only at hBX ⊢
  obtain ⟨W, hW⟩ : ∃ W, putsW L.used tx (D.arm k) N = W := ⟨_, rfl⟩
  rw [hW] at hw hw2 hBX ⊢
  have hwl : W.1.safe.length = D.safe.length := by rw [hw.safe]
  have hfew := hw.few
  have hcut : ∀ X : Dk, OnP L D tx N X → Byt X → ∀ keep, LH S (X.crash keep) L := fun X hX hB keep => h.mixed (hX.mixed hD keep) (hB.crash keep)
  rcases hw2 with ⟨e, hd, hkN⟩ | ⟨e, hkN, ha, hf⟩
  · rw [if_neg (by rw [e]; decide)] at hBX ⊢
    exact ⟨W.1, W.2, rfl, by omega, hBX, .inl ⟨e, hd, by omega, fun keep => .inl (hcut _ hw hBX keep)⟩⟩
  rw [if_pos e] at hBX ⊢
  rcases ha.sync with ⟨hk1, e1⟩ | ⟨k2, hk2, e1, hy⟩
  · rw [e1, if_neg (show ¬ (7 : Int) = 0 by decide)] at hBX ⊢
    exact ⟨_, _, rfl, by show W.1.pending.length ≤ 1000; omega, hBX, .inl ⟨rfl, rfl, by omega, fun keep => .inl (hcut _ ⟨hw.ok.dies, hw.safe, hw.pend, hw.few⟩ hBX keep)⟩⟩
  rw [e1, if_pos rfl] at hBX ⊢
  dsimp only at hBX ⊢
  obtain ⟨Y, hY⟩ : ∃ Y, W.1.does.settle (fun _ => true) = Y := ⟨_, rfl⟩
  have hYp : Y.pending = [] := by rw [← hY]; rfl
  have hYl : Y.safe.length = D.safe.length := by rw [← hY]; simp [Dk.settle, liveOn_length, Dk.does, hwl]
  have hYf : ∀ j : Nat, j < D.safe.length → Y.find (j : Int) = if D.base + L.used + 1 ≤ j ∧ j < D.base + L.used + 1 + N then pieceB tx (j - (D.base + L.used + 1)) else D.find (j : Int) := fun j hj => by
    rw [← hY, dk_find_settle hw.ok (j : Int) ⟨by omega, by omega⟩, hf]
  rw [hY] at hy hBX ⊢
  have hYh := half_eq hYl
  have hYb : Y.base = D.base := by unfold Dk.base; rw [hYh]
  have hYs : Y.slots = D.slots := by unfold Dk.slots; rw [hYh, hYl]
  have hYk : ∀ X : Dk, X.Ok → X.safe = Y.safe → X.pending = [] → Byt X → ∀ keep, LH S (X.crash keep) L := fun X hX hsf hpe hB keep => by
    obtain ⟨hu, hp', hl'⟩ := crash_up hX keep
    refine h.mixed (tx := tx) ⟨hu, hp', by rw [hl', hsf, hYl], fun j hj => ?_⟩ (hB.crash keep)
    rw [crash_find keep j (by omega) (by rw [hpe]; simp), hsf, ← find_safe hYp, hYf j hj]
    split
    · exact .inr ⟨j - (D.base + L.used + 1), by omega, by omega, rfl⟩
    · exact .inl rfl
  rcases put_ar hy (by rw [hYl]; exact h2) (i := L.used) (by rw [hYs]; omega) (mkB_length S.turn L.txs.length tx) with ⟨hk3, e2⟩ | ⟨k3, hk3, e2, hv⟩
  · rw [e2, if_neg (show ¬ (7 : Int) = 0 by decide)] at hBX ⊢
    exact ⟨_, _, rfl, by show Y.pending.length ≤ 1000; rw [hYp]; decide, hBX, .inl ⟨rfl, rfl, by omega, fun keep => .inl (hYk _ hy.ok.dies rfl hYp hBX keep)⟩⟩
  rw [e2, if_pos rfl] at hBX ⊢
  rw [hYb] at hv hBX ⊢
  dsimp only at hBX ⊢
  obtain ⟨t, ht⟩ : ∃ t, D.base + L.used = t := ⟨_, rfl⟩
  rw [ht] at hv hBX ⊢
  obtain ⟨M, hM⟩ : ∃ M, mkB S.turn L.txs.length tx = M := ⟨_, rfl⟩
  rw [hM] at hv hBX ⊢
  have hT : ∀ X : Dk, X.Ok → X.safe = Y.safe.set t M → X.pending = [] → Byt X → ∀ keep, LH S (X.crash keep) { L with txs := L.txs ++ [tx], used := L.used + needN tx.length } := fun X hX hsf hpe hB keep => by
    obtain ⟨hu, hp', hl'⟩ := crash_up hX keep
    refine h.wrote hs hroom ⟨hu, hp', by rw [hl', hsf, List.length_set, hYl], fun j hj => ?_⟩ (hB.crash keep)
    rw [crash_find keep j (by omega) (by rw [hpe]; simp), hsf, ht, hM, hN]
    by_cases hjt : j = t
    · rw [if_pos hjt, hjt, List.getD_eq_getElem?_getD, show ((t : Int)).toNat = t from rfl, List.getElem?_set_self (by omega)]
      rfl
    · rw [if_neg hjt]
      have e5 := hYf j hj
      rw [ht] at e5
      rw [← e5, find_safe hYp]
      simp [List.getD_eq_getElem?_getD, show ¬ t = j by omega]
  have hvp : (Y.does.push (t : Int) M).pending = [((t : Int), M)] := by simp [Dk.push, Dk.does, hYp]
  rcases hv.sync with ⟨hk4, e3⟩ | ⟨k4, hk4, e3, hz⟩
  · rw [e3] at hBX ⊢
    refine ⟨_, _, rfl, by show (Y.does.push (t : Int) M).pending.length ≤ 1000; rw [hvp]; simp, hBX, .inl ⟨rfl, rfl, by omega, fun keep => ?_⟩⟩
    have hc : ((Y.does.push (t : Int) M).dies.crash keep) = { (Y.does.push (t : Int) M).dies with safe := if bitAt keep 0 then Y.safe.set t M else Y.safe, pending := [], dead := false, armed := false } := by
      simp [Dk.crash, Dk.settle, Dk.dies, hvp, liveOn]
      rfl
    have hce : ∀ X : Dk, X.pending = [] → X.dead = false → X.armed = false → X.crash keep = X := fun X h1 h2 h3 => by
      cases X
      simp only at h1 h2 h3
      subst h1 h2 h3
      rfl
    have hok := hv.ok.dies.crash keep
    have hBc := hBX.crash keep
    rw [hc] at hok hBc ⊢
    cases hb0 : bitAt keep 0 with
    | false =>
      rw [hb0] at hok hBc
      have q := hYk _ hok rfl rfl hBc keep
      rw [hce _ rfl rfl rfl] at q
      exact .inl q
    | true =>
      rw [hb0] at hok hBc
      have q := hT _ hok rfl rfl hBc keep
      rw [hce _ rfl rfl rfl] at q
      exact .inr ⟨by omega, q⟩
  · rw [e3] at hBX ⊢
    refine ⟨_, _, rfl, Nat.zero_le _, hBX, .inr ⟨rfl, hz.dead, by omega, fun keep => hT _ hz.ok ?_ rfl hBX keep⟩⟩
    show liveOn (fun _ => true) (Y.does.push (t : Int) M).does.pending 0 Y.safe = _
    rw [show (Y.does.push (t : Int) M).does.pending = [((t : Int), M)] from hvp]
    rfl
end Go.Proofs.Ytmgagkpokmaefaa
namespace Go.Proofs.Ytmgagkpokmaefaa
open Go Go.SL
attribute [local irreducible] J JL JE JM LS Y Fc RV Code.wp wpList Code.wpIn wpListIn
attribute [local irreducible] Yc
variable (E : World)
theorem again_spec (d : Nat) {S : Sb} {D : Dk} {L : Lg} (l : List HProp) (h : LH S D L) (h64 : 64 ≤ D.safe.length) :
    Fc prog E 30 [.pointer (some ⟨d, 0, none⟩)].toArray (disk d D :: l)
      (fun v l' => ∃ lg st, v = .tuple #[.pointer (some ⟨lg, 0, none⟩), .bool true] ∧ l' = logm lg st L :: row st 90 (scells S d) :: disk d D :: l) := by
  refine Fc.of_body (c := ?codeC) Try.func30 ?hb Try.ntmps30 ?hl ?_
  case hb => exact rfl
  case hl => exact rfl
  refine J.seq ?_
  refine J.region ?_
  refine JL.step (y_assign rfl) rfl rfl rfl (JL.step (y_assign rfl) rfl rfl rfl ?_)
  refine JL.nil ?_
  refine JE.then_normal ?_
  refine J.seq ?_
  refine J.region ?_
  refine JL.step (y_move rfl) rfl rfl rfl ?_
  refine JL.loud rfl (l_callF e56 rfl rfl (Fc.on (Split.cons (by (repeat (first | exact Pick.head | apply Pick.tail | apply Pick.app))) Split.nil) (open_holds E d D S L.snap _ h.holds h64)) ?_)
  rintro _ _ ⟨st, rfl, rfl⟩
  refine JL.step (y_move rfl) rfl rfl rfl (JL.step (y_extract rfl rfl) rfl rfl rfl (JL.step (y_extract rfl rfl) rfl rfl rfl (JL.step (y_assign rfl) rfl rfl rfl (JL.step (y_assign rfl) rfl rfl rfl ?_))))
  refine JL.nil ?_
  refine JE.then_normal ?_
  refine J.seq ?_
  refine J.seq ?_
  refine J.region ?_
  refine JL.step (y_move rfl) rfl rfl rfl (JL.step (y_neq rfl rfl) rfl rfl rfl ?_)
  refine JL.nil ?_
  refine JE.then_normal ?_
  refine J.cond_f rfl (by (first | rfl | assumption | (simp; done) | (simp; omega))) ?_
  refine J.skip ?_
  refine JE.then_normal ?_
  refine J.seq ?_
  refine J.region ?_
  refine JL.step (y_move rfl) rfl rfl rfl ?_
  refine JL.loud rfl (l_callF e13 rfl rfl (Fc.on (Split.cons (by (repeat (first | exact Pick.head | apply Pick.tail | apply Pick.app))) (Split.cons (by (repeat (first | exact Pick.head | apply Pick.tail | apply Pick.app))) Split.nil)) (lopen_lh E st d S D L _ h)) ?_)
  rintro _ _ ⟨lg, rfl, rfl⟩
  refine JL.step (y_move rfl) rfl rfl rfl (JL.step (y_extract rfl rfl) rfl rfl rfl (JL.step (y_extract rfl rfl) rfl rfl rfl (JL.step (y_assign rfl) rfl rfl rfl (JL.step (y_assign rfl) rfl rfl rfl ?_))))
  refine JL.nil ?_
  refine JE.then_normal ?_
  refine J.seq ?_
  refine J.region ?_
  refine JL.step (y_move rfl) rfl rfl rfl (JL.step (y_move rfl) rfl rfl rfl (JL.step (y_eql rfl rfl) rfl rfl rfl (JL.step (y_move rfl) rfl rfl rfl ?_)))
  all_goals (first | (refine JL.gsplit_dec rfl rfl rfl (fun h => ?_) (fun h => ?_) <;> try (first | (exfalso; omega) | exact absurd rfl h)) | (refine JL.gsplit rfl rfl rfl (fun h => ?_) (fun h => ?_) <;> try (first | cases h | (exfalso; simp at h; done))) | skip)
  all_goals (first | refine JL.gskip rfl rfl rfl rfl rfl rfl ?_ | refine JL.gskipU rfl rfl rfl rfl rfl ?_ | refine JL.gstep rfl rfl rfl (y_move rfl) rfl rfl ?_)
  all_goals (first | refine JL.gskip rfl rfl rfl rfl rfl rfl ?_ | refine JL.gskipU rfl rfl rfl rfl rfl ?_ | refine JL.gstep rfl rfl rfl (y_ptr_ne_nil hT rfl rfl rfl rfl) rfl rfl ?_)
  all_goals (refine JL.step (y_pick rfl rfl rfl) rfl rfl rfl ?_)
  all_goals (refine JL.step (y_assign rfl) rfl rfl rfl ?_)
  all_goals (refine JL.step (y_assign rfl) rfl rfl rfl ?_)
  all_goals refine JL.nil ?_
  all_goals refine JE.then_normal ?_
  all_goals
    refine J.ret ?_
    refine JE.ret2 (.inl rfl) rfl rfl (by (first | exact RV.tmp rfl | exact RV.cell1 hT rfl rfl rfl (by (exact Rd1.row (by (repeat (first | exact Pick.head | apply Pick.tail | apply Pick.app))) (by rfl))) | exact RV.cellN hT rfl rfl rfl (by (first | exact RdN.rowAll (by (repeat (first | exact Pick.head | apply Pick.tail | apply Pick.app))) | exact RdN.own (by (repeat (first | exact Pick.head | apply Pick.tail | apply Pick.app))))) (by (first | rfl | assumption | (simp; done) | omega)))) (by (first | exact RV.tmp rfl | exact RV.cell1 hT rfl rfl rfl (by (exact Rd1.row (by (repeat (first | exact Pick.head | apply Pick.tail | apply Pick.app))) (by rfl))) | exact RV.cellN hT rfl rfl rfl (by (first | exact RdN.rowAll (by (repeat (first | exact Pick.head | apply Pick.tail | apply Pick.app))) | exact RdN.own (by (repeat (first | exact Pick.head | apply Pick.tail | apply Pick.app))))) (by (first | rfl | assumption | (simp; done) | omega)))) ?_
    exact ⟨lg, st, rfl, rfl⟩
theorem arm_lh (d : Nat) {S : Sb} {D : Dk} {L : Lg} (l : List HProp) (h : LH S D L) (k : Nat) (hk : k ≤ 1000000) :
    Fc prog E 28 [.pointer (some ⟨d, 0, none⟩), .int .i64 (k : Int)].toArray (disk d D :: l) (fun v l' => v = .int .i64 0 ∧ l' = disk d (D.arm k) :: l) := by
  have q := arm_spec E d D k (by omega) l
  have hd := h.holds.up.dead
  rw [hd] at q
  simpa using q
/-- An append on a disk that is armed. -/
theorem append_arm (lg st d : Nat) {S : Sb} {D : Dk} {L : Lg} (l : List HProp) (h : LH S D L) (k : Nat) (tx : List Int) (p : Option Addr) (cap n : Nat) (hn : tx.length = n) (hsm : Small tx) (hfew : L.txs.length < 512) {R : Lg × Dk × Int} (he : appL L S (D.arm k) tx = R) (hin : InL l p n cap (ints .u8 tx)) :
    Fc prog E 19 [.pointer (some ⟨lg, 0, none⟩), .slice p n cap].toArray (logm lg st L :: row st 90 (scells S d) :: disk d (D.arm k) :: l) (fun v l' => v = .int .i64 R.2.2 ∧ l' = logm lg st R.1 :: row st 90 (scells S d) :: disk d R.2.1 :: l) := by
  subst he
  have hp : (D.arm k).pending = [] := h.holds.none
  exact lappend_spec E lg st d L S (D.arm k) l h.holds.fits.hash h.holds.fits.two tx p cap n hn hsm (by rw [hp]; decide) hfew hin
theorem appL_arm {S : Sb} {D : Dk} {L : Lg} (h : LH S D L) (k : Nat) {tx : List Int} (hs : Small tx) (hroom : L.used + needN tx.length ≤ D.slots) : appL L S (D.arm k) tx = if (writeL L S (D.arm k) tx).2 = 0 then ({ L with txs := L.txs ++ [tx], used := L.used + needN tx.length }, (writeL L S (D.arm k) tx).1, 0) else ({ L with broken := true }, (writeL L S (D.arm k) tx).1, (writeL L S (D.arm k) tx).2) := by
  have hr : roomB L (D.arm k) (tx.length : Int) = true := (roomB_iff h tx.length).2 hroom
  rw [appL, if_neg (by rw [h.whole]; simp), if_pos hr]
theorem writeL_len (L : Lg) (S : Sb) (D : Dk) (tx : List Int) : (writeL L S D tx).1.safe.length = D.safe.length := by
  have h1 := (putsW_len L.used tx D (pieceN tx.length)).1
  unfold writeL
  dsimp only
  split
  · split
    · split
      · exact (sync_len _).1.trans ((put_len _ _ _).1.trans ((sync_len _).1.trans h1))
      · exact (put_len _ _ _).1.trans ((sync_len _).1.trans h1)
    · exact (sync_len _).1.trans h1
  · exact h1
theorem crash_len (D : Dk) (keep : List Bool) : (D.crash keep).safe.length = D.safe.length := liveOn_length _ _ _ _
end Go.Proofs.Ytmgagkpokmaefaa
namespace Go.Proofs.Ytmgagkpokmaefaa
open Go Go.SL
/-! A checkpoint that is cut, and what a cut leaves. -/
theorem LH.slots_same {S : Sb} {D D' : Dk} {L : Lg} (h : LH S D L) (hh : Holds S L.snap D') (hB : Byt D') (hsl : D'.slots = D.slots) (he : ∀ i, i < D.slots → (slotsL D').getD i [] = (slotsL D).getD i []) : LH S D' L :=
  ⟨hh, hB, h.whole, h.used, by rw [hsl]; exact h.fit, h.small, h.smalls, fun k t hkt => by
    refine (h.secs k t hkt).congr (by rw [slotsL_length, slotsL_length, hsl]) fun i h1 h3 => ?_
    have hfit := h.fit
    have hk : k < L.txs.length := by
      rcases Nat.lt_or_ge k L.txs.length with h | h
      · exact h
      · rw [List.getElem?_eq_none h] at hkt; cases hkt
    have hle : usedN (L.txs.take k) + needN t.length ≤ L.used := by
      have e1 : L.txs.take (k + 1) = L.txs.take k ++ [t] := by rw [List.take_add_one, hkt]; rfl
      have e2 : usedN L.txs = usedN (L.txs.take (k + 1)) + usedN (L.txs.drop (k + 1)) := by
        rw [usedN, usedN, usedN, ← List.sum_append, ← List.map_append, List.take_append_drop]
      rw [h.used, e2, e1, usedN_snoc]
      omega
    exact he i (by omega), fun i hi h1 => by
    rw [hsl] at hi
    rw [he i hi] at h1 ⊢
    exact h.old i hi h1⟩
theorem LH.kept {S : Sb} {D D' : Dk} {L : Lg} (h : LH S D L) (hk : Kept S D D') (hB : Byt D') : LH S D' L := by
  have h2 := h.holds.fits.two
  have hp := h.holds.fits.place
  have hh := half_eq hk.len
  have hb : D'.base = D.base := by unfold Dk.base; rw [hh]
  have hs : D'.slots = D.slots := by unfold Dk.slots; rw [hh, hk.len]
  have hbs := base_slots D h2
  have h5 : (1 - S.place) * (D.half : Int) ≤ D.half := by
    rcases hp with e | e <;> rw [e]
    · rw [show (1 - 0 : Int) = 1 by rfl, Int.one_mul]; omega
    · rw [show (1 - 1 : Int) = 0 by rfl, Int.zero_mul]; omega
  refine h.slots_same (holds_kept h.holds hk) hB hs fun i hi => ?_
  rw [slotsL_find (by rw [hs]; exact hi), slotsL_find hi, hb]
  exact hk.find _ (by omega) (by omega) (by unfold Dk.base; omega)
theorem LH.taken {S : Sb} {D D' : Dk} {L : Lg} (h : LH S D L) {state : List Int} (hs : Small state) (hl : state.length ≤ 64 * D.half) (ht : S.turn.toNat + 1 < 18446744073709551616) (hT : Taken S D state D') (hB : Byt D') :
    LH (nextS S state) D' ⟨state, [], 0, false⟩ := by
  have h2 := h.holds.fits.two
  have hp := h.holds.fits.place
  have hsl : D'.slots = D.slots := by unfold Dk.slots Dk.half; rw [hT.len]
  have htn := next_turn (bs := state) ht
  refine ⟨holds_taken h.holds hl ht hT, hB, rfl, rfl, Nat.zero_le _, hs, fun tx h => (by simp at h), fun k tx h => (by simp at h), fun i hi h1 => ?_⟩
  rw [hsl] at hi
  rw [taken_slots hT h2 hp hl hi] at h1 ⊢
  have := (h.old i hi h1).1
  rw [htn]
  exact ⟨by omega, fun _ => by omega⟩
/-- What a last call leaves, where the power may go: the log, the superblock and the disk behind it, its error; and that what lives is what was or what was to come. -/
structure Cuts (S : Sb) (D : Dk) (L A : Lg) (La : Lg) (Sa : Sb) (X : Dk) (f : Int) : Prop where
  few : X.pending.length ≤ 1000
  len : X.safe.length = D.safe.length
  out : (f = 7 ∧ La = { L with broken := true } ∧ Sa = S ∧ ∀ keep, (∃ S2, LH S2 (X.crash keep) L) ∨ (∃ S2, LH S2 (X.crash keep) A)) ∨
    (f = 0 ∧ La = A ∧ ∀ keep, LH Sa (X.crash keep) A)
theorem appL_cut {S : Sb} {D : Dk} {L : Lg} {tx : List Int} {k : Nat} (h : LH S D L) (hs : Small tx) (hk : k ≤ 1000000) (hroom : L.used + needN tx.length ≤ D.slots) :
    ∃ La X f, appL L S (D.arm k) tx = (La, X, f) ∧ Cuts S D L { L with txs := L.txs ++ [tx], used := L.used + needN tx.length } La S X f := by
  obtain ⟨X, e, hW, hfew, _, hor⟩ := append_cut h hs hk hroom
  have hlen := writeL_len L S (D.arm k) tx
  rw [hW] at hlen
  have eA := appL_arm h k hs hroom
  rw [hW] at eA
  dsimp only at eA hlen
  rcases hor with ⟨rfl, _, _, hkp⟩ | ⟨rfl, _, _, hkp⟩
  · rw [if_neg (by decide)] at eA
    exact ⟨_, _, _, eA, hfew, hlen, .inl ⟨rfl, rfl, rfl, fun keep => (hkp keep).imp (fun h => ⟨_, h⟩) (fun h => ⟨_, h.2⟩)⟩⟩
  · rw [if_pos rfl] at eA
    exact ⟨_, _, _, eA, hfew, hlen, .inr ⟨rfl, rfl, hkp⟩⟩
theorem ckL_cut {S : Sb} {D : Dk} {L : Lg} {state : List Int} {k : Nat} (h : LH S D L) (hs : Small state) (hk : k ≤ 1000000) (hl : state.length ≤ 64 * D.half) (ht : S.turn.toNat + 1 < 18446744073709551616) :
    ∃ La Sa X f, ckL L S (D.arm k) state = (La, Sa, X, f) ∧ Cuts S D L ⟨state, [], 0, false⟩ La Sa X f := by
  obtain ⟨hfew, hor⟩ := cut_law (k := k) h.holds.up h.holds.none hk h.holds.fits.two h.holds.fits.place hl
  have hBa : Byt (D.arm k) := ⟨h.byt.safe, h.byt.pend⟩
  have hB := hBa.takeS S hs.bytes
  have hlen := takeS_len S (D.arm k) state
  obtain ⟨⟨Sa, X, f⟩, hR⟩ : ∃ R, takeS S (D.arm k) state = R := ⟨_, rfl⟩
  rw [hR] at hfew hor hB hlen
  dsimp only at hfew hor hB hlen
  have hw := h.whole
  rcases hor with ⟨rfl, rfl, _, hkp⟩ | ⟨rfl, rfl, _, hkp⟩
  · refine ⟨{ L with broken := true }, Sa, X, 7, ?_, hfew, hlen, .inl ⟨rfl, rfl, rfl, fun keep => ?_⟩⟩
    · unfold ckL
      rw [if_neg (by rw [hw]; simp), hR, if_neg (show ¬ (7 : Int) = 0 by decide), if_neg (show ¬ (7 : Int) = 3 by decide)]
    · rcases hkp keep with h1 | h1
      · exact .inl ⟨Sa, h.kept h1 (hB.crash keep)⟩
      · exact .inr ⟨_, h.taken hs hl ht h1 (hB.crash keep)⟩
  · refine ⟨⟨state, [], 0, false⟩, nextS S state, X, 0, ?_, hfew, hlen, .inr ⟨rfl, rfl, fun keep => h.taken hs hl ht (hkp keep) (hB.crash keep)⟩⟩
    unfold ckL
    rw [if_neg (by rw [hw]; simp), hR, if_pos rfl]
    cases L
    simp only at hw
    rw [hw]
end Go.Proofs.Ytmgagkpokmaefaa
namespace Go.Proofs.Ytmgagkpokmaefaa
open Go Go.SL
/-! What a log tells, kept. -/
theorem InL.folded {m : List HProp} {p : Option Addr} {n c : Nat} {cs : List Value} (h : InL m p n c cs) : InL [stars m] p n c cs :=
  ⟨h.le, h.most, h.rd.imp (fun ⟨b, o, e, hr⟩ => ⟨b, o, e, fun m' j v hj E w s => hr [] j v hj E w (by
    have q := ((s.pick (Pick.app m' Pick.head)).only).unfold
    rwa [List.append_nil] at q)⟩) id⟩
/-- A told state: a snapshot and transactions that K keeps. -/
def StB (K : HProp) (cs : List Value) (snap : List Int) (txs : List (List Int)) : Prop :=
  ∃ p c q d vals, cs = [.slice p snap.length c, .slice q txs.length d] ∧ InL [K] p snap.length c (ints .u8 snap) ∧ InL [K] q txs.length d vals ∧ TxB K vals txs
theorem TxB.keepL {K K2 : HProp} {vals : List Value} {txs : List (List Int)} (h : TxB K vals txs) : TxB (stars [K, K2]) vals txs := ⟨h.len, fun i b hb => let ⟨q, c, e, hi⟩ := h.get i b hb; ⟨q, c, e, hi.keepL⟩⟩
theorem TxB.keepR {K K2 : HProp} {vals : List Value} {txs : List (List Int)} (h : TxB K2 vals txs) : TxB (stars [K, K2]) vals txs := ⟨h.len, fun i b hb => let ⟨q, c, e, hi⟩ := h.get i b hb; ⟨q, c, e, hi.keepR⟩⟩
theorem StB.keepL {K K2 : HProp} {cs : List Value} {snap : List Int} {txs : List (List Int)} (h : StB K cs snap txs) : StB (stars [K, K2]) cs snap txs :=
  let ⟨p, c, q, d, vals, h1, h2, h3, h4⟩ := h; ⟨p, c, q, d, vals, h1, h2.keepL, h3.keepL, h4.keepL⟩
theorem StB.keepR {K K2 : HProp} {cs : List Value} {snap : List Int} {txs : List (List Int)} (h : StB K2 cs snap txs) : StB (stars [K, K2]) cs snap txs :=
  let ⟨p, c, q, d, vals, h1, h2, h3, h4⟩ := h; ⟨p, c, q, d, vals, h1, h2.keepR, h3.keepR, h4.keepR⟩
theorem TxB.ones {K : HProp} {vals : List Value} {txs : List (List Int)} (h : TxB K vals txs) : ∀ u ∈ vals, u.oneCell' = true := fun u hu => by
  obtain ⟨i, hi, rfl⟩ := List.getElem_of_mem hu
  obtain ⟨q, c, e, _⟩ := h.get i _ (List.getElem?_eq_getElem (by rw [← h.len]; exact hi))
  rw [List.getElem?_eq_getElem hi] at e
  rw [Option.some.inj e]
  rfl
theorem TxB.put {K : HProp} {vals : List Value} {txs : List (List Int)} (h : TxB K vals txs) {q : Option Addr} {c : Nat} {b : List Int} (hb : InL [K] q b.length c (ints .u8 b)) : TxB K (vals ++ [.slice q b.length c]) (txs ++ [b]) :=
  ⟨by simp [h.len], fun i t ht => by
    rcases Nat.lt_or_ge i txs.length with hi | hi
    · obtain ⟨p, z, h1, h2⟩ := h.get i t (by rwa [List.getElem?_append_left hi] at ht)
      exact ⟨p, z, by rw [List.getElem?_append_left (by rw [h.len]; exact hi)]; exact h1, h2⟩
    · have hi2 : i = txs.length := by
        rcases Nat.lt_or_ge i (txs ++ [b]).length with h3 | h3
        · simp at h3; omega
        · rw [List.getElem?_eq_none h3] at ht; cases ht
      subst hi2
      rw [List.getElem?_append_right (Nat.le_refl _), Nat.sub_self] at ht
      cases ht
      exact ⟨q, c, by rw [List.getElem?_append_right (by rw [h.len]; exact Nat.le_refl _), h.len, Nat.sub_self]; rfl, hb⟩⟩
theorem TxB.none (K : HProp) : TxB K [] [] := ⟨rfl, fun i b h => by simp at h⟩
theorem fill_b4 (f : Nat → Value) (a b c d : Int) : Instr.fill (fun i => some (i * 1, 1)) ((Array.range (4 * 1)).map f) [(0, .int .u8 a), (1, .int .u8 b), (2, .int .u8 c), (3, .int .u8 d)] = some (ints .u8 [a, b, c, d]).toArray := by
  have h := fill_eq (fun i => some (i * 1, 1)) [(0, 1), (1, 1), (2, 1), (3, 1)] [(0, .int .u8 a), (1, .int .u8 b), (2, .int .u8 c), (3, .int .u8 d)] ((Array.range (4 * 1)).map f).toList (by intro q hq; simp at hq; rcases hq with rfl | rfl | rfl | rfl <;> rfl) (by simp [fillOk, Value.cells])
  have e : ((Array.range (4 * 1)).map f).toList = [f 0, f 1, f 2, f 3] := by
    rw [Array.toList_map, Array.toList_range]
    rfl
  rw [show ((Array.range (4 * 1)).map f) = ((Array.range (4 * 1)).map f).toList.toArray from rfl, h, e]
  rfl
theorem Sat.keptR {E w : World} {l r : List HProp} {A B : HProp} (s : Sat E (stars l) w) (p : Pick l (stars [A, B]) r) : Sat E (stars (B :: r)) w := (s.pick p).unfold.drop
theorem owns_txb {E w : World} {vals : List Value} {txs : List (List Int)} {r : List HProp} (hl : vals.length = txs.length) (s : Sat E (stars (owns vals txs ++ r)) w) : TxB (stars (owns vals txs)) vals txs :=
  ⟨hl, fun i b hb => by
    have s1 : Sat E (stars (owns vals txs ++ [])) w := (Sat.fold s).only.unfold
    obtain ⟨q, c, e, hi⟩ := owns_inl hl s1 i b hb
    exact ⟨q, c, e, InL.folded (by rwa [List.append_nil] at hi)⟩⟩
/-- What an append on an armed disk comes to. -/
theorem appL_cases {S : Sb} {D : Dk} {L A : Lg} {tx : List Int} {k : Nat} (h : LH S D L) (hs : Small tx) (hk : k ≤ 1000000) (keep : List Bool) (hA : { L with txs := L.txs ++ [tx], used := L.used + needN tx.length } = A) :
    appL L S (D.arm k) tx = (L, D.arm k, 6) ∨ (∃ La X S2 L2, appL L S (D.arm k) tx = (La, X, 7) ∧ La = { L with broken := true } ∧ X.pending.length ≤ 1000 ∧ X.safe.length = D.safe.length ∧ LH S2 (X.crash keep) L2 ∧ (L2 = L ∨ L2 = A)) ∨
    (∃ X, appL L S (D.arm k) tx = (A, X, 0) ∧ X.pending.length ≤ 1000 ∧ X.safe.length = D.safe.length ∧ LH S (X.crash keep) A) := by
  by_cases hroom : L.used + needN tx.length ≤ D.slots
  · obtain ⟨La, X, f, e, hc⟩ := appL_cut h hs hk hroom
    rw [hA] at hc
    rcases hc.out with ⟨rfl, h1, _, h2⟩ | ⟨rfl, rfl, h2⟩
    · rcases h2 keep with ⟨S2, h3⟩ | ⟨S2, h3⟩
      · exact .inr (.inl ⟨La, X, S2, L, e, h1, hc.few, hc.len, h3, .inl rfl⟩)
      · exact .inr (.inl ⟨La, X, S2, A, e, h1, hc.few, hc.len, h3, .inr rfl⟩)
    · exact .inr (.inr ⟨X, e, hc.few, hc.len, h2 keep⟩)
  · refine .inl ?_
    rw [appL, if_neg (by rw [h.whole]; simp), if_neg (show ¬ roomB L (D.arm k) (tx.length : Int) = true from fun e => hroom ((roomB_iff h _).1 e))]
theorem ckL_cases {S : Sb} {D : Dk} {L A : Lg} {state : List Int} {k : Nat} (h : LH S D L) (hs : Small state) (hk : k ≤ 1000000) (ht : S.turn.toNat + 1 < 18446744073709551616) (keep : List Bool) (hA : (⟨state, [], 0, false⟩ : Lg) = A) :
    ckL L S (D.arm k) state = (L, S, D.arm k, 3) ∨ (∃ La X S2 L2, ckL L S (D.arm k) state = (La, S, X, 7) ∧ La = { L with broken := true } ∧ X.pending.length ≤ 1000 ∧ X.safe.length = D.safe.length ∧ LH S2 (X.crash keep) L2 ∧ (L2 = L ∨ L2 = A)) ∨
    (∃ Sa X, ckL L S (D.arm k) state = (A, Sa, X, 0) ∧ X.pending.length ≤ 1000 ∧ X.safe.length = D.safe.length ∧ LH Sa (X.crash keep) A) := by
  by_cases hl : state.length ≤ 64 * D.half
  · obtain ⟨La, Sa, X, f, e, hc⟩ := ckL_cut (k := k) h hs hk hl ht
    rw [hA] at hc
    rcases hc.out with ⟨rfl, h1, rfl, h2⟩ | ⟨rfl, rfl, h2⟩
    · rcases h2 keep with ⟨S2, h3⟩ | ⟨S2, h3⟩
      · exact .inr (.inl ⟨La, X, S2, L, e, h1, hc.few, hc.len, h3, .inl rfl⟩)
      · exact .inr (.inl ⟨La, X, S2, A, e, h1, hc.few, hc.len, h3, .inr rfl⟩)
    · exact .inr (.inr ⟨Sa, X, e, hc.few, hc.len, h2 keep⟩)
  · refine .inl ?_
    have e : takeS S (D.arm k) state = (S, D.arm k, 3) := by unfold takeS; rw [if_pos (show 64 * (D.arm k).half < state.length from (by omega : 64 * D.half < state.length))]
    unfold ckL
    rw [if_neg (by rw [h.whole]; simp), e, if_neg (show ¬ (3 : Int) = 0 by decide), if_pos rfl]
attribute [local irreducible] J JL JE JM LS Y Fc RV Code.wp wpList Code.wpIn wpListIn
attribute [local irreducible] Yc
variable (E : World)
theorem of_spec (lg st : Nat) (L : Lg) (l : List HProp) :
    Fc prog E 39 [.pointer (some ⟨lg, 0, none⟩)].toArray (logm lg st L :: l) (fun v l' => ∃ cs K, v = .agg cs.toArray ∧ StB K cs L.snap L.txs ∧ l' = K :: logm lg st L :: l) := by
  refine Fc.post ?_
  have csn : ∀ l, Fc prog E 27 [.pointer (some ⟨lg, 0, none⟩)].toArray (logm lg st L :: l) (fun v l' => ∃ a c, v = .slice a L.snap.length c ∧ l' = own 5 1 (.slice a L.snap.length c) L.snap.length (ints .u8 L.snap) :: logm lg st L :: l ∧ OwnAt a L.snap.length c (ints .u8 L.snap)) := fun l => (lsnapshot_spec E lg st L l).know fun v l' w ⟨a, c, e1, e2⟩ s => by
    subst e1
    subst e2
    exact ⟨a, c, rfl, rfl, Sat.own_at s⟩
  have ctx : ∀ l, Fc prog E 24 [.pointer (some ⟨lg, 0, none⟩)].toArray (logm lg st L :: l) (fun v l' => ∃ a c vals, v = .slice a L.txs.length c ∧ l' = own 36 1 (.slice a L.txs.length c) L.txs.length vals :: stars (owns vals L.txs) :: logm lg st L :: l ∧ OwnAt a L.txs.length c vals ∧ TxB (stars (owns vals L.txs)) vals L.txs) := fun l => ((ltxs_spec E lg st L l).know fun v l' w ⟨a, c, vals, e1, e2, e3⟩ s => by
    subst e1
    subst e3
    exact ⟨_, fun w q => (Sat.fold (m := owns vals L.txs) (Sat.rot (p := [own 36 1 (.slice a L.txs.length c) L.txs.length vals]) (g := owns vals L.txs) q)).pick (Pick.tail Pick.head), a, c, vals, rfl, rfl, Sat.own_at s, owns_txb e2 s.drop⟩ : Fc prog E _ _ _ fun v l' => ∃ l'', (∀ w, Sat E (stars l') w → Sat E (stars l'') w) ∧ ∃ a c vals, v = .slice a L.txs.length c ∧ l'' = own 36 1 (.slice a L.txs.length c) L.txs.length vals :: stars (owns vals L.txs) :: logm lg st L :: l ∧ OwnAt a L.txs.length c vals ∧ TxB (stars (owns vals L.txs)) vals L.txs).post
  refine Fc.of_body (c := ?codeC) Try.func39 ?hb Try.ntmps39 ?hl ?_
  case hb => exact rfl
  case hl => exact rfl
  refine J.seq ?_
  refine J.region ?_
  refine JL.loud rfl (l_alloc hT rfl rfl (by (first | rfl | simp)) rfl (fun b1 => ?_))
  refine JL.nil ?_
  refine JE.then_normal ?_
  refine J.seq ?_
  refine J.region ?_
  refine JL.step (y_move rfl) rfl rfl rfl ?_
  refine JL.loud rfl (l_callF e27 rfl rfl (Fc.on (Split.cons (by (repeat (first | exact Pick.head | apply Pick.tail | apply Pick.app))) Split.nil) (csn _)) ?_)
  rintro _ _ ⟨sa, sc, rfl, rfl, os⟩
  refine JL.step (y_move rfl) rfl rfl rfl ?_
  refine JL.loud rfl (l_callF e24 rfl rfl (Fc.on (Split.cons (by (repeat (first | exact Pick.head | apply Pick.tail | apply Pick.app))) Split.nil) (ctx _)) ?_)
  rintro _ _ ⟨ta, tc, vals, rfl, rfl, ot, hx⟩
  refine JL.step (y_build (cs := [_, _]) hT rfl rfl rfl rfl rfl rfl ⟨⟨(by (first | rfl | assumption | (simp; done) | omega)), Nat.le_of_ble_eq_true rfl⟩, ⟨⟨(by (first | rfl | assumption | (simp; done) | omega)), Nat.le_of_ble_eq_true rfl⟩, trivial⟩⟩ rfl) rfl rfl rfl ?_
  refine JL.loud rfl (l_storeAll hT rfl rfl rfl (by (first | rfl | assumption | (simp; done) | omega)) (by (first | assumption | exact ones_of rfl | exact encW_one _ | exact encB_one _ | (intro u hu; simp at hu; rcases hu with rfl | rfl <;> rfl) | (intro u hu; simp at hu; subst hu; rfl) | simp)) (by (repeat (first | exact Pick.head | apply Pick.tail | apply Pick.app))) (by (first | rfl | assumption | (simp; done) | omega)) ?_)
  refine JL.nil ?_
  refine JE.then_normal ?_
  refine J.ret ?_
  refine JE.ret1 (.inl rfl) rfl rfl (by (first | exact RV.tmp rfl | exact RV.cell1 hT rfl rfl rfl (by (exact Rd1.row (by (repeat (first | exact Pick.head | apply Pick.tail | apply Pick.app))) (by rfl))) | exact RV.cellN hT rfl rfl rfl (by (first | exact RdN.rowAll (by (repeat (first | exact Pick.head | apply Pick.tail | apply Pick.app))) | exact RdN.own (by (repeat (first | exact Pick.head | apply Pick.tail | apply Pick.app))))) (by (first | rfl | assumption | (simp; done) | omega)))) ?_
  refine ⟨stars [stars [own 5 1 (.slice sa L.snap.length sc) L.snap.length (ints .u8 L.snap), own 36 1 (.slice ta L.txs.length tc) L.txs.length vals], stars (owns vals L.txs)] :: logm lg st L :: l, fun w q => ?_, _, _, rfl, ⟨sa, sc, ta, tc, vals, rfl, ?_, ?_, ?_⟩, rfl⟩
  · have q1 : Sat E (stars (own 5 1 (.slice sa L.snap.length sc) L.snap.length (ints .u8 L.snap) :: own 36 1 (.slice ta L.txs.length tc) L.txs.length vals :: stars (owns vals L.txs) :: logm lg st L :: l)) w := q.sup (by (repeat (first | exact Sup.refl | apply Sup.cons (by (repeat (first | exact Pick.head | apply Pick.tail | apply Pick.app))) | apply Sup.app | apply Sup.skip | apply Sup.skips)))
    exact Sat.fold (m := [stars [_, _], stars (owns vals L.txs)]) (Sat.fold (m := [_, _]) q1)
  · exact (InL.folded (os.inl (l := [_, _]) Pick.head)).keepL
  · exact (InL.folded (ot.inl (l := [_, _]) (Pick.tail Pick.head))).keepL
  · exact hx.keepR
theorem same_spec (K1 K2 : HProp) (cs1 cs2 : List Value) (s1 s2 : List Int) (t1 t2 : List (List Int)) (l r1 r2 : List HProp) (h1 : StB K1 cs1 s1 t1) (h2 : StB K2 cs2 s2 t2) (p1 : Pick l K1 r1) (p2 : Pick l K2 r2)
    (hs1 : Bytes s1) (hs2 : Bytes s2) (ht1 : ∀ b ∈ t1, Bytes b) (ht2 : ∀ b ∈ t2, Bytes b) (hn : t1.length ≤ 1000000000) (be : Bool) (hbe : decide (s1 = s2 ∧ t1 = t2) = be) :
    Fc prog E 40 [.agg cs1.toArray, .agg cs2.toArray].toArray l (fun v l' => v = .bool be ∧ l' = l) := by
  refine Fc.eqs ?_
  obtain ⟨a1, c1, b1, d1, v1, rfl, ha1, hb1, hx1⟩ := h1
  obtain ⟨a2, c2, b2, d2, v2, rfl, ha2, hb2, hx2⟩ := h2
  obtain ⟨e1, he1⟩ : ∃ e, decide (s1 = s2) = e := ⟨_, rfl⟩
  obtain ⟨e2, he2⟩ : ∃ e, decide (t1 = t2) = e := ⟨_, rfl⟩
  have hand : be = (e1 && e2) := by rw [← hbe, ← he1, ← he2, Bool.decide_and]
  have cb : ∀ m, Fc prog E 57 [.slice a1 s1.length c1, .slice a2 s2.length c2].toArray (m ++ l) (fun v l' => v = .bool e1 ∧ l' = m ++ l) := fun m => by
    have z := bequal_spec E a1 a2 c1 c2 _ _ s1 s2 (m ++ l) rfl rfl hs1 hs2 ((ha1.kept p1).app m) ((ha2.kept p2).app m)
    rwa [he1] at z
  have cl : ∀ m, Fc prog E 58 [.slice b1 t1.length d1, .slice b2 t2.length d2].toArray (m ++ l) (fun v l' => v = .bool e2 ∧ l' = m ++ l) := fun m => by
    have z := lists_spec E b1 b2 _ _ d1 d2 v1 v2 t1 t2 (m ++ l) rfl rfl hn ((hb1.kept p1).app m) ((hb2.kept p2).app m) ht1 ht2
      (fun i b hb => let ⟨q, c, e, hi⟩ := hx1.get i b hb; ⟨q, c, e, (hi.kept p1).app m⟩) (fun i b hb => let ⟨q, c, e, hi⟩ := hx2.get i b hb; ⟨q, c, e, (hi.kept p2).app m⟩)
    rwa [he2] at z
  refine Fc.of_body (c := ?codeC) Try.func40 ?hb Try.ntmps40 ?hl ?_
  case hb => exact rfl
  case hl => exact rfl
  refine J.seq ?_
  refine J.region ?_
  refine JL.loud rfl (l_box rfl (by (first | rfl | simp)) rfl (fun b1 => ?_))
  refine JL.loud rfl (l_box rfl (by (first | rfl | simp)) rfl (fun b2 => ?_))
  refine JL.step (y_assign rfl) rfl rfl rfl ?_
  refine JL.nil ?_
  refine JE.then_normal ?_
  refine J.seq ?_
  refine J.region ?_
  refine JL.step (y_fieldAddr hT rfl rfl rfl rfl rfl rfl) rfl rfl rfl ?_
  refine JL.step (y_load1 hT rfl rfl rfl (by (exact Rd1.row (by (repeat (first | exact Pick.head | apply Pick.tail | apply Pick.app))) (by rfl)))) rfl rfl rfl ?_
  refine JL.step (y_fieldAddr hT rfl rfl rfl rfl rfl rfl) rfl rfl rfl ?_
  refine JL.step (y_load1 hT rfl rfl rfl (by (exact Rd1.row (by (repeat (first | exact Pick.head | apply Pick.tail | apply Pick.app))) (by rfl)))) rfl rfl rfl ?_
  refine JL.loud rfl (l_callF e57 rfl rfl (cb [_, _]) ?_)
  rintro _ _ ⟨rfl, rfl⟩
  refine JL.step (y_move rfl) rfl rfl rfl ?_
  all_goals (first | (refine JL.gsplit_dec rfl rfl rfl (fun h => ?_) (fun h => ?_) <;> try (first | (exfalso; omega) | exact absurd rfl h)) | (refine JL.gsplit rfl rfl rfl (fun h => ?_) (fun h => ?_) <;> try (first | cases h | (exfalso; simp at h; done))) | skip)
  all_goals (first | refine JL.gskip rfl rfl rfl rfl rfl rfl ?_ | refine JL.gskipU rfl rfl rfl rfl rfl ?_ | refine JL.gstep rfl rfl rfl (y_fieldAddr hT rfl rfl rfl rfl rfl rfl) rfl rfl ?_)
  all_goals (first | refine JL.gskip rfl rfl rfl rfl rfl rfl ?_ | refine JL.gskipU rfl rfl rfl rfl rfl ?_ | refine JL.gstep rfl rfl rfl (y_load1 hT rfl rfl rfl (by (exact Rd1.row (by (repeat (first | exact Pick.head | apply Pick.tail | apply Pick.app))) (by rfl)))) rfl rfl ?_)
  all_goals (first | refine JL.gskip rfl rfl rfl rfl rfl rfl ?_ | refine JL.gskipU rfl rfl rfl rfl rfl ?_ | refine JL.gstep rfl rfl rfl (y_fieldAddr hT rfl rfl rfl rfl rfl rfl) rfl rfl ?_)
  all_goals (first | refine JL.gskip rfl rfl rfl rfl rfl rfl ?_ | refine JL.gskipU rfl rfl rfl rfl rfl ?_ | refine JL.gstep rfl rfl rfl (y_load1 hT rfl rfl rfl (by (exact Rd1.row (by (repeat (first | exact Pick.head | apply Pick.tail | apply Pick.app))) (by rfl)))) rfl rfl ?_)
  all_goals (first | refine JL.gskip rfl rfl rfl rfl rfl rfl ?_ | refine JL.gskipU rfl rfl rfl rfl rfl ?_ | (refine JL.gloud rfl rfl rfl (l_callF e58 rfl rfl (cl [_, _]) ?_); rintro _ _ ⟨rfl, rfl⟩))
  all_goals (refine JL.step (y_pick rfl rfl rfl) rfl rfl rfl ?_)
  all_goals (refine JL.step (y_assign rfl) rfl rfl rfl ?_)
  all_goals refine JL.nil ?_
  all_goals refine JE.then_normal ?_
  all_goals
    refine J.ret ?_
    refine JE.ret1 (.inl rfl) rfl rfl (by (first | exact RV.tmp rfl | exact RV.cell1 hT rfl rfl rfl (by (exact Rd1.row (by (repeat (first | exact Pick.head | apply Pick.tail | apply Pick.app))) (by rfl))) | exact RV.cellN hT rfl rfl rfl (by (first | exact RdN.rowAll (by (repeat (first | exact Pick.head | apply Pick.tail | apply Pick.app))) | exact RdN.own (by (repeat (first | exact Pick.head | apply Pick.tail | apply Pick.app))))) (by (first | rfl | assumption | (simp; done) | omega)))) ?_
    exact ⟨by rw [hand]; first | rfl | (simp_all; done) | (cases e1 <;> simp_all; done) , fun w q => q.sup (by (repeat (first | exact Sup.refl | apply Sup.cons (by (repeat (first | exact Pick.head | apply Pick.tail | apply Pick.app))) | apply Sup.app | apply Sup.skip | apply Sup.skips)))⟩
theorem check_arm (lg st d : Nat) {S S' : Sb} {D D' : Dk} {L L' : Lg} {e : Int} (l : List HProp) (h : LH S D L) (k : Nat) (state : List Int) (p : Option Addr) (cap n : Nat) (hn : state.length = n) (hsm : Small state) (he : ckL L S (D.arm k) state = (L', S', D', e)) (hin : InL l p n cap (ints .u8 state)) :
    Fc prog E 18 [.pointer (some ⟨lg, 0, none⟩), .slice p n cap].toArray (logm lg st L :: row st 90 (scells S d) :: disk d (D.arm k) :: l) (fun v l' => v = .int .i64 e ∧ l' = logm lg st L' :: row st 90 (scells S' d) :: disk d D' :: l) := by
  subst hn
  have hp : (D.arm k).pending = [] := h.holds.none
  have q := lcheck_spec E lg st d L S (D.arm k) l h.holds.fits.hash h.holds.fits.two h.holds.fits.place (by rw [hp]; decide) state p cap hsm hin
  rwa [he] at q
theorem append_arm2 (lg st d : Nat) {S : Sb} {D D' : Dk} {L L' : Lg} {e : Int} (l : List HProp) (h : LH S D L) (k : Nat) (tx : List Int) (p : Option Addr) (cap n : Nat) (hn : tx.length = n) (hsm : Small tx) (hfew : L.txs.length < 512) (he : appL L S (D.arm k) tx = (L', D', e)) (hin : InL l p n cap (ints .u8 tx)) :
    Fc prog E 19 [.pointer (some ⟨lg, 0, none⟩), .slice p n cap].toArray (logm lg st L :: row st 90 (scells S d) :: disk d (D.arm k) :: l) (fun v l' => v = .int .i64 e ∧ l' = logm lg st L' :: row st 90 (scells S d) :: disk d D' :: l) :=
  append_arm E lg st d l h k tx p cap n hn hsm hfew he hin
/-- A broken log does nothing. -/
theorem append_broken (lg st d : Nat) {S : Sb} {D : Dk} {L : Lg} (l : List HProp) (hh : S.hash.length = 16) (h2 : 2 ≤ D.safe.length) (hp : D.pending.length ≤ 100000) (hfew : L.txs.length < 512) :
    Fc prog E 19 [.pointer (some ⟨lg, 0, none⟩), .slice none 0 0].toArray (logm lg st { L with broken := true } :: row st 90 (scells S d) :: disk d D :: l) (fun v l' => v = .int .i64 7 ∧ l' = logm lg st { L with broken := true } :: row st 90 (scells S d) :: disk d D :: l) := by
  have q := lappend_spec E lg st d { L with broken := true } S D l hh h2 [] none 0 0 rfl small_nil hp hfew InL.none12
  rwa [show appL { L with broken := true } S D [] = ({ L with broken := true }, D, 7) from if_pos rfl] at q
theorem check_broken (lg st d : Nat) {S : Sb} {D : Dk} {L : Lg} (l : List HProp) (hh : S.hash.length = 16) (h2 : 2 ≤ D.safe.length) (hpl : S.place = 0 ∨ S.place = 1) (hp : D.pending.length ≤ 100000) :
    Fc prog E 18 [.pointer (some ⟨lg, 0, none⟩), .slice none 0 0].toArray (logm lg st { L with broken := true } :: row st 90 (scells S d) :: disk d D :: l) (fun v l' => v = .int .i64 7 ∧ l' = logm lg st { L with broken := true } :: row st 90 (scells S d) :: disk d D :: l) := by
  have q := lcheck_spec E lg st d { L with broken := true } S D l hh h2 hpl hp [] none 0 small_nil InL.none12
  rwa [show ckL { L with broken := true } S D [] = ({ L with broken := true }, S, D, 7) from if_pos rfl] at q
theorem room_no (lg st d : Nat) {S : Sb} {D : Dk} {L : Lg} (h : LH S D L) (n : Nat) (hn : n ≤ 1000000) (hno : ¬ L.used + needN n ≤ D.slots) (l : List HProp) :
    Fc prog E 16 [.pointer (some ⟨lg, 0, none⟩), .int .i64 (n : Int)].toArray (logm lg st L :: row st 90 (scells S d) :: disk d D :: l) (fun v l' => v = .bool false ∧ l' = logm lg st L :: row st 90 (scells S d) :: disk d D :: l) := by
  have q := lroom_spec E lg st d L S D l h.holds.fits.hash h.holds.fits.two (n : Int) (by omega)
  rwa [show roomB L D (n : Int) = false from by rw [Bool.eq_false_iff]; intro e; exact hno ((roomB_iff h n).1 e)] at q
theorem ltxs_len1 (lg st : Nat) (L : Lg) (n : Nat) (l : List HProp) (hn : L.txs.length = n) : Fc prog E 24 [.pointer (some ⟨lg, 0, none⟩)].toArray (logm lg st L :: l) (fun v l' => ∃ a c K, v = .slice a n c ∧ l' = K :: logm lg st L :: l) := by
  subst hn
  exact ((ltxs_spec E lg st L l).mono fun v l' ⟨a, c, vals, e1, _, e2⟩ => ⟨stars (own 36 1 v L.txs.length vals :: owns vals L.txs) :: logm lg st L :: l, fun w q => Sat.fold (m := own 36 1 v L.txs.length vals :: owns vals L.txs) (by rw [e2] at q; exact q), a, c, _, e1, rfl⟩ : Fc prog E _ _ _ fun v l' => ∃ l'', (∀ w, Sat E (stars l') w → Sat E (stars l'') w) ∧ ∃ a c K, v = .slice a L.txs.length c ∧ l'' = K :: logm lg st L :: l).post
end Go.Proofs.Ytmgagkpokmaefaa
