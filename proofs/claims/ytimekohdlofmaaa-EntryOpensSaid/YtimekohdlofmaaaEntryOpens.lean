
/-
  hollowtreelaw22.EntryOpens returns true for every input, and leaves its input as it was. No condition.
-/
import Derived.Test.YtimekohdlofmaaaJoin3
import Derived.Test.YtimekohdlofmaaaJoin7
import Derived.Test.YtimekohdlofmaaaJoin10
namespace Go.Proofs.Ytimekohdlofmaaa
open Go Go.SL
section
attribute [local irreducible] J JL JE JM LS Y Fc RV Code.wp wpList Code.wpIn wpListIn
attribute [local irreducible] Yc
variable (E : World)
set_option maxHeartbeats 1000000 in
theorem entry_opens (p : Option Addr) (cap : Nat) (ys : List Int) (q : Option Addr) (qc : Nat) (xs : List Sn) (r : List HProp) (hy : Bytes ys) (hyin : InL r p ys.length cap (ints .u8 ys)) (hin : InL r q xs.length qc (xs.map snV)) (hx : ∀ s ∈ xs, InL r s.1 s.2.2.length s.2.1 (ints .u8 s.2.2) ∧ Bytes s.2.2) :
    Fc prog E 3 [.slice p ys.length cap, .slice q xs.length qc].toArray r (fun v l' => v = .bool true ∧ l' = r) := by
  refine Fc.eqs ?_
  obtain ⟨hL0, hl0⟩ := lh_format (n := 64) (by decide) (by decide)
  have hfmt : ∀ d l, Fc prog E 8 [.pointer (some ⟨d, 0, none⟩)].toArray (disk d (Dk.new 64) :: l) (fun v l' => ∃ st, v = .tuple #[.pointer (some ⟨st, 0, none⟩), .int .i64 0] ∧ l' = row st 74 (scells sb0 d) :: disk d (Dk.new 64).formatted :: l) := fun d l => format_good E d (Dk.new 64) l (by simp [Dk.new]) rfl rfl (by simp [Dk.new])
  obtain ⟨D0, hD0⟩ : ∃ D0, (Dk.new 64).formatted = D0 := ⟨_, rfl⟩
  rw [hD0] at hL0 hl0 hfmt
  obtain ⟨m, hm⟩ : ∃ m, min ys.length 30 = m := ⟨_, rfl⟩
  obtain ⟨sn, hsn⟩ : ∃ sn, ys.take m = sn := ⟨_, rfl⟩
  have hsl : sn.length = m := by rw [← hsn, List.length_take]; omega
  have hsm : Small sn := ⟨by rw [← hsn]; exact hy.take m, by omega⟩
  have hsin : InL r p m cap (ints .u8 sn) := by
    have z := hyin.cutTo m m (by omega)
    rwa [show (ints .u8 ys).take m = ints .u8 sn by rw [← hsn]; simp [ints, List.map_take]] at z
  obtain ⟨mm, hmm⟩ : ∃ mm, min xs.length 12 = mm := ⟨_, rfl⟩
  have hb63 : ∀ {p n c cs}, InL r p n c cs → n ≤ 9223372036854775807 := fun {p n c cs} h => by
    have h1 := h.le
    have h2 := h.most
    unfold maxLen at h2
    omega
  have hy63 := hb63 hyin
  have hx63 := hb63 hin
  have hhf : 15 ≤ D0.half := by unfold Dk.half; omega
  have cget : ∀ (a : Option Addr) (c : Nat) (b : List Int) (k : Nat) l, b.length = k → k = 8 → InL l a k c (ints .u8 b) → Fc prog E 11 [.slice a k c].toArray l (fun v l' => v = Q (leG b 8) ∧ l' = l) := fun a c b k l hb h8 h => by
    subst hb
    have z := octGet64_spec E a c b l h
    rwa [show min b.length 8 = 8 by omega] at z
  refine Fc.of_body (c := ?codeC) Try.func3 ?hb Try.ntmps3 ?hl ?_
  case hb => exact rfl
  case hl => exact rfl
  refine J.seq ?_
  refine J.region ?_
  refine JL.step (y_assign rfl) rfl rfl rfl ?_
  refine JL.nil ?_
  refine JE.then_normal ?_
  refine J.seq ?_
  refine J.seq ?_
  refine J.region ?_
  refine JL.loud rfl (l_callF e6 rfl rfl (wakes22_spec E _) ?_)
  rintro _ l1 ⟨rfl, e1⟩
  obtain rfl := e1.symm
  refine JL.step (y_not rfl) rfl rfl rfl ?_
  refine JL.nil ?_
  refine JE.then_normal ?_
  refine J.cond_f rfl (by (first | rfl | assumption | (simp; done) | (simp; omega))) ?_
  refine J.skip ?_
  refine JE.then_normal ?_
  refine J.seq ?_
  refine J.region ?_
  refine JL.loud rfl (l_callF e7 rfl rfl (new_good E 64 _ (by decide) (by decide)) ?_)
  rintro _ _ ⟨d, rfl, rfl⟩
  refine JL.step (y_move rfl) rfl rfl rfl (JL.step (y_extract rfl rfl) rfl rfl rfl (JL.step (y_extract rfl rfl) rfl rfl rfl (JL.step (y_assign rfl) rfl rfl rfl (JL.step (y_assign rfl) rfl rfl rfl ?_))))
  refine JL.nil ?_
  refine JE.then_normal ?_
  refine J.seq ?_
  refine J.seq ?_
  refine J.region ?_
  refine JL.step (y_move rfl) rfl rfl rfl (JL.step (y_neq rfl rfl) rfl rfl rfl ?_)
  refine JL.nil ?_
  refine JE.then_normal ?_
  refine J.cond_f rfl (by (first | rfl | assumption | (simp; done) | (simp; omega))) ?_
  refine J.skip ?_
  refine JE.then_normal ?_
  refine J.seq ?_
  refine J.region ?_
  refine JL.step (y_move rfl) rfl rfl rfl ?_
  refine JL.loud rfl (l_callF e8 rfl rfl (hfmt d _) ?_)
  rintro _ _ ⟨st, rfl, rfl⟩
  refine JL.step (y_move rfl) rfl rfl rfl (JL.step (y_extract rfl rfl) rfl rfl rfl (JL.step (y_extract rfl rfl) rfl rfl rfl (JL.step (y_assign rfl) rfl rfl rfl (JL.step (y_assign rfl) rfl rfl rfl ?_))))
  refine JL.nil ?_
  refine JE.then_normal ?_
  refine J.seq ?_
  refine J.seq ?_
  refine J.region ?_
  refine JL.step (y_move rfl) rfl rfl rfl (JL.step (y_neq rfl rfl) rfl rfl rfl ?_)
  refine JL.nil ?_
  refine JE.then_normal ?_
  refine J.cond_f rfl (by (first | rfl | assumption | (simp; done) | (simp; omega))) ?_
  refine J.skip ?_
  refine JE.then_normal ?_
  refine J.seq ?_
  refine J.region ?_
  refine JL.step (y_move rfl) rfl rfl rfl ?_
  refine JL.loud rfl (l_callF e9 rfl rfl (Fc.on (Split.cons (by (repeat (first | exact Pick.head | apply Pick.tail | apply Pick.app))) (Split.cons (by (repeat (first | exact Pick.head | apply Pick.tail | apply Pick.app))) Split.nil)) (lopenA_spec E st d sb0 D0 lg0 none _ hL0)) ?_)
  rintro _ _ ⟨lg, rfl, rfl⟩
  refine JL.step (y_move rfl) rfl rfl rfl (JL.step (y_extract rfl rfl) rfl rfl rfl (JL.step (y_extract rfl rfl) rfl rfl rfl (JL.step (y_assign rfl) rfl rfl rfl (JL.step (y_assign rfl) rfl rfl rfl ?_))))
  refine JL.nil ?_
  refine JE.then_normal ?_
  refine J.seq ?_
  refine J.seq ?_
  refine J.region ?_
  refine JL.step (y_move rfl) rfl rfl rfl (JL.step (y_neq rfl rfl) rfl rfl rfl ?_)
  refine JL.nil ?_
  refine JE.then_normal ?_
  refine J.cond_f rfl (by (first | rfl | assumption | (simp; done) | (simp; omega))) ?_
  refine J.skip ?_
  refine JE.then_normal ?_
  refine J.seq ?_
  refine J.region ?_
  refine JL.step (y_move rfl) rfl rfl rfl (JL.step (y_move rfl) rfl rfl rfl (JL.step (y_len_slice hT rfl rfl rfl) rfl rfl rfl ?_))
  refine JL.step (y_min2 (m := (m : Int)) rfl rfl (by omega)) rfl rfl rfl ?_
  refine JL.step (y_cutTo hT rfl rfl rfl rfl rfl rfl (show m ≤ ys.length by omega) hyin) rfl rfl rfl ?_
  refine JL.step (y_assign rfl) rfl rfl rfl ?_
  refine JL.nil ?_
  refine JE.then_normal ?_
  obtain ⟨z8, hz8⟩ : ∃ z8, (sn ++ List.replicate 8 0).take 8 = z8 := ⟨_, rfl⟩
  have hz8l : z8.length = 8 := by rw [← hz8, List.length_take]; simp
  by_cases hm0 : m = 0
  ·
    have hbg : decide ((0 : Int) < m) = false := decide_eq_false (by omega)
    have hb0 : decide ((m : Int) = 0) = true := decide_eq_true (by omega)
    obtain ⟨b0, hb8⟩ : ∃ b, decide ((m : Int) = 8) = b := ⟨_, rfl⟩
    obtain ⟨S, D1, L1, R0, hLI, hL1, hl1, hu1, ht1, htn, hR0, hS, hD1, hLe⟩ : ∃ S D1 L1 R0, LastIs L1 R0 (leG z8 8) ∧ LH S D1 L1 ∧ D1.safe.length = 64 ∧ L1.used = 0 ∧ L1.txs = [] ∧ S.turn.toNat ≤ 1 ∧ R0 = true ∧ S = sb0 ∧ D1 = D0 ∧ L1 = lg0 := ⟨sb0, D0, lg0, true, by
      have e : sn = [] := List.eq_nil_of_length_eq_zero (by omega)
      unfold LastIs
      rw [entryN_lg0, if_pos rfl, ← hz8, e]
      rfl, hL0, hl0, rfl, rfl, Nat.zero_le _, rfl, rfl, rfl, rfl⟩
    subst hR0
    refine J.seq ?_
    refine J.seq ?_
    refine J.region ?_
    refine JL.step (y_move rfl) rfl rfl rfl (JL.step (y_len_slice hT rfl rfl rfl) rfl rfl rfl ?_)
    refine JL.step (y_gtrB rfl rfl hbg) rfl rfl rfl ?_
    refine JL.step (y_move rfl) rfl rfl rfl ?_
    all_goals (first | (refine JL.gsplit_dec rfl rfl rfl (fun h => ?_) (fun h => ?_) <;> try (first | (exfalso; omega) | exact absurd rfl h)) | (refine JL.gsplit rfl rfl rfl (fun h => ?_) (fun h => ?_) <;> try (first | cases h | (exfalso; simp at h; done))) | skip)
    all_goals (first | refine JL.gskip rfl rfl rfl rfl rfl rfl ?_ | refine JL.gskipU rfl rfl rfl rfl rfl ?_ | refine JL.gstep rfl rfl rfl (y_move rfl) rfl rfl ?_)
    all_goals (first | refine JL.gskip rfl rfl rfl rfl rfl rfl ?_ | refine JL.gskipU rfl rfl rfl rfl rfl ?_ | refine JL.gstep rfl rfl rfl (y_move rfl) rfl rfl ?_)
    all_goals (first | refine JL.gskip rfl rfl rfl rfl rfl rfl ?_ | refine JL.gskipU rfl rfl rfl rfl rfl ?_ | (refine JL.gloud rfl rfl rfl (l_callF e10 rfl rfl (Fc.on (Split.cons (by (repeat (first | exact Pick.head | apply Pick.tail | apply Pick.app))) (Split.cons (by (repeat (first | exact Pick.head | apply Pick.tail | apply Pick.app))) (Split.cons (by (repeat (first | exact Pick.head | apply Pick.tail | apply Pick.app))) Split.nil))) (check_lh E lg st d _ hL0 sn p cap m hsl hsm eC (by (repeat (first | assumption | apply InL.cons | apply InL.app))))) ?_); rintro _ _ ⟨rfl, rfl⟩))
    all_goals (first | refine JL.gskip rfl rfl rfl rfl rfl rfl ?_ | refine JL.gskipU rfl rfl rfl rfl rfl ?_ | refine JL.gstep rfl rfl rfl (y_neq rfl rfl) rfl rfl ?_)
    all_goals (refine JL.step (y_pick rfl rfl rfl) rfl rfl rfl ?_)
    all_goals refine JL.nil ?_
    all_goals refine JE.then_normal ?_
    all_goals
      refine J.cond_f rfl (by (first | rfl | assumption | (simp; done) | (simp; omega))) ?_
      refine J.skip ?_
    all_goals refine JE.then_normal ?_
    all_goals
      refine J.seq ?_
      refine J.region ?_
      refine JL.step (y_move rfl) rfl rfl rfl (JL.step (y_len_slice hT rfl rfl rfl) rfl rfl rfl ?_)
      refine JL.step (y_eqlB rfl rfl hb0) rfl rfl rfl ?_
      refine JL.step (y_move rfl) rfl rfl rfl ?_
      all_goals (first | (refine JL.gsplit_dec rfl rfl rfl (fun h => ?_) (fun h => ?_) <;> try (first | (exfalso; omega) | exact absurd rfl h)) | (refine JL.gsplit rfl rfl rfl (fun h => ?_) (fun h => ?_) <;> try (first | cases h | (exfalso; simp at h; done))) | skip)
      all_goals (first | refine JL.gskip rfl rfl rfl rfl rfl rfl ?_ | refine JL.gskipU rfl rfl rfl rfl rfl ?_ | refine JL.gstep rfl rfl rfl (y_move rfl) rfl rfl ?_)
      all_goals (first | refine JL.gskip rfl rfl rfl rfl rfl rfl ?_ | refine JL.gskipU rfl rfl rfl rfl rfl ?_ | refine JL.gstep rfl rfl rfl (y_len_slice hT rfl rfl rfl) rfl rfl ?_)
      all_goals (first | refine JL.gskip rfl rfl rfl rfl rfl rfl ?_ | refine JL.gskipU rfl rfl rfl rfl rfl ?_ | (refine JL.gstep rfl rfl rfl (y_eqlB rfl rfl hb8) rfl rfl ?_))
      all_goals (refine JL.step (y_pick rfl rfl rfl) rfl rfl rfl ?_)
      all_goals (refine JL.step (y_assign rfl) rfl rfl rfl ?_)
      all_goals refine JL.nil ?_
      all_goals refine JE.then_normal ?_
      all_goals
        refine J.seq ?_
        refine J.region ?_
        refine JL.loud rfl (l_buildSlice0 hT rfl rfl rfl rfl (fun b6 => ?_))
        refine JL.step (y_move rfl) rfl rfl rfl ?_
        refine JL.loud rfl (l_appendIn (nn := 0) (m := m) hT rfl rfl rfl rfl rfl rfl rfl rfl (by (repeat (first | exact Pick.head | apply Pick.tail | apply Pick.app))) (by (repeat (first | assumption | apply InL.cons | apply InL.app))) (by rw [show i5.size = 1 from rfl]; simp [ints, hsl]) (ints_one _ _) (by rw [show i5.bytes = 1 from rfl]; omega) (by omega) rfl (fun a1 c1 hc1 => ?_))
        rw [Nat.zero_add, List.nil_append (ints .u8 sn)]
        refine JL.loud rfl (l_appendZ (m := 8) hT rfl rfl rfl rfl rfl rfl rfl rfl rfl rfl rfl (by (repeat (first | exact Pick.head | apply Pick.tail | apply Pick.app))) (by decide) (by rw [show i5.bytes = 1 from rfl]; omega) (by unfold maxLen; omega) rfl (fun a2 c2 hc2 => ?_))
        rw [show ints .u8 sn ++ List.replicate 8 (Value.int .u8 0) = ints .u8 (sn ++ List.replicate 8 0) by simp [ints]]
        refine JL.fact (p := OwnAt a2 (m + 8) c2 (ints .u8 (sn ++ List.replicate 8 0))) (fun w s => Sat.own_at (s.pick (by (repeat (first | exact Pick.head | apply Pick.tail | apply Pick.app))))) fun oS => ?_
        have hcut : ∀ l r', Pick l (own 5 1 (.slice a2 (m + 8) c2) (m + 8) (ints .u8 (sn ++ List.replicate 8 0))) r' → InL l a2 8 c2 (ints .u8 z8) := fun l r' hp => by
          have z := (oS.inl hp).cutTo 8 8 (by omega)
          rwa [show (ints .u8 (sn ++ List.replicate 8 0)).take 8 = ints .u8 z8 by rw [← hz8]; simp [ints, List.map_take]] at z
        refine JL.step (y_cutTo hT rfl rfl rfl rfl rfl rfl (show 8 ≤ m + 8 by omega) (oS.inl (l := [own 5 1 (.slice a2 (m + 8) c2) (m + 8) (ints .u8 (sn ++ List.replicate 8 0))]) Pick.head)) rfl rfl rfl ?_
        refine JL.loud rfl (l_callF e11 rfl rfl (cget a2 c2 z8 8 _ hz8l rfl (hcut _ _ (by (repeat (first | exact Pick.head | apply Pick.tail | apply Pick.app))))) ?_)
        rintro _ _ ⟨rfl, rfl⟩
        refine JL.step (y_assign rfl) rfl rfl rfl ?_
        refine JL.nil ?_
        refine JE.then_normal ?_
        refine J.seq ?_
        refine J.seq ?_
        refine J.region ?_
        refine JL.step (y_move rfl) rfl rfl rfl (JL.step (y_move rfl) rfl rfl rfl (JL.step (y_len_slice hT rfl rfl rfl) rfl rfl rfl ?_))
        refine JL.step (y_min2 (m := (mm : Int)) rfl rfl (by omega)) rfl rfl rfl ?_
        refine JL.step (y_cutTo hT rfl rfl rfl rfl rfl rfl (show mm ≤ xs.length by omega) hin) rfl rfl rfl ?_
        refine JL.step (y_len_slice hT rfl rfl rfl) rfl rfl rfl (JL.step (y_move rfl) rfl rfl rfl ?_)
        refine JL.nil ?_
        refine JE.then_normal ?_
        refine J.block ?_
        refine J.lists (l' := logm lg st L1 :: row st 74 (scells S d) :: disk d D1 :: r) (fun w s => by rw [hS, hD1, hLe]; exact s.sup (by (repeat (first | exact Sup.refl | apply Sup.cons (by (repeat (first | exact Pick.head | apply Pick.tail | apply Pick.app))) | apply Sup.app | apply Sup.skip | apply Sup.skips)))) ?_
        refine J.loop (α := Nat × Dk × Lg × Bool × BitVec 64) (fun s => s.1 ≤ mm ∧ LH S s.2.1 s.2.2.1 ∧ s.2.1.safe.length = 64 ∧ s.2.2.1.used ≤ 2 * s.1 ∧ s.2.2.1.txs.length ≤ s.1 ∧ LastIs s.2.2.1 s.2.2.2.1 s.2.2.2.2) (fun s => [(5, .pointer (some ⟨d, 0, none⟩)), (8, .pointer (some ⟨lg, 0, none⟩)), (9, .bool s.2.2.2.1), (10, Q s.2.2.2.2), (69, .slice q mm qc), (70, .int .i64 mm), (71, .int .i64 s.1)]) (fun s => logm lg st s.2.2.1 :: row st 74 (scells S d) :: disk d s.2.1 :: r) (fun s => mm - s.1) (0, D1, L1, true, leG z8 8) ⟨Nat.zero_le _, hL1, hl1, by dsimp only; omega, by dsimp only; rw [ht1]; exact Nat.zero_le _, hLI⟩ ⟨rfl, rfl, rfl, rfl, rfl, rfl, rfl, trivial⟩ (fun w h => h.sup (by (repeat (first | exact Sup.refl | apply Sup.cons (by (repeat (first | exact Pick.head | apply Pick.tail | apply Pick.app))) | apply Sup.app | apply Sup.skip | apply Sup.skips)))) ?_
        rintro ⟨i, D, L, right, last⟩ ⟨hi, hL, hl, hu, hfew, hLI⟩
        dsimp only at hi hL hl hu hfew hLI ⊢
        refine J.seq ?_
        refine J.region ?_
        refine JL.step (y_lss rfl rfl) rfl rfl rfl ?_
        refine JL.nil ?_
        refine JE.then_normal ?_
        refine J.seq ?_
        focus
          first | apply J.cond_dec rfl | apply J.cond rfl
          focus
            intro h
            try (first | (exfalso; omega) | (cases h; done) | (exfalso; simp at h; done) | subst h)
            all_goals
              refine J.skip ?_
          rotate_right 1
          focus
            intro h
            try (first | (exfalso; omega) | (cases h; done) | (exfalso; simp at h; done) | subst h)
            all_goals
              refine J.exit ?_
              refine JE.then_exit ?_
              refine JE.then_exit ?_
              refine JE.block_exit ?_
              refine JE.then_normal ?_
              have hop := fun l => eopen_lh E d hL (by omega) none l
              cases right
              ·
                have hN : entryN L = none := hLI
                have hop2 : ∀ l, Fc prog E 13 [.pointer (some ⟨d, 0, none⟩)].toArray (disk d D :: l) (fun v l' => v = .tuple #[.pointer none, .int .i64 320] ∧ l' = disk d D :: l) := fun l => (hop l).mono fun v l' z => by
                  rcases z with ⟨n, x, lg, st, e1, _⟩ | ⟨_, z⟩
                  · rw [hN] at e1; cases e1
                  · exact z
                refine J.seq ?_
                refine J.region ?_
                refine JL.step (y_move rfl) rfl rfl rfl ?_
                refine JL.loud rfl (l_callF e13 rfl rfl (Fc.on (Split.cons (by (repeat (first | exact Pick.head | apply Pick.tail | apply Pick.app))) Split.nil) (hop2 _)) ?_)
                rintro _ _ ⟨rfl, rfl⟩
                refine JL.step (y_move rfl) rfl rfl rfl (JL.step (y_extract rfl rfl) rfl rfl rfl (JL.step (y_extract rfl rfl) rfl rfl rfl (JL.step (y_assign rfl) rfl rfl rfl (JL.step (y_assign rfl) rfl rfl rfl ?_))))
                refine JL.nil ?_
                refine JE.then_normal ?_
                refine J.seq ?_
                refine J.seq ?_
                refine J.region ?_
                refine JL.step (y_move rfl) rfl rfl rfl (JL.step (y_not rfl) rfl rfl rfl ?_)
                refine JL.nil ?_
                refine JE.then_normal ?_
                refine J.cond_t rfl (by (first | rfl | assumption | (simp; done) | (simp; omega))) ?_
                refine J.seq ?_
                refine J.region ?_
                refine JL.step (y_move rfl) rfl rfl rfl (JL.step (y_eql rfl rfl) rfl rfl rfl (JL.step (y_move rfl) rfl rfl rfl ?_))
                all_goals (first | (refine JL.gsplit_dec rfl rfl rfl (fun h => ?_) (fun h => ?_) <;> try (first | (exfalso; omega) | exact absurd rfl h)) | (refine JL.gsplit rfl rfl rfl (fun h => ?_) (fun h => ?_) <;> try (first | cases h | (exfalso; simp at h; done))) | skip)
                all_goals (first | refine JL.gskip rfl rfl rfl rfl rfl rfl ?_ | refine JL.gskipU rfl rfl rfl rfl rfl ?_ | refine JL.gstep rfl rfl rfl (y_move rfl) rfl rfl ?_)
                all_goals (first | refine JL.gskip rfl rfl rfl rfl rfl rfl ?_ | refine JL.gskipU rfl rfl rfl rfl rfl ?_ | refine JL.gstep rfl rfl rfl (y_ptr_eq_nil hT rfl rfl rfl rfl) rfl rfl ?_)
                all_goals (refine JL.step (y_pick rfl rfl rfl) rfl rfl rfl ?_)
                all_goals (refine JL.step (y_assign rfl) rfl rfl rfl ?_)
                all_goals refine JL.nil ?_
                all_goals refine JE.then_normal ?_
                all_goals
                  refine J.ret ?_
                  refine JE.then_ret ?_
                  refine JE.ret1 (.inl rfl) rfl rfl (by (first | exact RV.tmp rfl | exact RV.cell1 hT rfl rfl rfl (by (exact Rd1.row (by (repeat (first | exact Pick.head | apply Pick.tail | apply Pick.app))) (by rfl))) | exact RV.cellN hT rfl rfl rfl (by (first | exact RdN.rowAll (by (repeat (first | exact Pick.head | apply Pick.tail | apply Pick.app))) | exact RdN.own (by (repeat (first | exact Pick.head | apply Pick.tail | apply Pick.app))))) (by (first | rfl | assumption | (simp; done) | omega)))) ?_
                  exact ⟨rfl, fun w q => q.sup (by (repeat (first | exact Sup.refl | apply Sup.cons (by (repeat (first | exact Pick.head | apply Pick.tail | apply Pick.app))) | apply Sup.app | apply Sup.skip | apply Sup.skips)))⟩
              ·
                have hN : entryN L = some last := hLI
                have hop2 : ∀ l, Fc prog E 13 [.pointer (some ⟨d, 0, none⟩)].toArray (disk d D :: l) (fun v l' => ∃ x lg st, v = .tuple #[.pointer (some ⟨x, 0, none⟩), .int .i64 0] ∧ l' = entR x lg false last 0 0 (.map none) :: logm lg st L :: row st 74 (scells S d) :: disk d D :: l) := fun l => (hop l).mono fun v l' z => by
                  rcases z with ⟨n, x, lg, st, e1, e2, e3⟩ | ⟨e1, _⟩
                  · rw [hN] at e1
                    cases e1
                    exact ⟨x, lg, st, e2, e3⟩
                  · rw [hN] at e1; cases e1
                refine J.seq ?_
                refine J.region ?_
                refine JL.step (y_move rfl) rfl rfl rfl ?_
                refine JL.loud rfl (l_callF e13 rfl rfl (Fc.on (Split.cons (by (repeat (first | exact Pick.head | apply Pick.tail | apply Pick.app))) Split.nil) (hop2 _)) ?_)
                rintro _ _ ⟨x, lg2, st2, rfl, rfl⟩
                refine JL.step (y_move rfl) rfl rfl rfl (JL.step (y_extract rfl rfl) rfl rfl rfl (JL.step (y_extract rfl rfl) rfl rfl rfl (JL.step (y_assign rfl) rfl rfl rfl (JL.step (y_assign rfl) rfl rfl rfl ?_))))
                refine JL.nil ?_
                refine JE.then_normal ?_
                refine J.seq ?_
                refine J.seq ?_
                refine J.region ?_
                refine JL.step (y_move rfl) rfl rfl rfl (JL.step (y_not rfl) rfl rfl rfl ?_)
                refine JL.nil ?_
                refine JE.then_normal ?_
                refine J.cond_f rfl (by (first | rfl | assumption | (simp; done) | (simp; omega))) ?_
                refine J.skip ?_
                refine JE.then_normal ?_
                refine J.seq ?_
                refine J.seq ?_
                refine J.region ?_
                refine JL.step (y_move rfl) rfl rfl rfl (JL.step (y_neq rfl rfl) rfl rfl rfl (JL.step (y_move rfl) rfl rfl rfl ?_))
                all_goals (first | (refine JL.gsplit_dec rfl rfl rfl (fun h => ?_) (fun h => ?_) <;> try (first | (exfalso; omega) | exact absurd rfl h)) | (refine JL.gsplit rfl rfl rfl (fun h => ?_) (fun h => ?_) <;> try (first | cases h | (exfalso; simp at h; done))) | skip)
                all_goals (first | refine JL.gskip rfl rfl rfl rfl rfl rfl ?_ | refine JL.gskipU rfl rfl rfl rfl rfl ?_ | refine JL.gstep rfl rfl rfl (y_move rfl) rfl rfl ?_)
                all_goals (first | refine JL.gskip rfl rfl rfl rfl rfl rfl ?_ | refine JL.gskipU rfl rfl rfl rfl rfl ?_ | refine JL.gstep rfl rfl rfl (y_ptr_eq_nil hT rfl rfl rfl rfl) rfl rfl ?_)
                all_goals (refine JL.step (y_pick rfl rfl rfl) rfl rfl rfl ?_)
                all_goals (refine JL.step (y_move rfl) rfl rfl rfl ?_)
                all_goals (first | (refine JL.gsplit_dec rfl rfl rfl (fun h => ?_) (fun h => ?_) <;> try (first | (exfalso; omega) | exact absurd rfl h)) | (refine JL.gsplit rfl rfl rfl (fun h => ?_) (fun h => ?_) <;> try (first | cases h | (exfalso; simp at h; done))) | skip)
                all_goals (first | refine JL.gskip rfl rfl rfl rfl rfl rfl ?_ | refine JL.gskipU rfl rfl rfl rfl rfl ?_ | refine JL.gstep rfl rfl rfl (y_move rfl) rfl rfl ?_)
                all_goals (first | refine JL.gskip rfl rfl rfl rfl rfl rfl ?_ | refine JL.gskipU rfl rfl rfl rfl rfl ?_ | (refine JL.gloud rfl rfl rfl (l_callF e14 rfl rfl (Fc.on (Split.cons (by (repeat (first | exact Pick.head | apply Pick.tail | apply Pick.app))) Split.nil) (eround_spec E x lg2 false last 0 _ _ _)) ?_); rintro _ _ ⟨rfl, rfl⟩))
                all_goals (first | refine JL.gskip rfl rfl rfl rfl rfl rfl ?_ | refine JL.gskipU rfl rfl rfl rfl rfl ?_ | refine JL.gstep rfl rfl rfl (y_move rfl) rfl rfl ?_)
                all_goals (first | refine JL.gskip rfl rfl rfl rfl rfl rfl ?_ | refine JL.gskipU rfl rfl rfl rfl rfl ?_ | refine JL.gstep rfl rfl rfl (y_neqB (b := false) rfl rfl (decide_eq_false (fun h => h rfl))) rfl rfl ?_)
                all_goals (refine JL.step (y_pick rfl rfl rfl) rfl rfl rfl ?_)
                all_goals (refine JL.step (y_move rfl) rfl rfl rfl ?_)
                all_goals (first | (refine JL.gsplit_dec rfl rfl rfl (fun h => ?_) (fun h => ?_) <;> try (first | (exfalso; omega) | exact absurd rfl h)) | (refine JL.gsplit rfl rfl rfl (fun h => ?_) (fun h => ?_) <;> try (first | cases h | (exfalso; simp at h; done))) | skip)
                all_goals (first | refine JL.gskip rfl rfl rfl rfl rfl rfl ?_ | refine JL.gskipU rfl rfl rfl rfl rfl ?_ | refine JL.gstep rfl rfl rfl (y_move rfl) rfl rfl ?_)
                all_goals (first | refine JL.gskip rfl rfl rfl rfl rfl rfl ?_ | refine JL.gskipU rfl rfl rfl rfl rfl ?_ | (refine JL.gloud rfl rfl rfl (l_callF e15 rfl rfl (Fc.on (Split.cons (by (repeat (first | exact Pick.head | apply Pick.tail | apply Pick.app))) Split.nil) (ephase_spec E x lg2 false last 0 _ _ _)) ?_); rintro _ _ ⟨rfl, rfl⟩))
                all_goals (first | refine JL.gskip rfl rfl rfl rfl rfl rfl ?_ | refine JL.gskipU rfl rfl rfl rfl rfl ?_ | refine JL.gstep rfl rfl rfl (y_neq rfl rfl) rfl rfl ?_)
                all_goals (refine JL.step (y_pick rfl rfl rfl) rfl rfl rfl ?_)
                all_goals refine JL.nil ?_
                all_goals refine JE.then_normal ?_
                all_goals
                  refine J.cond_f rfl (by (first | rfl | assumption | (simp; done) | (simp; omega))) ?_
                  refine J.skip ?_
                all_goals refine JE.then_normal ?_
                all_goals
                  have hM : last + 1#64 = 0#64 ↔ last.toNat = 18446744073709551615 := ⟨fun h => by
                    have z := congrArg BitVec.toNat h
                    rw [BitVec.toNat_add] at z
                    have hlt := last.isLt
                    simp at z
                    omega, fun h => by
                    apply BitVec.eq_of_toNat_eq
                    rw [BitVec.toNat_add, h]
                    rfl⟩
                  by_cases hlast : last + 1#64 = 0#64
                  ·
                    have hb9 : decide ((last.toNat : Int) = 18446744073709551615) = true := decide_eq_true (by have := hM.1 hlast; omega)
                    refine J.seq ?_
                    refine J.region ?_
                    refine JL.step (y_move rfl) rfl rfl rfl ?_
                    refine JL.loud rfl (l_callF e17 rfl rfl (keys22_spec E 1 _ 1 (by decide)) ?_)
                    rintro _ _ ⟨ka, kc, rfl, rfl⟩
                    refine JL.loud rfl (l_callF e16 rfl rfl (Fc.on (Split.cons (by (repeat (first | exact Pick.head | apply Pick.tail | apply Pick.app))) Split.nil) (announce_full E x lg2 last _ _ ka kc 1 _ (by decide) (by decide) hlast)) ?_)
                    rintro _ _ ⟨rfl, rfl⟩
                    refine JL.step (y_move rfl) rfl rfl rfl (JL.step (y_extract rfl rfl) rfl rfl rfl (JL.step (y_extract rfl rfl) rfl rfl rfl ?_))
                    refine JL.loud rfl (l_alloc hT rfl rfl (by (first | rfl | simp)) rfl (fun b13 => ?_))
                    refine JL.loud rfl (l_storeAll hT rfl rfl rfl (by (first | rfl | assumption | (simp; done) | omega)) (by (first | assumption | exact ones_of rfl | exact encW_one _ | exact encB_one _ | (intro u hu; simp at hu; rcases hu with rfl | rfl <;> rfl) | (intro u hu; simp at hu; subst hu; rfl) | simp)) (by (repeat (first | exact Pick.head | apply Pick.tail | apply Pick.app))) (by (first | rfl | assumption | (simp; done) | omega)) ?_)
                    refine JL.step (y_assign rfl) rfl rfl rfl ?_
                    refine JL.nil ?_
                    refine JE.then_normal ?_
                    refine J.seq ?_
                    refine J.seq ?_
                    refine J.region ?_
                    refine JL.step (y_move rfl) rfl rfl rfl (JL.step (y_eql rfl rfl) rfl rfl rfl ?_)
                    refine JL.nil ?_
                    refine JE.then_normal ?_
                    refine J.cond_t rfl (by (first | rfl | assumption | (simp; done) | (simp; omega))) ?_
                    refine J.seq ?_
                    refine J.region ?_
                    refine JL.step (y_move rfl) rfl rfl rfl (JL.step (y_eql rfl rfl) rfl rfl rfl (JL.step (y_move rfl) rfl rfl rfl ?_))
                    all_goals (first | (refine JL.gsplit_dec rfl rfl rfl (fun h => ?_) (fun h => ?_) <;> try (first | (exfalso; omega) | exact absurd rfl h)) | (refine JL.gsplit rfl rfl rfl (fun h => ?_) (fun h => ?_) <;> try (first | cases h | (exfalso; simp at h; done))) | skip)
                    all_goals (first | refine JL.gskip rfl rfl rfl rfl rfl rfl ?_ | refine JL.gskipU rfl rfl rfl rfl rfl ?_ | refine JL.gstep rfl rfl rfl (y_move rfl) rfl rfl ?_)
                    all_goals (first | refine JL.gskip rfl rfl rfl rfl rfl rfl ?_ | refine JL.gskipU rfl rfl rfl rfl rfl ?_ | (refine JL.gloud rfl rfl rfl (l_callF e14 rfl rfl (Fc.on (Split.cons (by (repeat (first | exact Pick.head | apply Pick.tail | apply Pick.app))) Split.nil) (eround_spec E x lg2 false last 0 _ _ _)) ?_); rintro _ _ ⟨rfl, rfl⟩))
                    all_goals (first | refine JL.gskip rfl rfl rfl rfl rfl rfl ?_ | refine JL.gskipU rfl rfl rfl rfl rfl ?_ | refine JL.gstep rfl rfl rfl (y_move rfl) rfl rfl ?_)
                    all_goals (first | refine JL.gskip rfl rfl rfl rfl rfl rfl ?_ | refine JL.gskipU rfl rfl rfl rfl rfl ?_ | refine JL.gstep rfl rfl rfl (y_eqlB (b := true) rfl rfl (decide_eq_true rfl)) rfl rfl ?_)
                    all_goals (refine JL.step (y_pick rfl rfl rfl) rfl rfl rfl ?_)
                    all_goals (refine JL.step (y_move rfl) rfl rfl rfl ?_)
                    all_goals (first | (refine JL.gsplit_dec rfl rfl rfl (fun h => ?_) (fun h => ?_) <;> try (first | (exfalso; omega) | exact absurd rfl h)) | (refine JL.gsplit rfl rfl rfl (fun h => ?_) (fun h => ?_) <;> try (first | cases h | (exfalso; simp at h; done))) | skip)
                    all_goals (first | refine JL.gskip rfl rfl rfl rfl rfl rfl ?_ | refine JL.gskipU rfl rfl rfl rfl rfl ?_ | refine JL.gstep rfl rfl rfl (y_move rfl) rfl rfl ?_)
                    all_goals (first | refine JL.gskip rfl rfl rfl rfl rfl rfl ?_ | refine JL.gskipU rfl rfl rfl rfl rfl ?_ | (refine JL.gloud rfl rfl rfl (l_callF e15 rfl rfl (Fc.on (Split.cons (by (repeat (first | exact Pick.head | apply Pick.tail | apply Pick.app))) Split.nil) (ephase_spec E x lg2 false last 0 _ _ _)) ?_); rintro _ _ ⟨rfl, rfl⟩))
                    all_goals (first | refine JL.gskip rfl rfl rfl rfl rfl rfl ?_ | refine JL.gskipU rfl rfl rfl rfl rfl ?_ | refine JL.gstep rfl rfl rfl (y_eql rfl rfl) rfl rfl ?_)
                    all_goals (refine JL.step (y_pick rfl rfl rfl) rfl rfl rfl ?_)
                    all_goals (refine JL.step (y_assign rfl) rfl rfl rfl ?_)
                    all_goals refine JL.nil ?_
                    all_goals refine JE.then_normal ?_
                    all_goals
                      refine J.ret ?_
                      refine JE.then_ret ?_
                      refine JE.ret1 (.inl rfl) rfl rfl (by (first | exact RV.tmp rfl | exact RV.cell1 hT rfl rfl rfl (by (exact Rd1.row (by (repeat (first | exact Pick.head | apply Pick.tail | apply Pick.app))) (by rfl))) | exact RV.cellN hT rfl rfl rfl (by (first | exact RdN.rowAll (by (repeat (first | exact Pick.head | apply Pick.tail | apply Pick.app))) | exact RdN.own (by (repeat (first | exact Pick.head | apply Pick.tail | apply Pick.app))))) (by (first | rfl | assumption | (simp; done) | omega)))) ?_
                      exact ⟨rfl, fun w q => q.sup (by (repeat (first | exact Sup.refl | apply Sup.cons (by (repeat (first | exact Pick.head | apply Pick.tail | apply Pick.app))) | apply Sup.app | apply Sup.skip | apply Sup.skips)))⟩
                  ·
                    have hb9 : decide ((last.toNat : Int) = 18446744073709551615) = false := decide_eq_false (fun h => hlast (hM.2 (by omega)))
                    obtain ⟨A, Sa, D2, hL2, hA, _, _, hann⟩ := announce_up E hL hN hlast (by omega) hl
                    refine J.seq ?_
                    refine J.region ?_
                    refine JL.step (y_move rfl) rfl rfl rfl ?_
                    refine JL.loud rfl (l_callF e17 rfl rfl (keys22_spec E 1 _ 1 (by decide)) ?_)
                    rintro _ _ ⟨ka, kc, rfl, rfl⟩
                    refine JL.loud rfl (l_callF e16 rfl rfl (Fc.fact (p := OwnAt ka 1 kc ((keysL 1).flatMap (ints .u8))) (fun w s => Sat.own_at (s.pick Pick.head)) fun ok => Fc.on (Split.cons (A := entR x lg2 false last 0 0 (.map none)) (by (repeat (first | exact Pick.head | apply Pick.tail | apply Pick.app))) (Split.cons (A := logm lg2 st2 L) (by (repeat (first | exact Pick.head | apply Pick.tail | apply Pick.app))) (Split.cons (A := row st2 74 (scells S d)) (by (repeat (first | exact Pick.head | apply Pick.tail | apply Pick.app))) (Split.cons (A := disk d D) (by (repeat (first | exact Pick.head | apply Pick.tail | apply Pick.app))) Split.nil)))) (hann x lg2 st2 d 0 (.map none) ka kc 1 (keysL 1) _ rfl (by decide) (by decide) keyB_mem (ok.inl (by (repeat (first | exact Pick.head | apply Pick.tail | apply Pick.app)))))) ?_)
                    rintro _ _ ⟨za, zc, g, rfl, rfl⟩
                    refine JL.step (y_move rfl) rfl rfl rfl (JL.step (y_extract rfl rfl) rfl rfl rfl (JL.step (y_extract rfl rfl) rfl rfl rfl ?_))
                    refine JL.loud rfl (l_alloc hT rfl rfl (by (first | rfl | simp)) rfl (fun b13 => ?_))
                    refine JL.loud rfl (l_storeAll hT rfl rfl rfl (by (first | rfl | assumption | (simp; done) | omega)) (by (first | assumption | exact ones_of rfl | exact encW_one _ | exact encB_one _ | (intro u hu; simp at hu; rcases hu with rfl | rfl <;> rfl) | (intro u hu; simp at hu; subst hu; rfl) | simp)) (by (repeat (first | exact Pick.head | apply Pick.tail | apply Pick.app))) (by (first | rfl | assumption | (simp; done) | omega)) ?_)
                    refine JL.step (y_assign rfl) rfl rfl rfl ?_
                    refine JL.nil ?_
                    refine JE.then_normal ?_
                    refine J.seq ?_
                    refine J.seq ?_
                    refine J.region ?_
                    refine JL.step (y_move rfl) rfl rfl rfl (JL.step (y_eql rfl rfl) rfl rfl rfl ?_)
                    refine JL.nil ?_
                    refine JE.then_normal ?_
                    refine J.cond_f rfl (by (first | rfl | assumption | (simp; done) | (simp; omega))) ?_
                    refine J.skip ?_
                    refine JE.then_normal ?_
                    refine J.seq ?_
                    refine J.region ?_
                    refine JL.step (y_move rfl) rfl rfl rfl (JL.step (y_eql rfl rfl) rfl rfl rfl (JL.step (y_move rfl) rfl rfl rfl ?_))
                    all_goals (first | (refine JL.gsplit_dec rfl rfl rfl (fun h => ?_) (fun h => ?_) <;> try (first | (exfalso; omega) | exact absurd rfl h)) | (refine JL.gsplit rfl rfl rfl (fun h => ?_) (fun h => ?_) <;> try (first | cases h | (exfalso; simp at h; done))) | skip)
                    all_goals (first | refine JL.gskip rfl rfl rfl rfl rfl rfl ?_ | refine JL.gskipU rfl rfl rfl rfl rfl ?_ | refine JL.gstep rfl rfl rfl (y_fieldAddr hT rfl rfl rfl rfl rfl rfl) rfl rfl ?_)
                    all_goals (first | refine JL.gskip rfl rfl rfl rfl rfl rfl ?_ | refine JL.gskipU rfl rfl rfl rfl rfl ?_ | refine JL.gstep rfl rfl rfl (y_load1 hT rfl rfl rfl (by (exact Rd1.row (by (repeat (first | exact Pick.head | apply Pick.tail | apply Pick.app))) (by rfl)))) rfl rfl ?_)
                    all_goals (first | refine JL.gskip rfl rfl rfl rfl rfl rfl ?_ | refine JL.gskipU rfl rfl rfl rfl rfl ?_ | refine JL.gstep rfl rfl rfl (y_move rfl) rfl rfl ?_)
                    all_goals (first | refine JL.gskip rfl rfl rfl rfl rfl rfl ?_ | refine JL.gskipU rfl rfl rfl rfl rfl ?_ | refine JL.gstep rfl rfl rfl ((by first | exact y_addQ rfl rfl | exact y_add rfl rfl (by (first | exact wrap_i64 (by omega) (by omega) | rfl)))) rfl rfl ?_)
                    all_goals (first | refine JL.gskip rfl rfl rfl rfl rfl rfl ?_ | refine JL.gskipU rfl rfl rfl rfl rfl ?_ | refine JL.gstep rfl rfl rfl (y_eqlB (b := true) rfl rfl (decide_eq_true rfl)) rfl rfl ?_)
                    all_goals (refine JL.step (y_pick rfl rfl rfl) rfl rfl rfl ?_)
                    all_goals (refine JL.step (y_assign rfl) rfl rfl rfl ?_)
                    all_goals refine JL.nil ?_
                    all_goals refine JE.then_normal ?_
                    all_goals
                      refine J.ret ?_
                      refine JE.ret1 (.inl rfl) rfl rfl (by (first | exact RV.tmp rfl | exact RV.cell1 hT rfl rfl rfl (by (exact Rd1.row (by (repeat (first | exact Pick.head | apply Pick.tail | apply Pick.app))) (by rfl))) | exact RV.cellN hT rfl rfl rfl (by (first | exact RdN.rowAll (by (repeat (first | exact Pick.head | apply Pick.tail | apply Pick.app))) | exact RdN.own (by (repeat (first | exact Pick.head | apply Pick.tail | apply Pick.app))))) (by (first | rfl | assumption | (simp; done) | omega)))) ?_
                      exact ⟨rfl, fun w q => q.sup (by (repeat (first | exact Sup.refl | apply Sup.cons (by (repeat (first | exact Pick.head | apply Pick.tail | apply Pick.app))) | apply Sup.app | apply Sup.skip | apply Sup.skips)))⟩
        all_goals refine JE.then_normal ?_
        all_goals
          refine J.seq ?_
          refine J.block ?_
          refine J.seq ?_
          refine J.region ?_
          have hlt : i < mm := by omega
          obtain ⟨go, oo, rfl, hro⟩ := hin.addr (by omega)
          have hro0 : RdN r go oo (xs.map snV) := hro []
          obtain ⟨⟨px, cx, bs⟩, hxi⟩ : ∃ x, xs[i]? = some x := ⟨_, List.getElem?_eq_getElem (by omega)⟩
          obtain ⟨hbin, hbb⟩ := hx _ (List.mem_of_getElem? hxi)
          dsimp only at hbin hbb
          have hxv : (xs.map snV)[i]? = some (.slice px bs.length cx) := by rw [List.getElem?_map, hxi]; rfl
          obtain ⟨k, hk⟩ : ∃ k, min bs.length 30 = k := ⟨_, rfl⟩
          obtain ⟨tx, htx⟩ : ∃ tx, bs.take k = tx := ⟨_, rfl⟩
          have htl : tx.length = k := by rw [← htx, List.length_take]; omega
          have hts : Small tx := ⟨by rw [← htx]; exact hbb.take k, by omega⟩
          have htin : InL r px k cx (ints .u8 tx) := by
            have z := hbin.cutTo k k (by omega)
            rwa [show (ints .u8 bs).take k = ints .u8 tx by rw [← htx]; simp [ints, List.map_take]] at z
          have hb63' := hb63 hbin
          have hnk : needN k ≤ 2 := by unfold needN; omega
          have hslots : D.slots = 32 := by unfold Dk.slots Dk.half; rw [hl]
          obtain ⟨D', eA, hL', hl'⟩ := hL.append hts (by rw [htl]; omega)
          obtain ⟨L', hL'e⟩ : ∃ L' : Lg, { L with txs := L.txs ++ [tx], used := L.used + needN tx.length } = L' := ⟨_, rfl⟩
          rw [hL'e] at eA hL'
          have hu' : L'.used ≤ 2 * (i + 1) := by rw [← hL'e]; dsimp only; rw [htl]; omega
          have hn' : L'.txs.length ≤ i + 1 := by rw [← hL'e]; simp; omega
          have hl' := hl'.trans hl
          refine JL.step (y_indexAddr_slice hT rfl rfl rfl rfl rfl (by (first | omega | exact Nat.le_of_ble_eq_true rfl | decide | (simp; omega))) (by (first | omega | exact Nat.le_of_ble_eq_true rfl | decide | (simp; omega)))) rfl rfl rfl ?_
          refine JL.step (y_load1 hT rfl rfl rfl (Rd1.elem (by (repeat (first | assumption | apply RdN.cons | apply RdN.app))) hxv)) rfl rfl rfl ?_
          refine JL.step (y_assign rfl) rfl rfl rfl ?_
          refine JL.nil ?_
          refine JE.then_normal ?_
          refine J.seq ?_
          refine J.region ?_
          refine JL.step (y_move rfl) rfl rfl rfl (JL.step (y_move rfl) rfl rfl rfl (JL.step (y_len_slice hT rfl rfl rfl) rfl rfl rfl ?_))
          refine JL.step (y_min2 (m := (k : Int)) rfl rfl (by omega)) rfl rfl rfl ?_
          refine JL.step (y_cutTo hT rfl rfl rfl rfl rfl rfl (show k ≤ bs.length by omega) hbin) rfl rfl rfl ?_
          refine JL.step (y_assign rfl) rfl rfl rfl ?_
          refine JL.nil ?_
          refine JE.then_normal ?_
          refine J.seq ?_
          refine J.seq ?_
          refine J.region ?_
          refine JL.step (y_move rfl) rfl rfl rfl (JL.step (y_move rfl) rfl rfl rfl ?_)
          refine JL.loud rfl (l_callF e12 rfl rfl (Fc.on (Split.cons (by (repeat (first | exact Pick.head | apply Pick.tail | apply Pick.app))) (Split.cons (by (repeat (first | exact Pick.head | apply Pick.tail | apply Pick.app))) (Split.cons (by (repeat (first | exact Pick.head | apply Pick.tail | apply Pick.app))) Split.nil))) (append_lh E lg st d _ hL tx px cx k htl hts (by omega) eA (by (repeat (first | assumption | apply InL.cons | apply InL.app))))) ?_)
          rintro _ _ ⟨rfl, rfl⟩
          refine JL.step (y_neq rfl rfl) rfl rfl rfl ?_
          refine JL.nil ?_
          refine JE.then_normal ?_
          refine J.cond_f rfl (by (first | rfl | assumption | (simp; done) | (simp; omega))) ?_
          refine J.skip ?_
          refine JE.then_normal ?_
          refine J.seq ?_
          refine J.seq ?_
          cases right
          all_goals
            refine J.region ?_
            refine JL.step (y_move rfl) rfl rfl rfl (JL.step (y_not rfl) rfl rfl rfl ?_)
            refine JL.nil ?_
          all_goals refine JE.then_normal ?_
          all_goals
            focus
              first | apply J.cond_dec rfl | apply J.cond rfl
              focus
                intro h
                try (first | (exfalso; omega) | (cases h; done) | (exfalso; simp at h; done) | subst h)
                all_goals
                  have hN1 : LastIs L' false last := by rw [← hL'e]; exact hLI.bad tx _ last
                  refine J.exit ?_
                  refine JE.then_exit ?_
                  refine JE.block_exit ?_
                  refine JE.then_normal ?_
                  refine J.region ?_
                  refine JL.step (y_add rfl rfl (by (first | exact wrap_i64 (by omega) (by omega) | rfl))) rfl rfl rfl ?_
                  refine JL.step (y_move rfl) rfl rfl rfl ?_
                  refine JL.nil ?_
                  first
                    | (have zz := hN1
                       exact JE.round (s := (i, D, L, false, last)) (i + 1, D', L', false, last) ⟨by dsimp only; omega, hL', hl', hu', hn', hN1⟩ ⟨rfl, rfl, rfl, rfl, rfl, rfl, rfl, trivial⟩ (fun w s => s.sup (by (repeat (first | exact Sup.refl | apply Sup.cons (by (repeat (first | exact Pick.head | apply Pick.tail | apply Pick.app))) | apply Sup.app | apply Sup.skip | apply Sup.skips)))) (by dsimp only; omega))
                    | (have zz := hN2
                       exact JE.round (s := (i, D, L, true, last)) (i + 1, D', L', false, last) ⟨by dsimp only; omega, hL', hl', hu', hn', hN2⟩ ⟨rfl, rfl, rfl, rfl, rfl, rfl, rfl, trivial⟩ (fun w s => s.sup (by (repeat (first | exact Sup.refl | apply Sup.cons (by (repeat (first | exact Pick.head | apply Pick.tail | apply Pick.app))) | apply Sup.app | apply Sup.skip | apply Sup.skips)))) (by dsimp only; omega))
                    | (have zz := hN3
                       exact JE.round (s := (i, D, L, true, last)) (i + 1, D', L', true, leG tx 8) ⟨by dsimp only; omega, hL', hl', hu', hn', hN3⟩ ⟨rfl, rfl, rfl, rfl, rfl, rfl, rfl, trivial⟩ (fun w s => s.sup (by (repeat (first | exact Sup.refl | apply Sup.cons (by (repeat (first | exact Pick.head | apply Pick.tail | apply Pick.app))) | apply Sup.app | apply Sup.skip | apply Sup.skips)))) (by dsimp only; omega))
              rotate_right 1
              focus
                intro h
                try (first | (exfalso; omega) | (cases h; done) | (exfalso; simp at h; done) | subst h)
                all_goals
                  refine J.skip ?_
          all_goals refine JE.then_normal ?_
          all_goals
            refine J.seq ?_
            refine J.seq ?_
            refine J.region ?_
            refine JL.step (y_move rfl) rfl rfl rfl (JL.step (y_len_slice hT rfl rfl rfl) rfl rfl rfl (JL.step (y_neq rfl rfl) rfl rfl rfl (JL.step (y_move rfl) rfl rfl rfl ?_)))
            all_goals (first | (refine JL.gsplit_dec rfl rfl rfl (fun h => ?_) (fun h => ?_) <;> try (first | (exfalso; omega) | exact absurd rfl h)) | (refine JL.gsplit rfl rfl rfl (fun h => ?_) (fun h => ?_) <;> try (first | cases h | (exfalso; simp at h; done))) | skip)
            all_goals (first | refine JL.gskip rfl rfl rfl rfl rfl rfl ?_ | refine JL.gskipU rfl rfl rfl rfl rfl ?_ | refine JL.gstep rfl rfl rfl (y_move rfl) rfl rfl ?_)
            all_goals (first | refine JL.gskip rfl rfl rfl rfl rfl rfl ?_ | refine JL.gskipU rfl rfl rfl rfl rfl ?_ | (refine JL.gloud rfl rfl rfl (l_callF e11 rfl rfl (cget px cx tx k _ htl (by omega) (by (repeat (first | assumption | apply InL.cons | apply InL.app)))) ?_); rintro _ _ ⟨rfl, rfl⟩))
            all_goals (first | refine JL.gskip rfl rfl rfl rfl rfl rfl ?_ | refine JL.gskipU rfl rfl rfl rfl rfl ?_ | refine JL.gstep rfl rfl rfl (y_move rfl) rfl rfl ?_)
            all_goals (first | refine JL.gskip rfl rfl rfl rfl rfl rfl ?_ | refine JL.gskipU rfl rfl rfl rfl rfl ?_ | refine JL.gstep rfl rfl rfl (y_leq rfl rfl) rfl rfl ?_)
            all_goals (refine JL.step (y_pick rfl rfl rfl) rfl rfl rfl ?_)
            all_goals refine JL.nil ?_
            all_goals refine JE.then_normal ?_
            all_goals
              focus
                first | apply J.cond_dec rfl | apply J.cond rfl
                focus
                  intro h
                  try (first | (exfalso; omega) | (cases h; done) | (exfalso; simp at h; done) | subst h)
                  all_goals
                    have hN2 : LastIs L' false last := by
                      rw [← hL'e]
                      refine hLI.off (fun hh => ?_) _ last
                      have h8 := hh.1
                      have h9 := hh.2
                      first
                        | omega
                        | (simp at h; omega)
                    refine J.seq ?_
                    refine J.region ?_
                    refine JL.step (y_assign rfl) rfl rfl rfl ?_
                    refine JL.nil ?_
                    refine JE.then_normal ?_
                    refine J.exit ?_
                    refine JE.then_exit ?_
                    refine JE.block_exit ?_
                    refine JE.then_normal ?_
                    refine J.region ?_
                    refine JL.step (y_add rfl rfl (by (first | exact wrap_i64 (by omega) (by omega) | rfl))) rfl rfl rfl ?_
                    refine JL.step (y_move rfl) rfl rfl rfl ?_
                    refine JL.nil ?_
                    first
                      | (have zz := hN1
                         exact JE.round (s := (i, D, L, false, last)) (i + 1, D', L', false, last) ⟨by dsimp only; omega, hL', hl', hu', hn', hN1⟩ ⟨rfl, rfl, rfl, rfl, rfl, rfl, rfl, trivial⟩ (fun w s => s.sup (by (repeat (first | exact Sup.refl | apply Sup.cons (by (repeat (first | exact Pick.head | apply Pick.tail | apply Pick.app))) | apply Sup.app | apply Sup.skip | apply Sup.skips)))) (by dsimp only; omega))
                      | (have zz := hN2
                         exact JE.round (s := (i, D, L, true, last)) (i + 1, D', L', false, last) ⟨by dsimp only; omega, hL', hl', hu', hn', hN2⟩ ⟨rfl, rfl, rfl, rfl, rfl, rfl, rfl, trivial⟩ (fun w s => s.sup (by (repeat (first | exact Sup.refl | apply Sup.cons (by (repeat (first | exact Pick.head | apply Pick.tail | apply Pick.app))) | apply Sup.app | apply Sup.skip | apply Sup.skips)))) (by dsimp only; omega))
                      | (have zz := hN3
                         exact JE.round (s := (i, D, L, true, last)) (i + 1, D', L', true, leG tx 8) ⟨by dsimp only; omega, hL', hl', hu', hn', hN3⟩ ⟨rfl, rfl, rfl, rfl, rfl, rfl, rfl, trivial⟩ (fun w s => s.sup (by (repeat (first | exact Sup.refl | apply Sup.cons (by (repeat (first | exact Pick.head | apply Pick.tail | apply Pick.app))) | apply Sup.app | apply Sup.skip | apply Sup.skips)))) (by dsimp only; omega))
                rotate_right 1
                focus
                  intro h
                  try (first | (exfalso; omega) | (cases h; done) | (exfalso; simp at h; done) | subst h)
                  all_goals
                    have h8k : k = 8 := by first | omega | (simp at h; omega)
                    have hN3 : LastIs L' true (leG tx 8) := by rw [← hL'e]; exact hLI.on ⟨by omega, by omega⟩ _
                    refine J.skip ?_
            all_goals refine JE.then_normal ?_
            all_goals
              refine J.region ?_
              refine JL.step (y_move rfl) rfl rfl rfl ?_
              refine JL.loud rfl (l_callF e11 rfl rfl (cget px cx tx k _ htl h8k (by (repeat (first | assumption | apply InL.cons | apply InL.app)))) ?_)
              rintro _ _ ⟨rfl, rfl⟩
              refine JL.step (y_assign rfl) rfl rfl rfl ?_
              refine JL.nil ?_
          all_goals refine JE.block_normal ?_
          all_goals refine JE.then_normal ?_
          all_goals
            refine J.region ?_
            refine JL.step (y_add rfl rfl (by (first | exact wrap_i64 (by omega) (by omega) | rfl))) rfl rfl rfl ?_
            refine JL.step (y_move rfl) rfl rfl rfl ?_
            refine JL.nil ?_
        all_goals
          first
            | (have zz := hN1
               exact JE.round (s := (i, D, L, false, last)) (i + 1, D', L', false, last) ⟨by dsimp only; omega, hL', hl', hu', hn', hN1⟩ ⟨rfl, rfl, rfl, rfl, rfl, rfl, rfl, trivial⟩ (fun w s => s.sup (by (repeat (first | exact Sup.refl | apply Sup.cons (by (repeat (first | exact Pick.head | apply Pick.tail | apply Pick.app))) | apply Sup.app | apply Sup.skip | apply Sup.skips)))) (by dsimp only; omega))
            | (have zz := hN2
               exact JE.round (s := (i, D, L, true, last)) (i + 1, D', L', false, last) ⟨by dsimp only; omega, hL', hl', hu', hn', hN2⟩ ⟨rfl, rfl, rfl, rfl, rfl, rfl, rfl, trivial⟩ (fun w s => s.sup (by (repeat (first | exact Sup.refl | apply Sup.cons (by (repeat (first | exact Pick.head | apply Pick.tail | apply Pick.app))) | apply Sup.app | apply Sup.skip | apply Sup.skips)))) (by dsimp only; omega))
            | (have zz := hN3
               exact JE.round (s := (i, D, L, true, last)) (i + 1, D', L', true, leG tx 8) ⟨by dsimp only; omega, hL', hl', hu', hn', hN3⟩ ⟨rfl, rfl, rfl, rfl, rfl, rfl, rfl, trivial⟩ (fun w s => s.sup (by (repeat (first | exact Sup.refl | apply Sup.cons (by (repeat (first | exact Pick.head | apply Pick.tail | apply Pick.app))) | apply Sup.app | apply Sup.skip | apply Sup.skips)))) (by dsimp only; omega))
  ·
    have hbg : decide ((0 : Int) < m) = true := decide_eq_true (by omega)
    have hb0 : decide ((m : Int) = 0) = false := decide_eq_false (by omega)
    obtain ⟨b0, hb8⟩ : ∃ b, decide ((m : Int) = 8) = b := ⟨_, rfl⟩
    obtain ⟨D1, eC, hL1, hl1⟩ := hL0.check hsm (by omega) (by decide)
    have hl1 := hl1.trans hl0
    obtain ⟨S, hS⟩ : ∃ S, nextS sb0 sn = S := ⟨_, rfl⟩
    have htn : S.turn.toNat ≤ 1 := by rw [← hS, next_turn (by decide)]; decide
    obtain ⟨L1, hLe⟩ : ∃ L1 : Lg, ⟨sn, [], 0, false⟩ = L1 := ⟨_, rfl⟩
    obtain ⟨R0, hR0⟩ : ∃ R0, b0 = R0 := ⟨_, rfl⟩
    have hLI : LastIs L1 R0 (leG z8 8) := by
      unfold LastIs
      rw [← hLe, ← hR0, ← hb8]
      by_cases h8 : m = 8
      · rw [if_pos (decide_eq_true (by omega))]
        unfold entryN estart
        rw [if_neg (show ¬ sn.length = 0 by omega), if_pos (show sn.length = 8 by omega), ← hz8, List.take_append_of_le_length (by omega), List.take_of_length_le (by omega)]
        rfl
      · rw [if_neg (by simp; omega)]
        unfold entryN estart
        rw [if_neg (show ¬ sn.length = 0 by omega), if_neg (show ¬ sn.length = 8 by omega)]
        rfl
    rw [hS, hLe] at eC hL1
    have hu1 : L1.used = 0 := by rw [← hLe]
    have ht1 : L1.txs = [] := by rw [← hLe]
    subst hR0
    refine J.seq ?_
    refine J.seq ?_
    refine J.region ?_
    refine JL.step (y_move rfl) rfl rfl rfl (JL.step (y_len_slice hT rfl rfl rfl) rfl rfl rfl ?_)
    refine JL.step (y_gtrB rfl rfl hbg) rfl rfl rfl ?_
    refine JL.step (y_move rfl) rfl rfl rfl ?_
    all_goals (first | (refine JL.gsplit_dec rfl rfl rfl (fun h => ?_) (fun h => ?_) <;> try (first | (exfalso; omega) | exact absurd rfl h)) | (refine JL.gsplit rfl rfl rfl (fun h => ?_) (fun h => ?_) <;> try (first | cases h | (exfalso; simp at h; done))) | skip)
    all_goals (first | refine JL.gskip rfl rfl rfl rfl rfl rfl ?_ | refine JL.gskipU rfl rfl rfl rfl rfl ?_ | refine JL.gstep rfl rfl rfl (y_move rfl) rfl rfl ?_)
    all_goals (first | refine JL.gskip rfl rfl rfl rfl rfl rfl ?_ | refine JL.gskipU rfl rfl rfl rfl rfl ?_ | refine JL.gstep rfl rfl rfl (y_move rfl) rfl rfl ?_)
    all_goals (first | refine JL.gskip rfl rfl rfl rfl rfl rfl ?_ | refine JL.gskipU rfl rfl rfl rfl rfl ?_ | (refine JL.gloud rfl rfl rfl (l_callF e10 rfl rfl (Fc.on (Split.cons (by (repeat (first | exact Pick.head | apply Pick.tail | apply Pick.app))) (Split.cons (by (repeat (first | exact Pick.head | apply Pick.tail | apply Pick.app))) (Split.cons (by (repeat (first | exact Pick.head | apply Pick.tail | apply Pick.app))) Split.nil))) (check_lh E lg st d _ hL0 sn p cap m hsl hsm eC (by (repeat (first | assumption | apply InL.cons | apply InL.app))))) ?_); rintro _ _ ⟨rfl, rfl⟩))
    all_goals (first | refine JL.gskip rfl rfl rfl rfl rfl rfl ?_ | refine JL.gskipU rfl rfl rfl rfl rfl ?_ | refine JL.gstep rfl rfl rfl (y_neq rfl rfl) rfl rfl ?_)
    all_goals (refine JL.step (y_pick rfl rfl rfl) rfl rfl rfl ?_)
    all_goals refine JL.nil ?_
    all_goals refine JE.then_normal ?_
    all_goals
      refine J.cond_f rfl (by (first | rfl | assumption | (simp; done) | (simp; omega))) ?_
      refine J.skip ?_
    all_goals refine JE.then_normal ?_
    all_goals
      refine J.seq ?_
      refine J.region ?_
      refine JL.step (y_move rfl) rfl rfl rfl (JL.step (y_len_slice hT rfl rfl rfl) rfl rfl rfl ?_)
      refine JL.step (y_eqlB rfl rfl hb0) rfl rfl rfl ?_
      refine JL.step (y_move rfl) rfl rfl rfl ?_
      all_goals (first | (refine JL.gsplit_dec rfl rfl rfl (fun h => ?_) (fun h => ?_) <;> try (first | (exfalso; omega) | exact absurd rfl h)) | (refine JL.gsplit rfl rfl rfl (fun h => ?_) (fun h => ?_) <;> try (first | cases h | (exfalso; simp at h; done))) | skip)
      all_goals (first | refine JL.gskip rfl rfl rfl rfl rfl rfl ?_ | refine JL.gskipU rfl rfl rfl rfl rfl ?_ | refine JL.gstep rfl rfl rfl (y_move rfl) rfl rfl ?_)
      all_goals (first | refine JL.gskip rfl rfl rfl rfl rfl rfl ?_ | refine JL.gskipU rfl rfl rfl rfl rfl ?_ | refine JL.gstep rfl rfl rfl (y_len_slice hT rfl rfl rfl) rfl rfl ?_)
      all_goals (first | refine JL.gskip rfl rfl rfl rfl rfl rfl ?_ | refine JL.gskipU rfl rfl rfl rfl rfl ?_ | (refine JL.gstep rfl rfl rfl (y_eqlB rfl rfl hb8) rfl rfl ?_))
      all_goals (refine JL.step (y_pick rfl rfl rfl) rfl rfl rfl ?_)
      all_goals (refine JL.step (y_assign rfl) rfl rfl rfl ?_)
      all_goals refine JL.nil ?_
      all_goals refine JE.then_normal ?_
      all_goals
        refine J.seq ?_
        refine J.region ?_
        refine JL.loud rfl (l_buildSlice0 hT rfl rfl rfl rfl (fun b6 => ?_))
        refine JL.step (y_move rfl) rfl rfl rfl ?_
        refine JL.loud rfl (l_appendIn (nn := 0) (m := m) hT rfl rfl rfl rfl rfl rfl rfl rfl (by (repeat (first | exact Pick.head | apply Pick.tail | apply Pick.app))) (by (repeat (first | assumption | apply InL.cons | apply InL.app))) (by rw [show i5.size = 1 from rfl]; simp [ints, hsl]) (ints_one _ _) (by rw [show i5.bytes = 1 from rfl]; omega) (by omega) rfl (fun a1 c1 hc1 => ?_))
        rw [Nat.zero_add, List.nil_append (ints .u8 sn)]
        refine JL.loud rfl (l_appendZ (m := 8) hT rfl rfl rfl rfl rfl rfl rfl rfl rfl rfl rfl (by (repeat (first | exact Pick.head | apply Pick.tail | apply Pick.app))) (by decide) (by rw [show i5.bytes = 1 from rfl]; omega) (by unfold maxLen; omega) rfl (fun a2 c2 hc2 => ?_))
        rw [show ints .u8 sn ++ List.replicate 8 (Value.int .u8 0) = ints .u8 (sn ++ List.replicate 8 0) by simp [ints]]
        refine JL.fact (p := OwnAt a2 (m + 8) c2 (ints .u8 (sn ++ List.replicate 8 0))) (fun w s => Sat.own_at (s.pick (by (repeat (first | exact Pick.head | apply Pick.tail | apply Pick.app))))) fun oS => ?_
        have hcut : ∀ l r', Pick l (own 5 1 (.slice a2 (m + 8) c2) (m + 8) (ints .u8 (sn ++ List.replicate 8 0))) r' → InL l a2 8 c2 (ints .u8 z8) := fun l r' hp => by
          have z := (oS.inl hp).cutTo 8 8 (by omega)
          rwa [show (ints .u8 (sn ++ List.replicate 8 0)).take 8 = ints .u8 z8 by rw [← hz8]; simp [ints, List.map_take]] at z
        refine JL.step (y_cutTo hT rfl rfl rfl rfl rfl rfl (show 8 ≤ m + 8 by omega) (oS.inl (l := [own 5 1 (.slice a2 (m + 8) c2) (m + 8) (ints .u8 (sn ++ List.replicate 8 0))]) Pick.head)) rfl rfl rfl ?_
        refine JL.loud rfl (l_callF e11 rfl rfl (cget a2 c2 z8 8 _ hz8l rfl (hcut _ _ (by (repeat (first | exact Pick.head | apply Pick.tail | apply Pick.app))))) ?_)
        rintro _ _ ⟨rfl, rfl⟩
        refine JL.step (y_assign rfl) rfl rfl rfl ?_
        refine JL.nil ?_
        refine JE.then_normal ?_
        refine J.seq ?_
        refine J.seq ?_
        refine J.region ?_
        refine JL.step (y_move rfl) rfl rfl rfl (JL.step (y_move rfl) rfl rfl rfl (JL.step (y_len_slice hT rfl rfl rfl) rfl rfl rfl ?_))
        refine JL.step (y_min2 (m := (mm : Int)) rfl rfl (by omega)) rfl rfl rfl ?_
        refine JL.step (y_cutTo hT rfl rfl rfl rfl rfl rfl (show mm ≤ xs.length by omega) hin) rfl rfl rfl ?_
        refine JL.step (y_len_slice hT rfl rfl rfl) rfl rfl rfl (JL.step (y_move rfl) rfl rfl rfl ?_)
        refine JL.nil ?_
        refine JE.then_normal ?_
        refine J.block ?_
        refine J.loop (α := Nat × Dk × Lg × Bool × BitVec 64) (fun s => s.1 ≤ mm ∧ LH S s.2.1 s.2.2.1 ∧ s.2.1.safe.length = 64 ∧ s.2.2.1.used ≤ 2 * s.1 ∧ s.2.2.1.txs.length ≤ s.1 ∧ LastIs s.2.2.1 s.2.2.2.1 s.2.2.2.2) (fun s => [(5, .pointer (some ⟨d, 0, none⟩)), (8, .pointer (some ⟨lg, 0, none⟩)), (9, .bool s.2.2.2.1), (10, Q s.2.2.2.2), (69, .slice q mm qc), (70, .int .i64 mm), (71, .int .i64 s.1)]) (fun s => logm lg st s.2.2.1 :: row st 74 (scells S d) :: disk d s.2.1 :: r) (fun s => mm - s.1) (0, D1, L1, b0, leG z8 8) ⟨Nat.zero_le _, hL1, hl1, by dsimp only; omega, by dsimp only; rw [ht1]; exact Nat.zero_le _, hLI⟩ ⟨rfl, rfl, rfl, rfl, rfl, rfl, rfl, trivial⟩ (fun w h => h.sup (by (repeat (first | exact Sup.refl | apply Sup.cons (by (repeat (first | exact Pick.head | apply Pick.tail | apply Pick.app))) | apply Sup.app | apply Sup.skip | apply Sup.skips)))) ?_
        rintro ⟨i, D, L, right, last⟩ ⟨hi, hL, hl, hu, hfew, hLI⟩
        dsimp only at hi hL hl hu hfew hLI ⊢
        refine J.seq ?_
        refine J.region ?_
        refine JL.step (y_lss rfl rfl) rfl rfl rfl ?_
        refine JL.nil ?_
        refine JE.then_normal ?_
        refine J.seq ?_
        focus
          first | apply J.cond_dec rfl | apply J.cond rfl
          focus
            intro h
            try (first | (exfalso; omega) | (cases h; done) | (exfalso; simp at h; done) | subst h)
            all_goals
              refine J.skip ?_
          rotate_right 1
          focus
            intro h
            try (first | (exfalso; omega) | (cases h; done) | (exfalso; simp at h; done) | subst h)
            all_goals
              refine J.exit ?_
              refine JE.then_exit ?_
              refine JE.then_exit ?_
              refine JE.block_exit ?_
              refine JE.then_normal ?_
              have hop := fun l => eopen_lh E d hL (by omega) none l
              cases right
              ·
                have hN : entryN L = none := hLI
                have hop2 : ∀ l, Fc prog E 13 [.pointer (some ⟨d, 0, none⟩)].toArray (disk d D :: l) (fun v l' => v = .tuple #[.pointer none, .int .i64 320] ∧ l' = disk d D :: l) := fun l => (hop l).mono fun v l' z => by
                  rcases z with ⟨n, x, lg, st, e1, _⟩ | ⟨_, z⟩
                  · rw [hN] at e1; cases e1
                  · exact z
                refine J.seq ?_
                refine J.region ?_
                refine JL.step (y_move rfl) rfl rfl rfl ?_
                refine JL.loud rfl (l_callF e13 rfl rfl (Fc.on (Split.cons (by (repeat (first | exact Pick.head | apply Pick.tail | apply Pick.app))) Split.nil) (hop2 _)) ?_)
                rintro _ _ ⟨rfl, rfl⟩
                refine JL.step (y_move rfl) rfl rfl rfl (JL.step (y_extract rfl rfl) rfl rfl rfl (JL.step (y_extract rfl rfl) rfl rfl rfl (JL.step (y_assign rfl) rfl rfl rfl (JL.step (y_assign rfl) rfl rfl rfl ?_))))
                refine JL.nil ?_
                refine JE.then_normal ?_
                refine J.seq ?_
                refine J.seq ?_
                refine J.region ?_
                refine JL.step (y_move rfl) rfl rfl rfl (JL.step (y_not rfl) rfl rfl rfl ?_)
                refine JL.nil ?_
                refine JE.then_normal ?_
                refine J.cond_t rfl (by (first | rfl | assumption | (simp; done) | (simp; omega))) ?_
                refine J.seq ?_
                refine J.region ?_
                refine JL.step (y_move rfl) rfl rfl rfl (JL.step (y_eql rfl rfl) rfl rfl rfl (JL.step (y_move rfl) rfl rfl rfl ?_))
                all_goals (first | (refine JL.gsplit_dec rfl rfl rfl (fun h => ?_) (fun h => ?_) <;> try (first | (exfalso; omega) | exact absurd rfl h)) | (refine JL.gsplit rfl rfl rfl (fun h => ?_) (fun h => ?_) <;> try (first | cases h | (exfalso; simp at h; done))) | skip)
                all_goals (first | refine JL.gskip rfl rfl rfl rfl rfl rfl ?_ | refine JL.gskipU rfl rfl rfl rfl rfl ?_ | refine JL.gstep rfl rfl rfl (y_move rfl) rfl rfl ?_)
                all_goals (first | refine JL.gskip rfl rfl rfl rfl rfl rfl ?_ | refine JL.gskipU rfl rfl rfl rfl rfl ?_ | refine JL.gstep rfl rfl rfl (y_ptr_eq_nil hT rfl rfl rfl rfl) rfl rfl ?_)
                all_goals (refine JL.step (y_pick rfl rfl rfl) rfl rfl rfl ?_)
                all_goals (refine JL.step (y_assign rfl) rfl rfl rfl ?_)
                all_goals refine JL.nil ?_
                all_goals refine JE.then_normal ?_
                all_goals
                  refine J.ret ?_
                  refine JE.then_ret ?_
                  refine JE.ret1 (.inl rfl) rfl rfl (by (first | exact RV.tmp rfl | exact RV.cell1 hT rfl rfl rfl (by (exact Rd1.row (by (repeat (first | exact Pick.head | apply Pick.tail | apply Pick.app))) (by rfl))) | exact RV.cellN hT rfl rfl rfl (by (first | exact RdN.rowAll (by (repeat (first | exact Pick.head | apply Pick.tail | apply Pick.app))) | exact RdN.own (by (repeat (first | exact Pick.head | apply Pick.tail | apply Pick.app))))) (by (first | rfl | assumption | (simp; done) | omega)))) ?_
                  exact ⟨rfl, fun w q => q.sup (by (repeat (first | exact Sup.refl | apply Sup.cons (by (repeat (first | exact Pick.head | apply Pick.tail | apply Pick.app))) | apply Sup.app | apply Sup.skip | apply Sup.skips)))⟩
              ·
                have hN : entryN L = some last := hLI
                have hop2 : ∀ l, Fc prog E 13 [.pointer (some ⟨d, 0, none⟩)].toArray (disk d D :: l) (fun v l' => ∃ x lg st, v = .tuple #[.pointer (some ⟨x, 0, none⟩), .int .i64 0] ∧ l' = entR x lg false last 0 0 (.map none) :: logm lg st L :: row st 74 (scells S d) :: disk d D :: l) := fun l => (hop l).mono fun v l' z => by
                  rcases z with ⟨n, x, lg, st, e1, e2, e3⟩ | ⟨e1, _⟩
                  · rw [hN] at e1
                    cases e1
                    exact ⟨x, lg, st, e2, e3⟩
                  · rw [hN] at e1; cases e1
                refine J.seq ?_
                refine J.region ?_
                refine JL.step (y_move rfl) rfl rfl rfl ?_
                refine JL.loud rfl (l_callF e13 rfl rfl (Fc.on (Split.cons (by (repeat (first | exact Pick.head | apply Pick.tail | apply Pick.app))) Split.nil) (hop2 _)) ?_)
                rintro _ _ ⟨x, lg2, st2, rfl, rfl⟩
                refine JL.step (y_move rfl) rfl rfl rfl (JL.step (y_extract rfl rfl) rfl rfl rfl (JL.step (y_extract rfl rfl) rfl rfl rfl (JL.step (y_assign rfl) rfl rfl rfl (JL.step (y_assign rfl) rfl rfl rfl ?_))))
                refine JL.nil ?_
                refine JE.then_normal ?_
                refine J.seq ?_
                refine J.seq ?_
                refine J.region ?_
                refine JL.step (y_move rfl) rfl rfl rfl (JL.step (y_not rfl) rfl rfl rfl ?_)
                refine JL.nil ?_
                refine JE.then_normal ?_
                refine J.cond_f rfl (by (first | rfl | assumption | (simp; done) | (simp; omega))) ?_
                refine J.skip ?_
                refine JE.then_normal ?_
                refine J.seq ?_
                refine J.seq ?_
                refine J.region ?_
                refine JL.step (y_move rfl) rfl rfl rfl (JL.step (y_neq rfl rfl) rfl rfl rfl (JL.step (y_move rfl) rfl rfl rfl ?_))
                all_goals (first | (refine JL.gsplit_dec rfl rfl rfl (fun h => ?_) (fun h => ?_) <;> try (first | (exfalso; omega) | exact absurd rfl h)) | (refine JL.gsplit rfl rfl rfl (fun h => ?_) (fun h => ?_) <;> try (first | cases h | (exfalso; simp at h; done))) | skip)
                all_goals (first | refine JL.gskip rfl rfl rfl rfl rfl rfl ?_ | refine JL.gskipU rfl rfl rfl rfl rfl ?_ | refine JL.gstep rfl rfl rfl (y_move rfl) rfl rfl ?_)
                all_goals (first | refine JL.gskip rfl rfl rfl rfl rfl rfl ?_ | refine JL.gskipU rfl rfl rfl rfl rfl ?_ | refine JL.gstep rfl rfl rfl (y_ptr_eq_nil hT rfl rfl rfl rfl) rfl rfl ?_)
                all_goals (refine JL.step (y_pick rfl rfl rfl) rfl rfl rfl ?_)
                all_goals (refine JL.step (y_move rfl) rfl rfl rfl ?_)
                all_goals (first | (refine JL.gsplit_dec rfl rfl rfl (fun h => ?_) (fun h => ?_) <;> try (first | (exfalso; omega) | exact absurd rfl h)) | (refine JL.gsplit rfl rfl rfl (fun h => ?_) (fun h => ?_) <;> try (first | cases h | (exfalso; simp at h; done))) | skip)
                all_goals (first | refine JL.gskip rfl rfl rfl rfl rfl rfl ?_ | refine JL.gskipU rfl rfl rfl rfl rfl ?_ | refine JL.gstep rfl rfl rfl (y_move rfl) rfl rfl ?_)
                all_goals (first | refine JL.gskip rfl rfl rfl rfl rfl rfl ?_ | refine JL.gskipU rfl rfl rfl rfl rfl ?_ | (refine JL.gloud rfl rfl rfl (l_callF e14 rfl rfl (Fc.on (Split.cons (by (repeat (first | exact Pick.head | apply Pick.tail | apply Pick.app))) Split.nil) (eround_spec E x lg2 false last 0 _ _ _)) ?_); rintro _ _ ⟨rfl, rfl⟩))
                all_goals (first | refine JL.gskip rfl rfl rfl rfl rfl rfl ?_ | refine JL.gskipU rfl rfl rfl rfl rfl ?_ | refine JL.gstep rfl rfl rfl (y_move rfl) rfl rfl ?_)
                all_goals (first | refine JL.gskip rfl rfl rfl rfl rfl rfl ?_ | refine JL.gskipU rfl rfl rfl rfl rfl ?_ | refine JL.gstep rfl rfl rfl (y_neqB (b := false) rfl rfl (decide_eq_false (fun h => h rfl))) rfl rfl ?_)
                all_goals (refine JL.step (y_pick rfl rfl rfl) rfl rfl rfl ?_)
                all_goals (refine JL.step (y_move rfl) rfl rfl rfl ?_)
                all_goals (first | (refine JL.gsplit_dec rfl rfl rfl (fun h => ?_) (fun h => ?_) <;> try (first | (exfalso; omega) | exact absurd rfl h)) | (refine JL.gsplit rfl rfl rfl (fun h => ?_) (fun h => ?_) <;> try (first | cases h | (exfalso; simp at h; done))) | skip)
                all_goals (first | refine JL.gskip rfl rfl rfl rfl rfl rfl ?_ | refine JL.gskipU rfl rfl rfl rfl rfl ?_ | refine JL.gstep rfl rfl rfl (y_move rfl) rfl rfl ?_)
                all_goals (first | refine JL.gskip rfl rfl rfl rfl rfl rfl ?_ | refine JL.gskipU rfl rfl rfl rfl rfl ?_ | (refine JL.gloud rfl rfl rfl (l_callF e15 rfl rfl (Fc.on (Split.cons (by (repeat (first | exact Pick.head | apply Pick.tail | apply Pick.app))) Split.nil) (ephase_spec E x lg2 false last 0 _ _ _)) ?_); rintro _ _ ⟨rfl, rfl⟩))
                all_goals (first | refine JL.gskip rfl rfl rfl rfl rfl rfl ?_ | refine JL.gskipU rfl rfl rfl rfl rfl ?_ | refine JL.gstep rfl rfl rfl (y_neq rfl rfl) rfl rfl ?_)
                all_goals (refine JL.step (y_pick rfl rfl rfl) rfl rfl rfl ?_)
                all_goals refine JL.nil ?_
                all_goals refine JE.then_normal ?_
                all_goals
                  refine J.cond_f rfl (by (first | rfl | assumption | (simp; done) | (simp; omega))) ?_
                  refine J.skip ?_
                all_goals refine JE.then_normal ?_
                all_goals
                  have hM : last + 1#64 = 0#64 ↔ last.toNat = 18446744073709551615 := ⟨fun h => by
                    have z := congrArg BitVec.toNat h
                    rw [BitVec.toNat_add] at z
                    have hlt := last.isLt
                    simp at z
                    omega, fun h => by
                    apply BitVec.eq_of_toNat_eq
                    rw [BitVec.toNat_add, h]
                    rfl⟩
                  by_cases hlast : last + 1#64 = 0#64
                  ·
                    have hb9 : decide ((last.toNat : Int) = 18446744073709551615) = true := decide_eq_true (by have := hM.1 hlast; omega)
                    refine J.seq ?_
                    refine J.region ?_
                    refine JL.step (y_move rfl) rfl rfl rfl ?_
                    refine JL.loud rfl (l_callF e17 rfl rfl (keys22_spec E 1 _ 1 (by decide)) ?_)
                    rintro _ _ ⟨ka, kc, rfl, rfl⟩
                    refine JL.loud rfl (l_callF e16 rfl rfl (Fc.on (Split.cons (by (repeat (first | exact Pick.head | apply Pick.tail | apply Pick.app))) Split.nil) (announce_full E x lg2 last _ _ ka kc 1 _ (by decide) (by decide) hlast)) ?_)
                    rintro _ _ ⟨rfl, rfl⟩
                    refine JL.step (y_move rfl) rfl rfl rfl (JL.step (y_extract rfl rfl) rfl rfl rfl (JL.step (y_extract rfl rfl) rfl rfl rfl ?_))
                    refine JL.loud rfl (l_alloc hT rfl rfl (by (first | rfl | simp)) rfl (fun b13 => ?_))
                    refine JL.loud rfl (l_storeAll hT rfl rfl rfl (by (first | rfl | assumption | (simp; done) | omega)) (by (first | assumption | exact ones_of rfl | exact encW_one _ | exact encB_one _ | (intro u hu; simp at hu; rcases hu with rfl | rfl <;> rfl) | (intro u hu; simp at hu; subst hu; rfl) | simp)) (by (repeat (first | exact Pick.head | apply Pick.tail | apply Pick.app))) (by (first | rfl | assumption | (simp; done) | omega)) ?_)
                    refine JL.step (y_assign rfl) rfl rfl rfl ?_
                    refine JL.nil ?_
                    refine JE.then_normal ?_
                    refine J.seq ?_
                    refine J.seq ?_
                    refine J.region ?_
                    refine JL.step (y_move rfl) rfl rfl rfl (JL.step (y_eql rfl rfl) rfl rfl rfl ?_)
                    refine JL.nil ?_
                    refine JE.then_normal ?_
                    refine J.cond_t rfl (by (first | rfl | assumption | (simp; done) | (simp; omega))) ?_
                    refine J.seq ?_
                    refine J.region ?_
                    refine JL.step (y_move rfl) rfl rfl rfl (JL.step (y_eql rfl rfl) rfl rfl rfl (JL.step (y_move rfl) rfl rfl rfl ?_))
                    all_goals (first | (refine JL.gsplit_dec rfl rfl rfl (fun h => ?_) (fun h => ?_) <;> try (first | (exfalso; omega) | exact absurd rfl h)) | (refine JL.gsplit rfl rfl rfl (fun h => ?_) (fun h => ?_) <;> try (first | cases h | (exfalso; simp at h; done))) | skip)
                    all_goals (first | refine JL.gskip rfl rfl rfl rfl rfl rfl ?_ | refine JL.gskipU rfl rfl rfl rfl rfl ?_ | refine JL.gstep rfl rfl rfl (y_move rfl) rfl rfl ?_)
                    all_goals (first | refine JL.gskip rfl rfl rfl rfl rfl rfl ?_ | refine JL.gskipU rfl rfl rfl rfl rfl ?_ | (refine JL.gloud rfl rfl rfl (l_callF e14 rfl rfl (Fc.on (Split.cons (by (repeat (first | exact Pick.head | apply Pick.tail | apply Pick.app))) Split.nil) (eround_spec E x lg2 false last 0 _ _ _)) ?_); rintro _ _ ⟨rfl, rfl⟩))
                    all_goals (first | refine JL.gskip rfl rfl rfl rfl rfl rfl ?_ | refine JL.gskipU rfl rfl rfl rfl rfl ?_ | refine JL.gstep rfl rfl rfl (y_move rfl) rfl rfl ?_)
                    all_goals (first | refine JL.gskip rfl rfl rfl rfl rfl rfl ?_ | refine JL.gskipU rfl rfl rfl rfl rfl ?_ | refine JL.gstep rfl rfl rfl (y_eqlB (b := true) rfl rfl (decide_eq_true rfl)) rfl rfl ?_)
                    all_goals (refine JL.step (y_pick rfl rfl rfl) rfl rfl rfl ?_)
                    all_goals (refine JL.step (y_move rfl) rfl rfl rfl ?_)
                    all_goals (first | (refine JL.gsplit_dec rfl rfl rfl (fun h => ?_) (fun h => ?_) <;> try (first | (exfalso; omega) | exact absurd rfl h)) | (refine JL.gsplit rfl rfl rfl (fun h => ?_) (fun h => ?_) <;> try (first | cases h | (exfalso; simp at h; done))) | skip)
                    all_goals (first | refine JL.gskip rfl rfl rfl rfl rfl rfl ?_ | refine JL.gskipU rfl rfl rfl rfl rfl ?_ | refine JL.gstep rfl rfl rfl (y_move rfl) rfl rfl ?_)
                    all_goals (first | refine JL.gskip rfl rfl rfl rfl rfl rfl ?_ | refine JL.gskipU rfl rfl rfl rfl rfl ?_ | (refine JL.gloud rfl rfl rfl (l_callF e15 rfl rfl (Fc.on (Split.cons (by (repeat (first | exact Pick.head | apply Pick.tail | apply Pick.app))) Split.nil) (ephase_spec E x lg2 false last 0 _ _ _)) ?_); rintro _ _ ⟨rfl, rfl⟩))
                    all_goals (first | refine JL.gskip rfl rfl rfl rfl rfl rfl ?_ | refine JL.gskipU rfl rfl rfl rfl rfl ?_ | refine JL.gstep rfl rfl rfl (y_eql rfl rfl) rfl rfl ?_)
                    all_goals (refine JL.step (y_pick rfl rfl rfl) rfl rfl rfl ?_)
                    all_goals (refine JL.step (y_assign rfl) rfl rfl rfl ?_)
                    all_goals refine JL.nil ?_
                    all_goals refine JE.then_normal ?_
                    all_goals
                      refine J.ret ?_
                      refine JE.then_ret ?_
                      refine JE.ret1 (.inl rfl) rfl rfl (by (first | exact RV.tmp rfl | exact RV.cell1 hT rfl rfl rfl (by (exact Rd1.row (by (repeat (first | exact Pick.head | apply Pick.tail | apply Pick.app))) (by rfl))) | exact RV.cellN hT rfl rfl rfl (by (first | exact RdN.rowAll (by (repeat (first | exact Pick.head | apply Pick.tail | apply Pick.app))) | exact RdN.own (by (repeat (first | exact Pick.head | apply Pick.tail | apply Pick.app))))) (by (first | rfl | assumption | (simp; done) | omega)))) ?_
                      exact ⟨rfl, fun w q => q.sup (by (repeat (first | exact Sup.refl | apply Sup.cons (by (repeat (first | exact Pick.head | apply Pick.tail | apply Pick.app))) | apply Sup.app | apply Sup.skip | apply Sup.skips)))⟩
                  ·
                    have hb9 : decide ((last.toNat : Int) = 18446744073709551615) = false := decide_eq_false (fun h => hlast (hM.2 (by omega)))
                    obtain ⟨A, Sa, D2, hL2, hA, _, _, hann⟩ := announce_up E hL hN hlast (by omega) hl
                    refine J.seq ?_
                    refine J.region ?_
                    refine JL.step (y_move rfl) rfl rfl rfl ?_
                    refine JL.loud rfl (l_callF e17 rfl rfl (keys22_spec E 1 _ 1 (by decide)) ?_)
                    rintro _ _ ⟨ka, kc, rfl, rfl⟩
                    refine JL.loud rfl (l_callF e16 rfl rfl (Fc.fact (p := OwnAt ka 1 kc ((keysL 1).flatMap (ints .u8))) (fun w s => Sat.own_at (s.pick Pick.head)) fun ok => Fc.on (Split.cons (A := entR x lg2 false last 0 0 (.map none)) (by (repeat (first | exact Pick.head | apply Pick.tail | apply Pick.app))) (Split.cons (A := logm lg2 st2 L) (by (repeat (first | exact Pick.head | apply Pick.tail | apply Pick.app))) (Split.cons (A := row st2 74 (scells S d)) (by (repeat (first | exact Pick.head | apply Pick.tail | apply Pick.app))) (Split.cons (A := disk d D) (by (repeat (first | exact Pick.head | apply Pick.tail | apply Pick.app))) Split.nil)))) (hann x lg2 st2 d 0 (.map none) ka kc 1 (keysL 1) _ rfl (by decide) (by decide) keyB_mem (ok.inl (by (repeat (first | exact Pick.head | apply Pick.tail | apply Pick.app)))))) ?_)
                    rintro _ _ ⟨za, zc, g, rfl, rfl⟩
                    refine JL.step (y_move rfl) rfl rfl rfl (JL.step (y_extract rfl rfl) rfl rfl rfl (JL.step (y_extract rfl rfl) rfl rfl rfl ?_))
                    refine JL.loud rfl (l_alloc hT rfl rfl (by (first | rfl | simp)) rfl (fun b13 => ?_))
                    refine JL.loud rfl (l_storeAll hT rfl rfl rfl (by (first | rfl | assumption | (simp; done) | omega)) (by (first | assumption | exact ones_of rfl | exact encW_one _ | exact encB_one _ | (intro u hu; simp at hu; rcases hu with rfl | rfl <;> rfl) | (intro u hu; simp at hu; subst hu; rfl) | simp)) (by (repeat (first | exact Pick.head | apply Pick.tail | apply Pick.app))) (by (first | rfl | assumption | (simp; done) | omega)) ?_)
                    refine JL.step (y_assign rfl) rfl rfl rfl ?_
                    refine JL.nil ?_
                    refine JE.then_normal ?_
                    refine J.seq ?_
                    refine J.seq ?_
                    refine J.region ?_
                    refine JL.step (y_move rfl) rfl rfl rfl (JL.step (y_eql rfl rfl) rfl rfl rfl ?_)
                    refine JL.nil ?_
                    refine JE.then_normal ?_
                    refine J.cond_f rfl (by (first | rfl | assumption | (simp; done) | (simp; omega))) ?_
                    refine J.skip ?_
                    refine JE.then_normal ?_
                    refine J.seq ?_
                    refine J.region ?_
                    refine JL.step (y_move rfl) rfl rfl rfl (JL.step (y_eql rfl rfl) rfl rfl rfl (JL.step (y_move rfl) rfl rfl rfl ?_))
                    all_goals (first | (refine JL.gsplit_dec rfl rfl rfl (fun h => ?_) (fun h => ?_) <;> try (first | (exfalso; omega) | exact absurd rfl h)) | (refine JL.gsplit rfl rfl rfl (fun h => ?_) (fun h => ?_) <;> try (first | cases h | (exfalso; simp at h; done))) | skip)
                    all_goals (first | refine JL.gskip rfl rfl rfl rfl rfl rfl ?_ | refine JL.gskipU rfl rfl rfl rfl rfl ?_ | refine JL.gstep rfl rfl rfl (y_fieldAddr hT rfl rfl rfl rfl rfl rfl) rfl rfl ?_)
                    all_goals (first | refine JL.gskip rfl rfl rfl rfl rfl rfl ?_ | refine JL.gskipU rfl rfl rfl rfl rfl ?_ | refine JL.gstep rfl rfl rfl (y_load1 hT rfl rfl rfl (by (exact Rd1.row (by (repeat (first | exact Pick.head | apply Pick.tail | apply Pick.app))) (by rfl)))) rfl rfl ?_)
                    all_goals (first | refine JL.gskip rfl rfl rfl rfl rfl rfl ?_ | refine JL.gskipU rfl rfl rfl rfl rfl ?_ | refine JL.gstep rfl rfl rfl (y_move rfl) rfl rfl ?_)
                    all_goals (first | refine JL.gskip rfl rfl rfl rfl rfl rfl ?_ | refine JL.gskipU rfl rfl rfl rfl rfl ?_ | refine JL.gstep rfl rfl rfl ((by first | exact y_addQ rfl rfl | exact y_add rfl rfl (by (first | exact wrap_i64 (by omega) (by omega) | rfl)))) rfl rfl ?_)
                    all_goals (first | refine JL.gskip rfl rfl rfl rfl rfl rfl ?_ | refine JL.gskipU rfl rfl rfl rfl rfl ?_ | refine JL.gstep rfl rfl rfl (y_eqlB (b := true) rfl rfl (decide_eq_true rfl)) rfl rfl ?_)
                    all_goals (refine JL.step (y_pick rfl rfl rfl) rfl rfl rfl ?_)
                    all_goals (refine JL.step (y_assign rfl) rfl rfl rfl ?_)
                    all_goals refine JL.nil ?_
                    all_goals refine JE.then_normal ?_
                    all_goals
                      refine J.ret ?_
                      refine JE.ret1 (.inl rfl) rfl rfl (by (first | exact RV.tmp rfl | exact RV.cell1 hT rfl rfl rfl (by (exact Rd1.row (by (repeat (first | exact Pick.head | apply Pick.tail | apply Pick.app))) (by rfl))) | exact RV.cellN hT rfl rfl rfl (by (first | exact RdN.rowAll (by (repeat (first | exact Pick.head | apply Pick.tail | apply Pick.app))) | exact RdN.own (by (repeat (first | exact Pick.head | apply Pick.tail | apply Pick.app))))) (by (first | rfl | assumption | (simp; done) | omega)))) ?_
                      exact ⟨rfl, fun w q => q.sup (by (repeat (first | exact Sup.refl | apply Sup.cons (by (repeat (first | exact Pick.head | apply Pick.tail | apply Pick.app))) | apply Sup.app | apply Sup.skip | apply Sup.skips)))⟩
        all_goals refine JE.then_normal ?_
        all_goals
          refine J.seq ?_
          refine J.block ?_
          refine J.seq ?_
          refine J.region ?_
          have hlt : i < mm := by omega
          obtain ⟨go, oo, rfl, hro⟩ := hin.addr (by omega)
          have hro0 : RdN r go oo (xs.map snV) := hro []
          obtain ⟨⟨px, cx, bs⟩, hxi⟩ : ∃ x, xs[i]? = some x := ⟨_, List.getElem?_eq_getElem (by omega)⟩
          obtain ⟨hbin, hbb⟩ := hx _ (List.mem_of_getElem? hxi)
          dsimp only at hbin hbb
          have hxv : (xs.map snV)[i]? = some (.slice px bs.length cx) := by rw [List.getElem?_map, hxi]; rfl
          obtain ⟨k, hk⟩ : ∃ k, min bs.length 30 = k := ⟨_, rfl⟩
          obtain ⟨tx, htx⟩ : ∃ tx, bs.take k = tx := ⟨_, rfl⟩
          have htl : tx.length = k := by rw [← htx, List.length_take]; omega
          have hts : Small tx := ⟨by rw [← htx]; exact hbb.take k, by omega⟩
          have htin : InL r px k cx (ints .u8 tx) := by
            have z := hbin.cutTo k k (by omega)
            rwa [show (ints .u8 bs).take k = ints .u8 tx by rw [← htx]; simp [ints, List.map_take]] at z
          have hb63' := hb63 hbin
          have hnk : needN k ≤ 2 := by unfold needN; omega
          have hslots : D.slots = 32 := by unfold Dk.slots Dk.half; rw [hl]
          obtain ⟨D', eA, hL', hl'⟩ := hL.append hts (by rw [htl]; omega)
          obtain ⟨L', hL'e⟩ : ∃ L' : Lg, { L with txs := L.txs ++ [tx], used := L.used + needN tx.length } = L' := ⟨_, rfl⟩
          rw [hL'e] at eA hL'
          have hu' : L'.used ≤ 2 * (i + 1) := by rw [← hL'e]; dsimp only; rw [htl]; omega
          have hn' : L'.txs.length ≤ i + 1 := by rw [← hL'e]; simp; omega
          have hl' := hl'.trans hl
          refine JL.step (y_indexAddr_slice hT rfl rfl rfl rfl rfl (by (first | omega | exact Nat.le_of_ble_eq_true rfl | decide | (simp; omega))) (by (first | omega | exact Nat.le_of_ble_eq_true rfl | decide | (simp; omega)))) rfl rfl rfl ?_
          refine JL.step (y_load1 hT rfl rfl rfl (Rd1.elem (by (repeat (first | assumption | apply RdN.cons | apply RdN.app))) hxv)) rfl rfl rfl ?_
          refine JL.step (y_assign rfl) rfl rfl rfl ?_
          refine JL.nil ?_
          refine JE.then_normal ?_
          refine J.seq ?_
          refine J.region ?_
          refine JL.step (y_move rfl) rfl rfl rfl (JL.step (y_move rfl) rfl rfl rfl (JL.step (y_len_slice hT rfl rfl rfl) rfl rfl rfl ?_))
          refine JL.step (y_min2 (m := (k : Int)) rfl rfl (by omega)) rfl rfl rfl ?_
          refine JL.step (y_cutTo hT rfl rfl rfl rfl rfl rfl (show k ≤ bs.length by omega) hbin) rfl rfl rfl ?_
          refine JL.step (y_assign rfl) rfl rfl rfl ?_
          refine JL.nil ?_
          refine JE.then_normal ?_
          refine J.seq ?_
          refine J.seq ?_
          refine J.region ?_
          refine JL.step (y_move rfl) rfl rfl rfl (JL.step (y_move rfl) rfl rfl rfl ?_)
          refine JL.loud rfl (l_callF e12 rfl rfl (Fc.on (Split.cons (by (repeat (first | exact Pick.head | apply Pick.tail | apply Pick.app))) (Split.cons (by (repeat (first | exact Pick.head | apply Pick.tail | apply Pick.app))) (Split.cons (by (repeat (first | exact Pick.head | apply Pick.tail | apply Pick.app))) Split.nil))) (append_lh E lg st d _ hL tx px cx k htl hts (by omega) eA (by (repeat (first | assumption | apply InL.cons | apply InL.app))))) ?_)
          rintro _ _ ⟨rfl, rfl⟩
          refine JL.step (y_neq rfl rfl) rfl rfl rfl ?_
          refine JL.nil ?_
          refine JE.then_normal ?_
          refine J.cond_f rfl (by (first | rfl | assumption | (simp; done) | (simp; omega))) ?_
          refine J.skip ?_
          refine JE.then_normal ?_
          refine J.seq ?_
          refine J.seq ?_
          cases right
          all_goals
            refine J.region ?_
            refine JL.step (y_move rfl) rfl rfl rfl (JL.step (y_not rfl) rfl rfl rfl ?_)
            refine JL.nil ?_
          all_goals refine JE.then_normal ?_
          all_goals
            focus
              first | apply J.cond_dec rfl | apply J.cond rfl
              focus
                intro h
                try (first | (exfalso; omega) | (cases h; done) | (exfalso; simp at h; done) | subst h)
                all_goals
                  have hN1 : LastIs L' false last := by rw [← hL'e]; exact hLI.bad tx _ last
                  refine J.exit ?_
                  refine JE.then_exit ?_
                  refine JE.block_exit ?_
                  refine JE.then_normal ?_
                  refine J.region ?_
                  refine JL.step (y_add rfl rfl (by (first | exact wrap_i64 (by omega) (by omega) | rfl))) rfl rfl rfl ?_
                  refine JL.step (y_move rfl) rfl rfl rfl ?_
                  refine JL.nil ?_
                  first
                    | (have zz := hN1
                       exact JE.round (s := (i, D, L, false, last)) (i + 1, D', L', false, last) ⟨by dsimp only; omega, hL', hl', hu', hn', hN1⟩ ⟨rfl, rfl, rfl, rfl, rfl, rfl, rfl, trivial⟩ (fun w s => s.sup (by (repeat (first | exact Sup.refl | apply Sup.cons (by (repeat (first | exact Pick.head | apply Pick.tail | apply Pick.app))) | apply Sup.app | apply Sup.skip | apply Sup.skips)))) (by dsimp only; omega))
                    | (have zz := hN2
                       exact JE.round (s := (i, D, L, true, last)) (i + 1, D', L', false, last) ⟨by dsimp only; omega, hL', hl', hu', hn', hN2⟩ ⟨rfl, rfl, rfl, rfl, rfl, rfl, rfl, trivial⟩ (fun w s => s.sup (by (repeat (first | exact Sup.refl | apply Sup.cons (by (repeat (first | exact Pick.head | apply Pick.tail | apply Pick.app))) | apply Sup.app | apply Sup.skip | apply Sup.skips)))) (by dsimp only; omega))
                    | (have zz := hN3
                       exact JE.round (s := (i, D, L, true, last)) (i + 1, D', L', true, leG tx 8) ⟨by dsimp only; omega, hL', hl', hu', hn', hN3⟩ ⟨rfl, rfl, rfl, rfl, rfl, rfl, rfl, trivial⟩ (fun w s => s.sup (by (repeat (first | exact Sup.refl | apply Sup.cons (by (repeat (first | exact Pick.head | apply Pick.tail | apply Pick.app))) | apply Sup.app | apply Sup.skip | apply Sup.skips)))) (by dsimp only; omega))
              rotate_right 1
              focus
                intro h
                try (first | (exfalso; omega) | (cases h; done) | (exfalso; simp at h; done) | subst h)
                all_goals
                  refine J.skip ?_
          all_goals refine JE.then_normal ?_
          all_goals
            refine J.seq ?_
            refine J.seq ?_
            refine J.region ?_
            refine JL.step (y_move rfl) rfl rfl rfl (JL.step (y_len_slice hT rfl rfl rfl) rfl rfl rfl (JL.step (y_neq rfl rfl) rfl rfl rfl (JL.step (y_move rfl) rfl rfl rfl ?_)))
            all_goals (first | (refine JL.gsplit_dec rfl rfl rfl (fun h => ?_) (fun h => ?_) <;> try (first | (exfalso; omega) | exact absurd rfl h)) | (refine JL.gsplit rfl rfl rfl (fun h => ?_) (fun h => ?_) <;> try (first | cases h | (exfalso; simp at h; done))) | skip)
            all_goals (first | refine JL.gskip rfl rfl rfl rfl rfl rfl ?_ | refine JL.gskipU rfl rfl rfl rfl rfl ?_ | refine JL.gstep rfl rfl rfl (y_move rfl) rfl rfl ?_)
            all_goals (first | refine JL.gskip rfl rfl rfl rfl rfl rfl ?_ | refine JL.gskipU rfl rfl rfl rfl rfl ?_ | (refine JL.gloud rfl rfl rfl (l_callF e11 rfl rfl (cget px cx tx k _ htl (by omega) (by (repeat (first | assumption | apply InL.cons | apply InL.app)))) ?_); rintro _ _ ⟨rfl, rfl⟩))
            all_goals (first | refine JL.gskip rfl rfl rfl rfl rfl rfl ?_ | refine JL.gskipU rfl rfl rfl rfl rfl ?_ | refine JL.gstep rfl rfl rfl (y_move rfl) rfl rfl ?_)
            all_goals (first | refine JL.gskip rfl rfl rfl rfl rfl rfl ?_ | refine JL.gskipU rfl rfl rfl rfl rfl ?_ | refine JL.gstep rfl rfl rfl (y_leq rfl rfl) rfl rfl ?_)
            all_goals (refine JL.step (y_pick rfl rfl rfl) rfl rfl rfl ?_)
            all_goals refine JL.nil ?_
            all_goals refine JE.then_normal ?_
            all_goals
              focus
                first | apply J.cond_dec rfl | apply J.cond rfl
                focus
                  intro h
                  try (first | (exfalso; omega) | (cases h; done) | (exfalso; simp at h; done) | subst h)
                  all_goals
                    have hN2 : LastIs L' false last := by
                      rw [← hL'e]
                      refine hLI.off (fun hh => ?_) _ last
                      have h8 := hh.1
                      have h9 := hh.2
                      first
                        | omega
                        | (simp at h; omega)
                    refine J.seq ?_
                    refine J.region ?_
                    refine JL.step (y_assign rfl) rfl rfl rfl ?_
                    refine JL.nil ?_
                    refine JE.then_normal ?_
                    refine J.exit ?_
                    refine JE.then_exit ?_
                    refine JE.block_exit ?_
                    refine JE.then_normal ?_
                    refine J.region ?_
                    refine JL.step (y_add rfl rfl (by (first | exact wrap_i64 (by omega) (by omega) | rfl))) rfl rfl rfl ?_
                    refine JL.step (y_move rfl) rfl rfl rfl ?_
                    refine JL.nil ?_
                    first
                      | (have zz := hN1
                         exact JE.round (s := (i, D, L, false, last)) (i + 1, D', L', false, last) ⟨by dsimp only; omega, hL', hl', hu', hn', hN1⟩ ⟨rfl, rfl, rfl, rfl, rfl, rfl, rfl, trivial⟩ (fun w s => s.sup (by (repeat (first | exact Sup.refl | apply Sup.cons (by (repeat (first | exact Pick.head | apply Pick.tail | apply Pick.app))) | apply Sup.app | apply Sup.skip | apply Sup.skips)))) (by dsimp only; omega))
                      | (have zz := hN2
                         exact JE.round (s := (i, D, L, true, last)) (i + 1, D', L', false, last) ⟨by dsimp only; omega, hL', hl', hu', hn', hN2⟩ ⟨rfl, rfl, rfl, rfl, rfl, rfl, rfl, trivial⟩ (fun w s => s.sup (by (repeat (first | exact Sup.refl | apply Sup.cons (by (repeat (first | exact Pick.head | apply Pick.tail | apply Pick.app))) | apply Sup.app | apply Sup.skip | apply Sup.skips)))) (by dsimp only; omega))
                      | (have zz := hN3
                         exact JE.round (s := (i, D, L, true, last)) (i + 1, D', L', true, leG tx 8) ⟨by dsimp only; omega, hL', hl', hu', hn', hN3⟩ ⟨rfl, rfl, rfl, rfl, rfl, rfl, rfl, trivial⟩ (fun w s => s.sup (by (repeat (first | exact Sup.refl | apply Sup.cons (by (repeat (first | exact Pick.head | apply Pick.tail | apply Pick.app))) | apply Sup.app | apply Sup.skip | apply Sup.skips)))) (by dsimp only; omega))
                rotate_right 1
                focus
                  intro h
                  try (first | (exfalso; omega) | (cases h; done) | (exfalso; simp at h; done) | subst h)
                  all_goals
                    have h8k : k = 8 := by first | omega | (simp at h; omega)
                    have hN3 : LastIs L' true (leG tx 8) := by rw [← hL'e]; exact hLI.on ⟨by omega, by omega⟩ _
                    refine J.skip ?_
            all_goals refine JE.then_normal ?_
            all_goals
              refine J.region ?_
              refine JL.step (y_move rfl) rfl rfl rfl ?_
              refine JL.loud rfl (l_callF e11 rfl rfl (cget px cx tx k _ htl h8k (by (repeat (first | assumption | apply InL.cons | apply InL.app)))) ?_)
              rintro _ _ ⟨rfl, rfl⟩
              refine JL.step (y_assign rfl) rfl rfl rfl ?_
              refine JL.nil ?_
          all_goals refine JE.block_normal ?_
          all_goals refine JE.then_normal ?_
          all_goals
            refine J.region ?_
            refine JL.step (y_add rfl rfl (by (first | exact wrap_i64 (by omega) (by omega) | rfl))) rfl rfl rfl ?_
            refine JL.step (y_move rfl) rfl rfl rfl ?_
            refine JL.nil ?_
        all_goals
          first
            | (have zz := hN1
               exact JE.round (s := (i, D, L, false, last)) (i + 1, D', L', false, last) ⟨by dsimp only; omega, hL', hl', hu', hn', hN1⟩ ⟨rfl, rfl, rfl, rfl, rfl, rfl, rfl, trivial⟩ (fun w s => s.sup (by (repeat (first | exact Sup.refl | apply Sup.cons (by (repeat (first | exact Pick.head | apply Pick.tail | apply Pick.app))) | apply Sup.app | apply Sup.skip | apply Sup.skips)))) (by dsimp only; omega))
            | (have zz := hN2
               exact JE.round (s := (i, D, L, true, last)) (i + 1, D', L', false, last) ⟨by dsimp only; omega, hL', hl', hu', hn', hN2⟩ ⟨rfl, rfl, rfl, rfl, rfl, rfl, rfl, trivial⟩ (fun w s => s.sup (by (repeat (first | exact Sup.refl | apply Sup.cons (by (repeat (first | exact Pick.head | apply Pick.tail | apply Pick.app))) | apply Sup.app | apply Sup.skip | apply Sup.skips)))) (by dsimp only; omega))
            | (have zz := hN3
               exact JE.round (s := (i, D, L, true, last)) (i + 1, D', L', true, leG tx 8) ⟨by dsimp only; omega, hL', hl', hu', hn', hN3⟩ ⟨rfl, rfl, rfl, rfl, rfl, rfl, rfl, trivial⟩ (fun w s => s.sup (by (repeat (first | exact Sup.refl | apply Sup.cons (by (repeat (first | exact Pick.head | apply Pick.tail | apply Pick.app))) | apply Sup.app | apply Sup.skip | apply Sup.skips)))) (by dsimp only; omega))
end
section
open Go.ChangeShapes Go.WideShapes Go.ChangeAt Go.RowKit
theorem tr_one {H : Type} {enc : TypeId × Value → H} {P : Program} {w : World} {ok : DataW H → Prop} {t e : TypeId} {cs : List Value} (ht : P.underlying t = some (.slice e)) (h : Tr enc P ok w t cs) : ∃ v, cs = [v] := by
  obtain ⟨fuel, x, h, _⟩ := h
  rcases DataW.trod_slice ht h with h | h
  · exact ⟨_, h.1⟩
  · obtain ⟨_, _, _, _, _, _, _, h, _⟩ := h
    exact ⟨_, h⟩
set_option maxRecDepth 100000 in
theorem tr_snaps {H : Type} {enc : TypeId × Value → H} {w : World} {ok : DataW H → Prop} {L : Nat → Prop} {v : Value} (her : Her ok L) (h : Tr enc prog ok w 23 [v]) :
    ∃ (p : Option Addr) (cap : Nat) (xs : List Sn), v = .slice p xs.length cap ∧ (∀ x ∈ xs, L x.2.2.length ∧ Bytes x.2.2 ∧ InW w x.1 x.2.2.length x.2.1 (ints .u8 x.2.2)) ∧ InW w p xs.length cap (xs.map snV) := by
  obtain ⟨p, cap, xs, h1, hL, hk, h2⟩ := Tr.slice (encA := fun x : Sn => [snV x]) (okA := fun x : Sn => L x.2.2.length ∧ Bytes x.2.2 ∧ InW w x.1 x.2.2.length x.2.1 (ints .u8 x.2.2)) (k := 1) her u23 (by kernel_rfl) (by decide) (fun _ _ => rfl) (fun cs hc => by
    obtain ⟨v, rfl⟩ := tr_one u22 hc
    obtain ⟨p, cap, bs, rfl, hl, hb, hi⟩ := tr_bytesR her hc
    exact ⟨(p, cap, bs), rfl, hl, hb, hi⟩) h
  have e := flatMap_one snV xs
  exact ⟨p, cap, xs, h1, hk, by rw [← e]; exact h2⟩
theorem entry_opens_reads : ∀ t ∈ Try.f3.params.toList, Try.prog.readableRec t = true ∧ t < Try.prog.types.size := by
  rw [Try.params3]
  intro t ht
  simp only [List.mem_cons, List.not_mem_nil, or_false] at ht
  rcases ht with rfl | rfl
  all_goals exact ⟨by kernel_rfl, of_decide_eq_true (by kernel_rfl)⟩
set_option maxRecDepth 100000 in
theorem entry_opens_contract (H : Type) (enc : TypeId × Value → H) (W : World) (base : Nat) (args : Array Value) (ds gs : List (DataW H)) (before : List MemPlace)
    (hval : ∀ (j : Nat) t v, Try.f3.params[j]? = some t → args[j]? = some v → Value.okWide Try.prog W .any base t v)
    (hW : DataW.Whole enc Try.prog Try.f3.params.toList Rows.entryOpensSpec.vars false W args.toList ds gs before) :
    Calls Try.prog 3 args W fun e W' => ∃ v, e = .returned v ∧ Rows.entryOpensSpec.post enc Try.prog Try.f3 false true false false W args v W' := by
  have hW' := hW
  obtain ⟨p, q, hA0, hV, rfl, hfz, hnd⟩ := hW
  have hA : DataW.TrodAll enc Try.prog W 0 (fun _ => true) true Try.f3.params.toList args.toList ds p := hA0
  rw [Try.params3] at hA hval
  obtain ⟨v0, vs0, d0, ds0, p0, q0, hargs, rfl, rfl, h0, r0⟩ := trodAll_cons hA
  obtain ⟨v1, vs1, d1, ds1, p1, q1, rfl, rfl, rfl, h1, r1⟩ := trodAll_cons r0
  obtain ⟨rfl, rfl, rfl⟩ := trodAll_nil r1
  obtain rfl : args = #[v0, v1] := by cases args; simp_all
  obtain ⟨rfl, rfl⟩ := trodVars_none hV
  clear hA0
  have t0 : Tr enc prog (fun _ => True) W 22 [v0] := Tr.ofSlice u22 (hval 0 22 v0 rfl rfl) h0 trivial
  have t1 : Tr enc prog (fun _ => True) W 23 [v1] := Tr.ofSlice u23 (hval 1 23 v1 rfl rfl) h1 trivial
  obtain ⟨p, c, ys, rfl, _, hb, hin1⟩ := tr_bytesR Her.all t0
  obtain ⟨q, qc, xs, rfl, hx, hin2⟩ := tr_snaps Her.all t1
  refine ((entry_opens W p c ys q qc xs [old W] hb (hin1.inl []) (hin2.inl []) (fun x h => ⟨(hx x h).2.2.inl [], (hx x h).2.1⟩)) W (Sat.start W)).mono fun e W' hq => ?_
  obtain ⟨v, l', rfl, hs, rfl, rfl⟩ := hq
  exact ⟨_, rfl, law_post laidOut_ rfl rfl u4 entry_opens_reads hW' rfl rfl rfl hs.below⟩
set_option maxRecDepth 100000 in
theorem entry_opens_lifted (os : Os) (started : os.Started) (H : Type) (enc : TypeId × Value → H) :
    ReturnsInHanded {} Try.checked os 3 .any (Rows.entryOpensSpec.pre6 enc Try.prog Try.f3 Rows.entryOpensRow.domain false) (Rows.entryOpensSpec.post enc Try.prog Try.f3 false true false false) := by
  refine returnsInHanded_of_change (C := Try.checked) own_ started (by kernel_rfl) Try.func3
    (ChangeSpec.witness6 (enc := enc) (C := Try.checked) false ⟨#[], #[.slice none 0 0, .slice none 0 0], []⟩ 8 (by kernel_rfl) (by kernel_rfl) (by kernel_rfl) (by kernel_rfl)) ?_
  intro W base args ds gs before hval hW _ _
  exact entry_opens_contract H enc W base args ds gs before hval hW
theorem entry_opens_holds : Rows.EntryOpensSaid :=
  OpenClaim.holds_of_wide 3 Try.f3 rfl rfl rfl rfl rfl rfl rfl ⟨rfl, rfl, rfl, rfl, rfl⟩ rfl rfl rfl rfl rfl (by kernel_rfl) Try.func3 (by kernel_rfl)
    (of_decide_eq_true (by kernel_rfl)) (by unfold Func.isWrapper; first | (rw [if_pos (by decide +kernel)]; kernel_rfl) | (rw [if_neg (by decide +kernel)]; exact ⟨rfl, rfl⟩))
    (fun os started H enc _ => entry_opens_lifted os started H enc)
end
end Go.Proofs.Ytimekohdlofmaaa
