/-
  hollowtreelaw11.ExtentCuts returns true for every input, and leaves its input as it was. No condition.
-/
import Derived.Test.YtilifeeddpkclaaLaw11c
import Derived.Test.YtilifeeddpkclaaTop1
import Derived.Test.YtilifeeddpkclaaTop1c
namespace Go.Proofs.Ytilifeeddpkclaa
open Go Go.SL
section
/-- So many snapshots behind each other. -/
def took (bs : List Int) : Nat → Sb × Dk → Sb × Dk
  | 0, x => x
  | k + 1, x => ((takeS (took bs k x).1 (took bs k x).2 bs).1, (takeS (took bs k x).1 (took bs k x).2 bs).2.1)
theorem took_holds {s : Sb} {w bs : List Int} {D : Dk} (h : Holds s w D) (hl : bs.length ≤ 64 * D.half) (ht : s.turn.toNat ≤ 1000) : ∀ k, k ≤ 1000 →
    (took bs k (s, D)).1.turn.toNat = s.turn.toNat + k ∧ (took bs k (s, D)).2.safe.length = D.safe.length ∧ (∃ w', Holds (took bs k (s, D)).1 w' (took bs k (s, D)).2) ∧ (0 < k → Holds (took bs k (s, D)).1 bs (took bs k (s, D)).2)
  | 0, _ => ⟨rfl, rfl, ⟨w, h⟩, fun h => absurd h (by decide)⟩
  | k + 1, hk => by
    obtain ⟨h1, h2, ⟨w', h3⟩, _⟩ := took_holds h hl ht k (by omega)
    have hh : (took bs k (s, D)).2.half = D.half := by unfold Dk.half; rw [h2]
    obtain ⟨D', hD', hT⟩ := takeS_up (bs := bs) h3.up h3.fits.two h3.fits.place (by rw [hh]; exact hl)
    have h4 := holds_taken h3 (by rw [hh]; exact hl) (by omega) hT
    have e : took bs (k + 1) (s, D) = (nextS (took bs k (s, D)).1 bs, D') := by rw [took, hD']
    rw [e]
    exact ⟨by rw [next_turn (by omega)]; omega, hT.len.trans h2, ⟨bs, h4⟩, fun _ => h4⟩
theorem took_take {s : Sb} {w bs : List Int} {D : Dk} (h : Holds s w D) (hl : bs.length ≤ 64 * D.half) (ht : s.turn.toNat ≤ 1000) (k : Nat) (hk : k ≤ 1000) : takeS (took bs k (s, D)).1 (took bs k (s, D)).2 bs = ((took bs (k + 1) (s, D)).1, (took bs (k + 1) (s, D)).2, 0) := by
  obtain ⟨h1, h2, ⟨w', h3⟩, _⟩ := took_holds h hl ht k hk
  have hh : (took bs k (s, D)).2.half = D.half := by unfold Dk.half; rw [h2]
  obtain ⟨D', hD', hT⟩ := takeS_up (bs := bs) h3.up h3.fits.two h3.fits.place (by rw [hh]; exact hl)
  rw [took, hD']
attribute [local irreducible] J JL JE JM LS Y Fc RV Code.wp wpList Code.wpIn wpListIn
attribute [local irreducible] Yc
variable (E : World)
section
variable (more ahead at_ : Int) (p1 p2 kp : Option Addr) (c1 c2 kc : Nat) (was next : List Int) (keep : List Bool) (r : List HProp)
  (hin1 : InL r p1 was.length c1 (ints .u8 was)) (hin2 : InL r p2 next.length c2 (ints .u8 next)) (hink : InL r kp keep.length kc (keep.map Value.bool)) (hkn : keep.length ≤ 2000000) (hb1 : Bytes was) (hb2 : Bytes next)
  (m cnt k n1 n2 : Nat) (hm : (max more 0).tmod 64 = m) (hm1 : m < 64) (hc : (max ahead 0).tmod 3 = cnt) (hc1 : cnt < 3) (hk : (max at_ 0).tmod 20 = k) (hk1 : k < 20)
  (D1 : Dk) (hD1 : (Dk.new (64 + m)).formatted = D1) (hn1 : min was.length (64 * D1.half) = n1) (hn2 : min next.length (64 * D1.half) = n2)
  (s : Sb) (D DX : Dk) (hsD : took (was.take n1) (1 + cnt) (sb0, D1) = (s, D))
include hin1 hin2 hink hkn hb1 hb2 hm hm1 hc hc1 hk hk1 hD1 hn1 hn2 hsD
theorem cuts_a (hTk : takeS s (D.arm k) (next.take n2) = (s, DX, 7)) (hdX : DX.dead = true) (hpX : DX.pending.length ≤ 1000) (hH : Holds s (was.take n1) (DX.crash keep)) :
    Fc prog E 12 [.slice p1 was.length c1, .slice p2 next.length c2, .agg #[.int .i64 more, .int .i64 ahead, .int .i64 at_, .slice kp keep.length kc]].toArray r (fun v l' => v = .bool true ∧ l' = r) := by
  refine Fc.eqs ?_
  have hu0 : Up (Dk.new (64 + m)) := new_up (by omega) (by omega)
  have hN : (Dk.new (64 + m)).safe.length = 64 + m := by simp [Dk.new]
  obtain ⟨hu1, hl1, hp1⟩ := formatted_up hu0 (by omega)
  have hH1 := holds_format hu0 (by omega)
  rw [hD1] at hu1 hl1 hp1 hH1
  have hl1' : D1.safe.length = 64 + m := hl1.trans hN
  have hhl := half_le D1 (by omega)
  have hfmt : ∀ d l, Fc prog E 38 [.pointer (some ⟨d, 0, none⟩)].toArray (disk d (Dk.new (64 + m)) :: l) (fun v l' => ∃ st, v = .tuple #[.pointer (some ⟨st, 0, none⟩), .int .i64 0] ∧ l' = row st 125 (scells sb0 d) :: disk d D1 :: l) := fun d l => by
    have h := format_good E d (Dk.new (64 + m)) l (by omega) rfl rfl (by simp [Dk.new])
    rwa [hD1] at h
  obtain ⟨W, hW⟩ : ∃ W, was.take n1 = W := ⟨_, rfl⟩
  obtain ⟨X, hX⟩ : ∃ X, next.take n2 = X := ⟨_, rfl⟩
  have hWl : W.length = n1 := by rw [← hW, List.length_take]; omega
  have hXl : X.length = n2 := by rw [← hX, List.length_take]; omega
  have hWb : Bytes W := fun x hx => hb1 x (by rw [← hW] at hx; exact List.mem_of_mem_take hx)
  have hXb : Bytes X := fun x hx => hb2 x (by rw [← hX] at hx; exact List.mem_of_mem_take hx)
  rw [hW] at hsD
  rw [hX] at hTk
  rw [hW] at hH
  have hroom : W.length ≤ 64 * D1.half := by omega
  have hall := fun j hj => took_holds hH1 hroom (by decide) j hj
  obtain ⟨hst, hDl, _, hHs⟩ := hall (1 + cnt) (by omega)
  rw [hsD] at hst hDl hHs
  have hHs := hHs (by omega)
  dsimp only at hst hDl hHs
  have hst0 : s.turn.toNat = 1 + cnt := by rw [hst]; show 0 + (1 + cnt) = 1 + cnt; omega
  have hlX : DX.safe.length = 64 + m := by
    have h1 := congrArg (fun q => q.2.1.safe.length) hTk
    dsimp only at h1
    have h2 := (takeS_len s (D.arm k) X)
    rw [h1] at h2
    rw [h2]
    show D.safe.length = _
    omega
  have hlc : 64 ≤ (DX.crash keep).safe.length := by rw [show (DX.crash keep).safe.length = DX.safe.length from liveOn_length _ _ _ _]; omega
  have hDk : ∀ j, j ≤ 1000 → (took W j (sb0, D1)).1.hash.length = 16 ∧ 2 ≤ (took W j (sb0, D1)).2.safe.length ∧ ((took W j (sb0, D1)).1.place = 0 ∨ (took W j (sb0, D1)).1.place = 1) ∧ (took W j (sb0, D1)).2.pending.length ≤ 100000 := fun j hj => by
    obtain ⟨_, q2, ⟨w', q3⟩, _⟩ := hall j hj
    exact ⟨q3.fits.hash, by omega, q3.fits.place, by rw [q3.none]; exact Nat.zero_le _⟩
  have ctake : ∀ st d j p cap l, j ≤ 1000 → InL l p n1 cap (ints .u8 W) → Fc prog E 45 [.pointer (some ⟨st, 0, none⟩), .slice p n1 cap].toArray (row st 125 (scells (took W j (sb0, D1)).1 d) :: disk d (took W j (sb0, D1)).2 :: l) (fun v l' => v = .int .i64 0 ∧ l' = row st 125 (scells (took W (j + 1) (sb0, D1)).1 d) :: disk d (took W (j + 1) (sb0, D1)).2 :: l) := fun st d j p cap l hj hin => by
    obtain ⟨q1, q2, q3, q4⟩ := hDk j hj
    have q := stake_spec E st d _ _ p cap W l q1 q2 q3 q4 (by rw [hWl]; exact hin)
    rw [took_take hH1 hroom (by decide) j hj, hWl] at q
    exact q
  have ctakeX : ∀ st d p cap l, InL l p n2 cap (ints .u8 X) → Fc prog E 45 [.pointer (some ⟨st, 0, none⟩), .slice p n2 cap].toArray (row st 125 (scells s d) :: disk d (D.arm k) :: l) (fun v l' => v = .int .i64 7 ∧ l' = row st 125 (scells s d) :: disk d DX :: l) := fun st d p cap l hin => by
    have q := stake_spec E st d s (D.arm k) p cap X l hHs.fits.hash hHs.fits.two hHs.fits.place (by show D.pending.length ≤ _; rw [hHs.none]; exact Nat.zero_le _) (by rw [hXl]; exact hin)
    rw [hTk, hXl] at q
    exact q
  have cdead : ∀ d l, Fc prog E 31 [.pointer (some ⟨d, 0, none⟩)].toArray (disk d DX :: l) (fun v l' => v = .bool true ∧ l' = disk d DX :: l) := fun d l => by
    have q := dead_spec E d DX l
    rwa [hdX] at q
  have carm : ∀ d l, Fc prog E 29 [.pointer (some ⟨d, 0, none⟩), .int .i64 (k : Int)].toArray (disk d D :: l) (fun v l' => v = .int .i64 0 ∧ l' = disk d (D.arm k) :: l) := fun d l => by
    have q := arm_spec E d D k (by omega) l
    simp only [hHs.up.dead, Bool.false_eq_true, if_false] at q
    exact q
  have cequal : ∀ a c p c2 l, InL l a W.length c (ints .u8 W) → InL l p n1 c2 (ints .u8 W) → Fc prog E 55 [.slice a W.length c, .slice p n1 c2].toArray l (fun v l' => v = .bool true ∧ l' = l) := fun a c p c2 l h1 h2 => by
    have q := equal_spec E a p c c2 W W l hWb hWb h1 (by rw [hWl]; exact h2) (by omega) (by omega)
    rw [decide_eq_true rfl] at q
    rw [show (Value.slice p W.length c2) = .slice p n1 c2 by rw [hWl]] at q
    exact q
  have hcmp : decide (((s).turn.toNat : Int) = ((s.turn + 1#64).toNat : Int)) = false := decide_eq_false (by rw [BitVec.toNat_add]; show ¬ (s.turn.toNat : Int) = (((s.turn.toNat + 1) % 18446744073709551616 : Nat) : Int); omega)
  refine Fc.of_body (c := ?c) Try.func12 ?hb Try.ntmps12 ?hl ?_
  case hb => exact rfl
  case hl => exact rfl
  refine J.seq ?_
  refine J.region ?_
  refine JL.loud rfl (l_box rfl (by (first | rfl | simp)) rfl (fun b1 => ?_))
  refine JL.step (y_assign rfl) rfl rfl rfl ?_
  refine JL.nil ?_
  refine JE.then_normal ?_
  refine J.seq ?_
  refine J.seq ?_
  refine J.region ?_
  refine JL.loud rfl (l_callF e37 rfl rfl (wakes11_spec E _) ?_)
  rintro _ _ ⟨rfl, rfl⟩
  refine JL.step (y_not rfl) rfl rfl rfl ?_
  refine JL.nil ?_
  refine JE.then_normal ?_
  refine J.cond_f rfl (by (first | rfl | assumption | (simp; done) | (simp; omega))) ?_
  refine J.skip ?_
  refine JE.then_normal ?_
  refine J.seq ?_
  refine J.region ?_
  refine JL.step (y_fieldAddr hT rfl rfl rfl rfl rfl rfl) rfl rfl rfl ?_
  refine JL.step (y_load1 hT rfl rfl rfl (by (exact Rd1.row (by (repeat (first | exact Pick.head | apply Pick.tail | apply Pick.app))) (by rfl)))) rfl rfl rfl ?_
  refine JL.step (y_max2 rfl rfl rfl) rfl rfl rfl ?_
  refine JL.step (y_rem rfl rfl (by decide) hm) rfl rfl rfl ?_
  refine JL.step (y_add (m := ((64 + m : Nat) : Int)) rfl rfl (by rw [show (64 : Int) + (m : Int) = ((64 + m : Nat) : Int) by omega]; exact wrap_i64 (by omega) (by omega))) rfl rfl rfl ?_
  refine JL.loud rfl (l_callF e21 rfl rfl (new_good E (64 + m) _ (by omega) (by omega)) ?_)
  rintro _ _ ⟨d, rfl, rfl⟩
  refine JL.step (y_move rfl) rfl rfl rfl (JL.step (y_extract rfl rfl) rfl rfl rfl (JL.step (y_extract rfl rfl) rfl rfl rfl (JL.step (y_assign rfl) rfl rfl rfl (JL.step (y_assign rfl) rfl rfl rfl ?_))))
  refine JL.nil ?_
  refine JE.then_normal ?_
  refine J.seq ?_
  refine J.seq ?_
  refine J.region ?_
  refine JL.step (y_move rfl) rfl rfl rfl (JL.step (y_neq rfl rfl) rfl rfl rfl ?_)
  refine JL.nil ?_
  refine JE.then_normal ?_
  refine J.cond_f rfl (by (first | rfl | assumption | (simp; done) | (simp; omega))) ?_
  refine J.skip ?_
  refine JE.then_normal ?_
  refine J.seq ?_
  refine J.region ?_
  refine JL.step (y_move rfl) rfl rfl rfl ?_
  refine JL.loud rfl (l_callF e38 rfl rfl (Fc.on (Split.cons (by (repeat (first | exact Pick.head | apply Pick.tail | apply Pick.app))) Split.nil) (hfmt d _)) ?_)
  rintro _ _ ⟨st, rfl, rfl⟩
  refine JL.step (y_move rfl) rfl rfl rfl (JL.step (y_extract rfl rfl) rfl rfl rfl (JL.step (y_extract rfl rfl) rfl rfl rfl (JL.step (y_assign rfl) rfl rfl rfl (JL.step (y_assign rfl) rfl rfl rfl ?_))))
  refine JL.nil ?_
  refine JE.then_normal ?_
  refine J.seq ?_
  refine J.seq ?_
  refine J.region ?_
  refine JL.step (y_move rfl) rfl rfl rfl (JL.step (y_neq rfl rfl) rfl rfl rfl ?_)
  refine JL.nil ?_
  refine JE.then_normal ?_
  refine J.cond_f rfl (by (first | rfl | assumption | (simp; done) | (simp; omega))) ?_
  refine J.skip ?_
  refine JE.then_normal ?_
  refine J.seq ?_
  obtain ⟨g1, o1, hq1, hj1⟩ := hin1.part (lo := 0) (hi := n1) (k := 1) (by omega) (by omega) (by simp [ints])
  obtain ⟨g2, o2, hq2, hj2⟩ := hin2.part (lo := 0) (hi := n2) (k := 1) (by omega) (by omega) (by simp [ints])
  rw [show ((ints .u8 was).drop (0 * 1)).take ((n1 - 0) * 1) = ints .u8 W by rw [← hW]; simp [ints, List.map_take]] at hj1
  rw [show ((ints .u8 next).drop (0 * 1)).take ((n2 - 0) * 1) = ints .u8 X by rw [← hX]; simp [ints, List.map_take]] at hj2
  refine J.draw _ _ [(0, .q), (1, .q), (2, .q), (3, .q), (4, .q), (5, .q), (6, .q), (7, .q), (8, .q), (9, .q), (10, .q), (11, .q), (12, .q), (13, .q), (14, .q), (15, .q)] mixed (by kernel_rfl) (Split.nil) ?_
  refine JM.quiet rfl rfl rfl rfl (fun m => y_move rfl) ?_
  refine JM.quiet rfl rfl rfl rfl (fun m => y_move rfl) ?_
  refine JM.quiet rfl rfl rfl rfl (fun m => y_len_slice hT rfl rfl rfl) ?_
  refine JM.quiet rfl rfl rfl rfl (fun m => y_move rfl) ?_
  refine JM.quiet rfl rfl rfl rfl (fun m => y_callF e44 rfl (Fc.still (p := [row st 125 (scells sb0 d), disk d D1]) (Split.cons (Pick.app m (by (repeat (first | exact Pick.head | apply Pick.tail | apply Pick.app)))) (Split.cons (Pick.app m (by (repeat (first | exact Pick.head | apply Pick.tail | apply Pick.app)))) Split.nil)) (room_spec E st d sb0 D1 _ sb0_hash (by omega)))) ?_
  refine JM.quiet rfl rfl rfl rfl (fun m => y_min2 (m := (n1 : Int)) rfl rfl (by omega)) ?_
  refine JM.quiet rfl rfl rfl rfl (fun m => y_slice (lo := 0) (hi := n1) hT rfl rfl rfl rfl (.inl ⟨rfl, rfl⟩) (.inr ⟨_, _, _, rfl, rfl, by omega⟩) (by omega) (by have := hin1.le; omega) hin1.le hq1) ?_
  refine JM.quiet rfl rfl rfl rfl (fun m => y_move rfl) ?_
  refine JM.quiet rfl rfl rfl rfl (fun m => y_move rfl) ?_
  refine JM.quiet rfl rfl rfl rfl (fun m => y_len_slice hT rfl rfl rfl) ?_
  refine JM.quiet rfl rfl rfl rfl (fun m => y_move rfl) ?_
  refine JM.quiet rfl rfl rfl rfl (fun m => y_callF e44 rfl (Fc.still (p := [row st 125 (scells sb0 d), disk d D1]) (Split.cons (Pick.app m (by (repeat (first | exact Pick.head | apply Pick.tail | apply Pick.app)))) (Split.cons (Pick.app m (by (repeat (first | exact Pick.head | apply Pick.tail | apply Pick.app)))) Split.nil)) (room_spec E st d sb0 D1 _ sb0_hash (by omega)))) ?_
  refine JM.quiet rfl rfl rfl rfl (fun m => y_min2 (m := (n2 : Int)) rfl rfl (by omega)) ?_
  refine JM.quiet rfl rfl rfl rfl (fun m => y_slice (lo := 0) (hi := n2) hT rfl rfl rfl rfl (.inl ⟨rfl, rfl⟩) (.inr ⟨_, _, _, rfl, rfl, by omega⟩) (by omega) (by have := hin2.le; omega) hin2.le hq2) ?_
  refine JM.quiet rfl rfl rfl rfl (fun m => y_assign rfl) ?_
  refine JM.quiet rfl rfl rfl rfl (fun m => y_assign rfl) ?_
  refine JM.nil ?_
  refine JE.then_normal ?_
  refine J.seq ?_
  refine J.seq ?_
  refine J.region ?_
  refine JL.step (y_fieldAddr hT rfl rfl rfl rfl rfl rfl) rfl rfl rfl ?_
  refine JL.step (y_load1 hT rfl rfl rfl (by (exact Rd1.row (by (repeat (first | exact Pick.head | apply Pick.tail | apply Pick.app))) (by rfl)))) rfl rfl rfl ?_
  refine JL.step (y_max2 rfl rfl rfl) rfl rfl rfl ?_
  refine JL.step (y_rem rfl rfl (by decide) hc) rfl rfl rfl ?_
  refine JL.step (y_add (m := ((1 + cnt : Nat) : Int)) rfl rfl (by rw [show (1 : Int) + (cnt : Int) = ((1 + cnt : Nat) : Int) by omega]; exact wrap_i64 (by omega) (by omega))) rfl rfl rfl ?_
  refine JL.step (y_move rfl) rfl rfl rfl ?_
  refine JL.nil ?_
  refine JE.then_normal ?_
  refine J.block ?_
  refine J.loop (α := Nat) (fun j => j ≤ 1 + cnt) (fun j => [(0, .slice (if c1 = 0 then p1 else some ⟨g1, o1 + 0 * i5.size, none⟩) (n1 - 0) (c1 - 0)), (1, .slice (if c2 = 0 then p2 else some ⟨g2, o2 + 0 * i5.size, none⟩) (n2 - 0) (c2 - 0)), (5, .pointer (some ⟨b1, 0, none⟩)), (7, .pointer (some ⟨d, 0, none⟩)), (9, .pointer (some ⟨st, 0, none⟩)), (54, .int .i64 ((1 + cnt : Nat) : Int)), (55, .int .i64 j)]) (fun j => row st 125 (scells (took W j (sb0, D1)).1 d) :: disk d (took W j (sb0, D1)).2 :: row b1 95 [.int .i64 more, .int .i64 ahead, .int .i64 at_, .slice kp keep.length kc] :: r) (fun j => 1 + cnt - j) 0 (by omega) ⟨rfl, rfl, rfl, rfl, rfl, rfl, rfl, trivial⟩ (fun w q => q.sup (by (repeat (first | exact Sup.refl | apply Sup.cons (by (repeat (first | exact Pick.head | apply Pick.tail | apply Pick.app))) | apply Sup.app | apply Sup.skip | apply Sup.skips)))) ?_
  intro j hj
  refine J.seq ?_
  refine J.region ?_
  refine JL.step (y_lss rfl rfl) rfl rfl rfl ?_
  refine JL.nil ?_
  refine JE.then_normal ?_
  refine J.seq ?_
  first | apply J.cond_dec rfl | apply J.cond rfl
  case' ht =>
    intro h
    try (first | (exfalso; omega) | (cases h; done) | (exfalso; simp at h; done) | subst h)
    all_goals
      refine J.skip ?_
  case' hf =>
    intro h
    try (first | (exfalso; omega) | (cases h; done) | (exfalso; simp at h; done) | subst h)
    all_goals
      refine J.exit ?_
      refine JE.then_exit ?_
      refine JE.then_exit ?_
      refine JE.block_exit ?_
      refine JE.then_normal ?_
      refine J.seq ?_
      obtain rfl : j = 1 + cnt := by omega
      rw [hsD]
      dsimp only
      refine J.region ?_
      refine JL.step (y_move rfl) rfl rfl rfl ?_
      refine JL.loud rfl (l_callF e52 rfl rfl (turn_spec E st d s D _ hHs.fits.hash) ?_)
      rintro _ _ ⟨rfl, rfl⟩
      refine JL.step (y_assign rfl) rfl rfl rfl ?_
      refine JL.nil ?_
      refine JE.then_normal ?_
      refine J.seq ?_
      refine J.region ?_
      refine JL.step (y_move rfl) rfl rfl rfl (JL.step (y_fieldAddr hT rfl rfl rfl rfl rfl rfl) rfl rfl rfl ?_)
      refine JL.step (y_load1 hT rfl rfl rfl (by (exact Rd1.row (by (repeat (first | exact Pick.head | apply Pick.tail | apply Pick.app))) (by rfl)))) rfl rfl rfl ?_
      refine JL.step (y_max2 rfl rfl rfl) rfl rfl rfl ?_
      refine JL.step (y_rem rfl rfl (by decide) hk) rfl rfl rfl ?_
      refine JL.loud rfl (l_callF e29 rfl rfl (Fc.on (Split.cons (by (repeat (first | exact Pick.head | apply Pick.tail | apply Pick.app))) Split.nil) (carm d _)) ?_)
      rintro _ _ ⟨rfl, rfl⟩
      refine JL.nil ?_
      refine JE.then_normal ?_
      refine J.seq ?_
      refine J.region ?_
      refine JL.step (y_move rfl) rfl rfl rfl (JL.step (y_move rfl) rfl rfl rfl ?_)
      refine JL.loud rfl (l_callF e45 rfl rfl (Fc.on (Split.cons (by (repeat (first | exact Pick.head | apply Pick.tail | apply Pick.app))) (Split.cons (by (repeat (first | exact Pick.head | apply Pick.tail | apply Pick.app))) Split.nil)) (ctakeX st d _ _ _ (by (repeat (first | assumption | apply InL.cons | apply InL.app))))) ?_)
      rintro _ _ ⟨rfl, rfl⟩
      refine JL.step (y_assign rfl) rfl rfl rfl ?_
      refine JL.nil ?_
      refine JE.then_normal ?_
      refine J.seq ?_
      refine J.region ?_
      refine JL.step (y_move rfl) rfl rfl rfl ?_
      refine JL.loud rfl (l_callF e31 rfl rfl (Fc.on (Split.cons (by (repeat (first | exact Pick.head | apply Pick.tail | apply Pick.app))) Split.nil) (cdead d _)) ?_)
      rintro _ _ ⟨rfl, rfl⟩
      refine JL.step (y_assign rfl) rfl rfl rfl ?_
      refine JL.nil ?_
      refine JE.then_normal ?_
      refine J.seq ?_
      refine J.region ?_
      refine JL.step (y_move rfl) rfl rfl rfl ?_
      refine JL.loud rfl (l_buildSlice0 hT rfl rfl rfl rfl (fun b9 => ?_))
      refine JL.step (y_fieldAddr hT rfl rfl rfl rfl rfl rfl) rfl rfl rfl ?_
      refine JL.step (y_load1 hT rfl rfl rfl (by (exact Rd1.row (by (repeat (first | exact Pick.head | apply Pick.tail | apply Pick.app))) (by rfl)))) rfl rfl rfl ?_
      refine JL.loud rfl (l_appendIn hT rfl rfl rfl rfl rfl rfl rfl rfl (by (repeat (first | exact Pick.head | apply Pick.tail | apply Pick.app))) (by (repeat (first | assumption | apply InL.cons | apply InL.app))) (by rw [show i4.size = 1 from rfl]; simp) (by intro u hu; simp only [List.mem_map] at hu; obtain ⟨z, _, rfl⟩ := hu; rfl) (by rw [show i4.bytes = 1 from rfl]; omega) (by omega) rfl (fun ka kc' hc' => ?_))
      rw [Nat.zero_add keep.length, List.nil_append (keep.map Value.bool)]
      refine JL.loud rfl (l_callF e34 rfl rfl (Fc.fact (p := OwnAt ka keep.length kc' (keep.map Value.bool)) (fun w s => Sat.own_at (s.pick (by (repeat (first | exact Pick.head | apply Pick.tail | apply Pick.app))))) fun ok => Fc.on (Split.cons (by (repeat (first | exact Pick.head | apply Pick.tail | apply Pick.app))) Split.nil) (crash_spec E d DX _ _ keep _ (ok.inl (by (repeat (first | exact Pick.head | apply Pick.tail | apply Pick.app)))) (by omega))) ?_)
      rintro _ _ ⟨rfl, rfl⟩
      refine JL.nil ?_
      refine JE.then_normal ?_
      refine J.seq ?_
      refine J.region ?_
      refine JL.step (y_move rfl) rfl rfl rfl ?_
      refine JL.loud rfl (l_callF e49 rfl rfl (Fc.on (Split.cons (by (repeat (first | exact Pick.head | apply Pick.tail | apply Pick.app))) Split.nil) (open_holds E d (DX.crash keep) s _ _ hH hlc)) ?_)
      rintro _ _ ⟨st2, rfl, rfl⟩
      refine JL.step (y_move rfl) rfl rfl rfl (JL.step (y_extract rfl rfl) rfl rfl rfl (JL.step (y_extract rfl rfl) rfl rfl rfl (JL.step (y_assign rfl) rfl rfl rfl (JL.step (y_assign rfl) rfl rfl rfl ?_))))
      refine JL.nil ?_
      refine JE.then_normal ?_
      refine J.seq ?_
      refine J.seq ?_
      refine J.region ?_
      refine JL.step (y_move rfl) rfl rfl rfl (JL.step (y_neq rfl rfl) rfl rfl rfl (JL.step (y_move rfl) rfl rfl rfl ?_))
      all_goals (first | (refine JL.gsplit_dec rfl rfl rfl (fun h => ?_) (fun h => ?_) <;> try (first | (exfalso; omega) | exact absurd rfl h)) | (refine JL.gsplit rfl rfl rfl (fun h => ?_) (fun h => ?_) <;> try (first | cases h | (exfalso; simp at h; done))) | skip)
      all_goals (first | refine JL.gskip rfl rfl rfl rfl rfl rfl ?_ | refine JL.gskipU rfl rfl rfl rfl rfl ?_ | refine JL.gstep rfl rfl rfl (y_move rfl) rfl rfl ?_)
      all_goals (first | refine JL.gskip rfl rfl rfl rfl rfl rfl ?_ | refine JL.gskipU rfl rfl rfl rfl rfl ?_ | refine JL.gstep rfl rfl rfl (y_move rfl) rfl rfl ?_)
      all_goals (first | refine JL.gskip rfl rfl rfl rfl rfl rfl ?_ | refine JL.gskipU rfl rfl rfl rfl rfl ?_ | refine JL.gstep rfl rfl rfl (y_eql rfl rfl) rfl rfl ?_)
      all_goals (first | refine JL.gskip rfl rfl rfl rfl rfl rfl ?_ | refine JL.gskipU rfl rfl rfl rfl rfl ?_ | refine JL.gstep rfl rfl rfl (y_bool_ne hT rfl rfl rfl rfl) rfl rfl ?_)
      all_goals (refine JL.step (y_pick rfl rfl rfl) rfl rfl rfl ?_)
      all_goals (refine JL.step (y_move rfl) rfl rfl rfl ?_)
      all_goals (first | (refine JL.gsplit_dec rfl rfl rfl (fun h => ?_) (fun h => ?_) <;> try (first | (exfalso; omega) | exact absurd rfl h)) | (refine JL.gsplit rfl rfl rfl (fun h => ?_) (fun h => ?_) <;> try (first | cases h | (exfalso; simp at h; done))) | skip)
      all_goals (first | refine JL.gskip rfl rfl rfl rfl rfl rfl ?_ | refine JL.gskipU rfl rfl rfl rfl rfl ?_ | refine JL.gstep rfl rfl rfl (y_move rfl) rfl rfl ?_)
      all_goals (first | refine JL.gskip rfl rfl rfl rfl rfl rfl ?_ | refine JL.gskipU rfl rfl rfl rfl rfl ?_ | refine JL.gstep rfl rfl rfl (y_not rfl) rfl rfl ?_)
      all_goals (first | refine JL.gskip rfl rfl rfl rfl rfl rfl ?_ | refine JL.gskipU rfl rfl rfl rfl rfl ?_ | refine JL.gstep rfl rfl rfl (y_move rfl) rfl rfl ?_)
      all_goals (first | (refine JL.gsplit_dec rfl rfl rfl (fun h => ?_) (fun h => ?_) <;> try (first | (exfalso; omega) | exact absurd rfl h)) | (refine JL.gsplit rfl rfl rfl (fun h => ?_) (fun h => ?_) <;> try (first | cases h | (exfalso; simp at h; done))) | skip)
      all_goals (first | refine JL.gskip rfl rfl rfl rfl rfl rfl ?_ | refine JL.gskipU rfl rfl rfl rfl rfl ?_ | refine JL.gstep rfl rfl rfl (y_move rfl) rfl rfl ?_)
      all_goals (first | refine JL.gskip rfl rfl rfl rfl rfl rfl ?_ | refine JL.gskipU rfl rfl rfl rfl rfl ?_ | refine JL.gstep rfl rfl rfl (y_neq rfl rfl) rfl rfl ?_)
      all_goals (first | refine JL.gskip rfl rfl rfl rfl rfl rfl ?_ | refine JL.gskipU rfl rfl rfl rfl rfl ?_ | refine JL.gstep rfl rfl rfl (y_pick rfl rfl rfl) rfl rfl ?_)
      all_goals (refine JL.step (y_pick rfl rfl rfl) rfl rfl rfl ?_)
      all_goals refine JL.nil ?_
      all_goals refine JE.then_normal ?_
      all_goals
        refine J.cond_f rfl (by (first | rfl | assumption | (simp; done) | (simp; omega))) ?_
        refine J.skip ?_
      all_goals refine JE.then_normal ?_
      all_goals
        refine J.seq ?_
        refine J.region ?_
        refine JL.step (y_move rfl) rfl rfl rfl ?_
        refine JL.loud rfl (l_callF e50 rfl rfl (snapshot_holds E st2 d (DX.crash keep) s _ _ hH) ?_)
        rintro _ _ ⟨ga, gc, rfl, rfl⟩
        refine JL.step (y_move rfl) rfl rfl rfl (JL.step (y_extract rfl rfl) rfl rfl rfl (JL.step (y_extract rfl rfl) rfl rfl rfl (JL.step (y_assign rfl) rfl rfl rfl (JL.step (y_assign rfl) rfl rfl rfl ?_))))
        refine JL.nil ?_
        refine JE.then_normal ?_
        refine J.seq ?_
        refine J.seq ?_
        refine J.region ?_
        refine JL.step (y_move rfl) rfl rfl rfl (JL.step (y_neq rfl rfl) rfl rfl rfl ?_)
        refine JL.nil ?_
        refine JE.then_normal ?_
        refine J.cond_f rfl (by (first | rfl | assumption | (simp; done) | (simp; omega))) ?_
        refine J.skip ?_
        refine JE.then_normal ?_
        refine J.seq ?_
        refine J.seq ?_
        refine J.region ?_
        refine JL.step (y_move rfl) rfl rfl rfl ?_
        refine JL.loud rfl (l_callF e52 rfl rfl (Fc.on (Split.cons (by (repeat (first | exact Pick.head | apply Pick.tail | apply Pick.app))) (Split.cons (by (repeat (first | exact Pick.head | apply Pick.tail | apply Pick.app))) Split.nil)) (turn_spec E st2 d s (DX.crash keep) _ hH.fits.hash)) ?_)
        rintro _ _ ⟨rfl, rfl⟩
        refine JL.step (y_move rfl) rfl rfl rfl ?_
        refine JL.step ((by first | exact y_addQ rfl rfl | exact y_add rfl rfl (by (first | exact wrap_i64 (by omega) (by omega) | rfl)))) rfl rfl rfl ?_
        refine JL.step (y_eql rfl rfl) rfl rfl rfl ?_
        refine JL.nil ?_
        refine JE.then_normal ?_
        refine J.cond_f rfl (by (first | rfl | assumption | (simp; done) | (simp; omega))) ?_
        refine J.skip ?_
        refine JE.then_normal ?_
        refine J.seq ?_
        refine J.region ?_
        refine JL.step (y_move rfl) rfl rfl rfl (JL.step (y_move rfl) rfl rfl rfl ?_)
        all_goals (first | (refine JL.gsplit_dec rfl rfl rfl (fun h => ?_) (fun h => ?_) <;> try (first | (exfalso; omega) | exact absurd rfl h)) | (refine JL.gsplit rfl rfl rfl (fun h => ?_) (fun h => ?_) <;> try (first | cases h | (exfalso; simp at h; done))) | skip)
        all_goals (first | refine JL.gskip rfl rfl rfl rfl rfl rfl ?_ | refine JL.gskipU rfl rfl rfl rfl rfl ?_ | refine JL.gstep rfl rfl rfl (y_move rfl) rfl rfl ?_)
        all_goals (first | refine JL.gskip rfl rfl rfl rfl rfl rfl ?_ | refine JL.gskipU rfl rfl rfl rfl rfl ?_ | (refine JL.gloud rfl rfl rfl (l_callF e52 rfl rfl (Fc.on (Split.cons (by (repeat (first | exact Pick.head | apply Pick.tail | apply Pick.app))) (Split.cons (by (repeat (first | exact Pick.head | apply Pick.tail | apply Pick.app))) Split.nil)) (turn_spec E st2 d s (DX.crash keep) _ hH.fits.hash)) ?_); rintro _ _ ⟨rfl, rfl⟩))
        all_goals (first | refine JL.gskip rfl rfl rfl rfl rfl rfl ?_ | refine JL.gskipU rfl rfl rfl rfl rfl ?_ | refine JL.gstep rfl rfl rfl (y_move rfl) rfl rfl ?_)
        all_goals (first | refine JL.gskip rfl rfl rfl rfl rfl rfl ?_ | refine JL.gskipU rfl rfl rfl rfl rfl ?_ | refine JL.gstep rfl rfl rfl (y_eql rfl rfl) rfl rfl ?_)
        all_goals (refine JL.step (y_pick rfl rfl rfl) rfl rfl rfl ?_)
        all_goals (refine JL.step (y_move rfl) rfl rfl rfl ?_)
        all_goals (first | (refine JL.gsplit_dec rfl rfl rfl (fun h => ?_) (fun h => ?_) <;> try (first | (exfalso; omega) | exact absurd rfl h)) | (refine JL.gsplit rfl rfl rfl (fun h => ?_) (fun h => ?_) <;> try (first | cases h | (exfalso; simp at h; done))) | skip)
        all_goals (first | refine JL.gskip rfl rfl rfl rfl rfl rfl ?_ | refine JL.gskipU rfl rfl rfl rfl rfl ?_ | refine JL.gstep rfl rfl rfl (y_move rfl) rfl rfl ?_)
        all_goals (first | refine JL.gskip rfl rfl rfl rfl rfl rfl ?_ | refine JL.gskipU rfl rfl rfl rfl rfl ?_ | refine JL.gstep rfl rfl rfl (y_move rfl) rfl rfl ?_)
        all_goals (first | refine JL.gskip rfl rfl rfl rfl rfl rfl ?_ | refine JL.gskipU rfl rfl rfl rfl rfl ?_ | (refine JL.gloud rfl rfl rfl (l_callF e55 rfl rfl (Fc.fact (p := OwnAt ga W.length gc (ints .u8 W)) (fun w s => Sat.own_at (s.pick (by (repeat (first | exact Pick.head | apply Pick.tail | apply Pick.app))))) fun ok => cequal _ _ _ _ _ (ok.inl (by (repeat (first | exact Pick.head | apply Pick.tail | apply Pick.app)))) (by (repeat (first | assumption | apply InL.cons | apply InL.app)))) ?_); rintro _ _ ⟨rfl, rfl⟩))
        all_goals (refine JL.step (y_pick rfl rfl rfl) rfl rfl rfl ?_)
        all_goals (refine JL.step (y_move rfl) rfl rfl rfl ?_)
        all_goals (first | (refine JL.gsplit_dec rfl rfl rfl (fun h => ?_) (fun h => ?_) <;> try (first | (exfalso; omega) | exact absurd rfl h)) | (refine JL.gsplit rfl rfl rfl (fun h => ?_) (fun h => ?_) <;> try (first | cases h | (exfalso; simp at h; done))) | skip)
        all_goals (first | refine JL.gskip rfl rfl rfl rfl rfl rfl ?_ | refine JL.gskipU rfl rfl rfl rfl rfl ?_ | refine JL.gstep rfl rfl rfl (y_move rfl) rfl rfl ?_)
        all_goals (first | refine JL.gskip rfl rfl rfl rfl rfl rfl ?_ | refine JL.gskipU rfl rfl rfl rfl rfl ?_ | (refine JL.gloud rfl rfl rfl (l_callF e52 rfl rfl (Fc.on (Split.cons (by (repeat (first | exact Pick.head | apply Pick.tail | apply Pick.app))) (Split.cons (by (repeat (first | exact Pick.head | apply Pick.tail | apply Pick.app))) Split.nil)) (turn_spec E st d s (DX.crash keep) _ hH.fits.hash)) ?_); rintro _ _ ⟨rfl, rfl⟩))
        all_goals (first | refine JL.gskip rfl rfl rfl rfl rfl rfl ?_ | refine JL.gskipU rfl rfl rfl rfl rfl ?_ | refine JL.gstep rfl rfl rfl (y_move rfl) rfl rfl ?_)
        all_goals (first | refine JL.gskip rfl rfl rfl rfl rfl rfl ?_ | refine JL.gskipU rfl rfl rfl rfl rfl ?_ | refine JL.gstep rfl rfl rfl (y_eql rfl rfl) rfl rfl ?_)
        all_goals (refine JL.step (y_pick rfl rfl rfl) rfl rfl rfl ?_)
        all_goals (refine JL.step (y_assign rfl) rfl rfl rfl ?_)
        all_goals refine JL.nil ?_
        all_goals refine JE.then_normal ?_
        all_goals
          refine J.ret ?_
          refine JE.ret1 (.inl rfl) rfl rfl (by (first | exact RV.tmp rfl | exact RV.cell1 hT rfl rfl rfl (by (exact Rd1.row (by (repeat (first | exact Pick.head | apply Pick.tail | apply Pick.app))) (by rfl))) | exact RV.cellN hT rfl rfl rfl (by (first | exact RdN.rowAll (by (repeat (first | exact Pick.head | apply Pick.tail | apply Pick.app))) | exact RdN.own (by (repeat (first | exact Pick.head | apply Pick.tail | apply Pick.app))))) (by (first | rfl | assumption | (simp; done) | omega)))) ?_
          first
            | exact ⟨rfl, fun w q => q.sup (by (repeat (first | exact Sup.refl | apply Sup.cons (by (repeat (first | exact Pick.head | apply Pick.tail | apply Pick.app))) | apply Sup.app | apply Sup.skip | apply Sup.skips)))⟩
            | exact ⟨by simp, fun w q => q.sup (by (repeat (first | exact Sup.refl | apply Sup.cons (by (repeat (first | exact Pick.head | apply Pick.tail | apply Pick.app))) | apply Sup.app | apply Sup.skip | apply Sup.skips)))⟩
  all_goals refine JE.then_normal ?_
  all_goals
    refine J.seq ?_
    refine J.block ?_
    refine J.seq ?_
    refine J.region ?_
    refine JL.step (y_move rfl) rfl rfl rfl (JL.step (y_move rfl) rfl rfl rfl ?_)
    refine JL.loud rfl (l_callF e45 rfl rfl (Fc.on (Split.cons (by (repeat (first | exact Pick.head | apply Pick.tail | apply Pick.app))) (Split.cons (by (repeat (first | exact Pick.head | apply Pick.tail | apply Pick.app))) Split.nil)) (ctake st d j _ _ _ (by omega) (by (repeat (first | assumption | apply InL.cons | apply InL.app))))) ?_)
    rintro _ _ ⟨rfl, rfl⟩
    refine JL.step (y_neq rfl rfl) rfl rfl rfl ?_
    refine JL.nil ?_
    refine JE.then_normal ?_
    refine J.cond_f rfl (by (first | rfl | assumption | (simp; done) | (simp; omega))) ?_
    refine J.skip ?_
    refine JE.block_normal ?_
    refine JE.then_normal ?_
    refine J.region ?_
    refine JL.step (y_add rfl rfl (by (first | exact wrap_i64 (by omega) (by omega) | rfl))) rfl rfl rfl ?_
    refine JL.step (y_move rfl) rfl rfl rfl ?_
    refine JL.nil ?_
  all_goals
    exact JE.round (s := j) (j + 1) (by omega) ⟨rfl, rfl, rfl, rfl, rfl, rfl, rfl, trivial⟩ (fun w q => q.sup (by (repeat (first | exact Sup.refl | apply Sup.cons (by (repeat (first | exact Pick.head | apply Pick.tail | apply Pick.app))) | apply Sup.app | apply Sup.skip | apply Sup.skips)))) (by omega)
theorem cuts_b (hTk : takeS s (D.arm k) (next.take n2) = (s, DX, 7)) (hdX : DX.dead = true) (hpX : DX.pending.length ≤ 1000) (hH : Holds (nextS s (next.take n2)) (next.take n2) (DX.crash keep)) :
    Fc prog E 12 [.slice p1 was.length c1, .slice p2 next.length c2, .agg #[.int .i64 more, .int .i64 ahead, .int .i64 at_, .slice kp keep.length kc]].toArray r (fun v l' => v = .bool true ∧ l' = r) := by
  refine Fc.eqs ?_
  have hu0 : Up (Dk.new (64 + m)) := new_up (by omega) (by omega)
  have hN : (Dk.new (64 + m)).safe.length = 64 + m := by simp [Dk.new]
  obtain ⟨hu1, hl1, hp1⟩ := formatted_up hu0 (by omega)
  have hH1 := holds_format hu0 (by omega)
  rw [hD1] at hu1 hl1 hp1 hH1
  have hl1' : D1.safe.length = 64 + m := hl1.trans hN
  have hhl := half_le D1 (by omega)
  have hfmt : ∀ d l, Fc prog E 38 [.pointer (some ⟨d, 0, none⟩)].toArray (disk d (Dk.new (64 + m)) :: l) (fun v l' => ∃ st, v = .tuple #[.pointer (some ⟨st, 0, none⟩), .int .i64 0] ∧ l' = row st 125 (scells sb0 d) :: disk d D1 :: l) := fun d l => by
    have h := format_good E d (Dk.new (64 + m)) l (by omega) rfl rfl (by simp [Dk.new])
    rwa [hD1] at h
  obtain ⟨W, hW⟩ : ∃ W, was.take n1 = W := ⟨_, rfl⟩
  obtain ⟨X, hX⟩ : ∃ X, next.take n2 = X := ⟨_, rfl⟩
  have hWl : W.length = n1 := by rw [← hW, List.length_take]; omega
  have hXl : X.length = n2 := by rw [← hX, List.length_take]; omega
  have hWb : Bytes W := fun x hx => hb1 x (by rw [← hW] at hx; exact List.mem_of_mem_take hx)
  have hXb : Bytes X := fun x hx => hb2 x (by rw [← hX] at hx; exact List.mem_of_mem_take hx)
  rw [hW] at hsD
  rw [hX] at hTk
  rw [hX] at hH
  have hroom : W.length ≤ 64 * D1.half := by omega
  have hall := fun j hj => took_holds hH1 hroom (by decide) j hj
  obtain ⟨hst, hDl, _, hHs⟩ := hall (1 + cnt) (by omega)
  rw [hsD] at hst hDl hHs
  have hHs := hHs (by omega)
  dsimp only at hst hDl hHs
  have hst0 : s.turn.toNat = 1 + cnt := by rw [hst]; show 0 + (1 + cnt) = 1 + cnt; omega
  have hlX : DX.safe.length = 64 + m := by
    have h1 := congrArg (fun q => q.2.1.safe.length) hTk
    dsimp only at h1
    have h2 := (takeS_len s (D.arm k) X)
    rw [h1] at h2
    rw [h2]
    show D.safe.length = _
    omega
  have hlc : 64 ≤ (DX.crash keep).safe.length := by rw [show (DX.crash keep).safe.length = DX.safe.length from liveOn_length _ _ _ _]; omega
  have hDk : ∀ j, j ≤ 1000 → (took W j (sb0, D1)).1.hash.length = 16 ∧ 2 ≤ (took W j (sb0, D1)).2.safe.length ∧ ((took W j (sb0, D1)).1.place = 0 ∨ (took W j (sb0, D1)).1.place = 1) ∧ (took W j (sb0, D1)).2.pending.length ≤ 100000 := fun j hj => by
    obtain ⟨_, q2, ⟨w', q3⟩, _⟩ := hall j hj
    exact ⟨q3.fits.hash, by omega, q3.fits.place, by rw [q3.none]; exact Nat.zero_le _⟩
  have ctake : ∀ st d j p cap l, j ≤ 1000 → InL l p n1 cap (ints .u8 W) → Fc prog E 45 [.pointer (some ⟨st, 0, none⟩), .slice p n1 cap].toArray (row st 125 (scells (took W j (sb0, D1)).1 d) :: disk d (took W j (sb0, D1)).2 :: l) (fun v l' => v = .int .i64 0 ∧ l' = row st 125 (scells (took W (j + 1) (sb0, D1)).1 d) :: disk d (took W (j + 1) (sb0, D1)).2 :: l) := fun st d j p cap l hj hin => by
    obtain ⟨q1, q2, q3, q4⟩ := hDk j hj
    have q := stake_spec E st d _ _ p cap W l q1 q2 q3 q4 (by rw [hWl]; exact hin)
    rw [took_take hH1 hroom (by decide) j hj, hWl] at q
    exact q
  have ctakeX : ∀ st d p cap l, InL l p n2 cap (ints .u8 X) → Fc prog E 45 [.pointer (some ⟨st, 0, none⟩), .slice p n2 cap].toArray (row st 125 (scells s d) :: disk d (D.arm k) :: l) (fun v l' => v = .int .i64 7 ∧ l' = row st 125 (scells s d) :: disk d DX :: l) := fun st d p cap l hin => by
    have q := stake_spec E st d s (D.arm k) p cap X l hHs.fits.hash hHs.fits.two hHs.fits.place (by show D.pending.length ≤ _; rw [hHs.none]; exact Nat.zero_le _) (by rw [hXl]; exact hin)
    rw [hTk, hXl] at q
    exact q
  have cdead : ∀ d l, Fc prog E 31 [.pointer (some ⟨d, 0, none⟩)].toArray (disk d DX :: l) (fun v l' => v = .bool true ∧ l' = disk d DX :: l) := fun d l => by
    have q := dead_spec E d DX l
    rwa [hdX] at q
  have carm : ∀ d l, Fc prog E 29 [.pointer (some ⟨d, 0, none⟩), .int .i64 (k : Int)].toArray (disk d D :: l) (fun v l' => v = .int .i64 0 ∧ l' = disk d (D.arm k) :: l) := fun d l => by
    have q := arm_spec E d D k (by omega) l
    simp only [hHs.up.dead, Bool.false_eq_true, if_false] at q
    exact q
  have cequal : ∀ a c p c2 l, InL l a X.length c (ints .u8 X) → InL l p n2 c2 (ints .u8 X) → Fc prog E 55 [.slice a X.length c, .slice p n2 c2].toArray l (fun v l' => v = .bool true ∧ l' = l) := fun a c p c2 l h1 h2 => by
    have q := equal_spec E a p c c2 X X l hXb hXb h1 (by rw [hXl]; exact h2) (by omega) (by omega)
    rw [decide_eq_true rfl] at q
    rw [show (Value.slice p X.length c2) = .slice p n2 c2 by rw [hXl]] at q
    exact q
  have hcmp : decide ((((nextS s X)).turn.toNat : Int) = ((s.turn + 1#64).toNat : Int)) = true := decide_eq_true rfl
  refine Fc.of_body (c := ?c) Try.func12 ?hb Try.ntmps12 ?hl ?_
  case hb => exact rfl
  case hl => exact rfl
  refine J.seq ?_
  refine J.region ?_
  refine JL.loud rfl (l_box rfl (by (first | rfl | simp)) rfl (fun b1 => ?_))
  refine JL.step (y_assign rfl) rfl rfl rfl ?_
  refine JL.nil ?_
  refine JE.then_normal ?_
  refine J.seq ?_
  refine J.seq ?_
  refine J.region ?_
  refine JL.loud rfl (l_callF e37 rfl rfl (wakes11_spec E _) ?_)
  rintro _ _ ⟨rfl, rfl⟩
  refine JL.step (y_not rfl) rfl rfl rfl ?_
  refine JL.nil ?_
  refine JE.then_normal ?_
  refine J.cond_f rfl (by (first | rfl | assumption | (simp; done) | (simp; omega))) ?_
  refine J.skip ?_
  refine JE.then_normal ?_
  refine J.seq ?_
  refine J.region ?_
  refine JL.step (y_fieldAddr hT rfl rfl rfl rfl rfl rfl) rfl rfl rfl ?_
  refine JL.step (y_load1 hT rfl rfl rfl (by (exact Rd1.row (by (repeat (first | exact Pick.head | apply Pick.tail | apply Pick.app))) (by rfl)))) rfl rfl rfl ?_
  refine JL.step (y_max2 rfl rfl rfl) rfl rfl rfl ?_
  refine JL.step (y_rem rfl rfl (by decide) hm) rfl rfl rfl ?_
  refine JL.step (y_add (m := ((64 + m : Nat) : Int)) rfl rfl (by rw [show (64 : Int) + (m : Int) = ((64 + m : Nat) : Int) by omega]; exact wrap_i64 (by omega) (by omega))) rfl rfl rfl ?_
  refine JL.loud rfl (l_callF e21 rfl rfl (new_good E (64 + m) _ (by omega) (by omega)) ?_)
  rintro _ _ ⟨d, rfl, rfl⟩
  refine JL.step (y_move rfl) rfl rfl rfl (JL.step (y_extract rfl rfl) rfl rfl rfl (JL.step (y_extract rfl rfl) rfl rfl rfl (JL.step (y_assign rfl) rfl rfl rfl (JL.step (y_assign rfl) rfl rfl rfl ?_))))
  refine JL.nil ?_
  refine JE.then_normal ?_
  refine J.seq ?_
  refine J.seq ?_
  refine J.region ?_
  refine JL.step (y_move rfl) rfl rfl rfl (JL.step (y_neq rfl rfl) rfl rfl rfl ?_)
  refine JL.nil ?_
  refine JE.then_normal ?_
  refine J.cond_f rfl (by (first | rfl | assumption | (simp; done) | (simp; omega))) ?_
  refine J.skip ?_
  refine JE.then_normal ?_
  refine J.seq ?_
  refine J.region ?_
  refine JL.step (y_move rfl) rfl rfl rfl ?_
  refine JL.loud rfl (l_callF e38 rfl rfl (Fc.on (Split.cons (by (repeat (first | exact Pick.head | apply Pick.tail | apply Pick.app))) Split.nil) (hfmt d _)) ?_)
  rintro _ _ ⟨st, rfl, rfl⟩
  refine JL.step (y_move rfl) rfl rfl rfl (JL.step (y_extract rfl rfl) rfl rfl rfl (JL.step (y_extract rfl rfl) rfl rfl rfl (JL.step (y_assign rfl) rfl rfl rfl (JL.step (y_assign rfl) rfl rfl rfl ?_))))
  refine JL.nil ?_
  refine JE.then_normal ?_
  refine J.seq ?_
  refine J.seq ?_
  refine J.region ?_
  refine JL.step (y_move rfl) rfl rfl rfl (JL.step (y_neq rfl rfl) rfl rfl rfl ?_)
  refine JL.nil ?_
  refine JE.then_normal ?_
  refine J.cond_f rfl (by (first | rfl | assumption | (simp; done) | (simp; omega))) ?_
  refine J.skip ?_
  refine JE.then_normal ?_
  refine J.seq ?_
  obtain ⟨g1, o1, hq1, hj1⟩ := hin1.part (lo := 0) (hi := n1) (k := 1) (by omega) (by omega) (by simp [ints])
  obtain ⟨g2, o2, hq2, hj2⟩ := hin2.part (lo := 0) (hi := n2) (k := 1) (by omega) (by omega) (by simp [ints])
  rw [show ((ints .u8 was).drop (0 * 1)).take ((n1 - 0) * 1) = ints .u8 W by rw [← hW]; simp [ints, List.map_take]] at hj1
  rw [show ((ints .u8 next).drop (0 * 1)).take ((n2 - 0) * 1) = ints .u8 X by rw [← hX]; simp [ints, List.map_take]] at hj2
  refine J.draw _ _ [(0, .q), (1, .q), (2, .q), (3, .q), (4, .q), (5, .q), (6, .q), (7, .q), (8, .q), (9, .q), (10, .q), (11, .q), (12, .q), (13, .q), (14, .q), (15, .q)] mixed (by kernel_rfl) (Split.nil) ?_
  refine JM.quiet rfl rfl rfl rfl (fun m => y_move rfl) ?_
  refine JM.quiet rfl rfl rfl rfl (fun m => y_move rfl) ?_
  refine JM.quiet rfl rfl rfl rfl (fun m => y_len_slice hT rfl rfl rfl) ?_
  refine JM.quiet rfl rfl rfl rfl (fun m => y_move rfl) ?_
  refine JM.quiet rfl rfl rfl rfl (fun m => y_callF e44 rfl (Fc.still (p := [row st 125 (scells sb0 d), disk d D1]) (Split.cons (Pick.app m (by (repeat (first | exact Pick.head | apply Pick.tail | apply Pick.app)))) (Split.cons (Pick.app m (by (repeat (first | exact Pick.head | apply Pick.tail | apply Pick.app)))) Split.nil)) (room_spec E st d sb0 D1 _ sb0_hash (by omega)))) ?_
  refine JM.quiet rfl rfl rfl rfl (fun m => y_min2 (m := (n1 : Int)) rfl rfl (by omega)) ?_
  refine JM.quiet rfl rfl rfl rfl (fun m => y_slice (lo := 0) (hi := n1) hT rfl rfl rfl rfl (.inl ⟨rfl, rfl⟩) (.inr ⟨_, _, _, rfl, rfl, by omega⟩) (by omega) (by have := hin1.le; omega) hin1.le hq1) ?_
  refine JM.quiet rfl rfl rfl rfl (fun m => y_move rfl) ?_
  refine JM.quiet rfl rfl rfl rfl (fun m => y_move rfl) ?_
  refine JM.quiet rfl rfl rfl rfl (fun m => y_len_slice hT rfl rfl rfl) ?_
  refine JM.quiet rfl rfl rfl rfl (fun m => y_move rfl) ?_
  refine JM.quiet rfl rfl rfl rfl (fun m => y_callF e44 rfl (Fc.still (p := [row st 125 (scells sb0 d), disk d D1]) (Split.cons (Pick.app m (by (repeat (first | exact Pick.head | apply Pick.tail | apply Pick.app)))) (Split.cons (Pick.app m (by (repeat (first | exact Pick.head | apply Pick.tail | apply Pick.app)))) Split.nil)) (room_spec E st d sb0 D1 _ sb0_hash (by omega)))) ?_
  refine JM.quiet rfl rfl rfl rfl (fun m => y_min2 (m := (n2 : Int)) rfl rfl (by omega)) ?_
  refine JM.quiet rfl rfl rfl rfl (fun m => y_slice (lo := 0) (hi := n2) hT rfl rfl rfl rfl (.inl ⟨rfl, rfl⟩) (.inr ⟨_, _, _, rfl, rfl, by omega⟩) (by omega) (by have := hin2.le; omega) hin2.le hq2) ?_
  refine JM.quiet rfl rfl rfl rfl (fun m => y_assign rfl) ?_
  refine JM.quiet rfl rfl rfl rfl (fun m => y_assign rfl) ?_
  refine JM.nil ?_
  refine JE.then_normal ?_
  refine J.seq ?_
  refine J.seq ?_
  refine J.region ?_
  refine JL.step (y_fieldAddr hT rfl rfl rfl rfl rfl rfl) rfl rfl rfl ?_
  refine JL.step (y_load1 hT rfl rfl rfl (by (exact Rd1.row (by (repeat (first | exact Pick.head | apply Pick.tail | apply Pick.app))) (by rfl)))) rfl rfl rfl ?_
  refine JL.step (y_max2 rfl rfl rfl) rfl rfl rfl ?_
  refine JL.step (y_rem rfl rfl (by decide) hc) rfl rfl rfl ?_
  refine JL.step (y_add (m := ((1 + cnt : Nat) : Int)) rfl rfl (by rw [show (1 : Int) + (cnt : Int) = ((1 + cnt : Nat) : Int) by omega]; exact wrap_i64 (by omega) (by omega))) rfl rfl rfl ?_
  refine JL.step (y_move rfl) rfl rfl rfl ?_
  refine JL.nil ?_
  refine JE.then_normal ?_
  refine J.block ?_
  refine J.loop (α := Nat) (fun j => j ≤ 1 + cnt) (fun j => [(0, .slice (if c1 = 0 then p1 else some ⟨g1, o1 + 0 * i5.size, none⟩) (n1 - 0) (c1 - 0)), (1, .slice (if c2 = 0 then p2 else some ⟨g2, o2 + 0 * i5.size, none⟩) (n2 - 0) (c2 - 0)), (5, .pointer (some ⟨b1, 0, none⟩)), (7, .pointer (some ⟨d, 0, none⟩)), (9, .pointer (some ⟨st, 0, none⟩)), (54, .int .i64 ((1 + cnt : Nat) : Int)), (55, .int .i64 j)]) (fun j => row st 125 (scells (took W j (sb0, D1)).1 d) :: disk d (took W j (sb0, D1)).2 :: row b1 95 [.int .i64 more, .int .i64 ahead, .int .i64 at_, .slice kp keep.length kc] :: r) (fun j => 1 + cnt - j) 0 (by omega) ⟨rfl, rfl, rfl, rfl, rfl, rfl, rfl, trivial⟩ (fun w q => q.sup (by (repeat (first | exact Sup.refl | apply Sup.cons (by (repeat (first | exact Pick.head | apply Pick.tail | apply Pick.app))) | apply Sup.app | apply Sup.skip | apply Sup.skips)))) ?_
  intro j hj
  refine J.seq ?_
  refine J.region ?_
  refine JL.step (y_lss rfl rfl) rfl rfl rfl ?_
  refine JL.nil ?_
  refine JE.then_normal ?_
  refine J.seq ?_
  first | apply J.cond_dec rfl | apply J.cond rfl
  case' ht =>
    intro h
    try (first | (exfalso; omega) | (cases h; done) | (exfalso; simp at h; done) | subst h)
    all_goals
      refine J.skip ?_
  case' hf =>
    intro h
    try (first | (exfalso; omega) | (cases h; done) | (exfalso; simp at h; done) | subst h)
    all_goals
      refine J.exit ?_
      refine JE.then_exit ?_
      refine JE.then_exit ?_
      refine JE.block_exit ?_
      refine JE.then_normal ?_
      refine J.seq ?_
      obtain rfl : j = 1 + cnt := by omega
      rw [hsD]
      dsimp only
      refine J.region ?_
      refine JL.step (y_move rfl) rfl rfl rfl ?_
      refine JL.loud rfl (l_callF e52 rfl rfl (turn_spec E st d s D _ hHs.fits.hash) ?_)
      rintro _ _ ⟨rfl, rfl⟩
      refine JL.step (y_assign rfl) rfl rfl rfl ?_
      refine JL.nil ?_
      refine JE.then_normal ?_
      refine J.seq ?_
      refine J.region ?_
      refine JL.step (y_move rfl) rfl rfl rfl (JL.step (y_fieldAddr hT rfl rfl rfl rfl rfl rfl) rfl rfl rfl ?_)
      refine JL.step (y_load1 hT rfl rfl rfl (by (exact Rd1.row (by (repeat (first | exact Pick.head | apply Pick.tail | apply Pick.app))) (by rfl)))) rfl rfl rfl ?_
      refine JL.step (y_max2 rfl rfl rfl) rfl rfl rfl ?_
      refine JL.step (y_rem rfl rfl (by decide) hk) rfl rfl rfl ?_
      refine JL.loud rfl (l_callF e29 rfl rfl (Fc.on (Split.cons (by (repeat (first | exact Pick.head | apply Pick.tail | apply Pick.app))) Split.nil) (carm d _)) ?_)
      rintro _ _ ⟨rfl, rfl⟩
      refine JL.nil ?_
      refine JE.then_normal ?_
      refine J.seq ?_
      refine J.region ?_
      refine JL.step (y_move rfl) rfl rfl rfl (JL.step (y_move rfl) rfl rfl rfl ?_)
      refine JL.loud rfl (l_callF e45 rfl rfl (Fc.on (Split.cons (by (repeat (first | exact Pick.head | apply Pick.tail | apply Pick.app))) (Split.cons (by (repeat (first | exact Pick.head | apply Pick.tail | apply Pick.app))) Split.nil)) (ctakeX st d _ _ _ (by (repeat (first | assumption | apply InL.cons | apply InL.app))))) ?_)
      rintro _ _ ⟨rfl, rfl⟩
      refine JL.step (y_assign rfl) rfl rfl rfl ?_
      refine JL.nil ?_
      refine JE.then_normal ?_
      refine J.seq ?_
      refine J.region ?_
      refine JL.step (y_move rfl) rfl rfl rfl ?_
      refine JL.loud rfl (l_callF e31 rfl rfl (Fc.on (Split.cons (by (repeat (first | exact Pick.head | apply Pick.tail | apply Pick.app))) Split.nil) (cdead d _)) ?_)
      rintro _ _ ⟨rfl, rfl⟩
      refine JL.step (y_assign rfl) rfl rfl rfl ?_
      refine JL.nil ?_
      refine JE.then_normal ?_
      refine J.seq ?_
      refine J.region ?_
      refine JL.step (y_move rfl) rfl rfl rfl ?_
      refine JL.loud rfl (l_buildSlice0 hT rfl rfl rfl rfl (fun b9 => ?_))
      refine JL.step (y_fieldAddr hT rfl rfl rfl rfl rfl rfl) rfl rfl rfl ?_
      refine JL.step (y_load1 hT rfl rfl rfl (by (exact Rd1.row (by (repeat (first | exact Pick.head | apply Pick.tail | apply Pick.app))) (by rfl)))) rfl rfl rfl ?_
      refine JL.loud rfl (l_appendIn hT rfl rfl rfl rfl rfl rfl rfl rfl (by (repeat (first | exact Pick.head | apply Pick.tail | apply Pick.app))) (by (repeat (first | assumption | apply InL.cons | apply InL.app))) (by rw [show i4.size = 1 from rfl]; simp) (by intro u hu; simp only [List.mem_map] at hu; obtain ⟨z, _, rfl⟩ := hu; rfl) (by rw [show i4.bytes = 1 from rfl]; omega) (by omega) rfl (fun ka kc' hc' => ?_))
      rw [Nat.zero_add keep.length, List.nil_append (keep.map Value.bool)]
      refine JL.loud rfl (l_callF e34 rfl rfl (Fc.fact (p := OwnAt ka keep.length kc' (keep.map Value.bool)) (fun w s => Sat.own_at (s.pick (by (repeat (first | exact Pick.head | apply Pick.tail | apply Pick.app))))) fun ok => Fc.on (Split.cons (by (repeat (first | exact Pick.head | apply Pick.tail | apply Pick.app))) Split.nil) (crash_spec E d DX _ _ keep _ (ok.inl (by (repeat (first | exact Pick.head | apply Pick.tail | apply Pick.app)))) (by omega))) ?_)
      rintro _ _ ⟨rfl, rfl⟩
      refine JL.nil ?_
      refine JE.then_normal ?_
      refine J.seq ?_
      refine J.region ?_
      refine JL.step (y_move rfl) rfl rfl rfl ?_
      refine JL.loud rfl (l_callF e49 rfl rfl (Fc.on (Split.cons (by (repeat (first | exact Pick.head | apply Pick.tail | apply Pick.app))) Split.nil) (open_holds E d (DX.crash keep) (nextS s X) _ _ hH hlc)) ?_)
      rintro _ _ ⟨st2, rfl, rfl⟩
      refine JL.step (y_move rfl) rfl rfl rfl (JL.step (y_extract rfl rfl) rfl rfl rfl (JL.step (y_extract rfl rfl) rfl rfl rfl (JL.step (y_assign rfl) rfl rfl rfl (JL.step (y_assign rfl) rfl rfl rfl ?_))))
      refine JL.nil ?_
      refine JE.then_normal ?_
      refine J.seq ?_
      refine J.seq ?_
      refine J.region ?_
      refine JL.step (y_move rfl) rfl rfl rfl (JL.step (y_neq rfl rfl) rfl rfl rfl (JL.step (y_move rfl) rfl rfl rfl ?_))
      all_goals (first | (refine JL.gsplit_dec rfl rfl rfl (fun h => ?_) (fun h => ?_) <;> try (first | (exfalso; omega) | exact absurd rfl h)) | (refine JL.gsplit rfl rfl rfl (fun h => ?_) (fun h => ?_) <;> try (first | cases h | (exfalso; simp at h; done))) | skip)
      all_goals (first | refine JL.gskip rfl rfl rfl rfl rfl rfl ?_ | refine JL.gskipU rfl rfl rfl rfl rfl ?_ | refine JL.gstep rfl rfl rfl (y_move rfl) rfl rfl ?_)
      all_goals (first | refine JL.gskip rfl rfl rfl rfl rfl rfl ?_ | refine JL.gskipU rfl rfl rfl rfl rfl ?_ | refine JL.gstep rfl rfl rfl (y_move rfl) rfl rfl ?_)
      all_goals (first | refine JL.gskip rfl rfl rfl rfl rfl rfl ?_ | refine JL.gskipU rfl rfl rfl rfl rfl ?_ | refine JL.gstep rfl rfl rfl (y_eql rfl rfl) rfl rfl ?_)
      all_goals (first | refine JL.gskip rfl rfl rfl rfl rfl rfl ?_ | refine JL.gskipU rfl rfl rfl rfl rfl ?_ | refine JL.gstep rfl rfl rfl (y_bool_ne hT rfl rfl rfl rfl) rfl rfl ?_)
      all_goals (refine JL.step (y_pick rfl rfl rfl) rfl rfl rfl ?_)
      all_goals (refine JL.step (y_move rfl) rfl rfl rfl ?_)
      all_goals (first | (refine JL.gsplit_dec rfl rfl rfl (fun h => ?_) (fun h => ?_) <;> try (first | (exfalso; omega) | exact absurd rfl h)) | (refine JL.gsplit rfl rfl rfl (fun h => ?_) (fun h => ?_) <;> try (first | cases h | (exfalso; simp at h; done))) | skip)
      all_goals (first | refine JL.gskip rfl rfl rfl rfl rfl rfl ?_ | refine JL.gskipU rfl rfl rfl rfl rfl ?_ | refine JL.gstep rfl rfl rfl (y_move rfl) rfl rfl ?_)
      all_goals (first | refine JL.gskip rfl rfl rfl rfl rfl rfl ?_ | refine JL.gskipU rfl rfl rfl rfl rfl ?_ | refine JL.gstep rfl rfl rfl (y_not rfl) rfl rfl ?_)
      all_goals (first | refine JL.gskip rfl rfl rfl rfl rfl rfl ?_ | refine JL.gskipU rfl rfl rfl rfl rfl ?_ | refine JL.gstep rfl rfl rfl (y_move rfl) rfl rfl ?_)
      all_goals (first | (refine JL.gsplit_dec rfl rfl rfl (fun h => ?_) (fun h => ?_) <;> try (first | (exfalso; omega) | exact absurd rfl h)) | (refine JL.gsplit rfl rfl rfl (fun h => ?_) (fun h => ?_) <;> try (first | cases h | (exfalso; simp at h; done))) | skip)
      all_goals (first | refine JL.gskip rfl rfl rfl rfl rfl rfl ?_ | refine JL.gskipU rfl rfl rfl rfl rfl ?_ | refine JL.gstep rfl rfl rfl (y_move rfl) rfl rfl ?_)
      all_goals (first | refine JL.gskip rfl rfl rfl rfl rfl rfl ?_ | refine JL.gskipU rfl rfl rfl rfl rfl ?_ | refine JL.gstep rfl rfl rfl (y_neq rfl rfl) rfl rfl ?_)
      all_goals (first | refine JL.gskip rfl rfl rfl rfl rfl rfl ?_ | refine JL.gskipU rfl rfl rfl rfl rfl ?_ | refine JL.gstep rfl rfl rfl (y_pick rfl rfl rfl) rfl rfl ?_)
      all_goals (refine JL.step (y_pick rfl rfl rfl) rfl rfl rfl ?_)
      all_goals refine JL.nil ?_
      all_goals refine JE.then_normal ?_
      all_goals
        refine J.cond_f rfl (by (first | rfl | assumption | (simp; done) | (simp; omega))) ?_
        refine J.skip ?_
      all_goals refine JE.then_normal ?_
      all_goals
        refine J.seq ?_
        refine J.region ?_
        refine JL.step (y_move rfl) rfl rfl rfl ?_
        refine JL.loud rfl (l_callF e50 rfl rfl (snapshot_holds E st2 d (DX.crash keep) (nextS s X) _ _ hH) ?_)
        rintro _ _ ⟨ga, gc, rfl, rfl⟩
        refine JL.step (y_move rfl) rfl rfl rfl (JL.step (y_extract rfl rfl) rfl rfl rfl (JL.step (y_extract rfl rfl) rfl rfl rfl (JL.step (y_assign rfl) rfl rfl rfl (JL.step (y_assign rfl) rfl rfl rfl ?_))))
        refine JL.nil ?_
        refine JE.then_normal ?_
        refine J.seq ?_
        refine J.seq ?_
        refine J.region ?_
        refine JL.step (y_move rfl) rfl rfl rfl (JL.step (y_neq rfl rfl) rfl rfl rfl ?_)
        refine JL.nil ?_
        refine JE.then_normal ?_
        refine J.cond_f rfl (by (first | rfl | assumption | (simp; done) | (simp; omega))) ?_
        refine J.skip ?_
        refine JE.then_normal ?_
        refine J.seq ?_
        refine J.seq ?_
        refine J.region ?_
        refine JL.step (y_move rfl) rfl rfl rfl ?_
        refine JL.loud rfl (l_callF e52 rfl rfl (Fc.on (Split.cons (by (repeat (first | exact Pick.head | apply Pick.tail | apply Pick.app))) (Split.cons (by (repeat (first | exact Pick.head | apply Pick.tail | apply Pick.app))) Split.nil)) (turn_spec E st2 d (nextS s X) (DX.crash keep) _ hH.fits.hash)) ?_)
        rintro _ _ ⟨rfl, rfl⟩
        refine JL.step (y_move rfl) rfl rfl rfl ?_
        refine JL.step ((by first | exact y_addQ rfl rfl | exact y_add rfl rfl (by (first | exact wrap_i64 (by omega) (by omega) | rfl)))) rfl rfl rfl ?_
        refine JL.step (y_eql rfl rfl) rfl rfl rfl ?_
        refine JL.nil ?_
        refine JE.then_normal ?_
        refine J.cond_t rfl (by (first | rfl | assumption | (simp; done) | (simp; omega))) ?_
        refine J.seq ?_
        refine J.region ?_
        refine JL.step (y_move rfl) rfl rfl rfl (JL.step (y_move rfl) rfl rfl rfl ?_)
        refine JL.loud rfl (l_callF e55 rfl rfl (Fc.fact (p := OwnAt ga X.length gc (ints .u8 X)) (fun w s => Sat.own_at (s.pick (by (repeat (first | exact Pick.head | apply Pick.tail | apply Pick.app))))) fun ok => cequal _ _ _ _ _ (ok.inl (by (repeat (first | exact Pick.head | apply Pick.tail | apply Pick.app)))) (by (repeat (first | assumption | apply InL.cons | apply InL.app)))) ?_)
        rintro _ _ ⟨rfl, rfl⟩
        refine JL.step (y_assign rfl) rfl rfl rfl ?_
        refine JL.nil ?_
        refine JE.then_normal ?_
        refine J.ret ?_
        refine JE.then_ret ?_
        refine JE.ret1 (.inl rfl) rfl rfl (by (first | exact RV.tmp rfl | exact RV.cell1 hT rfl rfl rfl (by (exact Rd1.row (by (repeat (first | exact Pick.head | apply Pick.tail | apply Pick.app))) (by rfl))) | exact RV.cellN hT rfl rfl rfl (by (first | exact RdN.rowAll (by (repeat (first | exact Pick.head | apply Pick.tail | apply Pick.app))) | exact RdN.own (by (repeat (first | exact Pick.head | apply Pick.tail | apply Pick.app))))) (by (first | rfl | assumption | (simp; done) | omega)))) ?_
        first
          | exact ⟨rfl, fun w q => q.sup (by (repeat (first | exact Sup.refl | apply Sup.cons (by (repeat (first | exact Pick.head | apply Pick.tail | apply Pick.app))) | apply Sup.app | apply Sup.skip | apply Sup.skips)))⟩
          | exact ⟨by simp, fun w q => q.sup (by (repeat (first | exact Sup.refl | apply Sup.cons (by (repeat (first | exact Pick.head | apply Pick.tail | apply Pick.app))) | apply Sup.app | apply Sup.skip | apply Sup.skips)))⟩
  all_goals refine JE.then_normal ?_
  all_goals
    refine J.seq ?_
    refine J.block ?_
    refine J.seq ?_
    refine J.region ?_
    refine JL.step (y_move rfl) rfl rfl rfl (JL.step (y_move rfl) rfl rfl rfl ?_)
    refine JL.loud rfl (l_callF e45 rfl rfl (Fc.on (Split.cons (by (repeat (first | exact Pick.head | apply Pick.tail | apply Pick.app))) (Split.cons (by (repeat (first | exact Pick.head | apply Pick.tail | apply Pick.app))) Split.nil)) (ctake st d j _ _ _ (by omega) (by (repeat (first | assumption | apply InL.cons | apply InL.app))))) ?_)
    rintro _ _ ⟨rfl, rfl⟩
    refine JL.step (y_neq rfl rfl) rfl rfl rfl ?_
    refine JL.nil ?_
    refine JE.then_normal ?_
    refine J.cond_f rfl (by (first | rfl | assumption | (simp; done) | (simp; omega))) ?_
    refine J.skip ?_
    refine JE.block_normal ?_
    refine JE.then_normal ?_
    refine J.region ?_
    refine JL.step (y_add rfl rfl (by (first | exact wrap_i64 (by omega) (by omega) | rfl))) rfl rfl rfl ?_
    refine JL.step (y_move rfl) rfl rfl rfl ?_
    refine JL.nil ?_
  all_goals
    exact JE.round (s := j) (j + 1) (by omega) ⟨rfl, rfl, rfl, rfl, rfl, rfl, rfl, trivial⟩ (fun w q => q.sup (by (repeat (first | exact Sup.refl | apply Sup.cons (by (repeat (first | exact Pick.head | apply Pick.tail | apply Pick.app))) | apply Sup.app | apply Sup.skip | apply Sup.skips)))) (by omega)
  -- UNUSED OPTIONS: call (*extent.Store).Turn#3, call (*extent.Store).Turn#4
theorem cuts_c (hTk : takeS s (D.arm k) (next.take n2) = ((nextS s (next.take n2)), DX, 0)) (hdX : DX.dead = false) (hpX : DX.pending.length ≤ 1000) (hH : Holds (nextS s (next.take n2)) (next.take n2) (DX.crash keep)) :
    Fc prog E 12 [.slice p1 was.length c1, .slice p2 next.length c2, .agg #[.int .i64 more, .int .i64 ahead, .int .i64 at_, .slice kp keep.length kc]].toArray r (fun v l' => v = .bool true ∧ l' = r) := by
  refine Fc.eqs ?_
  have hu0 : Up (Dk.new (64 + m)) := new_up (by omega) (by omega)
  have hN : (Dk.new (64 + m)).safe.length = 64 + m := by simp [Dk.new]
  obtain ⟨hu1, hl1, hp1⟩ := formatted_up hu0 (by omega)
  have hH1 := holds_format hu0 (by omega)
  rw [hD1] at hu1 hl1 hp1 hH1
  have hl1' : D1.safe.length = 64 + m := hl1.trans hN
  have hhl := half_le D1 (by omega)
  have hfmt : ∀ d l, Fc prog E 38 [.pointer (some ⟨d, 0, none⟩)].toArray (disk d (Dk.new (64 + m)) :: l) (fun v l' => ∃ st, v = .tuple #[.pointer (some ⟨st, 0, none⟩), .int .i64 0] ∧ l' = row st 125 (scells sb0 d) :: disk d D1 :: l) := fun d l => by
    have h := format_good E d (Dk.new (64 + m)) l (by omega) rfl rfl (by simp [Dk.new])
    rwa [hD1] at h
  obtain ⟨W, hW⟩ : ∃ W, was.take n1 = W := ⟨_, rfl⟩
  obtain ⟨X, hX⟩ : ∃ X, next.take n2 = X := ⟨_, rfl⟩
  have hWl : W.length = n1 := by rw [← hW, List.length_take]; omega
  have hXl : X.length = n2 := by rw [← hX, List.length_take]; omega
  have hWb : Bytes W := fun x hx => hb1 x (by rw [← hW] at hx; exact List.mem_of_mem_take hx)
  have hXb : Bytes X := fun x hx => hb2 x (by rw [← hX] at hx; exact List.mem_of_mem_take hx)
  rw [hW] at hsD
  rw [hX] at hTk
  rw [hX] at hH
  have hroom : W.length ≤ 64 * D1.half := by omega
  have hall := fun j hj => took_holds hH1 hroom (by decide) j hj
  obtain ⟨hst, hDl, _, hHs⟩ := hall (1 + cnt) (by omega)
  rw [hsD] at hst hDl hHs
  have hHs := hHs (by omega)
  dsimp only at hst hDl hHs
  have hst0 : s.turn.toNat = 1 + cnt := by rw [hst]; show 0 + (1 + cnt) = 1 + cnt; omega
  have hlX : DX.safe.length = 64 + m := by
    have h1 := congrArg (fun q => q.2.1.safe.length) hTk
    dsimp only at h1
    have h2 := (takeS_len s (D.arm k) X)
    rw [h1] at h2
    rw [h2]
    show D.safe.length = _
    omega
  have hlc : 64 ≤ (DX.crash keep).safe.length := by rw [show (DX.crash keep).safe.length = DX.safe.length from liveOn_length _ _ _ _]; omega
  have hDk : ∀ j, j ≤ 1000 → (took W j (sb0, D1)).1.hash.length = 16 ∧ 2 ≤ (took W j (sb0, D1)).2.safe.length ∧ ((took W j (sb0, D1)).1.place = 0 ∨ (took W j (sb0, D1)).1.place = 1) ∧ (took W j (sb0, D1)).2.pending.length ≤ 100000 := fun j hj => by
    obtain ⟨_, q2, ⟨w', q3⟩, _⟩ := hall j hj
    exact ⟨q3.fits.hash, by omega, q3.fits.place, by rw [q3.none]; exact Nat.zero_le _⟩
  have ctake : ∀ st d j p cap l, j ≤ 1000 → InL l p n1 cap (ints .u8 W) → Fc prog E 45 [.pointer (some ⟨st, 0, none⟩), .slice p n1 cap].toArray (row st 125 (scells (took W j (sb0, D1)).1 d) :: disk d (took W j (sb0, D1)).2 :: l) (fun v l' => v = .int .i64 0 ∧ l' = row st 125 (scells (took W (j + 1) (sb0, D1)).1 d) :: disk d (took W (j + 1) (sb0, D1)).2 :: l) := fun st d j p cap l hj hin => by
    obtain ⟨q1, q2, q3, q4⟩ := hDk j hj
    have q := stake_spec E st d _ _ p cap W l q1 q2 q3 q4 (by rw [hWl]; exact hin)
    rw [took_take hH1 hroom (by decide) j hj, hWl] at q
    exact q
  have ctakeX : ∀ st d p cap l, InL l p n2 cap (ints .u8 X) → Fc prog E 45 [.pointer (some ⟨st, 0, none⟩), .slice p n2 cap].toArray (row st 125 (scells s d) :: disk d (D.arm k) :: l) (fun v l' => v = .int .i64 0 ∧ l' = row st 125 (scells (nextS s X) d) :: disk d DX :: l) := fun st d p cap l hin => by
    have q := stake_spec E st d s (D.arm k) p cap X l hHs.fits.hash hHs.fits.two hHs.fits.place (by show D.pending.length ≤ _; rw [hHs.none]; exact Nat.zero_le _) (by rw [hXl]; exact hin)
    rw [hTk, hXl] at q
    exact q
  have cdead : ∀ d l, Fc prog E 31 [.pointer (some ⟨d, 0, none⟩)].toArray (disk d DX :: l) (fun v l' => v = .bool false ∧ l' = disk d DX :: l) := fun d l => by
    have q := dead_spec E d DX l
    rwa [hdX] at q
  have carm : ∀ d l, Fc prog E 29 [.pointer (some ⟨d, 0, none⟩), .int .i64 (k : Int)].toArray (disk d D :: l) (fun v l' => v = .int .i64 0 ∧ l' = disk d (D.arm k) :: l) := fun d l => by
    have q := arm_spec E d D k (by omega) l
    simp only [hHs.up.dead, Bool.false_eq_true, if_false] at q
    exact q
  have cequal : ∀ a c p c2 l, InL l a X.length c (ints .u8 X) → InL l p n2 c2 (ints .u8 X) → Fc prog E 55 [.slice a X.length c, .slice p n2 c2].toArray l (fun v l' => v = .bool true ∧ l' = l) := fun a c p c2 l h1 h2 => by
    have q := equal_spec E a p c c2 X X l hXb hXb h1 (by rw [hXl]; exact h2) (by omega) (by omega)
    rw [decide_eq_true rfl] at q
    rw [show (Value.slice p X.length c2) = .slice p n2 c2 by rw [hXl]] at q
    exact q
  have hcmp : decide ((((nextS s X)).turn.toNat : Int) = ((s.turn + 1#64).toNat : Int)) = true := decide_eq_true rfl
  refine Fc.of_body (c := ?c) Try.func12 ?hb Try.ntmps12 ?hl ?_
  case hb => exact rfl
  case hl => exact rfl
  refine J.seq ?_
  refine J.region ?_
  refine JL.loud rfl (l_box rfl (by (first | rfl | simp)) rfl (fun b1 => ?_))
  refine JL.step (y_assign rfl) rfl rfl rfl ?_
  refine JL.nil ?_
  refine JE.then_normal ?_
  refine J.seq ?_
  refine J.seq ?_
  refine J.region ?_
  refine JL.loud rfl (l_callF e37 rfl rfl (wakes11_spec E _) ?_)
  rintro _ _ ⟨rfl, rfl⟩
  refine JL.step (y_not rfl) rfl rfl rfl ?_
  refine JL.nil ?_
  refine JE.then_normal ?_
  refine J.cond_f rfl (by (first | rfl | assumption | (simp; done) | (simp; omega))) ?_
  refine J.skip ?_
  refine JE.then_normal ?_
  refine J.seq ?_
  refine J.region ?_
  refine JL.step (y_fieldAddr hT rfl rfl rfl rfl rfl rfl) rfl rfl rfl ?_
  refine JL.step (y_load1 hT rfl rfl rfl (by (exact Rd1.row (by (repeat (first | exact Pick.head | apply Pick.tail | apply Pick.app))) (by rfl)))) rfl rfl rfl ?_
  refine JL.step (y_max2 rfl rfl rfl) rfl rfl rfl ?_
  refine JL.step (y_rem rfl rfl (by decide) hm) rfl rfl rfl ?_
  refine JL.step (y_add (m := ((64 + m : Nat) : Int)) rfl rfl (by rw [show (64 : Int) + (m : Int) = ((64 + m : Nat) : Int) by omega]; exact wrap_i64 (by omega) (by omega))) rfl rfl rfl ?_
  refine JL.loud rfl (l_callF e21 rfl rfl (new_good E (64 + m) _ (by omega) (by omega)) ?_)
  rintro _ _ ⟨d, rfl, rfl⟩
  refine JL.step (y_move rfl) rfl rfl rfl (JL.step (y_extract rfl rfl) rfl rfl rfl (JL.step (y_extract rfl rfl) rfl rfl rfl (JL.step (y_assign rfl) rfl rfl rfl (JL.step (y_assign rfl) rfl rfl rfl ?_))))
  refine JL.nil ?_
  refine JE.then_normal ?_
  refine J.seq ?_
  refine J.seq ?_
  refine J.region ?_
  refine JL.step (y_move rfl) rfl rfl rfl (JL.step (y_neq rfl rfl) rfl rfl rfl ?_)
  refine JL.nil ?_
  refine JE.then_normal ?_
  refine J.cond_f rfl (by (first | rfl | assumption | (simp; done) | (simp; omega))) ?_
  refine J.skip ?_
  refine JE.then_normal ?_
  refine J.seq ?_
  refine J.region ?_
  refine JL.step (y_move rfl) rfl rfl rfl ?_
  refine JL.loud rfl (l_callF e38 rfl rfl (Fc.on (Split.cons (by (repeat (first | exact Pick.head | apply Pick.tail | apply Pick.app))) Split.nil) (hfmt d _)) ?_)
  rintro _ _ ⟨st, rfl, rfl⟩
  refine JL.step (y_move rfl) rfl rfl rfl (JL.step (y_extract rfl rfl) rfl rfl rfl (JL.step (y_extract rfl rfl) rfl rfl rfl (JL.step (y_assign rfl) rfl rfl rfl (JL.step (y_assign rfl) rfl rfl rfl ?_))))
  refine JL.nil ?_
  refine JE.then_normal ?_
  refine J.seq ?_
  refine J.seq ?_
  refine J.region ?_
  refine JL.step (y_move rfl) rfl rfl rfl (JL.step (y_neq rfl rfl) rfl rfl rfl ?_)
  refine JL.nil ?_
  refine JE.then_normal ?_
  refine J.cond_f rfl (by (first | rfl | assumption | (simp; done) | (simp; omega))) ?_
  refine J.skip ?_
  refine JE.then_normal ?_
  refine J.seq ?_
  obtain ⟨g1, o1, hq1, hj1⟩ := hin1.part (lo := 0) (hi := n1) (k := 1) (by omega) (by omega) (by simp [ints])
  obtain ⟨g2, o2, hq2, hj2⟩ := hin2.part (lo := 0) (hi := n2) (k := 1) (by omega) (by omega) (by simp [ints])
  rw [show ((ints .u8 was).drop (0 * 1)).take ((n1 - 0) * 1) = ints .u8 W by rw [← hW]; simp [ints, List.map_take]] at hj1
  rw [show ((ints .u8 next).drop (0 * 1)).take ((n2 - 0) * 1) = ints .u8 X by rw [← hX]; simp [ints, List.map_take]] at hj2
  refine J.draw _ _ [(0, .q), (1, .q), (2, .q), (3, .q), (4, .q), (5, .q), (6, .q), (7, .q), (8, .q), (9, .q), (10, .q), (11, .q), (12, .q), (13, .q), (14, .q), (15, .q)] mixed (by kernel_rfl) (Split.nil) ?_
  refine JM.quiet rfl rfl rfl rfl (fun m => y_move rfl) ?_
  refine JM.quiet rfl rfl rfl rfl (fun m => y_move rfl) ?_
  refine JM.quiet rfl rfl rfl rfl (fun m => y_len_slice hT rfl rfl rfl) ?_
  refine JM.quiet rfl rfl rfl rfl (fun m => y_move rfl) ?_
  refine JM.quiet rfl rfl rfl rfl (fun m => y_callF e44 rfl (Fc.still (p := [row st 125 (scells sb0 d), disk d D1]) (Split.cons (Pick.app m (by (repeat (first | exact Pick.head | apply Pick.tail | apply Pick.app)))) (Split.cons (Pick.app m (by (repeat (first | exact Pick.head | apply Pick.tail | apply Pick.app)))) Split.nil)) (room_spec E st d sb0 D1 _ sb0_hash (by omega)))) ?_
  refine JM.quiet rfl rfl rfl rfl (fun m => y_min2 (m := (n1 : Int)) rfl rfl (by omega)) ?_
  refine JM.quiet rfl rfl rfl rfl (fun m => y_slice (lo := 0) (hi := n1) hT rfl rfl rfl rfl (.inl ⟨rfl, rfl⟩) (.inr ⟨_, _, _, rfl, rfl, by omega⟩) (by omega) (by have := hin1.le; omega) hin1.le hq1) ?_
  refine JM.quiet rfl rfl rfl rfl (fun m => y_move rfl) ?_
  refine JM.quiet rfl rfl rfl rfl (fun m => y_move rfl) ?_
  refine JM.quiet rfl rfl rfl rfl (fun m => y_len_slice hT rfl rfl rfl) ?_
  refine JM.quiet rfl rfl rfl rfl (fun m => y_move rfl) ?_
  refine JM.quiet rfl rfl rfl rfl (fun m => y_callF e44 rfl (Fc.still (p := [row st 125 (scells sb0 d), disk d D1]) (Split.cons (Pick.app m (by (repeat (first | exact Pick.head | apply Pick.tail | apply Pick.app)))) (Split.cons (Pick.app m (by (repeat (first | exact Pick.head | apply Pick.tail | apply Pick.app)))) Split.nil)) (room_spec E st d sb0 D1 _ sb0_hash (by omega)))) ?_
  refine JM.quiet rfl rfl rfl rfl (fun m => y_min2 (m := (n2 : Int)) rfl rfl (by omega)) ?_
  refine JM.quiet rfl rfl rfl rfl (fun m => y_slice (lo := 0) (hi := n2) hT rfl rfl rfl rfl (.inl ⟨rfl, rfl⟩) (.inr ⟨_, _, _, rfl, rfl, by omega⟩) (by omega) (by have := hin2.le; omega) hin2.le hq2) ?_
  refine JM.quiet rfl rfl rfl rfl (fun m => y_assign rfl) ?_
  refine JM.quiet rfl rfl rfl rfl (fun m => y_assign rfl) ?_
  refine JM.nil ?_
  refine JE.then_normal ?_
  refine J.seq ?_
  refine J.seq ?_
  refine J.region ?_
  refine JL.step (y_fieldAddr hT rfl rfl rfl rfl rfl rfl) rfl rfl rfl ?_
  refine JL.step (y_load1 hT rfl rfl rfl (by (exact Rd1.row (by (repeat (first | exact Pick.head | apply Pick.tail | apply Pick.app))) (by rfl)))) rfl rfl rfl ?_
  refine JL.step (y_max2 rfl rfl rfl) rfl rfl rfl ?_
  refine JL.step (y_rem rfl rfl (by decide) hc) rfl rfl rfl ?_
  refine JL.step (y_add (m := ((1 + cnt : Nat) : Int)) rfl rfl (by rw [show (1 : Int) + (cnt : Int) = ((1 + cnt : Nat) : Int) by omega]; exact wrap_i64 (by omega) (by omega))) rfl rfl rfl ?_
  refine JL.step (y_move rfl) rfl rfl rfl ?_
  refine JL.nil ?_
  refine JE.then_normal ?_
  refine J.block ?_
  refine J.loop (α := Nat) (fun j => j ≤ 1 + cnt) (fun j => [(0, .slice (if c1 = 0 then p1 else some ⟨g1, o1 + 0 * i5.size, none⟩) (n1 - 0) (c1 - 0)), (1, .slice (if c2 = 0 then p2 else some ⟨g2, o2 + 0 * i5.size, none⟩) (n2 - 0) (c2 - 0)), (5, .pointer (some ⟨b1, 0, none⟩)), (7, .pointer (some ⟨d, 0, none⟩)), (9, .pointer (some ⟨st, 0, none⟩)), (54, .int .i64 ((1 + cnt : Nat) : Int)), (55, .int .i64 j)]) (fun j => row st 125 (scells (took W j (sb0, D1)).1 d) :: disk d (took W j (sb0, D1)).2 :: row b1 95 [.int .i64 more, .int .i64 ahead, .int .i64 at_, .slice kp keep.length kc] :: r) (fun j => 1 + cnt - j) 0 (by omega) ⟨rfl, rfl, rfl, rfl, rfl, rfl, rfl, trivial⟩ (fun w q => q.sup (by (repeat (first | exact Sup.refl | apply Sup.cons (by (repeat (first | exact Pick.head | apply Pick.tail | apply Pick.app))) | apply Sup.app | apply Sup.skip | apply Sup.skips)))) ?_
  intro j hj
  refine J.seq ?_
  refine J.region ?_
  refine JL.step (y_lss rfl rfl) rfl rfl rfl ?_
  refine JL.nil ?_
  refine JE.then_normal ?_
  refine J.seq ?_
  first | apply J.cond_dec rfl | apply J.cond rfl
  case' ht =>
    intro h
    try (first | (exfalso; omega) | (cases h; done) | (exfalso; simp at h; done) | subst h)
    all_goals
      refine J.skip ?_
  case' hf =>
    intro h
    try (first | (exfalso; omega) | (cases h; done) | (exfalso; simp at h; done) | subst h)
    all_goals
      refine J.exit ?_
      refine JE.then_exit ?_
      refine JE.then_exit ?_
      refine JE.block_exit ?_
      refine JE.then_normal ?_
      refine J.seq ?_
      obtain rfl : j = 1 + cnt := by omega
      rw [hsD]
      dsimp only
      refine J.region ?_
      refine JL.step (y_move rfl) rfl rfl rfl ?_
      refine JL.loud rfl (l_callF e52 rfl rfl (turn_spec E st d s D _ hHs.fits.hash) ?_)
      rintro _ _ ⟨rfl, rfl⟩
      refine JL.step (y_assign rfl) rfl rfl rfl ?_
      refine JL.nil ?_
      refine JE.then_normal ?_
      refine J.seq ?_
      refine J.region ?_
      refine JL.step (y_move rfl) rfl rfl rfl (JL.step (y_fieldAddr hT rfl rfl rfl rfl rfl rfl) rfl rfl rfl ?_)
      refine JL.step (y_load1 hT rfl rfl rfl (by (exact Rd1.row (by (repeat (first | exact Pick.head | apply Pick.tail | apply Pick.app))) (by rfl)))) rfl rfl rfl ?_
      refine JL.step (y_max2 rfl rfl rfl) rfl rfl rfl ?_
      refine JL.step (y_rem rfl rfl (by decide) hk) rfl rfl rfl ?_
      refine JL.loud rfl (l_callF e29 rfl rfl (Fc.on (Split.cons (by (repeat (first | exact Pick.head | apply Pick.tail | apply Pick.app))) Split.nil) (carm d _)) ?_)
      rintro _ _ ⟨rfl, rfl⟩
      refine JL.nil ?_
      refine JE.then_normal ?_
      refine J.seq ?_
      refine J.region ?_
      refine JL.step (y_move rfl) rfl rfl rfl (JL.step (y_move rfl) rfl rfl rfl ?_)
      refine JL.loud rfl (l_callF e45 rfl rfl (Fc.on (Split.cons (by (repeat (first | exact Pick.head | apply Pick.tail | apply Pick.app))) (Split.cons (by (repeat (first | exact Pick.head | apply Pick.tail | apply Pick.app))) Split.nil)) (ctakeX st d _ _ _ (by (repeat (first | assumption | apply InL.cons | apply InL.app))))) ?_)
      rintro _ _ ⟨rfl, rfl⟩
      refine JL.step (y_assign rfl) rfl rfl rfl ?_
      refine JL.nil ?_
      refine JE.then_normal ?_
      refine J.seq ?_
      refine J.region ?_
      refine JL.step (y_move rfl) rfl rfl rfl ?_
      refine JL.loud rfl (l_callF e31 rfl rfl (Fc.on (Split.cons (by (repeat (first | exact Pick.head | apply Pick.tail | apply Pick.app))) Split.nil) (cdead d _)) ?_)
      rintro _ _ ⟨rfl, rfl⟩
      refine JL.step (y_assign rfl) rfl rfl rfl ?_
      refine JL.nil ?_
      refine JE.then_normal ?_
      refine J.seq ?_
      refine J.region ?_
      refine JL.step (y_move rfl) rfl rfl rfl ?_
      refine JL.loud rfl (l_buildSlice0 hT rfl rfl rfl rfl (fun b9 => ?_))
      refine JL.step (y_fieldAddr hT rfl rfl rfl rfl rfl rfl) rfl rfl rfl ?_
      refine JL.step (y_load1 hT rfl rfl rfl (by (exact Rd1.row (by (repeat (first | exact Pick.head | apply Pick.tail | apply Pick.app))) (by rfl)))) rfl rfl rfl ?_
      refine JL.loud rfl (l_appendIn hT rfl rfl rfl rfl rfl rfl rfl rfl (by (repeat (first | exact Pick.head | apply Pick.tail | apply Pick.app))) (by (repeat (first | assumption | apply InL.cons | apply InL.app))) (by rw [show i4.size = 1 from rfl]; simp) (by intro u hu; simp only [List.mem_map] at hu; obtain ⟨z, _, rfl⟩ := hu; rfl) (by rw [show i4.bytes = 1 from rfl]; omega) (by omega) rfl (fun ka kc' hc' => ?_))
      rw [Nat.zero_add keep.length, List.nil_append (keep.map Value.bool)]
      refine JL.loud rfl (l_callF e34 rfl rfl (Fc.fact (p := OwnAt ka keep.length kc' (keep.map Value.bool)) (fun w s => Sat.own_at (s.pick (by (repeat (first | exact Pick.head | apply Pick.tail | apply Pick.app))))) fun ok => Fc.on (Split.cons (by (repeat (first | exact Pick.head | apply Pick.tail | apply Pick.app))) Split.nil) (crash_spec E d DX _ _ keep _ (ok.inl (by (repeat (first | exact Pick.head | apply Pick.tail | apply Pick.app)))) (by omega))) ?_)
      rintro _ _ ⟨rfl, rfl⟩
      refine JL.nil ?_
      refine JE.then_normal ?_
      refine J.seq ?_
      refine J.region ?_
      refine JL.step (y_move rfl) rfl rfl rfl ?_
      refine JL.loud rfl (l_callF e49 rfl rfl (Fc.on (Split.cons (by (repeat (first | exact Pick.head | apply Pick.tail | apply Pick.app))) Split.nil) (open_holds E d (DX.crash keep) (nextS s X) _ _ hH hlc)) ?_)
      rintro _ _ ⟨st2, rfl, rfl⟩
      refine JL.step (y_move rfl) rfl rfl rfl (JL.step (y_extract rfl rfl) rfl rfl rfl (JL.step (y_extract rfl rfl) rfl rfl rfl (JL.step (y_assign rfl) rfl rfl rfl (JL.step (y_assign rfl) rfl rfl rfl ?_))))
      refine JL.nil ?_
      refine JE.then_normal ?_
      refine J.seq ?_
      refine J.seq ?_
      refine J.region ?_
      refine JL.step (y_move rfl) rfl rfl rfl (JL.step (y_neq rfl rfl) rfl rfl rfl (JL.step (y_move rfl) rfl rfl rfl ?_))
      all_goals (first | (refine JL.gsplit_dec rfl rfl rfl (fun h => ?_) (fun h => ?_) <;> try (first | (exfalso; omega) | exact absurd rfl h)) | (refine JL.gsplit rfl rfl rfl (fun h => ?_) (fun h => ?_) <;> try (first | cases h | (exfalso; simp at h; done))) | skip)
      all_goals (first | refine JL.gskip rfl rfl rfl rfl rfl rfl ?_ | refine JL.gskipU rfl rfl rfl rfl rfl ?_ | refine JL.gstep rfl rfl rfl (y_move rfl) rfl rfl ?_)
      all_goals (first | refine JL.gskip rfl rfl rfl rfl rfl rfl ?_ | refine JL.gskipU rfl rfl rfl rfl rfl ?_ | refine JL.gstep rfl rfl rfl (y_move rfl) rfl rfl ?_)
      all_goals (first | refine JL.gskip rfl rfl rfl rfl rfl rfl ?_ | refine JL.gskipU rfl rfl rfl rfl rfl ?_ | refine JL.gstep rfl rfl rfl (y_eql rfl rfl) rfl rfl ?_)
      all_goals (first | refine JL.gskip rfl rfl rfl rfl rfl rfl ?_ | refine JL.gskipU rfl rfl rfl rfl rfl ?_ | refine JL.gstep rfl rfl rfl (y_bool_ne hT rfl rfl rfl rfl) rfl rfl ?_)
      all_goals (refine JL.step (y_pick rfl rfl rfl) rfl rfl rfl ?_)
      all_goals (refine JL.step (y_move rfl) rfl rfl rfl ?_)
      all_goals (first | (refine JL.gsplit_dec rfl rfl rfl (fun h => ?_) (fun h => ?_) <;> try (first | (exfalso; omega) | exact absurd rfl h)) | (refine JL.gsplit rfl rfl rfl (fun h => ?_) (fun h => ?_) <;> try (first | cases h | (exfalso; simp at h; done))) | skip)
      all_goals (first | refine JL.gskip rfl rfl rfl rfl rfl rfl ?_ | refine JL.gskipU rfl rfl rfl rfl rfl ?_ | refine JL.gstep rfl rfl rfl (y_move rfl) rfl rfl ?_)
      all_goals (first | refine JL.gskip rfl rfl rfl rfl rfl rfl ?_ | refine JL.gskipU rfl rfl rfl rfl rfl ?_ | refine JL.gstep rfl rfl rfl (y_not rfl) rfl rfl ?_)
      all_goals (first | refine JL.gskip rfl rfl rfl rfl rfl rfl ?_ | refine JL.gskipU rfl rfl rfl rfl rfl ?_ | refine JL.gstep rfl rfl rfl (y_move rfl) rfl rfl ?_)
      all_goals (first | (refine JL.gsplit_dec rfl rfl rfl (fun h => ?_) (fun h => ?_) <;> try (first | (exfalso; omega) | exact absurd rfl h)) | (refine JL.gsplit rfl rfl rfl (fun h => ?_) (fun h => ?_) <;> try (first | cases h | (exfalso; simp at h; done))) | skip)
      all_goals (first | refine JL.gskip rfl rfl rfl rfl rfl rfl ?_ | refine JL.gskipU rfl rfl rfl rfl rfl ?_ | refine JL.gstep rfl rfl rfl (y_move rfl) rfl rfl ?_)
      all_goals (first | refine JL.gskip rfl rfl rfl rfl rfl rfl ?_ | refine JL.gskipU rfl rfl rfl rfl rfl ?_ | refine JL.gstep rfl rfl rfl (y_neq rfl rfl) rfl rfl ?_)
      all_goals (first | refine JL.gskip rfl rfl rfl rfl rfl rfl ?_ | refine JL.gskipU rfl rfl rfl rfl rfl ?_ | refine JL.gstep rfl rfl rfl (y_pick rfl rfl rfl) rfl rfl ?_)
      all_goals (refine JL.step (y_pick rfl rfl rfl) rfl rfl rfl ?_)
      all_goals refine JL.nil ?_
      all_goals refine JE.then_normal ?_
      all_goals
        refine J.cond_f rfl (by (first | rfl | assumption | (simp; done) | (simp; omega))) ?_
        refine J.skip ?_
      all_goals refine JE.then_normal ?_
      all_goals
        refine J.seq ?_
        refine J.region ?_
        refine JL.step (y_move rfl) rfl rfl rfl ?_
        refine JL.loud rfl (l_callF e50 rfl rfl (snapshot_holds E st2 d (DX.crash keep) (nextS s X) _ _ hH) ?_)
        rintro _ _ ⟨ga, gc, rfl, rfl⟩
        refine JL.step (y_move rfl) rfl rfl rfl (JL.step (y_extract rfl rfl) rfl rfl rfl (JL.step (y_extract rfl rfl) rfl rfl rfl (JL.step (y_assign rfl) rfl rfl rfl (JL.step (y_assign rfl) rfl rfl rfl ?_))))
        refine JL.nil ?_
        refine JE.then_normal ?_
        refine J.seq ?_
        refine J.seq ?_
        refine J.region ?_
        refine JL.step (y_move rfl) rfl rfl rfl (JL.step (y_neq rfl rfl) rfl rfl rfl ?_)
        refine JL.nil ?_
        refine JE.then_normal ?_
        refine J.cond_f rfl (by (first | rfl | assumption | (simp; done) | (simp; omega))) ?_
        refine J.skip ?_
        refine JE.then_normal ?_
        refine J.seq ?_
        refine J.seq ?_
        refine J.region ?_
        refine JL.step (y_move rfl) rfl rfl rfl ?_
        refine JL.loud rfl (l_callF e52 rfl rfl (Fc.on (Split.cons (by (repeat (first | exact Pick.head | apply Pick.tail | apply Pick.app))) (Split.cons (by (repeat (first | exact Pick.head | apply Pick.tail | apply Pick.app))) Split.nil)) (turn_spec E st2 d (nextS s X) (DX.crash keep) _ hH.fits.hash)) ?_)
        rintro _ _ ⟨rfl, rfl⟩
        refine JL.step (y_move rfl) rfl rfl rfl ?_
        refine JL.step ((by first | exact y_addQ rfl rfl | exact y_add rfl rfl (by (first | exact wrap_i64 (by omega) (by omega) | rfl)))) rfl rfl rfl ?_
        refine JL.step (y_eql rfl rfl) rfl rfl rfl ?_
        refine JL.nil ?_
        refine JE.then_normal ?_
        refine J.cond_t rfl (by (first | rfl | assumption | (simp; done) | (simp; omega))) ?_
        refine J.seq ?_
        refine J.region ?_
        refine JL.step (y_move rfl) rfl rfl rfl (JL.step (y_move rfl) rfl rfl rfl ?_)
        refine JL.loud rfl (l_callF e55 rfl rfl (Fc.fact (p := OwnAt ga X.length gc (ints .u8 X)) (fun w s => Sat.own_at (s.pick (by (repeat (first | exact Pick.head | apply Pick.tail | apply Pick.app))))) fun ok => cequal _ _ _ _ _ (ok.inl (by (repeat (first | exact Pick.head | apply Pick.tail | apply Pick.app)))) (by (repeat (first | assumption | apply InL.cons | apply InL.app)))) ?_)
        rintro _ _ ⟨rfl, rfl⟩
        refine JL.step (y_assign rfl) rfl rfl rfl ?_
        refine JL.nil ?_
        refine JE.then_normal ?_
        refine J.ret ?_
        refine JE.then_ret ?_
        refine JE.ret1 (.inl rfl) rfl rfl (by (first | exact RV.tmp rfl | exact RV.cell1 hT rfl rfl rfl (by (exact Rd1.row (by (repeat (first | exact Pick.head | apply Pick.tail | apply Pick.app))) (by rfl))) | exact RV.cellN hT rfl rfl rfl (by (first | exact RdN.rowAll (by (repeat (first | exact Pick.head | apply Pick.tail | apply Pick.app))) | exact RdN.own (by (repeat (first | exact Pick.head | apply Pick.tail | apply Pick.app))))) (by (first | rfl | assumption | (simp; done) | omega)))) ?_
        first
          | exact ⟨rfl, fun w q => q.sup (by (repeat (first | exact Sup.refl | apply Sup.cons (by (repeat (first | exact Pick.head | apply Pick.tail | apply Pick.app))) | apply Sup.app | apply Sup.skip | apply Sup.skips)))⟩
          | exact ⟨by simp, fun w q => q.sup (by (repeat (first | exact Sup.refl | apply Sup.cons (by (repeat (first | exact Pick.head | apply Pick.tail | apply Pick.app))) | apply Sup.app | apply Sup.skip | apply Sup.skips)))⟩
  all_goals refine JE.then_normal ?_
  all_goals
    refine J.seq ?_
    refine J.block ?_
    refine J.seq ?_
    refine J.region ?_
    refine JL.step (y_move rfl) rfl rfl rfl (JL.step (y_move rfl) rfl rfl rfl ?_)
    refine JL.loud rfl (l_callF e45 rfl rfl (Fc.on (Split.cons (by (repeat (first | exact Pick.head | apply Pick.tail | apply Pick.app))) (Split.cons (by (repeat (first | exact Pick.head | apply Pick.tail | apply Pick.app))) Split.nil)) (ctake st d j _ _ _ (by omega) (by (repeat (first | assumption | apply InL.cons | apply InL.app))))) ?_)
    rintro _ _ ⟨rfl, rfl⟩
    refine JL.step (y_neq rfl rfl) rfl rfl rfl ?_
    refine JL.nil ?_
    refine JE.then_normal ?_
    refine J.cond_f rfl (by (first | rfl | assumption | (simp; done) | (simp; omega))) ?_
    refine J.skip ?_
    refine JE.block_normal ?_
    refine JE.then_normal ?_
    refine J.region ?_
    refine JL.step (y_add rfl rfl (by (first | exact wrap_i64 (by omega) (by omega) | rfl))) rfl rfl rfl ?_
    refine JL.step (y_move rfl) rfl rfl rfl ?_
    refine JL.nil ?_
  all_goals
    exact JE.round (s := j) (j + 1) (by omega) ⟨rfl, rfl, rfl, rfl, rfl, rfl, rfl, trivial⟩ (fun w q => q.sup (by (repeat (first | exact Sup.refl | apply Sup.cons (by (repeat (first | exact Pick.head | apply Pick.tail | apply Pick.app))) | apply Sup.app | apply Sup.skip | apply Sup.skips)))) (by omega)
  -- UNUSED OPTIONS: call (*extent.Store).Turn#3, call (*extent.Store).Turn#4
end
theorem extent_cuts (more ahead at_ : Int) (p1 p2 kp : Option Addr) (c1 c2 kc : Nat) (was next : List Int) (keep : List Bool) (r : List HProp)
    (hin1 : InL r p1 was.length c1 (ints .u8 was)) (hin2 : InL r p2 next.length c2 (ints .u8 next)) (hink : InL r kp keep.length kc (keep.map Value.bool)) (hkn : keep.length ≤ 2000000) (hb1 : Bytes was) (hb2 : Bytes next) :
    Fc prog E 12 [.slice p1 was.length c1, .slice p2 next.length c2, .agg #[.int .i64 more, .int .i64 ahead, .int .i64 at_, .slice kp keep.length kc]].toArray r (fun v l' => v = .bool true ∧ l' = r) := by
  obtain ⟨m, hm, hm1⟩ := range_n more 64 (by decide)
  obtain ⟨cnt, hc, hc1⟩ := range_n ahead 3 (by decide)
  obtain ⟨k, hk, hk1⟩ := range_n at_ 20 (by decide)
  obtain ⟨D1, hD1⟩ : ∃ D1, (Dk.new (64 + m)).formatted = D1 := ⟨_, rfl⟩
  obtain ⟨n1, hn1⟩ : ∃ n1, min was.length (64 * D1.half) = n1 := ⟨_, rfl⟩
  obtain ⟨n2, hn2⟩ : ∃ n2, min next.length (64 * D1.half) = n2 := ⟨_, rfl⟩
  obtain ⟨⟨s, D⟩, hsD⟩ : ∃ x, took (was.take n1) (1 + cnt) (sb0, D1) = x := ⟨_, rfl⟩
  have hu0 : Up (Dk.new (64 + m)) := new_up (by omega) (by omega)
  have hN : (Dk.new (64 + m)).safe.length = 64 + m := by simp [Dk.new]
  have hH1 := holds_format hu0 (by omega)
  obtain ⟨_, hl1, _⟩ := formatted_up hu0 (by omega)
  rw [hD1] at hH1 hl1
  obtain ⟨q1, q2, _, q4⟩ := took_holds hH1 (bs := was.take n1) (by rw [List.length_take]; omega) (by decide) (1 + cnt) (by omega)
  rw [hsD] at q1 q2 q4
  have hH := q4 (by omega)
  dsimp only at q1 q2 hH
  have ht : s.turn.toNat + 1 < 18446744073709551616 := by
    rw [q1]
    show 0 + (1 + cnt) + 1 < _
    omega
  have hh : D.half = D1.half := by unfold Dk.half; rw [q2]
  have hX : (next.take n2).length ≤ 64 * D.half := by rw [List.length_take, hh]; omega
  obtain ⟨hpl, h⟩ := cut_law (k := k) hH.up hH.none (by omega) hH.fits.two hH.fits.place hX
  rcases h with ⟨h1, h2, h3, h4⟩ | ⟨h1, h2, h3, h4⟩
  · rcases h4 keep with h5 | h5
    · exact cuts_a E more ahead at_ p1 p2 kp c1 c2 kc was next keep r hin1 hin2 hink hkn hb1 hb2 m cnt k n1 n2 hm hm1 hc hc1 hk hk1 D1 hD1 hn1 hn2 s D _ hsD (Prod.ext h1 (Prod.ext rfl h2)) h3 hpl (holds_kept hH h5)
    · exact cuts_b E more ahead at_ p1 p2 kp c1 c2 kc was next keep r hin1 hin2 hink hkn hb1 hb2 m cnt k n1 n2 hm hm1 hc hc1 hk hk1 D1 hD1 hn1 hn2 s D _ hsD (Prod.ext h1 (Prod.ext rfl h2)) h3 hpl (holds_taken hH hX ht h5)
  · exact cuts_c E more ahead at_ p1 p2 kp c1 c2 kc was next keep r hin1 hin2 hink hkn hb1 hb2 m cnt k n1 n2 hm hm1 hc hc1 hk hk1 D1 hD1 hn1 hn2 s D _ hsD (Prod.ext h1 (Prod.ext rfl h2)) h3 hpl (holds_taken hH hX ht (h4 keep))
end
section
open Go.ChangeShapes Go.WideShapes Go.ChangeAt Go.RowKit
set_option maxRecDepth 100000 in
theorem tr_cut {H : Type} {enc : TypeId × Value → H} {w : World} {ok : DataW H → Prop} {L : Nat → Prop} {cs : List Value} (her : Her ok L) (h : Tr enc prog ok w 95 cs) :
    ∃ (a b c : Int) (kp : Option Addr) (kc : Nat) (keep : List Bool), cs = [.int .i64 a, .int .i64 b, .int .i64 c, .slice kp keep.length kc] ∧ L keep.length ∧ InW w kp keep.length kc (keep.map Value.bool) := by
  obtain ⟨hl, hf⟩ := Tr.struct her u95 h
  rw [show prog.cellsOf 95 = 4 by kernel_rfl] at hl
  match cs, hl with
  | [a, b, c, d], _ =>
    have h0 := hf 0 _ rfl
    have h1 := hf 1 _ rfl
    have h2 := hf 2 _ rfl
    have h3 := hf 3 _ rfl
    dsimp only at h0 h1 h2 h3
    rw [show prog.cellsOf 3 = 1 by kernel_rfl] at h0 h1 h2
    rw [show prog.cellsOf 30 = 1 by kernel_rfl] at h3
    obtain ⟨k, e0, _⟩ := Tr.int u3 h0
    obtain ⟨i, e1, _⟩ := Tr.int u3 h1
    obtain ⟨x, e2, _⟩ := Tr.int u3 h2
    obtain ⟨p, cap, bs, e3, l3, r3⟩ := tr_bools her h3
    cases e0; cases e1; cases e2; cases e3
    exact ⟨k, i, x, p, cap, bs, rfl, l3, r3⟩
theorem extent_cuts_reads : ∀ t ∈ Try.f12.params.toList, Try.prog.readableRec t = true ∧ t < Try.prog.types.size := by
  rw [Try.params12]
  intro t ht
  simp only [List.mem_cons, List.not_mem_nil, or_false] at ht
  rcases ht with rfl | rfl | rfl
  all_goals exact ⟨by kernel_rfl, of_decide_eq_true (by kernel_rfl)⟩
set_option maxRecDepth 100000 in
theorem extent_cuts_contract (H : Type) (enc : TypeId × Value → H) (W : World) (base : Nat) (args : Array Value) (ds gs : List (DataW H)) (before : List MemPlace)
    (hval : ∀ (j : Nat) t v, Try.f12.params[j]? = some t → args[j]? = some v → Value.okWide Try.prog W .any base t v)
    (hW : DataW.Whole enc Try.prog Try.f12.params.toList Rows.extentCutsSpec.vars false W args.toList ds gs before) (hk : Rows.uptoSmall H (ds ++ gs) = true) :
    Calls Try.prog 12 args W fun e W' => ∃ v, e = .returned v ∧ Rows.extentCutsSpec.post enc Try.prog Try.f12 false true false false W args v W' := by
  have hW' := hW
  obtain ⟨p, q, hA0, hV, rfl, hfz, hnd⟩ := hW
  have hA : DataW.TrodAll enc Try.prog W 0 (fun _ => true) true Try.f12.params.toList args.toList ds p := hA0
  rw [Try.params12] at hA hval
  obtain ⟨v0, vs0, d0, ds0, p0, q0, hargs, rfl, rfl, h0, r0⟩ := trodAll_cons hA
  obtain ⟨v1, vs1, d1, ds1, p1, q1, rfl, rfl, rfl, h1, r1⟩ := trodAll_cons r0
  obtain ⟨v2, vs2, d2, ds2, p2, q2, rfl, rfl, rfl, h2, r2⟩ := trodAll_cons r1
  obtain ⟨rfl, rfl, rfl⟩ := trodAll_nil r2
  obtain rfl : args = #[v0, v1, v2] := by cases args; simp_all
  obtain ⟨rfl, rfl⟩ := trodVars_none hV
  clear hA0
  have t0 : Tr enc prog upOk W 73 [v0] := Tr.ofSlice u73 (hval 0 73 v0 rfl rfl) h0 (upOk_of hk d0 (by simp))
  have t1 : Tr enc prog upOk W 73 [v1] := Tr.ofSlice u73 (hval 1 73 v1 rfl rfl) h1 (upOk_of hk d1 (by simp))
  obtain ⟨cs2, rfl, t2⟩ := Tr.ofStruct (ok := upOk) u95 (hval 2 95 v2 rfl rfl) h2 (upOk_of hk d2 (by simp))
  obtain ⟨p1, c1, was, rfl, _, hb1, hin1⟩ := tr_bytesR upHer t0
  obtain ⟨p2, c2, next, rfl, _, hb2, hin2⟩ := tr_bytesR upHer t1
  obtain ⟨more, ahead, at_, kp, kc, keep, rfl, hkn, hin3⟩ := tr_cut upHer t2
  refine ((extent_cuts W more ahead at_ p1 p2 kp c1 c2 kc was next keep [old W] (hin1.inl []) (hin2.inl []) (hin3.inl []) (by omega) hb1 hb2) W (Sat.start W)).mono fun e W' hq => ?_
  obtain ⟨v, l', rfl, hs, rfl, rfl⟩ := hq
  exact ⟨_, rfl, law_post laidOut_ rfl rfl u4 extent_cuts_reads hW' rfl rfl rfl hs.below⟩
set_option maxRecDepth 100000 in
theorem extent_cuts_lifted (os : Os) (started : os.Started) (H : Type) (enc : TypeId × Value → H) (F : Stop.Interp) :
    ReturnsInHanded {} Try.checked os 12 .any ((Rows.OpenSpec.upto Rows.extentCutsSpec).pre6 enc Try.prog Try.f12 Rows.extentCutsUptoRow.domain false) (((Rows.OpenSpec.upto Rows.extentCutsSpec).at F).post enc Try.prog Try.f12 false true false false) := by
  refine returnsInHanded_of_cond (C := Try.checked) (s := Rows.OpenSpec.upto Rows.extentCutsSpec) (k := Rows.uptoSmall) rfl own_ started (by kernel_rfl) Try.func12
    (OpenSpec.witness (enc := enc) (C := Try.checked) (s := Rows.OpenSpec.upto Rows.extentCutsSpec) (k := Rows.uptoSmall) rfl false ⟨#[], #[.slice none 0 0, .slice none 0 0, .agg #[.int .i64 0, .int .i64 0, .int .i64 0, .slice none 0 0]], []⟩ 8 (by kernel_rfl) (by kernel_rfl) (by kernel_rfl)
      (x := ([.nil, .nil, .agg [.lit (.int .i64 0), .lit (.int .i64 0), .lit (.int .i64 0), .nil]], [], [])) (by kernel_rfl) rfl (by kernel_rfl)) ?_
  intro W base args ds gs before hval hW _ hk _
  exact extent_cuts_contract H enc W base args ds gs before hval hW hk
theorem extent_cuts_holds : Rows.ExtentCutsUptoSaid :=
  OpenClaim.holds_of_cond 12 Try.f12 rfl rfl rfl rfl rfl rfl rfl ⟨rfl, rfl, rfl, rfl, rfl⟩ rfl rfl rfl rfl rfl (by kernel_rfl) Try.func12 (by kernel_rfl)
    (of_decide_eq_true (by kernel_rfl)) (by unfold Func.isWrapper; first | (rw [if_pos (by decide +kernel)]; kernel_rfl) | (rw [if_neg (by decide +kernel)]; exact ⟨rfl, rfl⟩))
    (fun os started H enc _ F => extent_cuts_lifted os started H enc F)
end
end Go.Proofs.Ytilifeeddpkclaa
