/-
  hollowtreelaw11.ExtentOpens returns true for every input of bulk at most 1048576, and leaves its input as it was.
-/
import Derived.Test.YtilifeeddpkclaaLaw11e
import Derived.Test.YtilifeeddpkclaaTop1c
namespace Go.Proofs.Ytilifeeddpkclaa
open Go Go.SL
section
/-- A sector that is turned. -/
structure Wr where
  at_ : Int
  turn : Blk
  sup : Bool
  ctr : BitVec 64
def wEnc (w : Wr) : List Value := .int .i64 w.at_ :: (encB w.turn ++ [.bool w.sup, Q w.ctr])
theorem wEnc_one (w : Wr) : ∀ u ∈ wEnc w, u.oneCell' = true := by
  intro u hu
  simp only [wEnc, List.mem_cons, List.mem_append, List.not_mem_nil, or_false] at hu
  rcases hu with rfl | h | rfl | rfl
  · rfl
  · exact encB_one _ u h
  · rfl
  · rfl
structure Wr.Ok (w : Wr) : Prop where
  turn : w.turn.length = 64
  at_ : -9223372036854775808 ≤ w.at_ ∧ w.at_ ≤ 9223372036854775807
theorem wEnc_length {w : Wr} (h : w.Ok) : (wEnc w).length = 67 := by simp [wEnc, h.turn]
/-- A disk between writes. -/
structure OpI (n : Nat) (D : Dk) (i : Nat) : Prop where
  up : Up D
  byt : Byt D
  len : D.safe.length = n
  pend : D.pending.length ≤ i
theorem OpI.push {n : Nat} {D : Dk} {i : Nat} (h : OpI n D i) {j : Int} {b : Blk} (hj : 0 ≤ j ∧ j < n) (hl : b.length = 64) (hb : Bytes b) : OpI n (D.does.push j b) (i + 1) :=
  ⟨h.up.push (by rw [h.len]; exact hj) hl, h.byt.does.push j hb, h.len, by simp only [Dk.push, Dk.does, List.length_append, List.length_singleton]; have := h.pend; omega⟩
attribute [local irreducible] J JL JE JM LS Y Fc RV Code.wp wpList Code.wpIn wpListIn
attribute [local irreducible] Yc
variable (E : World)
set_option maxHeartbeats 800000 in
theorem extent_opens (more : Int) (fm : Bool) (sp wp : Option Addr) (sc wc : Nat) (snap : List Int) (ws : List Wr) (r : List HProp) (hs : InL r sp snap.length sc (ints .u8 snap)) (hsb : Bytes snap) (hsl : snap.length ≤ 1048576) (hw : InL r wp ws.length wc (ws.flatMap wEnc)) (hwo : ∀ w ∈ ws, w.Ok) :
    Fc prog E 10 [.agg #[.int .i64 more, .bool fm, .slice sp snap.length sc, .slice wp ws.length wc]].toArray r (fun v l' => v = .bool true ∧ l' = r) := by
  refine Fc.eqs ?_
  obtain ⟨m, hm, hm1⟩ := range_n more 40 (by decide)
  have hm : (max more 0).tmod 40 = (m : Int) := hm
  obtain ⟨N, hN⟩ : ∃ N, 64 + m = N := ⟨_, rfl⟩
  obtain ⟨H, hH⟩ : ∃ H, (N - 2) / 4 = H := ⟨_, rfl⟩
  have hu0 : Up (Dk.new N) := new_up (by omega) (by omega)
  have hl0 : (Dk.new N).safe.length = N := by simp [Dk.new]
  have hI0 : OpI N (Dk.new N) 0 := ⟨hu0, Byt.new N, hl0, Nat.le_refl 0⟩
  obtain ⟨hu1, hl1, hp1⟩ := formatted_up hu0 (by omega)
  have hl1' : (Dk.new N).formatted.safe.length = N := hl1.trans hl0
  have hI1 : OpI N (Dk.new N).formatted 0 := ⟨hu1, (Byt.new N).formatted, hl1', by rw [hp1]; exact Nat.le_refl 0⟩
  have hhalf : (Dk.new N).formatted.half = H := by unfold Dk.half; rw [hl1', hH]
  have hfmt : ∀ d l, Fc prog E 38 [.pointer (some ⟨d, 0, none⟩)].toArray (disk d (Dk.new N) :: l) (fun v l' => ∃ st, v = .tuple #[.pointer (some ⟨st, 0, none⟩), .int .i64 0] ∧ l' = row st 125 (scells sb0 d) :: disk d (Dk.new N).formatted :: l) := fun d l => format_good E d (Dk.new N) l (by omega) rfl rfl (by simp [Dk.new])
  have croom : ∀ st d l, Fc prog E 44 [.pointer (some ⟨st, 0, none⟩)].toArray (row st 125 (scells sb0 d) :: disk d (Dk.new N).formatted :: l) (fun v l' => v = .int .i64 ((64 * H : Nat) : Int) ∧ l' = row st 125 (scells sb0 d) :: disk d (Dk.new N).formatted :: l) := fun st d l => by
    have q := room_spec E st d sb0 (Dk.new N).formatted l sb0_hash (by omega)
    rwa [hhalf] at q
  have hwL : ∀ w ∈ ws, (wEnc w).length = 67 := fun w h => wEnc_length (hwo w h)
  have cread : ∀ {D : Dk} {i : Nat} (d : Nat) (j : Nat) l, OpI N D i → j < N → i ≤ 100 → Fc prog E 27 [.pointer (some ⟨d, 0, none⟩), .int .i64 (j : Int)].toArray (disk d D :: l) (fun v l' => v = .tuple #[.agg (encB (D.find j)).toArray, .int .i64 0] ∧ l' = disk d D :: l) := fun {D i} d j l h hj hi =>
    read_good E d D j l (by rw [Dk.ready, h.up.dead, if_neg (by simp), if_neg (by rw [h.len]; omega)]) (by have := h.pend; omega)
  have cwrite : ∀ {D : Dk} {i : Nat} (d : Nat) (j : Nat) (b : Blk) l, OpI N D i → j < N → i ≤ 100 → b.length = 64 → Fc prog E 47 [.pointer (some ⟨d, 0, none⟩), .int .i64 (j : Int), .agg (encB b).toArray].toArray (disk d D :: l) (fun v l' => v = .int .i64 0 ∧ l' = disk d (D.does.push j b) :: l) := fun {D i} d j b l h hj hi hb => by
    have q := write_spec E d D (j : Int) b hb l (by have := h.pend; omega)
    rwa [h.up.write b (by rw [h.len]; omega)] at q
  have cblk : ∀ (P : Int) (t : BitVec 64) l, InL l sp snap.length sc (ints .u8 snap) → Fc prog E 46 [.int .i64 P, Q t, .slice sp snap.length sc].toArray l (fun v l' => v = .agg (encB (sbBlock ⟨P, t, snap.length, (sha snap).take 16⟩)).toArray ∧ l' = l) := fun P t l hi => rblock_spec E P t sp sc snap.length snap l rfl hi (by omega)
  have hk16 : ((sha snap).take 16).length = 16 := by rw [List.length_take, sha_length]; rfl
  obtain ⟨D', htk⟩ : ∃ D', snap.length ≤ 64 * H → takeS sb0 (Dk.new N).formatted snap = (nextS sb0 snap, D', 0) ∧ OpI N D' 0 := by
    by_cases h : snap.length ≤ 64 * H
    · obtain ⟨D', e, hT⟩ := takeS_up (s := sb0) (bs := snap) hu1 (by omega) (.inl rfl) (by omega)
      have hb := hI1.byt.takeS sb0 hsb
      rw [e] at hb
      exact ⟨D', fun _ => ⟨e, hT.up, hb, hT.len.trans hl1', by rw [hT.none]; exact Nat.le_refl 0⟩⟩
    · exact ⟨Dk.new N, fun h' => absurd h' h⟩
  have ctake : ∀ {D' : Dk} (st d : Nat) (q : Option Addr) (c : Nat) l, takeS sb0 (Dk.new N).formatted snap = (nextS sb0 snap, D', 0) → InL l q (0 + snap.length) c ([] ++ ints .u8 snap) → Fc prog E 45 [.pointer (some ⟨st, 0, none⟩), .slice q (0 + snap.length) c].toArray (row st 125 (scells sb0 d) :: disk d (Dk.new N).formatted :: l) (fun v l' => v = .int .i64 0 ∧ l' = row st 125 (scells (nextS sb0 snap) d) :: disk d D' :: l) := fun {D'} st d q c l he hi => by
    rw [Nat.zero_add] at hi ⊢
    have z := stake_spec E st d sb0 (Dk.new N).formatted q c snap l sb0_hash (by omega) (.inl rfl) (by rw [hp1]; decide) hi
    rwa [he] at z
  have hbl : ∀ (P : Int) (t : BitVec 64), (sbBlock ⟨P, t, snap.length, (sha snap).take 16⟩).length = 64 := fun P t => sbBlock_length hk16
  have hbE : ∀ (P : Int) (t : BitVec 64), (encB (sbBlock ⟨P, t, snap.length, (sha snap).take 16⟩)).length = 64 := fun P t => (encB_length _).trans (hbl P t)
  have hbB : ∀ (P : Int) (t : BitVec 64), Bytes (sbBlock ⟨P, t, snap.length, (sha snap).take 16⟩) := fun P t => Bytes.sbBlock ((Bytes.sha _).take _)
  have csec : ∀ {D : Dk} {i : Nat} (d : Nat) l, OpI N D i → i ≤ 100 → Fc prog E 39 [.pointer (some ⟨d, 0, none⟩)].toArray (disk d D :: l)
      (fun v l' => ∃ g c, v = .tuple #[.agg #[.slice (some ⟨g, 0, none⟩) N c], .bool true] ∧ N ≤ c ∧ c ≤ maxLen ∧ l' = own 27 64 (.slice (some ⟨g, 0, none⟩) N c) N (D.cur.flatMap encB) :: disk d D :: l) := fun {D i} d l h hi => by
    have q := sectors_spec E d D l h.up.dead (by have := h.pend; omega)
    rw [h.len] at q
    exact q.know fun v l' w ⟨a, c, h1, h2⟩ s => by
      subst h1
      subst h2
      have o := s.own_at
      obtain ⟨g, rfl⟩ := o.at_.resolve_right fun ⟨h0, _⟩ => by have := o.le; omega
      exact ⟨g, c, rfl, o.le, o.most, rfl⟩
  have csame : ∀ (p q : Option Addr) (c1 c2 : Nat) (w : List Int) l, w.length ≤ 70368744177000 → InL l p w.length c1 (ints .u8 w) → InL l q w.length c2 (ints .u8 w) → Fc prog E 51 [.slice p w.length c1, .slice q w.length c2].toArray l (fun v l' => v = .bool true ∧ l' = l) := fun p q c1 c2 w l hw h1 h2 => by
    have h := rsame_spec E p q c1 c2 w w l h1 h2 (by omega) (by omega)
    simpa using h
  refine Fc.of_body (c := ?codeC) Try.func10 ?hb Try.ntmps10 ?hl ?_
  case hb => exact rfl
  case hl => exact rfl
  refine J.seq ?_
  refine J.region ?_
  refine JL.loud rfl (l_box rfl (by (first | rfl | simp)) rfl (fun bx => ?_))
  refine JL.step (y_assign rfl) rfl rfl rfl ?_
  refine JL.nil ?_
  refine JE.then_normal ?_
  refine J.seq ?_
  refine J.seq ?_
  refine J.region ?_
  refine JL.loud rfl (l_callF e37 rfl rfl (wakes11_spec E _) ?_)
  rintro _ _ ⟨rfl, rfl⟩
  refine JL.step (y_not rfl) rfl rfl rfl ?_
  refine JL.nil ?_
  refine JE.then_normal ?_
  refine J.cond_f rfl (by (first | rfl | assumption | (simp; done) | (simp; omega))) ?_
  refine J.skip ?_
  refine JE.then_normal ?_
  refine J.seq ?_
  refine J.region ?_
  refine JL.step (y_fieldAddr hT rfl rfl rfl rfl rfl rfl) rfl rfl rfl ?_
  refine JL.step (y_load1 hT rfl rfl rfl (by (exact Rd1.row (by (repeat (first | exact Pick.head | apply Pick.tail | apply Pick.app))) (by rfl)))) rfl rfl rfl ?_
  refine JL.step (y_max2 rfl rfl rfl) rfl rfl rfl ?_
  refine JL.step (y_rem rfl rfl (by decide) hm) rfl rfl rfl ?_
  refine JL.step (y_add (m := (N : Int)) rfl rfl (by rw [show (64 : Int) + (m : Int) = (N : Int) by omega]; exact wrap_i64 (by omega) (by omega))) rfl rfl rfl ?_
  refine JL.loud rfl (l_callF e21 rfl rfl (new_good E N _ (by omega) (by omega)) ?_)
  rintro _ _ ⟨d, rfl, rfl⟩
  refine JL.step (y_move rfl) rfl rfl rfl (JL.step (y_extract rfl rfl) rfl rfl rfl (JL.step (y_extract rfl rfl) rfl rfl rfl (JL.step (y_assign rfl) rfl rfl rfl (JL.step (y_assign rfl) rfl rfl rfl ?_))))
  refine JL.nil ?_
  refine JE.then_normal ?_
  refine J.seq ?_
  refine J.seq ?_
  refine J.region ?_
  refine JL.step (y_move rfl) rfl rfl rfl (JL.step (y_neq rfl rfl) rfl rfl rfl ?_)
  refine JL.nil ?_
  refine JE.then_normal ?_
  refine J.cond_f rfl (by (first | rfl | assumption | (simp; done) | (simp; omega))) ?_
  refine J.skip ?_
  refine JE.then_normal ?_
  refine J.seq ?_
  refine J.seq ?_
  refine J.region ?_
  refine JL.step (y_fieldAddr hT rfl rfl rfl rfl rfl rfl) rfl rfl rfl ?_
  refine JL.step (y_load1 hT rfl rfl rfl (by (exact Rd1.row (by (repeat (first | exact Pick.head | apply Pick.tail | apply Pick.app))) (by rfl)))) rfl rfl rfl ?_
  refine JL.nil ?_
  refine JE.then_normal ?_
  first | apply J.cond_dec rfl | apply J.cond rfl
  case' ht =>
    intro h
    try (first | (exfalso; omega) | (cases h; done) | (exfalso; simp at h; done) | subst h)
    all_goals
      refine J.seq ?_
      refine J.region ?_
      refine JL.step (y_move rfl) rfl rfl rfl ?_
      refine JL.loud rfl (l_callF e38 rfl rfl (Fc.on (Split.cons (by (repeat (first | exact Pick.head | apply Pick.tail | apply Pick.app))) Split.nil) (hfmt d _)) ?_)
      rintro _ _ ⟨st, rfl, rfl⟩
      refine JL.step (y_move rfl) rfl rfl rfl (JL.step (y_extract rfl rfl) rfl rfl rfl (JL.step (y_extract rfl rfl) rfl rfl rfl (JL.step (y_assign rfl) rfl rfl rfl (JL.step (y_assign rfl) rfl rfl rfl ?_))))
      refine JL.nil ?_
      refine JE.then_normal ?_
      refine J.seq ?_
      rcases Nat.lt_or_ge (64 * H) snap.length with hlong | hshort
      all_goals
        first
          | (have zz := hlong
             refine J.draw _ _ [(0, .q), (1, .q), (2, .q), (3, .q), (4, .q), (5, .q), (6, .q), (7, .e), (8, .q), (9, .q), (10, .q), (12, .q), (13, .q), (11, .q), (14, .q), (15, .q), (16, .q), (17, .q), (18, .q)] mixed (by kernel_rfl) (Split.cons (Pick.head) (Split.cons (Pick.head) (Split.nil))) ?_)
          | refine J.draw _ _ [(0, .q), (1, .q), (2, .q), (3, .q), (4, .q), (5, .q), (6, .q), (7, .e), (8, .q), (9, .q), (10, .q), (12, .q), (13, .q), (11, .l), (14, .l), (15, .l), (16, .q), (17, .q), (18, .q)] mixed (by kernel_rfl) (Split.cons (Pick.head) (Split.cons (Pick.head) (Split.nil))) ?_
        refine JM.quiet rfl rfl rfl rfl (fun m => y_move rfl) ?_
        refine JM.quiet rfl rfl rfl rfl (fun m => y_neq rfl rfl) ?_
        refine JM.quiet rfl rfl rfl rfl (fun m => y_move rfl) ?_
        all_goals (first | refine JM.gskip rfl rfl rfl rfl rfl rfl rfl ?_ | refine JM.gskipU rfl rfl rfl rfl rfl rfl ?_ | refine JM.gquiet rfl rfl rfl rfl rfl rfl (fun m => y_fieldAddr hT rfl rfl rfl rfl rfl rfl) ?_)
        all_goals (first | refine JM.gskip rfl rfl rfl rfl rfl rfl rfl ?_ | refine JM.gskipU rfl rfl rfl rfl rfl rfl ?_ | refine JM.gquiet rfl rfl rfl rfl rfl rfl (fun m => y_load1 hT rfl rfl rfl (by (exact Rd1.row (Pick.app m (by (repeat (first | exact Pick.head | apply Pick.tail | apply Pick.app)))) (by rfl)))) ?_)
        all_goals (first | refine JM.gskip rfl rfl rfl rfl rfl rfl rfl ?_ | refine JM.gskipU rfl rfl rfl rfl rfl rfl ?_ | refine JM.gquiet rfl rfl rfl rfl rfl rfl (fun m => y_len_slice hT rfl rfl rfl) ?_)
        all_goals (first | refine JM.gskip rfl rfl rfl rfl rfl rfl rfl ?_ | refine JM.gskipU rfl rfl rfl rfl rfl rfl ?_ | refine JM.gquiet rfl rfl rfl rfl rfl rfl (fun m => y_move rfl) ?_)
        refine JM.gearly rfl rfl rfl rfl rfl rfl (fun fr => y_callF e44 rfl (Fc.still (p := [row st 125 (scells sb0 d), disk d (Dk.new N).formatted]) (Split.cons (by (repeat (first | exact Pick.head | apply Pick.tail | apply Pick.app))) (Split.cons (by (repeat (first | exact Pick.head | apply Pick.tail | apply Pick.app))) Split.nil)) (croom st d _))) ?_
        first | refine JM.gquiet rfl rfl rfl rfl rfl rfl (fun m => y_leqB rfl rfl (decide_eq_true (by omega))) ?_ | refine JM.gquiet rfl rfl rfl rfl rfl rfl (fun m => y_leqB rfl rfl (decide_eq_false (by omega))) ?_
        all_goals (first | refine JM.gskip rfl rfl rfl rfl rfl rfl rfl ?_ | refine JM.gskipU rfl rfl rfl rfl rfl rfl ?_ | refine JM.gquiet rfl rfl rfl rfl rfl rfl (fun m => y_move rfl) ?_)
        all_goals (first | refine JM.gskip rfl rfl rfl rfl rfl rfl rfl ?_ | refine JM.gskipU rfl rfl rfl rfl rfl rfl ?_ | refine JM.gquiet rfl rfl rfl rfl rfl rfl (fun m => y_move rfl) ?_)
        all_goals (first | refine JM.gskip rfl rfl rfl rfl rfl rfl rfl ?_ | refine JM.gskipU rfl rfl rfl rfl rfl rfl ?_ | refine JM.gquiet rfl rfl rfl rfl rfl rfl (fun m => y_fieldAddr hT rfl rfl rfl rfl rfl rfl) ?_)
        all_goals (first | refine JM.gskip rfl rfl rfl rfl rfl rfl rfl ?_ | refine JM.gskipU rfl rfl rfl rfl rfl rfl ?_ | refine JM.gquiet rfl rfl rfl rfl rfl rfl (fun m => y_load1 hT rfl rfl rfl (by (exact Rd1.row (Pick.app m (by (repeat (first | exact Pick.head | apply Pick.tail | apply Pick.app)))) (by rfl)))) ?_)
        first | refine JM.gskip rfl rfl rfl rfl rfl rfl rfl ?_ | refine JM.gskipU rfl rfl rfl rfl rfl rfl ?_ | (refine JM.gloud rfl rfl rfl rfl (fun fr => l_buildSlice0 hT rfl rfl rfl rfl (fun b4 => ⟨[_, _, _], (by (repeat (first | exact Split.nil | exact Split.all | refine Split.cons Pick.head ?_))), ?_⟩)))
        first | refine JM.gskip rfl rfl rfl rfl rfl rfl rfl ?_ | refine JM.gskipU rfl rfl rfl rfl rfl rfl ?_ | refine JM.gloud rfl rfl rfl rfl (fun fr => l_appendIn hT rfl rfl rfl rfl rfl rfl rfl rfl (by (repeat (first | exact Pick.head | apply Pick.tail | apply Pick.app))) (by (repeat (first | assumption | apply InL.cons | apply InL.app))) (by rw [show i5.size = 1 from rfl]; simp [ints]) (ints_one _ _) (by rw [show i5.bytes = 1 from rfl]; omega) (by omega) rfl (fun qa qc hqc => ⟨[_, _, _], (by (repeat (first | exact Split.nil | exact Split.all | refine Split.cons Pick.head ?_))), ?_⟩))
        first | refine JM.gskip rfl rfl rfl rfl rfl rfl rfl ?_ | refine JM.gskipU rfl rfl rfl rfl rfl rfl ?_ | (refine JM.gloud rfl rfl rfl rfl (fun fr => l_callF e45 rfl rfl (Fc.fact (p := OwnAt qa (0 + snap.length) qc ([] ++ ints .u8 snap)) (fun w s => Sat.own_at (s.pick (by (repeat (first | exact Pick.head | apply Pick.tail | apply Pick.app))))) fun ok => Fc.on (Split.cons (by (repeat (first | exact Pick.head | apply Pick.tail | apply Pick.app))) (Split.cons (by (repeat (first | exact Pick.head | apply Pick.tail | apply Pick.app))) Split.nil)) (ctake st d qa qc _ (htk hshort).1 (ok.inl (by (repeat (first | exact Pick.head | apply Pick.tail | apply Pick.app)))))) ?_); rintro _ _ ⟨rfl, rfl⟩; refine ⟨[_, _, _], (by (repeat (first | exact Split.nil | exact Split.all | refine Split.cons Pick.head ?_))), ?_⟩)
        all_goals (first | refine JM.gskip rfl rfl rfl rfl rfl rfl rfl ?_ | refine JM.gskipU rfl rfl rfl rfl rfl rfl ?_ | refine JM.gquiet rfl rfl rfl rfl rfl rfl (fun m => y_neq rfl rfl) ?_)
        all_goals (first | refine JM.gskip rfl rfl rfl rfl rfl rfl rfl ?_ | refine JM.gskipU rfl rfl rfl rfl rfl rfl ?_ | refine JM.gquiet rfl rfl rfl rfl rfl rfl (fun m => y_pick rfl rfl rfl) ?_)
        all_goals refine JM.quiet rfl rfl rfl rfl (fun m => y_pick rfl rfl rfl) ?_
        all_goals refine JM.nil ?_
      all_goals refine JE.then_normal ?_
      all_goals
        refine J.cond_f rfl (by (first | rfl | assumption | (simp; done) | (simp; omega))) ?_
        refine J.skip ?_
  case' hf =>
    intro h
    try (first | (exfalso; omega) | (cases h; done) | (exfalso; simp at h; done) | subst h)
    all_goals
      have hnof := trivial
      refine J.skip ?_
  all_goals refine JE.then_normal ?_
  all_goals
    refine J.seq ?_
    refine J.seq ?_
    first
      | (have zz := hnof
         obtain ⟨D1, eD, hID⟩ : ∃ D1, Dk.new N = D1 ∧ OpI N D1 0 := ⟨_, rfl, hI0⟩
         rw [eD]
         refine J.pre (l' := disk d D1 :: row bx 76 [.int .i64 more, .bool _, .slice sp snap.length sc, .slice wp ws.length wc] :: r) (fun w q => q.sup (by (repeat (first | exact Sup.refl | apply Sup.cons (by (repeat (first | exact Pick.head | apply Pick.tail | apply Pick.app))) | apply Sup.app | apply Sup.skip | apply Sup.skips)))) ?_)
      | (have zz := hlong
         obtain ⟨D1, eD, hID⟩ : ∃ D1, (Dk.new N).formatted = D1 ∧ OpI N D1 0 := ⟨_, rfl, hI1⟩
         rw [eD]
         refine J.pre (l' := disk d D1 :: row bx 76 [.int .i64 more, .bool _, .slice sp snap.length sc, .slice wp ws.length wc] :: r) (fun w q => q.sup (by (repeat (first | exact Sup.refl | apply Sup.cons (by (repeat (first | exact Pick.head | apply Pick.tail | apply Pick.app))) | apply Sup.app | apply Sup.skip | apply Sup.skips)))) ?_)
      | (have zz := hshort
         obtain ⟨D1, eD, hID⟩ : ∃ D1, D' = D1 ∧ OpI N D1 0 := ⟨_, rfl, (htk hshort).2⟩
         rw [eD]
         refine J.pre (l' := disk d D1 :: row bx 76 [.int .i64 more, .bool _, .slice sp snap.length sc, .slice wp ws.length wc] :: r) (fun w q => q.sup (by (repeat (first | exact Sup.refl | apply Sup.cons (by (repeat (first | exact Pick.head | apply Pick.tail | apply Pick.app))) | apply Sup.app | apply Sup.skip | apply Sup.skips)))) ?_)
    refine J.region ?_
    refine JL.step (y_fieldAddr hT rfl rfl rfl rfl rfl rfl) rfl rfl rfl ?_
    refine JL.step (y_load1 hT rfl rfl rfl (by (exact Rd1.row (by (repeat (first | exact Pick.head | apply Pick.tail | apply Pick.app))) (by rfl)))) rfl rfl rfl ?_
    refine JL.step (y_len_slice hT rfl rfl rfl) rfl rfl rfl (JL.step (y_move rfl) rfl rfl rfl ?_)
    refine JL.nil ?_
    refine JE.then_normal ?_
    refine J.block ?_
    refine J.loop (α := Nat × Dk) (fun s => s.1 ≤ ws.length ∧ s.1 ≤ 8 ∧ OpI N s.2 s.1) (fun s => [(1, .pointer (some ⟨bx, 0, none⟩)), (3, .pointer (some ⟨d, 0, none⟩)), (61, .slice wp ws.length wc), (62, .int .i64 ws.length), (63, .int .i64 s.1)]) (fun s => disk d s.2 :: row bx 76 [.int .i64 more, .bool _, .slice sp snap.length sc, .slice wp ws.length wc] :: r) (fun s => ws.length - s.1) (0, D1) ⟨Nat.zero_le _, Nat.zero_le _, hID⟩ ⟨rfl, rfl, rfl, rfl, rfl, trivial⟩ (fun w h => h) ?_
    rintro ⟨i, D⟩ ⟨hi, hi8, hI⟩
    dsimp only at hi hi8 hI ⊢
    refine J.seq ?_
    refine J.region ?_
    refine JL.step (y_lss rfl rfl) rfl rfl rfl ?_
    refine JL.nil ?_
    refine JE.then_normal ?_
    refine J.seq ?_
    first | apply J.cond_dec rfl | apply J.cond rfl
    case' ht =>
      intro h
      try (first | (exfalso; omega) | (cases h; done) | (exfalso; simp at h; done) | subst h)
      all_goals
        refine J.skip ?_
    case' hf =>
      intro h
      try (first | (exfalso; omega) | (cases h; done) | (exfalso; simp at h; done) | subst h)
      all_goals
        refine J.exit ?_
        refine JE.then_exit ?_
        refine JE.then_exit ?_
        refine JE.block_exit ?_
        refine JE.then_normal ?_
        refine J.seq ?_
        obtain ⟨kb, hkb⟩ : ∃ kb : Bool, kb = true ↔ Good D := by
          by_cases h : Good D
          · exact ⟨true, by simp [h]⟩
          · exact ⟨false, by simp [h]⟩
        refine J.region ?_
        refine JL.step (y_move rfl) rfl rfl rfl ?_
        refine JL.loud rfl (l_callF e39 rfl rfl (Fc.on (Split.cons (by (repeat (first | exact Pick.head | apply Pick.tail | apply Pick.app))) Split.nil) (csec d _ hI (by omega))) ?_)
        rintro _ _ ⟨sa, sc2, rfl, hsc1, hsc2, rfl⟩
        refine JL.step (y_move rfl) rfl rfl rfl (JL.step (y_extract rfl rfl) rfl rfl rfl (JL.step (y_extract rfl rfl) rfl rfl rfl ?_))
        refine JL.loud rfl (l_alloc hT rfl rfl (by (first | rfl | simp)) rfl (fun b7 => ?_))
        refine JL.loud rfl (l_storeAll hT rfl rfl rfl (by (first | rfl | assumption | (simp; done) | omega)) (by (first | assumption | exact ones_of rfl | exact encW_one _ | exact encB_one _ | (intro u hu; simp at hu; rcases hu with rfl | rfl <;> rfl) | (intro u hu; simp at hu; subst hu; rfl) | simp)) (by (repeat (first | exact Pick.head | apply Pick.tail | apply Pick.app))) (by (first | rfl | assumption | (simp; done) | omega)) ?_)
        refine JL.step (y_assign rfl) rfl rfl rfl ?_
        refine JL.nil ?_
        refine JE.then_normal ?_
        refine J.seq ?_
        refine J.region ?_
        refine JL.step (y_loadN hT rfl rfl rfl (by (first | exact RdN.rowAll (by (repeat (first | exact Pick.head | apply Pick.tail | apply Pick.app))) | exact RdN.own (by (repeat (first | exact Pick.head | apply Pick.tail | apply Pick.app))))) (by (first | rfl | assumption | (simp; done) | omega))) rfl rfl rfl ?_
        refine JL.loud rfl (l_callF e48 rfl rfl (osnap_spec E D hI.up.ok hI.up.dead (by rw [hI.len]; omega) kb hkb hI.byt N hI.len (some ⟨sa, 0, none⟩) sc2 _ ⟨hsc1, hsc2, .inl ⟨sa, 0, rfl, fun m => RdN.own (Pick.app m (by (repeat (first | exact Pick.head | apply Pick.tail | apply Pick.app))))⟩⟩) ?_)
        rintro _ _ ⟨wa, wm, wcc, g1, rfl, rfl, hgood⟩
        refine JL.step (y_move rfl) rfl rfl rfl (JL.step (y_extract rfl rfl) rfl rfl rfl (JL.step (y_extract rfl rfl) rfl rfl rfl (JL.step (y_assign rfl) rfl rfl rfl (JL.step (y_assign rfl) rfl rfl rfl ?_))))
        refine JL.nil ?_
        refine JE.then_normal ?_
        refine J.seq ?_
        refine J.region ?_
        refine JL.step (y_move rfl) rfl rfl rfl ?_
        refine JL.loud rfl (l_callF e49 rfl rfl (Fc.on (Split.cons (by (repeat (first | exact Pick.head | apply Pick.tail | apply Pick.app))) Split.nil) (oopen_spec E D hI.up.dead (by rw [hI.len]; omega) kb hkb d _ (by have := hI.pend; omega))) ?_)
        rintro _ _ ⟨pv, e, g2, rfl, rfl, ho1, ho2⟩
        refine JL.step (y_move rfl) rfl rfl rfl (JL.step (y_extract rfl rfl) rfl rfl rfl (JL.step (y_extract rfl rfl) rfl rfl rfl (JL.step (y_assign rfl) rfl rfl rfl (JL.step (y_assign rfl) rfl rfl rfl ?_))))
        refine JL.nil ?_
        refine JE.then_normal ?_
        refine J.seq ?_
        refine J.seq ?_
        refine J.region ?_
        refine JL.step (y_move rfl) rfl rfl rfl (JL.step (y_not rfl) rfl rfl rfl ?_)
        refine JL.nil ?_
        refine JE.then_normal ?_
        refine J.cond_f rfl (by (first | rfl | assumption | (simp; done) | (simp; omega))) ?_
        refine J.skip ?_
        refine JE.then_normal ?_
        refine J.seq ?_
        refine J.seq ?_
        refine J.region ?_
        refine JL.step (y_move rfl) rfl rfl rfl (JL.step (y_not rfl) rfl rfl rfl ?_)
        refine JL.nil ?_
        refine JE.then_normal ?_
        first | apply J.cond_dec rfl | apply J.cond rfl
        case' ht =>
          intro h
          try (first | (exfalso; omega) | (cases h; done) | (exfalso; simp at h; done) | subst h)
          all_goals
            have hb : kb = false := by simpa using h
            obtain ⟨rfl, rfl, rfl⟩ := ho2 hb
            refine J.seq ?_
            refine J.region ?_
            refine JL.step (y_move rfl) rfl rfl rfl (JL.step (y_ptr_eq_nil hT rfl rfl rfl rfl) rfl rfl rfl (JL.step (y_move rfl) rfl rfl rfl ?_))
            all_goals (first | (refine JL.gsplit_dec rfl rfl rfl (fun h => ?_) (fun h => ?_) <;> try (first | (exfalso; omega) | exact absurd rfl h)) | (refine JL.gsplit rfl rfl rfl (fun h => ?_) (fun h => ?_) <;> try (first | cases h | (exfalso; simp at h; done))) | skip)
            all_goals (first | refine JL.gskip rfl rfl rfl rfl rfl rfl ?_ | refine JL.gskipU rfl rfl rfl rfl rfl ?_ | refine JL.gstep rfl rfl rfl (y_move rfl) rfl rfl ?_)
            all_goals (first | refine JL.gskip rfl rfl rfl rfl rfl rfl ?_ | refine JL.gskipU rfl rfl rfl rfl rfl ?_ | refine JL.gstep rfl rfl rfl (y_eql rfl rfl) rfl rfl ?_)
            all_goals (refine JL.step (y_pick rfl rfl rfl) rfl rfl rfl ?_)
            all_goals (refine JL.step (y_assign rfl) rfl rfl rfl ?_)
            all_goals refine JL.nil ?_
            all_goals refine JE.then_normal ?_
            all_goals
              refine J.ret ?_
              refine JE.then_ret ?_
              refine JE.ret1 (.inl rfl) rfl rfl (by (first | exact RV.tmp rfl | exact RV.cell1 hT rfl rfl rfl (by (exact Rd1.row (by (repeat (first | exact Pick.head | apply Pick.tail | apply Pick.app))) (by rfl))) | exact RV.cellN hT rfl rfl rfl (by (first | exact RdN.rowAll (by (repeat (first | exact Pick.head | apply Pick.tail | apply Pick.app))) | exact RdN.own (by (repeat (first | exact Pick.head | apply Pick.tail | apply Pick.app))))) (by (first | rfl | assumption | (simp; done) | omega)))) ?_
              first
                | (have zz := hsX
                   refine ⟨?_, fun w q => q.sup (by (repeat (first | exact Sup.refl | apply Sup.cons (by (repeat (first | exact Pick.head | apply Pick.tail | apply Pick.app))) | apply Sup.app | apply Sup.skip | apply Sup.skips)))⟩
                   rw [hsX]
                   exact congrArg Value.bool (decide_eq_true rfl))
                | exact ⟨rfl, fun w q => q.sup (by (repeat (first | exact Sup.refl | apply Sup.cons (by (repeat (first | exact Pick.head | apply Pick.tail | apply Pick.app))) | apply Sup.app | apply Sup.skip | apply Sup.skips)))⟩
        case' hf =>
          intro h
          try (first | (exfalso; omega) | (cases h; done) | (exfalso; simp at h; done) | subst h)
          all_goals
            have hb : kb = true := by simpa using h
            obtain ⟨s, hc, hsz, hsh⟩ := hkb.1 hb
            obtain ⟨st2, rfl, rfl, rfl⟩ := ho1 hb s hc
            obtain ⟨rfl, rfl⟩ := hgood hb s hc
            obtain ⟨hkX, hsX⟩ := counts_some hc
            refine J.skip ?_
        all_goals refine JE.then_normal ?_
        all_goals
          refine J.seq ?_
          have hfits := counts_fits hI.up.ok (by rw [hI.len]; omega) hc hsz
          have hsl2 := snapS_length hI.up.ok s
          refine J.region ?_
          refine JL.step (y_move rfl) rfl rfl rfl ?_
          refine JL.loud rfl (l_callF e50 rfl rfl (Fc.on (Split.cons (by (repeat (first | exact Pick.head | apply Pick.tail | apply Pick.app))) (Split.cons (by (repeat (first | exact Pick.head | apply Pick.tail | apply Pick.app))) Split.nil)) (snapshot_ok E st2 d s D (snapS s D) _ hfits hI.up.dead (by have := hI.pend; omega) rfl hsl2.symm hsh)) ?_)
          rintro _ _ ⟨ga, gc, rfl, rfl⟩
          refine JL.step (y_move rfl) rfl rfl rfl (JL.step (y_extract rfl rfl) rfl rfl rfl (JL.step (y_extract rfl rfl) rfl rfl rfl (JL.step (y_assign rfl) rfl rfl rfl (JL.step (y_assign rfl) rfl rfl rfl ?_))))
          refine JL.nil ?_
          refine JE.then_normal ?_
          refine J.seq ?_
          refine J.fact (p := OwnAt ga (snapS s D).length gc (ints .u8 (snapS s D))) (fun w q => q.own_at) fun og => J.fact (p := OwnAt wa (snapS s D).length wcc (ints .u8 (snapS s D))) (fun w q => Sat.own_at (q.pick (by (repeat (first | exact Pick.head | apply Pick.tail | apply Pick.app))))) fun ow => ?_
          refine J.draw _ _ [(0, .q), (1, .q), (2, .q), (3, .q), (4, .q), (5, .q), (6, .q), (7, .q), (8, .q), (9, .q), (10, .q), (11, .q), (12, .q), (13, .q), (14, .q), (15, .l), (16, .q), (17, .q), (18, .q), (19, .q)] mixed (by kernel_rfl) (Split.nil) ?_
          refine JM.quiet rfl rfl rfl rfl (fun m => y_move rfl) ?_
          refine JM.quiet rfl rfl rfl rfl (fun m => y_eql rfl rfl) ?_
          refine JM.quiet rfl rfl rfl rfl (fun m => y_move rfl) ?_
          all_goals (first | refine JM.gskip rfl rfl rfl rfl rfl rfl rfl ?_ | refine JM.gskipU rfl rfl rfl rfl rfl rfl ?_ | refine JM.gquiet rfl rfl rfl rfl rfl rfl (fun m => y_move rfl) ?_)
          all_goals (first | refine JM.gskip rfl rfl rfl rfl rfl rfl rfl ?_ | refine JM.gskipU rfl rfl rfl rfl rfl rfl ?_ | refine JM.gquiet rfl rfl rfl rfl rfl rfl (fun m => y_eql rfl rfl) ?_)
          all_goals refine JM.quiet rfl rfl rfl rfl (fun m => y_pick rfl rfl rfl) ?_
          all_goals refine JM.quiet rfl rfl rfl rfl (fun m => y_move rfl) ?_
          all_goals (first | refine JM.gskip rfl rfl rfl rfl rfl rfl rfl ?_ | refine JM.gskipU rfl rfl rfl rfl rfl rfl ?_ | refine JM.gquiet rfl rfl rfl rfl rfl rfl (fun m => y_move rfl) ?_)
          all_goals (first | refine JM.gskip rfl rfl rfl rfl rfl rfl rfl ?_ | refine JM.gskipU rfl rfl rfl rfl rfl rfl ?_ | refine JM.gquiet rfl rfl rfl rfl rfl rfl (fun m => y_move rfl) ?_)
          all_goals (first | refine JM.gskip rfl rfl rfl rfl rfl rfl rfl ?_ | refine JM.gskipU rfl rfl rfl rfl rfl rfl ?_ | refine JM.gquiet rfl rfl rfl rfl rfl rfl (fun m => y_callF e51 rfl (csame _ _ _ _ (snapS s D) _ (by have := hfits.hi; have := hI.up.ok.most; have := half_le D hfits.two; omega) (og.inl (Pick.app m (by (repeat (first | exact Pick.head | apply Pick.tail | apply Pick.app))))) (ow.inl (Pick.app m (by (repeat (first | exact Pick.head | apply Pick.tail | apply Pick.app))))))) ?_)
          all_goals refine JM.quiet rfl rfl rfl rfl (fun m => y_pick rfl rfl rfl) ?_
          all_goals refine JM.quiet rfl rfl rfl rfl (fun m => y_move rfl) ?_
          all_goals (first | refine JM.gskip rfl rfl rfl rfl rfl rfl rfl ?_ | refine JM.gskipU rfl rfl rfl rfl rfl rfl ?_ | refine JM.gquiet rfl rfl rfl rfl rfl rfl (fun m => y_move rfl) ?_)
          all_goals (first | refine JM.gskip rfl rfl rfl rfl rfl rfl rfl ?_ | refine JM.gskipU rfl rfl rfl rfl rfl rfl ?_ | refine JM.gquiet rfl rfl rfl rfl rfl rfl (fun m => y_callF e52 rfl (Fc.still (p := [row st2 125 (scells s d), disk d D]) (Split.cons (Pick.app m (by (repeat (first | exact Pick.head | apply Pick.tail | apply Pick.app)))) (Split.cons (Pick.app m (by (repeat (first | exact Pick.head | apply Pick.tail | apply Pick.app)))) Split.nil)) (turn_spec E st2 d s D _ hfits.hash))) ?_)
          all_goals (first | refine JM.gskip rfl rfl rfl rfl rfl rfl rfl ?_ | refine JM.gskipU rfl rfl rfl rfl rfl rfl ?_ | refine JM.gquiet rfl rfl rfl rfl rfl rfl (fun m => y_loadN hT rfl rfl rfl (by (first | exact RdN.rowAll (Pick.app m (by (repeat (first | exact Pick.head | apply Pick.tail | apply Pick.app)))) | exact RdN.own (Pick.app m (by (repeat (first | exact Pick.head | apply Pick.tail | apply Pick.app)))))) (by (first | rfl | assumption | (simp; done) | omega))) ?_)
          refine JM.gloud rfl rfl rfl rfl (fun fr => l_callF e53 rfl rfl (rcounts_known E (some ⟨sa, 0, none⟩) N sc2 D.cur (D.find 0) (D.find 1) (rpick (D.find 0) (D.find 1)) _ ⟨hsc1, hsc2, .inl ⟨sa, 0, rfl, fun m => RdN.own (Pick.app m (by (repeat (first | exact Pick.head | apply Pick.tail | apply Pick.app))))⟩⟩ ((Dk.cur_length D).trans hI.len) (fun x hx => (encB_length x).symm.trans (hI.up.ok.curB x hx)) (Dk.cur_at (i := 0) (by rw [hI.len]; omega)) (Dk.cur_at (i := 1) (by rw [hI.len]; omega)) (hI.byt.find _) (hI.byt.find _) rfl true hkX) ?_)
          rintro _ _ ⟨cg, cc, rfl, _, _, rfl⟩
          refine ⟨[_], (by (repeat (first | exact Split.nil | exact Split.all | refine Split.cons Pick.head ?_))), ?_⟩
          all_goals (first | refine JM.gskip rfl rfl rfl rfl rfl rfl rfl ?_ | refine JM.gskipU rfl rfl rfl rfl rfl rfl ?_ | refine JM.gquiet rfl rfl rfl rfl rfl rfl (fun m => (by first | exact y_field1 hT rfl rfl rfl rfl rfl rfl rfl | exact y_fieldN hT rfl rfl rfl rfl rfl rfl (by rfl))) ?_)
          all_goals (first | refine JM.gskip rfl rfl rfl rfl rfl rfl rfl ?_ | refine JM.gskipU rfl rfl rfl rfl rfl rfl ?_ | refine JM.gquiet rfl rfl rfl rfl rfl rfl (fun m => y_eql rfl rfl) ?_)
          all_goals refine JM.quiet rfl rfl rfl rfl (fun m => y_pick rfl rfl rfl) ?_
          all_goals refine JM.quiet rfl rfl rfl rfl (fun m => y_assign rfl) ?_
          all_goals refine JM.nil ?_
          all_goals refine JE.then_normal ?_
          all_goals
            refine J.ret ?_
            refine JE.ret1 (.inl rfl) rfl rfl (by (first | exact RV.tmp rfl | exact RV.cell1 hT rfl rfl rfl (by (exact Rd1.row (by (repeat (first | exact Pick.head | apply Pick.tail | apply Pick.app))) (by rfl))) | exact RV.cellN hT rfl rfl rfl (by (first | exact RdN.rowAll (by (repeat (first | exact Pick.head | apply Pick.tail | apply Pick.app))) | exact RdN.own (by (repeat (first | exact Pick.head | apply Pick.tail | apply Pick.app))))) (by (first | rfl | assumption | (simp; done) | omega)))) ?_
            first
              | (have zz := hsX
                 refine ⟨?_, fun w q => q.sup (by (repeat (first | exact Sup.refl | apply Sup.cons (by (repeat (first | exact Pick.head | apply Pick.tail | apply Pick.app))) | apply Sup.app | apply Sup.skip | apply Sup.skips)))⟩
                 rw [hsX]
                 exact congrArg Value.bool (decide_eq_true rfl))
              | exact ⟨rfl, fun w q => q.sup (by (repeat (first | exact Sup.refl | apply Sup.cons (by (repeat (first | exact Pick.head | apply Pick.tail | apply Pick.app))) | apply Sup.app | apply Sup.skip | apply Sup.skips)))⟩
    all_goals refine JE.then_normal ?_
    all_goals
      refine J.seq ?_
      refine J.block ?_
      refine J.seq ?_
      refine J.region ?_
      have hlt : i < ws.length := by omega
      obtain ⟨gw, ow, rfl, hrw⟩ := hw.addr (by omega)
      have hrw0 : RdN r gw ow (ws.flatMap wEnc) := hrw []
      obtain ⟨x, hxi⟩ : ∃ x, ws[i]? = some x := ⟨_, List.getElem?_eq_getElem hlt⟩
      have hxo := hwo x (List.mem_of_getElem? hxi)
      have hx67 := wEnc_length hxo
      have hx1 := wEnc_one x
      have hx64 := hxo.turn
      obtain ⟨k, hkm, hk1⟩ := range_n x.at_ 40 (by decide)
      have hkm : (max x.at_ 0).tmod 40 = (k : Int) := hkm
      have hfb : (D.find (k : Int)).length = 64 := hI.up.ok.find ⟨by omega, by rw [hI.len]; omega⟩
      have hfe : (encB (D.find (k : Int))).length = 64 := (encB_length _).trans hfb
      have hsup : (wEnc x)[65]? = some (Value.bool x.sup) := by simp [wEnc, hx64]
      have hctr : (wEnc x)[66]? = some (Q x.ctr) := by simp [wEnc, hx64]
      have hturn : ((wEnc x).drop 1).take 64 = encB x.turn := by simp [wEnc, hx64]
      have hte : (encB x.turn).length = 64 := (encB_length _).trans hx64
      refine JL.step (y_move rfl) rfl rfl rfl ?_
      refine JL.step (y_indexAddr_slice hT rfl rfl rfl rfl rfl (by (first | omega | exact Nat.le_of_ble_eq_true rfl | decide | (simp; omega))) (by (first | omega | exact Nat.le_of_ble_eq_true rfl | decide | (simp; omega)))) rfl rfl rfl ?_
      refine JL.step (y_loadN hT rfl rfl rfl (RdN.elem (by (repeat (first | assumption | apply RdN.cons | apply RdN.app))) hwL hxi) hx67) rfl rfl rfl ?_
      refine JL.loud rfl (l_alloc hT rfl rfl (by (first | rfl | simp)) rfl (fun b8 => ?_))
      refine JL.step (y_assign rfl) rfl rfl rfl ?_
      refine JL.loud rfl (l_storeAll hT rfl rfl rfl (by (first | rfl | assumption | (simp; done) | omega)) (by (first | assumption | exact ones_of rfl | exact encW_one _ | exact encB_one _ | (intro u hu; simp at hu; rcases hu with rfl | rfl <;> rfl) | (intro u hu; simp at hu; subst hu; rfl) | simp)) (by (repeat (first | exact Pick.head | apply Pick.tail | apply Pick.app))) (by (first | rfl | assumption | (simp; done) | omega)) ?_)
      refine JL.nil ?_
      refine JE.then_normal ?_
      refine J.seq ?_
      refine J.seq ?_
      refine J.region ?_
      refine JL.step (y_move rfl) rfl rfl rfl (JL.step (y_eql rfl rfl) rfl rfl rfl ?_)
      refine JL.nil ?_
      refine JE.then_normal ?_
      first | apply J.cond_dec rfl | apply J.cond rfl
      case' ht =>
        intro h
        try (first | (exfalso; omega) | (cases h; done) | (exfalso; simp at h; done) | subst h)
        all_goals
          refine J.exit ?_
          refine JE.then_exit ?_
          refine JE.block_past rfl ?_
          refine JE.then_exit ?_
          refine JE.then_exit ?_
          refine JE.block_exit ?_
          refine JE.then_normal ?_
          refine J.seq ?_
          obtain ⟨kb, hkb⟩ : ∃ kb : Bool, kb = true ↔ Good D := by
            by_cases h : Good D
            · exact ⟨true, by simp [h]⟩
            · exact ⟨false, by simp [h]⟩
          refine J.region ?_
          refine JL.step (y_move rfl) rfl rfl rfl ?_
          refine JL.loud rfl (l_callF e39 rfl rfl (Fc.on (Split.cons (by (repeat (first | exact Pick.head | apply Pick.tail | apply Pick.app))) Split.nil) (csec d _ hI (by omega))) ?_)
          rintro _ _ ⟨sa, sc2, rfl, hsc1, hsc2, rfl⟩
          refine JL.step (y_move rfl) rfl rfl rfl (JL.step (y_extract rfl rfl) rfl rfl rfl (JL.step (y_extract rfl rfl) rfl rfl rfl ?_))
          refine JL.loud rfl (l_alloc hT rfl rfl (by (first | rfl | simp)) rfl (fun b15 => ?_))
          refine JL.loud rfl (l_storeAll hT rfl rfl rfl (by (first | rfl | assumption | (simp; done) | omega)) (by (first | assumption | exact ones_of rfl | exact encW_one _ | exact encB_one _ | (intro u hu; simp at hu; rcases hu with rfl | rfl <;> rfl) | (intro u hu; simp at hu; subst hu; rfl) | simp)) (by (repeat (first | exact Pick.head | apply Pick.tail | apply Pick.app))) (by (first | rfl | assumption | (simp; done) | omega)) ?_)
          refine JL.step (y_assign rfl) rfl rfl rfl ?_
          refine JL.nil ?_
          refine JE.then_normal ?_
          refine J.seq ?_
          refine J.region ?_
          refine JL.step (y_loadN hT rfl rfl rfl (by (first | exact RdN.rowAll (by (repeat (first | exact Pick.head | apply Pick.tail | apply Pick.app))) | exact RdN.own (by (repeat (first | exact Pick.head | apply Pick.tail | apply Pick.app))))) (by (first | rfl | assumption | (simp; done) | omega))) rfl rfl rfl ?_
          refine JL.loud rfl (l_callF e48 rfl rfl (osnap_spec E D hI.up.ok hI.up.dead (by rw [hI.len]; omega) kb hkb hI.byt N hI.len (some ⟨sa, 0, none⟩) sc2 _ ⟨hsc1, hsc2, .inl ⟨sa, 0, rfl, fun m => RdN.own (Pick.app m (by (repeat (first | exact Pick.head | apply Pick.tail | apply Pick.app))))⟩⟩) ?_)
          rintro _ _ ⟨wa, wm, wcc, g1, rfl, rfl, hgood⟩
          refine JL.step (y_move rfl) rfl rfl rfl (JL.step (y_extract rfl rfl) rfl rfl rfl (JL.step (y_extract rfl rfl) rfl rfl rfl (JL.step (y_assign rfl) rfl rfl rfl (JL.step (y_assign rfl) rfl rfl rfl ?_))))
          refine JL.nil ?_
          refine JE.then_normal ?_
          refine J.seq ?_
          refine J.region ?_
          refine JL.step (y_move rfl) rfl rfl rfl ?_
          refine JL.loud rfl (l_callF e49 rfl rfl (Fc.on (Split.cons (by (repeat (first | exact Pick.head | apply Pick.tail | apply Pick.app))) Split.nil) (oopen_spec E D hI.up.dead (by rw [hI.len]; omega) kb hkb d _ (by have := hI.pend; omega))) ?_)
          rintro _ _ ⟨pv, e, g2, rfl, rfl, ho1, ho2⟩
          refine JL.step (y_move rfl) rfl rfl rfl (JL.step (y_extract rfl rfl) rfl rfl rfl (JL.step (y_extract rfl rfl) rfl rfl rfl (JL.step (y_assign rfl) rfl rfl rfl (JL.step (y_assign rfl) rfl rfl rfl ?_))))
          refine JL.nil ?_
          refine JE.then_normal ?_
          refine J.seq ?_
          refine J.seq ?_
          refine J.region ?_
          refine JL.step (y_move rfl) rfl rfl rfl (JL.step (y_not rfl) rfl rfl rfl ?_)
          refine JL.nil ?_
          refine JE.then_normal ?_
          refine J.cond_f rfl (by (first | rfl | assumption | (simp; done) | (simp; omega))) ?_
          refine J.skip ?_
          refine JE.then_normal ?_
          refine J.seq ?_
          refine J.seq ?_
          refine J.region ?_
          refine JL.step (y_move rfl) rfl rfl rfl (JL.step (y_not rfl) rfl rfl rfl ?_)
          refine JL.nil ?_
          refine JE.then_normal ?_
          first | apply J.cond_dec rfl | apply J.cond rfl
          case' ht =>
            intro h
            try (first | (exfalso; omega) | (cases h; done) | (exfalso; simp at h; done) | subst h)
            all_goals
              have hb : kb = false := by simpa using h
              obtain ⟨rfl, rfl, rfl⟩ := ho2 hb
              refine J.seq ?_
              refine J.region ?_
              refine JL.step (y_move rfl) rfl rfl rfl (JL.step (y_ptr_eq_nil hT rfl rfl rfl rfl) rfl rfl rfl (JL.step (y_move rfl) rfl rfl rfl ?_))
              all_goals (first | (refine JL.gsplit_dec rfl rfl rfl (fun h => ?_) (fun h => ?_) <;> try (first | (exfalso; omega) | exact absurd rfl h)) | (refine JL.gsplit rfl rfl rfl (fun h => ?_) (fun h => ?_) <;> try (first | cases h | (exfalso; simp at h; done))) | skip)
              all_goals (first | refine JL.gskip rfl rfl rfl rfl rfl rfl ?_ | refine JL.gskipU rfl rfl rfl rfl rfl ?_ | refine JL.gstep rfl rfl rfl (y_move rfl) rfl rfl ?_)
              all_goals (first | refine JL.gskip rfl rfl rfl rfl rfl rfl ?_ | refine JL.gskipU rfl rfl rfl rfl rfl ?_ | refine JL.gstep rfl rfl rfl (y_eql rfl rfl) rfl rfl ?_)
              all_goals (refine JL.step (y_pick rfl rfl rfl) rfl rfl rfl ?_)
              all_goals (refine JL.step (y_assign rfl) rfl rfl rfl ?_)
              all_goals refine JL.nil ?_
              all_goals refine JE.then_normal ?_
              all_goals
                refine J.ret ?_
                refine JE.then_ret ?_
                refine JE.ret1 (.inl rfl) rfl rfl (by (first | exact RV.tmp rfl | exact RV.cell1 hT rfl rfl rfl (by (exact Rd1.row (by (repeat (first | exact Pick.head | apply Pick.tail | apply Pick.app))) (by rfl))) | exact RV.cellN hT rfl rfl rfl (by (first | exact RdN.rowAll (by (repeat (first | exact Pick.head | apply Pick.tail | apply Pick.app))) | exact RdN.own (by (repeat (first | exact Pick.head | apply Pick.tail | apply Pick.app))))) (by (first | rfl | assumption | (simp; done) | omega)))) ?_
                first
                  | (have zz := hsX
                     refine ⟨?_, fun w q => q.sup (by (repeat (first | exact Sup.refl | apply Sup.cons (by (repeat (first | exact Pick.head | apply Pick.tail | apply Pick.app))) | apply Sup.app | apply Sup.skip | apply Sup.skips)))⟩
                     rw [hsX]
                     exact congrArg Value.bool (decide_eq_true rfl))
                  | exact ⟨rfl, fun w q => q.sup (by (repeat (first | exact Sup.refl | apply Sup.cons (by (repeat (first | exact Pick.head | apply Pick.tail | apply Pick.app))) | apply Sup.app | apply Sup.skip | apply Sup.skips)))⟩
          case' hf =>
            intro h
            try (first | (exfalso; omega) | (cases h; done) | (exfalso; simp at h; done) | subst h)
            all_goals
              have hb : kb = true := by simpa using h
              obtain ⟨s, hc, hsz, hsh⟩ := hkb.1 hb
              obtain ⟨st2, rfl, rfl, rfl⟩ := ho1 hb s hc
              obtain ⟨rfl, rfl⟩ := hgood hb s hc
              obtain ⟨hkX, hsX⟩ := counts_some hc
              refine J.skip ?_
          all_goals refine JE.then_normal ?_
          all_goals
            refine J.seq ?_
            have hfits := counts_fits hI.up.ok (by rw [hI.len]; omega) hc hsz
            have hsl2 := snapS_length hI.up.ok s
            refine J.region ?_
            refine JL.step (y_move rfl) rfl rfl rfl ?_
            refine JL.loud rfl (l_callF e50 rfl rfl (Fc.on (Split.cons (by (repeat (first | exact Pick.head | apply Pick.tail | apply Pick.app))) (Split.cons (by (repeat (first | exact Pick.head | apply Pick.tail | apply Pick.app))) Split.nil)) (snapshot_ok E st2 d s D (snapS s D) _ hfits hI.up.dead (by have := hI.pend; omega) rfl hsl2.symm hsh)) ?_)
            rintro _ _ ⟨ga, gc, rfl, rfl⟩
            refine JL.step (y_move rfl) rfl rfl rfl (JL.step (y_extract rfl rfl) rfl rfl rfl (JL.step (y_extract rfl rfl) rfl rfl rfl (JL.step (y_assign rfl) rfl rfl rfl (JL.step (y_assign rfl) rfl rfl rfl ?_))))
            refine JL.nil ?_
            refine JE.then_normal ?_
            refine J.seq ?_
            refine J.fact (p := OwnAt ga (snapS s D).length gc (ints .u8 (snapS s D))) (fun w q => q.own_at) fun og => J.fact (p := OwnAt wa (snapS s D).length wcc (ints .u8 (snapS s D))) (fun w q => Sat.own_at (q.pick (by (repeat (first | exact Pick.head | apply Pick.tail | apply Pick.app))))) fun ow => ?_
            refine J.draw _ _ [(0, .q), (1, .q), (2, .q), (3, .q), (4, .q), (5, .q), (6, .q), (7, .q), (8, .q), (9, .q), (10, .q), (11, .q), (12, .q), (13, .q), (14, .q), (15, .l), (16, .q), (17, .q), (18, .q), (19, .q)] mixed (by kernel_rfl) (Split.nil) ?_
            refine JM.quiet rfl rfl rfl rfl (fun m => y_move rfl) ?_
            refine JM.quiet rfl rfl rfl rfl (fun m => y_eql rfl rfl) ?_
            refine JM.quiet rfl rfl rfl rfl (fun m => y_move rfl) ?_
            all_goals (first | refine JM.gskip rfl rfl rfl rfl rfl rfl rfl ?_ | refine JM.gskipU rfl rfl rfl rfl rfl rfl ?_ | refine JM.gquiet rfl rfl rfl rfl rfl rfl (fun m => y_move rfl) ?_)
            all_goals (first | refine JM.gskip rfl rfl rfl rfl rfl rfl rfl ?_ | refine JM.gskipU rfl rfl rfl rfl rfl rfl ?_ | refine JM.gquiet rfl rfl rfl rfl rfl rfl (fun m => y_eql rfl rfl) ?_)
            all_goals refine JM.quiet rfl rfl rfl rfl (fun m => y_pick rfl rfl rfl) ?_
            all_goals refine JM.quiet rfl rfl rfl rfl (fun m => y_move rfl) ?_
            all_goals (first | refine JM.gskip rfl rfl rfl rfl rfl rfl rfl ?_ | refine JM.gskipU rfl rfl rfl rfl rfl rfl ?_ | refine JM.gquiet rfl rfl rfl rfl rfl rfl (fun m => y_move rfl) ?_)
            all_goals (first | refine JM.gskip rfl rfl rfl rfl rfl rfl rfl ?_ | refine JM.gskipU rfl rfl rfl rfl rfl rfl ?_ | refine JM.gquiet rfl rfl rfl rfl rfl rfl (fun m => y_move rfl) ?_)
            all_goals (first | refine JM.gskip rfl rfl rfl rfl rfl rfl rfl ?_ | refine JM.gskipU rfl rfl rfl rfl rfl rfl ?_ | refine JM.gquiet rfl rfl rfl rfl rfl rfl (fun m => y_callF e51 rfl (csame _ _ _ _ (snapS s D) _ (by have := hfits.hi; have := hI.up.ok.most; have := half_le D hfits.two; omega) (og.inl (Pick.app m (by (repeat (first | exact Pick.head | apply Pick.tail | apply Pick.app))))) (ow.inl (Pick.app m (by (repeat (first | exact Pick.head | apply Pick.tail | apply Pick.app))))))) ?_)
            all_goals refine JM.quiet rfl rfl rfl rfl (fun m => y_pick rfl rfl rfl) ?_
            all_goals refine JM.quiet rfl rfl rfl rfl (fun m => y_move rfl) ?_
            all_goals (first | refine JM.gskip rfl rfl rfl rfl rfl rfl rfl ?_ | refine JM.gskipU rfl rfl rfl rfl rfl rfl ?_ | refine JM.gquiet rfl rfl rfl rfl rfl rfl (fun m => y_move rfl) ?_)
            all_goals (first | refine JM.gskip rfl rfl rfl rfl rfl rfl rfl ?_ | refine JM.gskipU rfl rfl rfl rfl rfl rfl ?_ | refine JM.gquiet rfl rfl rfl rfl rfl rfl (fun m => y_callF e52 rfl (Fc.still (p := [row st2 125 (scells s d), disk d D]) (Split.cons (Pick.app m (by (repeat (first | exact Pick.head | apply Pick.tail | apply Pick.app)))) (Split.cons (Pick.app m (by (repeat (first | exact Pick.head | apply Pick.tail | apply Pick.app)))) Split.nil)) (turn_spec E st2 d s D _ hfits.hash))) ?_)
            all_goals (first | refine JM.gskip rfl rfl rfl rfl rfl rfl rfl ?_ | refine JM.gskipU rfl rfl rfl rfl rfl rfl ?_ | refine JM.gquiet rfl rfl rfl rfl rfl rfl (fun m => y_loadN hT rfl rfl rfl (by (first | exact RdN.rowAll (Pick.app m (by (repeat (first | exact Pick.head | apply Pick.tail | apply Pick.app)))) | exact RdN.own (Pick.app m (by (repeat (first | exact Pick.head | apply Pick.tail | apply Pick.app)))))) (by (first | rfl | assumption | (simp; done) | omega))) ?_)
            refine JM.gloud rfl rfl rfl rfl (fun fr => l_callF e53 rfl rfl (rcounts_known E (some ⟨sa, 0, none⟩) N sc2 D.cur (D.find 0) (D.find 1) (rpick (D.find 0) (D.find 1)) _ ⟨hsc1, hsc2, .inl ⟨sa, 0, rfl, fun m => RdN.own (Pick.app m (by (repeat (first | exact Pick.head | apply Pick.tail | apply Pick.app))))⟩⟩ ((Dk.cur_length D).trans hI.len) (fun x hx => (encB_length x).symm.trans (hI.up.ok.curB x hx)) (Dk.cur_at (i := 0) (by rw [hI.len]; omega)) (Dk.cur_at (i := 1) (by rw [hI.len]; omega)) (hI.byt.find _) (hI.byt.find _) rfl true hkX) ?_)
            rintro _ _ ⟨cg, cc, rfl, _, _, rfl⟩
            refine ⟨[_], (by (repeat (first | exact Split.nil | exact Split.all | refine Split.cons Pick.head ?_))), ?_⟩
            all_goals (first | refine JM.gskip rfl rfl rfl rfl rfl rfl rfl ?_ | refine JM.gskipU rfl rfl rfl rfl rfl rfl ?_ | refine JM.gquiet rfl rfl rfl rfl rfl rfl (fun m => (by first | exact y_field1 hT rfl rfl rfl rfl rfl rfl rfl | exact y_fieldN hT rfl rfl rfl rfl rfl rfl (by rfl))) ?_)
            all_goals (first | refine JM.gskip rfl rfl rfl rfl rfl rfl rfl ?_ | refine JM.gskipU rfl rfl rfl rfl rfl rfl ?_ | refine JM.gquiet rfl rfl rfl rfl rfl rfl (fun m => y_eql rfl rfl) ?_)
            all_goals refine JM.quiet rfl rfl rfl rfl (fun m => y_pick rfl rfl rfl) ?_
            all_goals refine JM.quiet rfl rfl rfl rfl (fun m => y_assign rfl) ?_
            all_goals refine JM.nil ?_
            all_goals refine JE.then_normal ?_
            all_goals
              refine J.ret ?_
              refine JE.ret1 (.inl rfl) rfl rfl (by (first | exact RV.tmp rfl | exact RV.cell1 hT rfl rfl rfl (by (exact Rd1.row (by (repeat (first | exact Pick.head | apply Pick.tail | apply Pick.app))) (by rfl))) | exact RV.cellN hT rfl rfl rfl (by (first | exact RdN.rowAll (by (repeat (first | exact Pick.head | apply Pick.tail | apply Pick.app))) | exact RdN.own (by (repeat (first | exact Pick.head | apply Pick.tail | apply Pick.app))))) (by (first | rfl | assumption | (simp; done) | omega)))) ?_
              first
                | (have zz := hsX
                   refine ⟨?_, fun w q => q.sup (by (repeat (first | exact Sup.refl | apply Sup.cons (by (repeat (first | exact Pick.head | apply Pick.tail | apply Pick.app))) | apply Sup.app | apply Sup.skip | apply Sup.skips)))⟩
                   rw [hsX]
                   exact congrArg Value.bool (decide_eq_true rfl))
                | exact ⟨rfl, fun w q => q.sup (by (repeat (first | exact Sup.refl | apply Sup.cons (by (repeat (first | exact Pick.head | apply Pick.tail | apply Pick.app))) | apply Sup.app | apply Sup.skip | apply Sup.skips)))⟩
      case' hf =>
        intro h
        try (first | (exfalso; omega) | (cases h; done) | (exfalso; simp at h; done) | subst h)
        all_goals
          refine J.skip ?_
      all_goals refine JE.then_normal ?_
      all_goals
        refine J.seq ?_
        refine J.region ?_
        refine JL.step (y_fieldAddr hT rfl rfl rfl rfl rfl rfl) rfl rfl rfl ?_
        refine JL.step (y_load1 hT rfl rfl rfl (by (exact Rd1.row (by (repeat (first | exact Pick.head | apply Pick.tail | apply Pick.app))) (by rfl)))) rfl rfl rfl ?_
        refine JL.step (y_max2 rfl rfl rfl) rfl rfl rfl ?_
        refine JL.step (y_rem rfl rfl (by decide) hkm) rfl rfl rfl ?_
        refine JL.step (y_assign rfl) rfl rfl rfl ?_
        refine JL.nil ?_
        refine JE.then_normal ?_
        refine J.seq ?_
        refine J.region ?_
        refine JL.step (y_move rfl) rfl rfl rfl (JL.step (y_move rfl) rfl rfl rfl ?_)
        refine JL.loud rfl (l_callF e27 rfl rfl (Fc.on (Split.cons (by (repeat (first | exact Pick.head | apply Pick.tail | apply Pick.app))) Split.nil) (cread d k _ hI (by omega) (by omega))) ?_)
        rintro _ _ ⟨rfl, rfl⟩
        refine JL.step (y_move rfl) rfl rfl rfl (JL.step (y_extract rfl rfl) rfl rfl rfl (JL.step (y_extract rfl rfl) rfl rfl rfl ?_))
        refine JL.loud rfl (l_alloc hT rfl rfl (by (first | rfl | simp)) rfl (fun b10 => ?_))
        refine JL.loud rfl (l_storeAll hT rfl rfl rfl (by (first | rfl | assumption | (simp; done) | omega)) (by (first | assumption | exact ones_of rfl | exact encW_one _ | exact encB_one _ | (intro u hu; simp at hu; rcases hu with rfl | rfl <;> rfl) | (intro u hu; simp at hu; subst hu; rfl) | simp)) (by (repeat (first | exact Pick.head | apply Pick.tail | apply Pick.app))) (by (first | rfl | assumption | (simp; done) | omega)) ?_)
        refine JL.step (y_assign rfl) rfl rfl rfl ?_
        refine JL.nil ?_
        refine JE.then_normal ?_
        refine J.seq ?_
        refine J.seq ?_
        refine J.region ?_
        refine JL.step (y_fieldAddr hT rfl rfl rfl rfl rfl rfl) rfl rfl rfl ?_
        refine JL.step (y_loadN hT rfl rfl rfl (RdN.row (n := 64) (vs := encB x.turn) (by (repeat (first | exact Pick.head | apply Pick.tail | apply Pick.app))) hturn) hte) rfl rfl rfl ?_
        refine JL.step (y_move rfl) rfl rfl rfl ?_
        refine JL.nil ?_
        refine JE.then_normal ?_
        refine J.block ?_
        refine J.loop (α := Nat) (fun q => q ≤ 64) (fun q => [(1, .pointer (some ⟨bx, 0, none⟩)), (3, .pointer (some ⟨d, 0, none⟩)), (8, .pointer (some ⟨b8, 0, none⟩)), (9, .int .i64 k), (10, .pointer (some ⟨b10, 0, none⟩)), (61, .slice (some ⟨gw, ow, none⟩) ws.length wc), (62, .int .i64 ws.length), (63, .int .i64 i), (81, .agg (encB x.turn).toArray), (82, .int .i64 q)]) (fun q => row b10 27 (encB (xorTo (D.find k) x.turn q)) :: row b8 80 (wEnc x) :: disk d D :: row bx 76 [.int .i64 more, .bool _, .slice sp snap.length sc, .slice (some ⟨gw, ow, none⟩) ws.length wc] :: r) (fun q => 64 - q) 0 (by omega) ⟨rfl, rfl, rfl, rfl, rfl, rfl, rfl, rfl, rfl, rfl, trivial⟩ (fun w h => by rw [xorTo_zero hfb]; exact h.sup (by (repeat (first | exact Sup.refl | apply Sup.cons (by (repeat (first | exact Pick.head | apply Pick.tail | apply Pick.app))) | apply Sup.app | apply Sup.skip | apply Sup.skips)))) ?_
        intro q hq
        refine J.seq ?_
        refine J.region ?_
        refine JL.step (y_lss rfl rfl) rfl rfl rfl ?_
        refine JL.nil ?_
        refine JE.then_normal ?_
        refine J.seq ?_
        first | apply J.cond_dec rfl | apply J.cond rfl
        case' ht =>
          intro h
          try (first | (exfalso; omega) | (cases h; done) | (exfalso; simp at h; done) | subst h)
          all_goals
            refine J.skip ?_
        case' hf =>
          intro h
          try (first | (exfalso; omega) | (cases h; done) | (exfalso; simp at h; done) | subst h)
          all_goals
            refine J.exit ?_
            refine JE.then_exit ?_
            refine JE.then_exit ?_
            refine JE.block_exit ?_
            refine JE.then_normal ?_
            refine J.seq ?_
            refine J.seq ?_
            obtain rfl : q = 64 := by omega
            have hXl := xorTo_length (D.find k) x.turn 64
            have hXb : Bytes (xorTo (D.find k) x.turn 64) := Bytes.xorTo (hI.byt.find _) _ _
            obtain ⟨X, hX⟩ : ∃ X, xorTo (D.find k) x.turn 64 = X := ⟨_, rfl⟩
            rw [hX] at hXl hXb ⊢
            have hXe : (encB X).length = 64 := (encB_length _).trans hXl
            refine J.region ?_
            refine JL.step (y_fieldAddr hT rfl rfl rfl rfl rfl rfl) rfl rfl rfl ?_
            refine JL.step (y_load1 hT rfl rfl rfl (Rd1.row (by (repeat (first | exact Pick.head | apply Pick.tail | apply Pick.app))) hsup)) rfl rfl rfl ?_
            refine JL.nil ?_
            refine JE.then_normal ?_
            first | apply J.cond_dec rfl | apply J.cond rfl
            case' ht =>
              intro h
              try (first | (exfalso; omega) | (cases h; done) | (exfalso; simp at h; done) | subst h)
              all_goals
                refine J.seq ?_
                refine J.region ?_
                refine JL.step (y_fieldAddr hT rfl rfl rfl rfl rfl rfl) rfl rfl rfl ?_
                refine JL.step (y_load1 hT rfl rfl rfl (by (exact Rd1.row (by (repeat (first | exact Pick.head | apply Pick.tail | apply Pick.app))) (by rfl)))) rfl rfl rfl ?_
                refine JL.step (y_bits rfl rfl (by rfl)) rfl rfl rfl ?_
                refine JL.step (y_fieldAddr hT rfl rfl rfl rfl rfl rfl) rfl rfl rfl ?_
                refine JL.step (y_load1 hT rfl rfl rfl (Rd1.row (by (repeat (first | exact Pick.head | apply Pick.tail | apply Pick.app))) hctr)) rfl rfl rfl ?_
                refine JL.step (y_fieldAddr hT rfl rfl rfl rfl rfl rfl) rfl rfl rfl ?_
                refine JL.step (y_load1 hT rfl rfl rfl (by (exact Rd1.row (by (repeat (first | exact Pick.head | apply Pick.tail | apply Pick.app))) (by rfl)))) rfl rfl rfl ?_
                refine JL.loud rfl (l_callF e46 rfl rfl (cblk _ _ _ (by (repeat (first | assumption | apply InL.cons | apply InL.app)))) ?_)
                rintro _ _ ⟨rfl, rfl⟩
                obtain ⟨Y, hY, hYl, hYb⟩ : ∃ Y, sbBlock _ = Y ∧ Y.length = 64 ∧ Bytes Y := ⟨_, rfl, hbl _ x.ctr, hbB _ x.ctr⟩
                rw [hY]
                have hYe : (encB Y).length = 64 := (encB_length _).trans hYl
                refine JL.loud rfl (l_storeAll hT rfl rfl rfl (by (first | rfl | assumption | (simp; done) | omega)) (by (first | assumption | exact ones_of rfl | exact encW_one _ | exact encB_one _ | (intro u hu; simp at hu; rcases hu with rfl | rfl <;> rfl) | (intro u hu; simp at hu; subst hu; rfl) | simp)) (by (repeat (first | exact Pick.head | apply Pick.tail | apply Pick.app))) (by (first | rfl | assumption | (simp; done) | omega)) ?_)
                refine JL.nil ?_
                refine JE.then_normal ?_
                refine J.region ?_
                refine JL.step (y_move rfl) rfl rfl rfl ?_
                refine JL.step (y_bits (m := ((k % 2 : Nat) : Int)) rfl rfl (by simp only [bitsE]; exact congrArg some (and_one k (by omega)))) rfl rfl rfl ?_
                refine JL.step (y_assign rfl) rfl rfl rfl ?_
                refine JL.nil ?_
            case' hf =>
              intro h
              try (first | (exfalso; omega) | (cases h; done) | (exfalso; simp at h; done) | subst h)
              all_goals
                refine J.skip ?_
            all_goals refine JE.then_normal ?_
            all_goals
              refine J.region ?_
              refine JL.step (y_move rfl) rfl rfl rfl (JL.step (y_move rfl) rfl rfl rfl ?_)
              refine JL.step (y_loadN hT rfl rfl rfl (by (first | exact RdN.rowAll (by (repeat (first | exact Pick.head | apply Pick.tail | apply Pick.app))) | exact RdN.own (by (repeat (first | exact Pick.head | apply Pick.tail | apply Pick.app))))) (by (first | rfl | assumption | (simp; done) | omega))) rfl rfl rfl ?_
              refine JL.loud rfl (l_callF e47 rfl rfl (Fc.on (Split.cons (by (repeat (first | exact Pick.head | apply Pick.tail | apply Pick.app))) Split.nil) (cwrite d _ _ _ hI (by omega) (by omega) (by assumption))) ?_)
              rintro _ _ ⟨rfl, rfl⟩
              refine JL.nil ?_
            all_goals
              refine JE.block_normal ?_
              refine JE.then_normal ?_
              refine J.region ?_
              refine JL.step (y_add rfl rfl (by (first | exact wrap_i64 (by omega) (by omega) | rfl))) rfl rfl rfl ?_
              refine JL.step (y_move rfl) rfl rfl rfl ?_
              refine JL.nil ?_
              first
                | (have zz := hYl
                   exact JE.round (s := (i, D)) (i + 1, D.does.push ((k % 2 : Nat) : Int) Y) ⟨by dsimp only; omega, by dsimp only; omega, hI.push (by omega) hYl hYb⟩ ⟨rfl, rfl, rfl, rfl, rfl, trivial⟩ (fun w q => q.sup (by (repeat (first | exact Sup.refl | apply Sup.cons (by (repeat (first | exact Pick.head | apply Pick.tail | apply Pick.app))) | apply Sup.app | apply Sup.skip | apply Sup.skips)))) (by dsimp only; omega))
                | exact JE.round (s := (i, D)) (i + 1, D.does.push (k : Int) X) ⟨by dsimp only; omega, by dsimp only; omega, hI.push (by omega) hXl hXb⟩ ⟨rfl, rfl, rfl, rfl, rfl, trivial⟩ (fun w q => q.sup (by (repeat (first | exact Sup.refl | apply Sup.cons (by (repeat (first | exact Pick.head | apply Pick.tail | apply Pick.app))) | apply Sup.app | apply Sup.skip | apply Sup.skips)))) (by dsimp only; omega)
        all_goals refine JE.then_normal ?_
        all_goals
          refine J.seq ?_
          refine J.block ?_
          refine J.seq ?_
          refine J.region ?_
          refine JL.step (y_move rfl) rfl rfl rfl ?_
          refine JL.step (y_index1 hT rfl rfl rfl rfl rfl rfl rfl (by (first | omega | exact Nat.le_of_ble_eq_true rfl | decide | (simp; omega))) (by (first | omega | exact Nat.le_of_ble_eq_true rfl | decide | (simp; omega))) (v := .int .u8 (x.turn.getD q 0)) (by
            rw [encB, ints, List.getElem?_map, List.getD_eq_getElem?_getD, Int.toNat_natCast, List.getElem?_eq_getElem (by omega)]; rfl)) rfl rfl rfl ?_
          refine JL.step (y_assign rfl) rfl rfl rfl (JL.step (y_assign rfl) rfl rfl rfl ?_)
          refine JL.nil ?_
          refine JE.then_normal ?_
          refine J.region ?_
          refine JL.step (y_move rfl) rfl rfl rfl ?_
          refine JL.step (y_indexAddr_arr hT rfl rfl rfl rfl rfl (by (first | omega | exact Nat.le_of_ble_eq_true rfl | decide | (simp; omega))) (by (first | omega | exact Nat.le_of_ble_eq_true rfl | decide | (simp; omega)))) rfl rfl rfl ?_
          refine JL.step (y_load1 hT rfl rfl rfl (Rd1.bytesAt (bs := xorTo (D.find k) x.turn q) (j := q) (RdN.rowAll (by (repeat (first | exact Pick.head | apply Pick.tail | apply Pick.app)))) (by rw [xorTo_length]; omega) (by rw [show i5.size = 1 from rfl]; omega))) rfl rfl rfl ?_
          rw [xorTo_get _ _ (by omega)]
          refine JL.step (y_move rfl) rfl rfl rfl ?_
          refine JL.step (y_bits (m := xorB ((D.find k).getD q 0) (x.turn.getD q 0)) rfl rfl (by simp only [bitsE]; exact congrArg some (wrap_bv8 _))) rfl rfl rfl ?_
          refine JL.step (y_indexAddr_arr hT rfl rfl rfl rfl rfl (by (first | omega | exact Nat.le_of_ble_eq_true rfl | decide | (simp; omega))) (by (first | omega | exact Nat.le_of_ble_eq_true rfl | decide | (simp; omega)))) rfl rfl rfl ?_
          refine JL.loud rfl (l_store1 hT rfl rfl rfl rfl rfl (by (repeat (first | exact Pick.head | apply Pick.tail | apply Pick.app))) (by rw [encB_length, xorTo_length, show i5.size = 1 from rfl]; omega) ?_)
          refine JL.nil ?_
          refine JE.block_normal ?_
          refine JE.then_normal ?_
          refine J.region ?_
          refine JL.step (y_add rfl rfl (by (first | exact wrap_i64 (by omega) (by omega) | rfl))) rfl rfl rfl ?_
          refine JL.step (y_move rfl) rfl rfl rfl ?_
          refine JL.nil ?_
        all_goals
          refine JE.round (s := q) (q + 1) (by omega) ⟨rfl, rfl, rfl, rfl, rfl, rfl, rfl, rfl, rfl, rfl, trivial⟩ (fun w qq => ?_) (by omega)
          rw [show 0 + (q : Int).toNat * i5.size = q by rw [show i5.size = 1 from rfl]; omega] at qq
          rw [← xorTo_next _ _ (show q < 64 by omega), encB, ints, List.map_set]
          exact qq
end
section
open Go.ChangeShapes Go.WideShapes Go.ChangeAt Go.RowKit
set_option maxRecDepth 100000 in
theorem tr_write {H : Type} {enc : TypeId × Value → H} {w : World} {ok : DataW H → Prop} {L : Nat → Prop} {cs : List Value} (her : Her ok L) (h : Tr enc prog ok w 80 cs) : ∃ x : Wr, cs = wEnc x ∧ x.Ok := by
  obtain ⟨hl, hf⟩ := Tr.struct her u80 h
  rw [show prog.cellsOf 80 = 67 by kernel_rfl] at hl
  have h0 := hf 0 _ rfl
  have h1 := hf 1 _ rfl
  have h2 := hf 2 _ rfl
  have h3 := hf 3 _ rfl
  dsimp only at h0 h1 h2 h3
  rw [show prog.cellsOf 3 = 1 by kernel_rfl] at h0
  rw [show prog.cellsOf 27 = 64 by kernel_rfl] at h1
  rw [show prog.cellsOf 4 = 1 by kernel_rfl] at h2
  rw [show prog.cellsOf 78 = 1 by kernel_rfl] at h3
  obtain ⟨a, e0, r0⟩ := Tr.int u3 h0
  obtain ⟨b, e1, hb, _⟩ := tr_block her h1
  obtain ⟨s, e2⟩ := Tr.bool u4 h2
  obtain ⟨c, e3, r3⟩ := Tr.int u78 h3
  refine ⟨⟨a, b, s, BitVec.ofInt 64 c⟩, ?_, hb, r0⟩
  have hq : Q (BitVec.ofInt 64 c) = .int .u64 c := by
    have q1 : (0 : Int) ≤ c := r3.1
    have q2 : c ≤ 18446744073709551615 := r3.2
    rw [Q, BitVec.toNat_ofInt]
    congr 1
    omega
  rw [wEnc, hq]
  dsimp only
  have p1 : cs = cs.take 1 ++ ((cs.drop 1).take 64 ++ ((cs.drop 65).take 1 ++ (cs.drop 66).take 1)) := by
    have z3 : (cs.drop 66).take 1 = cs.drop 66 := List.take_of_length_le (by simp [hl])
    have z2 : cs.drop 65 = (cs.drop 65).take 1 ++ cs.drop 66 := by
      conv => lhs; rw [← List.take_append_drop 1 (cs.drop 65), List.drop_drop]
    have z1 : cs.drop 1 = (cs.drop 1).take 64 ++ cs.drop 65 := by
      conv => lhs; rw [← List.take_append_drop 64 (cs.drop 1), List.drop_drop]
    rw [z3, ← z2, ← z1, List.take_append_drop]
  rw [p1, show cs.take 1 = (cs.drop 0).take 1 by rw [List.drop_zero], e0, e1, e2, e3]
  rfl
set_option maxRecDepth 100000 in
theorem tr_writes {H : Type} {enc : TypeId × Value → H} {w : World} {ok : DataW H → Prop} {L : Nat → Prop} {v : Value} (her : Her ok L) (h : Tr enc prog ok w 74 [v]) : ∃ (p : Option Addr) (cap : Nat) (xs : List Wr), v = .slice p xs.length cap ∧ L xs.length ∧ (∀ x ∈ xs, x.Ok) ∧ InW w p xs.length cap (xs.flatMap wEnc) :=
  Tr.slice (encA := wEnc) (okA := Wr.Ok) (k := 67) her u74 (by kernel_rfl) (by decide) (fun _ h => wEnc_length h) (fun cs hc => tr_write her hc) h
set_option maxRecDepth 100000 in
theorem tr_written {H : Type} {enc : TypeId × Value → H} {w : World} {ok : DataW H → Prop} {L : Nat → Prop} {cs : List Value} (her : Her ok L) (h : Tr enc prog ok w 76 cs) :
    ∃ (a : Int) (b : Bool) (sp : Option Addr) (sc : Nat) (snap : List Int) (wp : Option Addr) (wc : Nat) (ws : List Wr), cs = [.int .i64 a, .bool b, .slice sp snap.length sc, .slice wp ws.length wc] ∧ L snap.length ∧ Bytes snap ∧ InW w sp snap.length sc (ints .u8 snap) ∧ (∀ x ∈ ws, x.Ok) ∧ InW w wp ws.length wc (ws.flatMap wEnc) := by
  obtain ⟨hl, hf⟩ := Tr.struct her u76 h
  rw [show prog.cellsOf 76 = 4 by kernel_rfl] at hl
  match cs, hl with
  | [a, b, c, d], _ =>
    have h0 := hf 0 _ rfl
    have h1 := hf 1 _ rfl
    have h2 := hf 2 _ rfl
    have h3 := hf 3 _ rfl
    dsimp only at h0 h1 h2 h3
    rw [show prog.cellsOf 3 = 1 by kernel_rfl] at h0
    rw [show prog.cellsOf 4 = 1 by kernel_rfl] at h1
    rw [show prog.cellsOf 73 = 1 by kernel_rfl] at h2
    rw [show prog.cellsOf 74 = 1 by kernel_rfl] at h3
    obtain ⟨k, e0, _⟩ := Tr.int u3 h0
    obtain ⟨i, e1⟩ := Tr.bool u4 h1
    obtain ⟨sp, sc, snap, e2, l2, b2, r2⟩ := tr_bytesR her h2
    obtain ⟨wp, wc, ws, e3, _, b3, r3⟩ := tr_writes her h3
    cases e0; cases e1; cases e2; cases e3
    exact ⟨k, i, sp, sc, snap, wp, wc, ws, rfl, l2, b2, r2, b3, r3⟩
theorem extent_opens_reads : ∀ t ∈ Try.f10.params.toList, Try.prog.readableRec t = true ∧ t < Try.prog.types.size := by
  rw [Try.params10]
  intro t ht
  simp only [List.mem_cons, List.not_mem_nil, or_false] at ht
  rcases ht with rfl
  all_goals exact ⟨by kernel_rfl, of_decide_eq_true (by kernel_rfl)⟩
set_option maxRecDepth 100000 in
theorem extent_opens_contract (H : Type) (enc : TypeId × Value → H) (W : World) (base : Nat) (args : Array Value) (ds gs : List (DataW H)) (before : List MemPlace)
    (hval : ∀ (j : Nat) t v, Try.f10.params[j]? = some t → args[j]? = some v → Value.okWide Try.prog W .any base t v)
    (hW : DataW.Whole enc Try.prog Try.f10.params.toList Rows.extentOpensSpec.vars false W args.toList ds gs before) (hk : Rows.uptoSmall H (ds ++ gs) = true) :
    Calls Try.prog 10 args W fun e W' => ∃ v, e = .returned v ∧ Rows.extentOpensSpec.post enc Try.prog Try.f10 false true false false W args v W' := by
  have hW' := hW
  obtain ⟨p, q, hA0, hV, rfl, hfz, hnd⟩ := hW
  have hA : DataW.TrodAll enc Try.prog W 0 (fun _ => true) true Try.f10.params.toList args.toList ds p := hA0
  rw [Try.params10] at hA hval
  obtain ⟨v0, vs0, d0, ds0, p0, q0, hargs, rfl, rfl, h0, r0⟩ := trodAll_cons hA
  obtain ⟨rfl, rfl, rfl⟩ := trodAll_nil r0
  obtain rfl : args = #[v0] := by cases args; simp_all
  obtain ⟨rfl, rfl⟩ := trodVars_none hV
  clear hA0
  obtain ⟨cs0, rfl, t0⟩ := Tr.ofStruct (ok := upOk) u76 (hval 0 76 v0 rfl rfl) h0 (upOk_of hk d0 (by simp))
  obtain ⟨a, b, sp, sc, snap, wp, wc, ws, rfl, hl, hb, hs, hwo, hw⟩ := tr_written upHer t0
  refine ((extent_opens W a b sp wp sc wc snap ws [old W] (hs.inl []) hb hl (hw.inl []) hwo) W (Sat.start W)).mono fun e W' hq => ?_
  obtain ⟨v, l', rfl, hs, rfl, rfl⟩ := hq
  exact ⟨_, rfl, law_post laidOut_ rfl rfl u4 extent_opens_reads hW' rfl rfl rfl hs.below⟩
set_option maxRecDepth 100000 in
theorem extent_opens_lifted (os : Os) (started : os.Started) (H : Type) (enc : TypeId × Value → H) (F : Stop.Interp) :
    ReturnsInHanded {} Try.checked os 10 .any ((Rows.OpenSpec.upto Rows.extentOpensSpec).pre6 enc Try.prog Try.f10 Rows.extentOpensUptoRow.domain false) (((Rows.OpenSpec.upto Rows.extentOpensSpec).at F).post enc Try.prog Try.f10 false true false false) := by
  refine returnsInHanded_of_cond (C := Try.checked) (s := Rows.OpenSpec.upto Rows.extentOpensSpec) (k := Rows.uptoSmall) rfl own_ started (by kernel_rfl) Try.func10
    (OpenSpec.witness (enc := enc) (C := Try.checked) (s := Rows.OpenSpec.upto Rows.extentOpensSpec) (k := Rows.uptoSmall) rfl false ⟨#[], #[.agg #[.int .i64 0, .bool false, .slice none 0 0, .slice none 0 0]], []⟩ 8 (by kernel_rfl) (by kernel_rfl) (by kernel_rfl)
      (x := ([.agg [.lit (.int .i64 0), .lit (.bool false), .nil, .nil]], [], [])) (by kernel_rfl) rfl (by kernel_rfl)) ?_
  intro W base args ds gs before hval hW _ hk _
  exact extent_opens_contract H enc W base args ds gs before hval hW hk
theorem extent_opens_holds : Rows.ExtentOpensUptoSaid :=
  OpenClaim.holds_of_cond 10 Try.f10 rfl rfl rfl rfl rfl rfl rfl ⟨rfl, rfl, rfl, rfl, rfl⟩ rfl rfl rfl rfl rfl (by kernel_rfl) Try.func10 (by kernel_rfl)
    (of_decide_eq_true (by kernel_rfl)) (by unfold Func.isWrapper; first | (rw [if_pos (by decide +kernel)]; kernel_rfl) | (rw [if_neg (by decide +kernel)]; exact ⟨rfl, rfl⟩))
    (fun os started H enc _ F => extent_opens_lifted os started H enc F)
end
end Go.Proofs.Ytilifeeddpkclaa
