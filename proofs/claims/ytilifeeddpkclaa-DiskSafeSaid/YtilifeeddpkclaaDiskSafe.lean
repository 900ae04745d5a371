/-
  hollowtreelaw10.DiskSafe returns true for every input, and leaves its input as it was. No condition.
-/
import Derived.Test.YtilifeeddpkclaaTop1
import Derived.Test.YtilifeeddpkclaaDisk5
namespace Go.Proofs.Ytilifeeddpkclaa
open Go Go.SL
section
attribute [local irreducible] J JL JE JM LS Y Fc RV Code.wp wpList Code.wpIn wpListIn
attribute [local irreducible] Yc
variable (E : World)
theorem liveOn_one (lv : Nat → Bool) : ∀ (l : List (Int × Blk)) (k : Nat) (s : List Blk) (j : Nat), (∀ p ∈ l, 0 ≤ p.1 ∧ p.1 < s.length) → j < s.length →
    (liveOn lv l k s).getD j [] = s.getD j [] ∨ ∃ (q : Nat) (p : Int × Blk), l[q]? = some p ∧ p.1 = (j : Int) ∧ (liveOn lv l k s).getD j [] = p.2
  | [], _, _, _, _, _ => .inl rfl
  | p :: r, k, s, j, hl, hj => by
    have hp := hl p (by simp)
    simp only [liveOn]
    have ih := liveOn_one lv r (k + 1) (if lv k then s.set p.1.toNat p.2 else s) j (fun q hq => by have := hl q (by simp [hq]); split <;> simpa using this) (by split <;> simpa using hj)
    rcases ih with h | ⟨q, p', h1, h2, h3⟩
    · rw [h]
      by_cases hk : lv k = true
      · rw [if_pos hk]
        by_cases he : p.1 = (j : Int)
        · refine .inr ⟨0, p, rfl, he, ?_⟩
          have : p.1.toNat = j := by omega
          rw [this]
          simp [List.getD_eq_getElem?_getD, hj]
        · refine .inl ?_
          have : ¬ p.1.toNat = j := by omega
          simp [List.getD_eq_getElem?_getD, List.getElem?_set, this]
      · rw [if_neg hk]; exact .inl rfl
    · exact .inr ⟨q + 1, p', by simpa using h1, h2, h3⟩
theorem liveOn_off (lv : Nat → Bool) : ∀ (l : List (Int × Blk)) (k : Nat) (s : List Blk), (∀ i, k ≤ i → lv i = false) → liveOn lv l k s = s
  | [], _, _, _ => rfl
  | p :: r, k, s, h => by
    simp only [liveOn, h k (Nat.le_refl _), Bool.false_eq_true, if_false]
    exact liveOn_off lv r (k + 1) s (fun i hi => h i (by omega))
theorem liveOn_only (lv : Nat → Bool) : ∀ (l : List (Int × Blk)) (k : Nat) (s : List Blk) (q : Nat) (p : Int × Blk), l[q]? = some p → (∀ i, k ≤ i → lv i = decide (i = k + q)) → liveOn lv l k s = s.set p.1.toNat p.2
  | [], _, _, _, _, h, _ => by simp at h
  | x :: r, k, s, 0, p, h, hlv => by
    obtain rfl : x = p := by simpa using h
    simp only [liveOn, hlv k (Nat.le_refl _), Nat.add_zero, decide_true, if_true]
    exact liveOn_off lv r (k + 1) _ (fun i hi => by rw [hlv i (by omega)]; simp; omega)
  | x :: r, k, s, q + 1, p, h, hlv => by
    simp only [liveOn]
    rw [if_neg (by rw [hlv k (Nat.le_refl _)]; simp)]
    exact liveOn_only lv r (k + 1) s q p (by simpa using h) (fun i hi => by rw [hlv i (by omega)]; congr 1; simp; omega)
/-- The one bit. -/
def oneBit (k : Nat) : List Bool := List.replicate k false ++ [true]
theorem oneBit_length (k : Nat) : (oneBit k).length = k + 1 := by simp [oneBit]
theorem oneBit_at (k i : Nat) : bitAt (oneBit k) i = decide (i = k) := by
  simp only [bitAt, oneBit, List.getD_eq_getElem?_getD]
  rcases Nat.lt_trichotomy i k with h | h | h
  · rw [List.getElem?_append_left (by simpa using h), List.getElem?_replicate]
    have : ¬ i = k := by omega
    simp [h, this]
  · subst h; simp
  · rw [List.getElem?_eq_none (by simp; omega)]
    have : ¬ i = k := by omega
    simp [this]
theorem crash_find (D : Dk) (bs : List Bool) (j : Nat) : (D.crash bs).find j = (liveOn (bitAt bs) D.pending 0 D.safe).getD j [] := rfl
theorem crash_nil_find (D : Dk) (j : Nat) : (D.crash []).find j = D.safe.getD j [] := by
  rw [crash_find, liveOn_off _ _ _ _ (fun i _ => by simp [bitAt])]
theorem crash_one_find {D : Dk} (h : D.Ok) {q : Nat} {p : Int × Blk} (hp : D.pending[q]? = some p) : (D.crash (oneBit q)).find p.1.toNat = p.2 := by
  rw [crash_find, liveOn_only (bitAt (oneBit q)) D.pending 0 D.safe q p hp (fun i _ => by rw [oneBit_at]; congr 1; simp)]
  have h1 := (h.pend p (List.mem_of_getElem? hp)).2
  have h2 : p.1.toNat < D.safe.length := by omega
  simp [List.getD_eq_getElem?_getD, h2]
theorem fine_crash {D : Dk} (h : Fine D) (bs : List Bool) : Fine (D.crash bs) :=
  ⟨h.ok.crash bs, by simp [Dk.crash, Dk.settle, liveOn_length, h.len], rfl, rfl⟩
/-- What the law's inner loop asks. -/
def FineAt (D : Dk) (ks : List Bool) (j k : Nat) : Prop :=
  (D.crash ks).read (j : Int) = (D.crash []).read (j : Int) ∨ ∃ q : Nat, q < k ∧ ∃ p : Int × Blk, D.pending[q]? = some p ∧ p.1 = (j : Int) ∧ (D.crash ks).read (j : Int) = (D.crash (oneBit q)).read (j : Int)
theorem fineAt_zero (D : Dk) (ks : List Bool) (j : Nat) : FineAt D ks j 0 ↔ (D.crash ks).read (j : Int) = (D.crash []).read (j : Int) :=
  ⟨fun h => h.resolve_right (fun ⟨q, hq, _⟩ => by omega), .inl⟩
theorem fineAt_next {D : Dk} {ks : List Bool} {j k : Nat} {p : Int × Blk} (hp : D.pending[k]? = some p) :
    FineAt D ks j (k + 1) ↔ FineAt D ks j k ∨ (p.1 = (j : Int) ∧ (D.crash ks).read (j : Int) = (D.crash (oneBit k)).read (j : Int)) := by
  constructor
  · rintro (h | ⟨q, hq, p', h1, h2, h3⟩)
    · exact .inl (.inl h)
    · by_cases e : q = k
      · subst e
        obtain rfl : p = p' := by rw [hp] at h1; exact Option.some.inj h1
        exact .inr ⟨h2, h3⟩
      · exact .inl (.inr ⟨q, by omega, p', h1, h2, h3⟩)
  · rintro ((h | ⟨q, hq, r⟩) | h)
    · exact .inl h
    · exact .inr ⟨q, by omega, r⟩
    · exact .inr ⟨k, by omega, p, hp, h⟩
theorem fineAt_all {D : Dk} (h : Fine D) (ks : List Bool) {j : Nat} (hj : j < 6) : FineAt D ks j D.pending.length := by
  unfold FineAt
  rw [fine_read (fine_crash h ks) hj, fine_read (fine_crash h []) hj, crash_nil_find, crash_find]
  rcases liveOn_one (bitAt ks) D.pending 0 D.safe j (fun p hp => (h.ok.pend p hp).2) (by rw [h.len]; exact hj) with e | ⟨q, p, h1, h2, h3⟩
  · exact .inl e
  · refine .inr ⟨q, ?_, p, h1, h2, ?_⟩
    · rcases Nat.lt_or_ge q D.pending.length with e | e
      · exact e
      · rw [List.getElem?_eq_none e] at h1; cases h1
    · have e := crash_one_find h.ok h1
      rw [show p.1.toNat = j by omega] at e
      rw [fine_read (fine_crash h _) hj, e, h3]
theorem crash_all_held {D : Dk} (h : Fine D) : (D.crash (List.replicate D.pending.length true)).held = D.held :=
  fine_held h (fine_crash h _) fun j hj => by
    have h1 := liveOn_find D.pending 0 D.safe j (fun p hp => (h.ok.pend p hp).2) (by rw [h.len]; exact hj)
    have h2 : liveOn (bitAt (List.replicate D.pending.length true)) D.pending 0 D.safe = liveOn (fun _ => true) D.pending 0 D.safe := by
      have : ∀ (l : List (Int × Blk)) (k : Nat) (s : List Blk), (∀ i, k ≤ i → i < k + l.length → bitAt (List.replicate D.pending.length true) i = true) → liveOn (bitAt (List.replicate D.pending.length true)) l k s = liveOn (fun _ => true) l k s := by
        intro l
        induction l with
        | nil => intro _ _ _; rfl
        | cons p r ih =>
          intro k s hh
          simp only [liveOn]
          rw [hh k (Nat.le_refl _) (by simp), ih (k + 1) _ (fun i h1 h2 => hh i (by omega) (by simp only [List.length_cons]; omega))]
          rfl
      exact this _ _ _ (fun i _ hi => by
        simp only [bitAt, List.getD_eq_getElem?_getD, List.getElem?_replicate]
        rw [if_pos (by omega)]
        rfl)
    rw [crash_find, h2]
    simp only [Dk.find, Int.toNat_natCast]
    exact h1
theorem sync_crash_held {D : Dk} (h : Fine D) : ((D.does.settle (fun _ => true)).crash []).held = D.held :=
  fine_held h (fine_crash (fine_settle h _) _) fun j hj => by
    rw [crash_nil_find]
    exact find_settle h.ok j (by rw [h.len]; exact hj)
theorem held6 (d : Nat) (D : Dk) (l : List HProp) (h1 : D.pending.length ≤ 1000) (h2 : D.safe.length = 6) :
    Fc prog E 20 [Value.pointer (some ⟨d, 0, none⟩)].toArray (disk d D :: l) (fun v l' => ∃ a c, v = .slice a 6 c ∧ l' = own 27 64 v 6 (D.held.flatMap encB) :: disk d D :: l) := by
  have h := held_spec E d D l (by omega)
  rwa [held_length, h2] at h
theorem same_blocks (pa pb : Option Addr) (ca cb : Nat) (xs : List Blk) (l : List HProp) (hx : InL l pa xs.length ca (xs.flatMap encB)) (hy : InL l pb xs.length cb (xs.flatMap encB)) (h64 : ∀ b ∈ xs, b.length = 64) (hn : xs.length ≤ 1000000) :
    Fc prog E 35 [.slice pa xs.length ca, .slice pb xs.length cb].toArray l (fun v l' => v = .bool true ∧ l' = l) := by
  have h64e : ∀ b ∈ xs, (encB b).length = 64 := fun b hb => (encB_length b).trans (h64 b hb)
  refine Fc.of_body (c := ?c) Try.func35 ?hb Try.ntmps35 ?hl ?_
  case hb => exact rfl
  case hl => exact rfl
  refine J.seq ?_
  refine J.region ?_
  refine JL.step (y_assign rfl) rfl rfl rfl ?_
  refine JL.nil ?_
  refine JE.then_normal ?_
  refine J.seq ?_
  refine J.seq ?_
  refine J.region ?_
  refine JL.step (y_move rfl) rfl rfl rfl (JL.step (y_len_slice hT rfl rfl rfl) rfl rfl rfl (JL.step (y_move rfl) rfl rfl rfl (JL.step (y_len_slice hT rfl rfl rfl) rfl rfl rfl (JL.step (y_neq rfl rfl) rfl rfl rfl ?_))))
  refine JL.nil ?_
  refine JE.then_normal ?_
  refine J.cond_f rfl (by (first | rfl | assumption | (simp; done) | (simp; omega))) ?_
  refine J.skip ?_
  refine JE.then_normal ?_
  refine J.seq ?_
  refine J.seq ?_
  refine J.region ?_
  refine JL.step (y_move rfl) rfl rfl rfl (JL.step (y_len_slice hT rfl rfl rfl) rfl rfl rfl (JL.step (y_move rfl) rfl rfl rfl ?_))
  refine JL.nil ?_
  refine JE.then_normal ?_
  refine J.block ?_
  refine J.loop (α := Nat) (fun j => j ≤ xs.length) (fun j => [(0, .slice pa xs.length ca), (1, .slice pb xs.length cb), (12, .int .i64 xs.length), (13, .int .i64 j)]) (fun _ => l) (fun j => xs.length - j) 0 (by omega) ⟨rfl, rfl, rfl, rfl, trivial⟩ (fun w h => h) ?_
  intro j hj
  refine J.seq ?_
  refine J.region ?_
  refine JL.step (y_lss rfl rfl) rfl rfl rfl ?_
  refine JL.nil ?_
  refine JE.then_normal ?_
  refine J.seq ?_
  first | apply J.cond_dec rfl | apply J.cond rfl
  case' ht =>
    intro h
    try (first | (exfalso; omega) | (cases h; done) | (exfalso; simp at h; done) | subst h)
    all_goals
      refine J.skip ?_
  case' hf =>
    intro h
    try (first | (exfalso; omega) | (cases h; done) | (exfalso; simp at h; done) | subst h)
    all_goals
      refine J.exit ?_
      refine JE.then_exit ?_
      refine JE.then_exit ?_
      refine JE.block_exit ?_
      refine JE.then_normal ?_
      refine J.seq ?_
      refine J.region ?_
      refine JL.step (y_assign rfl) rfl rfl rfl ?_
      refine JL.nil ?_
      refine JE.then_normal ?_
      refine J.ret ?_
      refine JE.ret1 (.inl rfl) rfl rfl (by (first | exact RV.tmp rfl | exact RV.cell1 hT rfl rfl rfl (by (exact Rd1.row (by (repeat (first | exact Pick.head | apply Pick.tail))) (by rfl))) | exact RV.cellN hT rfl rfl rfl (by (first | exact RdN.rowAll (by (repeat (first | exact Pick.head | apply Pick.tail))) | exact RdN.own (by (repeat (first | exact Pick.head | apply Pick.tail))))) (by (first | rfl | assumption | (simp; done) | omega)))) ?_
      exact ⟨rfl, rfl⟩
  all_goals refine JE.then_normal ?_
  all_goals
    refine J.seq ?_
    refine J.block ?_
    refine J.seq ?_
    refine J.region ?_
    refine JL.step (y_move rfl) rfl rfl rfl (JL.step (y_assign rfl) rfl rfl rfl ?_)
    refine JL.nil ?_
    refine JE.then_normal ?_
    refine J.seq ?_
    obtain ⟨x, hxj⟩ : ∃ x, xs[j]? = some x := ⟨_, List.getElem?_eq_getElem (by omega)⟩
    have hx64 := h64 x (List.mem_of_getElem? hxj)
    have hxl : (encB x).length = 64 := (encB_length x).trans hx64
    obtain ⟨g1, o1, rfl, hr1⟩ := hx.addr (by omega)
    obtain ⟨g2, o2, rfl, hr2⟩ := hy.addr (by omega)
    refine J.draw _ _ [(0, .q), (1, .q), (2, .q), (3, .q), (4, .q), (5, .q), (6, .q), (7, .q), (8, .q)] mixed (by kernel_rfl) (Split.nil) ?_
    refine JM.quiet rfl rfl rfl rfl (fun m => y_move rfl) ?_
    refine JM.quiet rfl rfl rfl rfl (fun m => y_move rfl) ?_
    refine JM.quiet rfl rfl rfl rfl (fun m => y_indexAddr_slice hT rfl rfl rfl rfl rfl (by (first | omega | exact Nat.le_of_ble_eq_true rfl | decide | (simp; omega))) (by (first | omega | exact Nat.le_of_ble_eq_true rfl | decide | (simp; omega)))) ?_
    refine JM.quiet rfl rfl rfl rfl (fun m => y_loadN hT rfl rfl rfl ((hr1 m).elem h64e hxj) hxl) ?_
    refine JM.quiet rfl rfl rfl rfl (fun m => y_move rfl) ?_
    refine JM.quiet rfl rfl rfl rfl (fun m => y_move rfl) ?_
    refine JM.quiet rfl rfl rfl rfl (fun m => y_indexAddr_slice hT rfl rfl rfl rfl rfl (by (first | omega | exact Nat.le_of_ble_eq_true rfl | decide | (simp; omega))) (by (first | omega | exact Nat.le_of_ble_eq_true rfl | decide | (simp; omega)))) ?_
    refine JM.quiet rfl rfl rfl rfl (fun m => y_loadN hT rfl rfl rfl ((hr2 m).elem h64e hxj) hxl) ?_
    refine JM.quiet rfl rfl rfl rfl (fun m => y_arr_ne hT rfl rfl rfl rfl rfl rfl rfl (by (first | rfl | assumption | (simp; done) | omega)) (by (first | rfl | assumption | (simp; done) | omega))) ?_
    refine JM.nil ?_
    refine JE.then_normal ?_
    refine J.cond_f rfl (by (first | rfl | assumption | (simp; done) | (simp; omega))) ?_
    refine J.skip ?_
    refine JE.block_normal ?_
    refine JE.then_normal ?_
    refine J.region ?_
    refine JL.step (y_add rfl rfl (by (first | exact wrap_i64 (by omega) (by omega) | rfl))) rfl rfl rfl ?_
    refine JL.step (y_move rfl) rfl rfl rfl ?_
    refine JL.nil ?_
  all_goals
    exact JE.round (s := j) (j + 1) (by omega) ⟨rfl, rfl, rfl, rfl, trivial⟩ (fun w h => h) (by omega)
theorem same6 {D : Dk} (hf : Fine D) (pa pb : Option Addr) (ca cb : Nat) (l : List HProp) (ha : InL l pa 6 ca (D.held.flatMap encB)) (hb : InL l pb 6 cb (D.held.flatMap encB)) :
    Fc prog E 35 [.slice pa 6 ca, .slice pb 6 cb].toArray l (fun v l' => v = .bool true ∧ l' = l) := by
  have hl : D.held.length = 6 := by rw [held_length, hf.len]
  have h := same_blocks E pa pb ca cb D.held l (by rwa [hl]) (by rwa [hl]) (fun b hb => by have := held_64 hf.ok b hb; rwa [encB_length] at this) (by omega)
  rwa [hl] at h
def someTrue (n j : Nat) : List Bool := List.replicate j true ++ List.replicate (n - j) false
theorem someTrue_length {n j : Nat} (h : j ≤ n) : (someTrue n j).length = n := by simp [someTrue]; omega
theorem someTrue_next {n j : Nat} (h : j < n) : (someTrue n j).set j true = someTrue n (j + 1) := by
  simp only [someTrue]
  rw [List.set_append_right _ _ (by simp), List.length_replicate, Nat.sub_self, show n - j = (n - (j + 1)) + 1 by omega, List.replicate_succ, List.set_cons_zero, List.replicate_succ']
  simp
theorem held_at {D : Dk} (h : D.safe.length = 6) {j : Nat} (hj : j < 6) : D.held[j]? = some (D.read (j : Int)) := by
  unfold Dk.held; rw [List.getElem?_map, List.getElem?_range (by omega)]; rfl
theorem disk_safe (p : Option Addr) (cap : Nat) (xs : List OpA) (kp : Option Addr) (kc : Nat) (ks : List Bool) (r : List HProp) (hx : OpsIn r p cap xs) (hk : InL r kp ks.length kc (ks.map Value.bool)) :
    Fc prog E 6 [.slice p xs.length cap, .slice kp ks.length kc].toArray r (fun v l' => v = .bool true ∧ l' = r) := by
  refine Fc.eqs ?_
  have hf : Fine (Dk.worn xs) := wear_fine _ _ fine_new
  have hp : (Dk.worn xs).pending.length ≤ 1000 := by
    have h1 := wear_pending (xs.take 120) (Dk.new 6)
    have h2 : (Dk.new 6).pending.length = 0 := rfl
    have h3 : (xs.take 120).length ≤ 120 := by rw [List.length_take]; omega
    show (wear (Dk.new 6) (xs.take 120)).pending.length ≤ 1000
    omega
  have hworn := worn_spec E p cap xs r hx
  generalize Dk.worn xs = D at hf hp hworn
  have hcopy : ∀ d l, Fc prog E 36 [Value.pointer (some ⟨d, 0, none⟩)].toArray (disk d D :: l) (fun v l' => ∃ d2, v = .pointer (some ⟨d2, 0, none⟩) ∧ l' = disk d2 D :: disk d D :: l) := fun d l => copy_spec E d D l (by omega)
  have hnilIn : ∀ l, InL l none 0 0 (([] : List Bool).map Value.bool) := fun l => ⟨Nat.le_refl _, Nat.zero_le _, .inr ⟨rfl, rfl⟩⟩
  have hcn : ∀ d D' l, D'.pending.length ≤ 1000 → Fc prog E 34 [.pointer (some ⟨d, 0, none⟩), .slice none 0 0].toArray (disk d D' :: l) (fun v l' => v = .int .i64 0 ∧ l' = disk d (D'.crash []) :: l) := fun d D' l h => crash_spec E d D' none 0 [] l (hnilIn l) (by omega)
  have hsync : ∀ d l, Fc prog E 32 [Value.pointer (some ⟨d, 0, none⟩)].toArray (disk d D :: l) (fun v l' => v = .int .i64 0 ∧ l' = disk d (D.does.settle (fun _ => true)) :: l) := fun d l => by
    have h := sync_spec E d D l (by omega)
    rwa [fine_sync hf] at h
  have hcr0 : ∀ bs : List Bool, (D.crash bs).pending.length ≤ 1000 := fun bs => Nat.zero_le _
  have hh1 : ∀ d l, Fc prog E 20 [Value.pointer (some ⟨d, 0, none⟩)].toArray (disk d (D.crash (List.replicate D.pending.length true)) :: l) (fun v l' => ∃ a c, v = .slice a 6 c ∧ l' = own 27 64 v 6 (D.held.flatMap encB) :: disk d (D.crash (List.replicate D.pending.length true)) :: l) := fun d l => by
    have h := held6 E d _ l (hcr0 (List.replicate D.pending.length true)) (fine_crash hf _).len
    rwa [crash_all_held hf] at h
  have hh2 : ∀ d l, Fc prog E 20 [Value.pointer (some ⟨d, 0, none⟩)].toArray (disk d ((D.does.settle (fun _ => true)).crash []) :: l) (fun v l' => ∃ a c, v = .slice a 6 c ∧ l' = own 27 64 v 6 (D.held.flatMap encB) :: disk d ((D.does.settle (fun _ => true)).crash []) :: l) := fun d l => by
    have h := held6 E d ((D.does.settle (fun _ => true)).crash []) l (Nat.zero_le _) (fine_crash (fine_settle hf _) _).len
    rwa [sync_crash_held hf] at h
  have hpend0 : ∀ d l, Fc prog E 33 [Value.pointer (some ⟨d, 0, none⟩)].toArray (disk d (D.crash ks) :: l) (fun v l' => ∃ a c, v = .slice a 0 c ∧ l' = disk d (D.crash ks) :: own 3 1 v 0 [] :: l) := fun d l => pending_spec E d (D.crash ks) l (Nat.zero_le _)
  have hdead0 : ∀ d l, Fc prog E 31 [Value.pointer (some ⟨d, 0, none⟩)].toArray (disk d (D.crash ks) :: l) (fun v l' => v = .bool false ∧ l' = disk d (D.crash ks) :: l) := fun d l => dead_spec E d (D.crash ks) l
  obtain ⟨n, hn⟩ : ∃ n, D.pending.length = n := ⟨_, rfl⟩
  rw [hn] at hp
  have hpend : ∀ d l, Fc prog E 33 [Value.pointer (some ⟨d, 0, none⟩)].toArray (disk d D :: l) (fun v l' => ∃ a c, v = .slice a n c ∧ l' = disk d D :: own 3 1 v n (D.pending.map fun p => Value.int .i64 p.1) :: l) := fun d l => by
    have h := pending_spec E d D l (by omega)
    rwa [hn] at h
  have hcyes : ∀ d b l, InL l (some ⟨b, 0, none⟩) n n ((List.replicate n true).map Value.bool) → Fc prog E 34 [.pointer (some ⟨d, 0, none⟩), .slice (some ⟨b, 0, none⟩) n n].toArray (disk d D :: l) (fun v l' => v = .int .i64 0 ∧ l' = disk d (D.crash (List.replicate D.pending.length true)) :: l) := fun d b l hin => by
    have h := crash_spec E d D (some ⟨b, 0, none⟩) n (List.replicate n true) l (by rwa [List.length_replicate]) (by omega)
    rw [List.length_replicate] at h
    rwa [hn]
  have hcone : ∀ d b k l, InL l (some ⟨b, 0, none⟩) (k + 1) (k + 1) ((oneBit k).map Value.bool) → Fc prog E 34 [.pointer (some ⟨d, 0, none⟩), .slice (some ⟨b, 0, none⟩) (k + 1) (k + 1)].toArray (disk d D :: l) (fun v l' => v = .int .i64 0 ∧ l' = disk d (D.crash (oneBit k)) :: l) := fun d b k l hin => by
    have h := crash_spec E d D (some ⟨b, 0, none⟩) (k + 1) (oneBit k) l (by rwa [oneBit_length]) (by omega)
    rwa [oneBit_length] at h
  have hgot : ∀ b ∈ (D.crash ks).held, (encB b).length = 64 := held_64 (fine_crash hf ks).ok
  have hwas : ∀ b ∈ (D.crash []).held, (encB b).length = 64 := held_64 (fine_crash hf []).ok
  refine Fc.of_body (c := ?c) Try.func6 ?hb Try.ntmps6 ?hl ?_
  case hb => exact rfl
  case hl => exact rfl
  refine J.seq ?_
  refine J.region ?_
  refine JL.step (y_assign rfl) rfl rfl rfl ?_
  refine JL.nil ?_
  refine JE.then_normal ?_
  refine J.seq ?_
  refine J.seq ?_
  refine J.region ?_
  refine JL.loud rfl (l_callF e15 rfl rfl (wakes_spec E _) ?_)
  rintro _ l1 ⟨rfl, e1⟩
  obtain rfl := e1.symm
  refine JL.step (y_not rfl) rfl rfl rfl ?_
  refine JL.nil ?_
  refine JE.then_normal ?_
  refine J.cond_f rfl (by (first | rfl | assumption | (simp; done) | (simp; omega))) ?_
  refine J.skip ?_
  refine JE.then_normal ?_
  refine J.seq ?_
  refine J.region ?_
  refine JL.step (y_move rfl) rfl rfl rfl ?_
  refine JL.loud rfl (l_callF e16 rfl rfl (hworn) ?_)
  rintro _ _ ⟨d, rfl, rfl⟩
  refine JL.step (y_assign rfl) rfl rfl rfl ?_
  refine JL.nil ?_
  refine JE.then_normal ?_
  refine J.seq ?_
  refine J.seq ?_
  refine J.region ?_
  refine JL.step (y_move rfl) rfl rfl rfl (JL.step (y_ptr_eq_nil hT rfl rfl rfl rfl) rfl rfl rfl ?_)
  refine JL.nil ?_
  refine JE.then_normal ?_
  refine J.cond_f rfl (by (first | rfl | assumption | (simp; done) | (simp; omega))) ?_
  refine J.skip ?_
  refine JE.then_normal ?_
  refine J.seq ?_
  refine J.region ?_
  refine JL.step (y_move rfl) rfl rfl rfl ?_
  refine JL.loud rfl (l_callF e20 rfl rfl (held6 E d D _ (by omega) hf.len) ?_)
  rintro _ _ ⟨pn, cn, rfl, rfl⟩
  refine JL.step (y_assign rfl) rfl rfl rfl ?_
  refine JL.nil ?_
  refine JE.then_normal ?_
  refine J.seq ?_
  refine J.region ?_
  refine JL.step (y_move rfl) rfl rfl rfl ?_
  refine JL.loud rfl (l_callF e36 rfl rfl (Fc.on (Split.cons (by (repeat (first | exact Pick.head | apply Pick.tail))) Split.nil) (hcopy d _)) ?_)
  rintro _ _ ⟨d1, rfl, rfl⟩
  refine JL.step (y_move rfl) rfl rfl rfl ?_
  refine JL.loud rfl (l_callF e36 rfl rfl (Fc.on (Split.cons (by (repeat (first | exact Pick.head | apply Pick.tail))) Split.nil) (hcopy d _)) ?_)
  rintro _ _ ⟨d2, rfl, rfl⟩
  refine JL.step (y_move rfl) rfl rfl rfl ?_
  refine JL.loud rfl (l_callF e36 rfl rfl (Fc.on (Split.cons (by (repeat (first | exact Pick.head | apply Pick.tail))) Split.nil) (hcopy d _)) ?_)
  rintro _ _ ⟨d3, rfl, rfl⟩
  refine JL.step (y_assign rfl) rfl rfl rfl (JL.step (y_assign rfl) rfl rfl rfl (JL.step (y_assign rfl) rfl rfl rfl ?_))
  refine JL.nil ?_
  refine JE.then_normal ?_
  refine J.seq ?_
  refine J.region ?_
  refine JL.step (y_move rfl) rfl rfl rfl ?_
  refine JL.loud rfl (l_callF e33 rfl rfl (Fc.on (Split.cons (by (repeat (first | exact Pick.head | apply Pick.tail))) Split.nil) (hpend d _)) ?_)
  rintro _ _ ⟨pp, pc, rfl, rfl⟩
  refine JL.step (y_len_slice hT rfl rfl rfl) rfl rfl rfl ?_
  refine JL.loud rfl (l_makeSlice hT rfl rfl rfl rfl rfl rfl (by omega) (by omega) (mk_fits rfl (by omega) (by omega)) (by omega) rfl (fun bk => ?_))
  have hmk : (madeCells (Value.bool false).cells ((n : Int).toNat * i4.size)).toList = (someTrue n 0).map Value.bool := by
    rw [show (Value.bool false).cells = (List.replicate 1 (Value.bool false)).toArray from rfl, madeCells_rep _ (by omega), someTrue]
    simp [i4]
  refine JL.pre (l' := row bk 4 ((someTrue n 0).map Value.bool) :: _) (fun w s => by rw [← hmk]; exact s) ?_
  refine JL.step (y_assign rfl) rfl rfl rfl ?_
  refine JL.nil ?_
  refine JE.then_normal ?_
  refine J.seq ?_
  refine J.seq ?_
  refine J.region ?_
  refine JL.step (y_move rfl) rfl rfl rfl (JL.step (y_len_slice hT rfl rfl rfl) rfl rfl rfl (JL.step (y_move rfl) rfl rfl rfl ?_))
  refine JL.nil ?_
  refine JE.then_normal ?_
  refine J.block ?_
  refine J.loop (α := Nat) (fun i => i ≤ n) (fun i => [(1, .slice kp ks.length kc), (5, .pointer (some ⟨d, 0, none⟩)), (6, .slice pn 6 cn), (7, .pointer (some ⟨d1, 0, none⟩)), (8, .pointer (some ⟨d2, 0, none⟩)), (9, .pointer (some ⟨d3, 0, none⟩)), (10, .slice (some ⟨bk, 0, none⟩) n n), (42, .int .i64 (n : Nat)), (43, .int .i64 i)]) (fun i => row bk 4 ((someTrue n i).map Value.bool) :: disk d3 D :: disk d2 D :: disk d1 D :: disk d D :: own 27 64 (.slice pn 6 cn) 6 (D.held.flatMap encB) :: r) (fun i => n - i) 0 (by omega) ⟨rfl, rfl, rfl, rfl, rfl, rfl, rfl, rfl, rfl, trivial⟩ (fun w h => h.sup (by (repeat (first | exact Sup.refl | apply Sup.cons (by (repeat (first | exact Pick.head | apply Pick.tail))) | apply Sup.skip)))) ?_
  intro i hi
  refine J.seq ?_
  refine J.region ?_
  refine JL.step (y_lss rfl rfl) rfl rfl rfl ?_
  refine JL.nil ?_
  refine JE.then_normal ?_
  refine J.seq ?_
  first | apply J.cond_dec rfl | apply J.cond rfl
  case' ht =>
    intro h
    try (first | (exfalso; omega) | (cases h; done) | (exfalso; simp at h; done) | subst h)
    all_goals
      refine J.skip ?_
  case' hf =>
    intro h
    try (first | (exfalso; omega) | (cases h; done) | (exfalso; simp at h; done) | subst h)
    all_goals
      refine J.exit ?_
      refine JE.then_exit ?_
      refine JE.then_exit ?_
      refine JE.block_exit ?_
      refine JE.then_normal ?_
      refine J.seq ?_
      refine J.seq ?_
      have hin : i = n := by omega
      have htr : someTrue n n = List.replicate n true := by simp [someTrue]
      rw [hin, htr]
      refine J.region ?_
      refine JL.step (y_move rfl) rfl rfl rfl (JL.step (y_move rfl) rfl rfl rfl ?_)
      refine JL.loud rfl (l_callF e34 rfl rfl (Fc.on (Split.cons (by (repeat (first | exact Pick.head | apply Pick.tail))) Split.nil) (hcyes d1 bk _ (InL.ofRow Pick.head (by unfold maxLen; omega)))) ?_)
      rintro _ _ ⟨rfl, rfl⟩
      refine JL.step (y_neq rfl rfl) rfl rfl rfl (JL.step (y_move rfl) rfl rfl rfl ?_)
      all_goals (first | (refine JL.gsplit_dec rfl rfl rfl (fun h => ?_) (fun h => ?_) <;> try (first | (exfalso; omega) | exact absurd rfl h)) | (refine JL.gsplit rfl rfl rfl (fun h => ?_) (fun h => ?_) <;> try (first | cases h | (exfalso; simp at h; done))) | skip)
      all_goals (first | refine JL.gskip rfl rfl rfl rfl rfl rfl ?_ | refine JL.gskipU rfl rfl rfl rfl rfl ?_ | refine JL.gstep rfl rfl rfl (y_move rfl) rfl rfl ?_)
      all_goals (first | refine JL.gskip rfl rfl rfl rfl rfl rfl ?_ | refine JL.gskipU rfl rfl rfl rfl rfl ?_ | (refine JL.gloud rfl rfl rfl (l_callF e34 rfl rfl (Fc.on (Split.cons (by (repeat (first | exact Pick.head | apply Pick.tail))) Split.nil) (hcn d3 D _ (by omega))) ?_); rintro _ _ ⟨rfl, rfl⟩))
      all_goals (first | refine JL.gskip rfl rfl rfl rfl rfl rfl ?_ | refine JL.gskipU rfl rfl rfl rfl rfl ?_ | refine JL.gstep rfl rfl rfl (y_neq rfl rfl) rfl rfl ?_)
      all_goals (refine JL.step (y_pick rfl rfl rfl) rfl rfl rfl ?_)
      all_goals (refine JL.step (y_move rfl) rfl rfl rfl ?_)
      all_goals (first | (refine JL.gsplit_dec rfl rfl rfl (fun h => ?_) (fun h => ?_) <;> try (first | (exfalso; omega) | exact absurd rfl h)) | (refine JL.gsplit rfl rfl rfl (fun h => ?_) (fun h => ?_) <;> try (first | cases h | (exfalso; simp at h; done))) | skip)
      all_goals (first | refine JL.gskip rfl rfl rfl rfl rfl rfl ?_ | refine JL.gskipU rfl rfl rfl rfl rfl ?_ | refine JL.gstep rfl rfl rfl (y_move rfl) rfl rfl ?_)
      all_goals (first | refine JL.gskip rfl rfl rfl rfl rfl rfl ?_ | refine JL.gskipU rfl rfl rfl rfl rfl ?_ | (refine JL.gloud rfl rfl rfl (l_callF e32 rfl rfl (Fc.on (Split.cons (by (repeat (first | exact Pick.head | apply Pick.tail))) Split.nil) (hsync d _)) ?_); rintro _ _ ⟨rfl, rfl⟩))
      all_goals (first | refine JL.gskip rfl rfl rfl rfl rfl rfl ?_ | refine JL.gskipU rfl rfl rfl rfl rfl ?_ | refine JL.gstep rfl rfl rfl (y_neq rfl rfl) rfl rfl ?_)
      all_goals (refine JL.step (y_pick rfl rfl rfl) rfl rfl rfl ?_)
      all_goals (refine JL.step (y_move rfl) rfl rfl rfl ?_)
      all_goals (first | (refine JL.gsplit_dec rfl rfl rfl (fun h => ?_) (fun h => ?_) <;> try (first | (exfalso; omega) | exact absurd rfl h)) | (refine JL.gsplit rfl rfl rfl (fun h => ?_) (fun h => ?_) <;> try (first | cases h | (exfalso; simp at h; done))) | skip)
      all_goals (first | refine JL.gskip rfl rfl rfl rfl rfl rfl ?_ | refine JL.gskipU rfl rfl rfl rfl rfl ?_ | refine JL.gstep rfl rfl rfl (y_move rfl) rfl rfl ?_)
      all_goals (first | refine JL.gskip rfl rfl rfl rfl rfl rfl ?_ | refine JL.gskipU rfl rfl rfl rfl rfl ?_ | (refine JL.gloud rfl rfl rfl (l_callF e34 rfl rfl (Fc.on (Split.cons (by (repeat (first | exact Pick.head | apply Pick.tail))) Split.nil) (hcn d (D.does.settle (fun _ => true)) _ (Nat.zero_le _))) ?_); rintro _ _ ⟨rfl, rfl⟩))
      all_goals (first | refine JL.gskip rfl rfl rfl rfl rfl rfl ?_ | refine JL.gskipU rfl rfl rfl rfl rfl ?_ | refine JL.gstep rfl rfl rfl (y_neq rfl rfl) rfl rfl ?_)
      all_goals (refine JL.step (y_pick rfl rfl rfl) rfl rfl rfl ?_)
      all_goals refine JL.nil ?_
      all_goals refine JE.then_normal ?_
      all_goals
        refine J.cond_f rfl (by (first | rfl | assumption | (simp; done) | (simp; omega))) ?_
        refine J.skip ?_
      all_goals refine JE.then_normal ?_
      all_goals
        refine J.seq ?_
        refine J.seq ?_
        refine J.region ?_
        refine JL.step (y_move rfl) rfl rfl rfl ?_
        refine JL.loud rfl (l_callF e20 rfl rfl (Fc.on (Split.cons (by (repeat (first | exact Pick.head | apply Pick.tail))) Split.nil) (hh1 d1 _)) ?_)
        rintro _ _ ⟨pa, ca, rfl, rfl⟩
        refine JL.step (y_move rfl) rfl rfl rfl ?_
        refine JL.loud rfl (l_callF e35 rfl rfl (Fc.fact (fun w s => s.own_at) fun oa1 => Fc.fact (fun w s => (s.pick (by (repeat (first | exact Pick.head | apply Pick.tail)))).own_at) fun oa2 => same6 E hf pa pn ca cn _ (oa1.inl Pick.head) (oa2.inl (by (repeat (first | exact Pick.head | apply Pick.tail))))) ?_)
        rintro _ _ ⟨rfl, rfl⟩
        refine JL.step (y_not rfl) rfl rfl rfl (JL.step (y_move rfl) rfl rfl rfl ?_)
        all_goals (first | (refine JL.gsplit_dec rfl rfl rfl (fun h => ?_) (fun h => ?_) <;> try (first | (exfalso; omega) | exact absurd rfl h)) | (refine JL.gsplit rfl rfl rfl (fun h => ?_) (fun h => ?_) <;> try (first | cases h | (exfalso; simp at h; done))) | skip)
        all_goals (first | refine JL.gskip rfl rfl rfl rfl rfl rfl ?_ | refine JL.gskipU rfl rfl rfl rfl rfl ?_ | refine JL.gstep rfl rfl rfl (y_move rfl) rfl rfl ?_)
        all_goals (first | refine JL.gskip rfl rfl rfl rfl rfl rfl ?_ | refine JL.gskipU rfl rfl rfl rfl rfl ?_ | (refine JL.gloud rfl rfl rfl (l_callF e20 rfl rfl (Fc.on (Split.cons (by (repeat (first | exact Pick.head | apply Pick.tail))) Split.nil) (hh2 d _)) ?_); rintro _ _ ⟨pb, cb, rfl, rfl⟩))
        all_goals (first | refine JL.gskip rfl rfl rfl rfl rfl rfl ?_ | refine JL.gskipU rfl rfl rfl rfl rfl ?_ | refine JL.gstep rfl rfl rfl (y_move rfl) rfl rfl ?_)
        all_goals (first | refine JL.gskip rfl rfl rfl rfl rfl rfl ?_ | refine JL.gskipU rfl rfl rfl rfl rfl ?_ | (refine JL.gloud rfl rfl rfl (l_callF e35 rfl rfl (Fc.fact (fun w s => s.own_at) fun oa1 => Fc.fact (fun w s => (s.pick (by (repeat (first | exact Pick.head | apply Pick.tail)))).own_at) fun oa2 => same6 E hf pb pn cb cn _ (oa1.inl Pick.head) (oa2.inl (by (repeat (first | exact Pick.head | apply Pick.tail))))) ?_); rintro _ _ ⟨rfl, rfl⟩))
        all_goals (first | refine JL.gskip rfl rfl rfl rfl rfl rfl ?_ | refine JL.gskipU rfl rfl rfl rfl rfl ?_ | refine JL.gstep rfl rfl rfl (y_not rfl) rfl rfl ?_)
        all_goals (refine JL.step (y_pick rfl rfl rfl) rfl rfl rfl ?_)
        all_goals refine JL.nil ?_
        all_goals refine JE.then_normal ?_
        all_goals
          refine J.cond_f rfl (by (first | rfl | assumption | (simp; done) | (simp; omega))) ?_
          refine J.skip ?_
        all_goals refine JE.then_normal ?_
        all_goals
          refine J.seq ?_
          refine J.region ?_
          refine JL.step (y_move rfl) rfl rfl rfl ?_
          refine JL.loud rfl (l_callF e33 rfl rfl (Fc.on (Split.cons (by (repeat (first | exact Pick.head | apply Pick.tail))) Split.nil) (hpend d2 _)) ?_)
          rintro _ _ ⟨pq, qc, rfl, rfl⟩
          refine JL.step (y_assign rfl) rfl rfl rfl ?_
          refine JL.nil ?_
          refine JE.then_normal ?_
          refine J.seq ?_
          refine J.region ?_
          refine JL.step (y_move rfl) rfl rfl rfl ?_
          refine JL.loud rfl (l_callF e36 rfl rfl (Fc.on (Split.cons (by (repeat (first | exact Pick.head | apply Pick.tail))) Split.nil) (hcopy d2 _)) ?_)
          rintro _ _ ⟨d4, rfl, rfl⟩
          refine JL.step (y_assign rfl) rfl rfl rfl ?_
          refine JL.nil ?_
          refine JE.then_normal ?_
          refine J.seq ?_
          refine J.region ?_
          refine JL.step (y_move rfl) rfl rfl rfl ?_
          refine JL.loud rfl (l_callF e20 rfl rfl (Fc.on (Split.cons (by (repeat (first | exact Pick.head | apply Pick.tail))) Split.nil) (held6 E d3 (D.crash []) _ (hcr0 []) (fine_crash hf []).len)) ?_)
          rintro _ _ ⟨pw, cw, rfl, rfl⟩
          refine JL.step (y_assign rfl) rfl rfl rfl ?_
          refine JL.nil ?_
          refine JE.then_normal ?_
          refine J.seq ?_
          refine J.seq ?_
          refine J.region ?_
          refine JL.step (y_move rfl) rfl rfl rfl (JL.step (y_move rfl) rfl rfl rfl ?_)
          refine JL.loud rfl (l_callF e34 rfl rfl (Fc.on (Split.cons (by (repeat (first | exact Pick.head | apply Pick.tail))) Split.nil) (crash_spec E d2 D kp kc ks _ (by (repeat (first | assumption | apply InL.cons))) (by omega))) ?_)
          rintro _ _ ⟨rfl, rfl⟩
          refine JL.step (y_neq rfl rfl) rfl rfl rfl (JL.step (y_move rfl) rfl rfl rfl ?_)
          all_goals (first | (refine JL.gsplit_dec rfl rfl rfl (fun h => ?_) (fun h => ?_) <;> try (first | (exfalso; omega) | exact absurd rfl h)) | (refine JL.gsplit rfl rfl rfl (fun h => ?_) (fun h => ?_) <;> try (first | cases h | (exfalso; simp at h; done))) | skip)
          all_goals (first | refine JL.gskip rfl rfl rfl rfl rfl rfl ?_ | refine JL.gskipU rfl rfl rfl rfl rfl ?_ | refine JL.gstep rfl rfl rfl (y_move rfl) rfl rfl ?_)
          all_goals (first | refine JL.gskip rfl rfl rfl rfl rfl rfl ?_ | refine JL.gskipU rfl rfl rfl rfl rfl ?_ | refine JL.gstep rfl rfl rfl (y_ptr_eq_nil hT rfl rfl rfl rfl) rfl rfl ?_)
          all_goals (refine JL.step (y_pick rfl rfl rfl) rfl rfl rfl ?_)
          all_goals refine JL.nil ?_
          all_goals refine JE.then_normal ?_
          all_goals
            refine J.cond_f rfl (by (first | rfl | assumption | (simp; done) | (simp; omega))) ?_
            refine J.skip ?_
          all_goals refine JE.then_normal ?_
          all_goals
            refine J.seq ?_
            refine J.region ?_
            refine JL.step (y_move rfl) rfl rfl rfl ?_
            refine JL.loud rfl (l_callF e20 rfl rfl (Fc.on (Split.cons (by (repeat (first | exact Pick.head | apply Pick.tail))) Split.nil) (held6 E d2 (D.crash ks) _ (hcr0 ks) (fine_crash hf ks).len)) ?_)
            rintro _ _ ⟨pg, cg, rfl, rfl⟩
            refine JL.step (y_assign rfl) rfl rfl rfl ?_
            refine JL.nil ?_
            refine JE.then_normal ?_
            refine J.seq ?_
            refine J.seq ?_
            refine J.region ?_
            refine JL.step (y_move rfl) rfl rfl rfl (JL.step (y_len_slice hT rfl rfl rfl) rfl rfl rfl (JL.step (y_move rfl) rfl rfl rfl ?_))
            refine JL.nil ?_
            refine JE.then_normal ?_
            refine J.block ?_
            refine J.fact (fun w s => Sat.own_at (a := pw) (k := 6) (s.pick (by (repeat (first | exact Pick.head | apply Pick.tail))))) fun oaw => J.fact (fun w s => Sat.own_at (a := pg) (k := 6) (s.pick (by (repeat (first | exact Pick.head | apply Pick.tail))))) fun oag => J.fact (fun w s => Sat.own_at (a := pq) (k := n) (s.pick (by (repeat (first | exact Pick.head | apply Pick.tail))))) fun oaq => ?_
            obtain ⟨gw, rfl⟩ := oaw.at_.resolve_right (fun ⟨h0, _⟩ => by have := oaw.le; omega)
            obtain ⟨gg, rfl⟩ := oag.at_.resolve_right (fun ⟨h0, _⟩ => by have := oag.le; omega)
            refine J.loop (α := Nat) (fun j => j ≤ 6) (fun j => [(8, .pointer (some ⟨d2, 0, none⟩)), (12, .slice pq n qc), (13, .pointer (some ⟨d4, 0, none⟩)), (14, .slice (some ⟨gw, 0, none⟩) 6 cw), (15, .slice (some ⟨gg, 0, none⟩) 6 cg), (98, .int .i64 6), (99, .int .i64 j)]) (fun _ => own 3 1 (.slice pq n qc) n (D.pending.map fun p => Value.int .i64 p.1) :: disk d4 D :: own 27 64 (.slice (some ⟨gw, 0, none⟩) 6 cw) 6 ((D.crash []).held.flatMap encB) :: own 27 64 (.slice (some ⟨gg, 0, none⟩) 6 cg) 6 ((D.crash ks).held.flatMap encB) :: disk d2 (D.crash ks) :: r) (fun j => 6 - j) 0 (by omega) ⟨rfl, rfl, rfl, rfl, rfl, rfl, rfl, trivial⟩ (fun w h => h.sup (by (repeat (first | exact Sup.refl | apply Sup.cons (by (repeat (first | exact Pick.head | apply Pick.tail))) | apply Sup.skip)))) ?_
            intro j hj
            refine J.seq ?_
            refine J.region ?_
            refine JL.step (y_lss rfl rfl) rfl rfl rfl ?_
            refine JL.nil ?_
            refine JE.then_normal ?_
            refine J.seq ?_
            first | apply J.cond_dec rfl | apply J.cond rfl
            case' ht =>
              intro h
              try (first | (exfalso; omega) | (cases h; done) | (exfalso; simp at h; done) | subst h)
              all_goals
                refine J.skip ?_
            case' hf =>
              intro h
              try (first | (exfalso; omega) | (cases h; done) | (exfalso; simp at h; done) | subst h)
              all_goals
                refine J.exit ?_
                refine JE.then_exit ?_
                refine JE.then_exit ?_
                refine JE.block_exit ?_
                refine JE.then_normal ?_
                refine J.seq ?_
                refine J.region ?_
                refine JL.step (y_move rfl) rfl rfl rfl ?_
                refine JL.loud rfl (l_callF e33 rfl rfl (Fc.on (Split.cons (by (repeat (first | exact Pick.head | apply Pick.tail))) Split.nil) (hpend0 d2 _)) ?_)
                rintro _ _ ⟨pz, cz, rfl, rfl⟩
                refine JL.step (y_len_slice hT rfl rfl rfl) rfl rfl rfl (JL.step (y_eql rfl rfl) rfl rfl rfl (JL.step (y_move rfl) rfl rfl rfl ?_))
                all_goals (first | (refine JL.gsplit_dec rfl rfl rfl (fun h => ?_) (fun h => ?_) <;> try (first | (exfalso; omega) | exact absurd rfl h)) | (refine JL.gsplit rfl rfl rfl (fun h => ?_) (fun h => ?_) <;> try (first | cases h | (exfalso; simp at h; done))) | skip)
                all_goals (first | refine JL.gskip rfl rfl rfl rfl rfl rfl ?_ | refine JL.gskipU rfl rfl rfl rfl rfl ?_ | refine JL.gstep rfl rfl rfl (y_move rfl) rfl rfl ?_)
                all_goals (first | refine JL.gskip rfl rfl rfl rfl rfl rfl ?_ | refine JL.gskipU rfl rfl rfl rfl rfl ?_ | (refine JL.gloud rfl rfl rfl (l_callF e31 rfl rfl (Fc.on (Split.cons (by (repeat (first | exact Pick.head | apply Pick.tail))) Split.nil) (hdead0 d2 _)) ?_); rintro _ _ ⟨rfl, rfl⟩))
                all_goals (first | refine JL.gskip rfl rfl rfl rfl rfl rfl ?_ | refine JL.gskipU rfl rfl rfl rfl rfl ?_ | refine JL.gstep rfl rfl rfl (y_not rfl) rfl rfl ?_)
                all_goals (refine JL.step (y_pick rfl rfl rfl) rfl rfl rfl ?_)
                all_goals (refine JL.step (y_assign rfl) rfl rfl rfl ?_)
                all_goals refine JL.nil ?_
                all_goals refine JE.then_normal ?_
                all_goals
                  refine J.ret ?_
                  refine JE.ret1 (.inl rfl) rfl rfl (by (first | exact RV.tmp rfl | exact RV.cell1 hT rfl rfl rfl (by (exact Rd1.row (by (repeat (first | exact Pick.head | apply Pick.tail))) (by rfl))) | exact RV.cellN hT rfl rfl rfl (by (first | exact RdN.rowAll (by (repeat (first | exact Pick.head | apply Pick.tail))) | exact RdN.own (by (repeat (first | exact Pick.head | apply Pick.tail))))) (by (first | rfl | assumption | (simp; done) | omega)))) ?_
                  exact ⟨rfl, fun w q => q.sup (by (repeat (first | exact Sup.refl | apply Sup.cons (by (repeat (first | exact Pick.head | apply Pick.tail))) | apply Sup.skip)))⟩
            all_goals refine JE.then_normal ?_
            all_goals
              refine J.seq ?_
              refine J.block ?_
              refine J.seq ?_
              refine J.region ?_
              refine JL.step (y_move rfl) rfl rfl rfl (JL.step (y_assign rfl) rfl rfl rfl ?_)
              refine JL.nil ?_
              refine JE.then_normal ?_
              refine J.seq ?_
              have hg6 := held_at (fine_crash hf ks).len (j := j) (by omega)
              have hw6 := held_at (fine_crash hf []).len (j := j) (by omega)
              have hgl := (fine_crash hf ks).ok.read (j : Int)
              have hwl := (fine_crash hf []).ok.read (j : Int)
              have hgL : (encB ((D.crash ks).read (j : Int))).length = 64 := (encB_length _).trans hgl
              have hwL : (encB ((D.crash []).read (j : Int))).length = 64 := (encB_length _).trans hwl
              refine J.draw _ _ [(0, .q), (1, .q), (2, .q), (3, .q), (4, .q), (5, .q), (6, .q), (7, .q), (8, .q), (9, .q)] mixed (by kernel_rfl) (Split.nil) ?_
              refine JM.quiet rfl rfl rfl rfl (fun m => y_move rfl) ?_
              refine JM.quiet rfl rfl rfl rfl (fun m => y_move rfl) ?_
              refine JM.quiet rfl rfl rfl rfl (fun m => y_indexAddr_slice hT rfl rfl rfl rfl rfl (by (first | omega | exact Nat.le_of_ble_eq_true rfl | decide | (simp; omega))) (by (first | omega | exact Nat.le_of_ble_eq_true rfl | decide | (simp; omega)))) ?_
              refine JM.quiet rfl rfl rfl rfl (fun m => y_loadN hT rfl rfl rfl ((RdN.own (Pick.app m (by (repeat (first | exact Pick.head | apply Pick.tail))))).elem hgot hg6) hgL) ?_
              refine JM.quiet rfl rfl rfl rfl (fun m => y_move rfl) ?_
              refine JM.quiet rfl rfl rfl rfl (fun m => y_move rfl) ?_
              refine JM.quiet rfl rfl rfl rfl (fun m => y_indexAddr_slice hT rfl rfl rfl rfl rfl (by (first | omega | exact Nat.le_of_ble_eq_true rfl | decide | (simp; omega))) (by (first | omega | exact Nat.le_of_ble_eq_true rfl | decide | (simp; omega)))) ?_
              refine JM.quiet rfl rfl rfl rfl (fun m => y_loadN hT rfl rfl rfl ((RdN.own (Pick.app m (by (repeat (first | exact Pick.head | apply Pick.tail))))).elem hwas hw6) hwL) ?_
              refine JM.quiet rfl rfl rfl rfl (fun m => y_arr_eq hT rfl rfl rfl rfl rfl rfl rfl (by (first | rfl | assumption | (simp; done) | omega)) (by (first | rfl | assumption | (simp; done) | omega))) ?_
              refine JM.quiet rfl rfl rfl rfl (fun m => y_assign rfl) ?_
              refine JM.nil ?_
              refine JE.then_normal ?_
              refine J.seq ?_
              refine J.seq ?_
              refine J.region ?_
              refine JL.step (y_move rfl) rfl rfl rfl (JL.step (y_len_slice hT rfl rfl rfl) rfl rfl rfl (JL.step (y_move rfl) rfl rfl rfl ?_))
              refine JL.nil ?_
              refine JE.then_normal ?_
              refine J.block ?_
              refine J.loop (α := Nat × Bool) (fun s => s.1 ≤ n ∧ (s.2 = true ↔ FineAt D ks j s.1)) (fun s => [(8, .pointer (some ⟨d2, 0, none⟩)), (12, .slice pq n qc), (13, .pointer (some ⟨d4, 0, none⟩)), (14, .slice (some ⟨gw, 0, none⟩) 6 cw), (15, .slice (some ⟨gg, 0, none⟩) 6 cg), (16, .int .i64 j), (17, .bool s.2), (98, .int .i64 6), (99, .int .i64 j), (112, .int .i64 n), (113, .int .i64 s.1)]) (fun _ => own 3 1 (.slice pq n qc) n (D.pending.map fun p => Value.int .i64 p.1) :: disk d4 D :: own 27 64 (.slice (some ⟨gw, 0, none⟩) 6 cw) 6 ((D.crash []).held.flatMap encB) :: own 27 64 (.slice (some ⟨gg, 0, none⟩) 6 cg) 6 ((D.crash ks).held.flatMap encB) :: disk d2 (D.crash ks) :: r) (fun s => n - s.1) (0, decide ((D.crash ks).read (j : Int) = (D.crash []).read (j : Int))) ⟨Nat.zero_le _, by rw [fineAt_zero]; simp⟩ ⟨rfl, rfl, rfl, rfl, rfl, rfl, rfl, rfl, rfl, rfl, rfl, trivial⟩ (fun w h => h.sup (by (repeat (first | exact Sup.refl | apply Sup.cons (by (repeat (first | exact Pick.head | apply Pick.tail))) | apply Sup.skip)))) ?_
              rintro ⟨k, fb⟩ ⟨hk, hfb⟩
              dsimp only at hk hfb ⊢
              refine J.seq ?_
              refine J.region ?_
              refine JL.step (y_lss rfl rfl) rfl rfl rfl ?_
              refine JL.nil ?_
              refine JE.then_normal ?_
              refine J.seq ?_
              first | apply J.cond_dec rfl | apply J.cond rfl
              case' ht =>
                intro h
                try (first | (exfalso; omega) | (cases h; done) | (exfalso; simp at h; done) | subst h)
                all_goals
                  refine J.skip ?_
              case' hf =>
                intro h
                try (first | (exfalso; omega) | (cases h; done) | (exfalso; simp at h; done) | subst h)
                all_goals
                  refine J.exit ?_
                  refine JE.then_exit ?_
                  refine JE.then_exit ?_
                  refine JE.block_exit ?_
                  refine JE.then_normal ?_
                  refine J.seq ?_
                  have hkn : k = n := by omega
                  obtain rfl : fb = true := hfb.2 (by rw [hkn, ← hn]; exact fineAt_all hf ks (by omega))
                  refine J.region ?_
                  refine JL.step (y_move rfl) rfl rfl rfl (JL.step (y_not rfl) rfl rfl rfl ?_)
                  refine JL.nil ?_
                  refine JE.then_normal ?_
                  refine J.cond_f rfl (by (first | rfl | assumption | (simp; done) | (simp; omega))) ?_
                  refine J.skip ?_
                  refine JE.block_normal ?_
                  refine JE.then_normal ?_
                  refine J.region ?_
                  refine JL.step (y_add rfl rfl (by (first | exact wrap_i64 (by omega) (by omega) | rfl))) rfl rfl rfl ?_
                  refine JL.step (y_move rfl) rfl rfl rfl ?_
                  refine JL.nil ?_
                  exact JE.round (s := j) (j + 1) (by omega) ⟨rfl, rfl, rfl, rfl, rfl, rfl, rfl, trivial⟩ (fun w q => q.sup (by (repeat (first | exact Sup.refl | apply Sup.cons (by (repeat (first | exact Pick.head | apply Pick.tail))) | apply Sup.skip)))) (by omega)
              all_goals refine JE.then_normal ?_
              all_goals
                refine J.seq ?_
                refine J.block ?_
                refine J.seq ?_
                refine J.region ?_
                refine JL.step (y_move rfl) rfl rfl rfl (JL.step (y_assign rfl) rfl rfl rfl ?_)
                refine JL.nil ?_
                refine JE.then_normal ?_
                refine J.seq ?_
                refine J.region ?_
                obtain ⟨x, hxk⟩ : ∃ x, D.pending[k]? = some x := ⟨_, List.getElem?_eq_getElem (by omega)⟩
                have hpk : (D.pending.map fun p => Value.int .i64 p.1)[k]? = some (.int .i64 x.1) := by rw [List.getElem?_map, hxk]; rfl
                obtain ⟨gq, rfl⟩ := oaq.at_.resolve_right (fun ⟨h0, _⟩ => by have := oaq.le; omega)
                refine JL.step (y_move rfl) rfl rfl rfl ?_
                refine JL.step (y_add (m := ((k + 1 : Nat) : Int)) rfl rfl (by rw [show (k : Int) + 1 = ((k + 1 : Nat) : Int) by omega]; exact wrap_i64 (by omega) (by omega))) rfl rfl rfl ?_
                refine JL.loud rfl (l_makeSlice hT rfl rfl rfl rfl rfl rfl (by omega) (by omega) (mk_fits rfl (by omega) (by omega)) (by omega) rfl (fun bo => ?_))
                have hmk : (madeCells (Value.bool false).cells ((((k + 1 : Nat) : Int)).toNat * i4.size)).toList = (List.replicate (k + 1) false).map Value.bool := by
                  rw [show (Value.bool false).cells = (List.replicate 1 (Value.bool false)).toArray from rfl, madeCells_rep _ (by omega)]
                  simp [i4]
                refine JL.pre (l' := row bo 4 ((List.replicate (k + 1) false).map Value.bool) :: _) (fun w s => by rw [← hmk]; exact s) ?_
                refine JL.step (y_assign rfl) rfl rfl rfl ?_
                refine JL.nil ?_
                refine JE.then_normal ?_
                refine J.seq ?_
                refine J.region ?_
                refine JL.step (y_move rfl) rfl rfl rfl (JL.step (y_move rfl) rfl rfl rfl ?_)
                refine JL.step (y_indexAddr_slice hT rfl rfl rfl rfl rfl (by (first | omega | exact Nat.le_of_ble_eq_true rfl | decide | (simp; omega))) (by (first | omega | exact Nat.le_of_ble_eq_true rfl | decide | (simp; omega)))) rfl rfl rfl ?_
                refine JL.loud rfl (l_store1 hT rfl rfl rfl rfl rfl (by (repeat (first | exact Pick.head | apply Pick.tail))) (by rw [List.length_map, List.length_replicate, show i4.size = 1 from rfl]; omega) ?_)
                refine JL.nil ?_
                refine JE.then_normal ?_
                refine J.seq ?_
                have e : ((List.replicate (k + 1) false).map Value.bool).set (0 + (k : Int).toNat * i4.size) (.bool true) = (oneBit k).map Value.bool := by
                  rw [show 0 + (k : Int).toNat * i4.size = k by simp [i4], oneBit, ← List.map_set]
                  congr 1
                  apply List.ext_getElem?
                  intro i
                  rw [List.getElem?_set]
                  by_cases h1 : k = i
                  · subst h1; simp
                  · rw [if_neg h1, List.getElem?_replicate, List.getElem?_append]
                    by_cases h2 : i < k
                    · rw [if_pos (by omega), if_pos (by simpa using h2), List.getElem?_replicate, if_pos h2]
                    · rw [if_neg (by omega), if_neg (by simpa using h2), List.getElem?_eq_none (by simp; omega)]
                rw [e]
                refine J.region ?_
                refine JL.step (y_move rfl) rfl rfl rfl ?_
                refine JL.loud rfl (l_callF e36 rfl rfl (Fc.on (Split.cons (by (repeat (first | exact Pick.head | apply Pick.tail))) Split.nil) (hcopy d4 _)) ?_)
                rintro _ _ ⟨d5, rfl, rfl⟩
                refine JL.step (y_assign rfl) rfl rfl rfl ?_
                refine JL.nil ?_
                refine JE.then_normal ?_
                refine J.seq ?_
                refine J.region ?_
                refine JL.step (y_move rfl) rfl rfl rfl (JL.step (y_move rfl) rfl rfl rfl ?_)
                refine JL.loud rfl (l_callF e34 rfl rfl (Fc.on (Split.cons (by (repeat (first | exact Pick.head | apply Pick.tail))) Split.nil) (hcone d5 bo k _ (InL.ofRow (by (repeat (first | exact Pick.head | apply Pick.tail))) (by unfold maxLen; omega)))) ?_)
                rintro _ _ ⟨rfl, rfl⟩
                refine JL.nil ?_
                refine JE.then_normal ?_
                refine J.seq ?_
                refine J.region ?_
                have hol := (fine_crash hf (oneBit k)).ok.read (j : Int)
                have hoL : (encB ((D.crash (oneBit k)).read (j : Int))).length = 64 := (encB_length _).trans hol
                have hg6 := held_at (fine_crash hf ks).len (j := j) (by omega)
                have hgl := (fine_crash hf ks).ok.read (j : Int)
                have hgL : (encB ((D.crash ks).read (j : Int))).length = 64 := (encB_length _).trans hgl
                refine JL.step (y_move rfl) rfl rfl rfl (JL.step (y_move rfl) rfl rfl rfl ?_)
                refine JL.loud rfl (l_callF e27 rfl rfl (Fc.on (Split.cons (by (repeat (first | exact Pick.head | apply Pick.tail))) Split.nil) (read_spec E d5 (D.crash (oneBit k)) (j : Int) _ (Nat.zero_le _))) ?_)
                rintro _ _ ⟨rfl, rfl⟩
                refine JL.step (y_move rfl) rfl rfl rfl (JL.step (y_extract rfl rfl) rfl rfl rfl (JL.step (y_extract rfl rfl) rfl rfl rfl ?_))
                refine JL.loud rfl (l_alloc hT rfl rfl (by (first | rfl | simp)) rfl (fun b26 => ?_))
                refine JL.loud rfl (l_storeAll hT rfl rfl rfl (by (first | rfl | assumption | (simp; done) | omega)) (by (first | assumption | exact ones_of rfl | exact encW_one _ | exact encB_one _ | (intro u hu; simp at hu; rcases hu with rfl | rfl <;> rfl) | (intro u hu; simp at hu; subst hu; rfl) | simp)) (by (repeat (first | exact Pick.head | apply Pick.tail))) (by (first | rfl | assumption | (simp; done) | omega)) ?_)
                refine JL.step (y_assign rfl) rfl rfl rfl ?_
                refine JL.nil ?_
                refine JE.then_normal ?_
                refine J.draw _ _ [(0, .q), (1, .q), (2, .q), (3, .q), (4, .q), (5, .q), (6, .q), (7, .q), (8, .q), (9, .q), (10, .q), (11, .q), (12, .q), (13, .q), (14, .q), (15, .q), (16, .q), (17, .q)] mixed (by kernel_rfl) (Split.nil) ?_
                cases fb <;> by_cases hpj : x.1 = (j : Int)
                all_goals refine JM.quiet rfl rfl rfl rfl (fun m => y_move rfl) ?_
                all_goals refine JM.quiet rfl rfl rfl rfl (fun m => y_move rfl) ?_
                all_goals (first | refine JM.gskip rfl rfl rfl rfl rfl rfl rfl ?_ | refine JM.gskipU rfl rfl rfl rfl rfl rfl ?_ | refine JM.gquiet rfl rfl rfl rfl rfl rfl (fun m => y_move rfl) ?_)
                all_goals (first | refine JM.gskip rfl rfl rfl rfl rfl rfl rfl ?_ | refine JM.gskipU rfl rfl rfl rfl rfl rfl ?_ | refine JM.gquiet rfl rfl rfl rfl rfl rfl (fun m => y_move rfl) ?_)
                all_goals (first | refine JM.gskip rfl rfl rfl rfl rfl rfl rfl ?_ | refine JM.gskipU rfl rfl rfl rfl rfl rfl ?_ | refine JM.gquiet rfl rfl rfl rfl rfl rfl (fun m => y_indexAddr_slice hT rfl rfl rfl rfl rfl (by (first | omega | exact Nat.le_of_ble_eq_true rfl | decide | (simp; omega))) (by (first | omega | exact Nat.le_of_ble_eq_true rfl | decide | (simp; omega)))) ?_)
                all_goals (first | refine JM.gskip rfl rfl rfl rfl rfl rfl rfl ?_ | refine JM.gskipU rfl rfl rfl rfl rfl rfl ?_ | refine JM.gquiet rfl rfl rfl rfl rfl rfl (fun m => y_load1 hT rfl rfl rfl (Rd1.elem (RdN.own (Pick.app m (by (repeat (first | exact Pick.head | apply Pick.tail))))) hpk)) ?_)
                all_goals (first | refine JM.gskip rfl rfl rfl rfl rfl rfl rfl ?_ | refine JM.gskipU rfl rfl rfl rfl rfl rfl ?_ | refine JM.gquiet rfl rfl rfl rfl rfl rfl (fun m => y_move rfl) ?_)
                all_goals (first | refine JM.gskip rfl rfl rfl rfl rfl rfl rfl ?_ | refine JM.gskipU rfl rfl rfl rfl rfl rfl ?_ | refine JM.gquiet rfl rfl rfl rfl rfl rfl (fun m => y_eqlB rfl rfl (decide_eq_true hpj)) ?_ | refine JM.gquiet rfl rfl rfl rfl rfl rfl (fun m => y_eqlB rfl rfl (decide_eq_false hpj)) ?_)
                all_goals (first | refine JM.gskip rfl rfl rfl rfl rfl rfl rfl ?_ | refine JM.gskipU rfl rfl rfl rfl rfl rfl ?_ | refine JM.gquiet rfl rfl rfl rfl rfl rfl (fun m => y_move rfl) ?_)
                all_goals (first | refine JM.gskip rfl rfl rfl rfl rfl rfl rfl ?_ | refine JM.gskipU rfl rfl rfl rfl rfl rfl ?_ | refine JM.gquiet rfl rfl rfl rfl rfl rfl (fun m => y_move rfl) ?_)
                all_goals (first | refine JM.gskip rfl rfl rfl rfl rfl rfl rfl ?_ | refine JM.gskipU rfl rfl rfl rfl rfl rfl ?_ | refine JM.gquiet rfl rfl rfl rfl rfl rfl (fun m => y_move rfl) ?_)
                all_goals (first | refine JM.gskip rfl rfl rfl rfl rfl rfl rfl ?_ | refine JM.gskipU rfl rfl rfl rfl rfl rfl ?_ | refine JM.gquiet rfl rfl rfl rfl rfl rfl (fun m => y_indexAddr_slice hT rfl rfl rfl rfl rfl (by (first | omega | exact Nat.le_of_ble_eq_true rfl | decide | (simp; omega))) (by (first | omega | exact Nat.le_of_ble_eq_true rfl | decide | (simp; omega)))) ?_)
                all_goals (first | refine JM.gskip rfl rfl rfl rfl rfl rfl rfl ?_ | refine JM.gskipU rfl rfl rfl rfl rfl rfl ?_ | refine JM.gquiet rfl rfl rfl rfl rfl rfl (fun m => y_loadN hT rfl rfl rfl ((RdN.own (Pick.app m (by (repeat (first | exact Pick.head | apply Pick.tail))))).elem hgot hg6) hgL) ?_)
                all_goals (first | refine JM.gskip rfl rfl rfl rfl rfl rfl rfl ?_ | refine JM.gskipU rfl rfl rfl rfl rfl rfl ?_ | refine JM.gquiet rfl rfl rfl rfl rfl rfl (fun m => y_loadN hT rfl rfl rfl (by (first | exact RdN.rowAll (Pick.app m (by (repeat (first | exact Pick.head | apply Pick.tail)))) | exact RdN.own (Pick.app m (by (repeat (first | exact Pick.head | apply Pick.tail)))))) (by (first | rfl | assumption | (simp; done) | omega))) ?_)
                all_goals (first | refine JM.gskip rfl rfl rfl rfl rfl rfl rfl ?_ | refine JM.gskipU rfl rfl rfl rfl rfl rfl ?_ | refine JM.gquiet rfl rfl rfl rfl rfl rfl (fun m => y_arr_eq hT rfl rfl rfl rfl rfl rfl rfl (by (first | rfl | assumption | (simp; done) | omega)) (by (first | rfl | assumption | (simp; done) | omega))) ?_)
                all_goals (first | refine JM.gskip rfl rfl rfl rfl rfl rfl rfl ?_ | refine JM.gskipU rfl rfl rfl rfl rfl rfl ?_ | refine JM.gquiet rfl rfl rfl rfl rfl rfl (fun m => y_pick rfl rfl rfl) ?_)
                all_goals refine JM.quiet rfl rfl rfl rfl (fun m => y_pick rfl rfl rfl) ?_
                all_goals refine JM.quiet rfl rfl rfl rfl (fun m => y_assign rfl) ?_
                all_goals refine JM.nil ?_
                all_goals refine JE.block_normal ?_
                all_goals refine JE.then_normal ?_
                all_goals
                  refine J.region ?_
                  refine JL.step (y_add rfl rfl (by (first | exact wrap_i64 (by omega) (by omega) | rfl))) rfl rfl rfl ?_
                  refine JL.step (y_move rfl) rfl rfl rfl ?_
                  refine JL.nil ?_
              all_goals
                have hxt := fineAt_next (ks := ks) (j := j) hxk
                first
                  | exact JE.round (s := (k, true)) (k + 1, true) ⟨by dsimp only; omega, iff_of_true rfl (hxt.2 (.inl (hfb.1 rfl)))⟩ ⟨rfl, rfl, rfl, rfl, rfl, rfl, rfl, rfl, rfl, rfl, rfl, trivial⟩ (fun w q => q.sup (by (repeat (first | exact Sup.refl | apply Sup.cons (by (repeat (first | exact Pick.head | apply Pick.tail))) | apply Sup.skip)))) (by dsimp only; omega)
                  | exact JE.round (s := (k, false)) (k + 1, false) ⟨by dsimp only; omega, iff_of_false (by simp) (fun h => (hxt.1 h).elim (fun h => by simpa using hfb.2 h) (fun h => hpj h.1))⟩ ⟨rfl, rfl, rfl, rfl, rfl, rfl, rfl, rfl, rfl, rfl, rfl, trivial⟩ (fun w q => q.sup (by (repeat (first | exact Sup.refl | apply Sup.cons (by (repeat (first | exact Pick.head | apply Pick.tail))) | apply Sup.skip)))) (by dsimp only; omega)
                  | exact JE.round (s := (k, false)) (k + 1, decide ((D.crash ks).read (j : Int) = (D.crash (oneBit k)).read (j : Int))) ⟨by dsimp only; omega, by rw [decide_eq_true_iff, hxt]; exact ⟨fun h => .inr ⟨hpj, h⟩, fun h => h.elim (fun h => absurd (hfb.2 h) (by simp)) (·.2)⟩⟩ ⟨rfl, rfl, rfl, rfl, rfl, rfl, rfl, rfl, rfl, rfl, rfl, trivial⟩ (fun w q => q.sup (by (repeat (first | exact Sup.refl | apply Sup.cons (by (repeat (first | exact Pick.head | apply Pick.tail))) | apply Sup.skip)))) (by dsimp only; omega)
  all_goals refine JE.then_normal ?_
  all_goals
    refine J.seq ?_
    refine J.block ?_
    refine J.seq ?_
    refine J.region ?_
    refine JL.step (y_move rfl) rfl rfl rfl (JL.step (y_assign rfl) rfl rfl rfl ?_)
    refine JL.nil ?_
    refine JE.then_normal ?_
    refine J.region ?_
    refine JL.step (y_move rfl) rfl rfl rfl (JL.step (y_move rfl) rfl rfl rfl ?_)
    refine JL.step (y_indexAddr_slice hT rfl rfl rfl rfl rfl (by (first | omega | exact Nat.le_of_ble_eq_true rfl | decide | (simp; omega))) (by (first | omega | exact Nat.le_of_ble_eq_true rfl | decide | (simp; omega)))) rfl rfl rfl ?_
    refine JL.loud rfl (l_store1 hT rfl rfl rfl rfl rfl (by (repeat (first | exact Pick.head | apply Pick.tail))) (by rw [List.length_map, someTrue_length (n := n) (j := i) (by omega), show i4.size = 1 from rfl]; omega) ?_)
    refine JL.nil ?_
    refine JE.block_normal ?_
    refine JE.then_normal ?_
    refine J.region ?_
    refine JL.step (y_add rfl rfl (by (first | exact wrap_i64 (by omega) (by omega) | rfl))) rfl rfl rfl ?_
    refine JL.step (y_move rfl) rfl rfl rfl ?_
    refine JL.nil ?_
  all_goals
    refine JE.round (s := i) (i + 1) (by omega) ⟨rfl, rfl, rfl, rfl, rfl, rfl, rfl, rfl, rfl, trivial⟩ (fun w q => ?_) (by omega)
    have e : ((someTrue n i).map Value.bool).set (0 + (i : Int).toNat * i4.size) (.bool true) = (someTrue n (i + 1)).map Value.bool := by
      rw [← someTrue_next (n := n) (j := i) (by omega), show 0 + (i : Int).toNat * i4.size = i by simp [i4], List.map_set]
    rw [← e]
    exact q.sup (by (repeat (first | exact Sup.refl | apply Sup.cons (by (repeat (first | exact Pick.head | apply Pick.tail))) | apply Sup.skip)))
end
section
open Go.ChangeShapes Go.WideShapes Go.ChangeAt Go.RowKit
theorem disk_safe_reads : ∀ t ∈ Try.f6.params.toList, Try.prog.readableRec t = true ∧ t < Try.prog.types.size := by
  rw [Try.params6]
  intro t ht
  simp only [List.mem_cons, List.not_mem_nil, or_false] at ht
  rcases ht with rfl | rfl
  all_goals exact ⟨by kernel_rfl, of_decide_eq_true (by kernel_rfl)⟩
set_option maxRecDepth 100000 in
theorem disk_safe_contract (H : Type) (enc : TypeId × Value → H) (W : World) (base : Nat) (args : Array Value) (ds gs : List (DataW H)) (before : List MemPlace)
    (hval : ∀ (j : Nat) t v, Try.f6.params[j]? = some t → args[j]? = some v → Value.okWide Try.prog W .any base t v)
    (hW : DataW.Whole enc Try.prog Try.f6.params.toList Rows.diskSafeSpec.vars false W args.toList ds gs before) :
    Calls Try.prog 6 args W fun e W' => ∃ v, e = .returned v ∧ Rows.diskSafeSpec.post enc Try.prog Try.f6 false true false false W args v W' := by
  have hW' := hW
  obtain ⟨p, q, hA0, hV, rfl, hfz, hnd⟩ := hW
  have hA : DataW.TrodAll enc Try.prog W 0 (fun _ => true) true Try.f6.params.toList args.toList ds p := hA0
  rw [Try.params6] at hA hval
  obtain ⟨v0, vs0, d0, ds0, p0, q0, hargs, rfl, rfl, h0, r0⟩ := trodAll_cons hA
  obtain ⟨v1, vs1, d1, ds1, p1, q1, rfl, rfl, rfl, h1, r1⟩ := trodAll_cons r0
  obtain ⟨rfl, rfl, rfl⟩ := trodAll_nil r1
  obtain rfl : args = #[v0, v1] := by cases args; simp_all
  obtain ⟨rfl, rfl⟩ := trodVars_none hV
  clear hA0
  have t0 : Tr enc prog (fun _ => True) W 22 [v0] := Tr.ofSlice u22 (hval 0 22 v0 rfl rfl) h0 trivial
  have t1 : Tr enc prog (fun _ => True) W 30 [v1] := Tr.ofSlice u30 (hval 1 30 v1 rfl rfl) h1 trivial
  obtain ⟨sp, cap, xs, rfl, _, hok, hin⟩ := tr_ops Her.all t0
  have hx : OpsIn [old W] sp cap xs := ⟨hin.inl [], fun o ho => (hok o ho).here []⟩
  obtain ⟨kp, kc, ks, rfl, _, hkin⟩ := tr_bools Her.all t1
  refine ((disk_safe W sp cap xs kp kc ks [old W] hx (hkin.inl [])) W (Sat.start W)).mono fun e W' hq => ?_
  obtain ⟨v, l', rfl, hs, rfl, rfl⟩ := hq
  exact ⟨_, rfl, law_post laidOut_ rfl rfl u4 disk_safe_reads hW' rfl rfl rfl hs.below⟩
set_option maxRecDepth 100000 in
theorem disk_safe_lifted (os : Os) (started : os.Started) (H : Type) (enc : TypeId × Value → H) :
    ReturnsInHanded {} Try.checked os 6 .any (Rows.diskSafeSpec.pre6 enc Try.prog Try.f6 Rows.diskSafeRow.domain false) (Rows.diskSafeSpec.post enc Try.prog Try.f6 false true false false) := by
  refine returnsInHanded_of_change (C := Try.checked) own_ started (by kernel_rfl) Try.func6
    (ChangeSpec.witness6 (enc := enc) (C := Try.checked) false ⟨#[], #[.slice none 0 0, .slice none 0 0], []⟩ 8 (by kernel_rfl) (by kernel_rfl) (by kernel_rfl) (by kernel_rfl)) ?_
  intro W base args ds gs before hval hW _ _
  exact disk_safe_contract H enc W base args ds gs before hval hW
theorem disk_safe_holds : Rows.DiskSafeSaid :=
  OpenClaim.holds_of_wide 6 Try.f6 rfl rfl rfl rfl rfl rfl rfl ⟨rfl, rfl, rfl, rfl, rfl⟩ rfl rfl rfl rfl rfl (by kernel_rfl) Try.func6 (by kernel_rfl)
    (of_decide_eq_true (by kernel_rfl)) (by unfold Func.isWrapper; first | (rw [if_pos (by decide +kernel)]; kernel_rfl) | (rw [if_neg (by decide +kernel)]; exact ⟨rfl, rfl⟩))
    (fun os started H enc _ => disk_safe_lifted os started H enc)
end
end Go.Proofs.Ytilifeeddpkclaa
