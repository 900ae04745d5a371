/-
  hollowtreelaw10.DiskArmed returns true for every input, and leaves its input as it was. No condition.
-/
import Derived.Test.YtilifeeddpkclaaTop1
namespace Go.Proofs.Ytilifeeddpkclaa
open Go Go.SL
section
attribute [local irreducible] J JL JE JM LS Y Fc RV Code.wp wpList Code.wpIn wpListIn
attribute [local irreducible] Yc
variable (E : World)
/-- Two slices of the same blocks. -/
theorem same_true (pa pb : Option Addr) (ca cb : Nat) (xs : List Blk) (l : List HProp) (hx : InL l pa xs.length ca (xs.flatMap encB)) (hy : InL l pb xs.length cb (xs.flatMap encB)) (h64 : ∀ b ∈ xs, b.length = 64) (hn : xs.length ≤ 1000000) :
    Fc prog E 35 [.slice pa xs.length ca, .slice pb xs.length cb].toArray l (fun v l' => v = .bool true ∧ l' = l) := by
  have h64e : ∀ b ∈ xs, (encB b).length = 64 := fun b hb => (encB_length b).trans (h64 b hb)
  refine Fc.of_body (c := ?c) Try.func35 ?hb Try.ntmps35 ?hl ?_
  case hb => exact rfl
  case hl => exact rfl
  refine J.seq ?_
  refine J.region ?_
  refine JL.step (y_assign rfl) rfl rfl rfl ?_
  refine JL.nil ?_
  refine JE.then_normal ?_
  refine J.seq ?_
  refine J.seq ?_
  refine J.region ?_
  refine JL.step (y_move rfl) rfl rfl rfl (JL.step (y_len_slice hT rfl rfl rfl) rfl rfl rfl (JL.step (y_move rfl) rfl rfl rfl (JL.step (y_len_slice hT rfl rfl rfl) rfl rfl rfl (JL.step (y_neq rfl rfl) rfl rfl rfl ?_))))
  refine JL.nil ?_
  refine JE.then_normal ?_
  refine J.cond_f rfl (by (first | rfl | assumption | (simp; done) | (simp; omega))) ?_
  refine J.skip ?_
  refine JE.then_normal ?_
  refine J.seq ?_
  refine J.seq ?_
  refine J.region ?_
  refine JL.step (y_move rfl) rfl rfl rfl (JL.step (y_len_slice hT rfl rfl rfl) rfl rfl rfl (JL.step (y_move rfl) rfl rfl rfl ?_))
  refine JL.nil ?_
  refine JE.then_normal ?_
  refine J.block ?_
  refine J.loop (α := Nat) (fun j => j ≤ xs.length) (fun j => [(0, .slice pa xs.length ca), (1, .slice pb xs.length cb), (12, .int .i64 xs.length), (13, .int .i64 j)]) (fun _ => l) (fun j => xs.length - j) 0 (by omega) ⟨rfl, rfl, rfl, rfl, trivial⟩ (fun w h => h) ?_
  intro j hj
  refine J.seq ?_
  refine J.region ?_
  refine JL.step (y_lss rfl rfl) rfl rfl rfl ?_
  refine JL.nil ?_
  refine JE.then_normal ?_
  refine J.seq ?_
  first | apply J.cond_dec rfl | apply J.cond rfl
  case' ht =>
    intro h
    try (first | (exfalso; omega) | (cases h; done) | (exfalso; simp at h; done) | subst h)
    all_goals
      refine J.skip ?_
  case' hf =>
    intro h
    try (first | (exfalso; omega) | (cases h; done) | (exfalso; simp at h; done) | subst h)
    all_goals
      refine J.exit ?_
      refine JE.then_exit ?_
      refine JE.then_exit ?_
      refine JE.block_exit ?_
      refine JE.then_normal ?_
      refine J.seq ?_
      refine J.region ?_
      refine JL.step (y_assign rfl) rfl rfl rfl ?_
      refine JL.nil ?_
      refine JE.then_normal ?_
      refine J.ret ?_
      refine JE.ret1 (.inl rfl) rfl rfl (by (first | exact RV.tmp rfl | exact RV.cell1 hT rfl rfl rfl (by (exact Rd1.row (by (repeat (first | exact Pick.head | apply Pick.tail))) (by rfl))) | exact RV.cellN hT rfl rfl rfl (by (first | exact RdN.rowAll (by (repeat (first | exact Pick.head | apply Pick.tail))) | exact RdN.own (by (repeat (first | exact Pick.head | apply Pick.tail))))) (by (first | rfl | assumption | (simp; done) | omega)))) ?_
      exact ⟨rfl, rfl⟩
  all_goals refine JE.then_normal ?_
  all_goals
    refine J.seq ?_
    refine J.block ?_
    refine J.seq ?_
    refine J.region ?_
    refine JL.step (y_move rfl) rfl rfl rfl (JL.step (y_assign rfl) rfl rfl rfl ?_)
    refine JL.nil ?_
    refine JE.then_normal ?_
    refine J.seq ?_
    obtain ⟨x, hxj⟩ : ∃ x, xs[j]? = some x := ⟨_, List.getElem?_eq_getElem (by omega)⟩
    have hx64 := h64 x (List.mem_of_getElem? hxj)
    have hxl : (encB x).length = 64 := (encB_length x).trans hx64
    obtain ⟨g1, o1, rfl, hr1⟩ := hx.addr (by omega)
    obtain ⟨g2, o2, rfl, hr2⟩ := hy.addr (by omega)
    refine J.draw _ _ [(0, .q), (1, .q), (2, .q), (3, .q), (4, .q), (5, .q), (6, .q), (7, .q), (8, .q)] mixed (by kernel_rfl) (Split.nil) ?_
    refine JM.quiet rfl rfl rfl rfl (fun m => y_move rfl) ?_
    refine JM.quiet rfl rfl rfl rfl (fun m => y_move rfl) ?_
    refine JM.quiet rfl rfl rfl rfl (fun m => y_indexAddr_slice hT rfl rfl rfl rfl rfl (by (first | omega | exact Nat.le_of_ble_eq_true rfl | decide | (simp; omega))) (by (first | omega | exact Nat.le_of_ble_eq_true rfl | decide | (simp; omega)))) ?_
    refine JM.quiet rfl rfl rfl rfl (fun m => y_loadN hT rfl rfl rfl ((hr1 m).elem h64e hxj) hxl) ?_
    refine JM.quiet rfl rfl rfl rfl (fun m => y_move rfl) ?_
    refine JM.quiet rfl rfl rfl rfl (fun m => y_move rfl) ?_
    refine JM.quiet rfl rfl rfl rfl (fun m => y_indexAddr_slice hT rfl rfl rfl rfl rfl (by (first | omega | exact Nat.le_of_ble_eq_true rfl | decide | (simp; omega))) (by (first | omega | exact Nat.le_of_ble_eq_true rfl | decide | (simp; omega)))) ?_
    refine JM.quiet rfl rfl rfl rfl (fun m => y_loadN hT rfl rfl rfl ((hr2 m).elem h64e hxj) hxl) ?_
    refine JM.quiet rfl rfl rfl rfl (fun m => y_arr_ne hT rfl rfl rfl rfl rfl rfl rfl (by (first | rfl | assumption | (simp; done) | omega)) (by (first | rfl | assumption | (simp; done) | omega))) ?_
    refine JM.nil ?_
    refine JE.then_normal ?_
    refine J.cond_f rfl (by (first | rfl | assumption | (simp; done) | (simp; omega))) ?_
    refine J.skip ?_
    refine JE.block_normal ?_
    refine JE.then_normal ?_
    refine J.region ?_
    refine JL.step (y_add rfl rfl (by (first | exact wrap_i64 (by omega) (by omega) | rfl))) rfl rfl rfl ?_
    refine JL.step (y_move rfl) rfl rfl rfl ?_
    refine JL.nil ?_
  all_goals
    exact JE.round (s := j) (j + 1) (by omega) ⟨rfl, rfl, rfl, rfl, trivial⟩ (fun w h => h) (by omega)
/-- An armed disk beside one that is not. -/
def armOf (B : Dk) (N : Int) : Dk := { B with armed := true, left := N - B.ops }
theorem armOf_held (B : Dk) (N : Int) : (armOf B N).held = B.held := rfl
theorem armOf_read (B : Dk) (N i : Int) : (armOf B N).read i = B.read i := rfl
theorem armOf_ready (B : Dk) (N i : Int) : (armOf B N).ready i = B.ready i := rfl
/-- What is between. -/
structure Beside (B : Dk) (N : Int) (j : Nat) : Prop where
  fine : Fine B
  lo : 0 ≤ B.ops
  hi : B.ops ≤ N
  few : B.ops ≤ j
/-- Is it done by both? -/
def Counts (o : OpA) : Prop := o.k = 2 ∨ o.k = 1 ∧ 0 ≤ o.at_ ∧ o.at_ < 6
theorem armed_write {B : Dk} {N : Int} {j : Nat} (h : Beside B N j) (hN : N ≤ 39) (i : Int) (b : Blk) (hd : B.ops < N ∨ ¬ (0 ≤ i ∧ i < 6)) : (armOf B N).write i b = (armOf (B.write i b).1 N, (B.write i b).2) := by
  rw [fine_write h.fine]
  unfold Dk.write
  rw [armOf_ready, fine_ready h.fine]
  have h1 := h.lo
  by_cases hi : i < 0 ∨ 6 ≤ i
  · simp [hi]
  · have hlt : B.ops < N := hd.resolve_right (by omega)
    have hw1 : IntKind.i64.wrap (N - B.ops - 1) = N - B.ops - 1 := wrap_i64 (by omega) (by omega)
    have hw2 : IntKind.i64.wrap (B.ops + 1) = B.ops + 1 := wrap_i64 (by omega) (by omega)
    have h0 : ¬ (N - B.ops = 0) := by omega
    simp only [hi, if_false, armOf, h0, and_false, Dk.does, Dk.push, h.fine.armed, hw1, hw2, ne_eq, not_true_eq_false, if_true]
    simp
    omega
theorem armed_sync {B : Dk} {N : Int} {j : Nat} (h : Beside B N j) (hN : N ≤ 39) (hd : B.ops < N) : (armOf B N).sync = (armOf B.sync.1 N, B.sync.2) := by
  rw [fine_sync h.fine]
  have h1 := h.lo
  have hw1 : IntKind.i64.wrap (N - B.ops - 1) = N - B.ops - 1 := wrap_i64 (by omega) (by omega)
  have hw2 : IntKind.i64.wrap (B.ops + 1) = B.ops + 1 := wrap_i64 (by omega) (by omega)
  have h0 : ¬ (N - B.ops = 0) := by omega
  have hdead : B.dead = false := h.fine.dead
  simp only [Dk.sync, armOf, hdead, h0, and_false, if_false, Dk.does, Dk.settle, h.fine.armed, hw1, hw2, Bool.false_eq_true]
  simp
  omega
theorem fine_ops {B : Dk} {N : Int} {j : Nat} (h : Beside B N j) (hj : j ≤ 1000) (o : OpA) (hk : o.k < 3) : (stepW B o).ops = if o.k = 2 ∨ o.k = 1 ∧ 0 ≤ o.at_ ∧ o.at_ < 6 then B.ops + 1 else B.ops := by
  have hr := o.k_range
  have h1 := h.lo
  have h2 := h.few
  have hw2 : IntKind.i64.wrap (B.ops + 1) = B.ops + 1 := wrap_i64 (by omega) (by omega)
  rw [stepW, if_pos hk]
  rcases (by omega : o.k = 0 ∨ o.k = 1 ∨ o.k = 2) with e | e | e
  · rw [Dk.opd0 e, if_neg (by omega)]
  · rw [Dk.opd1 e, fine_write h.fine]
    by_cases hi : o.at_ < 0 ∨ 6 ≤ o.at_
    · rw [if_pos hi, if_neg (by omega)]
    · rw [if_neg hi, if_pos (by omega)]; exact hw2
  · rw [Dk.opd2 e, fine_sync h.fine, if_pos (by omega)]; exact hw2
theorem armed_step {B : Dk} {N : Int} {j : Nat} (h : Beside B N j) (hN : N ≤ 39) (o : OpA) (hk : o.k < 3) (hd : ¬ (B.ops = N ∧ (o.k = 2 ∨ o.k = 1 ∧ 0 ≤ o.at_ ∧ o.at_ < 6))) :
    (armOf B N).opd o = (armOf (stepW B o) N, (B.opd o).2) := by
  have hr := o.k_range
  have h3 := h.hi
  rw [stepW, if_pos hk]
  rcases (by omega : o.k = 0 ∨ o.k = 1 ∨ o.k = 2) with e | e | e
  · rw [Dk.opd0 e, Dk.opd0 e]; rfl
  · rw [Dk.opd1 e, Dk.opd1 e, armed_write h hN _ _ (by omega)]
  · rw [Dk.opd2 e, Dk.opd2 e, armed_sync h hN (by omega)]
theorem beside_step {B : Dk} {N : Int} {j : Nat} (h : Beside B N j) (hj : j ≤ 1000) (o : OpA) (hk : o.k < 3) (hd : ¬ (B.ops = N ∧ (o.k = 2 ∨ o.k = 1 ∧ 0 ≤ o.at_ ∧ o.at_ < 6))) : Beside (stepW B o) N (j + 1) := by
  have h1 := h.lo
  have h2 := h.few
  have h3 := h.hi
  have e := fine_ops h hj o hk
  refine ⟨fine_stepW h.fine o, ?_, ?_, ?_⟩ <;> rw [e] <;> split <;> omega
/-- The power goes. -/
theorem armed_dies {B : Dk} {N : Int} {j : Nat} (h : Beside B N j) (o : OpA) (hn : B.ops = N) (hc : o.k = 2 ∨ o.k = 1 ∧ 0 ≤ o.at_ ∧ o.at_ < 6) : (armOf B N).opd o = ((armOf B N).dies, zeroB, 7) := by
  have h0 : N - B.ops = 0 := by omega
  have hdead : B.dead = false := h.fine.dead
  rcases hc with e | ⟨e, hi⟩
  · rw [Dk.opd2 e]
    simp [Dk.sync, armOf, h0, hdead]
  · rw [Dk.opd1 e]
    have hr : (armOf B N).ready o.at_ = 0 := by rw [armOf_ready, fine_ready h.fine, if_neg (by omega)]
    have e2 : (armOf B N).write o.at_ (blockOf o.fill) = ((armOf B N).dies, 7) := by
      unfold Dk.write
      rw [hr, if_neg (by simp), if_pos ⟨rfl, h0⟩]
    rw [e2]
theorem liveOn_congr (lv lv' : Nat → Bool) : ∀ (l : List (Int × Blk)) (k : Nat) (s : List Blk), (∀ i, k ≤ i → i < k + l.length → lv i = lv' i) → liveOn lv l k s = liveOn lv' l k s
  | [], _, _, _ => rfl
  | p :: r, k, s, h => by
    simp only [liveOn]
    rw [h k (Nat.le_refl _) (by simp), liveOn_congr lv lv' r (k + 1) _ (fun i h1 h2 => h i (by omega) (by simp only [List.length_cons]; omega))]
theorem crash_all_find {D : Dk} (h : D.Ok) (j : Nat) (hj : j < D.safe.length) : (D.crash (List.replicate D.pending.length true)).find j = D.find j := by
  have h1 := liveOn_find D.pending 0 D.safe j (fun p hp => (h.pend p hp).2) hj
  have h2 := liveOn_congr (bitAt (List.replicate D.pending.length true)) (fun _ => true) D.pending 0 D.safe (fun i _ hi => by
    simp only [bitAt, List.getD_eq_getElem?_getD, List.getElem?_replicate]
    rw [if_pos (by omega)]
    rfl)
  simp only [Dk.find, Dk.crash, Dk.settle, List.reverse_nil, List.find?_nil, Int.toNat_natCast]
  rw [h2]
  exact h1
theorem armOf_ok {B : Dk} {N : Int} {j : Nat} (h : Beside B N j) (hN : N ≤ 39) : (armOf B N).Ok := by
  have h1 := h.lo
  have h2 := h.hi
  exact ⟨h.fine.ok.safe, h.fine.ok.pend, h.fine.ok.some, h.fine.ok.most, by simp only [armOf]; omega⟩
theorem dies_held {B : Dk} {N : Int} {j : Nat} (h : Beside B N j) (hN : N ≤ 39) : ((armOf B N).dies.crash (List.replicate B.pending.length true)).held = B.held := by
  have hok := armOf_ok h hN
  have hf : Fine ((armOf B N).dies.crash (List.replicate B.pending.length true)) :=
    ⟨hok.dies.crash _, by simp [Dk.crash, Dk.settle, Dk.dies, armOf, liveOn_length, h.fine.len], rfl, rfl⟩
  exact fine_held h.fine hf fun i hi => crash_all_find hok.dies i (by have := h.fine.len; simpa [Dk.dies, armOf, this] using hi)
def trues (n j : Nat) : List Bool := List.replicate j true ++ List.replicate (n - j) false
theorem trues_length {n j : Nat} (h : j ≤ n) : (trues n j).length = n := by simp [trues]; omega
theorem trues_next {n j : Nat} (h : j < n) : (trues n j).set j true = trues n (j + 1) := by
  simp only [trues]
  rw [List.set_append_right _ _ (by simp), List.length_replicate, Nat.sub_self, show n - j = (n - (j + 1)) + 1 by omega, List.replicate_succ, List.set_cons_zero, List.replicate_succ']
  simp
theorem disk_armed (p : Option Addr) (cap : Nat) (xs : List OpA) (n : Int) (r : List HProp) (hx : OpsIn r p cap xs) (hn : -9223372036854775808 ≤ n ∧ n ≤ 9223372036854775807) :
    Fc prog E 5 [.slice p xs.length cap, .int .i64 n].toArray r (fun v l' => v = .bool true ∧ l' = r) := by
  refine Fc.eqs ?_
  obtain ⟨N, hNe, hN0, hN⟩ : ∃ N : Int, (max n 0).tmod 40 = N ∧ 0 ≤ N ∧ N ≤ 39 := ⟨_, rfl, by rw [Int.tmod_eq_emod_of_nonneg (by omega)]; omega, by rw [Int.tmod_eq_emod_of_nonneg (by omega)]; omega⟩
  have hy := hx.take 120
  have hyl : (xs.take 120).length = min xs.length 120 := by rw [List.length_take]; omega
  have hnil : ∀ l, OpsIn l none 0 [] := fun l => ⟨⟨Nat.le_refl _, Nat.zero_le _, .inr ⟨rfl, rfl⟩⟩, fun o ho => by cases ho⟩
  have hw : ∀ l, Fc prog E 16 [Value.slice none 0 0].toArray l (fun v l' => ∃ d, v = .pointer (some ⟨d, 0, none⟩) ∧ l' = disk d (Dk.new 6) :: l) := fun l => worn_spec E none 0 [] l (hnil l)
  have harm : ∀ d l, Fc prog E 29 [Value.pointer (some ⟨d, 0, none⟩), .int .i64 N].toArray (disk d (Dk.new 6) :: l) (fun v l' => v = .int .i64 0 ∧ l' = disk d (armOf (Dk.new 6) N) :: l) := fun d l => by
    have h := arm_spec E d (Dk.new 6) N (by omega) l
    have e : (Dk.new 6).arm N = armOf (Dk.new 6) N := by simp [Dk.arm, armOf, Dk.new, hN0]
    rw [show (Dk.new 6).dead = false from rfl, e] at h
    simp only [Bool.false_eq_true, if_false] at h
    exact h
  let B : Nat → Dk := fun j => wear (Dk.new 6) ((xs.take 120).take j)
  have hB0 : B 0 = Dk.new 6 := rfl
  have hBp : ∀ j, (B j).pending.length ≤ 1000 := fun j => by
    have h1 := wear_pending ((xs.take 120).take j) (Dk.new 6)
    have h2 : (Dk.new 6).pending.length = 0 := rfl
    have h3 : ((xs.take 120).take j).length ≤ 120 := by rw [List.length_take]; omega
    show (wear (Dk.new 6) ((xs.take 120).take j)).pending.length ≤ 1000
    omega
  have hheld : ∀ d D l, D.pending.length ≤ 1000 → D.safe.length = 6 → Fc prog E 20 [Value.pointer (some ⟨d, 0, none⟩)].toArray (disk d D :: l) (fun v l' => ∃ a c, v = .slice a 6 c ∧ l' = own 27 64 v 6 (D.held.flatMap encB) :: disk d D :: l) := fun d D l h1 h2 => by
    have h := held_spec E d D l (by omega)
    rwa [held_length, h2] at h
  have hsame : ∀ pa pb ca cb (D : Dk) l, D.Ok → D.safe.length = 6 → InL l pa 6 ca (D.held.flatMap encB) → InL l pb 6 cb (D.held.flatMap encB) → Fc prog E 35 [.slice pa 6 ca, .slice pb 6 cb].toArray l (fun v l' => v = .bool true ∧ l' = l) := fun pa pb ca cb D l hok h2 ha hb => by
    have hl : D.held.length = 6 := by rw [held_length, h2]
    have h := same_true E pa pb ca cb D.held l (by rwa [hl]) (by rwa [hl]) (fun b hb => by have := held_64 hok b hb; rwa [encB_length] at this) (by omega)
    rwa [hl] at h
  refine Fc.of_body (c := ?c) Try.func5 ?hb Try.ntmps5 ?hl ?_
  case hb => exact rfl
  case hl => exact rfl
  refine J.seq ?_
  refine J.region ?_
  refine JL.step (y_assign rfl) rfl rfl rfl ?_
  refine JL.nil ?_
  refine JE.then_normal ?_
  refine J.seq ?_
  refine J.seq ?_
  refine J.region ?_
  refine JL.loud rfl (l_callF e15 rfl rfl (wakes_spec E _) ?_)
  rintro _ l1 ⟨rfl, e1⟩
  obtain rfl := e1.symm
  refine JL.step (y_not rfl) rfl rfl rfl ?_
  refine JL.nil ?_
  refine JE.then_normal ?_
  refine J.cond_f rfl (by (first | rfl | assumption | (simp; done) | (simp; omega))) ?_
  refine J.skip ?_
  refine JE.then_normal ?_
  refine J.seq ?_
  refine J.region ?_
  refine JL.step (y_move rfl) rfl rfl rfl ?_
  refine JL.step (y_max2 rfl rfl rfl) rfl rfl rfl ?_
  refine JL.step (y_rem rfl rfl (by decide) hNe) rfl rfl rfl ?_
  refine JL.step (y_assign rfl) rfl rfl rfl ?_
  refine JL.nil ?_
  refine JE.then_normal ?_
  refine J.seq ?_
  refine J.region ?_
  refine JL.loud rfl (l_callF e16 rfl rfl (hw _) ?_)
  rintro _ _ ⟨da, rfl, rfl⟩
  refine JL.loud rfl (l_callF e16 rfl rfl (hw _) ?_)
  rintro _ _ ⟨db, rfl, rfl⟩
  refine JL.step (y_assign rfl) rfl rfl rfl (JL.step (y_assign rfl) rfl rfl rfl ?_)
  refine JL.nil ?_
  refine JE.then_normal ?_
  refine J.seq ?_
  refine J.seq ?_
  refine J.region ?_
  refine JL.step (y_move rfl) rfl rfl rfl (JL.step (y_ptr_eq_nil hT rfl rfl rfl rfl) rfl rfl rfl (JL.step (y_move rfl) rfl rfl rfl ?_))
  all_goals (first | (refine JL.gsplit_dec rfl rfl rfl (fun h => ?_) (fun h => ?_) <;> try (first | (exfalso; omega) | exact absurd rfl h)) | (refine JL.gsplit rfl rfl rfl (fun h => ?_) (fun h => ?_) <;> try (first | cases h | (exfalso; simp at h; done))) | skip)
  all_goals (first | refine JL.gskip rfl rfl rfl rfl rfl rfl ?_ | refine JL.gskipU rfl rfl rfl rfl rfl ?_ | refine JL.gstep rfl rfl rfl (y_move rfl) rfl rfl ?_)
  all_goals (first | refine JL.gskip rfl rfl rfl rfl rfl rfl ?_ | refine JL.gskipU rfl rfl rfl rfl rfl ?_ | refine JL.gstep rfl rfl rfl (y_ptr_eq_nil hT rfl rfl rfl rfl) rfl rfl ?_)
  all_goals (refine JL.step (y_pick rfl rfl rfl) rfl rfl rfl ?_)
  all_goals (refine JL.step (y_move rfl) rfl rfl rfl ?_)
  all_goals (first | (refine JL.gsplit_dec rfl rfl rfl (fun h => ?_) (fun h => ?_) <;> try (first | (exfalso; omega) | exact absurd rfl h)) | (refine JL.gsplit rfl rfl rfl (fun h => ?_) (fun h => ?_) <;> try (first | cases h | (exfalso; simp at h; done))) | skip)
  all_goals (first | refine JL.gskip rfl rfl rfl rfl rfl rfl ?_ | refine JL.gskipU rfl rfl rfl rfl rfl ?_ | refine JL.gstep rfl rfl rfl (y_move rfl) rfl rfl ?_)
  all_goals (first | refine JL.gskip rfl rfl rfl rfl rfl rfl ?_ | refine JL.gskipU rfl rfl rfl rfl rfl ?_ | refine JL.gstep rfl rfl rfl (y_move rfl) rfl rfl ?_)
  all_goals (first | refine JL.gskip rfl rfl rfl rfl rfl rfl ?_ | refine JL.gskipU rfl rfl rfl rfl rfl ?_ | (refine JL.gloud rfl rfl rfl (l_callF e29 rfl rfl (Fc.on (Split.cons (by (repeat (first | exact Pick.head | apply Pick.tail))) Split.nil) (harm da _)) ?_); rintro _ _ ⟨rfl, rfl⟩))
  all_goals (first | refine JL.gskip rfl rfl rfl rfl rfl rfl ?_ | refine JL.gskipU rfl rfl rfl rfl rfl ?_ | refine JL.gstep rfl rfl rfl (y_neq rfl rfl) rfl rfl ?_)
  all_goals (refine JL.step (y_pick rfl rfl rfl) rfl rfl rfl ?_)
  all_goals refine JL.nil ?_
  all_goals refine JE.then_normal ?_
  all_goals
    refine J.cond_f rfl (by (first | rfl | assumption | (simp; done) | (simp; omega))) ?_
    refine J.skip ?_
  all_goals refine JE.then_normal ?_
  all_goals
    refine J.seq ?_
    refine J.region ?_
    refine JL.step (y_assign rfl) rfl rfl rfl ?_
    refine JL.nil ?_
    refine JE.then_normal ?_
    refine J.seq ?_
    refine J.seq ?_
    refine J.region ?_
    refine JL.step (y_move rfl) rfl rfl rfl ?_
    refine JL.loud rfl (l_callF e17 rfl rfl (few_spec E p xs.length cap _ _ ((hx.inl.cons _).cons _)) ?_)
    rintro _ _ ⟨rfl, rfl⟩
    refine JL.step (y_len_slice hT rfl rfl rfl) rfl rfl rfl (JL.step (y_move rfl) rfl rfl rfl ?_)
    refine JL.nil ?_
    refine JE.then_normal ?_
    refine J.block ?_
    refine J.loop (α := Nat) (fun j => j ≤ (xs.take 120).length ∧ Beside (B j) N j) (fun j => [(1, .int .i64 N), (5, .pointer (some ⟨da, 0, none⟩)), (6, .pointer (some ⟨db, 0, none⟩)), (7, .int .i64 (B j).ops), (42, .slice p (min xs.length 120) cap), (43, .int .i64 (min xs.length 120 : Nat)), (44, .int .i64 j)]) (fun j => disk da (armOf (B j) N) :: disk db (B j) :: r) (fun j => (xs.take 120).length - j) 0 ⟨by omega, fine_new, Int.le_refl 0, hN0, Int.le_refl 0⟩ ⟨rfl, rfl, rfl, rfl, rfl, rfl, rfl, trivial⟩ (fun w h => h) ?_
    intro j ⟨hj, hbe⟩
    have hbo := hbe.lo
    have hbh := hbe.hi
    have hbf := hbe.few
    refine J.seq ?_
    refine J.region ?_
    refine JL.step (y_lss rfl rfl) rfl rfl rfl ?_
    refine JL.nil ?_
    refine JE.then_normal ?_
    refine J.seq ?_
    first | apply J.cond_dec rfl | apply J.cond rfl
    case' ht =>
      intro h
      try (first | (exfalso; omega) | (cases h; done) | (exfalso; simp at h; done) | subst h)
      all_goals
        refine J.skip ?_
    case' hf =>
      intro h
      try (first | (exfalso; omega) | (cases h; done) | (exfalso; simp at h; done) | subst h)
      all_goals
        refine J.exit ?_
        refine JE.then_exit ?_
        refine JE.then_exit ?_
        refine JE.block_exit ?_
        refine JE.then_normal ?_
        refine J.seq ?_
        obtain rfl : j = (xs.take 120).length := by omega
        have hBl := hBp (xs.take 120).length
        refine J.region ?_
        refine JL.step (y_move rfl) rfl rfl rfl ?_
        refine JL.loud rfl (l_callF e20 rfl rfl (Fc.on (Split.cons (by (repeat (first | exact Pick.head | apply Pick.tail))) Split.nil) (hheld da (armOf (B (xs.take 120).length) N) _ hBl hbe.fine.len)) ?_)
        rintro _ _ ⟨pa, ca, rfl, rfl⟩
        refine JL.step (y_move rfl) rfl rfl rfl ?_
        refine JL.loud rfl (l_callF e20 rfl rfl (Fc.on (Split.cons (by (repeat (first | exact Pick.head | apply Pick.tail))) Split.nil) (hheld db (B (xs.take 120).length) _ hBl hbe.fine.len)) ?_)
        rintro _ _ ⟨pb, cb, rfl, rfl⟩
        refine JL.fact (fun w s => s.own_at) fun oa2 => JL.fact (fun w s => (s.pick (Pick.tail (Pick.tail Pick.head))).own_at) fun oa1 => ?_
        refine JL.loud rfl (l_callF e35 rfl rfl (hsame pa pb ca cb (B (xs.take 120).length) _ hbe.fine.ok hbe.fine.len (oa1.inl (Pick.tail (Pick.tail Pick.head))) (oa2.inl Pick.head)) ?_)
        rintro _ _ ⟨rfl, rfl⟩
        refine JL.step (y_move rfl) rfl rfl rfl ?_
        all_goals (first | (refine JL.gsplit_dec rfl rfl rfl (fun h => ?_) (fun h => ?_) <;> try (first | (exfalso; omega) | exact absurd rfl h)) | (refine JL.gsplit rfl rfl rfl (fun h => ?_) (fun h => ?_) <;> try (first | cases h | (exfalso; simp at h; done))) | skip)
        all_goals (first | refine JL.gskip rfl rfl rfl rfl rfl rfl ?_ | refine JL.gskipU rfl rfl rfl rfl rfl ?_ | refine JL.gstep rfl rfl rfl (y_move rfl) rfl rfl ?_)
        all_goals (first | refine JL.gskip rfl rfl rfl rfl rfl rfl ?_ | refine JL.gskipU rfl rfl rfl rfl rfl ?_ | (refine JL.gloud rfl rfl rfl (l_callF e30 rfl rfl (Fc.on (Split.cons (by (repeat (first | exact Pick.head | apply Pick.tail))) Split.nil) (ops_spec E da (armOf (B (xs.take 120).length) N) _)) ?_); rintro _ _ ⟨rfl, rfl⟩))
        all_goals (first | refine JL.gskip rfl rfl rfl rfl rfl rfl ?_ | refine JL.gskipU rfl rfl rfl rfl rfl ?_ | refine JL.gstep rfl rfl rfl (y_move rfl) rfl rfl ?_)
        all_goals (first | refine JL.gskip rfl rfl rfl rfl rfl rfl ?_ | refine JL.gskipU rfl rfl rfl rfl rfl ?_ | (refine JL.gloud rfl rfl rfl (l_callF e30 rfl rfl (Fc.on (Split.cons (by (repeat (first | exact Pick.head | apply Pick.tail))) Split.nil) (ops_spec E db (B (xs.take 120).length) _)) ?_); rintro _ _ ⟨rfl, rfl⟩))
        all_goals (first | refine JL.gskip rfl rfl rfl rfl rfl rfl ?_ | refine JL.gskipU rfl rfl rfl rfl rfl ?_ | refine JL.gstep rfl rfl rfl (y_eql rfl rfl) rfl rfl ?_)
        all_goals (refine JL.step (y_pick rfl rfl rfl) rfl rfl rfl ?_)
        all_goals (refine JL.step (y_assign rfl) rfl rfl rfl ?_)
        all_goals refine JL.nil ?_
        all_goals refine JE.then_normal ?_
        all_goals
          refine J.ret ?_
          refine JE.ret1 (.inl rfl) rfl rfl (by (first | exact RV.tmp rfl | exact RV.cell1 hT rfl rfl rfl (by (exact Rd1.row (by (repeat (first | exact Pick.head | apply Pick.tail))) (by rfl))) | exact RV.cellN hT rfl rfl rfl (by (first | exact RdN.rowAll (by (repeat (first | exact Pick.head | apply Pick.tail))) | exact RdN.own (by (repeat (first | exact Pick.head | apply Pick.tail))))) (by (first | rfl | assumption | (simp; done) | omega)))) ?_
          refine ⟨?_, fun w q => q.sup (by (repeat (first | exact Sup.refl | apply Sup.cons (by (repeat (first | exact Pick.head | apply Pick.tail))) | apply Sup.skip)))⟩
          first
            | rfl
            | (simp [armOf, Dk.crash, Dk.settle, Dk.dies]; done)
            | (simp [armOf, Dk.crash, Dk.settle, Dk.dies, hop]; done)
    all_goals refine JE.then_normal ?_
    all_goals
      refine J.seq ?_
      refine J.block ?_
      refine J.seq ?_
      refine J.region ?_
      obtain ⟨g, o, rfl, hr⟩ := hy.inl.addr (by omega)
      obtain ⟨x, hxj⟩ : ∃ x, (xs.take 120)[j]? = some x := ⟨_, List.getElem?_eq_getElem (by omega)⟩
      have hx1 := encO_one x
      have hxk := x.k_range
      have hxo := hy.ok x (List.mem_of_getElem? hxj)
      have hBn : B (j + 1) = stepW (B j) x := wear_next hxj
      refine JL.step (y_indexAddr_slice hT rfl rfl rfl rfl rfl (by (first | omega | exact Nat.le_of_ble_eq_true rfl | decide | (simp; omega))) (by (first | omega | exact Nat.le_of_ble_eq_true rfl | decide | (simp; omega)))) rfl rfl rfl ?_
      refine JL.step (y_loadN hT rfl rfl rfl ((hr [_, _]).elem (fun o _ => encO_length o) hxj) rfl) rfl rfl rfl ?_
      refine JL.loud rfl (l_alloc hT rfl rfl (by (first | rfl | simp)) rfl (fun b11 => ?_))
      refine JL.loud rfl (l_storeAll hT rfl rfl rfl (by (first | rfl | assumption | (simp; done) | omega)) (by (first | assumption | exact encW_one _ | exact encB_one _ | (intro u hu; simp at hu; rcases hu with rfl | rfl <;> rfl) | (intro u hu; simp at hu; subst hu; rfl) | simp)) (by (repeat (first | exact Pick.head | apply Pick.tail))) (by (first | rfl | assumption | (simp; done) | omega)) ?_)
      refine JL.nil ?_
      refine JE.then_normal ?_
      refine J.seq ?_
      refine J.seq ?_
      refine J.region ?_
      refine JL.step (y_loadN hT rfl rfl rfl (by (first | exact RdN.rowAll (by (repeat (first | exact Pick.head | apply Pick.tail))) | exact RdN.own (by (repeat (first | exact Pick.head | apply Pick.tail))))) (by (first | rfl | assumption | (simp; done) | omega))) rfl rfl rfl ?_
      refine JL.loud rfl (l_callF e18 rfl rfl (kind_spec E x _) ?_)
      rintro _ _ ⟨rfl, rfl⟩
      refine JL.step (y_gtr rfl rfl) rfl rfl rfl ?_
      refine JL.nil ?_
      refine JE.then_normal ?_
      first | apply J.cond_dec rfl | apply J.cond rfl
      case' ht =>
        intro h
        try (first | (exfalso; omega) | (cases h; done) | (exfalso; simp at h; done) | subst h)
        all_goals
          refine J.exit ?_
          refine JE.then_exit ?_
          refine JE.block_exit ?_
          refine JE.then_normal ?_
          refine J.region ?_
          refine JL.step (y_add rfl rfl (by (first | exact wrap_i64 (by omega) (by omega) | rfl))) rfl rfl rfl ?_
          refine JL.step (y_move rfl) rfl rfl rfl ?_
          refine JL.nil ?_
          first
            | (have e : B (j + 1) = B j := by rw [hBn, stepW, if_neg (by omega)]
               refine JE.round (s := j) (j + 1) ⟨by omega, ?_⟩ ⟨rfl, rfl, rfl, congrArg (fun z => some (Value.int .i64 z)) (by rw [e]), rfl, rfl, rfl, trivial⟩ (fun w q => by rw [e]; exact q.sup (by (repeat (first | exact Sup.refl | apply Sup.cons (by (repeat (first | exact Pick.head | apply Pick.tail))) | apply Sup.skip)))) (by omega)
               rw [e]
               exact ⟨hbe.fine, hbe.lo, hbe.hi, by have := hbe.few; omega⟩)
            | exact JE.round (s := j) (j + 1) ⟨by omega, by rw [hBn]; exact hbe'⟩ ⟨rfl, rfl, rfl, congrArg (fun z => some (Value.int .i64 z)) (by rw [hBn]; omega), rfl, rfl, rfl, trivial⟩ (fun w q => by rw [hBn]; exact q.sup (by (repeat (first | exact Sup.refl | apply Sup.cons (by (repeat (first | exact Pick.head | apply Pick.tail))) | apply Sup.skip)))) (by omega)
      case' hf =>
        intro h
        try (first | (exfalso; omega) | (cases h; done) | (exfalso; simp at h; done) | subst h)
        all_goals
          refine J.skip ?_
      all_goals refine JE.then_normal ?_
      all_goals
        refine J.seq ?_
        refine J.region ?_
        refine JL.step (y_move rfl) rfl rfl rfl ?_
        refine JL.loud rfl (l_callF e30 rfl rfl (Fc.on (Split.cons (by (repeat (first | exact Pick.head | apply Pick.tail))) Split.nil) (ops_spec E db (B j) _)) ?_)
        rintro _ _ ⟨rfl, rfl⟩
        refine JL.step (y_assign rfl) rfl rfl rfl ?_
        refine JL.nil ?_
        refine JE.then_normal ?_
        refine J.seq ?_
        refine J.seq ?_
        refine J.region ?_
        refine JL.step (y_move rfl) rfl rfl rfl (JL.step (y_move rfl) rfl rfl rfl (JL.step (y_eql rfl rfl) rfl rfl rfl (JL.step (y_move rfl) rfl rfl rfl ?_)))
        all_goals (first | (refine JL.gsplit_dec rfl rfl rfl (fun h => ?_) (fun h => ?_) <;> try (first | (exfalso; omega) | exact absurd rfl h)) | (refine JL.gsplit rfl rfl rfl (fun h => ?_) (fun h => ?_) <;> try (first | cases h | (exfalso; simp at h; done))) | skip)
        all_goals (first | refine JL.gskip rfl rfl rfl rfl rfl rfl ?_ | refine JL.gskipU rfl rfl rfl rfl rfl ?_ | refine JL.gstep rfl rfl rfl (y_loadN hT rfl rfl rfl (by (first | exact RdN.rowAll (by (repeat (first | exact Pick.head | apply Pick.tail))) | exact RdN.own (by (repeat (first | exact Pick.head | apply Pick.tail))))) (by (first | rfl | assumption | (simp; done) | omega))) rfl rfl ?_)
        all_goals (first | refine JL.gskip rfl rfl rfl rfl rfl rfl ?_ | refine JL.gskipU rfl rfl rfl rfl rfl ?_ | (refine JL.gloud rfl rfl rfl (l_callF e18 rfl rfl (kind_spec E x _) ?_); rintro _ _ ⟨rfl, rfl⟩))
        all_goals (first | refine JL.gskip rfl rfl rfl rfl rfl rfl ?_ | refine JL.gskipU rfl rfl rfl rfl rfl ?_ | refine JL.gstep rfl rfl rfl (y_gtr rfl rfl) rfl rfl ?_)
        all_goals (refine JL.step (y_pick rfl rfl rfl) rfl rfl rfl ?_)
        all_goals (refine JL.step (y_move rfl) rfl rfl rfl ?_)
        all_goals (first | (refine JL.gsplit_dec rfl rfl rfl (fun h => ?_) (fun h => ?_) <;> try (first | (exfalso; omega) | exact absurd rfl h)) | (refine JL.gsplit rfl rfl rfl (fun h => ?_) (fun h => ?_) <;> try (first | cases h | (exfalso; simp at h; done))) | skip)
        all_goals (first | refine JL.gskip rfl rfl rfl rfl rfl rfl ?_ | refine JL.gskipU rfl rfl rfl rfl rfl ?_ | refine JL.gstep rfl rfl rfl (y_loadN hT rfl rfl rfl (by (first | exact RdN.rowAll (by (repeat (first | exact Pick.head | apply Pick.tail))) | exact RdN.own (by (repeat (first | exact Pick.head | apply Pick.tail))))) (by (first | rfl | assumption | (simp; done) | omega))) rfl rfl ?_)
        all_goals (first | refine JL.gskip rfl rfl rfl rfl rfl rfl ?_ | refine JL.gskipU rfl rfl rfl rfl rfl ?_ | (refine JL.gloud rfl rfl rfl (l_callF e18 rfl rfl (kind_spec E x _) ?_); rintro _ _ ⟨rfl, rfl⟩))
        all_goals (first | refine JL.gskip rfl rfl rfl rfl rfl rfl ?_ | refine JL.gskipU rfl rfl rfl rfl rfl ?_ | refine JL.gstep rfl rfl rfl (y_eql rfl rfl) rfl rfl ?_)
        all_goals (first | refine JL.gskip rfl rfl rfl rfl rfl rfl ?_ | refine JL.gskipU rfl rfl rfl rfl rfl ?_ | refine JL.gstep rfl rfl rfl (y_move rfl) rfl rfl ?_)
        all_goals (first | (refine JL.gsplit_dec rfl rfl rfl (fun h => ?_) (fun h => ?_) <;> try (first | (exfalso; omega) | exact absurd rfl h)) | (refine JL.gsplit rfl rfl rfl (fun h => ?_) (fun h => ?_) <;> try (first | cases h | (exfalso; simp at h; done))) | skip)
        all_goals (first | refine JL.gskip rfl rfl rfl rfl rfl rfl ?_ | refine JL.gskipU rfl rfl rfl rfl rfl ?_ | refine JL.gstep rfl rfl rfl (y_fieldAddr hT rfl rfl rfl rfl rfl rfl) rfl rfl ?_)
        all_goals (first | refine JL.gskip rfl rfl rfl rfl rfl rfl ?_ | refine JL.gskipU rfl rfl rfl rfl rfl ?_ | refine JL.gstep rfl rfl rfl (y_load1 hT rfl rfl rfl (by (exact Rd1.row (by (repeat (first | exact Pick.head | apply Pick.tail))) (by rfl)))) rfl rfl ?_)
        all_goals (first | refine JL.gskip rfl rfl rfl rfl rfl rfl ?_ | refine JL.gskipU rfl rfl rfl rfl rfl ?_ | refine JL.gstep rfl rfl rfl (y_geq rfl rfl) rfl rfl ?_)
        all_goals (first | refine JL.gskip rfl rfl rfl rfl rfl rfl ?_ | refine JL.gskipU rfl rfl rfl rfl rfl ?_ | refine JL.gstep rfl rfl rfl (y_move rfl) rfl rfl ?_)
        all_goals (first | (refine JL.gsplit_dec rfl rfl rfl (fun h => ?_) (fun h => ?_) <;> try (first | (exfalso; omega) | exact absurd rfl h)) | (refine JL.gsplit rfl rfl rfl (fun h => ?_) (fun h => ?_) <;> try (first | cases h | (exfalso; simp at h; done))) | skip)
        all_goals (first | refine JL.gskip rfl rfl rfl rfl rfl rfl ?_ | refine JL.gskipU rfl rfl rfl rfl rfl ?_ | refine JL.gstep rfl rfl rfl (y_fieldAddr hT rfl rfl rfl rfl rfl rfl) rfl rfl ?_)
        all_goals (first | refine JL.gskip rfl rfl rfl rfl rfl rfl ?_ | refine JL.gskipU rfl rfl rfl rfl rfl ?_ | refine JL.gstep rfl rfl rfl (y_load1 hT rfl rfl rfl (by (exact Rd1.row (by (repeat (first | exact Pick.head | apply Pick.tail))) (by rfl)))) rfl rfl ?_)
        all_goals (first | refine JL.gskip rfl rfl rfl rfl rfl rfl ?_ | refine JL.gskipU rfl rfl rfl rfl rfl ?_ | refine JL.gstep rfl rfl rfl (y_lss rfl rfl) rfl rfl ?_)
        all_goals (first | refine JL.gskip rfl rfl rfl rfl rfl rfl ?_ | refine JL.gskipU rfl rfl rfl rfl rfl ?_ | refine JL.gstep rfl rfl rfl (y_pick rfl rfl rfl) rfl rfl ?_)
        all_goals (first | refine JL.gskip rfl rfl rfl rfl rfl rfl ?_ | refine JL.gskipU rfl rfl rfl rfl rfl ?_ | refine JL.gstep rfl rfl rfl (y_pick rfl rfl rfl) rfl rfl ?_)
        all_goals (refine JL.step (y_pick rfl rfl rfl) rfl rfl rfl ?_)
        all_goals refine JL.nil ?_
        all_goals refine JE.then_normal ?_
        all_goals
          first | apply J.cond_dec rfl | apply J.cond rfl
          case' ht =>
            intro h
            try (first | (exfalso; omega) | (cases h; done) | (exfalso; simp at h; done) | subst h)
            all_goals
              have hop : (B j).ops = N := by omega
              have hc : x.k = 2 ∨ x.k = 1 ∧ 0 ≤ x.at_ ∧ x.at_ < 6 := by omega
              have hdies : ∀ l, Fc prog E 23 [Value.pointer (some ⟨da, 0, none⟩), .agg (encO x).toArray].toArray (disk da (armOf (B j) N) :: l) (fun v l' => v = .tuple #[.agg (encB zeroB).toArray, .int .i64 7] ∧ l' = disk da (armOf (B j) N).dies :: l) := fun l => by
                have h := does_spec E da (armOf (B j) N) x l (by have := hBp j; simp only [armOf]; omega) ⟨_, hxo⟩ (fun h4 => by omega)
                rwa [armed_dies hbe x hop hc] at h
              have hread7 : ∀ l, Fc prog E 27 [Value.pointer (some ⟨da, 0, none⟩), .int .i64 0].toArray (disk da (armOf (B j) N).dies :: l) (fun v l' => v = .tuple #[.agg (encB zeroB).toArray, .int .i64 7] ∧ l' = disk da (armOf (B j) N).dies :: l) := fun l =>
                read_spec E da (armOf (B j) N).dies 0 l (by have := hBp j; simp only [armOf, Dk.dies]; omega)
              have hz64 : (encB zeroB).length = 64 := rfl
              refine J.seq ?_
              refine J.seq ?_
              refine J.region ?_
              refine JL.step (y_move rfl) rfl rfl rfl ?_
              refine JL.step (y_loadN hT rfl rfl rfl (by (first | exact RdN.rowAll (by (repeat (first | exact Pick.head | apply Pick.tail))) | exact RdN.own (by (repeat (first | exact Pick.head | apply Pick.tail))))) (by (first | rfl | assumption | (simp; done) | omega))) rfl rfl rfl ?_
              refine JL.loud rfl (l_callF e23 rfl rfl (Fc.on (Split.cons (by (repeat (first | exact Pick.head | apply Pick.tail))) Split.nil) (hdies _)) ?_)
              rintro _ _ ⟨rfl, rfl⟩
              refine JL.step (y_move rfl) rfl rfl rfl (JL.step (y_extract rfl rfl) rfl rfl rfl (JL.step (y_extract rfl rfl) rfl rfl rfl ?_))
              refine JL.loud rfl (l_alloc hT rfl rfl (by (first | rfl | simp)) rfl (fun b18 => ?_))
              refine JL.loud rfl (l_storeAll hT rfl rfl rfl (by (first | rfl | assumption | (simp; done) | omega)) (by (first | assumption | exact encW_one _ | exact encB_one _ | (intro u hu; simp at hu; rcases hu with rfl | rfl <;> rfl) | (intro u hu; simp at hu; subst hu; rfl) | simp)) (by (repeat (first | exact Pick.head | apply Pick.tail))) (by (first | rfl | assumption | (simp; done) | omega)) ?_)
              refine JL.step (y_assign rfl) rfl rfl rfl ?_
              refine JL.nil ?_
              refine JE.then_normal ?_
              refine J.seq ?_
              refine J.region ?_
              refine JL.step (y_move rfl) rfl rfl rfl (JL.step (y_neq rfl rfl) rfl rfl rfl (JL.step (y_move rfl) rfl rfl rfl ?_))
              all_goals (first | (refine JL.gsplit_dec rfl rfl rfl (fun h => ?_) (fun h => ?_) <;> try (first | (exfalso; omega) | exact absurd rfl h)) | (refine JL.gsplit rfl rfl rfl (fun h => ?_) (fun h => ?_) <;> try (first | cases h | (exfalso; simp at h; done))) | skip)
              all_goals (first | refine JL.gskip rfl rfl rfl rfl rfl rfl ?_ | refine JL.gskipU rfl rfl rfl rfl rfl ?_ | refine JL.gstep rfl rfl rfl (y_move rfl) rfl rfl ?_)
              all_goals (first | refine JL.gskip rfl rfl rfl rfl rfl rfl ?_ | refine JL.gskipU rfl rfl rfl rfl rfl ?_ | (refine JL.gloud rfl rfl rfl (l_callF e31 rfl rfl (Fc.on (Split.cons (by (repeat (first | exact Pick.head | apply Pick.tail))) Split.nil) (dead_spec E da (armOf (B j) N).dies _)) ?_); rintro _ _ ⟨rfl, rfl⟩))
              all_goals (first | refine JL.gskip rfl rfl rfl rfl rfl rfl ?_ | refine JL.gskipU rfl rfl rfl rfl rfl ?_ | refine JL.gstep rfl rfl rfl (y_not rfl) rfl rfl ?_)
              all_goals (refine JL.step (y_pick rfl rfl rfl) rfl rfl rfl ?_)
              all_goals refine JL.nil ?_
              all_goals refine JE.then_normal ?_
              all_goals
                refine J.cond_f rfl (by (first | rfl | assumption | (simp; done) | (simp; omega))) ?_
                refine J.skip ?_
              all_goals refine JE.then_normal ?_
              all_goals
                refine J.seq ?_
                refine J.seq ?_
                refine J.region ?_
                refine JL.step (y_move rfl) rfl rfl rfl ?_
                refine JL.loud rfl (l_callF e27 rfl rfl (Fc.on (Split.cons (by (repeat (first | exact Pick.head | apply Pick.tail))) Split.nil) (hread7 _)) ?_)
                rintro _ _ ⟨rfl, rfl⟩
                refine JL.step (y_move rfl) rfl rfl rfl (JL.step (y_extract rfl rfl) rfl rfl rfl (JL.step (y_extract rfl rfl) rfl rfl rfl ?_))
                refine JL.loud rfl (l_alloc hT rfl rfl (by (first | rfl | simp)) rfl (fun b22 => ?_))
                refine JL.loud rfl (l_storeAll hT rfl rfl rfl (by (first | rfl | assumption | (simp; done) | omega)) (by (first | assumption | exact encW_one _ | exact encB_one _ | (intro u hu; simp at hu; rcases hu with rfl | rfl <;> rfl) | (intro u hu; simp at hu; subst hu; rfl) | simp)) (by (repeat (first | exact Pick.head | apply Pick.tail))) (by (first | rfl | assumption | (simp; done) | omega)) ?_)
                refine JL.step (y_assign rfl) rfl rfl rfl ?_
                refine JL.nil ?_
                refine JE.then_normal ?_
                refine J.seq ?_
                refine J.region ?_
                refine JL.step (y_move rfl) rfl rfl rfl (JL.step (y_neq rfl rfl) rfl rfl rfl (JL.step (y_move rfl) rfl rfl rfl ?_))
                all_goals (first | (refine JL.gsplit_dec rfl rfl rfl (fun h => ?_) (fun h => ?_) <;> try (first | (exfalso; omega) | exact absurd rfl h)) | (refine JL.gsplit rfl rfl rfl (fun h => ?_) (fun h => ?_) <;> try (first | cases h | (exfalso; simp at h; done))) | skip)
                all_goals (first | refine JL.gskip rfl rfl rfl rfl rfl rfl ?_ | refine JL.gskipU rfl rfl rfl rfl rfl ?_ | refine JL.gstep rfl rfl rfl (y_move rfl) rfl rfl ?_)
                all_goals (first | refine JL.gskip rfl rfl rfl rfl rfl rfl ?_ | refine JL.gskipU rfl rfl rfl rfl rfl ?_ | (refine JL.gloud rfl rfl rfl (l_callF e29 rfl rfl (Fc.on (Split.cons (by (repeat (first | exact Pick.head | apply Pick.tail))) Split.nil) (arm_spec E da (armOf (B j) N).dies 5 (by decide) _)) ?_); rintro _ _ ⟨rfl, rfl⟩))
                all_goals (first | refine JL.gskip rfl rfl rfl rfl rfl rfl ?_ | refine JL.gskipU rfl rfl rfl rfl rfl ?_ | refine JL.gstep rfl rfl rfl (y_neq rfl rfl) rfl rfl ?_)
                all_goals (refine JL.step (y_pick rfl rfl rfl) rfl rfl rfl ?_)
                all_goals (refine JL.step (y_move rfl) rfl rfl rfl ?_)
                all_goals (first | (refine JL.gsplit_dec rfl rfl rfl (fun h => ?_) (fun h => ?_) <;> try (first | (exfalso; omega) | exact absurd rfl h)) | (refine JL.gsplit rfl rfl rfl (fun h => ?_) (fun h => ?_) <;> try (first | cases h | (exfalso; simp at h; done))) | skip)
                all_goals (first | refine JL.gskip rfl rfl rfl rfl rfl rfl ?_ | refine JL.gskipU rfl rfl rfl rfl rfl ?_ | refine JL.gstep rfl rfl rfl (y_move rfl) rfl rfl ?_)
                all_goals (first | refine JL.gskip rfl rfl rfl rfl rfl rfl ?_ | refine JL.gskipU rfl rfl rfl rfl rfl ?_ | (refine JL.gloud rfl rfl rfl (l_callF e32 rfl rfl (Fc.on (Split.cons (by (repeat (first | exact Pick.head | apply Pick.tail))) Split.nil) (sync_spec E da (armOf (B j) N).dies _ (by have := hBp j; simp only [armOf, Dk.dies]; omega))) ?_); rintro _ _ ⟨rfl, rfl⟩))
                all_goals (first | refine JL.gskip rfl rfl rfl rfl rfl rfl ?_ | refine JL.gskipU rfl rfl rfl rfl rfl ?_ | refine JL.gstep rfl rfl rfl (y_neq rfl rfl) rfl rfl ?_)
                all_goals (refine JL.step (y_pick rfl rfl rfl) rfl rfl rfl ?_)
                all_goals refine JL.nil ?_
                all_goals refine JE.then_normal ?_
                all_goals
                  refine J.cond_f rfl (by (first | rfl | assumption | (simp; done) | (simp; omega))) ?_
                  refine J.skip ?_
                all_goals refine JE.then_normal ?_
                all_goals
                  refine J.seq ?_
                  refine J.region ?_
                  refine JL.step (y_move rfl) rfl rfl rfl ?_
                  refine JL.loud rfl (l_callF e33 rfl rfl (Fc.on (Split.cons (by (repeat (first | exact Pick.head | apply Pick.tail))) Split.nil) (pending_spec E da (armOf (B j) N).dies _ (by have := hBp j; simp only [armOf, Dk.dies]; omega))) ?_)
                  rintro _ _ ⟨pp, pc, rfl, rfl⟩
                  refine JL.step (y_assign rfl) rfl rfl rfl ?_
                  refine JL.nil ?_
                  refine JE.then_normal ?_
                  refine J.seq ?_
                  refine J.region ?_
                  refine JL.step (y_move rfl) rfl rfl rfl (JL.step (y_len_slice hT rfl rfl rfl) rfl rfl rfl ?_)
                  refine JL.loud rfl (l_makeSlice hT rfl rfl rfl rfl rfl rfl (by omega) (by omega) (mk_fits rfl (by omega) (by have := hBp j; simp only [armOf, Dk.dies]; omega)) (by have := hBp j; simp only [armOf, Dk.dies]; omega) rfl (fun bk => ?_))
                  have hmk : (madeCells (Value.bool false).cells (((B j).pending.length : Int).toNat * i4.size)).toList = (trues (B j).pending.length 0).map Value.bool := by
                    rw [show (Value.bool false).cells = (List.replicate 1 (Value.bool false)).toArray from rfl, madeCells_rep _ (by omega), trues]
                    simp [i4]
                  refine JL.pre (l' := row bk 4 ((trues (B j).pending.length 0).map Value.bool) :: _) (fun w s => by rw [← hmk]; exact s) ?_
                  refine JL.step (y_assign rfl) rfl rfl rfl ?_
                  refine JL.nil ?_
                  refine JE.then_normal ?_
                  refine J.seq ?_
                  refine J.seq ?_
                  refine J.region ?_
                  refine JL.step (y_move rfl) rfl rfl rfl (JL.step (y_len_slice hT rfl rfl rfl) rfl rfl rfl (JL.step (y_move rfl) rfl rfl rfl ?_))
                  refine JL.nil ?_
                  refine JE.then_normal ?_
                  refine J.block ?_
                  refine J.loop (α := Nat) (fun i => i ≤ (B j).pending.length) (fun i => [(1, .int .i64 N), (5, .pointer (some ⟨da, 0, none⟩)), (6, .pointer (some ⟨db, 0, none⟩)), (16, .slice (some ⟨bk, 0, none⟩) (B j).pending.length (B j).pending.length), (112, .int .i64 ((B j).pending.length : Nat)), (113, .int .i64 i)]) (fun i => row bk 4 ((trues (B j).pending.length i).map Value.bool) :: disk da (armOf (B j) N).dies :: disk db (B j) :: r) (fun i => (B j).pending.length - i) 0 (by omega) ⟨rfl, rfl, rfl, rfl, rfl, rfl, trivial⟩ (fun w h => h.sup (by (repeat (first | exact Sup.refl | apply Sup.cons (by (repeat (first | exact Pick.head | apply Pick.tail))) | apply Sup.skip)))) ?_
                  intro i hi
                  have hBpj := hBp j
                  refine J.seq ?_
                  refine J.region ?_
                  refine JL.step (y_lss rfl rfl) rfl rfl rfl ?_
                  refine JL.nil ?_
                  refine JE.then_normal ?_
                  refine J.seq ?_
                  first | apply J.cond_dec rfl | apply J.cond rfl
                  case' ht =>
                    intro h
                    try (first | (exfalso; omega) | (cases h; done) | (exfalso; simp at h; done) | subst h)
                    all_goals
                      refine J.skip ?_
                  case' hf =>
                    intro h
                    try (first | (exfalso; omega) | (cases h; done) | (exfalso; simp at h; done) | subst h)
                    all_goals
                      refine J.exit ?_
                      refine JE.then_exit ?_
                      refine JE.then_exit ?_
                      refine JE.block_exit ?_
                      refine JE.then_normal ?_
                      refine J.seq ?_
                      obtain rfl : i = (B j).pending.length := by omega
                      have htr : trues (B j).pending.length (B j).pending.length = List.replicate (B j).pending.length true := by simp [trues]
                      rw [htr]
                      have hcr : ∀ l, InL l (some ⟨bk, 0, none⟩) (B j).pending.length (B j).pending.length ((List.replicate (B j).pending.length true).map Value.bool) → Fc prog E 34 [.pointer (some ⟨da, 0, none⟩), .slice (some ⟨bk, 0, none⟩) (B j).pending.length (B j).pending.length].toArray (disk da (armOf (B j) N).dies :: l) (fun v l' => v = .int .i64 0 ∧ l' = disk da ((armOf (B j) N).dies.crash (List.replicate (B j).pending.length true)) :: l) := fun l hin => by
                        have h := crash_spec E da (armOf (B j) N).dies (some ⟨bk, 0, none⟩) (B j).pending.length (List.replicate (B j).pending.length true) l (by rwa [List.length_replicate]) (by have := hBp j; simp only [armOf, Dk.dies]; omega)
                        rwa [List.length_replicate] at h
                      have hh3 : ∀ l, Fc prog E 20 [Value.pointer (some ⟨da, 0, none⟩)].toArray (disk da ((armOf (B j) N).dies.crash (List.replicate (B j).pending.length true)) :: l) (fun v l' => ∃ a c, v = .slice a 6 c ∧ l' = own 27 64 v 6 ((B j).held.flatMap encB) :: disk da ((armOf (B j) N).dies.crash (List.replicate (B j).pending.length true)) :: l) := fun l => by
                        have h := hheld da ((armOf (B j) N).dies.crash (List.replicate (B j).pending.length true)) l (by simp [Dk.crash, Dk.settle]) (by simp [Dk.crash, Dk.settle, Dk.dies, armOf, liveOn_length, hbe.fine.len])
                        rwa [dies_held hbe hN] at h
                      refine J.region ?_
                      refine JL.step (y_move rfl) rfl rfl rfl (JL.step (y_move rfl) rfl rfl rfl ?_)
                      refine JL.loud rfl (l_callF e34 rfl rfl (Fc.on (Split.cons (by (repeat (first | exact Pick.head | apply Pick.tail))) (Split.cons (by (repeat (first | exact Pick.head | apply Pick.tail))) Split.nil)) (hcr _ (InL.ofRow Pick.head (by have := hBp j; unfold maxLen; omega)))) ?_)
                      rintro _ _ ⟨rfl, rfl⟩
                      refine JL.step (y_eql rfl rfl) rfl rfl rfl (JL.step (y_move rfl) rfl rfl rfl ?_)
                      all_goals (first | (refine JL.gsplit_dec rfl rfl rfl (fun h => ?_) (fun h => ?_) <;> try (first | (exfalso; omega) | exact absurd rfl h)) | (refine JL.gsplit rfl rfl rfl (fun h => ?_) (fun h => ?_) <;> try (first | cases h | (exfalso; simp at h; done))) | skip)
                      all_goals (first | refine JL.gskip rfl rfl rfl rfl rfl rfl ?_ | refine JL.gskipU rfl rfl rfl rfl rfl ?_ | refine JL.gstep rfl rfl rfl (y_move rfl) rfl rfl ?_)
                      all_goals (first | refine JL.gskip rfl rfl rfl rfl rfl rfl ?_ | refine JL.gskipU rfl rfl rfl rfl rfl ?_ | (refine JL.gloud rfl rfl rfl (l_callF e20 rfl rfl (Fc.on (Split.cons (by (repeat (first | exact Pick.head | apply Pick.tail))) Split.nil) (hh3 _)) ?_); rintro _ _ ⟨pa, ca, rfl, rfl⟩))
                      all_goals (first | refine JL.gskip rfl rfl rfl rfl rfl rfl ?_ | refine JL.gskipU rfl rfl rfl rfl rfl ?_ | refine JL.gstep rfl rfl rfl (y_move rfl) rfl rfl ?_)
                      all_goals (first | refine JL.gskip rfl rfl rfl rfl rfl rfl ?_ | refine JL.gskipU rfl rfl rfl rfl rfl ?_ | (refine JL.gloud rfl rfl rfl (l_callF e20 rfl rfl (Fc.on (Split.cons (by (repeat (first | exact Pick.head | apply Pick.tail))) Split.nil) (hheld db (B j) _ (hBp j) hbe.fine.len)) ?_); rintro _ _ ⟨pb, cb, rfl, rfl⟩))
                      all_goals (first | refine JL.gskip rfl rfl rfl rfl rfl rfl ?_ | refine JL.gskipU rfl rfl rfl rfl rfl ?_ | (refine JL.gloud rfl rfl rfl (l_callF e35 rfl rfl (Fc.fact (fun w s => s.own_at) fun oa2 => Fc.fact (fun w s => (s.pick (Pick.tail (Pick.tail Pick.head))).own_at) fun oa1 => hsame pa pb ca cb (B j) _ hbe.fine.ok hbe.fine.len (oa1.inl (Pick.tail (Pick.tail Pick.head))) (oa2.inl Pick.head)) ?_); rintro _ _ ⟨rfl, rfl⟩))
                      all_goals (refine JL.step (y_pick rfl rfl rfl) rfl rfl rfl ?_)
                      all_goals (refine JL.step (y_move rfl) rfl rfl rfl ?_)
                      all_goals (first | (refine JL.gsplit_dec rfl rfl rfl (fun h => ?_) (fun h => ?_) <;> try (first | (exfalso; omega) | exact absurd rfl h)) | (refine JL.gsplit rfl rfl rfl (fun h => ?_) (fun h => ?_) <;> try (first | cases h | (exfalso; simp at h; done))) | skip)
                      all_goals (first | refine JL.gskip rfl rfl rfl rfl rfl rfl ?_ | refine JL.gskipU rfl rfl rfl rfl rfl ?_ | refine JL.gstep rfl rfl rfl (y_move rfl) rfl rfl ?_)
                      all_goals (first | refine JL.gskip rfl rfl rfl rfl rfl rfl ?_ | refine JL.gskipU rfl rfl rfl rfl rfl ?_ | (refine JL.gloud rfl rfl rfl (l_callF e30 rfl rfl (Fc.on (Split.cons (by (repeat (first | exact Pick.head | apply Pick.tail))) Split.nil) (ops_spec E da ((armOf (B j) N).dies.crash (List.replicate (B j).pending.length true)) _)) ?_); rintro _ _ ⟨rfl, rfl⟩))
                      all_goals (first | refine JL.gskip rfl rfl rfl rfl rfl rfl ?_ | refine JL.gskipU rfl rfl rfl rfl rfl ?_ | refine JL.gstep rfl rfl rfl (y_move rfl) rfl rfl ?_)
                      all_goals (first | refine JL.gskip rfl rfl rfl rfl rfl rfl ?_ | refine JL.gskipU rfl rfl rfl rfl rfl ?_ | refine JL.gstep rfl rfl rfl (y_eql rfl rfl) rfl rfl ?_)
                      all_goals (refine JL.step (y_pick rfl rfl rfl) rfl rfl rfl ?_)
                      all_goals (refine JL.step (y_assign rfl) rfl rfl rfl ?_)
                      all_goals refine JL.nil ?_
                      all_goals refine JE.then_normal ?_
                      all_goals
                        refine J.ret ?_
                        refine JE.then_ret ?_
                        refine JE.block_ret ?_
                        refine JE.then_ret ?_
                        refine JE.then_ret ?_
                        refine JE.block_ret ?_
                        refine JE.then_ret ?_
                        refine JE.ret1 (.inl rfl) rfl rfl (by (first | exact RV.tmp rfl | exact RV.cell1 hT rfl rfl rfl (by (exact Rd1.row (by (repeat (first | exact Pick.head | apply Pick.tail))) (by rfl))) | exact RV.cellN hT rfl rfl rfl (by (first | exact RdN.rowAll (by (repeat (first | exact Pick.head | apply Pick.tail))) | exact RdN.own (by (repeat (first | exact Pick.head | apply Pick.tail))))) (by (first | rfl | assumption | (simp; done) | omega)))) ?_
                        refine ⟨?_, fun w q => q.sup (by (repeat (first | exact Sup.refl | apply Sup.cons (by (repeat (first | exact Pick.head | apply Pick.tail))) | apply Sup.skip)))⟩
                        first
                          | rfl
                          | (simp [armOf, Dk.crash, Dk.settle, Dk.dies]; done)
                          | (simp [armOf, Dk.crash, Dk.settle, Dk.dies, hop]; done)
                  all_goals refine JE.then_normal ?_
                  all_goals
                    refine J.seq ?_
                    refine J.block ?_
                    refine J.seq ?_
                    refine J.region ?_
                    refine JL.step (y_move rfl) rfl rfl rfl (JL.step (y_assign rfl) rfl rfl rfl ?_)
                    refine JL.nil ?_
                    refine JE.then_normal ?_
                    refine J.region ?_
                    refine JL.step (y_move rfl) rfl rfl rfl (JL.step (y_move rfl) rfl rfl rfl ?_)
                    refine JL.step (y_indexAddr_slice hT rfl rfl rfl rfl rfl (by (first | omega | exact Nat.le_of_ble_eq_true rfl | decide | (simp; omega))) (by (first | omega | exact Nat.le_of_ble_eq_true rfl | decide | (simp; omega)))) rfl rfl rfl ?_
                    refine JL.loud rfl (l_store1 hT rfl rfl rfl rfl rfl (by (repeat (first | exact Pick.head | apply Pick.tail))) (by rw [List.length_map, trues_length (n := (B j).pending.length) (j := i) (by omega), show i4.size = 1 from rfl]; omega) ?_)
                    refine JL.nil ?_
                    refine JE.block_normal ?_
                    refine JE.then_normal ?_
                    refine J.region ?_
                    refine JL.step (y_add rfl rfl (by (first | exact wrap_i64 (by omega) (by omega) | rfl))) rfl rfl rfl ?_
                    refine JL.step (y_move rfl) rfl rfl rfl ?_
                    refine JL.nil ?_
                  all_goals
                    refine JE.round (s := i) (i + 1) (by omega) ⟨rfl, rfl, rfl, rfl, rfl, rfl, trivial⟩ (fun w q => ?_) (by omega)
                    have e : ((trues (B j).pending.length i).map Value.bool).set (0 + (i : Int).toNat * i4.size) (.bool true) = (trues (B j).pending.length (i + 1)).map Value.bool := by
                      rw [← trues_next (n := (B j).pending.length) (j := i) (by omega), show 0 + (i : Int).toNat * i4.size = i by simp [i4], List.map_set]
                    rw [← e]
                    exact q.sup (by (repeat (first | exact Sup.refl | apply Sup.cons (by (repeat (first | exact Pick.head | apply Pick.tail))) | apply Sup.skip)))
          case' hf =>
            intro h
            try (first | (exfalso; omega) | (cases h; done) | (exfalso; simp at h; done) | subst h)
            all_goals
              have hnd : ¬ ((B j).ops = N ∧ (x.k = 2 ∨ x.k = 1 ∧ 0 ≤ x.at_ ∧ x.at_ < 6)) := by omega
              have hbe' := beside_step hbe (by omega) x (by omega) hnd
              have hlo' := hbe'.lo
              have hhi' := hbe'.hi
              obtain ⟨bx, ex, hbx⟩ : ∃ bx ex, ((B j).opd x).2 = (bx, ex) := ⟨_, _, rfl⟩
              have hb64 : bx.length = 64 := by
                have h1 := hbe.fine.ok.read x.at_
                have h2 : (((B j).opd x).2.1).length = 64 := by
                  unfold Dk.opd
                  repeat' split
                  all_goals first | exact h1 | rfl
                rw [hbx] at h2
                exact h2
              have hbl : (encB bx).length = 64 := (encB_length bx).trans hb64
              have hd1 : ∀ l, Fc prog E 23 [Value.pointer (some ⟨da, 0, none⟩), .agg (encO x).toArray].toArray (disk da (armOf (B j) N) :: l) (fun v l' => v = .tuple #[.agg (encB bx).toArray, .int .i64 ex] ∧ l' = disk da (armOf (stepW (B j) x) N) :: l) := fun l => by
                have h := does_spec E da (armOf (B j) N) x l (by have := hBp j; simp only [armOf]; omega) ⟨_, hxo⟩ (fun h4 => by omega)
                rwa [armed_step hbe hN x (by omega) hnd, hbx] at h
              have hd2 : ∀ l, Fc prog E 23 [Value.pointer (some ⟨db, 0, none⟩), .agg (encO x).toArray].toArray (disk db (B j) :: l) (fun v l' => v = .tuple #[.agg (encB bx).toArray, .int .i64 ex] ∧ l' = disk db (stepW (B j) x) :: l) := fun l => by
                have h := does_spec E db (B j) x l (by have := hBp j; omega) ⟨_, hxo⟩ (fun h4 => by omega)
                have e : stepW (B j) x = ((B j).opd x).1 := by rw [stepW, if_pos (by omega)]
                rw [hbx, ← e] at h
                exact h
              have hdd : ∀ l, Fc prog E 31 [Value.pointer (some ⟨da, 0, none⟩)].toArray (disk da (armOf (stepW (B j) x) N) :: l) (fun v l' => v = .bool false ∧ l' = disk da (armOf (stepW (B j) x) N) :: l) := fun l => by
                have h := dead_spec E da (armOf (stepW (B j) x) N) l
                rwa [show (armOf (stepW (B j) x) N).dead = false from hbe'.fine.dead] at h
              refine J.skip ?_
        all_goals refine JE.then_normal ?_
        all_goals
          refine J.seq ?_
          refine J.region ?_
          refine JL.step (y_move rfl) rfl rfl rfl ?_
          refine JL.step (y_loadN hT rfl rfl rfl (by (first | exact RdN.rowAll (by (repeat (first | exact Pick.head | apply Pick.tail))) | exact RdN.own (by (repeat (first | exact Pick.head | apply Pick.tail))))) (by (first | rfl | assumption | (simp; done) | omega))) rfl rfl rfl ?_
          refine JL.loud rfl (l_callF e23 rfl rfl (Fc.on (Split.cons (by (repeat (first | exact Pick.head | apply Pick.tail))) Split.nil) (hd1 _)) ?_)
          rintro _ _ ⟨rfl, rfl⟩
          refine JL.step (y_move rfl) rfl rfl rfl (JL.step (y_extract rfl rfl) rfl rfl rfl (JL.step (y_extract rfl rfl) rfl rfl rfl ?_))
          refine JL.loud rfl (l_alloc hT rfl rfl (by (first | rfl | simp)) rfl (fun b33 => ?_))
          refine JL.loud rfl (l_storeAll hT rfl rfl rfl (by (first | rfl | assumption | (simp; done) | omega)) (by (first | assumption | exact encW_one _ | exact encB_one _ | (intro u hu; simp at hu; rcases hu with rfl | rfl <;> rfl) | (intro u hu; simp at hu; subst hu; rfl) | simp)) (by (repeat (first | exact Pick.head | apply Pick.tail))) (by (first | rfl | assumption | (simp; done) | omega)) ?_)
          refine JL.step (y_assign rfl) rfl rfl rfl ?_
          refine JL.nil ?_
          refine JE.then_normal ?_
          refine J.seq ?_
          refine J.region ?_
          refine JL.step (y_move rfl) rfl rfl rfl ?_
          refine JL.step (y_loadN hT rfl rfl rfl (by (first | exact RdN.rowAll (by (repeat (first | exact Pick.head | apply Pick.tail))) | exact RdN.own (by (repeat (first | exact Pick.head | apply Pick.tail))))) (by (first | rfl | assumption | (simp; done) | omega))) rfl rfl rfl ?_
          refine JL.loud rfl (l_callF e23 rfl rfl (Fc.on (Split.cons (by (repeat (first | exact Pick.head | apply Pick.tail))) Split.nil) (hd2 _)) ?_)
          rintro _ _ ⟨rfl, rfl⟩
          refine JL.step (y_move rfl) rfl rfl rfl (JL.step (y_extract rfl rfl) rfl rfl rfl (JL.step (y_extract rfl rfl) rfl rfl rfl ?_))
          refine JL.loud rfl (l_alloc hT rfl rfl (by (first | rfl | simp)) rfl (fun b36 => ?_))
          refine JL.loud rfl (l_storeAll hT rfl rfl rfl (by (first | rfl | assumption | (simp; done) | omega)) (by (first | assumption | exact encW_one _ | exact encB_one _ | (intro u hu; simp at hu; rcases hu with rfl | rfl <;> rfl) | (intro u hu; simp at hu; subst hu; rfl) | simp)) (by (repeat (first | exact Pick.head | apply Pick.tail))) (by (first | rfl | assumption | (simp; done) | omega)) ?_)
          refine JL.step (y_assign rfl) rfl rfl rfl ?_
          refine JL.nil ?_
          refine JE.then_normal ?_
          refine J.seq ?_
          refine J.seq ?_
          refine J.region ?_
          refine JL.step (y_loadN hT rfl rfl rfl (by (first | exact RdN.rowAll (by (repeat (first | exact Pick.head | apply Pick.tail))) | exact RdN.own (by (repeat (first | exact Pick.head | apply Pick.tail))))) (by (first | rfl | assumption | (simp; done) | omega))) rfl rfl rfl ?_
          refine JL.step (y_loadN hT rfl rfl rfl (by (first | exact RdN.rowAll (by (repeat (first | exact Pick.head | apply Pick.tail))) | exact RdN.own (by (repeat (first | exact Pick.head | apply Pick.tail))))) (by (first | rfl | assumption | (simp; done) | omega))) rfl rfl rfl ?_
          refine JL.step (y_arr_ne (xs := bx) (ys := bx) hT rfl rfl rfl rfl rfl rfl rfl hb64 hb64) rfl rfl rfl ?_
          refine JL.step (y_move rfl) rfl rfl rfl ?_
          all_goals (first | (refine JL.gsplit_dec rfl rfl rfl (fun h => ?_) (fun h => ?_) <;> try (first | (exfalso; omega) | exact absurd rfl h)) | (refine JL.gsplit rfl rfl rfl (fun h => ?_) (fun h => ?_) <;> try (first | cases h | (exfalso; simp at h; done))) | skip)
          all_goals (first | refine JL.gskip rfl rfl rfl rfl rfl rfl ?_ | refine JL.gskipU rfl rfl rfl rfl rfl ?_ | refine JL.gstep rfl rfl rfl (y_move rfl) rfl rfl ?_)
          all_goals (first | refine JL.gskip rfl rfl rfl rfl rfl rfl ?_ | refine JL.gskipU rfl rfl rfl rfl rfl ?_ | refine JL.gstep rfl rfl rfl (y_move rfl) rfl rfl ?_)
          all_goals (first | refine JL.gskip rfl rfl rfl rfl rfl rfl ?_ | refine JL.gskipU rfl rfl rfl rfl rfl ?_ | refine JL.gstep rfl rfl rfl (y_neq rfl rfl) rfl rfl ?_)
          all_goals (refine JL.step (y_pick rfl rfl rfl) rfl rfl rfl ?_)
          all_goals (refine JL.step (y_move rfl) rfl rfl rfl ?_)
          all_goals (first | (refine JL.gsplit_dec rfl rfl rfl (fun h => ?_) (fun h => ?_) <;> try (first | (exfalso; omega) | exact absurd rfl h)) | (refine JL.gsplit rfl rfl rfl (fun h => ?_) (fun h => ?_) <;> try (first | cases h | (exfalso; simp at h; done))) | skip)
          all_goals (first | refine JL.gskip rfl rfl rfl rfl rfl rfl ?_ | refine JL.gskipU rfl rfl rfl rfl rfl ?_ | refine JL.gstep rfl rfl rfl (y_move rfl) rfl rfl ?_)
          all_goals (first | refine JL.gskip rfl rfl rfl rfl rfl rfl ?_ | refine JL.gskipU rfl rfl rfl rfl rfl ?_ | (refine JL.gloud rfl rfl rfl (l_callF e31 rfl rfl (Fc.on (Split.cons (by (repeat (first | exact Pick.head | apply Pick.tail))) Split.nil) (hdd _)) ?_); rintro _ _ ⟨rfl, rfl⟩))
          all_goals (refine JL.step (y_pick rfl rfl rfl) rfl rfl rfl ?_)
          all_goals refine JL.nil ?_
          all_goals refine JE.then_normal ?_
          all_goals
            refine J.cond_f rfl (by (first | rfl | assumption | (simp; done) | (simp; omega))) ?_
            refine J.skip ?_
          all_goals refine JE.then_normal ?_
          all_goals
            refine J.region ?_
            refine JL.step (y_move rfl) rfl rfl rfl (JL.step (y_move rfl) rfl rfl rfl ?_)
            refine JL.loud rfl (l_callF e30 rfl rfl (Fc.on (Split.cons (by (repeat (first | exact Pick.head | apply Pick.tail))) Split.nil) (ops_spec E db (stepW (B j) x) _)) ?_)
            rintro _ _ ⟨rfl, rfl⟩
            refine JL.step (y_move rfl) rfl rfl rfl ?_
            refine JL.step (y_sub rfl rfl (by (first | exact wrap_i64 (by omega) (by omega) | rfl))) rfl rfl rfl ?_
            refine JL.step (y_add rfl rfl (by (first | exact wrap_i64 (by omega) (by omega) | rfl))) rfl rfl rfl ?_
            refine JL.step (y_assign rfl) rfl rfl rfl ?_
            refine JL.nil ?_
      all_goals refine JE.block_normal ?_
      all_goals refine JE.then_normal ?_
      all_goals
        refine J.region ?_
        refine JL.step (y_add rfl rfl (by (first | exact wrap_i64 (by omega) (by omega) | rfl))) rfl rfl rfl ?_
        refine JL.step (y_move rfl) rfl rfl rfl ?_
        refine JL.nil ?_
    all_goals
      first
        | (have e : B (j + 1) = B j := by rw [hBn, stepW, if_neg (by omega)]
           refine JE.round (s := j) (j + 1) ⟨by omega, ?_⟩ ⟨rfl, rfl, rfl, congrArg (fun z => some (Value.int .i64 z)) (by rw [e]), rfl, rfl, rfl, trivial⟩ (fun w q => by rw [e]; exact q.sup (by (repeat (first | exact Sup.refl | apply Sup.cons (by (repeat (first | exact Pick.head | apply Pick.tail))) | apply Sup.skip)))) (by omega)
           rw [e]
           exact ⟨hbe.fine, hbe.lo, hbe.hi, by have := hbe.few; omega⟩)
        | exact JE.round (s := j) (j + 1) ⟨by omega, by rw [hBn]; exact hbe'⟩ ⟨rfl, rfl, rfl, congrArg (fun z => some (Value.int .i64 z)) (by rw [hBn]; omega), rfl, rfl, rfl, trivial⟩ (fun w q => by rw [hBn]; exact q.sup (by (repeat (first | exact Sup.refl | apply Sup.cons (by (repeat (first | exact Pick.head | apply Pick.tail))) | apply Sup.skip)))) (by omega)
end
section
open Go.ChangeShapes Go.WideShapes Go.ChangeAt Go.RowKit
theorem disk_armed_reads : ∀ t ∈ Try.f5.params.toList, Try.prog.readableRec t = true ∧ t < Try.prog.types.size := by
  rw [Try.params5]
  intro t ht
  simp only [List.mem_cons, List.not_mem_nil, or_false] at ht
  rcases ht with rfl | rfl
  all_goals exact ⟨by kernel_rfl, of_decide_eq_true (by kernel_rfl)⟩
set_option maxRecDepth 100000 in
theorem disk_armed_contract (H : Type) (enc : TypeId × Value → H) (W : World) (base : Nat) (args : Array Value) (ds gs : List (DataW H)) (before : List MemPlace)
    (hval : ∀ (j : Nat) t v, Try.f5.params[j]? = some t → args[j]? = some v → Value.okWide Try.prog W .any base t v)
    (hW : DataW.Whole enc Try.prog Try.f5.params.toList Rows.diskArmedSpec.vars false W args.toList ds gs before) :
    Calls Try.prog 5 args W fun e W' => ∃ v, e = .returned v ∧ Rows.diskArmedSpec.post enc Try.prog Try.f5 false true false false W args v W' := by
  have hW' := hW
  obtain ⟨p, q, hA0, hV, rfl, hfz, hnd⟩ := hW
  have hA : DataW.TrodAll enc Try.prog W 0 (fun _ => true) true Try.f5.params.toList args.toList ds p := hA0
  rw [Try.params5] at hA hval
  obtain ⟨v0, vs0, d0, ds0, p0, q0, hargs, rfl, rfl, h0, r0⟩ := trodAll_cons hA
  obtain ⟨v1, vs1, d1, ds1, p1, q1, rfl, rfl, rfl, h1, r1⟩ := trodAll_cons r0
  obtain ⟨rfl, rfl, rfl⟩ := trodAll_nil r1
  obtain rfl : args = #[v0, v1] := by cases args; simp_all
  obtain ⟨rfl, rfl⟩ := trodVars_none hV
  clear hA0
  have t0 : Tr enc prog (fun _ => True) W 22 [v0] := Tr.ofSlice u22 (hval 0 22 v0 rfl rfl) h0 trivial
  have t1 : Tr enc prog (fun _ => True) W 3 [v1] := Tr.ofInt u3 (hval 1 3 v1 rfl rfl) h1 trivial
  obtain ⟨sp, cap, xs, rfl, _, hok, hin⟩ := tr_ops Her.all t0
  have hx : OpsIn [old W] sp cap xs := ⟨hin.inl [], fun o ho => (hok o ho).here []⟩
  obtain ⟨n, e1, hn⟩ := Tr.int u3 t1
  cases e1
  refine ((disk_armed W sp cap xs n [old W] hx hn) W (Sat.start W)).mono fun e W' hq => ?_
  obtain ⟨v, l', rfl, hs, rfl, rfl⟩ := hq
  exact ⟨_, rfl, law_post laidOut_ rfl rfl u4 disk_armed_reads hW' rfl rfl rfl hs.below⟩
set_option maxRecDepth 100000 in
theorem disk_armed_lifted (os : Os) (started : os.Started) (H : Type) (enc : TypeId × Value → H) :
    ReturnsInHanded {} Try.checked os 5 .any (Rows.diskArmedSpec.pre6 enc Try.prog Try.f5 Rows.diskArmedRow.domain false) (Rows.diskArmedSpec.post enc Try.prog Try.f5 false true false false) := by
  refine returnsInHanded_of_change (C := Try.checked) own_ started (by kernel_rfl) Try.func5
    (ChangeSpec.witness6 (enc := enc) (C := Try.checked) false ⟨#[], #[.slice none 0 0, .int .i64 0], []⟩ 8 (by kernel_rfl) (by kernel_rfl) (by kernel_rfl) (by kernel_rfl)) ?_
  intro W base args ds gs before hval hW _ _
  exact disk_armed_contract H enc W base args ds gs before hval hW
theorem disk_armed_holds : Rows.DiskArmedSaid :=
  OpenClaim.holds_of_wide 5 Try.f5 rfl rfl rfl rfl rfl rfl rfl ⟨rfl, rfl, rfl, rfl, rfl⟩ rfl rfl rfl rfl rfl (by kernel_rfl) Try.func5 (by kernel_rfl)
    (of_decide_eq_true (by kernel_rfl)) (by unfold Func.isWrapper; first | (rw [if_pos (by decide +kernel)]; kernel_rfl) | (rw [if_neg (by decide +kernel)]; exact ⟨rfl, rfl⟩))
    (fun os started H enc _ => disk_armed_lifted os started H enc)
end
end Go.Proofs.Ytilifeeddpkclaa
