import Derived.Test.YtilifeeddpkclaaSlLoud
import Derived.StillTail
namespace Go.SL
open Go Go.RowKit

section
variable {P : Program} {E : World} {ops : Array Oper} {md : Region.Mode} {lc : List HProp}

/-- The operation yields v whatever stands beside the list. -/
def Quiets (P : Program) (E : World) (ops : Array Oper) (lc : List HProp) (o : Oper) (v : Value) (a : Act) : Prop :=
  ∀ m : List HProp, YieldsIn P ops (Sat E (stars (m ++ lc))) o v a

/-- Operation i comes up: either it yields a value whatever stands beside the list, or it goes from one list to another. -/
def mOp (P : Program) (E : World) (ops : Array Oper) (lc : List HProp) (i : Nat) (K : Act → List HProp → Prop) (a : Act) (m : List HProp) : Prop :=
  ∃ o, ops[i]? = some o ∧
    ((∃ v, Quiets P E ops lc o v a ∧ K (a.put o.dst v) m) ∨
     (∀ r w, Sat E (stars (m ++ (r ++ lc))) w → Region.wanted o (yielded ops a.tmps) = true ∧ o.wp P a w (fun a' w' => ∃ m', Sat E (stars (m' ++ (r ++ lc))) w' ∧ K a' m') (fun _ _ _ => False)))

/-- 'tl': the operations of the tail, which come behind all others; 'C': what is asked of the list of those that came up, where the tail begins. -/
def wpM (P : Program) (E : World) (md : Region.Mode) (ops : Array Oper) (tl : Nat → Bool) (C : Array Bool → Bool) (lc : List HProp) (Q : Act → List HProp → Prop) : Nat → Array Bool → Act → List HProp → Prop
  | 0, listed, a, m => (∀ j ∈ Region.ready md ops listed, tl j = true) ∧ C listed = true ∧ Q a m
  | f + 1, listed, a, m => (Region.ready md ops listed = [] → False) ∧ ∀ i ∈ Region.ready md ops listed, mOp P E ops lc i (wpM P E md ops tl C lc Q f (listed.setIfInBounds i true)) a m

theorem mOp_mono {i : Nat} {K K' : Act → List HProp → Prop} {a : Act} {m : List HProp} (h : ∀ a m, K a m → K' a m) (hh : mOp P E ops lc i K a m) : mOp P E ops lc i K' a m := by
  obtain ⟨o, ho, ⟨v, hv, hk⟩ | hl⟩ := hh
  · exact ⟨o, ho, .inl ⟨v, hv, h _ _ hk⟩⟩
  · exact ⟨o, ho, .inr fun r w hs => ⟨(hl r w hs).1, Oper.wp_mono' (fun _ _ ⟨m', h1, h2⟩ => ⟨m', h1, h _ _ h2⟩) (fun _ _ _ h => h) (hl r w hs).2⟩⟩

theorem wpAny_of_wpM {ρ : Option Nat} {Q : Act → List HProp → Prop} {Q' : Exit → Act → World → Prop} (hnd : ∀ (j : Nat) (o : Oper), ops[j]? = some o → nd o = true) {tl : Nat → Bool} {C : Array Bool → Bool} {t : Nat} (hQ : ∀ listed a m w, (∀ j ∈ Region.ready md ops listed, tl j = true) → C listed = true → Q a m → Sat E (stars (m ++ lc)) w → wpAnyIn (Fw ρ) 0 P md ops Q' t listed a w) :
    ∀ (f : Nat) (listed : Array Bool) (a : Act) (m : List HProp) (w : World), wpM P E md ops tl C lc Q f listed a m → Sat E (stars (m ++ lc)) w → wpAnyIn (Fw ρ) 0 P md ops Q' (t + f) listed a w
  | 0, listed, a, m, w, h, hs => hQ listed a m w h.1 h.2.1 h.2.2 hs
  | f + 1, listed, a, m, w, h, hs => by
    refine ⟨fun h0 => (h.1 h0).elim, fun i hi => ?_⟩
    obtain ⟨o, ho, ⟨v, hv, hk⟩ | hl⟩ := h.2 i hi
    · unfold wpOpIn
      simp only [ho]
      rcases hv m with ⟨hw, hy⟩ | ⟨hw, rfl⟩
      · simp only [hw, if_true]
        refine op_in (hnd i o ho) (Oper.wp_of_quiet (C := Sat E (stars (m ++ lc))) hs (K := fun a' => a' = a.put o.dst v) (fun a' w' hw' e => ?_) ⟨v, hy, rfl⟩)
        subst e
        exact wpAny_of_wpM hnd hQ f _ _ m w' hk hw'
      · simp only [hw, Bool.false_eq_true, if_false]
        exact ⟨fun _ _ => trivial, wpAny_of_wpM hnd hQ f _ _ m w hk hs⟩
    · obtain ⟨hw, hl⟩ := hl [] w hs
      unfold wpOpIn
      simp only [ho, hw, if_true]
      exact op_in (hnd i o ho) (Oper.wp_mono' (fun a' w' ⟨m', h1, h2⟩ => wpAny_of_wpM hnd hQ f _ a' m' w' h2 h1) (fun _ _ _ h => h.elim) hl)

theorem wp_put {o : Oper} {a : Act} {d : Option Tmp} {v : Value} {w : World} {N : Act → World → Prop} (he : execOp (a.put d v).eval o = execOp a.eval o) (hc : ∀ (a : Act) u, (a.put d v).put o.dst u = (a.put o.dst u).put d v)
    (hdf : ∀ (a : Act) x, ({ a with defers := x } : Act).put d v = { a.put d v with defers := x })
    (h : o.wp P (a.put d v) w N (fun _ _ _ => False)) : o.wp P a w (fun a' w' => N (a'.put d v) w') (fun _ _ _ => False) := by
  unfold Oper.wp at *
  rw [he] at h
  generalize (execOp a.eval o).run P w = q at *
  cases q with
  | ok x w' =>
    cases x <;> simp only [Oper.upon] at * <;> first | exact h | skip
    · rw [← hc]; exact h
    · rw [← hc]; exact h
    · exact Calls.mono h fun e w'' he => by
        cases e with
        | returned u => show N _ _; rw [← hc]; exact he
        | panicked c => exact he
        | outgrown => exact he
    · rename_i x
      have e1 : (({ a with defers := x :: a.defers } : Act).put o.dst undef).put d v = ({ a.put d v with defers := x :: (a.put d v).defers } : Act).put o.dst undef := by
        rw [← hc, hdf]
        cases d <;> rfl
      rw [e1]; exact h
    · exact Rows.mono h fun u w'' he => by show N _ _; rw [← hc]; exact he
  | halt x w' => cases x <;> simp only [Oper.upon] at * <;> exact h

theorem Quiets.of_same {o : Oper} {v : Value} {a a' : Act} (hy : Quiets P E ops lc o v a) (he : execOp a'.eval o = execOp a.eval o)
    (hw : Region.wanted o (yielded ops a'.tmps) = Region.wanted o (yielded ops a.tmps)) : Quiets P E ops lc o v a' := fun m => (hy m).of_same he hw

/-- An operation apart from a quiet one may come up before it. -/
theorem mOp_put {j : Nat} {oi oj : Oper} {v : Value} (hj : ops[j]? = some oj) (hap : oi.apart ops oj = true)
    (hsi : ∀ cs b, oi.op ≠ .select cs b) (hsj : ∀ cs b, oj.op ≠ .select cs b) {K : Act → List HProp → Prop} {a : Act} {m : List HProp}
    (hy : Quiets P E ops lc oi v a) (h : mOp P E ops lc j K (a.put oi.dst v) m) :
    mOp P E ops lc j (fun a' m' => Quiets P E ops lc oi v a' ∧ K (a'.put oi.dst v) m') a m := by
  obtain ⟨h1, h2, h3⟩ := Oper.apart_spec hap
  have keep : ∀ (a : Act), Quiets P E ops lc oi v a → ∀ u, Quiets P E ops lc oi v (a.put oj.dst u) := fun a hy u =>
    hy.of_same (execOp_put oi hsi a oj.dst u h3) (wanted_put oi a oj.dst u h3)
  obtain ⟨o, ho, hh⟩ := h
  obtain rfl : o = oj := Option.some.inj (ho.symm.trans hj)
  refine ⟨o, ho, ?_⟩
  rcases hh with ⟨u, hu, hk⟩ | hl
  · refine .inl ⟨u, hu.of_same (execOp_put o hsj a oi.dst v h1).symm (wanted_put o a oi.dst v h1).symm, keep a hy u, ?_⟩
    rw [← Act.put_comm a v u h2]; exact hk
  · refine .inr fun r w hs => ?_
    obtain ⟨hw, hl⟩ := hl r w hs
    rw [wanted_put o a oi.dst v h1] at hw
    refine ⟨hw, ?_⟩
    have hx := wp_put (N := fun a' w' => ∃ m', Sat E (stars (m' ++ (r ++ lc))) w' ∧ K a' m') (execOp_put o hsj a oi.dst v h1) (fun a u => Act.put_comm a v u h2) (fun a x => by cases oi.dst <;> rfl) hl
    unfold Oper.wp at hx ⊢
    generalize (execOp a.eval o).run P w = q at *
    have keepd : ∀ (a : Act) x, Quiets P E ops lc oi v a → Quiets P E ops lc oi v ({ a with defers := x } : Act) := fun a x hq m => by
      have e : ({ a with defers := x } : Act).eval = a.eval := by funext z; cases z <;> rfl
      exact (hq m).of_same (by rw [e]) rfl
    cases q with
    | ok x w' =>
      cases x <;> simp only [Oper.upon] at * <;> first | exact hx | skip
      · obtain ⟨m', g1, g2⟩ := hx; exact ⟨m', g1, keep _ hy _, g2⟩
      · obtain ⟨m', g1, g2⟩ := hx; exact ⟨m', g1, keep _ hy _, g2⟩
      · exact Calls.mono hx fun e w'' he => by
          cases e with
          | returned u => obtain ⟨m', g1, g2⟩ := he; exact ⟨m', g1, keep _ hy _, g2⟩
          | panicked c => exact he
          | outgrown => exact he
      · obtain ⟨m', g1, g2⟩ := hx; exact ⟨m', g1, keep _ (keepd _ _ hy) _, g2⟩
      · exact Rows.mono hx fun u w'' he => by obtain ⟨m', g1, g2⟩ := he; exact ⟨m', g1, keep _ hy _, g2⟩
    | halt x w' => cases x <;> simp only [Oper.upon] at * <;> exact hx

theorem wpM_first {Q : Act → List HProp → Prop} {tl : Nat → Bool} {C : Array Bool → Bool} {i : Nat} {oi : Oper} {v : Value} (htl : ∀ j oj, ops[j]? = some oj → tl j = true → ∃ e ∈ oj.after, Region.binds md e = true ∧ e.on = i) (hi : ops[i]? = some oi) (hsel : ∀ (j : Nat) (o : Oper) cs b, ops[j]? = some o → o.op ≠ .select cs b) :
    ∀ (f : Nat) (listed : Array Bool) (a : Act) (m : List HProp),
      (∀ j oj, ops[j]? = some oj → j ≠ i → listed.getD j true = false → (∀ e ∈ oj.after, Region.binds md e = true → e.on ≠ i) → oi.apart ops oj = true) →
      i ∈ Region.ready md ops listed → Quiets P E ops lc oi v a →
      wpM P E md ops tl C lc Q f (listed.setIfInBounds i true) (a.put oi.dst v) m → wpM P E md ops tl C lc Q (f + 1) listed a m := by
  intro f
  induction f with
  | zero =>
    intro listed a m _ hr hy H
    refine ⟨fun h => (by rw [h] at hr; cases hr), fun j hj => ?_⟩
    by_cases hji : j = i
    · subst hji; exact ⟨oi, hi, .inl ⟨v, hy, H⟩⟩
    · obtain ⟨_, oj, hoj, hall⟩ := mem_ready.1 hj
      obtain ⟨e, he, hb, heq⟩ := htl j oj hoj (H.1 j (ready_mono hj hji))
      have h1 := hall e he hb
      rw [heq, getD_both (mem_ready.1 hr).1] at h1
      cases h1
  | succ f ih =>
    intro listed a m hfree hr hy H
    refine ⟨fun h => (by rw [h] at hr; cases hr), fun j hj => ?_⟩
    by_cases hji : j = i
    · subst hji; exact ⟨oi, hi, .inl ⟨v, hy, H⟩⟩
    · have h1 := H.2 j (ready_mono hj hji)
      obtain ⟨hjun, oj, hoj, hall⟩ := mem_ready.1 hj
      have hnot : ∀ e ∈ oj.after, Region.binds md e = true → e.on ≠ i := fun e he hb heq => by
        have h1 := hall e he hb
        rw [heq, getD_both (mem_ready.1 hr).1] at h1
        cases h1
      have h2 := mOp_put hoj (hfree j oj hoj hji hjun hnot) (fun cs b => hsel i oi cs b hi) (fun cs b => hsel j oj cs b hoj) hy h1
      have hfree' : ∀ k ok, ops[k]? = some ok → k ≠ i → (listed.setIfInBounds j true).getD k true = false →
          (∀ e ∈ ok.after, Region.binds md e = true → e.on ≠ i) → oi.apart ops ok = true := fun k ok hk hki hun hno => by
        refine hfree k ok hk hki ?_ hno
        by_cases hjk : j = k
        · subst hjk; exact hjun
        · rw [getD_set_ne true hjk] at hun; exact hun
      refine mOp_mono (fun a' m' h3 => ih (listed.setIfInBounds j true) a' m' hfree' (ready_mono hr (Ne.symm hji)) h3.1 ?_) h2
      rw [Array.setIfInBounds_comm _ _ hji]
      exact h3.2

/-- The plan's steps: quiet; loud: it may turn the world, and comes up alone (beside such that lay a new block); laying: it lays a new block and no more; early: it reads what a later step turns. -/
inductive Kd where
  | q | l | n | e

/-- Takes a laying step to the head, if all ahead of it are apart from it. -/
def front (ops : Array Oper) (i : Nat) : List (Nat × Kd) → Option (List (Nat × Kd))
  | [] => none
  | (k, x) :: r => if k = i then (match x with | .n => some r | _ => none) else
    match ops[i]?, ops[k]? with
    | some oi, some ok => if oi.apart ops ok then (front ops i r).map ((k, x) :: ·) else none
    | _, _ => none

def Kd.isE : Kd → Bool
  | .e => true
  | _ => false
def Kd.isR : Kd → Bool
  | .e => true
  | .q => true
  | _ => false
/-- Takes an early step to the head, if none ahead of it turns anything, and all are apart from it. -/
def frontE (ops : Array Oper) (i : Nat) : List (Nat × Kd) → Option (List (Nat × Kd))
  | [] => none
  | (k, x) :: r => if k = i then (if x.isE then some r else none) else
    match ops[i]?, ops[k]? with
    | some oi, some ok => if x.isR && (oi.apart ops ok && ok.apart ops oi) then (frontE ops i r).map ((k, x) :: ·) else none
    | _, _ => none

/-- All of the tail come behind this one. -/
def tailB (md : Region.Mode) (ops : Array Oper) (tl : Nat → Bool) (k : Nat) : Bool :=
  (List.range ops.size).all fun j => !(tl j) || (match ops[j]? with | some oj => oj.after.any fun e => Region.binds md e && e.on == k | none => true)
theorem tailB_spec {md : Region.Mode} {ops : Array Oper} {tl : Nat → Bool} {k : Nat} (h : tailB md ops tl k = true) : ∀ j oj, ops[j]? = some oj → tl j = true → ∃ e ∈ oj.after, Region.binds md e = true ∧ e.on = k := fun j oj hj ht => by
  have hlt : j < ops.size := (Array.getElem?_eq_some_iff.1 hj).1
  have h1 := List.all_eq_true.1 h j (List.mem_range.2 hlt)
  simp only [ht, Bool.not_true, Bool.false_or, hj, Array.any_eq_true'] at h1
  obtain ⟨e, he, hq⟩ := h1
  simp only [Bool.and_eq_true, beq_iff_eq] at hq
  exact ⟨e, he, hq.1, hq.2⟩
def planB (md : Region.Mode) (ops : Array Oper) (tl : Nat → Bool) (C : Array Bool → Bool) : Nat → List (Nat × Kd) → Array Bool → Bool
  | 0, [], listed => (Region.ready md ops listed).all tl && C listed
  | f + 1, (k, x) :: r, listed => match x with
    | .q => (Region.ready md ops listed).contains k && Region.free md ops listed k && tailB md ops tl k && planB md ops tl C f r (listed.setIfInBounds k true)
    | .e => !(Region.ready md ops listed).isEmpty && (Region.ready md ops listed).all fun i =>
      if i = k then planB md ops tl C f r (listed.setIfInBounds k true)
      else match frontE ops i ((k, .e) :: r) with
        | some r' => planB md ops tl C f r' (listed.setIfInBounds i true)
        | none => match front ops i ((k, .e) :: r) with
          | some r' => planB md ops tl C f r' (listed.setIfInBounds i true)
          | none => false
    | _ => !(Region.ready md ops listed).isEmpty && (Region.ready md ops listed).all fun i =>
      if i = k then planB md ops tl C f r (listed.setIfInBounds k true)
      else match front ops i ((k, x) :: r) with
        | some r' => planB md ops tl C f r' (listed.setIfInBounds i true)
        | none => false
  | _, _, _ => false

/-- The operation lays a new block and no more. -/
def Lays (P : Program) (o : Oper) (a : Act) (V : Nat → Value) (ob : Obj) : Prop := ∀ w : World, (execOp a.eval o).run P w = .ok (.value (V w.heap.size)) (w.alloc ob)

theorem Lays.unique {o : Oper} {a : Act} {V V' : Nat → Value} {ob ob' : Obj} (h : Lays P o a V ob) (h' : Lays P o a V' ob') : V = V' ∧ ob = ob' := by
  have key : ∀ n : Nat, V n = V' n ∧ ob = ob' := fun n => by
    have e1 := h { (default : World) with heap := Array.replicate n default }
    have e2 := h' { (default : World) with heap := Array.replicate n default }
    rw [e1] at e2
    simp only [Array.size_replicate, Result.ok.injEq, Next.value.injEq, World.alloc, World.mk.injEq, and_true] at e2
    exact ⟨e2.1, (Array.push_inj_right.1 e2.2)⟩
  exact ⟨funext fun n => (key n).1, (key 0).2⟩

/-- The operations gone through by the plan. -/
def wpPlan (P : Program) (E : World) (ops : Array Oper) (lc : List HProp) (Q : Act → List HProp → Prop) : List (Nat × Kd) → Act → List HProp → Prop
  | [], a, m => Q a m
  | (k, .l) :: r, a, m => ∃ o, ops[k]? = some o ∧ Region.wanted o (yielded ops a.tmps) = true ∧ ∀ fr w, Sat E (stars (m ++ (fr ++ lc))) w → o.wp P a w (fun a' w' => ∃ m', Sat E (stars (m' ++ (fr ++ lc))) w' ∧ wpPlan P E ops lc Q r a' m') (fun _ _ _ => False)
  | (k, .q) :: r, a, m => ∃ o v, ops[k]? = some o ∧ Quiets P E ops lc o v a ∧ wpPlan P E ops lc Q r (a.put o.dst v) m
  | (k, .n) :: r, a, m => ∃ o V ob, ops[k]? = some o ∧ Region.wanted o (yielded ops a.tmps) = true ∧ Lays P o a V ob ∧ ∀ b, wpPlan P E ops lc Q r (a.put o.dst (V b)) (blk b ob :: m)
  | (k, .e) :: r, a, m => ∃ o v, ops[k]? = some o ∧ (∀ fr, YieldsIn P ops (Sat E (stars (m ++ (fr ++ lc)))) o v a) ∧ wpPlan P E ops lc Q r (a.put o.dst v) m

/-- What an operation may leave: a frame with one slot turned, or with one more deferred call. -/
theorem wp_ends {o : Oper} {a : Act} {w : World} {N N' : Act → World → Prop} (h : o.wp P a w N (fun _ _ _ => False))
    (hN : ∀ u w', N (a.put o.dst u) w' → N' (a.put o.dst u) w') (hD : ∀ x w', N (({ a with defers := x } : Act).put o.dst undef) w' → N' (({ a with defers := x } : Act).put o.dst undef) w') : o.wp P a w N' (fun _ _ _ => False) := by
  unfold Oper.wp at *
  generalize (execOp a.eval o).run P w = q at *
  cases q with
  | ok x w' =>
    cases x <;> simp only [Oper.upon] at * <;> first | exact h | skip
    · exact hN _ _ h
    · exact hN _ _ h
    · exact Calls.mono h fun e w'' he => by
        cases e with
        | returned u => exact hN _ _ he
        | panicked c => exact he
        | outgrown => exact he
    · exact hD _ _ h
    · exact Rows.mono h fun u w'' he => hN _ _ he
  | halt x w' => cases x <;> simp only [Oper.upon] at * <;> exact h

theorem eval_defers (a : Act) (x : List Deferred) : ({ a with defers := x } : Act).eval = a.eval := by funext z; cases z <;> rfl

section
variable {i k : Nat} {oi ok : Oper} (hi : ops[i]? = some oi) (hap : oi.apart ops ok = true) (hsi : ∀ cs b, oi.op ≠ .select cs b) (hsk : ∀ cs b, ok.op ≠ .select cs b)
include hap hsi
theorem Lays.past {a : Act} {V : Nat → Value} {ob : Obj} (u : Value) : Lays P oi (a.put ok.dst u) V ob ↔ Lays P oi a V ob := by
  obtain ⟨_, _, h3⟩ := Oper.apart_spec hap
  unfold Lays
  rw [execOp_put oi hsi a ok.dst u h3]
omit hsi in
theorem wanted_past (a : Act) (u : Value) : Region.wanted oi (yielded ops (a.put ok.dst u).tmps) = Region.wanted oi (yielded ops a.tmps) := wanted_put oi a ok.dst u (Oper.apart_spec hap).2.2
end

/-- A laying step that comes later is known to lay by now, if the list can be met. -/
theorem plan_lays {Q : Act → List HProp → Prop} (hs : Region.noSelect ops = true) {i : Nat} {oi : Oper} (hi : ops[i]? = some oi) : ∀ (π π' : List (Nat × Kd)) (a : Act) (m fr : List HProp) (w : World), front ops i π = some π' →
    wpPlan P E ops lc Q π a m → Sat E (stars (m ++ (fr ++ lc))) w → Region.wanted oi (yielded ops a.tmps) = true ∧ ∃ V ob, Lays P oi a V ob
  | [], π', a, m, fr, w, hf, _, _ => by simp [front] at hf
  | (k, x) :: r, π', a, m, fr, w, hf, h, hsat => by
    by_cases hki : k = i
    · subst hki
      cases x with
      | n =>
        obtain ⟨o, V, ob, h1, h2, h3, h4⟩ := h
        obtain rfl : o = oi := Option.some.inj (h1.symm.trans hi)
        exact ⟨h2, V, ob, h3⟩
      | q => simp [front] at hf
      | l => simp [front] at hf
      | e => simp [front] at hf
    · have hk : ∃ ok, ops[k]? = some ok := by
        cases x with
        | n => obtain ⟨o, _, _, h1, _⟩ := h; exact ⟨o, h1⟩
        | q => obtain ⟨o, _, h1, _⟩ := h; exact ⟨o, h1⟩
        | e => obtain ⟨o, _, h1, _⟩ := h; exact ⟨o, h1⟩
        | l => obtain ⟨o, h1, _⟩ := h; exact ⟨o, h1⟩
      obtain ⟨ok, hok⟩ := hk
      simp only [front, hki, if_false, hi, hok] at hf
      split at hf
      case isFalse => cases hf
      rename_i hap
      obtain ⟨r', hr', _⟩ := Option.map_eq_some_iff.1 hf
      have hsi : ∀ cs b, oi.op ≠ .select cs b := fun cs b => Region.noSelect_spec hs i oi cs b hi
      have hsk : ∀ cs b, ok.op ≠ .select cs b := fun cs b => Region.noSelect_spec hs k ok cs b hok
      cases x with
      | q =>
        obtain ⟨o, v, h1, h2, h3⟩ := h
        obtain rfl : o = ok := Option.some.inj (h1.symm.trans hok)
        obtain ⟨g1, V, ob, g2⟩ := plan_lays hs hi r r' _ m fr w hr' h3 hsat
        exact ⟨by rw [← wanted_past hap a v]; exact g1, V, ob, (Lays.past hap hsi v).1 g2⟩
      | e =>
        obtain ⟨o, v, h1, h2, h3⟩ := h
        obtain rfl : o = ok := Option.some.inj (h1.symm.trans hok)
        obtain ⟨g1, V, ob, g2⟩ := plan_lays hs hi r r' _ m fr w hr' h3 hsat
        exact ⟨by rw [← wanted_past hap a v]; exact g1, V, ob, (Lays.past hap hsi v).1 g2⟩
      | n =>
        obtain ⟨o, V, ob, h1, h2, h3, h4⟩ := h
        obtain rfl : o = ok := Option.some.inj (h1.symm.trans hok)
        obtain ⟨g1, V', ob', g2⟩ := plan_lays hs hi r r' _ _ fr (w.alloc ob) hr' (h4 w.heap.size) (hsat.alloc ob)
        exact ⟨by rw [← wanted_past hap a _]; exact g1, V', ob', (Lays.past hap hsi _).1 g2⟩
      | l =>
        obtain ⟨o, h1, h2, h3⟩ := h
        obtain rfl : o = ok := Option.some.inj (h1.symm.trans hok)
        have hx := h3 fr w hsat
        obtain ⟨_, _, p3⟩ := Oper.apart_spec hap
        have hx' : o.wp P a w (fun a' w' => Region.wanted oi (yielded ops a.tmps) = true ∧ ∃ V ob, Lays P oi a V ob) (fun _ _ _ => False) := by
          refine wp_ends hx (fun u w' ⟨m', q1, q2⟩ => ?_) (fun z w' ⟨m', q1, q2⟩ => ?_)
          · obtain ⟨g1, V, ob, g2⟩ := plan_lays hs hi r r' _ m' fr w' hr' q2 q1
            exact ⟨by rw [← wanted_past hap a u]; exact g1, V, ob, (Lays.past hap hsi u).1 g2⟩
          · obtain ⟨g1, V, ob, g2⟩ := plan_lays hs hi r r' _ m' fr w' hr' q2 q1
            have g3 := (Lays.past (a := { a with defers := z }) hap hsi undef).1 g2
            have g4 := wanted_past hap ({ a with defers := z } : Act) undef
            rw [g4] at g1
            exact ⟨g1, V, ob, by unfold Lays at g3 ⊢; rw [eval_defers] at g3; exact g3⟩
        revert hx'
        unfold Oper.wp
        generalize (execOp a.eval o).run P w = qq
        intro hx'
        cases qq with
        | ok y w' =>
          cases y <;> simp only [Oper.upon] at hx' <;> first | exact hx' | skip
          · obtain ⟨e, w'', fr', hR, _⟩ := hx' []
            cases e with
            | returned u => exact hR
            | panicked c => exact hR.elim
            | outgrown => obtain ⟨_, _, hh⟩ := hR; exact hh.elim
          · obtain ⟨v, w'', hR, _⟩ := hx' default []
            exact hR
        | halt y w' => cases y <;> simp only [Oper.upon] at hx' <;> exact hx'.elim

theorem sat_turn {m fr lc : List HProp} {A : HProp} {w : World} : Sat E (stars (A :: m ++ (fr ++ lc))) w ↔ Sat E (stars (m ++ ((A :: fr) ++ lc))) w := by
  have p : Pick (m ++ ((A :: fr) ++ lc)) A (m ++ (fr ++ lc)) := by
    induction m with
    | nil => exact Pick.head
    | cons B m ih => exact Pick.tail ih
  exact ⟨fun s => s.unpick p, fun s => s.pick p⟩

theorem yields_imp {C C' : World → Prop} {o : Oper} {v : Value} {a : Act} (h : YieldsIn P ops C o v a) (hi : ∀ w, C' w ↔ C w) : YieldsIn P ops C' o v a := by
  obtain rfl : C' = C := funext fun w => propext (hi w)
  exact h
theorem plan_perm {Q : Act → List HProp → Prop} (hQ : ∀ a m m', (∀ h, stars m h ↔ stars m' h) → Q a m → Q a m') : ∀ (r : List (Nat × Kd)) (a : Act) (m m' : List HProp), (∀ h, stars m h ↔ stars m' h) →
    wpPlan P E ops lc Q r a m → wpPlan P E ops lc Q r a m'
  | [], a, m, m', e, h => hQ a m m' e h
  | (_, .q) :: r, _, m, m', e, ⟨o, v, h1, h2, h3⟩ => ⟨o, v, h1, h2, plan_perm hQ r _ m m' e h3⟩
  | (_, .n) :: r, _, m, m', e, ⟨o, V, ob, h1, h2, h3, h4⟩ => ⟨o, V, ob, h1, h2, h3, fun b => plan_perm hQ r _ (blk b ob :: m) (blk b ob :: m') (fun _ => ⟨fun s => star_mono (fun _ x => x) (fun h' => (e h').1) s, fun s => star_mono (fun _ x => x) (fun h' => (e h').2) s⟩) (h4 b)⟩
  | (_, .e) :: r, _, m, m', e, ⟨o, v, h1, h2, h3⟩ => ⟨o, v, h1, fun fr => yields_imp (h2 fr) (fun _ => ⟨fun hs => hs.imp fun h s => (stars_append m _ h).2 (star_mono (fun h' => (e h').2) (fun _ x => x) ((stars_append m' _ h).1 s)), fun hs => hs.imp fun h s => (stars_append m' _ h).2 (star_mono (fun h' => (e h').1) (fun _ x => x) ((stars_append m _ h).1 s))⟩), plan_perm hQ r _ m m' e h3⟩
  | (_, .l) :: _, _, m, m', e, ⟨o, h1, h2, h3⟩ => ⟨o, h1, h2, fun fr w hs => h3 fr w (hs.imp fun h s => (stars_append m _ h).2 (star_mono (fun h' => (e h').2) (fun _ x => x) ((stars_append m' _ h).1 s)))⟩

theorem wp_put_back {o : Oper} {a : Act} {d : Option Tmp} {v : Value} {w : World} {N : Act → World → Prop} (he : execOp (a.put d v).eval o = execOp a.eval o) (hc : ∀ (a : Act) u, (a.put o.dst u).put d v = (a.put d v).put o.dst u)
    (hdf : ∀ (a : Act) x, ({ a with defers := x } : Act).put d v = { a.put d v with defers := x })
    (h : o.wp P a w (fun a' w' => N (a'.put d v) w') (fun _ _ _ => False)) : o.wp P (a.put d v) w N (fun _ _ _ => False) := by
  unfold Oper.wp at *
  rw [he]
  generalize (execOp a.eval o).run P w = q at *
  cases q with
  | ok x w' =>
    cases x <;> simp only [Oper.upon] at * <;> first | exact h | skip
    · rw [← hc]; exact h
    · rw [← hc]; exact h
    · exact Calls.mono h fun e w'' he => by
        cases e with
        | returned u => show N _ _; rw [← hc]; exact he
        | panicked c => exact he
        | outgrown => exact he
    · rename_i x
      have e1 : (({ a with defers := x :: a.defers } : Act).put o.dst undef).put d v = ({ a.put d v with defers := x :: (a.put d v).defers } : Act).put o.dst undef := by
        rw [hc, hdf]
        cases d <;> rfl
      rw [← e1]; exact h
    · exact Rows.mono h fun u w'' he => by show N _ _; rw [← hc]; exact he
  | halt x w' => cases x <;> simp only [Oper.upon] at * <;> exact h

theorem plan_front {Q : Act → List HProp → Prop} (hQ : ∀ a m m', (∀ h, stars m h ↔ stars m' h) → Q a m → Q a m') (hs : Region.noSelect ops = true) {i : Nat} {oi : Oper} (hi : ops[i]? = some oi) (V : Nat → Value) (ob : Obj) : ∀ (π π' : List (Nat × Kd)) (a : Act) (m : List HProp), front ops i π = some π' →
    Lays P oi a V ob → wpPlan P E ops lc Q π a m → ∀ b, wpPlan P E ops lc Q π' (a.put oi.dst (V b)) (blk b ob :: m)
  | [], π', a, m, hf, _, _ => by simp [front] at hf
  | (k, x) :: r, π', a, m, hf, hl, h => by
    intro b
    by_cases hki : k = i
    · subst hki
      cases x with
      | n =>
        obtain ⟨o, V', ob', h1, h2, h3, h4⟩ := h
        obtain rfl : o = oi := Option.some.inj (h1.symm.trans hi)
        obtain ⟨rfl, rfl⟩ := hl.unique h3
        simp [front] at hf
        subst hf
        exact h4 b
      | q => simp [front] at hf
      | l => simp [front] at hf
      | e => simp [front] at hf
    · have hk : ∃ ok, ops[k]? = some ok := by
        cases x with
        | n => obtain ⟨o, _, _, h1, _⟩ := h; exact ⟨o, h1⟩
        | q => obtain ⟨o, _, h1, _⟩ := h; exact ⟨o, h1⟩
        | e => obtain ⟨o, _, h1, _⟩ := h; exact ⟨o, h1⟩
        | l => obtain ⟨o, h1, _⟩ := h; exact ⟨o, h1⟩
      obtain ⟨ok, hok⟩ := hk
      simp only [front, hki, if_false, hi, hok] at hf
      split at hf
      case isFalse => cases hf
      rename_i hap
      obtain ⟨r', hr', hπ⟩ := Option.map_eq_some_iff.1 hf
      subst hπ
      have hsi : ∀ cs b, oi.op ≠ .select cs b := fun cs b => Region.noSelect_spec hs i oi cs b hi
      have hsk : ∀ cs b, ok.op ≠ .select cs b := fun cs b => Region.noSelect_spec hs k ok cs b hok
      obtain ⟨p1, p2, p3⟩ := Oper.apart_spec hap
      have comm : ∀ (a : Act) (u v : Value), (a.put ok.dst u).put oi.dst v = (a.put oi.dst v).put ok.dst u := fun a u v => (Act.put_comm a v u p2).symm
      cases x with
      | q =>
        obtain ⟨o, v, h1, h2, h3⟩ := h
        obtain rfl : o = ok := Option.some.inj (h1.symm.trans hok)
        refine ⟨o, v, hok, h2.of_same (execOp_put o hsk a oi.dst (V b) p1) (wanted_put o a oi.dst (V b) p1), ?_⟩
        rw [← comm]
        exact plan_front hQ hs hi V ob r r' _ m hr' ((Lays.past hap hsi v).2 hl) h3 b
      | e =>
        obtain ⟨o, v, h1, h2, h3⟩ := h
        obtain rfl : o = ok := Option.some.inj (h1.symm.trans hok)
        refine ⟨o, v, hok, fun fr => (yields_imp (h2 (blk b ob :: fr)) (fun w => sat_turn)).of_same (execOp_put o hsk a oi.dst (V b) p1) (wanted_put o a oi.dst (V b) p1), ?_⟩
        rw [← comm]
        exact plan_front hQ hs hi V ob r r' _ m hr' ((Lays.past hap hsi v).2 hl) h3 b
      | n =>
        obtain ⟨o, V', ob', h1, h2, h3, h4⟩ := h
        obtain rfl : o = ok := Option.some.inj (h1.symm.trans hok)
        refine ⟨o, V', ob', hok, by rw [wanted_put o a oi.dst (V b) p1]; exact h2, by unfold Lays; rw [execOp_put o hsk a oi.dst (V b) p1]; exact h3, fun b' => ?_⟩
        rw [← comm]
        have := plan_front hQ hs hi V ob r r' _ _ hr' ((Lays.past hap hsi (V' b')).2 hl) (h4 b') b
        exact plan_perm hQ r' _ (blk b ob :: blk b' ob' :: m) (blk b' ob' :: blk b ob :: m) (fun h => ⟨fun s => star_swap s, fun s => star_swap s⟩) this
      | l =>
        obtain ⟨o, h1, h2, h3⟩ := h
        obtain rfl : o = ok := Option.some.inj (h1.symm.trans hok)
        refine ⟨o, hok, by rw [wanted_put o a oi.dst (V b) p1]; exact h2, fun fr w hsat => ?_⟩
        have hx := h3 (blk b ob :: fr) w (sat_turn.1 hsat)
        -- with the other slot filled the run is the same
        have hy : o.wp P a w (fun a' w' => ∃ m', Sat E (stars (m' ++ (fr ++ lc))) w' ∧ wpPlan P E ops lc Q r' (a'.put oi.dst (V b)) m') (fun _ _ _ => False) := by
          refine wp_ends hx (fun u w' ⟨m', q1, q2⟩ => ?_) (fun z w' ⟨m', q1, q2⟩ => ?_)
          · exact ⟨blk b ob :: m', sat_turn.2 q1, plan_front hQ hs hi V ob r r' _ m' hr' ((Lays.past hap hsi u).2 hl) q2 b⟩
          · refine ⟨blk b ob :: m', sat_turn.2 q1, plan_front hQ hs hi V ob r r' _ m' hr' ((Lays.past hap hsi undef).2 ?_) q2 b⟩
            unfold Lays; rw [eval_defers]; exact hl
        exact wp_put_back (execOp_put o hsk a oi.dst (V b) p1) (fun a u => comm a u _) (fun a z => by cases oi.dst <;> rfl) hy

theorem mOp_lays {Q : Act → List HProp → Prop} (hQ : ∀ a m m', (∀ h, stars m h ↔ stars m' h) → Q a m → Q a m') (hs : Region.noSelect ops = true) {i : Nat} {oi : Oper} (hi : ops[i]? = some oi) {π π' : List (Nat × Kd)} {a : Act} {m : List HProp} {K : Act → List HProp → Prop}
    (hf : front ops i π = some π') (h : wpPlan P E ops lc Q π a m) (hK : ∀ a' m', wpPlan P E ops lc Q π' a' m' → K a' m') : mOp P E ops lc i K a m := by
  refine ⟨oi, hi, ?_⟩
  refine .inr fun fr w hsat => ?_
  obtain ⟨hw, V, ob, hl⟩ := plan_lays hs hi π π' a m fr w hf h hsat
  refine ⟨hw, ?_⟩
  unfold Oper.wp
  rw [hl w]
  exact ⟨blk w.heap.size ob :: m, hsat.alloc ob, hK _ _ (plan_front hQ hs hi V ob π π' a m hf hl h _)⟩

theorem plan_frontE {Q : Act → List HProp → Prop} (hs : Region.noSelect ops = true) {i : Nat} : ∀ (π π' : List (Nat × Kd)) (a : Act) (m : List HProp), frontE ops i π = some π' → wpPlan P E ops lc Q π a m → wpPlan P E ops lc Q ((i, .e) :: π') a m
  | [], π', a, m, hf, _ => by simp [frontE] at hf
  | (k, x) :: r, π', a, m, hf, h => by
    by_cases hki : k = i
    · subst hki
      cases x with
      | e => simp [frontE, Kd.isE] at hf; subst hf; exact h
      | q => simp [frontE, Kd.isE] at hf
      | l => simp [frontE, Kd.isE] at hf
      | n => simp [frontE, Kd.isE] at hf
    · simp only [frontE, hki, if_false] at hf
      split at hf
      case h_2 => cases hf
      rename_i oi ok hoi hok
      split at hf
      case isFalse => cases hf
      rename_i hap
      simp only [Bool.and_eq_true] at hap
      obtain ⟨r', hr', hπ⟩ := Option.map_eq_some_iff.1 hf
      subst hπ
      have hsi : ∀ cs b, oi.op ≠ .select cs b := fun cs b => Region.noSelect_spec hs i oi cs b hoi
      have hsk : ∀ cs b, ok.op ≠ .select cs b := fun cs b => Region.noSelect_spec hs k ok cs b hok
      obtain ⟨p1, p2, p3⟩ := Oper.apart_spec hap.2.1
      cases x with
      | l => simp [Kd.isR] at hap
      | n => simp [Kd.isR] at hap
      | e =>
        obtain ⟨o, v, h1, h2, h3⟩ := h
        obtain rfl : o = ok := Option.some.inj (h1.symm.trans hok)
        obtain ⟨o', v', g1, g2, g3⟩ := plan_frontE hs r r' _ m hr' h3
        obtain rfl : o' = oi := Option.some.inj (g1.symm.trans hoi)
        refine ⟨o', v', hoi, fun fr => (g2 fr).of_same (execOp_put o' hsi a o.dst v p3).symm (wanted_put o' a o.dst v p3).symm, o, v, hok, fun fr => (h2 fr).of_same (execOp_put o hsk a o'.dst v' p1) (wanted_put o a o'.dst v' p1), ?_⟩
        rw [Act.put_comm a v' v p2]
        exact g3
      | q =>
        obtain ⟨o, v, h1, h2, h3⟩ := h
        obtain rfl : o = ok := Option.some.inj (h1.symm.trans hok)
        obtain ⟨o', v', g1, g2, g3⟩ := plan_frontE hs r r' _ m hr' h3
        obtain rfl : o' = oi := Option.some.inj (g1.symm.trans hoi)
        refine ⟨o', v', hoi, fun fr => (g2 fr).of_same (execOp_put o' hsi a o.dst v p3).symm (wanted_put o' a o.dst v p3).symm, o, v, hok, h2.of_same (execOp_put o hsk a o'.dst v' p1) (wanted_put o a o'.dst v' p1), ?_⟩
        rw [Act.put_comm a v' v p2]
        exact g3
/-- An early step comes up. -/
theorem mOp_early {Q : Act → List HProp → Prop} {i : Nat} {r : List (Nat × Kd)} {a : Act} {m : List HProp} {K : Act → List HProp → Prop} (h : wpPlan P E ops lc Q ((i, .e) :: r) a m) (hK : ∀ a' m', wpPlan P E ops lc Q r a' m' → K a' m') : mOp P E ops lc i K a m := by
  obtain ⟨o, v, h1, h2, h3⟩ := h
  by_cases hw : Region.wanted o (yielded ops a.tmps) = true
  · refine ⟨o, h1, .inr fun fr w hs => ⟨hw, ?_⟩⟩
    rcases h2 fr with ⟨_, hy⟩ | ⟨hn, _⟩
    · exact Oper.wp_of_quiet (C := Sat E (stars (m ++ (fr ++ lc)))) hs (K := fun a' => a' = a.put o.dst v) (fun a' w' hw' e => by subst e; exact ⟨m, hw', hK _ _ h3⟩) ⟨v, hy, rfl⟩
    · rw [hn] at hw; cases hw
  · refine ⟨o, h1, .inl ⟨v, fun m' => ?_, hK _ _ h3⟩⟩
    rcases h2 [] with ⟨hn, _⟩ | hn
    · exact absurd hn hw
    · exact .inr hn
theorem wpM_of_plan {Q : Act → List HProp → Prop} {tl : Nat → Bool} {C : Array Bool → Bool} (hQ : ∀ a m m', (∀ h, stars m h ↔ stars m' h) → Q a m → Q a m') (hs : Region.noSelect ops = true) : ∀ (f : Nat) (r : List (Nat × Kd)) (listed : Array Bool) (a : Act) (m : List HProp),
    planB md ops tl C f r listed = true → wpPlan P E ops lc Q r a m → wpM P E md ops tl C lc Q f listed a m
  | 0, [], listed, a, m, hB, h => by
    simp only [planB, Bool.and_eq_true, List.all_eq_true] at hB
    exact ⟨hB.1, hB.2, h⟩
  | 0, _ :: _, listed, a, m, hB, h => by simp [planB] at hB
  | f + 1, [], listed, a, m, hB, h => by simp [planB] at hB
  | f + 1, (k, .q) :: r, listed, a, m, hB, h => by
    simp only [planB, Bool.and_eq_true] at hB
    obtain ⟨o, v, ho, hq, hk⟩ := h
    exact wpM_first (tailB_spec hB.1.2) ho (Region.noSelect_spec hs) f listed a m (Region.free_spec ho hB.1.1.2) (by simpa using hB.1.1.1) hq (wpM_of_plan hQ hs f r _ _ m hB.2 hk)
  | f + 1, (k, .e) :: r, listed, a, m, hB, h => by
    simp only [planB, Bool.and_eq_true, Bool.not_eq_true', List.all_eq_true] at hB
    refine ⟨fun h0 => absurd hB.1 (by simp [h0]), fun i hi => ?_⟩
    have hBi := hB.2 i hi
    by_cases hik : i = k
    · subst hik
      simp only [if_true] at hBi
      exact mOp_early h (fun a' m' h' => wpM_of_plan hQ hs f r _ a' m' hBi h')
    · simp only [hik, if_false] at hBi
      split at hBi
      · rename_i r' hr'
        exact mOp_early (plan_frontE hs _ r' a m hr' h) (fun a' m' h' => wpM_of_plan hQ hs f r' _ a' m' hBi h')
      · split at hBi
        case h_2 => cases hBi
        rename_i r' hr'
        obtain ⟨_, oi, hoi, _⟩ := mem_ready.1 hi
        exact mOp_lays hQ hs hoi hr' h (fun a' m' h' => wpM_of_plan hQ hs f r' _ a' m' hBi h')
  | f + 1, (k, .l) :: r, listed, a, m, hB, h => by
    simp only [planB, Bool.and_eq_true, Bool.not_eq_true', List.all_eq_true] at hB
    refine ⟨fun h0 => absurd hB.1 (by simp [h0]), fun i hi => ?_⟩
    have hBi := hB.2 i hi
    by_cases hik : i = k
    · subst hik
      simp only [if_true] at hBi
      obtain ⟨o, ho, hw, hl⟩ := h
      exact ⟨o, ho, .inr fun fr w hs' => ⟨hw, Oper.wp_mono' (fun a' w' ⟨m', h1, h2⟩ => ⟨m', h1, wpM_of_plan hQ hs f r _ a' m' hBi h2⟩) (fun _ _ _ h => h) (hl fr w hs')⟩⟩
    · simp only [hik, if_false] at hBi
      split at hBi
      case h_2 => cases hBi
      rename_i r' hr'
      obtain ⟨_, oi, hoi, _⟩ := mem_ready.1 hi
      exact mOp_lays hQ hs hoi hr' h (fun a' m' h' => wpM_of_plan hQ hs f r' _ a' m' hBi h')
  | f + 1, (k, .n) :: r, listed, a, m, hB, h => by
    simp only [planB, Bool.and_eq_true, Bool.not_eq_true', List.all_eq_true] at hB
    refine ⟨fun h0 => absurd hB.1 (by simp [h0]), fun i hi => ?_⟩
    have hBi := hB.2 i hi
    obtain ⟨_, oi, hoi, _⟩ := mem_ready.1 hi
    by_cases hik : i = k
    · subst hik
      simp only [if_true] at hBi
      exact mOp_lays hQ hs hoi (π := (i, .n) :: r) (π' := r) (by simp [front]) h (fun a' m' h' => wpM_of_plan hQ hs f r _ a' m' hBi h')
    · simp only [hik, if_false] at hBi
      split at hBi
      case h_2 => cases hBi
      rename_i r' hr'
      exact mOp_lays hQ hs hoi hr' h (fun a' m' h' => wpM_of_plan hQ hs f r' _ a' m' hBi h')

theorem ready_nil {md : Region.Mode} {listed : Array Bool} (h : ∀ j ∈ Region.ready md ops listed, (fun _ : Nat => false) j = true) : Region.ready md ops listed = [] := by
  cases hr : Region.ready md ops listed with
  | nil => rfl
  | cons x r => exact absurd (h x (by rw [hr]; simp)) (by simp)
/-- The tail is to be gone through. -/
def TailQ (ρ : Option Nat) (P : Program) (ops : Array Oper) (C : Array Bool → Bool) (t : Nat) (Q : Exit → Act → World → Prop) : Exit → Act → World → Prop := fun _ a w => ∀ listed, C listed = true → wpAnyIn (Fw ρ) 0 P .any ops Q t listed a w
theorem plan_any {ρ : Option Nat} {Q : Exit → Act → World → Prop} {tl : Nat → Bool} {C : Array Bool → Bool} {t f : Nat} {a : Act} {w : World} {m : List HProp} {listed : Array Bool} (π : List (Nat × Kd))
    (hs0 : Region.noSelect ops = true) (hn : ops.toList.all nd = true) (hB : planB .any ops tl C f π listed = true) (hs : Sat E (stars (m ++ lc)) w)
    (hQ : ∀ (Q1 : Act → World → Prop) listed a m w, (∀ j ∈ Region.ready .any ops listed, tl j = true) → C listed = true → (∀ w, Sat E (stars (m ++ lc)) w → Q1 a w) → Sat E (stars (m ++ lc)) w → (∀ a w, Q1 a w → Q .normal a w) → wpAnyIn (Fw ρ) 0 P .any ops Q t listed a w)
    (h : wpPlan P E ops lc (fun a m => ∀ w, Sat E (stars (m ++ lc)) w → Q .normal a w) π a m) : wpAnyIn (Fw ρ) 0 P .any ops Q (t + f) listed a w := by
  have hnd : ∀ (j : Nat) (o : Oper), ops[j]? = some o → nd o = true := fun j o ho => List.all_eq_true.1 hn o (Array.mem_toList_iff.2 (Array.mem_of_getElem? ho))
  have h1 := wpM_of_plan (md := .any) (fun a m m' e hq w hs => hq w (hs.imp fun h s => (stars_append m _ h).2 (star_mono (fun h' => (e h').2) (fun _ x => x) ((stars_append m' _ h).1 s)))) hs0 _ π _ a m hB h
  exact wpAny_of_wpM hnd (fun listed a m w g1 g2 hq hs => hQ (fun a w => Q .normal a w) listed a m w g1 g2 hq hs (fun _ _ h => h)) _ _ a m _ h1 hs
theorem plan_tail {ρ : Option Nat} {Q : Exit → Act → World → Prop} {tl : Nat → Bool} {C : Array Bool → Bool} {t f : Nat} {a : Act} {w : World} {m : List HProp} {listed : Array Bool} (π : List (Nat × Kd))
    (hs0 : Region.noSelect ops = true) (hn : ops.toList.all nd = true) (hB : planB .any ops tl C f π listed = true) (hs : Sat E (stars (m ++ lc)) w)
    (h : wpPlan P E ops lc (fun a m => ∀ w, Sat E (stars (m ++ lc)) w → TailQ ρ P ops C t Q .normal a w) π a m) : wpAnyIn (Fw ρ) 0 P .any ops Q (t + f) listed a w := by
  have hnd : ∀ (j : Nat) (o : Oper), ops[j]? = some o → nd o = true := fun j o ho => List.all_eq_true.1 hn o (Array.mem_toList_iff.2 (Array.mem_of_getElem? ho))
  have h1 := wpM_of_plan (md := .any) (fun a m m' e hq w hs => hq w (hs.imp fun h s => (stars_append m _ h).2 (star_mono (fun h' => (e h').2) (fun _ x => x) ((stars_append m' _ h).1 s)))) hs0 _ π _ a m hB h
  exact wpAny_of_wpM hnd (fun listed a m w _ g2 hq hs => hq w hs listed g2) _ _ a m _ h1 hs
theorem wp_region_plan {ρ : Option Nat} {id : Nat} {Q : Exit → Act → World → Prop} {a : Act} {w : World} {m : List HProp} (π : List (Nat × Kd)) (hm : P.follows .mixedOrders = true)
    (hB : (Region.noSelect ops && ops.toList.all nd && planB .any ops (fun _ => false) (fun _ => true) ops.size π (Array.replicate ops.size false)) = true) (hs : Sat E (stars (m ++ lc)) w)
    (h : wpPlan P E ops lc (fun a m => ∀ w, Sat E (stars (m ++ lc)) w → Q .normal a w) π a m) : (Code.region id ops true).wpIn (Fw ρ) 0 P Q a w := by
  simp only [Bool.and_eq_true] at hB
  refine wpIn_region_any hm ?_
  have := plan_any (ρ := ρ) (t := 0) π hB.1.1 hB.1.2 hB.2 (hs.drawn (w.drawn + 1)) (fun Q1 listed a m w g1 _ hq hs hi => ⟨ready_nil g1, hi _ _ (hq w hs)⟩) h
  rwa [Nat.zero_add] at this
theorem wp_region_tail {ρ : Option Nat} {id : Nat} {Q : Exit → Act → World → Prop} {tl : Nat → Bool} {C : Array Bool → Bool} {t f : Nat} {a : Act} {w : World} {m : List HProp} (π : List (Nat × Kd)) (hm : P.follows .mixedOrders = true)
    (hB : (Region.noSelect ops && ops.toList.all nd && planB .any ops tl C f π (Array.replicate ops.size false) && Nat.beq (t + f) ops.size) = true) (hs : Sat E (stars (m ++ lc)) w)
    (h : wpPlan P E ops lc (fun a m => ∀ w, Sat E (stars (m ++ lc)) w → TailQ ρ P ops C t Q .normal a w) π a m) : (Code.region id ops true).wpIn (Fw ρ) 0 P Q a w := by
  simp only [Bool.and_eq_true] at hB
  refine wpIn_region_any hm ?_
  have := plan_tail (ρ := ρ) (t := t) π hB.1.1.1 hB.1.1.2 hB.1.2 (hs.drawn (w.drawn + 1)) h
  rwa [Nat.eq_of_beq_eq_true hB.2] at this
end

/-! ### The plan in frames and lists -/
section
variable (P : Program) (E : World) (n : Nat) (ds : List Deferred)
def JM (ops : Array Oper) (lc : List HProp) (Q : Exit → Act → World → Prop) (π : List (Nat × Kd)) (env : Fr) (m : List HProp) : Prop :=
  ∀ a, Frm n ds env a → wpPlan P E ops lc (fun a m => ∀ w, Sat E (stars (m ++ lc)) w → Q .normal a w) π a m
end
theorem Pick.app {lc r : List HProp} {A : HProp} (m : List HProp) (p : Pick lc A r) : Pick (m ++ lc) A (m ++ r) := by
  induction m with
  | nil => exact p
  | cons B m ih => exact Pick.tail ih
section
variable {P : Program} {E : World} {ρ : Option Nat} {n : Nat} {ds : List Deferred} {Q : Exit → Act → World → Prop} {env : Fr} {l lc m : List HProp} {ops : Array Oper} {π : List (Nat × Kd)} {o : Oper} {k d : Nat} {v : Value}
theorem J.draw {id : Nat} {ops : List Oper} (m lc : List HProp) (π : List (Nat × Kd)) (hm : P.follows .mixedOrders = true)
    (hB : (Region.noSelect ops.toArray && ops.all nd && planB .any ops.toArray (fun _ => false) (fun _ => true) ops.toArray.size π (Array.replicate ops.toArray.size false)) = true) (hsp : Split l m lc)
    (h : JM P E n ds ops.toArray lc Q π env m) : J P E ρ n ds (.region id ops.toArray true) Q env l := fun a w hf hs => wp_region_plan π hm (by simpa using hB) (hs.divide hsp) (h a hf)
/-- Mixed orders, with a tail that comes behind all others. -/
theorem J.drawT {id : Nat} {ops : List Oper} (m lc : List HProp) (π : List (Nat × Kd)) (tl : Nat → Bool) (t f : Nat) (π2 : List (Nat × Kd)) (hm : P.follows .mixedOrders = true)
    (hB : (Region.noSelect ops.toArray && ops.all nd && planB .any ops.toArray tl (fun listed => planB .any ops.toArray (fun _ => false) (fun _ => true) t π2 listed) f π (Array.replicate ops.toArray.size false) && Nat.beq (t + f) ops.toArray.size) = true) (hsp : Split l m lc)
    (h : JM P E n ds ops.toArray lc (TailQ ρ P ops.toArray (fun listed => planB .any ops.toArray (fun _ => false) (fun _ => true) t π2 listed) t Q) π env m) : J P E ρ n ds (.region id ops.toArray true) Q env l := fun a w hf hs => wp_region_tail π hm (by simpa using hB) (hs.divide hsp) (h a hf)
theorem JE.tail {t : Nat} {π2 : List (Nat × Kd)} (m2 lc2 : List HProp) (hB : (Region.noSelect ops && ops.toList.all nd) = true) (hsp : Split l m2 lc2) (h : JM P E n ds ops lc2 Q π2 env m2) :
    JE E n ds (TailQ ρ P ops (fun listed => planB .any ops (fun _ => false) (fun _ => true) t π2 listed) t Q) .normal env l := fun a w hf hs listed hC => by
  simp only [Bool.and_eq_true] at hB
  have := plan_any (ρ := ρ) (t := 0) (tl := fun _ => false) (C := fun _ => true) π2 hB.1 hB.2 hC (hs.divide hsp) (fun Q1 listed a m w g1 _ hq hs hi => ⟨ready_nil g1, hi _ _ (hq w hs)⟩) (h a hf)
  rwa [Nat.zero_add] at this
theorem JM.nil (h : JE E n ds Q .normal env (m ++ lc)) : JM P E n ds ops lc Q [] env m := fun a hf w hs => h a w hf hs
theorem JM.quiet (ho : ops[k]? = some o) (hg : o.guard = none) (hd : o.dst = some d) (hn : Nat.blt d n = true) (hy : ∀ m, Y P E n ds o env (m ++ lc) v) (h : JM P E n ds ops lc Q π ((d, v) :: env) m) :
    JM P E n ds ops lc Q ((k, .q) :: π) env m := fun a hf =>
  ⟨o, v, ho, fun m' => .inl ⟨by simp [Region.wanted, hg], fun w hw => hy m' a w hf hw⟩, h _ (by rw [hd]; exact hf.put v hn)⟩
theorem JM.quiet0 (ho : ops[k]? = some o) (hg : o.guard = none) (hd : o.dst = none) (hy : ∀ m, Y P E n ds o env (m ++ lc) v) (h : JM P E n ds ops lc Q π env m) :
    JM P E n ds ops lc Q ((k, .q) :: π) env m := fun a hf =>
  ⟨o, v, ho, fun m' => .inl ⟨by simp [Region.wanted, hg], fun w hw => hy m' a w hf hw⟩, h _ (by rw [hd]; exact hf)⟩
theorem JM.gquiet {j t : Nat} {b : Bool} (ho : ops[k]? = some o) (hg : o.guard = some (j, b)) (hgd : (ops[j]?).bind (·.dst) = some t) (hgv : look env t = some (.bool b)) (hd : o.dst = some d) (hn : Nat.blt d n = true) (hy : ∀ m, Y P E n ds o env (m ++ lc) v) (h : JM P E n ds ops lc Q π ((d, v) :: env) m) :
    JM P E n ds ops lc Q ((k, .q) :: π) env m := fun a hf =>
  ⟨o, v, ho, fun m' => .inl ⟨by simp [Region.wanted, hg, yielded_of hf hgd hgv], fun w hw => hy m' a w hf hw⟩, h _ (by rw [hd]; exact hf.put v hn)⟩
theorem JM.gskip {j t : Nat} {b c : Bool} (ho : ops[k]? = some o) (hg : o.guard = some (j, b)) (hgd : (ops[j]?).bind (·.dst) = some t) (hgv : look env t = some (.bool c)) (hne : c = !b) (hd : o.dst = some d) (hn : Nat.blt d n = true) (h : JM P E n ds ops lc Q π ((d, undef) :: env) m) :
    JM P E n ds ops lc Q ((k, .q) :: π) env m := fun a hf =>
  ⟨o, undef, ho, fun _ => .inr ⟨by simp [Region.wanted, hg, yielded_of hf hgd hgv, hne], rfl⟩, h _ (by rw [hd]; exact hf.put _ hn)⟩
theorem JM.loud (ho : ops[k]? = some o) (hg : o.guard = none) (h : ∀ fr, LS P E n ds o env (m ++ (fr ++ lc)) (fun env' l' => ∃ m', Split l' m' (fr ++ lc) ∧ JM P E n ds ops lc Q π env' m')) :
    JM P E n ds ops lc Q ((k, .l) :: π) env m := fun a hf =>
  ⟨o, ho, by simp [Region.wanted, hg], fun fr w hs => Oper.wp_mono' (fun a' w' ⟨e, l', h1, h2, m', h3, h4⟩ => ⟨m', h2.divide h3, h4 a' h1⟩) (fun _ _ _ h => h) (h fr a w hf hs)⟩
theorem JM.early (ho : ops[k]? = some o) (hg : o.guard = none) (hd : o.dst = some d) (hn : Nat.blt d n = true) (hy : ∀ fr, Y P E n ds o env (m ++ (fr ++ lc)) v) (h : JM P E n ds ops lc Q π ((d, v) :: env) m) :
    JM P E n ds ops lc Q ((k, .e) :: π) env m := fun a hf =>
  ⟨o, v, ho, fun fr => .inl ⟨by simp [Region.wanted, hg], fun w hw => hy fr a w hf hw⟩, h _ (by rw [hd]; exact hf.put v hn)⟩
theorem JM.gearly {j t : Nat} {b : Bool} (ho : ops[k]? = some o) (hg : o.guard = some (j, b)) (hgd : (ops[j]?).bind (·.dst) = some t) (hgv : look env t = some (.bool b)) (hd : o.dst = some d) (hn : Nat.blt d n = true) (hy : ∀ fr, Y P E n ds o env (m ++ (fr ++ lc)) v) (h : JM P E n ds ops lc Q π ((d, v) :: env) m) :
    JM P E n ds ops lc Q ((k, .e) :: π) env m := fun a hf =>
  ⟨o, v, ho, fun fr => .inl ⟨by simp [Region.wanted, hg, yielded_of hf hgd hgv], fun w hw => hy fr a w hf hw⟩, h _ (by rw [hd]; exact hf.put v hn)⟩
theorem JM.lay {V : Nat → Value} {ob : Obj} (ho : ops[k]? = some o) (hg : o.guard = none) (hd : o.dst = some d) (hn : Nat.blt d n = true) (hl : ∀ a, Frm n ds env a → Lays P o a V ob) (h : ∀ b, JM P E n ds ops lc Q π ((d, V b) :: env) (blk b ob :: m)) :
    JM P E n ds ops lc Q ((k, .n) :: π) env m := fun a hf =>
  ⟨o, V, ob, ho, by simp [Region.wanted, hg], hl a hf, fun b => h b _ (by rw [hd]; exact hf.put _ hn)⟩
end
end Go.SL
