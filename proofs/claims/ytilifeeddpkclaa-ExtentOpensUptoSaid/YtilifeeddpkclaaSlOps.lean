import Derived.Test.YtilifeeddpkclaaSlCore
import Derived.Deep.QuietTactic
import Derived.TacticsIn
import Derived.OrdersIn
import Derived.LoopIn
namespace Go.SL
open Go Go.RowKit

abbrev Fr := List (Nat × Value)
def look : Fr → Nat → Option Value
  | [], _ => none
  | (d, v) :: r, t => bif Nat.beq d t then some v else look r t
structure Frm (n : Nat) (ds : List Deferred) (env : Fr) (a : Act) : Prop where
  size : a.tmps.size = n
  defers : a.defers = ds
  slot : ∀ t v, look env t = some v → a.tmps[t]? = some v
def val (env : Fr) : Operand → Option Value
  | .tmp t => look env t
  | .const v => some v
  | .global g => some (.pointer (some ⟨g, 0, none⟩))
  | .func f => some (.func (.func f) #[] #[])
def vals (env : Fr) : List Operand → Option (List Value)
  | [] => some []
  | x :: r => match val env x with
    | none => none
    | some v => match vals env r with
      | none => none
      | some vs => some (v :: vs)

section
variable {n : Nat} {ds : List Deferred} {env : Fr} {a : Act}
theorem Frm.eval (h : Frm n ds env a) {x : Operand} {v : Value} (e : val env x = some v) : a.eval x = v := by
  cases x with
  | tmp t => have := h.slot t v e; simp [Act.eval, Array.getD_eq_getD_getElem?, this]
  | const u => exact Option.some.inj e
  | global g => exact Option.some.inj e
  | func f => exact Option.some.inj e
theorem Frm.evals (h : Frm n ds env a) : ∀ {l : List Operand} {vs : List Value}, vals env l = some vs → l.map a.eval = vs
  | [], _, e => by simp [vals] at e; simp [e]
  | x :: r, vs, e => by
    simp only [vals] at e
    cases e1 : val env x with
    | none => simp [e1] at e
    | some v =>
      cases e2 : vals env r with
      | none => simp [e1, e2] at e
      | some us =>
        simp [e1, e2] at e
        subst e
        simp [h.eval e1, h.evals e2]
theorem look_cons_ne {d t : Nat} {v : Value} {r : Fr} (h : d ≠ t) : look ((d, v) :: r) t = look r t := by
  have : Nat.beq d t = false := by cases e : Nat.beq d t with | false => rfl | true => exact absurd (Nat.eq_of_beq_eq_true e) h
  simp [look, this]
theorem look_cons_eq {d : Nat} {v : Value} {r : Fr} : look ((d, v) :: r) d = some v := by
  simp [look]
theorem Frm.put (h : Frm n ds env a) {d : Nat} (v : Value) (hd : Nat.blt d n = true) : Frm n ds ((d, v) :: env) (a.put (some d) v) := by
  have hd' : d < a.tmps.size := by rw [h.size]; exact Nat.blt_eq.mp hd
  refine ⟨by simp [Act.put, h.size], h.defers, fun t u e => ?_⟩
  by_cases hdt : d = t
  · subst hdt
    rw [look_cons_eq] at e
    cases e
    simp [Act.put, hd']
  · rw [look_cons_ne hdt] at e
    simp [Act.put, hdt, h.slot t u e]
theorem Frm.weak (h : Frm n ds env a) {env' : Fr} (hw : ∀ t v, look env' t = some v → look env t = some v) : Frm n ds env' a :=
  ⟨h.size, h.defers, fun t v e => h.slot t v (hw t v e)⟩
end

/-- The fence that bars nothing; ρ: the round of which loop this is. -/
def Fw (ρ : Option Nat) : Fence := { Fence.wide with round := ρ }
def nd (o : Oper) : Bool := match o.op with
  | .defer _ => false
  | _ => true
theorem nd_spec {o : Oper} (h : nd o = true) : ∀ c, o.op ≠ .defer c := fun c e => by simp [nd, e] at h
theorem semAt_of {o : Oper} (h : nd o = true) (ρ : Option Nat) (f : Operand → Value) : o.semAt ρ f = execOp f o := by
  cases ρ with
  | none => simp [Oper.semAt]
  | some l => exact Oper.semAt_some l f o (nd_spec h)
theorem calls_in {ρ : Option Nat} {k : Nat} {P : Program} {f : FuncId} {args : Array Value} {w : World} {R : Ending → World → Prop} (h : Calls P f args w R) : CallsIn (Fw ρ) k P f args w R := (callsIn_wide (n := k)).2 h
theorem rows_in {ρ : Option Nat} {k : Nat} {P : Program} {row : String} {args : Array Value} {w : World} {R : Value → World → Prop} (h : Rows P row args w R) : RowsIn (Fw ρ) k P row args w R := fun c cs _ =>
  let ⟨v, w', r, st⟩ := h c cs
  ⟨v, w', r, stepsIn_wide.2 st⟩
/-- What an operation does in any frame it does in a round's. -/
theorem op_in {ρ : Option Nat} {k : Nat} {P : Program} {o : Oper} {a : Act} {w : World} {K : Act → World → Prop} {Q : Exit → Act → World → Prop} (hnd : nd o = true) (h : o.wp P a w K Q) : o.wpIn (Fw ρ) k P a w K Q := by
  refine ⟨fun _ _ => trivial, ?_⟩
  rw [show (Fw ρ).round = ρ from rfl, semAt_of hnd]
  unfold Oper.wp at h
  generalize (execOp a.eval o).run P w = q at *
  cases q with
  | ok x w' =>
    cases x <;> simp only [Oper.upon, Oper.uponIn] at * <;> first | exact h | skip
    · exact ⟨fun e => by simp [Fw, Fence.wide] at e, calls_in (Calls.mono h fun e w'' he => by cases e <;> exact he)⟩
    · exact ⟨fun e => by simp [Fw, Fence.wide] at e, rows_in h⟩
  | halt x w' => cases x <;> simp only [Oper.upon, Oper.uponIn] at * <;> exact h

section
variable (P : Program) (E : World) (ρ : Option Nat) (n : Nat) (ds : List Deferred)
/-- From every world that the list tells, in every frame that the slots tell. -/
def J (c : Code) (Q : Exit → Act → World → Prop) (env : Fr) (l : List HProp) : Prop :=
  ∀ a w, Frm n ds env a → Sat E (stars l) w → c.wpIn (Fw ρ) 0 P Q a w
def JL (ops : Array Oper) (Q : Exit → Act → World → Prop) (rest : List Oper) (env : Fr) (l : List HProp) : Prop :=
  ∀ a w, Frm n ds env a → Sat E (stars l) w → wpListIn (Fw ρ) 0 P ops Q rest a w
end
section
variable (P : Program) (E : World) (n : Nat) (ds : List Deferred)
def JE (Q : Exit → Act → World → Prop) (e : Exit) (env : Fr) (l : List HProp) : Prop :=
  ∀ a w, Frm n ds env a → Sat E (stars l) w → Q e a w
/-- The operation yields v, and what the list tells stays so. -/
def Y (o : Oper) (env : Fr) (l : List HProp) (v : Value) : Prop :=
  ∀ a w, Frm n ds env a → Sat E (stars l) w → o.quietAt P a (Sat E (stars l)) w v
end

section
variable {P : Program} {E : World} {ρ : Option Nat} {n : Nat} {ds : List Deferred} {Q : Exit → Act → World → Prop} {env : Fr} {l : List HProp}

theorem J.seq {x y : Code} (h : J P E ρ n ds x (Exit.then (y.wpIn (Fw ρ) 0 P Q) Q) env l) : J P E ρ n ds (.seq x y) Q env l := fun a w hf hs => wpIn_seq (h a w hf hs)
theorem J.skip (h : JE E n ds Q .normal env l) : J P E ρ n ds .skip Q env l := fun a w hf hs => wpIn_skip (h a w hf hs)
theorem J.ret (h : JE E n ds Q .ret env l) : J P E ρ n ds .ret Q env l := fun a w hf hs => wpIn_ret (h a w hf hs)
theorem J.exit {id : Nat} (h : JE E n ds Q (.exit id) env l) : J P E ρ n ds (.exit id) Q env l := fun a w hf hs => wpIn_exit (h a w hf hs)
theorem J.block {id : Nat} {c : Code} (h : J P E ρ n ds c (Exit.inBlock id Q) env l) : J P E ρ n ds (.block id c) Q env l := fun a w hf hs => wpIn_block (h a w hf hs)
theorem J.region {id : Nat} {ops : List Oper} (h : JL P E ρ n ds ops.toArray Q ops env l) : J P E ρ n ds (.region id ops.toArray false) Q env l := fun a w hf hs => wpIn_region_lit (h a w hf hs)
theorem J.cond {c : Operand} {x y : Code} {b : Bool} (hc : val env c = some (.bool b)) (ht : b = true → J P E ρ n ds x Q env l) (hf : b = false → J P E ρ n ds y Q env l) :
    J P E ρ n ds (.cond c x y) Q env l := fun a w hfr hs => wpIn_cond_split (hfr.eval hc) (fun e => ht e a w hfr hs) (fun e => hf e a w hfr hs)
theorem J.cond_dec {c : Operand} {x y : Code} {p : Prop} {hp : Decidable p} (hc : val env c = some (.bool (decide p))) (ht : p → J P E ρ n ds x Q env l) (hf : ¬ p → J P E ρ n ds y Q env l) :
    J P E ρ n ds (.cond c x y) Q env l := J.cond hc (fun e => ht (of_decide_eq_true e)) (fun e => hf (of_decide_eq_false e))
theorem J.cond_t {c : Operand} {x y : Code} {b : Bool} (hc : val env c = some (.bool b)) (hb : b = true) (h : J P E ρ n ds x Q env l) :
    J P E ρ n ds (.cond c x y) Q env l := J.cond hc (fun _ => h) (fun e => by simp [hb] at e)
theorem J.cond_f {c : Operand} {x y : Code} {b : Bool} (hc : val env c = some (.bool b)) (hb : b = false) (h : J P E ρ n ds y Q env l) :
    J P E ρ n ds (.cond c x y) Q env l := J.cond hc (fun e => by simp [hb] at e) (fun _ => h)

theorem JE.then_normal {c : Code} (h : J P E ρ n ds c Q env l) : JE E n ds (Exit.then (c.wpIn (Fw ρ) 0 P Q) Q) .normal env l := h
theorem JE.then_ret {N : Act → World → Prop} (h : JE E n ds Q .ret env l) : JE E n ds (Exit.then N Q) .ret env l := h
theorem JE.then_exit {N : Act → World → Prop} {i : Nat} (h : JE E n ds Q (.exit i) env l) : JE E n ds (Exit.then N Q) (.exit i) env l := h
theorem JE.block_normal {id : Nat} (h : JE E n ds Q .normal env l) : JE E n ds (Exit.inBlock id Q) .normal env l := h
theorem JE.block_ret {id : Nat} (h : JE E n ds Q .ret env l) : JE E n ds (Exit.inBlock id Q) .ret env l := h
theorem JE.block_exit {id : Nat} (h : JE E n ds Q .normal env l) : JE E n ds (Exit.inBlock id Q) (.exit id) env l := fun a w hf hs => by
  simp only [Exit.inBlock, if_true]; exact h a w hf hs
theorem JE.block_past {id i : Nat} (hi : Nat.beq i id = false) (h : JE E n ds Q (.exit i) env l) : JE E n ds (Exit.inBlock id Q) (.exit i) env l := fun a w hf hs => by
  have : i ≠ id := by intro e; subst e; simp at hi
  simp only [Exit.inBlock, this, if_false]; exact h a w hf hs

theorem JL.nil {ops : Array Oper} (h : JE E n ds Q .normal env l) : JL P E ρ n ds ops Q [] env l := fun a w hf hs => h a w hf hs

theorem JL.step {ops : Array Oper} {o : Oper} {rest : List Oper} {d : Nat} {v : Value} (hy : Y P E n ds o env l v) (hg : o.guard = none) (hd : o.dst = some d) (hn : Nat.blt d n = true)
    (h : JL P E ρ n ds ops Q rest ((d, v) :: env) l) (hnd : nd o = true := by rfl) : JL P E ρ n ds ops Q (o :: rest) env l := fun a w hf hs => by
  refine wpListIn_plain hg fun K hK => op_in hnd ?_
  refine Oper.wp_of_quiet (C := Sat E (stars l)) hs (K := fun a' => Frm n ds ((d, v) :: env) a') (fun a' w' hw' hf' => hK _ _ (h a' w' hf' hw')) ?_
  exact ⟨v, fun w' hw' => hy a w' hf hw', by rw [hd]; exact hf.put v hn⟩
theorem JL.step0 {ops : Array Oper} {o : Oper} {rest : List Oper} {v : Value} (hy : Y P E n ds o env l v) (hg : o.guard = none) (hd : o.dst = none)
    (h : JL P E ρ n ds ops Q rest env l) (hnd : nd o = true := by rfl) : JL P E ρ n ds ops Q (o :: rest) env l := fun a w hf hs => by
  refine wpListIn_plain hg fun K hK => op_in hnd ?_
  refine Oper.wp_of_quiet (C := Sat E (stars l)) hs (K := fun a' => Frm n ds env a') (fun a' w' hw' hf' => hK _ _ (h a' w' hf' hw')) ?_
  exact ⟨v, fun w' hw' => hy a w' hf hw', by rw [hd]; exact hf⟩

/-- An operation whose guard says no is passed over. -/
theorem yielded_of {ops : Array Oper} {a : Act} (hf : Frm n ds env a) {j t : Nat} {b : Bool} (hd : (ops[j]?).bind (·.dst) = some t) (hv : look env t = some (.bool b)) : yielded ops a.tmps j = some b := by
  simp [yielded, hd, hf.slot t _ hv]
theorem JL.gstep {ops : Array Oper} {o : Oper} {rest : List Oper} {d j t : Nat} {b : Bool} {v : Value} (hg : o.guard = some (j, b)) (hgd : (ops[j]?).bind (·.dst) = some t) (hgv : look env t = some (.bool b))
    (hy : Y P E n ds o env l v) (hd : o.dst = some d) (hn : Nat.blt d n = true)
    (h : JL P E ρ n ds ops Q rest ((d, v) :: env) l) (hnd : nd o = true := by rfl) : JL P E ρ n ds ops Q (o :: rest) env l := fun a w hf hs => by
  refine wpListIn_step fun K hK => ?_
  rw [if_pos (by simp [Region.wanted, hg, yielded_of hf hgd hgv])]
  refine op_in hnd ?_
  refine Oper.wp_of_quiet (C := Sat E (stars l)) hs (K := fun a' => Frm n ds ((d, v) :: env) a') (fun a' w' hw' hf' => hK _ _ (h a' w' hf' hw')) ?_
  exact ⟨v, fun w' hw' => hy a w' hf hw', by rw [hd]; exact hf.put v hn⟩
theorem JL.gskip {ops : Array Oper} {o : Oper} {rest : List Oper} {d j t : Nat} {b c : Bool} (hg : o.guard = some (j, b)) (hgd : (ops[j]?).bind (·.dst) = some t) (hgv : look env t = some (.bool c)) (hne : c = !b)
    (hd : o.dst = some d) (hn : Nat.blt d n = true)
    (h : JL P E ρ n ds ops Q rest ((d, undef) :: env) l) : JL P E ρ n ds ops Q (o :: rest) env l := fun a w hf hs => by
  refine wpListIn_step fun K hK => ?_
  rw [if_neg (by simp [Region.wanted, hg, yielded_of hf hgd hgv, hne])]
  exact ⟨fun _ _ => trivial, hK _ _ (h _ w (by rw [hd]; exact hf.put _ hn) hs)⟩
end

/-- A value operation that leaves the world alone. -/
theorem Y.of {P : Program} {E : World} {n : Nat} {ds : List Deferred} {env : Fr} {l : List HProp} {o : Oper} {v : Value}
    (h : ∀ a w, Frm n ds env a → Sat E (stars l) w → (execOp a.eval o).run P w = .ok (.value v) w) : Y P E n ds o env l v := fun a w hf hs => by
  unfold Oper.quietAt; rw [h a w hf hs]; exact ⟨rfl, rfl⟩
theorem Y.of_skip {P : Program} {E : World} {n : Nat} {ds : List Deferred} {env : Fr} {l : List HProp} {o : Oper}
    (h : ∀ a w, Frm n ds env a → Sat E (stars l) w → (execOp a.eval o).run P w = .ok .skip w) : Y P E n ds o env l undef := fun a w hf hs => by
  unfold Oper.quietAt; rw [h a w hf hs]; exact ⟨rfl, rfl⟩
end Go.SL
