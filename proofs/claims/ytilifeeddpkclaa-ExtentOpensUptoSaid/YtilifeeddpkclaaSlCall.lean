import Derived.Test.YtilifeeddpkclaaSlDraw
namespace Go.SL
open Go Go.RowKit

/-- A call of f enters its body. -/
def Ent (P : Program) (f : FuncId) : Prop := ∀ args w, (callFunc f args).run P w = .ok (.enter f args) w
theorem Ent.mk {P : Program} {f : FuncId} {fn : Func} (h : P.funcs[f]? = some fn) (hn : (fn.name == "runtime.NumGoroutine") = false) (hb : fn.body.isNone = false) : Ent P f := fun args w => by
  simp only [callFunc, Sem.run_bind, run_program, Result.andThen_ok, h, hn, hb, Bool.false_eq_true, if_false, Sem.run_pure]

section
variable (P : Program) (E : World)
/-- A call of f, from every world that the list tells: it returns, and R says of its value and of what the list is then. -/
def Fc (f : FuncId) (args : Array Value) (l : List HProp) (R : Value → List HProp → Prop) : Prop :=
  ∀ w, Sat E (stars l) w → Calls P f args w fun e w' => ∃ v l', e = .returned v ∧ Sat E (stars l') w' ∧ R v l'
end
section
variable {P : Program} {E : World} {ρ : Option Nat} {n : Nat} {ds : List Deferred} {env : Fr} {l l' : List HProp} {T : Tab} {N : Fr → List HProp → Prop} {f : FuncId} {args : Array Value} {R R' : Value → List HProp → Prop}
variable {d : Tmp} {dst : Option Tmp} {ty : TypeId} {pos : String} {af : Array Edge} {gd : Option (Nat × Bool)} {x y z : Operand} {v u : Value} {t t' : TypeId}

theorem Fc.mono (h : Fc P E f args l R) (hr : ∀ v l, R v l → R' v l) : Fc P E f args l R' := fun w hs => (h w hs).mono fun _ _ ⟨v, l', h1, h2, h3⟩ => ⟨v, l', h1, h2, hr _ _ h3⟩
theorem Fc.imp (h : Fc P E f args l' R) (hi : ∀ w, Sat E (stars l) w → Sat E (stars l') w) : Fc P E f args l R := fun w hs => h w (hi w hs)
theorem Fc.split {p r : List HProp} (h : Fc P E f args (p ++ r) R) (hs : Split l p r) : Fc P E f args l R := h.imp fun _ s => s.divide hs

theorem l_call (he : Ent P f) {fx : Operand} {xs : List Operand} {us : List Value} {fs cs : Array Value} {ts : Array TypeId} (hf : val env fx = some (.func (.func f) fs cs)) (hx : vals env xs = some us)
    (hn : Nat.blt d n = true) (hc : Fc P E f (fs ++ us.toArray ++ cs) l R) (h : ∀ v l', R v l' → N ((d, v) :: env) l') :
    LS P E n ds ⟨some d, .call ⟨.value fx, xs.toArray, ts⟩, ty, pos, af, gd⟩ env l N := fun a w hfr hs => by
  have e1 : (execOp a.eval ⟨some d, .call ⟨.value fx, xs.toArray, ts⟩, ty, pos, af, gd⟩).run P w = .ok (.enter f (fs ++ us.toArray ++ cs)) w := by
    have e2 := he (fs ++ us.toArray ++ cs) w
    have e3 : Array.map a.eval xs.toArray = us.toArray := by rw [← hfr.evals hx]; simp
    simp only [execOp, resolve, e3, hfr.eval hf, Deferred.ofValue, Sem.run_bind, Sem.run_pure, Result.andThen_ok, invoke, e2]
  unfold Oper.wp
  rw [e1, Oper.upon_enter]
  refine (hc w hs).mono ?_
  rintro e w' ⟨v, l', rfl, h2, h3⟩
  exact ⟨_, l', hfr.put v hn, h2, h v l' h3⟩
theorem l_call0 (he : Ent P f) {fx : Operand} {xs : List Operand} {us : List Value} {fs cs : Array Value} {ts : Array TypeId} (hf : val env fx = some (.func (.func f) fs cs)) (hx : vals env xs = some us)
    (hc : Fc P E f (fs ++ us.toArray ++ cs) l R) (h : ∀ v l', R v l' → N env l') :
    LS P E n ds ⟨none, .call ⟨.value fx, xs.toArray, ts⟩, ty, pos, af, gd⟩ env l N := fun a w hfr hs => by
  have e1 : (execOp a.eval ⟨none, .call ⟨.value fx, xs.toArray, ts⟩, ty, pos, af, gd⟩).run P w = .ok (.enter f (fs ++ us.toArray ++ cs)) w := by
    have e2 := he (fs ++ us.toArray ++ cs) w
    have e3 : Array.map a.eval xs.toArray = us.toArray := by rw [← hfr.evals hx]; simp
    simp only [execOp, resolve, e3, hfr.eval hf, Deferred.ofValue, Sem.run_bind, Sem.run_pure, Result.andThen_ok, invoke, e2]
  unfold Oper.wp
  rw [e1, Oper.upon_enter]
  refine (hc w hs).mono ?_
  rintro e w' ⟨v, l', rfl, h2, h3⟩
  exact ⟨_, l', hfr, h2, h v l' h3⟩
theorem y_call (he : Ent P f) {fx : Operand} {xs : List Operand} {us : List Value} {fs cs : Array Value} {ts : Array TypeId} (hf : val env fx = some (.func (.func f) fs cs)) (hx : vals env xs = some us)
    (hc : Fc P E f (fs ++ us.toArray ++ cs) l (fun u l' => u = v ∧ l' = l)) :
    Y P E n ds ⟨dst, .call ⟨.value fx, xs.toArray, ts⟩, ty, pos, af, gd⟩ env l v := fun a w hfr hs => by
  have e1 : (execOp a.eval ⟨dst, .call ⟨.value fx, xs.toArray, ts⟩, ty, pos, af, gd⟩).run P w = .ok (.enter f (fs ++ us.toArray ++ cs)) w := by
    have e2 := he (fs ++ us.toArray ++ cs) w
    have e3 : Array.map a.eval xs.toArray = us.toArray := by rw [← hfr.evals hx]; simp
    simp only [execOp, resolve, e3, hfr.eval hf, Deferred.ofValue, Sem.run_bind, Sem.run_pure, Result.andThen_ok, invoke, e2]
  unfold Oper.quietAt
  rw [e1]
  refine ⟨rfl, (hc w hs).mono ?_⟩
  rintro e w' ⟨v', l', rfl, h2, rfl, rfl⟩
  exact ⟨rfl, h2⟩

def args0 : Nat → List Value → Fr
  | _, [] => []
  | k, v :: r => (k, v) :: args0 (k + 1) r
theorem look_args0 : ∀ (vs : List Value) (k t : Nat) (v : Value), look (args0 k vs) t = some v → k ≤ t ∧ vs[t - k]? = some v
  | [], k, t, v, h => by simp [args0, look] at h
  | u :: r, k, t, v, h => by
    by_cases hk : k = t
    · subst hk
      rw [args0, look_cons_eq] at h
      cases h
      simp
    · rw [args0, look_cons_ne hk] at h
      obtain ⟨h1, h2⟩ := look_args0 r (k + 1) t v h
      refine ⟨by omega, ?_⟩
      rw [show t - k = (t - (k + 1)) + 1 by omega]
      simpa using h2
theorem wrap_i64 {x : Int} (h1 : -9223372036854775808 ≤ x) (h2 : x ≤ 9223372036854775807) : IntKind.i64.wrap x = x := by rw [IntKind.wrap_i64]; omega
/-- What a function's body has to end in. -/
def Ret (E : World) (R : Value → List HProp → Prop) : Ending → World → Prop := fun e w' => ∃ v l', e = .returned v ∧ Sat E (stars l') w' ∧ R v l'
theorem Fc.of_body {fn : Func} {c : Code} {vs : List Value} (hf : P.funcs[f]? = some fn) (hb : fn.body = some c) (hn : fn.ntmps = n) (hle : Nat.ble vs.length n = true)
    (h : J P E none n [] c (bodyPost P fn (Ret E R)) (args0 0 vs) l) : Fc P E f vs.toArray l R := fun w hs => by
  refine calls_of_wp hf hb ((wpIn_wide (n := 0)).1 (h _ w ?_ hs))
  have hle' := Nat.le_of_ble_eq_true hle
  refine ⟨by simp [hn]; omega, rfl, fun t v e => ?_⟩
  obtain ⟨_, h2⟩ := look_args0 vs 0 t v e
  have hlt : t < vs.length := by
    rcases Nat.lt_or_ge t vs.length with h | h
    · exact h
    · simp [List.getElem?_eq_none h] at h2
  simp only [Nat.sub_zero] at h2
  rw [List.getElem?_eq_getElem hlt] at h2
  rw [Array.getElem?_append]
  simp [hlt, Option.some.inj h2]

/-- A result. -/
def resOne (tmps : Array Value) : ResultVar → Sem Value
  | .tmp t => pure (tmps.getD t undef)
  | .cell a t => do loadVar t (← asAddr (tmps.getD a undef))
def RV (P : Program) (E : World) (n : Nat) (ds : List Deferred) (env : Fr) (l : List HProp) (r : ResultVar) (v : Value) : Prop :=
  ∀ a w, Frm n ds env a → Sat E (stars l) w → (resOne a.tmps r).run P w = .ok v w
theorem RV.tmp {t : Tmp} (h : look env t = some v) : RV P E n ds env l (.tmp t) v := fun a w hf _ => by
  have := hf.slot t v h
  simp [resOne, Array.getD_eq_getD_getElem?, this]
theorem RV.cell1 (hT : Tok P T) {p : Tmp} {i : TI} {b off : Nat} (h : look env p = some (.pointer (some ⟨b, off, none⟩))) (hi : T.at t = some i) (ha : isAggB i.u = false) (hr : Rd1 l b off v) : RV P E n ds env l (.cell p t) v := fun a w hf hs => by
  have h1 := hf.slot p _ h
  have h2 := hT.agg w hi
  have h3 := hr E w hs
  simp [resOne, Array.getD_eq_getD_getElem?, h1, asAddr, loadVar, h2, ha, h3]
theorem RV.cellN (hT : Tok P T) {p : Tmp} {i : TI} {b off : Nat} {vs : List Value} (h : look env p = some (.pointer (some ⟨b, off, none⟩))) (hi : T.at t = some i) (ha : isAggB i.u = true) (hr : RdN l b off vs) (hn : vs.length = i.size) : RV P E n ds env l (.cell p t) (.agg vs.toArray) := fun a w hf hs => by
  have h1 := hf.slot p _ h
  have h2 := hT.agg w hi
  have h4 := hT.siz w hi
  have h3 := run_loadCells_list (P := P) (w := w) ⟨b, off, none⟩ vs (hr.cells hs)
  rw [hn] at h3
  simp [resOne, Array.getD_eq_getD_getElem?, h1, asAddr, loadVar, h2, ha, h4, h3]
theorem results_eq (fn : Func) (tmps : Array Value) : results fn tmps = (do
    let vs ← fn.results.mapM (resOne tmps)
    pure (if h : vs.size = 1 then vs[0] else .tuple vs)) := by
  unfold results
  congr 2

section
variable {fn : Func} {e : Exit} {r1 r2 r3 r4 : ResultVar} {v1 v2 v3 v4 : Value}
theorem JE.body {R : Ending → World → Prop} (he : e = .ret ∨ e = .normal) (hd : ds = []) (hr : ∀ a w, Frm n ds env a → Sat E (stars l) w → (results fn a.tmps).run P w = .ok v w) (h : ∀ w, Sat E (stars l) w → R (.returned v) w) : JE E n ds (bodyPost P fn R) e env l := fun a w hf hs => by
  have : a.defers = [] ∧ ∃ v, (results fn a.tmps).run P w = .ok v w ∧ R (.returned v) w := ⟨by rw [hf.defers, hd], v, hr a w hf hs, h w hs⟩
  rcases he with rfl | rfl <;> exact this
theorem JE.ret0 (he : e = .ret ∨ e = .normal) (hd : ds = []) (hres : fn.results = #[]) (h : R (.tuple #[]) l) : JE E n ds (bodyPost P fn (Ret E R)) e env l :=
  JE.body (v := .tuple #[]) he hd (fun a w hf hs => by simp [results_eq, hres]) fun w hs => ⟨_, l, rfl, hs, h⟩
theorem JE.ret1 (he : e = .ret ∨ e = .normal) (hd : ds = []) (hres : fn.results = #[r1]) (h1 : RV P E n ds env l r1 v1) (h : R v1 l) : JE E n ds (bodyPost P fn (Ret E R)) e env l :=
  JE.body (v := v1) he hd (fun a w hf hs => by
    have e1 := h1 a w hf hs
    simp [results_eq, hres, Array.mapM_eq_mapM_toList, e1]) fun w hs => ⟨_, l, rfl, hs, h⟩
theorem JE.ret2 (he : e = .ret ∨ e = .normal) (hd : ds = []) (hres : fn.results = #[r1, r2]) (h1 : RV P E n ds env l r1 v1) (h2 : RV P E n ds env l r2 v2) (h : R (.tuple #[v1, v2]) l) : JE E n ds (bodyPost P fn (Ret E R)) e env l :=
  JE.body (v := .tuple #[v1, v2]) he hd (fun a w hf hs => by
    have e1 := h1 a w hf hs
    have e2 := h2 a w hf hs
    simp [results_eq, hres, Array.mapM_eq_mapM_toList, e1, e2]) fun w hs => ⟨_, l, rfl, hs, h⟩
theorem JE.ret3 (he : e = .ret ∨ e = .normal) (hd : ds = []) (hres : fn.results = #[r1, r2, r3]) (h1 : RV P E n ds env l r1 v1) (h2 : RV P E n ds env l r2 v2) (h3 : RV P E n ds env l r3 v3) (h : R (.tuple #[v1, v2, v3]) l) : JE E n ds (bodyPost P fn (Ret E R)) e env l :=
  JE.body (v := .tuple #[v1, v2, v3]) he hd (fun a w hf hs => by
    have e1 := h1 a w hf hs
    have e2 := h2 a w hf hs
    have e3 := h3 a w hf hs
    simp [results_eq, hres, Array.mapM_eq_mapM_toList, e1, e2, e3]) fun w hs => ⟨_, l, rfl, hs, h⟩
end

def sub : Fr → Fr → Prop
  | [], _ => True
  | (t, v) :: r, env => look env t = some v ∧ sub r env
theorem sub.look {env : Fr} : ∀ {e : Fr}, sub e env → ∀ t v, SL.look e t = some v → SL.look env t = some v
  | [], _, t, v, h => by simp [SL.look] at h
  | (d, u) :: r, hs, t, v, h => by
    by_cases hd : d = t
    · subst hd; rw [look_cons_eq] at h; cases h; exact hs.1
    · rw [look_cons_ne hd] at h; exact hs.2.look t v h
theorem l_callF (he : Ent P f) {xs : List Operand} {us : List Value} {ts : Array TypeId} (hx : vals env xs = some us)
    (hn : Nat.blt d n = true) (hc : Fc P E f us.toArray l R) (h : ∀ v l', R v l' → N ((d, v) :: env) l') :
    LS P E n ds ⟨some d, .call ⟨.value (.func f), xs.toArray, ts⟩, ty, pos, af, gd⟩ env l N := l_call he (fs := #[]) (cs := #[]) rfl hx hn (by simpa using hc) h
theorem l_callF0 (he : Ent P f) {xs : List Operand} {us : List Value} {ts : Array TypeId} (hx : vals env xs = some us)
    (hc : Fc P E f us.toArray l R) (h : ∀ v l', R v l' → N env l') :
    LS P E n ds ⟨none, .call ⟨.value (.func f), xs.toArray, ts⟩, ty, pos, af, gd⟩ env l N := l_call0 he (fs := #[]) (cs := #[]) rfl hx (by simpa using hc) h
theorem y_callF (he : Ent P f) {xs : List Operand} {us : List Value} {ts : Array TypeId} (hx : vals env xs = some us)
    (hc : Fc P E f us.toArray l (fun u l' => u = v ∧ l' = l)) :
    Y P E n ds ⟨dst, .call ⟨.value (.func f), xs.toArray, ts⟩, ty, pos, af, gd⟩ env l v := y_call he (fs := #[]) (cs := #[]) rfl hx (by simpa using hc)
/-- A call of a function value: what it has captured stands behind the arguments. -/
theorem l_callV (he : Ent P f) {fx : Operand} {xs : List Operand} {us cs : List Value} {ts : Array TypeId} (hf : val env fx = some (.func (.func f) #[] cs.toArray)) (hx : vals env xs = some us)
    (hn : Nat.blt d n = true) (hc : Fc P E f (us ++ cs).toArray l R) (h : ∀ v l', R v l' → N ((d, v) :: env) l') :
    LS P E n ds ⟨some d, .call ⟨.value fx, xs.toArray, ts⟩, ty, pos, af, gd⟩ env l N := l_call he (fs := #[]) hf hx hn (by simpa using hc) h
theorem l_callV0 (he : Ent P f) {fx : Operand} {xs : List Operand} {us cs : List Value} {ts : Array TypeId} (hf : val env fx = some (.func (.func f) #[] cs.toArray)) (hx : vals env xs = some us)
    (hc : Fc P E f (us ++ cs).toArray l R) (h : ∀ v l', R v l' → N env l') :
    LS P E n ds ⟨none, .call ⟨.value fx, xs.toArray, ts⟩, ty, pos, af, gd⟩ env l N := l_call0 he (fs := #[]) hf hx (by simpa using hc) h

theorem exists_least (p : Nat → Prop) (h : ∃ m, p m) : ∃ m, p m ∧ ∀ k, p k → m ≤ k := by
  obtain ⟨m, hm⟩ := h
  induction m using Nat.strongRecOn with
  | _ m ih =>
    by_cases hk : ∃ k, k < m ∧ p k
    · obtain ⟨k, hlt, hp⟩ := hk
      exact ih k hlt hp
    · exact ⟨m, hm, fun k hp => by
        rcases Nat.lt_or_ge k m with h | h
        · exact absurd ⟨k, h, hp⟩ hk
        · exact h⟩
/-- A loop: what holds of the frame and the list at each round's head, and a number that sinks. -/
theorem J.loop {c : Code} {Q : Exit → Act → World → Prop} {α : Type} (I : α → Prop) (S : α → Fr) (L : α → List HProp) (μ : α → Nat) (s0 : α) (hI : I s0) (h0 : sub (S s0) env) (hl : ∀ w, Sat E (stars l) w → Sat E (stars (L s0)) w)
    (round : ∀ s, I s → J P E ρ n ds c (Exit.then (fun a w => ∃ s', I s' ∧ Frm n ds (S s') a ∧ Sat E (stars (L s')) w ∧ μ s' < μ s) Q) (S s) (L s)) : J P E ρ n ds (.loop c) Q env l := fun a w hf hs => by
  -- the number that sinks, of the least state that fits
  classical
  let Fits (a : Act) (w : World) (m : Nat) : Prop := ∃ s, I s ∧ Frm n ds (S s) a ∧ Sat E (stars (L s)) w ∧ μ s = m
  have key : ∀ m a w, Fits a w m → (Code.loop c).wpIn (Fw ρ) 0 P Q a w := by
    intro m a w hm
    let least (a : Act) (w : World) : Nat := if h : ∃ m, Fits a w m then Classical.choose (exists_least _ h) else 0
    have least_spec : ∀ a w m, Fits a w m → Fits a w (least a w) ∧ least a w ≤ m := fun a w m h => by
      have he : ∃ m, Fits a w m := ⟨m, h⟩
      simp only [least, dif_pos he]
      have hc := Classical.choose_spec (exists_least _ he)
      exact ⟨hc.1, hc.2 m h⟩
    refine wpIn_loop (fun a w => ∃ m, Fits a w m) least ⟨m, hm⟩ fun a w ⟨m, hm⟩ => ?_
    obtain ⟨⟨s, hi, hf, hs, hμ⟩, _⟩ := least_spec a w m hm
    refine wpIn_mono (round s hi a w hf hs) fun e a' w' q => ?_
    cases e with
    | normal =>
      obtain ⟨s', hi', hf', hs', hlt⟩ := q
      have hfit : Fits a' w' (μ s') := ⟨s', hi', hf', hs', rfl⟩
      exact ⟨⟨_, hfit⟩, by have := (least_spec a' w' _ hfit).2; omega⟩
    | exit id => exact q
    | goto l => exact q
    | ret => exact q
    | panic ch => exact q
    | outgrown => exact q
  exact key _ a w ⟨s0, hI, hf.weak h0.look, hl w hs, rfl⟩
/-- The end of a round. -/
theorem JE.round {α : Type} {Q : Exit → Act → World → Prop} {I : α → Prop} {S : α → Fr} {L : α → List HProp} {μ : α → Nat} {s : α} (s' : α) (hI : I s') (h0 : sub (S s') env) (hl : ∀ w, Sat E (stars l) w → Sat E (stars (L s')) w) (hm : μ s' < μ s) :
    JE E n ds (Exit.then (fun a w => ∃ s', I s' ∧ Frm n ds (S s') a ∧ Sat E (stars (L s')) w ∧ μ s' < μ s) Q) .normal env l := fun _ w hf hs => ⟨s', hI, hf.weak h0.look, hl w hs, hm⟩

theorem J.owns {c : Code} {Q : Exit → Act → World → Prop} {e size m : Nat} {v : Value} {xs : List Value}
    (h1 : v = .slice none 0 0 → m = 0 → xs = [] → J P E ρ n ds c Q env l)
    (h2 : ∀ g cap sp, v = .slice (some ⟨g, 0, none⟩) m cap → m ≤ cap → cap ≤ maxLen → xs.length = m * size → (xs ++ sp).length = cap * size → J P E ρ n ds c Q env (row g e (xs ++ sp) :: l)) :
    J P E ρ n ds c Q env (own e size v m xs :: l) := fun a w hf hs => by
  obtain ⟨hl, ⟨e1, e2, e3, s⟩ | ⟨g, cap, cur, e1, c1, c2, c3, c4, s⟩⟩ := hs.own_open
  · exact h1 e1 e2 e3 a w hf s
  · have e5 : cur = xs ++ cur.drop (m * size) := by rw [← c4, List.take_append_drop]
    rw [e5] at s
    exact h2 g cap _ e1 c1 c2 hl (by rw [← e5]; exact c3) a w hf s
theorem Sat.owned {w : World} {e size m g cap : Nat} {xs sp : List Value} (s : Sat E (stars (row g e (xs ++ sp) :: l)) w) (h1 : m ≤ cap) (h2 : cap ≤ maxLen) (h3 : xs.length = m * size) (h4 : (xs ++ sp).length = cap * size) :
    Sat E (stars (own e size (.slice (some ⟨g, 0, none⟩) m cap) m xs :: l)) w := s.own_row h1 h2 h4 (by rw [← h3]; exact List.take_left) h3
theorem J.weak {c : Code} {Q : Exit → Act → World → Prop} {env' : Fr} (h : J P E ρ n ds c Q env' l') (he : sub env' env) (hl : ∀ w, Sat E (stars l) w → Sat E (stars l') w) : J P E ρ n ds c Q env l := fun a w hf hs => h a w (hf.weak he.look) (hl w hs)
theorem J.opens {c : Code} {Q : Exit → Act → World → Prop} {α : Type} {F : α → HProp} (h : ∀ x, J P E ρ n ds c Q env (F x :: l)) : J P E ρ n ds c Q env (SL.ex F :: l) := fun a w hf hs => let ⟨x, hx⟩ := hs.ofex; h x a w hf hx
theorem J.flat {c : Code} {Q : Exit → Act → World → Prop} {m : List HProp} (h : J P E ρ n ds c Q env (m ++ l)) : J P E ρ n ds c Q env (SL.stars m :: l) := fun a w hf hs => h a w hf hs.unfold
theorem J.purs {c : Code} {Q : Exit → Act → World → Prop} {p : Prop} (h : p → J P E ρ n ds c Q env l) : J P E ρ n ds c Q env (SL.pur p :: l) := fun a w hf hs => let ⟨hp, hx⟩ := hs.ofpur; h hp a w hf hx

variable {Q : Exit → Act → World → Prop} {ops : Array Oper} {o : Oper} {rest : List Oper}
theorem Frm.set {a : Act} {env : Fr} {t : Nat} {v : Value} (h : Frm n ds env a) (hv : look env t = some v) : Frm n ds ((t, v) :: env) a := h.weak fun s u e => by
  by_cases hs : t = s
  · subst hs; rw [look_cons_eq] at e; cases e; exact hv
  · rw [look_cons_ne hs] at e; exact e
/-- A guard's bool is parted. -/
theorem JL.gsplit {j s : Nat} {b c : Bool} (hg : o.guard = some (j, b)) (hgd : (ops[j]?).bind (·.dst) = some s) (hgv : look env s = some (.bool c))
    (h1 : c = true → JL P E ρ n ds ops Q (o :: rest) ((s, .bool true) :: env) l) (h2 : c = false → JL P E ρ n ds ops Q (o :: rest) ((s, .bool false) :: env) l) : JL P E ρ n ds ops Q (o :: rest) env l := fun a w hf hs => by
  have := hg
  have := hgd
  cases c with
  | true => exact h1 rfl a w (hf.set hgv) hs
  | false => exact h2 rfl a w (hf.set hgv) hs
theorem JL.gsplit_dec {j s : Nat} {b : Bool} {p : Prop} {hp : Decidable p} (hg : o.guard = some (j, b)) (hgd : (ops[j]?).bind (·.dst) = some s) (hgv : look env s = some (.bool (decide p)))
    (h1 : p → JL P E ρ n ds ops Q (o :: rest) ((s, .bool true) :: env) l) (h2 : ¬ p → JL P E ρ n ds ops Q (o :: rest) ((s, .bool false) :: env) l) : JL P E ρ n ds ops Q (o :: rest) env l :=
  JL.gsplit hg hgd hgv (fun e => h1 (of_decide_eq_true e)) (fun e => h2 (of_decide_eq_false e))
end
end Go.SL
