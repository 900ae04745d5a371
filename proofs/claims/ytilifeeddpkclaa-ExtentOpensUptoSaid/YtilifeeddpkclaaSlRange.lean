import Derived.Test.YtilifeeddpkclaaSlMore
import Derived.RangeFuncRecord
import Derived.RangeFuncIn
import Derived.RangeFuncLeaves
namespace Go.SL
open Go Go.RowKit

/-- The record of a loop over a function. -/
abbrev rec (fn : FuncId) (tmps : Array Value) (ps : Array Tmp) (assign body : Code) (D : Nat) (st : LoopState) (pend : Option Code) : Loop :=
  { state := st, pending := pend, fn, tmps, params := ps, assign, body, defers := D }
abbrev mark (D : Nat) : Deferred := { target := .collected D, args := #[] }

theorem Sat.putObj {E w : World} {l : List HProp} {b : Nat} {o : Obj} (s : Sat E (stars (blk b o :: l)) w) (o' : Obj) : Sat E (stars (blk b o' :: l)) (w.putObj b o') :=
  s.turn rfl rfl rfl (World.putObj_heap_same (Array.getElem?_eq_some_iff.1 s.block).1) (fun _ hk => World.putObj_heap_other hk)

section
variable (P : Program) (E : World)
/-- A call of yield of the loop l. -/
def Yc (l : Nat) (args : Array Value) (L : List HProp) (R : Value → List HProp → Prop) : Prop :=
  ∀ w, Sat E (stars L) w → ∃ f tmps assign body, (Instr.yield l args).run P w = .ok (.round l f tmps assign body) w ∧
    RoundIn (Fw none) 0 P l f tmps assign body w (fun e w' => ∃ v l', e = .returned v ∧ Sat E (stars l') w' ∧ R v l')
end
section
variable {P : Program} {E : World} {ρ : Option Nat} {n : Nat} {ds : List Deferred} {env : Fr} {l r : List HProp} {Q : Exit → Act → World → Prop} {ops : Array Oper} {rest : List Oper} {R R' : Value → List HProp → Prop}
variable {d : Tmp} {dst : Option Tmp} {ty : TypeId} {pos : String} {af : Array Edge} {gd : Option (Nat × Bool)} {x y z : Operand} {v u : Value} {t t' : TypeId}

theorem Yc.mono {k : Nat} {args : Array Value} (h : Yc P E k args l R) (hr : ∀ v l, R v l → R' v l) : Yc P E k args l R' := fun w hs =>
  let ⟨f, tm, as_, bo, h1, h2⟩ := h w hs
  ⟨f, tm, as_, bo, h1, h2.mono fun _ _ ⟨v, l', h1, h2, h3⟩ => ⟨v, l', h1, h2, hr _ _ h3⟩⟩
theorem Yc.imp {k : Nat} {args : Array Value} {l' : List HProp} (h : Yc P E k args l' R) (hi : ∀ w, Sat E (stars l) w → Sat E (stars l') w) : Yc P E k args l R := fun w hs => h w (hi w hs)
theorem Yc.post {k : Nat} {args : Array Value} (h : Yc P E k args l (fun v l' => ∃ l'', (∀ w, Sat E (stars l') w → Sat E (stars l'') w) ∧ R v l'')) : Yc P E k args l R := fun w hs =>
  let ⟨f, tm, as_, bo, h1, h2⟩ := h w hs
  ⟨f, tm, as_, bo, h1, h2.mono fun _ _ ⟨v, _, he, s, l'', hi, hR⟩ => ⟨v, l'', he, hi _ s, hR⟩⟩

/-- A call of yield in an iterator's text. -/
theorem JL.yield {k : Nat} {fx : Operand} {xs : List Operand} {us : List Value} {ts : Array TypeId} (hf : val env fx = some (.func (.yield k) #[] #[])) (hx : vals env xs = some us)
    (hn : Nat.blt d n = true) (hc : Yc P E k us.toArray l R) (h : ∀ v l', R v l' → JL P E ρ n ds ops Q rest ((d, v) :: env) l') :
    JL P E ρ n ds ops Q (⟨some d, .call ⟨.value fx, xs.toArray, ts⟩, ty, pos, af, none⟩ :: rest) env l := fun a w hfr hs => by
  refine wpListIn_plain rfl fun K hK => ?_
  obtain ⟨f, tm, as_, bo, h1, h2⟩ := hc w hs
  have e3 : Array.map a.eval xs.toArray = us.toArray := by rw [← hfr.evals hx]; simp
  refine ⟨fun _ _ => trivial, ?_⟩
  rw [semAt_of rfl]
  have e1 : (execOp a.eval ⟨some d, .call ⟨.value fx, xs.toArray, ts⟩, ty, pos, af, none⟩).run P w = .ok (.round k f tm as_ bo) w := by
    simp only [execOp, resolve, e3, hfr.eval hf, Deferred.ofValue, Sem.run_bind, Sem.run_pure, Result.andThen_ok, invoke]
    simpa using h1
  rw [e1, Oper.uponIn_round]
  refine ⟨fun e => by simp [Fw, Fence.wide] at e, RoundIn.mono (F := Fw ρ) (n := 0) ⟨trivial, h2.2⟩ ?_⟩
  rintro e w' ⟨v, l', rfl, h3, h4⟩
  exact hK _ _ (h v l' h4 _ w' (hfr.put v hn) h3)

/-- The loop's record as an assertion. -/
abbrev recK (k : Nat) (fn : FuncId) (tmps : Array Value) (ps : List Tmp) (assign body : Code) (D : Nat) : LoopState → Option Code → HProp := fun st pd => blk k (.loop (rec fn tmps ps.toArray assign body D st pd))
/-- What a round of the caller's body is to the iterator. -/
theorem Yc.of_body {k D : Nat} {fn : FuncId} {a0 : Act} {ps : List Tmp} {assign body : Code} {us : List Value} {K : LoopState → Option Code → HProp} (hK : K = recK k fn a0.tmps ps assign body D) (hf : Frm n ds env a0) (hps : ps.length = us.length) (hpn : ∀ t ∈ ps, t < n)
    (hb : J P E (some k) n [] assign (Exit.then (fun a w => ∃ env' l', Frm n [] env' a ∧ Sat E (stars (K .ready none :: l')) w ∧
        J P E (some k) n [] body (roundPost P k (fun e w' => ∃ v l', e = .returned v ∧ Sat E (stars l') w' ∧ R v l')) env' (K .busy none :: l')) (fun _ _ _ => False))
      ((ps.zip us).reverse ++ env) (K .ready none :: l)) :
    Yc P E k us.toArray (K .ready none :: l) R := fun w hs => by
  subst hK
  refine ⟨_, _, _, _, run_yield hs.block (by simp [hps]), ?_⟩
  refine roundIn_of_wpIn trivial ?_
  have hfr : Frm n [] ((ps.zip us).reverse ++ env) { tmps := (ps.toArray.zip us.toArray).foldl (fun tmps (x : Tmp × Value) => tmps.setIfInBounds x.1 x.2) a0.tmps, defers := [] } := by
    have key : ∀ (zs : List (Tmp × Value)) (tm : Array Value) (e : Fr), (∀ z ∈ zs, z.1 < n) → Frm n [] e ({ tmps := tm, defers := [] } : Act) → Frm n [] (zs.reverse ++ e) ({ tmps := zs.foldl (fun tmps (x : Tmp × Value) => tmps.setIfInBounds x.1 x.2) tm, defers := [] } : Act) := by
      intro zs
      induction zs with
      | nil => intro tm e _ h; exact h
      | cons z zs ih =>
        intro tm e hz h
        have h1 := h.put (d := z.1) z.2 (by have := hz z (by simp); exact Nat.blt_eq.mpr this)
        have h2 := ih (tm.setIfInBounds z.1 z.2) ((z.1, z.2) :: e) (fun y hy => hz y (by simp [hy])) h1
        simpa using h2
    have h0 : Frm n [] env ({ tmps := a0.tmps, defers := [] } : Act) := ⟨hf.size, rfl, hf.slot⟩
    have h1 := key (ps.zip us) a0.tmps env (fun z hz => hpn _ (List.of_mem_zip hz).1) h0
    have e1 : (ps.toArray.zip us.toArray) = (ps.zip us).toArray := by simp [List.zip]
    rw [e1]
    simpa using h1
  refine wpIn_mono (hb _ w hfr hs) fun e a1 w1 q => ?_
  cases e with
  | normal =>
    obtain ⟨env', l', h1, h2, h3⟩ := q
    exact ⟨_, run_beginRound h2.block rfl, h3 a1 _ h1 (h2.putObj _)⟩
  | exit id => exact q
  | goto l => exact q
  | ret => exact q
  | panic ch => exact q
  | outgrown => exact q

section
variable {k D : Nat} {fn : FuncId} {tm : Array Value} {ps : List Tmp} {assign body : Code} {st : LoopState} {pd : Option Code} {K : LoopState → Option Code → HProp}
theorem JE.assigned {Rq : Exit → Act → World → Prop} (hp : Pick l (K .ready none) r)
    (h : J P E (some k) n [] body Rq env (K .busy none :: r)) :
    JE E n [] (Exit.then (fun a w => ∃ env' l', Frm n [] env' a ∧ Sat E (stars (K .ready none :: l')) w ∧
        J P E (some k) n [] body Rq env' (K .busy none :: l')) (fun _ _ _ => False)) .normal env l := fun _ _ hf hs => ⟨env, r, hf, hs.pick hp, h⟩
theorem JE.round_on (hK : K = recK k fn tm ps assign body D) (hp : Pick l (K st pd) r) (h : R (.bool true) (K .ready none :: r)) :
    JE E n ds (roundPost P k (fun e w' => ∃ v l', e = .returned v ∧ Sat E (stars l') w' ∧ R v l')) .normal env l := fun a w _ hs => by
  subst hK
  exact ⟨_, _, run_endRound none (hs.pick hp).block, _, _, rfl, (hs.pick hp).putObj _, h⟩
theorem JE.round_ret (hK : K = recK k fn tm ps assign body D) (hp : Pick l (K st pd) r) (h : R (.bool false) (K .done (some .ret) :: r)) :
    JE E n ds (roundPost P k (fun e w' => ∃ v l', e = .returned v ∧ Sat E (stars l') w' ∧ R v l')) .ret env l := fun a w _ hs => by
  subst hK
  exact ⟨_, _, run_endRound (some .ret) (hs.pick hp).block, _, _, rfl, (hs.pick hp).putObj _, h⟩
theorem JE.round_exit {id : Nat} (hK : K = recK k fn tm ps assign body D) (hp : Pick l (K st pd) r) (h : R (.bool false) (K .done (some (.exit id)) :: r)) :
    JE E n ds (roundPost P k (fun e w' => ∃ v l', e = .returned v ∧ Sat E (stars l') w' ∧ R v l')) (.exit id) env l := fun a w _ hs => by
  subst hK
  exact ⟨_, _, run_endRound (some (.exit id)) (hs.pick hp).block, _, _, rfl, (hs.pick hp).putObj _, h⟩
end

/-- 'for .. := range g { .. }', outermost. -/
theorem J.rangeFunc {f : FuncId} (he : Ent P f) {g : Operand} {cs : List Value} {ps : List Tmp} {assign body : Code} (hg : val env g = some (.func (.func f) #[] cs.toArray))
    (h : ∀ (fn : FuncId) (a0 : Act) (k D : Nat) (K : LoopState → Option Code → HProp), K = recK k fn a0.tmps ps assign body D → Frm n ds env a0 → Fc P E f (.func (.yield k) #[] #[] :: cs).toArray (K .ready none :: blk D (.deferred (some [])) :: l)
      (fun _ l' => ∃ st pd r, Pick l' (K st pd) r ∧ st ≠ .busy ∧
        (match pd with
         | none => JE E n (mark D :: ds) Q .normal env r
         | some c => J P E none n (mark D :: ds) c Q env r))) :
    J P E none n ds (.rangeFunc g ps.toArray assign body) Q env l := fun a w hfr hs => by
  refine wpIn_rangeFunc fun fn _ => ?_
  have hen := run_enterLoop_outer (P := P) (w := w) fn a.tmps ps.toArray assign body
  refine ⟨w.heap.size + 1, _, _, { target := .fn (.func f) cs.toArray, args := #[.func (.yield (w.heap.size + 1)) #[] #[]] }, (w.alloc (.deferred (some []))).alloc (.loop (rec fn a.tmps ps.toArray assign body w.heap.size .ready none)), f,
    (.func (.yield (w.heap.size + 1)) #[] #[] :: cs).toArray, (w.alloc (.deferred (some []))).alloc (.loop (rec fn a.tmps ps.toArray assign body w.heap.size .ready none)), hen, ?_, fun _ _ => trivial, ?_, fun e => by simp [Fw, Fence.wide] at e, ?_⟩
  · simp only [resolve, hfr.eval hg, Deferred.ofValue]
    simp [Act.eval]
  · have e2 := he (.func (.yield (w.heap.size + 1)) #[] #[] :: cs).toArray ((w.alloc (.deferred (some []))).alloc (.loop (rec fn a.tmps ps.toArray assign body w.heap.size .ready none)))
    simp only [invoke]
    rw [← e2]
    congr 2
    simp
  · have s1 := (hs.alloc (.deferred (some []))).alloc (.loop (rec fn a.tmps ps.toArray assign body w.heap.size .ready none))
    have hsz : (w.alloc (.deferred (some []))).heap.size = w.heap.size + 1 := by simp
    rw [hsz] at s1
    refine calls_in ((h fn a (w.heap.size + 1) w.heap.size _ rfl hfr _ s1).mono ?_)
    rintro e w' ⟨v, l', rfl, s, st, pd, r, hp, hst, hq⟩
    have s2 := s.pick hp
    refine ⟨pd, _, run_endLoop s2.block hst, ?_⟩
    have s3 := (s2.putObj (.loop (rec fn a.tmps ps.toArray assign body w.heap.size .exhausted pd))).drop
    have hf' : Frm n (mark w.heap.size :: ds) env ({ a with defers := mark w.heap.size :: a.defers } : Act) := ⟨hfr.size, by rw [← hfr.defers], hfr.slot⟩
    cases pd with
    | none => exact hq _ _ hf' s3
    | some c => exact hq _ _ hf' s3

/-- A function whose body holds such a loop. -/
theorem Fc.of_bodyM {f : FuncId} {fn : Func} {c : Code} {vs : List Value} (hf : P.funcs[f]? = some fn) (hb : fn.body = some c) (hn : fn.ntmps = n) (hle : Nat.ble vs.length n = true)
    (h : J P E none n [] c (bodyPostM (Fw none) 0 P fn (Ret E R)) (args0 0 vs) l) : Fc P E f vs.toArray l R := fun w hs => by
  refine (callsIn_wide (n := 0)).1 (callsIn_of_wp_marks hf hb trivial (h _ w ?_ hs))
  have hle' := Nat.le_of_ble_eq_true hle
  refine ⟨by simp [hn]; omega, rfl, fun t v e => ?_⟩
  obtain ⟨_, h2⟩ := look_args0 vs 0 t v e
  have hlt : t < vs.length := by
    rcases Nat.lt_or_ge t vs.length with h | h
    · exact h
    · simp [List.getElem?_eq_none h] at h2
  simp only [Nat.sub_zero] at h2
  rw [List.getElem?_eq_getElem hlt] at h2
  rw [Array.getElem?_append]
  simp [hlt, Option.some.inj h2]
theorem JE.unmark {fn : Func} {e : Exit} {D : Nat} {Rr : Ending → World → Prop} (he : e = .ret ∨ e = .normal) (hd : ds = [mark D]) (hp : Pick l (blk D (.deferred (some []))) r)
    (h : JE E n [] (bodyPost P fn Rr) e env r) : JE E n ds (bodyPostM (Fw none) 0 P fn Rr) e env l := fun a w hf hs => by
  have s1 := hs.pick hp
  have s2 := (s1.putObj (.deferred none)).drop
  have h0 : Frm n [] env ({ a with defers := [] } : Act) := ⟨hf.size, rfl, hf.slot⟩
  have hq := h _ _ h0 s2
  have : LeavesInM (Fw none) 0 P fn a.tmps Rr a.defers .returning w := by
    rw [hf.defers, hd]
    refine ⟨by simp, .inl ⟨D, _, rfl, run_takeDeferred s1.block, ?_⟩⟩
    rcases he with rfl | rfl
    · exact hq.2
    · exact hq.2
  rcases he with rfl | rfl <;> exact this
theorem JE.nomark {fn : Func} {e : Exit} {Rr : Ending → World → Prop} (he : e = .ret ∨ e = .normal) (hd : ds = [])
    (h : JE E n [] (bodyPost P fn Rr) e env l) : JE E n ds (bodyPostM (Fw none) 0 P fn Rr) e env l := fun a w hf hs => by
  subst hd
  have hq := h _ _ hf hs
  have : LeavesInM (Fw none) 0 P fn a.tmps Rr a.defers .returning w := by
    rw [hf.defers]
    rcases he with rfl | rfl
    · exact hq.2
    · exact hq.2
  rcases he with rfl | rfl <;> exact this

/-- Of a list, what is kept. -/
inductive Sup : List HProp → List HProp → Prop
  | refl {l : List HProp} : Sup l l
  | skip {A : HProp} {l p : List HProp} : Sup l p → Sup (A :: l) p
  | cons {A : HProp} {l p r : List HProp} : Pick l A r → Sup r p → Sup l (A :: p)
theorem Sup.under {l p : List HProp} (h : Sup l p) : ∀ (g : Hp), stars l g → ∃ g', (∀ k o, g' k = some o → g k = some o) ∧ stars p g' := by
  induction h with
  | refl => exact fun g s => ⟨g, fun _ _ e => e, s⟩
  | skip _ ih =>
    rintro g ⟨g1, g2, d, rfl, _, s⟩
    obtain ⟨g', h1, h2⟩ := ih _ s
    refine ⟨g', fun k o e => ?_, h2⟩
    have := d k; have := h1 k o e; simp only [Hp.un]; cases e1 : g1 k <;> simp_all
  | cons hp _ ih =>
    intro g s
    obtain ⟨g1, g2, d, rfl, a, s⟩ := (hp.iff g).1 s
    obtain ⟨g', h1, h2⟩ := ih _ s
    refine ⟨Hp.un g1 g', fun k o e => ?_, g1, g', fun k => ?_, rfl, a, h2⟩
    · simp only [Hp.un] at e ⊢
      cases e1 : g1 k with
      | some x => simpa [e1] using e
      | none => simp only [e1] at e; exact h1 k o e
    · rcases d k with h | h
      · exact .inl h
      · right
        cases e1 : g' k with
        | none => rfl
        | some o => rw [h1 k o e1] at h; cases h
theorem Sat.sup {w : World} {l p : List HProp} (s : Sat E (stars l) w) (h : Sup l p) : Sat E (stars p) w := ⟨s.os, s.tape, s.output, let ⟨g, hs, a⟩ := s.heap; let ⟨g', h1, h2⟩ := h.under g a; ⟨g', fun k o e => hs k o (h1 k o e), h2⟩⟩
theorem Yc.purs {k : Nat} {args : Array Value} {p : Prop} (h : p → Yc P E k args l R) : Yc P E k args (pur p :: l) R := fun w hs => let ⟨hp, s⟩ := hs.ofpur; h hp w s
theorem Yc.split {k : Nat} {args : Array Value} {p q : List HProp} (h : Yc P E k args (p ++ q) R) (hs : Split l p q) : Yc P E k args l R := h.imp fun _ s => s.divide hs
theorem JE.purs {e : Exit} {p : Prop} (h : p → JE E n ds Q e env l) : JE E n ds Q e env (pur p :: l) := fun a w hf hs => let ⟨hp, s⟩ := hs.ofpur; h hp a w hf s
theorem JE.picks {e : Exit} {A : HProp} (hp : Pick l A r) (h : JE E n ds Q e env (A :: r)) : JE E n ds Q e env l := fun a w hf hs => h a w hf (hs.pick hp)
end
end Go.SL
