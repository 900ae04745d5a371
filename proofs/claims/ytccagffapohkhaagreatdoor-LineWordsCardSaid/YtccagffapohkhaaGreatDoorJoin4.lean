import Derived.Lib.MakeNoZero
import Derived.Laws.Externs
import Derived.Sort.LotA
import Derived.Sort.LotB
import Derived.Sort.LotC
import Derived.Sort.LotD3
import Derived.Lib.Tables
import Derived.Lib.AppendStr
import Derived.Lib.ConvBytes
import Derived.WideKeyEntry
import Derived.ChangeMaps3
import Derived.Laws.RangeAny
import Derived.Lib.OthersKept
import Derived.Lib.Builder
import Derived.Lib.UnsafeStr
import Derived.Test.YtccagffapohkhaaGreatDoorJoin1
namespace Go.SL
open Go Go.RowKit
theorem beq_str (a b : ByteArray) : (a == b) = decide (a = b) := by
  have e : (a == b) = (a.data == b.data) := rfl
  rw [e]
  by_cases h : a = b
  · subst h; simp
  · rw [decide_eq_false h]
    exact beq_eq_false_iff_ne.2 fun q => h (ByteArray.ext q)
section
variable {P : Program} {T : Tab} {kt : TypeId}
theorem keyInt {i : TI} {k : IntKind} (hT : Tok P T) (hi : T.at kt = some i) (hk : i.u = .int k) : KeyOk P kt (fun x : Int => Value.int k x) (fun _ => True) where
  chk w em a _ := by
    have h1 := hT.und w hi
    rw [hk] at h1
    rw [Instr.checkKey.eq_def]
    simp [h1]
  now := by
    obtain ⟨h1, _⟩ := hT kt i hi
    rw [hk] at h1
    refine ⟨_, h1, .inl fun a b _ _ => ?_⟩
    simp only [Instr.sameNow, if_true, Option.some.injEq]
    rfl
  same a _ := by unfold Instr.sameBits; simp
theorem keyStr {i : TI} (hT : Tok P T) (hi : T.at kt = some i) (hk : i.u = .string) : KeyOk P kt Value.string (fun _ => True) where
  chk w em a _ := by
    have h1 := hT.und w hi
    rw [hk] at h1
    rw [Instr.checkKey.eq_def]
    simp [h1]
  now := by
    obtain ⟨h1, _⟩ := hT kt i hi
    rw [hk] at h1
    refine ⟨_, h1, .inl fun a b _ _ => ?_⟩
    simp only [Instr.sameNow, Option.some.injEq]
    exact beq_str a b
  same a _ := by unfold Instr.sameBits; exact (beq_str a a).trans (by simp)
end
/-! A walk through a map's entries. -/
section
variable {α : Type} {enc : α → Value} {ok : α → Prop}
structure ItOk (enc : α → Value) (ok : α → Prop) (es : List MapEntry) (clock since c0 : Nat) (seen : Array Nat) (m rest : List (α × Value)) (cur : Option (α × Value)) : Prop where
  map : MapOk enc ok es clock m
  old : ∀ e ∈ es, e.born < since
  le : since ≤ c0
  sc : since ≤ clock
  oks : ∀ p ∈ rest, ok p.1
  left : (leftOf es.toArray seen).toList.map (fun e => (e.key, e.val)) = rest.map (fun p => (enc p.1, p.2))
  now : ∀ p, cur = some p → ∃ e ∈ es, ∃ s0 : Array Nat, seen = s0.push e.born ∧ c0 = clock ∧ e.key = enc p.1 ∧ e.val = p.2
def mapIt (enc : α → Value) (ok : α → Prop) (b it : Nat) (m rest : List (α × Value)) (cur : Option (α × Value)) : HProp := ex fun q : List MapEntry × Nat × Nat × Nat × Array Nat =>
  stars [pur (ItOk enc ok q.1 q.2.1 q.2.2.1 q.2.2.2.1 q.2.2.2.2 m rest cur), blk b (.map q.1.toArray q.2.1), blk it (.mapIter (some b) q.2.2.1 q.2.2.2.2 q.2.2.2.1)]
theorem Sat.it_open {E w : World} {b it : Nat} {m rest : List (α × Value)} {cur : Option (α × Value)} {r : List HProp} (s : Sat E (stars (mapIt enc ok b it m rest cur :: r)) w) :
    ∃ es clock since c0 seen, ItOk enc ok es clock since c0 seen m rest cur ∧ Sat E (stars (blk b (.map es.toArray clock) :: blk it (.mapIter (some b) since seen c0) :: r)) w := by
  obtain ⟨⟨es, clock, since, c0, seen⟩, s⟩ := s.ofex
  obtain ⟨h, s⟩ := Sat.ofpur (s.unfold)
  exact ⟨es, clock, since, c0, seen, h, s⟩
theorem Sat.it_shut {E w : World} {b it : Nat} {m rest : List (α × Value)} {cur : Option (α × Value)} {r : List HProp} {es : List MapEntry} {clock since c0 : Nat} {seen : Array Nat} (h : ItOk enc ok es clock since c0 seen m rest cur)
    (s : Sat E (stars (blk b (.map es.toArray clock) :: blk it (.mapIter (some b) since seen c0) :: r)) w) : Sat E (stars (mapIt enc ok b it m rest cur :: r)) w :=
  Sat.toex (es, clock, since, c0, seen) (Sat.fold (m := [pur (ItOk enc ok es clock since c0 seen m rest cur), blk b (.map es.toArray clock), blk it (.mapIter (some b) since seen c0)]) (Sat.topur h s))
/-- The walk is over: the map is as it was. -/
theorem Sat.it_end {E w : World} {b it : Nat} {m rest : List (α × Value)} {cur : Option (α × Value)} {r : List HProp} (s : Sat E (stars (mapIt enc ok b it m rest cur :: r)) w) : Sat E (stars (mapA enc ok b m :: r)) w := by
  obtain ⟨es, clock, since, c0, seen, h, s⟩ := s.it_open
  exact Sat.map_shut h.map ((s.pick (Pick.tail Pick.head)).drop)
theorem map_split {β γ : Type} {f : β → γ} {g : α → γ} {L : List β} {R : List α} (h : L.map f = R.map g) {l1 : List β} {e : β} {l2 : List β} (he : L = l1 ++ e :: l2) : ∃ r1 x r2, R = r1 ++ x :: r2 ∧ l1.map f = r1.map g ∧ f e = g x ∧ l2.map f = r2.map g := by
  subst he
  rw [List.map_append, List.map_cons] at h
  obtain ⟨r1, r', h1, h2, h3⟩ := List.map_eq_append_iff.1 h.symm
  obtain ⟨x, r2, h4, h5, h6⟩ := List.map_eq_cons_iff.1 h3
  exact ⟨r1, x, r2, by rw [h1, h4], h2.symm, h5.symm, h6.symm⟩
/-- One entry fewer is left. -/
theorem left_push {es : List MapEntry} {seen : Array Nat} {e : MapEntry} (hinc : (es.map (·.born)).Pairwise (· < ·)) (he : e ∈ (leftOf es.toArray seen).toList) :
    ∃ l1 l2, (leftOf es.toArray seen).toList = l1 ++ e :: l2 ∧ (leftOf es.toArray (seen.push e.born)).toList = l1 ++ l2 := by
  have e1 : ∀ s : Array Nat, (leftOf es.toArray s).toList = es.filter fun e => !s.contains e.born := fun s => by unfold leftOf; simp
  rw [e1] at he ⊢
  rw [e1]
  obtain ⟨l1, l2, hl⟩ := List.append_of_mem he
  refine ⟨l1, l2, hl, ?_⟩
  have e2 : (es.filter fun x => !(seen.push e.born).contains x.born) = (es.filter fun x => !seen.contains x.born).filter fun x => !(x.born == e.born) := by
    rw [List.filter_filter]
    congr 1
    funext x
    rw [contains_push, Bool.not_or, Bool.and_comm]
  have hp : ((l1 ++ e :: l2).map (·.born)).Pairwise (· < ·) := by
    rw [← hl]
    exact hinc.sublist (List.filter_sublist.map _)
  rw [e2, hl, List.filter_append, List.filter_cons]
  rw [List.map_append, List.map_cons, List.pairwise_append] at hp
  obtain ⟨h1, h2, h3⟩ := hp
  rw [List.pairwise_cons] at h2
  have a1 : l1.filter (fun x => !(x.born == e.born)) = l1 := List.filter_eq_self.2 fun x hx => by
    have := h3 x.born (List.mem_map.2 ⟨x, hx, rfl⟩) e.born (by simp)
    simp; omega
  have a2 : l2.filter (fun x => !(x.born == e.born)) = l2 := List.filter_eq_self.2 fun x hx => by
    have := h2.1 x.born (List.mem_map.2 ⟨x, hx, rfl⟩)
    simp; omega
  rw [a1, a2]
  simp
end
section
variable {α : Type} {enc : α → Value} {ok : α → Prop}
variable {P : Program} {E : World} {n : Nat} {ds : List Deferred} {env : Fr} {l r : List HProp} {T : Tab} {N : Fr → List HProp → Prop}
variable {d : Tmp} {dst : Option Tmp} {ty : TypeId} {pos : String} {af : Array Edge} {gd : Option (Nat × Bool)} {x y z : Operand} {v u zv : Value} {t t' kt et : TypeId}
theorem l_rangeMap {i : TI} {b : Nat} {m : List (α × Value)} (hT : Tok P T) (hi : T.at t = some i) (hk : i.u = .map kt et) (hx : val env x = some (.map (some b))) (hp : Pick l (mapA enc ok b m) r) (hn : Nat.blt d n = true)
    (h : ∀ it, N ((d, .pointer (some ⟨it, 0, none⟩)) :: env) (mapIt enc ok b it m m none :: r)) : LS P E n ds ⟨some d, .range t x, ty, pos, af, gd⟩ env l N :=
  LS.of hn rfl fun ac w hf hs => by
    obtain ⟨es, clock, hm, s⟩ := (hs.pick hp).map_open
    have hb := s.block
    obtain ⟨hu, _⟩ := hT t i hi
    rw [hk] at hu
    have hrun := run_range_map w t kt et b es.toArray clock hu hb
    refine ⟨_, w.alloc (.mapIter (some b) clock #[] clock), _, ?_, ?_, h w.heap.size⟩
    · simp only [execOp, hf.eval hx]
      simp [hrun]
    · have s2 := s.alloc (.mapIter (some b) clock #[] clock)
      refine Sat.it_shut (es := es) (clock := clock) (since := clock) (c0 := clock) (seen := #[]) ⟨hm, hm.born, Nat.le_refl _, Nat.le_refl _, hm.oks, ?_, fun p hp => by cases hp⟩ (s2.pick (Pick.tail Pick.head))
      have e1 : (leftOf es.toArray #[]).toList = es := by unfold leftOf; simp
      rw [e1]
      exact hm.kv
theorem l_nextMap {b it : Nat} {m rest : List (α × Value)} {cur : Option (α × Value)} (hx : val env x = some (.pointer (some ⟨it, 0, none⟩))) (hp : Pick l (mapIt enc ok b it m rest cur) r) (hn : Nat.blt d n = true)
    (h0 : rest = [] → N ((d, .tuple #[.bool false]) :: env) (mapIt enc ok b it m [] cur :: r))
    (h1 : ∀ r1 a v r2, rest = r1 ++ (a, v) :: r2 → ok a → N ((d, .tuple #[.bool true, enc a, v]) :: env) (mapIt enc ok b it m (r1 ++ r2) (some (a, v)) :: r)) : LS P E n ds ⟨some d, .next x false, ty, pos, af, gd⟩ env l N :=
  LS.of hn rfl fun ac w hf hs => by
    obtain ⟨es, clock, since, c0, seen, hk, s⟩ := (hs.pick hp).it_open
    have hb := s.block
    have hr := (s.pick (Pick.tail Pick.head)).block
    rcases run_next_at (P := P) w ty it b since c0 seen es.toArray clock hr hb (by simpa using hk.old) hk.le with ⟨hz, hrun⟩ | ⟨e, he, w1, hw, hrun⟩
    · have hre : rest = [] := by
        have hl := hk.left
        rw [Array.eq_empty_of_size_eq_zero hz] at hl
        exact List.map_eq_nil_iff.1 hl.symm
      subst hre
      refine ⟨_, w, _, ?_, Sat.it_shut hk s, h0 rfl⟩
      simp only [execOp, hf.eval hx]
      simp [hrun]
    · obtain ⟨l1, l2, e1, e2⟩ := left_push hk.map.inc he
      obtain ⟨r1, ⟨a, u⟩, r2, f1, f2, f3, f4⟩ := map_split hk.left e1
      simp only [Prod.mk.injEq] at f3
      have hes : e ∈ es := by
        have := (mem_left he).1
        simpa using this
      have hoa : ok a := hk.oks (a, u) (by rw [f1]; simp)
      refine ⟨_, ChangeMaps.setBlock w1 it (.mapIter (some b) since (seen.push e.born) clock), _, ?_, ?_, h1 r1 a u r2 f1 hoa⟩
      · simp only [execOp, hf.eval hx]
        simp [hrun, f3.1, f3.2]
      · have s1 : Sat E (stars (blk it (.mapIter (some b) since seen c0) :: blk b (.map es.toArray clock) :: r)) w1 := by
          have q := s.pick (Pick.tail Pick.head)
          rcases hw with rfl | rfl
          · exact q
          · exact q.drew
        have s2 := s1.setBlock (.mapIter (some b) since (seen.push e.born) clock)
        refine Sat.it_shut ⟨hk.map, hk.old, hk.sc, hk.sc, fun p hp => hk.oks p (by rw [f1]; rcases List.mem_append.1 hp with q | q <;> simp [q]), ?_, fun p hp => ?_⟩ (s2.pick (Pick.tail Pick.head))
        · rw [e2, List.map_append, List.map_append, f2, f4]
        · simp only [Option.some.injEq] at hp
          subst hp
          exact ⟨e, hes, seen, rfl, rfl, f3.1, f3.2⟩
theorem y_entry {b it : Nat} {m rest : List (α × Value)} {a : α} (hx : val env x = some (.pointer (some ⟨it, 0, none⟩))) (hp : Pick l (mapIt enc ok b it m rest (some (a, v))) r) : Y P E n ds ⟨dst, .entry x, ty, pos, af, gd⟩ env l (.tuple #[enc a, v]) :=
  Y.of fun ac w hf hs => by
    obtain ⟨es, clock, since, c0, seen, hk, s⟩ := (hs.pick hp).it_open
    have hb := s.block
    have hr := (s.pick (Pick.tail Pick.head)).block
    obtain ⟨e, he, s0, rfl, rfl, h3, h4⟩ := hk.now (a, v) rfl
    have hnd : (es.toArray.toList.map (·.born)).Nodup := by
      have := hk.map.inc
      exact this.imp fun h => Nat.ne_of_lt h
    have h5 := run_entry_at (P := P) w it b since s0 es.toArray c0 e hr hb (by simpa using he) hnd
    simp only [execOp, hf.eval hx]
    simp [h5, h3, h4]
end
end Go.SL
namespace Go.SL
open Go Go.RowKit
section
variable {P : Program} {E : World} {n : Nat} {ds : List Deferred} {env : Fr} {l : List HProp} {T : Tab} {N : Fr → List HProp → Prop}
variable {d : Tmp} {ty : TypeId} {pos : String} {af : Array Edge} {gd : Option (Nat × Bool)} {f : FuncId}
theorem Y.cast {o : Oper} {v u : Value} (h : Y P E n ds o env l v) (e : v = u) : Y P E n ds o env l u := e ▸ h
/-- A call of a function without a body, that answers at once. -/
theorem l_callE {xs : List Operand} {us : List Value} {ts : Array TypeId} (hx : vals env xs = some us) (hn : Nat.blt d n = true)
    (h : ∀ w, Sat E (stars l) w → ∃ v w' l', (callFunc f us.toArray).run P w = .ok (.value v) w' ∧ Sat E (stars l') w' ∧ N ((d, v) :: env) l') :
    LS P E n ds ⟨some d, .call ⟨.value (.func f), xs.toArray, ts⟩, ty, pos, af, gd⟩ env l N :=
  LS.of hn rfl fun a w hfr hs => by
    obtain ⟨v, w', l', h1, h2, h3⟩ := h w hs
    refine ⟨v, w', l', ?_, h2, h3⟩
    have e3 : Array.map a.eval xs.toArray = us.toArray := by rw [← hfr.evals hx]; simp
    have e4 : a.eval (.func f) = .func (.func f) #[] #[] := rfl
    simp only [execOp, resolve, e3, e4, Deferred.ofValue, Sem.run_bind, Sem.run_pure, Result.andThen_ok, invoke]
    simp [h1]
theorem l_makeNoZero (hT : Tok P T) {fn : Func} {x : Operand} {ts : Array TypeId} {i : TI} {e pt rt : TypeId} {m : Nat} (hf : P.funcs[f]? = some fn) (h1 : (fn.name == "runtime.NumGoroutine") = false) (h2 : fn.body.isNone = true) (h3 : Extern.findNext fn = none) (h4 : Extern.find fn = some (Extern.BytealgMakeNoZero.makeNoZero #[pt] #[rt]))
    (hi : T.at rt = some i) (hk : i.u = .slice e) (hx : val env x = some (.int .i64 m)) (hm : m ≤ 281474976710656) (hn : Nat.blt d n = true)
    (h : ∀ b cs, m ≤ cs.length → cs.length ≤ maxLen → N ((d, .slice (some ⟨b, 0, none⟩) m cs.length) :: env) (row b e cs :: l)) :
    LS P E n ds ⟨some d, .call ⟨.value (.func f), #[x], ts⟩, ty, pos, af, gd⟩ env l N :=
  l_callE (xs := [x]) (us := [.int .i64 m]) (by simp [vals, hx]) hn fun w hs => by
    obtain ⟨hu, _⟩ := hT rt i hi
    rw [hk] at hu
    obtain ⟨cs, hrun, hle, hmax⟩ := Lib.run_makeNoZero (P := P) w #[pt] rt e hu m hm
    refine ⟨.slice (some ⟨w.heap.size, 0, none⟩) m cs.size, w.drew.drew.alloc (.cells cs e), blk w.heap.size (.cells cs e) :: l, ?_, hs.drew.drew.alloc (.cells cs e), ?_⟩
    · rw [run_callFunc_extern hf h1 h2 h3 h4]
      show ((Extern.BytealgMakeNoZero.makeNoZero #[pt] #[rt] #[.int .i64 m]).run P w).andThen _ = _
      rw [hrun]
      rfl
    · exact h w.heap.size cs.toList (by simpa using hle) (by simpa using hmax (by unfold maxLen; omega))
end
end Go.SL
namespace Go.SL
open Go Go.RowKit
section
variable {α : Type} [Inhabited α]
/-- The elements of an array in a block's first cells. -/
def arr (g : Nat) (e : TypeId) (enc : α → List Value) (d : Array α) (sp : List Value) : HProp := row g e (d.toList.flatMap enc ++ sp)
theorem arr_off {x : Int} {s k j : Nat} (hs : s = k) (hx : x.toNat = j) : 0 + x.toNat * s = j * k := by rw [hs, hx, Nat.zero_add]
theorem arr_at {d : Array α} {i : Nat} (hi : i < d.size) : d.toList[i]? = some d[i]! := by
  rw [Array.getElem?_toList, Array.getElem?_eq_getElem hi, getElem!_pos d i hi]
theorem RdN.arr {l r : List HProp} {g k i o : Nat} {e : TypeId} {enc : α → List Value} {d : Array α} {sp : List Value} (p : Pick l (arr g e enc d sp) r) (hk : ∀ x, (enc x).length = k) (hi : i < d.size) (ho : o = i * k) : RdN l g o (enc d[i]!) := by
  subst ho
  exact RdN.row (n := k) p (seg_get (fun x _ => hk x) (arr_at hi))
theorem Rd1.arr {l r : List HProp} {g i o : Nat} {e : TypeId} {ev : α → Value} {d : Array α} {sp : List Value} (p : Pick l (arr g e (fun x => [ev x]) d sp) r) (hi : i < d.size) (ho : o = i * 1) : Rd1 l g o (ev d[i]!) := by
  have h := RdN.arr (k := 1) p (fun _ => rfl) hi (o := o) ho
  have h := h 0 _ rfl
  exact h
section
variable {P : Program} {E : World} {n : Nat} {ds : List Deferred} {env : Fr} {l r : List HProp} {T : Tab} {N : Fr → List HProp → Prop}
variable {ty : TypeId} {pos : String} {af : Array Edge} {gd : Option (Nat × Bool)} {x y : Operand} {t : TypeId}
omit [Inhabited α] in
theorem arr_len {d : Array α} {enc : α → List Value} {k : Nat} (hk : ∀ x, (enc x).length = k) : (d.toList.flatMap enc).length = d.size * k := by rw [seg_len fun x _ => hk x, Array.length_toList]
omit [Inhabited α] in
theorem l_storeArrN (hT : Tok P T) {i : TI} {g o j k : Nat} {e : TypeId} {enc : α → List Value} {d : Array α} {sp : List Value} {u : α} (hi : T.at t = some i) (hx : val env x = some (.pointer (some ⟨g, o, none⟩))) (hy : val env y = some (.agg (enc u).toArray)) (hk : ∀ x, (enc x).length = k) (hvs : k = i.size) (hv : ∀ x, ∀ v ∈ enc x, v.oneCell' = true)
    (hp : Pick l (arr g e enc d sp) r) (hj : j < d.size) (ho : o = j * k) (h : N env (arr g e enc (d.setIfInBounds j u) sp :: r)) :
    LS P E n ds ⟨none, .store t x y, ty, pos, af, gd⟩ env l N := by
  subst ho
  have hl : (d.toList.flatMap enc).length = d.size * k := arr_len hk
  have hle : j * k + k ≤ d.size * k := by rw [← Nat.succ_mul]; exact Nat.mul_le_mul_right k hj
  refine l_storeN hT hi hx hy (by rw [hk]; exact hvs) (hv u) hp (by rw [List.length_append, hl, hk]; omega) ?_
  have e1 := seg_set (sp := sp) (fun x (_ : x ∈ d.toList) => hk x) (i := j) (y := u) (by simpa using hj)
  rw [hk, e1, ← Array.toList_setIfInBounds]
  exact h
omit [Inhabited α] in
theorem l_storeArr (hT : Tok P T) {i : TI} {g o j : Nat} {e : TypeId} {ev : α → Value} {d : Array α} {sp : List Value} {u : α} (hi : T.at t = some i) (hs1 : i.size = 1) (hx : val env x = some (.pointer (some ⟨g, o, none⟩))) (hy : val env y = some (ev u)) (hv : ∀ x, (ev x).oneCell' = true)
    (hp : Pick l (arr g e (fun x => [ev x]) d sp) r) (hj : j < d.size) (ho : o = j * 1) (h : N env (arr g e (fun x => [ev x]) (d.setIfInBounds j u) sp :: r)) :
    LS P E n ds ⟨none, .store t x y, ty, pos, af, gd⟩ env l N := by
  rw [Nat.mul_one] at ho
  subst ho
  have hl : (d.toList.flatMap fun x => [ev x]).length = d.size * 1 := arr_len fun _ => rfl
  refine l_store1 hT hi hs1 hx hy (hv u) hp (by rw [List.length_append, hl]; omega) ?_
  have e1 : (d.toList.flatMap (fun x => [ev x]) ++ sp).set o (ev u) = (d.setIfInBounds o u).toList.flatMap (fun x => [ev x]) ++ sp := by
    rw [List.set_append_left _ _ (by rw [hl]; omega), Array.toList_setIfInBounds]
    congr 1
    rw [← List.map_eq_flatMap, ← List.map_eq_flatMap, List.map_set]
  rw [e1]
  exact h
end
end
/-! Plain laws of the sort, in the shape that the walks want. -/
section
variable {α : Type} [Inhabited α] {lt : α → α → Bool}
theorem swp_size (d : Array α) (i j : Nat) : (Sort.swp d i j).size = d.size := by simp [Sort.swp]
theorem insOuter_lt {a b i : Nat} {d : Array α} (h : i < b) : Sort.insOuter lt a b i d = Sort.insOuter lt a b (i + 1) (Sort.insInner lt a i d) := by rw [Sort.insOuter, if_pos h]
theorem insOuter_ge {a b i : Nat} {d : Array α} (h : ¬ i < b) : Sort.insOuter lt a b i d = d := by rw [Sort.insOuter, if_neg h]
theorem insInner_go {a j : Nat} {d : Array α} (h1 : a < j) (h2 : lt d[j]! d[j - 1]! = true) : Sort.insInner lt a j d = Sort.insInner lt a (j - 1) (Sort.swp d j (j - 1)) := by
  obtain ⟨k, rfl⟩ : ∃ k, j = k + 1 := ⟨j - 1, by omega⟩
  rw [Nat.add_sub_cancel] at h2 ⊢
  rw [Sort.insInner, if_pos (by simp [h1, h2])]
theorem insInner_stop {a j : Nat} {d : Array α} (h : j ≤ a ∨ lt d[j]! d[j - 1]! = false) : Sort.insInner lt a j d = d := by
  cases j with
  | zero => rfl
  | succ k =>
    rw [Nat.add_sub_cancel] at h
    rw [Sort.insInner, if_neg]
    rcases h with h | h
    · simp; omega
    · simp [h]
theorem reverseLoop_lt {i j : Nat} {d : Array α} (h : i < j) : Sort.reverseLoop i j d = Sort.reverseLoop (i + 1) (j - 1) (Sort.swp d i j) := by rw [Sort.reverseLoop, if_pos h]
theorem reverseLoop_ge {i j : Nat} {d : Array α} (h : ¬ i < j) : Sort.reverseLoop i j d = d := by rw [Sort.reverseLoop, if_neg h]
/-- The greater one of a heap's two children. -/
def sdChild (lt : α → α → Bool) (hi first root : Nat) (d : Array α) : Nat := if 2 * root + 1 + 1 < hi ∧ lt d[first + (2 * root + 1)]! d[first + (2 * root + 1) + 1]! = true then 2 * root + 2 else 2 * root + 1
theorem siftDown_stop {hi first root : Nat} {d : Array α} (h : hi ≤ 2 * root + 1) : Sort.siftDown lt hi first root d = d := by rw [Sort.siftDown, dif_pos h]
theorem siftDown_eq {hi first root : Nat} {d : Array α} (h : ¬ hi ≤ 2 * root + 1) : Sort.siftDown lt hi first root d = if lt d[first + root]! d[first + sdChild lt hi first root d]! = true then Sort.siftDown lt hi first (sdChild lt hi first root d) (Sort.swp d (first + root) (first + sdChild lt hi first root d)) else d := by
  rw [Sort.siftDown, dif_neg h]
  unfold sdChild
  by_cases hc : 2 * root + 1 + 1 < hi ∧ lt d[first + (2 * root + 1)]! d[first + (2 * root + 1) + 1]! = true
  · rw [if_pos (by simpa using hc), if_pos hc]
    cases hl : lt d[first + root]! d[first + (2 * root + 2)]! with
    | true => rw [if_neg (by simp), dif_pos (by omega), if_pos rfl]
    | false => rw [if_pos (by simp), if_neg (by simp)]
  · rw [if_neg (by simpa using hc), if_neg hc]
    cases hl : lt d[first + root]! d[first + (2 * root + 1)]! with
    | true => rw [if_neg (by simp), if_pos rfl]
    | false => rw [if_pos (by simp), if_neg (by simp)]
theorem scanUp_go {p : α → Bool} {d : Array α} {j i : Nat} (h1 : i ≤ j) (h2 : p d[i]! = true) : Sort.scanUp p d j i = Sort.scanUp p d j (i + 1) := by
  conv => lhs; rw [Sort.scanUp]
  rw [if_pos (by simp [h1, h2])]
theorem scanUp_stop {p : α → Bool} {d : Array α} {j i : Nat} (h : ¬ i ≤ j ∨ p d[i]! = false) : Sort.scanUp p d j i = i := by
  rw [Sort.scanUp, if_neg]
  rcases h with h | h
  · simp; omega
  · simp [h]
theorem scanDown_go {p : α → Bool} {d : Array α} {i j : Nat} (h1 : i ≤ j) (h0 : 0 < j) (h2 : p d[j]! = true) : Sort.scanDown p d i j = Sort.scanDown p d i (j - 1) := by
  obtain ⟨k, rfl⟩ : ∃ k, j = k + 1 := ⟨j - 1, by omega⟩
  rw [Nat.add_sub_cancel, Sort.scanDown, if_pos (by simp [h1, h2])]
theorem scanDown_stop {p : α → Bool} {d : Array α} {i j : Nat} (h : ¬ i ≤ j ∨ p d[j]! = false) : Sort.scanDown p d i j = j := by
  cases j with
  | zero => rfl
  | succ k =>
    rw [Sort.scanDown, if_neg]
    rcases h with h | h
    · simp; omega
    · simp [h]
theorem scanSorted_go {d : Array α} {b i : Nat} (h1 : i < b) (h2 : lt d[i]! d[i - 1]! = false) : Sort.scanSorted lt d b i = Sort.scanSorted lt d b (i + 1) := by
  conv => lhs; rw [Sort.scanSorted]
  rw [if_pos (by simp [h1, h2])]
theorem scanSorted_stop {d : Array α} {b i : Nat} (h : ¬ i < b ∨ lt d[i]! d[i - 1]! = true) : Sort.scanSorted lt d b i = i := by
  rw [Sort.scanSorted, if_neg]
  rcases h with h | h
  · simp; omega
  · simp [h]
theorem shiftDown_go {j : Nat} {d : Array α} (h0 : 0 < j) (h : lt d[j]! d[j - 1]! = true) : Sort.shiftDown lt j d = Sort.shiftDown lt (j - 1) (Sort.swp d j (j - 1)) := by
  obtain ⟨k, rfl⟩ : ∃ k, j = k + 1 := ⟨j - 1, by omega⟩
  rw [Nat.add_sub_cancel] at h ⊢
  rw [Sort.shiftDown, if_neg (by simp [h])]
theorem shiftDown_stop {j : Nat} {d : Array α} (h : j = 0 ∨ lt d[j]! d[j - 1]! = false) : Sort.shiftDown lt j d = d := by
  cases j with
  | zero => rfl
  | succ k =>
    rw [Nat.add_sub_cancel] at h
    rcases h with h | h
    · omega
    · rw [Sort.shiftDown, if_pos (by simp [h])]
theorem shiftUp_go {b j : Nat} {d : Array α} (h1 : j < b) (h : lt d[j]! d[j - 1]! = true) : Sort.shiftUp lt b j d = Sort.shiftUp lt b (j + 1) (Sort.swp d j (j - 1)) := by
  rw [Sort.shiftUp, if_pos h1, if_neg (by simp [h])]
theorem shiftUp_stop {b j : Nat} {d : Array α} (h : ¬ j < b ∨ lt d[j]! d[j - 1]! = false) : Sort.shiftUp lt b j d = d := by
  rw [Sort.shiftUp]
  split
  · rcases h with h | h
    · omega
    · rw [if_pos (by simp [h])]
  · rfl
theorem quo_nat {i : Int} {x k : Nat} (hi : i = x) (hx : x < 9223372036854775808) : IntKind.i64.wrap (i.tdiv (k : Int)) = ((x / k : Nat) : Int) := by
  subst hi
  have e : ((x : Nat) : Int).tdiv (k : Int) = ((x / k : Nat) : Int) := rfl
  rw [e]
  have := Nat.div_le_self x k
  generalize x / k = q at *
  exact wrap_i64 (by omega) (by omega)
theorem siftDown_size' (hi first : Nat) : ∀ (m root : Nat) (d : Array α), hi - root ≤ m → (Sort.siftDown lt hi first root d).size = d.size := by
  intro m
  induction m with
  | zero => intro root d hm; rw [siftDown_stop (by omega)]
  | succ m ih =>
    intro root d hm
    by_cases h : hi ≤ 2 * root + 1
    · rw [siftDown_stop h]
    · rw [siftDown_eq h]
      split
      · rw [ih _ _ (by unfold sdChild; split <;> omega), swp_size]
      · rfl
theorem siftDown_size {hi first root : Nat} {d : Array α} : (Sort.siftDown lt hi first root d).size = d.size := siftDown_size' hi first _ root d (Nat.le_refl _)
theorem partition_eq (d : Array α) (a b p : Nat) : Sort.partition lt d a b p = if Sort.scanUp (fun x => lt x (Sort.swp d a p)[a]!) (Sort.swp d a p) (b - 1) (a + 1) > Sort.scanDown (fun x => !lt x (Sort.swp d a p)[a]!) (Sort.swp d a p) (Sort.scanUp (fun x => lt x (Sort.swp d a p)[a]!) (Sort.swp d a p) (b - 1) (a + 1)) (b - 1) then (Sort.scanDown (fun x => !lt x (Sort.swp d a p)[a]!) (Sort.swp d a p) (Sort.scanUp (fun x => lt x (Sort.swp d a p)[a]!) (Sort.swp d a p) (b - 1) (a + 1)) (b - 1), true, Sort.swp (Sort.swp d a p) (Sort.scanDown (fun x => !lt x (Sort.swp d a p)[a]!) (Sort.swp d a p) (Sort.scanUp (fun x => lt x (Sort.swp d a p)[a]!) (Sort.swp d a p) (b - 1) (a + 1)) (b - 1)) a) else
    ((Sort.partLoop lt a (Sort.scanUp (fun x => lt x (Sort.swp d a p)[a]!) (Sort.swp d a p) (b - 1) (a + 1) + 1) (Sort.scanDown (fun x => !lt x (Sort.swp d a p)[a]!) (Sort.swp d a p) (Sort.scanUp (fun x => lt x (Sort.swp d a p)[a]!) (Sort.swp d a p) (b - 1) (a + 1)) (b - 1) - 1) (Sort.swp (Sort.swp d a p) (Sort.scanUp (fun x => lt x (Sort.swp d a p)[a]!) (Sort.swp d a p) (b - 1) (a + 1)) (Sort.scanDown (fun x => !lt x (Sort.swp d a p)[a]!) (Sort.swp d a p) (Sort.scanUp (fun x => lt x (Sort.swp d a p)[a]!) (Sort.swp d a p) (b - 1) (a + 1)) (b - 1)))).1, false,
      Sort.swp (Sort.partLoop lt a (Sort.scanUp (fun x => lt x (Sort.swp d a p)[a]!) (Sort.swp d a p) (b - 1) (a + 1) + 1) (Sort.scanDown (fun x => !lt x (Sort.swp d a p)[a]!) (Sort.swp d a p) (Sort.scanUp (fun x => lt x (Sort.swp d a p)[a]!) (Sort.swp d a p) (b - 1) (a + 1)) (b - 1) - 1) (Sort.swp (Sort.swp d a p) (Sort.scanUp (fun x => lt x (Sort.swp d a p)[a]!) (Sort.swp d a p) (b - 1) (a + 1)) (Sort.scanDown (fun x => !lt x (Sort.swp d a p)[a]!) (Sort.swp d a p) (Sort.scanUp (fun x => lt x (Sort.swp d a p)[a]!) (Sort.swp d a p) (b - 1) (a + 1)) (b - 1)))).2 (Sort.partLoop lt a (Sort.scanUp (fun x => lt x (Sort.swp d a p)[a]!) (Sort.swp d a p) (b - 1) (a + 1) + 1) (Sort.scanDown (fun x => !lt x (Sort.swp d a p)[a]!) (Sort.swp d a p) (Sort.scanUp (fun x => lt x (Sort.swp d a p)[a]!) (Sort.swp d a p) (b - 1) (a + 1)) (b - 1) - 1) (Sort.swp (Sort.swp d a p) (Sort.scanUp (fun x => lt x (Sort.swp d a p)[a]!) (Sort.swp d a p) (b - 1) (a + 1)) (Sort.scanDown (fun x => !lt x (Sort.swp d a p)[a]!) (Sort.swp d a p) (Sort.scanUp (fun x => lt x (Sort.swp d a p)[a]!) (Sort.swp d a p) (b - 1) (a + 1)) (b - 1)))).1 a) := rfl
end
section
variable {P : Program} {E : World} {n : Nat} {ds : List Deferred} {env : Fr} {l r : List HProp} {T : Tab}
variable {dst : Option Tmp} {ty : TypeId} {pos : String} {af : Array Edge} {gd : Option (Nat × Bool)} {x y : Operand} {t : TypeId}
theorem y_index_len8 (hT : Tok P T) {d : TI} {k : IntKind} {i : Int} (hd : T.at t = some d) (hk : d.u = .string) (hx : val env x = some (.string Lib.len8tab)) (hy : val env y = some (.int k i)) (h0 : 0 ≤ i) (h1 : i ≤ 255) :
    Y P E n ds ⟨dst, .index t x y, ty, pos, af, gd⟩ env l (.int .u8 (Lib.len8 i)) :=
  Y.of fun a w hfr _ => by
    obtain ⟨hu, _⟩ := hT t d hd
    rw [hk] at hu
    have g := Lib.run_index_len8tab (P := P) (w := w) t k i hu h0 h1
    simp [execOp, hfr.eval hx, hfr.eval hy, g]
theorem len8_all : ∀ j : Fin 256, 0 ≤ Lib.len8 (j.val : Int) ∧ Lib.len8 (j.val : Int) ≤ 8 ∧ (1 ≤ j.val → 2 ^ (Lib.len8 (j.val : Int)).toNat ≤ 2 * j.val) := by decide +kernel
theorem len8_at {i : Nat} (hi : i < 256) : ∃ k : Nat, Lib.len8 (i : Int) = k ∧ k ≤ 8 ∧ (1 ≤ i → 2 ^ k ≤ 2 * i) := by
  obtain ⟨h1, h2, h3⟩ := len8_all ⟨i, hi⟩
  dsimp only at h1 h2 h3
  exact ⟨(Lib.len8 (i : Int)).toNat, by omega, by omega, h3⟩
theorem shr_nat {i : Int} {x k : Nat} (hi : i = x) (hk : k ≤ 64) : i.fdiv (2 ^ (min ((k : Int)).toNat IntKind.u64.bits)) = ((x / 2 ^ k : Nat) : Int) := by
  subst hi
  have e : min ((k : Int)).toNat IntKind.u64.bits = k := by simp only [IntKind.bits, Int.toNat_natCast]; omega
  rw [e, Int.fdiv_eq_ediv_of_nonneg _ (by exact_mod_cast Nat.zero_le _)]
  simp
end
theorem shift_down {y k x j : Nat} (h : y * 2 ^ k ≤ x) : y / 2 ^ j * 2 ^ (k + j) ≤ x := by
  rw [Nat.add_comm, Nat.pow_add, ← Nat.mul_assoc]
  exact Nat.le_trans (Nat.mul_le_mul_right _ (Nat.div_mul_le_self y (2 ^ j))) h
theorem pow_len {y k t x : Nat} (h : y * 2 ^ k ≤ x) (ht : 2 ^ t ≤ 2 * y) : 2 ^ (k + t) ≤ 2 * x := by
  rw [Nat.pow_add, Nat.mul_comm]
  have h1 : 2 ^ t * 2 ^ k ≤ 2 * y * 2 ^ k := Nat.mul_le_mul_right _ ht
  have h2 : 2 * y * 2 ^ k = 2 * (y * 2 ^ k) := Nat.mul_assoc _ _ _
  omega
theorem pow_small {k : Nat} (h : 2 ^ k < 18446744073709551616) : k < 64 := by
  rcases Nat.lt_or_ge k 64 with q | q
  · exact q
  · have := Nat.pow_le_pow_right (n := 2) (by omega) q
    omega
theorem wrap_u8n {x : Nat} (h : x < 256) : IntKind.u8.wrap (x : Int) = x := by
  have : IntKind.u8.wrap (x : Int) = (x : Int) % 256 := by simp [IntKind.wrap, IntKind.bits, IntKind.signed]
  omega
theorem wrap_u64n {x : Nat} (h : x < 18446744073709551616) : IntKind.u64.wrap (x : Int) = x := by
  have : IntKind.u64.wrap (x : Int) = (x : Int) % 18446744073709551616 := by simp [IntKind.wrap, IntKind.bits, IntKind.signed]
  omega
theorem shl_one {k : Nat} (hk : k < 64) : IntKind.u64.wrap (1 * 2 ^ (min ((k : Int)).toNat IntKind.u64.bits)) = ((2 ^ k : Nat) : Int) := by
  have e : min ((k : Int)).toNat IntKind.u64.bits = k := by simp only [IntKind.bits, Int.toNat_natCast]; omega
  have h2 := Nat.pow_lt_pow_right (a := 2) (by omega) hk
  rw [e, show (1 : Int) * 2 ^ k = ((2 ^ k : Nat) : Int) by simp]
  exact wrap_u64n (by simpa using h2)
theorem and_nat {z : BitVec 64} {k : Nat} (hk : k < 18446744073709551616) : bitsE .and .u64 (z.toNat : Int) (k : Int) = some ((z.toNat &&& k : Nat) : Int) := by
  show some (IntKind.u64.wrap ((BitVec.ofInt 64 (z.toNat : Int) &&& BitVec.ofInt 64 (k : Int)).toNat : Int)) = _
  have e1 : BitVec.ofInt 64 (z.toNat : Int) = z := by
    apply BitVec.eq_of_toNat_eq
    rw [BitVec.toNat_ofInt]
    have := z.isLt
    omega
  have e2 : BitVec.ofInt 64 (k : Int) = BitVec.ofNat 64 k := by
    apply BitVec.eq_of_toNat_eq
    rw [BitVec.toNat_ofInt, BitVec.toNat_ofNat]
    omega
  rw [e1, e2, BitVec.toNat_and, BitVec.toNat_ofNat, Nat.mod_eq_of_lt (by omega), wrap_u64n (by
    have := @Nat.and_le_right z.toNat k
    omega)]
theorem wrap_and {x k : Nat} (hk : k < 9223372036854775808) : IntKind.i64.wrap ((x &&& k : Nat) : Int) = ((x &&& k : Nat) : Int) := by
  have := @Nat.and_le_right x k
  generalize x &&& k = q at *
  exact wrap_i64 (by omega) (by omega)
section
variable {P : Program} {E : World} {l : List HProp} {R : Value → List HProp → Prop}
theorem Fc.owns {f : FuncId} {args : Array Value} {e size m : Nat} {v : Value} {xs : List Value}
    (h1 : v = .slice none 0 0 → m = 0 → xs = [] → Fc P E f args l R)
    (h2 : ∀ g cap sp, v = .slice (some ⟨g, 0, none⟩) m cap → m ≤ cap → cap ≤ maxLen → xs.length = m * size → (xs ++ sp).length = cap * size → Fc P E f args (row g e (xs ++ sp) :: l) R) :
    Fc P E f args (own e size v m xs :: l) R := fun w hs => by
  obtain ⟨hl, ⟨e1, e2, e3, s⟩ | ⟨g, cap, cur, e1, c1, c2, c3, c4, s⟩⟩ := hs.own_open
  · exact h1 e1 e2 e3 w s
  · have e5 : cur = xs ++ cur.drop (m * size) := by rw [← c4, List.take_append_drop]
    refine h2 g cap (cur.drop (m * size)) e1 c1 c2 hl (by rw [← e5]; exact c3) w ?_
    rw [← e5]
    exact s
end
section
variable {α : Type} [Inhabited α] {lt : α → α → Bool}
theorem perm_in {n : Nat} {d d' : Array α} (hn : d.size = n) (h : Sort.PermIn 0 n d d') : d'.toList.Perm d.toList := by
  have h3 := h.2.2
  have e1 : d.extract 0 n = d := by rw [← hn]; exact Array.extract_size
  have e2 : d'.extract 0 n = d' := by rw [← hn, ← h.1]; exact Array.extract_size
  rw [e1, e2] at h3
  exact h3
theorem sorted_in {n : Nat} {d : Array α} (hn : d.size = n) (h : Sort.SortedIn lt 0 n d) : d.toList.Pairwise fun x y => lt y x = false := by
  rw [List.pairwise_iff_getElem]
  intro i j hi hj hij
  have hi' : i < d.size := by simpa using hi
  have hj' : j < d.size := by simpa using hj
  have := h i j (Nat.zero_le _) hij (by omega)
  rw [getElem!_pos d i hi', getElem!_pos d j hj'] at this
  simpa using this
end
/-! Texts in order. -/
def ltS (a b : ByteArray) : Bool := decide (a.toList < b.toList)
theorem bless_eq : ∀ (x y : List UInt8), Op.bytesLess x y = decide (x < y)
  | [], [] => by simp [Op.bytesLess]
  | _ :: _, [] => by simp [Op.bytesLess]
  | [], _ :: _ => by simp [Op.bytesLess]
  | a :: x, b :: y => by
    rw [Op.bytesLess, bless_eq x y]
    simp only [List.cons_lt_cons_iff]
    by_cases h1 : a < b <;> by_cases h2 : a = b <;> by_cases h3 : x < y <;> simp [h1, h2, h3]
theorem swo_ltS : Sort.SWO ltS where
  irrefl x := by simp [ltS, List.lt_irrefl]
  trans x y z h1 h2 := by simp only [ltS, decide_eq_true_eq] at *; exact List.lt_trans h1 h2
  ntrans x y z h1 h2 := by
    simp only [ltS, decide_eq_false_iff_not, List.not_lt] at *
    exact List.le_trans h2 h1
theorem y_str_lt {P : Program} {E : World} {n : Nat} {ds : List Deferred} {env : Fr} {l : List HProp} {dst : Option Tmp} {ty t t' : TypeId} {pos : String} {af : Array Edge} {gd : Option (Nat × Bool)} {x y : Operand} {s u : ByteArray} (hx : val env x = some (.string s)) (hy : val env y = some (.string u)) : Y P E n ds ⟨dst, .binOp .lss t x y t', ty, pos, af, gd⟩ env l (.bool (ltS s u)) :=
  Y.of fun a w hf _ => by
    have e : ltS s u = Op.bytesLess s.toList u.toList := (bless_eq _ _).symm
    rw [e]
    simp only [execOp, hf.eval hx, hf.eval hy]
    simp [go_sem]
theorem JE.ret5 {P : Program} {E : World} {n : Nat} {ds : List Deferred} {env : Fr} {l : List HProp} {R : Value → List HProp → Prop} {e : Exit} {fn : Func} {r1 r2 r3 r4 r5 : ResultVar} {v1 v2 v3 v4 v5 : Value} (he : e = .ret ∨ e = .normal) (hd : ds = []) (hres : fn.results = #[r1, r2, r3, r4, r5]) (h1 : RV P E n ds env l r1 v1) (h2 : RV P E n ds env l r2 v2) (h3 : RV P E n ds env l r3 v3) (h4 : RV P E n ds env l r4 v4) (h5 : RV P E n ds env l r5 v5) (h : R (.tuple #[v1, v2, v3, v4, v5]) l) : JE E n ds (bodyPost P fn (Ret E R)) e env l :=
  JE.body (v := .tuple #[v1, v2, v3, v4, v5]) he hd (fun a w hf hs => by
    have e1 := h1 a w hf hs
    have e2 := h2 a w hf hs
    have e3 := h3 a w hf hs
    have e4 := h4 a w hf hs
    have e5 := h5 a w hf hs
    simp [results_eq, hres, Array.mapM_eq_mapM_toList, e1, e2, e3, e4, e5]) fun w hs => ⟨_, l, rfl, hs, h⟩
end Go.SL
namespace Go.SL
open Go Go.RowKit
/-! Texts and their bytes. -/
/-- A text's bytes. -/
def bytesS (s : ByteArray) : List Int := s.data.toList.map fun b => (b.toNat : Int)
theorem bytesS_length (s : ByteArray) : (bytesS s).length = s.size := by
  rw [bytesS, List.length_map, Array.length_toList]; rfl
theorem bytesS_range (s : ByteArray) : ∀ x ∈ bytesS s, 0 ≤ x ∧ x ≤ 255 := fun x h => by
  obtain ⟨b, _, rfl⟩ := List.mem_map.1 h
  have := b.toNat_lt
  omega
theorem strCells_ints (s : ByteArray) : Lib.strCells s = (bytesS s).map (Value.int .u8) := by
  rw [Lib.strCells, bytesS, List.map_map]; rfl
theorem strOf_bytesS (s : ByteArray) : strOf (bytesS s) = s := by
  apply ByteArray.ext
  apply Array.ext'
  rw [strOf_data, bytesS, List.map_map]
  conv => rhs; rw [← List.map_id s.data.toList]
  refine List.map_congr_left fun b _ => ?_
  simp
theorem bytesS_strOf {xs : List Int} (h : ∀ x ∈ xs, 0 ≤ x ∧ x ≤ 255) : bytesS (strOf xs) = xs :=
  strOf_inj (bytesS_range _) h (strOf_bytesS _)
theorem bytesS_inj {s u : ByteArray} (h : bytesS s = bytesS u) : s = u := by rw [← strOf_bytesS s, ← strOf_bytesS u, h]
theorem bytesS_nil {s : ByteArray} (h : s.size = 0) : bytesS s = [] := List.eq_nil_of_length_eq_zero (by rw [bytesS_length, h])
theorem strOf_size (xs : List Int) : (strOf xs).size = xs.length := by
  rw [show (strOf xs).size = (strOf xs).data.toList.length by rw [Array.length_toList]; rfl, strOf_data, List.length_map]
section
variable {P : Program} {E : World} {n : Nat} {ds : List Deferred} {env : Fr} {l r : List HProp} {T : Tab} {N : Fr → List HProp → Prop}
variable {dst : Option Tmp} {d : Tmp} {ty : TypeId} {pos : String} {af : Array Edge} {gd : Option (Nat × Bool)} {x y z : Operand} {v : Value} {t t' : TypeId}
omit E in
theorem ltS_tri (s u : ByteArray) : (ltS s u || decide (s = u)) = !ltS u s := by
  have hinj : s.toList = u.toList → s = u := fun h => by
    rw [ByteArray.toList_eq, ByteArray.toList_eq] at h
    exact ByteArray.ext (Array.ext' h)
  by_cases e : s = u
  · subst e
    simp [swo_ltS.irrefl]
  · have hne : s.toList ≠ u.toList := fun h => e (hinj h)
    have h1 : s.toList < u.toList ∨ u.toList < s.toList := by
      rcases Std.lt_trichotomy s.toList u.toList with h | h | h
      · exact .inl h
      · exact absurd h hne
      · exact .inr h
    simp only [e, decide_false, Bool.or_false, ltS]
    rcases h1 with h | h
    · have h2 : ¬ u.toList < s.toList := List.lt_asymm h
      simp [h, h2]
    · have h2 : ¬ s.toList < u.toList := List.lt_asymm h
      simp [h, h2]
theorem y_str_le {s u : ByteArray} (hx : val env x = some (.string s)) (hy : val env y = some (.string u)) : Y P E n ds ⟨dst, .binOp .leq t x y t', ty, pos, af, gd⟩ env l (.bool (!ltS u s)) :=
  Y.of fun a w hf _ => by
    rw [← ltS_tri, show ltS s u = Op.bytesLess s.toList u.toList from (bless_eq _ _).symm, ← bytes_beq]
    simp only [execOp, hf.eval hx, hf.eval hy]
    simp [binOp, Op.stringOp, go_sem]
theorem y_str_gt {s u : ByteArray} (hx : val env x = some (.string s)) (hy : val env y = some (.string u)) : Y P E n ds ⟨dst, .binOp .gtr t x y t', ty, pos, af, gd⟩ env l (.bool (ltS u s)) :=
  Y.of fun a w hf _ => by
    rw [← Bool.not_not (ltS u s), ← ltS_tri, show ltS s u = Op.bytesLess s.toList u.toList from (bless_eq _ _).symm, ← bytes_beq]
    simp only [execOp, hf.eval hx, hf.eval hy]
    simp [binOp, Op.stringOp, go_sem]
theorem y_str_ge {s u : ByteArray} (hx : val env x = some (.string s)) (hy : val env y = some (.string u)) : Y P E n ds ⟨dst, .binOp .geq t x y t', ty, pos, af, gd⟩ env l (.bool (!ltS s u)) :=
  Y.of fun a w hf _ => by
    have e : ltS s u = Op.bytesLess s.toList u.toList := (bless_eq _ _).symm
    rw [e]
    simp only [execOp, hf.eval hx, hf.eval hy]
    simp [binOp, Op.stringOp, go_sem]
theorem y_str_add {s u : ByteArray} (hx : val env x = some (.string s)) (hy : val env y = some (.string u)) (hb : s.size + u.size ≤ 9223372036854775807) : Y P E n ds ⟨dst, .binOp .add t x y t', ty, pos, af, gd⟩ env l (.string (s ++ u)) :=
  Y.of fun a w hf _ => by
    have h : ¬ (9223372036854775807 < (s.size : Int) + (u.size : Int)) := by omega
    simp only [execOp, hf.eval hx, hf.eval hy]
    simp [binOp, Op.stringOp, go_sem, IntKind.max, IntKind.signed, IntKind.bits, h]
theorem y_str_neB {s u : ByteArray} {b : Bool} (hx : val env x = some (.string s)) (hy : val env y = some (.string u)) (hb : decide (s ≠ u) = b) : Y P E n ds ⟨dst, .binOp .neq t x y t', ty, pos, af, gd⟩ env l (.bool b) := hb ▸ y_str_ne hx hy
/-- A text is turned into a slice of bytes. -/
theorem l_convStr (hT : Tok P T) {i j q : TI} {e : TypeId} {s : ByteArray} (hi : T.at t' = some i) (hk : i.u = .slice e) (hj : T.at e = some j) (hjk : j.u = .int .u8) (hd : T.at t = some q) (hdk : q.u = .string)
    (hx : val env x = some (.string s)) (hsm : s.size ≤ 140737488355328) (hn : Nat.blt d n = true)
    (h : ∀ g c K, InL [K] (some ⟨g, 0, none⟩) s.size c ((bytesS s).map (Value.int .u8)) → N ((d, .slice (some ⟨g, 0, none⟩) s.size c) :: env) (K :: l)) : LS P E n ds ⟨some d, .convert t t' x, ty, pos, af, gd⟩ env l N :=
  LS.of hn rfl fun a w hf hs => by
    have g1 := (hT t' i hi).1
    rw [hk] at g1
    have g2 := (hT e j hj).1
    rw [hjk] at g2
    have g3 := (hT t q hd).1
    rw [hdk] at g3
    have hge := grownCap_ge w s.size 0 e
    have hcm : grownCap w s.size 0 e ≤ maxLen := grownCap_le_maxLen w s.size 0 e (by unfold maxLen; omega)
    have hs1 : (Lib.bytesCells w e s).toList = (bytesS s).map (Value.int .u8) ++ List.replicate (grownCap w s.size 0 e - s.size) (.int .u8 0) := by
      simp [Lib.bytesCells, bytesS, List.map_map, Function.comp_def]
    refine ⟨_, Lib.bytesWorld w e s, mrow w.heap.size e (Lib.bytesCells w e s).toList :: l, ?_, ?_, h w.heap.size (grownCap w s.size 0 e) _ ⟨hge, hcm, .inl ⟨_, 0, rfl, fun m => ?_⟩⟩⟩
    · have hc := Lib.run_convert_string_bytes w t t' e s g3 g1 g2
      simp only [execOp, hf.eval hx]
      simp [hc]
    · have s1 := hs.drew.alloc (.cells (Lib.bytesCells w e s) e)
      have hb := s1.block
      refine s1.turn (o' := .cells (Lib.bytesCells w e s).toList.toArray e ((Lib.bytesCells w e s).toList.length, (Lib.bytesCells w e s).toList.length + 1)) rfl rfl rfl ?_ (fun k hk => ?_)
      · have := Lib.bytesWorld_at_new w e s
        simpa using this
      · show (Lib.bytesWorld w e s).heap[k]? = _
        unfold Lib.bytesWorld World.freeze
        rw [if_neg (by decide)]
        have hk2 : ¬ w.heap.size = k := fun h => hk h.symm
        simp [Array.getElem?_modify, World.drew, World.alloc, -World.alloc_eq, -World.drew_eq, hk2]
    · have hrd : RdN (m ++ [mrow w.heap.size e (Lib.bytesCells w e s).toList]) w.heap.size 0 (Lib.bytesCells w e s).toList := RdN.mrow (Pick.app m Pick.head)
      intro k v hv
      refine hrd k v ?_
      rw [hs1]
      exact List.getElem?_append_left (by
        rcases Nat.lt_or_ge k ((bytesS s).map (Value.int .u8)).length with h | h
        · exact h
        · rw [List.getElem?_eq_none h] at hv; cases hv) |>.trans hv
/-- A text's bytes are put behind a slice. -/
theorem l_appendStr (hT : Tok P T) {i j q : TI} {e : TypeId} {nn : Nat} {xs : List Value} {s : ByteArray} (hi : T.at t = some i) (hk : i.u = .slice e) (hj : T.at e = some j) (hz : j.zero = some (.int .u8 0)) (hsz : j.size = 1) (hby : j.bytes = 1)
    (hd : T.at t' = some q) (hdk : q.u = .string) (hx : val env x = some v) (hy : val env y = some (.string s)) (hp : Pick l (own e 1 v nn xs) r)
    (hb : nn + s.size ≤ 140737488355328) (hn : Nat.blt d n = true)
    (h : ∀ a cap, nn + s.size ≤ cap → N ((d, .slice a (nn + s.size) cap) :: env) (own e 1 (.slice a (nn + s.size) cap) (nn + s.size) (xs ++ (bytesS s).map (Value.int .u8)) :: r)) :
    LS P E n ds ⟨some d, .call ⟨.builtin .append, #[x, y], #[t, t']⟩, ty, pos, af, gd⟩ env l N :=
  LS.of hn rfl fun a w hf hs => by
    have ht := (hT t i hi).1
    rw [hk] at ht
    have hu := (hT t' q hd).1
    rw [hdk] at hu
    obtain ⟨_, qi, hq, hqs, hqb, hqz⟩ := hT e j hj
    have hzq : qi.zero = some (.int .u8 0) := by rw [hqz, hz]
    have hs1q : qi.size = 1 := by rw [hqs, hsz]
    have hbyq : qi.bytes = 1 := by rw [hqb, hby]
    have s0 := hs.pick hp
    suffices H : ∃ v' w', (Builtin.append_ #[t, t'] ty #[v, .string s]).run P w = .ok v' w' ∧ Sat E (stars (own e 1 v' (nn + s.size) (xs ++ (bytesS s).map (Value.int .u8)) :: r)) w' by
      obtain ⟨v', w', h2, h3⟩ := H
      obtain ⟨aa, cap, rfl, hcap⟩ := h3.row_of_own Pick.head
      refine ⟨_, w', _, ?_, h3, h aa cap hcap⟩
      simp [execOp, resolve, invoke, builtin, hf.eval hx, hf.eval hy, h2]
    rw [← strCells_ints]
    have hscl := Lib.strCells_length s
    obtain ⟨hxl, ⟨rfl, rfl, rfl, s1⟩ | ⟨g, cap, cur, rfl, hnc, hcm, hcs, htake, s1⟩⟩ := s0.own_open
    · by_cases hm : s.size = 0
      · have hn0 : Lib.strCells s = [] := List.eq_nil_of_length_eq_zero (by rw [hscl]; exact hm)
        refine ⟨.slice none 0 0, w, ?_, by rw [hm, hn0]; simpa using s1.own_nil⟩
        have hfc := Lib.run_firstCells_string (P := P) w 1 s
        rw [hm] at hfc
        simp [Builtin.append_, run_underlying ht, run_underlying hu, sizeOf, typeInfo, hq, hs1q, Builtin.lenOf, hm, hfc]
      · have hr := run_append_nil_string (P := P) w t t' ty e qi (.int .u8 0) ht hu hq hzq s (by omega) (by omega) (by rw [hbyq]; omega)
        have e1 : (s.data.map fun b => Value.int .u8 b.toNat) = (Lib.strCells s).toArray := by
          apply Array.ext'
          simp [Lib.strCells]
        rw [e1] at hr
        refine ⟨_, _, hr, ?_⟩
        have hge := grownCap_ge w s.size 0 e
        have hcm : grownCap w s.size 0 e ≤ maxLen := grownCap_le_maxLen w s.size 0 e (by unfold maxLen; omega)
        have s2 := s1.drew.alloc (.cells ((Lib.strCells s).toArray ++ Builtin.zeroCells (Value.int .u8 0).cells (grownCap w s.size 0 e - s.size)) e)
        have s3 : Sat E (stars (row w.heap.size e (Lib.strCells s ++ (Builtin.zeroCells (Value.int .u8 0).cells (grownCap w s.size 0 e - s.size)).toList) :: r)) (w.drew.alloc (.cells ((Lib.strCells s).toArray ++ Builtin.zeroCells (Value.int .u8 0).cells (grownCap w s.size 0 e - s.size)) e)) := by
          refine s2.imp fun h q => star_mono (fun h a => ?_) (fun _ b => b) q
          unfold row
          have e3 : (Lib.strCells s ++ (Builtin.zeroCells (Value.int .u8 0).cells (grownCap w s.size 0 e - s.size)).toList).toArray = (Lib.strCells s).toArray ++ Builtin.zeroCells (Value.int .u8 0).cells (grownCap w s.size 0 e - s.size) := by
            apply Array.ext'; simp
          rw [e3]; exact a
        have s4 := s3.own_row (n := s.size) (size := 1) (cap := grownCap w s.size 0 e) (xs := Lib.strCells s) hge hcm ?_ ?_ (by rw [hscl, Nat.mul_one])
        · simpa using s4
        · rw [List.length_append, hscl, Array.length_toList, size_zeroCells, show (Value.int IntKind.u8 0).cells.size = 1 from rfl]; omega
        · rw [Nat.mul_one, ← hscl]; exact List.take_left
    · by_cases hroom : nn + s.size ≤ cap
      · have hr := Lib.run_append_room_string (P := P) w t t' ty e qi ht hu hq hs1q g nn cap cur.toArray s1.block s hroom (by rw [List.size_toArray, hcs]; omega)
        refine ⟨_, _, hr, ?_⟩
        have s2 := s1.setRow (cur.take nn ++ Lib.strCells s ++ cur.drop (nn + s.size))
        refine s2.own_row hroom hcm ?_ ?_ ?_
        · simp only [List.length_append, List.length_take, List.length_drop, hscl]; omega
        · have ht' : cur.take nn = xs := by simpa using htake
          rw [ht', show (nn + s.size) * 1 = (xs ++ Lib.strCells s).length by rw [List.length_append, hscl, hxl]; omega]
          exact List.take_left
        · rw [List.length_append, hscl, hxl]; omega
      · have holds : ∀ k u, xs[k]? = some u → w.cell? ((⟨g, 0, none⟩ : Addr).add k) = some u := by
          intro k u hk
          rw [addr_add, Nat.zero_add, s1.cell]
          rw [← htake, List.getElem?_take] at hk
          split at hk
          · exact hk
          · simp at hk
        have hr := Lib.run_append_grow_string (P := P) w t t' ty e qi (.int .u8 0) ht hu hq hzq ⟨g, 0, none⟩ nn cap xs (by rw [hs1q]; exact hxl) holds s (by omega) (by omega) (by rw [hbyq]; exact growslice_fits (by omega) (by omega))
        refine ⟨_, _, hr, ?_⟩
        have hge := grownCap_ge w (nn + s.size) cap e
        have hcm : grownCap w (nn + s.size) cap e ≤ maxLen := grownCap_le_maxLen w (nn + s.size) cap e (by unfold maxLen; omega)
        have s2 := s1.drop.drew.alloc (.cells (xs.toArray ++ (Lib.strCells s).toArray ++ Builtin.zeroCells (Value.int .u8 0).cells (grownCap w (nn + s.size) cap e - (nn + s.size))) e)
        have s3 : Sat E (stars (row w.heap.size e (xs ++ Lib.strCells s ++ (Builtin.zeroCells (Value.int .u8 0).cells (grownCap w (nn + s.size) cap e - (nn + s.size))).toList) :: r)) (w.drew.alloc (.cells (xs.toArray ++ (Lib.strCells s).toArray ++ Builtin.zeroCells (Value.int .u8 0).cells (grownCap w (nn + s.size) cap e - (nn + s.size))) e)) := by
          refine s2.imp fun h q => star_mono (fun h a => ?_) (fun _ b => b) q
          unfold row
          have e3 : (xs ++ Lib.strCells s ++ (Builtin.zeroCells (Value.int .u8 0).cells (grownCap w (nn + s.size) cap e - (nn + s.size))).toList).toArray = xs.toArray ++ (Lib.strCells s).toArray ++ Builtin.zeroCells (Value.int .u8 0).cells (grownCap w (nn + s.size) cap e - (nn + s.size)) := by
            apply Array.ext'; simp
          rw [e3]; exact a
        have hxn : (xs ++ Lib.strCells s).length = (nn + s.size) * 1 := by rw [List.length_append, hscl, hxl]; omega
        refine s3.own_row (n := nn + s.size) (size := 1) (cap := grownCap w (nn + s.size) cap e) (xs := xs ++ Lib.strCells s) hge hcm ?_ ?_ hxn
        · rw [List.length_append, hxn, Array.length_toList, size_zeroCells, show (Value.int IntKind.u8 0).cells.size = 1 from rfl]; omega
        · rw [← hxn]; exact List.take_left
end
section
variable {α : Type} [DecidableEq α] {P : Program} {E : World} {n : Nat} {ds : List Deferred} {env : Fr} {l r : List HProp} {T : Tab} {N : Fr → List HProp → Prop}
variable {d : Tmp} {ty : TypeId} {pos : String} {af : Array Edge} {gd : Option (Nat × Bool)} {x y z : Operand} {v : Value} {t kt et : TypeId} {enc : α → Value} {ok : α → Prop}
structure EntOk (enc : α → Value) (ok : α → Prop) (m : List (α × Value)) (a : α) (st : Nat) (es : List MapEntry) (clock j : Nat) (u : Value) : Prop where
  map : MapOk enc ok es clock (mput m a u)
  born : ∃ e, es[j]? = some e ∧ e.born = st
  set : ∀ v, mput m a v = (mput m a u).set j (a, v)
  at_ : (mput m a u)[j]? = some (a, u)
/-- A map between an entry's making and its store: the place that was made. -/
def mapE (enc : α → Value) (ok : α → Prop) (b : Nat) (m : List (α × Value)) (a : α) (st : Nat) : HProp := ex fun q : List MapEntry × Nat × Nat × Value => stars [pur (EntOk enc ok m a st q.1 q.2.1 q.2.2.1 q.2.2.2), blk b (.map q.1.toArray q.2.1)]
theorem l_mapEntry {i j : TI} {b : Nat} {m : List (α × Value)} {a : α} {kv zv : Value} (hT : Tok P T) (hi : T.at t = some i) (hk : i.u = .map kt et) (hj : T.at et = some j) (hz : j.zero = some zv) (K : KeyOk P kt enc ok)
    (hx : val env x = some (.map (some b))) (hy : val env y = some kv) (hkv : kv = enc a) (ha : ok a) (hp : Pick l (mapA enc ok b m) r) (hn : Nat.blt d n = true)
    (h : ∀ st : Nat, N ((d, .tuple #[(mlook m a).getD zv, .int .i64 (st : Int)]) :: env) (mapE enc ok b m a st :: r)) : LS P E n ds ⟨some d, .mapEntry t x y, ty, pos, af, gd⟩ env l N :=
  LS.of hn rfl fun ac w hf hs => by
    subst hkv
    obtain ⟨es, clock, hm, s⟩ := (hs.pick hp).map_open
    have hb := s.block
    have h1 := hT.und w hi
    rw [hk] at h1
    have h3 := K.run w ha es m hm.kv hm.oks
    have h4 := K.chk w false a ha
    obtain ⟨_, jq, hjq, _, _, hjz⟩ := hT et j hj
    have hzv : (zeroValue et).run P w = .ok zv w := by simp [zeroValue, typeInfo, hjq, hjz, hz]
    have hmf := mfind_look m a 0
    cases hq : mfind m a 0 with
    | none =>
      rw [hq] at h3 hmf
      have hnone := (mfind_none m a 0 hq).1
      have hlk : mlook m a = none := by simpa using hmf.symm
      have hln := hm.len
      refine ⟨.tuple #[zv, .int .i64 (clock : Int)], ChangeMaps.setBlock w b (.map (es ++ [MapEntry.mk (enc a) zv clock]).toArray (clock + 1)), mapE enc ok b m a clock :: r, ?_, ?_, ?_⟩
      rotate_left
      · refine Sat.toex (es ++ [MapEntry.mk (enc a) zv clock], clock + 1, m.length, zv) (Sat.fold (m := [pur (EntOk enc ok m a clock (es ++ [MapEntry.mk (enc a) zv clock]) (clock + 1) m.length zv), blk b (.map (es ++ [MapEntry.mk (enc a) zv clock]).toArray (clock + 1))]) (Sat.topur ⟨?_, ⟨⟨enc a, zv, clock⟩, ?_, rfl⟩, fun v => ?_, ?_⟩ (s.setBlock (.map (es ++ [MapEntry.mk (enc a) zv clock]).toArray (clock + 1)))))
        · rw [hnone]; exact hm.push (v := zv) ha
        · rw [← hln]; simp
        · rw [hnone, hnone]; simp
        · rw [hnone]; simp
      · have q := h clock
        rw [hlk] at q
        exact q
      · simp only [execOp, hf.eval hx, hf.eval hy, Instr.mapEntry, Sem.run_bind, h1, Result.andThen_ok, run_getObj_b hb, h4, h3, hzv]
        rw [run_setObj_b hb]
        simp [goInt]
    | some q =>
      obtain ⟨j, u⟩ := q
      rw [hq] at h3 hmf
      have hlk : mlook m a = some u := by simpa using hmf.symm
      obtain ⟨_, u', h5, hu', h6⟩ := mfind_at m a 0 j u hq
      subst hu'
      rw [Nat.sub_zero] at h5 h6
      have hej : ∃ e, es[j]? = some e ∧ e.key = enc a := by
        have hz := congrArg (fun (z : List (Value × Value)) => z[j]?) hm.kv
        simp only [List.getElem?_map, h5] at hz
        cases he : es[j]? with
        | none => rw [he] at hz; cases hz
        | some e =>
          rw [he] at hz
          simp only [Option.map_some, Option.some.injEq, Prod.mk.injEq] at hz
          exact ⟨e, rfl, hz.1⟩
      obtain ⟨e, he, hek⟩ := hej
      have hself : mput m a u' = m := by
        rw [(h6 u').1]
        exact WideElems.set_self _ _ _ h5
      have hmod : es.modify j (fun e => { e with key := enc a }) = es := by
        rw [ChangeMaps.modify_eq_set _ _ _ _ he]
        have : ({ e with key := enc a } : MapEntry) = e := by rw [← hek]
        rw [this]
        exact WideElems.set_self _ _ _ he
      refine ⟨.tuple #[u', .int .i64 (e.born : Int)], ChangeMaps.setBlock w b (.map es.toArray clock), mapE enc ok b m a e.born :: r, ?_, ?_, ?_⟩
      rotate_left
      · refine Sat.toex (es, clock, j, u') (Sat.fold (m := [pur (EntOk enc ok m a e.born es clock j u'), blk b (.map es.toArray clock)]) (Sat.topur ⟨?_, ⟨e, he, rfl⟩, fun v => ?_, ?_⟩ (s.setBlock (.map es.toArray clock))))
        · rw [hself]; exact hm
        · rw [hself]; exact (h6 v).1
        · rw [hself]; exact h5
      · have q := h e.born
        rw [hlk] at q
        exact q
      · simp only [execOp, hf.eval hx, hf.eval hy, Instr.mapEntry, Sem.run_bind, h1, Result.andThen_ok, run_getObj_b hb, h4, h3]
        have e1 : (((es.toArray[j]?).map (·.key)).getD (enc a)) = enc a := by simp [he, hek]
        have e2 : (((es.toArray[j]?).map (·.born)).getD 0) = e.born := by simp [he]
        rw [e1]
        simp only [Instr.keyThatStays, K.same a ha, if_true, Sem.run_pure, Result.andThen_ok]
        rw [run_setObj_b hb]
        simp [List.modify_toArray, hmod, goInt, he]
theorem l_entryStore {b st : Nat} {m : List (α × Value)} {a : α}
    (hx : val env x = some (.map (some b))) (hy : val env y = some (.int .i64 (st : Int))) (hz : val env z = some v) (hp : Pick l (mapE enc ok b m a st) r)
    (h : N env (mapA enc ok b (mput m a v) :: r)) : LS P E n ds ⟨none, .entryStore t x y z, ty, pos, af, gd⟩ env l N :=
  LS.of0 rfl fun ac w hf hs => by
    obtain ⟨⟨es, clock, j, u⟩, s0⟩ := (hs.pick hp).ofex
    obtain ⟨⟨hm, ⟨e, he, hst⟩, hset, hat⟩, s⟩ := Sat.ofpur (p := EntOk enc ok m a st es clock j u) (l := blk b (.map es.toArray clock) :: r) (Sat.unfold (m := [pur (EntOk enc ok m a st es clock j u), blk b (.map es.toArray clock)]) s0)
    have hb := s.block
    subst hst
    have hnd : (es.map (·.born)).Nodup := hm.inc.imp fun h => Nat.ne_of_lt h
    have hfi := WideElems.findIdx_born hnd he
    have hkey : e.key = enc a := by
      have hz := congrArg (fun (z : List (Value × Value)) => z[j]?) hm.kv
      simp only [List.getElem?_map, hat, he, Option.map_some, Option.some.injEq, Prod.mk.injEq] at hz
      exact hz.1
    have hmod : es.modify j (fun e => { e with key := enc a, val := v }) = es.modify j (fun e => { e with val := v }) := by
      rw [ChangeMaps.modify_eq_set _ _ _ _ he, ChangeMaps.modify_eq_set _ _ _ _ he, ← hkey]
    have hma := hm.put_at (v := v) hat
    rw [hmod, ← hset v] at hma
    refine ⟨_, _, ?_, Sat.map_shut hma (s.setBlock (.map (es.modify j fun e => { e with val := v }).toArray clock)), h⟩
    have hfi2 : es.toArray.findIdx? (fun x => (x.born : Int) == ((e.born : Nat) : Int)) = some j := by
      rw [WideElems.findIdx_arr]
      simpa using hfi
    simp only [execOp, hf.eval hx, hf.eval hy, hf.eval hz, Instr.entryStore, Sem.run_bind, Result.andThen_ok, run_getObj_b hb, asInt, asIntOf]
    simp only [Sem.run_pure, Result.andThen_ok]
    rw [hfi2]
    simp only []
    rw [run_setObj_b hb]
    simp [List.modify_toArray]
omit [DecidableEq α] in
theorem run_clone {w : World} {r : Nat} {es : Array MapEntry} {clock : Nat} (t : TypeId) (hb : w.heap[r]? = some (.map es clock)) :
    (Extern.MapsClone.clone #[.iface t (.map (some r))]).run P w = .ok (.iface t (.map (some w.heap.size))) (w.alloc (.map es clock)) := by
  have e : Extern.MapsClone.clone #[.iface t (.map (some r))] = (getObj r >>= fun o => match o with
      | .map entries clock => (newObj (.map entries clock) >>= fun n => pure (.iface t (.map (some n))))
      | _ => stuck "maps.clone: a map expected") := rfl
  rw [e]
  simp [run_getObj_b hb, Result.andThen, go_sem]
omit [DecidableEq α] in
/-- maps.clone. -/
theorem l_mapsClone {fn : Func} {f : FuncId} {ts : Array TypeId} {b : Nat} {m : List (α × Value)} (hf : P.funcs[f]? = some fn) (h1 : (fn.name == "runtime.NumGoroutine") = false) (h2 : fn.body.isNone = true) (h3 : Extern.findNext fn = none) (h4 : Extern.find fn = some Extern.MapsClone.clone)
    (hx : val env x = some (.iface t (.map (some b)))) (hp : Pick l (mapA enc ok b m) r) (hn : Nat.blt d n = true)
    (h : ∀ c, N ((d, .iface t (.map (some c))) :: env) (mapA enc ok c m :: mapA enc ok b m :: r)) :
    LS P E n ds ⟨some d, .call ⟨.value (.func f), #[x], ts⟩, ty, pos, af, gd⟩ env l N :=
  l_callE (xs := [x]) (us := [.iface t (.map (some b))]) (by simp [vals, hx]) hn fun w hs => by
    obtain ⟨es, clock, hm, s⟩ := (hs.pick hp).map_open
    have hrun := run_clone (P := P) t s.block
    refine ⟨.iface t (.map (some w.heap.size)), w.alloc (.map es.toArray clock), mapA enc ok w.heap.size m :: mapA enc ok b m :: r, ?_, ?_, h _⟩
    · rw [run_callFunc_extern hf h1 h2 h3 h4]
      show ((Extern.MapsClone.clone #[.iface t (.map (some b))]).run P w).andThen _ = _
      rw [hrun]
      rfl
    · have s1 := s.alloc (.map es.toArray clock)
      have s2 := Sat.map_shut hm s1
      exact Sat.rot (p := [_]) (g := [_]) (Sat.map_shut hm (Sat.rot (p := [_]) (g := [_]) s2))
end
section
variable {P : Program} {E : World} {n : Nat} {ds : List Deferred} {env : Fr} {l : List HProp} {T : Tab}
variable {dst : Option Tmp} {ty : TypeId} {pos : String} {af : Array Edge} {gd : Option (Nat × Bool)} {x y : Operand} {v : Value} {t t' kt et : TypeId}
theorem run_map_nil (w : World) (d : Nat) (t k e : TypeId) (p : Option Nat) (h : P.underlying t = some (.map k e)) :
    (Op.equalIn (d + 1) t (.map p) (.map none)).run P w = .ok p.isNone w := by
  cases p <;> simp [Op.equalIn, run_underlying h]
theorem y_map_eqNil {i : TI} {p : Option Nat} (hT : Tok P T) (hi : T.at t = some i) (hk : i.u = .map kt et) (hx : val env x = some (.map p)) (hy : val env y = some (.map none)) : Y P E n ds ⟨dst, .binOp .eql t x y t', ty, pos, af, gd⟩ env l (.bool p.isNone) :=
  Y.of fun a w hf _ => by
    have h1 := (hT t i hi).1
    rw [hk] at h1
    simp only [execOp, hf.eval hx, hf.eval hy, binOp]
    simp [show Op.equal t (.map p) (.map none) = Op.equalIn (9999 + 1) t (.map p) (.map none) from rfl, run_map_nil w 9999 t kt et p h1, go_sem]
theorem y_iface_map {i : TI} (hT : Tok P T) (hi : T.at t = some i) (hk : i.u = .map kt et) (hx : val env x = some v) : Y P E n ds ⟨dst, .makeInterface t x, ty, pos, af, gd⟩ env l (.iface t v) :=
  Y.of fun a w hf _ => by
    have h1 := (hT t i hi).1
    rw [hk] at h1
    simp only [execOp, hf.eval hx]
    simp [Instr.makeInterface, run_underlying h1]
theorem y_assert_map {i : TI} (hT : Tok P T) (hi : T.at t = some i) (hk : i.u = .map kt et) (hx : val env x = some (.iface t v)) : Y P E n ds ⟨dst, .typeAssert x t' t false, ty, pos, af, gd⟩ env l v :=
  Y.of fun a w hf _ => by
    have h1 := (hT t i hi).1
    rw [hk] at h1
    simp only [execOp, hf.eval hx]
    simp [Instr.typeAssert, run_underlying h1, go_sem, Result.andThen]
end
section
variable {α : Type} [DecidableEq α] {P : Program} {E : World} {n : Nat} {ds : List Deferred} {env : Fr} {l r : List HProp} {T : Tab} {N : Fr → List HProp → Prop}
variable {ty : TypeId} {pos : String} {af : Array Edge} {gd : Option (Nat × Bool)} {x y : Operand} {t t' kt et : TypeId} {enc : α → Value} {ok : α → Prop}
omit [DecidableEq α] in
theorem LS.of0v {o : Oper} (hd : o.dst = none)
    (h : ∀ a w, Frm n ds env a → Sat E (stars l) w → ∃ v w' l', (execOp a.eval o).run P w = .ok (.value v) w' ∧ Sat E (stars l') w' ∧ N env l') :
    LS P E n ds o env l N := fun a w hf hs => by
  obtain ⟨v, w', l', h1, h3, h4⟩ := h a w hf hs
  unfold Oper.wp
  rw [h1]
  exact ⟨_, l', by rw [hd]; exact hf, h3, h4⟩
theorem l_delete0 {i : TI} {b : Nat} {m : List (α × Value)} {a : α} {kv : Value} (hT : Tok P T) (hi : T.at t = some i) (hk : i.u = .map kt et) (K : KeyOk P kt enc ok)
    (hx : val env x = some (.map (some b))) (hy : val env y = some kv) (hkv : kv = enc a) (ha : ok a) (hp : Pick l (mapA enc ok b m) r)
    (h : N env (mapA enc ok b (mdel m a) :: r)) : LS P E n ds ⟨none, .call ⟨.builtin .delete, #[x, y], #[t, t']⟩, ty, pos, af, gd⟩ env l N :=
  LS.of0v rfl fun ac w hf hs => by
    subst hkv
    obtain ⟨es, clock, hm, s⟩ := (hs.pick hp).map_open
    have hb := s.block
    have h1 := hT.und w hi
    rw [hk] at h1
    have h3 := K.run w ha es m hm.kv hm.oks
    have h4 := K.chk w es.isEmpty a ha
    cases hq : mfind m a 0 with
    | none =>
      rw [hq] at h3
      refine ⟨.tuple #[], _, _, ?_, Sat.map_shut hm (s.setBlock (.map es.toArray clock)), by rw [← (mfind_none m a 0 hq).2]; exact h⟩
      simp [execOp, resolve, invoke, builtin, hf.eval hx, hf.eval hy, Builtin.delete_, h1, run_getObj_b hb, h4, h3, run_setObj_b hb]
    | some q =>
      obtain ⟨j, u⟩ := q
      rw [hq] at h3
      obtain ⟨_, u', h5, _, h6⟩ := mfind_at m a 0 j u hq
      rw [Nat.sub_zero] at h5 h6
      refine ⟨.tuple #[], _, _, ?_, Sat.map_shut (hm.erase j) (s.setBlock (.map (es.eraseIdx j).toArray clock)), by rw [← (h6 u).2]; exact h⟩
      simp [execOp, resolve, invoke, builtin, hf.eval hx, hf.eval hy, Builtin.delete_, h1, run_getObj_b hb, h4, h3, run_setObj_b hb]
end
end Go.SL
namespace Go.SL
open Go Go.RowKit
/-! A number as a text of one sign; texts put together. -/
theorem strOf_app (xs ys : List Int) : strOf xs ++ strOf ys = strOf (xs ++ ys) := by
  apply ByteArray.ext
  apply Array.ext'
  rw [ByteArray.data_append, Array.toList_append, strOf_data, strOf_data, strOf_data, List.map_append]
theorem bytesS_app (s u : ByteArray) : bytesS (s ++ u) = bytesS s ++ bytesS u := by
  unfold bytesS
  rw [ByteArray.data_append, Array.toList_append, List.map_append]
theorem encode_low {x : Int} (h0 : 0 ≤ x) (h1 : x < 128) : Utf8.encode x = strOf [x] := by
  have hv : Utf8.valid x = true := by simp [Utf8.valid]; omega
  unfold Utf8.encode
  simp only [hv, if_true]
  rw [if_pos (by omega)]
  rfl
section
variable {P : Program} {E : World} {n : Nat} {ds : List Deferred} {env : Fr} {l : List HProp} {T : Tab}
variable {dst : Option Tmp} {ty : TypeId} {pos : String} {af : Array Edge} {gd : Option (Nat × Bool)} {x : Operand} {t t' : TypeId}
theorem y_convRune (hT : Tok P T) {s d : TI} {k : IntKind} {i : Int} (hs : T.at t = some s) (hd : T.at t' = some d) (hk : d.u = .string) (hx : val env x = some (.int k i)) (h0 : 0 ≤ i) (h1 : i < 128) :
    Y P E n ds ⟨dst, .convert t t' x, ty, pos, af, gd⟩ env l (.string (strOf [i])) :=
  Y.of fun a w hf _ => by
    simp only [execOp, hf.eval hx, convert]
    simp only [Sem.run_bind, hT.und w hs, hT.und w hd, Result.andThen_ok, hk]
    rw [← encode_low h0 h1]
    cases s.u <;> simp [Conv.intToString]
/-- Texts that are lists of bytes are put together. -/
theorem y_addS {y : Operand} {ty2 : TypeId} {xs ys zs : List Int} (hx : val env x = some (.string (strOf xs))) (hy : val env y = some (.string (strOf ys))) (hz : xs ++ ys = zs) (hb : xs.length + ys.length ≤ 9223372036854775807) :
    Y P E n ds ⟨dst, .binOp .add t x y ty2, ty, pos, af, gd⟩ env l (.string (strOf zs)) := by
  have h := y_str_add (P := P) (E := E) (n := n) (ds := ds) (l := l) (dst := dst) (ty := ty) (pos := pos) (af := af) (gd := gd) (t := t) (t' := ty2) hx hy (by rw [strOf_size, strOf_size]; exact hb)
  rw [strOf_app, hz] at h
  exact h
theorem bytesS_extract (s : ByteArray) (lo hi : Nat) : bytesS (s.extract lo hi) = ((bytesS s).take hi).drop lo := by
  unfold bytesS
  rw [ByteArray.data_extract, Array.toList_extract, List.extract, List.map_take, List.map_drop, List.take_drop]
  rcases Nat.lt_or_ge lo hi with h | h
  · rw [show lo + (hi - lo) = hi by omega]
  · rw [show lo + (hi - lo) = lo by omega, List.drop_eq_nil_of_le (by simp; omega), List.drop_eq_nil_of_le (by simp; omega)]
theorem extract_strOf (s : ByteArray) (lo hi : Nat) : s.extract lo hi = strOf (((bytesS s).take hi).drop lo) := by
  rw [← bytesS_extract, strOf_bytesS]
/-- A text's byte. -/
theorem y_index_str (hT : Tok P T) {q : TI} {y : Operand} {k : IntKind} {ix b : Int} {i : Nat} {s : ByteArray} (hd : T.at t = some q) (hk : q.u = .string) (hx : val env x = some (.string s)) (hy : val env y = some (.int k ix)) (hi : ix = (i : Int)) (hb : (bytesS s)[i]? = some b) :
    Y P E n ds ⟨dst, .index t x y, ty, pos, af, gd⟩ env l (.int .u8 b) :=
  Y.of fun a w hf _ => by
    have hu := (hT t q hd).1
    rw [hk] at hu
    subst hi
    have hl : i < s.size := by
      have := (List.getElem?_eq_some_iff.1 hb).1
      rwa [bytesS_length] at this
    simp only [execOp, hf.eval hx, hf.eval hy]
    have e := run_index_string w t s k (i : Int) hu
    rw [dif_pos ⟨by omega, by omega⟩] at e
    have e2 : ((s[(i : Int).toNat]'(by omega)).toNat : Int) = b := by
      unfold bytesS at hb
      rw [List.getElem?_map] at hb
      have hl2 : i < s.data.toList.length := by simpa using hl
      rw [List.getElem?_eq_getElem hl2, Option.map_some] at hb
      have hb := Option.some.inj hb
      rw [← hb]
      rfl
    rw [e2] at e
    simp [e]
/-- A piece of a text. -/
theorem y_slice_str (hT : Tok P T) {q : TI} {lo hi : Nat} {s : ByteArray} {xs : List Int} (hd : T.at t = some q) (hk : q.u = .string)
    {ol oh : Option Operand} (hx : val env x = some (.string s)) (hs : bytesS s = xs)
    (hol : (ol = none ∧ lo = 0) ∨ ∃ o kl il, ol = some o ∧ val env o = some (.int kl il) ∧ il = (lo : Int))
    (hoh : (oh = none ∧ hi = xs.length) ∨ ∃ o kh ih, oh = some o ∧ val env o = some (.int kh ih) ∧ ih = (hi : Int))
    (h1 : lo ≤ hi) (h2 : hi ≤ xs.length) :
    Y P E n ds ⟨dst, .slice t x ol oh none, ty, pos, af, gd⟩ env l (.string (strOf ((xs.take hi).drop lo))) :=
  Y.of fun a w hfr _ => by
    have g1 := hT.und w hd
    rw [hk] at g1
    have hsz : s.size = xs.length := by rw [← hs, bytesS_length]
    have hb : (Instr.sliceBounds false s.size s.size (ol.map a.eval) (oh.map a.eval) none).run P w = .ok (lo, hi, s.size) w := by
      unfold Instr.sliceBounds
      rcases hol with ⟨rfl, rfl⟩ | ⟨o, kl, il, rfl, ho, rfl⟩ <;> rcases hoh with ⟨rfl, rfl⟩ | ⟨o', kh, ih, rfl, ho', rfl⟩
      · simp [hsz]
      · have q : (0:Int) ≤ (hi:Int) ∧ (hi:Int) ≤ (s.size:Int) := by omega
        simp [Instr.sliceBound, hfr.eval ho', asIntOf, hsz, h2]
      · simp [Instr.sliceBound, hfr.eval ho, asIntOf, hsz, h1]
      · simp [Instr.sliceBound, hfr.eval ho, hfr.eval ho', asIntOf, hsz, h1, h2]
    have e := extract_strOf s lo hi
    rw [hs] at e
    simp [execOp, hfr.eval hx, Instr.sliceAt, Instr.slice, g1, hb, e]
end
end Go.SL
namespace Go.SL
open Go Go.RowKit
/-! Texts told as lists of bytes. -/
def Bys (xs : List Int) : Prop := ∀ x ∈ xs, 0 ≤ x ∧ x ≤ 255
theorem Bys.nil : Bys [] := fun _ h => by cases h
theorem Bys.cons {x : Int} {xs : List Int} (h0 : 0 ≤ x) (h1 : x ≤ 255) (h : Bys xs) : Bys (x :: xs) := fun y hy => by
  rcases List.mem_cons.1 hy with rfl | q
  · exact ⟨h0, h1⟩
  · exact h y q
theorem Bys.app {xs ys : List Int} (h : Bys xs) (h2 : Bys ys) : Bys (xs ++ ys) := fun y hy => (List.mem_append.1 hy).elim (h y) (h2 y)
theorem Bys.take {xs : List Int} (h : Bys xs) (n : Nat) : Bys (xs.take n) := fun y hy => h y (List.mem_of_mem_take hy)
theorem Bys.drop {xs : List Int} (h : Bys xs) (n : Nat) : Bys (xs.drop n) := fun y hy => h y (List.mem_of_mem_drop hy)
theorem Bys.of (s : ByteArray) : Bys (bytesS s) := bytesS_range s
theorem Bys.all {xs : List Int} (h : xs.all (fun x => decide (0 ≤ x) && decide (x ≤ 255)) = true) : Bys xs := fun x hx => by
  have := List.all_eq_true.1 h x hx
  simpa using this
theorem Bys.get {xs : List Int} (h : Bys xs) {i : Nat} {x : Int} (hx : xs[i]? = some x) : 0 ≤ x ∧ x ≤ 255 := h x (List.mem_of_getElem? hx)
theorem strOf_iff {xs ys : List Int} (hx : Bys xs) (hy : Bys ys) : strOf xs = strOf ys ↔ xs = ys := ⟨fun h => strOf_inj hx hy h, fun h => by rw [h]⟩
theorem strOf_of (s : ByteArray) : ∃ xs, s = strOf xs ∧ Bys xs ∧ xs.length = s.size := ⟨bytesS s, (strOf_bytesS s).symm, bytesS_range s, bytesS_length s⟩
section
variable {P : Program} {E : World} {n : Nat} {ds : List Deferred} {env : Fr} {l : List HProp} {T : Tab}
variable {dst : Option Tmp} {ty : TypeId} {pos : String} {af : Array Edge} {gd : Option (Nat × Bool)} {x y : Operand} {t t' : TypeId}
theorem y_lenS (hT : Tok P T) {d : TI} {xs : List Int} (hd : T.at t = some d) (hk : d.u = .string) (hx : val env x = some (.string (strOf xs))) :
    Y P E n ds ⟨dst, .call ⟨.builtin .len, #[x], #[t]⟩, ty, pos, af, gd⟩ env l (.int .i64 xs.length) := by
  have h := y_len_string (E := E) (n := n) (ds := ds) (l := l) (dst := dst) (ty := ty) (pos := pos) (af := af) (gd := gd) hT hd hk hx
  rw [strOf_size] at h
  exact h
theorem y_ixS (hT : Tok P T) {q : TI} {k : IntKind} {ix b : Int} {i : Nat} {xs : List Int} (hB : Bys xs) (hd : T.at t = some q) (hk : q.u = .string) (hx : val env x = some (.string (strOf xs))) (hy : val env y = some (.int k ix)) (hi : ix = (i : Int)) (hb : xs[i]? = some b) :
    Y P E n ds ⟨dst, .index t x y, ty, pos, af, gd⟩ env l (.int .u8 b) := y_index_str hT hd hk hx hy hi (by rw [bytesS_strOf hB]; exact hb)
theorem y_cutS (hT : Tok P T) {q : TI} {lo hi : Nat} {xs : List Int} (hB : Bys xs) (hd : T.at t = some q) (hk : q.u = .string)
    {ol oh : Option Operand} (hx : val env x = some (.string (strOf xs)))
    (hol : (ol = none ∧ lo = 0) ∨ ∃ o kl il, ol = some o ∧ val env o = some (.int kl il) ∧ il = (lo : Int))
    (hoh : (oh = none ∧ hi = xs.length) ∨ ∃ o kh ih, oh = some o ∧ val env o = some (.int kh ih) ∧ ih = (hi : Int))
    (h1 : lo ≤ hi) (h2 : hi ≤ xs.length) :
    Y P E n ds ⟨dst, .slice t x ol oh none, ty, pos, af, gd⟩ env l (.string (strOf ((xs.take hi).drop lo))) := y_slice_str hT hd hk hx (bytesS_strOf hB) hol hoh h1 h2
theorem y_eqS {xs ys : List Int} {b : Bool} (hX : Bys xs) (hY : Bys ys) (hx : val env x = some (.string (strOf xs))) (hy : val env y = some (.string (strOf ys))) (hb : b = decide (xs = ys)) :
    Y P E n ds ⟨dst, .binOp .eql t x y t', ty, pos, af, gd⟩ env l (.bool b) := y_str_eqB hx hy (by rw [hb]; exact decide_eq_decide.2 (strOf_iff hX hY))
theorem y_neS {xs ys : List Int} {b : Bool} (hX : Bys xs) (hY : Bys ys) (hx : val env x = some (.string (strOf xs))) (hy : val env y = some (.string (strOf ys))) (hb : b = decide (xs ≠ ys)) :
    Y P E n ds ⟨dst, .binOp .neq t x y t', ty, pos, af, gd⟩ env l (.bool b) := y_str_neB hx hy (by rw [hb]; exact decide_eq_decide.2 (not_congr (strOf_iff hX hY)))
end
set_option maxRecDepth 10000 in
theorem decode_high (s : ByteArray) (p : Nat) (h : p < s.size) (hb : 128 ≤ (s[p]'h).toNat) : 128 ≤ (Utf8.decode s p).1 := by
  have e : s.get! (p + 0) = s[p]'h := by
    show s.get! p = _
    simp [ByteArray.get!, getElem!_pos, h]
    rfl
  have hn : ¬ (s[p]'h).toNat < 128 := by omega
  simp only [Utf8.decode, e, hn, if_false, Utf8.runeError]
  split
  · split <;> dsimp only <;> omega
  · split
    · split
      · rename_i q
        simp only [Bool.and_eq_true, decide_eq_true_eq] at q
        dsimp only; omega
      · dsimp only; omega
    · split
      · split
        · rename_i q
          simp only [Bool.and_eq_true, decide_eq_true_eq] at q
          dsimp only; omega
        · dsimp only; omega
      · dsimp only; omega
section
variable {P : Program} {E : World} {n : Nat} {ds : List Deferred} {env : Fr} {l r : List HProp} {N : Fr → List HProp → Prop}
variable {d : Tmp} {ty : TypeId} {pos : String} {af : Array Edge} {gd : Option (Nat × Bool)} {x : Operand}
/-- The next sign of a text: a byte below 128, or something that is no such byte. -/
theorem l_nextR {b p : Nat} {xs : List Int} (hB : Bys xs) (hx : val env x = some (.pointer (some ⟨b, 0, none⟩))) (hp : Pick l (blk b (.stringIter (strOf xs) p)) r) (hn : Nat.blt d n = true)
    (h0 : xs.length ≤ p → N ((d, .tuple #[.bool false]) :: env) (blk b (.stringIter (strOf xs) p) :: r))
    (h1 : ∀ c, xs[p]? = some c → c < 128 → N ((d, .tuple #[.bool true, .int .i64 p, .int .i32 c]) :: env) (blk b (.stringIter (strOf xs) (p + 1)) :: r))
    (h2 : ∀ (c z : Int) (q : Nat), xs[p]? = some c → 128 ≤ c → 128 ≤ z → z ≤ 2147483647 → N ((d, .tuple #[.bool true, .int .i64 p, .int .i32 z]) :: env) (blk b (.stringIter (strOf xs) q) :: r)) :
    LS P E n ds ⟨some d, .next x true, ty, pos, af, gd⟩ env l N :=
  LS.of hn rfl fun a w hfr hs => by
    have s1 := hs.pick hp
    have hb := s1.block
    by_cases hlt : p < (strOf xs).size
    · have hlx : p < xs.length := by rwa [strOf_size] at hlt
      have hc : (((strOf xs)[p]'hlt).toNat : Int) = xs[p] := by
        have h := bytesS_strOf hB
        have h2 : (bytesS (strOf xs))[p]? = xs[p]? := by rw [h]
        unfold bytesS at h2
        rw [List.getElem?_map, List.getElem?_eq_getElem (by simpa using hlt), List.getElem?_eq_getElem hlx, Option.map_some] at h2
        exact Option.some.inj h2
      by_cases ha : ((strOf xs)[p]'hlt).toNat < 128
      · have hr := Lib.run_next_ascii_at (P := P) w b (strOf xs) p ty hb hlt ha
        refine ⟨_, _, _, ?_, s1.turn (w' := w.iterAt b (strOf xs) (p + 1)) rfl rfl rfl (Lib.iterAt_heap w b _ p (p + 1) hb) (fun k hk => Lib.iterAt_other w b k _ (p + 1) hk), h1 _ (List.getElem?_eq_getElem hlx) (by omega)⟩
        simp only [execOp]
        rw [hfr.eval hx]
        simp [hr, hc]
      · have hr := Lib.run_next_any_at (P := P) w b (strOf xs) p ty hb hlt
        have hd := decode_high (strOf xs) p hlt (by omega)
        have hd2 := decode_le (strOf xs) p
        refine ⟨_, _, _, ?_, s1.turn (w' := w.iterAt b (strOf xs) (p + (Utf8.decode (strOf xs) p).2)) rfl rfl rfl (Lib.iterAt_heap w b _ p _ hb) (fun k hk => Lib.iterAt_other w b k _ _ hk), h2 _ ((Utf8.decode (strOf xs) p).1 : Nat) (p + (Utf8.decode (strOf xs) p).2) (List.getElem?_eq_getElem hlx) (by omega) (by omega) (by omega)⟩
        simp only [execOp]
        rw [hfr.eval hx]
        simp [hr]
    · have hr := Lib.run_next_end_at (P := P) w b (strOf xs) p ty hb hlt
      refine ⟨_, w, _, ?_, s1, h0 (by rw [strOf_size] at hlt; omega)⟩
      simp only [execOp]
      rw [hfr.eval hx]
      simp [hr]
/-- The next sign, in two ways: the end, or a sign that is the byte, or that is none. -/
theorem l_nextC {b p : Nat} {xs : List Int} (hB : Bys xs) (hx : val env x = some (.pointer (some ⟨b, 0, none⟩))) (hp : Pick l (blk b (.stringIter (strOf xs) p)) r) (hn : Nat.blt d n = true)
    (h0 : xs.length ≤ p → N ((d, .tuple #[.bool false]) :: env) (blk b (.stringIter (strOf xs) p) :: r))
    (h1 : ∀ (c z : Int) (q : Nat), xs[p]? = some c → (0 ≤ c ∧ c < 128 ∧ z = c ∧ q = p + 1) ∨ (128 ≤ c ∧ 128 ≤ z ∧ z ≤ 2147483647) → N ((d, .tuple #[.bool true, .int .i64 p, .int .i32 z]) :: env) (blk b (.stringIter (strOf xs) q) :: r)) :
    LS P E n ds ⟨some d, .next x true, ty, pos, af, gd⟩ env l N :=
  l_nextR hB hx hp hn h0 (fun c hc h => h1 c c (p + 1) hc (.inl ⟨(hB.get hc).1, h, rfl, rfl⟩)) (fun c z q hc h2 h3 h4 => h1 c z q hc (.inr ⟨h2, h3, h4⟩))
end
section
variable {P : Program} {E : World} {n : Nat} {ds : List Deferred} {env : Fr} {l : List HProp} {T : Tab}
variable {dst : Option Tmp} {ty : TypeId} {pos : String} {af : Array Edge} {gd : Option (Nat × Bool)} {x : Operand} {t t' : TypeId}
/-- Is there an error? -/
theorem y_ifnil {ms : Array (String × TypeId)} (hu : P.underlying t = some (.interface ms)) {v : Value} {b : Bool} (hx : val env x = some v) (hv : (b = true ∧ v = .nilIface) ∨ (b = false ∧ ∃ te pe, v = .iface te pe)) :
    Y P E n ds ⟨dst, .binOp .eql t x (.const .nilIface) t', ty, pos, af, gd⟩ env l (.bool b) :=
  Y.of fun a w hf _ => by
    rcases hv with ⟨rfl, rfl⟩ | ⟨rfl, te, pe, rfl⟩
    · have h : (binOp .eql t .nilIface .nilIface).run P w = .ok (.bool true) w := by
        have e : (Op.equalIn 10000 t .nilIface .nilIface).run P w = .ok true w := by
          rw [Op.equalIn]
          simp only [Sem.run_bind, run_underlying hu, Result.andThen_ok]
          rfl
        simp only [binOp, Op.equal, Op.maxDepth, Sem.run_bind, e, Result.andThen_ok, Sem.run_pure]
      simp only [execOp, hf.eval hx, hf.eval (show val env (.const .nilIface) = some .nilIface from rfl), eqGuard_nil_constR, Sem.run_bind, Sem.run_pure, Result.andThen_ok, h]
    · have h : (binOp .eql t (.iface te pe) .nilIface).run P w = .ok (.bool false) w := by
        have e : (Op.equalIn 10000 t (.iface te pe) .nilIface).run P w = .ok false w := by
          rw [Op.equalIn]
          simp only [Sem.run_bind, run_underlying hu, Result.andThen_ok]
          rfl
        simp only [binOp, Op.equal, Op.maxDepth, Sem.run_bind, e, Result.andThen_ok, Sem.run_pure]
      simp only [execOp, hf.eval hx, hf.eval (show val env (.const .nilIface) = some .nilIface from rfl), eqGuard_at_iface, Sem.run_bind, Sem.run_pure, Result.andThen_ok, h]
/-- A number turned into a text: its sign, in bytes. -/
theorem y_convSign {T : Tab} (hT : Tok P T) {s d : TI} {k : IntKind} {i : Int} {u : ByteArray} (hs : T.at t = some s) (hd : T.at t' = some d) (hk : d.u = .string) (hx : val env x = some (.int k i)) (hu : Utf8.encode i = u) :
    Y P E n ds ⟨dst, .convert t t' x, ty, pos, af, gd⟩ env l (.string u) :=
  Y.of fun a w hf _ => by
    simp only [execOp, hf.eval hx, convert]
    simp only [Sem.run_bind, hT.und w hs, hT.und w hd, Result.andThen_ok, hk]
    rw [← hu]
    cases s.u <;> simp [Conv.intToString]
/-- A number's bits turned over. -/
theorem y_cplI {i m : Int} (hx : val env x = some (.int .i64 i)) (hr : bitsE .xor .i64 (-1) i = some m) : Y P E n ds ⟨dst, .unOp .xor t x, ty, pos, af, gd⟩ env l (.int .i64 m) :=
  Y.of fun w _ hf _ => by
    have e : IntKind.i64.wrap ((BitVec.ofInt 64 (-1) ^^^ BitVec.ofInt 64 i).toNat : Int) = m := Option.some.inj hr
    simp only [execOp, hf.eval hx, Op.unary, Op.intBits]
    rw [← e]
    rfl
end
end Go.SL
namespace Go.SL
open Go Go.RowKit
/-! Values of many cells: compared, and as keys of maps. -/
/-- A cell's kind. -/
inductive CK where
  | int (k : IntKind)
  | str
  | bool
def CK.fits : CK → Value → Prop
  | .int k, v => ∃ n, v = .int k n
  | .str, v => ∃ s, v = .string s
  | .bool, v => ∃ b, v = .bool b
def Fits : List CK → List Value → Prop
  | [], [] => True
  | k :: ks, v :: vs => k.fits v ∧ Fits ks vs
  | _, _ => False
theorem Fits.length : ∀ {ks : List CK} {vs : List Value}, Fits ks vs → vs.length = ks.length
  | [], [], _ => rfl
  | _ :: _, _ :: _, h => by simp [Fits.length h.2]
  | [], _ :: _, h => h.elim
  | _ :: _, [], h => h.elim
theorem Fits.append : ∀ {k1 k2 : List CK} {vs : List Value}, Fits (k1 ++ k2) vs ↔ Fits k1 (vs.take k1.length) ∧ Fits k2 (vs.drop k1.length)
  | [], k2, vs => by simp [Fits]
  | k :: k1, k2, [] => by simp [Fits]
  | k :: k1, k2, v :: vs => by
    simp only [List.cons_append, Fits, List.length_cons, List.take_succ_cons, List.drop_succ_cons]
    rw [Fits.append (k1 := k1)]
    exact and_assoc.symm
theorem Fits.app {k1 k2 : List CK} {v1 v2 : List Value} (h1 : Fits k1 v1) (h2 : Fits k2 v2) : Fits (k1 ++ k2) (v1 ++ v2) := by
  rw [Fits.append, ← h1.length, List.take_left, List.drop_left]
  exact ⟨h1, h2⟩
theorem Fits.ints (k : IntKind) : ∀ xs : List Int, Fits (List.replicate xs.length (.int k)) (SL.ints k xs)
  | [] => trivial
  | x :: xs => ⟨⟨x, rfl⟩, Fits.ints k xs⟩
def flatF (f : TypeId → Option (List CK)) : Nat → List Field → Option (List CK)
  | _, [] => some []
  | off, fd :: r => if fd.offset = off ∧ fd.name ≠ "_" then
      match f fd.type with
      | none => none
      | some ks => match flatF f (off + ks.length) r with
        | none => none
        | some rs => some (ks ++ rs)
    else none
def flatU (f : TypeId → Option (List CK)) : TypeDesc → Option (List CK)
  | .int k => some [.int k]
  | .string => some [.str]
  | .bool => some [.bool]
  | .array m e => match f e with
    | none => none
    | some ks => some (List.replicate m ks).flatten
  | .struct fs => flatF f 0 fs.toList
  | _ => none
/-- The kinds of a type's cells, if they are whole numbers, texts and bools alone. -/
def flatK (T : Tab) : Nat → TypeId → Option (List CK)
  | 0, _ => none
  | n + 1, t => match T.at t with
    | none => none
    | some i => match flatU (flatK T n) i.u with
      | none => none
      | some ks => if ks.length = i.size then some ks else none
theorem flatK_at {T : Tab} {n : Nat} {t : TypeId} {ks : List CK} (h : flatK T (n + 1) t = some ks) : ∃ i, T.at t = some i ∧ flatU (flatK T n) i.u = some ks ∧ ks.length = i.size := by
  rw [flatK] at h
  cases e1 : T.at t with
  | none => rw [e1] at h; cases h
  | some i =>
    rw [e1] at h
    cases e2 : flatU (flatK T n) i.u with
    | none => simp only [e2] at h; cases h
    | some k2 =>
      simp only [e2] at h
      split at h
      · cases h; rename_i e3; exact ⟨i, rfl, e2, e3⟩
      · cases h
theorem take_split {α : Type} (L : List α) (off a b : Nat) : (L.drop off).take (a + b) = (L.drop off).take a ++ (L.drop (off + a)).take b := by
  rw [List.take_add, List.drop_drop]
/-- What a part of some cells is. -/
def IsPart (P : Program) (w : World) (t : TypeId) (X : Array Value) (off n : Nat) (v : Value) : Prop := (part t X off).run P w = .ok v w
section
variable {P : Program} {T : Tab}
theorem part_one (hT : Tok P T) {w : World} {t : TypeId} {i : TI} {X : Array Value} {off : Nat} {v : Value} (hi : T.at t = some i) (ha : isAggB i.u = false) (h : X.toList[off]? = some v) : (part t X off).run P w = .ok v w := by
  have h2 := hT.agg w hi
  have e : X[off]? = some v := by rw [← Array.getElem?_toList]; exact h
  simp [part, h2, ha, e]
theorem part_agg (hT : Tok P T) {w : World} {t : TypeId} {i : TI} {X : Array Value} {off : Nat} (hi : T.at t = some i) (ha : isAggB i.u = true) : (part t X off).run P w = .ok (.agg (X.extract off (off + i.size))) w := by
  have h2 := hT.agg w hi
  have h3 := hT.siz w hi
  simp [part, h2, ha, h3]
theorem drop_one {L : List Value} {off : Nat} {k : CK} (h : Fits [k] ((L.drop off).take 1)) : ∃ v, L[off]? = some v ∧ (L.drop off).take 1 = [v] ∧ k.fits v := by
  cases e : L.drop off with
  | nil => rw [e] at h; exact h.elim
  | cons v r =>
    rw [e] at h
    refine ⟨v, ?_, by simp, h.1⟩
    have := congrArg (fun (z : List Value) => z[0]?) e
    simpa using this
theorem extract_list (X : Array Value) (off n : Nat) : (X.extract off (off + n)).toList = (X.toList.drop off).take n := by
  rw [Array.toList_extract, List.extract_eq_take_drop]
  congr 1
  omega
theorem chunks_eq {k : Nat} : ∀ (m : Nat) (A B : List Value), A.length = m * k → B.length = m * k → ((∀ a, a < m → (A.drop (a * k)).take k = (B.drop (a * k)).take k) ↔ A = B)
  | 0, A, B, ha, hb => by
    rw [Nat.zero_mul] at ha hb
    rw [List.eq_nil_of_length_eq_zero ha, List.eq_nil_of_length_eq_zero hb]
    simp
  | m + 1, A, B, ha, hb => by
    have e : (m + 1) * k = k + m * k := by rw [Nat.add_mul]; omega
    rw [e] at ha hb
    have ih := chunks_eq (k := k) m (A.drop k) (B.drop k) (by rw [List.length_drop]; omega) (by rw [List.length_drop]; omega)
    constructor
    · intro h
      have h0 := h 0 (by omega)
      rw [Nat.zero_mul, List.drop_zero, List.drop_zero] at h0
      have h1 := ih.1 fun a ha => by
        have := h (a + 1) (by omega)
        rw [List.drop_drop, List.drop_drop]
        rwa [show (a + 1) * k = k + a * k by rw [Nat.add_mul]; omega] at this
      rw [← List.take_append_drop k A, ← List.take_append_drop k B, h0, h1]
    · rintro rfl a _
      rfl
theorem Fits.rep {ks : List CK} : ∀ (m : Nat) {vs : List Value}, Fits (List.replicate m ks).flatten vs → ∀ a, a < m → Fits ks ((vs.drop (a * ks.length)).take ks.length)
  | m + 1, vs, h, 0, _ => by
    rw [List.replicate_succ, List.flatten_cons, Fits.append] at h
    simpa using h.1
  | m + 1, vs, h, a + 1, ha => by
    rw [List.replicate_succ, List.flatten_cons, Fits.append] at h
    have := Fits.rep m h.2 a (by omega)
    rwa [List.drop_drop, show ks.length + a * ks.length = (a + 1) * ks.length by rw [Nat.add_mul]; omega] at this
theorem holds_struct {n : Nat} {t : TypeId} {fs : Array Field} (h : P.holdsStoodIn (n + 1) t = false) (hu : P.underlying t = some (.struct fs)) : P.stoodInHeld t = false ∧ ∀ f ∈ fs.toList, P.holdsStoodIn n f.type = false := by
  rw [Program.holdsStoodIn, hu] at h
  simp only [Bool.or_eq_false_iff] at h
  refine ⟨h.1, fun f hf => ?_⟩
  have h2 := h.2
  rw [← Array.any_toList, List.any_eq_false] at h2
  simpa using h2 f hf
theorem holds_array {n m : Nat} {t e : TypeId} (h : P.holdsStoodIn (n + 1) t = false) (hu : P.underlying t = some (.array m e)) : P.holdsStoodIn n e = false := by
  rw [Program.holdsStoodIn, hu] at h
  simp only [Bool.or_eq_false_iff] at h
  exact h.2
theorem flat_eq (hT : Tok P T) (q : Nat) (w : World) : ∀ (n : Nat) (t : TypeId) (ks : List CK), flatK T n t = some ks → P.holdsStoodIn n t = false → ∀ (X Y : Array Value) (off : Nat), Fits ks ((X.toList.drop off).take ks.length) → Fits ks ((Y.toList.drop off).take ks.length) →
    ∃ (r : Bool) (a b : Value), (part t X off).run P w = .ok a w ∧ (part t Y off).run P w = .ok b w ∧ (Op.equalIn (q + n) t a b).run P w = .ok r w ∧ (r = true ↔ (X.toList.drop off).take ks.length = (Y.toList.drop off).take ks.length)
  | 0, t, ks, h, _, _, _, _, _, _ => by cases h
  | n + 1, t, ks, h, hs, X, Y, off, fx, fy => by
    classical
    obtain ⟨i, hi, hu, hl⟩ := flatK_at h
    have hut := (hT t i hi).1
    have IH := flat_eq hT q w n
    rw [show q + (n + 1) = (q + n) + 1 by omega]
    cases hk : i.u with
    | int k =>
      rw [hk] at hu hut
      cases hu
      obtain ⟨x, hx1, hx2, ⟨a, rfl⟩⟩ := drop_one fx
      obtain ⟨y, hy1, hy2, ⟨b, rfl⟩⟩ := drop_one fy
      refine ⟨a == b, _, _, part_one hT hi (by rw [hk]; rfl) hx1, part_one hT hi (by rw [hk]; rfl) hy1, run_equalIn_int w _ t k k a b hut, ?_⟩
      simp only [List.length_cons, List.length_nil, Nat.zero_add]
      rw [hx2, hy2]
      simp
    | string =>
      rw [hk] at hu hut
      cases hu
      obtain ⟨x, hx1, hx2, ⟨a, rfl⟩⟩ := drop_one fx
      obtain ⟨y, hy1, hy2, ⟨b, rfl⟩⟩ := drop_one fy
      refine ⟨decide (a = b), _, _, part_one hT hi (by rw [hk]; rfl) hx1, part_one hT hi (by rw [hk]; rfl) hy1, by rw [run_equalIn_string w _ t a b hut, bytes_beq], ?_⟩
      simp only [List.length_cons, List.length_nil, Nat.zero_add]
      rw [hx2, hy2]
      simp
    | bool =>
      rw [hk] at hu hut
      cases hu
      obtain ⟨x, hx1, hx2, ⟨a, rfl⟩⟩ := drop_one fx
      obtain ⟨y, hy1, hy2, ⟨b, rfl⟩⟩ := drop_one fy
      refine ⟨a == b, _, _, part_one hT hi (by rw [hk]; rfl) hx1, part_one hT hi (by rw [hk]; rfl) hy1, run_equalIn_bool' w _ t a b hut, ?_⟩
      simp only [List.length_cons, List.length_nil, Nat.zero_add]
      rw [hx2, hy2]
      simp
    | array m e =>
      rw [hk] at hu hut
      rw [flatU] at hu
      cases he : flatK T n e with
      | none => rw [he] at hu; cases hu
      | some ke =>
        rw [he] at hu
        simp only [Option.some.injEq] at hu
        obtain ⟨j, hj, hlj⟩ : ∃ j, T.at e = some j ∧ ke.length = j.size := by
          cases n with
          | zero => cases he
          | succ n => obtain ⟨j, h1, _, h3⟩ := flatK_at he; exact ⟨j, h1, h3⟩
        have hse := holds_array hs hut
        have hlk : ks.length = m * ke.length := by rw [← hu]; simp
        refine ⟨(List.range' 0 m 1).all fun a => decide ((X.toList.drop (off + a * ke.length)).take ke.length = (Y.toList.drop (off + a * ke.length)).take ke.length), _, _, part_agg hT hi (by rw [hk]; rfl), part_agg hT hi (by rw [hk]; rfl), ?_, ?_⟩
        · have h3 : (sizeOf e).run P w = .ok ke.length w := by rw [hT.siz w hj, hlj]
          rw [Op.equalIn]
          simp only [Sem.run_bind, run_underlying hut, Result.andThen_ok, h3, Std.Legacy.Range.forIn_eq_forIn_range', Std.Legacy.Range.size, Nat.sub_zero, Nat.add_sub_cancel, Nat.div_one]
          have hlt : ∀ a ∈ List.range' 0 m 1, a < m := fun a ha => by simpa using (List.mem_range'_1.1 ha).2
          generalize List.range' 0 m 1 = l at hlt ⊢
          induction l with
          | nil => simp
          | cons a l ih =>
            have ha : a < m := hlt a (by simp)
            have hcut : ∀ Z : Array Value, ((Z.extract off (off + i.size)).toList.drop (a * ke.length)).take ke.length = (Z.toList.drop (off + a * ke.length)).take ke.length := fun Z => by
              rw [extract_list, ← hl, hlk, List.drop_take, List.take_take, List.drop_drop, Nat.min_eq_left]
              have := Nat.mul_le_mul_right ke.length (show a + 1 ≤ m from ha)
              rw [Nat.add_mul] at this
              omega
            have hfit : ∀ Z : Array Value, Fits ks ((Z.toList.drop off).take ks.length) → Fits ke (((Z.extract off (off + i.size)).toList.drop (a * ke.length)).take ke.length) := fun Z hz => by
              have hz2 : Fits (List.replicate m ke).flatten ((Z.toList.drop off).take ks.length) := by rw [hu]; exact hz
              have := hz2.rep m a ha
              rwa [extract_list, ← hl]
            obtain ⟨r, va, vb, p1, p2, p3, p4⟩ := IH e ke he hse (X.extract off (off + i.size)) (Y.extract off (off + i.size)) (a * ke.length) (hfit X fx) (hfit Y fy)
            rw [hcut X, hcut Y] at p4
            have hr : r = decide ((X.toList.drop (off + a * ke.length)).take ke.length = (Y.toList.drop (off + a * ke.length)).take ke.length) := by
              rw [Bool.eq_iff_iff, p4, decide_eq_true_iff]
            subst hr
            simp only [List.forIn_cons, Sem.run_bind, p1, p2, p3, Result.andThen_ok, List.all_cons]
            cases hb : decide ((X.toList.drop (off + a * ke.length)).take ke.length = (Y.toList.drop (off + a * ke.length)).take ke.length)
            · simp
            · simp only [Bool.not_true, Bool.false_eq_true, if_false, Sem.run_pure, Result.andThen_ok, Bool.true_and]
              exact ih fun b hb => hlt b (by simp [hb])
        · rw [List.all_eq_true, ← chunks_eq m _ _ (by rw [fx.length, hlk]) (by rw [fy.length, hlk])]
          have hcut : ∀ (Z : Array Value) (a : Nat), a < m → (((Z.toList.drop off).take ks.length).drop (a * ke.length)).take ke.length = (Z.toList.drop (off + a * ke.length)).take ke.length := fun Z a ha => by
            rw [hlk, List.drop_take, List.take_take, List.drop_drop, Nat.min_eq_left]
            have := Nat.mul_le_mul_right ke.length (show a + 1 ≤ m from ha)
            rw [Nat.add_mul] at this
            omega
          constructor
          · intro hall a ha
            rw [hcut X a ha, hcut Y a ha]
            exact of_decide_eq_true (hall a (by rw [List.mem_range'_1]; omega))
          · intro hall a ha
            have ha : a < m := by simpa using (List.mem_range'_1.1 ha).2
            have := hall a ha
            rw [hcut X a ha, hcut Y a ha] at this
            exact decide_eq_true this
    | struct fs =>
      rw [hk] at hu hut
      rw [flatU] at hu
      obtain ⟨hst, hsf⟩ := holds_struct hs hut
      have hfo : P.fieldsOf t = fs := by unfold Program.fieldsOf; rw [hut]
      have key : ∀ (l : List Field) (o : Nat) (kf : List CK), flatF (flatK T n) o l = some kf → (∀ f ∈ l, P.holdsStoodIn n f.type = false) → ∀ X Y : Array Value, Fits kf ((X.toList.drop o).take kf.length) → Fits kf ((Y.toList.drop o).take kf.length) →
          ∃ r : Bool, (Op.eqFields (q + n) X Y l).run P w = .ok r w ∧ (r = true ↔ (X.toList.drop o).take kf.length = (Y.toList.drop o).take kf.length) := by
        intro l
        induction l with
        | nil => intro o kf hf _ X Y _ _; cases hf; exact ⟨true, by simp [Op.eqFields], by simp⟩
        | cons f l ih =>
          intro o kf hf hsl X Y gx gy
          rw [flatF] at hf
          split at hf
          · rename_i hc
            obtain ⟨ho, hn⟩ := hc
            cases e1 : flatK T n f.type with
            | none => rw [e1] at hf; cases hf
            | some k1 =>
              rw [e1] at hf
              simp only at hf
              cases e2 : flatF (flatK T n) (o + k1.length) l with
              | none => rw [e2] at hf; cases hf
              | some k2 =>
                rw [e2] at hf
                cases hf
                rw [List.length_append, take_split] at gx gy ⊢
                rw [take_split]
                have l1 : ∀ {Z : Array Value}, Fits (k1 ++ k2) ((Z.toList.drop o).take k1.length ++ (Z.toList.drop (o + k1.length)).take k2.length) → Fits k1 ((Z.toList.drop o).take k1.length) ∧ Fits k2 ((Z.toList.drop (o + k1.length)).take k2.length) := fun {Z} g => by
                  have gl := g.length
                  have e3 : ((Z.toList.drop o).take k1.length).length = k1.length := by
                    rw [List.length_append, List.length_append, List.length_take, List.length_take] at gl
                    rw [List.length_take]
                    omega
                  rw [Fits.append] at g
                  rw [List.take_left' e3, List.drop_left' e3] at g
                  exact g
                obtain ⟨gx1, gx2⟩ := l1 gx
                obtain ⟨gy1, gy2⟩ := l1 gy
                obtain ⟨r, a, b, p1, p2, p3, p4⟩ := IH f.type k1 e1 (hsl f (by simp)) X Y o gx1 gy1
                obtain ⟨r2, p5, p6⟩ := ih _ _ e2 (fun g hg => hsl g (by simp [hg])) X Y gx2 gy2
                subst ho
                have hlen : ((X.toList.drop f.offset).take k1.length).length = ((Y.toList.drop f.offset).take k1.length).length := by rw [gx1.length, gy1.length]
                refine ⟨r && r2, ?_, ?_⟩
                · rw [Op.eqFields, if_pos hn]
                  simp only [Sem.run_bind, p1, p2, p3, Result.andThen_ok]
                  cases r
                  · simp
                  · simpa using p5
                · rw [Bool.and_eq_true, p4, p6]
                  constructor
                  · rintro ⟨h1, h2⟩; rw [h1, h2]
                  · intro h; exact List.append_inj h hlen
          · cases hf
      have hcut : ∀ Z : Array Value, ((Z.extract off (off + i.size)).toList.drop 0).take ks.length = (Z.toList.drop off).take ks.length := fun Z => by
        rw [extract_list, List.drop_zero, List.take_take, hl, Nat.min_self]
      obtain ⟨r, p1, p2⟩ := key fs.toList 0 ks hu hsf (X.extract off (off + i.size)) (Y.extract off (off + i.size)) (by rw [hcut]; exact fx) (by rw [hcut]; exact fy)
      rw [hcut, hcut] at p2
      refine ⟨r, _, _, part_agg hT hi (by rw [hk]; rfl), part_agg hT hi (by rw [hk]; rfl), ?_, p2⟩
      rw [run_equalIn_struct w (q + n) t _ _ (by rw [hfo]; exact hut) hst, hfo]
      exact p1
    | _ => rw [hk] at hu; cases hu
theorem flat_chk (hT : Tok P T) (em : Bool) (q : Nat) (w : World) : ∀ (n : Nat) (t : TypeId) (ks : List CK), flatK T n t = some ks → ∀ (X : Array Value) (off : Nat), Fits ks ((X.toList.drop off).take ks.length) →
    ∃ a, (part t X off).run P w = .ok a w ∧ (Instr.checkKey em (q + n) t a).run P w = .ok () w
  | 0, t, ks, h, _, _, _ => by cases h
  | n + 1, t, ks, h, X, off, fx => by
    obtain ⟨i, hi, hu, hl⟩ := flatK_at h
    have hut := (hT t i hi).1
    have IH := flat_chk hT em q w n
    rw [show q + (n + 1) = (q + n) + 1 by omega]
    cases hk : i.u with
    | int k =>
      rw [hk] at hu hut
      cases hu
      obtain ⟨x, hx1, hx2, ⟨a, rfl⟩⟩ := drop_one fx
      refine ⟨_, part_one hT hi (by rw [hk]; rfl) hx1, ?_⟩
      rw [Instr.checkKey.eq_def]
      simp [run_underlying hut]
    | string =>
      rw [hk] at hu hut
      cases hu
      obtain ⟨x, hx1, hx2, ⟨a, rfl⟩⟩ := drop_one fx
      refine ⟨_, part_one hT hi (by rw [hk]; rfl) hx1, ?_⟩
      rw [Instr.checkKey.eq_def]
      simp [run_underlying hut]
    | bool =>
      rw [hk] at hu hut
      cases hu
      obtain ⟨x, hx1, hx2, ⟨a, rfl⟩⟩ := drop_one fx
      refine ⟨_, part_one hT hi (by rw [hk]; rfl) hx1, ?_⟩
      rw [Instr.checkKey.eq_def]
      simp [run_underlying hut]
    | array m e =>
      rw [hk] at hu hut
      rw [flatU] at hu
      cases he : flatK T n e with
      | none => rw [he] at hu; cases hu
      | some ke =>
        rw [he] at hu
        simp only [Option.some.injEq] at hu
        obtain ⟨j, hj, hlj⟩ : ∃ j, T.at e = some j ∧ ke.length = j.size := by
          cases n with
          | zero => cases he
          | succ n => obtain ⟨j, h1, _, h3⟩ := flatK_at he; exact ⟨j, h1, h3⟩
        refine ⟨_, part_agg hT hi (by rw [hk]; rfl), ?_⟩
        have h3 : (sizeOf e).run P w = .ok ke.length w := by rw [hT.siz w hj, hlj]
        rw [Instr.checkKey.eq_def]
        simp only [Sem.run_bind, run_underlying hut, Result.andThen_ok, Std.Legacy.Range.forIn_eq_forIn_range', Std.Legacy.Range.size, Nat.sub_zero, Nat.add_sub_cancel, Nat.div_one]
        have hlt : ∀ a ∈ List.range' 0 m 1, a < m := fun a ha => by simpa using (List.mem_range'_1.1 ha).2
        generalize List.range' 0 m 1 = l at hlt ⊢
        induction l with
        | nil => simp
        | cons a l ih =>
          have ha : a < m := hlt a (by simp)
          have hfit : Fits ke (((X.extract off (off + i.size)).toList.drop (a * ke.length)).take ke.length) := by
            have hz2 : Fits (List.replicate m ke).flatten ((X.toList.drop off).take ks.length) := by rw [hu]; exact fx
            have := hz2.rep m a ha
            rwa [extract_list, ← hl]
          obtain ⟨va, p1, p2⟩ := IH e ke he (X.extract off (off + i.size)) (a * ke.length) hfit
          simp only [List.forIn_cons, Sem.run_bind, h3, p1, p2, Result.andThen_ok, Sem.run_pure]
          exact ih fun b hb => hlt b (by simp [hb])
    | struct fs =>
      rw [hk] at hu hut
      rw [flatU] at hu
      refine ⟨_, part_agg hT hi (by rw [hk]; rfl), ?_⟩
      have hcut : ((X.extract off (off + i.size)).toList.drop 0).take ks.length = (X.toList.drop off).take ks.length := by
        rw [extract_list, List.drop_zero, List.take_take, hl, Nat.min_self]
      have gx : Fits ks (((X.extract off (off + i.size)).toList.drop 0).take ks.length) := by rw [hcut]; exact fx
      rw [Instr.checkKey.eq_def]
      simp only [Sem.run_bind, run_underlying hut, Result.andThen_ok]
      rw [← Array.forIn_toList]
      generalize X.extract off (off + i.size) = Z at gx ⊢
      clear hcut fx
      generalize 0 = o at hu gx
      generalize fs.toList = l at hu ⊢
      clear h hl
      induction l generalizing o ks with
      | nil => simp
      | cons f l ih =>
        rw [flatF] at hu
        split at hu
        · rename_i hc
          obtain ⟨ho, hn⟩ := hc
          cases e1 : flatK T n f.type with
          | none => rw [e1] at hu; cases hu
          | some k1 =>
            rw [e1] at hu
            simp only at hu
            cases e2 : flatF (flatK T n) (o + k1.length) l with
            | none => rw [e2] at hu; cases hu
            | some k2 =>
              rw [e2] at hu
              cases hu
              rw [List.length_append, take_split] at gx
              have gl := gx.length
              have e3 : ((Z.toList.drop o).take k1.length).length = k1.length := by
                rw [List.length_append, List.length_append, List.length_take, List.length_take] at gl
                rw [List.length_take]
                omega
              rw [Fits.append, List.take_left' e3, List.drop_left' e3] at gx
              obtain ⟨a, p1, p2⟩ := IH f.type k1 e1 Z o gx.1
              subst ho
              simp only [List.forIn_cons, Sem.run_bind, hn, ne_eq, not_false_eq_true, if_true, p1, p2, Result.andThen_ok, Sem.run_pure]
              exact ih _ _ gx.2 e2
        · cases hu
    | _ => rw [hk] at hu; cases hu
theorem flat_same (n : Nat) : ∀ (ks : List CK) (vs : List Value), Fits ks vs → (vs.zip vs).all (fun (x, y) => Instr.sameBits n x y) = true
  | [], [], _ => rfl
  | k :: ks, v :: vs, h => by
    rw [List.zip_cons_cons, List.all_cons, flat_same n ks vs h.2, Bool.and_true]
    have h1 := h.1
    cases k with
    | int k => obtain ⟨a, rfl⟩ := h1; unfold Instr.sameBits; simp
    | str => obtain ⟨a, rfl⟩ := h1; unfold Instr.sameBits; exact (beq_str a a).trans (by simp)
    | bool => obtain ⟨a, rfl⟩ := h1; unfold Instr.sameBits; simp
/-- Whole values are equal if their cells are. -/
theorem flat_equal (hT : Tok P T) {n : Nat} {t : TypeId} {i : TI} {ks : List CK} (hk : flatK T n t = some ks) (hn : Nat.ble n 10000 = true) (hs : P.holdsStoodIn n t = false) (hi : T.at t = some i) (ha : isAggB i.u = true) (w : World) {xs ys : List Value} (fx : Fits ks xs) (fy : Fits ks ys) :
    ∃ r : Bool, (Op.equalIn 10000 t (.agg xs.toArray) (.agg ys.toArray)).run P w = .ok r w ∧ (r = true ↔ xs = ys) := by
  have hn := Nat.le_of_ble_eq_true hn
  have hl : ks.length = i.size := by
    cases n with
    | zero => cases hk
    | succ n => obtain ⟨j, h1, _, h3⟩ := flatK_at hk; rw [hi] at h1; cases h1; exact h3
  have ex : (xs.toArray.toList.drop 0).take ks.length = xs := by simp [← fx.length]
  have ey : (ys.toArray.toList.drop 0).take ks.length = ys := by simp [← fy.length]
  obtain ⟨r, a, b, p1, p2, p3, p4⟩ := flat_eq hT (10000 - n) w n t ks hk hs xs.toArray ys.toArray 0 (by rw [ex]; exact fx) (by rw [ey]; exact fy)
  rw [ex, ey] at p4
  have q1 : ∀ zs : List Value, Fits ks zs → zs.toArray.extract 0 (0 + i.size) = zs.toArray := fun zs hz => by
    have := hz.length
    apply Array.ext'
    rw [extract_list, ← hl, List.drop_zero]
    simp [← this]
  have p1' := part_agg hT (w := w) (X := xs.toArray) (off := 0) hi ha
  have p2' := part_agg hT (w := w) (X := ys.toArray) (off := 0) hi ha
  rw [p1] at p1'
  rw [p2] at p2'
  rw [q1 xs fx] at p1'
  rw [q1 ys fy] at p2'
  simp only [Result.ok.injEq, and_true] at p1' p2'
  subst p1' p2'
  rw [show 10000 - n + n = 10000 by omega] at p3
  exact ⟨r, p3, p4⟩
theorem keyFlat (hT : Tok P T) {α : Type} [DecidableEq α] {n : Nat} {kt : TypeId} {i : TI} {ks : List CK} {cells : α → List Value} {ok : α → Prop} (hk : flatK T n kt = some ks) (hn : Nat.ble n 10000 = true) (hs : P.holdsStoodIn n kt = false) (hi : T.at kt = some i) (ha : isAggB i.u = true)
    (hf : ∀ a, ok a → Fits ks (cells a)) (hinj : ∀ a b, ok a → ok b → cells a = cells b → a = b) : KeyOk P kt (fun a => .agg (cells a).toArray) ok where
  chk w em a hoa := by
    have hn := Nat.le_of_ble_eq_true hn
    have hl : ks.length = i.size := by
      cases n with
      | zero => cases hk
      | succ n => obtain ⟨j, h1, _, h3⟩ := flatK_at hk; rw [hi] at h1; cases h1; exact h3
    have fx := hf a hoa
    have ex : ((cells a).toArray.toList.drop 0).take ks.length = cells a := by simp [← fx.length]
    obtain ⟨v, p1, p2⟩ := flat_chk hT em (10000 - n) w n kt ks hk (cells a).toArray 0 (by rw [ex]; exact fx)
    have p1' := part_agg hT (w := w) (X := (cells a).toArray) (off := 0) hi ha
    rw [p1] at p1'
    have q1 : (cells a).toArray.extract 0 (0 + i.size) = (cells a).toArray := by
      apply Array.ext'
      rw [extract_list, ← hl, List.drop_zero]
      simp [← fx.length]
    rw [q1] at p1'
    simp only [Result.ok.injEq, and_true] at p1'
    subst p1'
    rw [show 10000 - n + n = 10000 by omega] at p2
    exact p2
  now := by
    obtain ⟨h1, _⟩ := hT kt i hi
    refine ⟨_, h1, .inr ⟨fun a b _ _ => by cases i.u <;> rfl, fun w a b hoa hob => ?_⟩⟩
    obtain ⟨r, p1, p2⟩ := flat_equal hT hk hn hs hi ha w (hf a hoa) (hf b hob)
    have e : r = decide (a = b) := by
      rw [Bool.eq_iff_iff, p2, decide_eq_true_iff]
      exact ⟨hinj a b hoa hob, fun h => by rw [h]⟩
    subst e
    exact p1
  same a hoa := by
    unfold Instr.sameBits
    simp only [BEq.rfl, Bool.true_and]
    exact flat_same 9999 ks (cells a) (hf a hoa)
end
section
variable {P : Program} {E : World} {n : Nat} {ds : List Deferred} {env : Fr} {l : List HProp} {T : Tab}
variable {dst : Option Tmp} {ty : TypeId} {pos : String} {af : Array Edge} {gd : Option (Nat × Bool)} {x y : Operand} {t t' : TypeId}
/-- Two values of many cells are compared. -/
theorem y_flat_eq (hT : Tok P T) {m : Nat} {i : TI} {ks : List CK} {xs ys : List Value} {b : Bool} (hk : flatK T m t = some ks) (hn : Nat.ble m 10000 = true) (hs : P.holdsStoodIn m t = false) (hg : P.eqGuardType P.depth t = false) (hi : T.at t = some i) (ha : isAggB i.u = true)
    (hx : val env x = some (.agg xs.toArray)) (hy : val env y = some (.agg ys.toArray)) (fx : Fits ks xs) (fy : Fits ks ys) (hb : b = true ↔ xs = ys) :
    Y P E n ds ⟨dst, .binOp .eql t x y t', ty, pos, af, gd⟩ env l (.bool b) :=
  Y.of fun a w hf _ => by
    obtain ⟨r, p1, p2⟩ := flat_equal hT hk hn hs hi ha w fx fy
    have e : r = b := by rw [Bool.eq_iff_iff, p2, hb]
    subst e
    simp only [execOp, hf.eval hx, hf.eval hy, Sem.run_bind, run_eqGuard_agg w _ t x y _ _ hg, Result.andThen_ok, run_eql_struct, p1, Sem.run_pure]
theorem y_flat_ne (hT : Tok P T) {m : Nat} {i : TI} {ks : List CK} {xs ys : List Value} {b : Bool} (hk : flatK T m t = some ks) (hn : Nat.ble m 10000 = true) (hs : P.holdsStoodIn m t = false) (hg : P.eqGuardType P.depth t = false) (hi : T.at t = some i) (ha : isAggB i.u = true)
    (hx : val env x = some (.agg xs.toArray)) (hy : val env y = some (.agg ys.toArray)) (fx : Fits ks xs) (fy : Fits ks ys) (hb : b = true ↔ ¬ xs = ys) :
    Y P E n ds ⟨dst, .binOp .neq t x y t', ty, pos, af, gd⟩ env l (.bool b) :=
  Y.of fun a w hf _ => by
    obtain ⟨r, p1, p2⟩ := flat_equal hT hk hn hs hi ha w fx fy
    have e : (!r) = b := by rw [Bool.eq_iff_iff, hb, ← p2]; cases r <;> simp
    subst e
    simp only [execOp, hf.eval hx, hf.eval hy, Sem.run_bind, run_eqGuard_agg w _ t x y _ _ hg, Result.andThen_ok, run_neq_struct, p1, Sem.run_pure]
end
end Go.SL
namespace Go.SL
open Go Go.RowKit
/-! strings.Builder: pointers seen as unsafe ones, a text out of a buffer. -/
section
variable {P : Program} {E : World} {n : Nat} {ds : List Deferred} {env : Fr} {l r : List HProp} {T : Tab} {N : Fr → List HProp → Prop}
variable {dst : Option Tmp} {d : Tmp} {ty : TypeId} {pos : String} {af : Array Edge} {gd : Option (Nat × Bool)} {x y : Operand} {t t' : TypeId}
theorem y_toUns (hT : Tok P T) {i : TI} {e e' : TypeId} {b : Nat} {cs : List Value} (hs : P.underlying t = some (.pointer e)) (hd : P.underlying t' = some .unsafePointer) (hi : T.at e = some i) (hz : Nat.beq i.size 0 = false)
    (hp : Pick l (row b e' cs) r) (ho : 0 < cs.length) (hx : val env x = some (.pointer (some ⟨b, 0, none⟩))) :
    Y P E n ds ⟨dst, .convert t t' x, ty, pos, af, gd⟩ env l (.pointer (some ⟨b, 0, none⟩)) :=
  Y.of fun a w hf hsat => by
    obtain ⟨_, j, hj, hsz, _, _⟩ := hT e i hi
    have h := Lib.run_to_unsafe (P := P) w ⟨b, 0, none⟩ hs hd hj (by rw [hsz]; intro q; rw [q] at hz; cases hz) (hsat.pick hp).shape ho
    simp only [execOp, hf.eval hx]
    simp [h]
theorem y_fromUns {u e' : TypeId} {i : TI} {b m : Nat} {cs : List Value} (hT : Tok P T) (hs : P.underlying t = some .unsafePointer) (hd : P.underlying t' = some (.pointer u)) (hi : T.at u = some i)
    (hp : Pick l (row b e' cs) r) (hm : cs.length = m) (hl : liesAt P P.depth e' (m / P.cellsOf e') 0 u 1 = true) (hx : val env x = some (.pointer (some ⟨b, 0, none⟩))) :
    Y P E n ds ⟨dst, .convert t t' x, ty, pos, af, gd⟩ env l (.pointer (some ⟨b, 0, none⟩)) :=
  Y.of fun a w hf hsat => by
    obtain ⟨_, j, hj, _, _, _⟩ := hT u i hi
    have h := Lib.run_from_unsafe (P := P) w ⟨b, 0, none⟩ hs hd hj (hsat.pick hp).shape (by rw [hm]; exact hl)
    simp only [execOp, hf.eval hx]
    simp [h]
theorem y_sliceData {p : Addr} {k c : Nat} {ts : Array TypeId} (hx : val env x = some (.slice (some p) k c)) (hc : c ≠ 0) :
    Y P E n ds ⟨dst, .call ⟨.builtin .unsafeSliceData, #[x], ts⟩, ty, pos, af, gd⟩ env l (.pointer (some p)) :=
  Y.of fun a w hf _ => by
    have h := Lib.run_unsafeSliceData_row (P := P) w ts ty p k c hc
    simp [execOp, resolve, hf.eval hx, invoke, builtin, h]
theorem l_unsafeString {pt it e : TypeId} {g k cap : Nat} {xs : List Int} (hB : Bys xs) (hpt : P.underlying pt = some (.pointer e)) (hc : P.cellsOf e = 1) (hk : xs.length = k) (h1 : 1 ≤ k)
    (hp : Pick l (own e 1 (.slice (some ⟨g, 0, none⟩) k cap) k (xs.map (Value.int .u8))) r)
    (hx : val env x = some (.pointer (some ⟨g, 0, none⟩))) (hy : val env y = some (.int .i64 k)) (hn : Nat.blt d n = true) (hN : N ((d, .string (strOf xs)) :: env) r) :
    LS P E n ds ⟨some d, .call ⟨.builtin .unsafeString, #[x, y], #[pt, it]⟩, ty, pos, af, gd⟩ env l N :=
  LS.of hn rfl fun a w hf hs => by
    obtain ⟨hl, ⟨hh, _⟩ | ⟨g', cap', cur, he, h2, h3, h4, h5, s⟩⟩ := (hs.pick hp).own_open
    · cases hh
    · cases he
      have hb := s.block
      have hsh := s.shape
      have hlen : ((strOf xs).data.toList).length = k := by rw [strOf_data, List.length_map, hk]
      have hcell : ∀ j u, (strOf xs).data.toList[j]? = some u → w.cell? ((⟨g, 0, none⟩ : Addr).add j) = some (.int .u8 u.toNat) := by
        intro j u hj
        rw [strOf_data, List.getElem?_map] at hj
        cases hz : xs[j]? with
        | none => rw [hz] at hj; cases hj
        | some z =>
          rw [hz] at hj
          have hz2 := hB.get hz
          have hj : UInt8.ofNat z.toNat = u := Option.some.inj hj
          have hlt : j < k := by rw [← hk]; exact (List.getElem?_eq_some_iff.1 hz).1
          have hcj : cur[j]? = some (.int .u8 z) := by
            have h6 : (cur.take (k * 1))[j]? = some (.int .u8 z) := by rw [h5, List.getElem?_map, hz]; rfl
            rwa [List.getElem?_take_of_lt (by omega)] at h6
          have e1 : ((⟨g, 0, none⟩ : Addr).add j) = ⟨g, j, none⟩ := by
            simp [Addr.add]
            try omega
          rw [e1, Lib.cell_of_heap hb]
          rw [show cur.toArray[j]? = cur[j]? by simp, hcj, ← hj, UInt8.toNat_ofNat_of_lt' (by show z.toNat < 256; omega)]
          congr 2
          omega
      have hrun := Lib.run_unsafeString_row (P := P) w pt it ty e hpt hc g cur.length hsh (strOf xs).data.toList (by intro q; rw [q] at hlen; simp at hlen; omega) (by omega) (by unfold maxLen at h3; omega) hcell
      have hmk : (⟨(strOf xs).data.toList.toArray⟩ : ByteArray) = strOf xs := by simp
      rw [hlen, hmk] at hrun
      refine ⟨.string (strOf xs), w.freeze ⟨g, 0, none⟩ k, r, ?_, ?_, hN⟩
      rotate_left
      · unfold World.freeze
        rw [if_neg (by omega)]
        have ht := s.turn (w' := { w with heap := w.heap.modify g fun
            | .cells c elem (lo, hi) => .cells c elem (if lo == hi then (0, 0 + k) else (min lo 0, max hi (0 + k)))
            | o => o }) rfl rfl rfl (by rw [Array.getElem?_modify, if_pos rfl, hb]; rfl) (fun j hj => by rw [Array.getElem?_modify, if_neg (Ne.symm hj)])
        exact ht.drop
      · simp [execOp, resolve, hf.eval hx, hf.eval hy, invoke, builtin, hrun]
end
section
variable {α : Type} [DecidableEq α] {enc : α → Value} {ok : α → Prop}
variable {P : Program} {E : World} {n : Nat} {ds : List Deferred} {env : Fr} {l r : List HProp} {T : Tab} {N : Fr → List HProp → Prop}
variable {d : Tmp} {dst : Option Tmp} {ty : TypeId} {pos : String} {af : Array Edge} {gd : Option (Nat × Bool)} {x y z : Operand} {v u zv : Value} {t t' kt et : TypeId}
theorem l_insert {i : TI} {b : Nat} {m : List (α × Value)} {a : α} {kv : Value} (hT : Tok P T) (hi : T.at t = some i) (hk : i.u = .map kt et) (K : KeyOk P kt enc ok)
    (hx : val env x = some (.map (some b))) (hy : val env y = some kv) (hkv : kv = enc a) (hz : val env z = some v) (ha : ok a) (hp : Pick l (mapA enc ok b m) r)
    (h : N env (mapA enc ok b (mput m a v) :: r)) : LS P E n ds ⟨none, .insert t x y z, ty, pos, af, gd⟩ env l N :=
  LS.of0 rfl fun ac w hf hs => by
    subst hkv
    obtain ⟨es, clock, hm, s⟩ := (hs.pick hp).map_open
    have hb := s.block
    have h1 := hT.und w hi
    rw [hk] at h1
    have h3 := K.run w ha es m hm.kv hm.oks
    have h4 := K.chk w false a ha
    cases hq : mfind m a 0 with
    | none =>
      rw [hq] at h3
      refine ⟨_, _, ?_, Sat.map_shut (hm.push (v := v) ha) (s.setBlock (.map (es ++ [MapEntry.mk (enc a) v clock]).toArray (clock + 1))), by rw [← (mfind_none m a 0 hq).1 v]; exact h⟩
      simp only [execOp, hf.eval hx, hf.eval hy, hf.eval hz, Instr.mapUpdate, Sem.run_bind, h1, Result.andThen_ok, run_getObj_b hb, h4, h3]
      rw [run_setObj_b hb]
      simp
    | some q =>
      obtain ⟨j, u⟩ := q
      rw [hq] at h3
      obtain ⟨_, u', h5, _, h6⟩ := mfind_at m a 0 j u hq
      rw [Nat.sub_zero] at h5 h6
      have hej : ∃ e, es[j]? = some e ∧ e.key = enc a := by
        have hz := congrArg (fun (z : List (Value × Value)) => z[j]?) hm.kv
        simp only [List.getElem?_map, h5] at hz
        cases he : es[j]? with
        | none => rw [he] at hz; cases hz
        | some e =>
          rw [he] at hz
          simp only [Option.map_some, Option.some.injEq, Prod.mk.injEq] at hz
          exact ⟨e, rfl, hz.1⟩
      obtain ⟨e, he, hek⟩ := hej
      refine ⟨_, _, ?_, Sat.map_shut (hm.put_at (v := v) h5) (s.setBlock (.map (es.modify j fun e => { e with key := enc a, val := v }).toArray clock)), by rw [← (h6 v).1]; exact h⟩
      simp only [execOp, hf.eval hx, hf.eval hy, hf.eval hz, Instr.mapUpdate, Sem.run_bind, h1, Result.andThen_ok, run_getObj_b hb, h4, h3]
      have e1 : (((es.toArray[j]?).map (·.key)).getD (enc a)) = enc a := by simp [he, hek]
      rw [e1]
      simp only [Instr.keyThatStays, K.same a ha, if_true, Sem.run_pure, Result.andThen_ok]
      rw [run_setObj_b hb]
      simp [List.modify_toArray]
end
end Go.SL
namespace Go.SL
open Go Go.RowKit
section
variable {P : Program} {E : World} {n : Nat} {ds : List Deferred} {env : Fr} {l : List HProp}
variable {dst : Option Tmp} {ty : TypeId} {pos : String} {af : Array Edge} {gd : Option (Nat × Bool)} {x y z : Operand}
theorem y_min3 {k : IntKind} {i j p m : Int} (hx : val env x = some (.int k i)) (hy : val env y = some (.int k j)) (hz : val env z = some (.int k p)) (hr : min (min i j) p = m) {ts : Array TypeId} :
    Y P E n ds ⟨dst, .call ⟨.builtin .min, #[x, y, z], ts⟩, ty, pos, af, gd⟩ env l (.int k m) :=
  Y.of fun a w hfr _ => by
    have h1 : (if j < i then j else i) = min i j := by omega
    have h2 : (if p < min i j then p else min i j) = m := by rw [← hr]; omega
    simp [execOp, resolve, invoke, builtin, hfr.eval hx, hfr.eval hy, hfr.eval hz, Builtin.min_, Builtin.min2, List.foldlM, h1, h2]
end
/-- A slice of two elements that are given whole. -/
theorem fill_two {size : Nat} {zc v u : Value} {cs ds : List Value} (hv : v.cells = cs.toArray) (hl : cs.length = size) (hu : u.cells = ds.toArray) (hl2 : ds.length = size) : Instr.fill (fun i => some (i * size, size)) ((Array.range (2 * size)).map (zc.cells[· % zc.cells.size]!)) [(0, v), (1, u)] = some (cs ++ ds).toArray := by
  have h := fill_eq (fun i => some (i * size, size)) [(0, size), (size, size)] [(0, v), (1, u)] ((Array.range (2 * size)).map (zc.cells[· % zc.cells.size]!)).toList (fun q hq => by simp at hq; rcases hq with rfl | rfl <;> simp) (by simp [fillOk, hv, hl, hu, hl2]; omega)
  have e : ((Array.range (2 * size)).map (zc.cells[· % zc.cells.size]!)).toList.toArray = (Array.range (2 * size)).map (zc.cells[· % zc.cells.size]!) := rfl
  rw [e] at h
  rw [h]
  obtain ⟨zs, hz⟩ : ∃ zs, ((Array.range (2 * size)).map (zc.cells[· % zc.cells.size]!)).toList = zs := ⟨_, rfl⟩
  have hzl : zs.length = 2 * size := by rw [← hz]; simp
  rw [hz]
  simp only [List.map_cons, List.map_nil, hv, hu, fillE, List.getElem?_cons_zero, List.getElem?_cons_succ, List.take_zero, List.nil_append, Nat.zero_add]
  congr 2
  rw [List.take_append_of_le_length (by omega), List.take_of_length_le (by omega), List.drop_of_length_le (by rw [List.length_append, List.length_drop]; omega)]
  simp
end Go.SL
