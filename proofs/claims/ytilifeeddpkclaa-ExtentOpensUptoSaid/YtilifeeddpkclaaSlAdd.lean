import Derived.Test.YtilifeeddpkclaaSlTop
namespace Go.SL
open Go Go.RowKit
section
variable {P : Program} {E : World} {n : Nat} {ds : List Deferred} {env : Fr} {l r : List HProp} {T : Tab} {N : Fr → List HProp → Prop}
variable {dst : Option Tmp} {ty : TypeId} {pos : String} {af : Array Edge} {gd : Option (Nat × Bool)} {x y z : Operand} {v : Value} {t t' : TypeId} {o : Oper}
theorem ones_of {vs : List Value} (h : vs.all (·.oneCell') = true) : ∀ v ∈ vs, v.oneCell' = true := List.all_eq_true.1 h
theorem Rd1.elem {b off i : Nat} {xs : List Value} {v : Value} (h : RdN l b off xs) (hx : xs[i]? = some v) : Rd1 l b (off + i * 1) v := by rw [Nat.mul_one]; exact h i v hx
theorem Rd1.ofN {b off j : Nat} {xs : List Value} {v : Value} (h : RdN l b off xs) (hx : xs[j]? = some v) : Rd1 l b (off + j) v := h j v hx
theorem Sat.dropApp {w : World} (m : List HProp) (s : Sat E (stars (m ++ l)) w) : Sat E (stars l) w := by
  induction m with
  | nil => exact s
  | cons A m ih => exact ih s.drop
theorem RdN.app {b off : Nat} {xs : List Value} (h : RdN l b off xs) (m : List HProp) : RdN (m ++ l) b off xs := fun j v hj E w s => h j v hj E w (s.dropApp m)
theorem RdN.cons {b off : Nat} {xs : List Value} (h : RdN l b off xs) (A : HProp) : RdN (A :: l) b off xs := h.app [A]
theorem y_eqlB {k : IntKind} {i j : Int} {b : Bool} (hx : val env x = some (.int k i)) (hy : val env y = some (.int k j)) (hb : decide (i = j) = b) : Y P E n ds ⟨dst, .binOp .eql t x y t', ty, pos, af, gd⟩ env l (.bool b) := hb ▸ y_eql hx hy
theorem y_neqB {k : IntKind} {i j : Int} {b : Bool} (hx : val env x = some (.int k i)) (hy : val env y = some (.int k j)) (hb : decide (¬ i = j) = b) : Y P E n ds ⟨dst, .binOp .neq t x y t', ty, pos, af, gd⟩ env l (.bool b) := hb ▸ y_neq hx hy
theorem y_bool_neB (hT : Tok P T) {d : TI} (hd : T.at t = some d) (hk : d.u = .bool) {b c e : Bool} (hx : val env x = some (.bool b)) (hy : val env y = some (.bool c)) (hb : (b != c) = e) : Y P E n ds ⟨dst, .binOp .neq t x y t', ty, pos, af, gd⟩ env l (.bool e) := hb ▸ y_bool_ne hT hd hk hx hy
theorem JM.gloud {ops : Array Oper} {Q : Exit → Act → World → Prop} {lc m : List HProp} {k j t : Nat} {b : Bool} {π : List (Nat × Kd)} (ho : ops[k]? = some o) (hg : o.guard = some (j, b)) (hgd : (ops[j]?).bind (·.dst) = some t) (hgv : look env t = some (.bool b)) (h : ∀ fr, LS P E n ds o env (m ++ (fr ++ lc)) (fun env' l' => ∃ m', Split l' m' (fr ++ lc) ∧ JM P E n ds ops lc Q π env' m')) :
    JM P E n ds ops lc Q ((k, .l) :: π) env m := fun a hf =>
  ⟨o, ho, by simp [Region.wanted, hg, yielded_of hf hgd hgv], fun fr w hs => Oper.wp_mono' (fun a' w' ⟨e, l', h1, h2, m', h3, h4⟩ => ⟨m', h2.divide h3, h4 a' h1⟩) (fun _ _ _ h => h) (h fr a w hf hs)⟩
theorem LS.sup {N' : Fr → List HProp → Prop} (h : LS P E n ds o env l N) (hN : ∀ e m, N e m → ∃ m', (∀ w, Sat E (stars m) w → Sat E (stars m') w) ∧ N' e m') : LS P E n ds o env l N' := fun a w hf hs =>
  Oper.wp_mono' (fun _ w ⟨e, m, h1, h2, h3⟩ => let ⟨m', h4, h5⟩ := hN e m h3; ⟨e, m', h1, h4 w h2, h5⟩) (fun _ _ _ h => h) (h a w hf hs)
theorem LS.pre (hl : ∀ w, Sat E (stars l) w → Sat E (stars r) w) (h : LS P E n ds o env r N) : LS P E n ds o env l N := fun a w hf hs => h a w hf (hl w hs)
theorem Sat.own_zero {w : World} {g e size : Nat} (s : Sat E (stars (row g e [] :: l)) w) : Sat E (stars (own e size (.slice (some ⟨g, 0, none⟩) 0 0) 0 [] :: l)) w :=
  s.own_row (Nat.le_refl _) (Nat.zero_le _) (by simp) (by simp) (by simp)
theorem lays_buildSlice0 (hT : Tok P T) {i j : TI} {e : TypeId} {a : Act} (hi : T.at t = some i) (hk : i.u = .slice e) (hj : T.at e = some j) :
    Lays P ⟨dst, .buildSlice t 0 #[], ty, pos, af, gd⟩ a (fun b => .slice (some ⟨b, 0, none⟩) 0 0) (.cells #[] e) := fun w => by
  have h1 := hT.und w hi
  rw [hk] at h1
  have h2 := hT.siz w hj
  simp only [execOp, Instr.buildSlice, Sem.run_bind, h1, h2, Result.andThen_ok, Nat.zero_mul]
  have e0 : ∀ f : Nat → Value, (Array.range 0).map f = #[] := fun f => by rw [← Array.size_eq_zero_iff]; simp
  simp [Instr.fill, newRow, e0]
theorem Sup.app {g p : List HProp} (h : Sup l p) : Sup (g ++ l) (g ++ p) := by
  induction g with
  | nil => exact h
  | cons A g ih => exact Sup.cons Pick.head ih
theorem Split.all {g : List HProp} : Split (g ++ r) g r := by
  induction g with
  | nil => exact Split.nil
  | cons A g ih => exact Split.cons Pick.head ih
theorem Split.app {g p : List HProp} (h : Split l p r) : Split (g ++ l) (g ++ p) r := by
  induction g with
  | nil => exact h
  | cons A g ih => exact Split.cons Pick.head ih
theorem Sup.skips {g p : List HProp} (h : Sup l p) : Sup (g ++ l) p := by
  induction g with
  | nil => exact h
  | cons A g ih => exact Sup.skip ih
/-- A store into an array that a slice owns. -/
theorem l_storeOwn1 (hT : Tok P T) {i : TI} {g off cap size m : Nat} {e : TypeId} {cs : List Value} (hi : T.at t = some i) (hs1 : i.size = 1) (hx : val env x = some (.pointer (some ⟨g, off, none⟩))) (hy : val env y = some v) (hv : v.oneCell' = true)
    (hp : Pick l (own e size (.slice (some ⟨g, 0, none⟩) m cap) m cs) r) (ho : off < cs.length)
    (h : N env (own e size (.slice (some ⟨g, 0, none⟩) m cap) m (cs.set off v) :: r)) :
    LS P E n ds ⟨none, .store t x y, ty, pos, af, gd⟩ env l N := fun a w hf hs => by
  obtain ⟨hl, ⟨h1, _⟩ | ⟨g', cap', cur, he, h1, h2, h3, h4, s⟩⟩ := (hs.pick hp).own_open
  · cases h1
  · simp only [Value.slice.injEq, Option.some.injEq, Addr.mk.injEq] at he
    obtain ⟨⟨rfl, _⟩, _, rfl⟩ := he
    have hlen : cs.length ≤ cur.length := by rw [← h4]; exact List.length_take_le' _ _
    exact (LS.sup (l_store1 (N := fun e' m' => e' = env ∧ m' = row g e (cur.set off v) :: r) hT hi hs1 hx hy hv Pick.head (by omega) ⟨rfl, rfl⟩) (fun e' m' ⟨he, hm⟩ => by
      subst he hm
      exact ⟨_, fun w s => s.own_row h1 h2 (by simpa using h3) (by rw [List.take_set, h4]) (by simpa using hl), h⟩)) a w hf s
theorem l_storeOwnN (hT : Tok P T) {α : Type} {enc : α → List Value} {i : TI} {g j cap size m : Nat} {e : TypeId} {xs : List α} {u : α} (hi : T.at t = some i) (hx : val env x = some (.pointer (some ⟨g, 0 + j * size, none⟩))) (hy : val env y = some (.agg (enc u).toArray)) (hvs : (enc u).length = i.size) (hsz : i.size = size) (hv : ∀ v ∈ enc u, v.oneCell' = true)
    (hp : Pick l (own e size (.slice (some ⟨g, 0, none⟩) m cap) m (xs.flatMap enc)) r) (hk : ∀ x ∈ xs, (enc x).length = size) (hj : j < xs.length)
    (h : N env (own e size (.slice (some ⟨g, 0, none⟩) m cap) m ((xs.set j u).flatMap enc) :: r)) :
    LS P E n ds ⟨none, .store t x y, ty, pos, af, gd⟩ env l N := fun a w hf hs => by
  obtain ⟨hl, ⟨h1, _⟩ | ⟨g', cap', cur, he, h1, h2, h3, h4, s⟩⟩ := (hs.pick hp).own_open
  · cases h1
  · simp only [Value.slice.injEq, Option.some.injEq, Addr.mk.injEq] at he
    obtain ⟨⟨rfl, _⟩, _, rfl⟩ := he
    have hlen : (xs.flatMap enc).length = xs.length * size := seg_len hk
    have hcur : cur = xs.flatMap enc ++ cur.drop (m * size) := by rw [← h4, List.take_append_drop]
    have hm : xs.length * size = m * size := by rw [← hlen, hl]
    have hfit : 0 + j * size + (enc u).length ≤ cur.length := by
      rw [hcur, List.length_append, hlen, hvs, hsz]
      have := Nat.mul_le_mul_right size (show j + 1 ≤ xs.length from hj)
      rw [Nat.add_mul] at this
      omega
    have hset := seg_set (enc := enc) (sp := cur.drop (m * size)) (xs := xs) (i := j) (y := u) hk hj
    rw [hcur] at s hfit
    exact (LS.sup (l_storeN (N := fun e' m' => e' = env ∧ m' = row g e ((xs.set j u).flatMap enc ++ cur.drop (m * size)) :: r) hT hi hx hy hvs hv Pick.head hfit ⟨rfl, by rw [← hset]; simp [hvs, hsz]⟩) (fun e' m' ⟨he, hm'⟩ => by
      subst he hm'
      have hlen' : ((xs.set j u).flatMap enc).length = m * size := by
        rw [seg_len (k := size) (fun z hz => by
          rcases List.mem_or_eq_of_mem_set hz with hz | rfl
          · exact hk z hz
          · rw [hvs, hsz]), List.length_set, hm]
      exact ⟨_, fun w s => s.own_row h1 h2 (by rw [List.length_append, hlen', List.length_drop, h3]; have := Nat.mul_le_mul_right size h1; omega) (by rw [← hlen']; simp) hlen', h⟩)) a w hf s
end
end Go.SL
