import Derived.Test.YtilifeeddpkclaaSlY
import Derived.Laws.MakeOwn
import Derived.Laws.AppendOwn
namespace Go.SL
open Go Go.RowKit

/-- A slice that owns its array: n elements, the cells xs. -/
def own (e size : Nat) (v : Value) (n : Nat) (xs : List Value) : HProp := fun h =>
  xs.length = n * size ∧ ((v = .slice none 0 0 ∧ n = 0 ∧ h = Hp.empty) ∨
    ∃ g cap cur, v = .slice (some ⟨g, 0, none⟩) n cap ∧ n ≤ cap ∧ cap ≤ maxLen ∧ cur.length = cap * size ∧ cur.take (n * size) = xs ∧ row g e cur h)

theorem Sat.own_nil {E w : World} {l : List HProp} {e size : Nat} (s : Sat E (stars l) w) : Sat E (stars (own e size (.slice none 0 0) 0 [] :: l)) w :=
  s.imp fun h s => ⟨Hp.empty, h, fun _ => .inl rfl, (un_empty_left h).symm, ⟨by simp, .inl ⟨rfl, rfl, rfl⟩⟩, s⟩
theorem Sat.own_row {E w : World} {l : List HProp} {e size g n cap : Nat} {cur xs : List Value} (s : Sat E (stars (row g e cur :: l)) w) (h1 : n ≤ cap) (h2 : cap ≤ maxLen) (h3 : cur.length = cap * size) (h4 : cur.take (n * size) = xs) (h5 : xs.length = n * size) :
    Sat E (stars (own e size (.slice (some ⟨g, 0, none⟩) n cap) n xs :: l)) w :=
  s.imp fun _ s => star_mono (fun _ a => ⟨h5, .inr ⟨g, cap, cur, rfl, h1, h2, h3, h4, a⟩⟩) (fun _ b => b) s
/-- An owned slice opened. -/
theorem Sat.own_open {E w : World} {l : List HProp} {e size n : Nat} {v : Value} {xs : List Value} (s : Sat E (stars (own e size v n xs :: l)) w) :
    xs.length = n * size ∧ ((v = .slice none 0 0 ∧ n = 0 ∧ xs = [] ∧ Sat E (stars l) w) ∨
      ∃ g cap cur, v = .slice (some ⟨g, 0, none⟩) n cap ∧ n ≤ cap ∧ cap ≤ maxLen ∧ cur.length = cap * size ∧ cur.take (n * size) = xs ∧ Sat E (stars (row g e cur :: l)) w) := by
  obtain ⟨os, tp, ou, h, hs, h1, h2, d, rfl, ⟨hl, a⟩, b⟩ := s
  refine ⟨hl, ?_⟩
  rcases a with ⟨rfl, rfl, rfl⟩ | ⟨g, cap, cur, rfl, c1, c2, c3, c4, a⟩
  · left
    refine ⟨rfl, rfl, List.eq_nil_of_length_eq_zero (by simpa using hl), os, tp, ou, h2, ?_, b⟩
    rw [un_empty_left] at hs; exact hs
  · right
    exact ⟨g, cap, cur, rfl, c1, c2, c3, c4, os, tp, ou, _, hs, h1, h2, d, rfl, a, b⟩
theorem Sat.row_of_own {E w : World} {l r : List HProp} {e size n : Nat} {v : Value} {xs : List Value} (s : Sat E (stars l) w) (p : Pick l (own e size v n xs) r) : ∃ a cap, v = .slice a n cap ∧ n ≤ cap := by
  obtain ⟨_, ⟨rfl, rfl, _⟩ | ⟨g, cap, cur, rfl, h, _⟩⟩ := (s.pick p).own_open
  · exact ⟨none, 0, rfl, Nat.le_refl _⟩
  · exact ⟨_, cap, rfl, h⟩
theorem RdN.own {l r : List HProp} {e size n b off cap : Nat} {xs : List Value} (p : Pick l (own e size (.slice (some ⟨b, off, none⟩) n cap) n xs) r) : RdN l b off xs := fun j v hj E w s => by
  obtain ⟨hl, ⟨h, _⟩ | ⟨g, cap', cur, he, h1, h2, h3, h4, s'⟩⟩ := (s.pick p).own_open
  · simp at h
  · simp only [Value.slice.injEq, Option.some.injEq, Addr.mk.injEq] at he
    obtain ⟨⟨rfl, rfl, _⟩, _, rfl⟩ := he
    rw [s'.cell]
    rw [← h4, List.getElem?_take] at hj
    split at hj
    · simpa using hj
    · simp at hj

theorem Sat.setRow {E w : World} {l : List HProp} {b : Nat} {e : TypeId} {cs : List Value} (s : Sat E (stars (row b e cs :: l)) w) (cs' : List Value) :
    Sat E (stars (row b e cs' :: l)) (w.setRow b cs'.toArray) :=
  s.turn rfl rfl rfl (setRow_heap w b _ _ _ _ s.block) (fun k hk => setRow_other w b k _ hk)

section
variable {P : Program} {E : World} {ρ : Option Nat} {n : Nat} {ds : List Deferred} {env : Fr} {l r : List HProp} {T : Tab} {Q : Exit → Act → World → Prop} {ops : Array Oper} {rest : List Oper} {N : Fr → List HProp → Prop}
variable {d : Tmp} {ty : TypeId} {pos : String} {af : Array Edge} {gd : Option (Nat × Bool)} {x y z : Operand} {v u : Value} {t t' : TypeId}

/-- One operation, whatever it does: in which slots and lists it may end. -/
def LS (P : Program) (E : World) (n : Nat) (ds : List Deferred) (o : Oper) (env : Fr) (l : List HProp) (N : Fr → List HProp → Prop) : Prop :=
  ∀ a w, Frm n ds env a → Sat E (stars l) w → o.wp P a w (fun a' w' => ∃ env' l', Frm n ds env' a' ∧ Sat E (stars l') w' ∧ N env' l') (fun _ _ _ => False)
theorem Oper.wp_mono' {o : Oper} {a : Act} {w : World} {N N' : Act → World → Prop} {Q Q' : Exit → Act → World → Prop} (h : ∀ a w, N a w → N' a w) (hQ : ∀ e a w, Q e a w → Q' e a w) (hw : o.wp P a w N Q) : o.wp P a w N' Q' := by
  unfold Oper.wp at *
  generalize (execOp a.eval o).run P w = q at *
  cases q with
  | ok x w' =>
    cases x <;> simp only [Oper.upon] at * <;> first | exact h _ _ hw | exact hw | skip
    · exact hw.mono fun e w'' he => by
        cases e with
        | returned v => exact h _ _ he
        | panicked c => exact hQ _ _ _ he
        | outgrown => obtain ⟨a₀, w₀, q⟩ := he; exact ⟨a₀, w₀, hQ _ _ _ q⟩
    · exact hw.mono fun v w'' he => h _ _ he
  | halt x w' => cases x <;> simp only [Oper.upon] at * <;> first | exact hQ _ _ _ hw | exact hw
theorem LS.mono {o : Oper} {N N' : Fr → List HProp → Prop} (h : LS P E n ds o env l N) (hN : ∀ e m, N e m → N' e m) : LS P E n ds o env l N' := fun a w hf hs =>
  Oper.wp_mono' (fun _ _ ⟨e, m, h1, h2, h3⟩ => ⟨e, m, h1, h2, hN _ _ h3⟩) (fun _ _ _ h => h) (h a w hf hs)
theorem LS.of {o : Oper} {N : Fr → List HProp → Prop} (hn : Nat.blt d n = true) (hd : o.dst = some d)
    (h : ∀ a w, Frm n ds env a → Sat E (stars l) w → ∃ v w' l', (execOp a.eval o).run P w = .ok (.value v) w' ∧ Sat E (stars l') w' ∧ N ((d, v) :: env) l') :
    LS P E n ds o env l N := fun a w hf hs => by
  obtain ⟨v, w', l', h1, h3, h4⟩ := h a w hf hs
  unfold Oper.wp
  rw [h1]
  exact ⟨_, l', by rw [hd]; exact hf.put v hn, h3, h4⟩
theorem LS.of0 {o : Oper} {N : Fr → List HProp → Prop} (hd : o.dst = none)
    (h : ∀ a w, Frm n ds env a → Sat E (stars l) w → ∃ w' l', (execOp a.eval o).run P w = .ok .skip w' ∧ Sat E (stars l') w' ∧ N env l') :
    LS P E n ds o env l N := fun a w hf hs => by
  obtain ⟨w', l', h1, h3, h4⟩ := h a w hf hs
  unfold Oper.wp
  rw [h1]
  exact ⟨_, l', by rw [hd]; exact hf, h3, h4⟩
theorem JL.loud {o : Oper} (hg : o.guard = none) (h : LS P E n ds o env l (fun env' l' => JL P E ρ n ds ops Q rest env' l')) (hnd : nd o = true := by rfl) : JL P E ρ n ds ops Q (o :: rest) env l := fun a w hf hs => by
  refine wpListIn_plain hg fun K hK => op_in hnd ?_
  exact Oper.wp_mono' (fun a' w' ⟨e, m, h1, h2, h3⟩ => hK _ _ (h3 a' w' h1 h2)) (fun _ _ _ h => h.elim) (h a w hf hs)
theorem JL.gloud {o : Oper} {j t : Nat} {b : Bool} (hg : o.guard = some (j, b)) (hgd : (ops[j]?).bind (·.dst) = some t) (hgv : look env t = some (.bool b))
    (h : LS P E n ds o env l (fun env' l' => JL P E ρ n ds ops Q rest env' l')) (hnd : nd o = true := by rfl) : JL P E ρ n ds ops Q (o :: rest) env l := fun a w hf hs => by
  refine wpListIn_step fun K hK => ?_
  rw [if_pos (by simp [Region.wanted, hg, yielded_of hf hgd hgv])]
  refine op_in hnd ?_
  exact Oper.wp_mono' (fun a' w' ⟨e, m, h1, h2, h3⟩ => hK _ _ (h3 a' w' h1 h2)) (fun _ _ _ h => h.elim) (h a w hf hs)

theorem l_alloc (hT : Tok P T) {i : TI} {z' : Value} {cs : List Value} (hi : T.at t = some i) (hz : i.zero = some z') (hc : z'.cells = cs.toArray) (hn : Nat.blt d n = true)
    (h : ∀ b, N ((d, .pointer (some ⟨b, 0, none⟩)) :: env) (row b t cs :: l)) :
    LS P E n ds ⟨some d, .alloc t, ty, pos, af, gd⟩ env l N :=
  LS.of hn rfl fun a w _ hs => by
    refine ⟨_, w.alloc (.cells cs.toArray t), _, ?_, hs.alloc _, h w.heap.size⟩
    have h1 := hT.zer w hi hz
    simp [execOp, Instr.alloc, h1, newVar, newRow, hc]
theorem l_box {cs : List Value} (hx : val env x = some v) (hc : v.cells = cs.toArray) (hn : Nat.blt d n = true)
    (h : ∀ b, N ((d, .pointer (some ⟨b, 0, none⟩)) :: env) (row b t cs :: l)) :
    LS P E n ds ⟨some d, .box t x, ty, pos, af, gd⟩ env l N :=
  LS.of hn rfl fun a w hf hs => by
    refine ⟨_, w.alloc (.cells cs.toArray t), _, ?_, hs.alloc _, h w.heap.size⟩
    simp [execOp, hf.eval hx, Instr.box, newVar, newRow, hc]
/-- A store of one cell. -/
theorem l_store1 (hT : Tok P T) {i : TI} {b off : Nat} {e : TypeId} {cs : List Value} (hi : T.at t = some i) (hs1 : i.size = 1) (hx : val env x = some (.pointer (some ⟨b, off, none⟩))) (hy : val env y = some v) (hv : v.oneCell' = true)
    (hp : Pick l (row b e cs) r) (ho : off < cs.length)
    (h : N env (row b e (cs.set off v) :: r)) :
    LS P E n ds ⟨none, .store t x y, ty, pos, af, gd⟩ env l N :=
  LS.of0 rfl fun a w hf hs => by
    have s := hs.pick hp
    refine ⟨_, _, ?_, s.set off v, h⟩
    have h1 := hT.siz w hi
    have hvc : v.cells = #[v] := by cases v <;> simp_all [Value.cells, Value.oneCell']
    have hst := run_store P w ⟨b, off, none⟩ v .plain hv
    have hc := s.cell off
    rw [List.getElem?_eq_getElem ho] at hc
    simp [execOp, hf.eval hx, hf.eval hy, Instr.storeAt, Instr.sureAddr, storeVar, h1, hs1, hvc, storeCells, addr_add, hst, hc, s.free off]
/-- A store of many cells. -/
theorem l_storeN (hT : Tok P T) {i : TI} {b off : Nat} {e : TypeId} {cs vs : List Value} (hi : T.at t = some i) (hx : val env x = some (.pointer (some ⟨b, off, none⟩))) (hy : val env y = some (.agg vs.toArray)) (hvs : vs.length = i.size) (hv : ∀ v ∈ vs, v.oneCell' = true)
    (hp : Pick l (row b e cs) r) (ho : off + vs.length ≤ cs.length)
    (h : N env (row b e (cs.take off ++ vs ++ cs.drop (off + vs.length)) :: r)) :
    LS P E n ds ⟨none, .store t x y, ty, pos, af, gd⟩ env l N :=
  LS.of0 rfl fun a w hf hs => by
    have s := hs.pick hp
    refine ⟨_, _, ?_, s.setRow (cs.take off ++ vs ++ cs.drop (off + vs.length)), h⟩
    have h1 := hT.siz w hi
    have hst := run_storeCells_at P b off e vs 0 cs.toArray w s.block (by simpa using ho) hv
    simp only [Nat.add_zero] at hst
    simp [execOp, hf.eval hx, hf.eval hy, Instr.storeAt, Instr.sureAddr, storeVar, h1, hvs, Value.cells, hst]
/-- A store that fills a block of its own. -/
theorem l_storeAll (hT : Tok P T) {i : TI} {b : Nat} {e : TypeId} {cs vs : List Value} (hi : T.at t = some i) (hx : val env x = some (.pointer (some ⟨b, 0, none⟩))) (hy : val env y = some (.agg vs.toArray)) (hvs : vs.length = i.size) (hv : ∀ v ∈ vs, v.oneCell' = true)
    (hp : Pick l (row b e cs) r) (hc : cs.length = i.size)
    (h : N env (row b e vs :: r)) : LS P E n ds ⟨none, .store t x y, ty, pos, af, gd⟩ env l N :=
  l_storeN hT hi hx hy hvs hv hp (by omega) (by
    have e1 : cs.take 0 ++ vs ++ cs.drop (0 + vs.length) = vs := by simp; omega
    rw [e1]; exact h)
theorem l_buildSlice (hT : Tok P T) {i j : TI} {e : TypeId} {len : Nat} {parts : List (Nat × Operand)} {pv : List (Nat × Value)} {zc : Value} {cs : List Value} (hi : T.at t = some i) (hk : i.u = .slice e) (hj : T.at e = some j) (hz : j.zero = some zc)
    (hparts : vals env (parts.map (·.2)) = some (pv.map (·.2))) (hix : parts.map (·.1) = pv.map (·.1)) (hsm : Nat.ble (len * j.size) 16777216 = true) (hpos : Nat.ble 1 (len * j.size) = true)
    (hfill : Instr.fill (fun i => some (i * j.size, j.size)) ((Array.range (len * j.size)).map (zc.cells[· % zc.cells.size]!)) pv = some cs.toArray) (hn : Nat.blt d n = true)
    (h : ∀ b, N ((d, .slice (some ⟨b, 0, none⟩) len len) :: env) (row b e cs :: l)) :
    LS P E n ds ⟨some d, .buildSlice t len parts.toArray, ty, pos, af, gd⟩ env l N :=
  LS.of hn rfl fun a w hf hs => by
    refine ⟨_, w.alloc (.cells cs.toArray e), _, ?_, hs.alloc _, h w.heap.size⟩
    have h1 := hT.und w hi
    rw [hk] at h1
    have h2 := hT.siz w hj
    have h3 := hT.zer w hj hz
    have hpv : parts.map (fun (q : Nat × Operand) => (q.1, a.eval q.2)) = pv := by
      have e1 := hf.evals hparts
      apply List.ext_getElem?
      intro k
      have e2 : (parts.map (·.1))[k]? = (pv.map (·.1))[k]? := by rw [hix]
      have e3 : ((parts.map (·.2)).map a.eval)[k]? = (pv.map (·.2))[k]? := by rw [e1]
      simp only [List.getElem?_map, Option.map_map] at e2 e3 ⊢
      cases hk : parts[k]? <;> cases hk' : pv[k]? <;> simp_all
    have hle : ¬ (16777216 < len * j.size) := by have := Nat.le_of_ble_eq_true hsm; omega
    have h0 : ¬ (len * j.size = 0) := by have := Nat.le_of_ble_eq_true hpos; omega
    simp [execOp, Instr.buildSlice, h1, h2, hle, h0, h3, hpv, hfill, newRow]
theorem l_makeSlice (hT : Tok P T) {i j : TI} {e : TypeId} {zc : Value} {kl kc : IntKind} {m c : Int} (hi : T.at t = some i) (hk : i.u = .slice e) (hj : T.at e = some j) (hz : j.zero = some zc)
    (hx : val env x = some (.int kl m)) (hy : val env y = some (.int kc c)) (h0 : 0 ≤ m) (hmc : m ≤ c) (hb : (j.bytes : Int) * c ≤ 281474976710656) (h63 : c ≤ 9223372036854775807) (hn : Nat.blt d n = true)
    (h : ∀ b, N ((d, .slice (some ⟨b, 0, none⟩) m.toNat c.toNat) :: env) (row b e (madeCells zc.cells (c.toNat * j.size)).toList :: l)) :
    LS P E n ds ⟨some d, .makeSlice t x y, ty, pos, af, gd⟩ env l N :=
  LS.of hn rfl fun a w hf hs => by
    obtain ⟨hu, _⟩ := hT t i hi
    rw [hk] at hu
    obtain ⟨_, q, hq, hqs, hqb, hqz⟩ := hT e j hj
    have hr := run_make (P := P) w t e q zc hu hq (by rw [hqz, hz]) kl kc m c h0 hmc (by rw [hqb]; exact hb) h63
    refine ⟨.slice (some ⟨w.heap.size, 0, none⟩) m.toNat c.toNat, w.alloc (.cells (madeCells zc.cells (c.toNat * j.size)) e), row w.heap.size e (madeCells zc.cells (c.toNat * j.size)).toList :: l, ?_, ?_, h w.heap.size⟩
    · simp only [execOp, hf.eval hx, hf.eval hy]
      simp [hr, hqs]
    · have := hs.alloc (.cells (madeCells zc.cells (c.toNat * j.size)) e)
      simpa [row] using this

theorem Sat.of_append {w : World} {e size m : Nat} {i : TypeInfo} {zv : Value} {nn : Nat} {xs news : List Value} {ad : Addr} {c : Nat} (s : Sat E (stars (own e size v nn xs :: r)) w)
    (ht : P.underlying t = some (.slice e)) (hi : P.info? e = some i) (hz : i.zero = some zv) (hsize : i.size = size) (hzs : zv.cells.size = size) (hsz : 0 < size)
    (hl : news.length = m * size) (hnews : ∀ j u, news[j]? = some u → w.cell? (ad.add j) = some u) (h1 : ∀ u ∈ news, u.oneCell' = true)
    (h63 : nn + m ≤ maxLen) (hbytes : (nn + m) * i.bytes ≤ 140737488355328) :
    ∃ v' w', (Builtin.append_ #[t, t] ty #[v, .slice (some ad) m c]).run P w = .ok v' w' ∧ Sat E (stars (own e size v' (nn + m) (xs ++ news) :: r)) w' := by
  subst hsize
  have hsmall : nn + m ≤ 9223372036854775807 := by simp only [maxLen] at h63; omega
  obtain ⟨hxl, ⟨rfl, rfl, rfl, s0⟩ | ⟨g, cap, cur, rfl, hnc, hcm, hcs, htake, s1⟩⟩ := s.own_open
  · by_cases hm : m = 0
    · subst hm
      have hn0 : news = [] := List.eq_nil_of_length_eq_zero (by simpa using hl)
      subst hn0
      refine ⟨.slice none 0 0, w, ?_, by simpa using s0.own_nil⟩
      simp [Builtin.append_, run_underlying ht, sizeOf, typeInfo, hi, Builtin.lenOf, Builtin.firstCells, loadCells, loadCellsFrom]
    · have hr := run_append_nil (P := P) w t ty e i zv ht hi hz ad m c news hl hnews (by omega) (by omega) (by have hb := hbytes; simp only [Nat.zero_add] at hb; omega)
      refine ⟨_, _, hr, ?_⟩
      have hge := grownCap_ge w m 0 e
      have hcm : grownCap w m 0 e ≤ maxLen := grownCap_le_maxLen w m 0 e (by omega)
      have s2 := s0.drew.alloc (.cells (news.toArray ++ Builtin.zeroCells zv.cells (grownCap w m 0 e - m)) e)
      have s3 : Sat E (stars (row w.heap.size e (news ++ (Builtin.zeroCells zv.cells (grownCap w m 0 e - m)).toList) :: r)) (w.drew.alloc (.cells (news.toArray ++ Builtin.zeroCells zv.cells (grownCap w m 0 e - m)) e)) := by
        refine s2.imp fun h q => star_mono (fun h a => ?_) (fun _ b => b) q
        unfold row
        have e3 : (news ++ (Builtin.zeroCells zv.cells (grownCap w m 0 e - m)).toList).toArray = news.toArray ++ Builtin.zeroCells zv.cells (grownCap w m 0 e - m) := by
          apply Array.ext'; simp
        rw [e3]; exact a
      have s4 := s3.own_row (n := m) (size := i.size) (cap := grownCap w m 0 e) (xs := news) hge hcm ?_ ?_ hl
      · simpa using s4
      · rw [List.length_append, hl, Array.length_toList, size_zeroCells, hzs, ← Nat.add_mul]; congr 1; omega
      · rw [← hl]; exact List.take_left
  · by_cases hroom : nn + m ≤ cap
    · have hfit : nn * i.size + news.length ≤ cur.toArray.size := by rw [hl, List.size_toArray, hcs, ← Nat.add_mul]; exact Nat.mul_le_mul_right _ hroom
      have hr := run_append_room (P := P) w t ty e i ht hi g nn cap cur.toArray s1.block ad m c news hl hnews h1 hroom hfit
      refine ⟨_, _, hr, ?_⟩
      have s2 := s1.setRow (cur.take (nn * i.size) ++ news ++ cur.drop (nn * i.size + news.length))
      refine s2.own_row hroom hcm ?_ ?_ ?_
      · simp only [List.size_toArray] at hfit
        simp only [List.length_append, List.length_take, List.length_drop]; omega
      · rw [htake, Nat.add_mul, ← hl, ← hxl, ← List.length_append]; exact List.take_left
      · rw [List.length_append, hxl, hl, Nat.add_mul]
    · have holds : ∀ j u, xs[j]? = some u → w.cell? ((⟨g, 0, none⟩ : Addr).add j) = some u := by
        intro j u hj
        rw [addr_add, Nat.zero_add, s1.cell]
        rw [← htake, List.getElem?_take] at hj
        split at hj
        · exact hj
        · simp at hj
      have hr := run_append_grow (P := P) w t ty e i zv ht hi hz ⟨g, 0, none⟩ nn cap xs hxl holds ad m c news hl hnews (by omega) (by omega) (growslice_fits (by omega) hbytes)
      refine ⟨_, _, hr, ?_⟩
      have hge := grownCap_ge w (nn + m) cap e
      have hcm : grownCap w (nn + m) cap e ≤ maxLen := grownCap_le_maxLen w (nn + m) cap e h63
      have s2 := s1.drop.drew.alloc (.cells (xs.toArray ++ news.toArray ++ Builtin.zeroCells zv.cells (grownCap w (nn + m) cap e - (nn + m))) e)
      have s3 : Sat E (stars (row w.heap.size e (xs ++ news ++ (Builtin.zeroCells zv.cells (grownCap w (nn + m) cap e - (nn + m))).toList) :: r)) (w.drew.alloc (.cells (xs.toArray ++ news.toArray ++ Builtin.zeroCells zv.cells (grownCap w (nn + m) cap e - (nn + m))) e)) := by
        refine s2.imp fun h q => star_mono (fun h a => ?_) (fun _ b => b) q
        unfold row
        have e3 : (xs ++ news ++ (Builtin.zeroCells zv.cells (grownCap w (nn + m) cap e - (nn + m))).toList).toArray = xs.toArray ++ news.toArray ++ Builtin.zeroCells zv.cells (grownCap w (nn + m) cap e - (nn + m)) := by
          apply Array.ext'; simp
        rw [e3]; exact a
      have hxn : (xs ++ news).length = (nn + m) * i.size := by rw [List.length_append, hxl, hl, Nat.add_mul]
      refine s3.own_row (n := nn + m) (size := i.size) (cap := grownCap w (nn + m) cap e) (xs := xs ++ news) hge hcm ?_ ?_ hxn
      · rw [List.length_append, hxn, Array.length_toList, size_zeroCells, hzs, ← Nat.add_mul]; congr 1; omega
      · rw [← hxn]; exact List.take_left

theorem l_append (hT : Tok P T) {i j : TI} {e : TypeId} {zc : Value} {nn m c xb xo : Nat} {xs news : List Value} (hi : T.at t = some i) (hk : i.u = .slice e) (hj : T.at e = some j) (hz : j.zero = some zc) (hzs : zc.cells.size = j.size) (hsz : Nat.blt 0 j.size = true)
    (hx : val env x = some v) (hy : val env y = some (.slice (some ⟨xb, xo, none⟩) m c)) (hp : Pick l (own e j.size v nn xs) r) (hr : RdN l xb xo news) (hl : news.length = m * j.size) (h1 : ∀ u ∈ news, u.oneCell' = true)
    (hb : (nn + m) * j.bytes ≤ 140737488355328) (h63 : nn + m ≤ 9223372036854775807) (hn : Nat.blt d n = true)
    (h : ∀ a cap, nn + m ≤ cap → N ((d, .slice a (nn + m) cap) :: env) (own e j.size (.slice a (nn + m) cap) (nn + m) (xs ++ news) :: r)) :
    LS P E n ds ⟨some d, .call ⟨.builtin .append, #[x, y], #[t, t]⟩, ty, pos, af, gd⟩ env l N :=
  LS.of hn rfl fun a w hf hs => by
    obtain ⟨hu, _⟩ := hT t i hi
    rw [hk] at hu
    obtain ⟨_, q, hq, hqs, hqb, hqz⟩ := hT e j hj
    obtain ⟨v', w', h2, h3⟩ := Sat.of_append (P := P) (ty := ty) (ad := ⟨xb, xo, none⟩) (c := c) (hs.pick hp) hu hq (by rw [hqz, hz]) hqs hzs (by simpa using hsz) hl (hr.cells hs) h1 (by unfold maxLen; omega) (by rw [hqb]; exact hb)
    obtain ⟨aa, cap, rfl, hcap⟩ := h3.row_of_own Pick.head
    refine ⟨_, w', _, ?_, h3, h aa cap hcap⟩
    simp [execOp, resolve, invoke, builtin, hf.eval hx, hf.eval hy, h2]
end
end Go.SL
