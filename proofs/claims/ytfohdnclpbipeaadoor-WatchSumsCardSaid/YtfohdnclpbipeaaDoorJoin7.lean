import Derived.Test.YtfohdnclpbipeaaDoorJoin6
namespace Go.Proofs.YtfohdnclpbipeaaDoor
section
open Go Go.SL
section
/-- One way ahead of another. -/
def kl (a b : FlowT) : Prop := a.1 < b.1 ∨ a.1 = b.1 ∧ a.2.1 < b.2.1
instance (a b : FlowT) : Decidable (kl a b) := by unfold kl; infer_instance
/-- A wire as a flow. -/
def wfl (w : WireT) : FlowT := (w.2.1, w.2.2.1, wr (0 + w.2.2.2.1), wr (0 + w.2.2.2.2))
/-- A wire is put in place. -/
def plW (w : WireT) : List FlowT → List FlowT
  | [] => [wfl w]
  | f :: r => if kl f (wfl w) then f :: plW w r else if f.1 = w.2.1 ∧ f.2.1 = w.2.2.1 then (f.1, f.2.1, wr (f.2.2.1 + w.2.2.2.1), wr (f.2.2.2 + w.2.2.2.2)) :: r else wfl w :: f :: r
def refF (ws : List WireT) : List FlowT := ws.foldl (fun l w => plW w l) []
theorem refF_take {ws : List WireT} {i : Nat} {w : WireT} (h : ws[i]? = some w) : refF (ws.take (i + 1)) = plW w (refF (ws.take i)) := by
  unfold refF
  rw [List.take_add_one, h, Option.toList_some, List.foldl_append]; rfl
theorem plW_length (w : WireT) (l : List FlowT) : (plW w l).length ≤ l.length + 1 := by
  induction l with
  | nil => simp [plW]
  | cons f r ih => unfold plW; split <;> (try split) <;> simp only [List.length_cons] <;> omega
theorem refF_length (ws : List WireT) : (refF ws).length ≤ ws.length := by
  have h : ∀ (ws : List WireT) (l : List FlowT), (ws.foldl (fun l w => plW w l) l).length ≤ l.length + ws.length := by
    intro ws
    induction ws with
    | nil => intro l; simp
    | cons w r ih =>
      intro l
      have h1 := ih (plW w l)
      have h2 := plW_length w l
      rw [List.foldl_cons, List.length_cons]; omega
  have := h ws []
  unfold refF
  simpa using this
theorem plW_keys (w : WireT) : ∀ (l : List FlowT) (y : FlowT), y ∈ plW w l → (y.1 = w.2.1 ∧ y.2.1 = w.2.2.1) ∨ ∃ z ∈ l, y.1 = z.1 ∧ y.2.1 = z.2.1
  | [], y, h => by simp [plW] at h; subst h; exact .inl ⟨rfl, rfl⟩
  | f :: r, y, h => by
    unfold plW at h
    split at h
    · rcases List.mem_cons.1 h with rfl | h
      · exact .inr ⟨y, by simp, rfl, rfl⟩
      · rcases plW_keys w r y h with q | ⟨z, hz, q⟩
        · exact .inl q
        · exact .inr ⟨z, List.mem_cons_of_mem _ hz, q⟩
    · split at h
      · rcases List.mem_cons.1 h with rfl | h
        · exact .inr ⟨f, by simp, rfl, rfl⟩
        · exact .inr ⟨y, List.mem_cons_of_mem _ h, rfl, rfl⟩
      · rcases List.mem_cons.1 h with rfl | h
        · exact .inl ⟨rfl, rfl⟩
        · exact .inr ⟨y, h, rfl, rfl⟩
theorem plW_sorted (w : WireT) : ∀ {l : List FlowT}, l.Pairwise kl → (plW w l).Pairwise kl
  | [], _ => List.pairwise_singleton _ _
  | f :: r, h => by
    have h1 := List.pairwise_cons.1 h
    unfold plW
    split
    · rename_i hk
      refine List.pairwise_cons.2 ⟨fun y hy => ?_, plW_sorted w h1.2⟩
      rcases plW_keys w r y hy with q | ⟨z, hz, q1, q2⟩
      · simp only [kl, wfl] at hk ⊢; omega
      · have := h1.1 z hz
        simp only [kl] at this ⊢; omega
    · split
      · exact List.pairwise_cons.2 ⟨fun y hy => h1.1 y hy, h1.2⟩
      · rename_i hk he
        refine List.pairwise_cons.2 ⟨fun y hy => ?_, h⟩
        simp only [kl, wfl] at hk
        rcases List.mem_cons.1 hy with rfl | q
        · simp only [kl, wfl]; omega
        · have := h1.1 y q
          simp only [kl, wfl] at this ⊢; omega
theorem refF_sorted (ws : List WireT) : (refF ws).Pairwise kl := by
  have h : ∀ (ws : List WireT) (l : List FlowT), l.Pairwise kl → (ws.foldl (fun l w => plW w l) l).Pairwise kl := by
    intro ws
    induction ws with
    | nil => intro l h; exact h
    | cons w r ih => intro l h; exact ih _ (plW_sorted w h)
  exact h ws [] List.Pairwise.nil
def samek (a b : FlowT) : Prop := a.1 = b.1 ∧ a.2.1 = b.2.1
theorem fput_new (w : WireT) : ∀ (l : List FlowT), (∀ f ∈ l, ¬ (f.1 = w.2.1 ∧ f.2.1 = w.2.2.1)) → fput l w = l ++ [wfl w]
  | [], _ => rfl
  | f :: r, h => by
    have h1 := h f (by simp)
    rw [fput, if_neg (by intro q; simp only [Prod.mk.injEq] at q; exact h1 ⟨q.1.symm, q.2.symm⟩), fput_new w r fun x hx => h x (List.mem_cons_of_mem _ hx)]
    rfl
theorem plW_perm (w : WireT) : ∀ {l : List FlowT}, l.Pairwise kl → (plW w l).Perm (fput l w)
  | [], _ => List.Perm.refl _
  | f :: r, h => by
    have h1 := List.pairwise_cons.1 h
    unfold plW
    split
    · rename_i hk
      rw [fput, if_neg (by intro q; simp only [Prod.mk.injEq] at q; simp only [kl, wfl] at hk; omega)]
      exact (plW_perm w h1.2).cons _
    · split
      · rename_i hk he
        rw [fput, if_pos (by simp only [Prod.mk.injEq]; exact ⟨he.1.symm, he.2.symm⟩), he.1, he.2]
      · rename_i hk he
        rw [fput_new w (f :: r) fun x hx q => ?_]
        · exact (List.perm_append_singleton (wfl w) (f :: r)).symm
        · rcases List.mem_cons.1 hx with rfl | hx
          · exact he q
          · have := h1.1 x hx
            simp only [kl, wfl] at hk this; omega
theorem fput_perm (w : WireT) {l m : List FlowT} (hp : l.Perm m) : (l.Pairwise fun a b => ¬ samek a b) → (fput l w).Perm (fput m w) := by
  induction hp with
  | nil => intro _; exact List.Perm.refl _
  | cons x hp ih =>
    intro h
    have h1 := List.pairwise_cons.1 h
    unfold fput
    split
    · exact hp.cons _
    · exact (ih h1.2).cons _
  | swap x y r =>
    intro h
    have h1 := (List.pairwise_cons.1 h).1 x (by simp)
    simp only [fput]
    by_cases a : (w.2.1, w.2.2.1) = (x.1, x.2.1) <;> by_cases b : (w.2.1, w.2.2.1) = (y.1, y.2.1)
    · exfalso
      rw [Prod.mk.injEq] at a b
      exact h1 ⟨by omega, by omega⟩
    · rw [if_neg b, if_pos a, if_pos a]; exact List.Perm.swap ..
    · rw [if_pos b, if_neg a, if_pos b]; exact List.Perm.swap ..
    · rw [if_neg b, if_neg a, if_neg a, if_neg b]; exact List.Perm.swap ..
  | trans hp1 _ ih1 ih2 =>
    intro h
    refine (ih1 h).trans (ih2 ?_)
    exact (hp1.pairwise_iff fun {a b} q r => q ⟨r.1.symm, r.2.symm⟩).1 h
theorem refF_perm (ws : List WireT) : (refF ws).Perm (ws.foldl fput []) := by
  have h : ∀ (ws : List WireT) (l m : List FlowT), l.Pairwise kl → l.Perm m → (ws.foldl (fun l w => plW w l) l).Perm (ws.foldl fput m) := by
    intro ws
    induction ws with
    | nil => intro l m _ h; exact h
    | cons w r ih =>
      intro l m hs hp
      refine ih _ _ (plW_sorted w hs) ((plW_perm w hs).trans (fput_perm w hp (hs.imp fun {a b} q r => ?_)))
      simp only [kl] at q
      obtain ⟨r1, r2⟩ := r
      omega
  exact h ws [] [] List.Pairwise.nil (List.Perm.refl _)
theorem sortedF_one : ∀ {ys xs : List FlowT}, xs.Perm ys → (xs.Pairwise fun x y => ltF y x = false) → ys.Pairwise kl → xs = ys
  | [], xs, h, _, _ => h.eq_nil
  | y :: ys, xs, h, hx, hy => by
    cases xs with
    | nil => exact absurd h.symm.eq_nil (by simp)
    | cons x xs =>
      have hx1 := List.pairwise_cons.1 hx
      have hy1 := List.pairwise_cons.1 hy
      have e : x = y := by
        have a1 : x ∈ y :: ys := h.subset (by simp)
        have a2 : y ∈ x :: xs := h.symm.subset (by simp)
        rcases List.mem_cons.1 a1 with q | q
        · exact q
        · rcases List.mem_cons.1 a2 with q2 | q2
          · exact q2.symm
          · have l1 := hy1.1 x q
            have l2 := hx1.1 y q2
            simp only [ltF, decide_eq_false_iff_not, cmpF_lt] at l2
            exact absurd l1 l2
      subst e
      rw [sortedF_one (List.Perm.cons_inv h) hx1.2 hy1.2]
/-- The flows are the document's. -/
theorem flows_same {ws : List WireT} {vs : List FlowT} (h1 : vs.Perm (ws.foldl fput [])) (h2 : vs.Pairwise fun x y => ltF y x = false) : vs = refF ws :=
  sortedF_one (h1.trans (refF_perm ws).symm) h2 (refF_sorted ws)
/-- The reference's place of a wire. -/
theorem plW_at {w : WireT} : ∀ {l : List FlowT} {k : Nat}, k ≤ l.length → (∀ (j : Nat) (y : FlowT), j < k → l[j]? = some y → kl y (wfl w)) → (∀ y, l[k]? = some y → ¬ kl y (wfl w)) →
    plW w l = match l[k]? with
      | some f => if f.1 = w.2.1 ∧ f.2.1 = w.2.2.1 then l.set k (f.1, f.2.1, wr (f.2.2.1 + w.2.2.2.1), wr (f.2.2.2 + w.2.2.2.2)) else l.take k ++ wfl w :: l.drop k
      | none => l.take k ++ wfl w :: l.drop k
  | [], k, h, _, _ => by
    obtain rfl : k = 0 := by simpa using h
    rfl
  | f :: r, 0, _, _, h2 => by
    have h := h2 f rfl
    rw [plW, if_neg h]
    simp
  | f :: r, k + 1, h, h1, h2 => by
    have h0 := h1 0 f (by omega) rfl
    rw [plW, if_pos h0, plW_at (l := r) (k := k) (by simpa using h) (fun j y hj hy => h1 (j + 1) y (by omega) (by simpa using hy)) (fun y hy => h2 y (by simpa using hy))]
    rw [List.getElem?_cons_succ]
    cases r[k]? with
    | none => rfl
    | some g => simp only; split <;> rfl
/-- Sums of flows. -/
def sumI : List Int → Int
  | [] => 0
  | x :: r => x + sumI r
theorem sumI_app (a b : List Int) : sumI (a ++ b) = sumI a + sumI b := by
  induction a with
  | nil => simp [sumI]
  | cons x a ih => rw [List.cons_append, sumI, sumI, ih]; omega
theorem sumI_perm {a b : List Int} (h : a.Perm b) : sumI a = sumI b := by
  induction h with
  | nil => rfl
  | cons x _ ih => rw [sumI, sumI, ih]
  | swap x y r => simp only [sumI]; omega
  | trans _ _ i1 i2 => rw [i1, i2]
theorem wr_mod (x : Int) : ∃ q, wr x = x + 18446744073709551616 * q := by
  refine ⟨(wr x - x) / 18446744073709551616, ?_⟩
  unfold wr
  rw [IntKind.wrap_i64]
  omega
theorem fput_sums (l : List FlowT) (w : WireT) : (∃ q, sumI ((fput l w).map (·.2.2.1)) = sumI (l.map (·.2.2.1)) + w.2.2.2.1 + 18446744073709551616 * q) ∧ ∃ q, sumI ((fput l w).map (·.2.2.2)) = sumI (l.map (·.2.2.2)) + w.2.2.2.2 + 18446744073709551616 * q := by
  induction l with
  | nil =>
    obtain ⟨q1, h1⟩ := wr_mod (0 + w.2.2.2.1)
    obtain ⟨q2, h2⟩ := wr_mod (0 + w.2.2.2.2)
    exact ⟨⟨q1, by simp only [fput, List.map_cons, List.map_nil, sumI, h1]; omega⟩, ⟨q2, by simp only [fput, List.map_cons, List.map_nil, sumI, h2]; omega⟩⟩
  | cons f r ih =>
    obtain ⟨⟨q1, h1⟩, ⟨q2, h2⟩⟩ := ih
    unfold fput
    split
    · obtain ⟨q1, h1⟩ := wr_mod (f.2.2.1 + w.2.2.2.1)
      obtain ⟨q2, h2⟩ := wr_mod (f.2.2.2 + w.2.2.2.2)
      exact ⟨⟨q1, by simp only [List.map_cons, sumI, h1]; omega⟩, ⟨q2, by simp only [List.map_cons, sumI, h2]; omega⟩⟩
    · exact ⟨⟨q1, by simp only [List.map_cons, sumI, h1]; omega⟩, ⟨q2, by simp only [List.map_cons, sumI, h2]; omega⟩⟩
theorem flows_sums (ws : List WireT) : (∃ q, sumI ((refF ws).map (·.2.2.1)) = sumI (ws.map (·.2.2.2.1)) + 18446744073709551616 * q) ∧ ∃ q, sumI ((refF ws).map (·.2.2.2)) = sumI (ws.map (·.2.2.2.2)) + 18446744073709551616 * q := by
  rw [sumI_perm ((refF_perm ws).map (·.2.2.1)), sumI_perm ((refF_perm ws).map (·.2.2.2))]
  have h : ∀ (ws : List WireT) (l : List FlowT), (∃ q, sumI ((ws.foldl fput l).map (·.2.2.1)) = sumI (l.map (·.2.2.1)) + sumI (ws.map (·.2.2.2.1)) + 18446744073709551616 * q) ∧ ∃ q, sumI ((ws.foldl fput l).map (·.2.2.2)) = sumI (l.map (·.2.2.2)) + sumI (ws.map (·.2.2.2.2)) + 18446744073709551616 * q := by
    intro ws
    induction ws with
    | nil => intro l; exact ⟨⟨0, by simp [sumI]⟩, ⟨0, by simp [sumI]⟩⟩
    | cons w r ih =>
      intro l
      obtain ⟨⟨a, ha⟩, ⟨b, hb⟩⟩ := fput_sums l w
      obtain ⟨⟨c, hc⟩, ⟨d, hd⟩⟩ := ih (fput l w)
      refine ⟨⟨a + c, ?_⟩, ⟨b + d, ?_⟩⟩
      · rw [List.foldl_cons, hc, ha, List.map_cons, sumI]; omega
      · rw [List.foldl_cons, hd, hb, List.map_cons, sumI]; omega
  obtain ⟨⟨a, ha⟩, ⟨b, hb⟩⟩ := h ws []
  exact ⟨⟨a, by rw [ha]; simp [sumI]⟩, ⟨b, by rw [hb]; simp [sumI]⟩⟩
end
end
end Go.Proofs.YtfohdnclpbipeaaDoor
