import Derived.Test.YtfohdnclpbipeaaDoorJoin4
import Derived.Test.YtfohdnclpbipeaaDoorJoin6
namespace Go.Proofs.YtfohdnclpbipeaaDoor
section
open Go Go.SL
section
/-- A number comes into its place, if it is not there. -/
def plcU (x : Int) : List Int → List Int
  | [] => [x]
  | y :: r => if y < x then y :: plcU x r else if y = x then y :: r else x :: y :: r
theorem plcU_at {x : Int} : ∀ {ys : List Int} {k : Nat}, k ≤ ys.length → (∀ (j : Nat) (y : Int), j < k → ys[j]? = some y → y < x) → (∀ y, ys[k]? = some y → ¬ y < x) → plcU x ys = if ys[k]? = some x then ys else ys.take k ++ x :: ys.drop k
  | [], k, hk, _, _ => by simp [plcU]
  | y :: r, 0, _, _, h2 => by
    have := h2 y rfl
    unfold plcU
    rw [if_neg this]
    by_cases e : y = x
    · simp [e]
    · simp [e]
  | y :: r, k + 1, hk, h1, h2 => by
    have h := h1 0 y (by omega) rfl
    unfold plcU
    rw [if_pos h, plcU_at (k := k) (by simpa using hk) (fun j z hj hz => h1 (j + 1) z (by omega) (by simpa using hz)) (fun z hz => h2 z (by simpa using hz))]
    simp only [List.getElem?_cons_succ, List.take_succ_cons, List.drop_succ_cons]
    split <;> rfl
theorem plcU_length (x : Int) (ys : List Int) : (plcU x ys).length ≤ ys.length + 1 := by
  induction ys with
  | nil => simp [plcU]
  | cons y r ih => unfold plcU; split <;> (try split) <;> simp only [List.length_cons] <;> omega
def plcF (xs : List Int) : List Int := xs.foldl (fun l x => plcU x l) []
theorem plcF_take {xs : List Int} {i : Nat} {x : Int} (h : xs[i]? = some x) : plcF (xs.take (i + 1)) = plcU x (plcF (xs.take i)) := by
  unfold plcF
  rw [List.take_add_one, h, Option.toList_some, List.foldl_append]; rfl
theorem plcF_length (xs : List Int) : (plcF xs).length ≤ xs.length := by
  have h : ∀ (xs l : List Int), (xs.foldl (fun l x => plcU x l) l).length ≤ l.length + xs.length := by
    intro xs
    induction xs with
    | nil => intro l; simp
    | cons x r ih =>
      intro l
      have := ih (plcU x l)
      have := plcU_length x l
      rw [List.foldl_cons, List.length_cons]; omega
  have := h xs []
  unfold plcF
  simpa using this
/-- How many numbers go on from p, one by one. -/
def goOn : Int → List Int → Nat
  | _, [] => 0
  | p, x :: r => if x = IntKind.u64.wrap (p + 1) then goOn x r + 1 else 0
theorem goOn_le (p : Int) (l : List Int) : goOn p l ≤ l.length := by
  induction l generalizing p with
  | nil => simp [goOn]
  | cons x r ih => unfold goOn; split <;> simp only [List.length_cons] <;> have := ih x <;> omega
def refRuns (n : Int) : Nat → List Int → Int
  | 0, _ => 0
  | _, [] => 0
  | f + 1, x :: r => ((goOn x r + 1 : Nat) : Int) / n + refRuns n f (r.drop (goOn x r))
theorem refRuns_fuel (n : Int) : ∀ (k : Nat) (l : List Int) (f g : Nat), l.length ≤ k → l.length ≤ f → l.length ≤ g → refRuns n f l = refRuns n g l
  | _, [], f, g, _, _, _ => by cases f <;> cases g <;> rfl
  | _, x :: r, 0, _, _, h, _ => by simp at h
  | _, x :: r, _ + 1, 0, _, _, h => by simp at h
  | 0, x :: r, _, _, h, _, _ => by simp at h
  | k + 1, x :: r, f + 1, g + 1, h0, h1, h2 => by
    rw [refRuns, refRuns, refRuns_fuel n k (r.drop (goOn x r)) f g (by rw [List.length_drop]; simp at h0; omega) (by rw [List.length_drop]; simp at h1; omega) (by rw [List.length_drop]; simp at h2; omega)]
theorem refRuns_eq {n : Int} (hn : 1 ≤ n) : ∀ (l : List Int) (f : Nat) (c k p : Int), l.length ≤ f → 0 ≤ k → k < n → (l.foldl (runStep n) (c, k, some p)).1 = c + (k + goOn p l) / n + refRuns n f (l.drop (goOn p l))
  | [], f, c, k, p, _, h0, h1 => by
    simp only [List.foldl_nil, goOn, List.drop_nil]
    have e : refRuns n f [] = 0 := by cases f <;> rfl
    rw [e, Int.ediv_eq_zero_of_lt (by omega) (by omega)]
    omega
  | x :: r, 0, c, k, p, hf, _, _ => by simp at hf
  | x :: r, f + 1, c, k, p, hf, h0, h1 => by
    have hfr : r.length ≤ f := by simpa using hf
    have key : ∀ k : Int, 0 ≤ k → k < n → ((r.foldl (runStep n) (if k + 1 = n then (c + 1, 0, some x) else (c, k + 1, some x))).1 = c + (k + 1 + goOn x r) / n + refRuns n f (r.drop (goOn x r))) := fun k h0 h1 => by
      by_cases h : k + 1 = n
      · rw [if_pos h, refRuns_eq hn r f (c + 1) 0 x hfr (by omega) (by omega)]
        have e : (k + 1 + (goOn x r : Int)) / n = 1 + (0 + (goOn x r : Int)) / n := by
          rw [h, Int.zero_add, Int.add_ediv_of_dvd_left (Int.dvd_refl n), Int.ediv_self (by omega)]
        rw [e]; omega
      · rw [if_neg h, refRuns_eq hn r f c (k + 1) x hfr (by omega) (by omega)]
    rw [List.foldl_cons]
    by_cases hx : x = IntKind.u64.wrap (p + 1)
    · have e1 : runStep n (c, k, some p) x = (if k + 1 = n then (c + 1, 0, some x) else (c, k + 1, some x)) := by
        have e0 : (Option.map (fun p => IntKind.u64.wrap (p + 1)) (some p) = some x) := by rw [Option.map_some, ← hx]
        unfold runStep
        simp only [e0, if_true]
      rw [e1, key k h0 h1]
      have e2 : goOn p (x :: r) = goOn x r + 1 := by rw [goOn, if_pos hx]
      rw [e2, List.drop_succ_cons]
      have e3 : refRuns n (f + 1) (r.drop (goOn x r)) = refRuns n f (r.drop (goOn x r))   := refRuns_fuel n _ _ (f + 1) f (Nat.le_refl _) (by rw [List.length_drop]; omega) (by rw [List.length_drop]; omega)
      rw [e3]
      congr 3
      push_cast
      omega
    · have e1 : runStep n (c, k, some p) x = (if 0 + 1 = n then (c + 1, 0, some x) else (c, 0 + 1, some x)) := by
        have e0 : ¬ (Option.map (fun p => IntKind.u64.wrap (p + 1)) (some p) = some x) := fun q => hx (Option.some.inj q).symm
        unfold runStep
        simp only [e0, if_false]
      rw [e1, key 0 (by omega) (by omega)]
      have e2 : goOn p (x :: r) = 0 := by rw [goOn, if_neg hx]
      rw [e2, List.drop_zero, refRuns]
      rw [Int.ediv_eq_zero_of_lt (a := k + ((0 : Nat) : Int)) (by omega) (by omega)]
      push_cast
      rw [Int.add_comm 1 (goOn x r : Int)]
      generalize ((goOn x r : Int) + 1) / n = z
      omega
end
section
theorem rr_step {n : Int} {L r : List Int} {x : Int} {F : Nat} (h : L = x :: r) (hF : (x :: r).length ≤ F) : refRuns n F L = ((goOn x r + 1 : Nat) : Int) / n + refRuns n F (r.drop (goOn x r)) := by
  subst h
  cases F with
  | zero => simp at hF
  | succ f =>
    rw [refRuns, refRuns_fuel n _ (r.drop (goOn x r)) (f + 1) f (Nat.le_refl _) (by rw [List.length_drop]; simp at hF; omega) (by rw [List.length_drop]; simp at hF; omega)]
end
section
attribute [local irreducible] J JL JE JM LS Y Fc RV Code.wp wpList Code.wpIn wpListIn
attribute [local irreducible] Yc Sort.ltInt
variable (E : World)
theorem rruns_spec (p : Option Addr) (m c : Nat) (xs : List Int) (n : Int) (l : List HProp) (hm : xs.length = m) (hm8 : m ≤ 1000) (hin : InL l p m c (ints .u64 xs)) :
    Fc prog E 19 [.slice p m c, .int .i64 n].toArray l (fun v l' => v = .int .i64 (if n < 1 then 0 else refRuns n (plcF xs).length (plcF xs)) ∧ l' = l) := by
  refine Fc.eqs ?_
  refine Fc.of_body (c := ?codeC) Tryd.func19 ?hb Tryd.ntmps19 ?hl ?_
  case hb => exact rfl
  case hl => exact rfl
  refine J.seq ?_
  refine J.region ?_
  refine JL.step (y_assign rfl) rfl rfl rfl ?_
  refine JL.nil ?_
  refine JE.then_normal ?_
  refine J.seq ?_
  refine J.seq ?_
  refine J.region ?_
  refine JL.step (y_move rfl) rfl rfl rfl (JL.step (y_lss rfl rfl) rfl rfl rfl ?_)
  refine JL.nil ?_
  refine JE.then_normal ?_
  first | apply J.cond_dec rfl | apply J.cond rfl
  case' ht =>
    intro h
    try (first | (exfalso; omega) | (cases h; done) | (exfalso; simp at h; done) | subst h)
    all_goals
      refine J.seq ?_
      refine J.region ?_
      refine JL.step (y_assign rfl) rfl rfl rfl ?_
      refine JL.nil ?_
      refine JE.then_normal ?_
      refine J.ret ?_
      refine JE.then_ret ?_
      refine JE.ret1 (.inl rfl) rfl rfl (by (first | exact RV.tmp rfl | exact RV.cell1 hT rfl rfl rfl (by (exact Rd1.row (by (repeat (first | exact Pick.head | apply Pick.tail | apply Pick.app))) (by rfl))) | exact RV.cellN hT rfl rfl rfl (by (first | exact RdN.rowAll (by (repeat (first | exact Pick.head | apply Pick.tail | apply Pick.app))) | exact RdN.own (by (repeat (first | exact Pick.head | apply Pick.tail | apply Pick.app))))) (by (first | rfl | assumption | (simp; done) | omega)))) ?_
      first
      | exact ⟨by rw [if_pos (by omega)], fun w h => h⟩
      | refine ⟨?_, fun w h => h.sup (by (repeat (first | exact Sup.refl | apply Sup.cons (by (repeat (first | exact Pick.head | apply Pick.tail | apply Pick.app))) | apply Sup.app | apply Sup.skip | apply Sup.skips)))⟩
        obtain rfl : j = zs.length := by omega
        have e0 : refRuns n zs.length (zs.drop zs.length) = 0 := by rw [List.drop_of_length_le (Nat.le_refl _)]; cases zs.length <;> rfl
        rw [e0] at hrr
        rw [if_neg hn1, hrr]
        simp
  case' hf =>
    intro h
    try (first | (exfalso; omega) | (cases h; done) | (exfalso; simp at h; done) | subst h)
    all_goals
      refine J.skip ?_
  all_goals refine JE.then_normal ?_
  all_goals
    refine J.seq ?_
    refine J.region ?_
    refine JL.step (y_assign rfl) rfl rfl rfl ?_
    refine JL.nil ?_
    refine JE.then_normal ?_
    refine J.seq ?_
    refine J.seq ?_
    refine J.region ?_
    refine JL.step (y_move rfl) rfl rfl rfl (JL.step (y_len_slice hT rfl rfl rfl) rfl rfl rfl (JL.step (y_move rfl) rfl rfl rfl ?_))
    refine JL.nil ?_
    refine JE.then_normal ?_
    refine J.block ?_
    refine J.pre (l' := own 35 1 (.slice none 0 0) 0 [] :: l) (fun w s => Sat.own_nil s) ?_
    refine J.loop (α := Nat × Option Addr × Nat) (fun s => s.1 ≤ m) (fun s => [(1, .int .i64 n), (5, .slice s.2.1 (plcF (xs.take s.1)).length s.2.2), (14, .slice p m c), (15, .int .i64 m), (16, .int .i64 s.1)]) (fun s => own 35 1 (.slice s.2.1 (plcF (xs.take s.1)).length s.2.2) (plcF (xs.take s.1)).length ((plcF (xs.take s.1)).map (Value.int .u64)) :: l) (fun s => m - s.1) (0, none, 0) (Nat.zero_le _) ⟨rfl, rfl, rfl, rfl, rfl, trivial⟩ (fun w h => h) ?_
    rintro ⟨i, a, c'⟩ hi
    have hpl := plcF_length (xs.take i)
    rw [List.length_take] at hpl
    dsimp only at hi ⊢
    refine J.seq ?_
    refine J.region ?_
    refine JL.step (y_lss rfl rfl) rfl rfl rfl ?_
    refine JL.nil ?_
    refine JE.then_normal ?_
    refine J.seq ?_
    first | apply J.cond_dec rfl | apply J.cond rfl
    case' ht =>
      intro h
      try (first | (exfalso; omega) | (cases h; done) | (exfalso; simp at h; done) | subst h)
      all_goals
        refine J.skip ?_
    case' hf =>
      intro h
      try (first | (exfalso; omega) | (cases h; done) | (exfalso; simp at h; done) | subst h)
      all_goals
        refine J.exit ?_
        refine JE.then_exit ?_
        refine JE.then_exit ?_
        refine JE.block_exit ?_
        refine JE.then_normal ?_
        refine J.seq ?_
        obtain rfl : i = m := by omega
        rw [List.take_of_length_le (by omega)]
        rw [List.take_of_length_le (by omega)] at hpl
        obtain ⟨zs, hzs⟩ : ∃ zs, plcF xs = zs := ⟨_, rfl⟩
        rw [hzs] at hpl ⊢
        have hn1 : ¬ n < 1 := by omega
        refine J.fact (fun w s => Sat.own_at (s.pick Pick.head)) fun oz => ?_
        have hoz := oz.inl (l := own 35 1 (.slice a zs.length c') zs.length (zs.map (Value.int .u64)) :: l) Pick.head
        refine J.region ?_
        refine JL.step (y_assign rfl) rfl rfl rfl ?_
        refine JL.nil ?_
        refine JE.then_normal ?_
        refine J.seq ?_
        refine J.seq ?_
        refine J.region ?_
        refine JL.step (y_assign rfl) rfl rfl rfl ?_
        refine JL.nil ?_
        refine JE.then_normal ?_
        refine J.block ?_
        refine J.loop (α := Nat × Int) (fun s => s.1 ≤ zs.length ∧ 0 ≤ s.2 ∧ s.2 ≤ s.1 ∧ refRuns n zs.length zs = s.2 + refRuns n zs.length (zs.drop s.1)) (fun s => [(1, .int .i64 n), (5, .slice a zs.length c'), (9, .int .i64 s.2), (10, .int .i64 s.1)]) (fun _ => own 35 1 (.slice a zs.length c') zs.length (zs.map (Value.int .u64)) :: l) (fun s => zs.length - s.1) (0, 0) ⟨Nat.zero_le _, Int.le_refl _, Int.le_refl _, by simp⟩ ⟨rfl, rfl, rfl, rfl, trivial⟩ (fun w h => h) ?_
        rintro ⟨j, cnt⟩ ⟨hj, hc0, hc1, hrr⟩
        dsimp only at hj hc0 hc1 hrr ⊢
        refine J.seq ?_
        refine J.seq ?_
        refine J.region ?_
        refine JL.step (y_move rfl) rfl rfl rfl (JL.step (y_move rfl) rfl rfl rfl (JL.step (y_len_slice hT rfl rfl rfl) rfl rfl rfl (JL.step (y_lss rfl rfl) rfl rfl rfl ?_)))
        refine JL.nil ?_
        refine JE.then_normal ?_
        first | apply J.cond_dec rfl | apply J.cond rfl
        case' ht =>
          intro h
          try (first | (exfalso; omega) | (cases h; done) | (exfalso; simp at h; done) | subst h)
          all_goals
            refine J.skip ?_
        case' hf =>
          intro h
          try (first | (exfalso; omega) | (cases h; done) | (exfalso; simp at h; done) | subst h)
          all_goals
            refine J.exit ?_
            refine JE.then_exit ?_
            refine JE.then_exit ?_
            refine JE.block_exit ?_
            refine JE.then_normal ?_
            refine J.seq ?_
            refine J.region ?_
            refine JL.step (y_move rfl) rfl rfl rfl (JL.step (y_assign rfl) rfl rfl rfl ?_)
            refine JL.nil ?_
            refine JE.then_normal ?_
            refine J.ret ?_
            refine JE.ret1 (.inl rfl) rfl rfl (by (first | exact RV.tmp rfl | exact RV.cell1 hT rfl rfl rfl (by (exact Rd1.row (by (repeat (first | exact Pick.head | apply Pick.tail | apply Pick.app))) (by rfl))) | exact RV.cellN hT rfl rfl rfl (by (first | exact RdN.rowAll (by (repeat (first | exact Pick.head | apply Pick.tail | apply Pick.app))) | exact RdN.own (by (repeat (first | exact Pick.head | apply Pick.tail | apply Pick.app))))) (by (first | rfl | assumption | (simp; done) | omega)))) ?_
            first
            | exact ⟨by rw [if_pos (by omega)], fun w h => h⟩
            | refine ⟨?_, fun w h => h.sup (by (repeat (first | exact Sup.refl | apply Sup.cons (by (repeat (first | exact Pick.head | apply Pick.tail | apply Pick.app))) | apply Sup.app | apply Sup.skip | apply Sup.skips)))⟩
              obtain rfl : j = zs.length := by omega
              have e0 : refRuns n zs.length (zs.drop zs.length) = 0 := by rw [List.drop_of_length_le (Nat.le_refl _)]; cases zs.length <;> rfl
              rw [e0] at hrr
              rw [if_neg hn1, hrr]
              simp
        all_goals refine JE.then_normal ?_
        all_goals
          refine J.block ?_
          refine J.seq ?_
          refine J.region ?_
          obtain ⟨x, r, hd, hxj, hrj⟩ : ∃ x r, zs.drop j = x :: r ∧ zs[j]? = some x ∧ r = zs.drop (j + 1) := ⟨zs[j]'(by omega), zs.drop (j + 1), List.drop_eq_getElem_cons _, List.getElem?_eq_getElem _, rfl⟩
          have hgl := goOn_le x r
          have hrl : r.length = zs.length - (j + 1) := by rw [hrj, List.length_drop]
          obtain ⟨g2, o2, rfl, hr2⟩ := hoz.addr (by omega)
          refine JL.step (y_move rfl) rfl rfl rfl ?_
          refine JL.step (y_add rfl rfl (by (first | exact wrap_i64 (by omega) (by omega) | rfl))) rfl rfl rfl ?_
          refine JL.step (y_assign rfl) rfl rfl rfl ?_
          refine JL.nil ?_
          refine JE.then_normal ?_
          refine J.seqK (α := Nat) (fun k => k = j + 1 + goOn x r) (fun k => [(1, .int .i64 n), (5, .slice (some ⟨g2, o2, none⟩) zs.length c'), (9, .int .i64 cnt), (10, .int .i64 j), (11, .int .i64 k)]) (fun _ => own 35 1 (.slice (some ⟨g2, o2, none⟩) zs.length c') zs.length (zs.map (Value.int .u64)) :: l) ?hj19 (fun hk19 => ?hf19)
          case hf19 =>
            refine J.block ?_
            refine J.loop (α := Nat) (fun k => j + 1 ≤ k ∧ k ≤ j + 1 + goOn x r ∧ ∃ z, zs[k - 1]? = some z ∧ goOn z (zs.drop k) = j + 1 + goOn x r - k) (fun k => [(1, .int .i64 n), (5, .slice (some ⟨g2, o2, none⟩) zs.length c'), (9, .int .i64 cnt), (10, .int .i64 j), (11, .int .i64 k)]) (fun _ => own 35 1 (.slice (some ⟨g2, o2, none⟩) zs.length c') zs.length (zs.map (Value.int .u64)) :: l) (fun k => zs.length - k) (j + 1) ⟨Nat.le_refl _, by omega, x, by rw [Nat.add_sub_cancel]; exact hxj, by rw [← hrj]; omega⟩ ⟨rfl, rfl, rfl, rfl, rfl, trivial⟩ (fun w h => h) ?_
            rintro k ⟨hk1, hk2, z, hz, hgz⟩
            try dsimp only
            refine J.seq ?_
            refine J.seq ?_
            by_cases hg : k < zs.length
            all_goals
              refine J.draw _ _ [(0, .q), (1, .q), (2, .q), (3, .q), (4, .q), (5, .q), (6, .q), (7, .q), (8, .q), (9, .q), (10, .q), (11, .q), (12, .q), (13, .q), (14, .q), (15, .q), (16, .q)] mixed (by kernel_rfl) (Split.nil) ?_
              refine JM.quiet rfl rfl rfl rfl (fun m => y_move rfl) ?_
              refine JM.quiet rfl rfl rfl rfl (fun m => y_move rfl) ?_
              refine JM.quiet rfl rfl rfl rfl (fun m => y_len_slice hT rfl rfl rfl) ?_
              first | refine JM.quiet rfl rfl rfl rfl (fun m => y_lssB rfl rfl (decide_eq_true (by omega))) ?_ | refine JM.quiet rfl rfl rfl rfl (fun m => y_lssB rfl rfl (decide_eq_false (by omega))) ?_
              refine JM.quiet rfl rfl rfl rfl (fun m => y_move rfl) ?_
              all_goals (first | refine JM.gskip rfl rfl rfl rfl rfl rfl rfl ?_ | refine JM.gskipU rfl rfl rfl rfl rfl rfl ?_ | refine JM.gquiet rfl rfl rfl rfl rfl rfl (fun m => y_move rfl) ?_)
              all_goals (first | refine JM.gskip rfl rfl rfl rfl rfl rfl rfl ?_ | refine JM.gskipU rfl rfl rfl rfl rfl rfl ?_ | refine JM.gquiet rfl rfl rfl rfl rfl rfl (fun m => y_move rfl) ?_)
              all_goals (first | refine JM.gskip rfl rfl rfl rfl rfl rfl rfl ?_ | refine JM.gskipU rfl rfl rfl rfl rfl rfl ?_ | refine JM.gquiet rfl rfl rfl rfl rfl rfl (fun m => y_indexAddr_slice hT rfl rfl rfl rfl rfl (by (first | omega | exact Nat.le_of_ble_eq_true rfl | decide | (simp; omega))) (by (first | omega | exact Nat.le_of_ble_eq_true rfl | decide | (simp; omega)))) ?_)
              all_goals (first | refine JM.gskip rfl rfl rfl rfl rfl rfl rfl ?_ | refine JM.gskipU rfl rfl rfl rfl rfl rfl ?_ | (obtain ⟨u, hu⟩ : ∃ u, zs[k]? = some u := ⟨zs[k]'(by omega), List.getElem?_eq_getElem _⟩; refine JM.gquiet rfl rfl rfl rfl rfl rfl (fun m => y_load1 hT rfl rfl rfl (Rd1.elem ((hr2 []).app m) (by rw [Int.toNat_natCast, List.getElem?_map, hu]; rfl))) ?_))
              all_goals (first | refine JM.gskip rfl rfl rfl rfl rfl rfl rfl ?_ | refine JM.gskipU rfl rfl rfl rfl rfl rfl ?_ | refine JM.gquiet rfl rfl rfl rfl rfl rfl (fun m => y_move rfl) ?_)
              all_goals (first | refine JM.gskip rfl rfl rfl rfl rfl rfl rfl ?_ | refine JM.gskipU rfl rfl rfl rfl rfl rfl ?_ | refine JM.gquiet rfl rfl rfl rfl rfl rfl (fun m => y_move rfl) ?_)
              all_goals (first | refine JM.gskip rfl rfl rfl rfl rfl rfl rfl ?_ | refine JM.gskipU rfl rfl rfl rfl rfl rfl ?_ | refine JM.gquiet rfl rfl rfl rfl rfl rfl (fun m => y_sub rfl rfl (by (first | exact wrap_i64 (by omega) (by omega) | rfl))) ?_)
              all_goals (first | refine JM.gskip rfl rfl rfl rfl rfl rfl rfl ?_ | refine JM.gskipU rfl rfl rfl rfl rfl rfl ?_ | refine JM.gquiet rfl rfl rfl rfl rfl rfl (fun m => y_indexAddr_slice hT rfl rfl rfl rfl rfl (by (first | omega | exact Nat.le_of_ble_eq_true rfl | decide | (simp; omega))) (by (first | omega | exact Nat.le_of_ble_eq_true rfl | decide | (simp; omega)))) ?_)
              all_goals (first | refine JM.gskip rfl rfl rfl rfl rfl rfl rfl ?_ | refine JM.gskipU rfl rfl rfl rfl rfl rfl ?_ | refine JM.gquiet rfl rfl rfl rfl rfl rfl (fun m => y_load1 hT rfl rfl rfl (Rd1.elem ((hr2 []).app m) (by rw [show ((k : Int) - 1).toNat = k - 1 by omega, List.getElem?_map, hz]; rfl))) ?_)
              all_goals (first | refine JM.gskip rfl rfl rfl rfl rfl rfl rfl ?_ | refine JM.gskipU rfl rfl rfl rfl rfl rfl ?_ | refine JM.gquiet rfl rfl rfl rfl rfl rfl (fun m => y_add (m := IntKind.u64.wrap (z + 1)) rfl rfl rfl) ?_)
              all_goals (first | refine JM.gskip rfl rfl rfl rfl rfl rfl rfl ?_ | refine JM.gskipU rfl rfl rfl rfl rfl rfl ?_ | refine JM.gquiet rfl rfl rfl rfl rfl rfl (fun m => y_eql rfl rfl) ?_)
              all_goals refine JM.quiet rfl rfl rfl rfl (fun m => y_pick rfl rfl rfl) ?_
              all_goals refine JM.nil ?_
            all_goals refine JE.then_normal ?_
            all_goals
              first | apply J.cond_dec rfl | apply J.cond rfl
              case' ht =>
                intro h
                try (first | (exfalso; omega) | (cases h; done) | (exfalso; simp at h; done) | subst h)
                all_goals
                  refine J.skip ?_
              case' hf =>
                intro h
                try (first | (exfalso; omega) | (cases h; done) | (exfalso; simp at h; done) | subst h)
                all_goals
                  refine J.exit ?_
                  refine JE.then_exit ?_
                  refine JE.then_exit ?_
                  refine JE.block_exit ?_
                  refine JE.then_normal ?_
                  first
                  | exact J.closeK hk19 k (by omega) ⟨rfl, rfl, rfl, rfl, rfl, trivial⟩ (fun w h => h)
                  | exact J.closeK hk19 k (by
                      rw [List.drop_eq_getElem_cons (show k < zs.length by omega), goOn] at hgz
                      rw [List.getElem?_eq_getElem (show k < zs.length by omega)] at hu
                      have hu := Option.some.inj hu
                      rw [hu, if_neg (by simpa using h)] at hgz
                      omega) ⟨rfl, rfl, rfl, rfl, rfl, trivial⟩ (fun w h => h)
            all_goals refine JE.then_normal ?_
            all_goals
              refine J.block ?_
              refine J.region ?_
              refine JL.step (y_move rfl) rfl rfl rfl ?_
              refine JL.step (y_add rfl rfl (by (first | exact wrap_i64 (by omega) (by omega) | rfl))) rfl rfl rfl ?_
              refine JL.step (y_assign rfl) rfl rfl rfl ?_
              refine JL.nil ?_
              refine JE.block_normal ?_
            all_goals
              have hgz2 := hgz
              rw [List.drop_eq_getElem_cons (show k < zs.length by omega), goOn] at hgz2
              have hu2 := hu
              rw [List.getElem?_eq_getElem (show k < zs.length by omega)] at hu2
              have hu2 := Option.some.inj hu2
              rw [hu2, if_pos rfl] at hgz2
              exact JE.round (s := k) (k + 1) ⟨by omega, by omega, IntKind.u64.wrap (z + 1), by rw [Nat.add_sub_cancel]; exact hu, by omega⟩ ⟨rfl, rfl, rfl, rfl, rfl, trivial⟩ (fun w h => h) (by omega)
          rintro k hkk
          try dsimp only
          obtain ⟨n', rfl⟩ : ∃ n' : Nat, n = n' := ⟨n.toNat, by omega⟩
          have hdv : (k - j) / n' ≤ k - j := Nat.div_le_self _ _
          obtain ⟨q, hq⟩ : ∃ q, (k - j) / n' = q := ⟨_, rfl⟩
          rw [hq] at hdv
          refine J.seq ?_
          refine J.region ?_
          refine JL.step (y_move rfl) rfl rfl rfl (JL.step (y_move rfl) rfl rfl rfl (JL.step (y_move rfl) rfl rfl rfl ?_))
          refine JL.step (y_sub rfl rfl (by (first | exact wrap_i64 (by omega) (by omega) | rfl))) rfl rfl rfl ?_
          refine JL.step (y_move rfl) rfl rfl rfl ?_
          refine JL.step (y_quo (m := (q : Int)) rfl rfl (by omega) (by rw [← hq]; exact quo_nat (x := k - j) (k := n') (by omega) (by omega))) rfl rfl rfl ?_
          refine JL.step (y_add rfl rfl (by (first | exact wrap_i64 (by omega) (by omega) | rfl))) rfl rfl rfl ?_
          refine JL.step (y_assign rfl) rfl rfl rfl ?_
          refine JL.nil ?_
          refine JE.then_normal ?_
          refine J.region ?_
          refine JL.step (y_move rfl) rfl rfl rfl (JL.step (y_assign rfl) rfl rfl rfl ?_)
          refine JL.nil ?_
          all_goals refine JE.block_normal ?_
        all_goals
          exact JE.round (s := (j, cnt)) (k, cnt + (q : Int)) ⟨by dsimp only; omega, by dsimp only; omega, by
            dsimp only
            omega, by
            dsimp only
            rw [hrr, rr_step hd (by rw [← hd, List.length_drop]; omega), hkk]
            have e : zs.drop (j + 1 + goOn x r) = r.drop (goOn x r) := by rw [hrj, List.drop_drop]
            rw [hkk, show j + 1 + goOn x r - j = goOn x r + 1 by omega] at hq
            rw [e, ← hq]
            have e2 : (((goOn x r + 1) / n' : Nat) : Int) = ((goOn x r + 1 : Nat) : Int) / (n' : Int) := Int.natCast_ediv _ _
            rw [e2]
            generalize ((goOn x r + 1 : Nat) : Int) / (n' : Int) = q1
            omega⟩ ⟨rfl, rfl, rfl, rfl, trivial⟩ (fun w h => h) (by dsimp only; omega)
    all_goals refine JE.then_normal ?_
    all_goals
      refine J.seq ?_
      refine J.block ?_
      refine J.seq ?_
      refine J.region ?_
      have hlt : i < m := by omega
      obtain ⟨x, hh⟩ : ∃ x, xs[i]? = some x := ⟨xs[i]'(by omega), List.getElem?_eq_getElem _⟩
      have hst := plcF_take hh
      obtain ⟨ys, hys⟩ : ∃ ys, plcF (xs.take i) = ys := ⟨_, rfl⟩
      rw [hys] at hst hpl ⊢
      obtain ⟨g, o, rfl, hr⟩ := hin.addr (by omega)
      refine JL.fact (fun w s => Sat.own_at (s.pick Pick.head)) fun oy => ?_
      have hoy := oy.inl (l := own 35 1 (.slice a ys.length c') ys.length (ys.map (Value.int .u64)) :: l) Pick.head
      refine JL.step (y_indexAddr_slice hT rfl rfl rfl rfl rfl (by (first | omega | exact Nat.le_of_ble_eq_true rfl | decide | (simp; omega))) (by (first | omega | exact Nat.le_of_ble_eq_true rfl | decide | (simp; omega)))) rfl rfl rfl ?_
      refine JL.step (y_load1 hT rfl rfl rfl (Rd1.elem ((hr []).cons _) (by rw [Int.toNat_natCast]; unfold ints; rw [List.getElem?_map, hh]; rfl))) rfl rfl rfl ?_
      refine JL.step (y_assign rfl) rfl rfl rfl ?_
      refine JL.nil ?_
      refine JE.then_normal ?_
      refine J.seq ?_
      refine J.region ?_
      refine JL.step (y_assign rfl) rfl rfl rfl ?_
      refine JL.nil ?_
      refine JE.then_normal ?_
      refine J.seqK (α := Nat) (fun k => k ≤ ys.length ∧ (∀ (j : Nat) (y : Int), j < k → ys[j]? = some y → y < x) ∧ ∀ y, ys[k]? = some y → ¬ y < x) (fun k => [(1, .int .i64 n), (5, .slice a ys.length c'), (7, .int .u64 x), (8, .int .i64 k), (14, .slice (some ⟨g, o, none⟩) m c), (15, .int .i64 m), (16, .int .i64 i)]) (fun _ => own 35 1 (.slice a ys.length c') ys.length (ys.map (Value.int .u64)) :: l) ?hj10 (fun hk10 => ?hf10)
      case hf10 =>
        refine J.block ?_
        refine J.loop (α := Nat) (fun k => k ≤ ys.length ∧ ∀ (j : Nat) (y : Int), j < k → ys[j]? = some y → y < x) (fun k => [(1, .int .i64 n), (5, .slice a ys.length c'), (7, .int .u64 x), (8, .int .i64 k), (14, .slice (some ⟨g, o, none⟩) m c), (15, .int .i64 m), (16, .int .i64 i)]) (fun _ => own 35 1 (.slice a ys.length c') ys.length (ys.map (Value.int .u64)) :: l) (fun k => ys.length - k) 0 ⟨Nat.zero_le _, by omega⟩ ⟨rfl, rfl, rfl, rfl, rfl, rfl, rfl, trivial⟩ (fun w h => h) ?_
        rintro k ⟨hk, hbl⟩
        try dsimp only
        refine J.seq ?_
        refine J.seq ?_
        refine J.region ?_
        refine JL.step (y_move rfl) rfl rfl rfl (JL.step (y_move rfl) rfl rfl rfl (JL.step (y_len_slice hT rfl rfl rfl) rfl rfl rfl (JL.step (y_lss rfl rfl) rfl rfl rfl (JL.step (y_move rfl) rfl rfl rfl ?_))))
        all_goals (first | (refine JL.gsplit_dec rfl rfl rfl (fun h => ?_) (fun h => ?_) <;> try (first | (exfalso; omega) | exact absurd rfl h)) | (refine JL.gsplit rfl rfl rfl (fun h => ?_) (fun h => ?_) <;> try (first | cases h | (exfalso; simp at h; done))) | skip)
        all_goals (first | refine JL.gskip rfl rfl rfl rfl rfl rfl ?_ | refine JL.gskipU rfl rfl rfl rfl rfl ?_ | refine JL.gstep rfl rfl rfl (y_move rfl) rfl rfl ?_)
        all_goals (first | refine JL.gskip rfl rfl rfl rfl rfl rfl ?_ | refine JL.gskipU rfl rfl rfl rfl rfl ?_ | refine JL.gstep rfl rfl rfl (y_move rfl) rfl rfl ?_)
        all_goals (first | refine JL.gskip rfl rfl rfl rfl rfl rfl ?_ | refine JL.gskipU rfl rfl rfl rfl rfl ?_ | (obtain ⟨g2, o2, rfl, hr2⟩ := hoy.addr (by omega); obtain ⟨y, hy⟩ : ∃ y, ys[k]? = some y := ⟨ys[k]'(by omega), List.getElem?_eq_getElem _⟩; refine JL.gstep rfl rfl rfl (y_indexAddr_slice hT rfl rfl rfl rfl rfl (by (first | omega | exact Nat.le_of_ble_eq_true rfl | decide | (simp; omega))) (by (first | omega | exact Nat.le_of_ble_eq_true rfl | decide | (simp; omega)))) rfl rfl ?_))
        all_goals (first | refine JL.gskip rfl rfl rfl rfl rfl rfl ?_ | refine JL.gskipU rfl rfl rfl rfl rfl ?_ | refine JL.gstep rfl rfl rfl (y_load1 hT rfl rfl rfl (Rd1.elem (hr2 []) (by rw [Int.toNat_natCast, List.getElem?_map, hy]; rfl))) rfl rfl ?_)
        all_goals (first | refine JL.gskip rfl rfl rfl rfl rfl rfl ?_ | refine JL.gskipU rfl rfl rfl rfl rfl ?_ | refine JL.gstep rfl rfl rfl (y_move rfl) rfl rfl ?_)
        all_goals (first | refine JL.gskip rfl rfl rfl rfl rfl rfl ?_ | refine JL.gskipU rfl rfl rfl rfl rfl ?_ | refine JL.gstep rfl rfl rfl (y_lss rfl rfl) rfl rfl ?_)
        all_goals (refine JL.step (y_pick rfl rfl rfl) rfl rfl rfl ?_)
        all_goals refine JL.nil ?_
        all_goals refine JE.then_normal ?_
        all_goals
          first | apply J.cond_dec rfl | apply J.cond rfl
          case' ht =>
            intro h
            try (first | (exfalso; omega) | (cases h; done) | (exfalso; simp at h; done) | subst h)
            all_goals
              refine J.skip ?_
          case' hf =>
            intro h
            try (first | (exfalso; omega) | (cases h; done) | (exfalso; simp at h; done) | subst h)
            all_goals
              refine J.exit ?_
              refine JE.then_exit ?_
              refine JE.then_exit ?_
              refine JE.block_exit ?_
              refine JE.then_normal ?_
              first
              | exact J.closeK hk10 k ⟨hk, hbl, fun y' hy' => by rw [List.getElem?_eq_none (by omega)] at hy'; cases hy'⟩ ⟨rfl, rfl, rfl, rfl, rfl, rfl, rfl, trivial⟩ (fun w h => h)
              | exact J.closeK hk10 k ⟨hk, hbl, fun y' hy' => by rw [hy] at hy'; cases hy'; simpa using h⟩ ⟨rfl, rfl, rfl, rfl, rfl, rfl, rfl, trivial⟩ (fun w h => h)
        all_goals refine JE.then_normal ?_
        all_goals
          refine J.block ?_
          refine J.region ?_
          refine JL.step (y_move rfl) rfl rfl rfl ?_
          refine JL.step (y_add rfl rfl (by (first | exact wrap_i64 (by omega) (by omega) | rfl))) rfl rfl rfl ?_
          refine JL.step (y_assign rfl) rfl rfl rfl ?_
          refine JL.nil ?_
          refine JE.block_normal ?_
        all_goals
          have hyx : y < x := by simpa using h
          exact JE.round (s := k) (k + 1) ⟨by omega, fun j y' hj hy' => by
            rcases Nat.lt_or_ge j k with q | q
            · exact hbl j y' q hy'
            · obtain rfl : j = k := by omega
              rw [hy] at hy'
              cases hy'
              exact hyx⟩ ⟨rfl, rfl, rfl, rfl, rfl, rfl, rfl, trivial⟩ (fun w h => h) (by omega)
      rintro k ⟨hk, hbl, hge⟩
      try dsimp only
      have hpu := plcU_at hk hbl hge
      refine J.seqK (α := Bool) (fun b => b = decide (ys[k]? ≠ some x)) (fun b => [(1, .int .i64 n), (5, .slice a ys.length c'), (7, .int .u64 x), (8, .int .i64 k), (14, .slice (some ⟨g, o, none⟩) m c), (15, .int .i64 m), (16, .int .i64 i), (45, .bool b)]) (fun _ => own 35 1 (.slice a ys.length c') ys.length (ys.map (Value.int .u64)) :: l) ?hj11 (fun hk11 => ?hf11)
      case hf11 =>
        refine J.region ?_
        refine JL.step (y_move rfl) rfl rfl rfl (JL.step (y_move rfl) rfl rfl rfl (JL.step (y_len_slice hT rfl rfl rfl) rfl rfl rfl (JL.step (y_eql rfl rfl) rfl rfl rfl (JL.step (y_move rfl) rfl rfl rfl ?_))))
        all_goals (first | (refine JL.gsplit_dec rfl rfl rfl (fun h => ?_) (fun h => ?_) <;> try (first | (exfalso; omega) | exact absurd rfl h)) | (refine JL.gsplit rfl rfl rfl (fun h => ?_) (fun h => ?_) <;> try (first | cases h | (exfalso; simp at h; done))) | skip)
        all_goals (first | refine JL.gskip rfl rfl rfl rfl rfl rfl ?_ | refine JL.gskipU rfl rfl rfl rfl rfl ?_ | refine JL.gstep rfl rfl rfl (y_move rfl) rfl rfl ?_)
        all_goals (first | refine JL.gskip rfl rfl rfl rfl rfl rfl ?_ | refine JL.gskipU rfl rfl rfl rfl rfl ?_ | refine JL.gstep rfl rfl rfl (y_move rfl) rfl rfl ?_)
        all_goals (first | refine JL.gskip rfl rfl rfl rfl rfl rfl ?_ | refine JL.gskipU rfl rfl rfl rfl rfl ?_ | (obtain ⟨g2, o2, rfl, hr2⟩ := hoy.addr (by omega); obtain ⟨y, hy⟩ : ∃ y, ys[k]? = some y := ⟨ys[k]'(by omega), List.getElem?_eq_getElem _⟩; refine JL.gstep rfl rfl rfl (y_indexAddr_slice hT rfl rfl rfl rfl rfl (by (first | omega | exact Nat.le_of_ble_eq_true rfl | decide | (simp; omega))) (by (first | omega | exact Nat.le_of_ble_eq_true rfl | decide | (simp; omega)))) rfl rfl ?_))
        all_goals (first | refine JL.gskip rfl rfl rfl rfl rfl rfl ?_ | refine JL.gskipU rfl rfl rfl rfl rfl ?_ | refine JL.gstep rfl rfl rfl (y_load1 hT rfl rfl rfl (Rd1.elem (hr2 []) (by rw [Int.toNat_natCast, List.getElem?_map, hy]; rfl))) rfl rfl ?_)
        all_goals (first | refine JL.gskip rfl rfl rfl rfl rfl rfl ?_ | refine JL.gskipU rfl rfl rfl rfl rfl ?_ | refine JL.gstep rfl rfl rfl (y_move rfl) rfl rfl ?_)
        all_goals (first | refine JL.gskip rfl rfl rfl rfl rfl rfl ?_ | refine JL.gskipU rfl rfl rfl rfl rfl ?_ | refine JL.gstep rfl rfl rfl (y_neq rfl rfl) rfl rfl ?_)
        all_goals (refine JL.step (y_pick rfl rfl rfl) rfl rfl rfl ?_)
        all_goals refine JL.nil ?_
        all_goals refine JE.then_normal ?_
        all_goals
          first
          | exact J.closeK hk11 true (by rw [List.getElem?_eq_none (by omega)]; rfl) ⟨rfl, rfl, rfl, rfl, rfl, rfl, rfl, rfl, trivial⟩ (fun w h => h)
          | exact J.closeK hk11 (decide (y ≠ x)) (by rw [hy]; simp) ⟨rfl, rfl, rfl, rfl, rfl, rfl, rfl, rfl, trivial⟩ (fun w h => h)
      rintro b hb
      try dsimp only
      first | apply J.cond_dec rfl | apply J.cond rfl
      case' ht =>
        intro h
        try (first | (exfalso; omega) | (cases h; done) | (exfalso; simp at h; done) | subst h)
        all_goals
          have hne : ys[k]? ≠ some x := of_decide_eq_true (by first | exact hb.symm | (rw [← hb]; simpa using h))
          rw [if_neg hne] at hpu
          obtain ⟨gb, ob, hp0, hb1, hb2⟩ := hoy.both (k := k) (s := 1) hk (by simp)
          have hle := hoy.le
          refine J.draw _ _ [(0, .q), (1, .q), (2, .q), (3, .q), (4, .q), (6, .q), (7, .q), (8, .q), (5, .l), (9, .l), (10, .l), (11, .q)] mixed (by kernel_rfl) (Split.nil) ?_
          refine JM.quiet rfl rfl rfl rfl (fun m => y_move rfl) ?_
          refine JM.quiet rfl rfl rfl rfl (fun m => y_move rfl) ?_
          refine JM.quiet rfl rfl rfl rfl (fun m => y_move rfl) ?_
          refine JM.quiet rfl rfl rfl rfl (fun m => y_slice3 (lo := 0) (hi := k) (mx := k) hT rfl rfl rfl rfl (.inl ⟨rfl, rfl⟩) rfl rfl rfl rfl (Nat.zero_le _) (Nat.le_refl _) (by omega) hp0) ?_
          refine JM.quiet rfl rfl rfl rfl (fun m => y_move rfl) ?_
          refine JM.quiet rfl rfl rfl rfl (fun m => y_move rfl) ?_
          refine JM.quiet rfl rfl rfl rfl (fun m => y_move rfl) ?_
          refine JM.quiet rfl rfl rfl rfl (fun m => y_slice (lo := k) (hi := ys.length) hT rfl rfl rfl rfl (.inr ⟨_, _, _, rfl, rfl, rfl⟩) (.inl ⟨rfl, rfl⟩) hk (by omega) (by omega) hp0) ?_
          refine JM.loud rfl rfl (fun fr => l_buildSliceO (cs := [.int .u64 x]) hT rfl rfl rfl rfl rfl rfl rfl (fill_one rfl rfl) rfl rfl (by unfold maxLen; omega) (fun b5 => ⟨[_], (by (repeat (first | exact Split.nil | exact Split.all | refine Split.cons Pick.head ?_))), ?_⟩))
          refine JM.loud rfl rfl (fun fr => l_appendIn hT rfl rfl rfl rfl rfl rfl rfl rfl (by (repeat (first | exact Pick.head | apply Pick.tail | apply Pick.app))) ((hb2.app fr).app _) (by rw [show i35.size = 1 from rfl, List.length_drop, List.length_map]; omega) (by intro u hu; obtain ⟨q, _, rfl⟩ := List.mem_map.1 (List.mem_of_mem_drop hu); rfl) (by rw [show i35.bytes = 8 from rfl]; omega) (by omega) rfl (fun a9 c9 hc9 => ⟨[_], (by (repeat (first | exact Split.nil | exact Split.all | refine Split.cons Pick.head ?_))), ?_⟩))
          refine JM.loud rfl rfl (fun fr => LS.fact (fun w s => Sat.own_at (s.pick Pick.head)) fun o9 => l_appendClipIn hT rfl rfl rfl rfl rfl rfl rfl ((hb1.app fr).app _) (by rw [show i35.size = 1 from rfl, List.length_take, List.length_map]; omega) (o9.inl Pick.head) (by rw [show i35.size = 1 from rfl, List.length_append, List.length_drop, List.length_map, List.length_cons, List.length_nil]; omega) (by omega) (by rw [show i35.bytes = 8 from rfl]; omega) (by omega) rfl (fun a10 c10 hc10 => ⟨[_, _], (by (repeat (first | exact Split.nil | exact Split.all | refine Split.cons Pick.head ?_))), ?_⟩))
          refine JM.quiet rfl rfl rfl rfl (fun m => y_assign rfl) ?_
          refine JM.nil ?_
      case' hf =>
        intro h
        try (first | (exfalso; omega) | (cases h; done) | (exfalso; simp at h; done) | subst h)
        all_goals
          have heq : ys[k]? = some x := Decidable.of_not_not (of_decide_eq_false (by first | exact hb.symm | (rw [← hb]; simpa using h)))
          rw [if_pos heq] at hpu
          refine J.skip ?_
      all_goals refine JE.block_normal ?_
      all_goals refine JE.then_normal ?_
      all_goals
        refine J.region ?_
        refine JL.step (y_add rfl rfl (by (first | exact wrap_i64 (by omega) (by omega) | rfl))) rfl rfl rfl ?_
        refine JL.step (y_move rfl) rfl rfl rfl ?_
        refine JL.nil ?_
    all_goals
      first
      | exact JE.round (s := (i, a, c')) (i + 1, a, c') (by dsimp only; omega) ⟨rfl, by dsimp only; rw [hst, hpu]; rfl, rfl, rfl, rfl, trivial⟩ (fun w h => by dsimp only; rw [hst, hpu]; exact h) (by dsimp only; omega)
      | have hlen : (ys.take k ++ x :: ys.drop k).length = k - 0 + (1 + (ys.length - k)) := by rw [List.length_append, List.length_cons, List.length_take, List.length_drop]; omega
        exact JE.round (s := (i, a, c')) (i + 1, a10, c10) (by dsimp only; omega) ⟨rfl, by dsimp only; rw [hst, hpu, hlen]; rfl, rfl, rfl, rfl, trivial⟩ (fun w h => by
          dsimp only
          rw [hst, hpu, hlen]
          have e : (ys.take k ++ x :: ys.drop k).map (Value.int .u64) = (ys.map (Value.int .u64)).take (k * 1) ++ ([Value.int .u64 x] ++ (ys.map (Value.int .u64)).drop (k * 1)) := by
            rw [List.map_append, List.map_cons, Nat.mul_one, List.map_take, List.map_drop]; rfl
          rw [e]
          exact h.sup (by (repeat (first | exact Sup.refl | apply Sup.cons (by (repeat (first | exact Pick.head | apply Pick.tail | apply Pick.app))) | apply Sup.app | apply Sup.skip | apply Sup.skips)))) (by dsimp only; omega)
end
end
end Go.Proofs.YtfohdnclpbipeaaDoor
