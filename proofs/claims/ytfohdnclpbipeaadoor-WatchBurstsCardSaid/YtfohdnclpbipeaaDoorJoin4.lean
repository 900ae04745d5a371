import Derived.Test.YtfohdnclpbipeaaDoorJoin1
import Derived.Test.YtfohdnclpbipeaaDoorJoin2
import Derived.Test.YtfohdnclpbipeaaDoorJoin3
namespace Go.Proofs.YtfohdnclpbipeaaDoor
section
open Go Go.SL
section
def runStep (n : Int) (s : Int × Int × Option Int) (x : Int) : Int × Int × Option Int :=
 let k := (if s.2.2.map (fun p => IntKind.u64.wrap (p + 1)) = some x then s.2.1 else 0) + 1
 if k = n then (s.1 + 1, 0, some x) else (s.1, k, some x)
def runsF (n : Int) (xs : List Int) : Int × Int × Option Int := xs.foldl (runStep n) (0, 0, none)
theorem runs_take {n : Int} {xs : List Int} {i : Nat} {x : Int} (h : xs[i]? = some x) : runsF n (xs.take (i + 1)) = runStep n (runsF n (xs.take i)) x := by
 unfold runsF
 rw [List.take_add_one, h, Option.toList_some, List.foldl_append]; rfl
theorem runs_last (n : Int) : ∀ (xs : List Int) (i : Nat), (runsF n (xs.take (i + 1))).2.2 = if i < xs.length then xs[i]? else (runsF n xs).2.2
 | xs, i => by
   by_cases h : i < xs.length
   · rw [if_pos h, runs_take (List.getElem?_eq_getElem h), List.getElem?_eq_getElem h]
     unfold runStep
     dsimp only
     split <;> split <;> rfl
   · rw [if_neg h, List.take_of_length_le (by omega)]
theorem runs_bounds {n : Int} (hn : 1 ≤ n) (xs : List Int) : 0 ≤ (runsF n xs).1 ∧ (runsF n xs).1 ≤ xs.length ∧ 0 ≤ (runsF n xs).2.1 ∧ (runsF n xs).2.1 ≤ xs.length := by
 have h : ∀ (xs : List Int) (s : Int × Int × Option Int), 0 ≤ s.1 → 0 ≤ s.2.1 → 0 ≤ (xs.foldl (runStep n) s).1 ∧ (xs.foldl (runStep n) s).1 ≤ s.1 + xs.length ∧ 0 ≤ (xs.foldl (runStep n) s).2.1 ∧ (xs.foldl (runStep n) s).2.1 ≤ s.2.1 + xs.length := by
  intro xs
  induction xs with
  | nil => intro s h1 h2; simp; omega
  | cons x r ih =>
    intro s h1 h2
    rw [List.foldl_cons, List.length_cons]
    have a : 0 ≤ (runStep n s x).1 ∧ (runStep n s x).1 ≤ s.1 + 1 ∧ 0 ≤ (runStep n s x).2.1 ∧ (runStep n s x).2.1 ≤ s.2.1 + 1 := by
     unfold runStep
     dsimp only
     split <;> split <;> dsimp only <;> omega
    have := ih (runStep n s x) a.1 a.2.2.1
    omega
 have := h xs (0, 0, none) (by simp) (by simp)
 unfold runsF
 simpa using this
end
section
attribute [local irreducible] J JL JE JM LS Y Fc RV Code.wp wpList Code.wpIn wpListIn
attribute [local irreducible] Yc Sort.ltInt
variable (E : World)
theorem runs_spec (p : Option Addr) (m c : Nat) (xs : List Int) (n : Int) (l : List HProp) (hm : xs.length = m) (hm8 : m ≤ 1000) (hin : InL l p m c (ints .u64 xs)) :
 Fc prog E 18 [.slice p m c, .int .i64 n].toArray l (fun v l' => ∃ z, v = .int .i64 z ∧ (n < 1 → z = 0) ∧ (¬ n < 1 → ∃ ys : List Int, ys.Perm xs ∧ (ys.Pairwise fun x y => Sort.ltInt y x = false) ∧ z = (runsF n (Lib.compact ys)).1) ∧ l' = l) := by
 refine Fc.post ?_
 refine Fc.of_body (c := ?codeC) Tryd.func18 ?hb Tryd.ntmps18 ?hl ?_
 case hb => exact rfl
 case hl => exact rfl
 refine J.seq (J.region (JL.step (y_assign rfl) rfl rfl rfl ?_))
 refine JL.nil (JE.then_normal (J.seq (J.seq (J.region (JL.step (y_move rfl) rfl rfl rfl (JL.step (y_lss rfl rfl) rfl rfl rfl ?_))))))
 refine JL.nil (JE.then_normal ?_)
 first | apply J.cond_dec rfl | apply J.cond rfl
 case' ht =>
  intro h
  try (first | (exfalso; omega) | (cases h; done) | (exfalso; simp at h; done) | subst h)
  all_goals
   refine J.seq (J.region (JL.step (y_assign rfl) rfl rfl rfl ?_))
   refine JL.nil (JE.then_normal (J.ret (JE.then_ret ?_)))
   refine JE.ret1 (.inl rfl) rfl rfl (by (first | exact RV.tmp rfl | exact RV.cell1 hT rfl rfl rfl (by (exact Rd1.row (by (repeat (first | exact Pick.head | apply Pick.tail | apply Pick.app))) (by rfl))) | exact RV.cellN hT rfl rfl rfl (by (first | exact RdN.rowAll (by (repeat (first | exact Pick.head | apply Pick.tail | apply Pick.app))) | exact RdN.own (by (repeat (first | exact Pick.head | apply Pick.tail | apply Pick.app))))) (by (first | rfl | assumption | (simp; done) | omega)))) ?_
   first
   | exact ⟨_, fun w h => h, 0, rfl, fun _ => rfl, fun h => absurd (by omega) h, rfl⟩
   | refine ⟨_, fun w h => h.sup (by (repeat (first | exact Sup.refl | apply Sup.cons (by (repeat (first | exact Pick.head | apply Pick.tail | apply Pick.app))) | apply Sup.app | apply Sup.skip | apply Sup.skips))), _, rfl, fun h => absurd h (by omega), fun _ => ⟨ys, h2, h3, ?_⟩, rfl⟩
     rw [hzs, List.take_of_length_le (by omega)]
 case' hf =>
  intro h
  try (first | (exfalso; omega) | (cases h; done) | (exfalso; simp at h; done) | subst h)
  all_goals
   refine J.skip ?_
 all_goals refine JE.then_normal ?_
 all_goals
  refine J.seq (J.region (JL.step (y_move rfl) rfl rfl rfl ?_))
  refine JL.loud rfl (l_callF e43 rfl rfl (valuesU_spec E p m c _) ?_)
  rintro _ _ ⟨b1, rfl, rfl⟩
  refine JL.loud rfl (l_callF e42 rfl rfl (sortedU E e65 (valuesU_each E p m c b1 xs l hm (by omega) hin) (by omega) (fun vs h => by rw [h, hm]; exact Nat.le_refl _)) ?_)
  rintro _ _ ⟨us, ys, a, c1, rfl, h2, h3, rfl, rfl⟩
  refine JL.loud rfl (l_callF e41 rfl rfl (Fc.on (Split.cons (by (repeat (first | exact Pick.head | apply Pick.tail | apply Pick.app))) Split.nil) (compactU E ys.length _ ys _ rfl (by have := h2.length_eq; omega))) ?_)
  rintro _ _ ⟨a2, c2, rfl, rfl⟩
  refine JL.step (y_assign rfl) rfl rfl rfl ?_
  refine JL.nil (JE.then_normal (J.seq (J.region (JL.step (y_assign rfl) rfl rfl rfl (JL.step (y_assign rfl) rfl rfl rfl ?_)))))
  refine JL.nil (JE.then_normal (J.seq (J.seq (J.region (JL.step (y_move rfl) rfl rfl rfl (JL.step (y_len_slice hT rfl rfl rfl) rfl rfl rfl (JL.step (y_move rfl) rfl rfl rfl ?_)))))))
  refine JL.nil (JE.then_normal (J.block ?_))
  have hcl : (Lib.compact ys).length ≤ 1000 := by
   have h1 := h2.length_eq
   unfold Lib.compact Lib.compactUpTo
   rw [List.length_map]
   have := List.length_filter_le (Lib.keeps ys.toArray) (List.range ys.length)
   rw [List.length_range] at this
   omega
  obtain ⟨zs, hzs⟩ : ∃ zs, Lib.compact ys = zs := ⟨_, rfl⟩
  rw [hzs] at hcl ⊢
  refine J.loop (α := Nat) (fun i => i ≤ zs.length) (fun i => [(1, .int .i64 n), (5, .slice a2 zs.length c2), (6, .int .i64 (runsF n (zs.take i)).1), (7, .int .i64 (runsF n (zs.take i)).2.1), (16, .slice a2 zs.length c2), (17, .int .i64 zs.length), (18, .int .i64 i)]) (fun i => own 35 1 (.slice a2 zs.length c2) zs.length (zs.map (Value.int .u64)) :: row b1 32 [.slice p m c] :: l) (fun i => zs.length - i) 0 (Nat.zero_le _) ⟨rfl, rfl, rfl, rfl, rfl, rfl, rfl, trivial⟩ (fun w h => h) ?_
  intro i hi
  try dsimp only
  have hb := runs_bounds (n := n) (by omega) (zs.take i)
  rw [List.length_take] at hb
  refine J.fact (fun w s => Sat.own_at (s.pick Pick.head)) fun oz => ?_
  refine J.seq (J.region (JL.step (y_lss rfl rfl) rfl rfl rfl ?_))
  refine JL.nil (JE.then_normal (J.seq ?_))
  first | apply J.cond_dec rfl | apply J.cond rfl
  case' ht =>
   intro h
   try (first | (exfalso; omega) | (cases h; done) | (exfalso; simp at h; done) | subst h)
   all_goals
    refine J.skip ?_
  case' hf =>
   intro h
   try (first | (exfalso; omega) | (cases h; done) | (exfalso; simp at h; done) | subst h)
   all_goals
    refine J.exit (JE.then_exit (JE.then_exit (JE.block_exit (JE.then_normal (J.seq (J.region (JL.step (y_move rfl) rfl rfl rfl (JL.step (y_assign rfl) rfl rfl rfl ?_))))))))
    refine JL.nil (JE.then_normal (J.ret ?_))
    refine JE.ret1 (.inl rfl) rfl rfl (by (first | exact RV.tmp rfl | exact RV.cell1 hT rfl rfl rfl (by (exact Rd1.row (by (repeat (first | exact Pick.head | apply Pick.tail | apply Pick.app))) (by rfl))) | exact RV.cellN hT rfl rfl rfl (by (first | exact RdN.rowAll (by (repeat (first | exact Pick.head | apply Pick.tail | apply Pick.app))) | exact RdN.own (by (repeat (first | exact Pick.head | apply Pick.tail | apply Pick.app))))) (by (first | rfl | assumption | (simp; done) | omega)))) ?_
    first
    | exact ⟨_, fun w h => h, 0, rfl, fun _ => rfl, fun h => absurd (by omega) h, rfl⟩
    | refine ⟨_, fun w h => h.sup (by (repeat (first | exact Sup.refl | apply Sup.cons (by (repeat (first | exact Pick.head | apply Pick.tail | apply Pick.app))) | apply Sup.app | apply Sup.skip | apply Sup.skips))), _, rfl, fun h => absurd h (by omega), fun _ => ⟨ys, h2, h3, ?_⟩, rfl⟩
      rw [hzs, List.take_of_length_le (by omega)]
  all_goals refine JE.then_normal ?_
  all_goals
   refine J.seq (J.block (J.seq (J.region ?_)))
   have hlt : i < zs.length := by omega
   obtain ⟨x, hh⟩ : ∃ x, zs[i]? = some x := ⟨zs[i], List.getElem?_eq_getElem _⟩
   have hst := runs_take (n := n) hh
   have hpv : 0 < i → ∃ y, zs[i - 1]? = some y ∧ (runsF n (zs.take i)).2.2 = some y := fun h0 => by
    have h1 := runs_last n zs (i - 1)
    rw [if_pos (by omega), show i - 1 + 1 = i by omega] at h1
    exact ⟨zs[i - 1], List.getElem?_eq_getElem _, by rw [h1]; exact List.getElem?_eq_getElem _⟩
   obtain ⟨g, o, rfl, hr⟩ := (oz.inl (l := own 35 1 (.slice a2 zs.length c2) zs.length (zs.map (Value.int .u64)) :: row b1 32 [.slice p m c] :: l) (by (repeat (first | exact Pick.head | apply Pick.tail | apply Pick.app)))).addr (by omega)
   refine JL.step (y_move rfl) rfl rfl rfl ?_
   refine JL.step (y_indexAddr_slice hT rfl rfl rfl rfl rfl (by (first | omega | exact Nat.le_of_ble_eq_true rfl | decide | (simp; omega))) (by (first | omega | exact Nat.le_of_ble_eq_true rfl | decide | (simp; omega)))) rfl rfl rfl ?_
   refine JL.step (y_load1 hT rfl rfl rfl (Rd1.elem (hr []) (by rw [Int.toNat_natCast, List.getElem?_map, hh]; rfl))) rfl rfl rfl ?_
   refine JL.step (y_assign rfl) rfl rfl rfl (JL.step (y_assign rfl) rfl rfl rfl ?_)
   refine JL.nil (JE.then_normal ?_)
   refine J.seqK (α := Int) (fun q => q = (if (runsF n (zs.take i)).2.2.map (fun p => IntKind.u64.wrap (p + 1)) = some x then (runsF n (zs.take i)).2.1 else 0)) (fun q => [(1, .int .i64 n), (5, .slice (some ⟨g, o, none⟩) zs.length c2), (6, .int .i64 (runsF n (zs.take i)).1), (7, .int .i64 q), (16, .slice (some ⟨g, o, none⟩) zs.length c2), (17, .int .i64 zs.length), (18, .int .i64 i)]) (fun q => own 35 1 (.slice (some ⟨g, o, none⟩) zs.length c2) zs.length (zs.map (Value.int .u64)) :: row b1 32 [.slice p m c] :: l) ?hj10 (fun hk10 => ?hf10)
   case hf10 =>
    refine J.seq (J.region (JL.step (y_move rfl) rfl rfl rfl (JL.step (y_eql rfl rfl) rfl rfl rfl (JL.step (y_move rfl) rfl rfl rfl ?_))))
    all_goals (first | (refine JL.gsplit_dec rfl rfl rfl (fun h => ?_) (fun h => ?_) <;> try (first | (exfalso; omega) | exact absurd rfl h)) | (refine JL.gsplit rfl rfl rfl (fun h => ?_) (fun h => ?_) <;> try (first | cases h | (exfalso; simp at h; done))) | skip)
    all_goals (first | refine JL.gskip rfl rfl rfl rfl rfl rfl ?_ | refine JL.gskipU rfl rfl rfl rfl rfl ?_ | refine JL.gstep rfl rfl rfl (y_move rfl) rfl rfl ?_)
    all_goals (first | refine JL.gskip rfl rfl rfl rfl rfl rfl ?_ | refine JL.gskipU rfl rfl rfl rfl rfl ?_ | refine JL.gstep rfl rfl rfl (y_move rfl) rfl rfl ?_)
    all_goals (first | refine JL.gskip rfl rfl rfl rfl rfl rfl ?_ | refine JL.gskipU rfl rfl rfl rfl rfl ?_ | refine JL.gstep rfl rfl rfl (y_sub rfl rfl (by (first | exact wrap_i64 (by omega) (by omega) | rfl))) rfl rfl ?_)
    all_goals (first | refine JL.gskip rfl rfl rfl rfl rfl rfl ?_ | refine JL.gskipU rfl rfl rfl rfl rfl ?_ | refine JL.gstep rfl rfl rfl (y_indexAddr_slice hT rfl rfl rfl rfl rfl (by (first | omega | exact Nat.le_of_ble_eq_true rfl | decide | (simp; omega))) (by (first | omega | exact Nat.le_of_ble_eq_true rfl | decide | (simp; omega)))) rfl rfl ?_)
    all_goals (first | refine JL.gskip rfl rfl rfl rfl rfl rfl ?_ | refine JL.gskipU rfl rfl rfl rfl rfl ?_ | (obtain ⟨y, hy, hl⟩ := hpv (by omega); refine JL.gstep rfl rfl rfl (y_load1 hT rfl rfl rfl (Rd1.elem (hr []) (by rw [show ((i : Int) - 1).toNat = i - 1 by omega, List.getElem?_map, hy]; rfl))) rfl rfl ?_))
    all_goals (first | refine JL.gskip rfl rfl rfl rfl rfl rfl ?_ | refine JL.gskipU rfl rfl rfl rfl rfl ?_ | (refine JL.gstep rfl rfl rfl (y_add (m := IntKind.u64.wrap (y + 1)) rfl rfl rfl) rfl rfl ?_))
    all_goals (first | refine JL.gskip rfl rfl rfl rfl rfl rfl ?_ | refine JL.gskipU rfl rfl rfl rfl rfl ?_ | refine JL.gstep rfl rfl rfl (y_move rfl) rfl rfl ?_)
    all_goals (first | refine JL.gskip rfl rfl rfl rfl rfl rfl ?_ | refine JL.gskipU rfl rfl rfl rfl rfl ?_ | refine JL.gstep rfl rfl rfl (y_neq rfl rfl) rfl rfl ?_)
    all_goals (refine JL.step (y_pick rfl rfl rfl) rfl rfl rfl ?_)
    all_goals refine JL.nil (JE.then_normal ?_)
    all_goals
     first | apply J.cond_dec rfl | apply J.cond rfl
     case' ht =>
      intro h
      try (first | (exfalso; omega) | (cases h; done) | (exfalso; simp at h; done) | subst h)
      all_goals
       refine J.region (JL.step (y_assign rfl) rfl rfl rfl ?_)
       refine JL.nil ?_
     case' hf =>
      intro h
      try (first | (exfalso; omega) | (cases h; done) | (exfalso; simp at h; done) | subst h)
      all_goals
       refine J.skip ?_
    all_goals refine JE.then_normal ?_
    all_goals
     first
     | exact J.closeK hk10 0 (by obtain rfl : i = 0 := (by omega); simp [runsF]) ⟨rfl, rfl, rfl, rfl, rfl, rfl, rfl, trivial⟩ (fun w h => h)
     | exact J.closeK hk10 0 (by rw [hl, Option.map_some, if_neg (by simpa using h)]) ⟨rfl, rfl, rfl, rfl, rfl, rfl, rfl, trivial⟩ (fun w h => h)
     | exact J.closeK hk10 (runsF n (zs.take i)).2.1 (by rw [hl, Option.map_some, if_pos (by simpa using h)]) ⟨rfl, rfl, rfl, rfl, rfl, rfl, rfl, trivial⟩ (fun w h => h)
   intro q hq
   have hqb : 0 ≤ q ∧ q ≤ i := by rw [hq]; split <;> omega
   have hst2 : runsF n (zs.take (i + 1)) = if q + 1 = n then ((runsF n (zs.take i)).1 + 1, 0, some x) else ((runsF n (zs.take i)).1, q + 1, some x) := by rw [hst, hq]; rfl
   try dsimp only
   refine J.seq (J.region (JL.step (y_move rfl) rfl rfl rfl ?_))
   refine JL.step (y_add rfl rfl (by (first | exact wrap_i64 (by omega) (by omega) | rfl))) rfl rfl rfl ?_
   refine JL.step (y_assign rfl) rfl rfl rfl ?_
   refine JL.nil (JE.then_normal (J.seq (J.region (JL.step (y_move rfl) rfl rfl rfl (JL.step (y_move rfl) rfl rfl rfl (JL.step (y_eql rfl rfl) rfl rfl rfl ?_))))))
   refine JL.nil (JE.then_normal ?_)
   first | apply J.cond_dec rfl | apply J.cond rfl
   case' ht =>
    intro h
    try (first | (exfalso; omega) | (cases h; done) | (exfalso; simp at h; done) | subst h)
    all_goals
     rw [if_pos (by omega)] at hst2
     refine J.seq (J.region (JL.step (y_move rfl) rfl rfl rfl ?_))
     refine JL.step (y_add rfl rfl (by (first | exact wrap_i64 (by omega) (by omega) | rfl))) rfl rfl rfl ?_
     refine JL.step (y_assign rfl) rfl rfl rfl ?_
     refine JL.nil (JE.then_normal (J.region (JL.step (y_assign rfl) rfl rfl rfl ?_)))
     refine JL.nil ?_
   case' hf =>
    intro h
    try (first | (exfalso; omega) | (cases h; done) | (exfalso; simp at h; done) | subst h)
    all_goals
     rw [if_neg (by omega)] at hst2
     refine J.skip ?_
   all_goals refine JE.block_normal (JE.then_normal ?_)
   all_goals
    refine J.region ?_
    refine JL.step (y_add rfl rfl (by (first | exact wrap_i64 (by omega) (by omega) | rfl))) rfl rfl rfl ?_
    refine JL.step (y_move rfl) rfl rfl rfl ?_
    refine JL.nil ?_
  all_goals
   exact JE.round (s := i) (i + 1) (by omega) ⟨rfl, rfl, by rw [hst2]; rfl, by rw [hst2]; rfl, rfl, rfl, rfl, trivial⟩ (fun w h => h) (by omega)
end
end
section
open Go Go.SL
section
theorem numT_neg {i : Int} (h : i < 0) : numT i = 45 :: dig i.natAbs := if_pos h
theorem numT_pos {i : Int} {u : Nat} (h : ¬ i < 0) (hu : (u : Int) = i) : numT i = dig u := by
 unfold numT
 rw [if_neg h, show i.toNat = u by omega]
theorem ones_u8 (xs : List Int) : ∀ u ∈ xs.map (Value.int .u8), u.oneCell' = true := by
 intro u hu
 obtain ⟨z, _, rfl⟩ := List.mem_map.1 hu
 rfl
end
section
attribute [local irreducible] J JL JE JM LS Y Fc RV Code.wp wpList Code.wpIn wpListIn
attribute [local irreducible] Yc
variable (E : World)
theorem appendUint10 (n u : Nat) (v : Value) (xs : List Value) (r : List HProp) (hu : u < 18446744073709551616) (hn : n ≤ 1000000000) (ht : T10 E r) :
 Fc prog E 71 [v, .int .u64 u, .int .i64 10].toArray (own 5 1 v n xs :: r) (fun v' l' => ∃ a c, v' = .slice a (n + (dig u).length) c ∧ l' = own 5 1 v' (n + (dig u).length) (xs ++ (dig u).map (Value.int .u8)) :: r) := by
 have hd := dig_size hu
 have hd2 := nDigits_le hu
 refine Fc.post ?_
 refine Fc.of_body (c := ?codeC) Tryd.func71 ?hb Tryd.ntmps71 ?hl ?_
 case hb => exact rfl
 case hl => exact rfl
 refine J.seq (J.region (JL.step (y_assign rfl) rfl rfl rfl ?_))
 refine JL.nil (JE.then_normal (J.seq (J.seq (J.region (JL.step (y_move rfl) rfl rfl rfl (JL.step (y_eql rfl rfl) rfl rfl rfl ?_))))))
 refine JL.nil (JE.then_normal ?_)
 refine J.cond_t rfl (by (first | rfl | assumption | (simp; done) | (simp; omega))) ?_
 refine J.seq (J.seq (J.region (JL.step (y_move rfl) rfl rfl rfl (JL.step (y_lss rfl rfl) rfl rfl rfl ?_))))
 refine JL.nil (JE.then_normal ?_)
 first | apply J.cond_dec rfl | apply J.cond rfl
 case' ht =>
  intro h
  try (first | (exfalso; omega) | (cases h; done) | (exfalso; simp at h; done) | subst h)
  all_goals
   refine J.seq (J.region (JL.step (y_move rfl) rfl rfl rfl (JL.step (y_move rfl) rfl rfl rfl ?_)))
   refine JL.step (y_conv (m := (u : Int)) hT rfl rfl rfl rfl (wrap_i64 (by omega) (by omega))) rfl rfl rfl ?_
   refine JL.loud rfl (l_callF e83 rfl rfl (small10 E u (by omega) _) ?_)
   rintro _ _ ⟨rfl, rfl⟩
   refine JL.loud rfl (l_appendStr hT rfl rfl rfl rfl rfl rfl rfl rfl rfl rfl (by (repeat (first | exact Pick.head | apply Pick.tail | apply Pick.app))) (by rw [← bytesS_length, bytesS_dig]; omega) rfl (fun a3 c3 hc3 => ?_))
   refine JL.step (y_assign rfl) rfl rfl rfl ?_
   refine JL.nil (JE.then_normal (J.ret (JE.then_ret (JE.then_ret ?_))))
   refine JE.ret1 (.inl rfl) rfl rfl (by (first | exact RV.tmp rfl | exact RV.cell1 hT rfl rfl rfl (by (exact Rd1.row (by (repeat (first | exact Pick.head | apply Pick.tail | apply Pick.app))) (by rfl))) | exact RV.cellN hT rfl rfl rfl (by (first | exact RdN.rowAll (by (repeat (first | exact Pick.head | apply Pick.tail | apply Pick.app))) | exact RdN.own (by (repeat (first | exact Pick.head | apply Pick.tail | apply Pick.app))))) (by (first | rfl | assumption | (simp; done) | omega)))) ?_
   first
   | refine ⟨_, fun w h => h.sup (by (repeat (first | exact Sup.refl | apply Sup.cons (by (repeat (first | exact Pick.head | apply Pick.tail | apply Pick.app))) | apply Sup.app | apply Sup.skip | apply Sup.skips))), a3, c3, ?_, ?_⟩
     · rw [← bytesS_length, bytesS_dig]
     · rw [← bytesS_length, bytesS_dig]
   | refine ⟨own 5 1 (.slice a4 (n + (Lib.nDigits u - 0)) c4) (n + (Lib.nDigits u - 0)) (xs ++ (dig u).map (Value.int .u8)) :: r, fun w h => h.sup (by (repeat (first | exact Sup.refl | apply Sup.cons (by (repeat (first | exact Pick.head | apply Pick.tail | apply Pick.app))) | apply Sup.app | apply Sup.skip | apply Sup.skips))), a4, c4, by rw [dig_length]; rfl, by rw [dig_length]; rfl⟩
 case' hf =>
  intro h
  try (first | (exfalso; omega) | (cases h; done) | (exfalso; simp at h; done) | subst h)
  all_goals
   refine J.skip ?_
 all_goals refine JE.then_normal ?_
 all_goals
  refine J.seq (J.region ?_)
  refine JL.loud rfl (l_alloc hT rfl rfl (by (first | rfl | simp)) rfl (fun b2 => ?_))
  refine JL.nil (JE.then_normal (J.seq (J.region (JL.step (y_move rfl) rfl rfl rfl ?_))))
  refine JL.loud rfl (l_callF e84 rfl rfl (numDigits10 E u (by omega) hu _ (by (repeat (first | assumption | apply T10.cons | apply T10.app)))) ?_)
  rintro _ _ ⟨rfl, rfl⟩
  refine JL.step (y_assign rfl) rfl rfl rfl ?_
  refine JL.nil (JE.then_normal (J.seq (J.region (JL.step (y_move rfl) rfl rfl rfl ?_))))
  refine JL.step (y_slice_arr hT rfl rfl rfl rfl (.inl ⟨rfl, rfl⟩) (.inr ⟨_, _, _, rfl, rfl, (by (first | rfl | simp))⟩) (by (first | omega | exact Nat.le_of_ble_eq_true rfl | decide | (simp; omega))) (by (first | omega | exact Nat.le_of_ble_eq_true rfl | decide | (simp; omega)))) rfl rfl rfl ?_
  refine JL.step (y_move rfl) rfl rfl rfl ?_
  refine JL.loud rfl (l_callF e85 rfl rfl (Fc.on (Split.cons (by (repeat (first | exact Pick.head | apply Pick.tail | apply Pick.app))) Split.nil) (format10 E _ _ _ u _ _ hu (by rw [← dig_length]; simp; omega) (fun i hi => by rw [← dig_length] at hi; exact List.getElem?_replicate_of_lt (by omega)))) ?_)
  rintro _ _ ⟨rfl, rfl⟩
  refine JL.nil (JE.then_normal (J.seq (J.region (JL.step (y_move rfl) rfl rfl rfl (JL.step (y_move rfl) rfl rfl rfl ?_)))))
  refine JL.step (y_slice_arr hT rfl rfl rfl rfl (.inl ⟨rfl, rfl⟩) (.inr ⟨_, _, _, rfl, rfl, (by (first | rfl | simp))⟩) (by (first | omega | exact Nat.le_of_ble_eq_true rfl | decide | (simp; omega))) (by (first | omega | exact Nat.le_of_ble_eq_true rfl | decide | (simp; omega)))) rfl rfl rfl ?_
  refine JL.loud rfl (l_append hT rfl rfl rfl rfl rfl rfl rfl rfl (by (repeat (first | exact Pick.head | apply Pick.tail | apply Pick.app))) (RdN.row (n := (dig u).length) (vs := (dig u).map (Value.int .u8)) (by (repeat (first | exact Pick.head | apply Pick.tail | apply Pick.app))) (by change List.take _ (List.drop 0 _) = _; rw [List.drop_zero]; exact List.take_left' (List.length_map ..))) (by rw [List.length_map, dig_length]; exact (Nat.mul_one _).symm) (ones_u8 _) (by (first | exact Nat.le_trans (Nat.mul_le_mul_left _ (Nat.le_of_ble_eq_true rfl : _ ≤ 4096)) (by omega) | exact Nat.le_trans (Nat.mul_le_mul_left _ (Nat.le_of_ble_eq_true rfl : _ ≤ 1)) (by omega))) (by rw [← dig_length]; omega) rfl (fun a4 c4 hc4 => ?_))
  refine JL.step (y_assign rfl) rfl rfl rfl ?_
  refine JL.nil (JE.then_normal (J.ret (JE.then_ret ?_)))
  refine JE.ret1 (.inl rfl) rfl rfl (by (first | exact RV.tmp rfl | exact RV.cell1 hT rfl rfl rfl (by (exact Rd1.row (by (repeat (first | exact Pick.head | apply Pick.tail | apply Pick.app))) (by rfl))) | exact RV.cellN hT rfl rfl rfl (by (first | exact RdN.rowAll (by (repeat (first | exact Pick.head | apply Pick.tail | apply Pick.app))) | exact RdN.own (by (repeat (first | exact Pick.head | apply Pick.tail | apply Pick.app))))) (by (first | rfl | assumption | (simp; done) | omega)))) ?_
  first
  | refine ⟨_, fun w h => h.sup (by (repeat (first | exact Sup.refl | apply Sup.cons (by (repeat (first | exact Pick.head | apply Pick.tail | apply Pick.app))) | apply Sup.app | apply Sup.skip | apply Sup.skips))), a3, c3, ?_, ?_⟩
    · rw [← bytesS_length, bytesS_dig]
    · rw [← bytesS_length, bytesS_dig]
  | refine ⟨own 5 1 (.slice a4 (n + (Lib.nDigits u - 0)) c4) (n + (Lib.nDigits u - 0)) (xs ++ (dig u).map (Value.int .u8)) :: r, fun w h => h.sup (by (repeat (first | exact Sup.refl | apply Sup.cons (by (repeat (first | exact Pick.head | apply Pick.tail | apply Pick.app))) | apply Sup.app | apply Sup.skip | apply Sup.skips))), a4, c4, by rw [dig_length]; rfl, by rw [dig_length]; rfl⟩
theorem appendInt10in (n : Nat) (i : Int) (v : Value) (xs : List Value) (r : List HProp) (h0 : -9223372036854775808 ≤ i) (h1 : i ≤ 9223372036854775807) (hn : n ≤ 999999999) (ht : T10 E r) :
 Fc prog E 58 [v, .int .i64 i, .int .i64 10].toArray (own 5 1 v n xs :: r) (fun v' l' => ∃ a c, v' = .slice a (n + (numT i).length) c ∧ l' = own 5 1 v' (n + (numT i).length) (xs ++ (numT i).map (Value.int .u8)) :: r) := by
 refine Fc.post ?_
 refine Fc.of_body (c := ?codeC) Tryd.func58 ?hb Tryd.ntmps58 ?hl ?_
 case hb => exact rfl
 case hl => exact rfl
 refine J.seq (J.region (JL.step (y_assign rfl) rfl rfl rfl ?_))
 refine JL.nil (JE.then_normal (J.seq ?_))
 obtain ⟨u, hu, hun, hup⟩ : ∃ u : Nat, IntKind.u64.wrap i = u ∧ (i < 0 → ((u : Int) = i + 18446744073709551616)) ∧ (0 ≤ i → (u : Int) = i) := by
  rw [IntKind.wrap_u64]
  exact ⟨(i % 18446744073709551616).toNat, by omega, by omega, by omega⟩
 refine J.region (JL.step (y_move rfl) rfl rfl rfl ?_)
 refine JL.step (y_conv (m := (u : Int)) hT rfl rfl rfl rfl hu) rfl rfl rfl ?_
 refine JL.step (y_assign rfl) rfl rfl rfl ?_
 refine JL.nil (JE.then_normal (J.seq (J.seq (J.region (JL.step (y_move rfl) rfl rfl rfl (JL.step (y_lss rfl rfl) rfl rfl rfl ?_))))))
 refine JL.nil (JE.then_normal ?_)
 first | apply J.cond_dec rfl | apply J.cond rfl
 case' ht =>
  intro h
  try (first | (exfalso; omega) | (cases h; done) | (exfalso; simp at h; done) | subst h)
  all_goals
   refine J.seq (J.region (JL.step (y_move rfl) rfl rfl rfl ?_))
   refine JL.loud rfl (l_buildSliceP hT rfl rfl rfl rfl rfl rfl rfl (by (first | exact fill_one rfl (by first | assumption | rfl | (simp; done)) | rfl | simp)) rfl (fun b1 => ?_))
   refine JL.loud rfl (l_append hT rfl rfl rfl rfl rfl rfl rfl rfl (by (repeat (first | exact Pick.head | apply Pick.tail | apply Pick.app))) (by (first | exact RdN.rowAll (by (repeat (first | exact Pick.head | apply Pick.tail | apply Pick.app))) | exact RdN.own (by (repeat (first | exact Pick.head | apply Pick.tail | apply Pick.app))))) (by (first | rfl | assumption | (simp; done) | omega)) (by (first | assumption | exact ones_of rfl | exact encW_one _ | exact encB_one _ | (intro u hu; simp at hu; rcases hu with rfl | rfl <;> rfl) | (intro u hu; simp at hu; subst hu; rfl) | simp)) (by (first | exact Nat.le_trans (Nat.mul_le_mul_left _ (Nat.le_of_ble_eq_true rfl : _ ≤ 4096)) (by omega) | exact Nat.le_trans (Nat.mul_le_mul_left _ (Nat.le_of_ble_eq_true rfl : _ ≤ 1)) (by omega))) (by (first | omega | exact Nat.le_of_ble_eq_true rfl | decide | (simp; omega))) rfl (fun ab2 cb2 hb2 => ?_))
   refine JL.step (y_assign rfl) rfl rfl rfl ?_
   refine JL.nil (JE.then_normal (J.region (JL.step (y_move rfl) rfl rfl rfl ?_)))
   refine JL.step (y_neg (m := ((i.natAbs : Nat) : Int)) rfl (by rw [IntKind.wrap_u64]; omega)) rfl rfl rfl ?_
   refine JL.step (y_assign rfl) rfl rfl rfl ?_
   refine JL.nil ?_
 case' hf =>
  intro h
  try (first | (exfalso; omega) | (cases h; done) | (exfalso; simp at h; done) | subst h)
  all_goals
   refine J.skip ?_
 all_goals refine JE.then_normal ?_
 all_goals
  refine J.seq (J.region (JL.step (y_move rfl) rfl rfl rfl (JL.step (y_move rfl) rfl rfl rfl (JL.step (y_move rfl) rfl rfl rfl ?_))))
  refine JL.loud rfl (l_callF e71 rfl rfl ((by first | exact appendUint10 E (n + 1) i.natAbs _ _ _ (by omega) (by omega) (by (repeat (first | assumption | apply T10.cons | apply T10.app))) | exact appendUint10 E n u _ _ _ (by omega) (by omega) ht)) ?_)
  rintro _ _ ⟨a4, c4, rfl, rfl⟩
  refine JL.step (y_assign rfl) rfl rfl rfl ?_
  refine JL.nil (JE.then_normal (J.ret ?_))
  refine JE.ret1 (.inl rfl) rfl rfl (by (first | exact RV.tmp rfl | exact RV.cell1 hT rfl rfl rfl (by (exact Rd1.row (by (repeat (first | exact Pick.head | apply Pick.tail | apply Pick.app))) (by rfl))) | exact RV.cellN hT rfl rfl rfl (by (first | exact RdN.rowAll (by (repeat (first | exact Pick.head | apply Pick.tail | apply Pick.app))) | exact RdN.own (by (repeat (first | exact Pick.head | apply Pick.tail | apply Pick.app))))) (by (first | rfl | assumption | (simp; done) | omega)))) ?_
  first
  | exact ⟨_, fun w h => h, a4, c4, by rw [numT_pos (u := u) (by omega) (by omega)], by rw [numT_pos (u := u) (by omega) (by omega)]⟩
  | refine ⟨own 5 1 (.slice a4 (n + 1 + (dig i.natAbs).length) c4) (n + 1 + (dig i.natAbs).length) (xs ++ [Value.int .u8 45] ++ (dig i.natAbs).map (Value.int .u8)) :: r, fun w h => h.sup (by (repeat (first | exact Sup.refl | apply Sup.cons (by (repeat (first | exact Pick.head | apply Pick.tail | apply Pick.app))) | apply Sup.app | apply Sup.skip | apply Sup.skips))), a4, c4, by rw [numT_neg (by omega), List.length_cons, show n + ((dig i.natAbs).length + 1) = n + 1 + (dig i.natAbs).length by omega], ?_⟩
    rw [numT_neg (by omega), List.length_cons, show n + ((dig i.natAbs).length + 1) = n + 1 + (dig i.natAbs).length by omega, List.map_cons, List.append_assoc]
    rfl
theorem appendInt10 (n : Nat) (i : Int) (v : Value) (xs : List Value) (r : List HProp) (h0 : -9223372036854775808 ≤ i) (h1 : i ≤ 9223372036854775807) (hn : n ≤ 999999999) (ht : T10 E r) :
 Fc prog E 34 [v, .int .i64 i, .int .i64 10].toArray (own 5 1 v n xs :: r) (fun v' l' => ∃ a c, v' = .slice a (n + (numT i).length) c ∧ l' = own 5 1 v' (n + (numT i).length) (xs ++ (numT i).map (Value.int .u8)) :: r) := by
 refine Fc.post ?_
 refine Fc.of_body (c := ?codeC) Tryd.func34 ?hb Tryd.ntmps34 ?hl ?_
 case hb => exact rfl
 case hl => exact rfl
 refine J.seq (J.region (JL.step (y_assign rfl) rfl rfl rfl ?_))
 refine JL.nil (JE.then_normal (J.seq (J.region (JL.step (y_move rfl) rfl rfl rfl (JL.step (y_move rfl) rfl rfl rfl (JL.step (y_move rfl) rfl rfl rfl ?_))))))
 refine JL.loud rfl (l_callF e58 rfl rfl (appendInt10in E n i _ _ _ h0 h1 hn ht) ?_)
 rintro _ _ ⟨a, c, rfl, rfl⟩
 refine JL.step (y_assign rfl) rfl rfl rfl ?_
 refine JL.nil (JE.then_normal (J.ret ?_))
 refine JE.ret1 (.inl rfl) rfl rfl (by (first | exact RV.tmp rfl | exact RV.cell1 hT rfl rfl rfl (by (exact Rd1.row (by (repeat (first | exact Pick.head | apply Pick.tail | apply Pick.app))) (by rfl))) | exact RV.cellN hT rfl rfl rfl (by (first | exact RdN.rowAll (by (repeat (first | exact Pick.head | apply Pick.tail | apply Pick.app))) | exact RdN.own (by (repeat (first | exact Pick.head | apply Pick.tail | apply Pick.app))))) (by (first | rfl | assumption | (simp; done) | omega)))) ?_
 exact ⟨_, fun w h => h, a, c, rfl, rfl⟩
end
end
section
open Go Go.SL
section
attribute [local irreducible] J JL JE JM LS Y Fc RV Code.wp wpList Code.wpIn wpListIn
attribute [local irreducible] Yc
theorem y_callV {P : Program} {E : World} {n : Nat} {ds : List Deferred} {env : Fr} {l : List HProp} {f : FuncId} {v : Value} {dst : Option Tmp} {ty : TypeId} {pos : String} {af : Array Edge} {gd : Option (Nat × Bool)} (he : Ent P f) {fx : Operand} {xs : List Operand} {us cs : List Value} {ts : Array TypeId} (hf : val env fx = some (.func (.func f) #[] cs.toArray)) (hx : vals env xs = some us)
 (hc : Fc P E f (us ++ cs).toArray l (fun u l' => u = v ∧ l' = l)) :
 Y P E n ds ⟨dst, .call ⟨.value fx, xs.toArray, ts⟩, ty, pos, af, gd⟩ env l v := y_call he (fs := #[]) hf hx (by simpa using hc)
abbrev FlowT := Int × Int × Int × Int
def flE (f : FlowT) : List Value := [.int .i64 f.1, .int .i64 f.2.1, .int .i64 f.2.2.1, .int .i64 f.2.2.2]
theorem hkE (x : FlowT) : (flE x).length = 4 := rfl
theorem hoE (x : FlowT) : ∀ v ∈ flE x, v.oneCell' = true := by
 intro v hv
 simp only [flE, List.mem_cons, List.not_mem_nil, or_false] at hv
 rcases hv with rfl | rfl | rfl | rfl <;> rfl
def cmpI (x y : Int) : Int := if x < y then -1 else if y < x then 1 else 0
def cmpF (a b : FlowT) : Int := if cmpI a.1 b.1 ≠ 0 then cmpI a.1 b.1 else cmpI a.2.1 b.2.1
def ltF (a b : FlowT) : Bool := decide (cmpF a b < 0)
theorem cmpF_lt {a b : FlowT} : cmpF a b < 0 ↔ a.1 < b.1 ∨ a.1 = b.1 ∧ a.2.1 < b.2.1 := by
 unfold cmpF cmpI
 split <;> (try split) <;> (try split) <;> (try split) <;> (try split) <;> omega
theorem swoF : Sort.SWO ltF := by
 constructor
 all_goals (intros; simp only [ltF, decide_eq_true_eq, decide_eq_false_iff_not, cmpF_lt] at *; omega)
variable (E : World)
theorem isNaNw (x : Int) (l : List HProp) : Fc prog E 62 [.int .i64 x].toArray l (fun v l' => v = .bool false ∧ l' = l) := by
 refine Fc.of_body (c := ?codeC) Tryd.func62 ?hb Tryd.ntmps62 ?hl ?_
 case hb => exact rfl
 case hl => exact rfl
 refine J.seq (J.region (JL.step (y_assign rfl) rfl rfl rfl ?_))
 refine JL.nil (JE.then_normal (J.seq (J.region (JL.step (y_move rfl) rfl rfl rfl (JL.step (y_move rfl) rfl rfl rfl (JL.step (y_neq rfl rfl) rfl rfl rfl (JL.step (y_assign rfl) rfl rfl rfl ?_)))))))
 refine JL.nil (JE.then_normal (J.ret ?_))
 refine JE.ret1 (.inl rfl) rfl rfl (by (first | exact RV.tmp rfl | exact RV.cell1 hT rfl rfl rfl (by (exact Rd1.row (by (repeat (first | exact Pick.head | apply Pick.tail | apply Pick.app))) (by rfl))) | exact RV.cellN hT rfl rfl rfl (by (first | exact RdN.rowAll (by (repeat (first | exact Pick.head | apply Pick.tail | apply Pick.app))) | exact RdN.own (by (repeat (first | exact Pick.head | apply Pick.tail | apply Pick.app))))) (by (first | rfl | assumption | (simp; done) | omega)))) ?_
 exact ⟨by simp, rfl⟩
theorem compareI (x y : Int) (l : List HProp) : Fc prog E 40 [.int .i64 x, .int .i64 y].toArray l (fun v l' => v = .int .i64 (cmpI x y) ∧ l' = l) := by
 refine Fc.of_body (c := ?codeC) Tryd.func40 ?hb Tryd.ntmps40 ?hl ?_
 case hb => exact rfl
 case hl => exact rfl
 refine J.seq (J.region (JL.step (y_assign rfl) rfl rfl rfl ?_))
 refine JL.nil (JE.then_normal (J.seq (J.region (JL.step (y_move rfl) rfl rfl rfl ?_))))
 refine JL.loud rfl (l_callF e62 rfl rfl (isNaNw E _ _) ?_)
 rintro _ _ ⟨rfl, rfl⟩
 refine JL.step (y_assign rfl) rfl rfl rfl ?_
 refine JL.nil (JE.then_normal (J.seq (J.region (JL.step (y_move rfl) rfl rfl rfl ?_))))
 refine JL.loud rfl (l_callF e62 rfl rfl (isNaNw E _ _) ?_)
 rintro _ _ ⟨rfl, rfl⟩
 refine JL.step (y_assign rfl) rfl rfl rfl ?_
 refine JL.nil (JE.then_normal (J.seq (J.seq (J.region (JL.step (y_move rfl) rfl rfl rfl ?_)))))
 refine JL.nil (JE.then_normal ?_)
 refine J.cond_f rfl (by (first | rfl | assumption | (simp; done) | (simp; omega))) ?_
 refine J.skip (JE.then_normal (J.seq (J.seq (J.region (JL.step (y_move rfl) rfl rfl rfl ?_)))))
 refine JL.nil (JE.then_normal ?_)
 refine J.cond_f rfl (by (first | rfl | assumption | (simp; done) | (simp; omega))) ?_
 refine J.skip (JE.then_normal (J.seq (J.seq (J.region (JL.step (y_move rfl) rfl rfl rfl (JL.step (y_move rfl) rfl rfl rfl (JL.step (y_lss rfl rfl) rfl rfl rfl ?_)))))))
 refine JL.nil (JE.then_normal ?_)
 first | apply J.cond_dec rfl | apply J.cond rfl
 case' ht =>
  intro h
  try (first | (exfalso; omega) | (cases h; done) | (exfalso; simp at h; done) | subst h)
  all_goals
   refine J.seq (J.region (JL.step (y_assign rfl) rfl rfl rfl ?_))
   refine JL.nil (JE.then_normal (J.ret (JE.then_ret ?_)))
   refine JE.ret1 (.inl rfl) rfl rfl (by (first | exact RV.tmp rfl | exact RV.cell1 hT rfl rfl rfl (by (exact Rd1.row (by (repeat (first | exact Pick.head | apply Pick.tail | apply Pick.app))) (by rfl))) | exact RV.cellN hT rfl rfl rfl (by (first | exact RdN.rowAll (by (repeat (first | exact Pick.head | apply Pick.tail | apply Pick.app))) | exact RdN.own (by (repeat (first | exact Pick.head | apply Pick.tail | apply Pick.app))))) (by (first | rfl | assumption | (simp; done) | omega)))) ?_
   refine ⟨?_, rfl⟩
   unfold cmpI
   first | rw [if_pos (by omega)] | rw [if_neg (by omega), if_pos (by omega)] | rw [if_neg (by omega), if_neg (by omega)]
 case' hf =>
  intro h
  try (first | (exfalso; omega) | (cases h; done) | (exfalso; simp at h; done) | subst h)
  all_goals
   refine J.skip ?_
 all_goals refine JE.then_normal ?_
 all_goals
  refine J.seq (J.seq (J.region (JL.step (y_move rfl) rfl rfl rfl (JL.step (y_move rfl) rfl rfl rfl (JL.step (y_gtr rfl rfl) rfl rfl rfl ?_)))))
  refine JL.nil (JE.then_normal ?_)
  first | apply J.cond_dec rfl | apply J.cond rfl
  case' ht =>
   intro h
   try (first | (exfalso; omega) | (cases h; done) | (exfalso; simp at h; done) | subst h)
   all_goals
    refine J.seq (J.region (JL.step (y_assign rfl) rfl rfl rfl ?_))
    refine JL.nil (JE.then_normal (J.ret (JE.then_ret ?_)))
    refine JE.ret1 (.inl rfl) rfl rfl (by (first | exact RV.tmp rfl | exact RV.cell1 hT rfl rfl rfl (by (exact Rd1.row (by (repeat (first | exact Pick.head | apply Pick.tail | apply Pick.app))) (by rfl))) | exact RV.cellN hT rfl rfl rfl (by (first | exact RdN.rowAll (by (repeat (first | exact Pick.head | apply Pick.tail | apply Pick.app))) | exact RdN.own (by (repeat (first | exact Pick.head | apply Pick.tail | apply Pick.app))))) (by (first | rfl | assumption | (simp; done) | omega)))) ?_
    refine ⟨?_, rfl⟩
    unfold cmpI
    first | rw [if_pos (by omega)] | rw [if_neg (by omega), if_pos (by omega)] | rw [if_neg (by omega), if_neg (by omega)]
  case' hf =>
   intro h
   try (first | (exfalso; omega) | (cases h; done) | (exfalso; simp at h; done) | subst h)
   all_goals
    refine J.skip ?_
  all_goals refine JE.then_normal ?_
  all_goals
   refine J.seq (J.region (JL.step (y_assign rfl) rfl rfl rfl ?_))
   refine JL.nil (JE.then_normal (J.ret ?_))
   refine JE.ret1 (.inl rfl) rfl rfl (by (first | exact RV.tmp rfl | exact RV.cell1 hT rfl rfl rfl (by (exact Rd1.row (by (repeat (first | exact Pick.head | apply Pick.tail | apply Pick.app))) (by rfl))) | exact RV.cellN hT rfl rfl rfl (by (first | exact RdN.rowAll (by (repeat (first | exact Pick.head | apply Pick.tail | apply Pick.app))) | exact RdN.own (by (repeat (first | exact Pick.head | apply Pick.tail | apply Pick.app))))) (by (first | rfl | assumption | (simp; done) | omega)))) ?_
   refine ⟨?_, rfl⟩
   unfold cmpI
   first | rw [if_pos (by omega)] | rw [if_neg (by omega), if_pos (by omega)] | rw [if_neg (by omega), if_neg (by omega)]
theorem orI (g : Nat) (x y : Int) (r : List HProp) : Fc prog E 39 [.slice (some ⟨g, 0, none⟩) 2 2].toArray (row g 3 [.int .i64 x, .int .i64 y] :: r) (fun v l' => v = .int .i64 (if x ≠ 0 then x else y) ∧ l' = row g 3 [.int .i64 x, .int .i64 y] :: r) := by
 have hin : InL (row g 3 (ints .i64 [x, y]) :: r) (some ⟨g, 0, none⟩) 2 2 (ints .i64 [x, y]) := InL.ofRow Pick.head (by unfold maxLen; omega)
 refine Fc.of_body (c := ?codeC) Tryd.func39 ?hb Tryd.ntmps39 ?hl ?_
 case hb => exact rfl
 case hl => exact rfl
 refine J.seq (J.region (JL.step (y_assign rfl) rfl rfl rfl ?_))
 refine JL.nil (JE.then_normal (J.seq (J.region (JL.step (y_assign rfl) rfl rfl rfl ?_))))
 refine JL.nil (JE.then_normal (J.seq (J.seq (J.region (JL.step (y_move rfl) rfl rfl rfl (JL.step (y_len_slice hT rfl rfl rfl) rfl rfl rfl (JL.step (y_move rfl) rfl rfl rfl ?_)))))))
 refine JL.nil (JE.then_normal (J.block ?_))
 refine J.loop (α := Nat) (fun i => i ≤ 2 ∧ (0 < i → x = 0) ∧ (1 < i → y = 0)) (fun i => [(3, .int .i64 0), (6, .slice (some ⟨g, 0, none⟩) 2 2), (7, .int .i64 2), (8, .int .i64 i)]) (fun _ => row g 3 [.int .i64 x, .int .i64 y] :: r) (fun i => 2 - i) 0 ⟨by omega, by omega, by omega⟩ ⟨rfl, rfl, rfl, rfl, trivial⟩ (fun w h => h) ?_
 rintro i ⟨hi, h1, h2⟩
 try dsimp only at hi h1 h2 ⊢
 refine J.seq (J.region (JL.step (y_lss rfl rfl) rfl rfl rfl ?_))
 refine JL.nil (JE.then_normal (J.seq ?_))
 first | apply J.cond_dec rfl | apply J.cond rfl
 case' ht =>
  intro h
  try (first | (exfalso; omega) | (cases h; done) | (exfalso; simp at h; done) | subst h)
  all_goals
   obtain ⟨z, hz, hz0, hz1⟩ : ∃ z, ([Value.int .i64 x, Value.int .i64 y])[i]? = some (.int .i64 z) ∧ (i = 0 → z = x) ∧ (i = 1 → z = y) := by
    obtain rfl | rfl : i = 0 ∨ i = 1 := by omega
    · exact ⟨x, rfl, fun _ => rfl, by omega⟩
    · exact ⟨y, rfl, by omega, fun _ => rfl⟩
   refine J.skip ?_
 case' hf =>
  intro h
  try (first | (exfalso; omega) | (cases h; done) | (exfalso; simp at h; done) | subst h)
  all_goals
   refine J.exit (JE.then_exit (JE.then_exit (JE.block_exit (JE.then_normal (J.seq (J.region (JL.step (y_move rfl) rfl rfl rfl (JL.step (y_assign rfl) rfl rfl rfl ?_))))))))
   refine JL.nil (JE.then_normal (J.ret ?_))
   refine JE.ret1 (.inl rfl) rfl rfl (by (first | exact RV.tmp rfl | exact RV.cell1 hT rfl rfl rfl (by (exact Rd1.row (by (repeat (first | exact Pick.head | apply Pick.tail | apply Pick.app))) (by rfl))) | exact RV.cellN hT rfl rfl rfl (by (first | exact RdN.rowAll (by (repeat (first | exact Pick.head | apply Pick.tail | apply Pick.app))) | exact RdN.own (by (repeat (first | exact Pick.head | apply Pick.tail | apply Pick.app))))) (by (first | rfl | assumption | (simp; done) | omega)))) ?_
   first
    | refine ⟨?_, rfl⟩
      congr 1
      by_cases h0 : x = 0
      · rw [if_neg (by simp [h0])]; omega
      · rw [if_pos h0]; omega
 all_goals refine JE.then_normal ?_
 all_goals
  refine J.seq (J.block (J.seq (J.region ?_)))
  refine JL.step (y_indexAddr_slice hT rfl rfl rfl rfl rfl (by (first | omega | exact Nat.le_of_ble_eq_true rfl | decide | (simp; omega))) (by (first | omega | exact Nat.le_of_ble_eq_true rfl | decide | (simp; omega)))) rfl rfl rfl ?_
  refine JL.step (y_load1 hT rfl rfl rfl (Rd1.elem (RdN.rowAll (by (repeat (first | exact Pick.head | apply Pick.tail | apply Pick.app)))) hz)) rfl rfl rfl ?_
  refine JL.step (y_assign rfl) rfl rfl rfl ?_
  refine JL.nil (JE.then_normal (J.seq (J.region (JL.step (y_move rfl) rfl rfl rfl (JL.step (y_move rfl) rfl rfl rfl (JL.step (y_neq rfl rfl) rfl rfl rfl ?_))))))
  refine JL.nil (JE.then_normal ?_)
  first | apply J.cond_dec rfl | apply J.cond rfl
  case' ht =>
   intro h
   try (first | (exfalso; omega) | (cases h; done) | (exfalso; simp at h; done) | subst h)
   all_goals
    refine J.seq (J.region (JL.step (y_move rfl) rfl rfl rfl (JL.step (y_assign rfl) rfl rfl rfl ?_)))
    refine JL.nil (JE.then_normal (J.ret (JE.block_ret (JE.then_ret (JE.then_ret (JE.block_ret (JE.then_ret ?_)))))))
    refine JE.ret1 (.inl rfl) rfl rfl (by (first | exact RV.tmp rfl | exact RV.cell1 hT rfl rfl rfl (by (exact Rd1.row (by (repeat (first | exact Pick.head | apply Pick.tail | apply Pick.app))) (by rfl))) | exact RV.cellN hT rfl rfl rfl (by (first | exact RdN.rowAll (by (repeat (first | exact Pick.head | apply Pick.tail | apply Pick.app))) | exact RdN.own (by (repeat (first | exact Pick.head | apply Pick.tail | apply Pick.app))))) (by (first | rfl | assumption | (simp; done) | omega)))) ?_
    first
     | refine ⟨?_, rfl⟩
       congr 1
       by_cases h0 : x = 0
       · rw [if_neg (by simp [h0])]; omega
       · rw [if_pos h0]; omega
  case' hf =>
   intro h
   try (first | (exfalso; omega) | (cases h; done) | (exfalso; simp at h; done) | subst h)
   all_goals
    refine J.skip ?_
  all_goals refine JE.block_normal (JE.then_normal ?_)
  all_goals
   refine J.region ?_
   refine JL.step (y_add rfl rfl (by (first | exact wrap_i64 (by omega) (by omega) | rfl))) rfl rfl rfl ?_
   refine JL.step (y_move rfl) rfl rfl rfl ?_
   refine JL.nil ?_
 all_goals
  exact JE.round (s := i) (i + 1) ⟨by omega, by omega, by omega⟩ ⟨rfl, rfl, rfl, rfl, trivial⟩ (fun w h => h) (by omega)
theorem flowCmp (a b : FlowT) (l : List HProp) : Fc prog E 38 [.agg (flE a).toArray, .agg (flE b).toArray].toArray l (fun v l' => v = .int .i64 (cmpF a b) ∧ l' = l) := by
 refine Fc.eqs ?_
 refine Fc.of_body (c := ?codeC) Tryd.func38 ?hb Tryd.ntmps38 ?hl ?_
 case hb => exact rfl
 case hl => exact rfl
 refine J.seq (J.region ?_)
 refine JL.loud rfl (l_box rfl (by (first | rfl | simp)) rfl (fun b1 => ?_))
 refine JL.loud rfl (l_box rfl (by (first | rfl | simp)) rfl (fun b2 => ?_))
 refine JL.step (y_assign rfl) rfl rfl rfl ?_
 refine JL.nil (JE.then_normal (J.seq ?_))
 refine J.draw _ _ [(0, .q), (1, .q), (2, .q), (3, .q), (4, .q), (5, .q), (6, .q), (7, .q), (8, .q), (9, .q), (10, .l), (11, .l), (12, .q)] mixed (by kernel_rfl) (Split.nil) ?_
 refine JM.quiet rfl rfl rfl rfl (fun m => y_fieldAddr hT rfl rfl rfl rfl rfl rfl) ?_
 refine JM.quiet rfl rfl rfl rfl (fun m => y_load1 hT rfl rfl rfl (by (exact Rd1.row (Pick.app m (by (repeat (first | exact Pick.head | apply Pick.tail | apply Pick.app)))) (by rfl)))) ?_
 refine JM.quiet rfl rfl rfl rfl (fun m => y_fieldAddr hT rfl rfl rfl rfl rfl rfl) ?_
 refine JM.quiet rfl rfl rfl rfl (fun m => y_load1 hT rfl rfl rfl (by (exact Rd1.row (Pick.app m (by (repeat (first | exact Pick.head | apply Pick.tail | apply Pick.app)))) (by rfl)))) ?_
 refine JM.quiet rfl rfl rfl rfl (fun m => y_callF e40 rfl (compareI E _ _ _)) (JM.quiet rfl rfl rfl rfl (fun m => y_fieldAddr hT rfl rfl rfl rfl rfl rfl) ?_)
 refine JM.quiet rfl rfl rfl rfl (fun m => y_load1 hT rfl rfl rfl (by (exact Rd1.row (Pick.app m (by (repeat (first | exact Pick.head | apply Pick.tail | apply Pick.app)))) (by rfl)))) ?_
 refine JM.quiet rfl rfl rfl rfl (fun m => y_fieldAddr hT rfl rfl rfl rfl rfl rfl) ?_
 refine JM.quiet rfl rfl rfl rfl (fun m => y_load1 hT rfl rfl rfl (by (exact Rd1.row (Pick.app m (by (repeat (first | exact Pick.head | apply Pick.tail | apply Pick.app)))) (by rfl)))) ?_
 refine JM.quiet rfl rfl rfl rfl (fun m => y_callF e40 rfl (compareI E _ _ _)) ?_
 refine JM.loud rfl rfl (fun fr => l_buildSliceP (cs := [_, _]) hT rfl rfl rfl rfl rfl rfl rfl (fill_two (cs := [_]) (ds := [_]) rfl rfl rfl rfl) rfl (fun b3 => ⟨[_], (by (repeat (first | exact Split.nil | exact Split.all | refine Split.cons Pick.head ?_))), ?_⟩))
 refine JM.loud rfl rfl (fun fr => l_callF e39 rfl rfl (orI E _ _ _ _) ?_)
 rintro _ _ ⟨rfl, rfl⟩
 refine ⟨[_], (by (repeat (first | exact Split.nil | exact Split.all | refine Split.cons Pick.head ?_))), ?_⟩
 refine JM.quiet rfl rfl rfl rfl (fun m => y_assign rfl) ?_
 refine JM.nil (JE.then_normal (J.ret ?_))
 refine JE.ret1 (.inl rfl) rfl rfl (by (first | exact RV.tmp rfl | exact RV.cell1 hT rfl rfl rfl (by (exact Rd1.row (by (repeat (first | exact Pick.head | apply Pick.tail | apply Pick.app))) (by rfl))) | exact RV.cellN hT rfl rfl rfl (by (first | exact RdN.rowAll (by (repeat (first | exact Pick.head | apply Pick.tail | apply Pick.app))) | exact RdN.own (by (repeat (first | exact Pick.head | apply Pick.tail | apply Pick.app))))) (by (first | rfl | assumption | (simp; done) | omega)))) ?_
 refine ⟨?_, fun w h => h.sup (by (repeat (first | exact Sup.refl | apply Sup.cons (by (repeat (first | exact Pick.head | apply Pick.tail | apply Pick.app))) | apply Sup.app | apply Sup.skip | apply Sup.skips)))⟩
 rfl
end
end
section
open Go Go.SL
section
abbrev WireT := Int × Int × Int × Int × Int
def wiE (w : WireT) : List Value := [.int .i64 w.1, .int .i64 w.2.1, .int .i64 w.2.2.1, .int .i64 w.2.2.2.1, .int .i64 w.2.2.2.2]
theorem wiE_length (w : WireT) : (wiE w).length = 5 := rfl
def R64 (x : Int) : Prop := -9223372036854775808 ≤ x ∧ x ≤ 9223372036854775807
def WiOk (w : WireT) : Prop := R64 w.1 ∧ R64 w.2.1 ∧ R64 w.2.2.1 ∧ R64 w.2.2.2.1 ∧ R64 w.2.2.2.2
def lineB (w : WireT) : List Int := numT w.1 ++ 32 :: (numT w.2.1 ++ 32 :: (numT w.2.2.1 ++ 32 :: (numT w.2.2.2.1 ++ 32 :: (numT w.2.2.2.2 ++ [10]))))
def shapeB (ws : List WireT) : List Int := ws.flatMap lineB
theorem numT_size {i : Int} (h : R64 i) : 1 ≤ (numT i).length ∧ (numT i).length ≤ 21 := by
 unfold R64 at h
 unfold numT
 split
 · have := dig_size (u := i.natAbs) (by omega)
   rw [List.length_cons]; omega
 · have := dig_size (u := i.toNat) (by omega)
   omega
theorem line_size {w : WireT} (h : WiOk w) : (lineB w).length ≤ 110 := by
 obtain ⟨h1, h2, h3, h4, h5⟩ := h
 have := numT_size h1; have := numT_size h2; have := numT_size h3; have := numT_size h4; have := numT_size h5
 simp only [lineB, List.length_append, List.length_cons, List.length_nil]
 omega
theorem shape_size : ∀ {ws : List WireT}, (∀ w ∈ ws, WiOk w) → (shapeB ws).length ≤ ws.length * 110
 | [], _ => by simp [shapeB]
 | w :: ws, h => by
   have h1 := line_size (h w (by simp))
   have h2 := shape_size fun x hx => h x (List.mem_cons_of_mem _ hx)
   simp only [shapeB, List.flatMap_cons, List.length_append, List.length_cons] at h2 ⊢
   omega
theorem line_pre (j : Nat) {w : WireT} (h : WiOk w) : (([w.1, w.2.1, w.2.2.1, w.2.2.2.1].take j).flatMap fun z => numT z ++ [32]).length ≤ 100 := by
 obtain ⟨h1, h2, h3, h4, h5⟩ := h
 have := numT_size h1; have := numT_size h2; have := numT_size h3; have := numT_size h4
 match j with
 | 0 => simp
 | 1 => simp; omega
 | 2 => simp; omega
 | 3 => simp; omega
 | j + 4 => simp; omega
def bufM (bx : Nat) (xs : List Int) : HProp := pk fun q : Option Addr × Nat => [row bx 58 [.slice q.1 xs.length q.2], own 5 1 (.slice q.1 xs.length q.2) xs.length (xs.map (Value.int .u8))]
end
section
attribute [local irreducible] J JL JE JM LS Y Fc RV Code.wp wpList Code.wpIn wpListIn
attribute [local irreducible] Yc
variable (E : World)
theorem shape1_spec (bx : Nat) (en : Int) (i : Int) (xs : List Int) (r : List HProp) (hi : R64 i) (hx : xs.length ≤ 100000000) (ht : T10 E r) :
 Fc prog E 33 [.int .u8 en, .int .i64 i, .pointer (some ⟨bx, 0, none⟩)].toArray (bufM bx xs :: r) (fun v l' => v = .tuple #[] ∧ l' = bufM bx (xs ++ (numT i ++ [en])) :: r) := by
 have hs := numT_size hi
 refine Fc.eqs ?_
 refine Fc.pks fun q => ?_
 obtain ⟨a, c⟩ := q
 dsimp only
 refine Fc.of_body (c := ?codeC) Tryd.func33 ?hb Tryd.ntmps33 ?hl ?_
 case hb => exact rfl
 case hl => exact rfl
 refine J.region ?_
 refine JL.step (y_load1 hT rfl rfl rfl (by (exact Rd1.row (by (repeat (first | exact Pick.head | apply Pick.tail | apply Pick.app))) (by rfl)))) rfl rfl rfl ?_
 refine JL.step (y_move rfl) rfl rfl rfl ?_
 refine JL.loud rfl (l_callF e34 rfl rfl (Fc.on (Split.cons (by (repeat (first | exact Pick.head | apply Pick.tail | apply Pick.app))) Split.nil) (appendInt10 E xs.length i _ _ _ hi.1 hi.2 (by omega) (by (repeat (first | assumption | apply T10.cons | apply T10.app))))) ?_)
 rintro _ _ ⟨a2, c2, rfl, rfl⟩
 refine JL.step (y_move rfl) rfl rfl rfl ?_
 refine JL.loud rfl (l_buildSliceP hT rfl rfl rfl rfl rfl rfl rfl (by (first | exact fill_one rfl (by first | assumption | rfl | (simp; done)) | rfl | simp)) rfl (fun b2 => ?_))
 refine JL.loud rfl (l_append hT rfl rfl rfl rfl rfl rfl rfl rfl (by (repeat (first | exact Pick.head | apply Pick.tail | apply Pick.app))) (by (first | exact RdN.rowAll (by (repeat (first | exact Pick.head | apply Pick.tail | apply Pick.app))) | exact RdN.own (by (repeat (first | exact Pick.head | apply Pick.tail | apply Pick.app))))) (by (first | rfl | assumption | (simp; done) | omega)) (by (first | assumption | exact ones_of rfl | exact encW_one _ | exact encB_one _ | (intro u hu; simp at hu; rcases hu with rfl | rfl <;> rfl) | (intro u hu; simp at hu; subst hu; rfl) | simp)) (by (first | exact Nat.le_trans (Nat.mul_le_mul_left _ (Nat.le_of_ble_eq_true rfl : _ ≤ 4096)) (by omega) | exact Nat.le_trans (Nat.mul_le_mul_left _ (Nat.le_of_ble_eq_true rfl : _ ≤ 1)) (by omega))) (by (first | omega | exact Nat.le_of_ble_eq_true rfl | decide | (simp; omega))) rfl (fun ab3 cb3 hb3 => ?_))
 refine JL.loud rfl (l_store1 hT rfl rfl rfl rfl rfl (by (repeat (first | exact Pick.head | apply Pick.tail | apply Pick.app))) (by (first | omega | exact Nat.le_of_ble_eq_true rfl | decide | (simp; omega))) ?_)
 refine JL.nil ?_
 all_goals
  refine JE.ret0 (.inr rfl) rfl rfl  ?_
  refine ⟨rfl, fun w h => ?_⟩
  unfold bufM
  refine Sat.topk (F := fun q : Option Addr × Nat => [row bx 58 [.slice q.1 (xs ++ (numT i ++ [en])).length q.2], own 5 1 (.slice q.1 (xs ++ (numT i ++ [en])).length q.2) (xs ++ (numT i ++ [en])).length ((xs ++ (numT i ++ [en])).map (Value.int .u8))]) (ab3, cb3) ?_
  dsimp only
  rw [show (xs ++ (numT i ++ [en])).length = xs.length + (numT i).length + 1 by simp; omega, List.map_append, List.map_append, ← List.append_assoc]
  exact h.sup (by (repeat (first | exact Sup.refl | apply Sup.cons (by (repeat (first | exact Pick.head | apply Pick.tail | apply Pick.app))) | apply Sup.app | apply Sup.skip | apply Sup.skips)))
theorem shape_spec (p : Option Addr) (n c : Nat) (ws : List WireT) (l : List HProp) (hn : ws.length = n) (hn8 : n ≤ 1000) (hw : ∀ w ∈ ws, WiOk w) (hin : InL l p n c (ws.flatMap wiE)) (ht : T10 E l) :
 Fc prog E 13 [.slice p n c].toArray l (fun v l' => v = .string (strOf (shapeB ws)) ∧ l' = l) := by
 refine Fc.eqs ?_
 refine Fc.of_body (c := ?codeC) Tryd.func13 ?hb Tryd.ntmps13 ?hl ?_
 case hb => exact rfl
 case hl => exact rfl
 refine J.seq (J.region (JL.step (y_assign rfl) rfl rfl rfl ?_))
 refine JL.nil (JE.then_normal (J.seq (J.region ?_)))
 refine JL.loud rfl (l_alloc hT rfl rfl (by (first | rfl | simp)) rfl (fun b1 => ?_))
 refine JL.nil (JE.then_normal (J.seq (J.region (JL.step (y_makeFunc rfl rfl) rfl rfl rfl (JL.step (y_assign rfl) rfl rfl rfl ?_)))))
 refine JL.nil (JE.then_normal (J.seq (J.seq (J.region (JL.step (y_move rfl) rfl rfl rfl (JL.step (y_len_slice hT rfl rfl rfl) rfl rfl rfl (JL.step (y_move rfl) rfl rfl rfl ?_)))))))
 refine JL.nil (JE.then_normal (J.block ?_))
 refine J.pre (l' := bufM b1 [] :: l) (fun w s => ?_) ?_
 · unfold bufM
   exact Sat.topk (F := fun q : Option Addr × Nat => [row b1 58 [.slice q.1 0 q.2], own 5 1 (.slice q.1 0 q.2) 0 []]) (none, 0) ((Sat.own_nil (e := 5) (size := 1) s).sup (by (repeat (first | exact Sup.refl | apply Sup.cons (by (repeat (first | exact Pick.head | apply Pick.tail | apply Pick.app))) | apply Sup.app | apply Sup.skip | apply Sup.skips))))
 refine J.loop (α := Nat) (fun i => i ≤ n) (fun i => [(4, .func (.func 33) #[] [Value.pointer (some ⟨b1, 0, none⟩)].toArray), (3, .pointer (some ⟨b1, 0, none⟩)), (10, .slice p n c), (11, .int .i64 n), (12, .int .i64 i)]) (fun i => bufM b1 (shapeB (ws.take i)) :: l) (fun i => n - i) 0 (Nat.zero_le _) ⟨rfl, rfl, rfl, rfl, rfl, trivial⟩ (fun w h => h) ?_
 intro i hi
 try dsimp only
 refine J.seq (J.region (JL.step (y_lss rfl rfl) rfl rfl rfl ?_))
 refine JL.nil (JE.then_normal (J.seq ?_))
 first | apply J.cond_dec rfl | apply J.cond rfl
 case' ht =>
  intro h
  try (first | (exfalso; omega) | (cases h; done) | (exfalso; simp at h; done) | subst h)
  all_goals
   refine J.skip ?_
 case' hf =>
  intro h
  try (first | (exfalso; omega) | (cases h; done) | (exfalso; simp at h; done) | subst h)
  all_goals
   refine J.exit (JE.then_exit (JE.then_exit (JE.block_exit (JE.then_normal (J.seq ?_)))))
   obtain rfl : i = n := by omega
   rw [List.take_of_length_le (by omega)]
   unfold bufM
   refine J.pks fun q => ?_
   obtain ⟨a, cq⟩ := q
   dsimp only
   refine J.fact (fun w s => Sat.own_at (s.pick (Pick.tail Pick.head))) fun oq => ?_
   refine J.region ?_
   refine JL.step (y_load1 hT rfl rfl rfl (by (exact Rd1.row (by (repeat (first | exact Pick.head | apply Pick.tail | apply Pick.app))) (by rfl)))) rfl rfl rfl ?_
   refine JL.step (y_convStringL (xs := shapeB ws) hT rfl rfl rfl rfl rfl rfl rfl (oq.inl (by (repeat (first | exact Pick.head | apply Pick.tail | apply Pick.app)))) rfl) rfl rfl rfl ?_
   refine JL.step (y_assign rfl) rfl rfl rfl ?_
   refine JL.nil (JE.then_normal (J.ret ?_))
   refine JE.ret1 (.inl rfl) rfl rfl (by (first | exact RV.tmp rfl | exact RV.cell1 hT rfl rfl rfl (by (exact Rd1.row (by (repeat (first | exact Pick.head | apply Pick.tail | apply Pick.app))) (by rfl))) | exact RV.cellN hT rfl rfl rfl (by (first | exact RdN.rowAll (by (repeat (first | exact Pick.head | apply Pick.tail | apply Pick.app))) | exact RdN.own (by (repeat (first | exact Pick.head | apply Pick.tail | apply Pick.app))))) (by (first | rfl | assumption | (simp; done) | omega)))) ?_
   exact ⟨rfl, fun w h => h.sup (by (repeat (first | exact Sup.refl | apply Sup.cons (by (repeat (first | exact Pick.head | apply Pick.tail | apply Pick.app))) | apply Sup.app | apply Sup.skip | apply Sup.skips)))⟩
 all_goals refine JE.then_normal ?_
 all_goals
  refine J.seq (J.block (J.seq (J.region ?_)))
  have hlt : i < n := by omega
  obtain ⟨w, hh⟩ : ∃ w, ws[i]? = some w := ⟨ws[i]'(by omega), List.getElem?_eq_getElem _⟩
  have hwk := hw w (List.mem_of_getElem? hh)
  have hsz : (shapeB (ws.take i)).length ≤ 110000 := by
   have h1 := shape_size (ws := ws.take i) fun x hx => hw x (List.mem_of_mem_take hx)
   rw [List.length_take] at h1
   omega
  have hst : shapeB (ws.take (i + 1)) = shapeB (ws.take i) ++ lineB w := by
   unfold shapeB
   rw [List.take_add_one, hh, Option.toList_some, List.flatMap_append]
   simp
  obtain ⟨g, o, rfl, hr⟩ := hin.addr (by omega)
  refine JL.step (y_indexAddr_slice hT rfl rfl rfl rfl rfl (by (first | omega | exact Nat.le_of_ble_eq_true rfl | decide | (simp; omega))) (by (first | omega | exact Nat.le_of_ble_eq_true rfl | decide | (simp; omega)))) rfl rfl rfl ?_
  refine JL.step (y_loadN hT rfl rfl rfl (RdN.elem (hr [_]) (fun x _ => wiE_length x) hh) rfl) rfl rfl rfl ?_
  refine JL.loud rfl (l_alloc hT rfl rfl (by (first | rfl | simp)) rfl (fun b2 => ?_))
  refine JL.loud rfl (l_storeAll hT rfl rfl rfl (by (first | rfl | assumption | (simp; done) | omega)) (by (first | assumption | exact ones_of rfl | exact encW_one _ | exact encB_one _ | (intro u hu; simp at hu; rcases hu with rfl | rfl <;> rfl) | (intro u hu; simp at hu; subst hu; rfl) | simp)) (by (repeat (first | exact Pick.head | apply Pick.tail | apply Pick.app))) (by (first | rfl | assumption | (simp; done) | omega)) ?_)
  refine JL.nil (JE.then_normal (J.seq (J.seq (J.region (JL.step (y_fieldAddr hT rfl rfl rfl rfl rfl rfl) rfl rfl rfl ?_)))))
  refine JL.step (y_load1 hT rfl rfl rfl (by (exact Rd1.row (by (repeat (first | exact Pick.head | apply Pick.tail | apply Pick.app))) (by rfl)))) rfl rfl rfl ?_
  refine JL.step (y_fieldAddr hT rfl rfl rfl rfl rfl rfl) rfl rfl rfl ?_
  refine JL.step (y_load1 hT rfl rfl rfl (by (exact Rd1.row (by (repeat (first | exact Pick.head | apply Pick.tail | apply Pick.app))) (by rfl)))) rfl rfl rfl ?_
  refine JL.step (y_fieldAddr hT rfl rfl rfl rfl rfl rfl) rfl rfl rfl ?_
  refine JL.step (y_load1 hT rfl rfl rfl (by (exact Rd1.row (by (repeat (first | exact Pick.head | apply Pick.tail | apply Pick.app))) (by rfl)))) rfl rfl rfl ?_
  refine JL.step (y_fieldAddr hT rfl rfl rfl rfl rfl rfl) rfl rfl rfl ?_
  refine JL.step (y_load1 hT rfl rfl rfl (by (exact Rd1.row (by (repeat (first | exact Pick.head | apply Pick.tail | apply Pick.app))) (by rfl)))) rfl rfl rfl ?_
  refine JL.step (y_buildArr hT rfl rfl rfl rfl rfl (by first | rfl | decide)) rfl rfl rfl ?_
  refine JL.step (y_move rfl) rfl rfl rfl ?_
  refine JL.nil (JE.then_normal (J.block ?_))
  refine J.loop (α := Nat) (fun j => j ≤ 4) (fun j => [(4, .func (.func 33) #[] [Value.pointer (some ⟨b1, 0, none⟩)].toArray), (3, .pointer (some ⟨b1, 0, none⟩)), (6, .pointer (some ⟨b2, 0, none⟩)), (10, .slice (some ⟨g, o, none⟩) n c), (11, .int .i64 n), (12, .int .i64 i), (24, .agg ([w.1, w.2.1, w.2.2.1, w.2.2.2.1].map (Value.int .i64)).toArray), (25, .int .i64 j)]) (fun j => bufM b1 (shapeB (ws.take i) ++ (([w.1, w.2.1, w.2.2.1, w.2.2.2.1].take j).flatMap fun z => numT z ++ [32])) :: row b2 38 (wiE w) :: l) (fun j => 4 - j) 0 (Nat.zero_le _) ⟨rfl, rfl, rfl, rfl, rfl, rfl, rfl, rfl, trivial⟩ (fun w h => by simpa using h.sup (by (repeat (first | exact Sup.refl | apply Sup.cons (by (repeat (first | exact Pick.head | apply Pick.tail | apply Pick.app))) | apply Sup.app | apply Sup.skip | apply Sup.skips)))) ?_
  intro j hj
  try dsimp only
  refine J.seq (J.region (JL.step (y_lss rfl rfl) rfl rfl rfl ?_))
  refine JL.nil (JE.then_normal (J.seq ?_))
  first | apply J.cond_dec rfl | apply J.cond rfl
  case' ht =>
   intro h
   try (first | (exfalso; omega) | (cases h; done) | (exfalso; simp at h; done) | subst h)
   all_goals
    refine J.skip ?_
  case' hf =>
   intro h
   try (first | (exfalso; omega) | (cases h; done) | (exfalso; simp at h; done) | subst h)
   all_goals
    refine J.exit (JE.then_exit (JE.then_exit (JE.block_exit (JE.then_normal ?_))))
    obtain rfl : j = 4 := by omega
    refine J.region (JL.step (y_move rfl) rfl rfl rfl (JL.step (y_fieldAddr hT rfl rfl rfl rfl rfl rfl) rfl rfl rfl ?_))
    refine JL.step (y_load1 hT rfl rfl rfl (by (exact Rd1.row (by (repeat (first | exact Pick.head | apply Pick.tail | apply Pick.app))) (by rfl)))) rfl rfl rfl ?_
    refine JL.loud rfl (l_callV e33 rfl rfl rfl (shape1_spec E b1 10 w.2.2.2.2 _ _ hwk.2.2.2.2 (by
     have := line_pre 4 hwk
     rw [List.length_append]
     omega) (by (repeat (first | assumption | apply T10.cons | apply T10.app)))) ?_)
    rintro _ _ ⟨rfl, rfl⟩
    refine JL.nil (JE.block_normal (JE.then_normal (J.region ?_)))
    refine JL.step (y_add rfl rfl (by (first | exact wrap_i64 (by omega) (by omega) | rfl))) rfl rfl rfl ?_
    refine JL.step (y_move rfl) rfl rfl rfl ?_
    refine JL.nil ?_
    exact JE.round (s := i) (i + 1) (by omega) ⟨rfl, rfl, rfl, rfl, rfl, trivial⟩ (fun w2 h => by
     have e : shapeB (ws.take i) ++ (([w.1, w.2.1, w.2.2.1, w.2.2.2.1].take 4).flatMap fun z => numT z ++ [32]) ++ (numT w.2.2.2.2 ++ [10]) = shapeB (ws.take (i + 1)) := by rw [hst]; simp [lineB]
     rw [e] at h
     exact h.sup (by (repeat (first | exact Sup.refl | apply Sup.cons (by (repeat (first | exact Pick.head | apply Pick.tail | apply Pick.app))) | apply Sup.app | apply Sup.skip | apply Sup.skips)))) (by omega)
  all_goals refine JE.then_normal ?_
  all_goals
   refine J.seq (J.block (J.seq (J.region ?_)))
   have hj4 : j < 4 := by omega
   obtain ⟨z, hz⟩ : ∃ z, [w.1, w.2.1, w.2.2.1, w.2.2.2.1][j]? = some z := ⟨[w.1, w.2.1, w.2.2.1, w.2.2.2.1][j]'(by simpa using hj4), List.getElem?_eq_getElem _⟩
   have hzr : R64 z := by
    have := List.mem_of_getElem? hz
    obtain ⟨h1, h2, h3, h4, h5⟩ := hwk
    simp at this
    rcases this with rfl | rfl | rfl | rfl <;> assumption
   refine JL.step (y_index1 (v := .int .i64 z) hT rfl rfl rfl rfl rfl rfl rfl (by omega) (by omega) (by rw [Int.toNat_natCast, List.getElem?_map, hz]; rfl)) rfl rfl rfl ?_
   refine JL.step (y_assign rfl) rfl rfl rfl ?_
   refine JL.nil (JE.then_normal (J.region (JL.step (y_move rfl) rfl rfl rfl (JL.step (y_move rfl) rfl rfl rfl ?_))))
   refine JL.loud rfl (l_callV e33 rfl rfl rfl (shape1_spec E b1 32 z _ _ hzr (by
    have := line_pre j hwk
    rw [List.length_append]
    omega) (by (repeat (first | assumption | apply T10.cons | apply T10.app)))) ?_)
   rintro _ _ ⟨rfl, rfl⟩
   refine JL.nil (JE.block_normal (JE.then_normal (J.region ?_)))
   refine JL.step (y_add rfl rfl (by (first | exact wrap_i64 (by omega) (by omega) | rfl))) rfl rfl rfl ?_
   refine JL.step (y_move rfl) rfl rfl rfl ?_
   refine JL.nil ?_
  all_goals
   exact JE.round (s := j) (j + 1) (by omega) ⟨rfl, rfl, rfl, rfl, rfl, rfl, rfl, rfl, trivial⟩ (fun w h => by
    rw [List.take_add_one, hz, Option.toList_some, List.flatMap_append, ← List.append_assoc]
    simpa using h) (by omega)
end
end
section
open Go Go.SL
section
attribute [local irreducible] J JL JE JM LS Y Fc RV Code.wp wpList Code.wpIn wpListIn
attribute [local irreducible] Yc
variable (E : World)
abbrev arF (g : Nat) (d : Array FlowT) (sp : List Value) : HProp := arr g 29 flE d sp
theorem y_ltF {env : Fr} {l : List HProp} {n : Nat} {ds : List Deferred} {dst : Option Tmp} {x y : Operand} {a b : FlowT} {t t' ty : TypeId} {pos : String} {af : Array Edge} {gd : Option (Nat × Bool)} (hx : val env x = some (.int .i64 (cmpF a b))) (hy : val env y = some (.int .i64 0)) : Y prog E n ds ⟨dst, .binOp .lss t x y t', ty, pos, af, gd⟩ env l (.bool (ltF a b)) := y_lss hx hy
attribute [local irreducible] ltF cmpF flE
theorem insF (g c n a b : Nat) (ia ib : Int) (d : Array FlowT) (sp : List Value) (r : List HProp) (ea : ia = a) (eb : ib = b) (hn : d.size = n) (ha : a ≤ n) (hb : b ≤ n) (h63 : n < 4611686018427387904) :
 Fc prog E 87 [.slice (some ⟨g, 0, none⟩) n c, .int .i64 ia, .int .i64 ib, (Value.func (.func 38) #[] [].toArray)].toArray (arF g d sp :: r) (fun v l' => v = .tuple #[] ∧ l' = arF g (Sort.insertionSort ltF d a b) sp :: r) := by
 refine Fc.eqs ?_
 subst ea eb
 refine Fc.of_body (c := ?codeC) Tryd.func87 ?hb Tryd.ntmps87 ?hl ?_
 case hb => exact rfl
 case hl => exact rfl
 refine J.seq (J.region (JL.step (y_move rfl) rfl rfl rfl ?_))
 refine JL.step (y_add rfl rfl (by (first | exact wrap_i64 (by omega) (by omega) | rfl))) rfl rfl rfl ?_
 refine JL.step (y_assign rfl) rfl rfl rfl ?_
 refine JL.nil (JE.then_normal (J.block ?_))
 refine J.loop (α := Nat × Array FlowT) (fun s => a + 1 ≤ s.1 ∧ s.2.size = n ∧ Sort.insOuter ltF a b s.1 s.2 = Sort.insertionSort ltF d a b) (fun s => [(0, .slice (some ⟨g, 0, none⟩) n c), (1, .int .i64 a), (2, .int .i64 b), (8, .int .i64 s.1), (3, (Value.func (.func 38) #[] [].toArray))]) (fun s => arF g s.2 sp :: r) (fun s => b - s.1) (a + 1, d) ⟨Nat.le_refl _, hn, rfl⟩ ⟨rfl, rfl, rfl, (congrArg (fun z => some (Value.int .i64 z)) (by first | omega | (dsimp only; omega))), rfl, trivial⟩ (fun w h => h) ?_
 rintro ⟨i, d1⟩ ⟨hi1, hs1, he1⟩
 try dsimp only at hi1 hs1 he1 ⊢
 refine J.seq (J.seq (J.region (JL.step (y_move rfl) rfl rfl rfl (JL.step (y_move rfl) rfl rfl rfl (JL.step (y_lss rfl rfl) rfl rfl rfl ?_)))))
 refine JL.nil (JE.then_normal ?_)
 first | apply J.cond_dec rfl | apply J.cond rfl
 case' ht =>
  intro h
  try (first | (exfalso; omega) | (cases h; done) | (exfalso; simp at h; done) | subst h)
  all_goals
   have hlt : i < b := by omega
   refine J.skip ?_
 case' hf =>
  intro h
  try (first | (exfalso; omega) | (cases h; done) | (exfalso; simp at h; done) | subst h)
  all_goals
   rw [insOuter_ge (by omega)] at he1
   refine J.exit (JE.then_exit (JE.then_exit (JE.block_exit ?_)))
   refine JE.ret0 (.inr rfl) rfl rfl  ?_
   exact ⟨rfl, fun w h => by rw [← he1]; exact h⟩
 all_goals refine JE.then_normal ?_
 all_goals
  refine J.seq (J.block (J.seq (J.region (JL.step (y_move rfl) rfl rfl rfl (JL.step (y_assign rfl) rfl rfl rfl ?_)))))
  refine JL.nil (JE.then_normal (J.block ?_))
  refine J.loop (α := Nat × Array FlowT) (fun s => a ≤ s.1 ∧ s.1 ≤ i ∧ s.2.size = n ∧ Sort.insInner ltF a s.1 s.2 = Sort.insInner ltF a i d1) (fun s => [(0, .slice (some ⟨g, 0, none⟩) n c), (1, .int .i64 a), (2, .int .i64 b), (8, .int .i64 i), (9, .int .i64 s.1), (3, (Value.func (.func 38) #[] [].toArray))]) (fun s => arF g s.2 sp :: r) (fun s => s.1) (i, d1) ⟨by dsimp only; omega, Nat.le_refl _, hs1, rfl⟩ ⟨rfl, rfl, rfl, rfl, rfl, rfl, trivial⟩ (fun w h => h) ?_
  rintro ⟨j, d2⟩ ⟨hj1, hj2, hs2, he2⟩
  try dsimp only at hj1 hj2 hs2 he2 ⊢
  refine J.seq (J.seq ?_)
  by_cases hg : a < j
  all_goals
   refine J.draw _ _ [(0, .q), (1, .q), (2, .q), (3, .q), (4, .q), (5, .q), (6, .q), (7, .q), (8, .q), (9, .q), (10, .q), (11, .q), (12, .q), (13, .q), (14, .q), (15, .q), (16, .q)] mixed (by kernel_rfl) (Split.nil) ?_
   refine JM.quiet rfl rfl rfl rfl (fun m => y_move rfl) (JM.quiet rfl rfl rfl rfl (fun m => y_move rfl) ?_)
   first | refine JM.quiet rfl rfl rfl rfl (fun m => y_gtrB rfl rfl (decide_eq_true (by omega))) ?_ | refine JM.quiet rfl rfl rfl rfl (fun m => y_gtrB rfl rfl (decide_eq_false (by omega))) ?_
   refine JM.quiet rfl rfl rfl rfl (fun m => y_move rfl) ?_
   all_goals (first | refine JM.gskip rfl rfl rfl rfl rfl rfl rfl ?_ | refine JM.gskipU rfl rfl rfl rfl rfl rfl ?_ | refine JM.gquiet rfl rfl rfl rfl rfl rfl (fun m => y_move rfl) ?_)
   all_goals (first | refine JM.gskip rfl rfl rfl rfl rfl rfl rfl ?_ | refine JM.gskipU rfl rfl rfl rfl rfl rfl ?_ | refine JM.gquiet rfl rfl rfl rfl rfl rfl (fun m => y_move rfl) ?_)
   all_goals (first | refine JM.gskip rfl rfl rfl rfl rfl rfl rfl ?_ | refine JM.gskipU rfl rfl rfl rfl rfl rfl ?_ | refine JM.gquiet rfl rfl rfl rfl rfl rfl (fun m => y_move rfl) ?_)
   all_goals (first | refine JM.gskip rfl rfl rfl rfl rfl rfl rfl ?_ | refine JM.gskipU rfl rfl rfl rfl rfl rfl ?_ | refine JM.gquiet rfl rfl rfl rfl rfl rfl (fun m => y_indexAddr_slice hT rfl rfl rfl rfl rfl (by (first | omega | exact Nat.le_of_ble_eq_true rfl | decide | (simp; omega))) (by (first | omega | exact Nat.le_of_ble_eq_true rfl | decide | (simp; omega)))) ?_)
   all_goals (first | refine JM.gskip rfl rfl rfl rfl rfl rfl rfl ?_ | refine JM.gskipU rfl rfl rfl rfl rfl rfl ?_ | refine JM.gquiet rfl rfl rfl rfl rfl rfl (fun m => y_loadN hT rfl rfl rfl (RdN.arr (i := (j)) (Pick.app m (by (repeat (first | exact Pick.head | apply Pick.tail | apply Pick.app)))) hkE (by (first | assumption | omega | (simp only [Array.size_setIfInBounds]; omega))) (by exact arr_off rfl (by omega))) (by (first | rfl | assumption | exact hkE _ | simp))) ?_)
   all_goals (first | refine JM.gskip rfl rfl rfl rfl rfl rfl rfl ?_ | refine JM.gskipU rfl rfl rfl rfl rfl rfl ?_ | refine JM.gquiet rfl rfl rfl rfl rfl rfl (fun m => y_move rfl) ?_)
   all_goals (first | refine JM.gskip rfl rfl rfl rfl rfl rfl rfl ?_ | refine JM.gskipU rfl rfl rfl rfl rfl rfl ?_ | refine JM.gquiet rfl rfl rfl rfl rfl rfl (fun m => y_move rfl) ?_)
   all_goals (first | refine JM.gskip rfl rfl rfl rfl rfl rfl rfl ?_ | refine JM.gskipU rfl rfl rfl rfl rfl rfl ?_ | refine JM.gquiet rfl rfl rfl rfl rfl rfl (fun m => y_sub rfl rfl (by (first | exact wrap_i64 (by omega) (by omega) | rfl))) ?_)
   all_goals (first | refine JM.gskip rfl rfl rfl rfl rfl rfl rfl ?_ | refine JM.gskipU rfl rfl rfl rfl rfl rfl ?_ | refine JM.gquiet rfl rfl rfl rfl rfl rfl (fun m => y_indexAddr_slice hT rfl rfl rfl rfl rfl (by (first | omega | exact Nat.le_of_ble_eq_true rfl | decide | (simp; omega))) (by (first | omega | exact Nat.le_of_ble_eq_true rfl | decide | (simp; omega)))) ?_)
   all_goals (first | refine JM.gskip rfl rfl rfl rfl rfl rfl rfl ?_ | refine JM.gskipU rfl rfl rfl rfl rfl rfl ?_ | refine JM.gquiet rfl rfl rfl rfl rfl rfl (fun m => y_loadN hT rfl rfl rfl (RdN.arr (i := (j - 1)) (Pick.app m (by (repeat (first | exact Pick.head | apply Pick.tail | apply Pick.app)))) hkE (by (first | assumption | omega | (simp only [Array.size_setIfInBounds]; omega))) (by exact arr_off rfl (by omega))) (by (first | rfl | assumption | exact hkE _ | simp))) ?_)
   all_goals (first | refine JM.gskip rfl rfl rfl rfl rfl rfl rfl ?_ | refine JM.gskipU rfl rfl rfl rfl rfl rfl ?_ | refine JM.gquiet rfl rfl rfl rfl rfl rfl (fun m => y_callV e38 rfl rfl (flowCmp E _ _ _)) ?_)
   all_goals (first | refine JM.gskip rfl rfl rfl rfl rfl rfl rfl ?_ | refine JM.gskipU rfl rfl rfl rfl rfl rfl ?_ | refine JM.gquiet rfl rfl rfl rfl rfl rfl (fun m => y_ltF E rfl rfl) ?_)
   all_goals refine JM.quiet rfl rfl rfl rfl (fun m => y_pick rfl rfl rfl) ?_
   all_goals refine JM.nil ?_
  all_goals refine JE.then_normal ?_
  all_goals
   first | apply J.cond_dec rfl | apply J.cond rfl
   case' ht =>
    intro h
    try (first | (exfalso; omega) | (cases h; done) | (exfalso; simp at h; done) | subst h)
    all_goals
     rw [insInner_go hg h] at he2
     refine J.skip ?_
   case' hf =>
    intro h
    try (first | (exfalso; omega) | (cases h; done) | (exfalso; simp at h; done) | subst h)
    all_goals
     rw [insInner_stop (by first | exact .inl (by omega) | exact .inr h)] at he2
     refine J.exit (JE.then_exit (JE.then_exit (JE.block_exit (JE.block_normal (JE.then_normal (J.region (JL.step (y_move rfl) rfl rfl rfl ?_)))))))
     refine JL.step (y_add rfl rfl (by (first | exact wrap_i64 (by omega) (by omega) | rfl))) rfl rfl rfl ?_
     refine JL.step (y_assign rfl) rfl rfl rfl ?_
     refine JL.nil ?_
     exact JE.round (s := (i, d1)) (i + 1, Sort.insInner ltF a i d1) ⟨by dsimp only; omega, by dsimp only; rw [← he2]; exact hs2, by dsimp only; rw [← insOuter_lt hlt]; exact he1⟩ ⟨rfl, rfl, rfl, (congrArg (fun z => some (Value.int .i64 z)) (by first | omega | (dsimp only; omega))), rfl, trivial⟩ (fun w h => by rw [← he2]; exact h) (by dsimp only; omega)
  all_goals refine JE.then_normal ?_
  all_goals
   refine J.seq (J.block ?_)
   refine J.draw _ _ [(0, .q), (1, .q), (2, .q), (3, .q), (4, .q), (5, .q), (6, .q), (7, .q), (8, .q), (10, .q), (11, .q), (12, .q), (9, .e), (13, .e), (14, .q), (15, .l), (16, .q), (17, .l)] mixed (by kernel_rfl) (Split.cons (Pick.head) (Split.nil)) ?_
   refine JM.quiet rfl rfl rfl rfl (fun m => y_move rfl) (JM.quiet rfl rfl rfl rfl (fun m => y_move rfl) (JM.quiet rfl rfl rfl rfl (fun m => y_move rfl) (JM.quiet rfl rfl rfl rfl (fun m => y_move rfl) ?_)))
   refine JM.quiet rfl rfl rfl rfl (fun m => y_sub rfl rfl (by (first | exact wrap_i64 (by omega) (by omega) | rfl))) ?_
   refine JM.quiet rfl rfl rfl rfl (fun m => y_move rfl) (JM.quiet rfl rfl rfl rfl (fun m => y_move rfl) ?_)
   refine JM.quiet rfl rfl rfl rfl (fun m => y_sub rfl rfl (by (first | exact wrap_i64 (by omega) (by omega) | rfl))) ?_
   refine JM.quiet rfl rfl rfl rfl (fun m => y_indexAddr_slice hT rfl rfl rfl rfl rfl (by (first | omega | exact Nat.le_of_ble_eq_true rfl | decide | (simp; omega))) (by (first | omega | exact Nat.le_of_ble_eq_true rfl | decide | (simp; omega)))) ?_
   refine JM.quiet rfl rfl rfl rfl (fun m => y_move rfl) (JM.quiet rfl rfl rfl rfl (fun m => y_move rfl) ?_)
   refine JM.quiet rfl rfl rfl rfl (fun m => y_indexAddr_slice hT rfl rfl rfl rfl rfl (by (first | omega | exact Nat.le_of_ble_eq_true rfl | decide | (simp; omega))) (by (first | omega | exact Nat.le_of_ble_eq_true rfl | decide | (simp; omega)))) ?_
   refine JM.early rfl rfl rfl rfl (fun fr => y_loadN hT rfl rfl rfl (RdN.arr (i := (j - 1)) (by (repeat (first | exact Pick.head | apply Pick.tail | apply Pick.app))) hkE (by (first | assumption | omega | (simp only [Array.size_setIfInBounds]; omega))) (by exact arr_off rfl (by omega))) (by (first | rfl | assumption | exact hkE _ | simp))) ?_
   refine JM.early rfl rfl rfl rfl (fun fr => y_loadN hT rfl rfl rfl (RdN.arr (i := (j)) (by (repeat (first | exact Pick.head | apply Pick.tail | apply Pick.app))) hkE (by (first | assumption | omega | (simp only [Array.size_setIfInBounds]; omega))) (by exact arr_off rfl (by omega))) (by (first | rfl | assumption | exact hkE _ | simp))) ?_
   refine JM.quiet rfl rfl rfl rfl (fun m => y_indexAddr_slice hT rfl rfl rfl rfl rfl (by (first | omega | exact Nat.le_of_ble_eq_true rfl | decide | (simp; omega))) (by (first | omega | exact Nat.le_of_ble_eq_true rfl | decide | (simp; omega)))) ?_
   refine JM.loud rfl rfl (fun fr => l_storeArrN (j := (j)) hT rfl rfl rfl hkE rfl hoE (by (repeat (first | exact Pick.head | apply Pick.tail | apply Pick.app))) (by (first | assumption | omega | (simp only [Array.size_setIfInBounds]; omega))) (by exact arr_off rfl (by omega)) (⟨[_], (by (repeat (first | exact Split.nil | exact Split.all | refine Split.cons Pick.head ?_))), ?_⟩))
   refine JM.quiet rfl rfl rfl rfl (fun m => y_indexAddr_slice hT rfl rfl rfl rfl rfl (by (first | omega | exact Nat.le_of_ble_eq_true rfl | decide | (simp; omega))) (by (first | omega | exact Nat.le_of_ble_eq_true rfl | decide | (simp; omega)))) ?_
   refine JM.loud rfl rfl (fun fr => l_storeArrN (j := (j - 1)) hT rfl rfl rfl hkE rfl hoE (by (repeat (first | exact Pick.head | apply Pick.tail | apply Pick.app))) (by (first | assumption | omega | (simp only [Array.size_setIfInBounds]; omega))) (by exact arr_off rfl (by omega)) (⟨[_], (by (repeat (first | exact Split.nil | exact Split.all | refine Split.cons Pick.head ?_))), ?_⟩))
   refine JM.nil (JE.block_normal (JE.then_normal (J.region (JL.step (y_move rfl) rfl rfl rfl ?_))))
   refine JL.step (y_sub rfl rfl (by (first | exact wrap_i64 (by omega) (by omega) | rfl))) rfl rfl rfl ?_
   refine JL.step (y_assign rfl) rfl rfl rfl ?_
   refine JL.nil ?_
  all_goals
   exact JE.round (s := (j, d2)) (j - 1, Sort.swp d2 j (j - 1)) ⟨by dsimp only; omega, by dsimp only; omega, by dsimp only; rw [swp_size]; exact hs2, he2⟩ ⟨rfl, rfl, rfl, rfl, (congrArg (fun z => some (Value.int .i64 z)) (by first | omega | (dsimp only; omega))), rfl, trivial⟩ (fun w h => h) (by dsimp only; omega)
end
end
section
open Go Go.SL
section
attribute [local irreducible] J JL JE JM LS Y Fc RV Code.wp wpList Code.wpIn wpListIn
attribute [local irreducible] Yc
attribute [local irreducible] ltF cmpF flE
variable (E : World)
theorem revF (g c n a b : Nat) (ia ib : Int) (d : Array FlowT) (sp : List Value) (r : List HProp) (ea : ia = a) (eb : ib = b) (hn : d.size = n) (hab : a < b) (hb : b ≤ n) (h63 : n < 4611686018427387904) :
 Fc prog E 91 [.slice (some ⟨g, 0, none⟩) n c, .int .i64 ia, .int .i64 ib, (Value.func (.func 38) #[] [].toArray)].toArray (arF g d sp :: r) (fun v l' => v = .tuple #[] ∧ l' = arF g (Sort.reverseRange d a b) sp :: r) := by
 refine Fc.eqs ?_
 subst ea eb
 refine Fc.of_body (c := ?codeC) Tryd.func91 ?hb Tryd.ntmps91 ?hl ?_
 case hb => exact rfl
 case hl => exact rfl
 refine J.seq (J.region (JL.step (y_move rfl) rfl rfl rfl (JL.step (y_assign rfl) rfl rfl rfl ?_)))
 refine JL.nil (JE.then_normal (J.seq (J.region (JL.step (y_move rfl) rfl rfl rfl ?_))))
 refine JL.step (y_sub rfl rfl (by (first | exact wrap_i64 (by omega) (by omega) | rfl))) rfl rfl rfl ?_
 refine JL.step (y_assign rfl) rfl rfl rfl ?_
 refine JL.nil (JE.then_normal (J.block ?_))
 refine J.loop (α := Nat × Nat × Array FlowT) (fun s => s.1 ≤ b ∧ s.2.1 < b ∧ s.2.2.size = n ∧ Sort.reverseLoop s.1 s.2.1 s.2.2 = Sort.reverseRange d a b) (fun s => [(0, .slice (some ⟨g, 0, none⟩) n c), (8, .int .i64 s.1), (9, .int .i64 s.2.1), (3, (Value.func (.func 38) #[] [].toArray))]) (fun s => arF g s.2.2 sp :: r) (fun s => s.2.1 - s.1) (a, b - 1, d) ⟨by dsimp only; omega, by dsimp only; omega, hn, rfl⟩ ⟨rfl, rfl, (congrArg (fun z => some (Value.int .i64 z)) (by first | omega | (dsimp only; omega))), rfl, trivial⟩ (fun w h => h) ?_
 rintro ⟨i, j, d1⟩ ⟨hi1, hj1, hs1, he1⟩
 try dsimp only at hi1 hj1 hs1 he1 ⊢
 refine J.seq (J.seq (J.region (JL.step (y_move rfl) rfl rfl rfl (JL.step (y_move rfl) rfl rfl rfl (JL.step (y_lss rfl rfl) rfl rfl rfl ?_)))))
 refine JL.nil (JE.then_normal ?_)
 first | apply J.cond_dec rfl | apply J.cond rfl
 case' ht =>
  intro h
  try (first | (exfalso; omega) | (cases h; done) | (exfalso; simp at h; done) | subst h)
  all_goals
   rw [reverseLoop_lt (by omega)] at he1
   refine J.skip ?_
 case' hf =>
  intro h
  try (first | (exfalso; omega) | (cases h; done) | (exfalso; simp at h; done) | subst h)
  all_goals
   rw [reverseLoop_ge (by omega)] at he1
   refine J.exit (JE.then_exit (JE.then_exit (JE.block_exit ?_)))
   refine JE.ret0 (.inr rfl) rfl rfl  ?_
   exact ⟨rfl, fun w h => by rw [← he1]; exact h⟩
 all_goals refine JE.then_normal ?_
 all_goals
  refine J.block (J.seq ?_)
  refine J.draw _ _ [(0, .q), (1, .q), (2, .q), (3, .q), (4, .q), (5, .q), (6, .q), (8, .q), (9, .q), (10, .q), (7, .e), (11, .e), (12, .q), (13, .l), (14, .q), (15, .l)] mixed (by kernel_rfl) (Split.cons (Pick.head) (Split.nil)) ?_
  refine JM.quiet rfl rfl rfl rfl (fun m => y_move rfl) (JM.quiet rfl rfl rfl rfl (fun m => y_move rfl) (JM.quiet rfl rfl rfl rfl (fun m => y_move rfl) (JM.quiet rfl rfl rfl rfl (fun m => y_move rfl) (JM.quiet rfl rfl rfl rfl (fun m => y_move rfl) (JM.quiet rfl rfl rfl rfl (fun m => y_move rfl) ?_)))))
  refine JM.quiet rfl rfl rfl rfl (fun m => y_indexAddr_slice hT rfl rfl rfl rfl rfl (by (first | omega | exact Nat.le_of_ble_eq_true rfl | decide | (simp; omega))) (by (first | omega | exact Nat.le_of_ble_eq_true rfl | decide | (simp; omega)))) ?_
  refine JM.quiet rfl rfl rfl rfl (fun m => y_move rfl) (JM.quiet rfl rfl rfl rfl (fun m => y_move rfl) ?_)
  refine JM.quiet rfl rfl rfl rfl (fun m => y_indexAddr_slice hT rfl rfl rfl rfl rfl (by (first | omega | exact Nat.le_of_ble_eq_true rfl | decide | (simp; omega))) (by (first | omega | exact Nat.le_of_ble_eq_true rfl | decide | (simp; omega)))) ?_
  refine JM.early rfl rfl rfl rfl (fun fr => y_loadN hT rfl rfl rfl (RdN.arr (i := (j)) (by (repeat (first | exact Pick.head | apply Pick.tail | apply Pick.app))) hkE (by (first | assumption | omega | (simp only [Array.size_setIfInBounds]; omega))) (by exact arr_off rfl (by omega))) (by (first | rfl | assumption | exact hkE _ | simp))) ?_
  refine JM.early rfl rfl rfl rfl (fun fr => y_loadN hT rfl rfl rfl (RdN.arr (i := (i)) (by (repeat (first | exact Pick.head | apply Pick.tail | apply Pick.app))) hkE (by (first | assumption | omega | (simp only [Array.size_setIfInBounds]; omega))) (by exact arr_off rfl (by omega))) (by (first | rfl | assumption | exact hkE _ | simp))) ?_
  refine JM.quiet rfl rfl rfl rfl (fun m => y_indexAddr_slice hT rfl rfl rfl rfl rfl (by (first | omega | exact Nat.le_of_ble_eq_true rfl | decide | (simp; omega))) (by (first | omega | exact Nat.le_of_ble_eq_true rfl | decide | (simp; omega)))) ?_
  refine JM.loud rfl rfl (fun fr => l_storeArrN (j := (i)) hT rfl rfl rfl hkE rfl hoE (by (repeat (first | exact Pick.head | apply Pick.tail | apply Pick.app))) (by (first | assumption | omega | (simp only [Array.size_setIfInBounds]; omega))) (by exact arr_off rfl (by omega)) (⟨[_], (by (repeat (first | exact Split.nil | exact Split.all | refine Split.cons Pick.head ?_))), ?_⟩))
  refine JM.quiet rfl rfl rfl rfl (fun m => y_indexAddr_slice hT rfl rfl rfl rfl rfl (by (first | omega | exact Nat.le_of_ble_eq_true rfl | decide | (simp; omega))) (by (first | omega | exact Nat.le_of_ble_eq_true rfl | decide | (simp; omega)))) ?_
  refine JM.loud rfl rfl (fun fr => l_storeArrN (j := (j)) hT rfl rfl rfl hkE rfl hoE (by (repeat (first | exact Pick.head | apply Pick.tail | apply Pick.app))) (by (first | assumption | omega | (simp only [Array.size_setIfInBounds]; omega))) (by exact arr_off rfl (by omega)) (⟨[_], (by (repeat (first | exact Split.nil | exact Split.all | refine Split.cons Pick.head ?_))), ?_⟩))
  refine JM.nil (JE.then_normal (J.seq (J.region (JL.step (y_move rfl) rfl rfl rfl ?_))))
  refine JL.step (y_add rfl rfl (by (first | exact wrap_i64 (by omega) (by omega) | rfl))) rfl rfl rfl ?_
  refine JL.step (y_assign rfl) rfl rfl rfl ?_
  refine JL.nil (JE.then_normal (J.region (JL.step (y_move rfl) rfl rfl rfl ?_)))
  refine JL.step (y_sub rfl rfl (by (first | exact wrap_i64 (by omega) (by omega) | rfl))) rfl rfl rfl ?_
  refine JL.step (y_assign rfl) rfl rfl rfl ?_
  refine JL.nil (JE.block_normal ?_)
 all_goals
  exact JE.round (s := (i, j, d1)) (i + 1, j - 1, Sort.swp d1 i j) ⟨by dsimp only; omega, by dsimp only; omega, by dsimp only; rw [swp_size]; exact hs1, he1⟩ ⟨rfl, (congrArg (fun z => some (Value.int .i64 z)) (by first | omega | (dsimp only; omega))), (congrArg (fun z => some (Value.int .i64 z)) (by first | omega | (dsimp only; omega))), rfl, trivial⟩ (fun w h => h) (by dsimp only; omega)
theorem siftF (g c n root hi first : Nat) (ir ih jf : Int) (d : Array FlowT) (sp : List Value) (r : List HProp) (er : ir = root) (eh : ih = hi) (ef : jf = first) (hn : d.size = n) (hr : root ≤ n) (hf : first + hi ≤ n) (h63 : n < 4611686018427387904) :
 Fc prog E 121 [.slice (some ⟨g, 0, none⟩) n c, .int .i64 ir, .int .i64 ih, .int .i64 jf, (Value.func (.func 38) #[] [].toArray)].toArray (arF g d sp :: r) (fun v l' => v = .tuple #[] ∧ l' = arF g (Sort.siftDown ltF hi first root d) sp :: r) := by
 refine Fc.eqs ?_
 subst er eh ef
 refine Fc.of_body (c := ?codeC) Tryd.func121 ?hb Tryd.ntmps121 ?hl ?_
 case hb => exact rfl
 case hl => exact rfl
 refine J.seq (J.region (JL.step (y_move rfl) rfl rfl rfl (JL.step (y_assign rfl) rfl rfl rfl ?_)))
 refine JL.nil (JE.then_normal (J.block ?_))
 refine J.loop (α := Nat × Array FlowT) (fun s => s.1 ≤ n ∧ s.2.size = n ∧ Sort.siftDown ltF hi first s.1 s.2 = Sort.siftDown ltF hi first root d) (fun s => [(0, .slice (some ⟨g, 0, none⟩) n c), (2, .int .i64 hi), (3, .int .i64 first), (10, .int .i64 s.1), (4, (Value.func (.func 38) #[] [].toArray))]) (fun s => arF g s.2 sp :: r) (fun s => hi - s.1) (root, d) ⟨hr, hn, rfl⟩ ⟨rfl, rfl, rfl, rfl, rfl, trivial⟩ (fun w h => h) ?_
 rintro ⟨rt, d1⟩ ⟨hi1, hs1, he1⟩
 try dsimp only at hi1 hs1 he1 ⊢
 refine J.block (J.seq (J.region (JL.step (y_move rfl) rfl rfl rfl ?_)))
 refine JL.step (y_mul rfl rfl (by (first | exact wrap_i64 (by omega) (by omega) | rfl))) rfl rfl rfl ?_
 refine JL.step (y_add rfl rfl (by (first | exact wrap_i64 (by omega) (by omega) | rfl))) rfl rfl rfl ?_
 refine JL.step (y_assign rfl) rfl rfl rfl ?_
 refine JL.nil (JE.then_normal (J.seq (J.seq (J.region (JL.step (y_move rfl) rfl rfl rfl (JL.step (y_move rfl) rfl rfl rfl (JL.step (y_geq rfl rfl) rfl rfl rfl ?_)))))))
 refine JL.nil (JE.then_normal ?_)
 first | apply J.cond_dec rfl | apply J.cond rfl
 case' ht =>
  intro h
  try (first | (exfalso; omega) | (cases h; done) | (exfalso; simp at h; done) | subst h)
  all_goals
   rw [siftDown_stop (by omega)] at he1
   refine J.exit (JE.then_exit ?_)
   refine JE.block_past rfl ?_
   refine JE.then_exit (JE.block_exit ?_)
   refine JE.ret0 (.inr rfl) rfl rfl  ?_
   exact ⟨rfl, fun w h => by rw [← he1]; exact h⟩
 case' hf =>
  intro h
  try (first | (exfalso; omega) | (cases h; done) | (exfalso; simp at h; done) | subst h)
  all_goals
   rw [siftDown_eq (by omega)] at he1
   refine J.skip ?_
 all_goals refine JE.then_normal ?_
 all_goals
  refine J.seqK (α := Nat) (fun cc => sdChild ltF hi first rt d1 = cc ∧ cc < hi ∧ rt < cc) (fun cc => [(0, .slice (some ⟨g, 0, none⟩) n c), (2, .int .i64 hi), (3, .int .i64 first), (10, .int .i64 rt), (11, .int .i64 cc), (4, (Value.func (.func 38) #[] [].toArray))]) (fun cc => arF g d1 sp :: r) ?hj5 (fun hk5 => ?hf5)
  case hf5 =>
   refine J.seq ?_
   by_cases hg : 2 * rt + 1 + 1 < hi
   all_goals
    refine J.draw _ _ [(0, .q), (1, .q), (2, .q), (3, .q), (4, .q), (5, .q), (6, .q), (7, .q), (8, .q), (9, .q), (10, .q), (11, .q), (12, .q), (13, .q), (14, .q), (15, .q), (16, .q), (17, .q), (18, .q), (19, .q), (20, .q), (21, .q)] mixed (by kernel_rfl) (Split.nil) ?_
    refine JM.quiet rfl rfl rfl rfl (fun m => y_move rfl) ?_
    refine JM.quiet rfl rfl rfl rfl (fun m => y_add rfl rfl (by (first | exact wrap_i64 (by omega) (by omega) | rfl))) ?_
    refine JM.quiet rfl rfl rfl rfl (fun m => y_move rfl) ?_
    first | refine JM.quiet rfl rfl rfl rfl (fun m => y_lssB rfl rfl (decide_eq_true (by omega))) ?_ | refine JM.quiet rfl rfl rfl rfl (fun m => y_lssB rfl rfl (decide_eq_false (by omega))) ?_
    refine JM.quiet rfl rfl rfl rfl (fun m => y_move rfl) ?_
    all_goals (first | refine JM.gskip rfl rfl rfl rfl rfl rfl rfl ?_ | refine JM.gskipU rfl rfl rfl rfl rfl rfl ?_ | refine JM.gquiet rfl rfl rfl rfl rfl rfl (fun m => y_move rfl) ?_)
    all_goals (first | refine JM.gskip rfl rfl rfl rfl rfl rfl rfl ?_ | refine JM.gskipU rfl rfl rfl rfl rfl rfl ?_ | refine JM.gquiet rfl rfl rfl rfl rfl rfl (fun m => y_move rfl) ?_)
    all_goals (first | refine JM.gskip rfl rfl rfl rfl rfl rfl rfl ?_ | refine JM.gskipU rfl rfl rfl rfl rfl rfl ?_ | refine JM.gquiet rfl rfl rfl rfl rfl rfl (fun m => y_move rfl) ?_)
    all_goals (first | refine JM.gskip rfl rfl rfl rfl rfl rfl rfl ?_ | refine JM.gskipU rfl rfl rfl rfl rfl rfl ?_ | refine JM.gquiet rfl rfl rfl rfl rfl rfl (fun m => y_move rfl) ?_)
    all_goals (first | refine JM.gskip rfl rfl rfl rfl rfl rfl rfl ?_ | refine JM.gskipU rfl rfl rfl rfl rfl rfl ?_ | refine JM.gquiet rfl rfl rfl rfl rfl rfl (fun m => y_add rfl rfl (by (first | exact wrap_i64 (by omega) (by omega) | rfl))) ?_)
    all_goals (first | refine JM.gskip rfl rfl rfl rfl rfl rfl rfl ?_ | refine JM.gskipU rfl rfl rfl rfl rfl rfl ?_ | refine JM.gquiet rfl rfl rfl rfl rfl rfl (fun m => y_indexAddr_slice hT rfl rfl rfl rfl rfl (by (first | omega | exact Nat.le_of_ble_eq_true rfl | decide | (simp; omega))) (by (first | omega | exact Nat.le_of_ble_eq_true rfl | decide | (simp; omega)))) ?_)
    all_goals (first | refine JM.gskip rfl rfl rfl rfl rfl rfl rfl ?_ | refine JM.gskipU rfl rfl rfl rfl rfl rfl ?_ | refine JM.gquiet rfl rfl rfl rfl rfl rfl (fun m => y_loadN hT rfl rfl rfl (RdN.arr (i := (first + (2 * rt + 1))) (Pick.app m (by (repeat (first | exact Pick.head | apply Pick.tail | apply Pick.app)))) hkE (by (first | assumption | omega | (simp only [Array.size_setIfInBounds]; omega))) (by exact arr_off rfl (by omega))) (by (first | rfl | assumption | exact hkE _ | simp))) ?_)
    all_goals (first | refine JM.gskip rfl rfl rfl rfl rfl rfl rfl ?_ | refine JM.gskipU rfl rfl rfl rfl rfl rfl ?_ | refine JM.gquiet rfl rfl rfl rfl rfl rfl (fun m => y_move rfl) ?_)
    all_goals (first | refine JM.gskip rfl rfl rfl rfl rfl rfl rfl ?_ | refine JM.gskipU rfl rfl rfl rfl rfl rfl ?_ | refine JM.gquiet rfl rfl rfl rfl rfl rfl (fun m => y_move rfl) ?_)
    all_goals (first | refine JM.gskip rfl rfl rfl rfl rfl rfl rfl ?_ | refine JM.gskipU rfl rfl rfl rfl rfl rfl ?_ | refine JM.gquiet rfl rfl rfl rfl rfl rfl (fun m => y_move rfl) ?_)
    all_goals (first | refine JM.gskip rfl rfl rfl rfl rfl rfl rfl ?_ | refine JM.gskipU rfl rfl rfl rfl rfl rfl ?_ | refine JM.gquiet rfl rfl rfl rfl rfl rfl (fun m => y_add rfl rfl (by (first | exact wrap_i64 (by omega) (by omega) | rfl))) ?_)
    all_goals (first | refine JM.gskip rfl rfl rfl rfl rfl rfl rfl ?_ | refine JM.gskipU rfl rfl rfl rfl rfl rfl ?_ | refine JM.gquiet rfl rfl rfl rfl rfl rfl (fun m => y_add rfl rfl (by (first | exact wrap_i64 (by omega) (by omega) | rfl))) ?_)
    all_goals (first | refine JM.gskip rfl rfl rfl rfl rfl rfl rfl ?_ | refine JM.gskipU rfl rfl rfl rfl rfl rfl ?_ | refine JM.gquiet rfl rfl rfl rfl rfl rfl (fun m => y_indexAddr_slice hT rfl rfl rfl rfl rfl (by (first | omega | exact Nat.le_of_ble_eq_true rfl | decide | (simp; omega))) (by (first | omega | exact Nat.le_of_ble_eq_true rfl | decide | (simp; omega)))) ?_)
    all_goals (first | refine JM.gskip rfl rfl rfl rfl rfl rfl rfl ?_ | refine JM.gskipU rfl rfl rfl rfl rfl rfl ?_ | refine JM.gquiet rfl rfl rfl rfl rfl rfl (fun m => y_loadN hT rfl rfl rfl (RdN.arr (i := (first + (2 * rt + 1) + 1)) (Pick.app m (by (repeat (first | exact Pick.head | apply Pick.tail | apply Pick.app)))) hkE (by (first | assumption | omega | (simp only [Array.size_setIfInBounds]; omega))) (by exact arr_off rfl (by omega))) (by (first | rfl | assumption | exact hkE _ | simp))) ?_)
    all_goals (first | refine JM.gskip rfl rfl rfl rfl rfl rfl rfl ?_ | refine JM.gskipU rfl rfl rfl rfl rfl rfl ?_ | refine JM.gquiet rfl rfl rfl rfl rfl rfl (fun m => y_callV e38 rfl rfl (flowCmp E _ _ _)) ?_)
    all_goals (first | refine JM.gskip rfl rfl rfl rfl rfl rfl rfl ?_ | refine JM.gskipU rfl rfl rfl rfl rfl rfl ?_ | refine JM.gquiet rfl rfl rfl rfl rfl rfl (fun m => y_ltF E rfl rfl) ?_)
    all_goals refine JM.quiet rfl rfl rfl rfl (fun m => y_pick rfl rfl rfl) ?_
    all_goals refine JM.nil ?_
   all_goals refine JE.then_normal ?_
   all_goals
    first | apply J.cond_dec rfl | apply J.cond rfl
    case' ht =>
     intro h
     try (first | (exfalso; omega) | (cases h; done) | (exfalso; simp at h; done) | subst h)
     all_goals
      refine J.region (JL.step (y_move rfl) rfl rfl rfl ?_)
      refine JL.step (y_add rfl rfl (by (first | exact wrap_i64 (by omega) (by omega) | rfl))) rfl rfl rfl ?_
      refine JL.step (y_assign rfl) rfl rfl rfl ?_
      refine JL.nil ?_
    case' hf =>
     intro h
     try (first | (exfalso; omega) | (cases h; done) | (exfalso; simp at h; done) | subst h)
     all_goals
      refine J.skip ?_
   all_goals refine JE.then_normal ?_
   all_goals
    first | exact J.closeK hk5 (2 * rt + 2) ⟨if_pos ⟨hg, h⟩, by omega, by omega⟩ ⟨rfl, rfl, rfl, rfl, (congrArg (fun z => some (Value.int .i64 z)) (by first | omega | (dsimp only; omega))), rfl, trivial⟩ (fun w h => h) | exact J.closeK hk5 (2 * rt + 1) ⟨if_neg (by first | exact fun q => absurd q.1 hg | (rw [h]; exact fun q => absurd q.2 (by decide))), by omega, by omega⟩ ⟨rfl, rfl, rfl, rfl, (congrArg (fun z => some (Value.int .i64 z)) (by first | omega | (dsimp only; omega))), rfl, trivial⟩ (fun w h => h)
  rintro cc ⟨hc1, hc2, hc3⟩
  rw [hc1] at he1
  refine J.seq (J.seq ?_)
  refine J.draw _ _ [(0, .q), (1, .q), (2, .q), (3, .q), (4, .q), (5, .q), (6, .q), (7, .q), (8, .q), (9, .q), (10, .q), (11, .q), (12, .q), (13, .q), (14, .q), (15, .q)] mixed (by kernel_rfl) (Split.nil) ?_
  refine JM.quiet rfl rfl rfl rfl (fun m => y_move rfl) (JM.quiet rfl rfl rfl rfl (fun m => y_move rfl) (JM.quiet rfl rfl rfl rfl (fun m => y_move rfl) (JM.quiet rfl rfl rfl rfl (fun m => y_move rfl) ?_)))
  refine JM.quiet rfl rfl rfl rfl (fun m => y_add rfl rfl (by (first | exact wrap_i64 (by omega) (by omega) | rfl))) ?_
  refine JM.quiet rfl rfl rfl rfl (fun m => y_indexAddr_slice hT rfl rfl rfl rfl rfl (by (first | omega | exact Nat.le_of_ble_eq_true rfl | decide | (simp; omega))) (by (first | omega | exact Nat.le_of_ble_eq_true rfl | decide | (simp; omega)))) ?_
  refine JM.quiet rfl rfl rfl rfl (fun m => y_loadN hT rfl rfl rfl (RdN.arr (i := (first + rt)) (Pick.app m (by (repeat (first | exact Pick.head | apply Pick.tail | apply Pick.app)))) hkE (by (first | assumption | omega | (simp only [Array.size_setIfInBounds]; omega))) (by exact arr_off rfl (by omega))) (by (first | rfl | assumption | exact hkE _ | simp))) ?_
  refine JM.quiet rfl rfl rfl rfl (fun m => y_move rfl) (JM.quiet rfl rfl rfl rfl (fun m => y_move rfl) (JM.quiet rfl rfl rfl rfl (fun m => y_move rfl) ?_))
  refine JM.quiet rfl rfl rfl rfl (fun m => y_add rfl rfl (by (first | exact wrap_i64 (by omega) (by omega) | rfl))) ?_
  refine JM.quiet rfl rfl rfl rfl (fun m => y_indexAddr_slice hT rfl rfl rfl rfl rfl (by (first | omega | exact Nat.le_of_ble_eq_true rfl | decide | (simp; omega))) (by (first | omega | exact Nat.le_of_ble_eq_true rfl | decide | (simp; omega)))) ?_
  refine JM.quiet rfl rfl rfl rfl (fun m => y_loadN hT rfl rfl rfl (RdN.arr (i := (first + cc)) (Pick.app m (by (repeat (first | exact Pick.head | apply Pick.tail | apply Pick.app)))) hkE (by (first | assumption | omega | (simp only [Array.size_setIfInBounds]; omega))) (by exact arr_off rfl (by omega))) (by (first | rfl | assumption | exact hkE _ | simp))) ?_
  refine JM.quiet rfl rfl rfl rfl (fun m => y_callV e38 rfl rfl (flowCmp E _ _ _)) (JM.quiet rfl rfl rfl rfl (fun m => y_ltF E rfl rfl) (JM.quiet rfl rfl rfl rfl (fun m => y_not rfl) ?_))
  refine JM.nil (JE.then_normal ?_)
  first | apply J.cond_dec rfl | apply J.cond rfl
  case' ht =>
   intro h
   try (first | (exfalso; omega) | (cases h; done) | (exfalso; simp at h; done) | subst h)
   all_goals
    rw [if_neg (by simpa using h)] at he1
    refine J.ret (JE.then_ret (JE.block_ret (JE.then_ret (JE.block_ret ?_))))
    refine JE.ret0 (.inl rfl) rfl rfl  ?_
    exact ⟨rfl, fun w h => by rw [← he1]; exact h⟩
  case' hf =>
   intro h
   try (first | (exfalso; omega) | (cases h; done) | (exfalso; simp at h; done) | subst h)
   all_goals
    rw [if_pos (by simpa using h)] at he1
    refine J.skip ?_
  all_goals refine JE.then_normal ?_
  all_goals
   refine J.seq ?_
   refine J.draw _ _ [(0, .q), (1, .q), (2, .q), (3, .q), (4, .q), (5, .q), (6, .q), (7, .q), (8, .q), (9, .q), (10, .q), (11, .q), (12, .q), (14, .q), (15, .q), (16, .q), (17, .q), (18, .q), (13, .e), (19, .e), (20, .q), (21, .l), (22, .q), (23, .l)] mixed (by kernel_rfl) (Split.cons (Pick.head) (Split.nil)) ?_
   refine JM.quiet rfl rfl rfl rfl (fun m => y_move rfl) (JM.quiet rfl rfl rfl rfl (fun m => y_move rfl) (JM.quiet rfl rfl rfl rfl (fun m => y_move rfl) ?_))
   refine JM.quiet rfl rfl rfl rfl (fun m => y_add rfl rfl (by (first | exact wrap_i64 (by omega) (by omega) | rfl))) ?_
   refine JM.quiet rfl rfl rfl rfl (fun m => y_move rfl) (JM.quiet rfl rfl rfl rfl (fun m => y_move rfl) (JM.quiet rfl rfl rfl rfl (fun m => y_move rfl) ?_))
   refine JM.quiet rfl rfl rfl rfl (fun m => y_add rfl rfl (by (first | exact wrap_i64 (by omega) (by omega) | rfl))) ?_
   refine JM.quiet rfl rfl rfl rfl (fun m => y_move rfl) (JM.quiet rfl rfl rfl rfl (fun m => y_move rfl) (JM.quiet rfl rfl rfl rfl (fun m => y_move rfl) ?_))
   refine JM.quiet rfl rfl rfl rfl (fun m => y_add rfl rfl (by (first | exact wrap_i64 (by omega) (by omega) | rfl))) ?_
   refine JM.quiet rfl rfl rfl rfl (fun m => y_indexAddr_slice hT rfl rfl rfl rfl rfl (by (first | omega | exact Nat.le_of_ble_eq_true rfl | decide | (simp; omega))) (by (first | omega | exact Nat.le_of_ble_eq_true rfl | decide | (simp; omega)))) ?_
   refine JM.quiet rfl rfl rfl rfl (fun m => y_move rfl) (JM.quiet rfl rfl rfl rfl (fun m => y_move rfl) (JM.quiet rfl rfl rfl rfl (fun m => y_move rfl) ?_))
   refine JM.quiet rfl rfl rfl rfl (fun m => y_add rfl rfl (by (first | exact wrap_i64 (by omega) (by omega) | rfl))) ?_
   refine JM.quiet rfl rfl rfl rfl (fun m => y_indexAddr_slice hT rfl rfl rfl rfl rfl (by (first | omega | exact Nat.le_of_ble_eq_true rfl | decide | (simp; omega))) (by (first | omega | exact Nat.le_of_ble_eq_true rfl | decide | (simp; omega)))) ?_
   refine JM.early rfl rfl rfl rfl (fun fr => y_loadN hT rfl rfl rfl (RdN.arr (i := (first + cc)) (by (repeat (first | exact Pick.head | apply Pick.tail | apply Pick.app))) hkE (by (first | assumption | omega | (simp only [Array.size_setIfInBounds]; omega))) (by exact arr_off rfl (by omega))) (by (first | rfl | assumption | exact hkE _ | simp))) ?_
   refine JM.early rfl rfl rfl rfl (fun fr => y_loadN hT rfl rfl rfl (RdN.arr (i := (first + rt)) (by (repeat (first | exact Pick.head | apply Pick.tail | apply Pick.app))) hkE (by (first | assumption | omega | (simp only [Array.size_setIfInBounds]; omega))) (by exact arr_off rfl (by omega))) (by (first | rfl | assumption | exact hkE _ | simp))) ?_
   refine JM.quiet rfl rfl rfl rfl (fun m => y_indexAddr_slice hT rfl rfl rfl rfl rfl (by (first | omega | exact Nat.le_of_ble_eq_true rfl | decide | (simp; omega))) (by (first | omega | exact Nat.le_of_ble_eq_true rfl | decide | (simp; omega)))) ?_
   refine JM.loud rfl rfl (fun fr => l_storeArrN (j := (first + rt)) hT rfl rfl rfl hkE rfl hoE (by (repeat (first | exact Pick.head | apply Pick.tail | apply Pick.app))) (by (first | assumption | omega | (simp only [Array.size_setIfInBounds]; omega))) (by exact arr_off rfl (by omega)) (⟨[_], (by (repeat (first | exact Split.nil | exact Split.all | refine Split.cons Pick.head ?_))), ?_⟩))
   refine JM.quiet rfl rfl rfl rfl (fun m => y_indexAddr_slice hT rfl rfl rfl rfl rfl (by (first | omega | exact Nat.le_of_ble_eq_true rfl | decide | (simp; omega))) (by (first | omega | exact Nat.le_of_ble_eq_true rfl | decide | (simp; omega)))) ?_
   refine JM.loud rfl rfl (fun fr => l_storeArrN (j := (first + cc)) hT rfl rfl rfl hkE rfl hoE (by (repeat (first | exact Pick.head | apply Pick.tail | apply Pick.app))) (by (first | assumption | omega | (simp only [Array.size_setIfInBounds]; omega))) (by exact arr_off rfl (by omega)) (⟨[_], (by (repeat (first | exact Split.nil | exact Split.all | refine Split.cons Pick.head ?_))), ?_⟩))
   refine JM.nil (JE.then_normal (J.region (JL.step (y_move rfl) rfl rfl rfl (JL.step (y_assign rfl) rfl rfl rfl ?_))))
   refine JL.nil ?_
 all_goals refine JE.block_normal ?_
 all_goals
  exact JE.round (s := (rt, d1)) (cc, Sort.swp d1 (first + rt) (first + cc)) ⟨by dsimp only; omega, by dsimp only; rw [swp_size]; exact hs1, he1⟩ ⟨rfl, rfl, rfl, rfl, rfl, trivial⟩ (fun w h => h) (by dsimp only; omega)
theorem heapF (g c n a b : Nat) (ia ib : Int) (d : Array FlowT) (sp : List Value) (r : List HProp) (ea : ia = a) (eb : ib = b) (hn : d.size = n) (hab : a < b) (hb : b ≤ n) (h63 : n < 4611686018427387904) :
 Fc prog E 88 [.slice (some ⟨g, 0, none⟩) n c, .int .i64 ia, .int .i64 ib, (Value.func (.func 38) #[] [].toArray)].toArray (arF g d sp :: r) (fun v l' => v = .tuple #[] ∧ ∃ d', d' = Sort.heapSort ltF d a b ∧ l' = arF g d' sp :: r) := by
 suffices hq : Fc prog E 88 [.slice (some ⟨g, 0, none⟩) n c, .int .i64 ia, .int .i64 ib, (Value.func (.func 38) #[] [].toArray)].toArray (arF g d sp :: r) (fun v l' => v = .tuple #[] ∧ l' = arF g (Sort.heapSort ltF d a b) sp :: r) from hq.mono fun v l' q => ⟨q.1, _, rfl, q.2⟩
 refine Fc.eqs ?_
 subst ea eb
 refine Fc.of_body (c := ?codeC) Tryd.func88 ?hb Tryd.ntmps88 ?hl ?_
 case hb => exact rfl
 case hl => exact rfl
 refine J.seq (J.region (JL.step (y_move rfl) rfl rfl rfl (JL.step (y_assign rfl) rfl rfl rfl ?_)))
 refine JL.nil (JE.then_normal (J.seq (J.region (JL.step (y_assign rfl) rfl rfl rfl ?_))))
 refine JL.nil (JE.then_normal (J.seq (J.region (JL.step (y_move rfl) rfl rfl rfl (JL.step (y_move rfl) rfl rfl rfl ?_)))))
 refine JL.step (y_sub rfl rfl (by (first | exact wrap_i64 (by omega) (by omega) | rfl))) rfl rfl rfl ?_
 refine JL.step (y_assign rfl) rfl rfl rfl ?_
 refine JL.nil (JE.then_normal (J.seq (J.seq (J.region (JL.step (y_move rfl) rfl rfl rfl ?_)))))
 refine JL.step (y_sub rfl rfl (by (first | exact wrap_i64 (by omega) (by omega) | rfl))) rfl rfl rfl ?_
 refine JL.step (y_quo rfl rfl (by decide) (quo_nat (x := b - a - 1) (k := 2) (by omega) (by omega))) rfl rfl rfl ?_
 refine JL.step (y_assign rfl) rfl rfl rfl ?_
 refine JL.nil (JE.then_normal (J.block ?_))
 refine J.loop (α := Nat × Array FlowT) (fun s => s.1 ≤ n ∧ s.2.size = n ∧ Sort.heapPop ltF a (b - a) (Sort.heapBuild ltF (b - a) a s.1 s.2) = Sort.heapSort ltF d a b) (fun s => [(0, .slice (some ⟨g, 0, none⟩) n c), (8, .int .i64 a), (9, .int .i64 0), (10, .int .i64 ((b - a : Nat) : Int)), (11, .int .i64 ((s.1 : Int) - 1)), (3, (Value.func (.func 38) #[] [].toArray))]) (fun s => arF g s.2 sp :: r) (fun s => s.1) ((b - a - 1) / 2 + 1, d) ⟨by dsimp only; omega, hn, rfl⟩ ⟨rfl, rfl, rfl, (congrArg (fun z => some (Value.int .i64 z)) (by first | omega | (dsimp only; omega))), (congrArg (fun z => some (Value.int .i64 z)) (by first | omega | (dsimp only; omega))), rfl, trivial⟩ (fun w h => h) ?_
 rintro ⟨k, d1⟩ ⟨hi1, hs1, he1⟩
 try dsimp only at hi1 hs1 he1 ⊢
 refine J.seq (J.seq (J.region (JL.step (y_move rfl) rfl rfl rfl (JL.step (y_geq rfl rfl) rfl rfl rfl ?_))))
 refine JL.nil (JE.then_normal ?_)
 first | apply J.cond_dec rfl | apply J.cond rfl
 case' ht =>
  intro h
  try (first | (exfalso; omega) | (cases h; done) | (exfalso; simp at h; done) | subst h)
  all_goals
   obtain ⟨k, rfl⟩ : ∃ q, k = q + 1 := ⟨k - 1, by omega⟩
   have he1 : Sort.heapPop ltF a (b - a) (Sort.heapBuild ltF (b - a) a k (Sort.siftDown ltF (b - a) a k d1)) = Sort.heapSort ltF d a b := he1
   refine J.skip ?_
 case' hf =>
  intro h
  try (first | (exfalso; omega) | (cases h; done) | (exfalso; simp at h; done) | subst h)
  all_goals
   obtain rfl : k = 0 := by omega
   have he1 : Sort.heapPop ltF a (b - a) d1 = Sort.heapSort ltF d a b := he1
   refine J.exit (JE.then_exit (JE.then_exit (JE.block_exit (JE.then_normal (J.seq (J.region (JL.step (y_move rfl) rfl rfl rfl ?_)))))))
   refine JL.step (y_sub rfl rfl (by (first | exact wrap_i64 (by omega) (by omega) | rfl))) rfl rfl rfl ?_
   refine JL.step (y_assign rfl) rfl rfl rfl ?_
   refine JL.nil (JE.then_normal (J.block ?_))
   refine J.loop (α := Nat × Array FlowT) (fun s => s.1 ≤ b - a ∧ s.2.size = n ∧ Sort.heapPop ltF a s.1 s.2 = Sort.heapSort ltF d a b) (fun s => [(0, .slice (some ⟨g, 0, none⟩) n c), (8, .int .i64 a), (9, .int .i64 0), (10, .int .i64 ((b - a : Nat) : Int)), (12, .int .i64 ((s.1 : Int) - 1)), (3, (Value.func (.func 38) #[] [].toArray))]) (fun s => arF g s.2 sp :: r) (fun s => s.1) (b - a, d1) ⟨Nat.le_refl _, hs1, he1⟩ ⟨rfl, rfl, rfl, rfl, (congrArg (fun z => some (Value.int .i64 z)) (by first | omega | (dsimp only; omega))), rfl, trivial⟩ (fun w h => h) ?_
   rintro ⟨k, d2⟩ ⟨hi2, hs2, he2⟩
   try dsimp only at hi2 hs2 he2 ⊢
   refine J.seq (J.seq (J.region (JL.step (y_move rfl) rfl rfl rfl (JL.step (y_geq rfl rfl) rfl rfl rfl ?_))))
   refine JL.nil (JE.then_normal ?_)
   first | apply J.cond_dec rfl | apply J.cond rfl
   case' ht =>
    intro h
    try (first | (exfalso; omega) | (cases h; done) | (exfalso; simp at h; done) | subst h)
    all_goals
     obtain ⟨k, rfl⟩ : ∃ q, k = q + 1 := ⟨k - 1, by omega⟩
     have he2 : Sort.heapPop ltF a k (Sort.siftDown ltF k a 0 (Sort.swp d2 a (a + k))) = Sort.heapSort ltF d a b := he2
     refine J.skip ?_
   case' hf =>
    intro h
    try (first | (exfalso; omega) | (cases h; done) | (exfalso; simp at h; done) | subst h)
    all_goals
     obtain rfl : k = 0 := by omega
     have he2 : d2 = Sort.heapSort ltF d a b := he2
     refine J.exit (JE.then_exit (JE.then_exit (JE.block_exit ?_)))
     refine JE.ret0 (.inr rfl) rfl rfl  ?_
     exact ⟨rfl, fun w h => by rw [← he2]; exact h⟩
   all_goals refine JE.then_normal ?_
   all_goals
    refine J.seq (J.block (J.seq ?_))
    refine J.draw _ _ [(0, .q), (1, .q), (2, .q), (3, .q), (4, .q), (5, .q), (6, .q), (7, .q), (8, .q), (9, .q), (10, .q), (12, .q), (13, .q), (14, .q), (11, .e), (15, .e), (16, .q), (17, .l), (18, .q), (19, .l)] mixed (by kernel_rfl) (Split.cons (Pick.head) (Split.nil)) ?_
    refine JM.quiet rfl rfl rfl rfl (fun m => y_move rfl) (JM.quiet rfl rfl rfl rfl (fun m => y_move rfl) (JM.quiet rfl rfl rfl rfl (fun m => y_move rfl) (JM.quiet rfl rfl rfl rfl (fun m => y_move rfl) (JM.quiet rfl rfl rfl rfl (fun m => y_move rfl) ?_))))
    refine JM.quiet rfl rfl rfl rfl (fun m => y_add rfl rfl (by (first | exact wrap_i64 (by omega) (by omega) | rfl))) ?_
    refine JM.quiet rfl rfl rfl rfl (fun m => y_move rfl) (JM.quiet rfl rfl rfl rfl (fun m => y_move rfl) (JM.quiet rfl rfl rfl rfl (fun m => y_move rfl) ?_))
    refine JM.quiet rfl rfl rfl rfl (fun m => y_add rfl rfl (by (first | exact wrap_i64 (by omega) (by omega) | rfl))) ?_
    refine JM.quiet rfl rfl rfl rfl (fun m => y_indexAddr_slice hT rfl rfl rfl rfl rfl (by (first | omega | exact Nat.le_of_ble_eq_true rfl | decide | (simp; omega))) (by (first | omega | exact Nat.le_of_ble_eq_true rfl | decide | (simp; omega)))) ?_
    refine JM.quiet rfl rfl rfl rfl (fun m => y_move rfl) (JM.quiet rfl rfl rfl rfl (fun m => y_move rfl) ?_)
    refine JM.quiet rfl rfl rfl rfl (fun m => y_indexAddr_slice hT rfl rfl rfl rfl rfl (by (first | omega | exact Nat.le_of_ble_eq_true rfl | decide | (simp; omega))) (by (first | omega | exact Nat.le_of_ble_eq_true rfl | decide | (simp; omega)))) ?_
    refine JM.early rfl rfl rfl rfl (fun fr => y_loadN hT rfl rfl rfl (RdN.arr (i := (a + k)) (by (repeat (first | exact Pick.head | apply Pick.tail | apply Pick.app))) hkE (by (first | assumption | omega | (simp only [Array.size_setIfInBounds]; omega))) (by exact arr_off rfl (by omega))) (by (first | rfl | assumption | exact hkE _ | simp))) ?_
    refine JM.early rfl rfl rfl rfl (fun fr => y_loadN hT rfl rfl rfl (RdN.arr (i := (a)) (by (repeat (first | exact Pick.head | apply Pick.tail | apply Pick.app))) hkE (by (first | assumption | omega | (simp only [Array.size_setIfInBounds]; omega))) (by exact arr_off rfl (by omega))) (by (first | rfl | assumption | exact hkE _ | simp))) ?_
    refine JM.quiet rfl rfl rfl rfl (fun m => y_indexAddr_slice hT rfl rfl rfl rfl rfl (by (first | omega | exact Nat.le_of_ble_eq_true rfl | decide | (simp; omega))) (by (first | omega | exact Nat.le_of_ble_eq_true rfl | decide | (simp; omega)))) ?_
    refine JM.loud rfl rfl (fun fr => l_storeArrN (j := (a)) hT rfl rfl rfl hkE rfl hoE (by (repeat (first | exact Pick.head | apply Pick.tail | apply Pick.app))) (by (first | assumption | omega | (simp only [Array.size_setIfInBounds]; omega))) (by exact arr_off rfl (by omega)) (⟨[_], (by (repeat (first | exact Split.nil | exact Split.all | refine Split.cons Pick.head ?_))), ?_⟩))
    refine JM.quiet rfl rfl rfl rfl (fun m => y_indexAddr_slice hT rfl rfl rfl rfl rfl (by (first | omega | exact Nat.le_of_ble_eq_true rfl | decide | (simp; omega))) (by (first | omega | exact Nat.le_of_ble_eq_true rfl | decide | (simp; omega)))) ?_
    refine JM.loud rfl rfl (fun fr => l_storeArrN (j := (a + k)) hT rfl rfl rfl hkE rfl hoE (by (repeat (first | exact Pick.head | apply Pick.tail | apply Pick.app))) (by (first | assumption | omega | (simp only [Array.size_setIfInBounds]; omega))) (by exact arr_off rfl (by omega)) (⟨[_], (by (repeat (first | exact Split.nil | exact Split.all | refine Split.cons Pick.head ?_))), ?_⟩))
    refine JM.nil (JE.then_normal (J.region (JL.step (y_move rfl) rfl rfl rfl (JL.step (y_move rfl) rfl rfl rfl (JL.step (y_move rfl) rfl rfl rfl (JL.step (y_move rfl) rfl rfl rfl (JL.step (y_move rfl) rfl rfl rfl ?_)))))))
    refine JL.loud rfl (l_callF e121 rfl rfl (Fc.on (Split.cons (by (repeat (first | exact Pick.head | apply Pick.tail | apply Pick.app))) Split.nil) (siftF E g c n 0 k a _ _ _ (Sort.swp d2 a (a + k)) sp _ rfl (by omega) rfl (by rw [swp_size]; exact hs2) (by omega) (by omega) h63)) ?_)
    rintro _ _ ⟨rfl, rfl⟩
    refine JL.nil (JE.block_normal (JE.then_normal (J.region (JL.step (y_move rfl) rfl rfl rfl ?_))))
    refine JL.step (y_sub rfl rfl (by (first | exact wrap_i64 (by omega) (by omega) | rfl))) rfl rfl rfl ?_
    refine JL.step (y_assign rfl) rfl rfl rfl ?_
    refine JL.nil ?_
   all_goals
    exact JE.round (s := (k + 1, d2)) (k, Sort.siftDown ltF k a 0 (Sort.swp d2 a (a + k))) ⟨by dsimp only; omega, by dsimp only; rw [siftDown_size, swp_size]; exact hs2, he2⟩ ⟨rfl, rfl, rfl, rfl, (congrArg (fun z => some (Value.int .i64 z)) (by first | omega | (dsimp only; omega))), rfl, trivial⟩ (fun w h => h) (by dsimp only; omega)
 all_goals refine JE.then_normal ?_
 all_goals
  refine J.seq (J.block (J.region (JL.step (y_move rfl) rfl rfl rfl (JL.step (y_move rfl) rfl rfl rfl (JL.step (y_move rfl) rfl rfl rfl (JL.step (y_move rfl) rfl rfl rfl (JL.step (y_move rfl) rfl rfl rfl ?_)))))))
  refine JL.loud rfl (l_callF e121 rfl rfl (Fc.on (Split.cons (by (repeat (first | exact Pick.head | apply Pick.tail | apply Pick.app))) Split.nil) (siftF E g c n k (b - a) a _ _ _ d1 sp _ (by omega) (by omega) rfl hs1 (by omega) (by omega) h63)) ?_)
  rintro _ _ ⟨rfl, rfl⟩
  refine JL.nil (JE.block_normal (JE.then_normal (J.region (JL.step (y_move rfl) rfl rfl rfl ?_))))
  refine JL.step (y_sub rfl rfl (by (first | exact wrap_i64 (by omega) (by omega) | rfl))) rfl rfl rfl ?_
  refine JL.step (y_assign rfl) rfl rfl rfl ?_
  refine JL.nil ?_
 all_goals
  exact JE.round (s := (k + 1, d1)) (k, Sort.siftDown ltF (b - a) a k d1) ⟨by dsimp only; omega, by dsimp only; rw [siftDown_size]; exact hs1, he1⟩ ⟨rfl, rfl, rfl, rfl, (congrArg (fun z => some (Value.int .i64 z)) (by first | omega | (dsimp only; omega))), rfl, trivial⟩ (fun w h => h) (by dsimp only; omega)
end
end
section
open Go Go.SL
section
attribute [local irreducible] J JL JE JM LS Y Fc RV Code.wp wpList Code.wpIn wpListIn
attribute [local irreducible] Yc
attribute [local irreducible] ltF cmpF flE
variable (E : World)
theorem order2F (g c n a b s : Nat) (ia ib : Int) (d : Array FlowT) (sp : List Value) (z : Int) (r : List HProp) (ea : ia = a) (eb : ib = b) (hn : d.size = n) (ha : a < n) (hb : b < n) (h63 : n < 4611686018427387904) :
 Fc prog E 135 [.slice (some ⟨g, 0, none⟩) n c, .int .i64 ia, .int .i64 ib, .pointer (some ⟨s, 0, none⟩), (Value.func (.func 38) #[] [].toArray)].toArray (arF g d sp :: row s 3 [.int .i64 z] :: r) (fun v l' => ∃ (x y : Nat) (z' : Int), v = .tuple #[.int .i64 x, .int .i64 y] ∧ (x = a ∧ y = b ∨ x = b ∧ y = a) ∧ l' = arF g d sp :: row s 3 [.int .i64 z'] :: r) := by
 refine Fc.post ?_
 subst ea eb
 refine Fc.of_body (c := ?codeC) Tryd.func135 ?hb Tryd.ntmps135 ?hl ?_
 case hb => exact rfl
 case hl => exact rfl
 refine J.seq (J.region (JL.step (y_assign rfl) rfl rfl rfl (JL.step (y_assign rfl) rfl rfl rfl ?_)))
 refine JL.nil (JE.then_normal (J.seq (J.seq ?_)))
 refine J.draw _ _ [(0, .q), (1, .q), (2, .q), (3, .q), (4, .q), (5, .q), (6, .q), (7, .q), (8, .q), (9, .q), (10, .q)] mixed (by kernel_rfl) (Split.nil) ?_
 refine JM.quiet rfl rfl rfl rfl (fun m => y_move rfl) (JM.quiet rfl rfl rfl rfl (fun m => y_move rfl) (JM.quiet rfl rfl rfl rfl (fun m => y_move rfl) ?_))
 refine JM.quiet rfl rfl rfl rfl (fun m => y_indexAddr_slice hT rfl rfl rfl rfl rfl (by (first | omega | exact Nat.le_of_ble_eq_true rfl | decide | (simp; omega))) (by (first | omega | exact Nat.le_of_ble_eq_true rfl | decide | (simp; omega)))) ?_
 refine JM.quiet rfl rfl rfl rfl (fun m => y_loadN hT rfl rfl rfl (RdN.arr (i := (b)) (Pick.app m (by (repeat (first | exact Pick.head | apply Pick.tail | apply Pick.app)))) hkE (by (first | assumption | omega | (simp only [Array.size_setIfInBounds]; omega))) (by exact arr_off rfl (by omega))) (by (first | rfl | assumption | exact hkE _ | simp))) ?_
 refine JM.quiet rfl rfl rfl rfl (fun m => y_move rfl) (JM.quiet rfl rfl rfl rfl (fun m => y_move rfl) ?_)
 refine JM.quiet rfl rfl rfl rfl (fun m => y_indexAddr_slice hT rfl rfl rfl rfl rfl (by (first | omega | exact Nat.le_of_ble_eq_true rfl | decide | (simp; omega))) (by (first | omega | exact Nat.le_of_ble_eq_true rfl | decide | (simp; omega)))) ?_
 refine JM.quiet rfl rfl rfl rfl (fun m => y_loadN hT rfl rfl rfl (RdN.arr (i := (a)) (Pick.app m (by (repeat (first | exact Pick.head | apply Pick.tail | apply Pick.app)))) hkE (by (first | assumption | omega | (simp only [Array.size_setIfInBounds]; omega))) (by exact arr_off rfl (by omega))) (by (first | rfl | assumption | exact hkE _ | simp))) ?_
 refine JM.quiet rfl rfl rfl rfl (fun m => y_callV e38 rfl rfl (flowCmp E _ _ _)) (JM.quiet rfl rfl rfl rfl (fun m => y_ltF E rfl rfl) ?_)
 refine JM.nil (JE.then_normal ?_)
 first | apply J.cond_dec rfl | apply J.cond rfl
 case' ht =>
  intro h
  try (first | (exfalso; omega) | (cases h; done) | (exfalso; simp at h; done) | subst h)
  all_goals
   refine J.seq (J.region (JL.step (y_move rfl) rfl rfl rfl ?_))
   refine JL.step ((by first | exact y_nilCheck rfl | exact y_nilCheckF rfl | exact y_nilCheckY rfl)) rfl rfl rfl ?_
   refine JL.step (y_load1 hT rfl rfl rfl (by (exact Rd1.row (by (repeat (first | exact Pick.head | apply Pick.tail | apply Pick.app))) (by rfl)))) rfl rfl rfl ?_
   refine JL.step (y_add rfl rfl (by (first | exact wrap_i64 (by omega) (by omega) | rfl))) rfl rfl rfl ?_
   refine JL.step ((by first | exact y_nilCheck rfl | exact y_nilCheckF rfl | exact y_nilCheckY rfl)) rfl rfl rfl ?_
   refine JL.loud rfl (l_store1 hT rfl rfl rfl rfl rfl (by (repeat (first | exact Pick.head | apply Pick.tail | apply Pick.app))) (by (first | omega | exact Nat.le_of_ble_eq_true rfl | decide | (simp; omega))) ?_)
   refine JL.nil (JE.then_normal (J.seq (J.region (JL.step (y_move rfl) rfl rfl rfl (JL.step (y_move rfl) rfl rfl rfl (JL.step (y_assign rfl) rfl rfl rfl (JL.step (y_assign rfl) rfl rfl rfl ?_)))))))
   refine JL.nil (JE.then_normal (J.ret (JE.then_ret ?_)))
   refine JE.ret2 (.inl rfl) rfl rfl (by (first | exact RV.tmp rfl | exact RV.cell1 hT rfl rfl rfl (by (exact Rd1.row (by (repeat (first | exact Pick.head | apply Pick.tail | apply Pick.app))) (by rfl))) | exact RV.cellN hT rfl rfl rfl (by (first | exact RdN.rowAll (by (repeat (first | exact Pick.head | apply Pick.tail | apply Pick.app))) | exact RdN.own (by (repeat (first | exact Pick.head | apply Pick.tail | apply Pick.app))))) (by (first | rfl | assumption | (simp; done) | omega)))) (by (first | exact RV.tmp rfl | exact RV.cell1 hT rfl rfl rfl (by (exact Rd1.row (by (repeat (first | exact Pick.head | apply Pick.tail | apply Pick.app))) (by rfl))) | exact RV.cellN hT rfl rfl rfl (by (first | exact RdN.rowAll (by (repeat (first | exact Pick.head | apply Pick.tail | apply Pick.app))) | exact RdN.own (by (repeat (first | exact Pick.head | apply Pick.tail | apply Pick.app))))) (by (first | rfl | assumption | (simp; done) | omega)))) ?_
   first | exact ⟨_, fun w h => h.sup (by (repeat (first | exact Sup.refl | apply Sup.cons (by (repeat (first | exact Pick.head | apply Pick.tail | apply Pick.app))) | apply Sup.app | apply Sup.skip | apply Sup.skips))), a, b, _, rfl, .inl ⟨rfl, rfl⟩, rfl⟩ | exact ⟨_, fun w h => h.sup (by (repeat (first | exact Sup.refl | apply Sup.cons (by (repeat (first | exact Pick.head | apply Pick.tail | apply Pick.app))) | apply Sup.app | apply Sup.skip | apply Sup.skips))), b, a, _, rfl, .inr ⟨rfl, rfl⟩, rfl⟩
 case' hf =>
  intro h
  try (first | (exfalso; omega) | (cases h; done) | (exfalso; simp at h; done) | subst h)
  all_goals
   refine J.skip ?_
 all_goals refine JE.then_normal ?_
 all_goals
  refine J.seq (J.region (JL.step (y_move rfl) rfl rfl rfl (JL.step (y_move rfl) rfl rfl rfl (JL.step (y_assign rfl) rfl rfl rfl (JL.step (y_assign rfl) rfl rfl rfl ?_)))))
  refine JL.nil (JE.then_normal (J.ret ?_))
  refine JE.ret2 (.inl rfl) rfl rfl (by (first | exact RV.tmp rfl | exact RV.cell1 hT rfl rfl rfl (by (exact Rd1.row (by (repeat (first | exact Pick.head | apply Pick.tail | apply Pick.app))) (by rfl))) | exact RV.cellN hT rfl rfl rfl (by (first | exact RdN.rowAll (by (repeat (first | exact Pick.head | apply Pick.tail | apply Pick.app))) | exact RdN.own (by (repeat (first | exact Pick.head | apply Pick.tail | apply Pick.app))))) (by (first | rfl | assumption | (simp; done) | omega)))) (by (first | exact RV.tmp rfl | exact RV.cell1 hT rfl rfl rfl (by (exact Rd1.row (by (repeat (first | exact Pick.head | apply Pick.tail | apply Pick.app))) (by rfl))) | exact RV.cellN hT rfl rfl rfl (by (first | exact RdN.rowAll (by (repeat (first | exact Pick.head | apply Pick.tail | apply Pick.app))) | exact RdN.own (by (repeat (first | exact Pick.head | apply Pick.tail | apply Pick.app))))) (by (first | rfl | assumption | (simp; done) | omega)))) ?_
  first | exact ⟨_, fun w h => h.sup (by (repeat (first | exact Sup.refl | apply Sup.cons (by (repeat (first | exact Pick.head | apply Pick.tail | apply Pick.app))) | apply Sup.app | apply Sup.skip | apply Sup.skips))), a, b, _, rfl, .inl ⟨rfl, rfl⟩, rfl⟩ | exact ⟨_, fun w h => h.sup (by (repeat (first | exact Sup.refl | apply Sup.cons (by (repeat (first | exact Pick.head | apply Pick.tail | apply Pick.app))) | apply Sup.app | apply Sup.skip | apply Sup.skips))), b, a, _, rfl, .inr ⟨rfl, rfl⟩, rfl⟩
theorem medianF (g c n a b e s : Nat) (ia ib ie : Int) (d : Array FlowT) (sp : List Value) (z : Int) (r : List HProp) (ea : ia = a) (eb : ib = b) (ee : ie = e) (hn : d.size = n) (ha : a < n) (hb : b < n) (he : e < n) (h63 : n < 4611686018427387904) :
 Fc prog E 125 [.slice (some ⟨g, 0, none⟩) n c, .int .i64 ia, .int .i64 ib, .int .i64 ie, .pointer (some ⟨s, 0, none⟩), (Value.func (.func 38) #[] [].toArray)].toArray (arF g d sp :: row s 3 [.int .i64 z] :: r) (fun v l' => ∃ (x : Nat) (z' : Int), v = .int .i64 x ∧ (x = a ∨ x = b ∨ x = e) ∧ l' = arF g d sp :: row s 3 [.int .i64 z'] :: r) := by
 refine Fc.post ?_
 subst ea eb ee
 refine Fc.of_body (c := ?codeC) Tryd.func125 ?hb Tryd.ntmps125 ?hl ?_
 case hb => exact rfl
 case hl => exact rfl
 refine J.seq (J.region (JL.step (y_assign rfl) rfl rfl rfl ?_))
 refine JL.nil (JE.then_normal (J.seq (J.region (JL.step (y_move rfl) rfl rfl rfl (JL.step (y_move rfl) rfl rfl rfl (JL.step (y_move rfl) rfl rfl rfl (JL.step (y_move rfl) rfl rfl rfl (JL.step (y_move rfl) rfl rfl rfl ?_))))))))
 refine JL.loud rfl (l_callF e135 rfl rfl (Fc.on (Split.cons (by (repeat (first | exact Pick.head | apply Pick.tail | apply Pick.app))) (Split.cons (by (repeat (first | exact Pick.head | apply Pick.tail | apply Pick.app))) Split.nil)) (order2F E g c n a b s _ _ d sp _ _ rfl rfl hn (by omega) (by omega) h63)) ?_)
 rintro _ _ ⟨x1, y1, z1, rfl, h1, rfl⟩
 refine JL.step (y_move rfl) rfl rfl rfl (JL.step (y_extract rfl rfl) rfl rfl rfl (JL.step (y_extract rfl rfl) rfl rfl rfl (JL.step (y_assign rfl) rfl rfl rfl (JL.step (y_assign rfl) rfl rfl rfl ?_))))
 refine JL.nil (JE.then_normal (J.seq (J.region (JL.step (y_move rfl) rfl rfl rfl (JL.step (y_move rfl) rfl rfl rfl (JL.step (y_move rfl) rfl rfl rfl (JL.step (y_move rfl) rfl rfl rfl (JL.step (y_move rfl) rfl rfl rfl ?_))))))))
 refine JL.loud rfl (l_callF e135 rfl rfl (Fc.on (Split.cons (by (repeat (first | exact Pick.head | apply Pick.tail | apply Pick.app))) (Split.cons (by (repeat (first | exact Pick.head | apply Pick.tail | apply Pick.app))) Split.nil)) (order2F E g c n y1 e s _ _ d sp _ _ rfl rfl hn (by omega) (by omega) h63)) ?_)
 rintro _ _ ⟨x2, y2, z2, rfl, h2, rfl⟩
 refine JL.step (y_move rfl) rfl rfl rfl (JL.step (y_extract rfl rfl) rfl rfl rfl (JL.step (y_extract rfl rfl) rfl rfl rfl (JL.step (y_assign rfl) rfl rfl rfl (JL.step (y_assign rfl) rfl rfl rfl ?_))))
 refine JL.nil (JE.then_normal (J.seq (J.region (JL.step (y_move rfl) rfl rfl rfl (JL.step (y_move rfl) rfl rfl rfl (JL.step (y_move rfl) rfl rfl rfl (JL.step (y_move rfl) rfl rfl rfl (JL.step (y_move rfl) rfl rfl rfl ?_))))))))
 refine JL.loud rfl (l_callF e135 rfl rfl (Fc.on (Split.cons (by (repeat (first | exact Pick.head | apply Pick.tail | apply Pick.app))) (Split.cons (by (repeat (first | exact Pick.head | apply Pick.tail | apply Pick.app))) Split.nil)) (order2F E g c n x1 x2 s _ _ d sp _ _ rfl rfl hn (by omega) (by omega) h63)) ?_)
 rintro _ _ ⟨x3, y3, z3, rfl, h3, rfl⟩
 refine JL.step (y_move rfl) rfl rfl rfl (JL.step (y_extract rfl rfl) rfl rfl rfl (JL.step (y_extract rfl rfl) rfl rfl rfl (JL.step (y_assign rfl) rfl rfl rfl (JL.step (y_assign rfl) rfl rfl rfl ?_))))
 refine JL.nil (JE.then_normal (J.seq (J.region (JL.step (y_move rfl) rfl rfl rfl (JL.step (y_assign rfl) rfl rfl rfl ?_)))))
 refine JL.nil (JE.then_normal (J.ret ?_))
 refine JE.ret1 (.inl rfl) rfl rfl (by (first | exact RV.tmp rfl | exact RV.cell1 hT rfl rfl rfl (by (exact Rd1.row (by (repeat (first | exact Pick.head | apply Pick.tail | apply Pick.app))) (by rfl))) | exact RV.cellN hT rfl rfl rfl (by (first | exact RdN.rowAll (by (repeat (first | exact Pick.head | apply Pick.tail | apply Pick.app))) | exact RdN.own (by (repeat (first | exact Pick.head | apply Pick.tail | apply Pick.app))))) (by (first | rfl | assumption | (simp; done) | omega)))) ?_
 exact ⟨_, fun w h => h.sup (by (repeat (first | exact Sup.refl | apply Sup.cons (by (repeat (first | exact Pick.head | apply Pick.tail | apply Pick.app))) | apply Sup.app | apply Sup.skip | apply Sup.skips))), y3, _, rfl, by omega, rfl⟩
theorem adjacentF (g c n a s : Nat) (ia : Int) (d : Array FlowT) (sp : List Value) (z : Int) (r : List HProp) (ea : ia = a) (hn : d.size = n) (h1 : 1 ≤ a) (ha : a + 1 < n) (h63 : n < 4611686018427387904) :
 Fc prog E 124 [.slice (some ⟨g, 0, none⟩) n c, .int .i64 ia, .pointer (some ⟨s, 0, none⟩), (Value.func (.func 38) #[] [].toArray)].toArray (arF g d sp :: row s 3 [.int .i64 z] :: r) (fun v l' => ∃ (x : Nat) (z' : Int), v = .int .i64 x ∧ (x = a - 1 ∨ x = a ∨ x = a + 1) ∧ l' = arF g d sp :: row s 3 [.int .i64 z'] :: r) := by
 refine Fc.post ?_
 subst ea
 refine Fc.of_body (c := ?codeC) Tryd.func124 ?hb Tryd.ntmps124 ?hl ?_
 case hb => exact rfl
 case hl => exact rfl
 refine J.seq (J.region (JL.step (y_assign rfl) rfl rfl rfl ?_))
 refine JL.nil (JE.then_normal (J.seq (J.region (JL.step (y_move rfl) rfl rfl rfl (JL.step (y_move rfl) rfl rfl rfl ?_)))))
 refine JL.step (y_sub rfl rfl (by (first | exact wrap_i64 (by omega) (by omega) | rfl))) rfl rfl rfl ?_
 refine JL.step (y_move rfl) rfl rfl rfl (JL.step (y_move rfl) rfl rfl rfl ?_)
 refine JL.step (y_add rfl rfl (by (first | exact wrap_i64 (by omega) (by omega) | rfl))) rfl rfl rfl ?_
 refine JL.step (y_move rfl) rfl rfl rfl (JL.step (y_move rfl) rfl rfl rfl ?_)
 refine JL.loud rfl (l_callF e125 rfl rfl (Fc.on (Split.cons (by (repeat (first | exact Pick.head | apply Pick.tail | apply Pick.app))) (Split.cons (by (repeat (first | exact Pick.head | apply Pick.tail | apply Pick.app))) Split.nil)) (medianF E g c n (a - 1) a (a + 1) s _ _ _ d sp _ _ (by omega) rfl (by omega) hn (by omega) (by omega) (by omega) h63)) ?_)
 rintro _ _ ⟨x1, z1, rfl, h1, rfl⟩
 refine JL.step (y_assign rfl) rfl rfl rfl ?_
 refine JL.nil (JE.then_normal (J.ret ?_))
 refine JE.ret1 (.inl rfl) rfl rfl (by (first | exact RV.tmp rfl | exact RV.cell1 hT rfl rfl rfl (by (exact Rd1.row (by (repeat (first | exact Pick.head | apply Pick.tail | apply Pick.app))) (by rfl))) | exact RV.cellN hT rfl rfl rfl (by (first | exact RdN.rowAll (by (repeat (first | exact Pick.head | apply Pick.tail | apply Pick.app))) | exact RdN.own (by (repeat (first | exact Pick.head | apply Pick.tail | apply Pick.app))))) (by (first | rfl | assumption | (simp; done) | omega)))) ?_
 exact ⟨_, fun w h => h.sup (by (repeat (first | exact Sup.refl | apply Sup.cons (by (repeat (first | exact Pick.head | apply Pick.tail | apply Pick.app))) | apply Sup.app | apply Sup.skip | apply Sup.skips))), x1, _, rfl, by omega, rfl⟩
theorem pivotF (g c n a b : Nat) (ia ib : Int) (d : Array FlowT) (sp : List Value) (r : List HProp) (ea : ia = a) (eb : ib = b) (hn : d.size = n) (hab : a + 12 < b) (hb : b ≤ n) (h63 : n < 4611686018427387904) :
 Fc prog E 90 [.slice (some ⟨g, 0, none⟩) n c, .int .i64 ia, .int .i64 ib, (Value.func (.func 38) #[] [].toArray)].toArray (arF g d sp :: r) (fun v l' => ∃ (x h : Nat), v = .tuple #[.int .i64 x, .int .i64 h] ∧ a ≤ x ∧ x < b ∧ l' = arF g d sp :: r) := by
 refine Fc.post ?_
 subst ea eb
 refine Fc.of_body (c := ?codeC) Tryd.func90 ?hb Tryd.ntmps90 ?hl ?_
 case hb => exact rfl
 case hl => exact rfl
 refine J.seq (J.region (JL.step (y_assign rfl) rfl rfl rfl (JL.step (y_assign rfl) rfl rfl rfl ?_)))
 refine JL.nil (JE.then_normal (J.seq (J.region (JL.step (y_move rfl) rfl rfl rfl (JL.step (y_move rfl) rfl rfl rfl ?_)))))
 refine JL.step (y_sub rfl rfl (by (first | exact wrap_i64 (by omega) (by omega) | rfl))) rfl rfl rfl ?_
 refine JL.step (y_assign rfl) rfl rfl rfl ?_
 refine JL.nil (JE.then_normal (J.seq (J.region ?_)))
 refine JL.loud rfl (l_alloc hT rfl rfl (by (first | rfl | simp)) rfl (fun b1 => ?_))
 refine JL.nil (JE.then_normal (J.seq (J.region (JL.step (y_move rfl) rfl rfl rfl (JL.step (y_move rfl) rfl rfl rfl ?_)))))
 refine JL.step (y_quo rfl rfl (by decide) (quo_nat (x := b - a) (k := 4) (by omega) (by omega))) rfl rfl rfl ?_
 refine JL.step (y_mul rfl rfl (by (first | exact wrap_i64 (by omega) (by omega) | rfl))) rfl rfl rfl ?_
 refine JL.step (y_add rfl rfl (by (first | exact wrap_i64 (by omega) (by omega) | rfl))) rfl rfl rfl ?_
 refine JL.step (y_assign rfl) rfl rfl rfl ?_
 refine JL.nil (JE.then_normal (J.seq (J.region (JL.step (y_move rfl) rfl rfl rfl (JL.step (y_move rfl) rfl rfl rfl ?_)))))
 refine JL.step (y_quo rfl rfl (by decide) (quo_nat (x := b - a) (k := 4) (by omega) (by omega))) rfl rfl rfl ?_
 refine JL.step (y_mul rfl rfl (by (first | exact wrap_i64 (by omega) (by omega) | rfl))) rfl rfl rfl ?_
 refine JL.step (y_add rfl rfl (by (first | exact wrap_i64 (by omega) (by omega) | rfl))) rfl rfl rfl ?_
 refine JL.step (y_assign rfl) rfl rfl rfl ?_
 refine JL.nil (JE.then_normal (J.seq (J.region (JL.step (y_move rfl) rfl rfl rfl (JL.step (y_move rfl) rfl rfl rfl ?_)))))
 refine JL.step (y_quo rfl rfl (by decide) (quo_nat (x := b - a) (k := 4) (by omega) (by omega))) rfl rfl rfl ?_
 refine JL.step (y_mul rfl rfl (by (first | exact wrap_i64 (by omega) (by omega) | rfl))) rfl rfl rfl ?_
 refine JL.step (y_add rfl rfl (by (first | exact wrap_i64 (by omega) (by omega) | rfl))) rfl rfl rfl ?_
 refine JL.step (y_assign rfl) rfl rfl rfl ?_
 refine JL.nil (JE.then_normal (J.seq (J.seq (J.region (JL.step (y_move rfl) rfl rfl rfl (JL.step (y_geq rfl rfl) rfl rfl rfl ?_))))))
 refine JL.nil (JE.then_normal ?_)
 refine J.cond_t rfl (by (first | rfl | assumption | (simp; done) | (simp; omega))) ?_
 refine J.seqK (α := Nat × Nat × Nat × Int) (fun q => (a ≤ q.1 ∧ q.1 < b) ∧ (a ≤ q.2.1 ∧ q.2.1 < b) ∧ (a ≤ q.2.2.1 ∧ q.2.2.1 < b)) (fun q => [(0, .slice (some ⟨g, 0, none⟩) n c), (11, .pointer (some ⟨b1, 0, none⟩)), (12, .int .i64 q.1), (13, .int .i64 q.2.1), (14, .int .i64 q.2.2.1), (3, (Value.func (.func 38) #[] [].toArray))]) (fun q => arF g d sp :: row b1 3 [.int .i64 q.2.2.2] :: r) ?hj11 (fun hk11 => ?hf11)
 case hf11 =>
  refine J.seq (J.region (JL.step (y_move rfl) rfl rfl rfl (JL.step (y_geq rfl rfl) rfl rfl rfl ?_)))
  refine JL.nil (JE.then_normal ?_)
  first | apply J.cond_dec rfl | apply J.cond rfl
  case' ht =>
   intro h
   try (first | (exfalso; omega) | (cases h; done) | (exfalso; simp at h; done) | subst h)
   all_goals
    refine J.seq (J.region (JL.step (y_move rfl) rfl rfl rfl (JL.step (y_move rfl) rfl rfl rfl (JL.step (y_move rfl) rfl rfl rfl ?_))))
    refine JL.loud rfl (l_callF e124 rfl rfl (Fc.on (Split.cons (by (repeat (first | exact Pick.head | apply Pick.tail | apply Pick.app))) (Split.cons (by (repeat (first | exact Pick.head | apply Pick.tail | apply Pick.app))) Split.nil)) (adjacentF E g c n (a + (b - a) / 4 * 1) _ _ d sp _ _ (by omega) hn (by omega) (by omega) h63)) ?_)
    rintro _ _ ⟨x1, z1, rfl, h1, rfl⟩
    refine JL.step (y_assign rfl) rfl rfl rfl ?_
    refine JL.nil (JE.then_normal (J.seq (J.region (JL.step (y_move rfl) rfl rfl rfl (JL.step (y_move rfl) rfl rfl rfl (JL.step (y_move rfl) rfl rfl rfl ?_))))))
    refine JL.loud rfl (l_callF e124 rfl rfl (Fc.on (Split.cons (by (repeat (first | exact Pick.head | apply Pick.tail | apply Pick.app))) (Split.cons (by (repeat (first | exact Pick.head | apply Pick.tail | apply Pick.app))) Split.nil)) (adjacentF E g c n (a + (b - a) / 4 * 2) _ _ d sp _ _ (by omega) hn (by omega) (by omega) h63)) ?_)
    rintro _ _ ⟨x2, z2, rfl, h2, rfl⟩
    refine JL.step (y_assign rfl) rfl rfl rfl ?_
    refine JL.nil (JE.then_normal (J.region (JL.step (y_move rfl) rfl rfl rfl (JL.step (y_move rfl) rfl rfl rfl (JL.step (y_move rfl) rfl rfl rfl ?_)))))
    refine JL.loud rfl (l_callF e124 rfl rfl (Fc.on (Split.cons (by (repeat (first | exact Pick.head | apply Pick.tail | apply Pick.app))) (Split.cons (by (repeat (first | exact Pick.head | apply Pick.tail | apply Pick.app))) Split.nil)) (adjacentF E g c n (a + (b - a) / 4 * 3) _ _ d sp _ _ (by omega) hn (by omega) (by omega) h63)) ?_)
    rintro _ _ ⟨x3, z3, rfl, h3, rfl⟩
    refine JL.step (y_assign rfl) rfl rfl rfl ?_
    refine JL.nil ?_
  case' hf =>
   intro h
   try (first | (exfalso; omega) | (cases h; done) | (exfalso; simp at h; done) | subst h)
   all_goals
    refine J.skip ?_
  all_goals refine JE.then_normal ?_
  all_goals
   first | exact J.closeK hk11 (x1, x2, x3, z3) ⟨by dsimp only; omega, by dsimp only; omega, by dsimp only; omega⟩ ⟨rfl, rfl, rfl, rfl, rfl, rfl, trivial⟩ (fun w h => h.sup (by (repeat (first | exact Sup.refl | apply Sup.cons (by (repeat (first | exact Pick.head | apply Pick.tail | apply Pick.app))) | apply Sup.app | apply Sup.skip | apply Sup.skips)))) | exact J.closeK hk11 (a + (b - a) / 4 * 1, a + (b - a) / 4 * 2, a + (b - a) / 4 * 3, 0) ⟨by dsimp only; omega, by dsimp only; omega, by dsimp only; omega⟩ ⟨rfl, rfl, (congrArg (fun z => some (Value.int .i64 z)) (by first | omega | (dsimp only; omega))), (congrArg (fun z => some (Value.int .i64 z)) (by first | omega | (dsimp only; omega))), (congrArg (fun z => some (Value.int .i64 z)) (by first | omega | (dsimp only; omega))), rfl, trivial⟩ (fun w h => h.sup (by (repeat (first | exact Sup.refl | apply Sup.cons (by (repeat (first | exact Pick.head | apply Pick.tail | apply Pick.app))) | apply Sup.app | apply Sup.skip | apply Sup.skips))))
 rintro ⟨i, j, k, z⟩ ⟨hi, hj, hk⟩
 try dsimp only at hi hj hk ⊢
 refine J.region (JL.step (y_move rfl) rfl rfl rfl (JL.step (y_move rfl) rfl rfl rfl (JL.step (y_move rfl) rfl rfl rfl (JL.step (y_move rfl) rfl rfl rfl (JL.step (y_move rfl) rfl rfl rfl ?_)))))
 refine JL.loud rfl (l_callF e125 rfl rfl (Fc.on (Split.cons (by (repeat (first | exact Pick.head | apply Pick.tail | apply Pick.app))) (Split.cons (by (repeat (first | exact Pick.head | apply Pick.tail | apply Pick.app))) Split.nil)) (medianF E g c n i j k _ _ _ _ d sp _ _ rfl rfl rfl hn (by omega) (by omega) (by omega) h63)) ?_)
 rintro _ _ ⟨m, zm, rfl, hm, rfl⟩
 refine JL.step (y_assign rfl) rfl rfl rfl ?_
 refine JL.nil ?_
 all_goals refine JE.then_normal ?_
 all_goals
  refine J.seq (J.region ?_)
  refine JL.step (y_load1 hT rfl rfl rfl (by (exact Rd1.row (by (repeat (first | exact Pick.head | apply Pick.tail | apply Pick.app))) (by rfl)))) rfl rfl rfl ?_
  refine JL.nil (JE.then_normal (J.block (J.seq (J.region (JL.step (y_eql rfl rfl) rfl rfl rfl (JL.step (y_assign rfl) rfl rfl rfl ?_))))))
  refine JL.nil (JE.then_normal ?_)
  first | apply J.cond_dec rfl | apply J.cond rfl
  case' ht =>
   intro h
   try (first | (exfalso; omega) | (cases h; done) | (exfalso; simp at h; done) | subst h)
   all_goals
    refine J.seq (J.region (JL.step (y_move rfl) rfl rfl rfl (JL.step (y_assign rfl) rfl rfl rfl (JL.step (y_assign rfl) rfl rfl rfl ?_))))
    refine JL.nil (JE.then_normal (J.ret (JE.block_ret ?_)))
    refine JE.ret2 (.inl rfl) rfl rfl (by (first | exact RV.tmp rfl | exact RV.cell1 hT rfl rfl rfl (by (exact Rd1.row (by (repeat (first | exact Pick.head | apply Pick.tail | apply Pick.app))) (by rfl))) | exact RV.cellN hT rfl rfl rfl (by (first | exact RdN.rowAll (by (repeat (first | exact Pick.head | apply Pick.tail | apply Pick.app))) | exact RdN.own (by (repeat (first | exact Pick.head | apply Pick.tail | apply Pick.app))))) (by (first | rfl | assumption | (simp; done) | omega)))) (by (first | exact RV.tmp rfl | exact RV.cell1 hT rfl rfl rfl (by (exact Rd1.row (by (repeat (first | exact Pick.head | apply Pick.tail | apply Pick.app))) (by rfl))) | exact RV.cellN hT rfl rfl rfl (by (first | exact RdN.rowAll (by (repeat (first | exact Pick.head | apply Pick.tail | apply Pick.app))) | exact RdN.own (by (repeat (first | exact Pick.head | apply Pick.tail | apply Pick.app))))) (by (first | rfl | assumption | (simp; done) | omega)))) ?_
    first | exact ⟨_, fun w h => h.sup (by (repeat (first | exact Sup.refl | apply Sup.cons (by (repeat (first | exact Pick.head | apply Pick.tail | apply Pick.app))) | apply Sup.app | apply Sup.skip | apply Sup.skips))), m, 1, rfl, by omega, by omega, rfl⟩ | exact ⟨_, fun w h => h.sup (by (repeat (first | exact Sup.refl | apply Sup.cons (by (repeat (first | exact Pick.head | apply Pick.tail | apply Pick.app))) | apply Sup.app | apply Sup.skip | apply Sup.skips))), m, 2, rfl, by omega, by omega, rfl⟩ | exact ⟨_, fun w h => h.sup (by (repeat (first | exact Sup.refl | apply Sup.cons (by (repeat (first | exact Pick.head | apply Pick.tail | apply Pick.app))) | apply Sup.app | apply Sup.skip | apply Sup.skips))), m, 0, rfl, by omega, by omega, rfl⟩
  case' hf =>
   intro h
   try (first | (exfalso; omega) | (cases h; done) | (exfalso; simp at h; done) | subst h)
   all_goals
    refine J.seq (J.region (JL.step (y_eql rfl rfl) rfl rfl rfl (JL.step (y_assign rfl) rfl rfl rfl ?_)))
    refine JL.nil (JE.then_normal ?_)
    first | apply J.cond_dec rfl | apply J.cond rfl
    case' ht =>
     intro h
     try (first | (exfalso; omega) | (cases h; done) | (exfalso; simp at h; done) | subst h)
     all_goals
      refine J.seq (J.region (JL.step (y_move rfl) rfl rfl rfl (JL.step (y_assign rfl) rfl rfl rfl (JL.step (y_assign rfl) rfl rfl rfl ?_))))
      refine JL.nil (JE.then_normal (J.ret (JE.block_ret ?_)))
      refine JE.ret2 (.inl rfl) rfl rfl (by (first | exact RV.tmp rfl | exact RV.cell1 hT rfl rfl rfl (by (exact Rd1.row (by (repeat (first | exact Pick.head | apply Pick.tail | apply Pick.app))) (by rfl))) | exact RV.cellN hT rfl rfl rfl (by (first | exact RdN.rowAll (by (repeat (first | exact Pick.head | apply Pick.tail | apply Pick.app))) | exact RdN.own (by (repeat (first | exact Pick.head | apply Pick.tail | apply Pick.app))))) (by (first | rfl | assumption | (simp; done) | omega)))) (by (first | exact RV.tmp rfl | exact RV.cell1 hT rfl rfl rfl (by (exact Rd1.row (by (repeat (first | exact Pick.head | apply Pick.tail | apply Pick.app))) (by rfl))) | exact RV.cellN hT rfl rfl rfl (by (first | exact RdN.rowAll (by (repeat (first | exact Pick.head | apply Pick.tail | apply Pick.app))) | exact RdN.own (by (repeat (first | exact Pick.head | apply Pick.tail | apply Pick.app))))) (by (first | rfl | assumption | (simp; done) | omega)))) ?_
      first | exact ⟨_, fun w h => h.sup (by (repeat (first | exact Sup.refl | apply Sup.cons (by (repeat (first | exact Pick.head | apply Pick.tail | apply Pick.app))) | apply Sup.app | apply Sup.skip | apply Sup.skips))), m, 1, rfl, by omega, by omega, rfl⟩ | exact ⟨_, fun w h => h.sup (by (repeat (first | exact Sup.refl | apply Sup.cons (by (repeat (first | exact Pick.head | apply Pick.tail | apply Pick.app))) | apply Sup.app | apply Sup.skip | apply Sup.skips))), m, 2, rfl, by omega, by omega, rfl⟩ | exact ⟨_, fun w h => h.sup (by (repeat (first | exact Sup.refl | apply Sup.cons (by (repeat (first | exact Pick.head | apply Pick.tail | apply Pick.app))) | apply Sup.app | apply Sup.skip | apply Sup.skips))), m, 0, rfl, by omega, by omega, rfl⟩
    case' hf =>
     intro h
     try (first | (exfalso; omega) | (cases h; done) | (exfalso; simp at h; done) | subst h)
     all_goals
      refine J.seq (J.region (JL.step (y_move rfl) rfl rfl rfl (JL.step (y_assign rfl) rfl rfl rfl (JL.step (y_assign rfl) rfl rfl rfl ?_))))
      refine JL.nil (JE.then_normal (J.ret (JE.block_ret ?_)))
      refine JE.ret2 (.inl rfl) rfl rfl (by (first | exact RV.tmp rfl | exact RV.cell1 hT rfl rfl rfl (by (exact Rd1.row (by (repeat (first | exact Pick.head | apply Pick.tail | apply Pick.app))) (by rfl))) | exact RV.cellN hT rfl rfl rfl (by (first | exact RdN.rowAll (by (repeat (first | exact Pick.head | apply Pick.tail | apply Pick.app))) | exact RdN.own (by (repeat (first | exact Pick.head | apply Pick.tail | apply Pick.app))))) (by (first | rfl | assumption | (simp; done) | omega)))) (by (first | exact RV.tmp rfl | exact RV.cell1 hT rfl rfl rfl (by (exact Rd1.row (by (repeat (first | exact Pick.head | apply Pick.tail | apply Pick.app))) (by rfl))) | exact RV.cellN hT rfl rfl rfl (by (first | exact RdN.rowAll (by (repeat (first | exact Pick.head | apply Pick.tail | apply Pick.app))) | exact RdN.own (by (repeat (first | exact Pick.head | apply Pick.tail | apply Pick.app))))) (by (first | rfl | assumption | (simp; done) | omega)))) ?_
      first | exact ⟨_, fun w h => h.sup (by (repeat (first | exact Sup.refl | apply Sup.cons (by (repeat (first | exact Pick.head | apply Pick.tail | apply Pick.app))) | apply Sup.app | apply Sup.skip | apply Sup.skips))), m, 1, rfl, by omega, by omega, rfl⟩ | exact ⟨_, fun w h => h.sup (by (repeat (first | exact Sup.refl | apply Sup.cons (by (repeat (first | exact Pick.head | apply Pick.tail | apply Pick.app))) | apply Sup.app | apply Sup.skip | apply Sup.skips))), m, 2, rfl, by omega, by omega, rfl⟩ | exact ⟨_, fun w h => h.sup (by (repeat (first | exact Sup.refl | apply Sup.cons (by (repeat (first | exact Pick.head | apply Pick.tail | apply Pick.app))) | apply Sup.app | apply Sup.skip | apply Sup.skips))), m, 0, rfl, by omega, by omega, rfl⟩
end
end
section
open Go Go.SL
section
attribute [local irreducible] J JL JE JM LS Y Fc RV Code.wp wpList Code.wpIn wpListIn
attribute [local irreducible] Yc
attribute [local irreducible] ltF cmpF flE
variable (E : World)
theorem brkF (g c n a b : Nat) (ia ib : Int) (d : Array FlowT) (sp : List Value) (r : List HProp) (ea : ia = a) (eb : ib = b) (hn : d.size = n) (hab : a + 12 < b) (hb : b ≤ n) (h63 : n < 4611686018427387904) :
 Fc prog E 89 [.slice (some ⟨g, 0, none⟩) n c, .int .i64 ia, .int .i64 ib, (Value.func (.func 38) #[] [].toArray)].toArray (arF g d sp :: r) (fun v l' => v = .tuple #[] ∧ ∃ d', Sort.PermIn a b d d' ∧ l' = arF g d' sp :: r) := by
 refine Fc.post ?_
 subst ea eb
 refine Fc.of_body (c := ?codeC) Tryd.func89 ?hb Tryd.ntmps89 ?hl ?_
 case hb => exact rfl
 case hl => exact rfl
 refine J.seq (J.region (JL.step (y_move rfl) rfl rfl rfl (JL.step (y_move rfl) rfl rfl rfl ?_)))
 refine JL.step (y_sub rfl rfl (by (first | exact wrap_i64 (by omega) (by omega) | rfl))) rfl rfl rfl ?_
 refine JL.step (y_assign rfl) rfl rfl rfl ?_
 refine JL.nil (JE.then_normal (J.seq (J.region (JL.step (y_move rfl) rfl rfl rfl (JL.step (y_geq rfl rfl) rfl rfl rfl ?_)))))
 refine JL.nil (JE.then_normal ?_)
 refine J.cond_t rfl (by (first | rfl | assumption | (simp; done) | (simp; omega))) ?_
 refine J.seq (J.region (JL.step (y_move rfl) rfl rfl rfl ?_))
 refine JL.step ((by first | exact y_convToQ hT rfl rfl rfl rfl | exact y_conv hT rfl rfl rfl rfl (by (first | exact wrap_i64 (by omega) (by omega) | rfl)))) rfl rfl rfl ?_
 refine JL.loud rfl (l_alloc hT rfl rfl (by (first | rfl | simp)) rfl (fun b1 => ?_))
 refine JL.loud rfl (l_store1 hT rfl rfl rfl rfl rfl (by (repeat (first | exact Pick.head | apply Pick.tail | apply Pick.app))) (by (first | omega | exact Nat.le_of_ble_eq_true rfl | decide | (simp; omega))) ?_)
 refine JL.nil (JE.then_normal (J.seq (J.region (JL.step (y_move rfl) rfl rfl rfl ?_))))
 refine JL.loud rfl (l_callF e122 rfl rfl (npow E _ (b - a) _ (by omega) (by omega) (by omega)) ?_)
 rintro _ _ ⟨m, rfl, hm1, hm2, rfl⟩
 refine JL.step (y_assign rfl) rfl rfl rfl ?_
 refine JL.nil (JE.then_normal (J.seq (J.region (JL.step (y_move rfl) rfl rfl rfl (JL.step (y_move rfl) rfl rfl rfl ?_)))))
 refine JL.step (y_quo rfl rfl (by decide) (quo_nat (x := b - a) (k := 4) (by omega) (by omega))) rfl rfl rfl ?_
 refine JL.step (y_mul rfl rfl (by (first | exact wrap_i64 (by omega) (by omega) | rfl))) rfl rfl rfl ?_
 refine JL.step (y_add rfl rfl (by (first | exact wrap_i64 (by omega) (by omega) | rfl))) rfl rfl rfl ?_
 refine JL.step (y_sub rfl rfl (by (first | exact wrap_i64 (by omega) (by omega) | rfl))) rfl rfl rfl ?_
 refine JL.step (y_assign rfl) rfl rfl rfl ?_
 refine JL.nil (JE.then_normal (J.block ?_))
 refine J.loop (α := Nat × BitVec 64 × Array FlowT) (fun s => a ≤ s.1 ∧ s.1 < b ∧ s.2.2.size = n ∧ Sort.PermIn a b d s.2.2) (fun s => [(0, .slice (some ⟨g, 0, none⟩) n c), (1, .int .i64 a), (8, .int .i64 ((b - a : Nat) : Int)), (9, .pointer (some ⟨b1, 0, none⟩)), (10, .int .u64 m), (11, .int .i64 s.1), (3, (Value.func (.func 38) #[] [].toArray))]) (fun s => arF g s.2.2 sp :: row b1 157 [Q s.2.1] :: r) (fun s => b - s.1) (a + (b - a) / 4 * 2 - 1, BitVec.ofInt 64 ((b : Int) - a), d) ⟨by dsimp only; omega, by dsimp only; omega, hn, Sort.permIn_refl _ _ _⟩ ⟨rfl, rfl, (congrArg (fun z => some (Value.int .i64 z)) (by first | omega | (dsimp only; omega))), rfl, rfl, (congrArg (fun z => some (Value.int .i64 z)) (by first | omega | (dsimp only; omega))), rfl, trivial⟩ (fun w h => h.sup (by (repeat (first | exact Sup.refl | apply Sup.cons (by (repeat (first | exact Pick.head | apply Pick.tail | apply Pick.app))) | apply Sup.app | apply Sup.skip | apply Sup.skips)))) ?_
 rintro ⟨i, z, d1⟩ ⟨hi1, hi2, hs1, hp1⟩
 try dsimp only at hi1 hi2 hs1 hp1 ⊢
 refine J.seq (J.seq (J.region (JL.step (y_move rfl) rfl rfl rfl (JL.step (y_move rfl) rfl rfl rfl (JL.step (y_move rfl) rfl rfl rfl ?_)))))
 refine JL.step (y_quo rfl rfl (by decide) (quo_nat (x := b - a) (k := 4) (by omega) (by omega))) rfl rfl rfl ?_
 refine JL.step (y_mul rfl rfl (by (first | exact wrap_i64 (by omega) (by omega) | rfl))) rfl rfl rfl ?_
 refine JL.step (y_add rfl rfl (by (first | exact wrap_i64 (by omega) (by omega) | rfl))) rfl rfl rfl ?_
 refine JL.step (y_add rfl rfl (by (first | exact wrap_i64 (by omega) (by omega) | rfl))) rfl rfl rfl ?_
 refine JL.step (y_leq rfl rfl) rfl rfl rfl ?_
 refine JL.nil (JE.then_normal ?_)
 first | apply J.cond_dec rfl | apply J.cond rfl
 case' ht =>
  intro h
  try (first | (exfalso; omega) | (cases h; done) | (exfalso; simp at h; done) | subst h)
  all_goals
   refine J.skip ?_
 case' hf =>
  intro h
  try (first | (exfalso; omega) | (cases h; done) | (exfalso; simp at h; done) | subst h)
  all_goals
   refine J.exit (JE.then_exit (JE.then_exit (JE.block_exit ?_)))
   refine JE.ret0 (.inr rfl) rfl rfl  ?_
   exact ⟨_, fun w h => h.sup (by (repeat (first | exact Sup.refl | apply Sup.cons (by (repeat (first | exact Pick.head | apply Pick.tail | apply Pick.app))) | apply Sup.app | apply Sup.skip | apply Sup.skips))), rfl, d1, hp1, rfl⟩
 all_goals refine JE.then_normal ?_
 all_goals
  refine J.seq (J.block (J.seq (J.region ?_)))
  refine JL.loud rfl (l_callF e123 rfl rfl (Fc.on (Split.cons (by (repeat (first | exact Pick.head | apply Pick.tail | apply Pick.app))) Split.nil) (xnext E _ _ _ _)) ?_)
  rintro _ _ ⟨z', rfl, rfl⟩
  refine JL.step (y_move rfl) rfl rfl rfl ?_
  refine JL.step (y_sub (m := ((m - 1 : Nat) : Int)) rfl rfl (by rw [show ((m : Nat) : Int) - 1 = ((m - 1 : Nat) : Int) by omega]; exact wrap_u64n (by omega))) rfl rfl rfl ?_
  refine JL.step (y_bits (m := ((z'.toNat &&& (m - 1) : Nat) : Int)) rfl rfl (and_nat (by omega))) rfl rfl rfl ?_
  refine JL.step (y_conv (m := ((z'.toNat &&& (m - 1) : Nat) : Int)) hT rfl rfl rfl rfl (wrap_and (by omega))) rfl rfl rfl ?_
  refine JL.step (y_assign rfl) rfl rfl rfl ?_
  refine JL.nil (JE.then_normal ?_)
  refine J.seqK (α := Nat × BitVec 64) (fun q => q.1 < b - a) (fun q => [(0, .slice (some ⟨g, 0, none⟩) n c), (1, .int .i64 a), (8, .int .i64 ((b - a : Nat) : Int)), (9, .pointer (some ⟨b1, 0, none⟩)), (10, .int .u64 m), (11, .int .i64 i), (12, .int .i64 q.1), (3, (Value.func (.func 38) #[] [].toArray))]) (fun q => arF g d1 sp :: row b1 157 [Q q.2] :: r) ?hj10 (fun hk10 => ?hf10)
  case hf10 =>
   refine J.seq (J.region ?_)
   have hle : z'.toNat &&& (m - 1) ≤ m - 1 := Nat.and_le_right
   generalize z'.toNat &&& (m - 1) = o at hle ⊢
   refine JL.step (y_move rfl) rfl rfl rfl (JL.step (y_move rfl) rfl rfl rfl (JL.step (y_geq rfl rfl) rfl rfl rfl ?_))
   refine JL.nil (JE.then_normal ?_)
   first | apply J.cond_dec rfl | apply J.cond rfl
   case' ht =>
    intro h
    try (first | (exfalso; omega) | (cases h; done) | (exfalso; simp at h; done) | subst h)
    all_goals
     refine J.region (JL.step (y_move rfl) rfl rfl rfl (JL.step (y_move rfl) rfl rfl rfl ?_))
     refine JL.step (y_sub rfl rfl (by (first | exact wrap_i64 (by omega) (by omega) | rfl))) rfl rfl rfl ?_
     refine JL.step (y_assign rfl) rfl rfl rfl ?_
     refine JL.nil ?_
   case' hf =>
    intro h
    try (first | (exfalso; omega) | (cases h; done) | (exfalso; simp at h; done) | subst h)
    all_goals
     refine J.skip ?_
   all_goals refine JE.then_normal ?_
   all_goals
    first | exact J.closeK hk10 (o - (b - a), z') (by dsimp only; omega) ⟨rfl, rfl, rfl, rfl, rfl, rfl, (congrArg (fun z => some (Value.int .i64 z)) (by first | omega | (dsimp only; omega))), rfl, trivial⟩ (fun w h => h.sup (by (repeat (first | exact Sup.refl | apply Sup.cons (by (repeat (first | exact Pick.head | apply Pick.tail | apply Pick.app))) | apply Sup.app | apply Sup.skip | apply Sup.skips)))) | exact J.closeK hk10 (o, z') (by dsimp only; omega) ⟨rfl, rfl, rfl, rfl, rfl, rfl, rfl, rfl, trivial⟩ (fun w h => h.sup (by (repeat (first | exact Sup.refl | apply Sup.cons (by (repeat (first | exact Pick.head | apply Pick.tail | apply Pick.app))) | apply Sup.app | apply Sup.skip | apply Sup.skips))))
  rintro ⟨o, z2⟩ ho
  dsimp only at ho ⊢
  refine J.draw _ _ [(0, .q), (1, .q), (2, .q), (3, .q), (4, .q), (5, .q), (6, .q), (7, .q), (8, .q), (9, .q), (10, .q), (12, .q), (13, .q), (14, .q), (11, .e), (15, .e), (16, .q), (17, .l), (18, .q), (19, .l)] mixed (by kernel_rfl) (Split.cons (Pick.head) (Split.nil)) ?_
  refine JM.quiet rfl rfl rfl rfl (fun m => y_move rfl) (JM.quiet rfl rfl rfl rfl (fun m => y_move rfl) (JM.quiet rfl rfl rfl rfl (fun m => y_move rfl) (JM.quiet rfl rfl rfl rfl (fun m => y_move rfl) (JM.quiet rfl rfl rfl rfl (fun m => y_move rfl) ?_))))
  refine JM.quiet rfl rfl rfl rfl (fun m => y_add rfl rfl (by (first | exact wrap_i64 (by omega) (by omega) | rfl))) ?_
  refine JM.quiet rfl rfl rfl rfl (fun m => y_move rfl) (JM.quiet rfl rfl rfl rfl (fun m => y_move rfl) (JM.quiet rfl rfl rfl rfl (fun m => y_move rfl) ?_))
  refine JM.quiet rfl rfl rfl rfl (fun m => y_add rfl rfl (by (first | exact wrap_i64 (by omega) (by omega) | rfl))) ?_
  refine JM.quiet rfl rfl rfl rfl (fun m => y_indexAddr_slice hT rfl rfl rfl rfl rfl (by (first | omega | exact Nat.le_of_ble_eq_true rfl | decide | (simp; omega))) (by (first | omega | exact Nat.le_of_ble_eq_true rfl | decide | (simp; omega)))) ?_
  refine JM.quiet rfl rfl rfl rfl (fun m => y_move rfl) (JM.quiet rfl rfl rfl rfl (fun m => y_move rfl) ?_)
  refine JM.quiet rfl rfl rfl rfl (fun m => y_indexAddr_slice hT rfl rfl rfl rfl rfl (by (first | omega | exact Nat.le_of_ble_eq_true rfl | decide | (simp; omega))) (by (first | omega | exact Nat.le_of_ble_eq_true rfl | decide | (simp; omega)))) ?_
  refine JM.early rfl rfl rfl rfl (fun fr => y_loadN hT rfl rfl rfl (RdN.arr (i := (a + o)) (by (repeat (first | exact Pick.head | apply Pick.tail | apply Pick.app))) hkE (by (first | assumption | omega | (simp only [Array.size_setIfInBounds]; omega))) (by exact arr_off rfl (by omega))) (by (first | rfl | assumption | exact hkE _ | simp))) ?_
  refine JM.early rfl rfl rfl rfl (fun fr => y_loadN hT rfl rfl rfl (RdN.arr (i := (i)) (by (repeat (first | exact Pick.head | apply Pick.tail | apply Pick.app))) hkE (by (first | assumption | omega | (simp only [Array.size_setIfInBounds]; omega))) (by exact arr_off rfl (by omega))) (by (first | rfl | assumption | exact hkE _ | simp))) ?_
  refine JM.quiet rfl rfl rfl rfl (fun m => y_indexAddr_slice hT rfl rfl rfl rfl rfl (by (first | omega | exact Nat.le_of_ble_eq_true rfl | decide | (simp; omega))) (by (first | omega | exact Nat.le_of_ble_eq_true rfl | decide | (simp; omega)))) ?_
  refine JM.loud rfl rfl (fun fr => l_storeArrN (j := (i)) hT rfl rfl rfl hkE rfl hoE (by (repeat (first | exact Pick.head | apply Pick.tail | apply Pick.app))) (by (first | assumption | omega | (simp only [Array.size_setIfInBounds]; omega))) (by exact arr_off rfl (by omega)) (⟨[_], (by (repeat (first | exact Split.nil | exact Split.all | refine Split.cons Pick.head ?_))), ?_⟩))
  refine JM.quiet rfl rfl rfl rfl (fun m => y_indexAddr_slice hT rfl rfl rfl rfl rfl (by (first | omega | exact Nat.le_of_ble_eq_true rfl | decide | (simp; omega))) (by (first | omega | exact Nat.le_of_ble_eq_true rfl | decide | (simp; omega)))) ?_
  refine JM.loud rfl rfl (fun fr => l_storeArrN (j := (a + o)) hT rfl rfl rfl hkE rfl hoE (by (repeat (first | exact Pick.head | apply Pick.tail | apply Pick.app))) (by (first | assumption | omega | (simp only [Array.size_setIfInBounds]; omega))) (by exact arr_off rfl (by omega)) (⟨[_], (by (repeat (first | exact Split.nil | exact Split.all | refine Split.cons Pick.head ?_))), ?_⟩))
  refine JM.nil ?_
  all_goals refine JE.block_normal (JE.then_normal ?_)
  all_goals
   refine J.region (JL.step (y_move rfl) rfl rfl rfl ?_)
   refine JL.step (y_add rfl rfl (by (first | exact wrap_i64 (by omega) (by omega) | rfl))) rfl rfl rfl ?_
   refine JL.step (y_assign rfl) rfl rfl rfl ?_
   refine JL.nil ?_
 all_goals
  exact JE.round (s := (i, z, d1)) (i + 1, z2, Sort.swp d1 i (a + o)) ⟨by dsimp only; omega, by dsimp only; omega, by dsimp only; rw [swp_size]; exact hs1, Sort.permIn_trans _ _ _ _ _ hp1 (Sort.swp_permIn d1 a b i (a + o) hi1 hi2 (by omega) (by omega) (by omega))⟩ ⟨rfl, rfl, rfl, rfl, rfl, (congrArg (fun z => some (Value.int .i64 z)) (by first | omega | (dsimp only; omega))), rfl, trivial⟩ (fun w h => h.sup (by (repeat (first | exact Sup.refl | apply Sup.cons (by (repeat (first | exact Pick.head | apply Pick.tail | apply Pick.app))) | apply Sup.app | apply Sup.skip | apply Sup.skips)))) (by dsimp only; omega)
end
end
section
open Go Go.SL
section
attribute [local irreducible] J JL JE JM LS Y Fc RV Code.wp wpList Code.wpIn wpListIn
attribute [local irreducible] Yc
attribute [local irreducible] ltF cmpF flE
variable (E : World)
theorem partEqF (g c n a b p : Nat) (ia ib ip : Int) (d : Array FlowT) (sp : List Value) (r : List HProp) (ea : ia = a) (eb : ib = b) (ep : ip = p) (hn : d.size = n) (hp1 : a ≤ p) (hp2 : p < b) (hb : b ≤ n) (h63 : n < 4611686018427387904) :
 Fc prog E 93 [.slice (some ⟨g, 0, none⟩) n c, .int .i64 ia, .int .i64 ib, .int .i64 ip, (Value.func (.func 38) #[] [].toArray)].toArray (arF g d sp :: r) (fun v l' => v = .int .i64 ((Sort.partitionEqual ltF d a b p).1 : Int) ∧ l' = arF g (Sort.partitionEqual ltF d a b p).2 sp :: r) := by
 refine Fc.eqs ?_
 subst ea eb ep
 refine Fc.of_body (c := ?codeC) Tryd.func93 ?hb Tryd.ntmps93 ?hl ?_
 case hb => exact rfl
 case hl => exact rfl
 refine J.seq (J.region (JL.step (y_assign rfl) rfl rfl rfl ?_))
 refine JL.nil (JE.then_normal (J.seq ?_))
 refine J.draw _ _ [(0, .q), (1, .q), (2, .q), (3, .q), (4, .q), (5, .q), (6, .q), (8, .q), (9, .q), (10, .q), (7, .e), (11, .e), (12, .q), (13, .l), (14, .q), (15, .l)] mixed (by kernel_rfl) (Split.cons (Pick.head) (Split.nil)) ?_
 refine JM.quiet rfl rfl rfl rfl (fun m => y_move rfl) (JM.quiet rfl rfl rfl rfl (fun m => y_move rfl) (JM.quiet rfl rfl rfl rfl (fun m => y_move rfl) (JM.quiet rfl rfl rfl rfl (fun m => y_move rfl) (JM.quiet rfl rfl rfl rfl (fun m => y_move rfl) (JM.quiet rfl rfl rfl rfl (fun m => y_move rfl) ?_)))))
 refine JM.quiet rfl rfl rfl rfl (fun m => y_indexAddr_slice hT rfl rfl rfl rfl rfl (by (first | omega | exact Nat.le_of_ble_eq_true rfl | decide | (simp; omega))) (by (first | omega | exact Nat.le_of_ble_eq_true rfl | decide | (simp; omega)))) ?_
 refine JM.quiet rfl rfl rfl rfl (fun m => y_move rfl) (JM.quiet rfl rfl rfl rfl (fun m => y_move rfl) ?_)
 refine JM.quiet rfl rfl rfl rfl (fun m => y_indexAddr_slice hT rfl rfl rfl rfl rfl (by (first | omega | exact Nat.le_of_ble_eq_true rfl | decide | (simp; omega))) (by (first | omega | exact Nat.le_of_ble_eq_true rfl | decide | (simp; omega)))) ?_
 refine JM.early rfl rfl rfl rfl (fun fr => y_loadN hT rfl rfl rfl (RdN.arr (i := (p)) (by (repeat (first | exact Pick.head | apply Pick.tail | apply Pick.app))) hkE (by (first | assumption | omega | (simp only [Array.size_setIfInBounds]; omega))) (by exact arr_off rfl (by omega))) (by (first | rfl | assumption | exact hkE _ | simp))) ?_
 refine JM.early rfl rfl rfl rfl (fun fr => y_loadN hT rfl rfl rfl (RdN.arr (i := (a)) (by (repeat (first | exact Pick.head | apply Pick.tail | apply Pick.app))) hkE (by (first | assumption | omega | (simp only [Array.size_setIfInBounds]; omega))) (by exact arr_off rfl (by omega))) (by (first | rfl | assumption | exact hkE _ | simp))) ?_
 refine JM.quiet rfl rfl rfl rfl (fun m => y_indexAddr_slice hT rfl rfl rfl rfl rfl (by (first | omega | exact Nat.le_of_ble_eq_true rfl | decide | (simp; omega))) (by (first | omega | exact Nat.le_of_ble_eq_true rfl | decide | (simp; omega)))) ?_
 refine JM.loud rfl rfl (fun fr => l_storeArrN (j := (a)) hT rfl rfl rfl hkE rfl hoE (by (repeat (first | exact Pick.head | apply Pick.tail | apply Pick.app))) (by (first | assumption | omega | (simp only [Array.size_setIfInBounds]; omega))) (by exact arr_off rfl (by omega)) (⟨[_], (by (repeat (first | exact Split.nil | exact Split.all | refine Split.cons Pick.head ?_))), ?_⟩))
 refine JM.quiet rfl rfl rfl rfl (fun m => y_indexAddr_slice hT rfl rfl rfl rfl rfl (by (first | omega | exact Nat.le_of_ble_eq_true rfl | decide | (simp; omega))) (by (first | omega | exact Nat.le_of_ble_eq_true rfl | decide | (simp; omega)))) ?_
 refine JM.loud rfl rfl (fun fr => l_storeArrN (j := (p)) hT rfl rfl rfl hkE rfl hoE (by (repeat (first | exact Pick.head | apply Pick.tail | apply Pick.app))) (by (first | assumption | omega | (simp only [Array.size_setIfInBounds]; omega))) (by exact arr_off rfl (by omega)) (⟨[_], (by (repeat (first | exact Split.nil | exact Split.all | refine Split.cons Pick.head ?_))), ?_⟩))
 refine JM.nil (JE.then_normal (J.seq (J.region (JL.step (y_move rfl) rfl rfl rfl ?_))))
 refine JL.step (y_add rfl rfl (by (first | exact wrap_i64 (by omega) (by omega) | rfl))) rfl rfl rfl ?_
 refine JL.step (y_move rfl) rfl rfl rfl ?_
 refine JL.step (y_sub rfl rfl (by (first | exact wrap_i64 (by omega) (by omega) | rfl))) rfl rfl rfl ?_
 refine JL.step (y_assign rfl) rfl rfl rfl (JL.step (y_assign rfl) rfl rfl rfl ?_)
 refine JL.nil (JE.then_normal (J.seq (J.block ?_)))
 refine J.loop (α := Nat × Nat × Array FlowT) (fun s => a < s.1 ∧ s.1 ≤ b ∧ s.2.1 < b ∧ s.1 ≤ s.2.1 + 1 ∧ s.2.2.size = n ∧ Sort.partEqLoop ltF a s.1 s.2.1 s.2.2 = Sort.partitionEqual ltF d a b p) (fun s => [(0, .slice (some ⟨g, 0, none⟩) n c), (1, .int .i64 a), (11, .int .i64 s.1), (12, .int .i64 s.2.1), (4, (Value.func (.func 38) #[] [].toArray))]) (fun s => arF g s.2.2 sp :: r) (fun s => s.2.1 + 1 - s.1) (a + 1, b - 1, Sort.swp d a p) ⟨by dsimp only; omega, by dsimp only; omega, by dsimp only; omega, by dsimp only; omega, by dsimp only; rw [swp_size]; exact hn, rfl⟩ ⟨rfl, rfl, (congrArg (fun z => some (Value.int .i64 z)) (by first | omega | (dsimp only; omega))), (congrArg (fun z => some (Value.int .i64 z)) (by first | omega | (dsimp only; omega))), rfl, trivial⟩ (fun w h => h) ?_
 rintro ⟨i, j, d1⟩ ⟨hi1, hi2, hj1, hij, hs1, he1⟩
 try dsimp only at hi1 hi2 hj1 hij hs1 he1 ⊢
 rw [Sort.partEqLoop_eq] at he1
 refine J.block (J.seq (J.block ?_))
 refine J.loop (α := Nat) (fun x => i ≤ x ∧ x ≤ j + 1 ∧ Sort.scanUp (fun x => !ltF d1[a]! x) d1 j x = Sort.scanUp (fun x => !ltF d1[a]! x) d1 j i) (fun x => [(0, .slice (some ⟨g, 0, none⟩) n c), (1, .int .i64 a), (11, .int .i64 x), (12, .int .i64 j), (4, (Value.func (.func 38) #[] [].toArray))]) (fun x => arF g d1 sp :: r) (fun x => j + 1 - x) i ⟨Nat.le_refl _, hij, rfl⟩ ⟨rfl, rfl, rfl, rfl, rfl, trivial⟩ (fun w h => h) ?_
 rintro x ⟨hx1, hx2, hx3⟩
 try dsimp only at hx1 hx2 hx3 ⊢
 refine J.seq (J.seq ?_)
 by_cases hg : x ≤ j
 all_goals
  refine J.draw _ _ [(0, .q), (1, .q), (2, .q), (3, .q), (4, .q), (5, .q), (6, .q), (7, .q), (8, .q), (9, .q), (10, .q), (11, .q), (12, .q), (13, .q), (14, .q), (15, .q), (16, .q)] mixed (by kernel_rfl) (Split.nil) ?_
  refine JM.quiet rfl rfl rfl rfl (fun m => y_move rfl) (JM.quiet rfl rfl rfl rfl (fun m => y_move rfl) ?_)
  first | refine JM.quiet rfl rfl rfl rfl (fun m => y_leqB rfl rfl (decide_eq_true (by omega))) ?_ | refine JM.quiet rfl rfl rfl rfl (fun m => y_leqB rfl rfl (decide_eq_false (by omega))) ?_
  refine JM.quiet rfl rfl rfl rfl (fun m => y_move rfl) ?_
  all_goals (first | refine JM.gskip rfl rfl rfl rfl rfl rfl rfl ?_ | refine JM.gskipU rfl rfl rfl rfl rfl rfl ?_ | refine JM.gquiet rfl rfl rfl rfl rfl rfl (fun m => y_move rfl) ?_)
  all_goals (first | refine JM.gskip rfl rfl rfl rfl rfl rfl rfl ?_ | refine JM.gskipU rfl rfl rfl rfl rfl rfl ?_ | refine JM.gquiet rfl rfl rfl rfl rfl rfl (fun m => y_move rfl) ?_)
  all_goals (first | refine JM.gskip rfl rfl rfl rfl rfl rfl rfl ?_ | refine JM.gskipU rfl rfl rfl rfl rfl rfl ?_ | refine JM.gquiet rfl rfl rfl rfl rfl rfl (fun m => y_move rfl) ?_)
  all_goals (first | refine JM.gskip rfl rfl rfl rfl rfl rfl rfl ?_ | refine JM.gskipU rfl rfl rfl rfl rfl rfl ?_ | refine JM.gquiet rfl rfl rfl rfl rfl rfl (fun m => y_indexAddr_slice hT rfl rfl rfl rfl rfl (by (first | omega | exact Nat.le_of_ble_eq_true rfl | decide | (simp; omega))) (by (first | omega | exact Nat.le_of_ble_eq_true rfl | decide | (simp; omega)))) ?_)
  all_goals (first | refine JM.gskip rfl rfl rfl rfl rfl rfl rfl ?_ | refine JM.gskipU rfl rfl rfl rfl rfl rfl ?_ | refine JM.gquiet rfl rfl rfl rfl rfl rfl (fun m => y_loadN hT rfl rfl rfl (RdN.arr (i := (a)) (Pick.app m (by (repeat (first | exact Pick.head | apply Pick.tail | apply Pick.app)))) hkE (by (first | assumption | omega | (simp only [Array.size_setIfInBounds]; omega))) (by exact arr_off rfl (by omega))) (by (first | rfl | assumption | exact hkE _ | simp))) ?_)
  all_goals (first | refine JM.gskip rfl rfl rfl rfl rfl rfl rfl ?_ | refine JM.gskipU rfl rfl rfl rfl rfl rfl ?_ | refine JM.gquiet rfl rfl rfl rfl rfl rfl (fun m => y_move rfl) ?_)
  all_goals (first | refine JM.gskip rfl rfl rfl rfl rfl rfl rfl ?_ | refine JM.gskipU rfl rfl rfl rfl rfl rfl ?_ | refine JM.gquiet rfl rfl rfl rfl rfl rfl (fun m => y_move rfl) ?_)
  all_goals (first | refine JM.gskip rfl rfl rfl rfl rfl rfl rfl ?_ | refine JM.gskipU rfl rfl rfl rfl rfl rfl ?_ | refine JM.gquiet rfl rfl rfl rfl rfl rfl (fun m => y_indexAddr_slice hT rfl rfl rfl rfl rfl (by (first | omega | exact Nat.le_of_ble_eq_true rfl | decide | (simp; omega))) (by (first | omega | exact Nat.le_of_ble_eq_true rfl | decide | (simp; omega)))) ?_)
  all_goals (first | refine JM.gskip rfl rfl rfl rfl rfl rfl rfl ?_ | refine JM.gskipU rfl rfl rfl rfl rfl rfl ?_ | refine JM.gquiet rfl rfl rfl rfl rfl rfl (fun m => y_loadN hT rfl rfl rfl (RdN.arr (i := (x)) (Pick.app m (by (repeat (first | exact Pick.head | apply Pick.tail | apply Pick.app)))) hkE (by (first | assumption | omega | (simp only [Array.size_setIfInBounds]; omega))) (by exact arr_off rfl (by omega))) (by (first | rfl | assumption | exact hkE _ | simp))) ?_)
  all_goals (first | refine JM.gskip rfl rfl rfl rfl rfl rfl rfl ?_ | refine JM.gskipU rfl rfl rfl rfl rfl rfl ?_ | refine JM.gquiet rfl rfl rfl rfl rfl rfl (fun m => y_callV e38 rfl rfl (flowCmp E _ _ _)) ?_)
  all_goals (first | refine JM.gskip rfl rfl rfl rfl rfl rfl rfl ?_ | refine JM.gskipU rfl rfl rfl rfl rfl rfl ?_ | refine JM.gquiet rfl rfl rfl rfl rfl rfl (fun m => y_ltF E rfl rfl) ?_)
  all_goals (first | refine JM.gskip rfl rfl rfl rfl rfl rfl rfl ?_ | refine JM.gskipU rfl rfl rfl rfl rfl rfl ?_ | refine JM.gquiet rfl rfl rfl rfl rfl rfl (fun m => y_not rfl) ?_)
  all_goals refine JM.quiet rfl rfl rfl rfl (fun m => y_pick rfl rfl rfl) ?_
  all_goals refine JM.nil ?_
 all_goals refine JE.then_normal ?_
 all_goals
  first | apply J.cond_dec rfl | apply J.cond rfl
  case' ht =>
   intro h
   try (first | (exfalso; omega) | (cases h; done) | (exfalso; simp at h; done) | subst h)
   all_goals
    rw [scanUp_go (by omega) h] at hx3
    refine J.skip ?_
  case' hf =>
   intro h
   try (first | (exfalso; omega) | (cases h; done) | (exfalso; simp at h; done) | subst h)
   all_goals
    have st1 : j < x ∨ ltF d1[a]! d1[x]! = true := by first | exact .inl (by omega) | exact .inr (by simpa using h)
    rw [scanUp_stop (by first | exact .inl (by omega) | exact .inr h)] at hx3
    rw [← hx3] at he1
    refine J.exit (JE.then_exit (JE.then_exit (JE.block_exit (JE.then_normal (J.seq (J.block ?_))))))
    refine J.loop (α := Nat) (fun y => y ≤ j ∧ x ≤ y + 1 ∧ Sort.scanDown (fun x => ltF d1[a]! x) d1 x y = Sort.scanDown (fun x => ltF d1[a]! x) d1 x j) (fun y => [(0, .slice (some ⟨g, 0, none⟩) n c), (1, .int .i64 a), (11, .int .i64 x), (12, .int .i64 y), (4, (Value.func (.func 38) #[] [].toArray))]) (fun x => arF g d1 sp :: r) (fun y => y) j ⟨Nat.le_refl _, hx2, rfl⟩ ⟨rfl, rfl, rfl, rfl, rfl, trivial⟩ (fun w h => h) ?_
    rintro y ⟨hy1, hy2, hy3⟩
    try dsimp only at hy1 hy2 hy3 ⊢
    refine J.seq (J.seq ?_)
    by_cases hg : x ≤ y
    all_goals
     refine J.draw _ _ [(0, .q), (1, .q), (2, .q), (3, .q), (4, .q), (5, .q), (6, .q), (7, .q), (8, .q), (9, .q), (10, .q), (11, .q), (12, .q), (13, .q), (14, .q), (15, .q)] mixed (by kernel_rfl) (Split.nil) ?_
     refine JM.quiet rfl rfl rfl rfl (fun m => y_move rfl) (JM.quiet rfl rfl rfl rfl (fun m => y_move rfl) ?_)
     first | refine JM.quiet rfl rfl rfl rfl (fun m => y_leqB rfl rfl (decide_eq_true (by omega))) ?_ | refine JM.quiet rfl rfl rfl rfl (fun m => y_leqB rfl rfl (decide_eq_false (by omega))) ?_
     refine JM.quiet rfl rfl rfl rfl (fun m => y_move rfl) ?_
     all_goals (first | refine JM.gskip rfl rfl rfl rfl rfl rfl rfl ?_ | refine JM.gskipU rfl rfl rfl rfl rfl rfl ?_ | refine JM.gquiet rfl rfl rfl rfl rfl rfl (fun m => y_move rfl) ?_)
     all_goals (first | refine JM.gskip rfl rfl rfl rfl rfl rfl rfl ?_ | refine JM.gskipU rfl rfl rfl rfl rfl rfl ?_ | refine JM.gquiet rfl rfl rfl rfl rfl rfl (fun m => y_move rfl) ?_)
     all_goals (first | refine JM.gskip rfl rfl rfl rfl rfl rfl rfl ?_ | refine JM.gskipU rfl rfl rfl rfl rfl rfl ?_ | refine JM.gquiet rfl rfl rfl rfl rfl rfl (fun m => y_move rfl) ?_)
     all_goals (first | refine JM.gskip rfl rfl rfl rfl rfl rfl rfl ?_ | refine JM.gskipU rfl rfl rfl rfl rfl rfl ?_ | refine JM.gquiet rfl rfl rfl rfl rfl rfl (fun m => y_indexAddr_slice hT rfl rfl rfl rfl rfl (by (first | omega | exact Nat.le_of_ble_eq_true rfl | decide | (simp; omega))) (by (first | omega | exact Nat.le_of_ble_eq_true rfl | decide | (simp; omega)))) ?_)
     all_goals (first | refine JM.gskip rfl rfl rfl rfl rfl rfl rfl ?_ | refine JM.gskipU rfl rfl rfl rfl rfl rfl ?_ | refine JM.gquiet rfl rfl rfl rfl rfl rfl (fun m => y_loadN hT rfl rfl rfl (RdN.arr (i := (a)) (Pick.app m (by (repeat (first | exact Pick.head | apply Pick.tail | apply Pick.app)))) hkE (by (first | assumption | omega | (simp only [Array.size_setIfInBounds]; omega))) (by exact arr_off rfl (by omega))) (by (first | rfl | assumption | exact hkE _ | simp))) ?_)
     all_goals (first | refine JM.gskip rfl rfl rfl rfl rfl rfl rfl ?_ | refine JM.gskipU rfl rfl rfl rfl rfl rfl ?_ | refine JM.gquiet rfl rfl rfl rfl rfl rfl (fun m => y_move rfl) ?_)
     all_goals (first | refine JM.gskip rfl rfl rfl rfl rfl rfl rfl ?_ | refine JM.gskipU rfl rfl rfl rfl rfl rfl ?_ | refine JM.gquiet rfl rfl rfl rfl rfl rfl (fun m => y_move rfl) ?_)
     all_goals (first | refine JM.gskip rfl rfl rfl rfl rfl rfl rfl ?_ | refine JM.gskipU rfl rfl rfl rfl rfl rfl ?_ | refine JM.gquiet rfl rfl rfl rfl rfl rfl (fun m => y_indexAddr_slice hT rfl rfl rfl rfl rfl (by (first | omega | exact Nat.le_of_ble_eq_true rfl | decide | (simp; omega))) (by (first | omega | exact Nat.le_of_ble_eq_true rfl | decide | (simp; omega)))) ?_)
     all_goals (first | refine JM.gskip rfl rfl rfl rfl rfl rfl rfl ?_ | refine JM.gskipU rfl rfl rfl rfl rfl rfl ?_ | refine JM.gquiet rfl rfl rfl rfl rfl rfl (fun m => y_loadN hT rfl rfl rfl (RdN.arr (i := (y)) (Pick.app m (by (repeat (first | exact Pick.head | apply Pick.tail | apply Pick.app)))) hkE (by (first | assumption | omega | (simp only [Array.size_setIfInBounds]; omega))) (by exact arr_off rfl (by omega))) (by (first | rfl | assumption | exact hkE _ | simp))) ?_)
     all_goals (first | refine JM.gskip rfl rfl rfl rfl rfl rfl rfl ?_ | refine JM.gskipU rfl rfl rfl rfl rfl rfl ?_ | refine JM.gquiet rfl rfl rfl rfl rfl rfl (fun m => y_callV e38 rfl rfl (flowCmp E _ _ _)) ?_)
     all_goals (first | refine JM.gskip rfl rfl rfl rfl rfl rfl rfl ?_ | refine JM.gskipU rfl rfl rfl rfl rfl rfl ?_ | refine JM.gquiet rfl rfl rfl rfl rfl rfl (fun m => y_ltF E rfl rfl) ?_)
     all_goals refine JM.quiet rfl rfl rfl rfl (fun m => y_pick rfl rfl rfl) ?_
     all_goals refine JM.nil ?_
    all_goals refine JE.then_normal ?_
    all_goals
     first | apply J.cond_dec rfl | apply J.cond rfl
     case' ht =>
      intro h
      try (first | (exfalso; omega) | (cases h; done) | (exfalso; simp at h; done) | subst h)
      all_goals
       rw [scanDown_go (by omega) (by omega) h] at hy3
       refine J.skip ?_
     case' hf =>
      intro h
      try (first | (exfalso; omega) | (cases h; done) | (exfalso; simp at h; done) | subst h)
      all_goals
       have st2 : y < x ∨ ltF d1[a]! d1[y]! = false := by first | exact .inl (by omega) | exact .inr h
       rw [scanDown_stop (by first | exact .inl (by omega) | exact .inr h)] at hy3
       rw [← hy3] at he1
       refine J.exit (JE.then_exit (JE.then_exit (JE.block_exit (JE.then_normal (J.seq (J.seq (J.region (JL.step (y_move rfl) rfl rfl rfl (JL.step (y_move rfl) rfl rfl rfl (JL.step (y_gtr rfl rfl) rfl rfl rfl ?_))))))))))
       refine JL.nil (JE.then_normal ?_)
       first | apply J.cond_dec rfl | apply J.cond rfl
       case' ht =>
        intro h
        try (first | (exfalso; omega) | (cases h; done) | (exfalso; simp at h; done) | subst h)
        all_goals
         rw [if_pos (by omega)] at he1
         refine J.exit (JE.then_exit ?_)
         refine JE.block_past rfl ?_
         refine JE.then_exit (JE.block_exit (JE.then_normal (J.seq (J.region (JL.step (y_move rfl) rfl rfl rfl (JL.step (y_assign rfl) rfl rfl rfl ?_))))))
         refine JL.nil (JE.then_normal (J.ret ?_))
         refine JE.ret1 (.inl rfl) rfl rfl (by (first | exact RV.tmp rfl | exact RV.cell1 hT rfl rfl rfl (by (exact Rd1.row (by (repeat (first | exact Pick.head | apply Pick.tail | apply Pick.app))) (by rfl))) | exact RV.cellN hT rfl rfl rfl (by (first | exact RdN.rowAll (by (repeat (first | exact Pick.head | apply Pick.tail | apply Pick.app))) | exact RdN.own (by (repeat (first | exact Pick.head | apply Pick.tail | apply Pick.app))))) (by (first | rfl | assumption | (simp; done) | omega)))) ?_
         exact ⟨by rw [← he1], fun w h => by rw [← he1]; exact h⟩
       case' hf =>
        intro h
        try (first | (exfalso; omega) | (cases h; done) | (exfalso; simp at h; done) | subst h)
        all_goals
         rw [if_neg (by omega)] at he1
         have hne : ¬ x = y := by
          rintro rfl
          rcases st1 with q | q
          · omega
          · rcases st2 with q2 | q2
            · omega
            · rw [q] at q2; cases q2
         refine J.skip ?_
       all_goals refine JE.then_normal ?_
       all_goals
        refine J.seq ?_
        refine J.draw _ _ [(0, .q), (1, .q), (2, .q), (3, .q), (4, .q), (5, .q), (6, .q), (8, .q), (9, .q), (10, .q), (7, .e), (11, .e), (12, .q), (13, .l), (14, .q), (15, .l)] mixed (by kernel_rfl) (Split.cons (Pick.head) (Split.nil)) ?_
        refine JM.quiet rfl rfl rfl rfl (fun m => y_move rfl) (JM.quiet rfl rfl rfl rfl (fun m => y_move rfl) (JM.quiet rfl rfl rfl rfl (fun m => y_move rfl) (JM.quiet rfl rfl rfl rfl (fun m => y_move rfl) (JM.quiet rfl rfl rfl rfl (fun m => y_move rfl) (JM.quiet rfl rfl rfl rfl (fun m => y_move rfl) ?_)))))
        refine JM.quiet rfl rfl rfl rfl (fun m => y_indexAddr_slice hT rfl rfl rfl rfl rfl (by (first | omega | exact Nat.le_of_ble_eq_true rfl | decide | (simp; omega))) (by (first | omega | exact Nat.le_of_ble_eq_true rfl | decide | (simp; omega)))) ?_
        refine JM.quiet rfl rfl rfl rfl (fun m => y_move rfl) (JM.quiet rfl rfl rfl rfl (fun m => y_move rfl) ?_)
        refine JM.quiet rfl rfl rfl rfl (fun m => y_indexAddr_slice hT rfl rfl rfl rfl rfl (by (first | omega | exact Nat.le_of_ble_eq_true rfl | decide | (simp; omega))) (by (first | omega | exact Nat.le_of_ble_eq_true rfl | decide | (simp; omega)))) ?_
        refine JM.early rfl rfl rfl rfl (fun fr => y_loadN hT rfl rfl rfl (RdN.arr (i := (y)) (by (repeat (first | exact Pick.head | apply Pick.tail | apply Pick.app))) hkE (by (first | assumption | omega | (simp only [Array.size_setIfInBounds]; omega))) (by exact arr_off rfl (by omega))) (by (first | rfl | assumption | exact hkE _ | simp))) ?_
        refine JM.early rfl rfl rfl rfl (fun fr => y_loadN hT rfl rfl rfl (RdN.arr (i := (x)) (by (repeat (first | exact Pick.head | apply Pick.tail | apply Pick.app))) hkE (by (first | assumption | omega | (simp only [Array.size_setIfInBounds]; omega))) (by exact arr_off rfl (by omega))) (by (first | rfl | assumption | exact hkE _ | simp))) ?_
        refine JM.quiet rfl rfl rfl rfl (fun m => y_indexAddr_slice hT rfl rfl rfl rfl rfl (by (first | omega | exact Nat.le_of_ble_eq_true rfl | decide | (simp; omega))) (by (first | omega | exact Nat.le_of_ble_eq_true rfl | decide | (simp; omega)))) ?_
        refine JM.loud rfl rfl (fun fr => l_storeArrN (j := (x)) hT rfl rfl rfl hkE rfl hoE (by (repeat (first | exact Pick.head | apply Pick.tail | apply Pick.app))) (by (first | assumption | omega | (simp only [Array.size_setIfInBounds]; omega))) (by exact arr_off rfl (by omega)) (⟨[_], (by (repeat (first | exact Split.nil | exact Split.all | refine Split.cons Pick.head ?_))), ?_⟩))
        refine JM.quiet rfl rfl rfl rfl (fun m => y_indexAddr_slice hT rfl rfl rfl rfl rfl (by (first | omega | exact Nat.le_of_ble_eq_true rfl | decide | (simp; omega))) (by (first | omega | exact Nat.le_of_ble_eq_true rfl | decide | (simp; omega)))) ?_
        refine JM.loud rfl rfl (fun fr => l_storeArrN (j := (y)) hT rfl rfl rfl hkE rfl hoE (by (repeat (first | exact Pick.head | apply Pick.tail | apply Pick.app))) (by (first | assumption | omega | (simp only [Array.size_setIfInBounds]; omega))) (by exact arr_off rfl (by omega)) (⟨[_], (by (repeat (first | exact Split.nil | exact Split.all | refine Split.cons Pick.head ?_))), ?_⟩))
        refine JM.nil (JE.then_normal (J.seq (J.region (JL.step (y_move rfl) rfl rfl rfl ?_))))
        refine JL.step (y_add rfl rfl (by (first | exact wrap_i64 (by omega) (by omega) | rfl))) rfl rfl rfl ?_
        refine JL.step (y_assign rfl) rfl rfl rfl ?_
        refine JL.nil (JE.then_normal (J.region (JL.step (y_move rfl) rfl rfl rfl ?_)))
        refine JL.step (y_sub rfl rfl (by (first | exact wrap_i64 (by omega) (by omega) | rfl))) rfl rfl rfl ?_
        refine JL.step (y_assign rfl) rfl rfl rfl ?_
        refine JL.nil ?_
       all_goals
        refine JE.block_normal ?_
        exact JE.round (s := (i, j, d1)) (x + 1, y - 1, Sort.swp d1 x y) ⟨by dsimp only; omega, by dsimp only; omega, by dsimp only; omega, by dsimp only; omega, by dsimp only; rw [swp_size]; exact hs1, he1⟩ ⟨rfl, rfl, (congrArg (fun z => some (Value.int .i64 z)) (by first | omega | (dsimp only; omega))), (congrArg (fun z => some (Value.int .i64 z)) (by first | omega | (dsimp only; omega))), rfl, trivial⟩ (fun w h => h) (by dsimp only; omega)
    all_goals refine JE.then_normal ?_
    all_goals
     refine J.block (J.region (JL.step (y_move rfl) rfl rfl rfl ?_))
     refine JL.step (y_sub rfl rfl (by (first | exact wrap_i64 (by omega) (by omega) | rfl))) rfl rfl rfl ?_
     refine JL.step (y_assign rfl) rfl rfl rfl ?_
     refine JL.nil (JE.block_normal ?_)
    all_goals
     exact JE.round (s := y) (y - 1) ⟨by omega, by omega, hy3⟩ ⟨rfl, rfl, rfl, (congrArg (fun z => some (Value.int .i64 z)) (by first | omega | (dsimp only; omega))), rfl, trivial⟩ (fun w h => h) (by omega)
 all_goals refine JE.then_normal ?_
 all_goals
  refine J.block (J.region (JL.step (y_move rfl) rfl rfl rfl ?_))
  refine JL.step (y_add rfl rfl (by (first | exact wrap_i64 (by omega) (by omega) | rfl))) rfl rfl rfl ?_
  refine JL.step (y_assign rfl) rfl rfl rfl ?_
  refine JL.nil (JE.block_normal ?_)
 all_goals
  exact JE.round (s := x) (x + 1) ⟨by omega, by omega, hx3⟩ ⟨rfl, rfl, (congrArg (fun z => some (Value.int .i64 z)) (by first | omega | (dsimp only; omega))), rfl, rfl, trivial⟩ (fun w h => h) (by omega)
theorem partF (g c n a b p : Nat) (ia ib ip : Int) (d : Array FlowT) (sp : List Value) (r : List HProp) (ea : ia = a) (eb : ib = b) (ep : ip = p) (hn : d.size = n) (hp1 : a ≤ p) (hp2 : p < b) (hb : b ≤ n) (h63 : n < 4611686018427387904) :
 Fc prog E 94 [.slice (some ⟨g, 0, none⟩) n c, .int .i64 ia, .int .i64 ib, .int .i64 ip, (Value.func (.func 38) #[] [].toArray)].toArray (arF g d sp :: r) (fun v l' => v = .tuple #[.int .i64 ((Sort.partition ltF d a b p).1 : Int), .bool (Sort.partition ltF d a b p).2.1] ∧ l' = arF g (Sort.partition ltF d a b p).2.2 sp :: r) := by
 refine Fc.eqs ?_
 subst ea eb ep
 generalize hres : Sort.partition ltF d a b p = res
 obtain ⟨d0, hd0⟩ : ∃ d0, Sort.swp d a p = d0 := ⟨_, rfl⟩
 rw [partition_eq, hd0] at hres
 have hs0 : d0.size = n := by rw [← hd0, swp_size]; exact hn
 refine Fc.of_body (c := ?codeC) Tryd.func94 ?hb Tryd.ntmps94 ?hl ?_
 case hb => exact rfl
 case hl => exact rfl
 refine J.seq (J.region (JL.step (y_assign rfl) rfl rfl rfl (JL.step (y_assign rfl) rfl rfl rfl ?_)))
 refine JL.nil (JE.then_normal (J.seq ?_))
 refine J.draw _ _ [(0, .q), (1, .q), (2, .q), (3, .q), (4, .q), (5, .q), (6, .q), (8, .q), (9, .q), (10, .q), (7, .e), (11, .e), (12, .q), (13, .l), (14, .q), (15, .l)] mixed (by kernel_rfl) (Split.cons (Pick.head) (Split.nil)) ?_
 refine JM.quiet rfl rfl rfl rfl (fun m => y_move rfl) (JM.quiet rfl rfl rfl rfl (fun m => y_move rfl) (JM.quiet rfl rfl rfl rfl (fun m => y_move rfl) (JM.quiet rfl rfl rfl rfl (fun m => y_move rfl) (JM.quiet rfl rfl rfl rfl (fun m => y_move rfl) (JM.quiet rfl rfl rfl rfl (fun m => y_move rfl) ?_)))))
 refine JM.quiet rfl rfl rfl rfl (fun m => y_indexAddr_slice hT rfl rfl rfl rfl rfl (by (first | omega | exact Nat.le_of_ble_eq_true rfl | decide | (simp; omega))) (by (first | omega | exact Nat.le_of_ble_eq_true rfl | decide | (simp; omega)))) ?_
 refine JM.quiet rfl rfl rfl rfl (fun m => y_move rfl) (JM.quiet rfl rfl rfl rfl (fun m => y_move rfl) ?_)
 refine JM.quiet rfl rfl rfl rfl (fun m => y_indexAddr_slice hT rfl rfl rfl rfl rfl (by (first | omega | exact Nat.le_of_ble_eq_true rfl | decide | (simp; omega))) (by (first | omega | exact Nat.le_of_ble_eq_true rfl | decide | (simp; omega)))) ?_
 refine JM.early rfl rfl rfl rfl (fun fr => y_loadN hT rfl rfl rfl (RdN.arr (i := (p)) (by (repeat (first | exact Pick.head | apply Pick.tail | apply Pick.app))) hkE (by (first | assumption | omega | (simp only [Array.size_setIfInBounds]; omega))) (by exact arr_off rfl (by omega))) (by (first | rfl | assumption | exact hkE _ | simp))) ?_
 refine JM.early rfl rfl rfl rfl (fun fr => y_loadN hT rfl rfl rfl (RdN.arr (i := (a)) (by (repeat (first | exact Pick.head | apply Pick.tail | apply Pick.app))) hkE (by (first | assumption | omega | (simp only [Array.size_setIfInBounds]; omega))) (by exact arr_off rfl (by omega))) (by (first | rfl | assumption | exact hkE _ | simp))) ?_
 refine JM.quiet rfl rfl rfl rfl (fun m => y_indexAddr_slice hT rfl rfl rfl rfl rfl (by (first | omega | exact Nat.le_of_ble_eq_true rfl | decide | (simp; omega))) (by (first | omega | exact Nat.le_of_ble_eq_true rfl | decide | (simp; omega)))) ?_
 refine JM.loud rfl rfl (fun fr => l_storeArrN (j := (a)) hT rfl rfl rfl hkE rfl hoE (by (repeat (first | exact Pick.head | apply Pick.tail | apply Pick.app))) (by (first | assumption | omega | (simp only [Array.size_setIfInBounds]; omega))) (by exact arr_off rfl (by omega)) (⟨[_], (by (repeat (first | exact Split.nil | exact Split.all | refine Split.cons Pick.head ?_))), ?_⟩))
 refine JM.quiet rfl rfl rfl rfl (fun m => y_indexAddr_slice hT rfl rfl rfl rfl rfl (by (first | omega | exact Nat.le_of_ble_eq_true rfl | decide | (simp; omega))) (by (first | omega | exact Nat.le_of_ble_eq_true rfl | decide | (simp; omega)))) ?_
 refine JM.loud rfl rfl (fun fr => l_storeArrN (j := (p)) hT rfl rfl rfl hkE rfl hoE (by (repeat (first | exact Pick.head | apply Pick.tail | apply Pick.app))) (by (first | assumption | omega | (simp only [Array.size_setIfInBounds]; omega))) (by exact arr_off rfl (by omega)) (⟨[_], (by (repeat (first | exact Split.nil | exact Split.all | refine Split.cons Pick.head ?_))), ?_⟩))
 refine JM.nil (JE.then_normal (J.seq (J.region (JL.step (y_move rfl) rfl rfl rfl ?_))))
 refine JL.step (y_add rfl rfl (by (first | exact wrap_i64 (by omega) (by omega) | rfl))) rfl rfl rfl ?_
 refine JL.step (y_move rfl) rfl rfl rfl ?_
 refine JL.step (y_sub rfl rfl (by (first | exact wrap_i64 (by omega) (by omega) | rfl))) rfl rfl rfl ?_
 refine JL.step (y_assign rfl) rfl rfl rfl (JL.step (y_assign rfl) rfl rfl rfl ?_)
 refine JL.nil (JE.then_normal (J.seq (J.block ?_)))
 refine J.loop (α := Nat) (fun x => a < x ∧ x ≤ b ∧ Sort.scanUp (fun x => ltF x d0[a]!) d0 (b - 1) x = Sort.scanUp (fun x => ltF x d0[a]!) d0 (b - 1) (a + 1)) (fun x => [(0, .slice (some ⟨g, 0, none⟩) n c), (1, .int .i64 a), (12, .int .i64 x), (13, .int .i64 ((b - 1 : Nat) : Int)), (4, (Value.func (.func 38) #[] [].toArray))]) (fun x => arF g d0 sp :: r) (fun x => b - x) (a + 1) ⟨by omega, by omega, rfl⟩ ⟨rfl, rfl, (congrArg (fun z => some (Value.int .i64 z)) (by first | omega | (dsimp only; omega))), (congrArg (fun z => some (Value.int .i64 z)) (by first | omega | (dsimp only; omega))), rfl, trivial⟩ (fun w h => by rw [← hd0]; exact h) ?_
 rintro x ⟨hx1, hx2, hx3⟩
 try dsimp only at hx1 hx2 hx3 ⊢
 refine J.seq (J.seq ?_)
 by_cases hg : x ≤ b - 1
 all_goals
  refine J.draw _ _ [(0, .q), (1, .q), (2, .q), (3, .q), (4, .q), (5, .q), (6, .q), (7, .q), (8, .q), (9, .q), (10, .q), (11, .q), (12, .q), (13, .q), (14, .q), (15, .q)] mixed (by kernel_rfl) (Split.nil) ?_
  refine JM.quiet rfl rfl rfl rfl (fun m => y_move rfl) (JM.quiet rfl rfl rfl rfl (fun m => y_move rfl) ?_)
  first | refine JM.quiet rfl rfl rfl rfl (fun m => y_leqB rfl rfl (decide_eq_true (by omega))) ?_ | refine JM.quiet rfl rfl rfl rfl (fun m => y_leqB rfl rfl (decide_eq_false (by omega))) ?_
  refine JM.quiet rfl rfl rfl rfl (fun m => y_move rfl) ?_
  all_goals (first | refine JM.gskip rfl rfl rfl rfl rfl rfl rfl ?_ | refine JM.gskipU rfl rfl rfl rfl rfl rfl ?_ | refine JM.gquiet rfl rfl rfl rfl rfl rfl (fun m => y_move rfl) ?_)
  all_goals (first | refine JM.gskip rfl rfl rfl rfl rfl rfl rfl ?_ | refine JM.gskipU rfl rfl rfl rfl rfl rfl ?_ | refine JM.gquiet rfl rfl rfl rfl rfl rfl (fun m => y_move rfl) ?_)
  all_goals (first | refine JM.gskip rfl rfl rfl rfl rfl rfl rfl ?_ | refine JM.gskipU rfl rfl rfl rfl rfl rfl ?_ | refine JM.gquiet rfl rfl rfl rfl rfl rfl (fun m => y_move rfl) ?_)
  all_goals (first | refine JM.gskip rfl rfl rfl rfl rfl rfl rfl ?_ | refine JM.gskipU rfl rfl rfl rfl rfl rfl ?_ | refine JM.gquiet rfl rfl rfl rfl rfl rfl (fun m => y_indexAddr_slice hT rfl rfl rfl rfl rfl (by (first | omega | exact Nat.le_of_ble_eq_true rfl | decide | (simp; omega))) (by (first | omega | exact Nat.le_of_ble_eq_true rfl | decide | (simp; omega)))) ?_)
  all_goals (first | refine JM.gskip rfl rfl rfl rfl rfl rfl rfl ?_ | refine JM.gskipU rfl rfl rfl rfl rfl rfl ?_ | refine JM.gquiet rfl rfl rfl rfl rfl rfl (fun m => y_loadN hT rfl rfl rfl (RdN.arr (i := (x)) (Pick.app m (by (repeat (first | exact Pick.head | apply Pick.tail | apply Pick.app)))) hkE (by (first | assumption | omega | (simp only [Array.size_setIfInBounds]; omega))) (by exact arr_off rfl (by omega))) (by (first | rfl | assumption | exact hkE _ | simp))) ?_)
  all_goals (first | refine JM.gskip rfl rfl rfl rfl rfl rfl rfl ?_ | refine JM.gskipU rfl rfl rfl rfl rfl rfl ?_ | refine JM.gquiet rfl rfl rfl rfl rfl rfl (fun m => y_move rfl) ?_)
  all_goals (first | refine JM.gskip rfl rfl rfl rfl rfl rfl rfl ?_ | refine JM.gskipU rfl rfl rfl rfl rfl rfl ?_ | refine JM.gquiet rfl rfl rfl rfl rfl rfl (fun m => y_move rfl) ?_)
  all_goals (first | refine JM.gskip rfl rfl rfl rfl rfl rfl rfl ?_ | refine JM.gskipU rfl rfl rfl rfl rfl rfl ?_ | refine JM.gquiet rfl rfl rfl rfl rfl rfl (fun m => y_indexAddr_slice hT rfl rfl rfl rfl rfl (by (first | omega | exact Nat.le_of_ble_eq_true rfl | decide | (simp; omega))) (by (first | omega | exact Nat.le_of_ble_eq_true rfl | decide | (simp; omega)))) ?_)
  all_goals (first | refine JM.gskip rfl rfl rfl rfl rfl rfl rfl ?_ | refine JM.gskipU rfl rfl rfl rfl rfl rfl ?_ | refine JM.gquiet rfl rfl rfl rfl rfl rfl (fun m => y_loadN hT rfl rfl rfl (RdN.arr (i := (a)) (Pick.app m (by (repeat (first | exact Pick.head | apply Pick.tail | apply Pick.app)))) hkE (by (first | assumption | omega | (simp only [Array.size_setIfInBounds]; omega))) (by exact arr_off rfl (by omega))) (by (first | rfl | assumption | exact hkE _ | simp))) ?_)
  all_goals (first | refine JM.gskip rfl rfl rfl rfl rfl rfl rfl ?_ | refine JM.gskipU rfl rfl rfl rfl rfl rfl ?_ | refine JM.gquiet rfl rfl rfl rfl rfl rfl (fun m => y_callV e38 rfl rfl (flowCmp E _ _ _)) ?_)
  all_goals (first | refine JM.gskip rfl rfl rfl rfl rfl rfl rfl ?_ | refine JM.gskipU rfl rfl rfl rfl rfl rfl ?_ | refine JM.gquiet rfl rfl rfl rfl rfl rfl (fun m => y_ltF E rfl rfl) ?_)
  all_goals refine JM.quiet rfl rfl rfl rfl (fun m => y_pick rfl rfl rfl) ?_
  all_goals refine JM.nil ?_
 all_goals refine JE.then_normal ?_
 all_goals
  first | apply J.cond_dec rfl | apply J.cond rfl
  case' ht =>
   intro h
   try (first | (exfalso; omega) | (cases h; done) | (exfalso; simp at h; done) | subst h)
   all_goals
    rw [scanUp_go (p := fun x => ltF x d0[a]!) (by omega) h] at hx3
    refine J.skip ?_
  case' hf =>
   intro h
   try (first | (exfalso; omega) | (cases h; done) | (exfalso; simp at h; done) | subst h)
   all_goals
    have st1 : b - 1 < x ∨ ltF d0[x]! d0[a]! = false := by first | exact .inl (by omega) | exact .inr h
    rw [scanUp_stop (p := fun x => ltF x d0[a]!) (by first | exact .inl (by omega) | exact .inr h)] at hx3
    rw [← hx3] at hres
    refine J.exit (JE.then_exit (JE.then_exit (JE.block_exit (JE.then_normal (J.seq (J.block ?_))))))
    refine J.loop (α := Nat) (fun y => y ≤ b - 1 ∧ x ≤ y + 1 ∧ Sort.scanDown (fun x => !ltF x d0[a]!) d0 x y = Sort.scanDown (fun x => !ltF x d0[a]!) d0 x (b - 1)) (fun y => [(0, .slice (some ⟨g, 0, none⟩) n c), (1, .int .i64 a), (12, .int .i64 x), (13, .int .i64 y), (4, (Value.func (.func 38) #[] [].toArray))]) (fun y => arF g d0 sp :: r) (fun y => y) (b - 1) ⟨Nat.le_refl _, by omega, rfl⟩ ⟨rfl, rfl, rfl, rfl, rfl, trivial⟩ (fun w h => h) ?_
    rintro y ⟨hy1, hy2, hy3⟩
    try dsimp only at hy1 hy2 hy3 ⊢
    refine J.seq (J.seq ?_)
    by_cases hg : x ≤ y
    all_goals
     refine J.draw _ _ [(0, .q), (1, .q), (2, .q), (3, .q), (4, .q), (5, .q), (6, .q), (7, .q), (8, .q), (9, .q), (10, .q), (11, .q), (12, .q), (13, .q), (14, .q), (15, .q), (16, .q)] mixed (by kernel_rfl) (Split.nil) ?_
     refine JM.quiet rfl rfl rfl rfl (fun m => y_move rfl) (JM.quiet rfl rfl rfl rfl (fun m => y_move rfl) ?_)
     first | refine JM.quiet rfl rfl rfl rfl (fun m => y_leqB rfl rfl (decide_eq_true (by omega))) ?_ | refine JM.quiet rfl rfl rfl rfl (fun m => y_leqB rfl rfl (decide_eq_false (by omega))) ?_
     refine JM.quiet rfl rfl rfl rfl (fun m => y_move rfl) ?_
     all_goals (first | refine JM.gskip rfl rfl rfl rfl rfl rfl rfl ?_ | refine JM.gskipU rfl rfl rfl rfl rfl rfl ?_ | refine JM.gquiet rfl rfl rfl rfl rfl rfl (fun m => y_move rfl) ?_)
     all_goals (first | refine JM.gskip rfl rfl rfl rfl rfl rfl rfl ?_ | refine JM.gskipU rfl rfl rfl rfl rfl rfl ?_ | refine JM.gquiet rfl rfl rfl rfl rfl rfl (fun m => y_move rfl) ?_)
     all_goals (first | refine JM.gskip rfl rfl rfl rfl rfl rfl rfl ?_ | refine JM.gskipU rfl rfl rfl rfl rfl rfl ?_ | refine JM.gquiet rfl rfl rfl rfl rfl rfl (fun m => y_move rfl) ?_)
     all_goals (first | refine JM.gskip rfl rfl rfl rfl rfl rfl rfl ?_ | refine JM.gskipU rfl rfl rfl rfl rfl rfl ?_ | refine JM.gquiet rfl rfl rfl rfl rfl rfl (fun m => y_indexAddr_slice hT rfl rfl rfl rfl rfl (by (first | omega | exact Nat.le_of_ble_eq_true rfl | decide | (simp; omega))) (by (first | omega | exact Nat.le_of_ble_eq_true rfl | decide | (simp; omega)))) ?_)
     all_goals (first | refine JM.gskip rfl rfl rfl rfl rfl rfl rfl ?_ | refine JM.gskipU rfl rfl rfl rfl rfl rfl ?_ | refine JM.gquiet rfl rfl rfl rfl rfl rfl (fun m => y_loadN hT rfl rfl rfl (RdN.arr (i := (y)) (Pick.app m (by (repeat (first | exact Pick.head | apply Pick.tail | apply Pick.app)))) hkE (by (first | assumption | omega | (simp only [Array.size_setIfInBounds]; omega))) (by exact arr_off rfl (by omega))) (by (first | rfl | assumption | exact hkE _ | simp))) ?_)
     all_goals (first | refine JM.gskip rfl rfl rfl rfl rfl rfl rfl ?_ | refine JM.gskipU rfl rfl rfl rfl rfl rfl ?_ | refine JM.gquiet rfl rfl rfl rfl rfl rfl (fun m => y_move rfl) ?_)
     all_goals (first | refine JM.gskip rfl rfl rfl rfl rfl rfl rfl ?_ | refine JM.gskipU rfl rfl rfl rfl rfl rfl ?_ | refine JM.gquiet rfl rfl rfl rfl rfl rfl (fun m => y_move rfl) ?_)
     all_goals (first | refine JM.gskip rfl rfl rfl rfl rfl rfl rfl ?_ | refine JM.gskipU rfl rfl rfl rfl rfl rfl ?_ | refine JM.gquiet rfl rfl rfl rfl rfl rfl (fun m => y_indexAddr_slice hT rfl rfl rfl rfl rfl (by (first | omega | exact Nat.le_of_ble_eq_true rfl | decide | (simp; omega))) (by (first | omega | exact Nat.le_of_ble_eq_true rfl | decide | (simp; omega)))) ?_)
     all_goals (first | refine JM.gskip rfl rfl rfl rfl rfl rfl rfl ?_ | refine JM.gskipU rfl rfl rfl rfl rfl rfl ?_ | refine JM.gquiet rfl rfl rfl rfl rfl rfl (fun m => y_loadN hT rfl rfl rfl (RdN.arr (i := (a)) (Pick.app m (by (repeat (first | exact Pick.head | apply Pick.tail | apply Pick.app)))) hkE (by (first | assumption | omega | (simp only [Array.size_setIfInBounds]; omega))) (by exact arr_off rfl (by omega))) (by (first | rfl | assumption | exact hkE _ | simp))) ?_)
     all_goals (first | refine JM.gskip rfl rfl rfl rfl rfl rfl rfl ?_ | refine JM.gskipU rfl rfl rfl rfl rfl rfl ?_ | refine JM.gquiet rfl rfl rfl rfl rfl rfl (fun m => y_callV e38 rfl rfl (flowCmp E _ _ _)) ?_)
     all_goals (first | refine JM.gskip rfl rfl rfl rfl rfl rfl rfl ?_ | refine JM.gskipU rfl rfl rfl rfl rfl rfl ?_ | refine JM.gquiet rfl rfl rfl rfl rfl rfl (fun m => y_ltF E rfl rfl) ?_)
     all_goals (first | refine JM.gskip rfl rfl rfl rfl rfl rfl rfl ?_ | refine JM.gskipU rfl rfl rfl rfl rfl rfl ?_ | refine JM.gquiet rfl rfl rfl rfl rfl rfl (fun m => y_not rfl) ?_)
     all_goals refine JM.quiet rfl rfl rfl rfl (fun m => y_pick rfl rfl rfl) ?_
     all_goals refine JM.nil ?_
    all_goals refine JE.then_normal ?_
    all_goals
     first | apply J.cond_dec rfl | apply J.cond rfl
     case' ht =>
      intro h
      try (first | (exfalso; omega) | (cases h; done) | (exfalso; simp at h; done) | subst h)
      all_goals
       rw [scanDown_go (p := fun x => !ltF x d0[a]!) (by omega) (by omega) h] at hy3
       refine J.skip ?_
     case' hf =>
      intro h
      try (first | (exfalso; omega) | (cases h; done) | (exfalso; simp at h; done) | subst h)
      all_goals
       have st2 : y < x ∨ ltF d0[y]! d0[a]! = true := by first | exact .inl (by omega) | exact .inr (by simpa using h)
       rw [scanDown_stop (p := fun x => !ltF x d0[a]!) (by first | exact .inl (by omega) | exact .inr h)] at hy3
       rw [← hy3] at hres
       refine J.exit (JE.then_exit (JE.then_exit (JE.block_exit (JE.then_normal (J.seq (J.seq (J.region (JL.step (y_move rfl) rfl rfl rfl (JL.step (y_move rfl) rfl rfl rfl (JL.step (y_gtr rfl rfl) rfl rfl rfl ?_))))))))))
       refine JL.nil (JE.then_normal ?_)
       first | apply J.cond_dec rfl | apply J.cond rfl
       case' ht =>
        intro h
        try (first | (exfalso; omega) | (cases h; done) | (exfalso; simp at h; done) | subst h)
        all_goals
         rw [if_pos (by omega)] at hres
         refine J.seq ?_
         refine J.draw _ _ [(0, .q), (1, .q), (2, .q), (3, .q), (4, .q), (5, .q), (6, .q), (8, .q), (9, .q), (10, .q), (7, .e), (11, .e), (12, .q), (13, .l), (14, .q), (15, .l)] mixed (by kernel_rfl) (Split.cons (Pick.head) (Split.nil)) ?_
         refine JM.quiet rfl rfl rfl rfl (fun m => y_move rfl) (JM.quiet rfl rfl rfl rfl (fun m => y_move rfl) (JM.quiet rfl rfl rfl rfl (fun m => y_move rfl) (JM.quiet rfl rfl rfl rfl (fun m => y_move rfl) (JM.quiet rfl rfl rfl rfl (fun m => y_move rfl) (JM.quiet rfl rfl rfl rfl (fun m => y_move rfl) ?_)))))
         refine JM.quiet rfl rfl rfl rfl (fun m => y_indexAddr_slice hT rfl rfl rfl rfl rfl (by (first | omega | exact Nat.le_of_ble_eq_true rfl | decide | (simp; omega))) (by (first | omega | exact Nat.le_of_ble_eq_true rfl | decide | (simp; omega)))) ?_
         refine JM.quiet rfl rfl rfl rfl (fun m => y_move rfl) (JM.quiet rfl rfl rfl rfl (fun m => y_move rfl) ?_)
         refine JM.quiet rfl rfl rfl rfl (fun m => y_indexAddr_slice hT rfl rfl rfl rfl rfl (by (first | omega | exact Nat.le_of_ble_eq_true rfl | decide | (simp; omega))) (by (first | omega | exact Nat.le_of_ble_eq_true rfl | decide | (simp; omega)))) ?_
         refine JM.early rfl rfl rfl rfl (fun fr => y_loadN hT rfl rfl rfl (RdN.arr (i := (a)) (by (repeat (first | exact Pick.head | apply Pick.tail | apply Pick.app))) hkE (by (first | assumption | omega | (simp only [Array.size_setIfInBounds]; omega))) (by exact arr_off rfl (by omega))) (by (first | rfl | assumption | exact hkE _ | simp))) ?_
         refine JM.early rfl rfl rfl rfl (fun fr => y_loadN hT rfl rfl rfl (RdN.arr (i := (y)) (by (repeat (first | exact Pick.head | apply Pick.tail | apply Pick.app))) hkE (by (first | assumption | omega | (simp only [Array.size_setIfInBounds]; omega))) (by exact arr_off rfl (by omega))) (by (first | rfl | assumption | exact hkE _ | simp))) ?_
         refine JM.quiet rfl rfl rfl rfl (fun m => y_indexAddr_slice hT rfl rfl rfl rfl rfl (by (first | omega | exact Nat.le_of_ble_eq_true rfl | decide | (simp; omega))) (by (first | omega | exact Nat.le_of_ble_eq_true rfl | decide | (simp; omega)))) ?_
         refine JM.loud rfl rfl (fun fr => l_storeArrN (j := (y)) hT rfl rfl rfl hkE rfl hoE (by (repeat (first | exact Pick.head | apply Pick.tail | apply Pick.app))) (by (first | assumption | omega | (simp only [Array.size_setIfInBounds]; omega))) (by exact arr_off rfl (by omega)) (⟨[_], (by (repeat (first | exact Split.nil | exact Split.all | refine Split.cons Pick.head ?_))), ?_⟩))
         refine JM.quiet rfl rfl rfl rfl (fun m => y_indexAddr_slice hT rfl rfl rfl rfl rfl (by (first | omega | exact Nat.le_of_ble_eq_true rfl | decide | (simp; omega))) (by (first | omega | exact Nat.le_of_ble_eq_true rfl | decide | (simp; omega)))) ?_
         refine JM.loud rfl rfl (fun fr => l_storeArrN (j := (a)) hT rfl rfl rfl hkE rfl hoE (by (repeat (first | exact Pick.head | apply Pick.tail | apply Pick.app))) (by (first | assumption | omega | (simp only [Array.size_setIfInBounds]; omega))) (by exact arr_off rfl (by omega)) (⟨[_], (by (repeat (first | exact Split.nil | exact Split.all | refine Split.cons Pick.head ?_))), ?_⟩))
         refine JM.nil (JE.then_normal (J.seq (J.region (JL.step (y_move rfl) rfl rfl rfl (JL.step (y_assign rfl) rfl rfl rfl (JL.step (y_assign rfl) rfl rfl rfl ?_))))))
         refine JL.nil (JE.then_normal (J.ret (JE.then_ret ?_)))
         refine JE.ret2 (.inl rfl) rfl rfl (by (first | exact RV.tmp rfl | exact RV.cell1 hT rfl rfl rfl (by (exact Rd1.row (by (repeat (first | exact Pick.head | apply Pick.tail | apply Pick.app))) (by rfl))) | exact RV.cellN hT rfl rfl rfl (by (first | exact RdN.rowAll (by (repeat (first | exact Pick.head | apply Pick.tail | apply Pick.app))) | exact RdN.own (by (repeat (first | exact Pick.head | apply Pick.tail | apply Pick.app))))) (by (first | rfl | assumption | (simp; done) | omega)))) (by (first | exact RV.tmp rfl | exact RV.cell1 hT rfl rfl rfl (by (exact Rd1.row (by (repeat (first | exact Pick.head | apply Pick.tail | apply Pick.app))) (by rfl))) | exact RV.cellN hT rfl rfl rfl (by (first | exact RdN.rowAll (by (repeat (first | exact Pick.head | apply Pick.tail | apply Pick.app))) | exact RdN.own (by (repeat (first | exact Pick.head | apply Pick.tail | apply Pick.app))))) (by (first | rfl | assumption | (simp; done) | omega)))) ?_
         exact ⟨by rw [← hres], fun w h => by rw [← hres]; exact h⟩
       case' hf =>
        intro h
        try (first | (exfalso; omega) | (cases h; done) | (exfalso; simp at h; done) | subst h)
        all_goals
         rw [if_neg (by omega)] at hres
         have hne : ¬ x = y := by
          rintro rfl
          rcases st1 with q | q
          · omega
          · rcases st2 with q2 | q2
            · omega
            · rw [q] at q2; cases q2
         refine J.skip ?_
       all_goals refine JE.then_normal ?_
       all_goals
        refine J.seq ?_
        refine J.draw _ _ [(0, .q), (1, .q), (2, .q), (3, .q), (4, .q), (5, .q), (6, .q), (8, .q), (9, .q), (10, .q), (7, .e), (11, .e), (12, .q), (13, .l), (14, .q), (15, .l)] mixed (by kernel_rfl) (Split.cons (Pick.head) (Split.nil)) ?_
        refine JM.quiet rfl rfl rfl rfl (fun m => y_move rfl) (JM.quiet rfl rfl rfl rfl (fun m => y_move rfl) (JM.quiet rfl rfl rfl rfl (fun m => y_move rfl) (JM.quiet rfl rfl rfl rfl (fun m => y_move rfl) (JM.quiet rfl rfl rfl rfl (fun m => y_move rfl) (JM.quiet rfl rfl rfl rfl (fun m => y_move rfl) ?_)))))
        refine JM.quiet rfl rfl rfl rfl (fun m => y_indexAddr_slice hT rfl rfl rfl rfl rfl (by (first | omega | exact Nat.le_of_ble_eq_true rfl | decide | (simp; omega))) (by (first | omega | exact Nat.le_of_ble_eq_true rfl | decide | (simp; omega)))) ?_
        refine JM.quiet rfl rfl rfl rfl (fun m => y_move rfl) (JM.quiet rfl rfl rfl rfl (fun m => y_move rfl) ?_)
        refine JM.quiet rfl rfl rfl rfl (fun m => y_indexAddr_slice hT rfl rfl rfl rfl rfl (by (first | omega | exact Nat.le_of_ble_eq_true rfl | decide | (simp; omega))) (by (first | omega | exact Nat.le_of_ble_eq_true rfl | decide | (simp; omega)))) ?_
        refine JM.early rfl rfl rfl rfl (fun fr => y_loadN hT rfl rfl rfl (RdN.arr (i := (y)) (by (repeat (first | exact Pick.head | apply Pick.tail | apply Pick.app))) hkE (by (first | assumption | omega | (simp only [Array.size_setIfInBounds]; omega))) (by exact arr_off rfl (by omega))) (by (first | rfl | assumption | exact hkE _ | simp))) ?_
        refine JM.early rfl rfl rfl rfl (fun fr => y_loadN hT rfl rfl rfl (RdN.arr (i := (x)) (by (repeat (first | exact Pick.head | apply Pick.tail | apply Pick.app))) hkE (by (first | assumption | omega | (simp only [Array.size_setIfInBounds]; omega))) (by exact arr_off rfl (by omega))) (by (first | rfl | assumption | exact hkE _ | simp))) ?_
        refine JM.quiet rfl rfl rfl rfl (fun m => y_indexAddr_slice hT rfl rfl rfl rfl rfl (by (first | omega | exact Nat.le_of_ble_eq_true rfl | decide | (simp; omega))) (by (first | omega | exact Nat.le_of_ble_eq_true rfl | decide | (simp; omega)))) ?_
        refine JM.loud rfl rfl (fun fr => l_storeArrN (j := (x)) hT rfl rfl rfl hkE rfl hoE (by (repeat (first | exact Pick.head | apply Pick.tail | apply Pick.app))) (by (first | assumption | omega | (simp only [Array.size_setIfInBounds]; omega))) (by exact arr_off rfl (by omega)) (⟨[_], (by (repeat (first | exact Split.nil | exact Split.all | refine Split.cons Pick.head ?_))), ?_⟩))
        refine JM.quiet rfl rfl rfl rfl (fun m => y_indexAddr_slice hT rfl rfl rfl rfl rfl (by (first | omega | exact Nat.le_of_ble_eq_true rfl | decide | (simp; omega))) (by (first | omega | exact Nat.le_of_ble_eq_true rfl | decide | (simp; omega)))) ?_
        refine JM.loud rfl rfl (fun fr => l_storeArrN (j := (y)) hT rfl rfl rfl hkE rfl hoE (by (repeat (first | exact Pick.head | apply Pick.tail | apply Pick.app))) (by (first | assumption | omega | (simp only [Array.size_setIfInBounds]; omega))) (by exact arr_off rfl (by omega)) (⟨[_], (by (repeat (first | exact Split.nil | exact Split.all | refine Split.cons Pick.head ?_))), ?_⟩))
        refine JM.nil (JE.then_normal (J.seq (J.region (JL.step (y_move rfl) rfl rfl rfl ?_))))
        refine JL.step (y_add rfl rfl (by (first | exact wrap_i64 (by omega) (by omega) | rfl))) rfl rfl rfl ?_
        refine JL.step (y_assign rfl) rfl rfl rfl ?_
        refine JL.nil (JE.then_normal (J.seq (J.region (JL.step (y_move rfl) rfl rfl rfl ?_))))
        refine JL.step (y_sub rfl rfl (by (first | exact wrap_i64 (by omega) (by omega) | rfl))) rfl rfl rfl ?_
        refine JL.step (y_assign rfl) rfl rfl rfl ?_
        refine JL.nil (JE.then_normal (J.seq (J.block ?_)))
        refine J.loop (α := Nat × Nat × Array FlowT) (fun s => a < s.1 ∧ s.1 ≤ b ∧ s.2.1 < b ∧ s.1 ≤ s.2.1 + 1 ∧ s.2.2.size = n ∧ Sort.partLoop ltF a s.1 s.2.1 s.2.2 = Sort.partLoop ltF a (x + 1) (y - 1) (Sort.swp d0 x y)) (fun s => [(0, .slice (some ⟨g, 0, none⟩) n c), (1, .int .i64 a), (12, .int .i64 s.1), (13, .int .i64 s.2.1), (4, (Value.func (.func 38) #[] [].toArray))]) (fun s => arF g s.2.2 sp :: r) (fun s => s.2.1 + 1 - s.1) (x + 1, y - 1, Sort.swp d0 x y) ⟨by dsimp only; omega, by dsimp only; omega, by dsimp only; omega, by dsimp only; omega, by dsimp only; rw [swp_size]; exact hs0, rfl⟩ ⟨rfl, rfl, (congrArg (fun z => some (Value.int .i64 z)) (by first | omega | (dsimp only; omega))), (congrArg (fun z => some (Value.int .i64 z)) (by first | omega | (dsimp only; omega))), rfl, trivial⟩ (fun w h => h) ?_
        rintro ⟨i, j, d1⟩ ⟨hi1, hi2, hj1, hij, hs1, he1⟩
        try dsimp only at hi1 hi2 hj1 hij hs1 he1 ⊢
        rw [Sort.partLoop_eq] at he1
        refine J.block (J.seq (J.block ?_))
        refine J.loop (α := Nat) (fun u => i ≤ u ∧ u ≤ j + 1 ∧ Sort.scanUp (fun x => ltF x d1[a]!) d1 j u = Sort.scanUp (fun x => ltF x d1[a]!) d1 j i) (fun u => [(0, .slice (some ⟨g, 0, none⟩) n c), (1, .int .i64 a), (12, .int .i64 u), (13, .int .i64 j), (4, (Value.func (.func 38) #[] [].toArray))]) (fun u => arF g d1 sp :: r) (fun u => j + 1 - u) i ⟨Nat.le_refl _, hij, rfl⟩ ⟨rfl, rfl, rfl, rfl, rfl, trivial⟩ (fun w h => h) ?_
        rintro u ⟨hu1, hu2, hu3⟩
        try dsimp only at hu1 hu2 hu3 ⊢
        refine J.seq (J.seq ?_)
        by_cases hg : u ≤ j
        all_goals
         refine J.draw _ _ [(0, .q), (1, .q), (2, .q), (3, .q), (4, .q), (5, .q), (6, .q), (7, .q), (8, .q), (9, .q), (10, .q), (11, .q), (12, .q), (13, .q), (14, .q), (15, .q)] mixed (by kernel_rfl) (Split.nil) ?_
         refine JM.quiet rfl rfl rfl rfl (fun m => y_move rfl) (JM.quiet rfl rfl rfl rfl (fun m => y_move rfl) ?_)
         first | refine JM.quiet rfl rfl rfl rfl (fun m => y_leqB rfl rfl (decide_eq_true (by omega))) ?_ | refine JM.quiet rfl rfl rfl rfl (fun m => y_leqB rfl rfl (decide_eq_false (by omega))) ?_
         refine JM.quiet rfl rfl rfl rfl (fun m => y_move rfl) ?_
         all_goals (first | refine JM.gskip rfl rfl rfl rfl rfl rfl rfl ?_ | refine JM.gskipU rfl rfl rfl rfl rfl rfl ?_ | refine JM.gquiet rfl rfl rfl rfl rfl rfl (fun m => y_move rfl) ?_)
         all_goals (first | refine JM.gskip rfl rfl rfl rfl rfl rfl rfl ?_ | refine JM.gskipU rfl rfl rfl rfl rfl rfl ?_ | refine JM.gquiet rfl rfl rfl rfl rfl rfl (fun m => y_move rfl) ?_)
         all_goals (first | refine JM.gskip rfl rfl rfl rfl rfl rfl rfl ?_ | refine JM.gskipU rfl rfl rfl rfl rfl rfl ?_ | refine JM.gquiet rfl rfl rfl rfl rfl rfl (fun m => y_move rfl) ?_)
         all_goals (first | refine JM.gskip rfl rfl rfl rfl rfl rfl rfl ?_ | refine JM.gskipU rfl rfl rfl rfl rfl rfl ?_ | refine JM.gquiet rfl rfl rfl rfl rfl rfl (fun m => y_indexAddr_slice hT rfl rfl rfl rfl rfl (by (first | omega | exact Nat.le_of_ble_eq_true rfl | decide | (simp; omega))) (by (first | omega | exact Nat.le_of_ble_eq_true rfl | decide | (simp; omega)))) ?_)
         all_goals (first | refine JM.gskip rfl rfl rfl rfl rfl rfl rfl ?_ | refine JM.gskipU rfl rfl rfl rfl rfl rfl ?_ | refine JM.gquiet rfl rfl rfl rfl rfl rfl (fun m => y_loadN hT rfl rfl rfl (RdN.arr (i := (u)) (Pick.app m (by (repeat (first | exact Pick.head | apply Pick.tail | apply Pick.app)))) hkE (by (first | assumption | omega | (simp only [Array.size_setIfInBounds]; omega))) (by exact arr_off rfl (by omega))) (by (first | rfl | assumption | exact hkE _ | simp))) ?_)
         all_goals (first | refine JM.gskip rfl rfl rfl rfl rfl rfl rfl ?_ | refine JM.gskipU rfl rfl rfl rfl rfl rfl ?_ | refine JM.gquiet rfl rfl rfl rfl rfl rfl (fun m => y_move rfl) ?_)
         all_goals (first | refine JM.gskip rfl rfl rfl rfl rfl rfl rfl ?_ | refine JM.gskipU rfl rfl rfl rfl rfl rfl ?_ | refine JM.gquiet rfl rfl rfl rfl rfl rfl (fun m => y_move rfl) ?_)
         all_goals (first | refine JM.gskip rfl rfl rfl rfl rfl rfl rfl ?_ | refine JM.gskipU rfl rfl rfl rfl rfl rfl ?_ | refine JM.gquiet rfl rfl rfl rfl rfl rfl (fun m => y_indexAddr_slice hT rfl rfl rfl rfl rfl (by (first | omega | exact Nat.le_of_ble_eq_true rfl | decide | (simp; omega))) (by (first | omega | exact Nat.le_of_ble_eq_true rfl | decide | (simp; omega)))) ?_)
         all_goals (first | refine JM.gskip rfl rfl rfl rfl rfl rfl rfl ?_ | refine JM.gskipU rfl rfl rfl rfl rfl rfl ?_ | refine JM.gquiet rfl rfl rfl rfl rfl rfl (fun m => y_loadN hT rfl rfl rfl (RdN.arr (i := (a)) (Pick.app m (by (repeat (first | exact Pick.head | apply Pick.tail | apply Pick.app)))) hkE (by (first | assumption | omega | (simp only [Array.size_setIfInBounds]; omega))) (by exact arr_off rfl (by omega))) (by (first | rfl | assumption | exact hkE _ | simp))) ?_)
         all_goals (first | refine JM.gskip rfl rfl rfl rfl rfl rfl rfl ?_ | refine JM.gskipU rfl rfl rfl rfl rfl rfl ?_ | refine JM.gquiet rfl rfl rfl rfl rfl rfl (fun m => y_callV e38 rfl rfl (flowCmp E _ _ _)) ?_)
         all_goals (first | refine JM.gskip rfl rfl rfl rfl rfl rfl rfl ?_ | refine JM.gskipU rfl rfl rfl rfl rfl rfl ?_ | refine JM.gquiet rfl rfl rfl rfl rfl rfl (fun m => y_ltF E rfl rfl) ?_)
         all_goals refine JM.quiet rfl rfl rfl rfl (fun m => y_pick rfl rfl rfl) ?_
         all_goals refine JM.nil ?_
        all_goals refine JE.then_normal ?_
        all_goals
         first | apply J.cond_dec rfl | apply J.cond rfl
         case' ht =>
          intro h
          try (first | (exfalso; omega) | (cases h; done) | (exfalso; simp at h; done) | subst h)
          all_goals
           rw [scanUp_go (p := fun x => ltF x d1[a]!) (by omega) h] at hu3
           refine J.skip ?_
         case' hf =>
          intro h
          try (first | (exfalso; omega) | (cases h; done) | (exfalso; simp at h; done) | subst h)
          all_goals
           have st3 : j < u ∨ ltF d1[u]! d1[a]! = false := by first | exact .inl (by omega) | exact .inr h
           rw [scanUp_stop (p := fun x => ltF x d1[a]!) (by first | exact .inl (by omega) | exact .inr h)] at hu3
           rw [← hu3] at he1
           refine J.exit (JE.then_exit (JE.then_exit (JE.block_exit (JE.then_normal (J.seq (J.block ?_))))))
           refine J.loop (α := Nat) (fun w => w ≤ j ∧ u ≤ w + 1 ∧ Sort.scanDown (fun x => !ltF x d1[a]!) d1 u w = Sort.scanDown (fun x => !ltF x d1[a]!) d1 u j) (fun w => [(0, .slice (some ⟨g, 0, none⟩) n c), (1, .int .i64 a), (12, .int .i64 u), (13, .int .i64 w), (4, (Value.func (.func 38) #[] [].toArray))]) (fun w => arF g d1 sp :: r) (fun w => w) j ⟨Nat.le_refl _, hu2, rfl⟩ ⟨rfl, rfl, rfl, rfl, rfl, trivial⟩ (fun w h => h) ?_
           rintro v ⟨hv1, hv2, hv3⟩
           try dsimp only at hv1 hv2 hv3 ⊢
           refine J.seq (J.seq ?_)
           by_cases hg : u ≤ v
           all_goals
            refine J.draw _ _ [(0, .q), (1, .q), (2, .q), (3, .q), (4, .q), (5, .q), (6, .q), (7, .q), (8, .q), (9, .q), (10, .q), (11, .q), (12, .q), (13, .q), (14, .q), (15, .q), (16, .q)] mixed (by kernel_rfl) (Split.nil) ?_
            refine JM.quiet rfl rfl rfl rfl (fun m => y_move rfl) (JM.quiet rfl rfl rfl rfl (fun m => y_move rfl) ?_)
            first | refine JM.quiet rfl rfl rfl rfl (fun m => y_leqB rfl rfl (decide_eq_true (by omega))) ?_ | refine JM.quiet rfl rfl rfl rfl (fun m => y_leqB rfl rfl (decide_eq_false (by omega))) ?_
            refine JM.quiet rfl rfl rfl rfl (fun m => y_move rfl) ?_
            all_goals (first | refine JM.gskip rfl rfl rfl rfl rfl rfl rfl ?_ | refine JM.gskipU rfl rfl rfl rfl rfl rfl ?_ | refine JM.gquiet rfl rfl rfl rfl rfl rfl (fun m => y_move rfl) ?_)
            all_goals (first | refine JM.gskip rfl rfl rfl rfl rfl rfl rfl ?_ | refine JM.gskipU rfl rfl rfl rfl rfl rfl ?_ | refine JM.gquiet rfl rfl rfl rfl rfl rfl (fun m => y_move rfl) ?_)
            all_goals (first | refine JM.gskip rfl rfl rfl rfl rfl rfl rfl ?_ | refine JM.gskipU rfl rfl rfl rfl rfl rfl ?_ | refine JM.gquiet rfl rfl rfl rfl rfl rfl (fun m => y_move rfl) ?_)
            all_goals (first | refine JM.gskip rfl rfl rfl rfl rfl rfl rfl ?_ | refine JM.gskipU rfl rfl rfl rfl rfl rfl ?_ | refine JM.gquiet rfl rfl rfl rfl rfl rfl (fun m => y_indexAddr_slice hT rfl rfl rfl rfl rfl (by (first | omega | exact Nat.le_of_ble_eq_true rfl | decide | (simp; omega))) (by (first | omega | exact Nat.le_of_ble_eq_true rfl | decide | (simp; omega)))) ?_)
            all_goals (first | refine JM.gskip rfl rfl rfl rfl rfl rfl rfl ?_ | refine JM.gskipU rfl rfl rfl rfl rfl rfl ?_ | refine JM.gquiet rfl rfl rfl rfl rfl rfl (fun m => y_loadN hT rfl rfl rfl (RdN.arr (i := (v)) (Pick.app m (by (repeat (first | exact Pick.head | apply Pick.tail | apply Pick.app)))) hkE (by (first | assumption | omega | (simp only [Array.size_setIfInBounds]; omega))) (by exact arr_off rfl (by omega))) (by (first | rfl | assumption | exact hkE _ | simp))) ?_)
            all_goals (first | refine JM.gskip rfl rfl rfl rfl rfl rfl rfl ?_ | refine JM.gskipU rfl rfl rfl rfl rfl rfl ?_ | refine JM.gquiet rfl rfl rfl rfl rfl rfl (fun m => y_move rfl) ?_)
            all_goals (first | refine JM.gskip rfl rfl rfl rfl rfl rfl rfl ?_ | refine JM.gskipU rfl rfl rfl rfl rfl rfl ?_ | refine JM.gquiet rfl rfl rfl rfl rfl rfl (fun m => y_move rfl) ?_)
            all_goals (first | refine JM.gskip rfl rfl rfl rfl rfl rfl rfl ?_ | refine JM.gskipU rfl rfl rfl rfl rfl rfl ?_ | refine JM.gquiet rfl rfl rfl rfl rfl rfl (fun m => y_indexAddr_slice hT rfl rfl rfl rfl rfl (by (first | omega | exact Nat.le_of_ble_eq_true rfl | decide | (simp; omega))) (by (first | omega | exact Nat.le_of_ble_eq_true rfl | decide | (simp; omega)))) ?_)
            all_goals (first | refine JM.gskip rfl rfl rfl rfl rfl rfl rfl ?_ | refine JM.gskipU rfl rfl rfl rfl rfl rfl ?_ | refine JM.gquiet rfl rfl rfl rfl rfl rfl (fun m => y_loadN hT rfl rfl rfl (RdN.arr (i := (a)) (Pick.app m (by (repeat (first | exact Pick.head | apply Pick.tail | apply Pick.app)))) hkE (by (first | assumption | omega | (simp only [Array.size_setIfInBounds]; omega))) (by exact arr_off rfl (by omega))) (by (first | rfl | assumption | exact hkE _ | simp))) ?_)
            all_goals (first | refine JM.gskip rfl rfl rfl rfl rfl rfl rfl ?_ | refine JM.gskipU rfl rfl rfl rfl rfl rfl ?_ | refine JM.gquiet rfl rfl rfl rfl rfl rfl (fun m => y_callV e38 rfl rfl (flowCmp E _ _ _)) ?_)
            all_goals (first | refine JM.gskip rfl rfl rfl rfl rfl rfl rfl ?_ | refine JM.gskipU rfl rfl rfl rfl rfl rfl ?_ | refine JM.gquiet rfl rfl rfl rfl rfl rfl (fun m => y_ltF E rfl rfl) ?_)
            all_goals (first | refine JM.gskip rfl rfl rfl rfl rfl rfl rfl ?_ | refine JM.gskipU rfl rfl rfl rfl rfl rfl ?_ | refine JM.gquiet rfl rfl rfl rfl rfl rfl (fun m => y_not rfl) ?_)
            all_goals refine JM.quiet rfl rfl rfl rfl (fun m => y_pick rfl rfl rfl) ?_
            all_goals refine JM.nil ?_
           all_goals refine JE.then_normal ?_
           all_goals
            first | apply J.cond_dec rfl | apply J.cond rfl
            case' ht =>
             intro h
             try (first | (exfalso; omega) | (cases h; done) | (exfalso; simp at h; done) | subst h)
             all_goals
              rw [scanDown_go (p := fun x => !ltF x d1[a]!) (by omega) (by omega) h] at hv3
              refine J.skip ?_
            case' hf =>
             intro h
             try (first | (exfalso; omega) | (cases h; done) | (exfalso; simp at h; done) | subst h)
             all_goals
              have st4 : v < u ∨ ltF d1[v]! d1[a]! = true := by first | exact .inl (by omega) | exact .inr (by simpa using h)
              rw [scanDown_stop (p := fun x => !ltF x d1[a]!) (by first | exact .inl (by omega) | exact .inr h)] at hv3
              rw [← hv3] at he1
              refine J.exit (JE.then_exit (JE.then_exit (JE.block_exit (JE.then_normal (J.seq (J.seq (J.region (JL.step (y_move rfl) rfl rfl rfl (JL.step (y_move rfl) rfl rfl rfl (JL.step (y_gtr rfl rfl) rfl rfl rfl ?_))))))))))
              refine JL.nil (JE.then_normal ?_)
              first | apply J.cond_dec rfl | apply J.cond rfl
              case' ht =>
               intro h
               try (first | (exfalso; omega) | (cases h; done) | (exfalso; simp at h; done) | subst h)
               all_goals
                rw [if_pos (by omega)] at he1
                rw [← he1] at hres
                refine J.exit (JE.then_exit ?_)
                refine JE.block_past rfl ?_
                refine JE.then_exit (JE.block_exit (JE.then_normal (J.seq ?_)))
                refine J.draw _ _ [(0, .q), (1, .q), (2, .q), (3, .q), (4, .q), (5, .q), (6, .q), (8, .q), (9, .q), (10, .q), (7, .e), (11, .e), (12, .q), (13, .l), (14, .q), (15, .l)] mixed (by kernel_rfl) (Split.cons (Pick.head) (Split.nil)) ?_
                refine JM.quiet rfl rfl rfl rfl (fun m => y_move rfl) (JM.quiet rfl rfl rfl rfl (fun m => y_move rfl) (JM.quiet rfl rfl rfl rfl (fun m => y_move rfl) (JM.quiet rfl rfl rfl rfl (fun m => y_move rfl) (JM.quiet rfl rfl rfl rfl (fun m => y_move rfl) (JM.quiet rfl rfl rfl rfl (fun m => y_move rfl) ?_)))))
                refine JM.quiet rfl rfl rfl rfl (fun m => y_indexAddr_slice hT rfl rfl rfl rfl rfl (by (first | omega | exact Nat.le_of_ble_eq_true rfl | decide | (simp; omega))) (by (first | omega | exact Nat.le_of_ble_eq_true rfl | decide | (simp; omega)))) ?_
                refine JM.quiet rfl rfl rfl rfl (fun m => y_move rfl) (JM.quiet rfl rfl rfl rfl (fun m => y_move rfl) ?_)
                refine JM.quiet rfl rfl rfl rfl (fun m => y_indexAddr_slice hT rfl rfl rfl rfl rfl (by (first | omega | exact Nat.le_of_ble_eq_true rfl | decide | (simp; omega))) (by (first | omega | exact Nat.le_of_ble_eq_true rfl | decide | (simp; omega)))) ?_
                refine JM.early rfl rfl rfl rfl (fun fr => y_loadN hT rfl rfl rfl (RdN.arr (i := (a)) (by (repeat (first | exact Pick.head | apply Pick.tail | apply Pick.app))) hkE (by (first | assumption | omega | (simp only [Array.size_setIfInBounds]; omega))) (by exact arr_off rfl (by omega))) (by (first | rfl | assumption | exact hkE _ | simp))) ?_
                refine JM.early rfl rfl rfl rfl (fun fr => y_loadN hT rfl rfl rfl (RdN.arr (i := (v)) (by (repeat (first | exact Pick.head | apply Pick.tail | apply Pick.app))) hkE (by (first | assumption | omega | (simp only [Array.size_setIfInBounds]; omega))) (by exact arr_off rfl (by omega))) (by (first | rfl | assumption | exact hkE _ | simp))) ?_
                refine JM.quiet rfl rfl rfl rfl (fun m => y_indexAddr_slice hT rfl rfl rfl rfl rfl (by (first | omega | exact Nat.le_of_ble_eq_true rfl | decide | (simp; omega))) (by (first | omega | exact Nat.le_of_ble_eq_true rfl | decide | (simp; omega)))) ?_
                refine JM.loud rfl rfl (fun fr => l_storeArrN (j := (v)) hT rfl rfl rfl hkE rfl hoE (by (repeat (first | exact Pick.head | apply Pick.tail | apply Pick.app))) (by (first | assumption | omega | (simp only [Array.size_setIfInBounds]; omega))) (by exact arr_off rfl (by omega)) (⟨[_], (by (repeat (first | exact Split.nil | exact Split.all | refine Split.cons Pick.head ?_))), ?_⟩))
                refine JM.quiet rfl rfl rfl rfl (fun m => y_indexAddr_slice hT rfl rfl rfl rfl rfl (by (first | omega | exact Nat.le_of_ble_eq_true rfl | decide | (simp; omega))) (by (first | omega | exact Nat.le_of_ble_eq_true rfl | decide | (simp; omega)))) ?_
                refine JM.loud rfl rfl (fun fr => l_storeArrN (j := (a)) hT rfl rfl rfl hkE rfl hoE (by (repeat (first | exact Pick.head | apply Pick.tail | apply Pick.app))) (by (first | assumption | omega | (simp only [Array.size_setIfInBounds]; omega))) (by exact arr_off rfl (by omega)) (⟨[_], (by (repeat (first | exact Split.nil | exact Split.all | refine Split.cons Pick.head ?_))), ?_⟩))
                refine JM.nil (JE.then_normal (J.seq (J.region (JL.step (y_move rfl) rfl rfl rfl (JL.step (y_assign rfl) rfl rfl rfl (JL.step (y_assign rfl) rfl rfl rfl ?_))))))
                refine JL.nil (JE.then_normal (J.ret ?_))
                refine JE.ret2 (.inl rfl) rfl rfl (by (first | exact RV.tmp rfl | exact RV.cell1 hT rfl rfl rfl (by (exact Rd1.row (by (repeat (first | exact Pick.head | apply Pick.tail | apply Pick.app))) (by rfl))) | exact RV.cellN hT rfl rfl rfl (by (first | exact RdN.rowAll (by (repeat (first | exact Pick.head | apply Pick.tail | apply Pick.app))) | exact RdN.own (by (repeat (first | exact Pick.head | apply Pick.tail | apply Pick.app))))) (by (first | rfl | assumption | (simp; done) | omega)))) (by (first | exact RV.tmp rfl | exact RV.cell1 hT rfl rfl rfl (by (exact Rd1.row (by (repeat (first | exact Pick.head | apply Pick.tail | apply Pick.app))) (by rfl))) | exact RV.cellN hT rfl rfl rfl (by (first | exact RdN.rowAll (by (repeat (first | exact Pick.head | apply Pick.tail | apply Pick.app))) | exact RdN.own (by (repeat (first | exact Pick.head | apply Pick.tail | apply Pick.app))))) (by (first | rfl | assumption | (simp; done) | omega)))) ?_
                exact ⟨by rw [← hres], fun w h => by rw [← hres]; exact h⟩
              case' hf =>
               intro h
               try (first | (exfalso; omega) | (cases h; done) | (exfalso; simp at h; done) | subst h)
               all_goals
                rw [if_neg (by omega)] at he1
                have hne : ¬ u = v := by
                 rintro rfl
                 rcases st3 with q | q
                 · omega
                 · rcases st4 with q2 | q2
                   · omega
                   · rw [q] at q2; cases q2
                refine J.skip ?_
              all_goals refine JE.then_normal ?_
              all_goals
               refine J.seq ?_
               refine J.draw _ _ [(0, .q), (1, .q), (2, .q), (3, .q), (4, .q), (5, .q), (6, .q), (8, .q), (9, .q), (10, .q), (7, .e), (11, .e), (12, .q), (13, .l), (14, .q), (15, .l)] mixed (by kernel_rfl) (Split.cons (Pick.head) (Split.nil)) ?_
               refine JM.quiet rfl rfl rfl rfl (fun m => y_move rfl) (JM.quiet rfl rfl rfl rfl (fun m => y_move rfl) (JM.quiet rfl rfl rfl rfl (fun m => y_move rfl) (JM.quiet rfl rfl rfl rfl (fun m => y_move rfl) (JM.quiet rfl rfl rfl rfl (fun m => y_move rfl) (JM.quiet rfl rfl rfl rfl (fun m => y_move rfl) ?_)))))
               refine JM.quiet rfl rfl rfl rfl (fun m => y_indexAddr_slice hT rfl rfl rfl rfl rfl (by (first | omega | exact Nat.le_of_ble_eq_true rfl | decide | (simp; omega))) (by (first | omega | exact Nat.le_of_ble_eq_true rfl | decide | (simp; omega)))) ?_
               refine JM.quiet rfl rfl rfl rfl (fun m => y_move rfl) (JM.quiet rfl rfl rfl rfl (fun m => y_move rfl) ?_)
               refine JM.quiet rfl rfl rfl rfl (fun m => y_indexAddr_slice hT rfl rfl rfl rfl rfl (by (first | omega | exact Nat.le_of_ble_eq_true rfl | decide | (simp; omega))) (by (first | omega | exact Nat.le_of_ble_eq_true rfl | decide | (simp; omega)))) ?_
               refine JM.early rfl rfl rfl rfl (fun fr => y_loadN hT rfl rfl rfl (RdN.arr (i := (v)) (by (repeat (first | exact Pick.head | apply Pick.tail | apply Pick.app))) hkE (by (first | assumption | omega | (simp only [Array.size_setIfInBounds]; omega))) (by exact arr_off rfl (by omega))) (by (first | rfl | assumption | exact hkE _ | simp))) ?_
               refine JM.early rfl rfl rfl rfl (fun fr => y_loadN hT rfl rfl rfl (RdN.arr (i := (u)) (by (repeat (first | exact Pick.head | apply Pick.tail | apply Pick.app))) hkE (by (first | assumption | omega | (simp only [Array.size_setIfInBounds]; omega))) (by exact arr_off rfl (by omega))) (by (first | rfl | assumption | exact hkE _ | simp))) ?_
               refine JM.quiet rfl rfl rfl rfl (fun m => y_indexAddr_slice hT rfl rfl rfl rfl rfl (by (first | omega | exact Nat.le_of_ble_eq_true rfl | decide | (simp; omega))) (by (first | omega | exact Nat.le_of_ble_eq_true rfl | decide | (simp; omega)))) ?_
               refine JM.loud rfl rfl (fun fr => l_storeArrN (j := (u)) hT rfl rfl rfl hkE rfl hoE (by (repeat (first | exact Pick.head | apply Pick.tail | apply Pick.app))) (by (first | assumption | omega | (simp only [Array.size_setIfInBounds]; omega))) (by exact arr_off rfl (by omega)) (⟨[_], (by (repeat (first | exact Split.nil | exact Split.all | refine Split.cons Pick.head ?_))), ?_⟩))
               refine JM.quiet rfl rfl rfl rfl (fun m => y_indexAddr_slice hT rfl rfl rfl rfl rfl (by (first | omega | exact Nat.le_of_ble_eq_true rfl | decide | (simp; omega))) (by (first | omega | exact Nat.le_of_ble_eq_true rfl | decide | (simp; omega)))) ?_
               refine JM.loud rfl rfl (fun fr => l_storeArrN (j := (v)) hT rfl rfl rfl hkE rfl hoE (by (repeat (first | exact Pick.head | apply Pick.tail | apply Pick.app))) (by (first | assumption | omega | (simp only [Array.size_setIfInBounds]; omega))) (by exact arr_off rfl (by omega)) (⟨[_], (by (repeat (first | exact Split.nil | exact Split.all | refine Split.cons Pick.head ?_))), ?_⟩))
               refine JM.nil (JE.then_normal (J.seq (J.region (JL.step (y_move rfl) rfl rfl rfl ?_))))
               refine JL.step (y_add rfl rfl (by (first | exact wrap_i64 (by omega) (by omega) | rfl))) rfl rfl rfl ?_
               refine JL.step (y_assign rfl) rfl rfl rfl ?_
               refine JL.nil (JE.then_normal (J.region (JL.step (y_move rfl) rfl rfl rfl ?_)))
               refine JL.step (y_sub rfl rfl (by (first | exact wrap_i64 (by omega) (by omega) | rfl))) rfl rfl rfl ?_
               refine JL.step (y_assign rfl) rfl rfl rfl ?_
               refine JL.nil ?_
              all_goals
               refine JE.block_normal ?_
               exact JE.round (s := (i, j, d1)) (u + 1, v - 1, Sort.swp d1 u v) ⟨by dsimp only; omega, by dsimp only; omega, by dsimp only; omega, by dsimp only; omega, by dsimp only; rw [swp_size]; exact hs1, he1⟩ ⟨rfl, rfl, (congrArg (fun z => some (Value.int .i64 z)) (by first | omega | (dsimp only; omega))), (congrArg (fun z => some (Value.int .i64 z)) (by first | omega | (dsimp only; omega))), rfl, trivial⟩ (fun w h => h) (by dsimp only; omega)
           all_goals refine JE.then_normal ?_
           all_goals
            refine J.block (J.region (JL.step (y_move rfl) rfl rfl rfl ?_))
            refine JL.step (y_sub rfl rfl (by (first | exact wrap_i64 (by omega) (by omega) | rfl))) rfl rfl rfl ?_
            refine JL.step (y_assign rfl) rfl rfl rfl ?_
            refine JL.nil (JE.block_normal ?_)
           all_goals
            exact JE.round (s := v) (v - 1) ⟨by omega, by omega, hv3⟩ ⟨rfl, rfl, rfl, (congrArg (fun z => some (Value.int .i64 z)) (by first | omega | (dsimp only; omega))), rfl, trivial⟩ (fun w h => h) (by omega)
        all_goals refine JE.then_normal ?_
        all_goals
         refine J.block (J.region (JL.step (y_move rfl) rfl rfl rfl ?_))
         refine JL.step (y_add rfl rfl (by (first | exact wrap_i64 (by omega) (by omega) | rfl))) rfl rfl rfl ?_
         refine JL.step (y_assign rfl) rfl rfl rfl ?_
         refine JL.nil (JE.block_normal ?_)
        all_goals
         exact JE.round (s := u) (u + 1) ⟨by omega, by omega, hu3⟩ ⟨rfl, rfl, (congrArg (fun z => some (Value.int .i64 z)) (by first | omega | (dsimp only; omega))), rfl, rfl, trivial⟩ (fun w h => h) (by omega)
    all_goals refine JE.then_normal ?_
    all_goals
     refine J.block (J.region (JL.step (y_move rfl) rfl rfl rfl ?_))
     refine JL.step (y_sub rfl rfl (by (first | exact wrap_i64 (by omega) (by omega) | rfl))) rfl rfl rfl ?_
     refine JL.step (y_assign rfl) rfl rfl rfl ?_
     refine JL.nil (JE.block_normal ?_)
    all_goals
     exact JE.round (s := y) (y - 1) ⟨by omega, by omega, hy3⟩ ⟨rfl, rfl, rfl, (congrArg (fun z => some (Value.int .i64 z)) (by first | omega | (dsimp only; omega))), rfl, trivial⟩ (fun w h => h) (by omega)
 all_goals refine JE.then_normal ?_
 all_goals
  refine J.block (J.region (JL.step (y_move rfl) rfl rfl rfl ?_))
  refine JL.step (y_add rfl rfl (by (first | exact wrap_i64 (by omega) (by omega) | rfl))) rfl rfl rfl ?_
  refine JL.step (y_assign rfl) rfl rfl rfl ?_
  refine JL.nil (JE.block_normal ?_)
 all_goals
  exact JE.round (s := x) (x + 1) ⟨by omega, by omega, hx3⟩ ⟨rfl, rfl, (congrArg (fun z => some (Value.int .i64 z)) (by first | omega | (dsimp only; omega))), rfl, rfl, trivial⟩ (fun w h => h) (by omega)
end
end
section
open Go Go.SL
section
attribute [local irreducible] J JL JE JM LS Y Fc RV Code.wp wpList Code.wpIn wpListIn
attribute [local irreducible] Yc
attribute [local irreducible] ltF cmpF flE
variable (E : World)
theorem pinsF (g c n a b : Nat) (ia ib : Int) (d : Array FlowT) (sp : List Value) (r : List HProp) (ea : ia = a) (eb : ib = b) (hn : d.size = n) (hab : a < b) (hb : b ≤ n) (h63 : n < 4611686018427387904) :
 Fc prog E 92 [.slice (some ⟨g, 0, none⟩) n c, .int .i64 ia, .int .i64 ib, (Value.func (.func 38) #[] [].toArray)].toArray (arF g d sp :: r) (fun v l' => v = .bool (Sort.partialInsertionSort ltF d a b).2 ∧ l' = arF g (Sort.partialInsertionSort ltF d a b).1 sp :: r) := by
 refine Fc.eqs ?_
 subst ea eb
 generalize hres : Sort.partialInsertionSort ltF d a b = res
 have hres : Sort.partialIns ltF a b 5 (a + 1) d = res := hres
 refine Fc.of_body (c := ?codeC) Tryd.func92 ?hb Tryd.ntmps92 ?hl ?_
 case hb => exact rfl
 case hl => exact rfl
 refine J.seq (J.region (JL.step (y_assign rfl) rfl rfl rfl ?_))
 refine JL.nil (JE.then_normal (J.seq (J.region (JL.step (y_move rfl) rfl rfl rfl ?_))))
 refine JL.step (y_add rfl rfl (by (first | exact wrap_i64 (by omega) (by omega) | rfl))) rfl rfl rfl ?_
 refine JL.step (y_assign rfl) rfl rfl rfl ?_
 refine JL.nil (JE.then_normal (J.seq (J.seq (J.region (JL.step (y_assign rfl) rfl rfl rfl ?_)))))
 refine JL.nil (JE.then_normal (J.block ?_))
 refine J.loop (α := Nat × Nat × Array FlowT) (fun s => s.1 ≤ 5 ∧ a + 1 ≤ s.2.1 ∧ s.2.1 ≤ b ∧ s.2.2.size = n ∧ Sort.partialIns ltF a b s.1 s.2.1 s.2.2 = res) (fun s => [(0, .slice (some ⟨g, 0, none⟩) n c), (1, .int .i64 a), (2, .int .i64 b), (9, .int .i64 s.2.1), (10, .int .i64 (5 - (s.1 : Int))), (3, (Value.func (.func 38) #[] [].toArray))]) (fun s => arF g s.2.2 sp :: r) (fun s => s.1) (5, a + 1, d) ⟨Nat.le_refl _, Nat.le_refl _, by dsimp only; omega, hn, hres⟩ ⟨rfl, rfl, rfl, (congrArg (fun z => some (Value.int .i64 z)) (by first | omega | (dsimp only; omega))), rfl, rfl, trivial⟩ (fun w h => h) ?_
 rintro ⟨s, i, d1⟩ ⟨hs5, hi1, hi2, hs1, he1⟩
 try dsimp only at hs5 hi1 hi2 hs1 he1 ⊢
 refine J.seq (J.seq (J.region (JL.step (y_move rfl) rfl rfl rfl (JL.step (y_lss rfl rfl) rfl rfl rfl ?_))))
 refine JL.nil (JE.then_normal ?_)
 first | apply J.cond_dec rfl | apply J.cond rfl
 case' ht =>
  intro h
  try (first | (exfalso; omega) | (cases h; done) | (exfalso; simp at h; done) | subst h)
  all_goals
   obtain ⟨k, hk⟩ : ∃ k, s = k + 1 := ⟨s - 1, by omega⟩
   rw [hk, Sort.partialIns_succ] at he1
   refine J.skip ?_
 case' hf =>
  intro h
  try (first | (exfalso; omega) | (cases h; done) | (exfalso; simp at h; done) | subst h)
  all_goals
   obtain rfl : s = 0 := by omega
   have he1 : (d1, false) = res := he1
   refine J.exit (JE.then_exit (JE.then_exit (JE.block_exit (JE.then_normal (J.seq (J.region (JL.step (y_assign rfl) rfl rfl rfl ?_)))))))
   refine JL.nil (JE.then_normal (J.ret ?_))
   refine JE.ret1 (.inl rfl) rfl rfl (by (first | exact RV.tmp rfl | exact RV.cell1 hT rfl rfl rfl (by (exact Rd1.row (by (repeat (first | exact Pick.head | apply Pick.tail | apply Pick.app))) (by rfl))) | exact RV.cellN hT rfl rfl rfl (by (first | exact RdN.rowAll (by (repeat (first | exact Pick.head | apply Pick.tail | apply Pick.app))) | exact RdN.own (by (repeat (first | exact Pick.head | apply Pick.tail | apply Pick.app))))) (by (first | rfl | assumption | (simp; done) | omega)))) ?_
   exact ⟨by rw [← he1], fun w h => by rw [← he1]; exact h⟩
 all_goals refine JE.then_normal ?_
 all_goals
  refine J.seqK (α := Nat × Array FlowT) (fun q => a + 1 ≤ q.1 ∧ q.1 ≤ b ∧ q.2.size = n ∧ ∃ k, s = k + 1 ∧ Sort.partialIns ltF a b k q.1 q.2 = res) (fun q => [(0, .slice (some ⟨g, 0, none⟩) n c), (1, .int .i64 a), (2, .int .i64 b), (9, .int .i64 q.1), (10, .int .i64 (5 - (s : Int))), (3, (Value.func (.func 38) #[] [].toArray))]) (fun q => arF g q.2 sp :: r) ?hj4 (fun hk4 => ?hf4)
  case hf4 =>
   refine J.block (J.seq (J.block ?_))
   refine J.loop (α := Nat) (fun x => i ≤ x ∧ x ≤ b ∧ Sort.scanSorted ltF d1 b x = Sort.scanSorted ltF d1 b i) (fun x => [(0, .slice (some ⟨g, 0, none⟩) n c), (1, .int .i64 a), (2, .int .i64 b), (9, .int .i64 x), (10, .int .i64 (5 - (s : Int))), (3, (Value.func (.func 38) #[] [].toArray))]) (fun x => arF g d1 sp :: r) (fun x => b - x) i ⟨Nat.le_refl _, hi2, rfl⟩ ⟨rfl, rfl, rfl, rfl, rfl, rfl, trivial⟩ (fun w h => h) ?_
   rintro x ⟨hx1, hx2, hx3⟩
   try dsimp only at hx1 hx2 hx3 ⊢
   refine J.seq (J.seq ?_)
   by_cases hg : x < b
   all_goals
    refine J.draw _ _ [(0, .q), (1, .q), (2, .q), (3, .q), (4, .q), (5, .q), (6, .q), (7, .q), (8, .q), (9, .q), (10, .q), (11, .q), (12, .q), (13, .q), (14, .q), (15, .q), (16, .q), (17, .q)] mixed (by kernel_rfl) (Split.nil) ?_
    refine JM.quiet rfl rfl rfl rfl (fun m => y_move rfl) (JM.quiet rfl rfl rfl rfl (fun m => y_move rfl) ?_)
    first | refine JM.quiet rfl rfl rfl rfl (fun m => y_lssB rfl rfl (decide_eq_true (by omega))) ?_ | refine JM.quiet rfl rfl rfl rfl (fun m => y_lssB rfl rfl (decide_eq_false (by omega))) ?_
    refine JM.quiet rfl rfl rfl rfl (fun m => y_move rfl) ?_
    all_goals (first | refine JM.gskip rfl rfl rfl rfl rfl rfl rfl ?_ | refine JM.gskipU rfl rfl rfl rfl rfl rfl ?_ | refine JM.gquiet rfl rfl rfl rfl rfl rfl (fun m => y_move rfl) ?_)
    all_goals (first | refine JM.gskip rfl rfl rfl rfl rfl rfl rfl ?_ | refine JM.gskipU rfl rfl rfl rfl rfl rfl ?_ | refine JM.gquiet rfl rfl rfl rfl rfl rfl (fun m => y_move rfl) ?_)
    all_goals (first | refine JM.gskip rfl rfl rfl rfl rfl rfl rfl ?_ | refine JM.gskipU rfl rfl rfl rfl rfl rfl ?_ | refine JM.gquiet rfl rfl rfl rfl rfl rfl (fun m => y_move rfl) ?_)
    all_goals (first | refine JM.gskip rfl rfl rfl rfl rfl rfl rfl ?_ | refine JM.gskipU rfl rfl rfl rfl rfl rfl ?_ | refine JM.gquiet rfl rfl rfl rfl rfl rfl (fun m => y_indexAddr_slice hT rfl rfl rfl rfl rfl (by (first | omega | exact Nat.le_of_ble_eq_true rfl | decide | (simp; omega))) (by (first | omega | exact Nat.le_of_ble_eq_true rfl | decide | (simp; omega)))) ?_)
    all_goals (first | refine JM.gskip rfl rfl rfl rfl rfl rfl rfl ?_ | refine JM.gskipU rfl rfl rfl rfl rfl rfl ?_ | refine JM.gquiet rfl rfl rfl rfl rfl rfl (fun m => y_loadN hT rfl rfl rfl (RdN.arr (i := (x)) (Pick.app m (by (repeat (first | exact Pick.head | apply Pick.tail | apply Pick.app)))) hkE (by (first | assumption | omega | (simp only [Array.size_setIfInBounds]; omega))) (by exact arr_off rfl (by omega))) (by (first | rfl | assumption | exact hkE _ | simp))) ?_)
    all_goals (first | refine JM.gskip rfl rfl rfl rfl rfl rfl rfl ?_ | refine JM.gskipU rfl rfl rfl rfl rfl rfl ?_ | refine JM.gquiet rfl rfl rfl rfl rfl rfl (fun m => y_move rfl) ?_)
    all_goals (first | refine JM.gskip rfl rfl rfl rfl rfl rfl rfl ?_ | refine JM.gskipU rfl rfl rfl rfl rfl rfl ?_ | refine JM.gquiet rfl rfl rfl rfl rfl rfl (fun m => y_move rfl) ?_)
    all_goals (first | refine JM.gskip rfl rfl rfl rfl rfl rfl rfl ?_ | refine JM.gskipU rfl rfl rfl rfl rfl rfl ?_ | refine JM.gquiet rfl rfl rfl rfl rfl rfl (fun m => y_sub rfl rfl (by (first | exact wrap_i64 (by omega) (by omega) | rfl))) ?_)
    all_goals (first | refine JM.gskip rfl rfl rfl rfl rfl rfl rfl ?_ | refine JM.gskipU rfl rfl rfl rfl rfl rfl ?_ | refine JM.gquiet rfl rfl rfl rfl rfl rfl (fun m => y_indexAddr_slice hT rfl rfl rfl rfl rfl (by (first | omega | exact Nat.le_of_ble_eq_true rfl | decide | (simp; omega))) (by (first | omega | exact Nat.le_of_ble_eq_true rfl | decide | (simp; omega)))) ?_)
    all_goals (first | refine JM.gskip rfl rfl rfl rfl rfl rfl rfl ?_ | refine JM.gskipU rfl rfl rfl rfl rfl rfl ?_ | refine JM.gquiet rfl rfl rfl rfl rfl rfl (fun m => y_loadN hT rfl rfl rfl (RdN.arr (i := (x - 1)) (Pick.app m (by (repeat (first | exact Pick.head | apply Pick.tail | apply Pick.app)))) hkE (by (first | assumption | omega | (simp only [Array.size_setIfInBounds]; omega))) (by exact arr_off rfl (by omega))) (by (first | rfl | assumption | exact hkE _ | simp))) ?_)
    all_goals (first | refine JM.gskip rfl rfl rfl rfl rfl rfl rfl ?_ | refine JM.gskipU rfl rfl rfl rfl rfl rfl ?_ | refine JM.gquiet rfl rfl rfl rfl rfl rfl (fun m => y_callV e38 rfl rfl (flowCmp E _ _ _)) ?_)
    all_goals (first | refine JM.gskip rfl rfl rfl rfl rfl rfl rfl ?_ | refine JM.gskipU rfl rfl rfl rfl rfl rfl ?_ | refine JM.gquiet rfl rfl rfl rfl rfl rfl (fun m => y_ltF E rfl rfl) ?_)
    all_goals (first | refine JM.gskip rfl rfl rfl rfl rfl rfl rfl ?_ | refine JM.gskipU rfl rfl rfl rfl rfl rfl ?_ | refine JM.gquiet rfl rfl rfl rfl rfl rfl (fun m => y_not rfl) ?_)
    all_goals refine JM.quiet rfl rfl rfl rfl (fun m => y_pick rfl rfl rfl) ?_
    all_goals refine JM.nil ?_
   all_goals refine JE.then_normal ?_
   all_goals
    first | apply J.cond_dec rfl | apply J.cond rfl
    case' ht =>
     intro h
     try (first | (exfalso; omega) | (cases h; done) | (exfalso; simp at h; done) | subst h)
     all_goals
      rw [scanSorted_go (by omega) (by simpa using h)] at hx3
      refine J.skip ?_
    case' hf =>
     intro h
     try (first | (exfalso; omega) | (cases h; done) | (exfalso; simp at h; done) | subst h)
     all_goals
      rw [scanSorted_stop (by first | exact .inl (by omega) | exact .inr (by simpa using h))] at hx3
      rw [← hx3] at he1
      refine J.exit (JE.then_exit (JE.then_exit (JE.block_exit (JE.then_normal (J.seq (J.seq (J.region (JL.step (y_move rfl) rfl rfl rfl (JL.step (y_move rfl) rfl rfl rfl (JL.step (y_eql rfl rfl) rfl rfl rfl ?_))))))))))
      refine JL.nil (JE.then_normal ?_)
      first | apply J.cond_dec rfl | apply J.cond rfl
      case' ht =>
       intro h
       try (first | (exfalso; omega) | (cases h; done) | (exfalso; simp at h; done) | subst h)
       all_goals
        rw [if_pos (by omega)] at he1
        refine J.seq (J.region (JL.step (y_assign rfl) rfl rfl rfl ?_))
        refine JL.nil (JE.then_normal (J.ret (JE.then_ret (JE.block_ret (JE.then_ret (JE.then_ret (JE.block_ret (JE.then_ret ?_))))))))
        refine JE.ret1 (.inl rfl) rfl rfl (by (first | exact RV.tmp rfl | exact RV.cell1 hT rfl rfl rfl (by (exact Rd1.row (by (repeat (first | exact Pick.head | apply Pick.tail | apply Pick.app))) (by rfl))) | exact RV.cellN hT rfl rfl rfl (by (first | exact RdN.rowAll (by (repeat (first | exact Pick.head | apply Pick.tail | apply Pick.app))) | exact RdN.own (by (repeat (first | exact Pick.head | apply Pick.tail | apply Pick.app))))) (by (first | rfl | assumption | (simp; done) | omega)))) ?_
        exact ⟨by rw [← he1], fun w h => by rw [← he1]; exact h⟩
      case' hf =>
       intro h
       try (first | (exfalso; omega) | (cases h; done) | (exfalso; simp at h; done) | subst h)
       all_goals
        rw [if_neg (by omega)] at he1
        refine J.skip ?_
      all_goals refine JE.then_normal ?_
      all_goals
       refine J.seq (J.seq (J.region (JL.step (y_move rfl) rfl rfl rfl (JL.step (y_move rfl) rfl rfl rfl ?_))))
       refine JL.step (y_sub rfl rfl (by (first | exact wrap_i64 (by omega) (by omega) | rfl))) rfl rfl rfl ?_
       refine JL.step (y_lss rfl rfl) rfl rfl rfl ?_
       refine JL.nil (JE.then_normal ?_)
       first | apply J.cond_dec rfl | apply J.cond rfl
       case' ht =>
        intro h
        try (first | (exfalso; omega) | (cases h; done) | (exfalso; simp at h; done) | subst h)
        all_goals
         rw [if_pos (by omega)] at he1
         refine J.seq (J.region (JL.step (y_assign rfl) rfl rfl rfl ?_))
         refine JL.nil (JE.then_normal (J.ret (JE.then_ret (JE.block_ret (JE.then_ret (JE.then_ret (JE.block_ret (JE.then_ret ?_))))))))
         refine JE.ret1 (.inl rfl) rfl rfl (by (first | exact RV.tmp rfl | exact RV.cell1 hT rfl rfl rfl (by (exact Rd1.row (by (repeat (first | exact Pick.head | apply Pick.tail | apply Pick.app))) (by rfl))) | exact RV.cellN hT rfl rfl rfl (by (first | exact RdN.rowAll (by (repeat (first | exact Pick.head | apply Pick.tail | apply Pick.app))) | exact RdN.own (by (repeat (first | exact Pick.head | apply Pick.tail | apply Pick.app))))) (by (first | rfl | assumption | (simp; done) | omega)))) ?_
         exact ⟨by rw [← he1], fun w h => by rw [← he1]; exact h⟩
       case' hf =>
        intro h
        try (first | (exfalso; omega) | (cases h; done) | (exfalso; simp at h; done) | subst h)
        all_goals
         rw [if_neg (by omega)] at he1
         refine J.skip ?_
       all_goals refine JE.then_normal ?_
       all_goals
        refine J.seq ?_
        refine J.draw _ _ [(0, .q), (1, .q), (2, .q), (3, .q), (4, .q), (5, .q), (6, .q), (7, .q), (8, .q), (10, .q), (11, .q), (12, .q), (9, .e), (13, .e), (14, .q), (15, .l), (16, .q), (17, .l)] mixed (by kernel_rfl) (Split.cons (Pick.head) (Split.nil)) ?_
        refine JM.quiet rfl rfl rfl rfl (fun m => y_move rfl) (JM.quiet rfl rfl rfl rfl (fun m => y_move rfl) (JM.quiet rfl rfl rfl rfl (fun m => y_move rfl) (JM.quiet rfl rfl rfl rfl (fun m => y_move rfl) ?_)))
        refine JM.quiet rfl rfl rfl rfl (fun m => y_sub rfl rfl (by (first | exact wrap_i64 (by omega) (by omega) | rfl))) ?_
        refine JM.quiet rfl rfl rfl rfl (fun m => y_move rfl) (JM.quiet rfl rfl rfl rfl (fun m => y_move rfl) ?_)
        refine JM.quiet rfl rfl rfl rfl (fun m => y_sub rfl rfl (by (first | exact wrap_i64 (by omega) (by omega) | rfl))) ?_
        refine JM.quiet rfl rfl rfl rfl (fun m => y_indexAddr_slice hT rfl rfl rfl rfl rfl (by (first | omega | exact Nat.le_of_ble_eq_true rfl | decide | (simp; omega))) (by (first | omega | exact Nat.le_of_ble_eq_true rfl | decide | (simp; omega)))) ?_
        refine JM.quiet rfl rfl rfl rfl (fun m => y_move rfl) (JM.quiet rfl rfl rfl rfl (fun m => y_move rfl) ?_)
        refine JM.quiet rfl rfl rfl rfl (fun m => y_indexAddr_slice hT rfl rfl rfl rfl rfl (by (first | omega | exact Nat.le_of_ble_eq_true rfl | decide | (simp; omega))) (by (first | omega | exact Nat.le_of_ble_eq_true rfl | decide | (simp; omega)))) ?_
        refine JM.early rfl rfl rfl rfl (fun fr => y_loadN hT rfl rfl rfl (RdN.arr (i := (x - 1)) (by (repeat (first | exact Pick.head | apply Pick.tail | apply Pick.app))) hkE (by (first | assumption | omega | (simp only [Array.size_setIfInBounds]; omega))) (by exact arr_off rfl (by omega))) (by (first | rfl | assumption | exact hkE _ | simp))) ?_
        refine JM.early rfl rfl rfl rfl (fun fr => y_loadN hT rfl rfl rfl (RdN.arr (i := (x)) (by (repeat (first | exact Pick.head | apply Pick.tail | apply Pick.app))) hkE (by (first | assumption | omega | (simp only [Array.size_setIfInBounds]; omega))) (by exact arr_off rfl (by omega))) (by (first | rfl | assumption | exact hkE _ | simp))) ?_
        refine JM.quiet rfl rfl rfl rfl (fun m => y_indexAddr_slice hT rfl rfl rfl rfl rfl (by (first | omega | exact Nat.le_of_ble_eq_true rfl | decide | (simp; omega))) (by (first | omega | exact Nat.le_of_ble_eq_true rfl | decide | (simp; omega)))) ?_
        refine JM.loud rfl rfl (fun fr => l_storeArrN (j := (x)) hT rfl rfl rfl hkE rfl hoE (by (repeat (first | exact Pick.head | apply Pick.tail | apply Pick.app))) (by (first | assumption | omega | (simp only [Array.size_setIfInBounds]; omega))) (by exact arr_off rfl (by omega)) (⟨[_], (by (repeat (first | exact Split.nil | exact Split.all | refine Split.cons Pick.head ?_))), ?_⟩))
        refine JM.quiet rfl rfl rfl rfl (fun m => y_indexAddr_slice hT rfl rfl rfl rfl rfl (by (first | omega | exact Nat.le_of_ble_eq_true rfl | decide | (simp; omega))) (by (first | omega | exact Nat.le_of_ble_eq_true rfl | decide | (simp; omega)))) ?_
        refine JM.loud rfl rfl (fun fr => l_storeArrN (j := (x - 1)) hT rfl rfl rfl hkE rfl hoE (by (repeat (first | exact Pick.head | apply Pick.tail | apply Pick.app))) (by (first | assumption | omega | (simp only [Array.size_setIfInBounds]; omega))) (by exact arr_off rfl (by omega)) (⟨[_], (by (repeat (first | exact Split.nil | exact Split.all | refine Split.cons Pick.head ?_))), ?_⟩))
        refine JM.nil (JE.then_normal ?_)
        refine J.seqK (α := Nat × Array FlowT) (fun q => a + 1 ≤ q.1 ∧ q.1 < b ∧ q.2.size = n ∧ ∃ k, s = k + 1 ∧ Sort.partialIns ltF a b k q.1 (Sort.fixUp ltF b q.1 q.2) = res) (fun q => [(0, .slice (some ⟨g, 0, none⟩) n c), (1, .int .i64 a), (2, .int .i64 b), (9, .int .i64 q.1), (10, .int .i64 (5 - (s : Int))), (3, (Value.func (.func 38) #[] [].toArray))]) (fun q => arF g q.2 sp :: r) ?hj18 (fun hk18 => ?hf18)
        case hf18 =>
         refine J.seq (J.region (JL.step (y_move rfl) rfl rfl rfl (JL.step (y_move rfl) rfl rfl rfl ?_)))
         refine JL.step (y_sub rfl rfl (by (first | exact wrap_i64 (by omega) (by omega) | rfl))) rfl rfl rfl ?_
         refine JL.step (y_geq rfl rfl) rfl rfl rfl ?_
         refine JL.nil (JE.then_normal ?_)
         first | apply J.cond_dec rfl | apply J.cond rfl
         case' ht =>
          intro h
          try (first | (exfalso; omega) | (cases h; done) | (exfalso; simp at h; done) | subst h)
          all_goals
           have hfd : Sort.fixDown ltF a x (Sort.swp d1 x (x - 1)) = Sort.shiftDown ltF (x - 1) (Sort.swp d1 x (x - 1)) := if_pos (by omega)
           rw [hfd] at he1
           refine J.seq (J.region (JL.step (y_move rfl) rfl rfl rfl ?_))
           refine JL.step (y_sub rfl rfl (by (first | exact wrap_i64 (by omega) (by omega) | rfl))) rfl rfl rfl ?_
           refine JL.step (y_assign rfl) rfl rfl rfl ?_
           refine JL.nil (JE.then_normal (J.block ?_))
           refine J.loop (α := Nat × Array FlowT) (fun q => q.1 ≤ x - 1 ∧ q.2.size = n ∧ Sort.shiftDown ltF q.1 q.2 = Sort.shiftDown ltF (x - 1) (Sort.swp d1 x (x - 1))) (fun q => [(0, .slice (some ⟨g, 0, none⟩) n c), (1, .int .i64 a), (2, .int .i64 b), (9, .int .i64 x), (10, .int .i64 (5 - (s : Int))), (11, .int .i64 q.1), (3, (Value.func (.func 38) #[] [].toArray))]) (fun q => arF g q.2 sp :: r) (fun q => q.1) (x - 1, Sort.swp d1 x (x - 1)) ⟨Nat.le_refl _, by dsimp only; rw [swp_size]; exact hs1, rfl⟩ ⟨rfl, rfl, rfl, rfl, rfl, (congrArg (fun z => some (Value.int .i64 z)) (by first | omega | (dsimp only; omega))), rfl, trivial⟩ (fun w h => h) ?_
           rintro ⟨j, d2⟩ ⟨hj1, hs2, he2⟩
           try dsimp only at hj1 hs2 he2 ⊢
           refine J.seq (J.seq (J.region (JL.step (y_move rfl) rfl rfl rfl (JL.step (y_geq rfl rfl) rfl rfl rfl ?_))))
           refine JL.nil (JE.then_normal ?_)
           first | apply J.cond_dec rfl | apply J.cond rfl
           case' ht =>
            intro h
            try (first | (exfalso; omega) | (cases h; done) | (exfalso; simp at h; done) | subst h)
            all_goals
             refine J.skip ?_
           case' hf =>
            intro h
            try (first | (exfalso; omega) | (cases h; done) | (exfalso; simp at h; done) | subst h)
            all_goals
             rw [shiftDown_stop (.inl (by omega))] at he2
             rw [← he2] at he1
             refine J.exit (JE.then_exit (JE.then_exit (JE.block_exit (JE.then_normal ?_))))
             first | exact J.closeK hk18 (x, d2) ⟨by dsimp only; omega, by dsimp only; omega, hs2, k, hk, he1⟩ ⟨rfl, rfl, rfl, rfl, rfl, rfl, trivial⟩ (fun w h => h) | exact J.closeK hk18 (x, Sort.swp d1 x (x - 1)) ⟨by dsimp only; omega, by dsimp only; omega, by dsimp only; rw [swp_size]; exact hs1, k, hk, he1⟩ ⟨rfl, rfl, rfl, rfl, rfl, rfl, trivial⟩ (fun w h => h)
           all_goals refine JE.then_normal ?_
           all_goals
            refine J.seq (J.block (J.seq (J.seq ?_)))
            refine J.draw _ _ [(0, .q), (1, .q), (2, .q), (3, .q), (4, .q), (5, .q), (6, .q), (7, .q), (8, .q), (9, .q), (10, .q), (11, .q), (12, .q)] mixed (by kernel_rfl) (Split.nil) ?_
            refine JM.quiet rfl rfl rfl rfl (fun m => y_move rfl) (JM.quiet rfl rfl rfl rfl (fun m => y_move rfl) (JM.quiet rfl rfl rfl rfl (fun m => y_move rfl) ?_))
            refine JM.quiet rfl rfl rfl rfl (fun m => y_indexAddr_slice hT rfl rfl rfl rfl rfl (by (first | omega | exact Nat.le_of_ble_eq_true rfl | decide | (simp; omega))) (by (first | omega | exact Nat.le_of_ble_eq_true rfl | decide | (simp; omega)))) ?_
            refine JM.quiet rfl rfl rfl rfl (fun m => y_loadN hT rfl rfl rfl (RdN.arr (i := (j)) (Pick.app m (by (repeat (first | exact Pick.head | apply Pick.tail | apply Pick.app)))) hkE (by (first | assumption | omega | (simp only [Array.size_setIfInBounds]; omega))) (by exact arr_off rfl (by omega))) (by (first | rfl | assumption | exact hkE _ | simp))) ?_
            refine JM.quiet rfl rfl rfl rfl (fun m => y_move rfl) (JM.quiet rfl rfl rfl rfl (fun m => y_move rfl) ?_)
            refine JM.quiet rfl rfl rfl rfl (fun m => y_sub rfl rfl (by (first | exact wrap_i64 (by omega) (by omega) | rfl))) ?_
            refine JM.quiet rfl rfl rfl rfl (fun m => y_indexAddr_slice hT rfl rfl rfl rfl rfl (by (first | omega | exact Nat.le_of_ble_eq_true rfl | decide | (simp; omega))) (by (first | omega | exact Nat.le_of_ble_eq_true rfl | decide | (simp; omega)))) ?_
            refine JM.quiet rfl rfl rfl rfl (fun m => y_loadN hT rfl rfl rfl (RdN.arr (i := (j - 1)) (Pick.app m (by (repeat (first | exact Pick.head | apply Pick.tail | apply Pick.app)))) hkE (by (first | assumption | omega | (simp only [Array.size_setIfInBounds]; omega))) (by exact arr_off rfl (by omega))) (by (first | rfl | assumption | exact hkE _ | simp))) ?_
            refine JM.quiet rfl rfl rfl rfl (fun m => y_callV e38 rfl rfl (flowCmp E _ _ _)) (JM.quiet rfl rfl rfl rfl (fun m => y_ltF E rfl rfl) (JM.quiet rfl rfl rfl rfl (fun m => y_not rfl) ?_))
            refine JM.nil (JE.then_normal ?_)
            first | apply J.cond_dec rfl | apply J.cond rfl
            case' ht =>
             intro h
             try (first | (exfalso; omega) | (cases h; done) | (exfalso; simp at h; done) | subst h)
             all_goals
              rw [shiftDown_stop (.inr (by simpa using h))] at he2
              rw [← he2] at he1
              refine J.exit (JE.then_exit ?_)
              refine JE.block_past rfl ?_
              refine JE.then_exit (JE.then_exit (JE.block_exit (JE.then_normal ?_)))
              first | exact J.closeK hk18 (x, d2) ⟨by dsimp only; omega, by dsimp only; omega, hs2, k, hk, he1⟩ ⟨rfl, rfl, rfl, rfl, rfl, rfl, trivial⟩ (fun w h => h) | exact J.closeK hk18 (x, Sort.swp d1 x (x - 1)) ⟨by dsimp only; omega, by dsimp only; omega, by dsimp only; rw [swp_size]; exact hs1, k, hk, he1⟩ ⟨rfl, rfl, rfl, rfl, rfl, rfl, trivial⟩ (fun w h => h)
            case' hf =>
             intro h
             try (first | (exfalso; omega) | (cases h; done) | (exfalso; simp at h; done) | subst h)
             all_goals
              rw [shiftDown_go (by omega) (by simpa using h)] at he2
              refine J.skip ?_
            all_goals refine JE.then_normal ?_
            all_goals
             refine J.draw _ _ [(0, .q), (1, .q), (2, .q), (3, .q), (4, .q), (5, .q), (6, .q), (7, .q), (8, .q), (10, .q), (11, .q), (12, .q), (9, .e), (13, .e), (14, .q), (15, .l), (16, .q), (17, .l)] mixed (by kernel_rfl) (Split.cons (Pick.head) (Split.nil)) ?_
             refine JM.quiet rfl rfl rfl rfl (fun m => y_move rfl) (JM.quiet rfl rfl rfl rfl (fun m => y_move rfl) (JM.quiet rfl rfl rfl rfl (fun m => y_move rfl) (JM.quiet rfl rfl rfl rfl (fun m => y_move rfl) ?_)))
             refine JM.quiet rfl rfl rfl rfl (fun m => y_sub rfl rfl (by (first | exact wrap_i64 (by omega) (by omega) | rfl))) ?_
             refine JM.quiet rfl rfl rfl rfl (fun m => y_move rfl) (JM.quiet rfl rfl rfl rfl (fun m => y_move rfl) ?_)
             refine JM.quiet rfl rfl rfl rfl (fun m => y_sub rfl rfl (by (first | exact wrap_i64 (by omega) (by omega) | rfl))) ?_
             refine JM.quiet rfl rfl rfl rfl (fun m => y_indexAddr_slice hT rfl rfl rfl rfl rfl (by (first | omega | exact Nat.le_of_ble_eq_true rfl | decide | (simp; omega))) (by (first | omega | exact Nat.le_of_ble_eq_true rfl | decide | (simp; omega)))) ?_
             refine JM.quiet rfl rfl rfl rfl (fun m => y_move rfl) (JM.quiet rfl rfl rfl rfl (fun m => y_move rfl) ?_)
             refine JM.quiet rfl rfl rfl rfl (fun m => y_indexAddr_slice hT rfl rfl rfl rfl rfl (by (first | omega | exact Nat.le_of_ble_eq_true rfl | decide | (simp; omega))) (by (first | omega | exact Nat.le_of_ble_eq_true rfl | decide | (simp; omega)))) ?_
             refine JM.early rfl rfl rfl rfl (fun fr => y_loadN hT rfl rfl rfl (RdN.arr (i := (j - 1)) (by (repeat (first | exact Pick.head | apply Pick.tail | apply Pick.app))) hkE (by (first | assumption | omega | (simp only [Array.size_setIfInBounds]; omega))) (by exact arr_off rfl (by omega))) (by (first | rfl | assumption | exact hkE _ | simp))) ?_
             refine JM.early rfl rfl rfl rfl (fun fr => y_loadN hT rfl rfl rfl (RdN.arr (i := (j)) (by (repeat (first | exact Pick.head | apply Pick.tail | apply Pick.app))) hkE (by (first | assumption | omega | (simp only [Array.size_setIfInBounds]; omega))) (by exact arr_off rfl (by omega))) (by (first | rfl | assumption | exact hkE _ | simp))) ?_
             refine JM.quiet rfl rfl rfl rfl (fun m => y_indexAddr_slice hT rfl rfl rfl rfl rfl (by (first | omega | exact Nat.le_of_ble_eq_true rfl | decide | (simp; omega))) (by (first | omega | exact Nat.le_of_ble_eq_true rfl | decide | (simp; omega)))) ?_
             refine JM.loud rfl rfl (fun fr => l_storeArrN (j := (j)) hT rfl rfl rfl hkE rfl hoE (by (repeat (first | exact Pick.head | apply Pick.tail | apply Pick.app))) (by (first | assumption | omega | (simp only [Array.size_setIfInBounds]; omega))) (by exact arr_off rfl (by omega)) (⟨[_], (by (repeat (first | exact Split.nil | exact Split.all | refine Split.cons Pick.head ?_))), ?_⟩))
             refine JM.quiet rfl rfl rfl rfl (fun m => y_indexAddr_slice hT rfl rfl rfl rfl rfl (by (first | omega | exact Nat.le_of_ble_eq_true rfl | decide | (simp; omega))) (by (first | omega | exact Nat.le_of_ble_eq_true rfl | decide | (simp; omega)))) ?_
             refine JM.loud rfl rfl (fun fr => l_storeArrN (j := (j - 1)) hT rfl rfl rfl hkE rfl hoE (by (repeat (first | exact Pick.head | apply Pick.tail | apply Pick.app))) (by (first | assumption | omega | (simp only [Array.size_setIfInBounds]; omega))) (by exact arr_off rfl (by omega)) (⟨[_], (by (repeat (first | exact Split.nil | exact Split.all | refine Split.cons Pick.head ?_))), ?_⟩))
             refine JM.nil ?_
            all_goals refine JE.block_normal (JE.then_normal ?_)
            all_goals
             refine J.region (JL.step (y_move rfl) rfl rfl rfl ?_)
             refine JL.step (y_sub rfl rfl (by (first | exact wrap_i64 (by omega) (by omega) | rfl))) rfl rfl rfl ?_
             refine JL.step (y_assign rfl) rfl rfl rfl ?_
             refine JL.nil ?_
           all_goals
            exact JE.round (s := (j, d2)) (j - 1, Sort.swp d2 j (j - 1)) ⟨by dsimp only; omega, by dsimp only; rw [swp_size]; exact hs2, he2⟩ ⟨rfl, rfl, rfl, rfl, rfl, (congrArg (fun z => some (Value.int .i64 z)) (by first | omega | (dsimp only; omega))), rfl, trivial⟩ (fun w h => h) (by dsimp only; omega)
         case' hf =>
          intro h
          try (first | (exfalso; omega) | (cases h; done) | (exfalso; simp at h; done) | subst h)
          all_goals
           have hfd : Sort.fixDown ltF a x (Sort.swp d1 x (x - 1)) = Sort.swp d1 x (x - 1) := if_neg (by omega)
           rw [hfd] at he1
           refine J.skip ?_
         all_goals refine JE.then_normal ?_
         all_goals
          first | exact J.closeK hk18 (x, d2) ⟨by dsimp only; omega, by dsimp only; omega, hs2, k, hk, he1⟩ ⟨rfl, rfl, rfl, rfl, rfl, rfl, trivial⟩ (fun w h => h) | exact J.closeK hk18 (x, Sort.swp d1 x (x - 1)) ⟨by dsimp only; omega, by dsimp only; omega, by dsimp only; rw [swp_size]; exact hs1, k, hk, he1⟩ ⟨rfl, rfl, rfl, rfl, rfl, rfl, trivial⟩ (fun w h => h)
        rintro ⟨x, d3⟩ ⟨hx1, hx2, hs3, k, hk, he3⟩
        try dsimp only at hx1 hx2 hs3 he3 ⊢
        refine J.seq (J.region (JL.step (y_move rfl) rfl rfl rfl (JL.step (y_move rfl) rfl rfl rfl ?_)))
        refine JL.step (y_sub rfl rfl (by (first | exact wrap_i64 (by omega) (by omega) | rfl))) rfl rfl rfl ?_
        refine JL.step (y_geq rfl rfl) rfl rfl rfl ?_
        refine JL.nil (JE.then_normal ?_)
        first | apply J.cond_dec rfl | apply J.cond rfl
        case' ht =>
         intro h
         try (first | (exfalso; omega) | (cases h; done) | (exfalso; simp at h; done) | subst h)
         all_goals
          have hfu : Sort.fixUp ltF b x d3 = Sort.shiftUp ltF b (x + 1) d3 := if_pos (by omega)
          rw [hfu] at he3
          refine J.seq (J.region (JL.step (y_move rfl) rfl rfl rfl ?_))
          refine JL.step (y_add rfl rfl (by (first | exact wrap_i64 (by omega) (by omega) | rfl))) rfl rfl rfl ?_
          refine JL.step (y_assign rfl) rfl rfl rfl ?_
          refine JL.nil (JE.then_normal (J.block ?_))
          refine J.loop (α := Nat × Array FlowT) (fun q => x + 1 ≤ q.1 ∧ q.1 ≤ b ∧ q.2.size = n ∧ Sort.shiftUp ltF b q.1 q.2 = Sort.shiftUp ltF b (x + 1) d3) (fun q => [(0, .slice (some ⟨g, 0, none⟩) n c), (1, .int .i64 a), (2, .int .i64 b), (9, .int .i64 x), (10, .int .i64 (5 - (s : Int))), (12, .int .i64 q.1), (3, (Value.func (.func 38) #[] [].toArray))]) (fun q => arF g q.2 sp :: r) (fun q => b - q.1) (x + 1, d3) ⟨Nat.le_refl _, by dsimp only; omega, hs3, rfl⟩ ⟨rfl, rfl, rfl, rfl, rfl, (congrArg (fun z => some (Value.int .i64 z)) (by first | omega | (dsimp only; omega))), rfl, trivial⟩ (fun w h => h) ?_
          rintro ⟨j, d4⟩ ⟨hj1, hj2, hs4, he4⟩
          try dsimp only at hj1 hj2 hs4 he4 ⊢
          refine J.seq (J.seq (J.region (JL.step (y_move rfl) rfl rfl rfl (JL.step (y_move rfl) rfl rfl rfl (JL.step (y_lss rfl rfl) rfl rfl rfl ?_)))))
          refine JL.nil (JE.then_normal ?_)
          first | apply J.cond_dec rfl | apply J.cond rfl
          case' ht =>
           intro h
           try (first | (exfalso; omega) | (cases h; done) | (exfalso; simp at h; done) | subst h)
           all_goals
            refine J.skip ?_
          case' hf =>
           intro h
           try (first | (exfalso; omega) | (cases h; done) | (exfalso; simp at h; done) | subst h)
           all_goals
            rw [shiftUp_stop (.inl (by omega))] at he4
            rw [← he4] at he3
            refine J.exit (JE.then_exit (JE.then_exit (JE.block_exit (JE.block_normal (JE.then_normal ?_)))))
            first | exact J.closeK hk4 (x, d4) ⟨by dsimp only; omega, by dsimp only; omega, hs4, k, hk, he3⟩ ⟨rfl, rfl, rfl, rfl, rfl, rfl, trivial⟩ (fun w h => h) | exact J.closeK hk4 (x, d3) ⟨by dsimp only; omega, by dsimp only; omega, hs3, k, hk, he3⟩ ⟨rfl, rfl, rfl, rfl, rfl, rfl, trivial⟩ (fun w h => h)
          all_goals refine JE.then_normal ?_
          all_goals
           refine J.seq (J.block (J.seq (J.seq ?_)))
           refine J.draw _ _ [(0, .q), (1, .q), (2, .q), (3, .q), (4, .q), (5, .q), (6, .q), (7, .q), (8, .q), (9, .q), (10, .q), (11, .q), (12, .q)] mixed (by kernel_rfl) (Split.nil) ?_
           refine JM.quiet rfl rfl rfl rfl (fun m => y_move rfl) (JM.quiet rfl rfl rfl rfl (fun m => y_move rfl) (JM.quiet rfl rfl rfl rfl (fun m => y_move rfl) ?_))
           refine JM.quiet rfl rfl rfl rfl (fun m => y_indexAddr_slice hT rfl rfl rfl rfl rfl (by (first | omega | exact Nat.le_of_ble_eq_true rfl | decide | (simp; omega))) (by (first | omega | exact Nat.le_of_ble_eq_true rfl | decide | (simp; omega)))) ?_
           refine JM.quiet rfl rfl rfl rfl (fun m => y_loadN hT rfl rfl rfl (RdN.arr (i := (j)) (Pick.app m (by (repeat (first | exact Pick.head | apply Pick.tail | apply Pick.app)))) hkE (by (first | assumption | omega | (simp only [Array.size_setIfInBounds]; omega))) (by exact arr_off rfl (by omega))) (by (first | rfl | assumption | exact hkE _ | simp))) ?_
           refine JM.quiet rfl rfl rfl rfl (fun m => y_move rfl) (JM.quiet rfl rfl rfl rfl (fun m => y_move rfl) ?_)
           refine JM.quiet rfl rfl rfl rfl (fun m => y_sub rfl rfl (by (first | exact wrap_i64 (by omega) (by omega) | rfl))) ?_
           refine JM.quiet rfl rfl rfl rfl (fun m => y_indexAddr_slice hT rfl rfl rfl rfl rfl (by (first | omega | exact Nat.le_of_ble_eq_true rfl | decide | (simp; omega))) (by (first | omega | exact Nat.le_of_ble_eq_true rfl | decide | (simp; omega)))) ?_
           refine JM.quiet rfl rfl rfl rfl (fun m => y_loadN hT rfl rfl rfl (RdN.arr (i := (j - 1)) (Pick.app m (by (repeat (first | exact Pick.head | apply Pick.tail | apply Pick.app)))) hkE (by (first | assumption | omega | (simp only [Array.size_setIfInBounds]; omega))) (by exact arr_off rfl (by omega))) (by (first | rfl | assumption | exact hkE _ | simp))) ?_
           refine JM.quiet rfl rfl rfl rfl (fun m => y_callV e38 rfl rfl (flowCmp E _ _ _)) (JM.quiet rfl rfl rfl rfl (fun m => y_ltF E rfl rfl) (JM.quiet rfl rfl rfl rfl (fun m => y_not rfl) ?_))
           refine JM.nil (JE.then_normal ?_)
           first | apply J.cond_dec rfl | apply J.cond rfl
           case' ht =>
            intro h
            try (first | (exfalso; omega) | (cases h; done) | (exfalso; simp at h; done) | subst h)
            all_goals
             rw [shiftUp_stop (.inr (by simpa using h))] at he4
             rw [← he4] at he3
             refine J.exit (JE.then_exit ?_)
             refine JE.block_past rfl ?_
             refine JE.then_exit (JE.then_exit (JE.block_exit (JE.block_normal (JE.then_normal ?_))))
             first | exact J.closeK hk4 (x, d4) ⟨by dsimp only; omega, by dsimp only; omega, hs4, k, hk, he3⟩ ⟨rfl, rfl, rfl, rfl, rfl, rfl, trivial⟩ (fun w h => h) | exact J.closeK hk4 (x, d3) ⟨by dsimp only; omega, by dsimp only; omega, hs3, k, hk, he3⟩ ⟨rfl, rfl, rfl, rfl, rfl, rfl, trivial⟩ (fun w h => h)
           case' hf =>
            intro h
            try (first | (exfalso; omega) | (cases h; done) | (exfalso; simp at h; done) | subst h)
            all_goals
             rw [shiftUp_go (by omega) (by simpa using h)] at he4
             refine J.skip ?_
           all_goals refine JE.then_normal ?_
           all_goals
            refine J.draw _ _ [(0, .q), (1, .q), (2, .q), (3, .q), (4, .q), (5, .q), (6, .q), (7, .q), (8, .q), (10, .q), (11, .q), (12, .q), (9, .e), (13, .e), (14, .q), (15, .l), (16, .q), (17, .l)] mixed (by kernel_rfl) (Split.cons (Pick.head) (Split.nil)) ?_
            refine JM.quiet rfl rfl rfl rfl (fun m => y_move rfl) (JM.quiet rfl rfl rfl rfl (fun m => y_move rfl) (JM.quiet rfl rfl rfl rfl (fun m => y_move rfl) (JM.quiet rfl rfl rfl rfl (fun m => y_move rfl) ?_)))
            refine JM.quiet rfl rfl rfl rfl (fun m => y_sub rfl rfl (by (first | exact wrap_i64 (by omega) (by omega) | rfl))) ?_
            refine JM.quiet rfl rfl rfl rfl (fun m => y_move rfl) (JM.quiet rfl rfl rfl rfl (fun m => y_move rfl) ?_)
            refine JM.quiet rfl rfl rfl rfl (fun m => y_sub rfl rfl (by (first | exact wrap_i64 (by omega) (by omega) | rfl))) ?_
            refine JM.quiet rfl rfl rfl rfl (fun m => y_indexAddr_slice hT rfl rfl rfl rfl rfl (by (first | omega | exact Nat.le_of_ble_eq_true rfl | decide | (simp; omega))) (by (first | omega | exact Nat.le_of_ble_eq_true rfl | decide | (simp; omega)))) ?_
            refine JM.quiet rfl rfl rfl rfl (fun m => y_move rfl) (JM.quiet rfl rfl rfl rfl (fun m => y_move rfl) ?_)
            refine JM.quiet rfl rfl rfl rfl (fun m => y_indexAddr_slice hT rfl rfl rfl rfl rfl (by (first | omega | exact Nat.le_of_ble_eq_true rfl | decide | (simp; omega))) (by (first | omega | exact Nat.le_of_ble_eq_true rfl | decide | (simp; omega)))) ?_
            refine JM.early rfl rfl rfl rfl (fun fr => y_loadN hT rfl rfl rfl (RdN.arr (i := (j - 1)) (by (repeat (first | exact Pick.head | apply Pick.tail | apply Pick.app))) hkE (by (first | assumption | omega | (simp only [Array.size_setIfInBounds]; omega))) (by exact arr_off rfl (by omega))) (by (first | rfl | assumption | exact hkE _ | simp))) ?_
            refine JM.early rfl rfl rfl rfl (fun fr => y_loadN hT rfl rfl rfl (RdN.arr (i := (j)) (by (repeat (first | exact Pick.head | apply Pick.tail | apply Pick.app))) hkE (by (first | assumption | omega | (simp only [Array.size_setIfInBounds]; omega))) (by exact arr_off rfl (by omega))) (by (first | rfl | assumption | exact hkE _ | simp))) ?_
            refine JM.quiet rfl rfl rfl rfl (fun m => y_indexAddr_slice hT rfl rfl rfl rfl rfl (by (first | omega | exact Nat.le_of_ble_eq_true rfl | decide | (simp; omega))) (by (first | omega | exact Nat.le_of_ble_eq_true rfl | decide | (simp; omega)))) ?_
            refine JM.loud rfl rfl (fun fr => l_storeArrN (j := (j)) hT rfl rfl rfl hkE rfl hoE (by (repeat (first | exact Pick.head | apply Pick.tail | apply Pick.app))) (by (first | assumption | omega | (simp only [Array.size_setIfInBounds]; omega))) (by exact arr_off rfl (by omega)) (⟨[_], (by (repeat (first | exact Split.nil | exact Split.all | refine Split.cons Pick.head ?_))), ?_⟩))
            refine JM.quiet rfl rfl rfl rfl (fun m => y_indexAddr_slice hT rfl rfl rfl rfl rfl (by (first | omega | exact Nat.le_of_ble_eq_true rfl | decide | (simp; omega))) (by (first | omega | exact Nat.le_of_ble_eq_true rfl | decide | (simp; omega)))) ?_
            refine JM.loud rfl rfl (fun fr => l_storeArrN (j := (j - 1)) hT rfl rfl rfl hkE rfl hoE (by (repeat (first | exact Pick.head | apply Pick.tail | apply Pick.app))) (by (first | assumption | omega | (simp only [Array.size_setIfInBounds]; omega))) (by exact arr_off rfl (by omega)) (⟨[_], (by (repeat (first | exact Split.nil | exact Split.all | refine Split.cons Pick.head ?_))), ?_⟩))
            refine JM.nil ?_
           all_goals refine JE.block_normal (JE.then_normal ?_)
           all_goals
            refine J.region (JL.step (y_move rfl) rfl rfl rfl ?_)
            refine JL.step (y_add rfl rfl (by (first | exact wrap_i64 (by omega) (by omega) | rfl))) rfl rfl rfl ?_
            refine JL.step (y_assign rfl) rfl rfl rfl ?_
            refine JL.nil ?_
          all_goals
           exact JE.round (s := (j, d4)) (j + 1, Sort.swp d4 j (j - 1)) ⟨by dsimp only; omega, by dsimp only; omega, by dsimp only; rw [swp_size]; exact hs4, he4⟩ ⟨rfl, rfl, rfl, rfl, rfl, (congrArg (fun z => some (Value.int .i64 z)) (by first | omega | (dsimp only; omega))), rfl, trivial⟩ (fun w h => h) (by dsimp only; omega)
        case' hf =>
         intro h
         try (first | (exfalso; omega) | (cases h; done) | (exfalso; simp at h; done) | subst h)
         all_goals
          have hfu : Sort.fixUp ltF b x d3 = d3 := if_neg (by omega)
          rw [hfu] at he3
          refine J.skip ?_
      all_goals
       refine JE.block_normal (JE.then_normal ?_)
       first | exact J.closeK hk4 (x, d4) ⟨by dsimp only; omega, by dsimp only; omega, hs4, k, hk, he3⟩ ⟨rfl, rfl, rfl, rfl, rfl, rfl, trivial⟩ (fun w h => h) | exact J.closeK hk4 (x, d3) ⟨by dsimp only; omega, by dsimp only; omega, hs3, k, hk, he3⟩ ⟨rfl, rfl, rfl, rfl, rfl, rfl, trivial⟩ (fun w h => h)
   all_goals refine JE.then_normal ?_
   all_goals
    refine J.block (J.region (JL.step (y_move rfl) rfl rfl rfl ?_))
    refine JL.step (y_add rfl rfl (by (first | exact wrap_i64 (by omega) (by omega) | rfl))) rfl rfl rfl ?_
    refine JL.step (y_assign rfl) rfl rfl rfl ?_
    refine JL.nil (JE.block_normal ?_)
   all_goals
    exact JE.round (s := x) (x + 1) ⟨by omega, by omega, hx3⟩ ⟨rfl, rfl, rfl, (congrArg (fun z => some (Value.int .i64 z)) (by first | omega | (dsimp only; omega))), rfl, rfl, trivial⟩ (fun w h => h) (by omega)
  rintro ⟨x, d5⟩ ⟨hx1, hx2, hs5', k, hk, he5⟩
  try dsimp only at hx1 hx2 hs5' he5 ⊢
  refine J.region (JL.step (y_move rfl) rfl rfl rfl ?_)
  refine JL.step (y_add rfl rfl (by (first | exact wrap_i64 (by omega) (by omega) | rfl))) rfl rfl rfl ?_
  refine JL.step (y_assign rfl) rfl rfl rfl ?_
  refine JL.nil ?_
 all_goals
  exact JE.round (s := (s, i, d1)) (k, x, d5) ⟨by dsimp only; omega, hx1, hx2, hs5', he5⟩ ⟨rfl, rfl, rfl, rfl, (congrArg (fun z => some (Value.int .i64 z)) (by first | omega | (dsimp only; omega))), rfl, trivial⟩ (fun w h => h) (by dsimp only; omega)
end
end
end Go.Proofs.YtfohdnclpbipeaaDoor
