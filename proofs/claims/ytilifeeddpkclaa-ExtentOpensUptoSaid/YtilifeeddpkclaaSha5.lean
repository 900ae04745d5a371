import Derived.Test.YtilifeeddpkclaaSha4
namespace Go.Proofs.Ytilifeeddpkclaa
open Go Go.SL
section
variable {E : World} {ρ : Option Nat} {n : Nat} {ds : List Deferred} {env : Fr} {c : Code} {Q : Exit → Act → World → Prop} {b : Nat} {kp : Option Addr} {kc : Nat} {ms : List Int} {l : List HProp}
theorem J.hsh (h : ∀ st rest, HI ms st rest → J prog E ρ n ds c Q env (row b 167 (hcells st.list kp kc rest ms.length) :: l)) : J prog E ρ n ds c Q env (Go.Proofs.Ytilifeeddpkclaa.hsh b kp kc ms :: l) := fun a w hf hs =>
  let ⟨st, rest, hH, s⟩ := hsh_open hs
  h st rest hH a w hf s
end
/-- The filling on its way. -/
def padByte (n m : Nat) : Int := (((BitVec.ofInt 64 (n : Int) <<< 3) >>> (8 * m)).toNat % 256 : Nat)
def padI (n i : Nat) : List Int := (List.range (padZ n + 9)).map fun j => if j = 0 then 128 else if padZ n + 9 - i ≤ j then padByte n (padZ n + 8 - j) else 0
theorem padI_length (n i : Nat) : (padI n i).length = padZ n + 9 := by simp [padI]
theorem padI_next (n : Nat) {i : Nat} (h : i < 8) : (padI n i).set (padZ n + 8 - i) (padByte n i) = padI n (i + 1) := by
  apply List.ext_getElem?
  intro j
  rw [List.getElem?_set, padI_length]
  by_cases hj : j < padZ n + 9
  · by_cases he : padZ n + 8 - i = j
    · rw [if_pos he, if_pos (by omega)]
      simp only [padI, List.getElem?_map, List.getElem?_range hj, Option.map_some]
      rw [if_neg (by omega), if_pos (by omega), show padZ n + 8 - j = i by omega]
    · rw [if_neg he]
      simp only [padI, List.getElem?_map, List.getElem?_range hj, Option.map_some]
      by_cases h0 : j = 0
      · simp [h0]
      · rw [if_neg h0, if_neg h0]
        by_cases h1 : padZ n + 9 - i ≤ j
        · rw [if_pos h1, if_pos (by omega)]
        · rw [if_neg h1, if_neg (by omega)]
  · rw [if_neg (by omega), List.getElem?_eq_none (by rw [padI_length]; omega), List.getElem?_eq_none (by rw [padI_length]; omega)]
theorem padI_zero (n : Nat) : padI n 0 = (List.replicate (padZ n + 9) 0).set 0 128 := by
  apply List.ext_getElem?
  intro j
  rw [List.getElem?_set, List.length_replicate, List.getElem?_replicate]
  by_cases hj : j < padZ n + 9
  · simp only [padI, List.getElem?_map, List.getElem?_range hj, Option.map_some]
    by_cases h0 : 0 = j
    · subst h0; simp
    · rw [if_neg h0, if_pos hj, if_neg (fun e => h0 e.symm), if_neg (by omega)]
  · rw [List.getElem?_eq_none (by rw [padI_length]; omega), if_neg (show ¬ 0 = j by omega), if_neg hj]
theorem padI_all (n : Nat) : padI n 8 = shaPad n := by
  apply List.ext_getElem?
  intro j
  by_cases hj : j < padZ n + 9
  · simp only [padI, List.getElem?_map, List.getElem?_range hj, Option.map_some, shaPad]
    rcases Nat.eq_zero_or_pos j with h0 | h0
    · simp [h0]
    · obtain ⟨m, rfl⟩ : ∃ m, j = m + 1 := ⟨j - 1, by omega⟩
      rw [if_neg (by omega), List.getElem?_cons_succ, List.getElem?_append, List.length_replicate]
      by_cases h1 : m < padZ n
      · rw [if_pos h1, if_neg (by omega), List.getElem?_replicate, if_pos h1]
      · rw [if_neg h1, if_pos (by omega)]
        simp only [be64, List.getElem?_map]
        rw [List.getElem?_range (by omega)]
        simp only [Option.map_some, padByte]
        rw [show padZ n + 8 - (m + 1) = 7 - (m - padZ n) by omega]
  · rw [List.getElem?_eq_none (by rw [padI_length]; omega), List.getElem?_eq_none (by rw [shaPad_length]; omega)]
attribute [local irreducible] J JL JE JM LS Y Fc RV Code.wp wpList Code.wpIn wpListIn
variable (E : World)
theorem shaPad_spec (n : Nat) (hn : n ≤ 2305843009213693952) (l : List HProp) : Fc prog E 109 [.int .i64 (n : Int)].toArray l (fun v l' => ∃ b, v = .slice (some ⟨b, 0, none⟩) (padZ n + 9) (padZ n + 9) ∧ l' = row b 5 (ints .u8 (shaPad n)) :: l) := by
  refine Fc.post ?_
  have hz : padZ n ≤ 63 := by unfold padZ; omega
  have hmod : ((n + 8 : Nat) : Int).tmod 64 = (((n + 8) % 64 : Nat) : Int) := by rw [Int.tmod_eq_emod_of_nonneg (by omega)]; omega
  have hpz : 72 - (n + 8) % 64 = padZ n + 9 := by unfold padZ; omega
  refine Fc.of_body (c := ?c) Try.func109 ?hb Try.ntmps109 ?hl ?_
  case hb => exact rfl
  case hl => exact rfl
  refine J.seq ?_
  refine J.region ?_
  refine JL.step (y_assign rfl) rfl rfl rfl ?_
  refine JL.nil ?_
  refine JE.then_normal ?_
  refine J.seq ?_
  refine J.seq ?_
  refine J.region ?_
  refine JL.step (y_move rfl) rfl rfl rfl (JL.step (y_lss rfl rfl) rfl rfl rfl ?_)
  refine JL.nil ?_
  refine JE.then_normal ?_
  refine J.cond_f rfl (by (first | rfl | assumption | (simp; done) | (simp; omega))) ?_
  refine J.skip ?_
  refine JE.then_normal ?_
  refine J.seq ?_
  refine J.region ?_
  refine JL.step (y_move rfl) rfl rfl rfl ?_
  refine JL.step (y_add (m := ((n + 8 : Nat) : Int)) rfl rfl (by rw [show ((n : Nat) : Int) + 8 = ((n + 8 : Nat) : Int) by omega]; exact wrap_i64 (by omega) (by omega))) rfl rfl rfl ?_
  refine JL.step (y_rem rfl rfl (by decide) hmod) rfl rfl rfl ?_
  refine JL.step (y_sub (m := ((64 - (n + 8) % 64 : Nat) : Int)) rfl rfl (by rw [show (64 : Int) - (((n + 8) % 64 : Nat) : Int) = ((64 - (n + 8) % 64 : Nat) : Int) by omega]; exact wrap_i64 (by omega) (by omega))) rfl rfl rfl ?_
  refine JL.step (y_add (m := ((padZ n + 9 : Nat) : Int)) rfl rfl (by rw [show ((64 - (n + 8) % 64 : Nat) : Int) + 8 = ((padZ n + 9 : Nat) : Int) by omega]; exact wrap_i64 (by omega) (by omega))) rfl rfl rfl ?_
  refine JL.loud rfl (l_makeSlice hT rfl rfl rfl rfl rfl rfl (by omega) (by omega) (mk_fits rfl (by omega) (by omega)) (by omega) rfl (fun b => ?_))
  have hmk : (madeCells (Value.int .u8 0).cells (((padZ n + 9 : Nat) : Int).toNat * i5.size)).toList = ints .u8 (List.replicate (padZ n + 9) 0) := by
    rw [show (Value.int .u8 0).cells = (List.replicate 1 (Value.int .u8 0)).toArray from rfl, madeCells_rep _ (by omega)]
    simp [i5, ints]
    omega
  refine JL.pre (l' := row b 5 (ints .u8 (List.replicate (padZ n + 9) 0)) :: l) (fun w s => by rw [← hmk]; exact s) ?_
  refine JL.step (y_assign rfl) rfl rfl rfl ?_
  refine JL.nil ?_
  refine JE.then_normal ?_
  refine J.seq ?_
  refine J.region ?_
  refine JL.step (y_move rfl) rfl rfl rfl ?_
  refine JL.step (y_indexAddr_slice hT rfl rfl rfl rfl rfl (by (first | omega | exact Nat.le_of_ble_eq_true rfl | decide | (simp; omega))) (by (first | omega | exact Nat.le_of_ble_eq_true rfl | decide | (simp; omega)))) rfl rfl rfl ?_
  refine JL.loud rfl (l_store1 hT rfl rfl rfl rfl rfl (by (repeat (first | exact Pick.head | apply Pick.tail | apply Pick.app))) (by show 0 + 0 * 1 < _; simp [ints]) ?_)
  refine JL.pre (l' := row b 5 (ints .u8 (padI n 0)) :: l) (fun w s => by
    have e : ints .u8 (padI n 0) = (ints .u8 (List.replicate (padZ n + 9) 0)).set 0 (.int .u8 128) := by rw [padI_zero, ints, ints, List.map_set]
    rw [e]
    exact s) ?_
  refine JL.nil ?_
  refine JE.then_normal ?_
  refine J.seq ?_
  refine J.region ?_
  refine JL.step (y_move rfl) rfl rfl rfl ?_
  refine JL.step ((by first | exact y_convToQ hT rfl rfl rfl rfl | exact y_conv hT rfl rfl rfl rfl (by (first | exact wrap_i64 (by omega) (by omega) | rfl)))) rfl rfl rfl ?_
  refine JL.step ((by first | exact y_shlQ rfl rfl (by (first | omega | exact Nat.le_of_ble_eq_true rfl | decide | (simp; omega))) (by (first | omega | exact Nat.le_of_ble_eq_true rfl | decide | (simp; omega))) | exact y_shl rfl rfl (by (first | omega | exact Nat.le_of_ble_eq_true rfl | decide | (simp; omega))) (by rfl))) rfl rfl rfl ?_
  refine JL.step (y_assign rfl) rfl rfl rfl ?_
  refine JL.nil ?_
  refine JE.then_normal ?_
  refine J.seq ?_
  refine J.seq ?_
  refine J.region ?_
  refine JL.step (y_move rfl) rfl rfl rfl ?_
  refine JL.nil ?_
  refine JE.then_normal ?_
  refine J.block ?_
  refine J.loop (α := Nat) (fun i => i ≤ 8) (fun i => [(3, .slice (some ⟨b, 0, none⟩) (padZ n + 9) (padZ n + 9)), (4, Q (BitVec.ofInt 64 (n : Int) <<< 3)), (19, .int .i64 i)]) (fun i => row b 5 (ints .u8 (padI n i)) :: l) (fun i => 8 - i) 0 (by omega) ⟨rfl, rfl, rfl, trivial⟩ (fun w h => h) ?_
  intro i hi
  refine J.seq ?_
  refine J.region ?_
  refine JL.step (y_lss rfl rfl) rfl rfl rfl ?_
  refine JL.nil ?_
  refine JE.then_normal ?_
  refine J.seq ?_
  first | apply J.cond_dec rfl | apply J.cond rfl
  case' ht =>
    intro h
    try (first | (exfalso; omega) | (cases h; done) | (exfalso; simp at h; done) | subst h)
    all_goals
      refine J.skip ?_
  case' hf =>
    intro h
    try (first | (exfalso; omega) | (cases h; done) | (exfalso; simp at h; done) | subst h)
    all_goals
      refine J.exit ?_
      refine JE.then_exit ?_
      refine JE.then_exit ?_
      refine JE.block_exit ?_
      refine JE.then_normal ?_
      refine J.seq ?_
      refine J.region ?_
      refine JL.step (y_move rfl) rfl rfl rfl (JL.step (y_assign rfl) rfl rfl rfl ?_)
      refine JL.nil ?_
      refine JE.then_normal ?_
      refine J.ret ?_
      refine JE.ret1 (.inl rfl) rfl rfl (by (first | exact RV.tmp rfl | exact RV.cell1 hT rfl rfl rfl (by (exact Rd1.row (by (repeat (first | exact Pick.head | apply Pick.tail | apply Pick.app))) (by rfl))) | exact RV.cellN hT rfl rfl rfl (by (first | exact RdN.rowAll (by (repeat (first | exact Pick.head | apply Pick.tail | apply Pick.app))) | exact RdN.own (by (repeat (first | exact Pick.head | apply Pick.tail | apply Pick.app))))) (by (first | rfl | assumption | (simp; done) | omega)))) ?_
      obtain rfl : i = 8 := by omega
      rw [padI_all]
      exact ⟨_, fun w q => q, b, rfl, rfl⟩
  all_goals refine JE.then_normal ?_
  all_goals
    refine J.seq ?_
    refine J.block ?_
    refine J.seq ?_
    refine J.region ?_
    refine JL.step (y_move rfl) rfl rfl rfl (JL.step (y_assign rfl) rfl rfl rfl ?_)
    refine JL.nil ?_
    refine JE.then_normal ?_
    refine J.region ?_
    refine JL.step (y_move rfl) rfl rfl rfl (JL.step (y_move rfl) rfl rfl rfl (JL.step (y_len_slice hT rfl rfl rfl) rfl rfl rfl ?_))
    refine JL.step (y_sub rfl rfl (by (first | exact wrap_i64 (by omega) (by omega) | rfl))) rfl rfl rfl ?_
    refine JL.step (y_move rfl) rfl rfl rfl ?_
    refine JL.step (y_sub (m := ((padZ n + 8 - i : Nat) : Int)) rfl rfl (by rw [show ((padZ n + 9 : Nat) : Int) - 1 - ((i : Nat) : Int) = ((padZ n + 8 - i : Nat) : Int) by omega]; exact wrap_i64 (by omega) (by omega))) rfl rfl rfl ?_
    refine JL.step (y_move rfl) rfl rfl rfl (JL.step (y_move rfl) rfl rfl rfl ?_)
    refine JL.step (y_mul rfl rfl (by (first | exact wrap_i64 (by omega) (by omega) | rfl))) rfl rfl rfl ?_
    refine JL.step ((by first | exact y_shrQ rfl rfl (by (first | omega | exact Nat.le_of_ble_eq_true rfl | decide | (simp; omega))) (by (first | omega | exact Nat.le_of_ble_eq_true rfl | decide | (simp; omega))) | exact y_shr rfl rfl (by (first | omega | exact Nat.le_of_ble_eq_true rfl | decide | (simp; omega))) (by rfl))) rfl rfl rfl ?_
    refine JL.step ((by first | exact y_convOfQ hT rfl rfl rfl rfl | exact y_conv hT rfl rfl rfl rfl (by (first | exact wrap_i64 (by omega) (by omega) | rfl)))) rfl rfl rfl ?_
    refine JL.step (y_indexAddr_slice hT rfl rfl rfl rfl rfl (by (first | omega | exact Nat.le_of_ble_eq_true rfl | decide | (simp; omega))) (by (first | omega | exact Nat.le_of_ble_eq_true rfl | decide | (simp; omega)))) rfl rfl rfl ?_
    refine JL.loud rfl (l_store1 hT rfl rfl rfl rfl rfl (by (repeat (first | exact Pick.head | apply Pick.tail | apply Pick.app))) (by rw [show i5.size = 1 from rfl]; simp [ints, padI_length]; omega) ?_)
    refine JL.nil ?_
    refine JE.block_normal ?_
    refine JE.then_normal ?_
    refine J.region ?_
    refine JL.step (y_add rfl rfl (by (first | exact wrap_i64 (by omega) (by omega) | rfl))) rfl rfl rfl ?_
    refine JL.step (y_move rfl) rfl rfl rfl ?_
    refine JL.nil ?_
  all_goals
    refine JE.round (s := i) (i + 1) (by omega) ⟨rfl, rfl, rfl, trivial⟩ (fun w q => ?_) (by omega)
    have e : (ints .u8 (padI n i)).set (padZ n + 8 - i) (.int .u8 (padByte n i)) = ints .u8 (padI n (i + 1)) := by rw [← padI_next n (by omega), ints, ints, List.map_set]
    rw [← e]
    have e2 : 0 + ((padZ n + 8 - i : Nat) : Int).toNat * i5.size = padZ n + 8 - i := by rw [show i5.size = 1 from rfl]; omega
    rw [e2, show ((8 : Int) * (i : Int)).toNat = 8 * i by omega] at q
    exact q
theorem hcopy_spec (b : Nat) (kp : Option Addr) (kc : Nat) (ms : List Int) (l : List HProp) :
    Fc prog E 108 [.pointer (some ⟨b, 0, none⟩)].toArray (hsh b kp kc ms :: l) (fun v l' => ∃ g, v = .pointer (some ⟨g, 0, none⟩) ∧ l' = hsh g kp kc ms :: hsh b kp kc ms :: l) := by
  refine Fc.post ?_
  refine Fc.of_body (c := ?c) Try.func108 ?hb Try.ntmps108 ?hl ?_
  case hb => exact rfl
  case hl => exact rfl
  refine J.hsh fun st rest hH => ?_
  have hlen : (hcells st.list kp kc rest ms.length).length = 74 := hcells_len rfl hH.len
  have hone : ∀ u ∈ hcells st.list kp kc rest ms.length, u.oneCell' = true := by
    intro u hu
    simp only [hcells, List.mem_append, List.mem_cons, List.not_mem_nil, or_false] at hu
    rcases hu with h | rfl | h | rfl
    · exact Ws_one _ u h
    · rfl
    · exact ints_one _ _ u h
    · rfl
  refine J.seq ?_
  refine J.region ?_
  refine JL.step (y_assign rfl) rfl rfl rfl ?_
  refine JL.nil ?_
  refine JE.then_normal ?_
  refine J.seq ?_
  refine J.seq ?_
  refine J.region ?_
  refine JL.step (y_move rfl) rfl rfl rfl (JL.step (y_ptr_eq_nil hT rfl rfl rfl rfl) rfl rfl rfl ?_)
  refine JL.nil ?_
  refine JE.then_normal ?_
  refine J.cond_f rfl (by (first | rfl | assumption | (simp; done) | (simp; omega))) ?_
  refine J.skip ?_
  refine JE.then_normal ?_
  refine J.seq ?_
  refine J.region ?_
  refine JL.step (y_move rfl) rfl rfl rfl ?_
  refine JL.step ((by first | exact y_nilCheck rfl | exact y_nilCheckF rfl | exact y_nilCheckY rfl)) rfl rfl rfl ?_
  refine JL.step (y_loadN hT rfl rfl rfl (by (first | exact RdN.rowAll (by (repeat (first | exact Pick.head | apply Pick.tail | apply Pick.app))) | exact RdN.own (by (repeat (first | exact Pick.head | apply Pick.tail | apply Pick.app))))) (by (first | rfl | assumption | (simp; done) | omega))) rfl rfl rfl ?_
  refine JL.loud rfl (l_alloc hT rfl rfl rfl rfl (fun g => ?_))
  refine JL.loud rfl (l_storeAll hT rfl rfl rfl (by (first | rfl | assumption | (simp; done) | omega)) (by (first | assumption | exact ones_of rfl | exact encW_one _ | exact encB_one _ | (intro u hu; simp at hu; rcases hu with rfl | rfl <;> rfl) | (intro u hu; simp at hu; subst hu; rfl) | simp)) (by (repeat (first | exact Pick.head | apply Pick.tail | apply Pick.app))) (by (first | rfl | assumption | (simp; done) | omega)) ?_)
  refine JL.nil ?_
  refine JE.then_normal ?_
  refine J.seq ?_
  refine J.region ?_
  refine JL.step (y_assign rfl) rfl rfl rfl ?_
  refine JL.nil ?_
  refine JE.then_normal ?_
  refine J.ret ?_
  refine JE.ret1 (.inl rfl) rfl rfl (by (first | exact RV.tmp rfl | exact RV.cell1 hT rfl rfl rfl (by (exact Rd1.row (by (repeat (first | exact Pick.head | apply Pick.tail | apply Pick.app))) (by rfl))) | exact RV.cellN hT rfl rfl rfl (by (first | exact RdN.rowAll (by (repeat (first | exact Pick.head | apply Pick.tail | apply Pick.app))) | exact RdN.own (by (repeat (first | exact Pick.head | apply Pick.tail | apply Pick.app))))) (by (first | rfl | assumption | (simp; done) | omega)))) ?_
  refine ⟨_, fun w q => ?_, g, rfl, rfl⟩
  exact (hsh_shut hH ((hsh_shut hH q).sup (p := row b 167 (hcells st.list kp kc rest ms.length) :: hsh g kp kc ms :: l) (by (repeat (first | exact Sup.refl | apply Sup.cons (by (repeat (first | exact Pick.head | apply Pick.tail | apply Pick.app))) | apply Sup.app | apply Sup.skip | apply Sup.skips))))).sup (by (repeat (first | exact Sup.refl | apply Sup.cons (by (repeat (first | exact Pick.head | apply Pick.tail | apply Pick.app))) | apply Sup.app | apply Sup.skip | apply Sup.skips)))
set_option maxRecDepth 20000 in
theorem hsum_spec (b : Nat) (kp : Option Addr) (kc : Nat) (ms : List Int) (l : List HProp) (hK : InL l kp 64 kc (K64.map W)) (hms : ms.length ≤ 576460752303423488) :
    Fc prog E 97 [.pointer (some ⟨b, 0, none⟩)].toArray (hsh b kp kc ms :: l) (fun v l' => v = .agg (ints .u8 (sha ms)).toArray ∧ l' = hsh b kp kc ms :: l) := by
  refine Fc.eqs ?_
  have hpl : (shaPad ms.length).length = padZ ms.length + 9 := shaPad_length _
  have hpz : padZ ms.length ≤ 63 := by unfold padZ; omega
  have hw : ∀ g pb l', InL l' kp 64 kc (K64.map W) → InL l' (some ⟨pb, 0, none⟩) (padZ ms.length + 9) (padZ ms.length + 9) (ints .u8 (shaPad ms.length)) → Fc prog E 96 [.pointer (some ⟨g, 0, none⟩), .slice (some ⟨pb, 0, none⟩) (padZ ms.length + 9) (padZ ms.length + 9)].toArray (hsh g kp kc ms :: l') (fun v l'' => v = .tuple #[] ∧ l'' = hsh g kp kc (ms ++ shaPad ms.length) :: l') := fun g pb l' h1 h2 => by
    have h := shaWrite_spec E g kp kc ms (some ⟨pb, 0, none⟩) (padZ ms.length + 9) (shaPad ms.length) l' (by rwa [hpl]) h1 (by rw [hpl]; omega)
    rwa [hpl] at h
  refine Fc.of_body (c := ?c) Try.func97 ?hb Try.ntmps97 ?hl ?_
  case hb => exact rfl
  case hl => exact rfl
  refine J.seq ?_
  refine J.region ?_
  refine JL.loud rfl (l_alloc hT rfl rfl (by (first | rfl | simp)) rfl (fun br => ?_))
  refine JL.nil ?_
  refine JE.then_normal ?_
  refine J.seq ?_
  refine J.region ?_
  refine JL.loud rfl (l_alloc hT rfl rfl (by (first | rfl | simp)) rfl (fun bo => ?_))
  refine JL.nil ?_
  refine JE.then_normal ?_
  refine J.seq ?_
  refine J.seq ?_
  refine J.region ?_
  refine JL.step (y_move rfl) rfl rfl rfl (JL.step (y_ptr_eq_nil hT rfl rfl rfl rfl) rfl rfl rfl ?_)
  refine JL.nil ?_
  refine JE.then_normal ?_
  refine J.cond_f rfl (by (first | rfl | assumption | (simp; done) | (simp; omega))) ?_
  refine J.skip ?_
  refine JE.then_normal ?_
  refine J.seq ?_
  refine J.region ?_
  refine JL.step (y_move rfl) rfl rfl rfl ?_
  refine JL.loud rfl (l_callF e108 rfl rfl (Fc.on (Split.cons (by (repeat (first | exact Pick.head | apply Pick.tail | apply Pick.app))) Split.nil) (hcopy_spec E b kp kc ms _)) ?_)
  rintro _ _ ⟨g, rfl, rfl⟩
  refine JL.step (y_assign rfl) rfl rfl rfl ?_
  refine JL.nil ?_
  refine JE.then_normal ?_
  refine J.seq ?_
  refine J.picks (A := hsh b kp kc ms) (by (repeat (first | exact Pick.head | apply Pick.tail | apply Pick.app))) (J.hsh fun st rest hH => ?_)
  refine J.region ?_
  refine JL.step (y_move rfl) rfl rfl rfl (JL.step (y_move rfl) rfl rfl rfl ?_)
  refine JL.step ((by first | exact y_nilCheck rfl | exact y_nilCheckF rfl | exact y_nilCheckY rfl)) rfl rfl rfl ?_
  refine JL.step (y_fieldAddr hT rfl rfl rfl rfl rfl rfl) rfl rfl rfl ?_
  refine JL.step (y_load1 hT rfl rfl rfl (Rd1.row (by (repeat (first | exact Pick.head | apply Pick.tail | apply Pick.app))) (hcells_n rfl hH.len))) rfl rfl rfl ?_
  refine JL.loud rfl (l_callF e109 rfl rfl (shaPad_spec E ms.length (by omega) _) ?_)
  rintro _ _ ⟨pb, rfl, rfl⟩
  refine JL.loud rfl (l_callF e96 rfl rfl (Fc.on (Split.cons (by (repeat (first | exact Pick.head | apply Pick.tail | apply Pick.app))) Split.nil) (hw g pb _ (by (repeat (first | assumption | apply InL.cons | apply InL.app))) (InL.ofRow Pick.head (by unfold maxLen; omega)))) ?_)
  rintro _ _ ⟨rfl, rfl⟩
  refine JL.nil ?_
  refine JE.then_normal ?_
  refine J.seq ?_
  refine J.seq ?_
  refine J.picks (A := hsh g kp kc (ms ++ shaPad ms.length)) (by (repeat (first | exact Pick.head | apply Pick.tail | apply Pick.app))) (J.hsh fun st2 rest2 hH2 => ?_)
  have hsha : sha ms = shaOut st2 := by rw [hH2.st]; rfl
  rw [hsha]
  clear hsha hH2
  obtain ⟨sa, sb, sc, sd, se, sf, sg, sh⟩ := st2
  refine J.region ?_
  refine JL.step (y_move rfl) rfl rfl rfl ?_
  refine JL.step ((by first | exact y_nilCheck rfl | exact y_nilCheckF rfl | exact y_nilCheckY rfl)) rfl rfl rfl ?_
  refine JL.step (y_fieldAddr hT rfl rfl rfl rfl rfl rfl) rfl rfl rfl ?_
  refine JL.step (y_loadN hT rfl rfl rfl (RdN.row (n := 8) (vs := [W sa, W sb, W sc, W sd, W se, W sf, W sg, W sh]) (by (repeat (first | exact Pick.head | apply Pick.tail | apply Pick.app))) rfl) rfl) rfl rfl rfl ?_
  refine JL.step (y_move rfl) rfl rfl rfl ?_
  refine JL.nil ?_
  refine JE.then_normal ?_
  refine J.block ?_
  refine J.loop (α := Nat) (fun i => i ≤ 8) (fun i => [(2, .pointer (some ⟨br, 0, none⟩)), (3, .pointer (some ⟨bo, 0, none⟩)), (22, .agg [W sa, W sb, W sc, W sd, W se, W sf, W sg, W sh].toArray), (23, .int .i64 i)]) (fun i => row bo 140 (ints .u8 ((shaOut ⟨sa, sb, sc, sd, se, sf, sg, sh⟩).take (4 * i) ++ List.replicate (32 - 4 * i) 0)) :: row br 140 (List.replicate 32 (.int .u8 0)) :: row b 167 (hcells st.list kp kc rest ms.length) :: l) (fun i => 8 - i) 0 (by omega) ⟨rfl, rfl, rfl, rfl, trivial⟩ (fun w h => h.sup (by (repeat (first | exact Sup.refl | apply Sup.cons (by (repeat (first | exact Pick.head | apply Pick.tail | apply Pick.app))) | apply Sup.app | apply Sup.skip | apply Sup.skips)))) ?_
  intro i hi
  refine J.seq ?_
  refine J.region ?_
  refine JL.step (y_lss rfl rfl) rfl rfl rfl ?_
  refine JL.nil ?_
  refine JE.then_normal ?_
  refine J.seq ?_
  first | apply J.cond_dec rfl | apply J.cond rfl
  case' ht =>
    intro h
    try (first | (exfalso; omega) | (cases h; done) | (exfalso; simp at h; done) | subst h)
    all_goals
      refine J.skip ?_
  case' hf =>
    intro h
    try (first | (exfalso; omega) | (cases h; done) | (exfalso; simp at h; done) | subst h)
    all_goals
      refine J.exit ?_
      refine JE.then_exit ?_
      refine JE.then_exit ?_
      refine JE.block_exit ?_
      refine JE.then_normal ?_
      refine J.seq ?_
      obtain rfl : i = 8 := by omega
      rw [show (shaOut ⟨sa, sb, sc, sd, se, sf, sg, sh⟩).take (4 * 8) ++ List.replicate (32 - 4 * 8) 0 = shaOut ⟨sa, sb, sc, sd, se, sf, sg, sh⟩ from rfl]
      refine J.region ?_
      refine JL.step (y_loadN hT rfl rfl rfl (by (first | exact RdN.rowAll (by (repeat (first | exact Pick.head | apply Pick.tail | apply Pick.app))) | exact RdN.own (by (repeat (first | exact Pick.head | apply Pick.tail | apply Pick.app))))) (by (first | rfl | assumption | (simp; done) | omega))) rfl rfl rfl ?_
      refine JL.loud rfl (l_storeAll hT rfl rfl rfl (by (first | rfl | assumption | (simp; done) | omega)) (by (first | assumption | exact ones_of rfl | exact encW_one _ | exact encB_one _ | (intro u hu; simp at hu; rcases hu with rfl | rfl <;> rfl) | (intro u hu; simp at hu; subst hu; rfl) | simp)) (by (repeat (first | exact Pick.head | apply Pick.tail | apply Pick.app))) (by (first | rfl | assumption | (simp; done) | omega)) ?_)
      refine JL.nil ?_
      refine JE.then_normal ?_
      refine J.ret ?_
      refine JE.ret1 (.inl rfl) rfl rfl (by (first | exact RV.tmp rfl | exact RV.cell1 hT rfl rfl rfl (by (exact Rd1.row (by (repeat (first | exact Pick.head | apply Pick.tail | apply Pick.app))) (by rfl))) | exact RV.cellN hT rfl rfl rfl (by (first | exact RdN.rowAll (by (repeat (first | exact Pick.head | apply Pick.tail | apply Pick.app))) | exact RdN.own (by (repeat (first | exact Pick.head | apply Pick.tail | apply Pick.app))))) (by (first | rfl | assumption | (simp; done) | omega)))) ?_
      refine ⟨rfl, fun w q => hsh_shut hH (q.sup (by (repeat (first | exact Sup.refl | apply Sup.cons (by (repeat (first | exact Pick.head | apply Pick.tail | apply Pick.app))) | apply Sup.app | apply Sup.skip | apply Sup.skips))))⟩
  all_goals refine JE.then_normal ?_
  all_goals
    refine J.seq ?_
    refine J.block ?_
    refine J.seq ?_
    refine J.region ?_
    rcases (by omega : i = 0 ∨ i = 1 ∨ i = 2 ∨ i = 3 ∨ i = 4 ∨ i = 5 ∨ i = 6 ∨ i = 7) with rfl | rfl | rfl | rfl | rfl | rfl | rfl | rfl <;> refine JL.step (y_move rfl) rfl rfl rfl ?_
    all_goals (refine JL.step (y_index1 hT rfl rfl rfl rfl rfl rfl rfl (by (first | omega | exact Nat.le_of_ble_eq_true rfl | decide | (simp; omega))) (by (first | omega | exact Nat.le_of_ble_eq_true rfl | decide | (simp; omega))) (by rfl)) rfl rfl rfl ?_)
    all_goals (refine JL.step (y_assign rfl) rfl rfl rfl ?_)
    all_goals (refine JL.step (y_assign rfl) rfl rfl rfl ?_)
    all_goals refine JL.nil ?_
    all_goals refine JE.then_normal ?_
    all_goals
      refine J.region ?_
      refine JL.step (y_move rfl) rfl rfl rfl ?_
      refine JL.step (y_mul rfl rfl (by (first | exact wrap_i64 (by omega) (by omega) | rfl))) rfl rfl rfl ?_
      refine JL.step (y_move rfl) rfl rfl rfl ?_
      refine JL.step (y_mul rfl rfl (by (first | exact wrap_i64 (by omega) (by omega) | rfl))) rfl rfl rfl ?_
      refine JL.step (y_add rfl rfl (by (first | exact wrap_i64 (by omega) (by omega) | rfl))) rfl rfl rfl ?_
      refine JL.step (y_move rfl) rfl rfl rfl ?_
      refine JL.step (y_mul rfl rfl (by (first | exact wrap_i64 (by omega) (by omega) | rfl))) rfl rfl rfl ?_
      refine JL.step (y_add rfl rfl (by (first | exact wrap_i64 (by omega) (by omega) | rfl))) rfl rfl rfl ?_
      refine JL.step (y_move rfl) rfl rfl rfl ?_
      refine JL.step (y_mul rfl rfl (by (first | exact wrap_i64 (by omega) (by omega) | rfl))) rfl rfl rfl ?_
      refine JL.step (y_add rfl rfl (by (first | exact wrap_i64 (by omega) (by omega) | rfl))) rfl rfl rfl ?_
      refine JL.step (y_move rfl) rfl rfl rfl ?_
      refine JL.step ((by first | exact y_shrW rfl rfl (by (first | omega | exact Nat.le_of_ble_eq_true rfl | decide | (simp; omega))) (by (first | omega | exact Nat.le_of_ble_eq_true rfl | decide | (simp; omega))) | exact y_shr rfl rfl (by (first | omega | exact Nat.le_of_ble_eq_true rfl | decide | (simp; omega))) (by rfl))) rfl rfl rfl ?_
      refine JL.step ((by first | exact y_convOfW hT rfl rfl rfl rfl | exact y_conv hT rfl rfl rfl rfl (by (first | exact wrap_i64 (by omega) (by omega) | rfl)))) rfl rfl rfl ?_
      refine JL.step (y_move rfl) rfl rfl rfl ?_
      refine JL.step ((by first | exact y_shrW rfl rfl (by (first | omega | exact Nat.le_of_ble_eq_true rfl | decide | (simp; omega))) (by (first | omega | exact Nat.le_of_ble_eq_true rfl | decide | (simp; omega))) | exact y_shr rfl rfl (by (first | omega | exact Nat.le_of_ble_eq_true rfl | decide | (simp; omega))) (by rfl))) rfl rfl rfl ?_
      refine JL.step ((by first | exact y_convOfW hT rfl rfl rfl rfl | exact y_conv hT rfl rfl rfl rfl (by (first | exact wrap_i64 (by omega) (by omega) | rfl)))) rfl rfl rfl ?_
      refine JL.step (y_move rfl) rfl rfl rfl ?_
      refine JL.step ((by first | exact y_shrW rfl rfl (by (first | omega | exact Nat.le_of_ble_eq_true rfl | decide | (simp; omega))) (by (first | omega | exact Nat.le_of_ble_eq_true rfl | decide | (simp; omega))) | exact y_shr rfl rfl (by (first | omega | exact Nat.le_of_ble_eq_true rfl | decide | (simp; omega))) (by rfl))) rfl rfl rfl ?_
      refine JL.step ((by first | exact y_convOfW hT rfl rfl rfl rfl | exact y_conv hT rfl rfl rfl rfl (by (first | exact wrap_i64 (by omega) (by omega) | rfl)))) rfl rfl rfl ?_
      refine JL.step (y_move rfl) rfl rfl rfl ?_
      refine JL.step ((by first | exact y_convOfW hT rfl rfl rfl rfl | exact y_conv hT rfl rfl rfl rfl (by (first | exact wrap_i64 (by omega) (by omega) | rfl)))) rfl rfl rfl ?_
      refine JL.step (y_indexAddr_arr hT rfl rfl rfl rfl rfl (by (first | omega | exact Nat.le_of_ble_eq_true rfl | decide | (simp; omega))) (by (first | omega | exact Nat.le_of_ble_eq_true rfl | decide | (simp; omega)))) rfl rfl rfl ?_
      refine JL.loud rfl (l_store1 hT rfl rfl rfl rfl rfl (by (repeat (first | exact Pick.head | apply Pick.tail | apply Pick.app))) (by (first | omega | exact Nat.le_of_ble_eq_true rfl | decide | (simp; omega))) ?_)
      refine JL.step (y_indexAddr_arr hT rfl rfl rfl rfl rfl (by (first | omega | exact Nat.le_of_ble_eq_true rfl | decide | (simp; omega))) (by (first | omega | exact Nat.le_of_ble_eq_true rfl | decide | (simp; omega)))) rfl rfl rfl ?_
      refine JL.loud rfl (l_store1 hT rfl rfl rfl rfl rfl (by (repeat (first | exact Pick.head | apply Pick.tail | apply Pick.app))) (by (first | omega | exact Nat.le_of_ble_eq_true rfl | decide | (simp; omega))) ?_)
      refine JL.step (y_indexAddr_arr hT rfl rfl rfl rfl rfl (by (first | omega | exact Nat.le_of_ble_eq_true rfl | decide | (simp; omega))) (by (first | omega | exact Nat.le_of_ble_eq_true rfl | decide | (simp; omega)))) rfl rfl rfl ?_
      refine JL.loud rfl (l_store1 hT rfl rfl rfl rfl rfl (by (repeat (first | exact Pick.head | apply Pick.tail | apply Pick.app))) (by (first | omega | exact Nat.le_of_ble_eq_true rfl | decide | (simp; omega))) ?_)
      refine JL.step (y_indexAddr_arr hT rfl rfl rfl rfl rfl (by (first | omega | exact Nat.le_of_ble_eq_true rfl | decide | (simp; omega))) (by (first | omega | exact Nat.le_of_ble_eq_true rfl | decide | (simp; omega)))) rfl rfl rfl ?_
      refine JL.loud rfl (l_store1 hT rfl rfl rfl rfl rfl (by (repeat (first | exact Pick.head | apply Pick.tail | apply Pick.app))) (by (first | omega | exact Nat.le_of_ble_eq_true rfl | decide | (simp; omega))) ?_)
      refine JL.nil ?_
    all_goals refine JE.block_normal ?_
    all_goals refine JE.then_normal ?_
    all_goals
      refine J.region ?_
      refine JL.step (y_add rfl rfl (by (first | exact wrap_i64 (by omega) (by omega) | rfl))) rfl rfl rfl ?_
      refine JL.step (y_move rfl) rfl rfl rfl ?_
      refine JL.nil ?_
  all_goals
    first
      | exact JE.round (s := 0) 1 (by omega) ⟨rfl, rfl, rfl, rfl, trivial⟩ (fun w q => q.sup (by (repeat (first | exact Sup.refl | apply Sup.cons (by (repeat (first | exact Pick.head | apply Pick.tail | apply Pick.app))) | apply Sup.app | apply Sup.skip | apply Sup.skips)))) (by omega)
      | exact JE.round (s := 1) 2 (by omega) ⟨rfl, rfl, rfl, rfl, trivial⟩ (fun w q => q.sup (by (repeat (first | exact Sup.refl | apply Sup.cons (by (repeat (first | exact Pick.head | apply Pick.tail | apply Pick.app))) | apply Sup.app | apply Sup.skip | apply Sup.skips)))) (by omega)
      | exact JE.round (s := 2) 3 (by omega) ⟨rfl, rfl, rfl, rfl, trivial⟩ (fun w q => q.sup (by (repeat (first | exact Sup.refl | apply Sup.cons (by (repeat (first | exact Pick.head | apply Pick.tail | apply Pick.app))) | apply Sup.app | apply Sup.skip | apply Sup.skips)))) (by omega)
      | exact JE.round (s := 3) 4 (by omega) ⟨rfl, rfl, rfl, rfl, trivial⟩ (fun w q => q.sup (by (repeat (first | exact Sup.refl | apply Sup.cons (by (repeat (first | exact Pick.head | apply Pick.tail | apply Pick.app))) | apply Sup.app | apply Sup.skip | apply Sup.skips)))) (by omega)
      | exact JE.round (s := 4) 5 (by omega) ⟨rfl, rfl, rfl, rfl, trivial⟩ (fun w q => q.sup (by (repeat (first | exact Sup.refl | apply Sup.cons (by (repeat (first | exact Pick.head | apply Pick.tail | apply Pick.app))) | apply Sup.app | apply Sup.skip | apply Sup.skips)))) (by omega)
      | exact JE.round (s := 5) 6 (by omega) ⟨rfl, rfl, rfl, rfl, trivial⟩ (fun w q => q.sup (by (repeat (first | exact Sup.refl | apply Sup.cons (by (repeat (first | exact Pick.head | apply Pick.tail | apply Pick.app))) | apply Sup.app | apply Sup.skip | apply Sup.skips)))) (by omega)
      | exact JE.round (s := 6) 7 (by omega) ⟨rfl, rfl, rfl, rfl, trivial⟩ (fun w q => q.sup (by (repeat (first | exact Sup.refl | apply Sup.cons (by (repeat (first | exact Pick.head | apply Pick.tail | apply Pick.app))) | apply Sup.app | apply Sup.skip | apply Sup.skips)))) (by omega)
      | exact JE.round (s := 7) 8 (by omega) ⟨rfl, rfl, rfl, rfl, trivial⟩ (fun w q => q.sup (by (repeat (first | exact Sup.refl | apply Sup.cons (by (repeat (first | exact Pick.head | apply Pick.tail | apply Pick.app))) | apply Sup.app | apply Sup.skip | apply Sup.skips)))) (by omega)
theorem hnew_spec (l : List HProp) : Fc prog E 95 [].toArray l (fun v l' => ∃ b kp kc, v = .pointer (some ⟨b, 0, none⟩) ∧ l' = hsh b kp kc [] :: own 145 1 (.slice kp 64 kc) 64 (K64.map W) :: l) :=
  Fc.post ((shaNew_spec E l).mono fun _ _ ⟨b, kp, kc, h1, h2⟩ => ⟨_, fun _ q => hsh_shut HI.new (h2 ▸ q), b, kp, kc, h1, rfl⟩)
theorem shaSum_spec (p : Option Addr) (cap : Nat) (bs : List Int) (l : List HProp) (hin : InL l p bs.length cap (ints .u8 bs)) (hn : bs.length ≤ 576460752303423488) :
    Fc prog E 85 [.slice p bs.length cap].toArray l (fun v l' => v = .agg (ints .u8 (sha bs)).toArray ∧ l' = l) := by
  refine Fc.eqs ?_
  refine Fc.of_body (c := ?c) Try.func85 ?hb Try.ntmps85 ?hl ?_
  case hb => exact rfl
  case hl => exact rfl
  refine J.seq ?_
  refine J.region ?_
  refine JL.loud rfl (l_alloc hT rfl rfl (by (first | rfl | simp)) rfl (fun b1 => ?_))
  refine JL.nil ?_
  refine JE.then_normal ?_
  refine J.seq ?_
  refine J.region ?_
  refine JL.loud rfl (l_callF e95 rfl rfl (hnew_spec E _) ?_)
  rintro _ _ ⟨b, kp, kc, rfl, rfl⟩
  refine JL.step (y_assign rfl) rfl rfl rfl ?_
  refine JL.nil ?_
  refine JE.then_normal ?_
  refine J.seq ?_
  refine J.fact (fun w s => Sat.own_at (a := kp) (k := 64) (s.pick (by (repeat (first | exact Pick.head | apply Pick.tail | apply Pick.app))))) fun ok => ?_
  refine J.region ?_
  refine JL.step (y_move rfl) rfl rfl rfl (JL.step (y_move rfl) rfl rfl rfl ?_)
  refine JL.loud rfl (l_callF e96 rfl rfl (Fc.on (Split.cons (by (repeat (first | exact Pick.head | apply Pick.tail | apply Pick.app))) Split.nil) (shaWrite_spec E b kp kc [] p cap bs _ (by (repeat (first | assumption | apply InL.cons | apply InL.app))) (ok.inl (by (repeat (first | exact Pick.head | apply Pick.tail | apply Pick.app)))) (by simp; omega))) ?_)
  rintro _ _ ⟨rfl, rfl⟩
  refine JL.nil ?_
  refine JE.then_normal ?_
  refine J.seq ?_
  refine J.region ?_
  refine JL.step (y_move rfl) rfl rfl rfl ?_
  refine JL.loud rfl (l_callF e97 rfl rfl (Fc.on (Split.cons (by (repeat (first | exact Pick.head | apply Pick.tail | apply Pick.app))) Split.nil) (hsum_spec E b kp kc bs _ (ok.inl (by (repeat (first | exact Pick.head | apply Pick.tail | apply Pick.app)))) hn)) ?_)
  rintro _ _ ⟨rfl, rfl⟩
  refine JL.loud rfl (l_storeAll hT rfl rfl rfl (by (first | rfl | assumption | (simp; done) | omega)) (by (first | assumption | exact ones_of rfl | exact encW_one _ | exact encB_one _ | (intro u hu; simp at hu; rcases hu with rfl | rfl <;> rfl) | (intro u hu; simp at hu; subst hu; rfl) | simp)) (by (repeat (first | exact Pick.head | apply Pick.tail | apply Pick.app))) (by (first | rfl | assumption | (simp; done) | omega)) ?_)
  refine JL.nil ?_
  refine JE.then_normal ?_
  refine J.ret ?_
  refine JE.ret1 (.inl rfl) rfl rfl (by (first | exact RV.tmp rfl | exact RV.cell1 hT rfl rfl rfl (by (exact Rd1.row (by (repeat (first | exact Pick.head | apply Pick.tail | apply Pick.app))) (by rfl))) | exact RV.cellN hT rfl rfl rfl (by (first | exact RdN.rowAll (by (repeat (first | exact Pick.head | apply Pick.tail | apply Pick.app))) | exact RdN.own (by (repeat (first | exact Pick.head | apply Pick.tail | apply Pick.app))))) (by (first | rfl | assumption | (simp; done) | omega)))) ?_
  exact ⟨rfl, fun w q => q.sup (by (repeat (first | exact Sup.refl | apply Sup.cons (by (repeat (first | exact Pick.head | apply Pick.tail | apply Pick.app))) | apply Sup.app | apply Sup.skip | apply Sup.skips)))⟩
end Go.Proofs.Ytilifeeddpkclaa
