import Derived.Test.YtilifeeddpkclaaSha3
namespace Go.Proofs.Ytilifeeddpkclaa
open Go Go.SL
/-- A Hash of these bytes. -/
def hsh (b : Nat) (kp : Option Addr) (kc : Nat) (ms : List Int) : HProp := ex fun q : S8 × List Int => stars [pur (HI ms q.1 q.2), row b 167 (hcells q.1.list kp kc q.2 ms.length)]
section
variable {w : World} {b : Nat} {kp : Option Addr} {kc : Nat} {ms : List Int} {l : List HProp}
variable {E : World}
theorem hsh_open (s : Sat E (stars (hsh b kp kc ms :: l)) w) : ∃ st rest, HI ms st rest ∧ Sat E (stars (row b 167 (hcells st.list kp kc rest ms.length) :: l)) w := by
  obtain ⟨⟨st, rest⟩, s⟩ := s.ofex
  obtain ⟨h, s⟩ := s.unfold.ofpur
  exact ⟨st, rest, h, s⟩
theorem hsh_shut {st : S8} {rest : List Int} (h : HI ms st rest) (s : Sat E (stars (row b 167 (hcells st.list kp kc rest ms.length) :: l)) w) : Sat E (stars (hsh b kp kc ms :: l)) w :=
  Sat.toex (F := fun _ : S8 × List Int => _) (st, rest) (Sat.fold (m := [_, _]) (s.topur h))
theorem Fc.hsh_in {f : FuncId} {args : Array Value} {R : Value → List HProp → Prop} (h : ∀ st rest, HI ms st rest → Fc prog E f args (row b 167 (hcells st.list kp kc rest ms.length) :: l) R) : Fc prog E f args (hsh b kp kc ms :: l) R := fun w hs =>
  let ⟨st, rest, hH, s⟩ := hsh_open hs
  h st rest hH w s
end
attribute [local irreducible] J JL JE JM LS Y Fc RV Code.wp wpList Code.wpIn wpListIn
variable (E : World)
theorem hcells_split (st : List (BitVec 32)) (kp : Option Addr) (kc : Nat) (rest : List Int) (n : Int) : hcells st kp kc rest n = (st.map W ++ [.slice kp 64 kc]) ++ (ints .u8 rest ++ [.int .i64 n]) := by simp [hcells]
section
variable {st : List (BitVec 32)} {kp : Option Addr} {kc : Nat} {rest : List Int} {n : Int} (hs : st.length = 8) (hr : rest.length = 64)
include hs hr
theorem hcells_len : (hcells st kp kc rest n).length = 74 := by simp [hcells, ints, hs, hr]
theorem hcells_n : (hcells st kp kc rest n)[0 + 73]? = some (Value.int .i64 n) := by
  rw [hcells_split, List.getElem?_append_right (by simp [hs])]
  simp [hs, ints, hr]
theorem hcells_setn (m : Int) : (hcells st kp kc rest n).set (0 + 73) (.int .i64 m) = hcells st kp kc rest m := by
  rw [hcells_split, hcells_split, List.set_append_right _ _ (by simp [hs])]
  congr 1
  rw [List.set_append_right _ _ (by simp [hs, ints, hr])]
  simp [hs, ints, hr]
theorem hcells_rest : ((hcells st kp kc rest n).drop 9).take 64 = ints .u8 rest := by
  rw [hcells_split, List.drop_left' (by simp [hs]), List.take_left' (by simp [ints, hr])]
theorem hcells_copy {a k : Nat} (xs : List Int) (hk : xs.length = k) (hak : a + k ≤ 64) : (hcells st kp kc rest n).take (9 + a) ++ ints .u8 xs ++ (hcells st kp kc rest n).drop (9 + a + k) = hcells st kp kc (rest.take a ++ xs ++ rest.drop (a + k)) n := by
  have h9 : (st.map W ++ [Value.slice kp 64 kc]).length = 9 := by simp [hs]
  rw [hcells_split, hcells_split]
  have e1 : ((st.map W ++ [Value.slice kp 64 kc]) ++ (ints .u8 rest ++ [Value.int .i64 n])).take (9 + a) = (st.map W ++ [Value.slice kp 64 kc]) ++ (ints .u8 rest).take a := by
    rw [List.take_append, List.take_of_length_le (by omega), h9, show 9 + a - 9 = a by omega, List.take_append_of_le_length (by simp [ints, hr]; omega)]
  have e2 : ((st.map W ++ [Value.slice kp 64 kc]) ++ (ints .u8 rest ++ [Value.int .i64 n])).drop (9 + a + k) = (ints .u8 rest).drop (a + k) ++ [.int .i64 n] := by
    rw [List.drop_append, List.drop_of_length_le (by omega), h9, show 9 + a + k - 9 = a + k by omega, List.drop_append_of_le_length (by simp [ints, hr]; omega)]
    rfl
  rw [e1, e2]
  simp [ints]
end
theorem hcells_rd {b e : Nat} {st : List (BitVec 32)} {kp : Option Addr} {kc : Nat} {rest : List Int} {n : Int} (l : List HProp) (hs : st.length = 8) (hr : rest.length = 64) : RdN (row b e (hcells st kp kc rest n) :: l) b 9 (ints .u8 rest) :=
  RdN.row Pick.head (hcells_rest hs hr)
theorem shaWrite_spec0 (b : Nat) (kp : Option Addr) (kc : Nat) (ms : List Int) (s : S8) (rest : List Int) (p : Option Addr) (cap : Nat) (bs : List Int) (l : List HProp) (hH : HI ms s rest) (hin : InL l p bs.length cap (ints .u8 bs)) (hK : InL l kp 64 kc (K64.map W)) (hms : ms.length + bs.length ≤ 1152921504606846976) :
    Fc prog E 96 [.pointer (some ⟨b, 0, none⟩), .slice p bs.length cap].toArray (row b 167 (hcells s.list kp kc rest ms.length) :: l)
      (fun v l' => ∃ s' rest', HI (ms ++ bs) s' rest' ∧ v = .tuple #[] ∧ l' = row b 167 (hcells s'.list kp kc rest' ((ms.length + bs.length : Nat) : Int)) :: l) := by
  refine Fc.post ?_
  have hrl := hH.len
  have hs8 : ∀ s : S8, s.list.length = 8 := fun _ => rfl
  have hmod : ((ms.length : Nat) : Int).tmod 64 = ((ms.length % 64 : Nat) : Int) := by rw [Int.tmod_eq_emod_of_nonneg (by omega)]; omega
  obtain ⟨a, ha⟩ : ∃ a, ms.length % 64 = a := ⟨_, rfl⟩
  rw [ha] at hmod
  obtain ⟨N, hN⟩ : ∃ N : Nat, ms.length + bs.length = N := ⟨_, rfl⟩
  have hbl : (ints .u8 bs).length = bs.length := by simp [ints]
  refine Fc.of_body (c := ?c) Try.func96 ?hb Try.ntmps96 ?hl ?_
  case hb => exact rfl
  case hl => exact rfl
  refine J.seq ?_
  refine J.region ?_
  refine JL.step (y_move rfl) rfl rfl rfl ?_
  refine JL.step ((by first | exact y_nilCheck rfl | exact y_nilCheckF rfl | exact y_nilCheckY rfl)) rfl rfl rfl ?_
  refine JL.step (y_fieldAddr hT rfl rfl rfl rfl rfl rfl) rfl rfl rfl ?_
  refine JL.step (y_load1 hT rfl rfl rfl (Rd1.row (by (repeat (first | exact Pick.head | apply Pick.tail | apply Pick.app))) (hcells_n (hs8 s) hrl))) rfl rfl rfl ?_
  refine JL.step (y_rem rfl rfl (by decide) hmod) rfl rfl rfl ?_
  refine JL.step (y_assign rfl) rfl rfl rfl ?_
  refine JL.nil ?_
  refine JE.then_normal ?_
  refine J.seq ?_
  refine J.region ?_
  refine JL.step (y_move rfl) rfl rfl rfl ?_
  refine JL.step ((by first | exact y_nilCheck rfl | exact y_nilCheckF rfl | exact y_nilCheckY rfl)) rfl rfl rfl ?_
  refine JL.step (y_fieldAddr hT rfl rfl rfl rfl rfl rfl) rfl rfl rfl ?_
  refine JL.step (y_load1 hT rfl rfl rfl (Rd1.row (by (repeat (first | exact Pick.head | apply Pick.tail | apply Pick.app))) (hcells_n (hs8 s) hrl))) rfl rfl rfl ?_
  refine JL.step (y_move rfl) rfl rfl rfl (JL.step (y_len_slice hT rfl rfl rfl) rfl rfl rfl ?_)
  refine JL.step (y_add (m := (N : Int)) rfl rfl (by rw [← hN, show ((ms.length : Nat) : Int) + ((bs.length : Nat) : Int) = ((ms.length + bs.length : Nat) : Int) by omega]; exact wrap_i64 (by omega) (by omega))) rfl rfl rfl ?_
  refine JL.step ((by first | exact y_nilCheck rfl | exact y_nilCheckF rfl | exact y_nilCheckY rfl)) rfl rfl rfl ?_
  refine JL.step (y_fieldAddr hT rfl rfl rfl rfl rfl rfl) rfl rfl rfl ?_
  refine JL.loud rfl (l_store1 hT rfl rfl rfl rfl rfl (by (repeat (first | exact Pick.head | apply Pick.tail | apply Pick.app))) (by rw [hcells_len (hs8 s) hrl]; decide) ?_)
  refine JL.pre (l' := row b 167 (hcells s.list kp kc rest N) :: l) (fun w q => by have e := hcells_setn (kp := kp) (kc := kc) (n := ms.length) (hs8 s) hrl (N : Int); rw [← e]; exact q) ?_
  refine JL.nil ?_
  refine JE.then_normal ?_
  refine J.seq ?_
  refine J.seq ?_
  refine J.region ?_
  refine JL.step (y_move rfl) rfl rfl rfl (JL.step (y_gtr rfl rfl) rfl rfl rfl ?_)
  refine JL.nil ?_
  refine JE.then_normal ?_
  first | apply J.cond_dec rfl | apply J.cond rfl
  case' ht =>
    intro h
    try (first | (exfalso; omega) | (cases h; done) | (exfalso; simp at h; done) | subst h)
    all_goals
      have ha0 : 0 < a := by omega
      have ha64 : a < 64 := by omega
      obtain ⟨k, hk⟩ : ∃ k, min bs.length (64 - a) = k := ⟨_, rfl⟩
      have hkb : k ≤ bs.length := by omega
      have htk : (bs.take k).length = k := by rw [List.length_take]; omega
      refine J.seq ?_
      refine J.region ?_
      refine JL.step (y_move rfl) rfl rfl rfl ?_
      refine JL.step ((by first | exact y_nilCheck rfl | exact y_nilCheckF rfl | exact y_nilCheckY rfl)) rfl rfl rfl ?_
      refine JL.step (y_fieldAddr hT rfl rfl rfl rfl rfl rfl) rfl rfl rfl (JL.step (y_move rfl) rfl rfl rfl ?_)
      refine JL.step (y_slice_arr (lo := a) (hi := 64) hT rfl rfl rfl rfl (.inr ⟨_, _, _, rfl, rfl, rfl⟩) (.inl ⟨rfl, rfl⟩) (by omega) (by omega)) rfl rfl rfl ?_
      rw [if_neg (show ¬ 64 = a by omega)]
      refine JL.step (y_move rfl) rfl rfl rfl ?_
      refine JL.loud rfl (l_copy hT rfl rfl rfl rfl rfl rfl (by (repeat (first | exact Pick.head | apply Pick.tail | apply Pick.app))) (by (repeat (first | assumption | apply InL.cons | apply InL.app))) hbl (by rw [hcells_len (hs8 s) hrl]; show 0 + 9 + a * 1 + (64 - a) ≤ 74; omega) (ints_one _ _) rfl ?_)
      rw [hk]
      refine JL.pre (l' := row b 167 (hcells s.list kp kc (rest.take a ++ bs.take k ++ rest.drop (a + k)) N) :: l) (fun w q => by
        have e := hcells_copy (kp := kp) (kc := kc) (n := (N : Int)) (hs8 s) hrl (a := a) (bs.take k) htk (by omega)
        rw [← e]
        have e2 : ints .u8 (bs.take k) = (ints .u8 bs).take k := by simp [ints]
        rw [e2]
        have e3 : 0 + 9 + a * i5.size = 9 + a := by rw [show i5.size = 1 from rfl]; omega
        rw [← e3]
        exact q) ?_
      refine JL.step (y_assign rfl) rfl rfl rfl ?_
      refine JL.nil ?_
      refine JE.then_normal ?_
      refine J.seq ?_
      refine J.region ?_
      obtain ⟨g0, o0, hp0, hin1⟩ := hin.part (lo := k) (hi := bs.length) (k := 1) hkb (Nat.le_refl _) (by rw [hbl]; omega)
      refine JL.step (y_move rfl) rfl rfl rfl (JL.step (y_move rfl) rfl rfl rfl ?_)
      refine JL.step (y_slice (lo := k) (hi := bs.length) hT rfl rfl rfl rfl (.inr ⟨_, _, _, rfl, rfl, rfl⟩) (.inl ⟨rfl, rfl⟩) hkb hin.le hin.le hp0) rfl rfl rfl ?_
      refine JL.step (y_assign rfl) rfl rfl rfl ?_
      refine JL.nil ?_
      refine JE.then_normal ?_
      refine J.seq ?_
      refine J.seq ?_
      refine J.region ?_
      refine JL.step (y_move rfl) rfl rfl rfl (JL.step (y_move rfl) rfl rfl rfl ?_)
      refine JL.step (y_add (m := ((a + k : Nat) : Int)) rfl rfl (by rw [show ((a : Nat) : Int) + ((k : Nat) : Int) = ((a + k : Nat) : Int) by omega]; exact wrap_i64 (by omega) (by omega))) rfl rfl rfl ?_
      refine JL.step (y_lss rfl rfl) rfl rfl rfl ?_
      refine JL.nil ?_
      refine JE.then_normal ?_
      first | apply J.cond_dec rfl | apply J.cond rfl
      case' ht =>
        intro h
        try (first | (exfalso; omega) | (cases h; done) | (exfalso; simp at h; done) | subst h)
        all_goals
          refine J.ret ?_
          refine JE.then_ret ?_
          refine JE.then_ret ?_
          refine JE.ret0 (.inl rfl) rfl rfl  ?_
          first
            | (have hkk : k = bs.length := by omega
               have hfew := hH.few (bs := bs) (by omega)
               rw [ha] at hfew
               refine ⟨_, fun w q => q, s, _, ?_, rfl, by rw [hN]⟩
               rw [hkk, List.take_length]
               exact hfew)
            | (have hlast := HI.last (ms := ms ++ bs.take j) (ys := bs.drop j) (rest := R) (by rw [List.length_append, List.length_take]; omega) (by rw [List.length_drop]; omega) hRl
               rw [List.append_assoc, List.take_append_drop, ← hst, List.length_drop] at hlast
               exact ⟨_, fun w q => q, st, _, hlast, rfl, by rw [hN]⟩)
      case' hf =>
        intro h
        try (first | (exfalso; omega) | (cases h; done) | (exfalso; simp at h; done) | subst h)
        all_goals
          refine J.skip ?_
      all_goals refine JE.then_normal ?_
      all_goals
        have hrl2 : (rest.take a ++ bs.take k ++ rest.drop (a + k)).length = 64 := by simp; omega
        have hfull := hH.full (ys := bs.take k) (by omega)
        have hdrop : rest.drop (a + k) = [] := List.drop_of_length_le (by omega)
        rw [ha] at hfull
        rw [hdrop, List.append_nil] at hrl2 ⊢
        refine J.region ?_
        refine JL.step (y_move rfl) rfl rfl rfl (JL.step (y_move rfl) rfl rfl rfl ?_)
        refine JL.step ((by first | exact y_nilCheck rfl | exact y_nilCheckF rfl | exact y_nilCheckY rfl)) rfl rfl rfl ?_
        refine JL.step (y_fieldAddr hT rfl rfl rfl rfl rfl rfl) rfl rfl rfl ?_
        refine JL.step (y_slice_arr hT rfl rfl rfl rfl (.inl ⟨rfl, rfl⟩) (.inl ⟨rfl, rfl⟩) (by (first | omega | exact Nat.le_of_ble_eq_true rfl | decide | (simp; omega))) (by (first | omega | exact Nat.le_of_ble_eq_true rfl | decide | (simp; omega)))) rfl rfl rfl ?_
        refine JL.loud rfl (l_callF e107 rfl rfl (shaStep_spec E b s kp kc (rest.take a ++ bs.take k) N b 9 64 64 (rest.take a ++ bs.take k) l hrl2 (by omega) (by omega) (by omega) (fun st h => hcells_rd l h hrl2) hK) ?_)
        rintro _ _ ⟨rfl, rfl⟩
        refine JL.nil ?_
  case' hf =>
    intro h
    try (first | (exfalso; omega) | (cases h; done) | (exfalso; simp at h; done) | subst h)
    all_goals
      refine J.skip ?_
  all_goals refine JE.then_normal ?_
  all_goals
    refine J.seq ?_
    refine J.block ?_
    have hI0 : (ms.length % 64 = 0 → 0 ≤ bs.length ∧ (ms.length + 0) % 64 = 0 ∧ s = shaA (ms ++ bs.take 0) ∧ rest.length = 64 ∧ InL l p (bs.length - 0) (cap - 0) (ints .u8 (bs.drop 0))) := fun h0 => ⟨Nat.zero_le _, h0, by rw [List.take_zero, List.append_nil]; exact hH.st, hrl, hin⟩
    first
      | (refine J.loop (α := Nat × Option Addr × S8 × List Int) (fun s => s.1 ≤ bs.length ∧ (ms.length + s.1) % 64 = 0 ∧ s.2.2.1 = shaA (ms ++ bs.take s.1) ∧ s.2.2.2.length = 64 ∧ InL l s.2.1 (bs.length - s.1) (cap - s.1) (ints .u8 (bs.drop s.1))) (fun s => [(0, .pointer (some ⟨b, 0, none⟩)), (1, .slice s.2.1 (bs.length - s.1) (cap - s.1))]) (fun s => row b 167 (hcells s.2.2.1.list kp kc s.2.2.2 N) :: l) (fun s => bs.length - s.1) (0, p, s, rest) (hI0 (by omega)) ⟨rfl, rfl, trivial⟩ (fun w h => h) ?_)
      | (refine J.loop (α := Nat × Option Addr × S8 × List Int) (fun s => s.1 ≤ bs.length ∧ (ms.length + s.1) % 64 = 0 ∧ s.2.2.1 = shaA (ms ++ bs.take s.1) ∧ s.2.2.2.length = 64 ∧ InL l s.2.1 (bs.length - s.1) (cap - s.1) (ints .u8 (bs.drop s.1))) (fun s => [(0, .pointer (some ⟨b, 0, none⟩)), (1, .slice s.2.1 (bs.length - s.1) (cap - s.1))]) (fun s => row b 167 (hcells s.2.2.1.list kp kc s.2.2.2 N) :: l) (fun s => bs.length - s.1) (k, _, compress s (rest.take a ++ bs.take k), rest.take a ++ bs.take k) ⟨hkb, by have := hfull.2; rw [List.length_append, htk] at this; exact this, hfull.1, hrl2, by
          have e : (ints .u8 bs).drop (k * 1) = ints .u8 (bs.drop k) := by simp [ints]
          rw [e, List.take_of_length_le (by simp [ints])] at hin1
          exact hin1⟩ ⟨rfl, rfl, trivial⟩ (fun w h => h) ?_)
    rintro ⟨j, q, st, R⟩ ⟨hj, hjm, hst, hRl, hq⟩
    dsimp only at hj hjm hst hRl hq ⊢
    refine J.seq ?_
    refine J.seq ?_
    refine J.region ?_
    refine JL.step (y_move rfl) rfl rfl rfl (JL.step (y_len_slice hT rfl rfl rfl) rfl rfl rfl (JL.step (y_geq rfl rfl) rfl rfl rfl ?_))
    refine JL.nil ?_
    refine JE.then_normal ?_
    first | apply J.cond_dec rfl | apply J.cond rfl
    case' ht =>
      intro h
      try (first | (exfalso; omega) | (cases h; done) | (exfalso; simp at h; done) | subst h)
      all_goals
        refine J.skip ?_
    case' hf =>
      intro h
      try (first | (exfalso; omega) | (cases h; done) | (exfalso; simp at h; done) | subst h)
      all_goals
        refine J.exit ?_
        refine JE.then_exit ?_
        refine JE.then_exit ?_
        refine JE.block_exit ?_
        refine JE.then_normal ?_
        refine J.region ?_
        refine JL.step (y_move rfl) rfl rfl rfl ?_
        refine JL.step ((by first | exact y_nilCheck rfl | exact y_nilCheckF rfl | exact y_nilCheckY rfl)) rfl rfl rfl ?_
        refine JL.step (y_fieldAddr hT rfl rfl rfl rfl rfl rfl) rfl rfl rfl ?_
        refine JL.step (y_slice_arr hT rfl rfl rfl rfl (.inl ⟨rfl, rfl⟩) (.inl ⟨rfl, rfl⟩) (by (first | omega | exact Nat.le_of_ble_eq_true rfl | decide | (simp; omega))) (by (first | omega | exact Nat.le_of_ble_eq_true rfl | decide | (simp; omega)))) rfl rfl rfl ?_
        refine JL.step (y_move rfl) rfl rfl rfl ?_
        refine JL.loud rfl (l_copy (dLen := 64) hT rfl rfl rfl rfl rfl rfl (by (repeat (first | exact Pick.head | apply Pick.tail | apply Pick.app))) (by (repeat (first | assumption | apply InL.cons | apply InL.app))) (by simp [ints]) (by rw [hcells_len (hs8 st) hRl]; decide) (ints_one _ _) rfl ?_)
        rw [show min (bs.length - j) 64 = bs.length - j by omega]
        refine JL.pre (l' := row b 167 (hcells st.list kp kc (bs.drop j ++ R.drop (bs.length - j)) N) :: l) (fun w q => by
          have e := hcells_copy (kp := kp) (kc := kc) (n := (N : Int)) (hs8 st) hRl (a := 0) (k := bs.length - j) (bs.drop j) (by simp) (by omega)
          rw [List.take_zero, List.nil_append, Nat.zero_add] at e
          rw [← e]
          rw [List.take_of_length_le (show (ints .u8 (bs.drop j)).length ≤ bs.length - j by simp [ints])] at q
          exact q) ?_
        refine JL.nil ?_
        refine JE.ret0 (.inr rfl) rfl rfl  ?_
        first
          | (have hkk : k = bs.length := by omega
             have hfew := hH.few (bs := bs) (by omega)
             rw [ha] at hfew
             refine ⟨_, fun w q => q, s, _, ?_, rfl, by rw [hN]⟩
             rw [hkk, List.take_length]
             exact hfew)
          | (have hlast := HI.last (ms := ms ++ bs.take j) (ys := bs.drop j) (rest := R) (by rw [List.length_append, List.length_take]; omega) (by rw [List.length_drop]; omega) hRl
             rw [List.append_assoc, List.take_append_drop, ← hst, List.length_drop] at hlast
             exact ⟨_, fun w q => q, st, _, hlast, rfl, by rw [hN]⟩)
    all_goals refine JE.then_normal ?_
    all_goals
      refine J.seq ?_
      refine J.block ?_
      refine J.region ?_
      obtain ⟨gq, oq, rfl, hqr⟩ := hq.addr (by omega)
      obtain ⟨g1, o1, hq1, hin2⟩ := hq.part (lo := 64) (hi := bs.length - j) (k := 1) (by omega) (Nat.le_refl _) (by simp [ints])
      refine JL.step (y_move rfl) rfl rfl rfl (JL.step (y_move rfl) rfl rfl rfl ?_)
      refine JL.loud rfl (l_callF e107 rfl rfl (shaStep_spec E b st kp kc R N gq oq (bs.length - j) (cap - j) (bs.drop j) l hRl (by omega) (by have := hq.le; omega) (by simp; omega) (fun st h => (hqr []).cons _) hK) ?_)
      rintro _ _ ⟨rfl, rfl⟩
      refine JL.nil ?_
      refine JE.block_normal ?_
      refine JE.then_normal ?_
      refine J.region ?_
      refine JL.step (y_move rfl) rfl rfl rfl ?_
      refine JL.step (y_slice (lo := 64) (hi := bs.length - j) hT rfl rfl rfl rfl (.inr ⟨_, _, _, rfl, rfl, rfl⟩) (.inl ⟨rfl, rfl⟩) (by omega) hq.le hq.le hq1) rfl rfl rfl ?_
      refine JL.step (y_assign rfl) rfl rfl rfl ?_
      refine JL.nil ?_
    all_goals
      refine JE.round (s := (j, some ⟨gq, oq, none⟩, st, R)) (j + 64, _, compress st (bs.drop j), R) ⟨by dsimp only; omega, by dsimp only; omega, ?_, hRl, ?_⟩ ⟨rfl, by
          show some _ = some _
          rw [show bs.length - (j + 64) = bs.length - j - 64 by omega, show cap - (j + 64) = cap - j - 64 by omega], trivial⟩ (fun w q => q) (by dsimp only; omega)
      · dsimp only
        rw [hst, ← compress_take]
        have e : ms ++ bs.take (j + 64) = (ms ++ bs.take j) ++ (bs.drop j).take 64 := by rw [List.append_assoc, List.take_add]
        rw [e]
        exact (shaA_add (xs := ms ++ bs.take j) (ys := (bs.drop j).take 64) (by rw [List.length_append, List.length_take]; omega) (by rw [List.length_take, List.length_drop]; omega)).symm
      · dsimp only
        rw [show bs.length - (j + 64) = bs.length - j - 64 by omega, show cap - (j + 64) = cap - j - 64 by omega]
        have e : (ints .u8 (bs.drop j)).drop (64 * 1) = ints .u8 (bs.drop (j + 64)) := by simp [ints]
        rw [e, List.take_of_length_le (by simp [ints]; omega)] at hin2
        exact hin2
theorem shaWrite_spec (b : Nat) (kp : Option Addr) (kc : Nat) (ms : List Int) (p : Option Addr) (cap : Nat) (bs : List Int) (l : List HProp) (hin : InL l p bs.length cap (ints .u8 bs)) (hK : InL l kp 64 kc (K64.map W)) (hms : ms.length + bs.length ≤ 1152921504606846976) :
    Fc prog E 96 [.pointer (some ⟨b, 0, none⟩), .slice p bs.length cap].toArray (hsh b kp kc ms :: l) (fun v l' => v = .tuple #[] ∧ l' = hsh b kp kc (ms ++ bs) :: l) :=
  Fc.hsh_in fun st rest hH => Fc.post ((shaWrite_spec0 E b kp kc ms st rest p cap bs l hH hin hK hms).mono fun v l' ⟨s', rest', h1, h2, h3⟩ => ⟨_, fun w q => hsh_shut h1 (by rw [List.length_append]; exact h3 ▸ q), h2, rfl⟩)
end Go.Proofs.Ytilifeeddpkclaa
