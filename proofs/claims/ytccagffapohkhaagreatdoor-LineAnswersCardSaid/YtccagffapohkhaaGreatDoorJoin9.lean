import Derived.Test.YtccagffapohkhaaGreatDoorJoin1
import Derived.Test.YtccagffapohkhaaGreatDoorJoin6
import Derived.Test.YtccagffapohkhaaGreatDoorJoin7
import Derived.Test.YtccagffapohkhaaGreatDoorJoin8
namespace Go.Proofs.YtccagffapohkhaaGreatDoor
section
open Go Go.SL
section
end
section
attribute [local irreducible] J JL JE JM LS Y Fc RV Code.wp wpList Code.wpIn wpListIn
attribute [local irreducible] Yc strOf valD dig
variable (E : World)
end
end
section
open Go Go.SL
section
attribute [local irreducible] J JL JE JM LS Y Fc RV Code.wp wpList Code.wpIn wpListIn
attribute [local irreducible] Yc strOf valD dig
variable (E : World)
theorem lawcut_spec (xs : List Int) (l : List HProp) (hB : Bys xs) : Fc prog E 12 [.string (strOf xs)].toArray l (fun v l' => v = .string (strOf (xs.take 700)) ∧ l' = l) := by
  refine Fc.eqs ?_
  refine Fc.of_body (c := ?codeC) Tryz.func12 ?hb Tryz.ntmps12 ?hl ?_
  case hb => exact rfl
  case hl => exact rfl
  refine J.seq ?_
  refine J.region ?_
  refine JL.step (y_assign rfl) rfl rfl rfl ?_
  refine JL.nil ?_
  refine JE.then_normal ?_
  refine J.seq ?_
  refine J.region ?_
  refine JL.step (y_move rfl) rfl rfl rfl (JL.step (y_move rfl) rfl rfl rfl ?_)
  refine JL.step (y_lenS hT rfl rfl rfl) rfl rfl rfl ?_
  refine JL.step (v := .int .i64 ((min xs.length 700 : Nat) : Int)) (y_min2 rfl rfl (by omega)) rfl rfl rfl ?_
  refine JL.step (y_cutS (lo := 0) (hi := min xs.length 700) hT hB rfl rfl rfl (.inl ⟨rfl, rfl⟩) (.inr ⟨_, _, _, rfl, rfl, rfl⟩) (Nat.zero_le _) (Nat.min_le_left _ _)) rfl rfl rfl ?_
  refine JL.step (y_assign rfl) rfl rfl rfl ?_
  refine JL.nil ?_
  refine JE.then_normal ?_
  refine J.ret ?_
  refine JE.ret1 (.inl rfl) rfl rfl (by (first | exact RV.tmp rfl | exact RV.cell1 hT rfl rfl rfl (by (exact Rd1.row (by (repeat (first | exact Pick.head | apply Pick.tail | apply Pick.app))) (by rfl))) | exact RV.cellN hT rfl rfl rfl (by (first | exact RdN.rowAll (by (repeat (first | exact Pick.head | apply Pick.tail | apply Pick.app))) | exact RdN.own (by (repeat (first | exact Pick.head | apply Pick.tail | apply Pick.app))))) (by (first | rfl | assumption | (simp; done) | omega)))) ?_
  have e : xs.take (min xs.length 700) = xs.take 700 := by
    rcases Nat.le_total xs.length 700 with q | q
    · rw [Nat.min_eq_left q, List.take_length, List.take_of_length_le q]
    · rw [Nat.min_eq_right q]
  rw [List.drop_zero, e]
  exact ⟨rfl, fun w h => h⟩
end
end
section
open Go Go.SL
section
def cutL (ns : List (List Int)) : List (List Int) := (ns.take 9).map fun s => s.take 700
def shortR (r : RpT) : RpT := { r with names := cutL r.names, texts := cutL r.texts }
theorem cutL_length (ns : List (List Int)) : (cutL ns).length ≤ 9 := by unfold cutL; rw [List.length_map, List.length_take]; omega
theorem cutL_in {ns : List (List Int)} {i : Nat} {x : List Int} (hx : ns[i]? = some x) (h : i < 9) : cutL (ns.take (i + 1)) = cutL (ns.take i) ++ [x.take 700] := by
  unfold cutL
  rw [List.take_take, List.take_take, Nat.min_eq_right (by omega), Nat.min_eq_right (by omega), List.take_add_one, hx, Option.toList_some, List.map_append]
  rfl
theorem cutL_out {ns : List (List Int)} {i : Nat} (h : ¬ i < 9) : cutL (ns.take (i + 1)) = cutL (ns.take i) := by
  unfold cutL
  rw [List.take_take, List.take_take, Nat.min_eq_left (by omega), Nat.min_eq_left (by omega)]
theorem cutL_mem {ns : List (List Int)} (hB : ∀ t ∈ ns, Bys t) : ∀ t ∈ cutL ns, Bys t ∧ t.length ≤ 700 := by
  intro t ht
  unfold cutL at ht
  obtain ⟨x, hx, rfl⟩ := List.mem_map.1 ht
  exact ⟨(hB x (List.mem_of_mem_take hx)).take _, by rw [List.length_take]; omega⟩
theorem rp_set33 {r : RpT} (h : r.key.length = 32) (a b a' : Value) : (rpE r a b).set 33 a' = rpE r a' b := by
  unfold rpE
  rw [List.set_cons_succ, List.set_append_right _ _ (by rw [ints_len, h]; decide), ints_len, h]
  rfl
theorem rp_set34 {r : RpT} (h : r.key.length = 32) (a b b' : Value) : (rpE r a b).set 34 b' = rpE r a b' := by
  unfold rpE
  rw [List.set_cons_succ, List.set_append_right _ _ (by rw [ints_len, h]; decide), ints_len, h]
  rfl
end
section
attribute [local irreducible] J JL JE JM LS Y Fc RV Code.wp wpList Code.wpIn wpListIn
attribute [local irreducible] Yc strOf valD dig
variable (E : World)
abbrev ownS (a : Option Addr) (c : Nat) (ws : List (List Int)) : HProp := own 9 1 (.slice a ws.length c) ws.length (strs ws)
theorem short_spec (r : RpT) (p1 : Option Addr) (c1 : Nat) (p2 : Option Addr) (c2 : Nat) (l : List HProp) (hk : r.key.length = 32) (hnB : ∀ t ∈ r.names, Bys t) (htB : ∀ t ∈ r.texts, Bys t) (h1 : InL l p1 r.names.length c1 (strs r.names)) (h2 : InL l p2 r.texts.length c2 (strs r.texts)) :
    Fc prog E 15 [.agg (rpE r (.slice p1 r.names.length c1) (.slice p2 r.texts.length c2)).toArray].toArray l
      (fun v l' => ∃ a1 k1 a2 k2, v = .agg (rpE (shortR r) (.slice a1 (shortR r).names.length k1) (.slice a2 (shortR r).texts.length k2)).toArray ∧ l' = ownS a1 k1 (shortR r).names :: ownS a2 k2 (shortR r).texts :: l) := by
  refine Fc.post ?_
  obtain ⟨cs, hcs⟩ : ∃ cs, rpE r (.slice p1 r.names.length c1) (.slice p2 r.texts.length c2) = cs := ⟨_, rfl⟩
  have hat := rp_at hk (.slice p1 r.names.length c1) (.slice p2 r.texts.length c2)
  have hcl : cs.length = 40 := by rw [← hcs]; exact rpE_length hk _ _
  have hm1 := h1.le
  have hm2 := h1.most
  have hm3 := h2.le
  have hm4 := h2.most
  unfold maxLen at hm2 hm4
  rw [hcs] at hat
  rw [hcs]
  refine Fc.of_body (c := ?codeC) Tryz.func15 ?hb Tryz.ntmps15 ?hl ?_
  case hb => exact rfl
  case hl => exact rfl
  refine J.seq ?_
  refine J.region ?_
  refine JL.loud rfl (l_box (cs := cs) rfl rfl rfl (fun b0 => ?_))
  refine JL.loud rfl (l_alloc hT rfl rfl (by (first | rfl | simp)) rfl (fun b1 => ?_))
  refine JL.nil ?_
  refine JE.then_normal ?_
  refine J.seq ?_
  refine J.region ?_
  refine JL.step (y_assign rfl) rfl rfl rfl (JL.step (y_assign rfl) rfl rfl rfl ?_)
  refine JL.nil ?_
  refine JE.then_normal ?_
  refine J.seqK (α := Option Addr × Nat) (fun _ => True) (fun s => [(1, .pointer (some ⟨b0, 0, none⟩)), (2, .pointer (some ⟨b1, 0, none⟩)), (3, .slice s.1 (cutL r.names).length s.2), (4, .slice none 0 0)]) (fun s => ownS s.1 s.2 (cutL r.names) :: ownS none 0 [] :: row b0 36 cs :: row b1 36 (rpE rp0 (.slice none 0 0) (.slice none 0 0)) :: l) ?hj8 (fun hk8 => ?hf8)
  case hf8 =>
    refine J.seq ?_
    refine J.region ?_
    refine JL.step (y_fieldAddr hT rfl rfl rfl rfl rfl rfl) rfl rfl rfl ?_
    refine JL.step (y_load1 hT rfl rfl rfl (Rd1.row (by (repeat (first | exact Pick.head | apply Pick.tail | apply Pick.app))) (hat 0))) rfl rfl rfl ?_
    refine JL.step (y_len_slice hT rfl rfl rfl) rfl rfl rfl (JL.step (y_move rfl) rfl rfl rfl ?_)
    refine JL.nil ?_
    refine JE.then_normal ?_
    refine J.block ?_
    refine J.pre (l' := ownS none 0 [] :: ownS none 0 [] :: row b0 36 cs :: row b1 36 (rpE rp0 (.slice none 0 0) (.slice none 0 0)) :: l) (fun w h => by
        have h9 : Sat E (stars (row b0 36 cs :: row b1 36 (rpE rp0 (.slice none 0 0) (.slice none 0 0)) :: l)) w := h.sup (by (repeat (first | exact Sup.refl | apply Sup.cons (by (repeat (first | exact Pick.head | apply Pick.tail | apply Pick.app))) | apply Sup.app | apply Sup.skip | apply Sup.skips)))
        exact h9.own_nil.own_nil) ?_
    refine J.loop (α := Nat × Option Addr × Nat) (fun s => s.1 ≤ r.names.length) (fun s => [(1, .pointer (some ⟨b0, 0, none⟩)), (2, .pointer (some ⟨b1, 0, none⟩)), (3, .slice s.2.1 (cutL (r.names.take s.1)).length s.2.2), (4, .slice none 0 0), (10, .slice p1 r.names.length c1), (11, .int .i64 r.names.length), (12, .int .i64 s.1)]) (fun s => ownS s.2.1 s.2.2 (cutL (r.names.take s.1)) :: ownS none 0 [] :: row b0 36 cs :: row b1 36 (rpE rp0 (.slice none 0 0) (.slice none 0 0)) :: l) (fun s => r.names.length - s.1) (0, none, 0) (Nat.zero_le _) ⟨rfl, rfl, rfl, rfl, rfl, rfl, rfl, trivial⟩ (fun w h => h) ?_
    rintro ⟨i, a, k⟩ hi
    dsimp only at hi ⊢
    refine J.seq ?_
    refine J.region ?_
    refine JL.step (y_lss rfl rfl) rfl rfl rfl ?_
    refine JL.nil ?_
    refine JE.then_normal ?_
    refine J.seq ?_
    first | apply J.cond_dec rfl | apply J.cond rfl
    case' ht =>
      intro h
      try (first | (exfalso; omega) | (cases h; done) | (exfalso; simp at h; done) | subst h)
      all_goals
        refine J.skip ?_
    case' hf =>
      intro h
      try (first | (exfalso; omega) | (cases h; done) | (exfalso; simp at h; done) | subst h)
      all_goals
        refine J.exit ?_
        refine JE.then_exit ?_
        refine JE.then_exit ?_
        refine JE.block_exit ?_
        refine JE.then_normal ?_
        obtain rfl : i = r.names.length := by omega
        rw [List.take_length]
        exact J.closeK hk8 (a, k) trivial ⟨rfl, rfl, rfl, rfl, trivial⟩ (fun w h => h)
    all_goals refine JE.then_normal ?_
    all_goals
      refine J.seq ?_
      refine J.block ?_
      refine J.seq ?_
      have hlt : i < r.names.length := by omega
      obtain ⟨x, hx⟩ : ∃ x, r.names[i]? = some x := ⟨r.names[i]'(by omega), List.getElem?_eq_getElem _⟩
      obtain ⟨g1, o1, rfl, hrd1⟩ := h1.addr (by omega)
      have hxB := hnB x (List.mem_of_getElem? hx)
      have hc9 := cutL_length (r.names.take i)
      refine J.region ?_
      refine JL.step (y_move rfl) rfl rfl rfl ?_
      refine JL.step (y_indexAddr_slice hT rfl rfl rfl rfl rfl (by (first | omega | exact Nat.le_of_ble_eq_true rfl | decide | (simp; omega))) (by (first | omega | exact Nat.le_of_ble_eq_true rfl | decide | (simp; omega)))) rfl rfl rfl ?_
      refine JL.step (y_load1 hT rfl rfl rfl (Rd1.elem (i := i) (v := .string (strOf x)) (((((hrd1 []).cons _).cons _).cons _).cons _) (strs_at hx))) rfl rfl rfl ?_
      refine JL.step (y_assign rfl) rfl rfl rfl (JL.step (y_assign rfl) rfl rfl rfl ?_)
      refine JL.nil ?_
      refine JE.then_normal ?_
      refine J.seq ?_
      refine J.region ?_
      refine JL.step (y_move rfl) rfl rfl rfl (JL.step (y_lss rfl rfl) rfl rfl rfl ?_)
      refine JL.nil ?_
      refine JE.then_normal ?_
      first | apply J.cond_dec rfl | apply J.cond rfl
      case' ht =>
        intro h
        try (first | (exfalso; omega) | (cases h; done) | (exfalso; simp at h; done) | subst h)
        all_goals
          refine J.region ?_
          refine JL.step (y_move rfl) rfl rfl rfl (JL.step (y_move rfl) rfl rfl rfl ?_)
          refine JL.loud rfl (l_callF e12 rfl rfl (lawcut_spec E x _ hxB) ?_)
          rintro _ _ ⟨rfl, rfl⟩
          refine JL.loud rfl (l_buildSliceP (cs := [.string (strOf (x.take 700))]) hT rfl rfl rfl rfl rfl rfl rfl (fill_one rfl rfl) rfl (fun bs => ?_))
          refine JL.loud rfl (l_append hT rfl rfl rfl rfl rfl rfl rfl rfl (by (repeat (first | exact Pick.head | apply Pick.tail | apply Pick.app))) (by (first | exact RdN.rowAll (by (repeat (first | exact Pick.head | apply Pick.tail | apply Pick.app))) | exact RdN.own (by (repeat (first | exact Pick.head | apply Pick.tail | apply Pick.app))))) (by (first | rfl | assumption | (simp; done) | omega)) (by (first | assumption | exact ones_of rfl | exact encW_one _ | exact encB_one _ | (intro u hu; simp at hu; rcases hu with rfl | rfl <;> rfl) | (intro u hu; simp at hu; subst hu; rfl) | simp)) (by rw [show i9.bytes = 16 from rfl]; omega) (by omega) rfl (fun a7 k7 hk7 => ?_))
          refine JL.step (y_assign rfl) rfl rfl rfl ?_
          refine JL.nil ?_
      case' hf =>
        intro h
        try (first | (exfalso; omega) | (cases h; done) | (exfalso; simp at h; done) | subst h)
        all_goals
          refine J.skip ?_
      all_goals refine JE.block_normal ?_
      all_goals refine JE.then_normal ?_
      all_goals
        refine J.region ?_
        refine JL.step (y_add rfl rfl (by (first | exact wrap_i64 (by omega) (by omega) | rfl))) rfl rfl rfl ?_
        refine JL.step (y_move rfl) rfl rfl rfl ?_
        refine JL.nil ?_
    all_goals
      first
      | (have hi9 : i < 9 := by omega
         have hst := cutL_in hx hi9
         exact JE.round (s := (i, a, k)) (i + 1, a7, k7) (by dsimp only; omega) ⟨rfl, rfl, by dsimp only; rw [hst, List.length_append]; rfl, rfl, rfl, rfl, rfl, trivial⟩ (fun w h => by
           dsimp only
           rw [hst]
           unfold ownS
           rw [strs_app, List.length_append]
           exact h.sup (by (repeat (first | exact Sup.refl | apply Sup.cons (by (repeat (first | exact Pick.head | apply Pick.tail | apply Pick.app))) | apply Sup.app | apply Sup.skip | apply Sup.skips)))) (by dsimp only; omega))
      | (have hst := cutL_out (ns := r.names) (i := i) (by omega)
         exact JE.round (s := (i, a, k)) (i + 1, a, k) (by dsimp only; omega) ⟨rfl, rfl, by dsimp only; rw [hst]; rfl, rfl, rfl, rfl, rfl, trivial⟩ (fun w h => by
           dsimp only
           rw [hst]
           exact h.sup (by (repeat (first | exact Sup.refl | apply Sup.cons (by (repeat (first | exact Pick.head | apply Pick.tail | apply Pick.app))) | apply Sup.app | apply Sup.skip | apply Sup.skips)))) (by dsimp only; omega))
  rintro ⟨a9, k9⟩ _
  try dsimp only
  refine J.seqK (α := Option Addr × Nat) (fun _ => True) (fun s => [(1, .pointer (some ⟨b0, 0, none⟩)), (2, .pointer (some ⟨b1, 0, none⟩)), (3, .slice a9 (cutL r.names).length k9), (4, .slice s.1 (cutL r.texts).length s.2)]) (fun s => ownS a9 k9 (cutL r.names) :: ownS s.1 s.2 (cutL r.texts) :: row b0 36 cs :: row b1 36 (rpE rp0 (.slice none 0 0) (.slice none 0 0)) :: l) ?hj14 (fun hk14 => ?hf14)
  case hf14 =>
    refine J.seq ?_
    refine J.region ?_
    refine JL.step (y_fieldAddr hT rfl rfl rfl rfl rfl rfl) rfl rfl rfl ?_
    refine JL.step (y_load1 hT rfl rfl rfl (Rd1.row (by (repeat (first | exact Pick.head | apply Pick.tail | apply Pick.app))) (hat 1))) rfl rfl rfl ?_
    refine JL.step (y_len_slice hT rfl rfl rfl) rfl rfl rfl (JL.step (y_move rfl) rfl rfl rfl ?_)
    refine JL.nil ?_
    refine JE.then_normal ?_
    refine J.block ?_
    refine J.loop (α := Nat × Option Addr × Nat) (fun s => s.1 ≤ r.texts.length) (fun s => [(1, .pointer (some ⟨b0, 0, none⟩)), (2, .pointer (some ⟨b1, 0, none⟩)), (3, .slice a9 (cutL r.names).length k9), (4, .slice s.2.1 (cutL (r.texts.take s.1)).length s.2.2), (26, .slice p2 r.texts.length c2), (27, .int .i64 r.texts.length), (28, .int .i64 s.1)]) (fun s => ownS a9 k9 (cutL r.names) :: ownS s.2.1 s.2.2 (cutL (r.texts.take s.1)) :: row b0 36 cs :: row b1 36 (rpE rp0 (.slice none 0 0) (.slice none 0 0)) :: l) (fun s => r.texts.length - s.1) (0, none, 0) (Nat.zero_le _) ⟨rfl, rfl, rfl, rfl, rfl, rfl, rfl, trivial⟩ (fun w h => h) ?_
    rintro ⟨i, a, k⟩ hi
    dsimp only at hi ⊢
    refine J.seq ?_
    refine J.region ?_
    refine JL.step (y_lss rfl rfl) rfl rfl rfl ?_
    refine JL.nil ?_
    refine JE.then_normal ?_
    refine J.seq ?_
    first | apply J.cond_dec rfl | apply J.cond rfl
    case' ht =>
      intro h
      try (first | (exfalso; omega) | (cases h; done) | (exfalso; simp at h; done) | subst h)
      all_goals
        refine J.skip ?_
    case' hf =>
      intro h
      try (first | (exfalso; omega) | (cases h; done) | (exfalso; simp at h; done) | subst h)
      all_goals
        refine J.exit ?_
        refine JE.then_exit ?_
        refine JE.then_exit ?_
        refine JE.block_exit ?_
        refine JE.then_normal ?_
        obtain rfl : i = r.texts.length := by omega
        rw [List.take_length]
        exact J.closeK hk14 (a, k) trivial ⟨rfl, rfl, rfl, rfl, trivial⟩ (fun w h => h)
    all_goals refine JE.then_normal ?_
    all_goals
      refine J.seq ?_
      refine J.block ?_
      refine J.seq ?_
      have hlt : i < r.texts.length := by omega
      obtain ⟨x, hx⟩ : ∃ x, r.texts[i]? = some x := ⟨r.texts[i]'(by omega), List.getElem?_eq_getElem _⟩
      obtain ⟨g1, o1, rfl, hrd1⟩ := h2.addr (by omega)
      have hxB := htB x (List.mem_of_getElem? hx)
      have hc9 := cutL_length (r.texts.take i)
      refine J.region ?_
      refine JL.step (y_move rfl) rfl rfl rfl ?_
      refine JL.step (y_indexAddr_slice hT rfl rfl rfl rfl rfl (by (first | omega | exact Nat.le_of_ble_eq_true rfl | decide | (simp; omega))) (by (first | omega | exact Nat.le_of_ble_eq_true rfl | decide | (simp; omega)))) rfl rfl rfl ?_
      refine JL.step (y_load1 hT rfl rfl rfl (Rd1.elem (i := i) (v := .string (strOf x)) (((((hrd1 []).cons _).cons _).cons _).cons _) (strs_at hx))) rfl rfl rfl ?_
      refine JL.step (y_assign rfl) rfl rfl rfl (JL.step (y_assign rfl) rfl rfl rfl ?_)
      refine JL.nil ?_
      refine JE.then_normal ?_
      refine J.seq ?_
      refine J.region ?_
      refine JL.step (y_move rfl) rfl rfl rfl (JL.step (y_lss rfl rfl) rfl rfl rfl ?_)
      refine JL.nil ?_
      refine JE.then_normal ?_
      first | apply J.cond_dec rfl | apply J.cond rfl
      case' ht =>
        intro h
        try (first | (exfalso; omega) | (cases h; done) | (exfalso; simp at h; done) | subst h)
        all_goals
          refine J.region ?_
          refine JL.step (y_move rfl) rfl rfl rfl (JL.step (y_move rfl) rfl rfl rfl ?_)
          refine JL.loud rfl (l_callF e12 rfl rfl (lawcut_spec E x _ hxB) ?_)
          rintro _ _ ⟨rfl, rfl⟩
          refine JL.loud rfl (l_buildSliceP (cs := [.string (strOf (x.take 700))]) hT rfl rfl rfl rfl rfl rfl rfl (fill_one rfl rfl) rfl (fun bs => ?_))
          refine JL.loud rfl (l_append hT rfl rfl rfl rfl rfl rfl rfl rfl (Pick.tail (Pick.tail Pick.head)) (by (first | exact RdN.rowAll (by (repeat (first | exact Pick.head | apply Pick.tail | apply Pick.app))) | exact RdN.own (by (repeat (first | exact Pick.head | apply Pick.tail | apply Pick.app))))) (by (first | rfl | assumption | (simp; done) | omega)) (by (first | assumption | exact ones_of rfl | exact encW_one _ | exact encB_one _ | (intro u hu; simp at hu; rcases hu with rfl | rfl <;> rfl) | (intro u hu; simp at hu; subst hu; rfl) | simp)) (by rw [show i9.bytes = 16 from rfl]; omega) (by omega) rfl (fun a7 k7 hk7 => ?_))
          refine JL.step (y_assign rfl) rfl rfl rfl ?_
          refine JL.nil ?_
      case' hf =>
        intro h
        try (first | (exfalso; omega) | (cases h; done) | (exfalso; simp at h; done) | subst h)
        all_goals
          refine J.skip ?_
      all_goals refine JE.block_normal ?_
      all_goals refine JE.then_normal ?_
      all_goals
        refine J.region ?_
        refine JL.step (y_add rfl rfl (by (first | exact wrap_i64 (by omega) (by omega) | rfl))) rfl rfl rfl ?_
        refine JL.step (y_move rfl) rfl rfl rfl ?_
        refine JL.nil ?_
    all_goals
      first
      | (have hi9 : i < 9 := by omega
         have hst := cutL_in hx hi9
         exact JE.round (s := (i, a, k)) (i + 1, a7, k7) (by dsimp only; omega) ⟨rfl, rfl, rfl, by dsimp only; rw [hst, List.length_append]; rfl, rfl, rfl, rfl, trivial⟩ (fun w h => by
           dsimp only
           rw [hst]
           unfold ownS
           rw [strs_app, List.length_append]
           exact h.sup (by (repeat (first | exact Sup.refl | apply Sup.cons (by (repeat (first | exact Pick.head | apply Pick.tail | apply Pick.app))) | apply Sup.app | apply Sup.skip | apply Sup.skips)))) (by dsimp only; omega))
      | (have hst := cutL_out (ns := r.texts) (i := i) (by omega)
         exact JE.round (s := (i, a, k)) (i + 1, a, k) (by dsimp only; omega) ⟨rfl, rfl, rfl, by dsimp only; rw [hst]; rfl, rfl, rfl, rfl, trivial⟩ (fun w h => by
           dsimp only
           rw [hst]
           exact h.sup (by (repeat (first | exact Sup.refl | apply Sup.cons (by (repeat (first | exact Pick.head | apply Pick.tail | apply Pick.app))) | apply Sup.app | apply Sup.skip | apply Sup.skips)))) (by dsimp only; omega))
  rintro ⟨a10, k10⟩ _
  try dsimp only
  obtain ⟨ns, hns⟩ : ∃ ns, cutL r.names = ns := ⟨_, rfl⟩
  obtain ⟨ts, hts⟩ : ∃ ts, cutL r.texts = ts := ⟨_, rfl⟩
  have hn9 := cutL_length r.names
  have ht9 := cutL_length r.texts
  rw [hns, hts]
  rw [hns] at hn9
  rw [hts] at ht9
  refine J.seq ?_
  refine J.draw _ _ [(0, .q), (3, .q), (4, .q), (6, .q), (9, .q), (10, .q), (1, .n), (2, .l), (5, .q), (12, .q), (7, .n), (8, .l), (11, .q), (13, .l), (14, .q), (15, .l)] mixed (by kernel_rfl) (Split.cons (Pick.head) (Split.cons (Pick.head) (Split.cons (Pick.head) (Split.nil)))) ?_
  refine JM.quiet rfl rfl rfl rfl (fun m => y_move rfl) ?_
  refine JM.quiet rfl rfl rfl rfl (fun m => y_move rfl) ?_
  refine JM.quiet rfl rfl rfl rfl (fun m => y_len_slice hT rfl rfl rfl) ?_
  refine JM.quiet rfl rfl rfl rfl (fun m => y_move rfl) ?_
  refine JM.quiet rfl rfl rfl rfl (fun m => y_move rfl) ?_
  refine JM.quiet rfl rfl rfl rfl (fun m => y_len_slice hT rfl rfl rfl) ?_
  refine JM.lay rfl rfl rfl rfl (fun a hf => lays_buildSlice hT rfl rfl rfl rfl hf rfl rfl rfl (by (first | exact fill_one rfl (by first | assumption | rfl | (simp; done)) | rfl | simp))) (fun b4 => ?_)
  refine JM.loud rfl rfl (fun fr => l_appendG hT rfl rfl rfl rfl rfl rfl rfl rfl (by (repeat (first | exact Pick.head | apply Pick.tail | apply Pick.app))) (by (first | exact RdN.rowAll (by (repeat (first | exact Pick.head | apply Pick.tail | apply Pick.app))) | exact RdN.own (by (repeat (first | exact Pick.head | apply Pick.tail | apply Pick.app))))) (by (first | rfl | assumption | (simp; done) | omega)) (by (first | assumption | exact ones_of rfl | exact encW_one _ | exact encB_one _ | (intro u hu; simp at hu; rcases hu with rfl | rfl <;> rfl) | (intro u hu; simp at hu; subst hu; rfl) | simp)) (by rw [show i9.bytes = 16 from rfl]; omega) (by omega) rfl (by decide) (fun ga ka hka => ⟨[_, _, _, _], (by (repeat (first | exact Split.nil | exact Split.all | refine Split.cons Pick.head ?_))), ?_⟩))
  refine JM.quiet (v := .slice (some ⟨ga, 0, none⟩) ns.length ka) rfl rfl rfl rfl (fun m => Y.cast (y_slice (cap := ka) (len := ns.length + 1) (b := ga) (off := 0) (lo := 0) (hi := ns.length) hT rfl rfl rfl rfl (.inl ⟨rfl, rfl⟩) (.inr ⟨_, _, _, rfl, rfl, rfl⟩) (Nat.zero_le _) (by omega) (by omega) (.inl rfl)) (by rw [if_neg (by omega)]; rfl)) ?_
  refine JM.quiet rfl rfl rfl rfl (fun m => y_fieldAddr hT rfl rfl rfl rfl rfl rfl) ?_
  refine JM.lay rfl rfl rfl rfl (fun a hf => lays_buildSlice hT rfl rfl rfl rfl hf rfl rfl rfl (by (first | exact fill_one rfl (by first | assumption | rfl | (simp; done)) | rfl | simp))) (fun b5 => ?_)
  refine JM.loud rfl rfl (fun fr => l_appendG hT rfl rfl rfl rfl rfl rfl rfl rfl (by (repeat (first | exact Pick.head | apply Pick.tail | apply Pick.app))) (by (first | exact RdN.rowAll (by (repeat (first | exact Pick.head | apply Pick.tail | apply Pick.app))) | exact RdN.own (by (repeat (first | exact Pick.head | apply Pick.tail | apply Pick.app))))) (by (first | rfl | assumption | (simp; done) | omega)) (by (first | assumption | exact ones_of rfl | exact encW_one _ | exact encB_one _ | (intro u hu; simp at hu; rcases hu with rfl | rfl <;> rfl) | (intro u hu; simp at hu; subst hu; rfl) | simp)) (by rw [show i9.bytes = 16 from rfl]; omega) (by omega) rfl (by decide) (fun gb kb hkb => ⟨[_, _, _, _, _], (by (repeat (first | exact Split.nil | exact Split.all | refine Split.cons Pick.head ?_))), ?_⟩))
  refine JM.quiet (v := .slice (some ⟨gb, 0, none⟩) ts.length kb) rfl rfl rfl rfl (fun m => Y.cast (y_slice (cap := kb) (len := ts.length + 1) (b := gb) (off := 0) (lo := 0) (hi := ts.length) hT rfl rfl rfl rfl (.inl ⟨rfl, rfl⟩) (.inr ⟨_, _, _, rfl, rfl, rfl⟩) (Nat.zero_le _) (by omega) (by omega) (.inl rfl)) (by rw [if_neg (by omega)]; rfl)) ?_
  refine JM.loud rfl rfl (fun fr => l_store1 hT rfl rfl rfl rfl rfl (by (repeat (first | exact Pick.head | apply Pick.tail | apply Pick.app))) (by rw [hcl]; decide) ⟨[_, _, _, _, _], (by (repeat (first | exact Split.nil | exact Split.all | refine Split.cons Pick.head ?_))), ?_⟩)
  refine JM.quiet rfl rfl rfl rfl (fun m => y_fieldAddr hT rfl rfl rfl rfl rfl rfl) ?_
  refine JM.loud rfl rfl (fun fr => l_store1 hT rfl rfl rfl rfl rfl (by (repeat (first | exact Pick.head | apply Pick.tail | apply Pick.app))) (by rw [List.length_set, hcl]; decide) ⟨[_, _, _, _, _], (by (repeat (first | exact Split.nil | exact Split.all | refine Split.cons Pick.head ?_))), ?_⟩)
  refine JM.nil ?_
  refine JE.then_normal ?_
  refine J.seq ?_
  obtain ⟨S, hS⟩ : ∃ S, shortR r = S := ⟨_, rfl⟩
  have hSn : S.names = ns := by rw [← hS, ← hns]; rfl
  have hSt : S.texts = ts := by rw [← hS, ← hts]; rfl
  obtain ⟨cs2, hcs2⟩ : ∃ cs2, rpE S (.slice (some ⟨ga, 0, none⟩) ns.length ka) (.slice (some ⟨gb, 0, none⟩) ts.length kb) = cs2 := ⟨_, rfl⟩
  have hset : (cs.set 33 (.slice (some ⟨ga, 0, none⟩) ns.length ka)).set 34 (.slice (some ⟨gb, 0, none⟩) ts.length kb) = cs2 := by
    rw [← hcs2, ← hcs, rp_set33 hk, rp_set34 hk, ← hS]
    rfl
  have hcl2 : cs2.length = i36.size := by rw [← hcs2, ← hS]; exact rpE_length hk _ _
  have hone2 : ∀ v ∈ cs2, v.oneCell' = true := by rw [← hcs2]; exact rpE_one S rfl rfl
  refine J.pre (l' := row b0 36 cs2 :: row b1 36 (rpE rp0 (.slice none 0 0) (.slice none 0 0)) :: ownS (some ⟨ga, 0, none⟩) ka ns :: ownS (some ⟨gb, 0, none⟩) kb ts :: l) (fun w h => by
    rw [← hset]
    have h9 : Sat E (stars (own 9 1 (.slice (some ⟨ga, 0, none⟩) (ns.length + 1) ka) (ns.length + 1) (strs ns ++ [.string ⟨#[126]⟩]) :: own 9 1 (.slice (some ⟨gb, 0, none⟩) (ts.length + 1) kb) (ts.length + 1) (strs ts ++ [.string ⟨#[126]⟩]) :: row b0 36 ((cs.set 33 (.slice (some ⟨ga, 0, none⟩) ns.length ka)).set 34 (.slice (some ⟨gb, 0, none⟩) ts.length kb)) :: row b1 36 (rpE rp0 (.slice none 0 0) (.slice none 0 0)) :: l)) w := h.sup (by (repeat (first | exact Sup.refl | apply Sup.cons (by (repeat (first | exact Pick.head | apply Pick.tail | apply Pick.app))) | apply Sup.app | apply Sup.skip | apply Sup.skips)))
    have h8 := (h9.own_take (k := ns.length) (by omega)).pick (Pick.tail Pick.head)
    have h7 := h8.own_take (k := ts.length) (by omega)
    rw [List.take_append_of_le_length (by rw [strs_length]; omega), List.take_append_of_le_length (by rw [strs_length]; omega), List.take_of_length_le (by rw [strs_length]; omega), List.take_of_length_le (by rw [strs_length]; omega)] at h7
    exact h7.sup (by (repeat (first | exact Sup.refl | apply Sup.cons (by (repeat (first | exact Pick.head | apply Pick.tail | apply Pick.app))) | apply Sup.app | apply Sup.skip | apply Sup.skips)))) ?_
  refine J.region ?_
  refine JL.step (y_loadN hT rfl rfl rfl (RdN.rowAll (by (repeat (first | exact Pick.head | apply Pick.tail | apply Pick.app)))) hcl2) rfl rfl rfl ?_
  refine JL.loud rfl (l_storeAll hT rfl rfl rfl hcl2 hone2 (Pick.tail Pick.head) (by (first | rfl | assumption | (simp; done) | omega)) ?_)
  refine JL.nil ?_
  refine JE.then_normal ?_
  refine J.ret ?_
  refine JE.ret1 (.inl rfl) rfl rfl (by (first | exact RV.tmp rfl | exact RV.cell1 hT rfl rfl rfl (by (exact Rd1.row (by (repeat (first | exact Pick.head | apply Pick.tail | apply Pick.app))) (by rfl))) | exact RV.cellN hT rfl rfl rfl (by (first | exact RdN.rowAll (by (repeat (first | exact Pick.head | apply Pick.tail | apply Pick.app))) | exact RdN.own (by (repeat (first | exact Pick.head | apply Pick.tail | apply Pick.app))))) (by (first | rfl | assumption | (simp; done) | omega)))) ?_
  rw [← hcs2, hS, hSn, hSt]
  exact ⟨_, fun w h => h.sup (by (repeat (first | exact Sup.refl | apply Sup.cons (by (repeat (first | exact Pick.head | apply Pick.tail | apply Pick.app))) | apply Sup.app | apply Sup.skip | apply Sup.skips))), _, _, _, _, rfl, rfl⟩
end
end
section
open Go Go.SL
section
theorem name_bys {w : List Int} (h : nameB w = true) : Bys w := by
  unfold nameB at h
  rw [Bool.and_eq_true, Bool.and_eq_true] at h
  intro x hx
  have h1 := List.all_eq_true.1 h.1.1 x hx
  unfold nmB at h1
  simp only [Bool.or_eq_true, Bool.and_eq_true, decide_eq_true_eq] at h1
  omega
theorem text_bys {t : List Int} (h : textB t = true) : Bys t := by
  have h1 := (text_any h).1
  intro x hx
  have h2 : oddB x = false := by
    rw [Bool.eq_false_iff]
    intro q
    rw [List.any_eq_true.2 ⟨x, hx, q⟩] at h1
    cases h1
  unfold oddB at h2
  simp only [Bool.or_eq_false_iff, decide_eq_false_iff_not] at h2
  omega
theorem R64i.zero : R64i 0 := ⟨by decide, by decide⟩
theorem okN_natQ {z : Int} (h : okN z = true) : 0 ≤ z ∧ z ≤ 999999999 ∧ True := by
  unfold okN at h
  rw [Bool.and_eq_true] at h
  exact ⟨of_decide_eq_true h.1, of_decide_eq_true h.2, trivial⟩
theorem R64i.ofOk {z : Int} (h : okN z = true) : R64i z := by
  obtain ⟨h1, h2, _⟩ := okN_natQ h
  exact ⟨by omega, by omega⟩
/-- What may be is small. -/
theorem right_b {r : RpT} (hk : r.key.length = 32) (hB : Bys r.key) (h : rightB r = true) : RpB r := by
  have hnil : ∀ t ∈ ([] : List (List Int)), Bys t ∧ t.length ≤ 1000 := fun _ q => by cases q
  have base : r.names.length ≤ 100 ∧ r.texts.length ≤ 100 ∧ (∀ t ∈ r.names, Bys t ∧ t.length ≤ 1000) ∧ (∀ t ∈ r.texts, Bys t ∧ t.length ≤ 1000) ∧ R64i r.seq ∧ R64i r.out ∧ R64i r.acked ∧ R64i r.inn := by
    rcases right_kind h with k | k | k | k | k | k | k | k
    · rw [right_1 k h]; exact ⟨by simp, by simp, hnil, hnil, R64i.zero, R64i.zero, R64i.zero, R64i.zero⟩
    · rw [right_26 (.inl k) h]; exact ⟨by simp, by simp, hnil, hnil, R64i.zero, R64i.zero, R64i.zero, R64i.zero⟩
    · obtain ⟨e, h1, _, h3⟩ := right_3 k h
      have hn : ∀ t ∈ r.names, Bys t ∧ t.length ≤ 1000 := fun t ht => ⟨name_bys (List.all_eq_true.1 h1 t ht), by have := name_len (List.all_eq_true.1 h1 t ht); omega⟩
      rw [e]; exact ⟨by dsimp only; omega, by simp, hn, hnil, R64i.zero, R64i.zero, R64i.zero, R64i.zero⟩
    · obtain ⟨e, h1⟩ := right_4 k h
      have := R64i.ofOk h1
      rw [e]; exact ⟨by simp, by simp, hnil, hnil, this, R64i.zero, R64i.zero, R64i.zero⟩
    · obtain ⟨e, h1, h2⟩ := right_5 k h
      have hn : ∀ t ∈ r.texts, Bys t ∧ t.length ≤ 1000 := fun t ht => ⟨text_bys (List.all_eq_true.1 h1 t ht), by have := (text_any (List.all_eq_true.1 h1 t ht)).2; omega⟩
      rw [e]; exact ⟨by simp, by dsimp only; omega, hnil, hn, R64i.zero, R64i.zero, R64i.zero, R64i.zero⟩
    · rw [right_26 (.inr k) h]; exact ⟨by simp, by simp, hnil, hnil, R64i.zero, R64i.zero, R64i.zero, R64i.zero⟩
    · obtain ⟨e, h1, h2, h3⟩ := right_7 k h
      have a1 := R64i.ofOk h1
      have a2 := R64i.ofOk h2
      have a3 := R64i.ofOk h3
      rw [e]; exact ⟨by simp, by simp, hnil, hnil, R64i.zero, a1, a2, a3⟩
    · obtain ⟨e, _⟩ := right_8 k h
      rw [e]; exact ⟨by simp, by simp, hnil, hnil, R64i.zero, R64i.zero, R64i.zero, R64i.zero⟩
  obtain ⟨h1, h2, h3, h4, h5, h6, h7, h8⟩ := base
  exact ⟨hk, hB, h1, h2, h3, h4, h5, h6, h7, h8⟩
theorem replyF_key {w rest : List Int} {m : Bool} {r : RpT} (h : replyF w rest m = some r) : r.key = zer32 ∨ ∃ q, keyB q = true ∧ r.key = keyV q := by
  unfold replyF at h
  split at h
  · cases h; exact .inl rfl
  · split at h
    · cases h; exact .inl rfl
    · split at h
      · split at h
        · rename_i q; cases h; exact .inr ⟨_, q, rfl⟩
        · cases h
      · split at h
        · cases hc : conF rest with
          | none => rw [hc] at h; cases h
          | some ns => rw [hc] at h; cases h; exact .inl rfl
        · split at h
          · split at h
            · cases h; exact .inl rfl
            · cases h
          · split at h
            · cases hc : inboxF rest with
              | none => rw [hc] at h; cases h
              | some ns => rw [hc] at h; cases h; exact .inl rfl
            · split at h
              · split at h
                · split at h
                  · cases h; exact .inl rfl
                  · cases h
                · cases h
              · split at h
                · split at h
                  · cases h; exact .inl rfl
                  · cases h
                · cases h
theorem repF_key {xs : List Int} {r : RpT} (h : repF xs = some r) : r.key.length = 32 ∧ Bys r.key := by
  unfold repF at h
  split at h
  · cases h
  · rcases replyF_key h with e | ⟨q, h1, e⟩
    · rw [e]; exact ⟨rfl, zer32_bys⟩
    · rw [e]; exact ⟨kst_length _ _, keyV_bys h1⟩
theorem repR_b (xs : List Int) : RpB (repR xs) := by
  unfold repR
  cases h : repF xs with
  | none => exact ⟨rfl, zer32_bys, by simp [rp0], by simp [rp0], fun _ q => by simp [rp0] at q, fun _ q => by simp [rp0] at q, R64i.zero, R64i.zero, R64i.zero, R64i.zero⟩
  | some r =>
    obtain ⟨h1, h2⟩ := repF_key h
    exact right_b h1 h2 (repF_line h).1
theorem cutL_idem (ns : List (List Int)) : cutL (cutL ns) = cutL ns := by
  have h9 := cutL_length ns
  conv => lhs; unfold cutL
  rw [show ((ns.take 9).map fun s => s.take 700) = cutL ns from rfl] 
  rw [List.take_of_length_le h9]
  unfold cutL
  rw [List.map_map]
  refine List.map_congr_left fun x _ => ?_
  show (x.take 700).take 700 = _
  rw [List.take_take, Nat.min_self]
theorem shortR_idem (r : RpT) : shortR (shortR r) = shortR r := by
  unfold shortR
  dsimp only
  rw [cutL_idem, cutL_idem]
theorem shortR_b {r : RpT} (hk : r.key.length = 32) (hkb : Bys r.key) (hn : ∀ t ∈ r.names, Bys t) (ht : ∀ t ∈ r.texts, Bys t) (h1 : R64i r.seq) (h2 : R64i r.out) (h3 : R64i r.acked) (h4 : R64i r.inn) : RpB (shortR r) :=
  ⟨hk, hkb, by have := cutL_length r.names; unfold shortR; dsimp only; omega, by have := cutL_length r.texts; unfold shortR; dsimp only; omega,
    fun t q => by have := cutL_mem hn t q; exact ⟨this.1, by omega⟩, fun t q => by have := cutL_mem ht t q; exact ⟨this.1, by omega⟩, h1, h2, h3, h4⟩
end
end
section
open Go Go.SL
section
end
section
attribute [local irreducible] J JL JE JM LS Y Fc RV Code.wp wpList Code.wpIn wpListIn
attribute [local irreducible] Yc strOf valD dig
variable (E : World)
end
end
section
open Go Go.SL
section
end
section
attribute [local irreducible] J JL JE JM LS Y Fc RV Code.wp wpList Code.wpIn wpListIn
attribute [local irreducible] Yc strOf valD dig
variable (E : World)
end
end
section
open Go Go.SL
section
end
section
attribute [local irreducible] J JL JE JM LS Y Fc RV Code.wp wpList Code.wpIn wpListIn
attribute [local irreducible] Yc strOf valD dig
variable (E : World)
end
end
section
open Go Go.SL
section
/-- The digits that are written behind the rest m of n. -/
def digS (n m : Nat) (s : List Int) : Prop := (s = [] ∧ m = n) ∨ (s ≠ [] ∧ m = 0 ∧ s = dig n) ∨ (s ≠ [] ∧ 0 < m ∧ dig m ++ s = dig n)
theorem digS_step {n m : Nat} {s : List Int} (h : digS n m s) (hg : 0 < m ∨ s = []) : digS n (m / 10) ((48 + (m % 10 : Nat) : Int) :: s) := by
  have hm : (m = 0 ∧ n = 0 ∧ s = []) ∨ (dig m ++ s = dig n) := by
    rcases h with ⟨rfl, rfl⟩ | ⟨h1, h2, _⟩ | ⟨_, _, h3⟩
    · right; rw [List.append_nil]
    · rcases hg with q | q
      · omega
      · exact absurd q h1
    · exact .inr h3
  have hm : dig m ++ s = dig n := by
    rcases hm with ⟨rfl, rfl, rfl⟩ | q
    · rw [List.append_nil]
    · exact q
  rcases dig_step m with ⟨h1, h2⟩ | ⟨h1, h2⟩
  · refine .inr (.inl ⟨by simp, by omega, ?_⟩)
    rw [← hm, h2, show m % 10 = m by omega]
    rfl
  · refine .inr (.inr ⟨by simp, by omega, ?_⟩)
    rw [← hm, h2, List.append_assoc, show ((m % 10 : Nat) : Int) = (m : Int) % 10 by omega]
    rfl
theorem digS_end {n m : Nat} {s : List Int} (h : digS n m s) (h1 : ¬ 0 < m) (h2 : ¬ s = []) : s = dig n := by
  rcases h with ⟨q, _⟩ | ⟨_, _, q⟩ | ⟨_, q, _⟩
  · exact absurd q h2
  · exact q
  · exact absurd q h1
theorem digS_len {n m : Nat} {s : List Int} (h : digS n m s) (hn : n < 10 ^ 19) : s.length ≤ 19 ∧ m ≤ n := by
  have hl := dig_le hn (by decide)
  rcases h with ⟨rfl, rfl⟩ | ⟨_, rfl, rfl⟩ | ⟨_, _, q⟩
  · exact ⟨by simp, Nat.le_refl _⟩
  · exact ⟨hl, by omega⟩
  · rw [← q, List.length_append] at hl
    refine ⟨by omega, ?_⟩
    have h1 := valD_dig n
    rw [← q] at h1
    have h2 : ∀ (xs : List Int) (ys : List Int), valD xs ≤ valD (xs ++ ys) := by
      intro xs ys
      refine snoc_rec (C := fun ys => valD xs ≤ valD (xs ++ ys)) (by rw [List.append_nil]; exact Nat.le_refl _) (fun ys y ih => ?_) ys
      rw [← List.append_assoc, valD_snoc]
      omega
    have h3 := h2 (dig m) s
    rw [valD_dig] at h3
    omega
theorem digS_bys {n m : Nat} {s : List Int} (h : digS n m s) : Bys s := by
  rcases h with ⟨rfl, _⟩ | ⟨_, _, rfl⟩ | ⟨_, _, q⟩
  · exact Bys.nil
  · exact dig_bys n
  · exact fun x hx => dig_bys n x (by rw [← q]; exact List.mem_append_right _ hx)
end
section
attribute [local irreducible] J JL JE JM LS Y Fc RV Code.wp wpList Code.wpIn wpListIn
attribute [local irreducible] Yc strOf valD dig
variable (E : World)
theorem rdigN_spec (n : Nat) (l : List HProp) (hn : n ≤ 9223372036854775807) : Fc prog E 50 [.int .i64 n].toArray l (fun v l' => v = .string (strOf (dig n)) ∧ l' = l) := by
  refine Fc.eqs ?_
  have e0 : strOf [] = ⟨#[]⟩ := by unfold strOf; rfl
  refine Fc.of_body (c := ?codeC) Tryz.func50 ?hb Tryz.ntmps50 ?hl ?_
  case hb => exact rfl
  case hl => exact rfl
  refine J.seq ?_
  refine J.region ?_
  refine JL.step (y_assign rfl) rfl rfl rfl ?_
  refine JL.nil ?_
  refine JE.then_normal ?_
  refine J.seq ?_
  refine J.region ?_
  refine JL.step (y_assign rfl) rfl rfl rfl ?_
  refine JL.nil ?_
  refine JE.then_normal ?_
  refine J.seq ?_
  refine J.block ?_
  refine J.loop (α := Nat × List Int) (fun s => digS n s.1 s.2) (fun s => [(0, .int .i64 (s.1 : Int)), (3, .string (strOf s.2))]) (fun _ => l) (fun s => s.1 + (if s.2 = [] then 1 else 0)) (n, []) (.inl ⟨rfl, rfl⟩) ⟨rfl, by rw [e0]; rfl, trivial⟩ (fun w h => h) ?_
  rintro ⟨m, s⟩ hS
  dsimp only at hS ⊢
  obtain ⟨hsl, hmn⟩ := digS_len hS (by omega)
  refine J.seq ?_
  refine J.seq ?_
  obtain ⟨bs, hbs⟩ : ∃ b, b = decide (s = []) := ⟨_, rfl⟩
  obtain ⟨bm, hbm⟩ : ∃ b, b = decide ((0 : Int) < (m : Int)) := ⟨_, rfl⟩
  refine J.region ?_
  refine JL.step (y_move rfl) rfl rfl rfl ?_
  refine JL.step (y_gtrB (b := bm) rfl rfl hbm.symm) rfl rfl rfl ?_
  refine JL.step (y_move rfl) rfl rfl rfl ?_
  all_goals (first | (refine JL.gsplit_dec rfl rfl rfl (fun h => ?_) (fun h => ?_) <;> try (first | (exfalso; omega) | exact absurd rfl h)) | (refine JL.gsplit rfl rfl rfl (fun h => ?_) (fun h => ?_) <;> try (first | cases h | (exfalso; simp at h; done))) | skip)
  all_goals (first | refine JL.gskip rfl rfl rfl rfl rfl rfl ?_ | refine JL.gskipU rfl rfl rfl rfl rfl ?_ | refine JL.gstep rfl rfl rfl (y_move rfl) rfl rfl ?_)
  all_goals (first | refine JL.gskip rfl rfl rfl rfl rfl rfl ?_ | refine JL.gskipU rfl rfl rfl rfl rfl ?_ | refine JL.gstep rfl rfl rfl (y_eqS (ys := []) (digS_bys hS) Bys.nil rfl (by rw [e0]; rfl) hbs) rfl rfl ?_)
  all_goals (refine JL.step (y_pick rfl rfl rfl) rfl rfl rfl ?_)
  all_goals refine JL.nil ?_
  all_goals refine JE.then_normal ?_
  all_goals
    first | apply J.cond_dec rfl | apply J.cond rfl
    case' ht =>
      intro h
      try (first | (exfalso; omega) | (cases h; done) | (exfalso; simp at h; done) | subst h)
      all_goals
        refine J.skip ?_
    case' hf =>
      intro h
      try (first | (exfalso; omega) | (cases h; done) | (exfalso; simp at h; done) | subst h)
      all_goals
        refine J.exit ?_
        refine JE.then_exit ?_
        refine JE.then_exit ?_
        refine JE.block_exit ?_
        refine JE.then_normal ?_
        refine J.seq ?_
        refine J.region ?_
        refine JL.step (y_move rfl) rfl rfl rfl (JL.step (y_assign rfl) rfl rfl rfl ?_)
        refine JL.nil ?_
        refine JE.then_normal ?_
        refine J.ret ?_
        refine JE.ret1 (.inl rfl) rfl rfl (by (first | exact RV.tmp rfl | exact RV.cell1 hT rfl rfl rfl (by (exact Rd1.row (by (repeat (first | exact Pick.head | apply Pick.tail | apply Pick.app))) (by rfl))) | exact RV.cellN hT rfl rfl rfl (by (first | exact RdN.rowAll (by (repeat (first | exact Pick.head | apply Pick.tail | apply Pick.app))) | exact RdN.own (by (repeat (first | exact Pick.head | apply Pick.tail | apply Pick.app))))) (by (first | rfl | assumption | (simp; done) | omega)))) ?_
        have hm0 : ¬ 0 < m := by
          first | omega | (simp_all; done) | (simp_all; omega)
        have hs0 : ¬ s = [] := by
          first | (simp_all; done) | (intro q; simp_all; done)
        rw [digS_end hS hm0 hs0]
        exact ⟨rfl, fun w h => h⟩
  all_goals refine JE.then_normal ?_
  all_goals
    refine J.block ?_
    refine J.seq ?_
    have hg : 0 < m ∨ s = [] := by
      by_cases q1 : s = []
      · exact .inr q1
      · left
        first | omega | (simp_all; done) | (simp_all; omega)
    have hd10 : (48 + (m % 10 : Nat) : Int) ≤ 57 := by omega
    refine J.region ?_
    refine JL.step (y_move rfl) rfl rfl rfl ?_
    refine JL.step (y_rem (m := ((m % 10 : Nat) : Int)) rfl rfl (by decide) rfl) rfl rfl rfl ?_
    refine JL.step (y_add (m := (48 + (m % 10 : Nat) : Int)) rfl rfl (wrap_i64 (by omega) (by omega))) rfl rfl rfl ?_
    refine JL.step (y_conv (m := (48 + (m % 10 : Nat) : Int)) hT rfl rfl rfl rfl (by rw [IntKind.wrap_i32]; omega)) rfl rfl rfl ?_
    refine JL.step (y_convRune hT rfl rfl rfl rfl (by omega) (by omega)) rfl rfl rfl ?_
    refine JL.step (y_move rfl) rfl rfl rfl ?_
    refine JL.step (y_addS (zs := (48 + (m % 10 : Nat) : Int) :: s) rfl rfl rfl (by rw [List.length_singleton]; omega)) rfl rfl rfl ?_
    refine JL.step (y_assign rfl) rfl rfl rfl ?_
    refine JL.nil ?_
    refine JE.then_normal ?_
    refine J.region ?_
    refine JL.step (y_move rfl) rfl rfl rfl ?_
    refine JL.step (y_quo (m := ((m / 10 : Nat) : Int)) rfl rfl (by decide) (by show IntKind.i64.wrap ((m / 10 : Nat) : Int) = _; exact wrap_i64 (by omega) (by omega))) rfl rfl rfl ?_
    refine JL.step (y_assign rfl) rfl rfl rfl ?_
    refine JL.nil ?_
    refine JE.block_normal ?_
  all_goals
    exact JE.round (s := (m, s)) (m / 10, (48 + (m % 10 : Nat) : Int) :: s) (digS_step hS hg) ⟨rfl, rfl, trivial⟩ (fun w h => h) (by
      dsimp only
      rw [if_neg (by simp)]
      rcases hg with q | q
      · split <;> omega
      · rw [if_pos q]; omega)
end
end
section
open Go Go.SL
section
theorem joinW_snoc (w : List Int) (ws : List (List Int)) (x : List Int) : joinW (w :: (ws ++ [x])) = joinW (w :: ws) ++ 32 :: x := by
  show w ++ (ws ++ [x]).flatMap _ = (w ++ ws.flatMap _) ++ _
  rw [List.flatMap_append, List.append_assoc]
  simp
theorem okN_nat {z : Int} (h : okN z = true) : z = (z.toNat : Int) ∧ z.toNat ≤ 999999999 ∧ numT z = dig z.toNat := by
  unfold okN at h
  rw [Bool.and_eq_true] at h
  have h1 := of_decide_eq_true h.1
  have h2 := of_decide_eq_true h.2
  refine ⟨by omega, by omega, ?_⟩
  unfold numT
  rw [if_neg (by omega)]
end
section
attribute [local irreducible] J JL JE JM LS Y Fc RV Code.wp wpList Code.wpIn wpListIn
attribute [local irreducible] Yc strOf valD dig
variable (E : World)
theorem rprintR_spec (r : RpT) (p1 : Option Addr) (c1 : Nat) (p2 : Option Addr) (c2 : Nat) (l : List HProp) (hr : RpB r) (hri : rightB r = true) (h1 : InL l p1 r.names.length c1 (strs r.names)) (h2 : InL l p2 r.texts.length c2 (strs r.texts)) :
    Fc prog E 20 [.agg (rpE r (.slice p1 r.names.length c1) (.slice p2 r.texts.length c2)).toArray].toArray l (fun v l' => v = .string (strOf (lineR r)) ∧ l' = l) := by
  refine Fc.eqs ?_
  obtain ⟨cs, hcs⟩ : ∃ cs, rpE r (.slice p1 r.names.length c1) (.slice p2 r.texts.length c2) = cs := ⟨_, rfl⟩
  have hat := rp_at hr.key (.slice p1 r.names.length c1) (.slice p2 r.texts.length c2)
  have hky := rp_key hr.key (.slice p1 r.names.length c1) (.slice p2 r.texts.length c2)
  have hk0 : cs[0]? = some (.int .i64 r.kind) := by rw [← hcs]; rfl
  have hkind := right_kind hri
  have hnl := hr.names
  have htl := hr.texts
  have hin : ∀ (b : Nat) (m : List HProp), InL (row b 36 cs :: m) (some ⟨b, 1, none⟩) 32 32 (ints .u8 r.key) := fun b m => ⟨Nat.le_refl _, by unfold maxLen; omega, .inl ⟨b, 1, rfl, fun m => RdN.row (n := 32) (Pick.app m Pick.head) (hcs ▸ hky)⟩⟩
  have hx64 : (hexT r.key).length = 64 := by rw [hexT_length, hr.key]
  have hdn := dig_le (u := r.names.length) (k := 19) (by omega) (by decide)
  have hdt := dig_le (u := r.texts.length) (k := 19) (by omega) (by decide)
  have kS : strOf [32] = ⟨#[32]⟩ := by unfold strOf; rfl
  have kMe : strOf (wMe ++ [32]) = ⟨#[109, 101, 32]⟩ := by unfold strOf; rfl
  have kCo : strOf (wContacts ++ [32]) = ⟨#[99, 111, 110, 116, 97, 99, 116, 115, 32]⟩ := by unfold strOf; rfl
  have kQu : strOf (wQueued ++ [32]) = ⟨#[113, 117, 101, 117, 101, 100, 32]⟩ := by unfold strOf; rfl
  have kIn : strOf (wInbox ++ [32]) = ⟨#[105, 110, 98, 111, 120, 32]⟩ := by unfold strOf; rfl
  have kSt : strOf (wStatus ++ [32]) = ⟨#[115, 116, 97, 116, 117, 115, 32]⟩ := by unfold strOf; rfl
  have kEr : strOf (wError ++ [32]) = ⟨#[101, 114, 114, 111, 114, 32]⟩ := by unfold strOf; rfl
  have kAd : strOf wAdded = ⟨#[97, 100, 100, 101, 100]⟩ := by unfold strOf; rfl
  have kPu : strOf wPurged = ⟨#[112, 117, 114, 103, 101, 100]⟩ := by unfold strOf; rfl
  rw [hcs] at hat
  rw [hcs]
  refine Fc.of_body (c := ?codeC) Tryz.func20 ?hb Tryz.ntmps20 ?hl ?_
  case hb => exact rfl
  case hl => exact rfl
  refine J.seq ?_
  refine J.region ?_
  refine JL.loud rfl (l_box (cs := cs) rfl rfl rfl (fun b1 => ?_))
  refine JL.step (y_assign rfl) rfl rfl rfl ?_
  refine JL.nil ?_
  refine JE.then_normal ?_
  refine J.seq ?_
  refine J.seq ?_
  refine J.region ?_
  refine JL.step (y_fieldAddr hT rfl rfl rfl rfl rfl rfl) rfl rfl rfl ?_
  refine JL.step (v := .int .i64 r.kind) (y_load1 hT rfl rfl rfl (Rd1.row (by (repeat (first | exact Pick.head | apply Pick.tail | apply Pick.app))) hk0)) rfl rfl rfl ?_
  refine JL.nil ?_
  refine JE.then_normal ?_
  refine J.block ?_
  refine J.seq ?_
  refine J.region ?_
  refine JL.step (y_eql rfl rfl) rfl rfl rfl (JL.step (y_assign rfl) rfl rfl rfl ?_)
  refine JL.nil ?_
  refine JE.then_normal ?_
  first | apply J.cond_dec rfl | apply J.cond rfl
  case' ht =>
    intro h
    try (first | (exfalso; omega) | (cases h; done) | (exfalso; simp at h; done) | subst h)
    all_goals
      refine J.seq ?_
      refine J.region ?_
      refine JL.step (y_fieldAddr hT rfl rfl rfl rfl rfl rfl) rfl rfl rfl ?_
      refine JL.step (y_slice_arr hT rfl rfl rfl rfl (.inl ⟨rfl, rfl⟩) (.inl ⟨rfl, rfl⟩) (by (first | omega | exact Nat.le_of_ble_eq_true rfl | decide | (simp; omega))) (by (first | omega | exact Nat.le_of_ble_eq_true rfl | decide | (simp; omega)))) rfl rfl rfl ?_
      refine JL.loud rfl (l_callF e49 rfl rfl (rdigits_spec E (some ⟨b1, 1, none⟩) 32 32 r.key _ hr.key (by omega) hr.kb (hin b1 _)) ?_)
      rintro _ _ ⟨rfl, rfl⟩
      refine JL.step (y_addS (xs := wMe ++ [32]) (zs := wMe ++ 32 :: hexT r.key) (by rw [kMe]; rfl) rfl (by rw [List.append_assoc]; rfl) (by have : (wMe ++ [32]).length = 3 := rfl; omega)) rfl rfl rfl ?_
      refine JL.step (y_assign rfl) rfl rfl rfl ?_
      refine JL.nil ?_
      refine JE.then_normal ?_
      refine J.ret ?_
      refine JE.block_ret ?_
      refine JE.then_ret ?_
      refine JE.ret1 (.inl rfl) rfl rfl (by (first | exact RV.tmp rfl | exact RV.cell1 hT rfl rfl rfl (by (exact Rd1.row (by (repeat (first | exact Pick.head | apply Pick.tail | apply Pick.app))) (by rfl))) | exact RV.cellN hT rfl rfl rfl (by (first | exact RdN.rowAll (by (repeat (first | exact Pick.head | apply Pick.tail | apply Pick.app))) | exact RdN.own (by (repeat (first | exact Pick.head | apply Pick.tail | apply Pick.app))))) (by (first | rfl | assumption | (simp; done) | omega)))) ?_
      first
      | (have hk1 : r.kind = 1 := by omega
         have e : lineR r = wMe ++ 32 :: hexT r.key := by unfold lineR printW; rw [if_pos hk1, joinW_two, joinW_one]
         rw [e]
         exact ⟨rfl, fun w h => h.sup (by (repeat (first | exact Sup.refl | apply Sup.cons (by (repeat (first | exact Pick.head | apply Pick.tail | apply Pick.app))) | apply Sup.app | apply Sup.skip | apply Sup.skips)))⟩)
      | (have hk1 : r.kind = 2 := by omega
         have e : lineR r = wAdded := by unfold lineR printW; rw [if_neg (by omega), if_pos hk1, joinW_one]
         rw [e, kAd]
         exact ⟨rfl, fun w h => h.sup (by (repeat (first | exact Sup.refl | apply Sup.cons (by (repeat (first | exact Pick.head | apply Pick.tail | apply Pick.app))) | apply Sup.app | apply Sup.skip | apply Sup.skips)))⟩)
      | (have hk1 : r.kind = 6 := by omega
         have e : lineR r = wPurged := by unfold lineR printW; rw [if_neg (by omega), if_neg (by omega), if_neg (by omega), if_neg (by omega), if_neg (by omega), if_pos hk1, joinW_one]
         rw [e, kPu]
         exact ⟨rfl, fun w h => h.sup (by (repeat (first | exact Sup.refl | apply Sup.cons (by (repeat (first | exact Pick.head | apply Pick.tail | apply Pick.app))) | apply Sup.app | apply Sup.skip | apply Sup.skips)))⟩)
      | (have hk1 : r.kind = 3 := by omega
         obtain rfl : i = r.names.length := by omega
         have e : lineR r = joinW (wContacts :: dig r.names.length :: r.names.take r.names.length) := by unfold lineR printW; rw [if_neg (by omega), if_neg (by omega), if_pos hk1, numT_nat, List.take_length]
         rw [e]
         exact ⟨rfl, fun w h => h.sup (by (repeat (first | exact Sup.refl | apply Sup.cons (by (repeat (first | exact Pick.head | apply Pick.tail | apply Pick.app))) | apply Sup.app | apply Sup.skip | apply Sup.skips)))⟩)
      | (have hk1 : r.kind = 4 := by omega
         have e : lineR r = joinW [wQueued, dig r.seq.toNat] := by unfold lineR printW; rw [if_neg (by omega), if_neg (by omega), if_neg (by omega), if_pos hk1, z3]
         rw [e]
         exact ⟨rfl, fun w h => h.sup (by (repeat (first | exact Sup.refl | apply Sup.cons (by (repeat (first | exact Pick.head | apply Pick.tail | apply Pick.app))) | apply Sup.app | apply Sup.skip | apply Sup.skips)))⟩)
      | (have hk1 : r.kind = 5 := by omega
         obtain rfl : i = r.texts.length := by omega
         have e : lineR r = joinW (wInbox :: dig r.texts.length :: (r.texts.take r.texts.length).map quoT) := by unfold lineR printW; rw [if_neg (by omega), if_neg (by omega), if_neg (by omega), if_neg (by omega), if_pos hk1, numT_nat, List.take_length]
         rw [e]
         exact ⟨rfl, fun w h => h.sup (by (repeat (first | exact Sup.refl | apply Sup.cons (by (repeat (first | exact Pick.head | apply Pick.tail | apply Pick.app))) | apply Sup.app | apply Sup.skip | apply Sup.skips)))⟩)
      | (have hk1 : r.kind = 7 := by omega
         have e : lineR r = joinW [wStatus, dig r.out.toNat, dig r.acked.toNat, dig r.inn.toNat] := by unfold lineR printW; rw [if_neg (by omega), if_neg (by omega), if_neg (by omega), if_neg (by omega), if_neg (by omega), if_neg (by omega), if_pos hk1, a3, b3', c3']
         rw [e]
         exact ⟨rfl, fun w h => h.sup (by (repeat (first | exact Sup.refl | apply Sup.cons (by (repeat (first | exact Pick.head | apply Pick.tail | apply Pick.app))) | apply Sup.app | apply Sup.skip | apply Sup.skips)))⟩)
      | (have hk1 : r.kind = 8 := by omega
         have e : lineR r = joinW [wError, (wordF r.err).1] := by unfold lineR printW; rw [if_neg (by omega), if_neg (by omega), if_neg (by omega), if_neg (by omega), if_neg (by omega), if_neg (by omega), if_neg (by omega), if_pos hk1]
         rw [e]
         exact ⟨rfl, fun w h => h.sup (by (repeat (first | exact Sup.refl | apply Sup.cons (by (repeat (first | exact Pick.head | apply Pick.tail | apply Pick.app))) | apply Sup.app | apply Sup.skip | apply Sup.skips)))⟩)
  case' hf =>
    intro h
    try (first | (exfalso; omega) | (cases h; done) | (exfalso; simp at h; done) | subst h)
    all_goals
      refine J.seq ?_
      refine J.region ?_
      refine JL.step (y_eql rfl rfl) rfl rfl rfl (JL.step (y_assign rfl) rfl rfl rfl ?_)
      refine JL.nil ?_
      refine JE.then_normal ?_
      first | apply J.cond_dec rfl | apply J.cond rfl
      case' ht =>
        intro h
        try (first | (exfalso; omega) | (cases h; done) | (exfalso; simp at h; done) | subst h)
        all_goals
          refine J.seq ?_
          refine J.region ?_
          refine JL.step (y_assign rfl) rfl rfl rfl ?_
          refine JL.nil ?_
          refine JE.then_normal ?_
          refine J.ret ?_
          refine JE.block_ret ?_
          refine JE.then_ret ?_
          refine JE.ret1 (.inl rfl) rfl rfl (by (first | exact RV.tmp rfl | exact RV.cell1 hT rfl rfl rfl (by (exact Rd1.row (by (repeat (first | exact Pick.head | apply Pick.tail | apply Pick.app))) (by rfl))) | exact RV.cellN hT rfl rfl rfl (by (first | exact RdN.rowAll (by (repeat (first | exact Pick.head | apply Pick.tail | apply Pick.app))) | exact RdN.own (by (repeat (first | exact Pick.head | apply Pick.tail | apply Pick.app))))) (by (first | rfl | assumption | (simp; done) | omega)))) ?_
          first
          | (have hk1 : r.kind = 1 := by omega
             have e : lineR r = wMe ++ 32 :: hexT r.key := by unfold lineR printW; rw [if_pos hk1, joinW_two, joinW_one]
             rw [e]
             exact ⟨rfl, fun w h => h.sup (by (repeat (first | exact Sup.refl | apply Sup.cons (by (repeat (first | exact Pick.head | apply Pick.tail | apply Pick.app))) | apply Sup.app | apply Sup.skip | apply Sup.skips)))⟩)
          | (have hk1 : r.kind = 2 := by omega
             have e : lineR r = wAdded := by unfold lineR printW; rw [if_neg (by omega), if_pos hk1, joinW_one]
             rw [e, kAd]
             exact ⟨rfl, fun w h => h.sup (by (repeat (first | exact Sup.refl | apply Sup.cons (by (repeat (first | exact Pick.head | apply Pick.tail | apply Pick.app))) | apply Sup.app | apply Sup.skip | apply Sup.skips)))⟩)
          | (have hk1 : r.kind = 6 := by omega
             have e : lineR r = wPurged := by unfold lineR printW; rw [if_neg (by omega), if_neg (by omega), if_neg (by omega), if_neg (by omega), if_neg (by omega), if_pos hk1, joinW_one]
             rw [e, kPu]
             exact ⟨rfl, fun w h => h.sup (by (repeat (first | exact Sup.refl | apply Sup.cons (by (repeat (first | exact Pick.head | apply Pick.tail | apply Pick.app))) | apply Sup.app | apply Sup.skip | apply Sup.skips)))⟩)
          | (have hk1 : r.kind = 3 := by omega
             obtain rfl : i = r.names.length := by omega
             have e : lineR r = joinW (wContacts :: dig r.names.length :: r.names.take r.names.length) := by unfold lineR printW; rw [if_neg (by omega), if_neg (by omega), if_pos hk1, numT_nat, List.take_length]
             rw [e]
             exact ⟨rfl, fun w h => h.sup (by (repeat (first | exact Sup.refl | apply Sup.cons (by (repeat (first | exact Pick.head | apply Pick.tail | apply Pick.app))) | apply Sup.app | apply Sup.skip | apply Sup.skips)))⟩)
          | (have hk1 : r.kind = 4 := by omega
             have e : lineR r = joinW [wQueued, dig r.seq.toNat] := by unfold lineR printW; rw [if_neg (by omega), if_neg (by omega), if_neg (by omega), if_pos hk1, z3]
             rw [e]
             exact ⟨rfl, fun w h => h.sup (by (repeat (first | exact Sup.refl | apply Sup.cons (by (repeat (first | exact Pick.head | apply Pick.tail | apply Pick.app))) | apply Sup.app | apply Sup.skip | apply Sup.skips)))⟩)
          | (have hk1 : r.kind = 5 := by omega
             obtain rfl : i = r.texts.length := by omega
             have e : lineR r = joinW (wInbox :: dig r.texts.length :: (r.texts.take r.texts.length).map quoT) := by unfold lineR printW; rw [if_neg (by omega), if_neg (by omega), if_neg (by omega), if_neg (by omega), if_pos hk1, numT_nat, List.take_length]
             rw [e]
             exact ⟨rfl, fun w h => h.sup (by (repeat (first | exact Sup.refl | apply Sup.cons (by (repeat (first | exact Pick.head | apply Pick.tail | apply Pick.app))) | apply Sup.app | apply Sup.skip | apply Sup.skips)))⟩)
          | (have hk1 : r.kind = 7 := by omega
             have e : lineR r = joinW [wStatus, dig r.out.toNat, dig r.acked.toNat, dig r.inn.toNat] := by unfold lineR printW; rw [if_neg (by omega), if_neg (by omega), if_neg (by omega), if_neg (by omega), if_neg (by omega), if_neg (by omega), if_pos hk1, a3, b3', c3']
             rw [e]
             exact ⟨rfl, fun w h => h.sup (by (repeat (first | exact Sup.refl | apply Sup.cons (by (repeat (first | exact Pick.head | apply Pick.tail | apply Pick.app))) | apply Sup.app | apply Sup.skip | apply Sup.skips)))⟩)
          | (have hk1 : r.kind = 8 := by omega
             have e : lineR r = joinW [wError, (wordF r.err).1] := by unfold lineR printW; rw [if_neg (by omega), if_neg (by omega), if_neg (by omega), if_neg (by omega), if_neg (by omega), if_neg (by omega), if_neg (by omega), if_pos hk1]
             rw [e]
             exact ⟨rfl, fun w h => h.sup (by (repeat (first | exact Sup.refl | apply Sup.cons (by (repeat (first | exact Pick.head | apply Pick.tail | apply Pick.app))) | apply Sup.app | apply Sup.skip | apply Sup.skips)))⟩)
      case' hf =>
        intro h
        try (first | (exfalso; omega) | (cases h; done) | (exfalso; simp at h; done) | subst h)
        all_goals
          refine J.seq ?_
          refine J.region ?_
          refine JL.step (y_eql rfl rfl) rfl rfl rfl (JL.step (y_assign rfl) rfl rfl rfl ?_)
          refine JL.nil ?_
          refine JE.then_normal ?_
          first | apply J.cond_dec rfl | apply J.cond rfl
          case' ht =>
            intro h
            try (first | (exfalso; omega) | (cases h; done) | (exfalso; simp at h; done) | subst h)
            all_goals
              refine J.seq ?_
              refine J.region ?_
              refine JL.step (y_assign rfl) rfl rfl rfl ?_
              refine JL.nil ?_
              refine JE.then_normal ?_
              refine J.ret ?_
              refine JE.block_ret ?_
              refine JE.then_ret ?_
              refine JE.ret1 (.inl rfl) rfl rfl (by (first | exact RV.tmp rfl | exact RV.cell1 hT rfl rfl rfl (by (exact Rd1.row (by (repeat (first | exact Pick.head | apply Pick.tail | apply Pick.app))) (by rfl))) | exact RV.cellN hT rfl rfl rfl (by (first | exact RdN.rowAll (by (repeat (first | exact Pick.head | apply Pick.tail | apply Pick.app))) | exact RdN.own (by (repeat (first | exact Pick.head | apply Pick.tail | apply Pick.app))))) (by (first | rfl | assumption | (simp; done) | omega)))) ?_
              first
              | (have hk1 : r.kind = 1 := by omega
                 have e : lineR r = wMe ++ 32 :: hexT r.key := by unfold lineR printW; rw [if_pos hk1, joinW_two, joinW_one]
                 rw [e]
                 exact ⟨rfl, fun w h => h.sup (by (repeat (first | exact Sup.refl | apply Sup.cons (by (repeat (first | exact Pick.head | apply Pick.tail | apply Pick.app))) | apply Sup.app | apply Sup.skip | apply Sup.skips)))⟩)
              | (have hk1 : r.kind = 2 := by omega
                 have e : lineR r = wAdded := by unfold lineR printW; rw [if_neg (by omega), if_pos hk1, joinW_one]
                 rw [e, kAd]
                 exact ⟨rfl, fun w h => h.sup (by (repeat (first | exact Sup.refl | apply Sup.cons (by (repeat (first | exact Pick.head | apply Pick.tail | apply Pick.app))) | apply Sup.app | apply Sup.skip | apply Sup.skips)))⟩)
              | (have hk1 : r.kind = 6 := by omega
                 have e : lineR r = wPurged := by unfold lineR printW; rw [if_neg (by omega), if_neg (by omega), if_neg (by omega), if_neg (by omega), if_neg (by omega), if_pos hk1, joinW_one]
                 rw [e, kPu]
                 exact ⟨rfl, fun w h => h.sup (by (repeat (first | exact Sup.refl | apply Sup.cons (by (repeat (first | exact Pick.head | apply Pick.tail | apply Pick.app))) | apply Sup.app | apply Sup.skip | apply Sup.skips)))⟩)
              | (have hk1 : r.kind = 3 := by omega
                 obtain rfl : i = r.names.length := by omega
                 have e : lineR r = joinW (wContacts :: dig r.names.length :: r.names.take r.names.length) := by unfold lineR printW; rw [if_neg (by omega), if_neg (by omega), if_pos hk1, numT_nat, List.take_length]
                 rw [e]
                 exact ⟨rfl, fun w h => h.sup (by (repeat (first | exact Sup.refl | apply Sup.cons (by (repeat (first | exact Pick.head | apply Pick.tail | apply Pick.app))) | apply Sup.app | apply Sup.skip | apply Sup.skips)))⟩)
              | (have hk1 : r.kind = 4 := by omega
                 have e : lineR r = joinW [wQueued, dig r.seq.toNat] := by unfold lineR printW; rw [if_neg (by omega), if_neg (by omega), if_neg (by omega), if_pos hk1, z3]
                 rw [e]
                 exact ⟨rfl, fun w h => h.sup (by (repeat (first | exact Sup.refl | apply Sup.cons (by (repeat (first | exact Pick.head | apply Pick.tail | apply Pick.app))) | apply Sup.app | apply Sup.skip | apply Sup.skips)))⟩)
              | (have hk1 : r.kind = 5 := by omega
                 obtain rfl : i = r.texts.length := by omega
                 have e : lineR r = joinW (wInbox :: dig r.texts.length :: (r.texts.take r.texts.length).map quoT) := by unfold lineR printW; rw [if_neg (by omega), if_neg (by omega), if_neg (by omega), if_neg (by omega), if_pos hk1, numT_nat, List.take_length]
                 rw [e]
                 exact ⟨rfl, fun w h => h.sup (by (repeat (first | exact Sup.refl | apply Sup.cons (by (repeat (first | exact Pick.head | apply Pick.tail | apply Pick.app))) | apply Sup.app | apply Sup.skip | apply Sup.skips)))⟩)
              | (have hk1 : r.kind = 7 := by omega
                 have e : lineR r = joinW [wStatus, dig r.out.toNat, dig r.acked.toNat, dig r.inn.toNat] := by unfold lineR printW; rw [if_neg (by omega), if_neg (by omega), if_neg (by omega), if_neg (by omega), if_neg (by omega), if_neg (by omega), if_pos hk1, a3, b3', c3']
                 rw [e]
                 exact ⟨rfl, fun w h => h.sup (by (repeat (first | exact Sup.refl | apply Sup.cons (by (repeat (first | exact Pick.head | apply Pick.tail | apply Pick.app))) | apply Sup.app | apply Sup.skip | apply Sup.skips)))⟩)
              | (have hk1 : r.kind = 8 := by omega
                 have e : lineR r = joinW [wError, (wordF r.err).1] := by unfold lineR printW; rw [if_neg (by omega), if_neg (by omega), if_neg (by omega), if_neg (by omega), if_neg (by omega), if_neg (by omega), if_neg (by omega), if_pos hk1]
                 rw [e]
                 exact ⟨rfl, fun w h => h.sup (by (repeat (first | exact Sup.refl | apply Sup.cons (by (repeat (first | exact Pick.head | apply Pick.tail | apply Pick.app))) | apply Sup.app | apply Sup.skip | apply Sup.skips)))⟩)
          case' hf =>
            intro h
            try (first | (exfalso; omega) | (cases h; done) | (exfalso; simp at h; done) | subst h)
            all_goals
              refine J.seq ?_
              refine J.region ?_
              refine JL.step (y_eql rfl rfl) rfl rfl rfl (JL.step (y_assign rfl) rfl rfl rfl ?_)
              refine JL.nil ?_
              refine JE.then_normal ?_
              first | apply J.cond_dec rfl | apply J.cond rfl
              case' ht =>
                intro h
                try (first | (exfalso; omega) | (cases h; done) | (exfalso; simp at h; done) | subst h)
                all_goals
                  refine J.seq ?_
                  refine J.region ?_
                  refine JL.step (y_fieldAddr hT rfl rfl rfl rfl rfl rfl) rfl rfl rfl ?_
                  refine JL.step (y_load1 hT rfl rfl rfl (Rd1.row (by (repeat (first | exact Pick.head | apply Pick.tail | apply Pick.app))) (hat 0))) rfl rfl rfl ?_
                  refine JL.step (y_len_slice hT rfl rfl rfl) rfl rfl rfl ?_
                  refine JL.loud rfl (l_callF e50 rfl rfl (rdigN_spec E r.names.length _ (by omega)) ?_)
                  rintro _ _ ⟨rfl, rfl⟩
                  refine JL.step (y_addS (xs := wContacts ++ [32]) (zs := joinW [wContacts, dig r.names.length]) (by rw [kCo]; rfl) rfl (by rw [joinW_two, joinW_one, List.append_assoc]; rfl) (by have : (wContacts ++ [32]).length = 9 := rfl; omega)) rfl rfl rfl ?_
                  refine JL.step (y_assign rfl) rfl rfl rfl ?_
                  refine JL.nil ?_
                  refine JE.then_normal ?_
                  refine J.seq ?_
                  refine J.seq ?_
                  refine J.region ?_
                  refine JL.step (y_fieldAddr hT rfl rfl rfl rfl rfl rfl) rfl rfl rfl ?_
                  refine JL.step (y_load1 hT rfl rfl rfl (Rd1.row (by (repeat (first | exact Pick.head | apply Pick.tail | apply Pick.app))) (hat 0))) rfl rfl rfl ?_
                  refine JL.step (y_len_slice hT rfl rfl rfl) rfl rfl rfl (JL.step (y_move rfl) rfl rfl rfl ?_)
                  refine JL.nil ?_
                  refine JE.then_normal ?_
                  refine J.block ?_
                  refine J.loop (α := Nat) (fun i => i ≤ r.names.length) (fun i => [(1, .pointer (some ⟨b1, 0, none⟩)), (3, .string (strOf (joinW (wContacts :: dig r.names.length :: r.names.take i)))), (31, .slice p1 r.names.length c1), (32, .int .i64 r.names.length), (33, .int .i64 i)]) (fun _ => row b1 36 cs :: l) (fun i => r.names.length - i) 0 (Nat.zero_le _) ⟨rfl, rfl, rfl, rfl, rfl, trivial⟩ (fun w h => h) ?_
                  intro i hi
                  try dsimp only
                  have hjl := joinW_le (m := 1000) (ws := wContacts :: dig r.names.length :: r.names.take i) (fun w hw => by
                    rcases List.mem_cons.1 hw with rfl | hw
                    · exact Nat.le_of_ble_eq_true rfl
                    · rcases List.mem_cons.1 hw with rfl | hw
                      · omega
                      · exact (hr.nb w (List.mem_of_mem_take hw)).2)
                  rw [List.length_cons, List.length_cons, List.length_take] at hjl
                  refine J.seq ?_
                  refine J.region ?_
                  refine JL.step (y_lss rfl rfl) rfl rfl rfl ?_
                  refine JL.nil ?_
                  refine JE.then_normal ?_
                  refine J.seq ?_
                  first | apply J.cond_dec rfl | apply J.cond rfl
                  case' ht =>
                    intro h
                    try (first | (exfalso; omega) | (cases h; done) | (exfalso; simp at h; done) | subst h)
                    all_goals
                      refine J.skip ?_
                  case' hf =>
                    intro h
                    try (first | (exfalso; omega) | (cases h; done) | (exfalso; simp at h; done) | subst h)
                    all_goals
                      refine J.exit ?_
                      refine JE.then_exit ?_
                      refine JE.then_exit ?_
                      refine JE.block_exit ?_
                      refine JE.then_normal ?_
                      refine J.seq ?_
                      refine J.region ?_
                      refine JL.step (y_move rfl) rfl rfl rfl (JL.step (y_assign rfl) rfl rfl rfl ?_)
                      refine JL.nil ?_
                      refine JE.then_normal ?_
                      refine J.ret ?_
                      refine JE.block_ret ?_
                      refine JE.then_ret ?_
                      refine JE.ret1 (.inl rfl) rfl rfl (by (first | exact RV.tmp rfl | exact RV.cell1 hT rfl rfl rfl (by (exact Rd1.row (by (repeat (first | exact Pick.head | apply Pick.tail | apply Pick.app))) (by rfl))) | exact RV.cellN hT rfl rfl rfl (by (first | exact RdN.rowAll (by (repeat (first | exact Pick.head | apply Pick.tail | apply Pick.app))) | exact RdN.own (by (repeat (first | exact Pick.head | apply Pick.tail | apply Pick.app))))) (by (first | rfl | assumption | (simp; done) | omega)))) ?_
                      first
                      | (have hk1 : r.kind = 1 := by omega
                         have e : lineR r = wMe ++ 32 :: hexT r.key := by unfold lineR printW; rw [if_pos hk1, joinW_two, joinW_one]
                         rw [e]
                         exact ⟨rfl, fun w h => h.sup (by (repeat (first | exact Sup.refl | apply Sup.cons (by (repeat (first | exact Pick.head | apply Pick.tail | apply Pick.app))) | apply Sup.app | apply Sup.skip | apply Sup.skips)))⟩)
                      | (have hk1 : r.kind = 2 := by omega
                         have e : lineR r = wAdded := by unfold lineR printW; rw [if_neg (by omega), if_pos hk1, joinW_one]
                         rw [e, kAd]
                         exact ⟨rfl, fun w h => h.sup (by (repeat (first | exact Sup.refl | apply Sup.cons (by (repeat (first | exact Pick.head | apply Pick.tail | apply Pick.app))) | apply Sup.app | apply Sup.skip | apply Sup.skips)))⟩)
                      | (have hk1 : r.kind = 6 := by omega
                         have e : lineR r = wPurged := by unfold lineR printW; rw [if_neg (by omega), if_neg (by omega), if_neg (by omega), if_neg (by omega), if_neg (by omega), if_pos hk1, joinW_one]
                         rw [e, kPu]
                         exact ⟨rfl, fun w h => h.sup (by (repeat (first | exact Sup.refl | apply Sup.cons (by (repeat (first | exact Pick.head | apply Pick.tail | apply Pick.app))) | apply Sup.app | apply Sup.skip | apply Sup.skips)))⟩)
                      | (have hk1 : r.kind = 3 := by omega
                         obtain rfl : i = r.names.length := by omega
                         have e : lineR r = joinW (wContacts :: dig r.names.length :: r.names.take r.names.length) := by unfold lineR printW; rw [if_neg (by omega), if_neg (by omega), if_pos hk1, numT_nat, List.take_length]
                         rw [e]
                         exact ⟨rfl, fun w h => h.sup (by (repeat (first | exact Sup.refl | apply Sup.cons (by (repeat (first | exact Pick.head | apply Pick.tail | apply Pick.app))) | apply Sup.app | apply Sup.skip | apply Sup.skips)))⟩)
                      | (have hk1 : r.kind = 4 := by omega
                         have e : lineR r = joinW [wQueued, dig r.seq.toNat] := by unfold lineR printW; rw [if_neg (by omega), if_neg (by omega), if_neg (by omega), if_pos hk1, z3]
                         rw [e]
                         exact ⟨rfl, fun w h => h.sup (by (repeat (first | exact Sup.refl | apply Sup.cons (by (repeat (first | exact Pick.head | apply Pick.tail | apply Pick.app))) | apply Sup.app | apply Sup.skip | apply Sup.skips)))⟩)
                      | (have hk1 : r.kind = 5 := by omega
                         obtain rfl : i = r.texts.length := by omega
                         have e : lineR r = joinW (wInbox :: dig r.texts.length :: (r.texts.take r.texts.length).map quoT) := by unfold lineR printW; rw [if_neg (by omega), if_neg (by omega), if_neg (by omega), if_neg (by omega), if_pos hk1, numT_nat, List.take_length]
                         rw [e]
                         exact ⟨rfl, fun w h => h.sup (by (repeat (first | exact Sup.refl | apply Sup.cons (by (repeat (first | exact Pick.head | apply Pick.tail | apply Pick.app))) | apply Sup.app | apply Sup.skip | apply Sup.skips)))⟩)
                      | (have hk1 : r.kind = 7 := by omega
                         have e : lineR r = joinW [wStatus, dig r.out.toNat, dig r.acked.toNat, dig r.inn.toNat] := by unfold lineR printW; rw [if_neg (by omega), if_neg (by omega), if_neg (by omega), if_neg (by omega), if_neg (by omega), if_neg (by omega), if_pos hk1, a3, b3', c3']
                         rw [e]
                         exact ⟨rfl, fun w h => h.sup (by (repeat (first | exact Sup.refl | apply Sup.cons (by (repeat (first | exact Pick.head | apply Pick.tail | apply Pick.app))) | apply Sup.app | apply Sup.skip | apply Sup.skips)))⟩)
                      | (have hk1 : r.kind = 8 := by omega
                         have e : lineR r = joinW [wError, (wordF r.err).1] := by unfold lineR printW; rw [if_neg (by omega), if_neg (by omega), if_neg (by omega), if_neg (by omega), if_neg (by omega), if_neg (by omega), if_neg (by omega), if_pos hk1]
                         rw [e]
                         exact ⟨rfl, fun w h => h.sup (by (repeat (first | exact Sup.refl | apply Sup.cons (by (repeat (first | exact Pick.head | apply Pick.tail | apply Pick.app))) | apply Sup.app | apply Sup.skip | apply Sup.skips)))⟩)
                  all_goals refine JE.then_normal ?_
                  all_goals
                    refine J.seq ?_
                    refine J.block ?_
                    refine J.seq ?_
                    have hlt : i < r.names.length := by omega
                    obtain ⟨x, hx⟩ : ∃ x, r.names[i]? = some x := ⟨r.names[i]'(by omega), List.getElem?_eq_getElem _⟩
                    obtain ⟨g1, o1, rfl, hrd1⟩ := h1.addr (by omega)
                    have hxl := (hr.nb x (List.mem_of_getElem? hx)).2
                    refine J.region ?_
                    refine JL.step (y_indexAddr_slice hT rfl rfl rfl rfl rfl (by (first | omega | exact Nat.le_of_ble_eq_true rfl | decide | (simp; omega))) (by (first | omega | exact Nat.le_of_ble_eq_true rfl | decide | (simp; omega)))) rfl rfl rfl ?_
                    refine JL.step (y_load1 hT rfl rfl rfl (Rd1.elem (i := i) (v := .string (strOf x)) ((hrd1 []).cons _) (strs_at hx))) rfl rfl rfl ?_
                    refine JL.step (y_assign rfl) rfl rfl rfl ?_
                    refine JL.nil ?_
                    refine JE.then_normal ?_
                    refine J.region ?_
                    refine JL.step (y_move rfl) rfl rfl rfl (JL.step (y_move rfl) rfl rfl rfl ?_)
                    refine JL.step (y_addS (xs := [32]) (zs := 32 :: x) (by rw [kS]; rfl) rfl rfl (by rw [List.length_singleton]; omega)) rfl rfl rfl ?_
                    refine JL.step (y_addS (zs := joinW (wContacts :: dig r.names.length :: r.names.take (i + 1))) rfl rfl (by rw [List.take_add_one, hx, Option.toList_some, ← List.cons_append, joinW_snoc]) (by rw [List.length_cons]; omega)) rfl rfl rfl ?_
                    refine JL.step (y_assign rfl) rfl rfl rfl ?_
                    refine JL.nil ?_
                    refine JE.block_normal ?_
                    refine JE.then_normal ?_
                    refine J.region ?_
                    refine JL.step (y_add rfl rfl (by (first | exact wrap_i64 (by omega) (by omega) | rfl))) rfl rfl rfl ?_
                    refine JL.step (y_move rfl) rfl rfl rfl ?_
                    refine JL.nil ?_
                  all_goals
                    exact JE.round (s := i) (i + 1) (by omega) ⟨rfl, rfl, rfl, rfl, rfl, trivial⟩ (fun w h => h) (by omega)
              case' hf =>
                intro h
                try (first | (exfalso; omega) | (cases h; done) | (exfalso; simp at h; done) | subst h)
                all_goals
                  refine J.seq ?_
                  refine J.region ?_
                  refine JL.step (y_eql rfl rfl) rfl rfl rfl (JL.step (y_assign rfl) rfl rfl rfl ?_)
                  refine JL.nil ?_
                  refine JE.then_normal ?_
                  first | apply J.cond_dec rfl | apply J.cond rfl
                  case' ht =>
                    intro h
                    try (first | (exfalso; omega) | (cases h; done) | (exfalso; simp at h; done) | subst h)
                    all_goals
                      refine J.seq ?_
                      have hok := (right_4 (by omega) hri).2
                      obtain ⟨z1, z2, z3⟩ := okN_nat hok
                      have hdz := dig_le (u := r.seq.toNat) (k := 19) (by omega) (by decide)
                      refine J.region ?_
                      refine JL.step (y_fieldAddr hT rfl rfl rfl rfl rfl rfl) rfl rfl rfl ?_
                      refine JL.step (v := .int .i64 ((r.seq.toNat : Nat) : Int)) (y_load1 hT rfl rfl rfl (Rd1.row (by (repeat (first | exact Pick.head | apply Pick.tail | apply Pick.app))) (z1 ▸ hat 2))) rfl rfl rfl ?_
                      refine JL.loud rfl (l_callF e50 rfl rfl (rdigN_spec E r.seq.toNat _ (by omega)) ?_)
                      rintro _ _ ⟨rfl, rfl⟩
                      refine JL.step (y_addS (xs := wQueued ++ [32]) (zs := joinW [wQueued, dig r.seq.toNat]) (by rw [kQu]; rfl) rfl (by rw [joinW_two, joinW_one, List.append_assoc]; rfl) (by have : (wQueued ++ [32]).length = 7 := rfl; omega)) rfl rfl rfl ?_
                      refine JL.step (y_assign rfl) rfl rfl rfl ?_
                      refine JL.nil ?_
                      refine JE.then_normal ?_
                      refine J.ret ?_
                      refine JE.block_ret ?_
                      refine JE.then_ret ?_
                      refine JE.ret1 (.inl rfl) rfl rfl (by (first | exact RV.tmp rfl | exact RV.cell1 hT rfl rfl rfl (by (exact Rd1.row (by (repeat (first | exact Pick.head | apply Pick.tail | apply Pick.app))) (by rfl))) | exact RV.cellN hT rfl rfl rfl (by (first | exact RdN.rowAll (by (repeat (first | exact Pick.head | apply Pick.tail | apply Pick.app))) | exact RdN.own (by (repeat (first | exact Pick.head | apply Pick.tail | apply Pick.app))))) (by (first | rfl | assumption | (simp; done) | omega)))) ?_
                      first
                      | (have hk1 : r.kind = 1 := by omega
                         have e : lineR r = wMe ++ 32 :: hexT r.key := by unfold lineR printW; rw [if_pos hk1, joinW_two, joinW_one]
                         rw [e]
                         exact ⟨rfl, fun w h => h.sup (by (repeat (first | exact Sup.refl | apply Sup.cons (by (repeat (first | exact Pick.head | apply Pick.tail | apply Pick.app))) | apply Sup.app | apply Sup.skip | apply Sup.skips)))⟩)
                      | (have hk1 : r.kind = 2 := by omega
                         have e : lineR r = wAdded := by unfold lineR printW; rw [if_neg (by omega), if_pos hk1, joinW_one]
                         rw [e, kAd]
                         exact ⟨rfl, fun w h => h.sup (by (repeat (first | exact Sup.refl | apply Sup.cons (by (repeat (first | exact Pick.head | apply Pick.tail | apply Pick.app))) | apply Sup.app | apply Sup.skip | apply Sup.skips)))⟩)
                      | (have hk1 : r.kind = 6 := by omega
                         have e : lineR r = wPurged := by unfold lineR printW; rw [if_neg (by omega), if_neg (by omega), if_neg (by omega), if_neg (by omega), if_neg (by omega), if_pos hk1, joinW_one]
                         rw [e, kPu]
                         exact ⟨rfl, fun w h => h.sup (by (repeat (first | exact Sup.refl | apply Sup.cons (by (repeat (first | exact Pick.head | apply Pick.tail | apply Pick.app))) | apply Sup.app | apply Sup.skip | apply Sup.skips)))⟩)
                      | (have hk1 : r.kind = 3 := by omega
                         obtain rfl : i = r.names.length := by omega
                         have e : lineR r = joinW (wContacts :: dig r.names.length :: r.names.take r.names.length) := by unfold lineR printW; rw [if_neg (by omega), if_neg (by omega), if_pos hk1, numT_nat, List.take_length]
                         rw [e]
                         exact ⟨rfl, fun w h => h.sup (by (repeat (first | exact Sup.refl | apply Sup.cons (by (repeat (first | exact Pick.head | apply Pick.tail | apply Pick.app))) | apply Sup.app | apply Sup.skip | apply Sup.skips)))⟩)
                      | (have hk1 : r.kind = 4 := by omega
                         have e : lineR r = joinW [wQueued, dig r.seq.toNat] := by unfold lineR printW; rw [if_neg (by omega), if_neg (by omega), if_neg (by omega), if_pos hk1, z3]
                         rw [e]
                         exact ⟨rfl, fun w h => h.sup (by (repeat (first | exact Sup.refl | apply Sup.cons (by (repeat (first | exact Pick.head | apply Pick.tail | apply Pick.app))) | apply Sup.app | apply Sup.skip | apply Sup.skips)))⟩)
                      | (have hk1 : r.kind = 5 := by omega
                         obtain rfl : i = r.texts.length := by omega
                         have e : lineR r = joinW (wInbox :: dig r.texts.length :: (r.texts.take r.texts.length).map quoT) := by unfold lineR printW; rw [if_neg (by omega), if_neg (by omega), if_neg (by omega), if_neg (by omega), if_pos hk1, numT_nat, List.take_length]
                         rw [e]
                         exact ⟨rfl, fun w h => h.sup (by (repeat (first | exact Sup.refl | apply Sup.cons (by (repeat (first | exact Pick.head | apply Pick.tail | apply Pick.app))) | apply Sup.app | apply Sup.skip | apply Sup.skips)))⟩)
                      | (have hk1 : r.kind = 7 := by omega
                         have e : lineR r = joinW [wStatus, dig r.out.toNat, dig r.acked.toNat, dig r.inn.toNat] := by unfold lineR printW; rw [if_neg (by omega), if_neg (by omega), if_neg (by omega), if_neg (by omega), if_neg (by omega), if_neg (by omega), if_pos hk1, a3, b3', c3']
                         rw [e]
                         exact ⟨rfl, fun w h => h.sup (by (repeat (first | exact Sup.refl | apply Sup.cons (by (repeat (first | exact Pick.head | apply Pick.tail | apply Pick.app))) | apply Sup.app | apply Sup.skip | apply Sup.skips)))⟩)
                      | (have hk1 : r.kind = 8 := by omega
                         have e : lineR r = joinW [wError, (wordF r.err).1] := by unfold lineR printW; rw [if_neg (by omega), if_neg (by omega), if_neg (by omega), if_neg (by omega), if_neg (by omega), if_neg (by omega), if_neg (by omega), if_pos hk1]
                         rw [e]
                         exact ⟨rfl, fun w h => h.sup (by (repeat (first | exact Sup.refl | apply Sup.cons (by (repeat (first | exact Pick.head | apply Pick.tail | apply Pick.app))) | apply Sup.app | apply Sup.skip | apply Sup.skips)))⟩)
                  case' hf =>
                    intro h
                    try (first | (exfalso; omega) | (cases h; done) | (exfalso; simp at h; done) | subst h)
                    all_goals
                      refine J.seq ?_
                      refine J.region ?_
                      refine JL.step (y_eql rfl rfl) rfl rfl rfl (JL.step (y_assign rfl) rfl rfl rfl ?_)
                      refine JL.nil ?_
                      refine JE.then_normal ?_
                      first | apply J.cond_dec rfl | apply J.cond rfl
                      case' ht =>
                        intro h
                        try (first | (exfalso; omega) | (cases h; done) | (exfalso; simp at h; done) | subst h)
                        all_goals
                          refine J.seq ?_
                          refine J.region ?_
                          refine JL.step (y_fieldAddr hT rfl rfl rfl rfl rfl rfl) rfl rfl rfl ?_
                          refine JL.step (y_load1 hT rfl rfl rfl (Rd1.row (by (repeat (first | exact Pick.head | apply Pick.tail | apply Pick.app))) (hat 1))) rfl rfl rfl ?_
                          refine JL.step (y_len_slice hT rfl rfl rfl) rfl rfl rfl ?_
                          refine JL.loud rfl (l_callF e50 rfl rfl (rdigN_spec E r.texts.length _ (by omega)) ?_)
                          rintro _ _ ⟨rfl, rfl⟩
                          refine JL.step (y_addS (xs := wInbox ++ [32]) (zs := joinW [wInbox, dig r.texts.length]) (by rw [kIn]; rfl) rfl (by rw [joinW_two, joinW_one, List.append_assoc]; rfl) (by have : (wInbox ++ [32]).length = 6 := rfl; omega)) rfl rfl rfl ?_
                          refine JL.step (y_assign rfl) rfl rfl rfl ?_
                          refine JL.nil ?_
                          refine JE.then_normal ?_
                          refine J.seq ?_
                          refine J.seq ?_
                          refine J.region ?_
                          refine JL.step (y_fieldAddr hT rfl rfl rfl rfl rfl rfl) rfl rfl rfl ?_
                          refine JL.step (y_load1 hT rfl rfl rfl (Rd1.row (by (repeat (first | exact Pick.head | apply Pick.tail | apply Pick.app))) (hat 1))) rfl rfl rfl ?_
                          refine JL.step (y_len_slice hT rfl rfl rfl) rfl rfl rfl (JL.step (y_move rfl) rfl rfl rfl ?_)
                          refine JL.nil ?_
                          refine JE.then_normal ?_
                          refine J.block ?_
                          refine J.loop (α := Nat) (fun i => i ≤ r.texts.length) (fun i => [(1, .pointer (some ⟨b1, 0, none⟩)), (6, .string (strOf (joinW (wInbox :: dig r.texts.length :: (r.texts.take i).map quoT)))), (57, .slice p2 r.texts.length c2), (58, .int .i64 r.texts.length), (59, .int .i64 i)]) (fun _ => row b1 36 cs :: l) (fun i => r.texts.length - i) 0 (Nat.zero_le _) ⟨rfl, rfl, rfl, rfl, rfl, trivial⟩ (fun w h => h) ?_
                          intro i hi
                          try dsimp only
                          have hjl := joinW_le (m := 3000) (ws := wInbox :: dig r.texts.length :: (r.texts.take i).map quoT) (fun w hw => by
                            rcases List.mem_cons.1 hw with rfl | hw
                            · exact Nat.le_of_ble_eq_true rfl
                            · rcases List.mem_cons.1 hw with rfl | hw
                              · omega
                              · obtain ⟨t, ht, rfl⟩ := List.mem_map.1 hw
                                have h1 := (hr.tb t (List.mem_of_mem_take ht)).2
                                have h2 := quoT_length t
                                omega)
                          rw [List.length_cons, List.length_cons, List.length_map, List.length_take] at hjl
                          refine J.seq ?_
                          refine J.region ?_
                          refine JL.step (y_lss rfl rfl) rfl rfl rfl ?_
                          refine JL.nil ?_
                          refine JE.then_normal ?_
                          refine J.seq ?_
                          first | apply J.cond_dec rfl | apply J.cond rfl
                          case' ht =>
                            intro h
                            try (first | (exfalso; omega) | (cases h; done) | (exfalso; simp at h; done) | subst h)
                            all_goals
                              refine J.skip ?_
                          case' hf =>
                            intro h
                            try (first | (exfalso; omega) | (cases h; done) | (exfalso; simp at h; done) | subst h)
                            all_goals
                              refine J.exit ?_
                              refine JE.then_exit ?_
                              refine JE.then_exit ?_
                              refine JE.block_exit ?_
                              refine JE.then_normal ?_
                              refine J.seq ?_
                              refine J.region ?_
                              refine JL.step (y_move rfl) rfl rfl rfl (JL.step (y_assign rfl) rfl rfl rfl ?_)
                              refine JL.nil ?_
                              refine JE.then_normal ?_
                              refine J.ret ?_
                              refine JE.block_ret ?_
                              refine JE.then_ret ?_
                              refine JE.ret1 (.inl rfl) rfl rfl (by (first | exact RV.tmp rfl | exact RV.cell1 hT rfl rfl rfl (by (exact Rd1.row (by (repeat (first | exact Pick.head | apply Pick.tail | apply Pick.app))) (by rfl))) | exact RV.cellN hT rfl rfl rfl (by (first | exact RdN.rowAll (by (repeat (first | exact Pick.head | apply Pick.tail | apply Pick.app))) | exact RdN.own (by (repeat (first | exact Pick.head | apply Pick.tail | apply Pick.app))))) (by (first | rfl | assumption | (simp; done) | omega)))) ?_
                              first
                              | (have hk1 : r.kind = 1 := by omega
                                 have e : lineR r = wMe ++ 32 :: hexT r.key := by unfold lineR printW; rw [if_pos hk1, joinW_two, joinW_one]
                                 rw [e]
                                 exact ⟨rfl, fun w h => h.sup (by (repeat (first | exact Sup.refl | apply Sup.cons (by (repeat (first | exact Pick.head | apply Pick.tail | apply Pick.app))) | apply Sup.app | apply Sup.skip | apply Sup.skips)))⟩)
                              | (have hk1 : r.kind = 2 := by omega
                                 have e : lineR r = wAdded := by unfold lineR printW; rw [if_neg (by omega), if_pos hk1, joinW_one]
                                 rw [e, kAd]
                                 exact ⟨rfl, fun w h => h.sup (by (repeat (first | exact Sup.refl | apply Sup.cons (by (repeat (first | exact Pick.head | apply Pick.tail | apply Pick.app))) | apply Sup.app | apply Sup.skip | apply Sup.skips)))⟩)
                              | (have hk1 : r.kind = 6 := by omega
                                 have e : lineR r = wPurged := by unfold lineR printW; rw [if_neg (by omega), if_neg (by omega), if_neg (by omega), if_neg (by omega), if_neg (by omega), if_pos hk1, joinW_one]
                                 rw [e, kPu]
                                 exact ⟨rfl, fun w h => h.sup (by (repeat (first | exact Sup.refl | apply Sup.cons (by (repeat (first | exact Pick.head | apply Pick.tail | apply Pick.app))) | apply Sup.app | apply Sup.skip | apply Sup.skips)))⟩)
                              | (have hk1 : r.kind = 3 := by omega
                                 obtain rfl : i = r.names.length := by omega
                                 have e : lineR r = joinW (wContacts :: dig r.names.length :: r.names.take r.names.length) := by unfold lineR printW; rw [if_neg (by omega), if_neg (by omega), if_pos hk1, numT_nat, List.take_length]
                                 rw [e]
                                 exact ⟨rfl, fun w h => h.sup (by (repeat (first | exact Sup.refl | apply Sup.cons (by (repeat (first | exact Pick.head | apply Pick.tail | apply Pick.app))) | apply Sup.app | apply Sup.skip | apply Sup.skips)))⟩)
                              | (have hk1 : r.kind = 4 := by omega
                                 have e : lineR r = joinW [wQueued, dig r.seq.toNat] := by unfold lineR printW; rw [if_neg (by omega), if_neg (by omega), if_neg (by omega), if_pos hk1, z3]
                                 rw [e]
                                 exact ⟨rfl, fun w h => h.sup (by (repeat (first | exact Sup.refl | apply Sup.cons (by (repeat (first | exact Pick.head | apply Pick.tail | apply Pick.app))) | apply Sup.app | apply Sup.skip | apply Sup.skips)))⟩)
                              | (have hk1 : r.kind = 5 := by omega
                                 obtain rfl : i = r.texts.length := by omega
                                 have e : lineR r = joinW (wInbox :: dig r.texts.length :: (r.texts.take r.texts.length).map quoT) := by unfold lineR printW; rw [if_neg (by omega), if_neg (by omega), if_neg (by omega), if_neg (by omega), if_pos hk1, numT_nat, List.take_length]
                                 rw [e]
                                 exact ⟨rfl, fun w h => h.sup (by (repeat (first | exact Sup.refl | apply Sup.cons (by (repeat (first | exact Pick.head | apply Pick.tail | apply Pick.app))) | apply Sup.app | apply Sup.skip | apply Sup.skips)))⟩)
                              | (have hk1 : r.kind = 7 := by omega
                                 have e : lineR r = joinW [wStatus, dig r.out.toNat, dig r.acked.toNat, dig r.inn.toNat] := by unfold lineR printW; rw [if_neg (by omega), if_neg (by omega), if_neg (by omega), if_neg (by omega), if_neg (by omega), if_neg (by omega), if_pos hk1, a3, b3', c3']
                                 rw [e]
                                 exact ⟨rfl, fun w h => h.sup (by (repeat (first | exact Sup.refl | apply Sup.cons (by (repeat (first | exact Pick.head | apply Pick.tail | apply Pick.app))) | apply Sup.app | apply Sup.skip | apply Sup.skips)))⟩)
                              | (have hk1 : r.kind = 8 := by omega
                                 have e : lineR r = joinW [wError, (wordF r.err).1] := by unfold lineR printW; rw [if_neg (by omega), if_neg (by omega), if_neg (by omega), if_neg (by omega), if_neg (by omega), if_neg (by omega), if_neg (by omega), if_pos hk1]
                                 rw [e]
                                 exact ⟨rfl, fun w h => h.sup (by (repeat (first | exact Sup.refl | apply Sup.cons (by (repeat (first | exact Pick.head | apply Pick.tail | apply Pick.app))) | apply Sup.app | apply Sup.skip | apply Sup.skips)))⟩)
                          all_goals refine JE.then_normal ?_
                          all_goals
                            refine J.seq ?_
                            refine J.block ?_
                            refine J.seq ?_
                            have hlt : i < r.texts.length := by omega
                            obtain ⟨x, hx⟩ : ∃ x, r.texts[i]? = some x := ⟨r.texts[i]'(by omega), List.getElem?_eq_getElem _⟩
                            obtain ⟨g1, o1, rfl, hrd1⟩ := h2.addr (by omega)
                            have hxl := (hr.tb x (List.mem_of_getElem? hx)).2
                            have hql := quoT_length x
                            refine J.region ?_
                            refine JL.step (y_indexAddr_slice hT rfl rfl rfl rfl rfl (by (first | omega | exact Nat.le_of_ble_eq_true rfl | decide | (simp; omega))) (by (first | omega | exact Nat.le_of_ble_eq_true rfl | decide | (simp; omega)))) rfl rfl rfl ?_
                            refine JL.step (y_load1 hT rfl rfl rfl (Rd1.elem (i := i) (v := .string (strOf x)) ((hrd1 []).cons _) (strs_at hx))) rfl rfl rfl ?_
                            refine JL.step (y_assign rfl) rfl rfl rfl ?_
                            refine JL.nil ?_
                            refine JE.then_normal ?_
                            refine J.region ?_
                            refine JL.step (y_move rfl) rfl rfl rfl (JL.step (y_move rfl) rfl rfl rfl ?_)
                            refine JL.loud rfl (l_callF e26 rfl rfl (rquote_spec E x _ (hr.tb x (List.mem_of_getElem? hx)).1 (by omega)) ?_)
                            rintro _ _ ⟨rfl, rfl⟩
                            refine JL.step (y_addS (xs := [32]) (zs := 32 :: quoT x) (by rw [kS]; rfl) rfl rfl (by rw [List.length_singleton]; omega)) rfl rfl rfl ?_
                            refine JL.step (y_addS (zs := joinW (wInbox :: dig r.texts.length :: (r.texts.take (i + 1)).map quoT)) rfl rfl (by rw [List.take_add_one, hx, Option.toList_some, List.map_append, List.map_cons, List.map_nil, ← List.cons_append, joinW_snoc]) (by rw [List.length_cons]; omega)) rfl rfl rfl ?_
                            refine JL.step (y_assign rfl) rfl rfl rfl ?_
                            refine JL.nil ?_
                            refine JE.block_normal ?_
                            refine JE.then_normal ?_
                            refine J.region ?_
                            refine JL.step (y_add rfl rfl (by (first | exact wrap_i64 (by omega) (by omega) | rfl))) rfl rfl rfl ?_
                            refine JL.step (y_move rfl) rfl rfl rfl ?_
                            refine JL.nil ?_
                          all_goals
                            exact JE.round (s := i) (i + 1) (by omega) ⟨rfl, rfl, rfl, rfl, rfl, trivial⟩ (fun w h => h) (by omega)
                      case' hf =>
                        intro h
                        try (first | (exfalso; omega) | (cases h; done) | (exfalso; simp at h; done) | subst h)
                        all_goals
                          refine J.seq ?_
                          refine J.region ?_
                          refine JL.step (y_eql rfl rfl) rfl rfl rfl (JL.step (y_assign rfl) rfl rfl rfl ?_)
                          refine JL.nil ?_
                          refine JE.then_normal ?_
                          first | apply J.cond_dec rfl | apply J.cond rfl
                          case' ht =>
                            intro h
                            try (first | (exfalso; omega) | (cases h; done) | (exfalso; simp at h; done) | subst h)
                            all_goals
                              refine J.seq ?_
                              obtain ⟨_, hoa, hob, hoc⟩ := right_7 (by omega) hri
                              obtain ⟨a1, a2, a3⟩ := okN_nat hoa
                              obtain ⟨b1', b2', b3'⟩ := okN_nat hob
                              obtain ⟨c1', c2', c3'⟩ := okN_nat hoc
                              have hda := dig_le (u := r.out.toNat) (k := 19) (by omega) (by decide)
                              have hdb := dig_le (u := r.acked.toNat) (k := 19) (by omega) (by decide)
                              have hdc := dig_le (u := r.inn.toNat) (k := 19) (by omega) (by decide)
                              have h7 : (wStatus ++ [32]).length = 7 := rfl
                              refine J.draw _ _ [(0, .q), (1, .q), (2, .q), (3, .q), (4, .q), (5, .q), (6, .q), (7, .q), (8, .q), (9, .q), (10, .q), (11, .q), (12, .q), (13, .q), (14, .q)] mixed (by kernel_rfl) (Split.nil) ?_
                              refine JM.quiet rfl rfl rfl rfl (fun m => y_fieldAddr hT rfl rfl rfl rfl rfl rfl) ?_
                              refine JM.quiet rfl rfl rfl rfl (fun m => y_load1 (v := .int .i64 ((r.out.toNat : Nat) : Int)) hT rfl rfl rfl (Rd1.row (Pick.app m (by (repeat (first | exact Pick.head | apply Pick.tail | apply Pick.app)))) (a1 ▸ hat 3))) ?_
                              refine JM.quiet rfl rfl rfl rfl (fun m => y_callF e50 rfl (rdigN_spec E r.out.toNat _ (by omega))) ?_
                              refine JM.quiet rfl rfl rfl rfl (fun m => y_addS (xs := wStatus ++ [32]) (zs := joinW [wStatus, dig r.out.toNat]) (by rw [kSt]; rfl) rfl (by rw [joinW_two, joinW_one, List.append_assoc]; rfl) (by omega)) ?_
                              refine JM.quiet rfl rfl rfl rfl (fun m => y_addS (ys := [32]) (zs := joinW [wStatus, dig r.out.toNat] ++ [32]) rfl (by rw [kS]; rfl) rfl (by rw [joinW_two, joinW_one, List.length_append, List.length_cons, List.length_singleton]; have : wStatus.length = 6 := rfl; omega)) ?_
                              refine JM.quiet rfl rfl rfl rfl (fun m => y_fieldAddr hT rfl rfl rfl rfl rfl rfl) ?_
                              refine JM.quiet rfl rfl rfl rfl (fun m => y_load1 (v := .int .i64 ((r.acked.toNat : Nat) : Int)) hT rfl rfl rfl (Rd1.row (Pick.app m (by (repeat (first | exact Pick.head | apply Pick.tail | apply Pick.app)))) (b1' ▸ hat 4))) ?_
                              refine JM.quiet rfl rfl rfl rfl (fun m => y_callF e50 rfl (rdigN_spec E r.acked.toNat _ (by omega))) ?_
                              refine JM.quiet rfl rfl rfl rfl (fun m => y_addS (zs := joinW [wStatus, dig r.out.toNat, dig r.acked.toNat]) rfl rfl (by simp [joinW]) (by rw [joinW_two, joinW_one, List.length_append, List.length_append, List.length_cons, List.length_singleton]; have : wStatus.length = 6 := rfl; omega)) ?_
                              refine JM.quiet rfl rfl rfl rfl (fun m => y_addS (ys := [32]) (zs := joinW [wStatus, dig r.out.toNat, dig r.acked.toNat] ++ [32]) rfl (by rw [kS]; rfl) rfl (by rw [joinW_two, joinW_two, joinW_one, List.length_append, List.length_cons, List.length_append, List.length_cons, List.length_singleton]; have : wStatus.length = 6 := rfl; omega)) ?_
                              refine JM.quiet rfl rfl rfl rfl (fun m => y_fieldAddr hT rfl rfl rfl rfl rfl rfl) ?_
                              refine JM.quiet rfl rfl rfl rfl (fun m => y_load1 (v := .int .i64 ((r.inn.toNat : Nat) : Int)) hT rfl rfl rfl (Rd1.row (Pick.app m (by (repeat (first | exact Pick.head | apply Pick.tail | apply Pick.app)))) (c1' ▸ hat 5))) ?_
                              refine JM.quiet rfl rfl rfl rfl (fun m => y_callF e50 rfl (rdigN_spec E r.inn.toNat _ (by omega))) ?_
                              refine JM.quiet rfl rfl rfl rfl (fun m => y_addS (zs := joinW [wStatus, dig r.out.toNat, dig r.acked.toNat, dig r.inn.toNat]) rfl rfl (by simp [joinW]) (by rw [joinW_two, joinW_two, joinW_one, List.length_append, List.length_append, List.length_cons, List.length_append, List.length_cons, List.length_singleton]; have : wStatus.length = 6 := rfl; omega)) ?_
                              refine JM.quiet rfl rfl rfl rfl (fun m => y_assign rfl) ?_
                              refine JM.nil ?_
                              refine JE.then_normal ?_
                              refine J.ret ?_
                              refine JE.block_ret ?_
                              refine JE.then_ret ?_
                              refine JE.ret1 (.inl rfl) rfl rfl (by (first | exact RV.tmp rfl | exact RV.cell1 hT rfl rfl rfl (by (exact Rd1.row (by (repeat (first | exact Pick.head | apply Pick.tail | apply Pick.app))) (by rfl))) | exact RV.cellN hT rfl rfl rfl (by (first | exact RdN.rowAll (by (repeat (first | exact Pick.head | apply Pick.tail | apply Pick.app))) | exact RdN.own (by (repeat (first | exact Pick.head | apply Pick.tail | apply Pick.app))))) (by (first | rfl | assumption | (simp; done) | omega)))) ?_
                              first
                              | (have hk1 : r.kind = 1 := by omega
                                 have e : lineR r = wMe ++ 32 :: hexT r.key := by unfold lineR printW; rw [if_pos hk1, joinW_two, joinW_one]
                                 rw [e]
                                 exact ⟨rfl, fun w h => h.sup (by (repeat (first | exact Sup.refl | apply Sup.cons (by (repeat (first | exact Pick.head | apply Pick.tail | apply Pick.app))) | apply Sup.app | apply Sup.skip | apply Sup.skips)))⟩)
                              | (have hk1 : r.kind = 2 := by omega
                                 have e : lineR r = wAdded := by unfold lineR printW; rw [if_neg (by omega), if_pos hk1, joinW_one]
                                 rw [e, kAd]
                                 exact ⟨rfl, fun w h => h.sup (by (repeat (first | exact Sup.refl | apply Sup.cons (by (repeat (first | exact Pick.head | apply Pick.tail | apply Pick.app))) | apply Sup.app | apply Sup.skip | apply Sup.skips)))⟩)
                              | (have hk1 : r.kind = 6 := by omega
                                 have e : lineR r = wPurged := by unfold lineR printW; rw [if_neg (by omega), if_neg (by omega), if_neg (by omega), if_neg (by omega), if_neg (by omega), if_pos hk1, joinW_one]
                                 rw [e, kPu]
                                 exact ⟨rfl, fun w h => h.sup (by (repeat (first | exact Sup.refl | apply Sup.cons (by (repeat (first | exact Pick.head | apply Pick.tail | apply Pick.app))) | apply Sup.app | apply Sup.skip | apply Sup.skips)))⟩)
                              | (have hk1 : r.kind = 3 := by omega
                                 obtain rfl : i = r.names.length := by omega
                                 have e : lineR r = joinW (wContacts :: dig r.names.length :: r.names.take r.names.length) := by unfold lineR printW; rw [if_neg (by omega), if_neg (by omega), if_pos hk1, numT_nat, List.take_length]
                                 rw [e]
                                 exact ⟨rfl, fun w h => h.sup (by (repeat (first | exact Sup.refl | apply Sup.cons (by (repeat (first | exact Pick.head | apply Pick.tail | apply Pick.app))) | apply Sup.app | apply Sup.skip | apply Sup.skips)))⟩)
                              | (have hk1 : r.kind = 4 := by omega
                                 have e : lineR r = joinW [wQueued, dig r.seq.toNat] := by unfold lineR printW; rw [if_neg (by omega), if_neg (by omega), if_neg (by omega), if_pos hk1, z3]
                                 rw [e]
                                 exact ⟨rfl, fun w h => h.sup (by (repeat (first | exact Sup.refl | apply Sup.cons (by (repeat (first | exact Pick.head | apply Pick.tail | apply Pick.app))) | apply Sup.app | apply Sup.skip | apply Sup.skips)))⟩)
                              | (have hk1 : r.kind = 5 := by omega
                                 obtain rfl : i = r.texts.length := by omega
                                 have e : lineR r = joinW (wInbox :: dig r.texts.length :: (r.texts.take r.texts.length).map quoT) := by unfold lineR printW; rw [if_neg (by omega), if_neg (by omega), if_neg (by omega), if_neg (by omega), if_pos hk1, numT_nat, List.take_length]
                                 rw [e]
                                 exact ⟨rfl, fun w h => h.sup (by (repeat (first | exact Sup.refl | apply Sup.cons (by (repeat (first | exact Pick.head | apply Pick.tail | apply Pick.app))) | apply Sup.app | apply Sup.skip | apply Sup.skips)))⟩)
                              | (have hk1 : r.kind = 7 := by omega
                                 have e : lineR r = joinW [wStatus, dig r.out.toNat, dig r.acked.toNat, dig r.inn.toNat] := by unfold lineR printW; rw [if_neg (by omega), if_neg (by omega), if_neg (by omega), if_neg (by omega), if_neg (by omega), if_neg (by omega), if_pos hk1, a3, b3', c3']
                                 rw [e]
                                 exact ⟨rfl, fun w h => h.sup (by (repeat (first | exact Sup.refl | apply Sup.cons (by (repeat (first | exact Pick.head | apply Pick.tail | apply Pick.app))) | apply Sup.app | apply Sup.skip | apply Sup.skips)))⟩)
                              | (have hk1 : r.kind = 8 := by omega
                                 have e : lineR r = joinW [wError, (wordF r.err).1] := by unfold lineR printW; rw [if_neg (by omega), if_neg (by omega), if_neg (by omega), if_neg (by omega), if_neg (by omega), if_neg (by omega), if_neg (by omega), if_pos hk1]
                                 rw [e]
                                 exact ⟨rfl, fun w h => h.sup (by (repeat (first | exact Sup.refl | apply Sup.cons (by (repeat (first | exact Pick.head | apply Pick.tail | apply Pick.app))) | apply Sup.app | apply Sup.skip | apply Sup.skips)))⟩)
                          case' hf =>
                            intro h
                            try (first | (exfalso; omega) | (cases h; done) | (exfalso; simp at h; done) | subst h)
                            all_goals
                              refine J.skip ?_
  all_goals refine JE.block_normal ?_
  all_goals refine JE.then_normal ?_
  all_goals
    refine J.seq ?_
    refine J.region ?_
    refine JL.step (y_fieldAddr hT rfl rfl rfl rfl rfl rfl) rfl rfl rfl ?_
    refine JL.step (y_load1 hT rfl rfl rfl (Rd1.row (by (repeat (first | exact Pick.head | apply Pick.tail | apply Pick.app))) (hat 6))) rfl rfl rfl ?_
    refine JL.loud rfl (l_callF e22 rfl rfl (rword_spec E r.err _) ?_)
    rintro _ _ ⟨rfl, rfl⟩
    refine JL.step (y_move rfl) rfl rfl rfl (JL.step (y_extract rfl rfl) rfl rfl rfl (JL.step (y_extract rfl rfl) rfl rfl rfl (JL.step (y_assign rfl) rfl rfl rfl (JL.step (y_assign rfl) rfl rfl rfl ?_))))
    refine JL.nil ?_
    refine JE.then_normal ?_
    refine J.seq ?_
    refine J.region ?_
    refine JL.step (y_move rfl) rfl rfl rfl ?_
    refine JL.step (y_addS (xs := wError ++ [32]) (zs := joinW [wError, (wordF r.err).1]) (by rw [kEr]; rfl) rfl (by rw [joinW_two, joinW_one, List.append_assoc]; rfl) (by have : (wError ++ [32]).length = 6 := rfl; have := word_len r.err; omega)) rfl rfl rfl ?_
    refine JL.step (y_assign rfl) rfl rfl rfl ?_
    refine JL.nil ?_
    refine JE.then_normal ?_
    refine J.ret ?_
    refine JE.ret1 (.inl rfl) rfl rfl (by (first | exact RV.tmp rfl | exact RV.cell1 hT rfl rfl rfl (by (exact Rd1.row (by (repeat (first | exact Pick.head | apply Pick.tail | apply Pick.app))) (by rfl))) | exact RV.cellN hT rfl rfl rfl (by (first | exact RdN.rowAll (by (repeat (first | exact Pick.head | apply Pick.tail | apply Pick.app))) | exact RdN.own (by (repeat (first | exact Pick.head | apply Pick.tail | apply Pick.app))))) (by (first | rfl | assumption | (simp; done) | omega)))) ?_
    first
    | (have hk1 : r.kind = 1 := by omega
       have e : lineR r = wMe ++ 32 :: hexT r.key := by unfold lineR printW; rw [if_pos hk1, joinW_two, joinW_one]
       rw [e]
       exact ⟨rfl, fun w h => h.sup (by (repeat (first | exact Sup.refl | apply Sup.cons (by (repeat (first | exact Pick.head | apply Pick.tail | apply Pick.app))) | apply Sup.app | apply Sup.skip | apply Sup.skips)))⟩)
    | (have hk1 : r.kind = 2 := by omega
       have e : lineR r = wAdded := by unfold lineR printW; rw [if_neg (by omega), if_pos hk1, joinW_one]
       rw [e, kAd]
       exact ⟨rfl, fun w h => h.sup (by (repeat (first | exact Sup.refl | apply Sup.cons (by (repeat (first | exact Pick.head | apply Pick.tail | apply Pick.app))) | apply Sup.app | apply Sup.skip | apply Sup.skips)))⟩)
    | (have hk1 : r.kind = 6 := by omega
       have e : lineR r = wPurged := by unfold lineR printW; rw [if_neg (by omega), if_neg (by omega), if_neg (by omega), if_neg (by omega), if_neg (by omega), if_pos hk1, joinW_one]
       rw [e, kPu]
       exact ⟨rfl, fun w h => h.sup (by (repeat (first | exact Sup.refl | apply Sup.cons (by (repeat (first | exact Pick.head | apply Pick.tail | apply Pick.app))) | apply Sup.app | apply Sup.skip | apply Sup.skips)))⟩)
    | (have hk1 : r.kind = 3 := by omega
       obtain rfl : i = r.names.length := by omega
       have e : lineR r = joinW (wContacts :: dig r.names.length :: r.names.take r.names.length) := by unfold lineR printW; rw [if_neg (by omega), if_neg (by omega), if_pos hk1, numT_nat, List.take_length]
       rw [e]
       exact ⟨rfl, fun w h => h.sup (by (repeat (first | exact Sup.refl | apply Sup.cons (by (repeat (first | exact Pick.head | apply Pick.tail | apply Pick.app))) | apply Sup.app | apply Sup.skip | apply Sup.skips)))⟩)
    | (have hk1 : r.kind = 4 := by omega
       have e : lineR r = joinW [wQueued, dig r.seq.toNat] := by unfold lineR printW; rw [if_neg (by omega), if_neg (by omega), if_neg (by omega), if_pos hk1, z3]
       rw [e]
       exact ⟨rfl, fun w h => h.sup (by (repeat (first | exact Sup.refl | apply Sup.cons (by (repeat (first | exact Pick.head | apply Pick.tail | apply Pick.app))) | apply Sup.app | apply Sup.skip | apply Sup.skips)))⟩)
    | (have hk1 : r.kind = 5 := by omega
       obtain rfl : i = r.texts.length := by omega
       have e : lineR r = joinW (wInbox :: dig r.texts.length :: (r.texts.take r.texts.length).map quoT) := by unfold lineR printW; rw [if_neg (by omega), if_neg (by omega), if_neg (by omega), if_neg (by omega), if_pos hk1, numT_nat, List.take_length]
       rw [e]
       exact ⟨rfl, fun w h => h.sup (by (repeat (first | exact Sup.refl | apply Sup.cons (by (repeat (first | exact Pick.head | apply Pick.tail | apply Pick.app))) | apply Sup.app | apply Sup.skip | apply Sup.skips)))⟩)
    | (have hk1 : r.kind = 7 := by omega
       have e : lineR r = joinW [wStatus, dig r.out.toNat, dig r.acked.toNat, dig r.inn.toNat] := by unfold lineR printW; rw [if_neg (by omega), if_neg (by omega), if_neg (by omega), if_neg (by omega), if_neg (by omega), if_neg (by omega), if_pos hk1, a3, b3', c3']
       rw [e]
       exact ⟨rfl, fun w h => h.sup (by (repeat (first | exact Sup.refl | apply Sup.cons (by (repeat (first | exact Pick.head | apply Pick.tail | apply Pick.app))) | apply Sup.app | apply Sup.skip | apply Sup.skips)))⟩)
    | (have hk1 : r.kind = 8 := by omega
       have e : lineR r = joinW [wError, (wordF r.err).1] := by unfold lineR printW; rw [if_neg (by omega), if_neg (by omega), if_neg (by omega), if_neg (by omega), if_neg (by omega), if_neg (by omega), if_neg (by omega), if_pos hk1]
       rw [e]
       exact ⟨rfl, fun w h => h.sup (by (repeat (first | exact Sup.refl | apply Sup.cons (by (repeat (first | exact Pick.head | apply Pick.tail | apply Pick.app))) | apply Sup.app | apply Sup.skip | apply Sup.skips)))⟩)
end
end
section
open Go Go.SL
section
/-- A reply, loosely read. -/
structure RpW (r : RpT) : Prop where
  key : r.key.length = 32
  kb : Bys r.key
  names : r.names.length ≤ 1000
  texts : r.texts.length ≤ 1000
  nb : ∀ t ∈ r.names, Bys t ∧ t.length ≤ 1000
  tb : ∀ t ∈ r.texts, Bys t ∧ t.length ≤ 1000
theorem RpB.toW {r : RpT} (h : RpB r) : RpW r := ⟨h.key, h.kb, by have := h.names; omega, by have := h.texts; omega, h.nb, h.tb⟩
theorem len_nil {α : Type} (xs : List α) : decide ((xs.length : Int) = 0) = decide (xs.length = 0) := decide_eq_decide.2 (by omega)
end
section
attribute [local irreducible] J JL JE JM LS Y Fc RV Code.wp wpList Code.wpIn wpListIn
attribute [local irreducible] Yc strOf valD dig
variable (E : World)
theorem rright_spec (r : RpT) (p1 : Option Addr) (c1 : Nat) (p2 : Option Addr) (c2 : Nat) (l : List HProp) (hr : RpW r) (h1 : InL l p1 r.names.length c1 (strs r.names)) (h2 : InL l p2 r.texts.length c2 (strs r.texts)) :
    Fc prog E 19 [.agg (rpE r (.slice p1 r.names.length c1) (.slice p2 r.texts.length c2)).toArray].toArray l (fun v l' => v = .bool (rightB r) ∧ l' = l) := by
  refine Fc.eqs ?_
  obtain ⟨cs, hcs⟩ : ∃ cs, rpE r (.slice p1 r.names.length c1) (.slice p2 r.texts.length c2) = cs := ⟨_, rfl⟩
  have hat := rp_at hr.key (.slice p1 r.names.length c1) (.slice p2 r.texts.length c2)
  have hky := rp_key hr.key (.slice p1 r.names.length c1) (.slice p2 r.texts.length c2)
  have hk0 : cs[0]? = some (.int .i64 r.kind) := by rw [← hcs]; rfl
  have hnl := hr.names
  have htl := hr.texts
  obtain ⟨bk, hbk⟩ : ∃ b, decide (r.key = zer32) = b := ⟨_, rfl⟩
  obtain ⟨bn, hbn⟩ : ∃ b, decide ((r.names.length : Int) = 0) = b := ⟨_, rfl⟩
  obtain ⟨bt, hbt⟩ : ∃ b, decide ((r.texts.length : Int) = 0) = b := ⟨_, rfl⟩
  obtain ⟨bs, hbs⟩ : ∃ b, decide (r.seq = 0) = b := ⟨_, rfl⟩
  obtain ⟨bo, hbo⟩ : ∃ b, decide (r.out = 0) = b := ⟨_, rfl⟩
  obtain ⟨ba, hba⟩ : ∃ b, decide (r.acked = 0) = b := ⟨_, rfl⟩
  obtain ⟨bi, hbi⟩ : ∃ b, decide (r.inn = 0) = b := ⟨_, rfl⟩
  obtain ⟨be, hbe⟩ : ∃ b, decide (r.err = 0) = b := ⟨_, rfl⟩
  have eK : kB r = bk := hbk
  have eN : nB r = bn := by rw [← hbn, len_nil]; exact decide_eq_decide.2 List.length_eq_zero_iff.symm
  have eT : tB r = bt := by rw [← hbt, len_nil]; exact decide_eq_decide.2 List.length_eq_zero_iff.symm
  have eS : sB r = bs := hbs
  have eC : cB r = (bo && ba && bi) := by unfold cB; rw [hbo, hba, hbi]
  have eE : eB r = be := hbe
  have r1 : r.kind = 1 → rightB r = (bn && bt && bs && (bo && ba && bi) && be) := fun h => by unfold rightB; rw [if_pos h, eN, eT, eS, eC, eE]
  have r2 : (r.kind = 2 ∨ r.kind = 6) → rightB r = (bk && bn && bt && bs && (bo && ba && bi) && be) := fun h => by unfold rightB; rw [if_neg (by omega), if_pos h, eK, eN, eT, eS, eC, eE]
  have r3 : r.kind = 3 → rightB r = (r.names.all nameB && decide r.names.Nodup && (bk && bt && bs && (bo && ba && bi) && be && decide (r.names.length ≤ 3))) := fun h => by unfold rightB; rw [if_neg (by omega), if_neg (by omega), if_pos h, eK, eT, eS, eC, eE]
  have r4 : r.kind = 4 → rightB r = (bk && bn && bt && (bo && ba && bi) && be && okN r.seq) := fun h => by unfold rightB; rw [if_neg (by omega), if_neg (by omega), if_neg (by omega), if_pos h, eK, eN, eT, eC, eE]
  have r5 : r.kind = 5 → rightB r = (r.texts.all textB && (bk && bn && bs && (bo && ba && bi) && be && decide (r.texts.length ≤ 6))) := fun h => by unfold rightB; rw [if_neg (by omega), if_neg (by omega), if_neg (by omega), if_neg (by omega), if_pos h, eK, eN, eS, eC, eE]
  have r7 : r.kind = 7 → rightB r = (okN r.out && okN r.acked && okN r.inn && (bk && bn && bt && bs && be)) := fun h => by unfold rightB; rw [if_neg (by omega), if_neg (by omega), if_neg (by omega), if_neg (by omega), if_neg (by omega), if_pos h, eK, eN, eT, eS, eE]
  have r8 : r.kind = 8 → rightB r = (bk && bn && bt && bs && (bo && ba && bi) && (wordF r.err).2) := fun h => by unfold rightB; rw [if_neg (by omega), if_neg (by omega), if_neg (by omega), if_neg (by omega), if_neg (by omega), if_neg (by omega), if_pos h, eK, eN, eT, eS, eC]
  have r9 : ¬ r.kind = 1 → ¬ r.kind = 2 → ¬ r.kind = 6 → ¬ r.kind = 3 → ¬ r.kind = 4 → ¬ r.kind = 5 → ¬ r.kind = 7 → ¬ r.kind = 8 → rightB r = false := fun _ _ _ _ _ _ _ _ => by unfold rightB; rw [if_neg (by omega), if_neg (by omega), if_neg (by omega), if_neg (by omega), if_neg (by omega), if_neg (by omega), if_neg (by omega)]
  rw [hcs] at hat hky
  rw [hcs]
  refine Fc.of_body (c := ?codeC) Tryz.func19 ?hb Tryz.ntmps19 ?hl ?_
  case hb => exact rfl
  case hl => exact rfl
  refine J.seq ?_
  refine J.region ?_
  refine JL.loud rfl (l_box (cs := cs) rfl rfl rfl (fun b1 => ?_))
  refine JL.step (y_assign rfl) rfl rfl rfl ?_
  refine JL.nil ?_
  refine JE.then_normal ?_
  refine J.seqK (α := Unit) (fun _ => True) (fun _ => [(1, .pointer (some ⟨b1, 0, none⟩)), (3, .bool bk), (4, .bool bn), (5, .bool bt), (6, .bool bs), (7, .bool (bo && ba && bi)), (8, .bool be)]) (fun _ => row b1 36 cs :: l) ?hj2 (fun hk2 => ?hf2)
  case hf2 =>
    obtain ⟨bc, hbc⟩ : ∃ b, (bo && ba && bi) = b := ⟨_, rfl⟩
    rcases bo with _ | _
    rotate_left
    rcases ba with _ | _
    all_goals
      refine J.draw _ _ [(0, .q), (1, .q), (2, .q), (3, .q), (4, .q), (5, .q), (6, .q), (7, .q), (8, .q), (9, .q), (10, .q), (11, .q), (12, .q), (13, .q), (14, .q), (15, .q), (16, .q), (17, .q), (18, .q), (19, .q), (20, .q), (21, .q), (22, .q), (23, .q), (24, .q), (25, .q), (26, .q), (27, .q), (28, .q), (29, .q), (30, .q), (31, .q), (32, .q), (33, .q), (34, .q), (35, .q), (36, .q)] mixed (by kernel_rfl) (Split.nil) ?_
      refine JM.quiet rfl rfl rfl rfl (fun m => y_fieldAddr hT rfl rfl rfl rfl rfl rfl) ?_
      refine JM.quiet rfl rfl rfl rfl (fun m => y_loadN hT rfl rfl rfl (RdN.row (n := 32) (vs := ints .u8 r.key) (Pick.app m (by (repeat (first | exact Pick.head | apply Pick.tail | apply Pick.app)))) hky) (by rw [ints_len, hr.key]; rfl)) ?_
      refine JM.quiet rfl rfl rfl rfl (fun m => y_build_arr0 hT rfl rfl rfl rfl) ?_
      refine JM.quiet rfl rfl rfl rfl (fun m => Y.cast (y_arr_eq (k := .u8) (xs := r.key) (ys := zer32) hT rfl rfl rfl rfl rfl rfl rfl hr.key rfl) (congrArg Value.bool hbk)) ?_
      refine JM.quiet rfl rfl rfl rfl (fun m => y_fieldAddr hT rfl rfl rfl rfl rfl rfl) ?_
      refine JM.quiet rfl rfl rfl rfl (fun m => y_load1 hT rfl rfl rfl (Rd1.row (Pick.app m (by (repeat (first | exact Pick.head | apply Pick.tail | apply Pick.app)))) (hat 0))) ?_
      refine JM.quiet rfl rfl rfl rfl (fun m => y_len_slice hT rfl rfl rfl) ?_
      refine JM.quiet rfl rfl rfl rfl (fun m => y_eqlB rfl rfl hbn) ?_
      refine JM.quiet rfl rfl rfl rfl (fun m => y_fieldAddr hT rfl rfl rfl rfl rfl rfl) ?_
      refine JM.quiet rfl rfl rfl rfl (fun m => y_load1 hT rfl rfl rfl (Rd1.row (Pick.app m (by (repeat (first | exact Pick.head | apply Pick.tail | apply Pick.app)))) (hat 1))) ?_
      refine JM.quiet rfl rfl rfl rfl (fun m => y_len_slice hT rfl rfl rfl) ?_
      refine JM.quiet rfl rfl rfl rfl (fun m => y_eqlB rfl rfl hbt) ?_
      refine JM.quiet rfl rfl rfl rfl (fun m => y_fieldAddr hT rfl rfl rfl rfl rfl rfl) ?_
      refine JM.quiet rfl rfl rfl rfl (fun m => y_load1 hT rfl rfl rfl (Rd1.row (Pick.app m (by (repeat (first | exact Pick.head | apply Pick.tail | apply Pick.app)))) (hat 2))) ?_
      refine JM.quiet rfl rfl rfl rfl (fun m => y_eqlB rfl rfl hbs) ?_
      refine JM.quiet rfl rfl rfl rfl (fun m => y_fieldAddr hT rfl rfl rfl rfl rfl rfl) ?_
      refine JM.quiet rfl rfl rfl rfl (fun m => y_load1 hT rfl rfl rfl (Rd1.row (Pick.app m (by (repeat (first | exact Pick.head | apply Pick.tail | apply Pick.app)))) (hat 3))) ?_
      refine JM.quiet rfl rfl rfl rfl (fun m => y_eqlB rfl rfl hbo) ?_
      refine JM.quiet rfl rfl rfl rfl (fun m => y_move rfl) ?_
      all_goals (first | refine JM.gskip rfl rfl rfl rfl rfl rfl rfl ?_ | refine JM.gskipU rfl rfl rfl rfl rfl rfl ?_ | refine JM.gquiet rfl rfl rfl rfl rfl rfl (fun m => y_fieldAddr hT rfl rfl rfl rfl rfl rfl) ?_)
      all_goals (first | refine JM.gskip rfl rfl rfl rfl rfl rfl rfl ?_ | refine JM.gskipU rfl rfl rfl rfl rfl rfl ?_ | refine JM.gquiet rfl rfl rfl rfl rfl rfl (fun m => y_load1 hT rfl rfl rfl (Rd1.row (Pick.app m (by (repeat (first | exact Pick.head | apply Pick.tail | apply Pick.app)))) (hat 4))) ?_)
      all_goals (first | refine JM.gskip rfl rfl rfl rfl rfl rfl rfl ?_ | refine JM.gskipU rfl rfl rfl rfl rfl rfl ?_ | refine JM.gquiet rfl rfl rfl rfl rfl rfl (fun m => y_eqlB rfl rfl hba) ?_)
      all_goals refine JM.quiet rfl rfl rfl rfl (fun m => y_pick rfl rfl rfl) ?_
      all_goals refine JM.quiet rfl rfl rfl rfl (fun m => y_move rfl) ?_
      all_goals (first | refine JM.gskip rfl rfl rfl rfl rfl rfl rfl ?_ | refine JM.gskipU rfl rfl rfl rfl rfl rfl ?_ | refine JM.gquiet rfl rfl rfl rfl rfl rfl (fun m => y_fieldAddr hT rfl rfl rfl rfl rfl rfl) ?_)
      all_goals (first | refine JM.gskip rfl rfl rfl rfl rfl rfl rfl ?_ | refine JM.gskipU rfl rfl rfl rfl rfl rfl ?_ | refine JM.gquiet rfl rfl rfl rfl rfl rfl (fun m => y_load1 hT rfl rfl rfl (Rd1.row (Pick.app m (by (repeat (first | exact Pick.head | apply Pick.tail | apply Pick.app)))) (hat 5))) ?_)
      all_goals (first | refine JM.gskip rfl rfl rfl rfl rfl rfl rfl ?_ | refine JM.gskipU rfl rfl rfl rfl rfl rfl ?_ | refine JM.gquiet rfl rfl rfl rfl rfl rfl (fun m => y_eqlB rfl rfl hbi) ?_)
      all_goals refine JM.quiet rfl rfl rfl rfl (fun m => y_pick rfl rfl rfl) ?_
      all_goals refine JM.quiet rfl rfl rfl rfl (fun m => y_fieldAddr hT rfl rfl rfl rfl rfl rfl) ?_
      all_goals refine JM.quiet rfl rfl rfl rfl (fun m => y_load1 hT rfl rfl rfl (Rd1.row (Pick.app m (by (repeat (first | exact Pick.head | apply Pick.tail | apply Pick.app)))) (hat 6))) ?_
      all_goals refine JM.quiet rfl rfl rfl rfl (fun m => y_eqlB rfl rfl hbe) ?_
      all_goals refine JM.quiet rfl rfl rfl rfl (fun m => y_assign rfl) ?_
      all_goals refine JM.quiet rfl rfl rfl rfl (fun m => y_assign rfl) ?_
      all_goals refine JM.quiet rfl rfl rfl rfl (fun m => y_assign rfl) ?_
      all_goals refine JM.quiet rfl rfl rfl rfl (fun m => y_assign rfl) ?_
      all_goals refine JM.quiet rfl rfl rfl rfl (fun m => y_assign rfl) ?_
      all_goals refine JM.quiet rfl rfl rfl rfl (fun m => y_assign rfl) ?_
      all_goals refine JM.nil ?_
    all_goals refine JE.then_normal ?_
    all_goals
      exact J.closeK hk2 () trivial ⟨rfl, rfl, rfl, rfl, rfl, rfl, rfl, trivial⟩ (fun w9 h => h.sup (by (repeat (first | exact Sup.refl | apply Sup.cons (by (repeat (first | exact Pick.head | apply Pick.tail | apply Pick.app))) | apply Sup.app | apply Sup.skip | apply Sup.skips))))
  rintro _ _
  obtain ⟨bc, hbc⟩ : ∃ b, (bo && ba && bi) = b := ⟨_, rfl⟩
  rw [hbc] at r1 r2 r3 r4 r5 r8 ⊢
  refine J.seq ?_
  refine J.seq ?_
  refine J.region ?_
  refine JL.step (y_fieldAddr hT rfl rfl rfl rfl rfl rfl) rfl rfl rfl ?_
  refine JL.step (v := .int .i64 r.kind) (y_load1 hT rfl rfl rfl (Rd1.row (by (repeat (first | exact Pick.head | apply Pick.tail | apply Pick.app))) hk0)) rfl rfl rfl ?_
  refine JL.nil ?_
  refine JE.then_normal ?_
  refine J.block ?_
  refine J.seq ?_
  refine J.region ?_
  refine JL.step (y_eql rfl rfl) rfl rfl rfl (JL.step (y_assign rfl) rfl rfl rfl ?_)
  refine JL.nil ?_
  refine JE.then_normal ?_
  first | apply J.cond_dec rfl | apply J.cond rfl
  case' ht =>
    intro h
    try (first | (exfalso; omega) | (cases h; done) | (exfalso; simp at h; done) | subst h)
    all_goals
      refine J.seq ?_
      refine J.region ?_
      refine JL.step (y_move rfl) rfl rfl rfl (JL.step (y_move rfl) rfl rfl rfl ?_)
      all_goals (first | (refine JL.gsplit_dec rfl rfl rfl (fun h => ?_) (fun h => ?_) <;> try (first | (exfalso; omega) | exact absurd rfl h)) | (refine JL.gsplit rfl rfl rfl (fun h => ?_) (fun h => ?_) <;> try (first | cases h | (exfalso; simp at h; done))) | skip)
      all_goals (first | refine JL.gskip rfl rfl rfl rfl rfl rfl ?_ | refine JL.gskipU rfl rfl rfl rfl rfl ?_ | refine JL.gstep rfl rfl rfl (y_move rfl) rfl rfl ?_)
      all_goals (refine JL.step (y_pick rfl rfl rfl) rfl rfl rfl ?_)
      all_goals (refine JL.step (y_move rfl) rfl rfl rfl ?_)
      all_goals (first | (refine JL.gsplit_dec rfl rfl rfl (fun h => ?_) (fun h => ?_) <;> try (first | (exfalso; omega) | exact absurd rfl h)) | (refine JL.gsplit rfl rfl rfl (fun h => ?_) (fun h => ?_) <;> try (first | cases h | (exfalso; simp at h; done))) | skip)
      all_goals (first | refine JL.gskip rfl rfl rfl rfl rfl rfl ?_ | refine JL.gskipU rfl rfl rfl rfl rfl ?_ | refine JL.gstep rfl rfl rfl (y_move rfl) rfl rfl ?_)
      all_goals (refine JL.step (y_pick rfl rfl rfl) rfl rfl rfl ?_)
      all_goals (refine JL.step (y_move rfl) rfl rfl rfl ?_)
      all_goals (first | (refine JL.gsplit_dec rfl rfl rfl (fun h => ?_) (fun h => ?_) <;> try (first | (exfalso; omega) | exact absurd rfl h)) | (refine JL.gsplit rfl rfl rfl (fun h => ?_) (fun h => ?_) <;> try (first | cases h | (exfalso; simp at h; done))) | skip)
      all_goals (first | refine JL.gskip rfl rfl rfl rfl rfl rfl ?_ | refine JL.gskipU rfl rfl rfl rfl rfl ?_ | refine JL.gstep rfl rfl rfl (y_move rfl) rfl rfl ?_)
      all_goals (refine JL.step (y_pick rfl rfl rfl) rfl rfl rfl ?_)
      all_goals (refine JL.step (y_move rfl) rfl rfl rfl ?_)
      all_goals (first | (refine JL.gsplit_dec rfl rfl rfl (fun h => ?_) (fun h => ?_) <;> try (first | (exfalso; omega) | exact absurd rfl h)) | (refine JL.gsplit rfl rfl rfl (fun h => ?_) (fun h => ?_) <;> try (first | cases h | (exfalso; simp at h; done))) | skip)
      all_goals (first | refine JL.gskip rfl rfl rfl rfl rfl rfl ?_ | refine JL.gskipU rfl rfl rfl rfl rfl ?_ | refine JL.gstep rfl rfl rfl (y_move rfl) rfl rfl ?_)
      all_goals (refine JL.step (y_pick rfl rfl rfl) rfl rfl rfl ?_)
      all_goals (refine JL.step (y_assign rfl) rfl rfl rfl ?_)
      all_goals refine JL.nil ?_
      all_goals refine JE.then_normal ?_
      all_goals
        refine J.ret ?_
        refine JE.block_ret ?_
        refine JE.then_ret ?_
        refine JE.ret1 (.inl rfl) rfl rfl (by (first | exact RV.tmp rfl | exact RV.cell1 hT rfl rfl rfl (by (exact Rd1.row (by (repeat (first | exact Pick.head | apply Pick.tail | apply Pick.app))) (by rfl))) | exact RV.cellN hT rfl rfl rfl (by (first | exact RdN.rowAll (by (repeat (first | exact Pick.head | apply Pick.tail | apply Pick.app))) | exact RdN.own (by (repeat (first | exact Pick.head | apply Pick.tail | apply Pick.app))))) (by (first | rfl | assumption | (simp; done) | omega)))) ?_
        refine ⟨?_, fun w h => h.sup (by (repeat (first | exact Sup.refl | apply Sup.cons (by (repeat (first | exact Pick.head | apply Pick.tail | apply Pick.app))) | apply Sup.app | apply Sup.skip | apply Sup.skips)))⟩
        first
        | (have hk1 : r.kind = 1 := by omega
           rw [r1 hk1]
           first | rfl | (cases bn <;> cases bt <;> cases bs <;> cases bc <;> cases be <;> rfl) | (simp_all; done))
        | (have hk1 : r.kind = 2 ∨ r.kind = 6 := by omega
           rw [r2 hk1]
           first | rfl | (cases bk <;> cases bn <;> cases bt <;> cases bs <;> cases bc <;> cases be <;> rfl) | (simp_all; done))
        | (have hk1 : r.kind = 3 := by omega
           rw [r3 hk1]
           first
           | (have zz := hall2
              rw [hall2.1, decide_eq_true hall2.2, hb3']
              first | rfl | (cases bk <;> cases bt <;> cases bs <;> cases bc <;> cases be <;> cases b3 <;> rfl) | (simp_all; done))
           | (have zz := hbq
              have hyx : y = x := by
                refine Decidable.of_not_not fun q1 => ?_
                rw [decide_eq_false q1] at hbq
                first | cases hbq | (rw [hbq] at h; cases h)
              have hn : ¬ r.names.Nodup := by
                intro q1
                have := (List.getElem?_inj (by omega) q1).1 (by rw [hy, hyx, hx] : r.names[j]? = r.names[i]?)
                omega
              rw [decide_eq_false hn, Bool.and_false]
              rfl)
           | (have hn : r.names.all nameB = false := by
                rw [Bool.eq_false_iff]
                intro q1
                have := List.all_eq_true.1 q1 x (List.mem_of_getElem? hx)
                rw [hbx] at this
                cases this
              rw [hn]
              rfl))
        | (have hk1 : r.kind = 4 := by omega
           rw [r4 hk1, hok]
           first | rfl | (cases bk <;> cases bn <;> cases bt <;> cases bc <;> cases be <;> cases b4 <;> cases b5 <;> rfl) | (simp_all; done))
        | (have hk1 : r.kind = 5 := by omega
           rw [r5 hk1]
           first
           | (have zz := hall3
              rw [hall3, hb6']
              first | rfl | (cases bk <;> cases bn <;> cases bs <;> cases bc <;> cases be <;> cases b6 <;> rfl) | (simp_all; done))
           | (have hn : r.texts.all textB = false := by
                rw [Bool.eq_false_iff]
                intro q1
                have := List.all_eq_true.1 q1 x (List.mem_of_getElem? hx)
                rw [hbx] at this
                cases this
              rw [hn]
              rfl))
        | (have hk1 : r.kind = 7 := by omega
           rw [r7 hk1]
           first
           | (have zz := hall4
              rw [hall4]
              first | rfl | (cases bk <;> cases bn <;> cases bt <;> cases bs <;> cases be <;> rfl) | (simp_all; done))
           | (have hn : okN z = false := by
                rw [Bool.eq_false_iff]
                intro q1
                obtain ⟨e1, e2, _⟩ := okN_nat q1
                first | omega | (simp_all; done) | (simp_all; omega)
              have hm := List.mem_of_getElem? hz
              simp only [List.mem_cons, List.not_mem_nil, or_false] at hm
              have hn2 : (okN r.out && okN r.acked && okN r.inn) = false := by
                rcases hm with rfl | rfl | rfl
                · rw [hn]; rfl
                · rw [hn, Bool.and_false]; rfl
                · rw [hn, Bool.and_false]
              rw [hn2]
              rfl))
        | (have hk1 : r.kind = 8 := by omega
           rw [r8 hk1]
           first | rfl | (cases bk <;> cases bn <;> cases bt <;> cases bs <;> cases bc <;> cases bw <;> rfl) | (simp_all; done))
        | rw [r9 (by omega) (by omega) (by omega) (by omega) (by omega) (by omega) (by omega) (by omega)]
  case' hf =>
    intro h
    try (first | (exfalso; omega) | (cases h; done) | (exfalso; simp at h; done) | subst h)
    all_goals
      refine J.seq ?_
      refine J.seq ?_
      refine J.region ?_
      refine JL.step (y_eql rfl rfl) rfl rfl rfl (JL.step (y_assign rfl) rfl rfl rfl ?_)
      refine JL.nil ?_
      refine JE.then_normal ?_
      first | apply J.cond_dec rfl | apply J.cond rfl
      case' ht =>
        intro h
        try (first | (exfalso; omega) | (cases h; done) | (exfalso; simp at h; done) | subst h)
        all_goals
          refine J.skip ?_
      case' hf =>
        intro h
        try (first | (exfalso; omega) | (cases h; done) | (exfalso; simp at h; done) | subst h)
        all_goals
          refine J.region ?_
          refine JL.step (y_eql rfl rfl) rfl rfl rfl (JL.step (y_assign rfl) rfl rfl rfl ?_)
          refine JL.nil ?_
      all_goals refine JE.then_normal ?_
      all_goals
        first | apply J.cond_dec rfl | apply J.cond rfl
        case' ht =>
          intro h
          try (first | (exfalso; omega) | (cases h; done) | (exfalso; simp at h; done) | subst h)
          all_goals
            refine J.seq ?_
            refine J.region ?_
            refine JL.step (y_move rfl) rfl rfl rfl (JL.step (y_move rfl) rfl rfl rfl ?_)
            all_goals (first | (refine JL.gsplit_dec rfl rfl rfl (fun h => ?_) (fun h => ?_) <;> try (first | (exfalso; omega) | exact absurd rfl h)) | (refine JL.gsplit rfl rfl rfl (fun h => ?_) (fun h => ?_) <;> try (first | cases h | (exfalso; simp at h; done))) | skip)
            all_goals (first | refine JL.gskip rfl rfl rfl rfl rfl rfl ?_ | refine JL.gskipU rfl rfl rfl rfl rfl ?_ | refine JL.gstep rfl rfl rfl (y_move rfl) rfl rfl ?_)
            all_goals (refine JL.step (y_pick rfl rfl rfl) rfl rfl rfl ?_)
            all_goals (refine JL.step (y_move rfl) rfl rfl rfl ?_)
            all_goals (first | (refine JL.gsplit_dec rfl rfl rfl (fun h => ?_) (fun h => ?_) <;> try (first | (exfalso; omega) | exact absurd rfl h)) | (refine JL.gsplit rfl rfl rfl (fun h => ?_) (fun h => ?_) <;> try (first | cases h | (exfalso; simp at h; done))) | skip)
            all_goals (first | refine JL.gskip rfl rfl rfl rfl rfl rfl ?_ | refine JL.gskipU rfl rfl rfl rfl rfl ?_ | refine JL.gstep rfl rfl rfl (y_move rfl) rfl rfl ?_)
            all_goals (refine JL.step (y_pick rfl rfl rfl) rfl rfl rfl ?_)
            all_goals (refine JL.step (y_move rfl) rfl rfl rfl ?_)
            all_goals (first | (refine JL.gsplit_dec rfl rfl rfl (fun h => ?_) (fun h => ?_) <;> try (first | (exfalso; omega) | exact absurd rfl h)) | (refine JL.gsplit rfl rfl rfl (fun h => ?_) (fun h => ?_) <;> try (first | cases h | (exfalso; simp at h; done))) | skip)
            all_goals (first | refine JL.gskip rfl rfl rfl rfl rfl rfl ?_ | refine JL.gskipU rfl rfl rfl rfl rfl ?_ | refine JL.gstep rfl rfl rfl (y_move rfl) rfl rfl ?_)
            all_goals (refine JL.step (y_pick rfl rfl rfl) rfl rfl rfl ?_)
            all_goals (refine JL.step (y_move rfl) rfl rfl rfl ?_)
            all_goals (first | (refine JL.gsplit_dec rfl rfl rfl (fun h => ?_) (fun h => ?_) <;> try (first | (exfalso; omega) | exact absurd rfl h)) | (refine JL.gsplit rfl rfl rfl (fun h => ?_) (fun h => ?_) <;> try (first | cases h | (exfalso; simp at h; done))) | skip)
            all_goals (first | refine JL.gskip rfl rfl rfl rfl rfl rfl ?_ | refine JL.gskipU rfl rfl rfl rfl rfl ?_ | refine JL.gstep rfl rfl rfl (y_move rfl) rfl rfl ?_)
            all_goals (refine JL.step (y_pick rfl rfl rfl) rfl rfl rfl ?_)
            all_goals (refine JL.step (y_move rfl) rfl rfl rfl ?_)
            all_goals (first | (refine JL.gsplit_dec rfl rfl rfl (fun h => ?_) (fun h => ?_) <;> try (first | (exfalso; omega) | exact absurd rfl h)) | (refine JL.gsplit rfl rfl rfl (fun h => ?_) (fun h => ?_) <;> try (first | cases h | (exfalso; simp at h; done))) | skip)
            all_goals (first | refine JL.gskip rfl rfl rfl rfl rfl rfl ?_ | refine JL.gskipU rfl rfl rfl rfl rfl ?_ | refine JL.gstep rfl rfl rfl (y_move rfl) rfl rfl ?_)
            all_goals (refine JL.step (y_pick rfl rfl rfl) rfl rfl rfl ?_)
            all_goals (refine JL.step (y_assign rfl) rfl rfl rfl ?_)
            all_goals refine JL.nil ?_
            all_goals refine JE.then_normal ?_
            all_goals
              refine J.ret ?_
              refine JE.block_ret ?_
              refine JE.then_ret ?_
              refine JE.ret1 (.inl rfl) rfl rfl (by (first | exact RV.tmp rfl | exact RV.cell1 hT rfl rfl rfl (by (exact Rd1.row (by (repeat (first | exact Pick.head | apply Pick.tail | apply Pick.app))) (by rfl))) | exact RV.cellN hT rfl rfl rfl (by (first | exact RdN.rowAll (by (repeat (first | exact Pick.head | apply Pick.tail | apply Pick.app))) | exact RdN.own (by (repeat (first | exact Pick.head | apply Pick.tail | apply Pick.app))))) (by (first | rfl | assumption | (simp; done) | omega)))) ?_
              refine ⟨?_, fun w h => h.sup (by (repeat (first | exact Sup.refl | apply Sup.cons (by (repeat (first | exact Pick.head | apply Pick.tail | apply Pick.app))) | apply Sup.app | apply Sup.skip | apply Sup.skips)))⟩
              first
              | (have hk1 : r.kind = 1 := by omega
                 rw [r1 hk1]
                 first | rfl | (cases bn <;> cases bt <;> cases bs <;> cases bc <;> cases be <;> rfl) | (simp_all; done))
              | (have hk1 : r.kind = 2 ∨ r.kind = 6 := by omega
                 rw [r2 hk1]
                 first | rfl | (cases bk <;> cases bn <;> cases bt <;> cases bs <;> cases bc <;> cases be <;> rfl) | (simp_all; done))
              | (have hk1 : r.kind = 3 := by omega
                 rw [r3 hk1]
                 first
                 | (have zz := hall2
                    rw [hall2.1, decide_eq_true hall2.2, hb3']
                    first | rfl | (cases bk <;> cases bt <;> cases bs <;> cases bc <;> cases be <;> cases b3 <;> rfl) | (simp_all; done))
                 | (have zz := hbq
                    have hyx : y = x := by
                      refine Decidable.of_not_not fun q1 => ?_
                      rw [decide_eq_false q1] at hbq
                      first | cases hbq | (rw [hbq] at h; cases h)
                    have hn : ¬ r.names.Nodup := by
                      intro q1
                      have := (List.getElem?_inj (by omega) q1).1 (by rw [hy, hyx, hx] : r.names[j]? = r.names[i]?)
                      omega
                    rw [decide_eq_false hn, Bool.and_false]
                    rfl)
                 | (have hn : r.names.all nameB = false := by
                      rw [Bool.eq_false_iff]
                      intro q1
                      have := List.all_eq_true.1 q1 x (List.mem_of_getElem? hx)
                      rw [hbx] at this
                      cases this
                    rw [hn]
                    rfl))
              | (have hk1 : r.kind = 4 := by omega
                 rw [r4 hk1, hok]
                 first | rfl | (cases bk <;> cases bn <;> cases bt <;> cases bc <;> cases be <;> cases b4 <;> cases b5 <;> rfl) | (simp_all; done))
              | (have hk1 : r.kind = 5 := by omega
                 rw [r5 hk1]
                 first
                 | (have zz := hall3
                    rw [hall3, hb6']
                    first | rfl | (cases bk <;> cases bn <;> cases bs <;> cases bc <;> cases be <;> cases b6 <;> rfl) | (simp_all; done))
                 | (have hn : r.texts.all textB = false := by
                      rw [Bool.eq_false_iff]
                      intro q1
                      have := List.all_eq_true.1 q1 x (List.mem_of_getElem? hx)
                      rw [hbx] at this
                      cases this
                    rw [hn]
                    rfl))
              | (have hk1 : r.kind = 7 := by omega
                 rw [r7 hk1]
                 first
                 | (have zz := hall4
                    rw [hall4]
                    first | rfl | (cases bk <;> cases bn <;> cases bt <;> cases bs <;> cases be <;> rfl) | (simp_all; done))
                 | (have hn : okN z = false := by
                      rw [Bool.eq_false_iff]
                      intro q1
                      obtain ⟨e1, e2, _⟩ := okN_nat q1
                      first | omega | (simp_all; done) | (simp_all; omega)
                    have hm := List.mem_of_getElem? hz
                    simp only [List.mem_cons, List.not_mem_nil, or_false] at hm
                    have hn2 : (okN r.out && okN r.acked && okN r.inn) = false := by
                      rcases hm with rfl | rfl | rfl
                      · rw [hn]; rfl
                      · rw [hn, Bool.and_false]; rfl
                      · rw [hn, Bool.and_false]
                    rw [hn2]
                    rfl))
              | (have hk1 : r.kind = 8 := by omega
                 rw [r8 hk1]
                 first | rfl | (cases bk <;> cases bn <;> cases bt <;> cases bs <;> cases bc <;> cases bw <;> rfl) | (simp_all; done))
              | rw [r9 (by omega) (by omega) (by omega) (by omega) (by omega) (by omega) (by omega) (by omega)]
        case' hf =>
          intro h
          try (first | (exfalso; omega) | (cases h; done) | (exfalso; simp at h; done) | subst h)
          all_goals
            refine J.seq ?_
            refine J.region ?_
            refine JL.step (y_eql rfl rfl) rfl rfl rfl (JL.step (y_assign rfl) rfl rfl rfl ?_)
            refine JL.nil ?_
            refine JE.then_normal ?_
            first | apply J.cond_dec rfl | apply J.cond rfl
            case' ht =>
              intro h
              try (first | (exfalso; omega) | (cases h; done) | (exfalso; simp at h; done) | subst h)
              all_goals
                refine J.seq ?_
                refine J.seq ?_
                refine J.region ?_
                refine JL.step (y_fieldAddr hT rfl rfl rfl rfl rfl rfl) rfl rfl rfl ?_
                refine JL.step (y_load1 hT rfl rfl rfl (Rd1.row (by (repeat (first | exact Pick.head | apply Pick.tail | apply Pick.app))) (hat 0))) rfl rfl rfl ?_
                refine JL.step (y_len_slice hT rfl rfl rfl) rfl rfl rfl (JL.step (y_move rfl) rfl rfl rfl ?_)
                refine JL.nil ?_
                refine JE.then_normal ?_
                refine J.block ?_
                refine J.loop (α := Nat) (fun i => i ≤ r.names.length ∧ (r.names.take i).all nameB = true ∧ (r.names.take i).Nodup) (fun i => [(1, .pointer (some ⟨b1, 0, none⟩)), (3, .bool bk), (4, .bool bn), (5, .bool bt), (6, .bool bs), (7, .bool bc), (8, .bool be), (89, .slice p1 r.names.length c1), (90, .int .i64 r.names.length), (91, .int .i64 i)]) (fun _ => row b1 36 cs :: l) (fun i => r.names.length - i) 0 ⟨Nat.zero_le _, by simp, by simp⟩ ⟨rfl, rfl, rfl, rfl, rfl, rfl, rfl, rfl, rfl, rfl, trivial⟩ (fun w h => h) ?_
                rintro i ⟨hi, hall, hnd⟩
                try dsimp only
                refine J.seq ?_
                refine J.region ?_
                refine JL.step (y_lss rfl rfl) rfl rfl rfl ?_
                refine JL.nil ?_
                refine JE.then_normal ?_
                refine J.seq ?_
                first | apply J.cond_dec rfl | apply J.cond rfl
                case' ht =>
                  intro h
                  try (first | (exfalso; omega) | (cases h; done) | (exfalso; simp at h; done) | subst h)
                  all_goals
                    refine J.skip ?_
                case' hf =>
                  intro h
                  try (first | (exfalso; omega) | (cases h; done) | (exfalso; simp at h; done) | subst h)
                  all_goals
                    refine J.exit ?_
                    refine JE.then_exit ?_
                    refine JE.then_exit ?_
                    refine JE.block_exit ?_
                    refine JE.then_normal ?_
                    refine J.seq ?_
                    have hall2 : r.names.all nameB = true ∧ r.names.Nodup := by
                      obtain rfl : i = r.names.length := by omega
                      rw [List.take_length] at hall hnd
                      exact ⟨hall, hnd⟩
                    obtain ⟨b3, hb3⟩ : ∃ b, decide ((r.names.length : Int) ≤ 3) = b := ⟨_, rfl⟩
                    have hb3' : decide (r.names.length ≤ 3) = b3 := by rw [← hb3]; exact decide_eq_decide.2 (by omega)
                    refine J.region ?_
                    refine JL.step (y_move rfl) rfl rfl rfl (JL.step (y_move rfl) rfl rfl rfl ?_)
                    all_goals (first | (refine JL.gsplit_dec rfl rfl rfl (fun h => ?_) (fun h => ?_) <;> try (first | (exfalso; omega) | exact absurd rfl h)) | (refine JL.gsplit rfl rfl rfl (fun h => ?_) (fun h => ?_) <;> try (first | cases h | (exfalso; simp at h; done))) | skip)
                    all_goals (first | refine JL.gskip rfl rfl rfl rfl rfl rfl ?_ | refine JL.gskipU rfl rfl rfl rfl rfl ?_ | refine JL.gstep rfl rfl rfl (y_move rfl) rfl rfl ?_)
                    all_goals (refine JL.step (y_pick rfl rfl rfl) rfl rfl rfl ?_)
                    all_goals (refine JL.step (y_move rfl) rfl rfl rfl ?_)
                    all_goals (first | (refine JL.gsplit_dec rfl rfl rfl (fun h => ?_) (fun h => ?_) <;> try (first | (exfalso; omega) | exact absurd rfl h)) | (refine JL.gsplit rfl rfl rfl (fun h => ?_) (fun h => ?_) <;> try (first | cases h | (exfalso; simp at h; done))) | skip)
                    all_goals (first | refine JL.gskip rfl rfl rfl rfl rfl rfl ?_ | refine JL.gskipU rfl rfl rfl rfl rfl ?_ | refine JL.gstep rfl rfl rfl (y_move rfl) rfl rfl ?_)
                    all_goals (refine JL.step (y_pick rfl rfl rfl) rfl rfl rfl ?_)
                    all_goals (refine JL.step (y_move rfl) rfl rfl rfl ?_)
                    all_goals (first | (refine JL.gsplit_dec rfl rfl rfl (fun h => ?_) (fun h => ?_) <;> try (first | (exfalso; omega) | exact absurd rfl h)) | (refine JL.gsplit rfl rfl rfl (fun h => ?_) (fun h => ?_) <;> try (first | cases h | (exfalso; simp at h; done))) | skip)
                    all_goals (first | refine JL.gskip rfl rfl rfl rfl rfl rfl ?_ | refine JL.gskipU rfl rfl rfl rfl rfl ?_ | refine JL.gstep rfl rfl rfl (y_move rfl) rfl rfl ?_)
                    all_goals (refine JL.step (y_pick rfl rfl rfl) rfl rfl rfl ?_)
                    all_goals (refine JL.step (y_move rfl) rfl rfl rfl ?_)
                    all_goals (first | (refine JL.gsplit_dec rfl rfl rfl (fun h => ?_) (fun h => ?_) <;> try (first | (exfalso; omega) | exact absurd rfl h)) | (refine JL.gsplit rfl rfl rfl (fun h => ?_) (fun h => ?_) <;> try (first | cases h | (exfalso; simp at h; done))) | skip)
                    all_goals (first | refine JL.gskip rfl rfl rfl rfl rfl rfl ?_ | refine JL.gskipU rfl rfl rfl rfl rfl ?_ | refine JL.gstep rfl rfl rfl (y_move rfl) rfl rfl ?_)
                    all_goals (refine JL.step (y_pick rfl rfl rfl) rfl rfl rfl ?_)
                    all_goals (refine JL.step (y_move rfl) rfl rfl rfl ?_)
                    all_goals (first | (refine JL.gsplit_dec rfl rfl rfl (fun h => ?_) (fun h => ?_) <;> try (first | (exfalso; omega) | exact absurd rfl h)) | (refine JL.gsplit rfl rfl rfl (fun h => ?_) (fun h => ?_) <;> try (first | cases h | (exfalso; simp at h; done))) | skip)
                    all_goals (first | refine JL.gskip rfl rfl rfl rfl rfl rfl ?_ | refine JL.gskipU rfl rfl rfl rfl rfl ?_ | refine JL.gstep rfl rfl rfl (y_fieldAddr hT rfl rfl rfl rfl rfl rfl) rfl rfl ?_)
                    all_goals (first | refine JL.gskip rfl rfl rfl rfl rfl rfl ?_ | refine JL.gskipU rfl rfl rfl rfl rfl ?_ | refine JL.gstep rfl rfl rfl (y_load1 hT rfl rfl rfl (Rd1.row (by (repeat (first | exact Pick.head | apply Pick.tail | apply Pick.app))) (hat 0))) rfl rfl ?_)
                    all_goals (first | refine JL.gskip rfl rfl rfl rfl rfl rfl ?_ | refine JL.gskipU rfl rfl rfl rfl rfl ?_ | refine JL.gstep rfl rfl rfl (y_len_slice hT rfl rfl rfl) rfl rfl ?_)
                    all_goals (first | refine JL.gskip rfl rfl rfl rfl rfl rfl ?_ | refine JL.gskipU rfl rfl rfl rfl rfl ?_ | refine JL.gstep rfl rfl rfl (y_leqB rfl rfl hb3) rfl rfl ?_)
                    all_goals (refine JL.step (y_pick rfl rfl rfl) rfl rfl rfl ?_)
                    all_goals (refine JL.step (y_assign rfl) rfl rfl rfl ?_)
                    all_goals refine JL.nil ?_
                    all_goals refine JE.then_normal ?_
                    all_goals
                      refine J.ret ?_
                      refine JE.block_ret ?_
                      refine JE.then_ret ?_
                      refine JE.ret1 (.inl rfl) rfl rfl (by (first | exact RV.tmp rfl | exact RV.cell1 hT rfl rfl rfl (by (exact Rd1.row (by (repeat (first | exact Pick.head | apply Pick.tail | apply Pick.app))) (by rfl))) | exact RV.cellN hT rfl rfl rfl (by (first | exact RdN.rowAll (by (repeat (first | exact Pick.head | apply Pick.tail | apply Pick.app))) | exact RdN.own (by (repeat (first | exact Pick.head | apply Pick.tail | apply Pick.app))))) (by (first | rfl | assumption | (simp; done) | omega)))) ?_
                      refine ⟨?_, fun w h => h.sup (by (repeat (first | exact Sup.refl | apply Sup.cons (by (repeat (first | exact Pick.head | apply Pick.tail | apply Pick.app))) | apply Sup.app | apply Sup.skip | apply Sup.skips)))⟩
                      first
                      | (have hk1 : r.kind = 1 := by omega
                         rw [r1 hk1]
                         first | rfl | (cases bn <;> cases bt <;> cases bs <;> cases bc <;> cases be <;> rfl) | (simp_all; done))
                      | (have hk1 : r.kind = 2 ∨ r.kind = 6 := by omega
                         rw [r2 hk1]
                         first | rfl | (cases bk <;> cases bn <;> cases bt <;> cases bs <;> cases bc <;> cases be <;> rfl) | (simp_all; done))
                      | (have hk1 : r.kind = 3 := by omega
                         rw [r3 hk1]
                         first
                         | (have zz := hall2
                            rw [hall2.1, decide_eq_true hall2.2, hb3']
                            first | rfl | (cases bk <;> cases bt <;> cases bs <;> cases bc <;> cases be <;> cases b3 <;> rfl) | (simp_all; done))
                         | (have zz := hbq
                            have hyx : y = x := by
                              refine Decidable.of_not_not fun q1 => ?_
                              rw [decide_eq_false q1] at hbq
                              first | cases hbq | (rw [hbq] at h; cases h)
                            have hn : ¬ r.names.Nodup := by
                              intro q1
                              have := (List.getElem?_inj (by omega) q1).1 (by rw [hy, hyx, hx] : r.names[j]? = r.names[i]?)
                              omega
                            rw [decide_eq_false hn, Bool.and_false]
                            rfl)
                         | (have hn : r.names.all nameB = false := by
                              rw [Bool.eq_false_iff]
                              intro q1
                              have := List.all_eq_true.1 q1 x (List.mem_of_getElem? hx)
                              rw [hbx] at this
                              cases this
                            rw [hn]
                            rfl))
                      | (have hk1 : r.kind = 4 := by omega
                         rw [r4 hk1, hok]
                         first | rfl | (cases bk <;> cases bn <;> cases bt <;> cases bc <;> cases be <;> cases b4 <;> cases b5 <;> rfl) | (simp_all; done))
                      | (have hk1 : r.kind = 5 := by omega
                         rw [r5 hk1]
                         first
                         | (have zz := hall3
                            rw [hall3, hb6']
                            first | rfl | (cases bk <;> cases bn <;> cases bs <;> cases bc <;> cases be <;> cases b6 <;> rfl) | (simp_all; done))
                         | (have hn : r.texts.all textB = false := by
                              rw [Bool.eq_false_iff]
                              intro q1
                              have := List.all_eq_true.1 q1 x (List.mem_of_getElem? hx)
                              rw [hbx] at this
                              cases this
                            rw [hn]
                            rfl))
                      | (have hk1 : r.kind = 7 := by omega
                         rw [r7 hk1]
                         first
                         | (have zz := hall4
                            rw [hall4]
                            first | rfl | (cases bk <;> cases bn <;> cases bt <;> cases bs <;> cases be <;> rfl) | (simp_all; done))
                         | (have hn : okN z = false := by
                              rw [Bool.eq_false_iff]
                              intro q1
                              obtain ⟨e1, e2, _⟩ := okN_nat q1
                              first | omega | (simp_all; done) | (simp_all; omega)
                            have hm := List.mem_of_getElem? hz
                            simp only [List.mem_cons, List.not_mem_nil, or_false] at hm
                            have hn2 : (okN r.out && okN r.acked && okN r.inn) = false := by
                              rcases hm with rfl | rfl | rfl
                              · rw [hn]; rfl
                              · rw [hn, Bool.and_false]; rfl
                              · rw [hn, Bool.and_false]
                            rw [hn2]
                            rfl))
                      | (have hk1 : r.kind = 8 := by omega
                         rw [r8 hk1]
                         first | rfl | (cases bk <;> cases bn <;> cases bt <;> cases bs <;> cases bc <;> cases bw <;> rfl) | (simp_all; done))
                      | rw [r9 (by omega) (by omega) (by omega) (by omega) (by omega) (by omega) (by omega) (by omega)]
                all_goals refine JE.then_normal ?_
                all_goals
                  refine J.seq ?_
                  refine J.block ?_
                  refine J.seq ?_
                  have hlt : i < r.names.length := by omega
                  obtain ⟨x, hx⟩ : ∃ x, r.names[i]? = some x := ⟨r.names[i]'(by omega), List.getElem?_eq_getElem _⟩
                  obtain ⟨g1, o1, rfl, hrd1⟩ := h1.addr (by omega)
                  obtain ⟨hxB, hxl⟩ := hr.nb x (List.mem_of_getElem? hx)
                  obtain ⟨bx, hbx⟩ : ∃ b, nameB x = b := ⟨_, rfl⟩
                  have hcap := h1.le
                  refine J.region ?_
                  refine JL.step (y_move rfl) rfl rfl rfl ?_
                  refine JL.step (y_indexAddr_slice hT rfl rfl rfl rfl rfl (by (first | omega | exact Nat.le_of_ble_eq_true rfl | decide | (simp; omega))) (by (first | omega | exact Nat.le_of_ble_eq_true rfl | decide | (simp; omega)))) rfl rfl rfl ?_
                  refine JL.step (y_load1 hT rfl rfl rfl (Rd1.elem (i := i) (v := .string (strOf x)) ((hrd1 []).cons _) (strs_at hx))) rfl rfl rfl ?_
                  refine JL.step (y_assign rfl) rfl rfl rfl (JL.step (y_assign rfl) rfl rfl rfl ?_)
                  refine JL.nil ?_
                  refine JE.then_normal ?_
                  refine J.seq ?_
                  refine J.seq ?_
                  rcases bx with _ | _
                  all_goals
                    refine J.region ?_
                    refine JL.step (y_move rfl) rfl rfl rfl ?_
                    refine JL.loud rfl (l_callF e48 rfl rfl (hbx ▸ rname_spec E x _ hxB (by omega)) ?_)
                    rintro _ _ ⟨rfl, rfl⟩
                    refine JL.step (y_not rfl) rfl rfl rfl ?_
                    refine JL.nil ?_
                  all_goals refine JE.then_normal ?_
                  all_goals
                    first | apply J.cond_dec rfl | apply J.cond rfl
                    case' ht =>
                      intro h
                      try (first | (exfalso; omega) | (cases h; done) | (exfalso; simp at h; done) | subst h)
                      all_goals
                        refine J.seq ?_
                        refine J.region ?_
                        refine JL.step (y_assign rfl) rfl rfl rfl ?_
                        refine JL.nil ?_
                        refine JE.then_normal ?_
                        refine J.ret ?_
                        refine JE.then_ret ?_
                        refine JE.block_ret ?_
                        refine JE.then_ret ?_
                        refine JE.then_ret ?_
                        refine JE.block_ret ?_
                        refine JE.then_ret ?_
                        refine JE.block_ret ?_
                        refine JE.then_ret ?_
                        refine JE.ret1 (.inl rfl) rfl rfl (by (first | exact RV.tmp rfl | exact RV.cell1 hT rfl rfl rfl (by (exact Rd1.row (by (repeat (first | exact Pick.head | apply Pick.tail | apply Pick.app))) (by rfl))) | exact RV.cellN hT rfl rfl rfl (by (first | exact RdN.rowAll (by (repeat (first | exact Pick.head | apply Pick.tail | apply Pick.app))) | exact RdN.own (by (repeat (first | exact Pick.head | apply Pick.tail | apply Pick.app))))) (by (first | rfl | assumption | (simp; done) | omega)))) ?_
                        refine ⟨?_, fun w h => h.sup (by (repeat (first | exact Sup.refl | apply Sup.cons (by (repeat (first | exact Pick.head | apply Pick.tail | apply Pick.app))) | apply Sup.app | apply Sup.skip | apply Sup.skips)))⟩
                        first
                        | (have hk1 : r.kind = 1 := by omega
                           rw [r1 hk1]
                           first | rfl | (cases bn <;> cases bt <;> cases bs <;> cases bc <;> cases be <;> rfl) | (simp_all; done))
                        | (have hk1 : r.kind = 2 ∨ r.kind = 6 := by omega
                           rw [r2 hk1]
                           first | rfl | (cases bk <;> cases bn <;> cases bt <;> cases bs <;> cases bc <;> cases be <;> rfl) | (simp_all; done))
                        | (have hk1 : r.kind = 3 := by omega
                           rw [r3 hk1]
                           first
                           | (have zz := hall2
                              rw [hall2.1, decide_eq_true hall2.2, hb3']
                              first | rfl | (cases bk <;> cases bt <;> cases bs <;> cases bc <;> cases be <;> cases b3 <;> rfl) | (simp_all; done))
                           | (have zz := hbq
                              have hyx : y = x := by
                                refine Decidable.of_not_not fun q1 => ?_
                                rw [decide_eq_false q1] at hbq
                                first | cases hbq | (rw [hbq] at h; cases h)
                              have hn : ¬ r.names.Nodup := by
                                intro q1
                                have := (List.getElem?_inj (by omega) q1).1 (by rw [hy, hyx, hx] : r.names[j]? = r.names[i]?)
                                omega
                              rw [decide_eq_false hn, Bool.and_false]
                              rfl)
                           | (have hn : r.names.all nameB = false := by
                                rw [Bool.eq_false_iff]
                                intro q1
                                have := List.all_eq_true.1 q1 x (List.mem_of_getElem? hx)
                                rw [hbx] at this
                                cases this
                              rw [hn]
                              rfl))
                        | (have hk1 : r.kind = 4 := by omega
                           rw [r4 hk1, hok]
                           first | rfl | (cases bk <;> cases bn <;> cases bt <;> cases bc <;> cases be <;> cases b4 <;> cases b5 <;> rfl) | (simp_all; done))
                        | (have hk1 : r.kind = 5 := by omega
                           rw [r5 hk1]
                           first
                           | (have zz := hall3
                              rw [hall3, hb6']
                              first | rfl | (cases bk <;> cases bn <;> cases bs <;> cases bc <;> cases be <;> cases b6 <;> rfl) | (simp_all; done))
                           | (have hn : r.texts.all textB = false := by
                                rw [Bool.eq_false_iff]
                                intro q1
                                have := List.all_eq_true.1 q1 x (List.mem_of_getElem? hx)
                                rw [hbx] at this
                                cases this
                              rw [hn]
                              rfl))
                        | (have hk1 : r.kind = 7 := by omega
                           rw [r7 hk1]
                           first
                           | (have zz := hall4
                              rw [hall4]
                              first | rfl | (cases bk <;> cases bn <;> cases bt <;> cases bs <;> cases be <;> rfl) | (simp_all; done))
                           | (have hn : okN z = false := by
                                rw [Bool.eq_false_iff]
                                intro q1
                                obtain ⟨e1, e2, _⟩ := okN_nat q1
                                first | omega | (simp_all; done) | (simp_all; omega)
                              have hm := List.mem_of_getElem? hz
                              simp only [List.mem_cons, List.not_mem_nil, or_false] at hm
                              have hn2 : (okN r.out && okN r.acked && okN r.inn) = false := by
                                rcases hm with rfl | rfl | rfl
                                · rw [hn]; rfl
                                · rw [hn, Bool.and_false]; rfl
                                · rw [hn, Bool.and_false]
                              rw [hn2]
                              rfl))
                        | (have hk1 : r.kind = 8 := by omega
                           rw [r8 hk1]
                           first | rfl | (cases bk <;> cases bn <;> cases bt <;> cases bs <;> cases bc <;> cases bw <;> rfl) | (simp_all; done))
                        | rw [r9 (by omega) (by omega) (by omega) (by omega) (by omega) (by omega) (by omega) (by omega)]
                    case' hf =>
                      intro h
                      try (first | (exfalso; omega) | (cases h; done) | (exfalso; simp at h; done) | subst h)
                      all_goals
                        refine J.skip ?_
                  all_goals refine JE.then_normal ?_
                  all_goals
                    refine J.seq ?_
                    refine J.region ?_
                    refine JL.step (y_fieldAddr hT rfl rfl rfl rfl rfl rfl) rfl rfl rfl ?_
                    refine JL.step (y_load1 hT rfl rfl rfl (Rd1.row (by (repeat (first | exact Pick.head | apply Pick.tail | apply Pick.app))) (hat 0))) rfl rfl rfl ?_
                    refine JL.step (y_move rfl) rfl rfl rfl ?_
                    refine JL.step (v := .slice (some ⟨g1, o1, none⟩) i c1) (Y.cast (y_slice (b := g1) (off := o1) (lo := 0) (hi := i) hT rfl rfl rfl rfl (.inl ⟨rfl, rfl⟩) (.inr ⟨_, _, _, rfl, rfl, rfl⟩) (Nat.zero_le _) (by omega) (by omega) (.inl rfl)) (by rw [if_neg (by omega)]; rfl)) rfl rfl rfl ?_
                    refine JL.step (y_len_slice hT rfl rfl rfl) rfl rfl rfl (JL.step (y_move rfl) rfl rfl rfl ?_)
                    refine JL.nil ?_
                    refine JE.then_normal ?_
                    refine J.block ?_
                    refine J.loop (α := Nat) (fun j => j ≤ i ∧ ∀ y ∈ r.names.take j, y ≠ x) (fun j => [(1, .pointer (some ⟨b1, 0, none⟩)), (3, .bool bk), (4, .bool bn), (5, .bool bt), (6, .bool bs), (7, .bool bc), (8, .bool be), (89, .slice (some ⟨g1, o1, none⟩) r.names.length c1), (90, .int .i64 r.names.length), (91, .int .i64 i), (10, .string (strOf x)), (102, .slice (some ⟨g1, o1, none⟩) i c1), (103, .int .i64 i), (104, .int .i64 j)]) (fun _ => row b1 36 cs :: l) (fun j => i - j) 0 ⟨Nat.zero_le _, by simp⟩ ⟨rfl, rfl, rfl, rfl, rfl, rfl, rfl, rfl, rfl, rfl, rfl, rfl, rfl, rfl, trivial⟩ (fun w h => h) ?_
                    rintro j ⟨hj, hno⟩
                    try dsimp only
                    refine J.seq ?_
                    refine J.region ?_
                    refine JL.step (y_lss rfl rfl) rfl rfl rfl ?_
                    refine JL.nil ?_
                    refine JE.then_normal ?_
                    refine J.seq ?_
                    first | apply J.cond_dec rfl | apply J.cond rfl
                    case' ht =>
                      intro h
                      try (first | (exfalso; omega) | (cases h; done) | (exfalso; simp at h; done) | subst h)
                      all_goals
                        refine J.skip ?_
                    case' hf =>
                      intro h
                      try (first | (exfalso; omega) | (cases h; done) | (exfalso; simp at h; done) | subst h)
                      all_goals
                        refine J.exit ?_
                        refine JE.then_exit ?_
                        refine JE.then_exit ?_
                        refine JE.block_exit ?_
                        refine JE.block_normal ?_
                        refine JE.then_normal ?_
                        refine J.region ?_
                        refine JL.step (y_add rfl rfl (by (first | exact wrap_i64 (by omega) (by omega) | rfl))) rfl rfl rfl ?_
                        refine JL.step (y_move rfl) rfl rfl rfl ?_
                        refine JL.nil ?_
                        obtain rfl : j = i := by omega
                        exact JE.round (s := j) (j + 1) ⟨by omega, by
                          rw [List.take_add_one, hx, Option.toList_some, List.all_append, hall, List.all_cons, hbx]
                          rfl, by
                          rw [List.take_add_one, hx, Option.toList_some]
                          refine List.nodup_append.2 ⟨hnd, by simp, ?_⟩
                          intro a ha b hb
                          rw [List.mem_singleton] at hb
                          rw [hb]
                          exact hno a ha⟩ ⟨rfl, rfl, rfl, rfl, rfl, rfl, rfl, rfl, rfl, rfl, trivial⟩ (fun w h => h) (by omega)
                    all_goals refine JE.then_normal ?_
                    all_goals
                      refine J.seq ?_
                      refine J.block ?_
                      refine J.seq ?_
                      have hjt : j < i := by omega
                      obtain ⟨y, hy⟩ : ∃ y, r.names[j]? = some y := ⟨r.names[j]'(by omega), List.getElem?_eq_getElem _⟩
                      obtain ⟨bq, hbq⟩ : ∃ b, b = decide (y = x) := ⟨_, rfl⟩
                      refine J.region ?_
                      refine JL.step (y_indexAddr_slice hT rfl rfl rfl rfl rfl (by (first | omega | exact Nat.le_of_ble_eq_true rfl | decide | (simp; omega))) (by (first | omega | exact Nat.le_of_ble_eq_true rfl | decide | (simp; omega)))) rfl rfl rfl ?_
                      refine JL.step (y_load1 hT rfl rfl rfl (Rd1.elem (i := j) (v := .string (strOf y)) ((hrd1 []).cons _) (strs_at hy))) rfl rfl rfl ?_
                      refine JL.step (y_assign rfl) rfl rfl rfl ?_
                      refine JL.nil ?_
                      refine JE.then_normal ?_
                      refine J.seq ?_
                      refine J.region ?_
                      refine JL.step (y_move rfl) rfl rfl rfl (JL.step (y_move rfl) rfl rfl rfl ?_)
                      refine JL.step (y_eqS (hr.nb y (List.mem_of_getElem? hy)).1 hxB rfl rfl hbq) rfl rfl rfl ?_
                      refine JL.nil ?_
                      refine JE.then_normal ?_
                      first | apply J.cond_dec rfl | apply J.cond rfl
                      case' ht =>
                        intro h
                        try (first | (exfalso; omega) | (cases h; done) | (exfalso; simp at h; done) | subst h)
                        all_goals
                          refine J.seq ?_
                          refine J.region ?_
                          refine JL.step (y_assign rfl) rfl rfl rfl ?_
                          refine JL.nil ?_
                          refine JE.then_normal ?_
                          refine J.ret ?_
                          refine JE.block_ret ?_
                          refine JE.then_ret ?_
                          refine JE.then_ret ?_
                          refine JE.block_ret ?_
                          refine JE.block_ret ?_
                          refine JE.then_ret ?_
                          refine JE.then_ret ?_
                          refine JE.block_ret ?_
                          refine JE.then_ret ?_
                          refine JE.block_ret ?_
                          refine JE.then_ret ?_
                          refine JE.ret1 (.inl rfl) rfl rfl (by (first | exact RV.tmp rfl | exact RV.cell1 hT rfl rfl rfl (by (exact Rd1.row (by (repeat (first | exact Pick.head | apply Pick.tail | apply Pick.app))) (by rfl))) | exact RV.cellN hT rfl rfl rfl (by (first | exact RdN.rowAll (by (repeat (first | exact Pick.head | apply Pick.tail | apply Pick.app))) | exact RdN.own (by (repeat (first | exact Pick.head | apply Pick.tail | apply Pick.app))))) (by (first | rfl | assumption | (simp; done) | omega)))) ?_
                          refine ⟨?_, fun w h => h.sup (by (repeat (first | exact Sup.refl | apply Sup.cons (by (repeat (first | exact Pick.head | apply Pick.tail | apply Pick.app))) | apply Sup.app | apply Sup.skip | apply Sup.skips)))⟩
                          first
                          | (have hk1 : r.kind = 1 := by omega
                             rw [r1 hk1]
                             first | rfl | (cases bn <;> cases bt <;> cases bs <;> cases bc <;> cases be <;> rfl) | (simp_all; done))
                          | (have hk1 : r.kind = 2 ∨ r.kind = 6 := by omega
                             rw [r2 hk1]
                             first | rfl | (cases bk <;> cases bn <;> cases bt <;> cases bs <;> cases bc <;> cases be <;> rfl) | (simp_all; done))
                          | (have hk1 : r.kind = 3 := by omega
                             rw [r3 hk1]
                             first
                             | (have zz := hall2
                                rw [hall2.1, decide_eq_true hall2.2, hb3']
                                first | rfl | (cases bk <;> cases bt <;> cases bs <;> cases bc <;> cases be <;> cases b3 <;> rfl) | (simp_all; done))
                             | (have zz := hbq
                                have hyx : y = x := by
                                  refine Decidable.of_not_not fun q1 => ?_
                                  rw [decide_eq_false q1] at hbq
                                  first | cases hbq | (rw [hbq] at h; cases h)
                                have hn : ¬ r.names.Nodup := by
                                  intro q1
                                  have := (List.getElem?_inj (by omega) q1).1 (by rw [hy, hyx, hx] : r.names[j]? = r.names[i]?)
                                  omega
                                rw [decide_eq_false hn, Bool.and_false]
                                rfl)
                             | (have hn : r.names.all nameB = false := by
                                  rw [Bool.eq_false_iff]
                                  intro q1
                                  have := List.all_eq_true.1 q1 x (List.mem_of_getElem? hx)
                                  rw [hbx] at this
                                  cases this
                                rw [hn]
                                rfl))
                          | (have hk1 : r.kind = 4 := by omega
                             rw [r4 hk1, hok]
                             first | rfl | (cases bk <;> cases bn <;> cases bt <;> cases bc <;> cases be <;> cases b4 <;> cases b5 <;> rfl) | (simp_all; done))
                          | (have hk1 : r.kind = 5 := by omega
                             rw [r5 hk1]
                             first
                             | (have zz := hall3
                                rw [hall3, hb6']
                                first | rfl | (cases bk <;> cases bn <;> cases bs <;> cases bc <;> cases be <;> cases b6 <;> rfl) | (simp_all; done))
                             | (have hn : r.texts.all textB = false := by
                                  rw [Bool.eq_false_iff]
                                  intro q1
                                  have := List.all_eq_true.1 q1 x (List.mem_of_getElem? hx)
                                  rw [hbx] at this
                                  cases this
                                rw [hn]
                                rfl))
                          | (have hk1 : r.kind = 7 := by omega
                             rw [r7 hk1]
                             first
                             | (have zz := hall4
                                rw [hall4]
                                first | rfl | (cases bk <;> cases bn <;> cases bt <;> cases bs <;> cases be <;> rfl) | (simp_all; done))
                             | (have hn : okN z = false := by
                                  rw [Bool.eq_false_iff]
                                  intro q1
                                  obtain ⟨e1, e2, _⟩ := okN_nat q1
                                  first | omega | (simp_all; done) | (simp_all; omega)
                                have hm := List.mem_of_getElem? hz
                                simp only [List.mem_cons, List.not_mem_nil, or_false] at hm
                                have hn2 : (okN r.out && okN r.acked && okN r.inn) = false := by
                                  rcases hm with rfl | rfl | rfl
                                  · rw [hn]; rfl
                                  · rw [hn, Bool.and_false]; rfl
                                  · rw [hn, Bool.and_false]
                                rw [hn2]
                                rfl))
                          | (have hk1 : r.kind = 8 := by omega
                             rw [r8 hk1]
                             first | rfl | (cases bk <;> cases bn <;> cases bt <;> cases bs <;> cases bc <;> cases bw <;> rfl) | (simp_all; done))
                          | rw [r9 (by omega) (by omega) (by omega) (by omega) (by omega) (by omega) (by omega) (by omega)]
                      case' hf =>
                        intro h
                        try (first | (exfalso; omega) | (cases h; done) | (exfalso; simp at h; done) | subst h)
                        all_goals
                          refine J.skip ?_
                      all_goals refine JE.block_normal ?_
                      all_goals refine JE.then_normal ?_
                      all_goals
                        refine J.region ?_
                        refine JL.step (y_add rfl rfl (by (first | exact wrap_i64 (by omega) (by omega) | rfl))) rfl rfl rfl ?_
                        refine JL.step (y_move rfl) rfl rfl rfl ?_
                        refine JL.nil ?_
                    all_goals
                      have hyx : ¬ y = x := by
                        intro q1
                        rw [decide_eq_true q1] at hbq
                        first | cases hbq | (rw [hbq] at h; cases h)
                      exact JE.round (s := j) (j + 1) ⟨by omega, fun z hz => by
                        rw [List.take_add_one, hy, Option.toList_some, List.mem_append, List.mem_singleton] at hz
                        rcases hz with hz | rfl
                        · exact hno z hz
                        · exact hyx⟩ ⟨rfl, rfl, rfl, rfl, rfl, rfl, rfl, rfl, rfl, rfl, rfl, rfl, rfl, rfl, trivial⟩ (fun w h => h) (by omega)
            case' hf =>
              intro h
              try (first | (exfalso; omega) | (cases h; done) | (exfalso; simp at h; done) | subst h)
              all_goals
                refine J.seq ?_
                refine J.region ?_
                refine JL.step (y_eql rfl rfl) rfl rfl rfl (JL.step (y_assign rfl) rfl rfl rfl ?_)
                refine JL.nil ?_
                refine JE.then_normal ?_
                first | apply J.cond_dec rfl | apply J.cond rfl
                case' ht =>
                  intro h
                  try (first | (exfalso; omega) | (cases h; done) | (exfalso; simp at h; done) | subst h)
                  all_goals
                    refine J.seq ?_
                    obtain ⟨b4, hb4⟩ : ∃ b, decide (0 ≤ r.seq) = b := ⟨_, rfl⟩
                    obtain ⟨b5, hb5⟩ : ∃ b, decide (r.seq ≤ 999999999) = b := ⟨_, rfl⟩
                    have hok : okN r.seq = (b4 && b5) := by unfold okN; rw [hb4, hb5]
                    refine J.region ?_
                    refine JL.step (y_move rfl) rfl rfl rfl (JL.step (y_move rfl) rfl rfl rfl ?_)
                    all_goals (first | (refine JL.gsplit_dec rfl rfl rfl (fun h => ?_) (fun h => ?_) <;> try (first | (exfalso; omega) | exact absurd rfl h)) | (refine JL.gsplit rfl rfl rfl (fun h => ?_) (fun h => ?_) <;> try (first | cases h | (exfalso; simp at h; done))) | skip)
                    all_goals (first | refine JL.gskip rfl rfl rfl rfl rfl rfl ?_ | refine JL.gskipU rfl rfl rfl rfl rfl ?_ | refine JL.gstep rfl rfl rfl (y_move rfl) rfl rfl ?_)
                    all_goals (refine JL.step (y_pick rfl rfl rfl) rfl rfl rfl ?_)
                    all_goals (refine JL.step (y_move rfl) rfl rfl rfl ?_)
                    all_goals (first | (refine JL.gsplit_dec rfl rfl rfl (fun h => ?_) (fun h => ?_) <;> try (first | (exfalso; omega) | exact absurd rfl h)) | (refine JL.gsplit rfl rfl rfl (fun h => ?_) (fun h => ?_) <;> try (first | cases h | (exfalso; simp at h; done))) | skip)
                    all_goals (first | refine JL.gskip rfl rfl rfl rfl rfl rfl ?_ | refine JL.gskipU rfl rfl rfl rfl rfl ?_ | refine JL.gstep rfl rfl rfl (y_move rfl) rfl rfl ?_)
                    all_goals (refine JL.step (y_pick rfl rfl rfl) rfl rfl rfl ?_)
                    all_goals (refine JL.step (y_move rfl) rfl rfl rfl ?_)
                    all_goals (first | (refine JL.gsplit_dec rfl rfl rfl (fun h => ?_) (fun h => ?_) <;> try (first | (exfalso; omega) | exact absurd rfl h)) | (refine JL.gsplit rfl rfl rfl (fun h => ?_) (fun h => ?_) <;> try (first | cases h | (exfalso; simp at h; done))) | skip)
                    all_goals (first | refine JL.gskip rfl rfl rfl rfl rfl rfl ?_ | refine JL.gskipU rfl rfl rfl rfl rfl ?_ | refine JL.gstep rfl rfl rfl (y_move rfl) rfl rfl ?_)
                    all_goals (refine JL.step (y_pick rfl rfl rfl) rfl rfl rfl ?_)
                    all_goals (refine JL.step (y_move rfl) rfl rfl rfl ?_)
                    all_goals (first | (refine JL.gsplit_dec rfl rfl rfl (fun h => ?_) (fun h => ?_) <;> try (first | (exfalso; omega) | exact absurd rfl h)) | (refine JL.gsplit rfl rfl rfl (fun h => ?_) (fun h => ?_) <;> try (first | cases h | (exfalso; simp at h; done))) | skip)
                    all_goals (first | refine JL.gskip rfl rfl rfl rfl rfl rfl ?_ | refine JL.gskipU rfl rfl rfl rfl rfl ?_ | refine JL.gstep rfl rfl rfl (y_move rfl) rfl rfl ?_)
                    all_goals (refine JL.step (y_pick rfl rfl rfl) rfl rfl rfl ?_)
                    all_goals (refine JL.step (y_move rfl) rfl rfl rfl ?_)
                    all_goals (first | (refine JL.gsplit_dec rfl rfl rfl (fun h => ?_) (fun h => ?_) <;> try (first | (exfalso; omega) | exact absurd rfl h)) | (refine JL.gsplit rfl rfl rfl (fun h => ?_) (fun h => ?_) <;> try (first | cases h | (exfalso; simp at h; done))) | skip)
                    all_goals (first | refine JL.gskip rfl rfl rfl rfl rfl rfl ?_ | refine JL.gskipU rfl rfl rfl rfl rfl ?_ | refine JL.gstep rfl rfl rfl (y_fieldAddr hT rfl rfl rfl rfl rfl rfl) rfl rfl ?_)
                    all_goals (first | refine JL.gskip rfl rfl rfl rfl rfl rfl ?_ | refine JL.gskipU rfl rfl rfl rfl rfl ?_ | refine JL.gstep rfl rfl rfl (y_load1 hT rfl rfl rfl (Rd1.row (by (repeat (first | exact Pick.head | apply Pick.tail | apply Pick.app))) (hat 2))) rfl rfl ?_)
                    all_goals (first | refine JL.gskip rfl rfl rfl rfl rfl rfl ?_ | refine JL.gskipU rfl rfl rfl rfl rfl ?_ | refine JL.gstep rfl rfl rfl (y_geqB rfl rfl hb4) rfl rfl ?_)
                    all_goals (refine JL.step (y_pick rfl rfl rfl) rfl rfl rfl ?_)
                    all_goals (refine JL.step (y_move rfl) rfl rfl rfl ?_)
                    all_goals (first | (refine JL.gsplit_dec rfl rfl rfl (fun h => ?_) (fun h => ?_) <;> try (first | (exfalso; omega) | exact absurd rfl h)) | (refine JL.gsplit rfl rfl rfl (fun h => ?_) (fun h => ?_) <;> try (first | cases h | (exfalso; simp at h; done))) | skip)
                    all_goals (first | refine JL.gskip rfl rfl rfl rfl rfl rfl ?_ | refine JL.gskipU rfl rfl rfl rfl rfl ?_ | refine JL.gstep rfl rfl rfl (y_fieldAddr hT rfl rfl rfl rfl rfl rfl) rfl rfl ?_)
                    all_goals (first | refine JL.gskip rfl rfl rfl rfl rfl rfl ?_ | refine JL.gskipU rfl rfl rfl rfl rfl ?_ | refine JL.gstep rfl rfl rfl (y_load1 hT rfl rfl rfl (Rd1.row (by (repeat (first | exact Pick.head | apply Pick.tail | apply Pick.app))) (hat 2))) rfl rfl ?_)
                    all_goals (first | refine JL.gskip rfl rfl rfl rfl rfl rfl ?_ | refine JL.gskipU rfl rfl rfl rfl rfl ?_ | refine JL.gstep rfl rfl rfl (y_leqB rfl rfl hb5) rfl rfl ?_)
                    all_goals (refine JL.step (y_pick rfl rfl rfl) rfl rfl rfl ?_)
                    all_goals (refine JL.step (y_assign rfl) rfl rfl rfl ?_)
                    all_goals refine JL.nil ?_
                    all_goals refine JE.then_normal ?_
                    all_goals
                      refine J.ret ?_
                      refine JE.block_ret ?_
                      refine JE.then_ret ?_
                      refine JE.ret1 (.inl rfl) rfl rfl (by (first | exact RV.tmp rfl | exact RV.cell1 hT rfl rfl rfl (by (exact Rd1.row (by (repeat (first | exact Pick.head | apply Pick.tail | apply Pick.app))) (by rfl))) | exact RV.cellN hT rfl rfl rfl (by (first | exact RdN.rowAll (by (repeat (first | exact Pick.head | apply Pick.tail | apply Pick.app))) | exact RdN.own (by (repeat (first | exact Pick.head | apply Pick.tail | apply Pick.app))))) (by (first | rfl | assumption | (simp; done) | omega)))) ?_
                      refine ⟨?_, fun w h => h.sup (by (repeat (first | exact Sup.refl | apply Sup.cons (by (repeat (first | exact Pick.head | apply Pick.tail | apply Pick.app))) | apply Sup.app | apply Sup.skip | apply Sup.skips)))⟩
                      first
                      | (have hk1 : r.kind = 1 := by omega
                         rw [r1 hk1]
                         first | rfl | (cases bn <;> cases bt <;> cases bs <;> cases bc <;> cases be <;> rfl) | (simp_all; done))
                      | (have hk1 : r.kind = 2 ∨ r.kind = 6 := by omega
                         rw [r2 hk1]
                         first | rfl | (cases bk <;> cases bn <;> cases bt <;> cases bs <;> cases bc <;> cases be <;> rfl) | (simp_all; done))
                      | (have hk1 : r.kind = 3 := by omega
                         rw [r3 hk1]
                         first
                         | (have zz := hall2
                            rw [hall2.1, decide_eq_true hall2.2, hb3']
                            first | rfl | (cases bk <;> cases bt <;> cases bs <;> cases bc <;> cases be <;> cases b3 <;> rfl) | (simp_all; done))
                         | (have zz := hbq
                            have hyx : y = x := by
                              refine Decidable.of_not_not fun q1 => ?_
                              rw [decide_eq_false q1] at hbq
                              first | cases hbq | (rw [hbq] at h; cases h)
                            have hn : ¬ r.names.Nodup := by
                              intro q1
                              have := (List.getElem?_inj (by omega) q1).1 (by rw [hy, hyx, hx] : r.names[j]? = r.names[i]?)
                              omega
                            rw [decide_eq_false hn, Bool.and_false]
                            rfl)
                         | (have hn : r.names.all nameB = false := by
                              rw [Bool.eq_false_iff]
                              intro q1
                              have := List.all_eq_true.1 q1 x (List.mem_of_getElem? hx)
                              rw [hbx] at this
                              cases this
                            rw [hn]
                            rfl))
                      | (have hk1 : r.kind = 4 := by omega
                         rw [r4 hk1, hok]
                         first | rfl | (cases bk <;> cases bn <;> cases bt <;> cases bc <;> cases be <;> cases b4 <;> cases b5 <;> rfl) | (simp_all; done))
                      | (have hk1 : r.kind = 5 := by omega
                         rw [r5 hk1]
                         first
                         | (have zz := hall3
                            rw [hall3, hb6']
                            first | rfl | (cases bk <;> cases bn <;> cases bs <;> cases bc <;> cases be <;> cases b6 <;> rfl) | (simp_all; done))
                         | (have hn : r.texts.all textB = false := by
                              rw [Bool.eq_false_iff]
                              intro q1
                              have := List.all_eq_true.1 q1 x (List.mem_of_getElem? hx)
                              rw [hbx] at this
                              cases this
                            rw [hn]
                            rfl))
                      | (have hk1 : r.kind = 7 := by omega
                         rw [r7 hk1]
                         first
                         | (have zz := hall4
                            rw [hall4]
                            first | rfl | (cases bk <;> cases bn <;> cases bt <;> cases bs <;> cases be <;> rfl) | (simp_all; done))
                         | (have hn : okN z = false := by
                              rw [Bool.eq_false_iff]
                              intro q1
                              obtain ⟨e1, e2, _⟩ := okN_nat q1
                              first | omega | (simp_all; done) | (simp_all; omega)
                            have hm := List.mem_of_getElem? hz
                            simp only [List.mem_cons, List.not_mem_nil, or_false] at hm
                            have hn2 : (okN r.out && okN r.acked && okN r.inn) = false := by
                              rcases hm with rfl | rfl | rfl
                              · rw [hn]; rfl
                              · rw [hn, Bool.and_false]; rfl
                              · rw [hn, Bool.and_false]
                            rw [hn2]
                            rfl))
                      | (have hk1 : r.kind = 8 := by omega
                         rw [r8 hk1]
                         first | rfl | (cases bk <;> cases bn <;> cases bt <;> cases bs <;> cases bc <;> cases bw <;> rfl) | (simp_all; done))
                      | rw [r9 (by omega) (by omega) (by omega) (by omega) (by omega) (by omega) (by omega) (by omega)]
                case' hf =>
                  intro h
                  try (first | (exfalso; omega) | (cases h; done) | (exfalso; simp at h; done) | subst h)
                  all_goals
                    refine J.seq ?_
                    refine J.region ?_
                    refine JL.step (y_eql rfl rfl) rfl rfl rfl (JL.step (y_assign rfl) rfl rfl rfl ?_)
                    refine JL.nil ?_
                    refine JE.then_normal ?_
                    first | apply J.cond_dec rfl | apply J.cond rfl
                    case' ht =>
                      intro h
                      try (first | (exfalso; omega) | (cases h; done) | (exfalso; simp at h; done) | subst h)
                      all_goals
                        refine J.seq ?_
                        refine J.seq ?_
                        refine J.region ?_
                        refine JL.step (y_fieldAddr hT rfl rfl rfl rfl rfl rfl) rfl rfl rfl ?_
                        refine JL.step (y_load1 hT rfl rfl rfl (Rd1.row (by (repeat (first | exact Pick.head | apply Pick.tail | apply Pick.app))) (hat 1))) rfl rfl rfl ?_
                        refine JL.step (y_len_slice hT rfl rfl rfl) rfl rfl rfl (JL.step (y_move rfl) rfl rfl rfl ?_)
                        refine JL.nil ?_
                        refine JE.then_normal ?_
                        refine J.block ?_
                        refine J.loop (α := Nat) (fun i => i ≤ r.texts.length ∧ (r.texts.take i).all textB = true) (fun i => [(1, .pointer (some ⟨b1, 0, none⟩)), (3, .bool bk), (4, .bool bn), (5, .bool bt), (6, .bool bs), (7, .bool bc), (8, .bool be), (160, .slice p2 r.texts.length c2), (161, .int .i64 r.texts.length), (162, .int .i64 i)]) (fun _ => row b1 36 cs :: l) (fun i => r.texts.length - i) 0 ⟨Nat.zero_le _, by simp⟩ ⟨rfl, rfl, rfl, rfl, rfl, rfl, rfl, rfl, rfl, rfl, trivial⟩ (fun w h => h) ?_
                        rintro i ⟨hi, hall⟩
                        try dsimp only
                        refine J.seq ?_
                        refine J.region ?_
                        refine JL.step (y_lss rfl rfl) rfl rfl rfl ?_
                        refine JL.nil ?_
                        refine JE.then_normal ?_
                        refine J.seq ?_
                        first | apply J.cond_dec rfl | apply J.cond rfl
                        case' ht =>
                          intro h
                          try (first | (exfalso; omega) | (cases h; done) | (exfalso; simp at h; done) | subst h)
                          all_goals
                            refine J.skip ?_
                        case' hf =>
                          intro h
                          try (first | (exfalso; omega) | (cases h; done) | (exfalso; simp at h; done) | subst h)
                          all_goals
                            refine J.exit ?_
                            refine JE.then_exit ?_
                            refine JE.then_exit ?_
                            refine JE.block_exit ?_
                            refine JE.then_normal ?_
                            refine J.seq ?_
                            have hall3 : r.texts.all textB = true := by
                              obtain rfl : i = r.texts.length := by omega
                              rwa [List.take_length] at hall
                            obtain ⟨b6, hb6⟩ : ∃ b, decide ((r.texts.length : Int) ≤ 6) = b := ⟨_, rfl⟩
                            have hb6' : decide (r.texts.length ≤ 6) = b6 := by rw [← hb6]; exact decide_eq_decide.2 (by omega)
                            refine J.region ?_
                            refine JL.step (y_move rfl) rfl rfl rfl (JL.step (y_move rfl) rfl rfl rfl ?_)
                            all_goals (first | (refine JL.gsplit_dec rfl rfl rfl (fun h => ?_) (fun h => ?_) <;> try (first | (exfalso; omega) | exact absurd rfl h)) | (refine JL.gsplit rfl rfl rfl (fun h => ?_) (fun h => ?_) <;> try (first | cases h | (exfalso; simp at h; done))) | skip)
                            all_goals (first | refine JL.gskip rfl rfl rfl rfl rfl rfl ?_ | refine JL.gskipU rfl rfl rfl rfl rfl ?_ | refine JL.gstep rfl rfl rfl (y_move rfl) rfl rfl ?_)
                            all_goals (refine JL.step (y_pick rfl rfl rfl) rfl rfl rfl ?_)
                            all_goals (refine JL.step (y_move rfl) rfl rfl rfl ?_)
                            all_goals (first | (refine JL.gsplit_dec rfl rfl rfl (fun h => ?_) (fun h => ?_) <;> try (first | (exfalso; omega) | exact absurd rfl h)) | (refine JL.gsplit rfl rfl rfl (fun h => ?_) (fun h => ?_) <;> try (first | cases h | (exfalso; simp at h; done))) | skip)
                            all_goals (first | refine JL.gskip rfl rfl rfl rfl rfl rfl ?_ | refine JL.gskipU rfl rfl rfl rfl rfl ?_ | refine JL.gstep rfl rfl rfl (y_move rfl) rfl rfl ?_)
                            all_goals (refine JL.step (y_pick rfl rfl rfl) rfl rfl rfl ?_)
                            all_goals (refine JL.step (y_move rfl) rfl rfl rfl ?_)
                            all_goals (first | (refine JL.gsplit_dec rfl rfl rfl (fun h => ?_) (fun h => ?_) <;> try (first | (exfalso; omega) | exact absurd rfl h)) | (refine JL.gsplit rfl rfl rfl (fun h => ?_) (fun h => ?_) <;> try (first | cases h | (exfalso; simp at h; done))) | skip)
                            all_goals (first | refine JL.gskip rfl rfl rfl rfl rfl rfl ?_ | refine JL.gskipU rfl rfl rfl rfl rfl ?_ | refine JL.gstep rfl rfl rfl (y_move rfl) rfl rfl ?_)
                            all_goals (refine JL.step (y_pick rfl rfl rfl) rfl rfl rfl ?_)
                            all_goals (refine JL.step (y_move rfl) rfl rfl rfl ?_)
                            all_goals (first | (refine JL.gsplit_dec rfl rfl rfl (fun h => ?_) (fun h => ?_) <;> try (first | (exfalso; omega) | exact absurd rfl h)) | (refine JL.gsplit rfl rfl rfl (fun h => ?_) (fun h => ?_) <;> try (first | cases h | (exfalso; simp at h; done))) | skip)
                            all_goals (first | refine JL.gskip rfl rfl rfl rfl rfl rfl ?_ | refine JL.gskipU rfl rfl rfl rfl rfl ?_ | refine JL.gstep rfl rfl rfl (y_move rfl) rfl rfl ?_)
                            all_goals (refine JL.step (y_pick rfl rfl rfl) rfl rfl rfl ?_)
                            all_goals (refine JL.step (y_move rfl) rfl rfl rfl ?_)
                            all_goals (first | (refine JL.gsplit_dec rfl rfl rfl (fun h => ?_) (fun h => ?_) <;> try (first | (exfalso; omega) | exact absurd rfl h)) | (refine JL.gsplit rfl rfl rfl (fun h => ?_) (fun h => ?_) <;> try (first | cases h | (exfalso; simp at h; done))) | skip)
                            all_goals (first | refine JL.gskip rfl rfl rfl rfl rfl rfl ?_ | refine JL.gskipU rfl rfl rfl rfl rfl ?_ | refine JL.gstep rfl rfl rfl (y_fieldAddr hT rfl rfl rfl rfl rfl rfl) rfl rfl ?_)
                            all_goals (first | refine JL.gskip rfl rfl rfl rfl rfl rfl ?_ | refine JL.gskipU rfl rfl rfl rfl rfl ?_ | refine JL.gstep rfl rfl rfl (y_load1 hT rfl rfl rfl (Rd1.row (by (repeat (first | exact Pick.head | apply Pick.tail | apply Pick.app))) (hat 1))) rfl rfl ?_)
                            all_goals (first | refine JL.gskip rfl rfl rfl rfl rfl rfl ?_ | refine JL.gskipU rfl rfl rfl rfl rfl ?_ | refine JL.gstep rfl rfl rfl (y_len_slice hT rfl rfl rfl) rfl rfl ?_)
                            all_goals (first | refine JL.gskip rfl rfl rfl rfl rfl rfl ?_ | refine JL.gskipU rfl rfl rfl rfl rfl ?_ | refine JL.gstep rfl rfl rfl (y_leqB rfl rfl hb6) rfl rfl ?_)
                            all_goals (refine JL.step (y_pick rfl rfl rfl) rfl rfl rfl ?_)
                            all_goals (refine JL.step (y_assign rfl) rfl rfl rfl ?_)
                            all_goals refine JL.nil ?_
                            all_goals refine JE.then_normal ?_
                            all_goals
                              refine J.ret ?_
                              refine JE.block_ret ?_
                              refine JE.then_ret ?_
                              refine JE.ret1 (.inl rfl) rfl rfl (by (first | exact RV.tmp rfl | exact RV.cell1 hT rfl rfl rfl (by (exact Rd1.row (by (repeat (first | exact Pick.head | apply Pick.tail | apply Pick.app))) (by rfl))) | exact RV.cellN hT rfl rfl rfl (by (first | exact RdN.rowAll (by (repeat (first | exact Pick.head | apply Pick.tail | apply Pick.app))) | exact RdN.own (by (repeat (first | exact Pick.head | apply Pick.tail | apply Pick.app))))) (by (first | rfl | assumption | (simp; done) | omega)))) ?_
                              refine ⟨?_, fun w h => h.sup (by (repeat (first | exact Sup.refl | apply Sup.cons (by (repeat (first | exact Pick.head | apply Pick.tail | apply Pick.app))) | apply Sup.app | apply Sup.skip | apply Sup.skips)))⟩
                              first
                              | (have hk1 : r.kind = 1 := by omega
                                 rw [r1 hk1]
                                 first | rfl | (cases bn <;> cases bt <;> cases bs <;> cases bc <;> cases be <;> rfl) | (simp_all; done))
                              | (have hk1 : r.kind = 2 ∨ r.kind = 6 := by omega
                                 rw [r2 hk1]
                                 first | rfl | (cases bk <;> cases bn <;> cases bt <;> cases bs <;> cases bc <;> cases be <;> rfl) | (simp_all; done))
                              | (have hk1 : r.kind = 3 := by omega
                                 rw [r3 hk1]
                                 first
                                 | (have zz := hall2
                                    rw [hall2.1, decide_eq_true hall2.2, hb3']
                                    first | rfl | (cases bk <;> cases bt <;> cases bs <;> cases bc <;> cases be <;> cases b3 <;> rfl) | (simp_all; done))
                                 | (have zz := hbq
                                    have hyx : y = x := by
                                      refine Decidable.of_not_not fun q1 => ?_
                                      rw [decide_eq_false q1] at hbq
                                      first | cases hbq | (rw [hbq] at h; cases h)
                                    have hn : ¬ r.names.Nodup := by
                                      intro q1
                                      have := (List.getElem?_inj (by omega) q1).1 (by rw [hy, hyx, hx] : r.names[j]? = r.names[i]?)
                                      omega
                                    rw [decide_eq_false hn, Bool.and_false]
                                    rfl)
                                 | (have hn : r.names.all nameB = false := by
                                      rw [Bool.eq_false_iff]
                                      intro q1
                                      have := List.all_eq_true.1 q1 x (List.mem_of_getElem? hx)
                                      rw [hbx] at this
                                      cases this
                                    rw [hn]
                                    rfl))
                              | (have hk1 : r.kind = 4 := by omega
                                 rw [r4 hk1, hok]
                                 first | rfl | (cases bk <;> cases bn <;> cases bt <;> cases bc <;> cases be <;> cases b4 <;> cases b5 <;> rfl) | (simp_all; done))
                              | (have hk1 : r.kind = 5 := by omega
                                 rw [r5 hk1]
                                 first
                                 | (have zz := hall3
                                    rw [hall3, hb6']
                                    first | rfl | (cases bk <;> cases bn <;> cases bs <;> cases bc <;> cases be <;> cases b6 <;> rfl) | (simp_all; done))
                                 | (have hn : r.texts.all textB = false := by
                                      rw [Bool.eq_false_iff]
                                      intro q1
                                      have := List.all_eq_true.1 q1 x (List.mem_of_getElem? hx)
                                      rw [hbx] at this
                                      cases this
                                    rw [hn]
                                    rfl))
                              | (have hk1 : r.kind = 7 := by omega
                                 rw [r7 hk1]
                                 first
                                 | (have zz := hall4
                                    rw [hall4]
                                    first | rfl | (cases bk <;> cases bn <;> cases bt <;> cases bs <;> cases be <;> rfl) | (simp_all; done))
                                 | (have hn : okN z = false := by
                                      rw [Bool.eq_false_iff]
                                      intro q1
                                      obtain ⟨e1, e2, _⟩ := okN_nat q1
                                      first | omega | (simp_all; done) | (simp_all; omega)
                                    have hm := List.mem_of_getElem? hz
                                    simp only [List.mem_cons, List.not_mem_nil, or_false] at hm
                                    have hn2 : (okN r.out && okN r.acked && okN r.inn) = false := by
                                      rcases hm with rfl | rfl | rfl
                                      · rw [hn]; rfl
                                      · rw [hn, Bool.and_false]; rfl
                                      · rw [hn, Bool.and_false]
                                    rw [hn2]
                                    rfl))
                              | (have hk1 : r.kind = 8 := by omega
                                 rw [r8 hk1]
                                 first | rfl | (cases bk <;> cases bn <;> cases bt <;> cases bs <;> cases bc <;> cases bw <;> rfl) | (simp_all; done))
                              | rw [r9 (by omega) (by omega) (by omega) (by omega) (by omega) (by omega) (by omega) (by omega)]
                        all_goals refine JE.then_normal ?_
                        all_goals
                          refine J.seq ?_
                          refine J.block ?_
                          refine J.seq ?_
                          have hlt : i < r.texts.length := by omega
                          obtain ⟨x, hx⟩ : ∃ x, r.texts[i]? = some x := ⟨r.texts[i]'(by omega), List.getElem?_eq_getElem _⟩
                          obtain ⟨g1, o1, rfl, hrd1⟩ := h2.addr (by omega)
                          obtain ⟨hxB, hxl⟩ := hr.tb x (List.mem_of_getElem? hx)
                          obtain ⟨bx, hbx⟩ : ∃ b, textB x = b := ⟨_, rfl⟩
                          refine J.region ?_
                          refine JL.step (y_indexAddr_slice hT rfl rfl rfl rfl rfl (by (first | omega | exact Nat.le_of_ble_eq_true rfl | decide | (simp; omega))) (by (first | omega | exact Nat.le_of_ble_eq_true rfl | decide | (simp; omega)))) rfl rfl rfl ?_
                          refine JL.step (y_load1 hT rfl rfl rfl (Rd1.elem (i := i) (v := .string (strOf x)) ((hrd1 []).cons _) (strs_at hx))) rfl rfl rfl ?_
                          refine JL.step (y_assign rfl) rfl rfl rfl ?_
                          refine JL.nil ?_
                          refine JE.then_normal ?_
                          refine J.seq ?_
                          rcases bx with _ | _
                          all_goals
                            refine J.region ?_
                            refine JL.step (y_move rfl) rfl rfl rfl ?_
                            refine JL.loud rfl (l_callF e28 rfl rfl (hbx ▸ rtext_spec E x _ hxB (by omega)) ?_)
                            rintro _ _ ⟨rfl, rfl⟩
                            refine JL.step (y_not rfl) rfl rfl rfl ?_
                            refine JL.nil ?_
                          all_goals refine JE.then_normal ?_
                          all_goals
                            first | apply J.cond_dec rfl | apply J.cond rfl
                            case' ht =>
                              intro h
                              try (first | (exfalso; omega) | (cases h; done) | (exfalso; simp at h; done) | subst h)
                              all_goals
                                refine J.seq ?_
                                refine J.region ?_
                                refine JL.step (y_assign rfl) rfl rfl rfl ?_
                                refine JL.nil ?_
                                refine JE.then_normal ?_
                                refine J.ret ?_
                                refine JE.block_ret ?_
                                refine JE.then_ret ?_
                                refine JE.then_ret ?_
                                refine JE.block_ret ?_
                                refine JE.then_ret ?_
                                refine JE.block_ret ?_
                                refine JE.then_ret ?_
                                refine JE.ret1 (.inl rfl) rfl rfl (by (first | exact RV.tmp rfl | exact RV.cell1 hT rfl rfl rfl (by (exact Rd1.row (by (repeat (first | exact Pick.head | apply Pick.tail | apply Pick.app))) (by rfl))) | exact RV.cellN hT rfl rfl rfl (by (first | exact RdN.rowAll (by (repeat (first | exact Pick.head | apply Pick.tail | apply Pick.app))) | exact RdN.own (by (repeat (first | exact Pick.head | apply Pick.tail | apply Pick.app))))) (by (first | rfl | assumption | (simp; done) | omega)))) ?_
                                refine ⟨?_, fun w h => h.sup (by (repeat (first | exact Sup.refl | apply Sup.cons (by (repeat (first | exact Pick.head | apply Pick.tail | apply Pick.app))) | apply Sup.app | apply Sup.skip | apply Sup.skips)))⟩
                                first
                                | (have hk1 : r.kind = 1 := by omega
                                   rw [r1 hk1]
                                   first | rfl | (cases bn <;> cases bt <;> cases bs <;> cases bc <;> cases be <;> rfl) | (simp_all; done))
                                | (have hk1 : r.kind = 2 ∨ r.kind = 6 := by omega
                                   rw [r2 hk1]
                                   first | rfl | (cases bk <;> cases bn <;> cases bt <;> cases bs <;> cases bc <;> cases be <;> rfl) | (simp_all; done))
                                | (have hk1 : r.kind = 3 := by omega
                                   rw [r3 hk1]
                                   first
                                   | (have zz := hall2
                                      rw [hall2.1, decide_eq_true hall2.2, hb3']
                                      first | rfl | (cases bk <;> cases bt <;> cases bs <;> cases bc <;> cases be <;> cases b3 <;> rfl) | (simp_all; done))
                                   | (have zz := hbq
                                      have hyx : y = x := by
                                        refine Decidable.of_not_not fun q1 => ?_
                                        rw [decide_eq_false q1] at hbq
                                        first | cases hbq | (rw [hbq] at h; cases h)
                                      have hn : ¬ r.names.Nodup := by
                                        intro q1
                                        have := (List.getElem?_inj (by omega) q1).1 (by rw [hy, hyx, hx] : r.names[j]? = r.names[i]?)
                                        omega
                                      rw [decide_eq_false hn, Bool.and_false]
                                      rfl)
                                   | (have hn : r.names.all nameB = false := by
                                        rw [Bool.eq_false_iff]
                                        intro q1
                                        have := List.all_eq_true.1 q1 x (List.mem_of_getElem? hx)
                                        rw [hbx] at this
                                        cases this
                                      rw [hn]
                                      rfl))
                                | (have hk1 : r.kind = 4 := by omega
                                   rw [r4 hk1, hok]
                                   first | rfl | (cases bk <;> cases bn <;> cases bt <;> cases bc <;> cases be <;> cases b4 <;> cases b5 <;> rfl) | (simp_all; done))
                                | (have hk1 : r.kind = 5 := by omega
                                   rw [r5 hk1]
                                   first
                                   | (have zz := hall3
                                      rw [hall3, hb6']
                                      first | rfl | (cases bk <;> cases bn <;> cases bs <;> cases bc <;> cases be <;> cases b6 <;> rfl) | (simp_all; done))
                                   | (have hn : r.texts.all textB = false := by
                                        rw [Bool.eq_false_iff]
                                        intro q1
                                        have := List.all_eq_true.1 q1 x (List.mem_of_getElem? hx)
                                        rw [hbx] at this
                                        cases this
                                      rw [hn]
                                      rfl))
                                | (have hk1 : r.kind = 7 := by omega
                                   rw [r7 hk1]
                                   first
                                   | (have zz := hall4
                                      rw [hall4]
                                      first | rfl | (cases bk <;> cases bn <;> cases bt <;> cases bs <;> cases be <;> rfl) | (simp_all; done))
                                   | (have hn : okN z = false := by
                                        rw [Bool.eq_false_iff]
                                        intro q1
                                        obtain ⟨e1, e2, _⟩ := okN_nat q1
                                        first | omega | (simp_all; done) | (simp_all; omega)
                                      have hm := List.mem_of_getElem? hz
                                      simp only [List.mem_cons, List.not_mem_nil, or_false] at hm
                                      have hn2 : (okN r.out && okN r.acked && okN r.inn) = false := by
                                        rcases hm with rfl | rfl | rfl
                                        · rw [hn]; rfl
                                        · rw [hn, Bool.and_false]; rfl
                                        · rw [hn, Bool.and_false]
                                      rw [hn2]
                                      rfl))
                                | (have hk1 : r.kind = 8 := by omega
                                   rw [r8 hk1]
                                   first | rfl | (cases bk <;> cases bn <;> cases bt <;> cases bs <;> cases bc <;> cases bw <;> rfl) | (simp_all; done))
                                | rw [r9 (by omega) (by omega) (by omega) (by omega) (by omega) (by omega) (by omega) (by omega)]
                            case' hf =>
                              intro h
                              try (first | (exfalso; omega) | (cases h; done) | (exfalso; simp at h; done) | subst h)
                              all_goals
                                refine J.skip ?_
                          all_goals refine JE.block_normal ?_
                          all_goals refine JE.then_normal ?_
                          all_goals
                            refine J.region ?_
                            refine JL.step (y_add rfl rfl (by (first | exact wrap_i64 (by omega) (by omega) | rfl))) rfl rfl rfl ?_
                            refine JL.step (y_move rfl) rfl rfl rfl ?_
                            refine JL.nil ?_
                        all_goals
                          exact JE.round (s := i) (i + 1) ⟨by omega, by
                            rw [List.take_add_one, hx, Option.toList_some, List.all_append, hall, List.all_cons, hbx]
                            rfl⟩ ⟨rfl, rfl, rfl, rfl, rfl, rfl, rfl, rfl, rfl, rfl, trivial⟩ (fun w h => h) (by omega)
                    case' hf =>
                      intro h
                      try (first | (exfalso; omega) | (cases h; done) | (exfalso; simp at h; done) | subst h)
                      all_goals
                        refine J.seq ?_
                        refine J.region ?_
                        refine JL.step (y_eql rfl rfl) rfl rfl rfl (JL.step (y_assign rfl) rfl rfl rfl ?_)
                        refine JL.nil ?_
                        refine JE.then_normal ?_
                        first | apply J.cond_dec rfl | apply J.cond rfl
                        case' ht =>
                          intro h
                          try (first | (exfalso; omega) | (cases h; done) | (exfalso; simp at h; done) | subst h)
                          all_goals
                            refine J.seq ?_
                            refine J.seq ?_
                            refine J.region ?_
                            refine JL.step (y_fieldAddr hT rfl rfl rfl rfl rfl rfl) rfl rfl rfl ?_
                            refine JL.step (y_load1 hT rfl rfl rfl (Rd1.row (by (repeat (first | exact Pick.head | apply Pick.tail | apply Pick.app))) (hat 3))) rfl rfl rfl ?_
                            refine JL.step (y_fieldAddr hT rfl rfl rfl rfl rfl rfl) rfl rfl rfl ?_
                            refine JL.step (y_load1 hT rfl rfl rfl (Rd1.row (by (repeat (first | exact Pick.head | apply Pick.tail | apply Pick.app))) (hat 4))) rfl rfl rfl ?_
                            refine JL.step (y_fieldAddr hT rfl rfl rfl rfl rfl rfl) rfl rfl rfl ?_
                            refine JL.step (y_load1 hT rfl rfl rfl (Rd1.row (by (repeat (first | exact Pick.head | apply Pick.tail | apply Pick.app))) (hat 5))) rfl rfl rfl ?_
                            refine JL.step (y_buildArr (cs := ints .i64 [r.out, r.acked, r.inn]) hT rfl rfl rfl rfl rfl (by first | rfl | decide)) rfl rfl rfl ?_
                            refine JL.step (y_move rfl) rfl rfl rfl ?_
                            refine JL.nil ?_
                            refine JE.then_normal ?_
                            refine J.block ?_
                            refine J.loop (α := Nat) (fun i => i ≤ 3 ∧ ([r.out, r.acked, r.inn].take i).all okN = true) (fun i => [(1, .pointer (some ⟨b1, 0, none⟩)), (3, .bool bk), (4, .bool bn), (5, .bool bt), (6, .bool bs), (7, .bool bc), (8, .bool be), (197, .agg (ints .i64 [r.out, r.acked, r.inn]).toArray), (198, .int .i64 i)]) (fun _ => row b1 36 cs :: l) (fun i => 3 - i) 0 ⟨Nat.zero_le _, rfl⟩ ⟨rfl, rfl, rfl, rfl, rfl, rfl, rfl, rfl, rfl, trivial⟩ (fun w h => h) ?_
                            rintro i ⟨hi, hall⟩
                            try dsimp only
                            refine J.seq ?_
                            refine J.region ?_
                            refine JL.step (y_lss rfl rfl) rfl rfl rfl ?_
                            refine JL.nil ?_
                            refine JE.then_normal ?_
                            refine J.seq ?_
                            first | apply J.cond_dec rfl | apply J.cond rfl
                            case' ht =>
                              intro h
                              try (first | (exfalso; omega) | (cases h; done) | (exfalso; simp at h; done) | subst h)
                              all_goals
                                refine J.skip ?_
                            case' hf =>
                              intro h
                              try (first | (exfalso; omega) | (cases h; done) | (exfalso; simp at h; done) | subst h)
                              all_goals
                                refine J.exit ?_
                                refine JE.then_exit ?_
                                refine JE.then_exit ?_
                                refine JE.block_exit ?_
                                refine JE.then_normal ?_
                                refine J.seq ?_
                                have hall4 : (okN r.out && okN r.acked && okN r.inn) = true := by
                                  obtain rfl : i = 3 := by omega
                                  have : ([r.out, r.acked, r.inn] : List Int).all okN = true := hall
                                  rw [List.all_cons, List.all_cons, List.all_cons, List.all_nil, Bool.and_true] at this
                                  rw [Bool.and_assoc]
                                  exact this
                                refine J.region ?_
                                refine JL.step (y_move rfl) rfl rfl rfl (JL.step (y_move rfl) rfl rfl rfl ?_)
                                all_goals (first | (refine JL.gsplit_dec rfl rfl rfl (fun h => ?_) (fun h => ?_) <;> try (first | (exfalso; omega) | exact absurd rfl h)) | (refine JL.gsplit rfl rfl rfl (fun h => ?_) (fun h => ?_) <;> try (first | cases h | (exfalso; simp at h; done))) | skip)
                                all_goals (first | refine JL.gskip rfl rfl rfl rfl rfl rfl ?_ | refine JL.gskipU rfl rfl rfl rfl rfl ?_ | refine JL.gstep rfl rfl rfl (y_move rfl) rfl rfl ?_)
                                all_goals (refine JL.step (y_pick rfl rfl rfl) rfl rfl rfl ?_)
                                all_goals (refine JL.step (y_move rfl) rfl rfl rfl ?_)
                                all_goals (first | (refine JL.gsplit_dec rfl rfl rfl (fun h => ?_) (fun h => ?_) <;> try (first | (exfalso; omega) | exact absurd rfl h)) | (refine JL.gsplit rfl rfl rfl (fun h => ?_) (fun h => ?_) <;> try (first | cases h | (exfalso; simp at h; done))) | skip)
                                all_goals (first | refine JL.gskip rfl rfl rfl rfl rfl rfl ?_ | refine JL.gskipU rfl rfl rfl rfl rfl ?_ | refine JL.gstep rfl rfl rfl (y_move rfl) rfl rfl ?_)
                                all_goals (refine JL.step (y_pick rfl rfl rfl) rfl rfl rfl ?_)
                                all_goals (refine JL.step (y_move rfl) rfl rfl rfl ?_)
                                all_goals (first | (refine JL.gsplit_dec rfl rfl rfl (fun h => ?_) (fun h => ?_) <;> try (first | (exfalso; omega) | exact absurd rfl h)) | (refine JL.gsplit rfl rfl rfl (fun h => ?_) (fun h => ?_) <;> try (first | cases h | (exfalso; simp at h; done))) | skip)
                                all_goals (first | refine JL.gskip rfl rfl rfl rfl rfl rfl ?_ | refine JL.gskipU rfl rfl rfl rfl rfl ?_ | refine JL.gstep rfl rfl rfl (y_move rfl) rfl rfl ?_)
                                all_goals (refine JL.step (y_pick rfl rfl rfl) rfl rfl rfl ?_)
                                all_goals (refine JL.step (y_move rfl) rfl rfl rfl ?_)
                                all_goals (first | (refine JL.gsplit_dec rfl rfl rfl (fun h => ?_) (fun h => ?_) <;> try (first | (exfalso; omega) | exact absurd rfl h)) | (refine JL.gsplit rfl rfl rfl (fun h => ?_) (fun h => ?_) <;> try (first | cases h | (exfalso; simp at h; done))) | skip)
                                all_goals (first | refine JL.gskip rfl rfl rfl rfl rfl rfl ?_ | refine JL.gskipU rfl rfl rfl rfl rfl ?_ | refine JL.gstep rfl rfl rfl (y_move rfl) rfl rfl ?_)
                                all_goals (refine JL.step (y_pick rfl rfl rfl) rfl rfl rfl ?_)
                                all_goals (refine JL.step (y_assign rfl) rfl rfl rfl ?_)
                                all_goals refine JL.nil ?_
                                all_goals refine JE.then_normal ?_
                                all_goals
                                  refine J.ret ?_
                                  refine JE.block_ret ?_
                                  refine JE.then_ret ?_
                                  refine JE.ret1 (.inl rfl) rfl rfl (by (first | exact RV.tmp rfl | exact RV.cell1 hT rfl rfl rfl (by (exact Rd1.row (by (repeat (first | exact Pick.head | apply Pick.tail | apply Pick.app))) (by rfl))) | exact RV.cellN hT rfl rfl rfl (by (first | exact RdN.rowAll (by (repeat (first | exact Pick.head | apply Pick.tail | apply Pick.app))) | exact RdN.own (by (repeat (first | exact Pick.head | apply Pick.tail | apply Pick.app))))) (by (first | rfl | assumption | (simp; done) | omega)))) ?_
                                  refine ⟨?_, fun w h => h.sup (by (repeat (first | exact Sup.refl | apply Sup.cons (by (repeat (first | exact Pick.head | apply Pick.tail | apply Pick.app))) | apply Sup.app | apply Sup.skip | apply Sup.skips)))⟩
                                  first
                                  | (have hk1 : r.kind = 1 := by omega
                                     rw [r1 hk1]
                                     first | rfl | (cases bn <;> cases bt <;> cases bs <;> cases bc <;> cases be <;> rfl) | (simp_all; done))
                                  | (have hk1 : r.kind = 2 ∨ r.kind = 6 := by omega
                                     rw [r2 hk1]
                                     first | rfl | (cases bk <;> cases bn <;> cases bt <;> cases bs <;> cases bc <;> cases be <;> rfl) | (simp_all; done))
                                  | (have hk1 : r.kind = 3 := by omega
                                     rw [r3 hk1]
                                     first
                                     | (have zz := hall2
                                        rw [hall2.1, decide_eq_true hall2.2, hb3']
                                        first | rfl | (cases bk <;> cases bt <;> cases bs <;> cases bc <;> cases be <;> cases b3 <;> rfl) | (simp_all; done))
                                     | (have zz := hbq
                                        have hyx : y = x := by
                                          refine Decidable.of_not_not fun q1 => ?_
                                          rw [decide_eq_false q1] at hbq
                                          first | cases hbq | (rw [hbq] at h; cases h)
                                        have hn : ¬ r.names.Nodup := by
                                          intro q1
                                          have := (List.getElem?_inj (by omega) q1).1 (by rw [hy, hyx, hx] : r.names[j]? = r.names[i]?)
                                          omega
                                        rw [decide_eq_false hn, Bool.and_false]
                                        rfl)
                                     | (have hn : r.names.all nameB = false := by
                                          rw [Bool.eq_false_iff]
                                          intro q1
                                          have := List.all_eq_true.1 q1 x (List.mem_of_getElem? hx)
                                          rw [hbx] at this
                                          cases this
                                        rw [hn]
                                        rfl))
                                  | (have hk1 : r.kind = 4 := by omega
                                     rw [r4 hk1, hok]
                                     first | rfl | (cases bk <;> cases bn <;> cases bt <;> cases bc <;> cases be <;> cases b4 <;> cases b5 <;> rfl) | (simp_all; done))
                                  | (have hk1 : r.kind = 5 := by omega
                                     rw [r5 hk1]
                                     first
                                     | (have zz := hall3
                                        rw [hall3, hb6']
                                        first | rfl | (cases bk <;> cases bn <;> cases bs <;> cases bc <;> cases be <;> cases b6 <;> rfl) | (simp_all; done))
                                     | (have hn : r.texts.all textB = false := by
                                          rw [Bool.eq_false_iff]
                                          intro q1
                                          have := List.all_eq_true.1 q1 x (List.mem_of_getElem? hx)
                                          rw [hbx] at this
                                          cases this
                                        rw [hn]
                                        rfl))
                                  | (have hk1 : r.kind = 7 := by omega
                                     rw [r7 hk1]
                                     first
                                     | (have zz := hall4
                                        rw [hall4]
                                        first | rfl | (cases bk <;> cases bn <;> cases bt <;> cases bs <;> cases be <;> rfl) | (simp_all; done))
                                     | (have hn : okN z = false := by
                                          rw [Bool.eq_false_iff]
                                          intro q1
                                          obtain ⟨e1, e2, _⟩ := okN_nat q1
                                          first | omega | (simp_all; done) | (simp_all; omega)
                                        have hm := List.mem_of_getElem? hz
                                        simp only [List.mem_cons, List.not_mem_nil, or_false] at hm
                                        have hn2 : (okN r.out && okN r.acked && okN r.inn) = false := by
                                          rcases hm with rfl | rfl | rfl
                                          · rw [hn]; rfl
                                          · rw [hn, Bool.and_false]; rfl
                                          · rw [hn, Bool.and_false]
                                        rw [hn2]
                                        rfl))
                                  | (have hk1 : r.kind = 8 := by omega
                                     rw [r8 hk1]
                                     first | rfl | (cases bk <;> cases bn <;> cases bt <;> cases bs <;> cases bc <;> cases bw <;> rfl) | (simp_all; done))
                                  | rw [r9 (by omega) (by omega) (by omega) (by omega) (by omega) (by omega) (by omega) (by omega)]
                            all_goals refine JE.then_normal ?_
                            all_goals
                              refine J.seq ?_
                              refine J.block ?_
                              refine J.seq ?_
                              have hlt : i < 3 := by omega
                              obtain ⟨z, hz⟩ : ∃ z, ([r.out, r.acked, r.inn] : List Int)[i]? = some z := ⟨[r.out, r.acked, r.inn][i]'(by show i < 3; omega), List.getElem?_eq_getElem _⟩
                              have hzv : (ints .i64 [r.out, r.acked, r.inn])[i]? = some (.int .i64 z) := by unfold ints; rw [List.getElem?_map, hz]; rfl
                              refine J.region ?_
                              refine JL.step (y_index1 hT rfl rfl rfl rfl rfl rfl rfl (by omega) (by show ((i : Nat) : Int) < (3 : Int); omega) (by rw [Int.toNat_natCast]; exact hzv)) rfl rfl rfl ?_
                              refine JL.step (y_assign rfl) rfl rfl rfl ?_
                              refine JL.nil ?_
                              refine JE.then_normal ?_
                              refine J.seq ?_
                              refine J.region ?_
                              refine JL.step (y_move rfl) rfl rfl rfl (JL.step (y_lss rfl rfl) rfl rfl rfl (JL.step (y_move rfl) rfl rfl rfl ?_))
                              all_goals (first | (refine JL.gsplit_dec rfl rfl rfl (fun h => ?_) (fun h => ?_) <;> try (first | (exfalso; omega) | exact absurd rfl h)) | (refine JL.gsplit rfl rfl rfl (fun h => ?_) (fun h => ?_) <;> try (first | cases h | (exfalso; simp at h; done))) | skip)
                              all_goals (first | refine JL.gskip rfl rfl rfl rfl rfl rfl ?_ | refine JL.gskipU rfl rfl rfl rfl rfl ?_ | refine JL.gstep rfl rfl rfl (y_move rfl) rfl rfl ?_)
                              all_goals (first | refine JL.gskip rfl rfl rfl rfl rfl rfl ?_ | refine JL.gskipU rfl rfl rfl rfl rfl ?_ | refine JL.gstep rfl rfl rfl (y_gtr rfl rfl) rfl rfl ?_)
                              all_goals (refine JL.step (y_pick rfl rfl rfl) rfl rfl rfl ?_)
                              all_goals refine JL.nil ?_
                              all_goals refine JE.then_normal ?_
                              all_goals
                                first | apply J.cond_dec rfl | apply J.cond rfl
                                case' ht =>
                                  intro h
                                  try (first | (exfalso; omega) | (cases h; done) | (exfalso; simp at h; done) | subst h)
                                  all_goals
                                    refine J.seq ?_
                                    refine J.region ?_
                                    refine JL.step (y_assign rfl) rfl rfl rfl ?_
                                    refine JL.nil ?_
                                    refine JE.then_normal ?_
                                    refine J.ret ?_
                                    refine JE.block_ret ?_
                                    refine JE.then_ret ?_
                                    refine JE.then_ret ?_
                                    refine JE.block_ret ?_
                                    refine JE.then_ret ?_
                                    refine JE.block_ret ?_
                                    refine JE.then_ret ?_
                                    refine JE.ret1 (.inl rfl) rfl rfl (by (first | exact RV.tmp rfl | exact RV.cell1 hT rfl rfl rfl (by (exact Rd1.row (by (repeat (first | exact Pick.head | apply Pick.tail | apply Pick.app))) (by rfl))) | exact RV.cellN hT rfl rfl rfl (by (first | exact RdN.rowAll (by (repeat (first | exact Pick.head | apply Pick.tail | apply Pick.app))) | exact RdN.own (by (repeat (first | exact Pick.head | apply Pick.tail | apply Pick.app))))) (by (first | rfl | assumption | (simp; done) | omega)))) ?_
                                    refine ⟨?_, fun w h => h.sup (by (repeat (first | exact Sup.refl | apply Sup.cons (by (repeat (first | exact Pick.head | apply Pick.tail | apply Pick.app))) | apply Sup.app | apply Sup.skip | apply Sup.skips)))⟩
                                    first
                                    | (have hk1 : r.kind = 1 := by omega
                                       rw [r1 hk1]
                                       first | rfl | (cases bn <;> cases bt <;> cases bs <;> cases bc <;> cases be <;> rfl) | (simp_all; done))
                                    | (have hk1 : r.kind = 2 ∨ r.kind = 6 := by omega
                                       rw [r2 hk1]
                                       first | rfl | (cases bk <;> cases bn <;> cases bt <;> cases bs <;> cases bc <;> cases be <;> rfl) | (simp_all; done))
                                    | (have hk1 : r.kind = 3 := by omega
                                       rw [r3 hk1]
                                       first
                                       | (have zz := hall2
                                          rw [hall2.1, decide_eq_true hall2.2, hb3']
                                          first | rfl | (cases bk <;> cases bt <;> cases bs <;> cases bc <;> cases be <;> cases b3 <;> rfl) | (simp_all; done))
                                       | (have zz := hbq
                                          have hyx : y = x := by
                                            refine Decidable.of_not_not fun q1 => ?_
                                            rw [decide_eq_false q1] at hbq
                                            first | cases hbq | (rw [hbq] at h; cases h)
                                          have hn : ¬ r.names.Nodup := by
                                            intro q1
                                            have := (List.getElem?_inj (by omega) q1).1 (by rw [hy, hyx, hx] : r.names[j]? = r.names[i]?)
                                            omega
                                          rw [decide_eq_false hn, Bool.and_false]
                                          rfl)
                                       | (have hn : r.names.all nameB = false := by
                                            rw [Bool.eq_false_iff]
                                            intro q1
                                            have := List.all_eq_true.1 q1 x (List.mem_of_getElem? hx)
                                            rw [hbx] at this
                                            cases this
                                          rw [hn]
                                          rfl))
                                    | (have hk1 : r.kind = 4 := by omega
                                       rw [r4 hk1, hok]
                                       first | rfl | (cases bk <;> cases bn <;> cases bt <;> cases bc <;> cases be <;> cases b4 <;> cases b5 <;> rfl) | (simp_all; done))
                                    | (have hk1 : r.kind = 5 := by omega
                                       rw [r5 hk1]
                                       first
                                       | (have zz := hall3
                                          rw [hall3, hb6']
                                          first | rfl | (cases bk <;> cases bn <;> cases bs <;> cases bc <;> cases be <;> cases b6 <;> rfl) | (simp_all; done))
                                       | (have hn : r.texts.all textB = false := by
                                            rw [Bool.eq_false_iff]
                                            intro q1
                                            have := List.all_eq_true.1 q1 x (List.mem_of_getElem? hx)
                                            rw [hbx] at this
                                            cases this
                                          rw [hn]
                                          rfl))
                                    | (have hk1 : r.kind = 7 := by omega
                                       rw [r7 hk1]
                                       first
                                       | (have zz := hall4
                                          rw [hall4]
                                          first | rfl | (cases bk <;> cases bn <;> cases bt <;> cases bs <;> cases be <;> rfl) | (simp_all; done))
                                       | (have hn : okN z = false := by
                                            rw [Bool.eq_false_iff]
                                            intro q1
                                            obtain ⟨e1, e2, _⟩ := okN_nat q1
                                            first | omega | (simp_all; done) | (simp_all; omega)
                                          have hm := List.mem_of_getElem? hz
                                          simp only [List.mem_cons, List.not_mem_nil, or_false] at hm
                                          have hn2 : (okN r.out && okN r.acked && okN r.inn) = false := by
                                            rcases hm with rfl | rfl | rfl
                                            · rw [hn]; rfl
                                            · rw [hn, Bool.and_false]; rfl
                                            · rw [hn, Bool.and_false]
                                          rw [hn2]
                                          rfl))
                                    | (have hk1 : r.kind = 8 := by omega
                                       rw [r8 hk1]
                                       first | rfl | (cases bk <;> cases bn <;> cases bt <;> cases bs <;> cases bc <;> cases bw <;> rfl) | (simp_all; done))
                                    | rw [r9 (by omega) (by omega) (by omega) (by omega) (by omega) (by omega) (by omega) (by omega)]
                                case' hf =>
                                  intro h
                                  try (first | (exfalso; omega) | (cases h; done) | (exfalso; simp at h; done) | subst h)
                                  all_goals
                                    refine J.skip ?_
                              all_goals refine JE.block_normal ?_
                              all_goals refine JE.then_normal ?_
                              all_goals
                                refine J.region ?_
                                refine JL.step (y_add rfl rfl (by (first | exact wrap_i64 (by omega) (by omega) | rfl))) rfl rfl rfl ?_
                                refine JL.step (y_move rfl) rfl rfl rfl ?_
                                refine JL.nil ?_
                            all_goals
                              have hzo : okN z = true := by
                                unfold okN
                                rw [decide_eq_true (by first | omega | (simp_all; done) | (simp_all; omega)), decide_eq_true (by first | omega | (simp_all; done) | (simp_all; omega))]
                                rfl
                              exact JE.round (s := i) (i + 1) ⟨by omega, by
                                rw [List.take_add_one, hz, Option.toList_some, List.all_append, hall, List.all_cons, hzo]
                                rfl⟩ ⟨rfl, rfl, rfl, rfl, rfl, rfl, rfl, rfl, rfl, trivial⟩ (fun w h => h) (by omega)
                        case' hf =>
                          intro h
                          try (first | (exfalso; omega) | (cases h; done) | (exfalso; simp at h; done) | subst h)
                          all_goals
                            refine J.seq ?_
                            refine J.region ?_
                            refine JL.step (y_eql rfl rfl) rfl rfl rfl (JL.step (y_assign rfl) rfl rfl rfl ?_)
                            refine JL.nil ?_
                            refine JE.then_normal ?_
                            first | apply J.cond_dec rfl | apply J.cond rfl
                            case' ht =>
                              intro h
                              try (first | (exfalso; omega) | (cases h; done) | (exfalso; simp at h; done) | subst h)
                              all_goals
                                refine J.seq ?_
                                refine J.region ?_
                                refine JL.step (y_fieldAddr hT rfl rfl rfl rfl rfl rfl) rfl rfl rfl ?_
                                refine JL.step (y_load1 hT rfl rfl rfl (Rd1.row (by (repeat (first | exact Pick.head | apply Pick.tail | apply Pick.app))) (hat 6))) rfl rfl rfl ?_
                                refine JL.loud rfl (l_callF e22 rfl rfl (rword_spec E r.err _) ?_)
                                rintro _ _ ⟨rfl, rfl⟩
                                refine JL.step (y_move rfl) rfl rfl rfl (JL.step (y_extract rfl rfl) rfl rfl rfl (JL.step (y_extract rfl rfl) rfl rfl rfl (JL.step (y_assign rfl) rfl rfl rfl (JL.step (y_assign rfl) rfl rfl rfl ?_))))
                                refine JL.nil ?_
                                refine JE.then_normal ?_
                                refine J.seq ?_
                                refine J.region ?_
                                obtain ⟨bw, hbw⟩ : ∃ b, (wordF r.err).2 = b := ⟨_, rfl⟩
                                rw [hbw] at r8 ⊢
                                refine JL.step (y_move rfl) rfl rfl rfl (JL.step (y_move rfl) rfl rfl rfl ?_)
                                all_goals (first | (refine JL.gsplit_dec rfl rfl rfl (fun h => ?_) (fun h => ?_) <;> try (first | (exfalso; omega) | exact absurd rfl h)) | (refine JL.gsplit rfl rfl rfl (fun h => ?_) (fun h => ?_) <;> try (first | cases h | (exfalso; simp at h; done))) | skip)
                                all_goals (first | refine JL.gskip rfl rfl rfl rfl rfl rfl ?_ | refine JL.gskipU rfl rfl rfl rfl rfl ?_ | refine JL.gstep rfl rfl rfl (y_move rfl) rfl rfl ?_)
                                all_goals (refine JL.step (y_pick rfl rfl rfl) rfl rfl rfl ?_)
                                all_goals (refine JL.step (y_move rfl) rfl rfl rfl ?_)
                                all_goals (first | (refine JL.gsplit_dec rfl rfl rfl (fun h => ?_) (fun h => ?_) <;> try (first | (exfalso; omega) | exact absurd rfl h)) | (refine JL.gsplit rfl rfl rfl (fun h => ?_) (fun h => ?_) <;> try (first | cases h | (exfalso; simp at h; done))) | skip)
                                all_goals (first | refine JL.gskip rfl rfl rfl rfl rfl rfl ?_ | refine JL.gskipU rfl rfl rfl rfl rfl ?_ | refine JL.gstep rfl rfl rfl (y_move rfl) rfl rfl ?_)
                                all_goals (refine JL.step (y_pick rfl rfl rfl) rfl rfl rfl ?_)
                                all_goals (refine JL.step (y_move rfl) rfl rfl rfl ?_)
                                all_goals (first | (refine JL.gsplit_dec rfl rfl rfl (fun h => ?_) (fun h => ?_) <;> try (first | (exfalso; omega) | exact absurd rfl h)) | (refine JL.gsplit rfl rfl rfl (fun h => ?_) (fun h => ?_) <;> try (first | cases h | (exfalso; simp at h; done))) | skip)
                                all_goals (first | refine JL.gskip rfl rfl rfl rfl rfl rfl ?_ | refine JL.gskipU rfl rfl rfl rfl rfl ?_ | refine JL.gstep rfl rfl rfl (y_move rfl) rfl rfl ?_)
                                all_goals (refine JL.step (y_pick rfl rfl rfl) rfl rfl rfl ?_)
                                all_goals (refine JL.step (y_move rfl) rfl rfl rfl ?_)
                                all_goals (first | (refine JL.gsplit_dec rfl rfl rfl (fun h => ?_) (fun h => ?_) <;> try (first | (exfalso; omega) | exact absurd rfl h)) | (refine JL.gsplit rfl rfl rfl (fun h => ?_) (fun h => ?_) <;> try (first | cases h | (exfalso; simp at h; done))) | skip)
                                all_goals (first | refine JL.gskip rfl rfl rfl rfl rfl rfl ?_ | refine JL.gskipU rfl rfl rfl rfl rfl ?_ | refine JL.gstep rfl rfl rfl (y_move rfl) rfl rfl ?_)
                                all_goals (refine JL.step (y_pick rfl rfl rfl) rfl rfl rfl ?_)
                                all_goals (refine JL.step (y_move rfl) rfl rfl rfl ?_)
                                all_goals (first | (refine JL.gsplit_dec rfl rfl rfl (fun h => ?_) (fun h => ?_) <;> try (first | (exfalso; omega) | exact absurd rfl h)) | (refine JL.gsplit rfl rfl rfl (fun h => ?_) (fun h => ?_) <;> try (first | cases h | (exfalso; simp at h; done))) | skip)
                                all_goals (first | refine JL.gskip rfl rfl rfl rfl rfl rfl ?_ | refine JL.gskipU rfl rfl rfl rfl rfl ?_ | refine JL.gstep rfl rfl rfl (y_move rfl) rfl rfl ?_)
                                all_goals (refine JL.step (y_pick rfl rfl rfl) rfl rfl rfl ?_)
                                all_goals (refine JL.step (y_assign rfl) rfl rfl rfl ?_)
                                all_goals refine JL.nil ?_
                                all_goals refine JE.then_normal ?_
                                all_goals
                                  refine J.ret ?_
                                  refine JE.block_ret ?_
                                  refine JE.then_ret ?_
                                  refine JE.ret1 (.inl rfl) rfl rfl (by (first | exact RV.tmp rfl | exact RV.cell1 hT rfl rfl rfl (by (exact Rd1.row (by (repeat (first | exact Pick.head | apply Pick.tail | apply Pick.app))) (by rfl))) | exact RV.cellN hT rfl rfl rfl (by (first | exact RdN.rowAll (by (repeat (first | exact Pick.head | apply Pick.tail | apply Pick.app))) | exact RdN.own (by (repeat (first | exact Pick.head | apply Pick.tail | apply Pick.app))))) (by (first | rfl | assumption | (simp; done) | omega)))) ?_
                                  refine ⟨?_, fun w h => h.sup (by (repeat (first | exact Sup.refl | apply Sup.cons (by (repeat (first | exact Pick.head | apply Pick.tail | apply Pick.app))) | apply Sup.app | apply Sup.skip | apply Sup.skips)))⟩
                                  first
                                  | (have hk1 : r.kind = 1 := by omega
                                     rw [r1 hk1]
                                     first | rfl | (cases bn <;> cases bt <;> cases bs <;> cases bc <;> cases be <;> rfl) | (simp_all; done))
                                  | (have hk1 : r.kind = 2 ∨ r.kind = 6 := by omega
                                     rw [r2 hk1]
                                     first | rfl | (cases bk <;> cases bn <;> cases bt <;> cases bs <;> cases bc <;> cases be <;> rfl) | (simp_all; done))
                                  | (have hk1 : r.kind = 3 := by omega
                                     rw [r3 hk1]
                                     first
                                     | (have zz := hall2
                                        rw [hall2.1, decide_eq_true hall2.2, hb3']
                                        first | rfl | (cases bk <;> cases bt <;> cases bs <;> cases bc <;> cases be <;> cases b3 <;> rfl) | (simp_all; done))
                                     | (have zz := hbq
                                        have hyx : y = x := by
                                          refine Decidable.of_not_not fun q1 => ?_
                                          rw [decide_eq_false q1] at hbq
                                          first | cases hbq | (rw [hbq] at h; cases h)
                                        have hn : ¬ r.names.Nodup := by
                                          intro q1
                                          have := (List.getElem?_inj (by omega) q1).1 (by rw [hy, hyx, hx] : r.names[j]? = r.names[i]?)
                                          omega
                                        rw [decide_eq_false hn, Bool.and_false]
                                        rfl)
                                     | (have hn : r.names.all nameB = false := by
                                          rw [Bool.eq_false_iff]
                                          intro q1
                                          have := List.all_eq_true.1 q1 x (List.mem_of_getElem? hx)
                                          rw [hbx] at this
                                          cases this
                                        rw [hn]
                                        rfl))
                                  | (have hk1 : r.kind = 4 := by omega
                                     rw [r4 hk1, hok]
                                     first | rfl | (cases bk <;> cases bn <;> cases bt <;> cases bc <;> cases be <;> cases b4 <;> cases b5 <;> rfl) | (simp_all; done))
                                  | (have hk1 : r.kind = 5 := by omega
                                     rw [r5 hk1]
                                     first
                                     | (have zz := hall3
                                        rw [hall3, hb6']
                                        first | rfl | (cases bk <;> cases bn <;> cases bs <;> cases bc <;> cases be <;> cases b6 <;> rfl) | (simp_all; done))
                                     | (have hn : r.texts.all textB = false := by
                                          rw [Bool.eq_false_iff]
                                          intro q1
                                          have := List.all_eq_true.1 q1 x (List.mem_of_getElem? hx)
                                          rw [hbx] at this
                                          cases this
                                        rw [hn]
                                        rfl))
                                  | (have hk1 : r.kind = 7 := by omega
                                     rw [r7 hk1]
                                     first
                                     | (have zz := hall4
                                        rw [hall4]
                                        first | rfl | (cases bk <;> cases bn <;> cases bt <;> cases bs <;> cases be <;> rfl) | (simp_all; done))
                                     | (have hn : okN z = false := by
                                          rw [Bool.eq_false_iff]
                                          intro q1
                                          obtain ⟨e1, e2, _⟩ := okN_nat q1
                                          first | omega | (simp_all; done) | (simp_all; omega)
                                        have hm := List.mem_of_getElem? hz
                                        simp only [List.mem_cons, List.not_mem_nil, or_false] at hm
                                        have hn2 : (okN r.out && okN r.acked && okN r.inn) = false := by
                                          rcases hm with rfl | rfl | rfl
                                          · rw [hn]; rfl
                                          · rw [hn, Bool.and_false]; rfl
                                          · rw [hn, Bool.and_false]
                                        rw [hn2]
                                        rfl))
                                  | (have hk1 : r.kind = 8 := by omega
                                     rw [r8 hk1]
                                     first | rfl | (cases bk <;> cases bn <;> cases bt <;> cases bs <;> cases bc <;> cases bw <;> rfl) | (simp_all; done))
                                  | rw [r9 (by omega) (by omega) (by omega) (by omega) (by omega) (by omega) (by omega) (by omega)]
                            case' hf =>
                              intro h
                              try (first | (exfalso; omega) | (cases h; done) | (exfalso; simp at h; done) | subst h)
                              all_goals
                                refine J.skip ?_
  all_goals refine JE.block_normal ?_
  all_goals refine JE.then_normal ?_
  all_goals
    refine J.seq ?_
    refine J.region ?_
    refine JL.step (y_assign rfl) rfl rfl rfl ?_
    refine JL.nil ?_
    refine JE.then_normal ?_
    refine J.ret ?_
    refine JE.ret1 (.inl rfl) rfl rfl (by (first | exact RV.tmp rfl | exact RV.cell1 hT rfl rfl rfl (by (exact Rd1.row (by (repeat (first | exact Pick.head | apply Pick.tail | apply Pick.app))) (by rfl))) | exact RV.cellN hT rfl rfl rfl (by (first | exact RdN.rowAll (by (repeat (first | exact Pick.head | apply Pick.tail | apply Pick.app))) | exact RdN.own (by (repeat (first | exact Pick.head | apply Pick.tail | apply Pick.app))))) (by (first | rfl | assumption | (simp; done) | omega)))) ?_
    refine ⟨?_, fun w h => h.sup (by (repeat (first | exact Sup.refl | apply Sup.cons (by (repeat (first | exact Pick.head | apply Pick.tail | apply Pick.app))) | apply Sup.app | apply Sup.skip | apply Sup.skips)))⟩
    first
    | (have hk1 : r.kind = 1 := by omega
       rw [r1 hk1]
       first | rfl | (cases bn <;> cases bt <;> cases bs <;> cases bc <;> cases be <;> rfl) | (simp_all; done))
    | (have hk1 : r.kind = 2 ∨ r.kind = 6 := by omega
       rw [r2 hk1]
       first | rfl | (cases bk <;> cases bn <;> cases bt <;> cases bs <;> cases bc <;> cases be <;> rfl) | (simp_all; done))
    | (have hk1 : r.kind = 3 := by omega
       rw [r3 hk1]
       first
       | (have zz := hall2
          rw [hall2.1, decide_eq_true hall2.2, hb3']
          first | rfl | (cases bk <;> cases bt <;> cases bs <;> cases bc <;> cases be <;> cases b3 <;> rfl) | (simp_all; done))
       | (have zz := hbq
          have hyx : y = x := by
            refine Decidable.of_not_not fun q1 => ?_
            rw [decide_eq_false q1] at hbq
            first | cases hbq | (rw [hbq] at h; cases h)
          have hn : ¬ r.names.Nodup := by
            intro q1
            have := (List.getElem?_inj (by omega) q1).1 (by rw [hy, hyx, hx] : r.names[j]? = r.names[i]?)
            omega
          rw [decide_eq_false hn, Bool.and_false]
          rfl)
       | (have hn : r.names.all nameB = false := by
            rw [Bool.eq_false_iff]
            intro q1
            have := List.all_eq_true.1 q1 x (List.mem_of_getElem? hx)
            rw [hbx] at this
            cases this
          rw [hn]
          rfl))
    | (have hk1 : r.kind = 4 := by omega
       rw [r4 hk1, hok]
       first | rfl | (cases bk <;> cases bn <;> cases bt <;> cases bc <;> cases be <;> cases b4 <;> cases b5 <;> rfl) | (simp_all; done))
    | (have hk1 : r.kind = 5 := by omega
       rw [r5 hk1]
       first
       | (have zz := hall3
          rw [hall3, hb6']
          first | rfl | (cases bk <;> cases bn <;> cases bs <;> cases bc <;> cases be <;> cases b6 <;> rfl) | (simp_all; done))
       | (have hn : r.texts.all textB = false := by
            rw [Bool.eq_false_iff]
            intro q1
            have := List.all_eq_true.1 q1 x (List.mem_of_getElem? hx)
            rw [hbx] at this
            cases this
          rw [hn]
          rfl))
    | (have hk1 : r.kind = 7 := by omega
       rw [r7 hk1]
       first
       | (have zz := hall4
          rw [hall4]
          first | rfl | (cases bk <;> cases bn <;> cases bt <;> cases bs <;> cases be <;> rfl) | (simp_all; done))
       | (have hn : okN z = false := by
            rw [Bool.eq_false_iff]
            intro q1
            obtain ⟨e1, e2, _⟩ := okN_nat q1
            first | omega | (simp_all; done) | (simp_all; omega)
          have hm := List.mem_of_getElem? hz
          simp only [List.mem_cons, List.not_mem_nil, or_false] at hm
          have hn2 : (okN r.out && okN r.acked && okN r.inn) = false := by
            rcases hm with rfl | rfl | rfl
            · rw [hn]; rfl
            · rw [hn, Bool.and_false]; rfl
            · rw [hn, Bool.and_false]
          rw [hn2]
          rfl))
    | (have hk1 : r.kind = 8 := by omega
       rw [r8 hk1]
       first | rfl | (cases bk <;> cases bn <;> cases bt <;> cases bs <;> cases bc <;> cases bw <;> rfl) | (simp_all; done))
    | rw [r9 (by omega) (by omega) (by omega) (by omega) (by omega) (by omega) (by omega) (by omega)]
end
end
section
open Go Go.SL
section
/-- A reply that comes from outside. -/
structure RpX (r : RpT) : Prop where
  key : r.key.length = 32
  kb : Bys r.key
  nb : ∀ t ∈ r.names, Bys t
  tb : ∀ t ∈ r.texts, Bys t
  seq : R64i r.seq
  out : R64i r.out
  acked : R64i r.acked
  inn : R64i r.inn
theorem RpX.short {r : RpT} (h : RpX r) : RpB (shortR r) := shortR_b h.key h.kb h.nb h.tb h.seq h.out h.acked h.inn
end
section
attribute [local irreducible] J JL JE JM LS Y Fc RV Code.wp wpList Code.wpIn wpListIn
attribute [local irreducible] Yc strOf valD dig
variable (E : World)
theorem line_answers (r0 : RpT) (p1 : Option Addr) (c1 : Nat) (p2 : Option Addr) (c2 : Nat) (l : List HProp) (hX : RpX r0) (h1 : InL l p1 r0.names.length c1 (strs r0.names)) (h2 : InL l p2 r0.texts.length c2 (strs r0.texts)) (hK : K24 E l) :
    Fc prog E 4 [.agg (rpE r0 (.slice p1 r0.names.length c1) (.slice p2 r0.texts.length c2)).toArray].toArray l (fun v l' => v = .bool true ∧ l' = l) := by
  refine Fc.eqs ?_
  have e0 : strOf [] = ⟨#[]⟩ := by unfold strOf; rfl
  have hr := hX.short
  obtain ⟨r, hrr⟩ : ∃ r, shortR r0 = r := ⟨_, rfl⟩
  have hid := shortR_idem r0
  rw [hrr] at hr hid
  have hq := repR_b (lineR r)
  have hch := chkB_right hr.key hr.kb
  have hpf := printF_right hr.key hr.kb
  obtain ⟨b, hb⟩ : ∃ b, rightB r = b := ⟨_, rfl⟩
  rw [hb] at hch hpf
  have hlB : Bys (lineR r) := joinW_bys fun w hw => ((printW_each hr).2 w hw).2
  obtain ⟨cs0, hcs0⟩ : ∃ cs, rpE r0 (.slice p1 r0.names.length c1) (.slice p2 r0.texts.length c2) = cs := ⟨_, rfl⟩
  have hcl0 : cs0.length = i36.size := by rw [← hcs0]; exact rpE_length hX.key _ _
  rw [hcs0]
  refine Fc.of_body (c := ?codeC) Tryz.func4 ?hb Tryz.ntmps4 ?hl ?_
  case hb => exact rfl
  case hl => exact rfl
  refine J.seq ?_
  refine J.region ?_
  refine JL.loud rfl (l_box (cs := cs0) rfl rfl rfl (fun b0 => ?_))
  refine JL.step (y_assign rfl) rfl rfl rfl ?_
  refine JL.nil ?_
  refine JE.then_normal ?_
  refine J.seq ?_
  refine J.seq ?_
  refine J.region ?_
  refine JL.loud rfl (l_callF e11 rfl rfl (wakes_spec E _ (hK.cons _)) ?_)
  rintro _ _ ⟨rfl, rfl⟩
  refine JL.step (y_not rfl) rfl rfl rfl ?_
  refine JL.nil ?_
  refine JE.then_normal ?_
  refine J.cond_f rfl (by (first | rfl | assumption | (simp; done) | (simp; omega))) ?_
  refine J.skip ?_
  refine JE.then_normal ?_
  refine J.seq ?_
  refine J.region ?_
  refine JL.step (y_loadN hT rfl rfl rfl (RdN.rowAll (by (repeat (first | exact Pick.head | apply Pick.tail | apply Pick.app)))) hcl0) rfl rfl rfl ?_
  refine JL.loud rfl (l_callF e15 rfl rfl (hcs0 ▸ short_spec E r0 p1 c1 p2 c2 _ hX.key hX.nb hX.tb (h1.cons _) (h2.cons _)) ?_)
  rintro _ l7 ⟨a1, k1, a2, k2, rfl, e7⟩
  obtain rfl := e7
  rw [hrr]
  obtain ⟨cs, hcs⟩ : ∃ cs, rpE r (.slice a1 r.names.length k1) (.slice a2 r.texts.length k2) = cs := ⟨_, rfl⟩
  have hcl : cs.length = i36.size := by rw [← hcs]; exact rpE_length hr.key _ _
  have hone : ∀ v ∈ cs, v.oneCell' = true := by rw [← hcs]; exact rpE_one r rfl rfl
  rw [hcs]
  refine JL.loud rfl (l_storeAll hT rfl rfl rfl hcl hone (Pick.tail (Pick.tail Pick.head)) (by (first | rfl | assumption | (simp; done) | omega)) ?_)
  refine JL.nil ?_
  refine JE.then_normal ?_
  refine J.seq ?_
  refine J.pre (l' := ownS a1 k1 r.names :: ownS a2 k2 r.texts :: row b0 36 cs :: l) (fun w h => h.sup (by (repeat (first | exact Sup.refl | apply Sup.cons (by (repeat (first | exact Pick.head | apply Pick.tail | apply Pick.app))) | apply Sup.app | apply Sup.skip | apply Sup.skips)))) ?_
  refine J.fact (fun w s => Sat.own_at s) fun oo1 => ?_
  refine J.fact (fun w s => Sat.own_at (s.pick (Pick.tail Pick.head))) fun oo2 => ?_
  have hi1 : InL (ownS a1 k1 r.names :: ownS a2 k2 r.texts :: row b0 36 cs :: l) a1 r.names.length k1 (strs r.names) := oo1.inl Pick.head
  have hi2 : InL (ownS a1 k1 r.names :: ownS a2 k2 r.texts :: row b0 36 cs :: l) a2 r.texts.length k2 (strs r.texts) := oo2.inl (Pick.tail Pick.head)
  have hK4 : K24 E (ownS a1 k1 r.names :: ownS a2 k2 r.texts :: row b0 36 cs :: l) := (((hK.cons _).cons _).cons _)
  obtain ⟨L4, hL4⟩ : ∃ L, ownS a1 k1 r.names :: ownS a2 k2 r.texts :: row b0 36 cs :: l = L := ⟨_, rfl⟩
  have hpk : ∃ q, Pick L4 (row b0 36 cs) q := ⟨_, hL4 ▸ Pick.tail (Pick.tail Pick.head)⟩
  obtain ⟨q4, hpk⟩ := hpk
  have hend : ∀ w, Sat E (stars L4) w → Sat E (stars l) w := fun w h => by rw [← hL4] at h; exact h.sup (by (repeat (first | exact Sup.refl | apply Sup.cons (by (repeat (first | exact Pick.head | apply Pick.tail | apply Pick.app))) | apply Sup.app | apply Sup.skip | apply Sup.skips)))
  rw [hL4] at hi1 hi2 hK4 ⊢
  refine J.region ?_
  refine JL.step (y_loadN hT rfl rfl rfl (RdN.rowAll hpk) hcl) rfl rfl rfl ?_
  refine JL.loud rfl (l_callF e15 rfl rfl (hcs ▸ short_spec E r a1 k1 a2 k2 _ hr.key (fun t ht => (hr.nb t ht).1) (fun t ht => (hr.tb t ht).1) hi1 hi2) ?_)
  rintro _ l8 ⟨a3, k3, a4, k4, rfl, e8⟩
  obtain rfl := e8
  rw [hid]
  obtain ⟨cs3, hcs3⟩ : ∃ cs, rpE r (.slice a3 r.names.length k3) (.slice a4 r.texts.length k4) = cs := ⟨_, rfl⟩
  have hcl3 : cs3.length = i36.size := by rw [← hcs3]; exact rpE_length hr.key _ _
  have hone3 : ∀ v ∈ cs3, v.oneCell' = true := by rw [← hcs3]; exact rpE_one r rfl rfl
  rw [hcs3]
  refine JL.loud rfl (l_alloc hT rfl rfl (by (first | rfl | simp)) rfl (fun b3 => ?_))
  refine JL.loud rfl (l_storeAll hT rfl rfl rfl hcl3 hone3 Pick.head (by (first | rfl | assumption | (simp; done) | omega)) ?_)
  refine JL.nil ?_
  refine JE.then_normal ?_
  refine J.seq ?_
  refine J.fact (fun w s => Sat.own_at (s.pick (Pick.tail Pick.head))) fun oo3 => ?_
  refine J.fact (fun w s => Sat.own_at (s.pick (Pick.tail (Pick.tail Pick.head)))) fun oo4 => ?_
  obtain ⟨L5, hL5⟩ : ∃ L, row b3 36 cs3 :: ownS a3 k3 r.names :: ownS a4 k4 r.texts :: L4 = L := ⟨_, rfl⟩
  have hi3 : InL L5 a3 r.names.length k3 (strs r.names) := hL5 ▸ oo3.inl (Pick.tail Pick.head)
  have hi4 : InL L5 a4 r.texts.length k4 (strs r.texts) := hL5 ▸ oo4.inl (Pick.tail (Pick.tail Pick.head))
  have hj1 : InL L5 a1 r.names.length k1 (strs r.names) := hL5 ▸ ((hi1.cons _).cons _).cons _
  have hj2 : InL L5 a2 r.texts.length k2 (strs r.texts) := hL5 ▸ ((hi2.cons _).cons _).cons _
  have hK5 : K24 E L5 := hL5 ▸ ((hK4.cons _).cons _).cons _
  obtain ⟨q5, hp5⟩ : ∃ q, Pick L5 (row b0 36 cs) q := ⟨_, hL5 ▸ Pick.tail (Pick.tail (Pick.tail hpk))⟩
  obtain ⟨q6, hp6⟩ : ∃ q, Pick L5 (row b3 36 cs3) q := ⟨_, hL5 ▸ Pick.head⟩
  have hend5 : ∀ w, Sat E (stars L5) w → Sat E (stars l) w := fun w h => by
    rw [← hL5] at h
    exact hend w h.drop.drop.drop
  show J _ _ _ _ _ _ _ _ (row b3 36 cs3 :: ownS a3 k3 r.names :: ownS a4 k4 r.texts :: L4)
  rw [hL5]
  refine J.region ?_
  refine JL.step (y_loadN hT rfl rfl rfl (RdN.rowAll hp5) hcl) rfl rfl rfl ?_
  refine JL.loud rfl (l_callF e16 rfl rfl (hpf ▸ hcs ▸ printP_spec E r a1 k1 a2 k2 _ hr hq hj1 hj2 hK5) ?_)
  rintro _ _ ⟨rfl, rfl⟩
  refine JL.step (y_move rfl) rfl rfl rfl (JL.step (y_extract rfl rfl) rfl rfl rfl (JL.step (y_extract rfl rfl) rfl rfl rfl (JL.step (y_assign rfl) rfl rfl rfl (JL.step (y_assign rfl) rfl rfl rfl ?_))))
  refine JL.nil ?_
  refine JE.then_normal ?_
  refine J.seq ?_
  refine J.region ?_
  refine JL.step (y_loadN hT rfl rfl rfl (RdN.rowAll hp5) hcl) rfl rfl rfl ?_
  refine JL.loud rfl (l_callF e17 rfl rfl (hch ▸ hcs ▸ check_spec E r a1 k1 a2 k2 _ hr hq hj1 hj2 hK5) ?_)
  rintro _ _ ⟨rfl, rfl⟩
  refine JL.step (y_assign rfl) rfl rfl rfl ?_
  refine JL.nil ?_
  refine JE.then_normal ?_
  refine J.seq ?_
  refine J.seq ?_
  rcases b with _ | _
  all_goals
    refine J.region ?_
    refine JL.step (y_loadN hT rfl rfl rfl (RdN.rowAll hp5) hcl) rfl rfl rfl ?_
    refine JL.step (y_loadN hT rfl rfl rfl (RdN.rowAll hp6) hcl3) rfl rfl rfl ?_
    refine JL.loud rfl (l_callF e18 rfl rfl (hcs ▸ hcs3 ▸ rsame_spec E r r a1 a2 a3 a4 k1 k2 k3 k4 _ hr hr hj1 hj2 hi3 hi4) ?_)
    rintro _ _ ⟨rfl, rfl⟩
    rw [decide_eq_true (rfl : r = r)]
    refine JL.step (y_not rfl) rfl rfl rfl (JL.step (y_move rfl) rfl rfl rfl ?_)
    all_goals (first | (refine JL.gsplit_dec rfl rfl rfl (fun h => ?_) (fun h => ?_) <;> try (first | (exfalso; omega) | exact absurd rfl h)) | (refine JL.gsplit rfl rfl rfl (fun h => ?_) (fun h => ?_) <;> try (first | cases h | (exfalso; simp at h; done))) | skip)
    all_goals (first | refine JL.gskip rfl rfl rfl rfl rfl rfl ?_ | refine JL.gskipU rfl rfl rfl rfl rfl ?_ | refine JL.gstep rfl rfl rfl (y_move rfl) rfl rfl ?_)
    all_goals (first | refine JL.gskip rfl rfl rfl rfl rfl rfl ?_ | refine JL.gskipU rfl rfl rfl rfl rfl ?_ | refine JL.gstep rfl rfl rfl (y_move rfl) rfl rfl ?_)
    all_goals (first | refine JL.gskip rfl rfl rfl rfl rfl rfl ?_ | refine JL.gskipU rfl rfl rfl rfl rfl ?_ | refine JL.gstep rfl rfl rfl (y_neq rfl rfl) rfl rfl ?_)
    all_goals (refine JL.step (y_pick rfl rfl rfl) rfl rfl rfl ?_)
    all_goals refine JL.nil ?_
  all_goals refine JE.then_normal ?_
  all_goals
    first | apply J.cond_dec rfl | apply J.cond rfl
    case' ht =>
      intro h
      try (first | (exfalso; omega) | (cases h; done) | (exfalso; simp at h; done) | subst h)
      all_goals
        refine J.seq ?_
        refine J.region ?_
        refine JL.step (y_assign rfl) rfl rfl rfl ?_
        refine JL.nil ?_
        refine JE.then_normal ?_
        refine J.ret ?_
        refine JE.then_ret ?_
        refine JE.ret1 (.inl rfl) rfl rfl (by (first | exact RV.tmp rfl | exact RV.cell1 hT rfl rfl rfl (by (exact Rd1.row (by (repeat (first | exact Pick.head | apply Pick.tail | apply Pick.app))) (by rfl))) | exact RV.cellN hT rfl rfl rfl (by (first | exact RdN.rowAll (by (repeat (first | exact Pick.head | apply Pick.tail | apply Pick.app))) | exact RdN.own (by (repeat (first | exact Pick.head | apply Pick.tail | apply Pick.app))))) (by (first | rfl | assumption | (simp; done) | omega)))) ?_
        exact ⟨rfl, hend5⟩
    case' hf =>
      intro h
      try (first | (exfalso; omega) | (cases h; done) | (exfalso; simp at h; done) | subst h)
      all_goals
        refine J.skip ?_
  all_goals refine JE.then_normal ?_
  all_goals
    refine J.seq ?_
    refine J.seq ?_
    refine J.region ?_
    refine JL.step (y_loadN hT rfl rfl rfl (RdN.rowAll hp5) hcl) rfl rfl rfl ?_
    refine JL.loud rfl (l_callF e19 rfl rfl (hb ▸ hcs ▸ rright_spec E r a1 k1 a2 k2 _ hr.toW hj1 hj2) ?_)
    rintro _ _ ⟨rfl, rfl⟩
    refine JL.step (y_not rfl) rfl rfl rfl ?_
    refine JL.nil ?_
    refine JE.then_normal ?_
    first | apply J.cond_dec rfl | apply J.cond rfl
    case' ht =>
      intro h
      try (first | (exfalso; omega) | (cases h; done) | (exfalso; simp at h; done) | subst h)
      all_goals
        refine J.seq ?_
        refine J.region ?_
        refine JL.step (y_move rfl) rfl rfl rfl (JL.step (y_eql rfl rfl) rfl rfl rfl (JL.step (y_move rfl) rfl rfl rfl ?_))
        all_goals (first | (refine JL.gsplit_dec rfl rfl rfl (fun h => ?_) (fun h => ?_) <;> try (first | (exfalso; omega) | exact absurd rfl h)) | (refine JL.gsplit rfl rfl rfl (fun h => ?_) (fun h => ?_) <;> try (first | cases h | (exfalso; simp at h; done))) | skip)
        all_goals (first | refine JL.gskip rfl rfl rfl rfl rfl rfl ?_ | refine JL.gskipU rfl rfl rfl rfl rfl ?_ | refine JL.gstep rfl rfl rfl (y_move rfl) rfl rfl ?_)
        all_goals (first | refine JL.gskip rfl rfl rfl rfl rfl rfl ?_ | refine JL.gskipU rfl rfl rfl rfl rfl ?_ | refine JL.gstep rfl rfl rfl (y_eqS (xs := []) (ys := []) (b := true) Bys.nil Bys.nil rfl (by rw [e0]; rfl) (by simp)) rfl rfl ?_)
        all_goals (refine JL.step (y_pick rfl rfl rfl) rfl rfl rfl ?_)
        all_goals (refine JL.step (y_assign rfl) rfl rfl rfl ?_)
        all_goals refine JL.nil ?_
        all_goals refine JE.then_normal ?_
        all_goals
          refine J.ret ?_
          refine JE.then_ret ?_
          refine JE.ret1 (.inl rfl) rfl rfl (by (first | exact RV.tmp rfl | exact RV.cell1 hT rfl rfl rfl (by (exact Rd1.row (by (repeat (first | exact Pick.head | apply Pick.tail | apply Pick.app))) (by rfl))) | exact RV.cellN hT rfl rfl rfl (by (first | exact RdN.rowAll (by (repeat (first | exact Pick.head | apply Pick.tail | apply Pick.app))) | exact RdN.own (by (repeat (first | exact Pick.head | apply Pick.tail | apply Pick.app))))) (by (first | rfl | assumption | (simp; done) | omega)))) ?_
          exact ⟨rfl, hend5⟩
    case' hf =>
      intro h
      try (first | (exfalso; omega) | (cases h; done) | (exfalso; simp at h; done) | subst h)
      all_goals
        refine J.skip ?_
    all_goals refine JE.then_normal ?_
    all_goals
      refine J.seq ?_
      refine J.region ?_
      refine JL.step (y_move rfl) rfl rfl rfl (JL.step (y_eql rfl rfl) rfl rfl rfl (JL.step (y_move rfl) rfl rfl rfl ?_))
      all_goals (first | (refine JL.gsplit_dec rfl rfl rfl (fun h => ?_) (fun h => ?_) <;> try (first | (exfalso; omega) | exact absurd rfl h)) | (refine JL.gsplit rfl rfl rfl (fun h => ?_) (fun h => ?_) <;> try (first | cases h | (exfalso; simp at h; done))) | skip)
      all_goals (first | refine JL.gskip rfl rfl rfl rfl rfl rfl ?_ | refine JL.gskipU rfl rfl rfl rfl rfl ?_ | refine JL.gstep rfl rfl rfl (y_move rfl) rfl rfl ?_)
      all_goals (first | (refine JL.gsplit_dec rfl rfl rfl (fun h => ?_) (fun h => ?_) <;> try (first | (exfalso; omega) | exact absurd rfl h)) | (refine JL.gsplit rfl rfl rfl (fun h => ?_) (fun h => ?_) <;> try (first | cases h | (exfalso; simp at h; done))) | skip)
      all_goals (first | refine JL.gskip rfl rfl rfl rfl rfl rfl ?_ | refine JL.gskipU rfl rfl rfl rfl rfl ?_ | refine JL.gstep rfl rfl rfl (y_loadN hT rfl rfl rfl (RdN.rowAll hp5) hcl) rfl rfl ?_)
      all_goals (first | refine JL.gskip rfl rfl rfl rfl rfl rfl ?_ | refine JL.gskipU rfl rfl rfl rfl rfl ?_ | (refine JL.gloud rfl rfl rfl (l_callF e20 rfl rfl (hcs ▸ rprintR_spec E r a1 k1 a2 k2 _ hr hb hj1 hj2) ?_); rintro _ _ ⟨rfl, rfl⟩))
      all_goals (first | refine JL.gskip rfl rfl rfl rfl rfl rfl ?_ | refine JL.gskipU rfl rfl rfl rfl rfl ?_ | refine JL.gstep rfl rfl rfl (y_eqS (xs := lineR r) (ys := lineR r) (b := true) hlB hlB rfl rfl (by simp)) rfl rfl ?_)
      all_goals (refine JL.step (y_pick rfl rfl rfl) rfl rfl rfl ?_)
      all_goals (refine JL.step (y_assign rfl) rfl rfl rfl ?_)
      all_goals refine JL.nil ?_
      all_goals refine JE.then_normal ?_
      all_goals
        refine J.ret ?_
        refine JE.ret1 (.inl rfl) rfl rfl (by (first | exact RV.tmp rfl | exact RV.cell1 hT rfl rfl rfl (by (exact Rd1.row (by (repeat (first | exact Pick.head | apply Pick.tail | apply Pick.app))) (by rfl))) | exact RV.cellN hT rfl rfl rfl (by (first | exact RdN.rowAll (by (repeat (first | exact Pick.head | apply Pick.tail | apply Pick.app))) | exact RdN.own (by (repeat (first | exact Pick.head | apply Pick.tail | apply Pick.app))))) (by (first | rfl | assumption | (simp; done) | omega)))) ?_
        exact ⟨rfl, hend5⟩
end
end
end Go.Proofs.YtccagffapohkhaaGreatDoor
