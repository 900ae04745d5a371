import Derived.Test.YtccagffapohkhaaGreatDoorJoin1
import Derived.Test.YtccagffapohkhaaGreatDoorJoin6
import Derived.Test.YtccagffapohkhaaGreatDoorJoin7
import Derived.Test.YtccagffapohkhaaGreatDoorJoin8
namespace Go.Proofs.YtccagffapohkhaaGreatDoor
section
open Go Go.SL
section
end
section
attribute [local irreducible] J JL JE JM LS Y Fc RV Code.wp wpList Code.wpIn wpListIn
attribute [local irreducible] Yc strOf valD dig
variable (E : World)
end
end
section
open Go Go.SL
section
attribute [local irreducible] J JL JE JM LS Y Fc RV Code.wp wpList Code.wpIn wpListIn
attribute [local irreducible] Yc strOf valD dig
variable (E : World)
theorem lawcut_spec (xs : List Int) (l : List HProp) (hB : Bys xs) : Fc prog E 12 [.string (strOf xs)].toArray l (fun v l' => v = .string (strOf (xs.take 700)) ∧ l' = l) := by
  refine Fc.eqs ?_
  refine Fc.of_body (c := ?codeC) Tryz.func12 ?hb Tryz.ntmps12 ?hl ?_
  case hb => exact rfl
  case hl => exact rfl
  refine J.seq ?_
  refine J.region ?_
  refine JL.step (y_assign rfl) rfl rfl rfl ?_
  refine JL.nil ?_
  refine JE.then_normal ?_
  refine J.seq ?_
  refine J.region ?_
  refine JL.step (y_move rfl) rfl rfl rfl (JL.step (y_move rfl) rfl rfl rfl ?_)
  refine JL.step (y_lenS hT rfl rfl rfl) rfl rfl rfl ?_
  refine JL.step (v := .int .i64 ((min xs.length 700 : Nat) : Int)) (y_min2 rfl rfl (by omega)) rfl rfl rfl ?_
  refine JL.step (y_cutS (lo := 0) (hi := min xs.length 700) hT hB rfl rfl rfl (.inl ⟨rfl, rfl⟩) (.inr ⟨_, _, _, rfl, rfl, rfl⟩) (Nat.zero_le _) (Nat.min_le_left _ _)) rfl rfl rfl ?_
  refine JL.step (y_assign rfl) rfl rfl rfl ?_
  refine JL.nil ?_
  refine JE.then_normal ?_
  refine J.ret ?_
  refine JE.ret1 (.inl rfl) rfl rfl (by (first | exact RV.tmp rfl | exact RV.cell1 hT rfl rfl rfl (by (exact Rd1.row (by (repeat (first | exact Pick.head | apply Pick.tail | apply Pick.app))) (by rfl))) | exact RV.cellN hT rfl rfl rfl (by (first | exact RdN.rowAll (by (repeat (first | exact Pick.head | apply Pick.tail | apply Pick.app))) | exact RdN.own (by (repeat (first | exact Pick.head | apply Pick.tail | apply Pick.app))))) (by (first | rfl | assumption | (simp; done) | omega)))) ?_
  have e : xs.take (min xs.length 700) = xs.take 700 := by
    rcases Nat.le_total xs.length 700 with q | q
    · rw [Nat.min_eq_left q, List.take_length, List.take_of_length_le q]
    · rw [Nat.min_eq_right q]
  rw [List.drop_zero, e]
  exact ⟨rfl, fun w h => h⟩
end
end
section
open Go Go.SL
section
def cutL (ns : List (List Int)) : List (List Int) := (ns.take 9).map fun s => s.take 700
def shortR (r : RpT) : RpT := { r with names := cutL r.names, texts := cutL r.texts }
theorem cutL_length (ns : List (List Int)) : (cutL ns).length ≤ 9 := by unfold cutL; rw [List.length_map, List.length_take]; omega
theorem cutL_in {ns : List (List Int)} {i : Nat} {x : List Int} (hx : ns[i]? = some x) (h : i < 9) : cutL (ns.take (i + 1)) = cutL (ns.take i) ++ [x.take 700] := by
  unfold cutL
  rw [List.take_take, List.take_take, Nat.min_eq_right (by omega), Nat.min_eq_right (by omega), List.take_add_one, hx, Option.toList_some, List.map_append]
  rfl
theorem cutL_out {ns : List (List Int)} {i : Nat} (h : ¬ i < 9) : cutL (ns.take (i + 1)) = cutL (ns.take i) := by
  unfold cutL
  rw [List.take_take, List.take_take, Nat.min_eq_left (by omega), Nat.min_eq_left (by omega)]
theorem cutL_mem {ns : List (List Int)} (hB : ∀ t ∈ ns, Bys t) : ∀ t ∈ cutL ns, Bys t ∧ t.length ≤ 700 := by
  intro t ht
  unfold cutL at ht
  obtain ⟨x, hx, rfl⟩ := List.mem_map.1 ht
  exact ⟨(hB x (List.mem_of_mem_take hx)).take _, by rw [List.length_take]; omega⟩
theorem rp_set33 {r : RpT} (h : r.key.length = 32) (a b a' : Value) : (rpE r a b).set 33 a' = rpE r a' b := by
  unfold rpE
  rw [List.set_cons_succ, List.set_append_right _ _ (by rw [ints_len, h]; decide), ints_len, h]
  rfl
theorem rp_set34 {r : RpT} (h : r.key.length = 32) (a b b' : Value) : (rpE r a b).set 34 b' = rpE r a b' := by
  unfold rpE
  rw [List.set_cons_succ, List.set_append_right _ _ (by rw [ints_len, h]; decide), ints_len, h]
  rfl
end
section
attribute [local irreducible] J JL JE JM LS Y Fc RV Code.wp wpList Code.wpIn wpListIn
attribute [local irreducible] Yc strOf valD dig
variable (E : World)
abbrev ownS (a : Option Addr) (c : Nat) (ws : List (List Int)) : HProp := own 9 1 (.slice a ws.length c) ws.length (strs ws)
theorem short_spec (r : RpT) (p1 : Option Addr) (c1 : Nat) (p2 : Option Addr) (c2 : Nat) (l : List HProp) (hk : r.key.length = 32) (hnB : ∀ t ∈ r.names, Bys t) (htB : ∀ t ∈ r.texts, Bys t) (h1 : InL l p1 r.names.length c1 (strs r.names)) (h2 : InL l p2 r.texts.length c2 (strs r.texts)) :
    Fc prog E 15 [.agg (rpE r (.slice p1 r.names.length c1) (.slice p2 r.texts.length c2)).toArray].toArray l
      (fun v l' => ∃ a1 k1 a2 k2, v = .agg (rpE (shortR r) (.slice a1 (shortR r).names.length k1) (.slice a2 (shortR r).texts.length k2)).toArray ∧ l' = ownS a1 k1 (shortR r).names :: ownS a2 k2 (shortR r).texts :: l) := by
  refine Fc.post ?_
  obtain ⟨cs, hcs⟩ : ∃ cs, rpE r (.slice p1 r.names.length c1) (.slice p2 r.texts.length c2) = cs := ⟨_, rfl⟩
  have hat := rp_at hk (.slice p1 r.names.length c1) (.slice p2 r.texts.length c2)
  have hcl : cs.length = 40 := by rw [← hcs]; exact rpE_length hk _ _
  have hm1 := h1.le
  have hm2 := h1.most
  have hm3 := h2.le
  have hm4 := h2.most
  unfold maxLen at hm2 hm4
  rw [hcs] at hat
  rw [hcs]
  refine Fc.of_body (c := ?codeC) Tryz.func15 ?hb Tryz.ntmps15 ?hl ?_
  case hb => exact rfl
  case hl => exact rfl
  refine J.seq ?_
  refine J.region ?_
  refine JL.loud rfl (l_box (cs := cs) rfl rfl rfl (fun b0 => ?_))
  refine JL.loud rfl (l_alloc hT rfl rfl (by (first | rfl | simp)) rfl (fun b1 => ?_))
  refine JL.nil ?_
  refine JE.then_normal ?_
  refine J.seq ?_
  refine J.region ?_
  refine JL.step (y_assign rfl) rfl rfl rfl (JL.step (y_assign rfl) rfl rfl rfl ?_)
  refine JL.nil ?_
  refine JE.then_normal ?_
  refine J.seqK (α := Option Addr × Nat) (fun _ => True) (fun s => [(1, .pointer (some ⟨b0, 0, none⟩)), (2, .pointer (some ⟨b1, 0, none⟩)), (3, .slice s.1 (cutL r.names).length s.2), (4, .slice none 0 0)]) (fun s => ownS s.1 s.2 (cutL r.names) :: ownS none 0 [] :: row b0 36 cs :: row b1 36 (rpE rp0 (.slice none 0 0) (.slice none 0 0)) :: l) ?hj8 (fun hk8 => ?hf8)
  case hf8 =>
    refine J.seq ?_
    refine J.region ?_
    refine JL.step (y_fieldAddr hT rfl rfl rfl rfl rfl rfl) rfl rfl rfl ?_
    refine JL.step (y_load1 hT rfl rfl rfl (Rd1.row (by (repeat (first | exact Pick.head | apply Pick.tail | apply Pick.app))) (hat 0))) rfl rfl rfl ?_
    refine JL.step (y_len_slice hT rfl rfl rfl) rfl rfl rfl (JL.step (y_move rfl) rfl rfl rfl ?_)
    refine JL.nil ?_
    refine JE.then_normal ?_
    refine J.block ?_
    refine J.pre (l' := ownS none 0 [] :: ownS none 0 [] :: row b0 36 cs :: row b1 36 (rpE rp0 (.slice none 0 0) (.slice none 0 0)) :: l) (fun w h => by
        have h9 : Sat E (stars (row b0 36 cs :: row b1 36 (rpE rp0 (.slice none 0 0) (.slice none 0 0)) :: l)) w := h.sup (by (repeat (first | exact Sup.refl | apply Sup.cons (by (repeat (first | exact Pick.head | apply Pick.tail | apply Pick.app))) | apply Sup.app | apply Sup.skip | apply Sup.skips)))
        exact h9.own_nil.own_nil) ?_
    refine J.loop (α := Nat × Option Addr × Nat) (fun s => s.1 ≤ r.names.length) (fun s => [(1, .pointer (some ⟨b0, 0, none⟩)), (2, .pointer (some ⟨b1, 0, none⟩)), (3, .slice s.2.1 (cutL (r.names.take s.1)).length s.2.2), (4, .slice none 0 0), (10, .slice p1 r.names.length c1), (11, .int .i64 r.names.length), (12, .int .i64 s.1)]) (fun s => ownS s.2.1 s.2.2 (cutL (r.names.take s.1)) :: ownS none 0 [] :: row b0 36 cs :: row b1 36 (rpE rp0 (.slice none 0 0) (.slice none 0 0)) :: l) (fun s => r.names.length - s.1) (0, none, 0) (Nat.zero_le _) ⟨rfl, rfl, rfl, rfl, rfl, rfl, rfl, trivial⟩ (fun w h => h) ?_
    rintro ⟨i, a, k⟩ hi
    dsimp only at hi ⊢
    refine J.seq ?_
    refine J.region ?_
    refine JL.step (y_lss rfl rfl) rfl rfl rfl ?_
    refine JL.nil ?_
    refine JE.then_normal ?_
    refine J.seq ?_
    first | apply J.cond_dec rfl | apply J.cond rfl
    case' ht =>
      intro h
      try (first | (exfalso; omega) | (cases h; done) | (exfalso; simp at h; done) | subst h)
      all_goals
        refine J.skip ?_
    case' hf =>
      intro h
      try (first | (exfalso; omega) | (cases h; done) | (exfalso; simp at h; done) | subst h)
      all_goals
        refine J.exit ?_
        refine JE.then_exit ?_
        refine JE.then_exit ?_
        refine JE.block_exit ?_
        refine JE.then_normal ?_
        obtain rfl : i = r.names.length := by omega
        rw [List.take_length]
        exact J.closeK hk8 (a, k) trivial ⟨rfl, rfl, rfl, rfl, trivial⟩ (fun w h => h)
    all_goals refine JE.then_normal ?_
    all_goals
      refine J.seq ?_
      refine J.block ?_
      refine J.seq ?_
      have hlt : i < r.names.length := by omega
      obtain ⟨x, hx⟩ : ∃ x, r.names[i]? = some x := ⟨r.names[i]'(by omega), List.getElem?_eq_getElem _⟩
      obtain ⟨g1, o1, rfl, hrd1⟩ := h1.addr (by omega)
      have hxB := hnB x (List.mem_of_getElem? hx)
      have hc9 := cutL_length (r.names.take i)
      refine J.region ?_
      refine JL.step (y_move rfl) rfl rfl rfl ?_
      refine JL.step (y_indexAddr_slice hT rfl rfl rfl rfl rfl (by (first | omega | exact Nat.le_of_ble_eq_true rfl | decide | (simp; omega))) (by (first | omega | exact Nat.le_of_ble_eq_true rfl | decide | (simp; omega)))) rfl rfl rfl ?_
      refine JL.step (y_load1 hT rfl rfl rfl (Rd1.elem (i := i) (v := .string (strOf x)) (((((hrd1 []).cons _).cons _).cons _).cons _) (strs_at hx))) rfl rfl rfl ?_
      refine JL.step (y_assign rfl) rfl rfl rfl (JL.step (y_assign rfl) rfl rfl rfl ?_)
      refine JL.nil ?_
      refine JE.then_normal ?_
      refine J.seq ?_
      refine J.region ?_
      refine JL.step (y_move rfl) rfl rfl rfl (JL.step (y_lss rfl rfl) rfl rfl rfl ?_)
      refine JL.nil ?_
      refine JE.then_normal ?_
      first | apply J.cond_dec rfl | apply J.cond rfl
      case' ht =>
        intro h
        try (first | (exfalso; omega) | (cases h; done) | (exfalso; simp at h; done) | subst h)
        all_goals
          refine J.region ?_
          refine JL.step (y_move rfl) rfl rfl rfl (JL.step (y_move rfl) rfl rfl rfl ?_)
          refine JL.loud rfl (l_callF e12 rfl rfl (lawcut_spec E x _ hxB) ?_)
          rintro _ _ ⟨rfl, rfl⟩
          refine JL.loud rfl (l_buildSliceP (cs := [.string (strOf (x.take 700))]) hT rfl rfl rfl rfl rfl rfl rfl (fill_one rfl rfl) rfl (fun bs => ?_))
          refine JL.loud rfl (l_append hT rfl rfl rfl rfl rfl rfl rfl rfl (by (repeat (first | exact Pick.head | apply Pick.tail | apply Pick.app))) (by (first | exact RdN.rowAll (by (repeat (first | exact Pick.head | apply Pick.tail | apply Pick.app))) | exact RdN.own (by (repeat (first | exact Pick.head | apply Pick.tail | apply Pick.app))))) (by (first | rfl | assumption | (simp; done) | omega)) (by (first | assumption | exact ones_of rfl | exact encW_one _ | exact encB_one _ | (intro u hu; simp at hu; rcases hu with rfl | rfl <;> rfl) | (intro u hu; simp at hu; subst hu; rfl) | simp)) (by rw [show i9.bytes = 16 from rfl]; omega) (by omega) rfl (fun a7 k7 hk7 => ?_))
          refine JL.step (y_assign rfl) rfl rfl rfl ?_
          refine JL.nil ?_
      case' hf =>
        intro h
        try (first | (exfalso; omega) | (cases h; done) | (exfalso; simp at h; done) | subst h)
        all_goals
          refine J.skip ?_
      all_goals refine JE.block_normal ?_
      all_goals refine JE.then_normal ?_
      all_goals
        refine J.region ?_
        refine JL.step (y_add rfl rfl (by (first | exact wrap_i64 (by omega) (by omega) | rfl))) rfl rfl rfl ?_
        refine JL.step (y_move rfl) rfl rfl rfl ?_
        refine JL.nil ?_
    all_goals
      first
      | (have hi9 : i < 9 := by omega
         have hst := cutL_in hx hi9
         exact JE.round (s := (i, a, k)) (i + 1, a7, k7) (by dsimp only; omega) ⟨rfl, rfl, by dsimp only; rw [hst, List.length_append]; rfl, rfl, rfl, rfl, rfl, trivial⟩ (fun w h => by
           dsimp only
           rw [hst]
           unfold ownS
           rw [strs_app, List.length_append]
           exact h.sup (by (repeat (first | exact Sup.refl | apply Sup.cons (by (repeat (first | exact Pick.head | apply Pick.tail | apply Pick.app))) | apply Sup.app | apply Sup.skip | apply Sup.skips)))) (by dsimp only; omega))
      | (have hst := cutL_out (ns := r.names) (i := i) (by omega)
         exact JE.round (s := (i, a, k)) (i + 1, a, k) (by dsimp only; omega) ⟨rfl, rfl, by dsimp only; rw [hst]; rfl, rfl, rfl, rfl, rfl, trivial⟩ (fun w h => by
           dsimp only
           rw [hst]
           exact h.sup (by (repeat (first | exact Sup.refl | apply Sup.cons (by (repeat (first | exact Pick.head | apply Pick.tail | apply Pick.app))) | apply Sup.app | apply Sup.skip | apply Sup.skips)))) (by dsimp only; omega))
  rintro ⟨a9, k9⟩ _
  try dsimp only
  refine J.seqK (α := Option Addr × Nat) (fun _ => True) (fun s => [(1, .pointer (some ⟨b0, 0, none⟩)), (2, .pointer (some ⟨b1, 0, none⟩)), (3, .slice a9 (cutL r.names).length k9), (4, .slice s.1 (cutL r.texts).length s.2)]) (fun s => ownS a9 k9 (cutL r.names) :: ownS s.1 s.2 (cutL r.texts) :: row b0 36 cs :: row b1 36 (rpE rp0 (.slice none 0 0) (.slice none 0 0)) :: l) ?hj14 (fun hk14 => ?hf14)
  case hf14 =>
    refine J.seq ?_
    refine J.region ?_
    refine JL.step (y_fieldAddr hT rfl rfl rfl rfl rfl rfl) rfl rfl rfl ?_
    refine JL.step (y_load1 hT rfl rfl rfl (Rd1.row (by (repeat (first | exact Pick.head | apply Pick.tail | apply Pick.app))) (hat 1))) rfl rfl rfl ?_
    refine JL.step (y_len_slice hT rfl rfl rfl) rfl rfl rfl (JL.step (y_move rfl) rfl rfl rfl ?_)
    refine JL.nil ?_
    refine JE.then_normal ?_
    refine J.block ?_
    refine J.loop (α := Nat × Option Addr × Nat) (fun s => s.1 ≤ r.texts.length) (fun s => [(1, .pointer (some ⟨b0, 0, none⟩)), (2, .pointer (some ⟨b1, 0, none⟩)), (3, .slice a9 (cutL r.names).length k9), (4, .slice s.2.1 (cutL (r.texts.take s.1)).length s.2.2), (26, .slice p2 r.texts.length c2), (27, .int .i64 r.texts.length), (28, .int .i64 s.1)]) (fun s => ownS a9 k9 (cutL r.names) :: ownS s.2.1 s.2.2 (cutL (r.texts.take s.1)) :: row b0 36 cs :: row b1 36 (rpE rp0 (.slice none 0 0) (.slice none 0 0)) :: l) (fun s => r.texts.length - s.1) (0, none, 0) (Nat.zero_le _) ⟨rfl, rfl, rfl, rfl, rfl, rfl, rfl, trivial⟩ (fun w h => h) ?_
    rintro ⟨i, a, k⟩ hi
    dsimp only at hi ⊢
    refine J.seq ?_
    refine J.region ?_
    refine JL.step (y_lss rfl rfl) rfl rfl rfl ?_
    refine JL.nil ?_
    refine JE.then_normal ?_
    refine J.seq ?_
    first | apply J.cond_dec rfl | apply J.cond rfl
    case' ht =>
      intro h
      try (first | (exfalso; omega) | (cases h; done) | (exfalso; simp at h; done) | subst h)
      all_goals
        refine J.skip ?_
    case' hf =>
      intro h
      try (first | (exfalso; omega) | (cases h; done) | (exfalso; simp at h; done) | subst h)
      all_goals
        refine J.exit ?_
        refine JE.then_exit ?_
        refine JE.then_exit ?_
        refine JE.block_exit ?_
        refine JE.then_normal ?_
        obtain rfl : i = r.texts.length := by omega
        rw [List.take_length]
        exact J.closeK hk14 (a, k) trivial ⟨rfl, rfl, rfl, rfl, trivial⟩ (fun w h => h)
    all_goals refine JE.then_normal ?_
    all_goals
      refine J.seq ?_
      refine J.block ?_
      refine J.seq ?_
      have hlt : i < r.texts.length := by omega
      obtain ⟨x, hx⟩ : ∃ x, r.texts[i]? = some x := ⟨r.texts[i]'(by omega), List.getElem?_eq_getElem _⟩
      obtain ⟨g1, o1, rfl, hrd1⟩ := h2.addr (by omega)
      have hxB := htB x (List.mem_of_getElem? hx)
      have hc9 := cutL_length (r.texts.take i)
      refine J.region ?_
      refine JL.step (y_move rfl) rfl rfl rfl ?_
      refine JL.step (y_indexAddr_slice hT rfl rfl rfl rfl rfl (by (first | omega | exact Nat.le_of_ble_eq_true rfl | decide | (simp; omega))) (by (first | omega | exact Nat.le_of_ble_eq_true rfl | decide | (simp; omega)))) rfl rfl rfl ?_
      refine JL.step (y_load1 hT rfl rfl rfl (Rd1.elem (i := i) (v := .string (strOf x)) (((((hrd1 []).cons _).cons _).cons _).cons _) (strs_at hx))) rfl rfl rfl ?_
      refine JL.step (y_assign rfl) rfl rfl rfl (JL.step (y_assign rfl) rfl rfl rfl ?_)
      refine JL.nil ?_
      refine JE.then_normal ?_
      refine J.seq ?_
      refine J.region ?_
      refine JL.step (y_move rfl) rfl rfl rfl (JL.step (y_lss rfl rfl) rfl rfl rfl ?_)
      refine JL.nil ?_
      refine JE.then_normal ?_
      first | apply J.cond_dec rfl | apply J.cond rfl
      case' ht =>
        intro h
        try (first | (exfalso; omega) | (cases h; done) | (exfalso; simp at h; done) | subst h)
        all_goals
          refine J.region ?_
          refine JL.step (y_move rfl) rfl rfl rfl (JL.step (y_move rfl) rfl rfl rfl ?_)
          refine JL.loud rfl (l_callF e12 rfl rfl (lawcut_spec E x _ hxB) ?_)
          rintro _ _ ⟨rfl, rfl⟩
          refine JL.loud rfl (l_buildSliceP (cs := [.string (strOf (x.take 700))]) hT rfl rfl rfl rfl rfl rfl rfl (fill_one rfl rfl) rfl (fun bs => ?_))
          refine JL.loud rfl (l_append hT rfl rfl rfl rfl rfl rfl rfl rfl (Pick.tail (Pick.tail Pick.head)) (by (first | exact RdN.rowAll (by (repeat (first | exact Pick.head | apply Pick.tail | apply Pick.app))) | exact RdN.own (by (repeat (first | exact Pick.head | apply Pick.tail | apply Pick.app))))) (by (first | rfl | assumption | (simp; done) | omega)) (by (first | assumption | exact ones_of rfl | exact encW_one _ | exact encB_one _ | (intro u hu; simp at hu; rcases hu with rfl | rfl <;> rfl) | (intro u hu; simp at hu; subst hu; rfl) | simp)) (by rw [show i9.bytes = 16 from rfl]; omega) (by omega) rfl (fun a7 k7 hk7 => ?_))
          refine JL.step (y_assign rfl) rfl rfl rfl ?_
          refine JL.nil ?_
      case' hf =>
        intro h
        try (first | (exfalso; omega) | (cases h; done) | (exfalso; simp at h; done) | subst h)
        all_goals
          refine J.skip ?_
      all_goals refine JE.block_normal ?_
      all_goals refine JE.then_normal ?_
      all_goals
        refine J.region ?_
        refine JL.step (y_add rfl rfl (by (first | exact wrap_i64 (by omega) (by omega) | rfl))) rfl rfl rfl ?_
        refine JL.step (y_move rfl) rfl rfl rfl ?_
        refine JL.nil ?_
    all_goals
      first
      | (have hi9 : i < 9 := by omega
         have hst := cutL_in hx hi9
         exact JE.round (s := (i, a, k)) (i + 1, a7, k7) (by dsimp only; omega) ⟨rfl, rfl, rfl, by dsimp only; rw [hst, List.length_append]; rfl, rfl, rfl, rfl, trivial⟩ (fun w h => by
           dsimp only
           rw [hst]
           unfold ownS
           rw [strs_app, List.length_append]
           exact h.sup (by (repeat (first | exact Sup.refl | apply Sup.cons (by (repeat (first | exact Pick.head | apply Pick.tail | apply Pick.app))) | apply Sup.app | apply Sup.skip | apply Sup.skips)))) (by dsimp only; omega))
      | (have hst := cutL_out (ns := r.texts) (i := i) (by omega)
         exact JE.round (s := (i, a, k)) (i + 1, a, k) (by dsimp only; omega) ⟨rfl, rfl, rfl, by dsimp only; rw [hst]; rfl, rfl, rfl, rfl, trivial⟩ (fun w h => by
           dsimp only
           rw [hst]
           exact h.sup (by (repeat (first | exact Sup.refl | apply Sup.cons (by (repeat (first | exact Pick.head | apply Pick.tail | apply Pick.app))) | apply Sup.app | apply Sup.skip | apply Sup.skips)))) (by dsimp only; omega))
  rintro ⟨a10, k10⟩ _
  try dsimp only
  obtain ⟨ns, hns⟩ : ∃ ns, cutL r.names = ns := ⟨_, rfl⟩
  obtain ⟨ts, hts⟩ : ∃ ts, cutL r.texts = ts := ⟨_, rfl⟩
  have hn9 := cutL_length r.names
  have ht9 := cutL_length r.texts
  rw [hns, hts]
  rw [hns] at hn9
  rw [hts] at ht9
  refine J.seq ?_
  refine J.draw _ _ [(0, .q), (3, .q), (4, .q), (6, .q), (9, .q), (10, .q), (1, .n), (2, .l), (5, .q), (12, .q), (7, .n), (8, .l), (11, .q), (13, .l), (14, .q), (15, .l)] mixed (by kernel_rfl) (Split.cons (Pick.head) (Split.cons (Pick.head) (Split.cons (Pick.head) (Split.nil)))) ?_
  refine JM.quiet rfl rfl rfl rfl (fun m => y_move rfl) ?_
  refine JM.quiet rfl rfl rfl rfl (fun m => y_move rfl) ?_
  refine JM.quiet rfl rfl rfl rfl (fun m => y_len_slice hT rfl rfl rfl) ?_
  refine JM.quiet rfl rfl rfl rfl (fun m => y_move rfl) ?_
  refine JM.quiet rfl rfl rfl rfl (fun m => y_move rfl) ?_
  refine JM.quiet rfl rfl rfl rfl (fun m => y_len_slice hT rfl rfl rfl) ?_
  refine JM.lay rfl rfl rfl rfl (fun a hf => lays_buildSlice hT rfl rfl rfl rfl hf rfl rfl rfl (by (first | exact fill_one rfl (by first | assumption | rfl | (simp; done)) | rfl | simp))) (fun b4 => ?_)
  refine JM.loud rfl rfl (fun fr => l_appendG hT rfl rfl rfl rfl rfl rfl rfl rfl (by (repeat (first | exact Pick.head | apply Pick.tail | apply Pick.app))) (by (first | exact RdN.rowAll (by (repeat (first | exact Pick.head | apply Pick.tail | apply Pick.app))) | exact RdN.own (by (repeat (first | exact Pick.head | apply Pick.tail | apply Pick.app))))) (by (first | rfl | assumption | (simp; done) | omega)) (by (first | assumption | exact ones_of rfl | exact encW_one _ | exact encB_one _ | (intro u hu; simp at hu; rcases hu with rfl | rfl <;> rfl) | (intro u hu; simp at hu; subst hu; rfl) | simp)) (by rw [show i9.bytes = 16 from rfl]; omega) (by omega) rfl (by decide) (fun ga ka hka => ⟨[_, _, _, _], (by (repeat (first | exact Split.nil | exact Split.all | refine Split.cons Pick.head ?_))), ?_⟩))
  refine JM.quiet (v := .slice (some ⟨ga, 0, none⟩) ns.length ka) rfl rfl rfl rfl (fun m => Y.cast (y_slice (cap := ka) (len := ns.length + 1) (b := ga) (off := 0) (lo := 0) (hi := ns.length) hT rfl rfl rfl rfl (.inl ⟨rfl, rfl⟩) (.inr ⟨_, _, _, rfl, rfl, rfl⟩) (Nat.zero_le _) (by omega) (by omega) (.inl rfl)) (by rw [if_neg (by omega)]; rfl)) ?_
  refine JM.quiet rfl rfl rfl rfl (fun m => y_fieldAddr hT rfl rfl rfl rfl rfl rfl) ?_
  refine JM.lay rfl rfl rfl rfl (fun a hf => lays_buildSlice hT rfl rfl rfl rfl hf rfl rfl rfl (by (first | exact fill_one rfl (by first | assumption | rfl | (simp; done)) | rfl | simp))) (fun b5 => ?_)
  refine JM.loud rfl rfl (fun fr => l_appendG hT rfl rfl rfl rfl rfl rfl rfl rfl (by (repeat (first | exact Pick.head | apply Pick.tail | apply Pick.app))) (by (first | exact RdN.rowAll (by (repeat (first | exact Pick.head | apply Pick.tail | apply Pick.app))) | exact RdN.own (by (repeat (first | exact Pick.head | apply Pick.tail | apply Pick.app))))) (by (first | rfl | assumption | (simp; done) | omega)) (by (first | assumption | exact ones_of rfl | exact encW_one _ | exact encB_one _ | (intro u hu; simp at hu; rcases hu with rfl | rfl <;> rfl) | (intro u hu; simp at hu; subst hu; rfl) | simp)) (by rw [show i9.bytes = 16 from rfl]; omega) (by omega) rfl (by decide) (fun gb kb hkb => ⟨[_, _, _, _, _], (by (repeat (first | exact Split.nil | exact Split.all | refine Split.cons Pick.head ?_))), ?_⟩))
  refine JM.quiet (v := .slice (some ⟨gb, 0, none⟩) ts.length kb) rfl rfl rfl rfl (fun m => Y.cast (y_slice (cap := kb) (len := ts.length + 1) (b := gb) (off := 0) (lo := 0) (hi := ts.length) hT rfl rfl rfl rfl (.inl ⟨rfl, rfl⟩) (.inr ⟨_, _, _, rfl, rfl, rfl⟩) (Nat.zero_le _) (by omega) (by omega) (.inl rfl)) (by rw [if_neg (by omega)]; rfl)) ?_
  refine JM.loud rfl rfl (fun fr => l_store1 hT rfl rfl rfl rfl rfl (by (repeat (first | exact Pick.head | apply Pick.tail | apply Pick.app))) (by rw [hcl]; decide) ⟨[_, _, _, _, _], (by (repeat (first | exact Split.nil | exact Split.all | refine Split.cons Pick.head ?_))), ?_⟩)
  refine JM.quiet rfl rfl rfl rfl (fun m => y_fieldAddr hT rfl rfl rfl rfl rfl rfl) ?_
  refine JM.loud rfl rfl (fun fr => l_store1 hT rfl rfl rfl rfl rfl (by (repeat (first | exact Pick.head | apply Pick.tail | apply Pick.app))) (by rw [List.length_set, hcl]; decide) ⟨[_, _, _, _, _], (by (repeat (first | exact Split.nil | exact Split.all | refine Split.cons Pick.head ?_))), ?_⟩)
  refine JM.nil ?_
  refine JE.then_normal ?_
  refine J.seq ?_
  obtain ⟨S, hS⟩ : ∃ S, shortR r = S := ⟨_, rfl⟩
  have hSn : S.names = ns := by rw [← hS, ← hns]; rfl
  have hSt : S.texts = ts := by rw [← hS, ← hts]; rfl
  obtain ⟨cs2, hcs2⟩ : ∃ cs2, rpE S (.slice (some ⟨ga, 0, none⟩) ns.length ka) (.slice (some ⟨gb, 0, none⟩) ts.length kb) = cs2 := ⟨_, rfl⟩
  have hset : (cs.set 33 (.slice (some ⟨ga, 0, none⟩) ns.length ka)).set 34 (.slice (some ⟨gb, 0, none⟩) ts.length kb) = cs2 := by
    rw [← hcs2, ← hcs, rp_set33 hk, rp_set34 hk, ← hS]
    rfl
  have hcl2 : cs2.length = i36.size := by rw [← hcs2, ← hS]; exact rpE_length hk _ _
  have hone2 : ∀ v ∈ cs2, v.oneCell' = true := by rw [← hcs2]; exact rpE_one S rfl rfl
  refine J.pre (l' := row b0 36 cs2 :: row b1 36 (rpE rp0 (.slice none 0 0) (.slice none 0 0)) :: ownS (some ⟨ga, 0, none⟩) ka ns :: ownS (some ⟨gb, 0, none⟩) kb ts :: l) (fun w h => by
    rw [← hset]
    have h9 : Sat E (stars (own 9 1 (.slice (some ⟨ga, 0, none⟩) (ns.length + 1) ka) (ns.length + 1) (strs ns ++ [.string ⟨#[126]⟩]) :: own 9 1 (.slice (some ⟨gb, 0, none⟩) (ts.length + 1) kb) (ts.length + 1) (strs ts ++ [.string ⟨#[126]⟩]) :: row b0 36 ((cs.set 33 (.slice (some ⟨ga, 0, none⟩) ns.length ka)).set 34 (.slice (some ⟨gb, 0, none⟩) ts.length kb)) :: row b1 36 (rpE rp0 (.slice none 0 0) (.slice none 0 0)) :: l)) w := h.sup (by (repeat (first | exact Sup.refl | apply Sup.cons (by (repeat (first | exact Pick.head | apply Pick.tail | apply Pick.app))) | apply Sup.app | apply Sup.skip | apply Sup.skips)))
    have h8 := (h9.own_take (k := ns.length) (by omega)).pick (Pick.tail Pick.head)
    have h7 := h8.own_take (k := ts.length) (by omega)
    rw [List.take_append_of_le_length (by rw [strs_length]; omega), List.take_append_of_le_length (by rw [strs_length]; omega), List.take_of_length_le (by rw [strs_length]; omega), List.take_of_length_le (by rw [strs_length]; omega)] at h7
    exact h7.sup (by (repeat (first | exact Sup.refl | apply Sup.cons (by (repeat (first | exact Pick.head | apply Pick.tail | apply Pick.app))) | apply Sup.app | apply Sup.skip | apply Sup.skips)))) ?_
  refine J.region ?_
  refine JL.step (y_loadN hT rfl rfl rfl (RdN.rowAll (by (repeat (first | exact Pick.head | apply Pick.tail | apply Pick.app)))) hcl2) rfl rfl rfl ?_
  refine JL.loud rfl (l_storeAll hT rfl rfl rfl hcl2 hone2 (Pick.tail Pick.head) (by (first | rfl | assumption | (simp; done) | omega)) ?_)
  refine JL.nil ?_
  refine JE.then_normal ?_
  refine J.ret ?_
  refine JE.ret1 (.inl rfl) rfl rfl (by (first | exact RV.tmp rfl | exact RV.cell1 hT rfl rfl rfl (by (exact Rd1.row (by (repeat (first | exact Pick.head | apply Pick.tail | apply Pick.app))) (by rfl))) | exact RV.cellN hT rfl rfl rfl (by (first | exact RdN.rowAll (by (repeat (first | exact Pick.head | apply Pick.tail | apply Pick.app))) | exact RdN.own (by (repeat (first | exact Pick.head | apply Pick.tail | apply Pick.app))))) (by (first | rfl | assumption | (simp; done) | omega)))) ?_
  rw [← hcs2, hS, hSn, hSt]
  exact ⟨_, fun w h => h.sup (by (repeat (first | exact Sup.refl | apply Sup.cons (by (repeat (first | exact Pick.head | apply Pick.tail | apply Pick.app))) | apply Sup.app | apply Sup.skip | apply Sup.skips))), _, _, _, _, rfl, rfl⟩
end
end
section
open Go Go.SL
section
theorem name_bys {w : List Int} (h : nameB w = true) : Bys w := by
  unfold nameB at h
  rw [Bool.and_eq_true, Bool.and_eq_true] at h
  intro x hx
  have h1 := List.all_eq_true.1 h.1.1 x hx
  unfold nmB at h1
  simp only [Bool.or_eq_true, Bool.and_eq_true, decide_eq_true_eq] at h1
  omega
theorem text_bys {t : List Int} (h : textB t = true) : Bys t := by
  have h1 := (text_any h).1
  intro x hx
  have h2 : oddB x = false := by
    rw [Bool.eq_false_iff]
    intro q
    rw [List.any_eq_true.2 ⟨x, hx, q⟩] at h1
    cases h1
  unfold oddB at h2
  simp only [Bool.or_eq_false_iff, decide_eq_false_iff_not] at h2
  omega
theorem R64i.zero : R64i 0 := ⟨by decide, by decide⟩
theorem okN_natQ {z : Int} (h : okN z = true) : 0 ≤ z ∧ z ≤ 999999999 ∧ True := by
  unfold okN at h
  rw [Bool.and_eq_true] at h
  exact ⟨of_decide_eq_true h.1, of_decide_eq_true h.2, trivial⟩
theorem R64i.ofOk {z : Int} (h : okN z = true) : R64i z := by
  obtain ⟨h1, h2, _⟩ := okN_natQ h
  exact ⟨by omega, by omega⟩
/-- What may be is small. -/
theorem right_b {r : RpT} (hk : r.key.length = 32) (hB : Bys r.key) (h : rightB r = true) : RpB r := by
  have hnil : ∀ t ∈ ([] : List (List Int)), Bys t ∧ t.length ≤ 1000 := fun _ q => by cases q
  have base : r.names.length ≤ 100 ∧ r.texts.length ≤ 100 ∧ (∀ t ∈ r.names, Bys t ∧ t.length ≤ 1000) ∧ (∀ t ∈ r.texts, Bys t ∧ t.length ≤ 1000) ∧ R64i r.seq ∧ R64i r.out ∧ R64i r.acked ∧ R64i r.inn := by
    rcases right_kind h with k | k | k | k | k | k | k | k
    · rw [right_1 k h]; exact ⟨by simp, by simp, hnil, hnil, R64i.zero, R64i.zero, R64i.zero, R64i.zero⟩
    · rw [right_26 (.inl k) h]; exact ⟨by simp, by simp, hnil, hnil, R64i.zero, R64i.zero, R64i.zero, R64i.zero⟩
    · obtain ⟨e, h1, _, h3⟩ := right_3 k h
      have hn : ∀ t ∈ r.names, Bys t ∧ t.length ≤ 1000 := fun t ht => ⟨name_bys (List.all_eq_true.1 h1 t ht), by have := name_len (List.all_eq_true.1 h1 t ht); omega⟩
      rw [e]; exact ⟨by dsimp only; omega, by simp, hn, hnil, R64i.zero, R64i.zero, R64i.zero, R64i.zero⟩
    · obtain ⟨e, h1⟩ := right_4 k h
      have := R64i.ofOk h1
      rw [e]; exact ⟨by simp, by simp, hnil, hnil, this, R64i.zero, R64i.zero, R64i.zero⟩
    · obtain ⟨e, h1, h2⟩ := right_5 k h
      have hn : ∀ t ∈ r.texts, Bys t ∧ t.length ≤ 1000 := fun t ht => ⟨text_bys (List.all_eq_true.1 h1 t ht), by have := (text_any (List.all_eq_true.1 h1 t ht)).2; omega⟩
      rw [e]; exact ⟨by simp, by dsimp only; omega, hnil, hn, R64i.zero, R64i.zero, R64i.zero, R64i.zero⟩
    · rw [right_26 (.inr k) h]; exact ⟨by simp, by simp, hnil, hnil, R64i.zero, R64i.zero, R64i.zero, R64i.zero⟩
    · obtain ⟨e, h1, h2, h3⟩ := right_7 k h
      have a1 := R64i.ofOk h1
      have a2 := R64i.ofOk h2
      have a3 := R64i.ofOk h3
      rw [e]; exact ⟨by simp, by simp, hnil, hnil, R64i.zero, a1, a2, a3⟩
    · obtain ⟨e, _⟩ := right_8 k h
      rw [e]; exact ⟨by simp, by simp, hnil, hnil, R64i.zero, R64i.zero, R64i.zero, R64i.zero⟩
  obtain ⟨h1, h2, h3, h4, h5, h6, h7, h8⟩ := base
  exact ⟨hk, hB, h1, h2, h3, h4, h5, h6, h7, h8⟩
theorem replyF_key {w rest : List Int} {m : Bool} {r : RpT} (h : replyF w rest m = some r) : r.key = zer32 ∨ ∃ q, keyB q = true ∧ r.key = keyV q := by
  unfold replyF at h
  split at h
  · cases h; exact .inl rfl
  · split at h
    · cases h; exact .inl rfl
    · split at h
      · split at h
        · rename_i q; cases h; exact .inr ⟨_, q, rfl⟩
        · cases h
      · split at h
        · cases hc : conF rest with
          | none => rw [hc] at h; cases h
          | some ns => rw [hc] at h; cases h; exact .inl rfl
        · split at h
          · split at h
            · cases h; exact .inl rfl
            · cases h
          · split at h
            · cases hc : inboxF rest with
              | none => rw [hc] at h; cases h
              | some ns => rw [hc] at h; cases h; exact .inl rfl
            · split at h
              · split at h
                · split at h
                  · cases h; exact .inl rfl
                  · cases h
                · cases h
              · split at h
                · split at h
                  · cases h; exact .inl rfl
                  · cases h
                · cases h
theorem repF_key {xs : List Int} {r : RpT} (h : repF xs = some r) : r.key.length = 32 ∧ Bys r.key := by
  unfold repF at h
  split at h
  · cases h
  · rcases replyF_key h with e | ⟨q, h1, e⟩
    · rw [e]; exact ⟨rfl, zer32_bys⟩
    · rw [e]; exact ⟨kst_length _ _, keyV_bys h1⟩
theorem repR_b (xs : List Int) : RpB (repR xs) := by
  unfold repR
  cases h : repF xs with
  | none => exact ⟨rfl, zer32_bys, by simp [rp0], by simp [rp0], fun _ q => by simp [rp0] at q, fun _ q => by simp [rp0] at q, R64i.zero, R64i.zero, R64i.zero, R64i.zero⟩
  | some r =>
    obtain ⟨h1, h2⟩ := repF_key h
    exact right_b h1 h2 (repF_line h).1
theorem shortR_b {r : RpT} (hk : r.key.length = 32) (hkb : Bys r.key) (hn : ∀ t ∈ r.names, Bys t) (ht : ∀ t ∈ r.texts, Bys t) (h1 : R64i r.seq) (h2 : R64i r.out) (h3 : R64i r.acked) (h4 : R64i r.inn) : RpB (shortR r) :=
  ⟨hk, hkb, by have := cutL_length r.names; unfold shortR; dsimp only; omega, by have := cutL_length r.texts; unfold shortR; dsimp only; omega,
    fun t q => by have := cutL_mem hn t q; exact ⟨this.1, by omega⟩, fun t q => by have := cutL_mem ht t q; exact ⟨this.1, by omega⟩, h1, h2, h3, h4⟩
end
end
section
open Go Go.SL
section
end
section
attribute [local irreducible] J JL JE JM LS Y Fc RV Code.wp wpList Code.wpIn wpListIn
attribute [local irreducible] Yc strOf valD dig
variable (E : World)
end
end
section
open Go Go.SL
section
end
end
section
open Go Go.SL
section
end
section
attribute [local irreducible] J JL JE JM LS Y Fc RV Code.wp wpList Code.wpIn wpListIn
attribute [local irreducible] Yc strOf valD dig
variable (E : World)
end
end
section
open Go Go.SL
section
end
section
attribute [local irreducible] J JL JE JM LS Y Fc RV Code.wp wpList Code.wpIn wpListIn
attribute [local irreducible] Yc strOf valD dig
variable (E : World)
end
end
section
open Go Go.SL
section
end
section
attribute [local irreducible] J JL JE JM LS Y Fc RV Code.wp wpList Code.wpIn wpListIn
attribute [local irreducible] Yc strOf valD dig
variable (E : World)
end
end
section
open Go Go.SL
section
end
section
attribute [local irreducible] J JL JE JM LS Y Fc RV Code.wp wpList Code.wpIn wpListIn
attribute [local irreducible] Yc strOf valD dig
variable (E : World)
end
end
section
open Go Go.SL
section
end
section
attribute [local irreducible] J JL JE JM LS Y Fc RV Code.wp wpList Code.wpIn wpListIn
attribute [local irreducible] Yc strOf valD dig
variable (E : World)
end
end
section
open Go Go.SL
section
end
section
attribute [local irreducible] J JL JE JM LS Y Fc RV Code.wp wpList Code.wpIn wpListIn
attribute [local irreducible] Yc strOf valD dig
variable (E : World)
end
end
section
open Go Go.SL
section
end
section
attribute [local irreducible] J JL JE JM LS Y Fc RV Code.wp wpList Code.wpIn wpListIn
attribute [local irreducible] Yc strOf valD dig
variable (E : World)
end
end
section
open Go Go.SL
section
/-- A reply that comes from outside. -/
structure RpX (r : RpT) : Prop where
  key : r.key.length = 32
  kb : Bys r.key
  nb : ∀ t ∈ r.names, Bys t
  tb : ∀ t ∈ r.texts, Bys t
  seq : R64i r.seq
  out : R64i r.out
  acked : R64i r.acked
  inn : R64i r.inn
theorem RpX.short {r : RpT} (h : RpX r) : RpB (shortR r) := shortR_b h.key h.kb h.nb h.tb h.seq h.out h.acked h.inn
end
section
attribute [local irreducible] J JL JE JM LS Y Fc RV Code.wp wpList Code.wpIn wpListIn
attribute [local irreducible] Yc strOf valD dig
variable (E : World)
end
end
section
open Go Go.SL
section
theorem rep_there {xs : List Int} (h : (repS xs).1 = 0) : rightB (repR xs) = true ∧ lineR (repR xs) = xs := by
  have h1 := (repS_iff xs).1 h
  cases hf : repF xs with
  | none => rw [hf] at h1; cases h1
  | some r =>
    have e : repR xs = r := by unfold repR; rw [hf]; rfl
    rw [e]
    have := repF_line hf
    exact ⟨this.1, this.2.1⟩
theorem rep_back {r : RpT} (hk : r.key.length = 32) (hB : Bys r.key) (h : rightB r = true) : repR (lineR r) = r ∧ repS (lineR r) = (0, 0) ∧ (lineR r).length ≤ 640 := by
  have h1 := repF_right hk hB h
  have h2 := (repF_line h1).2.2
  refine ⟨by unfold repR; rw [h1]; rfl, ?_, h2⟩
  unfold repS
  rw [if_neg (by omega), h1]
  rfl
end
section
attribute [local irreducible] J JL JE JM LS Y Fc RV Code.wp wpList Code.wpIn wpListIn
attribute [local irreducible] Yc strOf valD dig
variable (E : World)
theorem line_there (s : ByteArray) (r0 : RpT) (p1 : Option Addr) (c1 : Nat) (p2 : Option Addr) (c2 : Nat) (l : List HProp) (hX : RpX r0) (h1 : InL l p1 r0.names.length c1 (strs r0.names)) (h2 : InL l p2 r0.texts.length c2 (strs r0.texts)) (hK : K24 E l) :
    Fc prog E 6 [.string s, .agg (rpE r0 (.slice p1 r0.names.length c1) (.slice p2 r0.texts.length c2)).toArray].toArray l (fun v l' => v = .bool true ∧ l' = l) := by
  refine Fc.eqs ?_
  have e0 : strOf [] = ⟨#[]⟩ := by unfold strOf; rfl
  obtain ⟨xs0, rfl, hB0, _⟩ := strOf_of s
  have hB := hB0.take 700
  have hL : (xs0.take 700).length ≤ 700 := by rw [List.length_take]; omega
  have hr := hX.short
  obtain ⟨r, hrr⟩ : ∃ r, shortR r0 = r := ⟨_, rfl⟩
  rw [hrr] at hr
  have hq := repR_b (lineR r)
  have hch := chkB_right hr.key hr.kb
  have hpf := printF_right hr.key hr.kb
  obtain ⟨b, hb⟩ : ∃ b, rightB r = b := ⟨_, rfl⟩
  rw [hb] at hch hpf
  have hlB : Bys (lineR r) := joinW_bys fun w hw => ((printW_each hr).2 w hw).2
  obtain ⟨cs0, hcs0⟩ : ∃ cs, rpE r0 (.slice p1 r0.names.length c1) (.slice p2 r0.texts.length c2) = cs := ⟨_, rfl⟩
  have hcl0 : cs0.length = i36.size := by rw [← hcs0]; exact rpE_length hX.key _ _
  rw [hcs0]
  refine Fc.of_body (c := ?codeC) Tryz.func6 ?hb Tryz.ntmps6 ?hl ?_
  case hb => exact rfl
  case hl => exact rfl
  refine J.seq ?_
  refine J.region ?_
  refine JL.loud rfl (l_box (cs := cs0) rfl rfl rfl (fun b0 => ?_))
  refine JL.step (y_assign rfl) rfl rfl rfl ?_
  refine JL.nil ?_
  refine JE.then_normal ?_
  refine J.seq ?_
  refine J.seq ?_
  refine J.region ?_
  refine JL.loud rfl (l_callF e11 rfl rfl (wakes_spec E _ (hK.cons _)) ?_)
  rintro _ _ ⟨rfl, rfl⟩
  refine JL.step (y_not rfl) rfl rfl rfl ?_
  refine JL.nil ?_
  refine JE.then_normal ?_
  refine J.cond_f rfl (by (first | rfl | assumption | (simp; done) | (simp; omega))) ?_
  refine J.skip ?_
  refine JE.then_normal ?_
  refine J.seq ?_
  refine J.draw _ _ [(0, .q), (1, .q), (2, .e), (3, .l), (4, .q), (5, .l)] mixed (by kernel_rfl) (Split.cons (Pick.head) (Split.nil)) ?_
  refine JM.quiet rfl rfl rfl rfl (fun m => y_move rfl) ?_
  refine JM.quiet rfl rfl rfl rfl (fun m => y_callF e12 rfl (lawcut_spec E xs0 _ hB0)) ?_
  refine JM.early rfl rfl rfl rfl (fun fr => y_loadN hT rfl rfl rfl (RdN.rowAll (by (repeat (first | exact Pick.head | apply Pick.tail | apply Pick.app)))) hcl0) ?_
  refine JM.loud rfl rfl (fun fr => l_callF e15 rfl rfl (hcs0 ▸ short_spec E r0 p1 c1 p2 c2 _ hX.key hX.nb hX.tb ((h1.app fr).cons _) ((h2.app fr).cons _)) ?_)
  rintro _ l7 ⟨a1, k1, a2, k2, rfl, rfl⟩
  refine ⟨[_, _, _], (by (repeat (first | exact Split.nil | exact Split.all | refine Split.cons Pick.head ?_))), ?_⟩
  refine JM.quiet rfl rfl rfl rfl (fun m => y_assign rfl) ?_
  rw [hrr]
  obtain ⟨cs, hcs⟩ : ∃ cs, rpE r (.slice a1 r.names.length k1) (.slice a2 r.texts.length k2) = cs := ⟨_, rfl⟩
  have hcl : cs.length = i36.size := by rw [← hcs]; exact rpE_length hr.key _ _
  have hone : ∀ v ∈ cs, v.oneCell' = true := by rw [← hcs]; exact rpE_one r rfl rfl
  rw [hcs]
  refine JM.loud rfl rfl (fun fr => l_storeAll hT rfl rfl rfl hcl hone (by (repeat (first | exact Pick.head | apply Pick.tail | apply Pick.app))) (by (first | rfl | assumption | (simp; done) | omega)) ⟨[_, _, _], (by (repeat (first | exact Split.nil | exact Split.all | refine Split.cons Pick.head ?_))), ?_⟩)
  refine JM.nil ?_
  refine JE.then_normal ?_
  refine J.seqK (α := Unit) (fun _ => True) (fun _ => [(3, .pointer (some ⟨b0, 0, none⟩))]) (fun _ => ownS a1 k1 r.names :: ownS a2 k2 r.texts :: row b0 36 cs :: l) ?hj9 (fun hk9 => ?hf9)
  case hf9 =>
    refine J.seq ?_
    refine J.pre (l' := ownS a1 k1 r.names :: ownS a2 k2 r.texts :: row b0 36 cs :: l) (fun w h => h.sup (by (repeat (first | exact Sup.refl | apply Sup.cons (by (repeat (first | exact Pick.head | apply Pick.tail | apply Pick.app))) | apply Sup.app | apply Sup.skip | apply Sup.skips)))) ?_
    refine J.fact (fun w s => Sat.own_at s) fun oo1 => ?_
    refine J.fact (fun w s => Sat.own_at (s.pick (Pick.tail Pick.head))) fun oo2 => ?_
    have hi1 : InL (ownS a1 k1 r.names :: ownS a2 k2 r.texts :: row b0 36 cs :: l) a1 r.names.length k1 (strs r.names) := oo1.inl Pick.head
    have hi2 : InL (ownS a1 k1 r.names :: ownS a2 k2 r.texts :: row b0 36 cs :: l) a2 r.texts.length k2 (strs r.texts) := oo2.inl (Pick.tail Pick.head)
    have hK4 : K24 E (ownS a1 k1 r.names :: ownS a2 k2 r.texts :: row b0 36 cs :: l) := (((hK.cons _).cons _).cons _)
    obtain ⟨L4, hL4⟩ : ∃ L, ownS a1 k1 r.names :: ownS a2 k2 r.texts :: row b0 36 cs :: l = L := ⟨_, rfl⟩
    obtain ⟨q4, hpk⟩ : ∃ q, Pick L4 (row b0 36 cs) q := ⟨_, hL4 ▸ Pick.tail (Pick.tail Pick.head)⟩
    have hend : ∀ w, Sat E (stars L4) w → Sat E (stars l) w := fun w h => by rw [← hL4] at h; exact h.sup (by (repeat (first | exact Sup.refl | apply Sup.cons (by (repeat (first | exact Pick.head | apply Pick.tail | apply Pick.app))) | apply Sup.app | apply Sup.skip | apply Sup.skips)))
    rw [hL4] at hi1 hi2 hK4 ⊢
    obtain ⟨xs, hxs⟩ : ∃ xs, xs0.take 700 = xs := ⟨_, rfl⟩
    rw [hxs] at hB hL ⊢
    have hQb := repR_b xs
    obtain ⟨Q, hQ⟩ : ∃ Q, repR xs = Q := ⟨_, rfl⟩
    rw [hQ] at hQb
    refine J.region ?_
    refine JL.step (y_move rfl) rfl rfl rfl ?_
    refine JL.loud rfl (l_callF e29 rfl rfl (hQ ▸ lreply_spec E xs _ hB (by omega) hK4) ?_)
    rintro _ l9 ⟨cq, KQ, ⟨qp1, qc1, qp2, qc2, hqo, hq1, hq2, hcq⟩, rfl, e9⟩
    refine JL.step (y_move rfl) rfl rfl rfl ?_
    obtain rfl := e9
    have hcql : cq.length = i36.size := by rw [hcq]; exact rpE_length hQb.key _ _
    have hcqo : ∀ v ∈ cq, v.oneCell' = true := by rw [hcq]; exact rpE_one Q rfl rfl
    refine JL.step (y_extract rfl rfl) rfl rfl rfl (JL.step (y_extract rfl rfl) rfl rfl rfl ?_)
    refine JL.loud rfl (l_alloc hT rfl rfl (by (first | rfl | simp)) rfl (fun b5 => ?_))
    refine JL.loud rfl (l_alloc hT rfl rfl (by (first | rfl | simp)) rfl (fun b6 => ?_))
    refine JL.loud rfl (l_storeAll hT rfl rfl rfl hcql hcqo (by (repeat (first | exact Pick.head | apply Pick.tail | apply Pick.app))) (by (first | rfl | assumption | (simp; done) | omega)) ?_)
    refine JL.loud rfl (l_storeAll hT rfl rfl rfl (by (first | rfl | assumption | (simp; done) | omega)) (by (first | assumption | exact ones_of rfl | exact encW_one _ | exact encB_one _ | (intro u hu; simp at hu; rcases hu with rfl | rfl <;> rfl) | (intro u hu; simp at hu; subst hu; rfl) | simp)) (by (repeat (first | exact Pick.head | apply Pick.tail | apply Pick.app))) (by (first | rfl | assumption | (simp; done) | omega)) ?_)
    refine JL.nil ?_
    refine JE.then_normal ?_
    refine J.seq ?_
    refine J.region ?_
    refine JL.step (y_fieldAddr hT rfl rfl rfl rfl rfl rfl) rfl rfl rfl ?_
    obtain ⟨ee, hee⟩ : ∃ e, (repS xs).1 = e := ⟨_, rfl⟩
    rw [hee]
    refine JL.step (y_load1 hT rfl rfl rfl (by (exact Rd1.row (by (repeat (first | exact Pick.head | apply Pick.tail | apply Pick.app))) (by rfl)))) rfl rfl rfl ?_
    refine JL.step (y_eql rfl rfl) rfl rfl rfl ?_
    refine JL.nil ?_
    refine JE.then_normal ?_
    focus
      first | apply J.cond_dec rfl | apply J.cond rfl
      focus
        intro h
        try (first | (exfalso; omega) | (cases h; done) | (exfalso; simp at h; done) | subst h)
        all_goals
          refine J.seq ?_
          obtain ⟨hqr, hql⟩ := rep_there hee
          rw [hQ] at hqr hql
          have hpq : printF Q = (xs, 0) := by rw [printF_right hQb.key hQb.kb, hqr, if_pos rfl, hql]
          refine J.region ?_
          refine JL.step (y_loadN hT rfl rfl rfl (RdN.rowAll (by (repeat (first | exact Pick.head | apply Pick.tail | apply Pick.app)))) hcql) rfl rfl rfl ?_
          refine JL.loud rfl (l_callF e16 rfl rfl (hpq ▸ hcq ▸ printP_spec E Q qp1 qc1 qp2 qc2 _ hQb (repR_b _) (hq1.inl.kept (by (repeat (first | exact Pick.head | apply Pick.tail | apply Pick.app)))) (hq2.inl.kept (by (repeat (first | exact Pick.head | apply Pick.tail | apply Pick.app)))) (((hK4.cons _).cons _).cons _)) ?_)
          rintro _ _ ⟨rfl, rfl⟩
          refine JL.step (y_move rfl) rfl rfl rfl (JL.step (y_extract rfl rfl) rfl rfl rfl (JL.step (y_extract rfl rfl) rfl rfl rfl (JL.step (y_assign rfl) rfl rfl rfl (JL.step (y_assign rfl) rfl rfl rfl ?_))))
          refine JL.nil ?_
          refine JE.then_normal ?_
          refine J.seq ?_
          refine J.region ?_
          refine JL.step (y_move rfl) rfl rfl rfl (JL.step (y_neq rfl rfl) rfl rfl rfl (JL.step (y_move rfl) rfl rfl rfl ?_))
          all_goals (first | (refine JL.gsplit_dec rfl rfl rfl (fun h => ?_) (fun h => ?_) <;> try (first | (exfalso; omega) | exact absurd rfl h)) | (refine JL.gsplit rfl rfl rfl (fun h => ?_) (fun h => ?_) <;> try (first | cases h | (exfalso; simp at h; done))) | skip)
          all_goals (first | refine JL.gskip rfl rfl rfl rfl rfl rfl ?_ | refine JL.gskipU rfl rfl rfl rfl rfl ?_ | refine JL.gstep rfl rfl rfl (y_move rfl) rfl rfl ?_)
          all_goals (first | refine JL.gskip rfl rfl rfl rfl rfl rfl ?_ | refine JL.gskipU rfl rfl rfl rfl rfl ?_ | refine JL.gstep rfl rfl rfl (y_move rfl) rfl rfl ?_)
          all_goals (first | refine JL.gskip rfl rfl rfl rfl rfl rfl ?_ | refine JL.gskipU rfl rfl rfl rfl rfl ?_ | refine JL.gstep rfl rfl rfl (y_neS (xs := xs) (ys := xs) (b := false) hB hB rfl rfl (by simp)) rfl rfl ?_)
          all_goals (refine JL.step (y_pick rfl rfl rfl) rfl rfl rfl ?_)
          all_goals refine JL.nil ?_
          all_goals refine JE.then_normal ?_
          all_goals
            focus
              first | apply J.cond_dec rfl | apply J.cond rfl
              focus
                intro h
                try (first | (exfalso; omega) | (cases h; done) | (exfalso; simp at h; done) | subst h)
                all_goals
                  refine J.seq ?_
                  refine J.region ?_
                  refine JL.step (y_assign rfl) rfl rfl rfl ?_
                  refine JL.nil ?_
                  refine JE.then_normal ?_
                  refine J.ret ?_
                  refine JE.then_ret ?_
                  refine JE.ret1 (.inl rfl) rfl rfl (by (first | exact RV.tmp rfl | exact RV.cell1 hT rfl rfl rfl (by (exact Rd1.row (by (repeat (first | exact Pick.head | apply Pick.tail | apply Pick.app))) (by rfl))) | exact RV.cellN hT rfl rfl rfl (by (first | exact RdN.rowAll (by (repeat (first | exact Pick.head | apply Pick.tail | apply Pick.app))) | exact RdN.own (by (repeat (first | exact Pick.head | apply Pick.tail | apply Pick.app))))) (by (first | rfl | assumption | (simp; done) | omega)))) ?_
                  first
                  | (have zz := hb3
                     have e9 : decide (((lineR r).length : Int) ≤ 640) = true := decide_eq_true (by omega)
                     refine ⟨?_, fun w h => hend w (h.sup (by (repeat (first | exact Sup.refl | apply Sup.cons (by (repeat (first | exact Pick.head | apply Pick.tail | apply Pick.app))) | apply Sup.app | apply Sup.skip | apply Sup.skips))))⟩
                     show (bif true then Value.bool (decide (((lineR r).length : Int) ≤ 640)) else _) = _
                     rw [e9]
                     rfl)
                  | exact ⟨rfl, hend⟩
              rotate_right 1
              focus
                intro h
                try (first | (exfalso; omega) | (cases h; done) | (exfalso; simp at h; done) | subst h)
                all_goals
                  refine J.skip ?_
      rotate_right 1
      focus
        intro h
        try (first | (exfalso; omega) | (cases h; done) | (exfalso; simp at h; done) | subst h)
        all_goals
          refine J.skip ?_
    all_goals refine JE.then_normal ?_
    all_goals
      exact J.closeK hk9 () trivial ⟨rfl, trivial⟩ (fun w9 h => by rw [hL4]; exact h.sup (by (repeat (first | exact Sup.refl | apply Sup.cons (by (repeat (first | exact Pick.head | apply Pick.tail | apply Pick.app))) | apply Sup.app | apply Sup.skip | apply Sup.skips))))
  rintro _ _
  try dsimp only
  refine J.fact (fun w s => Sat.own_at s) fun oo1 => ?_
  refine J.fact (fun w s => Sat.own_at (s.pick (Pick.tail Pick.head))) fun oo2 => ?_
  have hi1 : InL (ownS a1 k1 r.names :: ownS a2 k2 r.texts :: row b0 36 cs :: l) a1 r.names.length k1 (strs r.names) := oo1.inl Pick.head
  have hi2 : InL (ownS a1 k1 r.names :: ownS a2 k2 r.texts :: row b0 36 cs :: l) a2 r.texts.length k2 (strs r.texts) := oo2.inl (Pick.tail Pick.head)
  have hK4 : K24 E (ownS a1 k1 r.names :: ownS a2 k2 r.texts :: row b0 36 cs :: l) := (((hK.cons _).cons _).cons _)
  obtain ⟨L4, hL4⟩ : ∃ L, ownS a1 k1 r.names :: ownS a2 k2 r.texts :: row b0 36 cs :: l = L := ⟨_, rfl⟩
  obtain ⟨q4, hpk⟩ : ∃ q, Pick L4 (row b0 36 cs) q := ⟨_, hL4 ▸ Pick.tail (Pick.tail Pick.head)⟩
  have hend : ∀ w, Sat E (stars L4) w → Sat E (stars l) w := fun w h => by rw [← hL4] at h; exact h.sup (by (repeat (first | exact Sup.refl | apply Sup.cons (by (repeat (first | exact Pick.head | apply Pick.tail | apply Pick.app))) | apply Sup.app | apply Sup.skip | apply Sup.skips)))
  rw [hL4] at hi1 hi2 hK4 ⊢
  refine J.seq ?_
  refine J.region ?_
  refine JL.step (y_loadN hT rfl rfl rfl (RdN.rowAll hpk) hcl) rfl rfl rfl ?_
  refine JL.loud rfl (l_callF e16 rfl rfl (hpf ▸ hcs ▸ printP_spec E r a1 k1 a2 k2 _ hr hq hi1 hi2 hK4) ?_)
  rintro _ _ ⟨rfl, rfl⟩
  refine JL.step (y_move rfl) rfl rfl rfl (JL.step (y_extract rfl rfl) rfl rfl rfl (JL.step (y_extract rfl rfl) rfl rfl rfl (JL.step (y_assign rfl) rfl rfl rfl (JL.step (y_assign rfl) rfl rfl rfl ?_))))
  refine JL.nil ?_
  refine JE.then_normal ?_
  refine J.seq ?_
  refine J.seq ?_
  rcases b with _ | _
  all_goals
    refine J.region ?_
    refine JL.step (y_move rfl) rfl rfl rfl (JL.step (y_neq rfl rfl) rfl rfl rfl ?_)
    refine JL.nil ?_
  all_goals refine JE.then_normal ?_
  all_goals
    focus
      first | apply J.cond_dec rfl | apply J.cond rfl
      focus
        intro h
        try (first | (exfalso; omega) | (cases h; done) | (exfalso; simp at h; done) | subst h)
        all_goals
          refine J.seq ?_
          refine J.region ?_
          refine JL.step (y_move rfl) rfl rfl rfl ?_
          refine JL.step (y_eqS (xs := []) (ys := []) (b := true) Bys.nil Bys.nil rfl (by rw [e0]; rfl) (by simp)) rfl rfl rfl ?_
          refine JL.step (y_move rfl) rfl rfl rfl ?_
          all_goals (first | (refine JL.gsplit_dec rfl rfl rfl (fun h => ?_) (fun h => ?_) <;> try (first | (exfalso; omega) | exact absurd rfl h)) | (refine JL.gsplit rfl rfl rfl (fun h => ?_) (fun h => ?_) <;> try (first | cases h | (exfalso; simp at h; done))) | skip)
          all_goals (first | refine JL.gskip rfl rfl rfl rfl rfl rfl ?_ | refine JL.gskipU rfl rfl rfl rfl rfl ?_ | refine JL.gstep rfl rfl rfl (y_loadN hT rfl rfl rfl (RdN.rowAll hpk) hcl) rfl rfl ?_)
          all_goals (first | refine JL.gskip rfl rfl rfl rfl rfl rfl ?_ | refine JL.gskipU rfl rfl rfl rfl rfl ?_ | (refine JL.gloud rfl rfl rfl (l_callF e17 rfl rfl (hch ▸ hcs ▸ check_spec E r a1 k1 a2 k2 _ hr hq hi1 hi2 hK4) ?_); rintro _ _ ⟨rfl, rfl⟩))
          all_goals (first | refine JL.gskip rfl rfl rfl rfl rfl rfl ?_ | refine JL.gskipU rfl rfl rfl rfl rfl ?_ | refine JL.gstep rfl rfl rfl (y_eql rfl rfl) rfl rfl ?_)
          all_goals (refine JL.step (y_pick rfl rfl rfl) rfl rfl rfl ?_)
          all_goals (refine JL.step (y_assign rfl) rfl rfl rfl ?_)
          all_goals refine JL.nil ?_
          all_goals refine JE.then_normal ?_
          all_goals
            refine J.ret ?_
            refine JE.then_ret ?_
            refine JE.ret1 (.inl rfl) rfl rfl (by (first | exact RV.tmp rfl | exact RV.cell1 hT rfl rfl rfl (by (exact Rd1.row (by (repeat (first | exact Pick.head | apply Pick.tail | apply Pick.app))) (by rfl))) | exact RV.cellN hT rfl rfl rfl (by (first | exact RdN.rowAll (by (repeat (first | exact Pick.head | apply Pick.tail | apply Pick.app))) | exact RdN.own (by (repeat (first | exact Pick.head | apply Pick.tail | apply Pick.app))))) (by (first | rfl | assumption | (simp; done) | omega)))) ?_
            first
            | (have zz := hb3
               have e9 : decide (((lineR r).length : Int) ≤ 640) = true := decide_eq_true (by omega)
               refine ⟨?_, fun w h => hend w (h.sup (by (repeat (first | exact Sup.refl | apply Sup.cons (by (repeat (first | exact Pick.head | apply Pick.tail | apply Pick.app))) | apply Sup.app | apply Sup.skip | apply Sup.skips))))⟩
               show (bif true then Value.bool (decide (((lineR r).length : Int) ≤ 640)) else _) = _
               rw [e9]
               rfl)
            | exact ⟨rfl, hend⟩
      rotate_right 1
      focus
        intro h
        try (first | (exfalso; omega) | (cases h; done) | (exfalso; simp at h; done) | subst h)
        all_goals
          refine J.skip ?_
  all_goals refine JE.then_normal ?_
  all_goals
    refine J.seq ?_
    obtain ⟨hb1, hb2, hb3⟩ := rep_back hr.key hr.kb hb
    refine J.region ?_
    refine JL.step (y_move rfl) rfl rfl rfl ?_
    refine JL.loud rfl (l_callF e29 rfl rfl (hb1 ▸ hb2 ▸ lreply_spec E (lineR r) _ hlB (by omega) hK4) ?_)
    rintro _ l10 ⟨cz, KZ, ⟨zp1, zc1, zp2, zc2, hzo, hz1, hz2, hcz⟩, rfl, e10⟩
    refine JL.step (y_move rfl) rfl rfl rfl ?_
    obtain rfl := e10
    have hczl : cz.length = i36.size := by rw [hcz]; exact rpE_length hr.key _ _
    have hczo : ∀ v ∈ cz, v.oneCell' = true := by rw [hcz]; exact rpE_one r rfl rfl
    refine JL.step (y_extract rfl rfl) rfl rfl rfl (JL.step (y_extract rfl rfl) rfl rfl rfl ?_)
    refine JL.loud rfl (l_alloc hT rfl rfl (by (first | rfl | simp)) rfl (fun b11 => ?_))
    refine JL.loud rfl (l_alloc hT rfl rfl (by (first | rfl | simp)) rfl (fun b12 => ?_))
    refine JL.loud rfl (l_storeAll hT rfl rfl rfl hczl hczo (by (repeat (first | exact Pick.head | apply Pick.tail | apply Pick.app))) (by (first | rfl | assumption | (simp; done) | omega)) ?_)
    refine JL.loud rfl (l_storeAll hT rfl rfl rfl (by (first | rfl | assumption | (simp; done) | omega)) (by (first | assumption | exact ones_of rfl | exact encW_one _ | exact encB_one _ | (intro u hu; simp at hu; rcases hu with rfl | rfl <;> rfl) | (intro u hu; simp at hu; subst hu; rfl) | simp)) (by (repeat (first | exact Pick.head | apply Pick.tail | apply Pick.app))) (by (first | rfl | assumption | (simp; done) | omega)) ?_)
    refine JL.nil ?_
    refine JE.then_normal ?_
    refine J.seq ?_
    refine J.region ?_
    refine JL.step (y_loadN hT rfl rfl rfl (by (first | exact RdN.rowAll (by (repeat (first | exact Pick.head | apply Pick.tail | apply Pick.app))) | exact RdN.own (by (repeat (first | exact Pick.head | apply Pick.tail | apply Pick.app))))) (by (first | rfl | assumption | (simp; done) | omega))) rfl rfl rfl ?_
    refine JL.step (y_build (cs := [_, _]) hT rfl rfl rfl rfl rfl rfl trivial rfl) rfl rfl rfl ?_
    refine JL.step (v := .bool true) (y_flat_eq (m := 3) (ks := spK) (xs := [.int .i64 0, .int .i64 0]) (ys := [.int .i64 0, .int .i64 0]) (b := true) hT (by kernel_rfl) rfl (by kernel_rfl) (by kernel_rfl) rfl rfl rfl rfl ⟨⟨_, rfl⟩, ⟨_, rfl⟩, trivial⟩ ⟨⟨_, rfl⟩, ⟨_, rfl⟩, trivial⟩ (by simp)) rfl rfl rfl ?_
    refine JL.step (y_move rfl) rfl rfl rfl ?_
    all_goals (first | (refine JL.gsplit_dec rfl rfl rfl (fun h => ?_) (fun h => ?_) <;> try (first | (exfalso; omega) | exact absurd rfl h)) | (refine JL.gsplit rfl rfl rfl (fun h => ?_) (fun h => ?_) <;> try (first | cases h | (exfalso; simp at h; done))) | skip)
    all_goals (first | refine JL.gskip rfl rfl rfl rfl rfl rfl ?_ | refine JL.gskipU rfl rfl rfl rfl rfl ?_ | refine JL.gstep rfl rfl rfl (y_loadN hT rfl rfl rfl (RdN.rowAll (by (repeat (first | exact Pick.head | apply Pick.tail | apply Pick.app)))) hczl) rfl rfl ?_)
    all_goals (first | refine JL.gskip rfl rfl rfl rfl rfl rfl ?_ | refine JL.gskipU rfl rfl rfl rfl rfl ?_ | refine JL.gstep rfl rfl rfl (y_loadN hT rfl rfl rfl (RdN.rowAll (Pick.tail (Pick.tail (Pick.tail hpk)))) hcl) rfl rfl ?_)
    all_goals (first | refine JL.gskip rfl rfl rfl rfl rfl rfl ?_ | refine JL.gskipU rfl rfl rfl rfl rfl ?_ | (refine JL.gloud rfl rfl rfl (l_callF e18 rfl rfl (hcz ▸ hcs ▸ rsame_spec E r r zp1 zp2 a1 a2 zc1 zc2 k1 k2 _ hr hr (hz1.inl.kept (by (repeat (first | exact Pick.head | apply Pick.tail | apply Pick.app)))) (hz2.inl.kept (by (repeat (first | exact Pick.head | apply Pick.tail | apply Pick.app)))) (((hi1.cons _).cons _).cons _) (((hi2.cons _).cons _).cons _)) ?_); rintro _ _ ⟨rfl, rfl⟩))
    all_goals rw [decide_eq_true (rfl : r = r)]
    all_goals (refine JL.step (y_pick rfl rfl rfl) rfl rfl rfl ?_)
    all_goals (refine JL.step (y_move rfl) rfl rfl rfl ?_)
    all_goals (first | (refine JL.gsplit_dec rfl rfl rfl (fun h => ?_) (fun h => ?_) <;> try (first | (exfalso; omega) | exact absurd rfl h)) | (refine JL.gsplit rfl rfl rfl (fun h => ?_) (fun h => ?_) <;> try (first | cases h | (exfalso; simp at h; done))) | skip)
    all_goals (first | refine JL.gskip rfl rfl rfl rfl rfl rfl ?_ | refine JL.gskipU rfl rfl rfl rfl rfl ?_ | refine JL.gstep rfl rfl rfl (y_move rfl) rfl rfl ?_)
    all_goals (first | refine JL.gskip rfl rfl rfl rfl rfl rfl ?_ | refine JL.gskipU rfl rfl rfl rfl rfl ?_ | refine JL.gstep rfl rfl rfl (y_lenS hT rfl rfl rfl) rfl rfl ?_)
    all_goals (first | refine JL.gskip rfl rfl rfl rfl rfl rfl ?_ | refine JL.gskipU rfl rfl rfl rfl rfl ?_ | refine JL.gstep rfl rfl rfl (y_leq rfl rfl) rfl rfl ?_)
    all_goals (refine JL.step (y_pick rfl rfl rfl) rfl rfl rfl ?_)
    all_goals (refine JL.step (y_assign rfl) rfl rfl rfl ?_)
    all_goals refine JL.nil ?_
    all_goals refine JE.then_normal ?_
    all_goals
      refine J.ret ?_
      refine JE.ret1 (.inl rfl) rfl rfl (by (first | exact RV.tmp rfl | exact RV.cell1 hT rfl rfl rfl (by (exact Rd1.row (by (repeat (first | exact Pick.head | apply Pick.tail | apply Pick.app))) (by rfl))) | exact RV.cellN hT rfl rfl rfl (by (first | exact RdN.rowAll (by (repeat (first | exact Pick.head | apply Pick.tail | apply Pick.app))) | exact RdN.own (by (repeat (first | exact Pick.head | apply Pick.tail | apply Pick.app))))) (by (first | rfl | assumption | (simp; done) | omega)))) ?_
      first
      | (have zz := hb3
         have e9 : decide (((lineR r).length : Int) ≤ 640) = true := decide_eq_true (by omega)
         refine ⟨?_, fun w h => hend w (h.sup (by (repeat (first | exact Sup.refl | apply Sup.cons (by (repeat (first | exact Pick.head | apply Pick.tail | apply Pick.app))) | apply Sup.app | apply Sup.skip | apply Sup.skips))))⟩
         show (bif true then Value.bool (decide (((lineR r).length : Int) ≤ 640)) else _) = _
         rw [e9]
         rfl)
      | exact ⟨rfl, hend⟩
end
end
end Go.Proofs.YtccagffapohkhaaGreatDoor
