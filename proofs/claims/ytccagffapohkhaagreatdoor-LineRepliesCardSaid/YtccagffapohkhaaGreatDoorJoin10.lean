import Derived.Test.YtccagffapohkhaaGreatDoorJoin7
import Derived.Test.YtccagffapohkhaaGreatDoorJoin8
import Derived.Test.YtccagffapohkhaaGreatDoorJoin9
namespace Go.Proofs.YtccagffapohkhaaGreatDoor
section
open Go Go.SL
section
theorem rp_put {r : RpT} (h : r.key.length = 32) (a b : Value) (ks : List Int) (hk : ks.length = 32) : (rpE r a b).take 1 ++ ints .u8 ks ++ (rpE r a b).drop (1 + (ints .u8 ks).length) = rpE { r with key := ks } a b := by
 rw [ints_len, hk]
 unfold rpE
 show [_] ++ ints .u8 ks ++ List.drop 32 (ints .u8 r.key ++ _) = _
 rw [List.drop_append_of_le_length (by rw [ints_len, h]; exact Nat.le_refl _), List.drop_eq_nil_of_le (by rw [ints_len, h]; exact Nat.le_refl _)]
 rfl
theorem rp_set {r : RpT} (h : r.key.length = 32) (a b v : Value) (j : Nat) : (rpE r a b).set (33 + j) v = .int .i64 r.kind :: (ints .u8 r.key ++ ([a, b, .int .i64 r.seq, .int .i64 r.out, .int .i64 r.acked, .int .i64 r.inn, .int .i64 r.err] : List Value).set j v) := by
 unfold rpE
 rw [show 33 + j = (32 + j) + 1 by omega, List.set_cons_succ, List.set_append_right _ _ (by rw [ints_len, h]; omega), ints_len, h, Nat.add_sub_cancel_left]
theorem rp_seq {r : RpT} (h : r.key.length = 32) (a b : Value) (z : Int) : (rpE r a b).set 35 (.int .i64 z) = rpE { r with seq := z } a b := rp_set h a b _ 2
theorem rp_out {r : RpT} (h : r.key.length = 32) (a b : Value) (z : Int) : (rpE r a b).set 36 (.int .i64 z) = rpE { r with out := z } a b := rp_set h a b _ 3
theorem rp_ack {r : RpT} (h : r.key.length = 32) (a b : Value) (z : Int) : (rpE r a b).set 37 (.int .i64 z) = rpE { r with acked := z } a b := rp_set h a b _ 4
theorem rp_inn {r : RpT} (h : r.key.length = 32) (a b : Value) (z : Int) : (rpE r a b).set 38 (.int .i64 z) = rpE { r with inn := z } a b := rp_set h a b _ 5
theorem rp_err {r : RpT} (h : r.key.length = 32) (a b : Value) (z : Int) : (rpE r a b).set 39 (.int .i64 z) = rpE { r with err := z } a b := rp_set h a b _ 6
theorem split_len {xs a w : List Int} {ls : List (List Int)} (h : splitW xs = a :: w :: ls) : a.length + 1 + w.length ≤ xs.length := by
 have hj := join_split xs
 rw [h, joinW_two] at hj
 have h1 : w.length ≤ (joinW (w :: ls)).length := by
  show w.length ≤ (w ++ _).length
  rw [List.length_append]
  omega
 have h2 := congrArg List.length hj
 rw [List.length_append, List.length_cons] at h2
 omega
theorem right_ok {r : RpT} (hr : RpB r) (h : rightB r = true) : RpOk r := by
 have h3 : r.names.length ≤ 3 ∧ r.texts.length ≤ 6 := by
  rcases right_kind h with k | k | k | k | k | k | k | k
  · rw [right_1 k h]; exact ⟨Nat.zero_le _, Nat.zero_le _⟩
  · rw [right_26 (.inl k) h]; exact ⟨Nat.zero_le _, Nat.zero_le _⟩
  · have := right_3 k h; exact ⟨this.2.2.2, by rw [this.1]; exact Nat.zero_le _⟩
  · rw [(right_4 k h).1]; exact ⟨Nat.zero_le _, Nat.zero_le _⟩
  · have := right_5 k h; exact ⟨by rw [this.1]; exact Nat.zero_le _, this.2.2⟩
  · rw [right_26 (.inr k) h]; exact ⟨Nat.zero_le _, Nat.zero_le _⟩
  · rw [(right_7 k h).1]; exact ⟨Nat.zero_le _, Nat.zero_le _⟩
  · rw [(right_8 k h).1]; exact ⟨Nat.zero_le _, Nat.zero_le _⟩
 exact ⟨hr.key, h3.1, h3.2, fun t ht => ⟨(hr.nb t ht).1, by have := (hr.nb t ht).2; omega⟩, fun t ht => ⟨(hr.tb t ht).1, by have := (hr.tb t ht).2; omega⟩, hr.kb⟩
def LooseR (xs : List Int) (s : RpT × Value × Value × HProp) : Prop :=
 RpW s.1 ∧ LenR xs s.1 ∧ ∃ p1 c1 p2 c2, s.2.1 = .slice p1 s.1.names.length c1 ∧ s.2.2.1 = .slice p2 s.1.texts.length c2 ∧ SlK s.2.2.2 p1 c1 s.1.names ∧ SlK s.2.2.2 p2 c2 s.1.texts
abbrev nilV : Value := .slice none 0 0
theorem LooseR.plain {xs : List Int} {r : RpT} (K : HProp) (hk : r.key.length = 32) (hB : Bys r.key) (hn : r.names = []) (ht : r.texts = []) (h : LenR xs r) : LooseR xs (r, nilV, nilV, K) :=
 ⟨⟨hk, hB, by rw [hn]; simp, by rw [ht]; simp, fun t q => (by rw [hn] at q; cases q), fun t q => (by rw [ht] at q; cases q)⟩, h, none, 0, none, 0, by rw [hn]; rfl, by rw [ht]; rfl, by rw [hn]; exact SlK.nil K, by rw [ht]; exact SlK.nil K⟩
def zcR : List Value := rpE rp0 nilV nilV
end
section
attribute [local irreducible] J JL JE JM LS Y Fc RV Code.wp wpList Code.wpIn wpListIn
attribute [local irreducible] Yc strOf valD dig
variable (E : World)
theorem rreply_spec (xs : List Int) (l : List HProp) (hB : Bys xs) (hl : xs.length ≤ 1000000) :
 Fc prog E 30 [.string (strOf xs)].toArray l (fun v l' => ∃ cells K, RepQ (repR xs) cells K ∧ v = .tuple #[.agg cells.toArray, .agg #[.int .i64 (repS xs).1, .int .i64 (repS xs).2]] ∧ l' = K :: l) := by
 refine Fc.post ?_
 obtain ⟨ls, hls⟩ := splitW_head xs
 have hsB := splitW_bys hB
 have hsL := splitW_le (xs := xs)
 have hcnt : (splitW xs).length ≤ xs.length + 1 := by
  have h1 := splitW_length xs
  have h2 : xs.count 32 ≤ xs.length := List.count_le_length
  omega
 have hzl : zcR.length = i36.size := rpE_length rfl _ _
 have hz40 : zcR.length = 40 := rpE_length rfl _ _
 have hzo : ∀ v ∈ zcR, v.oneCell' = true := rpE_one rp0 rfl rfl
 have kwMe : strOf wMe = ⟨#[109, 101]⟩ := by unfold strOf; rfl
 have kwAdded : strOf wAdded = ⟨#[97, 100, 100, 101, 100]⟩ := by unfold strOf; rfl
 have kwPurged : strOf wPurged = ⟨#[112, 117, 114, 103, 101, 100]⟩ := by unfold strOf; rfl
 have kwContacts : strOf wContacts = ⟨#[99, 111, 110, 116, 97, 99, 116, 115]⟩ := by unfold strOf; rfl
 have kwQueued : strOf wQueued = ⟨#[113, 117, 101, 117, 101, 100]⟩ := by unfold strOf; rfl
 have kwInbox : strOf wInbox = ⟨#[105, 110, 98, 111, 120]⟩ := by unfold strOf; rfl
 have kwStatus : strOf wStatus = ⟨#[115, 116, 97, 116, 117, 115]⟩ := by unfold strOf; rfl
 have kwError : strOf wError = ⟨#[101, 114, 114, 111, 114]⟩ := by unfold strOf; rfl
 have hwB : Bys (headW xs) := headW_bys hB
 refine Fc.of_body (c := ?codeC) Tryz.func30 ?hb Tryz.ntmps30 ?hl ?_
 case hb => exact rfl
 case hl => exact rfl
 refine J.seq (J.region ?_)
 refine JL.loud rfl (l_alloc hT rfl rfl (by (first | rfl | simp)) rfl (fun bR => ?_))
 refine JL.loud rfl (l_alloc hT rfl rfl (by (first | rfl | simp)) rfl (fun bS => ?_))
 refine JL.nil (JE.then_normal (J.seq (J.seq (J.region (JL.step (y_move rfl) rfl rfl rfl ?_)))))
 refine JL.step (y_lenS hT rfl rfl rfl) rfl rfl rfl ?_
 refine JL.step (y_gtr rfl rfl) rfl rfl rfl ?_
 refine JL.nil (JE.then_normal ?_)
 focus
  first | apply J.cond_dec rfl | apply J.cond rfl
  focus
   intro h
   try (first | (exfalso; omega) | (cases h; done) | (exfalso; simp at h; done) | subst h)
   all_goals
    refine J.seq (J.region (JL.step (y_build (cs := [_, _, _, _, _, _, _, _, _, _, _, _, _, _, _, _, _, _, _, _, _, _, _, _, _, _, _, _, _, _, _, _, _, _, _, _, _, _, _, _]) hT rfl rfl rfl rfl rfl rfl trivial rfl) rfl rfl rfl ?_))
    refine JL.step (y_build (cs := [_, _]) hT rfl rfl rfl rfl rfl rfl ⟨⟨(by (first | rfl | assumption | (simp; done) | omega)), Nat.le_of_ble_eq_true rfl⟩, ⟨⟨(by (first | rfl | assumption | (simp; done) | omega)), Nat.le_of_ble_eq_true rfl⟩, trivial⟩⟩ rfl) rfl rfl rfl ?_
    refine JL.loud rfl (l_storeAll hT rfl rfl rfl (by (first | rfl | assumption | (simp; done) | omega)) (by (first | assumption | exact ones_of rfl | exact encW_one _ | exact encB_one _ | (intro u hu; simp at hu; rcases hu with rfl | rfl <;> rfl) | (intro u hu; simp at hu; subst hu; rfl) | simp)) (by (repeat (first | exact Pick.head | apply Pick.tail | apply Pick.app))) (by (first | rfl | assumption | (simp; done) | omega)) ?_)
    refine JL.loud rfl (l_storeAll hT rfl rfl rfl (by (first | rfl | assumption | (simp; done) | omega)) (by (first | assumption | exact ones_of rfl | exact encW_one _ | exact encB_one _ | (intro u hu; simp at hu; rcases hu with rfl | rfl <;> rfl) | (intro u hu; simp at hu; subst hu; rfl) | simp)) (by (repeat (first | exact Pick.head | apply Pick.tail | apply Pick.app))) (by (first | rfl | assumption | (simp; done) | omega)) ?_)
    refine JL.nil (JE.then_normal (J.ret (JE.then_ret ?_)))
    refine JE.ret2 (.inl rfl) rfl rfl (by (first | exact RV.tmp rfl | exact RV.cell1 hT rfl rfl rfl (by (exact Rd1.row (by (repeat (first | exact Pick.head | apply Pick.tail | apply Pick.app))) (by rfl))) | exact RV.cellN hT rfl rfl rfl (by (first | exact RdN.rowAll (by (repeat (first | exact Pick.head | apply Pick.tail | apply Pick.app))) | exact RdN.own (by (repeat (first | exact Pick.head | apply Pick.tail | apply Pick.app))))) (by (first | rfl | assumption | (simp; done) | omega)))) (by (first | exact RV.tmp rfl | exact RV.cell1 hT rfl rfl rfl (by (exact Rd1.row (by (repeat (first | exact Pick.head | apply Pick.tail | apply Pick.app))) (by rfl))) | exact RV.cellN hT rfl rfl rfl (by (first | exact RdN.rowAll (by (repeat (first | exact Pick.head | apply Pick.tail | apply Pick.app))) | exact RdN.own (by (repeat (first | exact Pick.head | apply Pick.tail | apply Pick.app))))) (by (first | rfl | assumption | (simp; done) | omega)))) ?_
    first
    | (have zz : 640 < xs.length := by omega
       have h1 : repR xs = rp0 := by unfold repR repF; rw [if_pos zz]; rfl
       have h2 : repS xs = (3, 640) := by unfold repS; rw [if_pos zz]
       rw [h1, h2]
       exact ⟨pur True :: l, fun w h => Sat.topur trivial (h.sup (by (repeat (first | exact Sup.refl | apply Sup.cons (by (repeat (first | exact Pick.head | apply Pick.tail | apply Pick.app))) | apply Sup.app | apply Sup.skip | apply Sup.skips)))), _, pur True, RepQ.zero _, rfl, rfl⟩)
    | (have zz : rightB r = false := hbr
       have hn := hL.bad (.inl zz)
       have h1 : repR xs = rp0 := by unfold repR; rw [hn]; rfl
       have h2 : repS xs = (340, 0) := by unfold repS; rw [if_neg (by omega), hn]; rfl
       rw [h1, h2]
       exact ⟨pur True :: l, fun w h => Sat.topur trivial (h.sup (by (repeat (first | exact Sup.refl | apply Sup.cons (by (repeat (first | exact Pick.head | apply Pick.tail | apply Pick.app))) | apply Sup.app | apply Sup.skip | apply Sup.skips)))), _, pur True, RepQ.zero _, rfl, rfl⟩)
    | (have zz : true = decide (lineR r ≠ xs) := hbl
       have hn := hL.bad (.inr (of_decide_eq_true zz.symm))
       have h1 : repR xs = rp0 := by unfold repR; rw [hn]; rfl
       have h2 : repS xs = (340, 0) := by unfold repS; rw [if_neg (by omega), hn]; rfl
       rw [h1, h2]
       exact ⟨pur True :: l, fun w h => Sat.topur trivial (h.sup (by (repeat (first | exact Sup.refl | apply Sup.cons (by (repeat (first | exact Pick.head | apply Pick.tail | apply Pick.app))) | apply Sup.app | apply Sup.skip | apply Sup.skips)))), _, pur True, RepQ.zero _, rfl, rfl⟩)
    | (have zz : false = decide (lineR r ≠ xs) := hbl
       have he : lineR r = xs := Decidable.of_not_not (of_decide_eq_false zz.symm)
       have hf : repF xs = some r := by rw [← he]; exact repF_right hW.key hW.kb hbr
       have h1 : repR xs = r := by unfold repR; rw [hf]; rfl
       have h2 : repS xs = (0, 0) := by unfold repS; rw [if_neg (by omega), hf]; rfl
       rw [h1, h2]
       exact ⟨K :: l, fun w h => h.sup (by (repeat (first | exact Sup.refl | apply Sup.cons (by (repeat (first | exact Pick.head | apply Pick.tail | apply Pick.app))) | apply Sup.app | apply Sup.skip | apply Sup.skips))), cs, K, ⟨p1, c1, p2, c2, right_ok hRB hbr, hs1, hs2, hcs.symm⟩, rfl, rfl⟩)
  rotate_right 1
  focus
   intro h
   try (first | (exfalso; omega) | (cases h; done) | (exfalso; simp at h; done) | subst h)
   all_goals
    refine J.skip ?_
 all_goals refine JE.then_normal ?_
 all_goals
  refine J.seq (J.region (JL.step (y_move rfl) rfl rfl rfl ?_))
  refine JL.loud rfl (l_callF e58 rfl rfl (split_spec E xs _ hB hl) ?_)
  rintro _ l9 ⟨bs, rfl, e9⟩
  obtain rfl := e9
  rw [hls, List.length_cons]
  refine JL.step (y_assign rfl) rfl rfl rfl ?_
  refine JL.nil (JE.then_normal (J.seq (J.region (JL.step (y_build (cs := [_, _, _, _, _, _, _, _, _, _, _, _, _, _, _, _, _, _, _, _, _, _, _, _, _, _, _, _, _, _, _, _, _, _, _, _, _, _, _, _]) hT rfl rfl rfl rfl rfl rfl trivial rfl) rfl rfl rfl ?_))))
  refine JL.loud rfl (l_alloc hT rfl rfl (by (first | rfl | simp)) rfl (fun b5 => ?_))
  refine JL.loud rfl (l_storeAll hT rfl rfl rfl (by (first | rfl | assumption | (simp; done) | omega)) (by (first | assumption | exact ones_of rfl | exact encW_one _ | exact encB_one _ | (intro u hu; simp at hu; rcases hu with rfl | rfl <;> rfl) | (intro u hu; simp at hu; subst hu; rfl) | simp)) (by (repeat (first | exact Pick.head | apply Pick.tail | apply Pick.app))) (by (first | rfl | assumption | (simp; done) | omega)) ?_)
  refine JL.nil (JE.then_normal ?_)
  refine J.seqK (α := RpT × Value × Value × HProp) (LooseR xs) (fun _ => [(0, .string (strOf xs)), (2, .pointer (some ⟨bR, 0, none⟩)), (3, .pointer (some ⟨bS, 0, none⟩)), (5, .pointer (some ⟨b5, 0, none⟩))]) (fun s => row b5 36 (rpE s.1 s.2.1 s.2.2.1) :: s.2.2.2 :: row bR 36 zcR :: row bS 30 [.int .i64 0, .int .i64 0] :: l) ?hj36 (fun hk36 => ?hf36)
  case hf36 =>
   refine J.seq ?_
   refine J.pre (l' := row b5 36 zcR :: row bs 9 (strs (headW xs :: ls)) :: row bR 36 zcR :: row bS 30 [.int .i64 0, .int .i64 0] :: l) (fun w h => h.sup (by (repeat (first | exact Sup.refl | apply Sup.cons (by (repeat (first | exact Pick.head | apply Pick.tail | apply Pick.app))) | apply Sup.app | apply Sup.skip | apply Sup.skips)))) ?_
   refine J.region (JL.step (y_move rfl) rfl rfl rfl ?_)
   refine JL.step (y_indexAddr_slice hT rfl rfl rfl rfl rfl (by (first | omega | exact Nat.le_of_ble_eq_true rfl | decide | (simp; omega))) (by (first | omega | exact Nat.le_of_ble_eq_true rfl | decide | (simp; omega)))) rfl rfl rfl ?_
   refine JL.step (y_load1 hT rfl rfl rfl (Rd1.row (v := .string (strOf (headW xs))) (by (repeat (first | exact Pick.head | apply Pick.tail | apply Pick.app))) rfl)) rfl rfl rfl ?_
   refine JL.nil (JE.then_normal (J.block (J.seq ?_)))
   have hlx : xs.length ≤ 640 := by omega
   refine J.region ?_
   refine JL.step (y_eqS (xs := headW xs) (ys := wMe) (b := decide (headW xs = wMe)) hwB (Bys.all rfl) rfl (by rw [kwMe]; rfl) rfl) rfl rfl rfl ?_
   refine JL.step (y_assign rfl) rfl rfl rfl ?_
   refine JL.nil (JE.then_normal ?_)
   focus
    first | apply J.cond_dec rfl | apply J.cond rfl
    focus
     intro h
     try (first | (exfalso; omega) | (cases h; done) | (exfalso; simp at h; done) | subst h)
     all_goals
      refine J.seq (J.region (JL.step (y_fieldAddr hT rfl rfl rfl rfl rfl rfl) rfl rfl rfl ?_))
      refine JL.loud rfl (l_store1 hT rfl rfl rfl rfl rfl (by (repeat (first | exact Pick.head | apply Pick.tail | apply Pick.app))) (by rw [hz40]; decide) ?_)
      refine JL.pre (l' := row b5 36 (rpE ⟨1, zer32, [], [], 0, 0, 0, 0, 0⟩ nilV nilV) :: row bs 9 (strs (headW xs :: ls)) :: row bR 36 zcR :: row bS 30 [.int .i64 0, .int .i64 0] :: l) (fun w h => h) ?_
      refine JL.nil (JE.then_normal (J.seq (J.region (JL.step (y_move rfl) rfl rfl rfl (JL.step (y_len_slice hT rfl rfl rfl) rfl rfl rfl (JL.step (y_gtr rfl rfl) rfl rfl rfl ?_))))))
      refine JL.nil (JE.then_normal ?_)
      focus
       first | apply J.cond_dec rfl | apply J.cond rfl
       focus
        intro h
        try (first | (exfalso; omega) | (cases h; done) | (exfalso; simp at h; done) | subst h)
        all_goals
         obtain ⟨w, ls2, rfl⟩ := List.exists_cons_of_length_pos (l := ls) (by omega)
         have hB_w := hsB w (by rw [hls]; simp)
         have hL_w := hsL w (by rw [hls]; simp)
         refine J.region (JL.step (y_move rfl) rfl rfl rfl ?_)
         refine JL.step (y_indexAddr_slice hT rfl rfl rfl rfl rfl (by (first | omega | exact Nat.le_of_ble_eq_true rfl | decide | (simp; omega))) (by (first | omega | exact Nat.le_of_ble_eq_true rfl | decide | (simp; omega)))) rfl rfl rfl ?_
         refine JL.step (y_load1 hT rfl rfl rfl (Rd1.row (v := .string (strOf w)) (by (repeat (first | exact Pick.head | apply Pick.tail | apply Pick.app))) rfl)) rfl rfl rfl ?_
         refine JL.loud rfl (l_callF e43 rfl rfl (rkey_spec E w _ hB_w (by omega)) ?_)
         rintro _ _ ⟨ks, e4, p4, rfl, hkl, hky, hkn, rfl⟩
         have hkk : ks = keyL w := by
          unfold keyL
          cases q : keyB w
          · rw [(hkn q).1]; rfl
          · rw [(hky q).1]; rfl
         subst hkk
         have hkl2 : (ints .u8 (keyL w)).length = i25.size := by rw [ints_len, hkl]; rfl
         refine JL.step (y_move rfl) rfl rfl rfl (JL.step (y_extract rfl rfl) rfl rfl rfl (JL.step (y_extract rfl rfl) rfl rfl rfl (JL.step (y_fieldAddr hT rfl rfl rfl rfl rfl rfl) rfl rfl rfl ?_)))
         refine JL.loud rfl (l_storeN hT rfl rfl rfl hkl2 (ints_one _ _) (by (repeat (first | exact Pick.head | apply Pick.tail | apply Pick.app))) (by rw [ints_len, hkl, rpE_length rfl]; decide) ?_)
         refine JL.pre (l' := row b5 36 (rpE ⟨1, keyL w, [], [], 0, 0, 0, 0, 0⟩ nilV nilV) :: row bs 9 (strs (headW xs :: w :: ls2)) :: row bR 36 zcR :: row bS 30 [.int .i64 0, .int .i64 0] :: l) (fun w9 h => by
          have h1 := h
          erw [rp_put rfl nilV nilV (keyL w) hkl] at h1
          exact h1) ?_
         refine JL.nil ?_
       rotate_right 1
       focus
        intro h
        try (first | (exfalso; omega) | (cases h; done) | (exfalso; simp at h; done) | subst h)
        all_goals
         refine J.skip ?_
    rotate_right 1
    focus
     intro h
     try (first | (exfalso; omega) | (cases h; done) | (exfalso; simp at h; done) | subst h)
     all_goals
      refine J.seq (J.region ?_)
      refine JL.step (y_eqS (xs := headW xs) (ys := wAdded) (b := decide (headW xs = wAdded)) hwB (Bys.all rfl) rfl (by rw [kwAdded]; rfl) rfl) rfl rfl rfl ?_
      refine JL.step (y_assign rfl) rfl rfl rfl ?_
      refine JL.nil (JE.then_normal ?_)
      focus
       first | apply J.cond_dec rfl | apply J.cond rfl
       focus
        intro h
        try (first | (exfalso; omega) | (cases h; done) | (exfalso; simp at h; done) | subst h)
        all_goals
         refine J.region (JL.step (y_fieldAddr hT rfl rfl rfl rfl rfl rfl) rfl rfl rfl ?_)
         refine JL.loud rfl (l_store1 hT rfl rfl rfl rfl rfl (by (repeat (first | exact Pick.head | apply Pick.tail | apply Pick.app))) (by rw [hz40]; decide) ?_)
         refine JL.pre (l' := row b5 36 (rpE ⟨2, zer32, [], [], 0, 0, 0, 0, 0⟩ nilV nilV) :: row bs 9 (strs (headW xs :: ls)) :: row bR 36 zcR :: row bS 30 [.int .i64 0, .int .i64 0] :: l) (fun w h => h) ?_
         refine JL.nil ?_
       rotate_right 1
       focus
        intro h
        try (first | (exfalso; omega) | (cases h; done) | (exfalso; simp at h; done) | subst h)
        all_goals
         refine J.seq (J.region ?_)
         refine JL.step (y_eqS (xs := headW xs) (ys := wPurged) (b := decide (headW xs = wPurged)) hwB (Bys.all rfl) rfl (by rw [kwPurged]; rfl) rfl) rfl rfl rfl ?_
         refine JL.step (y_assign rfl) rfl rfl rfl ?_
         refine JL.nil (JE.then_normal ?_)
         focus
          first | apply J.cond_dec rfl | apply J.cond rfl
          focus
           intro h
           try (first | (exfalso; omega) | (cases h; done) | (exfalso; simp at h; done) | subst h)
           all_goals
            refine J.region (JL.step (y_fieldAddr hT rfl rfl rfl rfl rfl rfl) rfl rfl rfl ?_)
            refine JL.loud rfl (l_store1 hT rfl rfl rfl rfl rfl (by (repeat (first | exact Pick.head | apply Pick.tail | apply Pick.app))) (by rw [hz40]; decide) ?_)
            refine JL.pre (l' := row b5 36 (rpE ⟨6, zer32, [], [], 0, 0, 0, 0, 0⟩ nilV nilV) :: row bs 9 (strs (headW xs :: ls)) :: row bR 36 zcR :: row bS 30 [.int .i64 0, .int .i64 0] :: l) (fun w h => h) ?_
            refine JL.nil ?_
          rotate_right 1
          focus
           intro h
           try (first | (exfalso; omega) | (cases h; done) | (exfalso; simp at h; done) | subst h)
           all_goals
            refine J.seq (J.region ?_)
            refine JL.step (y_eqS (xs := headW xs) (ys := wContacts) (b := decide (headW xs = wContacts)) hwB (Bys.all rfl) rfl (by rw [kwContacts]; rfl) rfl) rfl rfl rfl ?_
            refine JL.step (y_assign rfl) rfl rfl rfl ?_
            refine JL.nil (JE.then_normal ?_)
            focus
             first | apply J.cond_dec rfl | apply J.cond rfl
             focus
              intro h
              try (first | (exfalso; omega) | (cases h; done) | (exfalso; simp at h; done) | subst h)
              all_goals
               refine J.seq (J.region (JL.step (y_fieldAddr hT rfl rfl rfl rfl rfl rfl) rfl rfl rfl ?_))
               refine JL.loud rfl (l_store1 hT rfl rfl rfl rfl rfl (by (repeat (first | exact Pick.head | apply Pick.tail | apply Pick.app))) (by rw [hz40]; decide) ?_)
               refine JL.pre (l' := row b5 36 (rpE ⟨3, zer32, [], [], 0, 0, 0, 0, 0⟩ nilV nilV) :: row bs 9 (strs (headW xs :: ls)) :: row bR 36 zcR :: row bS 30 [.int .i64 0, .int .i64 0] :: l) (fun w h => h) ?_
               refine JL.nil (JE.then_normal (J.seq (J.region (JL.step (y_move rfl) rfl rfl rfl (JL.step (y_len_slice hT rfl rfl rfl) rfl rfl rfl (JL.step (y_gtr rfl rfl) rfl rfl rfl ?_))))))
               refine JL.nil (JE.then_normal ?_)
               focus
                first | apply J.cond_dec rfl | apply J.cond rfl
                focus
                 intro h
                 try (first | (exfalso; omega) | (cases h; done) | (exfalso; simp at h; done) | subst h)
                 all_goals
                  refine J.region (JL.step (y_move rfl) rfl rfl rfl ?_)
                  refine JL.step (v := .slice (some ⟨bs, 2, none⟩) (ls.length + 1 - 2) (ls.length + 1 - 2)) (Y.cast (y_slice (b := bs) (off := 0) (lo := 2) (hi := ls.length + 1) hT rfl rfl rfl rfl (.inr ⟨_, _, _, rfl, rfl, rfl⟩) (.inl ⟨rfl, rfl⟩) (by omega) (Nat.le_refl _) (Nat.le_refl _) (.inl rfl)) (by rw [if_neg (by omega)]; rfl)) rfl rfl rfl ?_
                  refine JL.step (y_fieldAddr hT rfl rfl rfl rfl rfl rfl) rfl rfl rfl ?_
                  refine JL.loud rfl (l_store1 hT rfl rfl rfl rfl rfl (by (repeat (first | exact Pick.head | apply Pick.tail | apply Pick.app))) (by rw [rpE_length rfl]; decide) ?_)
                  refine JL.pre (l' := row b5 36 (rpE ⟨3, zer32, (splitW xs).drop 2, [], 0, 0, 0, 0, 0⟩ (.slice (some ⟨bs, 2, none⟩) (ls.length + 1 - 2) (ls.length + 1 - 2)) nilV) :: row bs 9 (strs (headW xs :: ls)) :: row bR 36 zcR :: row bS 30 [.int .i64 0, .int .i64 0] :: l) (fun w9 h => by
                   have h1 := h
                   erw [rp_set33 rfl] at h1
                   exact h1) ?_
                  refine JL.nil ?_
                rotate_right 1
                focus
                 intro h
                 try (first | (exfalso; omega) | (cases h; done) | (exfalso; simp at h; done) | subst h)
                 all_goals
                  refine J.skip ?_
             rotate_right 1
             focus
              intro h
              try (first | (exfalso; omega) | (cases h; done) | (exfalso; simp at h; done) | subst h)
              all_goals
               refine J.seq (J.region ?_)
               refine JL.step (y_eqS (xs := headW xs) (ys := wQueued) (b := decide (headW xs = wQueued)) hwB (Bys.all rfl) rfl (by rw [kwQueued]; rfl) rfl) rfl rfl rfl ?_
               refine JL.step (y_assign rfl) rfl rfl rfl ?_
               refine JL.nil (JE.then_normal ?_)
               focus
                first | apply J.cond_dec rfl | apply J.cond rfl
                focus
                 intro h
                 try (first | (exfalso; omega) | (cases h; done) | (exfalso; simp at h; done) | subst h)
                 all_goals
                  refine J.seq (J.region (JL.step (y_fieldAddr hT rfl rfl rfl rfl rfl rfl) rfl rfl rfl ?_))
                  refine JL.loud rfl (l_store1 hT rfl rfl rfl rfl rfl (by (repeat (first | exact Pick.head | apply Pick.tail | apply Pick.app))) (by rw [hz40]; decide) ?_)
                  refine JL.pre (l' := row b5 36 (rpE ⟨4, zer32, [], [], 0, 0, 0, 0, 0⟩ nilV nilV) :: row bs 9 (strs (headW xs :: ls)) :: row bR 36 zcR :: row bS 30 [.int .i64 0, .int .i64 0] :: l) (fun w h => h) ?_
                  refine JL.nil (JE.then_normal (J.seq (J.region (JL.step (y_move rfl) rfl rfl rfl (JL.step (y_len_slice hT rfl rfl rfl) rfl rfl rfl (JL.step (y_gtr rfl rfl) rfl rfl rfl ?_))))))
                  refine JL.nil (JE.then_normal ?_)
                  focus
                   first | apply J.cond_dec rfl | apply J.cond rfl
                   focus
                    intro h
                    try (first | (exfalso; omega) | (cases h; done) | (exfalso; simp at h; done) | subst h)
                    all_goals
                     obtain ⟨w, ls2, rfl⟩ := List.exists_cons_of_length_pos (l := ls) (by omega)
                     have hB_w := hsB w (by rw [hls]; simp)
                     have hL_w := hsL w (by rw [hls]; simp)
                     refine J.region (JL.step (y_move rfl) rfl rfl rfl ?_)
                     refine JL.step (y_indexAddr_slice hT rfl rfl rfl rfl rfl (by (first | omega | exact Nat.le_of_ble_eq_true rfl | decide | (simp; omega))) (by (first | omega | exact Nat.le_of_ble_eq_true rfl | decide | (simp; omega)))) rfl rfl rfl ?_
                     refine JL.step (y_load1 hT rfl rfl rfl (Rd1.row (v := .string (strOf w)) (by (repeat (first | exact Pick.head | apply Pick.tail | apply Pick.app))) rfl)) rfl rfl rfl ?_
                     refine JL.loud rfl (l_callF e44 rfl rfl (rnumber_spec E w _ hB_w (by omega)) ?_)
                     rintro _ _ ⟨z, rfl, hzb, hz, rfl⟩
                     refine JL.step (y_move rfl) rfl rfl rfl (JL.step (y_extract rfl rfl) rfl rfl rfl (JL.step (y_extract rfl rfl) rfl rfl rfl (JL.step (y_fieldAddr hT rfl rfl rfl rfl rfl rfl) rfl rfl rfl ?_)))
                     refine JL.loud rfl (l_store1 hT rfl rfl rfl rfl rfl (by (repeat (first | exact Pick.head | apply Pick.tail | apply Pick.app))) (by rw [rpE_length rfl]; decide) ?_)
                     refine JL.pre (l' := row b5 36 (rpE ⟨4, zer32, [], [], z, 0, 0, 0, 0⟩ nilV nilV) :: row bs 9 (strs (headW xs :: w :: ls2)) :: row bR 36 zcR :: row bS 30 [.int .i64 0, .int .i64 0] :: l) (fun w9 h => by
                      have h1 := h
                      erw [rp_seq rfl] at h1
                      exact h1) ?_
                     refine JL.nil ?_
                   rotate_right 1
                   focus
                    intro h
                    try (first | (exfalso; omega) | (cases h; done) | (exfalso; simp at h; done) | subst h)
                    all_goals
                     refine J.skip ?_
                rotate_right 1
                focus
                 intro h
                 try (first | (exfalso; omega) | (cases h; done) | (exfalso; simp at h; done) | subst h)
                 all_goals
                  refine J.seq (J.region ?_)
                  refine JL.step (y_eqS (xs := headW xs) (ys := wInbox) (b := decide (headW xs = wInbox)) hwB (Bys.all rfl) rfl (by rw [kwInbox]; rfl) rfl) rfl rfl rfl ?_
                  refine JL.step (y_assign rfl) rfl rfl rfl ?_
                  refine JL.nil (JE.then_normal ?_)
                  focus
                   first | apply J.cond_dec rfl | apply J.cond rfl
                   focus
                    intro h
                    try (first | (exfalso; omega) | (cases h; done) | (exfalso; simp at h; done) | subst h)
                    all_goals
                     refine J.seq (J.region (JL.step (y_fieldAddr hT rfl rfl rfl rfl rfl rfl) rfl rfl rfl ?_))
                     refine JL.loud rfl (l_store1 hT rfl rfl rfl rfl rfl (by (repeat (first | exact Pick.head | apply Pick.tail | apply Pick.app))) (by rw [hz40]; decide) ?_)
                     refine JL.pre (l' := row b5 36 (rpE ⟨5, zer32, [], [], 0, 0, 0, 0, 0⟩ nilV nilV) :: row bs 9 (strs (headW xs :: ls)) :: row bR 36 zcR :: row bS 30 [.int .i64 0, .int .i64 0] :: l) (fun w h => h) ?_
                     refine JL.nil (JE.then_normal (J.seq (J.region (JL.step (y_move rfl) rfl rfl rfl (JL.step (y_len_slice hT rfl rfl rfl) rfl rfl rfl (JL.step (y_gtr rfl rfl) rfl rfl rfl ?_))))))
                     refine JL.nil (JE.then_normal ?_)
                     focus
                      first | apply J.cond_dec rfl | apply J.cond rfl
                      focus
                       intro h
                       try (first | (exfalso; omega) | (cases h; done) | (exfalso; simp at h; done) | subst h)
                       all_goals
                        obtain ⟨w, ls2, rfl⟩ := List.exists_cons_of_length_pos (l := ls) (by omega)
                        have hB_w := hsB w (by rw [hls]; simp)
                        have hL_w := hsL w (by rw [hls]; simp)
                        have hsl := split_len hls
                        have h5 : (headW xs).length = 5 := by
                         have h9 : headW xs = wInbox := by assumption
                         rw [h9]; rfl
                        refine J.region (JL.step (y_move rfl) rfl rfl rfl (JL.step (y_move rfl) rfl rfl rfl ?_))
                        refine JL.step (y_indexAddr_slice hT rfl rfl rfl rfl rfl (by (first | omega | exact Nat.le_of_ble_eq_true rfl | decide | (simp; omega))) (by (first | omega | exact Nat.le_of_ble_eq_true rfl | decide | (simp; omega)))) rfl rfl rfl ?_
                        refine JL.step (y_load1 hT rfl rfl rfl (Rd1.row (v := .string (strOf w)) (by (repeat (first | exact Pick.head | apply Pick.tail | apply Pick.app))) rfl)) rfl rfl rfl ?_
                        refine JL.step (y_lenS hT rfl rfl rfl) rfl rfl rfl ?_
                        refine JL.step (y_add (m := ((6 + w.length : Nat) : Int)) rfl rfl (by rw [IntKind.wrap_i64]; omega)) rfl rfl rfl ?_
                        refine JL.step (y_cutS (lo := 6 + w.length) (hi := xs.length) hT hB rfl rfl rfl (.inr ⟨_, _, _, rfl, rfl, rfl⟩) (.inl ⟨rfl, rfl⟩) (by omega) (Nat.le_refl _)) rfl rfl rfl ?_
                        rw [List.take_length]
                        refine JL.loud rfl (l_callF e59 rfl rfl (rtexts_spec E (xs.drop (6 + w.length)) _ (hB.drop _) (by rw [List.length_drop]; omega)) ?_)
                        rintro _ _ ⟨ts, a9, c9, ok9, rfl, htl, hto, htu, rfl⟩
                        refine JL.step (y_move rfl) rfl rfl rfl (JL.step (y_extract rfl rfl) rfl rfl rfl (JL.step (y_extract rfl rfl) rfl rfl rfl (JL.step (y_fieldAddr hT rfl rfl rfl rfl rfl rfl) rfl rfl rfl ?_)))
                        refine JL.loud rfl (l_store1 hT rfl rfl rfl rfl rfl (Pick.tail Pick.head) (by rw [rpE_length rfl]; decide) ?_)
                        refine JL.pre (l' := ownS a9 c9 ts :: row b5 36 (rpE ⟨5, zer32, [], ts, 0, 0, 0, 0, 0⟩ nilV (.slice a9 ts.length c9)) :: row bs 9 (strs (headW xs :: w :: ls2)) :: row bR 36 zcR :: row bS 30 [.int .i64 0, .int .i64 0] :: l) (fun w9 h => by
                         have h1 := h
                         erw [rp_set34 rfl] at h1
                         exact h1.sup (by (repeat (first | exact Sup.refl | apply Sup.cons (by (repeat (first | exact Pick.head | apply Pick.tail | apply Pick.app))) | apply Sup.app | apply Sup.skip | apply Sup.skips)))) ?_
                        refine JL.nil ?_
                      rotate_right 1
                      focus
                       intro h
                       try (first | (exfalso; omega) | (cases h; done) | (exfalso; simp at h; done) | subst h)
                       all_goals
                        refine J.skip ?_
                   rotate_right 1
                   focus
                    intro h
                    try (first | (exfalso; omega) | (cases h; done) | (exfalso; simp at h; done) | subst h)
                    all_goals
                     refine J.seq (J.region ?_)
                     refine JL.step (y_eqS (xs := headW xs) (ys := wStatus) (b := decide (headW xs = wStatus)) hwB (Bys.all rfl) rfl (by rw [kwStatus]; rfl) rfl) rfl rfl rfl ?_
                     refine JL.step (y_assign rfl) rfl rfl rfl ?_
                     refine JL.nil (JE.then_normal ?_)
                     focus
                      first | apply J.cond_dec rfl | apply J.cond rfl
                      focus
                       intro h
                       try (first | (exfalso; omega) | (cases h; done) | (exfalso; simp at h; done) | subst h)
                       all_goals
                        refine J.seq (J.region (JL.step (y_fieldAddr hT rfl rfl rfl rfl rfl rfl) rfl rfl rfl ?_))
                        refine JL.loud rfl (l_store1 hT rfl rfl rfl rfl rfl (by (repeat (first | exact Pick.head | apply Pick.tail | apply Pick.app))) (by rw [hz40]; decide) ?_)
                        refine JL.pre (l' := row b5 36 (rpE ⟨7, zer32, [], [], 0, 0, 0, 0, 0⟩ nilV nilV) :: row bs 9 (strs (headW xs :: ls)) :: row bR 36 zcR :: row bS 30 [.int .i64 0, .int .i64 0] :: l) (fun w h => h) ?_
                        refine JL.nil (JE.then_normal (J.seq (J.region (JL.step (y_move rfl) rfl rfl rfl (JL.step (y_len_slice hT rfl rfl rfl) rfl rfl rfl (JL.step (y_gtr rfl rfl) rfl rfl rfl ?_))))))
                        refine JL.nil (JE.then_normal ?_)
                        focus
                         first | apply J.cond_dec rfl | apply J.cond rfl
                         focus
                          intro h
                          try (first | (exfalso; omega) | (cases h; done) | (exfalso; simp at h; done) | subst h)
                          all_goals
                           refine J.seq ?_
                           obtain ⟨w, ls2, rfl⟩ := List.exists_cons_of_length_pos (l := ls) (by omega)
                           rw [List.length_cons] at *
                           obtain ⟨w2, ls3, rfl⟩ := List.exists_cons_of_length_pos (l := ls2) (by omega)
                           rw [List.length_cons] at *
                           obtain ⟨w3, ls4, rfl⟩ := List.exists_cons_of_length_pos (l := ls3) (by omega)
                           have hB_w := hsB w (by rw [hls]; simp)
                           have hL_w := hsL w (by rw [hls]; simp)
                           have hB_w2 := hsB w2 (by rw [hls]; simp)
                           have hL_w2 := hsL w2 (by rw [hls]; simp)
                           have hB_w3 := hsB w3 (by rw [hls]; simp)
                           have hL_w3 := hsL w3 (by rw [hls]; simp)
                           refine J.region (JL.step (y_move rfl) rfl rfl rfl ?_)
                           refine JL.step (y_indexAddr_slice hT rfl rfl rfl rfl rfl (by (first | omega | exact Nat.le_of_ble_eq_true rfl | decide | (simp; omega))) (by (first | omega | exact Nat.le_of_ble_eq_true rfl | decide | (simp; omega)))) rfl rfl rfl ?_
                           refine JL.step (y_load1 hT rfl rfl rfl (Rd1.row (v := .string (strOf w)) (by (repeat (first | exact Pick.head | apply Pick.tail | apply Pick.app))) rfl)) rfl rfl rfl ?_
                           refine JL.loud rfl (l_callF e44 rfl rfl (rnumber_spec E w _ hB_w (by omega)) ?_)
                           rintro _ _ ⟨z1, rfl, hzb1, hz1, rfl⟩
                           refine JL.step (y_move rfl) rfl rfl rfl (JL.step (y_extract rfl rfl) rfl rfl rfl (JL.step (y_extract rfl rfl) rfl rfl rfl (JL.step (y_fieldAddr hT rfl rfl rfl rfl rfl rfl) rfl rfl rfl ?_)))
                           refine JL.loud rfl (l_store1 hT rfl rfl rfl rfl rfl (by (repeat (first | exact Pick.head | apply Pick.tail | apply Pick.app))) (by rw [rpE_length rfl]; decide) ?_)
                           refine JL.pre (l' := row b5 36 (rpE ⟨7, zer32, [], [], 0, z1, 0, 0, 0⟩ nilV nilV) :: row bs 9 (strs (headW xs :: w :: w2 :: w3 :: ls4)) :: row bR 36 zcR :: row bS 30 [.int .i64 0, .int .i64 0] :: l) (fun w9 h => by
                            have h1 := h
                            erw [rp_out rfl] at h1
                            exact h1) ?_
                           refine JL.nil (JE.then_normal (J.seq (J.region (JL.step (y_move rfl) rfl rfl rfl ?_))))
                           refine JL.step (y_indexAddr_slice hT rfl rfl rfl rfl rfl (by (first | omega | exact Nat.le_of_ble_eq_true rfl | decide | (simp; omega))) (by (first | omega | exact Nat.le_of_ble_eq_true rfl | decide | (simp; omega)))) rfl rfl rfl ?_
                           refine JL.step (y_load1 hT rfl rfl rfl (Rd1.row (v := .string (strOf w2)) (by (repeat (first | exact Pick.head | apply Pick.tail | apply Pick.app))) rfl)) rfl rfl rfl ?_
                           refine JL.loud rfl (l_callF e44 rfl rfl (rnumber_spec E w2 _ hB_w2 (by omega)) ?_)
                           rintro _ _ ⟨z2, rfl, hzb2, hz2, rfl⟩
                           refine JL.step (y_move rfl) rfl rfl rfl (JL.step (y_extract rfl rfl) rfl rfl rfl (JL.step (y_extract rfl rfl) rfl rfl rfl (JL.step (y_fieldAddr hT rfl rfl rfl rfl rfl rfl) rfl rfl rfl ?_)))
                           refine JL.loud rfl (l_store1 hT rfl rfl rfl rfl rfl (by (repeat (first | exact Pick.head | apply Pick.tail | apply Pick.app))) (by rw [rpE_length rfl]; decide) ?_)
                           refine JL.pre (l' := row b5 36 (rpE ⟨7, zer32, [], [], 0, z1, z2, 0, 0⟩ nilV nilV) :: row bs 9 (strs (headW xs :: w :: w2 :: w3 :: ls4)) :: row bR 36 zcR :: row bS 30 [.int .i64 0, .int .i64 0] :: l) (fun w9 h => by
                            have h1 := h
                            erw [rp_ack rfl] at h1
                            exact h1) ?_
                           refine JL.nil (JE.then_normal (J.region (JL.step (y_move rfl) rfl rfl rfl ?_)))
                           refine JL.step (y_indexAddr_slice hT rfl rfl rfl rfl rfl (by (first | omega | exact Nat.le_of_ble_eq_true rfl | decide | (simp; omega))) (by (first | omega | exact Nat.le_of_ble_eq_true rfl | decide | (simp; omega)))) rfl rfl rfl ?_
                           refine JL.step (y_load1 hT rfl rfl rfl (Rd1.row (v := .string (strOf w3)) (by (repeat (first | exact Pick.head | apply Pick.tail | apply Pick.app))) rfl)) rfl rfl rfl ?_
                           refine JL.loud rfl (l_callF e44 rfl rfl (rnumber_spec E w3 _ hB_w3 (by omega)) ?_)
                           rintro _ _ ⟨z3, rfl, hzb3, hz3, rfl⟩
                           refine JL.step (y_move rfl) rfl rfl rfl (JL.step (y_extract rfl rfl) rfl rfl rfl (JL.step (y_extract rfl rfl) rfl rfl rfl (JL.step (y_fieldAddr hT rfl rfl rfl rfl rfl rfl) rfl rfl rfl ?_)))
                           refine JL.loud rfl (l_store1 hT rfl rfl rfl rfl rfl (by (repeat (first | exact Pick.head | apply Pick.tail | apply Pick.app))) (by rw [rpE_length rfl]; decide) ?_)
                           refine JL.pre (l' := row b5 36 (rpE ⟨7, zer32, [], [], 0, z1, z2, z3, 0⟩ nilV nilV) :: row bs 9 (strs (headW xs :: w :: w2 :: w3 :: ls4)) :: row bR 36 zcR :: row bS 30 [.int .i64 0, .int .i64 0] :: l) (fun w9 h => by
                            have h1 := h
                            erw [rp_inn rfl] at h1
                            exact h1) ?_
                           refine JL.nil ?_
                         rotate_right 1
                         focus
                          intro h
                          try (first | (exfalso; omega) | (cases h; done) | (exfalso; simp at h; done) | subst h)
                          all_goals
                           refine J.skip ?_
                      rotate_right 1
                      focus
                       intro h
                       try (first | (exfalso; omega) | (cases h; done) | (exfalso; simp at h; done) | subst h)
                       all_goals
                        refine J.seq (J.region ?_)
                        refine JL.step (y_eqS (xs := headW xs) (ys := wError) (b := decide (headW xs = wError)) hwB (Bys.all rfl) rfl (by rw [kwError]; rfl) rfl) rfl rfl rfl ?_
                        refine JL.step (y_assign rfl) rfl rfl rfl ?_
                        refine JL.nil (JE.then_normal ?_)
                        focus
                         first | apply J.cond_dec rfl | apply J.cond rfl
                         focus
                          intro h
                          try (first | (exfalso; omega) | (cases h; done) | (exfalso; simp at h; done) | subst h)
                          all_goals
                           refine J.seq (J.region (JL.step (y_fieldAddr hT rfl rfl rfl rfl rfl rfl) rfl rfl rfl ?_))
                           refine JL.loud rfl (l_store1 hT rfl rfl rfl rfl rfl (by (repeat (first | exact Pick.head | apply Pick.tail | apply Pick.app))) (by rw [hz40]; decide) ?_)
                           refine JL.pre (l' := row b5 36 (rpE ⟨8, zer32, [], [], 0, 0, 0, 0, 0⟩ nilV nilV) :: row bs 9 (strs (headW xs :: ls)) :: row bR 36 zcR :: row bS 30 [.int .i64 0, .int .i64 0] :: l) (fun w h => h) ?_
                           refine JL.nil (JE.then_normal (J.seq (J.region (JL.step (y_move rfl) rfl rfl rfl (JL.step (y_len_slice hT rfl rfl rfl) rfl rfl rfl (JL.step (y_gtr rfl rfl) rfl rfl rfl ?_))))))
                           refine JL.nil (JE.then_normal ?_)
                           focus
                            first | apply J.cond_dec rfl | apply J.cond rfl
                            focus
                             intro h
                             try (first | (exfalso; omega) | (cases h; done) | (exfalso; simp at h; done) | subst h)
                             all_goals
                              obtain ⟨w, ls2, rfl⟩ := List.exists_cons_of_length_pos (l := ls) (by omega)
                              have hB_w := hsB w (by rw [hls]; simp)
                              have hL_w := hsL w (by rw [hls]; simp)
                              refine J.region (JL.step (y_move rfl) rfl rfl rfl ?_)
                              refine JL.step (y_indexAddr_slice hT rfl rfl rfl rfl rfl (by (first | omega | exact Nat.le_of_ble_eq_true rfl | decide | (simp; omega))) (by (first | omega | exact Nat.le_of_ble_eq_true rfl | decide | (simp; omega)))) rfl rfl rfl ?_
                              refine JL.step (y_load1 hT rfl rfl rfl (Rd1.row (v := .string (strOf w)) (by (repeat (first | exact Pick.head | apply Pick.tail | apply Pick.app))) rfl)) rfl rfl rfl ?_
                              refine JL.loud rfl (l_callF e24 rfl rfl (rnamed_spec E w _ hB_w) ?_)
                              rintro _ _ ⟨rfl, rfl⟩
                              refine JL.step (y_move rfl) rfl rfl rfl (JL.step (y_extract rfl rfl) rfl rfl rfl (JL.step (y_extract rfl rfl) rfl rfl rfl (JL.step (y_fieldAddr hT rfl rfl rfl rfl rfl rfl) rfl rfl rfl ?_)))
                              refine JL.loud rfl (l_store1 hT rfl rfl rfl rfl rfl (by (repeat (first | exact Pick.head | apply Pick.tail | apply Pick.app))) (by rw [rpE_length rfl]; decide) ?_)
                              refine JL.pre (l' := row b5 36 (rpE ⟨8, zer32, [], [], 0, 0, 0, 0, (namedF w).1⟩ nilV nilV) :: row bs 9 (strs (headW xs :: w :: ls2)) :: row bR 36 zcR :: row bS 30 [.int .i64 0, .int .i64 0] :: l) (fun w9 h => by
                               have h1 := h
                               erw [rp_err rfl] at h1
                               exact h1) ?_
                              refine JL.nil ?_
                            rotate_right 1
                            focus
                             intro h
                             try (first | (exfalso; omega) | (cases h; done) | (exfalso; simp at h; done) | subst h)
                             all_goals
                              refine J.skip ?_
                         rotate_right 1
                         focus
                          intro h
                          try (first | (exfalso; omega) | (cases h; done) | (exfalso; simp at h; done) | subst h)
                          all_goals
                           refine J.skip ?_
   all_goals refine JE.block_normal (JE.then_normal ?_)
   all_goals
    first
    | (have zz := hkl2
       have hw : headW xs = wMe := by assumption
       exact J.closeK hk36 (⟨1, keyL w, [], [], 0, 0, 0, 0, 0⟩, nilV, nilV, row bs 9 (strs (headW xs :: w :: ls2))) (LooseR.plain _ (by first | rfl | exact (keyL_ok _).1) (by first | exact zer32_bys | exact (keyL_ok _).2) rfl rfl (len_me hw (by rw [← hw]; exact hls))) ⟨rfl, rfl, rfl, rfl, trivial⟩ (fun w9 h => h.sup (by (repeat (first | exact Sup.refl | apply Sup.cons (by (repeat (first | exact Pick.head | apply Pick.tail | apply Pick.app))) | apply Sup.app | apply Sup.skip | apply Sup.skips)))))
    | (have hw : headW xs = wMe := by assumption
       exact J.closeK hk36 (⟨1, zer32, [], [], 0, 0, 0, 0, 0⟩, nilV, nilV, row bs 9 (strs (headW xs :: ls))) (LooseR.plain _ (by first | rfl | exact (keyL_ok _).1) (by first | exact zer32_bys | exact (keyL_ok _).2) rfl rfl (len_me0 hw (by rw [hls, List.length_cons]; omega))) ⟨rfl, rfl, rfl, rfl, trivial⟩ (fun w9 h => h.sup (by (repeat (first | exact Sup.refl | apply Sup.cons (by (repeat (first | exact Pick.head | apply Pick.tail | apply Pick.app))) | apply Sup.app | apply Sup.skip | apply Sup.skips)))))
    | (have hw : headW xs = wAdded := by assumption
       exact J.closeK hk36 (⟨2, zer32, [], [], 0, 0, 0, 0, 0⟩, nilV, nilV, row bs 9 (strs (headW xs :: ls))) (LooseR.plain _ (by first | rfl | exact (keyL_ok _).1) (by first | exact zer32_bys | exact (keyL_ok _).2) rfl rfl (len_added hw)) ⟨rfl, rfl, rfl, rfl, trivial⟩ (fun w9 h => h.sup (by (repeat (first | exact Sup.refl | apply Sup.cons (by (repeat (first | exact Pick.head | apply Pick.tail | apply Pick.app))) | apply Sup.app | apply Sup.skip | apply Sup.skips)))))
    | (have hw : headW xs = wPurged := by assumption
       exact J.closeK hk36 (⟨6, zer32, [], [], 0, 0, 0, 0, 0⟩, nilV, nilV, row bs 9 (strs (headW xs :: ls))) (LooseR.plain _ (by first | rfl | exact (keyL_ok _).1) (by first | exact zer32_bys | exact (keyL_ok _).2) rfl rfl (len_purged hw)) ⟨rfl, rfl, rfl, rfl, trivial⟩ (fun w9 h => h.sup (by (repeat (first | exact Sup.refl | apply Sup.cons (by (repeat (first | exact Pick.head | apply Pick.tail | apply Pick.app))) | apply Sup.app | apply Sup.skip | apply Sup.skips)))))
    | (have hw : headW xs = wContacts := by assumption
       have hg : 1 < ls.length := by omega
       exact J.closeK hk36 (⟨3, zer32, (splitW xs).drop 2, [], 0, 0, 0, 0, 0⟩, .slice (some ⟨bs, 2, none⟩) (ls.length + 1 - 2) (ls.length + 1 - 2), nilV, row bs 9 (strs (headW xs :: ls))) (by
        have hd : (splitW xs).drop 2 = ls.drop 1 := by rw [hls]; rfl
        have hdl : (ls.drop 1).length = ls.length + 1 - 2 := by rw [List.length_drop]; omega
        refine ⟨⟨rfl, zer32_bys, ?_, Nat.zero_le _, ?_, (fun t q => (by cases q))⟩, len_contacts hw, some ⟨bs, 2, none⟩, ls.length + 1 - 2, none, 0, ?_, rfl, ?_, SlK.nil _⟩
        · dsimp only
          rw [hd, hdl]
          rw [hls, List.length_cons] at hcnt
          omega
        · intro t ht
          dsimp only at ht
          have hm : t ∈ splitW xs := List.mem_of_mem_drop ht
          exact ⟨hsB t hm, by have := hsL t hm; omega⟩
        · dsimp only
          rw [hd, hdl]
        · dsimp only
          rw [hd]
          rw [hls, List.length_cons] at hcnt
          refine ⟨by rw [hdl]; exact Nat.le_refl _, by unfold maxLen; omega, .inr (.inl ⟨bs, 2, _, rfl, rfl, ?_⟩)⟩
          rw [hdl]
          show ((strs (headW xs :: ls)).drop 2).take _ = _
          have : (strs (headW xs :: ls)).drop 2 = strs (ls.drop 1) := by unfold strs; rw [List.map_cons, List.drop_succ_cons, List.map_drop]
          rw [this, List.take_of_length_le (by rw [strs_length, hdl]; exact Nat.le_refl _)]) ⟨rfl, rfl, rfl, rfl, trivial⟩ (fun w9 h => h.sup (by (repeat (first | exact Sup.refl | apply Sup.cons (by (repeat (first | exact Pick.head | apply Pick.tail | apply Pick.app))) | apply Sup.app | apply Sup.skip | apply Sup.skips)))))
    | (have hw : headW xs = wContacts := by assumption
       have hd : (splitW xs).drop 2 = [] := by rw [hls]; exact List.drop_eq_nil_of_le (by rw [List.length_cons]; omega)
       have hlc := len_contacts hw
       rw [hd] at hlc
       exact J.closeK hk36 (⟨3, zer32, [], [], 0, 0, 0, 0, 0⟩, nilV, nilV, row bs 9 (strs (headW xs :: ls))) (LooseR.plain _ (by first | rfl | exact (keyL_ok _).1) (by first | exact zer32_bys | exact (keyL_ok _).2) rfl rfl (hlc)) ⟨rfl, rfl, rfl, rfl, trivial⟩ (fun w9 h => h.sup (by (repeat (first | exact Sup.refl | apply Sup.cons (by (repeat (first | exact Pick.head | apply Pick.tail | apply Pick.app))) | apply Sup.app | apply Sup.skip | apply Sup.skips)))))
    | (have zz := hz
       have hw : headW xs = wQueued := by assumption
       exact J.closeK hk36 (⟨4, zer32, [], [], (z : Int), 0, 0, 0, 0⟩, nilV, nilV, row bs 9 (strs (headW xs :: w :: ls2))) (LooseR.plain _ (by first | rfl | exact (keyL_ok _).1) (by first | exact zer32_bys | exact (keyL_ok _).2) rfl rfl (len_queued hw (by rw [← hw]; exact hls) hz)) ⟨rfl, rfl, rfl, rfl, trivial⟩ (fun w9 h => h.sup (by (repeat (first | exact Sup.refl | apply Sup.cons (by (repeat (first | exact Pick.head | apply Pick.tail | apply Pick.app))) | apply Sup.app | apply Sup.skip | apply Sup.skips)))))
    | (have hw : headW xs = wQueued := by assumption
       exact J.closeK hk36 (⟨4, zer32, [], [], 0, 0, 0, 0, 0⟩, nilV, nilV, row bs 9 (strs (headW xs :: ls))) (LooseR.plain _ (by first | rfl | exact (keyL_ok _).1) (by first | exact zer32_bys | exact (keyL_ok _).2) rfl rfl (len_queued0 hw (by rw [hls, List.length_cons]; omega))) ⟨rfl, rfl, rfl, rfl, trivial⟩ (fun w9 h => h.sup (by (repeat (first | exact Sup.refl | apply Sup.cons (by (repeat (first | exact Pick.head | apply Pick.tail | apply Pick.app))) | apply Sup.app | apply Sup.skip | apply Sup.skips)))))
    | (have zz := htu
       have hw : headW xs = wInbox := by assumption
       refine J.fact (fun w s => Sat.own_at s) fun oo9 => ?_
       exact J.closeK hk36 (⟨5, zer32, [], ts, 0, 0, 0, 0, 0⟩, nilV, .slice a9 ts.length c9, ownS a9 c9 ts) (by
        have hdl : (xs.drop (6 + w.length)).length ≤ 640 := by rw [List.length_drop]; omega
        refine ⟨⟨rfl, zer32_bys, Nat.zero_le _, by dsimp only; omega, (fun t q => (by cases q)), fun t ht => ?_⟩, len_inbox hw (by rw [← hw]; exact hls) htu, none, 0, a9, c9, rfl, rfl, SlK.nil _, ?_⟩
        · have := hto t ht
          exact ⟨this.1, by omega⟩
        · exact ⟨oo9.le, oo9.most, .inr (.inr ⟨rfl, oo9⟩)⟩) ⟨rfl, rfl, rfl, rfl, trivial⟩ (fun w9 h => h.sup (by (repeat (first | exact Sup.refl | apply Sup.cons (by (repeat (first | exact Pick.head | apply Pick.tail | apply Pick.app))) | apply Sup.app | apply Sup.skip | apply Sup.skips)))))
    | (have hw : headW xs = wInbox := by assumption
       exact J.closeK hk36 (⟨5, zer32, [], [], 0, 0, 0, 0, 0⟩, nilV, nilV, row bs 9 (strs (headW xs :: ls))) (LooseR.plain _ (by first | rfl | exact (keyL_ok _).1) (by first | exact zer32_bys | exact (keyL_ok _).2) rfl rfl (len_inbox0 hw (by rw [hls, List.length_cons]; omega))) ⟨rfl, rfl, rfl, rfl, trivial⟩ (fun w9 h => h.sup (by (repeat (first | exact Sup.refl | apply Sup.cons (by (repeat (first | exact Pick.head | apply Pick.tail | apply Pick.app))) | apply Sup.app | apply Sup.skip | apply Sup.skips)))))
    | (have zz := hz3
       have hw : headW xs = wStatus := by assumption
       exact J.closeK hk36 (⟨7, zer32, [], [], 0, (z1 : Int), (z2 : Int), (z3 : Int), 0⟩, nilV, nilV, row bs 9 (strs (headW xs :: w :: w2 :: w3 :: ls4))) (LooseR.plain _ (by first | rfl | exact (keyL_ok _).1) (by first | exact zer32_bys | exact (keyL_ok _).2) rfl rfl (len_status hw (by rw [← hw]; exact hls) hz1 hz2 hz3)) ⟨rfl, rfl, rfl, rfl, trivial⟩ (fun w9 h => h.sup (by (repeat (first | exact Sup.refl | apply Sup.cons (by (repeat (first | exact Pick.head | apply Pick.tail | apply Pick.app))) | apply Sup.app | apply Sup.skip | apply Sup.skips)))))
    | (have hw : headW xs = wStatus := by assumption
       exact J.closeK hk36 (⟨7, zer32, [], [], 0, 0, 0, 0, 0⟩, nilV, nilV, row bs 9 (strs (headW xs :: ls))) (LooseR.plain _ (by first | rfl | exact (keyL_ok _).1) (by first | exact zer32_bys | exact (keyL_ok _).2) rfl rfl (len_status0 hw (by rw [hls, List.length_cons]; omega))) ⟨rfl, rfl, rfl, rfl, trivial⟩ (fun w9 h => h.sup (by (repeat (first | exact Sup.refl | apply Sup.cons (by (repeat (first | exact Pick.head | apply Pick.tail | apply Pick.app))) | apply Sup.app | apply Sup.skip | apply Sup.skips)))))
    | (have zz := hB_w
       have hw : headW xs = wError := by assumption
       exact J.closeK hk36 (⟨8, zer32, [], [], 0, 0, 0, 0, (namedF w).1⟩, nilV, nilV, row bs 9 (strs (headW xs :: w :: ls2))) (LooseR.plain _ (by first | rfl | exact (keyL_ok _).1) (by first | exact zer32_bys | exact (keyL_ok _).2) rfl rfl (len_error hw (by rw [← hw]; exact hls))) ⟨rfl, rfl, rfl, rfl, trivial⟩ (fun w9 h => h.sup (by (repeat (first | exact Sup.refl | apply Sup.cons (by (repeat (first | exact Pick.head | apply Pick.tail | apply Pick.app))) | apply Sup.app | apply Sup.skip | apply Sup.skips)))))
    | (have hw : headW xs = wError := by assumption
       exact J.closeK hk36 (⟨8, zer32, [], [], 0, 0, 0, 0, 0⟩, nilV, nilV, row bs 9 (strs (headW xs :: ls))) (LooseR.plain _ (by first | rfl | exact (keyL_ok _).1) (by first | exact zer32_bys | exact (keyL_ok _).2) rfl rfl (len_error0 hw (by rw [hls, List.length_cons]; omega))) ⟨rfl, rfl, rfl, rfl, trivial⟩ (fun w9 h => h.sup (by (repeat (first | exact Sup.refl | apply Sup.cons (by (repeat (first | exact Pick.head | apply Pick.tail | apply Pick.app))) | apply Sup.app | apply Sup.skip | apply Sup.skips)))))
    | exact J.closeK hk36 (rp0, nilV, nilV, row bs 9 (strs (headW xs :: ls))) (LooseR.plain _ (by first | rfl | exact (keyL_ok _).1) (by first | exact zer32_bys | exact (keyL_ok _).2) rfl rfl (len_other (by assumption) (by assumption) (by assumption) (by assumption) (by assumption) (by assumption) (by assumption) (by assumption))) ⟨rfl, rfl, rfl, rfl, trivial⟩ (fun w9 h => h.sup (by (repeat (first | exact Sup.refl | apply Sup.cons (by (repeat (first | exact Pick.head | apply Pick.tail | apply Pick.app))) | apply Sup.app | apply Sup.skip | apply Sup.skips))))
  rintro ⟨r, A, B, K⟩ ⟨hW, hL, p1, c1, p2, c2, hA, hBB, hs1, hs2⟩
  dsimp only at hW hL hA hBB hs1 hs2 ⊢
  subst hA hBB
  have hlx : xs.length ≤ 640 := by omega
  obtain ⟨cs, hcs⟩ : ∃ cs, rpE r (.slice p1 r.names.length c1) (.slice p2 r.texts.length c2) = cs := ⟨_, rfl⟩
  have hcl : cs.length = i36.size := by rw [← hcs]; exact rpE_length hW.key _ _
  have hone : ∀ v ∈ cs, v.oneCell' = true := by rw [← hcs]; exact rpE_one r rfl rfl
  obtain ⟨br, hbr⟩ : ∃ b, rightB r = b := ⟨_, rfl⟩
  obtain ⟨bl, hbl⟩ : ∃ b, b = decide (lineR r ≠ xs) := ⟨_, rfl⟩
  rw [hcs]
  refine J.seq (J.seq ?_)
  rcases br with _ | _
  rotate_left
  have hRB := right_b hW.key hW.kb hbr
  have hlB : Bys (lineR r) := joinW_bys fun w hw => ((printW_each hRB).2 w hw).2
  rotate_left
  all_goals
   refine J.region ?_
   all_goals refine JL.step (y_loadN hT rfl rfl rfl (RdN.rowAll (by (repeat (first | exact Pick.head | apply Pick.tail | apply Pick.app)))) hcl) rfl rfl rfl ?_
   refine JL.loud rfl (l_callF e19 rfl rfl (hbr ▸ hcs ▸ rright_spec E r p1 c1 p2 c2 _ hW (hs1.inl.kept (Pick.tail Pick.head)) (hs2.inl.kept (Pick.tail Pick.head))) ?_)
   rintro _ _ ⟨rfl, rfl⟩
   refine JL.step (y_not rfl) rfl rfl rfl (JL.step (y_move rfl) rfl rfl rfl ?_)
   all_goals (first | (refine JL.gsplit_dec rfl rfl rfl (fun h => ?_) (fun h => ?_) <;> try (first | (exfalso; omega) | exact absurd rfl h)) | (refine JL.gsplit rfl rfl rfl (fun h => ?_) (fun h => ?_) <;> try (first | cases h | (exfalso; simp at h; done))) | skip)
   all_goals (first | refine JL.gskip rfl rfl rfl rfl rfl rfl ?_ | refine JL.gskipU rfl rfl rfl rfl rfl ?_ | refine JL.gstep rfl rfl rfl (y_loadN hT rfl rfl rfl (RdN.rowAll (by (repeat (first | exact Pick.head | apply Pick.tail | apply Pick.app)))) hcl) rfl rfl ?_)
   all_goals (first | refine JL.gskip rfl rfl rfl rfl rfl rfl ?_ | refine JL.gskipU rfl rfl rfl rfl rfl ?_ | (refine JL.gloud rfl rfl rfl (l_callF e20 rfl rfl (hcs ▸ rprintR_spec E r p1 c1 p2 c2 _ hRB hbr (hs1.inl.kept (Pick.tail Pick.head)) (hs2.inl.kept (Pick.tail Pick.head))) ?_); rintro _ _ ⟨rfl, rfl⟩))
   all_goals (first | refine JL.gskip rfl rfl rfl rfl rfl rfl ?_ | refine JL.gskipU rfl rfl rfl rfl rfl ?_ | refine JL.gstep rfl rfl rfl (y_move rfl) rfl rfl ?_)
   all_goals (first | refine JL.gskip rfl rfl rfl rfl rfl rfl ?_ | refine JL.gskipU rfl rfl rfl rfl rfl ?_ | refine JL.gstep rfl rfl rfl (y_neS hlB hB rfl rfl hbl) rfl rfl ?_)
   all_goals (refine JL.step (y_pick rfl rfl rfl) rfl rfl rfl ?_)
   all_goals refine JL.nil ?_
  all_goals refine JE.then_normal ?_
  all_goals
   focus
    first | apply J.cond_dec rfl | apply J.cond rfl
    focus
     intro h
     try (first | (exfalso; omega) | (cases h; done) | (exfalso; simp at h; done) | subst h)
     all_goals
      refine J.seq (J.region (JL.step (y_build (cs := [_, _, _, _, _, _, _, _, _, _, _, _, _, _, _, _, _, _, _, _, _, _, _, _, _, _, _, _, _, _, _, _, _, _, _, _, _, _, _, _]) hT rfl rfl rfl rfl rfl rfl trivial rfl) rfl rfl rfl ?_))
      refine JL.step (y_build (cs := [_, _]) hT rfl rfl rfl rfl rfl rfl ⟨⟨(by (first | rfl | assumption | (simp; done) | omega)), Nat.le_of_ble_eq_true rfl⟩, trivial⟩ rfl) rfl rfl rfl ?_
      refine JL.loud rfl (l_storeAll hT rfl rfl rfl (by (first | rfl | assumption | (simp; done) | omega)) (by (first | assumption | exact ones_of rfl | exact encW_one _ | exact encB_one _ | (intro u hu; simp at hu; rcases hu with rfl | rfl <;> rfl) | (intro u hu; simp at hu; subst hu; rfl) | simp)) (by (repeat (first | exact Pick.head | apply Pick.tail | apply Pick.app))) (by (first | rfl | assumption | (simp; done) | omega)) ?_)
      refine JL.loud rfl (l_storeAll hT rfl rfl rfl (by (first | rfl | assumption | (simp; done) | omega)) (by (first | assumption | exact ones_of rfl | exact encW_one _ | exact encB_one _ | (intro u hu; simp at hu; rcases hu with rfl | rfl <;> rfl) | (intro u hu; simp at hu; subst hu; rfl) | simp)) (by (repeat (first | exact Pick.head | apply Pick.tail | apply Pick.app))) (by (first | rfl | assumption | (simp; done) | omega)) ?_)
      refine JL.nil (JE.then_normal (J.ret (JE.then_ret ?_)))
      refine JE.ret2 (.inl rfl) rfl rfl (by (first | exact RV.tmp rfl | exact RV.cell1 hT rfl rfl rfl (by (exact Rd1.row (by (repeat (first | exact Pick.head | apply Pick.tail | apply Pick.app))) (by rfl))) | exact RV.cellN hT rfl rfl rfl (by (first | exact RdN.rowAll (by (repeat (first | exact Pick.head | apply Pick.tail | apply Pick.app))) | exact RdN.own (by (repeat (first | exact Pick.head | apply Pick.tail | apply Pick.app))))) (by (first | rfl | assumption | (simp; done) | omega)))) (by (first | exact RV.tmp rfl | exact RV.cell1 hT rfl rfl rfl (by (exact Rd1.row (by (repeat (first | exact Pick.head | apply Pick.tail | apply Pick.app))) (by rfl))) | exact RV.cellN hT rfl rfl rfl (by (first | exact RdN.rowAll (by (repeat (first | exact Pick.head | apply Pick.tail | apply Pick.app))) | exact RdN.own (by (repeat (first | exact Pick.head | apply Pick.tail | apply Pick.app))))) (by (first | rfl | assumption | (simp; done) | omega)))) ?_
      first
      | (have zz : 640 < xs.length := by omega
         have h1 : repR xs = rp0 := by unfold repR repF; rw [if_pos zz]; rfl
         have h2 : repS xs = (3, 640) := by unfold repS; rw [if_pos zz]
         rw [h1, h2]
         exact ⟨pur True :: l, fun w h => Sat.topur trivial (h.sup (by (repeat (first | exact Sup.refl | apply Sup.cons (by (repeat (first | exact Pick.head | apply Pick.tail | apply Pick.app))) | apply Sup.app | apply Sup.skip | apply Sup.skips)))), _, pur True, RepQ.zero _, rfl, rfl⟩)
      | (have zz : rightB r = false := hbr
         have hn := hL.bad (.inl zz)
         have h1 : repR xs = rp0 := by unfold repR; rw [hn]; rfl
         have h2 : repS xs = (340, 0) := by unfold repS; rw [if_neg (by omega), hn]; rfl
         rw [h1, h2]
         exact ⟨pur True :: l, fun w h => Sat.topur trivial (h.sup (by (repeat (first | exact Sup.refl | apply Sup.cons (by (repeat (first | exact Pick.head | apply Pick.tail | apply Pick.app))) | apply Sup.app | apply Sup.skip | apply Sup.skips)))), _, pur True, RepQ.zero _, rfl, rfl⟩)
      | (have zz : true = decide (lineR r ≠ xs) := hbl
         have hn := hL.bad (.inr (of_decide_eq_true zz.symm))
         have h1 : repR xs = rp0 := by unfold repR; rw [hn]; rfl
         have h2 : repS xs = (340, 0) := by unfold repS; rw [if_neg (by omega), hn]; rfl
         rw [h1, h2]
         exact ⟨pur True :: l, fun w h => Sat.topur trivial (h.sup (by (repeat (first | exact Sup.refl | apply Sup.cons (by (repeat (first | exact Pick.head | apply Pick.tail | apply Pick.app))) | apply Sup.app | apply Sup.skip | apply Sup.skips)))), _, pur True, RepQ.zero _, rfl, rfl⟩)
      | (have zz : false = decide (lineR r ≠ xs) := hbl
         have he : lineR r = xs := Decidable.of_not_not (of_decide_eq_false zz.symm)
         have hf : repF xs = some r := by rw [← he]; exact repF_right hW.key hW.kb hbr
         have h1 : repR xs = r := by unfold repR; rw [hf]; rfl
         have h2 : repS xs = (0, 0) := by unfold repS; rw [if_neg (by omega), hf]; rfl
         rw [h1, h2]
         exact ⟨K :: l, fun w h => h.sup (by (repeat (first | exact Sup.refl | apply Sup.cons (by (repeat (first | exact Pick.head | apply Pick.tail | apply Pick.app))) | apply Sup.app | apply Sup.skip | apply Sup.skips))), cs, K, ⟨p1, c1, p2, c2, right_ok hRB hbr, hs1, hs2, hcs.symm⟩, rfl, rfl⟩)
    rotate_right 1
    focus
     intro h
     try (first | (exfalso; omega) | (cases h; done) | (exfalso; simp at h; done) | subst h)
     all_goals
      refine J.skip ?_
  all_goals refine JE.then_normal ?_
  all_goals
   refine J.seq (J.region ?_)
   refine JL.step (y_loadN hT rfl rfl rfl (RdN.rowAll (by (repeat (first | exact Pick.head | apply Pick.tail | apply Pick.app)))) hcl) rfl rfl rfl ?_
   refine JL.step (y_build (cs := [_, _]) hT rfl rfl rfl rfl rfl rfl trivial rfl) rfl rfl rfl ?_
   refine JL.loud rfl (l_storeAll hT rfl rfl rfl hcl hone (Pick.tail (Pick.tail Pick.head)) (by (first | rfl | assumption | (simp; done) | omega)) ?_)
   refine JL.loud rfl (l_storeAll hT rfl rfl rfl (by (first | rfl | assumption | (simp; done) | omega)) (by (first | assumption | exact ones_of rfl | exact encW_one _ | exact encB_one _ | (intro u hu; simp at hu; rcases hu with rfl | rfl <;> rfl) | (intro u hu; simp at hu; subst hu; rfl) | simp)) (by (repeat (first | exact Pick.head | apply Pick.tail | apply Pick.app))) (by (first | rfl | assumption | (simp; done) | omega)) ?_)
   refine JL.nil (JE.then_normal (J.ret ?_))
   refine JE.ret2 (.inl rfl) rfl rfl (by (first | exact RV.tmp rfl | exact RV.cell1 hT rfl rfl rfl (by (exact Rd1.row (by (repeat (first | exact Pick.head | apply Pick.tail | apply Pick.app))) (by rfl))) | exact RV.cellN hT rfl rfl rfl (by (first | exact RdN.rowAll (by (repeat (first | exact Pick.head | apply Pick.tail | apply Pick.app))) | exact RdN.own (by (repeat (first | exact Pick.head | apply Pick.tail | apply Pick.app))))) (by (first | rfl | assumption | (simp; done) | omega)))) (by (first | exact RV.tmp rfl | exact RV.cell1 hT rfl rfl rfl (by (exact Rd1.row (by (repeat (first | exact Pick.head | apply Pick.tail | apply Pick.app))) (by rfl))) | exact RV.cellN hT rfl rfl rfl (by (first | exact RdN.rowAll (by (repeat (first | exact Pick.head | apply Pick.tail | apply Pick.app))) | exact RdN.own (by (repeat (first | exact Pick.head | apply Pick.tail | apply Pick.app))))) (by (first | rfl | assumption | (simp; done) | omega)))) ?_
   first
   | (have zz : 640 < xs.length := by omega
      have h1 : repR xs = rp0 := by unfold repR repF; rw [if_pos zz]; rfl
      have h2 : repS xs = (3, 640) := by unfold repS; rw [if_pos zz]
      rw [h1, h2]
      exact ⟨pur True :: l, fun w h => Sat.topur trivial (h.sup (by (repeat (first | exact Sup.refl | apply Sup.cons (by (repeat (first | exact Pick.head | apply Pick.tail | apply Pick.app))) | apply Sup.app | apply Sup.skip | apply Sup.skips)))), _, pur True, RepQ.zero _, rfl, rfl⟩)
   | (have zz : rightB r = false := hbr
      have hn := hL.bad (.inl zz)
      have h1 : repR xs = rp0 := by unfold repR; rw [hn]; rfl
      have h2 : repS xs = (340, 0) := by unfold repS; rw [if_neg (by omega), hn]; rfl
      rw [h1, h2]
      exact ⟨pur True :: l, fun w h => Sat.topur trivial (h.sup (by (repeat (first | exact Sup.refl | apply Sup.cons (by (repeat (first | exact Pick.head | apply Pick.tail | apply Pick.app))) | apply Sup.app | apply Sup.skip | apply Sup.skips)))), _, pur True, RepQ.zero _, rfl, rfl⟩)
   | (have zz : true = decide (lineR r ≠ xs) := hbl
      have hn := hL.bad (.inr (of_decide_eq_true zz.symm))
      have h1 : repR xs = rp0 := by unfold repR; rw [hn]; rfl
      have h2 : repS xs = (340, 0) := by unfold repS; rw [if_neg (by omega), hn]; rfl
      rw [h1, h2]
      exact ⟨pur True :: l, fun w h => Sat.topur trivial (h.sup (by (repeat (first | exact Sup.refl | apply Sup.cons (by (repeat (first | exact Pick.head | apply Pick.tail | apply Pick.app))) | apply Sup.app | apply Sup.skip | apply Sup.skips)))), _, pur True, RepQ.zero _, rfl, rfl⟩)
   | (have zz : false = decide (lineR r ≠ xs) := hbl
      have he : lineR r = xs := Decidable.of_not_not (of_decide_eq_false zz.symm)
      have hf : repF xs = some r := by rw [← he]; exact repF_right hW.key hW.kb hbr
      have h1 : repR xs = r := by unfold repR; rw [hf]; rfl
      have h2 : repS xs = (0, 0) := by unfold repS; rw [if_neg (by omega), hf]; rfl
      rw [h1, h2]
      exact ⟨K :: l, fun w h => h.sup (by (repeat (first | exact Sup.refl | apply Sup.cons (by (repeat (first | exact Pick.head | apply Pick.tail | apply Pick.app))) | apply Sup.app | apply Sup.skip | apply Sup.skips))), cs, K, ⟨p1, c1, p2, c2, right_ok hRB hbr, hs1, hs2, hcs.symm⟩, rfl, rfl⟩)
end
end
section
open Go Go.SL
section
def SW (K : HProp) (p : Option Addr) (n : Nat) : Prop := n = 0 ∨ ∃ b off cells, p = some ⟨b, off, none⟩ ∧ K = row b 9 cells ∧ off + n ≤ cells.length
theorem J.slk {P : Program} {E : World} {ρ : Option Nat} {n : Nat} {ds : List Deferred} {c : Code} {Q : Exit → Act → World → Prop} {env : Fr} {K : HProp} {r : List HProp} {p : Option Addr} {cap : Nat} {ws : List (List Int)} (hs : SlK K p cap ws)
 (h : ∀ K', SW K' p ws.length → J P E ρ n ds c Q env (K' :: r)) : J P E ρ n ds c Q env (K :: r) := by
 by_cases h0 : ws.length = 0
 · exact h K (.inl h0)
 · obtain ⟨hl, hm, ⟨rfl, _⟩ | ⟨b, off, cells, rfl, rfl, hc⟩ | ⟨rfl, ho⟩⟩ := hs
   · exact absurd rfl h0
   · refine h _ (.inr ⟨b, off, cells, rfl, rfl, ?_⟩)
     have h1 := congrArg List.length hc
     rw [List.length_take, List.length_drop, strs_length] at h1
     omega
   · intro a w hf hs
     obtain ⟨_, ⟨_, e, _⟩ | ⟨g, cap', cur, e, h1, h2, h3, h4, s⟩⟩ := hs.own_open
     · exact absurd e h0
     · rw [Value.slice.injEq] at e
       obtain ⟨rfl, _, rfl⟩ := e
       exact h _ (.inr ⟨g, 0, cur, rfl, rfl, by omega⟩) a w hf s
theorem repR_one (xs : List Int) : (repR xs).names = [] ∨ (repR xs).texts = [] := by
 unfold repR
 cases h : repF xs with
 | none => exact .inl rfl
 | some r =>
   have hr := (repF_line h).1
   show r.names = [] ∨ r.texts = []
   rcases right_kind hr with k | k | k | k | k | k | k | k
   · rw [right_1 k hr]; exact .inl rfl
   · rw [right_26 (.inl k) hr]; exact .inl rfl
   · rw [(right_3 k hr).1]; exact .inr rfl
   · rw [(right_4 k hr).1]; exact .inl rfl
   · rw [(right_5 k hr).1]; exact .inl rfl
   · rw [right_26 (.inr k) hr]; exact .inl rfl
   · rw [(right_7 k hr).1]; exact .inl rfl
   · rw [(right_8 k hr).1]; exact .inl rfl
theorem SW.wr {K : HProp} {p : Option Addr} {n i : Nat} (h : SW K p n) (hi : i < n) : ∃ b off cells, p = some ⟨b, off, none⟩ ∧ K = row b 9 cells ∧ off + n ≤ cells.length := by
 rcases h with h | h
 · omega
 · exact h
theorem SW.zero (K : HProp) (p : Option Addr) : SW K p 0 := .inl rfl
end
section
attribute [local irreducible] J JL JE JM LS Y Fc RV Code.wp wpList Code.wpIn wpListIn
attribute [local irreducible] Yc strOf valD dig
variable (E : World)
theorem line_replies (s : ByteArray) (l : List HProp) (hK : K24 E l) : Fc prog E 8 [.string s].toArray l (fun v l' => v = .bool true ∧ l' = l) := by
 refine Fc.eqs ?_
 obtain ⟨xs0, rfl, hB0, _⟩ := strOf_of s
 have hB := hB0.take 700
 have hL : (xs0.take 700).length ≤ 700 := by rw [List.length_take]; omega
 refine Fc.of_body (c := ?codeC) Tryz.func8 ?hb Tryz.ntmps8 ?hl ?_
 case hb => exact rfl
 case hl => exact rfl
 refine J.seq (J.region (JL.step (y_assign rfl) rfl rfl rfl ?_))
 refine JL.nil (JE.then_normal (J.seq (J.seq (J.region ?_))))
 refine JL.loud rfl (l_callF e11 rfl rfl (wakes_spec E _ hK) ?_)
 rintro _ l7 ⟨rfl, e7⟩
 obtain rfl := e7.symm
 refine JL.step (y_not rfl) rfl rfl rfl ?_
 refine JL.nil (JE.then_normal ?_)
 refine J.cond_f rfl (by (first | rfl | assumption | (simp; done) | (simp; omega))) ?_
 refine J.skip (JE.then_normal (J.seq (J.region (JL.step (y_move rfl) rfl rfl rfl ?_))))
 refine JL.loud rfl (l_callF e12 rfl rfl (lawcut_spec E xs0 _ hB0) ?_)
 rintro _ l6 ⟨rfl, e6⟩
 obtain rfl := e6.symm
 refine JL.step (y_assign rfl) rfl rfl rfl ?_
 refine JL.nil (JE.then_normal (J.seq (J.region ?_)))
 obtain ⟨xs, hxs⟩ : ∃ xs, xs0.take 700 = xs := ⟨_, rfl⟩
 rw [hxs] at hB hL ⊢
 have hRb := repR_b xs
 have hone9 := repR_one xs
 obtain ⟨r, hr⟩ : ∃ r, repR xs = r := ⟨_, rfl⟩
 rw [hr] at hRb hone9
 have hnl := hRb.names
 have htl := hRb.texts
 refine JL.step (y_move rfl) rfl rfl rfl ?_
 refine JL.loud rfl (l_callF e30 rfl rfl (hr ▸ rreply_spec E xs _ hB (by omega)) ?_)
 rintro _ l8 ⟨cw, KW, ⟨wp1, wc1, wp2, wc2, hwo, hw1, hw2, hcw⟩, rfl, e8⟩
 refine JL.step (y_move rfl) rfl rfl rfl ?_
 obtain rfl := e8
 have hcwl : cw.length = i36.size := by rw [hcw]; exact rpE_length hRb.key _ _
 have hcwo : ∀ v ∈ cw, v.oneCell' = true := by rw [hcw]; exact rpE_one r rfl rfl
 refine JL.step (y_extract rfl rfl) rfl rfl rfl (JL.step (y_extract rfl rfl) rfl rfl rfl ?_)
 refine JL.loud rfl (l_alloc hT rfl rfl (by (first | rfl | simp)) rfl (fun b3 => ?_))
 refine JL.loud rfl (l_alloc hT rfl rfl (by (first | rfl | simp)) rfl (fun b4 => ?_))
 refine JL.loud rfl (l_storeAll hT rfl rfl rfl hcwl hcwo (by (repeat (first | exact Pick.head | apply Pick.tail | apply Pick.app))) (by (first | rfl | assumption | (simp; done) | omega)) ?_)
 refine JL.loud rfl (l_storeAll hT rfl rfl rfl (by (first | rfl | assumption | (simp; done) | omega)) (by (first | assumption | exact ones_of rfl | exact encW_one _ | exact encB_one _ | (intro u hu; simp at hu; rcases hu with rfl | rfl <;> rfl) | (intro u hu; simp at hu; subst hu; rfl) | simp)) (by (repeat (first | exact Pick.head | apply Pick.tail | apply Pick.app))) (by (first | rfl | assumption | (simp; done) | omega)) ?_)
 refine JL.nil (JE.then_normal (J.seq (J.seq (J.region (JL.step (y_assign rfl) rfl rfl rfl ?_)))))
 refine JL.nil (JE.then_normal (J.block ?_))
 refine J.pre (l' := row b3 36 cw :: row b4 30 [.int .i64 (repS xs).1, .int .i64 (repS xs).2] :: KW :: l) (fun w h => h.sup (by (repeat (first | exact Sup.refl | apply Sup.cons (by (repeat (first | exact Pick.head | apply Pick.tail | apply Pick.app))) | apply Sup.app | apply Sup.skip | apply Sup.skips)))) ?_
 refine J.loop (α := Nat) (fun k => k ≤ 2) (fun k => [(0, .string (strOf xs)), (3, .pointer (some ⟨b3, 0, none⟩)), (4, .pointer (some ⟨b4, 0, none⟩)), (5, .int .i64 k)]) (fun _ => row b3 36 cw :: row b4 30 [.int .i64 (repS xs).1, .int .i64 (repS xs).2] :: KW :: l) (fun k => 2 - k) 0 (Nat.zero_le _) ⟨rfl, rfl, rfl, rfl, trivial⟩ (fun w h => h) ?_
 intro k hk
 try dsimp only
 refine J.seq (J.seq (J.region (JL.step (y_move rfl) rfl rfl rfl (JL.step (y_lss rfl rfl) rfl rfl rfl ?_))))
 refine JL.nil (JE.then_normal ?_)
 focus
  first | apply J.cond_dec rfl | apply J.cond rfl
  focus
   intro h
   try (first | (exfalso; omega) | (cases h; done) | (exfalso; simp at h; done) | subst h)
   all_goals
    refine J.skip ?_
  rotate_right 1
  focus
   intro h
   try (first | (exfalso; omega) | (cases h; done) | (exfalso; simp at h; done) | subst h)
   all_goals
    refine J.exit (JE.then_exit (JE.then_exit (JE.block_exit (JE.then_normal (J.seq (J.region (JL.step (y_assign rfl) rfl rfl rfl ?_)))))))
    refine JL.nil (JE.then_normal (J.ret ?_))
    refine JE.ret1 (.inl rfl) rfl rfl (by (first | exact RV.tmp rfl | exact RV.cell1 hT rfl rfl rfl (by (exact Rd1.row (by (repeat (first | exact Pick.head | apply Pick.tail | apply Pick.app))) (by rfl))) | exact RV.cellN hT rfl rfl rfl (by (first | exact RdN.rowAll (by (repeat (first | exact Pick.head | apply Pick.tail | apply Pick.app))) | exact RdN.own (by (repeat (first | exact Pick.head | apply Pick.tail | apply Pick.app))))) (by (first | rfl | assumption | (simp; done) | omega)))) ?_
    exact ⟨rfl, fun w h => h.sup (by (repeat (first | exact Sup.refl | apply Sup.cons (by (repeat (first | exact Pick.head | apply Pick.tail | apply Pick.app))) | apply Sup.app | apply Sup.skip | apply Sup.skips)))⟩
 all_goals refine JE.then_normal ?_
 all_goals
  refine J.seq (J.block (J.seq (J.region (JL.step (y_move rfl) rfl rfl rfl ?_))))
  refine JL.loud rfl (l_callF e29 rfl rfl (hr ▸ lreply_spec E xs _ hB (by omega) (((hK.cons _).cons _).cons _)) ?_)
  rintro _ l9 ⟨cr, KR, ⟨p1, c1, p2, c2, hro, hs1, hs2, hcr⟩, rfl, e9⟩
  refine JL.step (y_move rfl) rfl rfl rfl ?_
  obtain rfl := e9
  have hcrl : cr.length = i36.size := by rw [hcr]; exact rpE_length hRb.key _ _
  have hcro : ∀ v ∈ cr, v.oneCell' = true := by rw [hcr]; exact rpE_one r rfl rfl
  refine JL.step (y_extract rfl rfl) rfl rfl rfl (JL.step (y_extract rfl rfl) rfl rfl rfl ?_)
  refine JL.loud rfl (l_alloc hT rfl rfl (by (first | rfl | simp)) rfl (fun b6 => ?_))
  refine JL.loud rfl (l_alloc hT rfl rfl (by (first | rfl | simp)) rfl (fun b7 => ?_))
  refine JL.loud rfl (l_storeAll hT rfl rfl rfl hcrl hcro (by (repeat (first | exact Pick.head | apply Pick.tail | apply Pick.app))) (by (first | rfl | assumption | (simp; done) | omega)) ?_)
  refine JL.loud rfl (l_storeAll hT rfl rfl rfl (by (first | rfl | assumption | (simp; done) | omega)) (by (first | assumption | exact ones_of rfl | exact encW_one _ | exact encB_one _ | (intro u hu; simp at hu; rcases hu with rfl | rfl <;> rfl) | (intro u hu; simp at hu; subst hu; rfl) | simp)) (by (repeat (first | exact Pick.head | apply Pick.tail | apply Pick.app))) (by (first | rfl | assumption | (simp; done) | omega)) ?_)
  refine JL.nil (JE.then_normal (J.seq (J.seq ?_)))
  refine J.pre (l' := KR :: row b6 36 cr :: row b7 30 [.int .i64 (repS xs).1, .int .i64 (repS xs).2] :: row b3 36 cw :: row b4 30 [.int .i64 (repS xs).1, .int .i64 (repS xs).2] :: KW :: l) (fun w h => h.sup (by (repeat (first | exact Sup.refl | apply Sup.cons (by (repeat (first | exact Pick.head | apply Pick.tail | apply Pick.app))) | apply Sup.app | apply Sup.skip | apply Sup.skips)))) ?_
  obtain ⟨L9, hL9⟩ : ∃ L, KR :: row b6 36 cr :: row b7 30 [.int .i64 (repS xs).1, .int .i64 (repS xs).2] :: row b3 36 cw :: row b4 30 [.int .i64 (repS xs).1, .int .i64 (repS xs).2] :: KW :: l = L := ⟨_, rfl⟩
  have hi1 : InL L9 p1 r.names.length c1 (strs r.names) := hL9 ▸ hs1.inl.kept Pick.head
  have hi2 : InL L9 p2 r.texts.length c2 (strs r.texts) := hL9 ▸ hs2.inl.kept Pick.head
  have hi3 : InL L9 wp1 r.names.length wc1 (strs r.names) := hL9 ▸ hw1.inl.kept (by (repeat (first | exact Pick.head | apply Pick.tail | apply Pick.app)))
  have hi4 : InL L9 wp2 r.texts.length wc2 (strs r.texts) := hL9 ▸ hw2.inl.kept (by (repeat (first | exact Pick.head | apply Pick.tail | apply Pick.app)))
  obtain ⟨q6, hp6⟩ : ∃ q, Pick L9 (row b6 36 cr) q := ⟨_, hL9 ▸ Pick.tail Pick.head⟩
  obtain ⟨q7, hp7⟩ : ∃ q, Pick L9 (row b7 30 [.int .i64 (repS xs).1, .int .i64 (repS xs).2]) q := ⟨_, hL9 ▸ Pick.tail (Pick.tail Pick.head)⟩
  obtain ⟨q3, hp3⟩ : ∃ q, Pick L9 (row b3 36 cw) q := ⟨_, hL9 ▸ Pick.tail (Pick.tail (Pick.tail Pick.head))⟩
  obtain ⟨q4, hp4⟩ : ∃ q, Pick L9 (row b4 30 [.int .i64 (repS xs).1, .int .i64 (repS xs).2]) q := ⟨_, hL9 ▸ Pick.tail (Pick.tail (Pick.tail (Pick.tail Pick.head)))⟩
  rw [hL9]
  refine J.region (JL.step (y_loadN hT rfl rfl rfl (RdN.rowAll hp7) rfl) rfl rfl rfl ?_)
  refine JL.step (y_loadN hT rfl rfl rfl (RdN.rowAll hp4) rfl) rfl rfl rfl ?_
  refine JL.step (v := .bool false) (y_flat_ne (m := 3) (ks := spK) (xs := [.int .i64 (repS xs).1, .int .i64 (repS xs).2]) (ys := [.int .i64 (repS xs).1, .int .i64 (repS xs).2]) (b := false) hT (by kernel_rfl) rfl (by kernel_rfl) (by kernel_rfl) rfl rfl rfl rfl ⟨⟨_, rfl⟩, ⟨_, rfl⟩, trivial⟩ ⟨⟨_, rfl⟩, ⟨_, rfl⟩, trivial⟩ (by simp)) rfl rfl rfl ?_
  refine JL.step (y_move rfl) rfl rfl rfl ?_
  all_goals (first | (refine JL.gsplit_dec rfl rfl rfl (fun h => ?_) (fun h => ?_) <;> try (first | (exfalso; omega) | exact absurd rfl h)) | (refine JL.gsplit rfl rfl rfl (fun h => ?_) (fun h => ?_) <;> try (first | cases h | (exfalso; simp at h; done))) | skip)
  all_goals (first | refine JL.gskip rfl rfl rfl rfl rfl rfl ?_ | refine JL.gskipU rfl rfl rfl rfl rfl ?_ | refine JL.gstep rfl rfl rfl (y_loadN hT rfl rfl rfl (RdN.rowAll hp6) hcrl) rfl rfl ?_)
  all_goals (first | refine JL.gskip rfl rfl rfl rfl rfl rfl ?_ | refine JL.gskipU rfl rfl rfl rfl rfl ?_ | refine JL.gstep rfl rfl rfl (y_loadN hT rfl rfl rfl (RdN.rowAll hp3) hcwl) rfl rfl ?_)
  all_goals (first | refine JL.gskip rfl rfl rfl rfl rfl rfl ?_ | refine JL.gskipU rfl rfl rfl rfl rfl ?_ | (refine JL.gloud rfl rfl rfl (l_callF e18 rfl rfl (hcr ▸ hcw ▸ rsame_spec E r r p1 p2 wp1 wp2 c1 c2 wc1 wc2 _ hRb hRb hi1 hi2 hi3 hi4) ?_); rintro _ _ ⟨rfl, rfl⟩))
  rw [decide_eq_true (rfl : r = r)]
  all_goals (first | refine JL.gskip rfl rfl rfl rfl rfl rfl ?_ | refine JL.gskipU rfl rfl rfl rfl rfl ?_ | refine JL.gstep rfl rfl rfl (y_not rfl) rfl rfl ?_)
  all_goals (refine JL.step (y_pick rfl rfl rfl) rfl rfl rfl ?_)
  all_goals refine JL.nil (JE.then_normal ?_)
  all_goals
   focus
    first | apply J.cond_dec rfl | apply J.cond rfl
    focus
     intro h
     try (first | (exfalso; omega) | (cases h; done) | (exfalso; simp at h; done) | subst h)
     all_goals
      refine J.seq (J.region (JL.step (y_assign rfl) rfl rfl rfl ?_))
      refine JL.nil (JE.then_normal (J.ret (JE.then_ret (JE.block_ret (JE.then_ret (JE.then_ret (JE.block_ret (JE.then_ret ?_))))))))
      refine JE.ret1 (.inl rfl) rfl rfl (by (first | exact RV.tmp rfl | exact RV.cell1 hT rfl rfl rfl (by (exact Rd1.row (by (repeat (first | exact Pick.head | apply Pick.tail | apply Pick.app))) (by rfl))) | exact RV.cellN hT rfl rfl rfl (by (first | exact RdN.rowAll (by (repeat (first | exact Pick.head | apply Pick.tail | apply Pick.app))) | exact RdN.own (by (repeat (first | exact Pick.head | apply Pick.tail | apply Pick.app))))) (by (first | rfl | assumption | (simp; done) | omega)))) ?_
      exact ⟨rfl, fun w h => h.sup (by (repeat (first | exact Sup.refl | apply Sup.cons (by (repeat (first | exact Pick.head | apply Pick.tail | apply Pick.app))) | apply Sup.app | apply Sup.skip | apply Sup.skips)))⟩
    rotate_right 1
    focus
     intro h
     try (first | (exfalso; omega) | (cases h; done) | (exfalso; simp at h; done) | subst h)
     all_goals
      refine J.skip ?_
  all_goals refine JE.then_normal ?_
  all_goals
   refine J.seq (J.seq ?_)
   rw [← hL9]
   obtain ⟨rest, hrest⟩ : ∃ rest, row b6 36 cr :: row b7 30 [.int .i64 (repS xs).1, .int .i64 (repS xs).2] :: row b3 36 cw :: row b4 30 [.int .i64 (repS xs).1, .int .i64 (repS xs).2] :: KW :: l = rest := ⟨_, rfl⟩
   have hatr := rp_at hRb.key (.slice p1 r.names.length c1) (.slice p2 r.texts.length c2)
   rw [← hcr] at hatr
   obtain ⟨q6b, hp6b⟩ : ∃ q, Pick rest (row b6 36 cr) q := ⟨_, hrest ▸ Pick.head⟩
   have hcap1 := hs1.inl.le
   have hcap2 := hs2.inl.le
   have hJ : ∀ {ρ c Q env}, (∀ K', SW K' p1 r.names.length ∧ SW K' p2 r.texts.length → J prog E ρ 59 [] c Q env (K' :: rest)) → J prog E ρ 59 [] c Q env (KR :: rest) := by
    intro ρ c Q env h
    rcases hone9 with q | q
    · exact J.slk hs2 fun K' hk' => h K' ⟨by rw [q]; exact SW.zero _ _, hk'⟩
    · exact J.slk hs1 fun K' hk' => h K' ⟨hk', by rw [q]; exact SW.zero _ _⟩
   rw [hrest]
   refine hJ fun K1 hW1 => ?_
   refine J.region (JL.step (y_fieldAddr hT rfl rfl rfl rfl rfl rfl) rfl rfl rfl ?_)
   refine JL.step (y_load1 hT rfl rfl rfl (Rd1.row (Pick.tail hp6b) (hatr 0))) rfl rfl rfl ?_
   refine JL.step (y_len_slice hT rfl rfl rfl) rfl rfl rfl (JL.step (y_move rfl) rfl rfl rfl ?_)
   refine JL.nil (JE.then_normal (J.block ?_))
   refine J.loop (α := Nat × HProp) (fun s => s.1 ≤ r.names.length ∧ SW s.2 p1 r.names.length ∧ SW s.2 p2 r.texts.length) (fun s => [(0, .string (strOf xs)), (3, .pointer (some ⟨b3, 0, none⟩)), (4, .pointer (some ⟨b4, 0, none⟩)), (5, .int .i64 k), (6, .pointer (some ⟨b6, 0, none⟩)), (39, .int .i64 r.names.length), (40, .int .i64 s.1)]) (fun s => s.2 :: rest) (fun s => r.names.length - s.1) (0, K1) ⟨Nat.zero_le _, hW1⟩ ⟨rfl, rfl, rfl, rfl, rfl, rfl, rfl, trivial⟩ (fun w h => h) ?_
   rintro ⟨i, K2⟩ ⟨hi, hWa, hWb⟩
   dsimp only at hi hWa hWb ⊢
   refine J.seq (J.region (JL.step (y_lss rfl rfl) rfl rfl rfl ?_))
   refine JL.nil (JE.then_normal (J.seq ?_))
   focus
    first | apply J.cond_dec rfl | apply J.cond rfl
    focus
     intro h
     try (first | (exfalso; omega) | (cases h; done) | (exfalso; simp at h; done) | subst h)
     all_goals
      refine J.skip ?_
    rotate_right 1
    focus
     intro h
     try (first | (exfalso; omega) | (cases h; done) | (exfalso; simp at h; done) | subst h)
     all_goals
      refine J.exit (JE.then_exit (JE.then_exit (JE.block_exit (JE.then_normal (J.seq (J.region (JL.step (y_fieldAddr hT rfl rfl rfl rfl rfl rfl) rfl rfl rfl ?_)))))))
      refine JL.step (y_load1 hT rfl rfl rfl (Rd1.row (Pick.tail hp6b) (hatr 1))) rfl rfl rfl ?_
      refine JL.step (y_len_slice hT rfl rfl rfl) rfl rfl rfl (JL.step (y_move rfl) rfl rfl rfl ?_)
      refine JL.nil (JE.then_normal (J.block ?_))
      refine J.loop (α := Nat × HProp) (fun s => s.1 ≤ r.texts.length ∧ SW s.2 p2 r.texts.length) (fun s => [(0, .string (strOf xs)), (3, .pointer (some ⟨b3, 0, none⟩)), (4, .pointer (some ⟨b4, 0, none⟩)), (5, .int .i64 k), (6, .pointer (some ⟨b6, 0, none⟩)), (50, .int .i64 r.texts.length), (51, .int .i64 s.1)]) (fun s => s.2 :: rest) (fun s => r.texts.length - s.1) (0, K2) ⟨Nat.zero_le _, hWb⟩ ⟨rfl, rfl, rfl, rfl, rfl, rfl, rfl, trivial⟩ (fun w h => h) ?_
      rintro ⟨i, K3⟩ ⟨hi, hWc⟩
      dsimp only at hi hWc ⊢
      refine J.seq (J.region (JL.step (y_lss rfl rfl) rfl rfl rfl ?_))
      refine JL.nil (JE.then_normal (J.seq ?_))
      focus
       first | apply J.cond_dec rfl | apply J.cond rfl
       focus
        intro h
        try (first | (exfalso; omega) | (cases h; done) | (exfalso; simp at h; done) | subst h)
        all_goals
         refine J.skip ?_
       rotate_right 1
       focus
        intro h
        try (first | (exfalso; omega) | (cases h; done) | (exfalso; simp at h; done) | subst h)
        all_goals
         refine J.exit (JE.then_exit (JE.then_exit (JE.block_exit (JE.block_normal (JE.then_normal (J.region (JL.step (y_move rfl) rfl rfl rfl ?_)))))))
         refine JL.step (y_add (m := ((k + 1 : Nat) : Int)) rfl rfl (wrap_i64 (by omega) (by omega))) rfl rfl rfl ?_
         refine JL.step (y_assign rfl) rfl rfl rfl ?_
         refine JL.nil ?_
         exact JE.round (s := k) (k + 1) (by omega) ⟨rfl, rfl, rfl, rfl, trivial⟩ (fun w h => by
          rw [← hrest] at h
          exact h.sup (by (repeat (first | exact Sup.refl | apply Sup.cons (by (repeat (first | exact Pick.head | apply Pick.tail | apply Pick.app))) | apply Sup.app | apply Sup.skip | apply Sup.skips)))) (by omega)
      all_goals refine JE.then_normal ?_
      all_goals
       refine J.seq (J.block (J.seq (J.region (JL.step (y_move rfl) rfl rfl rfl (JL.step (y_assign rfl) rfl rfl rfl ?_)))))
       refine JL.nil (JE.then_normal ?_)
       have hlt : i < r.texts.length := by omega
       obtain ⟨b, off, cells, hpp, hKc, hlen⟩ := hWc.wr hlt
       subst hKc hpp
       have ho0 : r.names.length = 0 := by
        rcases hone9 with q | q
        · first | (rw [q] at hlt; simp at hlt; done) | rw [q]; rfl
        · first | (rw [q] at hlt; simp at hlt; done) | rw [q]; rfl
       refine J.region (JL.step (y_fieldAddr hT rfl rfl rfl rfl rfl rfl) rfl rfl rfl ?_)
       refine JL.step (y_load1 hT rfl rfl rfl (Rd1.row (Pick.tail hp6b) (hatr 1))) rfl rfl rfl ?_
       refine JL.step (y_move rfl) rfl rfl rfl ?_
       refine JL.step (y_indexAddr_slice hT rfl rfl rfl rfl rfl (by (first | omega | exact Nat.le_of_ble_eq_true rfl | decide | (simp; omega))) (by (first | omega | exact Nat.le_of_ble_eq_true rfl | decide | (simp; omega)))) rfl rfl rfl ?_
       refine JL.loud rfl (l_store1 hT rfl rfl rfl rfl rfl Pick.head (by show off + i * 1 < _; omega) ?_)
       refine JL.nil (JE.block_normal (JE.then_normal (J.region ?_)))
       refine JL.step (y_add rfl rfl (by (first | exact wrap_i64 (by omega) (by omega) | rfl))) rfl rfl rfl ?_
       refine JL.step (y_move rfl) rfl rfl rfl ?_
       refine JL.nil ?_
      all_goals
       exact JE.round (s := (i, K1)) (i + 1, _) ⟨by dsimp only; omega, .inr ⟨b, off, _, rfl, rfl, by rw [List.length_set]; exact hlen⟩⟩ ⟨rfl, rfl, rfl, rfl, rfl, rfl, rfl, trivial⟩ (fun w h => h) (by dsimp only; omega)
   all_goals refine JE.then_normal ?_
   all_goals
    refine J.seq (J.block (J.seq (J.region (JL.step (y_move rfl) rfl rfl rfl (JL.step (y_assign rfl) rfl rfl rfl ?_)))))
    refine JL.nil (JE.then_normal ?_)
    have hlt : i < r.names.length := by omega
    obtain ⟨b, off, cells, hpp, hKc, hlen⟩ := hWa.wr hlt
    subst hKc hpp
    have ho0 : r.texts.length = 0 := by
     rcases hone9 with q | q
     · first | (rw [q] at hlt; simp at hlt; done) | rw [q]; rfl
     · first | (rw [q] at hlt; simp at hlt; done) | rw [q]; rfl
    refine J.region (JL.step (y_fieldAddr hT rfl rfl rfl rfl rfl rfl) rfl rfl rfl ?_)
    refine JL.step (y_load1 hT rfl rfl rfl (Rd1.row (Pick.tail hp6b) (hatr 0))) rfl rfl rfl ?_
    refine JL.step (y_move rfl) rfl rfl rfl ?_
    refine JL.step (y_indexAddr_slice hT rfl rfl rfl rfl rfl (by (first | omega | exact Nat.le_of_ble_eq_true rfl | decide | (simp; omega))) (by (first | omega | exact Nat.le_of_ble_eq_true rfl | decide | (simp; omega)))) rfl rfl rfl ?_
    refine JL.loud rfl (l_store1 hT rfl rfl rfl rfl rfl Pick.head (by show off + i * 1 < _; omega) ?_)
    refine JL.nil (JE.block_normal (JE.then_normal (J.region ?_)))
    refine JL.step (y_add rfl rfl (by (first | exact wrap_i64 (by omega) (by omega) | rfl))) rfl rfl rfl ?_
    refine JL.step (y_move rfl) rfl rfl rfl ?_
    refine JL.nil ?_
   all_goals
    exact JE.round (s := (i, K1)) (i + 1, _) ⟨by dsimp only; omega, .inr ⟨b, off, _, rfl, rfl, by rw [List.length_set]; exact hlen⟩, .inl ho0⟩ ⟨rfl, rfl, rfl, rfl, rfl, rfl, rfl, trivial⟩ (fun w h => h) (by dsimp only; omega)
end
end
end Go.Proofs.YtccagffapohkhaaGreatDoor
