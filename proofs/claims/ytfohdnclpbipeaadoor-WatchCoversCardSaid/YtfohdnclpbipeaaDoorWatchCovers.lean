
/-
  hollowtreelaw30.WatchCovers returns true for every input, and leaves its input as it was. No condition but that the tables of the program's text are laid.
-/
import Derived.Test.YtfohdnclpbipeaaDoorJoin9
namespace Go.Proofs.YtfohdnclpbipeaaDoor
open Go Go.SL
section
attribute [local irreducible] J JL JE JM LS Y Fc RV Code.wp wpList Code.wpIn wpListIn
attribute [local irreducible] Yc
variable (E : World)
theorem watch_covers (kp : Option Addr) (kn kc : Nat) (keys : List (List Int)) (p : Option Addr) (n c : Nat) (ws : List SealT) (p2 : Option Addr) (n2 c2 : Nat) (ws2 : List SealT) (l : List HProp)
    (hkn : keys.length = kn) (hk32 : ∀ k ∈ keys, k.length = 32) (hkin : InL l kp kn kc (keys.flatMap (ints .u8)))
    (hn : ws.length = n) (hok : ∀ w ∈ ws, SeOk w) (hin : InL l p n c (ws.flatMap seE)) (hn2 : ws2.length = n2) (hok2 : ∀ w ∈ ws2, SeOk w) (hin2 : InL l p2 n2 c2 (ws2.flatMap seE)) (ht : T10 E l) :
    Fc prog E 8 [.slice kp kn kc, .slice p n c, .slice p2 n2 c2].toArray l (fun v l' => v = .bool true ∧ l' = l) := by
  refine Fc.eqs ?_
  obtain ⟨m, hm⟩ : ∃ m, m = min n 60 := ⟨_, rfl⟩
  obtain ⟨zs, hzs⟩ : ∃ zs, ws.take m = zs := ⟨_, rfl⟩
  have hz : zs.length = m := by rw [← hzs, List.length_take]; omega
  have hzok : ∀ w ∈ zs, SeOk w := fun w h => hok w (List.mem_of_mem_take (hzs ▸ h))
  have hm8 : m ≤ 60 := by omega
  have hcut := fun l' hin => short_spec E p n c m ws l' hn hm hok hin
  rw [hzs] at hcut
  obtain ⟨m2, hm2⟩ : ∃ m, m = min n2 60 := ⟨_, rfl⟩
  obtain ⟨zs2, hzs2⟩ : ∃ zs, ws2.take m2 = zs := ⟨_, rfl⟩
  have hz2 : zs2.length = m2 := by rw [← hzs2, List.length_take]; omega
  have hzok2 : ∀ w ∈ zs2, SeOk w := fun w h => hok2 w (List.mem_of_mem_take (hzs2 ▸ h))
  have hm28 : m2 ≤ 60 := by omega
  have hcut2 := fun l' hin => short_spec E p2 n2 c2 m2 ws2 l' hn2 hm2 hok2 hin
  rw [hzs2] at hcut2
  obtain ⟨mk, hmk⟩ : ∃ m, m = min kn 6 := ⟨_, rfl⟩
  obtain ⟨gb, ob, hp0, hpt⟩ := keys_cut hkn hk32 hkin mk (by omega)
  have hle := hkin.le
  obtain ⟨q, hq⟩ : ∃ q, (if kc = 0 then kp else some ⟨gb, ob + 0 * 32, none⟩) = q := ⟨_, rfl⟩
  rw [hq, Nat.sub_zero, Nat.sub_zero] at hpt
  obtain ⟨ks, hks⟩ : ∃ ks, keys.take mk = ks := ⟨_, rfl⟩
  have hkz : ks.length = mk := by rw [← hks, List.length_take]; omega
  have hks32 : ∀ k ∈ ks, k.length = 32 := fun k h => hk32 k (List.mem_of_mem_take (hks ▸ h))
  rw [hks] at hpt
  refine Fc.of_body (c := ?codeC) Tryd.func8 ?hb Tryd.ntmps8 ?hl ?_
  case hb => exact rfl
  case hl => exact rfl
  refine J.seq ?_
  refine J.region ?_
  refine JL.step (y_assign rfl) rfl rfl rfl ?_
  refine JL.nil ?_
  refine JE.then_normal ?_
  refine J.seq ?_
  refine J.seq ?_
  refine J.region ?_
  refine JL.loud rfl (l_callF e11 rfl rfl (wakes_spec E _ ht) ?_)
  rintro _ l1 ⟨rfl, e1⟩
  obtain rfl := e1.symm
  refine JL.step (y_not rfl) rfl rfl rfl ?_
  refine JL.nil ?_
  refine JE.then_normal ?_
  refine J.cond_f rfl (by (first | rfl | assumption | (simp; done) | (simp; omega))) ?_
  refine J.skip ?_
  refine JE.then_normal ?_
  refine J.seq ?_
  refine J.draw _ _ [(0, .q), (1, .q), (2, .q), (3, .q), (4, .q), (5, .q), (7, .q), (6, .l), (8, .l), (9, .q), (10, .q), (11, .q)] mixed (by kernel_rfl) (Split.nil) ?_
  refine JM.quiet rfl rfl rfl rfl (fun m => y_move rfl) ?_
  refine JM.quiet rfl rfl rfl rfl (fun m => y_move rfl) ?_
  refine JM.quiet rfl rfl rfl rfl (fun m => y_len_slice hT rfl rfl rfl) ?_
  refine JM.quiet rfl rfl rfl rfl (fun m => y_min2 (m := (mk : Int)) rfl rfl (by omega)) ?_
  refine JM.quiet rfl rfl rfl rfl (fun m => Y.cast (u := .slice q mk kc) (y_slice (lo := 0) (hi := mk) hT rfl rfl rfl rfl (.inl ⟨rfl, rfl⟩) (.inr ⟨_, _, _, rfl, rfl, rfl⟩) (by omega) (by omega) hle hp0) (by rw [← hq]; rfl)) ?_
  refine JM.quiet rfl rfl rfl rfl (fun m => y_move rfl) ?_
  refine JM.quiet rfl rfl rfl rfl (fun m => y_move rfl) ?_
  refine JM.loud rfl rfl (fun fr => l_callF e21 rfl rfl (hcut _ (hin.app fr)) ?_)
  rintro _ _ ⟨a, c', hc', rfl, rfl⟩
  refine ⟨[_], (by (repeat (first | exact Split.nil | exact Split.all | refine Split.cons Pick.head ?_))), ?_⟩
  refine JM.loud rfl rfl (fun fr => l_callF e21 rfl rfl (hcut2 _ ((hin2.app fr).cons _)) ?_)
  rintro _ _ ⟨a2, c2', hc2', rfl, rfl⟩
  refine ⟨[_, _], (by (repeat (first | exact Split.nil | exact Split.all | refine Split.cons Pick.head ?_))), ?_⟩
  refine JM.quiet rfl rfl rfl rfl (fun m => y_assign rfl) ?_
  refine JM.quiet rfl rfl rfl rfl (fun m => y_assign rfl) ?_
  refine JM.quiet rfl rfl rfl rfl (fun m => y_assign rfl) ?_
  refine JM.nil ?_
  refine JE.then_normal ?_
  refine J.seq ?_
  try dsimp only [List.nil_append, List.cons_append]
  refine J.fact (fun w s => Sat.own_at (s.pick Pick.head)) fun oo2 => ?_
  refine J.fact (fun w s => Sat.own_at (s.pick (Pick.tail Pick.head))) fun oo => ?_
  have hal := accI_length (readF ks zs).2.1
  have hcl := calls_length ks zs
  have hal2 := accI_length (readF ks (zs ++ zs2)).2.1
  have hcl2 := calls_length ks (zs ++ zs2)
  obtain ⟨t, ht1, ht2⟩ := acc_more ks zs zs2
  have hmem := fun z => acc_mem (keys := ks) (ls := zs) (z := z)
  obtain ⟨xs, hxs⟩ : ∃ xs, accI (readF ks zs).2.1 = xs := ⟨_, rfl⟩
  have hacc := fun l h1 h2 => accidents_spec E q mk kc ks a m c' zs l hkz hks32 h1 (by omega) hz (by omega) hzok h2
  have hacc2 := fun aa cc l h1 h2 => accidents_spec E q mk kc ks aa (0 + m + m2) cc (zs ++ zs2) l hkz hks32 h1 (by omega) (by rw [List.length_append]; omega) (by omega) (fun x hx => (List.mem_append.1 hx).elim (hzok x) (hzok2 x)) h2
  rw [hxs] at hacc hal ht1 hmem
  rw [ht1] at hacc2 hal2
  rw [List.length_append] at hal2 hcl2
  rw [hz] at ht2
  refine J.region ?_
  refine JL.step (y_move rfl) rfl rfl rfl (JL.step (y_move rfl) rfl rfl rfl ?_)
  refine JL.loud rfl (l_callF e23 rfl rfl (hacc _ (by (repeat (first | assumption | apply InL.cons | apply InL.app))) (cutInS hz hzok oo (by (repeat (first | exact Pick.head | apply Pick.tail | apply Pick.app)))).2) ?_)
  rintro _ _ ⟨a5, c5, rfl, rfl⟩
  refine JL.step (y_assign rfl) rfl rfl rfl ?_
  refine JL.nil ?_
  refine JE.then_normal ?_
  refine J.seq ?_
  refine J.region ?_
  refine JL.step (y_move rfl) rfl rfl rfl ?_
  refine JL.loud rfl (l_buildSlice0 hT rfl rfl rfl rfl (fun b5 => ?_))
  refine JL.step (y_move rfl) rfl rfl rfl ?_
  refine JL.loud rfl (l_appendIn hT rfl rfl rfl rfl rfl rfl rfl rfl (by (repeat (first | exact Pick.head | apply Pick.tail | apply Pick.app))) (cutInS hz hzok oo (by (repeat (first | exact Pick.head | apply Pick.tail | apply Pick.app)))).2 (by rw [show i55.size = 165 from rfl, ses_len hzok, hz]) (ses_one zs) (by rw [show i55.bytes = 192 from rfl]; omega) (by omega) rfl (fun a13 c13 hc13 => ?_))
  refine JL.step (y_move rfl) rfl rfl rfl ?_
  refine JL.loud rfl (l_appendIn hT rfl rfl rfl rfl rfl rfl rfl rfl (by (repeat (first | exact Pick.head | apply Pick.tail | apply Pick.app))) (cutInS hz2 hzok2 oo2 (by (repeat (first | exact Pick.head | apply Pick.tail | apply Pick.app)))).2 (by rw [show i55.size = 165 from rfl, ses_len hzok2, hz2]) (ses_one zs2) (by rw [show i55.bytes = 192 from rfl]; omega) (by omega) rfl (fun a14 c14 hc14 => ?_))
  refine JL.fact (fun w s => Sat.own_at (s.pick Pick.head)) fun o14 => ?_
  refine JL.loud rfl (l_callF e23 rfl rfl (hacc2 _ _ _ (by (repeat (first | assumption | apply InL.cons | apply InL.app))) (by rw [List.flatMap_append]; exact o14.inl (by (repeat (first | exact Pick.head | apply Pick.tail | apply Pick.app))))) ?_)
  rintro _ _ ⟨a8, c8, rfl, rfl⟩
  refine JL.step (y_assign rfl) rfl rfl rfl ?_
  refine JL.nil ?_
  refine JE.then_normal ?_
  refine J.seqK (α := Unit) (fun _ => True) (fun _ => [(0, .slice q mk kc), (1, .slice a m c'), (7, .slice a5 xs.length c5)]) (fun _ => own 3 1 (.slice a5 xs.length c5) xs.length (xs.map (Value.int .i64)) :: own 55 165 (.slice a (m + 1) c') (m + 1) (zs.flatMap seE ++ seE sea77) :: l) ?hj8 (fun hk8 => ?hf8)
  case hf8 =>
    refine J.seq ?_
    refine J.pre (l' := own 3 1 (.slice a8 (xs ++ t).length c8) (xs ++ t).length ((xs ++ t).map (Value.int .i64)) :: own 3 1 (.slice a5 xs.length c5) xs.length (xs.map (Value.int .i64)) :: own 55 165 (.slice a (m + 1) c') (m + 1) (zs.flatMap seE ++ seE sea77) :: l) (fun w s => s.sup (by (repeat (first | exact Sup.refl | apply Sup.cons (by (repeat (first | exact Pick.head | apply Pick.tail | apply Pick.app))) | apply Sup.app | apply Sup.skip | apply Sup.skips)))) ?_
    refine J.fact (fun w s => Sat.own_at (s.pick Pick.head)) fun o8 => ?_
    refine J.fact (fun w s => Sat.own_at (s.pick (Pick.tail Pick.head))) fun o5 => ?_
    have hlen : (xs ++ t).length = xs.length + t.length := List.length_append
    have h8 := o8.inl (l := own 3 1 (.slice a8 (xs ++ t).length c8) (xs ++ t).length ((xs ++ t).map (Value.int .i64)) :: own 3 1 (.slice a5 xs.length c5) xs.length (xs.map (Value.int .i64)) :: own 55 165 (.slice a (m + 1) c') (m + 1) (zs.flatMap seE ++ seE sea77) :: l) Pick.head
    have h8c := h8.cutTo xs.length xs.length (by omega)
    rw [← List.map_take, List.take_left' rfl] at h8c
    refine J.region ?_
    refine JL.step (y_move rfl) rfl rfl rfl (JL.step (y_len_slice hT rfl rfl rfl) rfl rfl rfl (JL.step (y_move rfl) rfl rfl rfl (JL.step (y_len_slice hT rfl rfl rfl) rfl rfl rfl ?_)))
    refine JL.step (v := .bool false) (Y.val (y_gtr rfl rfl) (by rw [decide_eq_false (by omega)])) rfl rfl rfl ?_
    refine JL.step (y_move rfl) rfl rfl rfl ?_
    all_goals (first | (refine JL.gsplit_dec rfl rfl rfl (fun h => ?_) (fun h => ?_) <;> try (first | (exfalso; omega) | exact absurd rfl h)) | (refine JL.gsplit rfl rfl rfl (fun h => ?_) (fun h => ?_) <;> try (first | cases h | (exfalso; simp at h; done))) | skip)
    all_goals (first | refine JL.gskip rfl rfl rfl rfl rfl rfl ?_ | refine JL.gskipU rfl rfl rfl rfl rfl ?_ | refine JL.gstep rfl rfl rfl (y_move rfl) rfl rfl ?_)
    all_goals (first | refine JL.gskip rfl rfl rfl rfl rfl rfl ?_ | refine JL.gskipU rfl rfl rfl rfl rfl ?_ | refine JL.gstep rfl rfl rfl (y_move rfl) rfl rfl ?_)
    all_goals (first | refine JL.gskip rfl rfl rfl rfl rfl rfl ?_ | refine JL.gskipU rfl rfl rfl rfl rfl ?_ | refine JL.gstep rfl rfl rfl (y_move rfl) rfl rfl ?_)
    all_goals (first | refine JL.gskip rfl rfl rfl rfl rfl rfl ?_ | refine JL.gskipU rfl rfl rfl rfl rfl ?_ | refine JL.gstep rfl rfl rfl (y_len_slice hT rfl rfl rfl) rfl rfl ?_)
    all_goals (first | refine JL.gskip rfl rfl rfl rfl rfl rfl ?_ | refine JL.gskipU rfl rfl rfl rfl rfl ?_ | refine JL.gstep rfl rfl rfl (y_cutTo (m := xs.length) hT rfl rfl rfl rfl rfl rfl (by omega) h8) rfl rfl ?_)
    all_goals (first | refine JL.gskip rfl rfl rfl rfl rfl rfl ?_ | refine JL.gskipU rfl rfl rfl rfl rfl ?_ | (refine JL.gloud rfl rfl rfl (l_callF e22 rfl rfl (intsI_spec E a5 a8 xs.length c5 c8 xs _ rfl (by omega) (o5.inl (by (repeat (first | exact Pick.head | apply Pick.tail | apply Pick.app)))) h8c) ?_); rintro _ _ ⟨rfl, rfl⟩))
    all_goals (first | refine JL.gskip rfl rfl rfl rfl rfl rfl ?_ | refine JL.gskipU rfl rfl rfl rfl rfl ?_ | refine JL.gstep rfl rfl rfl (y_not rfl) rfl rfl ?_)
    all_goals (refine JL.step (y_pick rfl rfl rfl) rfl rfl rfl ?_)
    all_goals (refine JL.step (y_move rfl) rfl rfl rfl ?_)
    all_goals (first | (refine JL.gsplit_dec rfl rfl rfl (fun h => ?_) (fun h => ?_) <;> try (first | (exfalso; omega) | exact absurd rfl h)) | (refine JL.gsplit rfl rfl rfl (fun h => ?_) (fun h => ?_) <;> try (first | cases h | (exfalso; simp at h; done))) | skip)
    all_goals (first | refine JL.gskip rfl rfl rfl rfl rfl rfl ?_ | refine JL.gskipU rfl rfl rfl rfl rfl ?_ | refine JL.gstep rfl rfl rfl (y_move rfl) rfl rfl ?_)
    all_goals (first | refine JL.gskip rfl rfl rfl rfl rfl rfl ?_ | refine JL.gskipU rfl rfl rfl rfl rfl ?_ | refine JL.gstep rfl rfl rfl (y_len_slice hT rfl rfl rfl) rfl rfl ?_)
    all_goals (first | refine JL.gskip rfl rfl rfl rfl rfl rfl ?_ | refine JL.gskipU rfl rfl rfl rfl rfl ?_ | refine JL.gstep rfl rfl rfl (y_move rfl) rfl rfl ?_)
    all_goals (first | refine JL.gskip rfl rfl rfl rfl rfl rfl ?_ | refine JL.gskipU rfl rfl rfl rfl rfl ?_ | refine JL.gstep rfl rfl rfl (y_len_slice hT rfl rfl rfl) rfl rfl ?_)
    all_goals (first | refine JL.gskip rfl rfl rfl rfl rfl rfl ?_ | refine JL.gskipU rfl rfl rfl rfl rfl ?_ | refine JL.gstep rfl rfl rfl (y_gtr rfl rfl) rfl rfl ?_)
    all_goals (first | refine JL.gskip rfl rfl rfl rfl rfl rfl ?_ | refine JL.gskipU rfl rfl rfl rfl rfl ?_ | refine JL.gstep rfl rfl rfl (y_move rfl) rfl rfl ?_)
    all_goals (first | (refine JL.gsplit_dec rfl rfl rfl (fun h => ?_) (fun h => ?_) <;> try (first | (exfalso; omega) | exact absurd rfl h)) | (refine JL.gsplit rfl rfl rfl (fun h => ?_) (fun h => ?_) <;> try (first | cases h | (exfalso; simp at h; done))) | skip)
    all_goals (first | refine JL.gskip rfl rfl rfl rfl rfl rfl ?_ | refine JL.gskipU rfl rfl rfl rfl rfl ?_ | refine JL.gstep rfl rfl rfl (y_move rfl) rfl rfl ?_)
    all_goals (first | refine JL.gskip rfl rfl rfl rfl rfl rfl ?_ | refine JL.gskipU rfl rfl rfl rfl rfl ?_ | refine JL.gstep rfl rfl rfl (y_move rfl) rfl rfl ?_)
    all_goals (first | refine JL.gskip rfl rfl rfl rfl rfl rfl ?_ | refine JL.gskipU rfl rfl rfl rfl rfl ?_ | refine JL.gstep rfl rfl rfl (y_len_slice hT rfl rfl rfl) rfl rfl ?_)
    all_goals (first | refine JL.gskip rfl rfl rfl rfl rfl rfl ?_ | refine JL.gskipU rfl rfl rfl rfl rfl ?_ | (obtain ⟨g8, o8', rfl, hr8⟩ := h8.addr (by omega); obtain ⟨z, hzt⟩ : ∃ z, (xs ++ t)[xs.length]? = some z := ⟨(xs ++ t)[xs.length]'(by omega), List.getElem?_eq_getElem _⟩; refine JL.gstep rfl rfl rfl (y_indexAddr_slice hT rfl rfl rfl rfl rfl (by (first | omega | exact Nat.le_of_ble_eq_true rfl | decide | (simp; omega))) (by (first | omega | exact Nat.le_of_ble_eq_true rfl | decide | (simp; omega)))) rfl rfl ?_))
    all_goals (first | refine JL.gskip rfl rfl rfl rfl rfl rfl ?_ | refine JL.gskipU rfl rfl rfl rfl rfl ?_ | refine JL.gstep rfl rfl rfl (y_load1 hT rfl rfl rfl (Rd1.elem (hr8 []) (by rw [Int.toNat_natCast, List.getElem?_map, hzt]; rfl))) rfl rfl ?_)
    all_goals (first | refine JL.gskip rfl rfl rfl rfl rfl rfl ?_ | refine JL.gskipU rfl rfl rfl rfl rfl ?_ | refine JL.gstep rfl rfl rfl (y_move rfl) rfl rfl ?_)
    all_goals (first | refine JL.gskip rfl rfl rfl rfl rfl rfl ?_ | refine JL.gskipU rfl rfl rfl rfl rfl ?_ | refine JL.gstep rfl rfl rfl (y_len_slice hT rfl rfl rfl) rfl rfl ?_)
    all_goals (first | refine JL.gskip rfl rfl rfl rfl rfl rfl ?_ | refine JL.gskipU rfl rfl rfl rfl rfl ?_ | (have hzm : (m : Int) ≤ z := (by rw [List.getElem?_append_right (Nat.le_refl _)] at hzt; exact ht2 z (List.mem_of_getElem? hzt)); refine JL.gstep rfl rfl rfl (v := .bool false) (Y.val (y_lss rfl rfl) (by rw [decide_eq_false (by omega)])) rfl rfl ?_))
    all_goals (first | refine JL.gskip rfl rfl rfl rfl rfl rfl ?_ | refine JL.gskipU rfl rfl rfl rfl rfl ?_ | refine JL.gstep rfl rfl rfl (y_pick rfl rfl rfl) rfl rfl ?_)
    all_goals (refine JL.step (y_pick rfl rfl rfl) rfl rfl rfl ?_)
    all_goals refine JL.nil ?_
    all_goals refine JE.then_normal ?_
    all_goals
      refine J.cond_f rfl (by (first | rfl | assumption | (simp; done) | (simp; omega))) ?_
      refine J.skip ?_
    all_goals refine JE.then_normal ?_
    all_goals
      exact J.closeK hk8 () trivial ⟨rfl, rfl, rfl, trivial⟩ (fun w h => h.sup (by (repeat (first | exact Sup.refl | apply Sup.cons (by (repeat (first | exact Pick.head | apply Pick.tail | apply Pick.app))) | apply Sup.app | apply Sup.skip | apply Sup.skips))))
  rintro _ _
  try dsimp only
  refine J.fact (fun w s => Sat.own_at (s.pick Pick.head)) fun o5 => ?_
  refine J.seq ?_
  refine J.seq ?_
  refine J.region ?_
  refine JL.step (y_move rfl) rfl rfl rfl (JL.step (y_len_slice hT rfl rfl rfl) rfl rfl rfl (JL.step (y_move rfl) rfl rfl rfl ?_))
  refine JL.nil ?_
  refine JE.then_normal ?_
  refine J.block ?_
  refine J.loop (α := Nat) (fun i => i ≤ xs.length) (fun i => [(0, .slice q mk kc), (1, .slice a m c'), (68, .slice a5 xs.length c5), (69, .int .i64 xs.length), (70, .int .i64 i)]) (fun _ => own 3 1 (.slice a5 xs.length c5) xs.length (xs.map (Value.int .i64)) :: own 55 165 (.slice a (m + 1) c') (m + 1) (zs.flatMap seE ++ seE sea77) :: l) (fun i => xs.length - i) 0 (Nat.zero_le _) ⟨rfl, rfl, rfl, rfl, rfl, trivial⟩ (fun w h => h) ?_
  intro i hi
  try dsimp only
  refine J.seq ?_
  refine J.region ?_
  refine JL.step (y_lss rfl rfl) rfl rfl rfl ?_
  refine JL.nil ?_
  refine JE.then_normal ?_
  refine J.seq ?_
  first | apply J.cond_dec rfl | apply J.cond rfl
  case' ht =>
    intro h
    try (first | (exfalso; omega) | (cases h; done) | (exfalso; simp at h; done) | subst h)
    all_goals
      refine J.skip ?_
  case' hf =>
    intro h
    try (first | (exfalso; omega) | (cases h; done) | (exfalso; simp at h; done) | subst h)
    all_goals
      refine J.exit ?_
      refine JE.then_exit ?_
      refine JE.then_exit ?_
      refine JE.block_exit ?_
      refine JE.then_normal ?_
      refine J.seq ?_
      refine J.seq ?_
      refine J.region ?_
      refine JL.step (y_move rfl) rfl rfl rfl (JL.step (y_len_slice hT rfl rfl rfl) rfl rfl rfl (JL.step (y_move rfl) rfl rfl rfl ?_))
      refine JL.nil ?_
      refine JE.then_normal ?_
      refine J.block ?_
      refine J.loop (α := Nat) (fun i => i ≤ mk) (fun i => [(0, .slice q mk kc), (1, .slice a m c'), (93, .int .i64 mk), (94, .int .i64 i)]) (fun _ => own 55 165 (.slice a (m + 1) c') (m + 1) (zs.flatMap seE ++ seE sea77) :: l) (fun i => mk - i) 0 (Nat.zero_le _) ⟨rfl, rfl, rfl, rfl, trivial⟩ (fun w h => h.sup (by (repeat (first | exact Sup.refl | apply Sup.cons (by (repeat (first | exact Pick.head | apply Pick.tail | apply Pick.app))) | apply Sup.app | apply Sup.skip | apply Sup.skips)))) ?_
      intro i2 hi2
      try dsimp only
      refine J.seq ?_
      refine J.region ?_
      refine JL.step (y_lss rfl rfl) rfl rfl rfl ?_
      refine JL.nil ?_
      refine JE.then_normal ?_
      refine J.seq ?_
      first | apply J.cond_dec rfl | apply J.cond rfl
      case' ht =>
        intro h
        try (first | (exfalso; omega) | (cases h; done) | (exfalso; simp at h; done) | subst h)
        all_goals
          refine J.skip ?_
      case' hf =>
        intro h
        try (first | (exfalso; omega) | (cases h; done) | (exfalso; simp at h; done) | subst h)
        all_goals
          refine J.exit ?_
          refine JE.then_exit ?_
          refine JE.then_exit ?_
          refine JE.block_exit ?_
          refine JE.then_normal ?_
          refine J.seq ?_
          refine J.region ?_
          refine JL.step (y_assign rfl) rfl rfl rfl ?_
          refine JL.nil ?_
          refine JE.then_normal ?_
          refine J.ret ?_
          refine JE.ret1 (.inl rfl) rfl rfl (by (first | exact RV.tmp rfl | exact RV.cell1 hT rfl rfl rfl (by (exact Rd1.row (by (repeat (first | exact Pick.head | apply Pick.tail | apply Pick.app))) (by rfl))) | exact RV.cellN hT rfl rfl rfl (by (first | exact RdN.rowAll (by (repeat (first | exact Pick.head | apply Pick.tail | apply Pick.app))) | exact RdN.own (by (repeat (first | exact Pick.head | apply Pick.tail | apply Pick.app))))) (by (first | rfl | assumption | (simp; done) | omega)))) ?_
          exact ⟨rfl, fun w h => h.sup (by (repeat (first | exact Sup.refl | apply Sup.cons (by (repeat (first | exact Pick.head | apply Pick.tail | apply Pick.app))) | apply Sup.app | apply Sup.skip | apply Sup.skips)))⟩
      all_goals refine JE.then_normal ?_
      all_goals
        refine J.seq ?_
        refine J.block ?_
        refine J.seq ?_
        refine J.region ?_
        refine JL.step (y_move rfl) rfl rfl rfl (JL.step (y_assign rfl) rfl rfl rfl ?_)
        refine JL.nil ?_
        refine JE.then_normal ?_
        refine J.seq ?_
        refine J.region ?_
        refine JL.step (y_move rfl) rfl rfl rfl (JL.step (y_len_slice hT rfl rfl rfl) rfl rfl rfl (JL.step (y_move rfl) rfl rfl rfl ?_))
        refine JL.nil ?_
        refine JE.then_normal ?_
        refine J.block ?_
        refine J.loop (α := Nat) (fun k => k ≤ mk) (fun k => [(0, .slice q mk kc), (1, .slice a m c'), (11, .int .i64 i2), (93, .int .i64 mk), (94, .int .i64 i2), (98, .int .i64 mk), (99, .int .i64 k)]) (fun _ => own 55 165 (.slice a (m + 1) c') (m + 1) (zs.flatMap seE ++ seE sea77) :: l) (fun k => mk - k) 0 (Nat.zero_le _) ⟨rfl, rfl, rfl, rfl, rfl, rfl, rfl, trivial⟩ (fun w h => h) ?_
        intro k hk
        try dsimp only
        refine J.seq ?_
        refine J.region ?_
        refine JL.step (y_lss rfl rfl) rfl rfl rfl ?_
        refine JL.nil ?_
        refine JE.then_normal ?_
        refine J.seq ?_
        first | apply J.cond_dec rfl | apply J.cond rfl
        case' ht =>
          intro h
          try (first | (exfalso; omega) | (cases h; done) | (exfalso; simp at h; done) | subst h)
          all_goals
            refine J.skip ?_
        case' hf =>
          intro h
          try (first | (exfalso; omega) | (cases h; done) | (exfalso; simp at h; done) | subst h)
          all_goals
            refine J.exit ?_
            refine JE.then_exit ?_
            refine JE.then_exit ?_
            refine JE.block_exit ?_
            refine JE.block_normal ?_
            refine JE.then_normal ?_
            refine J.region ?_
            refine JL.step (y_add rfl rfl (by (first | exact wrap_i64 (by omega) (by omega) | rfl))) rfl rfl rfl ?_
            refine JL.step (y_move rfl) rfl rfl rfl ?_
            refine JL.nil ?_
            exact JE.round (s := i2) (i2 + 1) (by omega) ⟨rfl, rfl, rfl, rfl, trivial⟩ (fun w h => h.sup (by (repeat (first | exact Sup.refl | apply Sup.cons (by (repeat (first | exact Pick.head | apply Pick.tail | apply Pick.app))) | apply Sup.app | apply Sup.skip | apply Sup.skips)))) (by omega)
        all_goals refine JE.then_normal ?_
        all_goals
          refine J.seq ?_
          refine J.block ?_
          refine J.seq ?_
          refine J.region ?_
          refine JL.step (y_move rfl) rfl rfl rfl (JL.step (y_assign rfl) rfl rfl rfl ?_)
          refine JL.nil ?_
          refine JE.then_normal ?_
          refine J.seq ?_
          refine J.region ?_
          refine JL.step (y_move rfl) rfl rfl rfl (JL.step (y_move rfl) rfl rfl rfl (JL.step (y_move rfl) rfl rfl rfl (JL.step (y_move rfl) rfl rfl rfl ?_)))
          refine JL.loud rfl (l_callF e25 rfl rfl (good_spec E q mk kc ks a m c' zs i2 k _ hkz hks32 (by omega) (by (repeat (first | assumption | apply InL.cons | apply InL.app))) hz (by omega) hzok (cutInS hz hzok oo (by (repeat (first | exact Pick.head | apply Pick.tail | apply Pick.app)))).2) ?_)
          rintro _ _ ⟨gs, a9, c9, hG, hGl, rfl, rfl⟩
          refine JL.step (y_move rfl) rfl rfl rfl (JL.step (y_move rfl) rfl rfl rfl (JL.step (y_move rfl) rfl rfl rfl (JL.step (y_move rfl) rfl rfl rfl ?_)))
          refine JL.loud rfl (l_callF e25 rfl rfl (good_spec E q mk kc ks a m c' zs k i2 _ hkz hks32 (by omega) (by (repeat (first | assumption | apply InL.cons | apply InL.app))) hz (by omega) hzok (cutInS hz hzok oo (by (repeat (first | exact Pick.head | apply Pick.tail | apply Pick.app)))).2) ?_)
          rintro _ _ ⟨gs2, a10, c10, hG2, hGl2, rfl, rfl⟩
          refine JL.step (y_assign rfl) rfl rfl rfl (JL.step (y_assign rfl) rfl rfl rfl ?_)
          refine JL.nil ?_
          refine JE.then_normal ?_
          refine J.seqK (α := Unit) (fun _ => True) (fun _ => [(0, .slice q mk kc), (1, .slice a m c'), (11, .int .i64 i2), (13, .slice a9 gs2.length c9), (93, .int .i64 mk), (94, .int .i64 i2), (98, .int .i64 mk), (99, .int .i64 k)]) (fun _ => own 35 1 (.slice a9 gs2.length c9) gs2.length (gs2.map (Value.int .u64)) :: own 55 165 (.slice a (m + 1) c') (m + 1) (zs.flatMap seE ++ seE sea77) :: l) ?hj23 (fun hk23 => ?hf23)
          case hf23 =>
            refine J.seq ?_
            obtain rfl := hG2.one hG.turn
            refine J.fact (fun w s => Sat.own_at (s.pick Pick.head)) fun o10 => ?_
            refine J.fact (fun w s => Sat.own_at (s.pick (Pick.tail Pick.head))) fun o9 => ?_
            have hsame : i2 = k → gs2.length = 0 := fun e => by subst e; rw [hG.same]; rfl
            have hsrt := hG.sort
            refine J.region ?_
            refine JL.step (y_move rfl) rfl rfl rfl (JL.step (y_move rfl) rfl rfl rfl ?_)
            refine JL.loud rfl (l_callF e20 rfl rfl (intsU_spec E a9 a10 gs2.length c9 c10 gs2 _ rfl (by omega) (o9.inl (by (repeat (first | exact Pick.head | apply Pick.tail | apply Pick.app)))) (o10.inl (by (repeat (first | exact Pick.head | apply Pick.tail | apply Pick.app))))) ?_)
            rintro _ _ ⟨rfl, rfl⟩
            refine JL.step (y_not rfl) rfl rfl rfl (JL.step (y_move rfl) rfl rfl rfl ?_)
            all_goals (first | (refine JL.gsplit_dec rfl rfl rfl (fun h => ?_) (fun h => ?_) <;> try (first | (exfalso; omega) | exact absurd rfl h)) | (refine JL.gsplit rfl rfl rfl (fun h => ?_) (fun h => ?_) <;> try (first | cases h | (exfalso; simp at h; done))) | skip)
            all_goals (first | refine JL.gskip rfl rfl rfl rfl rfl rfl ?_ | refine JL.gskipU rfl rfl rfl rfl rfl ?_ | refine JL.gstep rfl rfl rfl (y_move rfl) rfl rfl ?_)
            all_goals (first | refine JL.gskip rfl rfl rfl rfl rfl rfl ?_ | refine JL.gskipU rfl rfl rfl rfl rfl ?_ | refine JL.gstep rfl rfl rfl (y_move rfl) rfl rfl ?_)
            all_goals (first | refine JL.gskip rfl rfl rfl rfl rfl rfl ?_ | refine JL.gskipU rfl rfl rfl rfl rfl ?_ | refine JL.gstep rfl rfl rfl (y_eql rfl rfl) rfl rfl ?_)
            all_goals (first | refine JL.gskip rfl rfl rfl rfl rfl rfl ?_ | refine JL.gskipU rfl rfl rfl rfl rfl ?_ | refine JL.gstep rfl rfl rfl (y_move rfl) rfl rfl ?_)
            all_goals (first | (refine JL.gsplit_dec rfl rfl rfl (fun h => ?_) (fun h => ?_) <;> try (first | (exfalso; omega) | exact absurd rfl h)) | (refine JL.gsplit rfl rfl rfl (fun h => ?_) (fun h => ?_) <;> try (first | cases h | (exfalso; simp at h; done))) | skip)
            all_goals (first | refine JL.gskip rfl rfl rfl rfl rfl rfl ?_ | refine JL.gskipU rfl rfl rfl rfl rfl ?_ | refine JL.gstep rfl rfl rfl (y_move rfl) rfl rfl ?_)
            all_goals (first | refine JL.gskip rfl rfl rfl rfl rfl rfl ?_ | refine JL.gskipU rfl rfl rfl rfl rfl ?_ | refine JL.gstep rfl rfl rfl (y_len_slice hT rfl rfl rfl) rfl rfl ?_)
            all_goals (first | refine JL.gskip rfl rfl rfl rfl rfl rfl ?_ | refine JL.gskipU rfl rfl rfl rfl rfl ?_ | refine JL.gstep rfl rfl rfl (v := .bool false) (Y.val (y_neq rfl rfl) (by have := hsame (by omega); rw [decide_eq_false (by omega)])) rfl rfl ?_)
            all_goals (first | refine JL.gskip rfl rfl rfl rfl rfl rfl ?_ | refine JL.gskipU rfl rfl rfl rfl rfl ?_ | refine JL.gstep rfl rfl rfl (y_pick rfl rfl rfl) rfl rfl ?_)
            all_goals (refine JL.step (y_pick rfl rfl rfl) rfl rfl rfl ?_)
            all_goals refine JL.nil ?_
            all_goals refine JE.then_normal ?_
            all_goals
              refine J.cond_f rfl (by (first | rfl | assumption | (simp; done) | (simp; omega))) ?_
              refine J.skip ?_
            all_goals refine JE.then_normal ?_
            all_goals
              exact J.closeK hk23 () trivial ⟨rfl, rfl, rfl, rfl, rfl, rfl, rfl, rfl, trivial⟩ (fun w h => h.sup (by (repeat (first | exact Sup.refl | apply Sup.cons (by (repeat (first | exact Pick.head | apply Pick.tail | apply Pick.app))) | apply Sup.app | apply Sup.skip | apply Sup.skips))))
          rintro _ _
          try dsimp only
          refine J.fact (fun w s => Sat.own_at (s.pick Pick.head)) fun o9 => ?_
          have hsrt := hG2.sort
          refine J.seq ?_
          refine J.region ?_
          refine JL.step (y_move rfl) rfl rfl rfl (JL.step (y_len_slice hT rfl rfl rfl) rfl rfl rfl (JL.step (y_move rfl) rfl rfl rfl ?_))
          refine JL.nil ?_
          refine JE.then_normal ?_
          refine J.block ?_
          refine J.loop (α := Nat) (fun j => j ≤ gs2.length) (fun j => [(0, .slice q mk kc), (1, .slice a m c'), (11, .int .i64 i2), (13, .slice a9 gs2.length c9), (93, .int .i64 mk), (94, .int .i64 i2), (98, .int .i64 mk), (99, .int .i64 k), (127, .int .i64 gs2.length), (128, .int .i64 j)]) (fun _ => own 35 1 (.slice a9 gs2.length c9) gs2.length (gs2.map (Value.int .u64)) :: own 55 165 (.slice a (m + 1) c') (m + 1) (zs.flatMap seE ++ seE sea77) :: l) (fun j => gs2.length - j) 0 (Nat.zero_le _) ⟨rfl, rfl, rfl, rfl, rfl, rfl, rfl, rfl, rfl, rfl, trivial⟩ (fun w h => h) ?_
          intro j hj
          try dsimp only
          refine J.seq ?_
          refine J.region ?_
          refine JL.step (y_lss rfl rfl) rfl rfl rfl ?_
          refine JL.nil ?_
          refine JE.then_normal ?_
          refine J.seq ?_
          first | apply J.cond_dec rfl | apply J.cond rfl
          case' ht =>
            intro h
            try (first | (exfalso; omega) | (cases h; done) | (exfalso; simp at h; done) | subst h)
            all_goals
              refine J.skip ?_
          case' hf =>
            intro h
            try (first | (exfalso; omega) | (cases h; done) | (exfalso; simp at h; done) | subst h)
            all_goals
              refine J.exit ?_
              refine JE.then_exit ?_
              refine JE.then_exit ?_
              refine JE.block_exit ?_
              refine JE.block_normal ?_
              refine JE.then_normal ?_
              refine J.region ?_
              refine JL.step (y_add rfl rfl (by (first | exact wrap_i64 (by omega) (by omega) | rfl))) rfl rfl rfl ?_
              refine JL.step (y_move rfl) rfl rfl rfl ?_
              refine JL.nil ?_
              exact JE.round (s := k) (k + 1) (by omega) ⟨rfl, rfl, rfl, rfl, rfl, rfl, rfl, trivial⟩ (fun w h => h.sup (by (repeat (first | exact Sup.refl | apply Sup.cons (by (repeat (first | exact Pick.head | apply Pick.tail | apply Pick.app))) | apply Sup.app | apply Sup.skip | apply Sup.skips)))) (by omega)
          all_goals refine JE.then_normal ?_
          all_goals
            refine J.seq ?_
            refine J.block ?_
            refine J.seq ?_
            refine J.region ?_
            refine JL.step (y_move rfl) rfl rfl rfl (JL.step (y_assign rfl) rfl rfl rfl ?_)
            refine JL.nil ?_
            refine JE.then_normal ?_
            refine J.seq ?_
            obtain ⟨g9, o9', rfl, hr9⟩ := (o9.inl (l := own 35 1 (.slice a9 gs2.length c9) gs2.length (gs2.map (Value.int .u64)) :: own 55 165 (.slice a (m + 1) c') (m + 1) (zs.flatMap seE ++ seE sea77) :: l) Pick.head).addr (by omega)
            obtain ⟨y, hy⟩ : ∃ y, gs2[j]? = some y := ⟨gs2[j]'(by omega), List.getElem?_eq_getElem _⟩
            by_cases hg : 0 < j
            obtain ⟨x, hx⟩ : ∃ x, gs2[j - 1]? = some x := ⟨gs2[j - 1]'(by omega), List.getElem?_eq_getElem _⟩
            have hxy : x < y := by
              obtain ⟨i1, e1⟩ := List.getElem?_eq_some_iff.1 hx
              obtain ⟨i2, e2⟩ := List.getElem?_eq_some_iff.1 hy
              have := List.pairwise_iff_getElem.1 hsrt (j - 1) j i1 i2 (by omega)
              rw [e1, e2] at this
              exact this
            all_goals
              refine J.draw _ _ [(0, .q), (1, .q), (2, .q), (3, .q), (4, .q), (5, .q), (6, .q), (7, .q), (8, .q), (9, .q), (10, .q), (11, .q), (12, .q), (13, .q)] mixed (by kernel_rfl) (Split.nil) ?_
              refine JM.quiet rfl rfl rfl rfl (fun m => y_move rfl) ?_
              first | refine JM.quiet rfl rfl rfl rfl (fun m => y_gtrB rfl rfl (decide_eq_true (by omega))) ?_ | refine JM.quiet rfl rfl rfl rfl (fun m => y_gtrB rfl rfl (decide_eq_false (by omega))) ?_
              refine JM.quiet rfl rfl rfl rfl (fun m => y_move rfl) ?_
              all_goals (first | refine JM.gskip rfl rfl rfl rfl rfl rfl rfl ?_ | refine JM.gskipU rfl rfl rfl rfl rfl rfl ?_ | refine JM.gquiet rfl rfl rfl rfl rfl rfl (fun m => y_move rfl) ?_)
              all_goals (first | refine JM.gskip rfl rfl rfl rfl rfl rfl rfl ?_ | refine JM.gskipU rfl rfl rfl rfl rfl rfl ?_ | refine JM.gquiet rfl rfl rfl rfl rfl rfl (fun m => y_move rfl) ?_)
              all_goals (first | refine JM.gskip rfl rfl rfl rfl rfl rfl rfl ?_ | refine JM.gskipU rfl rfl rfl rfl rfl rfl ?_ | refine JM.gquiet rfl rfl rfl rfl rfl rfl (fun m => y_sub rfl rfl (by (first | exact wrap_i64 (by omega) (by omega) | rfl))) ?_)
              all_goals (first | refine JM.gskip rfl rfl rfl rfl rfl rfl rfl ?_ | refine JM.gskipU rfl rfl rfl rfl rfl rfl ?_ | refine JM.gquiet rfl rfl rfl rfl rfl rfl (fun m => y_indexAddr_slice hT rfl rfl rfl rfl rfl (by (first | omega | exact Nat.le_of_ble_eq_true rfl | decide | (simp; omega))) (by (first | omega | exact Nat.le_of_ble_eq_true rfl | decide | (simp; omega)))) ?_)
              all_goals (first | refine JM.gskip rfl rfl rfl rfl rfl rfl rfl ?_ | refine JM.gskipU rfl rfl rfl rfl rfl rfl ?_ | refine JM.gquiet rfl rfl rfl rfl rfl rfl (fun m => y_load1 hT rfl rfl rfl (Rd1.elem ((hr9 []).app m) (by rw [show ((j : Int) - 1).toNat = j - 1 by omega, List.getElem?_map, hx]; rfl))) ?_)
              all_goals (first | refine JM.gskip rfl rfl rfl rfl rfl rfl rfl ?_ | refine JM.gskipU rfl rfl rfl rfl rfl rfl ?_ | refine JM.gquiet rfl rfl rfl rfl rfl rfl (fun m => y_move rfl) ?_)
              all_goals (first | refine JM.gskip rfl rfl rfl rfl rfl rfl rfl ?_ | refine JM.gskipU rfl rfl rfl rfl rfl rfl ?_ | refine JM.gquiet rfl rfl rfl rfl rfl rfl (fun m => y_move rfl) ?_)
              all_goals (first | refine JM.gskip rfl rfl rfl rfl rfl rfl rfl ?_ | refine JM.gskipU rfl rfl rfl rfl rfl rfl ?_ | refine JM.gquiet rfl rfl rfl rfl rfl rfl (fun m => y_indexAddr_slice hT rfl rfl rfl rfl rfl (by (first | omega | exact Nat.le_of_ble_eq_true rfl | decide | (simp; omega))) (by (first | omega | exact Nat.le_of_ble_eq_true rfl | decide | (simp; omega)))) ?_)
              all_goals (first | refine JM.gskip rfl rfl rfl rfl rfl rfl rfl ?_ | refine JM.gskipU rfl rfl rfl rfl rfl rfl ?_ | refine JM.gquiet rfl rfl rfl rfl rfl rfl (fun m => y_load1 hT rfl rfl rfl (Rd1.elem ((hr9 []).app m) (by rw [Int.toNat_natCast, List.getElem?_map, hy]; rfl))) ?_)
              all_goals (first | refine JM.gskip rfl rfl rfl rfl rfl rfl rfl ?_ | refine JM.gskipU rfl rfl rfl rfl rfl rfl ?_ | refine JM.gquiet rfl rfl rfl rfl rfl rfl (fun m => y_geqB rfl rfl (decide_eq_false (by omega))) ?_)
              all_goals refine JM.quiet rfl rfl rfl rfl (fun m => y_pick rfl rfl rfl) ?_
              all_goals refine JM.nil ?_
            all_goals refine JE.then_normal ?_
            all_goals
              refine J.cond_f rfl (by (first | rfl | assumption | (simp; done) | (simp; omega))) ?_
              refine J.skip ?_
            all_goals refine JE.block_normal ?_
            all_goals refine JE.then_normal ?_
            all_goals
              refine J.region ?_
              refine JL.step (y_add rfl rfl (by (first | exact wrap_i64 (by omega) (by omega) | rfl))) rfl rfl rfl ?_
              refine JL.step (y_move rfl) rfl rfl rfl ?_
              refine JL.nil ?_
          all_goals
            exact JE.round (s := j) (j + 1) (by omega) ⟨rfl, rfl, rfl, rfl, rfl, rfl, rfl, rfl, rfl, rfl, trivial⟩ (fun w h => h) (by omega)
  all_goals refine JE.then_normal ?_
  all_goals
    refine J.seq ?_
    refine J.block ?_
    refine J.seq ?_
    obtain ⟨z, hzt⟩ : ∃ z, xs[i]? = some z := ⟨xs[i]'(by omega), List.getElem?_eq_getElem _⟩
    obtain ⟨jj, s, rfl, hjs, hop⟩ := hmem z (List.mem_of_getElem? hzt)
    have hjl : jj < m := by rw [← hz]; exact (List.getElem?_eq_some_iff.1 hjs).1
    have hL := (cutInS (L := own 3 1 (.slice a5 xs.length c5) xs.length (xs.map (Value.int .i64)) :: own 55 165 (.slice a (m + 1) c') (m + 1) (zs.flatMap seE ++ seE sea77) :: l) hz hzok oo (by (repeat (first | exact Pick.head | apply Pick.tail | apply Pick.app)))).2
    obtain ⟨g5, o5', rfl, hr5⟩ := (o5.inl (l := own 3 1 (.slice a5 xs.length c5) xs.length (xs.map (Value.int .i64)) :: own 55 165 (.slice a (m + 1) c') (m + 1) (zs.flatMap seE ++ seE sea77) :: l) Pick.head).addr (by omega)
    obtain ⟨g1, o1, rfl, hr1⟩ := hL.addr (by omega)
    refine J.region ?_
    refine JL.step (y_indexAddr_slice hT rfl rfl rfl rfl rfl (by (first | omega | exact Nat.le_of_ble_eq_true rfl | decide | (simp; omega))) (by (first | omega | exact Nat.le_of_ble_eq_true rfl | decide | (simp; omega)))) rfl rfl rfl ?_
    refine JL.step (y_load1 hT rfl rfl rfl (Rd1.elem (hr5 []) (by rw [Int.toNat_natCast, List.getElem?_map, hzt]; rfl))) rfl rfl rfl ?_
    refine JL.step (y_assign rfl) rfl rfl rfl ?_
    refine JL.nil ?_
    refine JE.then_normal ?_
    refine J.seq ?_
    refine J.region ?_
    refine JL.step (y_move rfl) rfl rfl rfl ?_
    refine JL.step (v := .bool false) (Y.val (y_lss rfl rfl) (by rw [decide_eq_false (by omega)])) rfl rfl rfl ?_
    refine JL.step (y_move rfl) rfl rfl rfl ?_
    all_goals (first | (refine JL.gsplit_dec rfl rfl rfl (fun h => ?_) (fun h => ?_) <;> try (first | (exfalso; omega) | exact absurd rfl h)) | (refine JL.gsplit rfl rfl rfl (fun h => ?_) (fun h => ?_) <;> try (first | cases h | (exfalso; simp at h; done))) | skip)
    all_goals (first | refine JL.gskip rfl rfl rfl rfl rfl rfl ?_ | refine JL.gskipU rfl rfl rfl rfl rfl ?_ | refine JL.gstep rfl rfl rfl (y_move rfl) rfl rfl ?_)
    all_goals (first | refine JL.gskip rfl rfl rfl rfl rfl rfl ?_ | refine JL.gskipU rfl rfl rfl rfl rfl ?_ | refine JL.gstep rfl rfl rfl (y_move rfl) rfl rfl ?_)
    all_goals (first | refine JL.gskip rfl rfl rfl rfl rfl rfl ?_ | refine JL.gskipU rfl rfl rfl rfl rfl ?_ | refine JL.gstep rfl rfl rfl (y_len_slice hT rfl rfl rfl) rfl rfl ?_)
    all_goals (first | refine JL.gskip rfl rfl rfl rfl rfl rfl ?_ | refine JL.gskipU rfl rfl rfl rfl rfl ?_ | refine JL.gstep rfl rfl rfl (v := .bool false) (Y.val (y_geq rfl rfl) (by rw [decide_eq_false (by omega)])) rfl rfl ?_)
    all_goals (refine JL.step (y_pick rfl rfl rfl) rfl rfl rfl ?_)
    all_goals (refine JL.step (y_move rfl) rfl rfl rfl ?_)
    all_goals (first | (refine JL.gsplit_dec rfl rfl rfl (fun h => ?_) (fun h => ?_) <;> try (first | (exfalso; omega) | exact absurd rfl h)) | (refine JL.gsplit rfl rfl rfl (fun h => ?_) (fun h => ?_) <;> try (first | cases h | (exfalso; simp at h; done))) | skip)
    all_goals (first | refine JL.gskip rfl rfl rfl rfl rfl rfl ?_ | refine JL.gskipU rfl rfl rfl rfl rfl ?_ | refine JL.gstep rfl rfl rfl (y_move rfl) rfl rfl ?_)
    all_goals (first | refine JL.gskip rfl rfl rfl rfl rfl rfl ?_ | refine JL.gskipU rfl rfl rfl rfl rfl ?_ | refine JL.gstep rfl rfl rfl (y_move rfl) rfl rfl ?_)
    all_goals (first | refine JL.gskip rfl rfl rfl rfl rfl rfl ?_ | refine JL.gskipU rfl rfl rfl rfl rfl ?_ | refine JL.gstep rfl rfl rfl (y_indexAddr_slice hT rfl rfl rfl rfl rfl (by (first | omega | exact Nat.le_of_ble_eq_true rfl | decide | (simp; omega))) (by (first | omega | exact Nat.le_of_ble_eq_true rfl | decide | (simp; omega)))) rfl rfl ?_)
    all_goals (first | refine JL.gskip rfl rfl rfl rfl rfl rfl ?_ | refine JL.gskipU rfl rfl rfl rfl rfl ?_ | refine JL.gstep rfl rfl rfl (y_fieldAddr hT rfl rfl rfl rfl rfl rfl) rfl rfl ?_)
    all_goals (first | refine JL.gskip rfl rfl rfl rfl rfl rfl ?_ | refine JL.gskipU rfl rfl rfl rfl rfl ?_ | refine JL.gstep rfl rfl rfl (y_fieldAddr hT rfl rfl rfl rfl rfl rfl) rfl rfl ?_)
    all_goals (first | refine JL.gskip rfl rfl rfl rfl rfl rfl ?_ | refine JL.gskipU rfl rfl rfl rfl rfl ?_ | refine JL.gstep rfl rfl rfl (y_load1 hT rfl rfl rfl (Rd1.ofN (v := .bool true) (j := 1) (RdN.elem (hr1 []) (fun x hx => seE_length (hzok x hx)) hjs) (by rw [← hop]; rfl))) rfl rfl ?_)
    all_goals (first | refine JL.gskip rfl rfl rfl rfl rfl rfl ?_ | refine JL.gskipU rfl rfl rfl rfl rfl ?_ | refine JL.gstep rfl rfl rfl (y_not rfl) rfl rfl ?_)
    all_goals (refine JL.step (y_pick rfl rfl rfl) rfl rfl rfl ?_)
    all_goals refine JL.nil ?_
    all_goals refine JE.then_normal ?_
    all_goals
      refine J.cond_f rfl (by (first | rfl | assumption | (simp; done) | (simp; omega))) ?_
      refine J.skip ?_
    all_goals refine JE.block_normal ?_
    all_goals refine JE.then_normal ?_
    all_goals
      refine J.region ?_
      refine JL.step (y_add rfl rfl (by (first | exact wrap_i64 (by omega) (by omega) | rfl))) rfl rfl rfl ?_
      refine JL.step (y_move rfl) rfl rfl rfl ?_
      refine JL.nil ?_
  all_goals
    exact JE.round (s := i) (i + 1) (by omega) ⟨rfl, rfl, rfl, rfl, rfl, trivial⟩ (fun w h => h) (by omega)
end
section
open Go.ChangeShapes Go.WideShapes Go.ChangeAt Go.RowKit
theorem watch_covers_reads : ∀ t ∈ Tryd.f8.params.toList, Tryd.prog.readableRec t = true ∧ t < Tryd.prog.types.size := by
  rw [Tryd.params8]
  intro t ht
  simp only [List.mem_cons, List.not_mem_nil, or_false] at ht
  rcases ht with rfl | rfl | rfl
  all_goals exact ⟨by kernel_rfl, of_decide_eq_true (by kernel_rfl)⟩
set_option maxRecDepth 100000 in
theorem watch_covers_contract (H : Type) (enc : TypeId × Value → H) (W : World) (base : Nat) (args : Array Value) (ds gs : List (DataW H)) (before : List MemPlace)
    (hval : ∀ (j : Nat) t v, Tryd.f8.params[j]? = some t → args[j]? = some v → Value.okWide Tryd.prog W .any base t v)
    (hW : DataW.Whole enc Tryd.prog Tryd.f8.params.toList Rows.watchCoversSpec.vars false W args.toList ds gs before) (hL : laidMetH Tryd.prog Rows.watchCoversRow.laid W) :
    Calls Tryd.prog 8 args W fun e W' => ∃ v, e = .returned v ∧ Rows.watchCoversSpec.post enc Tryd.prog Tryd.f8 false true false false W args v W' := by
  have hW' := hW
  obtain ⟨p, q, hA0, hV, rfl, hfz, hnd⟩ := hW
  have hA : DataW.TrodAll enc Tryd.prog W 0 (fun _ => true) true Tryd.f8.params.toList args.toList ds p := hA0
  rw [Tryd.params8] at hA hval
  obtain ⟨v0, vs0, d0, ds0, p0, q0, hargs, rfl, rfl, h0, r0⟩ := trodAll_cons hA
  obtain ⟨v1, vs1, d1, ds1, p1, q1, rfl, rfl, rfl, h1, r1⟩ := trodAll_cons r0
  obtain ⟨v2, vs2, d2, ds2, p2, q2, rfl, rfl, rfl, h2, r2⟩ := trodAll_cons r1
  obtain ⟨rfl, rfl, rfl⟩ := trodAll_nil r2
  obtain rfl : args = #[v0, v1, v2] := by cases args; simp_all
  obtain ⟨rfl, rfl⟩ := trodVars_none hV
  clear hA0
  have t0 : Tr enc prog (fun _ => True) W 40 [v0] := Tr.ofSlice u40 (hval 0 40 v0 rfl rfl) h0 trivial
  have t1 : Tr enc prog (fun _ => True) W 41 [v1] := Tr.ofSlice u41 (hval 1 41 v1 rfl rfl) h1 trivial
  have t2 : Tr enc prog (fun _ => True) W 41 [v2] := Tr.ofSlice u41 (hval 2 41 v2 rfl rfl) h2 trivial
  obtain ⟨kp, kc, keys, rfl, _, hk32, hkin⟩ := tr_keys Her.all t0
  obtain ⟨p, cap, xs, rfl, _, hok, hin⟩ := tr_seals Her.all t1
  obtain ⟨p2, cap2, xs2, rfl, _, hok2, hin2⟩ := tr_seals Her.all t2
  refine ((watch_covers W kp keys.length kc keys p xs.length cap xs p2 xs2.length cap2 xs2 [old W] rfl hk32 (hkin.inl []) rfl hok (hin.inl []) rfl hok2 (hin2.inl []) (T10.old (table30 hL) Pick.head)) W (Sat.start W)).mono fun e W' hq => ?_
  obtain ⟨v, l', rfl, hs, rfl, rfl⟩ := hq
  exact ⟨_, rfl, law_post laidOut_ rfl rfl u4 watch_covers_reads hW' rfl rfl rfl hs.below⟩
set_option maxRecDepth 100000 in
theorem watch_covers_lifted (os : Os) (started : os.Started) (H : Type) (enc : TypeId × Value → H) (F : Stop.Interp) :
    ReturnsInHanded {} Tryd.checked os 8 .any ((OpenSpec.ofChange Rows.watchCoversSpec).preRow enc Tryd.prog Tryd.f8 Rows.watchCoversRow.domain false Rows.watchCoversRow.laid) (((OpenSpec.ofChange Rows.watchCoversSpec).at F).post enc Tryd.prog Tryd.f8 false true false false) := by
  have hx : ∃ places, DataW.whole enc Tryd.prog ((laidWorld os).forCall (fun _ _ => 0) ⟨#[], #[.slice none 0 0, .slice none 0 0, .slice none 0 0], []⟩).memory Tryd.f8.params.toList Rows.watchCoversSpec.vars false (#[.slice none 0 0, .slice none 0 0, .slice none 0 0] : Array Value).toList 8 = some ([.nil, .nil, .nil], [], places) := ⟨[], by kernel_rfl⟩
  obtain ⟨places, hx⟩ := hx
  refine returnsInHanded_of_row (C := Tryd.checked) (s := OpenSpec.ofChange Rows.watchCoversSpec) own_ started (by kernel_rfl) Tryd.func8
    (witness_row_at (enc := enc) (C := Tryd.checked) false (laidWorld os) #[.slice none 0 0, .slice none 0 0, .slice none 0 0] rfl (by kernel_rfl) (by kernel_rfl) (by kernel_rfl)
      (OpenSpec.preRow_of_cond 8 hx (by kernel_rfl) (fun k hk => by cases hk) (by kernel_rfl) (laid_met os _))) ?_
  intro W base args ds gs before hval hW _ hk _ hL _ _
  exact watch_covers_contract H enc W base args ds gs before hval hW hL
theorem watch_covers_said : Rows.WatchCoversSaid :=
  OpenClaim.holds_of_cond 8 Tryd.f8 rfl rfl rfl rfl rfl rfl rfl ⟨rfl, rfl, rfl, rfl, rfl⟩ rfl rfl rfl rfl rfl (by kernel_rfl) Tryd.func8 (by kernel_rfl)
    (of_decide_eq_true (by kernel_rfl)) (by unfold Func.isWrapper; first | (rw [if_pos (by decide +kernel)]; kernel_rfl) | (rw [if_neg (by decide +kernel)]; exact ⟨rfl, rfl⟩))
    (fun os started H enc _ F => by rw [OpenClaim.pre_eq_preRow]; exact watch_covers_lifted os started H enc F)
set_option maxRecDepth 100000 in
theorem watch_covers_plain (f : FuncId) (fn : Func) (hf : Tryd.pinned.checked.prog.funcNamed Rows.watchCoversRow.func = some f) (hfn : Tryd.pinned.checked.prog.funcs[f]? = some fn) :
    false = Tryd.pinned.checked.prog.looks [] ∧ ∀ (j : Nat) t, fn.params[j]? = some t → Tryd.pinned.checked.prog.wantsStandIn t = false := by
  obtain rfl : f = 8 := Option.some.inj ((show Tryd.prog.funcNamed Rows.watchCoversRow.func = some 8 by kernel_rfl).symm.trans hf) |>.symm
  obtain rfl : fn = Tryd.f8 := (Option.some.inj (Tryd.func8.symm.trans hfn)).symm
  refine ⟨by kernel_rfl, fun j t ht => ?_⟩
  rw [Tryd.params8] at ht
  have hm := Array.mem_of_getElem? ht
  simp only [List.mem_toArray, List.mem_cons, List.not_mem_nil, or_false] at hm
  rcases hm with rfl | rfl | rfl
  · exact (show Tryd.prog.wantsStandIn 40 = false by kernel_rfl)
  · exact (show Tryd.prog.wantsStandIn 41 = false by kernel_rfl)
  · exact (show Tryd.prog.wantsStandIn 41 = false by kernel_rfl)
theorem watch_covers_holds : Rows.WatchCoversCardSaid :=
  Claim7.holds_tied_plain_at .later [] _ _ _ _ watch_covers_said (fun _ h => by cases h) (by kernel_rfl) (fun _ h => by cases h) watchCovers_row_tie rfl ⟨rfl, rfl⟩ (by kernel_rfl) rfl watch_covers_plain (by kernel_rfl)
end
end Go.Proofs.YtfohdnclpbipeaaDoor
