
/-
  hollowtreelaw30.WatchSeals returns true for every input, and leaves its input as it was. No condition but that the tables of the program's text are laid.
-/
import Derived.Test.YtfohdnclpbipeaaDoorJoin7
import Derived.Test.YtfohdnclpbipeaaDoorJoin9
namespace Go.Proofs.YtfohdnclpbipeaaDoor
open Go Go.SL
section
theorem keys_cut {l : List HProp} {kp : Option Addr} {kn kc : Nat} {keys : List (List Int)} (hkn : keys.length = kn) (hk32 : ∀ k ∈ keys, k.length = 32) (hkin : InL l kp kn kc (keys.flatMap (ints .u8))) (mk : Nat) (hmk : mk ≤ kn) :
    ∃ b off, (kp = some ⟨b, off, none⟩ ∨ kc = 0) ∧ InL l (if kc = 0 then kp else some ⟨b, off + 0 * 32, none⟩) (mk - 0) (kc - 0) ((keys.take mk).flatMap (ints .u8)) := by
  have hs : ∀ x ∈ keys, (ints .u8 x).length = 32 := fun x hx => by simp [ints, hk32 x hx]
  obtain ⟨b, off, h1, h2⟩ := hkin.part (lo := 0) (hi := mk) (k := 32) (Nat.zero_le _) hmk (by rw [seg_len hs, hkn])
  rw [Nat.zero_mul, List.drop_zero, Nat.sub_zero, seg_take hs] at h2
  exact ⟨b, off, h1, by simpa using h2⟩
end
section
attribute [local irreducible] J JL JE JM LS Y Fc RV Code.wp wpList Code.wpIn wpListIn
attribute [local irreducible] Yc
variable (E : World)
theorem watch_seals (kp : Option Addr) (kn kc : Nat) (keys : List (List Int)) (p : Option Addr) (n c : Nat) (ws : List SealT) (who : Int) (l : List HProp)
    (hkn : keys.length = kn) (hk32 : ∀ k ∈ keys, k.length = 32) (hkin : InL l kp kn kc (keys.flatMap (ints .u8)))
    (hn : ws.length = n) (hok : ∀ w ∈ ws, SeOk w) (hin : InL l p n c (ws.flatMap seE)) (ht : T10 E l) :
    Fc prog E 7 [.slice kp kn kc, .slice p n c, .int .i64 who].toArray l (fun v l' => v = .bool true ∧ l' = l) := by
  refine Fc.eqs ?_
  obtain ⟨m, hm⟩ : ∃ m, m = min n 60 := ⟨_, rfl⟩
  obtain ⟨zs, hzs⟩ : ∃ zs, ws.take m = zs := ⟨_, rfl⟩
  have hz : zs.length = m := by rw [← hzs, List.length_take]; omega
  have hzok : ∀ w ∈ zs, SeOk w := fun w h => hok w (List.mem_of_mem_take (hzs ▸ h))
  have hm8 : m ≤ 60 := by omega
  have hcut := fun l' hin => short_spec E p n c m ws l' hn hm hok hin
  rw [hzs] at hcut
  obtain ⟨mk, hmk⟩ : ∃ m, m = min kn 6 := ⟨_, rfl⟩
  obtain ⟨gb, ob, hp0, hpt⟩ := keys_cut hkn hk32 hkin mk (by omega)
  have hle := hkin.le
  obtain ⟨q, hq⟩ : ∃ q, (if kc = 0 then kp else some ⟨gb, ob + 0 * 32, none⟩) = q := ⟨_, rfl⟩
  rw [hq, Nat.sub_zero, Nat.sub_zero] at hpt
  obtain ⟨ks, hks⟩ : ∃ ks, keys.take mk = ks := ⟨_, rfl⟩
  have hkz : ks.length = mk := by rw [← hks, List.length_take]; omega
  have hks32 : ∀ k ∈ ks, k.length = 32 := fun k h => hk32 k (List.mem_of_mem_take (hks ▸ h))
  rw [hks] at hpt
  obtain ⟨u, hu, hu64⟩ : ∃ u : Nat, IntKind.u64.wrap who = u ∧ u < 18446744073709551616 := by
    rw [IntKind.wrap_u64]
    exact ⟨(who % 18446744073709551616).toNat, by omega, by omega⟩
  have tm : ∀ x : Nat, ((x : Int).tmod 7) = ((x % 7 : Nat) : Int) := fun x => by rw [Int.tmod_eq_emod_of_nonneg (by omega)]; omega
  have td : IntKind.u64.wrap ((u : Int).tdiv 7) = ((u / 7 : Nat) : Int) := by rw [Int.tdiv_eq_ediv_of_nonneg (by omega), IntKind.wrap_u64]; omega
  refine Fc.of_body (c := ?codeC) Tryd.func7 ?hb Tryd.ntmps7 ?hl ?_
  case hb => exact rfl
  case hl => exact rfl
  refine J.seq ?_
  refine J.region ?_
  refine JL.step (y_assign rfl) rfl rfl rfl ?_
  refine JL.nil ?_
  refine JE.then_normal ?_
  refine J.seq ?_
  refine J.seq ?_
  refine J.region ?_
  refine JL.loud rfl (l_callF e11 rfl rfl (wakes_spec E _ ht) ?_)
  rintro _ l1 ⟨rfl, e1⟩
  obtain rfl := e1.symm
  refine JL.step (y_not rfl) rfl rfl rfl ?_
  refine JL.nil ?_
  refine JE.then_normal ?_
  refine J.cond_f rfl (by (first | rfl | assumption | (simp; done) | (simp; omega))) ?_
  refine J.skip ?_
  refine JE.then_normal ?_
  refine J.seq ?_
  refine J.draw _ _ [(0, .q), (1, .q), (2, .q), (3, .q), (4, .q), (5, .q), (6, .l), (7, .q), (8, .q)] mixed (by kernel_rfl) (Split.nil) ?_
  refine JM.quiet rfl rfl rfl rfl (fun m => y_move rfl) ?_
  refine JM.quiet rfl rfl rfl rfl (fun m => y_move rfl) ?_
  refine JM.quiet rfl rfl rfl rfl (fun m => y_len_slice hT rfl rfl rfl) ?_
  refine JM.quiet rfl rfl rfl rfl (fun m => y_min2 (m := (mk : Int)) rfl rfl (by omega)) ?_
  refine JM.quiet rfl rfl rfl rfl (fun m => Y.cast (u := .slice q mk kc) (y_slice (lo := 0) (hi := mk) hT rfl rfl rfl rfl (.inl ⟨rfl, rfl⟩) (.inr ⟨_, _, _, rfl, rfl, rfl⟩) (by omega) (by omega) hle hp0) (by rw [← hq]; rfl)) ?_
  refine JM.quiet rfl rfl rfl rfl (fun m => y_move rfl) ?_
  refine JM.loud rfl rfl (fun fr => l_callF e21 rfl rfl (hcut _ (hin.app fr)) ?_)
  rintro _ _ ⟨a, c', hc', rfl, rfl⟩
  refine ⟨[_], (by (repeat (first | exact Split.nil | exact Split.all | refine Split.cons Pick.head ?_))), ?_⟩
  refine JM.quiet rfl rfl rfl rfl (fun m => y_assign rfl) ?_
  refine JM.quiet rfl rfl rfl rfl (fun m => y_assign rfl) ?_
  refine JM.nil ?_
  refine JE.then_normal ?_
  refine J.seq ?_
  try dsimp only [List.nil_append, List.cons_append]
  refine J.fact (fun w s => Sat.own_at (s.pick Pick.head)) fun oo => ?_
  refine J.region ?_
  refine JL.loud rfl (l_buildSlice0 hT rfl rfl rfl rfl (fun b3 => ?_))
  refine JL.step (y_move rfl) rfl rfl rfl ?_
  refine JL.loud rfl (l_appendIn hT rfl rfl rfl rfl rfl rfl rfl rfl (by (repeat (first | exact Pick.head | apply Pick.tail | apply Pick.app))) (cutInS hz hzok oo (by (repeat (first | exact Pick.head | apply Pick.tail | apply Pick.app)))).2 (by rw [show i55.size = 165 from rfl, ses_len hzok, hz]) (ses_one zs) (by rw [show i55.bytes = 192 from rfl]; omega) (by omega) rfl (fun a4 c4 hc4 => ?_))
  refine JL.step (y_assign rfl) rfl rfl rfl ?_
  refine JL.nil ?_
  refine JE.then_normal ?_
  refine J.seq ?_
  refine J.pre (l' := own 55 165 (.slice a4 m c4) m (zs.flatMap seE) :: own 55 165 (.slice a (m + 1) c') (m + 1) (zs.flatMap seE ++ seE sea77) :: l) (fun w s => by rw [Nat.zero_add] at s; exact s) ?_
  refine J.fact (fun w s => Sat.own_at (s.pick Pick.head)) fun oo4 => ?_
  rw [Nat.zero_add]
  refine J.region ?_
  refine JL.step (y_move rfl) rfl rfl rfl ?_
  refine JL.step (y_conv (m := (u : Int)) hT rfl rfl rfl rfl hu) rfl rfl rfl ?_
  refine JL.step (y_rem (m := ((u % 7 : Nat) : Int)) rfl rfl (by decide) (tm u)) rfl rfl rfl ?_
  refine JL.step (y_conv (m := ((u % 7 : Nat) : Int)) hT rfl rfl rfl rfl (wrap_i64 (by omega) (by omega))) rfl rfl rfl ?_
  refine JL.step (y_sub rfl rfl (by (first | exact wrap_i64 (by omega) (by omega) | rfl))) rfl rfl rfl ?_
  refine JL.step (y_move rfl) rfl rfl rfl ?_
  refine JL.step (y_conv (m := (u : Int)) hT rfl rfl rfl rfl hu) rfl rfl rfl ?_
  refine JL.step (y_quo (m := ((u / 7 : Nat) : Int)) rfl rfl (by decide) td) rfl rfl rfl ?_
  refine JL.step (y_rem (m := ((u / 7 % 7 : Nat) : Int)) rfl rfl (by decide) (tm (u / 7))) rfl rfl rfl ?_
  refine JL.step (y_conv (m := ((u / 7 % 7 : Nat) : Int)) hT rfl rfl rfl rfl (wrap_i64 (by omega) (by omega))) rfl rfl rfl ?_
  refine JL.step (y_sub rfl rfl (by (first | exact wrap_i64 (by omega) (by omega) | rfl))) rfl rfl rfl ?_
  refine JL.step (y_assign rfl) rfl rfl rfl (JL.step (y_assign rfl) rfl rfl rfl ?_)
  refine JL.nil ?_
  refine JE.then_normal ?_
  refine J.seq ?_
  obtain ⟨A, hA⟩ : ∃ A : Int, ((u % 7 : Nat) : Int) - 1 = A := ⟨_, rfl⟩
  obtain ⟨B, hB⟩ : ∃ B : Int, ((u / 7 % 7 : Nat) : Int) - 1 = B := ⟨_, rfl⟩
  rw [hA, hB]
  have hal := accI_length (readF ks zs).2.1
  have hcl := calls_length ks zs
  obtain ⟨xs, hxs⟩ : ∃ xs, accI (readF ks zs).2.1 = xs := ⟨_, rfl⟩
  have hacc := fun l h1 h2 => accidents_spec E q mk kc ks a m c' zs l hkz hks32 h1 (by omega) hz (by omega) hzok h2
  have hracc := fun l h1 h2 => raccidents_spec E q mk kc ks a4 m c4 zs l hkz hks32 (by omega) h1 hz (by omega) hzok h2
  rw [hxs] at hacc hracc hal
  refine J.region ?_
  refine JL.step (y_move rfl) rfl rfl rfl (JL.step (y_move rfl) rfl rfl rfl ?_)
  refine JL.loud rfl (l_callF e23 rfl rfl (hacc _ (by (repeat (first | assumption | apply InL.cons | apply InL.app))) (cutInS hz hzok oo (by (repeat (first | exact Pick.head | apply Pick.tail | apply Pick.app)))).2) ?_)
  rintro _ _ ⟨a5, c5, rfl, rfl⟩
  refine JL.step (y_move rfl) rfl rfl rfl (JL.step (y_move rfl) rfl rfl rfl ?_)
  refine JL.loud rfl (l_callF e24 rfl rfl (hracc _ (by (repeat (first | assumption | apply InL.cons | apply InL.app))) (oo4.inl (by (repeat (first | exact Pick.head | apply Pick.tail | apply Pick.app))))) ?_)
  rintro _ _ ⟨a6, c6, rfl, rfl⟩
  refine JL.fact (fun w s => Sat.own_at (s.pick Pick.head)) fun o6 => ?_
  refine JL.fact (fun w s => Sat.own_at (s.pick (Pick.tail Pick.head))) fun o5 => ?_
  refine JL.loud rfl (l_callF e22 rfl rfl (intsI_spec E a5 a6 xs.length c5 c6 xs _ rfl (by omega) (o5.inl (by (repeat (first | exact Pick.head | apply Pick.tail | apply Pick.app)))) (o6.inl (by (repeat (first | exact Pick.head | apply Pick.tail | apply Pick.app))))) ?_)
  rintro _ _ ⟨rfl, rfl⟩
  refine JL.step (y_move rfl) rfl rfl rfl ?_
  all_goals (first | (refine JL.gsplit_dec rfl rfl rfl (fun h => ?_) (fun h => ?_) <;> try (first | (exfalso; omega) | exact absurd rfl h)) | (refine JL.gsplit rfl rfl rfl (fun h => ?_) (fun h => ?_) <;> try (first | cases h | (exfalso; simp at h; done))) | skip)
  all_goals (first | refine JL.gskip rfl rfl rfl rfl rfl rfl ?_ | refine JL.gskipU rfl rfl rfl rfl rfl ?_ | refine JL.gstep rfl rfl rfl (y_move rfl) rfl rfl ?_)
  all_goals (first | refine JL.gskip rfl rfl rfl rfl rfl rfl ?_ | refine JL.gskipU rfl rfl rfl rfl rfl ?_ | refine JL.gstep rfl rfl rfl (y_move rfl) rfl rfl ?_)
  all_goals (first | refine JL.gskip rfl rfl rfl rfl rfl rfl ?_ | refine JL.gskipU rfl rfl rfl rfl rfl ?_ | refine JL.gstep rfl rfl rfl (y_move rfl) rfl rfl ?_)
  all_goals (first | refine JL.gskip rfl rfl rfl rfl rfl rfl ?_ | refine JL.gskipU rfl rfl rfl rfl rfl ?_ | refine JL.gstep rfl rfl rfl (y_move rfl) rfl rfl ?_)
  all_goals (first | refine JL.gskip rfl rfl rfl rfl rfl rfl ?_ | refine JL.gskipU rfl rfl rfl rfl rfl ?_ | (refine JL.gloud rfl rfl rfl (l_callF e25 rfl rfl (good_spec E q mk kc ks a m c' zs A B _ hkz hks32 (by omega) (by (repeat (first | assumption | apply InL.cons | apply InL.app))) hz (by omega) hzok (cutInS hz hzok oo (by (repeat (first | exact Pick.head | apply Pick.tail | apply Pick.app)))).2) ?_); rintro _ _ ⟨gs, a7, c7, hG, _, rfl, rfl⟩))
  all_goals (first | refine JL.gskip rfl rfl rfl rfl rfl rfl ?_ | refine JL.gskipU rfl rfl rfl rfl rfl ?_ | refine JL.gstep rfl rfl rfl (y_move rfl) rfl rfl ?_)
  all_goals (first | refine JL.gskip rfl rfl rfl rfl rfl rfl ?_ | refine JL.gskipU rfl rfl rfl rfl rfl ?_ | refine JL.gstep rfl rfl rfl (y_move rfl) rfl rfl ?_)
  all_goals (first | refine JL.gskip rfl rfl rfl rfl rfl rfl ?_ | refine JL.gskipU rfl rfl rfl rfl rfl ?_ | refine JL.gstep rfl rfl rfl (y_move rfl) rfl rfl ?_)
  all_goals (first | refine JL.gskip rfl rfl rfl rfl rfl rfl ?_ | refine JL.gskipU rfl rfl rfl rfl rfl ?_ | refine JL.gstep rfl rfl rfl (y_move rfl) rfl rfl ?_)
  all_goals (first | refine JL.gskip rfl rfl rfl rfl rfl rfl ?_ | refine JL.gskipU rfl rfl rfl rfl rfl ?_ | (refine JL.gloud rfl rfl rfl (l_callF e26 rfl rfl (rgood_spec E q mk kc ks a4 m c4 zs A B _ hkz hks32 (by omega) (by (repeat (first | assumption | apply InL.cons | apply InL.app))) hz (by omega) hzok (oo4.inl (by (repeat (first | exact Pick.head | apply Pick.tail | apply Pick.app))))) ?_); rintro _ _ ⟨gs2, a8, c8, hG2, hGl, rfl, rfl⟩))
  obtain rfl := hG2.one hG
  refine JL.fact (fun w s => Sat.own_at (s.pick Pick.head)) fun o8 => ?_
  refine JL.fact (fun w s => Sat.own_at (s.pick (Pick.tail Pick.head))) fun o7 => ?_
  all_goals (first | refine JL.gskip rfl rfl rfl rfl rfl rfl ?_ | refine JL.gskipU rfl rfl rfl rfl rfl ?_ | (refine JL.gloud rfl rfl rfl (l_callF e20 rfl rfl (intsU_spec E a7 a8 gs2.length c7 c8 gs2 _ rfl (by omega) (o7.inl (by (repeat (first | exact Pick.head | apply Pick.tail | apply Pick.app)))) (o8.inl (by (repeat (first | exact Pick.head | apply Pick.tail | apply Pick.app))))) ?_); rintro _ _ ⟨rfl, rfl⟩))
  all_goals (refine JL.step (y_pick rfl rfl rfl) rfl rfl rfl ?_)
  all_goals (refine JL.step (y_move rfl) rfl rfl rfl ?_)
  all_goals (first | (refine JL.gsplit_dec rfl rfl rfl (fun h => ?_) (fun h => ?_) <;> try (first | (exfalso; omega) | exact absurd rfl h)) | (refine JL.gsplit rfl rfl rfl (fun h => ?_) (fun h => ?_) <;> try (first | cases h | (exfalso; simp at h; done))) | skip)
  all_goals (first | refine JL.gskip rfl rfl rfl rfl rfl rfl ?_ | refine JL.gskipU rfl rfl rfl rfl rfl ?_ | refine JL.gstep rfl rfl rfl (y_move rfl) rfl rfl ?_)
  all_goals (first | refine JL.gskip rfl rfl rfl rfl rfl rfl ?_ | refine JL.gskipU rfl rfl rfl rfl rfl ?_ | refine JL.gstep rfl rfl rfl (y_move rfl) rfl rfl ?_)
  all_goals (first | refine JL.gskip rfl rfl rfl rfl rfl rfl ?_ | refine JL.gskipU rfl rfl rfl rfl rfl ?_ | (refine JL.gloud rfl rfl rfl (l_callF e27 rfl rfl (intsS_spec E a a4 m c' c4 zs _ hz (by omega) hzok (cutInS hz hzok oo (by (repeat (first | exact Pick.head | apply Pick.tail | apply Pick.app)))).2 (oo4.inl (by (repeat (first | exact Pick.head | apply Pick.tail | apply Pick.app))))) ?_); rintro _ _ ⟨rfl, rfl⟩))
  all_goals (refine JL.step (y_pick rfl rfl rfl) rfl rfl rfl ?_)
  all_goals (refine JL.step (y_move rfl) rfl rfl rfl ?_)
  obtain ⟨g9, o9, rfl, hr9⟩ := (cutInS (L := own 55 165 (.slice a (m + 1) c') (m + 1) (zs.flatMap seE ++ seE sea77) :: l) hz hzok oo (by (repeat (first | exact Pick.head | apply Pick.tail | apply Pick.app)))).1.addr (by omega)
  all_goals (first | (refine JL.gsplit_dec rfl rfl rfl (fun h => ?_) (fun h => ?_) <;> try (first | (exfalso; omega) | exact absurd rfl h)) | (refine JL.gsplit rfl rfl rfl (fun h => ?_) (fun h => ?_) <;> try (first | cases h | (exfalso; simp at h; done))) | skip)
  all_goals (first | refine JL.gskip rfl rfl rfl rfl rfl rfl ?_ | refine JL.gskipU rfl rfl rfl rfl rfl ?_ | refine JL.gstep rfl rfl rfl (y_move rfl) rfl rfl ?_)
  all_goals (first | refine JL.gskip rfl rfl rfl rfl rfl rfl ?_ | refine JL.gskipU rfl rfl rfl rfl rfl ?_ | refine JL.gstep rfl rfl rfl (y_move rfl) rfl rfl ?_)
  all_goals (first | refine JL.gskip rfl rfl rfl rfl rfl rfl ?_ | refine JL.gskipU rfl rfl rfl rfl rfl ?_ | refine JL.gstep rfl rfl rfl (y_len_slice hT rfl rfl rfl) rfl rfl ?_)
  all_goals (first | refine JL.gskip rfl rfl rfl rfl rfl rfl ?_ | refine JL.gskipU rfl rfl rfl rfl rfl ?_ | refine JL.gstep rfl rfl rfl (y_add rfl rfl (by (first | exact wrap_i64 (by omega) (by omega) | rfl))) rfl rfl ?_)
  all_goals (first | refine JL.gskip rfl rfl rfl rfl rfl rfl ?_ | refine JL.gskipU rfl rfl rfl rfl rfl ?_ | refine JL.gstep rfl rfl rfl (v := .slice (some ⟨g9, o9, none⟩) (m + 1) c') (Y.cast (y_slice (lo := 0) (hi := m + 1) hT rfl rfl rfl rfl (.inl ⟨rfl, rfl⟩) (.inr ⟨_, _, _, rfl, rfl, rfl⟩) (by omega) (by omega) (by omega) (.inl rfl)) (by rw [if_neg (by omega)]; simp)) rfl rfl ?_)
  all_goals (first | refine JL.gskip rfl rfl rfl rfl rfl rfl ?_ | refine JL.gskipU rfl rfl rfl rfl rfl ?_ | refine JL.gstep rfl rfl rfl (y_move rfl) rfl rfl ?_)
  all_goals (first | refine JL.gskip rfl rfl rfl rfl rfl rfl ?_ | refine JL.gskipU rfl rfl rfl rfl rfl ?_ | refine JL.gstep rfl rfl rfl (y_len_slice hT rfl rfl rfl) rfl rfl ?_)
  all_goals (first | refine JL.gskip rfl rfl rfl rfl rfl rfl ?_ | refine JL.gskipU rfl rfl rfl rfl rfl ?_ | refine JL.gstep rfl rfl rfl (y_indexAddr_slice hT rfl rfl rfl rfl rfl (by (first | omega | exact Nat.le_of_ble_eq_true rfl | decide | (simp; omega))) (by (first | omega | exact Nat.le_of_ble_eq_true rfl | decide | (simp; omega)))) rfl rfl ?_)
  all_goals (first | refine JL.gskip rfl rfl rfl rfl rfl rfl ?_ | refine JL.gskipU rfl rfl rfl rfl rfl ?_ | refine JL.gstep rfl rfl rfl (y_fieldAddr hT rfl rfl rfl rfl rfl rfl) rfl rfl ?_)
  all_goals (first | refine JL.gskip rfl rfl rfl rfl rfl rfl ?_ | refine JL.gskipU rfl rfl rfl rfl rfl ?_ | refine JL.gstep rfl rfl rfl (y_load1 hT rfl rfl rfl (Rd1.ofN (v := .int .i64 77) (j := m * 165) ((((((hr9 []).cons _).cons _).cons _).cons _).cons _) (by rw [List.getElem?_append_right (by rw [ses_len hzok, hz]; omega), ses_len hzok, hz, Nat.sub_self]; rfl))) rfl rfl ?_)
  all_goals (first | refine JL.gskip rfl rfl rfl rfl rfl rfl ?_ | refine JL.gskipU rfl rfl rfl rfl rfl ?_ | refine JL.gstep rfl rfl rfl (y_eql rfl rfl) rfl rfl ?_)
  all_goals (refine JL.step (y_pick rfl rfl rfl) rfl rfl rfl ?_)
  all_goals (refine JL.step (y_assign rfl) rfl rfl rfl ?_)
  all_goals refine JL.nil ?_
  all_goals refine JE.then_normal ?_
  all_goals
    refine J.ret ?_
    refine JE.ret1 (.inl rfl) rfl rfl (by (first | exact RV.tmp rfl | exact RV.cell1 hT rfl rfl rfl (by (exact Rd1.row (by (repeat (first | exact Pick.head | apply Pick.tail | apply Pick.app))) (by rfl))) | exact RV.cellN hT rfl rfl rfl (by (first | exact RdN.rowAll (by (repeat (first | exact Pick.head | apply Pick.tail | apply Pick.app))) | exact RdN.own (by (repeat (first | exact Pick.head | apply Pick.tail | apply Pick.app))))) (by (first | rfl | assumption | (simp; done) | omega)))) ?_
    exact ⟨rfl, fun w h => h.sup (by (repeat (first | exact Sup.refl | apply Sup.cons (by (repeat (first | exact Pick.head | apply Pick.tail | apply Pick.app))) | apply Sup.app | apply Sup.skip | apply Sup.skips)))⟩
end
section
open Go.ChangeShapes Go.WideShapes Go.ChangeAt Go.RowKit
theorem watch_seals_reads : ∀ t ∈ Tryd.f7.params.toList, Tryd.prog.readableRec t = true ∧ t < Tryd.prog.types.size := by
  rw [Tryd.params7]
  intro t ht
  simp only [List.mem_cons, List.not_mem_nil, or_false] at ht
  rcases ht with rfl | rfl | rfl
  all_goals exact ⟨by kernel_rfl, of_decide_eq_true (by kernel_rfl)⟩
set_option maxRecDepth 100000 in
theorem watch_seals_contract (H : Type) (enc : TypeId × Value → H) (W : World) (base : Nat) (args : Array Value) (ds gs : List (DataW H)) (before : List MemPlace)
    (hval : ∀ (j : Nat) t v, Tryd.f7.params[j]? = some t → args[j]? = some v → Value.okWide Tryd.prog W .any base t v)
    (hW : DataW.Whole enc Tryd.prog Tryd.f7.params.toList Rows.watchSealsSpec.vars false W args.toList ds gs before) (hL : laidMetH Tryd.prog Rows.watchSealsRow.laid W) :
    Calls Tryd.prog 7 args W fun e W' => ∃ v, e = .returned v ∧ Rows.watchSealsSpec.post enc Tryd.prog Tryd.f7 false true false false W args v W' := by
  have hW' := hW
  obtain ⟨p, q, hA0, hV, rfl, hfz, hnd⟩ := hW
  have hA : DataW.TrodAll enc Tryd.prog W 0 (fun _ => true) true Tryd.f7.params.toList args.toList ds p := hA0
  rw [Tryd.params7] at hA hval
  obtain ⟨v0, vs0, d0, ds0, p0, q0, hargs, rfl, rfl, h0, r0⟩ := trodAll_cons hA
  obtain ⟨v1, vs1, d1, ds1, p1, q1, rfl, rfl, rfl, h1, r1⟩ := trodAll_cons r0
  obtain ⟨v2, vs2, d2, ds2, p2, q2, rfl, rfl, rfl, h2, r2⟩ := trodAll_cons r1
  obtain ⟨rfl, rfl, rfl⟩ := trodAll_nil r2
  obtain rfl : args = #[v0, v1, v2] := by cases args; simp_all
  obtain ⟨rfl, rfl⟩ := trodVars_none hV
  clear hA0
  have t0 : Tr enc prog (fun _ => True) W 40 [v0] := Tr.ofSlice u40 (hval 0 40 v0 rfl rfl) h0 trivial
  have t1 : Tr enc prog (fun _ => True) W 41 [v1] := Tr.ofSlice u41 (hval 1 41 v1 rfl rfl) h1 trivial
  have t2 : Tr enc prog (fun _ => True) W 3 [v2] := Tr.ofInt u3 (hval 2 3 v2 rfl rfl) h2 trivial
  obtain ⟨kp, kc, keys, rfl, _, hk32, hkin⟩ := tr_keys Her.all t0
  obtain ⟨p, cap, xs, rfl, _, hok, hin⟩ := tr_seals Her.all t1
  obtain ⟨who, e0, hwho⟩ := Tr.int u3 t2
  cases e0
  refine ((watch_seals W kp keys.length kc keys p xs.length cap xs who [old W] rfl hk32 (hkin.inl []) rfl hok (hin.inl []) (T10.old (table30 hL) Pick.head)) W (Sat.start W)).mono fun e W' hq => ?_
  obtain ⟨v, l', rfl, hs, rfl, rfl⟩ := hq
  exact ⟨_, rfl, law_post laidOut_ rfl rfl u4 watch_seals_reads hW' rfl rfl rfl hs.below⟩
set_option maxRecDepth 100000 in
theorem watch_seals_lifted (os : Os) (started : os.Started) (H : Type) (enc : TypeId × Value → H) (F : Stop.Interp) :
    ReturnsInHanded {} Tryd.checked os 7 .any ((OpenSpec.ofChange Rows.watchSealsSpec).preRow enc Tryd.prog Tryd.f7 Rows.watchSealsRow.domain false Rows.watchSealsRow.laid) (((OpenSpec.ofChange Rows.watchSealsSpec).at F).post enc Tryd.prog Tryd.f7 false true false false) := by
  have hx : ∃ places, DataW.whole enc Tryd.prog ((laidWorld os).forCall (fun _ _ => 0) ⟨#[], #[.slice none 0 0, .slice none 0 0, .int .i64 0], []⟩).memory Tryd.f7.params.toList Rows.watchSealsSpec.vars false (#[.slice none 0 0, .slice none 0 0, .int .i64 0] : Array Value).toList 8 = some ([.nil, .nil, .lit (.int .i64 0)], [], places) := ⟨[], by kernel_rfl⟩
  obtain ⟨places, hx⟩ := hx
  refine returnsInHanded_of_row (C := Tryd.checked) (s := OpenSpec.ofChange Rows.watchSealsSpec) own_ started (by kernel_rfl) Tryd.func7
    (witness_row_at (enc := enc) (C := Tryd.checked) false (laidWorld os) #[.slice none 0 0, .slice none 0 0, .int .i64 0] rfl (by kernel_rfl) (by kernel_rfl) (by kernel_rfl)
      (OpenSpec.preRow_of_cond 8 hx (by kernel_rfl) (fun k hk => by cases hk) (by kernel_rfl) (laid_met os _))) ?_
  intro W base args ds gs before hval hW _ hk _ hL _ _
  exact watch_seals_contract H enc W base args ds gs before hval hW hL
theorem watch_seals_said : Rows.WatchSealsSaid :=
  OpenClaim.holds_of_cond 7 Tryd.f7 rfl rfl rfl rfl rfl rfl rfl ⟨rfl, rfl, rfl, rfl, rfl⟩ rfl rfl rfl rfl rfl (by kernel_rfl) Tryd.func7 (by kernel_rfl)
    (of_decide_eq_true (by kernel_rfl)) (by unfold Func.isWrapper; first | (rw [if_pos (by decide +kernel)]; kernel_rfl) | (rw [if_neg (by decide +kernel)]; exact ⟨rfl, rfl⟩))
    (fun os started H enc _ F => by rw [OpenClaim.pre_eq_preRow]; exact watch_seals_lifted os started H enc F)
set_option maxRecDepth 100000 in
theorem watch_seals_plain (f : FuncId) (fn : Func) (hf : Tryd.pinned.checked.prog.funcNamed Rows.watchSealsRow.func = some f) (hfn : Tryd.pinned.checked.prog.funcs[f]? = some fn) :
    false = Tryd.pinned.checked.prog.looks [] ∧ ∀ (j : Nat) t, fn.params[j]? = some t → Tryd.pinned.checked.prog.wantsStandIn t = false := by
  obtain rfl : f = 7 := Option.some.inj ((show Tryd.prog.funcNamed Rows.watchSealsRow.func = some 7 by kernel_rfl).symm.trans hf) |>.symm
  obtain rfl : fn = Tryd.f7 := (Option.some.inj (Tryd.func7.symm.trans hfn)).symm
  refine ⟨by kernel_rfl, fun j t ht => ?_⟩
  rw [Tryd.params7] at ht
  have hm := Array.mem_of_getElem? ht
  simp only [List.mem_toArray, List.mem_cons, List.not_mem_nil, or_false] at hm
  rcases hm with rfl | rfl | rfl
  · exact (show Tryd.prog.wantsStandIn 40 = false by kernel_rfl)
  · exact (show Tryd.prog.wantsStandIn 41 = false by kernel_rfl)
  · exact (show Tryd.prog.wantsStandIn 3 = false by kernel_rfl)
theorem watch_seals_holds : Rows.WatchSealsCardSaid :=
  Claim7.holds_tied_plain_at .later [] _ _ _ _ watch_seals_said (fun _ h => by cases h) (by kernel_rfl) (fun _ h => by cases h) watchSeals_row_tie rfl ⟨rfl, rfl⟩ (by kernel_rfl) rfl watch_seals_plain (by kernel_rfl)
end
end Go.Proofs.YtfohdnclpbipeaaDoor
