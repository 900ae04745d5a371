import Derived.Test.YtilifeeddpkclaaRef11b
namespace Go.Proofs.Ytilifeeddpkclaa
open Go Go.SL
/-! What the document reads from a superblock. -/
/-- The zeros, up to so many. -/
def zTo (b : Blk) : Nat → Bool
  | 0 => decide (b.getD 11 0 = 0)
  | k + 1 => zTo b k && decide (b.getD (40 + k) 0 = 0)
theorem zTo_iff (b : Blk) : ∀ k, zTo b k = true ↔ b.getD 11 0 = 0 ∧ ∀ i, i < k → b.getD (40 + i) 0 = 0
  | 0 => by simp [zTo]
  | k + 1 => by
    rw [zTo, Bool.and_eq_true, decide_eq_true_eq, zTo_iff b k]
    constructor
    · rintro ⟨⟨h1, h2⟩, h3⟩
      refine ⟨h1, fun i hi => ?_⟩
      rcases Nat.lt_or_ge i k with h | h
      · exact h2 i h
      · obtain rfl : i = k := by omega
        exact h3
    · rintro ⟨h1, h2⟩
      exact ⟨⟨h1, fun i hi => h2 i (by omega)⟩, h2 k (by omega)⟩
theorem zTo_form {b : Blk} (hb : b.length = 64) : zTo b 8 = true ↔ b.getD 11 0 = 0 ∧ (b.drop 40).take 8 = List.replicate 8 0 := by
  rw [zTo_iff]
  refine and_congr_right fun _ => ?_
  constructor
  · intro h
    refine List.ext_getElem (by simp [hb]) fun i h1 h2 => ?_
    have hi : i < 8 := by simpa using h2
    have := h i hi
    rw [List.getD_eq_getElem?_getD, List.getElem?_eq_getElem (by omega)] at this
    rw [List.getElem_replicate, List.getElem_take, List.getElem_drop]
    exact this
  · intro h i hi
    have := congrArg (fun l => l.getD i 0) h
    simp only [List.getD_eq_getElem?_getD, List.getElem?_take, if_pos hi, List.getElem?_drop, List.getElem?_replicate] at this
    rw [List.getD_eq_getElem?_getD, this]
    rfl
/-- A Super in memory. -/
def rsuper (b : Blk) (a : Option Addr) (c : Nat) (ok : Bool) : List Value := [.int .i64 (sbRead b).place, Q (sbRead b).turn, .int .i64 (sbRead b).size, .slice a 16 c, .bool ok]
attribute [local irreducible] J JL JE JM LS Y Fc RV Code.wp wpList Code.wpIn wpListIn
attribute [local irreducible] Yc
variable (E : World)
theorem rread_true (b : Blk) (l : List HProp) (hb : b.length = 64) (hB : Bytes b) (k1 : b.take 10 = lettersL) (k2 : (sbRead b).place < 2) (k3 : zTo b 8 = true) :
    Fc prog E 80 [.agg (encB b).toArray].toArray l (fun v l' => ∃ a c, v = .agg (rsuper b a c (decide (b.drop 48 = (sha (b.take 48)).take 16))).toArray ∧ l' = own 5 1 (.slice a 16 c) 16 (ints .u8 ((b.drop 24).take 16)) :: l) := by
  refine Fc.post ?_
  have hh16 : ((b.drop 24).take 16).length = 16 := by simp [hb]
  have hbL : (encB b).length = 64 := (encB_length b).trans hb
  have hsz : IntKind.i64.wrap ((leG ((b.drop 20).take 4) 4).toNat : Int) = (sbRead b).size := by
    have := leG_lt (hB.part 20 4)
    rw [wrap_i64 (by omega) (by omega)]
    show _ = ((BitVec.ofInt 32 ((leG ((b.drop 20).take 4) 4).toNat : Int)).toNat : Int)
    rw [BitVec.toNat_ofInt]
    omega
  have hob : ∀ bb lo n l', lo + n ≤ 64 → (∃ r, Pick l' (row bb 27 (encB b)) r) → InL l' (some ⟨bb, 0 + lo * 1, none⟩) n (64 - lo) (ints .u8 ((b.drop lo).take n)) := fun bb lo n l' hlo ⟨r, hp⟩ => ⟨by omega, by unfold maxLen; omega, .inl ⟨bb, 0 + lo * 1, rfl, fun m => RdN.row (n := n) (Pick.app m hp) (by simp [encB, ints])⟩⟩
  have hob0 : ∀ bb n l', n ≤ 64 → (∃ r, Pick l' (row bb 27 (encB b)) r) → InL l' (some ⟨bb, 0 + 0 * 1, none⟩) n 64 (ints .u8 (b.take n)) := fun bb n l' hlo ⟨r, hp⟩ => ⟨by omega, by unfold maxLen; omega, .inl ⟨bb, 0, rfl, fun m => RdN.row (n := n) (Pick.app m hp) (by simp [encB, ints])⟩⟩
  have hX : ByteArray.mk #[104, 111, 108, 108, 111, 119, 116, 114, 101, 101] = strOf lettersL := by kernel_rfl
  have hB10 : ∀ x ∈ b.take 10, 0 ≤ x ∧ x ≤ 255 := fun x hx => hB x (List.mem_of_mem_take hx)
  have hL10 : ∀ x ∈ lettersL, 0 ≤ x ∧ x ≤ 255 := by decide
  have hob2 : ∀ bb l', (∃ r, Pick l' (row bb 27 (encB b)) r) → InL l' (some ⟨bb, 0 + 48 * 1, none⟩) 16 16 (ints .u8 (b.drop 48)) := fun bb l' ⟨r, hp⟩ => ⟨by omega, by unfold maxLen; omega, .inl ⟨bb, 0 + 48 * 1, rfl, fun m => RdN.row (n := 16) (Pick.app m hp) (by simp [encB, ints, hb, List.take_of_length_le])⟩⟩
  refine Fc.of_body (c := ?codeC) Try.func80 ?hb Try.ntmps80 ?hl ?_
  case hb => exact rfl
  case hl => exact rfl
  refine J.seq ?_
  refine J.region ?_
  refine JL.loud rfl (l_box rfl (by (first | rfl | simp)) rfl (fun bb => ?_))
  refine JL.loud rfl (l_alloc hT rfl rfl (by (first | rfl | simp)) rfl (fun b1 => ?_))
  refine JL.nil ?_
  refine JE.then_normal ?_
  refine J.seq ?_
  refine J.draw _ _ [(0, .q), (1, .q), (2, .q), (3, .q), (4, .q), (5, .q), (6, .q), (7, .q), (8, .q), (9, .l), (10, .q), (11, .n), (12, .l)] mixed (by kernel_rfl) (Split.nil) ?_
  refine JM.quiet rfl rfl rfl rfl (fun m => y_indexAddr_arr hT rfl rfl rfl rfl rfl (by (first | omega | exact Nat.le_of_ble_eq_true rfl | decide | (simp; omega))) (by (first | omega | exact Nat.le_of_ble_eq_true rfl | decide | (simp; omega)))) ?_
  refine JM.quiet rfl rfl rfl rfl (fun m => y_load1 hT rfl rfl rfl (Rd1.bytesAt (bs := b) (j := 10) (RdN.rowAll (Pick.app m (by (repeat (first | exact Pick.head | apply Pick.tail | apply Pick.app))))) (by omega) rfl)) ?_
  refine JM.quiet rfl rfl rfl rfl (fun m => y_conv (m := (sbRead b).place) hT rfl rfl rfl rfl rfl) ?_
  refine JM.quiet rfl rfl rfl rfl (fun m => y_slice_arr hT rfl rfl rfl rfl (.inr ⟨_, _, _, rfl, rfl, (by (first | rfl | simp))⟩) (.inr ⟨_, _, _, rfl, rfl, (by (first | rfl | simp))⟩) (by (first | omega | exact Nat.le_of_ble_eq_true rfl | decide | (simp; omega))) (by (first | omega | exact Nat.le_of_ble_eq_true rfl | decide | (simp; omega)))) ?_
  refine JM.quiet rfl rfl rfl rfl (fun m => y_callF e94 rfl (rhigh_at E _ _ 8 ((b.drop 12).take 8) _ (by simp [hb]) (hB.part 12 8) (hob _ 12 8 _ (by decide) ⟨_, Pick.app m (by (repeat (first | exact Pick.head | apply Pick.tail | apply Pick.app)))⟩))) ?_
  refine JM.quiet rfl rfl rfl rfl (fun m => y_slice_arr hT rfl rfl rfl rfl (.inr ⟨_, _, _, rfl, rfl, (by (first | rfl | simp))⟩) (.inr ⟨_, _, _, rfl, rfl, (by (first | rfl | simp))⟩) (by (first | omega | exact Nat.le_of_ble_eq_true rfl | decide | (simp; omega))) (by (first | omega | exact Nat.le_of_ble_eq_true rfl | decide | (simp; omega)))) ?_
  refine JM.quiet rfl rfl rfl rfl (fun m => y_callF e94 rfl (rhigh_at E _ _ 4 ((b.drop 20).take 4) _ (by simp [hb]) (hB.part 20 4) (hob _ 20 4 _ (by decide) ⟨_, Pick.app m (by (repeat (first | exact Pick.head | apply Pick.tail | apply Pick.app)))⟩))) ?_
  refine JM.quiet rfl rfl rfl rfl (fun m => y_conv (m := (sbRead b).size) hT rfl rfl rfl rfl hsz) ?_
  refine JM.quiet rfl rfl rfl rfl (fun m => y_slice_arr hT rfl rfl rfl rfl (.inr ⟨_, _, _, rfl, rfl, (by (first | rfl | simp))⟩) (.inr ⟨_, _, _, rfl, rfl, (by (first | rfl | simp))⟩) (by (first | omega | exact Nat.le_of_ble_eq_true rfl | decide | (simp; omega))) (by (first | omega | exact Nat.le_of_ble_eq_true rfl | decide | (simp; omega)))) ?_
  refine JM.loud rfl rfl (fun fr => l_callF e74 rfl rfl (rboth_at E _ _ 40 0 16 0 16 ((b.drop 24).take 16) [] _ rfl hh16 rfl (hob _ 24 16 _ (by decide) ⟨_, by (repeat (first | exact Pick.head | apply Pick.tail | apply Pick.app))⟩) InL.none (by decide)) ?_)
  rintro _ _ ⟨a, c, rfl, rfl⟩
  refine ⟨[_], (by (repeat (first | exact Split.nil | exact Split.all | refine Split.cons Pick.head ?_))), ?_⟩
  refine JM.quiet rfl rfl rfl rfl (fun m => y_build (cs := [_, _, _, _, _]) hT rfl rfl rfl rfl rfl rfl ⟨⟨(by (first | rfl | assumption | (simp; done) | omega)), Nat.le_of_ble_eq_true rfl⟩, ⟨⟨(by (first | rfl | assumption | (simp; done) | omega)), Nat.le_of_ble_eq_true rfl⟩, ⟨⟨(by (first | rfl | assumption | (simp; done) | omega)), Nat.le_of_ble_eq_true rfl⟩, ⟨⟨(by (first | rfl | assumption | (simp; done) | omega)), Nat.le_of_ble_eq_true rfl⟩, trivial⟩⟩⟩⟩ rfl) ?_
  refine JM.lay rfl rfl rfl rfl (fun a hf => lays_alloc hT rfl rfl (by (first | rfl | simp))) (fun b3 => ?_)
  refine JM.loud rfl rfl (fun fr => l_storeAll hT rfl rfl rfl (by (first | rfl | assumption | (simp; done) | omega)) (by (first | assumption | exact ones_of rfl | exact encW_one _ | exact encB_one _ | (intro u hu; simp at hu; rcases hu with rfl | rfl <;> rfl) | (intro u hu; simp at hu; subst hu; rfl) | simp)) (by (repeat (first | exact Pick.head | apply Pick.tail | apply Pick.app))) (by (first | rfl | assumption | (simp; done) | omega)) (⟨[_, _], (by (repeat (first | exact Split.nil | exact Split.all | refine Split.cons Pick.head ?_))), ?_⟩))
  refine JM.nil ?_
  refine JE.then_normal ?_
  refine J.seq ?_
  refine J.region ?_
  refine JL.step (y_indexAddr_arr hT rfl rfl rfl rfl rfl (by (first | omega | exact Nat.le_of_ble_eq_true rfl | decide | (simp; omega))) (by (first | omega | exact Nat.le_of_ble_eq_true rfl | decide | (simp; omega)))) rfl rfl rfl ?_
  refine JL.step (y_load1 hT rfl rfl rfl (Rd1.bytesAt (bs := b) (j := 11) (RdN.rowAll (by (repeat (first | exact Pick.head | apply Pick.tail | apply Pick.app)))) (by omega) rfl)) rfl rfl rfl ?_
  refine JL.step (y_eql rfl rfl) rfl rfl rfl (JL.step (y_assign rfl) rfl rfl rfl ?_)
  refine JL.nil ?_
  refine JE.then_normal ?_
  refine J.seq ?_
  refine J.seq ?_
  refine J.region ?_
  refine JL.step (y_assign rfl) rfl rfl rfl ?_
  refine JL.nil ?_
  refine JE.then_normal ?_
  refine J.block ?_
  refine J.loop (α := Nat) (fun k => k ≤ 8) (fun k => [(1, .pointer (some ⟨bb, 0, none⟩)), (2, .pointer (some ⟨b1, 0, none⟩)), (3, .pointer (some ⟨b3, 0, none⟩)), (4, .bool (zTo b k)), (5, .int .i64 (40 + (k : Int)))]) (fun _ => row b3 89 (rsuper b a c false) :: own 5 1 (.slice a 16 c) 16 (ints .u8 ((b.drop 24).take 16)) :: row b1 89 [.int .i64 0, .int .u64 0, .int .i64 0, .slice none 0 0, .bool false] :: row bb 27 (encB b) :: l) (fun k => 8 - k) 0 (by omega) ⟨rfl, rfl, rfl, rfl, rfl, trivial⟩ (fun w h => by rw [List.append_nil] at h; exact h.sup (by (repeat (first | exact Sup.refl | apply Sup.cons (by (repeat (first | exact Pick.head | apply Pick.tail | apply Pick.app))) | apply Sup.app | apply Sup.skip | apply Sup.skips)))) ?_
  intro k hk
  refine J.seq ?_
  refine J.seq ?_
  refine J.region ?_
  refine JL.step (y_move rfl) rfl rfl rfl (JL.step (y_lss rfl rfl) rfl rfl rfl ?_)
  refine JL.nil ?_
  refine JE.then_normal ?_
  first | apply J.cond_dec rfl | apply J.cond rfl
  case' ht =>
    intro h
    try (first | (exfalso; omega) | (cases h; done) | (exfalso; simp at h; done) | subst h)
    all_goals
      refine J.skip ?_
  case' hf =>
    intro h
    try (first | (exfalso; omega) | (cases h; done) | (exfalso; simp at h; done) | subst h)
    all_goals
      refine J.exit ?_
      refine JE.then_exit ?_
      refine JE.then_exit ?_
      refine JE.block_exit ?_
      refine JE.then_normal ?_
      refine J.seq ?_
      obtain rfl : k = 8 := by omega
      rw [k3]
      refine J.draw _ _ [(0, .q), (1, .q), (2, .q), (3, .q), (4, .q), (5, .e), (6, .q), (7, .q), (8, .q), (9, .q), (10, .q), (11, .q), (12, .q), (13, .q), (14, .l), (15, .e), (16, .q), (17, .q), (18, .l)] mixed (by kernel_rfl) (Split.cons (Pick.head) (Split.nil)) ?_
      refine JM.quiet rfl rfl rfl rfl (fun m => y_slice_arr hT rfl rfl rfl rfl (.inl ⟨rfl, rfl⟩) (.inr ⟨_, _, _, rfl, rfl, (by (first | rfl | simp))⟩) (by (first | omega | exact Nat.le_of_ble_eq_true rfl | decide | (simp; omega))) (by (first | omega | exact Nat.le_of_ble_eq_true rfl | decide | (simp; omega)))) ?_
      refine JM.quiet rfl rfl rfl rfl (fun m => y_convString (xs := b.take 10) hT rfl rfl rfl rfl rfl rfl rfl (RdN.row (off := 0 + 0 * 1) (n := 10) (Pick.app m (by (repeat (first | exact Pick.head | apply Pick.tail | apply Pick.app)))) (by simp [encB, ints])) (by simp [hb])) ?_
      refine JM.quiet rfl rfl rfl rfl (fun m => y_str_eqB rfl rfl (decide_eq_true ((congrArg strOf k1).trans hX.symm))) ?_
      refine JM.quiet rfl rfl rfl rfl (fun m => y_move rfl) ?_
      all_goals (first | refine JM.gskip rfl rfl rfl rfl rfl rfl rfl ?_ | refine JM.gskipU rfl rfl rfl rfl rfl rfl ?_ | refine JM.gquiet rfl rfl rfl rfl rfl rfl (fun m => y_fieldAddr hT rfl rfl rfl rfl rfl rfl) ?_)
      all_goals refine JM.gearly rfl rfl rfl rfl rfl rfl (fun fr => y_load1 hT rfl rfl rfl (by (exact Rd1.row (by (repeat (first | exact Pick.head | apply Pick.tail | apply Pick.app))) (by rfl)))) ?_
      refine JM.gquiet rfl rfl rfl rfl rfl rfl (fun m => y_lssB rfl rfl (decide_eq_true k2)) ?_
      all_goals refine JM.quiet rfl rfl rfl rfl (fun m => y_pick rfl rfl rfl) ?_
      all_goals refine JM.quiet rfl rfl rfl rfl (fun m => y_move rfl) ?_
      all_goals (first | refine JM.gskip rfl rfl rfl rfl rfl rfl rfl ?_ | refine JM.gskipU rfl rfl rfl rfl rfl rfl ?_ | refine JM.gquiet rfl rfl rfl rfl rfl rfl (fun m => y_move rfl) ?_)
      all_goals refine JM.quiet rfl rfl rfl rfl (fun m => y_pick rfl rfl rfl) ?_
      all_goals refine JM.quiet rfl rfl rfl rfl (fun m => y_move rfl) ?_
      all_goals (first | refine JM.gskip rfl rfl rfl rfl rfl rfl rfl ?_ | refine JM.gskipU rfl rfl rfl rfl rfl rfl ?_ | refine JM.gquiet rfl rfl rfl rfl rfl rfl (fun m => y_slice_arr hT rfl rfl rfl rfl (.inr ⟨_, _, _, rfl, rfl, (by (first | rfl | simp))⟩) (.inl ⟨rfl, rfl⟩) (by (first | omega | exact Nat.le_of_ble_eq_true rfl | decide | (simp; omega))) (by (first | omega | exact Nat.le_of_ble_eq_true rfl | decide | (simp; omega)))) ?_)
      all_goals (first | refine JM.gskip rfl rfl rfl rfl rfl rfl rfl ?_ | refine JM.gskipU rfl rfl rfl rfl rfl rfl ?_ | refine JM.gquiet rfl rfl rfl rfl rfl rfl (fun m => y_slice_arr hT rfl rfl rfl rfl (.inl ⟨rfl, rfl⟩) (.inr ⟨_, _, _, rfl, rfl, (by (first | rfl | simp))⟩) (by (first | omega | exact Nat.le_of_ble_eq_true rfl | decide | (simp; omega))) (by (first | omega | exact Nat.le_of_ble_eq_true rfl | decide | (simp; omega)))) ?_)
      refine JM.gloud rfl rfl rfl rfl (fun fr => l_call e76 rfl rfl rfl (Fc.ownKnown (by decide) (rshort_spec E _ 64 48 (b.take 48) _ (by simp [hb]) (hob0 _ 48 _ (by decide) ⟨_, by (repeat (first | exact Pick.head | apply Pick.tail | apply Pick.app))⟩) (by decide))) ?_)
      rintro _ _ ⟨g2, c2, rfl, hg1, hg2, rfl⟩
      refine ⟨[_, _], (by (repeat (first | exact Split.nil | exact Split.all | refine Split.cons Pick.head ?_))), ?_⟩
      refine JM.gearly rfl rfl rfl rfl rfl rfl (fun fr => y_callF e51 rfl (rsame_at E _ _ 16 c2 16 16 (b.drop 48) ((sha (b.take 48)).take 16) _ (by simp [hb]) (by rw [List.length_take, sha_length]; rfl) (hob2 _ _ ⟨_, by (repeat (first | exact Pick.head | apply Pick.tail | apply Pick.app))⟩) ⟨hg1, hg2, .inl ⟨g2, 0, rfl, fun m => RdN.own (Pick.app m (by (repeat (first | exact Pick.head | apply Pick.tail | apply Pick.app))))⟩⟩ (by decide) (by decide))) ?_
      all_goals refine JM.quiet rfl rfl rfl rfl (fun m => y_pick rfl rfl rfl) ?_
      all_goals refine JM.quiet rfl rfl rfl rfl (fun m => y_fieldAddr hT rfl rfl rfl rfl rfl rfl) ?_
      all_goals refine JM.loud rfl rfl (fun fr => l_store1 hT rfl rfl rfl rfl rfl (by (repeat (first | exact Pick.head | apply Pick.tail | apply Pick.app))) (by (first | omega | exact Nat.le_of_ble_eq_true rfl | decide | (simp; omega))) (⟨[_, _], (by (repeat (first | exact Split.nil | exact Split.all | refine Split.cons Pick.head ?_))), ?_⟩))
      all_goals refine JM.nil ?_
      all_goals refine JE.then_normal ?_
      all_goals
        refine J.seq ?_
        refine J.region ?_
        refine JL.step (y_loadN hT rfl rfl rfl (by (first | exact RdN.rowAll (by (repeat (first | exact Pick.head | apply Pick.tail | apply Pick.app))) | exact RdN.own (by (repeat (first | exact Pick.head | apply Pick.tail | apply Pick.app))))) (by (first | rfl | assumption | (simp; done) | omega))) rfl rfl rfl ?_
        refine JL.loud rfl (l_storeAll hT rfl rfl rfl (by (first | rfl | assumption | (simp; done) | omega)) (by (first | assumption | exact ones_of rfl | exact encW_one _ | exact encB_one _ | (intro u hu; simp at hu; rcases hu with rfl | rfl <;> rfl) | (intro u hu; simp at hu; subst hu; rfl) | simp)) (by (repeat (first | exact Pick.head | apply Pick.tail | apply Pick.app))) (by (first | rfl | assumption | (simp; done) | omega)) ?_)
        refine JL.nil ?_
        refine JE.then_normal ?_
        refine J.ret ?_
        refine JE.ret1 (.inl rfl) rfl rfl (by (first | exact RV.tmp rfl | exact RV.cell1 hT rfl rfl rfl (by (exact Rd1.row (by (repeat (first | exact Pick.head | apply Pick.tail | apply Pick.app))) (by rfl))) | exact RV.cellN hT rfl rfl rfl (by (first | exact RdN.rowAll (by (repeat (first | exact Pick.head | apply Pick.tail | apply Pick.app))) | exact RdN.own (by (repeat (first | exact Pick.head | apply Pick.tail | apply Pick.app))))) (by (first | rfl | assumption | (simp; done) | omega)))) ?_
        exact ⟨_, fun w q => q.sup (by (repeat (first | exact Sup.refl | apply Sup.cons (by (repeat (first | exact Pick.head | apply Pick.tail | apply Pick.app))) | apply Sup.app | apply Sup.skip | apply Sup.skips))), a, c, rfl, rfl⟩
  all_goals refine JE.then_normal ?_
  all_goals
    refine J.seq ?_
    refine J.block ?_
    refine J.region ?_
    cases hz : zTo b k <;> refine JL.step (y_move rfl) rfl rfl rfl ?_
    all_goals (refine JL.step (y_move rfl) rfl rfl rfl ?_)
    all_goals (first | (refine JL.gsplit_dec rfl rfl rfl (fun h => ?_) (fun h => ?_) <;> try (first | (exfalso; omega) | exact absurd rfl h)) | (refine JL.gsplit rfl rfl rfl (fun h => ?_) (fun h => ?_) <;> try (first | cases h | (exfalso; simp at h; done))) | skip)
    all_goals (first | refine JL.gskip rfl rfl rfl rfl rfl rfl ?_ | refine JL.gskipU rfl rfl rfl rfl rfl ?_ | refine JL.gstep rfl rfl rfl (y_move rfl) rfl rfl ?_)
    all_goals (first | refine JL.gskip rfl rfl rfl rfl rfl rfl ?_ | refine JL.gskipU rfl rfl rfl rfl rfl ?_ | refine JL.gstep rfl rfl rfl (y_indexAddr_arr hT rfl rfl rfl rfl rfl (by (first | omega | exact Nat.le_of_ble_eq_true rfl | decide | (simp; omega))) (by (first | omega | exact Nat.le_of_ble_eq_true rfl | decide | (simp; omega)))) rfl rfl ?_)
    all_goals (first | refine JL.gskip rfl rfl rfl rfl rfl rfl ?_ | refine JL.gskipU rfl rfl rfl rfl rfl ?_ | refine JL.gstep rfl rfl rfl (y_load1 hT rfl rfl rfl (Rd1.bytesAt (bs := b) (j := 40 + k) (RdN.rowAll (by (repeat (first | exact Pick.head | apply Pick.tail | apply Pick.app)))) (by omega) (by rw [show i5.size = 1 from rfl]; omega))) rfl rfl ?_)
    all_goals (first | refine JL.gskip rfl rfl rfl rfl rfl rfl ?_ | refine JL.gskipU rfl rfl rfl rfl rfl ?_ | refine JL.gstep rfl rfl rfl (y_eql rfl rfl) rfl rfl ?_)
    all_goals (refine JL.step (y_pick rfl rfl rfl) rfl rfl rfl ?_)
    all_goals (refine JL.step (y_assign rfl) rfl rfl rfl ?_)
    all_goals refine JL.nil ?_
    all_goals refine JE.block_normal ?_
    all_goals refine JE.then_normal ?_
    all_goals
      refine J.region ?_
      refine JL.step (y_move rfl) rfl rfl rfl ?_
      refine JL.step (y_add rfl rfl (by (first | exact wrap_i64 (by omega) (by omega) | rfl))) rfl rfl rfl ?_
      refine JL.step (y_assign rfl) rfl rfl rfl ?_
      refine JL.nil ?_
  all_goals
    all_goals refine JE.round (s := k) (k + 1) (by omega) ⟨rfl, rfl, rfl, ?_, ?_, trivial⟩ (fun w q => q) (by omega)
    all_goals (first | (rw [zTo, hz, Bool.true_and]; rfl) | (rw [zTo, hz, Bool.false_and]; rfl) | (rw [show (40 : Int) + ((k + 1 : Nat) : Int) = 40 + (k : Int) + 1 by omega]; rfl))
theorem rread_f1 (b : Blk) (l : List HProp) (hb : b.length = 64) (hB : Bytes b) (k1 : ¬ b.take 10 = lettersL) :
    Fc prog E 80 [.agg (encB b).toArray].toArray l (fun v l' => ∃ a c, v = .agg (rsuper b a c false).toArray ∧ l' = own 5 1 (.slice a 16 c) 16 (ints .u8 ((b.drop 24).take 16)) :: l) := by
  refine Fc.post ?_
  have hh16 : ((b.drop 24).take 16).length = 16 := by simp [hb]
  have hbL : (encB b).length = 64 := (encB_length b).trans hb
  have hsz : IntKind.i64.wrap ((leG ((b.drop 20).take 4) 4).toNat : Int) = (sbRead b).size := by
    have := leG_lt (hB.part 20 4)
    rw [wrap_i64 (by omega) (by omega)]
    show _ = ((BitVec.ofInt 32 ((leG ((b.drop 20).take 4) 4).toNat : Int)).toNat : Int)
    rw [BitVec.toNat_ofInt]
    omega
  have hob : ∀ bb lo n l', lo + n ≤ 64 → (∃ r, Pick l' (row bb 27 (encB b)) r) → InL l' (some ⟨bb, 0 + lo * 1, none⟩) n (64 - lo) (ints .u8 ((b.drop lo).take n)) := fun bb lo n l' hlo ⟨r, hp⟩ => ⟨by omega, by unfold maxLen; omega, .inl ⟨bb, 0 + lo * 1, rfl, fun m => RdN.row (n := n) (Pick.app m hp) (by simp [encB, ints])⟩⟩
  have hob0 : ∀ bb n l', n ≤ 64 → (∃ r, Pick l' (row bb 27 (encB b)) r) → InL l' (some ⟨bb, 0 + 0 * 1, none⟩) n 64 (ints .u8 (b.take n)) := fun bb n l' hlo ⟨r, hp⟩ => ⟨by omega, by unfold maxLen; omega, .inl ⟨bb, 0, rfl, fun m => RdN.row (n := n) (Pick.app m hp) (by simp [encB, ints])⟩⟩
  have hX : ByteArray.mk #[104, 111, 108, 108, 111, 119, 116, 114, 101, 101] = strOf lettersL := by kernel_rfl
  have hB10 : ∀ x ∈ b.take 10, 0 ≤ x ∧ x ≤ 255 := fun x hx => hB x (List.mem_of_mem_take hx)
  have hL10 : ∀ x ∈ lettersL, 0 ≤ x ∧ x ≤ 255 := by decide
  refine Fc.of_body (c := ?codeC) Try.func80 ?hb Try.ntmps80 ?hl ?_
  case hb => exact rfl
  case hl => exact rfl
  refine J.seq ?_
  refine J.region ?_
  refine JL.loud rfl (l_box rfl (by (first | rfl | simp)) rfl (fun bb => ?_))
  refine JL.loud rfl (l_alloc hT rfl rfl (by (first | rfl | simp)) rfl (fun b1 => ?_))
  refine JL.nil ?_
  refine JE.then_normal ?_
  refine J.seq ?_
  refine J.draw _ _ [(0, .q), (1, .q), (2, .q), (3, .q), (4, .q), (5, .q), (6, .q), (7, .q), (8, .q), (9, .l), (10, .q), (11, .n), (12, .l)] mixed (by kernel_rfl) (Split.nil) ?_
  refine JM.quiet rfl rfl rfl rfl (fun m => y_indexAddr_arr hT rfl rfl rfl rfl rfl (by (first | omega | exact Nat.le_of_ble_eq_true rfl | decide | (simp; omega))) (by (first | omega | exact Nat.le_of_ble_eq_true rfl | decide | (simp; omega)))) ?_
  refine JM.quiet rfl rfl rfl rfl (fun m => y_load1 hT rfl rfl rfl (Rd1.bytesAt (bs := b) (j := 10) (RdN.rowAll (Pick.app m (by (repeat (first | exact Pick.head | apply Pick.tail | apply Pick.app))))) (by omega) rfl)) ?_
  refine JM.quiet rfl rfl rfl rfl (fun m => y_conv (m := (sbRead b).place) hT rfl rfl rfl rfl rfl) ?_
  refine JM.quiet rfl rfl rfl rfl (fun m => y_slice_arr hT rfl rfl rfl rfl (.inr ⟨_, _, _, rfl, rfl, (by (first | rfl | simp))⟩) (.inr ⟨_, _, _, rfl, rfl, (by (first | rfl | simp))⟩) (by (first | omega | exact Nat.le_of_ble_eq_true rfl | decide | (simp; omega))) (by (first | omega | exact Nat.le_of_ble_eq_true rfl | decide | (simp; omega)))) ?_
  refine JM.quiet rfl rfl rfl rfl (fun m => y_callF e94 rfl (rhigh_at E _ _ 8 ((b.drop 12).take 8) _ (by simp [hb]) (hB.part 12 8) (hob _ 12 8 _ (by decide) ⟨_, Pick.app m (by (repeat (first | exact Pick.head | apply Pick.tail | apply Pick.app)))⟩))) ?_
  refine JM.quiet rfl rfl rfl rfl (fun m => y_slice_arr hT rfl rfl rfl rfl (.inr ⟨_, _, _, rfl, rfl, (by (first | rfl | simp))⟩) (.inr ⟨_, _, _, rfl, rfl, (by (first | rfl | simp))⟩) (by (first | omega | exact Nat.le_of_ble_eq_true rfl | decide | (simp; omega))) (by (first | omega | exact Nat.le_of_ble_eq_true rfl | decide | (simp; omega)))) ?_
  refine JM.quiet rfl rfl rfl rfl (fun m => y_callF e94 rfl (rhigh_at E _ _ 4 ((b.drop 20).take 4) _ (by simp [hb]) (hB.part 20 4) (hob _ 20 4 _ (by decide) ⟨_, Pick.app m (by (repeat (first | exact Pick.head | apply Pick.tail | apply Pick.app)))⟩))) ?_
  refine JM.quiet rfl rfl rfl rfl (fun m => y_conv (m := (sbRead b).size) hT rfl rfl rfl rfl hsz) ?_
  refine JM.quiet rfl rfl rfl rfl (fun m => y_slice_arr hT rfl rfl rfl rfl (.inr ⟨_, _, _, rfl, rfl, (by (first | rfl | simp))⟩) (.inr ⟨_, _, _, rfl, rfl, (by (first | rfl | simp))⟩) (by (first | omega | exact Nat.le_of_ble_eq_true rfl | decide | (simp; omega))) (by (first | omega | exact Nat.le_of_ble_eq_true rfl | decide | (simp; omega)))) ?_
  refine JM.loud rfl rfl (fun fr => l_callF e74 rfl rfl (rboth_at E _ _ 40 0 16 0 16 ((b.drop 24).take 16) [] _ rfl hh16 rfl (hob _ 24 16 _ (by decide) ⟨_, by (repeat (first | exact Pick.head | apply Pick.tail | apply Pick.app))⟩) InL.none (by decide)) ?_)
  rintro _ _ ⟨a, c, rfl, rfl⟩
  refine ⟨[_], (by (repeat (first | exact Split.nil | exact Split.all | refine Split.cons Pick.head ?_))), ?_⟩
  refine JM.quiet rfl rfl rfl rfl (fun m => y_build (cs := [_, _, _, _, _]) hT rfl rfl rfl rfl rfl rfl ⟨⟨(by (first | rfl | assumption | (simp; done) | omega)), Nat.le_of_ble_eq_true rfl⟩, ⟨⟨(by (first | rfl | assumption | (simp; done) | omega)), Nat.le_of_ble_eq_true rfl⟩, ⟨⟨(by (first | rfl | assumption | (simp; done) | omega)), Nat.le_of_ble_eq_true rfl⟩, ⟨⟨(by (first | rfl | assumption | (simp; done) | omega)), Nat.le_of_ble_eq_true rfl⟩, trivial⟩⟩⟩⟩ rfl) ?_
  refine JM.lay rfl rfl rfl rfl (fun a hf => lays_alloc hT rfl rfl (by (first | rfl | simp))) (fun b3 => ?_)
  refine JM.loud rfl rfl (fun fr => l_storeAll hT rfl rfl rfl (by (first | rfl | assumption | (simp; done) | omega)) (by (first | assumption | exact ones_of rfl | exact encW_one _ | exact encB_one _ | (intro u hu; simp at hu; rcases hu with rfl | rfl <;> rfl) | (intro u hu; simp at hu; subst hu; rfl) | simp)) (by (repeat (first | exact Pick.head | apply Pick.tail | apply Pick.app))) (by (first | rfl | assumption | (simp; done) | omega)) (⟨[_, _], (by (repeat (first | exact Split.nil | exact Split.all | refine Split.cons Pick.head ?_))), ?_⟩))
  refine JM.nil ?_
  refine JE.then_normal ?_
  refine J.seq ?_
  refine J.region ?_
  refine JL.step (y_indexAddr_arr hT rfl rfl rfl rfl rfl (by (first | omega | exact Nat.le_of_ble_eq_true rfl | decide | (simp; omega))) (by (first | omega | exact Nat.le_of_ble_eq_true rfl | decide | (simp; omega)))) rfl rfl rfl ?_
  refine JL.step (y_load1 hT rfl rfl rfl (Rd1.bytesAt (bs := b) (j := 11) (RdN.rowAll (by (repeat (first | exact Pick.head | apply Pick.tail | apply Pick.app)))) (by omega) rfl)) rfl rfl rfl ?_
  refine JL.step (y_eql rfl rfl) rfl rfl rfl (JL.step (y_assign rfl) rfl rfl rfl ?_)
  refine JL.nil ?_
  refine JE.then_normal ?_
  refine J.seq ?_
  refine J.seq ?_
  refine J.region ?_
  refine JL.step (y_assign rfl) rfl rfl rfl ?_
  refine JL.nil ?_
  refine JE.then_normal ?_
  refine J.block ?_
  refine J.loop (α := Nat) (fun k => k ≤ 8) (fun k => [(1, .pointer (some ⟨bb, 0, none⟩)), (2, .pointer (some ⟨b1, 0, none⟩)), (3, .pointer (some ⟨b3, 0, none⟩)), (4, .bool (zTo b k)), (5, .int .i64 (40 + (k : Int)))]) (fun _ => row b3 89 (rsuper b a c false) :: own 5 1 (.slice a 16 c) 16 (ints .u8 ((b.drop 24).take 16)) :: row b1 89 [.int .i64 0, .int .u64 0, .int .i64 0, .slice none 0 0, .bool false] :: row bb 27 (encB b) :: l) (fun k => 8 - k) 0 (by omega) ⟨rfl, rfl, rfl, rfl, rfl, trivial⟩ (fun w h => by rw [List.append_nil] at h; exact h.sup (by (repeat (first | exact Sup.refl | apply Sup.cons (by (repeat (first | exact Pick.head | apply Pick.tail | apply Pick.app))) | apply Sup.app | apply Sup.skip | apply Sup.skips)))) ?_
  intro k hk
  refine J.seq ?_
  refine J.seq ?_
  refine J.region ?_
  refine JL.step (y_move rfl) rfl rfl rfl (JL.step (y_lss rfl rfl) rfl rfl rfl ?_)
  refine JL.nil ?_
  refine JE.then_normal ?_
  first | apply J.cond_dec rfl | apply J.cond rfl
  case' ht =>
    intro h
    try (first | (exfalso; omega) | (cases h; done) | (exfalso; simp at h; done) | subst h)
    all_goals
      refine J.skip ?_
  case' hf =>
    intro h
    try (first | (exfalso; omega) | (cases h; done) | (exfalso; simp at h; done) | subst h)
    all_goals
      refine J.exit ?_
      refine JE.then_exit ?_
      refine JE.then_exit ?_
      refine JE.block_exit ?_
      refine JE.then_normal ?_
      refine J.seq ?_
      obtain rfl : k = 8 := by omega
      obtain ⟨zz, hzz⟩ : ∃ zz, zTo b 8 = zz := ⟨_, rfl⟩
      rw [hzz]
      refine J.draw _ _ [(0, .q), (1, .q), (2, .q), (3, .q), (4, .q), (5, .q), (6, .q), (7, .q), (8, .q), (9, .q), (10, .q), (11, .q), (12, .q), (13, .q), (14, .q), (15, .q), (16, .q), (17, .q), (18, .l)] mixed (by kernel_rfl) (Split.cons (Pick.head) (Split.nil)) ?_
      refine JM.quiet rfl rfl rfl rfl (fun m => y_slice_arr hT rfl rfl rfl rfl (.inl ⟨rfl, rfl⟩) (.inr ⟨_, _, _, rfl, rfl, (by (first | rfl | simp))⟩) (by (first | omega | exact Nat.le_of_ble_eq_true rfl | decide | (simp; omega))) (by (first | omega | exact Nat.le_of_ble_eq_true rfl | decide | (simp; omega)))) ?_
      refine JM.quiet rfl rfl rfl rfl (fun m => y_convString (xs := b.take 10) hT rfl rfl rfl rfl rfl rfl rfl (RdN.row (off := 0 + 0 * 1) (n := 10) (Pick.app m (by (repeat (first | exact Pick.head | apply Pick.tail | apply Pick.app)))) (by simp [encB, ints])) (by simp [hb])) ?_
      refine JM.quiet rfl rfl rfl rfl (fun m => y_str_eqB rfl rfl (decide_eq_false (fun e => k1 (strOf_inj hB10 hL10 (e.trans hX))))) ?_
      refine JM.quiet rfl rfl rfl rfl (fun m => y_move rfl) ?_
      all_goals (first | refine JM.gskip rfl rfl rfl rfl rfl rfl rfl ?_ | refine JM.gskipU rfl rfl rfl rfl rfl rfl ?_)
      all_goals (first | refine JM.gskip rfl rfl rfl rfl rfl rfl rfl ?_ | refine JM.gskipU rfl rfl rfl rfl rfl rfl ?_)
      all_goals (first | refine JM.gskip rfl rfl rfl rfl rfl rfl rfl ?_ | refine JM.gskipU rfl rfl rfl rfl rfl rfl ?_)
      refine JM.quiet rfl rfl rfl rfl (fun m => y_pick rfl rfl rfl) ?_
      refine JM.quiet rfl rfl rfl rfl (fun m => y_move rfl) ?_
      all_goals (first | refine JM.gskip rfl rfl rfl rfl rfl rfl rfl ?_ | refine JM.gskipU rfl rfl rfl rfl rfl rfl ?_)
      refine JM.quiet rfl rfl rfl rfl (fun m => y_pick rfl rfl rfl) ?_
      refine JM.quiet rfl rfl rfl rfl (fun m => y_move rfl) ?_
      all_goals (first | refine JM.gskip rfl rfl rfl rfl rfl rfl rfl ?_ | refine JM.gskipU rfl rfl rfl rfl rfl rfl ?_)
      all_goals (first | refine JM.gskip rfl rfl rfl rfl rfl rfl rfl ?_ | refine JM.gskipU rfl rfl rfl rfl rfl rfl ?_)
      all_goals (first | refine JM.gskip rfl rfl rfl rfl rfl rfl rfl ?_ | refine JM.gskipU rfl rfl rfl rfl rfl rfl ?_)
      all_goals (first | refine JM.gskip rfl rfl rfl rfl rfl rfl rfl ?_ | refine JM.gskipU rfl rfl rfl rfl rfl rfl ?_)
      refine JM.quiet rfl rfl rfl rfl (fun m => y_pick rfl rfl rfl) ?_
      refine JM.quiet rfl rfl rfl rfl (fun m => y_fieldAddr hT rfl rfl rfl rfl rfl rfl) ?_
      refine JM.loud rfl rfl (fun fr => l_store1 hT rfl rfl rfl rfl rfl (by (repeat (first | exact Pick.head | apply Pick.tail | apply Pick.app))) (by (first | omega | exact Nat.le_of_ble_eq_true rfl | decide | (simp; omega))) (⟨[_], (by (repeat (first | exact Split.nil | exact Split.all | refine Split.cons Pick.head ?_))), ?_⟩))
      refine JM.nil ?_
      all_goals refine JE.then_normal ?_
      all_goals
        refine J.seq ?_
        refine J.region ?_
        refine JL.step (y_loadN hT rfl rfl rfl (by (first | exact RdN.rowAll (by (repeat (first | exact Pick.head | apply Pick.tail | apply Pick.app))) | exact RdN.own (by (repeat (first | exact Pick.head | apply Pick.tail | apply Pick.app))))) (by (first | rfl | assumption | (simp; done) | omega))) rfl rfl rfl ?_
        refine JL.loud rfl (l_storeAll hT rfl rfl rfl (by (first | rfl | assumption | (simp; done) | omega)) (by (first | assumption | exact ones_of rfl | exact encW_one _ | exact encB_one _ | (intro u hu; simp at hu; rcases hu with rfl | rfl <;> rfl) | (intro u hu; simp at hu; subst hu; rfl) | simp)) (by (repeat (first | exact Pick.head | apply Pick.tail | apply Pick.app))) (by (first | rfl | assumption | (simp; done) | omega)) ?_)
        refine JL.nil ?_
        refine JE.then_normal ?_
        refine J.ret ?_
        refine JE.ret1 (.inl rfl) rfl rfl (by (first | exact RV.tmp rfl | exact RV.cell1 hT rfl rfl rfl (by (exact Rd1.row (by (repeat (first | exact Pick.head | apply Pick.tail | apply Pick.app))) (by rfl))) | exact RV.cellN hT rfl rfl rfl (by (first | exact RdN.rowAll (by (repeat (first | exact Pick.head | apply Pick.tail | apply Pick.app))) | exact RdN.own (by (repeat (first | exact Pick.head | apply Pick.tail | apply Pick.app))))) (by (first | rfl | assumption | (simp; done) | omega)))) ?_
        exact ⟨_, fun w q => q.sup (by (repeat (first | exact Sup.refl | apply Sup.cons (by (repeat (first | exact Pick.head | apply Pick.tail | apply Pick.app))) | apply Sup.app | apply Sup.skip | apply Sup.skips))), a, c, rfl, rfl⟩
  all_goals refine JE.then_normal ?_
  all_goals
    refine J.seq ?_
    refine J.block ?_
    refine J.region ?_
    cases hz : zTo b k <;> refine JL.step (y_move rfl) rfl rfl rfl ?_
    all_goals (refine JL.step (y_move rfl) rfl rfl rfl ?_)
    all_goals (first | (refine JL.gsplit_dec rfl rfl rfl (fun h => ?_) (fun h => ?_) <;> try (first | (exfalso; omega) | exact absurd rfl h)) | (refine JL.gsplit rfl rfl rfl (fun h => ?_) (fun h => ?_) <;> try (first | cases h | (exfalso; simp at h; done))) | skip)
    all_goals (first | refine JL.gskip rfl rfl rfl rfl rfl rfl ?_ | refine JL.gskipU rfl rfl rfl rfl rfl ?_ | refine JL.gstep rfl rfl rfl (y_move rfl) rfl rfl ?_)
    all_goals (first | refine JL.gskip rfl rfl rfl rfl rfl rfl ?_ | refine JL.gskipU rfl rfl rfl rfl rfl ?_ | refine JL.gstep rfl rfl rfl (y_indexAddr_arr hT rfl rfl rfl rfl rfl (by (first | omega | exact Nat.le_of_ble_eq_true rfl | decide | (simp; omega))) (by (first | omega | exact Nat.le_of_ble_eq_true rfl | decide | (simp; omega)))) rfl rfl ?_)
    all_goals (first | refine JL.gskip rfl rfl rfl rfl rfl rfl ?_ | refine JL.gskipU rfl rfl rfl rfl rfl ?_ | refine JL.gstep rfl rfl rfl (y_load1 hT rfl rfl rfl (Rd1.bytesAt (bs := b) (j := 40 + k) (RdN.rowAll (by (repeat (first | exact Pick.head | apply Pick.tail | apply Pick.app)))) (by omega) (by rw [show i5.size = 1 from rfl]; omega))) rfl rfl ?_)
    all_goals (first | refine JL.gskip rfl rfl rfl rfl rfl rfl ?_ | refine JL.gskipU rfl rfl rfl rfl rfl ?_ | refine JL.gstep rfl rfl rfl (y_eql rfl rfl) rfl rfl ?_)
    all_goals (refine JL.step (y_pick rfl rfl rfl) rfl rfl rfl ?_)
    all_goals (refine JL.step (y_assign rfl) rfl rfl rfl ?_)
    all_goals refine JL.nil ?_
    all_goals refine JE.block_normal ?_
    all_goals refine JE.then_normal ?_
    all_goals
      refine J.region ?_
      refine JL.step (y_move rfl) rfl rfl rfl ?_
      refine JL.step (y_add rfl rfl (by (first | exact wrap_i64 (by omega) (by omega) | rfl))) rfl rfl rfl ?_
      refine JL.step (y_assign rfl) rfl rfl rfl ?_
      refine JL.nil ?_
  all_goals
    all_goals refine JE.round (s := k) (k + 1) (by omega) ⟨rfl, rfl, rfl, ?_, ?_, trivial⟩ (fun w q => q) (by omega)
    all_goals (first | (rw [zTo, hz, Bool.true_and]; rfl) | (rw [zTo, hz, Bool.false_and]; rfl) | (rw [show (40 : Int) + ((k + 1 : Nat) : Int) = 40 + (k : Int) + 1 by omega]; rfl))
theorem rread_f2 (b : Blk) (l : List HProp) (hb : b.length = 64) (hB : Bytes b) (k1 : b.take 10 = lettersL) (k2 : ¬ (sbRead b).place < 2) :
    Fc prog E 80 [.agg (encB b).toArray].toArray l (fun v l' => ∃ a c, v = .agg (rsuper b a c false).toArray ∧ l' = own 5 1 (.slice a 16 c) 16 (ints .u8 ((b.drop 24).take 16)) :: l) := by
  refine Fc.post ?_
  have hh16 : ((b.drop 24).take 16).length = 16 := by simp [hb]
  have hbL : (encB b).length = 64 := (encB_length b).trans hb
  have hsz : IntKind.i64.wrap ((leG ((b.drop 20).take 4) 4).toNat : Int) = (sbRead b).size := by
    have := leG_lt (hB.part 20 4)
    rw [wrap_i64 (by omega) (by omega)]
    show _ = ((BitVec.ofInt 32 ((leG ((b.drop 20).take 4) 4).toNat : Int)).toNat : Int)
    rw [BitVec.toNat_ofInt]
    omega
  have hob : ∀ bb lo n l', lo + n ≤ 64 → (∃ r, Pick l' (row bb 27 (encB b)) r) → InL l' (some ⟨bb, 0 + lo * 1, none⟩) n (64 - lo) (ints .u8 ((b.drop lo).take n)) := fun bb lo n l' hlo ⟨r, hp⟩ => ⟨by omega, by unfold maxLen; omega, .inl ⟨bb, 0 + lo * 1, rfl, fun m => RdN.row (n := n) (Pick.app m hp) (by simp [encB, ints])⟩⟩
  have hob0 : ∀ bb n l', n ≤ 64 → (∃ r, Pick l' (row bb 27 (encB b)) r) → InL l' (some ⟨bb, 0 + 0 * 1, none⟩) n 64 (ints .u8 (b.take n)) := fun bb n l' hlo ⟨r, hp⟩ => ⟨by omega, by unfold maxLen; omega, .inl ⟨bb, 0, rfl, fun m => RdN.row (n := n) (Pick.app m hp) (by simp [encB, ints])⟩⟩
  have hX : ByteArray.mk #[104, 111, 108, 108, 111, 119, 116, 114, 101, 101] = strOf lettersL := by kernel_rfl
  have hB10 : ∀ x ∈ b.take 10, 0 ≤ x ∧ x ≤ 255 := fun x hx => hB x (List.mem_of_mem_take hx)
  have hL10 : ∀ x ∈ lettersL, 0 ≤ x ∧ x ≤ 255 := by decide
  refine Fc.of_body (c := ?codeC) Try.func80 ?hb Try.ntmps80 ?hl ?_
  case hb => exact rfl
  case hl => exact rfl
  refine J.seq ?_
  refine J.region ?_
  refine JL.loud rfl (l_box rfl (by (first | rfl | simp)) rfl (fun bb => ?_))
  refine JL.loud rfl (l_alloc hT rfl rfl (by (first | rfl | simp)) rfl (fun b1 => ?_))
  refine JL.nil ?_
  refine JE.then_normal ?_
  refine J.seq ?_
  refine J.draw _ _ [(0, .q), (1, .q), (2, .q), (3, .q), (4, .q), (5, .q), (6, .q), (7, .q), (8, .q), (9, .l), (10, .q), (11, .n), (12, .l)] mixed (by kernel_rfl) (Split.nil) ?_
  refine JM.quiet rfl rfl rfl rfl (fun m => y_indexAddr_arr hT rfl rfl rfl rfl rfl (by (first | omega | exact Nat.le_of_ble_eq_true rfl | decide | (simp; omega))) (by (first | omega | exact Nat.le_of_ble_eq_true rfl | decide | (simp; omega)))) ?_
  refine JM.quiet rfl rfl rfl rfl (fun m => y_load1 hT rfl rfl rfl (Rd1.bytesAt (bs := b) (j := 10) (RdN.rowAll (Pick.app m (by (repeat (first | exact Pick.head | apply Pick.tail | apply Pick.app))))) (by omega) rfl)) ?_
  refine JM.quiet rfl rfl rfl rfl (fun m => y_conv (m := (sbRead b).place) hT rfl rfl rfl rfl rfl) ?_
  refine JM.quiet rfl rfl rfl rfl (fun m => y_slice_arr hT rfl rfl rfl rfl (.inr ⟨_, _, _, rfl, rfl, (by (first | rfl | simp))⟩) (.inr ⟨_, _, _, rfl, rfl, (by (first | rfl | simp))⟩) (by (first | omega | exact Nat.le_of_ble_eq_true rfl | decide | (simp; omega))) (by (first | omega | exact Nat.le_of_ble_eq_true rfl | decide | (simp; omega)))) ?_
  refine JM.quiet rfl rfl rfl rfl (fun m => y_callF e94 rfl (rhigh_at E _ _ 8 ((b.drop 12).take 8) _ (by simp [hb]) (hB.part 12 8) (hob _ 12 8 _ (by decide) ⟨_, Pick.app m (by (repeat (first | exact Pick.head | apply Pick.tail | apply Pick.app)))⟩))) ?_
  refine JM.quiet rfl rfl rfl rfl (fun m => y_slice_arr hT rfl rfl rfl rfl (.inr ⟨_, _, _, rfl, rfl, (by (first | rfl | simp))⟩) (.inr ⟨_, _, _, rfl, rfl, (by (first | rfl | simp))⟩) (by (first | omega | exact Nat.le_of_ble_eq_true rfl | decide | (simp; omega))) (by (first | omega | exact Nat.le_of_ble_eq_true rfl | decide | (simp; omega)))) ?_
  refine JM.quiet rfl rfl rfl rfl (fun m => y_callF e94 rfl (rhigh_at E _ _ 4 ((b.drop 20).take 4) _ (by simp [hb]) (hB.part 20 4) (hob _ 20 4 _ (by decide) ⟨_, Pick.app m (by (repeat (first | exact Pick.head | apply Pick.tail | apply Pick.app)))⟩))) ?_
  refine JM.quiet rfl rfl rfl rfl (fun m => y_conv (m := (sbRead b).size) hT rfl rfl rfl rfl hsz) ?_
  refine JM.quiet rfl rfl rfl rfl (fun m => y_slice_arr hT rfl rfl rfl rfl (.inr ⟨_, _, _, rfl, rfl, (by (first | rfl | simp))⟩) (.inr ⟨_, _, _, rfl, rfl, (by (first | rfl | simp))⟩) (by (first | omega | exact Nat.le_of_ble_eq_true rfl | decide | (simp; omega))) (by (first | omega | exact Nat.le_of_ble_eq_true rfl | decide | (simp; omega)))) ?_
  refine JM.loud rfl rfl (fun fr => l_callF e74 rfl rfl (rboth_at E _ _ 40 0 16 0 16 ((b.drop 24).take 16) [] _ rfl hh16 rfl (hob _ 24 16 _ (by decide) ⟨_, by (repeat (first | exact Pick.head | apply Pick.tail | apply Pick.app))⟩) InL.none (by decide)) ?_)
  rintro _ _ ⟨a, c, rfl, rfl⟩
  refine ⟨[_], (by (repeat (first | exact Split.nil | exact Split.all | refine Split.cons Pick.head ?_))), ?_⟩
  refine JM.quiet rfl rfl rfl rfl (fun m => y_build (cs := [_, _, _, _, _]) hT rfl rfl rfl rfl rfl rfl ⟨⟨(by (first | rfl | assumption | (simp; done) | omega)), Nat.le_of_ble_eq_true rfl⟩, ⟨⟨(by (first | rfl | assumption | (simp; done) | omega)), Nat.le_of_ble_eq_true rfl⟩, ⟨⟨(by (first | rfl | assumption | (simp; done) | omega)), Nat.le_of_ble_eq_true rfl⟩, ⟨⟨(by (first | rfl | assumption | (simp; done) | omega)), Nat.le_of_ble_eq_true rfl⟩, trivial⟩⟩⟩⟩ rfl) ?_
  refine JM.lay rfl rfl rfl rfl (fun a hf => lays_alloc hT rfl rfl (by (first | rfl | simp))) (fun b3 => ?_)
  refine JM.loud rfl rfl (fun fr => l_storeAll hT rfl rfl rfl (by (first | rfl | assumption | (simp; done) | omega)) (by (first | assumption | exact ones_of rfl | exact encW_one _ | exact encB_one _ | (intro u hu; simp at hu; rcases hu with rfl | rfl <;> rfl) | (intro u hu; simp at hu; subst hu; rfl) | simp)) (by (repeat (first | exact Pick.head | apply Pick.tail | apply Pick.app))) (by (first | rfl | assumption | (simp; done) | omega)) (⟨[_, _], (by (repeat (first | exact Split.nil | exact Split.all | refine Split.cons Pick.head ?_))), ?_⟩))
  refine JM.nil ?_
  refine JE.then_normal ?_
  refine J.seq ?_
  refine J.region ?_
  refine JL.step (y_indexAddr_arr hT rfl rfl rfl rfl rfl (by (first | omega | exact Nat.le_of_ble_eq_true rfl | decide | (simp; omega))) (by (first | omega | exact Nat.le_of_ble_eq_true rfl | decide | (simp; omega)))) rfl rfl rfl ?_
  refine JL.step (y_load1 hT rfl rfl rfl (Rd1.bytesAt (bs := b) (j := 11) (RdN.rowAll (by (repeat (first | exact Pick.head | apply Pick.tail | apply Pick.app)))) (by omega) rfl)) rfl rfl rfl ?_
  refine JL.step (y_eql rfl rfl) rfl rfl rfl (JL.step (y_assign rfl) rfl rfl rfl ?_)
  refine JL.nil ?_
  refine JE.then_normal ?_
  refine J.seq ?_
  refine J.seq ?_
  refine J.region ?_
  refine JL.step (y_assign rfl) rfl rfl rfl ?_
  refine JL.nil ?_
  refine JE.then_normal ?_
  refine J.block ?_
  refine J.loop (α := Nat) (fun k => k ≤ 8) (fun k => [(1, .pointer (some ⟨bb, 0, none⟩)), (2, .pointer (some ⟨b1, 0, none⟩)), (3, .pointer (some ⟨b3, 0, none⟩)), (4, .bool (zTo b k)), (5, .int .i64 (40 + (k : Int)))]) (fun _ => row b3 89 (rsuper b a c false) :: own 5 1 (.slice a 16 c) 16 (ints .u8 ((b.drop 24).take 16)) :: row b1 89 [.int .i64 0, .int .u64 0, .int .i64 0, .slice none 0 0, .bool false] :: row bb 27 (encB b) :: l) (fun k => 8 - k) 0 (by omega) ⟨rfl, rfl, rfl, rfl, rfl, trivial⟩ (fun w h => by rw [List.append_nil] at h; exact h.sup (by (repeat (first | exact Sup.refl | apply Sup.cons (by (repeat (first | exact Pick.head | apply Pick.tail | apply Pick.app))) | apply Sup.app | apply Sup.skip | apply Sup.skips)))) ?_
  intro k hk
  refine J.seq ?_
  refine J.seq ?_
  refine J.region ?_
  refine JL.step (y_move rfl) rfl rfl rfl (JL.step (y_lss rfl rfl) rfl rfl rfl ?_)
  refine JL.nil ?_
  refine JE.then_normal ?_
  first | apply J.cond_dec rfl | apply J.cond rfl
  case' ht =>
    intro h
    try (first | (exfalso; omega) | (cases h; done) | (exfalso; simp at h; done) | subst h)
    all_goals
      refine J.skip ?_
  case' hf =>
    intro h
    try (first | (exfalso; omega) | (cases h; done) | (exfalso; simp at h; done) | subst h)
    all_goals
      refine J.exit ?_
      refine JE.then_exit ?_
      refine JE.then_exit ?_
      refine JE.block_exit ?_
      refine JE.then_normal ?_
      refine J.seq ?_
      obtain rfl : k = 8 := by omega
      obtain ⟨zz, hzz⟩ : ∃ zz, zTo b 8 = zz := ⟨_, rfl⟩
      rw [hzz]
      refine J.draw _ _ [(0, .q), (1, .q), (2, .q), (3, .q), (4, .q), (5, .e), (6, .q), (7, .q), (8, .q), (9, .q), (10, .q), (11, .q), (12, .q), (13, .q), (14, .q), (15, .q), (16, .q), (17, .q), (18, .l)] mixed (by kernel_rfl) (Split.cons (Pick.head) (Split.nil)) ?_
      refine JM.quiet rfl rfl rfl rfl (fun m => y_slice_arr hT rfl rfl rfl rfl (.inl ⟨rfl, rfl⟩) (.inr ⟨_, _, _, rfl, rfl, (by (first | rfl | simp))⟩) (by (first | omega | exact Nat.le_of_ble_eq_true rfl | decide | (simp; omega))) (by (first | omega | exact Nat.le_of_ble_eq_true rfl | decide | (simp; omega)))) ?_
      refine JM.quiet rfl rfl rfl rfl (fun m => y_convString (xs := b.take 10) hT rfl rfl rfl rfl rfl rfl rfl (RdN.row (off := 0 + 0 * 1) (n := 10) (Pick.app m (by (repeat (first | exact Pick.head | apply Pick.tail | apply Pick.app)))) (by simp [encB, ints])) (by simp [hb])) ?_
      refine JM.quiet rfl rfl rfl rfl (fun m => y_str_eqB rfl rfl (decide_eq_true ((congrArg strOf k1).trans hX.symm))) ?_
      refine JM.quiet rfl rfl rfl rfl (fun m => y_move rfl) ?_
      all_goals (first | refine JM.gskip rfl rfl rfl rfl rfl rfl rfl ?_ | refine JM.gskipU rfl rfl rfl rfl rfl rfl ?_ | refine JM.gquiet rfl rfl rfl rfl rfl rfl (fun m => y_fieldAddr hT rfl rfl rfl rfl rfl rfl) ?_)
      all_goals refine JM.gearly rfl rfl rfl rfl rfl rfl (fun fr => y_load1 hT rfl rfl rfl (by (exact Rd1.row (by (repeat (first | exact Pick.head | apply Pick.tail | apply Pick.app))) (by rfl)))) ?_
      refine JM.gquiet rfl rfl rfl rfl rfl rfl (fun m => y_lssB rfl rfl (decide_eq_false k2)) ?_
      all_goals refine JM.quiet rfl rfl rfl rfl (fun m => y_pick rfl rfl rfl) ?_
      all_goals refine JM.quiet rfl rfl rfl rfl (fun m => y_move rfl) ?_
      all_goals (first | refine JM.gskip rfl rfl rfl rfl rfl rfl rfl ?_ | refine JM.gskipU rfl rfl rfl rfl rfl rfl ?_)
      all_goals refine JM.quiet rfl rfl rfl rfl (fun m => y_pick rfl rfl rfl) ?_
      all_goals refine JM.quiet rfl rfl rfl rfl (fun m => y_move rfl) ?_
      all_goals (first | refine JM.gskip rfl rfl rfl rfl rfl rfl rfl ?_ | refine JM.gskipU rfl rfl rfl rfl rfl rfl ?_)
      all_goals (first | refine JM.gskip rfl rfl rfl rfl rfl rfl rfl ?_ | refine JM.gskipU rfl rfl rfl rfl rfl rfl ?_)
      all_goals (first | refine JM.gskip rfl rfl rfl rfl rfl rfl rfl ?_ | refine JM.gskipU rfl rfl rfl rfl rfl rfl ?_)
      all_goals (first | refine JM.gskip rfl rfl rfl rfl rfl rfl rfl ?_ | refine JM.gskipU rfl rfl rfl rfl rfl rfl ?_)
      all_goals refine JM.quiet rfl rfl rfl rfl (fun m => y_pick rfl rfl rfl) ?_
      all_goals refine JM.quiet rfl rfl rfl rfl (fun m => y_fieldAddr hT rfl rfl rfl rfl rfl rfl) ?_
      all_goals refine JM.loud rfl rfl (fun fr => l_store1 hT rfl rfl rfl rfl rfl (by (repeat (first | exact Pick.head | apply Pick.tail | apply Pick.app))) (by (first | omega | exact Nat.le_of_ble_eq_true rfl | decide | (simp; omega))) (⟨[_], (by (repeat (first | exact Split.nil | exact Split.all | refine Split.cons Pick.head ?_))), ?_⟩))
      all_goals refine JM.nil ?_
      all_goals refine JE.then_normal ?_
      all_goals
        refine J.seq ?_
        refine J.region ?_
        refine JL.step (y_loadN hT rfl rfl rfl (by (first | exact RdN.rowAll (by (repeat (first | exact Pick.head | apply Pick.tail | apply Pick.app))) | exact RdN.own (by (repeat (first | exact Pick.head | apply Pick.tail | apply Pick.app))))) (by (first | rfl | assumption | (simp; done) | omega))) rfl rfl rfl ?_
        refine JL.loud rfl (l_storeAll hT rfl rfl rfl (by (first | rfl | assumption | (simp; done) | omega)) (by (first | assumption | exact ones_of rfl | exact encW_one _ | exact encB_one _ | (intro u hu; simp at hu; rcases hu with rfl | rfl <;> rfl) | (intro u hu; simp at hu; subst hu; rfl) | simp)) (by (repeat (first | exact Pick.head | apply Pick.tail | apply Pick.app))) (by (first | rfl | assumption | (simp; done) | omega)) ?_)
        refine JL.nil ?_
        refine JE.then_normal ?_
        refine J.ret ?_
        refine JE.ret1 (.inl rfl) rfl rfl (by (first | exact RV.tmp rfl | exact RV.cell1 hT rfl rfl rfl (by (exact Rd1.row (by (repeat (first | exact Pick.head | apply Pick.tail | apply Pick.app))) (by rfl))) | exact RV.cellN hT rfl rfl rfl (by (first | exact RdN.rowAll (by (repeat (first | exact Pick.head | apply Pick.tail | apply Pick.app))) | exact RdN.own (by (repeat (first | exact Pick.head | apply Pick.tail | apply Pick.app))))) (by (first | rfl | assumption | (simp; done) | omega)))) ?_
        exact ⟨_, fun w q => q.sup (by (repeat (first | exact Sup.refl | apply Sup.cons (by (repeat (first | exact Pick.head | apply Pick.tail | apply Pick.app))) | apply Sup.app | apply Sup.skip | apply Sup.skips))), a, c, rfl, rfl⟩
  all_goals refine JE.then_normal ?_
  all_goals
    refine J.seq ?_
    refine J.block ?_
    refine J.region ?_
    cases hz : zTo b k <;> refine JL.step (y_move rfl) rfl rfl rfl ?_
    all_goals (refine JL.step (y_move rfl) rfl rfl rfl ?_)
    all_goals (first | (refine JL.gsplit_dec rfl rfl rfl (fun h => ?_) (fun h => ?_) <;> try (first | (exfalso; omega) | exact absurd rfl h)) | (refine JL.gsplit rfl rfl rfl (fun h => ?_) (fun h => ?_) <;> try (first | cases h | (exfalso; simp at h; done))) | skip)
    all_goals (first | refine JL.gskip rfl rfl rfl rfl rfl rfl ?_ | refine JL.gskipU rfl rfl rfl rfl rfl ?_ | refine JL.gstep rfl rfl rfl (y_move rfl) rfl rfl ?_)
    all_goals (first | refine JL.gskip rfl rfl rfl rfl rfl rfl ?_ | refine JL.gskipU rfl rfl rfl rfl rfl ?_ | refine JL.gstep rfl rfl rfl (y_indexAddr_arr hT rfl rfl rfl rfl rfl (by (first | omega | exact Nat.le_of_ble_eq_true rfl | decide | (simp; omega))) (by (first | omega | exact Nat.le_of_ble_eq_true rfl | decide | (simp; omega)))) rfl rfl ?_)
    all_goals (first | refine JL.gskip rfl rfl rfl rfl rfl rfl ?_ | refine JL.gskipU rfl rfl rfl rfl rfl ?_ | refine JL.gstep rfl rfl rfl (y_load1 hT rfl rfl rfl (Rd1.bytesAt (bs := b) (j := 40 + k) (RdN.rowAll (by (repeat (first | exact Pick.head | apply Pick.tail | apply Pick.app)))) (by omega) (by rw [show i5.size = 1 from rfl]; omega))) rfl rfl ?_)
    all_goals (first | refine JL.gskip rfl rfl rfl rfl rfl rfl ?_ | refine JL.gskipU rfl rfl rfl rfl rfl ?_ | refine JL.gstep rfl rfl rfl (y_eql rfl rfl) rfl rfl ?_)
    all_goals (refine JL.step (y_pick rfl rfl rfl) rfl rfl rfl ?_)
    all_goals (refine JL.step (y_assign rfl) rfl rfl rfl ?_)
    all_goals refine JL.nil ?_
    all_goals refine JE.block_normal ?_
    all_goals refine JE.then_normal ?_
    all_goals
      refine J.region ?_
      refine JL.step (y_move rfl) rfl rfl rfl ?_
      refine JL.step (y_add rfl rfl (by (first | exact wrap_i64 (by omega) (by omega) | rfl))) rfl rfl rfl ?_
      refine JL.step (y_assign rfl) rfl rfl rfl ?_
      refine JL.nil ?_
  all_goals
    all_goals refine JE.round (s := k) (k + 1) (by omega) ⟨rfl, rfl, rfl, ?_, ?_, trivial⟩ (fun w q => q) (by omega)
    all_goals (first | (rw [zTo, hz, Bool.true_and]; rfl) | (rw [zTo, hz, Bool.false_and]; rfl) | (rw [show (40 : Int) + ((k + 1 : Nat) : Int) = 40 + (k : Int) + 1 by omega]; rfl))
theorem rread_f3 (b : Blk) (l : List HProp) (hb : b.length = 64) (hB : Bytes b) (k1 : b.take 10 = lettersL) (k2 : (sbRead b).place < 2) (k3 : zTo b 8 = false) :
    Fc prog E 80 [.agg (encB b).toArray].toArray l (fun v l' => ∃ a c, v = .agg (rsuper b a c false).toArray ∧ l' = own 5 1 (.slice a 16 c) 16 (ints .u8 ((b.drop 24).take 16)) :: l) := by
  refine Fc.post ?_
  have hh16 : ((b.drop 24).take 16).length = 16 := by simp [hb]
  have hbL : (encB b).length = 64 := (encB_length b).trans hb
  have hsz : IntKind.i64.wrap ((leG ((b.drop 20).take 4) 4).toNat : Int) = (sbRead b).size := by
    have := leG_lt (hB.part 20 4)
    rw [wrap_i64 (by omega) (by omega)]
    show _ = ((BitVec.ofInt 32 ((leG ((b.drop 20).take 4) 4).toNat : Int)).toNat : Int)
    rw [BitVec.toNat_ofInt]
    omega
  have hob : ∀ bb lo n l', lo + n ≤ 64 → (∃ r, Pick l' (row bb 27 (encB b)) r) → InL l' (some ⟨bb, 0 + lo * 1, none⟩) n (64 - lo) (ints .u8 ((b.drop lo).take n)) := fun bb lo n l' hlo ⟨r, hp⟩ => ⟨by omega, by unfold maxLen; omega, .inl ⟨bb, 0 + lo * 1, rfl, fun m => RdN.row (n := n) (Pick.app m hp) (by simp [encB, ints])⟩⟩
  have hob0 : ∀ bb n l', n ≤ 64 → (∃ r, Pick l' (row bb 27 (encB b)) r) → InL l' (some ⟨bb, 0 + 0 * 1, none⟩) n 64 (ints .u8 (b.take n)) := fun bb n l' hlo ⟨r, hp⟩ => ⟨by omega, by unfold maxLen; omega, .inl ⟨bb, 0, rfl, fun m => RdN.row (n := n) (Pick.app m hp) (by simp [encB, ints])⟩⟩
  have hX : ByteArray.mk #[104, 111, 108, 108, 111, 119, 116, 114, 101, 101] = strOf lettersL := by kernel_rfl
  have hB10 : ∀ x ∈ b.take 10, 0 ≤ x ∧ x ≤ 255 := fun x hx => hB x (List.mem_of_mem_take hx)
  have hL10 : ∀ x ∈ lettersL, 0 ≤ x ∧ x ≤ 255 := by decide
  refine Fc.of_body (c := ?codeC) Try.func80 ?hb Try.ntmps80 ?hl ?_
  case hb => exact rfl
  case hl => exact rfl
  refine J.seq ?_
  refine J.region ?_
  refine JL.loud rfl (l_box rfl (by (first | rfl | simp)) rfl (fun bb => ?_))
  refine JL.loud rfl (l_alloc hT rfl rfl (by (first | rfl | simp)) rfl (fun b1 => ?_))
  refine JL.nil ?_
  refine JE.then_normal ?_
  refine J.seq ?_
  refine J.draw _ _ [(0, .q), (1, .q), (2, .q), (3, .q), (4, .q), (5, .q), (6, .q), (7, .q), (8, .q), (9, .l), (10, .q), (11, .n), (12, .l)] mixed (by kernel_rfl) (Split.nil) ?_
  refine JM.quiet rfl rfl rfl rfl (fun m => y_indexAddr_arr hT rfl rfl rfl rfl rfl (by (first | omega | exact Nat.le_of_ble_eq_true rfl | decide | (simp; omega))) (by (first | omega | exact Nat.le_of_ble_eq_true rfl | decide | (simp; omega)))) ?_
  refine JM.quiet rfl rfl rfl rfl (fun m => y_load1 hT rfl rfl rfl (Rd1.bytesAt (bs := b) (j := 10) (RdN.rowAll (Pick.app m (by (repeat (first | exact Pick.head | apply Pick.tail | apply Pick.app))))) (by omega) rfl)) ?_
  refine JM.quiet rfl rfl rfl rfl (fun m => y_conv (m := (sbRead b).place) hT rfl rfl rfl rfl rfl) ?_
  refine JM.quiet rfl rfl rfl rfl (fun m => y_slice_arr hT rfl rfl rfl rfl (.inr ⟨_, _, _, rfl, rfl, (by (first | rfl | simp))⟩) (.inr ⟨_, _, _, rfl, rfl, (by (first | rfl | simp))⟩) (by (first | omega | exact Nat.le_of_ble_eq_true rfl | decide | (simp; omega))) (by (first | omega | exact Nat.le_of_ble_eq_true rfl | decide | (simp; omega)))) ?_
  refine JM.quiet rfl rfl rfl rfl (fun m => y_callF e94 rfl (rhigh_at E _ _ 8 ((b.drop 12).take 8) _ (by simp [hb]) (hB.part 12 8) (hob _ 12 8 _ (by decide) ⟨_, Pick.app m (by (repeat (first | exact Pick.head | apply Pick.tail | apply Pick.app)))⟩))) ?_
  refine JM.quiet rfl rfl rfl rfl (fun m => y_slice_arr hT rfl rfl rfl rfl (.inr ⟨_, _, _, rfl, rfl, (by (first | rfl | simp))⟩) (.inr ⟨_, _, _, rfl, rfl, (by (first | rfl | simp))⟩) (by (first | omega | exact Nat.le_of_ble_eq_true rfl | decide | (simp; omega))) (by (first | omega | exact Nat.le_of_ble_eq_true rfl | decide | (simp; omega)))) ?_
  refine JM.quiet rfl rfl rfl rfl (fun m => y_callF e94 rfl (rhigh_at E _ _ 4 ((b.drop 20).take 4) _ (by simp [hb]) (hB.part 20 4) (hob _ 20 4 _ (by decide) ⟨_, Pick.app m (by (repeat (first | exact Pick.head | apply Pick.tail | apply Pick.app)))⟩))) ?_
  refine JM.quiet rfl rfl rfl rfl (fun m => y_conv (m := (sbRead b).size) hT rfl rfl rfl rfl hsz) ?_
  refine JM.quiet rfl rfl rfl rfl (fun m => y_slice_arr hT rfl rfl rfl rfl (.inr ⟨_, _, _, rfl, rfl, (by (first | rfl | simp))⟩) (.inr ⟨_, _, _, rfl, rfl, (by (first | rfl | simp))⟩) (by (first | omega | exact Nat.le_of_ble_eq_true rfl | decide | (simp; omega))) (by (first | omega | exact Nat.le_of_ble_eq_true rfl | decide | (simp; omega)))) ?_
  refine JM.loud rfl rfl (fun fr => l_callF e74 rfl rfl (rboth_at E _ _ 40 0 16 0 16 ((b.drop 24).take 16) [] _ rfl hh16 rfl (hob _ 24 16 _ (by decide) ⟨_, by (repeat (first | exact Pick.head | apply Pick.tail | apply Pick.app))⟩) InL.none (by decide)) ?_)
  rintro _ _ ⟨a, c, rfl, rfl⟩
  refine ⟨[_], (by (repeat (first | exact Split.nil | exact Split.all | refine Split.cons Pick.head ?_))), ?_⟩
  refine JM.quiet rfl rfl rfl rfl (fun m => y_build (cs := [_, _, _, _, _]) hT rfl rfl rfl rfl rfl rfl ⟨⟨(by (first | rfl | assumption | (simp; done) | omega)), Nat.le_of_ble_eq_true rfl⟩, ⟨⟨(by (first | rfl | assumption | (simp; done) | omega)), Nat.le_of_ble_eq_true rfl⟩, ⟨⟨(by (first | rfl | assumption | (simp; done) | omega)), Nat.le_of_ble_eq_true rfl⟩, ⟨⟨(by (first | rfl | assumption | (simp; done) | omega)), Nat.le_of_ble_eq_true rfl⟩, trivial⟩⟩⟩⟩ rfl) ?_
  refine JM.lay rfl rfl rfl rfl (fun a hf => lays_alloc hT rfl rfl (by (first | rfl | simp))) (fun b3 => ?_)
  refine JM.loud rfl rfl (fun fr => l_storeAll hT rfl rfl rfl (by (first | rfl | assumption | (simp; done) | omega)) (by (first | assumption | exact ones_of rfl | exact encW_one _ | exact encB_one _ | (intro u hu; simp at hu; rcases hu with rfl | rfl <;> rfl) | (intro u hu; simp at hu; subst hu; rfl) | simp)) (by (repeat (first | exact Pick.head | apply Pick.tail | apply Pick.app))) (by (first | rfl | assumption | (simp; done) | omega)) (⟨[_, _], (by (repeat (first | exact Split.nil | exact Split.all | refine Split.cons Pick.head ?_))), ?_⟩))
  refine JM.nil ?_
  refine JE.then_normal ?_
  refine J.seq ?_
  refine J.region ?_
  refine JL.step (y_indexAddr_arr hT rfl rfl rfl rfl rfl (by (first | omega | exact Nat.le_of_ble_eq_true rfl | decide | (simp; omega))) (by (first | omega | exact Nat.le_of_ble_eq_true rfl | decide | (simp; omega)))) rfl rfl rfl ?_
  refine JL.step (y_load1 hT rfl rfl rfl (Rd1.bytesAt (bs := b) (j := 11) (RdN.rowAll (by (repeat (first | exact Pick.head | apply Pick.tail | apply Pick.app)))) (by omega) rfl)) rfl rfl rfl ?_
  refine JL.step (y_eql rfl rfl) rfl rfl rfl (JL.step (y_assign rfl) rfl rfl rfl ?_)
  refine JL.nil ?_
  refine JE.then_normal ?_
  refine J.seq ?_
  refine J.seq ?_
  refine J.region ?_
  refine JL.step (y_assign rfl) rfl rfl rfl ?_
  refine JL.nil ?_
  refine JE.then_normal ?_
  refine J.block ?_
  refine J.loop (α := Nat) (fun k => k ≤ 8) (fun k => [(1, .pointer (some ⟨bb, 0, none⟩)), (2, .pointer (some ⟨b1, 0, none⟩)), (3, .pointer (some ⟨b3, 0, none⟩)), (4, .bool (zTo b k)), (5, .int .i64 (40 + (k : Int)))]) (fun _ => row b3 89 (rsuper b a c false) :: own 5 1 (.slice a 16 c) 16 (ints .u8 ((b.drop 24).take 16)) :: row b1 89 [.int .i64 0, .int .u64 0, .int .i64 0, .slice none 0 0, .bool false] :: row bb 27 (encB b) :: l) (fun k => 8 - k) 0 (by omega) ⟨rfl, rfl, rfl, rfl, rfl, trivial⟩ (fun w h => by rw [List.append_nil] at h; exact h.sup (by (repeat (first | exact Sup.refl | apply Sup.cons (by (repeat (first | exact Pick.head | apply Pick.tail | apply Pick.app))) | apply Sup.app | apply Sup.skip | apply Sup.skips)))) ?_
  intro k hk
  refine J.seq ?_
  refine J.seq ?_
  refine J.region ?_
  refine JL.step (y_move rfl) rfl rfl rfl (JL.step (y_lss rfl rfl) rfl rfl rfl ?_)
  refine JL.nil ?_
  refine JE.then_normal ?_
  first | apply J.cond_dec rfl | apply J.cond rfl
  case' ht =>
    intro h
    try (first | (exfalso; omega) | (cases h; done) | (exfalso; simp at h; done) | subst h)
    all_goals
      refine J.skip ?_
  case' hf =>
    intro h
    try (first | (exfalso; omega) | (cases h; done) | (exfalso; simp at h; done) | subst h)
    all_goals
      refine J.exit ?_
      refine JE.then_exit ?_
      refine JE.then_exit ?_
      refine JE.block_exit ?_
      refine JE.then_normal ?_
      refine J.seq ?_
      obtain rfl : k = 8 := by omega
      rw [k3]
      refine J.draw _ _ [(0, .q), (1, .q), (2, .q), (3, .q), (4, .q), (5, .e), (6, .q), (7, .q), (8, .q), (9, .q), (10, .q), (11, .q), (12, .q), (13, .q), (14, .q), (15, .q), (16, .q), (17, .q), (18, .l)] mixed (by kernel_rfl) (Split.cons (Pick.head) (Split.nil)) ?_
      refine JM.quiet rfl rfl rfl rfl (fun m => y_slice_arr hT rfl rfl rfl rfl (.inl ⟨rfl, rfl⟩) (.inr ⟨_, _, _, rfl, rfl, (by (first | rfl | simp))⟩) (by (first | omega | exact Nat.le_of_ble_eq_true rfl | decide | (simp; omega))) (by (first | omega | exact Nat.le_of_ble_eq_true rfl | decide | (simp; omega)))) ?_
      refine JM.quiet rfl rfl rfl rfl (fun m => y_convString (xs := b.take 10) hT rfl rfl rfl rfl rfl rfl rfl (RdN.row (off := 0 + 0 * 1) (n := 10) (Pick.app m (by (repeat (first | exact Pick.head | apply Pick.tail | apply Pick.app)))) (by simp [encB, ints])) (by simp [hb])) ?_
      refine JM.quiet rfl rfl rfl rfl (fun m => y_str_eqB rfl rfl (decide_eq_true ((congrArg strOf k1).trans hX.symm))) ?_
      refine JM.quiet rfl rfl rfl rfl (fun m => y_move rfl) ?_
      all_goals (first | refine JM.gskip rfl rfl rfl rfl rfl rfl rfl ?_ | refine JM.gskipU rfl rfl rfl rfl rfl rfl ?_ | refine JM.gquiet rfl rfl rfl rfl rfl rfl (fun m => y_fieldAddr hT rfl rfl rfl rfl rfl rfl) ?_)
      all_goals refine JM.gearly rfl rfl rfl rfl rfl rfl (fun fr => y_load1 hT rfl rfl rfl (by (exact Rd1.row (by (repeat (first | exact Pick.head | apply Pick.tail | apply Pick.app))) (by rfl)))) ?_
      refine JM.gquiet rfl rfl rfl rfl rfl rfl (fun m => y_lssB rfl rfl (decide_eq_true k2)) ?_
      all_goals refine JM.quiet rfl rfl rfl rfl (fun m => y_pick rfl rfl rfl) ?_
      all_goals refine JM.quiet rfl rfl rfl rfl (fun m => y_move rfl) ?_
      all_goals (first | refine JM.gskip rfl rfl rfl rfl rfl rfl rfl ?_ | refine JM.gskipU rfl rfl rfl rfl rfl rfl ?_ | refine JM.gquiet rfl rfl rfl rfl rfl rfl (fun m => y_move rfl) ?_)
      all_goals refine JM.quiet rfl rfl rfl rfl (fun m => y_pick rfl rfl rfl) ?_
      all_goals refine JM.quiet rfl rfl rfl rfl (fun m => y_move rfl) ?_
      all_goals (first | refine JM.gskip rfl rfl rfl rfl rfl rfl rfl ?_ | refine JM.gskipU rfl rfl rfl rfl rfl rfl ?_)
      all_goals (first | refine JM.gskip rfl rfl rfl rfl rfl rfl rfl ?_ | refine JM.gskipU rfl rfl rfl rfl rfl rfl ?_)
      all_goals (first | refine JM.gskip rfl rfl rfl rfl rfl rfl rfl ?_ | refine JM.gskipU rfl rfl rfl rfl rfl rfl ?_)
      all_goals (first | refine JM.gskip rfl rfl rfl rfl rfl rfl rfl ?_ | refine JM.gskipU rfl rfl rfl rfl rfl rfl ?_)
      all_goals refine JM.quiet rfl rfl rfl rfl (fun m => y_pick rfl rfl rfl) ?_
      all_goals refine JM.quiet rfl rfl rfl rfl (fun m => y_fieldAddr hT rfl rfl rfl rfl rfl rfl) ?_
      all_goals refine JM.loud rfl rfl (fun fr => l_store1 hT rfl rfl rfl rfl rfl (by (repeat (first | exact Pick.head | apply Pick.tail | apply Pick.app))) (by (first | omega | exact Nat.le_of_ble_eq_true rfl | decide | (simp; omega))) (⟨[_], (by (repeat (first | exact Split.nil | exact Split.all | refine Split.cons Pick.head ?_))), ?_⟩))
      all_goals refine JM.nil ?_
      all_goals refine JE.then_normal ?_
      all_goals
        refine J.seq ?_
        refine J.region ?_
        refine JL.step (y_loadN hT rfl rfl rfl (by (first | exact RdN.rowAll (by (repeat (first | exact Pick.head | apply Pick.tail | apply Pick.app))) | exact RdN.own (by (repeat (first | exact Pick.head | apply Pick.tail | apply Pick.app))))) (by (first | rfl | assumption | (simp; done) | omega))) rfl rfl rfl ?_
        refine JL.loud rfl (l_storeAll hT rfl rfl rfl (by (first | rfl | assumption | (simp; done) | omega)) (by (first | assumption | exact ones_of rfl | exact encW_one _ | exact encB_one _ | (intro u hu; simp at hu; rcases hu with rfl | rfl <;> rfl) | (intro u hu; simp at hu; subst hu; rfl) | simp)) (by (repeat (first | exact Pick.head | apply Pick.tail | apply Pick.app))) (by (first | rfl | assumption | (simp; done) | omega)) ?_)
        refine JL.nil ?_
        refine JE.then_normal ?_
        refine J.ret ?_
        refine JE.ret1 (.inl rfl) rfl rfl (by (first | exact RV.tmp rfl | exact RV.cell1 hT rfl rfl rfl (by (exact Rd1.row (by (repeat (first | exact Pick.head | apply Pick.tail | apply Pick.app))) (by rfl))) | exact RV.cellN hT rfl rfl rfl (by (first | exact RdN.rowAll (by (repeat (first | exact Pick.head | apply Pick.tail | apply Pick.app))) | exact RdN.own (by (repeat (first | exact Pick.head | apply Pick.tail | apply Pick.app))))) (by (first | rfl | assumption | (simp; done) | omega)))) ?_
        exact ⟨_, fun w q => q.sup (by (repeat (first | exact Sup.refl | apply Sup.cons (by (repeat (first | exact Pick.head | apply Pick.tail | apply Pick.app))) | apply Sup.app | apply Sup.skip | apply Sup.skips))), a, c, rfl, rfl⟩
  all_goals refine JE.then_normal ?_
  all_goals
    refine J.seq ?_
    refine J.block ?_
    refine J.region ?_
    cases hz : zTo b k <;> refine JL.step (y_move rfl) rfl rfl rfl ?_
    all_goals (refine JL.step (y_move rfl) rfl rfl rfl ?_)
    all_goals (first | (refine JL.gsplit_dec rfl rfl rfl (fun h => ?_) (fun h => ?_) <;> try (first | (exfalso; omega) | exact absurd rfl h)) | (refine JL.gsplit rfl rfl rfl (fun h => ?_) (fun h => ?_) <;> try (first | cases h | (exfalso; simp at h; done))) | skip)
    all_goals (first | refine JL.gskip rfl rfl rfl rfl rfl rfl ?_ | refine JL.gskipU rfl rfl rfl rfl rfl ?_ | refine JL.gstep rfl rfl rfl (y_move rfl) rfl rfl ?_)
    all_goals (first | refine JL.gskip rfl rfl rfl rfl rfl rfl ?_ | refine JL.gskipU rfl rfl rfl rfl rfl ?_ | refine JL.gstep rfl rfl rfl (y_indexAddr_arr hT rfl rfl rfl rfl rfl (by (first | omega | exact Nat.le_of_ble_eq_true rfl | decide | (simp; omega))) (by (first | omega | exact Nat.le_of_ble_eq_true rfl | decide | (simp; omega)))) rfl rfl ?_)
    all_goals (first | refine JL.gskip rfl rfl rfl rfl rfl rfl ?_ | refine JL.gskipU rfl rfl rfl rfl rfl ?_ | refine JL.gstep rfl rfl rfl (y_load1 hT rfl rfl rfl (Rd1.bytesAt (bs := b) (j := 40 + k) (RdN.rowAll (by (repeat (first | exact Pick.head | apply Pick.tail | apply Pick.app)))) (by omega) (by rw [show i5.size = 1 from rfl]; omega))) rfl rfl ?_)
    all_goals (first | refine JL.gskip rfl rfl rfl rfl rfl rfl ?_ | refine JL.gskipU rfl rfl rfl rfl rfl ?_ | refine JL.gstep rfl rfl rfl (y_eql rfl rfl) rfl rfl ?_)
    all_goals (refine JL.step (y_pick rfl rfl rfl) rfl rfl rfl ?_)
    all_goals (refine JL.step (y_assign rfl) rfl rfl rfl ?_)
    all_goals refine JL.nil ?_
    all_goals refine JE.block_normal ?_
    all_goals refine JE.then_normal ?_
    all_goals
      refine J.region ?_
      refine JL.step (y_move rfl) rfl rfl rfl ?_
      refine JL.step (y_add rfl rfl (by (first | exact wrap_i64 (by omega) (by omega) | rfl))) rfl rfl rfl ?_
      refine JL.step (y_assign rfl) rfl rfl rfl ?_
      refine JL.nil ?_
  all_goals
    all_goals refine JE.round (s := k) (k + 1) (by omega) ⟨rfl, rfl, rfl, ?_, ?_, trivial⟩ (fun w q => q) (by omega)
    all_goals (first | (rw [zTo, hz, Bool.true_and]; rfl) | (rw [zTo, hz, Bool.false_and]; rfl) | (rw [show (40 : Int) + ((k + 1 : Nat) : Int) = 40 + (k : Int) + 1 by omega]; rfl))
theorem rread_spec (b : Blk) (l : List HProp) (hb : b.length = 64) (hB : Bytes b) :
    Fc prog E 80 [.agg (encB b).toArray].toArray l (fun v l' => ∃ a c, v = .agg (rsuper b a c (sbOk b)).toArray ∧ l' = own 5 1 (.slice a 16 c) 16 (ints .u8 ((b.drop 24).take 16)) :: l) := by
  have hF := sbOk_form hb hB
  by_cases k1 : b.take 10 = lettersL
  case neg =>
    rw [show sbOk b = false from Bool.eq_false_iff.2 fun h => k1 (hF.1 h).1.letters]
    exact rread_f1 E b l hb hB k1
  by_cases k2 : (sbRead b).place < 2
  case neg =>
    rw [show sbOk b = false from Bool.eq_false_iff.2 fun h => k2 (hF.1 h).2.1]
    exact rread_f2 E b l hb hB k1 k2
  cases k3 : zTo b 8 with
  | false =>
    rw [show sbOk b = false from Bool.eq_false_iff.2 fun h => by
      have := (zTo_form hb).2 ⟨(hF.1 h).1.zero, (hF.1 h).1.zeros⟩
      rw [k3] at this
      cases this]
    exact rread_f3 E b l hb hB k1 k2 k3
  | true =>
    have hz := (zTo_form hb).1 k3
    rw [show sbOk b = decide (b.drop 48 = (sha (b.take 48)).take 16) from Bool.eq_iff_iff.2 (by
      rw [decide_eq_true_iff, hF]
      exact ⟨fun h => h.2.2, fun h => ⟨⟨k1, hz.1, hz.2⟩, k2, h⟩⟩)]
    exact rread_true E b l hb hB k1 k2 k3
end Go.Proofs.Ytilifeeddpkclaa
