
/-
  hollowtreelaw12.WalNone returns true for every input, and leaves its input as it was. No condition.
-/
import Derived.Test.YtmgagkpokmaefaaJoin3
import Derived.Test.YtmgagkpokmaefaaJoin8
namespace Go.Proofs.Ytmgagkpokmaefaa
open Go Go.SL
section
attribute [local irreducible] J JL JE JM LS Y Fc RV Code.wp wpList Code.wpIn wpListIn
attribute [local irreducible] Yc
variable (E : World)
theorem wal_none (p : Option Addr) (n c : Nat) (k : Int) (r : List HProp) : Fc prog E 6 [.slice p n c, .int .i64 k].toArray r (fun v l' => v = .bool true ∧ l' = r) := by
  refine Fc.eqs ?_
  refine Fc.of_bodyM (c := ?codeC) Try.func6 ?hb Try.ntmps6 ?hl ?_
  case hb => exact rfl
  case hl => exact rfl
  refine J.seq ?_
  refine J.region ?_
  refine JL.loud rfl (l_alloc hT rfl rfl (by (first | rfl | simp)) rfl (fun br => ?_))
  refine JL.nil ?_
  refine JE.then_normal ?_
  refine J.seq ?_
  refine J.seq ?_
  refine J.region ?_
  refine JL.loud rfl (l_callF e11 rfl rfl (wakes12_spec E _) ?_)
  rintro _ l1 ⟨rfl, e1⟩
  obtain rfl := e1.symm
  refine JL.step (y_not rfl) rfl rfl rfl ?_
  refine JL.nil ?_
  refine JE.then_normal ?_
  refine J.cond_f rfl (by (first | rfl | assumption | (simp; done) | (simp; omega))) ?_
  refine J.skip ?_
  refine JE.then_normal ?_
  refine J.seq ?_
  refine J.region ?_
  refine JL.loud rfl (l_callF e13 rfl rfl (lopen_nil E _) ?_)
  rintro _ _ ⟨rfl, rfl⟩
  refine JL.step (y_move rfl) rfl rfl rfl (JL.step (y_extract rfl rfl) rfl rfl rfl (JL.step (y_extract rfl rfl) rfl rfl rfl (JL.step (y_assign rfl) rfl rfl rfl (JL.step (y_assign rfl) rfl rfl rfl ?_))))
  refine JL.nil ?_
  refine JE.then_normal ?_
  refine J.seq ?_
  refine J.region ?_
  refine JL.step (y_assign rfl) rfl rfl rfl ?_
  refine JL.nil ?_
  refine JE.then_normal ?_
  refine J.seq ?_
  refine J.seq ?_
  refine J.region ?_
  refine JL.step (y_move rfl) rfl rfl rfl ?_
  refine JL.loud rfl (l_callF e26 rfl rfl (lall_spec E _ (.pointer none) rfl) ?_)
  rintro _ _ ⟨bc, rfl, rfl⟩
  refine JL.nil ?_
  refine JE.then_normal ?_
  refine J.block ?_
  refine J.rangeFunc e52 rfl fun fn a0 k DD K hK hf0 => ?_
  refine Fc.mono (Fc.on (Split.cons (by (repeat (first | exact Pick.head | apply Pick.tail | apply Pick.app))) Split.nil) (lall1_nil E _ bc _ rfl)) ?_
  rintro _ _ rfl
  refine ⟨.ready, none, _, by (repeat (first | exact Pick.head | apply Pick.tail | apply Pick.app)), by simp, ?_⟩
  refine JE.block_normal ?_
  refine JE.then_normal ?_
  refine J.seq ?_
  refine J.region ?_
  refine JL.step (y_move rfl) rfl rfl rfl (JL.step (y_ptr_eq_nil hT rfl rfl rfl rfl) rfl rfl rfl (JL.step (y_move rfl) rfl rfl rfl ?_))
  all_goals (first | (refine JL.gsplit_dec rfl rfl rfl (fun h => ?_) (fun h => ?_) <;> try (first | (exfalso; omega) | exact absurd rfl h)) | (refine JL.gsplit rfl rfl rfl (fun h => ?_) (fun h => ?_) <;> try (first | cases h | (exfalso; simp at h; done))) | skip)
  all_goals (first | refine JL.gskip rfl rfl rfl rfl rfl rfl ?_ | refine JL.gskipU rfl rfl rfl rfl rfl ?_ | refine JL.gstep rfl rfl rfl (y_move rfl) rfl rfl ?_)
  all_goals (first | refine JL.gskip rfl rfl rfl rfl rfl rfl ?_ | refine JL.gskipU rfl rfl rfl rfl rfl ?_ | refine JL.gstep rfl rfl rfl (y_eql rfl rfl) rfl rfl ?_)
  all_goals (refine JL.step (y_pick rfl rfl rfl) rfl rfl rfl ?_)
  all_goals (refine JL.step (y_move rfl) rfl rfl rfl ?_)
  all_goals (first | (refine JL.gsplit_dec rfl rfl rfl (fun h => ?_) (fun h => ?_) <;> try (first | (exfalso; omega) | exact absurd rfl h)) | (refine JL.gsplit rfl rfl rfl (fun h => ?_) (fun h => ?_) <;> try (first | cases h | (exfalso; simp at h; done))) | skip)
  all_goals (first | refine JL.gskip rfl rfl rfl rfl rfl rfl ?_ | refine JL.gskipU rfl rfl rfl rfl rfl ?_ | refine JL.gstep rfl rfl rfl (y_move rfl) rfl rfl ?_)
  all_goals (first | refine JL.gskip rfl rfl rfl rfl rfl rfl ?_ | refine JL.gskipU rfl rfl rfl rfl rfl ?_ | refine JL.gstep rfl rfl rfl (y_move rfl) rfl rfl ?_)
  all_goals (first | refine JL.gskip rfl rfl rfl rfl rfl rfl ?_ | refine JL.gskipU rfl rfl rfl rfl rfl ?_ | (refine JL.gloud rfl rfl rfl (l_callF e19 rfl rfl (lappend_nil E _ _) ?_); rintro _ _ ⟨rfl, rfl⟩))
  all_goals (first | refine JL.gskip rfl rfl rfl rfl rfl rfl ?_ | refine JL.gskipU rfl rfl rfl rfl rfl ?_ | refine JL.gstep rfl rfl rfl (y_eql rfl rfl) rfl rfl ?_)
  all_goals (refine JL.step (y_pick rfl rfl rfl) rfl rfl rfl ?_)
  all_goals (refine JL.step (y_move rfl) rfl rfl rfl ?_)
  all_goals (first | (refine JL.gsplit_dec rfl rfl rfl (fun h => ?_) (fun h => ?_) <;> try (first | (exfalso; omega) | exact absurd rfl h)) | (refine JL.gsplit rfl rfl rfl (fun h => ?_) (fun h => ?_) <;> try (first | cases h | (exfalso; simp at h; done))) | skip)
  all_goals (first | refine JL.gskip rfl rfl rfl rfl rfl rfl ?_ | refine JL.gskipU rfl rfl rfl rfl rfl ?_ | refine JL.gstep rfl rfl rfl (y_move rfl) rfl rfl ?_)
  all_goals (first | refine JL.gskip rfl rfl rfl rfl rfl rfl ?_ | refine JL.gskipU rfl rfl rfl rfl rfl ?_ | refine JL.gstep rfl rfl rfl (y_move rfl) rfl rfl ?_)
  all_goals (first | refine JL.gskip rfl rfl rfl rfl rfl rfl ?_ | refine JL.gskipU rfl rfl rfl rfl rfl ?_ | (refine JL.gloud rfl rfl rfl (l_callF e18 rfl rfl (lcheck_nil E _ _) ?_); rintro _ _ ⟨rfl, rfl⟩))
  all_goals (first | refine JL.gskip rfl rfl rfl rfl rfl rfl ?_ | refine JL.gskipU rfl rfl rfl rfl rfl ?_ | refine JL.gstep rfl rfl rfl (y_eql rfl rfl) rfl rfl ?_)
  all_goals (refine JL.step (y_pick rfl rfl rfl) rfl rfl rfl ?_)
  all_goals (refine JL.step (y_move rfl) rfl rfl rfl ?_)
  all_goals (first | (refine JL.gsplit_dec rfl rfl rfl (fun h => ?_) (fun h => ?_) <;> try (first | (exfalso; omega) | exact absurd rfl h)) | (refine JL.gsplit rfl rfl rfl (fun h => ?_) (fun h => ?_) <;> try (first | cases h | (exfalso; simp at h; done))) | skip)
  all_goals (first | refine JL.gskip rfl rfl rfl rfl rfl rfl ?_ | refine JL.gskipU rfl rfl rfl rfl rfl ?_ | refine JL.gstep rfl rfl rfl (y_move rfl) rfl rfl ?_)
  all_goals (first | refine JL.gskip rfl rfl rfl rfl rfl rfl ?_ | refine JL.gskipU rfl rfl rfl rfl rfl ?_ | (refine JL.gloud rfl rfl rfl (l_callF e27 rfl rfl (lsnapshot_nil E _) ?_); rintro _ _ ⟨rfl, rfl⟩))
  all_goals (first | refine JL.gskip rfl rfl rfl rfl rfl rfl ?_ | refine JL.gskipU rfl rfl rfl rfl rfl ?_ | refine JL.gstep rfl rfl rfl (y_len_slice hT rfl rfl rfl) rfl rfl ?_)
  all_goals (first | refine JL.gskip rfl rfl rfl rfl rfl rfl ?_ | refine JL.gskipU rfl rfl rfl rfl rfl ?_ | refine JL.gstep rfl rfl rfl (y_eql rfl rfl) rfl rfl ?_)
  all_goals (refine JL.step (y_pick rfl rfl rfl) rfl rfl rfl ?_)
  all_goals (refine JL.step (y_move rfl) rfl rfl rfl ?_)
  all_goals (first | (refine JL.gsplit_dec rfl rfl rfl (fun h => ?_) (fun h => ?_) <;> try (first | (exfalso; omega) | exact absurd rfl h)) | (refine JL.gsplit rfl rfl rfl (fun h => ?_) (fun h => ?_) <;> try (first | cases h | (exfalso; simp at h; done))) | skip)
  all_goals (first | refine JL.gskip rfl rfl rfl rfl rfl rfl ?_ | refine JL.gskipU rfl rfl rfl rfl rfl ?_ | refine JL.gstep rfl rfl rfl (y_move rfl) rfl rfl ?_)
  all_goals (first | refine JL.gskip rfl rfl rfl rfl rfl rfl ?_ | refine JL.gskipU rfl rfl rfl rfl rfl ?_ | (refine JL.gloud rfl rfl rfl (l_callF e24 rfl rfl (ltxs_nil E _) ?_); rintro _ _ ⟨rfl, rfl⟩))
  all_goals (first | refine JL.gskip rfl rfl rfl rfl rfl rfl ?_ | refine JL.gskipU rfl rfl rfl rfl rfl ?_ | refine JL.gstep rfl rfl rfl (y_len_slice hT rfl rfl rfl) rfl rfl ?_)
  all_goals (first | refine JL.gskip rfl rfl rfl rfl rfl rfl ?_ | refine JL.gskipU rfl rfl rfl rfl rfl ?_ | refine JL.gstep rfl rfl rfl (y_eql rfl rfl) rfl rfl ?_)
  all_goals (refine JL.step (y_pick rfl rfl rfl) rfl rfl rfl ?_)
  all_goals (refine JL.step (y_move rfl) rfl rfl rfl ?_)
  all_goals (first | (refine JL.gsplit_dec rfl rfl rfl (fun h => ?_) (fun h => ?_) <;> try (first | (exfalso; omega) | exact absurd rfl h)) | (refine JL.gsplit rfl rfl rfl (fun h => ?_) (fun h => ?_) <;> try (first | cases h | (exfalso; simp at h; done))) | skip)
  all_goals (first | refine JL.gskip rfl rfl rfl rfl rfl rfl ?_ | refine JL.gskipU rfl rfl rfl rfl rfl ?_ | refine JL.gstep rfl rfl rfl (y_move rfl) rfl rfl ?_)
  all_goals (first | refine JL.gskip rfl rfl rfl rfl rfl rfl ?_ | refine JL.gskipU rfl rfl rfl rfl rfl ?_ | (refine JL.gloud rfl rfl rfl (l_callF e23 rfl rfl (lused_nil E _) ?_); rintro _ _ ⟨rfl, rfl⟩))
  all_goals (first | refine JL.gskip rfl rfl rfl rfl rfl rfl ?_ | refine JL.gskipU rfl rfl rfl rfl rfl ?_ | refine JL.gstep rfl rfl rfl (y_eql rfl rfl) rfl rfl ?_)
  all_goals (refine JL.step (y_pick rfl rfl rfl) rfl rfl rfl ?_)
  all_goals (refine JL.step (y_move rfl) rfl rfl rfl ?_)
  all_goals (first | (refine JL.gsplit_dec rfl rfl rfl (fun h => ?_) (fun h => ?_) <;> try (first | (exfalso; omega) | exact absurd rfl h)) | (refine JL.gsplit rfl rfl rfl (fun h => ?_) (fun h => ?_) <;> try (first | cases h | (exfalso; simp at h; done))) | skip)
  all_goals (first | refine JL.gskip rfl rfl rfl rfl rfl rfl ?_ | refine JL.gskipU rfl rfl rfl rfl rfl ?_ | refine JL.gstep rfl rfl rfl (y_move rfl) rfl rfl ?_)
  all_goals (first | refine JL.gskip rfl rfl rfl rfl rfl rfl ?_ | refine JL.gskipU rfl rfl rfl rfl rfl ?_ | refine JL.gstep rfl rfl rfl (y_move rfl) rfl rfl ?_)
  all_goals (first | refine JL.gskip rfl rfl rfl rfl rfl rfl ?_ | refine JL.gskipU rfl rfl rfl rfl rfl ?_ | (refine JL.gloud rfl rfl rfl (l_callF e16 rfl rfl (lroom_nil E _ _) ?_); rintro _ _ ⟨rfl, rfl⟩))
  all_goals (first | refine JL.gskip rfl rfl rfl rfl rfl rfl ?_ | refine JL.gskipU rfl rfl rfl rfl rfl ?_ | refine JL.gstep rfl rfl rfl (y_not rfl) rfl rfl ?_)
  all_goals (refine JL.step (y_pick rfl rfl rfl) rfl rfl rfl ?_)
  all_goals (refine JL.loud rfl (l_store1 hT rfl rfl rfl rfl rfl (by (repeat (first | exact Pick.head | apply Pick.tail | apply Pick.app))) (by (first | omega | exact Nat.le_of_ble_eq_true rfl | decide | (simp; omega))) ?_))
  all_goals refine JL.nil ?_
  all_goals refine JE.then_normal ?_
  all_goals
    refine J.ret ?_
    first | refine JE.unmark (.inl rfl) rfl (by (repeat (first | exact Pick.head | apply Pick.tail | apply Pick.app))) ?_ | refine JE.nomark (.inl rfl) rfl ?_
    refine JE.ret1 (.inl rfl) rfl rfl (by (first | exact RV.tmp rfl | exact RV.cell1 hT rfl rfl rfl (by (exact Rd1.row (by (repeat (first | exact Pick.head | apply Pick.tail | apply Pick.app))) (by rfl))) | exact RV.cellN hT rfl rfl rfl (by (first | exact RdN.rowAll (by (repeat (first | exact Pick.head | apply Pick.tail | apply Pick.app))) | exact RdN.own (by (repeat (first | exact Pick.head | apply Pick.tail | apply Pick.app))))) (by (first | rfl | assumption | (simp; done) | omega)))) ?_
    exact ⟨rfl, fun w q => q.sup (by (repeat (first | exact Sup.refl | apply Sup.cons (by (repeat (first | exact Pick.head | apply Pick.tail | apply Pick.app))) | apply Sup.app | apply Sup.skip | apply Sup.skips)))⟩
end
section
open Go.ChangeShapes Go.WideShapes Go.ChangeAt Go.RowKit
theorem wal_none_reads : ∀ t ∈ Try.f6.params.toList, Try.prog.readableRec t = true ∧ t < Try.prog.types.size := by
  rw [Try.params6]
  intro t ht
  simp only [List.mem_cons, List.not_mem_nil, or_false] at ht
  rcases ht with rfl | rfl
  all_goals exact ⟨by kernel_rfl, of_decide_eq_true (by kernel_rfl)⟩
set_option maxRecDepth 100000 in
theorem wal_none_contract (H : Type) (enc : TypeId × Value → H) (W : World) (base : Nat) (args : Array Value) (ds gs : List (DataW H)) (before : List MemPlace)
    (hval : ∀ (j : Nat) t v, Try.f6.params[j]? = some t → args[j]? = some v → Value.okWide Try.prog W .any base t v)
    (hW : DataW.Whole enc Try.prog Try.f6.params.toList Rows.walNoneSpec.vars false W args.toList ds gs before) :
    Calls Try.prog 6 args W fun e W' => ∃ v, e = .returned v ∧ Rows.walNoneSpec.post enc Try.prog Try.f6 false true false false W args v W' := by
  have hW' := hW
  obtain ⟨p, q, hA0, hV, rfl, hfz, hnd⟩ := hW
  have hA : DataW.TrodAll enc Try.prog W 0 (fun _ => true) true Try.f6.params.toList args.toList ds p := hA0
  rw [Try.params6] at hA hval
  obtain ⟨v0, vs0, d0, ds0, p0, q0, hargs, rfl, rfl, h0, r0⟩ := trodAll_cons hA
  obtain ⟨v1, vs1, d1, ds1, p1, q1, rfl, rfl, rfl, h1, r1⟩ := trodAll_cons r0
  obtain ⟨rfl, rfl, rfl⟩ := trodAll_nil r1
  obtain rfl : args = #[v0, v1] := by cases args; simp_all
  obtain ⟨rfl, rfl⟩ := trodVars_none hV
  clear hA0
  have t0 : Tr enc prog (fun _ => True) W 36 [v0] := Tr.ofSlice u36 (hval 0 36 v0 rfl rfl) h0 trivial
  have t1 : Tr enc prog (fun _ => True) W 3 [v1] := Tr.ofInt u3 (hval 1 3 v1 rfl rfl) h1 trivial
  obtain ⟨p, c, bs, rfl, _, hb, hin⟩ := tr_bytesR Her.all t0
  obtain ⟨n, e0, hn⟩ := Tr.int u3 t1
  cases e0
  refine ((wal_none W p bs.length c n [old W]) W (Sat.start W)).mono fun e W' hq => ?_
  obtain ⟨v, l', rfl, hs, rfl, rfl⟩ := hq
  exact ⟨_, rfl, law_post laidOut_ rfl rfl u4 wal_none_reads hW' rfl rfl rfl hs.below⟩
set_option maxRecDepth 100000 in
theorem wal_none_lifted (os : Os) (started : os.Started) (H : Type) (enc : TypeId × Value → H) :
    ReturnsInHanded {} Try.checked os 6 .any (Rows.walNoneSpec.pre6 enc Try.prog Try.f6 Rows.walNoneRow.domain false) (Rows.walNoneSpec.post enc Try.prog Try.f6 false true false false) := by
  refine returnsInHanded_of_change (C := Try.checked) own_ started (by kernel_rfl) Try.func6
    (ChangeSpec.witness6 (enc := enc) (C := Try.checked) false ⟨#[], #[.slice none 0 0, .int .i64 0], []⟩ 8 (by kernel_rfl) (by kernel_rfl) (by kernel_rfl) (by kernel_rfl)) ?_
  intro W base args ds gs before hval hW _ _
  exact wal_none_contract H enc W base args ds gs before hval hW
theorem wal_none_holds : Rows.WalNoneSaid :=
  OpenClaim.holds_of_wide 6 Try.f6 rfl rfl rfl rfl rfl rfl rfl ⟨rfl, rfl, rfl, rfl, rfl⟩ rfl rfl rfl rfl rfl (by kernel_rfl) Try.func6 (by kernel_rfl)
    (of_decide_eq_true (by kernel_rfl)) (by unfold Func.isWrapper; first | (rw [if_pos (by decide +kernel)]; kernel_rfl) | (rw [if_neg (by decide +kernel)]; exact ⟨rfl, rfl⟩))
    (fun os started H enc _ => wal_none_lifted os started H enc)
end
end Go.Proofs.Ytmgagkpokmaefaa
