import Derived.Test.YtilifeeddpkclaaLaw1
namespace Go.Proofs.Ytilifeeddpkclaa
open Go Go.SL
attribute [local irreducible] J JL JE JM LS Y Fc RV Code.wp wpList Code.wpIn wpListIn
attribute [local irreducible] Yc
variable (E : World)
def wakeB : Blk := 7 :: List.replicate 63 0
theorem wake_write : (Dk.new 2).write 1 wakeB = ((Dk.new 2).does.push 1 wakeB, 0) := by simp [Dk.write, Dk.ready, Dk.new]
theorem wake_read : ((Dk.new 2).does.push 1 wakeB).read 1 = wakeB := by simp [Dk.read, Dk.ready, Dk.new, Dk.does, Dk.push, Dk.find]
theorem wake_ready : ((Dk.new 2).does.push 1 wakeB).ready 1 = 0 := by simp [Dk.ready, Dk.new, Dk.does, Dk.push]
theorem wakes_spec (l : List HProp) : Fc prog E 15 [].toArray l (fun v l' => v = .bool true ∧ l' = l) := by
  refine Fc.eqs ?_
  have hw : ∀ d, Fc prog E 47 [Value.pointer (some ⟨d, 0, none⟩), .int .i64 1, .agg (encB wakeB).toArray].toArray (disk d (Dk.new 2) :: l) (fun v l' => v = .int .i64 0 ∧ l' = disk d ((Dk.new 2).does.push 1 wakeB) :: l) := fun d => by
    have := write_spec E d (Dk.new 2) 1 wakeB rfl l (by simp [Dk.new])
    rwa [wake_write] at this
  have hr : ∀ d, Fc prog E 27 [Value.pointer (some ⟨d, 0, none⟩), .int .i64 1].toArray (disk d ((Dk.new 2).does.push 1 wakeB) :: l) (fun v l' => v = .tuple #[.agg (encB wakeB).toArray, .int .i64 0] ∧ l' = disk d ((Dk.new 2).does.push 1 wakeB) :: l) := fun d => by
    have := read_spec E d ((Dk.new 2).does.push 1 wakeB) 1 l (by simp [Dk.new, Dk.push, Dk.does])
    rwa [wake_read, wake_ready] at this
  have hp : ∀ d r, Fc prog E 33 [Value.pointer (some ⟨d, 0, none⟩)].toArray (disk d ((Dk.new 2).does.push 1 wakeB) :: r) (fun v l' => ∃ a c, v = .slice a 1 c ∧ l' = disk d ((Dk.new 2).does.push 1 wakeB) :: own 3 1 v 1 [.int .i64 1] :: r) :=
    fun d r => pending_spec E d ((Dk.new 2).does.push 1 wakeB) r (by simp [Dk.new, Dk.push, Dk.does])
  have hn : ∀ d r, Fc prog E 26 [Value.pointer (some ⟨d, 0, none⟩)].toArray (disk d ((Dk.new 2).does.push 1 wakeB) :: r) (fun v l' => v = .int .i64 2 ∧ l' = disk d ((Dk.new 2).does.push 1 wakeB) :: r) :=
    fun d r => len_spec E d ((Dk.new 2).does.push 1 wakeB) r
  refine Fc.of_body (c := ?c) Try.func15 ?hb Try.ntmps15 ?hl ?_
  case hb => exact rfl
  case hl => exact rfl
  refine J.seq ?_
  refine J.region ?_
  refine JL.step (y_assign rfl) rfl rfl rfl ?_
  refine JL.nil ?_
  refine JE.then_normal ?_
  refine J.seq ?_
  refine J.region ?_
  refine JL.loud rfl (l_callF e21 rfl rfl (new_good E 2 _ (by decide) (by decide)) ?_)
  rintro _ _ ⟨d, rfl, rfl⟩
  refine JL.step (y_move rfl) rfl rfl rfl (JL.step (y_extract rfl rfl) rfl rfl rfl (JL.step (y_extract rfl rfl) rfl rfl rfl (JL.step (y_assign rfl) rfl rfl rfl (JL.step (y_assign rfl) rfl rfl rfl ?_))))
  refine JL.nil ?_
  refine JE.then_normal ?_
  refine J.seq ?_
  refine J.seq ?_
  refine J.region ?_
  refine JL.step (y_move rfl) rfl rfl rfl (JL.step (y_neq rfl rfl) rfl rfl rfl (JL.step (y_move rfl) rfl rfl rfl ?_))
  all_goals (first | (refine JL.gsplit_dec rfl rfl rfl (fun h => ?_) (fun h => ?_) <;> try (first | (exfalso; omega) | exact absurd rfl h)) | (refine JL.gsplit rfl rfl rfl (fun h => ?_) (fun h => ?_) <;> try (first | cases h | (exfalso; simp at h; done))) | skip)
  all_goals (first | refine JL.gskip rfl rfl rfl rfl rfl rfl ?_ | refine JL.gskipU rfl rfl rfl rfl rfl ?_ | refine JL.gstep rfl rfl rfl (y_move rfl) rfl rfl ?_)
  all_goals (first | refine JL.gskip rfl rfl rfl rfl rfl rfl ?_ | refine JL.gskipU rfl rfl rfl rfl rfl ?_ | refine JL.gstep rfl rfl rfl (y_ptr_eq_nil hT rfl rfl rfl rfl) rfl rfl ?_)
  all_goals (refine JL.step (y_pick rfl rfl rfl) rfl rfl rfl ?_)
  all_goals (refine JL.step (y_move rfl) rfl rfl rfl ?_)
  all_goals (first | (refine JL.gsplit_dec rfl rfl rfl (fun h => ?_) (fun h => ?_) <;> try (first | (exfalso; omega) | exact absurd rfl h)) | (refine JL.gsplit rfl rfl rfl (fun h => ?_) (fun h => ?_) <;> try (first | cases h | (exfalso; simp at h; done))) | skip)
  all_goals (first | refine JL.gskip rfl rfl rfl rfl rfl rfl ?_ | refine JL.gskipU rfl rfl rfl rfl rfl ?_ | refine JL.gstep rfl rfl rfl (y_move rfl) rfl rfl ?_)
  all_goals (first | refine JL.gskip rfl rfl rfl rfl rfl rfl ?_ | refine JL.gstep rfl rfl rfl (y_buildArr (cs := encB wakeB) hT rfl rfl rfl rfl rfl (by rfl)) rfl rfl ?_)
  all_goals (first | refine JL.gskip rfl rfl rfl rfl rfl rfl ?_ | refine JL.gskipU rfl rfl rfl rfl rfl ?_ | (refine JL.gloud rfl rfl rfl (l_callF e47 rfl rfl (hw d) ?_); rintro _ _ ⟨rfl, rfl⟩))
  all_goals (first | refine JL.gskip rfl rfl rfl rfl rfl rfl ?_ | refine JL.gskipU rfl rfl rfl rfl rfl ?_ | refine JL.gstep rfl rfl rfl (y_neq rfl rfl) rfl rfl ?_)
  all_goals (refine JL.step (y_pick rfl rfl rfl) rfl rfl rfl ?_)
  all_goals refine JL.nil ?_
  all_goals refine JE.then_normal ?_
  all_goals
    refine J.cond_f rfl (by (first | rfl | assumption | (simp; done) | (simp; omega))) ?_
    refine J.skip ?_
  all_goals refine JE.then_normal ?_
  all_goals
    refine J.seq ?_
    refine J.region ?_
    refine JL.step (y_move rfl) rfl rfl rfl ?_
    refine JL.loud rfl (l_callF e27 rfl rfl (hr d) ?_)
    rintro _ _ ⟨rfl, rfl⟩
    refine JL.step (y_move rfl) rfl rfl rfl (JL.step (y_extract rfl rfl) rfl rfl rfl (JL.step (y_extract rfl rfl) rfl rfl rfl ?_))
    refine JL.loud rfl (l_alloc hT rfl rfl (by (first | rfl | simp)) rfl (fun b4 => ?_))
    refine JL.loud rfl (l_storeAll hT rfl rfl rfl (by (first | rfl | assumption | (simp; done) | omega)) (by (first | assumption | exact ones_of rfl | exact encW_one _ | exact encB_one _ | (intro u hu; simp at hu; rcases hu with rfl | rfl <;> rfl) | (intro u hu; simp at hu; subst hu; rfl) | simp)) (by (repeat (first | exact Pick.head | apply Pick.tail | apply Pick.app))) (by (first | rfl | assumption | (simp; done) | omega)) ?_)
    refine JL.step (y_assign rfl) rfl rfl rfl ?_
    refine JL.nil ?_
    refine JE.then_normal ?_
    refine J.seq ?_
    refine J.region ?_
    refine JL.step (y_move rfl) rfl rfl rfl (JL.step (y_eql rfl rfl) rfl rfl rfl (JL.step (y_move rfl) rfl rfl rfl ?_))
    all_goals (first | (refine JL.gsplit_dec rfl rfl rfl (fun h => ?_) (fun h => ?_) <;> try (first | (exfalso; omega) | exact absurd rfl h)) | (refine JL.gsplit rfl rfl rfl (fun h => ?_) (fun h => ?_) <;> try (first | cases h | (exfalso; simp at h; done))) | skip)
    all_goals (first | refine JL.gskip rfl rfl rfl rfl rfl rfl ?_ | refine JL.gskipU rfl rfl rfl rfl rfl ?_ | refine JL.gstep rfl rfl rfl (y_indexAddr_arr hT rfl rfl rfl rfl rfl (by (first | omega | exact Nat.le_of_ble_eq_true rfl | decide | (simp; omega))) (by (first | omega | exact Nat.le_of_ble_eq_true rfl | decide | (simp; omega)))) rfl rfl ?_)
    all_goals (first | refine JL.gskip rfl rfl rfl rfl rfl rfl ?_ | refine JL.gskipU rfl rfl rfl rfl rfl ?_ | refine JL.gstep rfl rfl rfl (y_load1 hT rfl rfl rfl (by (exact Rd1.row (by (repeat (first | exact Pick.head | apply Pick.tail | apply Pick.app))) (by rfl)))) rfl rfl ?_)
    all_goals (first | refine JL.gskip rfl rfl rfl rfl rfl rfl ?_ | refine JL.gskipU rfl rfl rfl rfl rfl ?_ | refine JL.gstep rfl rfl rfl (y_eql rfl rfl) rfl rfl ?_)
    all_goals (refine JL.step (y_pick rfl rfl rfl) rfl rfl rfl ?_)
    all_goals (refine JL.step (y_move rfl) rfl rfl rfl ?_)
    all_goals (first | (refine JL.gsplit_dec rfl rfl rfl (fun h => ?_) (fun h => ?_) <;> try (first | (exfalso; omega) | exact absurd rfl h)) | (refine JL.gsplit rfl rfl rfl (fun h => ?_) (fun h => ?_) <;> try (first | cases h | (exfalso; simp at h; done))) | skip)
    all_goals (first | refine JL.gskip rfl rfl rfl rfl rfl rfl ?_ | refine JL.gskipU rfl rfl rfl rfl rfl ?_ | refine JL.gstep rfl rfl rfl (y_move rfl) rfl rfl ?_)
    all_goals (first | refine JL.gskip rfl rfl rfl rfl rfl rfl ?_ | refine JL.gskipU rfl rfl rfl rfl rfl ?_ | (refine JL.gloud rfl rfl rfl (l_callF e33 rfl rfl (Fc.on (Split.cons (by (repeat (first | exact Pick.head | apply Pick.tail | apply Pick.app))) Split.nil) (hp d _)) ?_); rintro _ _ ⟨a, c, rfl, rfl⟩))
    all_goals (first | refine JL.gskip rfl rfl rfl rfl rfl rfl ?_ | refine JL.gskipU rfl rfl rfl rfl rfl ?_ | refine JL.gstep rfl rfl rfl (y_len_slice hT rfl rfl rfl) rfl rfl ?_)
    all_goals (first | refine JL.gskip rfl rfl rfl rfl rfl rfl ?_ | refine JL.gskipU rfl rfl rfl rfl rfl ?_ | refine JL.gstep rfl rfl rfl (y_eql rfl rfl) rfl rfl ?_)
    all_goals (refine JL.step (y_pick rfl rfl rfl) rfl rfl rfl ?_)
    all_goals (refine JL.step (y_move rfl) rfl rfl rfl ?_)
    all_goals (first | (refine JL.gsplit_dec rfl rfl rfl (fun h => ?_) (fun h => ?_) <;> try (first | (exfalso; omega) | exact absurd rfl h)) | (refine JL.gsplit rfl rfl rfl (fun h => ?_) (fun h => ?_) <;> try (first | cases h | (exfalso; simp at h; done))) | skip)
    all_goals (first | refine JL.gskip rfl rfl rfl rfl rfl rfl ?_ | refine JL.gskipU rfl rfl rfl rfl rfl ?_ | refine JL.gstep rfl rfl rfl (y_move rfl) rfl rfl ?_)
    all_goals (first | refine JL.gskip rfl rfl rfl rfl rfl rfl ?_ | refine JL.gskipU rfl rfl rfl rfl rfl ?_ | (refine JL.gloud rfl rfl rfl (l_callF e26 rfl rfl (Fc.on (Split.cons (by (repeat (first | exact Pick.head | apply Pick.tail | apply Pick.app))) Split.nil) (hn d _)) ?_); rintro _ _ ⟨rfl, rfl⟩))
    all_goals (first | refine JL.gskip rfl rfl rfl rfl rfl rfl ?_ | refine JL.gskipU rfl rfl rfl rfl rfl ?_ | refine JL.gstep rfl rfl rfl (y_eql rfl rfl) rfl rfl ?_)
    all_goals (refine JL.step (y_pick rfl rfl rfl) rfl rfl rfl ?_)
    all_goals (refine JL.step (y_assign rfl) rfl rfl rfl ?_)
    all_goals refine JL.nil ?_
    all_goals refine JE.then_normal ?_
    all_goals
      refine J.ret ?_
      refine JE.ret1 (.inl rfl) rfl rfl (by (first | exact RV.tmp rfl | exact RV.cell1 hT rfl rfl rfl (by (exact Rd1.row (by (repeat (first | exact Pick.head | apply Pick.tail | apply Pick.app))) (by rfl))) | exact RV.cellN hT rfl rfl rfl (by (first | exact RdN.rowAll (by (repeat (first | exact Pick.head | apply Pick.tail | apply Pick.app))) | exact RdN.own (by (repeat (first | exact Pick.head | apply Pick.tail | apply Pick.app))))) (by (first | rfl | assumption | (simp; done) | omega)))) ?_
      exact ⟨rfl, fun w q => q.sup (by (repeat (first | exact Sup.refl | apply Sup.cons (by (repeat (first | exact Pick.head | apply Pick.tail | apply Pick.app))) | apply Sup.app | apply Sup.skip | apply Sup.skips)))⟩
theorem new_ok6 : (Dk.new 6).Ok := Dk.new_ok (by decide) (by decide)
theorem worn_spec (p : Option Addr) (cap : Nat) (xs : List OpA) (r : List HProp) (hx : OpsIn r p cap xs) :
    Fc prog E 16 [Value.slice p xs.length cap].toArray r (fun v l' => ∃ d, v = .pointer (some ⟨d, 0, none⟩) ∧ l' = disk d (Dk.worn xs) :: r) := by
  refine Fc.post ?_
  have hy := hx.take 120
  have hyl : (xs.take 120).length = min xs.length 120 := by rw [List.length_take]; omega
  have hy120 : (xs.take 120).length ≤ 120 := by omega
  refine Fc.of_body (c := ?c) Try.func16 ?hb Try.ntmps16 ?hl ?_
  case hb => exact rfl
  case hl => exact rfl
  refine J.seq ?_
  refine J.region ?_
  refine JL.step (y_assign rfl) rfl rfl rfl ?_
  refine JL.nil ?_
  refine JE.then_normal ?_
  refine J.seq ?_
  refine J.region ?_
  refine JL.loud rfl (l_callF e21 rfl rfl (new_good E 6 _ (by decide) (by decide)) ?_)
  rintro _ _ ⟨d, rfl, rfl⟩
  refine JL.step (y_move rfl) rfl rfl rfl (JL.step (y_extract rfl rfl) rfl rfl rfl (JL.step (y_extract rfl rfl) rfl rfl rfl (JL.step (y_assign rfl) rfl rfl rfl (JL.step (y_assign rfl) rfl rfl rfl ?_))))
  refine JL.nil ?_
  refine JE.then_normal ?_
  refine J.seq ?_
  refine J.seq ?_
  refine J.region ?_
  refine JL.step (y_move rfl) rfl rfl rfl (JL.step (y_neq rfl rfl) rfl rfl rfl (JL.step (y_move rfl) rfl rfl rfl ?_))
  all_goals (first | (refine JL.gsplit_dec rfl rfl rfl (fun h => ?_) (fun h => ?_) <;> try (first | (exfalso; omega) | exact absurd rfl h)) | (refine JL.gsplit rfl rfl rfl (fun h => ?_) (fun h => ?_) <;> try (first | cases h | (exfalso; simp at h; done))) | skip)
  all_goals (first | refine JL.gskip rfl rfl rfl rfl rfl rfl ?_ | refine JL.gskipU rfl rfl rfl rfl rfl ?_ | refine JL.gstep rfl rfl rfl (y_move rfl) rfl rfl ?_)
  all_goals (first | refine JL.gskip rfl rfl rfl rfl rfl rfl ?_ | refine JL.gskipU rfl rfl rfl rfl rfl ?_ | refine JL.gstep rfl rfl rfl (y_ptr_eq_nil hT rfl rfl rfl rfl) rfl rfl ?_)
  all_goals (refine JL.step (y_pick rfl rfl rfl) rfl rfl rfl ?_)
  all_goals refine JL.nil ?_
  all_goals refine JE.then_normal ?_
  all_goals
    refine J.cond_f rfl (by (first | rfl | assumption | (simp; done) | (simp; omega))) ?_
    refine J.skip ?_
  all_goals refine JE.then_normal ?_
  all_goals
    refine J.seq ?_
    refine J.seq ?_
    skip
    refine J.region ?_
    refine JL.step (y_move rfl) rfl rfl rfl ?_
    refine JL.loud rfl (l_callF e17 rfl rfl (few_spec E p xs.length cap _ _ (hx.inl.cons _)) ?_)
    rintro _ _ ⟨rfl, rfl⟩
    refine JL.step (y_len_slice hT rfl rfl rfl) rfl rfl rfl (JL.step (y_move rfl) rfl rfl rfl ?_)
    refine JL.nil ?_
    refine JE.then_normal ?_
    refine J.block ?_
    refine J.loop (α := Nat) (fun j => j ≤ (xs.take 120).length) (fun j => [(3, .pointer (some ⟨d, 0, none⟩)), (18, .slice p (min xs.length 120) cap), (19, .int .i64 (min xs.length 120 : Nat)), (20, .int .i64 j)]) (fun j => disk d (wear (Dk.new 6) ((xs.take 120).take j)) :: r) (fun j => (xs.take 120).length - j) 0 (by omega) ⟨rfl, rfl, rfl, rfl, trivial⟩ (fun w h => h) ?_
    intro j hj
    have hpj := wear_pending ((xs.take 120).take j) (Dk.new 6)
    have hpj' : (wear (Dk.new 6) ((xs.take 120).take j)).pending.length ≤ 1000 := by
      rw [List.length_take] at hpj
      have : (Dk.new 6).pending.length = 0 := rfl
      omega
    refine J.seq ?_
    refine J.region ?_
    refine JL.step (y_lss rfl rfl) rfl rfl rfl ?_
    refine JL.nil ?_
    refine JE.then_normal ?_
    refine J.seq ?_
    first | apply J.cond_dec rfl | apply J.cond rfl
    case' ht =>
      intro h
      try (first | (exfalso; omega) | (cases h; done) | (exfalso; simp at h; done) | subst h)
      all_goals
        refine J.skip ?_
    case' hf =>
      intro h
      try (first | (exfalso; omega) | (cases h; done) | (exfalso; simp at h; done) | subst h)
      all_goals
        refine J.exit ?_
        refine JE.then_exit ?_
        refine JE.then_exit ?_
        refine JE.block_exit ?_
        refine JE.then_normal ?_
        refine J.seq ?_
        refine J.region ?_
        refine JL.step (y_move rfl) rfl rfl rfl (JL.step (y_assign rfl) rfl rfl rfl ?_)
        refine JL.nil ?_
        refine JE.then_normal ?_
        refine J.ret ?_
        refine JE.ret1 (.inl rfl) rfl rfl (by (first | exact RV.tmp rfl | exact RV.cell1 hT rfl rfl rfl (by (exact Rd1.row (by (repeat (first | exact Pick.head | apply Pick.tail | apply Pick.app))) (by rfl))) | exact RV.cellN hT rfl rfl rfl (by (first | exact RdN.rowAll (by (repeat (first | exact Pick.head | apply Pick.tail | apply Pick.app))) | exact RdN.own (by (repeat (first | exact Pick.head | apply Pick.tail | apply Pick.app))))) (by (first | rfl | assumption | (simp; done) | omega)))) ?_
        refine ⟨_, fun w q => ?_, d, rfl, rfl⟩
        obtain rfl : j = (xs.take 120).length := by omega
        rwa [List.take_length] at q
    all_goals refine JE.then_normal ?_
    all_goals
      refine J.seq ?_
      refine J.block ?_
      refine J.seq ?_
      refine J.region ?_
      obtain ⟨b, o, rfl, hr⟩ := hy.inl.addr (by omega)
      obtain ⟨x, hxj⟩ : ∃ x, (xs.take 120)[j]? = some x := ⟨_, List.getElem?_eq_getElem (by omega)⟩
      have hx1 := encO_one x
      have hxo := hy.ok x (List.mem_of_getElem? hxj)
      refine JL.step (y_indexAddr_slice hT rfl rfl rfl rfl rfl (by (first | omega | exact Nat.le_of_ble_eq_true rfl | decide | (simp; omega))) (by (first | omega | exact Nat.le_of_ble_eq_true rfl | decide | (simp; omega)))) rfl rfl rfl ?_
      refine JL.step (y_loadN hT rfl rfl rfl ((hr [_]).elem (fun o _ => encO_length o) hxj) rfl) rfl rfl rfl ?_
      refine JL.loud rfl (l_alloc hT rfl rfl (by (first | rfl | simp)) rfl (fun b3 => ?_))
      refine JL.loud rfl (l_storeAll hT rfl rfl rfl (by (first | rfl | assumption | (simp; done) | omega)) (by (first | assumption | exact ones_of rfl | exact encW_one _ | exact encB_one _ | (intro u hu; simp at hu; rcases hu with rfl | rfl <;> rfl) | (intro u hu; simp at hu; subst hu; rfl) | simp)) (by (repeat (first | exact Pick.head | apply Pick.tail | apply Pick.app))) (by (first | rfl | assumption | (simp; done) | omega)) ?_)
      refine JL.nil ?_
      refine JE.then_normal ?_
      refine J.seq ?_
      refine J.region ?_
      refine JL.step (y_loadN hT rfl rfl rfl (by (first | exact RdN.rowAll (by (repeat (first | exact Pick.head | apply Pick.tail | apply Pick.app))) | exact RdN.own (by (repeat (first | exact Pick.head | apply Pick.tail | apply Pick.app))))) (by (first | rfl | assumption | (simp; done) | omega))) rfl rfl rfl ?_
      refine JL.loud rfl (l_callF e18 rfl rfl (kind_spec E x _) ?_)
      rintro _ _ ⟨rfl, rfl⟩
      refine JL.step (y_lss rfl rfl) rfl rfl rfl ?_
      refine JL.nil ?_
      refine JE.then_normal ?_
      first | apply J.cond_dec rfl | apply J.cond rfl
      case' ht =>
        intro h
        try (first | (exfalso; omega) | (cases h; done) | (exfalso; simp at h; done) | subst h)
        all_goals
          refine J.region ?_
          refine JL.step (y_move rfl) rfl rfl rfl ?_
          refine JL.step (y_loadN hT rfl rfl rfl (by (first | exact RdN.rowAll (by (repeat (first | exact Pick.head | apply Pick.tail | apply Pick.app))) | exact RdN.own (by (repeat (first | exact Pick.head | apply Pick.tail | apply Pick.app))))) (by (first | rfl | assumption | (simp; done) | omega))) rfl rfl rfl ?_
          refine JL.loud rfl (l_callF e23 rfl rfl (Fc.on (Split.cons (by (repeat (first | exact Pick.head | apply Pick.tail | apply Pick.app))) Split.nil) (does_spec E d _ x _ (by omega) ⟨_, hxo⟩ (fun h4 => by omega))) ?_)
          rintro _ _ ⟨rfl, rfl⟩
          refine JL.nil ?_
      case' hf =>
        intro h
        try (first | (exfalso; omega) | (cases h; done) | (exfalso; simp at h; done) | subst h)
        all_goals
          refine J.skip ?_
      all_goals refine JE.block_normal ?_
      all_goals refine JE.then_normal ?_
      all_goals
        refine J.region ?_
        refine JL.step (y_add rfl rfl (by (first | exact wrap_i64 (by omega) (by omega) | rfl))) rfl rfl rfl ?_
        refine JL.step (y_move rfl) rfl rfl rfl ?_
        refine JL.nil ?_
    all_goals
      refine JE.round (s := j) (j + 1) (by omega) ⟨rfl, rfl, rfl, rfl, trivial⟩ (fun w q => ?_) (by omega)
      rw [wear_next hxj, stepW]
      first
        | rw [if_pos (by assumption)]
        | rw [if_neg (by assumption)]
      exact q.sup (by (repeat (first | exact Sup.refl | apply Sup.cons (by (repeat (first | exact Pick.head | apply Pick.tail | apply Pick.app))) | apply Sup.app | apply Sup.skip | apply Sup.skips)))
/-- What all sectors hold. -/
def Dk.held (D : Dk) : List Blk := (List.range D.safe.length).map fun (i : Nat) => D.read (i : Int)
theorem held_length (D : Dk) : D.held.length = D.safe.length := by simp [Dk.held]
theorem held_64 {D : Dk} (h : D.Ok) : ∀ b ∈ D.held, (encB b).length = 64 := fun b hb => by
  obtain ⟨i, _, rfl⟩ := List.mem_map.1 hb
  exact (encB_length _).trans (h.read _)
theorem held_spec (d : Nat) (D : Dk) (r : List HProp) (hpn : D.pending.length ≤ 1000000) :
    Fc prog E 20 [Value.pointer (some ⟨d, 0, none⟩)].toArray (disk d D :: r) (fun v l' => ∃ a c, v = .slice a D.held.length c ∧ l' = own 27 64 v D.held.length (D.held.flatMap encB) :: disk d D :: r) := by
  refine disk_okd fun hok => Fc.post ?_
  have hmost := hok.most
  refine Fc.of_body (c := ?c) Try.func20 ?hb Try.ntmps20 ?hl ?_
  case hb => exact rfl
  case hl => exact rfl
  refine J.seq ?_
  refine J.region ?_
  refine JL.step (y_assign rfl) rfl rfl rfl ?_
  refine JL.nil ?_
  refine JE.then_normal ?_
  refine J.seq ?_
  refine J.region ?_
  refine JL.step (y_assign rfl) rfl rfl rfl ?_
  refine JL.nil ?_
  refine JE.then_normal ?_
  refine J.seq ?_
  refine J.seq ?_
  refine J.region ?_
  refine JL.step (y_move rfl) rfl rfl rfl ?_
  refine JL.loud rfl (l_callF e26 rfl rfl (len_spec E d D _) ?_)
  rintro _ _ ⟨rfl, rfl⟩
  refine JL.step (y_move rfl) rfl rfl rfl ?_
  refine JL.nil ?_
  refine JE.then_normal ?_
  refine J.block ?_
  refine J.loop (α := Nat × Value) (fun s => s.1 ≤ D.safe.length ∧ ∃ a c, s.2 = .slice a s.1 c) (fun s => [(0, .pointer (some ⟨d, 0, none⟩)), (3, s.2), (8, .int .i64 D.safe.length), (9, .int .i64 s.1)]) (fun s => own 27 64 s.2 s.1 ((D.held.take s.1).flatMap encB) :: disk d D :: r) (fun s => D.safe.length - s.1) (0, .slice none 0 0) ⟨by simp, _, _, rfl⟩ ⟨rfl, rfl, rfl, rfl, trivial⟩ (fun w h => h.own_nil) ?_
  rintro ⟨j, v⟩ ⟨hj, hv⟩
  dsimp only at hj hv ⊢
  refine J.seq ?_
  refine J.region ?_
  refine JL.step (y_lss rfl rfl) rfl rfl rfl ?_
  refine JL.nil ?_
  refine JE.then_normal ?_
  refine J.seq ?_
  first | apply J.cond_dec rfl | apply J.cond rfl
  case' ht =>
    intro h
    try (first | (exfalso; omega) | (cases h; done) | (exfalso; simp at h; done) | subst h)
    all_goals
      refine J.skip ?_
  case' hf =>
    intro h
    try (first | (exfalso; omega) | (cases h; done) | (exfalso; simp at h; done) | subst h)
    all_goals
      refine J.exit ?_
      refine JE.then_exit ?_
      refine JE.then_exit ?_
      refine JE.block_exit ?_
      refine JE.then_normal ?_
      refine J.seq ?_
      refine J.region ?_
      refine JL.step (y_move rfl) rfl rfl rfl (JL.step (y_assign rfl) rfl rfl rfl ?_)
      refine JL.nil ?_
      refine JE.then_normal ?_
      refine J.ret ?_
      refine JE.ret1 (.inl rfl) rfl rfl (by (first | exact RV.tmp rfl | exact RV.cell1 hT rfl rfl rfl (by (exact Rd1.row (by (repeat (first | exact Pick.head | apply Pick.tail | apply Pick.app))) (by rfl))) | exact RV.cellN hT rfl rfl rfl (by (first | exact RdN.rowAll (by (repeat (first | exact Pick.head | apply Pick.tail | apply Pick.app))) | exact RdN.own (by (repeat (first | exact Pick.head | apply Pick.tail | apply Pick.app))))) (by (first | rfl | assumption | (simp; done) | omega)))) ?_
      obtain ⟨a, c, rfl⟩ := hv
      obtain rfl : j = D.safe.length := by omega
      refine ⟨_, fun w q => ?_, a, c, by rw [held_length], rfl⟩
      rw [← held_length, List.take_length] at q
      rw [held_length] at q ⊢
      exact q
  all_goals refine JE.then_normal ?_
  all_goals
    refine J.seq ?_
    refine J.block ?_
    refine J.seq ?_
    refine J.region ?_
    refine JL.step (y_move rfl) rfl rfl rfl (JL.step (y_assign rfl) rfl rfl rfl ?_)
    refine JL.nil ?_
    refine JE.then_normal ?_
    refine J.seq ?_
    refine J.region ?_
    have hb : D.held[j]? = some (D.read (j : Int)) := by unfold Dk.held; rw [List.getElem?_map, List.getElem?_range (by omega)]; rfl
    have hbl : (encB (D.read (j : Int))).length = 64 := (encB_length _).trans (hok.read _)
    refine JL.step (y_move rfl) rfl rfl rfl (JL.step (y_move rfl) rfl rfl rfl ?_)
    refine JL.loud rfl (l_callF e27 rfl rfl (Fc.on (Split.cons (by (repeat (first | exact Pick.head | apply Pick.tail | apply Pick.app))) Split.nil) (read_spec E d D (j : Int) _ hpn)) ?_)
    rintro _ _ ⟨rfl, rfl⟩
    refine JL.step (y_move rfl) rfl rfl rfl (JL.step (y_extract rfl rfl) rfl rfl rfl (JL.step (y_extract rfl rfl) rfl rfl rfl ?_))
    refine JL.loud rfl (l_alloc hT rfl rfl (by (first | rfl | simp)) rfl (fun b3 => ?_))
    refine JL.loud rfl (l_storeAll hT rfl rfl rfl (by (first | rfl | assumption | (simp; done) | omega)) (by (first | assumption | exact ones_of rfl | exact encW_one _ | exact encB_one _ | (intro u hu; simp at hu; rcases hu with rfl | rfl <;> rfl) | (intro u hu; simp at hu; subst hu; rfl) | simp)) (by (repeat (first | exact Pick.head | apply Pick.tail | apply Pick.app))) (by (first | rfl | assumption | (simp; done) | omega)) ?_)
    refine JL.step (y_assign rfl) rfl rfl rfl ?_
    refine JL.nil ?_
    refine JE.then_normal ?_
    refine J.region ?_
    refine JL.step (y_move rfl) rfl rfl rfl ?_
    refine JL.step (y_loadN hT rfl rfl rfl (by (first | exact RdN.rowAll (by (repeat (first | exact Pick.head | apply Pick.tail | apply Pick.app))) | exact RdN.own (by (repeat (first | exact Pick.head | apply Pick.tail | apply Pick.app))))) (by (first | rfl | assumption | (simp; done) | omega))) rfl rfl rfl ?_
    refine JL.loud rfl (l_buildSliceP hT rfl rfl rfl rfl rfl rfl rfl (by (first | exact fill_one rfl (by first | assumption | rfl | (simp; done)) | rfl | simp)) rfl (fun b5 => ?_))
    refine JL.loud rfl (l_append hT rfl rfl rfl rfl rfl rfl rfl rfl (by (repeat (first | exact Pick.head | apply Pick.tail | apply Pick.app))) (by (first | exact RdN.rowAll (by (repeat (first | exact Pick.head | apply Pick.tail | apply Pick.app))) | exact RdN.own (by (repeat (first | exact Pick.head | apply Pick.tail | apply Pick.app))))) (by (first | rfl | assumption | (simp; done) | omega)) (by (first | assumption | exact ones_of rfl | exact encW_one _ | exact encB_one _ | (intro u hu; simp at hu; rcases hu with rfl | rfl <;> rfl) | (intro u hu; simp at hu; subst hu; rfl) | simp)) (by (exact Nat.le_trans (Nat.mul_le_mul_left _ (Nat.le_of_ble_eq_true rfl : _ ≤ 4096)) (by omega))) (by (first | omega | exact Nat.le_of_ble_eq_true rfl | decide | (simp; omega))) rfl (fun ab6 cb6 hb6 => ?_))
    refine JL.step (y_assign rfl) rfl rfl rfl ?_
    refine JL.nil ?_
    refine JE.block_normal ?_
    refine JE.then_normal ?_
    refine J.region ?_
    refine JL.step (y_add rfl rfl (by (first | exact wrap_i64 (by omega) (by omega) | rfl))) rfl rfl rfl ?_
    refine JL.step (y_move rfl) rfl rfl rfl ?_
    refine JL.nil ?_
  all_goals
    refine JE.round (s := (j, v)) (j + 1, _) ⟨by dsimp only; omega, _, _, rfl⟩ ⟨rfl, rfl, rfl, rfl, trivial⟩ (fun w q => ?_) (by dsimp only; omega)
    have e : (D.held.take (j + 1)).flatMap encB = (D.held.take j).flatMap encB ++ encB (D.read (j : Int)) := by
      rw [List.take_add_one, hb]; simp
    rw [e]
    exact q.sup (by (repeat (first | exact Sup.refl | apply Sup.cons (by (repeat (first | exact Pick.head | apply Pick.tail | apply Pick.app))) | apply Sup.app | apply Sup.skip | apply Sup.skips)))
/-- What was written last. -/
def lastS (L : List Blk) (o : OpA) : List Blk := if o.k = 1 ∧ 0 ≤ o.at_ ∧ o.at_ < 6 then L.set o.at_.toNat (blockOf o.fill) else L
def lastOf (xs : List OpA) : List Blk := xs.foldl lastS (List.replicate 6 zeroB)
theorem last_next {xs : List OpA} {j : Nat} {o : OpA} (h : xs[j]? = some o) : lastOf (xs.take (j + 1)) = lastS (lastOf (xs.take j)) o := by
  rw [lastOf, lastOf, List.take_add_one, h, List.foldl_append]
  rfl
structure Lasts (L : List Blk) : Prop where
  len : L.length = 6
  blk : ∀ b ∈ L, b.length = 64
theorem lastS_ok {L : List Blk} (h : Lasts L) (o : OpA) : Lasts (lastS L o) := by
  unfold lastS
  split
  · refine ⟨by simp [h.len], fun b hb => ?_⟩
    rcases List.mem_or_eq_of_mem_set hb with hb | rfl
    · exact h.blk b hb
    · exact blockOf_length _
  · exact h
theorem lastOf_ok : ∀ (xs : List OpA), Lasts (lastOf xs) := by
  intro xs
  have : ∀ (ys : List OpA) (L : List Blk), Lasts L → Lasts (ys.foldl lastS L) := by
    intro ys
    induction ys with
    | nil => exact fun L h => h
    | cons o r ih => exact fun L h => ih _ (lastS_ok h o)
  exact this xs _ ⟨rfl, fun b hb => by rw [List.eq_of_mem_replicate hb]; rfl⟩
/-- A disk on which everything is done, of six sectors. -/
structure Fine (D : Dk) : Prop where
  ok : D.Ok
  len : D.safe.length = 6
  dead : D.dead = false
  armed : D.armed = false
theorem fine_ready {D : Dk} (h : Fine D) (i : Int) : D.ready i = if i < 0 ∨ 6 ≤ i then 2 else 0 := by simp [Dk.ready, h.dead, h.len]
theorem fine_write {D : Dk} (h : Fine D) (i : Int) (b : Blk) : D.write i b = if i < 0 ∨ 6 ≤ i then (D, 2) else (D.does.push i b, 0) := by
  simp only [Dk.write, fine_ready h, h.armed]
  by_cases hi : i < 0 ∨ 6 ≤ i <;> simp [hi]
theorem fine_sync {D : Dk} (h : Fine D) : D.sync = (D.does.settle (fun _ => true), 0) := by simp [Dk.sync, h.dead, h.armed]
theorem fine_new : Fine (Dk.new 6) := ⟨new_ok6, rfl, rfl, rfl⟩
theorem fine_push {D : Dk} (h : Fine D) {i : Int} {b : Blk} (hi : 0 ≤ i ∧ i < 6) (hb : b.length = 64) : Fine (D.does.push i b) :=
  ⟨h.ok.does.push hb (by have := h.len; simpa [Dk.does, this] using hi), h.len, h.dead, h.armed⟩
theorem fine_settle {D : Dk} (h : Fine D) (lv : Nat → Bool) : Fine (D.does.settle lv) :=
  ⟨h.ok.does.settle lv, by simp [Dk.settle, liveOn_length, Dk.does, h.len], h.dead, h.armed⟩
theorem fine_stepW {D : Dk} (h : Fine D) (o : OpA) : Fine (stepW D o) := by
  have hk := o.k_range
  unfold stepW
  split
  · rcases (by omega : o.k = 0 ∨ o.k = 1 ∨ o.k = 2) with e | e | e
    · rw [Dk.opd0 e]; exact h
    · rw [Dk.opd1 e, fine_write h]
      by_cases hi : o.at_ < 0 ∨ 6 ≤ o.at_
      · simpa [hi] using h
      · simp only [hi, if_false]; exact fine_push h (by omega) (blockOf_length _)
    · rw [Dk.opd2 e, fine_sync h]; exact fine_settle h _
  · exact h
/-- What a sector holds behind a write, behind a sync. -/
theorem find_push (D : Dk) (i j : Int) (b : Blk) : (D.does.push i b).find j = if i = j then b else D.find j := by
  simp only [Dk.find, Dk.push, Dk.does, List.reverse_append, List.reverse_singleton, List.singleton_append, List.find?_cons]
  by_cases h : i = j <;> simp [h]
theorem liveOn_find (l : List (Int × Blk)) (k : Nat) (s : List Blk) (j : Nat) (hl : ∀ p ∈ l, 0 ≤ p.1 ∧ p.1 < s.length) (hj : j < s.length) :
    (liveOn (fun _ => true) l k s).getD j [] = match l.reverse.find? (fun p => p.1 = (j : Int)) with | some p => p.2 | none => s.getD j [] := by
  induction l generalizing k s with
  | nil => rfl
  | cons p r ih =>
    have hp := hl p (by simp)
    simp only [liveOn, if_true, List.reverse_cons, List.find?_append]
    rw [ih (k + 1) (s.set p.1.toNat p.2) (fun q hq => by simpa using hl q (by simp [hq])) (by simpa using hj)]
    cases hf : r.reverse.find? (fun p => p.1 = (j : Int)) with
    | some q => rfl
    | none =>
      simp only [Option.none_or, List.find?_singleton, List.getD_eq_getElem?_getD]
      by_cases he : p.1 = (j : Int)
      · simp [he, hj]
      · have : ¬ p.1.toNat = j := by omega
        simp [he, List.getElem?_set, this]
theorem find_settle {D : Dk} (h : D.Ok) (j : Nat) (hj : j < D.safe.length) : (D.does.settle (fun _ => true)).find j = D.find j := by
  have := liveOn_find D.pending 0 D.safe j (fun p hp => (h.pend p hp).2) hj
  simp only [Dk.find, Dk.settle, Dk.does, List.reverse_nil, List.find?_nil, Int.toNat_natCast]
  exact this
theorem fine_read {D : Dk} (h : Fine D) {j : Nat} (hj : j < 6) : D.read j = D.find j := by
  have hr : D.ready (j : Int) = 0 := by rw [fine_ready h, if_neg (by omega)]
  simp [Dk.read, hr]
theorem fine_held {D D' : Dk} (h : Fine D) (h' : Fine D') (e : ∀ j : Nat, j < 6 → D'.find j = D.find j) : D'.held = D.held := by
  unfold Dk.held
  rw [h.len, h'.len]
  refine List.map_congr_left fun j hj => ?_
  have hj : j < 6 := by simpa using hj
  rw [fine_read h hj, fine_read h' hj, e j hj]
theorem held_step {D : Dk} (h : Fine D) (o : OpA) : (stepW D o).held = lastS D.held o := by
  have hk := o.k_range
  have hf := fine_stepW h o
  unfold lastS
  rcases (by omega : o.k = 0 ∨ o.k = 1 ∨ o.k = 2 ∨ 3 ≤ o.k) with e | e | e | e
  · rw [if_neg (by omega), stepW, if_pos (by omega), Dk.opd0 e]
  · by_cases hi : 0 ≤ o.at_ ∧ o.at_ < 6
    · rw [if_pos ⟨e, hi⟩]
      have es : stepW D o = D.does.push o.at_ (blockOf o.fill) := by
        rw [stepW, if_pos (by omega), Dk.opd1 e, fine_write h, if_neg (by omega)]
      rw [es] at hf ⊢
      apply List.ext_getElem?
      intro j
      by_cases hj : j < 6
      · have h1 : (D.does.push o.at_ (blockOf o.fill)).held[j]? = some ((D.does.push o.at_ (blockOf o.fill)).read j) := by unfold Dk.held; rw [List.getElem?_map, List.getElem?_range (by rw [hf.len]; exact hj)]; rfl
        have h2 : D.held[j]? = some (D.read j) := by unfold Dk.held; rw [List.getElem?_map, List.getElem?_range (by rw [h.len]; exact hj)]; rfl
        rw [h1, fine_read hf hj, find_push, List.getElem?_set]
        by_cases he : o.at_ = (j : Int)
        · have : o.at_.toNat = j := by omega
          have hl : j < D.held.length := by rw [held_length, h.len]; exact hj
          simp [he, hl]
        · have : ¬ o.at_.toNat = j := by omega
          simp [he, this, h2, fine_read h hj]
      · rw [List.getElem?_eq_none (by rw [held_length, hf.len]; omega), List.getElem?_eq_none (by rw [List.length_set, held_length, h.len]; omega)]
    · rw [if_neg (fun q => hi q.2), stepW, if_pos (by omega), Dk.opd1 e, fine_write h, if_pos (by omega)]
  · rw [if_neg (by omega)]
    have es : stepW D o = D.does.settle (fun _ => true) := by rw [stepW, if_pos (by omega), Dk.opd2 e, fine_sync h]
    rw [es] at hf ⊢
    exact fine_held h hf fun j hj => find_settle h.ok j (by rw [h.len]; exact hj)
  · rw [if_neg (by omega), stepW, if_neg (by omega)]
theorem wear_held : ∀ (xs : List OpA) (D : Dk), Fine D → (wear D xs).held = xs.foldl lastS D.held
  | [], _, _ => rfl
  | o :: r, D, h => by
    have := wear_held r (stepW D o) (fine_stepW h o)
    rw [held_step h o] at this
    exact this
theorem wear_fine : ∀ (xs : List OpA) (D : Dk), Fine D → Fine (wear D xs)
  | [], _, h => h
  | o :: r, D, h => wear_fine r (stepW D o) (fine_stepW h o)
theorem last_law (xs : List OpA) : (wear (Dk.new 6) xs).held = lastOf xs := by
  rw [wear_held xs _ fine_new]
  rfl
theorem disk_last (p : Option Addr) (cap : Nat) (xs : List OpA) (r : List HProp) (hx : OpsIn r p cap xs) :
    Fc prog E 3 [Value.slice p xs.length cap].toArray r (fun v l' => v = .bool true ∧ l' = r) := by
  refine Fc.eqs ?_
  have hy := hx.take 120
  have hyl : (xs.take 120).length = min xs.length 120 := by rw [List.length_take]; omega
  have hL : ∀ j, Lasts (lastOf ((xs.take 120).take j)) := fun j => lastOf_ok _
  have hheld : ∀ d r, Fc prog E 20 [Value.pointer (some ⟨d, 0, none⟩)].toArray (disk d (Dk.worn xs) :: r) (fun v l' => ∃ a c, v = .slice a 6 c ∧ l' = own 27 64 v 6 ((lastOf (xs.take 120)).flatMap encB) :: disk d (Dk.worn xs) :: r) := fun d r => by
    have hWl : (Dk.worn xs).pending.length ≤ 1000 := by
      have h1 := wear_pending (xs.take 120) (Dk.new 6)
      have : (Dk.new 6).pending.length = 0 := rfl
      unfold Dk.worn
      omega
    have h := held_spec E d (Dk.worn xs) r (by omega)
    have e1 : (Dk.worn xs).held = lastOf (xs.take 120) := last_law _
    rwa [e1, (lastOf_ok (xs.take 120)).len] at h
  refine Fc.of_body (c := ?c) Try.func3 ?hb Try.ntmps3 ?hl ?_
  case hb => exact rfl
  case hl => exact rfl
  refine J.seq ?_
  refine J.region ?_
  refine JL.step (y_assign rfl) rfl rfl rfl ?_
  refine JL.nil ?_
  refine JE.then_normal ?_
  refine J.seq ?_
  refine J.seq ?_
  refine J.region ?_
  refine JL.loud rfl (l_callF e15 rfl rfl (wakes_spec E _) ?_)
  rintro _ l1 ⟨rfl, e1⟩
  obtain rfl := e1.symm
  refine JL.step (y_not rfl) rfl rfl rfl ?_
  refine JL.nil ?_
  refine JE.then_normal ?_
  refine J.cond_f rfl (by (first | rfl | assumption | (simp; done) | (simp; omega))) ?_
  refine J.skip ?_
  refine JE.then_normal ?_
  refine J.seq ?_
  refine J.region ?_
  refine JL.step (y_move rfl) rfl rfl rfl ?_
  refine JL.loud rfl (l_callF e16 rfl rfl (worn_spec E p cap xs _ hx) ?_)
  rintro _ _ ⟨d, rfl, rfl⟩
  refine JL.step (y_assign rfl) rfl rfl rfl ?_
  refine JL.nil ?_
  refine JE.then_normal ?_
  refine J.seq ?_
  refine J.seq ?_
  refine J.region ?_
  refine JL.step (y_move rfl) rfl rfl rfl (JL.step (y_ptr_eq_nil hT rfl rfl rfl rfl) rfl rfl rfl ?_)
  refine JL.nil ?_
  refine JE.then_normal ?_
  refine J.cond_f rfl (by (first | rfl | assumption | (simp; done) | (simp; omega))) ?_
  refine J.skip ?_
  refine JE.then_normal ?_
  refine J.seq ?_
  refine J.region ?_
  refine JL.loud rfl (l_alloc hT rfl rfl (by (first | rfl | simp)) rfl (fun bl => ?_))
  refine JL.nil ?_
  refine JE.then_normal ?_
  refine J.seq ?_
  refine J.seq ?_
  refine J.region ?_
  refine JL.step (y_move rfl) rfl rfl rfl ?_
  refine JL.loud rfl (l_callF e17 rfl rfl (few_spec E p xs.length cap _ _ ((hx.inl.cons _).cons _)) ?_)
  rintro _ _ ⟨rfl, rfl⟩
  refine JL.step (y_len_slice hT rfl rfl rfl) rfl rfl rfl (JL.step (y_move rfl) rfl rfl rfl ?_)
  refine JL.nil ?_
  refine JE.then_normal ?_
  refine J.block ?_
  refine J.loop (α := Nat) (fun j => j ≤ (xs.take 120).length) (fun j => [(3, .pointer (some ⟨d, 0, none⟩)), (4, .pointer (some ⟨bl, 0, none⟩)), (16, .slice p (min xs.length 120) cap), (17, .int .i64 (min xs.length 120 : Nat)), (18, .int .i64 j)]) (fun j => row bl 28 ((lastOf ((xs.take 120).take j)).flatMap encB) :: disk d (Dk.worn xs) :: r) (fun j => (xs.take 120).length - j) 0 (by omega) ⟨rfl, rfl, rfl, rfl, rfl, trivial⟩ (fun w h => h) ?_
  intro j hj
  refine J.seq ?_
  refine J.region ?_
  refine JL.step (y_lss rfl rfl) rfl rfl rfl ?_
  refine JL.nil ?_
  refine JE.then_normal ?_
  refine J.seq ?_
  first | apply J.cond_dec rfl | apply J.cond rfl
  case' ht =>
    intro h
    try (first | (exfalso; omega) | (cases h; done) | (exfalso; simp at h; done) | subst h)
    all_goals
      refine J.skip ?_
  case' hf =>
    intro h
    try (first | (exfalso; omega) | (cases h; done) | (exfalso; simp at h; done) | subst h)
    all_goals
      refine J.exit ?_
      refine JE.then_exit ?_
      refine JE.then_exit ?_
      refine JE.block_exit ?_
      refine JE.then_normal ?_
      refine J.seq ?_
      refine J.seq ?_
      obtain rfl : j = (xs.take 120).length := by omega
      rw [List.take_length]
      refine J.region ?_
      refine JL.step (y_move rfl) rfl rfl rfl ?_
      refine JL.loud rfl (l_callF e20 rfl rfl (Fc.on (Split.cons (by (repeat (first | exact Pick.head | apply Pick.tail | apply Pick.app))) Split.nil) (hheld d _)) ?_)
      rintro _ _ ⟨a, c, rfl, rfl⟩
      refine JL.step (y_len_slice hT rfl rfl rfl) rfl rfl rfl (JL.step (y_move rfl) rfl rfl rfl ?_)
      refine JL.nil ?_
      refine JE.then_normal ?_
      refine J.block ?_
      refine J.fact (fun w s => s.own_at) fun hat => ?_
      obtain ⟨g, rfl⟩ := hat.at_.resolve_right (fun ⟨h0, _⟩ => by have := hat.le; omega)
      refine J.loop (α := Nat) (fun j => j ≤ 6) (fun j => [(4, .pointer (some ⟨bl, 0, none⟩)), (43, .slice (some ⟨g, 0, none⟩) 6 c), (44, .int .i64 6), (45, .int .i64 j)]) (fun j => own 27 64 (.slice (some ⟨g, 0, none⟩) 6 c) 6 ((lastOf (xs.take 120)).flatMap encB) :: row bl 28 ((lastOf (xs.take 120)).flatMap encB) :: disk d (Dk.worn xs) :: r) (fun j => 6 - j) 0 (by omega) ⟨rfl, rfl, rfl, rfl, trivial⟩ (fun w h => h.sup (by (repeat (first | exact Sup.refl | apply Sup.cons (by (repeat (first | exact Pick.head | apply Pick.tail | apply Pick.app))) | apply Sup.app | apply Sup.skip | apply Sup.skips)))) ?_
      intro j hj
      refine J.seq ?_
      refine J.region ?_
      refine JL.step (y_lss rfl rfl) rfl rfl rfl ?_
      refine JL.nil ?_
      refine JE.then_normal ?_
      refine J.seq ?_
      first | apply J.cond_dec rfl | apply J.cond rfl
      case' ht =>
        intro h
        try (first | (exfalso; omega) | (cases h; done) | (exfalso; simp at h; done) | subst h)
        all_goals
          refine J.skip ?_
      case' hf =>
        intro h
        try (first | (exfalso; omega) | (cases h; done) | (exfalso; simp at h; done) | subst h)
        all_goals
          refine J.exit ?_
          refine JE.then_exit ?_
          refine JE.then_exit ?_
          refine JE.block_exit ?_
          refine JE.then_normal ?_
          refine J.seq ?_
          refine J.region ?_
          refine JL.step (y_assign rfl) rfl rfl rfl ?_
          refine JL.nil ?_
          refine JE.then_normal ?_
          refine J.ret ?_
          refine JE.ret1 (.inl rfl) rfl rfl (by (first | exact RV.tmp rfl | exact RV.cell1 hT rfl rfl rfl (by (exact Rd1.row (by (repeat (first | exact Pick.head | apply Pick.tail | apply Pick.app))) (by rfl))) | exact RV.cellN hT rfl rfl rfl (by (first | exact RdN.rowAll (by (repeat (first | exact Pick.head | apply Pick.tail | apply Pick.app))) | exact RdN.own (by (repeat (first | exact Pick.head | apply Pick.tail | apply Pick.app))))) (by (first | rfl | assumption | (simp; done) | omega)))) ?_
          exact ⟨rfl, fun w q => q.sup (by (repeat (first | exact Sup.refl | apply Sup.cons (by (repeat (first | exact Pick.head | apply Pick.tail | apply Pick.app))) | apply Sup.app | apply Sup.skip | apply Sup.skips)))⟩
      all_goals refine JE.then_normal ?_
      all_goals
        refine J.seq ?_
        refine J.block ?_
        refine J.seq ?_
        refine J.region ?_
        obtain ⟨x, hxj⟩ : ∃ x, (lastOf (xs.take 120))[j]? = some x := ⟨_, List.getElem?_eq_getElem (by rw [(lastOf_ok _).len]; omega)⟩
        have hL6 := lastOf_ok (xs.take 120)
        have hxb := hL6.blk x (List.mem_of_getElem? hxj)
        have hxl : (encB x).length = 64 := (encB_length _).trans hxb
        have hlen : ∀ b ∈ lastOf (xs.take 120), (encB b).length = 64 := fun b hb => (encB_length _).trans (hL6.blk b hb)
        refine JL.step (y_move rfl) rfl rfl rfl ?_
        refine JL.step (y_indexAddr_slice hT rfl rfl rfl rfl rfl (by (first | omega | exact Nat.le_of_ble_eq_true rfl | decide | (simp; omega))) (by (first | omega | exact Nat.le_of_ble_eq_true rfl | decide | (simp; omega)))) rfl rfl rfl ?_
        refine JL.step (y_loadN hT rfl rfl rfl ((RdN.own (by (repeat (first | exact Pick.head | apply Pick.tail | apply Pick.app)))).elem hlen hxj) hxl) rfl rfl rfl ?_
        refine JL.loud rfl (l_alloc hT rfl rfl (by (first | rfl | simp)) rfl (fun b5 => ?_))
        refine JL.step (y_assign rfl) rfl rfl rfl ?_
        refine JL.loud rfl (l_storeAll hT rfl rfl rfl (by (first | rfl | assumption | (simp; done) | omega)) (by (first | assumption | exact ones_of rfl | exact encW_one _ | exact encB_one _ | (intro u hu; simp at hu; rcases hu with rfl | rfl <;> rfl) | (intro u hu; simp at hu; subst hu; rfl) | simp)) (by (repeat (first | exact Pick.head | apply Pick.tail | apply Pick.app))) (by (first | rfl | assumption | (simp; done) | omega)) ?_)
        refine JL.nil ?_
        refine JE.then_normal ?_
        refine J.seq ?_
        refine J.draw _ _ [(0, .q), (1, .q), (2, .q), (3, .q), (4, .q)] mixed (by kernel_rfl) (Split.nil) ?_
        refine JM.quiet rfl rfl rfl rfl (fun m => y_loadN hT rfl rfl rfl (by (first | exact RdN.rowAll (Pick.app m (by (repeat (first | exact Pick.head | apply Pick.tail | apply Pick.app)))) | exact RdN.own (Pick.app m (by (repeat (first | exact Pick.head | apply Pick.tail | apply Pick.app)))))) (by (first | rfl | assumption | (simp; done) | omega))) ?_
        refine JM.quiet rfl rfl rfl rfl (fun m => y_move rfl) ?_
        refine JM.quiet rfl rfl rfl rfl (fun m => y_indexAddr_arr hT rfl rfl rfl rfl rfl (by (first | omega | exact Nat.le_of_ble_eq_true rfl | decide | (simp; omega))) (by (first | omega | exact Nat.le_of_ble_eq_true rfl | decide | (simp; omega)))) ?_
        refine JM.quiet rfl rfl rfl rfl (fun m => y_loadN hT rfl rfl rfl ((RdN.rowAll (Pick.app m (by (repeat (first | exact Pick.head | apply Pick.tail | apply Pick.app))))).elem hlen hxj) hxl) ?_
        refine JM.quiet rfl rfl rfl rfl (fun m => y_arr_ne hT rfl rfl rfl rfl rfl rfl rfl (by (first | rfl | assumption | (simp; done) | omega)) (by (first | rfl | assumption | (simp; done) | omega))) ?_
        refine JM.nil ?_
        refine JE.then_normal ?_
        refine J.cond_f rfl (by (first | rfl | assumption | (simp; done) | (simp; omega))) ?_
        refine J.skip ?_
        refine JE.block_normal ?_
        refine JE.then_normal ?_
        refine J.region ?_
        refine JL.step (y_add rfl rfl (by (first | exact wrap_i64 (by omega) (by omega) | rfl))) rfl rfl rfl ?_
        refine JL.step (y_move rfl) rfl rfl rfl ?_
        refine JL.nil ?_
      all_goals
        refine JE.round (s := j) (j + 1) (by omega) ⟨rfl, rfl, rfl, rfl, trivial⟩ (fun w q => q.sup (by (repeat (first | exact Sup.refl | apply Sup.cons (by (repeat (first | exact Pick.head | apply Pick.tail | apply Pick.app))) | apply Sup.app | apply Sup.skip | apply Sup.skips)))) (by omega)
  all_goals refine JE.then_normal ?_
  all_goals
    refine J.seq ?_
    refine J.block ?_
    refine J.seq ?_
    refine J.region ?_
    obtain ⟨b, o, rfl, hr⟩ := hy.inl.addr (by omega)
    obtain ⟨x, hxj⟩ : ∃ x, (xs.take 120)[j]? = some x := ⟨_, List.getElem?_eq_getElem (by omega)⟩
    have hx1 := encO_one x
    have hxo := hy.ok x (List.mem_of_getElem? hxj)
    refine JL.step (y_indexAddr_slice hT rfl rfl rfl rfl rfl (by (first | omega | exact Nat.le_of_ble_eq_true rfl | decide | (simp; omega))) (by (first | omega | exact Nat.le_of_ble_eq_true rfl | decide | (simp; omega)))) rfl rfl rfl ?_
    refine JL.step (y_loadN hT rfl rfl rfl ((hr [_, _]).elem (fun o _ => encO_length o) hxj) rfl) rfl rfl rfl ?_
    refine JL.loud rfl (l_alloc hT rfl rfl (by (first | rfl | simp)) rfl (fun b7 => ?_))
    refine JL.loud rfl (l_storeAll hT rfl rfl rfl (by (first | rfl | assumption | (simp; done) | omega)) (by (first | assumption | exact ones_of rfl | exact encW_one _ | exact encB_one _ | (intro u hu; simp at hu; rcases hu with rfl | rfl <;> rfl) | (intro u hu; simp at hu; subst hu; rfl) | simp)) (by (repeat (first | exact Pick.head | apply Pick.tail | apply Pick.app))) (by (first | rfl | assumption | (simp; done) | omega)) ?_)
    refine JL.nil ?_
    refine JE.then_normal ?_
    refine J.seq ?_
    refine J.region ?_
    refine JL.step (y_loadN hT rfl rfl rfl (by (first | exact RdN.rowAll (by (repeat (first | exact Pick.head | apply Pick.tail | apply Pick.app))) | exact RdN.own (by (repeat (first | exact Pick.head | apply Pick.tail | apply Pick.app))))) (by (first | rfl | assumption | (simp; done) | omega))) rfl rfl rfl ?_
    refine JL.loud rfl (l_callF e18 rfl rfl (kind_spec E x _) ?_)
    rintro _ _ ⟨rfl, rfl⟩
    refine JL.step (y_eql rfl rfl) rfl rfl rfl (JL.step (y_move rfl) rfl rfl rfl ?_)
    all_goals (first | (refine JL.gsplit_dec rfl rfl rfl (fun h => ?_) (fun h => ?_) <;> try (first | (exfalso; omega) | exact absurd rfl h)) | (refine JL.gsplit rfl rfl rfl (fun h => ?_) (fun h => ?_) <;> try (first | cases h | (exfalso; simp at h; done))) | skip)
    all_goals (first | refine JL.gskip rfl rfl rfl rfl rfl rfl ?_ | refine JL.gskipU rfl rfl rfl rfl rfl ?_ | refine JL.gstep rfl rfl rfl (y_fieldAddr hT rfl rfl rfl rfl rfl rfl) rfl rfl ?_)
    all_goals (first | refine JL.gskip rfl rfl rfl rfl rfl rfl ?_ | refine JL.gskipU rfl rfl rfl rfl rfl ?_ | refine JL.gstep rfl rfl rfl (y_load1 hT rfl rfl rfl (by (exact Rd1.row (by (repeat (first | exact Pick.head | apply Pick.tail | apply Pick.app))) (by rfl)))) rfl rfl ?_)
    all_goals (first | refine JL.gskip rfl rfl rfl rfl rfl rfl ?_ | refine JL.gskipU rfl rfl rfl rfl rfl ?_ | refine JL.gstep rfl rfl rfl (y_geq rfl rfl) rfl rfl ?_)
    all_goals (refine JL.step (y_pick rfl rfl rfl) rfl rfl rfl ?_)
    all_goals (refine JL.step (y_move rfl) rfl rfl rfl ?_)
    all_goals (first | (refine JL.gsplit_dec rfl rfl rfl (fun h => ?_) (fun h => ?_) <;> try (first | (exfalso; omega) | exact absurd rfl h)) | (refine JL.gsplit rfl rfl rfl (fun h => ?_) (fun h => ?_) <;> try (first | cases h | (exfalso; simp at h; done))) | skip)
    all_goals (first | refine JL.gskip rfl rfl rfl rfl rfl rfl ?_ | refine JL.gskipU rfl rfl rfl rfl rfl ?_ | refine JL.gstep rfl rfl rfl (y_fieldAddr hT rfl rfl rfl rfl rfl rfl) rfl rfl ?_)
    all_goals (first | refine JL.gskip rfl rfl rfl rfl rfl rfl ?_ | refine JL.gskipU rfl rfl rfl rfl rfl ?_ | refine JL.gstep rfl rfl rfl (y_load1 hT rfl rfl rfl (by (exact Rd1.row (by (repeat (first | exact Pick.head | apply Pick.tail | apply Pick.app))) (by rfl)))) rfl rfl ?_)
    all_goals (first | refine JL.gskip rfl rfl rfl rfl rfl rfl ?_ | refine JL.gskipU rfl rfl rfl rfl rfl ?_ | refine JL.gstep rfl rfl rfl (y_lss rfl rfl) rfl rfl ?_)
    all_goals (refine JL.step (y_pick rfl rfl rfl) rfl rfl rfl ?_)
    all_goals refine JL.nil ?_
    all_goals refine JE.then_normal ?_
    all_goals
      first | apply J.cond_dec rfl | apply J.cond rfl
      case' ht =>
        intro h
        try (first | (exfalso; omega) | (cases h; done) | (exfalso; simp at h; done) | subst h)
        all_goals
          have hLj := hL j
          have hBl : (encB (blockOf x.fill)).length = 64 := (encB_length _).trans (blockOf_length _)
          have hLl : ∀ b ∈ lastOf ((xs.take 120).take j), (encB b).length = 64 := fun b hb => (encB_length _).trans (hLj.blk b hb)
          have hfit : 0 + x.at_.toNat * i27.size + (encB (blockOf x.fill)).length ≤ ((lastOf ((xs.take 120).take j)).flatMap encB).length := by
            rw [hBl, seg_len hLl, hLj.len, show i27.size = 64 from rfl]
            omega
          refine J.draw _ _ [(0, .q), (1, .q), (2, .q), (3, .q), (4, .q), (5, .q), (6, .l)] mixed (by kernel_rfl) (Split.cons (Pick.tail Pick.head) (Split.nil)) ?_
          refine JM.quiet rfl rfl rfl rfl (fun m => y_fieldAddr hT rfl rfl rfl rfl rfl rfl) ?_
          refine JM.quiet rfl rfl rfl rfl (fun m => y_load1 hT rfl rfl rfl (by (exact Rd1.row (Pick.app m (by (repeat (first | exact Pick.head | apply Pick.tail | apply Pick.app)))) (by rfl)))) ?_
          refine JM.quiet rfl rfl rfl rfl (fun m => y_fieldAddr hT rfl rfl rfl rfl rfl rfl) ?_
          refine JM.quiet rfl rfl rfl rfl (fun m => y_load1 hT rfl rfl rfl (by (exact Rd1.row (Pick.app m (by (repeat (first | exact Pick.head | apply Pick.tail | apply Pick.app)))) (by rfl)))) ?_
          refine JM.quiet rfl rfl rfl rfl (fun m => y_callF e19 rfl (block_spec E _ _)) ?_
          refine JM.quiet rfl rfl rfl rfl (fun m => y_indexAddr_arr hT rfl rfl rfl rfl rfl (by (first | omega | exact Nat.le_of_ble_eq_true rfl | decide | (simp; omega))) (by (first | omega | exact Nat.le_of_ble_eq_true rfl | decide | (simp; omega)))) ?_
          refine JM.loud rfl rfl (fun fr => l_storeN hT rfl rfl rfl hBl (encB_one _) (by (repeat (first | exact Pick.head | apply Pick.tail | apply Pick.app))) hfit ⟨[_], (by (repeat (first | exact Split.nil | exact Split.all | refine Split.cons Pick.head ?_))), ?_⟩)
          refine JM.nil ?_
      case' hf =>
        intro h
        try (first | (exfalso; omega) | (cases h; done) | (exfalso; simp at h; done) | subst h)
        all_goals
          refine J.skip ?_
    all_goals refine JE.block_normal ?_
    all_goals refine JE.then_normal ?_
    all_goals
      refine J.region ?_
      refine JL.step (y_add rfl rfl (by (first | exact wrap_i64 (by omega) (by omega) | rfl))) rfl rfl rfl ?_
      refine JL.step (y_move rfl) rfl rfl rfl ?_
      refine JL.nil ?_
  all_goals
    refine JE.round (s := j) (j + 1) (by omega) ⟨rfl, rfl, rfl, rfl, rfl, trivial⟩ (fun w q => ?_) (by omega)
    rw [last_next hxj, lastS]
    first
      | (rw [if_neg (by omega)]; exact q.sup (by (repeat (first | exact Sup.refl | apply Sup.cons (by (repeat (first | exact Pick.head | apply Pick.tail | apply Pick.app))) | apply Sup.app | apply Sup.skip | apply Sup.skips))))
      | (rw [if_pos ⟨by omega, by omega, by omega⟩]
         have e := seg_set (enc := encB) (sp := []) (xs := lastOf ((xs.take 120).take j)) (i := x.at_.toNat) (y := blockOf x.fill) hLl (by rw [hLj.len]; omega)
         rw [List.append_nil, List.append_nil] at e
         rw [hBl, Nat.zero_add] at q
         rw [← e]
         exact q.sup (by (repeat (first | exact Sup.refl | apply Sup.cons (by (repeat (first | exact Pick.head | apply Pick.tail | apply Pick.app))) | apply Sup.app | apply Sup.skip | apply Sup.skips))))
end Go.Proofs.Ytilifeeddpkclaa
