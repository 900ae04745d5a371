import Derived.Test.YtilifeeddpkclaaDisk4
import Derived.Test.YtilifeeddpkclaaSlAdd
namespace Go.Proofs.Ytilifeeddpkclaa
open Go Go.SL
attribute [local irreducible] J JL JE JM LS Y Fc RV Code.wp wpList Code.wpIn wpListIn
attribute [local irreducible] Yc
variable (E : World)
theorem clone1_spec (pa : Option Addr) (ca : Nat) (xs : List Blk) (l : List HProp) (hin : InL l pa xs.length ca (xs.flatMap encB)) (h64 : ∀ b ∈ xs, (encB b).length = 64) (hn : xs.length ≤ 1000000) :
    Fc prog E 68 [.slice pa xs.length ca].toArray l (fun v l' => ∃ a c, v = .slice a xs.length c ∧ l' = own 27 64 v xs.length (xs.flatMap encB) :: l) := by
  refine Fc.post ?_
  have h1 : ∀ u ∈ xs.flatMap encB, u.oneCell' = true := by
    intro u hu
    obtain ⟨b, _, hb⟩ := List.mem_flatMap.1 hu
    exact encB_one b u hb
  cases hp : pa with
  | none =>
    subst hp
    obtain ⟨hc, hx⟩ := hin.rd.resolve_left (fun ⟨b, o, e, _⟩ => by cases e)
    have h0 : xs.length = 0 := by have := hin.le; omega
    refine Fc.of_body (c := ?c) Try.func68 ?hb Try.ntmps68 ?hl ?_
    case hb => exact rfl
    case hl => exact rfl
    refine J.seq ?_
    refine J.region ?_
    refine JL.step (y_assign rfl) rfl rfl rfl ?_
    refine JL.nil ?_
    refine JE.then_normal ?_
    refine J.seq ?_
    refine J.seq ?_
    refine J.region ?_
    refine JL.step (y_move rfl) rfl rfl rfl (JL.step (y_sl_eq_nil hT rfl rfl rfl rfl) rfl rfl rfl ?_)
    refine JL.nil ?_
    refine JE.then_normal ?_
    refine J.cond_t rfl (by (first | rfl | assumption | (simp; done) | (simp; omega))) ?_
    refine J.seq ?_
    refine J.region ?_
    refine JL.step (y_assign rfl) rfl rfl rfl ?_
    refine JL.nil ?_
    refine JE.then_normal ?_
    refine J.ret ?_
    refine JE.then_ret ?_
    refine JE.ret1 (.inl rfl) rfl rfl (by (first | exact RV.tmp rfl | exact RV.cell1 hT rfl rfl rfl (by (exact Rd1.row (by (repeat (first | exact Pick.head | apply Pick.tail | apply Pick.app))) (by rfl))) | exact RV.cellN hT rfl rfl rfl (by (first | exact RdN.rowAll (by (repeat (first | exact Pick.head | apply Pick.tail | apply Pick.app))) | exact RdN.own (by (repeat (first | exact Pick.head | apply Pick.tail | apply Pick.app))))) (by (first | rfl | assumption | (simp; done) | omega)))) ?_
    exact ⟨_, fun w q => by rw [hx, h0]; exact q.own_nil, none, 0, by rw [h0], rfl⟩
  | some a0 =>
    subst hp
    refine Fc.of_body (c := ?c) Try.func68 ?hb Try.ntmps68 ?hl ?_
    case hb => exact rfl
    case hl => exact rfl
    refine J.seq ?_
    refine J.region ?_
    refine JL.step (y_assign rfl) rfl rfl rfl ?_
    refine JL.nil ?_
    refine JE.then_normal ?_
    refine J.seq ?_
    refine J.seq ?_
    refine J.region ?_
    refine JL.step (y_move rfl) rfl rfl rfl (JL.step (y_sl_eq_nil hT rfl rfl rfl rfl) rfl rfl rfl ?_)
    refine JL.nil ?_
    refine JE.then_normal ?_
    refine J.cond_f rfl (by (first | rfl | assumption | (simp; done) | (simp; omega))) ?_
    refine J.skip ?_
    refine JE.then_normal ?_
    refine J.seq ?_
    refine J.region ?_
    refine JL.loud rfl (l_buildSlice0 hT rfl rfl rfl rfl (fun b1 => ?_))
    refine JL.step (y_move rfl) rfl rfl rfl ?_
    refine JL.loud rfl (l_appendIn hT rfl rfl rfl rfl rfl rfl rfl rfl Pick.head (hin.cons _) (by rw [seg_len h64]; rfl) h1 (by rw [show i27.bytes = 64 from rfl]; omega) (by omega) rfl (fun q c hc => ?_))
    refine JL.step (y_assign rfl) rfl rfl rfl ?_
    refine JL.nil ?_
    refine JE.then_normal ?_
    refine J.ret ?_
    refine JE.ret1 (.inl rfl) rfl rfl (by (first | exact RV.tmp rfl | exact RV.cell1 hT rfl rfl rfl (by (exact Rd1.row (by (repeat (first | exact Pick.head | apply Pick.tail | apply Pick.app))) (by rfl))) | exact RV.cellN hT rfl rfl rfl (by (first | exact RdN.rowAll (by (repeat (first | exact Pick.head | apply Pick.tail | apply Pick.app))) | exact RdN.own (by (repeat (first | exact Pick.head | apply Pick.tail | apply Pick.app))))) (by (first | rfl | assumption | (simp; done) | omega)))) ?_
    exact ⟨_, fun w s => by simp only [Nat.zero_add, List.nil_append] at s ⊢; exact s, q, c, by simp, rfl⟩
theorem clone2_spec (pa : Option Addr) (ca : Nat) (xs : List (Int × Blk)) (l : List HProp) (hin : InL l pa xs.length ca (xs.flatMap encW)) (h65 : ∀ b ∈ xs, (encW b).length = 65) (hn : xs.length ≤ 1000000) :
    Fc prog E 69 [.slice pa xs.length ca].toArray l (fun v l' => ∃ a c, v = .slice a xs.length c ∧ l' = own 113 65 v xs.length (xs.flatMap encW) :: l) := by
  refine Fc.post ?_
  have h1 : ∀ u ∈ xs.flatMap encW, u.oneCell' = true := by
    intro u hu
    obtain ⟨b, _, hb⟩ := List.mem_flatMap.1 hu
    exact encW_one b u hb
  cases hp : pa with
  | none =>
    subst hp
    obtain ⟨hc, hx⟩ := hin.rd.resolve_left (fun ⟨b, o, e, _⟩ => by cases e)
    have h0 : xs.length = 0 := by have := hin.le; omega
    refine Fc.of_body (c := ?c) Try.func69 ?hb Try.ntmps69 ?hl ?_
    case hb => exact rfl
    case hl => exact rfl
    refine J.seq ?_
    refine J.region ?_
    refine JL.step (y_assign rfl) rfl rfl rfl ?_
    refine JL.nil ?_
    refine JE.then_normal ?_
    refine J.seq ?_
    refine J.seq ?_
    refine J.region ?_
    refine JL.step (y_move rfl) rfl rfl rfl (JL.step (y_sl_eq_nil hT rfl rfl rfl rfl) rfl rfl rfl ?_)
    refine JL.nil ?_
    refine JE.then_normal ?_
    refine J.cond_t rfl (by (first | rfl | assumption | (simp; done) | (simp; omega))) ?_
    refine J.seq ?_
    refine J.region ?_
    refine JL.step (y_assign rfl) rfl rfl rfl ?_
    refine JL.nil ?_
    refine JE.then_normal ?_
    refine J.ret ?_
    refine JE.then_ret ?_
    refine JE.ret1 (.inl rfl) rfl rfl (by (first | exact RV.tmp rfl | exact RV.cell1 hT rfl rfl rfl (by (exact Rd1.row (by (repeat (first | exact Pick.head | apply Pick.tail | apply Pick.app))) (by rfl))) | exact RV.cellN hT rfl rfl rfl (by (first | exact RdN.rowAll (by (repeat (first | exact Pick.head | apply Pick.tail | apply Pick.app))) | exact RdN.own (by (repeat (first | exact Pick.head | apply Pick.tail | apply Pick.app))))) (by (first | rfl | assumption | (simp; done) | omega)))) ?_
    exact ⟨_, fun w q => by rw [hx, h0]; exact q.own_nil, none, 0, by rw [h0], rfl⟩
  | some a0 =>
    subst hp
    refine Fc.of_body (c := ?c) Try.func69 ?hb Try.ntmps69 ?hl ?_
    case hb => exact rfl
    case hl => exact rfl
    refine J.seq ?_
    refine J.region ?_
    refine JL.step (y_assign rfl) rfl rfl rfl ?_
    refine JL.nil ?_
    refine JE.then_normal ?_
    refine J.seq ?_
    refine J.seq ?_
    refine J.region ?_
    refine JL.step (y_move rfl) rfl rfl rfl (JL.step (y_sl_eq_nil hT rfl rfl rfl rfl) rfl rfl rfl ?_)
    refine JL.nil ?_
    refine JE.then_normal ?_
    refine J.cond_f rfl (by (first | rfl | assumption | (simp; done) | (simp; omega))) ?_
    refine J.skip ?_
    refine JE.then_normal ?_
    refine J.seq ?_
    refine J.region ?_
    refine JL.loud rfl (l_buildSlice0 hT rfl rfl rfl rfl (fun b1 => ?_))
    refine JL.step (y_move rfl) rfl rfl rfl ?_
    refine JL.loud rfl (l_appendIn hT rfl rfl rfl rfl rfl rfl rfl rfl Pick.head (hin.cons _) (by rw [seg_len h65]; rfl) h1 (by rw [show i113.bytes = 72 from rfl]; omega) (by omega) rfl (fun q c hc => ?_))
    refine JL.step (y_assign rfl) rfl rfl rfl ?_
    refine JL.nil ?_
    refine JE.then_normal ?_
    refine J.ret ?_
    refine JE.ret1 (.inl rfl) rfl rfl (by (first | exact RV.tmp rfl | exact RV.cell1 hT rfl rfl rfl (by (exact Rd1.row (by (repeat (first | exact Pick.head | apply Pick.tail | apply Pick.app))) (by rfl))) | exact RV.cellN hT rfl rfl rfl (by (first | exact RdN.rowAll (by (repeat (first | exact Pick.head | apply Pick.tail | apply Pick.app))) | exact RdN.own (by (repeat (first | exact Pick.head | apply Pick.tail | apply Pick.app))))) (by (first | rfl | assumption | (simp; done) | omega)))) ?_
    exact ⟨_, fun w s => by simp only [Nat.zero_add, List.nil_append] at s ⊢; exact s, q, c, by simp, rfl⟩
theorem copy_spec (d : Nat) (D : Dk) (r : List HProp) (hpn : D.pending.length ≤ 1000000) :
    Fc prog E 36 [Value.pointer (some ⟨d, 0, none⟩)].toArray (disk d D :: r) (fun v l' => ∃ d2, v = .pointer (some ⟨d2, 0, none⟩) ∧ l' = disk d2 D :: disk d D :: r) := by
  refine disk_okd fun hok0 => Fc.post ?_
  have hmost := hok0.most
  refine Fc.of_body (c := ?c) Try.func36 ?hb Try.ntmps36 ?hl ?_
  case hb => exact rfl
  case hl => exact rfl
  refine J.seq ?_
  refine J.region ?_
  refine JL.step (y_assign rfl) rfl rfl rfl ?_
  refine JL.nil ?_
  refine JE.then_normal ?_
  refine J.seq ?_
  refine J.seq ?_
  refine J.region ?_
  refine JL.step (y_move rfl) rfl rfl rfl (JL.step (y_ptr_eq_nil hT rfl rfl rfl rfl) rfl rfl rfl ?_)
  refine JL.nil ?_
  refine JE.then_normal ?_
  refine J.cond_f rfl (by (first | rfl | assumption | (simp; done) | (simp; omega))) ?_
  refine J.skip ?_
  refine JE.then_normal ?_
  refine J.seq ?_
  refine J.disk fun sa sc pa pc hok => ?_
  refine J.fact (fun w s => (s.pick (Pick.tail Pick.head)).own_at) fun oa1 => J.fact (fun w s => (s.pick (Pick.tail (Pick.tail Pick.head))).own_at) fun oa2 => ?_
  refine J.region ?_
  refine JL.step (y_move rfl) rfl rfl rfl ?_
  refine JL.step ((by first | exact y_nilCheck rfl | exact y_nilCheckF rfl | exact y_nilCheckY rfl)) rfl rfl rfl ?_
  refine JL.step (y_loadN hT rfl rfl rfl (by (first | exact RdN.rowAll (by (repeat (first | exact Pick.head | apply Pick.tail | apply Pick.app))) | exact RdN.own (by (repeat (first | exact Pick.head | apply Pick.tail | apply Pick.app))))) (by (first | rfl | assumption | (simp; done) | omega))) rfl rfl rfl ?_
  refine JL.loud rfl (l_alloc hT rfl rfl (by (first | rfl | simp)) rfl (fun b2 => ?_))
  refine JL.loud rfl (l_storeN hT rfl rfl rfl (by (first | rfl | assumption | (simp; done) | omega)) (by (first | assumption | exact ones_of rfl | exact encW_one _ | exact encB_one _ | (intro u hu; simp at hu; rcases hu with rfl | rfl <;> rfl) | (intro u hu; simp at hu; subst hu; rfl) | simp)) (by (repeat (first | exact Pick.head | apply Pick.tail | apply Pick.app))) (by (first | omega | exact Nat.le_of_ble_eq_true rfl | decide | (simp; omega))) ?_)
  refine JL.nil ?_
  refine JE.then_normal ?_
  refine J.seq ?_
  refine J.draw _ _ [(0, .q), (1, .q), (2, .q), (3, .q), (5, .q), (6, .q), (7, .q), (8, .q), (4, .l), (9, .l), (10, .q), (11, .l), (12, .q), (13, .l)] mixed (by kernel_rfl) (Split.cons (Pick.head) (Split.nil)) ?_
  refine JM.quiet rfl rfl rfl rfl (fun m => y_move rfl) ?_
  refine JM.quiet rfl rfl rfl rfl (fun m => (by first | exact y_nilCheck rfl | exact y_nilCheckF rfl | exact y_nilCheckY rfl)) ?_
  refine JM.quiet rfl rfl rfl rfl (fun m => y_fieldAddr hT rfl rfl rfl rfl rfl rfl) ?_
  refine JM.quiet rfl rfl rfl rfl (fun m => y_load1 hT rfl rfl rfl (by (exact Rd1.row (Pick.app m (by (repeat (first | exact Pick.head | apply Pick.tail | apply Pick.app)))) (by rfl)))) ?_
  refine JM.quiet rfl rfl rfl rfl (fun m => y_move rfl) ?_
  refine JM.quiet rfl rfl rfl rfl (fun m => (by first | exact y_nilCheck rfl | exact y_nilCheckF rfl | exact y_nilCheckY rfl)) ?_
  refine JM.quiet rfl rfl rfl rfl (fun m => y_fieldAddr hT rfl rfl rfl rfl rfl rfl) ?_
  refine JM.quiet rfl rfl rfl rfl (fun m => y_load1 hT rfl rfl rfl (by (exact Rd1.row (Pick.app m (by (repeat (first | exact Pick.head | apply Pick.tail | apply Pick.app)))) (by rfl)))) ?_
  refine JM.loud rfl rfl (fun fr => l_callF e68 rfl rfl (clone1_spec E sa sc D.safe _ (oa1.inl (Pick.app [_] (Pick.app fr (by (repeat (first | exact Pick.head | apply Pick.tail | apply Pick.app)))))) hok.segB (by omega)) ?_)
  rintro _ _ ⟨a1, c1, rfl, rfl⟩
  refine ⟨[_, _], (by (repeat (first | exact Split.nil | exact Split.all | refine Split.cons Pick.head ?_))), ?_⟩
  refine JM.loud rfl rfl (fun fr => l_callF e69 rfl rfl (clone2_spec E pa pc D.pending _ (oa2.inl (Pick.app [_, _] (Pick.app fr (by (repeat (first | exact Pick.head | apply Pick.tail | apply Pick.app)))))) hok.segW hpn) ?_)
  rintro _ _ ⟨a2, c2, rfl, rfl⟩
  refine ⟨[_, _, _], (by (repeat (first | exact Split.nil | exact Split.all | refine Split.cons Pick.head ?_))), ?_⟩
  refine JM.quiet rfl rfl rfl rfl (fun m => y_fieldAddr hT rfl rfl rfl rfl rfl rfl) ?_
  refine JM.loud rfl rfl (fun fr => l_store1 hT rfl rfl rfl rfl rfl (by (repeat (first | exact Pick.head | apply Pick.tail | apply Pick.app))) (by (first | omega | exact Nat.le_of_ble_eq_true rfl | decide | (simp; omega))) (⟨[_, _, _], (by (repeat (first | exact Split.nil | exact Split.all | refine Split.cons Pick.head ?_))), ?_⟩))
  refine JM.quiet rfl rfl rfl rfl (fun m => y_fieldAddr hT rfl rfl rfl rfl rfl rfl) ?_
  refine JM.loud rfl rfl (fun fr => l_store1 hT rfl rfl rfl rfl rfl (by (repeat (first | exact Pick.head | apply Pick.tail | apply Pick.app))) (by (first | omega | exact Nat.le_of_ble_eq_true rfl | decide | (simp; omega))) (⟨[_, _, _], (by (repeat (first | exact Split.nil | exact Split.all | refine Split.cons Pick.head ?_))), ?_⟩))
  refine JM.nil ?_
  refine JE.then_normal ?_
  refine J.seq ?_
  refine J.region ?_
  refine JL.step (y_assign rfl) rfl rfl rfl ?_
  refine JL.nil ?_
  refine JE.then_normal ?_
  refine J.ret ?_
  refine JE.ret1 (.inl rfl) rfl rfl (by (first | exact RV.tmp rfl | exact RV.cell1 hT rfl rfl rfl (by (exact Rd1.row (by (repeat (first | exact Pick.head | apply Pick.tail | apply Pick.app))) (by rfl))) | exact RV.cellN hT rfl rfl rfl (by (first | exact RdN.rowAll (by (repeat (first | exact Pick.head | apply Pick.tail | apply Pick.app))) | exact RdN.own (by (repeat (first | exact Pick.head | apply Pick.tail | apply Pick.app))))) (by (first | rfl | assumption | (simp; done) | omega)))) ?_
  refine ⟨_, fun w q => ?_, b2, rfl, rfl⟩
  have q1 : Sat E (stars (row b2 102 (dcells D a1 c1 a2 c2) :: own 27 64 (.slice a1 D.safe.length c1) D.safe.length (D.safe.flatMap encB) :: own 113 65 (.slice a2 D.pending.length c2) D.pending.length (D.pending.flatMap encW) ::
    row d 102 (dcells D sa sc pa pc) :: own 27 64 (.slice sa D.safe.length sc) D.safe.length (D.safe.flatMap encB) :: own 113 65 (.slice pa D.pending.length pc) D.pending.length (D.pending.flatMap encW) :: r)) w := q.sup (by (repeat (first | exact Sup.refl | apply Sup.cons (by (repeat (first | exact Pick.head | apply Pick.tail | apply Pick.app))) | apply Sup.app | apply Sup.skip | apply Sup.skips)))
  have q2 := (disk_shut hok q1).sup (p := row d 102 (dcells D sa sc pa pc) :: own 27 64 (.slice sa D.safe.length sc) D.safe.length (D.safe.flatMap encB) :: own 113 65 (.slice pa D.pending.length pc) D.pending.length (D.pending.flatMap encW) :: disk b2 D :: r) (by (repeat (first | exact Sup.refl | apply Sup.cons (by (repeat (first | exact Pick.head | apply Pick.tail | apply Pick.app))) | apply Sup.app | apply Sup.skip | apply Sup.skips)))
  exact (disk_shut hok q2).sup (by (repeat (first | exact Sup.refl | apply Sup.cons (by (repeat (first | exact Pick.head | apply Pick.tail | apply Pick.app))) | apply Sup.app | apply Sup.skip | apply Sup.skips)))
end Go.Proofs.Ytilifeeddpkclaa
