import Derived.Test.YtilifeeddpkclaaDisk2
namespace Go.Proofs.Ytilifeeddpkclaa
open Go Go.SL
attribute [local irreducible] J JL JE JM LS Y Fc RV Code.wp wpList Code.wpIn wpListIn
attribute [local irreducible] Yc
variable (E : World)
theorem backward_spec (v : Value) (l : List HProp) (hv : v.oneCell' = true) : Fc prog E 62 [v].toArray l
    (fun u l' => ∃ b, u = .func (.func 84) #[] [Value.pointer (some ⟨b, 0, none⟩)].toArray ∧ l' = row b 100 [v] :: l) := by
  have hvc : v.cells = [v].toArray := by cases v <;> simp_all [Value.cells, Value.oneCell']
  refine Fc.of_body (c := ?c) Try.func62 ?hb Try.ntmps62 ?hl ?_
  case hb => exact rfl
  case hl => exact rfl
  refine J.seq ?_
  refine J.region ?_
  refine JL.loud rfl (l_box rfl hvc rfl (fun b1 => ?_))
  refine JL.step (y_assign rfl) rfl rfl rfl ?_
  refine JL.nil ?_
  refine JE.then_normal ?_
  refine J.seq ?_
  refine J.region ?_
  refine JL.step (y_makeFunc rfl rfl) rfl rfl rfl (JL.step (y_assign rfl) rfl rfl rfl ?_)
  refine JL.nil ?_
  refine JE.then_normal ?_
  refine J.ret ?_
  refine JE.ret1 (.inl rfl) rfl rfl (by (first | exact RV.tmp rfl | exact RV.cell1 hT rfl rfl rfl (by (exact Rd1.row (by (repeat (first | exact Pick.head | apply Pick.tail | apply Pick.app))) (by rfl))) | exact RV.cellN hT rfl rfl rfl (by (first | exact RdN.rowAll (by (repeat (first | exact Pick.head | apply Pick.tail | apply Pick.app))) | exact RdN.own (by (repeat (first | exact Pick.head | apply Pick.tail | apply Pick.app))))) (by (first | rfl | assumption | (simp; done) | omega)))) ?_
  exact ⟨b1, rfl, rfl⟩
/-- What a round finds and leaves. -/
theorem backward1_spec (k b : Nat) (pa : Option Addr) (pc : Nat) (xs : List (Int × Blk)) (hxs : ∀ x ∈ xs, (encW x).length = 65) (hn : xs.length ≤ 1000000) (St Fin : Nat → List HProp)
    (hrd : ∀ j, j < xs.length → ∃ g o, pa = some ⟨g, o, none⟩ ∧ ∀ m, RdN (m ++ St j) g o (xs.flatMap encW))
    (hy : ∀ j x, j < xs.length → xs[xs.length - 1 - j]? = some x → Yc prog E k [Value.int .i64 ((xs.length : Int) - 1 - j), .agg (encW x).toArray].toArray (row b 100 [.slice pa xs.length pc] :: St j)
      (fun v l' => (v = .bool true ∧ l' = row b 100 [.slice pa xs.length pc] :: St (j + 1)) ∨ (v = .bool false ∧ l' = row b 100 [.slice pa xs.length pc] :: Fin j))) :
    Fc prog E 84 [.func (.yield k) #[] #[], Value.pointer (some ⟨b, 0, none⟩)].toArray (row b 100 [.slice pa xs.length pc] :: St 0)
      (fun _ l' => l' = row b 100 [.slice pa xs.length pc] :: St xs.length ∨ ∃ j, j < xs.length ∧ l' = row b 100 [.slice pa xs.length pc] :: Fin j) := by
  refine Fc.of_body (c := ?c) Try.func84 ?hb Try.ntmps84 ?hl ?_
  case hb => exact rfl
  case hl => exact rfl
  refine J.seq ?_
  refine J.region ?_
  refine JL.step (y_load1 hT rfl rfl rfl (by (exact Rd1.row (by (repeat (first | exact Pick.head | apply Pick.tail | apply Pick.app))) (by rfl)))) rfl rfl rfl ?_
  refine JL.step (y_len_slice hT rfl rfl rfl) rfl rfl rfl ?_
  refine JL.step (y_sub rfl rfl (by (first | exact wrap_i64 (by omega) (by omega) | rfl))) rfl rfl rfl ?_
  refine JL.step (y_assign rfl) rfl rfl rfl ?_
  refine JL.nil ?_
  refine JE.then_normal ?_
  refine J.block ?_
  refine J.loop (α := Nat) (fun j => j ≤ xs.length) (fun j => [(0, .func (.yield k) #[] #[]), (1, .pointer (some ⟨b, 0, none⟩)), (3, .int .i64 ((xs.length : Int) - 1 - j))]) (fun j => row b 100 [.slice pa xs.length pc] :: St j) (fun j => xs.length - j) 0 (by omega) ⟨rfl, rfl, (congrArg (fun z => some (Value.int .i64 z)) (by omega)), trivial⟩ (fun w h => h) ?_
  intro j hj
  refine J.seq ?_
  refine J.seq ?_
  refine J.region ?_
  refine JL.step (y_move rfl) rfl rfl rfl (JL.step (y_geq rfl rfl) rfl rfl rfl ?_)
  refine JL.nil ?_
  refine JE.then_normal ?_
  first | apply J.cond_dec rfl | apply J.cond rfl
  case' ht =>
    intro h
    try (first | (exfalso; omega) | (cases h; done) | (exfalso; simp at h; done) | subst h)
    all_goals
      refine J.skip ?_
  case' hf =>
    intro h
    try (first | (exfalso; omega) | (cases h; done) | (exfalso; simp at h; done) | subst h)
    all_goals
      refine J.exit ?_
      refine JE.then_exit ?_
      refine JE.then_exit ?_
      refine JE.block_exit ?_
      refine JE.ret0 (.inr rfl) rfl rfl  ?_
      first
      | exact .inr ⟨j, hlt, rfl⟩
      | (obtain rfl : j = xs.length := by omega
         exact .inl rfl)
  all_goals refine JE.then_normal ?_
  all_goals
    refine J.seq ?_
    refine J.block ?_
    refine J.seq ?_
    refine J.region ?_
    refine JL.step (y_move rfl) rfl rfl rfl (JL.step (y_move rfl) rfl rfl rfl ?_)
    refine JL.step (y_load1 hT rfl rfl rfl (by (exact Rd1.row (by (repeat (first | exact Pick.head | apply Pick.tail | apply Pick.app))) (by rfl)))) rfl rfl rfl ?_
    refine JL.step (y_move rfl) rfl rfl rfl ?_
    have hlt : j < xs.length := by omega
    obtain ⟨g, o, rfl, hr⟩ := hrd j hlt
    obtain ⟨x, hx⟩ : ∃ x, xs[xs.length - 1 - j]? = some x := ⟨_, List.getElem?_eq_getElem (by omega)⟩
    have hxl := hxs x (List.mem_of_getElem? hx)
    refine JL.step (y_indexAddr_slice hT rfl rfl rfl rfl rfl (by (first | omega | exact Nat.le_of_ble_eq_true rfl | decide | (simp; omega))) (by (first | omega | exact Nat.le_of_ble_eq_true rfl | decide | (simp; omega)))) rfl rfl rfl ?_
    refine JL.step (y_loadN hT rfl rfl rfl (vs := encW x) (by
      have h1 := (hr [row b 100 [.slice (some ⟨g, o, none⟩) xs.length pc]]).elem hxs hx
      have e1 : ((xs.length : Int) - 1 - (j : Int)).toNat = xs.length - 1 - j := by omega
      rw [e1]; exact h1) hxl) rfl rfl rfl ?_
    refine JL.yield rfl rfl rfl (hy j x hlt hx) ?_
    rintro _ _ (⟨rfl, rfl⟩ | ⟨rfl, rfl⟩)
    all_goals (refine JL.step (y_not rfl) rfl rfl rfl ?_)
    all_goals refine JL.nil ?_
    all_goals refine JE.then_normal ?_
    all_goals
      first | apply J.cond_dec rfl | apply J.cond rfl
      case' ht =>
        intro h
        try (first | (exfalso; omega) | (cases h; done) | (exfalso; simp at h; done) | subst h)
        all_goals
          refine J.ret ?_
          refine JE.block_ret ?_
          refine JE.then_ret ?_
          refine JE.then_ret ?_
          refine JE.block_ret ?_
          refine JE.ret0 (.inl rfl) rfl rfl  ?_
          first
          | exact .inr ⟨j, hlt, rfl⟩
          | (obtain rfl : j = xs.length := by omega
             exact .inl rfl)
      case' hf =>
        intro h
        try (first | (exfalso; omega) | (cases h; done) | (exfalso; simp at h; done) | subst h)
        all_goals
          refine J.skip ?_
    all_goals refine JE.block_normal ?_
    all_goals refine JE.then_normal ?_
    all_goals
      refine J.region ?_
      refine JL.step (y_move rfl) rfl rfl rfl ?_
      refine JL.step (y_sub rfl rfl (by (first | exact wrap_i64 (by omega) (by omega) | rfl))) rfl rfl rfl ?_
      refine JL.step (y_assign rfl) rfl rfl rfl ?_
      refine JL.nil ?_
  all_goals
    refine JE.round (s := j) (j + 1) (by omega) ⟨rfl, rfl, (congrArg (fun z => some (Value.int .i64 z)) (by omega)), trivial⟩ (fun w h => h) (by omega)
def zeroB : Blk := List.replicate 64 0
theorem encB_zero : encB zeroB = List.replicate 64 (Value.int .u8 0) := by simp [encB, ints, zeroB]
/-- What a sector holds. -/
def Dk.find (D : Dk) (i : Int) : Blk := match D.pending.reverse.find? (fun p => p.1 = i) with
  | some p => p.2
  | none => D.safe.getD i.toNat []
def Dk.read (D : Dk) (i : Int) : Blk := if D.ready i = 0 then D.find i else zeroB
/-- The last j pending writes are of other sectors. -/
def Other (D : Dk) (i : Int) (j : Nat) : Prop := ∀ q, D.pending.length - j ≤ q → ∀ p, D.pending[q]? = some p → p.1 ≠ i
theorem find_none {D : Dk} {i : Int} (h : Other D i D.pending.length) : D.find i = D.safe.getD i.toNat [] := by
  have e : D.pending.reverse.find? (fun p => p.1 = i) = none := by
    rw [List.find?_eq_none]
    intro p hp
    obtain ⟨q, hq⟩ := List.mem_iff_getElem?.1 (List.mem_reverse.1 hp)
    simpa using h q (by omega) p hq
  simp [Dk.find, e]
theorem find_some {D : Dk} {i : Int} {j : Nat} {x : Int × Blk} (hj : j < D.pending.length) (h : Other D i j) (hx : D.pending[D.pending.length - 1 - j]? = some x) (hi : x.1 = i) : D.find i = x.2 := by
  have e : D.pending.reverse.find? (fun p => p.1 = i) = some x := by
    rw [List.find?_eq_some_iff_getElem]
    have hl : D.pending.length - 1 - j < D.pending.length := by omega
    rw [List.getElem?_eq_getElem hl] at hx
    refine ⟨by simpa using hi, j, by simpa using hj, ?_, fun q hq => ?_⟩
    · rw [List.getElem_reverse]; exact Option.some.inj hx
    · rw [List.getElem_reverse]
      simpa using h (D.pending.length - 1 - q) (by omega) _ (List.getElem?_eq_getElem (by omega))
  simp [Dk.find, e]
theorem Other.next {D : Dk} {i : Int} {j : Nat} {x : Int × Blk} (h : Other D i j) (hx : D.pending[D.pending.length - 1 - j]? = some x) (hi : ¬ x.1 = i) : Other D i (j + 1) := by
  intro q hq p hp
  by_cases hqe : q = D.pending.length - 1 - j
  · subst hqe; rw [hx] at hp; cases hp; exact hi
  · exact h q (by omega) p hp
theorem Dk.Ok.find {D : Dk} (h : D.Ok) {i : Int} (hi : 0 ≤ i ∧ i < D.safe.length) : (D.find i).length = 64 := by
  unfold Dk.find
  split
  · rename_i p hp
    have := List.mem_of_find?_eq_some hp
    exact (h.pend p (List.mem_reverse.1 this)).1
  · rw [List.getD_eq_getElem?_getD, List.getElem?_eq_getElem (by omega)]
    exact h.safe _ (List.getElem_mem _)
theorem read_bad (d : Nat) (D : Dk) (i : Int) (r : List HProp) (hr : ¬ D.ready i = 0) :
    Fc prog E 27 [Value.pointer (some ⟨d, 0, none⟩), .int .i64 i].toArray (disk d D :: r) (fun v l' => v = .tuple #[.agg (encB zeroB).toArray, .int .i64 (D.ready i)] ∧ l' = disk d D :: r) := by
  refine Fc.eqs ?_
  rw [encB_zero]
  have hr' : decide (¬ D.ready i = 0) = true := by simp [hr]
  refine Fc.of_bodyM (c := ?c) Try.func27 ?hb Try.ntmps27 ?hl ?_
  case hb => exact rfl
  case hl => exact rfl
  refine J.seq ?_
  refine J.region ?_
  refine JL.loud rfl (l_box rfl (by (first | rfl | simp)) rfl (fun b1 => ?_))
  refine JL.loud rfl (l_alloc hT rfl rfl (by (first | rfl | simp)) rfl (fun b2 => ?_))
  refine JL.loud rfl (l_alloc hT rfl rfl (by (first | rfl | simp)) rfl (fun b3 => ?_))
  refine JL.nil ?_
  refine JE.then_normal ?_
  refine J.seq ?_
  refine J.seq ?_
  refine J.region ?_
  refine JL.step (y_move rfl) rfl rfl rfl ?_
  refine JL.step (y_load1 hT rfl rfl rfl (by (exact Rd1.row (by (repeat (first | exact Pick.head | apply Pick.tail | apply Pick.app))) (by rfl)))) rfl rfl rfl ?_
  refine JL.loud rfl (l_callF e61 rfl rfl ((ready_spec E d D i _).split (Split.cons (by (repeat (first | exact Pick.head | apply Pick.tail | apply Pick.app))) Split.nil)) ?_)
  rintro _ _ ⟨rfl, rfl⟩
  refine JL.step (y_assign rfl) rfl rfl rfl ?_
  refine JL.nil ?_
  refine JE.then_normal ?_
  refine J.seq ?_
  refine J.region ?_
  refine JL.step (y_move rfl) rfl rfl rfl (JL.step (y_neq rfl rfl) rfl rfl rfl ?_)
  refine JL.nil ?_
  refine JE.then_normal ?_
  refine J.cond_t rfl (by (first | rfl | assumption | (simp; done) | (simp; omega))) ?_
  refine J.seq ?_
  refine J.region ?_
  refine JL.step (y_build_arr0 hT rfl rfl rfl rfl) rfl rfl rfl (JL.step (y_move rfl) rfl rfl rfl ?_)
  refine JL.loud rfl (l_storeAll hT rfl rfl rfl (by (first | rfl | assumption | (simp; done) | omega)) (by (first | assumption | exact ones_of rfl | exact encW_one _ | exact encB_one _ | (intro u hu; simp at hu; rcases hu with rfl | rfl <;> rfl) | (intro u hu; simp at hu; subst hu; rfl) | simp)) (by (repeat (first | exact Pick.head | apply Pick.tail | apply Pick.app))) (by (first | rfl | assumption | (simp; done) | omega)) ?_)
  refine JL.loud rfl (l_store1 hT rfl rfl rfl rfl rfl (by (repeat (first | exact Pick.head | apply Pick.tail | apply Pick.app))) (by (first | omega | exact Nat.le_of_ble_eq_true rfl | decide | (simp; omega))) ?_)
  refine JL.nil ?_
  refine JE.then_normal ?_
  refine J.ret ?_
  refine JE.then_ret ?_
  first | refine JE.unmark (.inl rfl) rfl (by (repeat (first | exact Pick.head | apply Pick.tail | apply Pick.app))) ?_ | refine JE.nomark (.inl rfl) rfl ?_
  refine JE.ret2 (.inl rfl) rfl rfl (by (first | exact RV.tmp rfl | exact RV.cell1 hT rfl rfl rfl (by (exact Rd1.row (by (repeat (first | exact Pick.head | apply Pick.tail | apply Pick.app))) (by rfl))) | exact RV.cellN hT rfl rfl rfl (by (first | exact RdN.rowAll (by (repeat (first | exact Pick.head | apply Pick.tail | apply Pick.app))) | exact RdN.own (by (repeat (first | exact Pick.head | apply Pick.tail | apply Pick.app))))) (by (first | rfl | assumption | (simp; done) | omega)))) (by (first | exact RV.tmp rfl | exact RV.cell1 hT rfl rfl rfl (by (exact Rd1.row (by (repeat (first | exact Pick.head | apply Pick.tail | apply Pick.app))) (by rfl))) | exact RV.cellN hT rfl rfl rfl (by (first | exact RdN.rowAll (by (repeat (first | exact Pick.head | apply Pick.tail | apply Pick.app))) | exact RdN.own (by (repeat (first | exact Pick.head | apply Pick.tail | apply Pick.app))))) (by (first | rfl | assumption | (simp; done) | omega)))) ?_
  refine ⟨rfl, fun w q => ?_⟩
  exact (q.drop.drop.pick (Pick.tail Pick.head)).drop
/-- The list of Read's loop, and how it is left. -/
def readS (D : Dk) (i : Int) (K : LoopState → Option Code → HProp) (DD d b1 b2 b3 : Nat) (sa : Option Addr) (sc : Nat) (pa : Option Addr) (pc : Nat) (r : List HProp) (j : Nat) : List HProp :=
  pur (Other D i j) :: K .ready none :: blk DD (.deferred (some [])) :: own 113 65 (.slice pa D.pending.length pc) D.pending.length (D.pending.flatMap encW) :: own 27 64 (.slice sa D.safe.length sc) D.safe.length (D.safe.flatMap encB) :: row d 102 (dcells D sa sc pa pc) :: row b3 38 [.int .i64 0] :: row b2 27 (List.replicate 64 (.int .u8 0)) :: row b1 3 [.int .i64 i] :: r
def readF (D : Dk) (i : Int) (K : LoopState → Option Code → HProp) (DD d b1 b2 b3 : Nat) (sa : Option Addr) (sc : Nat) (pa : Option Addr) (pc : Nat) (r : List HProp) (_ : Nat) : List HProp :=
  K .done (some .ret) :: blk DD (.deferred (some [])) :: own 113 65 (.slice pa D.pending.length pc) D.pending.length (D.pending.flatMap encW) :: own 27 64 (.slice sa D.safe.length sc) D.safe.length (D.safe.flatMap encB) :: row d 102 (dcells D sa sc pa pc) :: row b3 38 [.int .i64 0] :: row b2 27 (encB (D.find i)) :: row b1 3 [.int .i64 i] :: r
theorem read_good (d : Nat) (D : Dk) (i : Int) (r : List HProp) (hr : D.ready i = 0) (hpn : D.pending.length ≤ 1000000) :
    Fc prog E 27 [Value.pointer (some ⟨d, 0, none⟩), .int .i64 i].toArray (disk d D :: r) (fun v l' => v = .tuple #[.agg (encB (D.find i)).toArray, .int .i64 0] ∧ l' = disk d D :: r) := by
  refine disk_okd fun hok0 => Fc.eqs ?_
  have hz := ready_zero hr
  have hr' : decide (¬ D.ready i = 0) = false := by simp [hr]
  refine Fc.of_bodyM (c := ?c) Try.func27 ?hb Try.ntmps27 ?hl ?_
  case hb => exact rfl
  case hl => exact rfl
  refine J.seq ?_
  refine J.region ?_
  refine JL.loud rfl (l_box rfl (by (first | rfl | simp)) rfl (fun b1 => ?_))
  refine JL.loud rfl (l_alloc hT rfl rfl (by (first | rfl | simp)) rfl (fun b2 => ?_))
  refine JL.loud rfl (l_alloc hT rfl rfl (by (first | rfl | simp)) rfl (fun b3 => ?_))
  refine JL.nil ?_
  refine JE.then_normal ?_
  refine J.seq ?_
  refine J.seq ?_
  refine J.region ?_
  refine JL.step (y_move rfl) rfl rfl rfl ?_
  refine JL.step (y_load1 hT rfl rfl rfl (by (exact Rd1.row (by (repeat (first | exact Pick.head | apply Pick.tail | apply Pick.app))) (by rfl)))) rfl rfl rfl ?_
  refine JL.loud rfl (l_callF e61 rfl rfl ((ready_spec E d D i _).split (Split.cons (by (repeat (first | exact Pick.head | apply Pick.tail | apply Pick.app))) Split.nil)) ?_)
  rintro _ _ ⟨rfl, rfl⟩
  refine JL.step (y_assign rfl) rfl rfl rfl ?_
  refine JL.nil ?_
  refine JE.then_normal ?_
  refine J.seq ?_
  refine J.region ?_
  refine JL.step (y_move rfl) rfl rfl rfl (JL.step (y_neq rfl rfl) rfl rfl rfl ?_)
  refine JL.nil ?_
  refine JE.then_normal ?_
  refine J.cond_f rfl (by (first | rfl | assumption | (simp; done) | (simp; omega))) ?_
  refine J.skip ?_
  refine JE.then_normal ?_
  refine J.seq ?_
  refine J.seq ?_
  refine J.disk fun sa sc pa pc hok => ?_
  refine J.picks (Pick.tail Pick.head) (J.own_addr fun gs hgs hsc => ?_)
  obtain rfl := hgs hok.some
  refine J.picks (Pick.tail (Pick.tail Pick.head)) (J.own_addr fun gp hgp hpc => ?_)
  refine J.region ?_
  refine JL.step (y_move rfl) rfl rfl rfl ?_
  refine JL.step ((by first | exact y_nilCheck rfl | exact y_nilCheckF rfl | exact y_nilCheckY rfl)) rfl rfl rfl ?_
  refine JL.step (y_fieldAddr hT rfl rfl rfl rfl rfl rfl) rfl rfl rfl ?_
  refine JL.step (y_load1 hT rfl rfl rfl (by (exact Rd1.row (by (repeat (first | exact Pick.head | apply Pick.tail | apply Pick.app))) (by rfl)))) rfl rfl rfl ?_
  refine JL.loud rfl (l_callF e62 rfl rfl (backward_spec E _ _ rfl) ?_)
  rintro _ _ ⟨bb, rfl, rfl⟩
  refine JL.nil ?_
  refine JE.then_normal ?_
  refine J.block ?_
  refine J.rangeFunc e84 rfl fun fn a0 k DD K hK hf0 => ?_
  refine Fc.mono (Fc.imp (backward1_spec E k bb pa pc D.pending hok.segW hpn (readS D i K DD d b1 b2 b3 (some ⟨gs, 0, none⟩) sc pa pc r) (readF D i K DD d b1 b2 b3 (some ⟨gs, 0, none⟩) sc pa pc r) (fun j hj => ?hrd) (fun j x hj hx => ?hy)) ?hi) ?hm
  case hrd => exact ⟨gp, 0, hgp (by omega), fun m => by unfold readS; rw [hgp (by omega)]; exact RdN.own (Pick.app m (by (repeat (first | exact Pick.head | apply Pick.tail | apply Pick.app))))⟩
  case hi =>
    intro w s
    have s2 := s.divide (p := [row bb 100 [.slice pa D.pending.length pc], K .ready none]) (Split.cons (by (repeat (first | exact Pick.head | apply Pick.tail | apply Pick.app))) (Split.cons (by (repeat (first | exact Pick.head | apply Pick.tail | apply Pick.app))) Split.nil))
    exact ((s2.topur (p := Other D i 0) (fun q hq p hp => by simp [List.getElem?_eq_none (by omega : D.pending.length ≤ q)] at hp)).pick (Pick.tail Pick.head))
  case hy =>
    unfold readS
    refine Yc.split (Yc.purs fun hO => ?_) (Split.cons (Pick.tail Pick.head) (Split.cons (Pick.tail Pick.head) Split.nil))
    refine Yc.post ?_
    have hxl := hok.segW x (List.mem_of_getElem? hx)
    refine Yc.of_body hK hf0 rfl (by decide) ?_
    refine J.region ?_
    refine JL.loud rfl (l_alloc hT rfl rfl (by (first | rfl | simp)) rfl (fun b6 => ?_))
    refine JL.loud rfl (l_storeAll hT rfl rfl rfl (by (first | rfl | assumption | (simp; done) | omega)) (by (first | assumption | exact ones_of rfl | exact encW_one _ | exact encB_one _ | (intro u hu; simp at hu; rcases hu with rfl | rfl <;> rfl) | (intro u hu; simp at hu; subst hu; rfl) | simp)) (by (repeat (first | exact Pick.head | apply Pick.tail | apply Pick.app))) (by (first | rfl | assumption | (simp; done) | omega)) ?_)
    refine JL.nil ?_
    refine JE.assigned (by (repeat (first | exact Pick.head | apply Pick.tail | apply Pick.app))) ?_
    refine J.block ?_
    refine J.seq ?_
    refine J.region ?_
    refine JL.step (y_fieldAddr hT rfl rfl rfl rfl rfl rfl) rfl rfl rfl ?_
    refine JL.step (y_load1 hT rfl rfl rfl (by (exact Rd1.row (by (repeat (first | exact Pick.head | apply Pick.tail | apply Pick.app))) (by rfl)))) rfl rfl rfl ?_
    refine JL.step (y_load1 hT rfl rfl rfl (by (exact Rd1.row (by (repeat (first | exact Pick.head | apply Pick.tail | apply Pick.app))) (by rfl)))) rfl rfl rfl ?_
    refine JL.step (y_eql rfl rfl) rfl rfl rfl ?_
    refine JL.nil ?_
    refine JE.then_normal ?_
    first | apply J.cond_dec rfl | apply J.cond rfl
    case' ht =>
      intro h
      try (first | (exfalso; omega) | (cases h; done) | (exfalso; simp at h; done) | subst h)
      all_goals
        refine J.seq ?_
        refine J.region ?_
        refine JL.step (y_fieldAddr hT rfl rfl rfl rfl rfl rfl) rfl rfl rfl ?_
        refine JL.step (y_loadN hT rfl rfl rfl (RdN.row (n := 64) (vs := encB x.2) (by (repeat (first | exact Pick.head | apply Pick.tail | apply Pick.app))) (by simp [encW, List.take_of_length_le, (hok.pend x (List.mem_of_getElem? hx)).1])) ((encB_length _).trans (hok.pend x (List.mem_of_getElem? hx)).1)) rfl rfl rfl ?_
        have hxb : (encB x.2).length = 64 := (encB_length _).trans (hok.pend x (List.mem_of_getElem? hx)).1
        refine JL.loud rfl (l_storeAll hT rfl rfl rfl (by (first | rfl | assumption | (simp; done) | omega)) (by (first | assumption | exact ones_of rfl | exact encW_one _ | exact encB_one _ | (intro u hu; simp at hu; rcases hu with rfl | rfl <;> rfl) | (intro u hu; simp at hu; subst hu; rfl) | simp)) (by (repeat (first | exact Pick.head | apply Pick.tail | apply Pick.app))) (by (first | rfl | assumption | (simp; done) | omega)) ?_)
        refine JL.loud rfl (l_store1 hT rfl rfl rfl rfl rfl (by (repeat (first | exact Pick.head | apply Pick.tail | apply Pick.app))) (by (first | omega | exact Nat.le_of_ble_eq_true rfl | decide | (simp; omega))) ?_)
        refine JL.nil ?_
        refine JE.then_normal ?_
        refine J.ret ?_
        refine JE.block_ret ?_
        refine JE.round_ret hK (by (repeat (first | exact Pick.head | apply Pick.tail | apply Pick.app))) ?_
        refine ⟨_, fun w q => ?_, .inr ⟨rfl, rfl⟩⟩
        have hfind := find_some hj hO hx rfl
        unfold readF
        rw [hfind]
        exact q.sup (by (repeat (first | exact Sup.refl | apply Sup.cons (by (repeat (first | exact Pick.head | apply Pick.tail | apply Pick.app))) | apply Sup.app | apply Sup.skip | apply Sup.skips)))
    case' hf =>
      intro h
      try (first | (exfalso; omega) | (cases h; done) | (exfalso; simp at h; done) | subst h)
      all_goals
        refine J.skip ?_
    all_goals refine JE.block_normal ?_
    all_goals
      refine JE.round_on hK (by (repeat (first | exact Pick.head | apply Pick.tail | apply Pick.app))) ?_
      refine ⟨_, fun w q => ?_, .inl ⟨rfl, rfl⟩⟩
      exact (q.topur (hO.next hx h)).sup (by (repeat (first | exact Sup.refl | apply Sup.cons (by (repeat (first | exact Pick.head | apply Pick.tail | apply Pick.app))) | apply Sup.app | apply Sup.skip | apply Sup.skips)))
  case hm =>
    rintro _ _ (rfl | ⟨j, hj, rfl⟩)
    · refine ⟨.ready, none, _, Pick.tail (Pick.tail Pick.head), by simp, ?_⟩
      dsimp only
      refine JE.picks (Pick.tail Pick.head) (JE.purs fun hO => ?_)
      have hfind := find_none hO
      obtain ⟨x, hsi⟩ : ∃ x, D.safe[i.toNat]? = some x := ⟨_, List.getElem?_eq_getElem (by omega)⟩
      have hfx : D.find i = x := by rw [hfind]; simp [List.getD_eq_getElem?_getD, hsi]
      have hBl : (encB x).length = 64 := by rw [encB_length]; exact hok.safe _ (List.mem_of_getElem? hsi)
      rw [hfx]
      refine JE.block_normal ?_
      refine JE.then_normal ?_
      refine J.seq ?_
      refine J.draw _ _ [(0, .q), (1, .q), (2, .q), (3, .q), (4, .q), (5, .q), (6, .q), (7, .l), (8, .l)] mixed (by kernel_rfl) (Split.cons (Pick.tail (Pick.tail (Pick.tail (Pick.tail (Pick.tail (Pick.tail Pick.head)))))) (Split.cons (Pick.tail (Pick.tail (Pick.tail (Pick.tail (Pick.tail Pick.head))))) (Split.nil))) ?_
      refine JM.quiet rfl rfl rfl rfl (fun m => y_move rfl) ?_
      refine JM.quiet rfl rfl rfl rfl (fun m => (by first | exact y_nilCheck rfl | exact y_nilCheckF rfl | exact y_nilCheckY rfl)) ?_
      refine JM.quiet rfl rfl rfl rfl (fun m => y_fieldAddr hT rfl rfl rfl rfl rfl rfl) ?_
      refine JM.quiet rfl rfl rfl rfl (fun m => y_load1 hT rfl rfl rfl (by (exact Rd1.row (Pick.app m (by (repeat (first | exact Pick.head | apply Pick.tail | apply Pick.app)))) (by rfl)))) ?_
      refine JM.quiet rfl rfl rfl rfl (fun m => y_load1 hT rfl rfl rfl (by (exact Rd1.row (Pick.app m (by (repeat (first | exact Pick.head | apply Pick.tail | apply Pick.app)))) (by rfl)))) ?_
      refine JM.quiet rfl rfl rfl rfl (fun m => y_indexAddr_slice hT rfl rfl rfl rfl rfl (by (first | omega | exact Nat.le_of_ble_eq_true rfl | decide | (simp; omega))) (by (first | omega | exact Nat.le_of_ble_eq_true rfl | decide | (simp; omega)))) ?_
      refine JM.quiet rfl rfl rfl rfl (fun m => y_loadN hT rfl rfl rfl ((RdN.own (Pick.app m (by (repeat (first | exact Pick.head | apply Pick.tail | apply Pick.app))))).elem hok.segB hsi) hBl) ?_
      refine JM.loud rfl rfl (fun fr => l_storeAll hT rfl rfl rfl (by (first | rfl | assumption | (simp; done) | omega)) (by (first | assumption | exact ones_of rfl | exact encW_one _ | exact encB_one _ | (intro u hu; simp at hu; rcases hu with rfl | rfl <;> rfl) | (intro u hu; simp at hu; subst hu; rfl) | simp)) (by (repeat (first | exact Pick.head | apply Pick.tail | apply Pick.app))) (by (first | rfl | assumption | (simp; done) | omega)) (⟨[_, _], (by (repeat (first | exact Split.nil | exact Split.all | refine Split.cons Pick.head ?_))), ?_⟩))
      refine JM.loud rfl rfl (fun fr => l_store1 hT rfl rfl rfl rfl rfl (by (repeat (first | exact Pick.head | apply Pick.tail | apply Pick.app))) (by (first | omega | exact Nat.le_of_ble_eq_true rfl | decide | (simp; omega))) (⟨[_, _], (by (repeat (first | exact Split.nil | exact Split.all | refine Split.cons Pick.head ?_))), ?_⟩))
      refine JM.nil ?_
      refine JE.then_normal ?_
      refine J.ret ?_
      first | refine JE.unmark (.inl rfl) rfl (by (repeat (first | exact Pick.head | apply Pick.tail | apply Pick.app))) ?_ | refine JE.nomark (.inl rfl) rfl ?_
      refine JE.ret2 (.inl rfl) rfl rfl (by (first | exact RV.tmp rfl | exact RV.cell1 hT rfl rfl rfl (by (exact Rd1.row (by (repeat (first | exact Pick.head | apply Pick.tail | apply Pick.app))) (by rfl))) | exact RV.cellN hT rfl rfl rfl (by (first | exact RdN.rowAll (by (repeat (first | exact Pick.head | apply Pick.tail | apply Pick.app))) | exact RdN.own (by (repeat (first | exact Pick.head | apply Pick.tail | apply Pick.app))))) (by (first | rfl | assumption | (simp; done) | omega)))) (by (first | exact RV.tmp rfl | exact RV.cell1 hT rfl rfl rfl (by (exact Rd1.row (by (repeat (first | exact Pick.head | apply Pick.tail | apply Pick.app))) (by rfl))) | exact RV.cellN hT rfl rfl rfl (by (first | exact RdN.rowAll (by (repeat (first | exact Pick.head | apply Pick.tail | apply Pick.app))) | exact RdN.own (by (repeat (first | exact Pick.head | apply Pick.tail | apply Pick.app))))) (by (first | rfl | assumption | (simp; done) | omega)))) ?_
      exact ⟨rfl, fun w q => disk_shut hok (q.sup (by (repeat (first | exact Sup.refl | apply Sup.cons (by (repeat (first | exact Pick.head | apply Pick.tail | apply Pick.app))) | apply Sup.app | apply Sup.skip | apply Sup.skips))))⟩
    · refine ⟨.done, some .ret, _, Pick.tail Pick.head, by simp, ?_⟩
      have hBl : (encB (D.find i)).length = 64 := by rw [encB_length]; exact hok.find hz.2
      dsimp only
      refine J.ret ?_
      refine JE.block_ret ?_
      refine JE.then_ret ?_
      first | refine JE.unmark (.inl rfl) rfl (by (repeat (first | exact Pick.head | apply Pick.tail | apply Pick.app))) ?_ | refine JE.nomark (.inl rfl) rfl ?_
      refine JE.ret2 (.inl rfl) rfl rfl (by (first | exact RV.tmp rfl | exact RV.cell1 hT rfl rfl rfl (by (exact Rd1.row (by (repeat (first | exact Pick.head | apply Pick.tail | apply Pick.app))) (by rfl))) | exact RV.cellN hT rfl rfl rfl (by (first | exact RdN.rowAll (by (repeat (first | exact Pick.head | apply Pick.tail | apply Pick.app))) | exact RdN.own (by (repeat (first | exact Pick.head | apply Pick.tail | apply Pick.app))))) (by (first | rfl | assumption | (simp; done) | omega)))) (by (first | exact RV.tmp rfl | exact RV.cell1 hT rfl rfl rfl (by (exact Rd1.row (by (repeat (first | exact Pick.head | apply Pick.tail | apply Pick.app))) (by rfl))) | exact RV.cellN hT rfl rfl rfl (by (first | exact RdN.rowAll (by (repeat (first | exact Pick.head | apply Pick.tail | apply Pick.app))) | exact RdN.own (by (repeat (first | exact Pick.head | apply Pick.tail | apply Pick.app))))) (by (first | rfl | assumption | (simp; done) | omega)))) ?_
      exact ⟨rfl, fun w q => disk_shut hok (q.sup (by (repeat (first | exact Sup.refl | apply Sup.cons (by (repeat (first | exact Pick.head | apply Pick.tail | apply Pick.app))) | apply Sup.app | apply Sup.skip | apply Sup.skips))))⟩
  all_goals refine JE.block_normal ?_
  all_goals refine JE.then_normal ?_
  all_goals
    refine J.seq ?_
    refine J.draw _ _ [(0, .q), (1, .q), (2, .q), (3, .q), (4, .q), (5, .q), (6, .q), (7, .l), (8, .l)] mixed (by kernel_rfl) (Split.cons (Pick.tail (Pick.tail (Pick.tail (Pick.tail (Pick.tail (Pick.tail Pick.head)))))) (Split.cons (Pick.tail (Pick.tail (Pick.tail (Pick.tail (Pick.tail Pick.head))))) (Split.nil))) ?_
    refine JM.quiet rfl rfl rfl rfl (fun m => y_move rfl) ?_
    refine JM.quiet rfl rfl rfl rfl (fun m => (by first | exact y_nilCheck rfl | exact y_nilCheckF rfl | exact y_nilCheckY rfl)) ?_
    refine JM.quiet rfl rfl rfl rfl (fun m => y_fieldAddr hT rfl rfl rfl rfl rfl rfl) ?_
    refine JM.quiet rfl rfl rfl rfl (fun m => y_load1 hT rfl rfl rfl (by (exact Rd1.row (Pick.app m (by (repeat (first | exact Pick.head | apply Pick.tail | apply Pick.app)))) (by rfl)))) ?_
    refine JM.quiet rfl rfl rfl rfl (fun m => y_load1 hT rfl rfl rfl (by (exact Rd1.row (Pick.app m (by (repeat (first | exact Pick.head | apply Pick.tail | apply Pick.app)))) (by rfl)))) ?_
    refine JM.quiet rfl rfl rfl rfl (fun m => y_indexAddr_slice hT rfl rfl rfl rfl rfl (by (first | omega | exact Nat.le_of_ble_eq_true rfl | decide | (simp; omega))) (by (first | omega | exact Nat.le_of_ble_eq_true rfl | decide | (simp; omega)))) ?_
    refine JM.quiet rfl rfl rfl rfl (fun m => y_loadN hT rfl rfl rfl ((RdN.own (Pick.app m (by (repeat (first | exact Pick.head | apply Pick.tail | apply Pick.app))))).elem hok.segB hsi) hBl) ?_
    refine JM.loud rfl rfl (fun fr => l_storeAll hT rfl rfl rfl (by (first | rfl | assumption | (simp; done) | omega)) (by (first | assumption | exact ones_of rfl | exact encW_one _ | exact encB_one _ | (intro u hu; simp at hu; rcases hu with rfl | rfl <;> rfl) | (intro u hu; simp at hu; subst hu; rfl) | simp)) (by (repeat (first | exact Pick.head | apply Pick.tail | apply Pick.app))) (by (first | rfl | assumption | (simp; done) | omega)) (⟨[_, _], (by (repeat (first | exact Split.nil | exact Split.all | refine Split.cons Pick.head ?_))), ?_⟩))
    refine JM.loud rfl rfl (fun fr => l_store1 hT rfl rfl rfl rfl rfl (by (repeat (first | exact Pick.head | apply Pick.tail | apply Pick.app))) (by (first | omega | exact Nat.le_of_ble_eq_true rfl | decide | (simp; omega))) (⟨[_, _], (by (repeat (first | exact Split.nil | exact Split.all | refine Split.cons Pick.head ?_))), ?_⟩))
    refine JM.nil ?_
    refine JE.then_normal ?_
    refine J.ret ?_
    first | refine JE.unmark (.inl rfl) rfl (by (repeat (first | exact Pick.head | apply Pick.tail | apply Pick.app))) ?_ | refine JE.nomark (.inl rfl) rfl ?_
    refine JE.ret2 (.inl rfl) rfl rfl (by (first | exact RV.tmp rfl | exact RV.cell1 hT rfl rfl rfl (by (exact Rd1.row (by (repeat (first | exact Pick.head | apply Pick.tail | apply Pick.app))) (by rfl))) | exact RV.cellN hT rfl rfl rfl (by (first | exact RdN.rowAll (by (repeat (first | exact Pick.head | apply Pick.tail | apply Pick.app))) | exact RdN.own (by (repeat (first | exact Pick.head | apply Pick.tail | apply Pick.app))))) (by (first | rfl | assumption | (simp; done) | omega)))) (by (first | exact RV.tmp rfl | exact RV.cell1 hT rfl rfl rfl (by (exact Rd1.row (by (repeat (first | exact Pick.head | apply Pick.tail | apply Pick.app))) (by rfl))) | exact RV.cellN hT rfl rfl rfl (by (first | exact RdN.rowAll (by (repeat (first | exact Pick.head | apply Pick.tail | apply Pick.app))) | exact RdN.own (by (repeat (first | exact Pick.head | apply Pick.tail | apply Pick.app))))) (by (first | rfl | assumption | (simp; done) | omega)))) ?_
    exact ⟨rfl, fun w q => disk_shut hok (q.sup (by (repeat (first | exact Sup.refl | apply Sup.cons (by (repeat (first | exact Pick.head | apply Pick.tail | apply Pick.app))) | apply Sup.app | apply Sup.skip | apply Sup.skips))))⟩
end Go.Proofs.Ytilifeeddpkclaa
