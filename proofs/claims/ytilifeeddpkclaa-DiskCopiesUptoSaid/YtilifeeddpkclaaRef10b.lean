import Derived.Test.YtilifeeddpkclaaRef10
namespace Go.Proofs.Ytilifeeddpkclaa
open Go Go.SL
attribute [local irreducible] J JL JE JM LS Y Fc RV Code.wp wpList Code.wpIn wpListIn
attribute [local irreducible] Yc
variable (E : World)
/-- The pending writes are made safe, as far as they are done. -/
structure LiveI (P : List (Int × Blk)) (S : List Blk) (lv : Nat → Bool) (s : Nat × List Blk) : Prop where
  le : s.1 ≤ P.length
  len : s.2.length = S.length
  blk : ∀ b ∈ s.2, b.length = 64
  on : liveOn lv (P.drop s.1) s.1 s.2 = liveOn lv P 0 S
theorem LiveI.next {P : List (Int × Blk)} {S : List Blk} {lv : Nat → Bool} {s : Nat × List Blk} (h : LiveI P S lv s) (hok : ∀ p ∈ P, p.2.length = 64) {p : Int × Blk} (hp : P[s.1]? = some p) : LiveI P S lv (s.1 + 1, if lv s.1 then s.2.set p.1.toNat p.2 else s.2) := by
  have hlt : s.1 < P.length := by
    rcases Nat.lt_or_ge s.1 P.length with h | h
    · exact h
    · simp [List.getElem?_eq_none h] at hp
  have hm := List.mem_of_getElem? hp
  refine ⟨hlt, by dsimp only; split <;> simp [h.len], ?_, ?_⟩
  · dsimp only
    split
    · intro b hb
      rcases List.mem_or_eq_of_mem_set hb with hb | hb
      · exact h.blk b hb
      · subst hb; exact hok p hm
    · exact h.blk
  · have := h.on
    rw [List.drop_eq_getElem_cons hlt] at this
    rw [List.getElem?_eq_getElem hlt] at hp
    cases hp
    exact this
def Rk.live (k : Rk) (lv : Nat → Bool) : Rk := { k with safe := liveOn lv k.pending 0 k.safe, pending := [] }
theorem Rk.Ok.live {k : Rk} (h : k.Ok) (lv : Nat → Bool) : (k.live lv).Ok :=
  ⟨liveOn_blk lv _ _ _ (fun p hp => (h.pend p hp).1) h.safe, fun p hp => by simp [Rk.live] at hp, by simp only [Rk.live, liveOn_length]; exact h.most, h.left⟩
theorem Rv.In.cons {x : Rv} {l : List HProp} (h : x.In l) (A : HProp) : x.In (A :: l) := h.app [A]
theorem rlive_spec (k : Rk) (sa : Option Addr) (sc : Nat) (pa : Option Addr) (pc : Nat) (p : Option Addr) (cap : Nat) (bs : List Bool) (l : List HProp) (hx : Rv.In ⟨k, sa, sc, pa, pc⟩ l) (hin : InL l p bs.length cap (bs.map Value.bool)) (hn : k.pending.length ≤ 1000000) :
    Fc prog E 82 [.agg (encR ⟨k, sa, sc, pa, pc⟩).toArray, .slice p bs.length cap].toArray l (fun v l' => ∃ x' g, v = .agg (encR x').toArray ∧ x'.k = k.live (bitAt bs) ∧ l' = g ++ l ∧ ∀ m, x'.In (g ++ m)) := by
  refine Fc.post ?_
  have hsx : InL l sa k.safe.length sc (k.safe.flatMap encB) := hx.safe
  have hpx : InL l pa k.pending.length pc (k.pending.flatMap encW) := hx.pend
  have hok : k.Ok := hx.ok
  have hmost := hok.most
  have h1 : ∀ u ∈ k.safe.flatMap encB, u.oneCell' = true := by
    intro u hu
    obtain ⟨b, _, hb⟩ := List.mem_flatMap.1 hu
    exact encB_one b u hb
  refine Fc.of_body (c := ?c) Try.func82 ?hb Try.ntmps82 ?hl ?_
  case hb => exact rfl
  case hl => exact rfl
  refine J.seq ?_
  refine J.region ?_
  refine JL.loud rfl (l_box rfl (by (first | rfl | simp)) rfl (fun b1 => ?_))
  refine JL.loud rfl (l_alloc hT rfl rfl (by (first | rfl | simp)) rfl (fun b2 => ?_))
  refine JL.nil ?_
  refine JE.then_normal ?_
  refine J.seq ?_
  refine J.region ?_
  refine JL.loud rfl (l_buildSlice0 hT rfl rfl rfl rfl (fun b3 => ?_))
  refine JL.step (y_fieldAddr hT rfl rfl rfl rfl rfl rfl) rfl rfl rfl ?_
  refine JL.step (y_load1 hT rfl rfl rfl (by (exact Rd1.row (by (repeat (first | exact Pick.head | apply Pick.tail | apply Pick.app))) (by rfl)))) rfl rfl rfl ?_
  refine JL.loud rfl (l_appendIn (m := k.safe.length) hT rfl rfl rfl rfl rfl rfl rfl rfl Pick.head (by (repeat (first | assumption | apply InL.cons | apply InL.app))) (by rw [seg_len hok.segB]; rfl) h1 (by rw [show i27.bytes = 64 from rfl]; omega) (by omega) rfl (fun q c hc => ?_))
  simp only [Nat.zero_add, List.nil_append] at hc ⊢
  refine JL.step (y_assign rfl) rfl rfl rfl ?_
  refine JL.nil ?_
  refine JE.then_normal ?_
  refine J.seq ?_
  refine J.seq ?_
  refine J.region ?_
  refine JL.step (y_fieldAddr hT rfl rfl rfl rfl rfl rfl) rfl rfl rfl ?_
  refine JL.step (y_load1 hT rfl rfl rfl (by (exact Rd1.row (by (repeat (first | exact Pick.head | apply Pick.tail | apply Pick.app))) (by rfl)))) rfl rfl rfl ?_
  refine JL.step (y_len_slice hT rfl rfl rfl) rfl rfl rfl (JL.step (y_move rfl) rfl rfl rfl ?_)
  refine JL.nil ?_
  refine JE.then_normal ?_
  refine J.block ?_
  refine J.fact (fun w s => Sat.own_at (a := q) (s.pick (by (repeat (first | exact Pick.head | apply Pick.tail | apply Pick.app))))) fun oq => ?_
  refine J.loop (α := Nat × List Blk) (LiveI k.pending k.safe (bitAt bs)) (fun s => [(1, .slice p bs.length cap), (2, .pointer (some ⟨b1, 0, none⟩)), (4, .pointer (some ⟨b2, 0, none⟩)), (5, .slice q k.safe.length c), (13, .slice pa k.pending.length pc), (14, .int .i64 k.pending.length), (15, .int .i64 s.1)]) (fun s => own 27 64 (.slice q k.safe.length c) k.safe.length (s.2.flatMap encB) :: row b2 43 [.slice none 0 0, .slice none 0 0, .bool false, .int .i64 0, .int .i64 0] :: row b1 43 (encR ⟨k, sa, sc, pa, pc⟩) :: l) (fun s => k.pending.length - s.1) (0, k.safe) ⟨by omega, rfl, hok.safe, rfl⟩ ⟨rfl, rfl, rfl, rfl, rfl, rfl, rfl, trivial⟩ (fun w h => h.sup (by (repeat (first | exact Sup.refl | apply Sup.cons (by (repeat (first | exact Pick.head | apply Pick.tail | apply Pick.app))) | apply Sup.app | apply Sup.skip | apply Sup.skips)))) ?_
  rintro ⟨j, s⟩ hI
  have hj : j ≤ k.pending.length := hI.le
  dsimp only
  refine J.seq ?_
  refine J.region ?_
  refine JL.step (y_lss rfl rfl) rfl rfl rfl ?_
  refine JL.nil ?_
  refine JE.then_normal ?_
  refine J.seq ?_
  first | apply J.cond_dec rfl | apply J.cond rfl
  case' ht =>
    intro h
    try (first | (exfalso; omega) | (cases h; done) | (exfalso; simp at h; done) | subst h)
    all_goals
      refine J.skip ?_
  case' hf =>
    intro h
    try (first | (exfalso; omega) | (cases h; done) | (exfalso; simp at h; done) | subst h)
    all_goals
      refine J.exit ?_
      refine JE.then_exit ?_
      refine JE.then_exit ?_
      refine JE.block_exit ?_
      refine JE.then_normal ?_
      refine J.seq ?_
      refine J.fact (fun w s => Sat.own_at (a := q) (s.pick (by (repeat (first | exact Pick.head | apply Pick.tail | apply Pick.app))))) fun oq2 => ?_
      have hjn : j = k.pending.length := by omega
      have hs : s = liveOn (bitAt bs) k.pending 0 k.safe := by have := hI.on; dsimp only at this; rwa [hjn, List.drop_length] at this
      have hsl : s.length = k.safe.length := hI.len
      refine J.region ?_
      refine JL.step (y_move rfl) rfl rfl rfl (JL.step (y_fieldAddr hT rfl rfl rfl rfl rfl rfl) rfl rfl rfl ?_)
      refine JL.loud rfl (l_store1 hT rfl rfl rfl rfl rfl (by (repeat (first | exact Pick.head | apply Pick.tail | apply Pick.app))) (by (first | omega | exact Nat.le_of_ble_eq_true rfl | decide | (simp; omega))) ?_)
      refine JL.step (y_fieldAddr hT rfl rfl rfl rfl rfl rfl) rfl rfl rfl ?_
      refine JL.loud rfl (l_store1 hT rfl rfl rfl rfl rfl (by (repeat (first | exact Pick.head | apply Pick.tail | apply Pick.app))) (by (first | omega | exact Nat.le_of_ble_eq_true rfl | decide | (simp; omega))) ?_)
      refine JL.nil ?_
      refine JE.then_normal ?_
      refine J.seq ?_
      refine J.region ?_
      refine JL.step (y_loadN hT rfl rfl rfl (by (first | exact RdN.rowAll (by (repeat (first | exact Pick.head | apply Pick.tail | apply Pick.app))) | exact RdN.own (by (repeat (first | exact Pick.head | apply Pick.tail | apply Pick.app))))) (by (first | rfl | assumption | (simp; done) | omega))) rfl rfl rfl ?_
      refine JL.loud rfl (l_storeAll hT rfl rfl rfl (by (first | rfl | assumption | (simp; done) | omega)) (by (first | assumption | exact ones_of rfl | exact encW_one _ | exact encB_one _ | (intro u hu; simp at hu; rcases hu with rfl | rfl <;> rfl) | (intro u hu; simp at hu; subst hu; rfl) | simp)) (by (repeat (first | exact Pick.head | apply Pick.tail | apply Pick.app))) (by (first | rfl | assumption | (simp; done) | omega)) ?_)
      refine JL.nil ?_
      refine JE.then_normal ?_
      refine J.ret ?_
      refine JE.ret1 (.inl rfl) rfl rfl (by (first | exact RV.tmp rfl | exact RV.cell1 hT rfl rfl rfl (by (exact Rd1.row (by (repeat (first | exact Pick.head | apply Pick.tail | apply Pick.app))) (by rfl))) | exact RV.cellN hT rfl rfl rfl (by (first | exact RdN.rowAll (by (repeat (first | exact Pick.head | apply Pick.tail | apply Pick.app))) | exact RdN.own (by (repeat (first | exact Pick.head | apply Pick.tail | apply Pick.app))))) (by (first | rfl | assumption | (simp; done) | omega)))) ?_
      refine ⟨[own 27 64 (.slice q k.safe.length c) k.safe.length (s.flatMap encB)] ++ l, fun w q => q.sup (by (repeat (first | exact Sup.refl | apply Sup.cons (by (repeat (first | exact Pick.head | apply Pick.tail | apply Pick.app))) | apply Sup.app | apply Sup.skip | apply Sup.skips))), ⟨k.live (bitAt bs), q, c, none, 0⟩, _, ?_, rfl, rfl, fun m => ?_⟩
      · simp only [encR, Rk.live, ← hs, hsl]
        rfl
      · refine ⟨hok.live _, ?_, ?_⟩
        · have e : (k.live (bitAt bs)).safe = s := hs.symm
          show InL _ q (k.live (bitAt bs)).safe.length c ((k.live (bitAt bs)).safe.flatMap encB)
          rw [e, hsl]
          exact oq2.inl Pick.head
        · exact ⟨Nat.le_refl _, Nat.zero_le _, .inr ⟨rfl, rfl⟩⟩
  all_goals refine JE.then_normal ?_
  all_goals
    refine J.seq ?_
    refine J.block ?_
    refine J.seq ?_
    refine J.region ?_
    obtain ⟨u, hu⟩ : ∃ u, k.pending[j]? = some u := ⟨_, List.getElem?_eq_getElem (by omega)⟩
    have huo := hok.pend u (List.mem_of_getElem? hu)
    have hWl : (encW u).length = 65 := by simp [encW, huo.1]
    have hBl : (encB u.2).length = 64 := by simp [huo.1]
    have hlen : s.length = k.safe.length := hI.len
    obtain ⟨gp, op, rfl, hrp⟩ := hpx.addr (by omega)
    obtain ⟨gq, rfl⟩ := oq.at_.resolve_right (fun ⟨h0, _⟩ => by have := oq.le; omega)
    refine JL.step (y_move rfl) rfl rfl rfl ?_
    refine JL.step (y_indexAddr_slice hT rfl rfl rfl rfl rfl (by (first | omega | exact Nat.le_of_ble_eq_true rfl | decide | (simp; omega))) (by (first | omega | exact Nat.le_of_ble_eq_true rfl | decide | (simp; omega)))) rfl rfl rfl ?_
    refine JL.step (y_loadN hT rfl rfl rfl ((hrp [_, _, _]).elem hok.segW hu) hWl) rfl rfl rfl ?_
    refine JL.loud rfl (l_alloc hT rfl rfl (by (first | rfl | simp)) rfl (fun b7 => ?_))
    refine JL.step (y_assign rfl) rfl rfl rfl ?_
    refine JL.loud rfl (l_storeAll hT rfl rfl rfl (by (first | rfl | assumption | (simp; done) | omega)) (by (first | assumption | exact ones_of rfl | exact encW_one _ | exact encB_one _ | (intro u hu; simp at hu; rcases hu with rfl | rfl <;> rfl) | (intro u hu; simp at hu; subst hu; rfl) | simp)) (by (repeat (first | exact Pick.head | apply Pick.tail | apply Pick.app))) (by (first | rfl | assumption | (simp; done) | omega)) ?_)
    refine JL.nil ?_
    refine JE.then_normal ?_
    refine J.seq ?_
    refine J.region ?_
    refine JL.step (y_move rfl) rfl rfl rfl (JL.step (y_move rfl) rfl rfl rfl (JL.step (y_len_slice hT rfl rfl rfl) rfl rfl rfl (JL.step (y_lss rfl rfl) rfl rfl rfl (JL.step (y_move rfl) rfl rfl rfl ?_))))
    refine JL.gsplit_dec rfl rfl rfl (fun h => ?_) (fun h => ?_)
    all_goals (first | refine JL.gskip rfl rfl rfl rfl rfl rfl ?_ | refine JL.gstep rfl rfl rfl (y_move rfl) rfl rfl ?_)
    all_goals (first | refine JL.gskip rfl rfl rfl rfl rfl rfl ?_ | refine JL.gskipU rfl rfl rfl rfl rfl ?_ | refine JL.gstep rfl rfl rfl (y_move rfl) rfl rfl ?_)
    all_goals (first | refine JL.gskip rfl rfl rfl rfl rfl rfl ?_ | (obtain ⟨g, o, rfl, hr⟩ := hin.addr (by omega); refine JL.gstep rfl rfl rfl (y_indexAddr_slice hT rfl rfl rfl rfl rfl (by (first | omega | exact Nat.le_of_ble_eq_true rfl | decide | (simp; omega))) (by (first | omega | exact Nat.le_of_ble_eq_true rfl | decide | (simp; omega)))) rfl rfl ?_))
    all_goals (first | refine JL.gskip rfl rfl rfl rfl rfl rfl ?_ | refine JL.gstep rfl rfl rfl (y_load1 hT rfl rfl rfl (v := .bool (bitAt bs j)) (Rd1.elem (i := j) (hr [_, _, _, _]) (by rw [List.getElem?_map, List.getElem?_eq_getElem (by omega)]; simp [bitAt, List.getD_eq_getElem?_getD, List.getElem?_eq_getElem (show j < bs.length by omega)]))) rfl rfl ?_)
    all_goals (refine JL.step (y_pick rfl rfl rfl) rfl rfl rfl ?_)
    all_goals refine JL.nil ?_
    all_goals refine JE.then_normal ?_
    all_goals
      first | apply J.cond_dec rfl | apply J.cond rfl
      case' ht =>
        intro h
        try (first | (exfalso; omega) | (cases h; done) | (exfalso; simp at h; done) | subst h)
        all_goals
          refine J.region ?_
          refine JL.step (y_move rfl) rfl rfl rfl (JL.step (y_fieldAddr hT rfl rfl rfl rfl rfl rfl) rfl rfl rfl ?_)
          refine JL.step (y_load1 hT rfl rfl rfl (by (exact Rd1.row (by (repeat (first | exact Pick.head | apply Pick.tail | apply Pick.app))) (by rfl)))) rfl rfl rfl ?_
          refine JL.step (y_fieldAddr hT rfl rfl rfl rfl rfl rfl) rfl rfl rfl ?_
          refine JL.step (y_loadN hT rfl rfl rfl (RdN.row (n := 64) (vs := encB u.2) (by (repeat (first | exact Pick.head | apply Pick.tail | apply Pick.app))) (by simp [encW, List.take_of_length_le, huo.1])) hBl) rfl rfl rfl ?_
          refine JL.step (y_indexAddr_slice hT rfl rfl rfl rfl rfl (by (first | omega | exact Nat.le_of_ble_eq_true rfl | decide | (simp; omega))) (by (first | omega | exact Nat.le_of_ble_eq_true rfl | decide | (simp; omega)))) rfl rfl rfl ?_
          refine JL.loud rfl (l_storeOwnN (enc := encB) (xs := s) (j := u.1.toNat) (u := u.2) hT rfl rfl rfl hBl rfl (encB_one _) (by (repeat (first | exact Pick.head | apply Pick.tail | apply Pick.app))) (fun b hb => by rw [encB_length]; exact hI.blk b hb) (by omega) ?_)
          refine JL.nil ?_
      case' hf =>
        intro h
        try (first | (exfalso; omega) | (cases h; done) | (exfalso; simp at h; done) | subst h)
        all_goals
          refine J.skip ?_
    all_goals refine JE.block_normal ?_
    all_goals refine JE.then_normal ?_
    all_goals
      refine J.region ?_
      refine JL.step (y_add rfl rfl (by (first | exact wrap_i64 (by omega) (by omega) | rfl))) rfl rfl rfl ?_
      refine JL.step (y_move rfl) rfl rfl rfl ?_
      refine JL.nil ?_
  all_goals
    have hnx := hI.next (fun p hp => (hok.pend p hp).1) hu
    dsimp only at hnx
    first
      | (refine JE.round (s := (j, s)) (j + 1, s.set u.1.toNat u.2) (by rwa [if_pos (by assumption)] at hnx) ⟨rfl, rfl, rfl, rfl, rfl, rfl, rfl, trivial⟩ (fun w q => q.sup (by (repeat (first | exact Sup.refl | apply Sup.cons (by (repeat (first | exact Pick.head | apply Pick.tail | apply Pick.app))) | apply Sup.app | apply Sup.skip | apply Sup.skips)))) (by dsimp only; omega))
      | (refine JE.round (s := (j, s)) (j + 1, s) (by rwa [if_neg (by first | (rw [h]; simp; done) | (simp [bitAt, List.getD_eq_getElem?_getD, List.getElem?_eq_none (show bs.length ≤ j by omega)]; done))] at hnx) ⟨rfl, rfl, rfl, rfl, rfl, rfl, rfl, trivial⟩ (fun w q => q.sup (by (repeat (first | exact Sup.refl | apply Sup.cons (by (repeat (first | exact Pick.head | apply Pick.tail | apply Pick.app))) | apply Sup.app | apply Sup.skip | apply Sup.skips)))) (by dsimp only; omega))
theorem rall_spec (k : Rk) (sa : Option Addr) (sc : Nat) (pa : Option Addr) (pc : Nat) (l : List HProp) (hn : k.pending.length ≤ 1000000) :
    Fc prog E 83 [.agg (encR ⟨k, sa, sc, pa, pc⟩).toArray].toArray l (fun v l' => ∃ b, v = .slice (some ⟨b, 0, none⟩) k.pending.length k.pending.length ∧ l' = row b 4 ((List.replicate k.pending.length true).map Value.bool) :: l) := by
  refine Fc.post ?_
  obtain ⟨n, hnn⟩ : ∃ n, k.pending.length = n := ⟨_, rfl⟩
  have hset : ∀ i, i < n → (List.replicate i true ++ List.replicate (n - i) false).set i true = List.replicate (i + 1) true ++ List.replicate (n - (i + 1)) false := fun i h => by
    rw [List.set_append_right _ _ (by simp), List.length_replicate, Nat.sub_self, show n - i = (n - (i + 1)) + 1 by omega, List.replicate_succ, List.set_cons_zero, List.replicate_succ']
    simp
  refine Fc.of_body (c := ?c) Try.func83 ?hb Try.ntmps83 ?hl ?_
  case hb => exact rfl
  case hl => exact rfl
  refine J.seq ?_
  refine J.region ?_
  refine JL.loud rfl (l_box rfl (by (first | rfl | simp)) rfl (fun b1 => ?_))
  refine JL.step (y_assign rfl) rfl rfl rfl ?_
  refine JL.nil ?_
  refine JE.then_normal ?_
  refine J.seq ?_
  refine J.region ?_
  refine JL.step (y_fieldAddr hT rfl rfl rfl rfl rfl rfl) rfl rfl rfl ?_
  refine JL.step (y_load1 hT rfl rfl rfl (by (exact Rd1.row (by (repeat (first | exact Pick.head | apply Pick.tail | apply Pick.app))) (by rfl)))) rfl rfl rfl ?_
  refine JL.step (y_len_slice (len := k.pending.length) hT rfl rfl rfl) rfl rfl rfl ?_
  rw [hnn]
  refine JL.loud rfl (l_makeSlice hT rfl rfl rfl rfl rfl rfl (by omega) (by omega) (mk_fits rfl (by omega) (by omega)) (by omega) rfl (fun bk => ?_))
  have hmk : (madeCells (Value.bool false).cells ((n : Int).toNat * i4.size)).toList = (List.replicate 0 true ++ List.replicate (n - 0) false).map Value.bool := by
    rw [show (Value.bool false).cells = (List.replicate 1 (Value.bool false)).toArray from rfl, madeCells_rep _ (by omega)]
    simp [i4]
  refine JL.pre (l' := row bk 4 ((List.replicate 0 true ++ List.replicate (n - 0) false).map Value.bool) :: _) (fun w s => by rw [← hmk]; exact s) ?_
  refine JL.step (y_assign rfl) rfl rfl rfl ?_
  refine JL.nil ?_
  refine JE.then_normal ?_
  refine J.seq ?_
  refine J.seq ?_
  refine J.region ?_
  refine JL.step (y_move rfl) rfl rfl rfl (JL.step (y_len_slice hT rfl rfl rfl) rfl rfl rfl (JL.step (y_move rfl) rfl rfl rfl ?_))
  refine JL.nil ?_
  refine JE.then_normal ?_
  refine J.block ?_
  refine J.loop (α := Nat) (fun i => i ≤ n) (fun i => [(3, .slice (some ⟨bk, 0, none⟩) n n), (10, .int .i64 n), (11, .int .i64 i)]) (fun i => row bk 4 ((List.replicate i true ++ List.replicate (n - i) false).map Value.bool) :: l) (fun i => n - i) 0 (by omega) ⟨rfl, rfl, rfl, trivial⟩ (fun w h => h.sup (by (repeat (first | exact Sup.refl | apply Sup.cons (by (repeat (first | exact Pick.head | apply Pick.tail | apply Pick.app))) | apply Sup.app | apply Sup.skip | apply Sup.skips)))) ?_
  intro i hi
  refine J.seq ?_
  refine J.region ?_
  refine JL.step (y_lss rfl rfl) rfl rfl rfl ?_
  refine JL.nil ?_
  refine JE.then_normal ?_
  refine J.seq ?_
  first | apply J.cond_dec rfl | apply J.cond rfl
  case' ht =>
    intro h
    try (first | (exfalso; omega) | (cases h; done) | (exfalso; simp at h; done) | subst h)
    all_goals
      refine J.skip ?_
  case' hf =>
    intro h
    try (first | (exfalso; omega) | (cases h; done) | (exfalso; simp at h; done) | subst h)
    all_goals
      refine J.exit ?_
      refine JE.then_exit ?_
      refine JE.then_exit ?_
      refine JE.block_exit ?_
      refine JE.then_normal ?_
      refine J.seq ?_
      refine J.region ?_
      refine JL.step (y_move rfl) rfl rfl rfl (JL.step (y_assign rfl) rfl rfl rfl ?_)
      refine JL.nil ?_
      refine JE.then_normal ?_
      refine J.ret ?_
      refine JE.ret1 (.inl rfl) rfl rfl (by (first | exact RV.tmp rfl | exact RV.cell1 hT rfl rfl rfl (by (exact Rd1.row (by (repeat (first | exact Pick.head | apply Pick.tail | apply Pick.app))) (by rfl))) | exact RV.cellN hT rfl rfl rfl (by (first | exact RdN.rowAll (by (repeat (first | exact Pick.head | apply Pick.tail | apply Pick.app))) | exact RdN.own (by (repeat (first | exact Pick.head | apply Pick.tail | apply Pick.app))))) (by (first | rfl | assumption | (simp; done) | omega)))) ?_
      rw [show i = n by omega]
      refine ⟨_, fun w q => ?_, bk, rfl, rfl⟩
      simpa using q
  all_goals refine JE.then_normal ?_
  all_goals
    refine J.seq ?_
    refine J.block ?_
    refine J.seq ?_
    refine J.region ?_
    refine JL.step (y_move rfl) rfl rfl rfl (JL.step (y_assign rfl) rfl rfl rfl ?_)
    refine JL.nil ?_
    refine JE.then_normal ?_
    refine J.region ?_
    refine JL.step (y_move rfl) rfl rfl rfl (JL.step (y_move rfl) rfl rfl rfl ?_)
    refine JL.step (y_indexAddr_slice hT rfl rfl rfl rfl rfl (by (first | omega | exact Nat.le_of_ble_eq_true rfl | decide | (simp; omega))) (by (first | omega | exact Nat.le_of_ble_eq_true rfl | decide | (simp; omega)))) rfl rfl rfl ?_
    refine JL.loud rfl (l_store1 hT rfl rfl rfl rfl rfl (by (repeat (first | exact Pick.head | apply Pick.tail | apply Pick.app))) (by rw [List.length_map, show i4.size = 1 from rfl]; simp; omega) ?_)
    refine JL.nil ?_
    refine JE.block_normal ?_
    refine JE.then_normal ?_
    refine J.region ?_
    refine JL.step (y_add rfl rfl (by (first | exact wrap_i64 (by omega) (by omega) | rfl))) rfl rfl rfl ?_
    refine JL.step (y_move rfl) rfl rfl rfl ?_
    refine JL.nil ?_
  all_goals
    refine JE.round (s := i) (i + 1) (by omega) ⟨rfl, rfl, rfl, trivial⟩ (fun w q => ?_) (by omega)
    have e : ((List.replicate i true ++ List.replicate (n - i) false).map Value.bool).set (0 + (i : Int).toNat * i4.size) (.bool true) = (List.replicate (i + 1) true ++ List.replicate (n - (i + 1)) false).map Value.bool := by
      rw [← hset i (by omega), show 0 + (i : Int).toNat * i4.size = i by simp [i4], List.map_set]
    rw [← e]
    exact q
/-- Write, sync, arm, crash by the document. -/
def Rk.write (k : Rk) (i : Int) (b : Blk) : Rk × Int :=
  if k.dead then (k, 7) else if i < 0 ∨ k.safe.length ≤ i then (k, 2) else if k.done.2 then ({ k.done.1 with pending := k.pending ++ [(i, b)] }, 0) else (k.done.1, 7)
def Rk.sync (k : Rk) : Rk × Int := if k.dead then (k, 7) else if k.done.2 then (k.done.1.live (fun _ => true), 0) else (k.done.1, 7)
def Rk.arm (k : Rk) (n : Int) : Rk × Int := if k.dead then (k, 7) else ({ k with left := max n (-1) }, 0)
def Rk.crash (k : Rk) (bs : List Bool) : Rk := { k.live (bitAt bs) with dead := false, left := -1 }
theorem rarm_spec (x : Rv) (n : Int) (l : List HProp) (hx : x.In l) (hn : -9223372036854775808 ≤ n ∧ n ≤ 9223372036854775807) :
    Fc prog E 59 [.agg (encR x).toArray, .int .i64 n].toArray l (fun v l' => v = .tuple #[.agg (encR { x with k := (x.k.arm n).1 }).toArray, .int .i64 (x.k.arm n).2] ∧ l' = l) := by
  refine Fc.eqs ?_
  refine Fc.of_body (c := ?c) Try.func59 ?hb Try.ntmps59 ?hl ?_
  case hb => exact rfl
  case hl => exact rfl
  refine J.seq ?_
  refine J.region ?_
  refine JL.loud rfl (l_box rfl (by (first | rfl | simp)) rfl (fun b1 => ?_))
  refine JL.loud rfl (l_alloc hT rfl rfl (by (first | rfl | simp)) rfl (fun b2 => ?_))
  refine JL.step (y_assign rfl) rfl rfl rfl ?_
  refine JL.nil ?_
  refine JE.then_normal ?_
  refine J.seq ?_
  refine J.seq ?_
  refine J.region ?_
  refine JL.step (y_fieldAddr hT rfl rfl rfl rfl rfl rfl) rfl rfl rfl ?_
  refine JL.step (y_load1 hT rfl rfl rfl (by (exact Rd1.row (by (repeat (first | exact Pick.head | apply Pick.tail | apply Pick.app))) (by rfl)))) rfl rfl rfl ?_
  refine JL.nil ?_
  refine JE.then_normal ?_
  first | apply J.cond_dec rfl | apply J.cond rfl
  case' ht =>
    intro h
    try (first | (exfalso; omega) | (cases h; done) | (exfalso; simp at h; done) | subst h)
    all_goals
      refine J.seq ?_
      refine J.region ?_
      refine JL.step (y_loadN hT rfl rfl rfl (by (first | exact RdN.rowAll (by (repeat (first | exact Pick.head | apply Pick.tail | apply Pick.app))) | exact RdN.own (by (repeat (first | exact Pick.head | apply Pick.tail | apply Pick.app))))) (by (first | rfl | assumption | (simp; done) | omega))) rfl rfl rfl ?_
      refine JL.loud rfl (l_storeAll hT rfl rfl rfl (by (first | rfl | assumption | (simp; done) | omega)) (by (first | assumption | exact ones_of rfl | exact encW_one _ | exact encB_one _ | (intro u hu; simp at hu; rcases hu with rfl | rfl <;> rfl) | (intro u hu; simp at hu; subst hu; rfl) | simp)) (by (repeat (first | exact Pick.head | apply Pick.tail | apply Pick.app))) (by (first | rfl | assumption | (simp; done) | omega)) ?_)
      refine JL.step (y_assign rfl) rfl rfl rfl ?_
      refine JL.nil ?_
      refine JE.then_normal ?_
      refine J.ret ?_
      refine JE.then_ret ?_
      refine JE.ret2 (.inl rfl) rfl rfl (by (first | exact RV.tmp rfl | exact RV.cell1 hT rfl rfl rfl (by (exact Rd1.row (by (repeat (first | exact Pick.head | apply Pick.tail | apply Pick.app))) (by rfl))) | exact RV.cellN hT rfl rfl rfl (by (first | exact RdN.rowAll (by (repeat (first | exact Pick.head | apply Pick.tail | apply Pick.app))) | exact RdN.own (by (repeat (first | exact Pick.head | apply Pick.tail | apply Pick.app))))) (by (first | rfl | assumption | (simp; done) | omega)))) (by (first | exact RV.tmp rfl | exact RV.cell1 hT rfl rfl rfl (by (exact Rd1.row (by (repeat (first | exact Pick.head | apply Pick.tail | apply Pick.app))) (by rfl))) | exact RV.cellN hT rfl rfl rfl (by (first | exact RdN.rowAll (by (repeat (first | exact Pick.head | apply Pick.tail | apply Pick.app))) | exact RdN.own (by (repeat (first | exact Pick.head | apply Pick.tail | apply Pick.app))))) (by (first | rfl | assumption | (simp; done) | omega)))) ?_
      refine ⟨?_, fun w q => q.sup (by (repeat (first | exact Sup.refl | apply Sup.cons (by (repeat (first | exact Pick.head | apply Pick.tail | apply Pick.app))) | apply Sup.app | apply Sup.skip | apply Sup.skips)))⟩
      obtain ⟨⟨safe, pending, dead, left, ops⟩, sa, sc, pa, pc⟩ := x
      dsimp only at h
      subst h
      rfl
  case' hf =>
    intro h
    try (first | (exfalso; omega) | (cases h; done) | (exfalso; simp at h; done) | subst h)
    all_goals
      refine J.skip ?_
  all_goals refine JE.then_normal ?_
  all_goals
    refine J.seq ?_
    refine J.region ?_
    refine JL.step (y_move rfl) rfl rfl rfl ?_
    refine JL.step (y_max2 rfl rfl (by (first | rfl | omega))) rfl rfl rfl ?_
    refine JL.step (y_fieldAddr hT rfl rfl rfl rfl rfl rfl) rfl rfl rfl ?_
    refine JL.loud rfl (l_store1 hT rfl rfl rfl rfl rfl (by (repeat (first | exact Pick.head | apply Pick.tail | apply Pick.app))) (by (first | omega | exact Nat.le_of_ble_eq_true rfl | decide | (simp; omega))) ?_)
    refine JL.nil ?_
    refine JE.then_normal ?_
    refine J.seq ?_
    refine J.region ?_
    refine JL.step (y_loadN hT rfl rfl rfl (by (first | exact RdN.rowAll (by (repeat (first | exact Pick.head | apply Pick.tail | apply Pick.app))) | exact RdN.own (by (repeat (first | exact Pick.head | apply Pick.tail | apply Pick.app))))) (by (first | rfl | assumption | (simp; done) | omega))) rfl rfl rfl ?_
    refine JL.loud rfl (l_storeAll hT rfl rfl rfl (by (first | rfl | assumption | (simp; done) | omega)) (by (first | assumption | exact ones_of rfl | exact encW_one _ | exact encB_one _ | (intro u hu; simp at hu; rcases hu with rfl | rfl <;> rfl) | (intro u hu; simp at hu; subst hu; rfl) | simp)) (by (repeat (first | exact Pick.head | apply Pick.tail | apply Pick.app))) (by (first | rfl | assumption | (simp; done) | omega)) ?_)
    refine JL.step (y_assign rfl) rfl rfl rfl ?_
    refine JL.nil ?_
    refine JE.then_normal ?_
    refine J.ret ?_
    refine JE.ret2 (.inl rfl) rfl rfl (by (first | exact RV.tmp rfl | exact RV.cell1 hT rfl rfl rfl (by (exact Rd1.row (by (repeat (first | exact Pick.head | apply Pick.tail | apply Pick.app))) (by rfl))) | exact RV.cellN hT rfl rfl rfl (by (first | exact RdN.rowAll (by (repeat (first | exact Pick.head | apply Pick.tail | apply Pick.app))) | exact RdN.own (by (repeat (first | exact Pick.head | apply Pick.tail | apply Pick.app))))) (by (first | rfl | assumption | (simp; done) | omega)))) (by (first | exact RV.tmp rfl | exact RV.cell1 hT rfl rfl rfl (by (exact Rd1.row (by (repeat (first | exact Pick.head | apply Pick.tail | apply Pick.app))) (by rfl))) | exact RV.cellN hT rfl rfl rfl (by (first | exact RdN.rowAll (by (repeat (first | exact Pick.head | apply Pick.tail | apply Pick.app))) | exact RdN.own (by (repeat (first | exact Pick.head | apply Pick.tail | apply Pick.app))))) (by (first | rfl | assumption | (simp; done) | omega)))) ?_
    refine ⟨?_, fun w q => q.sup (by (repeat (first | exact Sup.refl | apply Sup.cons (by (repeat (first | exact Pick.head | apply Pick.tail | apply Pick.app))) | apply Sup.app | apply Sup.skip | apply Sup.skips)))⟩
    obtain ⟨⟨safe, pending, dead, left, ops⟩, sa, sc, pa, pc⟩ := x
    dsimp only at h
    subst h
    rfl
theorem rcrash_spec (k : Rk) (sa : Option Addr) (sc : Nat) (pa : Option Addr) (pc : Nat) (p : Option Addr) (cap : Nat) (bs : List Bool) (l : List HProp) (hx : Rv.In ⟨k, sa, sc, pa, pc⟩ l) (hin : InL l p bs.length cap (bs.map Value.bool)) (hn : k.pending.length ≤ 1000000) :
    Fc prog E 60 [.agg (encR ⟨k, sa, sc, pa, pc⟩).toArray, .slice p bs.length cap].toArray l (fun v l' => ∃ x' g, v = .agg (encR x').toArray ∧ x'.k = k.crash bs ∧ l' = g ++ l ∧ ∀ m, x'.In (g ++ m)) := by
  refine Fc.post ?_
  refine Fc.of_body (c := ?c) Try.func60 ?hb Try.ntmps60 ?hl ?_
  case hb => exact rfl
  case hl => exact rfl
  refine J.seq ?_
  refine J.region ?_
  refine JL.loud rfl (l_box rfl (by (first | rfl | simp)) rfl (fun b1 => ?_))
  refine JL.loud rfl (l_alloc hT rfl rfl (by (first | rfl | simp)) rfl (fun b2 => ?_))
  refine JL.nil ?_
  refine JE.then_normal ?_
  refine J.seq ?_
  refine J.region ?_
  refine JL.step (y_loadN hT rfl rfl rfl (by (first | exact RdN.rowAll (by (repeat (first | exact Pick.head | apply Pick.tail | apply Pick.app))) | exact RdN.own (by (repeat (first | exact Pick.head | apply Pick.tail | apply Pick.app))))) (by (first | rfl | assumption | (simp; done) | omega))) rfl rfl rfl ?_
  refine JL.step (y_move rfl) rfl rfl rfl ?_
  refine JL.loud rfl (l_callF e82 rfl rfl (rlive_spec E k sa sc pa pc p cap bs _ (by exact (hx.cons _).cons _) (by (repeat (first | assumption | apply InL.cons | apply InL.app))) hn) ?_)
  rintro _ _ ⟨x', g, rfl, hk, rfl, hxi⟩
  refine JL.loud rfl (l_storeAll hT rfl rfl rfl (by (first | rfl | assumption | (simp; done) | omega)) (by (first | assumption | exact ones_of rfl | exact encW_one _ | exact encB_one _ | (intro u hu; simp at hu; rcases hu with rfl | rfl <;> rfl) | (intro u hu; simp at hu; subst hu; rfl) | simp)) (by (repeat (first | exact Pick.head | apply Pick.tail | apply Pick.app))) (by (first | rfl | assumption | (simp; done) | omega)) ?_)
  refine JL.nil ?_
  refine JE.then_normal ?_
  refine J.seq ?_
  refine J.region ?_
  refine JL.step (y_fieldAddr hT rfl rfl rfl rfl rfl rfl) rfl rfl rfl ?_
  refine JL.loud rfl (l_store1 hT rfl rfl rfl rfl rfl (by (repeat (first | exact Pick.head | apply Pick.tail | apply Pick.app))) (by (first | omega | exact Nat.le_of_ble_eq_true rfl | decide | (simp; omega))) ?_)
  refine JL.step (y_fieldAddr hT rfl rfl rfl rfl rfl rfl) rfl rfl rfl ?_
  refine JL.loud rfl (l_store1 hT rfl rfl rfl rfl rfl (by (repeat (first | exact Pick.head | apply Pick.tail | apply Pick.app))) (by (first | omega | exact Nat.le_of_ble_eq_true rfl | decide | (simp; omega))) ?_)
  refine JL.nil ?_
  refine JE.then_normal ?_
  refine J.seq ?_
  refine J.region ?_
  refine JL.step (y_loadN hT rfl rfl rfl (by (first | exact RdN.rowAll (by (repeat (first | exact Pick.head | apply Pick.tail | apply Pick.app))) | exact RdN.own (by (repeat (first | exact Pick.head | apply Pick.tail | apply Pick.app))))) (by (first | rfl | assumption | (simp; done) | omega))) rfl rfl rfl ?_
  refine JL.loud rfl (l_storeAll hT rfl rfl rfl (by (first | rfl | assumption | (simp; done) | omega)) (by (first | assumption | exact ones_of rfl | exact encW_one _ | exact encB_one _ | (intro u hu; simp at hu; rcases hu with rfl | rfl <;> rfl) | (intro u hu; simp at hu; subst hu; rfl) | simp)) (by (repeat (first | exact Pick.head | apply Pick.tail | apply Pick.app))) (by (first | rfl | assumption | (simp; done) | omega)) ?_)
  refine JL.nil ?_
  refine JE.then_normal ?_
  refine J.ret ?_
  refine JE.ret1 (.inl rfl) rfl rfl (by (first | exact RV.tmp rfl | exact RV.cell1 hT rfl rfl rfl (by (exact Rd1.row (by (repeat (first | exact Pick.head | apply Pick.tail | apply Pick.app))) (by rfl))) | exact RV.cellN hT rfl rfl rfl (by (first | exact RdN.rowAll (by (repeat (first | exact Pick.head | apply Pick.tail | apply Pick.app))) | exact RdN.own (by (repeat (first | exact Pick.head | apply Pick.tail | apply Pick.app))))) (by (first | rfl | assumption | (simp; done) | omega)))) ?_
  obtain ⟨k', sa', sc', pa', pc'⟩ := x'
  dsimp only at hk
  subst hk
  refine ⟨g ++ l, fun w q => q.sup (by (repeat (first | exact Sup.refl | apply Sup.cons (by (repeat (first | exact Pick.head | apply Pick.tail | apply Pick.app))) | apply Sup.app | apply Sup.skip | apply Sup.skips))), ⟨k.crash bs, sa', sc', pa', pc'⟩, g, rfl, rfl, rfl, fun m => ⟨⟨(hxi m).ok.safe, (hxi m).ok.pend, (hxi m).ok.most, by simp [Rk.crash]⟩, (hxi m).safe, (hxi m).pend⟩⟩
theorem liveOn_all (n : Nat) : ∀ (l : List (Int × Blk)) (k : Nat) (s : List Blk), k + l.length ≤ n → liveOn (bitAt (List.replicate n true)) l k s = liveOn (fun _ => true) l k s
  | [], _, _, _ => rfl
  | p :: r, k, s, h => by
    simp only [List.length_cons] at h
    have e : bitAt (List.replicate n true) k = true := by
      simp only [bitAt, List.getD_eq_getElem?_getD, List.getElem?_replicate]
      rw [if_pos (by omega)]
      rfl
    simp only [liveOn, e]
    rw [liveOn_all n r (k + 1) _ (by omega)]
theorem live_all (k : Rk) : k.live (bitAt (List.replicate k.pending.length true)) = k.live (fun _ => true) := by
  unfold Rk.live
  rw [liveOn_all _ _ _ _ (by omega)]
theorem done_safe (k : Rk) : k.done.1.safe = k.safe := by unfold Rk.done; split <;> rfl
theorem done_pending (k : Rk) : k.done.1.pending = k.pending := by unfold Rk.done; split <;> rfl
theorem Rk.Ok.done {k : Rk} (h : k.Ok) : k.done.1.Ok := by
  refine ⟨by rw [done_safe]; exact h.safe, by rw [done_pending, done_safe]; exact h.pend, by rw [done_safe]; exact h.most, ?_⟩
  have := h.left
  unfold Rk.done
  split
  · exact this
  · dsimp only
    split <;> omega
theorem Rv.In.done {x : Rv} {l : List HProp} (h : x.In l) : Rv.In { x with k := x.k.done.1 } l :=
  ⟨h.ok.done, by have := h.safe; rw [← done_safe] at this; exact this, by have := h.pend; rw [← done_pending] at this; exact this⟩
theorem rlive_all (x : Rv) (b : Nat) (l : List HProp) (hx : x.In l) (hin : InL l (some ⟨b, 0, none⟩) x.k.pending.length x.k.pending.length ((List.replicate x.k.pending.length true).map Value.bool)) (hn : x.k.pending.length ≤ 1000000) :
    Fc prog E 82 [.agg (encR x).toArray, .slice (some ⟨b, 0, none⟩) x.k.pending.length x.k.pending.length].toArray l (fun v l' => ∃ x' g, v = .agg (encR x').toArray ∧ x'.k = x.k.live (fun _ => true) ∧ l' = g ++ l ∧ ∀ m, x'.In (g ++ m)) := by
  have h := rlive_spec E x.k x.sa x.sc x.pa x.pc (some ⟨b, 0, none⟩) x.k.pending.length (List.replicate x.k.pending.length true) l hx (by rwa [List.length_replicate]) hn
  rwa [List.length_replicate, live_all] at h
theorem rsync_spec (x : Rv) (l : List HProp) (hx : x.In l) (hn : x.k.pending.length ≤ 1000000) :
    Fc prog E 58 [.agg (encR x).toArray].toArray l (fun v l' => ∃ x' g, v = .tuple #[.agg (encR x').toArray, .int .i64 x.k.sync.2] ∧ x'.k = x.k.sync.1 ∧ l' = g ++ l ∧ ∀ m, x.In m → x'.In (g ++ m)) := by
  refine Fc.post ?_
  have hlf := hx.ok.left
  have hpl : x.k.done.1.pending.length = x.k.pending.length := by rw [done_pending]
  refine Fc.of_body (c := ?c) Try.func58 ?hb Try.ntmps58 ?hl ?_
  case hb => exact rfl
  case hl => exact rfl
  refine J.seq ?_
  refine J.region ?_
  refine JL.loud rfl (l_box rfl (by (first | rfl | simp)) rfl (fun b1 => ?_))
  refine JL.loud rfl (l_alloc hT rfl rfl (by (first | rfl | simp)) rfl (fun b2 => ?_))
  refine JL.step (y_assign rfl) rfl rfl rfl ?_
  refine JL.nil ?_
  refine JE.then_normal ?_
  refine J.seq ?_
  refine J.seq ?_
  refine J.region ?_
  refine JL.step (y_fieldAddr hT rfl rfl rfl rfl rfl rfl) rfl rfl rfl ?_
  refine JL.step (y_load1 hT rfl rfl rfl (by (exact Rd1.row (by (repeat (first | exact Pick.head | apply Pick.tail | apply Pick.app))) (by rfl)))) rfl rfl rfl ?_
  refine JL.nil ?_
  refine JE.then_normal ?_
  first | apply J.cond_dec rfl | apply J.cond rfl
  case' ht =>
    intro h
    try (first | (exfalso; omega) | (cases h; done) | (exfalso; simp at h; done) | subst h)
    all_goals
      refine J.seq ?_
      refine J.region ?_
      refine JL.step (y_loadN hT rfl rfl rfl (by (first | exact RdN.rowAll (by (repeat (first | exact Pick.head | apply Pick.tail | apply Pick.app))) | exact RdN.own (by (repeat (first | exact Pick.head | apply Pick.tail | apply Pick.app))))) (by (first | rfl | assumption | (simp; done) | omega))) rfl rfl rfl ?_
      refine JL.loud rfl (l_storeAll hT rfl rfl rfl (by (first | rfl | assumption | (simp; done) | omega)) (by (first | assumption | exact ones_of rfl | exact encW_one _ | exact encB_one _ | (intro u hu; simp at hu; rcases hu with rfl | rfl <;> rfl) | (intro u hu; simp at hu; subst hu; rfl) | simp)) (by (repeat (first | exact Pick.head | apply Pick.tail | apply Pick.app))) (by (first | rfl | assumption | (simp; done) | omega)) ?_)
      refine JL.step (y_assign rfl) rfl rfl rfl ?_
      refine JL.nil ?_
      refine JE.then_normal ?_
      refine J.ret ?_
      refine JE.then_ret ?_
      refine JE.ret2 (.inl rfl) rfl rfl (by (first | exact RV.tmp rfl | exact RV.cell1 hT rfl rfl rfl (by (exact Rd1.row (by (repeat (first | exact Pick.head | apply Pick.tail | apply Pick.app))) (by rfl))) | exact RV.cellN hT rfl rfl rfl (by (first | exact RdN.rowAll (by (repeat (first | exact Pick.head | apply Pick.tail | apply Pick.app))) | exact RdN.own (by (repeat (first | exact Pick.head | apply Pick.tail | apply Pick.app))))) (by (first | rfl | assumption | (simp; done) | omega)))) (by (first | exact RV.tmp rfl | exact RV.cell1 hT rfl rfl rfl (by (exact Rd1.row (by (repeat (first | exact Pick.head | apply Pick.tail | apply Pick.app))) (by rfl))) | exact RV.cellN hT rfl rfl rfl (by (first | exact RdN.rowAll (by (repeat (first | exact Pick.head | apply Pick.tail | apply Pick.app))) | exact RdN.own (by (repeat (first | exact Pick.head | apply Pick.tail | apply Pick.app))))) (by (first | rfl | assumption | (simp; done) | omega)))) ?_
      first
        | (refine ⟨l, fun w q => q.sup (by (repeat (first | exact Sup.refl | apply Sup.cons (by (repeat (first | exact Pick.head | apply Pick.tail | apply Pick.app))) | apply Sup.app | apply Sup.skip | apply Sup.skips))), x, [], ?_, ?_, rfl, fun m hm => hm⟩
           · unfold Rk.sync; rw [h]; rfl
           · unfold Rk.sync; rw [h]; rfl
           done)
        | (refine ⟨l, fun w q => q.sup (by (repeat (first | exact Sup.refl | apply Sup.cons (by (repeat (first | exact Pick.head | apply Pick.tail | apply Pick.app))) | apply Sup.app | apply Sup.skip | apply Sup.skips))), { x with k := x.k.done.1 }, [], ?_, ?_, rfl, fun m hm => hm.done⟩ <;> simp_all [Rk.sync]
           done)
        | (refine ⟨g ++ l, fun w q => q.sup (by (repeat (first | exact Sup.refl | apply Sup.cons (by (repeat (first | exact Pick.head | apply Pick.tail | apply Pick.app))) | apply Sup.app | apply Sup.skip | apply Sup.skips))), x', g, ?_, ?_, rfl, fun m _ => hxi m⟩ <;> simp_all [Rk.sync]
           done)
  case' hf =>
    intro h
    try (first | (exfalso; omega) | (cases h; done) | (exfalso; simp at h; done) | subst h)
    all_goals
      refine J.skip ?_
  all_goals refine JE.then_normal ?_
  all_goals
    refine J.seq ?_
    refine J.region ?_
    refine JL.step (y_loadN hT rfl rfl rfl (by (first | exact RdN.rowAll (by (repeat (first | exact Pick.head | apply Pick.tail | apply Pick.app))) | exact RdN.own (by (repeat (first | exact Pick.head | apply Pick.tail | apply Pick.app))))) (by (first | rfl | assumption | (simp; done) | omega))) rfl rfl rfl ?_
    refine JL.loud rfl (l_callF e81 rfl rfl (rdone_spec E x _ hlf) ?_)
    rintro _ _ ⟨rfl, rfl⟩
    refine JL.step (y_move rfl) rfl rfl rfl (JL.step (y_extract rfl rfl) rfl rfl rfl (JL.step (y_extract rfl rfl) rfl rfl rfl ?_))
    refine JL.loud rfl (l_storeAll hT rfl rfl rfl (by (first | rfl | assumption | (simp; done) | omega)) (by (first | assumption | exact ones_of rfl | exact encW_one _ | exact encB_one _ | (intro u hu; simp at hu; rcases hu with rfl | rfl <;> rfl) | (intro u hu; simp at hu; subst hu; rfl) | simp)) (by (repeat (first | exact Pick.head | apply Pick.tail | apply Pick.app))) (by (first | rfl | assumption | (simp; done) | omega)) ?_)
    refine JL.step (y_assign rfl) rfl rfl rfl ?_
    refine JL.nil ?_
    refine JE.then_normal ?_
    refine J.seq ?_
    refine J.seq ?_
    refine J.region ?_
    refine JL.step (y_move rfl) rfl rfl rfl (JL.step (y_not rfl) rfl rfl rfl ?_)
    refine JL.nil ?_
    refine JE.then_normal ?_
    first | apply J.cond_dec rfl | apply J.cond rfl
    case' ht =>
      intro h
      try (first | (exfalso; omega) | (cases h; done) | (exfalso; simp at h; done) | subst h)
      all_goals
        refine J.seq ?_
        refine J.region ?_
        refine JL.step (y_loadN hT rfl rfl rfl (by (first | exact RdN.rowAll (by (repeat (first | exact Pick.head | apply Pick.tail | apply Pick.app))) | exact RdN.own (by (repeat (first | exact Pick.head | apply Pick.tail | apply Pick.app))))) (by (first | rfl | assumption | (simp; done) | omega))) rfl rfl rfl ?_
        refine JL.loud rfl (l_storeAll hT rfl rfl rfl (by (first | rfl | assumption | (simp; done) | omega)) (by (first | assumption | exact ones_of rfl | exact encW_one _ | exact encB_one _ | (intro u hu; simp at hu; rcases hu with rfl | rfl <;> rfl) | (intro u hu; simp at hu; subst hu; rfl) | simp)) (by (repeat (first | exact Pick.head | apply Pick.tail | apply Pick.app))) (by (first | rfl | assumption | (simp; done) | omega)) ?_)
        refine JL.step (y_assign rfl) rfl rfl rfl ?_
        refine JL.nil ?_
        refine JE.then_normal ?_
        refine J.ret ?_
        refine JE.then_ret ?_
        refine JE.ret2 (.inl rfl) rfl rfl (by (first | exact RV.tmp rfl | exact RV.cell1 hT rfl rfl rfl (by (exact Rd1.row (by (repeat (first | exact Pick.head | apply Pick.tail | apply Pick.app))) (by rfl))) | exact RV.cellN hT rfl rfl rfl (by (first | exact RdN.rowAll (by (repeat (first | exact Pick.head | apply Pick.tail | apply Pick.app))) | exact RdN.own (by (repeat (first | exact Pick.head | apply Pick.tail | apply Pick.app))))) (by (first | rfl | assumption | (simp; done) | omega)))) (by (first | exact RV.tmp rfl | exact RV.cell1 hT rfl rfl rfl (by (exact Rd1.row (by (repeat (first | exact Pick.head | apply Pick.tail | apply Pick.app))) (by rfl))) | exact RV.cellN hT rfl rfl rfl (by (first | exact RdN.rowAll (by (repeat (first | exact Pick.head | apply Pick.tail | apply Pick.app))) | exact RdN.own (by (repeat (first | exact Pick.head | apply Pick.tail | apply Pick.app))))) (by (first | rfl | assumption | (simp; done) | omega)))) ?_
        first
          | (refine ⟨l, fun w q => q.sup (by (repeat (first | exact Sup.refl | apply Sup.cons (by (repeat (first | exact Pick.head | apply Pick.tail | apply Pick.app))) | apply Sup.app | apply Sup.skip | apply Sup.skips))), x, [], ?_, ?_, rfl, fun m hm => hm⟩
             · unfold Rk.sync; rw [h]; rfl
             · unfold Rk.sync; rw [h]; rfl
             done)
          | (refine ⟨l, fun w q => q.sup (by (repeat (first | exact Sup.refl | apply Sup.cons (by (repeat (first | exact Pick.head | apply Pick.tail | apply Pick.app))) | apply Sup.app | apply Sup.skip | apply Sup.skips))), { x with k := x.k.done.1 }, [], ?_, ?_, rfl, fun m hm => hm.done⟩ <;> simp_all [Rk.sync]
             done)
          | (refine ⟨g ++ l, fun w q => q.sup (by (repeat (first | exact Sup.refl | apply Sup.cons (by (repeat (first | exact Pick.head | apply Pick.tail | apply Pick.app))) | apply Sup.app | apply Sup.skip | apply Sup.skips))), x', g, ?_, ?_, rfl, fun m _ => hxi m⟩ <;> simp_all [Rk.sync]
             done)
    case' hf =>
      intro h
      try (first | (exfalso; omega) | (cases h; done) | (exfalso; simp at h; done) | subst h)
      all_goals
        refine J.skip ?_
    all_goals refine JE.then_normal ?_
    all_goals
      refine J.seq ?_
      have hxd := hx.done
      refine J.draw _ _ [(0, .q), (1, .q), (2, .l), (3, .l), (4, .l), (5, .q)] mixed (by kernel_rfl) (Split.cons (Pick.tail Pick.head) (Split.nil)) ?_
      refine JM.quiet rfl rfl rfl rfl (fun m => y_loadN hT rfl rfl rfl (by (first | exact RdN.rowAll (Pick.app m (by (repeat (first | exact Pick.head | apply Pick.tail | apply Pick.app)))) | exact RdN.own (Pick.app m (by (repeat (first | exact Pick.head | apply Pick.tail | apply Pick.app)))))) (by (first | rfl | assumption | (simp; done) | omega))) ?_
      refine JM.quiet rfl rfl rfl rfl (fun m => y_loadN hT rfl rfl rfl (by (first | exact RdN.rowAll (Pick.app m (by (repeat (first | exact Pick.head | apply Pick.tail | apply Pick.app)))) | exact RdN.own (Pick.app m (by (repeat (first | exact Pick.head | apply Pick.tail | apply Pick.app)))))) (by (first | rfl | assumption | (simp; done) | omega))) ?_
      refine JM.loud rfl rfl (fun fr => l_callF e83 rfl rfl (rall_spec E x.k.done.1 x.sa x.sc x.pa x.pc _ (by omega)) ?_)
      rintro _ _ ⟨bk, rfl, rfl⟩
      refine ⟨[_, _], (by (repeat (first | exact Split.nil | exact Split.all | refine Split.cons Pick.head ?_))), ?_⟩
      refine JM.loud rfl rfl (fun fr => l_callF e82 rfl rfl (rlive_all E { x with k := x.k.done.1 } bk _ (by (repeat (first | assumption | apply Rv.In.cons | apply Rv.In.app))) (InL.ofRow Pick.head (by unfold maxLen; dsimp only; omega)) (by dsimp only; omega)) ?_)
      rintro _ _ ⟨x', g, rfl, hk, rfl, hxi⟩
      refine ⟨_ :: _ :: g, Split.cons (Pick.app g Pick.head) (Split.cons (Pick.app g Pick.head) Split.all), ?_⟩
      refine JM.loud rfl rfl (fun fr => l_storeAll hT rfl rfl rfl rfl (ones_of rfl) (by (repeat (first | exact Pick.head | apply Pick.tail | apply Pick.app))) rfl ⟨_ :: _ :: g, Split.cons Pick.head (Split.cons Pick.head Split.all), ?_⟩)
      refine JM.quiet rfl rfl rfl rfl (fun m => y_assign rfl) ?_
      refine JM.nil ?_
      refine JE.then_normal ?_
      refine J.ret ?_
      refine JE.ret2 (.inl rfl) rfl rfl (by (first | exact RV.tmp rfl | exact RV.cell1 hT rfl rfl rfl (by (exact Rd1.row (by (repeat (first | exact Pick.head | apply Pick.tail | apply Pick.app))) (by rfl))) | exact RV.cellN hT rfl rfl rfl (by (first | exact RdN.rowAll (by (repeat (first | exact Pick.head | apply Pick.tail | apply Pick.app))) | exact RdN.own (by (repeat (first | exact Pick.head | apply Pick.tail | apply Pick.app))))) (by (first | rfl | assumption | (simp; done) | omega)))) (by (first | exact RV.tmp rfl | exact RV.cell1 hT rfl rfl rfl (by (exact Rd1.row (by (repeat (first | exact Pick.head | apply Pick.tail | apply Pick.app))) (by rfl))) | exact RV.cellN hT rfl rfl rfl (by (first | exact RdN.rowAll (by (repeat (first | exact Pick.head | apply Pick.tail | apply Pick.app))) | exact RdN.own (by (repeat (first | exact Pick.head | apply Pick.tail | apply Pick.app))))) (by (first | rfl | assumption | (simp; done) | omega)))) ?_
      first
        | (refine ⟨l, fun w q => q.sup (by (repeat (first | exact Sup.refl | apply Sup.cons (by (repeat (first | exact Pick.head | apply Pick.tail | apply Pick.app))) | apply Sup.app | apply Sup.skip | apply Sup.skips))), x, [], ?_, ?_, rfl, fun m hm => hm⟩
           · unfold Rk.sync; rw [h]; rfl
           · unfold Rk.sync; rw [h]; rfl
           done)
        | (refine ⟨l, fun w q => q.sup (by (repeat (first | exact Sup.refl | apply Sup.cons (by (repeat (first | exact Pick.head | apply Pick.tail | apply Pick.app))) | apply Sup.app | apply Sup.skip | apply Sup.skips))), { x with k := x.k.done.1 }, [], ?_, ?_, rfl, fun m hm => hm.done⟩ <;> simp_all [Rk.sync]
           done)
        | (refine ⟨g ++ l, fun w q => q.sup (by (repeat (first | exact Sup.refl | apply Sup.cons (by (repeat (first | exact Pick.head | apply Pick.tail | apply Pick.app))) | apply Sup.app | apply Sup.skip | apply Sup.skips))), x', g, ?_, ?_, rfl, fun m _ => hxi m⟩ <;> simp_all [Rk.sync]
           done)
theorem rwrite_spec (x : Rv) (i : Int) (b : Blk) (l : List HProp) (hx : x.In l) (hb : b.length = 64) (hn : x.k.pending.length ≤ 1000000) :
    Fc prog E 57 [.agg (encR x).toArray, .int .i64 i, .agg (encB b).toArray].toArray l (fun v l' => ∃ x' g, v = .tuple #[.agg (encR x').toArray, .int .i64 (x.k.write i b).2] ∧ x'.k = (x.k.write i b).1 ∧ l' = g ++ l ∧ ∀ m, x.In m → x'.In (g ++ m)) := by
  refine Fc.post ?_
  have hlf := hx.ok.left
  have hBl : (encB b).length = 64 := by rw [encB_length]; exact hb
  have hWl : (encW (i, b)).length = 65 := by simp [encW, hb]
  have hpl : x.k.done.1.pending.length = x.k.pending.length := by rw [done_pending]
  have hsegW := hx.done.ok.segW
  have h1 : ∀ u ∈ x.k.done.1.pending.flatMap encW, u.oneCell' = true := by
    intro u hu
    obtain ⟨b, _, hb⟩ := List.mem_flatMap.1 hu
    exact encW_one b u hb
  have hpx : InL l x.pa x.k.done.1.pending.length x.pc (x.k.done.1.pending.flatMap encW) := hx.done.pend
  refine Fc.of_body (c := ?c) Try.func57 ?hb Try.ntmps57 ?hl ?_
  case hb => exact rfl
  case hl => exact rfl
  refine J.seq ?_
  refine J.region ?_
  refine JL.loud rfl (l_box rfl (by (first | rfl | simp)) rfl (fun b1 => ?_))
  refine JL.loud rfl (l_box rfl (by (first | rfl | simp)) rfl (fun b2 => ?_))
  refine JL.loud rfl (l_alloc hT rfl rfl (by (first | rfl | simp)) rfl (fun b3 => ?_))
  refine JL.step (y_assign rfl) rfl rfl rfl ?_
  refine JL.nil ?_
  refine JE.then_normal ?_
  refine J.seq ?_
  refine J.seq ?_
  refine J.region ?_
  refine JL.step (y_fieldAddr hT rfl rfl rfl rfl rfl rfl) rfl rfl rfl ?_
  refine JL.step (y_load1 hT rfl rfl rfl (by (exact Rd1.row (by (repeat (first | exact Pick.head | apply Pick.tail | apply Pick.app))) (by rfl)))) rfl rfl rfl ?_
  refine JL.nil ?_
  refine JE.then_normal ?_
  first | apply J.cond_dec rfl | apply J.cond rfl
  case' ht =>
    intro h
    try (first | (exfalso; omega) | (cases h; done) | (exfalso; simp at h; done) | subst h)
    all_goals
      refine J.seq ?_
      refine J.region ?_
      refine JL.step (y_loadN hT rfl rfl rfl (by (first | exact RdN.rowAll (by (repeat (first | exact Pick.head | apply Pick.tail | apply Pick.app))) | exact RdN.own (by (repeat (first | exact Pick.head | apply Pick.tail | apply Pick.app))))) (by (first | rfl | assumption | (simp; done) | omega))) rfl rfl rfl ?_
      refine JL.loud rfl (l_storeAll hT rfl rfl rfl (by (first | rfl | assumption | (simp; done) | omega)) (by (first | assumption | exact ones_of rfl | exact encW_one _ | exact encB_one _ | (intro u hu; simp at hu; rcases hu with rfl | rfl <;> rfl) | (intro u hu; simp at hu; subst hu; rfl) | simp)) (by (repeat (first | exact Pick.head | apply Pick.tail | apply Pick.app))) (by (first | rfl | assumption | (simp; done) | omega)) ?_)
      refine JL.step (y_assign rfl) rfl rfl rfl ?_
      refine JL.nil ?_
      refine JE.then_normal ?_
      refine J.ret ?_
      refine JE.then_ret ?_
      refine JE.ret2 (.inl rfl) rfl rfl (by (first | exact RV.tmp rfl | exact RV.cell1 hT rfl rfl rfl (by (exact Rd1.row (by (repeat (first | exact Pick.head | apply Pick.tail | apply Pick.app))) (by rfl))) | exact RV.cellN hT rfl rfl rfl (by (first | exact RdN.rowAll (by (repeat (first | exact Pick.head | apply Pick.tail | apply Pick.app))) | exact RdN.own (by (repeat (first | exact Pick.head | apply Pick.tail | apply Pick.app))))) (by (first | rfl | assumption | (simp; done) | omega)))) (by (first | exact RV.tmp rfl | exact RV.cell1 hT rfl rfl rfl (by (exact Rd1.row (by (repeat (first | exact Pick.head | apply Pick.tail | apply Pick.app))) (by rfl))) | exact RV.cellN hT rfl rfl rfl (by (first | exact RdN.rowAll (by (repeat (first | exact Pick.head | apply Pick.tail | apply Pick.app))) | exact RdN.own (by (repeat (first | exact Pick.head | apply Pick.tail | apply Pick.app))))) (by (first | rfl | assumption | (simp; done) | omega)))) ?_
      first
        | (refine ⟨l, fun w q => q.sup (by (repeat (first | exact Sup.refl | apply Sup.cons (by (repeat (first | exact Pick.head | apply Pick.tail | apply Pick.app))) | apply Sup.app | apply Sup.skip | apply Sup.skips))), x, [], ?_, ?_, rfl, fun m hm => hm⟩
           · unfold Rk.write; rw [h]; rfl
           · unfold Rk.write; rw [h]; rfl
           done)
        | (refine ⟨l, fun w q => q.sup (by (repeat (first | exact Sup.refl | apply Sup.cons (by (repeat (first | exact Pick.head | apply Pick.tail | apply Pick.app))) | apply Sup.app | apply Sup.skip | apply Sup.skips))), x, [], ?_, ?_, rfl, fun m hm => hm⟩ <;> simp_all [Rk.write] <;> omega
           done)
        | (have hkw : x.k.write i b = (x.k.done.1, 7) := by
             have h2 : x.k.done.2 = false := by simpa using h
             have h3 : ¬ (i < 0 ∨ (x.k.safe.length : Int) ≤ i) := by omega
             simp_all [Rk.write]
           rw [hkw]
           exact ⟨l, fun w q => q.sup (by (repeat (first | exact Sup.refl | apply Sup.cons (by (repeat (first | exact Pick.head | apply Pick.tail | apply Pick.app))) | apply Sup.app | apply Sup.skip | apply Sup.skips))), { x with k := x.k.done.1 }, [], rfl, rfl, rfl, fun m hm => hm.done⟩)
        | (rw [e1, e2] at oq ⊢
           have hxd := hx.done.ok
           have hkw : x.k.write i b = ({ x.k.done.1 with pending := x.k.pending ++ [(i, b)] }, 0) := by
             have h2 : x.k.done.2 = true := by simpa using h
             have h3 : ¬ (i < 0 ∨ (x.k.safe.length : Int) ≤ i) := by omega
             simp_all [Rk.write]
           rw [hkw]
           refine ⟨[own 108 65 (.slice ab11 _ cb11) _ _] ++ l, fun w q => q.sup (by (repeat (first | exact Sup.refl | apply Sup.cons (by (repeat (first | exact Pick.head | apply Pick.tail | apply Pick.app))) | apply Sup.app | apply Sup.skip | apply Sup.skips))), ⟨{ x.k.done.1 with pending := x.k.pending ++ [(i, b)] }, x.sa, x.sc, ab11, cb11⟩, _, rfl, rfl, rfl, fun m hm => ⟨⟨hxd.safe, fun p hp => ?_, hxd.most, hxd.left⟩, hm.done.safe.cons _, oq.inl Pick.head⟩⟩
           rcases List.mem_append.1 hp with hp | hp
           · exact hxd.pend p (by rw [done_pending]; exact hp)
           · obtain rfl := List.mem_singleton.1 hp
             exact ⟨hb, by rw [done_safe]; omega⟩)
  case' hf =>
    intro h
    try (first | (exfalso; omega) | (cases h; done) | (exfalso; simp at h; done) | subst h)
    all_goals
      refine J.skip ?_
  all_goals refine JE.then_normal ?_
  all_goals
    refine J.seq ?_
    refine J.seq ?_
    refine J.region ?_
    refine JL.step (y_move rfl) rfl rfl rfl (JL.step (y_lss rfl rfl) rfl rfl rfl (JL.step (y_move rfl) rfl rfl rfl ?_))
    all_goals (first | (refine JL.gsplit_dec rfl rfl rfl (fun h => ?_) (fun h => ?_) <;> try (first | (exfalso; omega) | exact absurd rfl h)) | (refine JL.gsplit rfl rfl rfl (fun h => ?_) (fun h => ?_) <;> try (first | cases h | (exfalso; simp at h; done))) | skip)
    all_goals (first | refine JL.gskip rfl rfl rfl rfl rfl rfl ?_ | refine JL.gskipU rfl rfl rfl rfl rfl ?_ | refine JL.gstep rfl rfl rfl (y_move rfl) rfl rfl ?_)
    all_goals (first | refine JL.gskip rfl rfl rfl rfl rfl rfl ?_ | refine JL.gskipU rfl rfl rfl rfl rfl ?_ | refine JL.gstep rfl rfl rfl (y_fieldAddr hT rfl rfl rfl rfl rfl rfl) rfl rfl ?_)
    all_goals (first | refine JL.gskip rfl rfl rfl rfl rfl rfl ?_ | refine JL.gskipU rfl rfl rfl rfl rfl ?_ | refine JL.gstep rfl rfl rfl (y_load1 hT rfl rfl rfl (by (exact Rd1.row (by (repeat (first | exact Pick.head | apply Pick.tail | apply Pick.app))) (by rfl)))) rfl rfl ?_)
    all_goals (first | refine JL.gskip rfl rfl rfl rfl rfl rfl ?_ | refine JL.gskipU rfl rfl rfl rfl rfl ?_ | refine JL.gstep rfl rfl rfl (y_len_slice hT rfl rfl rfl) rfl rfl ?_)
    all_goals (first | refine JL.gskip rfl rfl rfl rfl rfl rfl ?_ | refine JL.gskipU rfl rfl rfl rfl rfl ?_ | refine JL.gstep rfl rfl rfl (y_geq rfl rfl) rfl rfl ?_)
    all_goals (refine JL.step (y_pick rfl rfl rfl) rfl rfl rfl ?_)
    all_goals refine JL.nil ?_
    all_goals refine JE.then_normal ?_
    all_goals
      first | apply J.cond_dec rfl | apply J.cond rfl
      case' ht =>
        intro h
        try (first | (exfalso; omega) | (cases h; done) | (exfalso; simp at h; done) | subst h)
        all_goals
          refine J.seq ?_
          refine J.region ?_
          refine JL.step (y_loadN hT rfl rfl rfl (by (first | exact RdN.rowAll (by (repeat (first | exact Pick.head | apply Pick.tail | apply Pick.app))) | exact RdN.own (by (repeat (first | exact Pick.head | apply Pick.tail | apply Pick.app))))) (by (first | rfl | assumption | (simp; done) | omega))) rfl rfl rfl ?_
          refine JL.loud rfl (l_storeAll hT rfl rfl rfl (by (first | rfl | assumption | (simp; done) | omega)) (by (first | assumption | exact ones_of rfl | exact encW_one _ | exact encB_one _ | (intro u hu; simp at hu; rcases hu with rfl | rfl <;> rfl) | (intro u hu; simp at hu; subst hu; rfl) | simp)) (by (repeat (first | exact Pick.head | apply Pick.tail | apply Pick.app))) (by (first | rfl | assumption | (simp; done) | omega)) ?_)
          refine JL.step (y_assign rfl) rfl rfl rfl ?_
          refine JL.nil ?_
          refine JE.then_normal ?_
          refine J.ret ?_
          refine JE.then_ret ?_
          refine JE.ret2 (.inl rfl) rfl rfl (by (first | exact RV.tmp rfl | exact RV.cell1 hT rfl rfl rfl (by (exact Rd1.row (by (repeat (first | exact Pick.head | apply Pick.tail | apply Pick.app))) (by rfl))) | exact RV.cellN hT rfl rfl rfl (by (first | exact RdN.rowAll (by (repeat (first | exact Pick.head | apply Pick.tail | apply Pick.app))) | exact RdN.own (by (repeat (first | exact Pick.head | apply Pick.tail | apply Pick.app))))) (by (first | rfl | assumption | (simp; done) | omega)))) (by (first | exact RV.tmp rfl | exact RV.cell1 hT rfl rfl rfl (by (exact Rd1.row (by (repeat (first | exact Pick.head | apply Pick.tail | apply Pick.app))) (by rfl))) | exact RV.cellN hT rfl rfl rfl (by (first | exact RdN.rowAll (by (repeat (first | exact Pick.head | apply Pick.tail | apply Pick.app))) | exact RdN.own (by (repeat (first | exact Pick.head | apply Pick.tail | apply Pick.app))))) (by (first | rfl | assumption | (simp; done) | omega)))) ?_
          first
            | (refine ⟨l, fun w q => q.sup (by (repeat (first | exact Sup.refl | apply Sup.cons (by (repeat (first | exact Pick.head | apply Pick.tail | apply Pick.app))) | apply Sup.app | apply Sup.skip | apply Sup.skips))), x, [], ?_, ?_, rfl, fun m hm => hm⟩
               · unfold Rk.write; rw [h]; rfl
               · unfold Rk.write; rw [h]; rfl
               done)
            | (refine ⟨l, fun w q => q.sup (by (repeat (first | exact Sup.refl | apply Sup.cons (by (repeat (first | exact Pick.head | apply Pick.tail | apply Pick.app))) | apply Sup.app | apply Sup.skip | apply Sup.skips))), x, [], ?_, ?_, rfl, fun m hm => hm⟩ <;> simp_all [Rk.write] <;> omega
               done)
            | (have hkw : x.k.write i b = (x.k.done.1, 7) := by
                 have h2 : x.k.done.2 = false := by simpa using h
                 have h3 : ¬ (i < 0 ∨ (x.k.safe.length : Int) ≤ i) := by omega
                 simp_all [Rk.write]
               rw [hkw]
               exact ⟨l, fun w q => q.sup (by (repeat (first | exact Sup.refl | apply Sup.cons (by (repeat (first | exact Pick.head | apply Pick.tail | apply Pick.app))) | apply Sup.app | apply Sup.skip | apply Sup.skips))), { x with k := x.k.done.1 }, [], rfl, rfl, rfl, fun m hm => hm.done⟩)
            | (rw [e1, e2] at oq ⊢
               have hxd := hx.done.ok
               have hkw : x.k.write i b = ({ x.k.done.1 with pending := x.k.pending ++ [(i, b)] }, 0) := by
                 have h2 : x.k.done.2 = true := by simpa using h
                 have h3 : ¬ (i < 0 ∨ (x.k.safe.length : Int) ≤ i) := by omega
                 simp_all [Rk.write]
               rw [hkw]
               refine ⟨[own 108 65 (.slice ab11 _ cb11) _ _] ++ l, fun w q => q.sup (by (repeat (first | exact Sup.refl | apply Sup.cons (by (repeat (first | exact Pick.head | apply Pick.tail | apply Pick.app))) | apply Sup.app | apply Sup.skip | apply Sup.skips))), ⟨{ x.k.done.1 with pending := x.k.pending ++ [(i, b)] }, x.sa, x.sc, ab11, cb11⟩, _, rfl, rfl, rfl, fun m hm => ⟨⟨hxd.safe, fun p hp => ?_, hxd.most, hxd.left⟩, hm.done.safe.cons _, oq.inl Pick.head⟩⟩
               rcases List.mem_append.1 hp with hp | hp
               · exact hxd.pend p (by rw [done_pending]; exact hp)
               · obtain rfl := List.mem_singleton.1 hp
                 exact ⟨hb, by rw [done_safe]; omega⟩)
      case' hf =>
        intro h
        try (first | (exfalso; omega) | (cases h; done) | (exfalso; simp at h; done) | subst h)
        all_goals
          refine J.skip ?_
    all_goals refine JE.then_normal ?_
    all_goals
      refine J.seq ?_
      refine J.region ?_
      refine JL.step (y_loadN hT rfl rfl rfl (by (first | exact RdN.rowAll (by (repeat (first | exact Pick.head | apply Pick.tail | apply Pick.app))) | exact RdN.own (by (repeat (first | exact Pick.head | apply Pick.tail | apply Pick.app))))) (by (first | rfl | assumption | (simp; done) | omega))) rfl rfl rfl ?_
      refine JL.loud rfl (l_callF e81 rfl rfl (rdone_spec E x _ hlf) ?_)
      rintro _ _ ⟨rfl, rfl⟩
      refine JL.step (y_move rfl) rfl rfl rfl (JL.step (y_extract rfl rfl) rfl rfl rfl (JL.step (y_extract rfl rfl) rfl rfl rfl ?_))
      refine JL.loud rfl (l_storeAll hT rfl rfl rfl (by (first | rfl | assumption | (simp; done) | omega)) (by (first | assumption | exact ones_of rfl | exact encW_one _ | exact encB_one _ | (intro u hu; simp at hu; rcases hu with rfl | rfl <;> rfl) | (intro u hu; simp at hu; subst hu; rfl) | simp)) (by (repeat (first | exact Pick.head | apply Pick.tail | apply Pick.app))) (by (first | rfl | assumption | (simp; done) | omega)) ?_)
      refine JL.step (y_assign rfl) rfl rfl rfl ?_
      refine JL.nil ?_
      refine JE.then_normal ?_
      refine J.seq ?_
      refine J.seq ?_
      refine J.region ?_
      refine JL.step (y_move rfl) rfl rfl rfl (JL.step (y_not rfl) rfl rfl rfl ?_)
      refine JL.nil ?_
      refine JE.then_normal ?_
      first | apply J.cond_dec rfl | apply J.cond rfl
      case' ht =>
        intro h
        try (first | (exfalso; omega) | (cases h; done) | (exfalso; simp at h; done) | subst h)
        all_goals
          refine J.seq ?_
          refine J.region ?_
          refine JL.step (y_loadN hT rfl rfl rfl (by (first | exact RdN.rowAll (by (repeat (first | exact Pick.head | apply Pick.tail | apply Pick.app))) | exact RdN.own (by (repeat (first | exact Pick.head | apply Pick.tail | apply Pick.app))))) (by (first | rfl | assumption | (simp; done) | omega))) rfl rfl rfl ?_
          refine JL.loud rfl (l_storeAll hT rfl rfl rfl (by (first | rfl | assumption | (simp; done) | omega)) (by (first | assumption | exact ones_of rfl | exact encW_one _ | exact encB_one _ | (intro u hu; simp at hu; rcases hu with rfl | rfl <;> rfl) | (intro u hu; simp at hu; subst hu; rfl) | simp)) (by (repeat (first | exact Pick.head | apply Pick.tail | apply Pick.app))) (by (first | rfl | assumption | (simp; done) | omega)) ?_)
          refine JL.step (y_assign rfl) rfl rfl rfl ?_
          refine JL.nil ?_
          refine JE.then_normal ?_
          refine J.ret ?_
          refine JE.then_ret ?_
          refine JE.ret2 (.inl rfl) rfl rfl (by (first | exact RV.tmp rfl | exact RV.cell1 hT rfl rfl rfl (by (exact Rd1.row (by (repeat (first | exact Pick.head | apply Pick.tail | apply Pick.app))) (by rfl))) | exact RV.cellN hT rfl rfl rfl (by (first | exact RdN.rowAll (by (repeat (first | exact Pick.head | apply Pick.tail | apply Pick.app))) | exact RdN.own (by (repeat (first | exact Pick.head | apply Pick.tail | apply Pick.app))))) (by (first | rfl | assumption | (simp; done) | omega)))) (by (first | exact RV.tmp rfl | exact RV.cell1 hT rfl rfl rfl (by (exact Rd1.row (by (repeat (first | exact Pick.head | apply Pick.tail | apply Pick.app))) (by rfl))) | exact RV.cellN hT rfl rfl rfl (by (first | exact RdN.rowAll (by (repeat (first | exact Pick.head | apply Pick.tail | apply Pick.app))) | exact RdN.own (by (repeat (first | exact Pick.head | apply Pick.tail | apply Pick.app))))) (by (first | rfl | assumption | (simp; done) | omega)))) ?_
          first
            | (refine ⟨l, fun w q => q.sup (by (repeat (first | exact Sup.refl | apply Sup.cons (by (repeat (first | exact Pick.head | apply Pick.tail | apply Pick.app))) | apply Sup.app | apply Sup.skip | apply Sup.skips))), x, [], ?_, ?_, rfl, fun m hm => hm⟩
               · unfold Rk.write; rw [h]; rfl
               · unfold Rk.write; rw [h]; rfl
               done)
            | (refine ⟨l, fun w q => q.sup (by (repeat (first | exact Sup.refl | apply Sup.cons (by (repeat (first | exact Pick.head | apply Pick.tail | apply Pick.app))) | apply Sup.app | apply Sup.skip | apply Sup.skips))), x, [], ?_, ?_, rfl, fun m hm => hm⟩ <;> simp_all [Rk.write] <;> omega
               done)
            | (have hkw : x.k.write i b = (x.k.done.1, 7) := by
                 have h2 : x.k.done.2 = false := by simpa using h
                 have h3 : ¬ (i < 0 ∨ (x.k.safe.length : Int) ≤ i) := by omega
                 simp_all [Rk.write]
               rw [hkw]
               exact ⟨l, fun w q => q.sup (by (repeat (first | exact Sup.refl | apply Sup.cons (by (repeat (first | exact Pick.head | apply Pick.tail | apply Pick.app))) | apply Sup.app | apply Sup.skip | apply Sup.skips))), { x with k := x.k.done.1 }, [], rfl, rfl, rfl, fun m hm => hm.done⟩)
            | (rw [e1, e2] at oq ⊢
               have hxd := hx.done.ok
               have hkw : x.k.write i b = ({ x.k.done.1 with pending := x.k.pending ++ [(i, b)] }, 0) := by
                 have h2 : x.k.done.2 = true := by simpa using h
                 have h3 : ¬ (i < 0 ∨ (x.k.safe.length : Int) ≤ i) := by omega
                 simp_all [Rk.write]
               rw [hkw]
               refine ⟨[own 108 65 (.slice ab11 _ cb11) _ _] ++ l, fun w q => q.sup (by (repeat (first | exact Sup.refl | apply Sup.cons (by (repeat (first | exact Pick.head | apply Pick.tail | apply Pick.app))) | apply Sup.app | apply Sup.skip | apply Sup.skips))), ⟨{ x.k.done.1 with pending := x.k.pending ++ [(i, b)] }, x.sa, x.sc, ab11, cb11⟩, _, rfl, rfl, rfl, fun m hm => ⟨⟨hxd.safe, fun p hp => ?_, hxd.most, hxd.left⟩, hm.done.safe.cons _, oq.inl Pick.head⟩⟩
               rcases List.mem_append.1 hp with hp | hp
               · exact hxd.pend p (by rw [done_pending]; exact hp)
               · obtain rfl := List.mem_singleton.1 hp
                 exact ⟨hb, by rw [done_safe]; omega⟩)
      case' hf =>
        intro h
        try (first | (exfalso; omega) | (cases h; done) | (exfalso; simp at h; done) | subst h)
        all_goals
          refine J.skip ?_
      all_goals refine JE.then_normal ?_
      all_goals
        refine J.seq ?_
        refine J.draw _ _ [(1, .q), (4, .q), (5, .q), (6, .q), (2, .l), (0, .n), (3, .l), (7, .n), (8, .l), (9, .q), (10, .l)] mixed (by kernel_rfl) (Split.cons (Pick.head) (Split.nil)) ?_
        refine JM.quiet rfl rfl rfl rfl (fun m => y_fieldAddr hT rfl rfl rfl rfl rfl rfl) ?_
        refine JM.quiet rfl rfl rfl rfl (fun m => y_move rfl) ?_
        refine JM.quiet rfl rfl rfl rfl (fun m => y_loadN hT rfl rfl rfl (RdN.row (n := 64) (vs := encB b) (Pick.app m (by (repeat (first | exact Pick.head | apply Pick.tail | apply Pick.app)))) (by simp [List.take_of_length_le, hb])) hBl) ?_
        refine JM.quiet rfl rfl rfl rfl (fun m => y_build (cs := encW (i, b)) hT rfl rfl rfl rfl rfl rfl ⟨⟨rfl, Nat.le_of_ble_eq_true rfl⟩, ⟨hBl, Nat.le_of_ble_eq_true rfl⟩, trivial⟩ (fillE_two rfl hBl)) ?_
        refine JM.loud rfl rfl (fun fr => LS.ofY rfl rfl (y_load1 hT rfl rfl rfl (by (exact Rd1.row (by (repeat (first | exact Pick.head | apply Pick.tail | apply Pick.app))) (by rfl)))) ⟨[_], (by (repeat (first | exact Split.nil | exact Split.all | refine Split.cons Pick.head ?_))), ?_⟩)
        refine JM.lay rfl rfl rfl rfl (fun a hf => lays_buildSlice0 hT rfl rfl rfl) (fun b9 => ?_)
        refine JM.loud rfl rfl (fun fr => LS.pre (fun w s => Sat.own_zero (size := 65) (s.pick (by (repeat (first | exact Pick.head | apply Pick.tail | apply Pick.app))))) (l_appendIn (m := x.k.done.1.pending.length) hT rfl rfl rfl rfl rfl rfl rfl rfl Pick.head (by (repeat (first | assumption | apply InL.cons | apply InL.app))) (by rw [seg_len hsegW]; rfl) h1 (by rw [show i108.bytes = 72 from rfl]; omega) (by omega) rfl (fun a1 c1 hc1 => ⟨[_, _], (by (repeat (first | exact Split.nil | exact Split.all | refine Split.cons Pick.head ?_))), ?_⟩)))
        refine JM.lay rfl rfl rfl rfl (fun a hf => lays_buildSlice hT rfl rfl rfl rfl hf rfl rfl rfl (by (first | exact fill_one rfl (by first | assumption | rfl | (simp; done)) | rfl | simp))) (fun b10 => ?_)
        refine JM.loud rfl rfl (fun fr => l_append hT rfl rfl rfl rfl rfl rfl rfl rfl (by (repeat (first | exact Pick.head | apply Pick.tail | apply Pick.app))) (by (first | exact RdN.rowAll (by (repeat (first | exact Pick.head | apply Pick.tail | apply Pick.app))) | exact RdN.own (by (repeat (first | exact Pick.head | apply Pick.tail | apply Pick.app))))) (by (first | rfl | assumption | (simp; done) | omega)) (by (first | assumption | exact ones_of rfl | exact encW_one _ | exact encB_one _ | (intro u hu; simp at hu; rcases hu with rfl | rfl <;> rfl) | (intro u hu; simp at hu; subst hu; rfl) | simp)) (by (exact Nat.le_trans (Nat.mul_le_mul_left _ (Nat.le_of_ble_eq_true rfl : _ ≤ 4096)) (by omega))) (by (first | omega | exact Nat.le_of_ble_eq_true rfl | decide | (simp; omega))) rfl (fun ab11 cb11 hb11 => ⟨[_, _, _], (by (repeat (first | exact Split.nil | exact Split.all | refine Split.cons Pick.head ?_))), ?_⟩))
        refine JM.quiet rfl rfl rfl rfl (fun m => y_fieldAddr hT rfl rfl rfl rfl rfl rfl) ?_
        refine JM.loud rfl rfl (fun fr => l_store1 hT rfl rfl rfl rfl rfl (by (repeat (first | exact Pick.head | apply Pick.tail | apply Pick.app))) (by (first | omega | exact Nat.le_of_ble_eq_true rfl | decide | (simp; omega))) (⟨[_, _, _], (by (repeat (first | exact Split.nil | exact Split.all | refine Split.cons Pick.head ?_))), ?_⟩))
        refine JM.nil ?_
        refine JE.then_normal ?_
        refine J.seq ?_
        refine J.fact (fun w s => Sat.own_at (a := ab11) (s.pick (by (repeat (first | exact Pick.head | apply Pick.tail | apply Pick.app))))) fun oq => ?_
        have e1 : 0 + x.k.done.1.pending.length + 1 = (x.k.pending ++ [(i, b)]).length := by rw [hpl]; simp
        have e2 : [] ++ x.k.done.1.pending.flatMap encW ++ encW (i, b) = (x.k.pending ++ [(i, b)]).flatMap encW := by rw [done_pending]; simp
        refine J.region ?_
        refine JL.step (y_loadN hT rfl rfl rfl (by (first | exact RdN.rowAll (by (repeat (first | exact Pick.head | apply Pick.tail | apply Pick.app))) | exact RdN.own (by (repeat (first | exact Pick.head | apply Pick.tail | apply Pick.app))))) (by (first | rfl | assumption | (simp; done) | omega))) rfl rfl rfl ?_
        refine JL.loud rfl (l_storeAll hT rfl rfl rfl (by (first | rfl | assumption | (simp; done) | omega)) (by (first | assumption | exact ones_of rfl | exact encW_one _ | exact encB_one _ | (intro u hu; simp at hu; rcases hu with rfl | rfl <;> rfl) | (intro u hu; simp at hu; subst hu; rfl) | simp)) (by (repeat (first | exact Pick.head | apply Pick.tail | apply Pick.app))) (by (first | rfl | assumption | (simp; done) | omega)) ?_)
        refine JL.step (y_assign rfl) rfl rfl rfl ?_
        refine JL.nil ?_
        refine JE.then_normal ?_
        refine J.ret ?_
        refine JE.ret2 (.inl rfl) rfl rfl (by (first | exact RV.tmp rfl | exact RV.cell1 hT rfl rfl rfl (by (exact Rd1.row (by (repeat (first | exact Pick.head | apply Pick.tail | apply Pick.app))) (by rfl))) | exact RV.cellN hT rfl rfl rfl (by (first | exact RdN.rowAll (by (repeat (first | exact Pick.head | apply Pick.tail | apply Pick.app))) | exact RdN.own (by (repeat (first | exact Pick.head | apply Pick.tail | apply Pick.app))))) (by (first | rfl | assumption | (simp; done) | omega)))) (by (first | exact RV.tmp rfl | exact RV.cell1 hT rfl rfl rfl (by (exact Rd1.row (by (repeat (first | exact Pick.head | apply Pick.tail | apply Pick.app))) (by rfl))) | exact RV.cellN hT rfl rfl rfl (by (first | exact RdN.rowAll (by (repeat (first | exact Pick.head | apply Pick.tail | apply Pick.app))) | exact RdN.own (by (repeat (first | exact Pick.head | apply Pick.tail | apply Pick.app))))) (by (first | rfl | assumption | (simp; done) | omega)))) ?_
        first
          | (refine ⟨l, fun w q => q.sup (by (repeat (first | exact Sup.refl | apply Sup.cons (by (repeat (first | exact Pick.head | apply Pick.tail | apply Pick.app))) | apply Sup.app | apply Sup.skip | apply Sup.skips))), x, [], ?_, ?_, rfl, fun m hm => hm⟩
             · unfold Rk.write; rw [h]; rfl
             · unfold Rk.write; rw [h]; rfl
             done)
          | (refine ⟨l, fun w q => q.sup (by (repeat (first | exact Sup.refl | apply Sup.cons (by (repeat (first | exact Pick.head | apply Pick.tail | apply Pick.app))) | apply Sup.app | apply Sup.skip | apply Sup.skips))), x, [], ?_, ?_, rfl, fun m hm => hm⟩ <;> simp_all [Rk.write] <;> omega
             done)
          | (have hkw : x.k.write i b = (x.k.done.1, 7) := by
               have h2 : x.k.done.2 = false := by simpa using h
               have h3 : ¬ (i < 0 ∨ (x.k.safe.length : Int) ≤ i) := by omega
               simp_all [Rk.write]
             rw [hkw]
             exact ⟨l, fun w q => q.sup (by (repeat (first | exact Sup.refl | apply Sup.cons (by (repeat (first | exact Pick.head | apply Pick.tail | apply Pick.app))) | apply Sup.app | apply Sup.skip | apply Sup.skips))), { x with k := x.k.done.1 }, [], rfl, rfl, rfl, fun m hm => hm.done⟩)
          | (rw [e1, e2] at oq ⊢
             have hxd := hx.done.ok
             have hkw : x.k.write i b = ({ x.k.done.1 with pending := x.k.pending ++ [(i, b)] }, 0) := by
               have h2 : x.k.done.2 = true := by simpa using h
               have h3 : ¬ (i < 0 ∨ (x.k.safe.length : Int) ≤ i) := by omega
               simp_all [Rk.write]
             rw [hkw]
             refine ⟨[own 108 65 (.slice ab11 _ cb11) _ _] ++ l, fun w q => q.sup (by (repeat (first | exact Sup.refl | apply Sup.cons (by (repeat (first | exact Pick.head | apply Pick.tail | apply Pick.app))) | apply Sup.app | apply Sup.skip | apply Sup.skips))), ⟨{ x.k.done.1 with pending := x.k.pending ++ [(i, b)] }, x.sa, x.sc, ab11, cb11⟩, _, rfl, rfl, rfl, fun m hm => ⟨⟨hxd.safe, fun p hp => ?_, hxd.most, hxd.left⟩, hm.done.safe.cons _, oq.inl Pick.head⟩⟩
             rcases List.mem_append.1 hp with hp | hp
             · exact hxd.pend p (by rw [done_pending]; exact hp)
             · obtain rfl := List.mem_singleton.1 hp
               exact ⟨hb, by rw [done_safe]; omega⟩)
end Go.Proofs.Ytilifeeddpkclaa
