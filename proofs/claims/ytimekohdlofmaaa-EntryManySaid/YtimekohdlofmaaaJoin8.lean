import Derived.Test.YtimekohdlofmaaaJoin7
namespace Go.Proofs.Ytimekohdlofmaaa
open Go Go.SL
attribute [local irreducible] J JL JE JM LS Y Fc RV Code.wp wpList Code.wpIn wpListIn
attribute [local irreducible] Yc
variable (E : World)
section
variable (lg st : Nat) (L : Lg) (l : List HProp)
/-- The transactions told, one by one; what tells them stays. -/
theorem lall2_spec (k b : Nat) (St Fin : Nat → List HProp)
    (hy : ∀ (fr : List HProp) (j : Nat) (tx : List Int) (a : Option Addr) (c : Nat), L.txs[j]? = some tx → Small tx → Yc prog E k [Value.int .i64 (j : Int), .slice a tx.length c].toArray (own 5 1 (.slice a tx.length c) tx.length (ints .u8 tx) :: (St j ++ fr))
      (fun v l' => (v = .bool true ∧ l' = St (j + 1) ++ fr) ∨ (v = .bool false ∧ l' = Fin j ++ fr))) :
    Fc prog E 67 [.func (.yield k) #[] #[], Value.pointer (some ⟨b, 0, none⟩)].toArray (row b 32 [.pointer (some ⟨lg, 0, none⟩)] :: logm lg st L :: (St 0 ++ l))
      (fun _ l' => l' = row b 32 [.pointer (some ⟨lg, 0, none⟩)] :: logm lg st L :: (St L.txs.length ++ l) ∨ ∃ j, j < L.txs.length ∧ l' = row b 32 [.pointer (some ⟨lg, 0, none⟩)] :: logm lg st L :: (Fin j ++ l)) := by
  refine Fc.on (Split.cons (Pick.tail Pick.head) Split.nil) ?_
  refine Fc.logm fun sv ta tc vals K hok => Fc.post ?_
  have hfew := hok.few
  refine Fc.of_body (c := ?codeC) Try.func67 ?hb Try.ntmps67 ?hl ?_
  case hb => exact rfl
  case hl => exact rfl
  refine J.seq ?_
  refine J.seq ?_
  refine J.region ?_
  refine JL.step (y_load1 hT rfl rfl rfl (by (exact Rd1.row (by (repeat (first | exact Pick.head | apply Pick.tail | apply Pick.app))) (by rfl)))) rfl rfl rfl ?_
  refine JL.step (y_ptr_eq_nil hT rfl rfl rfl rfl) rfl rfl rfl ?_
  refine JL.nil ?_
  refine JE.then_normal ?_
  refine J.cond_f rfl (by (first | rfl | assumption | (simp; done) | (simp; omega))) ?_
  refine J.skip ?_
  refine JE.then_normal ?_
  refine J.seq ?_
  refine J.region ?_
  refine JL.step (y_load1 hT rfl rfl rfl (by (exact Rd1.row (by (repeat (first | exact Pick.head | apply Pick.tail | apply Pick.app))) (by rfl)))) rfl rfl rfl ?_
  refine JL.step ((by first | exact y_nilCheck rfl | exact y_nilCheckF rfl | exact y_nilCheckY rfl)) rfl rfl rfl ?_
  refine JL.step (y_fieldAddr hT rfl rfl rfl rfl rfl rfl) rfl rfl rfl ?_
  refine JL.step (y_load1 hT rfl rfl rfl (by (exact Rd1.row (by (repeat (first | exact Pick.head | apply Pick.tail | apply Pick.app))) (by rfl)))) rfl rfl rfl ?_
  refine JL.step (y_len_slice hT rfl rfl rfl) rfl rfl rfl (JL.step (y_move rfl) rfl rfl rfl ?_)
  refine JL.nil ?_
  refine JE.then_normal ?_
  refine J.block ?_
  refine J.fact (p := OwnAt ta L.txs.length tc vals) (fun w s => Sat.own_at (s.pick (by (repeat (first | exact Pick.head | apply Pick.tail | apply Pick.app))))) fun oa => ?_
  refine J.loop (α := Nat) (fun j => j ≤ L.txs.length) (fun j => [(0, .func (.yield k) #[] #[]), (1, .pointer (some ⟨b, 0, none⟩)), (10, .slice ta L.txs.length tc), (11, .int .i64 L.txs.length), (12, .int .i64 j)]) (fun j => St j ++ (row lg 78 (lcells st sv (.slice ta L.txs.length tc) L) :: own 22 1 (.slice ta L.txs.length tc) L.txs.length vals :: K :: row b 32 [.pointer (some ⟨lg, 0, none⟩)] :: l)) (fun j => L.txs.length - j) 0 (Nat.zero_le _) ⟨rfl, rfl, rfl, rfl, rfl, trivial⟩ (fun w h => Sat.rot (p := [_, _, _, _]) (g := St 0) h) ?_
  intro j hj
  refine J.seq ?_
  refine J.region ?_
  refine JL.step (y_lss rfl rfl) rfl rfl rfl ?_
  refine JL.nil ?_
  refine JE.then_normal ?_
  refine J.seq ?_
  first | apply J.cond_dec rfl | apply J.cond rfl
  case' ht =>
    intro h
    try (first | (exfalso; omega) | (cases h; done) | (exfalso; simp at h; done) | subst h)
    all_goals
      refine J.skip ?_
  case' hf =>
    intro h
    try (first | (exfalso; omega) | (cases h; done) | (exfalso; simp at h; done) | subst h)
    all_goals
      refine J.exit ?_
      refine JE.then_exit ?_
      refine JE.then_exit ?_
      refine JE.block_exit ?_
      refine JE.ret0 (.inr rfl) rfl rfl  ?_
      first
        | (have zz := hlt
           refine ⟨_, fun w q => ?_, .inr ⟨j, hlt, rfl⟩⟩
           have s2 := Sat.rot (p := Fin j) (g := [row lg 78 _, own 22 1 _ L.txs.length vals, K, row b 32 _]) q
           exact (logm_shut (r := row b 32 _ :: (Fin j ++ l)) hok s2).sup (by (repeat (first | exact Sup.refl | apply Sup.cons (by (repeat (first | exact Pick.head | apply Pick.tail | apply Pick.app))) | apply Sup.app | apply Sup.skip | apply Sup.skips))))
        | (obtain rfl : j = L.txs.length := by omega
           refine ⟨_, fun w q => ?_, .inl rfl⟩
           have s2 := Sat.rot (p := St L.txs.length) (g := [row lg 78 _, own 22 1 _ L.txs.length vals, K, row b 32 _]) q
           exact (logm_shut (r := row b 32 _ :: (St L.txs.length ++ l)) hok s2).sup (by (repeat (first | exact Sup.refl | apply Sup.cons (by (repeat (first | exact Pick.head | apply Pick.tail | apply Pick.app))) | apply Sup.app | apply Sup.skip | apply Sup.skips))))
  all_goals refine JE.then_normal ?_
  all_goals
    refine J.seq ?_
    refine J.block ?_
    refine J.seq ?_
    refine J.region ?_
    have hlt : j < L.txs.length := by omega
    obtain ⟨tx, htx⟩ : ∃ tx, L.txs[j]? = some tx := ⟨_, List.getElem?_eq_getElem hlt⟩
    have hsm := hok.smalls tx (List.mem_of_getElem? htx)
    have htl := hsm.len
    obtain ⟨v, hv, p, cp, rfl, hp⟩ := hok.txs j tx htx
    obtain ⟨ga, rfl⟩ := oa.at_.resolve_right fun ⟨h0, _⟩ => by have := oa.le; omega
    refine JL.step (y_move rfl) rfl rfl rfl ?_
    refine JL.step (y_indexAddr_slice hT rfl rfl rfl rfl rfl (by (first | omega | exact Nat.le_of_ble_eq_true rfl | decide | (simp; omega))) (by (first | omega | exact Nat.le_of_ble_eq_true rfl | decide | (simp; omega)))) rfl rfl rfl ?_
    refine JL.step (y_load1 hT rfl rfl rfl (Rd1.elem (RdN.own (by (repeat (first | exact Pick.head | apply Pick.tail | apply Pick.app)))) hv)) rfl rfl rfl ?_
    refine JL.step (y_assign rfl) rfl rfl rfl (JL.step (y_assign rfl) rfl rfl rfl ?_)
    refine JL.nil ?_
    refine JE.then_normal ?_
    refine J.seq ?_
    refine J.region ?_
    refine JL.step (y_move rfl) rfl rfl rfl (JL.step (y_move rfl) rfl rfl rfl (JL.step (y_move rfl) rfl rfl rfl ?_))
    refine JL.loud rfl (l_callF e30 rfl rfl (cloneB_spec E p cp tx _ (hp.kept (by (repeat (first | exact Pick.head | apply Pick.tail | apply Pick.app)))) (by omega)) ?_)
    rintro _ _ ⟨a, c, rfl, rfl⟩
    refine JL.yield rfl rfl rfl (hy _ j tx a c htx hsm) ?_
    rintro _ _ (⟨rfl, rfl⟩ | ⟨rfl, rfl⟩)
    all_goals (refine JL.step (y_not rfl) rfl rfl rfl ?_)
    all_goals refine JL.nil ?_
    all_goals refine JE.then_normal ?_
    all_goals
      first | apply J.cond_dec rfl | apply J.cond rfl
      case' ht =>
        intro h
        try (first | (exfalso; omega) | (cases h; done) | (exfalso; simp at h; done) | subst h)
        all_goals
          refine J.ret ?_
          refine JE.block_ret ?_
          refine JE.then_ret ?_
          refine JE.then_ret ?_
          refine JE.block_ret ?_
          refine JE.ret0 (.inl rfl) rfl rfl  ?_
          first
            | (have zz := hlt
               refine ⟨_, fun w q => ?_, .inr ⟨j, hlt, rfl⟩⟩
               have s2 := Sat.rot (p := Fin j) (g := [row lg 78 _, own 22 1 _ L.txs.length vals, K, row b 32 _]) q
               exact (logm_shut (r := row b 32 _ :: (Fin j ++ l)) hok s2).sup (by (repeat (first | exact Sup.refl | apply Sup.cons (by (repeat (first | exact Pick.head | apply Pick.tail | apply Pick.app))) | apply Sup.app | apply Sup.skip | apply Sup.skips))))
            | (obtain rfl : j = L.txs.length := by omega
               refine ⟨_, fun w q => ?_, .inl rfl⟩
               have s2 := Sat.rot (p := St L.txs.length) (g := [row lg 78 _, own 22 1 _ L.txs.length vals, K, row b 32 _]) q
               exact (logm_shut (r := row b 32 _ :: (St L.txs.length ++ l)) hok s2).sup (by (repeat (first | exact Sup.refl | apply Sup.cons (by (repeat (first | exact Pick.head | apply Pick.tail | apply Pick.app))) | apply Sup.app | apply Sup.skip | apply Sup.skips))))
      case' hf =>
        intro h
        try (first | (exfalso; omega) | (cases h; done) | (exfalso; simp at h; done) | subst h)
        all_goals
          refine J.skip ?_
    all_goals refine JE.block_normal ?_
    all_goals refine JE.then_normal ?_
    all_goals
      refine J.region ?_
      refine JL.step (y_add rfl rfl (by (first | exact wrap_i64 (by omega) (by omega) | rfl))) rfl rfl rfl ?_
      refine JL.step (y_move rfl) rfl rfl rfl ?_
      refine JL.nil ?_
  all_goals
    exact JE.round (s := j) (j + 1) (by omega) ⟨rfl, rfl, rfl, rfl, rfl, trivial⟩ (fun w q => q) (by omega)
end
end Go.Proofs.Ytimekohdlofmaaa
namespace Go.Proofs.Ytimekohdlofmaaa
open Go Go.SL
/-! What is left of a log when the power goes. -/
theorem Byt.crash {D : Dk} (h : Byt D) (bs : List Bool) : Byt (D.crash bs) := ⟨(h.settle (bitAt bs)).safe, (h.settle (bitAt bs)).pend⟩
theorem live_or (lv : Nat → Bool) (l : List (Int × Blk)) (k : Nat) (s : List Blk) (j : Nat) : (liveOn lv l k s).getD j [] = s.getD j [] ∨ ∃ p ∈ l, p.1.toNat = j ∧ (liveOn lv l k s).getD j [] = p.2 := by
  induction l generalizing k s with
  | nil => exact .inl rfl
  | cons p r ih =>
    rw [liveOn]
    rcases ih (k + 1) (if lv k then s.set p.1.toNat p.2 else s) with h | ⟨q, hq, h1, h2⟩
    · rw [h]
      split
      · by_cases hj : p.1.toNat = j
        · rcases Nat.lt_or_ge j s.length with hl | hl
          · exact .inr ⟨p, by simp, hj, by simp [List.getD_eq_getElem?_getD, hj, hl]⟩
          · exact .inl (by simp [List.getD_eq_getElem?_getD, hj, hl])
        · exact .inl (by simp [List.getD_eq_getElem?_getD, hj])
      · exact .inl rfl
    · exact .inr ⟨q, by simp [hq], h1, h2⟩
/-- Some pieces of a transaction stand behind the log. -/
structure Mixed (L : Lg) (D : Dk) (tx : List Int) (D' : Dk) : Prop where
  up : Up D'
  none : D'.pending = []
  len : D'.safe.length = D.safe.length
  find : ∀ j : Nat, j < D.safe.length → D'.find (j : Int) = D.find (j : Int) ∨ ∃ i, i < pieceN tx.length ∧ j = D.base + L.used + 1 + i ∧ D'.find (j : Int) = pieceB tx i
theorem LH.mixed {S : Sb} {D D' : Dk} {L : Lg} (h : LH S D L) {tx : List Int} (hM : Mixed L D tx D') (hB : Byt D') : LH S D' L := by
  have h2 := h.holds.fits.two
  have hh := half_eq hM.len
  have hb : D'.base = D.base := by unfold Dk.base; rw [hh]
  have hsl : D'.slots = D.slots := by unfold Dk.slots; rw [hh, hM.len]
  have hbs := base_slots D h2
  have hus := h.used
  have hfit := h.fit
  have hg : ∀ i, i < D.slots → (slotsL D').getD i [] = (slotsL D).getD i [] ∨ L.used < i ∧ ∃ k, (slotsL D').getD i [] = pieceB tx k := fun i hi => by
    rw [slotsL_find (by rw [hsl]; exact hi), slotsL_find hi, hb]
    rcases hM.find (D.base + i) (by omega) with e | ⟨k, _, e1, e2⟩
    · exact .inl e
    · exact .inr ⟨by omega, k, e2⟩
  refine ⟨?_, hB, h.whole, hus, by rw [hsl]; exact hfit, h.small, h.smalls, fun k t hkt => ?_, fun i hi h1 => ?_⟩
  · refine holds_log h.holds hM.up hM.none hM.len fun j hj => ?_
    rcases hM.find j (by omega) with e | ⟨k, _, e1, _⟩
    · exact e
    · omega
  · refine (h.secs k t hkt).congr (by rw [slotsL_length, slotsL_length, hsl]) fun i h1 h3 => ?_
    have hk : k < L.txs.length := by
      rcases Nat.lt_or_ge k L.txs.length with h | h
      · exact h
      · rw [List.getElem?_eq_none h] at hkt; cases hkt
    have hle : usedN (L.txs.take k) + needN t.length ≤ L.used := by
      have e1 : L.txs.take (k + 1) = L.txs.take k ++ [t] := by rw [List.take_add_one, hkt]; rfl
      have e2 : usedN L.txs = usedN (L.txs.take (k + 1)) + usedN (L.txs.drop (k + 1)) := by
        rw [usedN, usedN, usedN, ← List.sum_append, ← List.map_append, List.take_append_drop]
      rw [hus, e2, e1, usedN_snoc]
      omega
    rcases hg i (by omega) with e | ⟨h4, _⟩
    · exact e
    · omega
  · rw [hsl] at hi
    rcases hg i hi with e | ⟨_, k, e⟩
    · rw [e] at h1 ⊢
      exact h.old i hi h1
    · rw [e] at h1
      exact absurd h1 (by show ¬ ((0 : Int) = 1); decide)
/-- The pieces on their way. -/
structure OnP (L : Lg) (D : Dk) (tx : List Int) (n : Nat) (X : Dk) : Prop where
  ok : X.Ok
  safe : X.safe = D.safe
  pend : ∀ p ∈ X.pending, ∃ i, i < pieceN tx.length ∧ p = (((D.base + L.used + 1 + i : Nat) : Int), pieceB tx i)
  few : X.pending.length ≤ n
theorem OnP.mixed {L : Lg} {D X : Dk} {tx : List Int} {n : Nat} (h : OnP L D tx n X) (hD : D.pending = []) (keep : List Bool) : Mixed L D tx (X.crash keep) := by
  obtain ⟨hu, hp, hl⟩ := crash_up h.ok keep
  refine ⟨hu, hp, by rw [hl, h.safe], fun j hj => ?_⟩
  rw [find_safe hp, find_safe hD, Int.toNat_natCast]
  have e : (X.crash keep).safe = liveOn (bitAt keep) X.pending 0 X.safe := rfl
  rw [e, h.safe]
  rcases live_or (bitAt keep) X.pending 0 D.safe j with q | ⟨p, hpp, h1, h2⟩
  · exact .inl q
  · obtain ⟨i, hi, rfl⟩ := h.pend p hpp
    exact .inr ⟨i, hi, by dsimp only at h1; rw [Int.toNat_natCast] at h1; exact h1.symm, h2⟩
theorem put_ar {D : Dk} {k : Nat} (h : Ar D k) (h2 : 2 ≤ D.safe.length) {i : Nat} (hi : i < D.slots) {b : Blk} (hb : b.length = 64) :
    (k = 0 ∧ D.put (i : Int) b = (D.dies, 7)) ∨ (∃ k', k = k' + 1 ∧ D.put (i : Int) b = (D.does.push ((D.base + i : Nat) : Int) b, 0) ∧ Ar (D.does.push ((D.base + i : Nat) : Int) b) k') := by
  have hbs := base_slots D h2
  have e1 : D.slotAt (i : Int) = (((D.base + i : Nat) : Int), 0) := by
    rw [Dk.slotAt, if_neg (by omega), show (2 + 2 * (D.half : Int) + (i : Int)) = ((D.base + i : Nat) : Int) by unfold Dk.base; omega]
  rw [Dk.put, e1, if_pos rfl]
  exact h.write hb (by omega)
theorem putsW_ar {L : Lg} {D Da : Dk} {tx : List Int} {k : Nat} (h : Ar Da k) (hs : Da.safe = D.safe) (hp : Da.pending = []) (hf : ∀ i, Da.find i = D.find i) (h2 : 2 ≤ D.safe.length) : ∀ j, j ≤ pieceN tx.length → L.used + 1 + j ≤ D.slots →
    OnP L D tx j (putsW L.used tx Da j).1 ∧
    (((putsW L.used tx Da j).2 = 7 ∧ (putsW L.used tx Da j).1.dead = true ∧ k < j) ∨
    ((putsW L.used tx Da j).2 = 0 ∧ j ≤ k ∧ Ar (putsW L.used tx Da j).1 (k - j) ∧ ∀ i : Nat, (putsW L.used tx Da j).1.find (i : Int) = if D.base + L.used + 1 ≤ i ∧ i < D.base + L.used + 1 + j then pieceB tx (i - (D.base + L.used + 1)) else D.find (i : Int)))
  | 0, _, _ => ⟨⟨h.ok, hs, fun p hpp => (by
    have hpp : p ∈ Da.pending := hpp
    rw [hp] at hpp
    exact absurd hpp (by simp)), by show Da.pending.length ≤ 0; rw [hp]; exact Nat.le_refl _⟩, .inr ⟨rfl, Nat.zero_le _, h, fun i => by rw [if_neg (by omega)]; exact hf _⟩⟩
  | j + 1, hj, hr => by
    obtain ⟨hw, ⟨e, hd, hk⟩ | ⟨e, hk, ha, hfj⟩⟩ := putsW_ar (L := L) (tx := tx) h hs hp hf h2 j (by omega) (by omega)
    · have e2 : putsW L.used tx Da (j + 1) = putsW L.used tx Da j := by rw [putsW, if_neg (by rw [e]; decide)]
      rw [e2]
      exact ⟨⟨hw.ok, hw.safe, hw.pend, Nat.le_succ_of_le hw.few⟩, .inl ⟨e, hd, by omega⟩⟩
    · have e2 : putsW L.used tx Da (j + 1) = (putsW L.used tx Da j).1.put ((L.used + 1 + j : Nat) : Int) (pieceB tx j) := by rw [putsW, if_pos e]
      have hl : (putsW L.used tx Da j).1.safe.length = D.safe.length := by rw [hw.safe]
      have hh := half_eq hl
      have hb : (putsW L.used tx Da j).1.base = D.base := by unfold Dk.base; rw [hh]
      have hsl : (putsW L.used tx Da j).1.slots = D.slots := by unfold Dk.slots; rw [hh, hl]
      rw [e2]
      rcases put_ar ha (by rw [hl]; exact h2) (i := L.used + 1 + j) (by rw [hsl]; omega) (pieceB_length tx j) with ⟨hk0, e3⟩ | ⟨k2, hk2, e3, ha2⟩
      · rw [e3]
        exact ⟨⟨hw.ok.dies, hw.safe, hw.pend, Nat.le_succ_of_le hw.few⟩, .inl ⟨rfl, rfl, by omega⟩⟩
      · rw [e3, hb]
        rw [hb] at ha2
        refine ⟨⟨ha2.ok, hw.safe, fun p hpp => ?_, ?_⟩, .inr ⟨rfl, by omega, by rw [show k - (j + 1) = k2 by omega]; exact ha2, fun i => ?_⟩⟩
        · simp only [Dk.push, Dk.does, List.mem_append, List.mem_singleton] at hpp
          rcases hpp with hpp | rfl
          · exact hw.pend p hpp
          · exact ⟨j, by omega, by rw [show D.base + (L.used + 1 + j) = D.base + L.used + 1 + j by omega]⟩
        · have := hw.few
          simp only [Dk.push, Dk.does, List.length_append, List.length_singleton]
          omega
        · dsimp only
          rw [dk_find_push, hfj]
          by_cases hi : D.base + (L.used + 1 + j) = i
          · rw [if_pos (by omega), if_pos (by omega), show i - (D.base + L.used + 1) = j by omega]
          · rw [if_neg (by omega)]
            by_cases hi2 : D.base + L.used + 1 ≤ i ∧ i < D.base + L.used + 1 + j
            · rw [if_pos hi2, if_pos (by omega)]
            · rw [if_neg hi2, if_neg (by omega)]
/-- An append that is cut. -/
theorem append_cut {S : Sb} {D : Dk} {L : Lg} {tx : List Int} {k : Nat} (h : LH S D L) (hs : Small tx) (hk : k ≤ 1000000) (hroom : L.used + needN tx.length ≤ D.slots) :
    ∃ X e, writeL L S (D.arm k) tx = (X, e) ∧ X.pending.length ≤ 1000 ∧ Byt X ∧
    ((e = 7 ∧ X.dead = true ∧ k < needN tx.length + 2 ∧ ∀ keep, LH S (X.crash keep) L ∨ needN tx.length < k ∧ LH S (X.crash keep) { L with txs := L.txs ++ [tx], used := L.used + needN tx.length }) ∨
    (e = 0 ∧ X.dead = false ∧ needN tx.length + 2 ≤ k ∧ ∀ keep, LH S (X.crash keep) { L with txs := L.txs ++ [tx], used := L.used + needN tx.length })) := by
  have h2 := h.holds.fits.two
  have hm := h.holds.up.ok.most
  have hD := h.holds.none
  have hbs := base_slots D h2
  have hsl := h.slots
  obtain ⟨N, hN⟩ : ∃ N, pieceN tx.length = N := ⟨_, rfl⟩
  have hnN : needN tx.length = 1 + N := by rw [← hN]; rfl
  have hA : Ar (D.arm k) k := ⟨⟨h.holds.up.ok.safe, h.holds.up.ok.pend, h.holds.up.ok.some, h.holds.up.ok.most, by simp only [Dk.arm]; omega⟩, h.holds.up.dead, by simp [Dk.arm], rfl⟩
  have hBa : Byt (D.arm k) := ⟨h.byt.safe, h.byt.pend⟩
  have hBX := hBa.writeL L S hs.bytes
  obtain ⟨hw, hw2⟩ := putsW_ar (L := L) (D := D) (tx := tx) hA rfl hD (fun i => rfl) h2 N (by omega) (by omega)
  have hdef : writeL L S (D.arm k) tx = (let w := putsW L.used tx (D.arm k) N
      if w.2 = 0 then
        if w.1.sync.2 = 0 then
          let m := w.1.sync.1.put (L.used : Int) (mkB S.turn L.txs.length tx)
          if m.2 = 0 then m.1.sync else m
        else w.1.sync
      else w) := by rw [← hN]; rfl
  rw [hdef] at hBX ⊢
  dsimp only at hBX ⊢
  obtain ⟨W, hW⟩ : ∃ W, putsW L.used tx (D.arm k) N = W := ⟨_, rfl⟩
  rw [hW] at hw hw2 hBX ⊢
  have hwl : W.1.safe.length = D.safe.length := by rw [hw.safe]
  have hfew := hw.few
  have hcut : ∀ X : Dk, OnP L D tx N X → Byt X → ∀ keep, LH S (X.crash keep) L := fun X hX hB keep => h.mixed (hX.mixed hD keep) (hB.crash keep)
  rcases hw2 with ⟨e, hd, hkN⟩ | ⟨e, hkN, ha, hf⟩
  · rw [if_neg (by rw [e]; decide)] at hBX ⊢
    exact ⟨W.1, W.2, rfl, by omega, hBX, .inl ⟨e, hd, by omega, fun keep => .inl (hcut _ hw hBX keep)⟩⟩
  rw [if_pos e] at hBX ⊢
  rcases ha.sync with ⟨hk1, e1⟩ | ⟨k2, hk2, e1, hy⟩
  · rw [e1, if_neg (show ¬ (7 : Int) = 0 by decide)] at hBX ⊢
    exact ⟨_, _, rfl, by show W.1.pending.length ≤ 1000; omega, hBX, .inl ⟨rfl, rfl, by omega, fun keep => .inl (hcut _ ⟨hw.ok.dies, hw.safe, hw.pend, hw.few⟩ hBX keep)⟩⟩
  rw [e1, if_pos rfl] at hBX ⊢
  dsimp only at hBX ⊢
  obtain ⟨Y, hY⟩ : ∃ Y, W.1.does.settle (fun _ => true) = Y := ⟨_, rfl⟩
  have hYp : Y.pending = [] := by rw [← hY]; rfl
  have hYl : Y.safe.length = D.safe.length := by rw [← hY]; simp [Dk.settle, liveOn_length, Dk.does, hwl]
  have hYf : ∀ j : Nat, j < D.safe.length → Y.find (j : Int) = if D.base + L.used + 1 ≤ j ∧ j < D.base + L.used + 1 + N then pieceB tx (j - (D.base + L.used + 1)) else D.find (j : Int) := fun j hj => by
    rw [← hY, dk_find_settle hw.ok (j : Int) ⟨by omega, by omega⟩, hf]
  rw [hY] at hy hBX ⊢
  have hYh := half_eq hYl
  have hYb : Y.base = D.base := by unfold Dk.base; rw [hYh]
  have hYs : Y.slots = D.slots := by unfold Dk.slots; rw [hYh, hYl]
  have hYk : ∀ X : Dk, X.Ok → X.safe = Y.safe → X.pending = [] → Byt X → ∀ keep, LH S (X.crash keep) L := fun X hX hsf hpe hB keep => by
    obtain ⟨hu, hp', hl'⟩ := crash_up hX keep
    refine h.mixed (tx := tx) ⟨hu, hp', by rw [hl', hsf, hYl], fun j hj => ?_⟩ (hB.crash keep)
    rw [crash_find keep j (by omega) (by rw [hpe]; simp), hsf, ← find_safe hYp, hYf j hj]
    split
    · exact .inr ⟨j - (D.base + L.used + 1), by omega, by omega, rfl⟩
    · exact .inl rfl
  rcases put_ar hy (by rw [hYl]; exact h2) (i := L.used) (by rw [hYs]; omega) (mkB_length S.turn L.txs.length tx) with ⟨hk3, e2⟩ | ⟨k3, hk3, e2, hv⟩
  · rw [e2, if_neg (show ¬ (7 : Int) = 0 by decide)] at hBX ⊢
    exact ⟨_, _, rfl, by show Y.pending.length ≤ 1000; rw [hYp]; decide, hBX, .inl ⟨rfl, rfl, by omega, fun keep => .inl (hYk _ hy.ok.dies rfl hYp hBX keep)⟩⟩
  rw [e2, if_pos rfl] at hBX ⊢
  rw [hYb] at hv hBX ⊢
  dsimp only at hBX ⊢
  obtain ⟨t, ht⟩ : ∃ t, D.base + L.used = t := ⟨_, rfl⟩
  rw [ht] at hv hBX ⊢
  obtain ⟨M, hM⟩ : ∃ M, mkB S.turn L.txs.length tx = M := ⟨_, rfl⟩
  rw [hM] at hv hBX ⊢
  have hT : ∀ X : Dk, X.Ok → X.safe = Y.safe.set t M → X.pending = [] → Byt X → ∀ keep, LH S (X.crash keep) { L with txs := L.txs ++ [tx], used := L.used + needN tx.length } := fun X hX hsf hpe hB keep => by
    obtain ⟨hu, hp', hl'⟩ := crash_up hX keep
    refine h.wrote hs hroom ⟨hu, hp', by rw [hl', hsf, List.length_set, hYl], fun j hj => ?_⟩ (hB.crash keep)
    rw [crash_find keep j (by omega) (by rw [hpe]; simp), hsf, ht, hM, hN]
    by_cases hjt : j = t
    · rw [if_pos hjt, hjt, List.getD_eq_getElem?_getD, show ((t : Int)).toNat = t from rfl, List.getElem?_set_self (by omega)]
      rfl
    · rw [if_neg hjt]
      have e5 := hYf j hj
      rw [ht] at e5
      rw [← e5, find_safe hYp]
      simp [List.getD_eq_getElem?_getD, show ¬ t = j by omega]
  have hvp : (Y.does.push (t : Int) M).pending = [((t : Int), M)] := by simp [Dk.push, Dk.does, hYp]
  rcases hv.sync with ⟨hk4, e3⟩ | ⟨k4, hk4, e3, hz⟩
  · rw [e3] at hBX ⊢
    refine ⟨_, _, rfl, by show (Y.does.push (t : Int) M).pending.length ≤ 1000; rw [hvp]; simp, hBX, .inl ⟨rfl, rfl, by omega, fun keep => ?_⟩⟩
    have hc : ((Y.does.push (t : Int) M).dies.crash keep) = { (Y.does.push (t : Int) M).dies with safe := if bitAt keep 0 then Y.safe.set t M else Y.safe, pending := [], dead := false, armed := false } := by
      simp [Dk.crash, Dk.settle, Dk.dies, hvp, liveOn]
      rfl
    have hce : ∀ X : Dk, X.pending = [] → X.dead = false → X.armed = false → X.crash keep = X := fun X h1 h2 h3 => by
      cases X
      simp only at h1 h2 h3
      subst h1 h2 h3
      rfl
    have hok := hv.ok.dies.crash keep
    have hBc := hBX.crash keep
    rw [hc] at hok hBc ⊢
    cases hb0 : bitAt keep 0 with
    | false =>
      rw [hb0] at hok hBc
      have q := hYk _ hok rfl rfl hBc keep
      rw [hce _ rfl rfl rfl] at q
      exact .inl q
    | true =>
      rw [hb0] at hok hBc
      have q := hT _ hok rfl rfl hBc keep
      rw [hce _ rfl rfl rfl] at q
      exact .inr ⟨by omega, q⟩
  · rw [e3] at hBX ⊢
    refine ⟨_, _, rfl, Nat.zero_le _, hBX, .inr ⟨rfl, hz.dead, by omega, fun keep => hT _ hz.ok ?_ rfl hBX keep⟩⟩
    show liveOn (fun _ => true) (Y.does.push (t : Int) M).does.pending 0 Y.safe = _
    rw [show (Y.does.push (t : Int) M).does.pending = [((t : Int), M)] from hvp]
    rfl
end Go.Proofs.Ytimekohdlofmaaa
namespace Go.Proofs.Ytimekohdlofmaaa
open Go Go.SL
/-! A disk that is opened again. -/
def slotBytes (D : Dk) : Nat → List Int
  | 0 => []
  | k + 1 => slotBytes D k ++ (slotsL D).getD k []
theorem slotBytes_length {D : Dk} (hok : D.Ok) (h2 : 2 ≤ D.safe.length) : ∀ k, k ≤ D.slots → (slotBytes D k).length = 64 * k
  | 0, _ => rfl
  | k + 1, h => by
    rw [slotBytes, List.length_append, slotBytes_length hok h2 k (by omega), getD_mem (slotsL_64 hok h2) (by rw [slotsL_length]; omega)]
    omega
theorem slotBytes_bytes {D : Dk} (h : Byt D) : ∀ k, k ≤ D.slots → Bytes (slotBytes D k)
  | 0, _ => Bytes.nil
  | k + 1, hk => (slotBytes_bytes h k (by omega)).append (by rw [slotsL_getD (by omega)]; exact h.find _)
attribute [local irreducible] J JL JE JM LS Y Fc RV Code.wp wpList Code.wpIn wpListIn
attribute [local irreducible] Yc
variable (E : World)
theorem arm_lh (d : Nat) {S : Sb} {D : Dk} {L : Lg} (l : List HProp) (h : LH S D L) (k : Nat) (hk : k ≤ 1000000) :
    Fc prog E 19 [.pointer (some ⟨d, 0, none⟩), .int .i64 (k : Int)].toArray (disk d D :: l) (fun v l' => v = .int .i64 0 ∧ l' = disk d (D.arm k) :: l) := by
  have q := arm_spec E d D k (by omega) l
  have hd := h.holds.up.dead
  rw [hd] at q
  simpa using q
/-- An append on a disk that is armed. -/
theorem append_arm (lg st d : Nat) {S : Sb} {D : Dk} {L : Lg} (l : List HProp) (h : LH S D L) (k : Nat) (tx : List Int) (p : Option Addr) (cap n : Nat) (hn : tx.length = n) (hsm : Small tx) (hfew : L.txs.length < 512) {R : Lg × Dk × Int} (he : appL L S (D.arm k) tx = R) (hin : InL l p n cap (ints .u8 tx)) :
    Fc prog E 12 [.pointer (some ⟨lg, 0, none⟩), .slice p n cap].toArray (logm lg st L :: row st 74 (scells S d) :: disk d (D.arm k) :: l) (fun v l' => v = .int .i64 R.2.2 ∧ l' = logm lg st R.1 :: row st 74 (scells S d) :: disk d R.2.1 :: l) := by
  subst he
  have hp : (D.arm k).pending = [] := h.holds.none
  exact lappend_spec E lg st d L S (D.arm k) l h.holds.fits.hash h.holds.fits.two tx p cap n hn hsm (by rw [hp]; decide) hfew hin
theorem appL_arm {S : Sb} {D : Dk} {L : Lg} (h : LH S D L) (k : Nat) {tx : List Int} (hs : Small tx) (hroom : L.used + needN tx.length ≤ D.slots) : appL L S (D.arm k) tx = if (writeL L S (D.arm k) tx).2 = 0 then ({ L with txs := L.txs ++ [tx], used := L.used + needN tx.length }, (writeL L S (D.arm k) tx).1, 0) else ({ L with broken := true }, (writeL L S (D.arm k) tx).1, (writeL L S (D.arm k) tx).2) := by
  have hr : roomB L (D.arm k) (tx.length : Int) = true := (roomB_iff h tx.length).2 hroom
  rw [appL, if_neg (by rw [h.whole]; simp), if_pos hr]
theorem writeL_len (L : Lg) (S : Sb) (D : Dk) (tx : List Int) : (writeL L S D tx).1.safe.length = D.safe.length := by
  have h1 := (putsW_len L.used tx D (pieceN tx.length)).1
  unfold writeL
  dsimp only
  split
  · split
    · split
      · exact (sync_len _).1.trans ((put_len _ _ _).1.trans ((sync_len _).1.trans h1))
      · exact (put_len _ _ _).1.trans ((sync_len _).1.trans h1)
    · exact (sync_len _).1.trans h1
  · exact h1
theorem crash_len (D : Dk) (keep : List Bool) : (D.crash keep).safe.length = D.safe.length := liveOn_length _ _ _ _
end Go.Proofs.Ytimekohdlofmaaa
namespace Go.Proofs.Ytimekohdlofmaaa
open Go Go.SL
/-! A checkpoint that is cut, and what a cut leaves. -/
theorem LH.slots_same {S : Sb} {D D' : Dk} {L : Lg} (h : LH S D L) (hh : Holds S L.snap D') (hB : Byt D') (hsl : D'.slots = D.slots) (he : ∀ i, i < D.slots → (slotsL D').getD i [] = (slotsL D).getD i []) : LH S D' L :=
  ⟨hh, hB, h.whole, h.used, by rw [hsl]; exact h.fit, h.small, h.smalls, fun k t hkt => by
    refine (h.secs k t hkt).congr (by rw [slotsL_length, slotsL_length, hsl]) fun i h1 h3 => ?_
    have hfit := h.fit
    have hk : k < L.txs.length := by
      rcases Nat.lt_or_ge k L.txs.length with h | h
      · exact h
      · rw [List.getElem?_eq_none h] at hkt; cases hkt
    have hle : usedN (L.txs.take k) + needN t.length ≤ L.used := by
      have e1 : L.txs.take (k + 1) = L.txs.take k ++ [t] := by rw [List.take_add_one, hkt]; rfl
      have e2 : usedN L.txs = usedN (L.txs.take (k + 1)) + usedN (L.txs.drop (k + 1)) := by
        rw [usedN, usedN, usedN, ← List.sum_append, ← List.map_append, List.take_append_drop]
      rw [h.used, e2, e1, usedN_snoc]
      omega
    exact he i (by omega), fun i hi h1 => by
    rw [hsl] at hi
    rw [he i hi] at h1 ⊢
    exact h.old i hi h1⟩
theorem LH.kept {S : Sb} {D D' : Dk} {L : Lg} (h : LH S D L) (hk : Kept S D D') (hB : Byt D') : LH S D' L := by
  have h2 := h.holds.fits.two
  have hp := h.holds.fits.place
  have hh := half_eq hk.len
  have hb : D'.base = D.base := by unfold Dk.base; rw [hh]
  have hs : D'.slots = D.slots := by unfold Dk.slots; rw [hh, hk.len]
  have hbs := base_slots D h2
  have h5 : (1 - S.place) * (D.half : Int) ≤ D.half := by
    rcases hp with e | e <;> rw [e]
    · rw [show (1 - 0 : Int) = 1 by rfl, Int.one_mul]; omega
    · rw [show (1 - 1 : Int) = 0 by rfl, Int.zero_mul]; omega
  refine h.slots_same (holds_kept h.holds hk) hB hs fun i hi => ?_
  rw [slotsL_find (by rw [hs]; exact hi), slotsL_find hi, hb]
  exact hk.find _ (by omega) (by omega) (by unfold Dk.base; omega)
theorem LH.taken {S : Sb} {D D' : Dk} {L : Lg} (h : LH S D L) {state : List Int} (hs : Small state) (hl : state.length ≤ 64 * D.half) (ht : S.turn.toNat + 1 < 18446744073709551616) (hT : Taken S D state D') (hB : Byt D') :
    LH (nextS S state) D' ⟨state, [], 0, false⟩ := by
  have h2 := h.holds.fits.two
  have hp := h.holds.fits.place
  have hsl : D'.slots = D.slots := by unfold Dk.slots Dk.half; rw [hT.len]
  have htn := next_turn (bs := state) ht
  refine ⟨holds_taken h.holds hl ht hT, hB, rfl, rfl, Nat.zero_le _, hs, fun tx h => (by simp at h), fun k tx h => (by simp at h), fun i hi h1 => ?_⟩
  rw [hsl] at hi
  rw [taken_slots hT h2 hp hl hi] at h1 ⊢
  have := (h.old i hi h1).1
  rw [htn]
  exact ⟨by omega, fun _ => by omega⟩
/-- What a last call leaves, where the power may go: the log, the superblock and the disk behind it, its error; and that what lives is what was or what was to come. -/
structure Cuts (S : Sb) (D : Dk) (L A : Lg) (La : Lg) (Sa : Sb) (X : Dk) (f : Int) : Prop where
  few : X.pending.length ≤ 1000
  len : X.safe.length = D.safe.length
  out : (f = 7 ∧ La = { L with broken := true } ∧ Sa = S ∧ ∀ keep, (∃ S2, LH S2 (X.crash keep) L) ∨ (∃ S2, LH S2 (X.crash keep) A)) ∨
    (f = 0 ∧ La = A ∧ ∀ keep, LH Sa (X.crash keep) A)
theorem appL_cut {S : Sb} {D : Dk} {L : Lg} {tx : List Int} {k : Nat} (h : LH S D L) (hs : Small tx) (hk : k ≤ 1000000) (hroom : L.used + needN tx.length ≤ D.slots) :
    ∃ La X f, appL L S (D.arm k) tx = (La, X, f) ∧ Cuts S D L { L with txs := L.txs ++ [tx], used := L.used + needN tx.length } La S X f := by
  obtain ⟨X, e, hW, hfew, _, hor⟩ := append_cut h hs hk hroom
  have hlen := writeL_len L S (D.arm k) tx
  rw [hW] at hlen
  have eA := appL_arm h k hs hroom
  rw [hW] at eA
  dsimp only at eA hlen
  rcases hor with ⟨rfl, _, _, hkp⟩ | ⟨rfl, _, _, hkp⟩
  · rw [if_neg (by decide)] at eA
    exact ⟨_, _, _, eA, hfew, hlen, .inl ⟨rfl, rfl, rfl, fun keep => (hkp keep).imp (fun h => ⟨_, h⟩) (fun h => ⟨_, h.2⟩)⟩⟩
  · rw [if_pos rfl] at eA
    exact ⟨_, _, _, eA, hfew, hlen, .inr ⟨rfl, rfl, hkp⟩⟩
theorem ckL_cut {S : Sb} {D : Dk} {L : Lg} {state : List Int} {k : Nat} (h : LH S D L) (hs : Small state) (hk : k ≤ 1000000) (hl : state.length ≤ 64 * D.half) (ht : S.turn.toNat + 1 < 18446744073709551616) :
    ∃ La Sa X f, ckL L S (D.arm k) state = (La, Sa, X, f) ∧ Cuts S D L ⟨state, [], 0, false⟩ La Sa X f := by
  obtain ⟨hfew, hor⟩ := cut_law (k := k) h.holds.up h.holds.none hk h.holds.fits.two h.holds.fits.place hl
  have hBa : Byt (D.arm k) := ⟨h.byt.safe, h.byt.pend⟩
  have hB := hBa.takeS S hs.bytes
  have hlen := takeS_len S (D.arm k) state
  obtain ⟨⟨Sa, X, f⟩, hR⟩ : ∃ R, takeS S (D.arm k) state = R := ⟨_, rfl⟩
  rw [hR] at hfew hor hB hlen
  dsimp only at hfew hor hB hlen
  have hw := h.whole
  rcases hor with ⟨rfl, rfl, _, hkp⟩ | ⟨rfl, rfl, _, hkp⟩
  · refine ⟨{ L with broken := true }, Sa, X, 7, ?_, hfew, hlen, .inl ⟨rfl, rfl, rfl, fun keep => ?_⟩⟩
    · unfold ckL
      rw [if_neg (by rw [hw]; simp), hR, if_neg (show ¬ (7 : Int) = 0 by decide), if_neg (show ¬ (7 : Int) = 3 by decide)]
    · rcases hkp keep with h1 | h1
      · exact .inl ⟨Sa, h.kept h1 (hB.crash keep)⟩
      · exact .inr ⟨_, h.taken hs hl ht h1 (hB.crash keep)⟩
  · refine ⟨⟨state, [], 0, false⟩, nextS S state, X, 0, ?_, hfew, hlen, .inr ⟨rfl, rfl, fun keep => h.taken hs hl ht (hkp keep) (hB.crash keep)⟩⟩
    unfold ckL
    rw [if_neg (by rw [hw]; simp), hR, if_pos rfl]
    cases L
    simp only at hw
    rw [hw]
end Go.Proofs.Ytimekohdlofmaaa
