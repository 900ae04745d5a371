import Derived.Test.YtilifeeddpkclaaSha1
import Derived.Test.YtilifeeddpkclaaShaK
namespace Go.Proofs.Ytilifeeddpkclaa
open Go Go.SL
attribute [local irreducible] J JL JE JM LS Y Fc RV Code.wp wpList Code.wpIn wpListIn
variable (E : World)
/-- A Hash in memory. -/
def hcells (st : List (BitVec 32)) (kp : Option Addr) (kc : Nat) (rest : List Int) (n : Int) : List Value := st.map W ++ (.slice kp 64 kc :: (ints .u8 rest ++ [.int .i64 n]))
set_option maxRecDepth 100000 in
theorem shaNew_spec (l : List HProp) : Fc prog E 95 [].toArray l (fun v l' => ∃ b kp kc, v = .pointer (some ⟨b, 0, none⟩) ∧ l' = row b 167 (hcells init8.list kp kc (List.replicate 64 0) 0) :: own 145 1 (.slice kp 64 kc) 64 (K64.map W) :: l) := by
  refine Fc.post ?_
  have hd : ∀ l, Fc prog E 106 [.string digitsS].toArray l (fun v l' => ∃ a c, v = .slice a 64 c ∧ l' = own 145 1 v 64 (K64.map W) :: l) := fun l => by
    have h := shaWords_spec E digitsS digits_ascii (by rw [digits_size]; omega) l
    rw [digits_size, digits_words] at h
    exact h
  have hs : ∀ l, Fc prog E 106 [.string startS].toArray l (fun v l' => ∃ a c, v = .slice a 8 c ∧ l' = own 145 1 v 8 (init8.list.map W) :: l) := fun l => by
    have h := shaWords_spec E startS start_ascii (by rw [start_size]; omega) l
    rw [start_size, start_words] at h
    exact h
  refine Fc.of_body (c := ?c) Try.func95 ?hb Try.ntmps95 ?hl ?_
  case hb => exact rfl
  case hl => exact rfl
  refine J.seq ?_
  refine J.region ?_
  refine JL.step (y_assign rfl) rfl rfl rfl ?_
  refine JL.nil ?_
  refine JE.then_normal ?_
  refine J.seq ?_
  refine J.region ?_
  refine JL.loud rfl (l_callF e106 rfl rfl (hd _) ?_)
  rintro _ _ ⟨kp, kc, rfl, rfl⟩
  refine JL.step (y_build (cs := hcells (List.replicate 8 0) kp kc (List.replicate 64 0) 0) hT rfl rfl rfl rfl rfl rfl ⟨⟨rfl, Nat.le_of_ble_eq_true rfl⟩, trivial⟩ rfl) rfl rfl rfl ?_
  refine JL.loud rfl (l_box rfl (by (first | rfl | simp)) rfl (fun b2 => ?_))
  refine JL.step (y_assign rfl) rfl rfl rfl ?_
  refine JL.nil ?_
  refine JE.then_normal ?_
  refine J.seq ?_
  refine J.draw _ _ [(0, .q), (1, .q), (2, .q), (3, .q), (4, .l), (5, .l)] mixed (by kernel_rfl) (Split.cons (Pick.head) (Split.nil)) ?_
  refine JM.quiet rfl rfl rfl rfl (fun m => y_move rfl) ?_
  refine JM.quiet rfl rfl rfl rfl (fun m => (by first | exact y_nilCheck rfl | exact y_nilCheckF rfl | exact y_nilCheckY rfl)) ?_
  refine JM.quiet rfl rfl rfl rfl (fun m => y_fieldAddr hT rfl rfl rfl rfl rfl rfl) ?_
  refine JM.quiet rfl rfl rfl rfl (fun m => y_slice_arr hT rfl rfl rfl rfl (.inl ⟨rfl, rfl⟩) (.inl ⟨rfl, rfl⟩) (by (first | omega | exact Nat.le_of_ble_eq_true rfl | decide | (simp; omega))) (by (first | omega | exact Nat.le_of_ble_eq_true rfl | decide | (simp; omega)))) ?_
  refine JM.loud rfl rfl (fun fr => l_callF e106 rfl rfl (hs _) ?_)
  rintro _ _ ⟨sp, sc, rfl, rfl⟩
  refine ⟨[_, _], (by (repeat (first | exact Split.nil | exact Split.all | refine Split.cons Pick.head ?_))), ?_⟩
  refine JM.loud rfl rfl (fun fr => LS.fact (fun w s => Sat.own_at (a := sp) (k := 8) (s.pick (by (repeat (first | exact Pick.head | apply Pick.tail | apply Pick.app))))) fun os => l_copy hT rfl rfl rfl rfl rfl rfl (by (repeat (first | exact Pick.head | apply Pick.tail | apply Pick.app))) (os.inl (by (repeat (first | exact Pick.head | apply Pick.tail | apply Pick.app)))) rfl (by (first | omega | exact Nat.le_of_ble_eq_true rfl | decide | (simp; omega))) (Ws_one _) rfl ⟨[_, _], (by (repeat (first | exact Split.nil | exact Split.all | refine Split.cons Pick.head ?_))), ?_⟩)
  refine JM.nil ?_
  refine JE.then_normal ?_
  refine J.seq ?_
  refine J.region ?_
  refine JL.step (y_move rfl) rfl rfl rfl (JL.step (y_assign rfl) rfl rfl rfl ?_)
  refine JL.nil ?_
  refine JE.then_normal ?_
  refine J.ret ?_
  refine JE.ret1 (.inl rfl) rfl rfl (by (first | exact RV.tmp rfl | exact RV.cell1 hT rfl rfl rfl (by (exact Rd1.row (by (repeat (first | exact Pick.head | apply Pick.tail | apply Pick.app))) (by rfl))) | exact RV.cellN hT rfl rfl rfl (by (first | exact RdN.rowAll (by (repeat (first | exact Pick.head | apply Pick.tail | apply Pick.app))) | exact RdN.own (by (repeat (first | exact Pick.head | apply Pick.tail | apply Pick.app))))) (by (first | rfl | assumption | (simp; done) | omega)))) ?_
  exact ⟨_, fun w q => q.sup (by (repeat (first | exact Sup.refl | apply Sup.cons (by (repeat (first | exact Pick.head | apply Pick.tail | apply Pick.app))) | apply Sup.app | apply Sup.skip | apply Sup.skips))), b2, kp, kc, rfl, rfl⟩
/-- The schedule on its way. -/
def schedW (bs : List Int) (i : Nat) : List (BitVec 32) := schedTo bs i ++ List.replicate (64 - i) 0
theorem schedW_length (bs : List Int) {i : Nat} (h : i ≤ 64) : (schedW bs i).length = 64 := by simp [schedW, schedTo_length]; omega
theorem schedW_get (bs : List Int) {i j : Nat} (h : j < i) : (schedW bs i).getD j 0 = (schedTo bs i).getD j 0 := by
  simp only [schedW, List.getD_eq_getElem?_getD]
  rw [List.getElem?_append_left (by rw [schedTo_length]; exact h)]
theorem schedW_next (bs : List Int) {i : Nat} (h : i < 64) : (schedW bs i).set i (schedNext bs (schedTo bs i) i) = schedW bs (i + 1) := by
  simp only [schedW, schedTo]
  rw [List.set_append_right _ _ (by rw [schedTo_length]; omega), schedTo_length, Nat.sub_self, show 64 - i = (64 - (i + 1)) + 1 by omega, List.replicate_succ, List.set_cons_zero]
  simp
theorem schedW_all (bs : List Int) : schedW bs 64 = schedTo bs 64 := by simp [schedW]
set_option maxRecDepth 20000 in
theorem shaStep_spec (b : Nat) (s : S8) (kp : Option Addr) (kc : Nat) (rest : List Int) (N : Int) (g o n cap : Nat) (bs : List Int) (l : List HProp) (_ : rest.length = 64) (hn : 64 ≤ n) (_ : n ≤ cap) (hb : 64 ≤ bs.length)
    (hr : ∀ st : List (BitVec 32), st.length = 8 → RdN (row b 167 (hcells st kp kc rest N) :: l) g o (ints .u8 bs)) (hK : InL l kp 64 kc (K64.map W)) :
    Fc prog E 107 [.pointer (some ⟨b, 0, none⟩), .slice (some ⟨g, o, none⟩) n cap].toArray (row b 167 (hcells s.list kp kc rest N) :: l) (fun v l' => v = .tuple #[] ∧ l' = row b 167 (hcells (compress s bs).list kp kc rest N) :: l) := by
  refine Fc.eqs ?_
  have hr0 : RdN (row b 167 (hcells s.list kp kc rest N) :: l) g o (ints .u8 bs) := hr s.list rfl
  obtain ⟨gk, ok, rfl, hrk⟩ := hK.addr (by omega)
  have hk0 : RdN l gk ok (K64.map W) := hrk []
  refine Fc.of_body (c := ?c) Try.func107 ?hb Try.ntmps107 ?hl ?_
  case hb => exact rfl
  case hl => exact rfl
  refine J.seq ?_
  refine J.region ?_
  refine JL.loud rfl (l_alloc hT rfl rfl (by (first | rfl | simp)) rfl (fun bw => ?_))
  refine JL.nil ?_
  refine JE.then_normal ?_
  refine J.seq ?_
  refine J.seq ?_
  refine J.region ?_
  refine JL.step (y_move rfl) rfl rfl rfl ?_
  refine JL.nil ?_
  refine JE.then_normal ?_
  refine J.block ?_
  refine J.loop (α := Nat) (fun i => i ≤ 16) (fun i => [(0, .pointer (some ⟨b, 0, none⟩)), (1, .slice (some ⟨g, o, none⟩) n cap), (4, .pointer (some ⟨bw, 0, none⟩)), (23, .int .i64 i)]) (fun i => row bw 155 ((schedW bs i).map W) :: row b 167 (hcells s.list (some ⟨gk, ok, none⟩) kc rest N) :: l) (fun i => 16 - i) 0 (by omega) ⟨rfl, rfl, rfl, rfl, trivial⟩ (fun w h => h) ?_
  intro i hi
  have hwl := schedW_length bs (i := i) (by omega)
  refine J.seq ?_
  refine J.region ?_
  refine JL.step (y_lss rfl rfl) rfl rfl rfl ?_
  refine JL.nil ?_
  refine JE.then_normal ?_
  refine J.seq ?_
  first | apply J.cond_dec rfl | apply J.cond rfl
  case' ht =>
    intro h
    try (first | (exfalso; omega) | (cases h; done) | (exfalso; simp at h; done) | subst h)
    all_goals
      refine J.skip ?_
  case' hf =>
    intro h
    try (first | (exfalso; omega) | (cases h; done) | (exfalso; simp at h; done) | subst h)
    all_goals
      refine J.exit ?_
      refine JE.then_exit ?_
      refine JE.then_exit ?_
      refine JE.block_exit ?_
      refine JE.then_normal ?_
      refine J.seq ?_
      refine J.seq ?_
      refine J.region ?_
      refine JL.step (y_assign rfl) rfl rfl rfl ?_
      refine JL.nil ?_
      refine JE.then_normal ?_
      refine J.block ?_
      have hi16 : i = 16 := by omega
      refine J.loop (α := Nat) (fun i => 16 ≤ i ∧ i ≤ 64) (fun i => [(0, .pointer (some ⟨b, 0, none⟩)), (4, .pointer (some ⟨bw, 0, none⟩)), (6, .int .i64 i)]) (fun i => row bw 155 ((schedW bs i).map W) :: row b 167 (hcells s.list (some ⟨gk, ok, none⟩) kc rest N) :: l) (fun i => 64 - i) 16 (by omega) ⟨rfl, rfl, rfl, trivial⟩ (fun w h => by rw [hi16] at h; exact h) ?_
      clear hi16 hwl h hi
      clear i
      intro i hi
      have hwl := schedW_length bs (i := i) (by omega)
      refine J.seq ?_
      refine J.seq ?_
      refine J.region ?_
      refine JL.step (y_move rfl) rfl rfl rfl (JL.step (y_lss rfl rfl) rfl rfl rfl ?_)
      refine JL.nil ?_
      refine JE.then_normal ?_
      first | apply J.cond_dec rfl | apply J.cond rfl
      case' ht =>
        intro h
        try (first | (exfalso; omega) | (cases h; done) | (exfalso; simp at h; done) | subst h)
        all_goals
          refine J.skip ?_
      case' hf =>
        intro h
        try (first | (exfalso; omega) | (cases h; done) | (exfalso; simp at h; done) | subst h)
        all_goals
          refine J.exit ?_
          refine JE.then_exit ?_
          refine JE.then_exit ?_
          refine JE.block_exit ?_
          refine JE.then_normal ?_
          refine J.seq ?_
          have hi64 : i = 64 := by omega
          rw [hi64]
          clear hi64 hwl h hi
          clear i
          have hwl := schedW_length bs (i := 64) (by omega)
          rw [schedW_all] at hwl ⊢
          obtain ⟨ws, hws⟩ : ∃ ws, schedTo bs 64 = ws := ⟨_, rfl⟩
          rw [hws] at hwl ⊢
          refine J.draw _ _ [(0, .q), (1, .q), (2, .q), (3, .q), (4, .q), (5, .q), (6, .q), (7, .q), (8, .q), (9, .q), (10, .q), (11, .q), (12, .q), (13, .q), (14, .q), (15, .q), (16, .q), (17, .q), (18, .q), (19, .q), (20, .q), (21, .q), (22, .q), (23, .q), (24, .q), (25, .q), (26, .q), (27, .q), (28, .q), (29, .q), (30, .q), (31, .q), (32, .q), (33, .q), (34, .q), (35, .q), (36, .q), (37, .q), (38, .q), (39, .q), (40, .q), (41, .q), (42, .q), (43, .q), (44, .q), (45, .q), (46, .q), (47, .q)] mixed (by kernel_rfl) (Split.nil) ?_
          refine JM.quiet rfl rfl rfl rfl (fun m => y_move rfl) ?_
          refine JM.quiet rfl rfl rfl rfl (fun m => (by first | exact y_nilCheck rfl | exact y_nilCheckF rfl | exact y_nilCheckY rfl)) ?_
          refine JM.quiet rfl rfl rfl rfl (fun m => y_fieldAddr hT rfl rfl rfl rfl rfl rfl) ?_
          refine JM.quiet rfl rfl rfl rfl (fun m => y_indexAddr_arr hT rfl rfl rfl rfl rfl (by (first | omega | exact Nat.le_of_ble_eq_true rfl | decide | (simp; omega))) (by (first | omega | exact Nat.le_of_ble_eq_true rfl | decide | (simp; omega)))) ?_
          refine JM.quiet rfl rfl rfl rfl (fun m => y_load1 hT rfl rfl rfl (by (exact Rd1.row (Pick.app m (by (repeat (first | exact Pick.head | apply Pick.tail | apply Pick.app)))) (by rfl)))) ?_
          refine JM.quiet rfl rfl rfl rfl (fun m => y_move rfl) ?_
          refine JM.quiet rfl rfl rfl rfl (fun m => (by first | exact y_nilCheck rfl | exact y_nilCheckF rfl | exact y_nilCheckY rfl)) ?_
          refine JM.quiet rfl rfl rfl rfl (fun m => y_fieldAddr hT rfl rfl rfl rfl rfl rfl) ?_
          refine JM.quiet rfl rfl rfl rfl (fun m => y_indexAddr_arr hT rfl rfl rfl rfl rfl (by (first | omega | exact Nat.le_of_ble_eq_true rfl | decide | (simp; omega))) (by (first | omega | exact Nat.le_of_ble_eq_true rfl | decide | (simp; omega)))) ?_
          refine JM.quiet rfl rfl rfl rfl (fun m => y_load1 hT rfl rfl rfl (by (exact Rd1.row (Pick.app m (by (repeat (first | exact Pick.head | apply Pick.tail | apply Pick.app)))) (by rfl)))) ?_
          refine JM.quiet rfl rfl rfl rfl (fun m => y_move rfl) ?_
          refine JM.quiet rfl rfl rfl rfl (fun m => (by first | exact y_nilCheck rfl | exact y_nilCheckF rfl | exact y_nilCheckY rfl)) ?_
          refine JM.quiet rfl rfl rfl rfl (fun m => y_fieldAddr hT rfl rfl rfl rfl rfl rfl) ?_
          refine JM.quiet rfl rfl rfl rfl (fun m => y_indexAddr_arr hT rfl rfl rfl rfl rfl (by (first | omega | exact Nat.le_of_ble_eq_true rfl | decide | (simp; omega))) (by (first | omega | exact Nat.le_of_ble_eq_true rfl | decide | (simp; omega)))) ?_
          refine JM.quiet rfl rfl rfl rfl (fun m => y_load1 hT rfl rfl rfl (by (exact Rd1.row (Pick.app m (by (repeat (first | exact Pick.head | apply Pick.tail | apply Pick.app)))) (by rfl)))) ?_
          refine JM.quiet rfl rfl rfl rfl (fun m => y_move rfl) ?_
          refine JM.quiet rfl rfl rfl rfl (fun m => (by first | exact y_nilCheck rfl | exact y_nilCheckF rfl | exact y_nilCheckY rfl)) ?_
          refine JM.quiet rfl rfl rfl rfl (fun m => y_fieldAddr hT rfl rfl rfl rfl rfl rfl) ?_
          refine JM.quiet rfl rfl rfl rfl (fun m => y_indexAddr_arr hT rfl rfl rfl rfl rfl (by (first | omega | exact Nat.le_of_ble_eq_true rfl | decide | (simp; omega))) (by (first | omega | exact Nat.le_of_ble_eq_true rfl | decide | (simp; omega)))) ?_
          refine JM.quiet rfl rfl rfl rfl (fun m => y_load1 hT rfl rfl rfl (by (exact Rd1.row (Pick.app m (by (repeat (first | exact Pick.head | apply Pick.tail | apply Pick.app)))) (by rfl)))) ?_
          refine JM.quiet rfl rfl rfl rfl (fun m => y_move rfl) ?_
          refine JM.quiet rfl rfl rfl rfl (fun m => (by first | exact y_nilCheck rfl | exact y_nilCheckF rfl | exact y_nilCheckY rfl)) ?_
          refine JM.quiet rfl rfl rfl rfl (fun m => y_fieldAddr hT rfl rfl rfl rfl rfl rfl) ?_
          refine JM.quiet rfl rfl rfl rfl (fun m => y_indexAddr_arr hT rfl rfl rfl rfl rfl (by (first | omega | exact Nat.le_of_ble_eq_true rfl | decide | (simp; omega))) (by (first | omega | exact Nat.le_of_ble_eq_true rfl | decide | (simp; omega)))) ?_
          refine JM.quiet rfl rfl rfl rfl (fun m => y_load1 hT rfl rfl rfl (by (exact Rd1.row (Pick.app m (by (repeat (first | exact Pick.head | apply Pick.tail | apply Pick.app)))) (by rfl)))) ?_
          refine JM.quiet rfl rfl rfl rfl (fun m => y_move rfl) ?_
          refine JM.quiet rfl rfl rfl rfl (fun m => (by first | exact y_nilCheck rfl | exact y_nilCheckF rfl | exact y_nilCheckY rfl)) ?_
          refine JM.quiet rfl rfl rfl rfl (fun m => y_fieldAddr hT rfl rfl rfl rfl rfl rfl) ?_
          refine JM.quiet rfl rfl rfl rfl (fun m => y_indexAddr_arr hT rfl rfl rfl rfl rfl (by (first | omega | exact Nat.le_of_ble_eq_true rfl | decide | (simp; omega))) (by (first | omega | exact Nat.le_of_ble_eq_true rfl | decide | (simp; omega)))) ?_
          refine JM.quiet rfl rfl rfl rfl (fun m => y_load1 hT rfl rfl rfl (by (exact Rd1.row (Pick.app m (by (repeat (first | exact Pick.head | apply Pick.tail | apply Pick.app)))) (by rfl)))) ?_
          refine JM.quiet rfl rfl rfl rfl (fun m => y_move rfl) ?_
          refine JM.quiet rfl rfl rfl rfl (fun m => (by first | exact y_nilCheck rfl | exact y_nilCheckF rfl | exact y_nilCheckY rfl)) ?_
          refine JM.quiet rfl rfl rfl rfl (fun m => y_fieldAddr hT rfl rfl rfl rfl rfl rfl) ?_
          refine JM.quiet rfl rfl rfl rfl (fun m => y_indexAddr_arr hT rfl rfl rfl rfl rfl (by (first | omega | exact Nat.le_of_ble_eq_true rfl | decide | (simp; omega))) (by (first | omega | exact Nat.le_of_ble_eq_true rfl | decide | (simp; omega)))) ?_
          refine JM.quiet rfl rfl rfl rfl (fun m => y_load1 hT rfl rfl rfl (by (exact Rd1.row (Pick.app m (by (repeat (first | exact Pick.head | apply Pick.tail | apply Pick.app)))) (by rfl)))) ?_
          refine JM.quiet rfl rfl rfl rfl (fun m => y_move rfl) ?_
          refine JM.quiet rfl rfl rfl rfl (fun m => (by first | exact y_nilCheck rfl | exact y_nilCheckF rfl | exact y_nilCheckY rfl)) ?_
          refine JM.quiet rfl rfl rfl rfl (fun m => y_fieldAddr hT rfl rfl rfl rfl rfl rfl) ?_
          refine JM.quiet rfl rfl rfl rfl (fun m => y_indexAddr_arr hT rfl rfl rfl rfl rfl (by (first | omega | exact Nat.le_of_ble_eq_true rfl | decide | (simp; omega))) (by (first | omega | exact Nat.le_of_ble_eq_true rfl | decide | (simp; omega)))) ?_
          refine JM.quiet rfl rfl rfl rfl (fun m => y_load1 hT rfl rfl rfl (by (exact Rd1.row (Pick.app m (by (repeat (first | exact Pick.head | apply Pick.tail | apply Pick.app)))) (by rfl)))) ?_
          refine JM.quiet rfl rfl rfl rfl (fun m => y_assign rfl) ?_
          refine JM.quiet rfl rfl rfl rfl (fun m => y_assign rfl) ?_
          refine JM.quiet rfl rfl rfl rfl (fun m => y_assign rfl) ?_
          refine JM.quiet rfl rfl rfl rfl (fun m => y_assign rfl) ?_
          refine JM.quiet rfl rfl rfl rfl (fun m => y_assign rfl) ?_
          refine JM.quiet rfl rfl rfl rfl (fun m => y_assign rfl) ?_
          refine JM.quiet rfl rfl rfl rfl (fun m => y_assign rfl) ?_
          refine JM.quiet rfl rfl rfl rfl (fun m => y_assign rfl) ?_
          refine JM.nil ?_
          refine JE.then_normal ?_
          refine J.seq ?_
          refine J.seq ?_
          refine J.region ?_
          refine JL.step (y_loadN hT rfl rfl rfl (RdN.rowAll (by (repeat (first | exact Pick.head | apply Pick.tail | apply Pick.app)))) (by rw [List.length_map, hwl]; rfl)) rfl rfl rfl ?_
          refine JL.step (y_move rfl) rfl rfl rfl ?_
          refine JL.nil ?_
          refine JE.then_normal ?_
          refine J.block ?_
          refine J.loop (α := Nat) (fun i => i ≤ 64) (fun i => [(0, .pointer (some ⟨b, 0, none⟩)), (9, W (roundsTo ws s i).a), (10, W (roundsTo ws s i).b), (11, W (roundsTo ws s i).c), (12, W (roundsTo ws s i).d), (13, W (roundsTo ws s i).e), (14, W (roundsTo ws s i).f), (15, W (roundsTo ws s i).g), (16, W (roundsTo ws s i).h), (143, .agg (ws.map W).toArray), (144, .int .i64 i)]) (fun i => row b 167 (hcells s.list (some ⟨gk, ok, none⟩) kc rest N) :: l) (fun i => 64 - i) 0 (by omega) ⟨rfl, rfl, rfl, rfl, rfl, rfl, rfl, rfl, rfl, rfl, rfl, trivial⟩ (fun w h => h.sup (by (repeat (first | exact Sup.refl | apply Sup.cons (by (repeat (first | exact Pick.head | apply Pick.tail | apply Pick.app))) | apply Sup.app | apply Sup.skip | apply Sup.skips)))) ?_
          intro i hi
          have hki : (K64.map W)[i]? = some (W (K64.getD i 0)) ∨ 64 ≤ i := by
            rcases Nat.lt_or_ge i 64 with h | h
            · refine .inl ?_
              rw [List.getElem?_map, List.getD_eq_getElem?_getD, List.getElem?_eq_getElem (by rw [K64_length]; exact h)]; rfl
            · exact .inr h
          have hsi : (ws.map W)[i]? = some (W (ws.getD i 0)) ∨ 64 ≤ i := by
            rcases Nat.lt_or_ge i 64 with h | h
            · refine .inl ?_
              rw [List.getElem?_map, List.getD_eq_getElem?_getD, List.getElem?_eq_getElem (by rw [hwl]; exact h)]; rfl
            · exact .inr h
          refine J.seq ?_
          refine J.region ?_
          refine JL.step (y_lss rfl rfl) rfl rfl rfl ?_
          refine JL.nil ?_
          refine JE.then_normal ?_
          refine J.seq ?_
          first | apply J.cond_dec rfl | apply J.cond rfl
          case' ht =>
            intro h
            try (first | (exfalso; omega) | (cases h; done) | (exfalso; simp at h; done) | subst h)
            all_goals
              refine J.skip ?_
          case' hf =>
            intro h
            try (first | (exfalso; omega) | (cases h; done) | (exfalso; simp at h; done) | subst h)
            all_goals
              refine J.exit ?_
              refine JE.then_exit ?_
              refine JE.then_exit ?_
              refine JE.block_exit ?_
              refine JE.then_normal ?_
              refine J.seq ?_
              have hi64 : i = 64 := by omega
              rw [hi64]
              clear hi64 h hki hsi hi
              clear i
              obtain ⟨q0, hq0⟩ : ∃ q0, roundsTo ws s 64 = q0 := ⟨_, rfl⟩
              rw [hq0]
              have hcmp : compress s bs = ⟨s.a + q0.a, s.b + q0.b, s.c + q0.c, s.d + q0.d, s.e + q0.e, s.f + q0.f, s.g + q0.g, s.h + q0.h⟩ := by rw [compress, hws, hq0]
              rw [hcmp]
              clear hcmp hq0
              obtain ⟨qa, qb, qc, qd, qe, qf, qg, qh⟩ := q0
              obtain ⟨sa, sb, sc, sd, se, sf, sg, sh⟩ := s
              dsimp only [S8.list]
              refine J.region ?_
              refine JL.step (y_move rfl) rfl rfl rfl (JL.step (y_move rfl) rfl rfl rfl (JL.step (y_move rfl) rfl rfl rfl (JL.step (y_move rfl) rfl rfl rfl (JL.step (y_move rfl) rfl rfl rfl (JL.step (y_move rfl) rfl rfl rfl (JL.step (y_move rfl) rfl rfl rfl (JL.step (y_move rfl) rfl rfl rfl ?_)))))))
              refine JL.step (y_buildArr (cs := [W qa, W qb, W qc, W qd, W qe, W qf, W qg, W qh]) hT rfl rfl rfl rfl rfl (by kernel_rfl)) rfl rfl rfl ?_
              refine JL.step (y_move rfl) rfl rfl rfl ?_
              refine JL.nil ?_
              refine JE.then_normal ?_
              refine J.block ?_
              refine J.loop (α := Nat) (fun i => i ≤ 8) (fun i => [(0, .pointer (some ⟨b, 0, none⟩)), (215, .agg [W qa, W qb, W qc, W qd, W qe, W qf, W qg, W qh].toArray), (216, .int .i64 i)]) (fun i => row b 167 (hcells ([sa + qa, sb + qb, sc + qc, sd + qd, se + qe, sf + qf, sg + qg, sh + qh].take i ++ [sa, sb, sc, sd, se, sf, sg, sh].drop i) (some ⟨gk, ok, none⟩) kc rest N) :: l) (fun i => 8 - i) 0 (by omega) ⟨rfl, rfl, rfl, trivial⟩ (fun w h => h) ?_
              intro i hi
              refine J.seq ?_
              refine J.region ?_
              refine JL.step (y_lss rfl rfl) rfl rfl rfl ?_
              refine JL.nil ?_
              refine JE.then_normal ?_
              refine J.seq ?_
              first | apply J.cond_dec rfl | apply J.cond rfl
              case' ht =>
                intro h
                try (first | (exfalso; omega) | (cases h; done) | (exfalso; simp at h; done) | subst h)
                all_goals
                  refine J.skip ?_
              case' hf =>
                intro h
                try (first | (exfalso; omega) | (cases h; done) | (exfalso; simp at h; done) | subst h)
                all_goals
                  refine J.exit ?_
                  refine JE.then_exit ?_
                  refine JE.then_exit ?_
                  refine JE.block_exit ?_
                  refine JE.ret0 (.inr rfl) rfl rfl  ?_
                  obtain rfl : i = 8 := by omega
                  exact ⟨rfl, fun w q => q.sup (by (repeat (first | exact Sup.refl | apply Sup.cons (by (repeat (first | exact Pick.head | apply Pick.tail | apply Pick.app))) | apply Sup.app | apply Sup.skip | apply Sup.skips)))⟩
              all_goals refine JE.then_normal ?_
              all_goals
                refine J.seq ?_
                refine J.block ?_
                refine J.seq ?_
                refine J.region ?_
                rcases (by omega : i = 0 ∨ i = 1 ∨ i = 2 ∨ i = 3 ∨ i = 4 ∨ i = 5 ∨ i = 6 ∨ i = 7) with rfl | rfl | rfl | rfl | rfl | rfl | rfl | rfl <;> refine JL.step (y_move rfl) rfl rfl rfl ?_
                all_goals (refine JL.step (y_index1 hT rfl rfl rfl rfl rfl rfl rfl (by (first | omega | exact Nat.le_of_ble_eq_true rfl | decide | (simp; omega))) (by (first | omega | exact Nat.le_of_ble_eq_true rfl | decide | (simp; omega))) (by rfl)) rfl rfl rfl ?_)
                all_goals (refine JL.step (y_assign rfl) rfl rfl rfl ?_)
                all_goals (refine JL.step (y_assign rfl) rfl rfl rfl ?_)
                all_goals refine JL.nil ?_
                all_goals refine JE.then_normal ?_
                all_goals
                  refine J.draw _ _ [(0, .q), (1, .q), (2, .q), (3, .q), (4, .q), (6, .q), (8, .q), (9, .q), (5, .l), (7, .q), (10, .q), (11, .l)] mixed (by kernel_rfl) (Split.cons (Pick.head) (Split.nil)) ?_
                  refine JM.quiet rfl rfl rfl rfl (fun m => y_move rfl) ?_
                  refine JM.quiet rfl rfl rfl rfl (fun m => y_move rfl) ?_
                  refine JM.quiet rfl rfl rfl rfl (fun m => (by first | exact y_nilCheck rfl | exact y_nilCheckF rfl | exact y_nilCheckY rfl)) ?_
                  refine JM.quiet rfl rfl rfl rfl (fun m => y_fieldAddr hT rfl rfl rfl rfl rfl rfl) ?_
                  refine JM.quiet rfl rfl rfl rfl (fun m => y_indexAddr_arr hT rfl rfl rfl rfl rfl (by (first | omega | exact Nat.le_of_ble_eq_true rfl | decide | (simp; omega))) (by (first | omega | exact Nat.le_of_ble_eq_true rfl | decide | (simp; omega)))) ?_
                  refine JM.quiet rfl rfl rfl rfl (fun m => y_move rfl) ?_
                  refine JM.quiet rfl rfl rfl rfl (fun m => (by first | exact y_nilCheck rfl | exact y_nilCheckF rfl | exact y_nilCheckY rfl)) ?_
                  refine JM.quiet rfl rfl rfl rfl (fun m => y_fieldAddr hT rfl rfl rfl rfl rfl rfl) ?_
                  refine JM.loud rfl rfl (fun fr => LS.ofY rfl rfl (y_load1 hT rfl rfl rfl (by (exact Rd1.row (by (repeat (first | exact Pick.head | apply Pick.tail | apply Pick.app))) (by rfl)))) ⟨[_], (by (repeat (first | exact Split.nil | exact Split.all | refine Split.cons Pick.head ?_))), ?_⟩)
                  refine JM.quiet rfl rfl rfl rfl (fun m => (by first | exact y_addW rfl rfl | exact y_add rfl rfl (by (first | exact wrap_i64 (by omega) (by omega) | rfl)))) ?_
                  refine JM.quiet rfl rfl rfl rfl (fun m => y_indexAddr_arr hT rfl rfl rfl rfl rfl (by (first | omega | exact Nat.le_of_ble_eq_true rfl | decide | (simp; omega))) (by (first | omega | exact Nat.le_of_ble_eq_true rfl | decide | (simp; omega)))) ?_
                  refine JM.loud rfl rfl (fun fr => l_store1 hT rfl rfl rfl rfl rfl (by (repeat (first | exact Pick.head | apply Pick.tail | apply Pick.app))) (by (first | omega | exact Nat.le_of_ble_eq_true rfl | decide | (simp; omega))) (⟨[_], (by (repeat (first | exact Split.nil | exact Split.all | refine Split.cons Pick.head ?_))), ?_⟩))
                  refine JM.nil ?_
                all_goals refine JE.block_normal ?_
                all_goals refine JE.then_normal ?_
                all_goals
                  refine J.region ?_
                  refine JL.step (y_add rfl rfl (by (first | exact wrap_i64 (by omega) (by omega) | rfl))) rfl rfl rfl ?_
                  refine JL.step (y_move rfl) rfl rfl rfl ?_
                  refine JL.nil ?_
              all_goals
                first
                  | exact JE.round (s := 0) 1 (by omega) ⟨rfl, rfl, rfl, trivial⟩ (fun w q => q.sup (by (repeat (first | exact Sup.refl | apply Sup.cons (by (repeat (first | exact Pick.head | apply Pick.tail | apply Pick.app))) | apply Sup.app | apply Sup.skip | apply Sup.skips)))) (by omega)
                  | exact JE.round (s := 1) 2 (by omega) ⟨rfl, rfl, rfl, trivial⟩ (fun w q => q.sup (by (repeat (first | exact Sup.refl | apply Sup.cons (by (repeat (first | exact Pick.head | apply Pick.tail | apply Pick.app))) | apply Sup.app | apply Sup.skip | apply Sup.skips)))) (by omega)
                  | exact JE.round (s := 2) 3 (by omega) ⟨rfl, rfl, rfl, trivial⟩ (fun w q => q.sup (by (repeat (first | exact Sup.refl | apply Sup.cons (by (repeat (first | exact Pick.head | apply Pick.tail | apply Pick.app))) | apply Sup.app | apply Sup.skip | apply Sup.skips)))) (by omega)
                  | exact JE.round (s := 3) 4 (by omega) ⟨rfl, rfl, rfl, trivial⟩ (fun w q => q.sup (by (repeat (first | exact Sup.refl | apply Sup.cons (by (repeat (first | exact Pick.head | apply Pick.tail | apply Pick.app))) | apply Sup.app | apply Sup.skip | apply Sup.skips)))) (by omega)
                  | exact JE.round (s := 4) 5 (by omega) ⟨rfl, rfl, rfl, trivial⟩ (fun w q => q.sup (by (repeat (first | exact Sup.refl | apply Sup.cons (by (repeat (first | exact Pick.head | apply Pick.tail | apply Pick.app))) | apply Sup.app | apply Sup.skip | apply Sup.skips)))) (by omega)
                  | exact JE.round (s := 5) 6 (by omega) ⟨rfl, rfl, rfl, trivial⟩ (fun w q => q.sup (by (repeat (first | exact Sup.refl | apply Sup.cons (by (repeat (first | exact Pick.head | apply Pick.tail | apply Pick.app))) | apply Sup.app | apply Sup.skip | apply Sup.skips)))) (by omega)
                  | exact JE.round (s := 6) 7 (by omega) ⟨rfl, rfl, rfl, trivial⟩ (fun w q => q.sup (by (repeat (first | exact Sup.refl | apply Sup.cons (by (repeat (first | exact Pick.head | apply Pick.tail | apply Pick.app))) | apply Sup.app | apply Sup.skip | apply Sup.skips)))) (by omega)
                  | exact JE.round (s := 7) 8 (by omega) ⟨rfl, rfl, rfl, trivial⟩ (fun w q => q.sup (by (repeat (first | exact Sup.refl | apply Sup.cons (by (repeat (first | exact Pick.head | apply Pick.tail | apply Pick.app))) | apply Sup.app | apply Sup.skip | apply Sup.skips)))) (by omega)
          all_goals refine JE.then_normal ?_
          all_goals
            refine J.seq ?_
            refine J.block ?_
            refine J.seq ?_
            refine J.region ?_
            refine JL.step (y_move rfl) rfl rfl rfl ?_
            refine JL.step (y_index1 hT rfl rfl rfl rfl rfl rfl rfl (by (first | omega | exact Nat.le_of_ble_eq_true rfl | decide | (simp; omega))) (by (first | omega | exact Nat.le_of_ble_eq_true rfl | decide | (simp; omega))) (hsi.resolve_right (by omega))) rfl rfl rfl ?_
            refine JL.step (y_assign rfl) rfl rfl rfl (JL.step (y_assign rfl) rfl rfl rfl ?_)
            refine JL.nil ?_
            refine JE.then_normal ?_
            refine J.seq ?_
            refine J.draw _ _ [(0, .q), (1, .q), (2, .q), (3, .q), (4, .q), (5, .q), (6, .q), (7, .q), (8, .q), (9, .q), (10, .q), (11, .q), (12, .q), (13, .q), (14, .q), (15, .q), (16, .q), (17, .q), (18, .q), (19, .q), (20, .q), (21, .q), (22, .q), (23, .q), (24, .q), (25, .q), (26, .q), (27, .q), (28, .q)] mixed (by kernel_rfl) (Split.nil) ?_
            refine JM.quiet rfl rfl rfl rfl (fun m => y_move rfl) ?_
            refine JM.quiet rfl rfl rfl rfl (fun m => y_move rfl) ?_
            refine JM.quiet rfl rfl rfl rfl (fun m => y_callF e110 rfl (shaTurn_spec E _ 6 (by omega) _)) ?_
            refine JM.quiet rfl rfl rfl rfl (fun m => y_move rfl) ?_
            refine JM.quiet rfl rfl rfl rfl (fun m => y_callF e110 rfl (shaTurn_spec E _ 11 (by omega) _)) ?_
            refine JM.quiet rfl rfl rfl rfl (fun m => (by first | exact y_xorW rfl rfl | exact y_bits rfl rfl (by rfl))) ?_
            refine JM.quiet rfl rfl rfl rfl (fun m => y_move rfl) ?_
            refine JM.quiet rfl rfl rfl rfl (fun m => y_callF e110 rfl (shaTurn_spec E _ 25 (by omega) _)) ?_
            refine JM.quiet rfl rfl rfl rfl (fun m => (by first | exact y_xorW rfl rfl | exact y_bits rfl rfl (by rfl))) ?_
            refine JM.quiet rfl rfl rfl rfl (fun m => (by first | exact y_addW rfl rfl | exact y_add rfl rfl (by (first | exact wrap_i64 (by omega) (by omega) | rfl)))) ?_
            refine JM.quiet rfl rfl rfl rfl (fun m => y_move rfl) ?_
            refine JM.quiet rfl rfl rfl rfl (fun m => y_move rfl) ?_
            refine JM.quiet rfl rfl rfl rfl (fun m => y_move rfl) ?_
            refine JM.quiet rfl rfl rfl rfl (fun m => y_move rfl) ?_
            refine JM.quiet rfl rfl rfl rfl (fun m => (by first | exact y_xorW rfl rfl | exact y_bits rfl rfl (by rfl))) ?_
            refine JM.quiet rfl rfl rfl rfl (fun m => (by first | exact y_andW rfl rfl | exact y_bits rfl rfl (by rfl))) ?_
            refine JM.quiet rfl rfl rfl rfl (fun m => (by first | exact y_xorW rfl rfl | exact y_bits rfl rfl (by rfl))) ?_
            refine JM.quiet rfl rfl rfl rfl (fun m => (by first | exact y_addW rfl rfl | exact y_add rfl rfl (by (first | exact wrap_i64 (by omega) (by omega) | rfl)))) ?_
            refine JM.quiet rfl rfl rfl rfl (fun m => y_move rfl) ?_
            refine JM.quiet rfl rfl rfl rfl (fun m => (by first | exact y_nilCheck rfl | exact y_nilCheckF rfl | exact y_nilCheckY rfl)) ?_
            refine JM.quiet rfl rfl rfl rfl (fun m => y_fieldAddr hT rfl rfl rfl rfl rfl rfl) ?_
            refine JM.quiet rfl rfl rfl rfl (fun m => y_load1 hT rfl rfl rfl (by (exact Rd1.row (Pick.app m (by (repeat (first | exact Pick.head | apply Pick.tail | apply Pick.app)))) (by rfl)))) ?_
            refine JM.quiet rfl rfl rfl rfl (fun m => y_move rfl) ?_
            refine JM.quiet rfl rfl rfl rfl (fun m => y_indexAddr_slice hT rfl rfl rfl rfl rfl (by (first | omega | exact Nat.le_of_ble_eq_true rfl | decide | (simp; omega))) (by (first | omega | exact Nat.le_of_ble_eq_true rfl | decide | (simp; omega)))) ?_
            refine JM.quiet rfl rfl rfl rfl (fun m => y_load1 hT rfl rfl rfl (Rd1.elem (by (repeat (first | assumption | apply RdN.cons | apply RdN.app))) (hki.resolve_right (by omega)))) ?_
            refine JM.quiet rfl rfl rfl rfl (fun m => (by first | exact y_addW rfl rfl | exact y_add rfl rfl (by (first | exact wrap_i64 (by omega) (by omega) | rfl)))) ?_
            refine JM.quiet rfl rfl rfl rfl (fun m => y_move rfl) ?_
            refine JM.quiet rfl rfl rfl rfl (fun m => (by first | exact y_addW rfl rfl | exact y_add rfl rfl (by (first | exact wrap_i64 (by omega) (by omega) | rfl)))) ?_
            refine JM.quiet rfl rfl rfl rfl (fun m => y_assign rfl) ?_
            refine JM.nil ?_
            refine JE.then_normal ?_
            refine J.seq ?_
            refine J.region ?_
            refine JL.step (y_move rfl) rfl rfl rfl ?_
            refine JL.loud rfl (l_callF e110 rfl rfl (shaTurn_spec E _ 2 (by omega) _) ?_)
            rintro _ _ ⟨rfl, rfl⟩
            refine JL.step (y_move rfl) rfl rfl rfl ?_
            refine JL.loud rfl (l_callF e110 rfl rfl (shaTurn_spec E _ 13 (by omega) _) ?_)
            rintro _ _ ⟨rfl, rfl⟩
            refine JL.step ((by first | exact y_xorW rfl rfl | exact y_bits rfl rfl (by rfl))) rfl rfl rfl ?_
            refine JL.step (y_move rfl) rfl rfl rfl ?_
            refine JL.loud rfl (l_callF e110 rfl rfl (shaTurn_spec E _ 22 (by omega) _) ?_)
            rintro _ _ ⟨rfl, rfl⟩
            refine JL.step ((by first | exact y_xorW rfl rfl | exact y_bits rfl rfl (by rfl))) rfl rfl rfl ?_
            refine JL.step (y_move rfl) rfl rfl rfl (JL.step (y_move rfl) rfl rfl rfl ?_)
            refine JL.step ((by first | exact y_andW rfl rfl | exact y_bits rfl rfl (by rfl))) rfl rfl rfl ?_
            refine JL.step (y_move rfl) rfl rfl rfl (JL.step (y_move rfl) rfl rfl rfl (JL.step (y_move rfl) rfl rfl rfl ?_))
            refine JL.step ((by first | exact y_orW rfl rfl | exact y_bits rfl rfl (by rfl))) rfl rfl rfl ?_
            refine JL.step ((by first | exact y_andW rfl rfl | exact y_bits rfl rfl (by rfl))) rfl rfl rfl ?_
            refine JL.step ((by first | exact y_orW rfl rfl | exact y_bits rfl rfl (by rfl))) rfl rfl rfl ?_
            refine JL.step ((by first | exact y_addW rfl rfl | exact y_add rfl rfl (by (first | exact wrap_i64 (by omega) (by omega) | rfl)))) rfl rfl rfl ?_
            refine JL.step (y_assign rfl) rfl rfl rfl ?_
            refine JL.nil ?_
            refine JE.then_normal ?_
            refine J.region ?_
            refine JL.step (y_move rfl) rfl rfl rfl (JL.step (y_move rfl) rfl rfl rfl ?_)
            refine JL.step ((by first | exact y_addW rfl rfl | exact y_add rfl rfl (by (first | exact wrap_i64 (by omega) (by omega) | rfl)))) rfl rfl rfl ?_
            refine JL.step (y_move rfl) rfl rfl rfl (JL.step (y_move rfl) rfl rfl rfl (JL.step (y_move rfl) rfl rfl rfl (JL.step (y_move rfl) rfl rfl rfl (JL.step (y_move rfl) rfl rfl rfl ?_))))
            refine JL.step ((by first | exact y_addW rfl rfl | exact y_add rfl rfl (by (first | exact wrap_i64 (by omega) (by omega) | rfl)))) rfl rfl rfl ?_
            refine JL.step (y_move rfl) rfl rfl rfl (JL.step (y_move rfl) rfl rfl rfl (JL.step (y_move rfl) rfl rfl rfl (JL.step (y_assign rfl) rfl rfl rfl (JL.step (y_assign rfl) rfl rfl rfl (JL.step (y_assign rfl) rfl rfl rfl (JL.step (y_assign rfl) rfl rfl rfl (JL.step (y_assign rfl) rfl rfl rfl (JL.step (y_assign rfl) rfl rfl rfl (JL.step (y_assign rfl) rfl rfl rfl (JL.step (y_assign rfl) rfl rfl rfl ?_))))))))))
            refine JL.nil ?_
            refine JE.block_normal ?_
            refine JE.then_normal ?_
            refine J.region ?_
            refine JL.step (y_add rfl rfl (by (first | exact wrap_i64 (by omega) (by omega) | rfl))) rfl rfl rfl ?_
            refine JL.step (y_move rfl) rfl rfl rfl ?_
            refine JL.nil ?_
          all_goals
            exact JE.round (s := i) (i + 1) (by omega) ⟨rfl, rfl, rfl, rfl, rfl, rfl, rfl, rfl, rfl, rfl, rfl, trivial⟩ (fun w q => q.sup (by (repeat (first | exact Sup.refl | apply Sup.cons (by (repeat (first | exact Pick.head | apply Pick.tail | apply Pick.app))) | apply Sup.app | apply Sup.skip | apply Sup.skips)))) (by omega)
      all_goals refine JE.then_normal ?_
      all_goals
        refine J.seq ?_
        refine J.block ?_
        refine J.seq ?_
        refine J.draw _ _ [(0, .q), (1, .q), (2, .q), (3, .q), (4, .q), (5, .q), (6, .q), (7, .q), (8, .q), (9, .q)] mixed (by kernel_rfl) (Split.nil) ?_
        refine JM.quiet rfl rfl rfl rfl (fun m => y_move rfl) ?_
        refine JM.quiet rfl rfl rfl rfl (fun m => y_sub rfl rfl (by (first | exact wrap_i64 (by omega) (by omega) | rfl))) ?_
        refine JM.quiet rfl rfl rfl rfl (fun m => y_indexAddr_arr hT rfl rfl rfl rfl rfl (by (first | omega | exact Nat.le_of_ble_eq_true rfl | decide | (simp; omega))) (by (first | omega | exact Nat.le_of_ble_eq_true rfl | decide | (simp; omega)))) ?_
        refine JM.quiet rfl rfl rfl rfl (fun m => y_load1 hT rfl rfl rfl (Rd1.wordsAt (j := i - 15) (Pick.app m (by (repeat (first | exact Pick.head | apply Pick.tail | apply Pick.app)))) (by omega) (by rw [show i145.size = 1 from rfl]; omega))) ?_
        refine JM.quiet rfl rfl rfl rfl (fun m => y_move rfl) ?_
        refine JM.quiet rfl rfl rfl rfl (fun m => y_sub rfl rfl (by (first | exact wrap_i64 (by omega) (by omega) | rfl))) ?_
        refine JM.quiet rfl rfl rfl rfl (fun m => y_indexAddr_arr hT rfl rfl rfl rfl rfl (by (first | omega | exact Nat.le_of_ble_eq_true rfl | decide | (simp; omega))) (by (first | omega | exact Nat.le_of_ble_eq_true rfl | decide | (simp; omega)))) ?_
        refine JM.quiet rfl rfl rfl rfl (fun m => y_load1 hT rfl rfl rfl (Rd1.wordsAt (j := i - 2) (Pick.app m (by (repeat (first | exact Pick.head | apply Pick.tail | apply Pick.app)))) (by omega) (by rw [show i145.size = 1 from rfl]; omega))) ?_
        refine JM.quiet rfl rfl rfl rfl (fun m => y_assign rfl) ?_
        refine JM.quiet rfl rfl rfl rfl (fun m => y_assign rfl) ?_
        refine JM.nil ?_
        refine JE.then_normal ?_
        refine J.draw _ _ [(0, .q), (1, .q), (2, .q), (3, .q), (5, .q), (6, .q), (7, .q), (10, .q), (11, .q), (12, .q), (13, .q), (14, .q), (15, .q), (16, .q), (17, .q), (19, .q), (20, .q), (21, .q), (22, .q), (23, .q), (24, .q), (25, .q), (26, .q), (4, .e), (8, .e), (9, .q), (18, .q), (27, .q), (28, .q), (29, .l)] mixed (by kernel_rfl) (Split.cons (Pick.head) (Split.nil)) ?_
        refine JM.quiet rfl rfl rfl rfl (fun m => y_move rfl) ?_
        refine JM.quiet rfl rfl rfl rfl (fun m => y_move rfl) ?_
        refine JM.quiet rfl rfl rfl rfl (fun m => y_sub rfl rfl (by (first | exact wrap_i64 (by omega) (by omega) | rfl))) ?_
        refine JM.quiet rfl rfl rfl rfl (fun m => y_indexAddr_arr hT rfl rfl rfl rfl rfl (by (first | omega | exact Nat.le_of_ble_eq_true rfl | decide | (simp; omega))) (by (first | omega | exact Nat.le_of_ble_eq_true rfl | decide | (simp; omega)))) ?_
        refine JM.quiet rfl rfl rfl rfl (fun m => y_move rfl) ?_
        refine JM.quiet rfl rfl rfl rfl (fun m => y_sub rfl rfl (by (first | exact wrap_i64 (by omega) (by omega) | rfl))) ?_
        refine JM.quiet rfl rfl rfl rfl (fun m => y_indexAddr_arr hT rfl rfl rfl rfl rfl (by (first | omega | exact Nat.le_of_ble_eq_true rfl | decide | (simp; omega))) (by (first | omega | exact Nat.le_of_ble_eq_true rfl | decide | (simp; omega)))) ?_
        refine JM.quiet rfl rfl rfl rfl (fun m => y_move rfl) ?_
        refine JM.quiet rfl rfl rfl rfl (fun m => y_callF e110 rfl (shaTurn_spec E _ 7 (by omega) _)) ?_
        refine JM.quiet rfl rfl rfl rfl (fun m => y_move rfl) ?_
        refine JM.quiet rfl rfl rfl rfl (fun m => y_callF e110 rfl (shaTurn_spec E _ 18 (by omega) _)) ?_
        refine JM.quiet rfl rfl rfl rfl (fun m => (by first | exact y_xorW rfl rfl | exact y_bits rfl rfl (by rfl))) ?_
        refine JM.quiet rfl rfl rfl rfl (fun m => y_move rfl) ?_
        refine JM.quiet rfl rfl rfl rfl (fun m => (by first | exact y_shrW rfl rfl (by (first | omega | exact Nat.le_of_ble_eq_true rfl | decide | (simp; omega))) (by (first | omega | exact Nat.le_of_ble_eq_true rfl | decide | (simp; omega))) | exact y_shr rfl rfl (by (first | omega | exact Nat.le_of_ble_eq_true rfl | decide | (simp; omega))) (by rfl))) ?_
        refine JM.quiet rfl rfl rfl rfl (fun m => (by first | exact y_xorW rfl rfl | exact y_bits rfl rfl (by rfl))) ?_
        refine JM.quiet rfl rfl rfl rfl (fun m => y_move rfl) ?_
        refine JM.quiet rfl rfl rfl rfl (fun m => y_callF e110 rfl (shaTurn_spec E _ 17 (by omega) _)) ?_
        refine JM.quiet rfl rfl rfl rfl (fun m => y_move rfl) ?_
        refine JM.quiet rfl rfl rfl rfl (fun m => y_callF e110 rfl (shaTurn_spec E _ 19 (by omega) _)) ?_
        refine JM.quiet rfl rfl rfl rfl (fun m => (by first | exact y_xorW rfl rfl | exact y_bits rfl rfl (by rfl))) ?_
        refine JM.quiet rfl rfl rfl rfl (fun m => y_move rfl) ?_
        refine JM.quiet rfl rfl rfl rfl (fun m => (by first | exact y_shrW rfl rfl (by (first | omega | exact Nat.le_of_ble_eq_true rfl | decide | (simp; omega))) (by (first | omega | exact Nat.le_of_ble_eq_true rfl | decide | (simp; omega))) | exact y_shr rfl rfl (by (first | omega | exact Nat.le_of_ble_eq_true rfl | decide | (simp; omega))) (by rfl))) ?_
        refine JM.quiet rfl rfl rfl rfl (fun m => (by first | exact y_xorW rfl rfl | exact y_bits rfl rfl (by rfl))) ?_
        refine JM.early rfl rfl rfl rfl (fun fr => y_load1 hT rfl rfl rfl (Rd1.wordsAt (j := i - 16) (by (repeat (first | exact Pick.head | apply Pick.tail | apply Pick.app))) (by omega) (by rw [show i145.size = 1 from rfl]; omega))) ?_
        refine JM.early rfl rfl rfl rfl (fun fr => y_load1 hT rfl rfl rfl (Rd1.wordsAt (j := i - 7) (by (repeat (first | exact Pick.head | apply Pick.tail | apply Pick.app))) (by omega) (by rw [show i145.size = 1 from rfl]; omega))) ?_
        refine JM.quiet rfl rfl rfl rfl (fun m => (by first | exact y_addW rfl rfl | exact y_add rfl rfl (by (first | exact wrap_i64 (by omega) (by omega) | rfl)))) ?_
        refine JM.quiet rfl rfl rfl rfl (fun m => (by first | exact y_addW rfl rfl | exact y_add rfl rfl (by (first | exact wrap_i64 (by omega) (by omega) | rfl)))) ?_
        refine JM.quiet rfl rfl rfl rfl (fun m => (by first | exact y_addW rfl rfl | exact y_add rfl rfl (by (first | exact wrap_i64 (by omega) (by omega) | rfl)))) ?_
        refine JM.quiet rfl rfl rfl rfl (fun m => y_indexAddr_arr hT rfl rfl rfl rfl rfl (by (first | omega | exact Nat.le_of_ble_eq_true rfl | decide | (simp; omega))) (by (first | omega | exact Nat.le_of_ble_eq_true rfl | decide | (simp; omega)))) ?_
        refine JM.loud rfl rfl (fun fr => l_store1 hT rfl rfl rfl rfl rfl (by (repeat (first | exact Pick.head | apply Pick.tail | apply Pick.app))) (by rw [List.length_map, hwl, show i145.size = 1 from rfl]; omega) ⟨[_], (by (repeat (first | exact Split.nil | exact Split.all | refine Split.cons Pick.head ?_))), ?_⟩)
        refine JM.nil ?_
        refine JE.block_normal ?_
        refine JE.then_normal ?_
        refine J.region ?_
        refine JL.step (y_move rfl) rfl rfl rfl ?_
        refine JL.step (y_add rfl rfl (by (first | exact wrap_i64 (by omega) (by omega) | rfl))) rfl rfl rfl ?_
        refine JL.step (y_assign rfl) rfl rfl rfl ?_
        refine JL.nil ?_
      all_goals
        refine JE.round (s := i) (i + 1) (by omega) ⟨rfl, rfl, rfl, trivial⟩ (fun w q => ?_) (by omega)
        have e := schedW_next bs (i := i) (by omega)
        rw [schedNext, if_neg (by omega), ← schedW_get bs (i := i) (j := i - 16) (by omega), ← schedW_get bs (i := i) (j := i - 7) (by omega), ← schedW_get bs (i := i) (j := i - 15) (by omega), ← schedW_get bs (i := i) (j := i - 2) (by omega)] at e
        rw [← e, List.map_set]
        rw [show 0 + (i : Int).toNat * i145.size = i by rw [show i145.size = 1 from rfl]; omega] at q
        exact q.sup (by (repeat (first | exact Sup.refl | apply Sup.cons (by (repeat (first | exact Pick.head | apply Pick.tail | apply Pick.app))) | apply Sup.app | apply Sup.skip | apply Sup.skips)))
  all_goals refine JE.then_normal ?_
  all_goals
    refine J.seq ?_
    refine J.block ?_
    refine J.seq ?_
    refine J.region ?_
    refine JL.step (y_move rfl) rfl rfl rfl (JL.step (y_assign rfl) rfl rfl rfl ?_)
    refine JL.nil ?_
    refine JE.then_normal ?_
    refine J.draw _ _ [(0, .q), (1, .q), (2, .q), (3, .q), (4, .q), (5, .q), (6, .q), (7, .q), (8, .q), (9, .q), (10, .q), (11, .q), (12, .q), (13, .q), (14, .q), (15, .q), (16, .q), (17, .q), (18, .q), (19, .q), (20, .q), (21, .q), (22, .q), (23, .q), (24, .q), (25, .q), (26, .q), (27, .q), (28, .q), (29, .q), (30, .q), (31, .q), (32, .q), (33, .q), (34, .q), (35, .l)] mixed (by kernel_rfl) (Split.cons (Pick.head) (Split.nil)) ?_
    refine JM.quiet rfl rfl rfl rfl (fun m => y_move rfl) ?_
    refine JM.quiet rfl rfl rfl rfl (fun m => y_move rfl) ?_
    refine JM.quiet rfl rfl rfl rfl (fun m => y_move rfl) ?_
    refine JM.quiet rfl rfl rfl rfl (fun m => y_mul rfl rfl (by (first | exact wrap_i64 (by omega) (by omega) | rfl))) ?_
    refine JM.quiet rfl rfl rfl rfl (fun m => y_indexAddr_slice hT rfl rfl rfl rfl rfl (by (first | omega | exact Nat.le_of_ble_eq_true rfl | decide | (simp; omega))) (by (first | omega | exact Nat.le_of_ble_eq_true rfl | decide | (simp; omega)))) ?_
    refine JM.quiet rfl rfl rfl rfl (fun m => y_load1 hT rfl rfl rfl (Rd1.bytesAt (j := 4 * i) (by (repeat (first | assumption | apply RdN.cons | apply RdN.app))) (by omega) (by rw [show i5.size = 1 from rfl]; omega))) ?_
    refine JM.quiet rfl rfl rfl rfl (fun m => (by first | exact y_convToW hT rfl rfl rfl rfl | exact y_conv hT rfl rfl rfl rfl (by (first | exact wrap_i64 (by omega) (by omega) | rfl)))) ?_
    refine JM.quiet rfl rfl rfl rfl (fun m => (by first | exact y_shlW rfl rfl (by (first | omega | exact Nat.le_of_ble_eq_true rfl | decide | (simp; omega))) (by (first | omega | exact Nat.le_of_ble_eq_true rfl | decide | (simp; omega))) | exact y_shl rfl rfl (by (first | omega | exact Nat.le_of_ble_eq_true rfl | decide | (simp; omega))) (by rfl))) ?_
    refine JM.quiet rfl rfl rfl rfl (fun m => y_move rfl) ?_
    refine JM.quiet rfl rfl rfl rfl (fun m => y_move rfl) ?_
    refine JM.quiet rfl rfl rfl rfl (fun m => y_mul rfl rfl (by (first | exact wrap_i64 (by omega) (by omega) | rfl))) ?_
    refine JM.quiet rfl rfl rfl rfl (fun m => y_add rfl rfl (by (first | exact wrap_i64 (by omega) (by omega) | rfl))) ?_
    refine JM.quiet rfl rfl rfl rfl (fun m => y_indexAddr_slice hT rfl rfl rfl rfl rfl (by (first | omega | exact Nat.le_of_ble_eq_true rfl | decide | (simp; omega))) (by (first | omega | exact Nat.le_of_ble_eq_true rfl | decide | (simp; omega)))) ?_
    refine JM.quiet rfl rfl rfl rfl (fun m => y_load1 hT rfl rfl rfl (Rd1.bytesAt (j := 4 * i + 1) (by (repeat (first | assumption | apply RdN.cons | apply RdN.app))) (by omega) (by rw [show i5.size = 1 from rfl]; omega))) ?_
    refine JM.quiet rfl rfl rfl rfl (fun m => (by first | exact y_convToW hT rfl rfl rfl rfl | exact y_conv hT rfl rfl rfl rfl (by (first | exact wrap_i64 (by omega) (by omega) | rfl)))) ?_
    refine JM.quiet rfl rfl rfl rfl (fun m => (by first | exact y_shlW rfl rfl (by (first | omega | exact Nat.le_of_ble_eq_true rfl | decide | (simp; omega))) (by (first | omega | exact Nat.le_of_ble_eq_true rfl | decide | (simp; omega))) | exact y_shl rfl rfl (by (first | omega | exact Nat.le_of_ble_eq_true rfl | decide | (simp; omega))) (by rfl))) ?_
    refine JM.quiet rfl rfl rfl rfl (fun m => (by first | exact y_orW rfl rfl | exact y_bits rfl rfl (by rfl))) ?_
    refine JM.quiet rfl rfl rfl rfl (fun m => y_move rfl) ?_
    refine JM.quiet rfl rfl rfl rfl (fun m => y_move rfl) ?_
    refine JM.quiet rfl rfl rfl rfl (fun m => y_mul rfl rfl (by (first | exact wrap_i64 (by omega) (by omega) | rfl))) ?_
    refine JM.quiet rfl rfl rfl rfl (fun m => y_add rfl rfl (by (first | exact wrap_i64 (by omega) (by omega) | rfl))) ?_
    refine JM.quiet rfl rfl rfl rfl (fun m => y_indexAddr_slice hT rfl rfl rfl rfl rfl (by (first | omega | exact Nat.le_of_ble_eq_true rfl | decide | (simp; omega))) (by (first | omega | exact Nat.le_of_ble_eq_true rfl | decide | (simp; omega)))) ?_
    refine JM.quiet rfl rfl rfl rfl (fun m => y_load1 hT rfl rfl rfl (Rd1.bytesAt (j := 4 * i + 2) (by (repeat (first | assumption | apply RdN.cons | apply RdN.app))) (by omega) (by rw [show i5.size = 1 from rfl]; omega))) ?_
    refine JM.quiet rfl rfl rfl rfl (fun m => (by first | exact y_convToW hT rfl rfl rfl rfl | exact y_conv hT rfl rfl rfl rfl (by (first | exact wrap_i64 (by omega) (by omega) | rfl)))) ?_
    refine JM.quiet rfl rfl rfl rfl (fun m => (by first | exact y_shlW rfl rfl (by (first | omega | exact Nat.le_of_ble_eq_true rfl | decide | (simp; omega))) (by (first | omega | exact Nat.le_of_ble_eq_true rfl | decide | (simp; omega))) | exact y_shl rfl rfl (by (first | omega | exact Nat.le_of_ble_eq_true rfl | decide | (simp; omega))) (by rfl))) ?_
    refine JM.quiet rfl rfl rfl rfl (fun m => (by first | exact y_orW rfl rfl | exact y_bits rfl rfl (by rfl))) ?_
    refine JM.quiet rfl rfl rfl rfl (fun m => y_move rfl) ?_
    refine JM.quiet rfl rfl rfl rfl (fun m => y_move rfl) ?_
    refine JM.quiet rfl rfl rfl rfl (fun m => y_mul rfl rfl (by (first | exact wrap_i64 (by omega) (by omega) | rfl))) ?_
    refine JM.quiet rfl rfl rfl rfl (fun m => y_add rfl rfl (by (first | exact wrap_i64 (by omega) (by omega) | rfl))) ?_
    refine JM.quiet rfl rfl rfl rfl (fun m => y_indexAddr_slice hT rfl rfl rfl rfl rfl (by (first | omega | exact Nat.le_of_ble_eq_true rfl | decide | (simp; omega))) (by (first | omega | exact Nat.le_of_ble_eq_true rfl | decide | (simp; omega)))) ?_
    refine JM.quiet rfl rfl rfl rfl (fun m => y_load1 hT rfl rfl rfl (Rd1.bytesAt (j := 4 * i + 3) (by (repeat (first | assumption | apply RdN.cons | apply RdN.app))) (by omega) (by rw [show i5.size = 1 from rfl]; omega))) ?_
    refine JM.quiet rfl rfl rfl rfl (fun m => (by first | exact y_convToW hT rfl rfl rfl rfl | exact y_conv hT rfl rfl rfl rfl (by (first | exact wrap_i64 (by omega) (by omega) | rfl)))) ?_
    refine JM.quiet rfl rfl rfl rfl (fun m => (by first | exact y_orW rfl rfl | exact y_bits rfl rfl (by rfl))) ?_
    refine JM.quiet rfl rfl rfl rfl (fun m => y_indexAddr_arr hT rfl rfl rfl rfl rfl (by (first | omega | exact Nat.le_of_ble_eq_true rfl | decide | (simp; omega))) (by (first | omega | exact Nat.le_of_ble_eq_true rfl | decide | (simp; omega)))) ?_
    refine JM.loud rfl rfl (fun fr => l_store1 hT rfl rfl rfl rfl rfl (by (repeat (first | exact Pick.head | apply Pick.tail | apply Pick.app))) (by rw [List.length_map, hwl, show i145.size = 1 from rfl]; omega) ⟨[_], (by (repeat (first | exact Split.nil | exact Split.all | refine Split.cons Pick.head ?_))), ?_⟩)
    refine JM.nil ?_
    refine JE.block_normal ?_
    refine JE.then_normal ?_
    refine J.region ?_
    refine JL.step (y_add rfl rfl (by (first | exact wrap_i64 (by omega) (by omega) | rfl))) rfl rfl rfl ?_
    refine JL.step (y_move rfl) rfl rfl rfl ?_
    refine JL.nil ?_
  all_goals
    refine JE.round (s := i) (i + 1) (by omega) ⟨rfl, rfl, rfl, rfl, trivial⟩ (fun w q => ?_) (by omega)
    have e := schedW_next bs (i := i) (by omega)
    rw [schedNext, if_pos (by omega)] at e
    rw [← e, List.map_set]
    rw [show 0 + (i : Int).toNat * i145.size = i by rw [show i145.size = 1 from rfl]; omega] at q
    exact q.sup (by (repeat (first | exact Sup.refl | apply Sup.cons (by (repeat (first | exact Pick.head | apply Pick.tail | apply Pick.app))) | apply Sup.app | apply Sup.skip | apply Sup.skips)))
end Go.Proofs.Ytilifeeddpkclaa
