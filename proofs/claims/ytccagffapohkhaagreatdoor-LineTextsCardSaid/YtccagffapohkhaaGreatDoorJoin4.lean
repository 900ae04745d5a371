import Derived.Test.YtccagffapohkhaaGreatDoorJoin1
import Derived.Test.YtccagffapohkhaaGreatDoorJoin3
namespace Go.Proofs.YtccagffapohkhaaGreatDoor
section
open Go Go.SL
section
/-- n parts cut off in front; the rest. -/
def cutN : Nat → List Int → List (List Int) × List Int
  | 0, xs => ([], xs)
  | n + 1, xs => (headW xs :: (cutN n (xs.drop ((headW xs).length + 1))).1, (cutN n (xs.drop ((headW xs).length + 1))).2)
theorem cutN_snoc : ∀ (n : Nat) (xs : List Int), cutN (n + 1) xs = ((cutN n xs).1 ++ [headW (cutN n xs).2], (cutN n xs).2.drop ((headW (cutN n xs).2).length + 1)) := by
  intro n
  induction n with
  | zero => intro xs; rfl
  | succ n ih =>
    intro xs
    show (headW xs :: (cutN (n + 1) (xs.drop ((headW xs).length + 1))).1, (cutN (n + 1) (xs.drop ((headW xs).length + 1))).2) = _
    rw [ih]
    rfl
theorem cutN_length : ∀ (n : Nat) (xs : List Int), (cutN n xs).1.length = n := by
  intro n
  induction n with
  | zero => intro xs; rfl
  | succ n ih => intro xs; show (headW xs :: _).length = _; rw [List.length_cons, ih]
theorem cutN_le : ∀ (n : Nat) (xs : List Int), (cutN n xs).2.length ≤ xs.length := by
  intro n
  induction n with
  | zero => intro xs; exact Nat.le_refl _
  | succ n ih =>
    intro xs
    have h := ih (xs.drop ((headW xs).length + 1))
    rw [List.length_drop] at h
    show (cutN n (xs.drop ((headW xs).length + 1))).2.length ≤ _
    omega
theorem cutN_bys : ∀ (n : Nat) (xs : List Int), Bys xs → Bys (cutN n xs).2 ∧ ∀ w ∈ (cutN n xs).1, Bys w := by
  intro n
  induction n with
  | zero => intro xs h; exact ⟨h, fun w hw => by cases hw⟩
  | succ n ih =>
    intro xs h
    obtain ⟨h1, h2⟩ := ih (xs.drop ((headW xs).length + 1)) (h.drop _)
    refine ⟨h1, fun w hw => ?_⟩
    rcases List.mem_cons.1 hw with rfl | q
    · exact headW_bys h
    · exact h2 w q
theorem count_drop {xs : List Int} (h : 32 ∈ xs) : xs.count 32 = (xs.drop ((headW xs).length + 1)).count 32 + 1 := by
  have h1 : xs.take (headW xs).length ++ xs.drop (headW xs).length = xs := List.take_append_drop _ _
  have h2 := congrArg (List.count 32) h1
  rw [List.count_append, headW_take, List.count_eq_zero_of_not_mem (headW_none xs)] at h2
  have h3 := headW_at h
  have hlt := headW_lt.2 h
  have h4 : xs.drop (headW xs).length = 32 :: xs.drop ((headW xs).length + 1) := by
    rw [List.drop_eq_getElem_cons hlt]
    rw [List.getElem?_eq_getElem hlt] at h3
    rw [Option.some.inj h3]
  rw [h4, List.count_cons_self] at h2
  omega
theorem cutN_count : ∀ (n : Nat) (xs : List Int), n ≤ xs.count 32 → (cutN n xs).2.count 32 + n = xs.count 32 := by
  intro n
  induction n with
  | zero => intro xs _; rfl
  | succ n ih =>
    intro xs h
    have hm : 32 ∈ xs := List.count_pos_iff.1 (by omega)
    have hc := count_drop hm
    have := ih (xs.drop ((headW xs).length + 1)) (by omega)
    show (cutN n (xs.drop ((headW xs).length + 1))).2.count 32 + (n + 1) = _
    omega
/-- The parts between blanks. -/
def splitW (xs : List Int) : List (List Int) := (cutN (xs.count 32) xs).1 ++ [(cutN (xs.count 32) xs).2]
theorem splitW_length (xs : List Int) : (splitW xs).length = xs.count 32 + 1 := by unfold splitW; rw [List.length_append, cutN_length]; rfl
theorem splitW_bys {xs : List Int} (h : Bys xs) : ∀ w ∈ splitW xs, Bys w := by
  intro w hw
  obtain ⟨h1, h2⟩ := cutN_bys (xs.count 32) xs h
  unfold splitW at hw
  rcases List.mem_append.1 hw with q | q
  · exact h2 w q
  · rw [List.mem_singleton] at q; rw [q]; exact h1
theorem splitW_none {xs : List Int} (h : 32 ∉ xs) : splitW xs = [xs] := by unfold splitW; rw [List.count_eq_zero_of_not_mem h]; rfl
theorem splitW_some {xs : List Int} (h : 32 ∈ xs) : splitW xs = headW xs :: splitW (xs.drop ((headW xs).length + 1)) := by
  unfold splitW
  rw [count_drop h]
  rfl
theorem strs_app (a b : List (List Int)) : strs (a ++ b) = strs a ++ strs b := by unfold strs; rw [List.map_append]
theorem strs_set (a : List (List Int)) (k : Nat) (z : Value) (w : List Int) : (strs a ++ List.replicate (k + 1) z).set a.length (.string (strOf w)) = strs (a ++ [w]) ++ List.replicate k z := by
  rw [List.set_append_right _ _ (by rw [strs_length]; exact Nat.le_refl _), strs_length, Nat.sub_self, List.replicate_succ, List.set_cons_zero, strs_app, List.append_assoc]
  rfl
theorem count_bytes32 {xs : List Int} (h : Bys xs) : Lib.countByte (strOf xs).data.toList (32 : UInt8) = xs.count 32 := by
  rw [strOf_data]
  unfold Lib.countByte
  induction xs with
  | nil => rfl
  | cons x xs ih =>
    have hx := h x (List.mem_cons_self ..)
    rw [List.map_cons, List.count_cons, List.count_cons, ih fun y hy => h y (List.mem_cons_of_mem _ hy)]
    congr 1
    have e : (UInt8.ofNat x.toNat == (32 : UInt8)) = (x == 32) := by
      rw [Bool.eq_iff_iff, beq_iff_eq, beq_iff_eq]
      constructor
      · intro q
        have q2 := congrArg UInt8.toNat q
        rw [UInt8.toNat_ofNat_of_lt' (by show x.toNat < 256; omega)] at q2
        have : x.toNat = 32 := q2
        omega
      · rintro rfl; rfl
    rw [e]
end
section
attribute [local irreducible] J JL JE JM LS Y Fc RV Code.wp wpList Code.wpIn wpListIn
attribute [local irreducible] Yc strOf
variable (E : World)
theorem count32_spec (xs : List Int) (l : List HProp) (hB : Bys xs) : Fc prog E 97 [.string (strOf xs), .string ⟨#[32]⟩].toArray l (fun v l' => v = .int .i64 (xs.count 32) ∧ l' = l) := by
  refine Fc.eqs ?_
  refine Fc.of_body (c := ?codeC) Tryz.func97 ?hb Tryz.ntmps97 ?hl ?_
  case hb => exact rfl
  case hl => exact rfl
  refine J.seq ?_
  refine J.region ?_
  refine JL.step (y_assign rfl) rfl rfl rfl ?_
  refine JL.nil ?_
  refine JE.then_normal ?_
  refine J.seq ?_
  refine J.seq ?_
  refine J.region ?_
  refine JL.step (y_move rfl) rfl rfl rfl ?_
  refine JL.step (v := .int .i64 1) (Y.cast (y_len_string (s := ⟨#[32]⟩) hT rfl rfl rfl) rfl) rfl rfl rfl ?_
  refine JL.step (y_eql rfl rfl) rfl rfl rfl ?_
  refine JL.nil ?_
  refine JE.then_normal ?_
  refine J.cond_f rfl (by (first | rfl | assumption | (simp; done) | (simp; omega))) ?_
  refine J.skip ?_
  refine JE.then_normal ?_
  refine J.seq ?_
  refine J.seq ?_
  refine J.region ?_
  refine JL.step (y_move rfl) rfl rfl rfl ?_
  refine JL.step (v := .int .i64 1) (Y.cast (y_len_string (s := ⟨#[32]⟩) hT rfl rfl rfl) rfl) rfl rfl rfl ?_
  refine JL.step (y_eql rfl rfl) rfl rfl rfl ?_
  refine JL.nil ?_
  refine JE.then_normal ?_
  refine J.cond_t rfl (by (first | rfl | assumption | (simp; done) | (simp; omega))) ?_
  refine J.seq ?_
  refine J.region ?_
  refine JL.step (y_move rfl) rfl rfl rfl (JL.step (y_move rfl) rfl rfl rfl ?_)
  refine JL.step (y_index_str (i := 0) (b := 32) hT rfl rfl rfl rfl rfl rfl) rfl rfl rfl ?_
  refine JL.loud rfl (l_callE (us := [.string (strOf xs), .int .u8 32]) rfl rfl (fun w hs => ⟨.int .i64 (Lib.countByte (strOf xs).data.toList (32 : UInt8)), w, l, ?_, hs, ?_⟩))
  · rw [run_callFunc_extern (fn := Tryz.f112) Tryz.func112 (by kernel_rfl) (by kernel_rfl) (by kernel_rfl) (he := show _ = some Extern.BytealgCount.count by kernel_rfl)]
    show ((Extern.BytealgCount.count #[.string (strOf xs), .int .u8 32]).run prog w).andThen _ = _
    rw [Lib.run_countString]
    rfl
  refine JL.step (y_assign rfl) rfl rfl rfl ?_
  refine JL.nil ?_
  refine JE.then_normal ?_
  refine J.ret ?_
  refine JE.then_ret ?_
  refine JE.ret1 (.inl rfl) rfl rfl (by (first | exact RV.tmp rfl | exact RV.cell1 hT rfl rfl rfl (by (exact Rd1.row (by (repeat (first | exact Pick.head | apply Pick.tail | apply Pick.app))) (by rfl))) | exact RV.cellN hT rfl rfl rfl (by (first | exact RdN.rowAll (by (repeat (first | exact Pick.head | apply Pick.tail | apply Pick.app))) | exact RdN.own (by (repeat (first | exact Pick.head | apply Pick.tail | apply Pick.app))))) (by (first | rfl | assumption | (simp; done) | omega)))) ?_
  rw [count_bytes32 hB]
  exact ⟨rfl, fun w h => h⟩
theorem sindex_spec (xs : List Int) (l : List HProp) (hB : Bys xs) : Fc prog E 98 [.string (strOf xs), .string ⟨#[32]⟩].toArray l (fun v l' => v = .int .i64 (spI xs) ∧ l' = l) := by
  refine Fc.eqs ?_
  refine Fc.of_body (c := ?codeC) Tryz.func98 ?hb Tryz.ntmps98 ?hl ?_
  case hb => exact rfl
  case hl => exact rfl
  refine J.seq ?_
  refine J.region ?_
  refine JL.step (y_assign rfl) rfl rfl rfl ?_
  refine JL.nil ?_
  refine JE.then_normal ?_
  refine J.seq ?_
  refine J.region ?_
  refine JL.step (y_move rfl) rfl rfl rfl (JL.step (y_move rfl) rfl rfl rfl ?_)
  refine JL.loud rfl (l_callF e83 rfl rfl (idxS_spec E xs _ hB) ?_)
  rintro _ _ ⟨rfl, rfl⟩
  refine JL.step (y_assign rfl) rfl rfl rfl ?_
  refine JL.nil ?_
  refine JE.then_normal ?_
  refine J.ret ?_
  refine JE.ret1 (.inl rfl) rfl rfl (by (first | exact RV.tmp rfl | exact RV.cell1 hT rfl rfl rfl (by (exact Rd1.row (by (repeat (first | exact Pick.head | apply Pick.tail | apply Pick.app))) (by rfl))) | exact RV.cellN hT rfl rfl rfl (by (first | exact RdN.rowAll (by (repeat (first | exact Pick.head | apply Pick.tail | apply Pick.app))) | exact RdN.own (by (repeat (first | exact Pick.head | apply Pick.tail | apply Pick.app))))) (by (first | rfl | assumption | (simp; done) | omega)))) ?_
  exact ⟨rfl, fun w h => h⟩
theorem gsplit_spec (xs : List Int) (l : List HProp) (hB : Bys xs) (hl : xs.length ≤ 1000000) :
    Fc prog E 81 [.string (strOf xs), .string ⟨#[32]⟩, .int .i64 0, .int .i64 (-1)].toArray l (fun v l' => ∃ b, v = .slice (some ⟨b, 0, none⟩) (splitW xs).length (splitW xs).length ∧ l' = row b 9 (strs (splitW xs)) :: l) := by
  refine Fc.post ?_
  obtain ⟨n, hn⟩ : ∃ n, xs.count 32 = n := ⟨_, rfl⟩
  have hnl : n ≤ xs.length := by rw [← hn]; exact List.count_le_length
  have hspl : (splitW xs).length = n + 1 := by rw [splitW_length, hn]
  refine Fc.of_body (c := ?codeC) Tryz.func81 ?hb Tryz.ntmps81 ?hl ?_
  case hb => exact rfl
  case hl => exact rfl
  refine J.seq ?_
  refine J.region ?_
  refine JL.step (y_assign rfl) rfl rfl rfl ?_
  refine JL.nil ?_
  refine JE.then_normal ?_
  refine J.seq ?_
  refine J.seq ?_
  refine J.region ?_
  refine JL.step (y_move rfl) rfl rfl rfl (JL.step (y_eql rfl rfl) rfl rfl rfl ?_)
  refine JL.nil ?_
  refine JE.then_normal ?_
  refine J.cond_f rfl (by (first | rfl | assumption | (simp; done) | (simp; omega))) ?_
  refine J.skip ?_
  refine JE.then_normal ?_
  refine J.seq ?_
  refine J.seq ?_
  refine J.region ?_
  refine JL.step (y_move rfl) rfl rfl rfl ?_
  refine JL.step (v := .bool false) (Y.cast (y_str_eqB (b := false) rfl rfl (by decide)) rfl) rfl rfl rfl ?_
  refine JL.nil ?_
  refine JE.then_normal ?_
  refine J.cond_f rfl (by (first | rfl | assumption | (simp; done) | (simp; omega))) ?_
  refine J.skip ?_
  refine JE.then_normal ?_
  refine J.seq ?_
  refine J.seq ?_
  refine J.region ?_
  refine JL.step (y_move rfl) rfl rfl rfl (JL.step (y_lss rfl rfl) rfl rfl rfl ?_)
  refine JL.nil ?_
  refine JE.then_normal ?_
  refine J.cond_t rfl (by (first | rfl | assumption | (simp; done) | (simp; omega))) ?_
  refine J.region ?_
  refine JL.step (y_move rfl) rfl rfl rfl (JL.step (y_move rfl) rfl rfl rfl ?_)
  refine JL.loud rfl (l_callF e97 rfl rfl (count32_spec E xs _ hB) ?_)
  rintro _ l6 ⟨rfl, e6⟩
  obtain rfl := e6.symm
  rw [hn]
  refine JL.step (y_add (m := ((n + 1 : Nat) : Int)) rfl rfl (wrap_i64 (by omega) (by omega))) rfl rfl rfl ?_
  refine JL.step (y_assign rfl) rfl rfl rfl ?_
  refine JL.nil ?_
  refine JE.then_normal ?_
  refine J.seq ?_
  refine J.region ?_
  refine JL.step (y_move rfl) rfl rfl rfl (JL.step (y_move rfl) rfl rfl rfl ?_)
  refine JL.step (y_lenS hT rfl rfl rfl) rfl rfl rfl ?_
  refine JL.step (y_add (m := ((xs.length + 1 : Nat) : Int)) rfl rfl (wrap_i64 (by omega) (by omega))) rfl rfl rfl ?_
  refine JL.step (v := .int .i64 ((n + 1 : Nat) : Int)) (y_min2 rfl rfl (by omega)) rfl rfl rfl ?_
  refine JL.step (y_assign rfl) rfl rfl rfl ?_
  refine JL.nil ?_
  refine JE.then_normal ?_
  refine J.seq ?_
  refine J.region ?_
  refine JL.step (y_move rfl) rfl rfl rfl ?_
  refine JL.loud rfl (l_makeSlice hT rfl rfl rfl rfl rfl rfl (by omega) (by omega) (mk_fits rfl (by omega) (by omega)) (by omega) rfl (fun b => ?_))
  refine JL.pre (l' := row b 9 (strs (cutN 0 xs).1 ++ List.replicate (n + 1) (.string ByteArray.empty)) :: l) (fun w h => by
    have e1 : (madeCells (Value.string ByteArray.empty).cells (((n + 1 : Nat) : Int).toNat * i9.size)).toList = List.replicate (n + 1) (.string ByteArray.empty) := by
      rw [show (Value.string ByteArray.empty).cells = (List.replicate 1 (Value.string ByteArray.empty)).toArray from rfl, madeCells_rep _ (by omega), show i9.size = 1 from rfl, Int.toNat_natCast, Nat.mul_one]
    rw [e1] at h
    exact h) ?_
  refine JL.step (y_assign rfl) rfl rfl rfl ?_
  refine JL.nil ?_
  refine JE.then_normal ?_
  refine J.seq ?_
  refine J.region ?_
  refine JL.step (y_move rfl) rfl rfl rfl ?_
  refine JL.step (y_sub (m := ((n : Nat) : Int)) rfl rfl (by rw [IntKind.wrap_i64]; omega)) rfl rfl rfl ?_
  refine JL.step (y_assign rfl) rfl rfl rfl ?_
  refine JL.nil ?_
  refine JE.then_normal ?_
  refine J.seq ?_
  refine J.region ?_
  refine JL.step (y_assign rfl) rfl rfl rfl ?_
  refine JL.nil ?_
  refine JE.then_normal ?_
  refine J.seq ?_
  refine J.block ?_
  refine J.loop (α := Nat) (fun i => i ≤ n) (fun i => [(0, .string (strOf (cutN i xs).2)), (1, .string ⟨#[32]⟩), (2, .int .i64 0), (3, .int .i64 n), (9, .slice (some ⟨b, 0, none⟩) (n + 1) (n + 1)), (10, .int .i64 i)]) (fun i => row b 9 (strs (cutN i xs).1 ++ List.replicate (n + 1 - i) (.string ByteArray.empty)) :: l) (fun i => n - i) 0 (Nat.zero_le _) ⟨rfl, rfl, rfl, rfl, rfl, rfl, trivial⟩ (fun w h => h) ?_
  intro i hi
  try dsimp only
  have hcl := cutN_length i xs
  have hcc := cutN_count i xs (by omega)
  have hcn := cutN_snoc i xs
  have hcle := cutN_le i xs
  have hcb := (cutN_bys i xs hB).1
  obtain ⟨⟨ws, ys⟩, hws⟩ : ∃ p, cutN i xs = p := ⟨_, rfl⟩
  rw [hws] at hcl hcc hcn hcle hcb ⊢
  dsimp only at hcl hcc hcn hcle hcb ⊢
  refine J.seq ?_
  refine J.seq ?_
  refine J.region ?_
  refine JL.step (y_move rfl) rfl rfl rfl (JL.step (y_move rfl) rfl rfl rfl (JL.step (y_lss rfl rfl) rfl rfl rfl ?_))
  refine JL.nil ?_
  refine JE.then_normal ?_
  first | apply J.cond_dec rfl | apply J.cond rfl
  case' ht =>
    intro h
    try (first | (exfalso; omega) | (cases h; done) | (exfalso; simp at h; done) | subst h)
    all_goals
      refine J.skip ?_
  case' hf =>
    intro h
    try (first | (exfalso; omega) | (cases h; done) | (exfalso; simp at h; done) | subst h)
    all_goals
      refine J.exit ?_
      refine JE.then_exit ?_
      refine JE.then_exit ?_
      refine JE.block_exit ?_
      refine JE.then_normal ?_
      refine J.seq ?_
      obtain rfl : i = n := by omega
      refine J.region ?_
      refine JL.step (y_move rfl) rfl rfl rfl (JL.step (y_move rfl) rfl rfl rfl (JL.step (y_move rfl) rfl rfl rfl ?_))
      refine JL.step (y_indexAddr_slice hT rfl rfl rfl rfl rfl (by (first | omega | exact Nat.le_of_ble_eq_true rfl | decide | (simp; omega))) (by (first | omega | exact Nat.le_of_ble_eq_true rfl | decide | (simp; omega)))) rfl rfl rfl ?_
      refine JL.loud rfl (l_store1 hT rfl rfl rfl rfl rfl (by (repeat (first | exact Pick.head | apply Pick.tail | apply Pick.app))) (by rw [List.length_append, strs_length, List.length_replicate, hcl, show i9.size = 1 from rfl, Int.toNat_natCast]; omega) ?_)
      refine JL.nil ?_
      refine JE.then_normal ?_
      refine J.seq ?_
      refine J.region ?_
      refine JL.step (y_move rfl) rfl rfl rfl (JL.step (y_move rfl) rfl rfl rfl ?_)
      refine JL.step (y_add (m := ((i + 1 : Nat) : Int)) rfl rfl (by rw [IntKind.wrap_i64]; omega)) rfl rfl rfl ?_
      refine JL.step (y_slice (lo := 0) (hi := i + 1) hT rfl rfl rfl rfl (.inl ⟨rfl, rfl⟩) (.inr ⟨_, _, _, rfl, rfl, rfl⟩) (Nat.zero_le _) (Nat.le_refl _) (Nat.le_refl _) (.inl rfl)) rfl rfl rfl ?_
      refine JL.step (y_assign rfl) rfl rfl rfl ?_
      refine JL.nil ?_
      refine JE.then_normal ?_
      refine J.ret ?_
      refine JE.ret1 (.inl rfl) rfl rfl (by (first | exact RV.tmp rfl | exact RV.cell1 hT rfl rfl rfl (by (exact Rd1.row (by (repeat (first | exact Pick.head | apply Pick.tail | apply Pick.app))) (by rfl))) | exact RV.cellN hT rfl rfl rfl (by (first | exact RdN.rowAll (by (repeat (first | exact Pick.head | apply Pick.tail | apply Pick.app))) | exact RdN.own (by (repeat (first | exact Pick.head | apply Pick.tail | apply Pick.app))))) (by (first | rfl | assumption | (simp; done) | omega)))) ?_
      refine ⟨row b 9 (strs (splitW xs)) :: l, fun w h => ?_, b, ?_, rfl⟩
      · have e : (strs ws ++ List.replicate (i + 1 - i) (Value.string ByteArray.empty)).set (0 + ((i : Nat) : Int).toNat * i9.size) (.string (strOf ys)) = strs (splitW xs) := by
          rw [show 0 + ((i : Nat) : Int).toNat * i9.size = ws.length by rw [show i9.size = 1 from rfl, Int.toNat_natCast]; omega, show i + 1 - i = 0 + 1 by omega, strs_set]
          unfold splitW
          rw [hn, hws, List.replicate_zero, List.append_nil]
        rw [e] at h
        exact h
      · rw [hspl]
        first | rfl | (rw [if_neg (by omega)]; simp) | simp
  all_goals refine JE.then_normal ?_
  all_goals
    refine J.block ?_
    refine J.seq ?_
    have hmem : 32 ∈ ys := List.count_pos_iff.1 (by omega)
    have hlt := headW_lt.2 hmem
    have hsp : spI ys = (headW ys).length := by unfold spI; rw [if_pos hmem]
    refine J.region ?_
    refine JL.step (y_move rfl) rfl rfl rfl (JL.step (y_move rfl) rfl rfl rfl ?_)
    refine JL.loud rfl (l_callF e98 rfl rfl (sindex_spec E ys _ hcb) ?_)
    rintro _ _ ⟨rfl, rfl⟩
    rw [hsp]
    refine JL.step (y_assign rfl) rfl rfl rfl ?_
    refine JL.nil ?_
    refine JE.then_normal ?_
    refine J.seq ?_
    refine J.seq ?_
    refine J.region ?_
    refine JL.step (y_move rfl) rfl rfl rfl (JL.step (y_lss rfl rfl) rfl rfl rfl ?_)
    refine JL.nil ?_
    refine JE.then_normal ?_
    refine J.cond_f rfl (by (first | rfl | assumption | (simp; done) | (simp; omega))) ?_
    refine J.skip ?_
    refine JE.then_normal ?_
    refine J.seq ?_
    refine J.region ?_
    refine JL.step (y_move rfl) rfl rfl rfl (JL.step (y_move rfl) rfl rfl rfl (JL.step (y_move rfl) rfl rfl rfl (JL.step (y_move rfl) rfl rfl rfl (JL.step (y_move rfl) rfl rfl rfl ?_))))
    refine JL.step (y_add (m := (((headW ys).length : Nat) : Int)) rfl rfl (by rw [IntKind.wrap_i64]; omega)) rfl rfl rfl ?_
    refine JL.step (y_cutS (lo := 0) (hi := (headW ys).length) hT hcb rfl rfl rfl (.inl ⟨rfl, rfl⟩) (.inr ⟨_, _, _, rfl, rfl, rfl⟩) (Nat.zero_le _) (by omega)) rfl rfl rfl ?_
    refine JL.step (y_indexAddr_slice hT rfl rfl rfl rfl rfl (by (first | omega | exact Nat.le_of_ble_eq_true rfl | decide | (simp; omega))) (by (first | omega | exact Nat.le_of_ble_eq_true rfl | decide | (simp; omega)))) rfl rfl rfl ?_
    refine JL.loud rfl (l_store1 hT rfl rfl rfl rfl rfl (by (repeat (first | exact Pick.head | apply Pick.tail | apply Pick.app))) (by rw [List.length_append, strs_length, List.length_replicate, hcl, show i9.size = 1 from rfl, Int.toNat_natCast]; omega) ?_)
    refine JL.nil ?_
    refine JE.then_normal ?_
    refine J.seq ?_
    refine J.region ?_
    refine JL.step (y_move rfl) rfl rfl rfl (JL.step (y_move rfl) rfl rfl rfl (JL.step (y_move rfl) rfl rfl rfl ?_))
    refine JL.step (v := .int .i64 1) (Y.cast (y_len_string (s := ⟨#[32]⟩) hT rfl rfl rfl) rfl) rfl rfl rfl ?_
    refine JL.step (y_add (m := (((headW ys).length + 1 : Nat) : Int)) rfl rfl (by rw [IntKind.wrap_i64]; omega)) rfl rfl rfl ?_
    refine JL.step (y_cutS (lo := (headW ys).length + 1) (hi := ys.length) hT hcb rfl rfl rfl (.inr ⟨_, _, _, rfl, rfl, rfl⟩) (.inl ⟨rfl, rfl⟩) (by omega) (Nat.le_refl _)) rfl rfl rfl ?_
    refine JL.step (y_assign rfl) rfl rfl rfl ?_
    refine JL.nil ?_
    refine JE.then_normal ?_
    refine J.region ?_
    refine JL.step (y_move rfl) rfl rfl rfl ?_
    refine JL.step (y_add rfl rfl (by (first | exact wrap_i64 (by omega) (by omega) | rfl))) rfl rfl rfl ?_
    refine JL.step (y_assign rfl) rfl rfl rfl ?_
    refine JL.nil ?_
    refine JE.block_normal ?_
  all_goals
    exact JE.round (s := i) (i + 1) (by omega) ⟨by rw [hcn, List.take_length]; rfl, rfl, rfl, rfl, rfl, rfl, trivial⟩ (fun w h => by
      rw [hcn]
      dsimp only
      have e : (strs ws ++ List.replicate (n + 1 - i) (Value.string ByteArray.empty)).set (0 + ((i : Nat) : Int).toNat * i9.size) (.string (strOf ((ys.take (headW ys).length).drop 0))) = strs (ws ++ [headW ys]) ++ List.replicate (n + 1 - (i + 1)) (Value.string ByteArray.empty) := by
        rw [show 0 + ((i : Nat) : Int).toNat * i9.size = ws.length by rw [show i9.size = 1 from rfl, Int.toNat_natCast]; omega, show n + 1 - i = (n - i) + 1 by omega, strs_set, List.drop_zero, headW_take, show n + 1 - (i + 1) = n - i by omega]
      rw [e] at h
      exact h) (by omega)
theorem split_spec (xs : List Int) (l : List HProp) (hB : Bys xs) (hl : xs.length ≤ 1000000) :
    Fc prog E 58 [.string (strOf xs), .string ⟨#[32]⟩].toArray l (fun v l' => ∃ b, v = .slice (some ⟨b, 0, none⟩) (splitW xs).length (splitW xs).length ∧ l' = row b 9 (strs (splitW xs)) :: l) := by
  refine Fc.post ?_
  refine Fc.of_body (c := ?codeC) Tryz.func58 ?hb Tryz.ntmps58 ?hl ?_
  case hb => exact rfl
  case hl => exact rfl
  refine J.seq ?_
  refine J.region ?_
  refine JL.step (y_assign rfl) rfl rfl rfl ?_
  refine JL.nil ?_
  refine JE.then_normal ?_
  refine J.seq ?_
  refine J.region ?_
  refine JL.step (y_move rfl) rfl rfl rfl (JL.step (y_move rfl) rfl rfl rfl ?_)
  refine JL.loud rfl (l_callF e81 rfl rfl (gsplit_spec E xs _ hB hl) ?_)
  rintro _ _ ⟨b, rfl, rfl⟩
  refine JL.step (y_assign rfl) rfl rfl rfl ?_
  refine JL.nil ?_
  refine JE.then_normal ?_
  refine J.ret ?_
  refine JE.ret1 (.inl rfl) rfl rfl (by (first | exact RV.tmp rfl | exact RV.cell1 hT rfl rfl rfl (by (exact Rd1.row (by (repeat (first | exact Pick.head | apply Pick.tail | apply Pick.app))) (by rfl))) | exact RV.cellN hT rfl rfl rfl (by (first | exact RdN.rowAll (by (repeat (first | exact Pick.head | apply Pick.tail | apply Pick.app))) | exact RdN.own (by (repeat (first | exact Pick.head | apply Pick.tail | apply Pick.app))))) (by (first | rfl | assumption | (simp; done) | omega)))) ?_
  exact ⟨_, fun w h => h, b, rfl, rfl⟩
end
end
section
open Go Go.SL
section
/-- A text, quoted. -/
def qC (x : Int) : List Int := if x = 34 ∨ x = 92 then [92, x] else [x]
def quoT (xs : List Int) : List Int := 34 :: (xs.flatMap qC ++ [34])
theorem qC_bys {x : Int} (h0 : 0 ≤ x) (h1 : x ≤ 255) : Bys (qC x) := by
  unfold qC
  split
  · exact Bys.cons (by omega) (by omega) (Bys.cons h0 h1 Bys.nil)
  · exact Bys.cons h0 h1 Bys.nil
theorem qCs_bys {xs : List Int} (h : Bys xs) : Bys (xs.flatMap qC) := by
  intro y hy
  obtain ⟨x, hx, h2⟩ := List.mem_flatMap.1 hy
  exact qC_bys (h x hx).1 (h x hx).2 y h2
theorem quoT_bys {xs : List Int} (h : Bys xs) : Bys (quoT xs) := Bys.cons (by omega) (by omega) ((qCs_bys h).app (Bys.cons (by omega) (by omega) Bys.nil))
theorem qC_length (x : Int) : (qC x).length ≤ 2 := by unfold qC; split <;> simp
theorem qCs_length (xs : List Int) : (xs.flatMap qC).length ≤ 2 * xs.length := by
  induction xs with
  | nil => exact Nat.le_refl _
  | cons x xs ih =>
    rw [List.flatMap_cons, List.length_append, List.length_cons]
    have := qC_length x
    omega
theorem qCs_step {xs : List Int} {i : Nat} {x : Int} (h : xs[i]? = some x) : (xs.take (i + 1)).flatMap qC = (xs.take i).flatMap qC ++ qC x := by
  rw [List.take_add_one, h, Option.toList_some, List.flatMap_append]
  simp
/-- A builder's cells. -/
def bldL (b : Nat) (p : Value) (a : Option Addr) (c : Nat) (xs : List Int) (l : List HProp) : List HProp := row b 95 [p, .slice a xs.length c] :: own 5 1 (.slice a xs.length c) xs.length (xs.map (Value.int .u8)) :: l
end
section
attribute [local irreducible] J JL JE JM LS Y Fc RV Code.wp wpList Code.wpIn wpListIn
attribute [local irreducible] Yc strOf
variable (E : World)
theorem bcheck_spec (b : Nat) (p v : Value) (l : List HProp) (hp : p = .pointer none ∨ p = .pointer (some ⟨b, 0, none⟩)) :
    Fc prog E 78 [.pointer (some ⟨b, 0, none⟩)].toArray (row b 95 [p, v] :: l) (fun u l' => u = .tuple #[] ∧ l' = row b 95 [.pointer (some ⟨b, 0, none⟩), v] :: l) := by
  refine Fc.eqs ?_
  rcases hp with rfl | rfl
  · refine Fc.of_body (c := ?codeC) Tryz.func78 ?hb Tryz.ntmps78 ?hl ?_
    case hb => exact rfl
    case hl => exact rfl
    refine J.seq ?_
    refine J.region ?_
    refine JL.step (y_move rfl) rfl rfl rfl ?_
    refine JL.step ((by first | exact y_nilCheck rfl | exact y_nilCheckF rfl | exact y_nilCheckY rfl)) rfl rfl rfl ?_
    refine JL.step (y_fieldAddr hT rfl rfl rfl rfl rfl rfl) rfl rfl rfl ?_
    refine JL.step (y_load1 hT rfl rfl rfl (by (exact Rd1.row (by (repeat (first | exact Pick.head | apply Pick.tail | apply Pick.app))) (by rfl)))) rfl rfl rfl ?_
    refine JL.step (y_ptr_eq_nil hT rfl rfl rfl rfl) rfl rfl rfl ?_
    refine JL.nil ?_
    refine JE.then_normal ?_
    refine J.cond_t rfl (by (first | rfl | assumption | (simp; done) | (simp; omega))) ?_
    refine J.region ?_
    refine JL.step (y_move rfl) rfl rfl rfl (JL.step (y_move rfl) rfl rfl rfl ?_)
    refine JL.step (y_toUns hT Tryz.underlying93 Tryz.underlying124 rfl rfl Pick.head (by simp) rfl) rfl rfl rfl ?_
    refine JL.loud rfl (l_callE (us := [.pointer (some ⟨b, 0, none⟩)]) rfl rfl (fun w hs => ⟨.pointer (some ⟨b, 0, none⟩), w, row b 95 [.pointer none, v] :: l, ?_, hs, ?_⟩))
    · rw [run_callFunc_extern (fn := Tryz.f92) Tryz.func92 (by kernel_rfl) (by kernel_rfl) (by kernel_rfl) (he := show _ = some Extern.AbiNoEscape.same by kernel_rfl)]
      rfl
    refine JL.step (y_fromUns hT Tryz.underlying124 Tryz.underlying93 rfl Pick.head rfl (by kernel_rfl) rfl) rfl rfl rfl ?_
    refine JL.step ((by first | exact y_nilCheck rfl | exact y_nilCheckF rfl | exact y_nilCheckY rfl)) rfl rfl rfl ?_
    refine JL.step (y_fieldAddr hT rfl rfl rfl rfl rfl rfl) rfl rfl rfl ?_
    refine JL.loud rfl (l_store1 hT rfl rfl rfl rfl rfl (by (repeat (first | exact Pick.head | apply Pick.tail | apply Pick.app))) (by (first | omega | exact Nat.le_of_ble_eq_true rfl | decide | (simp; omega))) ?_)
    refine JL.nil ?_
    all_goals
      refine JE.ret0 (.inr rfl) rfl rfl  ?_
      exact ⟨rfl, fun w h => h⟩
  · refine Fc.of_body (c := ?codeC) Tryz.func78 ?hb Tryz.ntmps78 ?hl ?_
    case hb => exact rfl
    case hl => exact rfl
    refine J.seq ?_
    refine J.region ?_
    refine JL.step (y_move rfl) rfl rfl rfl ?_
    refine JL.step ((by first | exact y_nilCheck rfl | exact y_nilCheckF rfl | exact y_nilCheckY rfl)) rfl rfl rfl ?_
    refine JL.step (y_fieldAddr hT rfl rfl rfl rfl rfl rfl) rfl rfl rfl ?_
    refine JL.step (y_load1 hT rfl rfl rfl (by (exact Rd1.row (by (repeat (first | exact Pick.head | apply Pick.tail | apply Pick.app))) (by rfl)))) rfl rfl rfl ?_
    refine JL.step (y_ptr_eq_nil hT rfl rfl rfl rfl) rfl rfl rfl ?_
    refine JL.nil ?_
    refine JE.then_normal ?_
    refine J.cond_f rfl (by (first | rfl | assumption | (simp; done) | (simp; omega))) ?_
    refine J.seq ?_
    refine J.region ?_
    refine JL.step (y_move rfl) rfl rfl rfl ?_
    refine JL.step ((by first | exact y_nilCheck rfl | exact y_nilCheckF rfl | exact y_nilCheckY rfl)) rfl rfl rfl ?_
    refine JL.step (y_fieldAddr hT rfl rfl rfl rfl rfl rfl) rfl rfl rfl ?_
    refine JL.step (y_load1 hT rfl rfl rfl (by (exact Rd1.row (by (repeat (first | exact Pick.head | apply Pick.tail | apply Pick.app))) (by rfl)))) rfl rfl rfl ?_
    refine JL.step (y_move rfl) rfl rfl rfl (JL.step (y_ptr_ne_same hT rfl rfl rfl rfl rfl) rfl rfl rfl ?_)
    refine JL.nil ?_
    refine JE.then_normal ?_
    refine J.cond_f rfl (by (first | rfl | assumption | (simp; done) | (simp; omega))) ?_
    refine J.skip ?_
    all_goals
      refine JE.ret0 (.inr rfl) rfl rfl  ?_
      exact ⟨rfl, fun w h => h⟩
theorem bbyte_spec (b : Nat) (p : Value) (a : Option Addr) (c : Nat) (xs : List Int) (y : Int) (l : List HProp) (hp : p = .pointer none ∨ p = .pointer (some ⟨b, 0, none⟩)) (hl : xs.length ≤ 10000000) :
    Fc prog E 54 [.pointer (some ⟨b, 0, none⟩), .int .u8 y].toArray (bldL b p a c xs l) (fun u l' => ∃ a' c', u = .nilIface ∧ l' = bldL b (.pointer (some ⟨b, 0, none⟩)) a' c' (xs ++ [y]) l) := by
  refine Fc.post ?_
  unfold bldL
  refine Fc.of_body (c := ?codeC) Tryz.func54 ?hb Tryz.ntmps54 ?hl ?_
  case hb => exact rfl
  case hl => exact rfl
  refine J.seq ?_
  refine J.region ?_
  refine JL.step (y_assign rfl) rfl rfl rfl ?_
  refine JL.nil ?_
  refine JE.then_normal ?_
  refine J.seq ?_
  refine J.region ?_
  refine JL.step (y_move rfl) rfl rfl rfl ?_
  refine JL.loud rfl (l_callF e78 rfl rfl (bcheck_spec E b p _ _ hp) ?_)
  rintro _ _ ⟨rfl, rfl⟩
  refine JL.nil ?_
  refine JE.then_normal ?_
  refine J.seq ?_
  refine J.region ?_
  refine JL.step (y_move rfl) rfl rfl rfl (JL.step (y_move rfl) rfl rfl rfl ?_)
  refine JL.step ((by first | exact y_nilCheck rfl | exact y_nilCheckF rfl | exact y_nilCheckY rfl)) rfl rfl rfl ?_
  refine JL.step (y_fieldAddr hT rfl rfl rfl rfl rfl rfl) rfl rfl rfl ?_
  refine JL.step (y_load1 hT rfl rfl rfl (by (exact Rd1.row (by (repeat (first | exact Pick.head | apply Pick.tail | apply Pick.app))) (by rfl)))) rfl rfl rfl ?_
  refine JL.step (y_move rfl) rfl rfl rfl ?_
  refine JL.loud rfl (l_buildSliceP hT rfl rfl rfl rfl rfl rfl rfl (by (first | exact fill_one rfl (by first | assumption | rfl | (simp; done)) | rfl | simp)) rfl (fun b2 => ?_))
  refine JL.loud rfl (l_append hT rfl rfl rfl rfl rfl rfl rfl rfl (by (repeat (first | exact Pick.head | apply Pick.tail | apply Pick.app))) (by (first | exact RdN.rowAll (by (repeat (first | exact Pick.head | apply Pick.tail | apply Pick.app))) | exact RdN.own (by (repeat (first | exact Pick.head | apply Pick.tail | apply Pick.app))))) (by (first | rfl | assumption | (simp; done) | omega)) (by (first | assumption | exact ones_of rfl | exact encW_one _ | exact encB_one _ | (intro u hu; simp at hu; rcases hu with rfl | rfl <;> rfl) | (intro u hu; simp at hu; subst hu; rfl) | simp)) (by (first | exact Nat.le_trans (Nat.mul_le_mul_left _ (Nat.le_of_ble_eq_true rfl : _ ≤ 4096)) (by omega) | exact Nat.le_trans (Nat.mul_le_mul_left _ (Nat.le_of_ble_eq_true rfl : _ ≤ 1)) (by omega))) (by (first | omega | exact Nat.le_of_ble_eq_true rfl | decide | (simp; omega))) rfl (fun ab3 cb3 hb3 => ?_))
  refine JL.step ((by first | exact y_nilCheck rfl | exact y_nilCheckF rfl | exact y_nilCheckY rfl)) rfl rfl rfl ?_
  refine JL.step (y_fieldAddr hT rfl rfl rfl rfl rfl rfl) rfl rfl rfl ?_
  refine JL.loud rfl (l_store1 hT rfl rfl rfl rfl rfl (by (repeat (first | exact Pick.head | apply Pick.tail | apply Pick.app))) (by (first | omega | exact Nat.le_of_ble_eq_true rfl | decide | (simp; omega))) ?_)
  refine JL.nil ?_
  refine JE.then_normal ?_
  refine J.seq ?_
  refine J.region ?_
  refine JL.step (y_assign rfl) rfl rfl rfl ?_
  refine JL.nil ?_
  refine JE.then_normal ?_
  refine J.ret ?_
  refine JE.ret1 (.inl rfl) rfl rfl (by (first | exact RV.tmp rfl | exact RV.cell1 hT rfl rfl rfl (by (exact Rd1.row (by (repeat (first | exact Pick.head | apply Pick.tail | apply Pick.app))) (by rfl))) | exact RV.cellN hT rfl rfl rfl (by (first | exact RdN.rowAll (by (repeat (first | exact Pick.head | apply Pick.tail | apply Pick.app))) | exact RdN.own (by (repeat (first | exact Pick.head | apply Pick.tail | apply Pick.app))))) (by (first | rfl | assumption | (simp; done) | omega)))) ?_
  exact ⟨_, fun w h => by rw [List.length_append, List.map_append]; exact h.sup (by (repeat (first | exact Sup.refl | apply Sup.cons (by (repeat (first | exact Pick.head | apply Pick.tail | apply Pick.app))) | apply Sup.app | apply Sup.skip | apply Sup.skips))), _, _, rfl, rfl⟩
theorem bstr_spec (b : Nat) (p : Value) (a : Option Addr) (c : Nat) (xs : List Int) (l : List HProp) (hB : Bys xs) (hne : xs ≠ []) :
    Fc prog E 55 [.pointer (some ⟨b, 0, none⟩)].toArray (bldL b p a c xs l) (fun u l' => u = .string (strOf xs) ∧ l' = l) := by
  refine Fc.eqs ?_
  unfold bldL
  have hpos := List.length_pos_iff.2 hne
  refine Fc.of_body (c := ?codeC) Tryz.func55 ?hb Tryz.ntmps55 ?hl ?_
  case hb => exact rfl
  case hl => exact rfl
  refine J.seq ?_
  refine J.region ?_
  refine JL.step (y_assign rfl) rfl rfl rfl ?_
  refine JL.nil ?_
  refine JE.then_normal ?_
  refine J.seq ?_
  refine J.fact (fun w s => Sat.own_at (s.pick (Pick.tail Pick.head))) fun oo => ?_
  obtain ⟨g, rfl⟩ : ∃ g, a = some ⟨g, 0, none⟩ := by
    rcases oo.at_ with h | ⟨_, h⟩
    · exact h
    · exact absurd (List.map_eq_nil_iff.1 h) hne
  have hle := oo.le
  refine J.draw _ _ [(0, .q), (1, .q), (2, .q), (3, .q), (4, .q), (5, .q), (6, .q), (7, .q), (8, .q), (9, .q), (10, .l), (11, .q)] mixed (by kernel_rfl) (Split.cons (Pick.tail Pick.head) (Split.nil)) ?_
  refine JM.quiet rfl rfl rfl rfl (fun m => y_move rfl) ?_
  refine JM.quiet rfl rfl rfl rfl (fun m => (by first | exact y_nilCheck rfl | exact y_nilCheckF rfl | exact y_nilCheckY rfl)) ?_
  refine JM.quiet rfl rfl rfl rfl (fun m => y_fieldAddr hT rfl rfl rfl rfl rfl rfl) ?_
  refine JM.quiet rfl rfl rfl rfl (fun m => y_load1 hT rfl rfl rfl (by (exact Rd1.row (Pick.app m (by (repeat (first | exact Pick.head | apply Pick.tail | apply Pick.app)))) (by rfl)))) ?_
  refine JM.quiet rfl rfl rfl rfl (fun m => y_sliceData rfl (by omega)) ?_
  refine JM.quiet rfl rfl rfl rfl (fun m => y_move rfl) ?_
  refine JM.quiet rfl rfl rfl rfl (fun m => (by first | exact y_nilCheck rfl | exact y_nilCheckF rfl | exact y_nilCheckY rfl)) ?_
  refine JM.quiet rfl rfl rfl rfl (fun m => y_fieldAddr hT rfl rfl rfl rfl rfl rfl) ?_
  refine JM.quiet rfl rfl rfl rfl (fun m => y_load1 hT rfl rfl rfl (by (exact Rd1.row (Pick.app m (by (repeat (first | exact Pick.head | apply Pick.tail | apply Pick.app)))) (by rfl)))) ?_
  refine JM.quiet rfl rfl rfl rfl (fun m => y_len_slice hT rfl rfl rfl) ?_
  refine JM.loud rfl rfl (fun fr => l_unsafeString hB Tryz.underlying114 (by kernel_rfl) rfl (by omega) (by (repeat (first | exact Pick.head | apply Pick.tail | apply Pick.app))) rfl rfl rfl ⟨[], (by (repeat (first | exact Split.nil | exact Split.all | refine Split.cons Pick.head ?_))), ?_⟩)
  refine JM.quiet rfl rfl rfl rfl (fun m => y_assign rfl) ?_
  refine JM.nil ?_
  refine JE.then_normal ?_
  refine J.ret ?_
  refine JE.ret1 (.inl rfl) rfl rfl (by (first | exact RV.tmp rfl | exact RV.cell1 hT rfl rfl rfl (by (exact Rd1.row (by (repeat (first | exact Pick.head | apply Pick.tail | apply Pick.app))) (by rfl))) | exact RV.cellN hT rfl rfl rfl (by (first | exact RdN.rowAll (by (repeat (first | exact Pick.head | apply Pick.tail | apply Pick.app))) | exact RdN.own (by (repeat (first | exact Pick.head | apply Pick.tail | apply Pick.app))))) (by (first | rfl | assumption | (simp; done) | omega)))) ?_
  exact ⟨rfl, fun w h => h.sup (by (repeat (first | exact Sup.refl | apply Sup.cons (by (repeat (first | exact Pick.head | apply Pick.tail | apply Pick.app))) | apply Sup.app | apply Sup.skip | apply Sup.skips)))⟩
theorem quote_spec (xs : List Int) (l : List HProp) (hB : Bys xs) (hl : xs.length ≤ 1000000) :
    Fc prog E 25 [.string (strOf xs)].toArray l (fun v l' => v = .string (strOf (quoT xs)) ∧ l' = l) := by
  refine Fc.eqs ?_
  refine Fc.of_body (c := ?codeC) Tryz.func25 ?hb Tryz.ntmps25 ?hl ?_
  case hb => exact rfl
  case hl => exact rfl
  refine J.seq ?_
  refine J.region ?_
  refine JL.step (y_assign rfl) rfl rfl rfl ?_
  refine JL.nil ?_
  refine JE.then_normal ?_
  refine J.seq ?_
  refine J.region ?_
  refine JL.loud rfl (l_alloc hT rfl rfl (by (first | rfl | simp)) rfl (fun b1 => ?_))
  refine JL.nil ?_
  refine JE.then_normal ?_
  refine J.seq ?_
  refine J.region ?_
  refine JL.pre (l' := bldL b1 (.pointer none) none 0 [] l) (fun w s => by
    have h := Sat.own_nil (e := 5) (size := 1) s
    unfold bldL
    exact h.sup (by (repeat (first | exact Sup.refl | apply Sup.cons (by (repeat (first | exact Pick.head | apply Pick.tail | apply Pick.app))) | apply Sup.app | apply Sup.skip | apply Sup.skips)))) ?_
  refine JL.loud rfl (l_callF e54 rfl rfl (bbyte_spec E b1 _ none 0 [] 34 l (.inl rfl) (by simp)) ?_)
  rintro _ _ ⟨a1, c1, rfl, rfl⟩
  refine JL.nil ?_
  refine JE.then_normal ?_
  refine J.seq ?_
  refine J.seq ?_
  refine J.region ?_
  refine JL.step (y_move rfl) rfl rfl rfl ?_
  refine JL.step (y_lenS hT rfl rfl rfl) rfl rfl rfl ?_
  refine JL.step (y_move rfl) rfl rfl rfl ?_
  refine JL.nil ?_
  refine JE.then_normal ?_
  refine J.block ?_
  refine J.loop (α := Nat × Option Addr × Nat) (fun s => s.1 ≤ xs.length) (fun s => [(0, .string (strOf xs)), (3, .pointer (some ⟨b1, 0, none⟩)), (7, .int .i64 xs.length), (8, .int .i64 s.1)]) (fun s => bldL b1 (.pointer (some ⟨b1, 0, none⟩)) s.2.1 s.2.2 (34 :: (xs.take s.1).flatMap qC) l) (fun s => xs.length - s.1) (0, a1, c1) (Nat.zero_le _) ⟨rfl, rfl, rfl, rfl, trivial⟩ (fun w h => h) ?_
  rintro ⟨i, a2, c2⟩ hi
  dsimp only at hi ⊢
  have hql := qCs_length (xs.take i)
  rw [List.length_take] at hql
  refine J.seq ?_
  refine J.region ?_
  refine JL.step (y_lss rfl rfl) rfl rfl rfl ?_
  refine JL.nil ?_
  refine JE.then_normal ?_
  refine J.seq ?_
  first | apply J.cond_dec rfl | apply J.cond rfl
  case' ht =>
    intro h
    try (first | (exfalso; omega) | (cases h; done) | (exfalso; simp at h; done) | subst h)
    all_goals
      refine J.skip ?_
  case' hf =>
    intro h
    try (first | (exfalso; omega) | (cases h; done) | (exfalso; simp at h; done) | subst h)
    all_goals
      refine J.exit ?_
      refine JE.then_exit ?_
      refine JE.then_exit ?_
      refine JE.block_exit ?_
      refine JE.then_normal ?_
      refine J.seq ?_
      obtain rfl : i = xs.length := by omega
      rw [List.take_length] at hql ⊢
      refine J.region ?_
      refine JL.loud rfl (l_callF e54 rfl rfl (bbyte_spec E b1 _ a2 c2 _ 34 l (.inr rfl) (by rw [List.length_cons]; omega)) ?_)
      rintro _ _ ⟨a6, c6, rfl, rfl⟩
      refine JL.nil ?_
      refine JE.then_normal ?_
      refine J.seq ?_
      refine J.region ?_
      refine JL.loud rfl (l_callF e55 rfl rfl (bstr_spec E b1 _ a6 c6 _ l (quoT_bys hB) (by simp)) ?_)
      rintro _ _ ⟨rfl, rfl⟩
      refine JL.step (y_assign rfl) rfl rfl rfl ?_
      refine JL.nil ?_
      refine JE.then_normal ?_
      refine J.ret ?_
      refine JE.ret1 (.inl rfl) rfl rfl (by (first | exact RV.tmp rfl | exact RV.cell1 hT rfl rfl rfl (by (exact Rd1.row (by (repeat (first | exact Pick.head | apply Pick.tail | apply Pick.app))) (by rfl))) | exact RV.cellN hT rfl rfl rfl (by (first | exact RdN.rowAll (by (repeat (first | exact Pick.head | apply Pick.tail | apply Pick.app))) | exact RdN.own (by (repeat (first | exact Pick.head | apply Pick.tail | apply Pick.app))))) (by (first | rfl | assumption | (simp; done) | omega)))) ?_
      exact ⟨rfl, fun w h => h⟩
  all_goals refine JE.then_normal ?_
  all_goals
    refine J.seq ?_
    refine J.block ?_
    refine J.seq ?_
    have hlt : i < xs.length := by omega
    obtain ⟨x, hh⟩ : ∃ x, xs[i]? = some x := ⟨xs[i]'(by omega), List.getElem?_eq_getElem _⟩
    obtain ⟨hx0, hx1⟩ := hB.get hh
    have hst := qCs_step hh
    obtain ⟨ys, hys⟩ : ∃ ys, (xs.take i).flatMap qC = ys := ⟨_, rfl⟩
    rw [hys] at hst hql ⊢
    obtain ⟨b34, h34⟩ : ∃ b, b = decide (x = 34) := ⟨_, rfl⟩
    obtain ⟨b92, h92⟩ : ∃ b, b = decide (x = 92) := ⟨_, rfl⟩
    refine J.region ?_
    refine JL.step (y_move rfl) rfl rfl rfl (JL.step (y_assign rfl) rfl rfl rfl ?_)
    refine JL.nil ?_
    refine JE.then_normal ?_
    refine J.seqK (α := Option Addr × Nat × List Int) (fun s => s.2.2 ++ [x] = (34 :: ys) ++ qC x ∧ s.2.2.length ≤ 2000010) (fun s => [(0, .string (strOf xs)), (3, .pointer (some ⟨b1, 0, none⟩)), (4, .int .i64 i), (7, .int .i64 xs.length), (8, .int .i64 i)]) (fun s => bldL b1 (.pointer (some ⟨b1, 0, none⟩)) s.1 s.2.1 s.2.2 l) ?hj8 (fun hk8 => ?hf8)
    case hf8 =>
      refine J.seq ?_
      refine J.region ?_
      refine JL.step (y_move rfl) rfl rfl rfl (JL.step (y_move rfl) rfl rfl rfl ?_)
      refine JL.step (y_ixS hT hB rfl rfl rfl rfl rfl hh) rfl rfl rfl ?_
      refine JL.step (y_eqlB rfl rfl h34.symm) rfl rfl rfl ?_
      refine JL.step (y_move rfl) rfl rfl rfl ?_
      all_goals (first | (refine JL.gsplit_dec rfl rfl rfl (fun h => ?_) (fun h => ?_) <;> try (first | (exfalso; omega) | exact absurd rfl h)) | (refine JL.gsplit rfl rfl rfl (fun h => ?_) (fun h => ?_) <;> try (first | cases h | (exfalso; simp at h; done))) | skip)
      all_goals (first | refine JL.gskip rfl rfl rfl rfl rfl rfl ?_ | refine JL.gskipU rfl rfl rfl rfl rfl ?_ | refine JL.gstep rfl rfl rfl (y_move rfl) rfl rfl ?_)
      all_goals (first | refine JL.gskip rfl rfl rfl rfl rfl rfl ?_ | refine JL.gskipU rfl rfl rfl rfl rfl ?_ | refine JL.gstep rfl rfl rfl (y_move rfl) rfl rfl ?_)
      all_goals (first | refine JL.gskip rfl rfl rfl rfl rfl rfl ?_ | refine JL.gskipU rfl rfl rfl rfl rfl ?_ | refine JL.gstep rfl rfl rfl (y_ixS hT hB rfl rfl rfl rfl rfl hh) rfl rfl ?_)
      all_goals (first | refine JL.gskip rfl rfl rfl rfl rfl rfl ?_ | refine JL.gskipU rfl rfl rfl rfl rfl ?_ | refine JL.gstep rfl rfl rfl (y_eqlB rfl rfl h92.symm) rfl rfl ?_)
      all_goals (refine JL.step (y_pick rfl rfl rfl) rfl rfl rfl ?_)
      all_goals refine JL.nil ?_
      all_goals refine JE.then_normal ?_
      all_goals
        first | apply J.cond_dec rfl | apply J.cond rfl
        case' ht =>
          intro h
          try (first | (exfalso; omega) | (cases h; done) | (exfalso; simp at h; done) | subst h)
          all_goals
            refine J.region ?_
            refine JL.loud rfl (l_callF e54 rfl rfl (bbyte_spec E b1 _ a2 c2 (34 :: ys) 92 l (.inr rfl) (by rw [List.length_cons]; omega)) ?_)
            rintro _ _ ⟨a3, c3, rfl, rfl⟩
            refine JL.nil ?_
        case' hf =>
          intro h
          try (first | (exfalso; omega) | (cases h; done) | (exfalso; simp at h; done) | subst h)
          all_goals
            refine J.skip ?_
      all_goals refine JE.then_normal ?_
      all_goals
        first
        | exact J.closeK hk8 (a3, c3, (34 :: ys) ++ [92]) ⟨by
            unfold qC
            rw [if_pos (by first | exact .inl (of_decide_eq_true h34.symm) | exact .inr (of_decide_eq_true h92.symm)), List.append_assoc]
            rfl, by rw [List.length_append, List.length_cons, List.length_singleton]; omega⟩ ⟨rfl, rfl, rfl, rfl, rfl, trivial⟩ (fun w h => h)
        | exact J.closeK hk8 (a2, c2, 34 :: ys) ⟨by
            unfold qC
            rw [if_neg (by
              intro q
              rcases q with q | q
              · exact of_decide_eq_false h34.symm q
              · exact of_decide_eq_false h92.symm q)], by rw [List.length_cons]; omega⟩ ⟨rfl, rfl, rfl, rfl, rfl, trivial⟩ (fun w h => h)
    rintro ⟨a4, c4, zs⟩ ⟨hzs, hzl⟩
    dsimp only at hzs hzl ⊢
    refine J.region ?_
    refine JL.step (y_move rfl) rfl rfl rfl (JL.step (y_move rfl) rfl rfl rfl ?_)
    refine JL.step (y_ixS hT hB rfl rfl rfl rfl rfl hh) rfl rfl rfl ?_
    refine JL.loud rfl (l_callF e54 rfl rfl (bbyte_spec E b1 _ a4 c4 zs x l (.inr rfl) (by omega)) ?_)
    rintro _ _ ⟨a5, c5, rfl, rfl⟩
    refine JL.nil ?_
    all_goals refine JE.block_normal ?_
    all_goals refine JE.then_normal ?_
    all_goals
      refine J.region ?_
      refine JL.step (y_add rfl rfl (by (first | exact wrap_i64 (by omega) (by omega) | rfl))) rfl rfl rfl ?_
      refine JL.step (y_move rfl) rfl rfl rfl ?_
      refine JL.nil ?_
  all_goals
    exact JE.round (s := (i, a2, c2)) (i + 1, a5, c5) (by dsimp only; omega) ⟨rfl, rfl, rfl, rfl, trivial⟩ (fun w h => by
      dsimp only
      rw [hst]
      rw [hzs] at h
      exact h) (by dsimp only; omega)
end
end
section
open Go Go.SL
section
/-- A quoted text's signs and what is left behind it. -/
def unqL : Bool → List Int → List Int → Option (List Int × List Int)
  | _, _, [] => none
  | true, acc, r :: rs => if oddB r then none else if r = 34 ∨ r = 92 then unqL false (acc ++ [r]) rs else none
  | false, acc, r :: rs => if oddB r then none else if r = 92 then unqL true acc rs else if r = 34 then some (acc, rs) else unqL false (acc ++ [r]) rs
def unqF : List Int → Option (List Int × List Int)
  | [] => none
  | x :: rs => if x = 34 then unqL false [] rs else none
def unqV (o : Option (List Int × List Int)) : Value := .tuple #[.string (strOf ((o.map (·.1)).getD [])), .string (strOf ((o.map (·.2)).getD [])), .bool o.isSome]
def cutPV (xs : List Int) : Value := .tuple #[.string (strOf (if xs[0]? = some 32 then xs.drop 1 else xs)), .bool (decide (xs[0]? = some 32))]
theorem unqL_t {acc rs : List Int} {r : Int} (h : oddB r = false) (h2 : r = 34 ∨ r = 92) : unqL true acc (r :: rs) = unqL false (acc ++ [r]) rs := by
  show (if oddB r = true then _ else if r = 34 ∨ r = 92 then _ else _) = _
  rw [h, if_neg (by decide), if_pos h2]
theorem unqL_f {acc rs : List Int} {r : Int} (h : oddB r = false) : unqL false acc (r :: rs) = if r = 92 then unqL true acc rs else if r = 34 then some (acc, rs) else unqL false (acc ++ [r]) rs := by
  show (if oddB r = true then _ else _) = _
  rw [h, if_neg (by decide)]
theorem take_one {xs : List Int} : decide (xs.take 1 = [32]) = decide (xs[0]? = some 32) := by
  cases xs <;> simp
end
section
attribute [local irreducible] J JL JE JM LS Y Fc RV Code.wp wpList Code.wpIn wpListIn
attribute [local irreducible] Yc strOf
variable (E : World)
theorem hasp_spec (xs ps : List Int) (u : ByteArray) (l : List HProp) (hu : u = strOf ps) (hB : Bys xs) (hP : Bys ps) (hl : xs.length ≤ 1000000) (hl2 : ps.length ≤ 1000000) :
    Fc prog E 99 [.string (strOf xs), .string u].toArray l (fun v l' => v = .bool (decide (xs.take ps.length = ps)) ∧ l' = l) := by
  refine Fc.eqs ?_
  subst hu
  obtain ⟨b, hb⟩ : ∃ b, b = decide (xs.take ps.length = ps) := ⟨_, rfl⟩
  refine Fc.of_body (c := ?codeC) Tryz.func99 ?hb Tryz.ntmps99 ?hl ?_
  case hb => exact rfl
  case hl => exact rfl
  refine J.seq ?_
  refine J.region ?_
  refine JL.step (y_assign rfl) rfl rfl rfl ?_
  refine JL.nil ?_
  refine JE.then_normal ?_
  refine J.seq ?_
  refine J.region ?_
  refine JL.step (y_move rfl) rfl rfl rfl ?_
  refine JL.step (y_lenS hT rfl rfl rfl) rfl rfl rfl ?_
  refine JL.step (y_move rfl) rfl rfl rfl ?_
  refine JL.step (y_lenS hT rfl rfl rfl) rfl rfl rfl ?_
  refine JL.step (y_geq rfl rfl) rfl rfl rfl (JL.step (y_move rfl) rfl rfl rfl ?_)
  all_goals (first | (refine JL.gsplit_dec rfl rfl rfl (fun h => ?_) (fun h => ?_) <;> try (first | (exfalso; omega) | exact absurd rfl h)) | (refine JL.gsplit rfl rfl rfl (fun h => ?_) (fun h => ?_) <;> try (first | cases h | (exfalso; simp at h; done))) | skip)
  all_goals (first | refine JL.gskip rfl rfl rfl rfl rfl rfl ?_ | refine JL.gskipU rfl rfl rfl rfl rfl ?_ | refine JL.gstep rfl rfl rfl (y_move rfl) rfl rfl ?_)
  all_goals (first | refine JL.gskip rfl rfl rfl rfl rfl rfl ?_ | refine JL.gskipU rfl rfl rfl rfl rfl ?_ | refine JL.gstep rfl rfl rfl (y_move rfl) rfl rfl ?_)
  all_goals (first | refine JL.gskip rfl rfl rfl rfl rfl rfl ?_ | refine JL.gskipU rfl rfl rfl rfl rfl ?_ | refine JL.gstep rfl rfl rfl (y_lenS hT rfl rfl rfl) rfl rfl ?_)
  all_goals (first | refine JL.gskip rfl rfl rfl rfl rfl rfl ?_ | refine JL.gskipU rfl rfl rfl rfl rfl ?_ | refine JL.gstep rfl rfl rfl (y_cutS (lo := 0) (hi := ps.length) hT hB rfl rfl rfl (.inl ⟨rfl, rfl⟩) (.inr ⟨_, _, _, rfl, rfl, rfl⟩) (Nat.zero_le _) (by omega)) rfl rfl ?_)
  all_goals (first | refine JL.gskip rfl rfl rfl rfl rfl rfl ?_ | refine JL.gskipU rfl rfl rfl rfl rfl ?_ | refine JL.gstep rfl rfl rfl (y_move rfl) rfl rfl ?_)
  all_goals (first | refine JL.gskip rfl rfl rfl rfl rfl rfl ?_ | refine JL.gskipU rfl rfl rfl rfl rfl ?_ | refine JL.gstep rfl rfl rfl (y_eqS (b := b) ((hB.take _).drop 0) hP rfl rfl (by rw [List.drop_zero]; exact hb)) rfl rfl ?_)
  all_goals (refine JL.step (y_pick rfl rfl rfl) rfl rfl rfl ?_)
  all_goals (refine JL.step (y_assign rfl) rfl rfl rfl ?_)
  all_goals refine JL.nil ?_
  all_goals refine JE.then_normal ?_
  all_goals
    refine J.ret ?_
    refine JE.ret1 (.inl rfl) rfl rfl (by (first | exact RV.tmp rfl | exact RV.cell1 hT rfl rfl rfl (by (exact Rd1.row (by (repeat (first | exact Pick.head | apply Pick.tail | apply Pick.app))) (by rfl))) | exact RV.cellN hT rfl rfl rfl (by (first | exact RdN.rowAll (by (repeat (first | exact Pick.head | apply Pick.tail | apply Pick.app))) | exact RdN.own (by (repeat (first | exact Pick.head | apply Pick.tail | apply Pick.app))))) (by (first | rfl | assumption | (simp; done) | omega)))) ?_
    rw [← hb]
    first
    | (have h2 : xs.length < ps.length := by omega
       have hbf : b = false := by
         rw [hb]
         refine decide_eq_false fun q => ?_
         have := congrArg List.length q
         rw [List.length_take] at this
         omega
       rw [hbf]
       exact ⟨rfl, fun w h => h⟩)
    | exact ⟨rfl, fun w h => h⟩
theorem cutpL_spec (xs : List Int) (l : List HProp) (hB : Bys xs) (hl : xs.length ≤ 1000000) : Fc prog E 109 [.string (strOf xs), .string ⟨#[32]⟩].toArray l (fun v l' => v = cutPV xs ∧ l' = l) := by
  refine Fc.eqs ?_
  obtain ⟨b, hb⟩ : ∃ b, b = decide (xs[0]? = some 32) := ⟨_, rfl⟩
  refine Fc.of_body (c := ?codeC) Tryz.func109 ?hb Tryz.ntmps109 ?hl ?_
  case hb => exact rfl
  case hl => exact rfl
  refine J.seq ?_
  refine J.region ?_
  refine JL.step (y_assign rfl) rfl rfl rfl (JL.step (y_assign rfl) rfl rfl rfl ?_)
  refine JL.nil ?_
  refine JE.then_normal ?_
  refine J.seq ?_
  refine J.seq ?_
  refine J.region ?_
  refine JL.step (y_move rfl) rfl rfl rfl (JL.step (y_move rfl) rfl rfl rfl ?_)
  refine JL.loud rfl (l_callF e99 rfl rfl (hasp_spec E xs [32] ⟨#[32]⟩ _ (by unfold strOf; rfl) hB (Bys.all rfl) hl (by simp)) ?_)
  rintro _ _ ⟨rfl, rfl⟩
  rw [show decide (xs.take ([32] : List Int).length = [32]) = b by rw [hb]; exact take_one]
  refine JL.step (y_not rfl) rfl rfl rfl ?_
  refine JL.nil ?_
  refine JE.then_normal ?_
  first | apply J.cond_dec rfl | apply J.cond rfl
  case' ht =>
    intro h
    try (first | (exfalso; omega) | (cases h; done) | (exfalso; simp at h; done) | subst h)
    all_goals
      refine J.seq ?_
      refine J.region ?_
      refine JL.step (y_move rfl) rfl rfl rfl (JL.step (y_assign rfl) rfl rfl rfl (JL.step (y_assign rfl) rfl rfl rfl ?_))
      refine JL.nil ?_
      refine JE.then_normal ?_
      refine J.ret ?_
      refine JE.then_ret ?_
      refine JE.ret2 (.inl rfl) rfl rfl (by (first | exact RV.tmp rfl | exact RV.cell1 hT rfl rfl rfl (by (exact Rd1.row (by (repeat (first | exact Pick.head | apply Pick.tail | apply Pick.app))) (by rfl))) | exact RV.cellN hT rfl rfl rfl (by (first | exact RdN.rowAll (by (repeat (first | exact Pick.head | apply Pick.tail | apply Pick.app))) | exact RdN.own (by (repeat (first | exact Pick.head | apply Pick.tail | apply Pick.app))))) (by (first | rfl | assumption | (simp; done) | omega)))) (by (first | exact RV.tmp rfl | exact RV.cell1 hT rfl rfl rfl (by (exact Rd1.row (by (repeat (first | exact Pick.head | apply Pick.tail | apply Pick.app))) (by rfl))) | exact RV.cellN hT rfl rfl rfl (by (first | exact RdN.rowAll (by (repeat (first | exact Pick.head | apply Pick.tail | apply Pick.app))) | exact RdN.own (by (repeat (first | exact Pick.head | apply Pick.tail | apply Pick.app))))) (by (first | rfl | assumption | (simp; done) | omega)))) ?_
      first
      | (have zz := hpos
         have hb2 := of_decide_eq_true (hb.symm.trans (by simpa using h))
         unfold cutPV
         rw [decide_eq_true hb2, if_pos hb2, List.take_length]
         exact ⟨rfl, fun w h => h⟩)
      | (have hb2 := of_decide_eq_false (hb.symm.trans (by simpa using h))
         unfold cutPV
         rw [decide_eq_false hb2, if_neg hb2]
         exact ⟨rfl, fun w h => h⟩)
  case' hf =>
    intro h
    try (first | (exfalso; omega) | (cases h; done) | (exfalso; simp at h; done) | subst h)
    all_goals
      refine J.skip ?_
  all_goals refine JE.then_normal ?_
  all_goals
    refine J.seq ?_
    have hpos : 1 ≤ xs.length := by
      have hb2 := of_decide_eq_true (hb.symm.trans (by simpa using h))
      exact (List.getElem?_eq_some_iff.1 hb2).1
    refine J.region ?_
    refine JL.step (y_move rfl) rfl rfl rfl (JL.step (y_move rfl) rfl rfl rfl ?_)
    refine JL.step (v := .int .i64 1) (Y.cast (y_len_string (s := ⟨#[32]⟩) hT rfl rfl rfl) rfl) rfl rfl rfl ?_
    refine JL.step (y_cutS (lo := 1) (hi := xs.length) hT hB rfl rfl rfl (.inr ⟨_, _, _, rfl, rfl, rfl⟩) (.inl ⟨rfl, rfl⟩) hpos (Nat.le_refl _)) rfl rfl rfl ?_
    refine JL.step (y_assign rfl) rfl rfl rfl (JL.step (y_assign rfl) rfl rfl rfl ?_)
    refine JL.nil ?_
    refine JE.then_normal ?_
    refine J.ret ?_
    refine JE.ret2 (.inl rfl) rfl rfl (by (first | exact RV.tmp rfl | exact RV.cell1 hT rfl rfl rfl (by (exact Rd1.row (by (repeat (first | exact Pick.head | apply Pick.tail | apply Pick.app))) (by rfl))) | exact RV.cellN hT rfl rfl rfl (by (first | exact RdN.rowAll (by (repeat (first | exact Pick.head | apply Pick.tail | apply Pick.app))) | exact RdN.own (by (repeat (first | exact Pick.head | apply Pick.tail | apply Pick.app))))) (by (first | rfl | assumption | (simp; done) | omega)))) (by (first | exact RV.tmp rfl | exact RV.cell1 hT rfl rfl rfl (by (exact Rd1.row (by (repeat (first | exact Pick.head | apply Pick.tail | apply Pick.app))) (by rfl))) | exact RV.cellN hT rfl rfl rfl (by (first | exact RdN.rowAll (by (repeat (first | exact Pick.head | apply Pick.tail | apply Pick.app))) | exact RdN.own (by (repeat (first | exact Pick.head | apply Pick.tail | apply Pick.app))))) (by (first | rfl | assumption | (simp; done) | omega)))) ?_
    first
    | (have zz := hpos
       have hb2 := of_decide_eq_true (hb.symm.trans (by simpa using h))
       unfold cutPV
       rw [decide_eq_true hb2, if_pos hb2, List.take_length]
       exact ⟨rfl, fun w h => h⟩)
    | (have hb2 := of_decide_eq_false (hb.symm.trans (by simpa using h))
       unfold cutPV
       rw [decide_eq_false hb2, if_neg hb2]
       exact ⟨rfl, fun w h => h⟩)
theorem cutp_spec (xs : List Int) (l : List HProp) (hB : Bys xs) (hl : xs.length ≤ 1000000) : Fc prog E 94 [.string (strOf xs), .string ⟨#[32]⟩].toArray l (fun v l' => v = cutPV xs ∧ l' = l) := by
  refine Fc.eqs ?_
  refine Fc.of_body (c := ?codeC) Tryz.func94 ?hb Tryz.ntmps94 ?hl ?_
  case hb => exact rfl
  case hl => exact rfl
  refine J.seq ?_
  refine J.region ?_
  refine JL.step (y_assign rfl) rfl rfl rfl (JL.step (y_assign rfl) rfl rfl rfl ?_)
  refine JL.nil ?_
  refine JE.then_normal ?_
  refine J.seq ?_
  refine J.region ?_
  refine JL.step (y_move rfl) rfl rfl rfl (JL.step (y_move rfl) rfl rfl rfl ?_)
  refine JL.loud rfl (l_callF e109 rfl rfl (cutpL_spec E xs _ hB hl) ?_)
  rintro _ _ ⟨rfl, rfl⟩
  refine JL.step (y_extract rfl rfl) rfl rfl rfl (JL.step (y_extract rfl rfl) rfl rfl rfl (JL.step (y_assign rfl) rfl rfl rfl (JL.step (y_assign rfl) rfl rfl rfl ?_)))
  refine JL.nil ?_
  refine JE.then_normal ?_
  refine J.ret ?_
  refine JE.ret2 (.inl rfl) rfl rfl (by (first | exact RV.tmp rfl | exact RV.cell1 hT rfl rfl rfl (by (exact Rd1.row (by (repeat (first | exact Pick.head | apply Pick.tail | apply Pick.app))) (by rfl))) | exact RV.cellN hT rfl rfl rfl (by (first | exact RdN.rowAll (by (repeat (first | exact Pick.head | apply Pick.tail | apply Pick.app))) | exact RdN.own (by (repeat (first | exact Pick.head | apply Pick.tail | apply Pick.app))))) (by (first | rfl | assumption | (simp; done) | omega)))) (by (first | exact RV.tmp rfl | exact RV.cell1 hT rfl rfl rfl (by (exact Rd1.row (by (repeat (first | exact Pick.head | apply Pick.tail | apply Pick.app))) (by rfl))) | exact RV.cellN hT rfl rfl rfl (by (first | exact RdN.rowAll (by (repeat (first | exact Pick.head | apply Pick.tail | apply Pick.app))) | exact RdN.own (by (repeat (first | exact Pick.head | apply Pick.tail | apply Pick.app))))) (by (first | rfl | assumption | (simp; done) | omega)))) ?_
  exact ⟨rfl, fun w h => h⟩
theorem unquote_spec (xs : List Int) (l : List HProp) (hB : Bys xs) (hl : xs.length ≤ 1000000) : Fc prog E 95 [.string (strOf xs)].toArray l (fun v l' => v = unqV (unqF xs) ∧ l' = l) := by
  refine Fc.eqs ?_
  obtain ⟨b0, hb0⟩ : ∃ b, b = decide (xs = []) := ⟨_, rfl⟩
  obtain ⟨ys, hys⟩ : ∃ ys, xs.drop 1 = ys := ⟨_, rfl⟩
  have hyB : Bys ys := by rw [← hys]; exact hB.drop 1
  have hnone : unqV none = .tuple #[.string ⟨#[]⟩, .string ⟨#[]⟩, .bool false] := by unfold unqV strOf; rfl
  have hyl : ys.length = xs.length - 1 := by rw [← hys, List.length_drop]
  refine Fc.of_body (c := ?codeC) Tryz.func95 ?hb Tryz.ntmps95 ?hl ?_
  case hb => exact rfl
  case hl => exact rfl
  refine J.seq ?_
  refine J.region ?_
  refine JL.step (y_assign rfl) rfl rfl rfl (JL.step (y_assign rfl) rfl rfl rfl (JL.step (y_assign rfl) rfl rfl rfl ?_))
  refine JL.nil ?_
  refine JE.then_normal ?_
  refine J.scope ?_
  refine J.seq ?_
  refine J.region ?_
  refine JL.step (y_assign rfl) rfl rfl rfl ?_
  refine JL.nil ?_
  refine JE.then_normal ?_
  refine J.seq ?_
  refine J.region ?_
  refine JL.step (y_assign rfl) rfl rfl rfl ?_
  refine JL.nil ?_
  refine JE.then_normal ?_
  refine J.seq ?_
  refine J.seq ?_
  refine J.region ?_
  refine JL.step (y_move rfl) rfl rfl rfl ?_
  refine JL.step (y_eqS (ys := []) (b := b0) hB Bys.nil rfl (by unfold strOf; rfl) hb0) rfl rfl rfl ?_
  refine JL.step (y_move rfl) rfl rfl rfl ?_
  all_goals (first | (refine JL.gsplit_dec rfl rfl rfl (fun h => ?_) (fun h => ?_) <;> try (first | (exfalso; omega) | exact absurd rfl h)) | (refine JL.gsplit rfl rfl rfl (fun h => ?_) (fun h => ?_) <;> try (first | cases h | (exfalso; simp at h; done))) | skip)
  all_goals (first | refine JL.gskip rfl rfl rfl rfl rfl rfl ?_ | refine JL.gskipU rfl rfl rfl rfl rfl ?_ | refine JL.gstep rfl rfl rfl (y_move rfl) rfl rfl ?_)
  all_goals (first | refine JL.gskip rfl rfl rfl rfl rfl rfl ?_ | refine JL.gskipU rfl rfl rfl rfl rfl ?_ | (obtain ⟨x, hx⟩ : ∃ x, xs[0]? = some x := ⟨xs[0]'(List.length_pos_iff.2 (of_decide_eq_false hb0.symm)), List.getElem?_eq_getElem _⟩; obtain ⟨bx, hbx⟩ : ∃ b, b = decide (¬ x = 34) := ⟨_, rfl⟩; refine JL.gstep rfl rfl rfl (y_ixS (i := 0) hT hB rfl rfl rfl rfl rfl hx) rfl rfl ?_))
  all_goals (first | refine JL.gskip rfl rfl rfl rfl rfl rfl ?_ | refine JL.gskipU rfl rfl rfl rfl rfl ?_ | refine JL.gstep rfl rfl rfl (y_neqB rfl rfl hbx.symm) rfl rfl ?_)
  all_goals (refine JL.step (y_pick rfl rfl rfl) rfl rfl rfl ?_)
  all_goals refine JL.nil ?_
  all_goals refine JE.then_normal ?_
  all_goals
    first | apply J.cond_dec rfl | apply J.cond rfl
    case' ht =>
      intro h
      try (first | (exfalso; omega) | (cases h; done) | (exfalso; simp at h; done) | subst h)
      all_goals
        refine J.seq ?_
        refine J.region ?_
        refine JL.step (y_assign rfl) rfl rfl rfl (JL.step (y_assign rfl) rfl rfl rfl (JL.step (y_assign rfl) rfl rfl rfl ?_))
        refine JL.nil ?_
        refine JE.then_normal ?_
        refine J.ret ?_
        refine JE.then_ret ?_
        refine JE.scope_ret ?_
        refine JE.ret3 (.inl rfl) rfl rfl (by (first | exact RV.tmp rfl | exact RV.cell1 hT rfl rfl rfl (by (exact Rd1.row (by (repeat (first | exact Pick.head | apply Pick.tail | apply Pick.app))) (by rfl))) | exact RV.cellN hT rfl rfl rfl (by (first | exact RdN.rowAll (by (repeat (first | exact Pick.head | apply Pick.tail | apply Pick.app))) | exact RdN.own (by (repeat (first | exact Pick.head | apply Pick.tail | apply Pick.app))))) (by (first | rfl | assumption | (simp; done) | omega)))) (by (first | exact RV.tmp rfl | exact RV.cell1 hT rfl rfl rfl (by (exact Rd1.row (by (repeat (first | exact Pick.head | apply Pick.tail | apply Pick.app))) (by rfl))) | exact RV.cellN hT rfl rfl rfl (by (first | exact RdN.rowAll (by (repeat (first | exact Pick.head | apply Pick.tail | apply Pick.app))) | exact RdN.own (by (repeat (first | exact Pick.head | apply Pick.tail | apply Pick.app))))) (by (first | rfl | assumption | (simp; done) | omega)))) (by (first | exact RV.tmp rfl | exact RV.cell1 hT rfl rfl rfl (by (exact Rd1.row (by (repeat (first | exact Pick.head | apply Pick.tail | apply Pick.app))) (by rfl))) | exact RV.cellN hT rfl rfl rfl (by (first | exact RdN.rowAll (by (repeat (first | exact Pick.head | apply Pick.tail | apply Pick.app))) | exact RdN.own (by (repeat (first | exact Pick.head | apply Pick.tail | apply Pick.app))))) (by (first | rfl | assumption | (simp; done) | omega)))) ?_
        first
        | (have hxe : xs = [] := of_decide_eq_true hb0.symm
           rw [hxe, show unqF [] = none from rfl, hnone]
           exact ⟨rfl, fun w h => h⟩)
        | (have hx34 : ¬ x = 34 := of_decide_eq_true hbx.symm
           have hn : unqF xs = none := by
             cases xs with
             | nil => rfl
             | cons y r =>
               rw [List.getElem?_cons_zero] at hx
               cases hx
               show (if _ then _ else _) = _
               rw [if_neg hx34]
           rw [hn, hnone]
           exact ⟨rfl, fun w h => h⟩)
        | (have hn : unqF xs = none := by
             rw [← hinv, List.drop_eq_nil_of_le (by omega)]
             cases esc <;> rfl
           rw [hn, hnone]
           exact ⟨rfl, fun w h => h.sup (by (repeat (first | exact Sup.refl | apply Sup.cons (by (repeat (first | exact Pick.head | apply Pick.tail | apply Pick.app))) | apply Sup.app | apply Sup.skip | apply Sup.skips)))⟩)
        | (have ho : oddB c = true := by unfold oddB; simp; omega
           have hn : unqF xs = none := by
             rw [← hinv]
             cases esc <;> simp [unqL, ho]
           rw [hn, hnone]
           exact ⟨rfl, fun w h => h.sup (by (repeat (first | exact Sup.refl | apply Sup.cons (by (repeat (first | exact Pick.head | apply Pick.tail | apply Pick.app))) | apply Sup.app | apply Sup.skip | apply Sup.skips)))⟩)
        | (have h1 : ¬ z = 34 := of_decide_eq_true hn34.symm
           have h2 : ¬ z = 92 := of_decide_eq_true hn92.symm
           have hn : unqF xs = none := by
             rw [← hinv]
             simp [unqL, h1, h2]
           rw [hn, hnone]
           exact ⟨rfl, fun w h => h.sup (by (repeat (first | exact Sup.refl | apply Sup.cons (by (repeat (first | exact Pick.head | apply Pick.tail | apply Pick.app))) | apply Sup.app | apply Sup.skip | apply Sup.skips)))⟩)
        | (have h92 : ¬ z = 92 := of_decide_eq_false he92.symm
           have h34 : z = 34 := of_decide_eq_true he34.symm
           have hn : unqF xs = some (acc, ys.drop (i + 1)) := by
             rw [← hinv, unqL_f ho, if_neg h92, if_pos h34]
           have hd : (xs.take xs.length).drop (i + 2) = ys.drop (i + 1) := by
             rw [List.take_length, ← hys, List.drop_drop]
             congr 1
             omega
           rw [hn, hd]
           exact ⟨rfl, fun w h => h.sup (by (repeat (first | exact Sup.refl | apply Sup.cons (by (repeat (first | exact Pick.head | apply Pick.tail | apply Pick.app))) | apply Sup.app | apply Sup.skip | apply Sup.skips)))⟩)
    case' hf =>
      intro h
      try (first | (exfalso; omega) | (cases h; done) | (exfalso; simp at h; done) | subst h)
      all_goals
        refine J.skip ?_
  all_goals refine JE.then_normal ?_
  all_goals
    refine J.seq ?_
    refine J.label ?_
    refine JE.then_normal ?_
    refine J.seq ?_
    refine J.seq ?_
    have hx34 : x = 34 := Decidable.of_not_not (of_decide_eq_false hbx.symm)
    have hxs : xs = 34 :: ys := by
      cases xs with
      | nil => simp at hx
      | cons y r =>
        rw [List.getElem?_cons_zero] at hx
        cases hx
        rw [← hys, hx34]
        rfl
    have hF : unqF xs = unqL false [] ys := by rw [hxs]; rfl
    have hxl : 1 ≤ xs.length := by rw [hxs]; simp
    refine J.region ?_
    refine JL.step (y_move rfl) rfl rfl rfl ?_
    refine JL.step (y_cutS (lo := 1) (hi := xs.length) hT hB rfl rfl rfl (.inr ⟨_, _, _, rfl, rfl, rfl⟩) (.inl ⟨rfl, rfl⟩) hxl (Nat.le_refl _)) rfl rfl rfl ?_
    rw [List.take_length, hys]
    refine JL.loud rfl (l_range hT rfl rfl rfl rfl (fun bi => ?_))
    refine JL.nil ?_
    refine JE.then_normal ?_
    refine J.block ?_
    refine J.pre (l' := own 5 1 (.slice none 0 0) 0 [] :: blk bi (.stringIter (strOf ys) 0) :: l) (fun w s => Sat.own_nil (e := 5) (size := 1) s) ?_
    refine J.loop (α := Nat × Bool × List Int × Option Addr × Nat) (fun s => s.1 ≤ ys.length ∧ s.2.2.1.length ≤ s.1 ∧ Bys s.2.2.1 ∧ unqL s.2.1 s.2.2.1 (ys.drop s.1) = unqF xs) (fun s => [(0, .string (strOf xs)), (5, .slice s.2.2.2.1 s.2.2.1.length s.2.2.2.2), (6, .bool s.2.1), (18, .pointer (some ⟨bi, 0, none⟩))]) (fun s => own 5 1 (.slice s.2.2.2.1 s.2.2.1.length s.2.2.2.2) s.2.2.1.length (s.2.2.1.map (Value.int .u8)) :: blk bi (.stringIter (strOf ys) s.1) :: l) (fun s => ys.length - s.1) (0, false, [], none, 0) ⟨Nat.zero_le _, Nat.le_refl _, Bys.nil, by rw [hF]; rfl⟩ ⟨rfl, rfl, rfl, rfl, trivial⟩ (fun w h => h) ?_
    rintro ⟨i, esc, acc, a2, c2⟩ ⟨hi, hal, haB, hinv⟩
    dsimp only at hi hal haB hinv ⊢
    refine J.seq ?_
    refine J.region ?_
    refine JL.loud rfl (l_nextC hyB rfl (by (repeat (first | exact Pick.head | apply Pick.tail | apply Pick.app))) rfl (fun hge => ?_) (fun c z q hc hz => ?_))
    all_goals (refine JL.step (y_extract rfl rfl) rfl rfl rfl ?_)
    all_goals refine JL.nil ?_
    all_goals refine JE.then_normal ?_
    all_goals
      refine J.seq ?_
      first | apply J.cond_dec rfl | apply J.cond rfl
      case' ht =>
        intro h
        try (first | (exfalso; omega) | (cases h; done) | (exfalso; simp at h; done) | subst h)
        all_goals
          refine J.skip ?_
      case' hf =>
        intro h
        try (first | (exfalso; omega) | (cases h; done) | (exfalso; simp at h; done) | subst h)
        all_goals
          refine J.exit ?_
          refine JE.then_exit ?_
          refine JE.then_exit ?_
          refine JE.block_exit ?_
          refine JE.then_normal ?_
          refine J.seq ?_
          refine J.region ?_
          refine JL.step (y_assign rfl) rfl rfl rfl (JL.step (y_assign rfl) rfl rfl rfl (JL.step (y_assign rfl) rfl rfl rfl ?_))
          refine JL.nil ?_
          refine JE.then_normal ?_
          refine J.ret ?_
          refine JE.scope_ret ?_
          refine JE.ret3 (.inl rfl) rfl rfl (by (first | exact RV.tmp rfl | exact RV.cell1 hT rfl rfl rfl (by (exact Rd1.row (by (repeat (first | exact Pick.head | apply Pick.tail | apply Pick.app))) (by rfl))) | exact RV.cellN hT rfl rfl rfl (by (first | exact RdN.rowAll (by (repeat (first | exact Pick.head | apply Pick.tail | apply Pick.app))) | exact RdN.own (by (repeat (first | exact Pick.head | apply Pick.tail | apply Pick.app))))) (by (first | rfl | assumption | (simp; done) | omega)))) (by (first | exact RV.tmp rfl | exact RV.cell1 hT rfl rfl rfl (by (exact Rd1.row (by (repeat (first | exact Pick.head | apply Pick.tail | apply Pick.app))) (by rfl))) | exact RV.cellN hT rfl rfl rfl (by (first | exact RdN.rowAll (by (repeat (first | exact Pick.head | apply Pick.tail | apply Pick.app))) | exact RdN.own (by (repeat (first | exact Pick.head | apply Pick.tail | apply Pick.app))))) (by (first | rfl | assumption | (simp; done) | omega)))) (by (first | exact RV.tmp rfl | exact RV.cell1 hT rfl rfl rfl (by (exact Rd1.row (by (repeat (first | exact Pick.head | apply Pick.tail | apply Pick.app))) (by rfl))) | exact RV.cellN hT rfl rfl rfl (by (first | exact RdN.rowAll (by (repeat (first | exact Pick.head | apply Pick.tail | apply Pick.app))) | exact RdN.own (by (repeat (first | exact Pick.head | apply Pick.tail | apply Pick.app))))) (by (first | rfl | assumption | (simp; done) | omega)))) ?_
          first
          | (have hxe : xs = [] := of_decide_eq_true hb0.symm
             rw [hxe, show unqF [] = none from rfl, hnone]
             exact ⟨rfl, fun w h => h⟩)
          | (have hx34 : ¬ x = 34 := of_decide_eq_true hbx.symm
             have hn : unqF xs = none := by
               cases xs with
               | nil => rfl
               | cons y r =>
                 rw [List.getElem?_cons_zero] at hx
                 cases hx
                 show (if _ then _ else _) = _
                 rw [if_neg hx34]
             rw [hn, hnone]
             exact ⟨rfl, fun w h => h⟩)
          | (have hn : unqF xs = none := by
               rw [← hinv, List.drop_eq_nil_of_le (by omega)]
               cases esc <;> rfl
             rw [hn, hnone]
             exact ⟨rfl, fun w h => h.sup (by (repeat (first | exact Sup.refl | apply Sup.cons (by (repeat (first | exact Pick.head | apply Pick.tail | apply Pick.app))) | apply Sup.app | apply Sup.skip | apply Sup.skips)))⟩)
          | (have ho : oddB c = true := by unfold oddB; simp; omega
             have hn : unqF xs = none := by
               rw [← hinv]
               cases esc <;> simp [unqL, ho]
             rw [hn, hnone]
             exact ⟨rfl, fun w h => h.sup (by (repeat (first | exact Sup.refl | apply Sup.cons (by (repeat (first | exact Pick.head | apply Pick.tail | apply Pick.app))) | apply Sup.app | apply Sup.skip | apply Sup.skips)))⟩)
          | (have h1 : ¬ z = 34 := of_decide_eq_true hn34.symm
             have h2 : ¬ z = 92 := of_decide_eq_true hn92.symm
             have hn : unqF xs = none := by
               rw [← hinv]
               simp [unqL, h1, h2]
             rw [hn, hnone]
             exact ⟨rfl, fun w h => h.sup (by (repeat (first | exact Sup.refl | apply Sup.cons (by (repeat (first | exact Pick.head | apply Pick.tail | apply Pick.app))) | apply Sup.app | apply Sup.skip | apply Sup.skips)))⟩)
          | (have h92 : ¬ z = 92 := of_decide_eq_false he92.symm
             have h34 : z = 34 := of_decide_eq_true he34.symm
             have hn : unqF xs = some (acc, ys.drop (i + 1)) := by
               rw [← hinv, unqL_f ho, if_neg h92, if_pos h34]
             have hd : (xs.take xs.length).drop (i + 2) = ys.drop (i + 1) := by
               rw [List.take_length, ← hys, List.drop_drop]
               congr 1
               omega
             rw [hn, hd]
             exact ⟨rfl, fun w h => h.sup (by (repeat (first | exact Sup.refl | apply Sup.cons (by (repeat (first | exact Pick.head | apply Pick.tail | apply Pick.app))) | apply Sup.app | apply Sup.skip | apply Sup.skips)))⟩)
      all_goals refine JE.then_normal ?_
      all_goals
        refine J.block ?_
        refine J.seq ?_
        have hlt := (List.getElem?_eq_some_iff.1 hc).1
        have hdr : ys.drop i = c :: ys.drop (i + 1) := by
          rw [List.drop_eq_getElem_cons hlt]
          rw [List.getElem?_eq_getElem hlt] at hc
          rw [Option.some.inj hc]
        rw [hdr] at hinv
        refine J.region ?_
        refine JL.step (y_extract rfl rfl) rfl rfl rfl (JL.step (y_extract rfl rfl) rfl rfl rfl (JL.step (y_assign rfl) rfl rfl rfl (JL.step (y_assign rfl) rfl rfl rfl ?_)))
        refine JL.nil ?_
        refine JE.then_normal ?_
        refine J.block ?_
        refine J.seq ?_
        refine J.region ?_
        refine JL.step (y_move rfl) rfl rfl rfl (JL.step (y_lss rfl rfl) rfl rfl rfl (JL.step (y_move rfl) rfl rfl rfl ?_))
        all_goals (first | (refine JL.gsplit_dec rfl rfl rfl (fun h => ?_) (fun h => ?_) <;> try (first | (exfalso; omega) | exact absurd rfl h)) | (refine JL.gsplit rfl rfl rfl (fun h => ?_) (fun h => ?_) <;> try (first | cases h | (exfalso; simp at h; done))) | skip)
        all_goals (first | refine JL.gskip rfl rfl rfl rfl rfl rfl ?_ | refine JL.gskipU rfl rfl rfl rfl rfl ?_ | refine JL.gstep rfl rfl rfl (y_move rfl) rfl rfl ?_)
        all_goals (first | refine JL.gskip rfl rfl rfl rfl rfl rfl ?_ | refine JL.gskipU rfl rfl rfl rfl rfl ?_ | refine JL.gstep rfl rfl rfl (y_gtr rfl rfl) rfl rfl ?_)
        all_goals (refine JL.step (y_pick rfl rfl rfl) rfl rfl rfl ?_)
        all_goals (refine JL.step (y_assign rfl) rfl rfl rfl ?_)
        all_goals refine JL.nil ?_
        all_goals refine JE.then_normal ?_
        all_goals
          first | apply J.cond_dec rfl | apply J.cond rfl
          case' ht =>
            intro h
            try (first | (exfalso; omega) | (cases h; done) | (exfalso; simp at h; done) | subst h)
            all_goals
              refine J.exit ?_
              refine JE.block_past rfl ?_
              refine JE.block_past rfl ?_
              refine JE.then_exit ?_
              refine JE.block_exit ?_
              refine JE.then_normal ?_
              refine J.seq ?_
              refine J.region ?_
              refine JL.step (y_assign rfl) rfl rfl rfl (JL.step (y_assign rfl) rfl rfl rfl (JL.step (y_assign rfl) rfl rfl rfl ?_))
              refine JL.nil ?_
              refine JE.then_normal ?_
              refine J.ret ?_
              refine JE.scope_ret ?_
              refine JE.ret3 (.inl rfl) rfl rfl (by (first | exact RV.tmp rfl | exact RV.cell1 hT rfl rfl rfl (by (exact Rd1.row (by (repeat (first | exact Pick.head | apply Pick.tail | apply Pick.app))) (by rfl))) | exact RV.cellN hT rfl rfl rfl (by (first | exact RdN.rowAll (by (repeat (first | exact Pick.head | apply Pick.tail | apply Pick.app))) | exact RdN.own (by (repeat (first | exact Pick.head | apply Pick.tail | apply Pick.app))))) (by (first | rfl | assumption | (simp; done) | omega)))) (by (first | exact RV.tmp rfl | exact RV.cell1 hT rfl rfl rfl (by (exact Rd1.row (by (repeat (first | exact Pick.head | apply Pick.tail | apply Pick.app))) (by rfl))) | exact RV.cellN hT rfl rfl rfl (by (first | exact RdN.rowAll (by (repeat (first | exact Pick.head | apply Pick.tail | apply Pick.app))) | exact RdN.own (by (repeat (first | exact Pick.head | apply Pick.tail | apply Pick.app))))) (by (first | rfl | assumption | (simp; done) | omega)))) (by (first | exact RV.tmp rfl | exact RV.cell1 hT rfl rfl rfl (by (exact Rd1.row (by (repeat (first | exact Pick.head | apply Pick.tail | apply Pick.app))) (by rfl))) | exact RV.cellN hT rfl rfl rfl (by (first | exact RdN.rowAll (by (repeat (first | exact Pick.head | apply Pick.tail | apply Pick.app))) | exact RdN.own (by (repeat (first | exact Pick.head | apply Pick.tail | apply Pick.app))))) (by (first | rfl | assumption | (simp; done) | omega)))) ?_
              first
              | (have hxe : xs = [] := of_decide_eq_true hb0.symm
                 rw [hxe, show unqF [] = none from rfl, hnone]
                 exact ⟨rfl, fun w h => h⟩)
              | (have hx34 : ¬ x = 34 := of_decide_eq_true hbx.symm
                 have hn : unqF xs = none := by
                   cases xs with
                   | nil => rfl
                   | cons y r =>
                     rw [List.getElem?_cons_zero] at hx
                     cases hx
                     show (if _ then _ else _) = _
                     rw [if_neg hx34]
                 rw [hn, hnone]
                 exact ⟨rfl, fun w h => h⟩)
              | (have hn : unqF xs = none := by
                   rw [← hinv, List.drop_eq_nil_of_le (by omega)]
                   cases esc <;> rfl
                 rw [hn, hnone]
                 exact ⟨rfl, fun w h => h.sup (by (repeat (first | exact Sup.refl | apply Sup.cons (by (repeat (first | exact Pick.head | apply Pick.tail | apply Pick.app))) | apply Sup.app | apply Sup.skip | apply Sup.skips)))⟩)
              | (have ho : oddB c = true := by unfold oddB; simp; omega
                 have hn : unqF xs = none := by
                   rw [← hinv]
                   cases esc <;> simp [unqL, ho]
                 rw [hn, hnone]
                 exact ⟨rfl, fun w h => h.sup (by (repeat (first | exact Sup.refl | apply Sup.cons (by (repeat (first | exact Pick.head | apply Pick.tail | apply Pick.app))) | apply Sup.app | apply Sup.skip | apply Sup.skips)))⟩)
              | (have h1 : ¬ z = 34 := of_decide_eq_true hn34.symm
                 have h2 : ¬ z = 92 := of_decide_eq_true hn92.symm
                 have hn : unqF xs = none := by
                   rw [← hinv]
                   simp [unqL, h1, h2]
                 rw [hn, hnone]
                 exact ⟨rfl, fun w h => h.sup (by (repeat (first | exact Sup.refl | apply Sup.cons (by (repeat (first | exact Pick.head | apply Pick.tail | apply Pick.app))) | apply Sup.app | apply Sup.skip | apply Sup.skips)))⟩)
              | (have h92 : ¬ z = 92 := of_decide_eq_false he92.symm
                 have h34 : z = 34 := of_decide_eq_true he34.symm
                 have hn : unqF xs = some (acc, ys.drop (i + 1)) := by
                   rw [← hinv, unqL_f ho, if_neg h92, if_pos h34]
                 have hd : (xs.take xs.length).drop (i + 2) = ys.drop (i + 1) := by
                   rw [List.take_length, ← hys, List.drop_drop]
                   congr 1
                   omega
                 rw [hn, hd]
                 exact ⟨rfl, fun w h => h.sup (by (repeat (first | exact Sup.refl | apply Sup.cons (by (repeat (first | exact Pick.head | apply Pick.tail | apply Pick.app))) | apply Sup.app | apply Sup.skip | apply Sup.skips)))⟩)
          case' hf =>
            intro h
            try (first | (exfalso; omega) | (cases h; done) | (exfalso; simp at h; done) | subst h)
            all_goals
              refine J.seq ?_
              obtain ⟨rfl, rfl⟩ : z = c ∧ q = i + 1 := by
                rcases hz with ⟨_, _, h1, h2⟩ | ⟨h1, h2, _⟩
                · exact ⟨h1, h2⟩
                · omega
              have ho : oddB z = false := by unfold oddB; simp; omega
              have hz32 : 32 ≤ z ∧ z ≤ 126 := by omega
              obtain ⟨n34, hn34⟩ : ∃ b, b = decide (¬ z = 34) := ⟨_, rfl⟩
              obtain ⟨n92, hn92⟩ : ∃ b, b = decide (¬ z = 92) := ⟨_, rfl⟩
              obtain ⟨e34, he34⟩ : ∃ b, b = decide (z = 34) := ⟨_, rfl⟩
              obtain ⟨e92, he92⟩ : ∃ b, b = decide (z = 92) := ⟨_, rfl⟩
              refine J.region ?_
              refine JL.step (y_move rfl) rfl rfl rfl (JL.step (y_assign rfl) rfl rfl rfl ?_)
              refine JL.nil ?_
              refine JE.then_normal ?_
              first | apply J.cond_dec rfl | apply J.cond rfl
              case' ht =>
                intro h
                try (first | (exfalso; omega) | (cases h; done) | (exfalso; simp at h; done) | subst h)
                all_goals
                  refine J.seqK (α := Unit) (fun _ => z = 34 ∨ z = 92) (fun _ => [(0, .string (strOf xs)), (5, .slice a2 acc.length c2), (6, .bool true), (8, .int .i32 z), (18, .pointer (some ⟨bi, 0, none⟩))]) (fun _ => own 5 1 (.slice a2 acc.length c2) acc.length (acc.map (Value.int .u8)) :: blk bi (.stringIter (strOf ys) (i + 1)) :: l) ?hj12 (fun hk12 => ?hf12)
                  case hf12 =>
                    refine J.seq ?_
                    refine J.region ?_
                    refine JL.step (y_move rfl) rfl rfl rfl ?_
                    refine JL.step (y_neqB rfl rfl hn34.symm) rfl rfl rfl ?_
                    refine JL.step (y_move rfl) rfl rfl rfl ?_
                    all_goals (first | (refine JL.gsplit_dec rfl rfl rfl (fun h => ?_) (fun h => ?_) <;> try (first | (exfalso; omega) | exact absurd rfl h)) | (refine JL.gsplit rfl rfl rfl (fun h => ?_) (fun h => ?_) <;> try (first | cases h | (exfalso; simp at h; done))) | skip)
                    all_goals (first | refine JL.gskip rfl rfl rfl rfl rfl rfl ?_ | refine JL.gskipU rfl rfl rfl rfl rfl ?_ | refine JL.gstep rfl rfl rfl (y_move rfl) rfl rfl ?_)
                    all_goals (first | refine JL.gskip rfl rfl rfl rfl rfl rfl ?_ | refine JL.gskipU rfl rfl rfl rfl rfl ?_ | refine JL.gstep rfl rfl rfl (y_neqB rfl rfl hn92.symm) rfl rfl ?_)
                    all_goals (refine JL.step (y_pick rfl rfl rfl) rfl rfl rfl ?_)
                    all_goals refine JL.nil ?_
                    all_goals refine JE.then_normal ?_
                    all_goals
                      first | apply J.cond_dec rfl | apply J.cond rfl
                      case' ht =>
                        intro h
                        try (first | (exfalso; omega) | (cases h; done) | (exfalso; simp at h; done) | subst h)
                        all_goals
                          refine J.exit ?_
                          refine JE.then_exit ?_
                          refine JE.block_past rfl ?_
                          refine JE.block_past rfl ?_
                          refine JE.then_exit ?_
                          refine JE.block_exit ?_
                          refine JE.then_normal ?_
                          refine J.seq ?_
                          refine J.region ?_
                          refine JL.step (y_assign rfl) rfl rfl rfl (JL.step (y_assign rfl) rfl rfl rfl (JL.step (y_assign rfl) rfl rfl rfl ?_))
                          refine JL.nil ?_
                          refine JE.then_normal ?_
                          refine J.ret ?_
                          refine JE.scope_ret ?_
                          refine JE.ret3 (.inl rfl) rfl rfl (by (first | exact RV.tmp rfl | exact RV.cell1 hT rfl rfl rfl (by (exact Rd1.row (by (repeat (first | exact Pick.head | apply Pick.tail | apply Pick.app))) (by rfl))) | exact RV.cellN hT rfl rfl rfl (by (first | exact RdN.rowAll (by (repeat (first | exact Pick.head | apply Pick.tail | apply Pick.app))) | exact RdN.own (by (repeat (first | exact Pick.head | apply Pick.tail | apply Pick.app))))) (by (first | rfl | assumption | (simp; done) | omega)))) (by (first | exact RV.tmp rfl | exact RV.cell1 hT rfl rfl rfl (by (exact Rd1.row (by (repeat (first | exact Pick.head | apply Pick.tail | apply Pick.app))) (by rfl))) | exact RV.cellN hT rfl rfl rfl (by (first | exact RdN.rowAll (by (repeat (first | exact Pick.head | apply Pick.tail | apply Pick.app))) | exact RdN.own (by (repeat (first | exact Pick.head | apply Pick.tail | apply Pick.app))))) (by (first | rfl | assumption | (simp; done) | omega)))) (by (first | exact RV.tmp rfl | exact RV.cell1 hT rfl rfl rfl (by (exact Rd1.row (by (repeat (first | exact Pick.head | apply Pick.tail | apply Pick.app))) (by rfl))) | exact RV.cellN hT rfl rfl rfl (by (first | exact RdN.rowAll (by (repeat (first | exact Pick.head | apply Pick.tail | apply Pick.app))) | exact RdN.own (by (repeat (first | exact Pick.head | apply Pick.tail | apply Pick.app))))) (by (first | rfl | assumption | (simp; done) | omega)))) ?_
                          first
                          | (have hxe : xs = [] := of_decide_eq_true hb0.symm
                             rw [hxe, show unqF [] = none from rfl, hnone]
                             exact ⟨rfl, fun w h => h⟩)
                          | (have hx34 : ¬ x = 34 := of_decide_eq_true hbx.symm
                             have hn : unqF xs = none := by
                               cases xs with
                               | nil => rfl
                               | cons y r =>
                                 rw [List.getElem?_cons_zero] at hx
                                 cases hx
                                 show (if _ then _ else _) = _
                                 rw [if_neg hx34]
                             rw [hn, hnone]
                             exact ⟨rfl, fun w h => h⟩)
                          | (have hn : unqF xs = none := by
                               rw [← hinv, List.drop_eq_nil_of_le (by omega)]
                               cases esc <;> rfl
                             rw [hn, hnone]
                             exact ⟨rfl, fun w h => h.sup (by (repeat (first | exact Sup.refl | apply Sup.cons (by (repeat (first | exact Pick.head | apply Pick.tail | apply Pick.app))) | apply Sup.app | apply Sup.skip | apply Sup.skips)))⟩)
                          | (have ho : oddB c = true := by unfold oddB; simp; omega
                             have hn : unqF xs = none := by
                               rw [← hinv]
                               cases esc <;> simp [unqL, ho]
                             rw [hn, hnone]
                             exact ⟨rfl, fun w h => h.sup (by (repeat (first | exact Sup.refl | apply Sup.cons (by (repeat (first | exact Pick.head | apply Pick.tail | apply Pick.app))) | apply Sup.app | apply Sup.skip | apply Sup.skips)))⟩)
                          | (have h1 : ¬ z = 34 := of_decide_eq_true hn34.symm
                             have h2 : ¬ z = 92 := of_decide_eq_true hn92.symm
                             have hn : unqF xs = none := by
                               rw [← hinv]
                               simp [unqL, h1, h2]
                             rw [hn, hnone]
                             exact ⟨rfl, fun w h => h.sup (by (repeat (first | exact Sup.refl | apply Sup.cons (by (repeat (first | exact Pick.head | apply Pick.tail | apply Pick.app))) | apply Sup.app | apply Sup.skip | apply Sup.skips)))⟩)
                          | (have h92 : ¬ z = 92 := of_decide_eq_false he92.symm
                             have h34 : z = 34 := of_decide_eq_true he34.symm
                             have hn : unqF xs = some (acc, ys.drop (i + 1)) := by
                               rw [← hinv, unqL_f ho, if_neg h92, if_pos h34]
                             have hd : (xs.take xs.length).drop (i + 2) = ys.drop (i + 1) := by
                               rw [List.take_length, ← hys, List.drop_drop]
                               congr 1
                               omega
                             rw [hn, hd]
                             exact ⟨rfl, fun w h => h.sup (by (repeat (first | exact Sup.refl | apply Sup.cons (by (repeat (first | exact Pick.head | apply Pick.tail | apply Pick.app))) | apply Sup.app | apply Sup.skip | apply Sup.skips)))⟩)
                      case' hf =>
                        intro h
                        try (first | (exfalso; omega) | (cases h; done) | (exfalso; simp at h; done) | subst h)
                        all_goals
                          refine J.skip ?_
                    all_goals refine JE.then_normal ?_
                    all_goals
                      exact J.closeK hk12 () (by
                        first
                        | exact .inl (Decidable.of_not_not (of_decide_eq_false hn34.symm))
                        | exact .inr (Decidable.of_not_not (of_decide_eq_false hn92.symm))) ⟨rfl, rfl, rfl, rfl, rfl, trivial⟩ (fun w h => h.sup (by (repeat (first | exact Sup.refl | apply Sup.cons (by (repeat (first | exact Pick.head | apply Pick.tail | apply Pick.app))) | apply Sup.app | apply Sup.skip | apply Sup.skips))))
                  rintro _ hor
                  try dsimp only
                  refine J.seq ?_
                  refine J.region ?_
                  refine JL.step (y_assign rfl) rfl rfl rfl ?_
                  refine JL.nil ?_
                  refine JE.then_normal ?_
                  refine J.region ?_
                  refine JL.step (y_move rfl) rfl rfl rfl (JL.step (y_move rfl) rfl rfl rfl ?_)
                  refine JL.step (y_conv (m := z) hT rfl rfl rfl rfl (by rw [IntKind.wrap_u8]; omega)) rfl rfl rfl ?_
                  refine JL.loud rfl (l_buildSliceP hT rfl rfl rfl rfl rfl rfl rfl (by (first | exact fill_one rfl (by first | assumption | rfl | (simp; done)) | rfl | simp)) rfl (fun b1 => ?_))
                  refine JL.loud rfl (l_append hT rfl rfl rfl rfl rfl rfl rfl rfl (by (repeat (first | exact Pick.head | apply Pick.tail | apply Pick.app))) (by (first | exact RdN.rowAll (by (repeat (first | exact Pick.head | apply Pick.tail | apply Pick.app))) | exact RdN.own (by (repeat (first | exact Pick.head | apply Pick.tail | apply Pick.app))))) (by (first | rfl | assumption | (simp; done) | omega)) (by (first | assumption | exact ones_of rfl | exact encW_one _ | exact encB_one _ | (intro u hu; simp at hu; rcases hu with rfl | rfl <;> rfl) | (intro u hu; simp at hu; subst hu; rfl) | simp)) (by (first | exact Nat.le_trans (Nat.mul_le_mul_left _ (Nat.le_of_ble_eq_true rfl : _ ≤ 4096)) (by omega) | exact Nat.le_trans (Nat.mul_le_mul_left _ (Nat.le_of_ble_eq_true rfl : _ ≤ 1)) (by omega))) (by (first | omega | exact Nat.le_of_ble_eq_true rfl | decide | (simp; omega))) rfl (fun ab2 cb2 hb2 => ?_))
                  refine JL.step (y_assign rfl) rfl rfl rfl ?_
                  refine JL.nil ?_
              case' hf =>
                intro h
                try (first | (exfalso; omega) | (cases h; done) | (exfalso; simp at h; done) | subst h)
                all_goals
                  refine J.seq ?_
                  refine J.region ?_
                  refine JL.step (y_move rfl) rfl rfl rfl ?_
                  refine JL.step (y_eqlB rfl rfl he92.symm) rfl rfl rfl ?_
                  refine JL.step (y_assign rfl) rfl rfl rfl ?_
                  refine JL.nil ?_
                  refine JE.then_normal ?_
                  first | apply J.cond_dec rfl | apply J.cond rfl
                  case' ht =>
                    intro h
                    try (first | (exfalso; omega) | (cases h; done) | (exfalso; simp at h; done) | subst h)
                    all_goals
                      refine J.region ?_
                      refine JL.step (y_assign rfl) rfl rfl rfl ?_
                      refine JL.nil ?_
                  case' hf =>
                    intro h
                    try (first | (exfalso; omega) | (cases h; done) | (exfalso; simp at h; done) | subst h)
                    all_goals
                      refine J.seq ?_
                      refine J.region ?_
                      refine JL.step (y_move rfl) rfl rfl rfl ?_
                      refine JL.step (y_eqlB rfl rfl he34.symm) rfl rfl rfl ?_
                      refine JL.step (y_assign rfl) rfl rfl rfl ?_
                      refine JL.nil ?_
                      refine JE.then_normal ?_
                      first | apply J.cond_dec rfl | apply J.cond rfl
                      case' ht =>
                        intro h
                        try (first | (exfalso; omega) | (cases h; done) | (exfalso; simp at h; done) | subst h)
                        all_goals
                          refine J.seq ?_
                          refine J.fact (fun w s => Sat.own_at (s.pick (Pick.tail Pick.head))) fun oo => ?_
                          refine J.draw _ _ [(0, .q), (1, .q), (2, .q), (3, .q), (4, .q), (5, .q), (6, .q), (7, .q), (8, .q)] mixed (by kernel_rfl) (Split.nil) ?_
                          refine JM.quiet rfl rfl rfl rfl (fun m => y_move rfl) ?_
                          refine JM.quiet rfl rfl rfl rfl (fun m => y_convStringL (xs := acc) hT rfl rfl rfl rfl rfl rfl rfl ((oo.inl (Pick.tail Pick.head)).app m) rfl) ?_
                          refine JM.quiet rfl rfl rfl rfl (fun m => y_move rfl) ?_
                          refine JM.quiet rfl rfl rfl rfl (fun m => y_move rfl) ?_
                          refine JM.quiet rfl rfl rfl rfl (fun m => y_add (m := ((i + 2 : Nat) : Int)) rfl rfl (by rw [IntKind.wrap_i64]; omega)) ?_
                          refine JM.quiet rfl rfl rfl rfl (fun m => y_cutS (lo := i + 2) (hi := xs.length) hT hB rfl rfl rfl (.inr ⟨_, _, _, rfl, rfl, rfl⟩) (.inl ⟨rfl, rfl⟩) (by omega) (Nat.le_refl _)) ?_
                          refine JM.quiet rfl rfl rfl rfl (fun m => y_assign rfl) ?_
                          refine JM.quiet rfl rfl rfl rfl (fun m => y_assign rfl) ?_
                          refine JM.quiet rfl rfl rfl rfl (fun m => y_assign rfl) ?_
                          refine JM.nil ?_
                          refine JE.then_normal ?_
                          refine J.ret ?_
                          refine JE.block_ret ?_
                          refine JE.block_ret ?_
                          refine JE.then_ret ?_
                          refine JE.block_ret ?_
                          refine JE.then_ret ?_
                          refine JE.scope_ret ?_
                          refine JE.ret3 (.inl rfl) rfl rfl (by (first | exact RV.tmp rfl | exact RV.cell1 hT rfl rfl rfl (by (exact Rd1.row (by (repeat (first | exact Pick.head | apply Pick.tail | apply Pick.app))) (by rfl))) | exact RV.cellN hT rfl rfl rfl (by (first | exact RdN.rowAll (by (repeat (first | exact Pick.head | apply Pick.tail | apply Pick.app))) | exact RdN.own (by (repeat (first | exact Pick.head | apply Pick.tail | apply Pick.app))))) (by (first | rfl | assumption | (simp; done) | omega)))) (by (first | exact RV.tmp rfl | exact RV.cell1 hT rfl rfl rfl (by (exact Rd1.row (by (repeat (first | exact Pick.head | apply Pick.tail | apply Pick.app))) (by rfl))) | exact RV.cellN hT rfl rfl rfl (by (first | exact RdN.rowAll (by (repeat (first | exact Pick.head | apply Pick.tail | apply Pick.app))) | exact RdN.own (by (repeat (first | exact Pick.head | apply Pick.tail | apply Pick.app))))) (by (first | rfl | assumption | (simp; done) | omega)))) (by (first | exact RV.tmp rfl | exact RV.cell1 hT rfl rfl rfl (by (exact Rd1.row (by (repeat (first | exact Pick.head | apply Pick.tail | apply Pick.app))) (by rfl))) | exact RV.cellN hT rfl rfl rfl (by (first | exact RdN.rowAll (by (repeat (first | exact Pick.head | apply Pick.tail | apply Pick.app))) | exact RdN.own (by (repeat (first | exact Pick.head | apply Pick.tail | apply Pick.app))))) (by (first | rfl | assumption | (simp; done) | omega)))) ?_
                          first
                          | (have hxe : xs = [] := of_decide_eq_true hb0.symm
                             rw [hxe, show unqF [] = none from rfl, hnone]
                             exact ⟨rfl, fun w h => h⟩)
                          | (have hx34 : ¬ x = 34 := of_decide_eq_true hbx.symm
                             have hn : unqF xs = none := by
                               cases xs with
                               | nil => rfl
                               | cons y r =>
                                 rw [List.getElem?_cons_zero] at hx
                                 cases hx
                                 show (if _ then _ else _) = _
                                 rw [if_neg hx34]
                             rw [hn, hnone]
                             exact ⟨rfl, fun w h => h⟩)
                          | (have hn : unqF xs = none := by
                               rw [← hinv, List.drop_eq_nil_of_le (by omega)]
                               cases esc <;> rfl
                             rw [hn, hnone]
                             exact ⟨rfl, fun w h => h.sup (by (repeat (first | exact Sup.refl | apply Sup.cons (by (repeat (first | exact Pick.head | apply Pick.tail | apply Pick.app))) | apply Sup.app | apply Sup.skip | apply Sup.skips)))⟩)
                          | (have ho : oddB c = true := by unfold oddB; simp; omega
                             have hn : unqF xs = none := by
                               rw [← hinv]
                               cases esc <;> simp [unqL, ho]
                             rw [hn, hnone]
                             exact ⟨rfl, fun w h => h.sup (by (repeat (first | exact Sup.refl | apply Sup.cons (by (repeat (first | exact Pick.head | apply Pick.tail | apply Pick.app))) | apply Sup.app | apply Sup.skip | apply Sup.skips)))⟩)
                          | (have h1 : ¬ z = 34 := of_decide_eq_true hn34.symm
                             have h2 : ¬ z = 92 := of_decide_eq_true hn92.symm
                             have hn : unqF xs = none := by
                               rw [← hinv]
                               simp [unqL, h1, h2]
                             rw [hn, hnone]
                             exact ⟨rfl, fun w h => h.sup (by (repeat (first | exact Sup.refl | apply Sup.cons (by (repeat (first | exact Pick.head | apply Pick.tail | apply Pick.app))) | apply Sup.app | apply Sup.skip | apply Sup.skips)))⟩)
                          | (have h92 : ¬ z = 92 := of_decide_eq_false he92.symm
                             have h34 : z = 34 := of_decide_eq_true he34.symm
                             have hn : unqF xs = some (acc, ys.drop (i + 1)) := by
                               rw [← hinv, unqL_f ho, if_neg h92, if_pos h34]
                             have hd : (xs.take xs.length).drop (i + 2) = ys.drop (i + 1) := by
                               rw [List.take_length, ← hys, List.drop_drop]
                               congr 1
                               omega
                             rw [hn, hd]
                             exact ⟨rfl, fun w h => h.sup (by (repeat (first | exact Sup.refl | apply Sup.cons (by (repeat (first | exact Pick.head | apply Pick.tail | apply Pick.app))) | apply Sup.app | apply Sup.skip | apply Sup.skips)))⟩)
                      case' hf =>
                        intro h
                        try (first | (exfalso; omega) | (cases h; done) | (exfalso; simp at h; done) | subst h)
                        all_goals
                          refine J.region ?_
                          refine JL.step (y_move rfl) rfl rfl rfl (JL.step (y_move rfl) rfl rfl rfl ?_)
                          refine JL.step (y_conv (m := z) hT rfl rfl rfl rfl (by rw [IntKind.wrap_u8]; omega)) rfl rfl rfl ?_
                          refine JL.loud rfl (l_buildSliceP hT rfl rfl rfl rfl rfl rfl rfl (by (first | exact fill_one rfl (by first | assumption | rfl | (simp; done)) | rfl | simp)) rfl (fun b3 => ?_))
                          refine JL.loud rfl (l_append hT rfl rfl rfl rfl rfl rfl rfl rfl (by (repeat (first | exact Pick.head | apply Pick.tail | apply Pick.app))) (by (first | exact RdN.rowAll (by (repeat (first | exact Pick.head | apply Pick.tail | apply Pick.app))) | exact RdN.own (by (repeat (first | exact Pick.head | apply Pick.tail | apply Pick.app))))) (by (first | rfl | assumption | (simp; done) | omega)) (by (first | assumption | exact ones_of rfl | exact encW_one _ | exact encB_one _ | (intro u hu; simp at hu; rcases hu with rfl | rfl <;> rfl) | (intro u hu; simp at hu; subst hu; rfl) | simp)) (by (first | exact Nat.le_trans (Nat.mul_le_mul_left _ (Nat.le_of_ble_eq_true rfl : _ ≤ 4096)) (by omega) | exact Nat.le_trans (Nat.mul_le_mul_left _ (Nat.le_of_ble_eq_true rfl : _ ≤ 1)) (by omega))) (by (first | omega | exact Nat.le_of_ble_eq_true rfl | decide | (simp; omega))) rfl (fun ab4 cb4 hb4 => ?_))
                          refine JL.step (y_assign rfl) rfl rfl rfl ?_
                          refine JL.nil ?_
        all_goals refine JE.block_normal ?_
        all_goals refine JE.block_normal ?_
    all_goals
      first
      | (have zz := hor
         have hst : unqL false (acc ++ [z]) (ys.drop (i + 1)) = unqF xs := by
           rw [← hinv, unqL_t ho hor]
         exact JE.round (s := (i, true, acc, a2, c2)) (i + 1, false, acc ++ [z], _, _) ⟨by dsimp only; omega, by dsimp only; rw [List.length_append, List.length_singleton]; omega, haB.app (Bys.cons (by omega) (by omega) Bys.nil), hst⟩ ⟨rfl, by dsimp only; rw [List.length_append]; rfl, rfl, rfl, trivial⟩ (fun w h => by dsimp only; rw [List.length_append, List.map_append]; exact h.sup (by (repeat (first | exact Sup.refl | apply Sup.cons (by (repeat (first | exact Pick.head | apply Pick.tail | apply Pick.app))) | apply Sup.app | apply Sup.skip | apply Sup.skips)))) (by dsimp only; omega))
      | (have h92 : z = 92 := of_decide_eq_true he92.symm
         have hst : unqL true acc (ys.drop (i + 1)) = unqF xs := by
           rw [← hinv, unqL_f ho, if_pos h92]
         exact JE.round (s := (i, false, acc, a2, c2)) (i + 1, true, acc, a2, c2) ⟨by dsimp only; omega, by dsimp only; omega, haB, hst⟩ ⟨rfl, rfl, rfl, rfl, trivial⟩ (fun w h => h.sup (by (repeat (first | exact Sup.refl | apply Sup.cons (by (repeat (first | exact Pick.head | apply Pick.tail | apply Pick.app))) | apply Sup.app | apply Sup.skip | apply Sup.skips)))) (by dsimp only; omega))
      | (have h92 : ¬ z = 92 := of_decide_eq_false he92.symm
         have h34 : ¬ z = 34 := of_decide_eq_false he34.symm
         have hst : unqL false (acc ++ [z]) (ys.drop (i + 1)) = unqF xs := by
           rw [← hinv, unqL_f ho, if_neg h92, if_neg h34]
         exact JE.round (s := (i, false, acc, a2, c2)) (i + 1, false, acc ++ [z], _, _) ⟨by dsimp only; omega, by dsimp only; rw [List.length_append, List.length_singleton]; omega, haB.app (Bys.cons (by omega) (by omega) Bys.nil), hst⟩ ⟨rfl, by dsimp only; rw [List.length_append]; rfl, rfl, rfl, trivial⟩ (fun w h => by dsimp only; rw [List.length_append, List.map_append]; exact h.sup (by (repeat (first | exact Sup.refl | apply Sup.cons (by (repeat (first | exact Pick.head | apply Pick.tail | apply Pick.app))) | apply Sup.app | apply Sup.skip | apply Sup.skips)))) (by dsimp only; omega))
  all_goals
    refine JE.ret3 (.inr rfl) rfl rfl (by (first | exact RV.tmp rfl | exact RV.cell1 hT rfl rfl rfl (by (exact Rd1.row (by (repeat (first | exact Pick.head | apply Pick.tail | apply Pick.app))) (by rfl))) | exact RV.cellN hT rfl rfl rfl (by (first | exact RdN.rowAll (by (repeat (first | exact Pick.head | apply Pick.tail | apply Pick.app))) | exact RdN.own (by (repeat (first | exact Pick.head | apply Pick.tail | apply Pick.app))))) (by (first | rfl | assumption | (simp; done) | omega)))) (by (first | exact RV.tmp rfl | exact RV.cell1 hT rfl rfl rfl (by (exact Rd1.row (by (repeat (first | exact Pick.head | apply Pick.tail | apply Pick.app))) (by rfl))) | exact RV.cellN hT rfl rfl rfl (by (first | exact RdN.rowAll (by (repeat (first | exact Pick.head | apply Pick.tail | apply Pick.app))) | exact RdN.own (by (repeat (first | exact Pick.head | apply Pick.tail | apply Pick.app))))) (by (first | rfl | assumption | (simp; done) | omega)))) (by (first | exact RV.tmp rfl | exact RV.cell1 hT rfl rfl rfl (by (exact Rd1.row (by (repeat (first | exact Pick.head | apply Pick.tail | apply Pick.app))) (by rfl))) | exact RV.cellN hT rfl rfl rfl (by (first | exact RdN.rowAll (by (repeat (first | exact Pick.head | apply Pick.tail | apply Pick.app))) | exact RdN.own (by (repeat (first | exact Pick.head | apply Pick.tail | apply Pick.app))))) (by (first | rfl | assumption | (simp; done) | omega)))) ?_
    first
    | (have hxe : xs = [] := of_decide_eq_true hb0.symm
       rw [hxe, show unqF [] = none from rfl, hnone]
       exact ⟨rfl, fun w h => h⟩)
    | (have hx34 : ¬ x = 34 := of_decide_eq_true hbx.symm
       have hn : unqF xs = none := by
         cases xs with
         | nil => rfl
         | cons y r =>
           rw [List.getElem?_cons_zero] at hx
           cases hx
           show (if _ then _ else _) = _
           rw [if_neg hx34]
       rw [hn, hnone]
       exact ⟨rfl, fun w h => h⟩)
    | (have hn : unqF xs = none := by
         rw [← hinv, List.drop_eq_nil_of_le (by omega)]
         cases esc <;> rfl
       rw [hn, hnone]
       exact ⟨rfl, fun w h => h.sup (by (repeat (first | exact Sup.refl | apply Sup.cons (by (repeat (first | exact Pick.head | apply Pick.tail | apply Pick.app))) | apply Sup.app | apply Sup.skip | apply Sup.skips)))⟩)
    | (have ho : oddB c = true := by unfold oddB; simp; omega
       have hn : unqF xs = none := by
         rw [← hinv]
         cases esc <;> simp [unqL, ho]
       rw [hn, hnone]
       exact ⟨rfl, fun w h => h.sup (by (repeat (first | exact Sup.refl | apply Sup.cons (by (repeat (first | exact Pick.head | apply Pick.tail | apply Pick.app))) | apply Sup.app | apply Sup.skip | apply Sup.skips)))⟩)
    | (have h1 : ¬ z = 34 := of_decide_eq_true hn34.symm
       have h2 : ¬ z = 92 := of_decide_eq_true hn92.symm
       have hn : unqF xs = none := by
         rw [← hinv]
         simp [unqL, h1, h2]
       rw [hn, hnone]
       exact ⟨rfl, fun w h => h.sup (by (repeat (first | exact Sup.refl | apply Sup.cons (by (repeat (first | exact Pick.head | apply Pick.tail | apply Pick.app))) | apply Sup.app | apply Sup.skip | apply Sup.skips)))⟩)
    | (have h92 : ¬ z = 92 := of_decide_eq_false he92.symm
       have h34 : z = 34 := of_decide_eq_true he34.symm
       have hn : unqF xs = some (acc, ys.drop (i + 1)) := by
         rw [← hinv, unqL_f ho, if_neg h92, if_pos h34]
       have hd : (xs.take xs.length).drop (i + 2) = ys.drop (i + 1) := by
         rw [List.take_length, ← hys, List.drop_drop]
         congr 1
         omega
       rw [hn, hd]
       exact ⟨rfl, fun w h => h.sup (by (repeat (first | exact Sup.refl | apply Sup.cons (by (repeat (first | exact Pick.head | apply Pick.tail | apply Pick.app))) | apply Sup.app | apply Sup.skip | apply Sup.skips)))⟩)
end
end
section
open Go Go.SL
section
theorem hexC_at : ∀ d : Fin 16, hexS[d.val]? = some (hexC d.val) := by decide
theorem hexC_at' {d : Int} (h0 : 0 ≤ d) (h1 : d ≤ 15) : hexS[d.toNat]? = some (hexC d) := by
  have h := hexC_at ⟨d.toNat, by omega⟩
  simp only [show ((d.toNat : Nat) : Int) = d by omega] at h
  exact h
theorem and15 : ∀ x : Fin 256, bitsE .and .u8 (x.val : Int) 15 = some ((x.val : Int) % 16) := by decide +kernel
theorem and15' {x : Int} (h0 : 0 ≤ x) (h1 : x ≤ 255) : bitsE .and .u8 x 15 = some (x % 16) := by
  have h := and15 ⟨x.toNat, by omega⟩
  simp only [show ((x.toNat : Nat) : Int) = x by omega] at h
  exact h
theorem shr4 {x : Int} (h0 : 0 ≤ x) : x.fdiv (2 ^ (min (4 : Int).toNat IntKind.u8.bits)) = x / 16 := by
  show Int.fdiv x (2 ^ 4) = x / 16
  rw [Int.fdiv_eq_ediv_of_nonneg _ (by decide)]
  rfl
theorem hexC_byte {d : Int} (h0 : 0 ≤ d) (h1 : d ≤ 15) : 48 ≤ hexC d ∧ hexC d ≤ 102 := by unfold hexC; split <;> omega
theorem hexT_length (ks : List Int) : (hexT ks).length = 2 * ks.length := by
  unfold hexT
  induction ks with
  | nil => rfl
  | cons k ks ih => rw [List.flatMap_cons, List.length_append, ih, List.length_cons, List.length_cons, List.length_cons, List.length_nil]; omega
theorem hexT_bys {ks : List Int} (h : Bys ks) : Bys (hexT ks) := by
  intro x hx
  unfold hexT at hx
  obtain ⟨y, hy, h2⟩ := List.mem_flatMap.1 hx
  have := h y hy
  simp only [List.mem_cons, List.not_mem_nil, or_false] at h2
  rcases h2 with rfl | rfl
  · have := hexC_byte (d := y / 16) (by omega) (by omega); omega
  · have := hexC_byte (d := y % 16) (by omega) (by omega); omega
theorem hexT_step {ks : List Int} {i : Nat} {x : Int} (h : ks[i]? = some x) : hexT (ks.take (i + 1)) = hexT (ks.take i) ++ [hexC (x / 16), hexC (x % 16)] := by
  unfold hexT
  rw [List.take_add_one, h, Option.toList_some, List.flatMap_append]
  simp
end
section
attribute [local irreducible] J JL JE JM LS Y Fc RV Code.wp wpList Code.wpIn wpListIn
attribute [local irreducible] Yc strOf
variable (E : World)
theorem itext_spec (p : Option Addr) (n c : Nat) (ks : List Int) (l : List HProp) (hn : ks.length = n) (hn8 : n ≤ 1000) (hB : Bys ks) (hin : InL l p n c (ints .u8 ks)) :
    Fc prog E 88 [.slice p n c].toArray l (fun v l' => v = .string (strOf (hexT ks)) ∧ l' = l) := by
  refine Fc.eqs ?_
  have eS : (⟨#[48, 49, 50, 51, 52, 53, 54, 55, 56, 57, 97, 98, 99, 100, 101, 102]⟩ : ByteArray) = strOf hexS := by unfold strOf; rfl
  refine Fc.of_body (c := ?codeC) Tryz.func88 ?hb Tryz.ntmps88 ?hl ?_
  case hb => exact rfl
  case hl => exact rfl
  refine J.seq ?_
  refine J.region ?_
  refine JL.step (y_assign rfl) rfl rfl rfl ?_
  refine JL.nil ?_
  refine JE.then_normal ?_
  refine J.seq ?_
  refine J.region ?_
  refine JL.step (y_assign rfl) rfl rfl rfl ?_
  refine JL.nil ?_
  refine JE.then_normal ?_
  refine J.seq ?_
  refine J.seq ?_
  refine J.region ?_
  refine JL.step (y_move rfl) rfl rfl rfl (JL.step (y_len_slice hT rfl rfl rfl) rfl rfl rfl (JL.step (y_move rfl) rfl rfl rfl ?_))
  refine JL.nil ?_
  refine JE.then_normal ?_
  refine J.block ?_
  refine J.pre (l' := own 5 1 (.slice none 0 0) 0 [] :: l) (fun w s => (Sat.own_nil (e := 5) (size := 1) s).sup (by (repeat (first | exact Sup.refl | apply Sup.cons (by (repeat (first | exact Pick.head | apply Pick.tail | apply Pick.app))) | apply Sup.app | apply Sup.skip | apply Sup.skips)))) ?_
  refine J.loop (α := Nat × Option Addr × Nat) (fun s => s.1 ≤ n) (fun s => [(3, .slice s.2.1 (2 * s.1) s.2.2), (6, .slice p n c), (7, .int .i64 n), (8, .int .i64 s.1)]) (fun s => own 5 1 (.slice s.2.1 (2 * s.1) s.2.2) (2 * s.1) (ints .u8 (hexT (ks.take s.1))) :: l) (fun s => n - s.1) (0, none, 0) (Nat.zero_le _) ⟨rfl, rfl, rfl, rfl, trivial⟩ (fun w h => h) ?_
  rintro ⟨i, a2, c2⟩ hi
  dsimp only at hi ⊢
  refine J.seq ?_
  refine J.region ?_
  refine JL.step (y_lss rfl rfl) rfl rfl rfl ?_
  refine JL.nil ?_
  refine JE.then_normal ?_
  refine J.seq ?_
  first | apply J.cond_dec rfl | apply J.cond rfl
  case' ht =>
    intro h
    try (first | (exfalso; omega) | (cases h; done) | (exfalso; simp at h; done) | subst h)
    all_goals
      refine J.skip ?_
  case' hf =>
    intro h
    try (first | (exfalso; omega) | (cases h; done) | (exfalso; simp at h; done) | subst h)
    all_goals
      refine J.exit ?_
      refine JE.then_exit ?_
      refine JE.then_exit ?_
      refine JE.block_exit ?_
      refine JE.then_normal ?_
      refine J.seq ?_
      obtain rfl : i = n := by omega
      rw [List.take_of_length_le (by omega)]
      refine J.fact (fun w s => Sat.own_at (s.pick Pick.head)) fun oo => ?_
      refine J.region ?_
      refine JL.step (y_move rfl) rfl rfl rfl ?_
      refine JL.step (y_convStringL (xs := hexT ks) hT rfl rfl rfl rfl rfl rfl rfl (oo.inl Pick.head) (by rw [hexT_length]; omega)) rfl rfl rfl ?_
      refine JL.step (y_assign rfl) rfl rfl rfl ?_
      refine JL.nil ?_
      refine JE.then_normal ?_
      refine J.ret ?_
      refine JE.ret1 (.inl rfl) rfl rfl (by (first | exact RV.tmp rfl | exact RV.cell1 hT rfl rfl rfl (by (exact Rd1.row (by (repeat (first | exact Pick.head | apply Pick.tail | apply Pick.app))) (by rfl))) | exact RV.cellN hT rfl rfl rfl (by (first | exact RdN.rowAll (by (repeat (first | exact Pick.head | apply Pick.tail | apply Pick.app))) | exact RdN.own (by (repeat (first | exact Pick.head | apply Pick.tail | apply Pick.app))))) (by (first | rfl | assumption | (simp; done) | omega)))) ?_
      exact ⟨rfl, fun w h => h.sup (by (repeat (first | exact Sup.refl | apply Sup.cons (by (repeat (first | exact Pick.head | apply Pick.tail | apply Pick.app))) | apply Sup.app | apply Sup.skip | apply Sup.skips)))⟩
  all_goals refine JE.then_normal ?_
  all_goals
    refine J.seq ?_
    refine J.block ?_
    refine J.seq ?_
    have hlt : i < n := by omega
    obtain ⟨x, hh⟩ : ∃ x, ks[i]? = some x := ⟨ks[i]'(by omega), List.getElem?_eq_getElem _⟩
    obtain ⟨hx0, hx1⟩ := hB.get hh
    have hst := hexT_step hh
    have hq := hexC_at' (d := x / 16) (by omega) (by omega)
    have hr := hexC_at' (d := x % 16) (by omega) (by omega)
    obtain ⟨g, o, rfl, hrd⟩ := hin.addr (by omega)
    refine J.region ?_
    refine JL.step (y_indexAddr_slice hT rfl rfl rfl rfl rfl (by (first | omega | exact Nat.le_of_ble_eq_true rfl | decide | (simp; omega))) (by (first | omega | exact Nat.le_of_ble_eq_true rfl | decide | (simp; omega)))) rfl rfl rfl ?_
    refine JL.step (y_load1 hT rfl rfl rfl (Rd1.elem ((hrd []).cons _) (by rw [Int.toNat_natCast]; unfold ints; rw [List.getElem?_map, hh]; rfl))) rfl rfl rfl ?_
    refine JL.step (y_assign rfl) rfl rfl rfl ?_
    refine JL.nil ?_
    refine JE.then_normal ?_
    refine J.draw _ _ [(0, .q), (1, .q), (2, .q), (3, .q), (4, .q), (5, .q), (6, .q), (7, .n), (8, .l), (9, .q)] mixed (by kernel_rfl) (Split.cons (Pick.head) (Split.nil)) ?_
    refine JM.quiet rfl rfl rfl rfl (fun m => y_move rfl) ?_
    refine JM.quiet rfl rfl rfl rfl (fun m => y_move rfl) ?_
    refine JM.quiet rfl rfl rfl rfl (fun m => y_shr rfl rfl (by decide) (shr4 hx0)) ?_
    refine JM.quiet rfl rfl rfl rfl (fun m => y_ixS (xs := hexS) hT hexS_bys rfl rfl (by rw [eS]; rfl) rfl (by omega) hq) ?_
    refine JM.quiet rfl rfl rfl rfl (fun m => y_move rfl) ?_
    refine JM.quiet rfl rfl rfl rfl (fun m => y_bits rfl rfl (and15' hx0 hx1)) ?_
    refine JM.quiet rfl rfl rfl rfl (fun m => y_ixS (xs := hexS) hT hexS_bys rfl rfl (by rw [eS]; rfl) rfl (by omega) hr) ?_
    refine JM.lay rfl rfl rfl rfl (fun a hf => lays_buildSlice (cs := [.int .u8 (hexC (x / 16)), .int .u8 (hexC (x % 16))]) hT rfl rfl rfl rfl hf rfl rfl rfl (fill_two (cs := [_]) (ds := [_]) rfl rfl rfl rfl)) (fun b1 => ?_)
    refine JM.loud rfl rfl (fun fr => l_append hT rfl rfl rfl rfl rfl rfl rfl rfl (by (repeat (first | exact Pick.head | apply Pick.tail | apply Pick.app))) (by (first | exact RdN.rowAll (by (repeat (first | exact Pick.head | apply Pick.tail | apply Pick.app))) | exact RdN.own (by (repeat (first | exact Pick.head | apply Pick.tail | apply Pick.app))))) (by (first | rfl | assumption | (simp; done) | omega)) (by (first | assumption | exact ones_of rfl | exact encW_one _ | exact encB_one _ | (intro u hu; simp at hu; rcases hu with rfl | rfl <;> rfl) | (intro u hu; simp at hu; subst hu; rfl) | simp)) (by (first | exact Nat.le_trans (Nat.mul_le_mul_left _ (Nat.le_of_ble_eq_true rfl : _ ≤ 4096)) (by omega) | exact Nat.le_trans (Nat.mul_le_mul_left _ (Nat.le_of_ble_eq_true rfl : _ ≤ 1)) (by omega))) (by (first | omega | exact Nat.le_of_ble_eq_true rfl | decide | (simp; omega))) rfl (fun ab1 cb1 hb1 => ⟨[_, _], (by (repeat (first | exact Split.nil | exact Split.all | refine Split.cons Pick.head ?_))), ?_⟩))
    refine JM.quiet rfl rfl rfl rfl (fun m => y_assign rfl) ?_
    refine JM.nil ?_
    refine JE.block_normal ?_
    refine JE.then_normal ?_
    refine J.region ?_
    refine JL.step (y_add rfl rfl (by (first | exact wrap_i64 (by omega) (by omega) | rfl))) rfl rfl rfl ?_
    refine JL.step (y_move rfl) rfl rfl rfl ?_
    refine JL.nil ?_
  all_goals
    exact JE.round (s := (i, a2, c2)) (i + 1, _, _) (by dsimp only; omega) ⟨rfl, rfl, rfl, rfl, trivial⟩ (fun w h => by
      dsimp only
      rw [hst, show ints .u8 (hexT (ks.take i) ++ [hexC (x / 16), hexC (x % 16)]) = ints .u8 (hexT (ks.take i)) ++ [.int .u8 (hexC (x / 16)), .int .u8 (hexC (x % 16))] by unfold ints; rw [List.map_append]; rfl]
      exact h.sup (by (repeat (first | exact Sup.refl | apply Sup.cons (by (repeat (first | exact Pick.head | apply Pick.tail | apply Pick.app))) | apply Sup.app | apply Sup.skip | apply Sup.skips)))) (by dsimp only; omega)
theorem ktext_spec (ks : List Int) (l : List HProp) (hn : ks.length = 32) (hB : Bys ks) :
    Fc prog E 73 [.agg (ints .u8 ks).toArray].toArray l (fun v l' => v = .string (strOf (hexT ks)) ∧ l' = l) := by
  refine Fc.eqs ?_
  have hkl : (ints .u8 ks).length = 32 := by unfold ints; rw [List.length_map, hn]
  refine Fc.of_body (c := ?codeC) Tryz.func73 ?hb Tryz.ntmps73 ?hl ?_
  case hb => exact rfl
  case hl => exact rfl
  refine J.seq ?_
  refine J.region ?_
  refine JL.loud rfl (l_box (cs := ints .u8 ks) rfl rfl rfl (fun b1 => ?_))
  refine JL.step (y_assign rfl) rfl rfl rfl ?_
  refine JL.nil ?_
  refine JE.then_normal ?_
  refine J.seq ?_
  refine J.region ?_
  refine JL.step (y_slice_arr hT rfl rfl rfl rfl (.inl ⟨rfl, rfl⟩) (.inl ⟨rfl, rfl⟩) (by (first | omega | exact Nat.le_of_ble_eq_true rfl | decide | (simp; omega))) (by (first | omega | exact Nat.le_of_ble_eq_true rfl | decide | (simp; omega)))) rfl rfl rfl ?_
  refine JL.loud rfl (l_callF e88 rfl rfl (itext_spec E (some ⟨b1, 0, none⟩) 32 32 ks _ hn (by omega) hB (InL.ofRow Pick.head (by unfold maxLen; omega))) ?_)
  rintro _ _ ⟨rfl, rfl⟩
  refine JL.step (y_assign rfl) rfl rfl rfl ?_
  refine JL.nil ?_
  refine JE.then_normal ?_
  refine J.ret ?_
  refine JE.ret1 (.inl rfl) rfl rfl (by (first | exact RV.tmp rfl | exact RV.cell1 hT rfl rfl rfl (by (exact Rd1.row (by (repeat (first | exact Pick.head | apply Pick.tail | apply Pick.app))) (by rfl))) | exact RV.cellN hT rfl rfl rfl (by (first | exact RdN.rowAll (by (repeat (first | exact Pick.head | apply Pick.tail | apply Pick.app))) | exact RdN.own (by (repeat (first | exact Pick.head | apply Pick.tail | apply Pick.app))))) (by (first | rfl | assumption | (simp; done) | omega)))) ?_
  exact ⟨rfl, fun w h => h.sup (by (repeat (first | exact Sup.refl | apply Sup.cons (by (repeat (first | exact Pick.head | apply Pick.tail | apply Pick.app))) | apply Sup.app | apply Sup.skip | apply Sup.skips)))⟩
end
end
end Go.Proofs.YtccagffapohkhaaGreatDoor
