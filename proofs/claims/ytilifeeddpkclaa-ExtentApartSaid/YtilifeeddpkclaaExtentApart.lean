/-
  hollowtreelaw11.ExtentApart returns true for every input, and leaves its input as it was. No condition.
-/
import Derived.Test.YtilifeeddpkclaaLaw11c
import Derived.Test.YtilifeeddpkclaaTop1c
namespace Go.Proofs.Ytilifeeddpkclaa
open Go Go.SL
section
/-- A snapshot that is taken, with writes on their way. -/
theorem holds_taken2 {s : Sb} {bs : List Int} {D D' : Dk} (hu : Up D) (hf : Fits s D) (hmine : D.find ((s.turn.toNat % 2 : Nat) : Int) = sbBlock s) (hl : bs.length ≤ 64 * D.half) (ht : s.turn.toNat + 1 < 18446744073709551616) (hT : Taken s D bs D') : Holds (nextS s bs) bs D' := by
  have hp := hf.place
  have h2 := hf.two
  have hf' := hT.fits h2 hp hl
  have hg := hf.good hu.ok
  have htn := next_turn (bs := bs) ht
  have hhl := half_le D h2
  have h5 : 0 ≤ (nextS s bs).place * (D.half : Int) := by
    rcases half_mul (D := D) hf'.place with ⟨_, e⟩ | ⟨_, e⟩ <;> omega
  have hm := hT.find ((nextS s bs).turn.toNat % 2 : Nat) (by omega) (by omega)
  rw [if_pos rfl] at hm
  have ho := hT.find ((1 - (nextS s bs).turn.toNat % 2 : Nat) : Int) (by omega) (by omega)
  rw [if_neg (by omega), if_neg (by omega)] at ho
  refine ⟨hT.up, hT.none, hf', rfl, rfl, snapS_taken hT h2 hp hl, hm, ?_⟩
  rw [ho, show (1 - (nextS s bs).turn.toNat % 2) = s.turn.toNat % 2 by omega, hmine, sbRead_block hg, htn]
  exact fun _ => by omega
/-- The log's sectors written. -/
def puts (D : Dk) (xs : List Blk) : Nat → Dk
  | 0 => D
  | k + 1 => if k < 32 then (puts D xs k).does.push (32 + (k : Int)) (xs.getD k zeroB) else puts D xs k
theorem puts_up {D : Dk} {xs : List Blk} (h : Up D) (hl : D.safe.length = 64) (hx : ∀ x ∈ xs, x.length = 64) : ∀ k, Up (puts D xs k) ∧ (puts D xs k).safe.length = 64 ∧ (puts D xs k).pending.length ≤ D.pending.length + min k 32 ∧
    ∀ j : Int, (puts D xs k).find j = if 32 ≤ j ∧ j < 32 + (min k 32 : Nat) then xs.getD (j - 32).toNat zeroB else D.find j
  | 0 => ⟨h, hl, Nat.le_add_right _ _, fun j => by rw [if_neg (by omega)]; rfl⟩
  | k + 1 => by
    obtain ⟨h1, h2, h3, h4⟩ := puts_up h hl hx k
    rw [puts]
    split
    · rename_i hk
      have hb : (xs.getD k zeroB).length = 64 := by
        rw [List.getD_eq_getElem?_getD]
        cases e : xs[k]? with
        | none => rfl
        | some x => exact hx x (List.mem_of_getElem? e)
      refine ⟨h1.push (by omega) hb, h2, by simp only [Dk.push, Dk.does, List.length_append, List.length_singleton]; omega, fun j => ?_⟩
      rw [dk_find_push, h4]
      by_cases hj : 32 + (k : Int) = j
      · rw [if_pos hj, if_pos (by omega), show (j - 32).toNat = k by omega]
      · rw [if_neg hj]
        by_cases hj2 : 32 ≤ j ∧ j < 32 + (min k 32 : Nat)
        · rw [if_pos hj2, if_pos (by omega)]
        · rw [if_neg hj2, if_neg (by omega)]
    · rename_i hk
      exact ⟨h1, h2, by omega, fun j => by rw [h4, show min k 32 = min (k + 1) 32 by omega]⟩
attribute [local irreducible] J JL JE JM LS Y Fc RV Code.wp wpList Code.wpIn wpListIn
attribute [local irreducible] Yc
variable (E : World)
theorem extent_apart (p1 p2 : Option Addr) (c1 c2 : Nat) (b : List Int) (xs : List Blk) (r : List HProp) (hin1 : InL r p1 b.length c1 (ints .u8 b)) (hin2 : InL r p2 xs.length c2 (xs.flatMap encB)) (hb : Bytes b) (hx64 : ∀ x ∈ xs, x.length = 64) :
    Fc prog E 13 [.slice p1 b.length c1, .slice p2 xs.length c2].toArray r (fun v l' => v = .bool true ∧ l' = r) := by
  refine Fc.eqs ?_
  have hxL : ∀ x ∈ xs, (encB x).length = 64 := fun x hx => (encB_length _).trans (hx64 x hx)
  have hu0 : Up (Dk.new 64) := new_up (by decide) (by decide)
  obtain ⟨hu1, hl1, hp1⟩ := formatted_up hu0 (by decide)
  have hH1 := holds_format hu0 (by decide)
  obtain ⟨D1, hD1⟩ : ∃ D1, (Dk.new 64).formatted = D1 := ⟨_, rfl⟩
  rw [hD1] at hu1 hl1 hp1 hH1
  have hl1' : D1.safe.length = 64 := hl1.trans (by simp [Dk.new])
  have hhalf : ∀ D : Dk, D.safe.length = 64 → D.half = 15 ∧ D.slots = 32 := fun D h => ⟨by simp [Dk.half, h], by simp [Dk.slots, Dk.half, h]⟩
  have hfmt : ∀ d l, Fc prog E 38 [.pointer (some ⟨d, 0, none⟩)].toArray (disk d (Dk.new 64) :: l) (fun v l' => ∃ st, v = .tuple #[.pointer (some ⟨st, 0, none⟩), .int .i64 0] ∧ l' = row st 125 (scells sb0 d) :: disk d D1 :: l) := fun d l => by
    have h := format_good E d (Dk.new 64) l (by simp [Dk.new]) rfl rfl (by simp [Dk.new])
    rwa [hD1] at h
  have hput := puts_up hu1 hl1' hx64
  obtain ⟨n, hn⟩ : ∃ n, xs.length = n := ⟨_, rfl⟩
  rw [hn] at hin2 ⊢
  have hnb : n ≤ maxLen := Nat.le_trans hin2.le hin2.most
  unfold maxLen at hnb
  have hslat : ∀ (D : Dk) (i : Nat), D.safe.length = 64 → i < 32 → D.slotAt (i : Int) = (32 + (i : Int), 0) := fun D i h hi => by
    obtain ⟨e1, e2⟩ := hhalf D h
    rw [Dk.slotAt, e1, e2, if_neg (by omega)]
    rfl
  have cslots : ∀ st d s D l, D.safe.length = 64 → s.hash.length = 16 → Fc prog E 42 [.pointer (some ⟨st, 0, none⟩)].toArray (row st 125 (scells s d) :: disk d D :: l) (fun v l' => v = .int .i64 32 ∧ l' = row st 125 (scells s d) :: disk d D :: l) := fun st d s D l h hs => by
    have q := slots_spec E st d s D l hs (by omega)
    rw [(hhalf D h).2] at q
    exact q
  have croom : ∀ st d s D l, D.safe.length = 64 → s.hash.length = 16 → Fc prog E 44 [.pointer (some ⟨st, 0, none⟩)].toArray (row st 125 (scells s d) :: disk d D :: l) (fun v l' => v = .int .i64 960 ∧ l' = row st 125 (scells s d) :: disk d D :: l) := fun st d s D l h hs => by
    have q := room_spec E st d s D l hs (by omega)
    rw [(hhalf D h).1] at q
    exact q
  have cput : ∀ st d (k : Nat) x l, k < 32 → xs[k]? = some x → Fc prog E 40 [.pointer (some ⟨st, 0, none⟩), .int .i64 k, .agg (encB x).toArray].toArray (row st 125 (scells sb0 d) :: disk d (puts D1 xs k) :: l) (fun v l' => v = .int .i64 0 ∧ l' = row st 125 (scells sb0 d) :: disk d (puts D1 xs (k + 1)) :: l) := fun st d k x l hk hx => by
    obtain ⟨q1, q2, q3, _⟩ := hput k
    have q := sput_spec E st d sb0 (puts D1 xs k) l sb0_hash (by omega) (by rw [hp1] at q3; simp at q3; omega) k x (hx64 x (List.mem_of_getElem? hx))
    rw [Dk.put, hslat _ k q2 hk] at q
    dsimp only at q
    rw [if_pos rfl, q1.write _ (by omega)] at q
    rw [puts, if_pos hk, List.getD_eq_getElem?_getD, hx]
    exact q
  obtain ⟨n1, hn1⟩ : ∃ n1, min b.length 960 = n1 := ⟨_, rfl⟩
  obtain ⟨B, hB⟩ : ∃ B, b.take n1 = B := ⟨_, rfl⟩
  have hBl : B.length = n1 := by rw [← hB, List.length_take]; omega
  have hBb : Bytes B := fun x hx => hb x (by rw [← hB] at hx; exact List.mem_of_mem_take hx)
  obtain ⟨P, hP⟩ : ∃ P, puts D1 xs n = P := ⟨_, rfl⟩
  obtain ⟨hPu, hPl, hPp, hPf⟩ := hput n
  rw [hP] at hPu hPl hPp hPf
  have hPh := (hhalf P hPl).1
  have hfitP : Fits sb0 P := ⟨sb0_hash, .inl rfl, by decide, by simp [sb0]; omega, by omega⟩
  obtain ⟨D', hD', hTk⟩ := takeS_up (s := sb0) (bs := B) hPu (by omega) (.inl rfl) (by omega)
  have hmine : P.find ((sb0.turn.toNat % 2 : Nat) : Int) = sbBlock sb0 := by
    rw [hPf, if_neg (by show ¬ ((32 : Int) ≤ 0 ∧ _); omega)]
    exact hH1.mine
  have hH := holds_taken2 hPu hfitP hmine (by omega) (by decide) hTk
  have hD'l : D'.safe.length = 64 := hTk.len.trans hPl
  obtain ⟨S, hS⟩ : ∃ S, nextS sb0 B = S := ⟨_, rfl⟩
  have hSh : S.hash.length = 16 := by rw [← hS]; exact nextS_hash _ _
  have hDf : ∀ (k : Nat) x, k < 32 → xs[k]? = some x → D'.find (32 + (k : Int)) = x := fun k x hk hx => by
    have hkn : k < n := by
      rcases Nat.lt_or_ge k xs.length with h | h
      · omega
      · simp [List.getElem?_eq_none h] at hx
    have e1 : (nextS sb0 B).place * (P.half : Int) = 15 := by rw [hPh]; rfl
    rw [hTk.find _ (by omega) (by omega), if_neg (by omega), e1, if_neg (by omega), hPf, if_pos (by omega), show (32 + (k : Int) - 32).toNat = k by omega, List.getD_eq_getElem?_getD, hx]
    rfl
  rw [hS] at hH hD'
  have ctake : ∀ st d p cap l, InL l p n1 cap (ints .u8 B) → Fc prog E 45 [.pointer (some ⟨st, 0, none⟩), .slice p n1 cap].toArray (row st 125 (scells sb0 d) :: disk d P :: l) (fun v l' => v = .int .i64 0 ∧ l' = row st 125 (scells S d) :: disk d D' :: l) := fun st d p cap l hin => by
    have q := stake_spec E st d sb0 P p cap B l sb0_hash (by omega) (.inl rfl) (by rw [hp1] at hPp; simp at hPp; omega) (by rw [hBl]; exact hin)
    rw [hD', hBl] at q
    exact q
  have cslot : ∀ st d (k : Nat) x l, k < 32 → xs[k]? = some x → Fc prog E 41 [.pointer (some ⟨st, 0, none⟩), .int .i64 k].toArray (row st 125 (scells S d) :: disk d D' :: l) (fun v l' => v = .tuple #[.agg (encB x).toArray, .int .i64 0] ∧ l' = row st 125 (scells S d) :: disk d D' :: l) := fun st d k x l hk hx => by
    have q := slot_spec E st d S D' l hSh (by omega) (by rw [hTk.none]; decide) k
    rw [Dk.slot, hslat _ k hD'l hk] at q
    dsimp only at q
    rw [if_pos rfl, hTk.up.read (by omega), hTk.up.ready (by omega), hDf k x hk hx] at q
    exact q
  have cequal : ∀ a c p c2 l, InL l a B.length c (ints .u8 B) → InL l p n1 c2 (ints .u8 B) → Fc prog E 55 [.slice a B.length c, .slice p n1 c2].toArray l (fun v l' => v = .bool true ∧ l' = l) := fun a c p c2 l h1 h2 => by
    have q := equal_spec E a p c c2 B B l hBb hBb h1 (by rw [hBl]; exact h2) (by omega) (by omega)
    rw [decide_eq_true rfl] at q
    rw [show (Value.slice p B.length c2) = .slice p n1 c2 by rw [hBl]] at q
    exact q
  refine Fc.of_body (c := ?c) Try.func13 ?hb Try.ntmps13 ?hl ?_
  case hb => exact rfl
  case hl => exact rfl
  refine J.seq ?_
  refine J.region ?_
  refine JL.step (y_assign rfl) rfl rfl rfl ?_
  refine JL.nil ?_
  refine JE.then_normal ?_
  refine J.seq ?_
  refine J.seq ?_
  refine J.region ?_
  refine JL.loud rfl (l_callF e37 rfl rfl (wakes11_spec E _) ?_)
  rintro _ l1 ⟨rfl, e1⟩
  obtain rfl := e1.symm
  refine JL.step (y_not rfl) rfl rfl rfl ?_
  refine JL.nil ?_
  refine JE.then_normal ?_
  refine J.cond_f rfl (by (first | rfl | assumption | (simp; done) | (simp; omega))) ?_
  refine J.skip ?_
  refine JE.then_normal ?_
  refine J.seq ?_
  refine J.region ?_
  refine JL.loud rfl (l_callF e21 rfl rfl (new_good E 64 _ (by decide) (by decide)) ?_)
  rintro _ _ ⟨d, rfl, rfl⟩
  refine JL.step (y_move rfl) rfl rfl rfl (JL.step (y_extract rfl rfl) rfl rfl rfl (JL.step (y_extract rfl rfl) rfl rfl rfl (JL.step (y_assign rfl) rfl rfl rfl (JL.step (y_assign rfl) rfl rfl rfl ?_))))
  refine JL.nil ?_
  refine JE.then_normal ?_
  refine J.seq ?_
  refine J.seq ?_
  refine J.region ?_
  refine JL.step (y_move rfl) rfl rfl rfl (JL.step (y_neq rfl rfl) rfl rfl rfl ?_)
  refine JL.nil ?_
  refine JE.then_normal ?_
  refine J.cond_f rfl (by (first | rfl | assumption | (simp; done) | (simp; omega))) ?_
  refine J.skip ?_
  refine JE.then_normal ?_
  refine J.seq ?_
  refine J.region ?_
  refine JL.step (y_move rfl) rfl rfl rfl ?_
  refine JL.loud rfl (l_callF e38 rfl rfl (Fc.on (Split.cons (by (repeat (first | exact Pick.head | apply Pick.tail | apply Pick.app))) Split.nil) (hfmt d _)) ?_)
  rintro _ _ ⟨st, rfl, rfl⟩
  refine JL.step (y_move rfl) rfl rfl rfl (JL.step (y_extract rfl rfl) rfl rfl rfl (JL.step (y_extract rfl rfl) rfl rfl rfl (JL.step (y_assign rfl) rfl rfl rfl (JL.step (y_assign rfl) rfl rfl rfl ?_))))
  refine JL.nil ?_
  refine JE.then_normal ?_
  refine J.seq ?_
  refine J.seq ?_
  refine J.region ?_
  refine JL.step (y_move rfl) rfl rfl rfl (JL.step (y_neq rfl rfl) rfl rfl rfl ?_)
  refine JL.nil ?_
  refine JE.then_normal ?_
  refine J.cond_f rfl (by (first | rfl | assumption | (simp; done) | (simp; omega))) ?_
  refine J.skip ?_
  refine JE.then_normal ?_
  refine J.seq ?_
  refine J.seq ?_
  refine J.region ?_
  refine JL.step (y_move rfl) rfl rfl rfl (JL.step (y_len_slice hT rfl rfl rfl) rfl rfl rfl (JL.step (y_move rfl) rfl rfl rfl ?_))
  refine JL.nil ?_
  refine JE.then_normal ?_
  refine J.block ?_
  refine J.loop (α := Nat) (fun j => j ≤ n) (fun j => [(0, .slice p1 b.length c1), (1, .slice p2 n c2), (5, .pointer (some ⟨d, 0, none⟩)), (7, .pointer (some ⟨st, 0, none⟩)), (34, .slice p2 n c2), (35, .int .i64 n), (36, .int .i64 j)]) (fun j => row st 125 (scells sb0 d) :: disk d (puts D1 xs j) :: r) (fun j => n - j) 0 (by omega) ⟨rfl, rfl, rfl, rfl, rfl, rfl, rfl, trivial⟩ (fun w q => q.sup (by (repeat (first | exact Sup.refl | apply Sup.cons (by (repeat (first | exact Pick.head | apply Pick.tail | apply Pick.app))) | apply Sup.app | apply Sup.skip | apply Sup.skips)))) ?_
  intro j hj
  refine J.seq ?_
  refine J.region ?_
  refine JL.step (y_lss rfl rfl) rfl rfl rfl ?_
  refine JL.nil ?_
  refine JE.then_normal ?_
  refine J.seq ?_
  first | apply J.cond_dec rfl | apply J.cond rfl
  case' ht =>
    intro h
    try (first | (exfalso; omega) | (cases h; done) | (exfalso; simp at h; done) | subst h)
    all_goals
      refine J.skip ?_
  case' hf =>
    intro h
    try (first | (exfalso; omega) | (cases h; done) | (exfalso; simp at h; done) | subst h)
    all_goals
      refine J.exit ?_
      refine JE.then_exit ?_
      refine JE.then_exit ?_
      refine JE.block_exit ?_
      refine JE.then_normal ?_
      refine J.seq ?_
      obtain rfl : n = j := by omega
      rw [hP]
      obtain ⟨g1, o1, hq1, hj1⟩ := hin1.part (lo := 0) (hi := n1) (k := 1) (by omega) (by omega) (by simp [ints])
      rw [show ((ints .u8 b).drop (0 * 1)).take ((n1 - 0) * 1) = ints .u8 B by rw [← hB]; simp [ints, List.map_take]] at hj1
      refine J.region ?_
      refine JL.step (y_move rfl) rfl rfl rfl (JL.step (y_move rfl) rfl rfl rfl (JL.step (y_len_slice hT rfl rfl rfl) rfl rfl rfl (JL.step (y_move rfl) rfl rfl rfl ?_)))
      refine JL.loud rfl (l_callF e44 rfl rfl (Fc.on (Split.cons (by (repeat (first | exact Pick.head | apply Pick.tail | apply Pick.app))) (Split.cons (by (repeat (first | exact Pick.head | apply Pick.tail | apply Pick.app))) Split.nil)) (croom st d sb0 P _ hPl sb0_hash)) ?_)
      rintro _ _ ⟨rfl, rfl⟩
      refine JL.step (y_min2 (m := (n1 : Int)) rfl rfl (by omega)) rfl rfl rfl ?_
      refine JL.step (y_slice (lo := 0) (hi := n1) hT rfl rfl rfl rfl (.inl ⟨rfl, rfl⟩) (.inr ⟨_, _, _, rfl, rfl, by omega⟩) (by omega) (by have := hin1.le; omega) hin1.le hq1) rfl rfl rfl ?_
      refine JL.step (y_assign rfl) rfl rfl rfl ?_
      refine JL.nil ?_
      refine JE.then_normal ?_
      refine J.seq ?_
      refine J.seq ?_
      refine J.region ?_
      refine JL.step (y_move rfl) rfl rfl rfl (JL.step (y_move rfl) rfl rfl rfl ?_)
      refine JL.loud rfl (l_callF e45 rfl rfl (Fc.on (Split.cons (by (repeat (first | exact Pick.head | apply Pick.tail | apply Pick.app))) (Split.cons (by (repeat (first | exact Pick.head | apply Pick.tail | apply Pick.app))) Split.nil)) (ctake st d _ _ _ (by (repeat (first | assumption | apply InL.cons | apply InL.app))))) ?_)
      rintro _ _ ⟨rfl, rfl⟩
      refine JL.step (y_neq rfl rfl) rfl rfl rfl ?_
      refine JL.nil ?_
      refine JE.then_normal ?_
      refine J.cond_f rfl (by (first | rfl | assumption | (simp; done) | (simp; omega))) ?_
      refine J.skip ?_
      refine JE.then_normal ?_
      refine J.seq ?_
      refine J.region ?_
      refine JL.step (y_move rfl) rfl rfl rfl ?_
      refine JL.loud rfl (l_callF e49 rfl rfl (Fc.on (Split.cons (by (repeat (first | exact Pick.head | apply Pick.tail | apply Pick.app))) Split.nil) (open_holds E d D' S B _ hH (by omega))) ?_)
      rintro _ _ ⟨st2, rfl, rfl⟩
      refine JL.step (y_move rfl) rfl rfl rfl (JL.step (y_extract rfl rfl) rfl rfl rfl (JL.step (y_extract rfl rfl) rfl rfl rfl (JL.step (y_assign rfl) rfl rfl rfl (JL.step (y_assign rfl) rfl rfl rfl ?_))))
      refine JL.nil ?_
      refine JE.then_normal ?_
      refine J.seq ?_
      refine J.seq ?_
      refine J.region ?_
      refine JL.step (y_move rfl) rfl rfl rfl (JL.step (y_neq rfl rfl) rfl rfl rfl ?_)
      refine JL.nil ?_
      refine JE.then_normal ?_
      refine J.cond_f rfl (by (first | rfl | assumption | (simp; done) | (simp; omega))) ?_
      refine J.skip ?_
      refine JE.then_normal ?_
      refine J.seq ?_
      refine J.seq ?_
      refine J.region ?_
      refine JL.step (y_move rfl) rfl rfl rfl (JL.step (y_len_slice hT rfl rfl rfl) rfl rfl rfl (JL.step (y_move rfl) rfl rfl rfl ?_))
      refine JL.nil ?_
      refine JE.then_normal ?_
      refine J.block ?_
      refine J.loop (α := Nat) (fun j => j ≤ n) (fun j => [(0, .slice (if c1 = 0 then p1 else some ⟨g1, o1 + 0 * i5.size, none⟩) (n1 - 0) (c1 - 0)), (5, .pointer (some ⟨d, 0, none⟩)), (7, .pointer (some ⟨st, 0, none⟩)), (10, .pointer (some ⟨st2, 0, none⟩)), (71, .slice p2 n c2), (72, .int .i64 n), (73, .int .i64 j)]) (fun j => row st2 125 (scells S d) :: disk d D' :: row st 125 (scells S d) :: r) (fun i => n - i) 0 (by omega) ⟨rfl, rfl, rfl, rfl, rfl, rfl, rfl, trivial⟩ (fun w q => q.sup (by (repeat (first | exact Sup.refl | apply Sup.cons (by (repeat (first | exact Pick.head | apply Pick.tail | apply Pick.app))) | apply Sup.app | apply Sup.skip | apply Sup.skips)))) ?_
      intro i hi
      refine J.seq ?_
      refine J.region ?_
      refine JL.step (y_lss rfl rfl) rfl rfl rfl ?_
      refine JL.nil ?_
      refine JE.then_normal ?_
      refine J.seq ?_
      first | apply J.cond_dec rfl | apply J.cond rfl
      case' ht =>
        intro h
        try (first | (exfalso; omega) | (cases h; done) | (exfalso; simp at h; done) | subst h)
        all_goals
          refine J.skip ?_
      case' hf =>
        intro h
        try (first | (exfalso; omega) | (cases h; done) | (exfalso; simp at h; done) | subst h)
        all_goals
          refine J.exit ?_
          refine JE.then_exit ?_
          refine JE.then_exit ?_
          refine JE.block_exit ?_
          refine JE.then_normal ?_
          refine J.seq ?_
          refine J.region ?_
          refine JL.step (y_move rfl) rfl rfl rfl ?_
          refine JL.loud rfl (l_callF e50 rfl rfl (Fc.on (Split.cons (by (repeat (first | exact Pick.head | apply Pick.tail | apply Pick.app))) (Split.cons (by (repeat (first | exact Pick.head | apply Pick.tail | apply Pick.app))) Split.nil)) (snapshot_holds E _ d D' S B _ hH)) ?_)
          rintro _ _ ⟨ga, gc, rfl, rfl⟩
          refine JL.step (y_move rfl) rfl rfl rfl (JL.step (y_extract rfl rfl) rfl rfl rfl (JL.step (y_extract rfl rfl) rfl rfl rfl (JL.step (y_assign rfl) rfl rfl rfl (JL.step (y_assign rfl) rfl rfl rfl ?_))))
          refine JL.nil ?_
          refine JE.then_normal ?_
          refine J.seq ?_
          refine J.region ?_
          refine JL.step (y_move rfl) rfl rfl rfl (JL.step (y_eql rfl rfl) rfl rfl rfl (JL.step (y_move rfl) rfl rfl rfl ?_))
          all_goals (first | (refine JL.gsplit_dec rfl rfl rfl (fun h => ?_) (fun h => ?_) <;> try (first | (exfalso; omega) | exact absurd rfl h)) | (refine JL.gsplit rfl rfl rfl (fun h => ?_) (fun h => ?_) <;> try (first | cases h | (exfalso; simp at h; done))) | skip)
          all_goals (first | refine JL.gskip rfl rfl rfl rfl rfl rfl ?_ | refine JL.gskipU rfl rfl rfl rfl rfl ?_ | refine JL.gstep rfl rfl rfl (y_move rfl) rfl rfl ?_)
          all_goals (first | refine JL.gskip rfl rfl rfl rfl rfl rfl ?_ | refine JL.gskipU rfl rfl rfl rfl rfl ?_ | refine JL.gstep rfl rfl rfl (y_move rfl) rfl rfl ?_)
          all_goals (first | refine JL.gskip rfl rfl rfl rfl rfl rfl ?_ | refine JL.gskipU rfl rfl rfl rfl rfl ?_ | (refine JL.gloud rfl rfl rfl (l_callF e55 rfl rfl (Fc.fact (p := OwnAt ga B.length gc (ints .u8 B)) (fun w s => Sat.own_at (s.pick (by (repeat (first | exact Pick.head | apply Pick.tail | apply Pick.app))))) fun ok => cequal _ _ _ _ _ (ok.inl (by (repeat (first | exact Pick.head | apply Pick.tail | apply Pick.app)))) (by (repeat (first | assumption | apply InL.cons | apply InL.app)))) ?_); rintro _ _ ⟨rfl, rfl⟩))
          all_goals (refine JL.step (y_pick rfl rfl rfl) rfl rfl rfl ?_)
          all_goals (refine JL.step (y_move rfl) rfl rfl rfl ?_)
          all_goals (first | (refine JL.gsplit_dec rfl rfl rfl (fun h => ?_) (fun h => ?_) <;> try (first | (exfalso; omega) | exact absurd rfl h)) | (refine JL.gsplit rfl rfl rfl (fun h => ?_) (fun h => ?_) <;> try (first | cases h | (exfalso; simp at h; done))) | skip)
          all_goals (first | refine JL.gskip rfl rfl rfl rfl rfl rfl ?_ | refine JL.gskipU rfl rfl rfl rfl rfl ?_ | refine JL.gstep rfl rfl rfl (y_move rfl) rfl rfl ?_)
          all_goals (first | refine JL.gskip rfl rfl rfl rfl rfl rfl ?_ | refine JL.gskipU rfl rfl rfl rfl rfl ?_ | (refine JL.gloud rfl rfl rfl (l_callF e52 rfl rfl (Fc.on (Split.cons (by (repeat (first | exact Pick.head | apply Pick.tail | apply Pick.app))) (Split.cons (by (repeat (first | exact Pick.head | apply Pick.tail | apply Pick.app))) Split.nil)) (turn_spec E _ d S D' _ hSh)) ?_); rintro _ _ ⟨rfl, rfl⟩))
          all_goals (first | refine JL.gskip rfl rfl rfl rfl rfl rfl ?_ | refine JL.gskipU rfl rfl rfl rfl rfl ?_ | refine JL.gstep rfl rfl rfl (y_move rfl) rfl rfl ?_)
          all_goals (first | refine JL.gskip rfl rfl rfl rfl rfl rfl ?_ | refine JL.gskipU rfl rfl rfl rfl rfl ?_ | (refine JL.gloud rfl rfl rfl (l_callF e52 rfl rfl (Fc.on (Split.cons (by (repeat (first | exact Pick.head | apply Pick.tail | apply Pick.app))) (Split.cons (by (repeat (first | exact Pick.head | apply Pick.tail | apply Pick.app))) Split.nil)) (turn_spec E _ d S D' _ hSh)) ?_); rintro _ _ ⟨rfl, rfl⟩))
          all_goals (first | refine JL.gskip rfl rfl rfl rfl rfl rfl ?_ | refine JL.gskipU rfl rfl rfl rfl rfl ?_ | refine JL.gstep rfl rfl rfl (y_eql rfl rfl) rfl rfl ?_)
          all_goals (refine JL.step (y_pick rfl rfl rfl) rfl rfl rfl ?_)
          all_goals (refine JL.step (y_move rfl) rfl rfl rfl ?_)
          all_goals (first | (refine JL.gsplit_dec rfl rfl rfl (fun h => ?_) (fun h => ?_) <;> try (first | (exfalso; omega) | exact absurd rfl h)) | (refine JL.gsplit rfl rfl rfl (fun h => ?_) (fun h => ?_) <;> try (first | cases h | (exfalso; simp at h; done))) | skip)
          all_goals (first | refine JL.gskip rfl rfl rfl rfl rfl rfl ?_ | refine JL.gskipU rfl rfl rfl rfl rfl ?_ | refine JL.gstep rfl rfl rfl (y_move rfl) rfl rfl ?_)
          all_goals (first | refine JL.gskip rfl rfl rfl rfl rfl rfl ?_ | refine JL.gskipU rfl rfl rfl rfl rfl ?_ | (refine JL.gloud rfl rfl rfl (l_callF e44 rfl rfl (Fc.on (Split.cons (by (repeat (first | exact Pick.head | apply Pick.tail | apply Pick.app))) (Split.cons (by (repeat (first | exact Pick.head | apply Pick.tail | apply Pick.app))) Split.nil)) (croom _ d S D' _ hD'l hSh)) ?_); rintro _ _ ⟨rfl, rfl⟩))
          all_goals (first | refine JL.gskip rfl rfl rfl rfl rfl rfl ?_ | refine JL.gskipU rfl rfl rfl rfl rfl ?_ | refine JL.gstep rfl rfl rfl (y_move rfl) rfl rfl ?_)
          all_goals (first | refine JL.gskip rfl rfl rfl rfl rfl rfl ?_ | refine JL.gskipU rfl rfl rfl rfl rfl ?_ | (refine JL.gloud rfl rfl rfl (l_callF e44 rfl rfl (Fc.on (Split.cons (by (repeat (first | exact Pick.head | apply Pick.tail | apply Pick.app))) (Split.cons (by (repeat (first | exact Pick.head | apply Pick.tail | apply Pick.app))) Split.nil)) (croom _ d S D' _ hD'l hSh)) ?_); rintro _ _ ⟨rfl, rfl⟩))
          all_goals (first | refine JL.gskip rfl rfl rfl rfl rfl rfl ?_ | refine JL.gskipU rfl rfl rfl rfl rfl ?_ | refine JL.gstep rfl rfl rfl (y_eql rfl rfl) rfl rfl ?_)
          all_goals (refine JL.step (y_pick rfl rfl rfl) rfl rfl rfl ?_)
          all_goals (refine JL.step (y_assign rfl) rfl rfl rfl ?_)
          all_goals refine JL.nil ?_
          all_goals refine JE.then_normal ?_
          all_goals
            refine J.ret ?_
            refine JE.ret1 (.inl rfl) rfl rfl (by (first | exact RV.tmp rfl | exact RV.cell1 hT rfl rfl rfl (by (exact Rd1.row (by (repeat (first | exact Pick.head | apply Pick.tail | apply Pick.app))) (by rfl))) | exact RV.cellN hT rfl rfl rfl (by (first | exact RdN.rowAll (by (repeat (first | exact Pick.head | apply Pick.tail | apply Pick.app))) | exact RdN.own (by (repeat (first | exact Pick.head | apply Pick.tail | apply Pick.app))))) (by (first | rfl | assumption | (simp; done) | omega)))) ?_
            first
              | exact ⟨rfl, fun w q => q.sup (by (repeat (first | exact Sup.refl | apply Sup.cons (by (repeat (first | exact Pick.head | apply Pick.tail | apply Pick.app))) | apply Sup.app | apply Sup.skip | apply Sup.skips)))⟩
              | exact ⟨by simp, fun w q => q.sup (by (repeat (first | exact Sup.refl | apply Sup.cons (by (repeat (first | exact Pick.head | apply Pick.tail | apply Pick.app))) | apply Sup.app | apply Sup.skip | apply Sup.skips)))⟩
      all_goals refine JE.then_normal ?_
      all_goals
        refine J.seq ?_
        refine J.block ?_
        refine J.seq ?_
        refine J.region ?_
        have hlt : i < n := by omega
        obtain ⟨gx, ox, rfl, hrx⟩ := hin2.addr (by omega)
        have hrx0 : RdN r gx ox (xs.flatMap encB) := hrx []
        obtain ⟨x, hx⟩ : ∃ x, xs[i]? = some x := ⟨_, List.getElem?_eq_getElem (by omega)⟩
        have hxl := hxL x (List.mem_of_getElem? hx)
        have hx6 := hx64 x (List.mem_of_getElem? hx)
        refine JL.step (y_move rfl) rfl rfl rfl ?_
        refine JL.step (y_indexAddr_slice hT rfl rfl rfl rfl rfl (by (first | omega | exact Nat.le_of_ble_eq_true rfl | decide | (simp; omega))) (by (first | omega | exact Nat.le_of_ble_eq_true rfl | decide | (simp; omega)))) rfl rfl rfl ?_
        refine JL.step (y_loadN hT rfl rfl rfl (RdN.elem (by (repeat (first | assumption | apply RdN.cons | apply RdN.app))) hxL hx) hxl) rfl rfl rfl ?_
        refine JL.loud rfl (l_alloc hT rfl rfl (by (first | rfl | simp)) rfl (fun b13 => ?_))
        refine JL.step (y_assign rfl) rfl rfl rfl ?_
        refine JL.loud rfl (l_storeAll hT rfl rfl rfl (by (first | rfl | assumption | (simp; done) | omega)) (by (first | assumption | exact ones_of rfl | exact encW_one _ | exact encB_one _ | (intro u hu; simp at hu; rcases hu with rfl | rfl <;> rfl) | (intro u hu; simp at hu; subst hu; rfl) | simp)) (by (repeat (first | exact Pick.head | apply Pick.tail | apply Pick.app))) (by (first | rfl | assumption | (simp; done) | omega)) ?_)
        refine JL.nil ?_
        refine JE.then_normal ?_
        refine J.seq ?_
        refine J.seq ?_
        refine J.region ?_
        refine JL.step (y_move rfl) rfl rfl rfl (JL.step (y_move rfl) rfl rfl rfl ?_)
        refine JL.loud rfl (l_callF e42 rfl rfl (Fc.on (Split.cons (by (repeat (first | exact Pick.head | apply Pick.tail | apply Pick.app))) (Split.cons (by (repeat (first | exact Pick.head | apply Pick.tail | apply Pick.app))) Split.nil)) (cslots _ d S D' _ hD'l hSh)) ?_)
        rintro _ _ ⟨rfl, rfl⟩
        refine JL.step (y_geq rfl rfl) rfl rfl rfl ?_
        refine JL.nil ?_
        refine JE.then_normal ?_
        first | apply J.cond_dec rfl | apply J.cond rfl
        case' ht =>
          intro h
          try (first | (exfalso; omega) | (cases h; done) | (exfalso; simp at h; done) | subst h)
          all_goals
            refine J.exit ?_
            refine JE.then_exit ?_
            refine JE.block_past rfl ?_
            refine JE.then_exit ?_
            refine JE.then_exit ?_
            refine JE.block_exit ?_
            refine JE.then_normal ?_
            refine J.seq ?_
            refine J.region ?_
            refine JL.step (y_move rfl) rfl rfl rfl ?_
            refine JL.loud rfl (l_callF e50 rfl rfl (Fc.on (Split.cons (by (repeat (first | exact Pick.head | apply Pick.tail | apply Pick.app))) (Split.cons (by (repeat (first | exact Pick.head | apply Pick.tail | apply Pick.app))) Split.nil)) (snapshot_holds E _ d D' S B _ hH)) ?_)
            rintro _ _ ⟨ga, gc, rfl, rfl⟩
            refine JL.step (y_move rfl) rfl rfl rfl (JL.step (y_extract rfl rfl) rfl rfl rfl (JL.step (y_extract rfl rfl) rfl rfl rfl (JL.step (y_assign rfl) rfl rfl rfl (JL.step (y_assign rfl) rfl rfl rfl ?_))))
            refine JL.nil ?_
            refine JE.then_normal ?_
            refine J.seq ?_
            refine J.region ?_
            refine JL.step (y_move rfl) rfl rfl rfl (JL.step (y_eql rfl rfl) rfl rfl rfl (JL.step (y_move rfl) rfl rfl rfl ?_))
            all_goals (first | (refine JL.gsplit_dec rfl rfl rfl (fun h => ?_) (fun h => ?_) <;> try (first | (exfalso; omega) | exact absurd rfl h)) | (refine JL.gsplit rfl rfl rfl (fun h => ?_) (fun h => ?_) <;> try (first | cases h | (exfalso; simp at h; done))) | skip)
            all_goals (first | refine JL.gskip rfl rfl rfl rfl rfl rfl ?_ | refine JL.gskipU rfl rfl rfl rfl rfl ?_ | refine JL.gstep rfl rfl rfl (y_move rfl) rfl rfl ?_)
            all_goals (first | refine JL.gskip rfl rfl rfl rfl rfl rfl ?_ | refine JL.gskipU rfl rfl rfl rfl rfl ?_ | refine JL.gstep rfl rfl rfl (y_move rfl) rfl rfl ?_)
            all_goals (first | refine JL.gskip rfl rfl rfl rfl rfl rfl ?_ | refine JL.gskipU rfl rfl rfl rfl rfl ?_ | (refine JL.gloud rfl rfl rfl (l_callF e55 rfl rfl (Fc.fact (p := OwnAt ga B.length gc (ints .u8 B)) (fun w s => Sat.own_at (s.pick (by (repeat (first | exact Pick.head | apply Pick.tail | apply Pick.app))))) fun ok => cequal _ _ _ _ _ (ok.inl (by (repeat (first | exact Pick.head | apply Pick.tail | apply Pick.app)))) (by (repeat (first | assumption | apply InL.cons | apply InL.app)))) ?_); rintro _ _ ⟨rfl, rfl⟩))
            all_goals (refine JL.step (y_pick rfl rfl rfl) rfl rfl rfl ?_)
            all_goals (refine JL.step (y_move rfl) rfl rfl rfl ?_)
            all_goals (first | (refine JL.gsplit_dec rfl rfl rfl (fun h => ?_) (fun h => ?_) <;> try (first | (exfalso; omega) | exact absurd rfl h)) | (refine JL.gsplit rfl rfl rfl (fun h => ?_) (fun h => ?_) <;> try (first | cases h | (exfalso; simp at h; done))) | skip)
            all_goals (first | refine JL.gskip rfl rfl rfl rfl rfl rfl ?_ | refine JL.gskipU rfl rfl rfl rfl rfl ?_ | refine JL.gstep rfl rfl rfl (y_move rfl) rfl rfl ?_)
            all_goals (first | refine JL.gskip rfl rfl rfl rfl rfl rfl ?_ | refine JL.gskipU rfl rfl rfl rfl rfl ?_ | (refine JL.gloud rfl rfl rfl (l_callF e52 rfl rfl (Fc.on (Split.cons (by (repeat (first | exact Pick.head | apply Pick.tail | apply Pick.app))) (Split.cons (by (repeat (first | exact Pick.head | apply Pick.tail | apply Pick.app))) Split.nil)) (turn_spec E _ d S D' _ hSh)) ?_); rintro _ _ ⟨rfl, rfl⟩))
            all_goals (first | refine JL.gskip rfl rfl rfl rfl rfl rfl ?_ | refine JL.gskipU rfl rfl rfl rfl rfl ?_ | refine JL.gstep rfl rfl rfl (y_move rfl) rfl rfl ?_)
            all_goals (first | refine JL.gskip rfl rfl rfl rfl rfl rfl ?_ | refine JL.gskipU rfl rfl rfl rfl rfl ?_ | (refine JL.gloud rfl rfl rfl (l_callF e52 rfl rfl (Fc.on (Split.cons (by (repeat (first | exact Pick.head | apply Pick.tail | apply Pick.app))) (Split.cons (by (repeat (first | exact Pick.head | apply Pick.tail | apply Pick.app))) Split.nil)) (turn_spec E _ d S D' _ hSh)) ?_); rintro _ _ ⟨rfl, rfl⟩))
            all_goals (first | refine JL.gskip rfl rfl rfl rfl rfl rfl ?_ | refine JL.gskipU rfl rfl rfl rfl rfl ?_ | refine JL.gstep rfl rfl rfl (y_eql rfl rfl) rfl rfl ?_)
            all_goals (refine JL.step (y_pick rfl rfl rfl) rfl rfl rfl ?_)
            all_goals (refine JL.step (y_move rfl) rfl rfl rfl ?_)
            all_goals (first | (refine JL.gsplit_dec rfl rfl rfl (fun h => ?_) (fun h => ?_) <;> try (first | (exfalso; omega) | exact absurd rfl h)) | (refine JL.gsplit rfl rfl rfl (fun h => ?_) (fun h => ?_) <;> try (first | cases h | (exfalso; simp at h; done))) | skip)
            all_goals (first | refine JL.gskip rfl rfl rfl rfl rfl rfl ?_ | refine JL.gskipU rfl rfl rfl rfl rfl ?_ | refine JL.gstep rfl rfl rfl (y_move rfl) rfl rfl ?_)
            all_goals (first | refine JL.gskip rfl rfl rfl rfl rfl rfl ?_ | refine JL.gskipU rfl rfl rfl rfl rfl ?_ | (refine JL.gloud rfl rfl rfl (l_callF e44 rfl rfl (Fc.on (Split.cons (by (repeat (first | exact Pick.head | apply Pick.tail | apply Pick.app))) (Split.cons (by (repeat (first | exact Pick.head | apply Pick.tail | apply Pick.app))) Split.nil)) (croom _ d S D' _ hD'l hSh)) ?_); rintro _ _ ⟨rfl, rfl⟩))
            all_goals (first | refine JL.gskip rfl rfl rfl rfl rfl rfl ?_ | refine JL.gskipU rfl rfl rfl rfl rfl ?_ | refine JL.gstep rfl rfl rfl (y_move rfl) rfl rfl ?_)
            all_goals (first | refine JL.gskip rfl rfl rfl rfl rfl rfl ?_ | refine JL.gskipU rfl rfl rfl rfl rfl ?_ | (refine JL.gloud rfl rfl rfl (l_callF e44 rfl rfl (Fc.on (Split.cons (by (repeat (first | exact Pick.head | apply Pick.tail | apply Pick.app))) (Split.cons (by (repeat (first | exact Pick.head | apply Pick.tail | apply Pick.app))) Split.nil)) (croom _ d S D' _ hD'l hSh)) ?_); rintro _ _ ⟨rfl, rfl⟩))
            all_goals (first | refine JL.gskip rfl rfl rfl rfl rfl rfl ?_ | refine JL.gskipU rfl rfl rfl rfl rfl ?_ | refine JL.gstep rfl rfl rfl (y_eql rfl rfl) rfl rfl ?_)
            all_goals (refine JL.step (y_pick rfl rfl rfl) rfl rfl rfl ?_)
            all_goals (refine JL.step (y_assign rfl) rfl rfl rfl ?_)
            all_goals refine JL.nil ?_
            all_goals refine JE.then_normal ?_
            all_goals
              refine J.ret ?_
              refine JE.ret1 (.inl rfl) rfl rfl (by (first | exact RV.tmp rfl | exact RV.cell1 hT rfl rfl rfl (by (exact Rd1.row (by (repeat (first | exact Pick.head | apply Pick.tail | apply Pick.app))) (by rfl))) | exact RV.cellN hT rfl rfl rfl (by (first | exact RdN.rowAll (by (repeat (first | exact Pick.head | apply Pick.tail | apply Pick.app))) | exact RdN.own (by (repeat (first | exact Pick.head | apply Pick.tail | apply Pick.app))))) (by (first | rfl | assumption | (simp; done) | omega)))) ?_
              first
                | exact ⟨rfl, fun w q => q.sup (by (repeat (first | exact Sup.refl | apply Sup.cons (by (repeat (first | exact Pick.head | apply Pick.tail | apply Pick.app))) | apply Sup.app | apply Sup.skip | apply Sup.skips)))⟩
                | exact ⟨by simp, fun w q => q.sup (by (repeat (first | exact Sup.refl | apply Sup.cons (by (repeat (first | exact Pick.head | apply Pick.tail | apply Pick.app))) | apply Sup.app | apply Sup.skip | apply Sup.skips)))⟩
        case' hf =>
          intro h
          try (first | (exfalso; omega) | (cases h; done) | (exfalso; simp at h; done) | subst h)
          all_goals
            refine J.skip ?_
        all_goals refine JE.then_normal ?_
        all_goals
          refine J.seq ?_
          refine J.region ?_
          refine JL.step (y_move rfl) rfl rfl rfl (JL.step (y_move rfl) rfl rfl rfl ?_)
          refine JL.loud rfl (l_callF e41 rfl rfl (Fc.on (Split.cons (by (repeat (first | exact Pick.head | apply Pick.tail | apply Pick.app))) (Split.cons (by (repeat (first | exact Pick.head | apply Pick.tail | apply Pick.app))) Split.nil)) (cslot _ d i x _ (by omega) hx)) ?_)
          rintro _ _ ⟨rfl, rfl⟩
          refine JL.step (y_move rfl) rfl rfl rfl (JL.step (y_extract rfl rfl) rfl rfl rfl (JL.step (y_extract rfl rfl) rfl rfl rfl ?_))
          refine JL.loud rfl (l_alloc hT rfl rfl (by (first | rfl | simp)) rfl (fun b23 => ?_))
          refine JL.loud rfl (l_storeAll hT rfl rfl rfl (by (first | rfl | assumption | (simp; done) | omega)) (by (first | assumption | exact ones_of rfl | exact encW_one _ | exact encB_one _ | (intro u hu; simp at hu; rcases hu with rfl | rfl <;> rfl) | (intro u hu; simp at hu; subst hu; rfl) | simp)) (by (repeat (first | exact Pick.head | apply Pick.tail | apply Pick.app))) (by (first | rfl | assumption | (simp; done) | omega)) ?_)
          refine JL.step (y_assign rfl) rfl rfl rfl ?_
          refine JL.nil ?_
          refine JE.then_normal ?_
          refine J.seq ?_
          refine J.region ?_
          refine JL.step (y_move rfl) rfl rfl rfl (JL.step (y_move rfl) rfl rfl rfl ?_)
          refine JL.loud rfl (l_callF e41 rfl rfl (Fc.on (Split.cons (by (repeat (first | exact Pick.head | apply Pick.tail | apply Pick.app))) (Split.cons (by (repeat (first | exact Pick.head | apply Pick.tail | apply Pick.app))) Split.nil)) (cslot _ d i x _ (by omega) hx)) ?_)
          rintro _ _ ⟨rfl, rfl⟩
          refine JL.step (y_move rfl) rfl rfl rfl (JL.step (y_extract rfl rfl) rfl rfl rfl (JL.step (y_extract rfl rfl) rfl rfl rfl ?_))
          refine JL.loud rfl (l_alloc hT rfl rfl (by (first | rfl | simp)) rfl (fun b26 => ?_))
          refine JL.loud rfl (l_storeAll hT rfl rfl rfl (by (first | rfl | assumption | (simp; done) | omega)) (by (first | assumption | exact ones_of rfl | exact encW_one _ | exact encB_one _ | (intro u hu; simp at hu; rcases hu with rfl | rfl <;> rfl) | (intro u hu; simp at hu; subst hu; rfl) | simp)) (by (repeat (first | exact Pick.head | apply Pick.tail | apply Pick.app))) (by (first | rfl | assumption | (simp; done) | omega)) ?_)
          refine JL.step (y_assign rfl) rfl rfl rfl ?_
          refine JL.nil ?_
          refine JE.then_normal ?_
          refine J.seq ?_
          refine J.region ?_
          refine JL.step (y_move rfl) rfl rfl rfl (JL.step (y_neq rfl rfl) rfl rfl rfl (JL.step (y_move rfl) rfl rfl rfl ?_))
          all_goals (first | (refine JL.gsplit_dec rfl rfl rfl (fun h => ?_) (fun h => ?_) <;> try (first | (exfalso; omega) | exact absurd rfl h)) | (refine JL.gsplit rfl rfl rfl (fun h => ?_) (fun h => ?_) <;> try (first | cases h | (exfalso; simp at h; done))) | skip)
          all_goals (first | refine JL.gskip rfl rfl rfl rfl rfl rfl ?_ | refine JL.gskipU rfl rfl rfl rfl rfl ?_ | refine JL.gstep rfl rfl rfl (y_move rfl) rfl rfl ?_)
          all_goals (first | refine JL.gskip rfl rfl rfl rfl rfl rfl ?_ | refine JL.gskipU rfl rfl rfl rfl rfl ?_ | refine JL.gstep rfl rfl rfl (y_neq rfl rfl) rfl rfl ?_)
          all_goals (refine JL.step (y_pick rfl rfl rfl) rfl rfl rfl ?_)
          all_goals (refine JL.step (y_move rfl) rfl rfl rfl ?_)
          all_goals (first | (refine JL.gsplit_dec rfl rfl rfl (fun h => ?_) (fun h => ?_) <;> try (first | (exfalso; omega) | exact absurd rfl h)) | (refine JL.gsplit rfl rfl rfl (fun h => ?_) (fun h => ?_) <;> try (first | cases h | (exfalso; simp at h; done))) | skip)
          all_goals (first | refine JL.gskip rfl rfl rfl rfl rfl rfl ?_ | refine JL.gskipU rfl rfl rfl rfl rfl ?_ | refine JL.gstep rfl rfl rfl (y_loadN hT rfl rfl rfl (by (first | exact RdN.rowAll (by (repeat (first | exact Pick.head | apply Pick.tail | apply Pick.app))) | exact RdN.own (by (repeat (first | exact Pick.head | apply Pick.tail | apply Pick.app))))) (by (first | rfl | assumption | (simp; done) | omega))) rfl rfl ?_)
          all_goals (first | refine JL.gskip rfl rfl rfl rfl rfl rfl ?_ | refine JL.gskipU rfl rfl rfl rfl rfl ?_ | refine JL.gstep rfl rfl rfl (y_loadN hT rfl rfl rfl (by (first | exact RdN.rowAll (by (repeat (first | exact Pick.head | apply Pick.tail | apply Pick.app))) | exact RdN.own (by (repeat (first | exact Pick.head | apply Pick.tail | apply Pick.app))))) (by (first | rfl | assumption | (simp; done) | omega))) rfl rfl ?_)
          all_goals (first | refine JL.gskip rfl rfl rfl rfl rfl rfl ?_ | refine JL.gskipU rfl rfl rfl rfl rfl ?_ | refine JL.gstep rfl rfl rfl (y_arr_ne (xs := x) (ys := x) hT rfl rfl rfl rfl rfl rfl rfl hx6 hx6) rfl rfl ?_)
          all_goals (refine JL.step (y_pick rfl rfl rfl) rfl rfl rfl ?_)
          all_goals (refine JL.step (y_move rfl) rfl rfl rfl ?_)
          all_goals (first | (refine JL.gsplit_dec rfl rfl rfl (fun h => ?_) (fun h => ?_) <;> try (first | (exfalso; omega) | exact absurd rfl h)) | (refine JL.gsplit rfl rfl rfl (fun h => ?_) (fun h => ?_) <;> try (first | cases h | (exfalso; simp at h; done))) | skip)
          all_goals (first | refine JL.gskip rfl rfl rfl rfl rfl rfl ?_ | refine JL.gskipU rfl rfl rfl rfl rfl ?_ | refine JL.gstep rfl rfl rfl (y_loadN hT rfl rfl rfl (by (first | exact RdN.rowAll (by (repeat (first | exact Pick.head | apply Pick.tail | apply Pick.app))) | exact RdN.own (by (repeat (first | exact Pick.head | apply Pick.tail | apply Pick.app))))) (by (first | rfl | assumption | (simp; done) | omega))) rfl rfl ?_)
          all_goals (first | refine JL.gskip rfl rfl rfl rfl rfl rfl ?_ | refine JL.gskipU rfl rfl rfl rfl rfl ?_ | refine JL.gstep rfl rfl rfl (y_loadN hT rfl rfl rfl (by (first | exact RdN.rowAll (by (repeat (first | exact Pick.head | apply Pick.tail | apply Pick.app))) | exact RdN.own (by (repeat (first | exact Pick.head | apply Pick.tail | apply Pick.app))))) (by (first | rfl | assumption | (simp; done) | omega))) rfl rfl ?_)
          all_goals (first | refine JL.gskip rfl rfl rfl rfl rfl rfl ?_ | refine JL.gskipU rfl rfl rfl rfl rfl ?_ | refine JL.gstep rfl rfl rfl (y_arr_ne (xs := x) (ys := x) hT rfl rfl rfl rfl rfl rfl rfl hx6 hx6) rfl rfl ?_)
          all_goals (refine JL.step (y_pick rfl rfl rfl) rfl rfl rfl ?_)
          all_goals refine JL.nil ?_
          all_goals refine JE.then_normal ?_
          all_goals
            refine J.cond_f rfl (by (first | rfl | assumption | (simp; done) | (simp; omega))) ?_
            refine J.skip ?_
        all_goals refine JE.block_normal ?_
        all_goals refine JE.then_normal ?_
        all_goals
          refine J.region ?_
          refine JL.step (y_add rfl rfl (by (first | exact wrap_i64 (by omega) (by omega) | rfl))) rfl rfl rfl ?_
          refine JL.step (y_move rfl) rfl rfl rfl ?_
          refine JL.nil ?_
      all_goals
        exact JE.round (s := i) (i + 1) (by omega) ⟨rfl, rfl, rfl, rfl, rfl, rfl, rfl, trivial⟩ (fun w q => q.sup (by (repeat (first | exact Sup.refl | apply Sup.cons (by (repeat (first | exact Pick.head | apply Pick.tail | apply Pick.app))) | apply Sup.app | apply Sup.skip | apply Sup.skips)))) (by omega)
  all_goals refine JE.then_normal ?_
  all_goals
    refine J.seq ?_
    refine J.block ?_
    refine J.seq ?_
    refine J.region ?_
    have hlt : j < n := by omega
    obtain ⟨gx, ox, rfl, hrx⟩ := hin2.addr (by omega)
    have hrx0 : RdN r gx ox (xs.flatMap encB) := hrx []
    obtain ⟨x, hx⟩ : ∃ x, xs[j]? = some x := ⟨_, List.getElem?_eq_getElem (by omega)⟩
    have hxl := hxL x (List.mem_of_getElem? hx)
    refine JL.step (y_move rfl) rfl rfl rfl ?_
    refine JL.step (y_indexAddr_slice hT rfl rfl rfl rfl rfl (by (first | omega | exact Nat.le_of_ble_eq_true rfl | decide | (simp; omega))) (by (first | omega | exact Nat.le_of_ble_eq_true rfl | decide | (simp; omega)))) rfl rfl rfl ?_
    refine JL.step (y_loadN hT rfl rfl rfl (RdN.elem (by (repeat (first | assumption | apply RdN.cons | apply RdN.app))) hxL hx) hxl) rfl rfl rfl ?_
    refine JL.loud rfl (l_alloc hT rfl rfl (by (first | rfl | simp)) rfl (fun b28 => ?_))
    refine JL.step (y_assign rfl) rfl rfl rfl ?_
    refine JL.loud rfl (l_storeAll hT rfl rfl rfl (by (first | rfl | assumption | (simp; done) | omega)) (by (first | assumption | exact ones_of rfl | exact encW_one _ | exact encB_one _ | (intro u hu; simp at hu; rcases hu with rfl | rfl <;> rfl) | (intro u hu; simp at hu; subst hu; rfl) | simp)) (by (repeat (first | exact Pick.head | apply Pick.tail | apply Pick.app))) (by (first | rfl | assumption | (simp; done) | omega)) ?_)
    refine JL.nil ?_
    refine JE.then_normal ?_
    refine J.seq ?_
    refine J.region ?_
    refine JL.step (y_move rfl) rfl rfl rfl (JL.step (y_move rfl) rfl rfl rfl ?_)
    refine JL.loud rfl (l_callF e42 rfl rfl (Fc.on (Split.cons (by (repeat (first | exact Pick.head | apply Pick.tail | apply Pick.app))) (Split.cons (by (repeat (first | exact Pick.head | apply Pick.tail | apply Pick.app))) Split.nil)) (cslots _ d sb0 (puts D1 xs j) _ (hput j).2.1 sb0_hash)) ?_)
    rintro _ _ ⟨rfl, rfl⟩
    refine JL.step (y_lss rfl rfl) rfl rfl rfl (JL.step (y_move rfl) rfl rfl rfl ?_)
    all_goals (first | (refine JL.gsplit_dec rfl rfl rfl (fun h => ?_) (fun h => ?_) <;> try (first | (exfalso; omega) | exact absurd rfl h)) | (refine JL.gsplit rfl rfl rfl (fun h => ?_) (fun h => ?_) <;> try (first | cases h | (exfalso; simp at h; done))) | skip)
    all_goals (first | refine JL.gskip rfl rfl rfl rfl rfl rfl ?_ | refine JL.gskipU rfl rfl rfl rfl rfl ?_ | refine JL.gstep rfl rfl rfl (y_move rfl) rfl rfl ?_)
    all_goals (first | refine JL.gskip rfl rfl rfl rfl rfl rfl ?_ | refine JL.gskipU rfl rfl rfl rfl rfl ?_ | refine JL.gstep rfl rfl rfl (y_move rfl) rfl rfl ?_)
    all_goals (first | refine JL.gskip rfl rfl rfl rfl rfl rfl ?_ | refine JL.gskipU rfl rfl rfl rfl rfl ?_ | refine JL.gstep rfl rfl rfl (y_loadN hT rfl rfl rfl (by (first | exact RdN.rowAll (by (repeat (first | exact Pick.head | apply Pick.tail | apply Pick.app))) | exact RdN.own (by (repeat (first | exact Pick.head | apply Pick.tail | apply Pick.app))))) (by (first | rfl | assumption | (simp; done) | omega))) rfl rfl ?_)
    all_goals (first | refine JL.gskip rfl rfl rfl rfl rfl rfl ?_ | refine JL.gskipU rfl rfl rfl rfl rfl ?_ | (refine JL.gloud rfl rfl rfl (l_callF e40 rfl rfl (Fc.on (Split.cons (by (repeat (first | exact Pick.head | apply Pick.tail | apply Pick.app))) (Split.cons (by (repeat (first | exact Pick.head | apply Pick.tail | apply Pick.app))) Split.nil)) (cput _ d j x _ (by omega) hx)) ?_); rintro _ _ ⟨rfl, rfl⟩))
    all_goals (first | refine JL.gskip rfl rfl rfl rfl rfl rfl ?_ | refine JL.gskipU rfl rfl rfl rfl rfl ?_ | refine JL.gstep rfl rfl rfl (y_neq rfl rfl) rfl rfl ?_)
    all_goals (refine JL.step (y_pick rfl rfl rfl) rfl rfl rfl ?_)
    all_goals refine JL.nil ?_
    all_goals refine JE.then_normal ?_
    all_goals
      refine J.cond_f rfl (by (first | rfl | assumption | (simp; done) | (simp; omega))) ?_
      refine J.skip ?_
    all_goals refine JE.block_normal ?_
    all_goals refine JE.then_normal ?_
    all_goals
      refine J.region ?_
      refine JL.step (y_add rfl rfl (by (first | exact wrap_i64 (by omega) (by omega) | rfl))) rfl rfl rfl ?_
      refine JL.step (y_move rfl) rfl rfl rfl ?_
      refine JL.nil ?_
  all_goals
    first
      | (have hk : j < 32 := by omega
         exact JE.round (s := j) (j + 1) (by omega) ⟨rfl, rfl, rfl, rfl, rfl, rfl, rfl, trivial⟩ (fun w q => q.sup (by (repeat (first | exact Sup.refl | apply Sup.cons (by (repeat (first | exact Pick.head | apply Pick.tail | apply Pick.app))) | apply Sup.app | apply Sup.skip | apply Sup.skips)))) (by omega))
      | (have e : puts D1 xs (j + 1) = puts D1 xs j := by rw [puts, if_neg (by omega)]
         refine JE.round (s := j) (j + 1) (by omega) ⟨rfl, rfl, rfl, rfl, rfl, rfl, rfl, trivial⟩ (fun w q => ?_) (by omega)
         rw [e]
         exact q.sup (by (repeat (first | exact Sup.refl | apply Sup.cons (by (repeat (first | exact Pick.head | apply Pick.tail | apply Pick.app))) | apply Sup.app | apply Sup.skip | apply Sup.skips))))
end
section
open Go.ChangeShapes Go.WideShapes Go.ChangeAt Go.RowKit
set_option maxRecDepth 100000 in
theorem tr_blocks {H : Type} {enc : TypeId × Value → H} {w : World} {ok : DataW H → Prop} {L : Nat → Prop} {v : Value} (her : Her ok L) (h : Tr enc prog ok w 35 [v]) :
    ∃ (p : Option Addr) (cap : Nat) (xs : List Blk), v = .slice p xs.length cap ∧ L xs.length ∧ (∀ x ∈ xs, x.length = 64) ∧ InW w p xs.length cap (xs.flatMap encB) := by
  obtain ⟨p, cap, xs, h1, hL, hk, h2⟩ := Tr.slice (encA := encB) (okA := fun x : Blk => x.length = 64) (k := 64) her u35 (by kernel_rfl) (by decide) (fun a ha => (encB_length a).trans ha) (fun cs hc => by
    obtain ⟨b, e, hb, _⟩ := tr_block her hc
    exact ⟨b, e, hb⟩) h
  exact ⟨p, cap, xs, h1, hL, hk, h2⟩
theorem extent_apart_reads : ∀ t ∈ Try.f13.params.toList, Try.prog.readableRec t = true ∧ t < Try.prog.types.size := by
  rw [Try.params13]
  intro t ht
  simp only [List.mem_cons, List.not_mem_nil, or_false] at ht
  rcases ht with rfl | rfl
  all_goals exact ⟨by kernel_rfl, of_decide_eq_true (by kernel_rfl)⟩
set_option maxRecDepth 100000 in
theorem extent_apart_contract (H : Type) (enc : TypeId × Value → H) (W : World) (base : Nat) (args : Array Value) (ds gs : List (DataW H)) (before : List MemPlace)
    (hval : ∀ (j : Nat) t v, Try.f13.params[j]? = some t → args[j]? = some v → Value.okWide Try.prog W .any base t v)
    (hW : DataW.Whole enc Try.prog Try.f13.params.toList Rows.extentApartSpec.vars false W args.toList ds gs before) :
    Calls Try.prog 13 args W fun e W' => ∃ v, e = .returned v ∧ Rows.extentApartSpec.post enc Try.prog Try.f13 false true false false W args v W' := by
  have hW' := hW
  obtain ⟨p, q, hA0, hV, rfl, hfz, hnd⟩ := hW
  have hA : DataW.TrodAll enc Try.prog W 0 (fun _ => true) true Try.f13.params.toList args.toList ds p := hA0
  rw [Try.params13] at hA hval
  obtain ⟨v0, vs0, d0, ds0, p0, q0, hargs, rfl, rfl, h0, r0⟩ := trodAll_cons hA
  obtain ⟨v1, vs1, d1, ds1, p1, q1, rfl, rfl, rfl, h1, r1⟩ := trodAll_cons r0
  obtain ⟨rfl, rfl, rfl⟩ := trodAll_nil r1
  obtain rfl : args = #[v0, v1] := by cases args; simp_all
  obtain ⟨rfl, rfl⟩ := trodVars_none hV
  clear hA0
  have t0 : Tr enc prog (fun _ => True) W 73 [v0] := Tr.ofSlice u73 (hval 0 73 v0 rfl rfl) h0 trivial
  have t1 : Tr enc prog (fun _ => True) W 35 [v1] := Tr.ofSlice u35 (hval 1 35 v1 rfl rfl) h1 trivial
  obtain ⟨p1, c1, b, rfl, _, hb, hin1⟩ := tr_bytesR Her.all t0
  obtain ⟨p2, c2, xs, rfl, _, hx, hin2⟩ := tr_blocks Her.all t1
  refine ((extent_apart W p1 p2 c1 c2 b xs [old W] (hin1.inl []) (hin2.inl []) hb hx) W (Sat.start W)).mono fun e W' hq => ?_
  obtain ⟨v, l', rfl, hs, rfl, rfl⟩ := hq
  exact ⟨_, rfl, law_post laidOut_ rfl rfl u4 extent_apart_reads hW' rfl rfl rfl hs.below⟩
set_option maxRecDepth 100000 in
theorem extent_apart_lifted (os : Os) (started : os.Started) (H : Type) (enc : TypeId × Value → H) :
    ReturnsInHanded {} Try.checked os 13 .any (Rows.extentApartSpec.pre6 enc Try.prog Try.f13 Rows.extentApartRow.domain false) (Rows.extentApartSpec.post enc Try.prog Try.f13 false true false false) := by
  refine returnsInHanded_of_change (C := Try.checked) own_ started (by kernel_rfl) Try.func13
    (ChangeSpec.witness6 (enc := enc) (C := Try.checked) false ⟨#[], #[.slice none 0 0, .slice none 0 0], []⟩ 8 (by kernel_rfl) (by kernel_rfl) (by kernel_rfl) (by kernel_rfl)) ?_
  intro W base args ds gs before hval hW _ _
  exact extent_apart_contract H enc W base args ds gs before hval hW
theorem extent_apart_holds : Rows.ExtentApartSaid :=
  OpenClaim.holds_of_wide 13 Try.f13 rfl rfl rfl rfl rfl rfl rfl ⟨rfl, rfl, rfl, rfl, rfl⟩ rfl rfl rfl rfl rfl (by kernel_rfl) Try.func13 (by kernel_rfl)
    (of_decide_eq_true (by kernel_rfl)) (by unfold Func.isWrapper; first | (rw [if_pos (by decide +kernel)]; kernel_rfl) | (rw [if_neg (by decide +kernel)]; exact ⟨rfl, rfl⟩))
    (fun os started H enc _ => extent_apart_lifted os started H enc)
end
end Go.Proofs.Ytilifeeddpkclaa
