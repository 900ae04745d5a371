import Derived.Test.YtimekohdlofmaaaGreatJoin1
import Derived.Test.YtimekohdlofmaaaGreatJoin2
import Derived.Test.YtimekohdlofmaaaGreatJoin3
import Derived.Test.YtimekohdlofmaaaGreatJoin6
import Derived.Test.YtimekohdlofmaaaGreatJoin7
/- Chapter 14's records, as far as the entry wants them: what goes up. -/
namespace Go.Proofs.YtimekohdlofmaaaGreat
open Go Go.SL
section
attribute [local irreducible] J JL JE JM LS Y Fc RV Code.wp wpList Code.wpIn wpListIn
attribute [local irreducible] Yc
variable (E : World)
/-- How long an onion, a reply of so many hops is. -/
def onionN (h : Int) : Int := if 1 ≤ h ∧ h ≤ 3 then 146 + 48 * h else 0
def replyN (h : Int) : Int := if 1 ≤ h ∧ h ≤ 3 then 130 + 16 * h else 0
theorem onion_spec (hh : Int) (l : List HProp) : Fc prog E 23 [.int .i64 hh].toArray l (fun v l' => v = .int .i64 (onionN hh) ∧ l' = l) := by
  refine Fc.mono (R := fun v l' => ∃ b : Int, v = .int .i64 b ∧ b = onionN hh ∧ l' = l) ?_ fun v l' q => by
    obtain ⟨b, rfl, rfl, rfl⟩ := q
    exact ⟨rfl, rfl⟩
  refine Jt (c := ?codeC) Tryz.func23 ?hb Tryz.ntmps23 ?hl ?_
  case hb => exact rfl
  case hl => exact rfl
  refine Jh ?_
  refine Jc ?_
  refine Ja (Jd rfl) O O O ?_
  refine Jg ?_
  refine Jb ?_
  refine Jh ?_
  refine Jh ?_
  refine Jc ?_
  refine Ja (Je rfl) O O O (Ja (y_lss O O) O O O (Ja (Je rfl) O O O ?_))
  all_goals (first | (refine Vm O O O (fun h => ?_) (fun h => ?_) <;> try (first | (exfalso; omega) | exact absurd rfl h)) | (refine Vz O O O (fun h => ?_) (fun h => ?_) <;> try (first | cases h | (exfalso; simp at h; done))) | skip)
  all_goals (first | refine Ju O O O O O O ?_ | refine Jr O O O O O ?_ | refine Jw O O O (Je rfl) O O ?_)
  all_goals (first | refine Ju O O O O O O ?_ | refine Jr O O O O O ?_ | refine Jw O O O (y_gtr O O) O O ?_)
  all_goals (refine Ja (y_pick O O O) O O O ?_)
  all_goals refine Jg ?_
  all_goals refine Jb ?_
  all_goals
    first | apply Va rfl | apply Vt rfl
    case' ht =>
      intro h
      try (first | (exfalso; omega) | (cases h; done) | (exfalso; simp at h; done) | subst h)
      all_goals
        refine Jh ?_
        refine Jc ?_
        refine Ja (Jd rfl) O O O ?_
        refine Jg ?_
        refine Jb ?_
        refine Vl ?_
        refine Jz ?_
        refine Vk (.inl rfl) O O zrv ?_
        refine ⟨_, rfl, ?_, rfl⟩
        unfold onionN
        split <;> simp at * <;> omega
    case' hf =>
      intro h
      try (first | (exfalso; omega) | (cases h; done) | (exfalso; simp at h; done) | subst h)
      all_goals
        refine Ve ?_
  all_goals refine Jb ?_
  all_goals
    refine Jh ?_
    refine Jc ?_
    refine Ja (Je rfl) O O O ?_
    refine Ja (y_mul O O zwr) O O O ?_
    refine Ja (Wc O O zwr) O O O ?_
    refine Ja (Jd rfl) O O O ?_
    refine Jg ?_
    refine Jb ?_
    refine Vl ?_
    refine Vk (.inl rfl) O O zrv ?_
    refine ⟨_, rfl, ?_, rfl⟩
    unfold onionN
    split <;> simp at * <;> omega
theorem reply_spec (hh : Int) (l : List HProp) : Fc prog E 27 [.int .i64 hh].toArray l (fun v l' => v = .int .i64 (replyN hh) ∧ l' = l) := by
  refine Fc.mono (R := fun v l' => ∃ b : Int, v = .int .i64 b ∧ b = replyN hh ∧ l' = l) ?_ fun v l' q => by
    obtain ⟨b, rfl, rfl, rfl⟩ := q
    exact ⟨rfl, rfl⟩
  refine Jt (c := ?codeC) Tryz.func27 ?hb Tryz.ntmps27 ?hl ?_
  case hb => exact rfl
  case hl => exact rfl
  refine Jh ?_
  refine Jc ?_
  refine Ja (Jd rfl) O O O ?_
  refine Jg ?_
  refine Jb ?_
  refine Jh ?_
  refine Jh ?_
  refine Jc ?_
  refine Ja (Je rfl) O O O (Ja (y_lss O O) O O O (Ja (Je rfl) O O O ?_))
  all_goals (first | (refine Vm O O O (fun h => ?_) (fun h => ?_) <;> try (first | (exfalso; omega) | exact absurd rfl h)) | (refine Vz O O O (fun h => ?_) (fun h => ?_) <;> try (first | cases h | (exfalso; simp at h; done))) | skip)
  all_goals (first | refine Ju O O O O O O ?_ | refine Jr O O O O O ?_ | refine Jw O O O (Je rfl) O O ?_)
  all_goals (first | refine Ju O O O O O O ?_ | refine Jr O O O O O ?_ | refine Jw O O O (y_gtr O O) O O ?_)
  all_goals (refine Ja (y_pick O O O) O O O ?_)
  all_goals refine Jg ?_
  all_goals refine Jb ?_
  all_goals
    first | apply Va rfl | apply Vt rfl
    case' ht =>
      intro h
      try (first | (exfalso; omega) | (cases h; done) | (exfalso; simp at h; done) | subst h)
      all_goals
        refine Jh ?_
        refine Jc ?_
        refine Ja (Jd rfl) O O O ?_
        refine Jg ?_
        refine Jb ?_
        refine Vl ?_
        refine Jz ?_
        refine Vk (.inl rfl) O O zrv ?_
        refine ⟨_, rfl, ?_, rfl⟩
        unfold replyN
        split <;> simp at * <;> omega
    case' hf =>
      intro h
      try (first | (exfalso; omega) | (cases h; done) | (exfalso; simp at h; done) | subst h)
      all_goals
        refine Ve ?_
  all_goals refine Jb ?_
  all_goals
    refine Jh ?_
    refine Jc ?_
    refine Ja (Je rfl) O O O ?_
    refine Ja (y_mul O O zwr) O O O ?_
    refine Ja (Wc O O zwr) O O O ?_
    refine Ja (Jd rfl) O O O ?_
    refine Jg ?_
    refine Jb ?_
    refine Vl ?_
    refine Vk (.inl rfl) O O zrv ?_
    refine ⟨_, rfl, ?_, rfl⟩
    unfold replyN
    split <;> simp at * <;> omega
def onionB (n : Int) : Bool := decide (n = 194 ∨ n = 242 ∨ n = 290)
theorem sized_spec (n : Int) (l : List HProp) : Fc prog E 73 [.int .i64 n, .func (.func 23) #[] #[]].toArray l (fun v l' => v = .bool (onionB n) ∧ l' = l) := by
  refine Fc.eqs ?_
  refine Jt (c := ?codeC) Tryz.func73 ?hb Tryz.ntmps73 ?hl ?_
  case hb => exact rfl
  case hl => exact rfl
  refine Jh ?_
  refine Jc ?_
  refine Ja (Jd rfl) O O O ?_
  refine Jg ?_
  refine Jb ?_
  refine Jh ?_
  refine Jh ?_
  refine Jc ?_
  refine Ja (Jd rfl) O O O ?_
  refine Jg ?_
  refine Jb ?_
  refine Vj ?_
  refine J.loop (α := Nat) (fun j => 1 ≤ j ∧ j ≤ 4 ∧ ∀ i : Nat, 1 ≤ i → i < j → onionN i ≠ n) (fun j => [(0, .int .i64 n), (1, .func (.func 23) #[] #[]), (5, .int .i64 j)]) (fun _ => l) (fun j => 4 - j) 1 ⟨by omega, by omega, fun i h1 h2 => by omega⟩ ⟨O, O, O, trivial⟩ (fun w h => h) ?_
  rintro j ⟨hj1, hj2, hj3⟩
  refine Jh ?_
  refine Jh ?_
  refine Jc ?_
  refine Ja (Je rfl) O O O (Ja (y_leq O O) O O O ?_)
  refine Jg ?_
  refine Jb ?_
  first | apply Va rfl | apply Vt rfl
  case' ht =>
    intro h
    try (first | (exfalso; omega) | (cases h; done) | (exfalso; simp at h; done) | subst h)
    all_goals
      refine Ve ?_
  case' hf =>
    intro h
    try (first | (exfalso; omega) | (cases h; done) | (exfalso; simp at h; done) | subst h)
    all_goals
      have hfin : onionB n = false := decide_eq_false (by
        have h1 := hj3 1 (by omega) (by omega)
        have h2 := hj3 2 (by omega) (by omega)
        have h3 := hj3 3 (by omega) (by omega)
        unfold onionN at h1 h2 h3
        rw [if_pos (by omega)] at h1 h2 h3
        omega)
      refine J.exit ?_
      refine Vc ?_
      refine Vc ?_
      refine Vs ?_
      refine Jb ?_
      refine Jh ?_
      refine Jc ?_
      refine Ja (Jd rfl) O O O ?_
      refine Jg ?_
      refine Jb ?_
      refine Vl ?_
      refine Vk (.inl rfl) O O zrv ?_
      exact ⟨by rw [hfin], fun w h => h⟩
  all_goals refine Jb ?_
  all_goals
    refine Jh ?_
    refine Vj ?_
    refine Jh ?_
    refine Jc ?_
    refine Ja (Je rfl) O O O (Ja (Je rfl) O O O ?_)
    refine Jj rfl (l_callV e23 O O O (onion_spec E j _) ?_)
    rintro _ _ ⟨rfl, rfl⟩
    refine Ja (Je rfl) O O O (Ja (y_eql O O) O O O ?_)
    refine Jg ?_
    refine Jb ?_
    first | apply Va rfl | apply Vt rfl
    case' ht =>
      intro h
      try (first | (exfalso; omega) | (cases h; done) | (exfalso; simp at h; done) | subst h)
      all_goals
        have hfin : onionB (onionN (j : Int)) = true := decide_eq_true (by
          unfold onionN
          rw [if_pos (by omega)]
          omega)
        refine Jh ?_
        refine Jc ?_
        refine Ja (Jd rfl) O O O ?_
        refine Jg ?_
        refine Jb ?_
        refine Vl ?_
        refine Vr ?_
        refine Jz ?_
        refine Jz ?_
        refine Vr ?_
        refine Jz ?_
        refine Vk (.inl rfl) O O zrv ?_
        exact ⟨by rw [hfin], fun w h => h⟩
    case' hf =>
      intro h
      try (first | (exfalso; omega) | (cases h; done) | (exfalso; simp at h; done) | subst h)
      all_goals
        have hj4 : ∀ i : Nat, 1 ≤ i → i < j + 1 → onionN i ≠ n := fun i h1 h2 => by
          rcases Nat.lt_or_ge i j with q | q
          · exact hj3 i h1 q
          · obtain rfl : i = j := by omega
            exact h
        refine Ve ?_
    all_goals refine Jv ?_
    all_goals refine Jb ?_
    all_goals
      refine Jc ?_
      refine Ja (Je rfl) O O O ?_
      refine Ja (Wc O O zwr) O O O ?_
      refine Ja (Jd rfl) O O O ?_
      refine Jg ?_
  all_goals
    exact Vy (s := j) (j + 1) ⟨by omega, by omega, hj4⟩ ⟨rfl, rfl, (congrArg (fun z => some (Value.int .i64 z)) (by first | omega | (dsimp only; omega))), trivial⟩ (fun w h => h) (by omega)
def endsB (c s : Int) (r : BitVec 64) : Bool := decide (0 ≤ c ∧ c < 4 ∧ 0 ≤ s ∧ s < 3 ∧ 0 < r.toNat)
theorem ends_spec (c s : Int) (r : BitVec 64) (l : List HProp) : Fc prog E 72 [.int .i64 c, .int .i64 s, Q r].toArray l (fun v l' => v = .bool (endsB c s r) ∧ l' = l) := by
  refine Fc.mono (R := fun v l' => ∃ b : Bool, v = .bool b ∧ b = endsB c s r ∧ l' = l) ?_ fun v l' q => by
    obtain ⟨b, rfl, rfl, rfl⟩ := q
    exact ⟨rfl, rfl⟩
  refine Jt (c := ?codeC) Tryz.func72 ?hb Tryz.ntmps72 ?hl ?_
  case hb => exact rfl
  case hl => exact rfl
  refine Jh ?_
  refine Jc ?_
  refine Ja (Jd rfl) O O O ?_
  refine Jg ?_
  refine Jb ?_
  refine Jh ?_
  refine Jc ?_
  refine Ja (Je rfl) O O O (Ja (y_geq O O) O O O (Ja (Je rfl) O O O ?_))
  all_goals (first | (refine Vm O O O (fun h => ?_) (fun h => ?_) <;> try (first | (exfalso; omega) | exact absurd rfl h)) | (refine Vz O O O (fun h => ?_) (fun h => ?_) <;> try (first | cases h | (exfalso; simp at h; done))) | skip)
  all_goals (first | refine Ju O O O O O O ?_ | refine Jr O O O O O ?_ | refine Jw O O O (Je rfl) O O ?_)
  all_goals (first | refine Ju O O O O O O ?_ | refine Jr O O O O O ?_ | refine Jw O O O (y_lss O O) O O ?_)
  all_goals (refine Ja (y_pick O O O) O O O ?_)
  all_goals (refine Ja (Je rfl) O O O ?_)
  all_goals (first | (refine Vm O O O (fun h => ?_) (fun h => ?_) <;> try (first | (exfalso; omega) | exact absurd rfl h)) | (refine Vz O O O (fun h => ?_) (fun h => ?_) <;> try (first | cases h | (exfalso; simp at h; done))) | skip)
  all_goals (first | refine Ju O O O O O O ?_ | refine Jr O O O O O ?_ | refine Jw O O O (Je rfl) O O ?_)
  all_goals (first | refine Ju O O O O O O ?_ | refine Jr O O O O O ?_ | refine Jw O O O (y_geq O O) O O ?_)
  all_goals (refine Ja (y_pick O O O) O O O ?_)
  all_goals (refine Ja (Je rfl) O O O ?_)
  all_goals (first | (refine Vm O O O (fun h => ?_) (fun h => ?_) <;> try (first | (exfalso; omega) | exact absurd rfl h)) | (refine Vz O O O (fun h => ?_) (fun h => ?_) <;> try (first | cases h | (exfalso; simp at h; done))) | skip)
  all_goals (first | refine Ju O O O O O O ?_ | refine Jr O O O O O ?_ | refine Jw O O O (Je rfl) O O ?_)
  all_goals (first | refine Ju O O O O O O ?_ | refine Jr O O O O O ?_ | refine Jw O O O (y_lss O O) O O ?_)
  all_goals (refine Ja (y_pick O O O) O O O ?_)
  all_goals (refine Ja (Je rfl) O O O ?_)
  all_goals (first | (refine Vm O O O (fun h => ?_) (fun h => ?_) <;> try (first | (exfalso; omega) | exact absurd rfl h)) | (refine Vz O O O (fun h => ?_) (fun h => ?_) <;> try (first | cases h | (exfalso; simp at h; done))) | skip)
  all_goals (first | refine Ju O O O O O O ?_ | refine Jr O O O O O ?_ | refine Jw O O O (Je rfl) O O ?_)
  all_goals (first | refine Ju O O O O O O ?_ | refine Jr O O O O O ?_ | refine Jw O O O (y_gtr (i := (r.toNat : Int)) (j := 0) O O) O O ?_)
  all_goals (refine Ja (y_pick O O O) O O O ?_)
  all_goals (refine Ja (Jd rfl) O O O ?_)
  all_goals refine Jg ?_
  all_goals refine Jb ?_
  all_goals
    refine Vl ?_
    refine Vk (.inl rfl) O O zrv ?_
    refine ⟨_, rfl, ?_, rfl⟩
    unfold endsB
    first | (exact (decide_eq_true (by simp at *; omega)).symm) | (exact (decide_eq_false (by simp at *; omega)).symm) | (rw [decide_eq_decide]; simp at *; omega)
theorem fill_b3 (f : Nat → Value) (a b c : Int) : Instr.fill (fun i => some (i * 1, 1)) ((Array.range (3 * 1)).map f) [(0, .int .u8 a), (1, .int .u8 b), (2, .int .u8 c)] = some (ints .u8 [a, b, c]).toArray := by
  have h := fill_eq (fun i => some (i * 1, 1)) [(0, 1), (1, 1), (2, 1)] [(0, .int .u8 a), (1, .int .u8 b), (2, .int .u8 c)] ((Array.range (3 * 1)).map f).toList (by intro q hq; simp at hq; rcases hq with rfl | rfl | rfl <;> rfl) (by simp [fillOk, Value.cells])
  have e : ((Array.range (3 * 1)).map f).toList = [f 0, f 1, f 2] := by
    rw [Array.toList_map, Array.toList_range]
    rfl
  rw [show ((Array.range (3 * 1)).map f) = ((Array.range (3 * 1)).map f).toList.toArray from rfl, h, e]
  rfl
/-- A packet's bytes. -/
def packB (k c s : Int) (r : BitVec 64) (bs : List Int) : List Int := [k, c, s] ++ leB 8 r ++ bs
theorem fput_spec (k c s : Int) (r : BitVec 64) (p : Option Addr) (cap n : Nat) (bs : List Int) (l : List HProp) (hc : 0 ≤ c ∧ c ≤ 255) (hs : 0 ≤ s ∧ s ≤ 255) (hn : bs.length = n) (hn2 : n ≤ 1073741824) (hin : InL l p n cap (ints .u8 bs)) :
    Fc prog E 74 [.int .u8 k, .int .i64 c, .int .i64 s, Q r, .slice p n cap].toArray l (fun v l' => ∃ a c', v = .slice a (11 + n) c' ∧ l' = own 5 1 v (11 + n) (ints .u8 (packB k c s r bs)) :: l) := by
  have hbl : (ints .u8 bs).length = bs.length := by simp [ints]
  refine Wi ?_
  refine Jt (c := ?codeC) Tryz.func74 ?hb Tryz.ntmps74 ?hl ?_
  case hb => exact rfl
  case hl => exact rfl
  refine Jh ?_
  refine Jc ?_
  refine Ja (Jd rfl) O O O ?_
  refine Jg ?_
  refine Jb ?_
  refine Jh ?_
  refine Jc ?_
  refine Ja (Je rfl) O O O (Ja (Je rfl) O O O ?_)
  refine Ja (y_conv (m := c) hT O O O O (by rw [show IntKind.u8.wrap c = c % 256 by simp [IntKind.wrap, IntKind.bits, IntKind.signed]]; omega)) O O O ?_
  refine Ja (Je rfl) O O O ?_
  refine Ja (y_conv (m := s) hT O O O O (by rw [show IntKind.u8.wrap s = s % 256 by simp [IntKind.wrap, IntKind.bits, IntKind.signed]]; omega)) O O O ?_
  refine Jj rfl (l_buildSliceP (cs := ints .u8 [k, c, s]) hT O O O O O O O (fill_b3 _ _ _ _) rfl (fun b1 => ?_))
  refine Ja (Je rfl) O O O ?_
  refine Jj rfl (Js e111 O O ((octPut64_spec E (some ⟨b1, 0, none⟩) 3 [k, c, s] r _ ⟨Nat.le_refl _, by decide, .inl ⟨b1, 0, rfl, fun m => RdN.rowAll (Vn m Jp)⟩⟩ (by simp))) ?_)
  rintro _ _ ⟨a1, c1, rfl, rfl⟩
  refine Ja (Je rfl) O O O ?_
  refine Jj rfl (l_appendIn hT O O O O O O O O zpk (hin.cons _ |>.cons _) (by rw [hbl, hn, show i5.size = 1 from rfl]; omega) (ints_one _ _) (by rw [show i5.bytes = 1 from rfl]; simp; omega) (by simp; omega) rfl (fun q c2 hc2 => ?_))
  refine Ja (Jd rfl) O O O ?_
  refine Jg ?_
  refine Jb ?_
  refine Vl ?_
  refine Vk (.inl rfl) O O zrv ?_
  refine ⟨own 5 1 (.slice q (11 + n) c2) (11 + n) (ints .u8 (packB k c s r bs)) :: l, fun w h => ?_, q, c2, rfl, rfl⟩
  have e : ints .u8 (packB k c s r bs) = ints .u8 ([k, c, s] ++ leB 8 r) ++ ints .u8 bs := by simp [packB, ints]
  rw [e]
  exact h.sup zsup
theorem putup_spec (c s : Int) (r : BitVec 64) (p : Option Addr) (cap n : Nat) (bs : List Int) (l : List HProp) (hn : bs.length = n) (hn2 : n ≤ 1073741824) (hin : InL l p n cap (ints .u8 bs)) :
    Fc prog E 24 [.agg #[.int .i64 c, .int .i64 s, Q r, .slice p n cap]].toArray l (fun v l' => (endsB c s r = true ∧ onionB n = true ∧ ∃ a c', v = .tuple #[.slice a (11 + n) c', .int .i64 0] ∧ l' = own 5 1 (.slice a (11 + n) c') (11 + n) (ints .u8 (packB 2 c s r bs)) :: l) ∨ ((endsB c s r && onionB n) = false ∧ v = .tuple #[.slice none 0 0, .int .i64 241] ∧ l' = l)) := by
  refine Wi ?_
  cases he : endsB c s r with
  | false =>
    refine Jt (c := ?codeC) Tryz.func24 ?hb Tryz.ntmps24 ?hl ?_
    case hb => exact rfl
    case hl => exact rfl
    refine Jh ?_
    refine Jc ?_
    refine Jj rfl (l_box (cs := [.int .i64 c, .int .i64 s, Q r, .slice p n cap]) O O O (fun bo => ?_))
    refine Ja (Jd rfl) O O O (Ja (Jd rfl) O O O ?_)
    refine Jg ?_
    refine Jb ?_
    refine Jh ?_
    refine Jh ?_
    refine Jc ?_
    refine Ja (Jk hT O O O O O O) O O O ?_
    refine Ja (Jo hT O O O zrd) O O O ?_
    refine Ja (Jk hT O O O O O O) O O O ?_
    refine Ja (Jo hT O O O zrd) O O O ?_
    refine Ja (Jk hT O O O O O O) O O O ?_
    refine Ja (Jo hT O O O zrd) O O O ?_
    refine Jj rfl (Js e72 O O ((ends_spec E c s r _)) ?_)
    rintro _ _ ⟨rfl, rfl⟩
    rw [he]
    refine Ja (y_not rfl) O O O (Ja (Je rfl) O O O ?_)
    all_goals (first | (refine Vm O O O (fun h => ?_) (fun h => ?_) <;> try (first | (exfalso; omega) | exact absurd rfl h)) | (refine Vz O O O (fun h => ?_) (fun h => ?_) <;> try (first | cases h | (exfalso; simp at h; done))) | skip)
    all_goals (first | refine Ju O O O O O O ?_ | refine Jr O O O O O ?_ | refine Jw O O O (Jk hT O O O O O O) O O ?_)
    all_goals (first | refine Ju O O O O O O ?_ | refine Jr O O O O O ?_ | refine Jw O O O (Jo hT O O O zrd) O O ?_)
    all_goals (first | refine Ju O O O O O O ?_ | refine Jr O O O O O ?_ | refine Jw O O O (Vh hT O O O) O O ?_)
    all_goals (first | refine Ju O O O O O O ?_ | refine Jr O O O O O ?_ | (refine JL.gloud O O O (Js e73 O O (sized_spec E _ _) ?_); rintro _ _ ⟨rfl, rfl⟩))
    all_goals (first | refine Ju O O O O O O ?_ | refine Jr O O O O O ?_ | refine Jw O O O (y_not rfl) O O ?_)
    all_goals (refine Ja (y_pick O O O) O O O ?_)
    all_goals refine Jg ?_
    all_goals refine Jb ?_
    all_goals
      refine J.cond_t rfl zbl ?_
      refine Jh ?_
      refine Jc ?_
      refine Ja (Jd rfl) O O O (Ja (Jd rfl) O O O ?_)
      refine Jg ?_
      refine Jb ?_
      refine Vl ?_
      refine Jz ?_
      refine Wg (.inl rfl) O O zrv zrv ?_
      exact ⟨l, fun w h => h.sup zsup, .inr ⟨rfl, rfl, rfl⟩⟩
  | true =>
    have hcs : 0 ≤ c ∧ c < 4 ∧ 0 ≤ s ∧ s < 3 ∧ 0 < r.toNat := of_decide_eq_true he
    cases ho : onionB n with
    | false =>
      refine Jt (c := ?codeC) Tryz.func24 ?hb Tryz.ntmps24 ?hl ?_
      case hb => exact rfl
      case hl => exact rfl
      refine Jh ?_
      refine Jc ?_
      refine Jj rfl (l_box (cs := [.int .i64 c, .int .i64 s, Q r, .slice p n cap]) O O O (fun bo => ?_))
      refine Ja (Jd rfl) O O O (Ja (Jd rfl) O O O ?_)
      refine Jg ?_
      refine Jb ?_
      refine Jh ?_
      refine Jh ?_
      refine Jc ?_
      refine Ja (Jk hT O O O O O O) O O O ?_
      refine Ja (Jo hT O O O zrd) O O O ?_
      refine Ja (Jk hT O O O O O O) O O O ?_
      refine Ja (Jo hT O O O zrd) O O O ?_
      refine Ja (Jk hT O O O O O O) O O O ?_
      refine Ja (Jo hT O O O zrd) O O O ?_
      refine Jj rfl (Js e72 O O ((ends_spec E c s r _)) ?_)
      rintro _ _ ⟨rfl, rfl⟩
      rw [he]
      refine Ja (y_not rfl) O O O (Ja (Je rfl) O O O ?_)
      all_goals (first | (refine Vm O O O (fun h => ?_) (fun h => ?_) <;> try (first | (exfalso; omega) | exact absurd rfl h)) | (refine Vz O O O (fun h => ?_) (fun h => ?_) <;> try (first | cases h | (exfalso; simp at h; done))) | skip)
      all_goals (first | refine Ju O O O O O O ?_ | refine Jr O O O O O ?_ | refine Jw O O O (Jk hT O O O O O O) O O ?_)
      all_goals (first | refine Ju O O O O O O ?_ | refine Jr O O O O O ?_ | refine Jw O O O (Jo hT O O O zrd) O O ?_)
      all_goals (first | refine Ju O O O O O O ?_ | refine Jr O O O O O ?_ | refine Jw O O O (Vh hT O O O) O O ?_)
      all_goals (first | refine Ju O O O O O O ?_ | refine Jr O O O O O ?_ | (refine JL.gloud O O O (Js e73 O O (sized_spec E _ _) ?_); rintro _ _ ⟨rfl, rfl⟩))
      rw [ho]
      all_goals (first | refine Ju O O O O O O ?_ | refine Jr O O O O O ?_ | refine Jw O O O (y_not rfl) O O ?_)
      all_goals (refine Ja (y_pick O O O) O O O ?_)
      all_goals refine Jg ?_
      all_goals refine Jb ?_
      all_goals
        refine J.cond_t rfl zbl ?_
        refine Jh ?_
        refine Jc ?_
        refine Ja (Jd rfl) O O O (Ja (Jd rfl) O O O ?_)
        refine Jg ?_
        refine Jb ?_
        refine Vl ?_
        refine Jz ?_
        refine Wg (.inl rfl) O O zrv zrv ?_
        exact ⟨l, fun w h => h.sup zsup, .inr ⟨rfl, rfl, rfl⟩⟩
    | true =>
      refine Jt (c := ?codeC) Tryz.func24 ?hb Tryz.ntmps24 ?hl ?_
      case hb => exact rfl
      case hl => exact rfl
      refine Jh ?_
      refine Jc ?_
      refine Jj rfl (l_box (cs := [.int .i64 c, .int .i64 s, Q r, .slice p n cap]) O O O (fun bo => ?_))
      refine Ja (Jd rfl) O O O (Ja (Jd rfl) O O O ?_)
      refine Jg ?_
      refine Jb ?_
      refine Jh ?_
      refine Jh ?_
      refine Jc ?_
      refine Ja (Jk hT O O O O O O) O O O ?_
      refine Ja (Jo hT O O O zrd) O O O ?_
      refine Ja (Jk hT O O O O O O) O O O ?_
      refine Ja (Jo hT O O O zrd) O O O ?_
      refine Ja (Jk hT O O O O O O) O O O ?_
      refine Ja (Jo hT O O O zrd) O O O ?_
      refine Jj rfl (Js e72 O O ((ends_spec E c s r _)) ?_)
      rintro _ _ ⟨rfl, rfl⟩
      rw [he]
      refine Ja (y_not rfl) O O O (Ja (Je rfl) O O O ?_)
      all_goals (first | (refine Vm O O O (fun h => ?_) (fun h => ?_) <;> try (first | (exfalso; omega) | exact absurd rfl h)) | (refine Vz O O O (fun h => ?_) (fun h => ?_) <;> try (first | cases h | (exfalso; simp at h; done))) | skip)
      all_goals (first | refine Ju O O O O O O ?_ | refine Jr O O O O O ?_ | refine Jw O O O (Jk hT O O O O O O) O O ?_)
      all_goals (first | refine Ju O O O O O O ?_ | refine Jr O O O O O ?_ | refine Jw O O O (Jo hT O O O zrd) O O ?_)
      all_goals (first | refine Ju O O O O O O ?_ | refine Jr O O O O O ?_ | refine Jw O O O (Vh hT O O O) O O ?_)
      all_goals (first | refine Ju O O O O O O ?_ | refine Jr O O O O O ?_ | (refine JL.gloud O O O (Js e73 O O (sized_spec E _ _) ?_); rintro _ _ ⟨rfl, rfl⟩))
      rw [ho]
      all_goals (first | refine Ju O O O O O O ?_ | refine Jr O O O O O ?_ | refine Jw O O O (y_not rfl) O O ?_)
      all_goals (refine Ja (y_pick O O O) O O O ?_)
      all_goals refine Jg ?_
      all_goals refine Jb ?_
      all_goals
        refine Vf rfl zbl ?_
        refine Ve ?_
      all_goals refine Jb ?_
      all_goals
        refine Jh ?_
        refine Jc ?_
        refine Ja (Jk hT O O O O O O) O O O ?_
        refine Ja (Jo hT O O O zrd) O O O ?_
        refine Ja (Jk hT O O O O O O) O O O ?_
        refine Ja (Jo hT O O O zrd) O O O ?_
        refine Ja (Jk hT O O O O O O) O O O ?_
        refine Ja (Jo hT O O O zrd) O O O ?_
        refine Ja (Jk hT O O O O O O) O O O ?_
        refine Ja (Jo hT O O O zrd) O O O ?_
        refine Jj rfl (Js e74 O O (fput_spec E 2 c s r p cap n bs _ (by omega) (by omega) hn hn2 (hin.cons _)) ?_)
        rintro _ _ ⟨a, c', rfl, rfl⟩
        refine Ja (Jd rfl) O O O (Ja (Jd rfl) O O O ?_)
        refine Jg ?_
        refine Jb ?_
        refine Vl ?_
        refine Wg (.inl rfl) O O zrv zrv ?_
        exact ⟨own 5 1 (.slice a (11 + n) c') (11 + n) (ints .u8 (packB 2 c s r bs)) :: l, fun w h => h.sup zsup, .inl ⟨rfl, rfl, a, c', rfl, rfl⟩⟩
end
end Go.Proofs.YtimekohdlofmaaaGreat
/- Chapter 14's records: GetUp. -/
namespace Go.Proofs.YtimekohdlofmaaaGreat
open Go Go.SL
section
attribute [local irreducible] J JL JE JM LS Y Fc RV Code.wp wpList Code.wpIn wpListIn
attribute [local irreducible] Yc
variable (E : World)
theorem octLeft_spec (b g c at_ n : Nat) (l : List HProp) (h2 : at_ ≤ n) (h4 : n ≤ 1073741824) :
    Fc prog E 131 [.pointer (some ⟨b, 0, none⟩)].toArray (row b 259 (rcells (some ⟨g, 0, none⟩) n c at_) :: l)
      (fun v l' => v = .int .i64 ((n - at_ : Nat) : Int) ∧ l' = row b 259 (rcells (some ⟨g, 0, none⟩) n c at_) :: l) := by
  refine Jt (c := ?codeC) Tryz.func131 ?hb Tryz.ntmps131 ?hl ?_
  case hb => exact rfl
  case hl => exact rfl
  refine Jh ?_
  refine Jc ?_
  refine Ja (Jd rfl) O O O ?_
  refine Jg ?_
  refine Jb ?_
  refine Jh ?_
  refine Jh ?_
  refine Jc ?_
  refine Ja (Je rfl) O O O (Ja (Vx hT O O O O) O O O ?_)
  refine Jg ?_
  refine Jb ?_
  refine Vf rfl zbl ?_
  refine Ve ?_
  refine Jb ?_
  refine Jh ?_
  refine Wl _ _ [(0, .q), (1, .q), (2, .q), (3, .q), (4, .q), (5, .q), (6, .q), (7, .q), (8, .q), (9, .q), (10, .q), (11, .q), (12, .q)] mixed (by kernel_rfl) (Jl) ?_
  refine Jf O O O O (fun m => Je rfl) ?_
  refine Jf O O O O (fun m => (by first | exact Jq rfl | exact Jm rfl | exact Jn rfl)) ?_
  refine Jf O O O O (fun m => Jk hT O O O O O O) ?_
  refine Jf O O O O (fun m => Jk hT O O O O O O) ?_
  refine Jf O O O O (fun m => Jo hT O O O zrda) ?_
  refine Jf O O O O (fun m => Vh hT O O O) ?_
  refine Jf O O O O (fun m => Je rfl) ?_
  refine Jf O O O O (fun m => (by first | exact Jq rfl | exact Jm rfl | exact Jn rfl)) ?_
  refine Jf O O O O (fun m => Jk hT O O O O O O) ?_
  refine Jf O O O O (fun m => Jk hT O O O O O O) ?_
  refine Jf O O O O (fun m => Jo hT O O O zrda) ?_
  refine Jf O O O O (fun m => y_sub (m := ((n - at_ : Nat) : Int)) O O (by rw [show ((n : Nat) : Int) - ((at_ : Nat) : Int) = ((n - at_ : Nat) : Int) by omega]; exact We (by omega) (by omega))) ?_
  refine Jf O O O O (fun m => Jd rfl) ?_
  refine Wh ?_
  refine Jb ?_
  refine Vl ?_
  refine Vk (.inl rfl) O O zrv ?_
  exact ⟨rfl, rfl⟩
/-- What a packet says: 0; none, and why. -/
def upE (bs : List Int) : Int := if onionB ((bs.length : Int) - 11) = false then 240 else if bs.getD 0 0 ≠ 2 ∨ endsB (bs.getD 1 0) (bs.getD 2 0) (leG ((bs.drop 3).take 8) 8) = false then 241 else 0
theorem fget_spec (p : Option Addr) (cap n : Nat) (bs : List Int) (l : List HProp) (hn : bs.length = n) (hn2 : n ≤ 1073741824) (hb : Bytes bs) (hin : InL l p n cap (ints .u8 bs)) :
    Fc prog E 114 [.slice p n cap, .int .u8 2, .func (.func 23) #[] #[]].toArray l (fun v l' => (upE bs = 0 ∧ ∃ a c', v = .tuple #[.int .i64 (bs.getD 1 0), .int .i64 (bs.getD 2 0), Q (leG ((bs.drop 3).take 8) 8), .slice a (n - 11) c', .int .i64 0] ∧ l' = own 5 1 (.slice a (n - 11) c') (n - 11) (ints .u8 (bs.drop 11)) :: l) ∨ (upE bs ≠ 0 ∧ v = .tuple #[.int .i64 0, .int .i64 0, .int .u64 0, .slice none 0 0, .int .i64 (upE bs)] ∧ l' = l)) := by
  refine Wi ?_
  cases ho : onionB ((n : Int) - 11) with
  | false =>
    have hup : upE bs = 240 := by unfold upE; rw [hn, if_pos ho]
    refine Jt (c := ?codeC) Tryz.func114 ?hb Tryz.ntmps114 ?hl ?_
    case hb => exact rfl
    case hl => exact rfl
    refine Jh ?_
    refine Jc ?_
    refine Ja (Jd rfl) O O O (Ja (Jd rfl) O O O (Ja (Jd rfl) O O O (Ja (Jd rfl) O O O (Ja (Jd rfl) O O O ?_))))
    refine Jg ?_
    refine Jb ?_
    refine Jh ?_
    refine Jh ?_
    refine Jc ?_
    refine Ja (Je rfl) O O O (Ja (Vh hT O O O) O O O ?_)
    refine Ja (y_sub O O zwr) O O O ?_
    refine Ja (Je rfl) O O O ?_
    refine Jj rfl (Js e73 O O (sized_spec E _ _) ?_)
    rintro _ l1 ⟨rfl, e1⟩
    obtain rfl := e1.symm
    rw [ho]
    refine Ja (y_not rfl) O O O ?_
    refine Jg ?_
    refine Jb ?_
    refine J.cond_t rfl zbl ?_
    refine Jh ?_
    refine Jc ?_
    refine Ja (Jd rfl) O O O (Ja (Jd rfl) O O O (Ja (Jd rfl) O O O (Ja (Jd rfl) O O O (Ja (Jd rfl) O O O ?_))))
    refine Jg ?_
    refine Jb ?_
    refine Vl ?_
    refine Jz ?_
    refine JE.ret5 (.inl rfl) O O zrv zrv zrv zrv zrv ?_
    exact ⟨l, fun w h => h, .inr ⟨by rw [hup]; decide, by rw [hup], rfl⟩⟩
  | true =>
    have hn3 : (n : Int) - 11 = 194 ∨ (n : Int) - 11 = 242 ∨ (n : Int) - 11 = 290 := of_decide_eq_true ho
    obtain ⟨b0, b1, b2, rs, rfl⟩ : ∃ b0 b1 b2 rs, bs = b0 :: b1 :: b2 :: rs := by
      match bs, hn with
      | b0 :: b1 :: b2 :: rs, _ => exact ⟨b0, b1, b2, rs, rfl⟩
      | [], h => simp at h; omega
      | [_], h => simp at h; omega
      | [_, _], h => simp at h; omega
    have hrl : rs.length = n - 3 := by simp at hn; omega
    have hb1 := hb b1 (by simp)
    have hb2 := hb b2 (by simp)
    obtain ⟨pb, po, rfl, hr⟩ := hin.rd.resolve_right fun ⟨h0, _⟩ => by have := hin.le; omega
    obtain ⟨qb, qo, hq, hpart⟩ := hin.part (lo := 3) (hi := n) (k := 1) (by omega) (Nat.le_refl _) (by simp [ints]; simp at hn; omega)
    simp only [Option.some.injEq, Addr.mk.injEq] at hq
    obtain ⟨rfl, rfl, _⟩ := hq.resolve_right (by have := hin.le; omega)
    rw [show (((ints .u8 (b0 :: b1 :: b2 :: rs)).drop (3 * 1)).take ((n - 3) * 1)) = ints .u8 rs by simp [ints, List.take_of_length_le (by rw [List.length_map]; omega : (List.map (Value.int .u8) rs).length ≤ n - 3)]] at hpart
    have hrd : ∀ l' p cap, InL l' p (n - 3) cap (ints .u8 rs) → Fc prog E 126 [.slice p (n - 3) cap].toArray l' (fun v l'' => ∃ br g c, v = .pointer (some ⟨br, 0, none⟩) ∧ l'' = row br 259 (rcells (some ⟨g, 0, none⟩) rs.length c 0) :: own 5 1 (.slice (some ⟨g, 0, none⟩) rs.length c) rs.length (ints .u8 rs) :: l') := fun l' p cap h => by
      rw [← hrl] at h ⊢
      exact octread_spec E p cap rs l' h (by omega) (by omega)
    obtain ⟨rr, hrr⟩ : ∃ rr, leG (rs.take 8) 8 = rr := ⟨_, rfl⟩
    have hu64 : ∀ (br g c : Nat) l, Fc prog E 151 [.pointer (some ⟨br, 0, none⟩)].toArray (row br 259 (rcells (some ⟨g, 0, none⟩) rs.length c 0) :: own 5 1 (.slice (some ⟨g, 0, none⟩) rs.length c) rs.length (ints .u8 rs) :: l)
      (fun v l' => v = Q rr ∧ l' = row br 259 (rcells (some ⟨g, 0, none⟩) rs.length c 8) :: own 5 1 (.slice (some ⟨g, 0, none⟩) rs.length c) rs.length (ints .u8 rs) :: l) := fun br g c l => by
      have z := u64_spec E br g c 0 rs l (by omega) (by omega)
      rw [List.drop_zero, hrr] at z
      exact z
    refine Jt (c := ?codeC) Tryz.func114 ?hb Tryz.ntmps114 ?hl ?_
    case hb => exact rfl
    case hl => exact rfl
    refine Jh ?_
    refine Jc ?_
    refine Ja (Jd rfl) O O O (Ja (Jd rfl) O O O (Ja (Jd rfl) O O O (Ja (Jd rfl) O O O (Ja (Jd rfl) O O O ?_))))
    refine Jg ?_
    refine Jb ?_
    refine Jh ?_
    refine Jh ?_
    refine Jc ?_
    refine Ja (Je rfl) O O O (Ja (Vh hT O O O) O O O ?_)
    refine Ja (y_sub O O zwr) O O O ?_
    refine Ja (Je rfl) O O O ?_
    refine Jj rfl (Js e73 O O (sized_spec E _ _) ?_)
    rintro _ l1 ⟨rfl, e1⟩
    obtain rfl := e1.symm
    rw [ho]
    refine Ja (y_not rfl) O O O ?_
    refine Jg ?_
    refine Jb ?_
    refine Vf rfl zbl ?_
    refine Ve ?_
    refine Jb ?_
    refine Jh ?_
    refine Jc ?_
    refine Ja (Je rfl) O O O ?_
    refine Ja (y_slice (lo := 3) (hi := n) hT O O O O (.inr ⟨_, _, _, rfl, rfl, rfl⟩) (.inl ⟨rfl, rfl⟩) (by omega) hin.le hin.le (.inl rfl)) O O O ?_
    refine Jj rfl (Js e126 O O (hrd _ _ _ hpart) ?_)
    rintro _ _ ⟨br, g, c, rfl, rfl⟩
    refine Ja (Jd rfl) O O O ?_
    refine Jg ?_
    refine Jb ?_
    refine Jh ?_
    refine Wl _ _ [(0, .q), (1, .q), (2, .q), (3, .q), (4, .q), (5, .q), (6, .q), (7, .q), (8, .q), (9, .l), (10, .q), (11, .q), (12, .q)] mixed (by kernel_rfl) (Ji (Jp) (Ji (Jp) (Jl))) ?_
    refine Jf O O O O (fun m => Je rfl) ?_
    refine Jf O O O O (fun m => Vg hT O O O O O zix zix) ?_
    refine Jf O O O O (fun m => Jo hT O O O ((hr m) 1 (.int .u8 b1) rfl)) ?_
    refine Jf O O O O (fun m => y_conv (m := b1) hT O O O O (We (by omega) (by omega))) ?_
    refine Jf O O O O (fun m => Je rfl) ?_
    refine Jf O O O O (fun m => Vg hT O O O O O zix zix) ?_
    refine Jf O O O O (fun m => Jo hT O O O ((hr m) 2 (.int .u8 b2) rfl)) ?_
    refine Jf O O O O (fun m => y_conv (m := b2) hT O O O O (We (by omega) (by omega))) ?_
    refine Jf O O O O (fun m => Je rfl) ?_
    refine Wf O O (fun fr => Js e151 O O (hu64 br g c _) ?_)
    rintro _ _ ⟨rfl, rfl⟩
    refine ⟨[_, _], (by (repeat (first | exact Jl | exact Vu | refine Ji Jp ?_))), ?_⟩
    refine Jf O O O O (fun m => Jd rfl) ?_
    refine Jf O O O O (fun m => Jd rfl) ?_
    refine Jf O O O O (fun m => Jd rfl) ?_
    refine Wh ?_
    refine Jb ?_
    refine Jh ?_
    refine Jh ?_
    refine Jc ?_
    refine Ja (Je rfl) O O O ?_
    refine Ja (Vg hT O O O O O zix zix) O O O ?_
    refine Ja (Jo hT O O O ((hr [_, _]) 0 (.int .u8 b0) rfl)) O O O ?_
    refine Ja (Je rfl) O O O (Ja (Wk O O) O O O (Ja (Je rfl) O O O ?_))
    all_goals (first | (refine Vm O O O (fun h => ?_) (fun h => ?_) <;> try (first | (exfalso; omega) | exact absurd rfl h)) | (refine Vz O O O (fun h => ?_) (fun h => ?_) <;> try (first | cases h | (exfalso; simp at h; done))) | skip)
    all_goals (first | refine Ju O O O O O O ?_ | refine Jr O O O O O ?_ | refine Jw O O O (Je rfl) O O ?_)
    all_goals (first | refine Ju O O O O O O ?_ | refine Jr O O O O O ?_ | refine Jw O O O (Je rfl) O O ?_)
    all_goals (first | refine Ju O O O O O O ?_ | refine Jr O O O O O ?_ | refine Jw O O O (Je rfl) O O ?_)
    all_goals (first | refine Ju O O O O O O ?_ | refine Jr O O O O O ?_ | (refine JL.gloud O O O (Js e72 O O (ends_spec E b1 b2 rr _) ?_); rintro _ _ ⟨rfl, rfl⟩))
    all_goals (first | refine Ju O O O O O O ?_ | refine Jr O O O O O ?_ | refine Jw O O O (y_not rfl) O O ?_)
    all_goals (refine Ja (y_pick O O O) O O O ?_)
    all_goals refine Jg ?_
    all_goals refine Jb ?_
    all_goals
      first | apply Va rfl | apply Vt rfl
      case' ht =>
        intro h
        try (first | (exfalso; omega) | (cases h; done) | (exfalso; simp at h; done) | subst h)
        all_goals
          have hup : upE (b0 :: b1 :: b2 :: rs) = 241 := by
            unfold upE
            rw [hn, if_neg (by rw [ho]; decide), if_pos (by
              show b0 ≠ 2 ∨ endsB b1 b2 (leG (rs.take 8) 8) = false
              rw [hrr]
              first | exact .inl (by simp at *; assumption) | exact .inr (by simp at *; assumption))]
          refine Jh ?_
          refine Jc ?_
          refine Ja (Jd rfl) O O O (Ja (Jd rfl) O O O (Ja (Jd rfl) O O O (Ja (Jd rfl) O O O (Ja (Jd rfl) O O O ?_))))
          refine Jg ?_
          refine Jb ?_
          refine Vl ?_
          refine Jz ?_
          refine JE.ret5 (.inl rfl) O O zrv zrv zrv zrv zrv ?_
          first
          | (have hz : upE (b0 :: b1 :: b2 :: rs) = 241 := hup
             exact ⟨l, fun w h => h.sup zsup, .inr ⟨by rw [hz]; decide, by rw [hz], rfl⟩⟩)
          | (have hl : rs.length - 8 = n - 11 := by omega
             rw [hl]
             refine ⟨own 5 1 (.slice a (n - 11) c') (n - 11) (ints .u8 (rs.drop 8)) :: l, fun w h => ?_, .inl ⟨hup, a, c', by rw [← hrr]; rfl, rfl⟩⟩
             rw [List.take_of_length_le (by rw [List.length_drop]; omega)] at h
             exact h.sup zsup)
      case' hf =>
        intro h
        try (first | (exfalso; omega) | (cases h; done) | (exfalso; simp at h; done) | subst h)
        all_goals
          have hup : upE (b0 :: b1 :: b2 :: rs) = 0 := by
            unfold upE
            rw [hn, if_neg (by rw [ho]; decide), if_neg (by
              show ¬ (b0 ≠ 2 ∨ endsB b1 b2 (leG (rs.take 8) 8) = false)
              rw [hrr]
              simp at *
              first | assumption | exact ⟨by assumption, by assumption⟩)]
          refine Ve ?_
    all_goals refine Jb ?_
    all_goals
      refine Jh ?_
      refine Jc ?_
      refine Ja (Je rfl) O O O (Ja (Je rfl) O O O (Ja (Je rfl) O O O (Ja (Je rfl) O O O (Ja (Je rfl) O O O ?_))))
      refine Jj rfl (Js e131 O O (octLeft_spec E br g c 8 rs.length _ (by omega) (by omega)) ?_)
      rintro _ _ ⟨rfl, rfl⟩
      refine Jj rfl (Js e132 O O (octRaw_spec E br g c 8 (rs.length - 8) rs _ (by omega) (by omega) (by omega)) ?_)
      rintro _ _ ⟨a, c', rfl, rfl⟩
      refine Ja (Jd rfl) O O O (Ja (Jd rfl) O O O (Ja (Jd rfl) O O O (Ja (Jd rfl) O O O (Ja (Jd rfl) O O O ?_))))
      refine Jg ?_
      refine Jb ?_
      refine Vl ?_
      refine JE.ret5 (.inl rfl) O O zrv zrv zrv zrv zrv ?_
      first
      | (have hz : upE (b0 :: b1 :: b2 :: rs) = 241 := hup
         exact ⟨l, fun w h => h.sup zsup, .inr ⟨by rw [hz]; decide, by rw [hz], rfl⟩⟩)
      | (have hl : rs.length - 8 = n - 11 := by omega
         rw [hl]
         refine ⟨own 5 1 (.slice a (n - 11) c') (n - 11) (ints .u8 (rs.drop 8)) :: l, fun w h => ?_, .inl ⟨hup, a, c', by rw [← hrr]; rfl, rfl⟩⟩
         rw [List.take_of_length_le (by rw [List.length_drop]; omega)] at h
         exact h.sup zsup)
theorem getup_spec (p : Option Addr) (cap n : Nat) (bs : List Int) (l : List HProp) (hn : bs.length = n) (hn2 : n ≤ 1073741824) (hb : Bytes bs) (hin : InL l p n cap (ints .u8 bs)) :
    Fc prog E 71 [.slice p n cap].toArray l (fun v l' => (upE bs = 0 ∧ ∃ a c', v = .tuple #[.agg #[.int .i64 (bs.getD 1 0), .int .i64 (bs.getD 2 0), Q (leG ((bs.drop 3).take 8) 8), .slice a (n - 11) c'], .int .i64 0] ∧ l' = own 5 1 (.slice a (n - 11) c') (n - 11) (ints .u8 (bs.drop 11)) :: l) ∨ (upE bs ≠ 0 ∧ v = .tuple #[.agg #[.int .i64 0, .int .i64 0, .int .u64 0, .slice none 0 0], .int .i64 (upE bs)] ∧ l' = l)) := by
  refine Wi ?_
  by_cases h0 : upE bs = 0
  · have hg : ∀ l, InL l p n cap (ints .u8 bs) → Fc prog E 114 [.slice p n cap, .int .u8 2, .func (.func 23) #[] #[]].toArray l (fun v l' => ∃ a c', v = .tuple #[.int .i64 (bs.getD 1 0), .int .i64 (bs.getD 2 0), Q (leG ((bs.drop 3).take 8) 8), .slice a (n - 11) c', .int .i64 0] ∧ l' = own 5 1 (.slice a (n - 11) c') (n - 11) (ints .u8 (bs.drop 11)) :: l) := fun l hin => (fget_spec E p cap n bs l hn hn2 hb hin).mono fun v l' q => q.elim (fun h => h.2) (fun h => (h.1 h0).elim)
    refine Jt (c := ?codeC) Tryz.func71 ?hb Tryz.ntmps71 ?hl ?_
    case hb => exact rfl
    case hl => exact rfl
    refine Jh ?_
    refine Jc ?_
    refine Jj rfl (Wa hT O O zcl rfl (fun b1 => ?_))
    refine Ja (Jd rfl) O O O ?_
    refine Jg ?_
    refine Jb ?_
    refine Jh ?_
    refine Jc ?_
    refine Ja (Je rfl) O O O ?_
    refine Jj rfl (Js e114 O O (hg _ (hin.cons _)) ?_)
    rintro _ _ ⟨a, c', rfl, rfl⟩
    refine Ja (Je rfl) O O O (Ja (Jy O O) O O O (Ja (Jy O O) O O O (Ja (Jy O O) O O O (Ja (Jy O O) O O O (Ja (Jy O O) O O O (Ja (Jd rfl) O O O (Ja (Jd rfl) O O O (Ja (Jd rfl) O O O (Ja (Jd rfl) O O O (Ja (Jd rfl) O O O ?_))))))))))
    refine Jg ?_
    refine Jb ?_
    refine Jh ?_
    refine Jc ?_
    refine Ja (Je rfl) O O O (Ja (Je rfl) O O O (Ja (Je rfl) O O O (Ja (Je rfl) O O O ?_)))
    refine Ja (y_build (cs := [_, _, _, _]) hT O O O O O O ⟨⟨zln, Nat.le_of_ble_eq_true rfl⟩, ⟨⟨zln, Nat.le_of_ble_eq_true rfl⟩, ⟨⟨zln, Nat.le_of_ble_eq_true rfl⟩, ⟨⟨zln, Nat.le_of_ble_eq_true rfl⟩, trivial⟩⟩⟩⟩ rfl) O O O ?_
    refine Ja (Je rfl) O O O ?_
    refine Jj rfl (Vp hT O O O zln zoc zpk zln ?_)
    refine Ja (Jd rfl) O O O ?_
    refine Jg ?_
    refine Jb ?_
    refine Vl ?_
    refine Wg (.inl rfl) O O zrv zrv ?_
    exact ⟨own 5 1 (.slice a (n - 11) c') (n - 11) (ints .u8 (bs.drop 11)) :: l, fun w h => h.sup zsup, .inl ⟨h0, a, c', rfl, rfl⟩⟩
  · have hg : ∀ l, InL l p n cap (ints .u8 bs) → Fc prog E 114 [.slice p n cap, .int .u8 2, .func (.func 23) #[] #[]].toArray l (fun v l' => v = .tuple #[.int .i64 0, .int .i64 0, .int .u64 0, .slice none 0 0, .int .i64 (upE bs)] ∧ l' = l) := fun l hin => (fget_spec E p cap n bs l hn hn2 hb hin).mono fun v l' q => q.elim (fun h => (h0 h.1).elim) (fun h => h.2)
    refine Jt (c := ?codeC) Tryz.func71 ?hb Tryz.ntmps71 ?hl ?_
    case hb => exact rfl
    case hl => exact rfl
    refine Jh ?_
    refine Jc ?_
    refine Jj rfl (Wa hT O O zcl rfl (fun b1 => ?_))
    refine Ja (Jd rfl) O O O ?_
    refine Jg ?_
    refine Jb ?_
    refine Jh ?_
    refine Jc ?_
    refine Ja (Je rfl) O O O ?_
    refine Jj rfl (Js e114 O O (hg _ (hin.cons _)) ?_)
    rintro _ _ ⟨rfl, rfl⟩
    refine Ja (Je rfl) O O O (Ja (Jy O O) O O O (Ja (Jy O O) O O O (Ja (Jy O O) O O O (Ja (Jy O O) O O O (Ja (Jy O O) O O O (Ja (Jd rfl) O O O (Ja (Jd rfl) O O O (Ja (Jd rfl) O O O (Ja (Jd rfl) O O O (Ja (Jd rfl) O O O ?_))))))))))
    refine Jg ?_
    refine Jb ?_
    refine Jh ?_
    refine Jc ?_
    refine Ja (Je rfl) O O O (Ja (Je rfl) O O O (Ja (Je rfl) O O O (Ja (Je rfl) O O O ?_)))
    refine Ja (y_build (cs := [_, _, _, _]) hT O O O O O O ⟨⟨zln, Nat.le_of_ble_eq_true rfl⟩, ⟨⟨zln, Nat.le_of_ble_eq_true rfl⟩, ⟨⟨zln, Nat.le_of_ble_eq_true rfl⟩, ⟨⟨zln, Nat.le_of_ble_eq_true rfl⟩, trivial⟩⟩⟩⟩ rfl) O O O ?_
    refine Ja (Je rfl) O O O ?_
    refine Jj rfl (Vp hT O O O zln zoc zpk zln ?_)
    refine Ja (Jd rfl) O O O ?_
    refine Jg ?_
    refine Jb ?_
    refine Vl ?_
    refine Wg (.inl rfl) O O zrv zrv ?_
    exact ⟨l, fun w h => h.sup zsup, .inr ⟨h0, rfl, rfl⟩⟩
end
end Go.Proofs.YtimekohdlofmaaaGreat
namespace Go.Proofs.YtimekohdlofmaaaGreat
open Go Go.SL
/-! Chapter 22: an entry of a log. -/
/-- An entry's cells. -/
def ecells (lg : Nat) (br : Bool) (last : BitVec 64) (ph hops : Int) (got : Value) : List Value := [.pointer (some ⟨lg, 0, none⟩), .bool br, Q last, .int .i64 ph, .int .i64 hops, got]
def enext (n : BitVec 64) (b : List Int) : Option (BitVec 64) := if b.length = 8 ∧ n.toNat < (leG b 8).toNat then some (leG b 8) else none
def echain (n : BitVec 64) : List (List Int) → Option (BitVec 64)
  | [] => some n
  | b :: r => (enext n b).bind fun m => echain m r
def estart (s : List Int) : Option (BitVec 64) := if s.length = 0 then some 0#64 else if s.length = 8 then some (leG s 8) else none
def entryN (L : Lg) : Option (BitVec 64) := (estart L.snap).bind fun n => echain n L.txs
theorem echain_append (n : BitVec 64) (xs ys : List (List Int)) : echain n (xs ++ ys) = (echain n xs).bind fun m => echain m ys := by
  induction xs generalizing n with
  | nil => rfl
  | cons b r ih =>
    simp only [List.cons_append, echain]
    cases enext n b with
    | none => rfl
    | some m => exact ih m
theorem echain_step {n m : BitVec 64} {txs : List (List Int)} {j : Nat} {b : List Int} (h : echain n (txs.take j) = some m) (hb : txs[j]? = some b) : echain n (txs.take (j + 1)) = enext m b := by
  rw [List.take_add_one, hb, show (some b).toList = [b] from rfl, echain_append, h]
  simp [echain]
theorem echain_bad {n m : BitVec 64} {txs : List (List Int)} {j : Nat} {b : List Int} (h : echain n (txs.take j) = some m) (hb : txs[j]? = some b) (hn : enext m b = none) : echain n txs = none := by
  rw [← List.take_append_drop (j + 1) txs, echain_append, echain_step h hb, hn]
  rfl
/-- The number behind so many transactions. -/
def echN (n : BitVec 64) (txs : List (List Int)) (j : Nat) : BitVec 64 := (echain n (txs.take j)).getD 0#64
theorem echN_of {n m : BitVec 64} {txs : List (List Int)} {j : Nat} (h : echain n (txs.take j) = some m) : echN n txs j = m := by rw [echN, h]; rfl
/-- What opening an entry comes to. -/
def eopenP (d : Nat) (S : Sb) (D' : Dk) (L : Lg) (l : List HProp) (v : Value) (l' : List HProp) : Prop :=
  (∃ n x lg st, entryN L = some n ∧ v = .tuple #[.pointer (some ⟨x, 0, none⟩), .int .i64 0] ∧ l' = row x 136 (ecells lg false n 0 0 (.map none)) :: logm lg st L :: row st 224 (scells S d) :: disk d D' :: l) ∨
  (entryN L = none ∧ v = .tuple #[.pointer none, .int .i64 320] ∧ l' = disk d D' :: l)
attribute [local irreducible] J JL JE JM LS Y Fc RV Code.wp wpList Code.wpIn wpListIn
attribute [local irreducible] Yc
variable (E : World)
theorem eopen_err (d : Nat) (D D' : Dk) (e : Int) (he : e ≠ 0) (cs : ∀ l, Fc prog E 61 [.pointer (some ⟨d, 0, none⟩)].toArray (disk d D :: l) (fun v l' => v = .tuple #[.pointer none, .int .i64 e] ∧ l' = disk d D' :: l)) (l : List HProp) :
    Fc prog E 12 [.pointer (some ⟨d, 0, none⟩)].toArray (disk d D :: l) (fun v l' => v = .tuple #[.pointer none, .int .i64 e] ∧ l' = disk d D' :: l) := by
  have hde : decide (¬ e = 0) = true := decide_eq_true he
  refine Fc.of_bodyM (c := ?codeC) Tryz.func12 ?hb Tryz.ntmps12 ?hl ?_
  case hb => exact rfl
  case hl => exact rfl
  refine Jh ?_
  refine Jc ?_
  refine Ja (Jd rfl) O O O (Ja (Jd rfl) O O O ?_)
  refine Jg ?_
  refine Jb ?_
  refine J.scope ?_
  refine Jh ?_
  refine Jc ?_
  refine Ja (Je rfl) O O O ?_
  refine Jj rfl (Js e61 O O (cs _) ?_)
  rintro _ _ ⟨rfl, rfl⟩
  refine Ja (Je rfl) O O O (Ja (Jy O O) O O O (Ja (Jy O O) O O O (Ja (Jd rfl) O O O (Ja (Jd rfl) O O O ?_))))
  refine Jg ?_
  refine Jb ?_
  refine Jh ?_
  refine Jh ?_
  refine Jc ?_
  refine Ja (Je rfl) O O O (Ja (Wk O O) O O O ?_)
  refine Jg ?_
  refine Jb ?_
  refine J.cond_t rfl zbl ?_
  refine Jh ?_
  refine Jc ?_
  refine Ja (Je rfl) O O O (Ja (Jd rfl) O O O (Ja (Jd rfl) O O O ?_))
  refine Jg ?_
  refine Jb ?_
  refine Vl ?_
  refine Jz ?_
  refine JE.scope_ret ?_
  first | refine JE.unmark (.inl rfl) rfl zpk ?_ | refine JE.nomark (.inl rfl) rfl ?_
  refine Wg (.inl rfl) O O zrv zrv ?_
  exact ⟨rfl, rfl⟩
set_option maxHeartbeats 1000000 in
theorem eopen_spec (d : Nat) (S : Sb) (D D' : Dk) (L : Lg) (cs : ∀ l, Fc prog E 61 [.pointer (some ⟨d, 0, none⟩)].toArray (disk d D :: l) (fun v l' => ∃ st, v = .tuple #[.pointer (some ⟨st, 0, none⟩), .int .i64 0] ∧ l' = row st 224 (scells S d) :: disk d D' :: l))
    (co : ∀ st l, Fc prog E 62 [.pointer (some ⟨st, 0, none⟩)].toArray (row st 224 (scells S d) :: disk d D' :: l) (fun v l' => ∃ lg, v = .tuple #[.pointer (some ⟨lg, 0, none⟩), .int .i64 0] ∧ l' = logm lg st L :: row st 224 (scells S d) :: disk d D' :: l)) (l : List HProp) :
    Fc prog E 12 [.pointer (some ⟨d, 0, none⟩)].toArray (disk d D :: l) (eopenP d S D' L l) := by
  refine Wi ?_
  have csn : ∀ lg st l, Fc prog E 63 [.pointer (some ⟨lg, 0, none⟩)].toArray (logm lg st L :: l) (fun v l' => ∃ a c, v = .slice a L.snap.length c ∧ l' = own 5 1 (.slice a L.snap.length c) L.snap.length (ints .u8 L.snap) :: logm lg st L :: l ∧ OwnAt a L.snap.length c (ints .u8 L.snap)) := fun lg st l => (lsnapshot_spec E lg st L l).know fun v l' w ⟨a, c, e1, e2⟩ s => by
    subst e1
    subst e2
    exact ⟨a, c, rfl, rfl, Vv s⟩
  have cget : ∀ (a : Option Addr) (c : Nat) (b : List Int) l, b.length = 8 → InL l a b.length c (ints .u8 b) → Fc prog E 64 [.slice a b.length c].toArray l (fun v l' => v = Q (leG b 8) ∧ l' = l) := fun a c b l hb h => by
    have q := octGet64_spec E a c b l h
    rwa [show min b.length 8 = 8 by omega] at q
  have h3 : (L.snap.length = 0 ∧ estart L.snap = some 0#64) ∨ (L.snap.length = 8 ∧ estart L.snap = some (leG L.snap 8)) ∨ (¬ L.snap.length = 0 ∧ ¬ L.snap.length = 8 ∧ entryN L = none) := by
    by_cases h0 : L.snap.length = 0
    · exact .inl ⟨h0, by unfold estart; rw [if_pos h0]⟩
    · by_cases h8 : L.snap.length = 8
      · exact .inr (.inl ⟨h8, by unfold estart; rw [if_neg h0, if_pos h8]⟩)
      · exact .inr (.inr ⟨h0, h8, by unfold entryN estart; rw [if_neg h0, if_neg h8]; rfl⟩)
  refine Fc.of_bodyM (c := ?codeC) Tryz.func12 ?hb Tryz.ntmps12 ?hl ?_
  case hb => exact rfl
  case hl => exact rfl
  refine Jh ?_
  refine Jc ?_
  refine Ja (Jd rfl) O O O (Ja (Jd rfl) O O O ?_)
  refine Jg ?_
  refine Jb ?_
  refine J.scope ?_
  refine Jh ?_
  refine Jc ?_
  refine Ja (Je rfl) O O O ?_
  refine Jj rfl (Js e61 O O (cs _) ?_)
  rintro _ _ ⟨st, rfl, rfl⟩
  refine Ja (Je rfl) O O O (Ja (Jy O O) O O O (Ja (Jy O O) O O O (Ja (Jd rfl) O O O (Ja (Jd rfl) O O O ?_))))
  refine Jg ?_
  refine Jb ?_
  refine Jh ?_
  refine Jh ?_
  refine Jc ?_
  refine Ja (Je rfl) O O O (Ja (Wk O O) O O O ?_)
  refine Jg ?_
  refine Jb ?_
  refine Vf rfl zbl ?_
  refine Ve ?_
  refine Jb ?_
  refine Jh ?_
  refine Jc ?_
  refine Ja (Je rfl) O O O ?_
  refine Jj rfl (Js e62 O O (co st _) ?_)
  rintro _ _ ⟨lg, rfl, rfl⟩
  refine Ja (Je rfl) O O O (Ja (Jy O O) O O O (Ja (Jy O O) O O O (Ja (Jd rfl) O O O (Ja (Jd rfl) O O O ?_))))
  refine Jg ?_
  refine Jb ?_
  refine Jh ?_
  refine Jh ?_
  refine Jc ?_
  refine Ja (Je rfl) O O O (Ja (Wk O O) O O O ?_)
  refine Jg ?_
  refine Jb ?_
  refine Vf rfl zbl ?_
  refine Ve ?_
  refine Jb ?_
  refine Jh ?_
  refine Jc ?_
  refine Ja (Je rfl) O O O ?_
  refine Ja (y_build (cs := [_, _, _, _, _, _]) hT O O O O O O ⟨⟨zln, Nat.le_of_ble_eq_true rfl⟩, trivial⟩ rfl) O O O ?_
  refine Jj rfl (l_box (cs := ecells lg false 0#64 0 0 (.map none)) rfl zcl rfl (fun bx => ?_))
  refine Jj rfl (Wa hT O O zcl rfl (fun b7 => ?_))
  refine Jj rfl (Vw hT O O O O O zpk zix ?_)
  refine Jg ?_
  refine Jb ?_
  refine Jh ?_
  refine Jh ?_
  refine Jc ?_
  refine Ja (Je rfl) O O O ?_
  refine Jj rfl (Js e63 O O (Wj (Ji zpk Jl) (csn lg st _)) ?_)
  rintro _ _ ⟨sa, sc, rfl, rfl, os⟩
  refine Ja (Jd rfl) O O O ?_
  refine Jg ?_
  refine Jb ?_
  rcases h3 with ⟨hl0, hst⟩ | ⟨hl0, hst⟩ | ⟨hl0, hl8, hst⟩
  ·
    have hE : entryN L = echain 0#64 L.txs := by unfold entryN; rw [hst]; rfl
    have hb3 : decide ((L.snap.length : Int) = 0) = true := decide_eq_true (by omega)
    refine Jh ?_
    refine Jc ?_
    refine Ja (Je rfl) O O O (Ja (Vh hT O O O) O O O ?_)
    refine Jg ?_
    refine Jb ?_
    refine Vj ?_
    refine Jh ?_
    refine Jc ?_
    refine Ja (y_eql O O) O O O (Ja (Jd rfl) O O O ?_)
    refine Jg ?_
    refine Jb ?_
    refine J.cond_t rfl zbl ?_
    refine Ve ?_
    refine Jv ?_
    refine Jb ?_
    refine Jh ?_
    obtain ⟨n0, hn0⟩ : ∃ n0 : BitVec 64, 0#64 = n0 := ⟨_, rfl⟩
    rw [hn0] at hE
    refine J.lists (l' := row bx 136 (ecells lg false n0 0 0 (.map none)) :: row b7 26 [.pointer (some ⟨bx, 0, none⟩)] :: own 5 1 (.slice sa L.snap.length sc) L.snap.length (ints .u8 L.snap) :: logm lg st L :: row st 224 (scells S d) :: disk d D' :: l) (fun w q => by rw [← hn0]; exact q.sup zsup) ?_
    refine Jc ?_
    refine Jj rfl (Wa hT O O zcl rfl (fun b9 => ?_))
    refine Jj rfl (Vw hT O O O O O zpk zix ?_)
    refine Jg ?_
    refine Jb ?_
    refine Jh ?_
    refine J.label ?_
    refine Jb ?_
    refine Jh ?_
    refine Jh ?_
    refine Jc ?_
    refine Ja (Je rfl) O O O ?_
    refine Jj rfl (Js e65 O O (lall_spec E _ (.pointer (some ⟨lg, 0, none⟩)) rfl) ?_)
    rintro _ _ ⟨bc, rfl, rfl⟩
    refine Jg ?_
    refine Jb ?_
    refine Vj ?_
    refine J.rangeFunc e110 rfl fun fn a0 k DD K1 hK hf0 => ?_
    refine Fc.mono (Fc.imp (lall2_spec E lg st L (blk DD (.deferred (some [])) :: row st 224 (scells S d) :: disk d D' :: l) k bc (fun j => [pur (echain n0 (L.txs.take j) = some (echN n0 L.txs j)), row bx 136 (ecells lg false (echN n0 L.txs j) 0 0 (.map none)), row b9 4 [.bool false], row b7 26 [.pointer (some ⟨bx, 0, none⟩)], K1 .ready none]) (fun _ => [pur (echain n0 L.txs = none), row b9 4 [.bool true], K1 .done (some (.exit 1))]) (fun fr j tx xa xc htx hsx => ?hy)) (fun w s => ?hi)) ?hm
    case hi =>
      exact (Sat.topur (p := echain n0 (L.txs.take 0) = some (echN n0 L.txs 0)) rfl s).sup zsup
    case hy =>
      refine Yc.split (p := [pur _]) ?_ (Ji zpk Jl)
      refine Yc.purs fun hch => ?_
      refine Yc.split (p := [K1 .ready none]) ?_ (Ji zpk Jl)
      refine Yc.post ?_
      refine Yc.of_body hK hf0 rfl (by decide) ?_
      refine Jc ?_
      refine Ja (Jd rfl) O O O ?_
      refine Jg ?_
      refine JE.assigned zpk ?_
      refine Vj ?_
      refine Jh ?_
      refine Jh ?_
      refine J.fact (p := OwnAt xa tx.length xc (ints .u8 tx)) (fun w s => Vv (s.pick zpk)) fun ox => ?_
      obtain ⟨b8, hb8⟩ : ∃ b8, decide (¬ (tx.length : Int) = 8) = b8 := ⟨_, rfl⟩
      have h8 : b8 = false → tx.length = 8 := fun h => by rw [h] at hb8; simp at hb8; omega
      have hn8 : b8 = true → ¬ tx.length = 8 := fun h => by rw [h] at hb8; simp at hb8; omega
      cases b8
      all_goals
        refine Wl _ _ [(0, .q), (1, .q), (2, .q), (3, .q), (4, .q), (5, .q), (6, .q), (7, .q), (8, .q), (9, .q), (10, .q), (11, .q)] mixed (by kernel_rfl) (Jl) ?_
        refine Jf O O O O (fun m => Je rfl) ?_
        refine Jf O O O O (fun m => Vh hT O O O) ?_
        refine Jf O O O O (fun m => y_neqB O O hb8) ?_
        refine Jf O O O O (fun m => Je rfl) ?_
        all_goals (first | refine Vi O O O O O O O ?_ | refine Vd O O O O O O ?_ | refine Vb O O O O O O (fun m => Je rfl) ?_)
        all_goals (first | refine Vi O O O O O O O ?_ | refine Vd O O O O O O ?_ | refine Vb O O O O O O (fun m => y_callF e64 rfl (cget xa xc tx _ (h8 rfl) (ox.inl (Vn m zpk)))) ?_)
        all_goals (first | refine Vi O O O O O O O ?_ | refine Vd O O O O O O ?_ | refine Vb O O O O O O (fun m => Jo hT O O O zrda) ?_)
        all_goals (first | refine Vi O O O O O O O ?_ | refine Vd O O O O O O ?_ | refine Vb O O O O O O (fun m => (by first | exact Jq rfl | exact Jm rfl | exact Jn rfl)) ?_)
        all_goals (first | refine Vi O O O O O O O ?_ | refine Vd O O O O O O ?_ | refine Vb O O O O O O (fun m => Jk hT O O O O O O) ?_)
        all_goals (first | refine Vi O O O O O O O ?_ | refine Vd O O O O O O ?_ | refine Vb O O O O O O (fun m => Jo hT O O O zrda) ?_)
        all_goals (first | refine Vi O O O O O O O ?_ | refine Vd O O O O O O ?_ | refine Vb O O O O O O (fun m => y_leq O O) ?_)
        all_goals refine Jf O O O O (fun m => y_pick O O O) ?_
        all_goals refine Wh ?_
      all_goals refine Jb ?_
      all_goals
        first | apply Va rfl | apply Vt rfl
        case' ht =>
          intro h
          try (first | (exfalso; omega) | (cases h; done) | (exfalso; simp at h; done) | subst h)
          all_goals
            have hbad : echain n0 L.txs = none := echain_bad hch htx (by
                unfold enext
                rw [if_neg]
                rintro ⟨h1, h2⟩
                first
                  | exact hn8 rfl h1
                  | omega)
            refine Jh ?_
            refine Jc ?_
            refine Jj rfl (Vw hT O O O O O zpk zix ?_)
            refine Jg ?_
            refine Jb ?_
            refine J.exit ?_
            refine Vc ?_
            refine JE.block_past rfl ?_
            refine JE.round_exit hK zpk ?_
            refine ⟨_, fun w z => ?_, .inr ⟨rfl, rfl⟩⟩
            exact (Sat.topur hbad z).sup zsup
        case' hf =>
          intro h
          try (first | (exfalso; omega) | (cases h; done) | (exfalso; simp at h; done) | subst h)
          all_goals
            have hgo : echain n0 (L.txs.take (j + 1)) = some (leG tx 8) := by rw [echain_step hch htx, enext, if_pos ⟨h8 rfl, by omega⟩]
            refine Ve ?_
      all_goals refine Jb ?_
      all_goals
        refine Wl _ _ [(0, .q), (1, .q), (2, .q), (3, .q), (4, .q), (5, .l)] mixed (by kernel_rfl) (Ji (Jx (Jx Jp)) (Jl)) ?_
        refine Jf O O O O (fun m => Jo hT O O O zrda) ?_
        refine Jf O O O O (fun m => Je rfl) ?_
        refine Jf O O O O (fun m => y_callF e64 rfl (cget xa xc tx _ (h8 rfl) (ox.inl (Vn m zpk)))) ?_
        refine Jf O O O O (fun m => (by first | exact Jq rfl | exact Jm rfl | exact Jn rfl)) ?_
        refine Jf O O O O (fun m => Jk hT O O O O O O) ?_
        refine Wf O O (fun fr => Vw hT O O O O O zpk zix (⟨[_], (by (repeat (first | exact Jl | exact Vu | refine Ji Jp ?_))), ?_⟩))
        refine Wh ?_
      all_goals refine Jv ?_
      all_goals
        refine JE.round_on hK zpk ?_
        have e := echN_of hgo
        refine ⟨_, fun w z => ?_, .inl ⟨rfl, rfl⟩⟩
        have z2 := Sat.topur (p := echain n0 (L.txs.take (j + 1)) = some (leG tx 8)) hgo z
        try dsimp only
        rw [e]
        exact z2.sup zsup
    case hm =>
      rintro _ _ (rfl | ⟨j, hj, rfl⟩)
      · refine ⟨.ready, none, _, by (repeat (first | exact Jp | apply Jx | apply Vn)), by simp, ?_⟩
        dsimp only
        refine JE.picks (A := pur _) zpk (JE.purs fun hch => ?_)
        have hres : entryN L = some (echN n0 L.txs L.txs.length) := by rw [hE, ← hch, List.take_length]
        refine Jv ?_
        refine Jb ?_
        refine Jh ?_
        refine Jh ?_
        refine Jc ?_
        refine Ja (Jo hT O O O zrd) O O O ?_
        refine Jg ?_
        refine Jb ?_
        first | apply Va rfl | apply Vt rfl
        case' ht =>
          intro h
          try (first | (exfalso; omega) | (cases h; done) | (exfalso; simp at h; done) | subst h)
          all_goals
            refine Jh ?_
            refine Jc ?_
            refine Ja (Jd rfl) O O O (Ja (Jd rfl) O O O ?_)
            refine Jg ?_
            refine Jb ?_
            refine Vl ?_
            refine Jz ?_
            refine JE.scope_ret ?_
            first | refine JE.unmark (.inl rfl) rfl zpk ?_ | refine JE.nomark (.inl rfl) rfl ?_
            refine Wg (.inl rfl) O O zrv zrv ?_
            first
              | exact ⟨_, fun w q => q.sup zsup, .inl ⟨_, bx, lg, st, hres, rfl, rfl⟩⟩
              | exact ⟨_, fun w q => q.sup zsup, .inr ⟨hres, rfl, rfl⟩⟩
        case' hf =>
          intro h
          try (first | (exfalso; omega) | (cases h; done) | (exfalso; simp at h; done) | subst h)
          all_goals
            refine Ve ?_
        all_goals refine Jb ?_
        all_goals
          refine Jh ?_
          refine Jc ?_
          refine Ja (Jo hT O O O zrd) O O O ?_
          refine Ja (Jd rfl) O O O (Ja (Jd rfl) O O O ?_)
          refine Jg ?_
          refine Jb ?_
          refine Vl ?_
          refine JE.scope_ret ?_
          first | refine JE.unmark (.inl rfl) rfl zpk ?_ | refine JE.nomark (.inl rfl) rfl ?_
          refine Wg (.inl rfl) O O zrv zrv ?_
          first
            | exact ⟨_, fun w q => q.sup zsup, .inl ⟨_, bx, lg, st, hres, rfl, rfl⟩⟩
            | exact ⟨_, fun w q => q.sup zsup, .inr ⟨hres, rfl, rfl⟩⟩
      · refine ⟨.done, some (.exit 1), _, by (repeat (first | exact Jp | apply Jx | apply Vn)), by simp, ?_⟩
        dsimp only
        refine J.picks (A := pur _) zpk (J.purs fun hbad => ?_)
        have hres : entryN L = none := by rw [hE]; exact hbad
        refine J.exit ?_
        refine Vs ?_
        refine Jb ?_
        refine Jh ?_
        refine Jh ?_
        refine Jc ?_
        refine Ja (Jo hT O O O zrd) O O O ?_
        refine Jg ?_
        refine Jb ?_
        first | apply Va rfl | apply Vt rfl
        case' ht =>
          intro h
          try (first | (exfalso; omega) | (cases h; done) | (exfalso; simp at h; done) | subst h)
          all_goals
            refine Jh ?_
            refine Jc ?_
            refine Ja (Jd rfl) O O O (Ja (Jd rfl) O O O ?_)
            refine Jg ?_
            refine Jb ?_
            refine Vl ?_
            refine Jz ?_
            refine JE.scope_ret ?_
            first | refine JE.unmark (.inl rfl) rfl zpk ?_ | refine JE.nomark (.inl rfl) rfl ?_
            refine Wg (.inl rfl) O O zrv zrv ?_
            first
              | exact ⟨_, fun w q => q.sup zsup, .inl ⟨_, bx, lg, st, hres, rfl, rfl⟩⟩
              | exact ⟨_, fun w q => q.sup zsup, .inr ⟨hres, rfl, rfl⟩⟩
        case' hf =>
          intro h
          try (first | (exfalso; omega) | (cases h; done) | (exfalso; simp at h; done) | subst h)
          all_goals
            refine Ve ?_
        all_goals refine Jb ?_
        all_goals
          refine Jh ?_
          refine Jc ?_
          refine Ja (Jo hT O O O zrd) O O O ?_
          refine Ja (Jd rfl) O O O (Ja (Jd rfl) O O O ?_)
          refine Jg ?_
          refine Jb ?_
          refine Vl ?_
          refine JE.scope_ret ?_
          first | refine JE.unmark (.inl rfl) rfl zpk ?_ | refine JE.nomark (.inl rfl) rfl ?_
          refine Wg (.inl rfl) O O zrv zrv ?_
          first
            | exact ⟨_, fun w q => q.sup zsup, .inl ⟨_, bx, lg, st, hres, rfl, rfl⟩⟩
            | exact ⟨_, fun w q => q.sup zsup, .inr ⟨hres, rfl, rfl⟩⟩
  ·
    have hE : entryN L = echain (leG L.snap 8) L.txs := by unfold entryN; rw [hst]; rfl
    have hb3 : decide ((L.snap.length : Int) = 0) = false := decide_eq_false (by omega)
    have hb4 : decide ((L.snap.length : Int) = 8) = true := decide_eq_true (by omega)
    refine Jh ?_
    refine Jc ?_
    refine Ja (Je rfl) O O O (Ja (Vh hT O O O) O O O ?_)
    refine Jg ?_
    refine Jb ?_
    refine Vj ?_
    refine Jh ?_
    refine Jc ?_
    refine Ja (y_eql O O) O O O (Ja (Jd rfl) O O O ?_)
    refine Jg ?_
    refine Jb ?_
    refine Vf rfl zbl ?_
    refine Jh ?_
    refine Jc ?_
    refine Ja (y_eql O O) O O O (Ja (Jd rfl) O O O ?_)
    refine Jg ?_
    refine Jb ?_
    refine J.cond_t rfl zbl ?_
    refine Wl _ _ [(0, .q), (1, .q), (2, .q), (3, .q), (4, .q), (5, .l)] mixed (by kernel_rfl) (Ji (Jx (Jx (Jx Jp))) (Jl)) ?_
    refine Jf O O O O (fun m => Jo hT O O O zrda) ?_
    refine Jf O O O O (fun m => Je rfl) ?_
    refine Jf O O O O (fun m => y_callF e64 rfl (cget sa sc L.snap _ hl0 (os.inl (Vn m zpk)))) ?_
    refine Jf O O O O (fun m => (by first | exact Jq rfl | exact Jm rfl | exact Jn rfl)) ?_
    refine Jf O O O O (fun m => Jk hT O O O O O O) ?_
    refine Wf O O (fun fr => Vw hT O O O O O zpk zix (⟨[_], (by (repeat (first | exact Jl | exact Vu | refine Ji Jp ?_))), ?_⟩))
    refine Wh ?_
    refine Jv ?_
    refine Jb ?_
    refine Jh ?_
    obtain ⟨n0, hn0⟩ : ∃ n0 : BitVec 64, leG L.snap 8 = n0 := ⟨_, rfl⟩
    rw [hn0] at hE
    refine J.lists (l' := row bx 136 (ecells lg false n0 0 0 (.map none)) :: row b7 26 [.pointer (some ⟨bx, 0, none⟩)] :: own 5 1 (.slice sa L.snap.length sc) L.snap.length (ints .u8 L.snap) :: logm lg st L :: row st 224 (scells S d) :: disk d D' :: l) (fun w q => by rw [← hn0]; exact q.sup zsup) ?_
    refine Jc ?_
    refine Jj rfl (Wa hT O O zcl rfl (fun b9 => ?_))
    refine Jj rfl (Vw hT O O O O O zpk zix ?_)
    refine Jg ?_
    refine Jb ?_
    refine Jh ?_
    refine J.label ?_
    refine Jb ?_
    refine Jh ?_
    refine Jh ?_
    refine Jc ?_
    refine Ja (Je rfl) O O O ?_
    refine Jj rfl (Js e65 O O (lall_spec E _ (.pointer (some ⟨lg, 0, none⟩)) rfl) ?_)
    rintro _ _ ⟨bc, rfl, rfl⟩
    refine Jg ?_
    refine Jb ?_
    refine Vj ?_
    refine J.rangeFunc e110 rfl fun fn a0 k DD K1 hK hf0 => ?_
    refine Fc.mono (Fc.imp (lall2_spec E lg st L (blk DD (.deferred (some [])) :: row st 224 (scells S d) :: disk d D' :: l) k bc (fun j => [pur (echain n0 (L.txs.take j) = some (echN n0 L.txs j)), row bx 136 (ecells lg false (echN n0 L.txs j) 0 0 (.map none)), row b9 4 [.bool false], row b7 26 [.pointer (some ⟨bx, 0, none⟩)], K1 .ready none]) (fun _ => [pur (echain n0 L.txs = none), row b9 4 [.bool true], K1 .done (some (.exit 1))]) (fun fr j tx xa xc htx hsx => ?hy)) (fun w s => ?hi)) ?hm
    case hi =>
      exact (Sat.topur (p := echain n0 (L.txs.take 0) = some (echN n0 L.txs 0)) rfl s).sup zsup
    case hy =>
      refine Yc.split (p := [pur _]) ?_ (Ji zpk Jl)
      refine Yc.purs fun hch => ?_
      refine Yc.split (p := [K1 .ready none]) ?_ (Ji zpk Jl)
      refine Yc.post ?_
      refine Yc.of_body hK hf0 rfl (by decide) ?_
      refine Jc ?_
      refine Ja (Jd rfl) O O O ?_
      refine Jg ?_
      refine JE.assigned zpk ?_
      refine Vj ?_
      refine Jh ?_
      refine Jh ?_
      refine J.fact (p := OwnAt xa tx.length xc (ints .u8 tx)) (fun w s => Vv (s.pick zpk)) fun ox => ?_
      obtain ⟨b8, hb8⟩ : ∃ b8, decide (¬ (tx.length : Int) = 8) = b8 := ⟨_, rfl⟩
      have h8 : b8 = false → tx.length = 8 := fun h => by rw [h] at hb8; simp at hb8; omega
      have hn8 : b8 = true → ¬ tx.length = 8 := fun h => by rw [h] at hb8; simp at hb8; omega
      cases b8
      all_goals
        refine Wl _ _ [(0, .q), (1, .q), (2, .q), (3, .q), (4, .q), (5, .q), (6, .q), (7, .q), (8, .q), (9, .q), (10, .q), (11, .q)] mixed (by kernel_rfl) (Jl) ?_
        refine Jf O O O O (fun m => Je rfl) ?_
        refine Jf O O O O (fun m => Vh hT O O O) ?_
        refine Jf O O O O (fun m => y_neqB O O hb8) ?_
        refine Jf O O O O (fun m => Je rfl) ?_
        all_goals (first | refine Vi O O O O O O O ?_ | refine Vd O O O O O O ?_ | refine Vb O O O O O O (fun m => Je rfl) ?_)
        all_goals (first | refine Vi O O O O O O O ?_ | refine Vd O O O O O O ?_ | refine Vb O O O O O O (fun m => y_callF e64 rfl (cget xa xc tx _ (h8 rfl) (ox.inl (Vn m zpk)))) ?_)
        all_goals (first | refine Vi O O O O O O O ?_ | refine Vd O O O O O O ?_ | refine Vb O O O O O O (fun m => Jo hT O O O zrda) ?_)
        all_goals (first | refine Vi O O O O O O O ?_ | refine Vd O O O O O O ?_ | refine Vb O O O O O O (fun m => (by first | exact Jq rfl | exact Jm rfl | exact Jn rfl)) ?_)
        all_goals (first | refine Vi O O O O O O O ?_ | refine Vd O O O O O O ?_ | refine Vb O O O O O O (fun m => Jk hT O O O O O O) ?_)
        all_goals (first | refine Vi O O O O O O O ?_ | refine Vd O O O O O O ?_ | refine Vb O O O O O O (fun m => Jo hT O O O zrda) ?_)
        all_goals (first | refine Vi O O O O O O O ?_ | refine Vd O O O O O O ?_ | refine Vb O O O O O O (fun m => y_leq O O) ?_)
        all_goals refine Jf O O O O (fun m => y_pick O O O) ?_
        all_goals refine Wh ?_
      all_goals refine Jb ?_
      all_goals
        first | apply Va rfl | apply Vt rfl
        case' ht =>
          intro h
          try (first | (exfalso; omega) | (cases h; done) | (exfalso; simp at h; done) | subst h)
          all_goals
            have hbad : echain n0 L.txs = none := echain_bad hch htx (by
                unfold enext
                rw [if_neg]
                rintro ⟨h1, h2⟩
                first
                  | exact hn8 rfl h1
                  | omega)
            refine Jh ?_
            refine Jc ?_
            refine Jj rfl (Vw hT O O O O O zpk zix ?_)
            refine Jg ?_
            refine Jb ?_
            refine J.exit ?_
            refine Vc ?_
            refine JE.block_past rfl ?_
            refine JE.round_exit hK zpk ?_
            refine ⟨_, fun w z => ?_, .inr ⟨rfl, rfl⟩⟩
            exact (Sat.topur hbad z).sup zsup
        case' hf =>
          intro h
          try (first | (exfalso; omega) | (cases h; done) | (exfalso; simp at h; done) | subst h)
          all_goals
            have hgo : echain n0 (L.txs.take (j + 1)) = some (leG tx 8) := by rw [echain_step hch htx, enext, if_pos ⟨h8 rfl, by omega⟩]
            refine Ve ?_
      all_goals refine Jb ?_
      all_goals
        refine Wl _ _ [(0, .q), (1, .q), (2, .q), (3, .q), (4, .q), (5, .l)] mixed (by kernel_rfl) (Ji (Jx (Jx Jp)) (Jl)) ?_
        refine Jf O O O O (fun m => Jo hT O O O zrda) ?_
        refine Jf O O O O (fun m => Je rfl) ?_
        refine Jf O O O O (fun m => y_callF e64 rfl (cget xa xc tx _ (h8 rfl) (ox.inl (Vn m zpk)))) ?_
        refine Jf O O O O (fun m => (by first | exact Jq rfl | exact Jm rfl | exact Jn rfl)) ?_
        refine Jf O O O O (fun m => Jk hT O O O O O O) ?_
        refine Wf O O (fun fr => Vw hT O O O O O zpk zix (⟨[_], (by (repeat (first | exact Jl | exact Vu | refine Ji Jp ?_))), ?_⟩))
        refine Wh ?_
      all_goals refine Jv ?_
      all_goals
        refine JE.round_on hK zpk ?_
        have e := echN_of hgo
        refine ⟨_, fun w z => ?_, .inl ⟨rfl, rfl⟩⟩
        have z2 := Sat.topur (p := echain n0 (L.txs.take (j + 1)) = some (leG tx 8)) hgo z
        try dsimp only
        rw [e]
        exact z2.sup zsup
    case hm =>
      rintro _ _ (rfl | ⟨j, hj, rfl⟩)
      · refine ⟨.ready, none, _, by (repeat (first | exact Jp | apply Jx | apply Vn)), by simp, ?_⟩
        dsimp only
        refine JE.picks (A := pur _) zpk (JE.purs fun hch => ?_)
        have hres : entryN L = some (echN n0 L.txs L.txs.length) := by rw [hE, ← hch, List.take_length]
        refine Jv ?_
        refine Jb ?_
        refine Jh ?_
        refine Jh ?_
        refine Jc ?_
        refine Ja (Jo hT O O O zrd) O O O ?_
        refine Jg ?_
        refine Jb ?_
        first | apply Va rfl | apply Vt rfl
        case' ht =>
          intro h
          try (first | (exfalso; omega) | (cases h; done) | (exfalso; simp at h; done) | subst h)
          all_goals
            refine Jh ?_
            refine Jc ?_
            refine Ja (Jd rfl) O O O (Ja (Jd rfl) O O O ?_)
            refine Jg ?_
            refine Jb ?_
            refine Vl ?_
            refine Jz ?_
            refine JE.scope_ret ?_
            first | refine JE.unmark (.inl rfl) rfl zpk ?_ | refine JE.nomark (.inl rfl) rfl ?_
            refine Wg (.inl rfl) O O zrv zrv ?_
            first
              | exact ⟨_, fun w q => q.sup zsup, .inl ⟨_, bx, lg, st, hres, rfl, rfl⟩⟩
              | exact ⟨_, fun w q => q.sup zsup, .inr ⟨hres, rfl, rfl⟩⟩
        case' hf =>
          intro h
          try (first | (exfalso; omega) | (cases h; done) | (exfalso; simp at h; done) | subst h)
          all_goals
            refine Ve ?_
        all_goals refine Jb ?_
        all_goals
          refine Jh ?_
          refine Jc ?_
          refine Ja (Jo hT O O O zrd) O O O ?_
          refine Ja (Jd rfl) O O O (Ja (Jd rfl) O O O ?_)
          refine Jg ?_
          refine Jb ?_
          refine Vl ?_
          refine JE.scope_ret ?_
          first | refine JE.unmark (.inl rfl) rfl zpk ?_ | refine JE.nomark (.inl rfl) rfl ?_
          refine Wg (.inl rfl) O O zrv zrv ?_
          first
            | exact ⟨_, fun w q => q.sup zsup, .inl ⟨_, bx, lg, st, hres, rfl, rfl⟩⟩
            | exact ⟨_, fun w q => q.sup zsup, .inr ⟨hres, rfl, rfl⟩⟩
      · refine ⟨.done, some (.exit 1), _, by (repeat (first | exact Jp | apply Jx | apply Vn)), by simp, ?_⟩
        dsimp only
        refine J.picks (A := pur _) zpk (J.purs fun hbad => ?_)
        have hres : entryN L = none := by rw [hE]; exact hbad
        refine J.exit ?_
        refine Vs ?_
        refine Jb ?_
        refine Jh ?_
        refine Jh ?_
        refine Jc ?_
        refine Ja (Jo hT O O O zrd) O O O ?_
        refine Jg ?_
        refine Jb ?_
        first | apply Va rfl | apply Vt rfl
        case' ht =>
          intro h
          try (first | (exfalso; omega) | (cases h; done) | (exfalso; simp at h; done) | subst h)
          all_goals
            refine Jh ?_
            refine Jc ?_
            refine Ja (Jd rfl) O O O (Ja (Jd rfl) O O O ?_)
            refine Jg ?_
            refine Jb ?_
            refine Vl ?_
            refine Jz ?_
            refine JE.scope_ret ?_
            first | refine JE.unmark (.inl rfl) rfl zpk ?_ | refine JE.nomark (.inl rfl) rfl ?_
            refine Wg (.inl rfl) O O zrv zrv ?_
            first
              | exact ⟨_, fun w q => q.sup zsup, .inl ⟨_, bx, lg, st, hres, rfl, rfl⟩⟩
              | exact ⟨_, fun w q => q.sup zsup, .inr ⟨hres, rfl, rfl⟩⟩
        case' hf =>
          intro h
          try (first | (exfalso; omega) | (cases h; done) | (exfalso; simp at h; done) | subst h)
          all_goals
            refine Ve ?_
        all_goals refine Jb ?_
        all_goals
          refine Jh ?_
          refine Jc ?_
          refine Ja (Jo hT O O O zrd) O O O ?_
          refine Ja (Jd rfl) O O O (Ja (Jd rfl) O O O ?_)
          refine Jg ?_
          refine Jb ?_
          refine Vl ?_
          refine JE.scope_ret ?_
          first | refine JE.unmark (.inl rfl) rfl zpk ?_ | refine JE.nomark (.inl rfl) rfl ?_
          refine Wg (.inl rfl) O O zrv zrv ?_
          first
            | exact ⟨_, fun w q => q.sup zsup, .inl ⟨_, bx, lg, st, hres, rfl, rfl⟩⟩
            | exact ⟨_, fun w q => q.sup zsup, .inr ⟨hres, rfl, rfl⟩⟩
  ·
    have hb3 : decide ((L.snap.length : Int) = 0) = false := decide_eq_false (by omega)
    have hb4 : decide ((L.snap.length : Int) = 8) = false := decide_eq_false (by omega)
    refine Jh ?_
    refine Jc ?_
    refine Ja (Je rfl) O O O (Ja (Vh hT O O O) O O O ?_)
    refine Jg ?_
    refine Jb ?_
    refine Vj ?_
    refine Jh ?_
    refine Jc ?_
    refine Ja (y_eql O O) O O O (Ja (Jd rfl) O O O ?_)
    refine Jg ?_
    refine Jb ?_
    refine Vf rfl zbl ?_
    refine Jh ?_
    refine Jc ?_
    refine Ja (y_eql O O) O O O (Ja (Jd rfl) O O O ?_)
    refine Jg ?_
    refine Jb ?_
    refine Vf rfl zbl ?_
    refine Jh ?_
    refine Jc ?_
    refine Ja (Jd rfl) O O O (Ja (Jd rfl) O O O ?_)
    refine Jg ?_
    refine Jb ?_
    refine Vl ?_
    refine Vr ?_
    refine Jz ?_
    refine JE.scope_ret ?_
    first | refine JE.unmark (.inl rfl) rfl zpk ?_ | refine JE.nomark (.inl rfl) rfl ?_
    refine Wg (.inl rfl) O O zrv zrv ?_
    exact ⟨_, fun w q => q.sup zsup, .inr ⟨hst, rfl, rfl⟩⟩
end Go.Proofs.YtimekohdlofmaaaGreat
namespace Go.Proofs.YtimekohdlofmaaaGreat
open Go Go.SL
/-! The disk of an entry, armed or not. -/
def Dk.armO (D : Dk) : Option Nat → Dk
  | none => D
  | some k => D.arm k
theorem armO_safe (D : Dk) (a : Option Nat) : (D.armO a).safe = D.safe := by cases a <;> rfl
theorem armO_pending (D : Dk) (a : Option Nat) : (D.armO a).pending = D.pending := by cases a <;> rfl
theorem armO_dead (D : Dk) (a : Option Nat) : (D.armO a).dead = D.dead := by cases a <;> rfl
theorem armO_counts (D : Dk) (a : Option Nat) : (D.armO a).counts = D.counts := by cases a <;> rfl
theorem armO_half (D : Dk) (a : Option Nat) : (D.armO a).half = D.half := by cases a <;> rfl
theorem armO_snapB (D : Dk) (a : Option Nat) (s : Sb) : ∀ k, snapB s (D.armO a) k = snapB s D k
  | 0 => rfl
  | k + 1 => by
    rw [snapB, snapB, armO_snapB D a s k]
    cases a <;> rfl
theorem armO_snapS (D : Dk) (a : Option Nat) (s : Sb) : snapS s (D.armO a) = snapS s D := by rw [snapS, snapS, armO_snapB]
theorem armO_openL (S : Sb) (D : Dk) (a : Option Nat) (bs : List Int) : openL S (D.armO a) bs = openL S D bs := by cases a <;> rfl
theorem armO_byt {D : Dk} (h : Byt D) (a : Option Nat) : Byt (D.armO a) := by cases a <;> exact ⟨h.safe, h.pend⟩
/-- What formatting comes to. -/
def formatF (D : Dk) : Dk × Int :=
  if (D.write 0 (sbBlock sb0)).2 = 0 then
    (if ((D.write 0 (sbBlock sb0)).1.write 1 zeroB).2 = 0 then ((D.write 0 (sbBlock sb0)).1.write 1 zeroB).1.sync else (D.write 0 (sbBlock sb0)).1.write 1 zeroB)
  else D.write 0 (sbBlock sb0)
theorem write_pend (D : Dk) (i : Int) (b : Blk) : (D.write i b).1.pending.length ≤ D.pending.length + 1 := by
  unfold Dk.write
  split
  · exact Nat.le_succ _
  · split
    · exact Nat.le_succ _
    · simp [Dk.push, Dk.does]
attribute [local irreducible] J JL JE JM LS Y Fc RV Code.wp wpList Code.wpIn wpListIn
attribute [local irreducible] Yc
variable (E : World)
theorem openA_spec (d : Nat) (D : Dk) (s : Sb) (w : List Int) (a : Option Nat) (l : List HProp) (h : Holds s w D) (h64 : 64 ≤ D.safe.length) :
    Fc prog E 97 [.pointer (some ⟨d, 0, none⟩)].toArray (disk d (D.armO a) :: l) (fun v l' => ∃ st, v = .tuple #[.pointer (some ⟨st, 0, none⟩), .int .i64 0] ∧ l' = row st 224 (scells s d) :: disk d (D.armO a) :: l) :=
  (open_spec E d (D.armO a) l (by rw [armO_safe]; exact h64) (by rw [armO_dead]; exact h.up.dead) (by rw [armO_pending, h.none]; decide)).mono fun v l' q => by
    rw [armO_counts, h.counts] at q
    simp only [openP] at q
    rw [if_pos ⟨by rw [armO_half]; exact h.fits.hi, by rw [armO_snapS, h.snap]; exact h.hash⟩] at q
    exact q
theorem lopenA_spec (st d : Nat) (S : Sb) (D : Dk) (L : Lg) (a : Option Nat) (l : List HProp) (h : LH S D L) :
    Fc prog E 62 [.pointer (some ⟨st, 0, none⟩)].toArray (row st 224 (scells S d) :: disk d (D.armO a) :: l)
      (fun v l' => ∃ lg, v = .tuple #[.pointer (some ⟨lg, 0, none⟩), .int .i64 0] ∧ l' = logm lg st L :: row st 224 (scells S d) :: disk d (D.armO a) :: l) := by
  have hf : Fits S (D.armO a) := ⟨h.holds.fits.hash, h.holds.fits.place, h.holds.fits.lo, by rw [armO_half]; exact h.holds.fits.hi, by rw [armO_safe]; exact h.holds.fits.two⟩
  have q := lopen_spec E st d S (D.armO a) L.snap l hf (by rw [armO_dead]; exact h.holds.up.dead) (armO_byt h.byt a) (by rw [armO_pending, h.holds.none]; decide) (by rw [armO_snapS]; exact h.holds.snap) h.holds.hash
  rwa [armO_openL, h.openL] at q
theorem storeA_spec (d : Nat) (D : Dk) (s : Sb) (w : List Int) (a : Option Nat) (l : List HProp) (h : Holds s w D) (h64 : 64 ≤ D.safe.length) :
    Fc prog E 61 [.pointer (some ⟨d, 0, none⟩)].toArray (disk d (D.armO a) :: l) (fun v l' => ∃ st, v = .tuple #[.pointer (some ⟨st, 0, none⟩), .int .i64 0] ∧ l' = row st 224 (scells s d) :: disk d (D.armO a) :: l) := by
  refine Jt (c := ?codeC) Tryz.func61 ?hb Tryz.ntmps61 ?hl ?_
  case hb => exact rfl
  case hl => exact rfl
  refine Jh ?_
  refine Jc ?_
  refine Ja (Jd rfl) O O O (Ja (Jd rfl) O O O ?_)
  refine Jg ?_
  refine Jb ?_
  refine Jh ?_
  refine Jc ?_
  refine Ja (Je rfl) O O O ?_
  refine Jj rfl (Js e97 O O (openA_spec E d D s w a _ h h64) ?_)
  rintro _ _ ⟨st, rfl, rfl⟩
  refine Ja (Je rfl) O O O (Ja (Jy O O) O O O (Ja (Jy O O) O O O (Ja (Jd rfl) O O O (Ja (Jd rfl) O O O ?_))))
  refine Jg ?_
  refine Jb ?_
  refine Jh ?_
  refine Jh ?_
  refine Jc ?_
  refine Ja (Je rfl) O O O (Ja (y_eql O O) O O O ?_)
  refine Jg ?_
  refine Jb ?_
  refine Vf rfl zbl ?_
  refine Ve ?_
  refine Jb ?_
  refine Jh ?_
  refine Jc ?_
  refine Ja (Je rfl) O O O (Ja (Je rfl) O O O (Ja (Jd rfl) O O O (Ja (Jd rfl) O O O ?_)))
  refine Jg ?_
  refine Jb ?_
  refine Vl ?_
  refine Wg (.inl rfl) O O zrv zrv ?_
  exact ⟨st, rfl, rfl⟩
theorem formatF_spec (d : Nat) (D : Dk) (l : List HProp) (h : 64 ≤ D.safe.length) (hpn : D.pending.length ≤ 100000) :
    Fc prog E 83 [.pointer (some ⟨d, 0, none⟩)].toArray (disk d D :: l) (fun v l' => ((formatF D).2 = 0 ∧ ∃ st, v = .tuple #[.pointer (some ⟨st, 0, none⟩), .int .i64 0] ∧ l' = row st 224 (scells sb0 d) :: disk d (formatF D).1 :: l) ∨ (¬ (formatF D).2 = 0 ∧ v = .tuple #[.pointer none, .int .i64 (formatF D).2] ∧ l' = disk d (formatF D).1 :: l)) := by
  refine Wi ?_
  have hnilIn : ∀ l, InL l none 0 0 (ints .u8 []) := fun l => ⟨Nat.le_refl _, Nat.zero_le _, .inr ⟨rfl, rfl⟩⟩
  obtain ⟨⟨D1, e1⟩, hW1⟩ : ∃ R, D.write 0 (sbBlock sb0) = R := ⟨_, rfl⟩
  obtain ⟨⟨D2, e2⟩, hW2⟩ : ∃ R, D1.write 1 zeroB = R := ⟨_, rfl⟩
  obtain ⟨⟨D3, e3⟩, hW3⟩ : ∃ R, D2.sync = R := ⟨_, rfl⟩
  have hF : formatF D = if e1 = 0 then (if e2 = 0 then (D3, e3) else (D2, e2)) else (D1, e1) := by
    unfold formatF
    rw [hW1]
    dsimp only
    rw [hW2]
    dsimp only
    rw [hW3]
  have h1p : D1.pending.length ≤ D.pending.length + 1 := by have q := write_pend D 0 (sbBlock sb0); rwa [hW1] at q
  have h2p : D2.pending.length ≤ D1.pending.length + 1 := by have q := write_pend D1 1 zeroB; rwa [hW2] at q
  have c0 : ∀ l, Fc prog E 122 [Value.pointer (some ⟨d, 0, none⟩), .int .i64 0, .agg (encB (sbBlock sb0)).toArray].toArray (disk d D :: l) (fun v l' => v = .int .i64 e1 ∧ l' = disk d D1 :: l) := fun l => by
    have q := write_spec E d D 0 (sbBlock sb0) (sbBlock_length sb0_hash) l (by omega)
    rwa [hW1] at q
  have c1 : ∀ l, Fc prog E 122 [Value.pointer (some ⟨d, 0, none⟩), .int .i64 1, .agg (encB zeroB).toArray].toArray (disk d D1 :: l) (fun v l' => v = .int .i64 e2 ∧ l' = disk d D2 :: l) := fun l => by
    have q := write_spec E d D1 1 zeroB rfl l (by omega)
    rwa [hW2] at q
  have c2 : ∀ l, Fc prog E 124 [Value.pointer (some ⟨d, 0, none⟩)].toArray (disk d D2 :: l) (fun v l' => v = .int .i64 e3 ∧ l' = disk d D3 :: l) := fun l => by
    have q := sync_spec E d D2 l (by omega)
    rwa [hW3] at q
  have hS19 : (encS sb0).length = 19 := by simp [encS, ints, sb0_hash]
  have hS1 := encS_one sb0
  obtain ⟨hs, hhs⟩ : ∃ hs, (sha []).take 16 = hs := ⟨_, rfl⟩
  have hsl : hs.length = 16 := by rw [← hhs]; simp [sha_length]
  have hs16 : (ints .u8 hs).length = 16 := by simp [ints, hsl]
  have esb : encS sb0 = .int .i64 0 :: Q 0#64 :: .int .i64 0 :: ints .u8 hs := by rw [encS, sb0, hhs]
  have hshort : ∀ l, Fc prog E 121 [.slice none 0 0].toArray l (fun v l' => v = .agg (ints .u8 hs).toArray ∧ l' = l) := fun l => by
    have q := short_spec E none 0 [] l (hnilIn l) (by simp)
    rwa [hhs] at q
  rw [hF]
  obtain ⟨S0, hS0⟩ : ∃ S0, sb0 = S0 := ⟨_, rfl⟩
  have hS0h : S0.hash.length = 16 := by rw [← hS0]; exact sb0_hash
  rw [hS0] at c0 hS19 hS1 esb ⊢
  refine Jt (c := ?codeC) Tryz.func83 ?hb Tryz.ntmps83 ?hl ?_
  case hb => exact rfl
  case hl => exact rfl
  refine Jh ?_
  refine Jc ?_
  refine Ja (Jd rfl) O O O (Ja (Jd rfl) O O O ?_)
  refine Jg ?_
  refine Jb ?_
  refine Jh ?_
  refine Vj ?_
  refine Jh ?_
  refine Jc ?_
  refine Ja (Je rfl) O O O (Ja (Vx hT O O O O) O O O (Ja (Jd rfl) O O O ?_))
  refine Jg ?_
  refine Jb ?_
  refine Vf rfl zbl ?_
  refine Jh ?_
  refine Jc ?_
  refine Ja (Je rfl) O O O ?_
  refine Jj rfl (Js e82 O O (len_spec E d D _) ?_)
  rintro _ _ ⟨rfl, rfl⟩
  refine Ja (y_lss O O) O O O (Ja (Jd rfl) O O O ?_)
  refine Jg ?_
  refine Jb ?_
  refine Vf rfl zbl ?_
  refine Ve ?_
  refine Jv ?_
  refine Jb ?_
  refine Jh ?_
  refine Jc ?_
  refine Jj rfl (Js e121 O O (hshort _) ?_)
  rintro _ _ ⟨rfl, rfl⟩
  refine Ja (y_build (cs := encS S0) hT O O O O O O ⟨⟨hs16, Nat.le_of_ble_eq_true rfl⟩, trivial⟩ (by rw [esb]; simp [fillE, Value.cells, ints]; exact ⟨rfl, Nat.le_of_ble_eq_true rfl⟩)) O O O ?_
  refine Jj rfl (Wa hT O O zcl rfl (fun b3 => ?_))
  refine Jj rfl (Vp hT O O O zln zoc zpk zln ?_)
  refine Jg ?_
  refine Jb ?_
  refine Jh ?_
  refine Jh ?_
  refine Jc ?_
  refine Ja (Je rfl) O O O ?_
  refine Ja (y_loadN hT O O O zrdn zln) O O O ?_
  refine Jj rfl (Js e123 O O (block_super_spec E S0 _ hS0h) ?_)
  rintro _ _ ⟨rfl, rfl⟩
  refine Jj rfl (Js e122 O O (Wj (Ji zpk Jl) (c0 _)) ?_)
  rintro _ _ ⟨rfl, rfl⟩
  refine Ja (Jd rfl) O O O ?_
  refine Jg ?_
  refine Jb ?_
  refine Jh ?_
  refine Jc ?_
  refine Ja (Je rfl) O O O (Ja (Wk O O) O O O ?_)
  refine Jg ?_
  refine Jb ?_
  first | apply Va rfl | apply Vt rfl
  case' ht =>
    intro h
    try (first | (exfalso; omega) | (cases h; done) | (exfalso; simp at h; done) | subst h)
    all_goals
      have hne : ¬ e1 = 0 := h
      refine Jh ?_
      refine Jc ?_
      refine Ja (Je rfl) O O O (Ja (Jd rfl) O O O (Ja (Jd rfl) O O O ?_))
      refine Jg ?_
      refine Jb ?_
      refine Vl ?_
      refine Jz ?_
      refine Wg (.inl rfl) O O zrv zrv ?_
      first
        | (have zz := he3
           rw [if_pos he1, if_pos he2]
           exact ⟨_, fun w q => q.sup zsup, .inl ⟨he3, _, rfl, rfl⟩⟩)
        | (have zz := he2
           rw [if_pos he1, if_pos he2]
           exact ⟨_, fun w q => q.sup zsup, .inr ⟨hne, rfl, rfl⟩⟩)
        | (have zz := he1
           rw [if_pos he1, if_neg hne]
           exact ⟨_, fun w q => q.sup zsup, .inr ⟨hne, rfl, rfl⟩⟩)
        | (rw [if_neg hne]
           exact ⟨_, fun w q => q.sup zsup, .inr ⟨hne, rfl, rfl⟩⟩)
  case' hf =>
    intro h
    try (first | (exfalso; omega) | (cases h; done) | (exfalso; simp at h; done) | subst h)
    all_goals
      have he1 : e1 = 0 := by omega
      refine Ve ?_
  all_goals refine Jb ?_
  all_goals
    refine Jh ?_
    refine Jh ?_
    refine Jc ?_
    refine Ja (Je rfl) O O O (Ja (y_build_arr0 hT O O O O) O O O ?_)
    refine Jj rfl (Js e122 O O (Wj (Ji zpk Jl) (c1 _)) ?_)
    rintro _ _ ⟨rfl, rfl⟩
    refine Ja (Jd rfl) O O O ?_
    refine Jg ?_
    refine Jb ?_
    refine Jh ?_
    refine Jc ?_
    refine Ja (Je rfl) O O O (Ja (Wk O O) O O O ?_)
    refine Jg ?_
    refine Jb ?_
    first | apply Va rfl | apply Vt rfl
    case' ht =>
      intro h
      try (first | (exfalso; omega) | (cases h; done) | (exfalso; simp at h; done) | subst h)
      all_goals
        have hne : ¬ e2 = 0 := h
        refine Jh ?_
        refine Jc ?_
        refine Ja (Je rfl) O O O (Ja (Jd rfl) O O O (Ja (Jd rfl) O O O ?_))
        refine Jg ?_
        refine Jb ?_
        refine Vl ?_
        refine Jz ?_
        refine Wg (.inl rfl) O O zrv zrv ?_
        first
          | (have zz := he3
             rw [if_pos he1, if_pos he2]
             exact ⟨_, fun w q => q.sup zsup, .inl ⟨he3, _, rfl, rfl⟩⟩)
          | (have zz := he2
             rw [if_pos he1, if_pos he2]
             exact ⟨_, fun w q => q.sup zsup, .inr ⟨hne, rfl, rfl⟩⟩)
          | (have zz := he1
             rw [if_pos he1, if_neg hne]
             exact ⟨_, fun w q => q.sup zsup, .inr ⟨hne, rfl, rfl⟩⟩)
          | (rw [if_neg hne]
             exact ⟨_, fun w q => q.sup zsup, .inr ⟨hne, rfl, rfl⟩⟩)
    case' hf =>
      intro h
      try (first | (exfalso; omega) | (cases h; done) | (exfalso; simp at h; done) | subst h)
      all_goals
        have he2 : e2 = 0 := by omega
        refine Ve ?_
    all_goals refine Jb ?_
    all_goals
      refine Jh ?_
      refine Jh ?_
      refine Jc ?_
      refine Ja (Je rfl) O O O ?_
      refine Jj rfl (Js e124 O O (Wj (Ji zpk Jl) (c2 _)) ?_)
      rintro _ _ ⟨rfl, rfl⟩
      refine Ja (Jd rfl) O O O ?_
      refine Jg ?_
      refine Jb ?_
      refine Jh ?_
      refine Jc ?_
      refine Ja (Je rfl) O O O (Ja (Wk O O) O O O ?_)
      refine Jg ?_
      refine Jb ?_
      first | apply Va rfl | apply Vt rfl
      case' ht =>
        intro h
        try (first | (exfalso; omega) | (cases h; done) | (exfalso; simp at h; done) | subst h)
        all_goals
          have hne : ¬ e3 = 0 := h
          refine Jh ?_
          refine Jc ?_
          refine Ja (Je rfl) O O O (Ja (Jd rfl) O O O (Ja (Jd rfl) O O O ?_))
          refine Jg ?_
          refine Jb ?_
          refine Vl ?_
          refine Jz ?_
          refine Wg (.inl rfl) O O zrv zrv ?_
          first
            | (have zz := he3
               rw [if_pos he1, if_pos he2]
               exact ⟨_, fun w q => q.sup zsup, .inl ⟨he3, _, rfl, rfl⟩⟩)
            | (have zz := he2
               rw [if_pos he1, if_pos he2]
               exact ⟨_, fun w q => q.sup zsup, .inr ⟨hne, rfl, rfl⟩⟩)
            | (have zz := he1
               rw [if_pos he1, if_neg hne]
               exact ⟨_, fun w q => q.sup zsup, .inr ⟨hne, rfl, rfl⟩⟩)
            | (rw [if_neg hne]
               exact ⟨_, fun w q => q.sup zsup, .inr ⟨hne, rfl, rfl⟩⟩)
      case' hf =>
        intro h
        try (first | (exfalso; omega) | (cases h; done) | (exfalso; simp at h; done) | subst h)
        all_goals
          have he3 : e3 = 0 := by omega
          refine Ve ?_
      all_goals refine Jb ?_
      all_goals
        refine Jh ?_
        refine Jc ?_
        refine Ja (y_loadN hT O O O zrdn zln) O O O ?_
        refine Ja (Je rfl) O O O ?_
        refine Ja (y_build (cs := scells S0 d) hT O O O O O O ⟨⟨hS19, Nat.le_of_ble_eq_true rfl⟩, ⟨rfl, Nat.le_of_ble_eq_true rfl⟩, trivial⟩ (by simp [fillE, Value.cells, scells, hS19, i218, i49])) O O O ?_
        refine Jj rfl (l_box rfl zcl rfl (fun b9 => ?_))
        refine Ja (Jd rfl) O O O (Ja (Jd rfl) O O O ?_)
        refine Jg ?_
        refine Jb ?_
        refine Vl ?_
        refine Wg (.inl rfl) O O zrv zrv ?_
        first
          | (have zz := he3
             rw [if_pos he1, if_pos he2]
             exact ⟨_, fun w q => q.sup zsup, .inl ⟨he3, _, rfl, rfl⟩⟩)
          | (have zz := he2
             rw [if_pos he1, if_pos he2]
             exact ⟨_, fun w q => q.sup zsup, .inr ⟨hne, rfl, rfl⟩⟩)
          | (have zz := he1
             rw [if_pos he1, if_neg hne]
             exact ⟨_, fun w q => q.sup zsup, .inr ⟨hne, rfl, rfl⟩⟩)
          | (rw [if_neg hne]
             exact ⟨_, fun w q => q.sup zsup, .inr ⟨hne, rfl, rfl⟩⟩)
theorem storeF_spec (d : Nat) (D : Dk) (l : List HProp) (h64 : 64 ≤ D.safe.length) (hd : D.dead = false) (hpn : D.pending.length ≤ 100000) (hc : D.counts = none) :
    Fc prog E 61 [.pointer (some ⟨d, 0, none⟩)].toArray (disk d D :: l) (fun v l' => ((formatF D).2 = 0 ∧ ∃ st, v = .tuple #[.pointer (some ⟨st, 0, none⟩), .int .i64 0] ∧ l' = row st 224 (scells sb0 d) :: disk d (formatF D).1 :: l) ∨ (¬ (formatF D).2 = 0 ∧ v = .tuple #[.pointer none, .int .i64 (formatF D).2] ∧ l' = disk d (formatF D).1 :: l)) := by
  have co : ∀ l, Fc prog E 97 [.pointer (some ⟨d, 0, none⟩)].toArray (disk d D :: l) (fun v l' => v = .tuple #[.pointer none, .int .i64 210] ∧ l' = disk d D :: l) := fun l => by
    have q := open_spec E d D l h64 hd (by omega)
    rwa [hc] at q
  by_cases h0 : (formatF D).2 = 0
  · have cf : ∀ l, Fc prog E 83 [.pointer (some ⟨d, 0, none⟩)].toArray (disk d D :: l) (fun v l' => ∃ st, v = .tuple #[.pointer (some ⟨st, 0, none⟩), .int .i64 0] ∧ l' = row st 224 (scells sb0 d) :: disk d (formatF D).1 :: l) := fun l => (formatF_spec E d D l h64 hpn).mono fun v l' q => by
      rcases q with ⟨_, q⟩ | ⟨q, _⟩
      · exact q
      · exact absurd h0 q
    refine Jt (c := ?codeC) Tryz.func61 ?hb Tryz.ntmps61 ?hl ?_
    case hb => exact rfl
    case hl => exact rfl
    refine Jh ?_
    refine Jc ?_
    refine Ja (Jd rfl) O O O (Ja (Jd rfl) O O O ?_)
    refine Jg ?_
    refine Jb ?_
    refine Jh ?_
    refine Jc ?_
    refine Ja (Je rfl) O O O ?_
    refine Jj rfl (Js e97 O O (co _) ?_)
    rintro _ _ ⟨rfl, rfl⟩
    refine Ja (Je rfl) O O O (Ja (Jy O O) O O O (Ja (Jy O O) O O O (Ja (Jd rfl) O O O (Ja (Jd rfl) O O O ?_))))
    refine Jg ?_
    refine Jb ?_
    refine Jh ?_
    refine Jh ?_
    refine Jc ?_
    refine Ja (Je rfl) O O O (Ja (y_eql O O) O O O ?_)
    refine Jg ?_
    refine Jb ?_
    refine J.cond_t rfl zbl ?_
    refine Jh ?_
    refine Jc ?_
    refine Ja (Je rfl) O O O ?_
    refine Jj rfl (Js e83 O O (cf _) ?_)
    rintro _ _ ⟨st, rfl, rfl⟩
    refine Ja (Jy O O) O O O (Ja (Jy O O) O O O (Ja (Jd rfl) O O O (Ja (Jd rfl) O O O ?_)))
    refine Jg ?_
    refine Jb ?_
    refine Vl ?_
    refine Jz ?_
    refine Wg (.inl rfl) O O zrv zrv ?_
    exact .inl ⟨h0, _, rfl, rfl⟩
  · have cf : ∀ l, Fc prog E 83 [.pointer (some ⟨d, 0, none⟩)].toArray (disk d D :: l) (fun v l' => v = .tuple #[.pointer none, .int .i64 (formatF D).2] ∧ l' = disk d (formatF D).1 :: l) := fun l => (formatF_spec E d D l h64 hpn).mono fun v l' q => by
      rcases q with ⟨q, _⟩ | ⟨_, q⟩
      · exact absurd q h0
      · exact q
    refine Jt (c := ?codeC) Tryz.func61 ?hb Tryz.ntmps61 ?hl ?_
    case hb => exact rfl
    case hl => exact rfl
    refine Jh ?_
    refine Jc ?_
    refine Ja (Jd rfl) O O O (Ja (Jd rfl) O O O ?_)
    refine Jg ?_
    refine Jb ?_
    refine Jh ?_
    refine Jc ?_
    refine Ja (Je rfl) O O O ?_
    refine Jj rfl (Js e97 O O (co _) ?_)
    rintro _ _ ⟨rfl, rfl⟩
    refine Ja (Je rfl) O O O (Ja (Jy O O) O O O (Ja (Jy O O) O O O (Ja (Jd rfl) O O O (Ja (Jd rfl) O O O ?_))))
    refine Jg ?_
    refine Jb ?_
    refine Jh ?_
    refine Jh ?_
    refine Jc ?_
    refine Ja (Je rfl) O O O (Ja (y_eql O O) O O O ?_)
    refine Jg ?_
    refine Jb ?_
    refine J.cond_t rfl zbl ?_
    refine Jh ?_
    refine Jc ?_
    refine Ja (Je rfl) O O O ?_
    refine Jj rfl (Js e83 O O (cf _) ?_)
    rintro _ _ ⟨rfl, rfl⟩
    refine Ja (Jy O O) O O O (Ja (Jy O O) O O O (Ja (Jd rfl) O O O (Ja (Jd rfl) O O O ?_)))
    refine Jg ?_
    refine Jb ?_
    refine Vl ?_
    refine Jz ?_
    refine Wg (.inl rfl) O O zrv zrv ?_
    exact .inr ⟨h0, rfl, rfl⟩
end Go.Proofs.YtimekohdlofmaaaGreat
namespace Go.Proofs.YtimekohdlofmaaaGreat
open Go Go.SL
/-! What an entry does. -/
abbrev entR (x lg : Nat) (br : Bool) (last : BitVec 64) (ph hops : Int) (got : Value) : HProp := row x 136 (ecells lg br last ph hops got)
attribute [local irreducible] J JL JE JM LS Y Fc RV Code.wp wpList Code.wpIn wpListIn
attribute [local irreducible] Yc
variable (E : World)
section
variable (x lg : Nat) (br : Bool) (last : BitVec 64) (ph hops : Int) (got : Value) (l : List HProp)
theorem eround_spec : Fc prog E 17 [.pointer (some ⟨x, 0, none⟩)].toArray (entR x lg br last ph hops got :: l) (fun v l' => v = Q last ∧ l' = entR x lg br last ph hops got :: l) := by
  refine Jt (c := ?codeC) Tryz.func17 ?hb Tryz.ntmps17 ?hl ?_
  case hb => exact rfl
  case hl => exact rfl
  refine Jh ?_
  refine Jc ?_
  refine Ja (Jd rfl) O O O ?_
  refine Jg ?_
  refine Jb ?_
  refine Jh ?_
  refine Jh ?_
  refine Jc ?_
  refine Ja (Je rfl) O O O (Ja (Vx hT O O O O) O O O ?_)
  refine Jg ?_
  refine Jb ?_
  refine Vf rfl zbl ?_
  refine Ve ?_
  refine Jb ?_
  refine Jh ?_
  refine Jc ?_
  refine Ja (Je rfl) O O O ?_
  refine Ja ((by first | exact Jq rfl | exact Jm rfl | exact Jn rfl)) O O O ?_
  refine Ja (Jk hT O O O O O O) O O O ?_
  refine Ja (Jo hT O O O zrd) O O O ?_
  refine Ja (Jd rfl) O O O ?_
  refine Jg ?_
  refine Jb ?_
  refine Vl ?_
  refine Vk (.inl rfl) O O zrv ?_
  exact ⟨rfl, rfl⟩
theorem ephase_spec : Fc prog E 18 [.pointer (some ⟨x, 0, none⟩)].toArray (entR x lg br last ph hops got :: l) (fun v l' => v = .int .i64 ph ∧ l' = entR x lg br last ph hops got :: l) := by
  refine Jt (c := ?codeC) Tryz.func18 ?hb Tryz.ntmps18 ?hl ?_
  case hb => exact rfl
  case hl => exact rfl
  refine Jh ?_
  refine Jc ?_
  refine Ja (Jd rfl) O O O ?_
  refine Jg ?_
  refine Jb ?_
  refine Jh ?_
  refine Jh ?_
  refine Jc ?_
  refine Ja (Je rfl) O O O (Ja (Vx hT O O O O) O O O ?_)
  refine Jg ?_
  refine Jb ?_
  refine Vf rfl zbl ?_
  refine Ve ?_
  refine Jb ?_
  refine Jh ?_
  refine Jc ?_
  refine Ja (Je rfl) O O O ?_
  refine Ja ((by first | exact Jq rfl | exact Jm rfl | exact Jn rfl)) O O O ?_
  refine Ja (Jk hT O O O O O O) O O O ?_
  refine Ja (Jo hT O O O zrd) O O O ?_
  refine Ja (Jd rfl) O O O ?_
  refine Jg ?_
  refine Jb ?_
  refine Vl ?_
  refine Vk (.inl rfl) O O zrv ?_
  exact ⟨rfl, rfl⟩
theorem eover_spec : Fc prog E 70 [.pointer (some ⟨x, 0, none⟩)].toArray (entR x lg br last ph hops got :: l) (fun _ l' => l' = entR x lg br last 0 0 (.map none) :: l) := by
  refine Wi ?_
  refine Jt (c := ?codeC) Tryz.func70 ?hb Tryz.ntmps70 ?hl ?_
  case hb => exact rfl
  case hl => exact rfl
  refine Jc ?_
  refine Ja (Je rfl) O O O (Ja (Je rfl) O O O (Ja (Je rfl) O O O ?_))
  refine Ja ((by first | exact Jq rfl | exact Jm rfl | exact Jn rfl)) O O O ?_
  refine Ja (Jk hT O O O O O O) O O O ?_
  refine Jj rfl (Vw hT O O O O O zpk zix ?_)
  refine Ja ((by first | exact Jq rfl | exact Jm rfl | exact Jn rfl)) O O O ?_
  refine Ja (Jk hT O O O O O O) O O O ?_
  refine Jj rfl (Vw hT O O O O O zpk zix ?_)
  refine Ja ((by first | exact Jq rfl | exact Jm rfl | exact Jn rfl)) O O O ?_
  refine Ja (Jk hT O O O O O O) O O O ?_
  refine Jj rfl (Vw hT O O O O O zpk zix ?_)
  refine Jg ?_
  all_goals
    refine JE.ret0 (.inr rfl) O O  ?_
    exact ⟨_, fun w q => q, rfl⟩
/-- A number is kept: appended, or, where there is no room, behind a checkpoint. -/
theorem keep_one (st d : Nat) (S : Sb) (D X : Dk) (L La : Lg) (n : BitVec 64) (e : Int) (he : e ≠ 6)
    (capp : ∀ (p : Option Addr) (c : Nat) l, InL l p 8 c (ints .u8 (leB 8 n)) → Fc prog E 94 [.pointer (some ⟨lg, 0, none⟩), .slice p 8 c].toArray (logm lg st L :: row st 224 (scells S d) :: disk d D :: l) (fun v l' => v = .int .i64 e ∧ l' = logm lg st La :: row st 224 (scells S d) :: disk d X :: l)) :
    Fc prog E 66 [.pointer (some ⟨x, 0, none⟩), Q n].toArray (entR x lg br last ph hops got :: logm lg st L :: row st 224 (scells S d) :: disk d D :: l)
      (fun v l' => v = .int .i64 e ∧ l' = entR x lg (decide (¬ e = 0)) last ph hops got :: logm lg st La :: row st 224 (scells S d) :: disk d X :: l) := by
  refine Fc.eqs ?_
  have hb : decide (e = 6) = false := decide_eq_false he
  refine Jt (c := ?codeC) Tryz.func66 ?hb Tryz.ntmps66 ?hl ?_
  case hb => exact rfl
  case hl => exact rfl
  refine Jh ?_
  refine Jc ?_
  refine Ja (Jd rfl) O O O ?_
  refine Jg ?_
  refine Jb ?_
  refine Jh ?_
  refine Jc ?_
  refine Ja (Je rfl) O O O ?_
  refine Jj rfl (Js e111 O O (octPut64_spec E none 0 [] n _ ⟨Nat.le_refl _, Nat.zero_le _, .inr ⟨rfl, rfl⟩⟩ (by decide)) ?_)
  rintro _ _ ⟨ba, bc, rfl, rfl⟩
  refine Ja (Jd rfl) O O O ?_
  refine Jg ?_
  refine Jb ?_
  refine Jh ?_
  refine Jc ?_
  refine Ja (Je rfl) O O O ?_
  refine Ja ((by first | exact Jq rfl | exact Jm rfl | exact Jn rfl)) O O O ?_
  refine Ja (Jk hT O O O O O O) O O O ?_
  refine Ja (Jo hT O O O zrd) O O O ?_
  refine Ja (Je rfl) O O O ?_
  refine Jj rfl (Js e94 O O (Fc.fact (p := OwnAt ba 8 bc (ints .u8 (leB 8 n))) (fun w s => Vv (s.pick Jp)) fun ob => Wj (Ji zpk (Ji zpk (Ji zpk Jl))) (capp ba bc _ (ob.inl zpk))) ?_)
  rintro _ _ ⟨rfl, rfl⟩
  refine Ja (Jd rfl) O O O ?_
  refine Jg ?_
  refine Jb ?_
  refine Jh ?_
  refine Jh ?_
  refine Jc ?_
  refine Ja (Je rfl) O O O (Ja (y_eql O O) O O O ?_)
  refine Jg ?_
  refine Jb ?_
  refine Vf rfl zbl ?_
  refine Ve ?_
  refine Jb ?_
  refine Jh ?_
  refine Jc ?_
  refine Ja (Je rfl) O O O (Ja (Je rfl) O O O (Ja (Wk O O) O O O ?_))
  refine Ja ((by first | exact Jq rfl | exact Jm rfl | exact Jn rfl)) O O O ?_
  refine Ja (Jk hT O O O O O O) O O O ?_
  refine Jj rfl (Vw hT O O O O O zpk zix ?_)
  refine Jg ?_
  refine Jb ?_
  refine Jh ?_
  refine Jc ?_
  refine Ja (Je rfl) O O O (Ja (Jd rfl) O O O ?_)
  refine Jg ?_
  refine Jb ?_
  refine Vl ?_
  refine Vk (.inl rfl) O O zrv ?_
  exact ⟨rfl, fun w q => q.sup zsup⟩
theorem keep_two (st d : Nat) (S Sa : Sb) (D D1 X : Dk) (L L1 La : Lg) (n : BitVec 64) (e : Int)
    (capp : ∀ (p : Option Addr) (c : Nat) l, InL l p 8 c (ints .u8 (leB 8 n)) → Fc prog E 94 [.pointer (some ⟨lg, 0, none⟩), .slice p 8 c].toArray (logm lg st L :: row st 224 (scells S d) :: disk d D :: l) (fun v l' => v = .int .i64 6 ∧ l' = logm lg st L1 :: row st 224 (scells S d) :: disk d D1 :: l))
    (cck : ∀ (p : Option Addr) (c : Nat) l, InL l p 8 c (ints .u8 (leB 8 n)) → Fc prog E 96 [.pointer (some ⟨lg, 0, none⟩), .slice p 8 c].toArray (logm lg st L1 :: row st 224 (scells S d) :: disk d D1 :: l) (fun v l' => v = .int .i64 e ∧ l' = logm lg st La :: row st 224 (scells Sa d) :: disk d X :: l)) :
    Fc prog E 66 [.pointer (some ⟨x, 0, none⟩), Q n].toArray (entR x lg br last ph hops got :: logm lg st L :: row st 224 (scells S d) :: disk d D :: l)
      (fun v l' => v = .int .i64 e ∧ l' = entR x lg (decide (¬ e = 0)) last ph hops got :: logm lg st La :: row st 224 (scells Sa d) :: disk d X :: l) := by
  refine Fc.eqs ?_
  refine Jt (c := ?codeC) Tryz.func66 ?hb Tryz.ntmps66 ?hl ?_
  case hb => exact rfl
  case hl => exact rfl
  refine Jh ?_
  refine Jc ?_
  refine Ja (Jd rfl) O O O ?_
  refine Jg ?_
  refine Jb ?_
  refine Jh ?_
  refine Jc ?_
  refine Ja (Je rfl) O O O ?_
  refine Jj rfl (Js e111 O O (octPut64_spec E none 0 [] n _ ⟨Nat.le_refl _, Nat.zero_le _, .inr ⟨rfl, rfl⟩⟩ (by decide)) ?_)
  rintro _ _ ⟨ba, bc, rfl, rfl⟩
  refine Ja (Jd rfl) O O O ?_
  refine Jg ?_
  refine Jb ?_
  refine Jh ?_
  refine Jc ?_
  refine Ja (Je rfl) O O O ?_
  refine Ja ((by first | exact Jq rfl | exact Jm rfl | exact Jn rfl)) O O O ?_
  refine Ja (Jk hT O O O O O O) O O O ?_
  refine Ja (Jo hT O O O zrd) O O O ?_
  refine Ja (Je rfl) O O O ?_
  refine Jj rfl (Js e94 O O (Wj (Ji zpk (Ji zpk (Ji zpk Jl))) (Fc.fact (p := OwnAt ba 8 bc (ints .u8 (leB 8 n))) (fun w s => Vv (s.pick zpk)) fun ob => capp ba bc _ (ob.inl zpk))) ?_)
  rintro _ _ ⟨rfl, rfl⟩
  refine Ja (Jd rfl) O O O ?_
  refine Jg ?_
  refine Jb ?_
  refine Jh ?_
  refine Jh ?_
  refine Jc ?_
  refine Ja (Je rfl) O O O (Ja (y_eql O O) O O O ?_)
  refine Jg ?_
  refine Jb ?_
  refine J.cond_t rfl zbl ?_
  refine Jc ?_
  refine Ja (Je rfl) O O O ?_
  refine Ja ((by first | exact Jq rfl | exact Jm rfl | exact Jn rfl)) O O O ?_
  refine Ja (Jk hT O O O O O O) O O O ?_
  refine Ja (Jo hT O O O zrd) O O O ?_
  refine Ja (Je rfl) O O O ?_
  refine Jj rfl (Js e96 O O (Wj (Ji zpk (Ji zpk (Ji zpk Jl))) (Fc.fact (p := OwnAt ba 8 bc (ints .u8 (leB 8 n))) (fun w s => Vv (s.pick zpk)) fun ob => cck ba bc _ (ob.inl zpk))) ?_)
  rintro _ _ ⟨rfl, rfl⟩
  refine Ja (Jd rfl) O O O ?_
  refine Jg ?_
  refine Jb ?_
  refine Jh ?_
  refine Jc ?_
  refine Ja (Je rfl) O O O (Ja (Je rfl) O O O (Ja (Wk O O) O O O ?_))
  refine Ja ((by first | exact Jq rfl | exact Jm rfl | exact Jn rfl)) O O O ?_
  refine Ja (Jk hT O O O O O O) O O O ?_
  refine Jj rfl (Vw hT O O O O O zpk zix ?_)
  refine Jg ?_
  refine Jb ?_
  refine Jh ?_
  refine Jc ?_
  refine Ja (Je rfl) O O O (Ja (Jd rfl) O O O ?_)
  refine Jg ?_
  refine Jb ?_
  refine Vl ?_
  refine Vk (.inl rfl) O O zrv ?_
  exact ⟨rfl, fun w q => q.sup zsup⟩
end
end Go.Proofs.YtimekohdlofmaaaGreat
namespace Go.Proofs.YtimekohdlofmaaaGreat
open Go Go.SL
/-! Keys, and a round's begin. -/
def keyB (i : Nat) : List Int := ((i + 1 : Nat) : Int) :: List.replicate 31 0
theorem keyB_length (i : Nat) : (ints .u8 (keyB i)).length = 32 := by simp [keyB, ints]
def keysL (m : Nat) : List (List Int) := (List.range m).map keyB
theorem keysL_next (m : Nat) : (keysL (m + 1)).flatMap (ints .u8) = (keysL m).flatMap (ints .u8) ++ ints .u8 (keyB m) := by simp [keysL, List.range_succ]
theorem fill_arr0 {zs : List Value} {v : Value} {m : Nat} (hz : zs.length = m + 1) (hv : v.cells = #[v]) : Instr.fill (fun q => some (q * 1, 1)) zs.toArray [(0, v)] = some (v :: zs.drop 1).toArray := by
  have h := fill_eq (fun q => some (q * 1, 1)) [(0, 1)] [(0, v)] zs (fun q hq => by simp at hq; subst hq; rfl) (by simp [fillOk, hv, hz])
  rw [h]
  simp [fillE, hv]
attribute [local irreducible] J JL JE JM LS Y Fc RV Code.wp wpList Code.wpIn wpListIn
attribute [local irreducible] Yc
variable (E : World)
theorem keys22_spec (n : Int) (l : List HProp) (m : Nat) (hm : (m : Int) = min (max n 0) 5) :
    Fc prog E 14 [.int .i64 n].toArray l (fun v l' => ∃ a c, v = .slice a m c ∧ l' = own 73 32 (.slice a m c) m ((keysL m).flatMap (ints .u8)) :: l) := by
  refine Wi ?_
  have hm5 : m ≤ 5 := by omega
  refine Jt (c := ?codeC) Tryz.func14 ?hb Tryz.ntmps14 ?hl ?_
  case hb => exact rfl
  case hl => exact rfl
  refine Jh ?_
  refine Jc ?_
  refine Ja (Jd rfl) O O O ?_
  refine Jg ?_
  refine Jb ?_
  refine Jh ?_
  refine Jc ?_
  refine Ja (Jd rfl) O O O ?_
  refine Jg ?_
  refine Jb ?_
  refine Jh ?_
  refine Jh ?_
  refine Jc ?_
  refine Ja (Je rfl) O O O ?_
  refine Ja (y_max2 O O O) O O O ?_
  refine Ja (y_min2 (m := (m : Int)) O O hm.symm) O O O ?_
  refine Ja (Je rfl) O O O ?_
  refine Jg ?_
  refine Jb ?_
  refine Vj ?_
  refine J.loop (α := Nat × Option Addr × Nat) (fun s => s.1 ≤ m) (fun s => [(3, .slice s.2.1 s.1 s.2.2), (7, .int .i64 m), (8, .int .i64 s.1)]) (fun s => own 73 32 (.slice s.2.1 s.1 s.2.2) s.1 ((keysL s.1).flatMap (ints .u8)) :: l) (fun s => m - s.1) (0, none, 0) (Nat.zero_le _) ⟨O, O, O, trivial⟩ (fun w h => h.own_nil) ?_
  rintro ⟨i, a, c⟩ hi
  dsimp only at hi ⊢
  refine Jh ?_
  refine Jc ?_
  refine Ja (y_lss O O) O O O ?_
  refine Jg ?_
  refine Jb ?_
  refine Jh ?_
  first | apply Va rfl | apply Vt rfl
  case' ht =>
    intro h
    try (first | (exfalso; omega) | (cases h; done) | (exfalso; simp at h; done) | subst h)
    all_goals
      refine Ve ?_
  case' hf =>
    intro h
    try (first | (exfalso; omega) | (cases h; done) | (exfalso; simp at h; done) | subst h)
    all_goals
      refine J.exit ?_
      refine Vc ?_
      refine Vc ?_
      refine Vs ?_
      refine Jb ?_
      refine Jh ?_
      refine Jc ?_
      refine Ja (Je rfl) O O O (Ja (Jd rfl) O O O ?_)
      refine Jg ?_
      refine Jb ?_
      refine Vl ?_
      refine Vk (.inl rfl) O O zrv ?_
      obtain rfl : i = m := by omega
      exact ⟨_, fun w q => q, a, c, rfl, rfl⟩
  all_goals refine Jb ?_
  all_goals
    refine Jh ?_
    refine Vj ?_
    refine Jh ?_
    refine Jc ?_
    refine Ja (Je rfl) O O O (Ja (Jd rfl) O O O ?_)
    refine Jg ?_
    refine Jb ?_
    have hlt : i < m := by omega
    have hk32 := keyB_length i
    refine Jc ?_
    refine Ja (Je rfl) O O O (Ja (Je rfl) O O O ?_)
    refine Ja (Wc O O zwr) O O O ?_
    refine Ja (y_conv (m := ((i + 1 : Nat) : Int)) hT O O O O (by rw [wrap_u8]; omega)) O O O ?_
    refine Ja (y_buildArr (cs := ints .u8 (keyB i)) hT O O O O O (fill_arr0 (m := 31) O O)) O O O ?_
    refine Jj rfl (l_buildSliceP (cs := ints .u8 (keyB i)) hT O O O O O O O (fill_one rfl hk32) rfl (fun bk => ?_))
    refine Jj rfl (l_append hT O O O O O O O O zpk zrdn (by rw [show i73.size = 32 from rfl]; exact hk32) (ints_one _ _) (by rw [show i73.bytes = 32 from rfl]; omega) (by omega) rfl (fun na nc hnc => ?_))
    refine Ja (Jd rfl) O O O ?_
    refine Jg ?_
    refine Jv ?_
    refine Jb ?_
    refine Jc ?_
    refine Ja (Wc O O zwr) O O O ?_
    refine Ja (Je rfl) O O O ?_
    refine Jg ?_
  all_goals
    refine Vy (s := (i, a, c)) (i + 1, na, nc) (by dsimp only; omega) ⟨O, O, O, trivial⟩ (fun w q => ?_) (by dsimp only; omega)
    dsimp only
    rw [keysL_next]
    exact q.sup zsup
theorem clonek_spec (p : Option Addr) (cap n : Nat) (ks : List (List Int)) (l : List HProp) (hn : ks.length = n) (hb : n ≤ 1000000) (hk : ∀ k ∈ ks, (ints .u8 k).length = 32) (hin : InL l p n cap (ks.flatMap (ints .u8))) :
    Fc prog E 67 [.slice p n cap].toArray l (fun v l' => ∃ a c, v = .slice a n c ∧ l' = own 73 32 (.slice a n c) n (ks.flatMap (ints .u8)) :: l) := by
  refine Wi ?_
  have hl : (ks.flatMap (ints .u8)).length = n * 32 := by rw [seg_len hk, hn]
  have hones : ∀ u ∈ ks.flatMap (ints .u8), u.oneCell' = true := fun u hu => by
    obtain ⟨k, _, hu⟩ := List.mem_flatMap.1 hu
    exact ints_one _ _ u hu
  cases hp : p with
  | none =>
    subst hp
    obtain ⟨hc, hx⟩ := hin.rd.resolve_left (fun ⟨b, o, e, _⟩ => by cases e)
    have h0 : n = 0 := by have := hin.le; omega
    refine Jt (c := ?codeC) Tryz.func67 ?hb Tryz.ntmps67 ?hl ?_
    case hb => exact rfl
    case hl => exact rfl
    refine Jh ?_
    refine Jc ?_
    refine Ja (Jd rfl) O O O ?_
    refine Jg ?_
    refine Jb ?_
    refine Jh ?_
    refine Jh ?_
    refine Jc ?_
    refine Ja (Je rfl) O O O (Ja (y_sl_eq_nil hT O O O O) O O O ?_)
    refine Jg ?_
    refine Jb ?_
    refine J.cond_t rfl zbl ?_
    refine Jh ?_
    refine Jc ?_
    refine Ja (Jd rfl) O O O ?_
    refine Jg ?_
    refine Jb ?_
    refine Vl ?_
    refine Jz ?_
    refine Vk (.inl rfl) O O zrv ?_
    exact ⟨_, fun w q => by rw [hx, h0]; exact q.own_nil, none, 0, by rw [h0], rfl⟩
  | some a0 =>
    subst hp
    refine Jt (c := ?codeC) Tryz.func67 ?hb Tryz.ntmps67 ?hl ?_
    case hb => exact rfl
    case hl => exact rfl
    refine Jh ?_
    refine Jc ?_
    refine Ja (Jd rfl) O O O ?_
    refine Jg ?_
    refine Jb ?_
    refine Jh ?_
    refine Jh ?_
    refine Jc ?_
    refine Ja (Je rfl) O O O (Ja (y_sl_eq_nil hT O O O O) O O O ?_)
    refine Jg ?_
    refine Jb ?_
    refine Vf rfl zbl ?_
    refine Ve ?_
    refine Jb ?_
    refine Jh ?_
    refine Jc ?_
    refine Jj rfl (l_buildSlice0 hT O O O O (fun b1 => ?_))
    refine Ja (Je rfl) O O O ?_
    refine Jj rfl (l_appendIn hT O O O O O O O O Jp (hin.cons _) (by rw [show i73.size = 32 from rfl]; exact hl) hones (by rw [show i73.bytes = 32 from rfl]; omega) (by omega) rfl (fun q c hc => ?_))
    refine Ja (Jd rfl) O O O ?_
    refine Jg ?_
    refine Jb ?_
    refine Vl ?_
    refine Vk (.inl rfl) O O zrv ?_
    exact ⟨_, fun w s => by simp only [Nat.zero_add, List.nil_append] at s ⊢; exact s, q, c, by simp, rfl⟩
section
variable (x lg st d : Nat) (last : BitVec 64) (hops : Int) (got : Value) (S Sa : Sb) (D X : Dk) (L La : Lg) (p : Option Addr) (cap n : Nat) (ks : List (List Int)) (l : List HProp) (hn : ks.length = n) (hn1 : 1 ≤ n) (hn3 : n ≤ 3) (hk : ∀ k ∈ ks, (ints .u8 k).length = 32) (hin : InL l p n cap (ks.flatMap (ints .u8)))
include hn hn1 hn3 hk hin
/-- A round is announced, if its number can be kept. -/
theorem announce_spec (e : Int) (hlast : last + 1#64 ≠ 0#64)
    (ckeep : ∀ l, Fc prog E 66 [.pointer (some ⟨x, 0, none⟩), Q (last + 1#64)].toArray (entR x lg false last 0 hops got :: logm lg st L :: row st 224 (scells S d) :: disk d D :: l)
      (fun v l' => v = .int .i64 e ∧ l' = entR x lg (decide (¬ e = 0)) last 0 hops got :: logm lg st La :: row st 224 (scells Sa d) :: disk d X :: l)) :
    Fc prog E 13 [.pointer (some ⟨x, 0, none⟩), .slice p n cap].toArray (entR x lg false last 0 hops got :: logm lg st L :: row st 224 (scells S d) :: disk d D :: l)
      (fun v l' => (e = 0 ∧ ∃ a c g, v = .tuple #[.agg #[Q (last + 1#64), .slice a n c], .int .i64 0] ∧ l' = own 73 32 (.slice a n c) n (ks.flatMap (ints .u8)) :: blk g (.map #[] 0) :: entR x lg false (last + 1#64) 1 n (.map (some g)) :: logm lg st La :: row st 224 (scells Sa d) :: disk d X :: l) ∨
        (¬ e = 0 ∧ v = .tuple #[.agg #[Q 0#64, .slice none 0 0], .int .i64 e] ∧ l' = entR x lg true last 0 hops got :: logm lg st La :: row st 224 (scells Sa d) :: disk d X :: l)) := by
  refine Wi ?_
  have hb1 : decide ((n : Int) < 1) = false := decide_eq_false (by omega)
  have hb3 : decide ((3 : Int) < n) = false := decide_eq_false (by omega)
  have hbl : decide (((last + 1#64).toNat : Int) = 0) = false := decide_eq_false fun h => hlast (by
    apply BitVec.eq_of_toNat_eq
    rw [show (0#64).toNat = 0 from rfl]
    omega)
  by_cases he : e = 0
  · have hd : decide (¬ e = 0) = false := decide_eq_false (by omega)
    rw [hd] at ckeep
    subst he
    refine Jt (c := ?codeC) Tryz.func13 ?hb Tryz.ntmps13 ?hl ?_
    case hb => exact rfl
    case hl => exact rfl
    refine Jh ?_
    refine Jc ?_
    refine Jj rfl (Wa hT O O zcl rfl (fun b1 => ?_))
    refine Ja (Jd rfl) O O O ?_
    refine Jg ?_
    refine Jb ?_
    refine Jh ?_
    refine Vj ?_
    refine Jh ?_
    refine Jc ?_
    refine Ja (Je rfl) O O O (Ja (Vx hT O O O O) O O O (Ja (Jd rfl) O O O ?_))
    refine Jg ?_
    refine Jb ?_
    refine Vf rfl zbl ?_
    refine Jh ?_
    refine Jc ?_
    refine Ja (Je rfl) O O O ?_
    refine Ja ((by first | exact Jq rfl | exact Jm rfl | exact Jn rfl)) O O O ?_
    refine Ja (Jk hT O O O O O O) O O O ?_
    refine Ja (Jo hT O O O zrd) O O O ?_
    refine Ja (Jd rfl) O O O ?_
    refine Jg ?_
    refine Jb ?_
    refine Vf rfl zbl ?_
    refine Jh ?_
    refine Jc ?_
    refine Ja (Je rfl) O O O ?_
    refine Ja ((by first | exact Jq rfl | exact Jm rfl | exact Jn rfl)) O O O ?_
    refine Ja (Jk hT O O O O O O) O O O ?_
    refine Ja (Jo hT O O O zrd) O O O ?_
    refine Ja (Wk O O) O O O (Ja (Jd rfl) O O O ?_)
    refine Jg ?_
    refine Jb ?_
    refine Vf rfl zbl ?_
    refine Jh ?_
    refine Jc ?_
    refine Ja (Je rfl) O O O (Ja (Vh hT O O O) O O O ?_)
    refine Ja (y_lssB O O hb1) O O O ?_
    refine Ja (Je rfl) O O O ?_
    all_goals (first | (refine Vm O O O (fun h => ?_) (fun h => ?_) <;> try (first | (exfalso; omega) | exact absurd rfl h)) | (refine Vz O O O (fun h => ?_) (fun h => ?_) <;> try (first | cases h | (exfalso; simp at h; done))) | skip)
    all_goals (first | refine Ju O O O O O O ?_ | refine Jr O O O O O ?_ | refine Jw O O O (Je rfl) O O ?_)
    all_goals (first | refine Ju O O O O O O ?_ | refine Jr O O O O O ?_ | refine Jw O O O (Vh hT O O O) O O ?_)
    all_goals (first | refine Ju O O O O O O ?_ | refine Jr O O O O O ?_ | refine Jw O O O (y_gtr O O) O O ?_)
    all_goals (refine Ja (y_pick O O O) O O O ?_)
    all_goals (refine Ja (Jd rfl) O O O ?_)
    all_goals refine Jg ?_
    all_goals refine Jb ?_
    all_goals
      refine Vf rfl zbl ?_
      refine Jh ?_
      refine Jc ?_
      refine Ja (Je rfl) O O O ?_
      refine Ja ((by first | exact Jq rfl | exact Jm rfl | exact Jn rfl)) O O O ?_
      refine Ja (Jk hT O O O O O O) O O O ?_
      refine Ja (Jo hT O O O zrd) O O O ?_
      refine Ja ((by first | exact y_addQ O O | exact Wc O O zwr)) O O O ?_
      refine Ja (y_eql O O) O O O (Ja (Jd rfl) O O O ?_)
      refine Jg ?_
      refine Jb ?_
      refine Vf rfl zbl ?_
      refine Ve ?_
    all_goals refine Jv ?_
    all_goals refine Jb ?_
    all_goals
      refine Jh ?_
      refine Jh ?_
      refine Jc ?_
      refine Ja (Je rfl) O O O (Ja (Je rfl) O O O ?_)
      refine Ja ((by first | exact Jq rfl | exact Jm rfl | exact Jn rfl)) O O O ?_
      refine Ja (Jk hT O O O O O O) O O O ?_
      refine Ja (Jo hT O O O zrd) O O O ?_
      refine Ja ((by first | exact y_addQ O O | exact Wc O O zwr)) O O O ?_
      refine Jj rfl (Js e66 O O (Wj (Ji zpk (Ji zpk (Ji zpk (Ji zpk Jl)))) (ckeep _)) ?_)
      rintro _ _ ⟨rfl, rfl⟩
      refine Ja (Jd rfl) O O O ?_
      refine Jg ?_
      refine Jb ?_
      refine Jh ?_
      refine Jc ?_
      refine Ja (Je rfl) O O O (Ja (Wk O O) O O O ?_)
      refine Jg ?_
      refine Jb ?_
      refine Vf rfl zbl ?_
      refine Ve ?_
      refine Jb ?_
      refine Jh ?_
      refine Jc ?_
      refine Ja (Je rfl) O O O ?_
      refine Ja ((by first | exact Jq rfl | exact Jm rfl | exact Jn rfl)) O O O ?_
      refine Ja (Jk hT O O O O O O) O O O ?_
      refine Ja (Jo hT O O O zrd) O O O ?_
      refine Ja ((by first | exact y_addQ O O | exact Wc O O zwr)) O O O ?_
      refine Ja ((by first | exact Jq rfl | exact Jm rfl | exact Jn rfl)) O O O ?_
      refine Ja (Jk hT O O O O O O) O O O ?_
      refine Jj rfl (Vw hT O O O O O zpk zix ?_)
      refine Jg ?_
      refine Jb ?_
      refine Jh ?_
      refine Jc ?_
      refine Ja (Je rfl) O O O (Ja (Je rfl) O O O (Ja (Je rfl) O O O (Ja (Je rfl) O O O (Ja (Vh hT O O O) O O O ?_))))
      refine Jj rfl (l_makeMap rfl (fun bg => ?_))
      refine Ja ((by first | exact Jq rfl | exact Jm rfl | exact Jn rfl)) O O O ?_
      refine Ja (Jk hT O O O O O O) O O O ?_
      refine Jj rfl (Vw hT O O O O O zpk zix ?_)
      refine Ja ((by first | exact Jq rfl | exact Jm rfl | exact Jn rfl)) O O O ?_
      refine Ja (Jk hT O O O O O O) O O O ?_
      refine Jj rfl (Vw hT O O O O O zpk zix ?_)
      refine Ja ((by first | exact Jq rfl | exact Jm rfl | exact Jn rfl)) O O O ?_
      refine Ja (Jk hT O O O O O O) O O O ?_
      refine Jj rfl (Vw hT O O O O O zpk zix ?_)
      refine Jg ?_
      refine Jb ?_
      refine Jh ?_
      refine Wl _ _ [(0, .q), (1, .q), (2, .q), (3, .q), (4, .q), (5, .l), (6, .q), (7, .l), (8, .q)] mixed (by kernel_rfl) (Ji (Jx (Jx (Jx (Jx (Jx Jp))))) (Jl)) ?_
      refine Jf O O O O (fun m => Je rfl) ?_
      refine Jf O O O O (fun m => (by first | exact Jq rfl | exact Jm rfl | exact Jn rfl)) ?_
      refine Jf O O O O (fun m => Jk hT O O O O O O) ?_
      refine Jf O O O O (fun m => Jo hT O O O zrda) ?_
      refine Jf O O O O (fun m => Je rfl) ?_
      refine Wf O O (fun fr => Js e67 O O (clonek_spec E p cap n ks _ hn (by omega) hk zinl) ?_)
      rintro _ _ ⟨ka, kc, rfl, rfl⟩
      refine ⟨[_, _], (by (repeat (first | exact Jl | exact Vu | refine Ji Jp ?_))), ?_⟩
      refine Jf O O O O (fun m => y_build (cs := [_, _]) hT O O O O O O ⟨⟨zln, Nat.le_of_ble_eq_true rfl⟩, ⟨⟨zln, Nat.le_of_ble_eq_true rfl⟩, trivial⟩⟩ rfl) ?_
      refine Wf O O (fun fr => Vp hT O O O zln zoc zpk zln (⟨[_, _], (by (repeat (first | exact Jl | exact Vu | refine Ji Jp ?_))), ?_⟩))
      refine Jf O O O O (fun m => Jd rfl) ?_
      refine Wh ?_
      refine Jb ?_
      refine Vl ?_
      refine Wg (.inl rfl) O O zrv zrv ?_
      exact ⟨_, fun w q => q.sup zsup, .inl ⟨rfl, ka, kc, bg, rfl, rfl⟩⟩
  · have hd : decide (¬ e = 0) = true := decide_eq_true he
    rw [hd] at ckeep
    refine Jt (c := ?codeC) Tryz.func13 ?hb Tryz.ntmps13 ?hl ?_
    case hb => exact rfl
    case hl => exact rfl
    refine Jh ?_
    refine Jc ?_
    refine Jj rfl (Wa hT O O zcl rfl (fun b1 => ?_))
    refine Ja (Jd rfl) O O O ?_
    refine Jg ?_
    refine Jb ?_
    refine Jh ?_
    refine Vj ?_
    refine Jh ?_
    refine Jc ?_
    refine Ja (Je rfl) O O O (Ja (Vx hT O O O O) O O O (Ja (Jd rfl) O O O ?_))
    refine Jg ?_
    refine Jb ?_
    refine Vf rfl zbl ?_
    refine Jh ?_
    refine Jc ?_
    refine Ja (Je rfl) O O O ?_
    refine Ja ((by first | exact Jq rfl | exact Jm rfl | exact Jn rfl)) O O O ?_
    refine Ja (Jk hT O O O O O O) O O O ?_
    refine Ja (Jo hT O O O zrd) O O O ?_
    refine Ja (Jd rfl) O O O ?_
    refine Jg ?_
    refine Jb ?_
    refine Vf rfl zbl ?_
    refine Jh ?_
    refine Jc ?_
    refine Ja (Je rfl) O O O ?_
    refine Ja ((by first | exact Jq rfl | exact Jm rfl | exact Jn rfl)) O O O ?_
    refine Ja (Jk hT O O O O O O) O O O ?_
    refine Ja (Jo hT O O O zrd) O O O ?_
    refine Ja (Wk O O) O O O (Ja (Jd rfl) O O O ?_)
    refine Jg ?_
    refine Jb ?_
    refine Vf rfl zbl ?_
    refine Jh ?_
    refine Jc ?_
    refine Ja (Je rfl) O O O (Ja (Vh hT O O O) O O O ?_)
    refine Ja (y_lssB O O hb1) O O O ?_
    refine Ja (Je rfl) O O O ?_
    all_goals (first | (refine Vm O O O (fun h => ?_) (fun h => ?_) <;> try (first | (exfalso; omega) | exact absurd rfl h)) | (refine Vz O O O (fun h => ?_) (fun h => ?_) <;> try (first | cases h | (exfalso; simp at h; done))) | skip)
    all_goals (first | refine Ju O O O O O O ?_ | refine Jr O O O O O ?_ | refine Jw O O O (Je rfl) O O ?_)
    all_goals (first | refine Ju O O O O O O ?_ | refine Jr O O O O O ?_ | refine Jw O O O (Vh hT O O O) O O ?_)
    all_goals (first | refine Ju O O O O O O ?_ | refine Jr O O O O O ?_ | refine Jw O O O (y_gtr O O) O O ?_)
    all_goals (refine Ja (y_pick O O O) O O O ?_)
    all_goals (refine Ja (Jd rfl) O O O ?_)
    all_goals refine Jg ?_
    all_goals refine Jb ?_
    all_goals
      refine Vf rfl zbl ?_
      refine Jh ?_
      refine Jc ?_
      refine Ja (Je rfl) O O O ?_
      refine Ja ((by first | exact Jq rfl | exact Jm rfl | exact Jn rfl)) O O O ?_
      refine Ja (Jk hT O O O O O O) O O O ?_
      refine Ja (Jo hT O O O zrd) O O O ?_
      refine Ja ((by first | exact y_addQ O O | exact Wc O O zwr)) O O O ?_
      refine Ja (y_eql O O) O O O (Ja (Jd rfl) O O O ?_)
      refine Jg ?_
      refine Jb ?_
      refine Vf rfl zbl ?_
      refine Ve ?_
    all_goals refine Jv ?_
    all_goals refine Jb ?_
    all_goals
      refine Jh ?_
      refine Jh ?_
      refine Jc ?_
      refine Ja (Je rfl) O O O (Ja (Je rfl) O O O ?_)
      refine Ja ((by first | exact Jq rfl | exact Jm rfl | exact Jn rfl)) O O O ?_
      refine Ja (Jk hT O O O O O O) O O O ?_
      refine Ja (Jo hT O O O zrd) O O O ?_
      refine Ja ((by first | exact y_addQ O O | exact Wc O O zwr)) O O O ?_
      refine Jj rfl (Js e66 O O (Wj (Ji zpk (Ji zpk (Ji zpk (Ji zpk Jl)))) (ckeep _)) ?_)
      rintro _ _ ⟨rfl, rfl⟩
      refine Ja (Jd rfl) O O O ?_
      refine Jg ?_
      refine Jb ?_
      refine Jh ?_
      refine Jc ?_
      refine Ja (Je rfl) O O O (Ja (Wk O O) O O O ?_)
      refine Jg ?_
      refine Jb ?_
      refine J.cond_t rfl zbl ?_
      refine Jh ?_
      refine Jc ?_
      refine Ja (y_build (cs := [_, _]) hT O O O O O O trivial rfl) O O O (Ja (Je rfl) O O O ?_)
      refine Jj rfl (Vp hT O O O zln zoc zpk zln ?_)
      refine Ja (Jd rfl) O O O ?_
      refine Jg ?_
      refine Jb ?_
      refine Vl ?_
      refine Jz ?_
      refine Wg (.inl rfl) O O zrv zrv ?_
      exact ⟨_, fun w q => q.sup zsup, .inr ⟨he, rfl, rfl⟩⟩
end
end Go.Proofs.YtimekohdlofmaaaGreat
namespace Go.Proofs.YtimekohdlofmaaaGreat
open Go Go.SL
/-! A number that is kept, on a disk that may be armed. -/
/-- An armed disk, so much left at most. -/
structure Armd (N : Nat) (D : Dk) : Prop where
  armed : D.armed = true
  low : 0 ≤ D.left
  high : D.left ≤ N
theorem Armd.does {N : Nat} {D : Dk} (h : Armd N D) (hN : N ≤ 1000000) (h0 : ¬ (D.armed = true ∧ D.left = 0)) : Armd N D.does := by
  have h1 := h.low
  have h2 := h.high
  have h3 : D.left ≠ 0 := fun e => h0 ⟨h.armed, e⟩
  refine ⟨h.armed, ?_, ?_⟩ <;> simp only [Dk.does, h.armed, if_true] <;> rw [We (by omega) (by omega)] <;> omega
theorem Armd.write {N : Nat} {D : Dk} (h : Armd N D) (hN : N ≤ 1000000) {i : Int} {b : Blk} (e : (D.write i b).2 = 0) : Armd N (D.write i b).1 := by
  unfold Dk.write at e ⊢
  split at e
  · rename_i hr; exact absurd e hr
  · rename_i hr
    rw [if_neg hr]
    split at e
    · exact absurd e (show ¬ (7 : Int) = 0 by decide)
    · rename_i h0
      rw [if_neg h0]
      have q := h.does hN h0
      exact ⟨q.armed, q.low, q.high⟩
theorem Armd.put {N : Nat} {D : Dk} (h : Armd N D) (hN : N ≤ 1000000) {i : Int} {b : Blk} (e : (D.put i b).2 = 0) : Armd N (D.put i b).1 := by
  unfold Dk.put at e ⊢
  split at e
  · rename_i h0
    rw [if_pos h0]
    exact h.write hN e
  · rename_i h0; exact absurd e h0
/-- A sync that is done. -/
theorem Armd.sync {N : Nat} {D : Dk} (h : Armd N D) (hN : N ≤ 1000000) (e : D.sync.2 = 0) : Armd N D.sync.1 ∧ D.sync.1.pending = [] ∧ D.sync.1.dead = false := by
  unfold Dk.sync at e ⊢
  split at e
  · exact absurd e (show ¬ (7 : Int) = 0 by decide)
  · rename_i hd
    rw [if_neg hd]
    split at e
    · exact absurd e (show ¬ (7 : Int) = 0 by decide)
    · rename_i h0
      rw [if_neg h0]
      have q := h.does hN h0
      exact ⟨⟨q.armed, q.low, q.high⟩, rfl, by simpa [Dk.settle, Dk.does] using hd⟩
theorem Armd.putsW {N : Nat} {D : Dk} (h : Armd N D) (hN : N ≤ 1000000) (used : Nat) (tx : List Int) : ∀ k, (putsW used tx D k).2 = 0 → Armd N (Go.Proofs.YtimekohdlofmaaaGreat.putsW used tx D k).1
  | 0, _ => h
  | k + 1, e => by
    rw [Go.Proofs.YtimekohdlofmaaaGreat.putsW] at e ⊢
    by_cases hk : (Go.Proofs.YtimekohdlofmaaaGreat.putsW used tx D k).2 = 0
    · rw [if_pos hk] at e ⊢
      exact (Armd.putsW h hN used tx k hk).put hN e
    · rw [if_neg hk] at e; exact absurd e hk
theorem Armd.takeW {N : Nat} {D : Dk} (h : Armd N D) (hN : N ≤ 1000000) (base : Int) (bs : List Int) : ∀ k, (takeW base bs D k).2 = 0 → Armd N (Go.Proofs.YtimekohdlofmaaaGreat.takeW base bs D k).1
  | 0, _ => h
  | k + 1, e => by
    rw [Go.Proofs.YtimekohdlofmaaaGreat.takeW] at e ⊢
    by_cases hk : (Go.Proofs.YtimekohdlofmaaaGreat.takeW base bs D k).2 = 0
    · rw [if_pos hk] at e ⊢
      exact (Armd.takeW h hN base bs k hk).write hN e
    · rw [if_neg hk] at e; exact absurd e hk
/-- What is done, and on a disk that goes on. -/
def GoesOn (N : Nat) (X : Dk) : Prop := Armd N X ∧ X.pending = [] ∧ X.dead = false
theorem Armd.writeL {N : Nat} {D : Dk} (h : Armd N D) (hN : N ≤ 1000000) (L : Lg) (S : Sb) (tx : List Int) (e : (writeL L S D tx).2 = 0) : GoesOn N (Go.Proofs.YtimekohdlofmaaaGreat.writeL L S D tx).1 := by
  unfold Go.Proofs.YtimekohdlofmaaaGreat.writeL at e ⊢
  dsimp only at e ⊢
  obtain ⟨W, hW⟩ : ∃ W, Go.Proofs.YtimekohdlofmaaaGreat.putsW L.used tx D (pieceN tx.length) = W := ⟨_, rfl⟩
  have hA := h.putsW hN L.used tx (pieceN tx.length)
  rw [hW] at e hA ⊢
  by_cases h1 : W.2 = 0
  · rw [if_pos h1] at e ⊢
    have hA := hA h1
    by_cases h2 : W.1.sync.2 = 0
    · rw [if_pos h2] at e ⊢
      have hB := (hA.sync hN h2).1
      by_cases h3 : (W.1.sync.1.put (L.used : Int) (mkB S.turn L.txs.length tx)).2 = 0
      · rw [if_pos h3] at e ⊢
        exact (hB.put hN h3).sync hN e
      · rw [if_neg h3] at e; exact absurd e h3
    · rw [if_neg h2] at e; exact absurd e h2
  · rw [if_neg h1] at e; exact absurd e h1
theorem Armd.takeS {N : Nat} {D : Dk} (h : Armd N D) (hN : N ≤ 1000000) (s : Sb) (bs : List Int) (e : (takeS s D bs).2.2 = 0) : GoesOn N (Go.Proofs.YtimekohdlofmaaaGreat.takeS s D bs).2.1 := by
  unfold Go.Proofs.YtimekohdlofmaaaGreat.takeS at e ⊢
  by_cases h0 : 64 * D.half < bs.length
  · rw [if_pos h0] at e; exact absurd e (show ¬ (3 : Int) = 0 by decide)
  rw [if_neg h0] at e ⊢
  dsimp only at e ⊢
  obtain ⟨W, hW⟩ : ∃ W, Go.Proofs.YtimekohdlofmaaaGreat.takeW (2 + (nextS s bs).place * (D.half : Int)) bs D ((bs.length + 63) / 64) = W := ⟨_, rfl⟩
  have hA := h.takeW hN (2 + (nextS s bs).place * (D.half : Int)) bs ((bs.length + 63) / 64)
  rw [hW] at e hA ⊢
  by_cases h1 : W.2 = 0
  · rw [if_pos h1] at e ⊢
    have hA := hA h1
    by_cases h2 : W.1.sync.2 = 0
    · rw [if_pos h2] at e ⊢
      have hB := (hA.sync hN h2).1
      by_cases h3 : (W.1.sync.1.write (((nextS s bs).turn.toNat % 2 : Nat) : Int) (sbBlock (nextS s bs))).2 = 0
      · rw [if_pos h3] at e ⊢
        by_cases h4 : (W.1.sync.1.write (((nextS s bs).turn.toNat % 2 : Nat) : Int) (sbBlock (nextS s bs))).1.sync.2 = 0
        · rw [if_pos h4] at e ⊢
          exact (hB.write hN h3).sync hN h4
        · rw [if_neg h4] at e; exact absurd e h4
      · rw [if_neg h3] at e; exact absurd e h3
    · rw [if_neg h2] at e; exact absurd e h2
  · rw [if_neg h1] at e; exact absurd e h1
/-- A disk that goes on is one that is armed with what is left. -/
theorem GoesOn.back {N : Nat} {X : Dk} (h : GoesOn N X) : ∃ k, k ≤ N ∧ X = (X.crash []).arm k := by
  obtain ⟨⟨h1, h2, h3⟩, h4, h5⟩ := h
  refine ⟨X.left.toNat, by omega, ?_⟩
  cases X
  simp only at h1 h2 h3 h4 h5
  subst h1 h4 h5
  simp [Dk.crash, Dk.settle, Dk.arm, liveOn]
  omega
theorem arm_armd (D : Dk) (k : Nat) : Armd k (D.arm k) := ⟨by simp [Dk.arm], by simp [Dk.arm], by simp [Dk.arm]⟩
/-- What a change leaves on a disk that may be armed: done (0), or dead (7). -/
structure Kept2 (S : Sb) (D : Dk) (L A : Lg) (a : Option Nat) (La : Lg) (Sa : Sb) (X : Dk) (e : Int) : Prop where
  few : X.pending.length ≤ 1000
  len : X.safe.length = D.safe.length
  out : (e = 0 ∧ La = A ∧ Sa.turn.toNat ≤ S.turn.toNat + 1 ∧ ∃ D' a', X = D'.armO a' ∧ LH Sa D' A ∧ D'.safe.length = D.safe.length ∧ (a = none → a' = none) ∧ ∀ k, a' = some k → k ≤ 1000000) ∨
    (e = 7 ∧ a ≠ none ∧ La = { L with broken := true } ∧ Sa = S ∧ ∀ keep, ∃ S2 L2, LH S2 (X.crash keep) L2 ∧ (L2 = L ∨ L2 = A) ∧ S2.turn.toNat ≤ S.turn.toNat + 1)
theorem append_kept {S : Sb} {D : Dk} {L A : Lg} {tx : List Int} {a : Option Nat} (h : LH S D L) (hs : Small tx) (ha : ∀ k, a = some k → k ≤ 1000000) (hroom : L.used + needN tx.length ≤ D.slots) (hA : { L with txs := L.txs ++ [tx], used := L.used + needN tx.length } = A) :
    ∃ La X e, appL L S (D.armO a) tx = (La, X, e) ∧ Kept2 S D L A a La S X e := by
  cases a with
  | none =>
    obtain ⟨D', e, hL, hl⟩ := h.append hs hroom
    rw [hA] at e hL
    exact ⟨A, D', 0, e, by rw [hL.holds.none]; decide, hl, .inl ⟨rfl, rfl, Nat.le_succ _, D', none, rfl, hL, hl, fun _ => rfl, fun k hk => by cases hk⟩⟩
  | some k =>
    have hk := ha k rfl
    obtain ⟨X, e, hW, hfew, _, hor⟩ := append_cut h hs hk hroom
    have hlen := writeL_len L S (D.arm k) tx
    have hgo := (arm_armd D k).writeL hk L S tx
    rw [hW] at hlen hgo
    have eA := appL_arm h k hs hroom
    rw [hW] at eA
    dsimp only at eA hlen hgo
    rw [hA] at eA
    rcases hor with ⟨rfl, _, _, hkp⟩ | ⟨rfl, _, _, hkp⟩
    · rw [if_neg (by decide)] at eA
      exact ⟨_, _, _, eA, hfew, hlen, .inr ⟨rfl, by simp, rfl, rfl, fun keep => (hkp keep).elim (fun h => ⟨S, L, h, .inl rfl, Nat.le_succ _⟩) (fun h => ⟨S, A, by rw [← hA]; exact h.2, .inr rfl, Nat.le_succ _⟩)⟩⟩
    · rw [if_pos rfl] at eA
      obtain ⟨k', hk', hX⟩ := (hgo rfl).back
      exact ⟨_, _, _, eA, hfew, hlen, .inl ⟨rfl, rfl, Nat.le_succ _, X.crash [], some k', hX, by rw [← hA]; exact hkp [], (crash_len X []).trans hlen, fun h => (by cases h), fun j hj => by cases hj; omega⟩⟩
theorem check_kept {S : Sb} {D : Dk} {L A : Lg} {state : List Int} {a : Option Nat} (h : LH S D L) (hs : Small state) (ha : ∀ k, a = some k → k ≤ 1000000) (hl : state.length ≤ 64 * D.half) (ht : S.turn.toNat + 1 < 18446744073709551616) (hA : (⟨state, [], 0, false⟩ : Lg) = A) :
    ∃ La Sa X e, ckL L S (D.armO a) state = (La, Sa, X, e) ∧ Kept2 S D L A a La Sa X e := by
  cases a with
  | none =>
    obtain ⟨D', e, hL, hd⟩ := h.check hs hl ht
    rw [hA] at e hL
    exact ⟨A, nextS S state, D', 0, e, by rw [hL.holds.none]; decide, hd, .inl ⟨rfl, rfl, by rw [next_turn ht]; exact Nat.le_refl _, D', none, rfl, hL, hd, fun _ => rfl, fun k hk => by cases hk⟩⟩
  | some k =>
    have hk := ha k rfl
    obtain ⟨hfew, hor⟩ := cut_law (k := k) h.holds.up h.holds.none hk h.holds.fits.two h.holds.fits.place hl
    have hBa : Byt (D.arm k) := ⟨h.byt.safe, h.byt.pend⟩
    have hB := hBa.takeS S hs.bytes
    have hlen := takeS_len S (D.arm k) state
    have hgo := (arm_armd D k).takeS hk S state
    obtain ⟨⟨Sa, X, f⟩, hR⟩ : ∃ R, takeS S (D.arm k) state = R := ⟨_, rfl⟩
    rw [hR] at hfew hor hB hlen hgo
    dsimp only at hfew hor hB hlen hgo
    have hw := h.whole
    have hck : ckL L S (D.armO (some k)) state = if f = 0 then ({ L with snap := state, txs := [], used := 0 }, Sa, X, 0) else if f = 3 then (L, Sa, X, 3) else ({ L with broken := true }, Sa, X, f) := by
      show ckL L S (D.arm k) state = _
      unfold ckL
      rw [if_neg (by rw [hw]; simp), hR]
    rcases hor with ⟨rfl, rfl, _, hkp⟩ | ⟨rfl, rfl, _, hkp⟩
    · rw [if_neg (by decide), if_neg (by decide)] at hck
      refine ⟨_, _, _, _, hck, hfew, hlen, .inr ⟨rfl, by simp, rfl, rfl, fun keep => ?_⟩⟩
      rcases hkp keep with h1 | h1
      · exact ⟨Sa, L, h.kept h1 (hB.crash keep), .inl rfl, Nat.le_succ _⟩
      · exact ⟨nextS Sa state, A, by rw [← hA]; exact h.taken hs hl ht h1 (hB.crash keep), .inr rfl, by rw [next_turn ht]; exact Nat.le_refl _⟩
    · rw [if_pos rfl] at hck
      obtain ⟨k', hk', hX⟩ := (hgo rfl).back
      have hLA : ({ L with snap := state, txs := [], used := 0 } : Lg) = A := by
        rw [← hA]
        cases L
        simp only at hw
        rw [hw]
      rw [hLA] at hck
      exact ⟨_, _, _, _, hck, hfew, hlen, .inl ⟨rfl, rfl, by rw [next_turn ht]; exact Nat.le_refl _, X.crash [], some k', hX, by rw [← hA]; exact h.taken hs hl ht (hkp []) (hB.crash []), (crash_len X []).trans hlen, fun h => (by cases h), fun j hj => by cases hj; omega⟩⟩
/-! The numbers. -/
theorem small_num (x : BitVec 64) : Small (leB 8 x) := ⟨fun y h => by
  simp only [leB, List.mem_map, List.mem_range] at h
  obtain ⟨i, _, rfl⟩ := h
  omega, by rw [leB_length]; decide⟩
theorem next_num {last : BitVec 64} (h : last + 1#64 ≠ 0#64) : (last + 1#64).toNat = last.toNat + 1 := by
  have h1 := last.isLt
  rw [BitVec.toNat_add]
  show (last.toNat + 1) % 18446744073709551616 = _
  have h2 : last.toNat + 1 ≠ 18446744073709551616 := fun e => h (by
    apply BitVec.eq_of_toNat_eq
    rw [BitVec.toNat_add]
    show (last.toNat + 1) % 18446744073709551616 = 0
    omega)
  omega
theorem entryN_snoc {L : Lg} {last : BitVec 64} (h : entryN L = some last) (hl : last + 1#64 ≠ 0#64) (u : Nat) : entryN { L with txs := L.txs ++ [leB 8 (last + 1#64)], used := u } = some (last + 1#64) := by
  unfold entryN at h ⊢
  dsimp only
  cases hs : estart L.snap with
  | none => rw [hs] at h; cases h
  | some n =>
    rw [hs] at h
    rw [Option.bind_some] at h ⊢
    rw [echain_append, h, Option.bind_some, echain, enext, leG_leB8, if_pos ⟨leB_length _ _, by rw [next_num hl]; omega⟩]
    rfl
theorem entryN_check (x : BitVec 64) : entryN ⟨leB 8 x, [], 0, false⟩ = some x := by
  unfold entryN estart
  rw [if_neg (by rw [leB_length]; decide), if_pos (leB_length _ _), leG_leB8]
  rfl
end Go.Proofs.YtimekohdlofmaaaGreat
namespace Go.Proofs.YtimekohdlofmaaaGreat
open Go Go.SL
/-! An entry of a disk. -/
theorem usedN_ge : ∀ txs : List (List Int), txs.length ≤ usedN txs
  | [] => Nat.le_refl _
  | t :: ts => by
    have h := usedN_ge ts
    simp only [usedN, List.map_cons, List.sum_cons, List.length_cons] at h ⊢
    have : 1 ≤ needN t.length := by unfold needN; omega
    omega
theorem LH.few {S : Sb} {D : Dk} {L : Lg} (h : LH S D L) : L.txs.length < 512 := by
  have h1 := usedN_ge L.txs
  have h2 := h.used
  have h3 := h.fit
  have h4 := h.holds.up.ok.most
  unfold Dk.slots at h3
  omega
theorem LH.congr {S : Sb} {D D' : Dk} {L : Lg} (h : LH S D L) (hu : Up D') (hs : D'.safe = D.safe) (hp : D'.pending = []) : LH S D' L := by
  refine h.kept ⟨hu, hp, by rw [hs], fun j _ _ _ => ?_⟩ ⟨fun b hb => h.byt.safe b (hs ▸ hb), fun p hq => ?_⟩
  · unfold Dk.find
    rw [hp, h.holds.none, hs]
  · rw [hp] at hq; cases hq
def zeros64 : List Blk := List.replicate 64 zeroB
/-- A disk between two starts: without rounds, or with a log whose last number this is. -/
structure ESt (T : Nat) (D : Dk) (last : BitVec 64) : Prop where
  up : Up D
  none : D.pending = []
  len : D.safe.length = 64
  out : (D.safe = zeros64 ∧ last = 0#64) ∨ ∃ S L, LH S D L ∧ entryN L = some last ∧ S.turn.toNat ≤ T
theorem ESt.new : ESt 0 (Dk.new 64) 0#64 := ⟨new_up (by decide) (by decide), rfl, by simp [Dk.new], .inl ⟨rfl, rfl⟩⟩
theorem ESt.mono {T T' : Nat} {D : Dk} {last : BitVec 64} (h : ESt T D last) (hT : T ≤ T') : ESt T' D last := ⟨h.up, h.none, h.len, h.out.imp_right fun ⟨S, L, h1, h2, h3⟩ => ⟨S, L, h1, h2, by omega⟩⟩
theorem ESt.of {T : Nat} {D : Dk} {last : BitVec 64} {S : Sb} {L : Lg} (h : LH S D L) (hn : entryN L = some last) (ht : S.turn.toNat ≤ T) (hl : D.safe.length = 64) : ESt T D last := ⟨h.holds.up, h.holds.none, hl, .inr ⟨S, L, h, hn, ht⟩⟩
theorem entryN_lg0 : entryN lg0 = some 0#64 := rfl
theorem zeros_counts {D : Dk} (hs : D.safe = zeros64) (hp : D.pending = []) : D.counts = Option.none := by
  have h0 : D.find 0 = zeroB := by unfold Dk.find; rw [hp, hs]; rfl
  have h1 : D.find 1 = zeroB := by unfold Dk.find; rw [hp, hs]; rfl
  have hz : sbOk zeroB = false := by decide +kernel
  simp only [Dk.counts, h0, h1, hz, Bool.false_eq_true, if_false]
theorem zeros_set1 : zeros64.set 1 zeroB = zeros64 := rfl
theorem zeros_set01 (b : Blk) : (zeros64.set 0 b).set 1 zeroB = zeros64.set 0 b := rfl
/-- What a formatted disk holds. -/
theorem zeros_lh {D : Dk} (hu : Up D) (hs : D.safe = zeros64.set 0 (sbBlock sb0)) (hp : D.pending = []) : LH sb0 D lg0 := by
  refine (lh_format (n := 64) (by decide) (by decide)).1.congr hu ?_ hp
  rw [hs]
  show _ = liveOn (fun _ => true) [((0 : Int), sbBlock sb0), ((1 : Int), zeroB)] 0 (List.replicate 64 zeroB)
  simp only [liveOn]
  exact (zeros_set01 _).symm
/-- What opening a disk with no rounds comes to. -/
theorem format_cases {D : Dk} {a : Option Nat} (hu : Up D) (hp : D.pending = []) (hs : D.safe = zeros64) (ha : ∀ k, a = some k → k ≤ 1000000) :
    ∃ X e, formatF (D.armO a) = (X, e) ∧ ((e = 0 ∧ ∃ D' a', X = D'.armO a' ∧ LH sb0 D' lg0 ∧ D'.safe.length = 64 ∧ (a = Option.none → a' = Option.none) ∧ ∀ k, a' = some k → k ≤ 1000000) ∨
      (e = 7 ∧ a ≠ Option.none ∧ X.pending.length ≤ 1000 ∧ ∀ keep, ESt 0 (X.crash keep) 0#64)) := by
  have hl : D.safe.length = 64 := by rw [hs]; rfl
  have hsb : (sbBlock sb0).length = 64 := sbBlock_length sb0_hash
  cases a with
  | none =>
    have h1 := hu.write (sbBlock sb0) (i := 0) (by omega)
    have hu1 := hu.push (i := 0) (b := sbBlock sb0) (by omega) hsb
    have hl1 : (D.does.push 0 (sbBlock sb0)).safe.length = 64 := hl
    have h2 := hu1.write zeroB (i := 1) (by omega)
    have hu2 := hu1.push (i := 1) (b := zeroB) (by omega) rfl
    have h3 : ((D.does.push 0 (sbBlock sb0)).does.push 1 zeroB).sync = (D.formatted, 0) := by
      rw [Dk.sync, if_neg (by rw [hu2.dead]; simp), if_neg (by rw [hu2.armed]; simp)]
      rfl
    have hF : formatF (D.armO Option.none) = (D.formatted, 0) := by
      show formatF D = _
      unfold formatF
      rw [h1]
      dsimp only
      rw [if_pos rfl, h2]
      dsimp only
      rw [if_pos rfl, h3]
    obtain ⟨hu3, hl3, hp3⟩ := formatted_up hu (by omega)
    refine ⟨_, _, hF, .inl ⟨rfl, D.formatted, Option.none, rfl, zeros_lh hu3 ?_ hp3, hl3.trans hl, fun _ => rfl, fun k hk => by cases hk⟩⟩
    show liveOn (fun _ => true) (D.pending ++ [((0 : Int), sbBlock sb0)] ++ [((1 : Int), zeroB)]) 0 D.safe = _
    rw [hp, hs]
    simp only [List.nil_append, List.cons_append, liveOn]
    exact zeros_set01 _
  | some k =>
    have hk := ha k rfl
    obtain ⟨Y, hY⟩ : ∃ Y, D.arm (k : Int) = Y := ⟨_, rfl⟩
    have hYs : Y.safe = zeros64 := by rw [← hY]; exact hs
    have hYp : Y.pending = [] := by rw [← hY]; exact hp
    have hYl : Y.safe.length = 64 := by rw [hYs]; rfl
    have hA : Ar Y k := by rw [← hY]; exact ⟨⟨hu.ok.safe, hu.ok.pend, hu.ok.some, hu.ok.most, by simp only [Dk.arm]; omega⟩, hu.dead, by simp [Dk.arm], rfl⟩
    -- what lives
    have hcr : ∀ X : Dk, X.Ok → X.safe = zeros64 → (X.pending = [] ∨ X.pending = [((0 : Int), sbBlock sb0)] ∨ X.pending = [((0 : Int), sbBlock sb0), ((1 : Int), zeroB)]) → ∀ keep, ESt 0 (X.crash keep) 0#64 := fun X hX hXs hXp keep => by
      obtain ⟨hcu, hcp, hcl⟩ := crash_up hX keep
      have hcl : (X.crash keep).safe.length = 64 := by rw [hcl, hXs]; rfl
      have hcs : (X.crash keep).safe = zeros64 ∨ (X.crash keep).safe = zeros64.set 0 (sbBlock sb0) := by
        show liveOn (bitAt keep) X.pending 0 X.safe = _ ∨ liveOn (bitAt keep) X.pending 0 X.safe = _
        rw [hXs]
        rcases hXp with e | e | e <;> rw [e] <;> simp only [liveOn]
        · first
            | exact .inl rfl
            | exact .inl trivial
        · split
          · exact .inr rfl
          · exact .inl rfl
        · split <;> split
          · exact .inr (zeros_set01 _)
          · exact .inl zeros_set1
          · exact .inr rfl
          · exact .inl rfl
      rcases hcs with h | h
      · exact ⟨hcu, hcp, hcl, .inl ⟨h, rfl⟩⟩
      · exact ESt.of (zeros_lh hcu h hcp) entryN_lg0 (Nat.le_refl _) hcl
    have hFY : formatF (D.armO (some k)) = formatF Y := by rw [← hY]; rfl
    rw [hFY]
    rcases hA.write (i := 0) (b := sbBlock sb0) hsb (by omega) with ⟨_, e1⟩ | ⟨k1, hk1, e1, hA1⟩
    · have hF : formatF Y = (Y.dies, 7) := by unfold formatF; rw [e1]; rfl
      exact ⟨_, _, hF, .inr ⟨rfl, by simp, by show Y.pending.length ≤ 1000; rw [hYp]; exact Nat.zero_le _, hcr _ hA.ok.dies hYs (.inl hYp)⟩⟩
    obtain ⟨Y1, hY1⟩ : ∃ Y1, Y.does.push 0 (sbBlock sb0) = Y1 := ⟨_, rfl⟩
    have h1s : Y1.safe = zeros64 := by rw [← hY1]; exact hYs
    have h1p : Y1.pending = [((0 : Int), sbBlock sb0)] := by rw [← hY1]; simp [Dk.push, Dk.does, hYp]
    rw [hY1] at e1 hA1
    rcases hA1.write (i := 1) (b := zeroB) rfl (by rw [h1s]; decide) with ⟨_, e2⟩ | ⟨k2, hk2, e2, hA2⟩
    · have hF : formatF Y = (Y1.dies, 7) := by unfold formatF; rw [e1]; dsimp only; rw [if_pos rfl, e2]; rfl
      exact ⟨_, _, hF, .inr ⟨rfl, by simp, by show Y1.pending.length ≤ 1000; rw [h1p]; decide, hcr _ hA1.ok.dies h1s (.inr (.inl h1p))⟩⟩
    obtain ⟨Y2, hY2⟩ : ∃ Y2, Y1.does.push 1 zeroB = Y2 := ⟨_, rfl⟩
    have h2s : Y2.safe = zeros64 := by rw [← hY2]; exact h1s
    have h2p : Y2.pending = [((0 : Int), sbBlock sb0), ((1 : Int), zeroB)] := by rw [← hY2]; simp [Dk.push, Dk.does, h1p]
    rw [hY2] at e2 hA2
    rcases hA2.sync with ⟨_, e3⟩ | ⟨k3, hk3, e3, hA3⟩
    · have hF : formatF Y = (Y2.dies, 7) := by unfold formatF; rw [e1]; dsimp only; rw [if_pos rfl, e2]; dsimp only; rw [if_pos rfl, e3]
      exact ⟨_, _, hF, .inr ⟨rfl, by simp, by show Y2.pending.length ≤ 1000; rw [h2p]; decide, hcr _ hA2.ok.dies h2s (.inr (.inr h2p))⟩⟩
    obtain ⟨Y3, hY3⟩ : ∃ Y3, Y2.does.settle (fun _ => true) = Y3 := ⟨_, rfl⟩
    have h3p : Y3.pending = [] := by rw [← hY3]; rfl
    have h3s : Y3.safe = zeros64.set 0 (sbBlock sb0) := by
      rw [← hY3]
      show liveOn (fun _ => true) Y2.pending 0 Y2.safe = _
      rw [h2p, h2s]
      simp only [liveOn]
      exact zeros_set01 _
    rw [hY3] at e3 hA3
    have hF : formatF Y = (Y3, 0) := by unfold formatF; rw [e1]; dsimp only; rw [if_pos rfl, e2]; dsimp only; rw [if_pos rfl, e3]
    have hgo : GoesOn 1000000 Y3 := ⟨⟨hA3.armed, by rw [hA3.left]; omega, by rw [hA3.left]; omega⟩, h3p, hA3.dead⟩
    obtain ⟨k', hk', hX⟩ := hgo.back
    obtain ⟨hcu, hcp, hcl⟩ := crash_up hA3.ok []
    have hcs : (Y3.crash []).safe = zeros64.set 0 (sbBlock sb0) := by
      show liveOn (bitAt []) Y3.pending 0 Y3.safe = _
      rw [h3p, h3s]
      rfl
    exact ⟨_, _, hF, .inl ⟨rfl, Y3.crash [], some k', hX, zeros_lh hcu hcs hcp, by rw [hcs]; rfl, fun h => (by cases h), fun j hj => by cases hj; omega⟩⟩
attribute [local irreducible] J JL JE JM LS Y Fc RV Code.wp wpList Code.wpIn wpListIn
attribute [local irreducible] Yc
variable (E : World)
/-- A round is announced on a disk that may be armed. -/
theorem announce_lh {S : Sb} {D : Dk} {L : Lg} {last : BitVec 64} {a : Option Nat} (h : LH S D L) (hN : entryN L = some last) (hlast : last + 1#64 ≠ 0#64) (ha : ∀ k, a = some k → k ≤ 1000000) (ht : S.turn.toNat + 1 < 18446744073709551616) (h64 : 64 ≤ D.safe.length) :
    ∃ A La Sa X e, entryN A = some (last + 1#64) ∧ Kept2 S D L A a La Sa X e ∧ ∀ (x lg st d : Nat) (hops : Int) (got : Value) (l : List HProp),
      Fc prog E 66 [.pointer (some ⟨x, 0, none⟩), Q (last + 1#64)].toArray (entR x lg false last 0 hops got :: logm lg st L :: row st 224 (scells S d) :: disk d (D.armO a) :: l)
        (fun v l' => v = .int .i64 e ∧ l' = entR x lg (decide (¬ e = 0)) last 0 hops got :: logm lg st La :: row st 224 (scells Sa d) :: disk d X :: l) := by
  obtain ⟨b, hb⟩ : ∃ b, leB 8 (last + 1#64) = b := ⟨_, rfl⟩
  have hsm : Small b := by rw [← hb]; exact small_num _
  have hbl : b.length = 8 := by rw [← hb]; exact leB_length _ _
  have hh := h.holds.fits.hash
  have h2 : 2 ≤ (D.armO a).safe.length := by rw [armO_safe]; exact h.holds.fits.two
  have hpn : (D.armO a).pending.length ≤ 100000 := by rw [armO_pending, h.holds.none]; decide
  have hfew := h.few
  by_cases hroom : L.used + needN b.length ≤ D.slots
  · obtain ⟨La, X, e, eA, hK⟩ := append_kept h hsm ha hroom rfl
    have he : e ≠ 6 := by rcases hK.out with ⟨h, _⟩ | ⟨h, _⟩ <;> omega
    refine ⟨_, La, S, X, e, by have q := entryN_snoc hN hlast (L.used + needN b.length); rwa [hb] at q, hK, fun x lg st d hops got l => ?_⟩
    refine keep_one E x lg false last 0 hops got l st d S (D.armO a) X L La (last + 1#64) e he fun p c l hin => ?_
    rw [hb] at hin
    have q := lappend_spec E lg st d L S (D.armO a) l hh h2 b p c 8 hbl hsm hpn hfew hin
    rwa [eA] at q
  · have eA : appL L S (D.armO a) b = (L, D.armO a, 6) := by
      rw [appL, if_neg (by rw [h.whole]; simp), if_neg]
      cases a with
      | none => exact fun e => hroom ((roomB_iff h _).1 e)
      | some k => exact fun e => hroom ((roomB_iff h _).1 e)
    obtain ⟨La, Sa, X, e, eC, hK⟩ := check_kept (a := a) h hsm ha (by rw [hbl]; unfold Dk.half; omega) ht rfl
    refine ⟨_, La, Sa, X, e, by rw [← hb]; exact entryN_check _, hK, fun x lg st d hops got l => ?_⟩
    refine keep_two E x lg false last 0 hops got l st d S Sa (D.armO a) (D.armO a) X L L La (last + 1#64) e (fun p c l hin => ?_) fun p c l hin => ?_
    · rw [hb] at hin
      have q := lappend_spec E lg st d L S (D.armO a) l hh h2 b p c 8 hbl hsm hpn hfew hin
      rwa [eA] at q
    · rw [hb, ← hbl] at hin
      have q := lcheck_spec E lg st d L S (D.armO a) l hh h2 h.holds.fits.place hpn b p c hsm hin
      rwa [eC, hbl] at q
theorem eopen_lh (d : Nat) {S : Sb} {D : Dk} {L : Lg} (h : LH S D L) (h64 : 64 ≤ D.safe.length) (a : Option Nat) (l : List HProp) :
    Fc prog E 12 [.pointer (some ⟨d, 0, none⟩)].toArray (disk d (D.armO a) :: l) (eopenP d S (D.armO a) L l) :=
  eopen_spec E d S (D.armO a) (D.armO a) L (fun l => storeA_spec E d D S L.snap a l h.holds h64) (fun st l => lopenA_spec E st d S D L a l h) l
/-- An entry is opened on a disk that may be armed. -/
theorem eopen_cases {T : Nat} {D : Dk} {last : BitVec 64} {a : Option Nat} (h : ESt T D last) (ha : ∀ k, a = some k → k ≤ 1000000) :
    (∃ S D' L a', LH S D' L ∧ entryN L = some last ∧ S.turn.toNat ≤ T ∧ D'.safe.length = 64 ∧ (a = none → a' = none) ∧ (∀ k, a' = some k → k ≤ 1000000) ∧ ∀ d l, Fc prog E 12 [.pointer (some ⟨d, 0, none⟩)].toArray (disk d (D.armO a) :: l)
      (fun v l' => ∃ x lg st, v = .tuple #[.pointer (some ⟨x, 0, none⟩), .int .i64 0] ∧ l' = entR x lg false last 0 0 (.map none) :: logm lg st L :: row st 224 (scells S d) :: disk d (D'.armO a') :: l)) ∨
    (a ≠ none ∧ ∃ X : Dk, X.pending.length ≤ 1000 ∧ (∀ keep, ESt T (X.crash keep) last) ∧ ∀ d l, Fc prog E 12 [.pointer (some ⟨d, 0, none⟩)].toArray (disk d (D.armO a) :: l) (fun v l' => v = .tuple #[.pointer none, .int .i64 7] ∧ l' = disk d X :: l)) := by
  rcases h.out with ⟨hs, hl⟩ | ⟨S, L, hL, hN, ht⟩
  · subst hl
    obtain ⟨X, e, hF, hor⟩ := format_cases h.up h.none hs ha
    have hst : ∀ d l, Fc prog E 61 [.pointer (some ⟨d, 0, none⟩)].toArray (disk d (D.armO a) :: l) (fun v l' => (e = 0 ∧ ∃ st, v = .tuple #[.pointer (some ⟨st, 0, none⟩), .int .i64 0] ∧ l' = row st 224 (scells sb0 d) :: disk d X :: l) ∨ (¬ e = 0 ∧ v = .tuple #[.pointer none, .int .i64 e] ∧ l' = disk d X :: l)) := fun d l => by
      have q := storeF_spec E d (D.armO a) l (by rw [armO_safe, h.len]; decide) (by rw [armO_dead]; exact h.up.dead) (by rw [armO_pending, h.none]; decide) (by rw [armO_counts]; exact zeros_counts hs h.none)
      rwa [hF] at q
    rcases hor with ⟨rfl, D', a', rfl, hL, hl', hn, hb⟩ | ⟨rfl, hna, hf, hkp⟩
    · refine .inl ⟨sb0, D', lg0, a', hL, entryN_lg0, Nat.zero_le _, hl', hn, hb, fun d l => ?_⟩
      refine (eopen_spec E d sb0 (D.armO a) (D'.armO a') lg0 (fun l => (hst d l).mono fun v l' q => ?_) (fun st l => lopenA_spec E st d sb0 D' lg0 a' l hL) l).mono fun v l' q => ?_
      · rcases q with ⟨_, q⟩ | ⟨q, _⟩
        · exact q
        · exact absurd rfl q
      · rcases q with ⟨n, x, lg, st, e1, e2, e3⟩ | ⟨e1, _⟩
        · rw [entryN_lg0] at e1
          cases e1
          exact ⟨x, lg, st, e2, e3⟩
        · rw [entryN_lg0] at e1; cases e1
    · refine .inr ⟨hna, X, hf, fun keep => (hkp keep).mono (Nat.zero_le _), fun d l => ?_⟩
      refine eopen_err E d (D.armO a) X 7 (by decide) (fun l => (hst d l).mono fun v l' q => ?_) l
      rcases q with ⟨q, _⟩ | ⟨_, q⟩
      · exact absurd q (by decide)
      · exact q
  · refine .inl ⟨S, D, L, a, hL, hN, ht, h.len, fun h => h, ha, fun d l => (eopen_lh E d hL (by rw [h.len]; decide) a l).mono fun v l' q => ?_⟩
    rcases q with ⟨n, x, lg, st, e1, e2, e3⟩ | ⟨e1, _⟩
    · rw [hN] at e1
      cases e1
      exact ⟨x, lg, st, e2, e3⟩
    · rw [hN] at e1; cases e1
end Go.Proofs.YtimekohdlofmaaaGreat
/- The sort at int: cmp.Less, insertion sort. -/
namespace Go.Proofs.YtimekohdlofmaaaGreat
open Go Go.SL
section
attribute [local irreducible] J JL JE JM LS Y Fc RV Code.wp wpList Code.wpIn wpListIn
attribute [local irreducible] Yc
variable (E : World)
abbrev arI (g : Nat) (d : Array Int) (sp : List Value) : HProp := arr g 3 (fun x => [(Value.int .i64) x]) d sp
theorem isNaNI (x : Int) (l : List HProp) : Fc prog E 220 [(Value.int .i64) x].toArray l (fun v l' => v = .bool false ∧ l' = l) := by
  refine Jt (c := ?codeC) Tryz.func220 ?hb Tryz.ntmps220 ?hl ?_
  case hb => exact rfl
  case hl => exact rfl
  refine Jh ?_
  refine Jc ?_
  refine Ja (Jd rfl) O O O ?_
  refine Jg ?_
  refine Jb ?_
  refine Jh ?_
  refine Jc ?_
  refine Ja (Je rfl) O O O (Ja (Je rfl) O O O (Ja (Wk O O) O O O (Ja (Jd rfl) O O O ?_)))
  refine Jg ?_
  refine Jb ?_
  refine Vl ?_
  refine Vk (.inl rfl) O O zrv ?_
  exact ⟨by simp, rfl⟩
theorem lessI (x y : Int) (l : List HProp) : Fc prog E 206 [(Value.int .i64) x, (Value.int .i64) y].toArray l (fun v l' => v = .bool (Sort.ltInt x y) ∧ l' = l) := by
  refine Jt (c := ?codeC) Tryz.func206 ?hb Tryz.ntmps206 ?hl ?_
  case hb => exact rfl
  case hl => exact rfl
  refine Jh ?_
  refine Jc ?_
  refine Ja (Jd rfl) O O O ?_
  refine Jg ?_
  refine Jb ?_
  refine Jh ?_
  refine Jc ?_
  refine Ja (Je rfl) O O O ?_
  refine Jj rfl (Js e220 O O (isNaNI E _ _) ?_)
  rintro _ _ ⟨rfl, rfl⟩
  refine Ja (Je rfl) O O O ?_
  all_goals (first | (refine Vm O O O (fun h => ?_) (fun h => ?_) <;> try (first | (exfalso; omega) | exact absurd rfl h)) | (refine Vz O O O (fun h => ?_) (fun h => ?_) <;> try (first | cases h | (exfalso; simp at h; done))) | skip)
  all_goals (first | refine Ju O O O O O O ?_ | refine Jr O O O O O ?_ | refine Jw O O O (Je rfl) O O ?_)
  all_goals (first | refine Ju O O O O O O ?_ | refine Jr O O O O O ?_ | (refine JL.gloud O O O (Js e220 O O (isNaNI E _ _) ?_); rintro _ _ ⟨rfl, rfl⟩))
  all_goals (first | refine Ju O O O O O O ?_ | refine Jr O O O O O ?_ | refine Jw O O O (y_not rfl) O O ?_)
  all_goals (refine Ja (y_pick O O O) O O O ?_)
  all_goals (refine Ja (Je rfl) O O O ?_)
  all_goals (first | (refine Vm O O O (fun h => ?_) (fun h => ?_) <;> try (first | (exfalso; omega) | exact absurd rfl h)) | (refine Vz O O O (fun h => ?_) (fun h => ?_) <;> try (first | cases h | (exfalso; simp at h; done))) | skip)
  all_goals (first | refine Ju O O O O O O ?_ | refine Jr O O O O O ?_ | refine Jw O O O (Je rfl) O O ?_)
  all_goals (first | refine Ju O O O O O O ?_ | refine Jr O O O O O ?_ | refine Jw O O O (Je rfl) O O ?_)
  all_goals (first | refine Ju O O O O O O ?_ | refine Jr O O O O O ?_ | refine Jw O O O (y_lss O O) O O ?_)
  all_goals (refine Ja (y_pick O O O) O O O ?_)
  all_goals (refine Ja (Jd rfl) O O O ?_)
  all_goals refine Jg ?_
  all_goals refine Jb ?_
  all_goals
    refine Vl ?_
    refine Vk (.inl rfl) O O zrv ?_
    exact ⟨rfl, rfl⟩
attribute [local irreducible] Sort.ltInt
theorem insI (g c n a b : Nat) (ia ib : Int) (d : Array Int) (sp : List Value) (r : List HProp) (ea : ia = a) (eb : ib = b) (hn : d.size = n) (ha : a ≤ n) (hb : b ≤ n) (h63 : n < 4611686018427387904) :
    Fc prog E 200 [.slice (some ⟨g, 0, none⟩) n c, .int .i64 ia, .int .i64 ib].toArray (arI g d sp :: r) (fun v l' => v = .tuple #[] ∧ l' = arI g (Sort.insertionSort Sort.ltInt d a b) sp :: r) := by
  refine Fc.eqs ?_
  subst ea eb
  refine Jt (c := ?codeC) Tryz.func200 ?hb Tryz.ntmps200 ?hl ?_
  case hb => exact rfl
  case hl => exact rfl
  refine Jh ?_
  refine Jc ?_
  refine Ja (Je rfl) O O O ?_
  refine Ja (Wc O O zwr) O O O ?_
  refine Ja (Jd rfl) O O O ?_
  refine Jg ?_
  refine Jb ?_
  refine Vj ?_
  refine J.loop (α := Nat × Array Int) (fun s => a + 1 ≤ s.1 ∧ s.2.size = n ∧ Sort.insOuter Sort.ltInt a b s.1 s.2 = Sort.insertionSort Sort.ltInt d a b) (fun s => [(0, .slice (some ⟨g, 0, none⟩) n c), (1, .int .i64 a), (2, .int .i64 b), (6, .int .i64 s.1)]) (fun s => arI g s.2 sp :: r) (fun s => b - s.1) (a + 1, d) ⟨Nat.le_refl _, hn, rfl⟩ ⟨rfl, rfl, rfl, (congrArg (fun z => some (Value.int .i64 z)) (by first | omega | (dsimp only; omega))), trivial⟩ (fun w h => h) ?_
  rintro ⟨i, d1⟩ ⟨hi1, hs1, he1⟩
  try dsimp only at hi1 hs1 he1 ⊢
  refine Jh ?_
  refine Jh ?_
  refine Jc ?_
  refine Ja (Je rfl) O O O (Ja (Je rfl) O O O (Ja (y_lss O O) O O O ?_))
  refine Jg ?_
  refine Jb ?_
  first | apply Va rfl | apply Vt rfl
  case' ht =>
    intro h
    try (first | (exfalso; omega) | (cases h; done) | (exfalso; simp at h; done) | subst h)
    all_goals
      have hlt : i < b := by omega
      refine Ve ?_
  case' hf =>
    intro h
    try (first | (exfalso; omega) | (cases h; done) | (exfalso; simp at h; done) | subst h)
    all_goals
      rw [insOuter_ge (by omega)] at he1
      refine J.exit ?_
      refine Vc ?_
      refine Vc ?_
      refine Vs ?_
      refine JE.ret0 (.inr rfl) O O  ?_
      exact ⟨rfl, fun w h => by rw [← he1]; exact h⟩
  all_goals refine Jb ?_
  all_goals
    refine Jh ?_
    refine Vj ?_
    refine Jh ?_
    refine Jc ?_
    refine Ja (Je rfl) O O O (Ja (Jd rfl) O O O ?_)
    refine Jg ?_
    refine Jb ?_
    refine Vj ?_
    refine J.loop (α := Nat × Array Int) (fun s => a ≤ s.1 ∧ s.1 ≤ i ∧ s.2.size = n ∧ Sort.insInner Sort.ltInt a s.1 s.2 = Sort.insInner Sort.ltInt a i d1) (fun s => [(0, .slice (some ⟨g, 0, none⟩) n c), (1, .int .i64 a), (2, .int .i64 b), (6, .int .i64 i), (7, .int .i64 s.1)]) (fun s => arI g s.2 sp :: r) (fun s => s.1) (i, d1) ⟨by dsimp only; omega, Nat.le_refl _, hs1, rfl⟩ ⟨O, O, O, O, O, trivial⟩ (fun w h => h) ?_
    rintro ⟨j, d2⟩ ⟨hj1, hj2, hs2, he2⟩
    try dsimp only at hj1 hj2 hs2 he2 ⊢
    refine Jh ?_
    refine Jh ?_
    by_cases hg : a < j
    all_goals
      refine Wl _ _ [(0, .q), (1, .q), (2, .q), (3, .q), (4, .q), (5, .q), (6, .q), (7, .q), (8, .q), (9, .q), (10, .q), (11, .q), (12, .q), (13, .q), (14, .q)] mixed (by kernel_rfl) (Jl) ?_
      refine Jf O O O O (fun m => Je rfl) ?_
      refine Jf O O O O (fun m => Je rfl) ?_
      first | refine Jf O O O O (fun m => y_gtrB O O (decide_eq_true (by omega))) ?_ | refine Jf O O O O (fun m => y_gtrB O O (decide_eq_false (by omega))) ?_
      refine Jf O O O O (fun m => Je rfl) ?_
      all_goals (first | refine Vi O O O O O O O ?_ | refine Vd O O O O O O ?_ | refine Vb O O O O O O (fun m => Je rfl) ?_)
      all_goals (first | refine Vi O O O O O O O ?_ | refine Vd O O O O O O ?_ | refine Vb O O O O O O (fun m => Je rfl) ?_)
      all_goals (first | refine Vi O O O O O O O ?_ | refine Vd O O O O O O ?_ | refine Vb O O O O O O (fun m => Vg hT O O O O O zix zix) ?_)
      all_goals (first | refine Vi O O O O O O O ?_ | refine Vd O O O O O O ?_ | refine Vb O O O O O O (fun m => Jo hT O O O (Rd1.arr (i := (j)) (Vn m zpk) (by (first | assumption | omega | (simp only [Array.size_setIfInBounds]; omega))) (by exact arr_off rfl (by omega)))) ?_)
      all_goals (first | refine Vi O O O O O O O ?_ | refine Vd O O O O O O ?_ | refine Vb O O O O O O (fun m => Je rfl) ?_)
      all_goals (first | refine Vi O O O O O O O ?_ | refine Vd O O O O O O ?_ | refine Vb O O O O O O (fun m => Je rfl) ?_)
      all_goals (first | refine Vi O O O O O O O ?_ | refine Vd O O O O O O ?_ | refine Vb O O O O O O (fun m => y_sub O O zwr) ?_)
      all_goals (first | refine Vi O O O O O O O ?_ | refine Vd O O O O O O ?_ | refine Vb O O O O O O (fun m => Vg hT O O O O O zix zix) ?_)
      all_goals (first | refine Vi O O O O O O O ?_ | refine Vd O O O O O O ?_ | refine Vb O O O O O O (fun m => Jo hT O O O (Rd1.arr (i := (j - 1)) (Vn m zpk) (by (first | assumption | omega | (simp only [Array.size_setIfInBounds]; omega))) (by exact arr_off rfl (by omega)))) ?_)
      all_goals (first | refine Vi O O O O O O O ?_ | refine Vd O O O O O O ?_ | refine Vb O O O O O O (fun m => y_callF e206 rfl (lessI E _ _ _)) ?_)
      all_goals refine Jf O O O O (fun m => y_pick O O O) ?_
      all_goals refine Wh ?_
    all_goals refine Jb ?_
    all_goals
      first | apply Va rfl | apply Vt rfl
      case' ht =>
        intro h
        try (first | (exfalso; omega) | (cases h; done) | (exfalso; simp at h; done) | subst h)
        all_goals
          rw [insInner_go hg h] at he2
          refine Ve ?_
      case' hf =>
        intro h
        try (first | (exfalso; omega) | (cases h; done) | (exfalso; simp at h; done) | subst h)
        all_goals
          rw [insInner_stop (by first | exact .inl (by omega) | exact .inr h)] at he2
          refine J.exit ?_
          refine Vc ?_
          refine Vc ?_
          refine Vs ?_
          refine Jv ?_
          refine Jb ?_
          refine Jc ?_
          refine Ja (Je rfl) O O O ?_
          refine Ja (Wc O O zwr) O O O ?_
          refine Ja (Jd rfl) O O O ?_
          refine Jg ?_
          exact Vy (s := (i, d1)) (i + 1, Sort.insInner Sort.ltInt a i d1) ⟨by dsimp only; omega, by dsimp only; rw [← he2]; exact hs2, by dsimp only; rw [← insOuter_lt hlt]; exact he1⟩ ⟨rfl, rfl, rfl, (congrArg (fun z => some (Value.int .i64 z)) (by first | omega | (dsimp only; omega))), trivial⟩ (fun w h => by rw [← he2]; exact h) (by dsimp only; omega)
    all_goals refine Jb ?_
    all_goals
      refine Jh ?_
      refine Vj ?_
      refine Wl _ _ [(0, .q), (1, .q), (2, .q), (3, .q), (4, .q), (5, .q), (6, .q), (7, .q), (8, .q), (10, .q), (11, .q), (12, .q), (9, .e), (13, .e), (14, .q), (15, .l), (16, .q), (17, .l)] mixed (by kernel_rfl) (Ji (Jp) (Jl)) ?_
      refine Jf O O O O (fun m => Je rfl) ?_
      refine Jf O O O O (fun m => Je rfl) ?_
      refine Jf O O O O (fun m => Je rfl) ?_
      refine Jf O O O O (fun m => Je rfl) ?_
      refine Jf O O O O (fun m => y_sub O O zwr) ?_
      refine Jf O O O O (fun m => Je rfl) ?_
      refine Jf O O O O (fun m => Je rfl) ?_
      refine Jf O O O O (fun m => y_sub O O zwr) ?_
      refine Jf O O O O (fun m => Vg hT O O O O O zix zix) ?_
      refine Jf O O O O (fun m => Je rfl) ?_
      refine Jf O O O O (fun m => Je rfl) ?_
      refine Jf O O O O (fun m => Vg hT O O O O O zix zix) ?_
      refine JM.early O O O O (fun fr => Jo hT O O O (Rd1.arr (i := (j - 1)) zpk (by (first | assumption | omega | (simp only [Array.size_setIfInBounds]; omega))) (by exact arr_off rfl (by omega)))) ?_
      refine JM.early O O O O (fun fr => Jo hT O O O (Rd1.arr (i := (j)) zpk (by (first | assumption | omega | (simp only [Array.size_setIfInBounds]; omega))) (by exact arr_off rfl (by omega)))) ?_
      refine Jf O O O O (fun m => Vg hT O O O O O zix zix) ?_
      refine Wf O O (fun fr => l_storeArr (j := (j)) (u := d2[j - 1]!) hT O O O O (fun _ => rfl) zpk (by (first | assumption | omega | (simp only [Array.size_setIfInBounds]; omega))) (by exact arr_off rfl (by omega)) (⟨[_], (by (repeat (first | exact Jl | exact Vu | refine Ji Jp ?_))), ?_⟩))
      refine Jf O O O O (fun m => Vg hT O O O O O zix zix) ?_
      refine Wf O O (fun fr => l_storeArr (j := (j - 1)) (u := d2[j]!) hT O O O O (fun _ => rfl) zpk (by (first | assumption | omega | (simp only [Array.size_setIfInBounds]; omega))) (by exact arr_off rfl (by omega)) (⟨[_], (by (repeat (first | exact Jl | exact Vu | refine Ji Jp ?_))), ?_⟩))
      refine Wh ?_
      refine Jv ?_
      refine Jb ?_
      refine Jc ?_
      refine Ja (Je rfl) O O O ?_
      refine Ja (y_sub O O zwr) O O O ?_
      refine Ja (Jd rfl) O O O ?_
      refine Jg ?_
    all_goals
      exact Vy (s := (j, d2)) (j - 1, Sort.swp d2 j (j - 1)) ⟨by dsimp only; omega, by dsimp only; omega, by dsimp only; rw [swp_size]; exact hs2, he2⟩ ⟨rfl, rfl, rfl, rfl, (congrArg (fun z => some (Value.int .i64 z)) (by first | omega | (dsimp only; omega))), trivial⟩ (fun w h => h) (by dsimp only; omega)
end
end Go.Proofs.YtimekohdlofmaaaGreat
/- The sort: bits.Len, the next power of two, the pseudo-random numbers. -/
namespace Go.Proofs.YtimekohdlofmaaaGreat
open Go Go.SL
section
attribute [local irreducible] J JL JE JM LS Y Fc RV Code.wp wpList Code.wpIn wpListIn
attribute [local irreducible] Yc
variable (E : World)
theorem len64 (ix : Int) (x : Nat) (r : List HProp) (ex : ix = x) (hx : x < 18446744073709551616) :
    Fc prog E 193 [.int .u64 ix].toArray r (fun v l' => ∃ k : Nat, v = .int .i64 k ∧ k ≤ 64 ∧ (1 ≤ x → 2 ^ k ≤ 2 * x) ∧ l' = r) := by
  refine Wi ?_
  subst ex
  refine Jt (c := ?codeC) Tryz.func193 ?hb Tryz.ntmps193 ?hl ?_
  case hb => exact rfl
  case hl => exact rfl
  refine Jh ?_
  refine Jc ?_
  refine Ja (Jd rfl) O O O ?_
  refine Jg ?_
  refine Jb ?_
  refine J.seqK (α := Nat × Nat) (fun q => q.1 < 4294967296 ∧ q.2 ≤ 32 ∧ q.1 * 2 ^ q.2 ≤ x ∧ (1 ≤ x → 1 ≤ q.1)) (fun q => [(0, .int .u64 q.1), (2, .int .i64 q.2)]) (fun _ => r) ?hj4 (fun hk4 => ?hf4)
  case hf4 =>
    refine Jh ?_
    refine Jc ?_
    refine Ja (Je rfl) O O O (Ja (y_geq O O) O O O ?_)
    refine Jg ?_
    refine Jb ?_
    first | apply Va rfl | apply Vt rfl
    case' ht =>
      intro h
      try (first | (exfalso; omega) | (cases h; done) | (exfalso; simp at h; done) | subst h)
      all_goals
        refine Jh ?_
        refine Jc ?_
        refine Ja (Je rfl) O O O ?_
        refine Ja (y_shr O O (by decide) (shr_nat (x := x) (k := 32) rfl (by decide))) O O O ?_
        refine Ja (Jd rfl) O O O ?_
        refine Jg ?_
        refine Jb ?_
        refine Jc ?_
        refine Ja (Jd rfl) O O O ?_
        refine Jg ?_
    case' hf =>
      intro h
      try (first | (exfalso; omega) | (cases h; done) | (exfalso; simp at h; done) | subst h)
      all_goals
        refine Ve ?_
    all_goals refine Jb ?_
    all_goals
      first | exact J.closeK hk4 (x / 2 ^ 32, 32) ⟨by dsimp only; omega, by dsimp only; omega, by dsimp only; omega, by dsimp only; omega⟩ ⟨O, O, trivial⟩ (fun w h => h) | exact J.closeK hk4 (x, 0) ⟨by dsimp only; omega, by dsimp only; omega, by dsimp only; omega, by dsimp only; omega⟩ ⟨O, O, trivial⟩ (fun w h => h)
  rintro ⟨y, k⟩ ⟨h1, h2, h3, h4⟩
  dsimp only at h1 h2 h3 h4 ⊢
  refine J.seqK (α := Nat × Nat) (fun q => q.1 < 65536 ∧ q.2 ≤ 48 ∧ q.1 * 2 ^ q.2 ≤ x ∧ (1 ≤ x → 1 ≤ q.1)) (fun q => [(0, .int .u64 q.1), (2, .int .i64 q.2)]) (fun _ => r) ?hj7 (fun hk7 => ?hf7)
  case hf7 =>
    refine Jh ?_
    refine Jc ?_
    refine Ja (Je rfl) O O O (Ja (y_geq O O) O O O ?_)
    refine Jg ?_
    refine Jb ?_
    first | apply Va rfl | apply Vt rfl
    case' ht =>
      intro h
      try (first | (exfalso; omega) | (cases h; done) | (exfalso; simp at h; done) | subst h)
      all_goals
        refine Jh ?_
        refine Jc ?_
        refine Ja (Je rfl) O O O ?_
        refine Ja (y_shr O O (by decide) (shr_nat (x := y) (k := 16) rfl (by decide))) O O O ?_
        refine Ja (Jd rfl) O O O ?_
        refine Jg ?_
        refine Jb ?_
        refine Jc ?_
        refine Ja (Je rfl) O O O ?_
        refine Ja (Wc O O zwr) O O O ?_
        refine Ja (Jd rfl) O O O ?_
        refine Jg ?_
    case' hf =>
      intro h
      try (first | (exfalso; omega) | (cases h; done) | (exfalso; simp at h; done) | subst h)
      all_goals
        refine Ve ?_
    all_goals refine Jb ?_
    all_goals
      first | exact J.closeK hk7 (y / 2 ^ 16, k + 16) ⟨by dsimp only; omega, by dsimp only; omega, shift_down h3, by dsimp only; omega⟩ ⟨rfl, (congrArg (fun z => some (Value.int .i64 z)) (by first | omega | (dsimp only; omega))), trivial⟩ (fun w h => h) | exact J.closeK hk7 (y, k) ⟨by dsimp only; omega, by dsimp only; omega, h3, h4⟩ ⟨O, O, trivial⟩ (fun w h => h)
  rintro ⟨y, k⟩ ⟨h1, h2, h3, h4⟩
  dsimp only at h1 h2 h3 h4 ⊢
  refine J.seqK (α := Nat × Nat) (fun q => q.1 < 256 ∧ q.2 ≤ 56 ∧ q.1 * 2 ^ q.2 ≤ x ∧ (1 ≤ x → 1 ≤ q.1)) (fun q => [(0, .int .u64 q.1), (2, .int .i64 q.2)]) (fun _ => r) ?hj10 (fun hk10 => ?hf10)
  case hf10 =>
    refine Jh ?_
    refine Jc ?_
    refine Ja (Je rfl) O O O (Ja (y_geq O O) O O O ?_)
    refine Jg ?_
    refine Jb ?_
    first | apply Va rfl | apply Vt rfl
    case' ht =>
      intro h
      try (first | (exfalso; omega) | (cases h; done) | (exfalso; simp at h; done) | subst h)
      all_goals
        refine Jh ?_
        refine Jc ?_
        refine Ja (Je rfl) O O O ?_
        refine Ja (y_shr O O (by decide) (shr_nat (x := y) (k := 8) rfl (by decide))) O O O ?_
        refine Ja (Jd rfl) O O O ?_
        refine Jg ?_
        refine Jb ?_
        refine Jc ?_
        refine Ja (Je rfl) O O O ?_
        refine Ja (Wc O O zwr) O O O ?_
        refine Ja (Jd rfl) O O O ?_
        refine Jg ?_
    case' hf =>
      intro h
      try (first | (exfalso; omega) | (cases h; done) | (exfalso; simp at h; done) | subst h)
      all_goals
        refine Ve ?_
    all_goals refine Jb ?_
    all_goals
      first | exact J.closeK hk10 (y / 2 ^ 8, k + 8) ⟨by dsimp only; omega, by dsimp only; omega, shift_down h3, by dsimp only; omega⟩ ⟨rfl, (congrArg (fun z => some (Value.int .i64 z)) (by first | omega | (dsimp only; omega))), trivial⟩ (fun w h => h) | exact J.closeK hk10 (y, k) ⟨by dsimp only; omega, by dsimp only; omega, h3, h4⟩ ⟨O, O, trivial⟩ (fun w h => h)
  rintro ⟨y, k⟩ ⟨h1, h2, h3, h4⟩
  dsimp only at h1 h2 h3 h4 ⊢
  obtain ⟨t, ht1, ht2, ht3⟩ := len8_at h1
  refine Jh ?_
  refine Jc ?_
  refine Ja (Je rfl) O O O (Ja (Je rfl) O O O ?_)
  refine Ja (y_conv (m := (y : Int)) hT O O O O (wrap_u8n (by omega))) O O O ?_
  refine Ja (y_index_len8 hT O O (by kernel_rfl) rfl (by omega) (by omega)) O O O ?_
  refine Ja (y_conv (m := (t : Int)) hT O O O O (by rw [ht1]; exact We (by omega) (by omega))) O O O ?_
  refine Ja (Wc (m := ((k + t : Nat) : Int)) O O (by rw [We (by omega) (by omega)]; omega)) O O O ?_
  refine Ja (Jd rfl) O O O ?_
  refine Jg ?_
  refine Jb ?_
  refine Vl ?_
  refine Vk (.inl rfl) O O zrv ?_
  exact ⟨_, fun w h => h, k + t, rfl, by omega, fun hx1 => pow_len h3 (ht3 (h4 hx1)), rfl⟩
theorem lenU (ix : Int) (x : Nat) (r : List HProp) (ex : ix = x) (hx : x < 18446744073709551616) :
    Fc prog E 171 [.int .u64 ix].toArray r (fun v l' => ∃ k : Nat, v = .int .i64 k ∧ k ≤ 64 ∧ (1 ≤ x → 2 ^ k ≤ 2 * x) ∧ l' = r) := by
  refine Wi ?_
  refine Jt (c := ?codeC) Tryz.func171 ?hb Tryz.ntmps171 ?hl ?_
  case hb => exact rfl
  case hl => exact rfl
  refine Jh ?_
  refine Jc ?_
  refine Ja (Jd rfl) O O O ?_
  refine Jg ?_
  refine Jb ?_
  refine Jh ?_
  refine Vf rfl zbl ?_
  refine Ve ?_
  refine Jb ?_
  refine Jh ?_
  refine Jc ?_
  refine Ja (Je rfl) O O O ?_
  refine Jj rfl (Js e193 O O (len64 E _ x _ ex hx) ?_)
  rintro _ _ ⟨k, rfl, hk1, hk2, rfl⟩
  refine Ja (Jd rfl) O O O ?_
  refine Jg ?_
  refine Jb ?_
  refine Vl ?_
  refine Vk (.inl rfl) O O zrv ?_
  exact ⟨_, fun w h => h, k, rfl, hk1, hk2, rfl⟩
end
end Go.Proofs.YtimekohdlofmaaaGreat
/- The sort at int, of twelve elements at the most: insertion sort. -/
namespace Go.Proofs.YtimekohdlofmaaaGreat
open Go Go.SL
section
attribute [local irreducible] J JL JE JM LS Y Fc RV Code.wp wpList Code.wpIn wpListIn
attribute [local irreducible] Yc
attribute [local irreducible] Sort.ltInt
variable (E : World)
theorem insNilK (r : List HProp) : Fc prog E 200 [.slice none 0 0, .int .i64 0, .int .i64 0].toArray r (fun v l' => v = .tuple #[] ∧ l' = r) := by
  refine Jt (c := ?codeC) Tryz.func200 ?hb Tryz.ntmps200 ?hl ?_
  case hb => exact rfl
  case hl => exact rfl
  refine Jh ?_
  refine Jc ?_
  refine Ja (Je rfl) O O O ?_
  refine Ja (Wc O O zwr) O O O ?_
  refine Ja (Jd rfl) O O O ?_
  refine Jg ?_
  refine Jb ?_
  refine Vj ?_
  refine J.loop (α := Unit) (fun _ => True) (fun _ => [(2, .int .i64 0), (6, .int .i64 1)]) (fun _ => r) (fun _ => 0) () trivial ⟨O, O, trivial⟩ (fun w h => h) ?_
  rintro _ _
  refine Jh ?_
  refine Jh ?_
  refine Jc ?_
  refine Ja (Je rfl) O O O (Ja (Je rfl) O O O (Ja (y_lss O O) O O O ?_))
  refine Jg ?_
  refine Jb ?_
  refine Vf rfl zbl ?_
  refine J.exit ?_
  refine Vc ?_
  refine Vc ?_
  refine Vs ?_
  refine JE.ret0 (.inr rfl) O O  ?_
  exact ⟨rfl, rfl⟩
theorem pdqNilK (lim : Int) (r : List HProp) : Fc prog E 182 [.slice none 0 0, .int .i64 0, .int .i64 0, .int .i64 lim].toArray r (fun v l' => v = .tuple #[] ∧ l' = r) := by
  refine Jt (c := ?codeC) Tryz.func182 ?hb Tryz.ntmps182 ?hl ?_
  case hb => exact rfl
  case hl => exact rfl
  refine Jh ?_
  refine Jc ?_
  refine Ja (Jd rfl) O O O ?_
  refine Jg ?_
  refine Jb ?_
  refine Jh ?_
  refine Jc ?_
  refine Ja (Jd rfl) O O O ?_
  refine Jg ?_
  refine Jb ?_
  refine Vj ?_
  refine J.loop (α := Unit) (fun _ => True) (fun _ => [(0, .slice none 0 0), (1, .int .i64 0), (2, .int .i64 0)]) (fun _ => r) (fun _ => 0) () trivial ⟨O, O, O, trivial⟩ (fun w h => h) ?_
  rintro _ _
  refine Vj ?_
  refine Jh ?_
  refine Jc ?_
  refine Ja (Je rfl) O O O (Ja (Je rfl) O O O ?_)
  refine Ja (y_sub O O zwr) O O O ?_
  refine Ja (Jd rfl) O O O ?_
  refine Jg ?_
  refine Jb ?_
  refine Jh ?_
  refine Jh ?_
  refine Jc ?_
  refine Ja (Je rfl) O O O (Ja (y_leq O O) O O O ?_)
  refine Jg ?_
  refine Jb ?_
  refine J.cond_t rfl zbl ?_
  refine Jh ?_
  refine Jc ?_
  refine Ja (Je rfl) O O O (Ja (Je rfl) O O O (Ja (Je rfl) O O O ?_))
  refine Jj rfl (Js e200 O O (insNilK E _) ?_)
  rintro _ _ ⟨rfl, rfl⟩
  refine Jg ?_
  refine Jb ?_
  refine Vl ?_
  refine Jz ?_
  refine Vr ?_
  refine Jz ?_
  refine Vr ?_
  refine JE.ret0 (.inl rfl) O O  ?_
  exact ⟨rfl, rfl⟩
theorem sortNilK (r : List HProp) : Fc prog E 160 [.slice none 0 0].toArray r (fun v l' => v = .tuple #[] ∧ l' = r) := by
  refine Jt (c := ?codeC) Tryz.func160 ?hb Tryz.ntmps160 ?hl ?_
  case hb => exact rfl
  case hl => exact rfl
  refine Jh ?_
  refine Jc ?_
  refine Ja (Je rfl) O O O (Ja (Vh hT O O O) O O O (Ja (Jd rfl) O O O ?_))
  refine Jg ?_
  refine Jb ?_
  refine Jc ?_
  refine Ja (Je rfl) O O O (Ja (Je rfl) O O O (Ja (Je rfl) O O O ?_))
  refine Ja (y_conv (m := 0) hT O O O O O) O O O ?_
  refine Jj rfl (Js e171 O O (lenU E _ 0 _ rfl (by omega)) ?_)
  rintro _ _ ⟨k, rfl, _, _, rfl⟩
  refine Jj rfl (Js e182 O O (pdqNilK E _ _) ?_)
  rintro _ _ ⟨rfl, rfl⟩
  refine Jg ?_
  all_goals
    refine JE.ret0 (.inr rfl) O O  ?_
    exact ⟨rfl, rfl⟩
theorem pdqK (hS : Sort.SWO Sort.ltInt) (g c n : Nat) (lim : Int) (d : Array Int) (sp : List Value) (r : List HProp) (hn : d.size = n) (hb : n ≤ 12) :
    Fc prog E 182 [.slice (some ⟨g, 0, none⟩) n c, .int .i64 0, .int .i64 n, .int .i64 lim].toArray (arI g d sp :: r) (fun v l' => v = .tuple #[] ∧ ∃ d', Sort.PermIn 0 n d d' ∧ Sort.SortedIn Sort.ltInt 0 n d' ∧ l' = arI g d' sp :: r) := by
  refine Wi ?_
  have hfin := Sort.insertionSort_holds hS d 0 n (Nat.zero_le _) (by omega)
  refine Jt (c := ?codeC) Tryz.func182 ?hb Tryz.ntmps182 ?hl ?_
  case hb => exact rfl
  case hl => exact rfl
  refine Jh ?_
  refine Jc ?_
  refine Ja (Jd rfl) O O O ?_
  refine Jg ?_
  refine Jb ?_
  refine Jh ?_
  refine Jc ?_
  refine Ja (Jd rfl) O O O ?_
  refine Jg ?_
  refine Jb ?_
  refine Vj ?_
  refine J.loop (α := Unit) (fun _ => True) (fun _ => [(0, .slice (some ⟨g, 0, none⟩) n c), (1, .int .i64 0), (2, .int .i64 n)]) (fun _ => arI g d sp :: r) (fun _ => 0) () trivial ⟨O, O, O, trivial⟩ (fun w h => h) ?_
  rintro _ _
  refine Vj ?_
  refine Jh ?_
  refine Jc ?_
  refine Ja (Je rfl) O O O (Ja (Je rfl) O O O ?_)
  refine Ja (y_sub O O zwr) O O O ?_
  refine Ja (Jd rfl) O O O ?_
  refine Jg ?_
  refine Jb ?_
  refine Jh ?_
  refine Jh ?_
  refine Jc ?_
  refine Ja (Je rfl) O O O (Ja (y_leq O O) O O O ?_)
  refine Jg ?_
  refine Jb ?_
  refine J.cond_t rfl zbl ?_
  refine Jh ?_
  refine Jc ?_
  refine Ja (Je rfl) O O O (Ja (Je rfl) O O O (Ja (Je rfl) O O O ?_))
  refine Jj rfl (Js e200 O O (Wj (Ji zpk Jl) (insI E g c n 0 n _ _ d sp _ O O hn (by omega) (by omega) (by omega))) ?_)
  rintro _ _ ⟨rfl, rfl⟩
  refine Jg ?_
  refine Jb ?_
  refine Vl ?_
  refine Jz ?_
  refine Vr ?_
  refine Jz ?_
  refine Vr ?_
  refine JE.ret0 (.inl rfl) O O  ?_
  exact ⟨_, fun w h => h, rfl, _, hfin.1, hfin.2, rfl⟩
theorem sortRowK (hS : Sort.SWO Sort.ltInt) (g c n : Nat) (d : Array Int) (sp : List Value) (r : List HProp) (hn : d.size = n) (h63 : n ≤ 12) :
    Fc prog E 160 [.slice (some ⟨g, 0, none⟩) n c].toArray (arI g d sp :: r) (fun v l' => v = .tuple #[] ∧ ∃ d', Sort.PermIn 0 n d d' ∧ Sort.SortedIn Sort.ltInt 0 n d' ∧ l' = arI g d' sp :: r) := by
  refine Wi ?_
  refine Jt (c := ?codeC) Tryz.func160 ?hb Tryz.ntmps160 ?hl ?_
  case hb => exact rfl
  case hl => exact rfl
  refine Jh ?_
  refine Jc ?_
  refine Ja (Je rfl) O O O (Ja (Vh hT O O O) O O O (Ja (Jd rfl) O O O ?_))
  refine Jg ?_
  refine Jb ?_
  refine Jc ?_
  refine Ja (Je rfl) O O O (Ja (Je rfl) O O O (Ja (Je rfl) O O O ?_))
  refine Ja (y_conv (m := (n : Int)) hT O O O O (wrap_u64n (by omega))) O O O ?_
  refine Jj rfl (Js e171 O O (lenU E _ n _ rfl (by omega)) ?_)
  rintro _ _ ⟨k, rfl, _, _, rfl⟩
  refine Jj rfl (Js e182 O O (Wj (Ji zpk Jl) (pdqK E hS g c n _ d sp _ hn h63)) ?_)
  rintro _ _ ⟨rfl, d2, h1, h2, rfl⟩
  refine Jg ?_
  all_goals
    refine JE.ret0 (.inr rfl) O O  ?_
    exact ⟨_, fun w h => h, rfl, d2, h1, h2, rfl⟩
/-- slices.Sort. -/
theorem sortK (hS : Sort.SWO Sort.ltInt) (n : Nat) (v : Value) (zs : List Int) (r : List HProp) (hz : zs.length = n) (h63 : n ≤ 12) :
    Fc prog E 160 [v].toArray (own 3 1 v n (zs.map (Value.int .i64)) :: r) (fun u l' => u = .tuple #[] ∧ ∃ ys : List Int, ys.Perm zs ∧ (ys.Pairwise fun x y => Sort.ltInt y x = false) ∧ l' = own 3 1 v n (ys.map (Value.int .i64)) :: r) := by
  refine Fc.owns (fun e1 e2 e3 => ?_) (fun g cap sp e1 h1 h2 h3 h4 => ?_)
  · subst e1 e2
    obtain rfl : zs = [] := List.eq_nil_of_length_eq_zero hz
    exact Wi ((sortNilK E r).mono fun u l' ⟨a, b⟩ => ⟨own 3 1 (.slice none 0 0) 0 [] :: r, fun w h => Sat.own_nil (b ▸ h), a, [], List.Perm.refl _, List.Pairwise.nil, rfl⟩)
  · subst e1
    have hd : zs.toArray.size = n := by simpa using hz
    refine Wi (((sortRowK E hS g cap n zs.toArray sp r hd h63).imp fun w s => ?_).mono fun u l' ⟨a, d', p1, p2, b⟩ => ?_)
    · have e : zs.map (Value.int .i64) = zs.toArray.toList.flatMap fun x => [(Value.int .i64) x] := List.map_eq_flatMap
      rw [e] at s
      exact s
    · have hl : d'.toList.length = n := by rw [Array.length_toList, p1.1]; exact hd
      refine ⟨own 3 1 (.slice (some ⟨g, 0, none⟩) n cap) n (d'.toList.map (Value.int .i64)) :: r, fun w h => ?_, a, d'.toList, perm_in hd p1, sorted_in (p1.1.trans hd) p2, rfl⟩
      have e : d'.toList.map (Value.int .i64) = d'.toList.flatMap fun x => [(Value.int .i64) x] := List.map_eq_flatMap
      have s : Sat E (stars (row g 3 (d'.toList.map (Value.int .i64) ++ sp) :: r)) w := by
        rw [e]
        rw [b] at h
        exact h
      refine s.owned h1 h2 (by rw [List.length_map, hl, Nat.mul_one]) ?_
      rw [List.length_append, List.length_map] at h4 ⊢
      omega
end
end Go.Proofs.YtimekohdlofmaaaGreat
/- A map's keys in order: twelve at the most. -/
namespace Go.Proofs.YtimekohdlofmaaaGreat
open Go Go.SL
section
attribute [local irreducible] J JL JE JM LS Y Fc RV Code.wp wpList Code.wpIn wpListIn
attribute [local irreducible] Yc Sort.ltInt
variable (E : World)
theorem mkeysE_spec (l : List HProp) (v : Value) (hv : v.oneCell' = true) : Fc prog E 113 [v].toArray l (fun u l' => ∃ b, u = .func (.func 161) #[] [Value.pointer (some ⟨b, 0, none⟩)].toArray ∧ l' = row b 134 [v] :: l) := by
  have hvc : v.cells = [v].toArray := by cases v <;> simp_all [Value.cells, Value.oneCell']
  refine Jt (c := ?codeC) Tryz.func113 ?hb Tryz.ntmps113 ?hl ?_
  case hb => exact rfl
  case hl => exact rfl
  refine Jh ?_
  refine Jc ?_
  refine Jj rfl (l_box rfl hvc rfl (fun b1 => ?_))
  refine Ja (Jd rfl) O O O ?_
  refine Jg ?_
  refine Jb ?_
  refine Jh ?_
  refine Jc ?_
  refine Ja (y_makeFunc O O) O O O (Ja (Jd rfl) O O O ?_)
  refine Jg ?_
  refine Jb ?_
  refine Vl ?_
  refine Vk (.inl rfl) O O zrv ?_
  exact ⟨b1, rfl, rfl⟩
theorem mkeysE_each (k b mp : Nat) (m : List (Int × Value)) (St : List Int → List HProp) (l : List HProp)
    (hy : ∀ (fr : List HProp) (vs : List Int) (a : Int), vs.length < m.length → Yc prog E k [(Value.int .i64) a].toArray (St vs ++ fr) (fun v l' => v = .bool true ∧ l' = St (vs ++ [a]) ++ fr)) :
    Fc prog E 161 [.func (.yield k) #[] #[], Value.pointer (some ⟨b, 0, none⟩)].toArray (row b 134 [.map (some mp)] :: mapA (Value.int .i64) (fun _ => True) mp m :: (St [] ++ l))
      (fun _ l' => ∃ vs : List Int, vs.Perm (m.map (·.1)) ∧ l' = row b 134 [.map (some mp)] :: mapA (Value.int .i64) (fun _ => True) mp m :: (St vs ++ l)) := by
  refine Wi ?_
  refine Jt (c := ?codeC) Tryz.func161 ?hb Tryz.ntmps161 ?hl ?_
  case hb => exact rfl
  case hl => exact rfl
  refine Jh ?_
  refine Jc ?_
  refine Ja (Jo hT O O O zrd) O O O ?_
  refine Jj rfl (l_rangeMap hT O O O zpk rfl (fun it => ?_))
  refine Jg ?_
  refine Jb ?_
  refine Vj ?_
  refine J.loop (α := List Int × List (Int × Value) × Option (Int × Value)) (fun s => (s.1 ++ s.2.1.map (·.1)).Perm (m.map (·.1))) (fun s => [(0, .func (.yield k) #[] #[]), (1, .pointer (some ⟨b, 0, none⟩)), (5, .pointer (some ⟨it, 0, none⟩))]) (fun s => St s.1 ++ (mapIt (Value.int .i64) (fun _ => True) mp it m s.2.1 s.2.2 :: row b 134 [.map (some mp)] :: l)) (fun s => s.2.1.length) ([], m, none) (by simp) ⟨O, O, O, trivial⟩ (fun w h => Sat.rot (p := [_, _]) (g := St []) h) ?_
  rintro ⟨vs, rest, cur⟩ hp
  dsimp only at hp ⊢
  refine Jh ?_
  refine Jc ?_
  refine Jj rfl (l_nextMap rfl zpk rfl (fun h0 => ?_) (fun r1 a v r2 he ha => ?_))
  all_goals (refine Ja (Jy O O) O O O ?_)
  all_goals refine Jg ?_
  all_goals refine Jb ?_
  all_goals
    refine Jh ?_
    first | apply Va rfl | apply Vt rfl
    case' ht =>
      intro h
      try (first | (exfalso; omega) | (cases h; done) | (exfalso; simp at h; done) | subst h)
      all_goals
        refine Ve ?_
    case' hf =>
      intro h
      try (first | (exfalso; omega) | (cases h; done) | (exfalso; simp at h; done) | subst h)
      all_goals
        refine J.exit ?_
        refine Vc ?_
        refine Vc ?_
        refine Vs ?_
        refine JE.ret0 (.inr rfl) O O  ?_
        refine ⟨_, fun w h => ?_, vs, by rw [h0] at hp; simpa using hp, rfl⟩
        have s1 := Sat.rot (p := [_]) (g := St vs) h.it_end
        have s2 := Sat.rot (p := St vs) (g := [mapA (Value.int .i64) (fun _ => True) mp m, row b 134 [.map (some mp)]]) s1
        exact s2.sup zsup
    all_goals refine Jb ?_
    all_goals
      refine Vj ?_
      refine Jh ?_
      refine Jc ?_
      refine Ja (y_entry rfl zpk) O O O ?_
      refine Ja (Jy O O) O O O (Ja (Jd rfl) O O O ?_)
      refine Jg ?_
      refine Jb ?_
      refine Jh ?_
      refine Jc ?_
      have hlen : vs.length < m.length := by
        have := hp.length_eq
        rw [he] at this
        simp at this
        omega
      refine Ja (Je rfl) O O O (Ja (Je rfl) O O O ?_)
      refine JL.yield O O O (Yc.imp (hy _ vs a hlen) (fun w h => Sat.rot (p := [_]) (g := St vs) h)) ?_
      rintro _ _ ⟨rfl, rfl⟩
      all_goals (refine Ja (y_not rfl) O O O ?_)
      all_goals refine Jg ?_
      all_goals refine Jb ?_
      all_goals
        refine Vf rfl zbl ?_
        refine Ve ?_
      all_goals refine Jv ?_
  all_goals
    exact Vy (s := (vs, rest, cur)) (vs ++ [a], r1 ++ r2, some (a, v)) (by
      dsimp only
      refine List.Perm.trans ?_ hp
      rw [he]
      simp only [List.map_append, List.map_cons, List.append_assoc, List.cons_append, List.nil_append]
      exact List.Perm.append_left vs List.perm_middle.symm) ⟨O, O, O, trivial⟩ (fun w h => h) (by dsimp only; rw [he]; simp)
def keysME (bo : Nat) (vs : List Int) : HProp := pk fun q : Option Addr × Nat => [row bo 143 [.slice q.1 vs.length q.2], own 3 1 (.slice q.1 vs.length q.2) vs.length (vs.map (Value.int .i64))]
theorem aseqE (b mp : Nat) (m : List (Int × Value)) (l : List HProp) (hm : m.length ≤ 12) :
    Fc prog E 181 [.slice none 0 0, .func (.func 161) #[] [Value.pointer (some ⟨b, 0, none⟩)].toArray].toArray (row b 134 [.map (some mp)] :: mapA (Value.int .i64) (fun _ => True) mp m :: l)
      (fun v l' => ∃ (vs : List Int) (a : Option Addr) (c : Nat), vs.Perm (m.map (·.1)) ∧ v = .slice a vs.length c ∧ l' = own 3 1 v vs.length (vs.map (Value.int .i64)) :: row b 134 [.map (some mp)] :: mapA (Value.int .i64) (fun _ => True) mp m :: l) := by
  refine Wi ?_
  refine Fc.of_bodyM (c := ?codeC) Tryz.func181 ?hb Tryz.ntmps181 ?hl ?_
  case hb => exact rfl
  case hl => exact rfl
  refine Jh ?_
  refine Jc ?_
  refine Jj rfl (l_box rfl zcl rfl (fun b1 => ?_))
  refine Ja (Jd rfl) O O O ?_
  refine Jg ?_
  refine Jb ?_
  refine Jh ?_
  refine Jh ?_
  refine Jc ?_
  refine Ja (Je rfl) O O O ?_
  refine Jg ?_
  refine Jb ?_
  refine Vj ?_
  refine J.rangeFunc e161 rfl fun fn a0 k DD K hK hf0 => ?_
  refine Fc.mono (Fc.imp (mkeysE_each E k b mp m (fun vs => [keysME b1 vs, K .ready none, blk DD (.deferred (some []))]) l (fun fr vs a hlt => ?hy)) ?hi) ?hm
  case hi =>
    intro w s
    have s2 := s.own_nil (e := 3) (size := 1)
    have s3 := s2.divide (p := [row b1 143 [.slice none 0 0], own 3 1 (.slice none 0 0) 0 []]) (Ji zpk (Ji zpk Jl))
    have s5 : Sat E (stars (keysME b1 [] :: _)) w := s3.topk (none, 0)
    exact s5.sup zsup
  case hy =>
    unfold keysME
    refine Yc.split (p := [pk _]) (Yc.pks fun q => ?_) (Ji Jp Jl)
    obtain ⟨qa, qc⟩ := q
    dsimp only
    refine Yc.split (p := [K .ready none]) ?_ (Ji zpk Jl)
    refine Yc.post ?_
    refine Yc.of_body hK hf0 rfl (by decide) ?_
    refine Jc ?_
    refine Ja (Jd rfl) O O O ?_
    refine Jg ?_
    refine JE.assigned zpk ?_
    refine Vj ?_
    refine Jc ?_
    refine Ja (Jo hT O O O zrd) O O O ?_
    refine Ja (Je rfl) O O O ?_
    refine Jj rfl (l_buildSliceP hT O O O O O O O zfl rfl (fun b2 => ?_))
    refine Jj rfl (l_append hT O O O O O O O O zpk zrdn zln zoc (by rw [show i3.bytes = 8 from rfl]; omega) (by omega) rfl (fun na nc hnc => ?_))
    refine Jj rfl (Vw hT O O O O O zpk zix ?_)
    refine Jg ?_
    refine Jv ?_
    all_goals
      refine JE.round_on hK zpk ?_
      refine ⟨[keysME b1 (vs ++ [a]), K .ready none, blk DD (.deferred (some []))] ++ fr, fun w q => ?_, rfl, rfl⟩
      have q1 := q.sup (p := row b1 143 [.slice na (vs.length + 1) nc] :: own 3 1 (.slice na (vs.length + 1) nc) (vs.length + 1) (vs.map (Value.int .i64) ++ [(Value.int .i64) a]) :: K .ready none :: blk DD (.deferred (some [])) :: fr) zsup
      refine Sat.topk (F := fun q : Option Addr × Nat => [row b1 143 [.slice q.1 (vs ++ [a]).length q.2], own 3 1 (.slice q.1 (vs ++ [a]).length q.2) (vs ++ [a]).length ((vs ++ [a]).map (Value.int .i64))]) (na, nc) ?_
      dsimp only
      rw [List.length_append, List.map_append]
      exact q1
  case hm =>
    rintro _ _ ⟨vs, hvp, rfl⟩
    refine ⟨.ready, none, _, by (repeat (first | exact Jp | apply Jx | apply Vn)), by simp, ?_⟩
    dsimp only
    unfold keysME
    refine JE.picks (Jx (Jx Jp)) (JE.pks fun q => ?_)
    obtain ⟨qa, qc⟩ := q
    dsimp only
    refine Jv ?_
    refine Jb ?_
    refine Jh ?_
    refine Jc ?_
    refine Ja (Jo hT O O O zrd) O O O ?_
    refine Ja (Jd rfl) O O O ?_
    refine Jg ?_
    refine Jb ?_
    refine Vl ?_
    first | refine JE.unmark (.inl rfl) rfl zpk ?_ | refine JE.nomark (.inl rfl) rfl ?_
    refine Vk (.inl rfl) O O zrv ?_
    exact ⟨_, fun w h => h.sup zsup, vs, qa, qc, hvp, rfl, rfl⟩
theorem collectE (b mp : Nat) (m : List (Int × Value)) (l : List HProp) (hm : m.length ≤ 12) :
    Fc prog E 159 [.func (.func 161) #[] [Value.pointer (some ⟨b, 0, none⟩)].toArray].toArray (row b 134 [.map (some mp)] :: mapA (Value.int .i64) (fun _ => True) mp m :: l)
      (fun v l' => ∃ (vs : List Int) (a : Option Addr) (c : Nat), vs.Perm (m.map (·.1)) ∧ v = .slice a vs.length c ∧ l' = own 3 1 v vs.length (vs.map (Value.int .i64)) :: row b 134 [.map (some mp)] :: mapA (Value.int .i64) (fun _ => True) mp m :: l) := by
  refine Wi ?_
  refine Jt (c := ?codeC) Tryz.func159 ?hb Tryz.ntmps159 ?hl ?_
  case hb => exact rfl
  case hl => exact rfl
  refine Jh ?_
  refine Jc ?_
  refine Ja (Jd rfl) O O O ?_
  refine Jg ?_
  refine Jb ?_
  refine Jh ?_
  refine Jc ?_
  refine Ja (Je rfl) O O O ?_
  refine Jj rfl (Js e181 O O (aseqE E b mp m _ hm) ?_)
  rintro _ _ ⟨vs, a, c, h1, rfl, rfl⟩
  refine Ja (Jd rfl) O O O ?_
  refine Jg ?_
  refine Jb ?_
  refine Vl ?_
  refine Vk (.inl rfl) O O zrv ?_
  exact ⟨_, fun w h => h.sup zsup, vs, a, c, h1, rfl, rfl⟩
/-- slices.Sorted(maps.Keys(m)). -/
theorem sortedE (hS : Sort.SWO Sort.ltInt) (b mp : Nat) (m : List (Int × Value)) (l : List HProp) (hm : m.length ≤ 12) :
    Fc prog E 112 [.func (.func 161) #[] [Value.pointer (some ⟨b, 0, none⟩)].toArray].toArray (row b 134 [.map (some mp)] :: mapA (Value.int .i64) (fun _ => True) mp m :: l)
      (fun v l' => ∃ (vs : List Int) (a : Option Addr) (c : Nat), vs.Perm (m.map (·.1)) ∧ (vs.Pairwise fun x y => Sort.ltInt y x = false) ∧ v = .slice a vs.length c ∧ l' = own 3 1 v vs.length (vs.map (Value.int .i64)) :: row b 134 [.map (some mp)] :: mapA (Value.int .i64) (fun _ => True) mp m :: l) := by
  refine Wi ?_
  refine Jt (c := ?codeC) Tryz.func112 ?hb Tryz.ntmps112 ?hl ?_
  case hb => exact rfl
  case hl => exact rfl
  refine Jh ?_
  refine Jc ?_
  refine Ja (Jd rfl) O O O ?_
  refine Jg ?_
  refine Jb ?_
  refine Jh ?_
  refine Jc ?_
  refine Ja (Je rfl) O O O ?_
  refine Jj rfl (Js e159 O O (collectE E b mp m _ hm) ?_)
  rintro _ _ ⟨vs, a, c, h1, rfl, rfl⟩
  refine Ja (Jd rfl) O O O ?_
  refine Jg ?_
  refine Jb ?_
  refine Jh ?_
  refine Jc ?_
  have hvl := h1.length_eq
  rw [List.length_map] at hvl
  refine Ja (Je rfl) O O O ?_
  refine Jj rfl (Js e160 O O (Wj (Ji zpk Jl) (sortK E hS vs.length _ vs _ rfl (by omega))) ?_)
  rintro _ _ ⟨rfl, ys, h2, h3, rfl⟩
  refine Jg ?_
  refine Jb ?_
  refine Jh ?_
  refine Jc ?_
  refine Ja (Je rfl) O O O (Ja (Jd rfl) O O O ?_)
  refine Jg ?_
  refine Jb ?_
  refine Vl ?_
  refine Vk (.inl rfl) O O zrv ?_
  rw [← h2.length_eq]
  exact ⟨_, fun w h => h.sup zsup, ys, a, c, h2.trans h1, h3, rfl, rfl⟩
end
end Go.Proofs.YtimekohdlofmaaaGreat
/- Onions collected. -/
namespace Go.Proofs.YtimekohdlofmaaaGreat
open Go Go.SL
section
/-- Keys and values side by side. -/
def kvs (o : List (Int × List Int)) (vals : List Value) : List (Int × Value) := List.zipWith (fun p v => (p.1, v)) o vals
theorem kvs_none {k : Int} : ∀ {o : List (Int × List Int)} {vals : List Value}, (∀ p ∈ o, p.1 ≠ k) → mlook (kvs o vals) k = none
  | [], _, _ => by simp [kvs, mlook]
  | _ :: _, [], _ => by simp [kvs, mlook]
  | p :: o, v :: vals, h => by
    have h1 := h p (by simp)
    have h2 := kvs_none (o := o) (vals := vals) (k := k) fun q hq => h q (by simp [hq])
    unfold kvs at h2 ⊢
    rw [List.zipWith_cons_cons, mlook, if_neg (fun e => h1 e.symm)]
    exact h2
theorem kvs_there {k : Int} : ∀ {o : List (Int × List Int)} {vals : List Value}, vals.length = o.length → (∃ p ∈ o, p.1 = k) → ∃ v, mlook (kvs o vals) k = some v
  | [], _, _, ⟨_, h, _⟩ => by simp at h
  | _ :: _, [], h, _ => by simp at h
  | p :: o, v :: vals, h, ⟨q, hq, he⟩ => by
    by_cases hk : k = p.1
    · exact ⟨v, by unfold kvs; rw [List.zipWith_cons_cons, mlook, if_pos hk]⟩
    · obtain ⟨u, hu⟩ := kvs_there (o := o) (vals := vals) (k := k) (by simpa using h) ⟨q, (List.mem_cons.1 hq).resolve_left (fun e => hk (by rw [← he, e])), he⟩
      refine ⟨u, ?_⟩
      unfold kvs at hu ⊢
      rw [List.zipWith_cons_cons, mlook, if_neg hk, hu]
theorem kvs_some {k : Int} : ∀ {o : List (Int × List Int)} {vals : List Value} {i : Nat} {b : List Int} {v : Value}, (o.map (·.1)).Nodup → o[i]? = some (k, b) → vals[i]? = some v → mlook (kvs o vals) k = some v
  | [], _, _, _, _, _, h, _ => by simp at h
  | _ :: _, [], _, _, _, _, _, h => by simp at h
  | p :: o, u :: vals, 0, b, v, _, h1, h2 => by
    simp only [List.getElem?_cons_zero, Option.some.injEq] at h1 h2
    subst h1 h2
    unfold kvs
    rw [List.zipWith_cons_cons, mlook, if_pos rfl]
  | p :: o, u :: vals, i + 1, b, v, hn, h1, h2 => by
    simp only [List.getElem?_cons_succ] at h1 h2
    rw [List.map_cons, List.nodup_cons] at hn
    have h3 := kvs_some hn.2 h1 h2
    unfold kvs at h3 ⊢
    rw [List.zipWith_cons_cons, mlook, if_neg, h3]
    rintro rfl
    exact hn.1 (List.mem_map.2 ⟨_, List.mem_of_getElem? h1, rfl⟩)
theorem mput_new {α : Type} [DecidableEq α] {a : α} {v : Value} : ∀ {l : List (α × Value)}, mlook l a = none → mput l a v = l ++ [(a, v)]
  | [], _ => rfl
  | (b, u) :: r, h => by
    rw [mlook] at h
    split at h
    · cases h
    · rename_i hab
      rw [mput, if_neg hab, mput_new h]
      rfl
theorem kvs_snoc {o : List (Int × List Int)} {vals : List Value} (h : vals.length = o.length) (k : Int) (b : List Int) (v : Value) : kvs (o ++ [(k, b)]) (vals ++ [v]) = kvs o vals ++ [(k, v)] := by
  unfold kvs
  rw [List.zipWith_append h.symm]
  rfl
theorem kvs_keys {o : List (Int × List Int)} {vals : List Value} (h : vals.length = o.length) : (kvs o vals).map (·.1) = o.map (·.1) := by
  induction o generalizing vals with
  | nil => simp [kvs]
  | cons p o ih =>
    cases vals with
    | nil => simp at h
    | cons v vals =>
      have h2 := ih (vals := vals) (by simpa using h)
      unfold kvs at h2 ⊢
      rw [List.zipWith_cons_cons, List.map_cons, h2]
      rfl
theorem kvs_length {o : List (Int × List Int)} {vals : List Value} (h : vals.length = o.length) : (kvs o vals).length = o.length := by
  unfold kvs
  rw [List.length_zipWith]
  omega
/-- What was collected, by places; the places may have come in any order. -/
def gotM (g : Nat) (G : List (Int × List Int)) : HProp := pk fun q : List Value × List (Int × List Int) => [pur (q.2.Perm G ∧ q.1.length = q.2.length), mapA (Value.int .i64) (fun _ => True) g (kvs q.2 q.1)] ++ owns q.1 (q.2.map (·.2))
theorem gotM_perm {E w : World} {g : Nat} {G G' : List (Int × List Int)} {l : List HProp} (h : G.Perm G') (s : Sat E (stars (gotM g G :: l)) w) : Sat E (stars (gotM g G' :: l)) w := by
  unfold gotM at s ⊢
  obtain ⟨q, s⟩ := s.ofpk
  obtain ⟨⟨h1, h2⟩, s⟩ := Sat.ofpur s
  exact Sat.topk (F := fun q : List Value × List (Int × List Int) => [pur (q.2.Perm G' ∧ q.1.length = q.2.length), mapA (Value.int .i64) (fun _ => True) g (kvs q.2 q.1)] ++ owns q.1 (q.2.map (·.2))) q (Sat.topur ⟨h1.trans h, h2⟩ s)
theorem gotM_new {E w : World} {g : Nat} {l : List HProp} (s : Sat E (stars (blk g (.map #[] 0) :: l)) w) : Sat E (stars (gotM g [] :: l)) w := by
  have s2 : Sat E (stars (mapA (Value.int .i64) (fun _ => True) g [] :: l)) w := s.map_new
  unfold gotM
  exact Sat.topk (F := fun q : List Value × List (Int × List Int) => [pur (q.2.Perm [] ∧ q.1.length = q.2.length), mapA (Value.int .i64) (fun _ => True) g (kvs q.2 q.1)] ++ owns q.1 (q.2.map (·.2))) ([], []) (Sat.topur ⟨List.Perm.refl _, rfl⟩ s2)
end
theorem gotM_shut {E w : World} {g : Nat} {G o : List (Int × List Int)} {vals : List Value} {l : List HProp} (h1 : o.Perm G) (h2 : vals.length = o.length) (s : Sat E (stars (mapA (Value.int .i64) (fun _ => True) g (kvs o vals) :: (owns vals (o.map (·.2)) ++ l))) w) : Sat E (stars (gotM g G :: l)) w := by
  unfold gotM
  exact Sat.topk (F := fun q : List Value × List (Int × List Int) => [pur (q.2.Perm G ∧ q.1.length = q.2.length), mapA (Value.int .i64) (fun _ => True) g (kvs q.2 q.1)] ++ owns q.1 (q.2.map (·.2))) (vals, o) (Sat.topur ⟨h1, h2⟩ s)
theorem Fc.purs {P : Program} {E : World} {l : List HProp} {f : FuncId} {args : Array Value} {R : Value → List HProp → Prop} {p : Prop} (h : p → Fc P E f args l R) : Fc P E f args (pur p :: l) R := fun w hs => let ⟨hp, s⟩ := hs.ofpur; h hp w s
theorem Fc.gotM {P : Program} {E : World} {l : List HProp} {f : FuncId} {args : Array Value} {R : Value → List HProp → Prop} {g : Nat} {G : List (Int × List Int)} (h : ∀ vals o, o.Perm G → vals.length = o.length → Fc P E f args (mapA (Value.int .i64) (fun _ => True) g (kvs o vals) :: (owns vals (o.map (·.2)) ++ l)) R) : Fc P E f args (gotM g G :: l) R := by
  unfold Go.Proofs.YtimekohdlofmaaaGreat.gotM
  exact Fc.pks fun q => Fc.purs fun ⟨h1, h2⟩ => h q.1 q.2 h1 h2
section
attribute [local irreducible] J JL JE JM LS Y Fc RV Code.wp wpList Code.wpIn wpListIn
attribute [local irreducible] Yc
variable (E : World)
/-- What a packet's onion is kept under. -/
def placeN (bs : List Int) : Int := bs.getD 1 0 * 3 + bs.getD 2 0
def roundN (bs : List Int) : BitVec 64 := leG ((bs.drop 3).take 8) 8
def colE (last : BitVec 64) (hops : Int) (G : List (Int × List Int)) (bs : List Int) : Int :=
  if upE bs ≠ 0 then upE bs else if ((bs.length - 11 : Nat) : Int) ≠ onionN hops then 240 else if roundN bs ≠ last then 291 else if ∃ p ∈ G, p.1 = placeN bs then 5 else 0
def colG (last : BitVec 64) (hops : Int) (G : List (Int × List Int)) (bs : List Int) : List (Int × List Int) := if colE last hops G bs = 0 then (placeN bs, bs.drop 11) :: G else G
theorem upE_zero {bs : List Int} (h : upE bs = 0) : onionB ((bs.length : Int) - 11) = true ∧ bs.getD 0 0 = 2 ∧ endsB (bs.getD 1 0) (bs.getD 2 0) (roundN bs) = true := by
  unfold upE at h
  split at h
  · cases h
  · rename_i h1
    split at h
    · cases h
    · rename_i h2
      refine ⟨by simpa using h1, ?_, ?_⟩
      · by_cases q : bs.getD 0 0 = 2
        · exact q
        · exact absurd (.inl q) h2
      · cases q : endsB (bs.getD 1 0) (bs.getD 2 0) (roundN bs) with
        | true => rfl
        | false => exact absurd (.inr q) h2
theorem ecollect_spec (x lg g : Nat) (last : BitVec 64) (hops : Int) (G : List (Int × List Int)) (p : Option Addr) (cap n : Nat) (bs : List Int) (l : List HProp) (hn : bs.length = n) (hn2 : n ≤ 1073741824) (hb : Bytes bs) (hin : InL l p n cap (ints .u8 bs)) :
    Fc prog E 20 [.pointer (some ⟨x, 0, none⟩), .slice p n cap].toArray (entR x lg false last 1 hops (.map (some g)) :: gotM g G :: l) (fun v l' => v = .int .i64 (colE last hops G bs) ∧ l' = entR x lg false last 1 hops (.map (some g)) :: gotM g (colG last hops G bs) :: l) := by
  refine Wj (p := [gotM g G]) (Ji (Jx Jp) Jl) (Fc.gotM fun vals o hperm hvl => ?_)
  refine Fc.eqs ?_
  have hin2 := (((hin.cons (entR x lg false last 1 hops (.map (some g)))).app (owns vals (o.map (·.2)))).cons (mapA (Value.int .i64) (fun _ => True) g (kvs o vals)))
  have keep : ∀ w, colE last hops G bs ≠ 0 → Sat E (stars (mapA (Value.int .i64) (fun _ => True) g (kvs o vals) :: (owns vals (o.map (·.2)) ++ (entR x lg false last 1 hops (.map (some g)) :: l)))) w → Sat E (stars (entR x lg false last 1 hops (.map (some g)) :: gotM g (colG last hops G bs) :: l)) w := fun w hne s => by
    rw [show colG last hops G bs = G from if_neg hne]
    have s2 : Sat E (stars (gotM g G :: entR x lg false last 1 hops (.map (some g)) :: l)) w := gotM_shut hperm hvl s
    exact s2.sup zsup
  by_cases h0 : upE bs = 0
  · have hgu : ∀ l, InL l p n cap (ints .u8 bs) → Fc prog E 71 [.slice p n cap].toArray l (fun v l' => ∃ a c', v = .tuple #[.agg #[.int .i64 (bs.getD 1 0), .int .i64 (bs.getD 2 0), Q (roundN bs), .slice a (n - 11) c'], .int .i64 0] ∧ l' = own 5 1 (.slice a (n - 11) c') (n - 11) (ints .u8 (bs.drop 11)) :: l) := fun l h => (getup_spec E p cap n bs l hn hn2 hb h).mono fun v l' q => q.elim (fun z => z.2) (fun z => (z.1 h0).elim)
    obtain ⟨ho, _, hends⟩ := upE_zero h0
    have hcs : 0 ≤ bs.getD 1 0 ∧ bs.getD 1 0 < 4 ∧ 0 ≤ bs.getD 2 0 ∧ bs.getD 2 0 < 3 ∧ 0 < (roundN bs).toNat := of_decide_eq_true hends
    by_cases hk : ∃ q ∈ G, q.1 = placeN bs
    · have hlk : ∃ v, mlook (kvs o vals) (placeN bs) = some v := by
        obtain ⟨q, hq1, hq2⟩ := hk
        exact kvs_there hvl ⟨q, hperm.symm.subset hq1, hq2⟩
      obtain ⟨v0, hlk⟩ := hlk
      refine Jt (c := ?codeC) Tryz.func20 ?hb Tryz.ntmps20 ?hl ?_
      case hb => exact rfl
      case hl => exact rfl
      refine Jh ?_
      refine Jc ?_
      refine Ja (Jd rfl) O O O ?_
      refine Jg ?_
      refine Jb ?_
      refine Jh ?_
      refine Vj ?_
      refine Jh ?_
      refine Jc ?_
      refine Ja (Je rfl) O O O (Ja (Vx hT O O O O) O O O (Ja (Jd rfl) O O O ?_))
      refine Jg ?_
      refine Jb ?_
      refine Vf rfl zbl ?_
      refine Jh ?_
      refine Jc ?_
      refine Ja (Je rfl) O O O ?_
      refine Ja ((by first | exact Jq rfl | exact Jm rfl | exact Jn rfl)) O O O ?_
      refine Ja (Jk hT O O O O O O) O O O ?_
      refine Ja (Jo hT O O O zrd) O O O ?_
      refine Ja (Wk O O) O O O (Ja (Jd rfl) O O O ?_)
      refine Jg ?_
      refine Jb ?_
      refine Vf rfl zbl ?_
      refine Ve ?_
      refine Jv ?_
      refine Jb ?_
      refine Jh ?_
      refine Jc ?_
      refine Ja (Je rfl) O O O ?_
      refine Jj rfl (Js e71 O O (hgu _ hin2) ?_)
      rintro _ _ ⟨a, c', rfl, rfl⟩
      refine Ja (Je rfl) O O O (Ja (Jy O O) O O O (Ja (Jy O O) O O O ?_))
      refine Jj rfl (Wa hT O O zcl rfl (fun b2 => ?_))
      refine Jj rfl (Vp hT O O O zln zoc zpk zln ?_)
      refine Ja (Jd rfl) O O O ?_
      refine Jg ?_
      refine Jb ?_
      refine Jh ?_
      refine Jh ?_
      refine Jc ?_
      refine Ja (Je rfl) O O O (Ja (Wk O O) O O O ?_)
      refine Jg ?_
      refine Jb ?_
      refine Vf rfl zbl ?_
      refine Ve ?_
      refine Jb ?_
      refine Jh ?_
      refine Jc ?_
      refine Ja (Jk hT O O O O O O) O O O ?_
      refine Ja (Jo hT O O O zrd) O O O ?_
      refine Ja (y_mul (m := bs.getD 1 0 * 3) O O (We (by omega) (by omega))) O O O ?_
      refine Ja (Jk hT O O O O O O) O O O ?_
      refine Ja (Jo hT O O O zrd) O O O ?_
      refine Ja (Wc (m := placeN bs) O O (We (by omega) (by omega))) O O O ?_
      refine Ja (Jd rfl) O O O ?_
      refine Jg ?_
      refine Jb ?_
      refine Jh ?_
      refine Jc ?_
      refine Ja (Je rfl) O O O ?_
      refine Ja ((by first | exact Jq rfl | exact Jm rfl | exact Jn rfl)) O O O ?_
      refine Ja (Jk hT O O O O O O) O O O ?_
      refine Ja (Jo hT O O O zrd) O O O ?_
      refine Ja (Je rfl) O O O ?_
      refine Ja (y_lookup (a := placeN bs) hT O O O O (keyInt hT O O) O O O trivial zpk) O O O ?_
      rw [hlk]
      refine Ja (Je rfl) O O O (Ja (Jy O O) O O O (Ja (Jy O O) O O O (Ja (Jd rfl) O O O (Ja (Jd rfl) O O O ?_))))
      refine Jg ?_
      refine Jb ?_
      refine Jh ?_
      refine Vj ?_
      refine Jh ?_
      refine Wl _ _ [(0, .q), (1, .q), (2, .q), (3, .q), (4, .q), (5, .q), (6, .q), (7, .q), (8, .q), (9, .q)] mixed (by kernel_rfl) (Jl) ?_
      refine Jf O O O O (fun m => Jk hT O O O O O O) ?_
      refine Jf O O O O (fun m => Jo hT O O O zrda) ?_
      refine Jf O O O O (fun m => Vh hT O O O) ?_
      refine Jf O O O O (fun m => Je rfl) ?_
      refine Jf O O O O (fun m => (by first | exact Jq rfl | exact Jm rfl | exact Jn rfl)) ?_
      refine Jf O O O O (fun m => Jk hT O O O O O O) ?_
      refine Jf O O O O (fun m => Jo hT O O O zrda) ?_
      refine Jf O O O O (fun m => y_callF e23 rfl (onion_spec E hops _)) ?_
      refine Jf O O O O (fun m => Wk O O) ?_
      refine Jf O O O O (fun m => Jd rfl) ?_
      refine Wh ?_
      refine Jb ?_
      first | apply Va rfl | apply Vt rfl
      case' ht =>
        intro h
        try (first | (exfalso; omega) | (cases h; done) | (exfalso; simp at h; done) | subst h)
        all_goals
          have hE : colE last hops G bs = 240 := by
            unfold colE
            rw [if_neg (by rw [h0]; decide), if_pos (by rw [hn]; assumption)]
          refine Jh ?_
          refine Jc ?_
          refine Ja (Jd rfl) O O O ?_
          refine Jg ?_
          refine Jb ?_
          refine Vl ?_
          refine Vr ?_
          refine Jz ?_
          refine Vk (.inl rfl) O O zrv ?_
          first
          | exact ⟨by rw [hE], fun w s => keep w (by rw [hE]; decide) (s.sup zsup)⟩
          | (have hE : colE last hops G bs = 5 := by
               unfold colE
               rw [if_neg (by rw [h0]; decide), if_neg hE4, if_neg hE5, if_pos hk]
             exact ⟨by rw [hE], fun w s => keep w (by rw [hE]; decide) (s.sup zsup)⟩)
      case' hf =>
        intro h
        try (first | (exfalso; omega) | (cases h; done) | (exfalso; simp at h; done) | subst h)
        all_goals
          have hE4 : ¬ ((bs.length - 11 : Nat) : Int) ≠ onionN hops := by rw [hn]; assumption
          refine Jh ?_
          refine Wl _ _ [(0, .q), (1, .q), (2, .q), (3, .q), (4, .q), (5, .q), (6, .q), (7, .q)] mixed (by kernel_rfl) (Jl) ?_
          refine Jf O O O O (fun m => Jk hT O O O O O O) ?_
          refine Jf O O O O (fun m => Jo hT O O O zrda) ?_
          refine Jf O O O O (fun m => Je rfl) ?_
          refine Jf O O O O (fun m => (by first | exact Jq rfl | exact Jm rfl | exact Jn rfl)) ?_
          refine Jf O O O O (fun m => Jk hT O O O O O O) ?_
          refine Jf O O O O (fun m => Jo hT O O O zrda) ?_
          refine Jf O O O O (fun m => Wk O O) ?_
          refine Jf O O O O (fun m => Jd rfl) ?_
          refine Wh ?_
          refine Jb ?_
          first | apply Va rfl | apply Vt rfl
          case' ht =>
            intro h
            try (first | (exfalso; omega) | (cases h; done) | (exfalso; simp at h; done) | subst h)
            all_goals
              have hE : colE last hops G bs = 291 := by
                unfold colE
                rw [if_neg (by rw [h0]; decide), if_neg hE4, if_pos (fun e => h (by rw [e]))]
              refine Jh ?_
              refine Jc ?_
              refine Ja (Jd rfl) O O O ?_
              refine Jg ?_
              refine Jb ?_
              refine Vl ?_
              refine Vr ?_
              refine Jz ?_
              refine Vk (.inl rfl) O O zrv ?_
              first
              | exact ⟨by rw [hE], fun w s => keep w (by rw [hE]; decide) (s.sup zsup)⟩
              | (have hE : colE last hops G bs = 5 := by
                   unfold colE
                   rw [if_neg (by rw [h0]; decide), if_neg hE4, if_neg hE5, if_pos hk]
                 exact ⟨by rw [hE], fun w s => keep w (by rw [hE]; decide) (s.sup zsup)⟩)
          case' hf =>
            intro h
            try (first | (exfalso; omega) | (cases h; done) | (exfalso; simp at h; done) | subst h)
            all_goals
              have hE5 : ¬ roundN bs ≠ last := fun e => e (BitVec.eq_of_toNat_eq (by omega))
              refine Jh ?_
              refine Jc ?_
              refine Ja (Je rfl) O O O (Ja (Jd rfl) O O O ?_)
              refine Jg ?_
              refine Jb ?_
              refine J.cond_t rfl zbl ?_
              refine Jh ?_
              refine Jc ?_
              refine Ja (Jd rfl) O O O ?_
              refine Jg ?_
              refine Jb ?_
              refine Vl ?_
              refine Vr ?_
              refine Jz ?_
              refine Vk (.inl rfl) O O zrv ?_
              first
              | exact ⟨by rw [hE], fun w s => keep w (by rw [hE]; decide) (s.sup zsup)⟩
              | (have hE : colE last hops G bs = 5 := by
                   unfold colE
                   rw [if_neg (by rw [h0]; decide), if_neg hE4, if_neg hE5, if_pos hk]
                 exact ⟨by rw [hE], fun w s => keep w (by rw [hE]; decide) (s.sup zsup)⟩)
    · have hlk : mlook (kvs o vals) (placeN bs) = none := kvs_none fun q hq e => hk ⟨q, hperm.subset hq, e⟩
      refine Jt (c := ?codeC) Tryz.func20 ?hb Tryz.ntmps20 ?hl ?_
      case hb => exact rfl
      case hl => exact rfl
      refine Jh ?_
      refine Jc ?_
      refine Ja (Jd rfl) O O O ?_
      refine Jg ?_
      refine Jb ?_
      refine Jh ?_
      refine Vj ?_
      refine Jh ?_
      refine Jc ?_
      refine Ja (Je rfl) O O O (Ja (Vx hT O O O O) O O O (Ja (Jd rfl) O O O ?_))
      refine Jg ?_
      refine Jb ?_
      refine Vf rfl zbl ?_
      refine Jh ?_
      refine Jc ?_
      refine Ja (Je rfl) O O O ?_
      refine Ja ((by first | exact Jq rfl | exact Jm rfl | exact Jn rfl)) O O O ?_
      refine Ja (Jk hT O O O O O O) O O O ?_
      refine Ja (Jo hT O O O zrd) O O O ?_
      refine Ja (Wk O O) O O O (Ja (Jd rfl) O O O ?_)
      refine Jg ?_
      refine Jb ?_
      refine Vf rfl zbl ?_
      refine Ve ?_
      refine Jv ?_
      refine Jb ?_
      refine Jh ?_
      refine Jc ?_
      refine Ja (Je rfl) O O O ?_
      refine Jj rfl (Js e71 O O (hgu _ hin2) ?_)
      rintro _ _ ⟨a, c', rfl, rfl⟩
      refine Ja (Je rfl) O O O (Ja (Jy O O) O O O (Ja (Jy O O) O O O ?_))
      refine Jj rfl (Wa hT O O zcl rfl (fun b2 => ?_))
      refine Jj rfl (Vp hT O O O zln zoc zpk zln ?_)
      refine Ja (Jd rfl) O O O ?_
      refine Jg ?_
      refine Jb ?_
      refine Jh ?_
      refine Jh ?_
      refine Jc ?_
      refine Ja (Je rfl) O O O (Ja (Wk O O) O O O ?_)
      refine Jg ?_
      refine Jb ?_
      refine Vf rfl zbl ?_
      refine Ve ?_
      refine Jb ?_
      refine Jh ?_
      refine Jc ?_
      refine Ja (Jk hT O O O O O O) O O O ?_
      refine Ja (Jo hT O O O zrd) O O O ?_
      refine Ja (y_mul (m := bs.getD 1 0 * 3) O O (We (by omega) (by omega))) O O O ?_
      refine Ja (Jk hT O O O O O O) O O O ?_
      refine Ja (Jo hT O O O zrd) O O O ?_
      refine Ja (Wc (m := placeN bs) O O (We (by omega) (by omega))) O O O ?_
      refine Ja (Jd rfl) O O O ?_
      refine Jg ?_
      refine Jb ?_
      refine Jh ?_
      refine Jc ?_
      refine Ja (Je rfl) O O O ?_
      refine Ja ((by first | exact Jq rfl | exact Jm rfl | exact Jn rfl)) O O O ?_
      refine Ja (Jk hT O O O O O O) O O O ?_
      refine Ja (Jo hT O O O zrd) O O O ?_
      refine Ja (Je rfl) O O O ?_
      refine Ja (y_lookup (a := placeN bs) hT O O O O (keyInt hT O O) O O O trivial zpk) O O O ?_
      rw [hlk]
      refine Ja (Je rfl) O O O (Ja (Jy O O) O O O (Ja (Jy O O) O O O (Ja (Jd rfl) O O O (Ja (Jd rfl) O O O ?_))))
      refine Jg ?_
      refine Jb ?_
      refine Jh ?_
      refine Vj ?_
      refine Jh ?_
      refine Wl _ _ [(0, .q), (1, .q), (2, .q), (3, .q), (4, .q), (5, .q), (6, .q), (7, .q), (8, .q), (9, .q)] mixed (by kernel_rfl) (Jl) ?_
      refine Jf O O O O (fun m => Jk hT O O O O O O) ?_
      refine Jf O O O O (fun m => Jo hT O O O zrda) ?_
      refine Jf O O O O (fun m => Vh hT O O O) ?_
      refine Jf O O O O (fun m => Je rfl) ?_
      refine Jf O O O O (fun m => (by first | exact Jq rfl | exact Jm rfl | exact Jn rfl)) ?_
      refine Jf O O O O (fun m => Jk hT O O O O O O) ?_
      refine Jf O O O O (fun m => Jo hT O O O zrda) ?_
      refine Jf O O O O (fun m => y_callF e23 rfl (onion_spec E hops _)) ?_
      refine Jf O O O O (fun m => Wk O O) ?_
      refine Jf O O O O (fun m => Jd rfl) ?_
      refine Wh ?_
      refine Jb ?_
      first | apply Va rfl | apply Vt rfl
      case' ht =>
        intro h
        try (first | (exfalso; omega) | (cases h; done) | (exfalso; simp at h; done) | subst h)
        all_goals
          have hE : colE last hops G bs = 240 := by
            unfold colE
            rw [if_neg (by rw [h0]; decide), if_pos (by rw [hn]; assumption)]
          refine Jh ?_
          refine Jc ?_
          refine Ja (Jd rfl) O O O ?_
          refine Jg ?_
          refine Jb ?_
          refine Vl ?_
          refine Vr ?_
          refine Jz ?_
          refine Vk (.inl rfl) O O zrv ?_
          first
          | exact ⟨by rw [hE], fun w s => keep w (by rw [hE]; decide) (s.sup zsup)⟩
          | (have hE : colE last hops G bs = 0 := by
               unfold colE
               rw [if_neg (by rw [h0]; decide), if_neg hE4, if_neg hE5, if_neg hk]
             refine ⟨by rw [hE], fun w s => ?_⟩
             rw [show colG last hops G bs = (placeN bs, bs.drop 11) :: G from if_pos hE]
             rw [mput_new hlk, ← kvs_snoc hvl (placeN bs) (bs.drop 11)] at s
             have hnl : (bs.drop 11).length = n - 11 := by simp [hn]
             have s1 := s.sup (p := own 5 1 (.slice a (n - 11) c') (n - 11) (ints .u8 (bs.drop 11)) :: mapA (Value.int .i64) (fun _ => True) g (kvs (o ++ [(placeN bs, bs.drop 11)]) (vals ++ [.slice a (n - 11) c'])) :: (owns vals (o.map (·.2)) ++ (entR x lg false last 1 hops (.map (some g)) :: l))) zsup
             have s2 := Sat.rot (p := [own 5 1 (.slice a (n - 11) c') (n - 11) (ints .u8 (bs.drop 11))]) (g := mapA (Value.int .i64) (fun _ => True) g (kvs (o ++ [(placeN bs, bs.drop 11)]) (vals ++ [.slice a (n - 11) c'])) :: owns vals (o.map (·.2))) s1
             have s3 := gotM_shut (o := o ++ [(placeN bs, bs.drop 11)]) (vals := vals ++ [.slice a (n - 11) c']) (G := (placeN bs, bs.drop 11) :: G) (l := entR x lg false last 1 hops (.map (some g)) :: l) (List.perm_append_comm.trans (List.Perm.cons _ hperm)) (by simp [hvl]) (by
               rw [List.map_append, List.map_cons, List.map_nil, owns_snoc _ _ _ _ (by rw [List.length_map]; exact hvl), hnl, List.append_assoc]
               exact s2)
             exact s3.sup zsup)
      case' hf =>
        intro h
        try (first | (exfalso; omega) | (cases h; done) | (exfalso; simp at h; done) | subst h)
        all_goals
          have hE4 : ¬ ((bs.length - 11 : Nat) : Int) ≠ onionN hops := by rw [hn]; assumption
          refine Jh ?_
          refine Wl _ _ [(0, .q), (1, .q), (2, .q), (3, .q), (4, .q), (5, .q), (6, .q), (7, .q)] mixed (by kernel_rfl) (Jl) ?_
          refine Jf O O O O (fun m => Jk hT O O O O O O) ?_
          refine Jf O O O O (fun m => Jo hT O O O zrda) ?_
          refine Jf O O O O (fun m => Je rfl) ?_
          refine Jf O O O O (fun m => (by first | exact Jq rfl | exact Jm rfl | exact Jn rfl)) ?_
          refine Jf O O O O (fun m => Jk hT O O O O O O) ?_
          refine Jf O O O O (fun m => Jo hT O O O zrda) ?_
          refine Jf O O O O (fun m => Wk O O) ?_
          refine Jf O O O O (fun m => Jd rfl) ?_
          refine Wh ?_
          refine Jb ?_
          first | apply Va rfl | apply Vt rfl
          case' ht =>
            intro h
            try (first | (exfalso; omega) | (cases h; done) | (exfalso; simp at h; done) | subst h)
            all_goals
              have hE : colE last hops G bs = 291 := by
                unfold colE
                rw [if_neg (by rw [h0]; decide), if_neg hE4, if_pos (fun e => h (by rw [e]))]
              refine Jh ?_
              refine Jc ?_
              refine Ja (Jd rfl) O O O ?_
              refine Jg ?_
              refine Jb ?_
              refine Vl ?_
              refine Vr ?_
              refine Jz ?_
              refine Vk (.inl rfl) O O zrv ?_
              first
              | exact ⟨by rw [hE], fun w s => keep w (by rw [hE]; decide) (s.sup zsup)⟩
              | (have hE : colE last hops G bs = 0 := by
                   unfold colE
                   rw [if_neg (by rw [h0]; decide), if_neg hE4, if_neg hE5, if_neg hk]
                 refine ⟨by rw [hE], fun w s => ?_⟩
                 rw [show colG last hops G bs = (placeN bs, bs.drop 11) :: G from if_pos hE]
                 rw [mput_new hlk, ← kvs_snoc hvl (placeN bs) (bs.drop 11)] at s
                 have hnl : (bs.drop 11).length = n - 11 := by simp [hn]
                 have s1 := s.sup (p := own 5 1 (.slice a (n - 11) c') (n - 11) (ints .u8 (bs.drop 11)) :: mapA (Value.int .i64) (fun _ => True) g (kvs (o ++ [(placeN bs, bs.drop 11)]) (vals ++ [.slice a (n - 11) c'])) :: (owns vals (o.map (·.2)) ++ (entR x lg false last 1 hops (.map (some g)) :: l))) zsup
                 have s2 := Sat.rot (p := [own 5 1 (.slice a (n - 11) c') (n - 11) (ints .u8 (bs.drop 11))]) (g := mapA (Value.int .i64) (fun _ => True) g (kvs (o ++ [(placeN bs, bs.drop 11)]) (vals ++ [.slice a (n - 11) c'])) :: owns vals (o.map (·.2))) s1
                 have s3 := gotM_shut (o := o ++ [(placeN bs, bs.drop 11)]) (vals := vals ++ [.slice a (n - 11) c']) (G := (placeN bs, bs.drop 11) :: G) (l := entR x lg false last 1 hops (.map (some g)) :: l) (List.perm_append_comm.trans (List.Perm.cons _ hperm)) (by simp [hvl]) (by
                   rw [List.map_append, List.map_cons, List.map_nil, owns_snoc _ _ _ _ (by rw [List.length_map]; exact hvl), hnl, List.append_assoc]
                   exact s2)
                 exact s3.sup zsup)
          case' hf =>
            intro h
            try (first | (exfalso; omega) | (cases h; done) | (exfalso; simp at h; done) | subst h)
            all_goals
              have hE5 : ¬ roundN bs ≠ last := fun e => e (BitVec.eq_of_toNat_eq (by omega))
              refine Jh ?_
              refine Jc ?_
              refine Ja (Je rfl) O O O (Ja (Jd rfl) O O O ?_)
              refine Jg ?_
              refine Jb ?_
              refine Vf rfl zbl ?_
              refine Ve ?_
      all_goals refine Jv ?_
      all_goals refine Jb ?_
      all_goals
        refine Jh ?_
        refine Wl _ _ [(0, .q), (1, .q), (2, .q), (3, .q), (4, .q), (5, .q), (6, .q), (7, .l)] mixed (by kernel_rfl) (Ji (Jx (Jx Jp)) (Jl)) ?_
        refine Jf O O O O (fun m => Je rfl) ?_
        refine Jf O O O O (fun m => (by first | exact Jq rfl | exact Jm rfl | exact Jn rfl)) ?_
        refine Jf O O O O (fun m => Jk hT O O O O O O) ?_
        refine Jf O O O O (fun m => Jo hT O O O zrda) ?_
        refine Jf O O O O (fun m => Je rfl) ?_
        refine Jf O O O O (fun m => Jk hT O O O O O O) ?_
        refine Jf O O O O (fun m => Jo hT O O O zrda) ?_
        refine Wf O O (fun fr => l_mapUpdate (a := placeN bs) hT O O (keyInt hT O O) O O O O trivial zpk ⟨[_], (by (repeat (first | exact Jl | exact Vu | refine Ji Jp ?_))), ?_⟩)
        refine Wh ?_
        refine Jb ?_
        refine Jh ?_
        refine Jc ?_
        refine Ja (Jd rfl) O O O ?_
        refine Jg ?_
        refine Jb ?_
        refine Vl ?_
        refine Vk (.inl rfl) O O zrv ?_
        first
        | exact ⟨by rw [hE], fun w s => keep w (by rw [hE]; decide) (s.sup zsup)⟩
        | (have hE : colE last hops G bs = 0 := by
             unfold colE
             rw [if_neg (by rw [h0]; decide), if_neg hE4, if_neg hE5, if_neg hk]
           refine ⟨by rw [hE], fun w s => ?_⟩
           rw [show colG last hops G bs = (placeN bs, bs.drop 11) :: G from if_pos hE]
           rw [mput_new hlk, ← kvs_snoc hvl (placeN bs) (bs.drop 11)] at s
           have hnl : (bs.drop 11).length = n - 11 := by simp [hn]
           have s1 := s.sup (p := own 5 1 (.slice a (n - 11) c') (n - 11) (ints .u8 (bs.drop 11)) :: mapA (Value.int .i64) (fun _ => True) g (kvs (o ++ [(placeN bs, bs.drop 11)]) (vals ++ [.slice a (n - 11) c'])) :: (owns vals (o.map (·.2)) ++ (entR x lg false last 1 hops (.map (some g)) :: l))) zsup
           have s2 := Sat.rot (p := [own 5 1 (.slice a (n - 11) c') (n - 11) (ints .u8 (bs.drop 11))]) (g := mapA (Value.int .i64) (fun _ => True) g (kvs (o ++ [(placeN bs, bs.drop 11)]) (vals ++ [.slice a (n - 11) c'])) :: owns vals (o.map (·.2))) s1
           have s3 := gotM_shut (o := o ++ [(placeN bs, bs.drop 11)]) (vals := vals ++ [.slice a (n - 11) c']) (G := (placeN bs, bs.drop 11) :: G) (l := entR x lg false last 1 hops (.map (some g)) :: l) (List.perm_append_comm.trans (List.Perm.cons _ hperm)) (by simp [hvl]) (by
             rw [List.map_append, List.map_cons, List.map_nil, owns_snoc _ _ _ _ (by rw [List.length_map]; exact hvl), hnl, List.append_assoc]
             exact s2)
           exact s3.sup zsup)
  · have hgu : ∀ l, InL l p n cap (ints .u8 bs) → Fc prog E 71 [.slice p n cap].toArray l (fun v l' => v = .tuple #[.agg #[.int .i64 0, .int .i64 0, .int .u64 0, .slice none 0 0], .int .i64 (upE bs)] ∧ l' = l) := fun l h => (getup_spec E p cap n bs l hn hn2 hb h).mono fun v l' q => q.elim (fun z => (h0 z.1).elim) (fun z => z.2)
    have hE : colE last hops G bs = upE bs := if_pos h0
    have hd : decide (¬ upE bs = 0) = true := decide_eq_true h0
    refine Jt (c := ?codeC) Tryz.func20 ?hb Tryz.ntmps20 ?hl ?_
    case hb => exact rfl
    case hl => exact rfl
    refine Jh ?_
    refine Jc ?_
    refine Ja (Jd rfl) O O O ?_
    refine Jg ?_
    refine Jb ?_
    refine Jh ?_
    refine Vj ?_
    refine Jh ?_
    refine Jc ?_
    refine Ja (Je rfl) O O O (Ja (Vx hT O O O O) O O O (Ja (Jd rfl) O O O ?_))
    refine Jg ?_
    refine Jb ?_
    refine Vf rfl zbl ?_
    refine Jh ?_
    refine Jc ?_
    refine Ja (Je rfl) O O O ?_
    refine Ja ((by first | exact Jq rfl | exact Jm rfl | exact Jn rfl)) O O O ?_
    refine Ja (Jk hT O O O O O O) O O O ?_
    refine Ja (Jo hT O O O zrd) O O O ?_
    refine Ja (Wk O O) O O O (Ja (Jd rfl) O O O ?_)
    refine Jg ?_
    refine Jb ?_
    refine Vf rfl zbl ?_
    refine Ve ?_
    refine Jv ?_
    refine Jb ?_
    refine Jh ?_
    refine Jc ?_
    refine Ja (Je rfl) O O O ?_
    refine Jj rfl (Js e71 O O (hgu _ hin2) ?_)
    rintro _ l1 ⟨rfl, e1⟩
    obtain rfl := e1.symm
    refine Ja (Je rfl) O O O (Ja (Jy O O) O O O (Ja (Jy O O) O O O ?_))
    refine Jj rfl (Wa hT O O zcl rfl (fun b2 => ?_))
    refine Jj rfl (Vp hT O O O zln zoc zpk zln ?_)
    refine Ja (Jd rfl) O O O ?_
    refine Jg ?_
    refine Jb ?_
    refine Jh ?_
    refine Jh ?_
    refine Jc ?_
    refine Ja (Je rfl) O O O (Ja (Wk O O) O O O ?_)
    refine Jg ?_
    refine Jb ?_
    refine J.cond_t rfl zbl ?_
    refine Jh ?_
    refine Jc ?_
    refine Ja (Je rfl) O O O (Ja (Jd rfl) O O O ?_)
    refine Jg ?_
    refine Jb ?_
    refine Vl ?_
    refine Jz ?_
    refine Vk (.inl rfl) O O zrv ?_
    exact ⟨by rw [hE] <;> rfl, fun w s => keep w (by rw [hE]; exact h0) (s.sup zsup)⟩
end
end Go.Proofs.YtimekohdlofmaaaGreat
/- The batch told. -/
namespace Go.Proofs.YtimekohdlofmaaaGreat
open Go Go.SL
section
/-- A list in order is the one list in order that has its elements. -/
theorem sorted_eq : ∀ {ys xs : List Int}, xs.Perm ys → (xs.Pairwise fun x y => Sort.ltInt y x = false) → ys.Pairwise (· < ·) → xs = ys
  | [], xs, h, _, _ => h.eq_nil
  | y :: ys, xs, h, hx, hy => by
    cases xs with
    | nil => exact absurd h.symm.eq_nil (by simp)
    | cons x xs =>
      have hx1 := List.pairwise_cons.1 hx
      have hy1 := List.pairwise_cons.1 hy
      have e : x = y := by
        have a1 : x ∈ y :: ys := h.subset (by simp)
        have a2 : y ∈ x :: xs := h.symm.subset (by simp)
        rcases List.mem_cons.1 a1 with q | q
        · exact q
        · rcases List.mem_cons.1 a2 with q2 | q2
          · exact q2.symm
          · have l1 := hy1.1 x q
            have l2 := hx1.1 y q2
            simp only [Sort.ltInt, decide_eq_false_iff_not] at l2
            omega
      subst e
      rw [sorted_eq (List.Perm.cons_inv h) hx1.2 hy1.2]
/-- What was collected, in order of places. -/
def Placed (S : List (Int × List Int)) : Prop := (S.map (·.1)).Pairwise (· < ·)
theorem Placed.nodup {S : List (Int × List Int)} (h : Placed S) : (S.map (·.1)).Nodup := h.imp fun q => by omega
theorem Fc.gotK {P : Program} {E : World} {l : List HProp} {f : FuncId} {args : Array Value} {R : Value → List HProp → Prop} {g : Nat} {G : List (Int × List Int)}
    (h : ∀ vals o K, o.Perm G → TxB K vals (o.map (·.2)) → (∀ w r, Sat E (stars (mapA (Value.int .i64) (fun _ => True) g (kvs o vals) :: K :: r)) w → Sat E (stars (Go.Proofs.YtimekohdlofmaaaGreat.gotM g G :: r)) w) → Fc P E f args (mapA (Value.int .i64) (fun _ => True) g (kvs o vals) :: K :: l) R) : Fc P E f args (Go.Proofs.YtimekohdlofmaaaGreat.gotM g G :: l) R :=
  Fc.gotM fun vals o hp hl => by
    have hl2 : vals.length = (o.map (·.2)).length := by rw [List.length_map]; exact hl
    refine Fc.fact (p := TxB (stars (owns vals (o.map (·.2)))) vals (o.map (·.2))) (fun w s => owns_txb (r := mapA (Value.int .i64) (fun _ => True) g (kvs o vals) :: l) hl2 (Sat.rot (p := [mapA (Value.int .i64) (fun _ => True) g (kvs o vals)]) (g := owns vals (o.map (·.2))) s)) fun hX => ?_
    refine Fc.imp (h vals o (stars (owns vals (o.map (·.2)))) hp hX fun w r s => gotM_shut hp hl ?_) fun w s => ?_
    · have s1 := (s.pick (Jx Jp)).unfold
      exact Sat.rot (p := owns vals (o.map (·.2))) (g := [mapA (Value.int .i64) (fun _ => True) g (kvs o vals)]) s1
    · have s1 := Sat.rot (p := [mapA (Value.int .i64) (fun _ => True) g (kvs o vals)]) (g := owns vals (o.map (·.2))) s
      exact Sat.pick s1.fold (Jx Jp)
end
section
attribute [local irreducible] J JL JE JM LS Y Fc RV Code.wp wpList Code.wpIn wpListIn
attribute [local irreducible] Yc Sort.ltInt
variable (E : World)
theorem eplaces_spec (x lg g : Nat) (br : Bool) (last : BitVec 64) (ph hops : Int) (S o : List (Int × List Int)) (vals : List Value) (l : List HProp) (hS : Placed S) (hp : o.Perm S) (hvl : vals.length = o.length) (hm : S.length ≤ 12) :
    Fc prog E 68 [.pointer (some ⟨x, 0, none⟩)].toArray (entR x lg br last ph hops (.map (some g)) :: mapA (Value.int .i64) (fun _ => True) g (kvs o vals) :: l) (fun v l' => ∃ a c, v = .slice a S.length c ∧ l' = own 3 1 (.slice a S.length c) S.length ((S.map (·.1)).map (Value.int .i64)) :: entR x lg br last ph hops (.map (some g)) :: mapA (Value.int .i64) (fun _ => True) g (kvs o vals) :: l) := by
  refine Wi ?_
  have hkl : (kvs o vals).length ≤ 12 := by rw [kvs_length hvl, hp.length_eq]; exact hm
  have hso : ∀ (b : Nat) l, Fc prog E 112 [.func (.func 161) #[] [Value.pointer (some ⟨b, 0, none⟩)].toArray].toArray (row b 134 [.map (some g)] :: mapA (Value.int .i64) (fun _ => True) g (kvs o vals) :: l)
      (fun v l' => ∃ (a : Option Addr) (c : Nat), v = .slice a S.length c ∧ l' = own 3 1 (.slice a S.length c) S.length ((S.map (·.1)).map (Value.int .i64)) :: row b 134 [.map (some g)] :: mapA (Value.int .i64) (fun _ => True) g (kvs o vals) :: l) := fun b l => (sortedE E Sort.swo_ltInt b g (kvs o vals) l hkl).mono fun v l' ⟨ys, a, c, h1, h2, h3, h4⟩ => by
    have e : ys = S.map (·.1) := sorted_eq (h1.trans (by rw [kvs_keys hvl]; exact hp.map _)) h2 hS
    have el : ys.length = S.length := by rw [e, List.length_map]
    subst h3
    rw [e, List.length_map] at h4
    exact ⟨a, c, by rw [el], h4⟩
  refine Jt (c := ?codeC) Tryz.func68 ?hb Tryz.ntmps68 ?hl ?_
  case hb => exact rfl
  case hl => exact rfl
  refine Jh ?_
  refine Jc ?_
  refine Ja (Jd rfl) O O O ?_
  refine Jg ?_
  refine Jb ?_
  refine Jh ?_
  refine Jc ?_
  refine Ja (Je rfl) O O O ?_
  refine Ja ((by first | exact Jq rfl | exact Jm rfl | exact Jn rfl)) O O O ?_
  refine Ja (Jk hT O O O O O O) O O O ?_
  refine Ja (Jo hT O O O zrd) O O O ?_
  refine Jj rfl (Js e113 O O (mkeysE_spec E _ (.map (some g)) rfl) ?_)
  rintro _ _ ⟨bk, rfl, rfl⟩
  refine Jj rfl (Js e112 O O (Wj (Ji zpk (Ji zpk Jl)) (hso bk _)) ?_)
  rintro _ _ ⟨a, c, rfl, rfl⟩
  refine Ja (Jd rfl) O O O ?_
  refine Jg ?_
  refine Jb ?_
  refine Vl ?_
  refine Vk (.inl rfl) O O zrv ?_
  exact ⟨_, fun w s => s.sup zsup, a, c, rfl, rfl⟩
theorem eclose_spec (x lg g n : Nat) (last : BitVec 64) (hops : Int) (S : List (Int × List Int)) (l : List HProp) (hn : S.length = n) (hS : Placed S) (hm : n ≤ 12) (hbig : ∀ p ∈ S, p.2.length ≤ 1000000) :
    Fc prog E 15 [.pointer (some ⟨x, 0, none⟩)].toArray (entR x lg false last 1 hops (.map (some g)) :: gotM g S :: l) (fun v l' => ∃ a c vs, v = .tuple #[.slice a n c, .int .i64 0] ∧ vs.length = n ∧ l' = own 22 1 (.slice a n c) n vs :: (owns vs (S.map (·.2)) ++ (entR x lg false last 2 hops (.map (some g)) :: gotM g S :: l))) := by
  refine Wj (p := [gotM g S]) (Ji (Jx Jp) Jl) (Fc.gotK fun vals o K hp hX hsh => Wi ?_)
  have hvl : vals.length = o.length := by rw [hX.len, List.length_map]
  have hod : (o.map (·.1)).Nodup := (hp.map _).nodup_iff.2 hS.nodup
  have hpl : ∀ l, Fc prog E 68 [.pointer (some ⟨x, 0, none⟩)].toArray (entR x lg false last 1 hops (.map (some g)) :: mapA (Value.int .i64) (fun _ => True) g (kvs o vals) :: l) (fun v l' => ∃ a c, v = .slice a n c ∧ l' = own 3 1 (.slice a n c) n ((S.map (·.1)).map (Value.int .i64)) :: entR x lg false last 1 hops (.map (some g)) :: mapA (Value.int .i64) (fun _ => True) g (kvs o vals) :: l) := fun l => by
    have z := eplaces_spec E x lg g false last 1 hops S o vals l hS hp hvl (by omega)
    rwa [hn] at z
  refine Jt (c := ?codeC) Tryz.func15 ?hb Tryz.ntmps15 ?hl ?_
  case hb => exact rfl
  case hl => exact rfl
  refine Jh ?_
  refine Jc ?_
  refine Ja (Jd rfl) O O O (Ja (Jd rfl) O O O ?_)
  refine Jg ?_
  refine Jb ?_
  refine Jh ?_
  refine Vj ?_
  refine Jh ?_
  refine Jc ?_
  refine Ja (Je rfl) O O O (Ja (Vx hT O O O O) O O O (Ja (Jd rfl) O O O ?_))
  refine Jg ?_
  refine Jb ?_
  refine Vf rfl zbl ?_
  refine Jh ?_
  refine Jc ?_
  refine Ja (Je rfl) O O O ?_
  refine Ja ((by first | exact Jq rfl | exact Jm rfl | exact Jn rfl)) O O O ?_
  refine Ja (Jk hT O O O O O O) O O O ?_
  refine Ja (Jo hT O O O zrd) O O O ?_
  refine Ja (Wk O O) O O O (Ja (Jd rfl) O O O ?_)
  refine Jg ?_
  refine Jb ?_
  refine Vf rfl zbl ?_
  refine Ve ?_
  refine Jv ?_
  refine Jb ?_
  refine Jh ?_
  refine Jc ?_
  refine Ja (Jd rfl) O O O ?_
  refine Jg ?_
  refine Jb ?_
  refine Jh ?_
  refine Jh ?_
  refine Jc ?_
  refine Ja (Je rfl) O O O ?_
  refine Jj rfl (Js e68 O O (Wj (Ji zpk (Ji zpk Jl)) (hpl _)) ?_)
  rintro _ _ ⟨pa, pc, rfl, rfl⟩
  refine Ja (Vh hT O O O) O O O (Ja (Je rfl) O O O ?_)
  refine Jg ?_
  refine Jb ?_
  refine Vj ?_
  refine J.fact (p := OwnAt pa n pc ((S.map (·.1)).map (Value.int .i64))) (fun w s => Vv (s.pick Jp)) fun op => ?_
  refine J.loop (α := Nat × Option Addr × Nat × List Value) (fun s => s.1 ≤ n ∧ s.2.2.2.length = s.1) (fun s => [(0, .pointer (some ⟨x, 0, none⟩)), (4, .slice s.2.1 s.1 s.2.2.1), (17, .slice pa n pc), (18, .int .i64 n), (19, .int .i64 s.1)]) (fun s => own 22 1 (.slice s.2.1 s.1 s.2.2.1) s.1 s.2.2.2 :: (owns s.2.2.2 ((S.take s.1).map (·.2)) ++ (own 3 1 (.slice pa n pc) n ((S.map (·.1)).map (Value.int .i64)) :: entR x lg false last 1 hops (.map (some g)) :: mapA (Value.int .i64) (fun _ => True) g (kvs o vals) :: K :: l))) (fun s => n - s.1) (0, none, 0, []) ⟨Nat.zero_le _, rfl⟩ ⟨O, O, O, O, O, trivial⟩ (fun w s => Sat.own_nil (s.sup zsup)) ?_
  rintro ⟨j, qa, qc, vs⟩ ⟨hj, hvs⟩
  dsimp only at hj hvs ⊢
  refine Jh ?_
  refine Jc ?_
  refine Ja (y_lss O O) O O O ?_
  refine Jg ?_
  refine Jb ?_
  refine Jh ?_
  first | apply Va rfl | apply Vt rfl
  case' ht =>
    intro h
    try (first | (exfalso; omega) | (cases h; done) | (exfalso; simp at h; done) | subst h)
    all_goals
      refine Ve ?_
  case' hf =>
    intro h
    try (first | (exfalso; omega) | (cases h; done) | (exfalso; simp at h; done) | subst h)
    all_goals
      refine J.exit ?_
      refine Vc ?_
      refine Vc ?_
      refine Vs ?_
      refine Jb ?_
      refine Jh ?_
      refine Jc ?_
      refine Ja (Je rfl) O O O ?_
      refine Ja ((by first | exact Jq rfl | exact Jm rfl | exact Jn rfl)) O O O ?_
      refine Ja (Jk hT O O O O O O) O O O ?_
      refine Jj rfl (Vw hT O O O O O zpk zix ?_)
      refine Jg ?_
      refine Jb ?_
      refine Jh ?_
      refine Jc ?_
      refine Ja (Je rfl) O O O (Ja (Jd rfl) O O O (Ja (Jd rfl) O O O ?_))
      refine Jg ?_
      refine Jb ?_
      refine Vl ?_
      refine Wg (.inl rfl) O O zrv zrv ?_
      obtain rfl : j = n := by omega
      refine ⟨own 22 1 (.slice qa j qc) j vs :: (owns vs (S.map (·.2)) ++ (entR x lg false last 2 hops (.map (some g)) :: gotM g S :: l)), fun w s => ?_, qa, qc, vs, rfl, hvs, rfl⟩
      rw [List.take_of_length_le (by omega)] at s
      have s1 := hsh w (entR x lg false last 2 hops (.map (some g)) :: own 22 1 (.slice qa j qc) j vs :: (owns vs (S.map (·.2)) ++ l)) (s.sup zsup)
      have s2 := s1.sup (p := entR x lg false last 2 hops (.map (some g)) :: gotM g S :: own 22 1 (.slice qa j qc) j vs :: (owns vs (S.map (·.2)) ++ l)) zsup
      exact Sat.rot (p := [entR x lg false last 2 hops (.map (some g)), gotM g S]) (g := own 22 1 (.slice qa j qc) j vs :: owns vs (S.map (·.2))) s2
  all_goals refine Jb ?_
  all_goals
    refine Jh ?_
    refine Vj ?_
    refine Jh ?_
    refine Jc ?_
    have hlt : j < n := by omega
    obtain ⟨⟨k, b⟩, hkb⟩ : ∃ q, S[j]? = some q := ⟨_, List.getElem?_eq_getElem (by omega)⟩
    have hkj : ((S.map (·.1)).map (Value.int .i64))[j]? = some (.int .i64 k) := by simp [hkb]
    obtain ⟨i, hi⟩ := List.getElem?_of_mem (hp.symm.subset (List.mem_of_getElem? hkb))
    obtain ⟨vq, vc, hv, hvi⟩ := hX.get i b (by simp [hi])
    have hlk := kvs_some hod hi hv
    have hbl := hbig _ (List.mem_of_getElem? hkb)
    dsimp only at hbl
    obtain ⟨ga, rfl⟩ := op.at_.resolve_right fun ⟨h0, _⟩ => by have := op.le; omega
    refine Ja (Vg hT O O O O O zix zix) O O O ?_
    refine Ja (Jo hT O O O (Rd1.elem (RdN.own zpk) hkj)) O O O ?_
    refine Ja (Jd rfl) O O O ?_
    refine Jg ?_
    refine Jb ?_
    refine Jc ?_
    refine Ja (Je rfl) O O O (Ja (Je rfl) O O O ?_)
    refine Ja ((by first | exact Jq rfl | exact Jm rfl | exact Jn rfl)) O O O ?_
    refine Ja (Jk hT O O O O O O) O O O ?_
    refine Ja (Jo hT O O O zrd) O O O ?_
    refine Ja (Je rfl) O O O ?_
    refine Ja (y_lookup (a := k) hT O O O O (keyInt hT O O) O O O trivial zpk) O O O ?_
    rw [hlk]
    refine Jj rfl (Js e69 O O (cloneB_spec E vq vc b _ (hvi.kept zpk) (by omega)) ?_)
    rintro _ _ ⟨ca, cc, rfl, rfl⟩
    refine Jj rfl (l_buildSliceP hT O O O O O O O zfl rfl (fun b4 => ?_))
    refine Jj rfl (l_append hT O O O O O O O O zpk zrdn zln zoc (by rw [show i22.bytes = 24 from rfl]; omega) (by omega) rfl (fun na nc hnc => ?_))
    refine Ja (Jd rfl) O O O ?_
    refine Jg ?_
    refine Jv ?_
    refine Jb ?_
    refine Jc ?_
    refine Ja (Wc O O zwr) O O O ?_
    refine Ja (Je rfl) O O O ?_
    refine Jg ?_
  all_goals
    refine Vy (s := (j, qa, qc, vs)) (j + 1, na, nc, vs ++ [.slice ca b.length cc]) ⟨hlt, by simp [hvs]⟩ ⟨O, O, O, O, O, trivial⟩ (fun w s => ?_) (by dsimp only; omega)
    dsimp only
    have e : owns (vs ++ [.slice ca b.length cc]) ((S.take (j + 1)).map (·.2)) = owns vs ((S.take j).map (·.2)) ++ [own 5 1 (.slice ca b.length cc) b.length (ints .u8 b)] := by
      rw [List.take_add_one, hkb, Option.toList_some, List.map_append, List.map_cons, List.map_nil, owns_snoc _ _ _ _ (by rw [List.length_map, List.length_take, hvs]; omega)]
    rw [e, List.append_assoc]
    have s1 := s.sup (p := own 5 1 (.slice ca b.length cc) b.length (ints .u8 b) :: own 22 1 (.slice na (j + 1) nc) (j + 1) (vs ++ [.slice ca b.length cc]) :: (owns vs ((S.take j).map (·.2)) ++ (own 3 1 (.slice (some ⟨ga, 0, none⟩) n pc) n ((S.map (·.1)).map (Value.int .i64)) :: entR x lg false last 1 hops (.map (some g)) :: mapA (Value.int .i64) (fun _ => True) g (kvs o vals) :: K :: l))) zsup
    exact Sat.rot (p := [own 5 1 (.slice ca b.length cc) b.length (ints .u8 b)]) (g := own 22 1 (.slice na (j + 1) nc) (j + 1) (vs ++ [.slice ca b.length cc]) :: owns vs ((S.take j).map (·.2))) s1
end
end Go.Proofs.YtimekohdlofmaaaGreat
/- Replies fanned out. -/
namespace Go.Proofs.YtimekohdlofmaaaGreat
open Go Go.SL
/-- What goes down. -/
def downE (last : BitVec 64) (k : Int) (v : Value) : List Value := [.int .i64 (k.tdiv 3), .int .i64 (k.tmod 3), Q last, v]
def downs (last : BitVec 64) (ks : List Int) (vs : List Value) : List Value := (List.zipWith (downE last) ks vs).flatten
theorem downs_snoc (last : BitVec 64) {ks : List Int} {vs : List Value} (h : vs.length = ks.length) (k : Int) (v : Value) : downs last (ks ++ [k]) (vs ++ [v]) = downs last ks vs ++ downE last k v := by
  unfold downs
  rw [List.zipWith_append h.symm]
  simp
section
attribute [local irreducible] J JL JE JM LS Y Fc RV Code.wp wpList Code.wpIn wpListIn
attribute [local irreducible] Yc Sort.ltInt
variable (E : World)
theorem efan_spec (x lg g n : Nat) (last : BitVec 64) (hops : Int) (S : List (Int × List Int)) (R : List (List Int)) (q : Option Addr) (c : Nat) (rv : List Value) (KR : HProp) (l : List HProp) (hn : S.length = n) (hr : R.length = n) (hS : Placed S) (hm : n ≤ 12) (hbig : ∀ b ∈ R, b.length ≤ 1000000) (hk : ∀ p ∈ S, 0 ≤ p.1 ∧ p.1 < 12) (hX : TxB KR rv R) :
    Fc prog E 16 [.pointer (some ⟨x, 0, none⟩), .slice q n c].toArray (entR x lg false last 2 hops (.map (some g)) :: gotM g S :: own 22 1 (.slice q n c) n rv :: KR :: l)
      (fun v l' => ((∀ b ∈ R, (b.length : Int) = replyN hops) ∧ ∃ a c' vs, v = .tuple #[.slice a n c', .int .i64 0] ∧ vs.length = n ∧ l' = own 63 4 (.slice a n c') n (downs last (S.map (·.1)) vs) :: (owns vs R ++ (entR x lg false last 0 0 (.map none) :: own 22 1 (.slice q n c) n rv :: KR :: l))) ∨
        ((¬ ∀ b ∈ R, (b.length : Int) = replyN hops) ∧ v = .tuple #[.slice none 0 0, .int .i64 240] ∧ l' = entR x lg false last 2 hops (.map (some g)) :: gotM g S :: own 22 1 (.slice q n c) n rv :: KR :: l)) := by
  refine Wj (p := [gotM g S]) (Ji (Jx Jp) Jl) (Fc.gotK fun vals o K hp hXo hsh => Wi ?_)
  have hvl : vals.length = o.length := by rw [hXo.len, List.length_map]
  have hpl : ∀ l, Fc prog E 68 [.pointer (some ⟨x, 0, none⟩)].toArray (entR x lg false last 2 hops (.map (some g)) :: mapA (Value.int .i64) (fun _ => True) g (kvs o vals) :: l) (fun v l' => ∃ a c, v = .slice a n c ∧ l' = own 3 1 (.slice a n c) n ((S.map (·.1)).map (Value.int .i64)) :: entR x lg false last 2 hops (.map (some g)) :: mapA (Value.int .i64) (fun _ => True) g (kvs o vals) :: l) := fun l => by
    have z := eplaces_spec E x lg g false last 2 hops S o vals l hS hp hvl (by omega)
    rwa [hn] at z
  have hkl : (kvs o vals).length = n := by rw [kvs_length hvl, hp.length_eq, hn]
  have hd : decide (¬ (n : Int) = ((kvs o vals).length : Int)) = false := decide_eq_false (by rw [hkl]; simp)
  refine Jt (c := ?codeC) Tryz.func16 ?hb Tryz.ntmps16 ?hl ?_
  case hb => exact rfl
  case hl => exact rfl
  refine Jh ?_
  refine Jc ?_
  refine Ja (Jd rfl) O O O (Ja (Jd rfl) O O O ?_)
  refine Jg ?_
  refine Jb ?_
  refine Jh ?_
  refine Vj ?_
  refine Jh ?_
  refine Jc ?_
  refine Ja (Je rfl) O O O (Ja (Vx hT O O O O) O O O (Ja (Jd rfl) O O O ?_))
  refine Jg ?_
  refine Jb ?_
  refine Vf rfl zbl ?_
  refine Jh ?_
  refine Jc ?_
  refine Ja (Je rfl) O O O ?_
  refine Ja ((by first | exact Jq rfl | exact Jm rfl | exact Jn rfl)) O O O ?_
  refine Ja (Jk hT O O O O O O) O O O ?_
  refine Ja (Jo hT O O O zrd) O O O ?_
  refine Ja (Wk O O) O O O (Ja (Jd rfl) O O O ?_)
  refine Jg ?_
  refine Jb ?_
  refine Vf rfl zbl ?_
  refine Jh ?_
  refine Jc ?_
  refine Ja (Je rfl) O O O (Ja (Vh hT O O O) O O O (Ja (Je rfl) O O O ?_))
  refine Ja ((by first | exact Jq rfl | exact Jm rfl | exact Jn rfl)) O O O ?_
  refine Ja (Jk hT O O O O O O) O O O ?_
  refine Ja (Jo hT O O O zrd) O O O ?_
  refine Ja (y_len_map hT O O O zpk) O O O ?_
  refine Ja (Wk O O) O O O (Ja (Jd rfl) O O O ?_)
  refine Jg ?_
  refine Jb ?_
  refine Vf rfl zbl ?_
  refine Ve ?_
  refine Jv ?_
  refine Jb ?_
  refine Jh ?_
  refine Jc ?_
  refine Ja (Jd rfl) O O O ?_
  refine Jg ?_
  refine Jb ?_
  refine Jh ?_
  refine Jh ?_
  refine Jc ?_
  refine Ja (Je rfl) O O O ?_
  refine Jj rfl (Js e68 O O (Wj (Ji zpk (Ji zpk Jl)) (hpl _)) ?_)
  rintro _ _ ⟨pa, pc, rfl, rfl⟩
  refine Ja (Vh hT O O O) O O O (Ja (Je rfl) O O O ?_)
  refine Jg ?_
  refine Jb ?_
  refine Vj ?_
  refine J.fact (p := OwnAt pa n pc ((S.map (·.1)).map (Value.int .i64))) (fun w s => Vv (s.pick Jp)) fun op => ?_
  refine J.fact (p := OwnAt q n c rv) (fun w s => Vv (s.pick zpk)) fun oq => ?_
  refine J.loop (α := Nat × Option Addr × Nat × List Value) (fun s => s.1 ≤ n ∧ s.2.2.2.length = s.1 ∧ ∀ (i : Nat) b, i < s.1 → R[i]? = some b → (b.length : Int) = replyN hops) (fun s => [(0, .pointer (some ⟨x, 0, none⟩)), (1, .slice q n c), (6, .slice s.2.1 s.1 s.2.2.1), (28, .slice pa n pc), (29, .int .i64 n), (30, .int .i64 s.1)]) (fun s => own 63 4 (.slice s.2.1 s.1 s.2.2.1) s.1 (downs last ((S.take s.1).map (·.1)) s.2.2.2) :: (owns s.2.2.2 (R.take s.1) ++ (own 3 1 (.slice pa n pc) n ((S.map (·.1)).map (Value.int .i64)) :: entR x lg false last 2 hops (.map (some g)) :: mapA (Value.int .i64) (fun _ => True) g (kvs o vals) :: K :: own 22 1 (.slice q n c) n rv :: KR :: l))) (fun s => n - s.1) (0, none, 0, []) ⟨Nat.zero_le _, rfl, fun i b h => by dsimp only at h; omega⟩ ⟨O, O, O, O, O, O, trivial⟩ (fun w s => Sat.own_nil (s.sup zsup)) ?_
  rintro ⟨j, qa, qc, vs⟩ ⟨hj, hvs, hall⟩
  dsimp only at hj hvs hall ⊢
  refine Jh ?_
  refine Jc ?_
  refine Ja (y_lss O O) O O O ?_
  refine Jg ?_
  refine Jb ?_
  refine Jh ?_
  first | apply Va rfl | apply Vt rfl
  case' ht =>
    intro h
    try (first | (exfalso; omega) | (cases h; done) | (exfalso; simp at h; done) | subst h)
    all_goals
      refine Ve ?_
  case' hf =>
    intro h
    try (first | (exfalso; omega) | (cases h; done) | (exfalso; simp at h; done) | subst h)
    all_goals
      refine J.exit ?_
      refine Vc ?_
      refine Vc ?_
      refine Vs ?_
      refine Jb ?_
      refine Jh ?_
      refine Jc ?_
      refine Ja (Je rfl) O O O ?_
      refine Jj rfl (Js e70 O O (Wj (Ji zpk Jl) (eover_spec E x lg false last 2 hops (.map (some g)) _)) ?_)
      rintro _ _ rfl
      refine Jg ?_
      refine Jb ?_
      refine Jh ?_
      refine Jc ?_
      refine Ja (Je rfl) O O O (Ja (Jd rfl) O O O (Ja (Jd rfl) O O O ?_))
      refine Jg ?_
      refine Jb ?_
      refine Vl ?_
      refine Wg (.inl rfl) O O zrv zrv ?_
      first
      | (have zz := hbad
         refine ⟨entR x lg false last 2 hops (.map (some g)) :: gotM g S :: own 22 1 (.slice (some ⟨gq, 0, none⟩) n c) n rv :: KR :: l, fun w s => ?_, .inr ⟨hbad, rfl, rfl⟩⟩
         have s1 := hsh w (entR x lg false last 2 hops (.map (some g)) :: own 22 1 (.slice (some ⟨gq, 0, none⟩) n c) n rv :: KR :: l) (s.sup zsup)
         exact s1.sup zsup)
      | (obtain rfl : j = n := by omega
         have hok : ∀ b ∈ R, (b.length : Int) = replyN hops := fun b hb => by
           obtain ⟨i, hi⟩ := List.getElem?_of_mem hb
           exact hall i b (by have := (List.getElem?_eq_some_iff.1 hi).1; omega) hi
         refine ⟨own 63 4 (.slice qa j qc) j (downs last (S.map (·.1)) vs) :: (owns vs R ++ (entR x lg false last 0 0 (.map none) :: own 22 1 (.slice q j c) j rv :: KR :: l)), fun w s => ?_, .inl ⟨hok, qa, qc, vs, rfl, hvs, rfl⟩⟩
         rw [List.take_of_length_le (by omega), List.take_of_length_le (by omega)] at s
         have s1 := s.sup (p := entR x lg false last 0 0 (.map none) :: own 63 4 (.slice qa j qc) j (downs last (S.map (·.1)) vs) :: (owns vs R ++ (own 22 1 (.slice q j c) j rv :: KR :: l))) zsup
         exact Sat.rot (p := [entR x lg false last 0 0 (.map none)]) (g := own 63 4 (.slice qa j qc) j (downs last (S.map (·.1)) vs) :: owns vs R) s1)
  all_goals refine Jb ?_
  all_goals
    refine Jh ?_
    refine Vj ?_
    refine Jh ?_
    refine Jc ?_
    refine Ja (Je rfl) O O O ?_
    have hlt : j < n := by omega
    obtain ⟨⟨k, b0⟩, hkb⟩ : ∃ q, S[j]? = some q := ⟨_, List.getElem?_eq_getElem (by omega)⟩
    have hkj : ((S.map (·.1)).map (Value.int .i64))[j]? = some (.int .i64 k) := by simp [hkb]
    obtain ⟨b, hrb⟩ : ∃ b, R[j]? = some b := ⟨_, List.getElem?_eq_getElem (by omega)⟩
    obtain ⟨vq, vc, hv, hvi⟩ := hX.get j b hrb
    have hbl := hbig _ (List.mem_of_getElem? hrb)
    have hk12 := hk _ (List.mem_of_getElem? hkb)
    dsimp only at hk12
    have hk3 : 0 ≤ k.tdiv 3 ∧ k.tdiv 3 ≤ 12 := by
      obtain ⟨kn, rfl⟩ : ∃ kn : Nat, k = (kn : Int) := ⟨k.toNat, by omega⟩
      have e : ((kn : Nat) : Int).tdiv 3 = ((kn / 3 : Nat) : Int) := rfl
      rw [e]
      omega
    obtain ⟨ga, rfl⟩ := op.at_.resolve_right fun ⟨h0, _⟩ => by have := op.le; omega
    obtain ⟨gq, rfl⟩ := oq.at_.resolve_right fun ⟨h0, _⟩ => by have := oq.le; omega
    refine Ja (Vg hT O O O O O zix zix) O O O ?_
    refine Ja (Jo hT O O O (Rd1.elem (RdN.own zpk) hkj)) O O O ?_
    refine Ja (Jd rfl) O O O (Ja (Jd rfl) O O O ?_)
    refine Jg ?_
    refine Jb ?_
    refine Jh ?_
    refine Jh ?_
    refine Wl _ _ [(0, .q), (1, .q), (2, .q), (3, .q), (4, .q), (5, .q), (6, .q), (7, .q), (8, .q), (9, .q), (10, .q)] mixed (by kernel_rfl) (Jl) ?_
    refine Jf O O O O (fun m => Je rfl) ?_
    refine Jf O O O O (fun m => Je rfl) ?_
    refine Jf O O O O (fun m => Vg hT O O O O O zix zix) ?_
    refine Jf O O O O (fun m => Jo hT O O O (Rd1.elem (RdN.own (Vn m zpk)) hv)) ?_
    refine Jf O O O O (fun m => Vh hT O O O) ?_
    refine Jf O O O O (fun m => Je rfl) ?_
    refine Jf O O O O (fun m => (by first | exact Jq rfl | exact Jm rfl | exact Jn rfl)) ?_
    refine Jf O O O O (fun m => Jk hT O O O O O O) ?_
    refine Jf O O O O (fun m => Jo hT O O O zrda) ?_
    refine Jf O O O O (fun m => y_callF e27 rfl (reply_spec E hops _)) ?_
    refine Jf O O O O (fun m => Wk O O) ?_
    refine Wh ?_
    refine Jb ?_
    first | apply Va rfl | apply Vt rfl
    case' ht =>
      intro h
      try (first | (exfalso; omega) | (cases h; done) | (exfalso; simp at h; done) | subst h)
      all_goals
        have hbad : ¬ ∀ b ∈ R, (b.length : Int) = replyN hops := fun hz => h (hz b (List.mem_of_getElem? hrb))
        refine Jh ?_
        refine Jc ?_
        refine Ja (Jd rfl) O O O (Ja (Jd rfl) O O O ?_)
        refine Jg ?_
        refine Jb ?_
        refine Vl ?_
        refine Jz ?_
        refine Vr ?_
        refine Jz ?_
        refine Jz ?_
        refine Vr ?_
        refine Jz ?_
        refine Wg (.inl rfl) O O zrv zrv ?_
        first
        | (have zz := hbad
           refine ⟨entR x lg false last 2 hops (.map (some g)) :: gotM g S :: own 22 1 (.slice (some ⟨gq, 0, none⟩) n c) n rv :: KR :: l, fun w s => ?_, .inr ⟨hbad, rfl, rfl⟩⟩
           have s1 := hsh w (entR x lg false last 2 hops (.map (some g)) :: own 22 1 (.slice (some ⟨gq, 0, none⟩) n c) n rv :: KR :: l) (s.sup zsup)
           exact s1.sup zsup)
        | (obtain rfl : j = n := by omega
           have hok : ∀ b ∈ R, (b.length : Int) = replyN hops := fun b hb => by
             obtain ⟨i, hi⟩ := List.getElem?_of_mem hb
             exact hall i b (by have := (List.getElem?_eq_some_iff.1 hi).1; omega) hi
           refine ⟨own 63 4 (.slice qa j qc) j (downs last (S.map (·.1)) vs) :: (owns vs R ++ (entR x lg false last 0 0 (.map none) :: own 22 1 (.slice q j c) j rv :: KR :: l)), fun w s => ?_, .inl ⟨hok, qa, qc, vs, rfl, hvs, rfl⟩⟩
           rw [List.take_of_length_le (by omega), List.take_of_length_le (by omega)] at s
           have s1 := s.sup (p := entR x lg false last 0 0 (.map none) :: own 63 4 (.slice qa j qc) j (downs last (S.map (·.1)) vs) :: (owns vs R ++ (own 22 1 (.slice q j c) j rv :: KR :: l))) zsup
           exact Sat.rot (p := [entR x lg false last 0 0 (.map none)]) (g := own 63 4 (.slice qa j qc) j (downs last (S.map (·.1)) vs) :: owns vs R) s1)
    case' hf =>
      intro h
      try (first | (exfalso; omega) | (cases h; done) | (exfalso; simp at h; done) | subst h)
      all_goals
        have hgood : (b.length : Int) = replyN hops := by omega
        refine Ve ?_
    all_goals refine Jb ?_
    all_goals
      refine Wl _ _ [(0, .q), (1, .q), (2, .q), (3, .q), (4, .q), (5, .q), (6, .q), (7, .q), (8, .q), (9, .q), (10, .q), (11, .q), (12, .q), (13, .l), (14, .q), (15, .n), (16, .l), (17, .q)] mixed (by kernel_rfl) (Ji (Jp) (Jl)) ?_
      refine Jf O O O O (fun m => Je rfl) ?_
      refine Jf O O O O (fun m => Je rfl) ?_
      refine Jf O O O O (fun m => y_quo O O (by decide) (m := k.tdiv 3) (We (by omega) (by omega))) ?_
      refine Jf O O O O (fun m => Je rfl) ?_
      refine Jf O O O O (fun m => y_rem O O zix (by rfl)) ?_
      refine Jf O O O O (fun m => Je rfl) ?_
      refine Jf O O O O (fun m => (by first | exact Jq rfl | exact Jm rfl | exact Jn rfl)) ?_
      refine Jf O O O O (fun m => Jk hT O O O O O O) ?_
      refine Jf O O O O (fun m => Jo hT O O O zrda) ?_
      refine Jf O O O O (fun m => Je rfl) ?_
      refine Jf O O O O (fun m => Je rfl) ?_
      refine Jf O O O O (fun m => Vg hT O O O O O zix zix) ?_
      refine Jf O O O O (fun m => Jo hT O O O (Rd1.elem (RdN.own (Vn m zpk)) hv)) ?_
      refine Wf O O (fun fr => Js e69 O O (cloneB_spec E vq vc b _ (hvi.kept zpk) (by omega)) ?_)
      rintro _ _ ⟨ca, cc, rfl, rfl⟩
      refine ⟨[_, _], (by (repeat (first | exact Jl | exact Vu | refine Ji Jp ?_))), ?_⟩
      refine Jf O O O O (fun m => y_build (cs := [_, _, _, _]) hT O O O O O O ⟨⟨zln, Nat.le_of_ble_eq_true rfl⟩, ⟨⟨zln, Nat.le_of_ble_eq_true rfl⟩, ⟨⟨zln, Nat.le_of_ble_eq_true rfl⟩, ⟨⟨zln, Nat.le_of_ble_eq_true rfl⟩, trivial⟩⟩⟩⟩ rfl) ?_
      refine JM.lay O O O O (fun a hf => lays_buildSlice hT O O O O hf O O O zfl) (fun b4 => ?_)
      refine Wf O O (fun fr => l_append hT O O O O O O O O zpk zrdn zln zoc zab zix rfl (fun ab5 cb5 hb5 => ⟨[_, _, _], (by (repeat (first | exact Jl | exact Vu | refine Ji Jp ?_))), ?_⟩))
      refine Jf O O O O (fun m => Jd rfl) ?_
      refine Wh ?_
    all_goals refine Jv ?_
    all_goals refine Jb ?_
    all_goals
      refine Jc ?_
      refine Ja (Wc O O zwr) O O O ?_
      refine Ja (Je rfl) O O O ?_
      refine Jg ?_
  all_goals
    refine Vy (s := (j, qa, qc, vs)) (j + 1, _, _, vs ++ [.slice ca b.length cc]) ⟨hlt, by simp [hvs], fun i b' hi hb' => by
      rcases Nat.lt_or_ge i j with z | z
      · exact hall i b' z hb'
      · obtain rfl : i = j := by dsimp only at hi; omega
        rw [hrb] at hb'
        cases hb'
        exact hgood⟩ ⟨O, O, O, O, O, O, trivial⟩ (fun w s => ?_) (by dsimp only; omega)
    dsimp only
    have e1 : downs last ((S.take (j + 1)).map (·.1)) (vs ++ [.slice ca b.length cc]) = downs last ((S.take j).map (·.1)) vs ++ downE last k (.slice ca b.length cc) := by
      rw [List.take_add_one, hkb, Option.toList_some, List.map_append, List.map_cons, List.map_nil, downs_snoc _ (by rw [List.length_map, List.length_take, hvs]; omega)]
    have e2 : owns (vs ++ [.slice ca b.length cc]) (R.take (j + 1)) = owns vs (R.take j) ++ [own 5 1 (.slice ca b.length cc) b.length (ints .u8 b)] := by
      rw [List.take_add_one, hrb, Option.toList_some, owns_snoc _ _ _ _ (by rw [List.length_take, hvs]; omega)]
    rw [e1, e2, List.append_assoc]
    have s1 := s.sup (p := own 5 1 (.slice ca b.length cc) b.length (ints .u8 b) :: own 63 4 (.slice _ (j + 1) _) (j + 1) (downs last ((S.take j).map (·.1)) vs ++ downE last k (.slice ca b.length cc)) :: (owns vs (R.take j) ++ (own 3 1 (.slice (some ⟨ga, 0, none⟩) n pc) n ((S.map (·.1)).map (Value.int .i64)) :: entR x lg false last 2 hops (.map (some g)) :: mapA (Value.int .i64) (fun _ => True) g (kvs o vals) :: K :: own 22 1 (.slice (some ⟨gq, 0, none⟩) n c) n rv :: KR :: l))) zsup
    exact Sat.rot (p := [own 5 1 (.slice ca b.length cc) b.length (ints .u8 b)]) (g := own 63 4 (.slice _ (j + 1) _) (j + 1) (downs last ((S.take j).map (·.1)) vs ++ downE last k (.slice ca b.length cc)) :: owns vs (R.take j)) s1
end
end Go.Proofs.YtimekohdlofmaaaGreat
