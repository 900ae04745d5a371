import Derived.Test.YtimekohdlofmaaaGreatJoin1
import Derived.Test.YtimekohdlofmaaaGreatJoin7
/- The document's chapter 14, as far as chapter 22's reference wants it. -/
namespace Go.Proofs.YtimekohdlofmaaaGreat
open Go Go.SL
/-- The highest bytes' number, from byte k on. -/
def topG (bs : List Int) : Nat → BitVec 64
  | 0 => 0#64
  | j + 1 => topG bs j <<< 8 ||| BitVec.ofInt 64 (bs.getD (7 - j) 0)
theorem topG_eq (bs : List Int) : ∀ j, j ≤ 8 → leG bs 8 = leG bs (8 - j) ||| topG bs j <<< (8 * (8 - j))
  | 0, _ => by simp [topG]
  | j + 1, h => by
    rw [topG_eq bs j (by omega), topG, show 8 - j = (8 - (j + 1)) + 1 by omega, leG, BitVec.shiftLeft_or_distrib, ← BitVec.shiftLeft_add, show 7 - j = 8 - (j + 1) by omega, show 8 + 8 * (8 - (j + 1)) = 8 * (8 - (j + 1) + 1) by omega, BitVec.or_assoc]
    congr 1
    rw [BitVec.or_comm]
section
attribute [local irreducible] J JL JE JM LS Y Fc RV Code.wp wpList Code.wpIn wpListIn
attribute [local irreducible] Yc
variable (E : World)
theorem rnum_spec (p : Option Addr) (cap : Nat) (bs : List Int) (l : List HProp) (hl : bs.length = 8) (hb : Bytes bs) (hin : InL l p 8 cap (ints .u8 bs)) :
    Fc prog E 118 [.slice p 8 cap].toArray l (fun v l' => v = Q (leG bs 8) ∧ l' = l) := by
  obtain ⟨g, o, rfl, hr⟩ := hin.rd.resolve_right fun ⟨h0, _⟩ => by have := hin.le; omega
  refine Js (c := ?codeC) Tryz.func118 ?hb Tryz.ntmps118 ?hl ?_
  case hb => exact rfl
  case hl => exact rfl
  refine Jh ?_
  refine Jc ?_
  refine Ja (Jd rfl) O O O ?_
  refine Jg ?_
  refine Jb ?_
  refine Jh ?_
  refine Jc ?_
  refine Ja (Jd rfl) O O O ?_
  refine Jg ?_
  refine Jb ?_
  refine Jh ?_
  refine Jh ?_
  refine Jc ?_
  refine Ja (Je rfl) O O O (Ja (Va hT O O O) O O O ?_)
  refine Ja (y_sub O O zwr) O O O ?_
  refine Ja (Jd rfl) O O O ?_
  refine Jg ?_
  refine Jb ?_
  refine Vh ?_
  refine J.loop (α := Nat) (fun k => k ≤ 8) (fun k => [(0, .slice (some ⟨g, o, none⟩) 8 cap), (3, Q (topG bs k)), (4, .int .i64 (7 - (k : Int)))]) (fun _ => l) (fun k => 8 - k) 0 (by omega) ⟨O, O, O, trivial⟩ (fun w h => h) ?_
  intro k hk
  refine Jh ?_
  refine Jh ?_
  refine Jc ?_
  refine Ja (Je rfl) O O O (Ja (y_geq O O) O O O ?_)
  refine Jg ?_
  refine Jb ?_
  first | apply Vb rfl | apply Vq rfl
  case' ht =>
    intro h
    try (first | (exfalso; omega) | (cases h; done) | (exfalso; simp at h; done) | subst h)
    all_goals
      refine Ve ?_
  case' hf =>
    intro h
    try (first | (exfalso; omega) | (cases h; done) | (exfalso; simp at h; done) | subst h)
    all_goals
      refine J.exit ?_
      refine Vd ?_
      refine Vd ?_
      refine Vn ?_
      refine Jb ?_
      refine Jh ?_
      refine Jc ?_
      refine Ja (Je rfl) O O O (Ja (Jd rfl) O O O ?_)
      refine Jg ?_
      refine Jb ?_
      refine Vi ?_
      refine Vk (.inl rfl) O O zrv ?_
      obtain rfl : k = 8 := by omega
      refine ⟨?_, rfl⟩
      have e := topG_eq bs 8 (Nat.le_refl _)
      rw [Nat.sub_self, leG, Nat.mul_zero, BitVec.shiftLeft_zero, BitVec.zero_or] at e
      rw [e]
  all_goals refine Jb ?_
  all_goals
    refine Jh ?_
    refine Vh ?_
    refine Jc ?_
    have hB := hb.getD (7 - k)
    refine Ja (Je rfl) O O O ?_
    refine Ja ((by first | exact y_shlQ O O zix zix | exact y_shl O O zix (by rfl))) O O O ?_
    refine Ja (Je rfl) O O O (Ja (Je rfl) O O O ?_)
    refine Ja (Vg hT O O O O O zix zix) O O O ?_
    refine Ja (Jm hT O O O (Rd1.bytesAt (bs := bs) (j := 7 - k) (hr []) (by omega) (by rw [show i5.size = 1 from rfl]; omega))) O O O ?_
    refine Ja ((by first | exact y_convToQ hT O O O O | exact y_conv hT O O O O zwr)) O O O ?_
    refine Ja ((by first | exact y_orQ O O | exact y_bits O O (by rfl))) O O O ?_
    refine Ja (Jd rfl) O O O ?_
    refine Jg ?_
    refine Jy ?_
    refine Jb ?_
    refine Jc ?_
    refine Ja (Je rfl) O O O ?_
    refine Ja (y_sub O O zwr) O O O ?_
    refine Ja (Jd rfl) O O O ?_
    refine Jg ?_
  all_goals
    refine Wc (s := k) (k + 1) (by omega) ⟨rfl, rfl, ?_, trivial⟩ (fun w q => q) (by omega)
    exact congrArg (fun z => some (Value.int .i64 z)) (by omega)
theorem rboth14_spec (p : Option Addr) (c n : Nat) (xs : List Int) (l : List HProp) (hn : xs.length = n) (h1 : InL l p n c (ints .u8 xs)) (hb : n ≤ 70368744177664) :
    Fc prog E 119 [.slice p n c, .slice none 0 0].toArray l (fun v l' => ∃ a c', v = .slice a n c' ∧ l' = own 5 1 (.slice a n c') n (ints .u8 xs) :: l) := by
  have hbl : (ints .u8 xs).length = xs.length := by simp [ints]
  refine Wh ?_
  refine Js (c := ?codeC) Tryz.func119 ?hb Tryz.ntmps119 ?hl ?_
  case hb => exact rfl
  case hl => exact rfl
  refine Jh ?_
  refine Jc ?_
  refine Ja (Jd rfl) O O O ?_
  refine Jg ?_
  refine Jb ?_
  refine Jh ?_
  refine Jc ?_
  refine Jj rfl (l_buildSlice0 hT O O O O (fun b1 => ?_))
  refine Ja (Je rfl) O O O ?_
  refine Jj rfl (l_appendIn hT O O O O O O O O Jp (h1.cons _) (by rw [hbl, hn, show i5.size = 1 from rfl]; omega) (ints_one _ _) (by rw [show i5.bytes = 1 from rfl]; omega) (by omega) rfl (fun q c2 hc2 => ?_))
  refine Ja (Jd rfl) O O O ?_
  refine Jg ?_
  refine Jb ?_
  refine Jh ?_
  refine Jh ?_
  refine Jc ?_
  refine Ja (Je rfl) O O O (Ja (Va hT O O O) O O O (Ja (Je rfl) O O O ?_))
  refine Jg ?_
  refine Jb ?_
  refine Vh ?_
  refine J.loop (α := Unit) (fun _ => True) (fun _ => [(5, .slice q (0 + n) c2), (12, .int .i64 0), (13, .int .i64 0)]) (fun _ => own 5 1 (.slice q (0 + n) c2) (0 + n) ([] ++ ints .u8 xs) :: l) (fun _ => 0) () trivial ⟨O, O, O, trivial⟩ (fun w h => h) ?_
  rintro _ _
  refine Jh ?_
  refine Jc ?_
  refine Ja (y_lss O O) O O O ?_
  refine Jg ?_
  refine Jb ?_
  refine Jh ?_
  refine Jz rfl zbl ?_
  refine J.exit ?_
  refine Vd ?_
  refine Vd ?_
  refine Vn ?_
  refine Jb ?_
  refine Jh ?_
  refine Jc ?_
  refine Ja (Je rfl) O O O (Ja (Jd rfl) O O O ?_)
  refine Jg ?_
  refine Jb ?_
  refine Vi ?_
  refine Vk (.inl rfl) O O zrv ?_
  exact ⟨own 5 1 (.slice q n c2) n (ints .u8 xs) :: l, fun w s => by simpa using s, q, c2, by simp, rfl⟩
theorem rends_spec (c s : Int) (r : BitVec 64) (l : List HProp) : Fc prog E 120 [.int .i64 c, .int .i64 s, Q r].toArray l (fun v l' => v = .bool (endsB c s r) ∧ l' = l) := by
  refine Fc.mono (R := fun v l' => ∃ b : Bool, v = .bool b ∧ b = endsB c s r ∧ l' = l) ?_ fun v l' q => by
    obtain ⟨b, rfl, rfl, rfl⟩ := q
    exact ⟨rfl, rfl⟩
  refine Js (c := ?codeC) Tryz.func120 ?hb Tryz.ntmps120 ?hl ?_
  case hb => exact rfl
  case hl => exact rfl
  refine Jh ?_
  refine Jc ?_
  refine Ja (Jd rfl) O O O ?_
  refine Jg ?_
  refine Jb ?_
  refine Jh ?_
  refine Jc ?_
  refine Ja (Je rfl) O O O (Ja (y_geq O O) O O O (Ja (Je rfl) O O O ?_))
  all_goals (first | (refine Vj O O O (fun h => ?_) (fun h => ?_) <;> try (first | (exfalso; omega) | exact absurd rfl h)) | (refine Vz O O O (fun h => ?_) (fun h => ?_) <;> try (first | cases h | (exfalso; simp at h; done))) | skip)
  all_goals (first | refine Jt O O O O O O ?_ | refine Jq O O O O O ?_ | refine Ju O O O (Je rfl) O O ?_)
  all_goals (first | refine Jt O O O O O O ?_ | refine Jq O O O O O ?_ | refine Ju O O O (y_lss O O) O O ?_)
  all_goals (refine Ja (Wk O O O) O O O ?_)
  all_goals (refine Ja (Je rfl) O O O ?_)
  all_goals (first | (refine Vj O O O (fun h => ?_) (fun h => ?_) <;> try (first | (exfalso; omega) | exact absurd rfl h)) | (refine Vz O O O (fun h => ?_) (fun h => ?_) <;> try (first | cases h | (exfalso; simp at h; done))) | skip)
  all_goals (first | refine Jt O O O O O O ?_ | refine Jq O O O O O ?_ | refine Ju O O O (Je rfl) O O ?_)
  all_goals (first | refine Jt O O O O O O ?_ | refine Jq O O O O O ?_ | refine Ju O O O (y_geq O O) O O ?_)
  all_goals (refine Ja (Wk O O O) O O O ?_)
  all_goals (refine Ja (Je rfl) O O O ?_)
  all_goals (first | (refine Vj O O O (fun h => ?_) (fun h => ?_) <;> try (first | (exfalso; omega) | exact absurd rfl h)) | (refine Vz O O O (fun h => ?_) (fun h => ?_) <;> try (first | cases h | (exfalso; simp at h; done))) | skip)
  all_goals (first | refine Jt O O O O O O ?_ | refine Jq O O O O O ?_ | refine Ju O O O (Je rfl) O O ?_)
  all_goals (first | refine Jt O O O O O O ?_ | refine Jq O O O O O ?_ | refine Ju O O O (y_lss O O) O O ?_)
  all_goals (refine Ja (Wk O O O) O O O ?_)
  all_goals (refine Ja (Je rfl) O O O ?_)
  all_goals (first | (refine Vj O O O (fun h => ?_) (fun h => ?_) <;> try (first | (exfalso; omega) | exact absurd rfl h)) | (refine Vz O O O (fun h => ?_) (fun h => ?_) <;> try (first | cases h | (exfalso; simp at h; done))) | skip)
  all_goals (first | refine Jt O O O O O O ?_ | refine Jq O O O O O ?_ | refine Ju O O O (Je rfl) O O ?_)
  all_goals (first | refine Jt O O O O O O ?_ | refine Jq O O O O O ?_ | refine Ju O O O (y_gtr (i := (r.toNat : Int)) (j := 0) O O) O O ?_)
  all_goals (refine Ja (Wk O O O) O O O ?_)
  all_goals (refine Ja (Jd rfl) O O O ?_)
  all_goals refine Jg ?_
  all_goals refine Jb ?_
  all_goals
    refine Vi ?_
    refine Vk (.inl rfl) O O zrv ?_
    refine ⟨_, rfl, ?_, rfl⟩
    unfold endsB
    first | (exact (decide_eq_true (by simp at *; omega)).symm) | (exact (decide_eq_false (by simp at *; omega)).symm) | (rw [decide_eq_decide]; simp at *; omega)
/-- Of how many hops an onion of so many bytes is. -/
def hopsN (n : Int) : Int := if n = 194 then 1 else if n = 242 then 2 else if n = 290 then 3 else 0
theorem rhops_spec (n : Int) (l : List HProp) : Fc prog E 117 [.int .i64 n, .int .i64 146, .int .i64 48].toArray l (fun v l' => v = .int .i64 (hopsN n) ∧ l' = l) := by
  refine Wo ?_
  refine Js (c := ?codeC) Tryz.func117 ?hb Tryz.ntmps117 ?hl ?_
  case hb => exact rfl
  case hl => exact rfl
  refine Jh ?_
  refine Jc ?_
  refine Ja (Jd rfl) O O O ?_
  refine Jg ?_
  refine Jb ?_
  refine Jh ?_
  refine Jh ?_
  refine Jc ?_
  refine Ja (Jd rfl) O O O ?_
  refine Jg ?_
  refine Jb ?_
  refine Vh ?_
  refine J.loop (α := Nat) (fun j => 1 ≤ j ∧ j ≤ 4 ∧ ∀ i : Nat, 1 ≤ i → i < j → n ≠ 146 + 48 * (i : Int)) (fun j => [(0, .int .i64 n), (1, .int .i64 146), (2, .int .i64 48), (7, .int .i64 j)]) (fun _ => l) (fun j => 4 - j) 1 ⟨by omega, by omega, fun i h1 h2 => by omega⟩ ⟨O, O, O, O, trivial⟩ (fun w h => h) ?_
  rintro j ⟨hj1, hj2, hj3⟩
  refine Jh ?_
  refine Jh ?_
  refine Jc ?_
  refine Ja (Je rfl) O O O (Ja (y_leq O O) O O O ?_)
  refine Jg ?_
  refine Jb ?_
  first | apply Vb rfl | apply Vq rfl
  case' ht =>
    intro h
    try (first | (exfalso; omega) | (cases h; done) | (exfalso; simp at h; done) | subst h)
    all_goals
      refine Ve ?_
  case' hf =>
    intro h
    try (first | (exfalso; omega) | (cases h; done) | (exfalso; simp at h; done) | subst h)
    all_goals
      have hfin : hopsN n = 0 := by
        have h1 := hj3 1 (by omega) (by omega)
        have h2 := hj3 2 (by omega) (by omega)
        have h3 := hj3 3 (by omega) (by omega)
        unfold hopsN
        rw [if_neg (by omega), if_neg (by omega), if_neg (by omega)]
      refine J.exit ?_
      refine Vd ?_
      refine Vd ?_
      refine Vn ?_
      refine Jb ?_
      refine Jh ?_
      refine Jc ?_
      refine Ja (Jd rfl) O O O ?_
      refine Jg ?_
      refine Jb ?_
      refine Vi ?_
      refine Vk (.inl rfl) O O zrv ?_
      exact ⟨by rw [hfin], fun w h => h⟩
  all_goals refine Jb ?_
  all_goals
    refine Jh ?_
    refine Vh ?_
    refine Jh ?_
    refine Jc ?_
    refine Ja (Je rfl) O O O (Ja (Je rfl) O O O (Ja (Je rfl) O O O (Ja (Je rfl) O O O ?_)))
    refine Ja (y_mul (m := 48 * (j : Int)) O O (Wj (by omega) (by omega))) O O O ?_
    refine Ja (Wg (m := 146 + 48 * (j : Int)) O O (Wj (by omega) (by omega))) O O O ?_
    refine Ja (y_eqlB (b := decide (n = 146 + 48 * (j : Int))) O O O) O O O ?_
    refine Jg ?_
    refine Jb ?_
    first | apply Vb rfl | apply Vq rfl
    case' ht =>
      intro h
      try (first | (exfalso; omega) | (cases h; done) | (exfalso; simp at h; done) | subst h)
      all_goals
        have hfin : hopsN (146 + 48 * (j : Int)) = j := by
          rcases (by omega : j = 1 ∨ j = 2 ∨ j = 3) with rfl | rfl | rfl <;> rfl
        refine Jh ?_
        refine Jc ?_
        refine Ja (Je rfl) O O O (Ja (Jd rfl) O O O ?_)
        refine Jg ?_
        refine Jb ?_
        refine Vi ?_
        refine Vl ?_
        refine Jw ?_
        refine Jw ?_
        refine Vl ?_
        refine Jw ?_
        refine Vk (.inl rfl) O O zrv ?_
        exact ⟨by rw [hfin], fun w h => h⟩
    case' hf =>
      intro h
      try (first | (exfalso; omega) | (cases h; done) | (exfalso; simp at h; done) | subst h)
      all_goals
        have h2 : ¬ n = 146 + 48 * (j : Int) := by assumption
        have hj4 : ∀ i : Nat, 1 ≤ i → i < j + 1 → n ≠ 146 + 48 * (i : Int) := fun i g1 g2 => by
          rcases Nat.lt_or_ge i j with q | q
          · exact hj3 i g1 q
          · obtain rfl : i = j := by omega
            exact h2
        refine Ve ?_
    all_goals refine Jy ?_
    all_goals refine Jb ?_
    all_goals
      refine Jc ?_
      refine Ja (Je rfl) O O O ?_
      refine Ja (Wg O O zwr) O O O ?_
      refine Ja (Jd rfl) O O O ?_
      refine Jg ?_
  all_goals
    exact Wc (s := j) (j + 1) ⟨by omega, by omega, hj4⟩ ⟨rfl, rfl, rfl, (congrArg (fun z => some (Value.int .i64 z)) (by first | omega | (dsimp only; omega))), trivial⟩ (fun w h => h) (by omega)
theorem ronion_spec (n : Int) (l : List HProp) : Fc prog E 77 [.int .i64 n].toArray l (fun v l' => v = .int .i64 (hopsN n) ∧ l' = l) := by
  refine Js (c := ?codeC) Tryz.func77 ?hb Tryz.ntmps77 ?hl ?_
  case hb => exact rfl
  case hl => exact rfl
  refine Jh ?_
  refine Jc ?_
  refine Ja (Jd rfl) O O O ?_
  refine Jg ?_
  refine Jb ?_
  refine Jh ?_
  refine Jc ?_
  refine Ja (Je rfl) O O O ?_
  refine Jj rfl (Jv e117 O O (rhops_spec E n _) ?_)
  rintro _ _ ⟨rfl, rfl⟩
  refine Ja (Jd rfl) O O O ?_
  refine Jg ?_
  refine Jb ?_
  refine Vi ?_
  refine Vk (.inl rfl) O O zrv ?_
  exact ⟨rfl, rfl⟩
theorem rless_spec (c1 s1 c2 s2 : Int) (r1 r2 : BitVec 64) (v1 v2 : Value) (h1 : v1.oneCell' = true) (h2 : v2.oneCell' = true) (l : List HProp) :
    Fc prog E 79 [.agg #[.int .i64 c1, .int .i64 s1, Q r1, v1], .agg #[.int .i64 c2, .int .i64 s2, Q r2, v2]].toArray l (fun v l' => v = .bool (decide (c1 < c2 ∨ c1 = c2 ∧ s1 < s2)) ∧ l' = l) := by
  refine Wo ?_
  refine Fc.mono (R := fun v l' => ∃ b : Bool, v = .bool b ∧ b = decide (c1 < c2 ∨ c1 = c2 ∧ s1 < s2) ∧ ∀ w, Sat E (stars l') w → Sat E (stars l) w) ?_ fun v l' q => by
    obtain ⟨b, rfl, rfl, q⟩ := q
    exact ⟨rfl, q⟩
  refine Js (c := ?codeC) Tryz.func79 ?hb Tryz.ntmps79 ?hl ?_
  case hb => exact rfl
  case hl => exact rfl
  refine Jh ?_
  refine Jc ?_
  refine Jj rfl (l_box (cs := [.int .i64 c1, .int .i64 s1, Q r1, v1]) O O O (fun bo => ?_))
  refine Jj rfl (l_box (cs := [.int .i64 c2, .int .i64 s2, Q r2, v2]) O O O (fun bo2 => ?_))
  refine Ja (Jd rfl) O O O ?_
  refine Jg ?_
  refine Jb ?_
  refine Jh ?_
  refine Jc ?_
  refine Ja (Ji hT O O O O O O) O O O ?_
  refine Ja (Jm hT O O O zrd) O O O ?_
  refine Ja (Ji hT O O O O O O) O O O ?_
  refine Ja (Jm hT O O O zrd) O O O ?_
  refine Ja (y_lss O O) O O O (Ja (Je rfl) O O O ?_)
  all_goals (first | (refine Vj O O O (fun h => ?_) (fun h => ?_) <;> try (first | (exfalso; omega) | exact absurd rfl h)) | (refine Vz O O O (fun h => ?_) (fun h => ?_) <;> try (first | cases h | (exfalso; simp at h; done))) | skip)
  all_goals (first | refine Jt O O O O O O ?_ | refine Jq O O O O O ?_ | refine Ju O O O (Ji hT O O O O O O) O O ?_)
  all_goals (first | refine Jt O O O O O O ?_ | refine Jq O O O O O ?_ | refine Ju O O O (Jm hT O O O zrd) O O ?_)
  all_goals (first | refine Jt O O O O O O ?_ | refine Jq O O O O O ?_ | refine Ju O O O (Ji hT O O O O O O) O O ?_)
  all_goals (first | refine Jt O O O O O O ?_ | refine Jq O O O O O ?_ | refine Ju O O O (Jm hT O O O zrd) O O ?_)
  all_goals (first | refine Jt O O O O O O ?_ | refine Jq O O O O O ?_ | refine Ju O O O (y_eql O O) O O ?_)
  all_goals (first | refine Jt O O O O O O ?_ | refine Jq O O O O O ?_ | refine Ju O O O (Je rfl) O O ?_)
  all_goals (first | (refine Vj O O O (fun h => ?_) (fun h => ?_) <;> try (first | (exfalso; omega) | exact absurd rfl h)) | (refine Vz O O O (fun h => ?_) (fun h => ?_) <;> try (first | cases h | (exfalso; simp at h; done))) | skip)
  all_goals (first | refine Jt O O O O O O ?_ | refine Jq O O O O O ?_ | refine Ju O O O (Ji hT O O O O O O) O O ?_)
  all_goals (first | refine Jt O O O O O O ?_ | refine Jq O O O O O ?_ | refine Ju O O O (Jm hT O O O zrd) O O ?_)
  all_goals (first | refine Jt O O O O O O ?_ | refine Jq O O O O O ?_ | refine Ju O O O (Ji hT O O O O O O) O O ?_)
  all_goals (first | refine Jt O O O O O O ?_ | refine Jq O O O O O ?_ | refine Ju O O O (Jm hT O O O zrd) O O ?_)
  all_goals (first | refine Jt O O O O O O ?_ | refine Jq O O O O O ?_ | refine Ju O O O (y_lss O O) O O ?_)
  all_goals (first | refine Jt O O O O O O ?_ | refine Jq O O O O O ?_ | refine Ju O O O (Wk O O O) O O ?_)
  all_goals (refine Ja (Wk O O O) O O O ?_)
  all_goals (refine Ja (Jd rfl) O O O ?_)
  all_goals refine Jg ?_
  all_goals refine Jb ?_
  all_goals
    refine Vi ?_
    refine Vk (.inl rfl) O O zrv ?_
    refine ⟨_, rfl, ?_, fun w s => s.sup zsup⟩
    first | (exact (decide_eq_true (by simp at *; omega)).symm) | (exact (decide_eq_false (by simp at *; omega)).symm) | (rw [decide_eq_decide]; simp at *; omega) | (simp at *; omega)
/-- Is it an Up? -/
def isUp (bs : List Int) : Bool := decide (bs.getD 0 0 = 2) && endsB (bs.getD 1 0) (bs.getD 2 0) (leG ((bs.drop 3).take 8) 8)
theorem rgetup_spec (p : Option Addr) (cap n : Nat) (bs : List Int) (l : List HProp) (hn : bs.length = n) (h11 : 11 ≤ n) (hn2 : n ≤ 1073741824) (hb : Bytes bs) (hin : InL l p n cap (ints .u8 bs)) :
    Fc prog E 78 [.slice p n cap].toArray l (fun v l' => ∃ a c', v = .tuple #[.agg #[.int .i64 (bs.getD 1 0), .int .i64 (bs.getD 2 0), Q (leG ((bs.drop 3).take 8) 8), .slice a (n - 11) c'], .bool (isUp bs)] ∧ l' = own 5 1 (.slice a (n - 11) c') (n - 11) (ints .u8 (bs.drop 11)) :: l) := by
  refine Wh ?_
  have hle := hin.le
  obtain ⟨e0, e1, e2, rs, rfl⟩ : ∃ e0 e1 e2 rs, bs = e0 :: e1 :: e2 :: rs := by
    match bs, hn with
    | e0 :: e1 :: e2 :: rs, _ => exact ⟨e0, e1, e2, rs, rfl⟩
    | [], h => simp at h; omega
    | [_], h => simp at h; omega
    | [_, _], h => simp at h; omega
  have hrl : rs.length = n - 3 := by simp at hn; omega
  have he1 := hb e1 (by simp)
  have he2 := hb e2 (by simp)
  have hbr : Bytes (rs.take 8) := fun y hy => hb y (by simp [List.mem_of_mem_take hy])
  obtain ⟨pb, po, rfl, hr⟩ := hin.rd.resolve_right fun ⟨h0, _⟩ => by omega
  obtain ⟨qb, qo, hq, hp1⟩ := hin.part (lo := 3) (hi := 11) (k := 1) (by omega) h11 (by simp [ints]; simp at hn; omega)
  simp only [Option.some.injEq, Addr.mk.injEq] at hq
  obtain ⟨rfl, rfl, _⟩ := hq.resolve_right (by omega)
  rw [show (((ints .u8 (e0 :: e1 :: e2 :: rs)).drop (3 * 1)).take ((11 - 3) * 1)) = ints .u8 (rs.take 8) by simp [ints]] at hp1
  obtain ⟨qb, qo, hq, hp2⟩ := hin.part (lo := 11) (hi := n) (k := 1) h11 (Nat.le_refl _) (by simp [ints]; simp at hn; omega)
  simp only [Option.some.injEq, Addr.mk.injEq] at hq
  obtain ⟨rfl, rfl, _⟩ := hq.resolve_right (by omega)
  have hdl : (rs.drop 8).length = n - 11 := by simp; omega
  rw [show (((ints .u8 (e0 :: e1 :: e2 :: rs)).drop (11 * 1)).take ((n - 11) * 1)) = ints .u8 (rs.drop 8) by
    simp only [ints, Nat.mul_one, List.map_drop, List.map_cons, List.drop_succ_cons]
    exact List.take_of_length_le (by rw [List.length_drop, List.length_map]; omega)] at hp2
  obtain ⟨rr, hrr⟩ : ∃ rr, leG (rs.take 8) 8 = rr := ⟨_, rfl⟩
  have hnum : ∀ (a : Option Addr) (c : Nat) (l : List HProp), InL l a (11 - 3) c (ints .u8 (rs.take 8)) → Fc prog E 118 [.slice a (11 - 3) c].toArray l (fun v l' => v = Q rr ∧ l' = l) := fun a c l h => by
    have z := rnum_spec E a c (rs.take 8) l (by simp; omega) hbr h
    rw [hrr] at z
    exact z
  have hrd : ∀ m1 m2 : List HProp, RdN (m1 ++ (m2 ++ l)) pb po (ints .u8 (e0 :: e1 :: e2 :: rs)) := fun m1 m2 => by rw [← List.append_assoc]; exact hr _
  refine Js (c := ?codeC) Tryz.func78 ?hb Tryz.ntmps78 ?hl ?_
  case hb => exact rfl
  case hl => exact rfl
  refine Jh ?_
  refine Jc ?_
  refine Jj rfl (Vt hT O O zcl rfl (fun b1 => ?_))
  refine Ja (Jd rfl) O O O ?_
  refine Jg ?_
  refine Jb ?_
  refine Jh ?_
  refine Wn _ _ [(0, .q), (1, .q), (2, .q), (3, .q), (4, .q), (5, .q), (6, .q), (7, .q), (8, .q), (9, .q), (10, .q), (11, .q), (12, .q), (13, .l), (14, .q), (15, .n), (16, .l)] mixed (by kernel_rfl) (Jl) ?_
  refine Jf O O O O (fun m => Je rfl) ?_
  refine Jf O O O O (fun m => Vg hT O O O O O zix zix) ?_
  refine Jf O O O O (fun m => Jm hT O O O (hrd m [_] 1 (.int .u8 e1) rfl)) ?_
  refine Jf O O O O (fun m => y_conv (m := e1) hT O O O O (Wj (by omega) (by omega))) ?_
  refine Jf O O O O (fun m => Je rfl) ?_
  refine Jf O O O O (fun m => Vg hT O O O O O zix zix) ?_
  refine Jf O O O O (fun m => Jm hT O O O (hrd m [_] 2 (.int .u8 e2) rfl)) ?_
  refine Jf O O O O (fun m => y_conv (m := e2) hT O O O O (Wj (by omega) (by omega))) ?_
  refine Jf O O O O (fun m => Je rfl) ?_
  refine Jf O O O O (fun m => y_slice hT O O O O (.inr ⟨_, _, _, rfl, rfl, zcl⟩) (.inr ⟨_, _, _, rfl, rfl, zcl⟩) zix zix zix (by (first | exact .inl rfl | exact .inr rfl | assumption))) ?_
  refine Jf O O O O (fun m => y_callF e118 rfl (hnum _ _ _ zinl)) ?_
  refine Jf O O O O (fun m => Je rfl) ?_
  refine Jf O O O O (fun m => y_slice hT O O O O (.inr ⟨_, _, _, rfl, rfl, zcl⟩) (.inl ⟨rfl, rfl⟩) zix zix zix (by (first | exact .inl rfl | exact .inr rfl | assumption))) ?_
  refine Wf O O (fun fr => Jv e119 O O (rboth14_spec E _ _ (n - 11) (rs.drop 8) _ hdl zinl (by omega)) ?_)
  rintro _ _ ⟨a, c1, rfl, rfl⟩
  refine ⟨[_], (by (repeat (first | exact Jl | exact Vs | refine Jk Jp ?_))), ?_⟩
  refine Jf O O O O (fun m => y_build (cs := [_, _, _, _]) hT O O O O O O ⟨⟨zln, Nat.le_of_ble_eq_true rfl⟩, ⟨⟨zln, Nat.le_of_ble_eq_true rfl⟩, ⟨⟨zln, Nat.le_of_ble_eq_true rfl⟩, ⟨⟨zln, Nat.le_of_ble_eq_true rfl⟩, trivial⟩⟩⟩⟩ rfl) ?_
  refine JM.lay O O O O (fun a hf => lays_alloc hT O O zcl) (fun b3 => ?_)
  refine Wf O O (fun fr => Vf hT O O O zln zoc zpk zln (⟨[_, _], (by (repeat (first | exact Jl | exact Vs | refine Jk Jp ?_))), ?_⟩))
  refine Wi ?_
  refine Jb ?_
  refine Jh ?_
  by_cases h2 : e0 = 2
  all_goals
    refine Wn _ _ [(0, .q), (1, .q), (2, .q), (3, .q), (4, .q), (5, .q), (6, .q), (7, .q), (8, .q), (9, .q), (10, .q), (11, .q), (12, .q), (13, .q), (14, .l), (15, .q)] mixed (by kernel_rfl) (Jk (Vc (Vc Jp)) (Jl)) ?_
    refine Jf O O O O (fun m => Vu hT O O O zrdna zln) ?_
    refine Jf O O O O (fun m => Je rfl) ?_
    refine Jf O O O O (fun m => Vg hT O O O O O zix zix) ?_
    refine Jf O O O O (fun m => Jm hT O O O (hrd m [_, _] 0 (.int .u8 e0) rfl)) ?_
    first | refine Jf O O O O (fun m => y_eqlB O O (decide_eq_true h2)) ?_ | refine Jf O O O O (fun m => y_eqlB O O (decide_eq_false h2)) ?_
    refine Jf O O O O (fun m => Je rfl) ?_
    all_goals (first | refine Vv O O O O O O O ?_ | refine Vo O O O O O O ?_ | refine Vm O O O O O O (fun m => Ji hT O O O O O O) ?_)
    all_goals (first | refine Vv O O O O O O O ?_ | refine Vo O O O O O O ?_ | refine Vm O O O O O O (fun m => Jm hT O O O zrda) ?_)
    all_goals (first | refine Vv O O O O O O O ?_ | refine Vo O O O O O O ?_ | refine Vm O O O O O O (fun m => Ji hT O O O O O O) ?_)
    all_goals (first | refine Vv O O O O O O O ?_ | refine Vo O O O O O O ?_ | refine Vm O O O O O O (fun m => Jm hT O O O zrda) ?_)
    all_goals (first | refine Vv O O O O O O O ?_ | refine Vo O O O O O O ?_ | refine Vm O O O O O O (fun m => Ji hT O O O O O O) ?_)
    all_goals (first | refine Vv O O O O O O O ?_ | refine Vo O O O O O O ?_ | refine Vm O O O O O O (fun m => Jm hT O O O zrda) ?_)
    all_goals (first | refine Vv O O O O O O O ?_ | refine Vo O O O O O O ?_ | refine Vm O O O O O O (fun m => y_callF e120 rfl (rends_spec E e1 e2 rr _)) ?_)
    all_goals refine Jf O O O O (fun m => Wk O O O) ?_
    all_goals refine Wf O O (fun fr => Vf hT O O O zln zoc zpk zln (⟨[_], (by (repeat (first | exact Jl | exact Vs | refine Jk Jp ?_))), ?_⟩))
    all_goals refine Jf O O O O (fun m => Jd rfl) ?_
    all_goals refine Wi ?_
  all_goals refine Jb ?_
  all_goals
    refine Vi ?_
    refine Wb (.inl rfl) O O zrv zrv ?_
    have hup : isUp (e0 :: e1 :: e2 :: rs) = (decide (e0 = 2) && endsB e1 e2 rr) := by rw [← hrr]; rfl
    refine ⟨own 5 1 (.slice a (n - 11) c1) (n - 11) (ints .u8 (rs.drop 8)) :: l, fun w s => s.sup zsup, a, c1, ?_, rfl⟩
    rw [hup, ← hrr]
    first | (rw [decide_eq_true h2]; rfl) | (rw [decide_eq_false h2]; rfl)
end
end Go.Proofs.YtimekohdlofmaaaGreat
/- The document's chapter 22: an entry by value. -/
namespace Go.Proofs.YtimekohdlofmaaaGreat
open Go Go.SL
section
theorem downs_eq (last : BitVec 64) : ∀ (ks : List Int) (vs : List Value), downs last ks vs = (ks.zip vs).flatMap fun q => downE last q.1 q.2
  | [], _ => by simp [downs]
  | _ :: _, [] => by simp [downs]
  | k :: ks, v :: vs => by
    have h := downs_eq last ks vs
    unfold downs at h ⊢
    rw [List.zipWith_cons_cons, List.flatten_cons, h, List.zip_cons_cons, List.flatMap_cons]
/-- A place among places. -/
def insP (p : Int × List Int) : List (Int × List Int) → List (Int × List Int)
  | [] => [p]
  | q :: r => if p.1 < q.1 then p :: q :: r else q :: insP p r
theorem insP_perm (p : Int × List Int) : ∀ G, (insP p G).Perm (p :: G)
  | [] => List.Perm.refl _
  | q :: r => by
    unfold insP
    split
    · exact List.Perm.refl _
    · exact (List.Perm.cons q (insP_perm p r)).trans (List.Perm.swap p q r)
theorem insP_past {p : Int × List Int} {B : List (Int × List Int)} : ∀ {A : List (Int × List Int)}, (∀ q ∈ A, ¬ p.1 < q.1) → insP p (A ++ B) = A ++ insP p B
  | [], _ => rfl
  | q :: r, h => by
    rw [List.cons_append, insP, if_neg (h q (by simp)), insP_past fun x hx => h x (by simp [hx])]
    rfl
theorem insP_done {p : Int × List Int} {B : List (Int × List Int)} : ∀ {A : List (Int × List Int)}, (∃ q ∈ A, p.1 < q.1) → insP p (A ++ B) = insP p A ++ B
  | [], ⟨_, h, _⟩ => by simp at h
  | q :: r, ⟨x, hx, hl⟩ => by
    rw [List.cons_append, insP]
    by_cases hq : p.1 < q.1
    · rw [if_pos hq, insP, if_pos hq]; rfl
    · rw [if_neg hq, insP, if_neg hq, insP_done ⟨x, (List.mem_cons.1 hx).resolve_left (fun e => hq (e ▸ hl)), hl⟩]; rfl
theorem insP_mem {p x : Int × List Int} {G : List (Int × List Int)} : x ∈ insP p G ↔ x = p ∨ x ∈ G := by
  rw [(insP_perm p G).mem_iff, List.mem_cons]
theorem insP_placed {p : Int × List Int} : ∀ {G : List (Int × List Int)}, Placed G → (∀ q ∈ G, q.1 ≠ p.1) → Placed (insP p G)
  | [], _, _ => by simp [insP, Placed]
  | q :: r, h, hne => by
    unfold Placed at h
    rw [List.map_cons, List.pairwise_cons] at h
    have hr := insP_placed (p := p) (G := r) h.2 fun x hx => hne x (by simp [hx])
    unfold insP
    split
    · rename_i hl
      unfold Placed
      rw [List.map_cons, List.map_cons, List.pairwise_cons, List.pairwise_cons]
      refine ⟨fun x hx => ?_, h⟩
      rcases List.mem_cons.1 hx with rfl | hx
      · exact hl
      · have := h.1 x hx; omega
    · rename_i hl
      unfold Placed at hr ⊢
      rw [List.map_cons, List.pairwise_cons]
      refine ⟨fun x hx => ?_, hr⟩
      obtain ⟨y, hy, rfl⟩ := List.mem_map.1 hx
      rcases insP_mem.1 hy with rfl | hy
      · have := hne q (by simp); omega
      · exact h.1 _ (List.mem_map.2 ⟨y, hy, rfl⟩)
/-- What the reference has collected, as it lies in the memory. -/
structure RGot (K : HProp) (last : BitVec 64) (n : Nat) (ga : Option Addr) (gc : Nat) (vals : List Value) (G : List (Int × List Int)) : Prop where
  len : G.length = n
  few : n ≤ 1000
  inl : InL [K] ga n gc (downs last (G.map (·.1)) vals)
  txs : TxB K vals (G.map (·.2))
  keys : ∀ p ∈ G, 0 ≤ p.1 ∧ p.1 < 12
/-- An entry's cells. -/
def eV (last : BitVec 64) (ph hops : Int) (ga : Option Addr) (n gc : Nat) : List Value := [Q last, .int .i64 ph, .int .i64 hops, .slice ga n gc]
end
section
attribute [local irreducible] J JL JE JM LS Y Fc RV Code.wp wpList Code.wpIn wpListIn
attribute [local irreducible] Yc
variable (E : World)
theorem InL.rdn {l : List HProp} {b o n cap : Nat} {cs : List Value} (h : InL l (some ⟨b, o, none⟩) n cap cs) : RdN l b o cs := by
  rcases h.rd with ⟨b', o', e, hr⟩ | ⟨_, rfl⟩
  · simp only [Option.some.injEq, Addr.mk.injEq] at e
    obtain ⟨rfl, rfl, _⟩ := e
    exact hr []
  · exact RdN.nil
theorem rabort_spec (last : BitVec 64) (ph hops : Int) (ga : Option Addr) (n gc : Nat) (l : List HProp) :
    Fc prog E 36 [.agg (eV last ph hops ga n gc).toArray].toArray l (fun v l' => v = (if ph = 0 then .tuple #[.agg (eV last ph hops ga n gc).toArray, .int .i64 322] else .tuple #[.agg (eV last 0 0 none 0 0).toArray, .int .i64 0]) ∧ l' = l) := by
  refine Wo ?_
  by_cases hp : ph = 0
  · subst hp
    refine Js (c := ?codeC) Tryz.func36 ?hb Tryz.ntmps36 ?hl ?_
    case hb => exact rfl
    case hl => exact rfl
    refine Jh ?_
    refine Jc ?_
    refine Jj rfl (l_box (cs := eV last 0 hops ga n gc) O O O (fun bo => ?_))
    refine Jj rfl (Vt hT O O zcl rfl (fun b1 => ?_))
    refine Ja (Jd rfl) O O O ?_
    refine Jg ?_
    refine Jb ?_
    refine Jh ?_
    refine Jh ?_
    refine Jc ?_
    refine Ja (Ji hT O O O O O O) O O O ?_
    refine Ja (Jm hT O O O zrd) O O O ?_
    refine Ja (y_eql O O) O O O ?_
    refine Jg ?_
    refine Jb ?_
    refine Wp rfl zbl ?_
    refine Jh ?_
    refine Jc ?_
    refine Ja (Vu hT O O O zrdn zln) O O O ?_
    refine Jj rfl (Vf hT O O O zln zoc zpk zln ?_)
    refine Ja (Jd rfl) O O O ?_
    refine Jg ?_
    refine Jb ?_
    refine Vi ?_
    refine Jw ?_
    refine Wb (.inl rfl) O O zrv zrv ?_
    exact ⟨rfl, fun w s => s.sup zsup⟩
  · rw [if_neg hp]
    have hd : decide (ph = 0) = false := decide_eq_false hp
    refine Js (c := ?codeC) Tryz.func36 ?hb Tryz.ntmps36 ?hl ?_
    case hb => exact rfl
    case hl => exact rfl
    refine Jh ?_
    refine Jc ?_
    refine Jj rfl (l_box (cs := eV last ph hops ga n gc) O O O (fun bo => ?_))
    refine Jj rfl (Vt hT O O zcl rfl (fun b1 => ?_))
    refine Ja (Jd rfl) O O O ?_
    refine Jg ?_
    refine Jb ?_
    refine Jh ?_
    refine Jh ?_
    refine Jc ?_
    refine Ja (Ji hT O O O O O O) O O O ?_
    refine Ja (Jm hT O O O zrd) O O O ?_
    refine Ja (y_eql O O) O O O ?_
    refine Jg ?_
    refine Jb ?_
    refine Jz rfl zbl ?_
    refine Ve ?_
    refine Jb ?_
    refine Jh ?_
    refine Jc ?_
    refine Ja (Ji hT O O O O O O) O O O ?_
    refine Ja (Jm hT O O O zrd) O O O ?_
    refine Ja (y_build (cs := [_, _, _, _]) hT O O O O O O ⟨⟨zln, Nat.le_of_ble_eq_true rfl⟩, trivial⟩ rfl) O O O ?_
    refine Jj rfl (Vf hT O O O zln zoc zpk zln ?_)
    refine Ja (Jd rfl) O O O ?_
    refine Jg ?_
    refine Jb ?_
    refine Vi ?_
    refine Wb (.inl rfl) O O zrv zrv ?_
    exact ⟨rfl, fun w s => s.sup zsup⟩
theorem rannounce_spec (last : BitVec 64) (ph hops k : Int) (ga : Option Addr) (n gc : Nat) (l : List HProp) :
    Fc prog E 31 [.agg (eV last ph hops ga n gc).toArray, .int .i64 k].toArray l (fun v l' => v = (if ph ≠ 0 then .tuple #[.agg (eV last ph hops ga n gc).toArray, .int .i64 321] else if k < 1 ∨ 3 < k then .tuple #[.agg (eV last ph hops ga n gc).toArray, .int .i64 241] else .tuple #[.agg (eV (last + 1#64) 1 k none 0 0).toArray, .int .i64 0]) ∧ l' = l) := by
  refine Wo ?_
  by_cases hp : ph = 0
  · subst hp
    rw [if_neg (by simp)]
    refine Js (c := ?codeC) Tryz.func31 ?hb Tryz.ntmps31 ?hl ?_
    case hb => exact rfl
    case hl => exact rfl
    refine Jh ?_
    refine Jc ?_
    refine Jj rfl (l_box (cs := eV last 0 hops ga n gc) O O O (fun bo => ?_))
    refine Jj rfl (Vt hT O O zcl rfl (fun b1 => ?_))
    refine Ja (Jd rfl) O O O ?_
    refine Jg ?_
    refine Jb ?_
    refine Jh ?_
    refine Vh ?_
    refine Jh ?_
    refine Jc ?_
    refine Ja (Ji hT O O O O O O) O O O ?_
    refine Ja (Jm hT O O O zrd) O O O ?_
    refine Ja (Wa O O) O O O (Ja (Jd rfl) O O O ?_)
    refine Jg ?_
    refine Jb ?_
    refine Jz rfl zbl ?_
    refine Jh ?_
    refine Jc ?_
    refine Ja (Je rfl) O O O (Ja (y_lss O O) O O O (Ja (Je rfl) O O O ?_))
    all_goals (first | (refine Vj O O O (fun h => ?_) (fun h => ?_) <;> try (first | (exfalso; omega) | exact absurd rfl h)) | (refine Vz O O O (fun h => ?_) (fun h => ?_) <;> try (first | cases h | (exfalso; simp at h; done))) | skip)
    all_goals (first | refine Jt O O O O O O ?_ | refine Jq O O O O O ?_ | refine Ju O O O (Je rfl) O O ?_)
    all_goals (first | refine Jt O O O O O O ?_ | refine Jq O O O O O ?_ | refine Ju O O O (y_gtr O O) O O ?_)
    all_goals (refine Ja (Wk O O O) O O O ?_)
    all_goals (refine Ja (Jd rfl) O O O ?_)
    all_goals refine Jg ?_
    all_goals refine Jb ?_
    all_goals
      first | apply Vb rfl | apply Vq rfl
      case' ht =>
        intro h
        try (first | (exfalso; omega) | (cases h; done) | (exfalso; simp at h; done) | subst h)
        all_goals
          refine Jh ?_
          refine Jc ?_
          refine Ja (Vu hT O O O zrdn zln) O O O ?_
          refine Jj rfl (Vf hT O O O zln zoc zpk zln ?_)
          refine Ja (Jd rfl) O O O ?_
          refine Jg ?_
          refine Jb ?_
          refine Vi ?_
          refine Vl ?_
          refine Jw ?_
          refine Wb (.inl rfl) O O zrv zrv ?_
          refine ⟨?_, fun w s => s.sup zsup⟩
          split <;> first | rfl | (exfalso; simp at *; omega)
      case' hf =>
        intro h
        try (first | (exfalso; omega) | (cases h; done) | (exfalso; simp at h; done) | subst h)
        all_goals
          refine Ve ?_
    all_goals refine Jy ?_
    all_goals refine Jb ?_
    all_goals
      refine Jh ?_
      refine Jc ?_
      refine Ja (Ji hT O O O O O O) O O O ?_
      refine Ja (Jm hT O O O zrd) O O O ?_
      refine Ja ((by first | exact y_addQ O O | exact Wg O O zwr)) O O O ?_
      refine Ja (Je rfl) O O O ?_
      refine Ja (y_build (cs := [_, _, _, _]) hT O O O O O O ⟨⟨zln, Nat.le_of_ble_eq_true rfl⟩, ⟨⟨zln, Nat.le_of_ble_eq_true rfl⟩, ⟨⟨zln, Nat.le_of_ble_eq_true rfl⟩, trivial⟩⟩⟩ rfl) O O O ?_
      refine Jj rfl (Vf hT O O O zln zoc zpk zln ?_)
      refine Ja (Jd rfl) O O O ?_
      refine Jg ?_
      refine Jb ?_
      refine Vi ?_
      refine Wb (.inl rfl) O O zrv zrv ?_
      refine ⟨?_, fun w s => s.sup zsup⟩
      split <;> first | rfl | (exfalso; simp at *; omega)
  · rw [if_pos hp]
    have hd : decide (¬ ph = 0) = true := decide_eq_true hp
    refine Js (c := ?codeC) Tryz.func31 ?hb Tryz.ntmps31 ?hl ?_
    case hb => exact rfl
    case hl => exact rfl
    refine Jh ?_
    refine Jc ?_
    refine Jj rfl (l_box (cs := eV last ph hops ga n gc) O O O (fun bo => ?_))
    refine Jj rfl (Vt hT O O zcl rfl (fun b1 => ?_))
    refine Ja (Jd rfl) O O O ?_
    refine Jg ?_
    refine Jb ?_
    refine Jh ?_
    refine Vh ?_
    refine Jh ?_
    refine Jc ?_
    refine Ja (Ji hT O O O O O O) O O O ?_
    refine Ja (Jm hT O O O zrd) O O O ?_
    refine Ja (Wa O O) O O O (Ja (Jd rfl) O O O ?_)
    refine Jg ?_
    refine Jb ?_
    refine Wp rfl zbl ?_
    refine Jh ?_
    refine Jc ?_
    refine Ja (Vu hT O O O zrdn zln) O O O ?_
    refine Jj rfl (Vf hT O O O zln zoc zpk zln ?_)
    refine Ja (Jd rfl) O O O ?_
    refine Jg ?_
    refine Jb ?_
    refine Vi ?_
    refine Vl ?_
    refine Jw ?_
    refine Wb (.inl rfl) O O zrv zrv ?_
    exact ⟨rfl, fun w s => s.sup zsup⟩
theorem rcollect_shut (last : BitVec 64) (ph hops : Int) (ga : Option Addr) (n gc : Nat) (hph : ph ≠ 1) (v : Value) (l : List HProp) :
    Fc prog E 33 [.agg (eV last ph hops ga n gc).toArray, v].toArray l (fun v l' => v = .tuple #[.agg (eV last ph hops ga n gc).toArray, .int .i64 322] ∧ l' = l) := by
  refine Wo ?_
  have hd : decide (¬ ph = 1) = true := decide_eq_true hph
  refine Js (c := ?codeC) Tryz.func33 ?hb Tryz.ntmps33 ?hl ?_
  case hb => exact rfl
  case hl => exact rfl
  refine Jh ?_
  refine Jc ?_
  refine Jj rfl (l_box (cs := eV last ph hops ga n gc) O O O (fun bo => ?_))
  refine Jj rfl (Vt hT O O zcl rfl (fun b1 => ?_))
  refine Ja (Jd rfl) O O O ?_
  refine Jg ?_
  refine Jb ?_
  refine Jh ?_
  refine Jh ?_
  refine Jc ?_
  refine Ja (Ji hT O O O O O O) O O O ?_
  refine Ja (Jm hT O O O zrd) O O O ?_
  refine Ja (Wa O O) O O O ?_
  refine Jg ?_
  refine Jb ?_
  refine Wp rfl zbl ?_
  refine Jh ?_
  refine Jc ?_
  refine Ja (Vu hT O O O zrdn zln) O O O ?_
  refine Jj rfl (Vf hT O O O zln zoc zpk zln ?_)
  refine Ja (Jd rfl) O O O ?_
  refine Jg ?_
  refine Jb ?_
  refine Vi ?_
  refine Jw ?_
  refine Wb (.inl rfl) O O zrv zrv ?_
  exact ⟨rfl, fun w s => s.sup zsup⟩
theorem hops_onion (n : Int) : hopsN n = 0 ↔ onionB n = false := by
  unfold hopsN onionB
  rw [decide_eq_false_iff_not]
  split
  · simp; omega
  · split
    · simp; omega
    · split
      · simp; omega
      · simp; omega
theorem hops_size {n hops : Int} (h1 : 1 ≤ hops) (h3 : hops ≤ 3) (hn : onionB n = true) : hopsN n = hops ↔ n = onionN hops := by
  have hn := of_decide_eq_true hn
  have e : onionN hops = 146 + 48 * hops := if_pos ⟨h1, h3⟩
  rw [e]
  rcases hn with rfl | rfl | rfl
  · rw [show hopsN 194 = 1 from rfl]; omega
  · rw [show hopsN 242 = 2 from rfl]; omega
  · rw [show hopsN 290 = 3 from rfl]; omega
/-- A prefix, with one put into it if its place has come. -/
def Pre (p : Int × List Int) (A : List (Int × List Int)) (put : Bool) (out : List (Int × List Int)) : Prop := (put = false ∧ out = A ∧ ∀ q ∈ A, ¬ p.1 < q.1) ∨ (put = true ∧ out = insP p A ∧ ∃ q ∈ A, p.1 < q.1)
theorem Pre.put {p x : Int × List Int} {A out : List (Int × List Int)} (h : Pre p A false out) (hl : p.1 < x.1) : Pre p (A ++ [x]) true (out ++ [p] ++ [x]) := by
  rcases h with ⟨_, rfl, h⟩ | ⟨h, _⟩
  · refine .inr ⟨rfl, ?_, x, by simp, hl⟩
    rw [insP_past h, insP, if_pos hl]
    simp
  · cases h
theorem Pre.pass {p x : Int × List Int} {A out : List (Int × List Int)} {put : Bool} (h : Pre p A put out) (hl : put = false → ¬ p.1 < x.1) : Pre p (A ++ [x]) put (out ++ [x]) := by
  rcases h with ⟨rfl, rfl, h⟩ | ⟨rfl, rfl, q, hq, h⟩
  · exact .inl ⟨rfl, rfl, fun z hz => by
      rcases List.mem_append.1 hz with g | g
      · exact h z g
      · rw [List.mem_singleton.1 g]; exact hl rfl⟩
  · exact .inr ⟨rfl, (insP_done ⟨q, hq, h⟩).symm, q, by simp [hq], h⟩
theorem Pre.len {p : Int × List Int} {G out : List (Int × List Int)} {j : Nat} (h : Pre p (G.take j) false out) : out.length ≤ j := by
  rcases h with ⟨_, rfl, _⟩ | ⟨h, _⟩
  · rw [List.length_take]; exact Nat.min_le_left _ _
  · cases h
theorem Pre.done {p : Int × List Int} {A out : List (Int × List Int)} (h : Pre p A true out) : out = insP p A := by
  rcases h with ⟨h, _⟩ | ⟨_, h, _⟩
  · cases h
  · exact h
theorem Pre.last {p : Int × List Int} {A out : List (Int × List Int)} (h : Pre p A false out) : out ++ [p] = insP p A := by
  rcases h with ⟨_, rfl, h⟩ | ⟨h, _⟩
  · have := insP_past (B := []) h
    rw [List.append_nil] at this
    rw [this]
    rfl
  · cases h
theorem down_key {c s : Int} (hs : 0 ≤ s ∧ s < 3) (hc : 0 ≤ c ∧ c < 4) : (c * 3 + s).tdiv 3 = c ∧ (c * 3 + s).tmod 3 = s := by
  have h0 : 0 ≤ c * 3 + s := by omega
  rw [Int.tdiv_eq_ediv_of_nonneg h0, Int.tmod_eq_emod_of_nonneg h0]
  omega
theorem key_parts {k : Int} (h : 0 ≤ k) : k.tdiv 3 * 3 + k.tmod 3 = k ∧ 0 ≤ k.tmod 3 ∧ k.tmod 3 < 3 ∧ 0 ≤ k.tdiv 3 := by
  rw [Int.tdiv_eq_ediv_of_nonneg h, Int.tmod_eq_emod_of_nonneg h]
  omega
set_option maxHeartbeats 1000000 in
theorem rcollect_spec (last : BitVec 64) (hops : Int) (ga : Option Addr) (n gc : Nat) (vals : List Value) (K : HProp) (G : List (Int × List Int)) (p : Option Addr) (cap m : Nat) (bs : List Int) (l : List HProp) (hR : RGot K last n ga gc vals G) (h1 : 1 ≤ hops) (h3 : hops ≤ 3) (hm : bs.length = m) (hm2 : m ≤ 1000000) (hb : Bytes bs) (hin : InL l p m cap (ints .u8 bs)) :
    Fc prog E 33 [.agg (eV last 1 hops ga n gc).toArray, .slice p m cap].toArray (K :: l) (fun v l' => (colE last hops G bs ≠ 0 ∧ v = .tuple #[.agg (eV last 1 hops ga n gc).toArray, .int .i64 (colE last hops G bs)] ∧ l' = K :: l) ∨
      (colE last hops G bs = 0 ∧ ∃ ga' gc' vals' K', v = .tuple #[.agg (eV last 1 hops ga' (n + 1) gc').toArray, .int .i64 0] ∧ l' = K' :: l ∧ (n < 1000 → RGot K' last (n + 1) ga' gc' vals' (insP (placeN bs, bs.drop 11) G)))) := by
  refine Wh ?_
  have hn := hR.len
  have hfew := hR.few
  have hvl : vals.length = n := by rw [hR.txs.len, List.length_map]; exact hn
  obtain ⟨ob, hob⟩ : ∃ ob, onionB ((m : Int) - 11) = ob := ⟨_, rfl⟩
  have hzero : hopsN ((m : Int) - 11) = 0 ↔ ob = false := by rw [← hob]; exact hops_onion _
  cases ob with
  | false =>
    have hE : colE last hops G bs = 240 := by
      have hu : upE bs = 240 := by unfold upE; rw [hm, if_pos hob]
      unfold colE
      rw [if_pos (by rw [hu]; decide), hu]
    have hd : decide (hopsN ((m : Int) - 11) = 0) = true := decide_eq_true (hzero.2 rfl)
    refine Js (c := ?codeC) Tryz.func33 ?hb Tryz.ntmps33 ?hl ?_
    case hb => exact rfl
    case hl => exact rfl
    refine Jh ?_
    refine Jc ?_
    refine Jj rfl (l_box (cs := eV last 1 hops ga n gc) O O O (fun bo => ?_))
    refine Jj rfl (Vt hT O O zcl rfl (fun b1 => ?_))
    refine Ja (Jd rfl) O O O ?_
    refine Jg ?_
    refine Jb ?_
    refine Jh ?_
    refine Jh ?_
    refine Jc ?_
    refine Ja (Ji hT O O O O O O) O O O ?_
    refine Ja (Jm hT O O O zrd) O O O ?_
    refine Ja (Wa O O) O O O ?_
    refine Jg ?_
    refine Jb ?_
    refine Jz rfl zbl ?_
    refine Ve ?_
    refine Jb ?_
    refine Jh ?_
    refine Jc ?_
    refine Ja (Je rfl) O O O (Ja (Va hT O O O) O O O ?_)
    refine Ja (y_sub O O zwr) O O O ?_
    refine Jj rfl (Jv e77 O O (ronion_spec E _ _) ?_)
    rintro _ _ ⟨rfl, rfl⟩
    refine Ja (Jd rfl) O O O ?_
    refine Jg ?_
    refine Jb ?_
    refine Jh ?_
    refine Jh ?_
    refine Jc ?_
    refine Ja (Je rfl) O O O (Ja (y_eql O O) O O O ?_)
    refine Jg ?_
    refine Jb ?_
    refine Wp rfl zbl ?_
    refine Jh ?_
    refine Jc ?_
    refine Ja (Vu hT O O O zrdn zln) O O O ?_
    refine Jj rfl (Vf hT O O O zln zoc zpk zln ?_)
    refine Ja (Jd rfl) O O O ?_
    refine Jg ?_
    refine Jb ?_
    refine Vi ?_
    refine Jw ?_
    refine Wb (.inl rfl) O O zrv zrv ?_
    exact ⟨K :: l, fun w s => s.sup zsup, .inl ⟨by rw [hE]; decide, by rw [hE], rfl⟩⟩
  | true =>
    have hd : decide (hopsN ((m : Int) - 11) = 0) = false := decide_eq_false (fun h => by have := hzero.1 h; cases this)
    have hm3 : (m : Int) - 11 = 194 ∨ (m : Int) - 11 = 242 ∨ (m : Int) - 11 = 290 := of_decide_eq_true hob
    obtain ⟨iu, hiu⟩ : ∃ iu, isUp bs = iu := ⟨_, rfl⟩
    have hgu : ∀ l, InL l p m cap (ints .u8 bs) → Fc prog E 78 [.slice p m cap].toArray l (fun v l' => ∃ a c', v = .tuple #[.agg #[.int .i64 (bs.getD 1 0), .int .i64 (bs.getD 2 0), Q (roundN bs), .slice a (m - 11) c'], .bool iu] ∧ l' = own 5 1 (.slice a (m - 11) c') (m - 11) (ints .u8 (bs.drop 11)) :: l) := fun l h => by
      have z := rgetup_spec E p cap m bs l hm (by omega) (by omega) hb h
      rw [hiu] at z
      exact z
    cases iu with
    | false =>
      have hE : colE last hops G bs = 241 := by
        have hu : upE bs = 241 := by
          unfold upE
          rw [hm, if_neg (by rw [hob]; decide), if_pos (by
            unfold isUp at hiu
            rw [Bool.and_eq_false_iff] at hiu
            rcases hiu with q | q
            · exact .inl (of_decide_eq_false q)
            · exact .inr q)]
        unfold colE
        rw [if_pos (by rw [hu]; decide), hu]
      refine Js (c := ?codeC) Tryz.func33 ?hb Tryz.ntmps33 ?hl ?_
      case hb => exact rfl
      case hl => exact rfl
      refine Jh ?_
      refine Jc ?_
      refine Jj rfl (l_box (cs := eV last 1 hops ga n gc) O O O (fun bo => ?_))
      refine Jj rfl (Vt hT O O zcl rfl (fun b1 => ?_))
      refine Ja (Jd rfl) O O O ?_
      refine Jg ?_
      refine Jb ?_
      refine Jh ?_
      refine Jh ?_
      refine Jc ?_
      refine Ja (Ji hT O O O O O O) O O O ?_
      refine Ja (Jm hT O O O zrd) O O O ?_
      refine Ja (Wa O O) O O O ?_
      refine Jg ?_
      refine Jb ?_
      refine Jz rfl zbl ?_
      refine Ve ?_
      refine Jb ?_
      refine Jh ?_
      refine Jc ?_
      refine Ja (Je rfl) O O O (Ja (Va hT O O O) O O O ?_)
      refine Ja (y_sub O O zwr) O O O ?_
      refine Jj rfl (Jv e77 O O (ronion_spec E _ _) ?_)
      rintro _ _ ⟨rfl, rfl⟩
      refine Ja (Jd rfl) O O O ?_
      refine Jg ?_
      refine Jb ?_
      refine Jh ?_
      refine Jh ?_
      refine Jc ?_
      refine Ja (Je rfl) O O O (Ja (y_eql O O) O O O ?_)
      refine Jg ?_
      refine Jb ?_
      refine Jz rfl zbl ?_
      refine Ve ?_
      refine Jb ?_
      refine Jh ?_
      refine Jc ?_
      refine Ja (Je rfl) O O O ?_
      refine Jj rfl (Jv e78 O O (hgu _ zinl) ?_)
      rintro _ _ ⟨a, c', rfl, rfl⟩
      refine Ja (Je rfl) O O O (Ja (Jx O O) O O O (Ja (Jx O O) O O O ?_))
      refine Jj rfl (Vt hT O O zcl rfl (fun b4 => ?_))
      refine Jj rfl (Vf hT O O O zln zoc zpk zln ?_)
      refine Ja (Jd rfl) O O O ?_
      refine Jg ?_
      refine Jb ?_
      refine Jh ?_
      refine Vh ?_
      refine Jh ?_
      refine Jc ?_
      refine Ja (Je rfl) O O O (Ja (y_not rfl) O O O (Ja (Jd rfl) O O O ?_))
      refine Jg ?_
      refine Jb ?_
      refine Wp rfl zbl ?_
      refine Jh ?_
      refine Jc ?_
      refine Ja (Vu hT O O O zrdn zln) O O O ?_
      refine Jj rfl (Vf hT O O O zln zoc zpk zln ?_)
      refine Ja (Jd rfl) O O O ?_
      refine Jg ?_
      refine Jb ?_
      refine Vi ?_
      refine Vl ?_
      refine Jw ?_
      refine Wb (.inl rfl) O O zrv zrv ?_
      exact ⟨K :: l, fun w s => s.sup zsup, .inl ⟨by rw [hE]; decide, by rw [hE], rfl⟩⟩
    | true =>
      have hup : upE bs = 0 := by
        unfold isUp at hiu
        rw [Bool.and_eq_true] at hiu
        unfold upE
        rw [hm, if_neg (by rw [hob]; decide), if_neg (fun q => q.elim (fun z => z (of_decide_eq_true hiu.1)) (fun z => by rw [hiu.2] at z; cases z))]
      obtain ⟨_, _, hends⟩ := upE_zero hup
      have hcs : 0 ≤ bs.getD 1 0 ∧ bs.getD 1 0 < 4 ∧ 0 ≤ bs.getD 2 0 ∧ bs.getD 2 0 < 3 ∧ 0 < (roundN bs).toNat := of_decide_eq_true hends
      have hsz : hopsN ((m : Int) - 11) = hops ↔ ((bs.length - 11 : Nat) : Int) = onionN hops := by
        rw [hops_size h1 h3 hob, hm, show ((m - 11 : Nat) : Int) = (m : Int) - 11 by omega]
      by_cases hs : hopsN ((m : Int) - 11) = hops
      · by_cases hr : roundN bs = last
        · have hE : colE last hops G bs = if ∃ p ∈ G, p.1 = placeN bs then 5 else 0 := by
            unfold colE
            rw [if_neg (by rw [hup]; decide), if_neg (fun z => z (hsz.1 hs)), if_neg (fun z => z hr)]
          have hd4 : decide (¬ hopsN ((m : Int) - 11) = hops) = false := decide_eq_false (fun z => z hs)
          have hd5 : decide (¬ ((roundN bs).toNat : Int) = (last.toNat : Int)) = false := decide_eq_false (fun z => z (by rw [hr]))
          obtain ⟨pp, hpp⟩ : ∃ pp : Int × List Int, (placeN bs, bs.drop 11) = pp := ⟨_, rfl⟩
          have hp1 : pp.1 = bs.getD 1 0 * 3 + bs.getD 2 0 := by rw [← hpp]; rfl
          have hp2 : pp.2 = bs.drop 11 := by rw [← hpp]
          have hpk := down_key ⟨hcs.2.2.1, hcs.2.2.2.1⟩ ⟨hcs.1, hcs.2.1⟩
          rw [← hp1] at hpk
          have hdl : (bs.drop 11).length = m - 11 := by simp [hm]
          have hpl : pp.2.length = m - 11 := by rw [hp2]; exact hdl
          have hcell : ∀ v, downE last pp.1 v = [.int .i64 (bs.getD 1 0), .int .i64 (bs.getD 2 0), Q (roundN bs), v] := fun v => by unfold downE; rw [hpk.1, hpk.2, hr]
          have hzl : ∀ x ∈ (G.map (·.1)).zip vals, (downE last x.1 x.2).length = 4 := fun _ _ => rfl
          refine Js (c := ?codeC) Tryz.func33 ?hb Tryz.ntmps33 ?hl ?_
          case hb => exact rfl
          case hl => exact rfl
          refine Jh ?_
          refine Jc ?_
          refine Jj rfl (l_box (cs := eV last 1 hops ga n gc) O O O (fun bo => ?_))
          refine Jj rfl (Vt hT O O zcl rfl (fun br => ?_))
          refine Ja (Jd rfl) O O O ?_
          refine Jg ?_
          refine Jb ?_
          refine Jh ?_
          refine Jh ?_
          refine Jc ?_
          refine Ja (Ji hT O O O O O O) O O O ?_
          refine Ja (Jm hT O O O zrd) O O O ?_
          refine Ja (Wa O O) O O O ?_
          refine Jg ?_
          refine Jb ?_
          refine Jz rfl zbl ?_
          refine Ve ?_
          refine Jb ?_
          refine Jh ?_
          refine Jc ?_
          refine Ja (Je rfl) O O O (Ja (Va hT O O O) O O O ?_)
          refine Ja (y_sub O O zwr) O O O ?_
          refine Jj rfl (Jv e77 O O (ronion_spec E _ _) ?_)
          rintro _ _ ⟨rfl, rfl⟩
          refine Ja (Jd rfl) O O O ?_
          refine Jg ?_
          refine Jb ?_
          refine Jh ?_
          refine Jh ?_
          refine Jc ?_
          refine Ja (Je rfl) O O O (Ja (y_eql O O) O O O ?_)
          refine Jg ?_
          refine Jb ?_
          refine Jz rfl zbl ?_
          refine Ve ?_
          refine Jb ?_
          refine Jh ?_
          refine Jc ?_
          refine Ja (Je rfl) O O O ?_
          refine Jj rfl (Jv e78 O O (hgu _ zinl) ?_)
          rintro _ _ ⟨a, c', rfl, rfl⟩
          refine Ja (Je rfl) O O O (Ja (Jx O O) O O O (Ja (Jx O O) O O O ?_))
          refine Jj rfl (Vt hT O O zcl rfl (fun bu => ?_))
          refine Jj rfl (Vf hT O O O zln zoc zpk zln ?_)
          refine Ja (Jd rfl) O O O ?_
          refine Jg ?_
          refine Jb ?_
          refine Jh ?_
          refine Vh ?_
          refine Jh ?_
          refine Jc ?_
          refine Ja (Je rfl) O O O (Ja (y_not rfl) O O O (Ja (Jd rfl) O O O ?_))
          refine Jg ?_
          refine Jb ?_
          refine Jz rfl zbl ?_
          refine Jh ?_
          refine Jc ?_
          refine Ja (Je rfl) O O O (Ja (Ji hT O O O O O O) O O O ?_)
          refine Ja (Jm hT O O O zrd) O O O ?_
          refine Ja (Wa O O) O O O (Ja (Jd rfl) O O O ?_)
          refine Jg ?_
          refine Jb ?_
          refine Jz rfl zbl ?_
          refine Jh ?_
          refine Jc ?_
          refine Ja (Ji hT O O O O O O) O O O ?_
          refine Ja (Jm hT O O O zrd) O O O ?_
          refine Ja (Ji hT O O O O O O) O O O ?_
          refine Ja (Jm hT O O O zrd) O O O ?_
          refine Ja (Wa O O) O O O (Ja (Jd rfl) O O O ?_)
          refine Jg ?_
          refine Jb ?_
          refine Jz rfl zbl ?_
          refine Ve ?_
          refine Jy ?_
          refine Jb ?_
          refine Jh ?_
          refine Jc ?_
          refine Ja (Jd rfl) O O O ?_
          refine Jg ?_
          refine Jb ?_
          refine Jh ?_
          refine Jc ?_
          refine Ja (Jd rfl) O O O ?_
          refine Jg ?_
          refine Jb ?_
          refine Jh ?_
          refine Jh ?_
          refine Jc ?_
          refine Ja (Ji hT O O O O O O) O O O ?_
          refine Ja (Jm hT O O O zrd) O O O ?_
          refine Ja (Va hT O O O) O O O (Ja (Je rfl) O O O ?_)
          refine Jg ?_
          refine Jb ?_
          refine Vh ?_
          obtain ⟨KS, hKS⟩ : ∃ KS, stars [own 5 1 (.slice a (m - 11) c') (m - 11) (ints .u8 (bs.drop 11)), K] = KS := ⟨_, rfl⟩
          refine J.fact (p := OwnAt a (m - 11) c' (ints .u8 (bs.drop 11))) (fun w s => Vx (s.pick zpk)) fun oo => ?_
          have hon : InL [KS] a pp.2.length c' (ints .u8 pp.2) := by
            rw [hp2, hdl, ← hKS]
            exact InL.keepL (oo.inl Jp)
          have hgot : InL [KS] ga n gc (downs last (G.map (·.1)) vals) := by rw [← hKS]; exact hR.inl.keepR
          have hgx : TxB KS vals (G.map (·.2)) := by rw [← hKS]; exact hR.txs.keepR
          refine J.loop (α := Nat × Bool × Option Addr × Nat × List Value × List (Int × List Int)) (fun s => s.1 ≤ n ∧ s.2.2.2.2.2.length ≤ s.1 + 1 ∧ Pre pp (G.take s.1) s.2.1 s.2.2.2.2.2 ∧ TxB KS s.2.2.2.2.1 (s.2.2.2.2.2.map (·.2)) ∧ ∀ q ∈ G.take s.1, q.1 ≠ pp.1)
            (fun s => [(2, .pointer (some ⟨bo, 0, none⟩)), (4, .pointer (some ⟨br, 0, none⟩)), (7, .pointer (some ⟨bu, 0, none⟩)), (9, .slice s.2.2.1 s.2.2.2.2.2.length s.2.2.2.1), (10, .bool s.2.1), (47, .slice ga n gc), (48, .int .i64 n), (49, .int .i64 s.1)])
            (fun s => own 54 4 (.slice s.2.2.1 s.2.2.2.2.2.length s.2.2.2.1) s.2.2.2.2.2.length (downs last (s.2.2.2.2.2.map (·.1)) s.2.2.2.2.1) :: KS :: row bu 54 [.int .i64 (bs.getD 1 0), .int .i64 (bs.getD 2 0), Q (roundN bs), .slice a (m - 11) c'] :: row bo 68 (eV last 1 hops ga n gc) :: row br 68 [.int .u64 0, .int .i64 0, .int .i64 0, .slice none 0 0] :: l)
            (fun s => n - s.1) (0, false, none, 0, [], []) ⟨Nat.zero_le _, by simp, .inl ⟨rfl, rfl, by simp⟩, TxB.none _, by simp⟩ ⟨O, O, O, O, O, O, O, O, trivial⟩ (fun w s => ?_) ?_
          · have s1 := s.sup (p := own 5 1 (.slice a (m - 11) c') (m - 11) (ints .u8 (bs.drop 11)) :: K :: row bu 54 [.int .i64 (bs.getD 1 0), .int .i64 (bs.getD 2 0), Q (roundN bs), .slice a (m - 11) c'] :: row bo 68 (eV last 1 hops ga n gc) :: row br 68 [.int .u64 0, .int .i64 0, .int .i64 0, .slice none 0 0] :: l) zsup
            have s2 := Sat.fold (m := [own 5 1 (.slice a (m - 11) c') (m - 11) (ints .u8 (bs.drop 11)), K]) s1
            rw [hKS] at s2
            exact Sat.own_nil s2
          rintro ⟨j, put, qa, qc, vs, out⟩ ⟨hj, hol, hpre, htx, hne⟩
          dsimp only at hj hol hpre htx hne ⊢
          refine Jh ?_
          refine Jc ?_
          refine Ja (y_lss O O) O O O ?_
          refine Jg ?_
          refine Jb ?_
          refine Jh ?_
          first | apply Vb rfl | apply Vq rfl
          case' ht =>
            intro h
            try (first | (exfalso; omega) | (cases h; done) | (exfalso; simp at h; done) | subst h)
            all_goals
              have hlt : j < n := by omega
              obtain ⟨⟨k, b⟩, hx⟩ : ∃ q, G[j]? = some q := ⟨_, List.getElem?_eq_getElem (by omega)⟩
              obtain ⟨vq, vc, hv, hvi⟩ := hgx.get j b (by simp [hx])
              obtain ⟨gg, go, rfl, hgr⟩ := hgot.rd.resolve_right fun ⟨h0, _⟩ => by have := hgot.le; omega
              have hzj : ((G.map (·.1)).zip vals)[j]? = some (k, .slice vq b.length vc) := by
                rw [List.getElem?_zip_eq_some]
                exact ⟨by simp [hx], hv⟩
              have hk12 := hR.keys _ (List.mem_of_getElem? hx)
              dsimp only at hk12
              have hkp := key_parts hk12.1
              have htk : G.take (j + 1) = G.take j ++ [(k, b)] := by rw [List.take_add_one, hx]; rfl
              refine Ve ?_
          case' hf =>
            intro h
            try (first | (exfalso; omega) | (cases h; done) | (exfalso; simp at h; done) | subst h)
            all_goals
              obtain rfl : j = n := by omega
              rw [List.take_of_length_le (by omega)] at hpre hne
              refine J.exit ?_
              refine Vd ?_
              refine Vd ?_
              refine Vn ?_
              refine Jb ?_
              refine Jh ?_
              refine Jh ?_
              refine Jc ?_
              refine Ja (Je rfl) O O O (Ja (y_not rfl) O O O ?_)
              refine Jg ?_
              refine Jb ?_
              first | apply Vb rfl | apply Vq rfl
              case' ht =>
                intro h
                try (first | (exfalso; omega) | (cases h; done) | (exfalso; simp at h; done) | subst h)
                all_goals
                  obtain rfl : put = false := by simpa using h
                  have hout := hpre.last
                  refine Jc ?_
                  refine Ja (Je rfl) O O O ?_
                  refine Ja (Vu hT O O O zrdn zln) O O O ?_
                  refine Jj rfl (l_buildSliceP hT O O O O O O O zfl rfl (fun b4 => ?_))
                  refine Jj rfl (l_append hT O O O O O O O O zpk zrdn zln zoc (by rw [show i54.bytes = 48 from rfl]; omega) (by omega) rfl (fun na nc hnc => ?_))
                  refine Ja (Jd rfl) O O O ?_
                  refine Jg ?_
              case' hf =>
                intro h
                try (first | (exfalso; omega) | (cases h; done) | (exfalso; simp at h; done) | subst h)
                all_goals
                  obtain rfl : put = true := by simpa using h
                  have hout := hpre.done
                  refine Ve ?_
              all_goals refine Jb ?_
              all_goals
                refine Jh ?_
                first | refine J.fact (p := OwnAt na (out.length + 1) nc _) (fun w s => Vx (s.pick zpk)) fun oq => ?_ | refine J.fact (p := OwnAt qa out.length qc _) (fun w s => Vx (s.pick zpk)) fun oq => ?_
                refine Jc ?_
                refine Ja (Je rfl) O O O (Ja (Ji hT O O O O O O) O O O ?_)
                refine Jj rfl (We hT O O O O O zpk zix ?_)
                refine Jg ?_
                refine Jb ?_
                refine Jh ?_
                refine Jc ?_
                refine Ja (Vu hT O O O zrdn zln) O O O ?_
                refine Jj rfl (Vf hT O O O zln zoc zpk zln ?_)
                refine Ja (Jd rfl) O O O ?_
                refine Jg ?_
                refine Jb ?_
                refine Vi ?_
                refine Wb (.inl rfl) O O zrv zrv ?_
                first
                | (have zz := hkey
                   have hE5 : colE last hops G bs = 5 := by
                     rw [hE, if_pos ⟨(k, b), List.mem_of_getElem? hx, by rw [← hpp] at hkey; exact hkey⟩]
                   refine ⟨K :: l, fun w s => ?_, .inl ⟨by rw [hE5]; decide, by rw [hE5] <;> rfl, rfl⟩⟩
                   have s1 := s.sup (p := KS :: l) zsup
                   rw [← hKS] at s1
                   exact s1.unfold.drop)
                | (have zz := oq
                   have hE0 : colE last hops G bs = 0 := by
                     rw [hE, if_neg]
                     rintro ⟨q, hq, e⟩
                     exact hne q hq (by rw [e, ← hpp])
                   have hperm := (insP_perm pp G).length_eq
                   rw [List.length_cons, hR.len] at hperm
                   have hkeys : ∀ q ∈ insP pp G, 0 ≤ q.1 ∧ q.1 < 12 := fun q hq => by
                     rcases insP_mem.1 hq with rfl | hq
                     · omega
                     · exact hR.keys q hq
                   first
                     | (have hl : out.length + 1 = j + 1 := by rw [← hperm, ← hout, List.length_append, List.length_singleton]
                        have hl2 : out.length = j := by omega
                        refine ⟨stars [own 54 4 (.slice na (out.length + 1) nc) (out.length + 1) (downs last (out.map (·.1)) vs ++ [.int .i64 (bs.getD 1 0), .int .i64 (bs.getD 2 0), Q (roundN bs), .slice a (m - 11) c']), KS] :: l, fun w s => Sat.fold (m := [own 54 4 (.slice na (out.length + 1) nc) (out.length + 1) (downs last (out.map (·.1)) vs ++ [.int .i64 (bs.getD 1 0), .int .i64 (bs.getD 2 0), Q (roundN bs), .slice a (m - 11) c']), KS]) (s.sup zsup), .inr ⟨hE0, na, nc, vs ++ [.slice a (m - 11) c'], _, by rw [hl2]; rfl, rfl, fun hlt => ?_⟩⟩
                        rw [hpp, ← hout]
                        refine ⟨by rw [List.length_append, List.length_singleton, hl2], by omega, ?_, ?_, by rw [hout]; exact hkeys⟩
                        · have z := InL.keepL (K2 := KS) (oq.inl (e := 54) (size := 4) Jp : InL [own 54 4 (.slice na (out.length + 1) nc) (out.length + 1) (downs last (out.map (·.1)) vs ++ [.int .i64 (bs.getD 1 0), .int .i64 (bs.getD 2 0), Q (roundN bs), .slice a (m - 11) c'])] na (out.length + 1) nc _)
                          rw [List.map_append, List.map_cons, List.map_nil, downs_snoc _ (by rw [List.length_map, htx.len, List.length_map]), hcell]
                          rw [hl2] at z ⊢
                          exact z
                        · have z := TxB.keepR (K := own 54 4 (.slice na (out.length + 1) nc) (out.length + 1) (downs last (out.map (·.1)) vs ++ [.int .i64 (bs.getD 1 0), .int .i64 (bs.getD 2 0), Q (roundN bs), .slice a (m - 11) c'])) (htx.put hon)
                          rw [hpl] at z
                          rw [List.map_append, List.map_cons, List.map_nil]
                          exact z)
                     | (have hl2 : out.length = j + 1 := by rw [← hperm, ← hout]
                        refine ⟨stars [own 54 4 (.slice qa out.length qc) out.length (downs last (out.map (·.1)) vs), KS] :: l, fun w s => Sat.fold (m := [own 54 4 (.slice qa out.length qc) out.length (downs last (out.map (·.1)) vs), KS]) (s.sup zsup), .inr ⟨hE0, qa, qc, vs, _, by rw [hl2]; rfl, rfl, fun hlt => ?_⟩⟩
                        rw [hpp, ← hout]
                        refine ⟨hl2, by omega, ?_, TxB.keepR htx, by rw [hout]; exact hkeys⟩
                        have z := InL.keepL (K2 := KS) (oq.inl (e := 54) (size := 4) Jp : InL [own 54 4 (.slice qa out.length qc) out.length (downs last (out.map (·.1)) vs)] qa out.length qc _)
                        rw [hl2] at z ⊢
                        exact z))
          all_goals refine Jb ?_
          all_goals
            refine Jh ?_
            refine Vh ?_
            refine Jh ?_
            refine Jc ?_
            refine Ja (Vg hT O O O O O zix zix) O O O ?_
            refine Ja (Vu hT O O O (vs := downE last k (.slice vq b.length vc)) ((InL.rdn (InL.kept (by rw [← downs_eq]; exact hgot : InL [KS] (some ⟨gg, go, none⟩) n gc (((G.map (·.1)).zip vals).flatMap fun q => downE last q.1 q.2)) zpk)).elem hzl hzj) rfl) O O O ?_
            refine Jj rfl (Vt hT O O zcl rfl (fun bx => ?_))
            refine Jj rfl (Vf hT O O O zln zoc zpk zln ?_)
            refine Jg ?_
            refine Jb ?_
            refine Jh ?_
            refine Jh ?_
            refine Jc ?_
            refine Ja (Ji hT O O O O O O) O O O ?_
            refine Ja (Jm hT O O O zrd) O O O ?_
            refine Ja (Ji hT O O O O O O) O O O ?_
            refine Ja (Jm hT O O O zrd) O O O ?_
            refine Ja (y_eql O O) O O O (Ja (Je rfl) O O O ?_)
            all_goals (first | (refine Vj O O O (fun h => ?_) (fun h => ?_) <;> try (first | (exfalso; omega) | exact absurd rfl h)) | (refine Vz O O O (fun h => ?_) (fun h => ?_) <;> try (first | cases h | (exfalso; simp at h; done))) | skip)
            all_goals (first | refine Jt O O O O O O ?_ | refine Jq O O O O O ?_ | refine Ju O O O (Ji hT O O O O O O) O O ?_)
            all_goals (first | refine Jt O O O O O O ?_ | refine Jq O O O O O ?_ | refine Ju O O O (Jm hT O O O zrd) O O ?_)
            all_goals (first | refine Jt O O O O O O ?_ | refine Jq O O O O O ?_ | refine Ju O O O (Ji hT O O O O O O) O O ?_)
            all_goals (first | refine Jt O O O O O O ?_ | refine Jq O O O O O ?_ | refine Ju O O O (Jm hT O O O zrd) O O ?_)
            all_goals (first | refine Jt O O O O O O ?_ | refine Jq O O O O O ?_ | refine Ju O O O (y_eql O O) O O ?_)
            all_goals (refine Ja (Wk O O O) O O O ?_)
            all_goals refine Jg ?_
            all_goals refine Jb ?_
            all_goals
              first | apply Vb rfl | apply Vq rfl
              case' ht =>
                intro h
                try (first | (exfalso; omega) | (cases h; done) | (exfalso; simp at h; done) | subst h)
                all_goals
                  have hkey : k = pp.1 := by first | omega | (simp at *; omega)
                  refine Jh ?_
                  refine Jc ?_
                  refine Ja (Vu hT O O O zrdn zln) O O O ?_
                  refine Jj rfl (Vf hT O O O zln zoc zpk zln ?_)
                  refine Ja (Jd rfl) O O O ?_
                  refine Jg ?_
                  refine Jb ?_
                  refine Vi ?_
                  refine Jw ?_
                  refine Vl ?_
                  refine Jw ?_
                  refine Jw ?_
                  refine Vl ?_
                  refine Jw ?_
                  refine Wb (.inl rfl) O O zrv zrv ?_
                  first
                  | (have zz := hkey
                     have hE5 : colE last hops G bs = 5 := by
                       rw [hE, if_pos ⟨(k, b), List.mem_of_getElem? hx, by rw [← hpp] at hkey; exact hkey⟩]
                     refine ⟨K :: l, fun w s => ?_, .inl ⟨by rw [hE5]; decide, by rw [hE5] <;> rfl, rfl⟩⟩
                     have s1 := s.sup (p := KS :: l) zsup
                     rw [← hKS] at s1
                     exact s1.unfold.drop)
                  | (have zz := oq
                     have hE0 : colE last hops G bs = 0 := by
                       rw [hE, if_neg]
                       rintro ⟨q, hq, e⟩
                       exact hne q hq (by rw [e, ← hpp])
                     have hperm := (insP_perm pp G).length_eq
                     rw [List.length_cons, hR.len] at hperm
                     have hkeys : ∀ q ∈ insP pp G, 0 ≤ q.1 ∧ q.1 < 12 := fun q hq => by
                       rcases insP_mem.1 hq with rfl | hq
                       · omega
                       · exact hR.keys q hq
                     first
                       | (have hl : out.length + 1 = j + 1 := by rw [← hperm, ← hout, List.length_append, List.length_singleton]
                          have hl2 : out.length = j := by omega
                          refine ⟨stars [own 54 4 (.slice na (out.length + 1) nc) (out.length + 1) (downs last (out.map (·.1)) vs ++ [.int .i64 (bs.getD 1 0), .int .i64 (bs.getD 2 0), Q (roundN bs), .slice a (m - 11) c']), KS] :: l, fun w s => Sat.fold (m := [own 54 4 (.slice na (out.length + 1) nc) (out.length + 1) (downs last (out.map (·.1)) vs ++ [.int .i64 (bs.getD 1 0), .int .i64 (bs.getD 2 0), Q (roundN bs), .slice a (m - 11) c']), KS]) (s.sup zsup), .inr ⟨hE0, na, nc, vs ++ [.slice a (m - 11) c'], _, by rw [hl2]; rfl, rfl, fun hlt => ?_⟩⟩
                          rw [hpp, ← hout]
                          refine ⟨by rw [List.length_append, List.length_singleton, hl2], by omega, ?_, ?_, by rw [hout]; exact hkeys⟩
                          · have z := InL.keepL (K2 := KS) (oq.inl (e := 54) (size := 4) Jp : InL [own 54 4 (.slice na (out.length + 1) nc) (out.length + 1) (downs last (out.map (·.1)) vs ++ [.int .i64 (bs.getD 1 0), .int .i64 (bs.getD 2 0), Q (roundN bs), .slice a (m - 11) c'])] na (out.length + 1) nc _)
                            rw [List.map_append, List.map_cons, List.map_nil, downs_snoc _ (by rw [List.length_map, htx.len, List.length_map]), hcell]
                            rw [hl2] at z ⊢
                            exact z
                          · have z := TxB.keepR (K := own 54 4 (.slice na (out.length + 1) nc) (out.length + 1) (downs last (out.map (·.1)) vs ++ [.int .i64 (bs.getD 1 0), .int .i64 (bs.getD 2 0), Q (roundN bs), .slice a (m - 11) c'])) (htx.put hon)
                            rw [hpl] at z
                            rw [List.map_append, List.map_cons, List.map_nil]
                            exact z)
                       | (have hl2 : out.length = j + 1 := by rw [← hperm, ← hout]
                          refine ⟨stars [own 54 4 (.slice qa out.length qc) out.length (downs last (out.map (·.1)) vs), KS] :: l, fun w s => Sat.fold (m := [own 54 4 (.slice qa out.length qc) out.length (downs last (out.map (·.1)) vs), KS]) (s.sup zsup), .inr ⟨hE0, qa, qc, vs, _, by rw [hl2]; rfl, rfl, fun hlt => ?_⟩⟩
                          rw [hpp, ← hout]
                          refine ⟨hl2, by omega, ?_, TxB.keepR htx, by rw [hout]; exact hkeys⟩
                          have z := InL.keepL (K2 := KS) (oq.inl (e := 54) (size := 4) Jp : InL [own 54 4 (.slice qa out.length qc) out.length (downs last (out.map (·.1)) vs)] qa out.length qc _)
                          rw [hl2] at z ⊢
                          exact z))
              case' hf =>
                intro h
                try (first | (exfalso; omega) | (cases h; done) | (exfalso; simp at h; done) | subst h)
                all_goals
                  have hkne : k ≠ pp.1 := fun e => by
                    have g1 := hpk.1
                    have g2 := hpk.2
                    rw [← e] at g1 g2
                    first | exact absurd g1 (by assumption) | exact absurd g2 (by assumption)
                  refine Ve ?_
            all_goals refine Jb ?_
            all_goals
              refine Jh ?_
              refine Jh ?_
              cases put
              all_goals
                refine Jc ?_
                refine Ja (Je rfl) O O O (Ja (y_not rfl) O O O (Ja (Je rfl) O O O ?_))
                all_goals (first | (refine Vj O O O (fun h => ?_) (fun h => ?_) <;> try (first | (exfalso; omega) | exact absurd rfl h)) | (refine Vz O O O (fun h => ?_) (fun h => ?_) <;> try (first | cases h | (exfalso; simp at h; done))) | skip)
                all_goals (first | refine Jt O O O O O O ?_ | refine Jq O O O O O ?_ | refine Ju O O O (Vu hT O O O zrdn zln) O O ?_)
                all_goals (first | refine Jt O O O O O O ?_ | refine Jq O O O O O ?_ | refine Ju O O O (Vu hT O O O zrdn zln) O O ?_)
                all_goals (first | refine Jt O O O O O O ?_ | refine Jq O O O O O ?_ | (refine JL.gloud O O O (Jv e79 O O (rless_spec E (bs.getD 1 0) (bs.getD 2 0) (k.tdiv 3) (k.tmod 3) (roundN bs) last _ _ O O _) ?_); rintro _ _ ⟨rfl, rfl⟩))
                all_goals (refine Ja (Wk O O O) O O O ?_)
                all_goals refine Jg ?_
              all_goals refine Jb ?_
              all_goals
                first | apply Vb rfl | apply Vq rfl
                case' ht =>
                  intro h
                  try (first | (exfalso; omega) | (cases h; done) | (exfalso; simp at h; done) | subst h)
                  all_goals
                    have hl : pp.1 < k := by first | omega | (simp at *; omega)
                    have hlf : out.length ≤ j := hpre.len
                    refine Jh ?_
                    refine Jc ?_
                    refine Ja (Je rfl) O O O ?_
                    refine Ja (Vu hT O O O zrdn zln) O O O ?_
                    refine Jj rfl (l_buildSliceP hT O O O O O O O zfl rfl (fun b10 => ?_))
                    refine Jj rfl (l_append hT O O O O O O O O zpk zrdn zln zoc (by rw [show i54.bytes = 48 from rfl]; omega) (by omega) rfl (fun na nc hnc => ?_))
                    refine Ja (Jd rfl) O O O ?_
                    refine Jg ?_
                    refine Jb ?_
                    refine Jc ?_
                    refine Ja (Jd rfl) O O O ?_
                    refine Jg ?_
                case' hf =>
                  intro h
                  try (first | (exfalso; omega) | (cases h; done) | (exfalso; simp at h; done) | subst h)
                  all_goals
                    first | (have hnl : ¬ pp.1 < k := by omega) | skip
                    refine Ve ?_
              all_goals refine Jb ?_
              all_goals
                refine Jc ?_
                refine Ja (Je rfl) O O O ?_
                refine Ja (Vu hT O O O zrdn zln) O O O ?_
                refine Jj rfl (l_buildSliceP hT O O O O O O O zfl rfl (fun b11 => ?_))
                refine Jj rfl (l_append hT O O O O O O O O zpk zrdn zln zoc (by rw [show i54.bytes = 48 from rfl]; omega) (by omega) rfl (fun nb nd hnd => ?_))
                refine Ja (Jd rfl) O O O ?_
                refine Jg ?_
            all_goals refine Jy ?_
            all_goals refine Jb ?_
            all_goals
              refine Jc ?_
              refine Ja (Wg O O zwr) O O O ?_
              refine Ja (Je rfl) O O O ?_
              refine Jg ?_
          all_goals
            first
            | (have zz := hl
               have hX1 : TxB KS (vs ++ [.slice a (m - 11) c']) ((out ++ [pp]).map (·.2)) := by
                 have z := htx.put hon
                 rw [hpl] at z
                 simpa using z
               refine Wc (s := (j, false, qa, qc, vs, out)) (j + 1, true, nb, nd, (vs ++ [.slice a (m - 11) c']) ++ [.slice vq b.length vc], (out ++ [pp]) ++ [(k, b)]) ⟨hlt, by simp; omega, by dsimp only; rw [htk]; exact hpre.put hl, by
                 have z := (hX1.put hvi)
                 simpa using z, by
                 dsimp only
                 rw [htk]
                 intro q hq
                 rcases List.mem_append.1 hq with g | g
                 · exact hne q g
                 · rw [List.mem_singleton.1 g]; exact hkne⟩ ⟨rfl, rfl, rfl, by dsimp only; rw [List.length_append] <;> first | rfl | (rw [List.length_append] <;> rfl), O, O, O, O, trivial⟩ (fun w s => ?_) (by dsimp only; omega)
               dsimp only
               rw [List.length_append, List.length_singleton, List.map_append (l₁ := out ++ [pp]), List.map_cons, List.map_nil, downs_snoc _ (by rw [hX1.len, List.length_map, List.length_map]), List.map_append, List.map_cons, List.map_nil, downs_snoc _ (by rw [List.length_map, htx.len, List.length_map]), hcell, List.length_append, List.length_singleton]
               exact s.sup zsup)
            | (have zz := hnl
               refine Wc (s := (j, false, qa, qc, vs, out)) (j + 1, false, nb, nd, vs ++ [.slice vq b.length vc], out ++ [(k, b)]) ⟨hlt, by simp; omega, by dsimp only; rw [htk]; exact hpre.pass fun _ => hnl, by
                 have z := (htx.put hvi)
                 simpa using z, by
                 dsimp only
                 rw [htk]
                 intro q hq
                 rcases List.mem_append.1 hq with g | g
                 · exact hne q g
                 · rw [List.mem_singleton.1 g]; exact hkne⟩ ⟨rfl, rfl, rfl, by dsimp only; rw [List.length_append] <;> first | rfl | (rw [List.length_append] <;> rfl), O, O, O, O, trivial⟩ (fun w s => ?_) (by dsimp only; omega)
               dsimp only
               rw [List.length_append, List.length_singleton, List.map_append, List.map_cons, List.map_nil, downs_snoc _ (by rw [List.length_map, htx.len, List.length_map])]
               exact s.sup zsup)
            | (refine Wc (s := (j, true, qa, qc, vs, out)) (j + 1, true, nb, nd, vs ++ [.slice vq b.length vc], out ++ [(k, b)]) ⟨hlt, by simp; omega, by dsimp only; rw [htk]; exact hpre.pass (fun z => by cases z), by
                 have z := (htx.put hvi)
                 simpa using z, by
                 dsimp only
                 rw [htk]
                 intro q hq
                 rcases List.mem_append.1 hq with g | g
                 · exact hne q g
                 · rw [List.mem_singleton.1 g]; exact hkne⟩ ⟨rfl, rfl, rfl, by dsimp only; rw [List.length_append] <;> first | rfl | (rw [List.length_append] <;> rfl), O, O, O, O, trivial⟩ (fun w s => ?_) (by dsimp only; omega)
               dsimp only
               rw [List.length_append, List.length_singleton, List.map_append, List.map_cons, List.map_nil, downs_snoc _ (by rw [List.length_map, htx.len, List.length_map])]
               exact s.sup zsup)
        · have hE : colE last hops G bs = 291 := by
            unfold colE
            rw [if_neg (by rw [hup]; decide), if_neg (fun z => z (hsz.1 hs)), if_pos hr]
          have hd4 : decide (¬ hopsN ((m : Int) - 11) = hops) = false := decide_eq_false (fun z => z hs)
          have hd5 : decide (¬ ((roundN bs).toNat : Int) = (last.toNat : Int)) = true := decide_eq_true (fun z => hr (BitVec.eq_of_toNat_eq (by omega)))
          refine Js (c := ?codeC) Tryz.func33 ?hb Tryz.ntmps33 ?hl ?_
          case hb => exact rfl
          case hl => exact rfl
          refine Jh ?_
          refine Jc ?_
          refine Jj rfl (l_box (cs := eV last 1 hops ga n gc) O O O (fun bo => ?_))
          refine Jj rfl (Vt hT O O zcl rfl (fun b1 => ?_))
          refine Ja (Jd rfl) O O O ?_
          refine Jg ?_
          refine Jb ?_
          refine Jh ?_
          refine Jh ?_
          refine Jc ?_
          refine Ja (Ji hT O O O O O O) O O O ?_
          refine Ja (Jm hT O O O zrd) O O O ?_
          refine Ja (Wa O O) O O O ?_
          refine Jg ?_
          refine Jb ?_
          refine Jz rfl zbl ?_
          refine Ve ?_
          refine Jb ?_
          refine Jh ?_
          refine Jc ?_
          refine Ja (Je rfl) O O O (Ja (Va hT O O O) O O O ?_)
          refine Ja (y_sub O O zwr) O O O ?_
          refine Jj rfl (Jv e77 O O (ronion_spec E _ _) ?_)
          rintro _ _ ⟨rfl, rfl⟩
          refine Ja (Jd rfl) O O O ?_
          refine Jg ?_
          refine Jb ?_
          refine Jh ?_
          refine Jh ?_
          refine Jc ?_
          refine Ja (Je rfl) O O O (Ja (y_eql O O) O O O ?_)
          refine Jg ?_
          refine Jb ?_
          refine Jz rfl zbl ?_
          refine Ve ?_
          refine Jb ?_
          refine Jh ?_
          refine Jc ?_
          refine Ja (Je rfl) O O O ?_
          refine Jj rfl (Jv e78 O O (hgu _ zinl) ?_)
          rintro _ _ ⟨a, c', rfl, rfl⟩
          refine Ja (Je rfl) O O O (Ja (Jx O O) O O O (Ja (Jx O O) O O O ?_))
          refine Jj rfl (Vt hT O O zcl rfl (fun b4 => ?_))
          refine Jj rfl (Vf hT O O O zln zoc zpk zln ?_)
          refine Ja (Jd rfl) O O O ?_
          refine Jg ?_
          refine Jb ?_
          refine Jh ?_
          refine Vh ?_
          refine Jh ?_
          refine Jc ?_
          refine Ja (Je rfl) O O O (Ja (y_not rfl) O O O (Ja (Jd rfl) O O O ?_))
          refine Jg ?_
          refine Jb ?_
          refine Jz rfl zbl ?_
          refine Jh ?_
          refine Jc ?_
          refine Ja (Je rfl) O O O (Ja (Ji hT O O O O O O) O O O ?_)
          refine Ja (Jm hT O O O zrd) O O O ?_
          refine Ja (Wa O O) O O O (Ja (Jd rfl) O O O ?_)
          refine Jg ?_
          refine Jb ?_
          refine Jz rfl zbl ?_
          refine Jh ?_
          refine Jc ?_
          refine Ja (Ji hT O O O O O O) O O O ?_
          refine Ja (Jm hT O O O zrd) O O O ?_
          refine Ja (Ji hT O O O O O O) O O O ?_
          refine Ja (Jm hT O O O zrd) O O O ?_
          refine Ja (Wa O O) O O O (Ja (Jd rfl) O O O ?_)
          refine Jg ?_
          refine Jb ?_
          refine Wp rfl zbl ?_
          refine Jh ?_
          refine Jc ?_
          refine Ja (Vu hT O O O zrdn zln) O O O ?_
          refine Jj rfl (Vf hT O O O zln zoc zpk zln ?_)
          refine Ja (Jd rfl) O O O ?_
          refine Jg ?_
          refine Jb ?_
          refine Vi ?_
          refine Vl ?_
          refine Jw ?_
          refine Wb (.inl rfl) O O zrv zrv ?_
          exact ⟨K :: l, fun w s => s.sup zsup, .inl ⟨by rw [hE]; decide, by rw [hE], rfl⟩⟩
      · have hE : colE last hops G bs = 240 := by
          unfold colE
          rw [if_neg (by rw [hup]; decide), if_pos (fun z => hs (hsz.2 z))]
        have hd4 : decide (¬ hopsN ((m : Int) - 11) = hops) = true := decide_eq_true hs
        refine Js (c := ?codeC) Tryz.func33 ?hb Tryz.ntmps33 ?hl ?_
        case hb => exact rfl
        case hl => exact rfl
        refine Jh ?_
        refine Jc ?_
        refine Jj rfl (l_box (cs := eV last 1 hops ga n gc) O O O (fun bo => ?_))
        refine Jj rfl (Vt hT O O zcl rfl (fun b1 => ?_))
        refine Ja (Jd rfl) O O O ?_
        refine Jg ?_
        refine Jb ?_
        refine Jh ?_
        refine Jh ?_
        refine Jc ?_
        refine Ja (Ji hT O O O O O O) O O O ?_
        refine Ja (Jm hT O O O zrd) O O O ?_
        refine Ja (Wa O O) O O O ?_
        refine Jg ?_
        refine Jb ?_
        refine Jz rfl zbl ?_
        refine Ve ?_
        refine Jb ?_
        refine Jh ?_
        refine Jc ?_
        refine Ja (Je rfl) O O O (Ja (Va hT O O O) O O O ?_)
        refine Ja (y_sub O O zwr) O O O ?_
        refine Jj rfl (Jv e77 O O (ronion_spec E _ _) ?_)
        rintro _ _ ⟨rfl, rfl⟩
        refine Ja (Jd rfl) O O O ?_
        refine Jg ?_
        refine Jb ?_
        refine Jh ?_
        refine Jh ?_
        refine Jc ?_
        refine Ja (Je rfl) O O O (Ja (y_eql O O) O O O ?_)
        refine Jg ?_
        refine Jb ?_
        refine Jz rfl zbl ?_
        refine Ve ?_
        refine Jb ?_
        refine Jh ?_
        refine Jc ?_
        refine Ja (Je rfl) O O O ?_
        refine Jj rfl (Jv e78 O O (hgu _ zinl) ?_)
        rintro _ _ ⟨a, c', rfl, rfl⟩
        refine Ja (Je rfl) O O O (Ja (Jx O O) O O O (Ja (Jx O O) O O O ?_))
        refine Jj rfl (Vt hT O O zcl rfl (fun b4 => ?_))
        refine Jj rfl (Vf hT O O O zln zoc zpk zln ?_)
        refine Ja (Jd rfl) O O O ?_
        refine Jg ?_
        refine Jb ?_
        refine Jh ?_
        refine Vh ?_
        refine Jh ?_
        refine Jc ?_
        refine Ja (Je rfl) O O O (Ja (y_not rfl) O O O (Ja (Jd rfl) O O O ?_))
        refine Jg ?_
        refine Jb ?_
        refine Jz rfl zbl ?_
        refine Jh ?_
        refine Jc ?_
        refine Ja (Je rfl) O O O (Ja (Ji hT O O O O O O) O O O ?_)
        refine Ja (Jm hT O O O zrd) O O O ?_
        refine Ja (Wa O O) O O O (Ja (Jd rfl) O O O ?_)
        refine Jg ?_
        refine Jb ?_
        refine Wp rfl zbl ?_
        refine Jh ?_
        refine Jc ?_
        refine Ja (Vu hT O O O zrdn zln) O O O ?_
        refine Jj rfl (Vf hT O O O zln zoc zpk zln ?_)
        refine Ja (Jd rfl) O O O ?_
        refine Jg ?_
        refine Jb ?_
        refine Vi ?_
        refine Vl ?_
        refine Jw ?_
        refine Wb (.inl rfl) O O zrv zrv ?_
        exact ⟨K :: l, fun w s => s.sup zsup, .inl ⟨by rw [hE]; decide, by rw [hE], rfl⟩⟩
end
end Go.Proofs.YtimekohdlofmaaaGreat
/- The document's chapter 22: a batch, and whose the replies are. -/
namespace Go.Proofs.YtimekohdlofmaaaGreat
open Go Go.SL
section
attribute [local irreducible] J JL JE JM LS Y Fc RV Code.wp wpList Code.wpIn wpListIn
attribute [local irreducible] Yc
variable (E : World)
theorem rclose_shut (last : BitVec 64) (ph hops : Int) (ga : Option Addr) (n gc : Nat) (hph : ph ≠ 1) (l : List HProp) :
    Fc prog E 34 [.agg (eV last ph hops ga n gc).toArray].toArray l (fun v l' => v = .tuple #[.agg (eV last ph hops ga n gc).toArray, .slice none 0 0, .int .i64 322] ∧ l' = l) := by
  refine Wo ?_
  have hd : decide (¬ ph = 1) = true := decide_eq_true hph
  refine Js (c := ?codeC) Tryz.func34 ?hb Tryz.ntmps34 ?hl ?_
  case hb => exact rfl
  case hl => exact rfl
  refine Jh ?_
  refine Jc ?_
  refine Jj rfl (l_box (cs := eV last ph hops ga n gc) O O O (fun bo => ?_))
  refine Jj rfl (Vt hT O O zcl rfl (fun b1 => ?_))
  refine Ja (Jd rfl) O O O (Ja (Jd rfl) O O O ?_)
  refine Jg ?_
  refine Jb ?_
  refine Jh ?_
  refine Jh ?_
  refine Jc ?_
  refine Ja (Ji hT O O O O O O) O O O ?_
  refine Ja (Jm hT O O O zrd) O O O ?_
  refine Ja (Wa O O) O O O ?_
  refine Jg ?_
  refine Jb ?_
  refine Wp rfl zbl ?_
  refine Jh ?_
  refine Jc ?_
  refine Ja (Vu hT O O O zrdn zln) O O O ?_
  refine Jj rfl (Vf hT O O O zln zoc zpk zln ?_)
  refine Ja (Jd rfl) O O O (Ja (Jd rfl) O O O ?_)
  refine Jg ?_
  refine Jb ?_
  refine Vi ?_
  refine Jw ?_
  refine JE.ret3 (.inl rfl) O O zrv zrv zrv ?_
  exact ⟨rfl, fun w s => s.sup zsup⟩
theorem rclose_spec (last : BitVec 64) (hops : Int) (ga : Option Addr) (n gc : Nat) (vals : List Value) (K : HProp) (G : List (Int × List Int)) (l : List HProp) (hR : RGot K last n ga gc vals G) :
    Fc prog E 34 [.agg (eV last 1 hops ga n gc).toArray].toArray (K :: l) (fun v l' => ∃ a c, v = .tuple #[.agg (eV last 2 hops ga n gc).toArray, .slice a n c, .int .i64 0] ∧ l' = own 22 1 (.slice a n c) n vals :: K :: l) := by
  refine Wh ?_
  have hn := hR.len
  have hfew := hR.few
  have hvl : vals.length = n := by rw [hR.txs.len, List.length_map]; exact hn
  have hzl : ∀ x ∈ (G.map (·.1)).zip vals, (downE last x.1 x.2).length = 4 := fun _ _ => rfl
  have hgot := hR.inl
  rw [downs_eq] at hgot
  refine Js (c := ?codeC) Tryz.func34 ?hb Tryz.ntmps34 ?hl ?_
  case hb => exact rfl
  case hl => exact rfl
  refine Jh ?_
  refine Jc ?_
  refine Jj rfl (l_box (cs := eV last 1 hops ga n gc) O O O (fun bo => ?_))
  refine Jj rfl (Vt hT O O zcl rfl (fun br => ?_))
  refine Ja (Jd rfl) O O O (Ja (Jd rfl) O O O ?_)
  refine Jg ?_
  refine Jb ?_
  refine Jh ?_
  refine Jh ?_
  refine Jc ?_
  refine Ja (Ji hT O O O O O O) O O O ?_
  refine Ja (Jm hT O O O zrd) O O O ?_
  refine Ja (Wa O O) O O O ?_
  refine Jg ?_
  refine Jb ?_
  refine Jz rfl zbl ?_
  refine Ve ?_
  refine Jb ?_
  refine Jh ?_
  refine Jc ?_
  refine Ja (Jd rfl) O O O ?_
  refine Jg ?_
  refine Jb ?_
  refine Jh ?_
  refine Jh ?_
  refine Jc ?_
  refine Ja (Ji hT O O O O O O) O O O ?_
  refine Ja (Jm hT O O O zrd) O O O ?_
  refine Ja (Va hT O O O) O O O (Ja (Je rfl) O O O ?_)
  refine Jg ?_
  refine Jb ?_
  refine Vh ?_
  refine J.loop (α := Nat × Option Addr × Nat) (fun s => s.1 ≤ n) (fun s => [(1, .pointer (some ⟨bo, 0, none⟩)), (2, .pointer (some ⟨br, 0, none⟩)), (5, .slice s.2.1 s.1 s.2.2), (13, .slice ga n gc), (14, .int .i64 n), (15, .int .i64 s.1)]) (fun s => own 22 1 (.slice s.2.1 s.1 s.2.2) s.1 (vals.take s.1) :: row bo 68 (eV last 1 hops ga n gc) :: row br 68 [.int .u64 0, .int .i64 0, .int .i64 0, .slice none 0 0] :: K :: l) (fun s => n - s.1) (0, none, 0) (Nat.zero_le _) ⟨O, O, O, O, O, O, trivial⟩ (fun w s => Sat.own_nil (s.sup zsup)) ?_
  rintro ⟨j, qa, qc⟩ hj
  dsimp only at hj ⊢
  refine Jh ?_
  refine Jc ?_
  refine Ja (y_lss O O) O O O ?_
  refine Jg ?_
  refine Jb ?_
  refine Jh ?_
  first | apply Vb rfl | apply Vq rfl
  case' ht =>
    intro h
    try (first | (exfalso; omega) | (cases h; done) | (exfalso; simp at h; done) | subst h)
    all_goals
      have hlt : j < n := by omega
      obtain ⟨⟨k, b⟩, hx⟩ : ∃ q, G[j]? = some q := ⟨_, List.getElem?_eq_getElem (by omega)⟩
      obtain ⟨vq, vc, hv, hvi⟩ := hR.txs.get j b (by simp [hx])
      obtain ⟨gg, go, rfl, hgr⟩ := hgot.rd.resolve_right fun ⟨h0, _⟩ => by have := hgot.le; omega
      have hzj : ((G.map (·.1)).zip vals)[j]? = some (k, .slice vq b.length vc) := by
        rw [List.getElem?_zip_eq_some]
        exact ⟨by simp [hx], hv⟩
      refine Ve ?_
  case' hf =>
    intro h
    try (first | (exfalso; omega) | (cases h; done) | (exfalso; simp at h; done) | subst h)
    all_goals
      obtain rfl : j = n := by omega
      refine J.exit ?_
      refine Vd ?_
      refine Vd ?_
      refine Vn ?_
      refine Jb ?_
      refine Jh ?_
      refine Jc ?_
      refine Ja (Ji hT O O O O O O) O O O ?_
      refine Jj rfl (We hT O O O O O zpk zix ?_)
      refine Jg ?_
      refine Jb ?_
      refine Jh ?_
      refine Jc ?_
      refine Ja (Vu hT O O O zrdn zln) O O O ?_
      refine Ja (Je rfl) O O O ?_
      refine Jj rfl (Vf hT O O O zln zoc zpk zln ?_)
      refine Ja (Jd rfl) O O O (Ja (Jd rfl) O O O ?_)
      refine Jg ?_
      refine Jb ?_
      refine Vi ?_
      refine JE.ret3 (.inl rfl) O O zrv zrv zrv ?_
      refine ⟨own 22 1 (.slice qa j qc) j vals :: K :: l, fun w s => ?_, qa, qc, rfl, rfl⟩
      rw [List.take_of_length_le (by omega)] at s
      exact s.sup zsup
  all_goals refine Jb ?_
  all_goals
    refine Jh ?_
    refine Vh ?_
    refine Jh ?_
    refine Jc ?_
    refine Ja (Vg hT O O O O O zix zix) O O O ?_
    refine Ja (Vu hT O O O (vs := downE last k (.slice vq b.length vc)) ((InL.rdn (InL.kept hgot zpk)).elem hzl hzj) rfl) O O O ?_
    refine Jj rfl (Vt hT O O zcl rfl (fun b3 => ?_))
    refine Jj rfl (Vf hT O O O zln zoc zpk zln ?_)
    refine Jg ?_
    refine Jb ?_
    refine Jc ?_
    refine Ja (Je rfl) O O O (Ja (Ji hT O O O O O O) O O O ?_)
    refine Ja (Jm hT O O O zrd) O O O ?_
    refine Jj rfl (l_buildSliceP hT O O O O O O O zfl rfl (fun b5 => ?_))
    refine Jj rfl (l_append hT O O O O O O O O zpk zrdn zln zoc (by rw [show i22.bytes = 24 from rfl]; omega) (by omega) rfl (fun na nc hnc => ?_))
    refine Ja (Jd rfl) O O O ?_
    refine Jg ?_
    refine Jy ?_
    refine Jb ?_
    refine Jc ?_
    refine Ja (Wg O O zwr) O O O ?_
    refine Ja (Je rfl) O O O ?_
    refine Jg ?_
  all_goals
    refine Wc (s := (j, qa, qc)) (j + 1, na, nc) hlt ⟨O, O, O, O, O, O, trivial⟩ (fun w s => ?_) (by dsimp only; omega)
    dsimp only
    rw [List.take_add_one, hv]
    exact s.sup zsup
theorem rfan_shut (last : BitVec 64) (ph hops : Int) (ga : Option Addr) (n gc : Nat) (hph : ph ≠ 2) (v : Value) (l : List HProp) :
    Fc prog E 81 [.agg (eV last ph hops ga n gc).toArray, v].toArray l (fun v l' => v = .tuple #[.agg (eV last ph hops ga n gc).toArray, .slice none 0 0, .int .i64 322] ∧ l' = l) := by
  refine Wo ?_
  have hd : decide (¬ ph = 2) = true := decide_eq_true hph
  refine Js (c := ?codeC) Tryz.func81 ?hb Tryz.ntmps81 ?hl ?_
  case hb => exact rfl
  case hl => exact rfl
  refine Jh ?_
  refine Jc ?_
  refine Jj rfl (l_box (cs := eV last ph hops ga n gc) O O O (fun bo => ?_))
  refine Jj rfl (Vt hT O O zcl rfl (fun b1 => ?_))
  refine Ja (Jd rfl) O O O (Ja (Jd rfl) O O O ?_)
  refine Jg ?_
  refine Jb ?_
  refine Jh ?_
  refine Vh ?_
  refine Jh ?_
  refine Jc ?_
  refine Ja (Ji hT O O O O O O) O O O ?_
  refine Ja (Jm hT O O O zrd) O O O ?_
  refine Ja (Wa O O) O O O (Ja (Jd rfl) O O O ?_)
  refine Jg ?_
  refine Jb ?_
  refine Wp rfl zbl ?_
  refine Jh ?_
  refine Jc ?_
  refine Ja (Vu hT O O O zrdn zln) O O O ?_
  refine Jj rfl (Vf hT O O O zln zoc zpk zln ?_)
  refine Ja (Jd rfl) O O O (Ja (Jd rfl) O O O ?_)
  refine Jg ?_
  refine Jb ?_
  refine Vi ?_
  refine Vl ?_
  refine Jw ?_
  refine JE.ret3 (.inl rfl) O O zrv zrv zrv ?_
  exact ⟨rfl, fun w s => s.sup zsup⟩
theorem rfan_few (last : BitVec 64) (hops : Int) (ga q : Option Addr) (n gc m c : Nat) (hm : m ≠ n) (l : List HProp) :
    Fc prog E 81 [.agg (eV last 2 hops ga n gc).toArray, .slice q m c].toArray l (fun v l' => v = .tuple #[.agg (eV last 2 hops ga n gc).toArray, .slice none 0 0, .int .i64 2] ∧ l' = l) := by
  refine Wo ?_
  have hd : decide (¬ (m : Int) = (n : Int)) = true := decide_eq_true (by omega)
  refine Js (c := ?codeC) Tryz.func81 ?hb Tryz.ntmps81 ?hl ?_
  case hb => exact rfl
  case hl => exact rfl
  refine Jh ?_
  refine Jc ?_
  refine Jj rfl (l_box (cs := eV last 2 hops ga n gc) O O O (fun bo => ?_))
  refine Jj rfl (Vt hT O O zcl rfl (fun b1 => ?_))
  refine Ja (Jd rfl) O O O (Ja (Jd rfl) O O O ?_)
  refine Jg ?_
  refine Jb ?_
  refine Jh ?_
  refine Vh ?_
  refine Jh ?_
  refine Jc ?_
  refine Ja (Ji hT O O O O O O) O O O ?_
  refine Ja (Jm hT O O O zrd) O O O ?_
  refine Ja (Wa O O) O O O (Ja (Jd rfl) O O O ?_)
  refine Jg ?_
  refine Jb ?_
  refine Jz rfl zbl ?_
  refine Jh ?_
  refine Jc ?_
  refine Ja (Je rfl) O O O (Ja (Va hT O O O) O O O (Ja (Ji hT O O O O O O) O O O ?_))
  refine Ja (Jm hT O O O zrd) O O O ?_
  refine Ja (Va hT O O O) O O O (Ja (Wa O O) O O O (Ja (Jd rfl) O O O ?_))
  refine Jg ?_
  refine Jb ?_
  refine Wp rfl zbl ?_
  refine Jh ?_
  refine Jc ?_
  refine Ja (Vu hT O O O zrdn zln) O O O ?_
  refine Jj rfl (Vf hT O O O zln zoc zpk zln ?_)
  refine Ja (Jd rfl) O O O (Ja (Jd rfl) O O O ?_)
  refine Jg ?_
  refine Jb ?_
  refine Vi ?_
  refine Vl ?_
  refine Jw ?_
  refine JE.ret3 (.inl rfl) O O zrv zrv zrv ?_
  exact ⟨rfl, fun w s => s.sup zsup⟩
theorem rfan_spec (last : BitVec 64) (hops : Int) (ga : Option Addr) (n gc : Nat) (vals : List Value) (K : HProp) (G : List (Int × List Int)) (R : List (List Int)) (q : Option Addr) (c : Nat) (rv : List Value) (l : List HProp) (hR : RGot K last n ga gc vals G) (h1 : 1 ≤ hops) (h3 : hops ≤ 3) (hr : R.length = n) (hrv : rv.length = n) (hget : ∀ (i : Nat) b, R[i]? = some b → ∃ p c, rv[i]? = some (.slice p b.length c)) (hin : InL (K :: l) q n c rv) (hbig : ∀ b ∈ R, b.length ≤ 1000000) :
    Fc prog E 81 [.agg (eV last 2 hops ga n gc).toArray, .slice q n c].toArray (K :: l)
      (fun v l' => ((∀ b ∈ R, (b.length : Int) = replyN hops) ∧ ∃ a c', v = .tuple #[.agg (eV last 0 0 none 0 0).toArray, .slice a n c', .int .i64 0] ∧ l' = own 63 4 (.slice a n c') n (downs last (G.map (·.1)) rv) :: K :: l) ∨
        ((¬ ∀ b ∈ R, (b.length : Int) = replyN hops) ∧ v = .tuple #[.agg (eV last 2 hops ga n gc).toArray, .slice none 0 0, .int .i64 240] ∧ l' = K :: l)) := by
  refine Wh ?_
  have hn := hR.len
  have hfew := hR.few
  have hvl : vals.length = n := by rw [hR.txs.len, List.length_map]; exact hn
  have hzl : ∀ x ∈ (G.map (·.1)).zip vals, (downE last x.1 x.2).length = 4 := fun _ _ => rfl
  have hgot := hR.inl
  rw [downs_eq] at hgot
  have hrep : replyN hops = 130 + 16 * hops := if_pos ⟨h1, h3⟩
  have hd : decide (¬ (n : Int) = (n : Int)) = false := by simp
  refine Js (c := ?codeC) Tryz.func81 ?hb Tryz.ntmps81 ?hl ?_
  case hb => exact rfl
  case hl => exact rfl
  refine Jh ?_
  refine Jc ?_
  refine Jj rfl (l_box (cs := eV last 2 hops ga n gc) O O O (fun bo => ?_))
  refine Jj rfl (Vt hT O O zcl rfl (fun br => ?_))
  refine Ja (Jd rfl) O O O (Ja (Jd rfl) O O O ?_)
  refine Jg ?_
  refine Jb ?_
  refine Jh ?_
  refine Vh ?_
  refine Jh ?_
  refine Jc ?_
  refine Ja (Ji hT O O O O O O) O O O ?_
  refine Ja (Jm hT O O O zrd) O O O ?_
  refine Ja (Wa O O) O O O (Ja (Jd rfl) O O O ?_)
  refine Jg ?_
  refine Jb ?_
  refine Jz rfl zbl ?_
  refine Jh ?_
  refine Jc ?_
  refine Ja (Je rfl) O O O (Ja (Va hT O O O) O O O (Ja (Ji hT O O O O O O) O O O ?_))
  refine Ja (Jm hT O O O zrd) O O O ?_
  refine Ja (Va hT O O O) O O O (Ja (Wa O O) O O O (Ja (Jd rfl) O O O ?_))
  refine Jg ?_
  refine Jb ?_
  refine Jz rfl zbl ?_
  refine Ve ?_
  refine Jy ?_
  refine Jb ?_
  refine Jh ?_
  refine Jc ?_
  refine Ja (Jd rfl) O O O ?_
  refine Jg ?_
  refine Jb ?_
  refine Jh ?_
  refine Jh ?_
  refine Jc ?_
  refine Ja (Je rfl) O O O (Ja (Va hT O O O) O O O (Ja (Je rfl) O O O ?_))
  refine Jg ?_
  refine Jb ?_
  refine Vh ?_
  refine J.loop (α := Nat × Option Addr × Nat) (fun s => s.1 ≤ n ∧ ∀ (i : Nat) b, i < s.1 → R[i]? = some b → (b.length : Int) = replyN hops) (fun s => [(2, .pointer (some ⟨bo, 0, none⟩)), (4, .pointer (some ⟨br, 0, none⟩)), (7, .slice s.2.1 s.1 s.2.2), (23, .slice q n c), (24, .int .i64 n), (25, .int .i64 s.1)]) (fun s => own 63 4 (.slice s.2.1 s.1 s.2.2) s.1 (downs last ((G.take s.1).map (·.1)) (rv.take s.1)) :: row bo 68 (eV last 2 hops ga n gc) :: row br 68 [.int .u64 0, .int .i64 0, .int .i64 0, .slice none 0 0] :: K :: l) (fun s => n - s.1) (0, none, 0) ⟨Nat.zero_le _, fun i b h => by dsimp only at h; omega⟩ ⟨O, O, O, O, O, O, trivial⟩ (fun w s => Sat.own_nil (s.sup zsup)) ?_
  rintro ⟨j, qa, qc⟩ ⟨hj, hall⟩
  dsimp only at hj hall ⊢
  refine Jh ?_
  refine Jc ?_
  refine Ja (y_lss O O) O O O ?_
  refine Jg ?_
  refine Jb ?_
  refine Jh ?_
  first | apply Vb rfl | apply Vq rfl
  case' ht =>
    intro h
    try (first | (exfalso; omega) | (cases h; done) | (exfalso; simp at h; done) | subst h)
    all_goals
      have hlt : j < n := by omega
      obtain ⟨⟨k, b0⟩, hx⟩ : ∃ q, G[j]? = some q := ⟨_, List.getElem?_eq_getElem (by omega)⟩
      obtain ⟨b, hrb⟩ : ∃ b, R[j]? = some b := ⟨_, List.getElem?_eq_getElem (by omega)⟩
      obtain ⟨rp, rc, hv⟩ := hget j b hrb
      obtain ⟨v0, hv0⟩ : ∃ v, vals[j]? = some v := ⟨_, List.getElem?_eq_getElem (by omega)⟩
      obtain ⟨gg, go, rfl, hgr⟩ := hgot.rd.resolve_right fun ⟨h0, _⟩ => by have := hgot.le; omega
      obtain ⟨gq, gp, rfl, hqr⟩ := hin.rd.resolve_right fun ⟨h0, _⟩ => by have := hin.le; omega
      have hbl := hbig _ (List.mem_of_getElem? hrb)
      have hzj : ((G.map (·.1)).zip vals)[j]? = some (k, v0) := by
        rw [List.getElem?_zip_eq_some]
        exact ⟨by simp [hx], hv0⟩
      refine Ve ?_
  case' hf =>
    intro h
    try (first | (exfalso; omega) | (cases h; done) | (exfalso; simp at h; done) | subst h)
    all_goals
      obtain rfl : j = n := by omega
      refine J.exit ?_
      refine Vd ?_
      refine Vd ?_
      refine Vn ?_
      refine Jb ?_
      refine Jh ?_
      refine Jc ?_
      refine Ja (Ji hT O O O O O O) O O O ?_
      refine Ja (Jm hT O O O zrd) O O O ?_
      refine Ja (y_build (cs := [_, _, _, _]) hT O O O O O O ⟨⟨zln, Nat.le_of_ble_eq_true rfl⟩, trivial⟩ rfl) O O O ?_
      refine Ja (Je rfl) O O O ?_
      refine Jj rfl (Vf hT O O O zln zoc zpk zln ?_)
      refine Ja (Jd rfl) O O O (Ja (Jd rfl) O O O ?_)
      refine Jg ?_
      refine Jb ?_
      refine Vi ?_
      refine JE.ret3 (.inl rfl) O O zrv zrv zrv ?_
      first
      | (have zz := hbad
         exact ⟨K :: l, fun w s => s.sup zsup, .inr ⟨hbad, rfl, rfl⟩⟩)
      | (have hok : ∀ b ∈ R, (b.length : Int) = replyN hops := fun b hb => by
           obtain ⟨i, hi⟩ := List.getElem?_of_mem hb
           exact hall i b (by have := (List.getElem?_eq_some_iff.1 hi).1; omega) hi
         refine ⟨own 63 4 (.slice qa j qc) j (downs last (G.map (·.1)) rv) :: K :: l, fun w s => ?_, .inl ⟨hok, qa, qc, rfl, rfl⟩⟩
         rw [List.take_of_length_le (by omega), List.take_of_length_le (by omega)] at s
         exact s.sup zsup)
  all_goals refine Jb ?_
  all_goals
    refine Jh ?_
    refine Vh ?_
    refine Jh ?_
    refine Jc ?_
    refine Ja (Je rfl) O O O ?_
    refine Ja (Vg hT O O O O O zix zix) O O O ?_
    refine Ja (Jm hT O O O (Rd1.elem (InL.rdn (((hin.cons _).cons _).cons _)) hv)) O O O ?_
    refine Ja (Jd rfl) O O O (Ja (Jd rfl) O O O ?_)
    refine Jg ?_
    refine Jb ?_
    refine Jh ?_
    refine Jh ?_
    refine Jc ?_
    refine Ja (Je rfl) O O O (Ja (Va hT O O O) O O O (Ja (Ji hT O O O O O O) O O O ?_))
    refine Ja (Jm hT O O O zrd) O O O ?_
    refine Ja (y_mul O O zwr) O O O ?_
    refine Ja (Wg O O zwr) O O O ?_
    refine Ja (Wa O O) O O O ?_
    refine Jg ?_
    refine Jb ?_
    first | apply Vb rfl | apply Vq rfl
    case' ht =>
      intro h
      try (first | (exfalso; omega) | (cases h; done) | (exfalso; simp at h; done) | subst h)
      all_goals
        have hbad : ¬ ∀ b ∈ R, (b.length : Int) = replyN hops := fun hz => h (by rw [hz b (List.mem_of_getElem? hrb), hrep])
        refine Jh ?_
        refine Jc ?_
        refine Ja (Vu hT O O O zrdn zln) O O O ?_
        refine Jj rfl (Vf hT O O O zln zoc zpk zln ?_)
        refine Ja (Jd rfl) O O O (Ja (Jd rfl) O O O ?_)
        refine Jg ?_
        refine Jb ?_
        refine Vi ?_
        refine Jw ?_
        refine Vl ?_
        refine Jw ?_
        refine Jw ?_
        refine Vl ?_
        refine Jw ?_
        refine JE.ret3 (.inl rfl) O O zrv zrv zrv ?_
        first
        | (have zz := hbad
           exact ⟨K :: l, fun w s => s.sup zsup, .inr ⟨hbad, rfl, rfl⟩⟩)
        | (have hok : ∀ b ∈ R, (b.length : Int) = replyN hops := fun b hb => by
             obtain ⟨i, hi⟩ := List.getElem?_of_mem hb
             exact hall i b (by have := (List.getElem?_eq_some_iff.1 hi).1; omega) hi
           refine ⟨own 63 4 (.slice qa j qc) j (downs last (G.map (·.1)) rv) :: K :: l, fun w s => ?_, .inl ⟨hok, qa, qc, rfl, rfl⟩⟩
           rw [List.take_of_length_le (by omega), List.take_of_length_le (by omega)] at s
           exact s.sup zsup)
    case' hf =>
      intro h
      try (first | (exfalso; omega) | (cases h; done) | (exfalso; simp at h; done) | subst h)
      all_goals
        have hgood : (b.length : Int) = replyN hops := by rw [hrep]; omega
        refine Ve ?_
    all_goals refine Jb ?_
    all_goals
      refine Wn _ _ [(0, .q), (1, .q), (2, .q), (3, .q), (4, .q), (5, .q), (6, .q), (7, .q), (8, .q), (9, .q), (10, .q), (11, .q), (12, .q), (13, .q), (14, .q), (15, .q), (16, .q), (17, .n), (18, .l), (19, .q)] mixed (by kernel_rfl) (Jk (Jp) (Jl)) ?_
      refine Jf O O O O (fun m => Je rfl) ?_
      refine Jf O O O O (fun m => Ji hT O O O O O O) ?_
      refine Jf O O O O (fun m => Jm hT O O O zrda) ?_
      refine Jf O O O O (fun m => Je rfl) ?_
      refine Jf O O O O (fun m => Vg hT O O O O O zix zix) ?_
      refine Jf O O O O (fun m => Ji hT O O O O O O) ?_
      refine Jf O O O O (fun m => Jm hT O O O (Rd1.ofN (j := 0) (v := .int .i64 (k.tdiv 3)) ((InL.rdn (InL.kept hgot (Vr m zpk))).elem hzl hzj) rfl)) ?_
      refine Jf O O O O (fun m => Ji hT O O O O O O) ?_
      refine Jf O O O O (fun m => Jm hT O O O zrda) ?_
      refine Jf O O O O (fun m => Je rfl) ?_
      refine Jf O O O O (fun m => Vg hT O O O O O zix zix) ?_
      refine Jf O O O O (fun m => Ji hT O O O O O O) ?_
      refine Jf O O O O (fun m => Jm hT O O O (Rd1.ofN (j := 1) (v := .int .i64 (k.tmod 3)) ((InL.rdn (InL.kept hgot (Vr m zpk))).elem hzl hzj) rfl)) ?_
      refine Jf O O O O (fun m => Ji hT O O O O O O) ?_
      refine Jf O O O O (fun m => Jm hT O O O zrda) ?_
      refine Jf O O O O (fun m => Je rfl) ?_
      refine Jf O O O O (fun m => y_build (cs := [_, _, _, _]) hT O O O O O O ⟨⟨zln, Nat.le_of_ble_eq_true rfl⟩, ⟨⟨zln, Nat.le_of_ble_eq_true rfl⟩, ⟨⟨zln, Nat.le_of_ble_eq_true rfl⟩, ⟨⟨zln, Nat.le_of_ble_eq_true rfl⟩, trivial⟩⟩⟩⟩ rfl) ?_
      refine JM.lay O O O O (fun a hf => lays_buildSlice hT O O O O hf O O O zfl) (fun b3 => ?_)
      refine Wf O O (fun fr => l_append hT O O O O O O O O zpk zrdn zln zoc zab zix rfl (fun ab4 cb4 hb4 => ⟨[_, _], (by (repeat (first | exact Jl | exact Vs | refine Jk Jp ?_))), ?_⟩))
      refine Jf O O O O (fun m => Jd rfl) ?_
      refine Wi ?_
    all_goals refine Jy ?_
    all_goals refine Jb ?_
    all_goals
      refine Jc ?_
      refine Ja (Wg O O zwr) O O O ?_
      refine Ja (Je rfl) O O O ?_
      refine Jg ?_
  all_goals
    refine Wc (s := (j, qa, qc)) (j + 1, _, _) ⟨hlt, fun i b' hi hb' => by
      rcases Nat.lt_or_ge i j with z | z
      · exact hall i b' z hb'
      · obtain rfl : i = j := by dsimp only at hi; omega
        rw [hrb] at hb'
        cases hb'
        exact hgood⟩ ⟨O, O, O, O, O, O, trivial⟩ (fun w s => ?_) (by dsimp only; omega)
    dsimp only
    have e1 : downs last ((G.take (j + 1)).map (·.1)) (rv.take (j + 1)) = downs last ((G.take j).map (·.1)) (rv.take j) ++ downE last k (.slice rp b.length rc) := by
      rw [List.take_add_one, hx, List.take_add_one, hv, Option.toList_some, Option.toList_some, List.map_append, List.map_cons, List.map_nil, downs_snoc _ (by rw [List.length_map, List.length_take, List.length_take]; omega)]
    rw [e1]
    exact s.sup zsup
end
end Go.Proofs.YtimekohdlofmaaaGreat
namespace Go.Proofs.YtimekohdlofmaaaGreat
open Go Go.SL
theorem keyB_mem {m : Nat} : ∀ k ∈ keysL m, (ints .u8 k).length = 32 := fun k hk => by
  simp only [keysL, List.mem_map] at hk
  obtain ⟨i, _, rfl⟩ := hk
  exact keyB_length i
theorem keysL_length (m : Nat) : (keysL m).length = m := by simp [keysL]
attribute [local irreducible] J JL JE JM LS Y Fc RV Code.wp wpList Code.wpIn wpListIn
attribute [local irreducible] Yc
variable (E : World)
/-- A round is announced with one key, on a disk that is not armed. -/
theorem announce_up {S : Sb} {D : Dk} {L : Lg} {last : BitVec 64} (h : LH S D L) (hN : entryN L = some last) (hlast : last + 1#64 ≠ 0#64) (ht : S.turn.toNat + 1 < 18446744073709551616) (h64 : D.safe.length = 64) :
    ∃ A Sa D', LH Sa D' A ∧ entryN A = some (last + 1#64) ∧ Sa.turn.toNat ≤ S.turn.toNat + 1 ∧ D'.safe.length = 64 ∧ ∀ (x lg st d : Nat) (hops : Int) (got : Value) (p : Option Addr) (cap n : Nat) (ks : List (List Int)) (l : List HProp), ks.length = n → 1 ≤ n → n ≤ 3 → (∀ k ∈ ks, (ints .u8 k).length = 32) → InL l p n cap (ks.flatMap (ints .u8)) →
      Fc prog E 13 [.pointer (some ⟨x, 0, none⟩), .slice p n cap].toArray (entR x lg false last 0 hops got :: logm lg st L :: row st 224 (scells S d) :: disk d D :: l)
        (fun v l' => ∃ a c g, v = .tuple #[.agg #[Q (last + 1#64), .slice a n c], .int .i64 0] ∧ l' = own 73 32 (.slice a n c) n (ks.flatMap (ints .u8)) :: blk g (.map #[] 0) :: entR x lg false (last + 1#64) 1 n (.map (some g)) :: logm lg st A :: row st 224 (scells Sa d) :: disk d D' :: l) := by
  obtain ⟨A, La, Sa, X, e, hA, hK, hc⟩ := announce_lh E (a := none) h hN hlast (fun k hk => by cases hk) ht (by omega)
  rcases hK.out with ⟨rfl, rfl, htn, D', a', rfl, hL, hl, hn, _⟩ | ⟨_, hne, _⟩
  · obtain rfl := hn rfl
    refine ⟨La, Sa, D', hL, hA, htn, hl.trans h64, fun x lg st d hops got p cap n ks l h1 h2 h3 h4 h5 => ?_⟩
    exact (announce_spec E x lg st d last hops got S Sa D D' L La p cap n ks l h1 h2 h3 h4 h5 0 hlast (fun l => hc x lg st d hops got l)).mono fun v l' q => by
      rcases q with ⟨_, q⟩ | ⟨q, _⟩
      · exact q
      · exact absurd rfl q
  · exact absurd rfl hne
theorem entryN_app (L : Lg) (b : List Int) (u : Nat) : entryN { L with txs := L.txs ++ [b], used := u } = (entryN L).bind fun m => enext m b := by
  unfold entryN
  dsimp only
  cases estart L.snap with
  | none => rfl
  | some n =>
    rw [Option.bind_some, Option.bind_some, echain_append]
    congr 1
    funext m
    simp [echain]
/-- The last number, right or not. -/
def LastIs (L : Lg) (right : Bool) (last : BitVec 64) : Prop := entryN L = if right = true then some last else none
theorem LastIs.off {L : Lg} {last : BitVec 64} (h : LastIs L true last) {b : List Int} (hb : ¬ (b.length = 8 ∧ last.toNat < (leG b 8).toNat)) (u : Nat) (x : BitVec 64) : LastIs { L with txs := L.txs ++ [b], used := u } false x := by
  unfold LastIs at h ⊢
  rw [entryN_app, h, if_pos rfl, Option.bind_some, enext, if_neg hb]
  rfl
theorem LastIs.on {L : Lg} {last : BitVec 64} (h : LastIs L true last) {b : List Int} (hb : b.length = 8 ∧ last.toNat < (leG b 8).toNat) (u : Nat) : LastIs { L with txs := L.txs ++ [b], used := u } true (leG b 8) := by
  unfold LastIs at h ⊢
  rw [entryN_app, h, if_pos rfl, Option.bind_some, enext, if_pos hb, if_pos rfl]
theorem wakes22_spec (l : List HProp) : Fc prog E 11 [].toArray l (fun v l' => v = .bool true ∧ l' = l) := by
  refine Wo ?_
  obtain ⟨S, D', L, a', hL, hN, htn, hl', hna, _, hopen⟩ := (eopen_cases E (a := none) ESt.new (fun k hk => by cases hk)).resolve_right (fun h => h.1 rfl)
  obtain rfl := hna rfl
  obtain ⟨A, Sa, D2, hL2, hA, _, _, hann⟩ := announce_up E hL hN (by decide) (by omega) hl'
  refine Js (c := ?codeC) Tryz.func11 ?hb Tryz.ntmps11 ?hl ?_
  case hb => exact rfl
  case hl => exact rfl
  refine Jh ?_
  refine Jc ?_
  refine Ja (Jd rfl) O O O ?_
  refine Jg ?_
  refine Jb ?_
  refine Jh ?_
  refine Jc ?_
  refine Jj rfl (Jv e22 O O (new_good E 64 _ (by decide) (by decide)) ?_)
  rintro _ _ ⟨d, rfl, rfl⟩
  refine Ja (Je rfl) O O O (Ja (Jx O O) O O O (Ja (Jx O O) O O O (Ja (Jd rfl) O O O (Ja (Jd rfl) O O O ?_))))
  refine Jg ?_
  refine Jb ?_
  refine Jh ?_
  refine Jh ?_
  refine Jc ?_
  refine Ja (Je rfl) O O O (Ja (Wa O O) O O O ?_)
  refine Jg ?_
  refine Jb ?_
  refine Jz rfl zbl ?_
  refine Ve ?_
  refine Jb ?_
  refine Jh ?_
  refine Jc ?_
  refine Ja (Je rfl) O O O ?_
  refine Jj rfl (Jv e12 O O (hopen d _) ?_)
  rintro _ _ ⟨x, lg, st, rfl, rfl⟩
  refine Ja (Je rfl) O O O (Ja (Jx O O) O O O (Ja (Jx O O) O O O (Ja (Jd rfl) O O O (Ja (Jd rfl) O O O ?_))))
  refine Jg ?_
  refine Jb ?_
  refine Jh ?_
  refine Jh ?_
  refine Jc ?_
  refine Ja (Je rfl) O O O (Ja (Wa O O) O O O (Ja (Je rfl) O O O ?_))
  all_goals (first | (refine Vj O O O (fun h => ?_) (fun h => ?_) <;> try (first | (exfalso; omega) | exact absurd rfl h)) | (refine Vz O O O (fun h => ?_) (fun h => ?_) <;> try (first | cases h | (exfalso; simp at h; done))) | skip)
  all_goals (first | refine Jt O O O O O O ?_ | refine Jq O O O O O ?_ | refine Ju O O O (Je rfl) O O ?_)
  all_goals (first | refine Jt O O O O O O ?_ | refine Jq O O O O O ?_ | refine Ju O O O (Vw hT O O O O) O O ?_)
  all_goals (refine Ja (Wk O O O) O O O ?_)
  all_goals refine Jg ?_
  all_goals refine Jb ?_
  all_goals
    refine Jz rfl zbl ?_
    refine Ve ?_
  all_goals refine Jb ?_
  all_goals
    refine Jh ?_
    refine Jc ?_
    refine Ja (Je rfl) O O O ?_
    refine Ja (y_buildArr (cs := ints .u8 (keyB 0)) hT O O O O O (fill_arr0 (m := 31) O O)) O O O ?_
    refine Jj rfl (l_buildSliceP (cs := ints .u8 (keyB 0)) hT O O O O O O O (fill_one rfl (keyB_length 0)) rfl (fun bk => ?_))
    refine Jj rfl (Jv e13 O O (Wm (Jk zpk (Jk zpk (Jk zpk (Jk zpk Jl)))) (hann x lg st d 0 (.map none) _ 1 1 [keyB 0] _ rfl (by decide) (by decide) (fun k hk => by rw [List.mem_singleton.1 hk]; exact keyB_length 0) ⟨by decide, by decide, .inl ⟨bk, 0, rfl, fun m => RdN.row (n := 32) (Vr m zpk) rfl⟩⟩)) ?_)
    rintro _ _ ⟨ka, kc, g, rfl, rfl⟩
    refine Ja (Je rfl) O O O (Ja (Jx O O) O O O (Ja (Jx O O) O O O ?_))
    refine Jj rfl (Vt hT O O zcl rfl (fun b4 => ?_))
    refine Jj rfl (Vf hT O O O zln zoc zpk zln ?_)
    refine Ja (Jd rfl) O O O ?_
    refine Jg ?_
    refine Jb ?_
    refine Jh ?_
    refine Jc ?_
    refine Ja (Je rfl) O O O (Ja (y_eql O O) O O O (Ja (Je rfl) O O O ?_))
    all_goals (first | (refine Vj O O O (fun h => ?_) (fun h => ?_) <;> try (first | (exfalso; omega) | exact absurd rfl h)) | (refine Vz O O O (fun h => ?_) (fun h => ?_) <;> try (first | cases h | (exfalso; simp at h; done))) | skip)
    all_goals (first | refine Jt O O O O O O ?_ | refine Jq O O O O O ?_ | refine Ju O O O (Ji hT O O O O O O) O O ?_)
    all_goals (first | refine Jt O O O O O O ?_ | refine Jq O O O O O ?_ | refine Ju O O O (Jm hT O O O zrd) O O ?_)
    all_goals (first | refine Jt O O O O O O ?_ | refine Jq O O O O O ?_ | refine Ju O O O (y_eql O O) O O ?_)
    all_goals (refine Ja (Wk O O O) O O O ?_)
    all_goals (refine Ja (Je rfl) O O O ?_)
    all_goals (first | (refine Vj O O O (fun h => ?_) (fun h => ?_) <;> try (first | (exfalso; omega) | exact absurd rfl h)) | (refine Vz O O O (fun h => ?_) (fun h => ?_) <;> try (first | cases h | (exfalso; simp at h; done))) | skip)
    all_goals (first | refine Jt O O O O O O ?_ | refine Jq O O O O O ?_ | refine Ju O O O (Je rfl) O O ?_)
    all_goals (first | refine Jt O O O O O O ?_ | refine Jq O O O O O ?_ | (refine JL.gloud O O O (Jv e18 O O (Wm (Jk zpk Jl) (ephase_spec E x lg false _ 1 _ _ _)) ?_); rintro _ _ ⟨rfl, rfl⟩))
    all_goals (first | refine Jt O O O O O O ?_ | refine Jq O O O O O ?_ | refine Ju O O O (y_eql O O) O O ?_)
    all_goals (refine Ja (Wk O O O) O O O ?_)
    all_goals (refine Ja (Je rfl) O O O ?_)
    all_goals (first | (refine Vj O O O (fun h => ?_) (fun h => ?_) <;> try (first | (exfalso; omega) | exact absurd rfl h)) | (refine Vz O O O (fun h => ?_) (fun h => ?_) <;> try (first | cases h | (exfalso; simp at h; done))) | skip)
    all_goals (first | refine Jt O O O O O O ?_ | refine Jq O O O O O ?_ | refine Ju O O O (Je rfl) O O ?_)
    all_goals (first | refine Jt O O O O O O ?_ | refine Jq O O O O O ?_ | (refine JL.gloud O O O (Jv e17 O O (Wm (Jk zpk Jl) (eround_spec E x lg false _ 1 _ _ _)) ?_); rintro _ _ ⟨rfl, rfl⟩))
    all_goals (first | refine Jt O O O O O O ?_ | refine Jq O O O O O ?_ | refine Ju O O O (y_eql O O) O O ?_)
    all_goals (refine Ja (Wk O O O) O O O ?_)
    all_goals (refine Ja (Jd rfl) O O O ?_)
    all_goals refine Jg ?_
    all_goals refine Jb ?_
    all_goals
      refine Vi ?_
      refine Vk (.inl rfl) O O zrv ?_
      exact ⟨rfl, fun w q => q.sup zsup⟩
end Go.Proofs.YtimekohdlofmaaaGreat
