import Derived.Test.YtimekohdlofmaaaGreatJoin1
import Derived.Test.YtimekohdlofmaaaGreatJoin6
import Derived.Test.YtimekohdlofmaaaGreatJoin8
import Derived.Test.YtimekohdlofmaaaGreatJoin9
/- Chapter 22's law: what it hands to an entry, and how it compares. -/
namespace Go.Proofs.YtimekohdlofmaaaGreat
open Go Go.SL
section
attribute [local irreducible] J JL JE JM LS Y Fc RV Code.wp wpList Code.wpIn wpListIn
attribute [local irreducible] Yc
variable (E : World)
theorem same22_spec (p q : Option Addr) (n m c1 c2 : Nat) (va vb : List Value) (ta tb : List (List Int)) (l : List HProp) (hn : ta.length = n) (hm : tb.length = m) (hb : n ≤ 1000000000) (hA : InL l p n c1 va) (hB : InL l q m c2 vb) (sa : ∀ b ∈ ta, Bytes b) (sb : ∀ b ∈ tb, Bytes b)
    (gA : ∀ (i : Nat) b, ta[i]? = some b → ∃ q c, va[i]? = some (.slice q b.length c) ∧ InL l q b.length c (ints .u8 b)) (gB : ∀ (i : Nat) b, tb[i]? = some b → ∃ q c, vb[i]? = some (.slice q b.length c) ∧ InL l q b.length c (ints .u8 b)) :
    Fc prog E 25 [.slice p n c1, .slice q m c2].toArray l (fun v l' => v = .bool (decide (ta = tb)) ∧ l' = l) := by
  refine Js (c := ?codeC) Tryz.func25 ?hb Tryz.ntmps25 ?hl ?_
  case hb => exact rfl
  case hl => exact rfl
  refine Jh ?_
  refine Jc ?_
  refine Ja (Jd rfl) O O O ?_
  refine Jg ?_
  refine Jb ?_
  refine Jh ?_
  refine Jh ?_
  refine Jc ?_
  refine Ja (Je rfl) O O O (Ja (Va hT O O O) O O O (Ja (Je rfl) O O O (Ja (Va hT O O O) O O O (Ja (Wa O O) O O O ?_))))
  refine Jg ?_
  refine Jb ?_
  first | apply Vb rfl | apply Vq rfl
  case' ht =>
    intro h
    try (first | (exfalso; omega) | (cases h; done) | (exfalso; simp at h; done) | subst h)
    all_goals
      refine Jh ?_
      refine Jc ?_
      refine Ja (Jd rfl) O O O ?_
      refine Jg ?_
      refine Jb ?_
      refine Vi ?_
      refine Jw ?_
      refine Vk (.inl rfl) O O zrv ?_
      refine ⟨?_, rfl⟩
      first
        | exact congrArg Value.bool (decide_eq_false (fun e => hab (by rw [e, hb'] at ha; exact (Option.some.inj ha).symm))).symm
        | exact congrArg Value.bool (decide_eq_true (by
            rw [show j = n by omega] at hjt
            rwa [List.take_of_length_le (by omega), List.take_of_length_le (by omega)] at hjt)).symm
        | exact congrArg Value.bool (decide_eq_false (fun e => by rw [e] at hn; omega)).symm
  case' hf =>
    intro h
    try (first | (exfalso; omega) | (cases h; done) | (exfalso; simp at h; done) | subst h)
    all_goals
      refine Ve ?_
  all_goals refine Jb ?_
  all_goals
    refine Jh ?_
    refine Jh ?_
    refine Jc ?_
    refine Ja (Je rfl) O O O (Ja (Va hT O O O) O O O (Ja (Je rfl) O O O ?_))
    refine Jg ?_
    refine Jb ?_
    refine Vh ?_
    refine J.loop (α := Nat) (fun j => j ≤ n ∧ ta.take j = tb.take j) (fun j => [(0, .slice p n c1), (1, .slice q m c2), (12, .int .i64 n), (13, .int .i64 j)]) (fun _ => l) (fun j => n - j) 0 ⟨Nat.zero_le _, rfl⟩ ⟨O, O, O, O, trivial⟩ (fun w h => h) ?_
    intro j hj
    obtain ⟨hj, hjt⟩ := hj
    have hnm : n = m := by omega
    refine Jh ?_
    refine Jc ?_
    refine Ja (y_lss O O) O O O ?_
    refine Jg ?_
    refine Jb ?_
    refine Jh ?_
    first | apply Vb rfl | apply Vq rfl
    case' ht =>
      intro h
      try (first | (exfalso; omega) | (cases h; done) | (exfalso; simp at h; done) | subst h)
      all_goals
        refine Ve ?_
    case' hf =>
      intro h
      try (first | (exfalso; omega) | (cases h; done) | (exfalso; simp at h; done) | subst h)
      all_goals
        refine J.exit ?_
        refine Vd ?_
        refine Vd ?_
        refine Vn ?_
        refine Jb ?_
        refine Jh ?_
        refine Jc ?_
        refine Ja (Jd rfl) O O O ?_
        refine Jg ?_
        refine Jb ?_
        refine Vi ?_
        refine Vk (.inl rfl) O O zrv ?_
        refine ⟨?_, rfl⟩
        first
          | exact congrArg Value.bool (decide_eq_false (fun e => hab (by rw [e, hb'] at ha; exact (Option.some.inj ha).symm))).symm
          | exact congrArg Value.bool (decide_eq_true (by
              rw [show j = n by omega] at hjt
              rwa [List.take_of_length_le (by omega), List.take_of_length_le (by omega)] at hjt)).symm
          | exact congrArg Value.bool (decide_eq_false (fun e => by rw [e] at hn; omega)).symm
    all_goals refine Jb ?_
    all_goals
      refine Jh ?_
      refine Vh ?_
      refine Jh ?_
      have hlt : j < n := by omega
      obtain ⟨g1, o1, rfl, hr1⟩ := hA.addr (by omega)
      obtain ⟨g2, o2, rfl, hr2⟩ := hB.addr (by omega)
      obtain ⟨a, ha⟩ : ∃ a, ta[j]? = some a := ⟨_, List.getElem?_eq_getElem (by omega)⟩
      obtain ⟨b, hb'⟩ : ∃ b, tb[j]? = some b := ⟨_, List.getElem?_eq_getElem (by omega)⟩
      obtain ⟨aq, ac, hva, ia⟩ := gA j a ha
      obtain ⟨bq, bc, hvb, ib⟩ := gB j b hb'
      refine Jc ?_
      refine Ja (Je rfl) O O O (Ja (Jd rfl) O O O ?_)
      refine Jg ?_
      refine Jb ?_
      refine Jh ?_
      refine Wn _ _ [(0, .q), (1, .q), (2, .q), (3, .q), (4, .q), (5, .q), (6, .q), (7, .q), (8, .q), (9, .q)] mixed (by kernel_rfl) (Jl) ?_
      refine Jf O O O O (fun m => Je rfl) ?_
      refine Jf O O O O (fun m => Je rfl) ?_
      refine Jf O O O O (fun m => Vg hT O O O O O zix zix) ?_
      refine Jf O O O O (fun m => Jm hT O O O (Rd1.elem (hr1 m) hva)) ?_
      refine Jf O O O O (fun m => Je rfl) ?_
      refine Jf O O O O (fun m => Je rfl) ?_
      refine Jf O O O O (fun m => Vg hT O O O O O zix zix) ?_
      refine Jf O O O O (fun m => Jm hT O O O (Rd1.elem (hr2 m) hvb)) ?_
      refine Jf O O O O (fun m => y_callF e28 rfl (bequal_spec E aq bq ac bc a.length b.length a b _ O O (sa a (List.mem_of_getElem? ha)) (sb b (List.mem_of_getElem? hb')) (ia.app m) (ib.app m))) ?_
      refine Jf O O O O (fun m => y_not rfl) ?_
      refine Wi ?_
      refine Jb ?_
      first | apply Vb rfl | apply Vq rfl
      case' ht =>
        intro h
        try (first | (exfalso; omega) | (cases h; done) | (exfalso; simp at h; done) | subst h)
        all_goals
          have hab : ¬ a = b := by simpa using h
          refine Jh ?_
          refine Jc ?_
          refine Ja (Jd rfl) O O O ?_
          refine Jg ?_
          refine Jb ?_
          refine Vi ?_
          refine Vl ?_
          refine Jw ?_
          refine Jw ?_
          refine Vl ?_
          refine Jw ?_
          refine Vk (.inl rfl) O O zrv ?_
          refine ⟨?_, rfl⟩
          first
            | exact congrArg Value.bool (decide_eq_false (fun e => hab (by rw [e, hb'] at ha; exact (Option.some.inj ha).symm))).symm
            | exact congrArg Value.bool (decide_eq_true (by
                rw [show j = n by omega] at hjt
                rwa [List.take_of_length_le (by omega), List.take_of_length_le (by omega)] at hjt)).symm
            | exact congrArg Value.bool (decide_eq_false (fun e => by rw [e] at hn; omega)).symm
      case' hf =>
        intro h
        try (first | (exfalso; omega) | (cases h; done) | (exfalso; simp at h; done) | subst h)
        all_goals
          have hab : a = b := by simpa using h
          refine Ve ?_
      all_goals refine Jy ?_
      all_goals refine Jb ?_
      all_goals
        refine Jc ?_
        refine Ja (Wg O O zwr) O O O ?_
        refine Ja (Je rfl) O O O ?_
        refine Jg ?_
    all_goals
      exact Wc (s := j) (j + 1) ⟨by omega, by rw [List.take_add_one, List.take_add_one, ha, hb', hjt, hab]⟩ ⟨O, O, O, O, trivial⟩ (fun w q => q) (by omega)
theorem few22_spec (p : Option Addr) (n c : Nat) (cs : List Value) (l l0 : List HProp) (hin : InL l0 p n c cs) : Fc prog E 29 [.slice p n c].toArray l (fun v l' => v = .slice p (min n 80) c ∧ l' = l) := by
  refine Js (c := ?codeC) Tryz.func29 ?hb Tryz.ntmps29 ?hl ?_
  case hb => exact rfl
  case hl => exact rfl
  refine Jh ?_
  refine Jc ?_
  refine Ja (Jd rfl) O O O ?_
  refine Jg ?_
  refine Jb ?_
  refine Jh ?_
  refine Jc ?_
  refine Ja (Je rfl) O O O (Ja (Je rfl) O O O (Ja (Va hT O O O) O O O ?_))
  refine Ja (y_min2 (m := ((min n 80 : Nat) : Int)) O O (by omega)) O O O ?_
  refine Ja (y_cutTo hT O O O O O O (show min n 80 ≤ n by omega) hin) O O O ?_
  refine Ja (Jd rfl) O O O ?_
  refine Jg ?_
  refine Jb ?_
  refine Vi ?_
  refine Vk (.inl rfl) O O zrv ?_
  exact ⟨rfl, rfl⟩
/-- What kind of a row it is: the rest by 8, and what that stands for. -/
def Op22.k (o : Op22) : Nat := (BitVec.ofInt 64 o.kind).toNat % 8
def kindN : Nat → Int
  | 0 => 0
  | 1 => 1
  | 2 => 1
  | 3 => 1
  | 4 => 4
  | 5 => 5
  | 6 => 6
  | _ => 7
theorem kind22_spec (o : Op22) (l : List HProp) : Fc prog E 30 [.agg (op22 o).toArray].toArray l (fun v l' => v = .int .i64 (kindN o.k) ∧ l' = l) := by
  refine Wo ?_
  have hk : o.k = (BitVec.ofInt 64 o.kind).toNat % 8 := rfl
  have hv : ([Value.int .i64 0, .int .i64 1, .int .i64 1, .int .i64 1, .int .i64 4, .int .i64 5, .int .i64 6, .int .i64 7] : List Value)[o.k]? = some (.int .i64 (kindN o.k)) := by
    have h8 : o.k < 8 := by omega
    generalize o.k = x at h8 ⊢
    match x, h8 with
    | 0, _ => rfl
    | 1, _ => rfl
    | 2, _ => rfl
    | 3, _ => rfl
    | 4, _ => rfl
    | 5, _ => rfl
    | 6, _ => rfl
    | 7, _ => rfl
  refine Js (c := ?codeC) Tryz.func30 ?hb Tryz.ntmps30 ?hl ?_
  case hb => exact rfl
  case hl => exact rfl
  refine Jh ?_
  refine Jc ?_
  refine Jj rfl (l_box (cs := op22 o) O O O (fun bo => ?_))
  refine Ja (Jd rfl) O O O ?_
  refine Jg ?_
  refine Jb ?_
  refine Jh ?_
  refine Jc ?_
  refine Ja (y_buildArr hT O O O O O (by first | rfl | decide)) O O O ?_
  refine Ja (Ji hT O O O O O O) O O O ?_
  refine Ja (Jm hT O O O zrd) O O O ?_
  refine Ja (y_convToQ hT O O O O) O O O ?_
  refine Ja (y_rem (m := (o.k : Int)) O O (by decide) (by rw [Int.tmod_eq_emod_of_nonneg (by omega)]; omega)) O O O ?_
  refine Ja (y_index1 (v := .int .i64 (kindN o.k)) hT O O O O O O O (by omega) (by omega) hv) O O O ?_
  refine Ja (Jd rfl) O O O ?_
  refine Jg ?_
  refine Jb ?_
  refine Vi ?_
  refine Vk (.inl rfl) O O zrv ?_
  exact ⟨rfl, fun w q => q.sup zsup⟩
/-- The bytes that are collected. -/
def Op22.b (o : Op22) (last : BitVec 64) : List Int :=
  if o.raw.length = 0 then [2, o.client % 256, o.slot % 256] ++ leB 8 (last + BitVec.ofInt 64 o.off) ++ List.replicate (min (max o.size 0) 400).toNat o.fill else o.raw.take 400
theorem Op22.Ok.bytes {o : Op22} {l : List HProp} (h : o.Ok l) (last : BitVec 64) : Bytes (o.b last) := by
  unfold Op22.b
  split
  · intro y hy
    rcases List.mem_append.1 hy with hy | hy
    · rcases List.mem_append.1 hy with hy | hy
      · simp at hy
        rcases hy with rfl | rfl | rfl <;> omega
      · exact Bytes.leB 8 _ y hy
    · rw [List.eq_of_mem_replicate hy]; exact h.fill
  · exact fun y hy => h.raw y (List.mem_of_mem_take hy)
end
end Go.Proofs.YtimekohdlofmaaaGreat
/- One byte repeated. -/
namespace Go.Proofs.YtimekohdlofmaaaGreat
open Go Go.SL
theorem and_mask {k : Nat} (h : k < 4294967296) : bitsE .and .u64 (k : Int) 4294967295 = some (k : Int) := by
  have z := and_nat (z := BitVec.ofNat 64 k) (k := 4294967295) (by decide)
  have e : (BitVec.ofNat 64 k).toNat = k := by rw [BitVec.toNat_ofNat]; omega
  rw [e, show (4294967295 : Nat) = 2 ^ 32 - 1 from rfl, Nat.and_two_pow_sub_one_eq_mod, Nat.mod_eq_of_lt (by omega)] at z
  exact z
theorem shr_small {k : Nat} (h : k < 4294967296) : (k : Int).fdiv (2 ^ (min ((32 : Int)).toNat IntKind.u64.bits)) = 0 := by
  have z := shr_nat (i := (k : Int)) (x := k) (k := 32) rfl (by decide)
  rw [Nat.div_eq_of_lt (by omega)] at z
  exact z
section
attribute [local irreducible] J JL JE JM LS Y Fc RV Code.wp wpList Code.wpIn wpListIn
attribute [local irreducible] Yc
variable (E : World)
theorem mul64_one (k : Nat) (hk : k < 4294967296) (l : List HProp) : Fc prog E 116 [.int .u64 1, .int .u64 k].toArray l (fun v l' => v = .tuple #[.int .u64 0, .int .u64 k] ∧ l' = l) := by
  refine Js (c := ?codeC) Tryz.func116 ?hb Tryz.ntmps116 ?hl ?_
  case hb => exact rfl
  case hl => exact rfl
  refine Jh ?_
  refine Jc ?_
  refine Ja (Jd rfl) O O O (Ja (Jd rfl) O O O ?_)
  refine Jg ?_
  refine Jb ?_
  refine Jh ?_
  refine Jc ?_
  refine Ja (Je rfl) O O O ?_
  refine Ja (y_bits (m := 1) O O O) O O O ?_
  refine Ja (Jd rfl) O O O ?_
  refine Jg ?_
  refine Jb ?_
  refine Jh ?_
  refine Jc ?_
  refine Ja (Je rfl) O O O ?_
  refine Ja (y_shr (m := 0) O O (by decide) rfl) O O O ?_
  refine Ja (Jd rfl) O O O ?_
  refine Jg ?_
  refine Jb ?_
  refine Jh ?_
  refine Jc ?_
  refine Ja (Je rfl) O O O ?_
  refine Ja (y_bits (m := (k : Int)) O O (and_mask hk)) O O O ?_
  refine Ja (Jd rfl) O O O ?_
  refine Jg ?_
  refine Jb ?_
  refine Jh ?_
  refine Jc ?_
  refine Ja (Je rfl) O O O ?_
  refine Ja (y_shr (m := 0) O O (by decide) (shr_small hk)) O O O ?_
  refine Ja (Jd rfl) O O O ?_
  refine Jg ?_
  refine Jb ?_
  refine Jh ?_
  refine Jc ?_
  refine Ja (Je rfl) O O O (Ja (Je rfl) O O O ?_)
  refine Ja (y_mul (m := (k : Int)) O O (by rw [Int.one_mul]; exact wrap_u64n (by omega))) O O O ?_
  refine Ja (Jd rfl) O O O ?_
  refine Jg ?_
  refine Jb ?_
  refine Jh ?_
  refine Jc ?_
  refine Ja (Je rfl) O O O (Ja (Je rfl) O O O ?_)
  refine Ja (y_mul (m := 0) O O (by rw [Int.zero_mul]; rfl)) O O O ?_
  refine Ja (Je rfl) O O O ?_
  refine Ja (y_shr (m := 0) O O (by decide) (shr_small hk)) O O O ?_
  refine Ja (Wg (m := 0) O O O) O O O ?_
  refine Ja (Jd rfl) O O O ?_
  refine Jg ?_
  refine Jb ?_
  refine Jh ?_
  refine Jc ?_
  refine Ja (Je rfl) O O O ?_
  refine Ja (y_bits (m := 0) O O O) O O O ?_
  refine Ja (Jd rfl) O O O ?_
  refine Jg ?_
  refine Jb ?_
  refine Jh ?_
  refine Jc ?_
  refine Ja (Je rfl) O O O ?_
  refine Ja (y_shr (m := 0) O O (by decide) rfl) O O O ?_
  refine Ja (Jd rfl) O O O ?_
  refine Jg ?_
  refine Jb ?_
  refine Jh ?_
  refine Jc ?_
  refine Ja (Je rfl) O O O (Ja (Je rfl) O O O (Ja (Je rfl) O O O ?_))
  refine Ja (y_mul (m := 0) O O O) O O O ?_
  refine Ja (Wg (m := 0) O O O) O O O ?_
  refine Ja (Jd rfl) O O O ?_
  refine Jg ?_
  refine Jb ?_
  refine Jh ?_
  refine Jc ?_
  refine Ja (Je rfl) O O O (Ja (Je rfl) O O O ?_)
  refine Ja (y_mul (m := 0) O O O) O O O ?_
  refine Ja (Je rfl) O O O ?_
  refine Ja (Wg (m := 0) O O O) O O O ?_
  refine Ja (Je rfl) O O O ?_
  refine Ja (y_shr (m := 0) O O (by decide) rfl) O O O ?_
  refine Ja (Wg (m := 0) O O O) O O O ?_
  refine Ja (Jd rfl) O O O ?_
  refine Jg ?_
  refine Jb ?_
  refine Jh ?_
  refine Jc ?_
  refine Ja (Je rfl) O O O (Ja (Je rfl) O O O ?_)
  refine Ja (y_mul (m := (k : Int)) O O (by rw [Int.one_mul]; exact wrap_u64n (by omega))) O O O ?_
  refine Ja (Jd rfl) O O O ?_
  refine Jg ?_
  refine Jb ?_
  refine Vi ?_
  refine Wb (.inl rfl) O O zrv zrv ?_
  exact ⟨rfl, rfl⟩
theorem mul_one22 (k : Nat) (hk : k < 4294967296) (l : List HProp) : Fc prog E 75 [.int .u64 1, .int .u64 k].toArray l (fun v l' => v = .tuple #[.int .u64 0, .int .u64 k] ∧ l' = l) := by
  refine Js (c := ?codeC) Tryz.func75 ?hb Tryz.ntmps75 ?hl ?_
  case hb => exact rfl
  case hl => exact rfl
  refine Jh ?_
  refine Jc ?_
  refine Ja (Jd rfl) O O O (Ja (Jd rfl) O O O ?_)
  refine Jg ?_
  refine Jb ?_
  refine Jh ?_
  refine Jz rfl zbl ?_
  refine Ve ?_
  refine Jb ?_
  refine Jh ?_
  refine Jc ?_
  refine Ja (Je rfl) O O O (Ja (Je rfl) O O O ?_)
  refine Jj rfl (Jv e116 O O (mul64_one E k hk _) ?_)
  rintro _ _ ⟨rfl, rfl⟩
  refine Ja (Je rfl) O O O (Ja (Jx O O) O O O (Ja (Jx O O) O O O (Ja (Jd rfl) O O O (Ja (Jd rfl) O O O ?_))))
  refine Jg ?_
  refine Jb ?_
  refine Jh ?_
  refine Jc ?_
  refine Ja (Je rfl) O O O (Ja (Je rfl) O O O (Ja (Jd rfl) O O O (Ja (Jd rfl) O O O ?_)))
  refine Jg ?_
  refine Jb ?_
  refine Vi ?_
  refine Wb (.inl rfl) O O zrv zrv ?_
  exact ⟨rfl, rfl⟩
theorem repeat_one (b0 : Int) (p : Option Addr) (cap k : Nat) (l : List HProp) (hk1 : 1 ≤ k) (hk2 : k ≤ 8192) (hin : InL l p 1 cap (ints .u8 [b0])) :
    Fc prog E 26 [.slice p 1 cap, .int .i64 k].toArray l (fun v l' => ∃ a c K, v = .slice a k c ∧ l' = K :: l ∧ InL [K] a k c (ints .u8 (List.replicate k b0))) := by
  refine Wh ?_
  have hd0 : decide ((k : Int) = 0) = false := decide_eq_false (by omega)
  have hd1 : decide ((k : Int) < 0) = false := decide_eq_false (by omega)
  have hd2 : decide ((9223372036854775807 : Int) < (k : Int)) = false := decide_eq_false (by omega)
  have hd3 : decide ((8192 : Int) < (k : Int)) = false := decide_eq_false (by omega)
  refine Js (c := ?codeC) Tryz.func26 ?hb Tryz.ntmps26 ?hl ?_
  case hb => exact rfl
  case hl => exact rfl
  refine Jh ?_
  refine Jc ?_
  refine Ja (Jd rfl) O O O ?_
  refine Jg ?_
  refine Jb ?_
  refine Jh ?_
  refine Jh ?_
  refine Jc ?_
  refine Ja (Je rfl) O O O (Ja (y_eql O O) O O O ?_)
  refine Jg ?_
  refine Jb ?_
  refine Jz rfl zbl ?_
  refine Ve ?_
  refine Jb ?_
  refine Jh ?_
  refine Jh ?_
  refine Jc ?_
  refine Ja (Je rfl) O O O (Ja (y_lss O O) O O O ?_)
  refine Jg ?_
  refine Jb ?_
  refine Jz rfl zbl ?_
  refine Ve ?_
  refine Jb ?_
  refine Jh ?_
  refine Jc ?_
  refine Ja (Je rfl) O O O (Ja (Va hT O O O) O O O ?_)
  refine Ja (y_conv (m := 1) hT O O O O O) O O O ?_
  refine Ja (Je rfl) O O O ?_
  refine Ja (y_conv (m := (k : Int)) hT O O O O (wrap_u64n (by omega))) O O O ?_
  refine Jj rfl (Jv e75 O O (mul_one22 E k (by omega) _) ?_)
  rintro _ l1 ⟨rfl, e1⟩
  obtain rfl := e1.symm
  refine Ja (Je rfl) O O O (Ja (Jx O O) O O O (Ja (Jx O O) O O O (Ja (Jd rfl) O O O (Ja (Jd rfl) O O O ?_))))
  refine Jg ?_
  refine Jb ?_
  refine Jh ?_
  refine Jh ?_
  refine Jc ?_
  refine Ja (Je rfl) O O O ?_
  refine Ja (y_gtrB (b := false) O O O) O O O ?_
  refine Ja (Je rfl) O O O ?_
  all_goals (first | (refine Vj O O O (fun h => ?_) (fun h => ?_) <;> try (first | (exfalso; omega) | exact absurd rfl h)) | (refine Vz O O O (fun h => ?_) (fun h => ?_) <;> try (first | cases h | (exfalso; simp at h; done))) | skip)
  all_goals (first | refine Jt O O O O O O ?_ | refine Jq O O O O O ?_ | refine Ju O O O (Je rfl) O O ?_)
  all_goals (first | refine Jt O O O O O O ?_ | refine Jq O O O O O ?_ | refine Ju O O O (y_gtrB (b := false) O O hd2) O O ?_)
  all_goals (refine Ja (Wk O O O) O O O ?_)
  all_goals refine Jg ?_
  all_goals refine Jb ?_
  all_goals
    refine Jz rfl zbl ?_
    refine Ve ?_
  all_goals refine Jb ?_
  all_goals
    refine Jh ?_
    refine Jc ?_
    refine Ja (Je rfl) O O O ?_
    refine Ja (y_conv (m := (k : Int)) hT O O O O (Wj (by omega) (by omega))) O O O ?_
    refine Ja (Jd rfl) O O O ?_
    refine Jg ?_
    refine Jb ?_
    refine Jh ?_
    refine Jh ?_
    refine Jc ?_
    refine Ja (Je rfl) O O O (Ja (Va hT O O O) O O O (Ja (y_eql O O) O O O ?_))
    refine Jg ?_
    refine Jb ?_
    refine Jz rfl zbl ?_
    refine Ve ?_
    refine Jb ?_
    refine Jh ?_
    refine Jc ?_
    refine Ja (Je rfl) O O O (Ja (Jd rfl) O O O ?_)
    refine Jg ?_
    refine Jb ?_
    refine Jh ?_
    refine Jh ?_
    refine Jc ?_
    refine Ja (Je rfl) O O O (Ja (y_gtr O O) O O O ?_)
    refine Jg ?_
    refine Jb ?_
    refine Jz rfl zbl ?_
    refine Ve ?_
    refine Jb ?_
    refine Jh ?_
    refine Jc ?_
    refine Ja (Je rfl) O O O ?_
    refine Jj rfl (l_makeNoZero (m := k) (pt := 3) (rt := 22) hT Tryz.func76 (by kernel_rfl) (by kernel_rfl) (by kernel_rfl) (by kernel_rfl) O O O (by omega) rfl (fun bn cs hcs1 hcs2 => ?_))
    refine Ja (Je rfl) O O O (Ja (Je rfl) O O O ?_)
    refine Ja (Y.cast (u := .slice (some ⟨bn, 0, none⟩) k k) (y_slice3 (lo := 0) (hi := k) (mx := k) (b := bn) (off := 0) hT O O O O (.inl ⟨rfl, rfl⟩) O O O O (Nat.zero_le _) (Nat.le_refl _) hcs1 (.inl rfl)) (by rw [if_neg (by omega)]; rfl)) O O O ?_
    refine Ja (Jd rfl) O O O ?_
    refine Jg ?_
    refine Jb ?_
    refine Jh ?_
    refine Jc ?_
    refine Ja (Je rfl) O O O (Ja (Je rfl) O O O ?_)
    refine Jj rfl (l_copy (sLen := 1) (dLen := k) (off := 0) hT O O O O O O zpk (hin.cons _) rfl (by omega) (ints_one _ _) rfl ?_)
    refine Ja (Jd rfl) O O O ?_
    refine Jg ?_
    refine Jb ?_
    refine Jh ?_
    refine Vh ?_
    refine J.loop (α := Nat × List Value) (fun s => 1 ≤ s.1 ∧ s.1 ≤ k ∧ s.2.length = cs.length ∧ s.2.take s.1 = ints .u8 (List.replicate s.1 b0)) (fun s => [(7, .int .i64 k), (8, .int .i64 k), (9, .slice (some ⟨bn, 0, none⟩) k k), (10, .int .i64 s.1)]) (fun s => row bn 5 s.2 :: l) (fun s => k - s.1) (1, _) ⟨Nat.le_refl _, hk1, ?ha, ?hb⟩ ⟨rfl, rfl, rfl, ?hc, trivial⟩ (fun w s => s.sup zsup) ?_
    case hc => exact congrArg (fun z => some (Value.int .i64 z)) (by omega)
    case ha => simp; omega
    case hb => rw [show min 1 k = 1 by omega]; simp [ints]
    rintro ⟨j, c2⟩ ⟨hj1, hj2, hcl, hct⟩
    dsimp only at hj1 hj2 hcl hct ⊢
    refine Jh ?_
    refine Jh ?_
    refine Jc ?_
    refine Ja (Je rfl) O O O (Ja (Je rfl) O O O (Ja (y_lss O O) O O O ?_))
    refine Jg ?_
    refine Jb ?_
    first | apply Vb rfl | apply Vq rfl
    case' ht =>
      intro h
      try (first | (exfalso; omega) | (cases h; done) | (exfalso; simp at h; done) | subst h)
      all_goals
        refine Ve ?_
    case' hf =>
      intro h
      try (first | (exfalso; omega) | (cases h; done) | (exfalso; simp at h; done) | subst h)
      all_goals
        refine J.exit ?_
        refine Vd ?_
        refine Vd ?_
        refine Vn ?_
        refine Jb ?_
        refine Jh ?_
        refine Jc ?_
        refine Ja (Je rfl) O O O (Ja (Jd rfl) O O O ?_)
        refine Jg ?_
        refine Jb ?_
        refine Vi ?_
        refine Vk (.inl rfl) O O zrv ?_
        obtain rfl : j = k := by omega
        refine ⟨_, fun w s => s, some ⟨bn, 0, none⟩, j, row bn 5 c2, rfl, rfl, ⟨Nat.le_refl _, by unfold maxLen; omega, .inl ⟨bn, 0, rfl, fun m => ?_⟩⟩⟩
        exact RdN.row (n := j) (Vr m Jp) (by simpa using hct)
    all_goals refine Jb ?_
    all_goals
      refine Vh ?_
      refine Jh ?_
      refine Jc ?_
      refine Ja (Je rfl) O O O (Ja (Je rfl) O O O ?_)
      refine Ja (y_min2 (m := (j : Int)) O O (by omega)) O O O ?_
      refine Ja (Jd rfl) O O O ?_
      refine Jg ?_
      refine Jb ?_
      have hlt : j < k := by omega
      obtain ⟨c, hc⟩ : ∃ c, min j (k - j) = c := ⟨_, rfl⟩
      refine Wn _ _ [(0, .q), (1, .q), (2, .q), (3, .q), (4, .q), (5, .q), (6, .q), (7, .l), (8, .q), (9, .q)] mixed (by kernel_rfl) (Jk (Jp) (Jl)) ?_
      refine Jf O O O O (fun m => Je rfl) ?_
      refine Jf O O O O (fun m => Je rfl) ?_
      refine Jf O O O O (fun m => Je rfl) ?_
      refine Jf O O O O (fun m => Y.cast (u := .slice (some ⟨bn, j, none⟩) (k - j) (k - j)) (y_slice (lo := j) (hi := k) hT O O O O (.inr ⟨_, _, _, rfl, rfl, rfl⟩) (.inl ⟨rfl, rfl⟩) (by omega) (Nat.le_refl _) (Nat.le_refl _) (.inl rfl)) (by rw [if_neg (by omega), show 0 + j * i5.size = j by rw [show i5.size = 1 from rfl]; omega])) ?_
      refine Jf O O O O (fun m => Je rfl) ?_
      refine Jf O O O O (fun m => Je rfl) ?_
      refine Jf O O O O (fun m => Y.cast (u := .slice (some ⟨bn, 0, none⟩) j k) (y_slice (lo := 0) (hi := j) hT O O O O (.inl ⟨rfl, rfl⟩) (.inr ⟨_, _, _, rfl, rfl, rfl⟩) (by omega) (by omega) (Nat.le_refl _) (.inl rfl)) (by rw [if_neg (by omega)]; rfl)) ?_
      refine Wf O O (fun fr => l_copy (sLen := j) (dLen := k - j) (off := j) (src := c2.take j) hT O O O O O O zpk ⟨by omega, by unfold maxLen; omega, .inl ⟨bn, 0, rfl, fun mm => RdN.row (n := j) (Vr mm zpk) (by simp)⟩⟩ (by rw [List.length_take]; omega) (by omega) (by rw [hct]; exact ints_one _ _) rfl ⟨[_], (by (repeat (first | exact Jl | exact Vs | refine Jk Jp ?_))), ?_⟩)
      refine Jf O O O O (fun m => Wg (m := ((j + c : Nat) : Int)) O O (by rw [hc, show ((j : Nat) : Int) + ((c : Nat) : Int) = ((j + c : Nat) : Int) by omega]; exact Wj (by omega) (by omega))) ?_
      refine Jf O O O O (fun m => Jd rfl) ?_
      refine Wi ?_
      refine Jy ?_
    all_goals
      refine Wc (s := (j, c2)) (j + c, c2.take j ++ (c2.take j).take (min j (k - j)) ++ c2.drop (j + min j (k - j))) ⟨by dsimp only; omega, by dsimp only; omega, by simp; omega, ?_⟩ ⟨O, O, O, O, trivial⟩ (fun w s => s) (by dsimp only; omega)
      dsimp only
      rw [hc, hct]
      have e : ints .u8 (List.replicate j b0) ++ (ints .u8 (List.replicate j b0)).take c = ints .u8 (List.replicate (j + c) b0) := by
        unfold ints
        rw [← List.map_take, ← List.map_append, List.take_replicate, List.replicate_append_replicate, show min c j = c by omega]
      rw [e]
      exact List.take_left' (by simp [ints])
end
end Go.Proofs.YtimekohdlofmaaaGreat
/- Replies, right or not, for a batch. -/
namespace Go.Proofs.YtimekohdlofmaaaGreat
open Go Go.SL
/-- One reply's byte, its size; the replies. -/
def repB (i : Nat) (fill : Int) : Int := IntKind.u8.wrap ((BitVec.ofInt 8 ((i : Int) % 256) ^^^ BitVec.ofInt 8 fill).toNat : Int)
def Op22.rsize (o : Op22) (hops : Int) : Int := 130 + 16 * hops + (if 2 < o.off then o.size.tmod 3 else 0)
def Op22.rcount (o : Op22) (n : Nat) : Nat := if o.off < 0 then n + 1 else n
def Op22.reps (o : Op22) (n : Nat) (hops : Int) : List (List Int) := (List.range (o.rcount n)).map fun i => List.replicate (o.rsize hops).toNat (repB i o.fill)
theorem tmod3 (x : Int) : -2 ≤ x.tmod 3 ∧ x.tmod 3 ≤ 2 := by
  have h1 := Int.tmod_lt_of_pos x (show (0 : Int) < 3 by decide)
  have h2 := Int.lt_tmod_of_pos x (show (0 : Int) < 3 by decide)
  omega
theorem Op22.rsize_le (o : Op22) {hops : Int} (h0 : 0 ≤ hops) (h3 : hops ≤ 3) : 128 ≤ o.rsize hops ∧ o.rsize hops ≤ 180 := by
  have h := tmod3 o.size
  unfold Op22.rsize
  split <;> omega
section
attribute [local irreducible] J JL JE JM LS Y Fc RV Code.wp wpList Code.wpIn wpListIn
attribute [local irreducible] Yc
variable (E : World)
theorem replies_spec (o : Op22) (n : Nat) (hops : Int) (l : List HProp) (hn : n ≤ 1000) (h0 : 0 ≤ hops) (h3 : hops ≤ 3) :
    Fc prog E 80 [.agg (op22 o).toArray, .int .i64 n, .int .i64 hops].toArray l (fun v l' => ∃ a c vs K, v = .slice a (o.rcount n) c ∧ TxB K vs (o.reps n hops) ∧ l' = own 22 1 (.slice a (o.rcount n) c) (o.rcount n) vs :: K :: l) := by
  refine Wh ?_
  have hs := o.rsize_le h0 h3
  have ht := tmod3 o.size
  obtain ⟨sz, hsz⟩ : ∃ sz, (o.rsize hops).toNat = sz := ⟨_, rfl⟩
  obtain ⟨m, hm⟩ : ∃ m, o.rcount n = m := ⟨_, rfl⟩
  have hm2 : m ≤ 1001 := by rw [← hm]; unfold Op22.rcount; split <;> omega
  have hR : o.reps n hops = (List.range m).map fun i => List.replicate sz (repB i o.fill) := by unfold Op22.reps; rw [hm, hsz]
  rw [hm, hR]
  have hin1 : ∀ (b : Nat) (x : Int) (l : List HProp), InL (row b 5 [.int .u8 x] :: l) (some ⟨b, 0, none⟩) 1 1 (ints .u8 [x]) := fun b x l => ⟨Nat.le_refl _, by decide, .inl ⟨b, 0, rfl, fun mm => RdN.rowAll (Vr mm Jp)⟩⟩
  refine Js (c := ?codeC) Tryz.func80 ?hb Tryz.ntmps80 ?hl ?_
  case hb => exact rfl
  case hl => exact rfl
  refine Jh ?_
  refine Jc ?_
  refine Jj rfl (l_box (cs := op22 o) O O O (fun bo => ?_))
  refine Ja (Jd rfl) O O O ?_
  refine Jg ?_
  refine Jb ?_
  refine Jh ?_
  refine Jc ?_
  refine Ja (Jd rfl) O O O ?_
  refine Jg ?_
  refine Jb ?_
  refine Jh ?_
  refine Jc ?_
  refine Ja (Je rfl) O O O ?_
  refine Ja (y_mul O O zwr) O O O ?_
  refine Ja (Wg O O zwr) O O O ?_
  refine Ja (Jd rfl) O O O ?_
  refine Jg ?_
  refine Jb ?_
  refine J.seqK (α := Unit) (fun _ => True) (fun _ => [(1, .int .i64 n), (3, .pointer (some ⟨bo, 0, none⟩)), (7, .slice none 0 0), (8, .int .i64 sz)]) (fun _ => row bo 24 (op22 o) :: l) ?hj5 (fun hk5 => ?hf5)
  case hf5 =>
    refine Jh ?_
    refine Jc ?_
    refine Ja (Ji hT O O O O O O) O O O ?_
    refine Ja (Jm hT O O O zrd) O O O ?_
    refine Ja (y_gtr O O) O O O ?_
    refine Jg ?_
    refine Jb ?_
    first | apply Vb rfl | apply Vq rfl
    case' ht =>
      intro h
      try (first | (exfalso; omega) | (cases h; done) | (exfalso; simp at h; done) | subst h)
      all_goals
        have hzz : o.rsize hops = 130 + 16 * hops + o.size.tmod 3 := by unfold Op22.rsize; rw [if_pos (by simpa using h)]
        refine Jc ?_
        refine Ja (Je rfl) O O O (Ja (Ji hT O O O O O O) O O O ?_)
        refine Ja (Jm hT O O O zrd) O O O ?_
        refine Ja (y_rem O O zix (by rfl)) O O O ?_
        refine Ja (Wg O O zwr) O O O ?_
        refine Ja (Jd rfl) O O O ?_
        refine Jg ?_
    case' hf =>
      intro h
      try (first | (exfalso; omega) | (cases h; done) | (exfalso; simp at h; done) | subst h)
      all_goals
        have hzz : o.rsize hops = 130 + 16 * hops := by unfold Op22.rsize; rw [if_neg (by simpa using h), Int.add_zero]
        refine Ve ?_
    all_goals refine Jb ?_
    all_goals
      exact J.closeK hk5 () trivial ⟨rfl, rfl, rfl, congrArg (fun z => some (Value.int .i64 z)) (by omega), trivial⟩ (fun w s => s)
  rintro _ _
  refine J.seqK (α := Unit) (fun _ => True) (fun _ => [(1, .int .i64 m), (3, .pointer (some ⟨bo, 0, none⟩)), (7, .slice none 0 0), (8, .int .i64 sz)]) (fun _ => row bo 24 (op22 o) :: l) ?hj7 (fun hk7 => ?hf7)
  case hf7 =>
    refine Jh ?_
    refine Jc ?_
    refine Ja (Ji hT O O O O O O) O O O ?_
    refine Ja (Jm hT O O O zrd) O O O ?_
    refine Ja (y_lss O O) O O O ?_
    refine Jg ?_
    refine Jb ?_
    first | apply Vb rfl | apply Vq rfl
    case' ht =>
      intro h
      try (first | (exfalso; omega) | (cases h; done) | (exfalso; simp at h; done) | subst h)
      all_goals
        have hmm : m = n + 1 := by rw [← hm]; unfold Op22.rcount; rw [if_pos (by simpa using h)]
        refine Jc ?_
        refine Ja (Je rfl) O O O ?_
        refine Ja (Wg O O zwr) O O O ?_
        refine Ja (Jd rfl) O O O ?_
        refine Jg ?_
    case' hf =>
      intro h
      try (first | (exfalso; omega) | (cases h; done) | (exfalso; simp at h; done) | subst h)
      all_goals
        have hmm : m = n := by rw [← hm]; unfold Op22.rcount; rw [if_neg (by simpa using h)]
        refine Ve ?_
    all_goals refine Jb ?_
    all_goals
      exact J.closeK hk7 () trivial ⟨congrArg (fun z => some (Value.int .i64 z)) (by omega), O, O, O, trivial⟩ (fun w s => s)
  rintro _ _
  refine Jh ?_
  refine Jh ?_
  refine Jc ?_
  refine Ja (Je rfl) O O O (Ja (Je rfl) O O O ?_)
  refine Jg ?_
  refine Jb ?_
  refine Vh ?_
  refine J.loop (α := Nat × Option Addr × Nat × List Value × HProp) (fun s => s.1 ≤ m ∧ TxB s.2.2.2.2 s.2.2.2.1 ((List.range s.1).map fun i => List.replicate sz (repB i o.fill))) (fun s => [(3, .pointer (some ⟨bo, 0, none⟩)), (7, .slice s.2.1 s.1 s.2.2.1), (8, .int .i64 sz), (26, .int .i64 m), (27, .int .i64 s.1)]) (fun s => own 22 1 (.slice s.2.1 s.1 s.2.2.1) s.1 s.2.2.2.1 :: s.2.2.2.2 :: row bo 24 (op22 o) :: l) (fun s => m - s.1) (0, none, 0, [], pur True) ⟨Nat.zero_le _, TxB.none _⟩ ⟨O, O, O, O, O, trivial⟩ (fun w s => Sat.own_nil (Sat.topur trivial s)) ?_
  rintro ⟨j, qa, qc, vs, K⟩ ⟨hj, hX⟩
  dsimp only at hj hX ⊢
  refine Jh ?_
  refine Jc ?_
  refine Ja (y_lss O O) O O O ?_
  refine Jg ?_
  refine Jb ?_
  refine Jh ?_
  first | apply Vb rfl | apply Vq rfl
  case' ht =>
    intro h
    try (first | (exfalso; omega) | (cases h; done) | (exfalso; simp at h; done) | subst h)
    all_goals
      refine Ve ?_
  case' hf =>
    intro h
    try (first | (exfalso; omega) | (cases h; done) | (exfalso; simp at h; done) | subst h)
    all_goals
      refine J.exit ?_
      refine Vd ?_
      refine Vd ?_
      refine Vn ?_
      refine Jb ?_
      refine Jh ?_
      refine Jc ?_
      refine Ja (Je rfl) O O O (Ja (Jd rfl) O O O ?_)
      refine Jg ?_
      refine Jb ?_
      refine Vi ?_
      refine Vk (.inl rfl) O O zrv ?_
      obtain rfl : j = m := by omega
      exact ⟨own 22 1 (.slice qa j qc) j vs :: K :: l, fun w s => s.sup zsup, qa, qc, vs, K, rfl, hX, rfl⟩
  all_goals refine Jb ?_
  all_goals
    refine Jh ?_
    refine Vh ?_
    refine Jh ?_
    refine Jc ?_
    refine Ja (Je rfl) O O O (Ja (Jd rfl) O O O ?_)
    refine Jg ?_
    refine Jb ?_
    refine Jc ?_
    refine Ja (Je rfl) O O O (Ja (Je rfl) O O O ?_)
    refine Ja (y_conv (m := (j : Int) % 256) hT O O O O (by simp [IntKind.wrap, IntKind.bits, IntKind.signed])) O O O ?_
    refine Ja (Ji hT O O O O O O) O O O ?_
    refine Ja (Jm hT O O O zrd) O O O ?_
    refine Ja (y_bits (m := repB j o.fill) O O O) O O O ?_
    refine Jj rfl (l_buildSliceP hT O O O O O O O zfl rfl (fun b1 => ?_))
    refine Ja (Je rfl) O O O ?_
    refine Jj rfl (Jv e26 O O (repeat_one E (repB j o.fill) _ _ sz _ (by omega) (by omega) (hin1 _ _ _)) ?_)
    rintro _ _ ⟨ra, rc, KR, rfl, rfl, hri⟩
    refine Jj rfl (l_buildSliceP hT O O O O O O O zfl rfl (fun b3 => ?_))
    refine Jj rfl (l_append hT O O O O O O O O zpk zrdn zln zoc (by rw [show i22.bytes = 24 from rfl]; omega) (by omega) rfl (fun na nc hnc => ?_))
    refine Ja (Jd rfl) O O O ?_
    refine Jg ?_
    refine Jy ?_
    refine Jb ?_
    refine Jc ?_
    refine Ja (Wg O O zwr) O O O ?_
    refine Ja (Je rfl) O O O ?_
    refine Jg ?_
  all_goals
    have hlt : j < m := by omega
    have hri2 : InL [KR] ra (List.replicate sz (repB j o.fill)).length rc (ints .u8 (List.replicate sz (repB j o.fill))) := by rw [List.length_replicate]; exact hri
    have hp := hX.push hri2
    rw [List.length_replicate] at hp
    refine Wc (s := (j, qa, qc, vs, K)) (j + 1, na, nc, vs ++ [.slice ra sz rc], stars [K, KR]) ⟨hlt, by
      dsimp only
      rw [List.range_succ, List.map_append, List.map_cons, List.map_nil]
      exact hp⟩ ⟨O, O, O, O, O, trivial⟩ (fun w s => ?_) (by dsimp only; omega)
    dsimp only
    have s1 := Sat.fold (m := [K, KR]) (s.sup (p := K :: KR :: own 22 1 (.slice na (j + 1) nc) (j + 1) (vs ++ [.slice ra sz rc]) :: row bo 24 (op22 o) :: l) zsup)
    exact s1.sup zsup
end
end Go.Proofs.YtimekohdlofmaaaGreat
/- Replies fanned out, by the entry and by the document. -/
namespace Go.Proofs.YtimekohdlofmaaaGreat
open Go Go.SL
theorem repB_byte (i : Nat) (f : Int) : 0 ≤ repB i f ∧ repB i f ≤ 255 := by
  unfold repB
  have e : ∀ x : Int, IntKind.u8.wrap x = x % 256 := fun x => by simp [IntKind.wrap, IntKind.bits, IntKind.signed]
  rw [e]
  omega
theorem reps_bytes (o : Op22) (n : Nat) (hops : Int) : ∀ b ∈ o.reps n hops, Bytes b := fun b hb => by
  obtain ⟨i, _, rfl⟩ := List.mem_map.1 hb
  exact fun y hy => by rw [List.eq_of_mem_replicate hy]; exact repB_byte i o.fill
theorem reps_length (o : Op22) (n : Nat) (hops : Int) : (o.reps n hops).length = o.rcount n := by simp [Op22.reps]
section
attribute [local irreducible] J JL JE JM LS Y Fc RV Code.wp wpList Code.wpIn wpListIn
attribute [local irreducible] Yc
variable (E : World)
theorem fans_shut (x lg : Nat) (last : BitVec 64) (ph hops : Int) (got : Value) (ga : Option Addr) (n gc : Nat) (o : Op22) (l : List HProp) (hph : ph ≠ 2) (h0 : 0 ≤ hops) (h3 : hops ≤ 3) (hn : n ≤ 1000) :
    Fc prog E 35 [.pointer (some ⟨x, 0, none⟩), .agg (eV last ph hops ga n gc).toArray, .agg (op22 o).toArray].toArray (entR x lg false last ph hops got :: l) (fun v l' => v = .tuple #[.agg (eV last ph hops ga n gc).toArray, .bool true] ∧ l' = entR x lg false last ph hops got :: l) := by
  refine Wo ?_
  obtain ⟨R, hR⟩ : ∃ R, o.reps n hops = R := ⟨_, rfl⟩
  obtain ⟨m, hm⟩ : ∃ m, o.rcount n = m := ⟨_, rfl⟩
  have hRl : R.length = m := by rw [← hR, reps_length, hm]
  have hRb : ∀ b ∈ R, Bytes b := by rw [← hR]; exact reps_bytes o n hops
  have hm2 : m ≤ 1001 := by rw [← hm]; unfold Op22.rcount; split <;> omega
  have hre : ∀ l, Fc prog E 80 [.agg (op22 o).toArray, .int .i64 n, .int .i64 hops].toArray l (fun v l' => ∃ a c vs K, v = .slice a m c ∧ TxB K vs R ∧ l' = own 22 1 (.slice a m c) m vs :: K :: l) := fun l => by
    have z := replies_spec E o n hops l hn h0 h3
    rwa [hm, hR] at z
  refine Js (c := ?codeC) Tryz.func35 ?hb Tryz.ntmps35 ?hl ?_
  case hb => exact rfl
  case hl => exact rfl
  refine Jh ?_
  refine Jc ?_
  refine Jj rfl (l_box (cs := eV last ph hops ga n gc) O O O (fun by_ => ?_))
  refine Jj rfl (l_box (cs := op22 o) O O O (fun bo => ?_))
  refine Jj rfl (Vt hT O O zcl rfl (fun b6 => ?_))
  refine Ja (Jd rfl) O O O ?_
  refine Jg ?_
  refine Jb ?_
  refine Jh ?_
  refine Jc ?_
  refine Ja (Vu hT O O O zrdn zln) O O O ?_
  refine Ja (Ji hT O O O O O O) O O O ?_
  refine Ja (Jm hT O O O zrd) O O O ?_
  refine Ja (Va hT O O O) O O O (Ja (Ji hT O O O O O O) O O O ?_)
  refine Ja (Jm hT O O O zrd) O O O ?_
  refine Jj rfl (Jv e80 O O (hre _) ?_)
  rintro _ _ ⟨ra, rc, rv, K1, rfl, hX1, rfl⟩
  refine Ja (Jd rfl) O O O ?_
  refine Jg ?_
  refine Jb ?_
  refine Jh ?_
  refine Jc ?_
  refine Ja (Vu hT O O O zrdn zln) O O O ?_
  refine Ja (Je rfl) O O O ?_
  refine Jj rfl (Jv e81 O O (rfan_shut E last ph hops ga n gc hph _ _) ?_)
  rintro _ l1 ⟨rfl, e1⟩
  obtain rfl := e1.symm
  refine Ja (Je rfl) O O O (Ja (Jx O O) O O O (Ja (Jx O O) O O O (Ja (Jx O O) O O O ?_)))
  refine Jj rfl (Vt hT O O zcl rfl (fun b9 => ?_))
  refine Jj rfl (Vf hT O O O zln zoc zpk zln ?_)
  refine Ja (Jd rfl) O O O (Ja (Jd rfl) O O O ?_)
  refine Jg ?_
  refine Jb ?_
  refine Jh ?_
  refine Jc ?_
  refine Ja (Je rfl) O O O (Ja (Je rfl) O O O ?_)
  refine Jj rfl (Jv e16 O O (Wm (Jk zpk Jl) (efan_shut E x lg last ph hops got hph _ _)) ?_)
  rintro _ _ ⟨rfl, rfl⟩
  refine Ja (Je rfl) O O O (Ja (Jx O O) O O O (Ja (Jx O O) O O O (Ja (Jd rfl) O O O (Ja (Jd rfl) O O O ?_))))
  refine Jg ?_
  refine Jb ?_
  refine Jh ?_
  refine Jh ?_
  refine Jc ?_
  refine Ja (Je rfl) O O O (Ja (Je rfl) O O O (Ja (Wa O O) O O O (Ja (Je rfl) O O O ?_)))
  all_goals (first | (refine Vj O O O (fun h => ?_) (fun h => ?_) <;> try (first | (exfalso; omega) | exact absurd rfl h)) | (refine Vz O O O (fun h => ?_) (fun h => ?_) <;> try (first | cases h | (exfalso; simp at h; done))) | skip)
  all_goals (first | refine Jt O O O O O O ?_ | refine Jq O O O O O ?_ | refine Ju O O O (Je rfl) O O ?_)
  all_goals (first | refine Jt O O O O O O ?_ | refine Jq O O O O O ?_ | refine Ju O O O (Va hT O O O) O O ?_)
  all_goals (first | refine Jt O O O O O O ?_ | refine Jq O O O O O ?_ | refine Ju O O O (Je rfl) O O ?_)
  all_goals (first | refine Jt O O O O O O ?_ | refine Jq O O O O O ?_ | refine Ju O O O (Va hT O O O) O O ?_)
  all_goals (first | refine Jt O O O O O O ?_ | refine Jq O O O O O ?_ | refine Ju O O O (Wa O O) O O ?_)
  all_goals (refine Ja (Wk O O O) O O O ?_)
  all_goals refine Jg ?_
  all_goals refine Jb ?_
  all_goals
    refine Jz rfl zbl ?_
    refine Ve ?_
  all_goals refine Jb ?_
  all_goals
    refine Jh ?_
    refine Jh ?_
    refine Jc ?_
    refine Ja (Je rfl) O O O (Ja (Va hT O O O) O O O (Ja (Je rfl) O O O ?_))
    refine Jg ?_
    refine Jb ?_
    refine Vh ?_
    refine J.fact (p := OwnAt ra m rc rv) (fun w s => Vx (s.pick zpk)) fun o1 => ?_
    refine J.loop (α := Unit) (fun _ => True) (fun _ => [(4, .pointer (some ⟨by_, 0, none⟩)), (5, .pointer (some ⟨bo, 0, none⟩)), (6, .pointer (some ⟨b6, 0, none⟩)), (8, .slice ra m rc), (9, .pointer (some ⟨b9, 0, none⟩)), (50, .int .i64 0), (51, .int .i64 0)]) (fun _ => row b6 68 [.int .u64 0, .int .i64 0, .int .i64 0, .slice none 0 0] :: row b9 68 (eV last ph hops ga n gc) :: own 22 1 (.slice ra m rc) m rv :: K1 :: row bo 24 (op22 o) :: row by_ 68 (eV last ph hops ga n gc) :: entR x lg false last ph hops got :: l) (fun _ => 0) () trivial ⟨O, O, O, O, O, O, O, trivial⟩ (fun w s => s.sup zsup) ?_
    rintro _ _
    refine Jh ?_
    refine Jc ?_
    refine Ja (y_lss O O) O O O ?_
    refine Jg ?_
    refine Jb ?_
    refine Jh ?_
    refine Jz rfl zbl ?_
    refine J.exit ?_
    refine Vd ?_
    refine Vd ?_
    refine Vn ?_
    refine Jb ?_
    refine Jh ?_
    refine Wn _ _ [(0, .q), (1, .q), (2, .q), (3, .q), (4, .q), (5, .q), (6, .q), (7, .q), (8, .l), (9, .l), (10, .l), (11, .q)] mixed (by kernel_rfl) (Jk (Jp) (Jl)) ?_
    refine Jf O O O O (fun m => Vu hT O O O zrdna zln) ?_
    refine Jf O O O O (fun m => Je rfl) ?_
    refine Jf O O O O (fun m => Vu hT O O O zrdna zln) ?_
    refine Jf O O O O (fun m => Ji hT O O O O O O) ?_
    refine Jf O O O O (fun m => Jm hT O O O zrda) ?_
    refine Jf O O O O (fun m => Va hT O O O) ?_
    refine Jf O O O O (fun m => Ji hT O O O O O O) ?_
    refine Jf O O O O (fun m => Jm hT O O O zrda) ?_
    refine Wf O O (fun fr => Jv e80 O O (hre _) ?_)
    rintro _ _ ⟨ra2, rc2, rv2, K2, rfl, hX2, rfl⟩
    refine ⟨[_, _, _], (by (repeat (first | exact Jl | exact Vs | refine Jk Jp ?_))), ?_⟩
    refine Wf O O (fun fr => LS.fact (p := OwnAt ra2 m rc2 rv2) (fun w s => Vx (s.pick zpk)) fun o2 => Jv e25 O O (same22_spec E ra ra2 m m rc rc2 rv rv2 R R _ hRl hRl (by omega) (o1.inl (e := 22) (size := 1) zpk) (o2.inl (e := 22) (size := 1) zpk) hRb hRb (fun i b hb => let ⟨q, c, h1, h2⟩ := hX1.get i b hb; ⟨q, c, h1, h2.kept zpk⟩) (fun i b hb => let ⟨q, c, h1, h2⟩ := hX2.get i b hb; ⟨q, c, h1, h2.kept zpk⟩)) ?_)
    rintro _ _ ⟨rfl, rfl⟩
    refine ⟨[_, _, _], (by (repeat (first | exact Jl | exact Vs | refine Jk Jp ?_))), ?_⟩
    refine Wf O O (fun fr => Vf hT O O O zln zoc zpk zln (⟨[_, _, _], (by (repeat (first | exact Jl | exact Vs | refine Jk Jp ?_))), ?_⟩))
    refine Jf O O O O (fun m => Jd rfl) ?_
    refine Wi ?_
    refine Jb ?_
    refine Vi ?_
    refine Wb (.inl rfl) O O zrv zrv ?_
    exact ⟨by rw [decide_eq_true rfl], fun w s => s.sup zsup⟩
theorem fans_few (x lg g : Nat) (last : BitVec 64) (hops : Int) (S : List (Int × List Int)) (ga : Option Addr) (n gc : Nat) (o : Op22) (l : List HProp) (hSn : S.length = n) (hne : o.rcount n ≠ n) (h0 : 0 ≤ hops) (h3 : hops ≤ 3) (hn : n ≤ 1000) :
    Fc prog E 35 [.pointer (some ⟨x, 0, none⟩), .agg (eV last 2 hops ga n gc).toArray, .agg (op22 o).toArray].toArray (entR x lg false last 2 hops (.map (some g)) :: gotM g S :: l) (fun v l' => v = .tuple #[.agg (eV last 2 hops ga n gc).toArray, .bool true] ∧ l' = entR x lg false last 2 hops (.map (some g)) :: gotM g S :: l) := by
  refine Wo ?_
  obtain ⟨R, hR⟩ : ∃ R, o.reps n hops = R := ⟨_, rfl⟩
  obtain ⟨m, hm⟩ : ∃ m, o.rcount n = m := ⟨_, rfl⟩
  have hRl : R.length = m := by rw [← hR, reps_length, hm]
  have hRb : ∀ b ∈ R, Bytes b := by rw [← hR]; exact reps_bytes o n hops
  have hm2 : m ≤ 1001 := by rw [← hm]; unfold Op22.rcount; split <;> omega
  have hre : ∀ l, Fc prog E 80 [.agg (op22 o).toArray, .int .i64 n, .int .i64 hops].toArray l (fun v l' => ∃ a c vs K, v = .slice a m c ∧ TxB K vs R ∧ l' = own 22 1 (.slice a m c) m vs :: K :: l) := fun l => by
    have z := replies_spec E o n hops l hn h0 h3
    rwa [hm, hR] at z
  refine Js (c := ?codeC) Tryz.func35 ?hb Tryz.ntmps35 ?hl ?_
  case hb => exact rfl
  case hl => exact rfl
  refine Jh ?_
  refine Jc ?_
  refine Jj rfl (l_box (cs := eV last 2 hops ga n gc) O O O (fun by_ => ?_))
  refine Jj rfl (l_box (cs := op22 o) O O O (fun bo => ?_))
  refine Jj rfl (Vt hT O O zcl rfl (fun b6 => ?_))
  refine Ja (Jd rfl) O O O ?_
  refine Jg ?_
  refine Jb ?_
  refine Jh ?_
  refine Jc ?_
  refine Ja (Vu hT O O O zrdn zln) O O O ?_
  refine Ja (Ji hT O O O O O O) O O O ?_
  refine Ja (Jm hT O O O zrd) O O O ?_
  refine Ja (Va hT O O O) O O O (Ja (Ji hT O O O O O O) O O O ?_)
  refine Ja (Jm hT O O O zrd) O O O ?_
  refine Jj rfl (Jv e80 O O (hre _) ?_)
  rintro _ _ ⟨ra, rc, rv, K1, rfl, hX1, rfl⟩
  refine Ja (Jd rfl) O O O ?_
  refine Jg ?_
  refine Jb ?_
  refine Jh ?_
  refine Jc ?_
  refine Ja (Vu hT O O O zrdn zln) O O O ?_
  refine Ja (Je rfl) O O O ?_
  refine Jj rfl (Jv e81 O O (rfan_few E last hops ga _ n gc m _ (by omega) _) ?_)
  rintro _ l1 ⟨rfl, e1⟩
  obtain rfl := e1.symm
  refine Ja (Je rfl) O O O (Ja (Jx O O) O O O (Ja (Jx O O) O O O (Ja (Jx O O) O O O ?_)))
  refine Jj rfl (Vt hT O O zcl rfl (fun b9 => ?_))
  refine Jj rfl (Vf hT O O O zln zoc zpk zln ?_)
  refine Ja (Jd rfl) O O O (Ja (Jd rfl) O O O ?_)
  refine Jg ?_
  refine Jb ?_
  refine Jh ?_
  refine Jc ?_
  refine Ja (Je rfl) O O O (Ja (Je rfl) O O O ?_)
  refine Jj rfl (Jv e16 O O (Wm (Jk zpk (Jk zpk Jl)) (efan_few E x lg g last hops S _ m _ (by omega) _)) ?_)
  rintro _ _ ⟨rfl, rfl⟩
  refine Ja (Je rfl) O O O (Ja (Jx O O) O O O (Ja (Jx O O) O O O (Ja (Jd rfl) O O O (Ja (Jd rfl) O O O ?_))))
  refine Jg ?_
  refine Jb ?_
  refine Jh ?_
  refine Jh ?_
  refine Jc ?_
  refine Ja (Je rfl) O O O (Ja (Je rfl) O O O (Ja (Wa O O) O O O (Ja (Je rfl) O O O ?_)))
  all_goals (first | (refine Vj O O O (fun h => ?_) (fun h => ?_) <;> try (first | (exfalso; omega) | exact absurd rfl h)) | (refine Vz O O O (fun h => ?_) (fun h => ?_) <;> try (first | cases h | (exfalso; simp at h; done))) | skip)
  all_goals (first | refine Jt O O O O O O ?_ | refine Jq O O O O O ?_ | refine Ju O O O (Je rfl) O O ?_)
  all_goals (first | refine Jt O O O O O O ?_ | refine Jq O O O O O ?_ | refine Ju O O O (Va hT O O O) O O ?_)
  all_goals (first | refine Jt O O O O O O ?_ | refine Jq O O O O O ?_ | refine Ju O O O (Je rfl) O O ?_)
  all_goals (first | refine Jt O O O O O O ?_ | refine Jq O O O O O ?_ | refine Ju O O O (Va hT O O O) O O ?_)
  all_goals (first | refine Jt O O O O O O ?_ | refine Jq O O O O O ?_ | refine Ju O O O (Wa O O) O O ?_)
  all_goals (refine Ja (Wk O O O) O O O ?_)
  all_goals refine Jg ?_
  all_goals refine Jb ?_
  all_goals
    refine Jz rfl zbl ?_
    refine Ve ?_
  all_goals refine Jb ?_
  all_goals
    refine Jh ?_
    refine Jh ?_
    refine Jc ?_
    refine Ja (Je rfl) O O O (Ja (Va hT O O O) O O O (Ja (Je rfl) O O O ?_))
    refine Jg ?_
    refine Jb ?_
    refine Vh ?_
    refine J.fact (p := OwnAt ra m rc rv) (fun w s => Vx (s.pick zpk)) fun o1 => ?_
    refine J.loop (α := Unit) (fun _ => True) (fun _ => [(4, .pointer (some ⟨by_, 0, none⟩)), (5, .pointer (some ⟨bo, 0, none⟩)), (6, .pointer (some ⟨b6, 0, none⟩)), (8, .slice ra m rc), (9, .pointer (some ⟨b9, 0, none⟩)), (50, .int .i64 0), (51, .int .i64 0)]) (fun _ => row b6 68 [.int .u64 0, .int .i64 0, .int .i64 0, .slice none 0 0] :: row b9 68 (eV last 2 hops ga n gc) :: own 22 1 (.slice ra m rc) m rv :: K1 :: row bo 24 (op22 o) :: row by_ 68 (eV last 2 hops ga n gc) :: entR x lg false last 2 hops (.map (some g)) :: gotM g S :: l) (fun _ => 0) () trivial ⟨O, O, O, O, O, O, O, trivial⟩ (fun w s => s.sup zsup) ?_
    rintro _ _
    refine Jh ?_
    refine Jc ?_
    refine Ja (y_lss O O) O O O ?_
    refine Jg ?_
    refine Jb ?_
    refine Jh ?_
    refine Jz rfl zbl ?_
    refine J.exit ?_
    refine Vd ?_
    refine Vd ?_
    refine Vn ?_
    refine Jb ?_
    refine Jh ?_
    refine Wn _ _ [(0, .q), (1, .q), (2, .q), (3, .q), (4, .q), (5, .q), (6, .q), (7, .q), (8, .l), (9, .l), (10, .l), (11, .q)] mixed (by kernel_rfl) (Jk (Jp) (Jl)) ?_
    refine Jf O O O O (fun m => Vu hT O O O zrdna zln) ?_
    refine Jf O O O O (fun m => Je rfl) ?_
    refine Jf O O O O (fun m => Vu hT O O O zrdna zln) ?_
    refine Jf O O O O (fun m => Ji hT O O O O O O) ?_
    refine Jf O O O O (fun m => Jm hT O O O zrda) ?_
    refine Jf O O O O (fun m => Va hT O O O) ?_
    refine Jf O O O O (fun m => Ji hT O O O O O O) ?_
    refine Jf O O O O (fun m => Jm hT O O O zrda) ?_
    refine Wf O O (fun fr => Jv e80 O O (hre _) ?_)
    rintro _ _ ⟨ra2, rc2, rv2, K2, rfl, hX2, rfl⟩
    refine ⟨[_, _, _], (by (repeat (first | exact Jl | exact Vs | refine Jk Jp ?_))), ?_⟩
    refine Wf O O (fun fr => LS.fact (p := OwnAt ra2 m rc2 rv2) (fun w s => Vx (s.pick zpk)) fun o2 => Jv e25 O O (same22_spec E ra ra2 m m rc rc2 rv rv2 R R _ hRl hRl (by omega) (o1.inl (e := 22) (size := 1) zpk) (o2.inl (e := 22) (size := 1) zpk) hRb hRb (fun i b hb => let ⟨q, c, h1, h2⟩ := hX1.get i b hb; ⟨q, c, h1, h2.kept zpk⟩) (fun i b hb => let ⟨q, c, h1, h2⟩ := hX2.get i b hb; ⟨q, c, h1, h2.kept zpk⟩)) ?_)
    rintro _ _ ⟨rfl, rfl⟩
    refine ⟨[_, _, _], (by (repeat (first | exact Jl | exact Vs | refine Jk Jp ?_))), ?_⟩
    refine Wf O O (fun fr => Vf hT O O O zln zoc zpk zln (⟨[_, _, _], (by (repeat (first | exact Jl | exact Vs | refine Jk Jp ?_))), ?_⟩))
    refine Jf O O O O (fun m => Jd rfl) ?_
    refine Wi ?_
    refine Jb ?_
    refine Vi ?_
    refine Wb (.inl rfl) O O zrv zrv ?_
    exact ⟨by rw [decide_eq_true rfl], fun w s => s.sup zsup⟩
theorem fans_size (x lg g : Nat) (last : BitVec 64) (hops : Int) (S : List (Int × List Int)) (ga : Option Addr) (n gc : Nat) (o : Op22) (l : List HProp) (hSn : S.length = n) (hne : o.rcount n = n) (vals : List Value) (K : HProp) (hRG : RGot K last n ga gc vals S) (hPl : Placed S) (h1 : 1 ≤ hops) (hbad : ¬ ∀ b ∈ o.reps n hops, (b.length : Int) = replyN hops) (h0 : 0 ≤ hops) (h3 : hops ≤ 3) (hn : n ≤ 12) :
    Fc prog E 35 [.pointer (some ⟨x, 0, none⟩), .agg (eV last 2 hops ga n gc).toArray, .agg (op22 o).toArray].toArray (entR x lg false last 2 hops (.map (some g)) :: gotM g S :: K :: l) (fun v l' => v = .tuple #[.agg (eV last 2 hops ga n gc).toArray, .bool true] ∧ l' = entR x lg false last 2 hops (.map (some g)) :: gotM g S :: K :: l) := by
  refine Wo ?_
  obtain ⟨R, hR⟩ : ∃ R, o.reps n hops = R := ⟨_, rfl⟩
  obtain ⟨m, hm⟩ : ∃ m, o.rcount n = m := ⟨_, rfl⟩
  obtain rfl : m = n := by omega
  have hbig : ∀ b ∈ R, b.length ≤ 1000000 := fun b hb => by
    rw [← hR] at hb
    obtain ⟨i, _, rfl⟩ := List.mem_map.1 hb
    have := o.rsize_le h0 h3
    rw [List.length_replicate]; omega
  rw [hR] at hbad
  have hRl : R.length = m := by rw [← hR, reps_length, hm]
  have hRb : ∀ b ∈ R, Bytes b := by rw [← hR]; exact reps_bytes o m hops
  have hm2 : m ≤ 1001 := by rw [← hm]; unfold Op22.rcount; split <;> omega
  have hre : ∀ l, Fc prog E 80 [.agg (op22 o).toArray, .int .i64 m, .int .i64 hops].toArray l (fun v l' => ∃ a c vs K, v = .slice a m c ∧ TxB K vs R ∧ l' = own 22 1 (.slice a m c) m vs :: K :: l) := fun l => by
    have z := replies_spec E o m hops l (by omega) h0 h3
    rwa [hm, hR] at z
  refine Js (c := ?codeC) Tryz.func35 ?hb Tryz.ntmps35 ?hl ?_
  case hb => exact rfl
  case hl => exact rfl
  refine Jh ?_
  refine Jc ?_
  refine Jj rfl (l_box (cs := eV last 2 hops ga m gc) O O O (fun by_ => ?_))
  refine Jj rfl (l_box (cs := op22 o) O O O (fun bo => ?_))
  refine Jj rfl (Vt hT O O zcl rfl (fun b6 => ?_))
  refine Ja (Jd rfl) O O O ?_
  refine Jg ?_
  refine Jb ?_
  refine Jh ?_
  refine Jc ?_
  refine Ja (Vu hT O O O zrdn zln) O O O ?_
  refine Ja (Ji hT O O O O O O) O O O ?_
  refine Ja (Jm hT O O O zrd) O O O ?_
  refine Ja (Va hT O O O) O O O (Ja (Ji hT O O O O O O) O O O ?_)
  refine Ja (Jm hT O O O zrd) O O O ?_
  refine Jj rfl (Jv e80 O O (hre _) ?_)
  rintro _ _ ⟨ra, rc, rv, K1, rfl, hX1, rfl⟩
  refine Ja (Jd rfl) O O O ?_
  refine Jg ?_
  refine Jb ?_
  refine Jh ?_
  refine Jc ?_
  refine Ja (Vu hT O O O zrdn zln) O O O ?_
  refine Ja (Je rfl) O O O ?_
  refine Jj rfl (Jv e81 O O (Fc.fact (p := OwnAt ra m rc rv) (fun w s => Vx (s.pick zpk)) fun o0 => Wm (Jk zpk Jl) ((rfan_spec E last hops ga m gc vals K S R ra rc rv _ hRG h1 h3 hRl (by rw [hX1.len, hRl]) (fun i b hb => let ⟨q, c, h, _⟩ := hX1.get i b hb; ⟨q, c, h⟩) (o0.inl (e := 22) (size := 1) zpk) hbig).mono fun v l' q => (q.resolve_left fun z => hbad z.1).2)) ?_)
  rintro _ _ ⟨rfl, rfl⟩
  refine Ja (Je rfl) O O O (Ja (Jx O O) O O O (Ja (Jx O O) O O O (Ja (Jx O O) O O O ?_)))
  refine Jj rfl (Vt hT O O zcl rfl (fun b9 => ?_))
  refine Jj rfl (Vf hT O O O zln zoc zpk zln ?_)
  refine Ja (Jd rfl) O O O (Ja (Jd rfl) O O O ?_)
  refine Jg ?_
  refine Jb ?_
  refine Jh ?_
  refine Jc ?_
  refine Ja (Je rfl) O O O (Ja (Je rfl) O O O ?_)
  refine Jj rfl (Jv e16 O O (Wm (Jk zpk (Jk zpk (Jk zpk (Jk zpk Jl)))) ((efan_spec E x lg g m last hops S R ra rc rv K1 _ hSn hRl hPl hn hbig hRG.keys hX1).mono fun v l' q => (q.resolve_left fun z => hbad z.1).2)) ?_)
  rintro _ _ ⟨rfl, rfl⟩
  refine Ja (Je rfl) O O O (Ja (Jx O O) O O O (Ja (Jx O O) O O O (Ja (Jd rfl) O O O (Ja (Jd rfl) O O O ?_))))
  refine Jg ?_
  refine Jb ?_
  refine Jh ?_
  refine Jh ?_
  refine Jc ?_
  refine Ja (Je rfl) O O O (Ja (Je rfl) O O O (Ja (Wa O O) O O O (Ja (Je rfl) O O O ?_)))
  all_goals (first | (refine Vj O O O (fun h => ?_) (fun h => ?_) <;> try (first | (exfalso; omega) | exact absurd rfl h)) | (refine Vz O O O (fun h => ?_) (fun h => ?_) <;> try (first | cases h | (exfalso; simp at h; done))) | skip)
  all_goals (first | refine Jt O O O O O O ?_ | refine Jq O O O O O ?_ | refine Ju O O O (Je rfl) O O ?_)
  all_goals (first | refine Jt O O O O O O ?_ | refine Jq O O O O O ?_ | refine Ju O O O (Va hT O O O) O O ?_)
  all_goals (first | refine Jt O O O O O O ?_ | refine Jq O O O O O ?_ | refine Ju O O O (Je rfl) O O ?_)
  all_goals (first | refine Jt O O O O O O ?_ | refine Jq O O O O O ?_ | refine Ju O O O (Va hT O O O) O O ?_)
  all_goals (first | refine Jt O O O O O O ?_ | refine Jq O O O O O ?_ | refine Ju O O O (Wa O O) O O ?_)
  all_goals (refine Ja (Wk O O O) O O O ?_)
  all_goals refine Jg ?_
  all_goals refine Jb ?_
  all_goals
    refine Jz rfl zbl ?_
    refine Ve ?_
  all_goals refine Jb ?_
  all_goals
    refine Jh ?_
    refine Jh ?_
    refine Jc ?_
    refine Ja (Je rfl) O O O (Ja (Va hT O O O) O O O (Ja (Je rfl) O O O ?_))
    refine Jg ?_
    refine Jb ?_
    refine Vh ?_
    refine J.fact (p := OwnAt ra m rc rv) (fun w s => Vx (s.pick zpk)) fun o1 => ?_
    refine J.loop (α := Unit) (fun _ => True) (fun _ => [(4, .pointer (some ⟨by_, 0, none⟩)), (5, .pointer (some ⟨bo, 0, none⟩)), (6, .pointer (some ⟨b6, 0, none⟩)), (8, .slice ra m rc), (9, .pointer (some ⟨b9, 0, none⟩)), (50, .int .i64 0), (51, .int .i64 0)]) (fun _ => row b6 68 [.int .u64 0, .int .i64 0, .int .i64 0, .slice none 0 0] :: row b9 68 (eV last 2 hops ga m gc) :: own 22 1 (.slice ra m rc) m rv :: K1 :: row bo 24 (op22 o) :: row by_ 68 (eV last 2 hops ga m gc) :: entR x lg false last 2 hops (.map (some g)) :: gotM g S :: K :: l) (fun _ => 0) () trivial ⟨O, O, O, O, O, O, O, trivial⟩ (fun w s => s.sup zsup) ?_
    rintro _ _
    refine Jh ?_
    refine Jc ?_
    refine Ja (y_lss O O) O O O ?_
    refine Jg ?_
    refine Jb ?_
    refine Jh ?_
    refine Jz rfl zbl ?_
    refine J.exit ?_
    refine Vd ?_
    refine Vd ?_
    refine Vn ?_
    refine Jb ?_
    refine Jh ?_
    refine Wn _ _ [(0, .q), (1, .q), (2, .q), (3, .q), (4, .q), (5, .q), (6, .q), (7, .q), (8, .l), (9, .l), (10, .l), (11, .q)] mixed (by kernel_rfl) (Jk (Jp) (Jl)) ?_
    refine Jf O O O O (fun m => Vu hT O O O zrdna zln) ?_
    refine Jf O O O O (fun m => Je rfl) ?_
    refine Jf O O O O (fun m => Vu hT O O O zrdna zln) ?_
    refine Jf O O O O (fun m => Ji hT O O O O O O) ?_
    refine Jf O O O O (fun m => Jm hT O O O zrda) ?_
    refine Jf O O O O (fun m => Va hT O O O) ?_
    refine Jf O O O O (fun m => Ji hT O O O O O O) ?_
    refine Jf O O O O (fun m => Jm hT O O O zrda) ?_
    refine Wf O O (fun fr => Jv e80 O O (hre _) ?_)
    rintro _ _ ⟨ra2, rc2, rv2, K2, rfl, hX2, rfl⟩
    refine ⟨[_, _, _], (by (repeat (first | exact Jl | exact Vs | refine Jk Jp ?_))), ?_⟩
    refine Wf O O (fun fr => LS.fact (p := OwnAt ra2 m rc2 rv2) (fun w s => Vx (s.pick zpk)) fun o2 => Jv e25 O O (same22_spec E ra ra2 m m rc rc2 rv rv2 R R _ hRl hRl (by omega) (o1.inl (e := 22) (size := 1) zpk) (o2.inl (e := 22) (size := 1) zpk) hRb hRb (fun i b hb => let ⟨q, c, h1, h2⟩ := hX1.get i b hb; ⟨q, c, h1, h2.kept zpk⟩) (fun i b hb => let ⟨q, c, h1, h2⟩ := hX2.get i b hb; ⟨q, c, h1, h2.kept zpk⟩)) ?_)
    rintro _ _ ⟨rfl, rfl⟩
    refine ⟨[_, _, _], (by (repeat (first | exact Jl | exact Vs | refine Jk Jp ?_))), ?_⟩
    refine Wf O O (fun fr => Vf hT O O O zln zoc zpk zln (⟨[_, _, _], (by (repeat (first | exact Jl | exact Vs | refine Jk Jp ?_))), ?_⟩))
    refine Jf O O O O (fun m => Jd rfl) ?_
    refine Wi ?_
    refine Jb ?_
    refine Vi ?_
    refine Wb (.inl rfl) O O zrv zrv ?_
    exact ⟨by rw [decide_eq_true rfl], fun w s => s.sup zsup⟩
end
end Go.Proofs.YtimekohdlofmaaaGreat
/- Replies fanned out, by the entry and by the document: the case in which all are right. -/
namespace Go.Proofs.YtimekohdlofmaaaGreat
open Go Go.SL
theorem RdN.downs {l : List HProp} {g j : Nat} {last : BitVec 64} {ks : List Int} {vs : List Value} {k : Int} {v : Value} (h : RdN l g 0 (downs last ks vs)) (hz : (ks.zip vs)[j]? = some (k, v)) : RdN l g (0 + j * 4) (downE last k v) := by
  rw [downs_eq] at h
  exact h.elem (fun _ _ => rfl) hz
section
attribute [local irreducible] J JL JE JM LS Y Fc RV Code.wp wpList Code.wpIn wpListIn
attribute [local irreducible] Yc
variable (E : World)
theorem fans_ok (x lg g : Nat) (last : BitVec 64) (hops : Int) (S : List (Int × List Int)) (ga : Option Addr) (n gc : Nat) (o : Op22) (l : List HProp) (hSn : S.length = n) (hne : o.rcount n = n) (vals : List Value) (K : HProp) (hRG : RGot K last n ga gc vals S) (hPl : Placed S) (h1 : 1 ≤ hops) (hbad : ∀ b ∈ o.reps n hops, (b.length : Int) = replyN hops) (h0 : 0 ≤ hops) (h3 : hops ≤ 3) (hn : n ≤ 12) :
    Fc prog E 35 [.pointer (some ⟨x, 0, none⟩), .agg (eV last 2 hops ga n gc).toArray, .agg (op22 o).toArray].toArray (entR x lg false last 2 hops (.map (some g)) :: gotM g S :: K :: l) (fun v l' => v = .tuple #[.agg (eV last 0 0 none 0 0).toArray, .bool true] ∧ l' = entR x lg false last 0 0 (.map none) :: K :: l) := by
  refine Wo ?_
  obtain ⟨R, hR⟩ : ∃ R, o.reps n hops = R := ⟨_, rfl⟩
  obtain ⟨m, hm⟩ : ∃ m, o.rcount n = m := ⟨_, rfl⟩
  obtain rfl : m = n := by omega
  have hbig : ∀ b ∈ R, b.length ≤ 1000000 := fun b hb => by
    rw [← hR] at hb
    obtain ⟨i, _, rfl⟩ := List.mem_map.1 hb
    have := o.rsize_le h0 h3
    rw [List.length_replicate]; omega
  rw [hR] at hbad
  have hRl : R.length = m := by rw [← hR, reps_length, hm]
  have hRb : ∀ b ∈ R, Bytes b := by rw [← hR]; exact reps_bytes o m hops
  have hm2 : m ≤ 1001 := by rw [← hm]; unfold Op22.rcount; split <;> omega
  have hre : ∀ l, Fc prog E 80 [.agg (op22 o).toArray, .int .i64 m, .int .i64 hops].toArray l (fun v l' => ∃ a c vs K, v = .slice a m c ∧ TxB K vs R ∧ l' = own 22 1 (.slice a m c) m vs :: K :: l) := fun l => by
    have z := replies_spec E o m hops l (by omega) h0 h3
    rwa [hm, hR] at z
  refine Js (c := ?codeC) Tryz.func35 ?hb Tryz.ntmps35 ?hl ?_
  case hb => exact rfl
  case hl => exact rfl
  refine Jh ?_
  refine Jc ?_
  refine Jj rfl (l_box (cs := eV last 2 hops ga m gc) O O O (fun by_ => ?_))
  refine Jj rfl (l_box (cs := op22 o) O O O (fun bo => ?_))
  refine Jj rfl (Vt hT O O zcl rfl (fun bz6 => ?_))
  refine Ja (Jd rfl) O O O ?_
  refine Jg ?_
  refine Jb ?_
  refine Jh ?_
  refine Jc ?_
  refine Ja (Vu hT O O O zrdn zln) O O O ?_
  refine Ja (Ji hT O O O O O O) O O O ?_
  refine Ja (Jm hT O O O zrd) O O O ?_
  refine Ja (Va hT O O O) O O O (Ja (Ji hT O O O O O O) O O O ?_)
  refine Ja (Jm hT O O O zrd) O O O ?_
  refine Jj rfl (Jv e80 O O (hre _) ?_)
  rintro _ _ ⟨ra, rc, rv, K1, rfl, hX1, rfl⟩
  refine Ja (Jd rfl) O O O ?_
  refine Jg ?_
  refine Jb ?_
  refine Jh ?_
  refine Jc ?_
  refine Ja (Vu hT O O O zrdn zln) O O O ?_
  refine Ja (Je rfl) O O O ?_
  refine Jj rfl (Jv e81 O O (Fc.fact (p := OwnAt ra m rc rv) (fun w s => Vx (s.pick zpk)) fun o0 => Wm (Jk zpk Jl) ((rfan_spec E last hops ga m gc vals K S R ra rc rv _ hRG h1 h3 hRl (by rw [hX1.len, hRl]) (fun i b hb => let ⟨q, c, h, _⟩ := hX1.get i b hb; ⟨q, c, h⟩) (o0.inl (e := 22) (size := 1) zpk) hbig).mono fun v l' q => (q.resolve_right fun z => z.1 hbad).2)) ?_)
  rintro _ _ ⟨ya, yc, rfl, rfl⟩
  refine Ja (Je rfl) O O O (Ja (Jx O O) O O O (Ja (Jx O O) O O O (Ja (Jx O O) O O O ?_)))
  refine Jj rfl (Vt hT O O zcl rfl (fun bz9 => ?_))
  refine Jj rfl (Vf hT O O O zln zoc zpk zln ?_)
  refine Ja (Jd rfl) O O O (Ja (Jd rfl) O O O ?_)
  refine Jg ?_
  refine Jb ?_
  refine Jh ?_
  refine Jc ?_
  refine Ja (Je rfl) O O O (Ja (Je rfl) O O O ?_)
  refine Jj rfl (Jv e16 O O (Wm (Jk zpk (Jk zpk (Jk zpk (Jk zpk Jl)))) ((efan_spec E x lg g m last hops S R ra rc rv K1 _ hSn hRl hPl hn hbig hRG.keys hX1).mono fun v l' q => (q.resolve_right fun z => z.1 hbad).2)) ?_)
  rintro _ _ ⟨xa, xc, vs, rfl, hvs, rfl⟩
  refine Ja (Je rfl) O O O (Ja (Jx O O) O O O (Ja (Jx O O) O O O (Ja (Jd rfl) O O O (Ja (Jd rfl) O O O ?_))))
  refine Jg ?_
  refine Jb ?_
  refine Jh ?_
  refine Jh ?_
  refine Jc ?_
  refine Ja (Je rfl) O O O (Ja (Je rfl) O O O (Ja (Wa O O) O O O (Ja (Je rfl) O O O ?_)))
  all_goals (first | (refine Vj O O O (fun h => ?_) (fun h => ?_) <;> try (first | (exfalso; omega) | exact absurd rfl h)) | (refine Vz O O O (fun h => ?_) (fun h => ?_) <;> try (first | cases h | (exfalso; simp at h; done))) | skip)
  all_goals (first | refine Jt O O O O O O ?_ | refine Jq O O O O O ?_ | refine Ju O O O (Je rfl) O O ?_)
  all_goals (first | refine Jt O O O O O O ?_ | refine Jq O O O O O ?_ | refine Ju O O O (Va hT O O O) O O ?_)
  all_goals (first | refine Jt O O O O O O ?_ | refine Jq O O O O O ?_ | refine Ju O O O (Je rfl) O O ?_)
  all_goals (first | refine Jt O O O O O O ?_ | refine Jq O O O O O ?_ | refine Ju O O O (Va hT O O O) O O ?_)
  all_goals (first | refine Jt O O O O O O ?_ | refine Jq O O O O O ?_ | refine Ju O O O (Wa O O) O O ?_)
  all_goals (refine Ja (Wk O O O) O O O ?_)
  all_goals refine Jg ?_
  all_goals refine Jb ?_
  all_goals
    refine Jz rfl zbl ?_
    refine Ve ?_
  all_goals refine Jb ?_
  all_goals
    refine Jh ?_
    refine Jh ?_
    refine Jc ?_
    refine Ja (Je rfl) O O O (Ja (Va hT O O O) O O O (Ja (Je rfl) O O O ?_))
    refine Jg ?_
    refine Jb ?_
    refine Vh ?_
    refine J.fact (p := OwnAt ra m rc rv) (fun w s => Vx (s.pick zpk)) fun o1 => ?_
    refine J.fact (p := OwnAt xa m xc (downs last (S.map (·.1)) vs)) (fun w s => Vx (s.pick zpk)) fun ox => ?_
    refine J.fact (p := OwnAt ya m yc (downs last (S.map (·.1)) rv)) (fun w s => Vx (s.pick zpk)) fun oy => ?_
    refine J.loop (α := Nat) (fun j => j ≤ m) (fun j => [(4, .pointer (some ⟨by_, 0, none⟩)), (5, .pointer (some ⟨bo, 0, none⟩)), (6, .pointer (some ⟨bz6, 0, none⟩)), (8, .slice ra m rc), (9, .pointer (some ⟨bz9, 0, none⟩)), (10, .slice ya m yc), (49, .slice xa m xc), (50, .int .i64 m), (51, .int .i64 j)]) (fun j => row bz6 68 [.int .u64 0, .int .i64 0, .int .i64 0, .slice none 0 0] :: row bz9 68 (eV last 0 0 none 0 0) :: own 63 4 (.slice xa m xc) m (downs last (S.map (·.1)) vs) :: own 63 4 (.slice ya m yc) m (downs last (S.map (·.1)) rv) :: own 22 1 (.slice ra m rc) m rv :: K1 :: row bo 24 (op22 o) :: row by_ 68 (eV last 2 hops ga m gc) :: entR x lg false last 0 0 (.map none) :: K :: (owns (vs.drop j) (R.drop j) ++ l)) (fun j => m - j) 0 (Nat.zero_le _) ⟨O, O, O, O, O, O, O, O, O, trivial⟩ (fun w s => ?_) ?_
    · have s1 := s.sup (p := row bz6 68 [.int .u64 0, .int .i64 0, .int .i64 0, .slice none 0 0] :: row bz9 68 (eV last 0 0 none 0 0) :: own 63 4 (.slice xa m xc) m (downs last (S.map (·.1)) vs) :: own 63 4 (.slice ya m yc) m (downs last (S.map (·.1)) rv) :: own 22 1 (.slice ra m rc) m rv :: K1 :: row bo 24 (op22 o) :: row by_ 68 (eV last 2 hops ga m gc) :: entR x lg false last 0 0 (.map none) :: K :: (owns vs R ++ l)) zsup
      exact s1
    intro j hj
    refine Jh ?_
    refine Jc ?_
    refine Ja (y_lss O O) O O O ?_
    refine Jg ?_
    refine Jb ?_
    refine Jh ?_
    first | apply Vb rfl | apply Vq rfl
    case' ht =>
      intro h
      try (first | (exfalso; omega) | (cases h; done) | (exfalso; simp at h; done) | subst h)
      all_goals
        have hlt : j < m := by omega
        obtain ⟨⟨k, b0⟩, hx⟩ : ∃ q, S[j]? = some q := ⟨_, List.getElem?_eq_getElem (by omega)⟩
        obtain ⟨b, hrb⟩ : ∃ b, R[j]? = some b := ⟨_, List.getElem?_eq_getElem (by omega)⟩
        obtain ⟨rq, rk, hv, hvi⟩ := hX1.get j b hrb
        obtain ⟨v, hvv⟩ : ∃ v, vs[j]? = some v := ⟨_, List.getElem?_eq_getElem (by omega)⟩
        have hbl := hbig _ (List.mem_of_getElem? hrb)
        rw [owns_drop hvv hrb, List.cons_append]
        refine J.fact (p := ∃ a c, v = .slice a b.length c ∧ OwnAt a b.length c (ints .u8 b)) (fun w s => ?_) fun ⟨va, vc, hve, ov⟩ => ?_
        · obtain ⟨xa, xc, rfl, _⟩ := Sat.row_of_own s (e := 5) (size := 1) (n := b.length) (xs := ints .u8 b) (v := v) zpk
          exact ⟨xa, xc, rfl, Vx (s.pick zpk)⟩
        subst hve
        obtain ⟨gx, rfl⟩ := ox.at_.resolve_right fun ⟨h0, _⟩ => by have := ox.le; omega
        obtain ⟨gy, rfl⟩ := oy.at_.resolve_right fun ⟨h0, _⟩ => by have := oy.le; omega
        have hzx : ((S.map (·.1)).zip vs)[j]? = some (k, .slice va b.length vc) := by
          rw [List.getElem?_zip_eq_some]
          exact ⟨by simp [hx], hvv⟩
        have hzy : ((S.map (·.1)).zip rv)[j]? = some (k, .slice rq b.length rk) := by
          rw [List.getElem?_zip_eq_some]
          exact ⟨by simp [hx], hv⟩
        have hbe : ∀ l, InL l va b.length vc (ints .u8 b) → InL l rq b.length rk (ints .u8 b) → Fc prog E 28 [.slice va b.length vc, .slice rq b.length rk].toArray l (fun v l' => v = .bool true ∧ l' = l) := fun l i1 i2 => (bequal_spec E va rq vc rk b.length b.length b b l O O (hRb b (List.mem_of_getElem? hrb)) (hRb b (List.mem_of_getElem? hrb)) i1 i2).mono fun v l' q => ⟨q.1.trans (by rw [decide_eq_true rfl]), q.2⟩
        refine Ve ?_
    case' hf =>
      intro h
      try (first | (exfalso; omega) | (cases h; done) | (exfalso; simp at h; done) | subst h)
      all_goals
        refine J.exit ?_
        refine Vd ?_
        refine Vd ?_
        refine Vn ?_
        refine Jb ?_
        refine Jh ?_
        refine Wn _ _ [(0, .q), (1, .q), (2, .q), (3, .q), (4, .q), (5, .q), (6, .q), (7, .q), (8, .l), (9, .l), (10, .l), (11, .q)] mixed (by kernel_rfl) (Jk (Jp) (Jl)) ?_
        refine Jf O O O O (fun m => Vu hT O O O zrdna zln) ?_
        refine Jf O O O O (fun m => Je rfl) ?_
        refine Jf O O O O (fun m => Vu hT O O O zrdna zln) ?_
        refine Jf O O O O (fun m => Ji hT O O O O O O) ?_
        refine Jf O O O O (fun m => Jm hT O O O zrda) ?_
        refine Jf O O O O (fun m => Va hT O O O) ?_
        refine Jf O O O O (fun m => Ji hT O O O O O O) ?_
        refine Jf O O O O (fun m => Jm hT O O O zrda) ?_
        refine Wf O O (fun fr => Jv e80 O O (hre _) ?_)
        rintro _ _ ⟨ra2, rc2, rv2, K2, rfl, hX2, rfl⟩
        refine ⟨[_, _, _], (by (repeat (first | exact Jl | exact Vs | refine Jk Jp ?_))), ?_⟩
        refine Wf O O (fun fr => LS.fact (p := OwnAt ra2 m rc2 rv2) (fun w s => Vx (s.pick zpk)) fun o2 => Jv e25 O O (same22_spec E ra ra2 m m rc rc2 rv rv2 R R _ hRl hRl (by omega) (o1.inl (e := 22) (size := 1) zpk) (o2.inl (e := 22) (size := 1) zpk) hRb hRb (fun i b hb => let ⟨q, c, h1, h2⟩ := hX1.get i b hb; ⟨q, c, h1, h2.kept zpk⟩) (fun i b hb => let ⟨q, c, h1, h2⟩ := hX2.get i b hb; ⟨q, c, h1, h2.kept zpk⟩)) ?_)
        rintro _ _ ⟨rfl, rfl⟩
        refine ⟨[_, _, _], (by (repeat (first | exact Jl | exact Vs | refine Jk Jp ?_))), ?_⟩
        refine Wf O O (fun fr => Vf hT O O O zln zoc zpk zln (⟨[_, _, _], (by (repeat (first | exact Jl | exact Vs | refine Jk Jp ?_))), ?_⟩))
        refine Jf O O O O (fun m => Jd rfl) ?_
        refine Wi ?_
        refine Jb ?_
        refine Vi ?_
        refine Wb (.inl rfl) O O zrv zrv ?_
        exact ⟨by rw [decide_eq_true rfl], fun w s => s.sup zsup⟩
    all_goals refine Jb ?_
    all_goals
      refine Jh ?_
      refine Vh ?_
      refine Jh ?_
      refine Jc ?_
      refine Ja (Je rfl) O O O ?_
      refine Ja (Vg hT O O O O O zix zix) O O O ?_
      refine Ja (Vu hT O O O (vs := downE last k (.slice va b.length vc)) (RdN.downs (RdN.own zpk) hzx) rfl) O O O ?_
      refine Jj rfl (Vt hT O O zcl rfl (fun bd => ?_))
      refine Ja (Jd rfl) O O O ?_
      refine Jj rfl (Vf hT O O O zln zoc zpk zln ?_)
      refine Jg ?_
      refine Jb ?_
      refine Jh ?_
      refine Jc ?_
      refine Ja (Je rfl) O O O (Ja (Je rfl) O O O ?_)
      refine Ja (Vg hT O O O O O zix zix) O O O ?_
      refine Ja (Vu hT O O O (vs := downE last k (.slice rq b.length rk)) (RdN.downs (RdN.own zpk) hzy) rfl) O O O ?_
      refine Jj rfl (Vt hT O O zcl rfl (fun bw => ?_))
      refine Jj rfl (Vf hT O O O zln zoc zpk zln ?_)
      refine Jg ?_
      refine Jb ?_
      refine Jh ?_
      refine Jh ?_
      refine Jc ?_
      refine Ja (Ji hT O O O O O O) O O O ?_
      refine Ja (Jm hT O O O zrd) O O O ?_
      refine Ja (Ji hT O O O O O O) O O O ?_
      refine Ja (Jm hT O O O zrd) O O O ?_
      refine Ja (Wa O O) O O O (Ja (Je rfl) O O O ?_)
      all_goals (first | (refine Vj O O O (fun h => ?_) (fun h => ?_) <;> try (first | (exfalso; omega) | exact absurd rfl h)) | (refine Vz O O O (fun h => ?_) (fun h => ?_) <;> try (first | cases h | (exfalso; simp at h; done))) | skip)
      all_goals (first | refine Jt O O O O O O ?_ | refine Jq O O O O O ?_ | refine Ju O O O (Ji hT O O O O O O) O O ?_)
      all_goals (first | refine Jt O O O O O O ?_ | refine Jq O O O O O ?_ | refine Ju O O O (Jm hT O O O zrd) O O ?_)
      all_goals (first | refine Jt O O O O O O ?_ | refine Jq O O O O O ?_ | refine Ju O O O (Ji hT O O O O O O) O O ?_)
      all_goals (first | refine Jt O O O O O O ?_ | refine Jq O O O O O ?_ | refine Ju O O O (Jm hT O O O zrd) O O ?_)
      all_goals (first | refine Jt O O O O O O ?_ | refine Jq O O O O O ?_ | refine Ju O O O (Wa O O) O O ?_)
      all_goals (refine Ja (Wk O O O) O O O ?_)
      all_goals (refine Ja (Je rfl) O O O ?_)
      all_goals (first | (refine Vj O O O (fun h => ?_) (fun h => ?_) <;> try (first | (exfalso; omega) | exact absurd rfl h)) | (refine Vz O O O (fun h => ?_) (fun h => ?_) <;> try (first | cases h | (exfalso; simp at h; done))) | skip)
      all_goals (first | refine Jt O O O O O O ?_ | refine Jq O O O O O ?_ | refine Ju O O O (Ji hT O O O O O O) O O ?_)
      all_goals (first | refine Jt O O O O O O ?_ | refine Jq O O O O O ?_ | refine Ju O O O (Jm hT O O O zrd) O O ?_)
      all_goals (first | refine Jt O O O O O O ?_ | refine Jq O O O O O ?_ | refine Ju O O O (Ji hT O O O O O O) O O ?_)
      all_goals (first | refine Jt O O O O O O ?_ | refine Jq O O O O O ?_ | refine Ju O O O (Jm hT O O O zrd) O O ?_)
      all_goals (first | refine Jt O O O O O O ?_ | refine Jq O O O O O ?_ | refine Ju O O O (Wa O O) O O ?_)
      all_goals (refine Ja (Wk O O O) O O O ?_)
      all_goals (refine Ja (Je rfl) O O O ?_)
      all_goals (first | (refine Vj O O O (fun h => ?_) (fun h => ?_) <;> try (first | (exfalso; omega) | exact absurd rfl h)) | (refine Vz O O O (fun h => ?_) (fun h => ?_) <;> try (first | cases h | (exfalso; simp at h; done))) | skip)
      all_goals (first | refine Jt O O O O O O ?_ | refine Jq O O O O O ?_ | refine Ju O O O (Ji hT O O O O O O) O O ?_)
      all_goals (first | refine Jt O O O O O O ?_ | refine Jq O O O O O ?_ | refine Ju O O O (Jm hT O O O zrd) O O ?_)
      all_goals (first | refine Jt O O O O O O ?_ | refine Jq O O O O O ?_ | refine Ju O O O (Ji hT O O O O O O) O O ?_)
      all_goals (first | refine Jt O O O O O O ?_ | refine Jq O O O O O ?_ | refine Ju O O O (Jm hT O O O zrd) O O ?_)
      all_goals (first | refine Jt O O O O O O ?_ | refine Jq O O O O O ?_ | (refine JL.gloud O O O (Jv e28 O O (hbe _ (ov.inl (e := 5) (size := 1) zpk) (hvi.kept zpk)) ?_); rintro _ _ ⟨rfl, rfl⟩))
      all_goals (first | refine Jt O O O O O O ?_ | refine Jq O O O O O ?_ | refine Ju O O O (y_not rfl) O O ?_)
      all_goals (refine Ja (Wk O O O) O O O ?_)
      all_goals refine Jg ?_
      all_goals refine Jb ?_
      all_goals
        refine Jz rfl zbl ?_
        refine Ve ?_
      all_goals refine Jb ?_
      all_goals
        refine Jh ?_
        refine Jc ?_
        refine Ja (Ji hT O O O O O O) O O O ?_
        refine Ja (Jm hT O O O zrd) O O O ?_
        refine Ja (Va hT O O O) O O O (Ja (Je rfl) O O O ?_)
        refine Jg ?_
        refine Jb ?_
        refine Vh ?_
        refine J.loop (α := Nat × List Value) (fun s => s.1 ≤ b.length ∧ s.2.length = b.length) (fun s => [(4, .pointer (some ⟨by_, 0, none⟩)), (5, .pointer (some ⟨bo, 0, none⟩)), (6, .pointer (some ⟨bz6, 0, none⟩)), (8, .slice ra m rc), (9, .pointer (some ⟨bz9, 0, none⟩)), (10, .slice (some ⟨gy, 0, none⟩) m yc), (15, .pointer (some ⟨bd, 0, none⟩)), (49, .slice (some ⟨gx, 0, none⟩) m xc), (50, .int .i64 m), (51, .int .i64 j), (90, .int .i64 b.length), (91, .int .i64 s.1)]) (fun s => own 5 1 (.slice va b.length vc) b.length s.2 :: row bd 63 (downE last k (.slice va b.length vc)) :: row bz6 68 [.int .u64 0, .int .i64 0, .int .i64 0, .slice none 0 0] :: row bz9 68 (eV last 0 0 none 0 0) :: own 63 4 (.slice (some ⟨gx, 0, none⟩) m xc) m (downs last (S.map (·.1)) vs) :: own 63 4 (.slice (some ⟨gy, 0, none⟩) m yc) m (downs last (S.map (·.1)) rv) :: own 22 1 (.slice ra m rc) m rv :: K1 :: row bo 24 (op22 o) :: row by_ 68 (eV last 2 hops ga m gc) :: entR x lg false last 0 0 (.map none) :: K :: (owns (vs.drop (j + 1)) (R.drop (j + 1)) ++ l)) (fun s => b.length - s.1) (0, ints .u8 b) ⟨Nat.zero_le _, by simp [ints]⟩ ⟨O, O, O, O, O, O, O, O, O, O, O, O, trivial⟩ (fun w h => h.sup zsup) ?_
        rintro ⟨i, ys⟩ ⟨hi, hys⟩
        dsimp only at hi hys ⊢
        refine Jh ?_
        refine Jc ?_
        refine Ja (y_lss O O) O O O ?_
        refine Jg ?_
        refine Jb ?_
        refine Jh ?_
        first | apply Vb rfl | apply Vq rfl
        case' ht =>
          intro h
          try (first | (exfalso; omega) | (cases h; done) | (exfalso; simp at h; done) | subst h)
          all_goals
            refine Ve ?_
        case' hf =>
          intro h
          try (first | (exfalso; omega) | (cases h; done) | (exfalso; simp at h; done) | subst h)
          all_goals
            refine J.exit ?_
            refine Vd ?_
            refine Vd ?_
            refine Vn ?_
            refine Jy ?_
            refine Jb ?_
            refine Jc ?_
            refine Ja (Wg O O zwr) O O O ?_
            refine Ja (Je rfl) O O O ?_
            refine Jg ?_
            exact Wc (s := j) (j + 1) (by omega) ⟨O, O, O, O, O, O, O, O, O, trivial⟩ (fun w q => q.sup zsup) (by omega)
        all_goals refine Jb ?_
        all_goals
          refine Jh ?_
          refine Vh ?_
          refine Jh ?_
          have hlti : i < b.length := by omega
          obtain ⟨gv, rfl⟩ := ov.at_.resolve_right fun ⟨h0, _⟩ => by have := ov.le; omega
          refine Jc ?_
          refine Ja (Je rfl) O O O (Ja (Jd rfl) O O O ?_)
          refine Jg ?_
          refine Jb ?_
          refine Jc ?_
          refine Ja (Ji hT O O O O O O) O O O ?_
          refine Ja (Jm hT O O O zrd) O O O ?_
          refine Ja (Je rfl) O O O ?_
          refine Ja (Vg hT O O O O O zix zix) O O O ?_
          refine Jj rfl (l_storeOwn1 hT O O O O O zpk (show 0 + (i : Int).toNat * i5.size < ys.length by rw [hys, show i5.size = 1 from rfl]; omega) ?_)
          refine Jg ?_
          refine Jy ?_
          refine Jb ?_
          refine Jc ?_
          refine Ja (Wg O O zwr) O O O ?_
          refine Ja (Je rfl) O O O ?_
          refine Jg ?_
        all_goals
          exact Wc (s := (i, ys)) (i + 1, ys.set (0 + (i : Int).toNat * i5.size) (.int .u8 238)) ⟨by dsimp only; omega, by simp [hys]⟩ ⟨O, O, O, O, O, O, O, O, O, O, O, O, trivial⟩ (fun w q => q.sup zsup) (by dsimp only; omega)
end
end Go.Proofs.YtimekohdlofmaaaGreat
