import Derived.Test.YtimekohdlofmaaaGreatJoin1
import Derived.Test.YtimekohdlofmaaaGreatJoin2
import Derived.Test.YtimekohdlofmaaaGreatJoin7
import Derived.Test.YtimekohdlofmaaaGreatJoin9
import Derived.Test.YtimekohdlofmaaaGreatJoin10
/- Chapter 22's law: what it hands to an entry, and how it compares. -/
namespace Go.Proofs.YtimekohdlofmaaaGreat
open Go Go.SL
section
attribute [local irreducible] J JL JE JM LS Y Fc RV Code.wp wpList Code.wpIn wpListIn
attribute [local irreducible] Yc
variable (E : World)
theorem same22_spec (p q : Option Addr) (n m c1 c2 : Nat) (va vb : List Value) (ta tb : List (List Int)) (l : List HProp) (hn : ta.length = n) (hm : tb.length = m) (hb : n ≤ 1000000000) (hA : InL l p n c1 va) (hB : InL l q m c2 vb) (sa : ∀ b ∈ ta, Bytes b) (sb : ∀ b ∈ tb, Bytes b)
    (gA : ∀ (i : Nat) b, ta[i]? = some b → ∃ q c, va[i]? = some (.slice q b.length c) ∧ InL l q b.length c (ints .u8 b)) (gB : ∀ (i : Nat) b, tb[i]? = some b → ∃ q c, vb[i]? = some (.slice q b.length c) ∧ InL l q b.length c (ints .u8 b)) :
    Fc prog E 25 [.slice p n c1, .slice q m c2].toArray l (fun v l' => v = .bool (decide (ta = tb)) ∧ l' = l) := by
  refine Jt (c := ?codeC) Tryz.func25 ?hb Tryz.ntmps25 ?hl ?_
  case hb => exact rfl
  case hl => exact rfl
  refine Jh ?_
  refine Jc ?_
  refine Ja (Jd rfl) O O O ?_
  refine Jg ?_
  refine Jb ?_
  refine Jh ?_
  refine Jh ?_
  refine Jc ?_
  refine Ja (Je rfl) O O O (Ja (Vh hT O O O) O O O (Ja (Je rfl) O O O (Ja (Vh hT O O O) O O O (Ja (Wk O O) O O O ?_))))
  refine Jg ?_
  refine Jb ?_
  first | apply Va rfl | apply Vt rfl
  case' ht =>
    intro h
    try (first | (exfalso; omega) | (cases h; done) | (exfalso; simp at h; done) | subst h)
    all_goals
      refine Jh ?_
      refine Jc ?_
      refine Ja (Jd rfl) O O O ?_
      refine Jg ?_
      refine Jb ?_
      refine Vl ?_
      refine Jz ?_
      refine Vk (.inl rfl) O O zrv ?_
      refine ⟨?_, rfl⟩
      first
        | exact congrArg Value.bool (decide_eq_false (fun e => hab (by rw [e, hb'] at ha; exact (Option.some.inj ha).symm))).symm
        | exact congrArg Value.bool (decide_eq_true (by
            rw [show j = n by omega] at hjt
            rwa [List.take_of_length_le (by omega), List.take_of_length_le (by omega)] at hjt)).symm
        | exact congrArg Value.bool (decide_eq_false (fun e => by rw [e] at hn; omega)).symm
  case' hf =>
    intro h
    try (first | (exfalso; omega) | (cases h; done) | (exfalso; simp at h; done) | subst h)
    all_goals
      refine Ve ?_
  all_goals refine Jb ?_
  all_goals
    refine Jh ?_
    refine Jh ?_
    refine Jc ?_
    refine Ja (Je rfl) O O O (Ja (Vh hT O O O) O O O (Ja (Je rfl) O O O ?_))
    refine Jg ?_
    refine Jb ?_
    refine Vj ?_
    refine J.loop (α := Nat) (fun j => j ≤ n ∧ ta.take j = tb.take j) (fun j => [(0, .slice p n c1), (1, .slice q m c2), (12, .int .i64 n), (13, .int .i64 j)]) (fun _ => l) (fun j => n - j) 0 ⟨Nat.zero_le _, rfl⟩ ⟨O, O, O, O, trivial⟩ (fun w h => h) ?_
    intro j hj
    obtain ⟨hj, hjt⟩ := hj
    have hnm : n = m := by omega
    refine Jh ?_
    refine Jc ?_
    refine Ja (y_lss O O) O O O ?_
    refine Jg ?_
    refine Jb ?_
    refine Jh ?_
    first | apply Va rfl | apply Vt rfl
    case' ht =>
      intro h
      try (first | (exfalso; omega) | (cases h; done) | (exfalso; simp at h; done) | subst h)
      all_goals
        refine Ve ?_
    case' hf =>
      intro h
      try (first | (exfalso; omega) | (cases h; done) | (exfalso; simp at h; done) | subst h)
      all_goals
        refine J.exit ?_
        refine Vc ?_
        refine Vc ?_
        refine Vs ?_
        refine Jb ?_
        refine Jh ?_
        refine Jc ?_
        refine Ja (Jd rfl) O O O ?_
        refine Jg ?_
        refine Jb ?_
        refine Vl ?_
        refine Vk (.inl rfl) O O zrv ?_
        refine ⟨?_, rfl⟩
        first
          | exact congrArg Value.bool (decide_eq_false (fun e => hab (by rw [e, hb'] at ha; exact (Option.some.inj ha).symm))).symm
          | exact congrArg Value.bool (decide_eq_true (by
              rw [show j = n by omega] at hjt
              rwa [List.take_of_length_le (by omega), List.take_of_length_le (by omega)] at hjt)).symm
          | exact congrArg Value.bool (decide_eq_false (fun e => by rw [e] at hn; omega)).symm
    all_goals refine Jb ?_
    all_goals
      refine Jh ?_
      refine Vj ?_
      refine Jh ?_
      have hlt : j < n := by omega
      obtain ⟨g1, o1, rfl, hr1⟩ := hA.addr (by omega)
      obtain ⟨g2, o2, rfl, hr2⟩ := hB.addr (by omega)
      obtain ⟨a, ha⟩ : ∃ a, ta[j]? = some a := ⟨_, List.getElem?_eq_getElem (by omega)⟩
      obtain ⟨b, hb'⟩ : ∃ b, tb[j]? = some b := ⟨_, List.getElem?_eq_getElem (by omega)⟩
      obtain ⟨aq, ac, hva, ia⟩ := gA j a ha
      obtain ⟨bq, bc, hvb, ib⟩ := gB j b hb'
      refine Jc ?_
      refine Ja (Je rfl) O O O (Ja (Jd rfl) O O O ?_)
      refine Jg ?_
      refine Jb ?_
      refine Jh ?_
      refine Wl _ _ [(0, .q), (1, .q), (2, .q), (3, .q), (4, .q), (5, .q), (6, .q), (7, .q), (8, .q), (9, .q)] mixed (by kernel_rfl) (Jl) ?_
      refine Jf O O O O (fun m => Je rfl) ?_
      refine Jf O O O O (fun m => Je rfl) ?_
      refine Jf O O O O (fun m => Vg hT O O O O O zix zix) ?_
      refine Jf O O O O (fun m => Jo hT O O O (Rd1.elem (hr1 m) hva)) ?_
      refine Jf O O O O (fun m => Je rfl) ?_
      refine Jf O O O O (fun m => Je rfl) ?_
      refine Jf O O O O (fun m => Vg hT O O O O O zix zix) ?_
      refine Jf O O O O (fun m => Jo hT O O O (Rd1.elem (hr2 m) hvb)) ?_
      refine Jf O O O O (fun m => y_callF e28 rfl (bequal_spec E aq bq ac bc a.length b.length a b _ O O (sa a (List.mem_of_getElem? ha)) (sb b (List.mem_of_getElem? hb')) (ia.app m) (ib.app m))) ?_
      refine Jf O O O O (fun m => y_not rfl) ?_
      refine Wh ?_
      refine Jb ?_
      first | apply Va rfl | apply Vt rfl
      case' ht =>
        intro h
        try (first | (exfalso; omega) | (cases h; done) | (exfalso; simp at h; done) | subst h)
        all_goals
          have hab : ¬ a = b := by simpa using h
          refine Jh ?_
          refine Jc ?_
          refine Ja (Jd rfl) O O O ?_
          refine Jg ?_
          refine Jb ?_
          refine Vl ?_
          refine Vr ?_
          refine Jz ?_
          refine Jz ?_
          refine Vr ?_
          refine Jz ?_
          refine Vk (.inl rfl) O O zrv ?_
          refine ⟨?_, rfl⟩
          first
            | exact congrArg Value.bool (decide_eq_false (fun e => hab (by rw [e, hb'] at ha; exact (Option.some.inj ha).symm))).symm
            | exact congrArg Value.bool (decide_eq_true (by
                rw [show j = n by omega] at hjt
                rwa [List.take_of_length_le (by omega), List.take_of_length_le (by omega)] at hjt)).symm
            | exact congrArg Value.bool (decide_eq_false (fun e => by rw [e] at hn; omega)).symm
      case' hf =>
        intro h
        try (first | (exfalso; omega) | (cases h; done) | (exfalso; simp at h; done) | subst h)
        all_goals
          have hab : a = b := by simpa using h
          refine Ve ?_
      all_goals refine Jv ?_
      all_goals refine Jb ?_
      all_goals
        refine Jc ?_
        refine Ja (Wc O O zwr) O O O ?_
        refine Ja (Je rfl) O O O ?_
        refine Jg ?_
    all_goals
      exact Vy (s := j) (j + 1) ⟨by omega, by rw [List.take_add_one, List.take_add_one, ha, hb', hjt, hab]⟩ ⟨O, O, O, O, trivial⟩ (fun w q => q) (by omega)
/-- What kind of a row it is: the rest by 8, and what that stands for. -/
def Op22.k (o : Op22) : Nat := (BitVec.ofInt 64 o.kind).toNat % 8
/-- The bytes that are collected. -/
def Op22.b (o : Op22) (last : BitVec 64) : List Int :=
  if o.raw.length = 0 then [2, o.client % 256, o.slot % 256] ++ leB 8 (last + BitVec.ofInt 64 o.off) ++ List.replicate (min (max o.size 0) 400).toNat o.fill else o.raw.take 400
theorem Op22.Ok.bytes {o : Op22} {l : List HProp} (h : o.Ok l) (last : BitVec 64) : Bytes (o.b last) := by
  unfold Op22.b
  split
  · intro y hy
    rcases List.mem_append.1 hy with hy | hy
    · rcases List.mem_append.1 hy with hy | hy
      · simp at hy
        rcases hy with rfl | rfl | rfl <;> omega
      · exact Bytes.leB 8 _ y hy
    · rw [List.eq_of_mem_replicate hy]; exact h.fill
  · exact fun y hy => h.raw y (List.mem_of_mem_take hy)
end
end Go.Proofs.YtimekohdlofmaaaGreat
/- One byte repeated. -/
namespace Go.Proofs.YtimekohdlofmaaaGreat
open Go Go.SL
theorem and_mask {k : Nat} (h : k < 4294967296) : bitsE .and .u64 (k : Int) 4294967295 = some (k : Int) := by
  have z := and_nat (z := BitVec.ofNat 64 k) (k := 4294967295) (by decide)
  have e : (BitVec.ofNat 64 k).toNat = k := by rw [BitVec.toNat_ofNat]; omega
  rw [e, show (4294967295 : Nat) = 2 ^ 32 - 1 from rfl, Nat.and_two_pow_sub_one_eq_mod, Nat.mod_eq_of_lt (by omega)] at z
  exact z
theorem shr_small {k : Nat} (h : k < 4294967296) : (k : Int).fdiv (2 ^ (min ((32 : Int)).toNat IntKind.u64.bits)) = 0 := by
  have z := shr_nat (i := (k : Int)) (x := k) (k := 32) rfl (by decide)
  rw [Nat.div_eq_of_lt (by omega)] at z
  exact z
section
attribute [local irreducible] J JL JE JM LS Y Fc RV Code.wp wpList Code.wpIn wpListIn
attribute [local irreducible] Yc
variable (E : World)
theorem mul64_one (k : Nat) (hk : k < 4294967296) (l : List HProp) : Fc prog E 116 [.int .u64 1, .int .u64 k].toArray l (fun v l' => v = .tuple #[.int .u64 0, .int .u64 k] ∧ l' = l) := by
  refine Jt (c := ?codeC) Tryz.func116 ?hb Tryz.ntmps116 ?hl ?_
  case hb => exact rfl
  case hl => exact rfl
  refine Jh ?_
  refine Jc ?_
  refine Ja (Jd rfl) O O O (Ja (Jd rfl) O O O ?_)
  refine Jg ?_
  refine Jb ?_
  refine Jh ?_
  refine Jc ?_
  refine Ja (Je rfl) O O O ?_
  refine Ja (y_bits (m := 1) O O O) O O O ?_
  refine Ja (Jd rfl) O O O ?_
  refine Jg ?_
  refine Jb ?_
  refine Jh ?_
  refine Jc ?_
  refine Ja (Je rfl) O O O ?_
  refine Ja (y_shr (m := 0) O O (by decide) rfl) O O O ?_
  refine Ja (Jd rfl) O O O ?_
  refine Jg ?_
  refine Jb ?_
  refine Jh ?_
  refine Jc ?_
  refine Ja (Je rfl) O O O ?_
  refine Ja (y_bits (m := (k : Int)) O O (and_mask hk)) O O O ?_
  refine Ja (Jd rfl) O O O ?_
  refine Jg ?_
  refine Jb ?_
  refine Jh ?_
  refine Jc ?_
  refine Ja (Je rfl) O O O ?_
  refine Ja (y_shr (m := 0) O O (by decide) (shr_small hk)) O O O ?_
  refine Ja (Jd rfl) O O O ?_
  refine Jg ?_
  refine Jb ?_
  refine Jh ?_
  refine Jc ?_
  refine Ja (Je rfl) O O O (Ja (Je rfl) O O O ?_)
  refine Ja (y_mul (m := (k : Int)) O O (by rw [Int.one_mul]; exact wrap_u64n (by omega))) O O O ?_
  refine Ja (Jd rfl) O O O ?_
  refine Jg ?_
  refine Jb ?_
  refine Jh ?_
  refine Jc ?_
  refine Ja (Je rfl) O O O (Ja (Je rfl) O O O ?_)
  refine Ja (y_mul (m := 0) O O (by rw [Int.zero_mul]; rfl)) O O O ?_
  refine Ja (Je rfl) O O O ?_
  refine Ja (y_shr (m := 0) O O (by decide) (shr_small hk)) O O O ?_
  refine Ja (Wc (m := 0) O O O) O O O ?_
  refine Ja (Jd rfl) O O O ?_
  refine Jg ?_
  refine Jb ?_
  refine Jh ?_
  refine Jc ?_
  refine Ja (Je rfl) O O O ?_
  refine Ja (y_bits (m := 0) O O O) O O O ?_
  refine Ja (Jd rfl) O O O ?_
  refine Jg ?_
  refine Jb ?_
  refine Jh ?_
  refine Jc ?_
  refine Ja (Je rfl) O O O ?_
  refine Ja (y_shr (m := 0) O O (by decide) rfl) O O O ?_
  refine Ja (Jd rfl) O O O ?_
  refine Jg ?_
  refine Jb ?_
  refine Jh ?_
  refine Jc ?_
  refine Ja (Je rfl) O O O (Ja (Je rfl) O O O (Ja (Je rfl) O O O ?_))
  refine Ja (y_mul (m := 0) O O O) O O O ?_
  refine Ja (Wc (m := 0) O O O) O O O ?_
  refine Ja (Jd rfl) O O O ?_
  refine Jg ?_
  refine Jb ?_
  refine Jh ?_
  refine Jc ?_
  refine Ja (Je rfl) O O O (Ja (Je rfl) O O O ?_)
  refine Ja (y_mul (m := 0) O O O) O O O ?_
  refine Ja (Je rfl) O O O ?_
  refine Ja (Wc (m := 0) O O O) O O O ?_
  refine Ja (Je rfl) O O O ?_
  refine Ja (y_shr (m := 0) O O (by decide) rfl) O O O ?_
  refine Ja (Wc (m := 0) O O O) O O O ?_
  refine Ja (Jd rfl) O O O ?_
  refine Jg ?_
  refine Jb ?_
  refine Jh ?_
  refine Jc ?_
  refine Ja (Je rfl) O O O (Ja (Je rfl) O O O ?_)
  refine Ja (y_mul (m := (k : Int)) O O (by rw [Int.one_mul]; exact wrap_u64n (by omega))) O O O ?_
  refine Ja (Jd rfl) O O O ?_
  refine Jg ?_
  refine Jb ?_
  refine Vl ?_
  refine Wg (.inl rfl) O O zrv zrv ?_
  exact ⟨rfl, rfl⟩
theorem mul_one22 (k : Nat) (hk : k < 4294967296) (l : List HProp) : Fc prog E 75 [.int .u64 1, .int .u64 k].toArray l (fun v l' => v = .tuple #[.int .u64 0, .int .u64 k] ∧ l' = l) := by
  refine Jt (c := ?codeC) Tryz.func75 ?hb Tryz.ntmps75 ?hl ?_
  case hb => exact rfl
  case hl => exact rfl
  refine Jh ?_
  refine Jc ?_
  refine Ja (Jd rfl) O O O (Ja (Jd rfl) O O O ?_)
  refine Jg ?_
  refine Jb ?_
  refine Jh ?_
  refine Vf rfl zbl ?_
  refine Ve ?_
  refine Jb ?_
  refine Jh ?_
  refine Jc ?_
  refine Ja (Je rfl) O O O (Ja (Je rfl) O O O ?_)
  refine Jj rfl (Js e116 O O (mul64_one E k hk _) ?_)
  rintro _ _ ⟨rfl, rfl⟩
  refine Ja (Je rfl) O O O (Ja (Jy O O) O O O (Ja (Jy O O) O O O (Ja (Jd rfl) O O O (Ja (Jd rfl) O O O ?_))))
  refine Jg ?_
  refine Jb ?_
  refine Jh ?_
  refine Jc ?_
  refine Ja (Je rfl) O O O (Ja (Je rfl) O O O (Ja (Jd rfl) O O O (Ja (Jd rfl) O O O ?_)))
  refine Jg ?_
  refine Jb ?_
  refine Vl ?_
  refine Wg (.inl rfl) O O zrv zrv ?_
  exact ⟨rfl, rfl⟩
theorem repeat_one (b0 : Int) (p : Option Addr) (cap k : Nat) (l : List HProp) (hk1 : 1 ≤ k) (hk2 : k ≤ 8192) (hin : InL l p 1 cap (ints .u8 [b0])) :
    Fc prog E 26 [.slice p 1 cap, .int .i64 k].toArray l (fun v l' => ∃ a c K, v = .slice a k c ∧ l' = K :: l ∧ InL [K] a k c (ints .u8 (List.replicate k b0))) := by
  refine Wi ?_
  have hd0 : decide ((k : Int) = 0) = false := decide_eq_false (by omega)
  have hd1 : decide ((k : Int) < 0) = false := decide_eq_false (by omega)
  have hd2 : decide ((9223372036854775807 : Int) < (k : Int)) = false := decide_eq_false (by omega)
  have hd3 : decide ((8192 : Int) < (k : Int)) = false := decide_eq_false (by omega)
  refine Jt (c := ?codeC) Tryz.func26 ?hb Tryz.ntmps26 ?hl ?_
  case hb => exact rfl
  case hl => exact rfl
  refine Jh ?_
  refine Jc ?_
  refine Ja (Jd rfl) O O O ?_
  refine Jg ?_
  refine Jb ?_
  refine Jh ?_
  refine Jh ?_
  refine Jc ?_
  refine Ja (Je rfl) O O O (Ja (y_eql O O) O O O ?_)
  refine Jg ?_
  refine Jb ?_
  refine Vf rfl zbl ?_
  refine Ve ?_
  refine Jb ?_
  refine Jh ?_
  refine Jh ?_
  refine Jc ?_
  refine Ja (Je rfl) O O O (Ja (y_lss O O) O O O ?_)
  refine Jg ?_
  refine Jb ?_
  refine Vf rfl zbl ?_
  refine Ve ?_
  refine Jb ?_
  refine Jh ?_
  refine Jc ?_
  refine Ja (Je rfl) O O O (Ja (Vh hT O O O) O O O ?_)
  refine Ja (y_conv (m := 1) hT O O O O O) O O O ?_
  refine Ja (Je rfl) O O O ?_
  refine Ja (y_conv (m := (k : Int)) hT O O O O (wrap_u64n (by omega))) O O O ?_
  refine Jj rfl (Js e75 O O (mul_one22 E k (by omega) _) ?_)
  rintro _ l1 ⟨rfl, e1⟩
  obtain rfl := e1.symm
  refine Ja (Je rfl) O O O (Ja (Jy O O) O O O (Ja (Jy O O) O O O (Ja (Jd rfl) O O O (Ja (Jd rfl) O O O ?_))))
  refine Jg ?_
  refine Jb ?_
  refine Jh ?_
  refine Jh ?_
  refine Jc ?_
  refine Ja (Je rfl) O O O ?_
  refine Ja (y_gtrB (b := false) O O O) O O O ?_
  refine Ja (Je rfl) O O O ?_
  all_goals (first | (refine Vm O O O (fun h => ?_) (fun h => ?_) <;> try (first | (exfalso; omega) | exact absurd rfl h)) | (refine Vz O O O (fun h => ?_) (fun h => ?_) <;> try (first | cases h | (exfalso; simp at h; done))) | skip)
  all_goals (first | refine Ju O O O O O O ?_ | refine Jr O O O O O ?_ | refine Jw O O O (Je rfl) O O ?_)
  all_goals (first | refine Ju O O O O O O ?_ | refine Jr O O O O O ?_ | refine Jw O O O (y_gtrB (b := false) O O hd2) O O ?_)
  all_goals (refine Ja (y_pick O O O) O O O ?_)
  all_goals refine Jg ?_
  all_goals refine Jb ?_
  all_goals
    refine Vf rfl zbl ?_
    refine Ve ?_
  all_goals refine Jb ?_
  all_goals
    refine Jh ?_
    refine Jc ?_
    refine Ja (Je rfl) O O O ?_
    refine Ja (y_conv (m := (k : Int)) hT O O O O (We (by omega) (by omega))) O O O ?_
    refine Ja (Jd rfl) O O O ?_
    refine Jg ?_
    refine Jb ?_
    refine Jh ?_
    refine Jh ?_
    refine Jc ?_
    refine Ja (Je rfl) O O O (Ja (Vh hT O O O) O O O (Ja (y_eql O O) O O O ?_))
    refine Jg ?_
    refine Jb ?_
    refine Vf rfl zbl ?_
    refine Ve ?_
    refine Jb ?_
    refine Jh ?_
    refine Jc ?_
    refine Ja (Je rfl) O O O (Ja (Jd rfl) O O O ?_)
    refine Jg ?_
    refine Jb ?_
    refine Jh ?_
    refine Jh ?_
    refine Jc ?_
    refine Ja (Je rfl) O O O (Ja (y_gtr O O) O O O ?_)
    refine Jg ?_
    refine Jb ?_
    refine Vf rfl zbl ?_
    refine Ve ?_
    refine Jb ?_
    refine Jh ?_
    refine Jc ?_
    refine Ja (Je rfl) O O O ?_
    refine Jj rfl (l_makeNoZero (m := k) (pt := 3) (rt := 22) hT Tryz.func76 (by kernel_rfl) (by kernel_rfl) (by kernel_rfl) (by kernel_rfl) O O O (by omega) rfl (fun bn cs hcs1 hcs2 => ?_))
    refine Ja (Je rfl) O O O (Ja (Je rfl) O O O ?_)
    refine Ja (Y.cast (u := .slice (some ⟨bn, 0, none⟩) k k) (y_slice3 (lo := 0) (hi := k) (mx := k) (b := bn) (off := 0) hT O O O O (.inl ⟨rfl, rfl⟩) O O O O (Nat.zero_le _) (Nat.le_refl _) hcs1 (.inl rfl)) (by rw [if_neg (by omega)]; rfl)) O O O ?_
    refine Ja (Jd rfl) O O O ?_
    refine Jg ?_
    refine Jb ?_
    refine Jh ?_
    refine Jc ?_
    refine Ja (Je rfl) O O O (Ja (Je rfl) O O O ?_)
    refine Jj rfl (l_copy (sLen := 1) (dLen := k) (off := 0) hT O O O O O O zpk (hin.cons _) rfl (by omega) (ints_one _ _) rfl ?_)
    refine Ja (Jd rfl) O O O ?_
    refine Jg ?_
    refine Jb ?_
    refine Jh ?_
    refine Vj ?_
    refine J.loop (α := Nat × List Value) (fun s => 1 ≤ s.1 ∧ s.1 ≤ k ∧ s.2.length = cs.length ∧ s.2.take s.1 = ints .u8 (List.replicate s.1 b0)) (fun s => [(7, .int .i64 k), (8, .int .i64 k), (9, .slice (some ⟨bn, 0, none⟩) k k), (10, .int .i64 s.1)]) (fun s => row bn 5 s.2 :: l) (fun s => k - s.1) (1, _) ⟨Nat.le_refl _, hk1, ?ha, ?hb⟩ ⟨rfl, rfl, rfl, ?hc, trivial⟩ (fun w s => s.sup zsup) ?_
    case hc => exact congrArg (fun z => some (Value.int .i64 z)) (by omega)
    case ha => simp; omega
    case hb => rw [show min 1 k = 1 by omega]; simp [ints]
    rintro ⟨j, c2⟩ ⟨hj1, hj2, hcl, hct⟩
    dsimp only at hj1 hj2 hcl hct ⊢
    refine Jh ?_
    refine Jh ?_
    refine Jc ?_
    refine Ja (Je rfl) O O O (Ja (Je rfl) O O O (Ja (y_lss O O) O O O ?_))
    refine Jg ?_
    refine Jb ?_
    first | apply Va rfl | apply Vt rfl
    case' ht =>
      intro h
      try (first | (exfalso; omega) | (cases h; done) | (exfalso; simp at h; done) | subst h)
      all_goals
        refine Ve ?_
    case' hf =>
      intro h
      try (first | (exfalso; omega) | (cases h; done) | (exfalso; simp at h; done) | subst h)
      all_goals
        refine J.exit ?_
        refine Vc ?_
        refine Vc ?_
        refine Vs ?_
        refine Jb ?_
        refine Jh ?_
        refine Jc ?_
        refine Ja (Je rfl) O O O (Ja (Jd rfl) O O O ?_)
        refine Jg ?_
        refine Jb ?_
        refine Vl ?_
        refine Vk (.inl rfl) O O zrv ?_
        obtain rfl : j = k := by omega
        refine ⟨_, fun w s => s, some ⟨bn, 0, none⟩, j, row bn 5 c2, rfl, rfl, ⟨Nat.le_refl _, by unfold maxLen; omega, .inl ⟨bn, 0, rfl, fun m => ?_⟩⟩⟩
        exact RdN.row (n := j) (Vn m Jp) (by simpa using hct)
    all_goals refine Jb ?_
    all_goals
      refine Vj ?_
      refine Jh ?_
      refine Jc ?_
      refine Ja (Je rfl) O O O (Ja (Je rfl) O O O ?_)
      refine Ja (y_min2 (m := (j : Int)) O O (by omega)) O O O ?_
      refine Ja (Jd rfl) O O O ?_
      refine Jg ?_
      refine Jb ?_
      have hlt : j < k := by omega
      obtain ⟨c, hc⟩ : ∃ c, min j (k - j) = c := ⟨_, rfl⟩
      refine Wl _ _ [(0, .q), (1, .q), (2, .q), (3, .q), (4, .q), (5, .q), (6, .q), (7, .l), (8, .q), (9, .q)] mixed (by kernel_rfl) (Ji (Jp) (Jl)) ?_
      refine Jf O O O O (fun m => Je rfl) ?_
      refine Jf O O O O (fun m => Je rfl) ?_
      refine Jf O O O O (fun m => Je rfl) ?_
      refine Jf O O O O (fun m => Y.cast (u := .slice (some ⟨bn, j, none⟩) (k - j) (k - j)) (y_slice (lo := j) (hi := k) hT O O O O (.inr ⟨_, _, _, rfl, rfl, rfl⟩) (.inl ⟨rfl, rfl⟩) (by omega) (Nat.le_refl _) (Nat.le_refl _) (.inl rfl)) (by rw [if_neg (by omega), show 0 + j * i5.size = j by rw [show i5.size = 1 from rfl]; omega])) ?_
      refine Jf O O O O (fun m => Je rfl) ?_
      refine Jf O O O O (fun m => Je rfl) ?_
      refine Jf O O O O (fun m => Y.cast (u := .slice (some ⟨bn, 0, none⟩) j k) (y_slice (lo := 0) (hi := j) hT O O O O (.inl ⟨rfl, rfl⟩) (.inr ⟨_, _, _, rfl, rfl, rfl⟩) (by omega) (by omega) (Nat.le_refl _) (.inl rfl)) (by rw [if_neg (by omega)]; rfl)) ?_
      refine Wf O O (fun fr => l_copy (sLen := j) (dLen := k - j) (off := j) (src := c2.take j) hT O O O O O O zpk ⟨by omega, by unfold maxLen; omega, .inl ⟨bn, 0, rfl, fun mm => RdN.row (n := j) (Vn mm zpk) (by simp)⟩⟩ (by rw [List.length_take]; omega) (by omega) (by rw [hct]; exact ints_one _ _) rfl ⟨[_], (by (repeat (first | exact Jl | exact Vu | refine Ji Jp ?_))), ?_⟩)
      refine Jf O O O O (fun m => Wc (m := ((j + c : Nat) : Int)) O O (by rw [hc, show ((j : Nat) : Int) + ((c : Nat) : Int) = ((j + c : Nat) : Int) by omega]; exact We (by omega) (by omega))) ?_
      refine Jf O O O O (fun m => Jd rfl) ?_
      refine Wh ?_
      refine Jv ?_
    all_goals
      refine Vy (s := (j, c2)) (j + c, c2.take j ++ (c2.take j).take (min j (k - j)) ++ c2.drop (j + min j (k - j))) ⟨by dsimp only; omega, by dsimp only; omega, by simp; omega, ?_⟩ ⟨O, O, O, O, trivial⟩ (fun w s => s) (by dsimp only; omega)
      dsimp only
      rw [hc, hct]
      have e : ints .u8 (List.replicate j b0) ++ (ints .u8 (List.replicate j b0)).take c = ints .u8 (List.replicate (j + c) b0) := by
        unfold ints
        rw [← List.map_take, ← List.map_append, List.take_replicate, List.replicate_append_replicate, show min c j = c by omega]
      rw [e]
      exact List.take_left' (by simp [ints])
end
end Go.Proofs.YtimekohdlofmaaaGreat
/- Replies, right or not, for a batch. -/
namespace Go.Proofs.YtimekohdlofmaaaGreat
open Go Go.SL
section
attribute [local irreducible] J JL JE JM LS Y Fc RV Code.wp wpList Code.wpIn wpListIn
attribute [local irreducible] Yc
variable (E : World)
end
end Go.Proofs.YtimekohdlofmaaaGreat
/- Replies fanned out, by the entry and by the document. -/
namespace Go.Proofs.YtimekohdlofmaaaGreat
open Go Go.SL
section
attribute [local irreducible] J JL JE JM LS Y Fc RV Code.wp wpList Code.wpIn wpListIn
attribute [local irreducible] Yc
variable (E : World)
end
end Go.Proofs.YtimekohdlofmaaaGreat
/- Replies fanned out, by the entry and by the document: the case in which all are right. -/
namespace Go.Proofs.YtimekohdlofmaaaGreat
open Go Go.SL
theorem RdN.downs {l : List HProp} {g j : Nat} {last : BitVec 64} {ks : List Int} {vs : List Value} {k : Int} {v : Value} (h : RdN l g 0 (downs last ks vs)) (hz : (ks.zip vs)[j]? = some (k, v)) : RdN l g (0 + j * 4) (downE last k v) := by
  rw [downs_eq] at h
  exact h.elem (fun _ _ => rfl) hz
section
attribute [local irreducible] J JL JE JM LS Y Fc RV Code.wp wpList Code.wpIn wpListIn
attribute [local irreducible] Yc
variable (E : World)
end
end Go.Proofs.YtimekohdlofmaaaGreat
