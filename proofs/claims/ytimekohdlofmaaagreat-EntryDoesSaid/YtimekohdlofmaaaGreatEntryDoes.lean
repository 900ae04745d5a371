
/-
  hollowtreelaw22.EntryDoes returns true for every input, and leaves its input as it was. No condition.
-/
import Derived.Test.YtimekohdlofmaaaGreatJoin1
import Derived.Test.YtimekohdlofmaaaGreatJoin3
import Derived.Test.YtimekohdlofmaaaGreatJoin11
namespace Go.Proofs.YtimekohdlofmaaaGreat
open Go Go.SL
section
theorem op22_one (o : Op22) : ∀ v ∈ op22 o, v.oneCell' = true := by
  intro v hv
  simp only [op22, List.mem_cons, List.not_mem_nil, or_false] at hv
  rcases hv with rfl | rfl | rfl | rfl | rfl | rfl | rfl | rfl <;> rfl
/-- What the document's entry keeps. -/
structure RS where
  ga : Option Addr
  gc : Nat
  vals : List Value
  K : HProp
structure DoS (M i : Nat) (es : ES) (r : RS) : Prop where
  e : es.Ok M i
  r : RGot r.K es.last es.G.length r.ga r.gc r.vals es.G
theorem key_zero : (ints .u8 (List.replicate 32 0)).length = 32 := by simp [ints]
theorem keysL_get {m j : Nat} (h : j < m) : (keysL m)[j]? = some (keyB j) := by
  unfold keysL
  rw [List.getElem?_map, List.getElem?_range h]
  rfl
attribute [local irreducible] J JL JE JM LS Y Fc RV Code.wp wpList Code.wpIn wpListIn
attribute [local irreducible] Yc
variable (E : World)
set_option maxHeartbeats 2000000 in
theorem entry_does (nn : Int) (p : Option Addr) (cap : Nat) (xs : List Op22) (K0 : HProp) (hin : InL [K0] p xs.length cap (xs.flatMap op22)) (hx : ∀ o ∈ xs, o.Ok [K0]) :
    Fc prog E 5 [.int .i64 nn, .slice p xs.length cap].toArray [K0] (fun v l' => v = .bool true ∧ l' = [K0]) := by
  refine Wo ?_
  obtain ⟨q8, hq8⟩ : ∃ q, (BitVec.ofInt 64 nn).toNat % 8 = q := ⟨_, rfl⟩
  have hq8l : q8 < 8 := by omega
  obtain ⟨M, hM⟩ : ∃ M, 64 + q8 = M := ⟨_, rfl⟩
  have hM64 : 64 ≤ M := by omega
  have hM512 : M ≤ 512 := by omega
  have hone : ∀ x ∈ xs, (op22 x).length = 8 := fun x _ => rfl
  obtain ⟨m0, hm0⟩ : ∃ m, min xs.length 80 = m := ⟨_, rfl⟩
  have cfew : ∀ l, Fc prog E 29 [.slice p xs.length cap].toArray l (fun v l' => v = .slice p m0 cap ∧ l' = l) := fun l => by rw [← hm0]; exact few22_spec E p xs.length cap _ l _ hin
  refine Js (c := ?codeC) Tryz.func5 ?hb Tryz.ntmps5 ?hl ?_
  case hb => exact rfl
  case hl => exact rfl
  refine Jh ?_
  refine Jc ?_
  refine Ja (Jd rfl) O O O ?_
  refine Jg ?_
  refine Jb ?_
  refine Jh ?_
  refine Jh ?_
  refine Jc ?_
  refine Jj rfl (Jv e11 O O (wakes22_spec E _) ?_)
  rintro _ l1 ⟨rfl, e1⟩
  obtain rfl := e1.symm
  refine Ja (y_not rfl) O O O ?_
  refine Jg ?_
  refine Jb ?_
  refine Jz rfl zbl ?_
  refine Ve ?_
  refine Jb ?_
  refine Jh ?_
  refine Jc ?_
  refine Ja (Je rfl) O O O ?_
  refine Ja (y_convToQ hT O O O O) O O O ?_
  refine Ja (y_rem (m := (q8 : Int)) O O (by decide) (by rw [Int.tmod_eq_emod_of_nonneg (by omega)]; omega)) O O O ?_
  refine Ja (y_conv (m := (q8 : Int)) hT O O O O (Wj (by omega) (by omega))) O O O ?_
  refine Ja (Wg (m := (M : Int)) O O (by rw [show (64 : Int) + (q8 : Int) = (M : Int) by omega]; exact Wj (by omega) (by omega))) O O O ?_
  refine Jj rfl (Jv e22 O O (new_good E M _ (by omega) (by omega)) ?_)
  rintro _ _ ⟨d, rfl, rfl⟩
  refine Ja (Je rfl) O O O (Ja (Jx O O) O O O (Ja (Jx O O) O O O (Ja (Jd rfl) O O O (Ja (Jd rfl) O O O ?_))))
  refine Jg ?_
  refine Jb ?_
  refine Jh ?_
  refine Jh ?_
  refine Jc ?_
  refine Ja (Je rfl) O O O (Ja (Wa O O) O O O ?_)
  refine Jg ?_
  refine Jb ?_
  refine Jz rfl zbl ?_
  refine Ve ?_
  refine Jb ?_
  refine Jh ?_
  refine Jc ?_
  refine Ja (Je rfl) O O O ?_
  refine Jj rfl (Jv e12 O O (es_new E hM64 hM512 d _) ?_)
  rintro _ _ ⟨es0, hes0, hz1, hz2, hz3, hz4, rfl, rfl⟩
  refine Ja (Je rfl) O O O (Ja (Jx O O) O O O (Ja (Jx O O) O O O (Ja (Jd rfl) O O O (Ja (Jd rfl) O O O ?_))))
  refine Jg ?_
  refine Jb ?_
  refine Jh ?_
  refine Jh ?_
  refine Jc ?_
  refine Ja (Je rfl) O O O (Ja (Wa O O) O O O (Ja (Je rfl) O O O ?_))
  all_goals (first | (refine Vj O O O (fun h => ?_) (fun h => ?_) <;> try (first | (exfalso; omega) | exact absurd rfl h)) | (refine Vz O O O (fun h => ?_) (fun h => ?_) <;> try (first | cases h | (exfalso; simp at h; done))) | skip)
  all_goals (first | refine Jt O O O O O O ?_ | refine Jq O O O O O ?_ | refine Ju O O O (Je rfl) O O ?_)
  all_goals (first | refine Jt O O O O O O ?_ | refine Jq O O O O O ?_ | refine Ju O O O (Vw hT O O O O) O O ?_)
  all_goals (refine Ja (Wk O O O) O O O ?_)
  all_goals refine Jg ?_
  all_goals refine Jb ?_
  all_goals
    refine Jz rfl zbl ?_
    refine Ve ?_
  all_goals refine Jb ?_
  all_goals
    refine Jh ?_
    refine Jc ?_
    refine Ja (y_build (cs := [_, _, _, _]) hT O O O O O O trivial rfl) O O O ?_
    refine Jj rfl (Vt hT O O zcl rfl (fun b8 => ?_))
    refine Jj rfl (Vf hT O O O zln zoc zpk zln ?_)
    refine Jg ?_
    refine Jb ?_
    refine Jh ?_
    refine Jh ?_
    refine Jc ?_
    refine Ja (Je rfl) O O O ?_
    refine Jj rfl (Jv e29 O O (cfew _) ?_)
    rintro _ _ ⟨rfl, rfl⟩
    refine Ja (Va hT O O O) O O O (Ja (Je rfl) O O O ?_)
    refine Jg ?_
    refine Jb ?_
    refine Vh ?_
    refine J.loop (α := Nat × ES × RS) (fun s => s.1 ≤ m0 ∧ DoS M s.1 s.2.1 s.2.2) (fun s => [(5, .pointer (some ⟨d, 0, none⟩)), (7, .pointer (some ⟨s.2.1.x, 0, none⟩)), (8, .pointer (some ⟨b8, 0, none⟩)), (52, .slice p m0 cap), (53, .int .i64 m0), (54, .int .i64 s.1)]) (fun s => s.2.1.H d :: s.2.2.K :: row b8 68 (eV s.2.1.last s.2.1.ph s.2.1.hops s.2.2.ga s.2.1.G.length s.2.2.gc) :: [K0]) (fun s => m0 - s.1) (0, es0, ⟨none, 0, [], pur True⟩) ⟨Nat.zero_le _, hes0, by rw [hz4]; exact RGot.none⟩ ⟨O, O, O, O, O, O, trivial⟩ (fun w h => ?_) ?_
    · dsimp only
      rw [hz1, hz2, hz3, hz4]
      exact (Sat.topur trivial h).sup zsup
    rintro ⟨i, es, r⟩ ⟨hi, hI⟩
    dsimp only at hi hI ⊢
    have hes := hI.e
    have hr := hI.r
    refine Jh ?_
    refine Jc ?_
    refine Ja (y_lss O O) O O O ?_
    refine Jg ?_
    refine Jb ?_
    refine Jh ?_
    focus
      first | apply Vb rfl | apply Vq rfl
      focus
        intro h
        try (first | (exfalso; omega) | (cases h; done) | (exfalso; simp at h; done) | subst h)
        all_goals
          refine Ve ?_
      rotate_right 1
      focus
        intro h
        try (first | (exfalso; omega) | (cases h; done) | (exfalso; simp at h; done) | subst h)
        all_goals
          refine J.exit ?_
          refine Vd ?_
          refine Vd ?_
          refine Vn ?_
          refine Jb ?_
          refine Jh ?_
          refine Jc ?_
          refine Ja (Jd rfl) O O O ?_
          refine Jg ?_
          refine Jb ?_
          refine Vi ?_
          refine Vk (.inl rfl) O O zrv ?_
          exact ⟨rfl, fun w q => q.sup zsup⟩
    all_goals refine Jb ?_
    all_goals
      refine Jh ?_
      refine Vh ?_
      refine Jh ?_
      have hlt : i < m0 := by omega
      have hi100 : i ≤ 100 := by omega
      obtain ⟨go, oo, rfl, hro⟩ := hin.addr (by omega)
      have hro0 : RdN [K0] go oo (xs.flatMap op22) := hro []
      obtain ⟨o, ho⟩ : ∃ o, xs[i]? = some o := ⟨_, List.getElem?_eq_getElem (by omega)⟩
      have hok := hx o (List.mem_of_getElem? ho)
      have hel : (op22 o).length = 8 := rfl
      have heo := op22_one o
      obtain ⟨mk, hmk⟩ : ∃ mk : Nat, (mk : Int) = min (max o.hops 0) 5 := ⟨(min (max o.hops 0) 5).toNat, by omega⟩
      refine Jc ?_
      refine Ja (Vg hT O O O O O zix zix) O O O ?_
      refine Ja (Vu hT O O O (RdN.elem (by (repeat (first | assumption | apply RdN.cons | apply RdN.app))) hone ho) hel) O O O ?_
      refine Jj rfl (Vt hT O O zcl rfl (fun bo => ?_))
      refine Jj rfl (Vf hT O O O zln zoc zpk zln ?_)
      refine Jg ?_
      refine Jb ?_
      refine Jh ?_
      refine Jc ?_
      refine Ja (Jd rfl) O O O ?_
      refine Jg ?_
      refine Jb ?_
      refine J.seqK (α := ES × RS) (fun s => DoS M (i + 1) s.1 s.2) (fun s => [(5, .pointer (some ⟨d, 0, none⟩)), (7, .pointer (some ⟨s.1.x, 0, none⟩)), (8, .pointer (some ⟨b8, 0, none⟩)), (52, .slice (some ⟨go, oo, none⟩) m0 cap), (53, .int .i64 m0), (54, .int .i64 i)]) (fun s => s.1.H d :: s.2.K :: row b8 68 (eV s.1.last s.1.ph s.1.hops s.2.ga s.1.G.length s.2.gc) :: [K0]) ?hj61 (fun hk61 => ?hf61)
      case hf61 =>
        refine Jh ?_
        refine Jc ?_
        refine Ja (Vu hT O O O zrdn zln) O O O ?_
        refine Jj rfl (Jv e30 O O (kind22_spec E o _) ?_)
        rintro _ _ ⟨rfl, rfl⟩
        refine Jg ?_
        refine Jb ?_
        refine Vh ?_
        refine Jh ?_
        refine Jc ?_
        refine Ja (y_eql O O) O O O (Ja (Jd rfl) O O O ?_)
        refine Jg ?_
        refine Jb ?_
        focus
          first | apply Vb rfl | apply Vq rfl
          focus
            intro h
            try (first | (exfalso; omega) | (cases h; done) | (exfalso; simp at h; done) | subst h)
            all_goals
              have hA0 : True := trivial
              obtain ⟨es', e, r1, n1, hok', hx', hcase, cann, rann⟩ := es_announce E es hes hi100 hM64 mk
              obtain ⟨ga', gc', vals', hr', crann⟩ := rann r.ga r.gc r.vals r.K hr
              have hcase2 : (e = 0 ∧ (r1.toNat : Int) = (es'.last.toNat : Int) ∧ n1 = mk) ∨ (e ≠ 0 ∧ (r1.toNat : Int) = 0 ∧ n1 = 0) := by
                rcases hcase with ⟨h1, h2, h3⟩ | ⟨h1, h2, h3⟩
                · exact .inl ⟨h1, by rw [h2], h3⟩
                · exact .inr ⟨h1, by rw [h2]; rfl, h3⟩
              have hn1 : n1 ≤ mk := by omega
              refine Jh ?_
              refine Jc ?_
              refine Ja (Ji hT O O O O O O) O O O ?_
              refine Ja (Jm hT O O O zrd) O O O ?_
              refine Jj rfl (Jv e14 O O (keys22_spec E o.hops _ mk hmk) ?_)
              rintro _ _ ⟨ka, kc, rfl, rfl⟩
              refine Ja (Jd rfl) O O O ?_
              refine Jg ?_
              refine Jb ?_
              refine Jh ?_
              refine Jc ?_
              refine Ja (Je rfl) O O O (Ja (Je rfl) O O O ?_)
              refine Jj rfl (Jv e13 O O (Fc.fact (p := OwnAt ka mk kc ((keysL mk).flatMap (ints .u8))) (fun w s => Vx (s.pick zpk)) fun ok => Wm (Jk (A := es.H d) zpk Jl) (cann d ka kc _ (ok.inl (e := 73) (size := 32) zpk))) ?_)
              rintro _ _ ⟨za, zc, g, rfl, rfl⟩
              refine Ja (Je rfl) O O O (Ja (Jx O O) O O O (Ja (Jx O O) O O O ?_))
              refine Jj rfl (Vt hT O O zcl rfl (fun ba => ?_))
              refine Jj rfl (Vf hT O O O zln zoc zpk zln ?_)
              refine Ja (Jd rfl) O O O ?_
              refine Jg ?_
              refine Jb ?_
              refine Jh ?_
              refine Jc ?_
              refine Ja (Vu hT O O O zrdn zln) O O O ?_
              refine Ja (Je rfl) O O O (Ja (Va hT O O O) O O O ?_)
              refine Jj rfl (Jv e31 O O (crann _) ?_)
              rintro _ _ ⟨rfl, rfl⟩
              refine Ja (Je rfl) O O O (Ja (Jx O O) O O O (Ja (Jx O O) O O O ?_))
              refine Jj rfl (Vf hT O O O zln zoc zpk zln ?_)
              refine Ja (Jd rfl) O O O ?_
              refine Jg ?_
              refine Jb ?_
              refine Jh ?_
              refine Jh ?_
              refine Jc ?_
              refine Ja (Je rfl) O O O (Ja (Je rfl) O O O (Ja (Wa O O) O O O (Ja (Je rfl) O O O ?_)))
              all_goals (first | (refine Vj O O O (fun h => ?_) (fun h => ?_) <;> try (first | (exfalso; omega) | exact absurd rfl h)) | (refine Vz O O O (fun h => ?_) (fun h => ?_) <;> try (first | cases h | (exfalso; simp at h; done))) | skip)
              all_goals (first | refine Jt O O O O O O ?_ | refine Jq O O O O O ?_ | refine Ju O O O (Je rfl) O O ?_)
              all_goals (first | refine Jt O O O O O O ?_ | refine Jq O O O O O ?_ | refine Ju O O O (y_eql O O) O O ?_)
              all_goals (first | refine Jt O O O O O O ?_ | refine Jq O O O O O ?_ | refine Ju O O O (Je rfl) O O ?_)
              all_goals (first | (refine Vj O O O (fun h => ?_) (fun h => ?_) <;> try (first | (exfalso; omega) | exact absurd rfl h)) | (refine Vz O O O (fun h => ?_) (fun h => ?_) <;> try (first | cases h | (exfalso; simp at h; done))) | skip)
              all_goals (first | refine Jt O O O O O O ?_ | refine Jq O O O O O ?_ | refine Ju O O O (Ji hT O O O O O O) O O ?_)
              all_goals (first | refine Jt O O O O O O ?_ | refine Jq O O O O O ?_ | refine Ju O O O (Jm hT O O O zrd) O O ?_)
              all_goals (first | refine Jt O O O O O O ?_ | refine Jq O O O O O ?_ | refine Ju O O O (Ji hT O O O O O O) O O ?_)
              all_goals (first | refine Jt O O O O O O ?_ | refine Jq O O O O O ?_ | refine Ju O O O (Jm hT O O O zrd) O O ?_)
              all_goals (first | refine Jt O O O O O O ?_ | refine Jq O O O O O ?_ | refine Ju O O O (Wa O O) O O ?_)
              all_goals (first | refine Jt O O O O O O ?_ | refine Jq O O O O O ?_ | refine Ju O O O (Je rfl) O O ?_)
              all_goals (first | (refine Vj O O O (fun h => ?_) (fun h => ?_) <;> try (first | (exfalso; omega) | exact absurd rfl h)) | (refine Vz O O O (fun h => ?_) (fun h => ?_) <;> try (first | cases h | (exfalso; simp at h; done))) | skip)
              all_goals (first | refine Jt O O O O O O ?_ | refine Jq O O O O O ?_ | refine Ju O O O (Ji hT O O O O O O) O O ?_)
              all_goals (first | refine Jt O O O O O O ?_ | refine Jq O O O O O ?_ | refine Ju O O O (Jm hT O O O zrd) O O ?_)
              all_goals (first | refine Jt O O O O O O ?_ | refine Jq O O O O O ?_ | refine Ju O O O (Va hT O O O) O O ?_)
              all_goals (first | refine Jt O O O O O O ?_ | refine Jq O O O O O ?_ | refine Ju O O O (Je rfl) O O ?_)
              all_goals (first | refine Jt O O O O O O ?_ | refine Jq O O O O O ?_ | refine Ju O O O (Va hT O O O) O O ?_)
              all_goals (first | refine Jt O O O O O O ?_ | refine Jq O O O O O ?_ | refine Ju O O O (Wa O O) O O ?_)
              all_goals (first | refine Jt O O O O O O ?_ | refine Jq O O O O O ?_ | refine Ju O O O (Wk O O O) O O ?_)
              all_goals (first | refine Jt O O O O O O ?_ | refine Jq O O O O O ?_ | refine Ju O O O (Wk O O O) O O ?_)
              all_goals (refine Ja (Wk O O O) O O O ?_)
              all_goals (refine Ja (Je rfl) O O O ?_)
              all_goals (first | (refine Vj O O O (fun h => ?_) (fun h => ?_) <;> try (first | (exfalso; omega) | exact absurd rfl h)) | (refine Vz O O O (fun h => ?_) (fun h => ?_) <;> try (first | cases h | (exfalso; simp at h; done))) | skip)
              all_goals (first | refine Jt O O O O O O ?_ | refine Jq O O O O O ?_ | refine Ju O O O (Je rfl) O O ?_)
              all_goals (first | refine Jt O O O O O O ?_ | refine Jq O O O O O ?_ | refine Ju O O O (Wa O O) O O ?_)
              all_goals (first | refine Jt O O O O O O ?_ | refine Jq O O O O O ?_ | refine Ju O O O (Je rfl) O O ?_)
              all_goals (first | (refine Vj O O O (fun h => ?_) (fun h => ?_) <;> try (first | (exfalso; omega) | exact absurd rfl h)) | (refine Vz O O O (fun h => ?_) (fun h => ?_) <;> try (first | cases h | (exfalso; simp at h; done))) | skip)
              all_goals (first | refine Jt O O O O O O ?_ | refine Jq O O O O O ?_ | refine Ju O O O (Ji hT O O O O O O) O O ?_)
              all_goals (first | refine Jt O O O O O O ?_ | refine Jq O O O O O ?_ | refine Ju O O O (Jm hT O O O zrd) O O ?_)
              all_goals (first | refine Jt O O O O O O ?_ | refine Jq O O O O O ?_ | refine Ju O O O (Wa O O) O O ?_)
              all_goals (first | refine Jt O O O O O O ?_ | refine Jq O O O O O ?_ | refine Ju O O O (Je rfl) O O ?_)
              all_goals (first | (refine Vj O O O (fun h => ?_) (fun h => ?_) <;> try (first | (exfalso; omega) | exact absurd rfl h)) | (refine Vz O O O (fun h => ?_) (fun h => ?_) <;> try (first | cases h | (exfalso; simp at h; done))) | skip)
              all_goals (first | refine Jt O O O O O O ?_ | refine Jq O O O O O ?_ | refine Ju O O O (Ji hT O O O O O O) O O ?_)
              all_goals (first | refine Jt O O O O O O ?_ | refine Jq O O O O O ?_ | refine Ju O O O (Jm hT O O O zrd) O O ?_)
              all_goals (first | refine Jt O O O O O O ?_ | refine Jq O O O O O ?_ | refine Ju O O O (Va hT O O O) O O ?_)
              all_goals (first | refine Jt O O O O O O ?_ | refine Jq O O O O O ?_ | refine Ju O O O (Wa O O) O O ?_)
              all_goals (first | refine Jt O O O O O O ?_ | refine Jq O O O O O ?_ | refine Ju O O O (Wk O O O) O O ?_)
              all_goals (first | refine Jt O O O O O O ?_ | refine Jq O O O O O ?_ | refine Ju O O O (Wk O O O) O O ?_)
              all_goals (refine Ja (Wk O O O) O O O ?_)
              all_goals refine Jg ?_
              all_goals refine Jb ?_
              all_goals
                refine Jz rfl zbl ?_
                refine Ve ?_
              all_goals refine Jb ?_
              all_goals
                refine Jh ?_
                refine Jc ?_
                refine Ja (Ji hT O O O O O O) O O O ?_
                refine Ja (Jm hT O O O zrd) O O O ?_
                refine Ja (Va hT O O O) O O O (Ja (Je rfl) O O O ?_)
                refine Jg ?_
                refine Jb ?_
                refine Vh ?_
                refine J.fact (p := OwnAt za n1 zc ((keysL n1).flatMap (ints .u8))) (fun w s => Vx (s.pick zpk)) fun oz => ?_
                refine J.fact (p := OwnAt ka mk kc ((keysL mk).flatMap (ints .u8))) (fun w s => Vx (s.pick zpk)) fun ok => ?_
                refine J.loop (α := Nat × List (List Int) × List (List Int)) (fun s => s.1 ≤ n1 ∧ s.2.1.length = n1 ∧ s.2.2.length = mk ∧ (∀ x ∈ s.2.1, (ints .u8 x).length = 32) ∧ (∀ x ∈ s.2.2, (ints .u8 x).length = 32) ∧ ∀ z, s.1 ≤ z → z < n1 → s.2.1[z]? = some (keyB z) ∧ s.2.2[z]? = some (keyB z)) (fun s => [(5, .pointer (some ⟨d, 0, none⟩)), (7, .pointer (some ⟨es.x, 0, none⟩)), (8, .pointer (some ⟨b8, 0, none⟩)), (12, .slice ka mk kc), (13, .pointer (some ⟨ba, 0, none⟩)), (52, .slice (some ⟨go, oo, none⟩) m0 cap), (53, .int .i64 m0), (54, .int .i64 i), (131, .int .i64 n1), (132, .int .i64 s.1)]) (fun s => own 73 32 (.slice za n1 zc) n1 (s.2.1.flatMap (ints .u8)) :: own 73 32 (.slice ka mk kc) mk (s.2.2.flatMap (ints .u8)) :: row ba 33 [Q r1, .slice za n1 zc] :: ({ es' with g := g } : ES).H d :: r.K :: row b8 68 (eV es'.last es'.ph es'.hops ga' es'.G.length gc') :: [K0]) (fun s => n1 - s.1) (0, keysL n1, keysL mk) ⟨Nat.zero_le _, keysL_length _, keysL_length _, keyB_mem, keyB_mem, fun z _ hz => ⟨keysL_get hz, keysL_get (by omega)⟩⟩ ⟨O, O, O, O, O, O, O, O, O, O, trivial⟩ (fun w h => h.sup zsup) ?_
                rintro ⟨j, A, B⟩ ⟨hj, hAl, hBl, hA32, hB32, hAB⟩
                dsimp only at hj hAl hBl hA32 hB32 hAB ⊢
                refine Jh ?_
                refine Jc ?_
                refine Ja (y_lss O O) O O O ?_
                refine Jg ?_
                refine Jb ?_
                refine Jh ?_
                focus
                  first | apply Vb rfl | apply Vq rfl
                  focus
                    intro h
                    try (first | (exfalso; omega) | (cases h; done) | (exfalso; simp at h; done) | subst h)
                    all_goals
                      refine Ve ?_
                  rotate_right 1
                  focus
                    intro h
                    try (first | (exfalso; omega) | (cases h; done) | (exfalso; simp at h; done) | subst h)
                    all_goals
                      refine J.exit ?_
                      refine Vd ?_
                      refine Vd ?_
                      refine Vn ?_
                      refine Jy ?_
                      refine Jb ?_
                      first
                        | (have zz := hA0
                           exact J.closeK hk61 ({ es' with g := g }, ⟨ga', gc', vals', r.K⟩) ⟨hok' g, hr'⟩ ⟨rfl, congrArg (fun z => some (Value.pointer (some ⟨z, 0, none⟩))) hx'.symm, O, O, O, O, trivial⟩ (fun w q => q.sup zsup))
                        | (have zz := hA1
                           exact J.closeK hk61 (es', ⟨ga', gc', vals', K'⟩) ⟨hok', hr'⟩ ⟨rfl, congrArg (fun z => some (Value.pointer (some ⟨z, 0, none⟩))) hx'.symm, O, O, O, O, trivial⟩ (fun w q => q.sup zsup))
                        | (have zz := hA4
                           exact J.closeK hk61 (es', r) ⟨hok', hr'⟩ ⟨rfl, congrArg (fun z => some (Value.pointer (some ⟨z, 0, none⟩))) hx'.symm, O, O, O, O, trivial⟩ (fun w q => q.sup zsup))
                        | (have zz := hA5
                           exact J.closeK hk61 (es', ⟨ga', gc', vals', r.K⟩) ⟨hok', hr'⟩ ⟨rfl, congrArg (fun z => some (Value.pointer (some ⟨z, 0, none⟩))) hx'.symm, O, O, O, O, trivial⟩ (fun w q => q.sup zsup))
                        | (have zz := hA6
                           exact J.closeK hk61 (es.over, ⟨ga', gc', vals', r.K⟩) ⟨(hes.mono (Nat.le_succ i)).over, hr'⟩ ⟨O, O, O, O, O, O, trivial⟩ (fun w q => q.sup zsup))
                        | (exact J.closeK hk61 ({ es.over with x := x2, lg := lg2, st := st2 }, ⟨none, 0, [], r.K⟩) ⟨hov, RGot.none⟩ ⟨O, O, O, O, O, O, trivial⟩ (fun w q => q.sup zsup))
                all_goals refine Jb ?_
                all_goals
                  refine Jh ?_
                  refine Vh ?_
                  refine Jh ?_
                  have hltj : j < n1 := by omega
                  obtain ⟨gz, rfl⟩ := oz.at_.resolve_right fun ⟨h0, _⟩ => by have := oz.le; omega
                  obtain ⟨gk, rfl⟩ := ok.at_.resolve_right fun ⟨h0, _⟩ => by have := ok.le; omega
                  obtain ⟨hAj, hBj⟩ := hAB j (Nat.le_refl _) hltj
                  have hkj : (ints .u8 (keyB j)).length = 32 := keyB_length j
                  have hkl : (keyB j).length = 32 := by simpa [ints] using hkj
                  refine Jc ?_
                  refine Ja (Je rfl) O O O (Ja (Jd rfl) O O O ?_)
                  refine Jg ?_
                  refine Jb ?_
                  refine Jh ?_
                  refine Jh ?_
                  refine Wn _ _ [(0, .q), (1, .q), (2, .q), (3, .q), (4, .q), (5, .q), (6, .q), (7, .q), (8, .q), (9, .q)] mixed (by kernel_rfl) (Jl) ?_
                  refine Jf O O O O (fun m => Ji hT O O O O O O) ?_
                  refine Jf O O O O (fun m => Jm hT O O O zrda) ?_
                  refine Jf O O O O (fun m => Je rfl) ?_
                  refine Jf O O O O (fun m => Vg hT O O O O O zix zix) ?_
                  refine Jf O O O O (fun m => Vu hT O O O (RdN.elem (RdN.own (Vr m zpk)) hA32 hAj) hkj) ?_
                  refine Jf O O O O (fun m => Je rfl) ?_
                  refine Jf O O O O (fun m => Je rfl) ?_
                  refine Jf O O O O (fun m => Vg hT O O O O O zix zix) ?_
                  refine Jf O O O O (fun m => Vu hT O O O (RdN.elem (RdN.own (Vr m zpk)) hB32 hBj) hkj) ?_
                  refine Jf O O O O (fun m => y_arr_ne hT O O O O O O O zln zln) ?_
                  refine Wi ?_
                  refine Jb ?_
                  refine Jz rfl zbl ?_
                  refine Ve ?_
                  refine Jb ?_
                  refine Jh ?_
                  refine Jc ?_
                  refine Ja (Ji hT O O O O O O) O O O ?_
                  refine Ja (Jm hT O O O zrd) O O O ?_
                  refine Ja (Je rfl) O O O (Ja (y_build_arr0 hT O O O O) O O O ?_)
                  refine Ja (Vg hT O O O O O zix zix) O O O ?_
                  refine Jj rfl (l_storeOwnN (enc := ints .u8) (u := List.replicate 32 0) hT O O O O O (ints_one _ _) zpk hA32 (by omega) ?_)
                  refine Jg ?_
                  refine Jb ?_
                  refine Jc ?_
                  refine Ja (Je rfl) O O O (Ja (Je rfl) O O O (Ja (y_build_arr0 hT O O O O) O O O ?_))
                  refine Ja (Vg hT O O O O O zix zix) O O O ?_
                  refine Jj rfl (l_storeOwnN (enc := ints .u8) (u := List.replicate 32 0) hT O O O O O (ints_one _ _) zpk hB32 (by omega) ?_)
                  refine Jg ?_
                  refine Jy ?_
                  refine Jb ?_
                  refine Jc ?_
                  refine Ja (Wg O O zwr) O O O ?_
                  refine Ja (Je rfl) O O O ?_
                  refine Jg ?_
                all_goals
                  refine Wc (s := (j, A, B)) (j + 1, A.set j (List.replicate 32 0), B.set j (List.replicate 32 0)) ⟨hltj, by simp [hAl], by simp [hBl], fun x hx => ?_, fun x hx => ?_, fun z hz hz2 => ?_⟩ ⟨O, O, O, O, O, O, O, O, O, O, trivial⟩ (fun w q => q.sup zsup) (by dsimp only; omega)
                  · rcases List.mem_or_eq_of_mem_set hx with hx | rfl
                    · exact hA32 x hx
                    · exact key_zero
                  · rcases List.mem_or_eq_of_mem_set hx with hx | rfl
                    · exact hB32 x hx
                    · exact key_zero
                  · dsimp only at hz ⊢
                    rw [List.getElem?_set_ne (by omega), List.getElem?_set_ne (by omega)]
                    exact hAB z (by omega) hz2
          rotate_right 1
          focus
            intro h
            try (first | (exfalso; omega) | (cases h; done) | (exfalso; simp at h; done) | subst h)
            all_goals
              refine Jh ?_
              refine Jc ?_
              refine Ja (y_eql O O) O O O (Ja (Jd rfl) O O O ?_)
              refine Jg ?_
              refine Jb ?_
              focus
                first | apply Vb rfl | apply Vq rfl
                focus
                  intro h
                  try (first | (exfalso; omega) | (cases h; done) | (exfalso; simp at h; done) | subst h)
                  all_goals
                    have hA1 : True := trivial
                    obtain ⟨bs, hbs⟩ : ∃ bs, o.b es.last = bs := ⟨_, rfl⟩
                    obtain ⟨n, hn⟩ : ∃ n, bs.length = n := ⟨_, rfl⟩
                    have hbB : Bytes bs := by rw [← hbs]; exact hok.bytes es.last
                    have hn2 : n ≤ 1000 := by
                      rw [← hn, ← hbs]
                      unfold Op22.b
                      split
                      · simp [leB_length]; omega
                      · rw [List.length_take]; omega
                    have cpack : ∀ l, Fc prog E 32 [.agg (op22 o).toArray, Q es.last].toArray l (fun v l' => ∃ q c Kp, v = .slice q n c ∧ l' = Kp :: l ∧ (InL [Kp] q n c (ints .u8 bs) ∨ InL [K0] q n c (ints .u8 bs))) := fun l => by
                      rw [← hn, ← hbs]
                      exact packet2_spec E o es.last K0 l hok
                    obtain ⟨es', e, hok', hx', ccol, rcol⟩ := es_collect E es hes hi100 bs n hn (by omega) hbB
                    have crcol := rcol r.ga r.gc r.vals r.K hr
                    refine Jh ?_
                    refine Jc ?_
                    refine Ja (Vu hT O O O zrdn zln) O O O ?_
                    refine Ja (Ji hT O O O O O O) O O O ?_
                    refine Ja (Jm hT O O O zrd) O O O ?_
                    refine Jj rfl (Jv e32 O O (cpack _) ?_)
                    rintro _ _ ⟨pq, pc, Kp, rfl, rfl, hpin⟩
                    refine Ja (Jd rfl) O O O ?_
                    refine Jg ?_
                    refine Jb ?_
                    refine Jh ?_
                    refine Jc ?_
                    refine Jj rfl (l_buildSlice0 hT O O O O (fun b14 => ?_))
                    refine Ja (Je rfl) O O O ?_
                    have hpl : ∀ l r1 r2, Pick l Kp r1 → Pick l K0 r2 → InL l pq n pc (ints .u8 bs) := fun l r1 r2 p1 p2 => hpin.elim (fun z => z.kept p1) (fun z => z.kept p2)
                    refine Jj rfl (l_appendIn (nn := 0) (m := n) hT O O O O O O O O zpk (hpl _ _ _ zpk zpk) (by rw [show i5.size = 1 from rfl]; simp [ints, hn]) (ints_one _ _) (by rw [show i5.bytes = 1 from rfl]; omega) (by omega) rfl (fun oa oc hoc => ?_))
                    rw [Nat.zero_add, List.nil_append (ints .u8 bs)]
                    refine JL.fact (p := OwnAt oa n oc (ints .u8 bs)) (fun w s => Vx (s.pick zpk)) fun oS => ?_
                    refine Ja (Jd rfl) O O O ?_
                    refine Jg ?_
                    refine Jb ?_
                    refine Jh ?_
                    refine Jc ?_
                    refine Ja (Je rfl) O O O (Ja (Je rfl) O O O ?_)
                    refine Jj rfl (Jv e20 O O (Wm (Jk (A := es.H d) zpk Jl) (ccol d oa oc _ (oS.inl (e := 5) (size := 1) zpk))) ?_)
                    rintro _ _ ⟨rfl, rfl⟩
                    refine Ja (Jd rfl) O O O ?_
                    refine Jg ?_
                    refine Jb ?_
                    refine Jh ?_
                    refine Jc ?_
                    refine Ja (Vu hT O O O zrdn zln) O O O ?_
                    refine Ja (Je rfl) O O O ?_
                    refine Jj rfl (Jv e33 O O (Wm (Jk (A := r.K) zpk Jl) (crcol pq pc _ (hpl _ _ _ zpk zpk))) ?_)
                    rintro _ _ ⟨ga', gc', vals', K', hr', rfl, rfl⟩
                    refine Ja (Je rfl) O O O (Ja (Jx O O) O O O (Ja (Jx O O) O O O ?_))
                    refine Jj rfl (Vf hT O O O zln zoc zpk zln ?_)
                    refine Ja (Jd rfl) O O O ?_
                    refine Jg ?_
                    refine Jb ?_
                    refine Jh ?_
                    refine Jh ?_
                    refine Jc ?_
                    refine Ja (Je rfl) O O O (Ja (Je rfl) O O O (Ja (Wa O O) O O O (Ja (Je rfl) O O O ?_)))
                    all_goals (first | (refine Vj O O O (fun h => ?_) (fun h => ?_) <;> try (first | (exfalso; omega) | exact absurd rfl h)) | (refine Vz O O O (fun h => ?_) (fun h => ?_) <;> try (first | cases h | (exfalso; simp at h; done))) | skip)
                    all_goals (first | refine Jt O O O O O O ?_ | refine Jq O O O O O ?_ | refine Ju O O O (Je rfl) O O ?_)
                    all_goals (first | refine Jt O O O O O O ?_ | refine Jq O O O O O ?_ | refine Ju O O O (Je rfl) O O ?_)
                    all_goals (first | refine Jt O O O O O O ?_ | refine Jq O O O O O ?_ | (refine JL.gloud O O O (Jv e28 O O (bequal_spec E oa pq oc pc n n bs bs _ hn hn hbB hbB (oS.inl (e := 5) (size := 1) zpk) (hpl _ _ _ zpk zpk)) ?_); rintro _ _ ⟨rfl, rfl⟩))
                    all_goals (first | refine Jt O O O O O O ?_ | refine Jq O O O O O ?_ | refine Ju O O O (y_not rfl) O O ?_)
                    all_goals (refine Ja (Wk O O O) O O O ?_)
                    all_goals refine Jg ?_
                    all_goals refine Jb ?_
                    all_goals
                      refine Jz rfl zbl ?_
                      refine Ve ?_
                    all_goals refine Jb ?_
                    all_goals
                      refine Jh ?_
                      refine Jc ?_
                      refine Ja (Je rfl) O O O (Ja (Va hT O O O) O O O (Ja (Je rfl) O O O ?_))
                      refine Jg ?_
                      refine Jb ?_
                      refine Vh ?_
                      refine J.loop (α := Nat × List Value) (fun s => s.1 ≤ n ∧ s.2.length = n) (fun s => [(5, .pointer (some ⟨d, 0, none⟩)), (7, .pointer (some ⟨es.x, 0, none⟩)), (8, .pointer (some ⟨b8, 0, none⟩)), (17, .slice oa n oc), (52, .slice (some ⟨go, oo, none⟩) m0 cap), (53, .int .i64 m0), (54, .int .i64 i), (183, .int .i64 n), (184, .int .i64 s.1)]) (fun s => own 5 1 (.slice oa n oc) n s.2 :: es'.H d :: K' :: row b8 68 (eV es'.last es'.ph es'.hops ga' es'.G.length gc') :: [K0]) (fun s => n - s.1) (0, ints .u8 bs) ⟨Nat.zero_le _, by simp [ints, hn]⟩ ⟨O, O, O, O, O, O, O, O, O, trivial⟩ (fun w h => h.sup zsup) ?_
                      rintro ⟨j, ys⟩ ⟨hj, hys⟩
                      dsimp only at hj hys ⊢
                      refine Jh ?_
                      refine Jc ?_
                      refine Ja (y_lss O O) O O O ?_
                      refine Jg ?_
                      refine Jb ?_
                      refine Jh ?_
                      focus
                        first | apply Vb rfl | apply Vq rfl
                        focus
                          intro h
                          try (first | (exfalso; omega) | (cases h; done) | (exfalso; simp at h; done) | subst h)
                          all_goals
                            refine Ve ?_
                        rotate_right 1
                        focus
                          intro h
                          try (first | (exfalso; omega) | (cases h; done) | (exfalso; simp at h; done) | subst h)
                          all_goals
                            refine J.exit ?_
                            refine Vd ?_
                            refine Vd ?_
                            refine Vn ?_
                            refine Jy ?_
                            refine Jb ?_
                            first
                              | (have zz := hA0
                                 exact J.closeK hk61 ({ es' with g := g }, ⟨ga', gc', vals', r.K⟩) ⟨hok' g, hr'⟩ ⟨rfl, congrArg (fun z => some (Value.pointer (some ⟨z, 0, none⟩))) hx'.symm, O, O, O, O, trivial⟩ (fun w q => q.sup zsup))
                              | (have zz := hA1
                                 exact J.closeK hk61 (es', ⟨ga', gc', vals', K'⟩) ⟨hok', hr'⟩ ⟨rfl, congrArg (fun z => some (Value.pointer (some ⟨z, 0, none⟩))) hx'.symm, O, O, O, O, trivial⟩ (fun w q => q.sup zsup))
                              | (have zz := hA4
                                 exact J.closeK hk61 (es', r) ⟨hok', hr'⟩ ⟨rfl, congrArg (fun z => some (Value.pointer (some ⟨z, 0, none⟩))) hx'.symm, O, O, O, O, trivial⟩ (fun w q => q.sup zsup))
                              | (have zz := hA5
                                 exact J.closeK hk61 (es', ⟨ga', gc', vals', r.K⟩) ⟨hok', hr'⟩ ⟨rfl, congrArg (fun z => some (Value.pointer (some ⟨z, 0, none⟩))) hx'.symm, O, O, O, O, trivial⟩ (fun w q => q.sup zsup))
                              | (have zz := hA6
                                 exact J.closeK hk61 (es.over, ⟨ga', gc', vals', r.K⟩) ⟨(hes.mono (Nat.le_succ i)).over, hr'⟩ ⟨O, O, O, O, O, O, trivial⟩ (fun w q => q.sup zsup))
                              | (exact J.closeK hk61 ({ es.over with x := x2, lg := lg2, st := st2 }, ⟨none, 0, [], r.K⟩) ⟨hov, RGot.none⟩ ⟨O, O, O, O, O, O, trivial⟩ (fun w q => q.sup zsup))
                      all_goals refine Jb ?_
                      all_goals
                        refine Jh ?_
                        refine Vh ?_
                        refine Jh ?_
                        have hltj : j < n := by omega
                        obtain ⟨gx, rfl⟩ := oS.at_.resolve_right fun ⟨h0, _⟩ => by have := oS.le; omega
                        refine Jc ?_
                        refine Ja (Je rfl) O O O (Ja (Jd rfl) O O O ?_)
                        refine Jg ?_
                        refine Jb ?_
                        refine Jc ?_
                        refine Ja (Je rfl) O O O (Ja (Je rfl) O O O ?_)
                        refine Ja (Vg hT O O O O O zix zix) O O O ?_
                        refine Jj rfl (l_storeOwn1 hT O O O O O zpk (show 0 + (j : Int).toNat * i5.size < ys.length by rw [hys, show i5.size = 1 from rfl]; omega) ?_)
                        refine Jg ?_
                        refine Jy ?_
                        refine Jb ?_
                        refine Jc ?_
                        refine Ja (Wg O O zwr) O O O ?_
                        refine Ja (Je rfl) O O O ?_
                        refine Jg ?_
                      all_goals
                        exact Wc (s := (j, ys)) (j + 1, ys.set (0 + (j : Int).toNat * i5.size) (.int .u8 238)) ⟨by dsimp only; omega, by simp [hys]⟩ ⟨O, O, O, O, O, O, O, O, O, trivial⟩ (fun w q => q.sup zsup) (by dsimp only; omega)
                rotate_right 1
                focus
                  intro h
                  try (first | (exfalso; omega) | (cases h; done) | (exfalso; simp at h; done) | subst h)
                  all_goals
                    refine Jh ?_
                    refine Jc ?_
                    refine Ja (y_eql O O) O O O (Ja (Jd rfl) O O O ?_)
                    refine Jg ?_
                    refine Jb ?_
                    focus
                      first | apply Vb rfl | apply Vq rfl
                      focus
                        intro h
                        try (first | (exfalso; omega) | (cases h; done) | (exfalso; simp at h; done) | subst h)
                        all_goals
                          have hA4 : True := trivial
                          obtain ⟨es', e, bs, n1, hok', hx', hbl, hn1, hbB, ccl, rcl⟩ := es_close E es hes hi100
                          obtain ⟨hr', vals1, hX1, crcl⟩ := rcl r.ga r.gc r.vals r.K hr
                          refine Jh ?_
                          refine Jc ?_
                          refine Ja (Jd rfl) O O O ?_
                          refine Jg ?_
                          refine Jb ?_
                          refine Jh ?_
                          refine Jc ?_
                          refine Ja (Je rfl) O O O ?_
                          refine Jj rfl (Jv e15 O O (Wm (Jk (A := es.H d) zpk Jl) (ccl d _)) ?_)
                          rintro _ _ ⟨ca, cc, vs, KC, rfl, hvs, hXC, rfl⟩
                          refine Ja (Je rfl) O O O (Ja (Jx O O) O O O (Ja (Jx O O) O O O (Ja (Jd rfl) O O O (Ja (Jd rfl) O O O ?_))))
                          refine Jg ?_
                          refine Jb ?_
                          refine Jh ?_
                          refine Jc ?_
                          refine Ja (Vu hT O O O zrdn zln) O O O ?_
                          refine Jj rfl (Jv e34 O O (Wm (Jk (A := r.K) zpk Jl) (crcl _)) ?_)
                          rintro _ _ ⟨wa, wc, rfl, rfl⟩
                          refine Ja (Je rfl) O O O (Ja (Jx O O) O O O (Ja (Jx O O) O O O (Ja (Jx O O) O O O ?_)))
                          refine Jj rfl (Vf hT O O O zln zoc zpk zln ?_)
                          refine Ja (Jd rfl) O O O (Ja (Jd rfl) O O O ?_)
                          refine Jg ?_
                          refine Jb ?_
                          refine Jh ?_
                          refine Jc ?_
                          refine Ja (Je rfl) O O O (Ja (Je rfl) O O O (Ja (Wa O O) O O O (Ja (Je rfl) O O O ?_)))
                          all_goals (first | (refine Vj O O O (fun h => ?_) (fun h => ?_) <;> try (first | (exfalso; omega) | exact absurd rfl h)) | (refine Vz O O O (fun h => ?_) (fun h => ?_) <;> try (first | cases h | (exfalso; simp at h; done))) | skip)
                          all_goals (first | refine Jt O O O O O O ?_ | refine Jq O O O O O ?_ | refine Ju O O O (Je rfl) O O ?_)
                          all_goals (first | refine Jt O O O O O O ?_ | refine Jq O O O O O ?_ | refine Ju O O O (Je rfl) O O ?_)
                          all_goals (first | refine Jt O O O O O O ?_ | refine Jq O O O O O ?_ | (refine JL.gloud O O O (Jv e25 O O (Fc.fact (p := OwnAt ca n1 cc vs) (fun w s => Vx (s.pick zpk)) fun o1 => Fc.fact (p := OwnAt wa n1 wc vals1) (fun w s => Vx (s.pick zpk)) fun o2 => same22_spec E ca wa n1 n1 cc wc vs vals1 bs bs _ hbl hbl (by omega) (o1.inl (e := 22) (size := 1) zpk) (o2.inl (e := 22) (size := 1) zpk) hbB hbB (fun i b hb => let ⟨q, c, h1, h2⟩ := hXC.get i b hb; ⟨q, c, h1, h2.kept zpk⟩) (fun i b hb => let ⟨q, c, h1, h2⟩ := hX1.get i b hb; ⟨q, c, h1, h2.kept zpk⟩)) ?_); rintro _ _ ⟨rfl, rfl⟩))
                          all_goals (first | refine Jt O O O O O O ?_ | refine Jq O O O O O ?_ | refine Ju O O O (y_not rfl) O O ?_)
                          all_goals (refine Ja (Wk O O O) O O O ?_)
                          all_goals refine Jg ?_
                          all_goals refine Jb ?_
                          all_goals
                            refine Jz rfl zbl ?_
                            refine Ve ?_
                      rotate_right 1
                      focus
                        intro h
                        try (first | (exfalso; omega) | (cases h; done) | (exfalso; simp at h; done) | subst h)
                        all_goals
                          refine Jh ?_
                          refine Jc ?_
                          refine Ja (y_eql O O) O O O (Ja (Jd rfl) O O O ?_)
                          refine Jg ?_
                          refine Jb ?_
                          focus
                            first | apply Vb rfl | apply Vq rfl
                            focus
                              intro h
                              try (first | (exfalso; omega) | (cases h; done) | (exfalso; simp at h; done) | subst h)
                              all_goals
                                have hA5 : True := trivial
                                obtain ⟨es', hok', hx', rfs⟩ := es_fans E es hes hi100 o
                                obtain ⟨ga', gc', vals', hr', cfs⟩ := rfs r.ga r.gc r.vals r.K hr
                                refine Jh ?_
                                refine Jc ?_
                                refine Ja (Je rfl) O O O ?_
                                refine Ja (Vu hT O O O zrdn zln) O O O ?_
                                refine Ja (Vu hT O O O zrdn zln) O O O ?_
                                refine Jj rfl (Jv e35 O O (Wm (Jk (A := es.H d) zpk (Jk (A := r.K) zpk Jl)) (cfs d _)) ?_)
                                rintro _ _ ⟨rfl, rfl⟩
                                refine Ja (Je rfl) O O O (Ja (Jx O O) O O O (Ja (Jx O O) O O O ?_))
                                refine Jj rfl (Vt hT O O zcl rfl (fun b24 => ?_))
                                refine Jj rfl (Vf hT O O O zln zoc zpk zln ?_)
                                refine Ja (Jd rfl) O O O ?_
                                refine Jg ?_
                                refine Jb ?_
                                refine Jh ?_
                                refine Jh ?_
                                refine Jc ?_
                                refine Ja (Je rfl) O O O (Ja (y_not rfl) O O O ?_)
                                refine Jg ?_
                                refine Jb ?_
                                refine Jz rfl zbl ?_
                                refine Ve ?_
                                refine Jb ?_
                                refine Jc ?_
                                refine Ja (Vu hT O O O zrdn zln) O O O ?_
                                refine Jj rfl (Vf hT O O O zln zoc zpk zln ?_)
                                refine Jg ?_
                            rotate_right 1
                            focus
                              intro h
                              try (first | (exfalso; omega) | (cases h; done) | (exfalso; simp at h; done) | subst h)
                              all_goals
                                refine Jh ?_
                                refine Jc ?_
                                refine Ja (y_eql O O) O O O (Ja (Jd rfl) O O O ?_)
                                refine Jg ?_
                                refine Jb ?_
                                focus
                                  first | apply Vb rfl | apply Vq rfl
                                  focus
                                    intro h
                                    try (first | (exfalso; omega) | (cases h; done) | (exfalso; simp at h; done) | subst h)
                                    all_goals
                                      have hA6 : True := trivial
                                      obtain ⟨ga', gc', vals', hr', crab⟩ := rs_abort E es hes r.ga r.gc r.vals r.K hr
                                      refine Jh ?_
                                      refine Jc ?_
                                      refine Ja (Je rfl) O O O ?_
                                      refine Jj rfl (Jv e21 O O (Wm (Jk (A := es.H d) zpk Jl) (es_abort E es hes d _)) ?_)
                                      rintro _ _ ⟨rfl, rfl⟩
                                      refine Ja (Jd rfl) O O O ?_
                                      refine Jg ?_
                                      refine Jb ?_
                                      refine Jh ?_
                                      refine Jc ?_
                                      refine Ja (Vu hT O O O zrdn zln) O O O ?_
                                      refine Jj rfl (Jv e36 O O (crab _) ?_)
                                      rintro _ _ ⟨rfl, rfl⟩
                                      refine Ja (Je rfl) O O O (Ja (Jx O O) O O O (Ja (Jx O O) O O O ?_))
                                      refine Jj rfl (Vf hT O O O zln zoc zpk zln ?_)
                                      refine Ja (Jd rfl) O O O ?_
                                      refine Jg ?_
                                      refine Jb ?_
                                      refine Jh ?_
                                      refine Jc ?_
                                      refine Ja (Je rfl) O O O (Ja (Je rfl) O O O (Ja (Wa O O) O O O ?_))
                                      refine Jg ?_
                                      refine Jb ?_
                                      refine Jz rfl zbl ?_
                                      refine Ve ?_
                                  rotate_right 1
                                  focus
                                    intro h
                                    try (first | (exfalso; omega) | (cases h; done) | (exfalso; simp at h; done) | subst h)
                                    all_goals
                                      refine Jh ?_
                                      refine Jh ?_
                                      refine Jc ?_
                                      refine Ja (Je rfl) O O O ?_
                                      refine Jj rfl (Jv e12 O O (Wm (Jk (A := es.H d) zpk Jl) (es_open E es hes hM64 d _)) ?_)
                                      rintro _ _ ⟨x2, lg2, st2, rfl, rfl⟩
                                      refine Ja (Je rfl) O O O ?_
                                      have hov : ({ es.over with x := x2, lg := lg2, st := st2 } : ES).Ok M (i + 1) := by
                                        have z := (hes.mono (Nat.le_succ i)).over
                                        exact ⟨z.lh, z.num, z.turn, z.low, z.len, z.phase, z.placed, z.keys, z.size, z.byt, z.few⟩
                                      refine Ja (Jx O O) O O O (Ja (Jx O O) O O O (Ja (Jd rfl) O O O (Ja (Jd rfl) O O O ?_)))
                                      refine Jg ?_
                                      refine Jb ?_
                                      refine Jh ?_
                                      refine Jc ?_
                                      refine Ja (Je rfl) O O O (Ja (Wa O O) O O O (Ja (Je rfl) O O O ?_))
                                      all_goals (first | (refine Vj O O O (fun h => ?_) (fun h => ?_) <;> try (first | (exfalso; omega) | exact absurd rfl h)) | (refine Vz O O O (fun h => ?_) (fun h => ?_) <;> try (first | cases h | (exfalso; simp at h; done))) | skip)
                                      all_goals (first | refine Jt O O O O O O ?_ | refine Jq O O O O O ?_ | refine Ju O O O (Je rfl) O O ?_)
                                      all_goals (first | refine Jt O O O O O O ?_ | refine Jq O O O O O ?_ | refine Ju O O O (Vw hT O O O O) O O ?_)
                                      all_goals (refine Ja (Wk O O O) O O O ?_)
                                      all_goals refine Jg ?_
                                      all_goals refine Jb ?_
                                      all_goals
                                        refine Jz rfl zbl ?_
                                        refine Ve ?_
                                      all_goals refine Jb ?_
                                      all_goals
                                        refine Jc ?_
                                        refine Ja (Ji hT O O O O O O) O O O ?_
                                        refine Ja (Jm hT O O O zrd) O O O ?_
                                        refine Ja (y_build (cs := [_, _, _, _]) hT O O O O O O ⟨⟨zln, Nat.le_of_ble_eq_true rfl⟩, trivial⟩ rfl) O O O ?_
                                        refine Jj rfl (Vf hT O O O zln zoc zpk zln ?_)
                                        refine Jg ?_
        all_goals refine Jy ?_
        all_goals refine Jb ?_
        all_goals
          first
            | (have zz := hA0
               exact J.closeK hk61 ({ es' with g := g }, ⟨ga', gc', vals', r.K⟩) ⟨hok' g, hr'⟩ ⟨rfl, congrArg (fun z => some (Value.pointer (some ⟨z, 0, none⟩))) hx'.symm, O, O, O, O, trivial⟩ (fun w q => q.sup zsup))
            | (have zz := hA1
               exact J.closeK hk61 (es', ⟨ga', gc', vals', K'⟩) ⟨hok', hr'⟩ ⟨rfl, congrArg (fun z => some (Value.pointer (some ⟨z, 0, none⟩))) hx'.symm, O, O, O, O, trivial⟩ (fun w q => q.sup zsup))
            | (have zz := hA4
               exact J.closeK hk61 (es', r) ⟨hok', hr'⟩ ⟨rfl, congrArg (fun z => some (Value.pointer (some ⟨z, 0, none⟩))) hx'.symm, O, O, O, O, trivial⟩ (fun w q => q.sup zsup))
            | (have zz := hA5
               exact J.closeK hk61 (es', ⟨ga', gc', vals', r.K⟩) ⟨hok', hr'⟩ ⟨rfl, congrArg (fun z => some (Value.pointer (some ⟨z, 0, none⟩))) hx'.symm, O, O, O, O, trivial⟩ (fun w q => q.sup zsup))
            | (have zz := hA6
               exact J.closeK hk61 (es.over, ⟨ga', gc', vals', r.K⟩) ⟨(hes.mono (Nat.le_succ i)).over, hr'⟩ ⟨O, O, O, O, O, O, trivial⟩ (fun w q => q.sup zsup))
            | (exact J.closeK hk61 ({ es.over with x := x2, lg := lg2, st := st2 }, ⟨none, 0, [], r.K⟩) ⟨hov, RGot.none⟩ ⟨O, O, O, O, O, O, trivial⟩ (fun w q => q.sup zsup))
      rintro ⟨es2, r2⟩ hI2
      dsimp only at hI2 ⊢
      refine Jh ?_
      refine Wn _ _ [(0, .q), (1, .q), (2, .q), (3, .q), (4, .q), (5, .q), (6, .q), (7, .q), (8, .q), (9, .q), (10, .q), (11, .q), (12, .q), (13, .q), (14, .q), (15, .q), (16, .q), (17, .q), (18, .q), (19, .q)] mixed (by kernel_rfl) (Jl) ?_
      refine Jf O O O O (fun m => Je rfl) ?_
      refine Jf O O O O (fun m => y_callF e17 rfl (Fc.still (p := [es2.H d]) (Jk (Vr m zpk) Jl) (es_round E es2 d _))) ?_
      refine Jf O O O O (fun m => Ji hT O O O O O O) ?_
      refine Jf O O O O (fun m => Jm hT O O O zrda) ?_
      refine Jf O O O O (fun m => y_neqB O O (decide_eq_false (fun z => z rfl))) ?_
      refine Jf O O O O (fun m => Je rfl) ?_
      all_goals (first | refine Vv O O O O O O O ?_ | refine Vo O O O O O O ?_ | refine Vm O O O O O O (fun m => Je rfl) ?_)
      all_goals (first | refine Vv O O O O O O O ?_ | refine Vo O O O O O O ?_ | refine Vm O O O O O O (fun m => y_callF e18 rfl (Fc.still (p := [es2.H d]) (Jk (Vr m zpk) Jl) (es_phase E es2 d _))) ?_)
      all_goals (first | refine Vv O O O O O O O ?_ | refine Vo O O O O O O ?_ | refine Vm O O O O O O (fun m => Ji hT O O O O O O) ?_)
      all_goals (first | refine Vv O O O O O O O ?_ | refine Vo O O O O O O ?_ | refine Vm O O O O O O (fun m => Jm hT O O O zrda) ?_)
      refine Vm O O O O O O (fun m => y_neqB O O (decide_eq_false (fun z => z rfl))) ?_
      all_goals refine Jf O O O O (fun m => Wk O O O) ?_
      all_goals refine Jf O O O O (fun m => Je rfl) ?_
      all_goals (first | refine Vv O O O O O O O ?_ | refine Vo O O O O O O ?_ | refine Vm O O O O O O (fun m => Je rfl) ?_)
      all_goals (first | refine Vv O O O O O O O ?_ | refine Vo O O O O O O ?_ | refine Vm O O O O O O (fun m => y_callF e19 rfl (Fc.still (p := [es2.H d]) (Jk (Vr m zpk) Jl) (es_count E es2 hI2.e d _))) ?_)
      all_goals (first | refine Vv O O O O O O O ?_ | refine Vo O O O O O O ?_ | refine Vm O O O O O O (fun m => Ji hT O O O O O O) ?_)
      all_goals (first | refine Vv O O O O O O O ?_ | refine Vo O O O O O O ?_ | refine Vm O O O O O O (fun m => Jm hT O O O zrda) ?_)
      all_goals (first | refine Vv O O O O O O O ?_ | refine Vo O O O O O O ?_ | refine Vm O O O O O O (fun m => Va hT O O O) ?_)
      refine Vm O O O O O O (fun m => y_neqB O O (decide_eq_false (fun z => z rfl))) ?_
      all_goals refine Jf O O O O (fun m => Wk O O O) ?_
      all_goals refine Wi ?_
      all_goals refine Jb ?_
      all_goals
        refine Jz rfl zbl ?_
        refine Ve ?_
      all_goals refine Jy ?_
      all_goals refine Jb ?_
      all_goals
        refine Jc ?_
        refine Ja (Wg O O zwr) O O O ?_
        refine Ja (Je rfl) O O O ?_
        refine Jg ?_
    all_goals
      exact Wc (s := (i, es, r)) (i + 1, es2, r2) ⟨hlt, hI2⟩ ⟨O, O, O, O, O, O, trivial⟩ (fun w q => q.sup zsup) (by dsimp only; omega)
end
section
open Go.ChangeShapes Go.WideShapes Go.ChangeAt Go.RowKit
theorem entry_does_reads : ∀ t ∈ Tryz.f5.params.toList, Tryz.prog.readableRec t = true ∧ t < Tryz.prog.types.size := by
  rw [Tryz.params5]
  intro t ht
  simp only [List.mem_cons, List.not_mem_nil, or_false] at ht
  rcases ht with rfl | rfl
  all_goals exact ⟨by kernel_rfl, of_decide_eq_true (by kernel_rfl)⟩
set_option maxRecDepth 100000 in
theorem entry_does_contract (H : Type) (enc : TypeId × Value → H) (W : World) (base : Nat) (args : Array Value) (ds gs : List (DataW H)) (before : List MemPlace)
    (hval : ∀ (j : Nat) t v, Tryz.f5.params[j]? = some t → args[j]? = some v → Value.okWide Tryz.prog W .any base t v)
    (hW : DataW.Whole enc Tryz.prog Tryz.f5.params.toList Rows.entryDoesSpec.vars false W args.toList ds gs before) :
    Calls Tryz.prog 5 args W fun e W' => ∃ v, e = .returned v ∧ Rows.entryDoesSpec.post enc Tryz.prog Tryz.f5 false true false false W args v W' := by
  have hW' := hW
  obtain ⟨p, q, hA0, hV, rfl, hfz, hnd⟩ := hW
  have hA : DataW.TrodAll enc Tryz.prog W 0 (fun _ => true) true Tryz.f5.params.toList args.toList ds p := hA0
  rw [Tryz.params5] at hA hval
  obtain ⟨v0, vs0, d0, ds0, p0, q0, hargs, rfl, rfl, h0, r0⟩ := trodAll_cons hA
  obtain ⟨v1, vs1, d1, ds1, p1, q1, rfl, rfl, rfl, h1, r1⟩ := trodAll_cons r0
  obtain ⟨rfl, rfl, rfl⟩ := trodAll_nil r1
  obtain rfl : args = #[v0, v1] := by cases args; simp_all
  obtain ⟨rfl, rfl⟩ := trodVars_none hV
  clear hA0
  have t0 : Tr enc prog (fun _ => True) W 3 [v0] := Tr.ofInt u3 (hval 0 3 v0 O O) h0 trivial
  have t1 : Tr enc prog (fun _ => True) W 66 [v1] := Tr.ofSlice u66 (hval 1 66 v1 O O) h1 trivial
  obtain ⟨n, e0, hn⟩ := Tr.int u3 t0
  cases e0
  obtain ⟨p, c, xs, rfl, _, hx, hin⟩ := tr_ops22 Her.all t1
  refine ((entry_does W n p c xs (old W) (hin.inl []) (fun o ho => (hx o ho).1)) W (Sat.start W)).mono fun e W' hq => ?_
  obtain ⟨v, l', rfl, hs, rfl, rfl⟩ := hq
  exact ⟨_, rfl, law_post laidOut_ O O u4 entry_does_reads hW' O O O hs.below⟩
set_option maxRecDepth 100000 in
theorem entry_does_lifted (os : Os) (started : os.Started) (H : Type) (enc : TypeId × Value → H) :
    ReturnsInHanded {} Tryz.checked os 5 .any (Rows.entryDoesSpec.pre6 enc Tryz.prog Tryz.f5 Rows.entryDoesRow.domain false) (Rows.entryDoesSpec.post enc Tryz.prog Tryz.f5 false true false false) := by
  refine returnsInHanded_of_change (C := Tryz.checked) own_ started (by kernel_rfl) Tryz.func5
    (ChangeSpec.witness6 (enc := enc) (C := Tryz.checked) false ⟨#[], #[.int .i64 0, .slice none 0 0], []⟩ 8 (by kernel_rfl) (by kernel_rfl) (by kernel_rfl) (by kernel_rfl)) ?_
  intro W base args ds gs before hval hW _ _
  exact entry_does_contract H enc W base args ds gs before hval hW
theorem entry_does_holds : Rows.EntryDoesSaid :=
  OpenClaim.holds_of_wide 5 Tryz.f5 O O O O O O O ⟨rfl, rfl, rfl, rfl, rfl⟩ O O O O O (by kernel_rfl) Tryz.func5 (by kernel_rfl)
    (of_decide_eq_true (by kernel_rfl)) (by unfold Func.isWrapper; first | (rw [if_pos (by decide +kernel)]; kernel_rfl) | (rw [if_neg (by decide +kernel)]; exact ⟨rfl, rfl⟩))
    (fun os started H enc _ => entry_does_lifted os started H enc)
end
end Go.Proofs.YtimekohdlofmaaaGreat
