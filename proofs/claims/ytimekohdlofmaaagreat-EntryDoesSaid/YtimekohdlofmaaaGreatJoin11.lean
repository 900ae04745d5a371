import Derived.Test.YtimekohdlofmaaaGreatJoin1
import Derived.Test.YtimekohdlofmaaaGreatJoin10
/- What is done to an entry, step by step: what the entry comes to, and what the document says. -/
namespace Go.Proofs.YtimekohdlofmaaaGreat
open Go Go.SL
theorem Fc.conv {P : Program} {E : World} {f : FuncId} {args : Array Value} {l l1 : List HProp} {R R1 : Value → List HProp → Prop} (h : Fc P E f args l1 R1) (hi : ∀ w, Sat E (stars l) w → Sat E (stars l1) w) (hr : ∀ v l', R1 v l' → ∃ l'', (∀ w, Sat E (stars l') w → Sat E (stars l'') w) ∧ R v l'') : Fc P E f args l R := Fc.imp (Wh (h.mono hr)) hi
/-- An entry's state. -/
structure ES where
  x : Nat
  lg : Nat
  st : Nat
  g : Nat
  S : Sb
  D : Dk
  L : Lg
  last : BitVec 64
  ph : Int
  hops : Int
  G : List (Int × List Int)
def ES.got (s : ES) : Value := if s.ph = 0 then .map none else .map (some s.g)
def ES.gotP (s : ES) : HProp := if s.ph = 0 then pur True else gotM s.g s.G
def ES.parts (d : Nat) (s : ES) : List HProp := [entR s.x s.lg false s.last s.ph s.hops s.got, s.gotP, logm s.lg s.st s.L, row s.st 224 (scells s.S d), disk d s.D]
def ES.H (d : Nat) (s : ES) : HProp := stars (s.parts d)
structure ES.Ok (M i : Nat) (s : ES) : Prop where
  lh : LH s.S s.D s.L
  num : entryN s.L = some s.last
  turn : s.S.turn.toNat ≤ i
  low : s.last.toNat ≤ i
  len : s.D.safe.length = M
  phase : (s.ph = 0 ∧ s.hops = 0 ∧ s.G = []) ∨ ((s.ph = 1 ∨ s.ph = 2) ∧ 1 ≤ s.hops ∧ s.hops ≤ 3)
  placed : Placed s.G
  keys : ∀ p ∈ s.G, 0 ≤ p.1 ∧ p.1 < 12
  size : ∀ p ∈ s.G, p.2.length ≤ 1000000
  byt : ∀ p ∈ s.G, Bytes p.2
  few : s.G.length ≤ i
theorem ES.Ok.mono {M i j : Nat} {s : ES} (h : s.Ok M i) (hj : i ≤ j) : s.Ok M j := ⟨h.lh, h.num, Nat.le_trans h.turn hj, Nat.le_trans h.low hj, h.len, h.phase, h.placed, h.keys, h.size, h.byt, Nat.le_trans h.few hj⟩
theorem rise_le : ∀ (ks : List Int) (lo : Int), ks.Pairwise (· < ·) → (∀ k ∈ ks, lo ≤ k ∧ k < 12) → (ks.length : Int) ≤ max (12 - lo) 0
  | [], _, _, _ => by simp; omega
  | k :: ks, lo, hp, h => by
    have h1 := h k (by simp)
    rw [List.pairwise_cons] at hp
    have h2 := rise_le ks (k + 1) hp.2 fun x hx => ⟨by have := hp.1 x hx; omega, (h x (by simp [hx])).2⟩
    rw [List.length_cons]
    omega
theorem ES.Ok.twelve {M i : Nat} {s : ES} (h : s.Ok M i) : s.G.length ≤ 12 := by
  have z := rise_le (s.G.map fun p : Int × List Int => p.1) 0 h.placed (fun k hk => by
    obtain ⟨p, hp, rfl⟩ := List.mem_map.1 hk
    exact h.keys p hp)
  rw [List.length_map] at z
  omega
def ES.over (s : ES) : ES := { s with ph := 0, hops := 0, G := [] }
theorem ES.Ok.over {M i : Nat} {s : ES} (h : s.Ok M i) : s.over.Ok M i := ⟨h.lh, h.num, h.turn, h.low, h.len, .inl ⟨rfl, rfl, rfl⟩, List.Pairwise.nil, fun p hp => (by cases hp), fun p hp => (by cases hp), fun p hp => (by cases hp), Nat.zero_le _⟩
theorem ES.Ok.hops3 {M i : Nat} {s : ES} (h : s.Ok M i) : 0 ≤ s.hops ∧ s.hops ≤ 3 := by
  rcases h.phase with ⟨_, h2, _⟩ | ⟨_, h2, h3⟩ <;> omega
theorem ES.over_idle {M i : Nat} {s : ES} (h : s.Ok M i) (hp : s.ph = 0) : s.over = s := by
  rcases h.phase with ⟨_, h2, h3⟩ | ⟨h1, _⟩
  · obtain ⟨x, lg, st, g, S, D, L, last, ph, hops, G⟩ := s
    dsimp only at hp h2 h3
    subst hp h2 h3
    rfl
  · omega
theorem ES.shut {E w : World} {d : Nat} {l : List HProp} (s : ES) (q : Sat E (stars (entR s.x s.lg false s.last s.ph s.hops s.got :: s.gotP :: logm s.lg s.st s.L :: row s.st 224 (scells s.S d) :: disk d s.D :: l)) w) : Sat E (stars (s.H d :: l)) w := Sat.fold (m := s.parts d) q
theorem ES.open {P : Program} {E : World} {f : FuncId} {args : Array Value} {R : Value → List HProp → Prop} {d : Nat} {l : List HProp} {s : ES} (h : Fc P E f args (entR s.x s.lg false s.last s.ph s.hops s.got :: s.gotP :: logm s.lg s.st s.L :: row s.st 224 (scells s.S d) :: disk d s.D :: l) R) : Fc P E f args (s.H d :: l) R := Fc.imp h fun _ q => Sat.unfold (m := s.parts d) q
theorem ES.idle {s : ES} (h : s.ph = 0) : s.got = .map none ∧ s.gotP = pur True := ⟨if_pos h, if_pos h⟩
theorem ES.busy {s : ES} (h : ¬ s.ph = 0) : s.got = .map (some s.g) ∧ s.gotP = gotM s.g s.G := ⟨if_neg h, if_neg h⟩
theorem RGot.none {K : HProp} {last : BitVec 64} : RGot K last 0 none 0 [] [] := ⟨rfl, Nat.zero_le _, ⟨Nat.le_refl _, Nat.zero_le _, .inr ⟨rfl, rfl⟩⟩, ⟨rfl, fun i b h => by simp at h⟩, fun p hp => (by cases hp)⟩
section
attribute [local irreducible] J JL JE JM LS Y Fc RV Code.wp wpList Code.wpIn wpListIn
attribute [local irreducible] Yc
variable (E : World)
theorem es_round (s : ES) (d : Nat) (l : List HProp) : Fc prog E 17 [.pointer (some ⟨s.x, 0, none⟩)].toArray (s.H d :: l) (fun v l' => v = Q s.last ∧ l' = s.H d :: l) :=
  Wo (ES.open ((eround_spec E s.x s.lg false s.last s.ph s.hops s.got _).mono fun v l' ⟨h1, h2⟩ => ⟨h1, fun w q => s.shut (by subst h2; exact q)⟩))
theorem es_phase (s : ES) (d : Nat) (l : List HProp) : Fc prog E 18 [.pointer (some ⟨s.x, 0, none⟩)].toArray (s.H d :: l) (fun v l' => v = .int .i64 s.ph ∧ l' = s.H d :: l) :=
  Wo (ES.open ((ephase_spec E s.x s.lg false s.last s.ph s.hops s.got _).mono fun v l' ⟨h1, h2⟩ => ⟨h1, fun w q => s.shut (by subst h2; exact q)⟩))
theorem es_count {M i : Nat} (s : ES) (h : s.Ok M i) (d : Nat) (l : List HProp) : Fc prog E 19 [.pointer (some ⟨s.x, 0, none⟩)].toArray (s.H d :: l) (fun v l' => v = .int .i64 (s.G.length : Int) ∧ l' = s.H d :: l) := by
  refine Wo (ES.open ?_)
  by_cases hp : s.ph = 0
  · obtain ⟨e1, e2⟩ := ES.idle hp
    have hG : s.G = [] := by
      rcases h.phase with ⟨_, _, h3⟩ | ⟨h1, _⟩
      · exact h3
      · omega
    rw [e1]
    exact (ecount_none E s.x s.lg false s.last s.ph s.hops _).mono fun v l' ⟨h1, h2⟩ => ⟨by rw [h1, hG]; rfl, fun w q => s.shut (by rw [e1]; subst h2; exact q)⟩
  · obtain ⟨e1, e2⟩ := ES.busy hp
    rw [e1, e2]
    exact (ecount_spec E s.x s.lg s.g false s.last s.ph s.hops s.G _).mono fun v l' ⟨h1, h2⟩ => ⟨h1, fun w q => s.shut (by rw [e1, e2]; subst h2; exact q)⟩
theorem es_abort {M i : Nat} (s : ES) (h : s.Ok M i) (d : Nat) (l : List HProp) : Fc prog E 21 [.pointer (some ⟨s.x, 0, none⟩)].toArray (s.H d :: l) (fun v l' => v = .int .i64 (if s.ph = 0 then 322 else 0) ∧ l' = s.over.H d :: l) := by
  refine Wo (ES.open ?_)
  by_cases hp : s.ph = 0
  · rw [ES.over_idle h hp, if_pos hp]
    have z := eabort_idle E s.x s.lg false s.last s.hops s.got
    rw [← hp] at z
    exact (z _).mono fun v l' ⟨h1, h2⟩ => ⟨h1, fun w q => s.shut (by subst h2; exact q)⟩
  · rw [if_neg hp]
    refine (eabort_spec E s.x s.lg false s.last s.ph s.hops s.got _ hp).mono fun v l' ⟨h1, h2⟩ => ⟨h1, fun w q => ?_⟩
    subst h2
    refine s.over.shut (d := d) (l := l) ?_
    have q1 := (Sat.pick q (Vc Jp)).drop
    exact (Sat.topur trivial q1).pick (Vc Jp)
theorem rs_abort {M i : Nat} (s : ES) (h : s.Ok M i) (ga : Option Addr) (gc : Nat) (vals : List Value) (K : HProp) (hr : RGot K s.last s.G.length ga gc vals s.G) :
    ∃ ga' gc' vals', RGot K s.over.last s.over.G.length ga' gc' vals' s.over.G ∧ ∀ l, Fc prog E 36 [.agg (eV s.last s.ph s.hops ga s.G.length gc).toArray].toArray l (fun v l' => v = .tuple #[.agg (eV s.over.last s.over.ph s.over.hops ga' s.over.G.length gc').toArray, .int .i64 (if s.ph = 0 then 322 else 0)] ∧ l' = l) := by
  by_cases hp : s.ph = 0
  · rw [ES.over_idle h hp]
    refine ⟨ga, gc, vals, hr, fun l => (rabort_spec E s.last s.ph s.hops ga s.G.length gc l).mono fun v l' ⟨h1, h2⟩ => ⟨?_, h2⟩⟩
    rw [h1, if_pos hp, if_pos hp]
  · refine ⟨none, 0, [], RGot.none, fun l => (rabort_spec E s.last s.ph s.hops ga s.G.length gc l).mono fun v l' ⟨h1, h2⟩ => ⟨?_, h2⟩⟩
    rw [h1, if_neg hp, if_neg hp]
    rfl
end
end Go.Proofs.YtimekohdlofmaaaGreat
/- A round announced, onions collected, batches told, replies fanned out: the entry and the document side by side. -/
namespace Go.Proofs.YtimekohdlofmaaaGreat
open Go Go.SL
section
attribute [local irreducible] J JL JE JM LS Y Fc RV Code.wp wpList Code.wpIn wpListIn
attribute [local irreducible] Yc
variable (E : World)
theorem announce_any {S : Sb} {D : Dk} {L : Lg} {last : BitVec 64} (h : LH S D L) (hN : entryN L = some last) (hlast : last + 1#64 ≠ 0#64) (ht : S.turn.toNat + 1 < 18446744073709551616) (h64 : 64 ≤ D.safe.length) :
    ∃ A Sa D', LH Sa D' A ∧ entryN A = some (last + 1#64) ∧ Sa.turn.toNat ≤ S.turn.toNat + 1 ∧ D'.safe.length = D.safe.length ∧ ∀ (x lg st d : Nat) (hops : Int) (got : Value) (p : Option Addr) (cap n : Nat) (ks : List (List Int)) (l : List HProp), ks.length = n → 1 ≤ n → n ≤ 3 → (∀ k ∈ ks, (ints .u8 k).length = 32) → InL l p n cap (ks.flatMap (ints .u8)) →
      Fc prog E 13 [.pointer (some ⟨x, 0, none⟩), .slice p n cap].toArray (entR x lg false last 0 hops got :: logm lg st L :: row st 224 (scells S d) :: disk d D :: l)
        (fun v l' => ∃ a c g, v = .tuple #[.agg #[Q (last + 1#64), .slice a n c], .int .i64 0] ∧ l' = own 73 32 (.slice a n c) n (ks.flatMap (ints .u8)) :: blk g (.map #[] 0) :: entR x lg false (last + 1#64) 1 n (.map (some g)) :: logm lg st A :: row st 224 (scells Sa d) :: disk d D' :: l) := by
  obtain ⟨A, La, Sa, X, e, hA, hK, hc⟩ := announce_lh E (a := none) h hN hlast (fun k hk => by cases hk) ht h64
  rcases hK.out with ⟨rfl, rfl, htn, D', a', rfl, hL, hl, hn, _⟩ | ⟨_, hne, _⟩
  · obtain rfl := hn rfl
    refine ⟨La, Sa, D', hL, hA, htn, hl, fun x lg st d hops got p cap n ks l h1 h2 h3 h4 h5 => ?_⟩
    exact (announce_spec E x lg st d last hops got S Sa D D' L La p cap n ks l h1 h2 h3 h4 h5 0 hlast (fun l => hc x lg st d hops got l)).mono fun v l' q => by
      rcases q with ⟨_, q⟩ | ⟨q, _⟩
      · exact q
      · exact absurd rfl q
  · exact absurd rfl hne
theorem announce_open (x lg : Nat) (last : BitVec 64) (ph hops : Int) (got : Value) (hph : ph ≠ 0) (v : Value) (l : List HProp) :
    Fc prog E 13 [.pointer (some ⟨x, 0, none⟩), v].toArray (entR x lg false last ph hops got :: l) (fun v l' => v = .tuple #[.agg #[Q 0#64, .slice none 0 0], .int .i64 321] ∧ l' = entR x lg false last ph hops got :: l) := by
  refine Wo ?_
  have hb : decide (¬ ph = 0) = true := decide_eq_true hph
  refine Js (c := ?codeC) Tryz.func13 ?hb Tryz.ntmps13 ?hl ?_
  case hb => exact rfl
  case hl => exact rfl
  refine Jh ?_
  refine Jc ?_
  refine Jj rfl (Vt hT O O zcl rfl (fun b1 => ?_))
  refine Ja (Jd rfl) O O O ?_
  refine Jg ?_
  refine Jb ?_
  refine Jh ?_
  refine Vh ?_
  refine Jh ?_
  refine Jc ?_
  refine Ja (Je rfl) O O O (Ja (Vw hT O O O O) O O O (Ja (Jd rfl) O O O ?_))
  refine Jg ?_
  refine Jb ?_
  refine Jz rfl zbl ?_
  refine Jh ?_
  refine Jc ?_
  refine Ja (Je rfl) O O O ?_
  refine Ja ((by first | exact Jr rfl | exact Jn rfl | exact Jo rfl)) O O O ?_
  refine Ja (Ji hT O O O O O O) O O O ?_
  refine Ja (Jm hT O O O zrd) O O O ?_
  refine Ja (Jd rfl) O O O ?_
  refine Jg ?_
  refine Jb ?_
  refine Jz rfl zbl ?_
  refine Jh ?_
  refine Jc ?_
  refine Ja (Je rfl) O O O ?_
  refine Ja ((by first | exact Jr rfl | exact Jn rfl | exact Jo rfl)) O O O ?_
  refine Ja (Ji hT O O O O O O) O O O ?_
  refine Ja (Jm hT O O O zrd) O O O ?_
  refine Ja (Wa O O) O O O (Ja (Jd rfl) O O O ?_)
  refine Jg ?_
  refine Jb ?_
  refine Wp rfl zbl ?_
  refine Jh ?_
  refine Jc ?_
  refine Ja (y_build (cs := [_, _]) hT O O O O O O trivial rfl) O O O ?_
  refine Jj rfl (Vf hT O O O zln zoc zpk zln ?_)
  refine Ja (Jd rfl) O O O ?_
  refine Jg ?_
  refine Jb ?_
  refine Vi ?_
  refine Vl ?_
  refine Jw ?_
  refine Wb (.inl rfl) O O zrv zrv ?_
  exact ⟨rfl, fun w q => q.sup zsup⟩
theorem announce_field (x lg : Nat) (last : BitVec 64) (hops : Int) (got : Value) (p : Option Addr) (cap n : Nat) (l : List HProp) (hn : n < 1 ∨ 3 < n) :
    Fc prog E 13 [.pointer (some ⟨x, 0, none⟩), .slice p n cap].toArray (entR x lg false last 0 hops got :: l) (fun v l' => v = .tuple #[.agg #[Q 0#64, .slice none 0 0], .int .i64 241] ∧ l' = entR x lg false last 0 hops got :: l) := by
  refine Wo ?_
  obtain ⟨b1, hb1⟩ : ∃ b, decide ((n : Int) < 1) = b := ⟨_, rfl⟩
  obtain ⟨b3, hb3⟩ : ∃ b, decide ((3 : Int) < n) = b := ⟨_, rfl⟩
  cases b1
  · have hb3 : decide ((3 : Int) < n) = true := decide_eq_true (by have := of_decide_eq_false hb1; omega)
    refine Js (c := ?codeC) Tryz.func13 ?hb Tryz.ntmps13 ?hl ?_
    case hb => exact rfl
    case hl => exact rfl
    refine Jh ?_
    refine Jc ?_
    refine Jj rfl (Vt hT O O zcl rfl (fun b1 => ?_))
    refine Ja (Jd rfl) O O O ?_
    refine Jg ?_
    refine Jb ?_
    refine Jh ?_
    refine Vh ?_
    refine Jh ?_
    refine Jc ?_
    refine Ja (Je rfl) O O O (Ja (Vw hT O O O O) O O O (Ja (Jd rfl) O O O ?_))
    refine Jg ?_
    refine Jb ?_
    refine Jz rfl zbl ?_
    refine Jh ?_
    refine Jc ?_
    refine Ja (Je rfl) O O O ?_
    refine Ja ((by first | exact Jr rfl | exact Jn rfl | exact Jo rfl)) O O O ?_
    refine Ja (Ji hT O O O O O O) O O O ?_
    refine Ja (Jm hT O O O zrd) O O O ?_
    refine Ja (Jd rfl) O O O ?_
    refine Jg ?_
    refine Jb ?_
    refine Jz rfl zbl ?_
    refine Jh ?_
    refine Jc ?_
    refine Ja (Je rfl) O O O ?_
    refine Ja ((by first | exact Jr rfl | exact Jn rfl | exact Jo rfl)) O O O ?_
    refine Ja (Ji hT O O O O O O) O O O ?_
    refine Ja (Jm hT O O O zrd) O O O ?_
    refine Ja (Wa O O) O O O (Ja (Jd rfl) O O O ?_)
    refine Jg ?_
    refine Jb ?_
    refine Jz rfl zbl ?_
    refine Jh ?_
    refine Jc ?_
    refine Ja (Je rfl) O O O (Ja (Va hT O O O) O O O ?_)
    refine Ja (y_lssB O O hb1) O O O ?_
    refine Ja (Je rfl) O O O ?_
    all_goals (first | (refine Vj O O O (fun h => ?_) (fun h => ?_) <;> try (first | (exfalso; omega) | exact absurd rfl h)) | (refine Vz O O O (fun h => ?_) (fun h => ?_) <;> try (first | cases h | (exfalso; simp at h; done))) | skip)
    all_goals (first | refine Jt O O O O O O ?_ | refine Jq O O O O O ?_ | refine Ju O O O (Je rfl) O O ?_)
    all_goals (first | refine Jt O O O O O O ?_ | refine Jq O O O O O ?_ | refine Ju O O O (Va hT O O O) O O ?_)
    all_goals (first | refine Jt O O O O O O ?_ | refine Jq O O O O O ?_ | refine Ju O O O (y_gtr O O) O O ?_)
    all_goals (refine Ja (Wk O O O) O O O ?_)
    all_goals (refine Ja (Jd rfl) O O O ?_)
    all_goals refine Jg ?_
    all_goals refine Jb ?_
    all_goals
      refine Wp rfl zbl ?_
      refine Jh ?_
      refine Jc ?_
      refine Ja (y_build (cs := [_, _]) hT O O O O O O trivial rfl) O O O ?_
      refine Jj rfl (Vf hT O O O zln zoc zpk zln ?_)
      refine Ja (Jd rfl) O O O ?_
      refine Jg ?_
      refine Jb ?_
      refine Vi ?_
      refine Vl ?_
      refine Jw ?_
      refine Wb (.inl rfl) O O zrv zrv ?_
      exact ⟨rfl, fun w q => q.sup zsup⟩
  · refine Js (c := ?codeC) Tryz.func13 ?hb Tryz.ntmps13 ?hl ?_
    case hb => exact rfl
    case hl => exact rfl
    refine Jh ?_
    refine Jc ?_
    refine Jj rfl (Vt hT O O zcl rfl (fun b1 => ?_))
    refine Ja (Jd rfl) O O O ?_
    refine Jg ?_
    refine Jb ?_
    refine Jh ?_
    refine Vh ?_
    refine Jh ?_
    refine Jc ?_
    refine Ja (Je rfl) O O O (Ja (Vw hT O O O O) O O O (Ja (Jd rfl) O O O ?_))
    refine Jg ?_
    refine Jb ?_
    refine Jz rfl zbl ?_
    refine Jh ?_
    refine Jc ?_
    refine Ja (Je rfl) O O O ?_
    refine Ja ((by first | exact Jr rfl | exact Jn rfl | exact Jo rfl)) O O O ?_
    refine Ja (Ji hT O O O O O O) O O O ?_
    refine Ja (Jm hT O O O zrd) O O O ?_
    refine Ja (Jd rfl) O O O ?_
    refine Jg ?_
    refine Jb ?_
    refine Jz rfl zbl ?_
    refine Jh ?_
    refine Jc ?_
    refine Ja (Je rfl) O O O ?_
    refine Ja ((by first | exact Jr rfl | exact Jn rfl | exact Jo rfl)) O O O ?_
    refine Ja (Ji hT O O O O O O) O O O ?_
    refine Ja (Jm hT O O O zrd) O O O ?_
    refine Ja (Wa O O) O O O (Ja (Jd rfl) O O O ?_)
    refine Jg ?_
    refine Jb ?_
    refine Jz rfl zbl ?_
    refine Jh ?_
    refine Jc ?_
    refine Ja (Je rfl) O O O (Ja (Va hT O O O) O O O ?_)
    refine Ja (y_lssB O O hb1) O O O ?_
    refine Ja (Je rfl) O O O ?_
    all_goals (first | (refine Vj O O O (fun h => ?_) (fun h => ?_) <;> try (first | (exfalso; omega) | exact absurd rfl h)) | (refine Vz O O O (fun h => ?_) (fun h => ?_) <;> try (first | cases h | (exfalso; simp at h; done))) | skip)
    all_goals (first | refine Jt O O O O O O ?_ | refine Jq O O O O O ?_ | refine Ju O O O (Je rfl) O O ?_)
    all_goals (first | refine Jt O O O O O O ?_ | refine Jq O O O O O ?_ | refine Ju O O O (Va hT O O O) O O ?_)
    all_goals (first | refine Jt O O O O O O ?_ | refine Jq O O O O O ?_ | refine Ju O O O (y_gtr O O) O O ?_)
    all_goals (refine Ja (Wk O O O) O O O ?_)
    all_goals (refine Ja (Jd rfl) O O O ?_)
    all_goals refine Jg ?_
    all_goals refine Jb ?_
    all_goals
      refine Wp rfl zbl ?_
      refine Jh ?_
      refine Jc ?_
      refine Ja (y_build (cs := [_, _]) hT O O O O O O trivial rfl) O O O ?_
      refine Jj rfl (Vf hT O O O zln zoc zpk zln ?_)
      refine Ja (Jd rfl) O O O ?_
      refine Jg ?_
      refine Jb ?_
      refine Vi ?_
      refine Vl ?_
      refine Jw ?_
      refine Wb (.inl rfl) O O zrv zrv ?_
      exact ⟨rfl, fun w q => q.sup zsup⟩
theorem es_announce {M i : Nat} (s : ES) (h : s.Ok M i) (hi : i ≤ 100) (hM : 64 ≤ M) (m : Nat) :
    ∃ (s' : ES) (e : Int) (r : BitVec 64) (n1 : Nat), (∀ g, ({ s' with g := g } : ES).Ok M (i + 1)) ∧ s'.x = s.x ∧ ((e = 0 ∧ r = s'.last ∧ n1 = m) ∨ (e ≠ 0 ∧ r = 0#64 ∧ n1 = 0)) ∧
      (∀ (d : Nat) (p : Option Addr) (c : Nat) l, InL l p m c ((keysL m).flatMap (ints .u8)) → Fc prog E 13 [.pointer (some ⟨s.x, 0, none⟩), .slice p m c].toArray (s.H d :: l) (fun v l' => ∃ a c g, v = .tuple #[.agg #[Q r, .slice a n1 c], .int .i64 e] ∧ l' = own 73 32 (.slice a n1 c) n1 ((keysL n1).flatMap (ints .u8)) :: ({ s' with g := g } : ES).H d :: l)) ∧
      (∀ ga gc vals K, RGot K s.last s.G.length ga gc vals s.G → ∃ ga' gc' vals', RGot K s'.last s'.G.length ga' gc' vals' s'.G ∧ ∀ l, Fc prog E 31 [.agg (eV s.last s.ph s.hops ga s.G.length gc).toArray, .int .i64 m].toArray l (fun v l' => v = .tuple #[.agg (eV s'.last s'.ph s'.hops ga' s'.G.length gc').toArray, .int .i64 e] ∧ l' = l)) := by
  by_cases hp : s.ph = 0
  · obtain ⟨e1, e2⟩ := ES.idle hp
    by_cases hm : m < 1 ∨ 3 < m
    · refine ⟨s, 241, 0#64, 0, fun g => ?_, rfl, .inr ⟨by decide, rfl, rfl⟩, fun d p c l hin => ?_, fun ga gc vals K hr => ⟨ga, gc, vals, hr, fun l => ?_⟩⟩
      · have k := h.mono (Nat.le_succ i)
        exact ⟨k.lh, k.num, k.turn, k.low, k.len, k.phase, k.placed, k.keys, k.size, k.byt, k.few⟩
      · refine Wh (ES.open ?_)
        have z := announce_field E s.x s.lg s.last s.hops s.got p c m
        rw [← hp] at z
        refine (z _ hm).mono fun v l' ⟨h1, h2⟩ => ⟨own 73 32 (.slice none 0 0) 0 [] :: s.H d :: l, fun w q => Sat.own_nil (s.shut (by subst h2; exact q)), none, 0, s.g, h1, rfl⟩
      · refine (rannounce_spec E s.last s.ph s.hops m ga s.G.length gc l).mono fun v l' ⟨h1, h2⟩ => ⟨?_, h2⟩
        rw [h1, if_neg (by omega), if_pos (by omega)]
    · have hl : s.last + 1#64 ≠ 0#64 ∧ (s.last + 1#64).toNat = s.last.toNat + 1 := by
        have hlow := h.low
        have e : (s.last + 1#64).toNat = s.last.toNat + 1 := by
          rw [BitVec.toNat_add]
          show (s.last.toNat + 1) % 18446744073709551616 = _
          omega
        refine ⟨fun z => ?_, e⟩
        rw [z] at e
        cases e
      have htn := h.turn
      obtain ⟨A, Sa, D', hL, hA, hSt, hDl, hc⟩ := announce_any E h.lh h.num hl.1 (by omega) (by rw [h.len]; exact hM)
      refine ⟨{ s with S := Sa, D := D', L := A, last := s.last + 1#64, ph := 1, hops := m, G := [] }, 0, s.last + 1#64, m, fun g => ?_, rfl, .inl ⟨rfl, rfl, rfl⟩, fun d p c l hin => ?_, fun ga gc vals K hr => ⟨none, 0, [], RGot.none, fun l => ?_⟩⟩
      · have hlow := h.low
        exact ⟨hL, hA, by dsimp only; omega, by dsimp only; omega, hDl.trans h.len, .inr ⟨.inl rfl, by dsimp only; omega, by dsimp only; omega⟩, List.Pairwise.nil, fun p hp => (by cases hp), fun p hp => (by cases hp), fun p hp => (by cases hp), Nat.zero_le _⟩
      · refine Wh (ES.open ?_)
        rw [hp]
        have z := hc s.x s.lg s.st d s.hops s.got p c m (keysL m) (s.gotP :: l) (keysL_length m) (by omega) (by omega) keyB_mem (hin.cons _)
        refine (Wm (p := [entR s.x s.lg false s.last 0 s.hops s.got, logm s.lg s.st s.L, row s.st 224 (scells s.S d), disk d s.D]) (Jk zpk (Jk zpk (Jk zpk (Jk zpk Jl)))) z).mono fun v l' ⟨a, c', g, h1, h2⟩ => ?_
        refine ⟨own 73 32 (.slice a m c') m ((keysL m).flatMap (ints .u8)) :: ({ s with g := g, S := Sa, D := D', L := A, last := s.last + 1#64, ph := 1, hops := m, G := [] } : ES).H d :: l, fun w q => ?_, a, c', g, h1, rfl⟩
        subst h2
        have q1 : Sat E (stars (blk g (.map #[] 0) :: own 73 32 (.slice a m c') m ((keysL m).flatMap (ints .u8)) :: entR s.x s.lg false (s.last + 1#64) 1 m (.map (some g)) :: logm s.lg s.st A :: row s.st 224 (scells Sa d) :: disk d D' :: l)) w := q.sup zsup
        have q2 := gotM_new q1
        have q3 : Sat E (stars (entR s.x s.lg false (s.last + 1#64) 1 m (.map (some g)) :: gotM g [] :: logm s.lg s.st A :: row s.st 224 (scells Sa d) :: disk d D' :: own 73 32 (.slice a m c') m ((keysL m).flatMap (ints .u8)) :: l)) w := q2.sup zsup
        have q4 := ES.shut (d := d) { s with g := g, S := Sa, D := D', L := A, last := s.last + 1#64, ph := 1, hops := m, G := [] } q3
        exact q4.sup zsup
      · refine (rannounce_spec E s.last s.ph s.hops m ga s.G.length gc l).mono fun v l' ⟨h1, h2⟩ => ⟨?_, h2⟩
        rw [h1, if_neg (by omega), if_neg (by omega)]
        rfl
  · refine ⟨s, 321, 0#64, 0, fun g => ?_, rfl, .inr ⟨by decide, rfl, rfl⟩, fun d p c l hin => ?_, fun ga gc vals K hr => ⟨ga, gc, vals, hr, fun l => ?_⟩⟩
    · have k := h.mono (Nat.le_succ i)
      exact ⟨k.lh, k.num, k.turn, k.low, k.len, k.phase, k.placed, k.keys, k.size, k.byt, k.few⟩
    · refine Wh (ES.open ?_)
      exact (announce_open E s.x s.lg s.last s.ph s.hops s.got hp _ _).mono fun v l' ⟨h1, h2⟩ => ⟨own 73 32 (.slice none 0 0) 0 [] :: s.H d :: l, fun w q => Sat.own_nil (s.shut (by subst h2; exact q)), none, 0, s.g, h1, rfl⟩
    · refine (rannounce_spec E s.last s.ph s.hops m ga s.G.length gc l).mono fun v l' ⟨h1, h2⟩ => ⟨?_, h2⟩
      rw [h1, if_pos hp]
end
end Go.Proofs.YtimekohdlofmaaaGreat
/- Onions collected, batches told, replies fanned out, an entry opened anew: the entry and the document side by side. -/
namespace Go.Proofs.YtimekohdlofmaaaGreat
open Go Go.SL
theorem colE_zero {last : BitVec 64} {hops : Int} {G : List (Int × List Int)} {bs : List Int} (h : colE last hops G bs = 0) : upE bs = 0 ∧ ¬ ∃ p ∈ G, p.1 = placeN bs := by
  unfold colE at h
  split at h
  · rename_i hu; exact absurd h hu
  · rename_i hu
    split at h
    · cases h
    · split at h
      · cases h
      · split at h
        · cases h
        · rename_i hn
          exact ⟨by simpa using hu, hn⟩
section
attribute [local irreducible] J JL JE JM LS Y Fc RV Code.wp wpList Code.wpIn wpListIn
attribute [local irreducible] Yc
variable (E : World)
theorem es_collect {M i : Nat} (s : ES) (h : s.Ok M i) (hi : i ≤ 100) (bs : List Int) (n : Nat) (hn : bs.length = n) (hn2 : n ≤ 1000000) (hb : Bytes bs) :
    ∃ (s' : ES) (e : Int), s'.Ok M (i + 1) ∧ s'.x = s.x ∧
      (∀ (d : Nat) (p : Option Addr) (c : Nat) l, InL l p n c (ints .u8 bs) → Fc prog E 20 [.pointer (some ⟨s.x, 0, none⟩), .slice p n c].toArray (s.H d :: l) (fun v l' => v = .int .i64 e ∧ l' = s'.H d :: l)) ∧
      (∀ ga gc vals K, RGot K s.last s.G.length ga gc vals s.G → ∀ (p : Option Addr) (c : Nat) l, InL l p n c (ints .u8 bs) → Fc prog E 33 [.agg (eV s.last s.ph s.hops ga s.G.length gc).toArray, .slice p n c].toArray (K :: l) (fun v l' => ∃ ga' gc' vals' K', RGot K' s'.last s'.G.length ga' gc' vals' s'.G ∧ v = .tuple #[.agg (eV s'.last s'.ph s'.hops ga' s'.G.length gc').toArray, .int .i64 e] ∧ l' = K' :: l)) := by
  by_cases hp : s.ph = 1
  · obtain ⟨e1, e2⟩ := ES.busy (s := s) (by omega)
    have hh : 1 ≤ s.hops ∧ s.hops ≤ 3 := by
      rcases h.phase with ⟨z, _, _⟩ | ⟨_, z⟩
      · omega
      · exact z
    have hent : ∀ (d : Nat) (p : Option Addr) (c : Nat) l, InL l p n c (ints .u8 bs) → Fc prog E 20 [.pointer (some ⟨s.x, 0, none⟩), .slice p n c].toArray (s.H d :: l) (fun v l' => v = .int .i64 (colE s.last s.hops s.G bs) ∧ l' = ({ s with G := colG s.last s.hops s.G bs } : ES).H d :: l) := fun d p c l hin => by
      have f1 : ({ s with G := colG s.last s.hops s.G bs } : ES).got = .map (some s.g) := if_neg (by dsimp only; omega)
      have f2 : ({ s with G := colG s.last s.hops s.G bs } : ES).gotP = gotM s.g (colG s.last s.hops s.G bs) := if_neg (by dsimp only; omega)
      have key : ∀ w, Sat E (stars (entR s.x s.lg false s.last 1 s.hops (.map (some s.g)) :: gotM s.g (colG s.last s.hops s.G bs) :: logm s.lg s.st s.L :: row s.st 224 (scells s.S d) :: disk d s.D :: l)) w → Sat E (stars (({ s with G := colG s.last s.hops s.G bs } : ES).H d :: l)) w := fun w q => ES.shut { s with G := colG s.last s.hops s.G bs } (by
        rw [f1, f2]
        dsimp only
        rw [hp]
        exact q)
      refine Wo (ES.open (Fc.imp ((ecollect_spec E s.x s.lg s.g s.last s.hops s.G p c n bs (logm s.lg s.st s.L :: row s.st 224 (scells s.S d) :: disk d s.D :: l) hn (by omega) hb (((hin.cons _).cons _).cons _)).mono fun v l' ⟨h1, h2⟩ => ⟨h1, fun w q => key w (by subst h2; exact q)⟩) fun w q => ?_))
      rw [e1, e2, hp] at q
      exact q
    by_cases hE : colE s.last s.hops s.G bs = 0
    · obtain ⟨hu, hnot⟩ := colE_zero hE
      have hcs : 0 ≤ bs.getD 1 0 ∧ bs.getD 1 0 < 4 ∧ 0 ≤ bs.getD 2 0 ∧ bs.getD 2 0 < 3 ∧ 0 < (roundN bs).toNat := of_decide_eq_true (upE_zero hu).2.2
      have hcG : colG s.last s.hops s.G bs = (placeN bs, bs.drop 11) :: s.G := if_pos hE
      have hlen : (insP (placeN bs, bs.drop 11) s.G).length = s.G.length + 1 := (insP_perm _ _).length_eq
      have hmem : ∀ {Q : Int × List Int → Prop}, Q (placeN bs, bs.drop 11) → (∀ p ∈ s.G, Q p) → ∀ p ∈ insP (placeN bs, bs.drop 11) s.G, Q p := fun h1 h2 p hp => by
        rcases insP_mem.1 hp with rfl | q
        · exact h1
        · exact h2 p q
      have hfew := h.few
      refine ⟨{ s with G := insP (placeN bs, bs.drop 11) s.G }, 0, ⟨h.lh, h.num, Nat.le_succ_of_le h.turn, Nat.le_succ_of_le h.low, h.len, .inr ⟨.inl hp, hh⟩, insP_placed h.placed (fun q hq e => hnot ⟨q, hq, e⟩), hmem (by unfold placeN; dsimp only; omega) h.keys, hmem (by dsimp only; rw [List.length_drop]; omega) h.size, hmem (fun y hy => hb y (List.mem_of_mem_drop hy)) h.byt, by dsimp only; rw [hlen]; omega⟩, rfl, fun d p c l hin => ?_, fun ga gc vals K hr p c l hin => ?_⟩
      · refine Wo ((hent d p c l hin).mono fun v l' ⟨h1, h2⟩ => ⟨by rw [h1, hE], fun w q => ?_⟩)
        subst h2
        have f1 : ({ s with G := colG s.last s.hops s.G bs } : ES).gotP = gotM s.g (colG s.last s.hops s.G bs) := if_neg (by dsimp only; omega)
        have f2 : ({ s with G := insP (placeN bs, bs.drop 11) s.G } : ES).gotP = gotM s.g (insP (placeN bs, bs.drop 11) s.G) := if_neg (by dsimp only; omega)
        have q1 := Sat.unfold (m := ({ s with G := colG s.last s.hops s.G bs } : ES).parts d) q
        have q2 : Sat E (stars (gotM s.g (colG s.last s.hops s.G bs) :: entR s.x s.lg false s.last s.ph s.hops s.got :: logm s.lg s.st s.L :: row s.st 224 (scells s.S d) :: disk d s.D :: l)) w := by
          rw [← f1]
          exact q1.pick (Vc Jp)
        have q3 := gotM_perm (G' := insP (placeN bs, bs.drop 11) s.G) (by rw [hcG]; exact (insP_perm _ _).symm) q2
        refine ES.shut { s with G := insP (placeN bs, bs.drop 11) s.G } ?_
        rw [f2]
        exact q3.unpick (Vc Jp)
      · have z := rcollect_spec E s.last s.hops ga s.G.length gc vals K s.G p c n bs l hr hh.1 hh.2 hn hn2 hb hin
        rw [hp]
        refine z.mono fun v l' q => ?_
        rcases q with ⟨q, _⟩ | ⟨_, ga', gc', vals', K', q1, q2, q3⟩
        · exact absurd hE q
        · exact ⟨ga', gc', vals', K', by dsimp only; rw [hlen]; exact q3 (by omega), by dsimp only; rw [q1, hlen], q2⟩
    · have hcG : colG s.last s.hops s.G bs = s.G := if_neg hE
      refine ⟨s, colE s.last s.hops s.G bs, h.mono (Nat.le_succ i), rfl, fun d p c l hin => ?_, fun ga gc vals K hr p c l hin => ?_⟩
      · have z := hent d p c l hin
        rw [hcG] at z
        exact z
      · have z := rcollect_spec E s.last s.hops ga s.G.length gc vals K s.G p c n bs l hr hh.1 hh.2 hn hn2 hb hin
        rw [hp]
        refine z.mono fun v l' q => ?_
        rcases q with ⟨_, q1, q2⟩ | ⟨q, _⟩
        · exact ⟨ga, gc, vals, K, hr, q1, q2⟩
        · exact absurd q hE
  · refine ⟨s, 322, h.mono (Nat.le_succ i), rfl, fun d p c l hin => ?_, fun ga gc vals K hr p c l hin => ?_⟩
    · refine Wo (ES.open ?_)
      exact (ecollect_shut E s.x s.lg s.last s.ph s.hops s.got hp _ _).mono fun v l' ⟨h1, h2⟩ => ⟨h1, fun w q => s.shut (by subst h2; exact q)⟩
    · exact (rcollect_shut E s.last s.ph s.hops ga s.G.length gc hp _ (K :: l)).mono fun v l' ⟨h1, h2⟩ => ⟨ga, gc, vals, K, hr, h1, h2⟩
theorem es_close {M i : Nat} (s : ES) (h : s.Ok M i) (hi : i ≤ 100) :
    ∃ (s' : ES) (e : Int) (bs : List (List Int)) (n1 : Nat), s'.Ok M (i + 1) ∧ s'.x = s.x ∧ bs.length = n1 ∧ n1 ≤ 1000 ∧ (∀ b ∈ bs, Bytes b) ∧
      (∀ (d : Nat) l, Fc prog E 15 [.pointer (some ⟨s.x, 0, none⟩)].toArray (s.H d :: l) (fun v l' => ∃ a c vs KC, v = .tuple #[.slice a n1 c, .int .i64 e] ∧ vs.length = n1 ∧ TxB KC vs bs ∧ l' = own 22 1 (.slice a n1 c) n1 vs :: KC :: s'.H d :: l)) ∧
      (∀ ga gc vals K, RGot K s.last s.G.length ga gc vals s.G → RGot K s'.last s'.G.length ga gc vals s'.G ∧ ∃ vals1, TxB K vals1 bs ∧ ∀ l, Fc prog E 34 [.agg (eV s.last s.ph s.hops ga s.G.length gc).toArray].toArray (K :: l) (fun v l' => ∃ a c, v = .tuple #[.agg (eV s'.last s'.ph s'.hops ga s'.G.length gc).toArray, .slice a n1 c, .int .i64 e] ∧ l' = own 22 1 (.slice a n1 c) n1 vals1 :: K :: l)) := by
  have hfew := h.few
  by_cases hp : s.ph = 1
  · obtain ⟨e1, e2⟩ := ES.busy (s := s) (by omega)
    have hh : 1 ≤ s.hops ∧ s.hops ≤ 3 := by
      rcases h.phase with ⟨z, _, _⟩ | ⟨_, z⟩
      · omega
      · exact z
    refine ⟨{ s with ph := 2 }, 0, s.G.map (·.2), s.G.length, ⟨h.lh, h.num, Nat.le_succ_of_le h.turn, Nat.le_succ_of_le h.low, h.len, .inr ⟨.inr rfl, hh⟩, h.placed, h.keys, h.size, h.byt, Nat.le_succ_of_le h.few⟩, rfl, by simp, by omega, fun b hb => ?_, fun d l => ?_, fun ga gc vals K hr => ⟨hr, vals, hr.txs, fun l => ?_⟩⟩
    · obtain ⟨p, hp, rfl⟩ := List.mem_map.1 hb
      exact h.byt p hp
    · refine Wh (Fc.mono (Fc.know (R' := fun v l' => ∃ a c vs, v = .tuple #[.slice a s.G.length c, .int .i64 0] ∧ vs.length = s.G.length ∧ TxB (stars (owns vs (s.G.map (·.2)))) vs (s.G.map (·.2)) ∧ l' = own 22 1 (.slice a s.G.length c) s.G.length vs :: (owns vs (s.G.map (·.2)) ++ (({ s with ph := 2 } : ES).parts d ++ l))) (R := fun v l' => ∃ a c vs, v = .tuple #[.slice a s.G.length c, .int .i64 0] ∧ vs.length = s.G.length ∧ l' = own 22 1 (.slice a s.G.length c) s.G.length vs :: (owns vs (s.G.map (·.2)) ++ (({ s with ph := 2 } : ES).parts d ++ l))) ?_ ?_) ?_)
      · refine ES.open ?_
        rw [e1, e2, hp]
        exact (eclose_spec E s.x s.lg s.g s.G.length s.last s.hops s.G _ rfl h.placed h.twelve h.size).mono fun v l' ⟨a, c, vs, h1, h2, h3⟩ => ⟨a, c, vs, h1, h2, h3⟩
      · rintro v l' w ⟨a, c, vs, h1, h2, h3⟩ q
        exact ⟨a, c, vs, h1, h2, owns_txb (r := ({ s with ph := 2 } : ES).parts d ++ l) (by rw [List.length_map]; exact h2) (by subst h3; exact q.drop), h3⟩
      · rintro v l' ⟨a, c, vs, h1, h2, h3, h4⟩
        refine ⟨own 22 1 (.slice a s.G.length c) s.G.length vs :: stars (owns vs (s.G.map (·.2))) :: ({ s with ph := 2 } : ES).H d :: l, fun w q => ?_, a, c, vs, _, h1, h2, h3, rfl⟩
        subst h4
        have q1 := Sat.rot (p := [own 22 1 (.slice a s.G.length c) s.G.length vs]) (g := owns vs (s.G.map (·.2))) q
        have q2 := Sat.fold (m := owns vs (s.G.map (·.2))) q1
        have q3 := Sat.rot (p := [stars (owns vs (s.G.map (·.2))), own 22 1 (.slice a s.G.length c) s.G.length vs]) (g := ({ s with ph := 2 } : ES).parts d) q2
        have q4 := Sat.fold (m := ({ s with ph := 2 } : ES).parts d) q3
        exact q4.sup zsup
    · have z := rclose_spec E s.last s.hops ga s.G.length gc vals K s.G l hr
      rw [hp]
      exact z
  · refine ⟨s, 322, [], 0, h.mono (Nat.le_succ i), rfl, rfl, by omega, fun b hb => (by cases hb), fun d l => ?_, fun ga gc vals K hr => ⟨hr, [], ⟨rfl, fun i b h => by simp at h⟩, fun l => ?_⟩⟩
    · refine Wh (ES.open ?_)
      exact (eclose_shut E s.x s.lg s.last s.ph s.hops s.got hp _).mono fun v l' ⟨h1, h2⟩ => ⟨own 22 1 (.slice none 0 0) 0 [] :: pur True :: s.H d :: l, fun w q => Sat.own_nil (Sat.topur trivial (s.shut (by subst h2; exact q))), none, 0, [], pur True, h1, rfl, ⟨rfl, fun i b h => by simp at h⟩, rfl⟩
    · refine Wh ((rclose_shut E s.last s.ph s.hops ga s.G.length gc hp (K :: l)).mono fun v l' ⟨h1, h2⟩ => ⟨own 22 1 (.slice none 0 0) 0 [] :: K :: l, fun w q => Sat.own_nil (by subst h2; exact q), none, 0, h1, rfl⟩)
theorem es_fans {M i : Nat} (s : ES) (h : s.Ok M i) (hi : i ≤ 100) (o : Op22) :
    ∃ (s' : ES), s'.Ok M (i + 1) ∧ s'.x = s.x ∧
      (∀ ga gc vals K, RGot K s.last s.G.length ga gc vals s.G → ∃ ga' gc' vals', RGot K s'.last s'.G.length ga' gc' vals' s'.G ∧ ∀ (d : Nat) l, Fc prog E 35 [.pointer (some ⟨s.x, 0, none⟩), .agg (eV s.last s.ph s.hops ga s.G.length gc).toArray, .agg (op22 o).toArray].toArray (s.H d :: K :: l) (fun v l' => v = .tuple #[.agg (eV s'.last s'.ph s'.hops ga' s'.G.length gc').toArray, .bool true] ∧ l' = s'.H d :: K :: l)) := by
  have hfew := h.few
  have hh := h.hops3
  have hup := h.mono (Nat.le_succ i)
  by_cases hp : s.ph = 2
  · obtain ⟨e1, e2⟩ := ES.busy (s := s) (by omega)
    have hh1 : 1 ≤ s.hops := by
      rcases h.phase with ⟨z, _, _⟩ | ⟨_, z⟩
      · omega
      · exact z.1
    by_cases hc : o.rcount s.G.length = s.G.length
    · by_cases hr2 : ∀ b ∈ o.reps s.G.length s.hops, (b.length : Int) = replyN s.hops
      · refine ⟨s.over, hup.over, rfl, fun ga gc vals K hr => ⟨none, 0, [], RGot.none, fun d l => ?_⟩⟩
        refine Wo (ES.open ?_)
        rw [e1, e2, hp]
        have z := fans_ok E s.x s.lg s.g s.last s.hops s.G ga s.G.length gc o (logm s.lg s.st s.L :: row s.st 224 (scells s.S d) :: disk d s.D :: l) rfl hc vals K hr h.placed hh1 hr2 hh.1 hh.2 h.twelve
        refine (Wm (p := [entR s.x s.lg false s.last 2 s.hops (.map (some s.g)), gotM s.g s.G, K]) (Jk zpk (Jk zpk (Jk zpk Jl))) z).mono fun v l' ⟨h1, h2⟩ => ⟨h1, fun w q => ?_⟩
        subst h2
        have q1 : Sat E (stars (entR s.x s.lg false s.last 0 0 (.map none) :: logm s.lg s.st s.L :: row s.st 224 (scells s.S d) :: disk d s.D :: K :: l)) w := q.sup zsup
        exact s.over.shut ((Sat.topur trivial q1).pick (Vc Jp))
      · refine ⟨s, hup, rfl, fun ga gc vals K hr => ⟨ga, gc, vals, hr, fun d l => ?_⟩⟩
        refine Wo (ES.open ?_)
        rw [e1, e2, hp]
        have z := fans_size E s.x s.lg s.g s.last s.hops s.G ga s.G.length gc o (logm s.lg s.st s.L :: row s.st 224 (scells s.S d) :: disk d s.D :: l) rfl hc vals K hr h.placed hh1 hr2 hh.1 hh.2 h.twelve
        refine (Wm (p := [entR s.x s.lg false s.last 2 s.hops (.map (some s.g)), gotM s.g s.G, K]) (Jk zpk (Jk zpk (Jk zpk Jl))) z).mono fun v l' ⟨h1, h2⟩ => ⟨h1, fun w q => ?_⟩
        subst h2
        have q1 : Sat E (stars (entR s.x s.lg false s.last 2 s.hops (.map (some s.g)) :: gotM s.g s.G :: logm s.lg s.st s.L :: row s.st 224 (scells s.S d) :: disk d s.D :: K :: l)) w := q.sup zsup
        exact s.shut (by rw [e1, e2, hp]; exact q1)
    · refine ⟨s, hup, rfl, fun ga gc vals K hr => ⟨ga, gc, vals, hr, fun d l => ?_⟩⟩
      refine Wo (ES.open ?_)
      rw [e1, e2, hp]
      refine (fans_few E s.x s.lg s.g s.last s.hops s.G ga s.G.length gc o _ rfl hc hh.1 hh.2 (by omega)).mono fun v l' ⟨h1, h2⟩ => ⟨h1, fun w q => ?_⟩
      subst h2
      exact s.shut (by rw [e1, e2, hp]; exact q)
  · refine ⟨s, hup, rfl, fun ga gc vals K hr => ⟨ga, gc, vals, hr, fun d l => ?_⟩⟩
    refine Wo (ES.open ?_)
    exact (fans_shut E s.x s.lg s.last s.ph s.hops s.got ga s.G.length gc o _ hp hh.1 hh.2 (by omega)).mono fun v l' ⟨h1, h2⟩ => ⟨h1, fun w q => s.shut (by subst h2; exact q)⟩
theorem es_open {M i : Nat} (s : ES) (h : s.Ok M i) (hM : 64 ≤ M) (d : Nat) (l : List HProp) : Fc prog E 12 [.pointer (some ⟨d, 0, none⟩)].toArray (s.H d :: l) (fun v l' => ∃ x lg st, v = .tuple #[.pointer (some ⟨x, 0, none⟩), .int .i64 0] ∧ l' = ({ s.over with x := x, lg := lg, st := st } : ES).H d :: l) := by
  refine Wh (ES.open ?_)
  have z := eopen_lh E d h.lh (by rw [h.len]; exact hM) none (entR s.x s.lg false s.last s.ph s.hops s.got :: s.gotP :: logm s.lg s.st s.L :: row s.st 224 (scells s.S d) :: l)
  refine (Wm (p := [disk d s.D]) (Jk zpk Jl) z).mono fun v l' q => ?_
  rcases q with ⟨n, x, lg, st, f1, f2, f3⟩ | ⟨f1, _⟩
  · rw [h.num] at f1
    cases f1
    refine ⟨({ s.over with x := x, lg := lg, st := st } : ES).H d :: l, fun w q => ?_, x, lg, st, f2, rfl⟩
    subst f3
    have q1 : Sat E (stars (entR x lg false s.last 0 0 (.map none) :: logm lg st s.L :: row st 224 (scells s.S d) :: disk d s.D :: l)) w := q.sup zsup
    exact ES.shut { s.over with x := x, lg := lg, st := st } ((Sat.topur trivial q1).pick (Vc Jp))
  · rw [h.num] at f1; cases f1
theorem new_find {M : Nat} (j : Nat) (hj : j < M) : (Dk.new M).find j = zeroB := by
  simp only [Dk.find, Dk.new, List.reverse_nil, List.find?_nil, Int.toNat_natCast]
  rw [List.getD_eq_getElem?_getD, List.getElem?_replicate, if_pos hj]
  rfl
theorem new_counts {M : Nat} (h : 2 ≤ M) : (Dk.new M).counts = none := by
  have h0 : (Dk.new M).find 0 = zeroB := new_find 0 (by omega)
  have h1 : (Dk.new M).find 1 = zeroB := new_find 1 (by omega)
  have hz : sbOk zeroB = false := by decide +kernel
  simp only [Dk.counts, h0, h1, hz, Bool.false_eq_true, if_false]
theorem es_new {M : Nat} (h1 : 64 ≤ M) (h2 : M ≤ 512) (d : Nat) (l : List HProp) : Fc prog E 12 [.pointer (some ⟨d, 0, none⟩)].toArray (disk d (Dk.new M) :: l) (fun v l' => ∃ s : ES, s.Ok M 0 ∧ s.last = 0#64 ∧ s.ph = 0 ∧ s.hops = 0 ∧ s.G = [] ∧ v = .tuple #[.pointer (some ⟨s.x, 0, none⟩), .int .i64 0] ∧ l' = s.H d :: l) := by
  obtain ⟨hL, hl⟩ := lh_format h1 h2
  have hu : Up (Dk.new M) := new_up (by omega) h2
  have hlen : (Dk.new M).safe.length = M := by simp [Dk.new]
  have hsb : (sbBlock sb0).length = 64 := sbBlock_length sb0_hash
  have w1 := hu.write (sbBlock sb0) (i := 0) (by omega)
  have hu1 := hu.push (i := 0) (b := sbBlock sb0) (by omega) hsb
  have hl1 : ((Dk.new M).does.push 0 (sbBlock sb0)).safe.length = M := hlen
  have w2 := hu1.write zeroB (i := 1) (by omega)
  have hu2 := hu1.push (i := 1) (b := zeroB) (by omega) rfl
  have w3 : (((Dk.new M).does.push 0 (sbBlock sb0)).does.push 1 zeroB).sync = ((Dk.new M).formatted, 0) := by
    rw [Dk.sync, if_neg (by rw [hu2.dead]; simp), if_neg (by rw [hu2.armed]; simp)]
    rfl
  have hF : formatF (Dk.new M) = ((Dk.new M).formatted, 0) := by
    unfold formatF
    rw [w1]
    dsimp only
    rw [if_pos rfl, w2]
    dsimp only
    rw [if_pos rfl, w3]
  have hst : ∀ l, Fc prog E 61 [.pointer (some ⟨d, 0, none⟩)].toArray (disk d (Dk.new M) :: l) (fun v l' => ∃ st, v = .tuple #[.pointer (some ⟨st, 0, none⟩), .int .i64 0] ∧ l' = row st 224 (scells sb0 d) :: disk d (Dk.new M).formatted :: l) := fun l => by
    have q := storeF_spec E d (Dk.new M) l (by rw [hlen]; exact h1) hu.dead (by simp [Dk.new]) (new_counts (by omega))
    rw [hF] at q
    refine q.mono fun v l' q => ?_
    rcases q with ⟨_, q⟩ | ⟨q, _⟩
    · exact q
    · exact absurd rfl q
  refine Wh ((eopen_spec E d sb0 (Dk.new M) (Dk.new M).formatted lg0 hst (fun st l => lopenA_spec E st d sb0 _ lg0 none l hL) l).mono fun v l' q => ?_)
  rcases q with ⟨n, x, lg, st, f1, f2, f3⟩ | ⟨f1, _⟩
  · rw [entryN_lg0] at f1
    cases f1
    refine ⟨(ES.mk x lg st 0 sb0 (Dk.new M).formatted lg0 0#64 0 0 []).H d :: l, fun w q => ?_, ES.mk x lg st 0 sb0 (Dk.new M).formatted lg0 0#64 0 0 [], ⟨hL, entryN_lg0, Nat.le_refl _, Nat.le_refl _, hl, .inl ⟨rfl, rfl, rfl⟩, List.Pairwise.nil, fun p hp => (by cases hp), fun p hp => (by cases hp), fun p hp => (by cases hp), Nat.le_refl _⟩, rfl, rfl, rfl, rfl, f2, rfl⟩
    subst f3
    exact ES.shut (ES.mk x lg st 0 sb0 (Dk.new M).formatted lg0 0#64 0 0 []) ((Sat.topur trivial q).pick (Vc Jp))
  · rw [entryN_lg0] at f1; cases f1
end
end Go.Proofs.YtimekohdlofmaaaGreat
/- What the law hands to an entry: the bytes that are collected, and where they lie. -/
namespace Go.Proofs.YtimekohdlofmaaaGreat
open Go Go.SL
section
attribute [local irreducible] J JL JE JM LS Y Fc RV Code.wp wpList Code.wpIn wpListIn
attribute [local irreducible] Yc
variable (E : World)
theorem packet2_spec (o : Op22) (last : BitVec 64) (K0 : HProp) (l : List HProp) (ho : o.Ok [K0]) :
    Fc prog E 32 [.agg (op22 o).toArray, Q last].toArray l (fun v l' => ∃ q c Kp, v = .slice q (o.b last).length c ∧ l' = Kp :: l ∧ (InL [Kp] q (o.b last).length c (ints .u8 (o.b last)) ∨ InL [K0] q (o.b last).length c (ints .u8 (o.b last)))) := by
  refine Wh ?_
  have hu8 : ∀ x : Int, IntKind.u8.wrap x = x % 256 := fun x => by simp [IntKind.wrap, IntKind.bits, IntKind.signed]
  by_cases h0 : o.raw.length = 0
  · obtain ⟨cnt, hcnt⟩ : ∃ cnt, (min (max o.size 0) 400).toNat = cnt := ⟨_, rfl⟩
    obtain ⟨x, hx⟩ : ∃ x, last + BitVec.ofInt 64 o.off = x := ⟨_, rfl⟩
    have hob : o.b last = [2, o.client % 256, o.slot % 256] ++ leB 8 x ++ List.replicate cnt o.fill := by unfold Op22.b; rw [if_pos h0, hcnt, hx]
    have hl11 : (o.b last).length = 11 + cnt := by rw [hob]; simp [leB_length]; omega
    have hd : decide ((0 : Int) < (o.raw.length : Int)) = false := decide_eq_false (by omega)
    rw [hl11, hob]
    refine Js (c := ?codeC) Tryz.func32 ?hb Tryz.ntmps32 ?hl ?_
    case hb => exact rfl
    case hl => exact rfl
    refine Jh ?_
    refine Jc ?_
    refine Jj rfl (l_box (cs := op22 o) O O O (fun bo => ?_))
    refine Ja (Jd rfl) O O O ?_
    refine Jg ?_
    refine Jb ?_
    refine Jh ?_
    refine Jh ?_
    refine Jc ?_
    refine Ja (Ji hT O O O O O O) O O O ?_
    refine Ja (Jm hT O O O zrd) O O O ?_
    refine Ja (Va hT O O O) O O O (Ja (y_gtr O O) O O O ?_)
    refine Jg ?_
    refine Jb ?_
    refine Jz rfl zbl ?_
    refine Ve ?_
    refine Jb ?_
    refine Jh ?_
    refine Jc ?_
    refine Ja (Ji hT O O O O O O) O O O ?_
    refine Ja (Jm hT O O O zrd) O O O ?_
    refine Ja (y_conv (m := o.client % 256) hT O O O O (hu8 _)) O O O ?_
    refine Ja (Ji hT O O O O O O) O O O ?_
    refine Ja (Jm hT O O O zrd) O O O ?_
    refine Ja (y_conv (m := o.slot % 256) hT O O O O (hu8 _)) O O O ?_
    refine Jj rfl (l_buildSliceP (cs := ints .u8 [2, o.client % 256, o.slot % 256]) hT O O O O O O O (fill_b3 _ _ _ _) rfl (fun b3 => ?_))
    refine Ja (Jd rfl) O O O ?_
    refine Jg ?_
    refine Jb ?_
    refine Jh ?_
    refine Jc ?_
    refine Ja (Je rfl) O O O (Ja (Ji hT O O O O O O) O O O ?_)
    refine Ja (Jm hT O O O zrd) O O O ?_
    refine Ja ((by first | exact y_convToQ hT O O O O | exact y_conv hT O O O O zwr)) O O O ?_
    refine Ja ((by first | exact y_addQ O O | exact Wg O O zwr)) O O O ?_
    refine Ja (Jd rfl) O O O ?_
    refine Jg ?_
    refine Jb ?_
    refine Jh ?_
    refine Jh ?_
    refine Jc ?_
    rw [hx]
    refine Ja (Je rfl) O O O ?_
    refine Jg ?_
    refine Jb ?_
    refine Vh ?_
    refine J.loop (α := Nat × Option Addr × Nat) (fun s => s.1 ≤ 8) (fun s => [(2, .pointer (some ⟨bo, 0, none⟩)), (5, .slice s.2.1 (3 + s.1) s.2.2), (6, Q x), (31, .int .i64 s.1)]) (fun s => own 5 1 (.slice s.2.1 (3 + s.1) s.2.2) (3 + s.1) (ints .u8 ([2, o.client % 256, o.slot % 256] ++ leB s.1 x)) :: row bo 24 (op22 o) :: l) (fun s => 8 - s.1) (0, some ⟨b3, 0, none⟩, 3) (Nat.zero_le _) ⟨rfl, rfl, by rw [← hx]; rfl, O, trivial⟩ (fun w s => (s.sup (p := row b3 5 (ints .u8 [2, o.client % 256, o.slot % 256]) :: row bo 24 (op22 o) :: l) zsup).ownAll (m := 3) (size := 1) (by decide) rfl) ?_
    rintro ⟨j, qa, qc⟩ hj
    dsimp only at hj ⊢
    refine Jh ?_
    refine Jc ?_
    refine Ja (y_lss O O) O O O ?_
    refine Jg ?_
    refine Jb ?_
    refine Jh ?_
    first | apply Vb rfl | apply Vq rfl
    case' ht =>
      intro h
      try (first | (exfalso; omega) | (cases h; done) | (exfalso; simp at h; done) | subst h)
      all_goals
        refine Ve ?_
    case' hf =>
      intro h
      try (first | (exfalso; omega) | (cases h; done) | (exfalso; simp at h; done) | subst h)
      all_goals
        obtain rfl : j = 8 := by omega
        refine J.exit ?_
        refine Vd ?_
        refine Vd ?_
        refine Vn ?_
        refine Jb ?_
        refine Jh ?_
        refine Jh ?_
        refine Jc ?_
        refine Ja (Ji hT O O O O O O) O O O ?_
        refine Ja (Jm hT O O O zrd) O O O ?_
        refine Ja (y_max2 (m := max o.size 0) O O O) O O O ?_
        refine Ja (y_min2 (m := (cnt : Int)) O O (by omega)) O O O ?_
        refine Ja (Je rfl) O O O ?_
        refine Jg ?_
        refine Jb ?_
        refine Vh ?_
        refine J.loop (α := Nat × Option Addr × Nat) (fun s => s.1 ≤ cnt) (fun s => [(2, .pointer (some ⟨bo, 0, none⟩)), (5, .slice s.2.1 (11 + s.1) s.2.2), (46, .int .i64 cnt), (47, .int .i64 s.1)]) (fun s => own 5 1 (.slice s.2.1 (11 + s.1) s.2.2) (11 + s.1) (ints .u8 ([2, o.client % 256, o.slot % 256] ++ leB 8 x ++ List.replicate s.1 o.fill)) :: row bo 24 (op22 o) :: l) (fun s => cnt - s.1) (0, qa, qc) (Nat.zero_le _) ⟨O, O, O, O, trivial⟩ (fun w s => by simpa using s) ?_
        rintro ⟨k, qb, qd⟩ hk
        dsimp only at hk ⊢
        refine Jh ?_
        refine Jc ?_
        refine Ja (y_lss O O) O O O ?_
        refine Jg ?_
        refine Jb ?_
        refine Jh ?_
        first | apply Vb rfl | apply Vq rfl
        case' ht =>
          intro h
          try (first | (exfalso; omega) | (cases h; done) | (exfalso; simp at h; done) | subst h)
          all_goals
            refine Ve ?_
        case' hf =>
          intro h
          try (first | (exfalso; omega) | (cases h; done) | (exfalso; simp at h; done) | subst h)
          all_goals
            refine J.exit ?_
            refine Vd ?_
            refine Vd ?_
            refine Vn ?_
            refine Jb ?_
            refine Jh ?_
            refine J.fact (p := OwnAt qb (11 + k) qd _) (fun w s => Vx (s.pick Jp)) fun oq => ?_
            refine Jc ?_
            refine Ja (Je rfl) O O O (Ja (Jd rfl) O O O ?_)
            refine Jg ?_
            refine Jb ?_
            refine Vi ?_
            refine Vk (.inl rfl) O O zrv ?_
            obtain rfl : k = cnt := by omega
            exact ⟨_, fun w s => s.sup zsup, qb, qd, own 5 1 (.slice qb (11 + k) qd) (11 + k) (ints .u8 ([2, o.client % 256, o.slot % 256] ++ leB 8 x ++ List.replicate k o.fill)), rfl, rfl, .inl (oq.inl (e := 5) (size := 1) Jp)⟩
        all_goals refine Jb ?_
        all_goals
          refine Jh ?_
          refine Vh ?_
          refine Jc ?_
          refine Ja (Je rfl) O O O (Ja (Ji hT O O O O O O) O O O ?_)
          refine Ja (Jm hT O O O zrd) O O O ?_
          refine Jj rfl (l_buildSliceP hT O O O O O O O zfl rfl (fun b1 => ?_))
          refine Jj rfl (l_append hT O O O O O O O O zpk zrdn zln zoc (by rw [show i5.bytes = 1 from rfl]; omega) (by omega) rfl (fun na nc hnc => ?_))
          refine Ja (Jd rfl) O O O ?_
          refine Jg ?_
          refine Jy ?_
          refine Jb ?_
          refine Jc ?_
          refine Ja (Wg O O zwr) O O O ?_
          refine Ja (Je rfl) O O O ?_
          refine Jg ?_
        all_goals
          refine Wc (s := (k, qb, qd)) (k + 1, na, nc) (by dsimp only; omega) ⟨O, O, O, O, trivial⟩ (fun w s => ?_) (by dsimp only; omega)
          dsimp only
          have e : ints .u8 ([2, o.client % 256, o.slot % 256] ++ leB 8 x ++ List.replicate (k + 1) o.fill) = ints .u8 ([2, o.client % 256, o.slot % 256] ++ leB 8 x ++ List.replicate k o.fill) ++ [.int .u8 o.fill] := by rw [List.replicate_succ']; simp [ints]
          rw [e]
          exact s.sup zsup
    all_goals refine Jb ?_
    all_goals
      refine Jh ?_
      refine Vh ?_
      refine Jh ?_
      refine Jc ?_
      refine Ja (Je rfl) O O O (Ja (Jd rfl) O O O ?_)
      refine Jg ?_
      refine Jb ?_
      refine Jc ?_
      refine Ja (Je rfl) O O O (Ja (Je rfl) O O O (Ja (Je rfl) O O O ?_))
      refine Ja (y_mul (m := ((8 * j : Nat) : Int)) O O (by rw [show (8 : Int) * (j : Int) = ((8 * j : Nat) : Int) by omega]; exact Wj (by omega) (by omega))) O O O ?_
      refine Ja ((by first | exact y_shrQ O O zix zix | exact y_shr O O zix (by rfl))) O O O ?_
      refine Ja ((by first | exact y_convOfQ hT O O O O | exact y_conv hT O O O O zwr)) O O O ?_
      refine Jj rfl (l_buildSliceP hT O O O O O O O zfl rfl (fun b2 => ?_))
      refine Jj rfl (l_append hT O O O O O O O O zpk zrdn zln zoc (by rw [show i5.bytes = 1 from rfl]; omega) (by omega) rfl (fun na nc hnc => ?_))
      refine Ja (Jd rfl) O O O ?_
      refine Jg ?_
      refine Jy ?_
      refine Jb ?_
      refine Jc ?_
      refine Ja (Wg O O zwr) O O O ?_
      refine Ja (Je rfl) O O O ?_
      refine Jg ?_
    all_goals
      refine Wc (s := (j, qa, qc)) (j + 1, na, nc) (by dsimp only; omega) ⟨O, O, O, O, trivial⟩ (fun w s => ?_) (by dsimp only; omega)
      dsimp only
      have e : ints .u8 ([2, o.client % 256, o.slot % 256] ++ leB (j + 1) x) = ints .u8 ([2, o.client % 256, o.slot % 256] ++ leB j x) ++ [.int .u8 (((x >>> (8 * j)).toNat % 256 : Nat) : Int)] := by rw [leB_next]; simp [ints]
      rw [e]
      exact s.sup zsup
  · have hob : o.b last = o.raw.take 400 := if_neg h0
    have hl : (o.b last).length = min o.raw.length 400 := by rw [hob, List.length_take]; omega
    have hd : decide ((0 : Int) < (o.raw.length : Int)) = true := decide_eq_true (by omega)
    have hcut := ho.inl.cutTo (min o.raw.length 400) 400 (by omega)
    refine Js (c := ?codeC) Tryz.func32 ?hb Tryz.ntmps32 ?hl ?_
    case hb => exact rfl
    case hl => exact rfl
    refine Jh ?_
    refine Jc ?_
    refine Jj rfl (l_box (cs := op22 o) O O O (fun bo => ?_))
    refine Ja (Jd rfl) O O O ?_
    refine Jg ?_
    refine Jb ?_
    refine Jh ?_
    refine Jh ?_
    refine Jc ?_
    refine Ja (Ji hT O O O O O O) O O O ?_
    refine Ja (Jm hT O O O zrd) O O O ?_
    refine Ja (Va hT O O O) O O O (Ja (y_gtr O O) O O O ?_)
    refine Jg ?_
    refine Jb ?_
    refine Wp rfl zbl ?_
    refine Jh ?_
    refine Jc ?_
    refine Ja (Ji hT O O O O O O) O O O ?_
    refine Ja (Jm hT O O O zrd) O O O ?_
    refine Ja (Ji hT O O O O O O) O O O ?_
    refine Ja (Jm hT O O O zrd) O O O ?_
    refine Ja (Va hT O O O) O O O ?_
    refine Ja (y_min2 (m := ((min o.raw.length 400 : Nat) : Int)) O O (by omega)) O O O ?_
    refine Ja (y_cutTo hT O O O O O O (show min o.raw.length 400 ≤ o.raw.length by omega) ho.inl) O O O ?_
    refine Ja (Jd rfl) O O O ?_
    refine Jg ?_
    refine Jb ?_
    refine Vi ?_
    refine Jw ?_
    refine Vk (.inl rfl) O O zrv ?_
    refine ⟨pur True :: l, fun w s => Sat.topur trivial (s.sup zsup), o.p, o.c, pur True, by rw [hl], rfl, .inr ?_⟩
    rw [hl, hob]
    have e : (ints .u8 o.raw).take 400 = ints .u8 (o.raw.take 400) := by simp [ints, List.map_take]
    rw [e] at hcut
    exact hcut
end
end Go.Proofs.YtimekohdlofmaaaGreat
