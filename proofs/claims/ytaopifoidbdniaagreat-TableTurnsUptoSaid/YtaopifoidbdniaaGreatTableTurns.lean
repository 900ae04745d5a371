
/-
  hollowtreelaw13.TableTurns returns true for every input that is not too large for any machine, and leaves its input as it was. No condition.
-/
import Derived.Test.YtaopifoidbdniaaGreatJoin2
import Derived.Test.YtaopifoidbdniaaGreatJoin5
import Derived.Test.YtaopifoidbdniaaGreatJoin7
import Derived.Test.YtaopifoidbdniaaGreatJoin11
namespace Go.Proofs.YtaopifoidbdniaaGreat
open Go Go.SL
section
structure Op13 where
 kind : Int
 tab : Int
 key : ByteArray
 val : ByteArray
def op13C (o : Op13) : List Value := [.int .i64 o.kind, .int .i64 o.tab, .string o.key, .string o.val]
structure Op13.Ok (o : Op13) : Prop where
 kind : -9223372036854775808 ≤ o.kind ∧ o.kind ≤ 9223372036854775807
 tab : -9223372036854775808 ≤ o.tab ∧ o.tab ≤ 9223372036854775807
 key : o.key.size ≤ 9000000
 val : o.val.size ≤ 9000000
theorem op13C_one (o : Op13) : ∀ u ∈ op13C o, u.oneCell' = true := by
 intro u hu
 simp only [op13C, List.mem_cons, List.not_mem_nil, or_false] at hu
 rcases hu with rfl | rfl | rfl | rfl <;> rfl
theorem kind_five (k : Int) : ∃ q : Int, k.tmod 5 = q ∧ -5 < q ∧ q < 5 ∧ ∃ kk : Nat, (q + 5).tmod 5 = kk ∧ kk ≤ 4 := by
 refine ⟨k.tmod 5, rfl, ?_, ?_, ?_⟩
 · have h := Int.tmod_lt_of_pos (-k) (show (0 : Int) < 5 by decide)
   rw [Int.neg_tmod] at h
   omega
 · exact Int.tmod_lt_of_pos k (show (0 : Int) < 5 by decide)
 · have h1 : 0 ≤ k.tmod 5 + 5 := by
    have h := Int.tmod_lt_of_pos (-k) (show (0 : Int) < 5 by decide)
    rw [Int.neg_tmod] at h
    omega
   have h2 := Int.tmod_nonneg 5 h1
   have h3 := Int.tmod_lt_of_pos (k.tmod 5 + 5) (show (0 : Int) < 5 by decide)
   exact ⟨((k.tmod 5 + 5).tmod 5).toNat, by omega, by omega⟩
structure TS where
 j : Nat
 B : Bs
 S : Sb
 D : Dk
 L : Lg
 K : HProp
 vk : Value
 vm : Value
 b : Nat
 lg : Nat
 st : Nat
attribute [local irreducible] J JL JE JM LS Y Fc RV Code.wp wpList Code.wpIn wpListIn
attribute [local irreducible] Yc ltS
variable (E : World)
set_option maxHeartbeats 2000000 in
theorem table_turns (more : Int) (sp : Option Addr) (sc n : Nat) (shs : List Shp) (op : Option Addr) (oc on : Nat) (xs : List Op13) (r : List HProp) (hn : shs.length = n) (hnb : n ≤ 1048576) (hin : InL r sp n sc (shs.flatMap shC)) (hon : xs.length = on) (hio : InL r op on oc (xs.flatMap op13C)) (hx : ∀ o ∈ xs, o.Ok) :
 Fc prog E 7 [.agg #[.int .i64 more, .slice sp n sc, .slice op on oc]].toArray r (fun v l' => v = .bool true ∧ l' = r) := by
 refine Fc.eqs ?_
 obtain ⟨k, hk, hk1⟩ := range_n more 300 (by decide)
 have hk : (max more 0).tmod 300 = (k : Int) := hk
 obtain ⟨N, hN⟩ : ∃ N, 64 + k = N := ⟨_, rfl⟩
 obtain ⟨hL0, hl0⟩ := lh_format (n := N) (by omega) (by omega)
 obtain ⟨D0, hD0⟩ : ∃ D0, (Dk.new N).formatted = D0 := ⟨_, rfl⟩
 rw [hD0] at hL0 hl0
 have clog : ∀ l, Fc prog E 12 [.int .i64 (N : Int)].toArray l (fun v l' => ∃ lg st d, v = .tuple #[.pointer (some ⟨lg, 0, none⟩), .pointer (some ⟨d, 0, none⟩)] ∧ l' = logm lg st lg0 :: row st 205 (scells sb0 d) :: disk d D0 :: l) := fun l => by rw [← hD0]; exact log13_spec E N (by omega) (by omega) l
 have hol := hio.most
 have hol2 := hio.le
 have hsl : (shs.flatMap shC).length = n * 3 := by rw [shC_flat, hn]
 have hshone : ∀ u ∈ shs.flatMap shC, u.oneCell' = true := fun u hu => by
  obtain ⟨h, _, hu⟩ := List.mem_flatMap.1 hu
  simp [shC] at hu
  rcases hu with rfl | rfl | rfl <;> rfl
 refine Va (c := ?codeC) Tryz.func7 ?hb Tryz.ntmps7 ?hl ?_
 case hb => exact rfl
 case hl => exact rfl
 refine Jh (Je ?_)
 refine Jl rfl (l_box (cs := [.int .i64 more, .slice sp n sc, .slice op on oc]) U U U (fun b1 => ?_))
 refine Jb (Jf rfl) U U U ?_
 refine Jg (Ja (Jh (Jh (Je ?_))))
 refine Jl rfl (Jw e11 U U (wakes13_spec E _) ?_)
 rintro _ l1 ⟨rfl, e1⟩
 obtain rfl := e1.symm
 refine Jb (y_not rfl) U U U ?_
 refine Jg (Ja ?_)
 refine Vk rfl zbl ?_
 refine Vd (Ja (Jh (Je (Jb (Jk hT U U U U U U) U U U ?_))))
 refine Jb (Jo hT U U U zrd) U U U ?_
 refine Jb (y_max2 U U U) U U U ?_
 refine Jb (y_rem U U (by decide) hk) U U U ?_
 refine Jb (Wa (m := (N : Int)) U U (by rw [show (64 : Int) + (k : Int) = (N : Int) by omega]; exact Wm (by omega) (by omega))) U U U ?_
 refine Jl rfl (Jw e12 U U (clog _) ?_)
 rintro _ _ ⟨lg, st, d, rfl, rfl⟩
 refine Jb (Jd rfl) U U U (Jb (Vg U U) U U U (Jb (Vg U U) U U U (Jb (Jf rfl) U U U (Jb (Jf rfl) U U U ?_))))
 refine Jg (Ja (Jh (Jh (Je (Jb (Jd rfl) U U U (Jb (Wc hT U U U U) U U U ?_))))))
 refine Jg (Ja ?_)
 refine Vk rfl zbl ?_
 refine Vd (Ja ?_)
 by_cases hright : (∀ h ∈ shs, ShOk h) ∧ 1 ≤ n ∧ n ≤ 8
 ·
  skip
  refine Jh (Je (Jb (Jd rfl) U U U ?_))
  refine Jl rfl (l_buildSlice0 hT U U U U (fun b3 => ?_))
  refine Jb (Jk hT U U U U U U) U U U ?_
  refine Jb (Jo hT U U U zrd) U U U ?_
  refine Jl rfl (l_appendIn hT U U U U U U U U zpk zinl (by rw [hsl, show i71.size = 3 from rfl]) hshone (by rw [show i71.bytes = 24 from rfl]; omega) (by omega) rfl (fun sa2 sc2 hs2 => ?_))
  rw [Nat.zero_add n, List.nil_append (shs.flatMap shC)]
  refine Jl rfl (Jw e13 U U (Fc.fact (p := OwnAt sa2 n sc2 (shs.flatMap shC)) (fun w s => Vu (s.pick zpk)) fun os => Vw (Ji (A := logm lg st lg0) zpk Jj) (topen_ties E lg st n lg0 shs _ 0 sa2 sc2 (hn ▸ Ties.new hright.1) (by decide) hn (by omega) hright.2.2 hright.1 _ (os.inl zpk))) ?_)
  rintro _ _ ⟨b, rfl, rfl⟩
  refine Jb (Jd rfl) U U U (Jb (Vg U U) U U U (Jb (Vg U U) U U U (Jb (Jf rfl) U U U (Jb (Jf rfl) U U U ?_))))
  refine Jg (Ja (Jh (Jh (Je (Jb (Jk hT U U U U U U) U U U ?_)))))
  refine Jb (Jo hT U U U zrd) U U U ?_
  refine Jl rfl (Jw e39 U U (right13_spec E sp sc n shs _ hn (by omega) zinl) ?_)
  rintro _ _ ⟨z, rfl, hz, rfl⟩
  obtain rfl : z = true := hz.2 hright
  refine Jb (y_not rfl) U U U ?_
  refine Jg (Ja ?_)
  refine Vk rfl zbl ?_
  refine Vd (Ja (Jh (Jh (Je (Jb (Jd rfl) U U U (Jb (y_neq U U) U U U ?_))))))
  refine Jg (Ja ?_)
  refine Vk rfl zbl ?_
  refine Vd (Ja (Jh ?_))
  have hr1 := hright.1
  have hr2 := hright.2
  refine Vz _ _ [(0, .q), (1, .q), (2, .q), (4, .q), (5, .q), (6, .q), (8, .q), (9, .q), (3, .l), (7, .l), (10, .q), (11, .n), (12, .q)] mixed (by kernel_rfl) (Jj) ?_
  refine Jc U U U U (fun m => Jk hT U U U U U U) ?_
  refine Jc U U U U (fun m => Jo hT U U U zrda) ?_
  refine Jc U U U U (fun m => Vf hT U U U) (Jc U U U U (fun m => Jk hT U U U U U U) ?_)
  refine Jc U U U U (fun m => Jo hT U U U zrda) ?_
  refine Jc U U U U (fun m => Vf hT U U U) (Jc U U U U (fun m => Jk hT U U U U U U) ?_)
  refine Jc U U U U (fun m => Jo hT U U U zrda) ?_
  refine Vm U U (fun fr => Jw e40 U U (rempty_spec E n (by omega) _) ?_)
  rintro _ _ ⟨ga, rfl, rfl⟩
  refine ⟨[_], (by (repeat (first | exact Jj | exact Vc | refine Ji Jm ?_))), ?_⟩
  refine Vm U U (fun fr => Jw e40 U U (rempty_spec E n (by omega) _) ?_)
  rintro _ _ ⟨gb, rfl, rfl⟩
  refine ⟨[_, _], (by (repeat (first | exact Jj | exact Vc | refine Ji Jm ?_))), ?_⟩
  refine Jc U U U U (fun m => y_build (cs := [_, _, _, _]) hT U U U U U U ⟨⟨zln, Nat.le_of_ble_eq_true rfl⟩, ⟨⟨zln, Nat.le_of_ble_eq_true rfl⟩, ⟨⟨zln, Nat.le_of_ble_eq_true rfl⟩, trivial⟩⟩⟩ rfl) ?_
  refine JM.lay U U U U (fun a hf => lays_box (cs := modC (.slice (some ⟨ga, 0, none⟩) n n) (.slice (some ⟨gb, 0, none⟩) n n) sp n sc 0) hf U U) (fun bm => ?_)
  refine Jc U U U U (fun m => Jf rfl) ?_
  refine Vv (Ja (Jh (Jh ?_)))
  obtain ⟨K0, hK0⟩ : ∃ K0, stars [row ga 178 (List.replicate n (.slice none 0 0)), row gb 178 (List.replicate n (.slice none 0 0))] = K0 := ⟨_, rfl⟩
  obtain ⟨B0, hB0⟩ : ∃ B0 : Bs, ⟨shs, List.replicate n [], List.replicate n [], []⟩ = B0 := ⟨_, rfl⟩
  have hTi := Ties.new hr1
  rw [hn] at hTi
  have hT0 : Turn13 shs 0 B0 sb0 D0 lg0 K0 (.slice (some ⟨ga, 0, none⟩) n n) (.slice (some ⟨gb, 0, none⟩) n n) := by
   rw [← hB0, ← hK0]
   refine ⟨rfl, hL0, BOk.start hTi.fit hr1 (by omega) 0, hTi, (RSt.of_new (by omega)).keep, ?_, Nat.le_refl _, by omega⟩
   obtain ⟨a, c, vals, h1, h2, h3, h4⟩ := (RSt.of_new (g := gb) (n := n) (by omega)).out
   exact ⟨a, c, vals, h1, h2.keepR, h3, fun i R hi => let ⟨p, cc, h5, h6⟩ := h4 i R hi; ⟨p, cc, h5, h6.keepR⟩⟩
  refine Je (Jb (Jk hT U U U U U U) U U U ?_)
  refine Jb (Jo hT U U U zrd) U U U ?_
  refine Jb (Vf hT U U U) U U U (Jb (Jd rfl) U U U ?_)
  refine Jg (Ja (Ve ?_))
  refine Wn (α := TS) (fun s => s.j ≤ on ∧ s.j ≤ 24 ∧ Turn13 shs s.j s.B s.S s.D s.L s.K s.vk s.vm) (fun s => [(1, .pointer (some ⟨b1, 0, none⟩)), (4, .pointer (some ⟨d, 0, none⟩)), (5, .pointer (some ⟨s.b, 0, none⟩)), (7, .pointer (some ⟨bm, 0, none⟩)), (57, .slice op on oc), (58, .int .i64 on), (59, .int .i64 s.j)]) (fun s => row bm 87 (modC s.vk s.vm sp n sc s.B.turned.length) :: s.K :: baseM s.b s.lg s.B :: logm s.lg s.st s.L :: row s.st 205 (scells s.S d) :: disk d s.D :: row b1 79 [.int .i64 more, .slice sp n sc, .slice op on oc] :: r) (fun s => on - s.j) ⟨0, B0, sb0, D0, lg0, K0, .slice (some ⟨ga, 0, none⟩) n n, .slice (some ⟨gb, 0, none⟩) n n, b, lg, st⟩ ⟨Nat.zero_le _, Nat.zero_le _, hT0⟩ ⟨U, U, U, U, U, U, U, trivial⟩ (fun w q => ?_) ?_
  · dsimp only
    rw [← hB0, ← hK0]
    have q1 := Sat.fold (m := [row ga 178 (List.replicate n (.slice none 0 0)), row gb 178 (List.replicate n (.slice none 0 0))]) (l := row bm 87 (modC (.slice (some ⟨ga, 0, none⟩) n n) (.slice (some ⟨gb, 0, none⟩) n n) sp n sc 0) :: baseM b lg ⟨shs, List.replicate n [], List.replicate n [], []⟩ :: logm lg st lg0 :: row st 205 (scells sb0 d) :: disk d D0 :: row b1 79 [.int .i64 more, .slice sp n sc, .slice op on oc] :: r) (q.sup zsup)
    exact q1.sup zsup
  rintro ⟨j, B, S, D, L, K, vk, vm, bb, lgg, stt⟩ ⟨hj, hj24, hTn⟩
  dsimp only at hj hj24 hTn ⊢
  refine Jh (Je (Jb (y_lss U U) U U U ?_))
  refine Jg (Ja (Jh ?_))
  first | apply Jx rfl | apply Vo rfl
  case' ht =>
   intro h
   try (first | exact zom | exact zho h | subst h)
   all_goals
    refine Vd ?_
  case' hf =>
   intro h
   try (first | exact zom | exact zho h | subst h)
   all_goals
    refine Wl (Jv (Jv (Vl (Ja (Jh (Je (Jb (Jf rfl) U U U ?_)))))))
    refine Jg (Ja (Vn ?_))
    refine Vi (.inl rfl) U U zrv ?_
    exact ⟨rfl, fun w q => q.sup zsup⟩
  all_goals refine Ja ?_
  all_goals
   refine Jh (Ve (Jh ?_))
   have hlt : j < on := by omega
   obtain ⟨go, oo, rfl, hro⟩ := hio.addr (by omega)
   have hro0 : RdN r go oo (xs.flatMap op13C) := hro []
   obtain ⟨o, ho⟩ : ∃ o, xs[j]? = some o := ⟨_, List.getElem?_eq_getElem (by omega)⟩
   have hok := hx o (List.mem_of_getElem? ho)
   have hone := op13C_one o
   obtain ⟨q, hq, hq1, hq2, kk, hkk, hkk4⟩ := kind_five o.kind
   obtain ⟨vkA, hvkA⟩ : ∃ x, vk = x := ⟨_, rfl⟩
   obtain ⟨ak, ck, valsk, hvke, _⟩ := hTn.rk.out
   have hvk1 : vk.oneCell' = true := by rw [hvke]; rfl
   obtain ⟨am, cm, valsm, hvme, _⟩ := hTn.rm.out
   have hBn : B.shs.length = n := by rw [hTn.shs]; exact hn
   refine Je (Jb (Jd rfl) U U U ?_)
   refine Jb (Jn hT U U U U U zix zix) U U U ?_
   refine Jb (We hT U U U (RdN.elem (k := 4) zri (fun x _ => rfl) ho) rfl) U U U ?_
   refine Jl rfl (Wf hT U U zcl rfl (fun b9 => ?_))
   refine Jb (Jf rfl) U U U ?_
   refine Jl rfl (Vx (vs := op13C o) hT U U U U hone zpk zln ?_)
   refine Jg (Ja (Jh (Jh (Je (Jb (Jd rfl) U U U (Jb (y_eql U U) U U U ?_))))))
   refine Jg (Ja ?_)
   first | apply Jx rfl | apply Vo rfl
   case' ht =>
    intro h
    try (first | exact zom | exact zho h | subst h)
    all_goals
     refine Wl (Jv ?_)
     refine JE.block_past rfl ?_
     refine Jv (Jv (Vl (Ja (Jh (Je (Jb (Jf rfl) U U U ?_))))))
     refine Jg (Ja (Vn ?_))
     refine Vi (.inl rfl) U U zrv ?_
     exact ⟨rfl, fun w q => q.sup zsup⟩
   case' hf =>
    intro h
    try (first | exact zom | exact zho h | subst h)
    all_goals
     refine Vd ?_
   all_goals refine Ja ?_
   all_goals
    refine J.seqK (α := TS) (fun s => s.j = j + 1 ∧ Turn13 shs s.j s.B s.S s.D s.L s.K s.vk s.vm) (fun s => [(1, .pointer (some ⟨b1, 0, none⟩)), (4, .pointer (some ⟨d, 0, none⟩)), (5, .pointer (some ⟨s.b, 0, none⟩)), (7, .pointer (some ⟨bm, 0, none⟩)), (57, .slice (some ⟨go, oo, none⟩) on oc), (58, .int .i64 on), (59, .int .i64 j)]) (fun s => row bm 87 (modC s.vk s.vm sp n sc s.B.turned.length) :: s.K :: baseM s.b s.lg s.B :: logm s.lg s.st s.L :: row s.st 205 (scells s.S d) :: disk d s.D :: row b1 79 [.int .i64 more, .slice sp n sc, .slice (some ⟨go, oo, none⟩) on oc] :: r) ?hj24G (fun hk24 => ?hf24G)
    case hf24G =>
     refine Jh (Je (Jb (Jk hT U U U U U U) U U U ?_))
     refine Jb (Jo hT U U U zrd) U U U ?_
     refine Jb (y_rem (m := q) U U (by decide) hq) U U U ?_
     refine Jb (Wa (m := q + 5) U U (Wm (by omega) (by omega))) U U U ?_
     refine Jb (y_rem (m := (kk : Int)) U U (by decide) hkk) U U U ?_
     refine Jb (Jk hT U U U U U U) U U U ?_
     refine Jl rfl (Vs hT U U U U U zpk zix ?_)
     refine Jg (Ja (Jh (Je (Jb (Jk hT U U U U U U) U U U ?_))))
     refine Jb (Jo hT U U U zrd) U U U ?_
     refine Jb (y_eql U U) U U U ?_
     refine Jg (Ja ?_)
     first | apply Jx rfl | apply Vo rfl
     case' ht =>
      intro h
      try (first | exact zom | exact zho h | subst h)
      all_goals
       have hre : True := trivial
       have hf2 : SFit shs B.kept := by
        have z := hTn.ok.fit
        rw [hTn.shs] at z
        exact z
       have ht2 : Ties shs B.kept L j := by
        have z := hTn.ties
        rw [hTn.shs] at z
        exact z
       refine Jh (Jh ?_)
       refine J.pre (l' := disk d D :: row bm 87 (modC vk vm sp n sc B.turned.length) :: K :: row b1 79 [.int .i64 more, .slice sp n sc, .slice (some ⟨go, oo, none⟩) on oc] :: r) (fun w s => s.sup zsup) ?_
       refine Vz _ _ [(0, .q), (2, .q), (3, .q), (1, .l), (4, .l), (5, .q), (6, .q), (7, .q), (8, .q), (9, .q)] mixed (by kernel_rfl) (Ji (Jm) (Jj)) ?_
       refine zqm U U U U U (Jc U U U U (fun m => Jk hT U U U U U U) ?_)
       refine Jc U U U U (fun m => Jo hT U U U zrda) ?_
       refine Vm U U (fun fr => Jw e38 U U (Vw (Ji (A := disk d D) zpk Jj) (again13_spec E d _ hTn.lh hTn.size)) ?_)
       rintro _ _ ⟨lg2, st2, rfl, rfl⟩
       refine ⟨[_, _, _], (by (repeat (first | exact Jj | exact Vc | refine Ji Jm ?_))), ?_⟩
       refine Vm U U (fun fr => Jw e13 U U (Vw (Ji (A := logm lg2 st2 L) zpk Jj) (topen_ties E lg2 st2 n L shs B.kept j sp sc (by have z := hTn.ties; rw [hTn.shs] at z; exact z) (by omega) hn (by omega) hr2.2 hr1 _ zinl)) ?_)
       rintro _ _ ⟨b2, rfl, rfl⟩
       refine ⟨[_, _, _, _], (by (repeat (first | exact Jj | exact Vc | refine Ji Jm ?_))), ?_⟩
       refine zqm U U U U U (Jc U U U U (fun m => Vg U U) (Jc U U U U (fun m => Vg U U) (Jc U U U U (fun m => Jf rfl) (Jc U U U U (fun m => Jf rfl) ?_))))
       refine Vv (Ja (Jh (Je (Jb (Jd rfl) U U U (Jb (y_neq U U) U U U ?_)))))
       refine Jg (Ja ?_)
       refine Vk rfl zbl ?_
       refine Vd (Ja (Je (Jb (Jd rfl) U U U (Jb (Jd rfl) U U U (Jb (Jd rfl) U U U ?_)))))
       refine Jb znc U U U ?_
       refine Jb (Jk hT U U U U U U) U U U ?_
       refine Jb (We hT U U U (RdN.row (n := 1) zpk rfl) rfl) U U U ?_
       refine Jb znc U U U ?_
       refine Jb (Jk hT U U U U U U) U U U ?_
       refine Jl rfl (l_storeN (vs := [vk]) hT U U U U (by intro u hu; rw [List.mem_singleton.1 hu]; exact hvk1) zpk (by simp [modC]) ?_)
       refine Jb znc U U U ?_
       refine Jb (Jk hT U U U U U U) U U U ?_
       refine Jl rfl (Vs hT U U U U U zpk zix ?_)
       refine Jg ?_
     case' hf =>
      intro h
      try (first | exact zom | exact zho h | subst h)
      all_goals
       refine Jh (Je (Jb (Jd rfl) U U U (Jb (Jd rfl) U U U ?_)))
       refine Jb (We hT U U U (RdN.rowAll (cs := [.int .i64 kk, .int .i64 o.tab, .string o.key, .string o.val]) zpk) rfl) U U U ?_
       refine Jl rfl (Jw e41 U U (Vw (Ji (A := row bm 87 (modC vk vm sp n sc B.turned.length)) zpk (Ji (A := K) zpk (Ji (A := baseM bb lgg B) zpk (Ji (A := logm lgg stt L) zpk (Ji (A := row stt 205 (scells S d)) zpk (Ji (A := disk d D) zpk Jj)))))) (does_spec E bm bb lgg stt d shs j kk o.tab o.key o.val B S D L K vk vm sp sc n _ hTn (by omega) (by omega) hn hok.key hok.val hok.tab zinl)) ?_)
       rintro _ _ ⟨B2, S2, D2, L2, K2, vk2, vm2, rfl, hTn2, rfl⟩
       refine Jb (y_not rfl) U U U ?_
       refine Jg (Ja ?_)
       refine Vk rfl zbl ?_
       refine Vd ?_
     all_goals refine Ja ?_
     all_goals
      first
       | (have zz := hTn2
          refine Wj hk24 (TS.mk (j + 1) B2 S2 D2 L2 K2 vk2 vm2 bb lgg stt) ⟨rfl, hTn2⟩ ⟨U, U, U, U, U, U, U, trivial⟩ (fun w q => q.sup zsup))
       | (have zz := hre
          refine Wj hk24 (TS.mk (j + 1) ⟨shs, B.kept, B.kept, []⟩ S D L K vk vk b2 lg2 st2) ⟨rfl, ⟨rfl, hTn.lh, BOk.start hf2 hr1 (by omega) _, ht2.mono (Nat.le_succ _), hTn.rk, hTn.rk, Nat.le_succ_of_le hTn.turn, hTn.size⟩⟩ ⟨U, U, U, U, U, U, U, trivial⟩ (fun w q => q.sup zsup))
    rintro ⟨j3, B3, S3, D3, L3, K3, vk3, vm3, b3, lg3, st3⟩ ⟨hj3, hTn3⟩
    dsimp only at hj3 hTn3 ⊢
    subst hj3
    have hBn3 : B3.shs.length = n := by rw [hTn3.shs]; exact hn
    obtain ⟨ak3, ck3, valsk3, hvke3, _⟩ := hTn3.rk.out
    have hvk3 : vk3.oneCell' = true := by rw [hvke3]; rfl
    refine Jh (Je (Jb (Jd rfl) U U U ?_))
    refine Jb znc U U U ?_
    refine Jb (We hT U U U (RdN.rowAll (cs := modC vk3 vm3 sp n sc B3.turned.length) zpk) rfl) U U U ?_
    refine Jb (Jd rfl) U U U ?_
    refine Jl rfl (Jw e42 U U (Vw (Ji (A := K3) zpk (Ji (A := baseM b3 lg3 B3) zpk Jj)) (told_spec E b3 lg3 (j + 1) n B3 K3 vk3 vm3 sp sc _ hTn3.ok (by omega) hvk3 hTn3.rm hBn3)) ?_)
    rintro _ _ ⟨rfl, rfl⟩
    refine Jb (y_not rfl) U U U ?_
    refine Jg (Ja ?_)
    refine Vk rfl zbl ?_
    refine Vd ?_
   all_goals refine Ju (Ja ?_)
   all_goals
    refine Je ?_
    refine Jb (Wa U U zwr) U U U ?_
    refine Jb (Jd rfl) U U U ?_
    refine Jg ?_
  all_goals
   refine Vt (s := TS.mk j B S D L K vk vm bb lgg stt) (TS.mk (j + 1) B3 S3 D3 L3 K3 vk3 vm3 b3 lg3 st3) ⟨by dsimp only; omega, by dsimp only; omega, hTn3⟩ ⟨U, U, U, U, U, U, U, trivial⟩ (fun w q => q.sup zsup) (by dsimp only; omega)
 ·
  have cbad : ∀ lg sp sc l, InL l sp n sc (shs.flatMap shC) → Fc prog E 13 [.pointer (some ⟨lg, 0, none⟩), .slice sp n sc].toArray l (fun v l' => v = .tuple #[.pointer none, .int .i64 2] ∧ l' = l) := fun lg sp sc l h => by
   by_cases h8 : 1 ≤ n ∧ n ≤ 8
   · exact topen_bad E lg n shs sp sc hn (by omega) h8.2 (fun e => hright ⟨e, h8⟩) l h
   · exact topen_none E lg sp sc n (by omega) (by omega) l
  refine Jh (Je (Jb (Jd rfl) U U U ?_))
  refine Jl rfl (l_buildSlice0 hT U U U U (fun b3 => ?_))
  refine Jb (Jk hT U U U U U U) U U U ?_
  refine Jb (Jo hT U U U zrd) U U U ?_
  refine Jl rfl (l_appendIn hT U U U U U U U U zpk zinl (by rw [hsl, show i71.size = 3 from rfl]) hshone (by rw [show i71.bytes = 24 from rfl]; omega) (by omega) rfl (fun sa2 sc2 hs2 => ?_))
  rw [Nat.zero_add n, List.nil_append (shs.flatMap shC)]
  refine Jl rfl (Jw e13 U U (Fc.fact (p := OwnAt sa2 n sc2 (shs.flatMap shC)) (fun w s => Vu (s.pick zpk)) fun os => cbad lg sa2 sc2 _ (os.inl zpk)) ?_)
  rintro _ _ ⟨rfl, rfl⟩
  refine Jb (Jd rfl) U U U (Jb (Vg U U) U U U (Jb (Vg U U) U U U (Jb (Jf rfl) U U U (Jb (Jf rfl) U U U ?_))))
  refine Jg (Ja (Jh (Jh (Je (Jb (Jk hT U U U U U U) U U U ?_)))))
  refine Jb (Jo hT U U U zrd) U U U ?_
  refine Jl rfl (Jw e39 U U (right13_spec E sp sc n shs _ hn (by omega) zinl) ?_)
  rintro _ _ ⟨z, rfl, hz, rfl⟩
  obtain rfl : z = false := by
   cases z
   · rfl
   · exact absurd (hz.1 rfl) hright
  refine Jb (y_not rfl) U U U ?_
  refine Jg (Ja ?_)
  refine J.cond_t rfl zbl ?_
  refine Jh (Je (Jb (Jd rfl) U U U (Jb (Wc hT U U U U) U U U (Jb (Jd rfl) U U U ?_))))
  all_goals (first | (refine Vh U U U (fun h => ?_) (fun h => ?_) <;> try (first | (exfalso; omega) | exact absurd rfl h)) | (refine Vr U U U (fun h => ?_) (fun h => ?_) <;> try (first | cases h | (exfalso; simp at h; done))) | skip)
  all_goals (first | refine Js U U U U U U ?_ | refine Jp U U U U U ?_ | refine Jt U U U (Jd rfl) U U ?_)
  all_goals (first | refine Js U U U U U U ?_ | refine Jp U U U U U ?_ | refine Jt U U U (y_eql U U) U U ?_)
  all_goals (refine Jb (Wb U U U) U U U ?_)
  all_goals (refine Jb (Jf rfl) U U U ?_)
  all_goals refine Jg (Ja ?_)
  all_goals
   refine Vn (Vb ?_)
   refine Vi (.inl rfl) U U zrv ?_
   exact ⟨rfl, fun w q => q.sup zsup⟩
end
section
open Go.ChangeShapes Go.WideShapes Go.ChangeAt Go.RowKit
set_option maxRecDepth 100000 in
theorem tr_shapes13 {H : Type} {enc : TypeId × Value → H} {w : World} {ok : DataW H → Prop} {L : Nat → Prop} {v : Value} (her : Her ok L) (h : Tr enc prog ok w 34 [v]) : ∃ (p : Option Addr) (cap : Nat) (xs : List Shp), v = .slice p xs.length cap ∧ L xs.length ∧ InW w p xs.length cap (xs.flatMap shC) := by
 obtain ⟨p, cap, xs, h1, hL, hk, h2⟩ := Tr.slice (encA := shC) (okA := fun _ => True) (k := 3) her u34 (by kernel_rfl) (by decide) (fun _ _ => rfl) (fun cs hc => by
  obtain ⟨hl, hf⟩ := Tr.struct her u71 hc
  rw [show prog.cellsOf 71 = 3 by kernel_rfl] at hl
  match cs, hl with
  | [a, b, c], _ =>
    have h0 := hf 0 _ rfl
    have h1 := hf 1 _ rfl
    have h2 := hf 2 _ rfl
    dsimp only at h0 h1 h2
    rw [show prog.cellsOf 3 = 1 by kernel_rfl] at h0 h1 h2
    obtain ⟨k0, e0, _⟩ := Tr.int u3 h0
    obtain ⟨k1, e1, _⟩ := Tr.int u3 h1
    obtain ⟨k2, e2, _⟩ := Tr.int u3 h2
    cases e0; cases e1; cases e2
    exact ⟨⟨k0, k1, k2⟩, U, trivial⟩) h
 exact ⟨p, cap, xs, h1, hL, h2⟩
set_option maxRecDepth 100000 in
theorem tr_ops13 {H : Type} {enc : TypeId × Value → H} {w : World} {ok : DataW H → Prop} {v : Value} (her : Her ok (fun n => n ≤ 1048576)) (h : Tr enc prog ok w 77 [v]) : ∃ (p : Option Addr) (cap : Nat) (xs : List Op13), v = .slice p xs.length cap ∧ (∀ o ∈ xs, o.Ok) ∧ InW w p xs.length cap (xs.flatMap op13C) := by
 obtain ⟨p, cap, xs, h1, hL, hk, h2⟩ := Tr.slice (encA := op13C) (okA := fun o : Op13 => o.Ok) (k := 4) her u77 (by kernel_rfl) (by decide) (fun _ _ => rfl) (fun cs hc => by
  obtain ⟨hl, hf⟩ := Tr.struct her u89 hc
  rw [show prog.cellsOf 89 = 4 by kernel_rfl] at hl
  match cs, hl with
  | [a, b, c, d], _ =>
    have h0 := hf 0 _ rfl
    have h1 := hf 1 _ rfl
    have h2 := hf 2 _ rfl
    have h3 := hf 3 _ rfl
    dsimp only at h0 h1 h2 h3
    rw [show prog.cellsOf 3 = 1 by kernel_rfl] at h0 h1
    rw [show prog.cellsOf 9 = 1 by kernel_rfl] at h2 h3
    obtain ⟨k0, e0, r0⟩ := Tr.int u3 h0
    obtain ⟨k1, e1, r1⟩ := Tr.int u3 h1
    obtain ⟨k2, e2, _, r2⟩ := Tr.string her u9 h2
    obtain ⟨k3, e3, _, r3⟩ := Tr.string her u9 h3
    cases e0; cases e1; cases e2; cases e3
    exact ⟨⟨k0, k1, k2, k3⟩, rfl, ⟨r0, r1, by dsimp only; omega, by dsimp only; omega⟩⟩) h
 exact ⟨p, cap, xs, h1, hk, h2⟩
set_option maxRecDepth 100000 in
theorem tr_used13 {H : Type} {enc : TypeId × Value → H} {w : World} {ok : DataW H → Prop} {cs : List Value} (her : Her ok (fun n => n ≤ 1048576)) (h : Tr enc prog ok w 79 cs) :
 ∃ (more : Int) (sp : Option Addr) (sc : Nat) (shs : List Shp) (op : Option Addr) (oc : Nat) (xs : List Op13), cs = [.int .i64 more, .slice sp shs.length sc, .slice op xs.length oc] ∧ shs.length ≤ 1048576 ∧ InW w sp shs.length sc (shs.flatMap shC) ∧ (∀ o ∈ xs, o.Ok) ∧ InW w op xs.length oc (xs.flatMap op13C) := by
 obtain ⟨hl, hf⟩ := Tr.struct her u79 h
 rw [show prog.cellsOf 79 = 3 by kernel_rfl] at hl
 match cs, hl with
 | [a, b, c], _ =>
   have h0 := hf 0 _ rfl
   have h1 := hf 1 _ rfl
   have h2 := hf 2 _ rfl
   dsimp only at h0 h1 h2
   rw [show prog.cellsOf 3 = 1 by kernel_rfl] at h0
   rw [show prog.cellsOf 34 = 1 by kernel_rfl] at h1
   rw [show prog.cellsOf 77 = 1 by kernel_rfl] at h2
   obtain ⟨k0, e0, _⟩ := Tr.int u3 h0
   obtain ⟨sp, sc, shs, e1, hL, hi1⟩ := tr_shapes13 her h1
   obtain ⟨op, oc, xs, e2, hx, hi2⟩ := tr_ops13 her h2
   cases e0; cases e1; cases e2
   exact ⟨k0, sp, sc, shs, op, oc, xs, rfl, hL, hi1, hx, hi2⟩
theorem table_turns_reads : ∀ t ∈ Tryz.f7.params.toList, Tryz.prog.readableRec t = true ∧ t < Tryz.prog.types.size := by
 rw [Tryz.params7]
 intro t ht
 simp only [List.mem_cons, List.not_mem_nil, or_false] at ht
 rcases ht with rfl
 all_goals exact ⟨by kernel_rfl, of_decide_eq_true (by kernel_rfl)⟩
set_option maxRecDepth 100000 in
theorem table_turns_contract (H : Type) (enc : TypeId × Value → H) (W : World) (base : Nat) (args : Array Value) (ds gs : List (DataW H)) (before : List MemPlace)
 (hval : ∀ (j : Nat) t v, Tryz.f7.params[j]? = some t → args[j]? = some v → Value.okWide Tryz.prog W .any base t v)
 (hW : DataW.Whole enc Tryz.prog Tryz.f7.params.toList Rows.tableTurnsSpec.vars false W args.toList ds gs before) (hk : Rows.uptoSmall H (ds ++ gs) = true) :
 Calls Tryz.prog 7 args W fun e W' => ∃ v, e = .returned v ∧ Rows.tableTurnsSpec.post enc Tryz.prog Tryz.f7 false true false false W args v W' := by
 have hW' := hW
 obtain ⟨p, q, hA0, hV, rfl, hfz, hnd⟩ := hW
 have hA : DataW.TrodAll enc Tryz.prog W 0 (fun _ => true) true Tryz.f7.params.toList args.toList ds p := hA0
 rw [Tryz.params7] at hA hval
 obtain ⟨v0, vs0, d0, ds0, p0, q0, hargs, rfl, rfl, h0, r0⟩ := trodAll_cons hA
 obtain ⟨rfl, rfl, rfl⟩ := trodAll_nil r0
 obtain rfl : args = #[v0] := by cases args; simp_all
 obtain ⟨rfl, rfl⟩ := trodVars_none hV
 clear hA0
 obtain ⟨cs0, rfl, t0⟩ := Tr.ofStruct (ok := upOk) u79 (hval 0 79 v0 U U) h0 (upOk_of hk d0 (by simp))
 obtain ⟨more, sp, sc, shs, op, oc, xs, rfl, hL, hi1, hx, hi2⟩ := tr_used13 upHer t0
 refine ((table_turns W more sp sc shs.length shs op oc xs.length xs [old W] rfl hL (hi1.inl []) rfl (hi2.inl []) hx) W (Sat.start W)).mono fun e W' hq => ?_
 obtain ⟨v, l', rfl, hs, rfl, rfl⟩ := hq
 exact ⟨_, rfl, law_post laidOut_ U U u4 table_turns_reads hW' U U U hs.below⟩
set_option maxRecDepth 100000 in
theorem table_turns_lifted (os : Os) (started : os.Started) (H : Type) (enc : TypeId × Value → H) (F : Stop.Interp) :
 ReturnsInHanded {} Tryz.checked os 7 .any ((Rows.OpenSpec.upto Rows.tableTurnsSpec).pre6 enc Tryz.prog Tryz.f7 Rows.tableTurnsUptoRow.domain false) (((Rows.OpenSpec.upto Rows.tableTurnsSpec).at F).post enc Tryz.prog Tryz.f7 false true false false) := by
 refine returnsInHanded_of_cond (C := Tryz.checked) (s := Rows.OpenSpec.upto Rows.tableTurnsSpec) (k := Rows.uptoSmall) rfl own_ started (by kernel_rfl) Tryz.func7
  (OpenSpec.witness (enc := enc) (C := Tryz.checked) (s := Rows.OpenSpec.upto Rows.tableTurnsSpec) (k := Rows.uptoSmall) rfl false ⟨#[], #[.agg #[.int .i64 0, .slice none 0 0, .slice none 0 0]], []⟩ 8 (by kernel_rfl) (by kernel_rfl) (by kernel_rfl)
    (x := ([.agg [.lit (.int .i64 0), .nil, .nil]], [], [])) (by kernel_rfl) rfl (by kernel_rfl)) ?_
 intro W base args ds gs before hval hW _ hk _
 exact table_turns_contract H enc W base args ds gs before hval hW hk
theorem table_turns_holds : Rows.TableTurnsUptoSaid :=
 OpenClaim.holds_of_cond 7 Tryz.f7 U U U U U U U ⟨rfl, rfl, rfl, rfl, rfl⟩ U U U U U (by kernel_rfl) Tryz.func7 (by kernel_rfl)
  (of_decide_eq_true (by kernel_rfl)) (by unfold Func.isWrapper; first | (rw [if_pos (by decide +kernel)]; kernel_rfl) | (rw [if_neg (by decide +kernel)]; exact ⟨rfl, rfl⟩))
  (fun os started H enc _ F => table_turns_lifted os started H enc F)
end
end Go.Proofs.YtaopifoidbdniaaGreat
