import Derived.Test.YtaopifoidbdniaaGreatJoin1
import Derived.Test.YtaopifoidbdniaaGreatJoin2
import Derived.Test.YtaopifoidbdniaaGreatJoin4
import Derived.Test.YtaopifoidbdniaaGreatJoin5
import Derived.Test.YtaopifoidbdniaaGreatJoin9
import Derived.Test.YtaopifoidbdniaaGreatJoin10
namespace Go.Proofs.YtaopifoidbdniaaGreat
section
open Go Go.SL
section
theorem tfit_nil {h : Shp} (hh : ShOk h) : TFit h [] := ⟨List.Pairwise.nil, by have := hh.rows; simp only [List.length_nil]; omega, fun p hp => by cases hp⟩
theorem tells_new (shs : List Shp) (hsh : ∀ h ∈ shs, ShOk h) : Tells shs lg0 (List.replicate shs.length []) [] where
 fit := ⟨List.length_replicate, fun i h R h1 h2 => by
  rw [List.getElem?_replicate] at h2
  split at h2
  · cases h2
    exact tfit_nil (hsh h (List.mem_of_getElem? h1))
  · cases h2⟩
 snap := .inl ⟨rfl, rfl⟩
 txs := rfl
 can := fun j cs h => by simp at h
 ok := fun cs h => by cases h
end
section
attribute [local irreducible] J JL JE JM LS Y Fc RV Code.wp wpList Code.wpIn wpListIn
attribute [local irreducible] Yc ltS
variable (E : World)
theorem log13_spec (N : Nat) (h1 : 64 ≤ N) (h2 : N ≤ 512) (l : List HProp) :
 Fc prog E 12 [.int .i64 (N : Int)].toArray l (fun v l' => ∃ lg st d, v = .tuple #[.pointer (some ⟨lg, 0, none⟩), .pointer (some ⟨d, 0, none⟩)] ∧ l' = logm lg st lg0 :: row st 205 (scells sb0 d) :: disk d (Dk.new N).formatted :: l) := by
 obtain ⟨hL0, hl0⟩ := lh_format h1 h2
 obtain ⟨D0, hD0⟩ : ∃ D0, (Dk.new N).formatted = D0 := ⟨_, rfl⟩
 have hfmt : ∀ (d : Nat) l, Fc prog E 62 [.pointer (some ⟨d, 0, none⟩)].toArray (disk d (Dk.new N) :: l) (fun v l' => ∃ st, v = .tuple #[.pointer (some ⟨st, 0, none⟩), .int .i64 0] ∧ l' = row st 205 (scells sb0 d) :: disk d (Dk.new N).formatted :: l) := fun d l => format_good E d (Dk.new N) l (by simp [Dk.new]; omega) U U (by simp [Dk.new])
 rw [hD0] at hL0 ⊢
 refine Va (c := ?codeC) Tryz.func12 ?hb Tryz.ntmps12 ?hl ?_
 case hb => exact rfl
 case hl => exact rfl
 refine Jh (Je (Jb (Jf rfl) U U U (Jb (Jf rfl) U U U ?_)))
 refine Jg (Ja (Jh (Je (Jb (Jd rfl) U U U ?_))))
 refine Jl rfl (Jw e46 U U (new_good E N _ (by omega) (by omega)) ?_)
 rintro _ _ ⟨d, rfl, rfl⟩
 refine Jb (Jd rfl) U U U (Jb (Vg U U) U U U (Jb (Vg U U) U U U (Jb (Jf rfl) U U U (Jb (Jf rfl) U U U ?_))))
 refine Jg (Ja (Jh (Jh (Je (Jb (Jd rfl) U U U (Jb (y_neq U U) U U U ?_))))))
 refine Jg (Ja ?_)
 refine Vk rfl zbl ?_
 refine Vd (Ja (Jh (Je (Jb (Jd rfl) U U U ?_))))
 refine Jl rfl (Jw e62 U U (Vw (Ji zpk Jj) (hfmt d _)) ?_)
 rintro _ _ ⟨st, rfl, rfl⟩
 refine Jb (Jd rfl) U U U (Jb (Vg U U) U U U (Jb (Vg U U) U U U (Jb (Jf rfl) U U U (Jb (Jf rfl) U U U ?_))))
 refine Jg (Ja (Jh (Jh (Je (Jb (Jd rfl) U U U (Jb (y_neq U U) U U U ?_))))))
 refine Jg (Ja ?_)
 refine Vk rfl zbl ?_
 refine Vd (Ja (Jh (Je (Jb (Jd rfl) U U U ?_))))
 refine Jl rfl (Jw e63 U U (Vw (Ji zpk (Ji zpk Jj)) (lopen_lh E st d sb0 (Dk.new N).formatted lg0 _ (hD0 ▸ hL0))) ?_)
 rintro _ _ ⟨lg, rfl, rfl⟩
 refine Jb (Jd rfl) U U U (Jb (Vg U U) U U U (Jb (Vg U U) U U U (Jb (Jf rfl) U U U (Jb (Jf rfl) U U U ?_))))
 refine Jg (Ja (Jh (Jh (Je (Jb (Jd rfl) U U U (Jb (y_neq U U) U U U ?_))))))
 refine Jg (Ja ?_)
 refine Vk rfl zbl ?_
 refine Vd (Ja (Jh (Je (Jb (Jd rfl) U U U (Jb (Jd rfl) U U U (Jb (Jf rfl) U U U (Jb (Jf rfl) U U U ?_)))))))
 refine Jg (Ja (Vn ?_))
 refine JE.ret2 (.inl rfl) U U zrv zrv ?_
 rw [hD0]
 exact ⟨lg, st, d, rfl, rfl⟩
theorem again13_spec (d : Nat) {S : Sb} {D : Dk} {L : Lg} (l : List HProp) (h : LH S D L) (h64 : 64 ≤ D.safe.length) :
 Fc prog E 38 [.pointer (some ⟨d, 0, none⟩)].toArray (disk d D :: l)
  (fun v l' => ∃ lg st, v = .pointer (some ⟨lg, 0, none⟩) ∧ l' = logm lg st L :: row st 205 (scells S d) :: disk d D :: l) := by
 refine Va (c := ?codeC) Tryz.func38 ?hb Tryz.ntmps38 ?hl ?_
 case hb => exact rfl
 case hl => exact rfl
 refine Jh (Je (Jb (Jf rfl) U U U ?_))
 refine Jg (Ja (Jh (Je (Jb (Jd rfl) U U U ?_))))
 refine Jl rfl (Jw e87 U U (Vw (Ji zpk Jj) (open_holds E d D S L.snap _ h.holds h64)) ?_)
 rintro _ _ ⟨st, rfl, rfl⟩
 refine Jb (Jd rfl) U U U (Jb (Vg U U) U U U (Jb (Vg U U) U U U (Jb (Jf rfl) U U U (Jb (Jf rfl) U U U ?_))))
 refine Jg (Ja (Jh (Jh (Je (Jb (Jd rfl) U U U (Jb (y_neq U U) U U U ?_))))))
 refine Jg (Ja ?_)
 refine Vk rfl zbl ?_
 refine Vd (Ja (Jh (Je (Jb (Jd rfl) U U U ?_))))
 refine Jl rfl (Jw e63 U U (Vw (Ji zpk (Ji zpk Jj)) (lopen_lh E st d S D L _ h)) ?_)
 rintro _ _ ⟨lg, rfl, rfl⟩
 refine Jb (Jd rfl) U U U (Jb (Vg U U) U U U (Jb (Vg U U) U U U (Jb (Jf rfl) U U U (Jb (Jf rfl) U U U ?_))))
 refine Jg (Ja (Jh (Jh (Je (Jb (Jd rfl) U U U (Jb (y_neq U U) U U U ?_))))))
 refine Jg (Ja ?_)
 refine Vk rfl zbl ?_
 refine Vd (Ja (Jh (Je (Jb (Jd rfl) U U U (Jb (Jf rfl) U U U ?_)))))
 refine Jg (Ja (Vn ?_))
 refine Vi (.inl rfl) U U zrv ?_
 exact ⟨lg, st, rfl, rfl⟩
theorem wakes13_spec (l : List HProp) : Fc prog E 11 [].toArray l (fun v l' => v = .bool true ∧ l' = l) := by
 refine Fc.eqs ?_
 have hsh : ∀ h ∈ [Shp.mk 2 3 4], ShOk h := fun h hh => by
  simp only [List.mem_singleton] at hh
  subst hh
  exact ⟨⟨by decide, by decide⟩, ⟨by decide, by decide⟩, ⟨by decide, by decide⟩⟩
 obtain ⟨hL, hl⟩ := lh_format (n := 64) (by decide) (by decide)
 obtain ⟨tx, htx⟩ : ∃ tx, txB [⟨true, 0, ⟨#[97]⟩, ⟨#[1]⟩⟩] = tx := ⟨_, rfl⟩
 have hch : ∀ c ∈ [Chg.mk true 0 ⟨#[97]⟩ ⟨#[1]⟩], ChOk c := fun c hc => by
  simp only [List.mem_singleton] at hc
  subst hc
  exact ⟨by decide, by decide, by decide⟩
 have hsm : Small tx := by rw [← htx]; exact txB_small hch (by decide)
 have htl : tx.length = 10 := by rw [← htx]; rfl
 obtain ⟨D1, e1, hL1⟩ := hL.append hsm (by rw [htl]; decide)
 have hput : ∀ b lg p l, InL l p 1 1 (ints .u8 [1]) → Fc prog E 32 [.pointer (some ⟨b, 0, none⟩), .int .i64 0, .string ⟨#[97]⟩, .slice p 1 1].toArray (baseM b lg ⟨[⟨2, 3, 4⟩], [[]], [[]], []⟩ :: l) (fun v l' => v = .int .i64 0 ∧ l' = baseM b lg ⟨[⟨2, 3, 4⟩], [[]], [[(⟨#[97]⟩, ⟨#[1]⟩)]], [⟨true, 0, ⟨#[97]⟩, ⟨#[1]⟩⟩]⟩ :: l) := fun b lg p l hin =>
  put_spec E b lg ⟨[⟨2, 3, 4⟩], [[]], [[]], []⟩ 0 ⟨2, 3, 4⟩ [] ⟨#[97]⟩ ⟨#[1]⟩ p 1 (by decide) (by decide) U U List.Pairwise.nil (by decide) (by decide) (by decide) l hin
 have hcm : ∀ b lg st d l, Fc prog E 35 [.pointer (some ⟨b, 0, none⟩)].toArray (baseM b lg ⟨[⟨2, 3, 4⟩], [[]], [[(⟨#[97]⟩, ⟨#[1]⟩)]], [⟨true, 0, ⟨#[97]⟩, ⟨#[1]⟩⟩]⟩ :: logm lg st lg0 :: row st 205 (scells sb0 d) :: disk d (Dk.new 64).formatted :: l)
  (fun v l' => v = .int .i64 0 ∧ l' = baseM b lg ⟨[⟨2, 3, 4⟩], [[(⟨#[97]⟩, ⟨#[1]⟩)]], [[(⟨#[97]⟩, ⟨#[1]⟩)]], []⟩ :: logm lg st { lg0 with txs := lg0.txs ++ [tx], used := lg0.used + needN tx.length } :: row st 205 (scells sb0 d) :: disk d D1 :: l) := fun b lg st d l =>
  commit_one E b lg st d ⟨[⟨2, 3, 4⟩], [[]], [[(⟨#[97]⟩, ⟨#[1]⟩)]], [⟨true, 0, ⟨#[97]⟩, ⟨#[1]⟩⟩]⟩ sb0 (Dk.new 64).formatted D1 lg0 _ 0 (by decide) (by simp) (by decide) hch (by decide) (fun p c l hin => by
   rw [htx] at hin ⊢
   exact append_lh E lg st d l hL tx p c _ rfl hsm (by decide) e1 hin) l
 have hget : ∀ b lg l, Fc prog E 18 [.pointer (some ⟨b, 0, none⟩), .int .i64 0, .string ⟨#[97]⟩].toArray (baseM b lg ⟨[⟨2, 3, 4⟩], [[(⟨#[97]⟩, ⟨#[1]⟩)]], [[(⟨#[97]⟩, ⟨#[1]⟩)]], []⟩ :: l) (fun u l' => ∃ g c K, InL [K] (some ⟨g, 0, none⟩) 1 c (ints .u8 [1]) ∧ u = .tuple #[.slice (some ⟨g, 0, none⟩) 1 c, .int .i64 0] ∧ l' = K :: baseM b lg ⟨[⟨2, 3, 4⟩], [[(⟨#[97]⟩, ⟨#[1]⟩)]], [[(⟨#[97]⟩, ⟨#[1]⟩)]], []⟩ :: l) := fun b lg l =>
  tget_some E b lg ⟨[⟨2, 3, 4⟩], [[(⟨#[97]⟩, ⟨#[1]⟩)]], [[(⟨#[97]⟩, ⟨#[1]⟩)]], []⟩ 0 [(⟨#[97]⟩, ⟨#[1]⟩)] ⟨#[97]⟩ ⟨#[1]⟩ (by decide) (by decide) rfl (List.pairwise_singleton ..) rfl (by decide) l
 have hlen : ∀ d l, Fc prog E 61 [.pointer (some ⟨d, 0, none⟩)].toArray (disk d D1 :: l) (fun v l' => v = .int .i64 64 ∧ l' = disk d D1 :: l) := fun d l => by
  have q := len_spec E d D1 l
  rwa [hL1.2, hl] at q
 refine Va (c := ?codeC) Tryz.func11 ?hb Tryz.ntmps11 ?hl ?_
 case hb => exact rfl
 case hl => exact rfl
 refine Jh (Je (Jb (Jf rfl) U U U ?_))
 refine Jg (Ja (Jh (Je ?_)))
 refine Jl rfl (Jw e12 U U (log13_spec E 64 (by omega) (by omega) _) ?_)
 rintro _ _ ⟨lg, st, d, rfl, rfl⟩
 refine Jb (Jd rfl) U U U (Jb (Vg U U) U U U (Jb (Vg U U) U U U (Jb (Jf rfl) U U U (Jb (Jf rfl) U U U ?_))))
 refine Jg (Ja (Jh (Je (Jb (Jd rfl) U U U ?_))))
 refine Jb (y_build (cs := [_, _, _]) hT U U U U U U ⟨⟨zln, Nat.le_of_ble_eq_true rfl⟩, ⟨⟨zln, Nat.le_of_ble_eq_true rfl⟩, ⟨⟨zln, Nat.le_of_ble_eq_true rfl⟩, trivial⟩⟩⟩ rfl) U U U ?_
 refine Jl rfl (l_buildSliceP (cs := shC ⟨2, 3, 4⟩) hT U U U U U U U (fill_one U U) rfl (fun bS => ?_))
 refine Jl rfl (Jw e13 U U (Vw (Ji zpk Jj) (topen_good E lg st 1 lg0 [⟨2, 3, 4⟩] [[]] [] _ _ rfl (by omega) (by omega) hsh (tells_new _ hsh) (by simp) _ (InL.ofRow zpk (by decide)))) ?_)
 rintro _ _ ⟨b, rfl, rfl⟩
 refine Jb (Jd rfl) U U U (Jb (Vg U U) U U U (Jb (Vg U U) U U U (Jb (Jf rfl) U U U (Jb (Jf rfl) U U U ?_))))
 refine Jg (Ja (Jh (Jh (Je (Jb (Jd rfl) U U U (Jb (y_neq U U) U U U (Jb (Jd rfl) U U U ?_)))))))
 all_goals (first | (refine Vh U U U (fun h => ?_) (fun h => ?_) <;> try (first | (exfalso; omega) | exact absurd rfl h)) | (refine Vr U U U (fun h => ?_) (fun h => ?_) <;> try (first | cases h | (exfalso; simp at h; done))) | skip)
 all_goals (first | refine Js U U U U U U ?_ | refine Jp U U U U U ?_ | refine Jt U U U (Jd rfl) U U ?_)
 all_goals (first | refine Js U U U U U U ?_ | refine Jp U U U U U ?_ | (refine JL.gloud U U U (l_buildSliceP hT U U U U U U U zfl rfl (fun b3 => ?_))))
 all_goals (first | refine Js U U U U U U ?_ | refine Jp U U U U U ?_ | (refine JL.gloud U U U (Jw e32 U U (Vw (Ji zpk Jj) (hput b lg _ _ (InL.ofRow (cs := ints .u8 [1]) zpk (by decide)))) ?_); rintro _ _ ⟨rfl, rfl⟩))
 all_goals (first | refine Js U U U U U U ?_ | refine Jp U U U U U ?_ | refine Jt U U U (y_neq U U) U U ?_)
 all_goals (refine Jb (Wb U U U) U U U ?_)
 all_goals (refine Jb (Jd rfl) U U U ?_)
 all_goals (first | (refine Vh U U U (fun h => ?_) (fun h => ?_) <;> try (first | (exfalso; omega) | exact absurd rfl h)) | (refine Vr U U U (fun h => ?_) (fun h => ?_) <;> try (first | cases h | (exfalso; simp at h; done))) | skip)
 all_goals (first | refine Js U U U U U U ?_ | refine Jp U U U U U ?_ | refine Jt U U U (Jd rfl) U U ?_)
 all_goals (first | refine Js U U U U U U ?_ | refine Jp U U U U U ?_ | (refine JL.gloud U U U (Jw e35 U U (Vw (Ji zpk (Ji zpk (Ji zpk (Ji zpk Jj)))) (hcm b lg st d _)) ?_); rintro _ _ ⟨rfl, rfl⟩))
 all_goals (first | refine Js U U U U U U ?_ | refine Jp U U U U U ?_ | refine Jt U U U (y_neq U U) U U ?_)
 all_goals (refine Jb (Wb U U U) U U U ?_)
 all_goals (refine Jb (Jd rfl) U U U ?_)
 all_goals (first | (refine Vh U U U (fun h => ?_) (fun h => ?_) <;> try (first | (exfalso; omega) | exact absurd rfl h)) | (refine Vr U U U (fun h => ?_) (fun h => ?_) <;> try (first | cases h | (exfalso; simp at h; done))) | skip)
 all_goals (first | refine Js U U U U U U ?_ | refine Jp U U U U U ?_ | refine Jt U U U (Jd rfl) U U ?_)
 all_goals (first | refine Js U U U U U U ?_ | refine Jp U U U U U ?_ | (refine JL.gloud U U U (Jw e61 U U (Vw (Ji zpk Jj) (hlen d _)) ?_); rintro _ _ ⟨rfl, rfl⟩))
 all_goals (first | refine Js U U U U U U ?_ | refine Jp U U U U U ?_ | refine Jt U U U (y_neq U U) U U ?_)
 all_goals (refine Jb (Wb U U U) U U U ?_)
 all_goals refine Jg (Ja ?_)
 all_goals
  first | apply Jx rfl | apply Vo rfl
  case' ht =>
   intro h
   try (first | exact zom | exact zho h | subst h)
   all_goals
    refine Jh (Je (Jb (Jf rfl) U U U ?_))
    refine Jg (Ja (Vn (Vb ?_)))
    refine Vi (.inl rfl) U U zrv ?_
    exact ⟨rfl, fun w q => q.sup zsup⟩
  case' hf =>
   intro h
   try (first | exact zom | exact zho h | subst h)
   all_goals
    refine Vd ?_
 all_goals refine Ja ?_
 all_goals
  refine Jh (Je (Jb (Jd rfl) U U U ?_))
  refine Jl rfl (Jw e18 U U (Vw (Ji zpk Jj) (hget b lg _)) ?_)
  rintro _ _ ⟨gg, gc, KK, hKK, rfl, rfl⟩
  refine Jb (Jd rfl) U U U (Jb (Vg U U) U U U (Jb (Vg U U) U U U (Jb (Jf rfl) U U U (Jb (Jf rfl) U U U ?_))))
  refine Jg (Ja (Jh (Je (Jb (Jd rfl) U U U (Jb (y_eql U U) U U U (Jb (Jd rfl) U U U ?_))))))
  all_goals (first | (refine Vh U U U (fun h => ?_) (fun h => ?_) <;> try (first | (exfalso; omega) | exact absurd rfl h)) | (refine Vr U U U (fun h => ?_) (fun h => ?_) <;> try (first | cases h | (exfalso; simp at h; done))) | skip)
  all_goals (first | refine Js U U U U U U ?_ | refine Jp U U U U U ?_ | refine Jt U U U (Jd rfl) U U ?_)
  all_goals (first | refine Js U U U U U U ?_ | refine Jp U U U U U ?_ | refine Jt U U U (Vf hT U U U) U U ?_)
  all_goals (first | refine Js U U U U U U ?_ | refine Jp U U U U U ?_ | refine Jt U U U (y_eql U U) U U ?_)
  all_goals (refine Jb (Wb U U U) U U U ?_)
  all_goals (refine Jb (Jd rfl) U U U ?_)
  all_goals (first | (refine Vh U U U (fun h => ?_) (fun h => ?_) <;> try (first | (exfalso; omega) | exact absurd rfl h)) | (refine Vr U U U (fun h => ?_) (fun h => ?_) <;> try (first | cases h | (exfalso; simp at h; done))) | skip)
  all_goals (first | refine Js U U U U U U ?_ | refine Jp U U U U U ?_ | refine Jt U U U (Jd rfl) U U ?_)
  all_goals (first | refine Js U U U U U U ?_ | refine Jp U U U U U ?_ | refine Jt U U U (Jn hT U U U U U zix zix) U U ?_)
  all_goals (refine Jt U U U (Jo hT U U U (Rd1.elem (i := 0) (v := .int .u8 1) (InL.rdN (hKK.kept Jm) (by decide)) rfl)) U U ?_)
  all_goals (first | refine Js U U U U U U ?_ | refine Jp U U U U U ?_ | refine Jt U U U (y_eql U U) U U ?_)
  all_goals (refine Jb (Wb U U U) U U U ?_)
  all_goals (refine Jb (Jd rfl) U U U ?_)
  all_goals (first | (refine Vh U U U (fun h => ?_) (fun h => ?_) <;> try (first | (exfalso; omega) | exact absurd rfl h)) | (refine Vr U U U (fun h => ?_) (fun h => ?_) <;> try (first | cases h | (exfalso; simp at h; done))) | skip)
  all_goals (first | refine Js U U U U U U ?_ | refine Jp U U U U U ?_ | refine Jt U U U (Jd rfl) U U ?_)
  all_goals (first | refine Js U U U U U U ?_ | refine Jp U U U U U ?_ | (refine JL.gloud U U U (Jw e34 U U (Vw (Ji zpk Jj) (dirty_spec E b lg _ _)) ?_); rintro _ _ ⟨rfl, rfl⟩))
  all_goals (first | refine Js U U U U U U ?_ | refine Jp U U U U U ?_ | refine Jt U U U (y_eql U U) U U ?_)
  all_goals (refine Jb (Wb U U U) U U U ?_)
  all_goals (refine Jb (Jf rfl) U U U ?_)
  all_goals refine Jg (Ja ?_)
  all_goals
   refine Vn ?_
   refine Vi (.inl rfl) U U zrv ?_
   exact ⟨rfl, fun w q => q.sup zsup⟩
end
end
section
open Go Go.SL
section
structure BOk (B : Bs) (n : Nat) : Prop where
 fit : SFit B.shs B.kept
 sh : ∀ h ∈ B.shs, ShOk h
 n8 : B.shs.length ≤ 8
 can : Cans B.shs B.kept B.turned
 meant : B.meant = chsS B.kept B.turned
 ok : ∀ c ∈ B.turned, ChOk c
 few : B.turned.length ≤ n
theorem BOk.mfit {B : Bs} {n : Nat} (h : BOk B n) : SFit B.shs B.meant := by
 have q := h.fit.chsS h.can B.turned.length
 rw [List.take_length] at q
 rw [h.meant]
 exact q
theorem SFit.rok {shs : List Shp} {Rs : List (List Rw)} (h : SFit shs Rs) (hsh : ∀ h ∈ shs, ShOk h) : ∀ R ∈ Rs, ROk R := fun R hR => by
 obtain ⟨i, hi, rfl⟩ := List.getElem_of_mem hR
 have hi2 : i < shs.length := by rw [← h.len]; exact hi
 exact (h.fit i _ _ (List.getElem?_eq_getElem hi2) (List.getElem?_eq_getElem hi)).ok (hsh _ (List.getElem_mem hi2))
theorem SFit.few {shs : List Shp} {Rs : List (List Rw)} (h : SFit shs Rs) {K : Nat} (hK : ∀ h ∈ shs, h.rows ≤ K) : ∀ R ∈ Rs, R.length ≤ K := fun R hR => by
 obtain ⟨i, hi, rfl⟩ := List.getElem_of_mem hR
 have hi2 : i < shs.length := by rw [← h.len]; exact hi
 have h1 := (h.fit i _ _ (List.getElem?_eq_getElem hi2) (List.getElem?_eq_getElem hi)).few
 have h2 := hK _ (List.getElem_mem hi2)
 omega
theorem Cans.snoc {shs : List Shp} {Rs : List (List Rw)} {cs : List Chg} {c : Chg} (h : Cans shs Rs cs) (hc : Can shs (Go.Proofs.YtaopifoidbdniaaGreat.chsS Rs cs) c) : Cans shs Rs (cs ++ [c]) := fun j d hd => by
 rcases Nat.lt_or_ge j cs.length with hj | hj
 · rw [List.getElem?_append_left hj] at hd
   rw [List.take_append_of_le_length (by omega)]
   exact h j d hd
 · have hlt := (List.getElem?_eq_some_iff.1 hd).1
   simp only [List.length_append, List.length_cons, List.length_nil] at hlt
   obtain rfl : j = cs.length := by omega
   rw [List.getElem?_append_right (Nat.le_refl _), Nat.sub_self] at hd
   cases hd
   rw [List.take_append_of_le_length (Nat.le_refl _), List.take_length]
   exact hc
theorem putE_zero {s : Shp} {R : List Rw} {k v : ByteArray} (h : putE s R k v = 0) : FitR s k v ∧ (rget R k = none → (R.length : Int) ≠ s.rows) := by
 unfold putE at h
 split at h
 · cases h
 · next h1 =>
   split at h
   · cases h
   · next h2 =>
     split at h
     · cases h
     · next h3 => exact ⟨⟨by omega, by omega, by omega⟩, fun e1 e2 => h3 ⟨e1, e2⟩⟩
theorem BOk.put {B : Bs} {n i : Nat} {s : Shp} {R : List Rw} {k v : ByteArray} (h : BOk B n) (hs : B.shs[i]? = some s) (hR : B.meant[i]? = some R) (he : putE s R k v = 0) : BOk (B.put i R k v) (n + 1) := by
 have hf := h.mfit.fit i s R hs hR
 have hz := putE_zero he
 have hc : Can B.shs B.meant ⟨true, i, k, v⟩ := ⟨s, R, hs, hR, .inl ⟨rfl, hz.1, fun e => by
  have h1 := hf.few
  have h2 := hz.2 e
  omega⟩⟩
 have hok := hc.ok h.mfit h.sh h.n8 (fun e => by cases e)
 refine ⟨h.fit, h.sh, h.n8, ?_, ?_, fun c hcm => ?_, ?_⟩
 · exact h.can.snoc (by rw [← h.meant]; exact hc)
 · show B.meant.set i (rins R k v) = chsS B.kept (B.turned ++ [⟨true, i, k, v⟩])
   rw [chsS_snoc, ← h.meant, chS]
   dsimp only
   rw [List.getD_eq_getElem?_getD, hR]
   rfl
 · rcases List.mem_append.1 hcm with hcm | hcm
   · exact h.ok c hcm
   · rw [List.mem_singleton.1 hcm]; exact hok
 · show (B.turned ++ [_]).length ≤ _
   have := h.few
   simp only [List.length_append, List.length_cons, List.length_nil]
   omega
theorem BOk.del {B : Bs} {n i : Nat} {s : Shp} {R : List Rw} {k : ByteArray} (h : BOk B n) (hs : B.shs[i]? = some s) (hR : B.meant[i]? = some R) (he : rget R k ≠ none) : BOk (B.del i R k) (n + 1) := by
 have hc : Can B.shs B.meant ⟨false, i, k, ⟨#[]⟩⟩ := ⟨s, R, hs, hR, .inr ⟨rfl, he⟩⟩
 have hok := hc.ok h.mfit h.sh h.n8 (fun _ => by show (0 : Nat) ≤ 1024; decide)
 refine ⟨h.fit, h.sh, h.n8, ?_, ?_, fun c hcm => ?_, ?_⟩
 · exact h.can.snoc (by rw [← h.meant]; exact hc)
 · show B.meant.set i (rrem R k) = chsS B.kept (B.turned ++ [⟨false, i, k, ⟨#[]⟩⟩])
   rw [chsS_snoc, ← h.meant, chS]
   dsimp only
   rw [List.getD_eq_getElem?_getD, hR]
   rfl
 · rcases List.mem_append.1 hcm with hcm | hcm
   · exact h.ok c hcm
   · rw [List.mem_singleton.1 hcm]; exact hok
 · show (B.turned ++ [_]).length ≤ _
   have := h.few
   simp only [List.length_append, List.length_cons, List.length_nil]
   omega
theorem cans_nil (shs : List Shp) (Rs : List (List Rw)) : Cans shs Rs [] := fun j c h => by simp at h
theorem BOk.start {shs : List Shp} {Rs : List (List Rw)} (h : SFit shs Rs) (hsh : ∀ h ∈ shs, ShOk h) (h8 : shs.length ≤ 8) (n : Nat) : BOk ⟨shs, Rs, Rs, []⟩ n := ⟨h, hsh, h8, cans_nil _ _, rfl, fun c h => (by cases h), Nat.zero_le _⟩
theorem BOk.abort {B : Bs} {n : Nat} (h : BOk B n) (m : Nat) : BOk { B with meant := B.kept, turned := [] } m := BOk.start h.fit h.sh h.n8 m
theorem BOk.done {B : Bs} {n : Nat} (h : BOk B n) (m : Nat) : BOk B.done m := BOk.start h.mfit h.sh h.n8 m
theorem BOk.mono {B : Bs} {n m : Nat} (h : BOk B n) (hm : n ≤ m) : BOk B m := ⟨h.fit, h.sh, h.n8, h.can, h.meant, h.ok, Nat.le_trans h.few hm⟩
def Ties (shs : List Shp) (kept : List (List Rw)) (L : Lg) (m : Nat) : Prop := ∃ Rs0 css, Tells shs L Rs0 css ∧ kept = css.foldl chsS Rs0 ∧ css.length ≤ m
theorem Ties.mono {shs : List Shp} {kept : List (List Rw)} {L : Lg} {m k : Nat} (h : Ties shs kept L m) (hk : m ≤ k) : Ties shs kept L k := let ⟨a, b, c, d, e⟩ := h; ⟨a, b, c, d, by omega⟩
theorem Ties.new {shs : List Shp} (hsh : ∀ h ∈ shs, ShOk h) : Ties shs (List.replicate shs.length []) lg0 0 := ⟨_, [], tells_new shs hsh, rfl, Nat.le_refl _⟩
theorem Ties.fit {shs : List Shp} {kept : List (List Rw)} {L : Lg} {m : Nat} (h : Ties shs kept L m) : SFit shs kept := by
 obtain ⟨Rs0, css, hT, rfl, _⟩ := h
 have q := hT.fits css.length
 rwa [List.take_length] at q
theorem Ties.txs {shs : List Shp} {kept : List (List Rw)} {L : Lg} {m : Nat} (h : Ties shs kept L m) : L.txs.length ≤ m := by
 obtain ⟨Rs0, css, hT, rfl, hm⟩ := h
 rw [hT.txs, List.length_map]
 exact hm
theorem Ties.append {B : Bs} {L A : Lg} {m n u : Nat} (h : Ties B.shs B.kept L m) (hB : BOk B n) (hn : n ≤ 900) (hA : { L with txs := L.txs ++ [txB B.turned], used := u } = A) : Ties B.shs B.meant A (m + 1) := by
 obtain ⟨Rs0, css, hT, hk, hm⟩ := h
 subst hA
 refine ⟨Rs0, css ++ [B.turned], ⟨hT.fit, hT.snap, ?_, fun j cs hj => ?_, fun cs hcs => ?_⟩, ?_, by simp only [List.length_append, List.length_cons, List.length_nil]; omega⟩
 · rw [List.map_append, ← hT.txs]; rfl
 · rcases Nat.lt_or_ge j css.length with hlt | hge
   · rw [List.getElem?_append_left hlt] at hj
     rw [List.take_append_of_le_length (by omega)]
     exact hT.can j cs hj
   · have hlt := (List.getElem?_eq_some_iff.1 hj).1
     simp only [List.length_append, List.length_cons, List.length_nil] at hlt
     obtain rfl : j = css.length := by omega
     rw [List.getElem?_append_right (Nat.le_refl _), Nat.sub_self] at hj
     cases hj
     rw [List.take_append_of_le_length (Nat.le_refl _), List.take_length, ← hk]
     exact hB.can
 · rcases List.mem_append.1 hcs with hcs | hcs
   · exact hT.ok cs hcs
   · rw [List.mem_singleton.1 hcs]
     exact ⟨hB.ok, by have := hB.few; omega⟩
 · rw [List.foldl_append, ← hk, hB.meant]
   rfl
theorem Ties.check {B : Bs} {A : Lg} {n : Nat} (hB : BOk B n) (hA : (⟨stB B.meant, [], 0, false⟩ : Lg) = A) (m : Nat) : Ties B.shs B.meant A m := by
 subst hA
 exact ⟨B.meant, [], ⟨hB.mfit, .inr rfl, rfl, fun j cs h => (by simp at h), fun cs h => (by cases h)⟩, rfl, Nat.zero_le _⟩
theorem stB_small {Rs : List (List Rw)} (h : ∀ R ∈ Rs, ROk R) (hn : Rs.length ≤ 8) : Small (stB Rs) := ⟨stB_bytes Rs, by
 have := stB_le h hn Rs.length
 rw [List.take_length] at this
 omega⟩
end
section
attribute [local irreducible] J JL JE JM LS Y Fc RV Code.wp wpList Code.wpIn wpListIn
attribute [local irreducible] Yc ltS
variable (E : World)
end
end
section
open Go Go.SL
section
def putStep (B : Bs) (i : Nat) (k v : ByteArray) : Bs := match B.shs[i]?, B.meant[i]? with
 | some s, some R => if putE s R k v = 0 then B.put i R k v else B
 | _, _ => B
theorem putStep_kept (B : Bs) (i : Nat) (k v : ByteArray) : (putStep B i k v).shs = B.shs ∧ (putStep B i k v).kept = B.kept := by
 unfold putStep
 split
 · split
   · exact ⟨rfl, rfl⟩
   · exact ⟨rfl, rfl⟩
 · exact ⟨rfl, rfl⟩
theorem putStep_ok {B : Bs} {n : Nat} (h : BOk B n) (i : Nat) (k v : ByteArray) : BOk (putStep B i k v) (n + 1) := by
 unfold putStep
 split
 · next s R hs hR =>
   split
   · next he => exact h.put hs hR he
   · exact h.mono (Nat.le_succ _)
 · exact h.mono (Nat.le_succ _)
end
section
attribute [local irreducible] J JL JE JM LS Y Fc RV Code.wp wpList Code.wpIn wpListIn
attribute [local irreducible] Yc ltS
variable (E : World)
end
end
section
open Go Go.SL
end
section
open Go Go.SL
section
attribute [local irreducible] J JL JE JM LS Y Fc RV Code.wp wpList Code.wpIn wpListIn
attribute [local irreducible] Yc ltS
variable (E : World)
theorem topen_ties (lg st n : Nat) (L : Lg) (shs : List Shp) (kept : List (List Rw)) (m : Nat) (sp : Option Addr) (sc : Nat) (hT1 : Ties shs kept L m) (hm : m ≤ 512) (hn : shs.length = n) (h0 : 0 < n) (hn8 : n ≤ 8) (hsh : ∀ h ∈ shs, ShOk h) (l : List HProp) (hin : InL l sp n sc (shs.flatMap shC)) :
 Fc prog E 13 [.pointer (some ⟨lg, 0, none⟩), .slice sp n sc].toArray (logm lg st L :: l)
  (fun v l' => ∃ b, v = .tuple #[.pointer (some ⟨b, 0, none⟩), .int .i64 0] ∧ l' = baseM b lg ⟨shs, kept, kept, []⟩ :: logm lg st L :: l) := by
 obtain ⟨Rs0, css, hTl, rfl, hc⟩ := hT1
 exact topen_good E lg st n L shs Rs0 css sp sc hn h0 hn8 hsh hTl (by omega) l hin
theorem state13 {K n : Nat} (hS : SortOk E K) (b lg : Nat) (B : Bs) (hB : BOk B n) (hK : ∀ h ∈ B.shs, h.rows ≤ K) (T : List Int) (hT2 : stB B.meant = T) (l : List HProp) :
 Fc prog E 20 [.pointer (some ⟨b, 0, none⟩)].toArray (baseM b lg B :: l) (fun v l' => ∃ a c, v = .slice a T.length c ∧ l' = own 5 1 (.slice a T.length c) T.length (ints .u8 T) :: baseM b lg B :: l) := by
 subst hT2
 exact (state_spec E hS b lg B hB.n8 (hB.mfit.rok hB.sh) (hB.mfit.few hK) l).mono fun v l' ⟨a, c, h1, h2⟩ => ⟨a, c, h1, by rw [h2, h1]⟩
theorem BOk.small {B : Bs} {n : Nat} (hB : BOk B n) : Small (stB B.meant) := stB_small (hB.mfit.rok hB.sh) (by rw [hB.mfit.len]; exact hB.n8)
theorem chsS_nil (Rs : List (List Rw)) : chsS Rs [] = Rs := rfl
theorem BOk.clean {B : Bs} {n : Nat} (hB : BOk B n) (ht : B.turned = []) : B.done = B := by
 have h := hB.meant
 rw [ht, chsS_nil] at h
 cases B
 simp only at ht h
 subst ht h
 rfl
theorem commit_none {K : Nat} (hS : SortOk E K) {S : Sb} {D : Dk} {L : Lg} {B : Bs} {m n : Nat} (h : LH S D L) (hB : BOk B n) (hn : n ≤ 900) (hT : Ties B.shs B.kept L m) (hm : m < 512) (hK : ∀ h ∈ B.shs, h.rows ≤ K) (htn : S.turn.toNat + 1 < 18446744073709551616) :
 (∃ La Sa X, LH Sa X La ∧ Ties B.shs B.meant La (m + 1) ∧ X.safe.length = D.safe.length ∧ Sa.turn.toNat ≤ S.turn.toNat + 1 ∧ ∀ (b lg st d : Nat) (l : List HProp), Fc prog E 35 [.pointer (some ⟨b, 0, none⟩)].toArray (baseM b lg B :: logm lg st L :: row st 205 (scells S d) :: disk d D :: l)
   (fun v l' => v = .int .i64 0 ∧ l' = baseM b lg B.done :: logm lg st La :: row st 205 (scells Sa d) :: disk d X :: l)) ∨
 (B.turned ≠ [] ∧ ∀ (b lg st d : Nat) (l : List HProp), Fc prog E 35 [.pointer (some ⟨b, 0, none⟩)].toArray (baseM b lg B :: logm lg st L :: row st 205 (scells S d) :: disk d D :: l)
   (fun v l' => v = .int .i64 3 ∧ l' = baseM b lg B :: logm lg st L :: row st 205 (scells S d) :: disk d D :: l)) := by
 by_cases ht : B.turned = []
 · left
   refine ⟨L, S, D, h, ?_, rfl, Nat.le_succ _, fun b lg st d l => ?_⟩
   · have e : B.meant = B.kept := by rw [hB.meant, ht]; rfl
     rw [e]
     exact hT.mono (Nat.le_succ _)
   · rw [hB.clean ht]
     exact commit_clean E b lg B ht _
 · have hsm := txB_small hB.ok (by have := hB.few; omega)
   have hfew : L.txs.length < 512 := by have := hT.txs; omega
   have hrok := hB.mfit.rok hB.sh
   have hss : Small (stB B.meant) := stB_small hrok (by rw [hB.mfit.len]; exact hB.n8)
   have h9 : B.turned.length ≤ 900 := by have := hB.few; omega
   have h2 := h.holds.fits.two
   have hhash := h.holds.fits.hash
   have hp0 : D.pending.length ≤ 1000 := by rw [h.holds.none]; decide
   have capp : ∀ (lg st d : Nat) (La : Lg) (X : Dk) (e : Int), appL L S D (txB B.turned) = (La, X, e) → ∀ (p : Option Addr) (c : Nat) l, InL l p (txB B.turned).length c (ints .u8 (txB B.turned)) → Fc prog E 84 [.pointer (some ⟨lg, 0, none⟩), .slice p (txB B.turned).length c].toArray (logm lg st L :: row st 205 (scells S d) :: disk d D :: l) (fun v l' => v = .int .i64 e ∧ l' = logm lg st La :: row st 205 (scells S d) :: disk d X :: l) := fun lg st d La X e he p c l hin => by
    have q := lappend_spec E lg st d L S D l hhash h2 (txB B.turned) p c _ rfl hsm (by omega) hfew hin
    rwa [he] at q
   by_cases hroom : L.used + needN (txB B.turned).length ≤ D.slots
   · obtain ⟨D', e, hL, hd⟩ := h.append hsm hroom
     exact .inl ⟨_, S, D', hL, hT.append hB hn rfl, hd, Nat.le_succ _, fun b lg st d l => by
      have q := commit_one E b lg st d B S D D' L _ 0 hB.n8 ht h9 hB.ok (by decide) (capp lg st d _ _ _ e) l
      rwa [if_pos rfl] at q⟩
   · have he := appL_full h hroom
     have cck : ∀ (lg st d : Nat) (La : Lg) (Sa : Sb) (X : Dk) (e : Int), ckL L S D (stB B.meant) = (La, Sa, X, e) → ∀ (p : Option Addr) (c : Nat) l, InL l p (stB B.meant).length c (ints .u8 (stB B.meant)) → Fc prog E 86 [.pointer (some ⟨lg, 0, none⟩), .slice p (stB B.meant).length c].toArray (logm lg st L :: row st 205 (scells S d) :: disk d D :: l) (fun v l' => v = .int .i64 e ∧ l' = logm lg st La :: row st 205 (scells Sa d) :: disk d X :: l) := fun lg st d La Sa X e he p c l hin => by
      have q := lcheck_spec E lg st d L S D l hhash h2 h.holds.fits.place (by omega) (stB B.meant) p c hss hin
      rwa [he] at q
     by_cases hlong : 64 * D.half < (stB B.meant).length
     · exact .inr ⟨ht, fun b lg st d l => by
        have q := commit_two E hS b lg st d B S S D D D L L L 3 hB.n8 ht h9 hB.ok hrok (hB.mfit.few hK) (capp lg st d L _ 6 he) (cck lg st d L S _ 3 (ckL_long h hlong)) l
        rwa [if_neg (by decide)] at q⟩
     · obtain ⟨D', e, hL, hd⟩ := h.check hss (by omega) htn
       exact .inl ⟨_, nextS S (stB B.meant), D', hL, Ties.check hB rfl (m + 1), hd, by rw [next_turn htn]; exact Nat.le_refl _, fun b lg st d l => by
        have q := commit_two E hS b lg st d B S _ D D D' L L _ 0 hB.n8 ht h9 hB.ok hrok (hB.mfit.few hK) (capp lg st d L _ 6 he) (cck lg st d _ _ _ 0 e) l
        rwa [if_pos rfl] at q⟩
end
section
open Go.ChangeShapes Go.WideShapes Go.ChangeAt Go.RowKit
end
end
section
open Go Go.SL
section
def rowC (p : Rw) : List Value := [.string p.1, .string p.2]
theorem rowC_one (p : Rw) : ∀ u ∈ rowC p, u.oneCell' = true := by
 intro u hu
 simp only [rowC, List.mem_cons, List.not_mem_nil, or_false] at hu
 rcases hu with rfl | rfl <;> rfl
def withA (k v : ByteArray) : Bool → List Rw → List Rw
 | d, [] => if d then [] else [(k, v)]
 | d, p :: R => if !d && !ltS p.1 k then (k, v) :: ((if p.1 ≠ k then [p] else []) ++ withA k v true R) else (if p.1 ≠ k then [p] else []) ++ withA k v d R
theorem withA_true (k v : ByteArray) (p : Rw) (R : List Rw) : withA k v true (p :: R) = (if p.1 ≠ k then [p] else []) ++ withA k v true R := by simp [withA]
theorem withA_lt {k v : ByteArray} {p : Rw} (R : List Rw) (h : ltS p.1 k = true) : withA k v false (p :: R) = (if p.1 ≠ k then [p] else []) ++ withA k v false R := by simp [withA, h]
theorem withA_ge {k v : ByteArray} {p : Rw} (R : List Rw) (h : ltS p.1 k = false) : withA k v false (p :: R) = (k, v) :: ((if p.1 ≠ k then [p] else []) ++ withA k v true R) := by simp [withA, h]
theorem withA_rem (k v : ByteArray) : ∀ R : List Rw, withA k v true R = rrem R k
 | [] => rfl
 | p :: R => by
   rw [withA_true, withA_rem k v R, rrem, rrem, List.filter_cons]
   by_cases h : p.1 ≠ k
   · simp [h]
   · have h := Classical.not_not.1 h
     simp [h]
theorem withA_ins (k v : ByteArray) : ∀ {R : List Rw}, Srt R → withA k v false R = rins R k v
 | [], _ => rfl
 | (b, u) :: R, h => by
   have hc := List.pairwise_cons.1 h
   rw [rins]
   by_cases hl : ltS b k = true
   · rw [if_pos hl, withA_lt R hl, if_pos (ltS_ne hl), withA_ins k v hc.2]
     rfl
   · have hl2 : ltS b k = false := by simpa using hl
     have hr : rrem R k = R := List.filter_eq_self.2 fun p hp => by
      simp only [decide_eq_true_eq]
      intro e
      have := hc.1 p hp
      dsimp only at this
      rw [e] at this
      exact hl this
     rw [if_neg hl, withA_ge R hl2, withA_rem, hr]
     by_cases e : b = k
     · simp [e]
     · simp [e]
structure RSt (K : HProp) (v : Value) (Rs : List (List Rw)) : Prop where
 out : ∃ a c vals, v = .slice a Rs.length c ∧ InL [K] a Rs.length c vals ∧ vals.length = Rs.length ∧ ∀ (i : Nat) R, Rs[i]? = some R → ∃ p cc, vals[i]? = some (.slice p R.length cc) ∧ InL [K] p R.length cc (R.flatMap rowC)
theorem RSt.keep {K K2 : HProp} {v : Value} {Rs : List (List Rw)} (h : RSt K v Rs) : RSt (stars [K, K2]) v Rs := by
 obtain ⟨a, c, vals, h1, h2, h3, h4⟩ := h.out
 exact ⟨a, c, vals, h1, h2.keepL, h3, fun i R hi => let ⟨p, cc, h5, h6⟩ := h4 i R hi; ⟨p, cc, h5, h6.keepL⟩⟩
end
section
attribute [local irreducible] J JL JE JM LS Y Fc RV Code.wp wpList Code.wpIn wpListIn
attribute [local irreducible] Yc ltS
variable (E : World)
theorem rempty_spec (n : Nat) (hn : n ≤ 1000) (l : List HProp) : Fc prog E 40 [.int .i64 (n : Int)].toArray l (fun v l' => ∃ g, v = .agg #[.slice (some ⟨g, 0, none⟩) n n] ∧ l' = row g 178 (List.replicate n (.slice none 0 0)) :: l) := by
 refine Wg ?_
 have hmk : (madeCells (Value.slice none 0 0).cells ((n : Int).toNat * i178.size)).toList = List.replicate n (Value.slice none 0 0) := by
  rw [show (Value.slice none 0 0).cells = (List.replicate 1 (Value.slice none 0 0)).toArray from rfl, madeCells_rep _ (by omega), show i178.size = 1 from rfl, Int.toNat_natCast, Nat.mul_one]
 refine Va (c := ?codeC) Tryz.func40 ?hb Tryz.ntmps40 ?hl ?_
 case hb => exact rfl
 case hl => exact rfl
 refine Jh (Je ?_)
 refine Jl rfl (Wf hT U U zcl rfl (fun b1 => ?_))
 refine Jg (Ja (Jh (Je (Jb (Jd rfl) U U U ?_))))
 refine Jl rfl (l_makeSlice hT U U U U U U (by omega) (by omega) (mk_fits rfl (by omega) (by omega)) (by omega) rfl (fun g => ?_))
 rw [hmk]
 refine Jb (y_build (cs := [_]) hT U U U U U U ⟨⟨zln, Nat.le_of_ble_eq_true rfl⟩, trivial⟩ rfl) U U U ?_
 refine Jl rfl (Vx hT U U U zln zoc zpk zln ?_)
 refine Jg (Ja (Vn ?_))
 refine Vi (.inl rfl) U U zrv ?_
 exact ⟨_, fun w q => q.sup zsup, g, rfl, rfl⟩
theorem rfind_spec (p : Option Addr) (cap n : Nat) (R : List Rw) (k : ByteArray) (l : List HProp) (hn : R.length = n) (hb : n ≤ 1000000) (hin : InL l p n cap (R.flatMap rowC)) :
 Fc prog E 89 [.slice p n cap, .string k].toArray l (fun v l' => ∃ z : Int, v = .int .i64 z ∧ (0 ≤ z ↔ rget R k ≠ none) ∧ l' = l) := by
 refine Wg ?_
 refine Va (c := ?codeC) Tryz.func89 ?hb Tryz.ntmps89 ?hl ?_
 case hb => exact rfl
 case hl => exact rfl
 refine Jh (Je (Jb (Jf rfl) U U U ?_))
 refine Jg (Ja (Jh (Jh (Je (Jb (Jf rfl) U U U ?_)))))
 refine Jg (Ja (Ve ?_))
 refine Wn (α := Nat) (fun j => j ≤ n ∧ ∀ q ∈ R.take j, q.1 ≠ k) (fun j => [(0, .slice p n cap), (1, .string k), (5, .int .i64 j)]) (fun _ => l) (fun j => n - j) 0 ⟨Nat.zero_le _, by simp⟩ ⟨U, U, U, trivial⟩ (fun w h => h) ?_
 rintro j ⟨hj, hno⟩
 refine Jh (Jh (Je (Jb (Jd rfl) U U U (Jb (Jd rfl) U U U (Jb (Vf hT U U U) U U U (Jb (y_lss U U) U U U ?_))))))
 refine Jg (Ja ?_)
 first | apply Jx rfl | apply Vo rfl
 case' ht =>
  intro h
  try (first | exact zom | exact zho h | subst h)
  all_goals
   refine Vd ?_
 case' hf =>
  intro h
  try (first | exact zom | exact zho h | subst h)
  all_goals
   refine Wl (Jv (Jv (Vl (Ja (Jh (Je (Jb (Jf rfl) U U U ?_)))))))
   refine Jg (Ja (Vn ?_))
   refine Vi (.inl rfl) U U zrv ?_
   first
    | (have zz := hfound
       exact ⟨_, fun w q => q, _, rfl, ⟨fun _ => hfound, fun _ => by omega⟩, rfl⟩)
    | (obtain rfl : j = n := by omega
       refine ⟨_, fun w q => q, _, rfl, ⟨fun h => absurd h (by decide), fun h => absurd (rget_none.2 fun hm => ?_) h⟩, rfl⟩
       obtain ⟨q, hq, hk⟩ := List.mem_map.1 hm
       exact hno q (by rw [List.take_of_length_le (by omega)]; exact hq) hk)
 all_goals refine Ja ?_
 all_goals
  refine Jh (Ve (Jh ?_))
  have hlt : j < n := by omega
  obtain ⟨g, o, rfl, hr⟩ := hin.addr (by omega)
  have hr0 : RdN l g o (R.flatMap rowC) := hr []
  obtain ⟨⟨kb, vb⟩, hp⟩ : ∃ q, R[j]? = some q := ⟨_, List.getElem?_eq_getElem (by omega)⟩
  have hel : RdN l g (o + j * 2) (rowC (kb, vb)) := RdN.elem hr0 (fun x _ => rfl) hp
  refine Je (Jb (Jd rfl) U U U (Jb (Jd rfl) U U U ?_))
  refine Jb (Jn hT U U U U U zix zix) U U U ?_
  refine Jb (Jk hT U U U U U U) U U U ?_
  refine Jb (Jo hT U U U (hel 0 _ rfl)) U U U ?_
  refine Jb (Jd rfl) U U U (Jb (y_str_eq U U) U U U ?_)
  refine Jg (Ja ?_)
  first | apply Jx rfl | apply Vo rfl
  case' ht =>
   intro h
   try (first | exact zom | exact zho h | subst h)
   all_goals
    have hfound : rget R kb ≠ none := fun e => by
     have := rget_none.1 e
     exact this (List.mem_map.2 ⟨_, List.mem_of_getElem? hp, rfl⟩)
    refine Jh (Je (Jb (Jd rfl) U U U (Jb (Jf rfl) U U U ?_)))
    refine Jg (Ja (Vn (Vj (Vb (Vb (Vj (Vb ?_)))))))
    refine Vi (.inl rfl) U U zrv ?_
    first
     | (have zz := hfound
        exact ⟨_, fun w q => q, _, rfl, ⟨fun _ => hfound, fun _ => by omega⟩, rfl⟩)
     | (obtain rfl : j = n := by omega
        refine ⟨_, fun w q => q, _, rfl, ⟨fun h => absurd h (by decide), fun h => absurd (rget_none.2 fun hm => ?_) h⟩, rfl⟩
        obtain ⟨q, hq, hk⟩ := List.mem_map.1 hm
        exact hno q (by rw [List.take_of_length_le (by omega)]; exact hq) hk)
  case' hf =>
   intro h
   try (first | exact zom | exact zho h | subst h)
   all_goals
    refine Vd ?_
  all_goals refine Ju (Ja ?_)
  all_goals
   refine Je (Jb (Jd rfl) U U U ?_)
   refine Jb (Wa U U zwr) U U U ?_
   refine Jb (Jf rfl) U U U ?_
   refine Jg ?_
 all_goals
  refine Vt (s := j) (j + 1) ⟨by omega, fun q hq => ?_⟩ ⟨U, U, U, trivial⟩ (fun w q => q) (by omega)
  rw [List.take_add_one, hp] at hq
  rcases List.mem_append.1 hq with hq | hq
  · exact hno q hq
  · simp only [Option.toList_some, List.mem_singleton] at hq
    subst hq
    exact h
theorem rwith_spec (p : Option Addr) (cap n : Nat) (R : List Rw) (k v : ByteArray) (put : Bool) (l : List HProp) (hn : R.length = n) (hb : n ≤ 1000000) (hin : InL l p n cap (R.flatMap rowC)) :
 Fc prog E 138 [.slice p n cap, .agg #[.string k, .string v], .bool put].toArray l (fun u l' => ∃ a c, u = .slice a (withA k v (!put) R).length c ∧ l' = own 176 2 (.slice a (withA k v (!put) R).length c) (withA k v (!put) R).length ((withA k v (!put) R).flatMap rowC) :: l) := by
 refine Wg ?_
 obtain ⟨W, hWe⟩ : ∃ W, withA k v (!put) R = W := ⟨_, rfl⟩
 rw [hWe]
 refine Va (c := ?codeC) Tryz.func138 ?hb Tryz.ntmps138 ?hl ?_
 case hb => exact rfl
 case hl => exact rfl
 refine Jh (Je ?_)
 refine Jl rfl (l_box (cs := rowC (k, v)) U U U (fun b4 => ?_))
 refine Jb (Jf rfl) U U U ?_
 refine Jg (Ja (Jh (Je (Jb (Jf rfl) U U U ?_))))
 refine Jg (Ja (Jh (Je (Jb (Jd rfl) U U U (Jb (y_not rfl) U U U (Jb (Jf rfl) U U U ?_))))))
 refine Jg (Ja (Jh (Jh (Je (Jb (Jf rfl) U U U ?_)))))
 refine Jg (Ja (Ve ?_))
 refine Wn (α := Nat × Bool × List Rw × Option Addr × Nat) (fun s => s.1 ≤ n ∧ s.2.2.1 ++ withA k v s.2.1 (R.drop s.1) = W ∧ s.2.2.1.length ≤ 2 * s.1) (fun s => [(0, .slice p n cap), (4, .pointer (some ⟨b4, 0, none⟩)), (7, .slice s.2.2.2.1 s.2.2.1.length s.2.2.2.2), (8, .bool s.2.1), (9, .int .i64 s.1)]) (fun s => own 176 2 (.slice s.2.2.2.1 s.2.2.1.length s.2.2.2.2) s.2.2.1.length (s.2.2.1.flatMap rowC) :: row b4 176 (rowC (k, v)) :: l) (fun s => n - s.1) (0, !put, [], none, 0) ⟨Nat.zero_le _, hWe, Nat.le_refl _⟩ ⟨U, U, U, U, U, trivial⟩ (fun w h => h.own_nil.sup zsup) ?_
 rintro ⟨j, d, O, a, c⟩ ⟨hj, hW, hO⟩
 dsimp only at hj hW hO ⊢
 refine Jh (Jh (Je (Jb (Jd rfl) U U U (Jb (Jd rfl) U U U (Jb (Vf hT U U U) U U U (Jb (y_lss U U) U U U ?_))))))
 refine Jg (Ja ?_)
 first | apply Jx rfl | apply Vo rfl
 case' ht =>
  intro h
  try (first | exact zom | exact zho h | subst h)
  all_goals
   have hlt : j < n := by omega
   obtain ⟨g, o, rfl, hr⟩ := hin.addr (by omega)
   have hr0 : RdN l g o (R.flatMap rowC) := hr []
   obtain ⟨⟨kb, vb⟩, hp⟩ : ∃ q, R[j]? = some q := ⟨_, List.getElem?_eq_getElem (by omega)⟩
   have hel : RdN l g (o + j * 2) (rowC (kb, vb)) := RdN.elem hr0 (fun x _ => rfl) hp
   have hdrop : R.drop j = (kb, vb) :: R.drop (j + 1) := by
    obtain ⟨h1, h2⟩ := List.getElem?_eq_some_iff.1 hp
    rw [List.drop_eq_getElem_cons h1, h2]
   rw [hdrop] at hW
   refine Vd ?_
 case' hf =>
  intro h
  try (first | exact zom | exact zho h | subst h)
  all_goals
   refine Wl (Jv (Jv (Vl (Ja (Jh (Jh ?_))))))
   obtain rfl : j = n := by omega
   rw [List.drop_of_length_le (by omega)] at hW
   cases d
   all_goals
    refine Je (Jb (Jd rfl) U U U (Jb (y_not rfl) U U U ?_))
    refine Jg ?_
   all_goals refine Ja ?_
   all_goals
    first | apply Jx rfl | apply Vo rfl
    case' ht =>
     intro h
     try (first | exact zom | exact zho h | subst h)
     all_goals
      refine Je (Jb (Jd rfl) U U U ?_)
      refine Jb (We hT U U U (RdN.rowAll (cs := rowC (k, v)) zpk) rfl) U U U ?_
      refine Jl rfl (l_buildSliceP (cs := rowC (k, v)) hT U U U U U U U (fill_one U U) rfl (fun bq => ?_))
      refine Jl rfl (l_append hT U U U U U U U U zpk zrdn zln (rowC_one _) (by rw [show i176.bytes = 32 from rfl]; omega) (by omega) rfl (fun na nc hnc => ?_))
      refine Jb (Jf rfl) U U U ?_
      refine Jg ?_
    case' hf =>
     intro h
     try (first | exact zom | exact zho h | subst h)
     all_goals
      refine Vd ?_
   all_goals refine Ja ?_
   all_goals
    refine Jh (Je (Jb (Jd rfl) U U U (Jb (Jf rfl) U U U ?_)))
    refine Jg (Ja (Vn ?_))
    refine Vi (.inl rfl) U U zrv ?_
    first
     | (have zz := hnc
        have e2 : O ++ [(k, v)] = W := hW
        subst e2
        refine ⟨_, fun w q => ?_, na, nc, by simp only [List.length_append, List.length_cons, List.length_nil], rfl⟩
        have e : (O ++ [(k, v)]).flatMap rowC = O.flatMap rowC ++ rowC (k, v) := by simp
        rw [e, List.length_append]
        exact q.sup zsup)
     | (have e2 : O ++ [] = W := hW
        rw [List.append_nil] at e2
        subst e2
        exact ⟨_, fun w q => q.sup zsup, a, c, rfl, rfl⟩)
 all_goals refine Ja ?_
 all_goals
  refine Jh (Ve ?_)
  refine J.seqK (α := Bool × List Rw × Option Addr × Nat) (fun s => s.2.1 ++ ((if kb ≠ k then [(kb, vb)] else []) ++ withA k v s.1 (R.drop (j + 1))) = W ∧ s.2.1.length ≤ 2 * j + 1) (fun s => [(0, .slice (some ⟨g, o, none⟩) n cap), (4, .pointer (some ⟨b4, 0, none⟩)), (7, .slice s.2.2.1 s.2.1.length s.2.2.2), (8, .bool s.1), (9, .int .i64 j)]) (fun s => own 176 2 (.slice s.2.2.1 s.2.1.length s.2.2.2) s.2.1.length (s.2.1.flatMap rowC) :: row b4 176 (rowC (k, v)) :: l) ?hj9 (fun hk9 => ?hf9)
  case hf9 =>
   refine Jh ?_
   cases d
   all_goals
    refine Vz _ _ [(0, .q), (1, .q), (2, .q), (3, .q), (4, .q), (5, .q), (6, .q), (7, .q), (8, .q), (9, .q), (10, .q), (11, .q)] mixed (by kernel_rfl) (Jj) ?_
    refine zqm U U U U U (Jc U U U U (fun m => y_not rfl) (zqm U U U U U ?_))
    all_goals (first | refine Jy U U U U U U U ?_ | refine JM.gskipU U U U U U U ?_ | refine Jr U U U U U U (fun m => Jd rfl) ?_)
    all_goals (first | refine Jy U U U U U U U ?_ | refine JM.gskipU U U U U U U ?_ | refine Jr U U U U U U (fun m => Jd rfl) ?_)
    all_goals (first | refine Jy U U U U U U U ?_ | refine JM.gskipU U U U U U U ?_ | refine Jr U U U U U U (fun m => Jn hT U U U U U zix zix) ?_)
    all_goals (first | refine Jy U U U U U U U ?_ | refine JM.gskipU U U U U U U ?_ | refine Jr U U U U U U (fun m => Jk hT U U U U U U) ?_)
    all_goals (first | refine Jy U U U U U U U ?_ | refine JM.gskipU U U U U U U ?_ | refine Jr U U U U U U (fun m => Jo hT U U U ((show RdN _ g (o + j * 2) (rowC (kb, vb)) from by (repeat (first | assumption | apply RdN.cons | apply RdN.app))) 0 _ rfl)) ?_)
    all_goals (first | refine Jy U U U U U U U ?_ | refine JM.gskipU U U U U U U ?_ | refine Jr U U U U U U (fun m => Jk hT U U U U U U) ?_)
    all_goals (first | refine Jy U U U U U U U ?_ | refine JM.gskipU U U U U U U ?_ | refine Jr U U U U U U (fun m => Jo hT U U U zrda) ?_)
    all_goals (first | refine Jy U U U U U U U ?_ | refine JM.gskipU U U U U U U ?_ | refine Jr U U U U U U (fun m => y_str_ge U U) ?_)
    all_goals refine Jc U U U U (fun m => Wb U U U) ?_
    all_goals refine Vv ?_
   all_goals refine Ja ?_
   all_goals
    first | apply Jx rfl | apply Vo rfl
    case' ht =>
     intro h
     try (first | exact zom | exact zho h | subst h)
     all_goals
      have hge : ltS kb k = false := by simpa using h
      have hW2 := hW
      rw [withA_ge (p := (kb, vb)) _ hge] at hW2
      refine Jh (Je (Jb (Jd rfl) U U U ?_))
      refine Jb (We hT U U U (RdN.rowAll (cs := rowC (k, v)) zpk) rfl) U U U ?_
      refine Jl rfl (l_buildSliceP (cs := rowC (k, v)) hT U U U U U U U (fill_one U U) rfl (fun bq => ?_))
      refine Jl rfl (l_append hT U U U U U U U U zpk zrdn zln (rowC_one _) (by rw [show i176.bytes = 32 from rfl]; omega) (by omega) rfl (fun na nc hnc => ?_))
      refine Jb (Jf rfl) U U U ?_
      refine Jg (Ja (Je (Jb (Jf rfl) U U U ?_)))
      refine Jg ?_
    case' hf =>
     intro h
     try (first | exact zom | exact zho h | subst h)
     all_goals
      have hlt2 : True := trivial
      refine Vd ?_
   all_goals refine Ja ?_
   all_goals
    first
     | (have zz := hge
        refine Wj hk9 (true, O ++ [(k, v)], na, nc) ⟨by rw [← hW2]; simp, by simp only [List.length_append, List.length_cons, List.length_nil]; omega⟩ ⟨rfl, rfl, by simp only [List.length_append, List.length_cons, List.length_nil]; rfl, U, U, trivial⟩ (fun w q => ?_)
        have e : (O ++ [(k, v)]).flatMap rowC = O.flatMap rowC ++ rowC (k, v) := by simp
        dsimp only
        rw [e, List.length_append]
        exact q.sup zsup)
     | (have zz := hlt2
        refine Wj hk9 (true, O, a, c) ⟨by rw [← hW, withA_true], by dsimp only; omega⟩ ⟨U, U, U, U, U, trivial⟩ (fun w q => q.sup zsup))
     | (have zz := hlt2
        have hl3 : ltS kb k = true := by simpa using h
        refine Wj hk9 (false, O, a, c) ⟨by rw [← hW, withA_lt (p := (kb, vb)) _ hl3], by dsimp only; omega⟩ ⟨U, U, U, U, U, trivial⟩ (fun w q => q.sup zsup))
  rintro ⟨d3, O2, a2, c2⟩ ⟨hW3, hO3⟩
  dsimp only at hW3 hO3 ⊢
  refine Jh ?_
  refine Vz _ _ [(0, .q), (1, .q), (2, .q), (3, .q), (4, .q), (5, .q), (6, .q), (7, .q)] mixed (by kernel_rfl) (Jj) ?_
  refine zqm U U U U U (zqm U U U U U ?_)
  refine Jc U U U U (fun m => Jn hT U U U U U zix zix) ?_
  refine Jc U U U U (fun m => Jk hT U U U U U U) ?_
  refine Jc U U U U (fun m => Jo hT U U U ((show RdN _ g (o + j * 2) (rowC (kb, vb)) from by (repeat (first | assumption | apply RdN.cons | apply RdN.app))) 0 _ rfl)) ?_
  refine Jc U U U U (fun m => Jk hT U U U U U U) ?_
  refine Jc U U U U (fun m => Jo hT U U U (Rd1.row (cs := rowC (k, v)) (Vp m zpk) rfl)) ?_
  refine Jc U U U U (fun m => y_str_ne U U) ?_
  refine Vv (Ja ?_)
  first | apply Jx rfl | apply Vo rfl
  case' ht =>
   intro h
   try (first | exact zom | exact zho h | subst h)
   all_goals
    have hne : kb ≠ k := h
    rw [if_pos hne] at hW3
    refine Je (Jb (Jd rfl) U U U (Jb (Jd rfl) U U U (Jb (Jd rfl) U U U ?_)))
    refine Jb (Jn hT U U U U U zix zix) U U U ?_
    refine Jb (We hT U U U (show RdN _ g (o + j * 2) (rowC (kb, vb)) from by (repeat (first | assumption | apply RdN.cons | apply RdN.app))) rfl) U U U ?_
    refine Jl rfl (l_buildSliceP (cs := rowC (kb, vb)) hT U U U U U U U (fill_one U U) rfl (fun bq => ?_))
    refine Jl rfl (l_append hT U U U U U U U U zpk zrdn zln (rowC_one _) (by rw [show i176.bytes = 32 from rfl]; omega) (by omega) rfl (fun na nc hnc => ?_))
    refine Jb (Jf rfl) U U U ?_
    refine Jg ?_
  case' hf =>
   intro h
   try (first | exact zom | exact zho h | subst h)
   all_goals
    have heq : ¬ kb ≠ k := h
    rw [if_neg heq] at hW3
    refine Vd ?_
  all_goals refine Ju (Ja ?_)
  all_goals
   refine Je (Jb (Jd rfl) U U U ?_)
   refine Jb (Wa U U zwr) U U U ?_
   refine Jb (Jf rfl) U U U ?_
   refine Jg ?_
 all_goals
  first
   | (have zz := hne
      refine Vt (s := (j, d, O, a, c)) (j + 1, d3, O2 ++ [(kb, vb)], na, nc) ⟨by dsimp only; omega, by rw [← hW3]; simp, by simp only [List.length_append, List.length_cons, List.length_nil]; omega⟩ ⟨rfl, rfl, by simp only [List.length_append, List.length_cons, List.length_nil]; rfl, U, U, trivial⟩ (fun w q => ?_) (by dsimp only; omega)
      have e : (O2 ++ [(kb, vb)]).flatMap rowC = O2.flatMap rowC ++ rowC (kb, vb) := by simp
      dsimp only
      rw [e, List.length_append]
      exact q.sup zsup)
   | (have zz := heq
      refine Vt (s := (j, d, O, a, c)) (j + 1, d3, O2, a2, c2) ⟨by dsimp only; omega, by rw [← hW3]; simp, by dsimp only; omega⟩ ⟨U, U, U, U, U, trivial⟩ (fun w q => q.sup zsup) (by dsimp only; omega))
end
end
section
open Go Go.SL
section
theorem RSt.of_new {g n : Nat} (hn : n ≤ 1000) : RSt (row g 178 (List.replicate n (.slice none 0 0))) (.slice (some ⟨g, 0, none⟩) n n) (List.replicate n []) := by
 have hl : (List.replicate n ([] : List Rw)).length = n := List.length_replicate
 refine ⟨some ⟨g, 0, none⟩, n, List.replicate n (.slice none 0 0), by rw [hl], ?_, by rw [List.length_replicate, hl], fun i R hi => ?_⟩
 · rw [hl]
   exact InL.ofRow Jm (by unfold maxLen; omega)
 · rw [List.getElem?_replicate] at hi
   split at hi
   · cases hi
     exact ⟨none, 0, by rw [List.getElem?_replicate, if_pos (by assumption)]; rfl, Nat.le_refl _, Nat.zero_le _, .inr ⟨rfl, rfl⟩⟩
   · cases hi
end
section
attribute [local irreducible] J JL JE JM LS Y Fc RV Code.wp wpList Code.wpIn wpListIn
attribute [local irreducible] Yc ltS
variable (E : World)
theorem rturn_spec (K : HProp) (v : Value) (Rs : List (List Rw)) (i : Nat) (R : List Rw) (k w : ByteArray) (put : Bool) (l : List HProp) (hS : RSt K v Rs) (hR : Rs[i]? = some R) (hn : Rs.length ≤ 8) (hb : R.length ≤ 1000) :
 Fc prog E 91 [.agg #[v], .int .i64 (i : Int), .agg #[.string k, .string w], .bool put].toArray (K :: l) (fun u l' => ∃ K' v', u = .agg #[v'] ∧ RSt K' v' (Rs.set i (withA k w (!put) R)) ∧ (∀ x Qs, RSt K x Qs → RSt K' x Qs) ∧ l' = K' :: l) := by
 refine Wg ?_
 obtain ⟨a, c, vals, rfl, hin, hvl, hg⟩ := hS.out
 obtain ⟨n, hn2⟩ : ∃ n, Rs.length = n := ⟨_, rfl⟩
 rw [hn2] at hn hin hvl ⊢
 have hi : i < n := by
  rw [← hn2]
  rcases Nat.lt_or_ge i Rs.length with h | h
  · exact h
  · rw [List.getElem?_eq_none h] at hR; cases hR
 obtain ⟨pR, cR, hvR, hinR⟩ := hg i R hR
 obtain ⟨W, hW⟩ : ∃ W, withA k w (!put) R = W := ⟨_, rfl⟩
 have cwith : ∀ l, InL l pR R.length cR (R.flatMap rowC) → Fc prog E 138 [.slice pR R.length cR, .agg #[.string k, .string w], .bool put].toArray l (fun u l' => ∃ a c, u = .slice a W.length c ∧ OwnAt a W.length c (W.flatMap rowC) ∧ l' = own 176 2 (.slice a W.length c) W.length (W.flatMap rowC) :: l) := fun l h => (rwith_spec E pR cR R.length R k w put l rfl (by omega) h).know fun u l' w' ⟨a, c, e1, e2⟩ s => by
  rw [hW] at e1 e2
  subst e1
  subst e2
  exact ⟨a, c, rfl, Vu s, rfl⟩
 rw [hW]
 obtain ⟨go, oo, rfl, hro⟩ := hin.addr (by omega)
 have hro0 : RdN [K] go oo vals := hro []
 have hone : ∀ u ∈ vals, u.oneCell' = true := fun u hu => by
  obtain ⟨j, hj, rfl⟩ := List.getElem_of_mem hu
  obtain ⟨p, cc, h1, _⟩ := hg j (Rs[j]'(by omega)) (List.getElem?_eq_getElem _)
  rw [List.getElem?_eq_getElem hj] at h1
  rw [Option.some.inj h1]
  rfl
 have rdK : ∀ m l, RdN (m ++ (K :: l)) go oo vals := fun m l j v hj E w s => hro0 j v hj E w (s.pick (Vp m Jm)).only
 refine Va (c := ?codeC) Tryz.func91 ?hb Tryz.ntmps91 ?hl ?_
 case hb => exact rfl
 case hl => exact rfl
 refine Jh (Je ?_)
 refine Jl rfl (l_box (cs := [.slice (some ⟨go, oo, none⟩) n c]) U U U (fun b4 => ?_))
 refine Jl rfl (l_box (cs := rowC (k, w)) U U U (fun b6 => ?_))
 refine Jl rfl (Wf hT U U zcl rfl (fun b8 => ?_))
 refine Jg (Ja (Jh (Je (Jb (Jk hT U U U U U U) U U U ?_))))
 refine Jb (Jo hT U U U zrd) U U U ?_
 refine Jb (Vf hT U U U) U U U ?_
 refine Jl rfl (Jw e40 U U (rempty_spec E n (by omega) _) ?_)
 rintro _ _ ⟨g, rfl, rfl⟩
 refine Jl rfl (Wf hT U U zcl rfl (fun b9 => ?_))
 refine Jl rfl (Vx (vs := [.slice (some ⟨g, 0, none⟩) n n]) hT U U U U zoc zpk zln ?_)
 refine Jg (Ja (Jh (Jh (Je (Jb (Jf rfl) U U U ?_)))))
 refine Jg (Ja (Ve ?_))
 refine Wn (α := Nat) (fun j => j ≤ n) (fun j => [(1, .int .i64 i), (3, .bool put), (4, .pointer (some ⟨b4, 0, none⟩)), (6, .pointer (some ⟨b6, 0, none⟩)), (8, .pointer (some ⟨b8, 0, none⟩)), (9, .pointer (some ⟨b9, 0, none⟩)), (10, .int .i64 j)]) (fun j => row g 178 (vals.take j ++ List.replicate (n - j) (.slice none 0 0)) :: K :: row b4 84 [.slice (some ⟨go, oo, none⟩) n c] :: row b6 176 (rowC (k, w)) :: row b8 84 [.slice none 0 0] :: row b9 84 [.slice (some ⟨g, 0, none⟩) n n] :: l) (fun j => n - j) 0 (Nat.zero_le _) ⟨U, U, U, U, U, U, U, trivial⟩ (fun w h => h.sup zsup) ?_
 intro j hj
 refine Jh (Jh (Je (Jb (Jd rfl) U U U (Jb (Jk hT U U U U U U) U U U ?_))))
 refine Jb (Jo hT U U U zrd) U U U ?_
 refine Jb (Vf hT U U U) U U U (Jb (y_lss U U) U U U ?_)
 refine Jg (Ja ?_)
 first | apply Jx rfl | apply Vo rfl
 case' ht =>
  intro h
  try (first | exact zom | exact zho h | subst h)
  all_goals
   refine Vd ?_
 case' hf =>
  intro h
  try (first | exact zom | exact zho h | subst h)
  all_goals
   refine Wl (Jv (Jv (Vl (Ja (Jh ?_)))))
   obtain rfl : j = n := by omega
   rw [Nat.sub_self, List.replicate_zero, List.append_nil, List.take_of_length_le (by omega)]
   refine Vz _ _ [(0, .q), (1, .q), (2, .q), (3, .q), (4, .q), (5, .q), (6, .q), (7, .q), (8, .q), (9, .q), (10, .l), (11, .q), (12, .l)] mixed (by kernel_rfl) (Ji (Jm) (Jj)) ?_
   refine Jc U U U U (fun m => Jk hT U U U U U U) ?_
   refine Jc U U U U (fun m => Jo hT U U U zrda) ?_
   refine zqm U U U U U (Jc U U U U (fun m => Jk hT U U U U U U) ?_)
   refine Jc U U U U (fun m => Jo hT U U U zrda) ?_
   refine zqm U U U U U ?_
   refine Jc U U U U (fun m => Jn hT U U U U U zix zix) ?_
   refine Jc U U U U (fun m => Jo hT U U U (Rd1.elem (rdK m _) hvR)) ?_
   refine Jc U U U U (fun m => We hT U U U (RdN.rowAll (cs := rowC (k, w)) (Vp m zpk)) rfl) ?_
   refine zqm U U U U U ?_
   refine Vm U U (fun fr => Jw e138 U U (cwith _ (hinR.kept zpk)) ?_)
   rintro _ _ ⟨wa, wc, rfl, ow, rfl⟩
   refine ⟨[_, _], (by (repeat (first | exact Jj | exact Vc | refine Ji Jm ?_))), ?_⟩
   refine Jc U U U U (fun m => Jn hT U U U U U zix zix) ?_
   refine Vm U U (fun fr => Vs hT U U U U U zpk (by rw [hvl]; show 0 + (i : Int).toNat * 1 < _; omega) ⟨[_, _], (by (repeat (first | exact Jj | exact Vc | refine Ji Jm ?_))), ?_⟩)
   refine Vv (Ja (Jh (Je ?_)))
   refine Jb (We hT U U U zrdn zln) U U U ?_
   refine Jl rfl (Vx hT U U U zln zoc zpk zln ?_)
   refine Jg (Ja (Vn ?_))
   refine Vi (.inl rfl) U U zrv ?_
   refine ⟨stars [K, stars [own 176 2 (.slice wa W.length wc) W.length (W.flatMap rowC), row g 178 (vals.set i (.slice wa W.length wc))]] :: l, fun w q => ?_, _, .slice (some ⟨g, 0, none⟩) j j, rfl, ?_, fun x Qs h => h.keep, rfl⟩
   · have e2 : 0 + ((i : Int)).toNat * i178.size = i := by rw [show i178.size = 1 from rfl, Int.toNat_natCast]; omega
     rw [e2] at q
     have q1 := Sat.fold (m := [own 176 2 (.slice wa W.length wc) W.length (W.flatMap rowC), row g 178 (vals.set i (.slice wa W.length wc))]) (l := K :: l) (q.sup zsup)
     exact Sat.fold (m := [K, stars [own 176 2 (.slice wa W.length wc) W.length (W.flatMap rowC), row g 178 (vals.set i (.slice wa W.length wc))]]) (l := l) (q1.sup zsup)
   · have hll : (Rs.set i W).length = j := by rw [List.length_set]; exact hn2
     refine ⟨some ⟨g, 0, none⟩, j, vals.set i (.slice wa W.length wc), by rw [hll], ?_, by rw [List.length_set, hll]; exact hvl, fun q Q hq => ?_⟩
     · rw [hll]
       exact InL.keepR (InL.keepR (InL.ofRow Jm (by unfold maxLen; omega)))
     · by_cases hqi : i = q
       · subst hqi
         rw [List.getElem?_set_self (by omega)] at hq
         cases hq
         exact ⟨wa, wc, by rw [List.getElem?_set_self (by omega)], InL.keepR (InL.keepL (ow.inl Jm))⟩
       · rw [List.getElem?_set_ne hqi] at hq
         obtain ⟨p, cc, h1, h2⟩ := hg q Q hq
         exact ⟨p, cc, by rw [List.getElem?_set_ne hqi]; exact h1, InL.keepL h2⟩
 all_goals refine Ja ?_
 all_goals
  refine Jh (Ve ?_)
  have hlt : j < n := by omega
  obtain ⟨u, hu⟩ : ∃ u, vals[j]? = some u := ⟨_, List.getElem?_eq_getElem (by omega)⟩
  have hu1 := hone u (List.mem_of_getElem? hu)
  refine Vz _ _ [(0, .q), (1, .q), (2, .q), (3, .q), (4, .q), (5, .q), (6, .q), (7, .q), (8, .q), (9, .l)] mixed (by kernel_rfl) (Ji (Jm) (Jj)) ?_
  refine Jc U U U U (fun m => Jk hT U U U U U U) ?_
  refine Jc U U U U (fun m => Jo hT U U U zrda) ?_
  refine zqm U U U U U (Jc U U U U (fun m => Jk hT U U U U U U) ?_)
  refine Jc U U U U (fun m => Jo hT U U U zrda) ?_
  refine zqm U U U U U ?_
  refine Jc U U U U (fun m => Jn hT U U U U U zix zix) ?_
  refine Jc U U U U (fun m => Jo hT U U U (Rd1.elem (rdK m _) hu)) ?_
  refine Jc U U U U (fun m => Jn hT U U U U U zix zix) ?_
  refine Vm U U (fun fr => Vs hT U U U U hu1 zpk (by rw [List.length_append, List.length_take, List.length_replicate, show i178.size = 1 from rfl]; omega) ⟨[_], (by (repeat (first | exact Jj | exact Vc | refine Ji Jm ?_))), ?_⟩)
  refine Vv (Ju (Ja (Je (Jb (Jd rfl) U U U ?_))))
  refine Jb (Wa U U zwr) U U U ?_
  refine Jb (Jf rfl) U U U ?_
  refine Jg ?_
 all_goals
  refine Vt (s := j) (j + 1) (by omega) ⟨U, U, U, U, U, U, U, trivial⟩ (fun w q => ?_) (by omega)
  have e : vals.take (j + 1) ++ List.replicate (n - (j + 1)) (Value.slice none 0 0) = (vals.take j ++ List.replicate (n - j) (Value.slice none 0 0)).set j u := by
   have hl : (vals.take j).length = j := by rw [List.length_take]; omega
   rw [List.set_append_right _ _ (by omega), hl, Nat.sub_self, show n - j = (n - (j + 1)) + 1 by omega, List.replicate_succ, List.set_cons_zero, List.take_add_one, hu]
   simp
  rw [e]
  have e2 : 0 + ((j : Int)).toNat * i178.size = j := by rw [show i178.size = 1 from rfl, Int.toNat_natCast]; omega
  rw [e2] at q
  exact q.sup zsup
theorem rtext_spec (s : ByteArray) (hs : s.size < 65536) (l : List HProp) : Fc prog E 141 [.string s].toArray l (fun v l' => ∃ a c, v = .slice a (txtB s).length c ∧ OwnAt a (txtB s).length c (ints .u8 (txtB s)) ∧ l' = own 5 1 (.slice a (txtB s).length c) (txtB s).length (ints .u8 (txtB s)) :: l) := by
 suffices h : Fc prog E 141 [.string s].toArray l (fun v l' => ∃ a c, v = .slice a (txtB s).length c ∧ l' = own 5 1 (.slice a (txtB s).length c) (txtB s).length (ints .u8 (txtB s)) :: l) from h.know fun v l' w ⟨a, c, e1, e2⟩ q => by
  subst e1
  subst e2
  exact ⟨a, c, rfl, Vu q, rfl⟩
 refine Wg ?_
 have hl2 : (num2 s.size).length = 2 := num2_length _
 refine Va (c := ?codeC) Tryz.func141 ?hb Tryz.ntmps141 ?hl ?_
 case hb => exact rfl
 case hl => exact rfl
 refine Jh (Je (Jb (Jf rfl) U U U ?_))
 refine Jg (Ja (Jh (Je (Jb (Jd rfl) U U U (Jb (y_len_string hT U U U) U U U ?_)))))
 refine Jb ((by first | exact y_convToQ hT U U U U | exact y_conv hT U U U U zwr)) U U U ?_
 refine Jl rfl (Jw e140 U U (rlow_spec E (BitVec.ofInt 64 (s.size : Int)) 2 (by decide) _) ?_)
 rintro _ _ ⟨a1, c1, rfl, rfl⟩
 refine Jb (Jd rfl) U U U ?_
 refine Jl rfl (l_convStr (s := s) hT U U U U U U U (by omega) rfl (fun g c K hK => ?_))
 have hKl : InL [K] (some ⟨g, 0, none⟩) (bytesS s).length c (ints .u8 (bytesS s)) := by rw [bytesS_length]; exact hK
 rw [show Value.slice (some ⟨g, 0, none⟩) s.size c = Value.slice (some ⟨g, 0, none⟩) (bytesS s).length c by rw [bytesS_length]]
 refine Jl rfl (Jw e139 U U (Fc.fact (p := OwnAt a1 2 c1 (ints .u8 (num2 s.size))) (fun w s => Vu (s.pick zpk)) fun o1 => rboth_spec E a1 _ c1 c (num2 s.size) (bytesS s) _ (hl2 ▸ o1.inl zpk) (hKl.kept zpk) (by rw [hl2, bytesS_length]; omega)) ?_)
 rintro _ _ ⟨a2, c2, rfl, rfl⟩
 refine Jb (Jf rfl) U U U ?_
 refine Jg (Ja (Vn ?_))
 refine Vi (.inl rfl) U U zrv ?_
 have e : (num2 s.size).length + (bytesS s).length = (txtB s).length := by rw [txtB, List.length_append]
 have e3 : num2 s.size ++ bytesS s = txtB s := rfl
 refine ⟨own 5 1 (.slice a2 (txtB s).length c2) (txtB s).length (ints .u8 (txtB s)) :: l, fun w q => ?_, a2, c2, by rw [e], rfl⟩
 rw [e, e3] at q
 exact q.sup zsup
theorem rbytes_spec (K : HProp) (v : Value) (Rs : List (List Rw)) (l : List HProp) (hS : RSt K v Rs) (hn : Rs.length ≤ 8) (hR : ∀ R ∈ Rs, ROk R) :
 Fc prog E 93 [.agg #[v]].toArray (K :: l) (fun u l' => ∃ a c, u = .slice a (stB Rs).length c ∧ l' = own 5 1 (.slice a (stB Rs).length c) (stB Rs).length (ints .u8 (stB Rs)) :: K :: l) := by
 refine Wg ?_
 obtain ⟨a, c, vals, rfl, hin, hvl, hg⟩ := hS.out
 obtain ⟨n, hn2⟩ : ∃ n, Rs.length = n := ⟨_, rfl⟩
 have hle := stB_le hR hn
 rw [hn2] at hn hin hvl ⊢
 refine Va (c := ?codeC) Tryz.func93 ?hb Tryz.ntmps93 ?hl ?_
 case hb => exact rfl
 case hl => exact rfl
 refine Jh (Je ?_)
 refine Jl rfl (l_box (cs := [.slice a n c]) U U U (fun b1 => ?_))
 refine Jb (Jf rfl) U U U ?_
 refine Jg (Ja (Jh (Je (Jb (Jf rfl) U U U ?_))))
 refine Jg (Ja (Jh (Jh (Je (Jb (Jf rfl) U U U ?_)))))
 refine Jg (Ja (Ve ?_))
 refine Wn (α := Nat × Option Addr × Nat) (fun s => s.1 ≤ n) (fun s => [(1, .pointer (some ⟨b1, 0, none⟩)), (3, .slice s.2.1 (stB (Rs.take s.1)).length s.2.2), (4, .int .i64 s.1)]) (fun s => own 5 1 (.slice s.2.1 (stB (Rs.take s.1)).length s.2.2) (stB (Rs.take s.1)).length (ints .u8 (stB (Rs.take s.1))) :: row b1 84 [.slice a n c] :: K :: l) (fun s => n - s.1) (0, none, 0) (Nat.zero_le _) ⟨U, U, U, trivial⟩ (fun w h => h.own_nil.sup zsup) ?_
 rintro ⟨j, ba, bc⟩ hj
 dsimp only at hj ⊢
 refine Jh (Jh (Je (Jb (Jd rfl) U U U (Jb (Jk hT U U U U U U) U U U ?_))))
 refine Jb (Jo hT U U U zrd) U U U ?_
 refine Jb (Vf hT U U U) U U U (Jb (y_lss U U) U U U ?_)
 refine Jg (Ja ?_)
 first | apply Jx rfl | apply Vo rfl
 case' ht =>
  intro h
  try (first | exact zom | exact zho h | subst h)
  all_goals
   refine Vd ?_
 case' hf =>
  intro h
  try (first | exact zom | exact zho h | subst h)
  all_goals
   refine Wl (Jv (Jv (Vl (Ja (Jh (Je (Jb (Jd rfl) U U U (Jb (Jf rfl) U U U ?_))))))))
   refine Jg (Ja (Vn ?_))
   refine Vi (.inl rfl) U U zrv ?_
   obtain rfl : j = n := by omega
   rw [List.take_of_length_le (by omega)]
   exact ⟨_, fun w q => q.sup zsup, ba, bc, rfl, rfl⟩
 all_goals refine Ja ?_
 all_goals
  refine Jh (Ve (Jh ?_))
  have hlt : j < n := by omega
  obtain ⟨R, hRj⟩ : ∃ R, Rs[j]? = some R := ⟨_, List.getElem?_eq_getElem (by omega)⟩
  have hok := hR R (List.mem_of_getElem? hRj)
  have hfew := hok.few
  obtain ⟨p, cc, hv, hinR⟩ := hg j R hRj
  obtain ⟨go, oo, rfl, hro⟩ := hin.addr (by omega)
  have hro0 : RdN [K] go oo vals := hro []
  have rdv : ∀ {l r}, Pick l K r → RdN l go oo vals := fun hp => by
   have h2 : InL _ (some ⟨go, oo, none⟩) n c vals := hin.kept hp
   obtain ⟨b', o', e, hr⟩ := h2.addr (by omega)
   cases e
   exact hr []
  obtain ⟨X, hX⟩ : ∃ X, stB (Rs.take j) = X := ⟨_, rfl⟩
  have hXl : X.length ≤ 559120 := by rw [← hX]; exact hle j
  have hnext : stB (Rs.take (j + 1)) = X ++ (num2 R.length ++ R.flatMap rowB) := by rw [List.take_add_one, hRj, stB, List.flatMap_append, ← hX]; simp [stB, tabB]
  have hrow := rowsB_le hok
  rw [hX]
  have hl2 : (num2 R.length).length = 2 := num2_length _
  refine Je (Jb (Jd rfl) U U U (Jb (Jk hT U U U U U U) U U U ?_))
  refine Jb (Jo hT U U U zrd) U U U ?_
  refine Jb (Jd rfl) U U U ?_
  refine Jb (Jn hT U U U U U zix zix) U U U ?_
  refine Jb (Jo hT U U U (Rd1.elem (rdv zpk) hv)) U U U ?_
  refine Jb (Vf hT U U U) U U U ?_
  refine Jb ((by first | exact y_convToQ hT U U U U | exact y_conv hT U U U U zwr)) U U U ?_
  refine Jl rfl (Jw e140 U U (rlow_spec E (BitVec.ofInt 64 (R.length : Int)) 2 (by decide) _) ?_)
  rintro _ _ ⟨a1, c1, rfl, rfl⟩
  refine Jl rfl (Jw e139 U U (Fc.fact (p := OwnAt a1 2 c1 (ints .u8 (num2 R.length))) (fun w s => Vu (s.pick zpk)) fun o1 => Fc.fact (p := OwnAt ba X.length bc (ints .u8 X)) (fun w s => Vu (s.pick zpk)) fun o2 => rboth_spec E ba a1 bc c1 X (num2 R.length) _ (o2.inl zpk) (hl2 ▸ o1.inl zpk) (by omega)) ?_)
  rintro _ _ ⟨a2, c2, rfl, rfl⟩
  refine Jb (Jf rfl) U U U ?_
  refine Jg (Ja (Jh (Je (Jb (Jf rfl) U U U ?_))))
  refine Jg (Ja (Ve ?_))
  refine Wn (α := Nat × Option Addr × Nat) (fun s => s.1 ≤ R.length) (fun s => [(1, .pointer (some ⟨b1, 0, none⟩)), (3, .slice s.2.1 (X ++ num2 R.length ++ (R.take s.1).flatMap rowB).length s.2.2), (4, .int .i64 j), (5, .int .i64 s.1)]) (fun s => own 5 1 (.slice s.2.1 (X ++ num2 R.length ++ (R.take s.1).flatMap rowB).length s.2.2) (X ++ num2 R.length ++ (R.take s.1).flatMap rowB).length (ints .u8 (X ++ num2 R.length ++ (R.take s.1).flatMap rowB)) :: row b1 84 [.slice (some ⟨go, oo, none⟩) n c] :: K :: l) (fun s => R.length - s.1) (0, a2, c2) (Nat.zero_le _) ⟨rfl, by simp only [List.take_zero, List.flatMap_nil, List.append_nil, List.length_append]; rfl, U, U, trivial⟩ (fun w h => ?_) ?_
  · simp only [List.take_zero, List.flatMap_nil, List.append_nil, List.length_append]
    exact h.sup zsup
  rintro ⟨q, ba2, bc2⟩ hq
  dsimp only at hq ⊢
  refine Jh (Jh (Je (Jb (Jd rfl) U U U (Jb (Jk hT U U U U U U) U U U ?_))))
  refine Jb (Jo hT U U U zrd) U U U ?_
  refine Jb (Jd rfl) U U U ?_
  refine Jb (Jn hT U U U U U zix zix) U U U ?_
  refine Jb (Jo hT U U U (Rd1.elem (rdv zpk) hv)) U U U ?_
  refine Jb (Vf hT U U U) U U U (Jb (y_lss U U) U U U ?_)
  refine Jg (Ja ?_)
  first | apply Jx rfl | apply Vo rfl
  case' ht =>
   intro h
   try (first | exact zom | exact zho h | subst h)
   all_goals
    refine Vd ?_
  case' hf =>
   intro h
   try (first | exact zom | exact zho h | subst h)
   all_goals
    refine Wl (Jv (Jv (Vl (Ju (Ja (Je (Jb (Jd rfl) U U U ?_)))))))
    refine Jb (Wa U U zwr) U U U ?_
    refine Jb (Jf rfl) U U U ?_
    refine Jg ?_
    obtain rfl : q = R.length := by omega
    rw [List.take_length]
    have e : X ++ num2 R.length ++ R.flatMap rowB = stB (Rs.take (j + 1)) := by rw [hnext, List.append_assoc]
    rw [e]
    refine Vt (s := (j, ba, bc)) (j + 1, ba2, bc2) (by dsimp only; omega) ⟨U, U, U, trivial⟩ (fun w z => z.sup zsup) (by dsimp only; omega)
  all_goals refine Ja ?_
  all_goals
   refine Jh (Ve (Jh ?_))
   have hltq : q < R.length := by omega
   obtain ⟨⟨kb, vb⟩, hp⟩ : ∃ x, R[q]? = some x := ⟨_, List.getElem?_eq_getElem (by omega)⟩
   have hsz := hok.small _ (List.mem_of_getElem? hp)
   dsimp only at hsz
   obtain ⟨gr, ogr, rfl, hrr⟩ := hinR.addr (by omega)
   have rdr : ∀ {l r}, Pick l K r → RdN l (gr) (ogr + q * 2) (rowC (kb, vb)) := fun hp2 => by
    have h2 : InL _ (some ⟨gr, ogr, none⟩) R.length cc (R.flatMap rowC) := hinR.kept hp2
    obtain ⟨b', o', e, hr⟩ := h2.addr (by omega)
    cases e
    exact RdN.elem (hr []) (fun x _ => rfl) hp
   obtain ⟨Z, hZ⟩ : ∃ Z, X ++ num2 R.length ++ (R.take q).flatMap rowB = Z := ⟨_, rfl⟩
   have hZl : Z.length ≤ 700000 := by
    rw [← hZ, List.length_append, List.length_append]
    have := hrow q
    omega
   have hznext : X ++ num2 R.length ++ (R.take (q + 1)).flatMap rowB = Z ++ txtB kb ++ txtB vb := by rw [List.take_add_one, hp, List.flatMap_append, ← hZ]; simp [rowB]
   have t1 := txtB_length kb
   have t2 := txtB_length vb
   rw [hZ]
   refine Je (Jb (Jd rfl) U U U (Jb (Jk hT U U U U U U) U U U ?_))
   refine Jb (Jo hT U U U zrd) U U U ?_
   refine Jb (Jd rfl) U U U ?_
   refine Jb (Jn hT U U U U U zix zix) U U U ?_
   refine Jb (Jo hT U U U (Rd1.elem (rdv zpk) hv)) U U U ?_
   refine Jb (Jd rfl) U U U ?_
   refine Jb (Jn hT U U U U U zix zix) U U U ?_
   refine Jb (Jk hT U U U U U U) U U U ?_
   refine Jb (Jo hT U U U (rdr zpk 0 _ rfl)) U U U ?_
   refine Jl rfl (Jw e141 U U (rtext_spec E kb (by omega) _) ?_)
   rintro _ _ ⟨a3, c3, rfl, o3, rfl⟩
   refine Jl rfl (Jw e139 U U (Fc.fact (p := OwnAt ba2 Z.length bc2 (ints .u8 Z)) (fun w s => Vu (s.pick zpk)) fun o2 => rboth_spec E ba2 a3 bc2 c3 Z (txtB kb) _ (o2.inl zpk) (o3.inl zpk) (by omega)) ?_)
   rintro _ _ ⟨a4, c4, rfl, rfl⟩
   rw [show Z.length + (txtB kb).length = (Z ++ txtB kb).length from List.length_append.symm]
   refine Jb (Jf rfl) U U U ?_
   refine Jg (Ja (Je (Jb (Jd rfl) U U U (Jb (Jk hT U U U U U U) U U U ?_))))
   refine Jb (Jo hT U U U zrd) U U U ?_
   refine Jb (Jd rfl) U U U ?_
   refine Jb (Jn hT U U U U U zix zix) U U U ?_
   refine Jb (Jo hT U U U (Rd1.elem (rdv zpk) hv)) U U U ?_
   refine Jb (Jd rfl) U U U ?_
   refine Jb (Jn hT U U U U U zix zix) U U U ?_
   refine Jb (Jk hT U U U U U U) U U U ?_
   refine Jb (Jo hT U U U (rdr zpk 1 _ rfl)) U U U ?_
   refine Jl rfl (Jw e141 U U (rtext_spec E vb (by omega) _) ?_)
   rintro _ _ ⟨a5, c5, rfl, o5, rfl⟩
   refine Jl rfl (Jw e139 U U (Fc.fact (p := OwnAt a4 (Z ++ txtB kb).length c4 (ints .u8 (Z ++ txtB kb))) (fun w s => Vu (s.pick zpk)) fun o2 => rboth_spec E a4 a5 c4 c5 (Z ++ txtB kb) (txtB vb) _ (o2.inl zpk) (o5.inl zpk) (by rw [List.length_append]; omega)) ?_)
   rintro _ _ ⟨a6, c6, rfl, rfl⟩
   rw [show (Z ++ txtB kb).length + (txtB vb).length = (Z ++ txtB kb ++ txtB vb).length from List.length_append.symm]
   refine Jb (Jf rfl) U U U ?_
   refine Jg (Ju (Ja (Je (Jb (Jd rfl) U U U ?_))))
   refine Jb (Wa U U zwr) U U U ?_
   refine Jb (Jf rfl) U U U ?_
   refine Jg ?_
  all_goals
   refine Vt (s := (q, ba2, bc2)) (q + 1, a6, c6) (by dsimp only; omega) ⟨rfl, by dsimp only; rw [hznext]; rfl, U, U, trivial⟩ (fun w z => ?_) (by dsimp only; omega)
   dsimp only
   rw [hznext]
   exact z.sup zsup
theorem rfits_spec (h : Shp) (k v : ByteArray) (hk : k.size ≤ 9000000) (hv : v.size ≤ 9000000) (l : List HProp) :
 Fc prog E 90 [.agg (shC h).toArray, .agg #[.string k, .string v]].toArray l (fun u l' => u = .bool (decide (FitR h k v)) ∧ l' = l) := by
 refine Fc.eqs ?_
 obtain ⟨hrw, hky, hvl⟩ := h
 refine Va (c := ?codeC) Tryz.func90 ?hb Tryz.ntmps90 ?hl ?_
 case hb => exact rfl
 case hl => exact rfl
 refine Jh (Je ?_)
 refine Jl rfl (l_box (cs := [.int .i64 hrw, .int .i64 hky, .int .i64 hvl]) U U U (fun b2 => ?_))
 refine Jl rfl (l_box (cs := [.string k, .string v]) U U U (fun b3 => ?_))
 refine Jb (Jf rfl) U U U ?_
 refine Jg (Ja (Jh (Je (Jb (Jk hT U U U U U U) U U U ?_))))
 refine Jb (Jo hT U U U zrd) U U U ?_
 refine Jb (y_len_string hT U U U) U U U (Jb (y_geq U U) U U U (Jb (Jd rfl) U U U ?_))
 all_goals (first | (refine Vh U U U (fun h => ?_) (fun h => ?_) <;> try (first | (exfalso; omega) | exact absurd rfl h)) | (refine Vr U U U (fun h => ?_) (fun h => ?_) <;> try (first | cases h | (exfalso; simp at h; done))) | skip)
 all_goals (first | refine Js U U U U U U ?_ | refine Jp U U U U U ?_ | refine Jt U U U (Jk hT U U U U U U) U U ?_)
 all_goals (first | refine Js U U U U U U ?_ | refine Jp U U U U U ?_ | refine Jt U U U (Jo hT U U U zrd) U U ?_)
 all_goals (first | refine Js U U U U U U ?_ | refine Jp U U U U U ?_ | refine Jt U U U (y_len_string hT U U U) U U ?_)
 all_goals (first | refine Js U U U U U U ?_ | refine Jp U U U U U ?_ | refine Jt U U U (Jk hT U U U U U U) U U ?_)
 all_goals (first | refine Js U U U U U U ?_ | refine Jp U U U U U ?_ | refine Jt U U U (Jo hT U U U zrd) U U ?_)
 all_goals (first | refine Js U U U U U U ?_ | refine Jp U U U U U ?_ | refine Jt U U U (y_leq U U) U U ?_)
 all_goals (refine Jb (Wb U U U) U U U ?_)
 all_goals (refine Jb (Jd rfl) U U U ?_)
 all_goals (first | (refine Vh U U U (fun h => ?_) (fun h => ?_) <;> try (first | (exfalso; omega) | exact absurd rfl h)) | (refine Vr U U U (fun h => ?_) (fun h => ?_) <;> try (first | cases h | (exfalso; simp at h; done))) | skip)
 all_goals (first | refine Js U U U U U U ?_ | refine Jp U U U U U ?_ | refine Jt U U U (Jk hT U U U U U U) U U ?_)
 all_goals (first | refine Js U U U U U U ?_ | refine Jp U U U U U ?_ | refine Jt U U U (Jo hT U U U zrd) U U ?_)
 all_goals (first | refine Js U U U U U U ?_ | refine Jp U U U U U ?_ | refine Jt U U U (y_len_string hT U U U) U U ?_)
 all_goals (first | refine Js U U U U U U ?_ | refine Jp U U U U U ?_ | refine Jt U U U (Jk hT U U U U U U) U U ?_)
 all_goals (first | refine Js U U U U U U ?_ | refine Jp U U U U U ?_ | refine Jt U U U (Jo hT U U U zrd) U U ?_)
 all_goals (first | refine Js U U U U U U ?_ | refine Jp U U U U U ?_ | refine Jt U U U (y_leq U U) U U ?_)
 all_goals (refine Jb (Wb U U U) U U U ?_)
 all_goals (refine Jb (Jf rfl) U U U ?_)
 all_goals refine Jg (Ja ?_)
 all_goals
  refine Vn ?_
  refine Vi (.inl rfl) U U zrv ?_
  refine ⟨congrArg Value.bool (Bool.eq_iff_iff.2 ?_), fun w q => q.sup zsup⟩
  have hF : FitR ⟨hrw, hky, hvl⟩ k v ↔ 0 < k.size ∧ (k.size : Int) ≤ hky ∧ (v.size : Int) ≤ hvl := Iff.rfl
  rw [decide_eq_true_iff (p := FitR ⟨hrw, hky, hvl⟩ k v), hF]
  first
   | (rw [decide_eq_true_iff]; omega)
   | (constructor
      · intro h; cases h
      · intro h; exfalso; omega)
theorem rright_spec (h : Shp) (l : List HProp) :
 Fc prog E 88 [.agg (shC h).toArray].toArray l (fun u l' => ∃ b, u = .bool b ∧ (b = true ↔ ShOk h) ∧ l' = l) := by
 refine Wg ?_
 obtain ⟨hrw, hky, hvl⟩ := h
 have hiff : ShOk ⟨hrw, hky, hvl⟩ ↔ (1 ≤ hrw ∧ hrw ≤ 64) ∧ (1 ≤ hky ∧ hky ≤ 64) ∧ (0 ≤ hvl ∧ hvl ≤ 1024) := ⟨fun h => ⟨h.rows, h.key, h.value⟩, fun h => ⟨h.1, h.2.1, h.2.2⟩⟩
 refine Va (c := ?codeC) Tryz.func88 ?hb Tryz.ntmps88 ?hl ?_
 case hb => exact rfl
 case hl => exact rfl
 refine Jh (Je ?_)
 refine Jl rfl (l_box (cs := [.int .i64 hrw, .int .i64 hky, .int .i64 hvl]) U U U (fun b2 => ?_))
 refine Jb (Jf rfl) U U U ?_
 refine Jg (Ja (Jh (Je (Jb (Jk hT U U U U U U) U U U ?_))))
 refine Jb (Jo hT U U U zrd) U U U ?_
 refine Jb (y_geq U U) U U U (Jb (Jd rfl) U U U ?_)
 all_goals (first | (refine Vh U U U (fun h => ?_) (fun h => ?_) <;> try (first | (exfalso; omega) | exact absurd rfl h)) | (refine Vr U U U (fun h => ?_) (fun h => ?_) <;> try (first | cases h | (exfalso; simp at h; done))) | skip)
 all_goals (first | refine Js U U U U U U ?_ | refine Jp U U U U U ?_ | refine Jt U U U (Jk hT U U U U U U) U U ?_)
 all_goals (first | refine Js U U U U U U ?_ | refine Jp U U U U U ?_ | refine Jt U U U (Jo hT U U U zrd) U U ?_)
 all_goals (first | refine Js U U U U U U ?_ | refine Jp U U U U U ?_ | refine Jt U U U (y_leq U U) U U ?_)
 all_goals (refine Jb (Wb U U U) U U U ?_)
 all_goals (refine Jb (Jd rfl) U U U ?_)
 all_goals (first | (refine Vh U U U (fun h => ?_) (fun h => ?_) <;> try (first | (exfalso; omega) | exact absurd rfl h)) | (refine Vr U U U (fun h => ?_) (fun h => ?_) <;> try (first | cases h | (exfalso; simp at h; done))) | skip)
 all_goals (first | refine Js U U U U U U ?_ | refine Jp U U U U U ?_ | refine Jt U U U (Jk hT U U U U U U) U U ?_)
 all_goals (first | refine Js U U U U U U ?_ | refine Jp U U U U U ?_ | refine Jt U U U (Jo hT U U U zrd) U U ?_)
 all_goals (first | refine Js U U U U U U ?_ | refine Jp U U U U U ?_ | refine Jt U U U (y_geq U U) U U ?_)
 all_goals (refine Jb (Wb U U U) U U U ?_)
 all_goals (refine Jb (Jd rfl) U U U ?_)
 all_goals (first | (refine Vh U U U (fun h => ?_) (fun h => ?_) <;> try (first | (exfalso; omega) | exact absurd rfl h)) | (refine Vr U U U (fun h => ?_) (fun h => ?_) <;> try (first | cases h | (exfalso; simp at h; done))) | skip)
 all_goals (first | refine Js U U U U U U ?_ | refine Jp U U U U U ?_ | refine Jt U U U (Jk hT U U U U U U) U U ?_)
 all_goals (first | refine Js U U U U U U ?_ | refine Jp U U U U U ?_ | refine Jt U U U (Jo hT U U U zrd) U U ?_)
 all_goals (first | refine Js U U U U U U ?_ | refine Jp U U U U U ?_ | refine Jt U U U (y_leq U U) U U ?_)
 all_goals (refine Jb (Wb U U U) U U U ?_)
 all_goals (refine Jb (Jd rfl) U U U ?_)
 all_goals (first | (refine Vh U U U (fun h => ?_) (fun h => ?_) <;> try (first | (exfalso; omega) | exact absurd rfl h)) | (refine Vr U U U (fun h => ?_) (fun h => ?_) <;> try (first | cases h | (exfalso; simp at h; done))) | skip)
 all_goals (first | refine Js U U U U U U ?_ | refine Jp U U U U U ?_ | refine Jt U U U (Jk hT U U U U U U) U U ?_)
 all_goals (first | refine Js U U U U U U ?_ | refine Jp U U U U U ?_ | refine Jt U U U (Jo hT U U U zrd) U U ?_)
 all_goals (first | refine Js U U U U U U ?_ | refine Jp U U U U U ?_ | refine Jt U U U (y_geq U U) U U ?_)
 all_goals (refine Jb (Wb U U U) U U U ?_)
 all_goals (refine Jb (Jd rfl) U U U ?_)
 all_goals (first | (refine Vh U U U (fun h => ?_) (fun h => ?_) <;> try (first | (exfalso; omega) | exact absurd rfl h)) | (refine Vr U U U (fun h => ?_) (fun h => ?_) <;> try (first | cases h | (exfalso; simp at h; done))) | skip)
 all_goals (first | refine Js U U U U U U ?_ | refine Jp U U U U U ?_ | refine Jt U U U (Jk hT U U U U U U) U U ?_)
 all_goals (first | refine Js U U U U U U ?_ | refine Jp U U U U U ?_ | refine Jt U U U (Jo hT U U U zrd) U U ?_)
 all_goals (first | refine Js U U U U U U ?_ | refine Jp U U U U U ?_ | refine Jt U U U (y_leq U U) U U ?_)
 all_goals (refine Jb (Wb U U U) U U U ?_)
 all_goals (refine Jb (Jf rfl) U U U ?_)
 all_goals refine Jg (Ja ?_)
 all_goals
  refine Vn ?_
  refine Vi (.inl rfl) U U zrv ?_
  refine ⟨_, fun w q => q.sup zsup, _, rfl, ?_, rfl⟩
  rw [hiff]
  first
   | (rw [decide_eq_true_iff]; omega)
   | (constructor
      · intro h; cases h
      · intro h; exfalso; omega)
end
end
section
open Go Go.SL
section
structure Turn13 (shs : List Shp) (j : Nat) (B : Bs) (S : Sb) (D : Dk) (L : Lg) (K : HProp) (vk vm : Value) : Prop where
 shs : B.shs = shs
 lh : LH S D L
 ok : BOk B j
 ties : Ties B.shs B.kept L j
 rk : RSt K vk B.kept
 rm : RSt K vm B.meant
 turn : S.turn.toNat ≤ j
 size : 64 ≤ D.safe.length
def modC (vk vm : Value) (sp : Option Addr) (n sc : Nat) (t : Int) : List Value := [vk, vm, .slice sp n sc, .int .i64 t]
theorem RdN.keptN {K : HProp} {g o : Nat} {cs : List Value} (h : RdN [K] g o cs) {l r : List HProp} (hp : Pick l K r) : RdN l g o cs := fun j v hj E w s => h j v hj E w (s.pick hp).only
theorem putStep_in {B : Bs} {i : Nat} {s : Shp} {R : List Rw} (hs : B.shs[i]? = some s) (hR : B.meant[i]? = some R) (k v : ByteArray) : putStep B i k v = if putE s R k v = 0 then B.put i R k v else B := by rw [putStep, hs, hR]
end
section
attribute [local irreducible] J JL JE JM LS Y Fc RV Code.wp wpList Code.wpIn wpListIn
attribute [local irreducible] Yc ltS
variable (E : World)
set_option maxHeartbeats 2000000 in
theorem does_spec (m b lg st d : Nat) (shs : List Shp) (j kind : Nat) (tab : Int) (key val : ByteArray) (B : Bs) (S : Sb) (D : Dk) (L : Lg) (K : HProp) (vk vm : Value) (sp : Option Addr) (sc n : Nat) (l : List HProp) (hTn : Turn13 shs j B S D L K vk vm) (hj : j ≤ 100) (hkind : kind ≤ 3) (hn : shs.length = n) (hk : key.size ≤ 9000000) (hv : val.size ≤ 9000000) (htab : -9223372036854775808 ≤ tab ∧ tab ≤ 9223372036854775807) (hin : InL l sp n sc (shs.flatMap shC)) :
 Fc prog E 41 [.pointer (some ⟨m, 0, none⟩), .pointer (some ⟨b, 0, none⟩), .agg #[.int .i64 (kind : Int), .int .i64 tab, .string key, .string val]].toArray
  (row m 87 (modC vk vm sp n sc B.turned.length) :: K :: baseM b lg B :: logm lg st L :: row st 205 (scells S d) :: disk d D :: l)
  (fun u l' => ∃ B' S' D' L' K' vk' vm', u = .bool true ∧ Turn13 shs (j + 1) B' S' D' L' K' vk' vm' ∧ l' = row m 87 (modC vk' vm' sp n sc B'.turned.length) :: K' :: baseM b lg B' :: logm lg st L' :: row st 205 (scells S' d) :: disk d D' :: l) := by
 refine Wg ?_
 have hO := hTn.ok
 have hBn : B.shs.length = n := by rw [hTn.shs]; exact hn
 have h8 : n ≤ 8 := by rw [← hBn]; exact hO.n8
 have hMn : B.meant.length = n := by rw [hO.mfit.len]; exact hBn
 have hrm := hTn.rm
 have hrk := hTn.rk
 obtain ⟨a, c, vals, rfl, hin2, hvl, hg⟩ := hrm.out
 obtain ⟨ak, ck, valsk, rfl, _⟩ := hrk.out
 rw [hMn] at hin2
 have hsl : (Value.slice a B.meant.length c) = Value.slice a n c := by rw [hMn]
 have hfewT := hO.few
 obtain ⟨T, hT2⟩ : ∃ T, B.turned.length = T := ⟨_, rfl⟩
 rw [hT2] at hfewT ⊢
 rw [hsl] at hTn hrm ⊢
 refine Va (c := ?codeC) Tryz.func41 ?hb Tryz.ntmps41 ?hl ?_
 case hb => exact rfl
 case hl => exact rfl
 refine Jh (Je ?_)
 refine Jl rfl (l_box (cs := [.int .i64 kind, .int .i64 tab, .string key, .string val]) U U U (fun b5 => ?_))
 refine Jb (Jf rfl) U U U ?_
 refine Jg (Ja (Jh (Je (Jb (Jk hT U U U U U U) U U U ?_))))
 refine Jb (Jo hT U U U zrd) U U U ?_
 refine Jb (Jk hT U U U U U U) U U U ?_
 refine Jb (Jo hT U U U zrd) U U U ?_
 refine Jb (y_build (cs := [_, _]) hT U U U U U U ⟨⟨zln, Nat.le_of_ble_eq_true rfl⟩, ⟨⟨zln, Nat.le_of_ble_eq_true rfl⟩, trivial⟩⟩ rfl) U U U ?_
 refine Jl rfl (Wf hT U U zcl rfl (fun b7 => ?_))
 refine Jl rfl (Vx (vs := rowC (key, val)) hT U U U U (by intro u hu; exact rowC_one _ u hu) zpk zln ?_)
 refine Jg (Ja ?_)
 refine J.seqK (α := Bool) (fun s => s = decide (0 ≤ tab ∧ tab < (n : Int))) (fun s => [(0, .pointer (some ⟨m, 0, none⟩)), (1, .pointer (some ⟨b, 0, none⟩)), (5, .pointer (some ⟨b5, 0, none⟩)), (7, .pointer (some ⟨b7, 0, none⟩)), (8, .bool s)]) (fun _ => row m 87 (modC (.slice ak B.kept.length ck) (.slice a n c) sp n sc T) :: K :: row b7 176 (rowC (key, val)) :: row b5 89 [.int .i64 kind, .int .i64 tab, .string key, .string val] :: baseM b lg B :: logm lg st L :: row st 205 (scells S d) :: disk d D :: l) ?hj3 (fun hk3 => ?hf3)
 case hf3 =>
  by_cases hin0 : 0 ≤ tab ∧ tab < (n : Int)
  case' neg =>
   have hout := hin0
   by_cases h0 : 0 ≤ tab
  all_goals
   refine Vz _ _ [(0, .q), (1, .q), (2, .q), (3, .q), (4, .q), (5, .q), (6, .q), (7, .q), (8, .q), (9, .q), (10, .q), (11, .q), (12, .q), (13, .q)] mixed (by kernel_rfl) (Jj) ?_
   refine Jc U U U U (fun m => Jk hT U U U U U U) ?_
   refine Jc U U U U (fun m => Jo hT U U U zrda) ?_
   first | refine Jc U U U U (fun m => y_geqB U U (decide_eq_true (by omega))) ?_ | refine Jc U U U U (fun m => y_geqB U U (decide_eq_false (by omega))) ?_
   refine zqm U U U U U ?_
   all_goals (first | refine Jy U U U U U U U ?_ | refine JM.gskipU U U U U U U ?_ | refine Jr U U U U U U (fun m => Jk hT U U U U U U) ?_)
   all_goals (first | refine Jy U U U U U U U ?_ | refine JM.gskipU U U U U U U ?_ | refine Jr U U U U U U (fun m => Jo hT U U U zrda) ?_)
   all_goals (first | refine Jy U U U U U U U ?_ | refine JM.gskipU U U U U U U ?_ | refine Jr U U U U U U (fun m => Jd rfl) ?_)
   all_goals (first | refine Jy U U U U U U U ?_ | refine JM.gskipU U U U U U U ?_ | refine Jr U U U U U U (fun m => znc) ?_)
   all_goals (first | refine Jy U U U U U U U ?_ | refine JM.gskipU U U U U U U ?_ | refine Jr U U U U U U (fun m => Jk hT U U U U U U) ?_)
   all_goals (first | refine Jy U U U U U U U ?_ | refine JM.gskipU U U U U U U ?_ | refine Jr U U U U U U (fun m => Jo hT U U U zrda) ?_)
   all_goals (first | refine Jy U U U U U U U ?_ | refine JM.gskipU U U U U U U ?_ | refine Jr U U U U U U (fun m => Vf hT U U U) ?_)
   first | refine Jy U U U U U U U ?_ | refine JM.gskipU U U U U U U ?_ | refine Jr U U U U U U (fun m => y_lssB U U (decide_eq_true (by omega))) ?_ | refine Jr U U U U U U (fun m => y_lssB U U (decide_eq_false (by omega))) ?_
   all_goals refine Jc U U U U (fun m => Wb U U U) ?_
   all_goals refine Jc U U U U (fun m => Jf rfl) ?_
   all_goals refine Vv ?_
  all_goals refine Ja ?_
  all_goals
   first
    | (have zz := hout
       exact Wj hk3 false (decide_eq_false hout).symm ⟨U, U, U, U, U, trivial⟩ (fun w q => q.sup zsup))
    | exact Wj hk3 true (decide_eq_true hin0).symm ⟨U, U, U, U, U, trivial⟩ (fun w q => q.sup zsup)
 intro i0 hi0
 refine J.seqK (α := Bool × Bool) (fun s => s.1 = decide (0 ≤ tab ∧ tab < (n : Int)) ∧ ∀ (i : Nat) R, tab = (i : Int) → B.meant[i]? = some R → s.2 = (rget R key).isSome) (fun s => [(0, .pointer (some ⟨m, 0, none⟩)), (1, .pointer (some ⟨b, 0, none⟩)), (5, .pointer (some ⟨b5, 0, none⟩)), (7, .pointer (some ⟨b7, 0, none⟩)), (8, .bool s.1), (9, .bool s.2)]) (fun _ => row m 87 (modC (.slice ak B.kept.length ck) (.slice a n c) sp n sc T) :: K :: row b7 176 (rowC (key, val)) :: row b5 89 [.int .i64 kind, .int .i64 tab, .string key, .string val] :: baseM b lg B :: logm lg st L :: row st 205 (scells S d) :: disk d D :: l) ?hj4 (fun hk4 => ?hf4)
 case hf4 =>
  cases i0
  case' false =>
   have hout := of_decide_eq_false hi0.symm
  case' true =>
   have hin0 := of_decide_eq_true hi0.symm
   obtain ⟨i, rfl⟩ : ∃ i : Nat, tab = i := ⟨tab.toNat, by omega⟩
   have hip : i < n := by omega
   obtain ⟨R, hR⟩ : ∃ R, B.meant[i]? = some R := ⟨_, List.getElem?_eq_getElem (by omega)⟩
   obtain ⟨pR, cR, hvR, hinR⟩ := hg i R hR
   have hfewR := ((hO.mfit.rok hO.sh) R (List.mem_of_getElem? hR)).few
   obtain ⟨ga, oa, rfl, hra⟩ := hin2.addr (by omega)
   have hra0 : RdN [K] ga oa vals := hra []
  all_goals
   first
    | (have zz := hout
       refine Vz _ _ [(0, .q), (1, .q), (2, .q), (3, .q), (4, .q), (5, .q), (6, .q), (7, .q), (8, .q), (9, .q), (10, .q), (11, .q), (12, .q), (13, .q), (14, .q), (15, .q), (16, .q)] mixed (by kernel_rfl) (Jj) ?_)
    | refine Vz _ _ [(0, .q), (1, .q), (2, .q), (3, .q), (4, .q), (5, .q), (6, .q), (7, .q), (8, .q), (9, .q), (10, .q), (11, .q), (12, .q), (13, .l), (14, .q), (15, .q), (16, .q)] mixed (by kernel_rfl) (Jj) ?_
   refine zqm U U U U U (zqm U U U U U ?_)
   all_goals (first | refine Jy U U U U U U U ?_ | refine JM.gskipU U U U U U U ?_ | refine Jr U U U U U U (fun m => Jd rfl) ?_)
   all_goals (first | refine Jy U U U U U U U ?_ | refine JM.gskipU U U U U U U ?_ | refine Jr U U U U U U (fun m => znc) ?_)
   all_goals (first | refine Jy U U U U U U U ?_ | refine JM.gskipU U U U U U U ?_ | refine Jr U U U U U U (fun m => Jk hT U U U U U U) ?_)
   all_goals (first | refine Jy U U U U U U U ?_ | refine JM.gskipU U U U U U U ?_ | refine Jr U U U U U U (fun m => Jk hT U U U U U U) ?_)
   all_goals (first | refine Jy U U U U U U U ?_ | refine JM.gskipU U U U U U U ?_ | refine Jr U U U U U U (fun m => Jo hT U U U zrda) ?_)
   all_goals (first | refine Jy U U U U U U U ?_ | refine JM.gskipU U U U U U U ?_ | refine Jr U U U U U U (fun m => Jk hT U U U U U U) ?_)
   all_goals (first | refine Jy U U U U U U U ?_ | refine JM.gskipU U U U U U U ?_ | refine Jr U U U U U U (fun m => Jo hT U U U zrda) ?_)
   all_goals (first | refine Jy U U U U U U U ?_ | refine JM.gskipU U U U U U U ?_ | refine Jr U U U U U U (fun m => Jn hT U U U U U zix zix) ?_)
   first | refine Jy U U U U U U U ?_ | refine JM.gskipU U U U U U U ?_ | refine Jr U U U U U U (fun m => Jo hT U U U (Rd1.elem (RdN.keptN hra0 (Vp m zpk)) hvR)) ?_
   all_goals (first | refine Jy U U U U U U U ?_ | refine JM.gskipU U U U U U U ?_ | refine Jr U U U U U U (fun m => Jk hT U U U U U U) ?_)
   all_goals (first | refine Jy U U U U U U U ?_ | refine JM.gskipU U U U U U U ?_ | refine Jr U U U U U U (fun m => Jo hT U U U zrda) ?_)
   first | refine Jy U U U U U U U ?_ | refine JM.gskipU U U U U U U ?_ | (refine JM.gloud U U U U (fun fr => Jw e89 U U (rfind_spec E pR cR R.length R key _ rfl (by omega) (hinR.kept zpk)) ?_); rintro _ _ ⟨z, rfl, hz, rfl⟩; refine ⟨[], (by (repeat (first | exact Jj | exact Vc | refine Ji Jm ?_))), ?_⟩)
   first | refine Jy U U U U U U U ?_ | refine JM.gskipU U U U U U U ?_ | (have hth : decide ((0 : Int) ≤ z) = (rget R key).isSome := (by rw [Bool.eq_iff_iff, decide_eq_true_iff, hz, Option.isSome_iff_ne_none]); refine Jr U U U U U U (fun m => y_geqB U U hth) ?_)
   all_goals refine Jc U U U U (fun m => Wb U U U) ?_
   all_goals refine Jc U U U U (fun m => Jf rfl) ?_
   all_goals refine Vv ?_
  all_goals refine Ja ?_
  all_goals
   first
    | (have zz := hout
       refine Wj hk4 (false, false) ⟨(decide_eq_false hout).symm, fun i R e1 e2 => ?_⟩ ⟨U, U, U, U, U, U, trivial⟩ (fun w q => q.sup zsup)
       exfalso
       subst e1
       have := (List.getElem?_eq_some_iff.1 e2).1
       exact hout ⟨by omega, by omega⟩)
    | (have zz := hip
       refine Wj hk4 (true, (rget R key).isSome) ⟨(decide_eq_true hin0).symm, fun i2 R2 e1 e2 => ?_⟩ ⟨U, U, U, U, U, U, trivial⟩ (fun w q => q.sup zsup)
       obtain rfl : i = i2 := by omega
       rw [hR] at e2
       cases e2
       rfl)
 rintro ⟨i1, t1⟩ ⟨hi1, ht1⟩
 dsimp only at hi1 ht1 ⊢
 refine Jh (Je (Jb (Jf rfl) U U U ?_))
 refine Jg (Ja (Jh (Jh (Je (Jb (Jk hT U U U U U U) U U U ?_)))))
 refine Jb (Jo hT U U U zrd) U U U ?_
 refine Jg (Ja ?_)
 have hcase : (kind = 0 ∧ i1 = true) ∨ (kind = 0 ∧ i1 = false) ∨ (kind = 1 ∧ i1 = true) ∨ (kind = 1 ∧ i1 = false) ∨ kind = 2 ∨ kind = 3 := by
  have h4 : kind = 0 ∨ kind = 1 ∨ kind = 2 ∨ kind = 3 := by omega
  rcases h4 with e | e | e | e <;> cases i1 <;> simp [e]
 rcases hcase with ⟨rfl, rfl⟩ | ⟨rfl, rfl⟩ | ⟨rfl, rfl⟩ | ⟨rfl, rfl⟩ | rfl | rfl
 ·
  have hin0 := of_decide_eq_true hi1.symm
  obtain ⟨i, rfl⟩ : ∃ i : Nat, tab = i := ⟨tab.toNat, by omega⟩
  have hip : i < n := by omega
  obtain ⟨R, hR⟩ : ∃ R, B.meant[i]? = some R := ⟨_, List.getElem?_eq_getElem (by omega)⟩
  obtain ⟨s, hs⟩ : ∃ s, B.shs[i]? = some s := ⟨_, List.getElem?_eq_getElem (by omega)⟩
  have hs2 : shs[i]? = some s := by rw [← hTn.shs]; exact hs
  obtain ⟨pR, cR, hvR, hinR⟩ := hg i R hR
  have hokR := (hO.mfit.rok hO.sh) R (List.mem_of_getElem? hR)
  have hfewR := hokR.few
  have hfit := hO.mfit.fit i s R hs hR
  have hfewS := hfit.few
  obtain ⟨ga, oa, rfl, hra⟩ := hin2.addr (by omega)
  have hra0 : RdN [K] ga oa vals := hra []
  obtain ⟨gs, os, rfl, hrs⟩ := hin.addr (by omega)
  have hrs0 : RdN l gs os (shs.flatMap shC) := hrs []
  have hrsE : RdN l gs (os + i * 3) (shC s) := RdN.elem hrs0 (fun x _ => shC_length x) hs2
  have ht2 := ht1 i R rfl hR
  obtain ⟨pe, hpe⟩ : ∃ pe, putE s R key val = pe := ⟨_, rfl⟩
  have hst := putStep_in hs hR key val
  rw [hpe] at hst
  obtain ⟨B2, hB2⟩ : ∃ B2, putStep B i key val = B2 := ⟨_, rfl⟩
  have hO2 : BOk B2 (j + 1) := by rw [← hB2]; exact putStep_ok hO _ _ _
  have hk2 : B2.shs = B.shs ∧ B2.kept = B.kept := by rw [← hB2]; exact putStep_kept _ _ _ _
  rw [hB2] at hst
  refine Ve (Jh (Je (Jb (y_eql U U) U U U (Jb (Jf rfl) U U U ?_))))
  refine Jg (Ja ?_)
  refine J.cond_t rfl zbl ?_
  refine J.seqK (α := HProp × Value) (fun s => RSt s.1 s.2 B2.meant ∧ ∀ x Qs, RSt K x Qs → RSt s.1 x Qs) (fun _ => [(1, .pointer (some ⟨b, 0, none⟩)), (5, .pointer (some ⟨b5, 0, none⟩)), (10, .int .i64 pe)]) (fun s => row m 87 (modC (.slice ak B.kept.length ck) s.2 (some ⟨gs, os, none⟩) n sc B2.turned.length) :: s.1 :: row b5 89 [.int .i64 (0 : Nat), .int .i64 i, .string key, .string val] :: baseM b lg B :: logm lg st L :: row st 205 (scells S d) :: disk d D :: l) ?hj14P (fun hk14 => ?hf14P)
  case hf14P =>
   refine Ve (Jh (Je (Jb (Jd rfl) U U U (Jb (y_not rfl) U U U (Jb (Jd rfl) U U U ?_)))))
   all_goals (first | (refine Vh U U U (fun h => ?_) (fun h => ?_) <;> try (first | (exfalso; omega) | exact absurd rfl h)) | (refine Vr U U U (fun h => ?_) (fun h => ?_) <;> try (first | cases h | (exfalso; simp at h; done))) | skip)
   all_goals (first | refine Js U U U U U U ?_ | refine Jp U U U U U ?_ | refine Jt U U U (Jk hT U U U U U U) U U ?_)
   all_goals (first | refine Js U U U U U U ?_ | refine Jp U U U U U ?_ | refine Jt U U U (Jo hT U U U zrd) U U ?_)
   all_goals (first | refine Js U U U U U U ?_ | refine Jp U U U U U ?_ | refine Jt U U U (y_str_eq U U) U U ?_)
   all_goals (refine Jb (Wb U U U) U U U ?_)
   all_goals (refine Jb (Jf rfl) U U U ?_)
   all_goals refine Jg (Ja ?_)
   all_goals
    first | apply Jx rfl | apply Vo rfl
    case' ht =>
     intro h
     try (first | exact zom | exact zho h | subst h)
     all_goals
      have hE : pe = 2 := by rw [← hpe]; exact if_pos rfl
      refine Je (Jb (Jf rfl) U U U ?_)
      refine Jg ?_
    case' hf =>
     intro h
     try (first | exact zom | exact zho h | subst h)
     all_goals
      have hkne : ¬ key.size = 0 := fun e => h (by rw [← strOf_bytesS key, bytesS_nil e]; rfl)
      refine Jh ?_
      refine Vz _ _ [(0, .q), (1, .q), (2, .q), (3, .q), (4, .q), (5, .q), (6, .q), (7, .q), (8, .q), (9, .q), (10, .q), (11, .q)] mixed (by kernel_rfl) (Jj) ?_
      refine zqm U U U U U ?_
      refine Jc U U U U (fun m => znc) ?_
      refine Jc U U U U (fun m => Jk hT U U U U U U) ?_
      refine Jc U U U U (fun m => Jo hT U U U zrda) ?_
      refine Jc U U U U (fun m => Jk hT U U U U U U) ?_
      refine Jc U U U U (fun m => Jo hT U U U zrda) ?_
      refine Jc U U U U (fun m => Jn hT U U U U U zix zix) ?_
      refine Jc U U U U (fun m => We hT U U U (show RdN _ gs (os + i * 3) (shC s) from by (repeat (first | assumption | apply RdN.cons | apply RdN.app))) rfl) ?_
      refine Jc U U U U (fun m => We hT U U U (RdN.rowAll (cs := rowC (key, val)) (Vp m zpk)) rfl) ?_
      refine Jc U U U U (fun m => y_callF e90 rfl (rfits_spec E s key val hk hv _)) (Jc U U U U (fun m => y_not rfl) (Jc U U U U (fun m => Jf rfl) ?_))
      refine Vv (Ja ?_)
      first | apply Jx rfl | apply Vo rfl
      case' ht =>
       intro h
       try (first | exact zom | exact zho h | subst h)
       all_goals
        have hnf : ¬ FitR s key val := by simpa using h
        have hE : pe = 3 := by
         rw [← hpe, putE, if_neg hkne, if_pos]
         unfold FitR at hnf
         omega
        refine Je (Jb (Jf rfl) U U U ?_)
        refine Jg ?_
      case' hf =>
       intro h
       try (first | exact zom | exact zho h | subst h)
       all_goals
        have hyf : FitR s key val := by simpa using h
        have hnl : ¬ (s.key < (key.size : Int) ∨ s.value < (val.size : Int)) := by
         unfold FitR at hyf
         omega
        refine Jh ?_
        cases t1
        all_goals
         refine Vz _ _ [(0, .q), (1, .q), (2, .q), (3, .q), (4, .q), (5, .q), (6, .q), (7, .q), (8, .q), (9, .q), (10, .q), (11, .q), (12, .q), (13, .q), (14, .q), (15, .q), (16, .q), (17, .q), (18, .q), (19, .q), (20, .q), (21, .q), (22, .q), (23, .q), (24, .q)] mixed (by kernel_rfl) (Jj) ?_
         refine zqm U U U U U (Jc U U U U (fun m => y_not rfl) (zqm U U U U U ?_))
         all_goals (first | refine Jy U U U U U U U ?_ | refine JM.gskipU U U U U U U ?_ | refine Jr U U U U U U (fun m => Jd rfl) ?_)
         all_goals (first | refine Jy U U U U U U U ?_ | refine JM.gskipU U U U U U U ?_ | refine Jr U U U U U U (fun m => znc) ?_)
         all_goals (first | refine Jy U U U U U U U ?_ | refine JM.gskipU U U U U U U ?_ | refine Jr U U U U U U (fun m => Jk hT U U U U U U) ?_)
         all_goals (first | refine Jy U U U U U U U ?_ | refine JM.gskipU U U U U U U ?_ | refine Jr U U U U U U (fun m => Jk hT U U U U U U) ?_)
         all_goals (first | refine Jy U U U U U U U ?_ | refine JM.gskipU U U U U U U ?_ | refine Jr U U U U U U (fun m => Jo hT U U U zrda) ?_)
         all_goals (first | refine Jy U U U U U U U ?_ | refine JM.gskipU U U U U U U ?_ | refine Jr U U U U U U (fun m => Jk hT U U U U U U) ?_)
         all_goals (first | refine Jy U U U U U U U ?_ | refine JM.gskipU U U U U U U ?_ | refine Jr U U U U U U (fun m => Jo hT U U U zrda) ?_)
         all_goals (first | refine Jy U U U U U U U ?_ | refine JM.gskipU U U U U U U ?_ | refine Jr U U U U U U (fun m => Jn hT U U U U U zix zix) ?_)
         first | refine Jy U U U U U U U ?_ | refine JM.gskipU U U U U U U ?_ | refine Jr U U U U U U (fun m => Jo hT U U U (Rd1.elem (RdN.keptN hra0 (Vp m zpk)) hvR)) ?_
         all_goals (first | refine Jy U U U U U U U ?_ | refine JM.gskipU U U U U U U ?_ | refine Jr U U U U U U (fun m => Vf hT U U U) ?_)
         all_goals (first | refine Jy U U U U U U U ?_ | refine JM.gskipU U U U U U U ?_ | refine Jr U U U U U U (fun m => Jd rfl) ?_)
         all_goals (first | refine Jy U U U U U U U ?_ | refine JM.gskipU U U U U U U ?_ | refine Jr U U U U U U (fun m => znc) ?_)
         all_goals (first | refine Jy U U U U U U U ?_ | refine JM.gskipU U U U U U U ?_ | refine Jr U U U U U U (fun m => Jk hT U U U U U U) ?_)
         all_goals (first | refine Jy U U U U U U U ?_ | refine JM.gskipU U U U U U U ?_ | refine Jr U U U U U U (fun m => Jo hT U U U zrda) ?_)
         all_goals (first | refine Jy U U U U U U U ?_ | refine JM.gskipU U U U U U U ?_ | refine Jr U U U U U U (fun m => Jk hT U U U U U U) ?_)
         all_goals (first | refine Jy U U U U U U U ?_ | refine JM.gskipU U U U U U U ?_ | refine Jr U U U U U U (fun m => Jo hT U U U zrda) ?_)
         all_goals (first | refine Jy U U U U U U U ?_ | refine JM.gskipU U U U U U U ?_ | refine Jr U U U U U U (fun m => Jn hT U U U U U zix zix) ?_)
         all_goals (first | refine Jy U U U U U U U ?_ | refine JM.gskipU U U U U U U ?_ | refine Jr U U U U U U (fun m => Jk hT U U U U U U) ?_)
         first | refine Jy U U U U U U U ?_ | refine JM.gskipU U U U U U U ?_ | refine Jr U U U U U U (fun m => Jo hT U U U ((show RdN _ gs (os + i * 3) (shC s) from by (repeat (first | assumption | apply RdN.cons | apply RdN.app))) 0 _ rfl)) ?_
         all_goals (first | refine Jy U U U U U U U ?_ | refine JM.gskipU U U U U U U ?_ | refine Jr U U U U U U (fun m => y_eql U U) ?_)
         all_goals refine Jc U U U U (fun m => Wb U U U) ?_
         all_goals refine Jc U U U U (fun m => Jf rfl) ?_
         all_goals refine Vv ?_
        all_goals refine Ja ?_
        all_goals
         first | apply Jx rfl | apply Vo rfl
         case' ht =>
          intro h
          try (first | exact zom | exact zho h | subst h)
          all_goals
           have hE : pe = 6 := by
            rw [← hpe, putE, if_neg hkne, if_neg hnl, if_pos]
            exact ⟨Option.isNone_iff_eq_none.1 (Option.isSome_eq_false_iff.1 ht2.symm), by assumption⟩
           refine Je (Jb (Jf rfl) U U U ?_)
           refine Jg ?_
         case' hf =>
          intro h
          try (first | exact zom | exact zho h | subst h)
          all_goals
           have hE0 : pe = 0 := by
            rw [← hpe, putE, if_neg hkne, if_neg hnl, if_neg]
            rintro ⟨e1, e2⟩
            rw [e1] at ht2
            first
             | (cases ht2; done)
             | exact absurd e2 (by assumption)
           refine J.pre (l' := row m 87 (modC (.slice ak B.kept.length ck) (.slice (some ⟨ga, oa, none⟩) n c) (some ⟨gs, os, none⟩) n sc T) :: K :: row b7 176 (rowC (key, val)) :: row b5 89 [.int .i64 (0 : Nat), .int .i64 i, .string key, .string val] :: baseM b lg B :: logm lg st L :: row st 205 (scells S d) :: disk d D :: l) (fun w s => s.sup zsup) ?_
           refine J.drawT2 _ _ (.fork [0, 1, 2, 3, 4, 6, 7, 8, 10, 11, 12] 5 (.fork [] 9 (.plan [(13, .l), (14, .q), (15, .q), (16, .q), (17, .l), (18, .q), (19, .q), (20, .l)]) 13 (.plan [(14, .q), (9, .l), (15, .q), (16, .q), (17, .l), (18, .q), (19, .q), (20, .l)])) 13 (.plan [(14, .q), (5, .l), (9, .l), (15, .q), (16, .q), (17, .l), (18, .q), (19, .q), (20, .l)])) mixed (by kernel_rfl) (Ji (Jm) (Ji (Jm) (Jj))) ?_
           refine JT.quiet2 U U U U (fun m => Jd rfl) ?_
           refine JT.quiet2 U U U U (fun m => Jd rfl) ?_
           refine JT.quiet2 U U U U (fun m => Jd rfl) ?_
           refine JT.quiet2 U U U U (fun m => znc) ?_
           refine JT.quiet2 U U U U (fun m => Jk hT U U U U U U) ?_
           refine JT.quiet2 U U U U (fun m => Jk hT U U U U U U) ?_
           refine JT.quiet2 U U U U (fun m => Jo hT U U U zrda) ?_
           refine JT.quiet2 U U U U (fun m => We hT U U U (RdN.rowAll (cs := rowC (key, val)) (Vp m zpk)) rfl) ?_
           refine JT.quiet2 U U U U (fun m => Jd rfl) ?_
           refine JT.quiet2 U U U U (fun m => znc) ?_
           refine JT.quiet2 U U U U (fun m => Jk hT U U U U U U) ?_
           refine JT.fork ?_ ?_
           refine JT.loud U U (fun fr => LS.ofY U U (We hT U U U (RdN.row (n := 1) zpk rfl) rfl) ⟨[_, _], (by (repeat (first | exact Jj | exact Vc | refine Ji Jm ?_))), ?_⟩)
           refine JT.fork ?_ ?_
           refine JT.loud U U (fun fr => Jw e91 U U (Vw (Ji (A := K) zpk Jj) (rturn_spec E K _ B.meant i R key val true _ hrm hR (by omega) (by omega))) ?_)
           rintro _ _ ⟨K2, vm2, rfl, hm2, hkeep, rfl⟩
           refine ⟨[_, _], (by (repeat (first | exact Jj | exact Vc | refine Ji Jm ?_))), ?_⟩
           refine JT.plan ?_
           refine Vm U U (fun fr => LS.ofY U U (Jo hT U U U zrd) ⟨[_, _], (by (repeat (first | exact Jj | exact Vc | refine Ji Jm ?_))), ?_⟩)
           refine Jc U U U U (fun m => Wa (m := ((T + 1 : Nat) : Int)) U U (Wm (by omega) (by omega))) ?_
           refine Jc U U U U (fun m => znc) ?_
           refine Jc U U U U (fun m => Jk hT U U U U U U) ?_
           obtain ⟨a2, c2, vals2, rfl, _⟩ := hm2.out
           obtain ⟨n2, hn2⟩ : ∃ n2, (B.meant.set i (withA key val (!true) R)).length = n2 := ⟨_, rfl⟩
           rw [hn2] at hm2 ⊢
           refine Vm U U (fun fr => l_storeN hT U U U zln zoc zpk zix (⟨[_, _], (by (repeat (first | exact Jj | exact Vc | refine Ji Jm ?_))), ?_⟩))
           refine Jc U U U U (fun m => znc) ?_
           refine Jc U U U U (fun m => Jk hT U U U U U U) ?_
           refine Vm U U (fun fr => Vs hT U U U U U zpk zix (⟨[_, _], (by (repeat (first | exact Jj | exact Vc | refine Ji Jm ?_))), ?_⟩))
           refine Vv ?_
           rotate_left
           refine JT.loud U U (fun fr => LS.ofY U U (Jo hT U U U zrd) ⟨[_, _], (by (repeat (first | exact Jj | exact Vc | refine Ji Jm ?_))), ?_⟩)
           refine JT.plan ?_
           refine Jc U U U U (fun m => Wa (m := ((T + 1 : Nat) : Int)) U U (Wm (by omega) (by omega))) ?_
           refine Vm U U (fun fr => Jw e91 U U (Vw (Ji (A := K) zpk Jj) (rturn_spec E K _ B.meant i R key val true _ hrm hR (by omega) (by omega))) ?_)
           rintro _ _ ⟨K2, vm2, rfl, hm2, hkeep, rfl⟩
           refine ⟨[_, _], (by (repeat (first | exact Jj | exact Vc | refine Ji Jm ?_))), ?_⟩
           refine Jc U U U U (fun m => znc) ?_
           refine Jc U U U U (fun m => Jk hT U U U U U U) ?_
           obtain ⟨a2, c2, vals2, rfl, _⟩ := hm2.out
           obtain ⟨n2, hn2⟩ : ∃ n2, (B.meant.set i (withA key val (!true) R)).length = n2 := ⟨_, rfl⟩
           rw [hn2] at hm2 ⊢
           refine Vm U U (fun fr => l_storeN hT U U U zln zoc zpk zix (⟨[_, _], (by (repeat (first | exact Jj | exact Vc | refine Ji Jm ?_))), ?_⟩))
           refine Jc U U U U (fun m => znc) ?_
           refine Jc U U U U (fun m => Jk hT U U U U U U) ?_
           refine Vm U U (fun fr => Vs hT U U U U U zpk zix (⟨[_, _], (by (repeat (first | exact Jj | exact Vc | refine Ji Jm ?_))), ?_⟩))
           refine Vv ?_
           rotate_left
           refine JT.loud U U (fun fr => LS.ofY U U (Jo hT U U U zrd) ⟨[_, _], (by (repeat (first | exact Jj | exact Vc | refine Ji Jm ?_))), ?_⟩)
           refine JT.plan ?_
           refine Jc U U U U (fun m => Wa (m := ((T + 1 : Nat) : Int)) U U (Wm (by omega) (by omega))) ?_
           refine Vm U U (fun fr => LS.ofY U U (We hT U U U (RdN.row (n := 1) zpk rfl) rfl) ⟨[_, _], (by (repeat (first | exact Jj | exact Vc | refine Ji Jm ?_))), ?_⟩)
           refine Vm U U (fun fr => Jw e91 U U (Vw (Ji (A := K) zpk Jj) (rturn_spec E K _ B.meant i R key val true _ hrm hR (by omega) (by omega))) ?_)
           rintro _ _ ⟨K2, vm2, rfl, hm2, hkeep, rfl⟩
           refine ⟨[_, _], (by (repeat (first | exact Jj | exact Vc | refine Ji Jm ?_))), ?_⟩
           refine Jc U U U U (fun m => znc) ?_
           refine Jc U U U U (fun m => Jk hT U U U U U U) ?_
           obtain ⟨a2, c2, vals2, rfl, _⟩ := hm2.out
           obtain ⟨n2, hn2⟩ : ∃ n2, (B.meant.set i (withA key val (!true) R)).length = n2 := ⟨_, rfl⟩
           rw [hn2] at hm2 ⊢
           refine Vm U U (fun fr => l_storeN hT U U U zln zoc zpk zix (⟨[_, _], (by (repeat (first | exact Jj | exact Vc | refine Ji Jm ?_))), ?_⟩))
           refine Jc U U U U (fun m => znc) ?_
           refine Jc U U U U (fun m => Jk hT U U U U U U) ?_
           refine Vm U U (fun fr => Vs hT U U U U U zpk zix (⟨[_, _], (by (repeat (first | exact Jj | exact Vc | refine Ji Jm ?_))), ?_⟩))
           refine Vv ?_
   all_goals refine Ju (Ja ?_)
   all_goals
    first
     | (have zz := hE
        have e : B2 = B := by rw [hst, if_neg (by rw [hE]; decide)]
        have hk := hk14
        rw [e, hT2] at hk
        refine Wj hk (K, .slice (some ⟨ga, oa, none⟩) n c) ⟨hrm, fun _ _ h => h⟩ ⟨rfl, rfl, by rw [hE]; rfl, trivial⟩ (fun w q => q.sup zsup))
     | (have zz := hE0
        have e : B2 = B.put i R key val := by rw [hst, if_pos hE0]
        have hk := hk14
        have hl3 : B2.turned.length = T + 1 := by rw [e, Bs.put, List.length_append, hT2]; rfl
        rw [hl3] at hk
        have hm3 : B2.meant = B.meant.set i (withA key val (!true) R) := by rw [e, show (!true) = false from rfl, withA_ins _ _ hokR.srt]; rfl
        refine Wj hk (K2, .slice a2 n2 c2) ⟨by rw [hm3]; exact hm2, hkeep⟩ ⟨rfl, rfl, by rw [hE0]; rfl, trivial⟩ (fun w q => q.sup zsup))
  rintro ⟨K3, vm3⟩ ⟨hm3, hkeep3⟩
  dsimp only at hm3 hkeep3 ⊢
  refine Jh (Je (Jb (Jd rfl) U U U (Jb (Jk hT U U U U U U) U U U ?_)))
  refine Jb (Jo hT U U U zrd) U U U ?_
  refine Jb (Jk hT U U U U U U) U U U ?_
  refine Jb (Jo hT U U U zrd) U U U ?_
  refine Jb (Jk hT U U U U U U) U U U ?_
  refine Jb (Jo hT U U U zrd) U U U ?_
  refine Jl rfl (l_convStr (s := val) hT U U U U U U U (by omega) rfl (fun g9 c9 K9 hK9 => ?_))
  refine Jl rfl (Jw e32 U U (Vw (Ji (A := baseM b lg B) zpk Jj) (put_spec E b lg B i s R key val _ c9 hO.n8 (by omega) hs hR hokR.srt hk hv (by omega) _ (hK9.kept zpk))) ?_)
  rintro _ _ ⟨rfl, rfl⟩
  refine Jb (Jd rfl) U U U ?_
  refine Jb (y_eqlB (b := true) U U (decide_eq_true hpe)) U U U ?_
  refine Jb (Jf rfl) U U U ?_
  refine Jg (Ja (Vn (Vj (Vb ?_))))
  refine Vi (.inl rfl) U U zrv ?_
  refine ⟨_, fun w q => ?_, B2, S, D, L, K3, .slice ak B.kept.length ck, vm3, rfl, ⟨hk2.1.trans hTn.shs, hTn.lh, hO2, by rw [hk2.1, hk2.2]; exact hTn.ties.mono (Nat.le_succ _), by rw [hk2.2]; exact hkeep3 _ _ hrk, hm3, by have := hTn.turn; omega, hTn.size⟩, rfl⟩
  rw [hpe, ← hst] at q
  exact q.sup zsup
 ·
  have hout : ¬ (0 ≤ tab ∧ tab < (B.shs.length : Int)) := by rw [hBn]; exact of_decide_eq_false hi1.symm
  refine Ve (Jh (Je (Jb (y_eql U U) U U U (Jb (Jf rfl) U U U ?_))))
  refine Jg (Ja ?_)
  refine J.cond_t rfl zbl ?_
  refine Jh (Ve (Jh (Je (Jb (Jd rfl) U U U (Jb (y_not rfl) U U U (Jb (Jd rfl) U U U ?_))))))
  all_goals (first | (refine Vh U U U (fun h => ?_) (fun h => ?_) <;> try (first | (exfalso; omega) | exact absurd rfl h)) | (refine Vr U U U (fun h => ?_) (fun h => ?_) <;> try (first | cases h | (exfalso; simp at h; done))) | skip)
  all_goals (first | refine Js U U U U U U ?_ | refine Jp U U U U U ?_ | refine Jt U U U (Jk hT U U U U U U) U U ?_)
  all_goals (first | refine Js U U U U U U ?_ | refine Jp U U U U U ?_ | refine Jt U U U (Jo hT U U U zrd) U U ?_)
  all_goals (first | refine Js U U U U U U ?_ | refine Jp U U U U U ?_ | refine Jt U U U (y_str_eq U U) U U ?_)
  all_goals (refine Jb (Wb U U U) U U U ?_)
  all_goals (refine Jb (Jf rfl) U U U ?_)
  all_goals refine Jg (Ja ?_)
  all_goals
   refine J.cond_t rfl zbl ?_
   refine Je (Jb (Jf rfl) U U U ?_)
   refine Jg ?_
  all_goals refine Ju (Ja ?_)
  all_goals
   refine Jh (Je (Jb (Jd rfl) U U U (Jb (Jk hT U U U U U U) U U U ?_)))
   refine Jb (Jo hT U U U zrd) U U U ?_
   refine Jb (Jk hT U U U U U U) U U U ?_
   refine Jb (Jo hT U U U zrd) U U U ?_
   refine Jb (Jk hT U U U U U U) U U U ?_
   refine Jb (Jo hT U U U zrd) U U U ?_
   refine Jl rfl (l_convStr (s := val) hT U U U U U U U (by omega) rfl (fun g9 c9 K9 hK9 => ?_))
   refine Jl rfl (Jw e32 U U (Vw (Ji (A := baseM b lg B) zpk Jj) (put_bad E b lg B tab key _ hO.n8 hout _)) ?_)
   rintro _ _ ⟨rfl, rfl⟩
   refine Jb (Jd rfl) U U U (Jb (y_eql U U) U U U (Jb (Jf rfl) U U U ?_))
   refine Jg (Ja (Vn (Vj (Vb ?_))))
   refine Vi (.inl rfl) U U zrv ?_
   refine ⟨_, fun w q => ?_, B, S, D, L, K, .slice ak B.kept.length ck, .slice a n c, rfl, ⟨hTn.shs, hTn.lh, hO.mono (Nat.le_succ _), hTn.ties.mono (Nat.le_succ _), hrk, hrm, by have := hTn.turn; omega, hTn.size⟩, rfl⟩
   rw [hT2]
   exact q.sup zsup
 ·
  have hin0 := of_decide_eq_true hi1.symm
  obtain ⟨i, rfl⟩ : ∃ i : Nat, tab = i := ⟨tab.toNat, by omega⟩
  have hip : i < n := by omega
  obtain ⟨R, hR⟩ : ∃ R, B.meant[i]? = some R := ⟨_, List.getElem?_eq_getElem (by omega)⟩
  obtain ⟨s, hs⟩ : ∃ s, B.shs[i]? = some s := ⟨_, List.getElem?_eq_getElem (by omega)⟩
  obtain ⟨pR, cR, hvR, hinR⟩ := hg i R hR
  have hokR := (hO.mfit.rok hO.sh) R (List.mem_of_getElem? hR)
  have hfewR := hokR.few
  have ht2 := ht1 i R rfl hR
  refine Ve (Jh (Je (Jb (y_eql U U) U U U (Jb (Jf rfl) U U U ?_))))
  refine Jg (Ja ?_)
  refine Vk rfl zbl ?_
  refine Jh (Je (Jb (y_eql U U) U U U (Jb (Jf rfl) U U U ?_)))
  refine Jg (Ja ?_)
  refine J.cond_t rfl zbl ?_
  refine Jh (Ve (Jh (Je (Jb (Jd rfl) U U U (Jb (y_not rfl) U U U (Jb (Jf rfl) U U U ?_))))))
  refine Jg (Ja ?_)
  refine Vk rfl zbl ?_
  cases t1
  ·
   have hnone : rget R key = none := Option.isNone_iff_eq_none.1 (Option.isSome_eq_false_iff.1 ht2.symm)
   refine Jh (Je (Jb (Jd rfl) U U U (Jb (y_not rfl) U U U (Jb (Jf rfl) U U U ?_))))
   refine Jg (Ja ?_)
   refine J.cond_t rfl zbl ?_
   refine Je (Jb (Jf rfl) U U U ?_)
   refine Jg (Ju (Ja (Jh (Je (Jb (Jd rfl) U U U (Jb (Jk hT U U U U U U) U U U ?_))))))
   refine Jb (Jo hT U U U zrd) U U U ?_
   refine Jb (Jk hT U U U U U U) U U U ?_
   refine Jb (Jo hT U U U zrd) U U U ?_
   refine Jl rfl (Jw e33 U U (Vw (Ji (A := baseM b lg B) zpk Jj) (del_none E b lg B i R key hO.n8 (by omega) hR hokR.srt hnone _)) ?_)
   rintro _ _ ⟨rfl, rfl⟩
   refine Jb (Jd rfl) U U U (Jb (y_eql U U) U U U (Jb (Jf rfl) U U U ?_))
   refine Jg (Ja (Vn (Vj (Vb ?_))))
   refine Vi (.inl rfl) U U zrv ?_
   refine ⟨_, fun w q => ?_, B, S, D, L, K, .slice ak B.kept.length ck, .slice a n c, rfl, ⟨hTn.shs, hTn.lh, hO.mono (Nat.le_succ _), hTn.ties.mono (Nat.le_succ _), hrk, hrm, by have := hTn.turn; omega, hTn.size⟩, rfl⟩
   rw [hT2]
   exact q.sup zsup
  ·
   have hsome : rget R key ≠ none := Option.isSome_iff_ne_none.1 ht2.symm
   have hO2 : BOk (B.del i R key) (j + 1) := hO.del hs hR hsome
   refine Jh (Je (Jb (Jd rfl) U U U (Jb (y_not rfl) U U U (Jb (Jf rfl) U U U ?_))))
   refine Jg (Ja ?_)
   refine Vk rfl zbl ?_
   refine J.pre (l' := row m 87 (modC (.slice ak B.kept.length ck) (.slice a n c) sp n sc T) :: K :: row b7 176 (rowC (key, val)) :: row b5 89 [.int .i64 (1 : Nat), .int .i64 i, .string key, .string val] :: baseM b lg B :: logm lg st L :: row st 205 (scells S d) :: disk d D :: l) (fun w s => s.sup zsup) ?_
   refine J.drawT2 _ _ (.fork [0, 1, 2, 3, 4, 6, 7, 8, 10, 11, 12] 5 (.fork [] 9 (.plan [(13, .l), (14, .q), (15, .q), (16, .q), (17, .l), (18, .q), (19, .q), (20, .l)]) 13 (.plan [(14, .q), (9, .l), (15, .q), (16, .q), (17, .l), (18, .q), (19, .q), (20, .l)])) 13 (.plan [(14, .q), (5, .l), (9, .l), (15, .q), (16, .q), (17, .l), (18, .q), (19, .q), (20, .l)])) mixed (by kernel_rfl) (Ji (Jm) (Ji (Jm) (Jj))) ?_
   refine JT.quiet2 U U U U (fun m => Jd rfl) ?_
   refine JT.quiet2 U U U U (fun m => Jd rfl) ?_
   refine JT.quiet2 U U U U (fun m => Jd rfl) ?_
   refine JT.quiet2 U U U U (fun m => znc) ?_
   refine JT.quiet2 U U U U (fun m => Jk hT U U U U U U) ?_
   refine JT.quiet2 U U U U (fun m => Jk hT U U U U U U) ?_
   refine JT.quiet2 U U U U (fun m => Jo hT U U U zrda) ?_
   refine JT.quiet2 U U U U (fun m => We hT U U U (RdN.rowAll (cs := rowC (key, val)) (Vp m zpk)) rfl) ?_
   refine JT.quiet2 U U U U (fun m => Jd rfl) ?_
   refine JT.quiet2 U U U U (fun m => znc) ?_
   refine JT.quiet2 U U U U (fun m => Jk hT U U U U U U) ?_
   refine JT.fork ?_ ?_
   refine JT.loud U U (fun fr => LS.ofY U U (We hT U U U (RdN.row (n := 1) zpk rfl) rfl) ⟨[_, _], (by (repeat (first | exact Jj | exact Vc | refine Ji Jm ?_))), ?_⟩)
   refine JT.fork ?_ ?_
   refine JT.loud U U (fun fr => Jw e91 U U (Vw (Ji (A := K) zpk Jj) (rturn_spec E K _ B.meant i R key val false _ hrm hR (by omega) (by omega))) ?_)
   rintro _ _ ⟨K2, vm2, rfl, hm2, hkeep, rfl⟩
   refine ⟨[_, _], (by (repeat (first | exact Jj | exact Vc | refine Ji Jm ?_))), ?_⟩
   refine JT.plan ?_
   refine Vm U U (fun fr => LS.ofY U U (Jo hT U U U zrd) ⟨[_, _], (by (repeat (first | exact Jj | exact Vc | refine Ji Jm ?_))), ?_⟩)
   refine Jc U U U U (fun m => Wa (m := ((T + 1 : Nat) : Int)) U U (Wm (by omega) (by omega))) ?_
   refine Jc U U U U (fun m => znc) ?_
   refine Jc U U U U (fun m => Jk hT U U U U U U) ?_
   obtain ⟨a2, c2, vals2, rfl, _⟩ := hm2.out
   obtain ⟨n2, hn2⟩ : ∃ n2, (B.meant.set i (withA key val (!false) R)).length = n2 := ⟨_, rfl⟩
   rw [hn2] at hm2 ⊢
   refine Vm U U (fun fr => l_storeN hT U U U zln zoc zpk zix (⟨[_, _], (by (repeat (first | exact Jj | exact Vc | refine Ji Jm ?_))), ?_⟩))
   refine Jc U U U U (fun m => znc) ?_
   refine Jc U U U U (fun m => Jk hT U U U U U U) ?_
   refine Vm U U (fun fr => Vs hT U U U U U zpk zix (⟨[_, _], (by (repeat (first | exact Jj | exact Vc | refine Ji Jm ?_))), ?_⟩))
   refine Vv ?_
   rotate_left
   refine JT.loud U U (fun fr => LS.ofY U U (Jo hT U U U zrd) ⟨[_, _], (by (repeat (first | exact Jj | exact Vc | refine Ji Jm ?_))), ?_⟩)
   refine JT.plan ?_
   refine Jc U U U U (fun m => Wa (m := ((T + 1 : Nat) : Int)) U U (Wm (by omega) (by omega))) ?_
   refine Vm U U (fun fr => Jw e91 U U (Vw (Ji (A := K) zpk Jj) (rturn_spec E K _ B.meant i R key val false _ hrm hR (by omega) (by omega))) ?_)
   rintro _ _ ⟨K2, vm2, rfl, hm2, hkeep, rfl⟩
   refine ⟨[_, _], (by (repeat (first | exact Jj | exact Vc | refine Ji Jm ?_))), ?_⟩
   refine Jc U U U U (fun m => znc) ?_
   refine Jc U U U U (fun m => Jk hT U U U U U U) ?_
   obtain ⟨a2, c2, vals2, rfl, _⟩ := hm2.out
   obtain ⟨n2, hn2⟩ : ∃ n2, (B.meant.set i (withA key val (!false) R)).length = n2 := ⟨_, rfl⟩
   rw [hn2] at hm2 ⊢
   refine Vm U U (fun fr => l_storeN hT U U U zln zoc zpk zix (⟨[_, _], (by (repeat (first | exact Jj | exact Vc | refine Ji Jm ?_))), ?_⟩))
   refine Jc U U U U (fun m => znc) ?_
   refine Jc U U U U (fun m => Jk hT U U U U U U) ?_
   refine Vm U U (fun fr => Vs hT U U U U U zpk zix (⟨[_, _], (by (repeat (first | exact Jj | exact Vc | refine Ji Jm ?_))), ?_⟩))
   refine Vv ?_
   rotate_left
   refine JT.loud U U (fun fr => LS.ofY U U (Jo hT U U U zrd) ⟨[_, _], (by (repeat (first | exact Jj | exact Vc | refine Ji Jm ?_))), ?_⟩)
   refine JT.plan ?_
   refine Jc U U U U (fun m => Wa (m := ((T + 1 : Nat) : Int)) U U (Wm (by omega) (by omega))) ?_
   refine Vm U U (fun fr => LS.ofY U U (We hT U U U (RdN.row (n := 1) zpk rfl) rfl) ⟨[_, _], (by (repeat (first | exact Jj | exact Vc | refine Ji Jm ?_))), ?_⟩)
   refine Vm U U (fun fr => Jw e91 U U (Vw (Ji (A := K) zpk Jj) (rturn_spec E K _ B.meant i R key val false _ hrm hR (by omega) (by omega))) ?_)
   rintro _ _ ⟨K2, vm2, rfl, hm2, hkeep, rfl⟩
   refine ⟨[_, _], (by (repeat (first | exact Jj | exact Vc | refine Ji Jm ?_))), ?_⟩
   refine Jc U U U U (fun m => znc) ?_
   refine Jc U U U U (fun m => Jk hT U U U U U U) ?_
   obtain ⟨a2, c2, vals2, rfl, _⟩ := hm2.out
   obtain ⟨n2, hn2⟩ : ∃ n2, (B.meant.set i (withA key val (!false) R)).length = n2 := ⟨_, rfl⟩
   rw [hn2] at hm2 ⊢
   refine Vm U U (fun fr => l_storeN hT U U U zln zoc zpk zix (⟨[_, _], (by (repeat (first | exact Jj | exact Vc | refine Ji Jm ?_))), ?_⟩))
   refine Jc U U U U (fun m => znc) ?_
   refine Jc U U U U (fun m => Jk hT U U U U U U) ?_
   refine Vm U U (fun fr => Vs hT U U U U U zpk zix (⟨[_, _], (by (repeat (first | exact Jj | exact Vc | refine Ji Jm ?_))), ?_⟩))
   refine Vv ?_
   all_goals
    refine Ju (Ja (Jh (Je (Jb (Jd rfl) U U U (Jb (Jk hT U U U U U U) U U U ?_)))))
    refine Jb (Jo hT U U U zrd) U U U ?_
    refine Jb (Jk hT U U U U U U) U U U ?_
    refine Jb (Jo hT U U U zrd) U U U ?_
    refine Jl rfl (Jw e33 U U (Vw (Ji (A := baseM b lg B) zpk Jj) (del_ok E b lg B i R key hO.n8 (by omega) hR hokR.srt hsome (by omega) _)) ?_)
    rintro _ _ ⟨rfl, rfl⟩
    refine Jb (Jd rfl) U U U (Jb (y_eql U U) U U U (Jb (Jf rfl) U U U ?_))
    refine Jg (Ja (Vn (Vj (Vb ?_))))
    refine Vi (.inl rfl) U U zrv ?_
    have hl3 : (B.del i R key).turned.length = T + 1 := by rw [Bs.del, List.length_append, hT2]; rfl
    have hm3 : (B.del i R key).meant = B.meant.set i (withA key val (!false) R) := by rw [show (!false) = true from rfl, withA_rem]; rfl
    refine ⟨_, fun w q => ?_, B.del i R key, S, D, L, K2, .slice ak B.kept.length ck, .slice a2 n2 c2, rfl, ⟨hTn.shs, hTn.lh, hO2, hTn.ties.mono (Nat.le_succ _), hkeep _ _ hrk, by rw [hm3]; exact hm2, by have := hTn.turn; omega, hTn.size⟩, rfl⟩
    rw [hl3]
    exact q.sup zsup
 ·
  have hout : ¬ (0 ≤ tab ∧ tab < (B.shs.length : Int)) := by rw [hBn]; exact of_decide_eq_false hi1.symm
  refine Ve (Jh (Je (Jb (y_eql U U) U U U (Jb (Jf rfl) U U U ?_))))
  refine Jg (Ja ?_)
  refine Vk rfl zbl ?_
  refine Jh (Je (Jb (y_eql U U) U U U (Jb (Jf rfl) U U U ?_)))
  refine Jg (Ja ?_)
  refine J.cond_t rfl zbl ?_
  refine Jh (Ve (Jh (Je (Jb (Jd rfl) U U U (Jb (y_not rfl) U U U (Jb (Jf rfl) U U U ?_))))))
  refine Jg (Ja ?_)
  refine J.cond_t rfl zbl ?_
  refine Je (Jb (Jf rfl) U U U ?_)
  refine Jg (Ju (Ja (Jh (Je (Jb (Jd rfl) U U U (Jb (Jk hT U U U U U U) U U U ?_))))))
  refine Jb (Jo hT U U U zrd) U U U ?_
  refine Jb (Jk hT U U U U U U) U U U ?_
  refine Jb (Jo hT U U U zrd) U U U ?_
  refine Jl rfl (Jw e33 U U (Vw (Ji (A := baseM b lg B) zpk Jj) (del_bad E b lg B tab key hO.n8 hout _)) ?_)
  rintro _ _ ⟨rfl, rfl⟩
  refine Jb (Jd rfl) U U U (Jb (y_eql U U) U U U (Jb (Jf rfl) U U U ?_))
  refine Jg (Ja (Vn (Vj (Vb ?_))))
  refine Vi (.inl rfl) U U zrv ?_
  refine ⟨_, fun w q => ?_, B, S, D, L, K, .slice ak B.kept.length ck, .slice a n c, rfl, ⟨hTn.shs, hTn.lh, hO.mono (Nat.le_succ _), hTn.ties.mono (Nat.le_succ _), hrk, hrm, by have := hTn.turn; omega, hTn.size⟩, rfl⟩
  rw [hT2]
  exact q.sup zsup
 ·
  skip
  refine Ve (Jh (Je (Jb (y_eql U U) U U U (Jb (Jf rfl) U U U ?_))))
  refine Jg (Ja ?_)
  refine Vk rfl zbl ?_
  refine Jh (Je (Jb (y_eql U U) U U U (Jb (Jf rfl) U U U ?_)))
  refine Jg (Ja ?_)
  refine Vk rfl zbl ?_
  refine Jh (Je (Jb (y_eql U U) U U U (Jb (Jf rfl) U U U ?_)))
  refine Jg (Ja ?_)
  rcases commit_none E (sortOkF E) hTn.lh hO (by omega) hTn.ties (by omega) (fun s hs => by have := (hO.sh s hs).rows; omega) (by have := hTn.turn; omega) with ⟨L2, S2, D2, hL2, hT3, hl2, htn2, hc2⟩ | ⟨hne, hc2⟩
  ·
   skip
   refine J.cond_t rfl zbl ?_
   refine Jh (Je (Jb (Jd rfl) U U U ?_))
   refine Jl rfl (Jw e35 U U (Vw (Ji (A := baseM b lg B) zpk (Ji (A := logm lg st L) zpk (Ji (A := row st 205 (scells S d)) zpk (Ji (A := disk d D) zpk Jj)))) (hc2 b lg st d _)) ?_)
   rintro _ _ ⟨rfl, rfl⟩
   refine Jb (Jf rfl) U U U ?_
   refine Jg (Ja (Jh (Jh (Je (Jb (Jd rfl) U U U (Jb (y_eql U U) U U U ?_))))))
   refine Jg (Ja ?_)
   refine J.cond_t rfl zbl ?_
   refine Je (Jb (Jd rfl) U U U (Jb (Jd rfl) U U U (Jb (Jd rfl) U U U ?_)))
   refine Jb znc U U U ?_
   refine Jb (Jk hT U U U U U U) U U U ?_
   refine Jb (We hT U U U (RdN.row (n := 1) zpk rfl) rfl) U U U ?_
   refine Jb znc U U U ?_
   refine Jb (Jk hT U U U U U U) U U U ?_
   refine Jl rfl (l_storeN hT U U U zln zoc zpk zix ?_)
   refine Jb znc U U U ?_
   refine Jb (Jk hT U U U U U U) U U U ?_
   refine Jl rfl (Vs hT U U U U U zpk zix ?_)
   refine Jg (Ja (Jh (Je (Jb (Jd rfl) U U U (Jb (y_eql U U) U U U (Jb (Jd rfl) U U U ?_))))))
   all_goals (first | (refine Vh U U U (fun h => ?_) (fun h => ?_) <;> try (first | (exfalso; omega) | exact absurd rfl h)) | (refine Vr U U U (fun h => ?_) (fun h => ?_) <;> try (first | cases h | (exfalso; simp at h; done))) | skip)
   all_goals (first | refine Js U U U U U U ?_ | refine Jp U U U U U ?_ | refine Jt U U U (Jd rfl) U U ?_)
   all_goals (first | refine Js U U U U U U ?_ | refine Jp U U U U U ?_ | refine Jt U U U (y_eql U U) U U ?_)
   all_goals (first | refine Js U U U U U U ?_ | refine Jp U U U U U ?_ | refine Jt U U U (Jd rfl) U U ?_)
   all_goals (first | (refine Vh U U U (fun h => ?_) (fun h => ?_) <;> try (first | (exfalso; omega) | exact absurd rfl h)) | (refine Vr U U U (fun h => ?_) (fun h => ?_) <;> try (first | cases h | (exfalso; simp at h; done))) | skip)
   all_goals (first | refine Js U U U U U U ?_ | refine Jp U U U U U ?_ | refine Jt U U U (Jd rfl) U U ?_)
   all_goals (first | refine Js U U U U U U ?_ | refine Jp U U U U U ?_ | refine Jt U U U znc U U ?_)
   all_goals (first | refine Js U U U U U U ?_ | refine Jp U U U U U ?_ | refine Jt U U U (Jk hT U U U U U U) U U ?_)
   all_goals (first | refine Js U U U U U U ?_ | refine Jp U U U U U ?_ | refine Jt U U U (Jo hT U U U zrd) U U ?_)
   all_goals (first | refine Js U U U U U U ?_ | refine Jp U U U U U ?_ | refine Jt U U U (y_gtrB (b := true) U U (decide_eq_true (by omega))) U U ?_)
   all_goals (first | refine Js U U U U U U ?_ | refine Jp U U U U U ?_ | refine Jt U U U (Wb U U U) U U ?_)
   all_goals (refine Jb (Wb U U U) U U U ?_)
   all_goals (refine Jb (Jf rfl) U U U ?_)
   all_goals refine Jg (Ja ?_)
   all_goals
    refine Vn (Vj (Vb ?_))
    refine Vi (.inl rfl) U U zrv ?_
    refine ⟨_, fun w q => ?_, B.done, S2, D2, L2, K, .slice a n c, .slice a n c, rfl, ⟨hTn.shs, hL2, hO.done _, hT3, hrm, hrm, by have := hTn.turn; omega, by have := hTn.size; omega⟩, rfl⟩
    exact q.sup zsup
  ·
   have hTp : 0 < T := by
    rw [← hT2]
    exact List.length_pos_iff.2 hne
   refine J.cond_t rfl zbl ?_
   refine Jh (Je (Jb (Jd rfl) U U U ?_))
   refine Jl rfl (Jw e35 U U (Vw (Ji (A := baseM b lg B) zpk (Ji (A := logm lg st L) zpk (Ji (A := row st 205 (scells S d)) zpk (Ji (A := disk d D) zpk Jj)))) (hc2 b lg st d _)) ?_)
   rintro _ _ ⟨rfl, rfl⟩
   refine Jb (Jf rfl) U U U ?_
   refine Jg (Ja (Jh (Jh (Je (Jb (Jd rfl) U U U (Jb (y_eql U U) U U U ?_))))))
   refine Jg (Ja ?_)
   refine Vk rfl zbl ?_
   refine Vd (Ja (Jh (Je (Jb (Jd rfl) U U U (Jb (y_eql U U) U U U (Jb (Jd rfl) U U U ?_))))))
   all_goals (first | (refine Vh U U U (fun h => ?_) (fun h => ?_) <;> try (first | (exfalso; omega) | exact absurd rfl h)) | (refine Vr U U U (fun h => ?_) (fun h => ?_) <;> try (first | cases h | (exfalso; simp at h; done))) | skip)
   all_goals (first | refine Js U U U U U U ?_ | refine Jp U U U U U ?_ | refine Jt U U U (Jd rfl) U U ?_)
   all_goals (first | refine Js U U U U U U ?_ | refine Jp U U U U U ?_ | refine Jt U U U (y_eql U U) U U ?_)
   all_goals (first | refine Js U U U U U U ?_ | refine Jp U U U U U ?_ | refine Jt U U U (Jd rfl) U U ?_)
   all_goals (first | (refine Vh U U U (fun h => ?_) (fun h => ?_) <;> try (first | (exfalso; omega) | exact absurd rfl h)) | (refine Vr U U U (fun h => ?_) (fun h => ?_) <;> try (first | cases h | (exfalso; simp at h; done))) | skip)
   all_goals (first | refine Js U U U U U U ?_ | refine Jp U U U U U ?_ | refine Jt U U U (Jd rfl) U U ?_)
   all_goals (first | refine Js U U U U U U ?_ | refine Jp U U U U U ?_ | refine Jt U U U znc U U ?_)
   all_goals (first | refine Js U U U U U U ?_ | refine Jp U U U U U ?_ | refine Jt U U U (Jk hT U U U U U U) U U ?_)
   all_goals (first | refine Js U U U U U U ?_ | refine Jp U U U U U ?_ | refine Jt U U U (Jo hT U U U zrd) U U ?_)
   all_goals (first | refine Js U U U U U U ?_ | refine Jp U U U U U ?_ | refine Jt U U U (y_gtrB (b := true) U U (decide_eq_true (by omega))) U U ?_)
   all_goals (first | refine Js U U U U U U ?_ | refine Jp U U U U U ?_ | refine Jt U U U (Wb U U U) U U ?_)
   all_goals (refine Jb (Wb U U U) U U U ?_)
   all_goals (refine Jb (Jf rfl) U U U ?_)
   all_goals refine Jg (Ja ?_)
   all_goals
    refine Vn (Vj (Vb ?_))
    refine Vi (.inl rfl) U U zrv ?_
    refine ⟨_, fun w q => ?_, B, S, D, L, K, .slice ak B.kept.length ck, .slice a n c, rfl, ⟨hTn.shs, hTn.lh, hO.mono (Nat.le_succ _), hTn.ties.mono (Nat.le_succ _), hrk, hrm, by have := hTn.turn; omega, hTn.size⟩, rfl⟩
    rw [hT2]
    exact q.sup zsup
 ·
  skip
  refine Ve (Jh (Je (Jb (y_eql U U) U U U (Jb (Jf rfl) U U U ?_))))
  refine Jg (Ja ?_)
  refine Vk rfl zbl ?_
  refine Jh (Je (Jb (y_eql U U) U U U (Jb (Jf rfl) U U U ?_)))
  refine Jg (Ja ?_)
  refine Vk rfl zbl ?_
  refine Jh (Je (Jb (y_eql U U) U U U (Jb (Jf rfl) U U U ?_)))
  refine Jg (Ja ?_)
  refine Vk rfl zbl ?_
  refine Vd (Ju (Ja (Jh (Je (Jb (Jd rfl) U U U (Jb (Jd rfl) U U U (Jb (Jd rfl) U U U ?_)))))))
  refine Jb znc U U U ?_
  refine Jb (Jk hT U U U U U U) U U U ?_
  refine Jb (We hT U U U (RdN.row (n := 1) zpk rfl) rfl) U U U ?_
  refine Jb znc U U U ?_
  refine Jb (Jk hT U U U U U U) U U U ?_
  refine Jl rfl (l_storeN hT U U U zln zoc zpk zix ?_)
  refine Jb znc U U U ?_
  refine Jb (Jk hT U U U U U U) U U U ?_
  refine Jl rfl (Vs hT U U U U U zpk zix ?_)
  refine Jg (Ja (Jh (Je (Jb (Jd rfl) U U U ?_))))
  refine Jl rfl (Jw e36 U U (Vw (Ji (A := baseM b lg B) zpk Jj) (abort_spec E b lg B hO.n8 _)) ?_)
  rintro _ _ ⟨rfl, rfl⟩
  refine Jb (y_eql U U) U U U (Jb (Jf rfl) U U U ?_)
  refine Jg (Ja (Vn ?_))
  refine Vi (.inl rfl) U U zrv ?_
  refine ⟨_, fun w q => ?_, { B with meant := B.kept, turned := [] }, S, D, L, K, .slice ak B.kept.length ck, .slice ak B.kept.length ck, rfl, ⟨hTn.shs, hTn.lh, hO.abort _, hTn.ties.mono (Nat.le_succ _), hrk, hrk, by have := hTn.turn; omega, hTn.size⟩, rfl⟩
  exact q.sup zsup
end
end
section
open Go Go.SL
section
attribute [local irreducible] J JL JE JM LS Y Fc RV Code.wp wpList Code.wpIn wpListIn
attribute [local irreducible] Yc ltS
variable (E : World)
set_option maxHeartbeats 1000000 in
theorem told_spec (b lg nn n : Nat) (B : Bs) (K : HProp) (vk vm : Value) (sp : Option Addr) (sc : Nat) (l : List HProp) (hO : BOk B nn) (hnn : nn ≤ 800) (hk1 : vk.oneCell' = true) (hrm : RSt K vm B.meant) (hBn : B.shs.length = n) :
 Fc prog E 42 [.agg (modC vk vm sp n sc B.turned.length).toArray, .pointer (some ⟨b, 0, none⟩)].toArray (K :: baseM b lg B :: l) (fun v l' => v = .bool true ∧ l' = K :: baseM b lg B :: l) := by
 refine Fc.eqs ?_
 have h8 : n ≤ 8 := by rw [← hBn]; exact hO.n8
 have hMn : B.meant.length = n := by rw [hO.mfit.len]; exact hBn
 obtain ⟨a, c, vals, rfl, hin2, hvl, hg⟩ := hrm.out
 have hsl : (Value.slice a B.meant.length c) = Value.slice a n c := by rw [hMn]
 rw [hsl] at hrm ⊢
 rw [hMn] at hin2 hvl
 have hfewT := hO.few
 have hsm := hO.small
 have hTl := hsm.len
 have hrok := hO.mfit.rok hO.sh
 have hrows : ∀ h ∈ B.shs, h.rows ≤ (1000000 : Nat) := fun s hs => by have := (hO.sh s hs).rows; omega
 obtain ⟨T1, hT1⟩ : ∃ T1, stB B.meant = T1 := ⟨_, rfl⟩
 rw [hT1] at hTl hsm
 have cbytes : ∀ l, Fc prog E 93 [.agg #[.slice a n c]].toArray (K :: l) (fun u l' => ∃ a c, u = .slice a T1.length c ∧ l' = own 5 1 (.slice a T1.length c) T1.length (ints .u8 T1) :: K :: l) := fun l => by
  rw [← hT1]
  exact rbytes_spec E K _ B.meant l hrm (by omega) hrok
 have hinK : ∀ {l r}, Pick l K r → InL l a n c vals := fun hp => hin2.kept hp
 refine Fc.of_bodyM (c := ?codeC) Tryz.func42 ?hb Tryz.ntmps42 ?hl ?_
 case hb => exact rfl
 case hl => exact rfl
 refine Jh (Je ?_)
 refine Jl rfl (l_box (cs := [vk, .slice a n c, .slice sp n sc, .int .i64 B.turned.length]) U U U (fun b2 => ?_))
 refine Jl rfl (l_box (cs := [.pointer (some ⟨b, 0, none⟩)]) U U U (fun b3 => ?_))
 refine Jl rfl (Wf hT U U zcl rfl (fun b4 => ?_))
 refine Jg (Ja (Jh (Jh (Je (Jb (Jk hT U U U U U U) U U U (Jb (Jk hT U U U U U U) U U U ?_))))))
 refine Jb (Jo hT U U U zrd) U U U ?_
 refine Jb (Vf hT U U U) U U U (Jb (Jd rfl) U U U ?_)
 refine Jg (Ja (Ve ?_))
 refine J.loopD (α := Nat × List Nat) (fun s => s.1 ≤ n) (fun s => s.2.map SL.mark) (fun s => [(2, .pointer (some ⟨b2, 0, none⟩)), (3, .pointer (some ⟨b3, 0, none⟩)), (4, .pointer (some ⟨b4, 0, none⟩)), (14, .slice a n c), (15, .int .i64 n), (16, .int .i64 s.1)]) (fun s => marksP s.2 :: K :: baseM b lg B :: row b4 4 [.bool false] :: row b3 30 [.pointer (some ⟨b, 0, none⟩)] :: row b2 87 [vk, .slice a n c, .slice sp n sc, .int .i64 B.turned.length] :: l) (fun s => n - s.1) (0, []) (Nat.zero_le _) rfl ⟨U, U, U, U, U, U, trivial⟩ (fun w h => (Sat.marks_nil h).sup zsup) ?_
 rintro ⟨i, Ds⟩ hi
 dsimp only at hi ⊢
 refine Jh (Je (Jb (y_lss U U) U U U ?_))
 refine Jg (Ja (Jh ?_))
 first | apply Jx rfl | apply Vo rfl
 case' ht =>
  intro h
  try (first | exact zom | exact zho h | subst h)
  all_goals
   refine Vd ?_
 case' hf =>
  intro h
  try (first | exact zom | exact zho h | subst h)
  all_goals
   refine Wl (Jv (Jv (Vl (Ja (Jh ?_)))))
   refine J.pre (l' := baseM b lg B :: K :: row b4 4 [.bool false] :: row b3 30 [.pointer (some ⟨b, 0, none⟩)] :: row b2 87 [vk, .slice a n c, .slice sp n sc, .int .i64 B.turned.length] :: marksP Ds :: l) (fun w s => s.sup zsup) ?_
   refine Vz _ _ [(0, .q), (2, .q), (3, .q), (1, .e), (4, .q), (5, .q), (6, .q), (8, .q), (9, .q), (7, .l), (10, .l), (11, .l), (12, .q), (13, .l)] mixed (by kernel_rfl) (Ji (Jm) (Ji (Jm) (Ji (Jm) (Jj)))) ?_
   refine Jc U U U U (fun m => Jo hT U U U zrda) ?_
   refine Jc U U U U (fun m => Jk hT U U U U U U) ?_
   refine Jc U U U U (fun m => Jo hT U U U zrda) ?_
   refine Wh U U U U (fun fr => y_callF e34 rfl (Fc.still (p := [baseM b lg B]) (Ji zpk Jj) (dirty_spec E b lg B _))) ?_
   refine Jc U U U U (fun m => y_eqlB (b := true) U U (decide_eq_true rfl)) (zqm U U U U U ?_)
   all_goals (first | refine Jy U U U U U U U ?_ | refine JM.gskipU U U U U U U ?_ | refine Jr U U U U U U (fun m => Jo hT U U U zrda) ?_)
   all_goals (first | refine Jy U U U U U U U ?_ | refine JM.gskipU U U U U U U ?_ | refine Jr U U U U U U (fun m => Jk hT U U U U U U) ?_)
   refine Jr U U U U U U (fun m => We hT U U U (RdN.row (n := 1) (Vp m zpk) rfl) rfl) ?_
   refine JM.gloud U U U U (fun fr => Jw e20 U U (Vw (Ji (A := baseM b lg B) zpk Jj) (state13 E (sortOkF E) b lg B hO hrows T1 hT1 _)) ?_)
   rintro _ _ ⟨xa, xc, rfl, rfl⟩
   refine ⟨[_, _, _, _], (by (repeat (first | exact Jj | exact Vc | refine Ji Jm ?_))), ?_⟩
   refine JM.gloud U U U U (fun fr => Jw e93 U U (Vw (Ji (A := K) zpk Jj) (cbytes _)) ?_)
   rintro _ _ ⟨ya, yc, rfl, rfl⟩
   refine ⟨[_, _, _, _, _], (by (repeat (first | exact Jj | exact Vc | refine Ji Jm ?_))), ?_⟩
   refine JM.gloud U U U U (fun fr => Jw e92 U U (Fc.fact (p := OwnAt xa T1.length xc (ints .u8 T1)) (fun w s => Vu (s.pick zpk)) fun o1 => Fc.fact (p := OwnAt ya T1.length yc (ints .u8 T1)) (fun w s => Vu (s.pick zpk)) fun o2 => rsame_spec E _ _ _ _ T1 T1 _ (o1.inl zpk) (o2.inl zpk) (by omega) (by omega)) ?_)
   rintro _ _ ⟨rfl, rfl⟩
   refine ⟨[_, _, _, _, _], (by (repeat (first | exact Jj | exact Vc | refine Ji Jm ?_))), ?_⟩
   all_goals refine Jc U U U U (fun m => Wb U U U) ?_
   all_goals refine Vm U U (fun fr => Vs hT U U U U U zpk zix (⟨[_, _, _, _, _], (by (repeat (first | exact Jj | exact Vc | refine Ji Jm ?_))), ?_⟩))
   all_goals refine Vv (Ja ?_)
   all_goals
    refine Vn ?_
    refine JE.unmarks (Ds := Ds) (by first | exact .inl rfl | exact .inr rfl) rfl zpk ?_
    refine Vi (.inl rfl) U U zrv ?_
    refine ⟨congrArg Value.bool (decide_eq_true rfl), fun w q => q.sup zsup⟩
 all_goals refine Ja ?_
 all_goals
  refine Jh (Ve (Jh ?_))
  have hlt : i < n := by omega
  obtain ⟨R, hR⟩ : ∃ R, B.meant[i]? = some R := ⟨_, List.getElem?_eq_getElem (by omega)⟩
  obtain ⟨p, cc, hv, hinR⟩ := hg i R hR
  have hok := hrok R (List.mem_of_getElem? hR)
  have hfew := hok.few
  have hip : i < B.shs.length := by omega
  obtain ⟨ga, oa, rfl, hra⟩ := hin2.addr (by omega)
  have hra0 : RdN [K] ga oa vals := hra []
  refine Je (Jb (Jd rfl) U U U ?_)
  refine Jb (Jn hT U U U U U zix zix) U U U ?_
  refine Jb (Jo hT U U U (Rd1.elem (RdN.keptN hra0 zpk) hv)) U U U ?_
  refine Jl rfl (Wf hT U U zcl rfl (fun b5 => ?_))
  refine Jl rfl (Wf hT U U zcl rfl (fun b6 => ?_))
  refine Jl rfl (Vs hT U U U U U zpk zix ?_)
  refine Jl rfl (Vs hT U U U U U zpk zix ?_)
  refine Jg (Ja (Jh (Je ?_)))
  refine Jl rfl (Wf hT U U zcl rfl (fun b7 => ?_))
  refine Jl rfl (Vs hT U U U U U zpk zix ?_)
  refine Jg (Ja (Jh (Jh (Je ?_))))
  refine Jb (Jo hT U U U zrd) U U U ?_
  refine Jb (Jo hT U U U zrd) U U U ?_
  refine Jl rfl (Jw e17 U U (tall_spec E (.pointer (some ⟨b, 0, none⟩)) rfl (i : Int) _) ?_)
  rintro _ _ ⟨c1, c2, rfl, rfl⟩
  refine Jg (Ja (Ve ?_))
  refine J.rangeFunc e71 rfl fun fn a0 kk DD KL hK hf0 => ?_
  refine Fc.mono (Fc.imp (tall1_spec E (sortOkF E) kk c1 c2 b lg B i R [K, row b3 30 [.pointer (some ⟨b, 0, none⟩)], row b5 3 [.int .i64 i], row b6 178 [.slice p R.length cc], row b7 3 [.int .i64 (0 : Nat)], KL .ready none, blk DD (.deferred (some []))] (marksP Ds :: row b4 4 [.bool false] :: row b2 87 [vk, .slice (some ⟨ga, oa, none⟩) n c, .slice sp n sc, .int .i64 B.turned.length] :: l) (fun q => [baseM b lg B, K, row b3 30 [.pointer (some ⟨b, 0, none⟩)], row b5 3 [.int .i64 i], row b6 178 [.slice p R.length cc], row b7 3 [.int .i64 (q : Nat)], KL .ready none, blk DD (.deferred (some []))]) (fun _ => [pur False, KL .ready none]) hO.n8 hip hR hok (by omega) (fun w r s => s) (fun frr q key v g gc KK hkv hKK => ?hy)) (fun w s => s.sup zsup)) ?hm
  case hy =>
   refine Yc.split (p := [KL .ready none]) ?_ (Ji zpk Jj)
   refine Yc.post ?_
   have hlq : q < R.length := (List.getElem?_eq_some_iff.1 hkv).1
   have hsz := hok.small _ (List.mem_of_getElem? hkv)
   dsimp only at hsz
   obtain ⟨gr, orr, rfl, hrr⟩ := hinR.addr (by omega)
   have helK : RdN [K] gr (orr + q * 2) (rowC (key, v)) := RdN.elem (hrr []) (fun x _ => rfl) hkv
   refine Yc.of_body hK hf0 rfl (by decide) ?_
   refine Jh (Je (Jb (Jf rfl) U U U ?_))
   refine Jg (Ja (Je (Jb (Jf rfl) U U U ?_)))
   refine Jg ?_
   refine JE.assigned zpk ?_
   refine Ve (Jh (Jh ?_))
   refine Vz _ _ [(0, .q), (1, .q), (2, .q), (3, .q), (4, .q), (5, .q), (6, .q), (7, .q), (8, .q), (9, .q), (10, .q), (11, .q), (12, .q), (13, .q), (14, .q)] mixed (by kernel_rfl) (Jj) ?_
   refine Jc U U U U (fun m => Jo hT U U U zrda) ?_
   refine Jc U U U U (fun m => Jo hT U U U zrda) ?_
   refine Jc U U U U (fun m => Vf hT U U U) ?_
   refine Jc U U U U (fun m => y_geqB U U (decide_eq_false (by omega))) ?_
   refine zqm U U U U U ?_
   all_goals (first | refine Jy U U U U U U U ?_ | refine JM.gskipU U U U U U U ?_ | refine Jr U U U U U U (fun m => Jo hT U U U zrda) ?_)
   all_goals (first | refine Jy U U U U U U U ?_ | refine JM.gskipU U U U U U U ?_ | refine Jr U U U U U U (fun m => Jo hT U U U zrda) ?_)
   all_goals (first | refine Jy U U U U U U U ?_ | refine JM.gskipU U U U U U U ?_ | refine Jr U U U U U U (fun m => Jn hT U U U U U zix zix) ?_)
   refine Jr U U U U U U (fun m => We hT U U U (RdN.keptN helK (Vp m zpk)) rfl) ?_
   all_goals (first | refine Jy U U U U U U U ?_ | refine JM.gskipU U U U U U U ?_ | refine Jr U U U U U U (fun m => Jd rfl) ?_)
   all_goals (first | refine Jy U U U U U U U ?_ | refine JM.gskipU U U U U U U ?_ | refine Jr U U U U U U (fun m => Jd rfl) ?_)
   refine Jr U U U U U U (fun m => y_convStringL (xs := bytesS v) hT U U U U U U U (hKK.kept (Vp m zpk)) (bytesS_length v)) ?_
   refine Jr U U U U U U (fun m => y_build (cs := [.string key, .string (strOf (bytesS v))]) hT U U U U U U ⟨⟨rfl, Nat.le_of_ble_eq_true rfl⟩, ⟨rfl, Nat.le_of_ble_eq_true rfl⟩, trivial⟩ rfl) ?_
   refine Jr U U U U U U (fun m => y_flat_ne (m := 5) (ks := [.str, .str]) (xs := rowC (key, v)) (ys := [.string key, .string (strOf (bytesS v))]) (b := false) hT U U (by kernel_rfl) (by kernel_rfl) U U U U ⟨⟨_, rfl⟩, ⟨_, rfl⟩, trivial⟩ ⟨⟨_, rfl⟩, ⟨_, rfl⟩, trivial⟩ (by rw [strOf_bytesS]; simp [rowC])) ?_
   all_goals refine Jc U U U U (fun m => Wb U U U) ?_
   all_goals refine Vv (Ja ?_)
   all_goals
    refine Vk rfl zbl ?_
    refine Vd ?_
   all_goals refine Ja ?_
   all_goals
    refine Jh (Je ?_)
    refine Jb (Jo hT U U U zrd) U U U ?_
    refine Jb (Jo hT U U U zrd) U U U ?_
    refine Jb (Jd rfl) U U U ?_
    refine Jl rfl (Jw e18 U U (Vw (Ji (A := baseM b lg B) zpk Jj) (tget_some E b lg B i R key v hO.n8 hip hR hok.srt (rget_at hok.srt hkv) (by omega) _)) ?_)
    rintro _ _ ⟨g9, c9, K9, hK9, rfl, rfl⟩
    refine Jb (Jd rfl) U U U (Jb (Vg U U) U U U (Jb (Vg U U) U U U (Jb (Jf rfl) U U U (Jb (Jf rfl) U U U ?_))))
    refine Jg (Ja (Jh (Jh ?_)))
    refine Vz _ _ [(0, .q), (1, .q), (2, .q), (3, .q), (4, .q), (5, .q), (6, .q), (7, .q), (8, .q), (9, .q), (10, .q), (11, .q)] mixed (by kernel_rfl) (Jj) ?_
    refine zqm U U U U U (Jc U U U U (fun m => y_neqB (b := false) U U (decide_eq_false (fun h => h rfl))) (zqm U U U U U ?_))
    all_goals (first | refine Jy U U U U U U U ?_ | refine JM.gskipU U U U U U U ?_ | refine Jr U U U U U U (fun m => Jd rfl) ?_)
    refine Jr U U U U U U (fun m => y_convStringL (xs := bytesS v) hT U U U U U U U (hK9.kept (Vp m zpk)) (bytesS_length v)) ?_
    all_goals (first | refine Jy U U U U U U U ?_ | refine JM.gskipU U U U U U U ?_ | refine Jr U U U U U U (fun m => Jo hT U U U zrda) ?_)
    all_goals (first | refine Jy U U U U U U U ?_ | refine JM.gskipU U U U U U U ?_ | refine Jr U U U U U U (fun m => Jo hT U U U zrda) ?_)
    all_goals (first | refine Jy U U U U U U U ?_ | refine JM.gskipU U U U U U U ?_ | refine Jr U U U U U U (fun m => Jn hT U U U U U zix zix) ?_)
    all_goals (first | refine Jy U U U U U U U ?_ | refine JM.gskipU U U U U U U ?_ | refine Jr U U U U U U (fun m => Jk hT U U U U U U) ?_)
    refine Jr U U U U U U (fun m => Jo hT U U U (RdN.keptN helK (Vp m zpk) 1 _ rfl)) ?_
    refine Jr U U U U U U (fun m => y_str_neB (b := false) U U (by rw [strOf_bytesS]; simp)) ?_
    all_goals refine Jc U U U U (fun m => Wb U U U) ?_
    all_goals refine Vv (Ja ?_)
    all_goals
     refine Vk rfl zbl ?_
     refine Vd ?_
    all_goals refine Ja ?_
    all_goals
     refine Je ?_
     refine Jb (Jo hT U U U zrd) U U U ?_
     refine Jb (Wa U U zwr) U U U ?_
     refine Jl rfl (Vs hT U U U U U zpk zix ?_)
     refine Jg ?_
   all_goals refine Ju ?_
   all_goals
    refine JE.round_on hK zpk ?_
    refine ⟨_, fun w z => z.sup zsup, .inl ⟨rfl, rfl⟩⟩
  case hm =>
   rintro _ _ (rfl | ⟨q, hq, rfl⟩)
   · refine ⟨.ready, none, _, by (repeat (first | exact Jm | apply Jz | apply Vp)), by simp, ?_⟩
     dsimp only
     refine Ju (Ja (Jh ?_))
     refine Vz _ _ [(0, .q), (1, .q), (2, .q), (3, .q), (4, .q), (5, .q), (6, .q), (7, .q), (8, .q), (9, .q), (10, .q)] mixed (by kernel_rfl) (Jj) ?_
     refine Jc U U U U (fun m => Jo hT U U U zrda) ?_
     refine Jc U U U U (fun m => Jo hT U U U zrda) ?_
     refine Jc U U U U (fun m => Vf hT U U U) (Jc U U U U (fun m => y_neqB (b := false) U U (decide_eq_false (fun h => h rfl))) (zqm U U U U U ?_))
     all_goals (first | refine Jy U U U U U U U ?_ | refine JM.gskipU U U U U U U ?_ | refine Jr U U U U U U (fun m => Jo hT U U U zrda) ?_)
     all_goals (first | refine Jy U U U U U U U ?_ | refine JM.gskipU U U U U U U ?_ | refine Jr U U U U U U (fun m => Jo hT U U U zrda) ?_)
     all_goals (first | refine Jy U U U U U U U ?_ | refine JM.gskipU U U U U U U ?_ | refine Jr U U U U U U (fun m => y_callF e16 rfl (Fc.still (p := [baseM b lg B]) (Ji zpk Jj) (tlen_spec E b lg B i R hO.n8 hip hR _))) ?_)
     all_goals (first | refine Jy U U U U U U U ?_ | refine JM.gskipU U U U U U U ?_ | refine Jr U U U U U U (fun m => Jo hT U U U zrda) ?_)
     refine Jr U U U U U U (fun m => y_neqB (b := false) U U (decide_eq_false (fun h => h rfl))) ?_
     all_goals refine Jc U U U U (fun m => Wb U U U) ?_
     all_goals refine Vv (Ja ?_)
     all_goals
      refine Vk rfl zbl ?_
      refine Vd ?_
     all_goals
      refine Ju (Ja (Je ?_))
      refine Jb (Wa U U zwr) U U U ?_
      refine Jb (Jd rfl) U U U ?_
      refine Jg ?_
      refine JE.roundD (s := (i, Ds)) (i + 1, DD :: Ds) (by dsimp only; omega) rfl ⟨U, U, U, U, U, U, trivial⟩ (fun w z => ?_) (by dsimp only; omega)
      have z1 := z.sup (p := blk DD (.deferred (some [])) :: marksP Ds :: K :: baseM b lg B :: row b4 4 [.bool false] :: row b3 30 [.pointer (some ⟨b, 0, none⟩)] :: row b2 87 [vk, .slice (some ⟨ga, oa, none⟩) n c, .slice sp n sc, .int .i64 B.turned.length] :: l) zsup
      exact z1.marks_cons
   · refine ⟨.ready, none, _, by (repeat (first | exact Jm | apply Jz | apply Vp)), by simp, ?_⟩
     dsimp only
     exact JE.picks (A := pur False) zpk (JE.purs fun h => h.elim)
theorem right13_spec (p : Option Addr) (cap n : Nat) (shs : List Shp) (l : List HProp) (hn : shs.length = n) (hb : n ≤ 9000000) (hin : InL l p n cap (shs.flatMap shC)) :
 Fc prog E 39 [.slice p n cap].toArray l (fun v l' => ∃ z, v = .bool z ∧ (z = true ↔ (∀ h ∈ shs, ShOk h) ∧ 1 ≤ n ∧ n ≤ 8) ∧ l' = l) := by
 refine Wg ?_
 refine Va (c := ?codeC) Tryz.func39 ?hb Tryz.ntmps39 ?hl ?_
 case hb => exact rfl
 case hl => exact rfl
 refine Jh (Je (Jb (Jf rfl) U U U ?_))
 refine Jg (Ja (Jh (Jh (Je (Jb (Jd rfl) U U U (Jb (Vf hT U U U) U U U (Jb (Jd rfl) U U U ?_)))))))
 refine Jg (Ja (Ve ?_))
 refine Wn (α := Nat) (fun j => j ≤ n ∧ ∀ h ∈ shs.take j, ShOk h) (fun j => [(0, .slice p n cap), (5, .slice p n cap), (6, .int .i64 n), (7, .int .i64 j)]) (fun _ => l) (fun j => n - j) 0 ⟨Nat.zero_le _, by simp⟩ ⟨U, U, U, U, trivial⟩ (fun w h => h) ?_
 rintro j ⟨hj, hall⟩
 refine Jh (Je (Jb (y_lss U U) U U U ?_))
 refine Jg (Ja (Jh ?_))
 first | apply Jx rfl | apply Vo rfl
 case' ht =>
  intro h
  try (first | exact zom | exact zho h | subst h)
  all_goals
   refine Vd ?_
 case' hf =>
  intro h
  try (first | exact zom | exact zho h | subst h)
  all_goals
   refine Wl (Jv (Jv (Vl (Ja (Jh (Je (Jb (Jd rfl) U U U (Jb (Vf hT U U U) U U U (Jb (y_geq U U) U U U (Jb (Jd rfl) U U U ?_))))))))))
   all_goals (first | (refine Vh U U U (fun h => ?_) (fun h => ?_) <;> try (first | (exfalso; omega) | exact absurd rfl h)) | (refine Vr U U U (fun h => ?_) (fun h => ?_) <;> try (first | cases h | (exfalso; simp at h; done))) | skip)
   all_goals (first | refine Js U U U U U U ?_ | refine Jp U U U U U ?_ | refine Jt U U U (Jd rfl) U U ?_)
   all_goals (first | refine Js U U U U U U ?_ | refine Jp U U U U U ?_ | refine Jt U U U (Vf hT U U U) U U ?_)
   all_goals (first | refine Js U U U U U U ?_ | refine Jp U U U U U ?_ | refine Jt U U U (y_leq U U) U U ?_)
   all_goals (refine Jb (Wb U U U) U U U ?_)
   all_goals (refine Jb (Jf rfl) U U U ?_)
   all_goals refine Jg (Ja ?_)
   all_goals
    refine Vn ?_
    refine Vi (.inl rfl) U U zrv ?_
    first
     | (have zz := hbad
        exact ⟨_, fun w q => q.sup zsup, _, rfl, ⟨fun h => by (cases h), fun h => absurd (h.1 s (List.mem_of_getElem? hs)) hbad⟩, rfl⟩)
     | (obtain rfl : j = n := by omega
        rw [List.take_of_length_le (by omega)] at hall
        refine ⟨_, fun w q => q.sup zsup, _, rfl, ?_, rfl⟩
        first
         | (rw [decide_eq_true_iff]
            exact ⟨fun h => ⟨hall, by omega, by omega⟩, fun h => by omega⟩)
         | exact ⟨fun h => by (cases h), fun h => by omega⟩)
 all_goals refine Ja ?_
 all_goals
  refine Jh (Ve (Jh ?_))
  have hlt : j < n := by omega
  obtain ⟨g, o, rfl, hr⟩ := hin.addr (by omega)
  have hr0 : RdN l g o (shs.flatMap shC) := hr []
  obtain ⟨s, hs⟩ : ∃ s, shs[j]? = some s := ⟨_, List.getElem?_eq_getElem (by omega)⟩
  refine Je ?_
  refine Jb (Jn hT U U U U U zix zix) U U U ?_
  refine Jb (We hT U U U (RdN.elem (k := 3) zri (fun x _ => shC_length x) hs) rfl) U U U ?_
  refine Jl rfl (Wf hT U U zcl rfl (fun b4 => ?_))
  refine Jl rfl (Vx (vs := shC s) hT U U U U (by intro u hu; simp [shC] at hu; rcases hu with rfl | rfl | rfl <;> rfl) zpk zln ?_)
  refine Jg (Ja (Jh (Je ?_)))
  refine Jb (We hT U U U (RdN.rowAll (cs := shC s) zpk) rfl) U U U ?_
  refine Jl rfl (Jw e88 U U (rright_spec E s _) ?_)
  rintro _ _ ⟨z, rfl, hz, rfl⟩
  refine Jb (y_not rfl) U U U ?_
  refine Jg (Ja ?_)
  first | apply Jx rfl | apply Vo rfl
  case' ht =>
   intro h
   try (first | exact zom | exact zho h | subst h)
   all_goals
    have hbad : ¬ ShOk s := fun e => by
     rw [hz.2 e] at h
     cases h
    refine Jh (Je (Jb (Jf rfl) U U U ?_))
    refine Jg (Ja (Vn (Vj (Vb (Vb (Vj (Vb ?_)))))))
    refine Vi (.inl rfl) U U zrv ?_
    first
     | (have zz := hbad
        exact ⟨_, fun w q => q.sup zsup, _, rfl, ⟨fun h => by (cases h), fun h => absurd (h.1 s (List.mem_of_getElem? hs)) hbad⟩, rfl⟩)
     | (obtain rfl : j = n := by omega
        rw [List.take_of_length_le (by omega)] at hall
        refine ⟨_, fun w q => q.sup zsup, _, rfl, ?_, rfl⟩
        first
         | (rw [decide_eq_true_iff]
            exact ⟨fun h => ⟨hall, by omega, by omega⟩, fun h => by omega⟩)
         | exact ⟨fun h => by (cases h), fun h => by omega⟩)
  case' hf =>
   intro h
   try (first | exact zom | exact zho h | subst h)
   all_goals
    have hgood : ShOk s := hz.1 (by simpa using h)
    refine Vd ?_
  all_goals refine Ju (Ja ?_)
  all_goals
   refine Je ?_
   refine Jb (Wa U U zwr) U U U ?_
   refine Jb (Jd rfl) U U U ?_
   refine Jg ?_
 all_goals
  refine Vt (s := j) (j + 1) ⟨by omega, fun q hq => ?_⟩ ⟨U, U, U, U, trivial⟩ (fun w q => q.sup zsup) (by omega)
  rw [List.take_add_one, hs] at hq
  rcases List.mem_append.1 hq with hq | hq
  · exact hall q hq
  · rw [Option.toList_some, List.mem_singleton] at hq
    rw [hq]
    exact hgood
theorem topen_bad (lg n : Nat) (shs : List Shp) (sp : Option Addr) (sc : Nat) (hn : shs.length = n) (h0 : 0 < n) (hn8 : n ≤ 8) (hsh : ¬ ∀ h ∈ shs, ShOk h) (l : List HProp) (hin : InL l sp n sc (shs.flatMap shC)) :
 Fc prog E 13 [.pointer (some ⟨lg, 0, none⟩), .slice sp n sc].toArray l (fun v l' => v = .tuple #[.pointer none, .int .i64 2] ∧ l' = l) := by
 refine Fc.eqs ?_
 obtain ⟨sg, so, rfl, _⟩ := hin.addr h0
 refine Fc.of_bodyM (c := ?codeC) Tryz.func13 ?hb Tryz.ntmps13 ?hl ?_
 case hb => exact rfl
 case hl => exact rfl
 refine Jh (Je ?_)
 refine Jl rfl (Wf hT U U zcl rfl (fun b1 => ?_))
 refine Jl rfl (Wf hT U U zcl rfl (fun b2 => ?_))
 refine Jg (Ja (Jh (Ve (Jh (Je (Jb (Jd rfl) U U U (Jb (Wc hT U U U U) U U U (Jb (Jf rfl) U U U ?_))))))))
 refine Jg (Ja ?_)
 refine Vk rfl zbl ?_
 refine Jh (Je (Jb (Jd rfl) U U U (Jb (Vf hT U U U) U U U (Jb (y_eql U U) U U U (Jb (Jd rfl) U U U ?_)))))
 all_goals (first | (refine Vh U U U (fun h => ?_) (fun h => ?_) <;> try (first | (exfalso; omega) | exact absurd rfl h)) | (refine Vr U U U (fun h => ?_) (fun h => ?_) <;> try (first | cases h | (exfalso; simp at h; done))) | skip)
 all_goals (first | refine Js U U U U U U ?_ | refine Jp U U U U U ?_ | refine Jt U U U (Jd rfl) U U ?_)
 all_goals (first | refine Js U U U U U U ?_ | refine Jp U U U U U ?_ | refine Jt U U U (Vf hT U U U) U U ?_)
 all_goals (first | refine Js U U U U U U ?_ | refine Jp U U U U U ?_ | refine Jt U U U (y_gtr U U) U U ?_)
 all_goals (refine Jb (Wb U U U) U U U ?_)
 all_goals (refine Jb (Jf rfl) U U U ?_)
 all_goals refine Jg (Ja ?_)
 all_goals
  refine Vk rfl zbl ?_
  refine Vd ?_
 all_goals refine Ju (Ja ?_)
 all_goals
  refine Jh (Jh (Je (Jb (Jd rfl) U U U (Jb (Vf hT U U U) U U U (Jb (Jd rfl) U U U ?_)))))
  refine Jg (Ja (Ve ?_))
  refine Wn (α := Nat) (fun i => i ≤ n ∧ ∀ h ∈ shs.take i, ShOk h) (fun i => [(0, .pointer (some ⟨lg, 0, none⟩)), (1, .slice (some ⟨sg, so, none⟩) n sc), (4, .pointer (some ⟨b1, 0, none⟩)), (5, .pointer (some ⟨b2, 0, none⟩)), (24, .slice (some ⟨sg, so, none⟩) n sc), (25, .int .i64 n), (26, .int .i64 i)]) (fun _ => row b2 31 [.int .i64 0] :: row b1 30 [.pointer none] :: l) (fun i => n - i) 0 ⟨Nat.zero_le _, by simp⟩ ⟨U, U, U, U, U, U, U, trivial⟩ (fun w s => s) ?_
  rintro i ⟨hi, hall⟩
  refine Jh (Je (Jb (y_lss U U) U U U ?_))
  refine Jg (Ja (Jh ?_))
  first | apply Jx rfl | apply Vo rfl
  case' ht =>
   intro h
   try (first | exact zom | exact zho h | subst h)
   all_goals
    refine Vd ?_
  case' hf =>
   intro h
   try (first | exact zom | exact zho h | subst h)
   all_goals
    refine Wl (Jv (Jv (Vl (Ja ?_))))
    exact absurd (fun q hq => hall q (by rw [List.take_of_length_le (by omega)]; exact hq)) hsh
  all_goals refine Ja ?_
  all_goals
   refine Jh (Ve (Jh (Je ?_)))
   have hlt : i < n := by omega
   obtain ⟨h, hh⟩ : ∃ h, shs[i]? = some h := ⟨shs[i]'(by omega), List.getElem?_eq_getElem _⟩
   obtain ⟨hrw, hky, hvl⟩ := h
   have hq1 : Shp.rows ⟨hrw, hky, hvl⟩ = hrw := rfl
   have hq2 : Shp.key ⟨hrw, hky, hvl⟩ = hky := rfl
   have hq3 : Shp.value ⟨hrw, hky, hvl⟩ = hvl := rfl
   refine Jb (Jn hT U U U U U zix zix) U U U ?_
   refine Jb (We hT U U U ((InL.rdN (cs := shs.flatMap shC) zinl h0).elem (fun x _ => shC_length x) hh) rfl) U U U ?_
   refine Jl rfl (Wf hT U U zcl rfl (fun b3 => ?_))
   refine Jl rfl (Vx hT U U U zln zoc zpk zln ?_)
   refine Jg (Ja (Jh (Je (Jb (Jk hT U U U U U U) U U U ?_))))
   refine Jb (Jo hT U U U zrd) U U U ?_
   refine Jb (y_lss U U) U U U (Jb (Jd rfl) U U U ?_)
   all_goals (first | (refine Vh U U U (fun h => ?_) (fun h => ?_) <;> try (first | (exfalso; omega) | exact absurd rfl h)) | (refine Vr U U U (fun h => ?_) (fun h => ?_) <;> try (first | cases h | (exfalso; simp at h; done))) | skip)
   all_goals (first | refine Js U U U U U U ?_ | refine Jp U U U U U ?_ | refine Jt U U U (Jk hT U U U U U U) U U ?_)
   all_goals (first | refine Js U U U U U U ?_ | refine Jp U U U U U ?_ | refine Jt U U U (Jo hT U U U zrd) U U ?_)
   all_goals (first | refine Js U U U U U U ?_ | refine Jp U U U U U ?_ | refine Jt U U U (y_gtr U U) U U ?_)
   all_goals (refine Jb (Wb U U U) U U U ?_)
   all_goals (refine Jb (Jd rfl) U U U ?_)
   all_goals (first | (refine Vh U U U (fun h => ?_) (fun h => ?_) <;> try (first | (exfalso; omega) | exact absurd rfl h)) | (refine Vr U U U (fun h => ?_) (fun h => ?_) <;> try (first | cases h | (exfalso; simp at h; done))) | skip)
   all_goals (first | refine Js U U U U U U ?_ | refine Jp U U U U U ?_ | refine Jt U U U (Jk hT U U U U U U) U U ?_)
   all_goals (first | refine Js U U U U U U ?_ | refine Jp U U U U U ?_ | refine Jt U U U (Jo hT U U U zrd) U U ?_)
   all_goals (first | refine Js U U U U U U ?_ | refine Jp U U U U U ?_ | refine Jt U U U (y_lss U U) U U ?_)
   all_goals (refine Jb (Wb U U U) U U U ?_)
   all_goals (refine Jb (Jd rfl) U U U ?_)
   all_goals (first | (refine Vh U U U (fun h => ?_) (fun h => ?_) <;> try (first | (exfalso; omega) | exact absurd rfl h)) | (refine Vr U U U (fun h => ?_) (fun h => ?_) <;> try (first | cases h | (exfalso; simp at h; done))) | skip)
   all_goals (first | refine Js U U U U U U ?_ | refine Jp U U U U U ?_ | refine Jt U U U (Jk hT U U U U U U) U U ?_)
   all_goals (first | refine Js U U U U U U ?_ | refine Jp U U U U U ?_ | refine Jt U U U (Jo hT U U U zrd) U U ?_)
   all_goals (first | refine Js U U U U U U ?_ | refine Jp U U U U U ?_ | refine Jt U U U (y_gtr U U) U U ?_)
   all_goals (refine Jb (Wb U U U) U U U ?_)
   all_goals (refine Jb (Jd rfl) U U U ?_)
   all_goals (first | (refine Vh U U U (fun h => ?_) (fun h => ?_) <;> try (first | (exfalso; omega) | exact absurd rfl h)) | (refine Vr U U U (fun h => ?_) (fun h => ?_) <;> try (first | cases h | (exfalso; simp at h; done))) | skip)
   all_goals (first | refine Js U U U U U U ?_ | refine Jp U U U U U ?_ | refine Jt U U U (Jk hT U U U U U U) U U ?_)
   all_goals (first | refine Js U U U U U U ?_ | refine Jp U U U U U ?_ | refine Jt U U U (Jo hT U U U zrd) U U ?_)
   all_goals (first | refine Js U U U U U U ?_ | refine Jp U U U U U ?_ | refine Jt U U U (y_lss U U) U U ?_)
   all_goals (refine Jb (Wb U U U) U U U ?_)
   all_goals (refine Jb (Jd rfl) U U U ?_)
   all_goals (first | (refine Vh U U U (fun h => ?_) (fun h => ?_) <;> try (first | (exfalso; omega) | exact absurd rfl h)) | (refine Vr U U U (fun h => ?_) (fun h => ?_) <;> try (first | cases h | (exfalso; simp at h; done))) | skip)
   all_goals (first | refine Js U U U U U U ?_ | refine Jp U U U U U ?_ | refine Jt U U U (Jk hT U U U U U U) U U ?_)
   all_goals (first | refine Js U U U U U U ?_ | refine Jp U U U U U ?_ | refine Jt U U U (Jo hT U U U zrd) U U ?_)
   all_goals (first | refine Js U U U U U U ?_ | refine Jp U U U U U ?_ | refine Jt U U U (y_gtr U U) U U ?_)
   all_goals (refine Jb (Wb U U U) U U U ?_)
   all_goals refine Jg (Ja ?_)
   all_goals
    first | apply Jx rfl | apply Vo rfl
    case' ht =>
     intro h
     try (first | exact zom | exact zho h | subst h)
     all_goals
      refine Jh (Je ?_)
      refine Jl rfl (Vs hT U U U U U zpk zix ?_)
      refine Jl rfl (Vs hT U U U U U zpk zix ?_)
      refine Jg (Ja (Vn (Vj (Vb (Vb (Vj (Vb ?_)))))))
      first | refine JE.unmark (.inl rfl) rfl zpk ?_ | refine JE.nomark (.inl rfl) rfl ?_
      refine JE.ret2 (.inl rfl) U U zrv zrv ?_
      exact ⟨rfl, fun w q => q.sup zsup⟩
    case' hf =>
     intro h
     try (first | exact zom | exact zho h | subst h)
     all_goals
      refine Vd ?_
   all_goals refine Ju (Ja ?_)
   all_goals
    refine Je ?_
    refine Jb (Wa U U zwr) U U U ?_
    refine Jb (Jd rfl) U U U ?_
    refine Jg ?_
  all_goals
   refine Vt (s := i) (i + 1) ⟨by omega, fun q hq => ?_⟩ ⟨U, U, U, U, U, U, U, trivial⟩ (fun w q => q.sup zsup) (by omega)
   rw [List.take_add_one, hh] at hq
   rcases List.mem_append.1 hq with hq | hq
   · exact hall q hq
   · rw [Option.toList_some, List.mem_singleton] at hq
     rw [hq]
     exact ⟨⟨by omega, by omega⟩, ⟨by omega, by omega⟩, ⟨by omega, by omega⟩⟩
end
end
end Go.Proofs.YtaopifoidbdniaaGreat
