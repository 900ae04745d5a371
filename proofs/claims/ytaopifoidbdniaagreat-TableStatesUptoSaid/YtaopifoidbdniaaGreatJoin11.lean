import Derived.Test.YtaopifoidbdniaaGreatJoin2
import Derived.Test.YtaopifoidbdniaaGreatJoin5
import Derived.Test.YtaopifoidbdniaaGreatJoin9
import Derived.Test.YtaopifoidbdniaaGreatJoin10
/- The law of layer 13: a log on a new disk, the log that a disk has. -/
namespace Go.Proofs.YtaopifoidbdniaaGreat
open Go Go.SL
section
theorem tfit_nil {h : Shp} (hh : ShOk h) : TFit h [] := ⟨List.Pairwise.nil, by have := hh.rows; simp only [List.length_nil]; omega, fun p hp => by cases hp⟩
theorem tells_new (shs : List Shp) (hsh : ∀ h ∈ shs, ShOk h) : Tells shs lg0 (List.replicate shs.length []) [] where
  fit := ⟨List.length_replicate, fun i h R h1 h2 => by
    rw [List.getElem?_replicate] at h2
    split at h2
    · cases h2
      exact tfit_nil (hsh h (List.mem_of_getElem? h1))
    · cases h2⟩
  snap := .inl ⟨rfl, rfl⟩
  txs := rfl
  can := fun j cs h => by simp at h
  ok := fun cs h => by cases h
end
section
attribute [local irreducible] J JL JE JM LS Y Fc RV Code.wp wpList Code.wpIn wpListIn
attribute [local irreducible] Yc ltS
variable (E : World)
theorem log13_spec (N : Nat) (h1 : 64 ≤ N) (h2 : N ≤ 512) (l : List HProp) :
    Fc prog E 12 [.int .i64 (N : Int)].toArray l (fun v l' => ∃ lg st d, v = .tuple #[.pointer (some ⟨lg, 0, none⟩), .pointer (some ⟨d, 0, none⟩)] ∧ l' = logm lg st lg0 :: row st 205 (scells sb0 d) :: disk d (Dk.new N).formatted :: l) := by
  obtain ⟨hL0, hl0⟩ := lh_format h1 h2
  obtain ⟨D0, hD0⟩ : ∃ D0, (Dk.new N).formatted = D0 := ⟨_, rfl⟩
  have hfmt : ∀ (d : Nat) l, Fc prog E 62 [.pointer (some ⟨d, 0, none⟩)].toArray (disk d (Dk.new N) :: l) (fun v l' => ∃ st, v = .tuple #[.pointer (some ⟨st, 0, none⟩), .int .i64 0] ∧ l' = row st 205 (scells sb0 d) :: disk d (Dk.new N).formatted :: l) := fun d l => format_good E d (Dk.new N) l (by simp [Dk.new]; omega) U U (by simp [Dk.new])
  rw [hD0] at hL0 ⊢
  refine Jx (c := ?codeC) Tryz.func12 ?hb Tryz.ntmps12 ?hl ?_
  case hb => exact rfl
  case hl => exact rfl
  refine Jh ?_
  refine Jc ?_
  refine Jb (Jf rfl) U U U (Jb (Jf rfl) U U U ?_)
  refine Jg ?_
  refine Ja ?_
  refine Jh ?_
  refine Jc ?_
  refine Jb (Je rfl) U U U ?_
  refine Jk rfl (Ju e46 U U (new_good E N _ (by omega) (by omega)) ?_)
  rintro _ _ ⟨d, rfl, rfl⟩
  refine Jb (Je rfl) U U U (Jb (Vi U U) U U U (Jb (Vi U U) U U U (Jb (Jf rfl) U U U (Jb (Jf rfl) U U U ?_))))
  refine Jg ?_
  refine Ja ?_
  refine Jh ?_
  refine Jh ?_
  refine Jc ?_
  refine Jb (Je rfl) U U U (Jb (y_neq U U) U U U ?_)
  refine Jg ?_
  refine Ja ?_
  refine Vo rfl zbl ?_
  refine Vd ?_
  refine Ja ?_
  refine Jh ?_
  refine Jc ?_
  refine Jb (Je rfl) U U U ?_
  refine Jk rfl (Ju e62 U U (Vz (Ji zpk Jj) (hfmt d _)) ?_)
  rintro _ _ ⟨st, rfl, rfl⟩
  refine Jb (Je rfl) U U U (Jb (Vi U U) U U U (Jb (Vi U U) U U U (Jb (Jf rfl) U U U (Jb (Jf rfl) U U U ?_))))
  refine Jg ?_
  refine Ja ?_
  refine Jh ?_
  refine Jh ?_
  refine Jc ?_
  refine Jb (Je rfl) U U U (Jb (y_neq U U) U U U ?_)
  refine Jg ?_
  refine Ja ?_
  refine Vo rfl zbl ?_
  refine Vd ?_
  refine Ja ?_
  refine Jh ?_
  refine Jc ?_
  refine Jb (Je rfl) U U U ?_
  refine Jk rfl (Ju e63 U U (Vz (Ji zpk (Ji zpk Jj)) (lopen_lh E st d sb0 (Dk.new N).formatted lg0 _ (hD0 ▸ hL0))) ?_)
  rintro _ _ ⟨lg, rfl, rfl⟩
  refine Jb (Je rfl) U U U (Jb (Vi U U) U U U (Jb (Vi U U) U U U (Jb (Jf rfl) U U U (Jb (Jf rfl) U U U ?_))))
  refine Jg ?_
  refine Ja ?_
  refine Jh ?_
  refine Jh ?_
  refine Jc ?_
  refine Jb (Je rfl) U U U (Jb (y_neq U U) U U U ?_)
  refine Jg ?_
  refine Ja ?_
  refine Vo rfl zbl ?_
  refine Vd ?_
  refine Ja ?_
  refine Jh ?_
  refine Jc ?_
  refine Jb (Je rfl) U U U (Jb (Je rfl) U U U (Jb (Jf rfl) U U U (Jb (Jf rfl) U U U ?_)))
  refine Jg ?_
  refine Ja ?_
  refine Vn ?_
  refine JE.ret2 (.inl rfl) U U zrv zrv ?_
  rw [hD0]
  exact ⟨lg, st, d, rfl, rfl⟩
theorem wakes13_spec (l : List HProp) : Fc prog E 11 [].toArray l (fun v l' => v = .bool true ∧ l' = l) := by
  refine Fc.eqs ?_
  have hsh : ∀ h ∈ [Shp.mk 2 3 4], ShOk h := fun h hh => by
    simp only [List.mem_singleton] at hh
    subst hh
    exact ⟨⟨by decide, by decide⟩, ⟨by decide, by decide⟩, ⟨by decide, by decide⟩⟩
  obtain ⟨hL, hl⟩ := lh_format (n := 64) (by decide) (by decide)
  obtain ⟨tx, htx⟩ : ∃ tx, txB [⟨true, 0, ⟨#[97]⟩, ⟨#[1]⟩⟩] = tx := ⟨_, rfl⟩
  have hch : ∀ c ∈ [Chg.mk true 0 ⟨#[97]⟩ ⟨#[1]⟩], ChOk c := fun c hc => by
    simp only [List.mem_singleton] at hc
    subst hc
    exact ⟨by decide, by decide, by decide⟩
  have hsm : Small tx := by rw [← htx]; exact txB_small hch (by decide)
  have htl : tx.length = 10 := by rw [← htx]; rfl
  obtain ⟨D1, e1, hL1⟩ := hL.append hsm (by rw [htl]; decide)
  have hput : ∀ b lg p l, InL l p 1 1 (ints .u8 [1]) → Fc prog E 32 [.pointer (some ⟨b, 0, none⟩), .int .i64 0, .string ⟨#[97]⟩, .slice p 1 1].toArray (baseM b lg ⟨[⟨2, 3, 4⟩], [[]], [[]], []⟩ :: l) (fun v l' => v = .int .i64 0 ∧ l' = baseM b lg ⟨[⟨2, 3, 4⟩], [[]], [[(⟨#[97]⟩, ⟨#[1]⟩)]], [⟨true, 0, ⟨#[97]⟩, ⟨#[1]⟩⟩]⟩ :: l) := fun b lg p l hin =>
    put_spec E b lg ⟨[⟨2, 3, 4⟩], [[]], [[]], []⟩ 0 ⟨2, 3, 4⟩ [] ⟨#[97]⟩ ⟨#[1]⟩ p 1 (by decide) (by decide) U U List.Pairwise.nil (by decide) (by decide) (by decide) l hin
  have hcm : ∀ b lg st d l, Fc prog E 35 [.pointer (some ⟨b, 0, none⟩)].toArray (baseM b lg ⟨[⟨2, 3, 4⟩], [[]], [[(⟨#[97]⟩, ⟨#[1]⟩)]], [⟨true, 0, ⟨#[97]⟩, ⟨#[1]⟩⟩]⟩ :: logm lg st lg0 :: row st 205 (scells sb0 d) :: disk d (Dk.new 64).formatted :: l)
      (fun v l' => v = .int .i64 0 ∧ l' = baseM b lg ⟨[⟨2, 3, 4⟩], [[(⟨#[97]⟩, ⟨#[1]⟩)]], [[(⟨#[97]⟩, ⟨#[1]⟩)]], []⟩ :: logm lg st { lg0 with txs := lg0.txs ++ [tx], used := lg0.used + needN tx.length } :: row st 205 (scells sb0 d) :: disk d D1 :: l) := fun b lg st d l =>
    commit_one E b lg st d ⟨[⟨2, 3, 4⟩], [[]], [[(⟨#[97]⟩, ⟨#[1]⟩)]], [⟨true, 0, ⟨#[97]⟩, ⟨#[1]⟩⟩]⟩ sb0 (Dk.new 64).formatted D1 lg0 _ 0 (by decide) (by simp) (by decide) hch (by decide) (fun p c l hin => by
      rw [htx] at hin ⊢
      exact append_lh E lg st d l hL tx p c _ rfl hsm (by decide) e1 hin) l
  have hget : ∀ b lg l, Fc prog E 18 [.pointer (some ⟨b, 0, none⟩), .int .i64 0, .string ⟨#[97]⟩].toArray (baseM b lg ⟨[⟨2, 3, 4⟩], [[(⟨#[97]⟩, ⟨#[1]⟩)]], [[(⟨#[97]⟩, ⟨#[1]⟩)]], []⟩ :: l) (fun u l' => ∃ g c K, InL [K] (some ⟨g, 0, none⟩) 1 c (ints .u8 [1]) ∧ u = .tuple #[.slice (some ⟨g, 0, none⟩) 1 c, .int .i64 0] ∧ l' = K :: baseM b lg ⟨[⟨2, 3, 4⟩], [[(⟨#[97]⟩, ⟨#[1]⟩)]], [[(⟨#[97]⟩, ⟨#[1]⟩)]], []⟩ :: l) := fun b lg l =>
    tget_some E b lg ⟨[⟨2, 3, 4⟩], [[(⟨#[97]⟩, ⟨#[1]⟩)]], [[(⟨#[97]⟩, ⟨#[1]⟩)]], []⟩ 0 [(⟨#[97]⟩, ⟨#[1]⟩)] ⟨#[97]⟩ ⟨#[1]⟩ (by decide) (by decide) rfl (List.pairwise_singleton ..) rfl (by decide) l
  have hlen : ∀ d l, Fc prog E 61 [.pointer (some ⟨d, 0, none⟩)].toArray (disk d D1 :: l) (fun v l' => v = .int .i64 64 ∧ l' = disk d D1 :: l) := fun d l => by
    have q := len_spec E d D1 l
    rwa [hL1.2, hl] at q
  refine Jx (c := ?codeC) Tryz.func11 ?hb Tryz.ntmps11 ?hl ?_
  case hb => exact rfl
  case hl => exact rfl
  refine Jh ?_
  refine Jc ?_
  refine Jb (Jf rfl) U U U ?_
  refine Jg ?_
  refine Ja ?_
  refine Jh ?_
  refine Jc ?_
  refine Jk rfl (Ju e12 U U (log13_spec E 64 (by omega) (by omega) _) ?_)
  rintro _ _ ⟨lg, st, d, rfl, rfl⟩
  refine Jb (Je rfl) U U U (Jb (Vi U U) U U U (Jb (Vi U U) U U U (Jb (Jf rfl) U U U (Jb (Jf rfl) U U U ?_))))
  refine Jg ?_
  refine Ja ?_
  refine Jh ?_
  refine Jc ?_
  refine Jb (Je rfl) U U U ?_
  refine Jb (y_build (cs := [_, _, _]) hT U U U U U U ⟨⟨zln, Nat.le_of_ble_eq_true rfl⟩, ⟨⟨zln, Nat.le_of_ble_eq_true rfl⟩, ⟨⟨zln, Nat.le_of_ble_eq_true rfl⟩, trivial⟩⟩⟩ rfl) U U U ?_
  refine Jk rfl (l_buildSliceP (cs := shC ⟨2, 3, 4⟩) hT U U U U U U U (fill_one U U) rfl (fun bS => ?_))
  refine Jk rfl (Ju e13 U U (Vz (Ji zpk Jj) (topen_good E lg st 1 lg0 [⟨2, 3, 4⟩] [[]] [] _ _ rfl (by omega) (by omega) hsh (tells_new _ hsh) (by simp) _ (InL.ofRow zpk (by decide)))) ?_)
  rintro _ _ ⟨b, rfl, rfl⟩
  refine Jb (Je rfl) U U U (Jb (Vi U U) U U U (Jb (Vi U U) U U U (Jb (Jf rfl) U U U (Jb (Jf rfl) U U U ?_))))
  refine Jg ?_
  refine Ja ?_
  refine Jh ?_
  refine Jh ?_
  refine Jc ?_
  refine Jb (Je rfl) U U U (Jb (y_neq U U) U U U (Jb (Je rfl) U U U ?_))
  all_goals (first | (refine Vc U U U (fun h => ?_) (fun h => ?_) <;> try (first | (exfalso; omega) | exact absurd rfl h)) | (refine Vs U U U (fun h => ?_) (fun h => ?_) <;> try (first | cases h | (exfalso; simp at h; done))) | skip)
  all_goals (first | refine Js U U U U U U ?_ | refine Jo U U U U U ?_ | refine Jv U U U (Je rfl) U U ?_)
  all_goals (first | refine Js U U U U U U ?_ | refine Jo U U U U U ?_ | (refine JL.gloud U U U (l_buildSliceP hT U U U U U U U zfl rfl (fun b3 => ?_))))
  all_goals (first | refine Js U U U U U U ?_ | refine Jo U U U U U ?_ | (refine JL.gloud U U U (Ju e32 U U (Vz (Ji zpk Jj) (hput b lg _ _ (InL.ofRow (cs := ints .u8 [1]) zpk (by decide)))) ?_); rintro _ _ ⟨rfl, rfl⟩))
  all_goals (first | refine Js U U U U U U ?_ | refine Jo U U U U U ?_ | refine Jv U U U (y_neq U U) U U ?_)
  all_goals (refine Jb (Wb U U U) U U U ?_)
  all_goals (refine Jb (Je rfl) U U U ?_)
  all_goals (first | (refine Vc U U U (fun h => ?_) (fun h => ?_) <;> try (first | (exfalso; omega) | exact absurd rfl h)) | (refine Vs U U U (fun h => ?_) (fun h => ?_) <;> try (first | cases h | (exfalso; simp at h; done))) | skip)
  all_goals (first | refine Js U U U U U U ?_ | refine Jo U U U U U ?_ | refine Jv U U U (Je rfl) U U ?_)
  all_goals (first | refine Js U U U U U U ?_ | refine Jo U U U U U ?_ | (refine JL.gloud U U U (Ju e35 U U (Vz (Ji zpk (Ji zpk (Ji zpk (Ji zpk Jj)))) (hcm b lg st d _)) ?_); rintro _ _ ⟨rfl, rfl⟩))
  all_goals (first | refine Js U U U U U U ?_ | refine Jo U U U U U ?_ | refine Jv U U U (y_neq U U) U U ?_)
  all_goals (refine Jb (Wb U U U) U U U ?_)
  all_goals (refine Jb (Je rfl) U U U ?_)
  all_goals (first | (refine Vc U U U (fun h => ?_) (fun h => ?_) <;> try (first | (exfalso; omega) | exact absurd rfl h)) | (refine Vs U U U (fun h => ?_) (fun h => ?_) <;> try (first | cases h | (exfalso; simp at h; done))) | skip)
  all_goals (first | refine Js U U U U U U ?_ | refine Jo U U U U U ?_ | refine Jv U U U (Je rfl) U U ?_)
  all_goals (first | refine Js U U U U U U ?_ | refine Jo U U U U U ?_ | (refine JL.gloud U U U (Ju e61 U U (Vz (Ji zpk Jj) (hlen d _)) ?_); rintro _ _ ⟨rfl, rfl⟩))
  all_goals (first | refine Js U U U U U U ?_ | refine Jo U U U U U ?_ | refine Jv U U U (y_neq U U) U U ?_)
  all_goals (refine Jb (Wb U U U) U U U ?_)
  all_goals refine Jg ?_
  all_goals refine Ja ?_
  all_goals
    first | apply Va rfl | apply Vv rfl
    case' ht =>
      intro h
      try (first | (exfalso; omega) | (cases h; done) | (exfalso; simp at h; done) | subst h)
      all_goals
        refine Jh ?_
        refine Jc ?_
        refine Jb (Jf rfl) U U U ?_
        refine Jg ?_
        refine Ja ?_
        refine Vn ?_
        refine Vb ?_
        refine Vg (.inl rfl) U U zrv ?_
        exact ⟨rfl, fun w q => q.sup zsup⟩
    case' hf =>
      intro h
      try (first | (exfalso; omega) | (cases h; done) | (exfalso; simp at h; done) | subst h)
      all_goals
        refine Vd ?_
  all_goals refine Ja ?_
  all_goals
    refine Jh ?_
    refine Jc ?_
    refine Jb (Je rfl) U U U ?_
    refine Jk rfl (Ju e18 U U (Vz (Ji zpk Jj) (hget b lg _)) ?_)
    rintro _ _ ⟨gg, gc, KK, hKK, rfl, rfl⟩
    refine Jb (Je rfl) U U U (Jb (Vi U U) U U U (Jb (Vi U U) U U U (Jb (Jf rfl) U U U (Jb (Jf rfl) U U U ?_))))
    refine Jg ?_
    refine Ja ?_
    refine Jh ?_
    refine Jc ?_
    refine Jb (Je rfl) U U U (Jb (y_eql U U) U U U (Jb (Je rfl) U U U ?_))
    all_goals (first | (refine Vc U U U (fun h => ?_) (fun h => ?_) <;> try (first | (exfalso; omega) | exact absurd rfl h)) | (refine Vs U U U (fun h => ?_) (fun h => ?_) <;> try (first | cases h | (exfalso; simp at h; done))) | skip)
    all_goals (first | refine Js U U U U U U ?_ | refine Jo U U U U U ?_ | refine Jv U U U (Je rfl) U U ?_)
    all_goals (first | refine Js U U U U U U ?_ | refine Jo U U U U U ?_ | refine Jv U U U (Vf hT U U U) U U ?_)
    all_goals (first | refine Js U U U U U U ?_ | refine Jo U U U U U ?_ | refine Jv U U U (y_eql U U) U U ?_)
    all_goals (refine Jb (Wb U U U) U U U ?_)
    all_goals (refine Jb (Je rfl) U U U ?_)
    all_goals (first | (refine Vc U U U (fun h => ?_) (fun h => ?_) <;> try (first | (exfalso; omega) | exact absurd rfl h)) | (refine Vs U U U (fun h => ?_) (fun h => ?_) <;> try (first | cases h | (exfalso; simp at h; done))) | skip)
    all_goals (first | refine Js U U U U U U ?_ | refine Jo U U U U U ?_ | refine Jv U U U (Je rfl) U U ?_)
    all_goals (first | refine Js U U U U U U ?_ | refine Jo U U U U U ?_ | refine Jv U U U (Jz hT U U U U U zix zix) U U ?_)
    all_goals (refine Jv U U U (Jn hT U U U (Rd1.elem (i := 0) (v := .int .u8 1) (InL.rdN (hKK.kept Jm) (by decide)) rfl)) U U ?_)
    all_goals (first | refine Js U U U U U U ?_ | refine Jo U U U U U ?_ | refine Jv U U U (y_eql U U) U U ?_)
    all_goals (refine Jb (Wb U U U) U U U ?_)
    all_goals (refine Jb (Je rfl) U U U ?_)
    all_goals (first | (refine Vc U U U (fun h => ?_) (fun h => ?_) <;> try (first | (exfalso; omega) | exact absurd rfl h)) | (refine Vs U U U (fun h => ?_) (fun h => ?_) <;> try (first | cases h | (exfalso; simp at h; done))) | skip)
    all_goals (first | refine Js U U U U U U ?_ | refine Jo U U U U U ?_ | refine Jv U U U (Je rfl) U U ?_)
    all_goals (first | refine Js U U U U U U ?_ | refine Jo U U U U U ?_ | (refine JL.gloud U U U (Ju e34 U U (Vz (Ji zpk Jj) (dirty_spec E b lg _ _)) ?_); rintro _ _ ⟨rfl, rfl⟩))
    all_goals (first | refine Js U U U U U U ?_ | refine Jo U U U U U ?_ | refine Jv U U U (y_eql U U) U U ?_)
    all_goals (refine Jb (Wb U U U) U U U ?_)
    all_goals (refine Jb (Jf rfl) U U U ?_)
    all_goals refine Jg ?_
    all_goals refine Ja ?_
    all_goals
      refine Vn ?_
      refine Vg (.inl rfl) U U zrv ?_
      exact ⟨rfl, fun w q => q.sup zsup⟩
end
end Go.Proofs.YtaopifoidbdniaaGreat
/- A base as it should be, and what keeps it so; what a log says of a base; a commit. -/
namespace Go.Proofs.YtaopifoidbdniaaGreat
open Go Go.SL
section
/-- A base as it should be. -/
structure BOk (B : Bs) (n : Nat) : Prop where
  fit : SFit B.shs B.kept
  sh : ∀ h ∈ B.shs, ShOk h
  n8 : B.shs.length ≤ 8
  can : Cans B.shs B.kept B.turned
  meant : B.meant = chsS B.kept B.turned
  ok : ∀ c ∈ B.turned, ChOk c
  few : B.turned.length ≤ n
theorem BOk.mfit {B : Bs} {n : Nat} (h : BOk B n) : SFit B.shs B.meant := by
  have q := h.fit.chsS h.can B.turned.length
  rw [List.take_length] at q
  rw [h.meant]
  exact q
theorem SFit.rok {shs : List Shp} {Rs : List (List Rw)} (h : SFit shs Rs) (hsh : ∀ h ∈ shs, ShOk h) : ∀ R ∈ Rs, ROk R := fun R hR => by
  obtain ⟨i, hi, rfl⟩ := List.getElem_of_mem hR
  have hi2 : i < shs.length := by rw [← h.len]; exact hi
  exact (h.fit i _ _ (List.getElem?_eq_getElem hi2) (List.getElem?_eq_getElem hi)).ok (hsh _ (List.getElem_mem hi2))
theorem SFit.few {shs : List Shp} {Rs : List (List Rw)} (h : SFit shs Rs) {K : Nat} (hK : ∀ h ∈ shs, h.rows ≤ K) : ∀ R ∈ Rs, R.length ≤ K := fun R hR => by
  obtain ⟨i, hi, rfl⟩ := List.getElem_of_mem hR
  have hi2 : i < shs.length := by rw [← h.len]; exact hi
  have h1 := (h.fit i _ _ (List.getElem?_eq_getElem hi2) (List.getElem?_eq_getElem hi)).few
  have h2 := hK _ (List.getElem_mem hi2)
  omega
theorem Cans.snoc {shs : List Shp} {Rs : List (List Rw)} {cs : List Chg} {c : Chg} (h : Cans shs Rs cs) (hc : Can shs (Go.Proofs.YtaopifoidbdniaaGreat.chsS Rs cs) c) : Cans shs Rs (cs ++ [c]) := fun j d hd => by
  rcases Nat.lt_or_ge j cs.length with hj | hj
  · rw [List.getElem?_append_left hj] at hd
    rw [List.take_append_of_le_length (by omega)]
    exact h j d hd
  · have hlt := (List.getElem?_eq_some_iff.1 hd).1
    simp only [List.length_append, List.length_cons, List.length_nil] at hlt
    obtain rfl : j = cs.length := by omega
    rw [List.getElem?_append_right (Nat.le_refl _), Nat.sub_self] at hd
    cases hd
    rw [List.take_append_of_le_length (Nat.le_refl _), List.take_length]
    exact hc
theorem putE_zero {s : Shp} {R : List Rw} {k v : ByteArray} (h : putE s R k v = 0) : FitR s k v ∧ (rget R k = none → (R.length : Int) ≠ s.rows) := by
  unfold putE at h
  split at h
  · cases h
  · next h1 =>
    split at h
    · cases h
    · next h2 =>
      split at h
      · cases h
      · next h3 => exact ⟨⟨by omega, by omega, by omega⟩, fun e1 e2 => h3 ⟨e1, e2⟩⟩
theorem BOk.put {B : Bs} {n i : Nat} {s : Shp} {R : List Rw} {k v : ByteArray} (h : BOk B n) (hs : B.shs[i]? = some s) (hR : B.meant[i]? = some R) (he : putE s R k v = 0) : BOk (B.put i R k v) (n + 1) := by
  have hf := h.mfit.fit i s R hs hR
  have hz := putE_zero he
  have hc : Can B.shs B.meant ⟨true, i, k, v⟩ := ⟨s, R, hs, hR, .inl ⟨rfl, hz.1, fun e => by
    have h1 := hf.few
    have h2 := hz.2 e
    omega⟩⟩
  have hok := hc.ok h.mfit h.sh h.n8 (fun e => by cases e)
  refine ⟨h.fit, h.sh, h.n8, ?_, ?_, fun c hcm => ?_, ?_⟩
  · exact h.can.snoc (by rw [← h.meant]; exact hc)
  · show B.meant.set i (rins R k v) = chsS B.kept (B.turned ++ [⟨true, i, k, v⟩])
    rw [chsS_snoc, ← h.meant, chS]
    dsimp only
    rw [List.getD_eq_getElem?_getD, hR]
    rfl
  · rcases List.mem_append.1 hcm with hcm | hcm
    · exact h.ok c hcm
    · rw [List.mem_singleton.1 hcm]; exact hok
  · show (B.turned ++ [_]).length ≤ _
    have := h.few
    simp only [List.length_append, List.length_cons, List.length_nil]
    omega
theorem cans_nil (shs : List Shp) (Rs : List (List Rw)) : Cans shs Rs [] := fun j c h => by simp at h
theorem BOk.start {shs : List Shp} {Rs : List (List Rw)} (h : SFit shs Rs) (hsh : ∀ h ∈ shs, ShOk h) (h8 : shs.length ≤ 8) (n : Nat) : BOk ⟨shs, Rs, Rs, []⟩ n := ⟨h, hsh, h8, cans_nil _ _, rfl, fun c h => (by cases h), Nat.zero_le _⟩
theorem BOk.done {B : Bs} {n : Nat} (h : BOk B n) (m : Nat) : BOk B.done m := BOk.start h.mfit h.sh h.n8 m
theorem BOk.mono {B : Bs} {n m : Nat} (h : BOk B n) (hm : n ≤ m) : BOk B m := ⟨h.fit, h.sh, h.n8, h.can, h.meant, h.ok, Nat.le_trans h.few hm⟩
/-- What a log says is what is kept. -/
def Ties (shs : List Shp) (kept : List (List Rw)) (L : Lg) (m : Nat) : Prop := ∃ Rs0 css, Tells shs L Rs0 css ∧ kept = css.foldl chsS Rs0 ∧ css.length ≤ m
theorem Ties.mono {shs : List Shp} {kept : List (List Rw)} {L : Lg} {m k : Nat} (h : Ties shs kept L m) (hk : m ≤ k) : Ties shs kept L k := let ⟨a, b, c, d, e⟩ := h; ⟨a, b, c, d, by omega⟩
theorem Ties.new {shs : List Shp} (hsh : ∀ h ∈ shs, ShOk h) : Ties shs (List.replicate shs.length []) lg0 0 := ⟨_, [], tells_new shs hsh, rfl, Nat.le_refl _⟩
theorem Ties.fit {shs : List Shp} {kept : List (List Rw)} {L : Lg} {m : Nat} (h : Ties shs kept L m) : SFit shs kept := by
  obtain ⟨Rs0, css, hT, rfl, _⟩ := h
  have q := hT.fits css.length
  rwa [List.take_length] at q
theorem Ties.txs {shs : List Shp} {kept : List (List Rw)} {L : Lg} {m : Nat} (h : Ties shs kept L m) : L.txs.length ≤ m := by
  obtain ⟨Rs0, css, hT, rfl, hm⟩ := h
  rw [hT.txs, List.length_map]
  exact hm
theorem Ties.append {B : Bs} {L A : Lg} {m n u : Nat} (h : Ties B.shs B.kept L m) (hB : BOk B n) (hn : n ≤ 900) (hA : { L with txs := L.txs ++ [txB B.turned], used := u } = A) : Ties B.shs B.meant A (m + 1) := by
  obtain ⟨Rs0, css, hT, hk, hm⟩ := h
  subst hA
  refine ⟨Rs0, css ++ [B.turned], ⟨hT.fit, hT.snap, ?_, fun j cs hj => ?_, fun cs hcs => ?_⟩, ?_, by simp only [List.length_append, List.length_cons, List.length_nil]; omega⟩
  · rw [List.map_append, ← hT.txs]; rfl
  · rcases Nat.lt_or_ge j css.length with hlt | hge
    · rw [List.getElem?_append_left hlt] at hj
      rw [List.take_append_of_le_length (by omega)]
      exact hT.can j cs hj
    · have hlt := (List.getElem?_eq_some_iff.1 hj).1
      simp only [List.length_append, List.length_cons, List.length_nil] at hlt
      obtain rfl : j = css.length := by omega
      rw [List.getElem?_append_right (Nat.le_refl _), Nat.sub_self] at hj
      cases hj
      rw [List.take_append_of_le_length (Nat.le_refl _), List.take_length, ← hk]
      exact hB.can
  · rcases List.mem_append.1 hcs with hcs | hcs
    · exact hT.ok cs hcs
    · rw [List.mem_singleton.1 hcs]
      exact ⟨hB.ok, by have := hB.few; omega⟩
  · rw [List.foldl_append, ← hk, hB.meant]
    rfl
theorem stB_small {Rs : List (List Rw)} (h : ∀ R ∈ Rs, ROk R) (hn : Rs.length ≤ 8) : Small (stB Rs) := ⟨stB_bytes Rs, by
  have := stB_le h hn Rs.length
  rw [List.take_length] at this
  omega⟩
end
section
attribute [local irreducible] J JL JE JM LS Y Fc RV Code.wp wpList Code.wpIn wpListIn
attribute [local irreducible] Yc ltS
variable (E : World)
/-- What a commit leaves. -/
structure Comm (S : Sb) (D : Dk) (L : Lg) (B : Bs) (m : Nat) (a : Option Nat) (La : Lg) (Sa : Sb) (X : Dk) (e : Int) : Prop where
  few : X.pending.length ≤ 1000
  len : X.safe.length = D.safe.length
  out : (e = 0 ∧ Sa.turn.toNat ≤ S.turn.toNat + 1 ∧ ∃ D' a', X = D'.armO a' ∧ LH Sa D' La ∧ D'.safe.length = D.safe.length ∧ Ties B.shs B.meant La (m + 1) ∧ (a = none → a' = none) ∧ ∀ k, a' = some k → k ≤ 1000000) ∨
    (e = 3 ∧ La = L ∧ Sa = S ∧ X = D.armO a) ∨
    (e = 7 ∧ a ≠ none ∧ X.dead = true ∧ ∀ keep, ∃ S2 L2, LH S2 (X.crash keep) L2 ∧ (Ties B.shs B.kept L2 m ∨ Ties B.shs B.meant L2 (m + 1)) ∧ S2.turn.toNat ≤ S.turn.toNat + 1)
theorem Kept2.comm {S : Sb} {D : Dk} {L A La : Lg} {a : Option Nat} {Sa : Sb} {X : Dk} {e : Int} {B : Bs} {m : Nat} (h : Kept2 S D L A a La Sa X e) (h1 : Ties B.shs B.kept L m) (h2 : Ties B.shs B.meant A (m + 1)) : Comm S D L B m a La Sa X e ∧ e ≠ 6 := by
  refine ⟨⟨h.few, h.len, ?_⟩, ?_⟩
  · rcases h.out with ⟨rfl, rfl, ht, D', a', hX, hL, hl, hn, hk⟩ | ⟨he, hne, hLa, hSa, hkp⟩
    · exact .inl ⟨rfl, ht, D', a', hX, hL, hl, h2, hn, hk⟩
    · refine .inr (.inr ⟨he, hne, h.dead he, fun keep => ?_⟩)
      obtain ⟨S2, L2, hl2, hor, ht2⟩ := hkp keep
      rcases hor with rfl | rfl
      · exact ⟨S2, L2, hl2, .inl h1, ht2⟩
      · exact ⟨S2, L2, hl2, .inr h2, ht2⟩
  · rcases h.out with ⟨rfl, _⟩ | ⟨rfl, _⟩ <;> decide
end
end Go.Proofs.YtaopifoidbdniaaGreat
/- The law of layer 13: two shapes, rows that are put. -/
namespace Go.Proofs.YtaopifoidbdniaaGreat
open Go Go.SL
section
def shs13 : List Shp := [⟨6, 8, 200⟩, ⟨3, 4, 16⟩]
theorem shs13_ok : ∀ h ∈ shs13, ShOk h := fun h hh => by
  simp only [shs13, List.mem_cons, List.not_mem_nil, or_false] at hh
  rcases hh with rfl | rfl
  · exact ⟨⟨by decide, by decide⟩, ⟨by decide, by decide⟩, ⟨by decide, by decide⟩⟩
  · exact ⟨⟨by decide, by decide⟩, ⟨by decide, by decide⟩, ⟨by decide, by decide⟩⟩
theorem shs13_rows : ∀ h ∈ shs13, h.rows ≤ 12 := fun h hh => by
  simp only [shs13, List.mem_cons, List.not_mem_nil, or_false] at hh
  rcases hh with rfl | rfl <;> decide
/-- Rows that are handed over. -/
structure Rws where
  kp : Option Addr
  kc : Nat
  ks : List ByteArray
  vp : Option Addr
  vc : Nat
  vs : List ByteArray
def rwsC (x : Rws) : List Value := [.slice x.kp x.ks.length x.kc, .slice x.vp x.vs.length x.vc]
structure Rws.Ok (x : Rws) (l : List HProp) : Prop where
  kin : InL l x.kp x.ks.length x.kc (x.ks.map Value.string)
  vin : InL l x.vp x.vs.length x.vc (x.vs.map Value.string)
  ksm : ∀ k ∈ x.ks, k.size ≤ 9000000
  vsm : ∀ v ∈ x.vs, v.size ≤ 9000000
  kl : x.ks.length ≤ 9000000
  vl : x.vs.length ≤ 9000000
def putStep (B : Bs) (i : Nat) (k v : ByteArray) : Bs := match B.shs[i]?, B.meant[i]? with
  | some s, some R => if putE s R k v = 0 then B.put i R k v else B
  | _, _ => B
def putsB (B : Bs) (ks vs : List ByteArray) : Nat → Bs
  | 0 => B
  | j + 1 => putStep (putsB B ks vs j) (j % 2) (ks.getD j ⟨#[]⟩) (vs.getD j ⟨#[]⟩)
theorem putStep_kept (B : Bs) (i : Nat) (k v : ByteArray) : (putStep B i k v).shs = B.shs ∧ (putStep B i k v).kept = B.kept := by
  unfold putStep
  split
  · split
    · exact ⟨rfl, rfl⟩
    · exact ⟨rfl, rfl⟩
  · exact ⟨rfl, rfl⟩
theorem putsB_kept (B : Bs) (ks vs : List ByteArray) : ∀ j, (putsB B ks vs j).shs = B.shs ∧ (putsB B ks vs j).kept = B.kept
  | 0 => ⟨rfl, rfl⟩
  | j + 1 => by
    rw [putsB]
    obtain ⟨h1, h2⟩ := putsB_kept B ks vs j
    obtain ⟨h3, h4⟩ := putStep_kept (putsB B ks vs j) (j % 2) (ks.getD j ⟨#[]⟩) (vs.getD j ⟨#[]⟩)
    exact ⟨h3.trans h1, h4.trans h2⟩
theorem putStep_ok {B : Bs} {n : Nat} (h : BOk B n) (i : Nat) (k v : ByteArray) : BOk (putStep B i k v) (n + 1) := by
  unfold putStep
  split
  · next s R hs hR =>
    split
    · next he => exact h.put hs hR he
    · exact h.mono (Nat.le_succ _)
  · exact h.mono (Nat.le_succ _)
theorem putsB_ok {B : Bs} {n : Nat} (h : BOk B n) (ks vs : List ByteArray) : ∀ j, BOk (putsB B ks vs j) (n + j)
  | 0 => h
  | j + 1 => putStep_ok (putsB_ok h ks vs j) _ _ _
def Rws.n (x : Rws) : Nat := min (min x.ks.length x.vs.length) 20
/-- A base behind rows that are put. -/
def Rws.on (x : Rws) (B : Bs) : Bs := putsB B x.ks x.vs x.n
theorem Rws.on_ok {B : Bs} {n : Nat} (x : Rws) (h : BOk B n) : BOk (x.on B) (n + 20) := (putsB_ok h _ _ _).mono (by unfold Rws.n; omega)
end
section
attribute [local irreducible] J JL JE JM LS Y Fc RV Code.wp wpList Code.wpIn wpListIn
attribute [local irreducible] Yc ltS
variable (E : World)
theorem shapes13_spec (l : List HProp) : Fc prog E 14 [].toArray l (fun v l' => ∃ g, v = .slice (some ⟨g, 0, none⟩) 2 2 ∧ l' = row g 71 (shs13.flatMap shC) :: l) := by
  refine Fc.post ?_
  refine Jx (c := ?codeC) Tryz.func14 ?hb Tryz.ntmps14 ?hl ?_
  case hb => exact rfl
  case hl => exact rfl
  refine Jh ?_
  refine Jc ?_
  refine Jb (Jf rfl) U U U ?_
  refine Jg ?_
  refine Ja ?_
  refine Jh ?_
  refine Jc ?_
  refine Jb (y_build (cs := [_, _, _]) hT U U U U U U ⟨⟨zln, Nat.le_of_ble_eq_true rfl⟩, ⟨⟨zln, Nat.le_of_ble_eq_true rfl⟩, ⟨⟨zln, Nat.le_of_ble_eq_true rfl⟩, trivial⟩⟩⟩ rfl) U U U ?_
  refine Jb (y_build (cs := [_, _, _]) hT U U U U U U ⟨⟨zln, Nat.le_of_ble_eq_true rfl⟩, ⟨⟨zln, Nat.le_of_ble_eq_true rfl⟩, ⟨⟨zln, Nat.le_of_ble_eq_true rfl⟩, trivial⟩⟩⟩ rfl) U U U ?_
  refine Jk rfl (l_buildSliceP (cs := shs13.flatMap shC) hT U U U U U U U (fill_two (cs := shC ⟨6, 8, 200⟩) (ds := shC ⟨3, 4, 16⟩) U U U U) rfl (fun b => ?_))
  refine Jb (Jf rfl) U U U ?_
  refine Jg ?_
  refine Ja ?_
  refine Vn ?_
  refine Vg (.inl rfl) U U zrv ?_
  exact ⟨_, fun w s => s, b, rfl, rfl⟩
theorem put13_spec (b lg : Nat) (B : Bs) (x : Rws) (n : Nat) (hB : BOk B n) (hn : n ≤ 1000) (h2 : B.shs.length = 2) (l : List HProp) (hx : x.Ok l) :
    Fc prog E 15 [.agg (rwsC x).toArray, .pointer (some ⟨b, 0, none⟩)].toArray (baseM b lg B :: l) (fun v l' => v = .tuple #[] ∧ l' = baseM b lg (x.on B) :: l) := by
  refine Fc.eqs ?_
  obtain ⟨mm, hmm⟩ : ∃ mm, min (min x.ks.length x.vs.length) 20 = mm := ⟨_, rfl⟩
  have hon : x.on B = putsB B x.ks x.vs mm := by rw [← hmm]; rfl
  rw [hon]
  have hkl := hx.kl
  have hvl := hx.vl
  refine Jx (c := ?codeC) Tryz.func15 ?hb Tryz.ntmps15 ?hl ?_
  case hb => exact rfl
  case hl => exact rfl
  refine Jh ?_
  refine Jc ?_
  refine Jk rfl (l_box (cs := rwsC x) U U U (fun b2 => ?_))
  refine Jg ?_
  refine Ja ?_
  refine Jh ?_
  refine Jc ?_
  refine Jb (Jl hT U U U U U U) U U U ?_
  refine Jb (Jn hT U U U zrd) U U U ?_
  refine Jb (Vf hT U U U) U U U (Jb (Jl hT U U U U U U) U U U ?_)
  refine Jb (Jn hT U U U zrd) U U U ?_
  refine Jb (Vf hT U U U) U U U ?_
  refine Jb (y_min3 (m := (mm : Int)) U U U (by omega)) U U U ?_
  refine Jb (Je rfl) U U U ?_
  refine Jg ?_
  refine Ja ?_
  refine Vh ?_
  refine J.loop (α := Nat) (fun j => j ≤ mm) (fun j => [(1, .pointer (some ⟨b, 0, none⟩)), (2, .pointer (some ⟨b2, 0, none⟩)), (11, .int .i64 mm), (12, .int .i64 j)]) (fun j => baseM b lg (putsB B x.ks x.vs j) :: row b2 24 (rwsC x) :: l) (fun j => mm - j) 0 (Nat.zero_le _) ⟨U, U, U, U, trivial⟩ (fun w h => h.sup zsup) ?_
  intro j hj
  refine Jh ?_
  refine Jc ?_
  refine Jb (y_lss U U) U U U ?_
  refine Jg ?_
  refine Ja ?_
  refine Jh ?_
  first | apply Va rfl | apply Vv rfl
  case' ht =>
    intro h
    try (first | (exfalso; omega) | (cases h; done) | (exfalso; simp at h; done) | subst h)
    all_goals
      refine Vd ?_
  case' hf =>
    intro h
    try (first | (exfalso; omega) | (cases h; done) | (exfalso; simp at h; done) | subst h)
    all_goals
      refine J.exit ?_
      refine Jy ?_
      refine Jy ?_
      refine Vr ?_
      refine JE.ret0 (.inr rfl) U U  ?_
      obtain rfl : j = mm := by omega
      exact ⟨rfl, fun w q => q.sup zsup⟩
  all_goals refine Ja ?_
  all_goals
    refine Jh ?_
    refine Vh ?_
    refine Jh ?_
    refine Jc ?_
    refine Jb (Je rfl) U U U (Jb (Jf rfl) U U U ?_)
    refine Jg ?_
    refine Ja ?_
    have hlt : j < mm := by omega
    obtain ⟨gk, ok, hkp, hrk⟩ := hx.kin.addr (by omega)
    obtain ⟨gv, ov, hvp, hrv⟩ := hx.vin.addr (by omega)
    have hrk0 : RdN l gk ok (x.ks.map Value.string) := hrk []
    have hrv0 : RdN l gv ov (x.vs.map Value.string) := hrv []
    obtain ⟨k, hk⟩ : ∃ k, x.ks[j]? = some k := ⟨_, List.getElem?_eq_getElem (by omega)⟩
    obtain ⟨v, hv⟩ : ∃ v, x.vs[j]? = some v := ⟨_, List.getElem?_eq_getElem (by omega)⟩
    have hk2 : (x.ks.map Value.string)[j]? = some (.string k) := by rw [List.getElem?_map, hk]; rfl
    have hv2 : (x.vs.map Value.string)[j]? = some (.string v) := by rw [List.getElem?_map, hv]; rfl
    have hks := hx.ksm k (List.mem_of_getElem? hk)
    have hvs := hx.vsm v (List.mem_of_getElem? hv)
    have hQ := putsB_ok hB x.ks x.vs j
    have hsl := (putsB_kept B x.ks x.vs j).1
    obtain ⟨C, hC⟩ : ∃ C, putsB B x.ks x.vs j = C := ⟨_, rfl⟩
    have hnext : putsB B x.ks x.vs (j + 1) = putStep C (j % 2) k v := by rw [putsB, hC, List.getD_eq_getElem?_getD, List.getD_eq_getElem?_getD, hk, hv]; rfl
    rw [hC] at hQ hsl ⊢
    have hC2 : C.shs.length = 2 := by rw [hsl]; exact h2
    have hm2 : j % 2 < C.shs.length := by rw [hC2]; omega
    have hml : j % 2 < C.meant.length := by rw [hQ.mfit.len]; exact hm2
    obtain ⟨s, hs⟩ : ∃ s, C.shs[j % 2]? = some s := ⟨_, List.getElem?_eq_getElem hm2⟩
    obtain ⟨R, hR⟩ : ∃ R, C.meant[j % 2]? = some R := ⟨_, List.getElem?_eq_getElem hml⟩
    have hstep : putStep C (j % 2) k v = if putE s R k v = 0 then C.put (j % 2) R k v else C := by rw [putStep, hs, hR]
    have hfew := hQ.few
    have hsrt := (hQ.mfit.fit _ s R hs hR).srt
    have e19 : ∀ m, Rd1 (m ++ (row b2 24 (rwsC x) :: l)) b2 0 (.slice (some ⟨gk, ok, none⟩) x.ks.length x.kc) := fun m => by
      rw [← hkp]
      exact Rd1.row (cs := rwsC x) (Vx m Jm) rfl
    have e24 : ∀ m, Rd1 (m ++ (row b2 24 (rwsC x) :: l)) b2 1 (.slice (some ⟨gv, ov, none⟩) x.vs.length x.vc) := fun m => by
      rw [← hvp]
      exact Rd1.row (cs := rwsC x) (Vx m Jm) rfl
    refine J.draw _ _ [(0, .q), (1, .q), (2, .q), (3, .q), (4, .q), (5, .q), (6, .q), (7, .q), (8, .q), (9, .q), (10, .q), (11, .q), (12, .q), (13, .l), (14, .l)] mixed (by kernel_rfl) (Ji (Jm) (Jj)) ?_
    refine Jd U U U U (fun m => Je rfl) ?_
    refine Jd U U U U (fun m => Je rfl) ?_
    refine Jd U U U U (fun m => y_rem (m := ((j % 2 : Nat) : Int)) U U (by decide) rfl) ?_
    refine Jd U U U U (fun m => Jl hT U U U U U U) ?_
    refine Jd U U U U (fun m => Jn hT U U U (e19 m)) ?_
    refine Jd U U U U (fun m => Je rfl) ?_
    refine Jd U U U U (fun m => Jz hT U U U U U zix zix) ?_
    refine Jd U U U U (fun m => Jn hT U U U (Rd1.elem zri hk2)) ?_
    refine Jd U U U U (fun m => Jl hT U U U U U U) ?_
    refine Jd U U U U (fun m => Jn hT U U U (e24 m)) ?_
    refine Jd U U U U (fun m => Je rfl) ?_
    refine Jd U U U U (fun m => Jz hT U U U U U zix zix) ?_
    refine Jd U U U U (fun m => Jn hT U U U (Rd1.elem zri hv2)) ?_
    refine Vw U U (fun fr => l_convStr (s := v) hT U U U U U U U (by omega) rfl (fun g c K hK => ⟨[_, _], (by (repeat (first | exact Jj | exact Vk | refine Ji Jm ?_))), ?_⟩))
    refine Vw U U (fun fr => Ju e32 U U (Vz (Ji (A := baseM b lg C) zpk Jj) (put_spec E b lg C (j % 2) s R k v _ c (by omega) hm2 hs hR hsrt hks hvs (by omega) _ (hK.kept zpk))) ?_)
    rintro _ _ ⟨rfl, rfl⟩
    refine ⟨[_, _], (by (repeat (first | exact Jj | exact Vk | refine Ji Jm ?_))), ?_⟩
    refine JM.nil ?_
    refine Jw ?_
    refine Ja ?_
    refine Jc ?_
    refine Jb (y_add U U zwr) U U U ?_
    refine Jb (Je rfl) U U U ?_
    refine Jg ?_
  all_goals
    refine Vy (s := j) (j + 1) (by omega) ⟨U, U, U, U, trivial⟩ (fun w q => ?_) (by omega)
    rw [hnext, hstep]
    exact q.sup zsup
end
end Go.Proofs.YtaopifoidbdniaaGreat
/- Bytes tell tables apart. -/
namespace Go.Proofs.YtaopifoidbdniaaGreat
open Go Go.SL
theorem num2_inj {x y : Nat} (hx : x < 65536) (hy : y < 65536) (h : num2 x = num2 y) : x = y := by
  have h1 := leG_num2 hx
  rw [h, leG_num2 hy] at h1
  have h2 := congrArg BitVec.toNat h1
  rw [BitVec.toNat_ofNat, BitVec.toNat_ofNat] at h2
  omega
theorem bytesS_inj {s t : ByteArray} (h : bytesS s = bytesS t) : s = t := by rw [← strOf_bytesS s, ← strOf_bytesS t, h]
theorem txtB_inj {s t : ByteArray} {X Y : List Int} (hs : s.size < 65536) (ht : t.size < 65536) (h : txtB s ++ X = txtB t ++ Y) : s = t ∧ X = Y := by
  rw [txtB, txtB, List.append_assoc, List.append_assoc] at h
  obtain ⟨h1, h2⟩ := List.append_inj h (by rw [num2_length, num2_length])
  have h3 := num2_inj hs ht h1
  obtain ⟨h4, h5⟩ := List.append_inj h2 (by rw [bytesS_length, bytesS_length, h3])
  exact ⟨bytesS_inj h4, h5⟩
theorem rowsB_inj : ∀ {R R' : List Rw} {X Y : List Int}, (∀ p ∈ R, p.1.size ≤ 64 ∧ p.2.size ≤ 1024) → (∀ p ∈ R', p.1.size ≤ 64 ∧ p.2.size ≤ 1024) → R.length = R'.length → R.flatMap rowB ++ X = R'.flatMap rowB ++ Y → R = R' ∧ X = Y
  | [], [], _, _, _, _, _, h => ⟨rfl, h⟩
  | [], _ :: _, _, _, _, _, hl, _ => by cases hl
  | _ :: _, [], _, _, _, _, hl, _ => by cases hl
  | p :: R, q :: R', X, Y, h1, h2, hl, h => by
    have a1 := h1 p (List.mem_cons_self ..)
    have a2 := h2 q (List.mem_cons_self ..)
    rw [List.flatMap_cons, List.flatMap_cons, rowB, rowB, List.append_assoc, List.append_assoc, List.append_assoc, List.append_assoc] at h
    obtain ⟨e1, h⟩ := txtB_inj (by omega) (by omega) h
    obtain ⟨e2, h⟩ := txtB_inj (by omega) (by omega) h
    obtain ⟨e3, e4⟩ := rowsB_inj (fun p hp => h1 p (List.mem_cons_of_mem _ hp)) (fun p hp => h2 p (List.mem_cons_of_mem _ hp)) (by simpa using hl) h
    exact ⟨by rw [e3, show p = q from Prod.ext e1 e2], e4⟩
theorem stB_inj : ∀ {Rs Rs' : List (List Rw)}, (∀ R ∈ Rs, ROk R) → (∀ R ∈ Rs', ROk R) → Rs.length = Rs'.length → stB Rs = stB Rs' → Rs = Rs'
  | [], [], _, _, _, _ => rfl
  | [], _ :: _, _, _, hl, _ => by cases hl
  | _ :: _, [], _, _, hl, _ => by cases hl
  | R :: Rs, R' :: Rs', h1, h2, hl, h => by
    have a1 := h1 R (List.mem_cons_self ..)
    have a2 := h2 R' (List.mem_cons_self ..)
    have b1 := a1.few
    have b2 := a2.few
    rw [stB, stB, List.flatMap_cons, List.flatMap_cons, tabB, tabB, List.append_assoc, List.append_assoc] at h
    obtain ⟨e1, h⟩ := List.append_inj h (by rw [num2_length, num2_length])
    have e1 := num2_inj (by omega) (by omega) e1
    obtain ⟨e2, h⟩ := rowsB_inj a1.small a2.small e1 h
    rw [e2, stB_inj (fun R hR => h1 R (List.mem_cons_of_mem _ hR)) (fun R hR => h2 R (List.mem_cons_of_mem _ hR)) (by simpa using hl) h]
theorem srt_sub : ∀ {Q R : List Rw}, Srt Q → Srt R → (∀ p ∈ Q, p ∈ R) → Q.Sublist R
  | [], R, _, _, _ => List.nil_sublist R
  | x :: Q, [], _, _, h => by cases h x (List.mem_cons_self ..)
  | x :: Q, y :: R, hQ, hR, h => by
    have hq := List.pairwise_cons.1 hQ
    have hr := List.pairwise_cons.1 hR
    by_cases e : x = y
    · subst e
      refine List.Sublist.cons_cons _ (srt_sub hq.2 hr.2 fun p hp => ?_)
      rcases List.mem_cons.1 (h p (List.mem_cons_of_mem _ hp)) with rfl | q
      · exact absurd (hq.1 _ hp) (by rw [ltS_irr]; simp)
      · exact q
    · have hx : x ∈ R := by
        rcases List.mem_cons.1 (h x (List.mem_cons_self ..)) with q | q
        · exact absurd q e
        · exact q
      have hyx := hr.1 x hx
      refine List.Sublist.cons _ (srt_sub hQ hr.2 fun p hp => ?_)
      rcases List.mem_cons.1 (h p hp) with rfl | q
      · rcases List.mem_cons.1 hp with rfl | hp
        · exact absurd rfl e
        · exact absurd (swo_ltS.trans _ _ _ hyx (hq.1 _ hp)) (by rw [ltS_irr]; simp)
      · exact q
/-- The first rows of a table are those of another one. -/
def sameN (Q R : List Rw) (j : Nat) : Bool := (Q.take j).all fun p => decide (rget R p.1 = some p.2)
theorem sameN_next {Q R : List Rw} {j : Nat} {k v : ByteArray} (h : Q[j]? = some (k, v)) : sameN Q R (j + 1) = (sameN Q R j && decide (rget R k = some v)) := by
  rw [sameN, sameN, List.take_add_one, h, List.all_append]
  simp
theorem sameN_all {Q R : List Rw} (hQ : Srt Q) (hR : Srt R) : (decide ((Q.length : Int) = R.length) && sameN Q R Q.length) = decide (Q = R) := by
  rw [Bool.eq_iff_iff]
  simp only [Bool.and_eq_true, decide_eq_true_eq, sameN, List.take_length, List.all_eq_true]
  constructor
  · rintro ⟨h1, h2⟩
    exact (srt_sub hQ hR fun p hp => (rget_mem hR.nodup).1 (h2 p hp)).eq_of_length (by omega)
  · rintro rfl
    exact ⟨rfl, fun p hp => (rget_mem hR.nodup).2 hp⟩
end Go.Proofs.YtaopifoidbdniaaGreat
/- The laws of layer 13: a base on a new log, its bytes, its commits. -/
namespace Go.Proofs.YtaopifoidbdniaaGreat
open Go Go.SL
section
attribute [local irreducible] J JL JE JM LS Y Fc RV Code.wp wpList Code.wpIn wpListIn
attribute [local irreducible] Yc ltS
variable (E : World)
theorem topen_ties (lg st n : Nat) (L : Lg) (shs : List Shp) (kept : List (List Rw)) (m : Nat) (sp : Option Addr) (sc : Nat) (hT1 : Ties shs kept L m) (hm : m ≤ 512) (hn : shs.length = n) (h0 : 0 < n) (hn8 : n ≤ 8) (hsh : ∀ h ∈ shs, ShOk h) (l : List HProp) (hin : InL l sp n sc (shs.flatMap shC)) :
    Fc prog E 13 [.pointer (some ⟨lg, 0, none⟩), .slice sp n sc].toArray (logm lg st L :: l)
      (fun v l' => ∃ b, v = .tuple #[.pointer (some ⟨b, 0, none⟩), .int .i64 0] ∧ l' = baseM b lg ⟨shs, kept, kept, []⟩ :: logm lg st L :: l) := by
  obtain ⟨Rs0, css, hTl, rfl, hc⟩ := hT1
  exact topen_good E lg st n L shs Rs0 css sp sc hn h0 hn8 hsh hTl (by omega) l hin
theorem state13 {K n : Nat} (hS : SortOk E K) (b lg : Nat) (B : Bs) (hB : BOk B n) (hK : ∀ h ∈ B.shs, h.rows ≤ K) (T : List Int) (hT2 : stB B.meant = T) (l : List HProp) :
    Fc prog E 20 [.pointer (some ⟨b, 0, none⟩)].toArray (baseM b lg B :: l) (fun v l' => ∃ a c, v = .slice a T.length c ∧ l' = own 5 1 (.slice a T.length c) T.length (ints .u8 T) :: baseM b lg B :: l) := by
  subst hT2
  exact (state_spec E hS b lg B hB.n8 (hB.mfit.rok hB.sh) (hB.mfit.few hK) l).mono fun v l' ⟨a, c, h1, h2⟩ => ⟨a, c, h1, by rw [h2, h1]⟩
theorem BOk.small {B : Bs} {n : Nat} (hB : BOk B n) : Small (stB B.meant) := stB_small (hB.mfit.rok hB.sh) (by rw [hB.mfit.len]; exact hB.n8)
end
section
open Go.ChangeShapes Go.WideShapes Go.ChangeAt Go.RowKit
set_option maxRecDepth 100000 in
theorem tr_strs13 {H : Type} {enc : TypeId × Value → H} {w : World} {ok : DataW H → Prop} {L : Nat → Prop} {v : Value} (her : Her ok L) (h : Tr enc prog ok w 22 [v]) : ∃ (p : Option Addr) (cap : Nat) (ss : List ByteArray), v = .slice p ss.length cap ∧ L ss.length ∧ (∀ s ∈ ss, L s.size) ∧ InW w p ss.length cap (ss.map Value.string) := by
  obtain ⟨p, cap, xs, h1, hL, hk, h2⟩ := Tr.slice (encA := fun s => [Value.string s]) (okA := fun s : ByteArray => L s.size) (k := 1) her u22 (by kernel_rfl) (by decide) (fun _ _ => rfl) (fun cs hc => by
    obtain ⟨s, hs, _, hl⟩ := Tr.string her u9 hc
    exact ⟨s, hs, hl⟩) h
  have e := flatMap_one Value.string xs
  exact ⟨p, cap, xs, h1, hL, hk, e ▸ h2⟩
set_option maxRecDepth 100000 in
theorem tr_rws {H : Type} {enc : TypeId × Value → H} {w : World} {ok : DataW H → Prop} {cs : List Value} (her : Her ok (fun n => n ≤ 1048576)) (h : Tr enc prog ok w 24 cs) : ∃ x : Rws, cs = rwsC x ∧ x.Ok [old w] := by
  obtain ⟨hl, hf⟩ := Tr.struct her u24 h
  rw [show prog.cellsOf 24 = 2 by kernel_rfl] at hl
  match cs, hl with
  | [a, b], _ =>
    have h0 := hf 0 _ rfl
    have h1 := hf 1 _ rfl
    dsimp only at h0 h1
    rw [show prog.cellsOf 22 = 1 by kernel_rfl] at h0 h1
    obtain ⟨kp, kc, ks, e0, k1, k2, k3⟩ := tr_strs13 her h0
    obtain ⟨vp, vc, vs, e1, v1, v2, v3⟩ := tr_strs13 her h1
    cases e0
    cases e1
    exact ⟨⟨kp, kc, ks, vp, vc, vs⟩, rfl, ⟨k3.inl [], v3.inl [], fun k hk => by have := k2 k hk; omega, fun v hv => by have := v2 v hv; omega, by dsimp only; omega, by dsimp only; omega⟩⟩
end
end Go.Proofs.YtaopifoidbdniaaGreat
