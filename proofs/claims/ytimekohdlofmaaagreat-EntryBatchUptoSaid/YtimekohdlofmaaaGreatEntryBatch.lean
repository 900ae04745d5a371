
/-
  hollowtreelaw22.EntryBatch returns true for every input of small bulk, and leaves its input as it was. Condition: the arguments hold together at most 1048576 values.
-/
import Derived.Test.YtimekohdlofmaaaGreatJoin2
import Derived.Test.YtimekohdlofmaaaGreatJoin12
namespace Go.Proofs.YtimekohdlofmaaaGreat
open Go Go.SL
section
attribute [local irreducible] J JL JE JM LS Y Fc RV Code.wp wpList Code.wpIn wpListIn
attribute [local irreducible] Yc
variable (E : World)
abbrev mapP (b : Nat) (m : List ((Int × Int) × Value)) : HProp := mapA (fun q : Int × Int => .agg (pairV q).toArray) (fun _ => True) b m
theorem es_first {M : Nat} (s : ES) (h : s.Ok M 0) (hM : 64 ≤ M) (h0 : s.last = 0#64) (hp : s.ph = 0) (d : Nat) (p : Option Addr) (c : Nat) (l : List HProp) (hin : InL l p 2 c ((keysL 2).flatMap (ints .u8))) :
    Fc prog E 13 [.pointer (some ⟨s.x, 0, none⟩), .slice p 2 c].toArray (s.H d :: l) (fun v l' => ∃ g, l' = entR s.x s.lg false 1#64 1 2 (.map (some g)) :: gotM g [] :: l) := by
  have htn := h.turn
  obtain ⟨A, Sa, D', hL, hA, hSt, hDl, hc⟩ := announce_any E h.lh h.num (by rw [h0]; decide) (by omega) (by rw [h.len]; exact hM)
  rw [h0] at hc
  refine Wi (ES.open ?_)
  rw [hp, h0]
  refine (Wj (p := [entR s.x s.lg false 0#64 0 s.hops s.got, logm s.lg s.st s.L, row s.st 224 (scells s.S d), disk d s.D]) (Ji zpk (Ji zpk (Ji zpk (Ji zpk Jl)))) (hc s.x s.lg s.st d s.hops s.got p c 2 (keysL 2) (s.gotP :: l) (keysL_length 2) (by omega) (by omega) keyB_mem (hin.cons _))).mono fun v l' ⟨a, c', g, h1, h2⟩ => ?_
  refine ⟨entR s.x s.lg false 1#64 1 2 (.map (some g)) :: gotM g [] :: l, fun w q => ?_, g, rfl⟩
  subst h2
  have q1 : Sat E (stars (blk g (.map #[] 0) :: entR s.x s.lg false (0#64 + 1#64) 1 2 (.map (some g)) :: l)) w := q.sup zsup
  exact (gotM_new q1).pick (Jx Jp)
theorem col_new (x lg g : Nat) (G : List (Int × List Int)) (t : Trip) (h : TripOk t) (hn : ¬ ∃ p ∈ G, p.1 = (plc t).1) (p : Option Addr) (c : Nat) (l : List HProp) (hin : InL l p 253 c (ints .u8 (pktT t))) :
    Fc prog E 20 [.pointer (some ⟨x, 0, none⟩), .slice p 253 c].toArray (entR x lg false 1#64 1 2 (.map (some g)) :: gotM g G :: l) (fun v l' => v = .int .i64 0 ∧ l' = entR x lg false 1#64 1 2 (.map (some g)) :: gotM g (plc t :: G) :: l) :=
  (ecollect_spec E x lg g 1#64 2 G p c 253 (pktT t) l (pktT_len h) (by decide) (pktT_byt h) hin).mono fun v l' ⟨h1, h2⟩ => ⟨by rw [h1, (colG_pkt h hn).1], by rw [h2, (colG_pkt h hn).2]⟩
theorem col_old (x lg g : Nat) (G : List (Int × List Int)) (t : Trip) (h : TripOk t) (hn : ∃ p ∈ G, p.1 = (plc t).1) (p : Option Addr) (c : Nat) (l : List HProp) (hin : InL l p 253 c (ints .u8 (pktT t))) :
    Fc prog E 20 [.pointer (some ⟨x, 0, none⟩), .slice p 253 c].toArray (entR x lg false 1#64 1 2 (.map (some g)) :: gotM g G :: l) (fun v l' => v = .int .i64 5 ∧ l' = entR x lg false 1#64 1 2 (.map (some g)) :: gotM g G :: l) :=
  (ecollect_spec E x lg g 1#64 2 G p c 253 (pktT t) l (pktT_len h) (by decide) (pktT_byt h) hin).mono fun v l' ⟨h1, h2⟩ => ⟨by rw [h1, (colG_there h hn).1], by rw [h2, (colG_there h hn).2]⟩
theorem eclose2 (x lg g n : Nat) (S : List (Int × List Int)) (l : List HProp) (hn : S.length = n) (hS : Placed S) (hm : n ≤ 12) (hbig : ∀ p ∈ S, p.2.length ≤ 1000000) :
    Fc prog E 15 [.pointer (some ⟨x, 0, none⟩)].toArray (entR x lg false 1#64 1 2 (.map (some g)) :: gotM g S :: l) (fun v l' => ∃ a c vs KC, v = .tuple #[.slice a n c, .int .i64 0] ∧ TxB KC vs (S.map (·.2)) ∧ l' = own 22 1 (.slice a n c) n vs :: KC :: entR x lg false 1#64 2 2 (.map (some g)) :: gotM g S :: l) := by
  refine Wi (Fc.mono (Fc.know (R' := fun v l' => ∃ a c vs, v = .tuple #[.slice a n c, .int .i64 0] ∧ TxB (stars (owns vs (S.map (·.2)))) vs (S.map (·.2)) ∧ l' = own 22 1 (.slice a n c) n vs :: (owns vs (S.map (·.2)) ++ (entR x lg false 1#64 2 2 (.map (some g)) :: gotM g S :: l))) (eclose_spec E x lg g n 1#64 2 S l hn hS hm hbig) ?_) ?_)
  · rintro v l' w ⟨a, c, vs, h1, h2, h3⟩ q
    exact ⟨a, c, vs, h1, owns_txb (r := entR x lg false 1#64 2 2 (.map (some g)) :: gotM g S :: l) (by rw [List.length_map, h2, hn]) (by subst h3; exact q.drop), h3⟩
  · rintro v l' ⟨a, c, vs, h1, h2, h3⟩
    refine ⟨own 22 1 (.slice a n c) n vs :: stars (owns vs (S.map (·.2))) :: entR x lg false 1#64 2 2 (.map (some g)) :: gotM g S :: l, fun w q => ?_, a, c, vs, _, h1, h2, rfl⟩
    subst h3
    have q1 := Sat.rot (p := [own 22 1 (.slice a n c) n vs]) (g := owns vs (S.map (·.2))) q
    exact (Sat.fold (m := owns vs (S.map (·.2))) q1).pick (Jx Jp)
theorem efan2 (x lg g n : Nat) (S : List (Int × List Int)) (R : List (List Int)) (q : Option Addr) (c : Nat) (rv : List Value) (KR : HProp) (l : List HProp) (hn : S.length = n) (hr : R.length = n) (hS : Placed S) (hm : n ≤ 12) (hall : ∀ b ∈ R, b.length = 162) (hk : ∀ p ∈ S, 0 ≤ p.1 ∧ p.1 < 12) (hX : TxB KR rv R) :
    Fc prog E 16 [.pointer (some ⟨x, 0, none⟩), .slice q n c].toArray (entR x lg false 1#64 2 2 (.map (some g)) :: gotM g S :: own 22 1 (.slice q n c) n rv :: KR :: l)
      (fun v l' => ∃ a c' vs KV, v = .tuple #[.slice a n c', .int .i64 0] ∧ TxB KV vs R ∧ l' = own 63 4 (.slice a n c') n (downs 1#64 (S.map (·.1)) vs) :: KV :: entR x lg false 1#64 0 0 (.map none) :: own 22 1 (.slice q n c) n rv :: KR :: l) := by
  have hall2 : ∀ b ∈ R, (b.length : Int) = replyN 2 := fun b hb => by rw [hall b hb]; rfl
  refine Wi (Fc.mono (Fc.know (R' := fun v l' => ∃ a c' vs, v = .tuple #[.slice a n c', .int .i64 0] ∧ TxB (stars (owns vs R)) vs R ∧ l' = own 63 4 (.slice a n c') n (downs 1#64 (S.map (·.1)) vs) :: (owns vs R ++ (entR x lg false 1#64 0 0 (.map none) :: own 22 1 (.slice q n c) n rv :: KR :: l))) (efan_spec E x lg g n 1#64 2 S R q c rv KR l hn hr hS hm (fun b hb => by rw [hall b hb]; decide) hk hX) ?_) ?_)
  · rintro v l' w h q
    obtain ⟨_, a, c', vs, h1, h2, h3⟩ := h.resolve_right fun z => z.1 hall2
    exact ⟨a, c', vs, h1, owns_txb (r := entR x lg false 1#64 0 0 (.map none) :: own 22 1 (.slice _ n c) n rv :: KR :: l) (by rw [h2, hr]) (by subst h3; exact q.drop), h3⟩
  · rintro v l' ⟨a, c', vs, h1, h2, h3⟩
    refine ⟨own 63 4 (.slice a n c') n (downs 1#64 (S.map (·.1)) vs) :: stars (owns vs R) :: entR x lg false 1#64 0 0 (.map none) :: own 22 1 (.slice q n c) n rv :: KR :: l, fun w q => ?_, a, c', vs, _, h1, h2, rfl⟩
    subst h3
    have q1 := Sat.rot (p := [own 63 4 (.slice a n c') n (downs 1#64 (S.map (·.1)) vs)]) (g := owns vs R) q
    exact (Sat.fold (m := owns vs R) q1).pick (Jx Jp)
structure BatI (K : HProp) (vals : List Value) (U : List Trip) (i : Nat) : Prop where
  ok : ∀ t ∈ U, TripOk t
  nod : (U.map fun t => (plc t).1).Nodup
  few : U.length ≤ i
  tx : TxB K vals (U.map pktT)
theorem nodup_take {L : List (Int × List Int)} {j : Nat} {x : Int × List Int} (h : (L.map fun p : Int × List Int => p.1).Nodup) (hx : L[j]? = some x) : ¬ ∃ p ∈ L.take j, p.1 = x.1 := by
  rintro ⟨p, hp, he⟩
  obtain ⟨i, hi⟩ := List.getElem?_of_mem hp
  rw [List.getElem?_take] at hi
  split at hi
  · rename_i hij
    obtain ⟨a1, a2⟩ := List.getElem?_eq_some_iff.1 hi
    obtain ⟨b1, b2⟩ := List.getElem?_eq_some_iff.1 hx
    have := (List.pairwise_iff_getElem.1 h) i j (by rw [List.length_map]; exact a1) (by rw [List.length_map]; exact b1) hij
    rw [List.getElem_map, List.getElem_map, a2, b2] at this
    exact this he
  · cases hi
def backB (i : Nat) : Int := (((i : Int) + 1) % 256)
def backs (n : Nat) : List (List Int) := (List.range n).map fun i => List.replicate 162 (backB i)
theorem backs_len {n : Nat} : ∀ b ∈ backs n, b.length = 162 := fun b hb => by
  obtain ⟨i, _, rfl⟩ := List.mem_map.1 hb
  simp
theorem bequal_true (p q : Option Addr) (c1 c2 : Nat) (xs : List Int) (l : List HProp) (hn : xs.length = 162) (hx : Bytes xs) (hp : InL l p 162 c1 (ints .u8 xs)) (hq : InL l q 162 c2 (ints .u8 xs)) :
    Fc prog E 28 [.slice p 162 c1, .slice q 162 c2].toArray l (fun v l' => v = .bool true ∧ l' = l) := (bequal_spec E p q c1 c2 162 162 xs xs l hn hn hx hx hp hq).mono fun v l' q => ⟨q.1.trans (by rw [decide_eq_true rfl]), q.2⟩
set_option maxHeartbeats 4000000 in
theorem entry_batch (turn : Int) (p : Option Addr) (cap : Nat) (xs : List Up22) (K0 : HProp) (hin : InL [K0] p xs.length cap (xs.flatMap upV)) (hx : ∀ u ∈ xs, u.Ok [K0]) :
    Fc prog E 4 [.slice p xs.length cap, .int .i64 turn].toArray [K0] (fun v l' => v = .bool true ∧ l' = [K0]) := by
  refine Fc.eqs ?_
  have hin1 : ∀ (b : Nat) (x : Int) (l : List HProp), InL (row b 5 [.int .u8 x] :: l) (some ⟨b, 0, none⟩) 1 1 (ints .u8 [x]) := fun b x l => ⟨Nat.le_refl _, by decide, .inl ⟨b, 0, rfl, fun mm => RdN.rowAll (Vn mm Jp)⟩⟩
  have hone : ∀ x ∈ xs, (upV x).length = 4 := fun x _ => rfl
  obtain ⟨m0, hm0⟩ : ∃ m, min xs.length 40 = m := ⟨_, rfl⟩
  refine Jt (c := ?codeC) Tryz.func4 ?hb Tryz.ntmps4 ?hl ?_
  case hb => exact rfl
  case hl => exact rfl
  refine Jh ?_
  refine Jc ?_
  refine Ja (Jd rfl) O O O ?_
  refine Jg ?_
  refine Jb ?_
  refine Jh ?_
  refine Jh ?_
  refine Jc ?_
  refine Jj rfl (Js e11 O O (wakes22_spec E _) ?_)
  rintro _ l1 ⟨rfl, e1⟩
  obtain rfl := e1.symm
  refine Ja (y_not rfl) O O O ?_
  refine Jg ?_
  refine Jb ?_
  refine Vf rfl zbl ?_
  refine Ve ?_
  refine Jb ?_
  refine Jh ?_
  refine Jc ?_
  refine Jj rfl (Js e22 O O (new_good E 64 _ (by decide) (by decide)) ?_)
  rintro _ _ ⟨d, rfl, rfl⟩
  refine Ja (Je rfl) O O O (Ja (Jy O O) O O O (Ja (Jy O O) O O O (Ja (Jd rfl) O O O (Ja (Jd rfl) O O O ?_))))
  refine Jg ?_
  refine Jb ?_
  refine Jh ?_
  refine Jc ?_
  refine Jj rfl (Js e22 O O (new_good E 64 _ (by decide) (by decide)) ?_)
  rintro _ _ ⟨f, rfl, rfl⟩
  refine Ja (Je rfl) O O O (Ja (Jy O O) O O O (Ja (Jy O O) O O O (Ja (Jd rfl) O O O (Ja (Jd rfl) O O O ?_))))
  refine Jg ?_
  refine Jb ?_
  refine Jh ?_
  refine Jc ?_
  refine Ja (Je rfl) O O O ?_
  refine Jj rfl (Js e12 O O (Wj (Ji (A := disk d (Dk.new 64)) zpk Jl) (es_new E (M := 64) (by decide) (by decide) d _)) ?_)
  rintro _ _ ⟨sx, hsx, hx1, hx2, _, _, rfl, rfl⟩
  refine Ja (Je rfl) O O O (Ja (Jy O O) O O O (Ja (Jy O O) O O O (Ja (Jd rfl) O O O (Ja (Jd rfl) O O O ?_))))
  refine Jg ?_
  refine Jb ?_
  refine Jh ?_
  refine Jc ?_
  refine Ja (Je rfl) O O O ?_
  refine Jj rfl (Js e12 O O (Wj (Ji (A := disk f (Dk.new 64)) zpk Jl) (es_new E (M := 64) (by decide) (by decide) f _)) ?_)
  rintro _ _ ⟨sy, hsy, hy1, hy2, _, _, rfl, rfl⟩
  refine Ja (Je rfl) O O O (Ja (Jy O O) O O O (Ja (Jy O O) O O O (Ja (Jd rfl) O O O (Ja (Jd rfl) O O O ?_))))
  refine Jg ?_
  refine Jb ?_
  refine Jh ?_
  refine Jh ?_
  refine Jc ?_
  refine Ja (Je rfl) O O O (Ja (Wk O O) O O O (Ja (Je rfl) O O O ?_))
  all_goals (first | (refine Vm O O O (fun h => ?_) (fun h => ?_) <;> try (first | (exfalso; omega) | exact absurd rfl h)) | (refine Vz O O O (fun h => ?_) (fun h => ?_) <;> try (first | cases h | (exfalso; simp at h; done))) | skip)
  all_goals (first | refine Ju O O O O O O ?_ | refine Jr O O O O O ?_ | refine Jw O O O (Je rfl) O O ?_)
  all_goals (first | refine Ju O O O O O O ?_ | refine Jr O O O O O ?_ | refine Jw O O O (Wk O O) O O ?_)
  all_goals (refine Ja (y_pick O O O) O O O ?_)
  all_goals refine Jg ?_
  all_goals refine Jb ?_
  all_goals
    refine Vf rfl zbl ?_
    refine Ve ?_
  all_goals refine Jb ?_
  all_goals
    refine Jh ?_
    refine Jc ?_
    refine Ja (Je rfl) O O O ?_
    refine Jj rfl (Js e14 O O (keys22_spec E 2 _ 2 rfl) ?_)
    rintro _ _ ⟨ka, kc, rfl, rfl⟩
    refine Jj rfl (Js e13 O O (Fc.fact (p := OwnAt ka 2 kc ((keysL 2).flatMap (ints .u8))) (fun w s => Vv (s.pick zpk)) fun ok => Wj (Ji (A := sx.H d) zpk Jl) (es_first E sx hsx (by decide) hx1 hx2 d ka kc _ (ok.inl (e := 73) (size := 32) zpk))) ?_)
    rintro _ _ ⟨gx, rfl⟩
    refine Jg ?_
    refine Jb ?_
    refine Jh ?_
    refine Jc ?_
    refine Ja (Je rfl) O O O ?_
    refine Jj rfl (Js e14 O O (keys22_spec E 2 _ 2 rfl) ?_)
    rintro _ _ ⟨kb, kd, rfl, rfl⟩
    refine Jj rfl (Js e13 O O (Fc.fact (p := OwnAt kb 2 kd ((keysL 2).flatMap (ints .u8))) (fun w s => Vv (s.pick zpk)) fun ok => Wj (Ji (A := sy.H f) zpk Jl) (es_first E sy hsy (by decide) hy1 hy2 f kb kd _ (ok.inl (e := 73) (size := 32) zpk))) ?_)
    rintro _ _ ⟨gy, rfl⟩
    refine Jg ?_
    refine Jb ?_
    refine Jh ?_
    refine Jc ?_
    refine Jj rfl (l_makeMap rfl (fun bm => ?_))
    refine Ja (Jd rfl) O O O ?_
    refine Jg ?_
    refine Jb ?_
    refine Jh ?_
    refine Jc ?_
    refine Ja (Jd rfl) O O O ?_
    refine Jg ?_
    refine Jb ?_
    refine Jh ?_
    refine Jh ?_
    refine Jc ?_
    refine Ja (Je rfl) O O O (Ja (Je rfl) O O O (Ja (Vh hT O O O) O O O ?_))
    refine Ja (y_min2 (m := (m0 : Int)) O O (by omega)) O O O ?_
    refine Ja (y_cutTo hT O O O O O O (show m0 ≤ xs.length by omega) hin) O O O ?_
    refine Ja (Vh hT O O O) O O O (Ja (Je rfl) O O O ?_)
    refine Jg ?_
    refine Jb ?_
    refine Vj ?_
    refine J.loop (α := Nat × List Trip × Option Addr × Nat × List Value × HProp) (fun s => s.1 ≤ m0 ∧ BatI s.2.2.2.2.2 s.2.2.2.2.1 s.2.1 s.1) (fun s => [(1, .int .i64 turn), (9, .pointer (some ⟨sx.x, 0, none⟩)), (11, .pointer (some ⟨sy.x, 0, none⟩)), (13, .map (some bm)), (14, .slice s.2.2.1 s.2.1.length s.2.2.2.1), (69, .slice p m0 cap), (70, .int .i64 m0), (71, .int .i64 s.1)]) (fun s => own 22 1 (.slice s.2.2.1 s.2.1.length s.2.2.2.1) s.2.1.length s.2.2.2.2.1 :: s.2.2.2.2.2 :: mapP bm (metL s.2.1) :: entR sx.x sx.lg false 1#64 1 2 (.map (some gx)) :: gotM gx [] :: entR sy.x sy.lg false 1#64 1 2 (.map (some gy)) :: gotM gy [] :: [K0]) (fun s => m0 - s.1) (0, [], none, 0, [], pur True) ⟨Nat.zero_le _, ⟨fun t h => (by cases h), List.Pairwise.nil, Nat.le_refl _, TxB.none _⟩⟩ ⟨O, O, O, O, O, O, O, O, trivial⟩ (fun w h => ?_) ?_
    · have h1 : Sat E (stars (blk bm (.map #[] 0) :: entR sx.x sx.lg false 1#64 1 2 (.map (some gx)) :: gotM gx [] :: entR sy.x sy.lg false 1#64 1 2 (.map (some gy)) :: gotM gy [] :: [K0])) w := h.sup zsup
      have h2 : Sat E (stars (mapP bm [] :: entR sx.x sx.lg false 1#64 1 2 (.map (some gx)) :: gotM gx [] :: entR sy.x sy.lg false 1#64 1 2 (.map (some gy)) :: gotM gy [] :: [K0])) w := h1.map_new
      exact Sat.own_nil (Sat.topur trivial h2)
    rintro ⟨i, U, qa, qc, vals, K⟩ ⟨hi, hI⟩
    dsimp only at hi hI ⊢
    obtain ⟨n, hn⟩ : ∃ n, U.length = n := ⟨_, rfl⟩
    rw [hn]
    refine Jh ?_
    refine Jc ?_
    refine Ja (y_lss O O) O O O ?_
    refine Jg ?_
    refine Jb ?_
    refine Jh ?_
    focus
      first | apply Va rfl | apply Vt rfl
      focus
        intro h
        try (first | (exfalso; omega) | (cases h; done) | (exfalso; simp at h; done) | subst h)
        all_goals
          refine Ve ?_
      rotate_right 1
      focus
        intro h
        try (first | (exfalso; omega) | (cases h; done) | (exfalso; simp at h; done) | subst h)
        all_goals
          refine J.exit ?_
          refine Vc ?_
          refine Vc ?_
          refine Vs ?_
          refine Jb ?_
          refine Jh ?_
          refine Jh ?_
          refine Jc ?_
          refine Ja (Je rfl) O O O (Ja (Vh hT O O O) O O O (Ja (Je rfl) O O O ?_))
          refine Jg ?_
          refine Jb ?_
          refine Vj ?_
          have hn40 : n ≤ 40 := by have := hI.few; omega
          obtain ⟨k, hk⟩ : ∃ k, (BitVec.ofInt 64 turn).toNat % n = k := ⟨_, rfl⟩
          obtain ⟨G, hG⟩ : ∃ G, U.map plc = G := ⟨_, rfl⟩
          obtain ⟨Gt, hGt⟩ : ∃ Gt, G.drop k ++ G.take k = Gt := ⟨_, rfl⟩
          have hGl : G.length = n := by rw [← hG, List.length_map, hn]
          have hGp : Gt.Perm G := by rw [← hGt]; exact turned_perm G k
          have hGn : (G.map fun p : Int × List Int => p.1).Nodup := by
            rw [← hG, List.map_map]
            exact hI.nod
          have hGtn : (Gt.map fun p : Int × List Int => p.1).Nodup := ((hGp.map _).nodup_iff).2 hGn
          have hnQ : ((BitVec.ofInt 64 (n : Int)).toNat : Int) = (n : Int) := by rw [BitVec.toNat_ofInt]; omega
          refine J.fact (p := OwnAt qa n qc vals) (fun w s => Vv (s.pick Jp)) fun oq => ?_
          refine J.loop (α := Nat) (fun j => j ≤ n) (fun j => [(1, .int .i64 turn), (9, .pointer (some ⟨sx.x, 0, none⟩)), (11, .pointer (some ⟨sy.x, 0, none⟩)), (14, .slice qa n qc), (113, .int .i64 n), (114, .int .i64 j)]) (fun j => own 22 1 (.slice qa n qc) n vals :: K :: entR sx.x sx.lg false 1#64 1 2 (.map (some gx)) :: gotM gx (G.take j) :: entR sy.x sy.lg false 1#64 1 2 (.map (some gy)) :: gotM gy (Gt.take j) :: [K0]) (fun j => n - j) 0 (Nat.zero_le _) ⟨O, O, O, O, O, O, trivial⟩ (fun w h => h.sup zsup) ?_
          intro j hj
          refine Jh ?_
          refine Jc ?_
          refine Ja (y_lss O O) O O O ?_
          refine Jg ?_
          refine Jb ?_
          refine Jh ?_
          focus
            first | apply Va rfl | apply Vt rfl
            focus
              intro h
              try (first | (exfalso; omega) | (cases h; done) | (exfalso; simp at h; done) | subst h)
              all_goals
                refine Ve ?_
            rotate_right 1
            focus
              intro h
              try (first | (exfalso; omega) | (cases h; done) | (exfalso; simp at h; done) | subst h)
              all_goals
                refine J.exit ?_
                refine Vc ?_
                refine Vc ?_
                refine Vs ?_
                refine Jb ?_
                refine Jh ?_
                obtain rfl : j = n := by omega
                obtain ⟨S, hS⟩ : ∃ S, inOrder G = S := ⟨_, rfl⟩
                have hSG : G.Perm S := by rw [← hS]; exact (inOrder_perm G).symm
                have hSn : S.length = j := by rw [← hSG.length_eq, hGl]
                have hSP : Placed S := by rw [← hS]; exact inOrder_placed hGn
                have hfrom : ∀ x ∈ S, ∃ t ∈ U, plc t = x := fun x hx => by
                  have := hSG.symm.subset hx
                  rw [← hG] at this
                  obtain ⟨t, h1, h2⟩ := List.mem_map.1 this
                  exact ⟨t, h1, h2⟩
                have hSk : ∀ x ∈ S, 0 ≤ x.1 ∧ x.1 < 12 := fun x hx => by
                  obtain ⟨t, h1, rfl⟩ := hfrom x hx
                  have a1 := (hI.ok t h1).client
                  have a2 := (hI.ok t h1).slot
                  unfold plc
                  dsimp only
                  omega
                have hSo : ∀ x ∈ S, x.2.length = 242 ∧ Bytes x.2 := fun x hx => by
                  obtain ⟨t, h1, rfl⟩ := hfrom x hx
                  exact ⟨(hI.ok t h1).len, (hI.ok t h1).byt⟩
                have hS12 : j ≤ 12 := by
                  have z := rise_le (S.map fun p : Int × List Int => p.1) 0 hSP (fun k hk => by
                    obtain ⟨p, hp, rfl⟩ := List.mem_map.1 hk
                    exact hSk p hp)
                  rw [List.length_map, hSn] at z
                  omega
                have hSb : ∀ b ∈ S.map (fun p : Int × List Int => p.2), Bytes b := fun b hb => by
                  obtain ⟨p, hp, rfl⟩ := List.mem_map.1 hb
                  exact (hSo p hp).2
                have hSl : (S.map (fun p : Int × List Int => p.2)).length = j := by rw [List.length_map, hSn]
                refine J.picks (A := gotM gx (G.take j)) zpk (J.pre (fun w s => gotM_perm (G' := S) (by rw [List.take_of_length_le (by omega)]; exact hSG) s) ?_)
                refine J.picks (A := gotM gy (Gt.take j)) zpk (J.pre (fun w s => gotM_perm (G' := S) (by rw [List.take_of_length_le (by rw [hGp.length_eq, hGl]; omega)]; exact hGp.trans hSG) s) ?_)
                refine Jc ?_
                refine Ja (Je rfl) O O O ?_
                refine Jj rfl (Js e15 O O (Wj (Ji (A := entR sx.x sx.lg false 1#64 1 2 (.map (some gx))) zpk (Ji (A := gotM gx S) zpk Jl)) (eclose2 E sx.x sx.lg gx j S _ hSn hSP hS12 (fun x hx => by rw [(hSo x hx).1]; decide))) ?_)
                rintro _ _ ⟨ca, cc, va, KC, rfl, hXC, rfl⟩
                refine Ja (Je rfl) O O O (Ja (Jy O O) O O O (Ja (Jy O O) O O O (Ja (Jd rfl) O O O (Ja (Jd rfl) O O O ?_))))
                refine Jg ?_
                refine Jb ?_
                refine Jh ?_
                refine Jc ?_
                refine Ja (Je rfl) O O O ?_
                refine Jj rfl (Js e15 O O (Wj (Ji (A := entR sy.x sy.lg false 1#64 1 2 (.map (some gy))) zpk (Ji (A := gotM gy S) zpk Jl)) (eclose2 E sy.x sy.lg gy j S _ hSn hSP hS12 (fun x hx => by rw [(hSo x hx).1]; decide))) ?_)
                rintro _ _ ⟨wa, wc, vw, KW, rfl, hXW, rfl⟩
                refine Ja (Je rfl) O O O (Ja (Jy O O) O O O (Ja (Jy O O) O O O (Ja (Jd rfl) O O O (Ja (Jd rfl) O O O ?_))))
                refine Jg ?_
                refine Jb ?_
                refine Jh ?_
                refine Jh ?_
                refine Jc ?_
                refine Ja (Je rfl) O O O (Ja (Wk O O) O O O (Ja (Je rfl) O O O ?_))
                all_goals (first | (refine Vm O O O (fun h => ?_) (fun h => ?_) <;> try (first | (exfalso; omega) | exact absurd rfl h)) | (refine Vz O O O (fun h => ?_) (fun h => ?_) <;> try (first | cases h | (exfalso; simp at h; done))) | skip)
                all_goals (first | refine Ju O O O O O O ?_ | refine Jr O O O O O ?_ | refine Jw O O O (Je rfl) O O ?_)
                all_goals (first | refine Ju O O O O O O ?_ | refine Jr O O O O O ?_ | refine Jw O O O (Wk O O) O O ?_)
                all_goals (refine Ja (y_pick O O O) O O O ?_)
                all_goals (refine Ja (Je rfl) O O O ?_)
                all_goals (first | (refine Vm O O O (fun h => ?_) (fun h => ?_) <;> try (first | (exfalso; omega) | exact absurd rfl h)) | (refine Vz O O O (fun h => ?_) (fun h => ?_) <;> try (first | cases h | (exfalso; simp at h; done))) | skip)
                all_goals (first | refine Ju O O O O O O ?_ | refine Jr O O O O O ?_ | refine Jw O O O (Je rfl) O O ?_)
                all_goals (first | refine Ju O O O O O O ?_ | refine Jr O O O O O ?_ | refine Jw O O O (Je rfl) O O ?_)
                all_goals (first | refine Ju O O O O O O ?_ | refine Jr O O O O O ?_ | (refine JL.gloud O O O (Js e25 O O (Fc.fact (p := OwnAt ca j cc va) (fun w s => Vv (s.pick zpk)) fun o1 => Fc.fact (p := OwnAt wa j wc vw) (fun w s => Vv (s.pick zpk)) fun o2 => same22_spec E ca wa j j cc wc va vw (S.map (·.2)) (S.map (·.2)) _ hSl hSl (by omega) (o1.inl (e := 22) (size := 1) zpk) (o2.inl (e := 22) (size := 1) zpk) hSb hSb (fun i b hb => let ⟨q, c, h1, h2⟩ := hXC.get i b hb; ⟨q, c, h1, h2.kept zpk⟩) (fun i b hb => let ⟨q, c, h1, h2⟩ := hXW.get i b hb; ⟨q, c, h1, h2.kept zpk⟩)) ?_); rintro _ _ ⟨rfl, rfl⟩))
                all_goals (first | refine Ju O O O O O O ?_ | refine Jr O O O O O ?_ | refine Jw O O O (y_not rfl) O O ?_)
                all_goals (refine Ja (y_pick O O O) O O O ?_)
                all_goals (refine Ja (Je rfl) O O O ?_)
                all_goals (first | (refine Vm O O O (fun h => ?_) (fun h => ?_) <;> try (first | (exfalso; omega) | exact absurd rfl h)) | (refine Vz O O O (fun h => ?_) (fun h => ?_) <;> try (first | cases h | (exfalso; simp at h; done))) | skip)
                all_goals (first | refine Ju O O O O O O ?_ | refine Jr O O O O O ?_ | refine Jw O O O (Je rfl) O O ?_)
                all_goals (first | refine Ju O O O O O O ?_ | refine Jr O O O O O ?_ | refine Jw O O O (Vh hT O O O) O O ?_)
                all_goals (first | refine Ju O O O O O O ?_ | refine Jr O O O O O ?_ | refine Jw O O O (Je rfl) O O ?_)
                all_goals (first | refine Ju O O O O O O ?_ | refine Jr O O O O O ?_ | refine Jw O O O (Vh hT O O O) O O ?_)
                all_goals (first | refine Ju O O O O O O ?_ | refine Jr O O O O O ?_ | refine Jw O O O (Wk O O) O O ?_)
                all_goals (refine Ja (y_pick O O O) O O O ?_)
                all_goals refine Jg ?_
                all_goals refine Jb ?_
                all_goals
                  refine Vf rfl zbl ?_
                  refine Ve ?_
                all_goals refine Jb ?_
                all_goals
                  refine Jh ?_
                  refine Jc ?_
                  refine Ja (Jd rfl) O O O ?_
                  refine Jg ?_
                  refine Jb ?_
                  refine Jh ?_
                  refine Jh ?_
                  refine Jc ?_
                  refine Ja (Je rfl) O O O (Ja (Vh hT O O O) O O O (Ja (Je rfl) O O O ?_))
                  refine Jg ?_
                  refine Jb ?_
                  refine Vj ?_
                  refine J.loop (α := Nat × Option Addr × Nat × List Value × HProp) (fun s => s.1 ≤ j ∧ TxB s.2.2.2.2 s.2.2.2.1 (backs s.1)) (fun s => [(9, .pointer (some ⟨sx.x, 0, none⟩)), (14, .slice qa j qc), (20, .slice ca j cc), (22, .slice s.2.1 s.1 s.2.2.1), (184, .int .i64 j), (185, .int .i64 s.1)]) (fun s => own 22 1 (.slice s.2.1 s.1 s.2.2.1) s.1 s.2.2.2.1 :: s.2.2.2.2 :: own 22 1 (.slice qa j qc) j vals :: K :: own 22 1 (.slice ca j cc) j va :: KC :: entR sx.x sx.lg false 1#64 2 2 (.map (some gx)) :: gotM gx S :: [K0]) (fun s => j - s.1) (0, none, 0, [], pur True) ⟨Nat.zero_le _, TxB.none _⟩ ⟨O, O, O, O, O, O, trivial⟩ (fun w s => Sat.own_nil (Sat.topur trivial (s.sup zsup))) ?_
                  rintro ⟨i3, qb, qbc, rv, KB⟩ ⟨hi3, hXB⟩
                  dsimp only at hi3 hXB ⊢
                  refine Jh ?_
                  refine Jc ?_
                  refine Ja (y_lss O O) O O O ?_
                  refine Jg ?_
                  refine Jb ?_
                  refine Jh ?_
                  focus
                    first | apply Va rfl | apply Vt rfl
                    focus
                      intro h
                      try (first | (exfalso; omega) | (cases h; done) | (exfalso; simp at h; done) | subst h)
                      all_goals
                        refine Ve ?_
                    rotate_right 1
                    focus
                      intro h
                      try (first | (exfalso; omega) | (cases h; done) | (exfalso; simp at h; done) | subst h)
                      all_goals
                        refine J.exit ?_
                        refine Vc ?_
                        refine Vc ?_
                        refine Vs ?_
                        refine Jb ?_
                        refine Jh ?_
                        obtain rfl : i3 = j := by omega
                        refine Jc ?_
                        refine Ja (Je rfl) O O O (Ja (Je rfl) O O O ?_)
                        refine Jj rfl (Js e16 O O (Wj (Ji (A := entR sx.x sx.lg false 1#64 2 2 (.map (some gx))) zpk (Ji (A := gotM gx S) zpk (Ji (A := own 22 1 (.slice qb i3 qbc) i3 rv) zpk (Ji (A := KB) zpk Jl)))) (efan2 E sx.x sx.lg gx i3 S (backs i3) qb qbc rv KB _ hSn (by simp [backs]) hSP hS12 backs_len hSk hXB)) ?_)
                        rintro _ _ ⟨da, dc, dv, KV, rfl, hXV, rfl⟩
                        refine Ja (Je rfl) O O O (Ja (Jy O O) O O O (Ja (Jy O O) O O O (Ja (Jd rfl) O O O (Ja (Jd rfl) O O O ?_))))
                        refine Jg ?_
                        refine Jb ?_
                        refine Jh ?_
                        refine Jh ?_
                        refine Jc ?_
                        refine Ja (Je rfl) O O O (Ja (Wk O O) O O O (Ja (Je rfl) O O O ?_))
                        all_goals (first | (refine Vm O O O (fun h => ?_) (fun h => ?_) <;> try (first | (exfalso; omega) | exact absurd rfl h)) | (refine Vz O O O (fun h => ?_) (fun h => ?_) <;> try (first | cases h | (exfalso; simp at h; done))) | skip)
                        all_goals (first | refine Ju O O O O O O ?_ | refine Jr O O O O O ?_ | refine Jw O O O (Je rfl) O O ?_)
                        all_goals (first | refine Ju O O O O O O ?_ | refine Jr O O O O O ?_ | refine Jw O O O (Vh hT O O O) O O ?_)
                        all_goals (first | refine Ju O O O O O O ?_ | refine Jr O O O O O ?_ | refine Jw O O O (Je rfl) O O ?_)
                        all_goals (first | refine Ju O O O O O O ?_ | refine Jr O O O O O ?_ | refine Jw O O O (Vh hT O O O) O O ?_)
                        all_goals (first | refine Ju O O O O O O ?_ | refine Jr O O O O O ?_ | refine Jw O O O (Wk O O) O O ?_)
                        all_goals (refine Ja (y_pick O O O) O O O ?_)
                        all_goals (refine Ja (Je rfl) O O O ?_)
                        all_goals (first | (refine Vm O O O (fun h => ?_) (fun h => ?_) <;> try (first | (exfalso; omega) | exact absurd rfl h)) | (refine Vz O O O (fun h => ?_) (fun h => ?_) <;> try (first | cases h | (exfalso; simp at h; done))) | skip)
                        all_goals (first | refine Ju O O O O O O ?_ | refine Jr O O O O O ?_ | refine Jw O O O (Je rfl) O O ?_)
                        all_goals (first | refine Ju O O O O O O ?_ | refine Jr O O O O O ?_ | (refine JL.gloud O O O (Js e18 O O (Wj (Ji (A := entR sx.x sx.lg false 1#64 0 0 (.map none)) zpk Jl) (ephase_spec E sx.x sx.lg false _ 0 0 (.map none) _)) ?_); rintro _ _ ⟨rfl, rfl⟩))
                        all_goals (first | refine Ju O O O O O O ?_ | refine Jr O O O O O ?_ | refine Jw O O O (Wk O O) O O ?_)
                        all_goals (refine Ja (y_pick O O O) O O O ?_)
                        all_goals refine Jg ?_
                        all_goals refine Jb ?_
                        all_goals
                          refine Vf rfl zbl ?_
                          refine Ve ?_
                        all_goals refine Jb ?_
                        all_goals
                          refine Jh ?_
                          refine Jh ?_
                          refine Jc ?_
                          refine Ja (Je rfl) O O O (Ja (Vh hT O O O) O O O (Ja (Je rfl) O O O ?_))
                          refine Jg ?_
                          refine Jb ?_
                          refine Vj ?_
                          refine J.fact (p := OwnAt da i3 dc (downs 1#64 (S.map (·.1)) dv)) (fun w s => Vv (s.pick zpk)) fun od => ?_
                          refine J.fact (p := OwnAt qb i3 qbc rv) (fun w s => Vv (s.pick zpk)) fun ob => ?_
                          refine J.fact (p := OwnAt qa i3 qc vals) (fun w s => Vv (s.pick zpk)) fun oq2 => ?_
                          refine J.fact (p := OwnAt ca i3 cc va) (fun w s => Vv (s.pick zpk)) fun oc => ?_
                          refine J.loop (α := Nat) (fun z => z ≤ i3) (fun z => [(14, .slice qa i3 qc), (20, .slice ca i3 cc), (22, .slice qb i3 qbc), (24, .slice da i3 dc), (218, .slice da i3 dc), (219, .int .i64 i3), (220, .int .i64 z)]) (fun _ => own 63 4 (.slice da i3 dc) i3 (downs 1#64 (S.map (·.1)) dv) :: KV :: own 22 1 (.slice qb i3 qbc) i3 rv :: KB :: own 22 1 (.slice qa i3 qc) i3 vals :: K :: own 22 1 (.slice ca i3 cc) i3 va :: KC :: [K0]) (fun z => i3 - z) 0 (Nat.zero_le _) ⟨O, O, O, O, O, O, O, trivial⟩ (fun w h => h.sup zsup) ?_
                          intro z hz
                          refine Jh ?_
                          refine Jc ?_
                          refine Ja (y_lss O O) O O O ?_
                          refine Jg ?_
                          refine Jb ?_
                          refine Jh ?_
                          focus
                            first | apply Va rfl | apply Vt rfl
                            focus
                              intro h
                              try (first | (exfalso; omega) | (cases h; done) | (exfalso; simp at h; done) | subst h)
                              all_goals
                                refine Ve ?_
                            rotate_right 1
                            focus
                              intro h
                              try (first | (exfalso; omega) | (cases h; done) | (exfalso; simp at h; done) | subst h)
                              all_goals
                                refine J.exit ?_
                                refine Vc ?_
                                refine Vc ?_
                                refine Vs ?_
                                refine Jb ?_
                                refine Jh ?_
                                refine Jc ?_
                                refine Ja (Jd rfl) O O O ?_
                                refine Jg ?_
                                refine Jb ?_
                                refine Vl ?_
                                refine Vk (.inl rfl) O O zrv ?_
                                exact ⟨rfl, fun w q => q.sup zsup⟩
                          all_goals refine Jb ?_
                          all_goals
                            refine Jh ?_
                            refine Vj ?_
                            refine Jh ?_
                            have hltz : z < i3 := by omega
                            obtain ⟨⟨kk, on⟩, hsz⟩ : ∃ q, S[z]? = some q := ⟨_, List.getElem?_eq_getElem (by omega)⟩
                            obtain ⟨t, htU, htp⟩ := hfrom _ (List.mem_of_getElem? hsz)
                            have hto := hI.ok t htU
                            obtain ⟨hkd, hkm⟩ := down_key (c := t.1) (s := t.2.1) hto.slot hto.client
                            have htk : t.1 * 3 + t.2.1 = kk := congrArg Prod.fst htp
                            have hton : t.2.2 = on := congrArg Prod.snd htp
                            rw [htk] at hkd hkm
                            have hsm : (S.map fun p : Int × List Int => p.2)[z]? = some on := by rw [List.getElem?_map, hsz]; rfl
                            have hon : on.length = 242 := (hSo _ (List.mem_of_getElem? hsz)).1
                            have hbk : (backs i3)[z]? = some (List.replicate 162 (backB z)) := by unfold backs; rw [List.getElem?_map, List.getElem?_range hltz]; rfl
                            obtain ⟨aq, ac1, hav, hai⟩ := hXC.get z on hsm
                            obtain ⟨dq, dc1, hdv, hdi⟩ := hXV.get z _ hbk
                            obtain ⟨bq1, bc1, hbv, hbi⟩ := hXB.get z _ hbk
                            rw [hon] at hav hai
                            rw [List.length_replicate] at hdv hdi hbv hbi
                            have hzz : ((S.map (·.1)).zip dv)[z]? = some (kk, .slice dq 162 dc1) := by
                              rw [List.getElem?_zip_eq_some]
                              exact ⟨by simp [hsz], hdv⟩
                            have hbbk : Bytes (List.replicate 162 (backB z)) := fun y hy => by rw [List.eq_of_mem_replicate hy]; unfold backB; omega
                            have cput2 : ∀ l (p : Option Addr) (cap : Nat), InL l p 242 cap (ints .u8 on) → Fc prog E 24 [.agg #[.int .i64 (kk.tdiv 3), .int .i64 (kk.tmod 3), Q 1#64, .slice p 242 cap]].toArray l (fun v l' => ∃ a c', v = .tuple #[.slice a 253 c', .int .i64 0] ∧ l' = own 5 1 (.slice a 253 c') 253 (ints .u8 (pktT t)) :: l) := fun l p cap hin => by
                              rw [hkd, hkm]
                              have e1 := hto.client
                              have e2 := hto.slot
                              refine (putup_spec E t.1 t.2.1 1#64 p cap 242 on l hon (by decide) hin).mono fun v l' q => ?_
                              rcases q with ⟨_, _, a, c', h1, h2⟩ | ⟨q, _⟩
                              · exact ⟨a, c', h1, by rw [h2]; unfold pktT; rw [hton]⟩
                              · rw [Bool.and_eq_false_iff] at q
                                rcases q with q | q
                                · unfold endsB at q
                                  rw [decide_eq_false_iff_not] at q
                                  exact absurd ⟨e1.1, e1.2, e2.1, e2.2, by decide⟩ q
                                · exact absurd q (by decide)
                            obtain ⟨gd, rfl⟩ := od.at_.resolve_right fun ⟨h0, _⟩ => by have := od.le; omega
                            obtain ⟨gb, rfl⟩ := ob.at_.resolve_right fun ⟨h0, _⟩ => by have := ob.le; omega
                            obtain ⟨gq, rfl⟩ := oq2.at_.resolve_right fun ⟨h0, _⟩ => by have := oq2.le; omega
                            obtain ⟨gc, rfl⟩ := oc.at_.resolve_right fun ⟨h0, _⟩ => by have := oc.le; omega
                            refine Jc ?_
                            refine Ja (Je rfl) O O O ?_
                            refine Ja (Vg hT O O O O O zix zix) O O O ?_
                            refine Ja (y_loadN hT O O O (vs := downE 1#64 kk (.slice dq 162 dc1)) (RdN.downs (RdN.own zpk) hzz) rfl) O O O ?_
                            refine Jj rfl (Wa hT O O zcl rfl (fun bd => ?_))
                            refine Ja (Jd rfl) O O O ?_
                            refine Jj rfl (Vp hT O O O zln zoc zpk zln ?_)
                            refine Jg ?_
                            refine Jb ?_
                            refine Jh ?_
                            refine Wl _ _ [(0, .q), (1, .q), (2, .q), (3, .q), (4, .q), (5, .q), (6, .q), (7, .q), (8, .q), (9, .q), (10, .q), (11, .l), (12, .q), (13, .q), (14, .q), (15, .q), (16, .q)] mixed (by kernel_rfl) (Jl) ?_
                            refine Jf O O O O (fun m => Jk hT O O O O O O) ?_
                            refine Jf O O O O (fun m => Jo hT O O O zrda) ?_
                            refine Jf O O O O (fun m => Jk hT O O O O O O) ?_
                            refine Jf O O O O (fun m => Jo hT O O O zrda) ?_
                            refine Jf O O O O (fun m => Jk hT O O O O O O) ?_
                            refine Jf O O O O (fun m => Jo hT O O O zrda) ?_
                            refine Jf O O O O (fun m => Je rfl) ?_
                            refine Jf O O O O (fun m => Je rfl) ?_
                            refine Jf O O O O (fun m => Vg hT O O O O O zix zix) ?_
                            refine Jf O O O O (fun m => Jo hT O O O (Rd1.elem (RdN.own (Vn m zpk)) hav)) ?_
                            refine Jf O O O O (fun m => y_build (cs := [_, _, _, _]) hT O O O O O O ⟨⟨zln, Nat.le_of_ble_eq_true rfl⟩, ⟨⟨zln, Nat.le_of_ble_eq_true rfl⟩, ⟨⟨zln, Nat.le_of_ble_eq_true rfl⟩, ⟨⟨zln, Nat.le_of_ble_eq_true rfl⟩, trivial⟩⟩⟩⟩ rfl) ?_
                            refine Wf O O (fun fr => Js e24 O O (cput2 _ aq ac1 (hai.kept zpk)) ?_)
                            rintro _ _ ⟨ua, uc, rfl, rfl⟩
                            refine ⟨[_], (by (repeat (first | exact Jl | exact Vu | refine Ji Jp ?_))), ?_⟩
                            refine Jf O O O O (fun m => Je rfl) ?_
                            refine Jf O O O O (fun m => Jy O O) ?_
                            refine Jf O O O O (fun m => Jy O O) ?_
                            refine Jf O O O O (fun m => Jd rfl) ?_
                            refine Jf O O O O (fun m => Jd rfl) ?_
                            refine Wh ?_
                            refine Jb ?_
                            refine Jh ?_
                            refine Jc ?_
                            refine Ja (Jd rfl) O O O ?_
                            refine Jg ?_
                            refine Jb ?_
                            refine Jh ?_
                            refine Jh ?_
                            refine Jc ?_
                            refine Ja (Je rfl) O O O (Ja (Vh hT O O O) O O O (Ja (Je rfl) O O O ?_))
                            refine Jg ?_
                            refine Jb ?_
                            refine Vj ?_
                            refine J.fact (p := OwnAt ua 253 uc (ints .u8 (pktT t))) (fun w s => Vv (s.pick zpk)) fun ou => ?_
                            refine J.loop (α := Nat × Bool) (fun s => s.1 ≤ i3 ∧ (s.2 = true ↔ ∃ y, y < s.1 ∧ (U.map pktT)[y]? = some (pktT t))) (fun s => [(14, .slice (some ⟨gq, 0, none⟩) i3 qc), (20, .slice (some ⟨gc, 0, none⟩) i3 cc), (22, .slice (some ⟨gb, 0, none⟩) i3 qbc), (24, .slice (some ⟨gd, 0, none⟩) i3 dc), (25, .int .i64 z), (26, .pointer (some ⟨bd, 0, none⟩)), (27, .slice ua 253 uc), (28, .int .i64 0), (29, .bool s.2), (218, .slice (some ⟨gd, 0, none⟩) i3 dc), (219, .int .i64 i3), (220, .int .i64 z), (240, .slice (some ⟨gq, 0, none⟩) i3 qc), (241, .int .i64 i3), (242, .int .i64 s.1)]) (fun _ => own 5 1 (.slice ua 253 uc) 253 (ints .u8 (pktT t)) :: row bd 63 (downE 1#64 kk (.slice dq 162 dc1)) :: own 63 4 (.slice (some ⟨gd, 0, none⟩) i3 dc) i3 (downs 1#64 (S.map (·.1)) dv) :: KV :: own 22 1 (.slice (some ⟨gb, 0, none⟩) i3 qbc) i3 rv :: KB :: own 22 1 (.slice (some ⟨gq, 0, none⟩) i3 qc) i3 vals :: K :: own 22 1 (.slice (some ⟨gc, 0, none⟩) i3 cc) i3 va :: KC :: [K0]) (fun s => i3 - s.1) (0, false) ⟨Nat.zero_le _, by simp⟩ ⟨O, O, O, O, O, O, O, O, O, O, O, O, O, O, O, trivial⟩ (fun w h => h.sup zsup) ?_
                            rintro ⟨y, bb⟩ ⟨hy, hbb⟩
                            dsimp only at hy hbb ⊢
                            refine Jh ?_
                            refine Jc ?_
                            refine Ja (y_lss O O) O O O ?_
                            refine Jg ?_
                            refine Jb ?_
                            refine Jh ?_
                            focus
                              first | apply Va rfl | apply Vt rfl
                              focus
                                intro h
                                try (first | (exfalso; omega) | (cases h; done) | (exfalso; simp at h; done) | subst h)
                                all_goals
                                  refine Ve ?_
                              rotate_right 1
                              focus
                                intro h
                                try (first | (exfalso; omega) | (cases h; done) | (exfalso; simp at h; done) | subst h)
                                all_goals
                                  refine J.exit ?_
                                  refine Vc ?_
                                  refine Vc ?_
                                  refine Vs ?_
                                  refine Jb ?_
                                  refine Jh ?_
                                  obtain rfl : y = i3 := by omega
                                  obtain rfl : bb = true := by
                                    rw [hbb]
                                    obtain ⟨q, hq⟩ := List.getElem?_of_mem htU
                                    exact ⟨q, by have := (List.getElem?_eq_some_iff.1 hq).1; omega, by rw [List.getElem?_map, hq]; rfl⟩
                                  obtain ⟨bi, hbi1⟩ : ∃ bi, decide ((0 : Int) < (z : Int)) = bi := ⟨_, rfl⟩
                                  obtain ⟨⟨k1, o1⟩, hs1⟩ : ∃ q, S[z - 1]? = some q := ⟨_, List.getElem?_eq_getElem (by omega)⟩
                                  obtain ⟨v1, hv1⟩ : ∃ v, dv[z - 1]? = some v := ⟨_, List.getElem?_eq_getElem (by have := (List.getElem?_eq_some_iff.1 hdv).1; omega)⟩
                                  have hz1 : ((S.map (·.1)).zip dv)[z - 1]? = some (k1, v1) := by
                                    rw [List.getElem?_zip_eq_some]
                                    exact ⟨by simp [hs1], hv1⟩
                                  have hk1 := key_parts (hSk _ (List.mem_of_getElem? hs1)).1
                                  have hk2 := key_parts (hSk _ (List.mem_of_getElem? hsz)).1
                                  dsimp only at hk1 hk2
                                  have hlt1 : 0 < z → k1 < kk := fun h0 => by
                                    have h2 : ∀ (i : Nat) x, S[i]? = some x → (S.map fun p : Int × List Int => p.1)[i]? = some x.1 := fun i x h => by rw [List.getElem?_map, h]; rfl
                                    obtain ⟨e1, e2⟩ := List.getElem?_eq_some_iff.1 (h2 _ _ hs1)
                                    obtain ⟨e3, e4⟩ := List.getElem?_eq_some_iff.1 (h2 _ _ hsz)
                                    have := (List.pairwise_iff_getElem.1 hSP) (z - 1) z e1 e3 (by omega)
                                    rw [e2, e4] at this
                                    exact this
                                  have hcl : bi = true → (decide (kk.tdiv 3 < k1.tdiv 3) = false ∧ (k1.tdiv 3 = kk.tdiv 3 → decide (kk.tmod 3 ≤ k1.tmod 3) = false)) := fun hb => by
                                    have h0 : (0 : Int) < (z : Int) := of_decide_eq_true (hbi1.trans hb)
                                    have := hlt1 (by omega)
                                    exact ⟨decide_eq_false (by omega), fun h => decide_eq_false (by omega)⟩
                                  obtain ⟨b2, hb2⟩ : ∃ b2, decide (k1.tdiv 3 = kk.tdiv 3) = b2 := ⟨_, rfl⟩
                                  cases bi
                                  case' true =>
                                    obtain ⟨hcl1, hcl2⟩ := hcl rfl
                                    have hz0 : (0 : Int) < (z : Int) := of_decide_eq_true hbi1
                                    cases b2
                                    case' true => have hcl3 := hcl2 (of_decide_eq_true hb2)
                                  all_goals
                                    refine Wl _ _ [(0, .q), (1, .q), (2, .q), (3, .q), (4, .q), (5, .q), (6, .q), (7, .q), (8, .q), (9, .q), (10, .q), (11, .q), (12, .q), (13, .q), (14, .q), (15, .q), (16, .q), (17, .q), (18, .q), (19, .q), (20, .q), (21, .q), (22, .q), (23, .q), (24, .q), (25, .q), (26, .q), (27, .q), (28, .q), (29, .q), (30, .q), (31, .q), (32, .q), (33, .q), (34, .q), (35, .q), (36, .q), (37, .q), (38, .q), (39, .q), (40, .q), (41, .q), (42, .q), (43, .q), (44, .q), (45, .q), (46, .q), (47, .q), (48, .q), (49, .q), (50, .q), (51, .q), (52, .q)] mixed (by kernel_rfl) (Jl) ?_
                                    refine Jf O O O O (fun m => Je rfl) ?_
                                    refine Jf O O O O (fun m => y_neqB O O (decide_eq_false (fun z => z rfl))) ?_
                                    refine Jf O O O O (fun m => Je rfl) ?_
                                    all_goals (first | refine Vi O O O O O O O ?_ | refine Vd O O O O O O ?_ | refine Vb O O O O O O (fun m => Je rfl) ?_)
                                    all_goals (first | refine Vi O O O O O O O ?_ | refine Vd O O O O O O ?_ | refine Vb O O O O O O (fun m => y_not rfl) ?_)
                                    all_goals refine Jf O O O O (fun m => y_pick O O O) ?_
                                    all_goals refine Jf O O O O (fun m => Je rfl) ?_
                                    all_goals (first | refine Vi O O O O O O O ?_ | refine Vd O O O O O O ?_ | refine Vb O O O O O O (fun m => Jk hT O O O O O O) ?_)
                                    all_goals (first | refine Vi O O O O O O O ?_ | refine Vd O O O O O O ?_ | refine Vb O O O O O O (fun m => Jo hT O O O zrda) ?_)
                                    all_goals (first | refine Vi O O O O O O O ?_ | refine Vd O O O O O O ?_ | refine Vb O O O O O O (fun m => Je rfl) ?_)
                                    all_goals (first | refine Vi O O O O O O O ?_ | refine Vd O O O O O O ?_ | refine Vb O O O O O O (fun m => Je rfl) ?_)
                                    all_goals (first | refine Vi O O O O O O O ?_ | refine Vd O O O O O O ?_ | refine Vb O O O O O O (fun m => Vg hT O O O O O zix zix) ?_)
                                    all_goals (first | refine Vi O O O O O O O ?_ | refine Vd O O O O O O ?_ | refine Vb O O O O O O (fun m => Jo hT O O O (Rd1.elem (RdN.own (Vn m zpk)) hbv)) ?_)
                                    all_goals (first | refine Vi O O O O O O O ?_ | refine Vd O O O O O O ?_ | refine Vb O O O O O O (fun m => y_callF e28 rfl (bequal_true E dq bq1 dc1 bc1 _ _ List.length_replicate hbbk (hdi.kept (Vn m zpk)) (hbi.kept (Vn m zpk)))) ?_)
                                    all_goals (first | refine Vi O O O O O O O ?_ | refine Vd O O O O O O ?_ | refine Vb O O O O O O (fun m => y_not rfl) ?_)
                                    all_goals refine Jf O O O O (fun m => y_pick O O O) ?_
                                    all_goals refine Jf O O O O (fun m => Je rfl) ?_
                                    all_goals (first | refine Vi O O O O O O O ?_ | refine Vd O O O O O O ?_ | refine Vb O O O O O O (fun m => Je rfl) ?_)
                                    all_goals (first | refine Vi O O O O O O O ?_ | refine Vd O O O O O O ?_ | refine Vb O O O O O O (fun m => y_gtrB O O hbi1) ?_)
                                    all_goals (first | refine Vi O O O O O O O ?_ | refine Vd O O O O O O ?_ | refine Vb O O O O O O (fun m => Je rfl) ?_)
                                    all_goals (first | refine Vi O O O O O O O ?_ | refine Vd O O O O O O ?_ | refine Vb O O O O O O (fun m => Je rfl) ?_)
                                    all_goals (first | refine Vi O O O O O O O ?_ | refine Vd O O O O O O ?_ | refine Vb O O O O O O (fun m => Je rfl) ?_)
                                    all_goals (first | refine Vi O O O O O O O ?_ | refine Vd O O O O O O ?_ | refine Vb O O O O O O (fun m => y_sub (m := ((z - 1 : Nat) : Int)) O O (by rw [show (z : Int) - 1 = ((z - 1 : Nat) : Int) by omega]; exact We (by omega) (by omega))) ?_)
                                    all_goals (first | refine Vi O O O O O O O ?_ | refine Vd O O O O O O ?_ | refine Vb O O O O O O (fun m => Vg hT O O O O O zix zix) ?_)
                                    all_goals (first | refine Vi O O O O O O O ?_ | refine Vd O O O O O O ?_ | refine Vb O O O O O O (fun m => Jk hT O O O O O O) ?_)
                                    all_goals (first | refine Vi O O O O O O O ?_ | refine Vd O O O O O O ?_ | refine Vb O O O O O O (fun m => Jo hT O O O (Rd1.ofN (j := 0) (v := .int .i64 (k1.tdiv 3)) (RdN.downs (RdN.own (Vn m zpk)) hz1) rfl)) ?_)
                                    all_goals (first | refine Vi O O O O O O O ?_ | refine Vd O O O O O O ?_ | refine Vb O O O O O O (fun m => Jk hT O O O O O O) ?_)
                                    all_goals (first | refine Vi O O O O O O O ?_ | refine Vd O O O O O O ?_ | refine Vb O O O O O O (fun m => Jo hT O O O zrda) ?_)
                                    all_goals (first | refine Vi O O O O O O O ?_ | refine Vd O O O O O O ?_ | refine Vb O O O O O O (fun m => y_gtrB O O hcl1) ?_)
                                    all_goals (first | refine Vi O O O O O O O ?_ | refine Vd O O O O O O ?_ | refine Vb O O O O O O (fun m => Je rfl) ?_)
                                    all_goals (first | refine Vi O O O O O O O ?_ | refine Vd O O O O O O ?_ | refine Vb O O O O O O (fun m => Je rfl) ?_)
                                    all_goals (first | refine Vi O O O O O O O ?_ | refine Vd O O O O O O ?_ | refine Vb O O O O O O (fun m => Je rfl) ?_)
                                    all_goals (first | refine Vi O O O O O O O ?_ | refine Vd O O O O O O ?_ | refine Vb O O O O O O (fun m => y_sub (m := ((z - 1 : Nat) : Int)) O O (by rw [show (z : Int) - 1 = ((z - 1 : Nat) : Int) by omega]; exact We (by omega) (by omega))) ?_)
                                    all_goals (first | refine Vi O O O O O O O ?_ | refine Vd O O O O O O ?_ | refine Vb O O O O O O (fun m => Vg hT O O O O O zix zix) ?_)
                                    all_goals (first | refine Vi O O O O O O O ?_ | refine Vd O O O O O O ?_ | refine Vb O O O O O O (fun m => Jk hT O O O O O O) ?_)
                                    all_goals (first | refine Vi O O O O O O O ?_ | refine Vd O O O O O O ?_ | refine Vb O O O O O O (fun m => Jo hT O O O (Rd1.ofN (j := 0) (v := .int .i64 (k1.tdiv 3)) (RdN.downs (RdN.own (Vn m zpk)) hz1) rfl)) ?_)
                                    all_goals (first | refine Vi O O O O O O O ?_ | refine Vd O O O O O O ?_ | refine Vb O O O O O O (fun m => Jk hT O O O O O O) ?_)
                                    all_goals (first | refine Vi O O O O O O O ?_ | refine Vd O O O O O O ?_ | refine Vb O O O O O O (fun m => Jo hT O O O zrda) ?_)
                                    all_goals (first | refine Vi O O O O O O O ?_ | refine Vd O O O O O O ?_ | refine Vb O O O O O O (fun m => y_eqlB O O hb2) ?_)
                                    all_goals (first | refine Vi O O O O O O O ?_ | refine Vd O O O O O O ?_ | refine Vb O O O O O O (fun m => Je rfl) ?_)
                                    all_goals (first | refine Vi O O O O O O O ?_ | refine Vd O O O O O O ?_ | refine Vb O O O O O O (fun m => Je rfl) ?_)
                                    all_goals (first | refine Vi O O O O O O O ?_ | refine Vd O O O O O O ?_ | refine Vb O O O O O O (fun m => Je rfl) ?_)
                                    all_goals (first | refine Vi O O O O O O O ?_ | refine Vd O O O O O O ?_ | refine Vb O O O O O O (fun m => y_sub (m := ((z - 1 : Nat) : Int)) O O (by rw [show (z : Int) - 1 = ((z - 1 : Nat) : Int) by omega]; exact We (by omega) (by omega))) ?_)
                                    all_goals (first | refine Vi O O O O O O O ?_ | refine Vd O O O O O O ?_ | refine Vb O O O O O O (fun m => Vg hT O O O O O zix zix) ?_)
                                    all_goals (first | refine Vi O O O O O O O ?_ | refine Vd O O O O O O ?_ | refine Vb O O O O O O (fun m => Jk hT O O O O O O) ?_)
                                    all_goals (first | refine Vi O O O O O O O ?_ | refine Vd O O O O O O ?_ | refine Vb O O O O O O (fun m => Jo hT O O O (Rd1.ofN (j := 1) (v := .int .i64 (k1.tmod 3)) (RdN.downs (RdN.own (Vn m zpk)) hz1) rfl)) ?_)
                                    all_goals (first | refine Vi O O O O O O O ?_ | refine Vd O O O O O O ?_ | refine Vb O O O O O O (fun m => Jk hT O O O O O O) ?_)
                                    all_goals (first | refine Vi O O O O O O O ?_ | refine Vd O O O O O O ?_ | refine Vb O O O O O O (fun m => Jo hT O O O zrda) ?_)
                                    all_goals (first | refine Vi O O O O O O O ?_ | refine Vd O O O O O O ?_ | refine Vb O O O O O O (fun m => y_geqB O O hcl3) ?_)
                                    all_goals (first | refine Vi O O O O O O O ?_ | refine Vd O O O O O O ?_ | refine Vb O O O O O O (fun m => y_pick O O O) ?_)
                                    all_goals (first | refine Vi O O O O O O O ?_ | refine Vd O O O O O O ?_ | refine Vb O O O O O O (fun m => y_pick O O O) ?_)
                                    all_goals (first | refine Vi O O O O O O O ?_ | refine Vd O O O O O O ?_ | refine Vb O O O O O O (fun m => y_pick O O O) ?_)
                                    all_goals refine Jf O O O O (fun m => y_pick O O O) ?_
                                    all_goals refine Wh ?_
                                  all_goals refine Jb ?_
                                  all_goals
                                    refine Vf rfl zbl ?_
                                    refine Ve ?_
                                  all_goals
                                    refine Jv ?_
                                    refine Jb ?_
                                    refine Jc ?_
                                    refine Ja (Wc O O zwr) O O O ?_
                                    refine Ja (Je rfl) O O O ?_
                                    refine Jg ?_
                                    exact Vy (s := z) (z + 1) (by omega) ⟨O, O, O, O, O, O, O, trivial⟩ (fun w q => q.sup zsup) (by omega)
                            all_goals refine Jb ?_
                            all_goals
                              refine Jh ?_
                              refine Vj ?_
                              refine Jh ?_
                              have hlty : y < i3 := by omega
                              obtain ⟨ty, hty⟩ : ∃ t, U[y]? = some t := ⟨_, List.getElem?_eq_getElem (by omega)⟩
                              have htoy := hI.ok ty (List.mem_of_getElem? hty)
                              have hpy : (U.map pktT)[y]? = some (pktT ty) := by rw [List.getElem?_map, hty]; rfl
                              obtain ⟨qy, ky, hvy, hviy⟩ := hI.tx.get y (pktT ty) hpy
                              rw [pktT_len htoy] at hvy hviy
                              refine Jc ?_
                              refine Ja (Vg hT O O O O O zix zix) O O O ?_
                              refine Ja (Jo hT O O O (Rd1.elem (RdN.own zpk) hvy)) O O O ?_
                              refine Ja (Jd rfl) O O O ?_
                              refine Jg ?_
                              refine Jb ?_
                              refine Jc ?_
                              refine Ja (Je rfl) O O O (Ja (Je rfl) O O O ?_)
                              all_goals (first | (refine Vm O O O (fun h => ?_) (fun h => ?_) <;> try (first | (exfalso; omega) | exact absurd rfl h)) | (refine Vz O O O (fun h => ?_) (fun h => ?_) <;> try (first | cases h | (exfalso; simp at h; done))) | skip)
                              all_goals (first | refine Ju O O O O O O ?_ | refine Jr O O O O O ?_ | refine Jw O O O (Je rfl) O O ?_)
                              all_goals (first | refine Ju O O O O O O ?_ | refine Jr O O O O O ?_ | refine Jw O O O (Je rfl) O O ?_)
                              all_goals (first | refine Ju O O O O O O ?_ | refine Jr O O O O O ?_ | (refine JL.gloud O O O (Js e28 O O (bequal_spec E qy ua ky uc 253 253 (pktT ty) (pktT t) _ (pktT_len htoy) (pktT_len hto) (pktT_byt htoy) (pktT_byt hto) (hviy.kept zpk) (ou.inl (e := 5) (size := 1) zpk)) ?_); rintro _ _ ⟨rfl, rfl⟩))
                              all_goals (refine Ja (y_pick O O O) O O O ?_)
                              all_goals (refine Ja (Jd rfl) O O O ?_)
                              all_goals refine Jg ?_
                              all_goals refine Jv ?_
                              all_goals refine Jb ?_
                              all_goals
                                refine Jc ?_
                                refine Ja (Wc O O zwr) O O O ?_
                                refine Ja (Je rfl) O O O ?_
                                refine Jg ?_
                            all_goals
                              first
                              | exact Vy (s := (y, true)) (y + 1, true) ⟨hlty, by
                                  dsimp only
                                  simp only [true_iff] at hbb ⊢
                                  obtain ⟨q, h1, h2⟩ := hbb
                                  exact ⟨q, by omega, h2⟩⟩ ⟨O, O, O, O, O, O, O, O, O, O, O, O, O, O, O, trivial⟩ (fun w q => q.sup zsup) (by dsimp only; omega)
                              | exact Vy (s := (y, false)) (y + 1, decide (pktT ty = pktT t)) ⟨hlty, by
                                  dsimp only
                                  rw [decide_eq_true_iff]
                                  constructor
                                  · intro e; exact ⟨y, by omega, by rw [hpy, e]⟩
                                  · rintro ⟨q, h1, h2⟩
                                    rcases Nat.lt_or_ge q y with h3 | h3
                                    · exact absurd (hbb.2 ⟨q, h3, h2⟩) (by decide)
                                    · obtain rfl : q = y := by omega
                                      rw [hpy] at h2
                                      exact Option.some.inj h2⟩ ⟨O, O, O, O, O, O, O, O, O, O, O, O, O, O, O, trivial⟩ (fun w q => q.sup zsup) (by dsimp only; omega)
                  all_goals refine Jb ?_
                  all_goals
                    refine Jh ?_
                    refine Vj ?_
                    refine Jh ?_
                    have hlt3 : i3 < j := by omega
                    refine Jc ?_
                    refine Ja (Je rfl) O O O (Ja (Jd rfl) O O O ?_)
                    refine Jg ?_
                    refine Jb ?_
                    refine Jc ?_
                    refine Ja (Je rfl) O O O (Ja (Je rfl) O O O ?_)
                    refine Ja (Wc O O zwr) O O O ?_
                    refine Ja (y_conv (m := backB i3) hT O O O O (by simp [IntKind.wrap, IntKind.bits, IntKind.signed, backB])) O O O ?_
                    refine Jj rfl (l_buildSliceP hT O O O O O O O zfl rfl (fun b18 => ?_))
                    refine Jj rfl (Js e27 O O (reply_spec E 2 _) ?_)
                    rintro _ _ ⟨rfl, rfl⟩
                    rw [show replyN 2 = ((162 : Nat) : Int) from rfl]
                    refine Jj rfl (Js e26 O O (repeat_one E (backB i3) _ _ 162 _ (by omega) (by omega) (hin1 _ _ _)) ?_)
                    rintro _ _ ⟨ra, rc, KR, rfl, rfl, hri⟩
                    refine Jj rfl (l_buildSliceP hT O O O O O O O zfl rfl (fun b21 => ?_))
                    refine Jj rfl (l_append hT O O O O O O O O zpk zrdn zln zoc (by rw [show i22.bytes = 24 from rfl]; omega) (by omega) rfl (fun na nc hnc => ?_))
                    refine Ja (Jd rfl) O O O ?_
                    refine Jg ?_
                    refine Jv ?_
                    refine Jb ?_
                    refine Jc ?_
                    refine Ja (Wc O O zwr) O O O ?_
                    refine Ja (Je rfl) O O O ?_
                    refine Jg ?_
                  all_goals
                    have hri2 : InL [KR] ra (List.replicate 162 (backB i3)).length rc (ints .u8 (List.replicate 162 (backB i3))) := by rw [List.length_replicate]; exact hri
                    have hp := hXB.push hri2
                    rw [List.length_replicate] at hp
                    refine Vy (s := (i3, qb, qbc, rv, KB)) (i3 + 1, na, nc, rv ++ [.slice ra 162 rc], stars [KB, KR]) ⟨hlt3, by
                      dsimp only
                      unfold backs
                      rw [List.range_succ, List.map_append, List.map_cons, List.map_nil]
                      exact hp⟩ ⟨O, O, O, O, O, O, trivial⟩ (fun w s => ?_) (by dsimp only; omega)
                    dsimp only
                    have s1 := Sat.fold (m := [KB, KR]) (s.sup (p := KB :: KR :: own 22 1 (.slice na (i3 + 1) nc) (i3 + 1) (rv ++ [.slice ra 162 rc]) :: own 22 1 (.slice qa j qc) j vals :: K :: own 22 1 (.slice ca j cc) j va :: KC :: entR sx.x sx.lg false 1#64 2 2 (.map (some gx)) :: gotM gx S :: [K0]) zsup)
                    exact s1.sup zsup
          all_goals refine Jb ?_
          all_goals
            refine Jh ?_
            refine Vj ?_
            refine Jh ?_
            have hltj : j < n := by omega
            have hkn : k < n := by rw [← hk]; exact Nat.mod_lt _ (by omega)
            obtain ⟨t, ht⟩ : ∃ t, U[j]? = some t := ⟨_, List.getElem?_eq_getElem (by omega)⟩
            obtain ⟨jk, hjk⟩ : ∃ jk, (j + k) % n = jk := ⟨_, rfl⟩
            have hjkn : jk < n := by rw [← hjk]; exact Nat.mod_lt _ (by omega)
            obtain ⟨t2, ht2⟩ : ∃ t, U[jk]? = some t := ⟨_, List.getElem?_eq_getElem (by omega)⟩
            have hto := hI.ok t (List.mem_of_getElem? ht)
            have hto2 := hI.ok t2 (List.mem_of_getElem? ht2)
            obtain ⟨q1, k1, hv, hvi⟩ := hI.tx.get j (pktT t) (by rw [List.getElem?_map, ht]; rfl)
            obtain ⟨q2, k2, hv2, hvi2⟩ := hI.tx.get jk (pktT t2) (by rw [List.getElem?_map, ht2]; rfl)
            rw [pktT_len hto] at hv hvi
            rw [pktT_len hto2] at hv2 hvi2
            have hgj : G[j]? = some (plc t) := by rw [← hG, List.getElem?_map, ht]; rfl
            have hgt : Gt[j]? = some (plc t2) := by rw [← hGt, turned_get hGl hkn hltj, hjk, ← hG, List.getElem?_map, ht2]; rfl
            have hno := nodup_take hGn hgj
            have hno2 := nodup_take hGtn hgt
            have hm1 : ((BitVec.ofInt 64 turn).toNat : Int).tmod ((BitVec.ofInt 64 (n : Int)).toNat : Int) = (k : Int) := by
              rw [hnQ, Int.tmod_eq_emod_of_nonneg (by omega), ← hk]
              exact (Int.natCast_emod _ _).symm
            have hm2 : ((j : Int) + (k : Int)).tmod (n : Int) = (jk : Int) := by
              rw [Int.tmod_eq_emod_of_nonneg (by omega), ← hjk]
              rw [Int.natCast_emod]
              rfl
            obtain ⟨gq, rfl⟩ := oq.at_.resolve_right fun ⟨h0, _⟩ => by have := oq.le; omega
            refine Jc ?_
            refine Ja (Je rfl) O O O (Ja (Jd rfl) O O O ?_)
            refine Jg ?_
            refine Jb ?_
            refine Jh ?_
            refine Jc ?_
            refine Ja (Je rfl) O O O (Ja (Je rfl) O O O (Ja (Je rfl) O O O ?_))
            refine Ja (Vg hT O O O O O zix zix) O O O ?_
            refine Ja (Jo hT O O O (Rd1.elem (RdN.own zpk) hv)) O O O ?_
            refine Jj rfl (Js e20 O O (Wj (Ji (A := entR sx.x sx.lg false 1#64 1 2 (.map (some gx))) zpk (Ji (A := gotM gx (G.take j)) zpk Jl)) (col_new E sx.x sx.lg gx (G.take j) t hto hno q1 k1 _ (hvi.kept zpk))) ?_)
            rintro _ _ ⟨rfl, rfl⟩
            refine Ja (Wk O O) O O O (Ja (Je rfl) O O O ?_)
            all_goals (first | (refine Vm O O O (fun h => ?_) (fun h => ?_) <;> try (first | (exfalso; omega) | exact absurd rfl h)) | (refine Vz O O O (fun h => ?_) (fun h => ?_) <;> try (first | cases h | (exfalso; simp at h; done))) | skip)
            all_goals (first | refine Ju O O O O O O ?_ | refine Jr O O O O O ?_ | refine Jw O O O (Je rfl) O O ?_)
            all_goals (first | refine Ju O O O O O O ?_ | refine Jr O O O O O ?_ | refine Jw O O O (Je rfl) O O ?_)
            all_goals (first | refine Ju O O O O O O ?_ | refine Jr O O O O O ?_ | refine Jw O O O (Je rfl) O O ?_)
            all_goals (first | refine Ju O O O O O O ?_ | refine Jr O O O O O ?_ | refine Jw O O O (Je rfl) O O ?_)
            all_goals (first | refine Ju O O O O O O ?_ | refine Jr O O O O O ?_ | refine Jw O O O ((by first | exact y_convToQ hT O O O O | exact y_conv hT O O O O zwr)) O O ?_)
            all_goals (first | refine Ju O O O O O O ?_ | refine Jr O O O O O ?_ | refine Jw O O O (Je rfl) O O ?_)
            all_goals (first | refine Ju O O O O O O ?_ | refine Jr O O O O O ?_ | refine Jw O O O (Vh hT O O O) O O ?_)
            all_goals (first | refine Ju O O O O O O ?_ | refine Jr O O O O O ?_ | refine Jw O O O ((by first | exact y_convToQ hT O O O O | exact y_conv hT O O O O zwr)) O O ?_)
            all_goals (first | refine Ju O O O O O O ?_ | refine Jr O O O O O ?_ | refine Jw O O O (y_rem (m := (k : Int)) O O (by omega) hm1) O O ?_)
            all_goals (first | refine Ju O O O O O O ?_ | refine Jr O O O O O ?_ | refine Jw O O O (y_conv (m := (k : Int)) hT O O O O (We (by omega) (by omega))) O O ?_)
            all_goals (first | refine Ju O O O O O O ?_ | refine Jr O O O O O ?_ | refine Jw O O O (Wc O O zwr) O O ?_)
            all_goals (first | refine Ju O O O O O O ?_ | refine Jr O O O O O ?_ | refine Jw O O O (Je rfl) O O ?_)
            all_goals (first | refine Ju O O O O O O ?_ | refine Jr O O O O O ?_ | refine Jw O O O (Vh hT O O O) O O ?_)
            all_goals (first | refine Ju O O O O O O ?_ | refine Jr O O O O O ?_ | refine Jw O O O (y_rem (m := (jk : Int)) O O (by omega) hm2) O O ?_)
            all_goals (first | refine Ju O O O O O O ?_ | refine Jr O O O O O ?_ | refine Jw O O O (Vg hT O O O O O zix zix) O O ?_)
            all_goals (first | refine Ju O O O O O O ?_ | refine Jr O O O O O ?_ | refine Jw O O O (Jo hT O O O (Rd1.elem (RdN.own zpk) hv2)) O O ?_)
            all_goals (first | refine Ju O O O O O O ?_ | refine Jr O O O O O ?_ | (refine JL.gloud O O O (Js e20 O O (Wj (Ji (A := entR sy.x sy.lg false 1#64 1 2 (.map (some gy))) zpk (Ji (A := gotM gy (Gt.take j)) zpk Jl)) (col_new E sy.x sy.lg gy (Gt.take j) t2 hto2 hno2 q2 k2 _ (hvi2.kept zpk))) ?_); rintro _ _ ⟨rfl, rfl⟩))
            all_goals (first | refine Ju O O O O O O ?_ | refine Jr O O O O O ?_ | refine Jw O O O (Wk O O) O O ?_)
            all_goals (refine Ja (y_pick O O O) O O O ?_)
            all_goals (refine Ja (Je rfl) O O O ?_)
            all_goals (first | (refine Vm O O O (fun h => ?_) (fun h => ?_) <;> try (first | (exfalso; omega) | exact absurd rfl h)) | (refine Vz O O O (fun h => ?_) (fun h => ?_) <;> try (first | cases h | (exfalso; simp at h; done))) | skip)
            all_goals (first | refine Ju O O O O O O ?_ | refine Jr O O O O O ?_ | refine Jw O O O (Je rfl) O O ?_)
            all_goals (first | refine Ju O O O O O O ?_ | refine Jr O O O O O ?_ | refine Jw O O O (Je rfl) O O ?_)
            all_goals (first | refine Ju O O O O O O ?_ | refine Jr O O O O O ?_ | refine Jw O O O (Je rfl) O O ?_)
            all_goals (first | refine Ju O O O O O O ?_ | refine Jr O O O O O ?_ | refine Jw O O O (Vg hT O O O O O zix zix) O O ?_)
            all_goals (first | refine Ju O O O O O O ?_ | refine Jr O O O O O ?_ | refine Jw O O O (Jo hT O O O (Rd1.elem (RdN.own zpk) hv)) O O ?_)
            all_goals (first | refine Ju O O O O O O ?_ | refine Jr O O O O O ?_ | (refine JL.gloud O O O (Js e20 O O (Wj (Ji (A := entR sx.x sx.lg false 1#64 1 2 (.map (some gx))) zpk (Ji (A := gotM gx (plc t :: G.take j)) zpk Jl)) (col_old E sx.x sx.lg gx (plc t :: G.take j) t hto ⟨plc t, by simp, rfl⟩ q1 k1 _ (hvi.kept zpk))) ?_); rintro _ _ ⟨rfl, rfl⟩))
            all_goals (first | refine Ju O O O O O O ?_ | refine Jr O O O O O ?_ | refine Jw O O O (Wk O O) O O ?_)
            all_goals (refine Ja (y_pick O O O) O O O ?_)
            all_goals refine Jg ?_
            all_goals refine Jb ?_
            all_goals
              refine Vf rfl zbl ?_
              refine Ve ?_
            all_goals refine Jv ?_
            all_goals refine Jb ?_
            all_goals
              refine Jc ?_
              refine Ja (Wc O O zwr) O O O ?_
              refine Ja (Je rfl) O O O ?_
              refine Jg ?_
          all_goals
            refine Vy (s := j) (j + 1) (by omega) ⟨O, O, O, O, O, O, trivial⟩ (fun w s => ?_) (by omega)
            have e1 : (plc t :: G.take j).Perm (G.take (j + 1)) := by rw [List.take_add_one, hgj]; exact (List.perm_append_comm (l₁ := [plc t]))
            have e2 : (plc t2 :: Gt.take j).Perm (Gt.take (j + 1)) := by rw [List.take_add_one, hgt]; exact (List.perm_append_comm (l₁ := [plc t2]))
            have s1 := gotM_perm e1 (Sat.pick (A := gotM gx (plc t :: G.take j)) s zpk)
            have s2 := gotM_perm e2 (Sat.pick (A := gotM gy (plc t2 :: Gt.take j)) s1 zpk)
            exact s2.sup zsup
    all_goals refine Jb ?_
    all_goals
      refine Jh ?_
      refine Vj ?_
      refine Jh ?_
      have hlt : i < m0 := by omega
      obtain ⟨go, oo, rfl, hro⟩ := hin.addr (by omega)
      have hro0 : RdN [K0] go oo (xs.flatMap upV) := hro []
      obtain ⟨u, hu⟩ : ∃ o, xs[i]? = some o := ⟨_, List.getElem?_eq_getElem (by omega)⟩
      have hok := hx u (List.mem_of_getElem? hu)
      have hfewo := hok.few
      have hel : (upV u).length = 4 := rfl
      have heo := upV_one u
      obtain ⟨e, n', bs', hbl, hput, cput⟩ := putup2 E u.client u.slot (cutO u.onion) (cutO_len _)
      obtain ⟨bq, hbq, hlk⟩ : ∃ bq, (bq = true ↔ ∃ t ∈ U, (t.1, t.2.1) = (u.client, u.slot)) ∧ lookV false (mlook (metL U) (u.client, u.slot)) (.bool false) = .bool bq := by
        rw [met_look]
        by_cases hq : ∃ t ∈ U, (t.1, t.2.1) = (u.client, u.slot)
        · rw [if_pos hq]; exact ⟨true, by simp only [true_iff]; exact hq, rfl⟩
        · rw [if_neg hq]; exact ⟨false, by simp only [Bool.false_eq_true, false_iff]; exact hq, rfl⟩
      refine Jc ?_
      refine Ja (Vg hT O O O O O zix zix) O O O ?_
      refine Ja (y_loadN hT O O O (RdN.elem (by (repeat (first | assumption | apply RdN.cons | apply RdN.app))) hone hu) hel) O O O ?_
      refine Jj rfl (Wa hT O O zcl rfl (fun bu => ?_))
      refine Jj rfl (Vp hT O O O zln zoc zpk zln ?_)
      refine Jg ?_
      refine Jb ?_
      refine Jh ?_
      refine Jc ?_
      refine Ja (Jk hT O O O O O O) O O O ?_
      refine Jj rfl (Vw hT O O O O O zpk zix ?_)
      refine Jg ?_
      refine Jb ?_
      refine Jh ?_
      refine Jc ?_
      refine Jj rfl (l_buildSlice0 hT O O O O (fun b27 => ?_))
      refine Ja (Jk hT O O O O O O) O O O ?_
      refine Ja (Jo hT O O O zrd) O O O ?_
      refine Jj rfl (l_appendIn (nn := 0) (m := u.onion.length) hT O O O O O O O O zpk (hok.inl.kept zpk) (by rw [show i5.size = 1 from rfl]; simp [ints]) (ints_one _ _) (by rw [show i5.bytes = 1 from rfl]; omega) (by omega) rfl (fun a1 c1 hc1 => ?_))
      rw [Nat.zero_add, List.nil_append (ints .u8 u.onion)]
      refine Jj rfl (Js e23 O O (onion_spec E 2 _) ?_)
      rintro _ _ ⟨rfl, rfl⟩
      refine Jj rfl (l_appendZ (m := 242) hT O O O O O O O O O O O zpk (by decide) (by rw [show i5.bytes = 1 from rfl]; omega) (by unfold maxLen; omega) rfl (fun a2 c2 hc2 => ?_))
      rw [show ints .u8 u.onion ++ List.replicate 242 (Value.int .u8 0) = ints .u8 (u.onion ++ List.replicate 242 0) by rw [ints, ints, List.map_append, List.map_replicate]]
      refine JL.fact (p := OwnAt a2 (u.onion.length + 242) c2 (ints .u8 (u.onion ++ List.replicate 242 0))) (fun w s => Vv (s.pick zpk)) fun oS => ?_
      have hcut : ∀ l r', Pick l (own 5 1 (.slice a2 (u.onion.length + 242) c2) (u.onion.length + 242) (ints .u8 (u.onion ++ List.replicate 242 0))) r' → InL l a2 242 c2 (ints .u8 (cutO u.onion)) := fun l r' hp => by
        have z := (oS.inl hp).cutTo 242 242 (by omega)
        rwa [show (ints .u8 (u.onion ++ List.replicate 242 0)).take 242 = ints .u8 (cutO u.onion) by unfold cutO ints; rw [List.map_take]] at z
      refine Jj rfl (Js e23 O O (onion_spec E 2 _) ?_)
      rintro _ _ ⟨rfl, rfl⟩
      refine Ja (y_cutTo (m := 242) hT O O O O O O (by omega) (oS.inl (l := [own 5 1 (.slice a2 (u.onion.length + 242) c2) (u.onion.length + 242) (ints .u8 (u.onion ++ List.replicate 242 0))]) Jp)) O O O ?_
      refine Ja (Jk hT O O O O O O) O O O ?_
      refine Jj rfl (Vw hT O O O O O zpk zix ?_)
      refine Jg ?_
      refine Jb ?_
      refine Jh ?_
      refine Jc ?_
      refine Ja (y_loadN hT O O O (vs := [.int .i64 u.client, .int .i64 u.slot, Q 1#64, .slice a2 242 c2]) (RdN.row (n := 4) zpk rfl) rfl) O O O ?_
      refine Jj rfl (Js e24 O O (cput _ a2 c2 (hcut _ _ zpk)) ?_)
      rintro _ _ ⟨pa, pc, rfl, rfl⟩
      refine Ja (Je rfl) O O O (Ja (Jy O O) O O O (Ja (Jy O O) O O O (Ja (Jd rfl) O O O (Ja (Jd rfl) O O O ?_))))
      refine Jg ?_
      refine Jb ?_
      refine Jh ?_
      refine Jh ?_
      refine Jc ?_
      refine Ja (Je rfl) O O O (Ja (Wk O O) O O O (Ja (Je rfl) O O O ?_))
      all_goals (first | (refine Vm O O O (fun h => ?_) (fun h => ?_) <;> try (first | (exfalso; omega) | exact absurd rfl h)) | (refine Vz O O O (fun h => ?_) (fun h => ?_) <;> try (first | cases h | (exfalso; simp at h; done))) | skip)
      all_goals (first | refine Ju O O O O O O ?_ | refine Jr O O O O O ?_ | refine Jw O O O (Je rfl) O O ?_)
      all_goals (first | refine Ju O O O O O O ?_ | refine Jr O O O O O ?_ | refine Jw O O O (Jk hT O O O O O O) O O ?_)
      all_goals (first | refine Ju O O O O O O ?_ | refine Jr O O O O O ?_ | refine Jw O O O (Jo hT O O O zrd) O O ?_)
      all_goals (first | refine Ju O O O O O O ?_ | refine Jr O O O O O ?_ | refine Jw O O O (Jk hT O O O O O O) O O ?_)
      all_goals (first | refine Ju O O O O O O ?_ | refine Jr O O O O O ?_ | refine Jw O O O (Jo hT O O O zrd) O O ?_)
      all_goals (first | refine Ju O O O O O O ?_ | refine Jr O O O O O ?_ | refine Jw O O O (y_buildArr (cs := pairV (u.client, u.slot)) hT O O O O O (fill_pair _ _)) O O ?_)
      all_goals (first | refine Ju O O O O O O ?_ | refine Jr O O O O O ?_ | refine Jw O O O ((y_lookup (a := (u.client, u.slot)) hT O O O O keyPair O O O trivial zpk).cast (u := .bool bq) hlk) O O ?_)
      all_goals (refine Ja (y_pick O O O) O O O ?_)
      all_goals refine Jg ?_
      all_goals refine Jb ?_
      all_goals
        focus
          first | apply Va rfl | apply Vt rfl
          focus
            intro h
            try (first | (exfalso; omega) | (cases h; done) | (exfalso; simp at h; done) | subst h)
            all_goals
              refine J.exit ?_
              refine Vc ?_
              refine Vs ?_
              refine Jb ?_
              refine J.fact (p := OwnAt pa n' pc (ints .u8 bs')) (fun w s => Vv (s.pick zpk)) fun opk => ?_
              all_goals
                refine Jc ?_
                refine Ja (Wc O O zwr) O O O ?_
                refine Ja (Je rfl) O O O ?_
                refine Jg ?_
              all_goals
                first
                | (have zz := hnm
                   have hin2 : InL [own 5 1 (.slice pa n' pc) n' (ints .u8 bs')] pa n' pc (ints .u8 bs') := opk.inl (e := 5) (size := 1) Jp
                   rw [← hbl] at hin2
                   have hp := hI.tx.push hin2
                   rw [hbl] at hp
                   refine Vy (s := (i, U, qa, qc, vals, K)) (i + 1, U ++ [(u.client, u.slot, cutO u.onion)], na, nc, vals ++ [.slice pa n' pc], stars [K, own 5 1 (.slice pa n' pc) n' (ints .u8 bs')]) ⟨hlt, ?_⟩ ?_ (fun w q => ?_) (by dsimp only; omega)
                   · refine ⟨fun t ht => ?_, ?_, by dsimp only; rw [List.length_append, List.length_singleton]; have := hI.few; omega, ?_⟩
                     · rcases List.mem_append.1 ht with ht | ht
                       · exact hI.ok t ht
                       · rw [List.mem_singleton.1 ht]; exact hto
                     · dsimp only
                       rw [List.map_append, List.nodup_append]
                       refine ⟨hI.nod, by simp, fun a ha b hb => ?_⟩
                       obtain ⟨t, ht, rfl⟩ := List.mem_map.1 ha
                       simp only [List.map_cons, List.map_nil, List.mem_singleton] at hb
                       subst hb
                       intro he
                       have h1 := hI.ok t ht
                       have a1 := h1.client
                       have a2 := h1.slot
                       unfold plc at he
                       dsimp only at he
                       exact hnm ⟨t, ht, Prod.ext (by dsimp only; omega) (by dsimp only; omega)⟩
                     · dsimp only
                       rw [List.map_append, List.map_cons, List.map_nil, ← hbs]
                       exact hp
                   · dsimp only
                     rw [List.length_append, List.length_singleton, hn]
                     exact ⟨O, O, O, O, O, O, O, O, trivial⟩
                   · dsimp only
                     rw [List.length_append, List.length_singleton, hn]
                     have s1 := Sat.fold (m := [K, own 5 1 (.slice pa n' pc) n' (ints .u8 bs')]) (q.sup (p := K :: own 5 1 (.slice pa n' pc) n' (ints .u8 bs') :: own 22 1 (.slice na (n + 1) nc) (n + 1) (vals ++ [.slice pa n' pc]) :: mapP bm (metL (U ++ [(u.client, u.slot, cutO u.onion)])) :: entR sx.x sx.lg false 1#64 1 2 (.map (some gx)) :: gotM gx [] :: entR sy.x sy.lg false 1#64 1 2 (.map (some gy)) :: gotM gy [] :: [K0]) zsup)
                     exact s1.sup zsup)
                | exact Vy (s := (i, U, qa, qc, vals, K)) (i + 1, U, qa, qc, vals, K) ⟨hlt, hI.ok, hI.nod, Nat.le_succ_of_le hI.few, hI.tx⟩ (by dsimp only; rw [hn]; exact ⟨O, O, O, O, O, O, O, O, trivial⟩) (fun w q => by dsimp only; rw [hn]; exact q.sup zsup) (by dsimp only; omega)
          rotate_right 1
          focus
            intro h
            try (first | (exfalso; omega) | (cases h; done) | (exfalso; simp at h; done) | subst h)
            all_goals
              obtain ⟨e0, hcs, hbs⟩ := hput.resolve_right (by omega)
              have hnm : ¬ ∃ t ∈ U, (t.1, t.2.1) = (u.client, u.slot) := fun z => by
                have z2 := hbq.2 z
                cases z2
              have hto : TripOk (u.client, u.slot, cutO u.onion) := ⟨⟨hcs.1, hcs.2.1⟩, ⟨hcs.2.2.1, hcs.2.2.2⟩, cutO_len _, cutO_byt hok.byt⟩
              refine Ve ?_
      all_goals refine Jb ?_
      all_goals
        refine Jh ?_
        refine Jc ?_
        refine Ja (Je rfl) O O O (Ja (Jk hT O O O O O O) O O O ?_)
        refine Ja (Jo hT O O O zrd) O O O ?_
        refine Ja (Jk hT O O O O O O) O O O ?_
        refine Ja (Jo hT O O O zrd) O O O ?_
        refine Ja (y_buildArr (cs := pairV (u.client, u.slot)) hT O O O O O (fill_pair _ _)) O O O ?_
        refine Jj rfl (l_mapUpdate (a := (u.client, u.slot)) hT O O keyPair O O O O trivial zpk ?_)
        rw [met_put (t := (u.client, u.slot, cutO u.onion)) hnm]
        refine Jg ?_
        refine Jb ?_
        refine Jc ?_
        refine Ja (Je rfl) O O O (Ja (Je rfl) O O O ?_)
        refine Jj rfl (l_buildSliceP hT O O O O O O O zfl rfl (fun b32 => ?_))
        refine Jj rfl (l_append hT O O O O O O O O zpk zrdn zln zoc (by rw [show i22.bytes = 24 from rfl]; have := hI.few; omega) (by have := hI.few; omega) rfl (fun na nc hnc => ?_))
        refine Ja (Jd rfl) O O O ?_
        refine Jg ?_
      all_goals refine Jv ?_
      all_goals refine Jb ?_
      all_goals
        refine J.fact (p := OwnAt pa n' pc (ints .u8 bs')) (fun w s => Vv (s.pick zpk)) fun opk => ?_
        all_goals
          refine Jc ?_
          refine Ja (Wc O O zwr) O O O ?_
          refine Ja (Je rfl) O O O ?_
          refine Jg ?_
    all_goals
      first
      | (have zz := hnm
         have hin2 : InL [own 5 1 (.slice pa n' pc) n' (ints .u8 bs')] pa n' pc (ints .u8 bs') := opk.inl (e := 5) (size := 1) Jp
         rw [← hbl] at hin2
         have hp := hI.tx.push hin2
         rw [hbl] at hp
         refine Vy (s := (i, U, qa, qc, vals, K)) (i + 1, U ++ [(u.client, u.slot, cutO u.onion)], na, nc, vals ++ [.slice pa n' pc], stars [K, own 5 1 (.slice pa n' pc) n' (ints .u8 bs')]) ⟨hlt, ?_⟩ ?_ (fun w q => ?_) (by dsimp only; omega)
         · refine ⟨fun t ht => ?_, ?_, by dsimp only; rw [List.length_append, List.length_singleton]; have := hI.few; omega, ?_⟩
           · rcases List.mem_append.1 ht with ht | ht
             · exact hI.ok t ht
             · rw [List.mem_singleton.1 ht]; exact hto
           · dsimp only
             rw [List.map_append, List.nodup_append]
             refine ⟨hI.nod, by simp, fun a ha b hb => ?_⟩
             obtain ⟨t, ht, rfl⟩ := List.mem_map.1 ha
             simp only [List.map_cons, List.map_nil, List.mem_singleton] at hb
             subst hb
             intro he
             have h1 := hI.ok t ht
             have a1 := h1.client
             have a2 := h1.slot
             unfold plc at he
             dsimp only at he
             exact hnm ⟨t, ht, Prod.ext (by dsimp only; omega) (by dsimp only; omega)⟩
           · dsimp only
             rw [List.map_append, List.map_cons, List.map_nil, ← hbs]
             exact hp
         · dsimp only
           rw [List.length_append, List.length_singleton, hn]
           exact ⟨O, O, O, O, O, O, O, O, trivial⟩
         · dsimp only
           rw [List.length_append, List.length_singleton, hn]
           have s1 := Sat.fold (m := [K, own 5 1 (.slice pa n' pc) n' (ints .u8 bs')]) (q.sup (p := K :: own 5 1 (.slice pa n' pc) n' (ints .u8 bs') :: own 22 1 (.slice na (n + 1) nc) (n + 1) (vals ++ [.slice pa n' pc]) :: mapP bm (metL (U ++ [(u.client, u.slot, cutO u.onion)])) :: entR sx.x sx.lg false 1#64 1 2 (.map (some gx)) :: gotM gx [] :: entR sy.x sy.lg false 1#64 1 2 (.map (some gy)) :: gotM gy [] :: [K0]) zsup)
           exact s1.sup zsup)
      | exact Vy (s := (i, U, qa, qc, vals, K)) (i + 1, U, qa, qc, vals, K) ⟨hlt, hI.ok, hI.nod, Nat.le_succ_of_le hI.few, hI.tx⟩ (by dsimp only; rw [hn]; exact ⟨O, O, O, O, O, O, O, O, trivial⟩) (fun w q => by dsimp only; rw [hn]; exact q.sup zsup) (by dsimp only; omega)
end
section
open Go.ChangeShapes Go.WideShapes Go.ChangeAt Go.RowKit
theorem entry_batch_reads : ∀ t ∈ Tryz.f4.params.toList, Tryz.prog.readableRec t = true ∧ t < Tryz.prog.types.size := by
  rw [Tryz.params4]
  intro t ht
  simp only [List.mem_cons, List.not_mem_nil, or_false] at ht
  rcases ht with rfl | rfl
  all_goals exact ⟨by kernel_rfl, of_decide_eq_true (by kernel_rfl)⟩
set_option maxRecDepth 100000 in
theorem entry_batch_contract (H : Type) (enc : TypeId × Value → H) (W : World) (base : Nat) (args : Array Value) (ds gs : List (DataW H)) (before : List MemPlace)
    (hval : ∀ (j : Nat) t v, Tryz.f4.params[j]? = some t → args[j]? = some v → Value.okWide Tryz.prog W .any base t v)
    (hW : DataW.Whole enc Tryz.prog Tryz.f4.params.toList Rows.entryBatchSpec.vars false W args.toList ds gs before) (hk : Rows.uptoSmall H (ds ++ gs) = true) :
    Calls Tryz.prog 4 args W fun e W' => ∃ v, e = .returned v ∧ Rows.entryBatchSpec.post enc Tryz.prog Tryz.f4 false true false false W args v W' := by
  have hW' := hW
  obtain ⟨p, q, hA0, hV, rfl, hfz, hnd⟩ := hW
  have hA : DataW.TrodAll enc Tryz.prog W 0 (fun _ => true) true Tryz.f4.params.toList args.toList ds p := hA0
  rw [Tryz.params4] at hA hval
  obtain ⟨v0, vs0, d0, ds0, p0, q0, hargs, rfl, rfl, h0, r0⟩ := trodAll_cons hA
  obtain ⟨v1, vs1, d1, ds1, p1, q1, rfl, rfl, rfl, h1, r1⟩ := trodAll_cons r0
  obtain ⟨rfl, rfl, rfl⟩ := trodAll_nil r1
  obtain rfl : args = #[v0, v1] := by cases args; simp_all
  obtain ⟨rfl, rfl⟩ := trodVars_none hV
  clear hA0
  have t0 : Tr enc prog upOk W 48 [v0] := Tr.ofSlice u48 (hval 0 48 v0 O O) h0 (upOk_of hk d0 (by simp))
  have t1 : Tr enc prog upOk W 3 [v1] := Tr.ofInt u3 (hval 1 3 v1 O O) h1 (upOk_of hk d1 (by simp))
  obtain ⟨p, c, xs, rfl, hx, hin⟩ := tr_ups22 upHer (fun n h => h) t0
  obtain ⟨n, e1, _⟩ := Tr.int u3 t1
  cases e1
  refine ((entry_batch W n p c xs (old W) (hin.inl []) hx) W (Sat.start W)).mono fun e W' hq => ?_
  obtain ⟨v, l', rfl, hs, rfl, rfl⟩ := hq
  exact ⟨_, rfl, law_post laidOut_ O O u4 entry_batch_reads hW' O O O hs.below⟩
set_option maxRecDepth 100000 in
theorem entry_batch_lifted (os : Os) (started : os.Started) (H : Type) (enc : TypeId × Value → H) (F : Stop.Interp) :
    ReturnsInHanded {} Tryz.checked os 4 .any ((Rows.OpenSpec.upto Rows.entryBatchSpec).pre6 enc Tryz.prog Tryz.f4 Rows.entryBatchUptoRow.domain false) (((Rows.OpenSpec.upto Rows.entryBatchSpec).at F).post enc Tryz.prog Tryz.f4 false true false false) := by
  refine returnsInHanded_of_cond (C := Tryz.checked) (s := Rows.OpenSpec.upto Rows.entryBatchSpec) (k := Rows.uptoSmall) rfl own_ started (by kernel_rfl) Tryz.func4
    (OpenSpec.witness (enc := enc) (C := Tryz.checked) (s := Rows.OpenSpec.upto Rows.entryBatchSpec) (k := Rows.uptoSmall) rfl false ⟨#[], #[.slice none 0 0, .int .i64 0], []⟩ 8 (by kernel_rfl) (by kernel_rfl) (by kernel_rfl)
      (x := ([.nil, .lit (.int .i64 0)], [], [])) (by kernel_rfl) rfl (by kernel_rfl)) ?_
  intro W base args ds gs before hval hW _ hk _
  exact entry_batch_contract H enc W base args ds gs before hval hW hk
theorem entry_batch_holds : Rows.EntryBatchUptoSaid :=
  OpenClaim.holds_of_cond 4 Tryz.f4 O O O O O O O ⟨rfl, rfl, rfl, rfl, rfl⟩ O O O O O (by kernel_rfl) Tryz.func4 (by kernel_rfl)
    (of_decide_eq_true (by kernel_rfl)) (by unfold Func.isWrapper; first | (rw [if_pos (by decide +kernel)]; kernel_rfl) | (rw [if_neg (by decide +kernel)]; exact ⟨rfl, rfl⟩))
    (fun os started H enc _ F => entry_batch_lifted os started H enc F)
end
end Go.Proofs.YtimekohdlofmaaaGreat
