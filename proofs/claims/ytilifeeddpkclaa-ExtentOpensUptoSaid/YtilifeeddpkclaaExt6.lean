import Derived.Test.YtilifeeddpkclaaExt5
namespace Go.Proofs.Ytilifeeddpkclaa
open Go Go.SL
/-- The sectors of a snapshot, one behind the other. -/
def snapB (s : Sb) (D : Dk) : Nat → List Int
  | 0 => []
  | k + 1 => snapB s D k ++ D.read (2 + s.place * (D.half : Int) + k)
def snapS (s : Sb) (D : Dk) : List Int := (snapB s D ((s.size.toNat + 63) / 64)).take s.size.toNat
theorem snapB_length {D : Dk} (h : D.Ok) (s : Sb) : ∀ k, (snapB s D k).length = 64 * k
  | 0 => rfl
  | k + 1 => by simp [snapB, snapB_length h s k, h.readLen]; omega
theorem snapS_length {D : Dk} (h : D.Ok) (s : Sb) : (snapS s D).length = s.size.toNat := by
  simp only [snapS, List.length_take, snapB_length h]; omega
/-- A superblock that fits a disk. -/
structure Fits (s : Sb) (D : Dk) : Prop where
  hash : s.hash.length = 16
  place : s.place = 0 ∨ s.place = 1
  lo : 0 ≤ s.size
  hi : s.size ≤ 64 * D.half
  two : 2 ≤ D.safe.length
theorem Fits.ready {s : Sb} {D : Dk} (h : Fits s D) {k : Nat} (hk : k < (s.size.toNat + 63) / 64) : D.ready (2 + s.place * (D.half : Int) + k) = if D.dead then 7 else 0 := by
  have h1 := h.hi
  have h2 := h.lo
  have h3 := h.two
  have h4 : 4 * D.half ≤ D.safe.length - 2 := by unfold Dk.half; omega
  have h5 : 0 ≤ s.place * (D.half : Int) ∧ s.place * (D.half : Int) ≤ D.half := by
    rcases h.place with e | e <;> rw [e]
    · rw [Int.zero_mul]; omega
    · rw [Int.one_mul]; omega
  unfold Dk.ready
  rw [if_neg (show ¬ (2 + s.place * (D.half : Int) + k < 0 ∨ (D.safe.length : Int) ≤ 2 + s.place * (D.half : Int) + k) by omega)]
attribute [local irreducible] J JL JE JM LS Y Fc RV Code.wp wpList Code.wpIn wpListIn
attribute [local irreducible] Yc
variable (E : World)
theorem snapshot_spec (st d : Nat) (s : Sb) (D : Dk) (l : List HProp) (hf : Fits s D) (hdead : D.dead = false) (hpn : D.pending.length ≤ 1000000) :
    Fc prog E 50 [.pointer (some ⟨st, 0, none⟩)].toArray (row st 125 (scells s d) :: disk d D :: l)
      (fun v l' => if (sha (snapS s D)).take 16 = s.hash then ∃ a c, v = .tuple #[.slice a s.size.toNat c, .int .i64 0] ∧ l' = own 5 1 (.slice a s.size.toNat c) s.size.toNat (ints .u8 (snapS s D)) :: row st 125 (scells s d) :: disk d D :: l
        else v = .tuple #[.slice none 0 0, .int .i64 210] ∧ l' = row st 125 (scells s d) :: disk d D :: l) := by
  refine Fc.fact (p := D.Ok) (fun w q => (disk_open (q.pick (Pick.tail Pick.head))).elim fun _ ⟨_, _, _, h, _⟩ => h) fun hok => Fc.post ?_
  have hm := hok.most
  have hh := hf.hash
  have h2 := hf.two
  have hd := scells_disk (d := d) hh
  have hlo := hf.lo
  have hhi := hf.hi
  have hhalf : 4 * D.half ≤ 510 := by unfold Dk.half; omega
  have hpm : 0 ≤ s.place * (D.half : Int) ∧ s.place * (D.half : Int) ≤ D.half := by
    rcases hf.place with e | e <;> rw [e]
    · rw [Int.zero_mul]; omega
    · rw [Int.one_mul]; omega
  obtain ⟨z, hz⟩ : ∃ z : Nat, s.size = z := ⟨s.size.toNat, by omega⟩
  obtain ⟨n, hn⟩ : ∃ n, (z + 63) / 64 = n := ⟨_, rfl⟩
  have hzn : s.size.toNat = z := by omega
  have hready : ∀ k, k < n → D.ready (2 + s.place * (D.half : Int) + k) = 0 := fun k hk => by rw [hf.ready (by omega), hdead]; simp
  have hs1 : (scells s d)[2]? = some (Value.int .i64 z) := by rw [← hz]; rfl
  have hs16 : (ints .u8 s.hash).length = 16 := by simp [ints, hh]
  have hsb : snapS s D = (snapB s D n).take z := by rw [snapS, hzn, hn]
  rw [hzn]
  refine Fc.of_body (c := ?c) Try.func50 ?hb Try.ntmps50 ?hl ?_
  case hb => exact rfl
  case hl => exact rfl
  refine J.seq ?_
  refine J.region ?_
  refine JL.step (y_assign rfl) rfl rfl rfl (JL.step (y_assign rfl) rfl rfl rfl ?_)
  refine JL.nil ?_
  refine JE.then_normal ?_
  refine J.seq ?_
  refine J.seq ?_
  refine J.region ?_
  refine JL.step (y_move rfl) rfl rfl rfl (JL.step (y_ptr_eq_nil hT rfl rfl rfl rfl) rfl rfl rfl ?_)
  refine JL.nil ?_
  refine JE.then_normal ?_
  refine J.cond_f rfl (by (first | rfl | assumption | (simp; done) | (simp; omega))) ?_
  refine J.skip ?_
  refine JE.then_normal ?_
  refine J.seq ?_
  refine J.region ?_
  refine JL.step (y_move rfl) rfl rfl rfl ?_
  refine JL.step ((by first | exact y_nilCheck rfl | exact y_nilCheckF rfl | exact y_nilCheckY rfl)) rfl rfl rfl ?_
  refine JL.step (y_fieldAddr hT rfl rfl rfl rfl rfl rfl) rfl rfl rfl (JL.step (y_fieldAddr hT rfl rfl rfl rfl rfl rfl) rfl rfl rfl ?_)
  refine JL.step (y_load1 hT rfl rfl rfl (Rd1.row (by (repeat (first | exact Pick.head | apply Pick.tail | apply Pick.app))) hs1)) rfl rfl rfl ?_
  refine JL.step (y_add (m := ((z + 64 : Nat) : Int)) rfl rfl (by rw [show (z : Int) + 64 = ((z + 64 : Nat) : Int) by omega]; exact wrap_i64 (by omega) (by omega))) rfl rfl rfl ?_
  refine JL.loud rfl (l_makeSlice hT rfl rfl rfl rfl rfl rfl (by omega) (by omega) (mk_fits rfl (by omega) (by omega)) (by omega) rfl (fun bk => ?_))
  refine JL.pre (fun w q => q.own_made (by unfold maxLen; omega)) ?_
  refine JL.step (y_assign rfl) rfl rfl rfl ?_
  refine JL.nil ?_
  refine JE.then_normal ?_
  refine J.seq ?_
  refine J.seq ?_
  refine J.region ?_
  refine JL.step (y_assign rfl) rfl rfl rfl ?_
  refine JL.nil ?_
  refine JE.then_normal ?_
  refine J.block ?_
  refine J.loop (α := Nat × Value) (fun q => q.1 ≤ n ∧ ∃ a c, q.2 = .slice a (64 * q.1) c ∧ 1 ≤ c ∧ 64 * q.1 ≤ c) (fun q => [(0, .pointer (some ⟨st, 0, none⟩)), (4, q.2), (5, .int .i64 q.1)]) (fun q => own 5 1 q.2 (64 * q.1) (ints .u8 (snapB s D q.1)) :: row st 125 (scells s d) :: disk d D :: l) (fun q => n - q.1) (0, _) ⟨by simp, _, _, rfl, by omega, by omega⟩ ⟨rfl, rfl, rfl, trivial⟩ (fun w h => h) ?_
  rintro ⟨k, v⟩ ⟨hk, a, c, hv, hc, hc2⟩
  dsimp only at hk hv ⊢
  subst hv
  refine J.seq ?_
  refine J.seq ?_
  refine J.region ?_
  refine JL.step (y_move rfl) rfl rfl rfl (JL.step (y_len_slice hT rfl rfl rfl) rfl rfl rfl (JL.step (y_move rfl) rfl rfl rfl ?_))
  refine JL.step ((by first | exact y_nilCheck rfl | exact y_nilCheckF rfl | exact y_nilCheckY rfl)) rfl rfl rfl ?_
  refine JL.step (y_fieldAddr hT rfl rfl rfl rfl rfl rfl) rfl rfl rfl (JL.step (y_fieldAddr hT rfl rfl rfl rfl rfl rfl) rfl rfl rfl ?_)
  refine JL.step (y_load1 hT rfl rfl rfl (Rd1.row (by (repeat (first | exact Pick.head | apply Pick.tail | apply Pick.app))) hs1)) rfl rfl rfl ?_
  refine JL.step (y_lss rfl rfl) rfl rfl rfl ?_
  refine JL.nil ?_
  refine JE.then_normal ?_
  first | apply J.cond_dec rfl | apply J.cond rfl
  case' ht =>
    intro h
    try (first | (exfalso; omega) | (cases h; done) | (exfalso; simp at h; done) | subst h)
    all_goals
      refine J.skip ?_
  case' hf =>
    intro h
    try (first | (exfalso; omega) | (cases h; done) | (exfalso; simp at h; done) | subst h)
    all_goals
      refine J.exit ?_
      refine JE.then_exit ?_
      refine JE.then_exit ?_
      refine JE.block_exit ?_
      refine JE.then_normal ?_
      refine J.seq ?_
      have hkn : k = n := by omega
      rw [hkn]
      refine J.fact (fun w q => q.own_at) fun oa => ?_
      obtain ⟨g, rfl⟩ := oa.at_.resolve_right (fun ⟨h0, _⟩ => by omega)
      refine J.region ?_
      refine JL.step (y_move rfl) rfl rfl rfl (JL.step (y_move rfl) rfl rfl rfl ?_)
      refine JL.step ((by first | exact y_nilCheck rfl | exact y_nilCheckF rfl | exact y_nilCheckY rfl)) rfl rfl rfl ?_
      refine JL.step (y_fieldAddr hT rfl rfl rfl rfl rfl rfl) rfl rfl rfl (JL.step (y_fieldAddr hT rfl rfl rfl rfl rfl rfl) rfl rfl rfl ?_)
      refine JL.step (y_load1 hT rfl rfl rfl (Rd1.row (by (repeat (first | exact Pick.head | apply Pick.tail | apply Pick.app))) hs1)) rfl rfl rfl ?_
      refine JL.step (y_slice (lo := 0) (hi := z) hT rfl rfl rfl rfl (.inl ⟨rfl, rfl⟩) (.inr ⟨_, _, _, rfl, rfl, rfl⟩) (by omega) (by omega) oa.le (.inl rfl)) rfl rfl rfl ?_
      rw [if_neg (show ¬ c = 0 by omega)]
      refine JL.step (y_assign rfl) rfl rfl rfl ?_
      refine JL.nil ?_
      refine JE.then_normal ?_
      refine J.seq ?_
      refine J.seq ?_
      refine J.lists (l' := own 5 1 (.slice (some ⟨g, 0, none⟩) z c) z (ints .u8 (snapS s D)) :: row st 125 (scells s d) :: disk d D :: l) (fun w q => by
        have q1 := q.own_take (k := z) (by omega)
        have e : (ints .u8 (snapB s D n)).take (z * 1) = ints .u8 (snapS s D) := by rw [hsb]; simp [ints]
        rwa [e] at q1) ?_
      refine J.fact (fun w q => q.own_at) fun oz => ?_
      have hsl : (snapS s D).length = z := by rw [snapS_length hok, hzn]
      have hshort : ∀ l, InL l (some ⟨g, 0, none⟩) z c (ints .u8 (snapS s D)) → Fc prog E 70 [.slice (some ⟨g, 0, none⟩) z c].toArray l (fun v l' => v = .agg (ints .u8 ((sha (snapS s D)).take 16)).toArray ∧ l' = l) := fun l h => by
        have q := short_spec E (some ⟨g, 0, none⟩) c (snapS s D) l (by rwa [hsl]) (by omega)
        rwa [hsl] at q
      have hs16' : ((sha (snapS s D)).take 16).length = 16 := by rw [List.length_take, sha_length]; rfl
      refine J.draw _ _ [(0, .q), (1, .q), (2, .q), (3, .q), (4, .q), (5, .q), (6, .q), (7, .q)] mixed (by kernel_rfl) (Split.nil) ?_
      refine JM.quiet rfl rfl rfl rfl (fun m => y_move rfl) ?_
      refine JM.quiet rfl rfl rfl rfl (fun m => y_callF e70 rfl (hshort _ ((oz.inl Pick.head).app m))) ?_
      refine JM.quiet rfl rfl rfl rfl (fun m => y_move rfl) ?_
      refine JM.quiet rfl rfl rfl rfl (fun m => (by first | exact y_nilCheck rfl | exact y_nilCheckF rfl | exact y_nilCheckY rfl)) ?_
      refine JM.quiet rfl rfl rfl rfl (fun m => y_fieldAddr hT rfl rfl rfl rfl rfl rfl) ?_
      refine JM.quiet rfl rfl rfl rfl (fun m => y_fieldAddr hT rfl rfl rfl rfl rfl rfl) ?_
      refine JM.quiet rfl rfl rfl rfl (fun m => y_loadN hT rfl rfl rfl (RdN.row (n := 16) (vs := ints .u8 s.hash) (Pick.app m (by (repeat (first | exact Pick.head | apply Pick.tail | apply Pick.app)))) (by simp [scells, encS, ints, hh])) hs16) ?_
      refine JM.quiet rfl rfl rfl rfl (fun m => y_arr_ne (xs := (sha (snapS s D)).take 16) (ys := s.hash) hT rfl rfl rfl rfl rfl rfl rfl hs16' hh) ?_
      refine JM.nil ?_
      refine JE.then_normal ?_
      first | apply J.cond_dec rfl | apply J.cond rfl
      case' ht =>
        intro h
        try (first | (exfalso; omega) | (cases h; done) | (exfalso; simp at h; done) | subst h)
        all_goals
          refine J.seq ?_
          refine J.region ?_
          refine JL.step (y_assign rfl) rfl rfl rfl (JL.step (y_assign rfl) rfl rfl rfl ?_)
          refine JL.nil ?_
          refine JE.then_normal ?_
          refine J.ret ?_
          refine JE.then_ret ?_
          refine JE.ret2 (.inl rfl) rfl rfl (by (first | exact RV.tmp rfl | exact RV.cell1 hT rfl rfl rfl (by (exact Rd1.row (by (repeat (first | exact Pick.head | apply Pick.tail | apply Pick.app))) (by rfl))) | exact RV.cellN hT rfl rfl rfl (by (first | exact RdN.rowAll (by (repeat (first | exact Pick.head | apply Pick.tail | apply Pick.app))) | exact RdN.own (by (repeat (first | exact Pick.head | apply Pick.tail | apply Pick.app))))) (by (first | rfl | assumption | (simp; done) | omega)))) (by (first | exact RV.tmp rfl | exact RV.cell1 hT rfl rfl rfl (by (exact Rd1.row (by (repeat (first | exact Pick.head | apply Pick.tail | apply Pick.app))) (by rfl))) | exact RV.cellN hT rfl rfl rfl (by (first | exact RdN.rowAll (by (repeat (first | exact Pick.head | apply Pick.tail | apply Pick.app))) | exact RdN.own (by (repeat (first | exact Pick.head | apply Pick.tail | apply Pick.app))))) (by (first | rfl | assumption | (simp; done) | omega)))) ?_
          first
            | (have hne : ¬ (sha (snapS s D)).take 16 = s.hash := by simpa using h
               refine ⟨row st 125 (scells s d) :: disk d D :: l, fun w q => q.sup (by (repeat (first | exact Sup.refl | apply Sup.cons (by (repeat (first | exact Pick.head | apply Pick.tail | apply Pick.app))) | apply Sup.app | apply Sup.skip | apply Sup.skips))), ?_⟩
               rw [if_neg hne]
               exact ⟨rfl, rfl⟩)
            | (have hne : (sha (snapS s D)).take 16 = s.hash := by simpa using h
               refine ⟨own 5 1 (.slice (some ⟨g, 0, none⟩) z c) z (ints .u8 (snapS s D)) :: row st 125 (scells s d) :: disk d D :: l, fun w q => q.sup (by (repeat (first | exact Sup.refl | apply Sup.cons (by (repeat (first | exact Pick.head | apply Pick.tail | apply Pick.app))) | apply Sup.app | apply Sup.skip | apply Sup.skips))), ?_⟩
               rw [if_pos hne]
               exact ⟨some ⟨g, 0, none⟩, c, rfl, rfl⟩)
      case' hf =>
        intro h
        try (first | (exfalso; omega) | (cases h; done) | (exfalso; simp at h; done) | subst h)
        all_goals
          refine J.skip ?_
      all_goals refine JE.then_normal ?_
      all_goals
        refine J.seq ?_
        refine J.region ?_
        refine JL.step (y_move rfl) rfl rfl rfl (JL.step (y_assign rfl) rfl rfl rfl (JL.step (y_assign rfl) rfl rfl rfl ?_))
        refine JL.nil ?_
        refine JE.then_normal ?_
        refine J.ret ?_
        refine JE.ret2 (.inl rfl) rfl rfl (by (first | exact RV.tmp rfl | exact RV.cell1 hT rfl rfl rfl (by (exact Rd1.row (by (repeat (first | exact Pick.head | apply Pick.tail | apply Pick.app))) (by rfl))) | exact RV.cellN hT rfl rfl rfl (by (first | exact RdN.rowAll (by (repeat (first | exact Pick.head | apply Pick.tail | apply Pick.app))) | exact RdN.own (by (repeat (first | exact Pick.head | apply Pick.tail | apply Pick.app))))) (by (first | rfl | assumption | (simp; done) | omega)))) (by (first | exact RV.tmp rfl | exact RV.cell1 hT rfl rfl rfl (by (exact Rd1.row (by (repeat (first | exact Pick.head | apply Pick.tail | apply Pick.app))) (by rfl))) | exact RV.cellN hT rfl rfl rfl (by (first | exact RdN.rowAll (by (repeat (first | exact Pick.head | apply Pick.tail | apply Pick.app))) | exact RdN.own (by (repeat (first | exact Pick.head | apply Pick.tail | apply Pick.app))))) (by (first | rfl | assumption | (simp; done) | omega)))) ?_
        first
          | (have hne : ¬ (sha (snapS s D)).take 16 = s.hash := by simpa using h
             refine ⟨row st 125 (scells s d) :: disk d D :: l, fun w q => q.sup (by (repeat (first | exact Sup.refl | apply Sup.cons (by (repeat (first | exact Pick.head | apply Pick.tail | apply Pick.app))) | apply Sup.app | apply Sup.skip | apply Sup.skips))), ?_⟩
             rw [if_neg hne]
             exact ⟨rfl, rfl⟩)
          | (have hne : (sha (snapS s D)).take 16 = s.hash := by simpa using h
             refine ⟨own 5 1 (.slice (some ⟨g, 0, none⟩) z c) z (ints .u8 (snapS s D)) :: row st 125 (scells s d) :: disk d D :: l, fun w q => q.sup (by (repeat (first | exact Sup.refl | apply Sup.cons (by (repeat (first | exact Pick.head | apply Pick.tail | apply Pick.app))) | apply Sup.app | apply Sup.skip | apply Sup.skips))), ?_⟩
             rw [if_pos hne]
             exact ⟨some ⟨g, 0, none⟩, c, rfl, rfl⟩)
  all_goals refine JE.then_normal ?_
  all_goals
    refine J.seq ?_
    refine J.block ?_
    refine J.seq ?_
    have hrd := hready k (by omega)
    have hrl := hok.readLen (2 + s.place * (D.half : Int) + k)
    have hrL : (encB (D.read (2 + s.place * (D.half : Int) + k))).length = 64 := (encB_length _).trans hrl
    refine J.draw _ _ [(0, .q), (1, .q), (2, .q), (3, .q), (4, .q), (5, .q), (6, .q), (7, .q), (8, .q), (9, .q), (10, .q), (11, .q), (12, .q), (16, .q), (13, .l), (14, .q), (15, .q), (17, .q), (18, .l), (19, .q), (20, .q), (21, .q), (22, .n), (23, .l), (24, .q)] mixed (by kernel_rfl) (Split.cons (Pick.tail (Pick.tail Pick.head)) (Split.nil)) ?_
    refine JM.quiet rfl rfl rfl rfl (fun m => y_move rfl) ?_
    refine JM.quiet rfl rfl rfl rfl (fun m => (by first | exact y_nilCheck rfl | exact y_nilCheckF rfl | exact y_nilCheckY rfl)) ?_
    refine JM.quiet rfl rfl rfl rfl (fun m => y_fieldAddr hT rfl rfl rfl rfl rfl rfl) ?_
    refine JM.quiet rfl rfl rfl rfl (fun m => y_load1 hT rfl rfl rfl (Rd1.row (Pick.app m (by (repeat (first | exact Pick.head | apply Pick.tail | apply Pick.app)))) hd)) ?_
    refine JM.quiet rfl rfl rfl rfl (fun m => y_move rfl) ?_
    refine JM.quiet rfl rfl rfl rfl (fun m => (by first | exact y_nilCheck rfl | exact y_nilCheckF rfl | exact y_nilCheckY rfl)) ?_
    refine JM.quiet rfl rfl rfl rfl (fun m => y_fieldAddr hT rfl rfl rfl rfl rfl rfl) ?_
    refine JM.quiet rfl rfl rfl rfl (fun m => y_fieldAddr hT rfl rfl rfl rfl rfl rfl) ?_
    refine JM.quiet rfl rfl rfl rfl (fun m => y_load1 hT rfl rfl rfl (by (exact Rd1.row (Pick.app m (by (repeat (first | exact Pick.head | apply Pick.tail | apply Pick.app)))) (by rfl)))) ?_
    refine JM.quiet rfl rfl rfl rfl (fun m => y_move rfl) ?_
    refine JM.quiet rfl rfl rfl rfl (fun m => (by first | exact y_nilCheck rfl | exact y_nilCheckF rfl | exact y_nilCheckY rfl)) ?_
    refine JM.quiet rfl rfl rfl rfl (fun m => y_fieldAddr hT rfl rfl rfl rfl rfl rfl) ?_
    refine JM.quiet rfl rfl rfl rfl (fun m => y_load1 hT rfl rfl rfl (Rd1.row (Pick.app m (by (repeat (first | exact Pick.head | apply Pick.tail | apply Pick.app)))) hd)) ?_
    refine JM.quiet rfl rfl rfl rfl (fun m => y_move rfl) ?_
    refine JM.loud rfl rfl (fun fr => l_callF e73 rfl rfl (Fc.on (Split.cons (by (repeat (first | exact Pick.head | apply Pick.tail | apply Pick.app))) Split.nil) (h_spec E d D _ h2)) ?_)
    rintro _ _ ⟨rfl, rfl⟩
    refine ⟨[_], (by (repeat (first | exact Split.nil | exact Split.all | refine Split.cons Pick.head ?_))), ?_⟩
    refine JM.quiet rfl rfl rfl rfl (fun m => y_mul (m := s.place * (D.half : Int)) rfl rfl (wrap_i64 (by omega) (by omega))) ?_
    refine JM.quiet rfl rfl rfl rfl (fun m => y_add rfl rfl (by (first | exact wrap_i64 (by omega) (by omega) | rfl))) ?_
    refine JM.quiet rfl rfl rfl rfl (fun m => y_add rfl rfl (by (first | exact wrap_i64 (by omega) (by omega) | rfl))) ?_
    refine JM.loud rfl rfl (fun fr => l_callF e27 rfl rfl (Fc.on (Split.cons (by (repeat (first | exact Pick.head | apply Pick.tail | apply Pick.app))) Split.nil) (read_spec E d D (2 + s.place * (D.half : Int) + k) _ hpn)) ?_)
    rintro _ _ ⟨rfl, rfl⟩
    refine ⟨[_], (by (repeat (first | exact Split.nil | exact Split.all | refine Split.cons Pick.head ?_))), ?_⟩
    refine JM.quiet rfl rfl rfl rfl (fun m => y_move rfl) ?_
    refine JM.quiet rfl rfl rfl rfl (fun m => y_extract rfl rfl) ?_
    refine JM.quiet rfl rfl rfl rfl (fun m => y_extract rfl rfl) ?_
    refine JM.lay rfl rfl rfl rfl (fun a hf => lays_alloc hT rfl rfl (by (first | rfl | simp))) (fun b3 => ?_)
    refine JM.loud rfl rfl (fun fr => l_storeAll hT rfl rfl rfl (by (first | rfl | assumption | (simp; done) | omega)) (by (first | assumption | exact ones_of rfl | exact encW_one _ | exact encB_one _ | (intro u hu; simp at hu; rcases hu with rfl | rfl <;> rfl) | (intro u hu; simp at hu; subst hu; rfl) | simp)) (by (repeat (first | exact Pick.head | apply Pick.tail | apply Pick.app))) (by (first | rfl | assumption | (simp; done) | omega)) (⟨[_, _], (by (repeat (first | exact Split.nil | exact Split.all | refine Split.cons Pick.head ?_))), ?_⟩))
    refine JM.quiet rfl rfl rfl rfl (fun m => y_assign rfl) ?_
    refine JM.nil ?_
    refine JE.then_normal ?_
    refine J.seq ?_
    refine J.seq ?_
    rw [hrd]
    refine J.region ?_
    refine JL.step (y_move rfl) rfl rfl rfl (JL.step (y_neq rfl rfl) rfl rfl rfl ?_)
    refine JL.nil ?_
    refine JE.then_normal ?_
    first | apply J.cond_dec rfl | apply J.cond rfl
    case' ht =>
      intro h
      try (first | (exfalso; omega) | (cases h; done) | (exfalso; simp at h; done) | subst h)
      all_goals
        refine J.seq ?_
        refine J.region ?_
        refine JL.step (y_move rfl) rfl rfl rfl (JL.step (y_assign rfl) rfl rfl rfl (JL.step (y_assign rfl) rfl rfl rfl ?_))
        refine JL.nil ?_
        refine JE.then_normal ?_
        refine J.ret ?_
        refine JE.then_ret ?_
        refine JE.block_ret ?_
        refine JE.then_ret ?_
        refine JE.then_ret ?_
        refine JE.block_ret ?_
        refine JE.then_ret ?_
        refine JE.ret2 (.inl rfl) rfl rfl (by (first | exact RV.tmp rfl | exact RV.cell1 hT rfl rfl rfl (by (exact Rd1.row (by (repeat (first | exact Pick.head | apply Pick.tail | apply Pick.app))) (by rfl))) | exact RV.cellN hT rfl rfl rfl (by (first | exact RdN.rowAll (by (repeat (first | exact Pick.head | apply Pick.tail | apply Pick.app))) | exact RdN.own (by (repeat (first | exact Pick.head | apply Pick.tail | apply Pick.app))))) (by (first | rfl | assumption | (simp; done) | omega)))) (by (first | exact RV.tmp rfl | exact RV.cell1 hT rfl rfl rfl (by (exact Rd1.row (by (repeat (first | exact Pick.head | apply Pick.tail | apply Pick.app))) (by rfl))) | exact RV.cellN hT rfl rfl rfl (by (first | exact RdN.rowAll (by (repeat (first | exact Pick.head | apply Pick.tail | apply Pick.app))) | exact RdN.own (by (repeat (first | exact Pick.head | apply Pick.tail | apply Pick.app))))) (by (first | rfl | assumption | (simp; done) | omega)))) ?_
        first
          | (have hne : ¬ (sha (snapS s D)).take 16 = s.hash := by simpa using h
             refine ⟨row st 125 (scells s d) :: disk d D :: l, fun w q => q.sup (by (repeat (first | exact Sup.refl | apply Sup.cons (by (repeat (first | exact Pick.head | apply Pick.tail | apply Pick.app))) | apply Sup.app | apply Sup.skip | apply Sup.skips))), ?_⟩
             rw [if_neg hne]
             exact ⟨rfl, rfl⟩)
          | (have hne : (sha (snapS s D)).take 16 = s.hash := by simpa using h
             refine ⟨own 5 1 (.slice (some ⟨g, 0, none⟩) z c) z (ints .u8 (snapS s D)) :: row st 125 (scells s d) :: disk d D :: l, fun w q => q.sup (by (repeat (first | exact Sup.refl | apply Sup.cons (by (repeat (first | exact Pick.head | apply Pick.tail | apply Pick.app))) | apply Sup.app | apply Sup.skip | apply Sup.skips))), ?_⟩
             rw [if_pos hne]
             exact ⟨some ⟨g, 0, none⟩, c, rfl, rfl⟩)
    case' hf =>
      intro h
      try (first | (exfalso; omega) | (cases h; done) | (exfalso; simp at h; done) | subst h)
      all_goals
        refine J.skip ?_
    all_goals refine JE.then_normal ?_
    all_goals
      refine J.region ?_
      refine JL.step (y_move rfl) rfl rfl rfl ?_
      refine JL.step (y_slice_arr hT rfl rfl rfl rfl (.inl ⟨rfl, rfl⟩) (.inl ⟨rfl, rfl⟩) (by (first | omega | exact Nat.le_of_ble_eq_true rfl | decide | (simp; omega))) (by (first | omega | exact Nat.le_of_ble_eq_true rfl | decide | (simp; omega)))) rfl rfl rfl ?_
      refine JL.loud rfl (l_append hT rfl rfl rfl rfl rfl rfl rfl rfl (by (repeat (first | exact Pick.head | apply Pick.tail | apply Pick.app))) (by (first | exact RdN.rowAll (by (repeat (first | exact Pick.head | apply Pick.tail | apply Pick.app))) | exact RdN.own (by (repeat (first | exact Pick.head | apply Pick.tail | apply Pick.app))))) (by (first | rfl | assumption | (simp; done) | omega)) (by (first | assumption | exact ones_of rfl | exact encW_one _ | exact encB_one _ | (intro u hu; simp at hu; rcases hu with rfl | rfl <;> rfl) | (intro u hu; simp at hu; subst hu; rfl) | simp)) (by (exact Nat.le_trans (Nat.mul_le_mul_left _ (Nat.le_of_ble_eq_true rfl : _ ≤ 4096)) (by omega))) (by (first | omega | exact Nat.le_of_ble_eq_true rfl | decide | (simp; omega))) rfl (fun ab5 cb5 hb5 => ?_))
      refine JL.step (y_assign rfl) rfl rfl rfl ?_
      refine JL.nil ?_
    all_goals refine JE.block_normal ?_
    all_goals refine JE.then_normal ?_
    all_goals
      refine J.region ?_
      refine JL.step (y_move rfl) rfl rfl rfl ?_
      refine JL.step (y_add rfl rfl (by (first | exact wrap_i64 (by omega) (by omega) | rfl))) rfl rfl rfl ?_
      refine JL.step (y_assign rfl) rfl rfl rfl ?_
      refine JL.nil ?_
  all_goals
    refine JE.round (s := (k, Value.slice a (64 * k) c)) (k + 1, _) ⟨by dsimp only; omega, _, _, rfl, by omega, by dsimp only; omega⟩ ⟨rfl, rfl, rfl, trivial⟩ (fun w q => ?_) (by dsimp only; omega)
    have e : ints .u8 (snapB s D (k + 1)) = ints .u8 (snapB s D k) ++ encB (D.read (2 + s.place * (D.half : Int) + k)) := by rw [snapB]; simp [ints, encB]
    dsimp only
    rw [e]
    exact q.sup (by (repeat (first | exact Sup.refl | apply Sup.cons (by (repeat (first | exact Pick.head | apply Pick.tail | apply Pick.app))) | apply Sup.app | apply Sup.skip | apply Sup.skips)))
end Go.Proofs.Ytilifeeddpkclaa
