import Derived.Test.YtimekohdlofmaaaGreatJoin1
namespace Go.SL
open Go Go.RowKit
/-! Values of many cells: compared, and as keys of maps. -/
/-- A cell's kind. -/
inductive CK where
  | int (k : IntKind)
  | str
  | bool
def CK.fits : CK → Value → Prop
  | .int k, v => ∃ n, v = .int k n
  | .str, v => ∃ s, v = .string s
  | .bool, v => ∃ b, v = .bool b
def Fits : List CK → List Value → Prop
  | [], [] => True
  | k :: ks, v :: vs => k.fits v ∧ Fits ks vs
  | _, _ => False
theorem Fits.length : ∀ {ks : List CK} {vs : List Value}, Fits ks vs → vs.length = ks.length
  | [], [], _ => rfl
  | _ :: _, _ :: _, h => by simp [Fits.length h.2]
  | [], _ :: _, h => h.elim
  | _ :: _, [], h => h.elim
theorem Fits.append : ∀ {k1 k2 : List CK} {vs : List Value}, Fits (k1 ++ k2) vs ↔ Fits k1 (vs.take k1.length) ∧ Fits k2 (vs.drop k1.length)
  | [], k2, vs => by simp [Fits]
  | k :: k1, k2, [] => by simp [Fits]
  | k :: k1, k2, v :: vs => by
    simp only [List.cons_append, Fits, List.length_cons, List.take_succ_cons, List.drop_succ_cons]
    rw [Fits.append (k1 := k1)]
    exact and_assoc.symm
theorem Fits.app {k1 k2 : List CK} {v1 v2 : List Value} (h1 : Fits k1 v1) (h2 : Fits k2 v2) : Fits (k1 ++ k2) (v1 ++ v2) := by
  rw [Fits.append, ← h1.length, List.take_left, List.drop_left]
  exact ⟨h1, h2⟩
theorem Fits.ints (k : IntKind) : ∀ xs : List Int, Fits (List.replicate xs.length (.int k)) (SL.ints k xs)
  | [] => trivial
  | x :: xs => ⟨⟨x, rfl⟩, Fits.ints k xs⟩
def flatF (f : TypeId → Option (List CK)) : Nat → List Field → Option (List CK)
  | _, [] => some []
  | off, fd :: r => if fd.offset = off ∧ fd.name ≠ "_" then
      match f fd.type with
      | none => none
      | some ks => match flatF f (off + ks.length) r with
        | none => none
        | some rs => some (ks ++ rs)
    else none
def flatU (f : TypeId → Option (List CK)) : TypeDesc → Option (List CK)
  | .int k => some [.int k]
  | .string => some [.str]
  | .bool => some [.bool]
  | .array m e => match f e with
    | none => none
    | some ks => some (List.replicate m ks).flatten
  | .struct fs => flatF f 0 fs.toList
  | _ => none
/-- The kinds of a type's cells, if they are whole numbers, texts and bools alone. -/
def flatK (T : Tab) : Nat → TypeId → Option (List CK)
  | 0, _ => none
  | n + 1, t => match T.at t with
    | none => none
    | some i => match flatU (flatK T n) i.u with
      | none => none
      | some ks => if ks.length = i.size then some ks else none
theorem flatK_at {T : Tab} {n : Nat} {t : TypeId} {ks : List CK} (h : flatK T (n + 1) t = some ks) : ∃ i, T.at t = some i ∧ flatU (flatK T n) i.u = some ks ∧ ks.length = i.size := by
  rw [flatK] at h
  cases e1 : T.at t with
  | none => rw [e1] at h; cases h
  | some i =>
    rw [e1] at h
    cases e2 : flatU (flatK T n) i.u with
    | none => simp only [e2] at h; cases h
    | some k2 =>
      simp only [e2] at h
      split at h
      · cases h; rename_i e3; exact ⟨i, rfl, e2, e3⟩
      · cases h
theorem take_split {α : Type} (L : List α) (off a b : Nat) : (L.drop off).take (a + b) = (L.drop off).take a ++ (L.drop (off + a)).take b := by
  rw [List.take_add, List.drop_drop]
section
variable {P : Program} {T : Tab}
theorem part_one (hT : Tok P T) {w : World} {t : TypeId} {i : TI} {X : Array Value} {off : Nat} {v : Value} (hi : T.at t = some i) (ha : isAggB i.u = false) (h : X.toList[off]? = some v) : (part t X off).run P w = .ok v w := by
  have h2 := hT.agg w hi
  have e : X[off]? = some v := by rw [← Array.getElem?_toList]; exact h
  simp [part, h2, ha, e]
theorem part_agg (hT : Tok P T) {w : World} {t : TypeId} {i : TI} {X : Array Value} {off : Nat} (hi : T.at t = some i) (ha : isAggB i.u = true) : (part t X off).run P w = .ok (.agg (X.extract off (off + i.size))) w := by
  have h2 := hT.agg w hi
  have h3 := hT.siz w hi
  simp [part, h2, ha, h3]
theorem drop_one {L : List Value} {off : Nat} {k : CK} (h : Fits [k] ((L.drop off).take 1)) : ∃ v, L[off]? = some v ∧ (L.drop off).take 1 = [v] ∧ k.fits v := by
  cases e : L.drop off with
  | nil => rw [e] at h; exact h.elim
  | cons v r =>
    rw [e] at h
    refine ⟨v, ?_, by simp, h.1⟩
    have := congrArg (fun (z : List Value) => z[0]?) e
    simpa using this
theorem extract_list (X : Array Value) (off n : Nat) : (X.extract off (off + n)).toList = (X.toList.drop off).take n := by
  rw [Array.toList_extract, List.extract_eq_take_drop]
  congr 1
  omega
theorem chunks_eq {k : Nat} : ∀ (m : Nat) (A B : List Value), A.length = m * k → B.length = m * k → ((∀ a, a < m → (A.drop (a * k)).take k = (B.drop (a * k)).take k) ↔ A = B)
  | 0, A, B, ha, hb => by
    rw [Nat.zero_mul] at ha hb
    rw [List.eq_nil_of_length_eq_zero ha, List.eq_nil_of_length_eq_zero hb]
    simp
  | m + 1, A, B, ha, hb => by
    have e : (m + 1) * k = k + m * k := by rw [Nat.add_mul]; omega
    rw [e] at ha hb
    have ih := chunks_eq (k := k) m (A.drop k) (B.drop k) (by rw [List.length_drop]; omega) (by rw [List.length_drop]; omega)
    constructor
    · intro h
      have h0 := h 0 (by omega)
      rw [Nat.zero_mul, List.drop_zero, List.drop_zero] at h0
      have h1 := ih.1 fun a ha => by
        have := h (a + 1) (by omega)
        rw [List.drop_drop, List.drop_drop]
        rwa [show (a + 1) * k = k + a * k by rw [Nat.add_mul]; omega] at this
      rw [← List.take_append_drop k A, ← List.take_append_drop k B, h0, h1]
    · rintro rfl a _
      rfl
theorem Fits.rep {ks : List CK} : ∀ (m : Nat) {vs : List Value}, Fits (List.replicate m ks).flatten vs → ∀ a, a < m → Fits ks ((vs.drop (a * ks.length)).take ks.length)
  | m + 1, vs, h, 0, _ => by
    rw [List.replicate_succ, List.flatten_cons, Fits.append] at h
    simpa using h.1
  | m + 1, vs, h, a + 1, ha => by
    rw [List.replicate_succ, List.flatten_cons, Fits.append] at h
    have := Fits.rep m h.2 a (by omega)
    rwa [List.drop_drop, show ks.length + a * ks.length = (a + 1) * ks.length by rw [Nat.add_mul]; omega] at this
theorem holds_struct {n : Nat} {t : TypeId} {fs : Array Field} (h : P.holdsStoodIn (n + 1) t = false) (hu : P.underlying t = some (.struct fs)) : P.stoodInHeld t = false ∧ ∀ f ∈ fs.toList, P.holdsStoodIn n f.type = false := by
  rw [Program.holdsStoodIn, hu] at h
  simp only [Bool.or_eq_false_iff] at h
  refine ⟨h.1, fun f hf => ?_⟩
  have h2 := h.2
  rw [← Array.any_toList, List.any_eq_false] at h2
  simpa using h2 f hf
theorem holds_array {n m : Nat} {t e : TypeId} (h : P.holdsStoodIn (n + 1) t = false) (hu : P.underlying t = some (.array m e)) : P.holdsStoodIn n e = false := by
  rw [Program.holdsStoodIn, hu] at h
  simp only [Bool.or_eq_false_iff] at h
  exact h.2
theorem flat_eq (hT : Tok P T) (q : Nat) (w : World) : ∀ (n : Nat) (t : TypeId) (ks : List CK), flatK T n t = some ks → P.holdsStoodIn n t = false → ∀ (X Y : Array Value) (off : Nat), Fits ks ((X.toList.drop off).take ks.length) → Fits ks ((Y.toList.drop off).take ks.length) →
    ∃ (r : Bool) (a b : Value), (part t X off).run P w = .ok a w ∧ (part t Y off).run P w = .ok b w ∧ (Op.equalIn (q + n) t a b).run P w = .ok r w ∧ (r = true ↔ (X.toList.drop off).take ks.length = (Y.toList.drop off).take ks.length)
  | 0, t, ks, h, _, _, _, _, _, _ => by cases h
  | n + 1, t, ks, h, hs, X, Y, off, fx, fy => by
    classical
    obtain ⟨i, hi, hu, hl⟩ := flatK_at h
    have hut := (hT t i hi).1
    have IH := flat_eq hT q w n
    rw [show q + (n + 1) = (q + n) + 1 by omega]
    cases hk : i.u with
    | int k =>
      rw [hk] at hu hut
      cases hu
      obtain ⟨x, hx1, hx2, ⟨a, rfl⟩⟩ := drop_one fx
      obtain ⟨y, hy1, hy2, ⟨b, rfl⟩⟩ := drop_one fy
      refine ⟨a == b, _, _, part_one hT hi (by rw [hk]; rfl) hx1, part_one hT hi (by rw [hk]; rfl) hy1, run_equalIn_int w _ t k k a b hut, ?_⟩
      simp only [List.length_cons, List.length_nil, Nat.zero_add]
      rw [hx2, hy2]
      simp
    | string =>
      rw [hk] at hu hut
      cases hu
      obtain ⟨x, hx1, hx2, ⟨a, rfl⟩⟩ := drop_one fx
      obtain ⟨y, hy1, hy2, ⟨b, rfl⟩⟩ := drop_one fy
      refine ⟨decide (a = b), _, _, part_one hT hi (by rw [hk]; rfl) hx1, part_one hT hi (by rw [hk]; rfl) hy1, by rw [run_equalIn_string w _ t a b hut, bytes_beq], ?_⟩
      simp only [List.length_cons, List.length_nil, Nat.zero_add]
      rw [hx2, hy2]
      simp
    | bool =>
      rw [hk] at hu hut
      cases hu
      obtain ⟨x, hx1, hx2, ⟨a, rfl⟩⟩ := drop_one fx
      obtain ⟨y, hy1, hy2, ⟨b, rfl⟩⟩ := drop_one fy
      refine ⟨a == b, _, _, part_one hT hi (by rw [hk]; rfl) hx1, part_one hT hi (by rw [hk]; rfl) hy1, run_equalIn_bool' w _ t a b hut, ?_⟩
      simp only [List.length_cons, List.length_nil, Nat.zero_add]
      rw [hx2, hy2]
      simp
    | array m e =>
      rw [hk] at hu hut
      rw [flatU] at hu
      cases he : flatK T n e with
      | none => rw [he] at hu; cases hu
      | some ke =>
        rw [he] at hu
        simp only [Option.some.injEq] at hu
        obtain ⟨j, hj, hlj⟩ : ∃ j, T.at e = some j ∧ ke.length = j.size := by
          cases n with
          | zero => cases he
          | succ n => obtain ⟨j, h1, _, h3⟩ := flatK_at he; exact ⟨j, h1, h3⟩
        have hse := holds_array hs hut
        have hlk : ks.length = m * ke.length := by rw [← hu]; simp
        refine ⟨(List.range' 0 m 1).all fun a => decide ((X.toList.drop (off + a * ke.length)).take ke.length = (Y.toList.drop (off + a * ke.length)).take ke.length), _, _, part_agg hT hi (by rw [hk]; rfl), part_agg hT hi (by rw [hk]; rfl), ?_, ?_⟩
        · have h3 : (sizeOf e).run P w = .ok ke.length w := by rw [hT.siz w hj, hlj]
          rw [Op.equalIn]
          simp only [Sem.run_bind, run_underlying hut, Result.andThen_ok, h3, Std.Legacy.Range.forIn_eq_forIn_range', Std.Legacy.Range.size, Nat.sub_zero, Nat.add_sub_cancel, Nat.div_one]
          have hlt : ∀ a ∈ List.range' 0 m 1, a < m := fun a ha => by simpa using (List.mem_range'_1.1 ha).2
          generalize List.range' 0 m 1 = l at hlt ⊢
          induction l with
          | nil => simp
          | cons a l ih =>
            have ha : a < m := hlt a (by simp)
            have hcut : ∀ Z : Array Value, ((Z.extract off (off + i.size)).toList.drop (a * ke.length)).take ke.length = (Z.toList.drop (off + a * ke.length)).take ke.length := fun Z => by
              rw [extract_list, ← hl, hlk, List.drop_take, List.take_take, List.drop_drop, Nat.min_eq_left]
              have := Nat.mul_le_mul_right ke.length (show a + 1 ≤ m from ha)
              rw [Nat.add_mul] at this
              omega
            have hfit : ∀ Z : Array Value, Fits ks ((Z.toList.drop off).take ks.length) → Fits ke (((Z.extract off (off + i.size)).toList.drop (a * ke.length)).take ke.length) := fun Z hz => by
              have hz2 : Fits (List.replicate m ke).flatten ((Z.toList.drop off).take ks.length) := by rw [hu]; exact hz
              have := hz2.rep m a ha
              rwa [extract_list, ← hl]
            obtain ⟨r, va, vb, p1, p2, p3, p4⟩ := IH e ke he hse (X.extract off (off + i.size)) (Y.extract off (off + i.size)) (a * ke.length) (hfit X fx) (hfit Y fy)
            rw [hcut X, hcut Y] at p4
            have hr : r = decide ((X.toList.drop (off + a * ke.length)).take ke.length = (Y.toList.drop (off + a * ke.length)).take ke.length) := by
              rw [Bool.eq_iff_iff, p4, decide_eq_true_iff]
            subst hr
            simp only [List.forIn_cons, Sem.run_bind, p1, p2, p3, Result.andThen_ok, List.all_cons]
            cases hb : decide ((X.toList.drop (off + a * ke.length)).take ke.length = (Y.toList.drop (off + a * ke.length)).take ke.length)
            · simp
            · simp only [Bool.not_true, Bool.false_eq_true, if_false, Sem.run_pure, Result.andThen_ok, Bool.true_and]
              exact ih fun b hb => hlt b (by simp [hb])
        · rw [List.all_eq_true, ← chunks_eq m _ _ (by rw [fx.length, hlk]) (by rw [fy.length, hlk])]
          have hcut : ∀ (Z : Array Value) (a : Nat), a < m → (((Z.toList.drop off).take ks.length).drop (a * ke.length)).take ke.length = (Z.toList.drop (off + a * ke.length)).take ke.length := fun Z a ha => by
            rw [hlk, List.drop_take, List.take_take, List.drop_drop, Nat.min_eq_left]
            have := Nat.mul_le_mul_right ke.length (show a + 1 ≤ m from ha)
            rw [Nat.add_mul] at this
            omega
          constructor
          · intro hall a ha
            rw [hcut X a ha, hcut Y a ha]
            exact of_decide_eq_true (hall a (by rw [List.mem_range'_1]; omega))
          · intro hall a ha
            have ha : a < m := by simpa using (List.mem_range'_1.1 ha).2
            have := hall a ha
            rw [hcut X a ha, hcut Y a ha] at this
            exact decide_eq_true this
    | struct fs =>
      rw [hk] at hu hut
      rw [flatU] at hu
      obtain ⟨hst, hsf⟩ := holds_struct hs hut
      have hfo : P.fieldsOf t = fs := by unfold Program.fieldsOf; rw [hut]
      have key : ∀ (l : List Field) (o : Nat) (kf : List CK), flatF (flatK T n) o l = some kf → (∀ f ∈ l, P.holdsStoodIn n f.type = false) → ∀ X Y : Array Value, Fits kf ((X.toList.drop o).take kf.length) → Fits kf ((Y.toList.drop o).take kf.length) →
          ∃ r : Bool, (Op.eqFields (q + n) X Y l).run P w = .ok r w ∧ (r = true ↔ (X.toList.drop o).take kf.length = (Y.toList.drop o).take kf.length) := by
        intro l
        induction l with
        | nil => intro o kf hf _ X Y _ _; cases hf; exact ⟨true, by simp [Op.eqFields], by simp⟩
        | cons f l ih =>
          intro o kf hf hsl X Y gx gy
          rw [flatF] at hf
          split at hf
          · rename_i hc
            obtain ⟨ho, hn⟩ := hc
            cases e1 : flatK T n f.type with
            | none => rw [e1] at hf; cases hf
            | some k1 =>
              rw [e1] at hf
              simp only at hf
              cases e2 : flatF (flatK T n) (o + k1.length) l with
              | none => rw [e2] at hf; cases hf
              | some k2 =>
                rw [e2] at hf
                cases hf
                rw [List.length_append, take_split] at gx gy ⊢
                rw [take_split]
                have l1 : ∀ {Z : Array Value}, Fits (k1 ++ k2) ((Z.toList.drop o).take k1.length ++ (Z.toList.drop (o + k1.length)).take k2.length) → Fits k1 ((Z.toList.drop o).take k1.length) ∧ Fits k2 ((Z.toList.drop (o + k1.length)).take k2.length) := fun {Z} g => by
                  have gl := g.length
                  have e3 : ((Z.toList.drop o).take k1.length).length = k1.length := by
                    rw [List.length_append, List.length_append, List.length_take, List.length_take] at gl
                    rw [List.length_take]
                    omega
                  rw [Fits.append] at g
                  rw [List.take_left' e3, List.drop_left' e3] at g
                  exact g
                obtain ⟨gx1, gx2⟩ := l1 gx
                obtain ⟨gy1, gy2⟩ := l1 gy
                obtain ⟨r, a, b, p1, p2, p3, p4⟩ := IH f.type k1 e1 (hsl f (by simp)) X Y o gx1 gy1
                obtain ⟨r2, p5, p6⟩ := ih _ _ e2 (fun g hg => hsl g (by simp [hg])) X Y gx2 gy2
                subst ho
                have hlen : ((X.toList.drop f.offset).take k1.length).length = ((Y.toList.drop f.offset).take k1.length).length := by rw [gx1.length, gy1.length]
                refine ⟨r && r2, ?_, ?_⟩
                · rw [Op.eqFields, if_pos hn]
                  simp only [Sem.run_bind, p1, p2, p3, Result.andThen_ok]
                  cases r
                  · simp
                  · simpa using p5
                · rw [Bool.and_eq_true, p4, p6]
                  constructor
                  · rintro ⟨h1, h2⟩; rw [h1, h2]
                  · intro h; exact List.append_inj h hlen
          · cases hf
      have hcut : ∀ Z : Array Value, ((Z.extract off (off + i.size)).toList.drop 0).take ks.length = (Z.toList.drop off).take ks.length := fun Z => by
        rw [extract_list, List.drop_zero, List.take_take, hl, Nat.min_self]
      obtain ⟨r, p1, p2⟩ := key fs.toList 0 ks hu hsf (X.extract off (off + i.size)) (Y.extract off (off + i.size)) (by rw [hcut]; exact fx) (by rw [hcut]; exact fy)
      rw [hcut, hcut] at p2
      refine ⟨r, _, _, part_agg hT hi (by rw [hk]; rfl), part_agg hT hi (by rw [hk]; rfl), ?_, p2⟩
      rw [run_equalIn_struct w (q + n) t _ _ (by rw [hfo]; exact hut) hst, hfo]
      exact p1
    | _ => rw [hk] at hu; cases hu
theorem flat_chk (hT : Tok P T) (em : Bool) (q : Nat) (w : World) : ∀ (n : Nat) (t : TypeId) (ks : List CK), flatK T n t = some ks → ∀ (X : Array Value) (off : Nat), Fits ks ((X.toList.drop off).take ks.length) →
    ∃ a, (part t X off).run P w = .ok a w ∧ (Instr.checkKey em (q + n) t a).run P w = .ok () w
  | 0, t, ks, h, _, _, _ => by cases h
  | n + 1, t, ks, h, X, off, fx => by
    obtain ⟨i, hi, hu, hl⟩ := flatK_at h
    have hut := (hT t i hi).1
    have IH := flat_chk hT em q w n
    rw [show q + (n + 1) = (q + n) + 1 by omega]
    cases hk : i.u with
    | int k =>
      rw [hk] at hu hut
      cases hu
      obtain ⟨x, hx1, hx2, ⟨a, rfl⟩⟩ := drop_one fx
      refine ⟨_, part_one hT hi (by rw [hk]; rfl) hx1, ?_⟩
      rw [Instr.checkKey.eq_def]
      simp [run_underlying hut]
    | string =>
      rw [hk] at hu hut
      cases hu
      obtain ⟨x, hx1, hx2, ⟨a, rfl⟩⟩ := drop_one fx
      refine ⟨_, part_one hT hi (by rw [hk]; rfl) hx1, ?_⟩
      rw [Instr.checkKey.eq_def]
      simp [run_underlying hut]
    | bool =>
      rw [hk] at hu hut
      cases hu
      obtain ⟨x, hx1, hx2, ⟨a, rfl⟩⟩ := drop_one fx
      refine ⟨_, part_one hT hi (by rw [hk]; rfl) hx1, ?_⟩
      rw [Instr.checkKey.eq_def]
      simp [run_underlying hut]
    | array m e =>
      rw [hk] at hu hut
      rw [flatU] at hu
      cases he : flatK T n e with
      | none => rw [he] at hu; cases hu
      | some ke =>
        rw [he] at hu
        simp only [Option.some.injEq] at hu
        obtain ⟨j, hj, hlj⟩ : ∃ j, T.at e = some j ∧ ke.length = j.size := by
          cases n with
          | zero => cases he
          | succ n => obtain ⟨j, h1, _, h3⟩ := flatK_at he; exact ⟨j, h1, h3⟩
        refine ⟨_, part_agg hT hi (by rw [hk]; rfl), ?_⟩
        have h3 : (sizeOf e).run P w = .ok ke.length w := by rw [hT.siz w hj, hlj]
        rw [Instr.checkKey.eq_def]
        simp only [Sem.run_bind, run_underlying hut, Result.andThen_ok, Std.Legacy.Range.forIn_eq_forIn_range', Std.Legacy.Range.size, Nat.sub_zero, Nat.add_sub_cancel, Nat.div_one]
        have hlt : ∀ a ∈ List.range' 0 m 1, a < m := fun a ha => by simpa using (List.mem_range'_1.1 ha).2
        generalize List.range' 0 m 1 = l at hlt ⊢
        induction l with
        | nil => simp
        | cons a l ih =>
          have ha : a < m := hlt a (by simp)
          have hfit : Fits ke (((X.extract off (off + i.size)).toList.drop (a * ke.length)).take ke.length) := by
            have hz2 : Fits (List.replicate m ke).flatten ((X.toList.drop off).take ks.length) := by rw [hu]; exact fx
            have := hz2.rep m a ha
            rwa [extract_list, ← hl]
          obtain ⟨va, p1, p2⟩ := IH e ke he (X.extract off (off + i.size)) (a * ke.length) hfit
          simp only [List.forIn_cons, Sem.run_bind, h3, p1, p2, Result.andThen_ok, Sem.run_pure]
          exact ih fun b hb => hlt b (by simp [hb])
    | struct fs =>
      rw [hk] at hu hut
      rw [flatU] at hu
      refine ⟨_, part_agg hT hi (by rw [hk]; rfl), ?_⟩
      have hcut : ((X.extract off (off + i.size)).toList.drop 0).take ks.length = (X.toList.drop off).take ks.length := by
        rw [extract_list, List.drop_zero, List.take_take, hl, Nat.min_self]
      have gx : Fits ks (((X.extract off (off + i.size)).toList.drop 0).take ks.length) := by rw [hcut]; exact fx
      rw [Instr.checkKey.eq_def]
      simp only [Sem.run_bind, run_underlying hut, Result.andThen_ok]
      rw [← Array.forIn_toList]
      generalize X.extract off (off + i.size) = Z at gx ⊢
      clear hcut fx
      generalize 0 = o at hu gx
      generalize fs.toList = l at hu ⊢
      clear h hl
      induction l generalizing o ks with
      | nil => simp
      | cons f l ih =>
        rw [flatF] at hu
        split at hu
        · rename_i hc
          obtain ⟨ho, hn⟩ := hc
          cases e1 : flatK T n f.type with
          | none => rw [e1] at hu; cases hu
          | some k1 =>
            rw [e1] at hu
            simp only at hu
            cases e2 : flatF (flatK T n) (o + k1.length) l with
            | none => rw [e2] at hu; cases hu
            | some k2 =>
              rw [e2] at hu
              cases hu
              rw [List.length_append, take_split] at gx
              have gl := gx.length
              have e3 : ((Z.toList.drop o).take k1.length).length = k1.length := by
                rw [List.length_append, List.length_append, List.length_take, List.length_take] at gl
                rw [List.length_take]
                omega
              rw [Fits.append, List.take_left' e3, List.drop_left' e3] at gx
              obtain ⟨a, p1, p2⟩ := IH f.type k1 e1 Z o gx.1
              subst ho
              simp only [List.forIn_cons, Sem.run_bind, hn, ne_eq, not_false_eq_true, if_true, p1, p2, Result.andThen_ok, Sem.run_pure]
              exact ih _ _ gx.2 e2
        · cases hu
    | _ => rw [hk] at hu; cases hu
theorem flat_same (n : Nat) : ∀ (ks : List CK) (vs : List Value), Fits ks vs → (vs.zip vs).all (fun (x, y) => Instr.sameBits n x y) = true
  | [], [], _ => rfl
  | k :: ks, v :: vs, h => by
    rw [List.zip_cons_cons, List.all_cons, flat_same n ks vs h.2, Bool.and_true]
    have h1 := h.1
    cases k with
    | int k => obtain ⟨a, rfl⟩ := h1; unfold Instr.sameBits; simp
    | str => obtain ⟨a, rfl⟩ := h1; unfold Instr.sameBits; exact (beq_str a a).trans (by simp)
    | bool => obtain ⟨a, rfl⟩ := h1; unfold Instr.sameBits; simp
/-- Whole values are equal if their cells are. -/
theorem flat_equal (hT : Tok P T) {n : Nat} {t : TypeId} {i : TI} {ks : List CK} (hk : flatK T n t = some ks) (hn : Nat.ble n 10000 = true) (hs : P.holdsStoodIn n t = false) (hi : T.at t = some i) (ha : isAggB i.u = true) (w : World) {xs ys : List Value} (fx : Fits ks xs) (fy : Fits ks ys) :
    ∃ r : Bool, (Op.equalIn 10000 t (.agg xs.toArray) (.agg ys.toArray)).run P w = .ok r w ∧ (r = true ↔ xs = ys) := by
  have hn := Nat.le_of_ble_eq_true hn
  have hl : ks.length = i.size := by
    cases n with
    | zero => cases hk
    | succ n => obtain ⟨j, h1, _, h3⟩ := flatK_at hk; rw [hi] at h1; cases h1; exact h3
  have ex : (xs.toArray.toList.drop 0).take ks.length = xs := by simp [← fx.length]
  have ey : (ys.toArray.toList.drop 0).take ks.length = ys := by simp [← fy.length]
  obtain ⟨r, a, b, p1, p2, p3, p4⟩ := flat_eq hT (10000 - n) w n t ks hk hs xs.toArray ys.toArray 0 (by rw [ex]; exact fx) (by rw [ey]; exact fy)
  rw [ex, ey] at p4
  have q1 : ∀ zs : List Value, Fits ks zs → zs.toArray.extract 0 (0 + i.size) = zs.toArray := fun zs hz => by
    have := hz.length
    apply Array.ext'
    rw [extract_list, ← hl, List.drop_zero]
    simp [← this]
  have p1' := part_agg hT (w := w) (X := xs.toArray) (off := 0) hi ha
  have p2' := part_agg hT (w := w) (X := ys.toArray) (off := 0) hi ha
  rw [p1] at p1'
  rw [p2] at p2'
  rw [q1 xs fx] at p1'
  rw [q1 ys fy] at p2'
  simp only [Result.ok.injEq, and_true] at p1' p2'
  subst p1' p2'
  rw [show 10000 - n + n = 10000 by omega] at p3
  exact ⟨r, p3, p4⟩
theorem keyFlat (hT : Tok P T) {α : Type} [DecidableEq α] {n : Nat} {kt : TypeId} {i : TI} {ks : List CK} {cells : α → List Value} {ok : α → Prop} (hk : flatK T n kt = some ks) (hn : Nat.ble n 10000 = true) (hs : P.holdsStoodIn n kt = false) (hi : T.at kt = some i) (ha : isAggB i.u = true)
    (hf : ∀ a, ok a → Fits ks (cells a)) (hinj : ∀ a b, ok a → ok b → cells a = cells b → a = b) : KeyOk P kt (fun a => .agg (cells a).toArray) ok where
  chk w em a hoa := by
    have hn := Nat.le_of_ble_eq_true hn
    have hl : ks.length = i.size := by
      cases n with
      | zero => cases hk
      | succ n => obtain ⟨j, h1, _, h3⟩ := flatK_at hk; rw [hi] at h1; cases h1; exact h3
    have fx := hf a hoa
    have ex : ((cells a).toArray.toList.drop 0).take ks.length = cells a := by simp [← fx.length]
    obtain ⟨v, p1, p2⟩ := flat_chk hT em (10000 - n) w n kt ks hk (cells a).toArray 0 (by rw [ex]; exact fx)
    have p1' := part_agg hT (w := w) (X := (cells a).toArray) (off := 0) hi ha
    rw [p1] at p1'
    have q1 : (cells a).toArray.extract 0 (0 + i.size) = (cells a).toArray := by
      apply Array.ext'
      rw [extract_list, ← hl, List.drop_zero]
      simp [← fx.length]
    rw [q1] at p1'
    simp only [Result.ok.injEq, and_true] at p1'
    subst p1'
    rw [show 10000 - n + n = 10000 by omega] at p2
    exact p2
  now := by
    obtain ⟨h1, _⟩ := hT kt i hi
    refine ⟨_, h1, .inr ⟨fun a b _ _ => by cases i.u <;> rfl, fun w a b hoa hob => ?_⟩⟩
    obtain ⟨r, p1, p2⟩ := flat_equal hT hk hn hs hi ha w (hf a hoa) (hf b hob)
    have e : r = decide (a = b) := by
      rw [Bool.eq_iff_iff, p2, decide_eq_true_iff]
      exact ⟨hinj a b hoa hob, fun h => by rw [h]⟩
    subst e
    exact p1
  same a hoa := by
    unfold Instr.sameBits
    simp only [BEq.rfl, Bool.true_and]
    exact flat_same 9999 ks (cells a) (hf a hoa)
end
section
variable {P : Program} {E : World} {n : Nat} {ds : List Deferred} {env : Fr} {l : List HProp} {T : Tab}
variable {dst : Option Tmp} {ty : TypeId} {pos : String} {af : Array Edge} {gd : Option (Nat × Bool)} {x y : Operand} {t t' : TypeId}
end
end Go.SL
namespace Go.SL
open Go Go.RowKit
/-! Short names for what stands often. -/
theorem O {α : Type} {a : α} : a = a := rfl
theorem zrv {p : Prop} (h : p := by (first | exact RV.tmp rfl | exact RV.cell1 hT rfl rfl rfl (by (exact Rd1.row (by (repeat (first | exact Pick.head | apply Pick.tail | apply Pick.app))) (by rfl))) | exact RV.cellN hT rfl rfl rfl (by (first | exact RdN.rowAll (by (repeat (first | exact Pick.head | apply Pick.tail | apply Pick.app))) | exact RdN.own (by (repeat (first | exact Pick.head | apply Pick.tail | apply Pick.app))))) (by (first | rfl | assumption | (simp; done) | omega)))) : p := h
theorem zrdna {p : Prop} (h : p := by (first | exact RdN.rowAll (Pick.app m (by (repeat (first | exact Pick.head | apply Pick.tail | apply Pick.app)))) | exact RdN.own (Pick.app m (by (repeat (first | exact Pick.head | apply Pick.tail | apply Pick.app)))))) : p := h
theorem zab {p : Prop} (h : p := by (first | exact Nat.le_trans (Nat.mul_le_mul_left _ (Nat.le_of_ble_eq_true rfl : _ ≤ 4096)) (by omega) | exact Nat.le_trans (Nat.mul_le_mul_left _ (Nat.le_of_ble_eq_true rfl : _ ≤ 1)) (by omega))) : p := h
theorem zrdn {p : Prop} (h : p := by (first | exact RdN.rowAll (by (repeat (first | exact Pick.head | apply Pick.tail | apply Pick.app))) | exact RdN.own (by (repeat (first | exact Pick.head | apply Pick.tail | apply Pick.app))))) : p := h
theorem zoc {p : Prop} (h : p := by (first | assumption | exact ones_of rfl | exact encW_one _ | exact encB_one _ | (intro u hu; simp at hu; rcases hu with rfl | rfl <;> rfl) | (intro u hu; simp at hu; subst hu; rfl) | simp)) : p := h
theorem zsup {p : Prop} (h : p := by (repeat (first | exact Sup.refl | apply Sup.cons (by (repeat (first | exact Pick.head | apply Pick.tail | apply Pick.app))) | apply Sup.app | apply Sup.skip | apply Sup.skips))) : p := h
theorem zrda {p : Prop} (h : p := by (exact Rd1.row (Pick.app m (by (repeat (first | exact Pick.head | apply Pick.tail | apply Pick.app)))) (by rfl))) : p := h
theorem zrd {p : Prop} (h : p := by (exact Rd1.row (by (repeat (first | exact Pick.head | apply Pick.tail | apply Pick.app))) (by rfl))) : p := h
theorem zfl {p : Prop} (h : p := by (first | exact fill_one rfl (by first | assumption | rfl | (simp; done)) | rfl | simp)) : p := h
theorem zix {p : Prop} (h : p := by (first | omega | exact Nat.le_of_ble_eq_true rfl | decide | (simp; omega))) : p := h
theorem zpk {p : Prop} (h : p := by (repeat (first | exact Pick.head | apply Pick.tail | apply Pick.app))) : p := h
theorem zinl {p : Prop} (h : p := by (repeat (first | assumption | apply InL.cons | apply InL.app))) : p := h
theorem zbl {p : Prop} (h : p := by (first | rfl | assumption | (simp; done) | (simp; omega))) : p := h
theorem zwr {p : Prop} (h : p := by (first | exact wrap_i64 (by omega) (by omega) | rfl)) : p := h
theorem zln {p : Prop} (h : p := by (first | rfl | assumption | (simp; done) | omega)) : p := h
theorem zcl {p : Prop} (h : p := by (first | rfl | simp)) : p := h
theorem Ja : type_of% @JL.step := @JL.step
theorem Jb : type_of% @JE.then_normal := @JE.then_normal
theorem Jc : type_of% @J.region := @J.region
theorem Jd : type_of% @y_assign := @y_assign
theorem Je : type_of% @y_move := @y_move
theorem Jf : type_of% @JM.quiet := @JM.quiet
theorem Jg : type_of% @JL.nil := @JL.nil
theorem Jh : type_of% @J.seq := @J.seq
theorem Ji : type_of% @Split.cons := @Split.cons
theorem Jj : type_of% @JL.loud := @JL.loud
theorem Jk : type_of% @y_fieldAddr := @y_fieldAddr
theorem Jl : type_of% @Split.nil := @Split.nil
theorem Jm : type_of% @y_nilCheckF := @y_nilCheckF
theorem Jn : type_of% @y_nilCheckY := @y_nilCheckY
theorem Jo : type_of% @y_load1 := @y_load1
theorem Jp : type_of% @Pick.head := @Pick.head
theorem Jq : type_of% @y_nilCheck := @y_nilCheck
theorem Jr : type_of% @JL.gskipU := @JL.gskipU
theorem Js : type_of% @l_callF := @l_callF
theorem Jt : type_of% @Fc.of_body := @Fc.of_body
theorem Ju : type_of% @JL.gskip := @JL.gskip
theorem Jv : type_of% @JE.block_normal := @JE.block_normal
theorem Jw : type_of% @JL.gstep := @JL.gstep
theorem Jx : type_of% @Pick.tail := @Pick.tail
theorem Jy : type_of% @y_extract := @y_extract
theorem Jz : type_of% @JE.then_ret := @JE.then_ret
theorem Va : type_of% @J.cond_dec := @J.cond_dec
theorem Vb : type_of% @JM.gquiet := @JM.gquiet
theorem Vc : type_of% @JE.then_exit := @JE.then_exit
theorem Vd : type_of% @JM.gskipU := @JM.gskipU
theorem Ve : type_of% @J.skip := @J.skip
theorem Vf : type_of% @J.cond_f := @J.cond_f
theorem Vg : type_of% @y_indexAddr_slice := @y_indexAddr_slice
theorem Vh : type_of% @y_len_slice := @y_len_slice
theorem Vi : type_of% @JM.gskip := @JM.gskip
theorem Vj : type_of% @J.block := @J.block
theorem Vk : type_of% @JE.ret1 := @JE.ret1
theorem Vl : type_of% @J.ret := @J.ret
theorem Vm : type_of% @JL.gsplit_dec := @JL.gsplit_dec
theorem Vn : type_of% @Pick.app := @Pick.app
theorem Vo : type_of% @Ent.mk := @Ent.mk
theorem Vp : type_of% @l_storeAll := @l_storeAll
theorem Vq : type_of% @Tok.cons := @Tok.cons
theorem Vr : type_of% @JE.block_ret := @JE.block_ret
theorem Vs : type_of% @JE.block_exit := @JE.block_exit
theorem Vt : type_of% @J.cond := @J.cond
theorem Vu : type_of% @Split.all := @Split.all
theorem Vv : type_of% @Sat.own_at := @Sat.own_at
theorem Vw : type_of% @l_store1 := @l_store1
theorem Vx : type_of% @y_ptr_eq_nil := @y_ptr_eq_nil
theorem Vy : type_of% @JE.round := @JE.round
theorem Vz : type_of% @JL.gsplit := @JL.gsplit
theorem Wa : type_of% @l_alloc := @l_alloc
theorem Wb : type_of% @y_indexAddr_arr := @y_indexAddr_arr
theorem Wc : type_of% @y_add := @y_add
theorem We : type_of% @wrap_i64 := @wrap_i64
theorem Wf : type_of% @JM.loud := @JM.loud
theorem Wg : type_of% @JE.ret2 := @JE.ret2
theorem Wh : type_of% @JM.nil := @JM.nil
theorem Wi : type_of% @Fc.post := @Fc.post
theorem Wj : type_of% @Fc.on := @Fc.on
theorem Wk : type_of% @y_neq := @y_neq
theorem Wl : type_of% @J.draw := @J.draw
end Go.SL
