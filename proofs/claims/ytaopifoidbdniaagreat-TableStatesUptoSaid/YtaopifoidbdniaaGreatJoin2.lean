import Derived.Lib.AppendStr
import Derived.Lib.ConvBytes
import Derived.WideKeyEntry
import Derived.ChangeMaps3
import Derived.Test.YtaopifoidbdniaaGreatJoin1
namespace Go.SL
open Go Go.RowKit
/-! Texts and their bytes. -/
/-- A text's bytes. -/
def bytesS (s : ByteArray) : List Int := s.data.toList.map fun b => (b.toNat : Int)
theorem bytesS_length (s : ByteArray) : (bytesS s).length = s.size := by
  rw [bytesS, List.length_map, Array.length_toList]; rfl
theorem bytesS_range (s : ByteArray) : ∀ x ∈ bytesS s, 0 ≤ x ∧ x ≤ 255 := fun x h => by
  obtain ⟨b, _, rfl⟩ := List.mem_map.1 h
  have := b.toNat_lt
  omega
theorem strCells_ints (s : ByteArray) : Lib.strCells s = (bytesS s).map (Value.int .u8) := by
  rw [Lib.strCells, bytesS, List.map_map]; rfl
theorem strOf_bytesS (s : ByteArray) : strOf (bytesS s) = s := by
  apply ByteArray.ext
  apply Array.ext'
  rw [strOf_data, bytesS, List.map_map]
  conv => rhs; rw [← List.map_id s.data.toList]
  refine List.map_congr_left fun b _ => ?_
  simp
theorem bytesS_inj {s u : ByteArray} (h : bytesS s = bytesS u) : s = u := by rw [← strOf_bytesS s, ← strOf_bytesS u, h]
theorem bytesS_nil {s : ByteArray} (h : s.size = 0) : bytesS s = [] := List.eq_nil_of_length_eq_zero (by rw [bytesS_length, h])
section
variable {P : Program} {E : World} {n : Nat} {ds : List Deferred} {env : Fr} {l r : List HProp} {T : Tab} {N : Fr → List HProp → Prop}
variable {dst : Option Tmp} {d : Tmp} {ty : TypeId} {pos : String} {af : Array Edge} {gd : Option (Nat × Bool)} {x y z : Operand} {v : Value} {t t' : TypeId}
omit E in
theorem ltS_tri (s u : ByteArray) : (ltS s u || decide (s = u)) = !ltS u s := by
  have hinj : s.toList = u.toList → s = u := fun h => by
    rw [ByteArray.toList_eq, ByteArray.toList_eq] at h
    exact ByteArray.ext (Array.ext' h)
  by_cases e : s = u
  · subst e
    simp [swo_ltS.irrefl]
  · have hne : s.toList ≠ u.toList := fun h => e (hinj h)
    have h1 : s.toList < u.toList ∨ u.toList < s.toList := by
      rcases Std.lt_trichotomy s.toList u.toList with h | h | h
      · exact .inl h
      · exact absurd h hne
      · exact .inr h
    simp only [e, decide_false, Bool.or_false, ltS]
    rcases h1 with h | h
    · have h2 : ¬ u.toList < s.toList := List.lt_asymm h
      simp [h, h2]
    · have h2 : ¬ s.toList < u.toList := List.lt_asymm h
      simp [h, h2]
theorem y_str_le {s u : ByteArray} (hx : val env x = some (.string s)) (hy : val env y = some (.string u)) : Y P E n ds ⟨dst, .binOp .leq t x y t', ty, pos, af, gd⟩ env l (.bool (!ltS u s)) :=
  Y.of fun a w hf _ => by
    rw [← ltS_tri, show ltS s u = Op.bytesLess s.toList u.toList from (bless_eq _ _).symm, ← bytes_beq]
    simp only [execOp, hf.eval hx, hf.eval hy]
    simp [binOp, Op.stringOp, go_sem]
/-- A text is turned into a slice of bytes. -/
theorem l_convStr (hT : Tok P T) {i j q : TI} {e : TypeId} {s : ByteArray} (hi : T.at t' = some i) (hk : i.u = .slice e) (hj : T.at e = some j) (hjk : j.u = .int .u8) (hd : T.at t = some q) (hdk : q.u = .string)
    (hx : val env x = some (.string s)) (hsm : s.size ≤ 140737488355328) (hn : Nat.blt d n = true)
    (h : ∀ g c K, InL [K] (some ⟨g, 0, none⟩) s.size c ((bytesS s).map (Value.int .u8)) → N ((d, .slice (some ⟨g, 0, none⟩) s.size c) :: env) (K :: l)) : LS P E n ds ⟨some d, .convert t t' x, ty, pos, af, gd⟩ env l N :=
  LS.of hn rfl fun a w hf hs => by
    have g1 := (hT t' i hi).1
    rw [hk] at g1
    have g2 := (hT e j hj).1
    rw [hjk] at g2
    have g3 := (hT t q hd).1
    rw [hdk] at g3
    have hge := grownCap_ge w s.size 0 e
    have hcm : grownCap w s.size 0 e ≤ maxLen := grownCap_le_maxLen w s.size 0 e (by unfold maxLen; omega)
    have hs1 : (Lib.bytesCells w e s).toList = (bytesS s).map (Value.int .u8) ++ List.replicate (grownCap w s.size 0 e - s.size) (.int .u8 0) := by
      simp [Lib.bytesCells, bytesS, List.map_map, Function.comp_def]
    refine ⟨_, Lib.bytesWorld w e s, mrow w.heap.size e (Lib.bytesCells w e s).toList :: l, ?_, ?_, h w.heap.size (grownCap w s.size 0 e) _ ⟨hge, hcm, .inl ⟨_, 0, rfl, fun m => ?_⟩⟩⟩
    · have hc := Lib.run_convert_string_bytes w t t' e s g3 g1 g2
      simp only [execOp, hf.eval hx]
      simp [hc]
    · have s1 := hs.drew.alloc (.cells (Lib.bytesCells w e s) e)
      have hb := s1.block
      refine s1.turn (o' := .cells (Lib.bytesCells w e s).toList.toArray e ((Lib.bytesCells w e s).toList.length, (Lib.bytesCells w e s).toList.length + 1)) rfl rfl rfl ?_ (fun k hk => ?_)
      · have := Lib.bytesWorld_at_new w e s
        simpa using this
      · show (Lib.bytesWorld w e s).heap[k]? = _
        unfold Lib.bytesWorld World.freeze
        rw [if_neg (by decide)]
        have hk2 : ¬ w.heap.size = k := fun h => hk h.symm
        simp [Array.getElem?_modify, World.drew, World.alloc, -World.alloc_eq, -World.drew_eq, hk2]
    · have hrd : RdN (m ++ [mrow w.heap.size e (Lib.bytesCells w e s).toList]) w.heap.size 0 (Lib.bytesCells w e s).toList := RdN.mrow (Pick.app m Pick.head)
      intro k v hv
      refine hrd k v ?_
      rw [hs1]
      exact List.getElem?_append_left (by
        rcases Nat.lt_or_ge k ((bytesS s).map (Value.int .u8)).length with h | h
        · exact h
        · rw [List.getElem?_eq_none h] at hv; cases hv) |>.trans hv
/-- A text's bytes are put behind a slice. -/
theorem l_appendStr (hT : Tok P T) {i j q : TI} {e : TypeId} {nn : Nat} {xs : List Value} {s : ByteArray} (hi : T.at t = some i) (hk : i.u = .slice e) (hj : T.at e = some j) (hz : j.zero = some (.int .u8 0)) (hsz : j.size = 1) (hby : j.bytes = 1)
    (hd : T.at t' = some q) (hdk : q.u = .string) (hx : val env x = some v) (hy : val env y = some (.string s)) (hp : Pick l (own e 1 v nn xs) r)
    (hb : nn + s.size ≤ 140737488355328) (hn : Nat.blt d n = true)
    (h : ∀ a cap, nn + s.size ≤ cap → N ((d, .slice a (nn + s.size) cap) :: env) (own e 1 (.slice a (nn + s.size) cap) (nn + s.size) (xs ++ (bytesS s).map (Value.int .u8)) :: r)) :
    LS P E n ds ⟨some d, .call ⟨.builtin .append, #[x, y], #[t, t']⟩, ty, pos, af, gd⟩ env l N :=
  LS.of hn rfl fun a w hf hs => by
    have ht := (hT t i hi).1
    rw [hk] at ht
    have hu := (hT t' q hd).1
    rw [hdk] at hu
    obtain ⟨_, qi, hq, hqs, hqb, hqz⟩ := hT e j hj
    have hzq : qi.zero = some (.int .u8 0) := by rw [hqz, hz]
    have hs1q : qi.size = 1 := by rw [hqs, hsz]
    have hbyq : qi.bytes = 1 := by rw [hqb, hby]
    have s0 := hs.pick hp
    suffices H : ∃ v' w', (Builtin.append_ #[t, t'] ty #[v, .string s]).run P w = .ok v' w' ∧ Sat E (stars (own e 1 v' (nn + s.size) (xs ++ (bytesS s).map (Value.int .u8)) :: r)) w' by
      obtain ⟨v', w', h2, h3⟩ := H
      obtain ⟨aa, cap, rfl, hcap⟩ := h3.row_of_own Pick.head
      refine ⟨_, w', _, ?_, h3, h aa cap hcap⟩
      simp [execOp, resolve, invoke, builtin, hf.eval hx, hf.eval hy, h2]
    rw [← strCells_ints]
    have hscl := Lib.strCells_length s
    obtain ⟨hxl, ⟨rfl, rfl, rfl, s1⟩ | ⟨g, cap, cur, rfl, hnc, hcm, hcs, htake, s1⟩⟩ := s0.own_open
    · by_cases hm : s.size = 0
      · have hn0 : Lib.strCells s = [] := List.eq_nil_of_length_eq_zero (by rw [hscl]; exact hm)
        refine ⟨.slice none 0 0, w, ?_, by rw [hm, hn0]; simpa using s1.own_nil⟩
        have hfc := Lib.run_firstCells_string (P := P) w 1 s
        rw [hm] at hfc
        simp [Builtin.append_, run_underlying ht, run_underlying hu, sizeOf, typeInfo, hq, hs1q, Builtin.lenOf, hm, hfc]
      · have hr := run_append_nil_string (P := P) w t t' ty e qi (.int .u8 0) ht hu hq hzq s (by omega) (by omega) (by rw [hbyq]; omega)
        have e1 : (s.data.map fun b => Value.int .u8 b.toNat) = (Lib.strCells s).toArray := by
          apply Array.ext'
          simp [Lib.strCells]
        rw [e1] at hr
        refine ⟨_, _, hr, ?_⟩
        have hge := grownCap_ge w s.size 0 e
        have hcm : grownCap w s.size 0 e ≤ maxLen := grownCap_le_maxLen w s.size 0 e (by unfold maxLen; omega)
        have s2 := s1.drew.alloc (.cells ((Lib.strCells s).toArray ++ Builtin.zeroCells (Value.int .u8 0).cells (grownCap w s.size 0 e - s.size)) e)
        have s3 : Sat E (stars (row w.heap.size e (Lib.strCells s ++ (Builtin.zeroCells (Value.int .u8 0).cells (grownCap w s.size 0 e - s.size)).toList) :: r)) (w.drew.alloc (.cells ((Lib.strCells s).toArray ++ Builtin.zeroCells (Value.int .u8 0).cells (grownCap w s.size 0 e - s.size)) e)) := by
          refine s2.imp fun h q => star_mono (fun h a => ?_) (fun _ b => b) q
          unfold row
          have e3 : (Lib.strCells s ++ (Builtin.zeroCells (Value.int .u8 0).cells (grownCap w s.size 0 e - s.size)).toList).toArray = (Lib.strCells s).toArray ++ Builtin.zeroCells (Value.int .u8 0).cells (grownCap w s.size 0 e - s.size) := by
            apply Array.ext'; simp
          rw [e3]; exact a
        have s4 := s3.own_row (n := s.size) (size := 1) (cap := grownCap w s.size 0 e) (xs := Lib.strCells s) hge hcm ?_ ?_ (by rw [hscl, Nat.mul_one])
        · simpa using s4
        · rw [List.length_append, hscl, Array.length_toList, size_zeroCells, show (Value.int IntKind.u8 0).cells.size = 1 from rfl]; omega
        · rw [Nat.mul_one, ← hscl]; exact List.take_left
    · by_cases hroom : nn + s.size ≤ cap
      · have hr := Lib.run_append_room_string (P := P) w t t' ty e qi ht hu hq hs1q g nn cap cur.toArray s1.block s hroom (by rw [List.size_toArray, hcs]; omega)
        refine ⟨_, _, hr, ?_⟩
        have s2 := s1.setRow (cur.take nn ++ Lib.strCells s ++ cur.drop (nn + s.size))
        refine s2.own_row hroom hcm ?_ ?_ ?_
        · simp only [List.length_append, List.length_take, List.length_drop, hscl]; omega
        · have ht' : cur.take nn = xs := by simpa using htake
          rw [ht', show (nn + s.size) * 1 = (xs ++ Lib.strCells s).length by rw [List.length_append, hscl, hxl]; omega]
          exact List.take_left
        · rw [List.length_append, hscl, hxl]; omega
      · have holds : ∀ k u, xs[k]? = some u → w.cell? ((⟨g, 0, none⟩ : Addr).add k) = some u := by
          intro k u hk
          rw [addr_add, Nat.zero_add, s1.cell]
          rw [← htake, List.getElem?_take] at hk
          split at hk
          · exact hk
          · simp at hk
        have hr := Lib.run_append_grow_string (P := P) w t t' ty e qi (.int .u8 0) ht hu hq hzq ⟨g, 0, none⟩ nn cap xs (by rw [hs1q]; exact hxl) holds s (by omega) (by omega) (by rw [hbyq]; exact growslice_fits (by omega) (by omega))
        refine ⟨_, _, hr, ?_⟩
        have hge := grownCap_ge w (nn + s.size) cap e
        have hcm : grownCap w (nn + s.size) cap e ≤ maxLen := grownCap_le_maxLen w (nn + s.size) cap e (by unfold maxLen; omega)
        have s2 := s1.drop.drew.alloc (.cells (xs.toArray ++ (Lib.strCells s).toArray ++ Builtin.zeroCells (Value.int .u8 0).cells (grownCap w (nn + s.size) cap e - (nn + s.size))) e)
        have s3 : Sat E (stars (row w.heap.size e (xs ++ Lib.strCells s ++ (Builtin.zeroCells (Value.int .u8 0).cells (grownCap w (nn + s.size) cap e - (nn + s.size))).toList) :: r)) (w.drew.alloc (.cells (xs.toArray ++ (Lib.strCells s).toArray ++ Builtin.zeroCells (Value.int .u8 0).cells (grownCap w (nn + s.size) cap e - (nn + s.size))) e)) := by
          refine s2.imp fun h q => star_mono (fun h a => ?_) (fun _ b => b) q
          unfold row
          have e3 : (xs ++ Lib.strCells s ++ (Builtin.zeroCells (Value.int .u8 0).cells (grownCap w (nn + s.size) cap e - (nn + s.size))).toList).toArray = xs.toArray ++ (Lib.strCells s).toArray ++ Builtin.zeroCells (Value.int .u8 0).cells (grownCap w (nn + s.size) cap e - (nn + s.size)) := by
            apply Array.ext'; simp
          rw [e3]; exact a
        have hxn : (xs ++ Lib.strCells s).length = (nn + s.size) * 1 := by rw [List.length_append, hscl, hxl]; omega
        refine s3.own_row (n := nn + s.size) (size := 1) (cap := grownCap w (nn + s.size) cap e) (xs := xs ++ Lib.strCells s) hge hcm ?_ ?_ hxn
        · rw [List.length_append, hxn, Array.length_toList, size_zeroCells, show (Value.int IntKind.u8 0).cells.size = 1 from rfl]; omega
        · rw [← hxn]; exact List.take_left
end
section
variable {α : Type} [DecidableEq α] {P : Program} {E : World} {n : Nat} {ds : List Deferred} {env : Fr} {l r : List HProp} {T : Tab} {N : Fr → List HProp → Prop}
variable {d : Tmp} {ty : TypeId} {pos : String} {af : Array Edge} {gd : Option (Nat × Bool)} {x y z : Operand} {v : Value} {t kt et : TypeId} {enc : α → Value} {ok : α → Prop}
structure EntOk (enc : α → Value) (ok : α → Prop) (m : List (α × Value)) (a : α) (st : Nat) (es : List MapEntry) (clock j : Nat) (u : Value) : Prop where
  map : MapOk enc ok es clock (mput m a u)
  born : ∃ e, es[j]? = some e ∧ e.born = st
  set : ∀ v, mput m a v = (mput m a u).set j (a, v)
  at_ : (mput m a u)[j]? = some (a, u)
/-- A map between an entry's making and its store: the place that was made. -/
def mapE (enc : α → Value) (ok : α → Prop) (b : Nat) (m : List (α × Value)) (a : α) (st : Nat) : HProp := ex fun q : List MapEntry × Nat × Nat × Value => stars [pur (EntOk enc ok m a st q.1 q.2.1 q.2.2.1 q.2.2.2), blk b (.map q.1.toArray q.2.1)]
theorem l_mapEntry {i j : TI} {b : Nat} {m : List (α × Value)} {a : α} {kv zv : Value} (hT : Tok P T) (hi : T.at t = some i) (hk : i.u = .map kt et) (hj : T.at et = some j) (hz : j.zero = some zv) (K : KeyOk P kt enc ok)
    (hx : val env x = some (.map (some b))) (hy : val env y = some kv) (hkv : kv = enc a) (ha : ok a) (hp : Pick l (mapA enc ok b m) r) (hn : Nat.blt d n = true)
    (h : ∀ st : Nat, N ((d, .tuple #[(mlook m a).getD zv, .int .i64 (st : Int)]) :: env) (mapE enc ok b m a st :: r)) : LS P E n ds ⟨some d, .mapEntry t x y, ty, pos, af, gd⟩ env l N :=
  LS.of hn rfl fun ac w hf hs => by
    subst hkv
    obtain ⟨es, clock, hm, s⟩ := (hs.pick hp).map_open
    have hb := s.block
    have h1 := hT.und w hi
    rw [hk] at h1
    have h3 := K.run w ha es m hm.kv hm.oks
    have h4 := K.chk w false a ha
    obtain ⟨_, jq, hjq, _, _, hjz⟩ := hT et j hj
    have hzv : (zeroValue et).run P w = .ok zv w := by simp [zeroValue, typeInfo, hjq, hjz, hz]
    have hmf := mfind_look m a 0
    cases hq : mfind m a 0 with
    | none =>
      rw [hq] at h3 hmf
      have hnone := (mfind_none m a 0 hq).1
      have hlk : mlook m a = none := by simpa using hmf.symm
      have hln := hm.len
      refine ⟨.tuple #[zv, .int .i64 (clock : Int)], ChangeMaps.setBlock w b (.map (es ++ [MapEntry.mk (enc a) zv clock]).toArray (clock + 1)), mapE enc ok b m a clock :: r, ?_, ?_, ?_⟩
      rotate_left
      · refine Sat.toex (es ++ [MapEntry.mk (enc a) zv clock], clock + 1, m.length, zv) (Sat.fold (m := [pur (EntOk enc ok m a clock (es ++ [MapEntry.mk (enc a) zv clock]) (clock + 1) m.length zv), blk b (.map (es ++ [MapEntry.mk (enc a) zv clock]).toArray (clock + 1))]) (Sat.topur ⟨?_, ⟨⟨enc a, zv, clock⟩, ?_, rfl⟩, fun v => ?_, ?_⟩ (s.setBlock (.map (es ++ [MapEntry.mk (enc a) zv clock]).toArray (clock + 1)))))
        · rw [hnone]; exact hm.push (v := zv) ha
        · rw [← hln]; simp
        · rw [hnone, hnone]; simp
        · rw [hnone]; simp
      · have q := h clock
        rw [hlk] at q
        exact q
      · simp only [execOp, hf.eval hx, hf.eval hy, Instr.mapEntry, Sem.run_bind, h1, Result.andThen_ok, run_getObj_b hb, h4, h3, hzv]
        rw [run_setObj_b hb]
        simp [goInt]
    | some q =>
      obtain ⟨j, u⟩ := q
      rw [hq] at h3 hmf
      have hlk : mlook m a = some u := by simpa using hmf.symm
      obtain ⟨_, u', h5, hu', h6⟩ := mfind_at m a 0 j u hq
      subst hu'
      rw [Nat.sub_zero] at h5 h6
      have hej : ∃ e, es[j]? = some e ∧ e.key = enc a := by
        have hz := congrArg (fun (z : List (Value × Value)) => z[j]?) hm.kv
        simp only [List.getElem?_map, h5] at hz
        cases he : es[j]? with
        | none => rw [he] at hz; cases hz
        | some e =>
          rw [he] at hz
          simp only [Option.map_some, Option.some.injEq, Prod.mk.injEq] at hz
          exact ⟨e, rfl, hz.1⟩
      obtain ⟨e, he, hek⟩ := hej
      have hself : mput m a u' = m := by
        rw [(h6 u').1]
        exact WideElems.set_self _ _ _ h5
      have hmod : es.modify j (fun e => { e with key := enc a }) = es := by
        rw [ChangeMaps.modify_eq_set _ _ _ _ he]
        have : ({ e with key := enc a } : MapEntry) = e := by rw [← hek]
        rw [this]
        exact WideElems.set_self _ _ _ he
      refine ⟨.tuple #[u', .int .i64 (e.born : Int)], ChangeMaps.setBlock w b (.map es.toArray clock), mapE enc ok b m a e.born :: r, ?_, ?_, ?_⟩
      rotate_left
      · refine Sat.toex (es, clock, j, u') (Sat.fold (m := [pur (EntOk enc ok m a e.born es clock j u'), blk b (.map es.toArray clock)]) (Sat.topur ⟨?_, ⟨e, he, rfl⟩, fun v => ?_, ?_⟩ (s.setBlock (.map es.toArray clock))))
        · rw [hself]; exact hm
        · rw [hself]; exact (h6 v).1
        · rw [hself]; exact h5
      · have q := h e.born
        rw [hlk] at q
        exact q
      · simp only [execOp, hf.eval hx, hf.eval hy, Instr.mapEntry, Sem.run_bind, h1, Result.andThen_ok, run_getObj_b hb, h4, h3]
        have e1 : (((es.toArray[j]?).map (·.key)).getD (enc a)) = enc a := by simp [he, hek]
        have e2 : (((es.toArray[j]?).map (·.born)).getD 0) = e.born := by simp [he]
        rw [e1]
        simp only [Instr.keyThatStays, K.same a ha, if_true, Sem.run_pure, Result.andThen_ok]
        rw [run_setObj_b hb]
        simp [List.modify_toArray, hmod, goInt, he]
theorem l_entryStore {b st : Nat} {m : List (α × Value)} {a : α}
    (hx : val env x = some (.map (some b))) (hy : val env y = some (.int .i64 (st : Int))) (hz : val env z = some v) (hp : Pick l (mapE enc ok b m a st) r)
    (h : N env (mapA enc ok b (mput m a v) :: r)) : LS P E n ds ⟨none, .entryStore t x y z, ty, pos, af, gd⟩ env l N :=
  LS.of0 rfl fun ac w hf hs => by
    obtain ⟨⟨es, clock, j, u⟩, s0⟩ := (hs.pick hp).ofex
    obtain ⟨⟨hm, ⟨e, he, hst⟩, hset, hat⟩, s⟩ := Sat.ofpur (p := EntOk enc ok m a st es clock j u) (l := blk b (.map es.toArray clock) :: r) (Sat.unfold (m := [pur (EntOk enc ok m a st es clock j u), blk b (.map es.toArray clock)]) s0)
    have hb := s.block
    subst hst
    have hnd : (es.map (·.born)).Nodup := hm.inc.imp fun h => Nat.ne_of_lt h
    have hfi := WideElems.findIdx_born hnd he
    have hkey : e.key = enc a := by
      have hz := congrArg (fun (z : List (Value × Value)) => z[j]?) hm.kv
      simp only [List.getElem?_map, hat, he, Option.map_some, Option.some.injEq, Prod.mk.injEq] at hz
      exact hz.1
    have hmod : es.modify j (fun e => { e with key := enc a, val := v }) = es.modify j (fun e => { e with val := v }) := by
      rw [ChangeMaps.modify_eq_set _ _ _ _ he, ChangeMaps.modify_eq_set _ _ _ _ he, ← hkey]
    have hma := hm.put_at (v := v) hat
    rw [hmod, ← hset v] at hma
    refine ⟨_, _, ?_, Sat.map_shut hma (s.setBlock (.map (es.modify j fun e => { e with val := v }).toArray clock)), h⟩
    have hfi2 : es.toArray.findIdx? (fun x => (x.born : Int) == ((e.born : Nat) : Int)) = some j := by
      rw [WideElems.findIdx_arr]
      simpa using hfi
    simp only [execOp, hf.eval hx, hf.eval hy, hf.eval hz, Instr.entryStore, Sem.run_bind, Result.andThen_ok, run_getObj_b hb, asInt, asIntOf]
    simp only [Sem.run_pure, Result.andThen_ok]
    rw [hfi2]
    simp only []
    rw [run_setObj_b hb]
    simp [List.modify_toArray]
omit [DecidableEq α] in
theorem run_clone {w : World} {r : Nat} {es : Array MapEntry} {clock : Nat} (t : TypeId) (hb : w.heap[r]? = some (.map es clock)) :
    (Extern.MapsClone.clone #[.iface t (.map (some r))]).run P w = .ok (.iface t (.map (some w.heap.size))) (w.alloc (.map es clock)) := by
  have e : Extern.MapsClone.clone #[.iface t (.map (some r))] = (getObj r >>= fun o => match o with
      | .map entries clock => (newObj (.map entries clock) >>= fun n => pure (.iface t (.map (some n))))
      | _ => stuck "maps.clone: a map expected") := rfl
  rw [e]
  simp [run_getObj_b hb, Result.andThen, go_sem]
omit [DecidableEq α] in
/-- maps.clone. -/
theorem l_mapsClone {fn : Func} {f : FuncId} {ts : Array TypeId} {b : Nat} {m : List (α × Value)} (hf : P.funcs[f]? = some fn) (h1 : (fn.name == "runtime.NumGoroutine") = false) (h2 : fn.body.isNone = true) (h3 : Extern.findNext fn = none) (h4 : Extern.find fn = some Extern.MapsClone.clone)
    (hx : val env x = some (.iface t (.map (some b)))) (hp : Pick l (mapA enc ok b m) r) (hn : Nat.blt d n = true)
    (h : ∀ c, N ((d, .iface t (.map (some c))) :: env) (mapA enc ok c m :: mapA enc ok b m :: r)) :
    LS P E n ds ⟨some d, .call ⟨.value (.func f), #[x], ts⟩, ty, pos, af, gd⟩ env l N :=
  l_callE (xs := [x]) (us := [.iface t (.map (some b))]) (by simp [vals, hx]) hn fun w hs => by
    obtain ⟨es, clock, hm, s⟩ := (hs.pick hp).map_open
    have hrun := run_clone (P := P) t s.block
    refine ⟨.iface t (.map (some w.heap.size)), w.alloc (.map es.toArray clock), mapA enc ok w.heap.size m :: mapA enc ok b m :: r, ?_, ?_, h _⟩
    · rw [run_callFunc_extern hf h1 h2 h3 h4]
      show ((Extern.MapsClone.clone #[.iface t (.map (some b))]).run P w).andThen _ = _
      rw [hrun]
      rfl
    · have s1 := s.alloc (.map es.toArray clock)
      have s2 := Sat.map_shut hm s1
      exact Sat.rot (p := [_]) (g := [_]) (Sat.map_shut hm (Sat.rot (p := [_]) (g := [_]) s2))
end
section
variable {P : Program} {E : World} {n : Nat} {ds : List Deferred} {env : Fr} {l : List HProp} {T : Tab}
variable {dst : Option Tmp} {ty : TypeId} {pos : String} {af : Array Edge} {gd : Option (Nat × Bool)} {x y : Operand} {v : Value} {t t' kt et : TypeId}
theorem run_map_nil (w : World) (d : Nat) (t k e : TypeId) (p : Option Nat) (h : P.underlying t = some (.map k e)) :
    (Op.equalIn (d + 1) t (.map p) (.map none)).run P w = .ok p.isNone w := by
  cases p <;> simp [Op.equalIn, run_underlying h]
theorem y_map_eqNil {i : TI} {p : Option Nat} (hT : Tok P T) (hi : T.at t = some i) (hk : i.u = .map kt et) (hx : val env x = some (.map p)) (hy : val env y = some (.map none)) : Y P E n ds ⟨dst, .binOp .eql t x y t', ty, pos, af, gd⟩ env l (.bool p.isNone) :=
  Y.of fun a w hf _ => by
    have h1 := (hT t i hi).1
    rw [hk] at h1
    simp only [execOp, hf.eval hx, hf.eval hy, binOp]
    simp [show Op.equal t (.map p) (.map none) = Op.equalIn (9999 + 1) t (.map p) (.map none) from rfl, run_map_nil w 9999 t kt et p h1, go_sem]
theorem y_iface_map {i : TI} (hT : Tok P T) (hi : T.at t = some i) (hk : i.u = .map kt et) (hx : val env x = some v) : Y P E n ds ⟨dst, .makeInterface t x, ty, pos, af, gd⟩ env l (.iface t v) :=
  Y.of fun a w hf _ => by
    have h1 := (hT t i hi).1
    rw [hk] at h1
    simp only [execOp, hf.eval hx]
    simp [Instr.makeInterface, run_underlying h1]
theorem y_assert_map {i : TI} (hT : Tok P T) (hi : T.at t = some i) (hk : i.u = .map kt et) (hx : val env x = some (.iface t v)) : Y P E n ds ⟨dst, .typeAssert x t' t false, ty, pos, af, gd⟩ env l v :=
  Y.of fun a w hf _ => by
    have h1 := (hT t i hi).1
    rw [hk] at h1
    simp only [execOp, hf.eval hx]
    simp [Instr.typeAssert, run_underlying h1, go_sem, Result.andThen]
end
section
variable {α : Type} [DecidableEq α] {P : Program} {E : World} {n : Nat} {ds : List Deferred} {env : Fr} {l r : List HProp} {T : Tab} {N : Fr → List HProp → Prop}
variable {ty : TypeId} {pos : String} {af : Array Edge} {gd : Option (Nat × Bool)} {x y : Operand} {t t' kt et : TypeId} {enc : α → Value} {ok : α → Prop}
omit [DecidableEq α] in
theorem LS.of0v {o : Oper} (hd : o.dst = none)
    (h : ∀ a w, Frm n ds env a → Sat E (stars l) w → ∃ v w' l', (execOp a.eval o).run P w = .ok (.value v) w' ∧ Sat E (stars l') w' ∧ N env l') :
    LS P E n ds o env l N := fun a w hf hs => by
  obtain ⟨v, w', l', h1, h3, h4⟩ := h a w hf hs
  unfold Oper.wp
  rw [h1]
  exact ⟨_, l', by rw [hd]; exact hf, h3, h4⟩
theorem l_delete0 {i : TI} {b : Nat} {m : List (α × Value)} {a : α} {kv : Value} (hT : Tok P T) (hi : T.at t = some i) (hk : i.u = .map kt et) (K : KeyOk P kt enc ok)
    (hx : val env x = some (.map (some b))) (hy : val env y = some kv) (hkv : kv = enc a) (ha : ok a) (hp : Pick l (mapA enc ok b m) r)
    (h : N env (mapA enc ok b (mdel m a) :: r)) : LS P E n ds ⟨none, .call ⟨.builtin .delete, #[x, y], #[t, t']⟩, ty, pos, af, gd⟩ env l N :=
  LS.of0v rfl fun ac w hf hs => by
    subst hkv
    obtain ⟨es, clock, hm, s⟩ := (hs.pick hp).map_open
    have hb := s.block
    have h1 := hT.und w hi
    rw [hk] at h1
    have h3 := K.run w ha es m hm.kv hm.oks
    have h4 := K.chk w es.isEmpty a ha
    cases hq : mfind m a 0 with
    | none =>
      rw [hq] at h3
      refine ⟨.tuple #[], _, _, ?_, Sat.map_shut hm (s.setBlock (.map es.toArray clock)), by rw [← (mfind_none m a 0 hq).2]; exact h⟩
      simp [execOp, resolve, invoke, builtin, hf.eval hx, hf.eval hy, Builtin.delete_, h1, run_getObj_b hb, h4, h3, run_setObj_b hb]
    | some q =>
      obtain ⟨j, u⟩ := q
      rw [hq] at h3
      obtain ⟨_, u', h5, _, h6⟩ := mfind_at m a 0 j u hq
      rw [Nat.sub_zero] at h5 h6
      refine ⟨.tuple #[], _, _, ?_, Sat.map_shut (hm.erase j) (s.setBlock (.map (es.eraseIdx j).toArray clock)), by rw [← (h6 u).2]; exact h⟩
      simp [execOp, resolve, invoke, builtin, hf.eval hx, hf.eval hy, Builtin.delete_, h1, run_getObj_b hb, h4, h3, run_setObj_b hb]
end
end Go.SL
namespace Go.SL
open Go Go.RowKit
/-! Mixed orders in which two loud steps may come in either order: a plan for each. -/
section
variable {P : Program} {E : World} {ops : Array Oper} {md : Region.Mode} {lc : List HProp}
/-- Quiet steps, then a fork. -/
def planF (md : Region.Mode) (ops : Array Oper) (tl : Nat → Bool) (C : Array Bool → Bool) : Nat → List Nat → Nat → List (Nat × Kd) → Nat → List (Nat × Kd) → Array Bool → Bool
  | f + 1, [], k1, r1, k2, r2, listed => !(Region.ready md ops listed).isEmpty && (Region.ready md ops listed).all fun i =>
      if i = k1 then planB md ops tl C f r1 (listed.setIfInBounds i true) else if i = k2 then planB md ops tl C f r2 (listed.setIfInBounds i true) else false
  | f + 1, k :: r, k1, r1, k2, r2, listed => (Region.ready md ops listed).contains k && Region.free md ops listed k && tailB md ops tl k && planF md ops tl C f r k1 r1 k2 r2 (listed.setIfInBounds k true)
  | 0, _, _, _, _, _, _ => false
def wpPre (P : Program) (E : World) (ops : Array Oper) (lc : List HProp) (K : Act → List HProp → Prop) : List Nat → Act → List HProp → Prop
  | [], a, m => K a m
  | k :: r, a, m => ∃ o v, ops[k]? = some o ∧ Quiets P E ops lc o v a ∧ wpPre P E ops lc K r (a.put o.dst v) m
theorem wpM_of_fork {Q : Act → List HProp → Prop} {tl : Nat → Bool} {C : Array Bool → Bool} (hQ : ∀ a m m', (∀ h, stars m h ↔ stars m' h) → Q a m → Q a m') (hs : Region.noSelect ops = true) {k1 k2 : Nat} {r1 r2 : List (Nat × Kd)} : ∀ (f : Nat) (ks : List Nat) (listed : Array Bool) (a : Act) (m : List HProp),
    planF md ops tl C f ks k1 r1 k2 r2 listed = true → wpPre P E ops lc (fun a m => wpPlan P E ops lc Q ((k1, .l) :: r1) a m ∧ wpPlan P E ops lc Q ((k2, .l) :: r2) a m) ks a m → wpM P E md ops tl C lc Q f listed a m
  | 0, _, _, _, _, hB, _ => by simp [planF] at hB
  | f + 1, [], listed, a, m, hB, ⟨h1, h2⟩ => by
    simp only [planF, Bool.and_eq_true, Bool.not_eq_true', List.all_eq_true] at hB
    refine ⟨fun h0 => absurd hB.1 (by simp [h0]), fun i hi => ?_⟩
    have hBi := hB.2 i hi
    split at hBi
    · next e =>
      subst e
      obtain ⟨o, ho, hw, hl⟩ := h1
      exact ⟨o, ho, .inr fun fr w hs' => ⟨hw, Oper.wp_mono' (fun a' w' ⟨m', g1, g2⟩ => ⟨m', g1, wpM_of_plan hQ hs f r1 _ a' m' hBi g2⟩) (fun _ _ _ h => h) (hl fr w hs')⟩⟩
    · split at hBi
      · next e =>
        subst e
        obtain ⟨o, ho, hw, hl⟩ := h2
        exact ⟨o, ho, .inr fun fr w hs' => ⟨hw, Oper.wp_mono' (fun a' w' ⟨m', g1, g2⟩ => ⟨m', g1, wpM_of_plan hQ hs f r2 _ a' m' hBi g2⟩) (fun _ _ _ h => h) (hl fr w hs')⟩⟩
      · cases hBi
  | f + 1, k :: r, listed, a, m, hB, h => by
    simp only [planF, Bool.and_eq_true] at hB
    obtain ⟨o, v, ho, hq, hk⟩ := h
    exact wpM_first (tailB_spec hB.1.2) ho (Region.noSelect_spec hs) f listed a m (Region.free_spec ho hB.1.1.2) (by simpa using hB.1.1.1) hq (wpM_of_fork hQ hs f r _ _ m hB.2 hk)
theorem wp_region_fork {ρ : Option Nat} {id : Nat} {Q : Exit → Act → World → Prop} {a : Act} {w : World} {m : List HProp} {k1 k2 : Nat} {r1 r2 : List (Nat × Kd)} (ks : List Nat) (hm : P.follows .mixedOrders = true)
    (hB : (Region.noSelect ops && ops.toList.all nd && planF .any ops (fun _ => false) (fun _ => true) ops.size ks k1 r1 k2 r2 (Array.replicate ops.size false)) = true) (hs : Sat E (stars (m ++ lc)) w)
    (h : wpPre P E ops lc (fun a m => wpPlan P E ops lc (fun a m => ∀ w, Sat E (stars (m ++ lc)) w → Q .normal a w) ((k1, .l) :: r1) a m ∧ wpPlan P E ops lc (fun a m => ∀ w, Sat E (stars (m ++ lc)) w → Q .normal a w) ((k2, .l) :: r2) a m) ks a m) : (Code.region id ops true).wpIn (Fw ρ) 0 P Q a w := by
  simp only [Bool.and_eq_true] at hB
  refine wpIn_region_any hm ?_
  have hnd : ∀ (j : Nat) (o : Oper), ops[j]? = some o → nd o = true := fun j o ho => List.all_eq_true.1 hB.1.2 o (Array.mem_toList_iff.2 (Array.mem_of_getElem? ho))
  have h1 := wpM_of_fork (md := .any) (fun a m m' e hq w hs => hq w (hs.imp fun h s => (stars_append m _ h).2 (star_mono (fun h' => (e h').2) (fun _ x => x) ((stars_append m' _ h).1 s)))) hB.1.1 _ ks _ a m hB.2 h
  have := wpAny_of_wpM (ρ := ρ) (t := 0) (Q' := Q) hnd (fun listed a m w g1 _ hq hs => ⟨ready_nil g1, hq w hs⟩) _ _ a m _ h1 (hs.drawn (w.drawn + 1))
  rwa [Nat.zero_add] at this
end
section
variable (P : Program) (E : World) (n : Nat) (ds : List Deferred)
def JP (ops : Array Oper) (lc : List HProp) (Q : Exit → Act → World → Prop) (ks : List Nat) (k1 : Nat) (r1 : List (Nat × Kd)) (k2 : Nat) (r2 : List (Nat × Kd)) (env : Fr) (m : List HProp) : Prop :=
  ∀ a, Frm n ds env a → wpPre P E ops lc (fun a m => wpPlan P E ops lc (fun a m => ∀ w, Sat E (stars (m ++ lc)) w → Q .normal a w) ((k1, .l) :: r1) a m ∧ wpPlan P E ops lc (fun a m => ∀ w, Sat E (stars (m ++ lc)) w → Q .normal a w) ((k2, .l) :: r2) a m) ks a m
end
section
variable {P : Program} {E : World} {ρ : Option Nat} {n : Nat} {ds : List Deferred} {Q : Exit → Act → World → Prop} {env : Fr} {l lc m : List HProp} {ops : Array Oper} {o : Oper} {k k1 k2 d : Nat} {v : Value} {ks : List Nat} {r1 r2 : List (Nat × Kd)}
theorem J.drawF {id : Nat} {ops : List Oper} (m lc : List HProp) (ks : List Nat) (k1 : Nat) (r1 : List (Nat × Kd)) (k2 : Nat) (r2 : List (Nat × Kd)) (hm : P.follows .mixedOrders = true)
    (hB : (Region.noSelect ops.toArray && ops.all nd && planF .any ops.toArray (fun _ => false) (fun _ => true) ops.toArray.size ks k1 r1 k2 r2 (Array.replicate ops.toArray.size false)) = true) (hsp : Split l m lc)
    (h : JP P E n ds ops.toArray lc Q ks k1 r1 k2 r2 env m) : J P E ρ n ds (.region id ops.toArray true) Q env l := fun a w hf hs => wp_region_fork ks hm (by simpa using hB) (hs.divide hsp) (h a hf)
theorem JP.quiet (ho : ops[k]? = some o) (hg : o.guard = none) (hd : o.dst = some d) (hn : Nat.blt d n = true) (hy : ∀ m, Y P E n ds o env (m ++ lc) v) (h : JP P E n ds ops lc Q ks k1 r1 k2 r2 ((d, v) :: env) m) :
    JP P E n ds ops lc Q (k :: ks) k1 r1 k2 r2 env m := fun a hf =>
  ⟨o, v, ho, fun m' => .inl ⟨by simp [Region.wanted, hg], fun w hw => hy m' a w hf hw⟩, h _ (by rw [hd]; exact hf.put v hn)⟩
theorem JP.nil (h1 : JM P E n ds ops lc Q ((k1, .l) :: r1) env m) (h2 : JM P E n ds ops lc Q ((k2, .l) :: r2) env m) : JP P E n ds ops lc Q [] k1 r1 k2 r2 env m := fun a hf => ⟨h1 a hf, h2 a hf⟩
end
end Go.SL
namespace Go.SL
open Go Go.RowKit
section
variable {P : Program} {E : World} {n : Nat} {ds : List Deferred} {env : Fr} {l : List HProp}
variable {dst : Option Tmp} {ty : TypeId} {pos : String} {af : Array Edge} {gd : Option (Nat × Bool)} {x y z : Operand}
theorem y_min3 {k : IntKind} {i j p m : Int} (hx : val env x = some (.int k i)) (hy : val env y = some (.int k j)) (hz : val env z = some (.int k p)) (hr : min (min i j) p = m) {ts : Array TypeId} :
    Y P E n ds ⟨dst, .call ⟨.builtin .min, #[x, y, z], ts⟩, ty, pos, af, gd⟩ env l (.int k m) :=
  Y.of fun a w hfr _ => by
    have h1 : (if j < i then j else i) = min i j := by omega
    have h2 : (if p < min i j then p else min i j) = m := by rw [← hr]; omega
    simp [execOp, resolve, invoke, builtin, hfr.eval hx, hfr.eval hy, hfr.eval hz, Builtin.min_, Builtin.min2, List.foldlM, h1, h2]
end
/-- A slice of two elements that are given whole. -/
theorem fill_two {size : Nat} {zc v u : Value} {cs ds : List Value} (hv : v.cells = cs.toArray) (hl : cs.length = size) (hu : u.cells = ds.toArray) (hl2 : ds.length = size) : Instr.fill (fun i => some (i * size, size)) ((Array.range (2 * size)).map (zc.cells[· % zc.cells.size]!)) [(0, v), (1, u)] = some (cs ++ ds).toArray := by
  have h := fill_eq (fun i => some (i * size, size)) [(0, size), (size, size)] [(0, v), (1, u)] ((Array.range (2 * size)).map (zc.cells[· % zc.cells.size]!)).toList (fun q hq => by simp at hq; rcases hq with rfl | rfl <;> simp) (by simp [fillOk, hv, hl, hu, hl2]; omega)
  have e : ((Array.range (2 * size)).map (zc.cells[· % zc.cells.size]!)).toList.toArray = (Array.range (2 * size)).map (zc.cells[· % zc.cells.size]!) := rfl
  rw [e] at h
  rw [h]
  obtain ⟨zs, hz⟩ : ∃ zs, ((Array.range (2 * size)).map (zc.cells[· % zc.cells.size]!)).toList = zs := ⟨_, rfl⟩
  have hzl : zs.length = 2 * size := by rw [← hz]; simp
  rw [hz]
  simp only [List.map_cons, List.map_nil, hv, hu, fillE, List.getElem?_cons_zero, List.getElem?_cons_succ, List.take_zero, List.nil_append, Nat.zero_add]
  congr 2
  rw [List.take_append_of_le_length (by omega), List.take_of_length_le (by omega), List.drop_of_length_le (by rw [List.length_append, List.length_drop]; omega)]
  simp
end Go.SL
namespace Go.SL
open Go Go.RowKit
/-! Short names for what stands often. -/
theorem U {α : Type} {a : α} : a = a := rfl
theorem zrv {p : Prop} (h : p := by (first | exact RV.tmp rfl | exact RV.cell1 hT rfl rfl rfl (by (exact Rd1.row (by (repeat (first | exact Pick.head | apply Pick.tail | apply Pick.app))) (by rfl))) | exact RV.cellN hT rfl rfl rfl (by (first | exact RdN.rowAll (by (repeat (first | exact Pick.head | apply Pick.tail | apply Pick.app))) | exact RdN.own (by (repeat (first | exact Pick.head | apply Pick.tail | apply Pick.app))))) (by (first | rfl | assumption | (simp; done) | omega)))) : p := h
theorem zrdna {p : Prop} (h : p := by (first | exact RdN.rowAll (Pick.app m (by (repeat (first | exact Pick.head | apply Pick.tail | apply Pick.app)))) | exact RdN.own (Pick.app m (by (repeat (first | exact Pick.head | apply Pick.tail | apply Pick.app)))))) : p := h
theorem zab {p : Prop} (h : p := by (first | exact Nat.le_trans (Nat.mul_le_mul_left _ (Nat.le_of_ble_eq_true rfl : _ ≤ 4096)) (by omega) | exact Nat.le_trans (Nat.mul_le_mul_left _ (Nat.le_of_ble_eq_true rfl : _ ≤ 1)) (by omega))) : p := h
theorem zrdn {p : Prop} (h : p := by (first | exact RdN.rowAll (by (repeat (first | exact Pick.head | apply Pick.tail | apply Pick.app))) | exact RdN.own (by (repeat (first | exact Pick.head | apply Pick.tail | apply Pick.app))))) : p := h
theorem zoc {p : Prop} (h : p := by (first | assumption | exact ones_of rfl | exact encW_one _ | exact encB_one _ | (intro u hu; simp at hu; rcases hu with rfl | rfl <;> rfl) | (intro u hu; simp at hu; subst hu; rfl) | simp)) : p := h
theorem zsup {p : Prop} (h : p := by (repeat (first | exact Sup.refl | apply Sup.cons (by (repeat (first | exact Pick.head | apply Pick.tail | apply Pick.app))) | apply Sup.app | apply Sup.skip | apply Sup.skips))) : p := h
theorem zrda {p : Prop} (h : p := by (exact Rd1.row (Pick.app m (by (repeat (first | exact Pick.head | apply Pick.tail | apply Pick.app)))) (by rfl))) : p := h
theorem zrd {p : Prop} (h : p := by (exact Rd1.row (by (repeat (first | exact Pick.head | apply Pick.tail | apply Pick.app))) (by rfl))) : p := h
theorem zfl {p : Prop} (h : p := by (first | exact fill_one rfl (by first | assumption | rfl | (simp; done)) | rfl | simp)) : p := h
theorem zix {p : Prop} (h : p := by (first | omega | exact Nat.le_of_ble_eq_true rfl | decide | (simp; omega))) : p := h
theorem zpk {p : Prop} (h : p := by (repeat (first | exact Pick.head | apply Pick.tail | apply Pick.app))) : p := h
theorem zinl {p : Prop} (h : p := by (repeat (first | assumption | apply InL.cons | apply InL.app))) : p := h
theorem zri {p : Prop} (h : p := by (repeat (first | assumption | apply RdN.cons | apply RdN.app))) : p := h
theorem zbl {p : Prop} (h : p := by (first | rfl | assumption | (simp; done) | (simp; omega))) : p := h
theorem zwr {p : Prop} (h : p := by (first | exact wrap_i64 (by omega) (by omega) | rfl)) : p := h
theorem zln {p : Prop} (h : p := by (first | rfl | assumption | (simp; done) | omega)) : p := h
theorem zcl {p : Prop} (h : p := by (first | rfl | simp)) : p := h
theorem Ja : type_of% @JE.then_normal := @JE.then_normal
theorem Jb : type_of% @JL.step := @JL.step
theorem Jc : type_of% @J.region := @J.region
theorem Jd : type_of% @JM.quiet := @JM.quiet
theorem Je : type_of% @y_move := @y_move
theorem Jf : type_of% @y_assign := @y_assign
theorem Jg : type_of% @JL.nil := @JL.nil
theorem Jh : type_of% @J.seq := @J.seq
theorem Ji : type_of% @Split.cons := @Split.cons
theorem Jj : type_of% @Split.nil := @Split.nil
theorem Jk : type_of% @JL.loud := @JL.loud
theorem Jl : type_of% @y_fieldAddr := @y_fieldAddr
theorem Jm : type_of% @Pick.head := @Pick.head
theorem Jn : type_of% @y_load1 := @y_load1
theorem Jo : type_of% @JL.gskipU := @JL.gskipU
theorem Jp : type_of% @y_nilCheckF := @y_nilCheckF
theorem Jq : type_of% @y_nilCheckY := @y_nilCheckY
theorem Jr : type_of% @y_nilCheck := @y_nilCheck
theorem Js : type_of% @JL.gskip := @JL.gskip
theorem Jt : type_of% @Pick.tail := @Pick.tail
theorem Ju : type_of% @l_callF := @l_callF
theorem Jv : type_of% @JL.gstep := @JL.gstep
theorem Jw : type_of% @JE.block_normal := @JE.block_normal
theorem Jx : type_of% @Fc.of_body := @Fc.of_body
theorem Jy : type_of% @JE.then_exit := @JE.then_exit
theorem Jz : type_of% @y_indexAddr_slice := @y_indexAddr_slice
theorem Va : type_of% @J.cond_dec := @J.cond_dec
theorem Vb : type_of% @JE.then_ret := @JE.then_ret
theorem Vc : type_of% @JL.gsplit_dec := @JL.gsplit_dec
theorem Vd : type_of% @J.skip := @J.skip
theorem Ve : type_of% @JM.gquiet := @JM.gquiet
theorem Vf : type_of% @y_len_slice := @y_len_slice
theorem Vg : type_of% @JE.ret1 := @JE.ret1
theorem Vh : type_of% @J.block := @J.block
theorem Vi : type_of% @y_extract := @y_extract
theorem Vj : type_of% @JM.gskipU := @JM.gskipU
theorem Vk : type_of% @Split.all := @Split.all
theorem Vl : type_of% @Tok.cons := @Tok.cons
theorem Vm : type_of% @Ent.mk := @Ent.mk
theorem Vn : type_of% @J.ret := @J.ret
theorem Vo : type_of% @J.cond_f := @J.cond_f
theorem Vp : type_of% @JM.gskip := @JM.gskip
theorem Vq : type_of% @JE.block_ret := @JE.block_ret
theorem Vr : type_of% @JE.block_exit := @JE.block_exit
theorem Vs : type_of% @JL.gsplit := @JL.gsplit
theorem Vt : type_of% @l_store1 := @l_store1
theorem Vu : type_of% @Sat.own_at := @Sat.own_at
theorem Vv : type_of% @J.cond := @J.cond
theorem Vw : type_of% @JM.loud := @JM.loud
theorem Vx : type_of% @Pick.app := @Pick.app
theorem Vy : type_of% @JE.round := @JE.round
theorem Vz : type_of% @Fc.on := @Fc.on
theorem Wa : type_of% @y_indexAddr_arr := @y_indexAddr_arr
theorem Wb : type_of% @y_pick := @y_pick
end Go.SL
