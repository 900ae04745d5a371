import Derived.Lib.AppendStr
import Derived.Lib.ConvBytes
import Derived.WideKeyEntry
import Derived.ChangeMaps3
import Derived.Test.YtaopifoidbdniaaGreatJoin1
namespace Go.SL
open Go Go.RowKit
/-! Texts and their bytes. -/
def bytesS (s : ByteArray) : List Int := s.data.toList.map fun b => (b.toNat : Int)
theorem bytesS_length (s : ByteArray) : (bytesS s).length = s.size := by
 rw [bytesS, List.length_map, Array.length_toList]; rfl
theorem bytesS_range (s : ByteArray) : ∀ x ∈ bytesS s, 0 ≤ x ∧ x ≤ 255 := fun x h => by
 obtain ⟨b, _, rfl⟩ := List.mem_map.1 h
 have := b.toNat_lt
 omega
theorem strCells_ints (s : ByteArray) : Lib.strCells s = (bytesS s).map (Value.int .u8) := by
 rw [Lib.strCells, bytesS, List.map_map]; rfl
theorem strOf_bytesS (s : ByteArray) : strOf (bytesS s) = s := by
 apply ByteArray.ext
 apply Array.ext'
 rw [strOf_data, bytesS, List.map_map]
 conv => rhs; rw [← List.map_id s.data.toList]
 refine List.map_congr_left fun b _ => ?_
 simp
theorem bytesS_nil {s : ByteArray} (h : s.size = 0) : bytesS s = [] := List.eq_nil_of_length_eq_zero (by rw [bytesS_length, h])
section
variable {P : Program} {E : World} {n : Nat} {ds : List Deferred} {env : Fr} {l r : List HProp} {T : Tab} {N : Fr → List HProp → Prop}
variable {dst : Option Tmp} {d : Tmp} {ty : TypeId} {pos : String} {af : Array Edge} {gd : Option (Nat × Bool)} {x y z : Operand} {v : Value} {t t' : TypeId}
omit E in
theorem ltS_tri (s u : ByteArray) : (ltS s u || decide (s = u)) = !ltS u s := by
 have hinj : s.toList = u.toList → s = u := fun h => by
  rw [ByteArray.toList_eq, ByteArray.toList_eq] at h
  exact ByteArray.ext (Array.ext' h)
 by_cases e : s = u
 · subst e
   simp [swo_ltS.irrefl]
 · have hne : s.toList ≠ u.toList := fun h => e (hinj h)
   have h1 : s.toList < u.toList ∨ u.toList < s.toList := by
    rcases Std.lt_trichotomy s.toList u.toList with h | h | h
    · exact .inl h
    · exact absurd h hne
    · exact .inr h
   simp only [e, decide_false, Bool.or_false, ltS]
   rcases h1 with h | h
   · have h2 : ¬ u.toList < s.toList := List.lt_asymm h
     simp [h, h2]
   · have h2 : ¬ s.toList < u.toList := List.lt_asymm h
     simp [h, h2]
theorem y_str_le {s u : ByteArray} (hx : val env x = some (.string s)) (hy : val env y = some (.string u)) : Y P E n ds ⟨dst, .binOp .leq t x y t', ty, pos, af, gd⟩ env l (.bool (!ltS u s)) :=
 Y.of fun a w hf _ => by
  rw [← ltS_tri, show ltS s u = Op.bytesLess s.toList u.toList from (bless_eq _ _).symm, ← bytes_beq]
  simp only [execOp, hf.eval hx, hf.eval hy]
  simp [binOp, Op.stringOp, go_sem]
theorem y_str_ge {s u : ByteArray} (hx : val env x = some (.string s)) (hy : val env y = some (.string u)) : Y P E n ds ⟨dst, .binOp .geq t x y t', ty, pos, af, gd⟩ env l (.bool (!ltS s u)) :=
 Y.of fun a w hf _ => by
  have e : ltS s u = Op.bytesLess s.toList u.toList := (bless_eq _ _).symm
  rw [e]
  simp only [execOp, hf.eval hx, hf.eval hy]
  simp [binOp, Op.stringOp, go_sem]
theorem y_str_neB {s u : ByteArray} {b : Bool} (hx : val env x = some (.string s)) (hy : val env y = some (.string u)) (hb : decide (s ≠ u) = b) : Y P E n ds ⟨dst, .binOp .neq t x y t', ty, pos, af, gd⟩ env l (.bool b) := hb ▸ y_str_ne hx hy
theorem l_convStr (hT : Tok P T) {i j q : TI} {e : TypeId} {s : ByteArray} (hi : T.at t' = some i) (hk : i.u = .slice e) (hj : T.at e = some j) (hjk : j.u = .int .u8) (hd : T.at t = some q) (hdk : q.u = .string)
 (hx : val env x = some (.string s)) (hsm : s.size ≤ 140737488355328) (hn : Nat.blt d n = true)
 (h : ∀ g c K, InL [K] (some ⟨g, 0, none⟩) s.size c ((bytesS s).map (Value.int .u8)) → N ((d, .slice (some ⟨g, 0, none⟩) s.size c) :: env) (K :: l)) : LS P E n ds ⟨some d, .convert t t' x, ty, pos, af, gd⟩ env l N :=
 LS.of hn rfl fun a w hf hs => by
  have g1 := (hT t' i hi).1
  rw [hk] at g1
  have g2 := (hT e j hj).1
  rw [hjk] at g2
  have g3 := (hT t q hd).1
  rw [hdk] at g3
  have hge := grownCap_ge w s.size 0 e
  have hcm : grownCap w s.size 0 e ≤ maxLen := grownCap_le_maxLen w s.size 0 e (by unfold maxLen; omega)
  have hs1 : (Lib.bytesCells w e s).toList = (bytesS s).map (Value.int .u8) ++ List.replicate (grownCap w s.size 0 e - s.size) (.int .u8 0) := by
   simp [Lib.bytesCells, bytesS, List.map_map, Function.comp_def]
  refine ⟨_, Lib.bytesWorld w e s, mrow w.heap.size e (Lib.bytesCells w e s).toList :: l, ?_, ?_, h w.heap.size (grownCap w s.size 0 e) _ ⟨hge, hcm, .inl ⟨_, 0, rfl, fun m => ?_⟩⟩⟩
  · have hc := Lib.run_convert_string_bytes w t t' e s g3 g1 g2
    simp only [execOp, hf.eval hx]
    simp [hc]
  · have s1 := hs.drew.alloc (.cells (Lib.bytesCells w e s) e)
    have hb := s1.block
    refine s1.turn (o' := .cells (Lib.bytesCells w e s).toList.toArray e ((Lib.bytesCells w e s).toList.length, (Lib.bytesCells w e s).toList.length + 1)) rfl rfl rfl ?_ (fun k hk => ?_)
    · have := Lib.bytesWorld_at_new w e s
      simpa using this
    · show (Lib.bytesWorld w e s).heap[k]? = _
      unfold Lib.bytesWorld World.freeze
      rw [if_neg (by decide)]
      have hk2 : ¬ w.heap.size = k := fun h => hk h.symm
      simp [Array.getElem?_modify, World.drew, World.alloc, -World.alloc_eq, -World.drew_eq, hk2]
  · have hrd : RdN (m ++ [mrow w.heap.size e (Lib.bytesCells w e s).toList]) w.heap.size 0 (Lib.bytesCells w e s).toList := RdN.mrow (Pick.app m Pick.head)
    intro k v hv
    refine hrd k v ?_
    rw [hs1]
    exact List.getElem?_append_left (by
     rcases Nat.lt_or_ge k ((bytesS s).map (Value.int .u8)).length with h | h
     · exact h
     · rw [List.getElem?_eq_none h] at hv; cases hv) |>.trans hv
theorem l_appendStr (hT : Tok P T) {i j q : TI} {e : TypeId} {nn : Nat} {xs : List Value} {s : ByteArray} (hi : T.at t = some i) (hk : i.u = .slice e) (hj : T.at e = some j) (hz : j.zero = some (.int .u8 0)) (hsz : j.size = 1) (hby : j.bytes = 1)
 (hd : T.at t' = some q) (hdk : q.u = .string) (hx : val env x = some v) (hy : val env y = some (.string s)) (hp : Pick l (own e 1 v nn xs) r)
 (hb : nn + s.size ≤ 140737488355328) (hn : Nat.blt d n = true)
 (h : ∀ a cap, nn + s.size ≤ cap → N ((d, .slice a (nn + s.size) cap) :: env) (own e 1 (.slice a (nn + s.size) cap) (nn + s.size) (xs ++ (bytesS s).map (Value.int .u8)) :: r)) :
 LS P E n ds ⟨some d, .call ⟨.builtin .append, #[x, y], #[t, t']⟩, ty, pos, af, gd⟩ env l N :=
 LS.of hn rfl fun a w hf hs => by
  have ht := (hT t i hi).1
  rw [hk] at ht
  have hu := (hT t' q hd).1
  rw [hdk] at hu
  obtain ⟨_, qi, hq, hqs, hqb, hqz⟩ := hT e j hj
  have hzq : qi.zero = some (.int .u8 0) := by rw [hqz, hz]
  have hs1q : qi.size = 1 := by rw [hqs, hsz]
  have hbyq : qi.bytes = 1 := by rw [hqb, hby]
  have s0 := hs.pick hp
  suffices H : ∃ v' w', (Builtin.append_ #[t, t'] ty #[v, .string s]).run P w = .ok v' w' ∧ Sat E (stars (own e 1 v' (nn + s.size) (xs ++ (bytesS s).map (Value.int .u8)) :: r)) w' by
   obtain ⟨v', w', h2, h3⟩ := H
   obtain ⟨aa, cap, rfl, hcap⟩ := h3.row_of_own Pick.head
   refine ⟨_, w', _, ?_, h3, h aa cap hcap⟩
   simp [execOp, resolve, invoke, builtin, hf.eval hx, hf.eval hy, h2]
  rw [← strCells_ints]
  have hscl := Lib.strCells_length s
  obtain ⟨hxl, ⟨rfl, rfl, rfl, s1⟩ | ⟨g, cap, cur, rfl, hnc, hcm, hcs, htake, s1⟩⟩ := s0.own_open
  · by_cases hm : s.size = 0
    · have hn0 : Lib.strCells s = [] := List.eq_nil_of_length_eq_zero (by rw [hscl]; exact hm)
      refine ⟨.slice none 0 0, w, ?_, by rw [hm, hn0]; simpa using s1.own_nil⟩
      have hfc := Lib.run_firstCells_string (P := P) w 1 s
      rw [hm] at hfc
      simp [Builtin.append_, run_underlying ht, run_underlying hu, sizeOf, typeInfo, hq, hs1q, Builtin.lenOf, hm, hfc]
    · have hr := run_append_nil_string (P := P) w t t' ty e qi (.int .u8 0) ht hu hq hzq s (by omega) (by omega) (by rw [hbyq]; omega)
      have e1 : (s.data.map fun b => Value.int .u8 b.toNat) = (Lib.strCells s).toArray := by
       apply Array.ext'
       simp [Lib.strCells]
      rw [e1] at hr
      refine ⟨_, _, hr, ?_⟩
      have hge := grownCap_ge w s.size 0 e
      have hcm : grownCap w s.size 0 e ≤ maxLen := grownCap_le_maxLen w s.size 0 e (by unfold maxLen; omega)
      have s2 := s1.drew.alloc (.cells ((Lib.strCells s).toArray ++ Builtin.zeroCells (Value.int .u8 0).cells (grownCap w s.size 0 e - s.size)) e)
      have s3 : Sat E (stars (row w.heap.size e (Lib.strCells s ++ (Builtin.zeroCells (Value.int .u8 0).cells (grownCap w s.size 0 e - s.size)).toList) :: r)) (w.drew.alloc (.cells ((Lib.strCells s).toArray ++ Builtin.zeroCells (Value.int .u8 0).cells (grownCap w s.size 0 e - s.size)) e)) := by
       refine s2.imp fun h q => star_mono (fun h a => ?_) (fun _ b => b) q
       unfold row
       have e3 : (Lib.strCells s ++ (Builtin.zeroCells (Value.int .u8 0).cells (grownCap w s.size 0 e - s.size)).toList).toArray = (Lib.strCells s).toArray ++ Builtin.zeroCells (Value.int .u8 0).cells (grownCap w s.size 0 e - s.size) := by
        apply Array.ext'; simp
       rw [e3]; exact a
      have s4 := s3.own_row (n := s.size) (size := 1) (cap := grownCap w s.size 0 e) (xs := Lib.strCells s) hge hcm ?_ ?_ (by rw [hscl, Nat.mul_one])
      · simpa using s4
      · rw [List.length_append, hscl, Array.length_toList, size_zeroCells, show (Value.int IntKind.u8 0).cells.size = 1 from rfl]; omega
      · rw [Nat.mul_one, ← hscl]; exact List.take_left
  · by_cases hroom : nn + s.size ≤ cap
    · have hr := Lib.run_append_room_string (P := P) w t t' ty e qi ht hu hq hs1q g nn cap cur.toArray s1.block s hroom (by rw [List.size_toArray, hcs]; omega)
      refine ⟨_, _, hr, ?_⟩
      have s2 := s1.setRow (cur.take nn ++ Lib.strCells s ++ cur.drop (nn + s.size))
      refine s2.own_row hroom hcm ?_ ?_ ?_
      · simp only [List.length_append, List.length_take, List.length_drop, hscl]; omega
      · have ht' : cur.take nn = xs := by simpa using htake
        rw [ht', show (nn + s.size) * 1 = (xs ++ Lib.strCells s).length by rw [List.length_append, hscl, hxl]; omega]
        exact List.take_left
      · rw [List.length_append, hscl, hxl]; omega
    · have holds : ∀ k u, xs[k]? = some u → w.cell? ((⟨g, 0, none⟩ : Addr).add k) = some u := by
       intro k u hk
       rw [addr_add, Nat.zero_add, s1.cell]
       rw [← htake, List.getElem?_take] at hk
       split at hk
       · exact hk
       · simp at hk
      have hr := Lib.run_append_grow_string (P := P) w t t' ty e qi (.int .u8 0) ht hu hq hzq ⟨g, 0, none⟩ nn cap xs (by rw [hs1q]; exact hxl) holds s (by omega) (by omega) (by rw [hbyq]; exact growslice_fits (by omega) (by omega))
      refine ⟨_, _, hr, ?_⟩
      have hge := grownCap_ge w (nn + s.size) cap e
      have hcm : grownCap w (nn + s.size) cap e ≤ maxLen := grownCap_le_maxLen w (nn + s.size) cap e (by unfold maxLen; omega)
      have s2 := s1.drop.drew.alloc (.cells (xs.toArray ++ (Lib.strCells s).toArray ++ Builtin.zeroCells (Value.int .u8 0).cells (grownCap w (nn + s.size) cap e - (nn + s.size))) e)
      have s3 : Sat E (stars (row w.heap.size e (xs ++ Lib.strCells s ++ (Builtin.zeroCells (Value.int .u8 0).cells (grownCap w (nn + s.size) cap e - (nn + s.size))).toList) :: r)) (w.drew.alloc (.cells (xs.toArray ++ (Lib.strCells s).toArray ++ Builtin.zeroCells (Value.int .u8 0).cells (grownCap w (nn + s.size) cap e - (nn + s.size))) e)) := by
       refine s2.imp fun h q => star_mono (fun h a => ?_) (fun _ b => b) q
       unfold row
       have e3 : (xs ++ Lib.strCells s ++ (Builtin.zeroCells (Value.int .u8 0).cells (grownCap w (nn + s.size) cap e - (nn + s.size))).toList).toArray = xs.toArray ++ (Lib.strCells s).toArray ++ Builtin.zeroCells (Value.int .u8 0).cells (grownCap w (nn + s.size) cap e - (nn + s.size)) := by
        apply Array.ext'; simp
       rw [e3]; exact a
      have hxn : (xs ++ Lib.strCells s).length = (nn + s.size) * 1 := by rw [List.length_append, hscl, hxl]; omega
      refine s3.own_row (n := nn + s.size) (size := 1) (cap := grownCap w (nn + s.size) cap e) (xs := xs ++ Lib.strCells s) hge hcm ?_ ?_ hxn
      · rw [List.length_append, hxn, Array.length_toList, size_zeroCells, show (Value.int IntKind.u8 0).cells.size = 1 from rfl]; omega
      · rw [← hxn]; exact List.take_left
end
section
variable {α : Type} [DecidableEq α] {P : Program} {E : World} {n : Nat} {ds : List Deferred} {env : Fr} {l r : List HProp} {T : Tab} {N : Fr → List HProp → Prop}
variable {d : Tmp} {ty : TypeId} {pos : String} {af : Array Edge} {gd : Option (Nat × Bool)} {x y z : Operand} {v : Value} {t kt et : TypeId} {enc : α → Value} {ok : α → Prop}
structure EntOk (enc : α → Value) (ok : α → Prop) (m : List (α × Value)) (a : α) (st : Nat) (es : List MapEntry) (clock j : Nat) (u : Value) : Prop where
 map : MapOk enc ok es clock (mput m a u)
 born : ∃ e, es[j]? = some e ∧ e.born = st
 set : ∀ v, mput m a v = (mput m a u).set j (a, v)
 at_ : (mput m a u)[j]? = some (a, u)
def mapE (enc : α → Value) (ok : α → Prop) (b : Nat) (m : List (α × Value)) (a : α) (st : Nat) : HProp := ex fun q : List MapEntry × Nat × Nat × Value => stars [pur (EntOk enc ok m a st q.1 q.2.1 q.2.2.1 q.2.2.2), blk b (.map q.1.toArray q.2.1)]
theorem l_mapEntry {i j : TI} {b : Nat} {m : List (α × Value)} {a : α} {kv zv : Value} (hT : Tok P T) (hi : T.at t = some i) (hk : i.u = .map kt et) (hj : T.at et = some j) (hz : j.zero = some zv) (K : KeyOk P kt enc ok)
 (hx : val env x = some (.map (some b))) (hy : val env y = some kv) (hkv : kv = enc a) (ha : ok a) (hp : Pick l (mapA enc ok b m) r) (hn : Nat.blt d n = true)
 (h : ∀ st : Nat, N ((d, .tuple #[(mlook m a).getD zv, .int .i64 (st : Int)]) :: env) (mapE enc ok b m a st :: r)) : LS P E n ds ⟨some d, .mapEntry t x y, ty, pos, af, gd⟩ env l N :=
 LS.of hn rfl fun ac w hf hs => by
  subst hkv
  obtain ⟨es, clock, hm, s⟩ := (hs.pick hp).map_open
  have hb := s.block
  have h1 := hT.und w hi
  rw [hk] at h1
  have h3 := K.run w ha es m hm.kv hm.oks
  have h4 := K.chk w false a ha
  obtain ⟨_, jq, hjq, _, _, hjz⟩ := hT et j hj
  have hzv : (zeroValue et).run P w = .ok zv w := by simp [zeroValue, typeInfo, hjq, hjz, hz]
  have hmf := mfind_look m a 0
  cases hq : mfind m a 0 with
  | none =>
    rw [hq] at h3 hmf
    have hnone := (mfind_none m a 0 hq).1
    have hlk : mlook m a = none := by simpa using hmf.symm
    have hln := hm.len
    refine ⟨.tuple #[zv, .int .i64 (clock : Int)], ChangeMaps.setBlock w b (.map (es ++ [MapEntry.mk (enc a) zv clock]).toArray (clock + 1)), mapE enc ok b m a clock :: r, ?_, ?_, ?_⟩
    rotate_left
    · refine Sat.toex (es ++ [MapEntry.mk (enc a) zv clock], clock + 1, m.length, zv) (Sat.fold (m := [pur (EntOk enc ok m a clock (es ++ [MapEntry.mk (enc a) zv clock]) (clock + 1) m.length zv), blk b (.map (es ++ [MapEntry.mk (enc a) zv clock]).toArray (clock + 1))]) (Sat.topur ⟨?_, ⟨⟨enc a, zv, clock⟩, ?_, rfl⟩, fun v => ?_, ?_⟩ (s.setBlock (.map (es ++ [MapEntry.mk (enc a) zv clock]).toArray (clock + 1)))))
      · rw [hnone]; exact hm.push (v := zv) ha
      · rw [← hln]; simp
      · rw [hnone, hnone]; simp
      · rw [hnone]; simp
    · have q := h clock
      rw [hlk] at q
      exact q
    · simp only [execOp, hf.eval hx, hf.eval hy, Instr.mapEntry, Sem.run_bind, h1, Result.andThen_ok, run_getObj_b hb, h4, h3, hzv]
      rw [run_setObj_b hb]
      simp [goInt]
  | some q =>
    obtain ⟨j, u⟩ := q
    rw [hq] at h3 hmf
    have hlk : mlook m a = some u := by simpa using hmf.symm
    obtain ⟨_, u', h5, hu', h6⟩ := mfind_at m a 0 j u hq
    subst hu'
    rw [Nat.sub_zero] at h5 h6
    have hej : ∃ e, es[j]? = some e ∧ e.key = enc a := by
     have hz := congrArg (fun (z : List (Value × Value)) => z[j]?) hm.kv
     simp only [List.getElem?_map, h5] at hz
     cases he : es[j]? with
     | none => rw [he] at hz; cases hz
     | some e =>
       rw [he] at hz
       simp only [Option.map_some, Option.some.injEq, Prod.mk.injEq] at hz
       exact ⟨e, rfl, hz.1⟩
    obtain ⟨e, he, hek⟩ := hej
    have hself : mput m a u' = m := by
     rw [(h6 u').1]
     exact WideElems.set_self _ _ _ h5
    have hmod : es.modify j (fun e => { e with key := enc a }) = es := by
     rw [ChangeMaps.modify_eq_set _ _ _ _ he]
     have : ({ e with key := enc a } : MapEntry) = e := by rw [← hek]
     rw [this]
     exact WideElems.set_self _ _ _ he
    refine ⟨.tuple #[u', .int .i64 (e.born : Int)], ChangeMaps.setBlock w b (.map es.toArray clock), mapE enc ok b m a e.born :: r, ?_, ?_, ?_⟩
    rotate_left
    · refine Sat.toex (es, clock, j, u') (Sat.fold (m := [pur (EntOk enc ok m a e.born es clock j u'), blk b (.map es.toArray clock)]) (Sat.topur ⟨?_, ⟨e, he, rfl⟩, fun v => ?_, ?_⟩ (s.setBlock (.map es.toArray clock))))
      · rw [hself]; exact hm
      · rw [hself]; exact (h6 v).1
      · rw [hself]; exact h5
    · have q := h e.born
      rw [hlk] at q
      exact q
    · simp only [execOp, hf.eval hx, hf.eval hy, Instr.mapEntry, Sem.run_bind, h1, Result.andThen_ok, run_getObj_b hb, h4, h3]
      have e1 : (((es.toArray[j]?).map (·.key)).getD (enc a)) = enc a := by simp [he, hek]
      have e2 : (((es.toArray[j]?).map (·.born)).getD 0) = e.born := by simp [he]
      rw [e1]
      simp only [Instr.keyThatStays, K.same a ha, if_true, Sem.run_pure, Result.andThen_ok]
      rw [run_setObj_b hb]
      simp [List.modify_toArray, hmod, goInt, he]
theorem l_entryStore {b st : Nat} {m : List (α × Value)} {a : α}
 (hx : val env x = some (.map (some b))) (hy : val env y = some (.int .i64 (st : Int))) (hz : val env z = some v) (hp : Pick l (mapE enc ok b m a st) r)
 (h : N env (mapA enc ok b (mput m a v) :: r)) : LS P E n ds ⟨none, .entryStore t x y z, ty, pos, af, gd⟩ env l N :=
 LS.of0 rfl fun ac w hf hs => by
  obtain ⟨⟨es, clock, j, u⟩, s0⟩ := (hs.pick hp).ofex
  obtain ⟨⟨hm, ⟨e, he, hst⟩, hset, hat⟩, s⟩ := Sat.ofpur (p := EntOk enc ok m a st es clock j u) (l := blk b (.map es.toArray clock) :: r) (Sat.unfold (m := [pur (EntOk enc ok m a st es clock j u), blk b (.map es.toArray clock)]) s0)
  have hb := s.block
  subst hst
  have hnd : (es.map (·.born)).Nodup := hm.inc.imp fun h => Nat.ne_of_lt h
  have hfi := WideElems.findIdx_born hnd he
  have hkey : e.key = enc a := by
   have hz := congrArg (fun (z : List (Value × Value)) => z[j]?) hm.kv
   simp only [List.getElem?_map, hat, he, Option.map_some, Option.some.injEq, Prod.mk.injEq] at hz
   exact hz.1
  have hmod : es.modify j (fun e => { e with key := enc a, val := v }) = es.modify j (fun e => { e with val := v }) := by
   rw [ChangeMaps.modify_eq_set _ _ _ _ he, ChangeMaps.modify_eq_set _ _ _ _ he, ← hkey]
  have hma := hm.put_at (v := v) hat
  rw [hmod, ← hset v] at hma
  refine ⟨_, _, ?_, Sat.map_shut hma (s.setBlock (.map (es.modify j fun e => { e with val := v }).toArray clock)), h⟩
  have hfi2 : es.toArray.findIdx? (fun x => (x.born : Int) == ((e.born : Nat) : Int)) = some j := by
   rw [WideElems.findIdx_arr]
   simpa using hfi
  simp only [execOp, hf.eval hx, hf.eval hy, hf.eval hz, Instr.entryStore, Sem.run_bind, Result.andThen_ok, run_getObj_b hb, asInt, asIntOf]
  simp only [Sem.run_pure, Result.andThen_ok]
  rw [hfi2]
  simp only []
  rw [run_setObj_b hb]
  simp [List.modify_toArray]
omit [DecidableEq α] in
theorem run_clone {w : World} {r : Nat} {es : Array MapEntry} {clock : Nat} (t : TypeId) (hb : w.heap[r]? = some (.map es clock)) :
 (Extern.MapsClone.clone #[.iface t (.map (some r))]).run P w = .ok (.iface t (.map (some w.heap.size))) (w.alloc (.map es clock)) := by
 have e : Extern.MapsClone.clone #[.iface t (.map (some r))] = (getObj r >>= fun o => match o with
  | .map entries clock => (newObj (.map entries clock) >>= fun n => pure (.iface t (.map (some n))))
  | _ => stuck "maps.clone: a map expected") := rfl
 rw [e]
 simp [run_getObj_b hb, Result.andThen, go_sem]
omit [DecidableEq α] in
theorem l_mapsClone {fn : Func} {f : FuncId} {ts : Array TypeId} {b : Nat} {m : List (α × Value)} (hf : P.funcs[f]? = some fn) (h1 : (fn.name == "runtime.NumGoroutine") = false) (h2 : fn.body.isNone = true) (h3 : Extern.findNext fn = none) (h4 : Extern.find fn = some Extern.MapsClone.clone)
 (hx : val env x = some (.iface t (.map (some b)))) (hp : Pick l (mapA enc ok b m) r) (hn : Nat.blt d n = true)
 (h : ∀ c, N ((d, .iface t (.map (some c))) :: env) (mapA enc ok c m :: mapA enc ok b m :: r)) :
 LS P E n ds ⟨some d, .call ⟨.value (.func f), #[x], ts⟩, ty, pos, af, gd⟩ env l N :=
 l_callE (xs := [x]) (us := [.iface t (.map (some b))]) (by simp [vals, hx]) hn fun w hs => by
  obtain ⟨es, clock, hm, s⟩ := (hs.pick hp).map_open
  have hrun := run_clone (P := P) t s.block
  refine ⟨.iface t (.map (some w.heap.size)), w.alloc (.map es.toArray clock), mapA enc ok w.heap.size m :: mapA enc ok b m :: r, ?_, ?_, h _⟩
  · rw [run_callFunc_extern hf h1 h2 h3 h4]
    show ((Extern.MapsClone.clone #[.iface t (.map (some b))]).run P w).andThen _ = _
    rw [hrun]
    rfl
  · have s1 := s.alloc (.map es.toArray clock)
    have s2 := Sat.map_shut hm s1
    exact Sat.rot (p := [_]) (g := [_]) (Sat.map_shut hm (Sat.rot (p := [_]) (g := [_]) s2))
end
section
variable {P : Program} {E : World} {n : Nat} {ds : List Deferred} {env : Fr} {l : List HProp} {T : Tab}
variable {dst : Option Tmp} {ty : TypeId} {pos : String} {af : Array Edge} {gd : Option (Nat × Bool)} {x y : Operand} {v : Value} {t t' kt et : TypeId}
theorem run_map_nil (w : World) (d : Nat) (t k e : TypeId) (p : Option Nat) (h : P.underlying t = some (.map k e)) :
 (Op.equalIn (d + 1) t (.map p) (.map none)).run P w = .ok p.isNone w := by
 cases p <;> simp [Op.equalIn, run_underlying h]
theorem y_map_eqNil {i : TI} {p : Option Nat} (hT : Tok P T) (hi : T.at t = some i) (hk : i.u = .map kt et) (hx : val env x = some (.map p)) (hy : val env y = some (.map none)) : Y P E n ds ⟨dst, .binOp .eql t x y t', ty, pos, af, gd⟩ env l (.bool p.isNone) :=
 Y.of fun a w hf _ => by
  have h1 := (hT t i hi).1
  rw [hk] at h1
  simp only [execOp, hf.eval hx, hf.eval hy, binOp]
  simp [show Op.equal t (.map p) (.map none) = Op.equalIn (9999 + 1) t (.map p) (.map none) from rfl, run_map_nil w 9999 t kt et p h1, go_sem]
theorem y_iface_map {i : TI} (hT : Tok P T) (hi : T.at t = some i) (hk : i.u = .map kt et) (hx : val env x = some v) : Y P E n ds ⟨dst, .makeInterface t x, ty, pos, af, gd⟩ env l (.iface t v) :=
 Y.of fun a w hf _ => by
  have h1 := (hT t i hi).1
  rw [hk] at h1
  simp only [execOp, hf.eval hx]
  simp [Instr.makeInterface, run_underlying h1]
theorem y_assert_map {i : TI} (hT : Tok P T) (hi : T.at t = some i) (hk : i.u = .map kt et) (hx : val env x = some (.iface t v)) : Y P E n ds ⟨dst, .typeAssert x t' t false, ty, pos, af, gd⟩ env l v :=
 Y.of fun a w hf _ => by
  have h1 := (hT t i hi).1
  rw [hk] at h1
  simp only [execOp, hf.eval hx]
  simp [Instr.typeAssert, run_underlying h1, go_sem, Result.andThen]
end
section
variable {α : Type} [DecidableEq α] {P : Program} {E : World} {n : Nat} {ds : List Deferred} {env : Fr} {l r : List HProp} {T : Tab} {N : Fr → List HProp → Prop}
variable {ty : TypeId} {pos : String} {af : Array Edge} {gd : Option (Nat × Bool)} {x y : Operand} {t t' kt et : TypeId} {enc : α → Value} {ok : α → Prop}
omit [DecidableEq α] in
theorem LS.of0v {o : Oper} (hd : o.dst = none)
 (h : ∀ a w, Frm n ds env a → Sat E (stars l) w → ∃ v w' l', (execOp a.eval o).run P w = .ok (.value v) w' ∧ Sat E (stars l') w' ∧ N env l') :
 LS P E n ds o env l N := fun a w hf hs => by
 obtain ⟨v, w', l', h1, h3, h4⟩ := h a w hf hs
 unfold Oper.wp
 rw [h1]
 exact ⟨_, l', by rw [hd]; exact hf, h3, h4⟩
theorem l_delete0 {i : TI} {b : Nat} {m : List (α × Value)} {a : α} {kv : Value} (hT : Tok P T) (hi : T.at t = some i) (hk : i.u = .map kt et) (K : KeyOk P kt enc ok)
 (hx : val env x = some (.map (some b))) (hy : val env y = some kv) (hkv : kv = enc a) (ha : ok a) (hp : Pick l (mapA enc ok b m) r)
 (h : N env (mapA enc ok b (mdel m a) :: r)) : LS P E n ds ⟨none, .call ⟨.builtin .delete, #[x, y], #[t, t']⟩, ty, pos, af, gd⟩ env l N :=
 LS.of0v rfl fun ac w hf hs => by
  subst hkv
  obtain ⟨es, clock, hm, s⟩ := (hs.pick hp).map_open
  have hb := s.block
  have h1 := hT.und w hi
  rw [hk] at h1
  have h3 := K.run w ha es m hm.kv hm.oks
  have h4 := K.chk w es.isEmpty a ha
  cases hq : mfind m a 0 with
  | none =>
    rw [hq] at h3
    refine ⟨.tuple #[], _, _, ?_, Sat.map_shut hm (s.setBlock (.map es.toArray clock)), by rw [← (mfind_none m a 0 hq).2]; exact h⟩
    simp [execOp, resolve, invoke, builtin, hf.eval hx, hf.eval hy, Builtin.delete_, h1, run_getObj_b hb, h4, h3, run_setObj_b hb]
  | some q =>
    obtain ⟨j, u⟩ := q
    rw [hq] at h3
    obtain ⟨_, u', h5, _, h6⟩ := mfind_at m a 0 j u hq
    rw [Nat.sub_zero] at h5 h6
    refine ⟨.tuple #[], _, _, ?_, Sat.map_shut (hm.erase j) (s.setBlock (.map (es.eraseIdx j).toArray clock)), by rw [← (h6 u).2]; exact h⟩
    simp [execOp, resolve, invoke, builtin, hf.eval hx, hf.eval hy, Builtin.delete_, h1, run_getObj_b hb, h4, h3, run_setObj_b hb]
end
end Go.SL
namespace Go.SL
open Go Go.RowKit
/-! Mixed orders in which two loud steps may come in either order: a plan for each. -/
section
variable {P : Program} {E : World} {ops : Array Oper} {md : Region.Mode} {lc : List HProp}
def planF (md : Region.Mode) (ops : Array Oper) (tl : Nat → Bool) (C : Array Bool → Bool) : Nat → List Nat → Nat → List (Nat × Kd) → Nat → List (Nat × Kd) → Array Bool → Bool
 | f + 1, [], k1, r1, k2, r2, listed => !(Region.ready md ops listed).isEmpty && (Region.ready md ops listed).all fun i =>
    if i = k1 then planB md ops tl C f r1 (listed.setIfInBounds i true) else if i = k2 then planB md ops tl C f r2 (listed.setIfInBounds i true) else false
 | f + 1, k :: r, k1, r1, k2, r2, listed => (Region.ready md ops listed).contains k && Region.free md ops listed k && tailB md ops tl k && planF md ops tl C f r k1 r1 k2 r2 (listed.setIfInBounds k true)
 | 0, _, _, _, _, _, _ => false
def wpPre (P : Program) (E : World) (ops : Array Oper) (lc : List HProp) (K : Act → List HProp → Prop) : List Nat → Act → List HProp → Prop
 | [], a, m => K a m
 | k :: r, a, m => ∃ o v, ops[k]? = some o ∧ Quiets P E ops lc o v a ∧ wpPre P E ops lc K r (a.put o.dst v) m
theorem wpM_of_fork {Q : Act → List HProp → Prop} {tl : Nat → Bool} {C : Array Bool → Bool} (hQ : ∀ a m m', (∀ h, stars m h ↔ stars m' h) → Q a m → Q a m') (hs : Region.noSelect ops = true) {k1 k2 : Nat} {r1 r2 : List (Nat × Kd)} : ∀ (f : Nat) (ks : List Nat) (listed : Array Bool) (a : Act) (m : List HProp),
 planF md ops tl C f ks k1 r1 k2 r2 listed = true → wpPre P E ops lc (fun a m => wpPlan P E ops lc Q ((k1, .l) :: r1) a m ∧ wpPlan P E ops lc Q ((k2, .l) :: r2) a m) ks a m → wpM P E md ops tl C lc Q f listed a m
 | 0, _, _, _, _, hB, _ => by simp [planF] at hB
 | f + 1, [], listed, a, m, hB, ⟨h1, h2⟩ => by
   simp only [planF, Bool.and_eq_true, Bool.not_eq_true', List.all_eq_true] at hB
   refine ⟨fun h0 => absurd hB.1 (by simp [h0]), fun i hi => ?_⟩
   have hBi := hB.2 i hi
   split at hBi
   · next e =>
     subst e
     obtain ⟨o, ho, hw, hl⟩ := h1
     exact ⟨o, ho, .inr fun fr w hs' => ⟨hw, Oper.wp_mono' (fun a' w' ⟨m', g1, g2⟩ => ⟨m', g1, wpM_of_plan hQ hs f r1 _ a' m' hBi g2⟩) (fun _ _ _ h => h) (hl fr w hs')⟩⟩
   · split at hBi
     · next e =>
       subst e
       obtain ⟨o, ho, hw, hl⟩ := h2
       exact ⟨o, ho, .inr fun fr w hs' => ⟨hw, Oper.wp_mono' (fun a' w' ⟨m', g1, g2⟩ => ⟨m', g1, wpM_of_plan hQ hs f r2 _ a' m' hBi g2⟩) (fun _ _ _ h => h) (hl fr w hs')⟩⟩
     · cases hBi
 | f + 1, k :: r, listed, a, m, hB, h => by
   simp only [planF, Bool.and_eq_true] at hB
   obtain ⟨o, v, ho, hq, hk⟩ := h
   exact wpM_first (tailB_spec hB.1.2) ho (Region.noSelect_spec hs) f listed a m (Region.free_spec ho hB.1.1.2) (by simpa using hB.1.1.1) hq (wpM_of_fork hQ hs f r _ _ m hB.2 hk)
theorem wp_region_fork {ρ : Option Nat} {id : Nat} {Q : Exit → Act → World → Prop} {a : Act} {w : World} {m : List HProp} {k1 k2 : Nat} {r1 r2 : List (Nat × Kd)} (ks : List Nat) (hm : P.follows .mixedOrders = true)
 (hB : (Region.noSelect ops && ops.toList.all nd && planF .any ops (fun _ => false) (fun _ => true) ops.size ks k1 r1 k2 r2 (Array.replicate ops.size false)) = true) (hs : Sat E (stars (m ++ lc)) w)
 (h : wpPre P E ops lc (fun a m => wpPlan P E ops lc (fun a m => ∀ w, Sat E (stars (m ++ lc)) w → Q .normal a w) ((k1, .l) :: r1) a m ∧ wpPlan P E ops lc (fun a m => ∀ w, Sat E (stars (m ++ lc)) w → Q .normal a w) ((k2, .l) :: r2) a m) ks a m) : (Code.region id ops true).wpIn (Fw ρ) 0 P Q a w := by
 simp only [Bool.and_eq_true] at hB
 refine wpIn_region_any hm ?_
 have hnd : ∀ (j : Nat) (o : Oper), ops[j]? = some o → nd o = true := fun j o ho => List.all_eq_true.1 hB.1.2 o (Array.mem_toList_iff.2 (Array.mem_of_getElem? ho))
 have h1 := wpM_of_fork (md := .any) (fun a m m' e hq w hs => hq w (hs.imp fun h s => (stars_append m _ h).2 (star_mono (fun h' => (e h').2) (fun _ x => x) ((stars_append m' _ h).1 s)))) hB.1.1 _ ks _ a m hB.2 h
 have := wpAny_of_wpM (ρ := ρ) (t := 0) (Q' := Q) hnd (fun listed a m w g1 _ hq hs => ⟨ready_nil g1, hq w hs⟩) _ _ a m _ h1 (hs.drawn (w.drawn + 1))
 rwa [Nat.zero_add] at this
end
section
variable (P : Program) (E : World) (n : Nat) (ds : List Deferred)
def JP (ops : Array Oper) (lc : List HProp) (Q : Exit → Act → World → Prop) (ks : List Nat) (k1 : Nat) (r1 : List (Nat × Kd)) (k2 : Nat) (r2 : List (Nat × Kd)) (env : Fr) (m : List HProp) : Prop :=
 ∀ a, Frm n ds env a → wpPre P E ops lc (fun a m => wpPlan P E ops lc (fun a m => ∀ w, Sat E (stars (m ++ lc)) w → Q .normal a w) ((k1, .l) :: r1) a m ∧ wpPlan P E ops lc (fun a m => ∀ w, Sat E (stars (m ++ lc)) w → Q .normal a w) ((k2, .l) :: r2) a m) ks a m
end
section
variable {P : Program} {E : World} {ρ : Option Nat} {n : Nat} {ds : List Deferred} {Q : Exit → Act → World → Prop} {env : Fr} {l lc m : List HProp} {ops : Array Oper} {o : Oper} {k k1 k2 d : Nat} {v : Value} {ks : List Nat} {r1 r2 : List (Nat × Kd)}
theorem J.drawF {id : Nat} {ops : List Oper} (m lc : List HProp) (ks : List Nat) (k1 : Nat) (r1 : List (Nat × Kd)) (k2 : Nat) (r2 : List (Nat × Kd)) (hm : P.follows .mixedOrders = true)
 (hB : (Region.noSelect ops.toArray && ops.all nd && planF .any ops.toArray (fun _ => false) (fun _ => true) ops.toArray.size ks k1 r1 k2 r2 (Array.replicate ops.toArray.size false)) = true) (hsp : Split l m lc)
 (h : JP P E n ds ops.toArray lc Q ks k1 r1 k2 r2 env m) : J P E ρ n ds (.region id ops.toArray true) Q env l := fun a w hf hs => wp_region_fork ks hm (by simpa using hB) (hs.divide hsp) (h a hf)
theorem JP.quiet (ho : ops[k]? = some o) (hg : o.guard = none) (hd : o.dst = some d) (hn : Nat.blt d n = true) (hy : ∀ m, Y P E n ds o env (m ++ lc) v) (h : JP P E n ds ops lc Q ks k1 r1 k2 r2 ((d, v) :: env) m) :
 JP P E n ds ops lc Q (k :: ks) k1 r1 k2 r2 env m := fun a hf =>
 ⟨o, v, ho, fun m' => .inl ⟨by simp [Region.wanted, hg], fun w hw => hy m' a w hf hw⟩, h _ (by rw [hd]; exact hf.put v hn)⟩
theorem JP.nil (h1 : JM P E n ds ops lc Q ((k1, .l) :: r1) env m) (h2 : JM P E n ds ops lc Q ((k2, .l) :: r2) env m) : JP P E n ds ops lc Q [] k1 r1 k2 r2 env m := fun a hf => ⟨h1 a hf, h2 a hf⟩
end
end Go.SL
namespace Go.SL
open Go Go.RowKit
section
variable {P : Program} {E : World} {n : Nat} {ds : List Deferred} {env : Fr} {l : List HProp}
variable {dst : Option Tmp} {ty : TypeId} {pos : String} {af : Array Edge} {gd : Option (Nat × Bool)} {x y z : Operand}
end
end Go.SL
namespace Go.SL
open Go Go.RowKit
/-! Values of many cells: compared, and as keys of maps. -/
inductive CK where
 | int (k : IntKind)
 | str
 | bool
def CK.fits : CK → Value → Prop
 | .int k, v => ∃ n, v = .int k n
 | .str, v => ∃ s, v = .string s
 | .bool, v => ∃ b, v = .bool b
def Fits : List CK → List Value → Prop
 | [], [] => True
 | k :: ks, v :: vs => k.fits v ∧ Fits ks vs
 | _, _ => False
theorem Fits.length : ∀ {ks : List CK} {vs : List Value}, Fits ks vs → vs.length = ks.length
 | [], [], _ => rfl
 | _ :: _, _ :: _, h => by simp [Fits.length h.2]
 | [], _ :: _, h => h.elim
 | _ :: _, [], h => h.elim
theorem Fits.append : ∀ {k1 k2 : List CK} {vs : List Value}, Fits (k1 ++ k2) vs ↔ Fits k1 (vs.take k1.length) ∧ Fits k2 (vs.drop k1.length)
 | [], k2, vs => by simp [Fits]
 | k :: k1, k2, [] => by simp [Fits]
 | k :: k1, k2, v :: vs => by
   simp only [List.cons_append, Fits, List.length_cons, List.take_succ_cons, List.drop_succ_cons]
   rw [Fits.append (k1 := k1)]
   exact and_assoc.symm
def flatF (f : TypeId → Option (List CK)) : Nat → List Field → Option (List CK)
 | _, [] => some []
 | off, fd :: r => if fd.offset = off ∧ fd.name ≠ "_" then
    match f fd.type with
    | none => none
    | some ks => match flatF f (off + ks.length) r with
      | none => none
      | some rs => some (ks ++ rs)
   else none
def flatU (f : TypeId → Option (List CK)) : TypeDesc → Option (List CK)
 | .int k => some [.int k]
 | .string => some [.str]
 | .bool => some [.bool]
 | .array m e => match f e with
   | none => none
   | some ks => some (List.replicate m ks).flatten
 | .struct fs => flatF f 0 fs.toList
 | _ => none
def flatK (T : Tab) : Nat → TypeId → Option (List CK)
 | 0, _ => none
 | n + 1, t => match T.at t with
   | none => none
   | some i => match flatU (flatK T n) i.u with
     | none => none
     | some ks => if ks.length = i.size then some ks else none
theorem flatK_at {T : Tab} {n : Nat} {t : TypeId} {ks : List CK} (h : flatK T (n + 1) t = some ks) : ∃ i, T.at t = some i ∧ flatU (flatK T n) i.u = some ks ∧ ks.length = i.size := by
 rw [flatK] at h
 cases e1 : T.at t with
 | none => rw [e1] at h; cases h
 | some i =>
   rw [e1] at h
   cases e2 : flatU (flatK T n) i.u with
   | none => simp only [e2] at h; cases h
   | some k2 =>
     simp only [e2] at h
     split at h
     · cases h; rename_i e3; exact ⟨i, rfl, e2, e3⟩
     · cases h
theorem take_split {α : Type} (L : List α) (off a b : Nat) : (L.drop off).take (a + b) = (L.drop off).take a ++ (L.drop (off + a)).take b := by
 rw [List.take_add, List.drop_drop]
section
variable {P : Program} {T : Tab}
theorem part_one (hT : Tok P T) {w : World} {t : TypeId} {i : TI} {X : Array Value} {off : Nat} {v : Value} (hi : T.at t = some i) (ha : isAggB i.u = false) (h : X.toList[off]? = some v) : (part t X off).run P w = .ok v w := by
 have h2 := hT.agg w hi
 have e : X[off]? = some v := by rw [← Array.getElem?_toList]; exact h
 simp [part, h2, ha, e]
theorem part_agg (hT : Tok P T) {w : World} {t : TypeId} {i : TI} {X : Array Value} {off : Nat} (hi : T.at t = some i) (ha : isAggB i.u = true) : (part t X off).run P w = .ok (.agg (X.extract off (off + i.size))) w := by
 have h2 := hT.agg w hi
 have h3 := hT.siz w hi
 simp [part, h2, ha, h3]
theorem drop_one {L : List Value} {off : Nat} {k : CK} (h : Fits [k] ((L.drop off).take 1)) : ∃ v, L[off]? = some v ∧ (L.drop off).take 1 = [v] ∧ k.fits v := by
 cases e : L.drop off with
 | nil => rw [e] at h; exact h.elim
 | cons v r =>
   rw [e] at h
   refine ⟨v, ?_, by simp, h.1⟩
   have := congrArg (fun (z : List Value) => z[0]?) e
   simpa using this
theorem extract_list (X : Array Value) (off n : Nat) : (X.extract off (off + n)).toList = (X.toList.drop off).take n := by
 rw [Array.toList_extract, List.extract_eq_take_drop]
 congr 1
 omega
theorem chunks_eq {k : Nat} : ∀ (m : Nat) (A B : List Value), A.length = m * k → B.length = m * k → ((∀ a, a < m → (A.drop (a * k)).take k = (B.drop (a * k)).take k) ↔ A = B)
 | 0, A, B, ha, hb => by
   rw [Nat.zero_mul] at ha hb
   rw [List.eq_nil_of_length_eq_zero ha, List.eq_nil_of_length_eq_zero hb]
   simp
 | m + 1, A, B, ha, hb => by
   have e : (m + 1) * k = k + m * k := by rw [Nat.add_mul]; omega
   rw [e] at ha hb
   have ih := chunks_eq (k := k) m (A.drop k) (B.drop k) (by rw [List.length_drop]; omega) (by rw [List.length_drop]; omega)
   constructor
   · intro h
     have h0 := h 0 (by omega)
     rw [Nat.zero_mul, List.drop_zero, List.drop_zero] at h0
     have h1 := ih.1 fun a ha => by
      have := h (a + 1) (by omega)
      rw [List.drop_drop, List.drop_drop]
      rwa [show (a + 1) * k = k + a * k by rw [Nat.add_mul]; omega] at this
     rw [← List.take_append_drop k A, ← List.take_append_drop k B, h0, h1]
   · rintro rfl a _
     rfl
theorem Fits.rep {ks : List CK} : ∀ (m : Nat) {vs : List Value}, Fits (List.replicate m ks).flatten vs → ∀ a, a < m → Fits ks ((vs.drop (a * ks.length)).take ks.length)
 | m + 1, vs, h, 0, _ => by
   rw [List.replicate_succ, List.flatten_cons, Fits.append] at h
   simpa using h.1
 | m + 1, vs, h, a + 1, ha => by
   rw [List.replicate_succ, List.flatten_cons, Fits.append] at h
   have := Fits.rep m h.2 a (by omega)
   rwa [List.drop_drop, show ks.length + a * ks.length = (a + 1) * ks.length by rw [Nat.add_mul]; omega] at this
theorem holds_struct {n : Nat} {t : TypeId} {fs : Array Field} (h : P.holdsStoodIn (n + 1) t = false) (hu : P.underlying t = some (.struct fs)) : P.stoodInHeld t = false ∧ ∀ f ∈ fs.toList, P.holdsStoodIn n f.type = false := by
 rw [Program.holdsStoodIn, hu] at h
 simp only [Bool.or_eq_false_iff] at h
 refine ⟨h.1, fun f hf => ?_⟩
 have h2 := h.2
 rw [← Array.any_toList, List.any_eq_false] at h2
 simpa using h2 f hf
theorem holds_array {n m : Nat} {t e : TypeId} (h : P.holdsStoodIn (n + 1) t = false) (hu : P.underlying t = some (.array m e)) : P.holdsStoodIn n e = false := by
 rw [Program.holdsStoodIn, hu] at h
 simp only [Bool.or_eq_false_iff] at h
 exact h.2
theorem flat_eq (hT : Tok P T) (q : Nat) (w : World) : ∀ (n : Nat) (t : TypeId) (ks : List CK), flatK T n t = some ks → P.holdsStoodIn n t = false → ∀ (X Y : Array Value) (off : Nat), Fits ks ((X.toList.drop off).take ks.length) → Fits ks ((Y.toList.drop off).take ks.length) →
 ∃ (r : Bool) (a b : Value), (part t X off).run P w = .ok a w ∧ (part t Y off).run P w = .ok b w ∧ (Op.equalIn (q + n) t a b).run P w = .ok r w ∧ (r = true ↔ (X.toList.drop off).take ks.length = (Y.toList.drop off).take ks.length)
 | 0, t, ks, h, _, _, _, _, _, _ => by cases h
 | n + 1, t, ks, h, hs, X, Y, off, fx, fy => by
   classical
   obtain ⟨i, hi, hu, hl⟩ := flatK_at h
   have hut := (hT t i hi).1
   have IH := flat_eq hT q w n
   rw [show q + (n + 1) = (q + n) + 1 by omega]
   cases hk : i.u with
   | int k =>
     rw [hk] at hu hut
     cases hu
     obtain ⟨x, hx1, hx2, ⟨a, rfl⟩⟩ := drop_one fx
     obtain ⟨y, hy1, hy2, ⟨b, rfl⟩⟩ := drop_one fy
     refine ⟨a == b, _, _, part_one hT hi (by rw [hk]; rfl) hx1, part_one hT hi (by rw [hk]; rfl) hy1, run_equalIn_int w _ t k k a b hut, ?_⟩
     simp only [List.length_cons, List.length_nil, Nat.zero_add]
     rw [hx2, hy2]
     simp
   | string =>
     rw [hk] at hu hut
     cases hu
     obtain ⟨x, hx1, hx2, ⟨a, rfl⟩⟩ := drop_one fx
     obtain ⟨y, hy1, hy2, ⟨b, rfl⟩⟩ := drop_one fy
     refine ⟨decide (a = b), _, _, part_one hT hi (by rw [hk]; rfl) hx1, part_one hT hi (by rw [hk]; rfl) hy1, by rw [run_equalIn_string w _ t a b hut, bytes_beq], ?_⟩
     simp only [List.length_cons, List.length_nil, Nat.zero_add]
     rw [hx2, hy2]
     simp
   | bool =>
     rw [hk] at hu hut
     cases hu
     obtain ⟨x, hx1, hx2, ⟨a, rfl⟩⟩ := drop_one fx
     obtain ⟨y, hy1, hy2, ⟨b, rfl⟩⟩ := drop_one fy
     refine ⟨a == b, _, _, part_one hT hi (by rw [hk]; rfl) hx1, part_one hT hi (by rw [hk]; rfl) hy1, run_equalIn_bool' w _ t a b hut, ?_⟩
     simp only [List.length_cons, List.length_nil, Nat.zero_add]
     rw [hx2, hy2]
     simp
   | array m e =>
     rw [hk] at hu hut
     rw [flatU] at hu
     cases he : flatK T n e with
     | none => rw [he] at hu; cases hu
     | some ke =>
       rw [he] at hu
       simp only [Option.some.injEq] at hu
       obtain ⟨j, hj, hlj⟩ : ∃ j, T.at e = some j ∧ ke.length = j.size := by
        cases n with
        | zero => cases he
        | succ n => obtain ⟨j, h1, _, h3⟩ := flatK_at he; exact ⟨j, h1, h3⟩
       have hse := holds_array hs hut
       have hlk : ks.length = m * ke.length := by rw [← hu]; simp
       refine ⟨(List.range' 0 m 1).all fun a => decide ((X.toList.drop (off + a * ke.length)).take ke.length = (Y.toList.drop (off + a * ke.length)).take ke.length), _, _, part_agg hT hi (by rw [hk]; rfl), part_agg hT hi (by rw [hk]; rfl), ?_, ?_⟩
       · have h3 : (sizeOf e).run P w = .ok ke.length w := by rw [hT.siz w hj, hlj]
         rw [Op.equalIn]
         simp only [Sem.run_bind, run_underlying hut, Result.andThen_ok, h3, Std.Legacy.Range.forIn_eq_forIn_range', Std.Legacy.Range.size, Nat.sub_zero, Nat.add_sub_cancel, Nat.div_one]
         have hlt : ∀ a ∈ List.range' 0 m 1, a < m := fun a ha => by simpa using (List.mem_range'_1.1 ha).2
         generalize List.range' 0 m 1 = l at hlt ⊢
         induction l with
         | nil => simp
         | cons a l ih =>
           have ha : a < m := hlt a (by simp)
           have hcut : ∀ Z : Array Value, ((Z.extract off (off + i.size)).toList.drop (a * ke.length)).take ke.length = (Z.toList.drop (off + a * ke.length)).take ke.length := fun Z => by
            rw [extract_list, ← hl, hlk, List.drop_take, List.take_take, List.drop_drop, Nat.min_eq_left]
            have := Nat.mul_le_mul_right ke.length (show a + 1 ≤ m from ha)
            rw [Nat.add_mul] at this
            omega
           have hfit : ∀ Z : Array Value, Fits ks ((Z.toList.drop off).take ks.length) → Fits ke (((Z.extract off (off + i.size)).toList.drop (a * ke.length)).take ke.length) := fun Z hz => by
            have hz2 : Fits (List.replicate m ke).flatten ((Z.toList.drop off).take ks.length) := by rw [hu]; exact hz
            have := hz2.rep m a ha
            rwa [extract_list, ← hl]
           obtain ⟨r, va, vb, p1, p2, p3, p4⟩ := IH e ke he hse (X.extract off (off + i.size)) (Y.extract off (off + i.size)) (a * ke.length) (hfit X fx) (hfit Y fy)
           rw [hcut X, hcut Y] at p4
           have hr : r = decide ((X.toList.drop (off + a * ke.length)).take ke.length = (Y.toList.drop (off + a * ke.length)).take ke.length) := by
            rw [Bool.eq_iff_iff, p4, decide_eq_true_iff]
           subst hr
           simp only [List.forIn_cons, Sem.run_bind, p1, p2, p3, Result.andThen_ok, List.all_cons]
           cases hb : decide ((X.toList.drop (off + a * ke.length)).take ke.length = (Y.toList.drop (off + a * ke.length)).take ke.length)
           · simp
           · simp only [Bool.not_true, Bool.false_eq_true, if_false, Sem.run_pure, Result.andThen_ok, Bool.true_and]
             exact ih fun b hb => hlt b (by simp [hb])
       · rw [List.all_eq_true, ← chunks_eq m _ _ (by rw [fx.length, hlk]) (by rw [fy.length, hlk])]
         have hcut : ∀ (Z : Array Value) (a : Nat), a < m → (((Z.toList.drop off).take ks.length).drop (a * ke.length)).take ke.length = (Z.toList.drop (off + a * ke.length)).take ke.length := fun Z a ha => by
          rw [hlk, List.drop_take, List.take_take, List.drop_drop, Nat.min_eq_left]
          have := Nat.mul_le_mul_right ke.length (show a + 1 ≤ m from ha)
          rw [Nat.add_mul] at this
          omega
         constructor
         · intro hall a ha
           rw [hcut X a ha, hcut Y a ha]
           exact of_decide_eq_true (hall a (by rw [List.mem_range'_1]; omega))
         · intro hall a ha
           have ha : a < m := by simpa using (List.mem_range'_1.1 ha).2
           have := hall a ha
           rw [hcut X a ha, hcut Y a ha] at this
           exact decide_eq_true this
   | struct fs =>
     rw [hk] at hu hut
     rw [flatU] at hu
     obtain ⟨hst, hsf⟩ := holds_struct hs hut
     have hfo : P.fieldsOf t = fs := by unfold Program.fieldsOf; rw [hut]
     have key : ∀ (l : List Field) (o : Nat) (kf : List CK), flatF (flatK T n) o l = some kf → (∀ f ∈ l, P.holdsStoodIn n f.type = false) → ∀ X Y : Array Value, Fits kf ((X.toList.drop o).take kf.length) → Fits kf ((Y.toList.drop o).take kf.length) →
      ∃ r : Bool, (Op.eqFields (q + n) X Y l).run P w = .ok r w ∧ (r = true ↔ (X.toList.drop o).take kf.length = (Y.toList.drop o).take kf.length) := by
      intro l
      induction l with
      | nil => intro o kf hf _ X Y _ _; cases hf; exact ⟨true, by simp [Op.eqFields], by simp⟩
      | cons f l ih =>
        intro o kf hf hsl X Y gx gy
        rw [flatF] at hf
        split at hf
        · rename_i hc
          obtain ⟨ho, hn⟩ := hc
          cases e1 : flatK T n f.type with
          | none => rw [e1] at hf; cases hf
          | some k1 =>
            rw [e1] at hf
            simp only at hf
            cases e2 : flatF (flatK T n) (o + k1.length) l with
            | none => rw [e2] at hf; cases hf
            | some k2 =>
              rw [e2] at hf
              cases hf
              rw [List.length_append, take_split] at gx gy ⊢
              rw [take_split]
              have l1 : ∀ {Z : Array Value}, Fits (k1 ++ k2) ((Z.toList.drop o).take k1.length ++ (Z.toList.drop (o + k1.length)).take k2.length) → Fits k1 ((Z.toList.drop o).take k1.length) ∧ Fits k2 ((Z.toList.drop (o + k1.length)).take k2.length) := fun {Z} g => by
               have gl := g.length
               have e3 : ((Z.toList.drop o).take k1.length).length = k1.length := by
                rw [List.length_append, List.length_append, List.length_take, List.length_take] at gl
                rw [List.length_take]
                omega
               rw [Fits.append] at g
               rw [List.take_left' e3, List.drop_left' e3] at g
               exact g
              obtain ⟨gx1, gx2⟩ := l1 gx
              obtain ⟨gy1, gy2⟩ := l1 gy
              obtain ⟨r, a, b, p1, p2, p3, p4⟩ := IH f.type k1 e1 (hsl f (by simp)) X Y o gx1 gy1
              obtain ⟨r2, p5, p6⟩ := ih _ _ e2 (fun g hg => hsl g (by simp [hg])) X Y gx2 gy2
              subst ho
              have hlen : ((X.toList.drop f.offset).take k1.length).length = ((Y.toList.drop f.offset).take k1.length).length := by rw [gx1.length, gy1.length]
              refine ⟨r && r2, ?_, ?_⟩
              · rw [Op.eqFields, if_pos hn]
                simp only [Sem.run_bind, p1, p2, p3, Result.andThen_ok]
                cases r
                · simp
                · simpa using p5
              · rw [Bool.and_eq_true, p4, p6]
                constructor
                · rintro ⟨h1, h2⟩; rw [h1, h2]
                · intro h; exact List.append_inj h hlen
        · cases hf
     have hcut : ∀ Z : Array Value, ((Z.extract off (off + i.size)).toList.drop 0).take ks.length = (Z.toList.drop off).take ks.length := fun Z => by
      rw [extract_list, List.drop_zero, List.take_take, hl, Nat.min_self]
     obtain ⟨r, p1, p2⟩ := key fs.toList 0 ks hu hsf (X.extract off (off + i.size)) (Y.extract off (off + i.size)) (by rw [hcut]; exact fx) (by rw [hcut]; exact fy)
     rw [hcut, hcut] at p2
     refine ⟨r, _, _, part_agg hT hi (by rw [hk]; rfl), part_agg hT hi (by rw [hk]; rfl), ?_, p2⟩
     rw [run_equalIn_struct w (q + n) t _ _ (by rw [hfo]; exact hut) hst, hfo]
     exact p1
   | _ => rw [hk] at hu; cases hu
theorem flat_equal (hT : Tok P T) {n : Nat} {t : TypeId} {i : TI} {ks : List CK} (hk : flatK T n t = some ks) (hn : Nat.ble n 10000 = true) (hs : P.holdsStoodIn n t = false) (hi : T.at t = some i) (ha : isAggB i.u = true) (w : World) {xs ys : List Value} (fx : Fits ks xs) (fy : Fits ks ys) :
 ∃ r : Bool, (Op.equalIn 10000 t (.agg xs.toArray) (.agg ys.toArray)).run P w = .ok r w ∧ (r = true ↔ xs = ys) := by
 have hn := Nat.le_of_ble_eq_true hn
 have hl : ks.length = i.size := by
  cases n with
  | zero => cases hk
  | succ n => obtain ⟨j, h1, _, h3⟩ := flatK_at hk; rw [hi] at h1; cases h1; exact h3
 have ex : (xs.toArray.toList.drop 0).take ks.length = xs := by simp [← fx.length]
 have ey : (ys.toArray.toList.drop 0).take ks.length = ys := by simp [← fy.length]
 obtain ⟨r, a, b, p1, p2, p3, p4⟩ := flat_eq hT (10000 - n) w n t ks hk hs xs.toArray ys.toArray 0 (by rw [ex]; exact fx) (by rw [ey]; exact fy)
 rw [ex, ey] at p4
 have q1 : ∀ zs : List Value, Fits ks zs → zs.toArray.extract 0 (0 + i.size) = zs.toArray := fun zs hz => by
  have := hz.length
  apply Array.ext'
  rw [extract_list, ← hl, List.drop_zero]
  simp [← this]
 have p1' := part_agg hT (w := w) (X := xs.toArray) (off := 0) hi ha
 have p2' := part_agg hT (w := w) (X := ys.toArray) (off := 0) hi ha
 rw [p1] at p1'
 rw [p2] at p2'
 rw [q1 xs fx] at p1'
 rw [q1 ys fy] at p2'
 simp only [Result.ok.injEq, and_true] at p1' p2'
 subst p1' p2'
 rw [show 10000 - n + n = 10000 by omega] at p3
 exact ⟨r, p3, p4⟩
end
section
variable {P : Program} {E : World} {n : Nat} {ds : List Deferred} {env : Fr} {l : List HProp} {T : Tab}
variable {dst : Option Tmp} {ty : TypeId} {pos : String} {af : Array Edge} {gd : Option (Nat × Bool)} {x y : Operand} {t t' : TypeId}
theorem y_flat_ne (hT : Tok P T) {m : Nat} {i : TI} {ks : List CK} {xs ys : List Value} {b : Bool} (hk : flatK T m t = some ks) (hn : Nat.ble m 10000 = true) (hs : P.holdsStoodIn m t = false) (hg : P.eqGuardType P.depth t = false) (hi : T.at t = some i) (ha : isAggB i.u = true)
 (hx : val env x = some (.agg xs.toArray)) (hy : val env y = some (.agg ys.toArray)) (fx : Fits ks xs) (fy : Fits ks ys) (hb : b = true ↔ ¬ xs = ys) :
 Y P E n ds ⟨dst, .binOp .neq t x y t', ty, pos, af, gd⟩ env l (.bool b) :=
 Y.of fun a w hf _ => by
  obtain ⟨r, p1, p2⟩ := flat_equal hT hk hn hs hi ha w fx fy
  have e : (!r) = b := by rw [Bool.eq_iff_iff, hb, ← p2]; cases r <;> simp
  subst e
  simp only [execOp, hf.eval hx, hf.eval hy, Sem.run_bind, run_eqGuard_agg w _ t x y _ _ hg, Result.andThen_ok, run_neq_struct, p1, Sem.run_pure]
end
end Go.SL
namespace Go.SL
open Go Go.RowKit
/-! Mixed orders in which loud steps may come in several orders: a tree of plans. -/
inductive PT where
 | plan (π : List (Nat × Kd))
 | one (ks : List Nat) (k : Nat) (t : PT)
 | fork (ks : List Nat) (k1 : Nat) (t1 : PT) (k2 : Nat) (t2 : PT)
section
variable {P : Program} {E : World} {ops : Array Oper} {md : Region.Mode} {lc : List HProp}
def planT (md : Region.Mode) (ops : Array Oper) (tl : Nat → Bool) (C : Array Bool → Bool) : Nat → PT → Array Bool → Bool
 | f, .plan π, listed => planB md ops tl C f π listed
 | f + 1, .one [] k t, listed => !(Region.ready md ops listed).isEmpty && (Region.ready md ops listed).all fun i => if i = k then planT md ops tl C f t (listed.setIfInBounds i true) else false
 | f + 1, .fork [] k1 t1 k2 t2, listed => !(Region.ready md ops listed).isEmpty && (Region.ready md ops listed).all fun i =>
    if i = k1 then planT md ops tl C f t1 (listed.setIfInBounds i true) else if i = k2 then planT md ops tl C f t2 (listed.setIfInBounds i true) else false
 | f + 1, .one (q :: r) k t, listed => (Region.ready md ops listed).contains q && Region.free md ops listed q && tailB md ops tl q && planT md ops tl C f (.one r k t) (listed.setIfInBounds q true)
 | f + 1, .fork (q :: r) k1 t1 k2 t2, listed => (Region.ready md ops listed).contains q && Region.free md ops listed q && tailB md ops tl q && planT md ops tl C f (.fork r k1 t1 k2 t2) (listed.setIfInBounds q true)
 | 0, .one .., _ => false
 | 0, .fork .., _ => false
def wpLd (P : Program) (E : World) (ops : Array Oper) (lc : List HProp) (k : Nat) (K : Act → List HProp → Prop) (a : Act) (m : List HProp) : Prop :=
 ∃ o, ops[k]? = some o ∧ Region.wanted o (yielded ops a.tmps) = true ∧ ∀ fr w, Sat E (stars (m ++ (fr ++ lc))) w → o.wp P a w (fun a' w' => ∃ m', Sat E (stars (m' ++ (fr ++ lc))) w' ∧ K a' m') (fun _ _ _ => False)
def wpT (P : Program) (E : World) (ops : Array Oper) (lc : List HProp) (Q : Act → List HProp → Prop) : PT → Act → List HProp → Prop
 | .plan π, a, m => wpPlan P E ops lc Q π a m
 | .one ks k t, a, m => wpPre P E ops lc (wpLd P E ops lc k (wpT P E ops lc Q t)) ks a m
 | .fork ks k1 t1 k2 t2, a, m => wpPre P E ops lc (fun a m => wpLd P E ops lc k1 (wpT P E ops lc Q t1) a m ∧ wpLd P E ops lc k2 (wpT P E ops lc Q t2) a m) ks a m
theorem wpM_of_tree {Q : Act → List HProp → Prop} {tl : Nat → Bool} {C : Array Bool → Bool} (hQ : ∀ a m m', (∀ h, stars m h ↔ stars m' h) → Q a m → Q a m') (hs : Region.noSelect ops = true) : ∀ (f : Nat) (t : PT) (listed : Array Bool) (a : Act) (m : List HProp),
 planT md ops tl C f t listed = true → wpT P E ops lc Q t a m → wpM P E md ops tl C lc Q f listed a m := by
 intro f
 induction f with
 | zero =>
   intro t listed a m hB h
   cases t with
   | plan π => exact wpM_of_plan hQ hs 0 π listed a m (by simpa [planT] using hB) h
   | one ks k t => simp [planT] at hB
   | fork ks k1 t1 k2 t2 => simp [planT] at hB
 | succ f ih =>
   intro t listed a m hB h
   have go : ∀ {i k : Nat} {t : PT}, i = k → planT md ops tl C f t (listed.setIfInBounds i true) = true → wpLd P E ops lc k (wpT P E ops lc Q t) a m → mOp P E ops lc i (fun a' m' => wpM P E md ops tl C lc Q f (listed.setIfInBounds i true) a' m') a m := by
    rintro i k t rfl hBi ⟨o, ho, hw, hl⟩
    exact ⟨o, ho, .inr fun fr w hs' => ⟨hw, Oper.wp_mono' (fun a' w' ⟨m', g1, g2⟩ => ⟨m', g1, ih t _ a' m' hBi g2⟩) (fun _ _ _ h => h) (hl fr w hs')⟩⟩
   cases t with
   | plan π => exact wpM_of_plan hQ hs (f + 1) π listed a m (by simpa [planT] using hB) h
   | one ks k t =>
     cases ks with
     | nil =>
       simp only [planT, Bool.and_eq_true, Bool.not_eq_true', List.all_eq_true] at hB
       refine ⟨fun h0 => absurd hB.1 (by simp [h0]), fun i hi => ?_⟩
       have hBi := hB.2 i hi
       split at hBi
       · next e => exact go e hBi h
       · cases hBi
     | cons q r =>
       simp only [planT, Bool.and_eq_true] at hB
       obtain ⟨o, v, ho, hq, hk⟩ := h
       exact wpM_first (tailB_spec hB.1.2) ho (Region.noSelect_spec hs) f listed a m (Region.free_spec ho hB.1.1.2) (by simpa using hB.1.1.1) hq (ih (.one r k t) _ _ m hB.2 hk)
   | fork ks k1 t1 k2 t2 =>
     cases ks with
     | nil =>
       simp only [planT, Bool.and_eq_true, Bool.not_eq_true', List.all_eq_true] at hB
       refine ⟨fun h0 => absurd hB.1 (by simp [h0]), fun i hi => ?_⟩
       have hBi := hB.2 i hi
       split at hBi
       · next e => exact go e hBi h.1
       · split at hBi
         · next e => exact go e hBi h.2
         · cases hBi
     | cons q r =>
       simp only [planT, Bool.and_eq_true] at hB
       obtain ⟨o, v, ho, hq, hk⟩ := h
       exact wpM_first (tailB_spec hB.1.2) ho (Region.noSelect_spec hs) f listed a m (Region.free_spec ho hB.1.1.2) (by simpa using hB.1.1.1) hq (ih (.fork r k1 t1 k2 t2) _ _ m hB.2 hk)
theorem wp_region_tree {ρ : Option Nat} {id : Nat} {Q : Exit → Act → World → Prop} {a : Act} {w : World} {m : List HProp} (t : PT) (hm : P.follows .mixedOrders = true)
 (hB : (Region.noSelect ops && ops.toList.all nd && planT .any ops (fun _ => false) (fun _ => true) ops.size t (Array.replicate ops.size false)) = true) (hs : Sat E (stars (m ++ lc)) w)
 (h : wpT P E ops lc (fun a m => ∀ w, Sat E (stars (m ++ lc)) w → Q .normal a w) t a m) : (Code.region id ops true).wpIn (Fw ρ) 0 P Q a w := by
 simp only [Bool.and_eq_true] at hB
 refine wpIn_region_any hm ?_
 have hnd : ∀ (j : Nat) (o : Oper), ops[j]? = some o → nd o = true := fun j o ho => List.all_eq_true.1 hB.1.2 o (Array.mem_toList_iff.2 (Array.mem_of_getElem? ho))
 have h1 := wpM_of_tree (md := .any) (fun a m m' e hq w hs => hq w (hs.imp fun h s => (stars_append m _ h).2 (star_mono (fun h' => (e h').2) (fun _ x => x) ((stars_append m' _ h).1 s)))) hB.1.1 _ t _ a m hB.2 h
 have := wpAny_of_wpM (ρ := ρ) (t := 0) (Q' := Q) hnd (fun listed a m w g1 _ hq hs => ⟨ready_nil g1, hq w hs⟩) _ _ a m _ h1 (hs.drawn (w.drawn + 1))
 rwa [Nat.zero_add] at this
end
section
variable (P : Program) (E : World) (n : Nat) (ds : List Deferred)
def JT (ops : Array Oper) (lc : List HProp) (Q : Exit → Act → World → Prop) (t : PT) (env : Fr) (m : List HProp) : Prop :=
 ∀ a, Frm n ds env a → wpT P E ops lc (fun a m => ∀ w, Sat E (stars (m ++ lc)) w → Q .normal a w) t a m
end
section
variable {P : Program} {E : World} {ρ : Option Nat} {n : Nat} {ds : List Deferred} {Q : Exit → Act → World → Prop} {env : Fr} {l lc m : List HProp} {ops : Array Oper} {o : Oper} {k k1 k2 d q : Nat} {v : Value} {ks : List Nat} {t t1 t2 : PT} {π : List (Nat × Kd)}
theorem J.drawT2 {id : Nat} {ops : List Oper} (m lc : List HProp) (t : PT) (hm : P.follows .mixedOrders = true)
 (hB : (Region.noSelect ops.toArray && ops.all nd && planT .any ops.toArray (fun _ => false) (fun _ => true) ops.toArray.size t (Array.replicate ops.toArray.size false)) = true) (hsp : Split l m lc)
 (h : JT P E n ds ops.toArray lc Q t env m) : J P E ρ n ds (.region id ops.toArray true) Q env l := fun a w hf hs => wp_region_tree t hm (by simpa using hB) (hs.divide hsp) (h a hf)
theorem JT.plan (h : JM P E n ds ops lc Q π env m) : JT P E n ds ops lc Q (.plan π) env m := h
theorem JT.quiet2 (ho : ops[q]? = some o) (hg : o.guard = none) (hd : o.dst = some d) (hn : Nat.blt d n = true) (hy : ∀ m, Y P E n ds o env (m ++ lc) v) (h : JT P E n ds ops lc Q (.fork ks k1 t1 k2 t2) ((d, v) :: env) m) :
 JT P E n ds ops lc Q (.fork (q :: ks) k1 t1 k2 t2) env m := fun a hf =>
 ⟨o, v, ho, fun m' => .inl ⟨by simp [Region.wanted, hg], fun w hw => hy m' a w hf hw⟩, h _ (by rw [hd]; exact hf.put v hn)⟩
theorem JT.loud (ho : ops[k]? = some o) (hg : o.guard = none) (h : ∀ fr, LS P E n ds o env (m ++ (fr ++ lc)) (fun env' l' => ∃ m', Split l' m' (fr ++ lc) ∧ JT P E n ds ops lc Q t env' m')) :
 JT P E n ds ops lc Q (.one [] k t) env m := fun a hf =>
 ⟨o, ho, by simp [Region.wanted, hg], fun fr w hs => Oper.wp_mono' (fun a' w' ⟨_, _, h1, h2, m', h3, h4⟩ => ⟨m', h2.divide h3, h4 a' h1⟩) (fun _ _ _ h => h) (h fr a w hf hs)⟩
theorem JT.fork (h1 : JT P E n ds ops lc Q (.one [] k1 t1) env m) (h2 : JT P E n ds ops lc Q (.one [] k2 t2) env m) : JT P E n ds ops lc Q (.fork [] k1 t1 k2 t2) env m := fun a hf => ⟨h1 a hf, h2 a hf⟩
end
end Go.SL
namespace Go.SL
open Go Go.RowKit
/-! Short names for what stands often. -/
theorem U {α : Type} {a : α} : a = a := rfl
theorem zrv {p : Prop} (h : p := by (first | exact RV.tmp rfl | exact RV.cell1 hT rfl rfl rfl (by (exact Rd1.row (by (repeat (first | exact Pick.head | apply Pick.tail | apply Pick.app))) (by rfl))) | exact RV.cellN hT rfl rfl rfl (by (first | exact RdN.rowAll (by (repeat (first | exact Pick.head | apply Pick.tail | apply Pick.app))) | exact RdN.own (by (repeat (first | exact Pick.head | apply Pick.tail | apply Pick.app))))) (by (first | rfl | assumption | (simp; done) | omega)))) : p := h
theorem zrdna {p : Prop} (h : p := by (first | exact RdN.rowAll (Pick.app m (by (repeat (first | exact Pick.head | apply Pick.tail | apply Pick.app)))) | exact RdN.own (Pick.app m (by (repeat (first | exact Pick.head | apply Pick.tail | apply Pick.app)))))) : p := h
theorem zab {p : Prop} (h : p := by (first | exact Nat.le_trans (Nat.mul_le_mul_left _ (Nat.le_of_ble_eq_true rfl : _ ≤ 4096)) (by omega) | exact Nat.le_trans (Nat.mul_le_mul_left _ (Nat.le_of_ble_eq_true rfl : _ ≤ 1)) (by omega))) : p := h
theorem zrdn {p : Prop} (h : p := by (first | exact RdN.rowAll (by (repeat (first | exact Pick.head | apply Pick.tail | apply Pick.app))) | exact RdN.own (by (repeat (first | exact Pick.head | apply Pick.tail | apply Pick.app))))) : p := h
theorem zoc {p : Prop} (h : p := by (first | assumption | exact ones_of rfl | exact encW_one _ | exact encB_one _ | (intro u hu; simp at hu; rcases hu with rfl | rfl <;> rfl) | (intro u hu; simp at hu; subst hu; rfl) | simp)) : p := h
theorem zsup {p : Prop} (h : p := by (repeat (first | exact Sup.refl | apply Sup.cons (by (repeat (first | exact Pick.head | apply Pick.tail | apply Pick.app))) | apply Sup.app | apply Sup.skip | apply Sup.skips))) : p := h
theorem zrda {p : Prop} (h : p := by (exact Rd1.row (Pick.app m (by (repeat (first | exact Pick.head | apply Pick.tail | apply Pick.app)))) (by rfl))) : p := h
theorem zrd {p : Prop} (h : p := by (exact Rd1.row (by (repeat (first | exact Pick.head | apply Pick.tail | apply Pick.app))) (by rfl))) : p := h
theorem zfl {p : Prop} (h : p := by (first | exact fill_one rfl (by first | assumption | rfl | (simp; done)) | rfl | simp)) : p := h
theorem zei {p : Prop} (h : p := by (first | assumption | omega | (simp only [Array.size_setIfInBounds]; omega))) : p := h
theorem zix {p : Prop} (h : p := by (first | omega | exact Nat.le_of_ble_eq_true rfl | decide | (simp; omega))) : p := h
theorem zpk {p : Prop} (h : p := by (repeat (first | exact Pick.head | apply Pick.tail | apply Pick.app))) : p := h
theorem zinl {p : Prop} (h : p := by (repeat (first | assumption | apply InL.cons | apply InL.app))) : p := h
theorem zri {p : Prop} (h : p := by (repeat (first | assumption | apply RdN.cons | apply RdN.app))) : p := h
theorem zbl {p : Prop} (h : p := by (first | rfl | assumption | (simp; done) | (simp; omega))) : p := h
theorem zwr {p : Prop} (h : p := by (first | exact wrap_i64 (by omega) (by omega) | rfl)) : p := h
theorem zln {p : Prop} (h : p := by (first | rfl | assumption | (simp; done) | omega)) : p := h
theorem zeo {p : Prop} (h : p := by exact arr_off rfl (by omega)) : p := h
theorem zcl {p : Prop} (h : p := by (first | rfl | simp)) : p := h
theorem Ja : type_of% @JE.then_normal := @JE.then_normal
theorem Jb : type_of% @JL.step := @JL.step
theorem Jc : type_of% @JM.quiet := @JM.quiet
theorem Jd : type_of% @y_move := @y_move
theorem Je : type_of% @J.region := @J.region
theorem Jf : type_of% @y_assign := @y_assign
theorem Jg : type_of% @JL.nil := @JL.nil
theorem Jh : type_of% @J.seq := @J.seq
theorem Ji : type_of% @Split.cons := @Split.cons
theorem Jj : type_of% @Split.nil := @Split.nil
theorem Jk : type_of% @y_fieldAddr := @y_fieldAddr
theorem Jl : type_of% @JL.loud := @JL.loud
theorem Jm : type_of% @Pick.head := @Pick.head
theorem Jn : type_of% @y_indexAddr_slice := @y_indexAddr_slice
theorem Jo : type_of% @y_load1 := @y_load1
theorem Jp : type_of% @JL.gskipU := @JL.gskipU
theorem Jq : type_of% @y_nilCheck := @y_nilCheck
theorem Jr : type_of% @JM.gquiet := @JM.gquiet
theorem Js : type_of% @JL.gskip := @JL.gskip
theorem Jt : type_of% @JL.gstep := @JL.gstep
theorem Ju : type_of% @JE.block_normal := @JE.block_normal
theorem Jv : type_of% @JE.then_exit := @JE.then_exit
theorem Jw : type_of% @l_callF := @l_callF
theorem Jx : type_of% @J.cond_dec := @J.cond_dec
theorem Jy : type_of% @JM.gskip := @JM.gskip
theorem Jz : type_of% @Pick.tail := @Pick.tail
theorem Va : type_of% @Fc.of_body := @Fc.of_body
theorem Vb : type_of% @JE.then_ret := @JE.then_ret
theorem Vc : type_of% @Split.all := @Split.all
theorem Vd : type_of% @J.skip := @J.skip
theorem Ve : type_of% @J.block := @J.block
theorem Vf : type_of% @y_len_slice := @y_len_slice
theorem Vg : type_of% @y_extract := @y_extract
theorem Vh : type_of% @JL.gsplit_dec := @JL.gsplit_dec
theorem Vi : type_of% @JE.ret1 := @JE.ret1
theorem Vj : type_of% @JE.block_ret := @JE.block_ret
theorem Vk : type_of% @J.cond_f := @J.cond_f
theorem Vl : type_of% @JE.block_exit := @JE.block_exit
theorem Vm : type_of% @JM.loud := @JM.loud
theorem Vn : type_of% @J.ret := @J.ret
theorem Vo : type_of% @J.cond := @J.cond
theorem Vp : type_of% @Pick.app := @Pick.app
theorem Vq : type_of% @Ent.mk := @Ent.mk
theorem Vr : type_of% @JL.gsplit := @JL.gsplit
theorem Vs : type_of% @l_store1 := @l_store1
theorem Vt : type_of% @JE.round := @JE.round
theorem Vu : type_of% @Sat.own_at := @Sat.own_at
theorem Vv : type_of% @JM.nil := @JM.nil
theorem Vw : type_of% @Fc.on := @Fc.on
theorem Vx : type_of% @l_storeAll := @l_storeAll
theorem Vy : type_of% @Tok.cons := @Tok.cons
theorem Vz : type_of% @J.draw := @J.draw
theorem Wa : type_of% @y_add := @y_add
theorem Wb : type_of% @y_pick := @y_pick
theorem Wc : type_of% @y_ptr_eq_nil := @y_ptr_eq_nil
theorem We : type_of% @y_loadN := @y_loadN
theorem Wf : type_of% @l_alloc := @l_alloc
theorem Wg : type_of% @Fc.post := @Fc.post
theorem Wh : type_of% @JM.early := @JM.early
theorem Wi : type_of% @Rd1.arr := @Rd1.arr
theorem Wj : type_of% @J.closeK := @J.closeK
theorem Wk : type_of% @y_indexAddr_arr := @y_indexAddr_arr
theorem Wl : type_of% @J.exit := @J.exit
theorem Wm : type_of% @wrap_i64 := @wrap_i64
theorem Wn : type_of% @J.loop := @J.loop
theorem zom {p : Prop} (h : False := by omega) : p := h.elim
theorem zho {p q : Prop} (h : p) (c : ¬ p := by first | (simp; done) | decide) : q := absurd h c
theorem znc {p : Prop} (h : p := by first | exact y_nilCheck rfl | exact y_nilCheckF rfl | exact y_nilCheckY rfl) : p := h
theorem zqm {P : Program} {E : World} {n : Nat} {ds : List Deferred} {ops : Array Oper} {lc m : List HProp} {Q : Exit → Act → World → Prop} {π : List (Nat × Kd)} {env : Fr} {k d : Nat} {dst : Option Tmp} {ty : TypeId} {pos : String} {af : Array Edge} {gd : Option (Nat × Bool)} {x : Operand} {v : Value} (ho : ops[k]? = some ⟨dst, .move x, ty, pos, af, gd⟩) (hg : (⟨dst, .move x, ty, pos, af, gd⟩ : Oper).guard = none) (hd : (⟨dst, .move x, ty, pos, af, gd⟩ : Oper).dst = some d) (hn : Nat.blt d n = true) (hx : val env x = some v) (h : JM P E n ds ops lc Q π ((d, v) :: env) m) : JM P E n ds ops lc Q ((k, .q) :: π) env m := JM.quiet ho hg hd hn (fun _ => y_move hx) h
end Go.SL
