import Derived.Test.YtaopifoidbdniaaGreatJoin1
import Derived.Test.YtaopifoidbdniaaGreatJoin2
import Derived.Test.YtaopifoidbdniaaGreatJoin8
import Derived.Test.YtaopifoidbdniaaGreatJoin9
namespace Go.Proofs.YtaopifoidbdniaaGreat
section
open Go Go.SL
section
structure Chg where
 put : Bool
 tab : Nat
 key : ByteArray
 val : ByteArray
def chC (c : Chg) : List Value := [.bool c.put, .int .i64 (c.tab : Int), .string c.key, .string c.val]
def kindN (c : Chg) : Int := if c.put then 1 else 0
def chB (c : Chg) : List Int := [kindN c, (c.tab : Int)] ++ txtB c.key ++ (if c.put then txtB c.val else [])
def txB (cs : List Chg) : List Int := num2 cs.length ++ cs.flatMap chB
structure ChOk (c : Chg) : Prop where
 tab : c.tab < 8
 key : c.key.size ≤ 64
 val : c.val.size ≤ 1024
theorem chC_length (c : Chg) : (chC c).length = 4 := rfl
theorem chB_le {c : Chg} (h : ChOk c) : (chB c).length ≤ 1094 := by
 have h1 := h.key
 have h2 := h.val
 rw [chB, List.length_append, List.length_append, txtB_length]
 split
 · rw [txtB_length]; simp only [List.length_cons, List.length_nil]; omega
 · simp only [List.length_cons, List.length_nil]; omega
theorem chB_bytes {c : Chg} (h : ChOk c) : Bytes (chB c) := fun y hy => by
 have h1 := h.tab
 rcases List.mem_append.1 hy with hy | hy
 · rcases List.mem_append.1 hy with hy | hy
   · simp only [List.mem_cons, List.not_mem_nil, or_false] at hy
     rcases hy with rfl | rfl
     · unfold kindN; split <;> omega
     · omega
   · exact txtB_bytes _ y hy
 · split at hy
   · exact txtB_bytes _ y hy
   · cases hy
theorem txB_bytes {cs : List Chg} (h : ∀ c ∈ cs, ChOk c) : Bytes (txB cs) := fun y hy => by
 rcases List.mem_append.1 hy with hy | hy
 · exact num2_bytes _ y hy
 · obtain ⟨c, hc, hy⟩ := List.mem_flatMap.1 hy
   exact chB_bytes (h c hc) y hy
theorem chsB_le {cs : List Chg} (h : ∀ c ∈ cs, ChOk c) (hn : cs.length ≤ 900) (j : Nat) : ((cs.take j).flatMap chB).length ≤ 984600 := by
 have h1 := flatMap_le (l := cs.take j) (f := chB) (k := 1094) fun c hc => chB_le (h c (List.mem_of_mem_take hc))
 have h2 : (cs.take j).length ≤ 900 := Nat.le_trans (List.length_take_le' ..) hn
 have h3 : (cs.take j).length * 1094 ≤ 900 * 1094 := Nat.mul_le_mul_right _ h2
 omega
theorem txB_le {cs : List Chg} (h : ∀ c ∈ cs, ChOk c) (hn : cs.length ≤ 900) : (txB cs).length ≤ 984602 := by
 have h1 := chsB_le h hn cs.length
 rw [List.take_length] at h1
 rw [txB, List.length_append, num2_length]; omega
theorem txB_small {cs : List Chg} (h : ∀ c ∈ cs, ChOk c) (hn : cs.length ≤ 900) : Small (txB cs) := ⟨txB_bytes h, by have := txB_le h hn; omega⟩
theorem fill_b2 (f : Nat → Value) (a b : Int) : Instr.fill (fun i => some (i * 1, 1)) ((Array.range (2 * 1)).map f) [(0, .int .u8 a), (1, .int .u8 b)] = some (ints .u8 [a, b]).toArray := by
 have h := fill_eq (fun i => some (i * 1, 1)) [(0, 1), (1, 1)] [(0, .int .u8 a), (1, .int .u8 b)] ((Array.range (2 * 1)).map f).toList (by intro q hq; simp at hq; rcases hq with rfl | rfl <;> rfl) (by simp [fillOk, Value.cells])
 have e : ((Array.range (2 * 1)).map f).toList = [f 0, f 1] := by
  rw [Array.toList_map, Array.toList_range]
  rfl
 rw [show ((Array.range (2 * 1)).map f) = ((Array.range (2 * 1)).map f).toList.toArray from rfl, h, e]
 rfl
theorem wrap_u8n {x : Nat} (h : x < 256) : IntKind.u8.wrap (x : Int) = (x : Int) := by
 rw [wrap_u8]; omega
end
section
attribute [local irreducible] J JL JE JM LS Y Fc RV Code.wp wpList Code.wpIn wpListIn
attribute [local irreducible] Yc ltS
variable (E : World)
theorem tx_spec (a : Option Addr) (n c : Nat) (cs : List Chg) (hn : cs.length = n) (h9 : n ≤ 900) (hcs : ∀ c ∈ cs, ChOk c) (l : List HProp) :
 Fc prog E 85 [.slice a n c].toArray (own 168 4 (.slice a n c) n (cs.flatMap chC) :: l) (fun v l' => ∃ a' c', v = .slice a' (txB cs).length c' ∧ l' = own 5 1 v (txB cs).length (ints .u8 (txB cs)) :: own 168 4 (.slice a n c) n (cs.flatMap chC) :: l) := by
 refine Wg ?_
 refine Va (c := ?codeC) Tryz.func85 ?hb Tryz.ntmps85 ?hl ?_
 case hb => exact rfl
 case hl => exact rfl
 refine Jh (Je (Jb (Jf rfl) U U U ?_))
 refine Jg (Ja (Jh (Je (Jb (Jd rfl) U U U (Jb (Vf hT U U U) U U U ?_)))))
 refine Jb (y_conv (m := (n : Int)) hT U U U U (wrap_u16 (by omega))) U U U ?_
 refine Jl rfl (Jw e127 U U (octPut16_spec E none 0 0 [] n _ rfl ⟨Nat.le_refl _, Nat.zero_le _, .inr ⟨rfl, rfl⟩⟩ (by omega)) ?_)
 rintro _ _ ⟨a1, c1, rfl, rfl⟩
 refine Jb (Jf rfl) U U U ?_
 refine Jg (Ja (Jh (Jh (Je (Jb (Jd rfl) U U U (Jb (Vf hT U U U) U U U (Jb (Jd rfl) U U U ?_)))))))
 refine Jg (Ja (Ve ?_))
 refine J.fact (p := OwnAt a n c (cs.flatMap chC)) (fun w s => Vu (s.pick (Jz Jm))) fun op => ?_
 have e0 : num2 n ++ (cs.take 0).flatMap chB = num2 n := by simp
 refine Wn (α := Nat × Option Addr × Nat) (fun s => s.1 ≤ n) (fun s => [(3, .slice s.2.1 (num2 n ++ (cs.take s.1).flatMap chB).length s.2.2), (11, .slice a n c), (12, .int .i64 n), (13, .int .i64 s.1)]) (fun s => own 5 1 (.slice s.2.1 (num2 n ++ (cs.take s.1).flatMap chB).length s.2.2) (num2 n ++ (cs.take s.1).flatMap chB).length (ints .u8 (num2 n ++ (cs.take s.1).flatMap chB)) :: own 168 4 (.slice a n c) n (cs.flatMap chC) :: l) (fun s => n - s.1) (0, a1, c1) (Nat.zero_le _) ⟨by dsimp only; rw [e0]; rfl, U, U, U, trivial⟩ (fun w h => by dsimp only; rw [e0]; exact h.sup zsup) ?_
 rintro ⟨j, qa, qc⟩ hj
 dsimp only at hj ⊢
 obtain ⟨ob, hob2⟩ : ∃ ob, num2 n ++ (cs.take j).flatMap chB = ob := ⟨_, rfl⟩
 have hobl : ob.length ≤ 984602 := by
  have := chsB_le hcs (by omega) j
  rw [← hob2, List.length_append, num2_length]; omega
 rw [hob2]
 obtain ⟨⟨pt, tb, ky, vl⟩, hchF⟩ : ∃ ch, j < n → cs[j]? = some ch := by
  by_cases hjn : j < n
  · exact ⟨cs[j]'(by omega), fun _ => List.getElem?_eq_getElem _⟩
  · exact ⟨⟨false, 0, ⟨#[]⟩, ⟨#[]⟩⟩, fun h => absurd h hjn⟩
 refine Jh (Je (Jb (y_lss U U) U U U ?_))
 refine Jg (Ja (Jh ?_))
 first | apply Jx rfl | apply Vo rfl
 case' ht =>
  intro h
  try (first | exact zom | exact zho h | subst h)
  all_goals
   refine Vd ?_
 case' hf =>
  intro h
  try (first | exact zom | exact zho h | subst h)
  all_goals
   refine Wl (Jv (Jv (Vl (Ja (Jh (Je (Jb (Jd rfl) U U U (Jb (Jf rfl) U U U ?_))))))))
   refine Jg (Ja (Vn ?_))
   refine Vi (.inl rfl) U U zrv ?_
   obtain rfl : j = n := by omega
   have e : ob = txB cs := by rw [← hob2, List.take_of_length_le (by omega), txB, hn]
   subst e
   exact ⟨_, fun w q => q, _, _, rfl, rfl⟩
 all_goals refine Ja ?_
 all_goals
  refine J.seqK (α := Option Addr × Nat) (fun _ => True) (fun s => [(3, .slice s.1 (ob ++ chB ⟨pt, tb, ky, vl⟩).length s.2), (11, .slice a n c), (12, .int .i64 n), (13, .int .i64 j)]) (fun s => own 5 1 (.slice s.1 (ob ++ chB ⟨pt, tb, ky, vl⟩).length s.2) (ob ++ chB ⟨pt, tb, ky, vl⟩).length (ints .u8 (ob ++ chB ⟨pt, tb, ky, vl⟩)) :: own 168 4 (.slice a n c) n (cs.flatMap chC) :: l) ?hj11 (fun hk11 => ?hf11)
  case hf11 =>
   refine Ve (Jh (Je ?_))
   have hlt : j < n := by omega
   have hch := hchF hlt
   have hco := hcs _ (List.mem_of_getElem? hch)
   have hco1 := hco.tab
   have hco2 := hco.key
   have hco3 := hco.val
   obtain ⟨ga, rfl⟩ := op.at_.resolve_right fun ⟨h0, _⟩ => by have := op.le; omega
   dsimp only at hco1 hco2 hco3
   refine Jb (Jn hT U U U U U zix zix) U U U ?_
   refine Jb (We hT U U U ((RdN.own zpk).elem (fun x _ => chC_length x) hch) rfl) U U U ?_
   refine Jl rfl (Wf hT U U zcl rfl (fun b2 => ?_))
   refine Jl rfl (Vx hT U U U zln zoc zpk zln ?_)
   refine Jg (Ja (Jh (Je (Jb (Jf rfl) U U U ?_))))
   refine Jg (Ja ?_)
   refine J.seqK (α := Unit) (fun _ => True) (fun _ => [(3, .slice qa ob.length qc), (5, .pointer (some ⟨b2, 0, none⟩)), (6, .int .u8 (kindN ⟨pt, tb, ky, vl⟩)), (11, .slice (some ⟨ga, 0, none⟩) n c), (12, .int .i64 n), (13, .int .i64 j)]) (fun _ => own 5 1 (.slice qa ob.length qc) ob.length (ints .u8 ob) :: row b2 168 [.bool pt, .int .i64 (tb : Int), .string ky, .string vl] :: own 168 4 (.slice (some ⟨ga, 0, none⟩) n c) n (cs.flatMap chC) :: l) ?hj8 (fun hk8 => ?hf8)
   case hf8 =>
    refine Jh (Je (Jb (Jk hT U U U U U U) U U U ?_))
    refine Jb (Jo hT U U U zrd) U U U ?_
    refine Jg (Ja ?_)
    first | apply Jx rfl | apply Vo rfl
    case' ht =>
     intro h
     try (first | exact zom | exact zho h | subst h)
     all_goals
      refine Je (Jb (Jf rfl) U U U ?_)
      refine Jg ?_
    case' hf =>
     intro h
     try (first | exact zom | exact zho h | subst h)
     all_goals
      refine Vd ?_
    all_goals refine Ja ?_
    all_goals
     exact Wj hk8 () trivial ⟨U, U, U, U, U, U, trivial⟩ (fun w s => s.sup zsup)
   rintro _ _
   obtain ⟨kd, hkd⟩ : ∃ kd, kindN ⟨pt, tb, ky, vl⟩ = kd := ⟨_, rfl⟩
   rw [hkd]
   have hl1 : (ob ++ [kd, (tb : Int)]).length = ob.length + 2 := by simp
   have hl2 : (ob ++ [kd, (tb : Int)] ++ num2 ky.size).length = ob.length + 2 + 2 := by rw [List.length_append, hl1, num2_length]
   have hl3 : (ob ++ [kd, (tb : Int)] ++ txtB ky).length = ob.length + 2 + 2 + ky.size := by rw [List.length_append, hl1, txtB_length]; omega
   refine Jh ?_
   refine Vz _ _ [(0, .q), (1, .q), (2, .q), (3, .q), (4, .q), (7, .q), (8, .q), (9, .q), (10, .q), (12, .q), (13, .q), (5, .n), (6, .l), (11, .l), (14, .l), (15, .q)] mixed (by kernel_rfl) (Ji (Jm) (Jj)) ?_
   refine zqm U U U U U (zqm U U U U U (Jc U U U U (fun m => Jk hT U U U U U U) ?_))
   refine Jc U U U U (fun m => Jo hT U U U zrda) ?_
   refine Jc U U U U (fun m => y_conv (m := (tb : Int)) hT U U U U (wrap_u8n (x := tb) (by omega))) ?_
   refine Jc U U U U (fun m => Jk hT U U U U U U) ?_
   refine Jc U U U U (fun m => Jo hT U U U zrda) ?_
   refine Jc U U U U (fun m => y_len_string hT U U U) ?_
   refine Jc U U U U (fun m => y_conv (m := (ky.size : Int)) hT U U U U (wrap_u16 (x := ky.size) (by omega))) ?_
   refine Jc U U U U (fun m => Jk hT U U U U U U) ?_
   refine Jc U U U U (fun m => Jo hT U U U zrda) ?_
   refine JM.lay U U U U (fun a hf => lays_buildSlice (cs := ints .u8 [kd, (tb : Int)]) hT U U U U hf U U U (fill_b2 _ _ _)) (fun b4 => ?_)
   refine Vm U U (fun fr => l_append hT U U U U U U U U zpk zrdn zln zoc (by rw [show i5.bytes = 1 from rfl]; omega) (by omega) rfl (fun a2 c2 hc2 => ⟨[_, _], (by (repeat (first | exact Jj | exact Vc | refine Ji Jm ?_))), ?_⟩))
   rw [show ints .u8 ob ++ ints .u8 [kd, (tb : Int)] = ints .u8 (ob ++ [kd, (tb : Int)]) by simp [ints]]
   refine Vm U U (fun fr => Jw e127 U U (Fc.fact (fun w s => Vu (s.pick Jm)) fun oq => octPut16_spec E a2 c2 _ (ob ++ [kd, (tb : Int)]) ky.size _ hl1 (oq.inl Jm) (by omega)) ?_)
   rintro _ _ ⟨a3, c3, rfl, rfl⟩
   refine ⟨[_, _, _], (by (repeat (first | exact Jj | exact Vc | refine Ji Jm ?_))), ?_⟩
   refine Vm U U (fun fr => l_appendStr hT U U U U U U U U U U zpk (by omega) rfl (fun a4 c4 hc4 => ⟨[_, _, _], (by (repeat (first | exact Jj | exact Vc | refine Ji Jm ?_))), ?_⟩))
   rw [show ints .u8 (ob ++ [kd, (tb : Int)] ++ num2 ky.size) ++ (bytesS ky).map (Value.int .u8) = ints .u8 (ob ++ [kd, (tb : Int)] ++ txtB ky) by simp [ints, txtB]]
   refine Jc U U U U (fun m => Jf rfl) ?_
   refine Vv (Ja (Jh (Je (Jb (Jk hT U U U U U U) U U U ?_))))
   refine Jb (Jo hT U U U zrd) U U U ?_
   refine Jg (Ja ?_)
   first | apply Jx rfl | apply Vo rfl
   case' ht =>
    intro h
    try (first | exact zom | exact zho h | subst h)
    all_goals
     have hc8 : True := trivial
     refine Vz _ _ [(0, .q), (1, .q), (2, .q), (3, .q), (4, .q), (6, .q), (7, .q), (5, .l), (8, .l), (9, .q)] mixed (by kernel_rfl) (Ji (Jm) (Jj)) ?_
     refine zqm U U U U U (Jc U U U U (fun m => Jk hT U U U U U U) ?_)
     refine Jc U U U U (fun m => Jo hT U U U zrda) ?_
     refine Jc U U U U (fun m => y_len_string hT U U U) ?_
     refine Jc U U U U (fun m => y_conv (m := (vl.size : Int)) hT U U U U (wrap_u16 (x := vl.size) (by omega))) ?_
     refine Jc U U U U (fun m => Jk hT U U U U U U) ?_
     refine Jc U U U U (fun m => Jo hT U U U zrda) ?_
     refine Vm U U (fun fr => Jw e127 U U (Fc.fact (fun w s => Vu (s.pick Jm)) fun oq => octPut16_spec E a4 c4 _ (ob ++ [kd, (tb : Int)] ++ txtB ky) vl.size _ hl3 (oq.inl Jm) (by omega)) ?_)
     rintro _ _ ⟨a5, c5, rfl, rfl⟩
     refine ⟨[_, _], (by (repeat (first | exact Jj | exact Vc | refine Ji Jm ?_))), ?_⟩
     refine Vm U U (fun fr => l_appendStr hT U U U U U U U U U U zpk (by omega) rfl (fun a6 c6 hc6 => ⟨[_, _], (by (repeat (first | exact Jj | exact Vc | refine Ji Jm ?_))), ?_⟩))
     rw [show ints .u8 (ob ++ [kd, (tb : Int)] ++ txtB ky ++ num2 vl.size) ++ (bytesS vl).map (Value.int .u8) = ints .u8 (ob ++ [kd, (tb : Int)] ++ txtB ky ++ txtB vl) by simp [ints, txtB]]
     refine Jc U U U U (fun m => Jf rfl) ?_
     refine Vv ?_
   case' hf =>
    intro h
    try (first | exact zom | exact zho h | subst h)
    all_goals
     refine Vd ?_
   all_goals refine Ju (Ja ?_)
   all_goals
    first
     | (have hh := hc8
        have e1 : ob ++ chB ⟨true, tb, ky, vl⟩ = ob ++ [kd, (tb : Int)] ++ txtB ky ++ txtB vl := by rw [← hkd]; simp [chB, kindN]
        have e2 : (ob ++ [kd, (tb : Int)] ++ txtB ky ++ txtB vl).length = ob.length + 2 + 2 + ky.size + 2 + vl.size := by rw [List.length_append, hl3, txtB_length]; omega
        refine Wj hk11 (a6, c6) trivial ⟨by dsimp only; rw [e1, e2]; rfl, U, U, U, trivial⟩ (fun w s => ?_)
        dsimp only
        rw [e1, e2]
        exact s.sup zsup)
     | (have e1 : ob ++ chB ⟨false, tb, ky, vl⟩ = ob ++ [kd, (tb : Int)] ++ txtB ky := by rw [← hkd]; simp [chB, kindN]
        refine Wj hk11 (a4, c4) trivial ⟨by dsimp only; rw [e1, hl3]; rfl, U, U, U, trivial⟩ (fun w s => ?_)
        dsimp only
        rw [e1, hl3]
        exact s.sup zsup)
  rintro ⟨a7, c7⟩ _
  dsimp only
  refine Je ?_
  refine Jb (Wa U U zwr) U U U ?_
  refine Jb (Jd rfl) U U U ?_
  refine Jg ?_
 all_goals
  have hnx : num2 n ++ (cs.take (j + 1)).flatMap chB = ob ++ chB ⟨pt, tb, ky, vl⟩ := by rw [List.take_add_one, hchF (by omega), List.flatMap_append, ← List.append_assoc, hob2]; simp
  refine Vt (s := (j, qa, qc)) (j + 1, a7, c7) (by dsimp only; omega) ⟨by dsimp only; rw [hnx]; rfl, U, U, U, trivial⟩ (fun w q => ?_) (by dsimp only; omega)
  dsimp only
  rw [hnx]
  exact q
end
end
section
open Go Go.SL
section
structure Shp where
 rows : Int
 key : Int
 value : Int
def shC (h : Shp) : List Value := [.int .i64 h.rows, .int .i64 h.key, .int .i64 h.value]
theorem shC_length (h : Shp) : (shC h).length = 3 := rfl
structure ShOk (h : Shp) : Prop where
 rows : 1 ≤ h.rows ∧ h.rows ≤ 64
 key : 1 ≤ h.key ∧ h.key ≤ 64
 value : 0 ≤ h.value ∧ h.value ≤ 1024
def FitR (h : Shp) (k v : ByteArray) : Prop := 0 < k.size ∧ (k.size : Int) ≤ h.key ∧ (v.size : Int) ≤ h.value
instance (h : Shp) (k v : ByteArray) : Decidable (FitR h k v) := inferInstanceAs (Decidable (_ ∧ _))
structure TFit (h : Shp) (R : List Rw) : Prop where
 srt : Srt R
 few : (R.length : Int) ≤ h.rows
 fit : ∀ p ∈ R, FitR h p.1 p.2
theorem TFit.ok {h : Shp} {R : List Rw} (hf : TFit h R) (hh : ShOk h) : ROk R := by
 have h1 := hh.rows
 have h2 := hh.key
 have h3 := hh.value
 have h4 := hf.few
 refine ⟨hf.srt, by omega, fun p hp => ?_⟩
 obtain ⟨_, a, b⟩ := hf.fit p hp
 omega
theorem rins_last {R : List Rw} {k v : ByteArray} (h : ∀ p ∈ R, ltS p.1 k = true) : rins R k v = R ++ [(k, v)] := by
 induction R with
 | nil => rfl
 | cons q r ih =>
   obtain ⟨b, u⟩ := q
   have := h _ (List.mem_cons_self ..)
   dsimp only at this
   rw [rins, if_pos this, ih fun p hp => h p (List.mem_cons_of_mem _ hp)]
   rfl
def lastK (R : List Rw) (k : Nat) : ByteArray := match k with
 | 0 => ⟨#[]⟩
 | k + 1 => (R.getD k (⟨#[]⟩, ⟨#[]⟩)).1
theorem ltS_empty {k : ByteArray} (h : 0 < k.size) : ltS ⟨#[]⟩ k = true := by
 cases e : ltS ⟨#[]⟩ k with
 | true => rfl
 | false =>
   have hne : k ≠ ⟨#[]⟩ := fun h2 => by rw [h2] at h; exact absurd h (by decide)
   have q := ltS_total (a := ⟨#[]⟩) (b := k) (fun h2 => hne h2.symm) e
   rw [ltS, decide_eq_true_eq] at q
   have e0 : (⟨#[]⟩ : ByteArray).toList = [] := by rw [ByteArray.toList_eq]
   rw [e0] at q
   exact absurd q (List.not_lt_nil _)
theorem lastK_lt {R : List Rw} (hR : Srt R) {i : Nat} {k v : ByteArray} (h : R[i]? = some (k, v)) (hk : 0 < k.size) : ltS (lastK R i) k = true := by
 cases i with
 | zero => exact ltS_empty hk
 | succ i =>
   have hi : i + 1 < R.length := by
    rcases Nat.lt_or_ge (i + 1) R.length with h2 | h2
    · exact h2
    · rw [List.getElem?_eq_none h2] at h; cases h
   have e : R[i + 1]'hi = (k, v) := by rw [List.getElem?_eq_getElem hi] at h; exact Option.some.inj h
   have := List.pairwise_iff_getElem.1 hR i (i + 1) (by omega) hi (by omega)
   rw [e] at this
   simpa [lastK, List.getD_eq_getElem?_getD, List.getElem?_eq_getElem (show i < R.length by omega)] using this
theorem take_lt {R : List Rw} (hR : Srt R) {i : Nat} {k v : ByteArray} (h : R[i]? = some (k, v)) : ∀ p ∈ R.take i, ltS p.1 k = true := fun p hp => by
 obtain ⟨j, hj⟩ := List.getElem?_of_mem hp
 rw [List.getElem?_take] at hj
 split at hj
 · next hji =>
   have hi : i < R.length := by
    rcases Nat.lt_or_ge i R.length with h2 | h2
    · exact h2
    · rw [List.getElem?_eq_none h2] at h; cases h
   have e : R[i]'hi = (k, v) := by rw [List.getElem?_eq_getElem hi] at h; exact Option.some.inj h
   have e2 : R[j]'(by omega) = p := by rw [List.getElem?_eq_getElem (by omega)] at hj; exact Option.some.inj hj
   have := List.pairwise_iff_getElem.1 hR j i (by omega) hi hji
   rw [e, e2] at this
   exact this
 · cases hj
theorem InL.rdN {l : List HProp} {g o n c : Nat} {cs : List Value} (h : InL l (some ⟨g, o, none⟩) n c cs) (hn : 0 < n) : RdN l g o cs := by
 obtain ⟨g', o', e, hr⟩ := h.addr hn
 cases e
 exact hr []
theorem stB_drop (Rs : List (List Rw)) (i : Nat) : (stB Rs).drop (stB (Rs.take i)).length = stB (Rs.drop i) := by
 conv => lhs; rw [← List.take_append_drop i Rs]
 rw [show stB (Rs.take i ++ Rs.drop i) = stB (Rs.take i) ++ stB (Rs.drop i) from List.flatMap_append, List.take_append_drop, List.drop_left]
end
section
attribute [local irreducible] J JL JE JM LS Y Fc RV Code.wp wpList Code.wpIn wpListIn
attribute [local irreducible] Yc ltS
variable (E : World)
theorem tread_none (p : Option Addr) (cap : Nat) (sp : Option Addr) (sc n : Nat) (hn : n ≤ 1000000) (l : List HProp) :
 Fc prog E 65 [.slice p 0 cap, .slice sp n sc].toArray l (fun v l' => ∃ a c, v = .tuple #[.slice a n c, .bool true] ∧ l' = stM a n c (List.replicate n []) :: l) := by
 refine Va (c := ?codeC) Tryz.func65 ?hb Tryz.ntmps65 ?hl ?_
 case hb => exact rfl
 case hl => exact rfl
 refine Jh (Je (Jb (Jf rfl) U U U (Jb (Jf rfl) U U U ?_)))
 refine Jg (Ja (J.scope (Jh (Je (Jb (Jd rfl) U U U (Jb (Vf hT U U U) U U U ?_))))))
 refine Jl rfl (Jw e114 U U (tempty_spec E n hn _) ?_)
 rintro _ _ ⟨a, c, rfl, rfl⟩
 refine Jb (Jf rfl) U U U ?_
 refine Jg (Ja (Jh (Jh (Je (Jb (Jd rfl) U U U (Jb (Vf hT U U U) U U U (Jb (y_eql U U) U U U ?_)))))))
 refine Jg (Ja ?_)
 refine J.cond_t rfl zbl ?_
 refine Jh (Je (Jb (Jd rfl) U U U (Jb (Jf rfl) U U U (Jb (Jf rfl) U U U ?_))))
 refine Jg (Ja (Vn (Vb (JE.scope_ret ?_))))
 refine JE.ret2 (.inl rfl) U U zrv zrv ?_
 exact ⟨a, c, rfl, rfl⟩
theorem fits_yes (h : Shp) (k v : ByteArray) (hk : k.size ≤ 9000000) (hv : v.size ≤ 9000000) (hf : FitR h k v) (l : List HProp) :
 Fc prog E 119 [.agg (shC h).toArray, .string k, .string v].toArray l (fun u l' => u = .bool true ∧ l' = l) :=
 (fits_spec E h.rows h.key h.value k v hk hv l).mono fun u l' ⟨h1, h2⟩ => ⟨by rw [h1]; exact congrArg Value.bool (decide_eq_true hf), h2⟩
theorem tread_good (p : Option Addr) (cap N : Nat) (sp : Option Addr) (sc n : Nat) (shs : List Shp) (Rs : List (List Rw)) (hN : (stB Rs).length = N) (hn : shs.length = n) (hn8 : n ≤ 8) (h0 : 0 < n) (hRn : Rs.length = n)
 (hsh : ∀ h ∈ shs, ShOk h) (hfit : ∀ (i : Nat) h R, shs[i]? = some h → Rs[i]? = some R → TFit h R) (l : List HProp) (hin : InL l p N cap (ints .u8 (stB Rs))) (hsi : InL l sp n sc (shs.flatMap shC)) :
 Fc prog E 65 [.slice p N cap, .slice sp n sc].toArray l (fun v l' => ∃ a c, v = .tuple #[.slice a n c, .bool true] ∧ l' = stM a n c Rs :: l) := by
 have hRok : ∀ R ∈ Rs, ROk R := fun R hR => by
  obtain ⟨i, hi⟩ := List.getElem?_of_mem hR
  have hlt : i < n := by
   rcases Nat.lt_or_ge i n with h2 | h2
   · exact h2
   · rw [List.getElem?_eq_none (by omega)] at hi; cases hi
  have hs : shs[i]? = some (shs[i]'(by omega)) := List.getElem?_eq_getElem _
  exact (hfit i _ R hs hi).ok (hsh _ (List.mem_of_getElem? hs))
 have hst := stB_le hRok (by omega) Rs.length
 rw [List.take_length] at hst
 have hpos : 0 < N := by
  cases Rs with
  | nil => simp at hRn; omega
  | cons R Rs =>
    rw [← hN, stB, List.flatMap_cons, List.length_append, tabB, List.length_append, num2_length]
    omega
 have hspa : ∃ g o, sp = some ⟨g, o, none⟩ := by
  obtain ⟨g, o, e, _⟩ := hsi.addr h0
  exact ⟨g, o, e⟩
 obtain ⟨sg, so, rfl⟩ := hspa
 have hleft : ∀ rb l, Fc prog E 120 [.pointer (some ⟨rb, 0, none⟩)].toArray (rdr rb (stB Rs) (stB Rs).length :: l) (fun v l' => v = .int .i64 0 ∧ l' = rdr rb (stB Rs) (stB Rs).length :: l) := fun rb l => by
  have q := rleft_spec E rb (stB Rs).length (stB Rs) l (Nat.le_refl _) (by omega)
  rwa [Nat.sub_self] at q
 refine Wg ?_
 refine Va (c := ?codeC) Tryz.func65 ?hb Tryz.ntmps65 ?hl ?_
 case hb => exact rfl
 case hl => exact rfl
 refine Jh (Je (Jb (Jf rfl) U U U (Jb (Jf rfl) U U U ?_)))
 refine Jg (Ja (J.scope (Jh (Je (Jb (Jd rfl) U U U (Jb (Vf hT U U U) U U U ?_))))))
 refine Jl rfl (Jw e114 U U (tempty_spec E n (by omega) _) ?_)
 rintro _ _ ⟨a, c, rfl, rfl⟩
 refine Jb (Jf rfl) U U U ?_
 refine Jg (Ja (Jh (Jh (Je (Jb (Jd rfl) U U U (Jb (Vf hT U U U) U U U (Jb (y_eql U U) U U U ?_)))))))
 refine Jg (Ja ?_)
 refine Vk rfl zbl ?_
 refine Vd (Ja (Jh (Je (Jb (Jd rfl) U U U ?_))))
 refine Jl rfl (Jw e115 U U (rnew_spec E p cap N (stB Rs) _ hN (hin.cons _) hpos (by omega)) ?_)
 rintro _ _ ⟨rb, rfl, rfl⟩
 refine Jb (Jf rfl) U U U ?_
 refine Jg (Ja (Jh (Je (Jb (Jf rfl) U U U ?_))))
 refine Jg (Ja (Jh (J.label (Ja (Jh (Jh ?_))))))
 refine J.pre (l' := pk (fun bs : List Nat => [pur (bs.length = n ∧ (List.replicate n ([] : List Rw)).length = n), own 147 1 (.slice a n c) n (mapsV bs), tabs bs (List.replicate n [])]) :: rdr rb (stB Rs) 0 :: l) (fun w s => s.sup zsup) (J.pks fun bs => ?_)
 refine J.fact (fun w s => (Sat.ofpur s).1) fun ⟨hbn, _⟩ => J.pre (l' := own 147 1 (.slice a n c) n (mapsV bs) :: tabs bs (List.replicate n []) :: rdr rb (stB Rs) 0 :: l) (fun w s => (Sat.ofpur s).2) ?_
 refine Je (Jb (Jd rfl) U U U (Jb (Vf hT U U U) U U U (Jb (Jd rfl) U U U ?_)))
 refine Jg (Ja (Ve ?_))
 refine J.fact (p := OwnAt a n c (mapsV bs)) (fun w s => Vu (s.pick Jm)) fun op => ?_
 obtain ⟨ga, rfl⟩ := op.at_.resolve_right fun ⟨h0, _⟩ => by have := op.le; omega
 refine Wn (α := Nat) (fun i => i ≤ n) (fun i => [(1, .slice (some ⟨sg, so, none⟩) n sc), (6, .slice (some ⟨ga, 0, none⟩) n c), (7, .pointer (some ⟨rb, 0, none⟩)), (8, .bool true), (24, .slice (some ⟨sg, so, none⟩) n sc), (25, .int .i64 n), (26, .int .i64 i)]) (fun i => own 147 1 (.slice (some ⟨ga, 0, none⟩) n c) n (mapsV bs) :: tabs bs (Rs.take i ++ List.replicate (n - i) []) :: rdr rb (stB Rs) (stB (Rs.take i)).length :: l) (fun i => n - i) 0 (Nat.zero_le _) ⟨U, U, U, U, U, U, U, trivial⟩ (fun w s => s) ?_
 intro i hi
 refine Jh (Je (Jb (y_lss U U) U U U ?_))
 refine Jg (Ja (Jh ?_))
 first | apply Jx rfl | apply Vo rfl
 case' ht =>
  intro h
  try (first | exact zom | exact zho h | subst h)
  all_goals
   refine Vd ?_
 case' hf =>
  intro h
  try (first | exact zom | exact zho h | subst h)
  all_goals
   refine Wl (Jv (Jv (Vl (Ja (Jh (Je ?_))))))
   obtain rfl : i = n := by omega
   rw [List.take_of_length_le (by omega), Nat.sub_self, List.replicate_zero, List.append_nil]
   refine Jb (Jd rfl) U U U (Jb (Jd rfl) U U U (Jb (Jd rfl) U U U ?_))
   all_goals (first | (refine Vh U U U (fun h => ?_) (fun h => ?_) <;> try (first | (exfalso; omega) | exact absurd rfl h)) | (refine Vr U U U (fun h => ?_) (fun h => ?_) <;> try (first | cases h | (exfalso; simp at h; done))) | skip)
   all_goals (first | refine Js U U U U U U ?_ | refine Jp U U U U U ?_ | refine Jt U U U (Jd rfl) U U ?_)
   all_goals (first | refine Js U U U U U U ?_ | refine Jp U U U U U ?_ | (refine JL.gloud U U U (Jw e118 U U (Vw (Ji zpk Jj) (rerr_spec E rb _ _ _)) ?_); rintro _ _ ⟨rfl, rfl⟩))
   all_goals (first | refine Js U U U U U U ?_ | refine Jp U U U U U ?_ | refine Jt U U U (y_eql U U) U U ?_)
   all_goals (refine Jb (Wb U U U) U U U ?_)
   all_goals (refine Jb (Jd rfl) U U U ?_)
   all_goals (first | (refine Vh U U U (fun h => ?_) (fun h => ?_) <;> try (first | (exfalso; omega) | exact absurd rfl h)) | (refine Vr U U U (fun h => ?_) (fun h => ?_) <;> try (first | cases h | (exfalso; simp at h; done))) | skip)
   all_goals (first | refine Js U U U U U U ?_ | refine Jp U U U U U ?_ | refine Jt U U U (Jd rfl) U U ?_)
   all_goals (first | refine Js U U U U U U ?_ | refine Jp U U U U U ?_ | (refine JL.gloud U U U (Jw e120 U U (Vw (Ji zpk Jj) (hleft rb _)) ?_); rintro _ _ ⟨rfl, rfl⟩))
   all_goals (first | refine Js U U U U U U ?_ | refine Jp U U U U U ?_ | refine Jt U U U (y_eql U U) U U ?_)
   all_goals (refine Jb (Wb U U U) U U U ?_)
   all_goals (refine Jb (Jf rfl) U U U ?_)
   all_goals (refine Jb (Jf rfl) U U U ?_)
   all_goals refine Jg (Ja ?_)
   all_goals
    refine Vn (JE.scope_ret ?_)
    refine JE.ret2 (.inl rfl) U U zrv zrv ?_
    exact ⟨_, fun w q => stM_shut (r := l) hbn hRn (q.sup zsup), _, _, rfl, rfl⟩
 all_goals refine Ja ?_
 all_goals
  refine Jh (Ve (Jh (Je ?_)))
  have hlt : i < n := by omega
  obtain ⟨b, hb⟩ : ∃ b, bs[i]? = some b := ⟨bs[i]'(by omega), List.getElem?_eq_getElem _⟩
  obtain ⟨R, hR⟩ : ∃ R, Rs[i]? = some R := ⟨Rs[i]'(by omega), List.getElem?_eq_getElem _⟩
  obtain ⟨h, hh⟩ : ∃ h, shs[i]? = some h := ⟨shs[i]'(by omega), List.getElem?_eq_getElem _⟩
  have hkj := mapsV_at hb
  have hok := hRok R (List.mem_of_getElem? hR)
  have hft := hfit i h R hh hR
  have hfew := hok.few
  have hcur : (Rs.take i ++ List.replicate (n - i) ([] : List Rw))[i]? = some [] := by
   rw [List.getElem?_append_right (by rw [List.length_take]; omega), List.length_take, show i - min i Rs.length = 0 by omega, show n - i = (n - i - 1) + 1 by omega, List.replicate_succ]
   rfl
  obtain ⟨cur, hcu⟩ : ∃ cur, Rs.take i ++ List.replicate (n - i) ([] : List Rw) = cur := ⟨_, rfl⟩
  rw [hcu] at hcur ⊢
  obtain ⟨A, hA⟩ : ∃ A, (stB (Rs.take i)).length = A := ⟨_, rfl⟩
  have hdr : (stB Rs).drop A = num2 R.length ++ (R.flatMap rowB ++ stB (Rs.drop (i + 1))) := by
   rw [← hA, stB_drop, List.drop_eq_getElem_cons (by omega), show Rs[i] = R from by rw [List.getElem?_eq_getElem (by omega)] at hR; exact Option.some.inj hR]
   simp [stB, tabB]
  rw [hA]
  obtain ⟨hrw, hky, hvl⟩ := h
  refine Jb (Jd rfl) U U U ?_
  refine Jb (Jn hT U U U U U zix zix) U U U ?_
  refine Jb (We hT U U U ((InL.rdN (cs := shs.flatMap shC) zinl h0).elem (fun x _ => shC_length x) hh) rfl) U U U ?_
  refine Jl rfl (Wf hT U U zcl rfl (fun b5 => ?_))
  refine Jb (Jf rfl) U U U ?_
  refine Jl rfl (Vx hT U U U zln zoc zpk zln ?_)
  refine Jg (Ja (Jh (Je (Jb (Jd rfl) U U U ?_))))
  refine Jl rfl (Jw e116 U U (Vw (Ji zpk Jj) (u16_spec E rb A R.length (stB Rs) _ _ (by omega) hdr (by omega))) ?_)
  rintro _ _ ⟨rfl, rfl⟩
  refine Jb (y_conv (m := (R.length : Int)) hT U U U U (Wm (by omega) (by omega))) U U U ?_
  refine Jb (Jf rfl) U U U (Jb (Jf rfl) U U U ?_)
  refine Jg (Ja (Jh (Je (Jb (Jd rfl) U U U (Jb (Jd rfl) U U U ?_)))))
  refine Jg (Ja (Ve ?_))
  have hrl : (R.length : Int) ≤ hrw := hft.few
  refine J.pre (l' := tabA b [] :: tabs (bs.eraseIdx i) (cur.eraseIdx i) :: rdr rb (stB Rs) (A + 2) :: row b5 71 (shC ⟨hrw, hky, hvl⟩) :: own 147 1 (.slice (some ⟨ga, 0, none⟩) n c) n (mapsV bs) :: l) (fun w s => tabs_take hb hcur (s.pick zpk)) ?_
  refine Wn (α := Nat) (fun k => k ≤ R.length) (fun k => [(1, .slice (some ⟨sg, so, none⟩) n sc), (6, .slice (some ⟨ga, 0, none⟩) n c), (7, .pointer (some ⟨rb, 0, none⟩)), (8, .bool true), (9, .int .i64 i), (10, .pointer (some ⟨b5, 0, none⟩)), (12, .string (lastK R k)), (24, .slice (some ⟨sg, so, none⟩) n sc), (25, .int .i64 n), (26, .int .i64 i), (34, .int .i64 R.length), (35, .int .i64 k)]) (fun k => tabA b (R.take k) :: rdr rb (stB Rs) (A + 2 + ((R.take k).flatMap rowB).length) :: tabs (bs.eraseIdx i) (cur.eraseIdx i) :: row b5 71 (shC ⟨hrw, hky, hvl⟩) :: own 147 1 (.slice (some ⟨ga, 0, none⟩) n c) n (mapsV bs) :: l) (fun k => R.length - k) 0 (Nat.zero_le _) ⟨U, U, U, U, U, U, U, U, U, U, U, U, trivial⟩ (fun w s => s.sup zsup) ?_
  intro k hk
  refine Jh (Je (Jb (y_lss U U) U U U ?_))
  refine Jg (Ja (Jh ?_))
  first | apply Jx rfl | apply Vo rfl
  case' ht =>
   intro h
   try (first | exact zom | exact zho h | subst h)
   all_goals
    refine Vd ?_
  case' hf =>
   intro h
   try (first | exact zom | exact zho h | subst h)
   all_goals
    refine Wl (Jv (Jv (Vl (Ju (Ja (Je ?_))))))
    obtain rfl : k = R.length := by omega
    rw [List.take_length]
    have hnx : cur.set i R = Rs.take (i + 1) ++ List.replicate (n - (i + 1)) [] := by
     rw [← hcu, List.set_append_right _ _ (by rw [List.length_take]; omega), List.length_take, show i - min i Rs.length = 0 by omega, show n - i = (n - (i + 1)) + 1 by omega, List.replicate_succ, List.set_cons_zero, List.take_add_one, hR]
     simp
    have hln : (stB (Rs.take (i + 1))).length = A + 2 + (R.flatMap rowB).length := by
     rw [List.take_add_one, hR, ← hA]
     simp only [stB, Option.toList_some, List.flatMap_append, List.flatMap_cons, List.flatMap_nil, List.append_nil, List.length_append, tabB, num2_length]
     omega
    refine Jb (Wa U U zwr) U U U ?_
    refine Jb (Jd rfl) U U U ?_
    refine Jg ?_
    refine Vt (s := i) (i + 1) (by omega) ⟨U, U, U, U, U, U, U, trivial⟩ (fun w q => ?_) (by omega)
    have q2 := tabs_put hb (by rw [← hcu, List.length_append, List.length_take, List.length_replicate]; omega) (q.sup (p := tabA b R :: tabs (bs.eraseIdx i) (cur.eraseIdx i) :: rdr rb (stB Rs) (A + 2 + (R.flatMap rowB).length) :: own 147 1 (.slice (some ⟨ga, 0, none⟩) n c) n (mapsV bs) :: l) zsup)
    rw [hnx] at q2
    rw [hln]
    exact q2.sup zsup
  all_goals refine Ja ?_
  all_goals
   refine Jh (Ve (Jh (Je ?_)))
   have hklt : k < R.length := by omega
   obtain ⟨⟨ky, vl⟩, hkv⟩ : ∃ p, R[k]? = some p := ⟨R[k]'hklt, List.getElem?_eq_getElem _⟩
   have hsz := hok.small _ (List.mem_of_getElem? hkv)
   dsimp only at hsz
   have hfit1 := hft.fit _ (List.mem_of_getElem? hkv)
   have hltk := lastK_lt hok.srt hkv hfit1.1
   obtain ⟨B, hB⟩ : ∃ B, A + 2 + ((R.take k).flatMap rowB).length = B := ⟨_, rfl⟩
   obtain ⟨rest, hrest⟩ : ∃ rest, (stB Rs).drop B = txtB ky ++ (txtB vl ++ rest) := by
    obtain ⟨hd0, _, _⟩ := drop_more hdr
    rw [num2_length] at hd0
    have e1 : R.flatMap rowB = (R.take k).flatMap rowB ++ (rowB (ky, vl) ++ (R.drop (k + 1)).flatMap rowB) := by
     conv => lhs; rw [← List.take_append_drop k R, List.drop_eq_getElem_cons hklt, show R[k] = (ky, vl) from by rw [List.getElem?_eq_getElem hklt] at hkv; exact Option.some.inj hkv]
     simp
    rw [e1, List.append_assoc] at hd0
    obtain ⟨hd1, _, _⟩ := drop_more hd0
    rw [hB] at hd1
    exact ⟨(R.drop (k + 1)).flatMap rowB ++ stB (Rs.drop (i + 1)), by rw [hd1]; simp [rowB]⟩
   rw [hB]
   obtain ⟨hd2, _, _⟩ := drop_more hrest
   rw [txtB_length] at hd2
   refine JL.tabA fun m hm => ?_
   have hml : (kvT m).length = k := by rw [kvT_length, hm.length_eq, List.length_take]; omega
   refine Jb (Jd rfl) U U U ?_
   refine Jl rfl (Jw e117 U U (Vw (Ji zpk Jj) (text_spec E rb B ky (stB Rs) _ _ (by omega) hrest (by omega))) ?_)
   rintro _ _ ⟨rfl, rfl⟩
   refine Jb (Jf rfl) U U U (Jb (Jf rfl) U U U ?_)
   refine Jg (Ja (Jh (Je (Jb (Jd rfl) U U U ?_))))
   refine Jl rfl (Jw e117 U U (Vw (Ji zpk Jj) (text_spec E rb (B + (2 + ky.size)) vl (stB Rs) _ _ (by omega) hd2 (by omega))) ?_)
   rintro _ _ ⟨rfl, rfl⟩
   refine Jb (Jf rfl) U U U ?_
   refine Jg (Ja (Jh (Jh ?_)))
   refine Vz _ _ [(0, .q), (1, .q), (2, .q), (3, .q), (4, .q), (5, .q), (6, .q), (7, .q), (8, .q), (9, .q), (10, .q), (11, .q), (12, .q), (13, .q), (14, .q), (15, .q), (16, .q), (17, .q), (18, .q), (19, .q), (20, .q), (21, .q), (22, .q), (23, .q), (24, .q)] mixed (by kernel_rfl) (Jj) ?_
   refine zqm U U U U U ?_
   refine Jc U U U U (fun m => y_callF e118 rfl (Fc.still (Ji zpk Jj) (rerr_spec E rb _ _ _))) ?_
   refine Jc U U U U (fun m => y_neq U U) (zqm U U U U U ?_)
   all_goals (first | refine Jy U U U U U U U ?_ | refine JM.gskipU U U U U U U ?_ | refine Jr U U U U U U (fun m => We hT U U U zrdna zln) ?_)
   all_goals (first | refine Jy U U U U U U U ?_ | refine JM.gskipU U U U U U U ?_ | refine Jr U U U U U U (fun m => Jd rfl) ?_)
   all_goals (first | refine Jy U U U U U U U ?_ | refine JM.gskipU U U U U U U ?_ | refine Jr U U U U U U (fun m => Jd rfl) ?_)
   all_goals (first | refine Jy U U U U U U U ?_ | refine JM.gskipU U U U U U U ?_ | refine Jr U U U U U U (fun m => y_callF e119 rfl (fits_yes E ⟨hrw, hky, hvl⟩ ky vl (by omega) (by omega) hfit1 _)) ?_)
   all_goals (first | refine Jy U U U U U U U ?_ | refine JM.gskipU U U U U U U ?_ | refine Jr U U U U U U (fun m => y_not rfl) ?_)
   all_goals refine Jc U U U U (fun m => Wb U U U) ?_
   all_goals refine zqm U U U U U ?_
   all_goals (first | refine Jy U U U U U U U ?_ | refine JM.gskipU U U U U U U ?_ | refine Jr U U U U U U (fun m => Jd rfl) ?_)
   all_goals (first | refine Jy U U U U U U U ?_ | refine JM.gskipU U U U U U U ?_ | refine Jr U U U U U U (fun m => Jd rfl) ?_)
   refine Jr U U U U U U (fun m => (y_str_le U U).cast (u := .bool false) (by rw [hltk]; rfl)) ?_
   all_goals refine Jc U U U U (fun m => Wb U U U) ?_
   all_goals refine zqm U U U U U ?_
   all_goals (first | refine Jy U U U U U U U ?_ | refine JM.gskipU U U U U U U ?_ | refine Jr U U U U U U (fun m => Jd rfl) ?_)
   all_goals (first | refine Jy U U U U U U U ?_ | refine JM.gskipU U U U U U U ?_ | refine Jr U U U U U U (fun m => Jd rfl) ?_)
   all_goals (first | refine Jy U U U U U U U ?_ | refine JM.gskipU U U U U U U ?_ | refine Jr U U U U U U (fun m => Jn hT U U U U U zix zix) ?_)
   refine Jr U U U U U U (fun m => Jo hT U U U (Rd1.elem (RdN.own zpk) hkj)) ?_
   refine Jr U U U U U U (fun m => (y_len_map hT U U U zpk).cast (u := .int .i64 (k : Int)) (by rw [hml])) ?_
   all_goals (first | refine Jy U U U U U U U ?_ | refine JM.gskipU U U U U U U ?_ | refine Jr U U U U U U (fun m => Jk hT U U U U U U) ?_)
   all_goals (first | refine Jy U U U U U U U ?_ | refine JM.gskipU U U U U U U ?_ | refine Jr U U U U U U (fun m => Jo hT U U U zrda) ?_)
   refine Jr U U U U U U (fun m => (y_eql U U).cast (u := .bool false) (congrArg Value.bool (decide_eq_false (show ¬ ((k : Int) = hrw) by omega)))) ?_
   all_goals refine Jc U U U U (fun m => Wb U U U) ?_
   all_goals refine Vv (Ja ?_)
   all_goals
    first | apply Jx rfl | apply Vo rfl
    case' ht =>
     intro h
     try (first | exact zom | exact zho h | subst h)
     all_goals
      refine Jh (Je (Jb (Jf rfl) U U U ?_))
      refine Jg (Ja (Wl (Jv ?_)))
      refine JE.block_past rfl ?_
      refine Jv (Jv ?_)
      refine JE.block_past rfl ?_
      refine JE.block_past rfl ?_
      refine Jv (Jv (Vl (Ja (Jh (Je ?_)))))
      obtain rfl : i = n := by omega
      rw [List.take_of_length_le (by omega), Nat.sub_self, List.replicate_zero, List.append_nil]
      refine Jb (Jd rfl) U U U (Jb (Jd rfl) U U U (Jb (Jd rfl) U U U ?_))
      all_goals (first | (refine Vh U U U (fun h => ?_) (fun h => ?_) <;> try (first | (exfalso; omega) | exact absurd rfl h)) | (refine Vr U U U (fun h => ?_) (fun h => ?_) <;> try (first | cases h | (exfalso; simp at h; done))) | skip)
      all_goals (first | refine Js U U U U U U ?_ | refine Jp U U U U U ?_ | refine Jt U U U (Jd rfl) U U ?_)
      all_goals (first | refine Js U U U U U U ?_ | refine Jp U U U U U ?_ | (refine JL.gloud U U U (Jw e118 U U (Vw (Ji zpk Jj) (rerr_spec E rb _ _ _)) ?_); rintro _ _ ⟨rfl, rfl⟩))
      all_goals (first | refine Js U U U U U U ?_ | refine Jp U U U U U ?_ | refine Jt U U U (y_eql U U) U U ?_)
      all_goals (refine Jb (Wb U U U) U U U ?_)
      all_goals (refine Jb (Jd rfl) U U U ?_)
      all_goals (first | (refine Vh U U U (fun h => ?_) (fun h => ?_) <;> try (first | (exfalso; omega) | exact absurd rfl h)) | (refine Vr U U U (fun h => ?_) (fun h => ?_) <;> try (first | cases h | (exfalso; simp at h; done))) | skip)
      all_goals (first | refine Js U U U U U U ?_ | refine Jp U U U U U ?_ | refine Jt U U U (Jd rfl) U U ?_)
      all_goals (first | refine Js U U U U U U ?_ | refine Jp U U U U U ?_ | (refine JL.gloud U U U (Jw e120 U U (Vw (Ji zpk Jj) (hleft rb _)) ?_); rintro _ _ ⟨rfl, rfl⟩))
      all_goals (first | refine Js U U U U U U ?_ | refine Jp U U U U U ?_ | refine Jt U U U (y_eql U U) U U ?_)
      all_goals (refine Jb (Wb U U U) U U U ?_)
      all_goals (refine Jb (Jf rfl) U U U ?_)
      all_goals (refine Jb (Jf rfl) U U U ?_)
      all_goals refine Jg (Ja ?_)
      all_goals
       refine Vn (JE.scope_ret ?_)
       refine JE.ret2 (.inl rfl) U U zrv zrv ?_
       exact ⟨_, fun w q => stM_shut (r := l) hbn hRn (q.sup zsup), _, _, rfl, rfl⟩
    case' hf =>
     intro h
     try (first | exact zom | exact zho h | subst h)
     all_goals
      refine Vd ?_
   all_goals refine Ja ?_
   all_goals
    refine Je (Jb (Jd rfl) U U U (Jb (Jd rfl) U U U ?_))
    refine Jb (Jn hT U U U U U zix zix) U U U ?_
    refine Jb (Jo hT U U U (Rd1.elem (RdN.own zpk) hkj)) U U U ?_
    refine Jb (Jd rfl) U U U (Jb (Jd rfl) U U U (Jb (Jd rfl) U U U ?_))
    refine Jl rfl (l_mapEntry (a := ky) hT U U U U (keyStr hT U U) U U U trivial zpk rfl (fun st => ?_))
    refine Jb (Vg U U) U U U ?_
    refine Jl rfl (l_entryStore U U U zpk ?_)
    refine Jb (Jf rfl) U U U ?_
    refine Jg ?_
   all_goals refine Ju (Ja ?_)
   all_goals
    refine Je ?_
    refine Jb (Wa U U zwr) U U U ?_
    refine Jb (Jd rfl) U U U ?_
    refine Jg ?_
  all_goals
   have htk : R.take (k + 1) = R.take k ++ [(ky, vl)] := by rw [List.take_add_one, hkv]; rfl
   refine Vt (s := k) (k + 1) (by omega) ⟨rfl, rfl, rfl, rfl, rfl, rfl, ?_, U, U, U, U, U, trivial⟩ (fun w q => ?_) (by omega)
   · have e : lastK R (k + 1) = ky := by simp [lastK, List.getD_eq_getElem?_getD, hkv]
     rw [e]
     rfl
   · rw [mput_kvT] at q
     have hsk : Srt (R.take k) := hok.srt.sublist (List.take_sublist ..)
     have hp2 := rput_perm hm hsk ky vl
     rw [rins_last (take_lt hok.srt hkv), ← htk] at hp2
     have q2 := tabA_shut hp2 (q.pick zpk)
     have e : A + 2 + ((R.take (k + 1)).flatMap rowB).length = B + (2 + ky.size) + (2 + vl.size) := by
      rw [htk, List.flatMap_append, List.length_append, ← hB]
      simp only [List.flatMap_cons, List.flatMap_nil, List.append_nil, rowB, List.length_append, txtB_length]
      omega
     rw [e]
     exact q2.sup zsup
end
end
section
open Go Go.SL
section
def chT (c : Chg) (R : List Rw) : List Rw := if c.put then rins R c.key c.val else rrem R c.key
def chS (Rs : List (List Rw)) (c : Chg) : List (List Rw) := Rs.set c.tab (chT c (Rs.getD c.tab []))
def chsS (Rs : List (List Rw)) (cs : List Chg) : List (List Rw) := cs.foldl chS Rs
def Can (shs : List Shp) (Rs : List (List Rw)) (c : Chg) : Prop := ∃ h R, shs[c.tab]? = some h ∧ Rs[c.tab]? = some R ∧
 ((c.put = true ∧ FitR h c.key c.val ∧ (rget R c.key = none → (R.length : Int) < h.rows)) ∨ (c.put = false ∧ rget R c.key ≠ none))
def Cans (shs : List Shp) (Rs : List (List Rw)) (cs : List Chg) : Prop := ∀ (j : Nat) c, cs[j]? = some c → Can shs (chsS Rs (cs.take j)) c
structure SFit (shs : List Shp) (Rs : List (List Rw)) : Prop where
 len : Rs.length = shs.length
 fit : ∀ (i : Nat) h R, shs[i]? = some h → Rs[i]? = some R → TFit h R
theorem chsS_snoc (Rs : List (List Rw)) (cs : List Chg) (c : Chg) : chsS Rs (cs ++ [c]) = chS (chsS Rs cs) c := by simp [chsS]
theorem SFit.chS {shs : List Shp} {Rs : List (List Rw)} (h : SFit shs Rs) {c : Chg} (hc : Can shs Rs c) : SFit shs (chS Rs c) := by
 obtain ⟨sh, R, h1, h2, h3⟩ := hc
 have hf := h.fit _ sh R h1 h2
 have hg : Rs.getD c.tab [] = R := by rw [List.getD_eq_getElem?_getD, h2]; rfl
 refine ⟨by rw [Go.Proofs.YtaopifoidbdniaaGreat.chS, List.length_set]; exact h.len, fun i h' R' e1 e2 => ?_⟩
 rw [Go.Proofs.YtaopifoidbdniaaGreat.chS, hg] at e2
 by_cases hi : c.tab = i
 · subst hi
   rw [h1] at e1
   cases e1
   have hlt : c.tab < Rs.length := by
    rcases Nat.lt_or_ge c.tab Rs.length with q | q
    · exact q
    · rw [List.getElem?_eq_none q] at h2; cases h2
   rw [List.getElem?_set_self hlt] at e2
   cases e2
   rcases h3 with ⟨hp, hfr, hroom⟩ | ⟨hp, hthere⟩
   · rw [chT, if_pos hp]
     refine ⟨rins_srt hf.srt .., ?_, fun p hp => ?_⟩
     · cases e : rget R c.key with
       | none => rw [rins_new hf.srt _ e]; have := hroom e; omega
       | some u => rw [rins_old hf.srt _ e]; exact hf.few
     · rcases (rins_mem hf.srt).1 hp with rfl | ⟨hp, _⟩
       · exact hfr
       · exact hf.fit p hp
   · rw [chT, if_neg (by rw [hp]; simp)]
     refine ⟨rrem_srt hf.srt _, ?_, fun p hp => hf.fit p (rrem_mem.1 hp).1⟩
     have := rrem_le R c.key
     have := hf.few
     omega
 · rw [List.getElem?_set_ne hi] at e2
   exact h.fit i h' R' e1 e2
theorem SFit.chsS {shs : List Shp} {Rs : List (List Rw)} (h : SFit shs Rs) {cs : List Chg} (hc : Cans shs Rs cs) : ∀ j, SFit shs (chsS Rs (cs.take j))
 | 0 => by simpa [Go.Proofs.YtaopifoidbdniaaGreat.chsS] using h
 | j + 1 => by
   cases e : cs[j]? with
   | none =>
     have hl : cs.length ≤ j := by
      rcases Nat.lt_or_ge j cs.length with q | q
      · rw [List.getElem?_eq_getElem q] at e; cases e
      · exact q
     have := SFit.chsS h hc j
     rwa [List.take_of_length_le (by omega)] at this ⊢
   | some c =>
     rw [List.take_add_one, e, Option.toList_some, chsS_snoc]
     exact (SFit.chsS h hc j).chS (hc j c e)
theorem Can.ok {shs : List Shp} {Rs : List (List Rw)} {c : Chg} (h : Can shs Rs c) (hs : SFit shs Rs) (hsh : ∀ h ∈ shs, ShOk h) (hn : shs.length ≤ 8) (hd : c.put = false → c.val.size ≤ 1024) : ChOk c := by
 obtain ⟨sh, R, h1, h2, h3⟩ := h
 have hlt : c.tab < shs.length := by
  rcases Nat.lt_or_ge c.tab shs.length with q | q
  · exact q
  · rw [List.getElem?_eq_none q] at h1; cases h1
 have hok := hsh sh (List.mem_of_getElem? h1)
 have k1 := hok.key
 have k2 := hok.value
 rcases h3 with ⟨_, ⟨_, a, b⟩, _⟩ | ⟨hp, hthere⟩
 · exact ⟨by omega, by omega, by omega⟩
 · have hf := hs.fit _ sh R h1 h2
   cases e : rget R c.key with
   | none => exact absurd e hthere
   | some u =>
     obtain ⟨_, a, _⟩ := hf.fit _ ((rget_mem hf.srt.nodup).1 e)
     dsimp only at a
     exact ⟨by omega, by omega, hd hp⟩
theorem J.stAt {P : Program} {E : World} {ρ : Option Nat} {k : Nat} {ds : List Deferred} {code : Code} {Q : Exit → Act → World → Prop} {env : Fr} {r : List HProp} {a : Option Addr} {n c i : Nat} {Rs : List (List Rw)} (hi : i < n)
 (h : ∀ bs b R m, bs.length = n → Rs.length = n → bs[i]? = some b → Rs[i]? = some R → m.Perm R → J P E ρ k ds code Q env (own 147 1 (.slice a n c) n (mapsV bs) :: mapA Value.string (fun _ => True) b (kvT m) :: tabs (bs.eraseIdx i) (Rs.eraseIdx i) :: r)) : J P E ρ k ds code Q env (stM a n c Rs :: r) := fun ac w hf hs => by
 obtain ⟨bs, h1, h2, s⟩ := stM_open hs
 have hb : bs[i]? = some (bs[i]'(by omega)) := List.getElem?_eq_getElem _
 have hR : Rs[i]? = some (Rs[i]'(by omega)) := List.getElem?_eq_getElem _
 have s1 := tabs_take hb hR (Sat.pick s (Jz Jm))
 obtain ⟨m, hm, s2⟩ := tabA_open s1
 refine h bs _ _ m h1 h2 hb hR hm ac w hf ?_
 exact s2.sup zsup
end
section
attribute [local irreducible] J JL JE JM LS Y Fc RV Code.wp wpList Code.wpIn wpListIn
attribute [local irreducible] Yc ltS
variable (E : World)
theorem carry_good (a : Option Addr) (n c : Nat) (p : Option Addr) (cap N : Nat) (sp : Option Addr) (sc : Nat) (shs : List Shp) (Rs : List (List Rw)) (cs : List Chg) (hN : (txB cs).length = N) (hn : shs.length = n) (hn8 : n ≤ 8)
 (_ : ∀ h ∈ shs, ShOk h) (hS : SFit shs Rs) (hC : Cans shs Rs cs) (hok : ∀ c ∈ cs, ChOk c) (h9 : cs.length ≤ 900) (l : List HProp) (hin : InL l p N cap (ints .u8 (txB cs))) (hsi : InL l sp n sc (shs.flatMap shC)) :
 Fc prog E 68 [.slice a n c, .slice p N cap, .slice sp n sc].toArray (stM a n c Rs :: l) (fun v l' => v = .bool true ∧ l' = stM a n c (chsS Rs cs) :: l) := by
 refine Fc.eqs ?_
 have hRn := hS.len
 have htl := txB_le hok h9
 have hpos : 0 < N := by rw [← hN, txB, List.length_append, num2_length]; omega
 have hleft : ∀ rb l, Fc prog E 120 [.pointer (some ⟨rb, 0, none⟩)].toArray (rdr rb (txB cs) (txB cs).length :: l) (fun v l' => v = .int .i64 0 ∧ l' = rdr rb (txB cs) (txB cs).length :: l) := fun rb l => by
  have q := rleft_spec E rb (txB cs).length (txB cs) l (Nat.le_refl _) (by omega)
  rwa [Nat.sub_self] at q
 refine Va (c := ?codeC) Tryz.func68 ?hb Tryz.ntmps68 ?hl ?_
 case hb => exact rfl
 case hl => exact rfl
 refine Jh (Je (Jb (Jf rfl) U U U ?_))
 refine Jg (Ja (Jh (Je (Jb (Jd rfl) U U U ?_))))
 refine Jl rfl (Jw e115 U U (rnew_spec E p cap N (txB cs) _ hN (hin.cons _) hpos (by omega)) ?_)
 rintro _ _ ⟨rb, rfl, rfl⟩
 refine Jb (Jf rfl) U U U ?_
 refine Jg (Ja (Jh (Jh (Je (Jb (Jd rfl) U U U ?_)))))
 refine Jl rfl (Jw e116 U U (Vw (Ji zpk Jj) (u16_spec E rb 0 cs.length (txB cs) (cs.flatMap chB) _ (by omega) rfl (by omega))) ?_)
 rintro _ _ ⟨rfl, rfl⟩
 refine Jb (y_conv (m := (cs.length : Int)) hT U U U U (Wm (by omega) (by omega))) U U U ?_
 refine Jb (Jd rfl) U U U ?_
 refine Jg (Ja (Ve ?_))
 refine Wn (α := Nat) (fun j => j ≤ cs.length) (fun j => [(0, .slice a n c), (2, .slice sp n sc), (7, .pointer (some ⟨rb, 0, none⟩)), (19, .int .i64 cs.length), (20, .int .i64 j)]) (fun j => stM a n c (chsS Rs (cs.take j)) :: rdr rb (txB cs) (2 + ((cs.take j).flatMap chB).length) :: l) (fun j => cs.length - j) 0 (Nat.zero_le _) ⟨U, U, U, U, U, trivial⟩ (fun w s => s.sup zsup) ?_
 intro j hj
 obtain ⟨⟨pt, tb, ky, vl⟩, hchF⟩ : ∃ ch, j < cs.length → cs[j]? = some ch := by
  by_cases hjn : j < cs.length
  · exact ⟨cs[j]'hjn, fun _ => List.getElem?_eq_getElem _⟩
  · exact ⟨⟨false, 0, ⟨#[]⟩, ⟨#[]⟩⟩, fun h => absurd h hjn⟩
 refine Jh (Je (Jb (y_lss U U) U U U ?_))
 refine Jg (Ja (Jh ?_))
 first | apply Jx rfl | apply Vo rfl
 case' ht =>
  intro h
  try (first | exact zom | exact zho h | subst h)
  all_goals
   refine Vd ?_
 case' hf =>
  intro h
  try (first | exact zom | exact zho h | subst h)
  all_goals
   refine Wl (Jv (Jv (Vl (Ja (Jh (Je ?_))))))
   obtain rfl : j = cs.length := by omega
   rw [List.take_length, show 2 + (cs.flatMap chB).length = (txB cs).length by rw [txB, List.length_append, num2_length]]
   refine Jb (Jd rfl) U U U ?_
   refine Jl rfl (Jw e118 U U (Vw (Ji zpk Jj) (rerr_spec E rb _ _ _)) ?_)
   rintro _ _ ⟨rfl, rfl⟩
   refine Jb (y_eql U U) U U U (Jb (Jd rfl) U U U ?_)
   all_goals (first | (refine Vh U U U (fun h => ?_) (fun h => ?_) <;> try (first | (exfalso; omega) | exact absurd rfl h)) | (refine Vr U U U (fun h => ?_) (fun h => ?_) <;> try (first | cases h | (exfalso; simp at h; done))) | skip)
   all_goals (first | refine Js U U U U U U ?_ | refine Jp U U U U U ?_ | refine Jt U U U (Jd rfl) U U ?_)
   all_goals (first | refine Js U U U U U U ?_ | refine Jp U U U U U ?_ | (refine JL.gloud U U U (Jw e120 U U (Vw (Ji zpk Jj) (hleft rb _)) ?_); rintro _ _ ⟨rfl, rfl⟩))
   all_goals (first | refine Js U U U U U U ?_ | refine Jp U U U U U ?_ | refine Jt U U U (y_eql U U) U U ?_)
   all_goals (refine Jb (Wb U U U) U U U ?_)
   all_goals (refine Jb (Jf rfl) U U U ?_)
   all_goals refine Jg (Ja ?_)
   all_goals
    refine Vn ?_
    refine Vi (.inl rfl) U U zrv ?_
    exact ⟨rfl, fun w q => q.sup zsup⟩
 all_goals refine Ja ?_
 all_goals
  refine J.seqK (α := Unit) (fun _ => True) (fun _ => [(0, .slice a n c), (2, .slice sp n sc), (7, .pointer (some ⟨rb, 0, none⟩)), (19, .int .i64 cs.length), (20, .int .i64 j)]) (fun _ => stM a n c (chsS Rs (cs.take (j + 1))) :: rdr rb (txB cs) (2 + ((cs.take (j + 1)).flatMap chB).length) :: l) ?hj21 (fun hk21 => ?hf21)
  case hf21 =>
   refine Ve (Jh (Je ?_))
   have hlt : j < cs.length := by omega
   have hch := hchF hlt
   have hco := hok _ (List.mem_of_getElem? hch)
   have hco1 := hco.tab
   have hco2 := hco.key
   have hco3 := hco.val
   dsimp only at hco1 hco2 hco3
   have hcan := hC j _ hch
   have hSj := hS.chsS hC j
   obtain ⟨Rj, hRj⟩ : ∃ Rj, chsS Rs (cs.take j) = Rj := ⟨_, rfl⟩
   rw [hRj] at hcan hSj ⊢
   obtain ⟨A, hA⟩ : ∃ A, 2 + ((cs.take j).flatMap chB).length = A := ⟨_, rfl⟩
   have hdr : (txB cs).drop A = chB ⟨pt, tb, ky, vl⟩ ++ (cs.drop (j + 1)).flatMap chB := by
    have e1 : cs.flatMap chB = (cs.take j).flatMap chB ++ (chB ⟨pt, tb, ky, vl⟩ ++ (cs.drop (j + 1)).flatMap chB) := by
     conv => lhs; rw [← List.take_append_drop j cs, List.drop_eq_getElem_cons hlt, show cs[j] = ⟨pt, tb, ky, vl⟩ from by rw [List.getElem?_eq_getElem hlt] at hch; exact Option.some.inj hch]
     simp
    have e : txB cs = (num2 cs.length ++ (cs.take j).flatMap chB) ++ (chB ⟨pt, tb, ky, vl⟩ ++ (cs.drop (j + 1)).flatMap chB) := by rw [txB, e1, List.append_assoc]
    rw [e, show A = (num2 cs.length ++ (cs.take j).flatMap chB).length by rw [List.length_append, num2_length, hA], List.drop_left]
   rw [hA]
   obtain ⟨kd, hkd⟩ : ∃ kd, kindN ⟨pt, tb, ky, vl⟩ = kd := ⟨_, rfl⟩
   have hk01 : kd = 0 ∨ kd = 1 := by rw [← hkd]; unfold kindN; split <;> simp
   have htbn : tb < n := by
    obtain ⟨h, _, h1, _⟩ := hcan
    rcases Nat.lt_or_ge tb shs.length with q | q
    · omega
    · rw [List.getElem?_eq_none q] at h1; cases h1
   have hdr1 : (txB cs).drop A = [kd, (tb : Int)] ++ (txtB ky ++ ((if pt then txtB vl else []) ++ (cs.drop (j + 1)).flatMap chB)) := by rw [hdr, ← hkd]; simp [chB]
   obtain ⟨hdr2, htk2, hle2⟩ := drop_more hdr1
   have hle2 := hle2 (by simp)
   rw [show ([kd, (tb : Int)] : List Int).length = 2 from rfl] at hdr2 htk2 hle2
   obtain ⟨hdr3, _, _⟩ := drop_more hdr2
   rw [txtB_length] at hdr3
   have hraw : ∀ l, Fc prog E 122 [.pointer (some ⟨rb, 0, none⟩), .int .i64 2].toArray (rdr rb (txB cs) A :: l)
    (fun v l' => ∃ a c', v = .slice a 2 c' ∧ l' = own 5 1 v 2 (ints .u8 [kd, (tb : Int)]) :: rdr rb (txB cs) (A + 2) :: l) := fun l => by
    have q := raw_spec E rb A 2 (txB cs) l hle2 (by omega)
    rwa [htk2] at q
   refine Jb (Jd rfl) U U U ?_
   refine Jl rfl (Jw e122 U U (Vw (Ji zpk Jj) (hraw _)) ?_)
   rintro _ _ ⟨ha, hc, rfl, rfl⟩
   refine Jb (Jf rfl) U U U ?_
   refine Jg (Ja (Jh (Je ?_)))
   refine JL.fact (fun w s => Vu (s.pick Jm)) fun oh => ?_
   obtain ⟨gh, rfl⟩ := oh.at_.resolve_right fun ⟨h0, _⟩ => by have := oh.le; omega
   refine Jb (Jd rfl) U U U ?_
   refine Jl rfl (Jw e117 U U (Vw (Ji zpk Jj) (text_spec E rb (A + 2) ky (txB cs) _ _ (by omega) hdr2 (by omega))) ?_)
   rintro _ _ ⟨rfl, rfl⟩
   refine Jb (Jf rfl) U U U ?_
   refine Jg (Ja (Jh (Jh (Je (Jb (Jd rfl) U U U ?_)))))
   refine Jl rfl (Jw e118 U U (Vw (Ji zpk Jj) (rerr_spec E rb _ _ _)) ?_)
   rintro _ _ ⟨rfl, rfl⟩
   refine Jb (y_neq U U) U U U (Jb (Jd rfl) U U U ?_)
   all_goals (first | (refine Vh U U U (fun h => ?_) (fun h => ?_) <;> try (first | (exfalso; omega) | exact absurd rfl h)) | (refine Vr U U U (fun h => ?_) (fun h => ?_) <;> try (first | cases h | (exfalso; simp at h; done))) | skip)
   all_goals (first | refine Js U U U U U U ?_ | refine Jp U U U U U ?_ | refine Jt U U U (Jd rfl) U U ?_)
   all_goals (first | refine Js U U U U U U ?_ | refine Jp U U U U U ?_ | refine Jt U U U (Jn hT U U U U U zix zix) U U ?_)
   refine Jt U U U (Jo hT U U U (Rd1.elem (i := 1) (v := .int .u8 (tb : Int)) (RdN.own zpk) rfl)) U U ?_
   refine Jt U U U (y_conv (m := (tb : Int)) hT U U U U (Wm (by omega) (by omega))) U U ?_
   all_goals (first | refine Js U U U U U U ?_ | refine Jp U U U U U ?_ | refine Jt U U U (Jd rfl) U U ?_)
   all_goals (first | refine Js U U U U U U ?_ | refine Jp U U U U U ?_ | refine Jt U U U (Vf hT U U U) U U ?_)
   refine Jt U U U ((y_geq U U).cast (u := .bool false) (congrArg Value.bool (decide_eq_false (by omega)))) U U ?_
   all_goals (refine Jb (Wb U U U) U U U ?_)
   all_goals refine Jg (Ja ?_)
   all_goals
    first | apply Jx rfl | apply Vo rfl
    case' ht =>
     intro h
     try (first | exact zom | exact zho h | subst h)
     all_goals
      refine Jh (Je (Jb (Jf rfl) U U U ?_))
      refine Jg (Ja (Vn (Vb (Vj (Vb (Vb (Vj (Vb ?_))))))))
      refine Vi (.inl rfl) U U zrv ?_
      exact ⟨rfl, fun w q => q.sup zsup⟩
    case' hf =>
     intro h
     try (first | exact zom | exact zho h | subst h)
     all_goals
      refine Vd ?_
   all_goals refine Ja ?_
   all_goals
    refine Jh ?_
    refine J.pre (l' := stM a n c Rj :: own 5 1 (.slice (some ⟨gh, 0, none⟩) 2 hc) 2 (ints .u8 [kd, (tb : Int)]) :: rdr rb (txB cs) (A + 2 + (2 + ky.size)) :: l) (fun w s => s.sup zsup) (J.stAt htbn fun bs b R m hbn hRjn hb hR hm => ?_)
    refine J.fact (fun w s => Vu (s.pick Jm)) fun om => ?_
    obtain ⟨gm, rfl⟩ := om.at_.resolve_right fun ⟨h0, _⟩ => by have := om.le; omega
    obtain ⟨gs, os, rfl, _⟩ := hsi.addr (by omega)
    have hkm := mapsV_at hb
    obtain ⟨h, R', hsh1, hR', hcan2⟩ := hcan
    dsimp only at hsh1 hR' hcan2
    obtain rfl : R = R' := Option.some.inj (hR.symm.trans hR')
    have hft := hSj.fit tb h R hsh1 hR
    have hml : (kvT m).length = R.length := by rw [kvT_length, hm.length_eq]
    obtain ⟨th, hth⟩ : ∃ th, (rget R ky).isSome = th := ⟨_, rfl⟩
    have hlk : lookV true (mlook (kvT m) ky) (.string ⟨#[]⟩) = .tuple #[.string ((rget R ky).getD ⟨#[]⟩), .bool th] := by
     rw [mlook_kvT, rget_perm hm hft.srt.nodup, ← hth]
     cases rget R ky <;> rfl
    obtain ⟨hrw, hky, hvl⟩ := h
    refine Vz _ _ [(0, .q), (1, .q), (2, .q), (3, .q), (4, .q), (5, .q), (6, .q), (7, .q), (8, .q), (9, .q), (10, .q), (11, .q), (12, .n), (13, .q), (14, .l)] mixed (by kernel_rfl) (Jj) ?_
    refine zqm U U U U U (zqm U U U U U ?_)
    refine Jc U U U U (fun m => Jn hT U U U U U zix zix) ?_
    refine Jc U U U U (fun m => Jo hT U U U (Rd1.elem (i := 1) (v := .int .u8 (tb : Int)) (RdN.own zpk) rfl)) ?_
    refine Jc U U U U (fun m => Jn hT U U U U U zix zix) ?_
    refine Jc U U U U (fun m => Jo hT U U U (Rd1.elem (RdN.own zpk) hkm)) ?_
    refine zqm U U U U U (zqm U U U U U ?_)
    refine Jc U U U U (fun m => Jn hT U U U U U zix zix) ?_
    refine Jc U U U U (fun m => Jo hT U U U (Rd1.elem (i := 1) (v := .int .u8 (tb : Int)) (RdN.own zpk) rfl)) ?_
    refine Jc U U U U (fun m => Jn hT U U U U U zix zix) ?_
    refine Jc U U U U (fun m => We hT U U U ((InL.rdN (cs := shs.flatMap shC) zinl (by omega)).elem (fun x _ => shC_length x) hsh1) rfl) ?_
    refine JM.lay U U U U (fun a hf => lays_alloc hT U U zcl) (fun b8 => ?_)
    refine Jc U U U U (fun m => Jf rfl) ?_
    refine Vm U U (fun fr => Vx hT U U U zln zoc zpk zln (⟨[_], (by (repeat (first | exact Jj | exact Vc | refine Ji Jm ?_))), ?_⟩))
    refine Vv (Ja (Jh (Je (Jb (Jd rfl) U U U (Jb (Jd rfl) U U U ?_)))))
    refine Jb ((y_lookup (a := ky) hT U U U U (keyStr hT U U) U U U trivial zpk).cast hlk) U U U ?_
    refine Jb (Jd rfl) U U U (Jb (Vg U U) U U U (Jb (Vg U U) U U U (Jb (Jf rfl) U U U (Jb (Jf rfl) U U U ?_))))
    refine Jg (Ja (Jh (Je (Jb (Jd rfl) U U U ?_))))
    refine Jb (Jn hT U U U U U zix zix) U U U ?_
    refine Jb (Jo hT U U U (Rd1.elem (i := 0) (v := .int .u8 kd) (RdN.own zpk) rfl)) U U U ?_
    refine Jg (Ja (Ve (Jh (Je (Jb (y_eql U U) U U U (Jb (Jf rfl) U U U ?_))))))
    refine Jg (Ja ?_)
    first | apply Jx rfl | apply Vo rfl
    case' ht =>
     intro h
     try (first | exact zom | exact zho h | subst h)
     all_goals
      obtain rfl : pt = false := by
       cases pt with
       | false => rfl
       | true => exfalso; simp [kindN] at hkd
      obtain rfl : th = true := by
       rw [← hth]
       rcases hcan2 with ⟨e, _⟩ | ⟨_, e⟩
       · cases e
       · exact Option.isSome_iff_ne_none.2 e
      have hdel : True := trivial
      refine Jh (Jh (Je (Jb (Jd rfl) U U U (Jb (y_not rfl) U U U ?_))))
      refine Jg (Ja ?_)
      refine Vk rfl zbl ?_
      refine Vd (Ja (Je (Jb (Jd rfl) U U U (Jb (Jd rfl) U U U ?_))))
      refine Jl rfl (l_delete0 (a := ky) hT U U (keyStr hT U U) U U U trivial zpk ?_)
      refine Jg ?_
    case' hf =>
     intro h
     try (first | exact zom | exact zho h | subst h)
     all_goals
      refine Jh (Je (Jb (y_eql U U) U U U (Jb (Jf rfl) U U U ?_)))
      refine Jg (Ja ?_)
      first | apply Jx rfl | apply Vo rfl
      case' ht =>
       intro h
       try (first | exact zom | exact zho h | subst h)
       all_goals
        obtain rfl : pt = true := by
         cases pt with
         | true => rfl
         | false => exfalso; simp [kindN] at hkd
        obtain ⟨hfr, hroom⟩ : FitR ⟨hrw, hky, hvl⟩ ky vl ∧ (rget R ky = none → (R.length : Int) < hrw) := by
         rcases hcan2 with ⟨_, e1, e2⟩ | ⟨e, _⟩
         · exact ⟨e1, e2⟩
         · cases e
        have hdr4 : (txB cs).drop (A + 2 + (2 + ky.size)) = txtB vl ++ (cs.drop (j + 1)).flatMap chB := by simpa using hdr3
        refine Jh (Je (Jb (Jd rfl) U U U ?_))
        refine Jl rfl (Jw e117 U U (Vw (Ji zpk Jj) (text_spec E rb (A + 2 + (2 + ky.size)) vl (txB cs) _ _ (by omega) hdr4 (by omega))) ?_)
        rintro _ _ ⟨rfl, rfl⟩
        refine Jb (Jf rfl) U U U ?_
        refine Jg (Ja ?_)
        cases th
        ·
         skip
         refine Jh (Jh (Je (Jb (Jd rfl) U U U ?_)))
         refine Jl rfl (Jw e118 U U (Vw (Ji zpk Jj) (rerr_spec E rb _ _ _)) ?_)
         rintro _ _ ⟨rfl, rfl⟩
         refine Jb (y_neq U U) U U U (Jb (Jd rfl) U U U ?_)
         all_goals (first | (refine Vh U U U (fun h => ?_) (fun h => ?_) <;> try (first | (exfalso; omega) | exact absurd rfl h)) | (refine Vr U U U (fun h => ?_) (fun h => ?_) <;> try (first | cases h | (exfalso; simp at h; done))) | skip)
         all_goals (first | refine Js U U U U U U ?_ | refine Jp U U U U U ?_ | refine Jt U U U (We hT U U U zrdn zln) U U ?_)
         all_goals (first | refine Js U U U U U U ?_ | refine Jp U U U U U ?_ | refine Jt U U U (Jd rfl) U U ?_)
         all_goals (first | refine Js U U U U U U ?_ | refine Jp U U U U U ?_ | refine Jt U U U (Jd rfl) U U ?_)
         all_goals (first | refine Js U U U U U U ?_ | refine Jp U U U U U ?_ | (refine JL.gloud U U U (Jw e119 U U (fits_yes E ⟨hrw, hky, hvl⟩ ky vl (by omega) (by omega) hfr _) ?_); rintro _ _ ⟨rfl, rfl⟩))
         all_goals (first | refine Js U U U U U U ?_ | refine Jp U U U U U ?_ | refine Jt U U U (y_not rfl) U U ?_)
         all_goals (refine Jb (Wb U U U) U U U ?_)
         all_goals (refine Jb (Jd rfl) U U U ?_)
         all_goals (first | (refine Vh U U U (fun h => ?_) (fun h => ?_) <;> try (first | (exfalso; omega) | exact absurd rfl h)) | (refine Vr U U U (fun h => ?_) (fun h => ?_) <;> try (first | cases h | (exfalso; simp at h; done))) | skip)
         all_goals (first | refine Js U U U U U U ?_ | refine Jp U U U U U ?_ | refine Jt U U U (Jd rfl) U U ?_)
         all_goals (first | refine Js U U U U U U ?_ | refine Jp U U U U U ?_ | refine Jt U U U (y_not rfl) U U ?_)
         all_goals (first | refine Js U U U U U U ?_ | refine Jp U U U U U ?_ | refine Jt U U U (Jd rfl) U U ?_)
         all_goals (first | (refine Vh U U U (fun h => ?_) (fun h => ?_) <;> try (first | (exfalso; omega) | exact absurd rfl h)) | (refine Vr U U U (fun h => ?_) (fun h => ?_) <;> try (first | cases h | (exfalso; simp at h; done))) | skip)
         all_goals (first | refine Js U U U U U U ?_ | refine Jp U U U U U ?_ | refine Jt U U U (Jd rfl) U U ?_)
         all_goals (first | refine Js U U U U U U ?_ | refine Jp U U U U U ?_ | refine Jt U U U ((y_len_map hT U U U zpk).cast (u := .int .i64 (R.length : Int)) (by rw [hml])) U U ?_)
         all_goals (first | refine Js U U U U U U ?_ | refine Jp U U U U U ?_ | refine Jt U U U (Jk hT U U U U U U) U U ?_)
         all_goals (first | refine Js U U U U U U ?_ | refine Jp U U U U U ?_ | refine Jt U U U (Jo hT U U U zrd) U U ?_)
         all_goals (first | refine Js U U U U U U ?_ | refine Jp U U U U U ?_ | refine Jt U U U ((y_eql U U).cast (u := .bool false) (congrArg Value.bool (decide_eq_false (show ¬ ((R.length : Int) = hrw) from fun e => by have := hroom (Option.isSome_eq_false_iff.1 hth |> Option.isNone_iff_eq_none.1); omega)))) U U ?_)
         all_goals (first | refine Js U U U U U U ?_ | refine Jp U U U U U ?_ | refine Jt U U U (Wb U U U) U U ?_)
         all_goals (refine Jb (Wb U U U) U U U ?_)
         all_goals refine Jg (Ja ?_)
         all_goals
          first | apply Jx rfl | apply Vo rfl
          case' ht =>
           intro h
           try (first | exact zom | exact zho h | subst h)
           all_goals
            refine Jh (Je (Jb (Jf rfl) U U U ?_))
            refine Jg (Ja (Vn (Vb (Vj (Vj (Vb (Vb (Vj (Vb ?_)))))))))
            refine Vi (.inl rfl) U U zrv ?_
            exact ⟨rfl, fun w q => q.sup zsup⟩
          case' hf =>
           intro h
           try (first | exact zom | exact zho h | subst h)
           all_goals
            refine Vd ?_
         all_goals refine Ja ?_
         all_goals
          refine Je (Jb (Jd rfl) U U U (Jb (Jd rfl) U U U (Jb (Jd rfl) U U U ?_)))
          refine Jl rfl (l_mapUpdate (a := ky) hT U U (keyStr hT U U) U U U U trivial zpk ?_)
          refine Jg ?_
         all_goals
          refine Ju (Ju (Ja ?_))
          have hnx : ∀ ch, cs[j]? = some ch → ch.tab = tb → chsS Rs (cs.take (j + 1)) = Rj.set tb (chT ch R) := fun ch e1 e2 => by
           rw [List.take_add_one, e1, Option.toList_some, chsS_snoc, hRj, chS, List.getD_eq_getElem?_getD, e2, hR]
           rfl
          have hps : ∀ ch, cs[j]? = some ch → 2 + ((cs.take (j + 1)).flatMap chB).length = A + (chB ch).length := fun ch e1 => by
           rw [List.take_add_one, e1, ← hA, Option.toList_some, List.flatMap_append, List.length_append]
           simp
           omega
          refine Wj hk21 () trivial ⟨U, U, U, U, U, trivial⟩ (fun w s => ?_)
          rw [hnx _ hch rfl, hps _ hch]
          first
           | (rw [mdel_kvT] at s
              have q := st_back hbn hRjn hb htbn (rdel_perm hm hft.srt ky) (s.sup (p := mapA Value.string (fun _ => True) b (kvT (rdel m ky)) :: own 147 1 (.slice (some ⟨gm, 0, none⟩) n c) n (mapsV bs) :: tabs (bs.eraseIdx tb) (Rj.eraseIdx tb) :: rdr rb (txB cs) (A + 2 + (2 + ky.size)) :: l) zsup)
              have e : (chB ⟨false, tb, ky, vl⟩).length = 2 + (2 + ky.size) := by simp [chB, txtB_length]; omega
              rw [show A + (chB ⟨false, tb, ky, vl⟩).length = A + 2 + (2 + ky.size) by rw [e]; omega]
              exact q.sup zsup)
           | (rw [mput_kvT] at s
              have q := st_back hbn hRjn hb htbn (rput_perm hm hft.srt ky vl) (s.sup (p := mapA Value.string (fun _ => True) b (kvT (rput m ky vl)) :: own 147 1 (.slice (some ⟨gm, 0, none⟩) n c) n (mapsV bs) :: tabs (bs.eraseIdx tb) (Rj.eraseIdx tb) :: rdr rb (txB cs) (A + 2 + (2 + ky.size) + (2 + vl.size)) :: l) zsup)
              have e : (chB ⟨true, tb, ky, vl⟩).length = 2 + (2 + ky.size) + (2 + vl.size) := by simp [chB, txtB_length]; omega
              rw [show A + (chB ⟨true, tb, ky, vl⟩).length = A + 2 + (2 + ky.size) + (2 + vl.size) by rw [e]; omega]
              exact q.sup zsup)
        ·
         skip
         refine Jh (Jh (Je (Jb (Jd rfl) U U U ?_)))
         refine Jl rfl (Jw e118 U U (Vw (Ji zpk Jj) (rerr_spec E rb _ _ _)) ?_)
         rintro _ _ ⟨rfl, rfl⟩
         refine Jb (y_neq U U) U U U (Jb (Jd rfl) U U U ?_)
         all_goals (first | (refine Vh U U U (fun h => ?_) (fun h => ?_) <;> try (first | (exfalso; omega) | exact absurd rfl h)) | (refine Vr U U U (fun h => ?_) (fun h => ?_) <;> try (first | cases h | (exfalso; simp at h; done))) | skip)
         all_goals (first | refine Js U U U U U U ?_ | refine Jp U U U U U ?_ | refine Jt U U U (We hT U U U zrdn zln) U U ?_)
         all_goals (first | refine Js U U U U U U ?_ | refine Jp U U U U U ?_ | refine Jt U U U (Jd rfl) U U ?_)
         all_goals (first | refine Js U U U U U U ?_ | refine Jp U U U U U ?_ | refine Jt U U U (Jd rfl) U U ?_)
         all_goals (first | refine Js U U U U U U ?_ | refine Jp U U U U U ?_ | (refine JL.gloud U U U (Jw e119 U U (fits_yes E ⟨hrw, hky, hvl⟩ ky vl (by omega) (by omega) hfr _) ?_); rintro _ _ ⟨rfl, rfl⟩))
         all_goals (first | refine Js U U U U U U ?_ | refine Jp U U U U U ?_ | refine Jt U U U (y_not rfl) U U ?_)
         all_goals (refine Jb (Wb U U U) U U U ?_)
         all_goals (refine Jb (Jd rfl) U U U ?_)
         all_goals (first | (refine Vh U U U (fun h => ?_) (fun h => ?_) <;> try (first | (exfalso; omega) | exact absurd rfl h)) | (refine Vr U U U (fun h => ?_) (fun h => ?_) <;> try (first | cases h | (exfalso; simp at h; done))) | skip)
         all_goals (first | refine Js U U U U U U ?_ | refine Jp U U U U U ?_ | refine Jt U U U (Jd rfl) U U ?_)
         all_goals (first | refine Js U U U U U U ?_ | refine Jp U U U U U ?_ | refine Jt U U U (y_not rfl) U U ?_)
         all_goals (first | refine Js U U U U U U ?_ | refine Jp U U U U U ?_ | refine Jt U U U (Jd rfl) U U ?_)
         all_goals (first | (refine Vh U U U (fun h => ?_) (fun h => ?_) <;> try (first | (exfalso; omega) | exact absurd rfl h)) | (refine Vr U U U (fun h => ?_) (fun h => ?_) <;> try (first | cases h | (exfalso; simp at h; done))) | skip)
         all_goals (first | refine Js U U U U U U ?_ | refine Jp U U U U U ?_ | refine Jt U U U (Jd rfl) U U ?_)
         all_goals (first | refine Js U U U U U U ?_ | refine Jp U U U U U ?_ | refine Jt U U U ((y_len_map hT U U U zpk).cast (u := .int .i64 (R.length : Int)) (by rw [hml])) U U ?_)
         all_goals (first | refine Js U U U U U U ?_ | refine Jp U U U U U ?_ | refine Jt U U U (Jk hT U U U U U U) U U ?_)
         all_goals (first | refine Js U U U U U U ?_ | refine Jp U U U U U ?_ | refine Jt U U U (Jo hT U U U zrd) U U ?_)
         all_goals (first | refine Js U U U U U U ?_ | refine Jp U U U U U ?_ | refine Jt U U U ((y_eql U U).cast (u := .bool false) (congrArg Value.bool (decide_eq_false (show ¬ ((R.length : Int) = hrw) from fun e => by have := hroom (Option.isSome_eq_false_iff.1 hth |> Option.isNone_iff_eq_none.1); omega)))) U U ?_)
         all_goals (first | refine Js U U U U U U ?_ | refine Jp U U U U U ?_ | refine Jt U U U (Wb U U U) U U ?_)
         all_goals (refine Jb (Wb U U U) U U U ?_)
         all_goals refine Jg (Ja ?_)
         all_goals
          first | apply Jx rfl | apply Vo rfl
          case' ht =>
           intro h
           try (first | exact zom | exact zho h | subst h)
           all_goals
            refine Jh (Je (Jb (Jf rfl) U U U ?_))
            refine Jg (Ja (Vn (Vb (Vj (Vj (Vb (Vb (Vj (Vb ?_)))))))))
            refine Vi (.inl rfl) U U zrv ?_
            exact ⟨rfl, fun w q => q.sup zsup⟩
          case' hf =>
           intro h
           try (first | exact zom | exact zho h | subst h)
           all_goals
            refine Vd ?_
         all_goals refine Ja ?_
         all_goals
          refine Je (Jb (Jd rfl) U U U (Jb (Jd rfl) U U U (Jb (Jd rfl) U U U ?_)))
          refine Jl rfl (l_mapUpdate (a := ky) hT U U (keyStr hT U U) U U U U trivial zpk ?_)
          refine Jg ?_
         all_goals
          refine Ju (Ju (Ja ?_))
          have hnx : ∀ ch, cs[j]? = some ch → ch.tab = tb → chsS Rs (cs.take (j + 1)) = Rj.set tb (chT ch R) := fun ch e1 e2 => by
           rw [List.take_add_one, e1, Option.toList_some, chsS_snoc, hRj, chS, List.getD_eq_getElem?_getD, e2, hR]
           rfl
          have hps : ∀ ch, cs[j]? = some ch → 2 + ((cs.take (j + 1)).flatMap chB).length = A + (chB ch).length := fun ch e1 => by
           rw [List.take_add_one, e1, ← hA, Option.toList_some, List.flatMap_append, List.length_append]
           simp
           omega
          refine Wj hk21 () trivial ⟨U, U, U, U, U, trivial⟩ (fun w s => ?_)
          rw [hnx _ hch rfl, hps _ hch]
          first
           | (rw [mdel_kvT] at s
              have q := st_back hbn hRjn hb htbn (rdel_perm hm hft.srt ky) (s.sup (p := mapA Value.string (fun _ => True) b (kvT (rdel m ky)) :: own 147 1 (.slice (some ⟨gm, 0, none⟩) n c) n (mapsV bs) :: tabs (bs.eraseIdx tb) (Rj.eraseIdx tb) :: rdr rb (txB cs) (A + 2 + (2 + ky.size)) :: l) zsup)
              have e : (chB ⟨false, tb, ky, vl⟩).length = 2 + (2 + ky.size) := by simp [chB, txtB_length]; omega
              rw [show A + (chB ⟨false, tb, ky, vl⟩).length = A + 2 + (2 + ky.size) by rw [e]; omega]
              exact q.sup zsup)
           | (rw [mput_kvT] at s
              have q := st_back hbn hRjn hb htbn (rput_perm hm hft.srt ky vl) (s.sup (p := mapA Value.string (fun _ => True) b (kvT (rput m ky vl)) :: own 147 1 (.slice (some ⟨gm, 0, none⟩) n c) n (mapsV bs) :: tabs (bs.eraseIdx tb) (Rj.eraseIdx tb) :: rdr rb (txB cs) (A + 2 + (2 + ky.size) + (2 + vl.size)) :: l) zsup)
              have e : (chB ⟨true, tb, ky, vl⟩).length = 2 + (2 + ky.size) + (2 + vl.size) := by simp [chB, txtB_length]; omega
              rw [show A + (chB ⟨true, tb, ky, vl⟩).length = A + 2 + (2 + ky.size) + (2 + vl.size) by rw [e]; omega]
              exact q.sup zsup)
      case' hf =>
       intro h
       try (first | exact zom | exact zho h | subst h)
       all_goals
        refine Jh (Je (Jb (Jf rfl) U U U ?_))
        refine Jg (Ja (Vn (Vj (Vj (Vb (Vb (Vj (Vb ?_))))))))
        refine Vi (.inl rfl) U U zrv ?_
        exact ⟨rfl, fun w q => q.sup zsup⟩
    all_goals refine Ju ?_
   all_goals refine Ju (Ja ?_)
   all_goals
    have hnx : ∀ ch, cs[j]? = some ch → ch.tab = tb → chsS Rs (cs.take (j + 1)) = Rj.set tb (chT ch R) := fun ch e1 e2 => by
     rw [List.take_add_one, e1, Option.toList_some, chsS_snoc, hRj, chS, List.getD_eq_getElem?_getD, e2, hR]
     rfl
    have hps : ∀ ch, cs[j]? = some ch → 2 + ((cs.take (j + 1)).flatMap chB).length = A + (chB ch).length := fun ch e1 => by
     rw [List.take_add_one, e1, ← hA, Option.toList_some, List.flatMap_append, List.length_append]
     simp
     omega
    refine Wj hk21 () trivial ⟨U, U, U, U, U, trivial⟩ (fun w s => ?_)
    rw [hnx _ hch rfl, hps _ hch]
    first
     | (rw [mdel_kvT] at s
        have q := st_back hbn hRjn hb htbn (rdel_perm hm hft.srt ky) (s.sup (p := mapA Value.string (fun _ => True) b (kvT (rdel m ky)) :: own 147 1 (.slice (some ⟨gm, 0, none⟩) n c) n (mapsV bs) :: tabs (bs.eraseIdx tb) (Rj.eraseIdx tb) :: rdr rb (txB cs) (A + 2 + (2 + ky.size)) :: l) zsup)
        have e : (chB ⟨false, tb, ky, vl⟩).length = 2 + (2 + ky.size) := by simp [chB, txtB_length]; omega
        rw [show A + (chB ⟨false, tb, ky, vl⟩).length = A + 2 + (2 + ky.size) by rw [e]; omega]
        exact q.sup zsup)
     | (rw [mput_kvT] at s
        have q := st_back hbn hRjn hb htbn (rput_perm hm hft.srt ky vl) (s.sup (p := mapA Value.string (fun _ => True) b (kvT (rput m ky vl)) :: own 147 1 (.slice (some ⟨gm, 0, none⟩) n c) n (mapsV bs) :: tabs (bs.eraseIdx tb) (Rj.eraseIdx tb) :: rdr rb (txB cs) (A + 2 + (2 + ky.size) + (2 + vl.size)) :: l) zsup)
        have e : (chB ⟨true, tb, ky, vl⟩).length = 2 + (2 + ky.size) + (2 + vl.size) := by simp [chB, txtB_length]; omega
        rw [show A + (chB ⟨true, tb, ky, vl⟩).length = A + 2 + (2 + ky.size) + (2 + vl.size) by rw [e]; omega]
        exact q.sup zsup)
  intro _ _
  refine Je ?_
  refine Jb (Wa U U zwr) U U U ?_
  refine Jb (Jd rfl) U U U ?_
  refine Jg ?_
 all_goals
  refine Vt (s := j) (j + 1) (by omega) ⟨U, U, U, U, U, trivial⟩ (fun w q => q) (by omega)
end
end
section
open Go Go.SL
section
structure Bs where
 shs : List Shp
 kept : List (List Rw)
 meant : List (List Rw)
 turned : List Chg
abbrev BsQ := (Option Addr × Nat) × (Option Addr × Nat) × (Option Addr × Nat) × (Option Addr × Nat)
def bcells (lg n t : Nat) (q : BsQ) : List Value := [.pointer (some ⟨lg, 0, none⟩), .slice q.1.1 n q.1.2, .slice q.2.1.1 n q.2.1.2, .slice q.2.2.1.1 n q.2.2.1.2, .slice q.2.2.2.1 t q.2.2.2.2]
def baseL (b lg : Nat) (B : Bs) (q : BsQ) : List HProp := [row b 139 (bcells lg B.shs.length B.turned.length q), own 71 3 (.slice q.1.1 B.shs.length q.1.2) B.shs.length (B.shs.flatMap shC), stM q.2.1.1 B.shs.length q.2.1.2 B.kept, stM q.2.2.1.1 B.shs.length q.2.2.1.2 B.meant, own 168 4 (.slice q.2.2.2.1 B.turned.length q.2.2.2.2) B.turned.length (B.turned.flatMap chC)]
def baseM (b lg : Nat) (B : Bs) : HProp := pk (baseL b lg B)
theorem Fc.base {P : Program} {E : World} {r : List HProp} {f : FuncId} {args : Array Value} {RR : Value → List HProp → Prop} {b lg : Nat} {B : Bs}
 (h : ∀ sp sc ka kc ma mc ta tc, Fc P E f args (row b 139 [.pointer (some ⟨lg, 0, none⟩), .slice sp B.shs.length sc, .slice ka B.shs.length kc, .slice ma B.shs.length mc, .slice ta B.turned.length tc] :: own 71 3 (.slice sp B.shs.length sc) B.shs.length (B.shs.flatMap shC) :: stM ka B.shs.length kc B.kept :: stM ma B.shs.length mc B.meant :: own 168 4 (.slice ta B.turned.length tc) B.turned.length (B.turned.flatMap chC) :: r) RR) : Fc P E f args (baseM b lg B :: r) RR :=
 Fc.pks fun q => h q.1.1 q.1.2 q.2.1.1 q.2.1.2 q.2.2.1.1 q.2.2.1.2 q.2.2.2.1 q.2.2.2.2
theorem base_shut {E w : World} {r : List HProp} {b lg n t : Nat} {B : Bs} {sp ka ma ta : Option Addr} {sc kc mc tc : Nat} (hn : B.shs.length = n) (ht : B.turned.length = t)
 (s : Sat E (stars (row b 139 [.pointer (some ⟨lg, 0, none⟩), .slice sp n sc, .slice ka n kc, .slice ma n mc, .slice ta t tc] :: own 71 3 (.slice sp n sc) n (B.shs.flatMap shC) :: stM ka n kc B.kept :: stM ma n mc B.meant :: own 168 4 (.slice ta t tc) t (B.turned.flatMap chC) :: r)) w) : Sat E (stars (baseM b lg B :: r)) w := by
 subst hn ht
 exact Sat.topk (F := baseL b lg B) ((sp, sc), (ka, kc), (ma, mc), (ta, tc)) s
end
section
attribute [local irreducible] J JL JE JM LS Y Fc RV Code.wp wpList Code.wpIn wpListIn
attribute [local irreducible] Yc ltS
variable (E : World)
theorem check_spec (b n : Nat) (c0 : Value) (sp : Option Addr) (sc : Nat) (c2 c3 c4 : Value) (i : Int) (l : List HProp) (_ : n ≤ 1000000) :
 Fc prog E 70 [.pointer (some ⟨b, 0, none⟩), .int .i64 i].toArray (row b 139 [c0, .slice sp n sc, c2, c3, c4] :: l) (fun v l' => v = .int .i64 (if 0 ≤ i ∧ i < (n : Int) then 0 else 2) ∧ l' = row b 139 [c0, .slice sp n sc, c2, c3, c4] :: l) := by
 refine Fc.eqs ?_
 refine Va (c := ?codeC) Tryz.func70 ?hb Tryz.ntmps70 ?hl ?_
 case hb => exact rfl
 case hl => exact rfl
 refine Jh (Je (Jb (Jf rfl) U U U ?_))
 refine Jg (Ja (Jh (Ve (Jh (Je (Jb (Jd rfl) U U U (Jb (Wc hT U U U U) U U U (Jb (Jf rfl) U U U ?_))))))))
 refine Jg (Ja ?_)
 refine Vk rfl zbl ?_
 refine Jh (Je (Jb (Jd rfl) U U U (Jb (y_lss U U) U U U (Jb (Jd rfl) U U U ?_))))
 all_goals (first | (refine Vh U U U (fun h => ?_) (fun h => ?_) <;> try (first | (exfalso; omega) | exact absurd rfl h)) | (refine Vr U U U (fun h => ?_) (fun h => ?_) <;> try (first | cases h | (exfalso; simp at h; done))) | skip)
 all_goals (first | refine Js U U U U U U ?_ | refine Jp U U U U U ?_ | refine Jt U U U (Jd rfl) U U ?_)
 all_goals (first | refine Js U U U U U U ?_ | refine Jp U U U U U ?_ | refine Jt U U U (Jd rfl) U U ?_)
 all_goals (first | refine Js U U U U U U ?_ | refine Jp U U U U U ?_ | refine Jt U U U znc U U ?_)
 all_goals (first | refine Js U U U U U U ?_ | refine Jp U U U U U ?_ | refine Jt U U U (Jk hT U U U U U U) U U ?_)
 all_goals (first | refine Js U U U U U U ?_ | refine Jp U U U U U ?_ | refine Jt U U U (Jo hT U U U zrd) U U ?_)
 all_goals (first | refine Js U U U U U U ?_ | refine Jp U U U U U ?_ | refine Jt U U U (Vf hT U U U) U U ?_)
 all_goals (first | refine Js U U U U U U ?_ | refine Jp U U U U U ?_ | refine Jt U U U (y_geq U U) U U ?_)
 all_goals (refine Jb (Wb U U U) U U U ?_)
 all_goals (refine Jb (Jf rfl) U U U ?_)
 all_goals refine Jg (Ja ?_)
 all_goals
  first | apply Jx rfl | apply Vo rfl
  case' ht =>
   intro h
   try (first | exact zom | exact zho h | subst h)
   all_goals
    refine Jh (Je (Jb (Jf rfl) U U U ?_))
    refine Jg (Ja (Vn (Vj (Vb ?_))))
    refine Vi (.inl rfl) U U zrv ?_
    refine ⟨?_, fun w q => q⟩
    first
     | rw [if_pos (by omega)]
     | rw [if_neg (by omega)]
  case' hf =>
   intro h
   try (first | exact zom | exact zho h | subst h)
   all_goals
    refine Vd ?_
 all_goals refine Ju (Ja ?_)
 all_goals
  refine Jh (Je (Jb (Jf rfl) U U U ?_))
  refine Jg (Ja (Vn ?_))
  refine Vi (.inl rfl) U U zrv ?_
  refine ⟨?_, fun w q => q⟩
  first
   | rw [if_pos (by omega)]
   | rw [if_neg (by omega)]
theorem dirty_spec (b lg : Nat) (B : Bs) (l : List HProp) : Fc prog E 34 [.pointer (some ⟨b, 0, none⟩)].toArray (baseM b lg B :: l) (fun v l' => v = .int .i64 (B.turned.length : Int) ∧ l' = baseM b lg B :: l) := by
 refine Fc.base fun sp sc ka kc ma mc ta tc => Fc.eqs ?_
 refine Va (c := ?codeC) Tryz.func34 ?hb Tryz.ntmps34 ?hl ?_
 case hb => exact rfl
 case hl => exact rfl
 refine Jh (Je (Jb (Jf rfl) U U U ?_))
 refine Jg (Ja (Jh (Jh (Je (Jb (Jd rfl) U U U (Jb (Wc hT U U U U) U U U ?_))))))
 refine Jg (Ja ?_)
 refine Vk rfl zbl ?_
 refine Vd (Ja (Jh (Je (Jb (Jd rfl) U U U ?_))))
 refine Jb znc U U U ?_
 refine Jb (Jk hT U U U U U U) U U U ?_
 refine Jb (Jo hT U U U zrd) U U U ?_
 refine Jb (Vf hT U U U) U U U (Jb (Jf rfl) U U U ?_)
 refine Jg (Ja (Vn ?_))
 refine Vi (.inl rfl) U U zrv ?_
 exact ⟨rfl, fun w q => base_shut U U q⟩
theorem state_spec {K : Nat} (hS : SortOk E K) (b lg : Nat) (B : Bs) (hn : B.shs.length ≤ 8) (hR : ∀ R ∈ B.meant, ROk R) (hK : ∀ R ∈ B.meant, R.length ≤ K) (l : List HProp) :
 Fc prog E 20 [.pointer (some ⟨b, 0, none⟩)].toArray (baseM b lg B :: l) (fun v l' => ∃ a c, v = .slice a (stB B.meant).length c ∧ l' = own 5 1 v (stB B.meant).length (ints .u8 (stB B.meant)) :: baseM b lg B :: l) := by
 refine Fc.base fun sp sc ka kc ma mc ta tc => Wg ?_
 refine Va (c := ?codeC) Tryz.func20 ?hb Tryz.ntmps20 ?hl ?_
 case hb => exact rfl
 case hl => exact rfl
 refine Jh (Je (Jb (Jf rfl) U U U ?_))
 refine Jg (Ja (Jh (Jh (Je (Jb (Jd rfl) U U U (Jb (Wc hT U U U U) U U U ?_))))))
 refine Jg (Ja ?_)
 refine Vk rfl zbl ?_
 refine Vd (Ja (Jh (Je (Jb (Jd rfl) U U U ?_))))
 refine Jb znc U U U ?_
 refine Jb (Jk hT U U U U U U) U U U ?_
 refine Jb (Jo hT U U U zrd) U U U ?_
 refine Jl rfl (Jw e75 U U (Vw (Ji zpk Jj) (bytes_spec E hS ma B.shs.length mc hn B.meant hR hK _)) ?_)
 rintro _ _ ⟨a, c, rfl, rfl⟩
 refine Jb (Jf rfl) U U U ?_
 refine Jg (Ja (Vn ?_))
 refine Vi (.inl rfl) U U zrv ?_
 exact ⟨_, fun w q => Sat.pick (base_shut (r := own 5 1 (.slice a (stB B.meant).length c) (stB B.meant).length (ints .u8 (stB B.meant)) :: l) U U (q.sup zsup)) (Jz Jm), a, c, rfl, rfl⟩
theorem abort_spec (b lg : Nat) (B : Bs) (hn : B.shs.length ≤ 8) (l : List HProp) :
 Fc prog E 36 [.pointer (some ⟨b, 0, none⟩)].toArray (baseM b lg B :: l) (fun v l' => v = .int .i64 0 ∧ l' = baseM b lg { B with meant := B.kept, turned := [] } :: l) := by
 refine Fc.base fun sp sc ka kc ma mc ta tc => Fc.eqs ?_
 refine Va (c := ?codeC) Tryz.func36 ?hb Tryz.ntmps36 ?hl ?_
 case hb => exact rfl
 case hl => exact rfl
 refine Jh (Je (Jb (Jf rfl) U U U ?_))
 refine Jg (Ja (Jh (Jh (Je (Jb (Jd rfl) U U U (Jb (Wc hT U U U U) U U U ?_))))))
 refine Jg (Ja ?_)
 refine Vk rfl zbl ?_
 refine Vd (Ja (Jh (Je (Jb (Jd rfl) U U U (Jb (Jd rfl) U U U (Jb (Jd rfl) U U U ?_))))))
 refine Jb znc U U U ?_
 refine Jb (Jk hT U U U U U U) U U U ?_
 refine Jb (Jo hT U U U zrd) U U U ?_
 refine Jl rfl (Jw e69 U U (Vw (Ji zpk Jj) (copied_spec E ka B.shs.length kc (by omega) B.kept _)) ?_)
 rintro _ _ ⟨a, c, rfl, rfl⟩
 refine Jb znc U U U ?_
 refine Jb (Jk hT U U U U U U) U U U ?_
 refine Jl rfl (Vs hT U U U U U zpk zix ?_)
 refine Jb znc U U U ?_
 refine Jb (Jk hT U U U U U U) U U U ?_
 refine Jl rfl (Vs hT U U U U U zpk zix ?_)
 refine Jg (Ja (Jh (Je (Jb (Jf rfl) U U U ?_))))
 refine Jg (Ja (Vn ?_))
 refine Vi (.inl rfl) U U zrv ?_
 exact ⟨rfl, fun w q => base_shut (sp := sp) (sc := sc) (ka := ka) (kc := kc) (ma := a) (mc := c) (ta := none) (tc := 0) U U (Sat.sup (Sat.own_nil (e := 168) (size := 4) q) zsup)⟩
end
end
section
open Go Go.SL
section
def putE (h : Shp) (R : List Rw) (k v : ByteArray) : Int := if k.size = 0 then 2 else if h.key < (k.size : Int) ∨ h.value < (v.size : Int) then 3 else if rget R k = none ∧ (R.length : Int) = h.rows then 6 else 0
def Bs.put (B : Bs) (i : Nat) (R : List Rw) (k v : ByteArray) : Bs := { B with meant := B.meant.set i (rins R k v), turned := B.turned ++ [⟨true, i, k, v⟩] }
def Bs.del (B : Bs) (i : Nat) (R : List Rw) (k : ByteArray) : Bs := { B with meant := B.meant.set i (rrem R k), turned := B.turned ++ [⟨false, i, k, ⟨#[]⟩⟩] }
theorem look_rget {m R : List Rw} (hm : m.Perm R) (hs : Srt R) (k : ByteArray) : lookV true (mlook (kvT m) k) (.string ⟨#[]⟩) = .tuple #[.string ((rget R k).getD ⟨#[]⟩), .bool (rget R k).isSome] := by
 rw [mlook_kvT, rget_perm hm hs.nodup]
 cases rget R k <;> rfl
end
section
attribute [local irreducible] J JL JE JM LS Y Fc RV Code.wp wpList Code.wpIn wpListIn
attribute [local irreducible] Yc ltS
variable (E : World)
theorem check_ok (b n : Nat) (c0 : Value) (sp : Option Addr) (sc : Nat) (c2 c3 c4 : Value) (i : Nat) (hi : i < n) (l : List HProp) (hn : n ≤ 1000000) :
 Fc prog E 70 [.pointer (some ⟨b, 0, none⟩), .int .i64 (i : Int)].toArray (row b 139 [c0, .slice sp n sc, c2, c3, c4] :: l) (fun v l' => v = .int .i64 0 ∧ l' = row b 139 [c0, .slice sp n sc, c2, c3, c4] :: l) :=
 (check_spec E b n c0 sp sc c2 c3 c4 i l hn).mono fun v l' ⟨h1, h2⟩ => ⟨by rw [h1, if_pos (by omega)], h2⟩
theorem check_bad (b n : Nat) (c0 : Value) (sp : Option Addr) (sc : Nat) (c2 c3 c4 : Value) (i : Int) (hi : ¬ (0 ≤ i ∧ i < (n : Int))) (l : List HProp) (hn : n ≤ 1000000) :
 Fc prog E 70 [.pointer (some ⟨b, 0, none⟩), .int .i64 i].toArray (row b 139 [c0, .slice sp n sc, c2, c3, c4] :: l) (fun v l' => v = .int .i64 2 ∧ l' = row b 139 [c0, .slice sp n sc, c2, c3, c4] :: l) :=
 (check_spec E b n c0 sp sc c2 c3 c4 i l hn).mono fun v l' ⟨h1, h2⟩ => ⟨by rw [h1, if_neg hi], h2⟩
theorem tlen_spec (b lg : Nat) (B : Bs) (i : Nat) (R : List Rw) (hn : B.shs.length ≤ 8) (hi : i < B.shs.length) (hR : B.meant[i]? = some R) (l : List HProp) :
 Fc prog E 16 [.pointer (some ⟨b, 0, none⟩), .int .i64 (i : Int)].toArray (baseM b lg B :: l) (fun v l' => v = .int .i64 (R.length : Int) ∧ l' = baseM b lg B :: l) := by
 refine Fc.base fun sp sc ka kc ma mc ta tc => Vw (p := [stM ma B.shs.length mc B.meant]) (Ji zpk Jj) (Fc.stAt hi fun bs bi R' m hbn hMn hb hR' hm => Fc.eqs ?_)
 obtain rfl : R = R' := Option.some.inj (hR.symm.trans hR')
 have hkm := mapsV_at hb
 refine Fc.fact (fun w s => Vu (s.pick Jm)) fun om => ?_
 obtain ⟨gm, rfl⟩ := om.at_.resolve_right fun ⟨h0, _⟩ => by have := om.le; omega
 refine Va (c := ?codeC) Tryz.func16 ?hb Tryz.ntmps16 ?hl ?_
 case hb => exact rfl
 case hl => exact rfl
 refine Jh (Je (Jb (Jf rfl) U U U ?_))
 refine Jg (Ja (Jh (Jh (Je (Jb (Jd rfl) U U U (Jb (Jd rfl) U U U ?_))))))
 refine Jl rfl (Jw e70 U U (Vw (Ji zpk Jj) (check_ok E b B.shs.length _ sp sc _ _ _ i hi _ (by omega))) ?_)
 rintro _ _ ⟨rfl, rfl⟩
 refine Jb (y_neq U U) U U U ?_
 refine Jg (Ja ?_)
 refine Vk rfl zbl ?_
 refine Vd (Ja (Jh (Je (Jb (Jd rfl) U U U ?_))))
 refine Jb znc U U U ?_
 refine Jb (Jk hT U U U U U U) U U U ?_
 refine Jb (Jo hT U U U zrd) U U U ?_
 refine Jb (Jd rfl) U U U ?_
 refine Jb (Jn hT U U U U U zix zix) U U U ?_
 refine Jb (Jo hT U U U (Rd1.elem (RdN.own zpk) hkm)) U U U ?_
 refine Jb ((y_len_map hT U U U zpk).cast (u := .int .i64 (R.length : Int)) (by rw [kvT_length, hm.length_eq])) U U U ?_
 refine Jb (Jf rfl) U U U ?_
 refine Jg (Ja (Vn ?_))
 refine Vi (.inl rfl) U U zrv ?_
 refine ⟨rfl, fun w q => ?_⟩
 have q1 := st_back hbn hMn hb hi hm (q.sup (p := mapA Value.string (fun _ => True) bi (kvT m) :: own 147 1 (.slice (some ⟨gm, 0, none⟩) B.shs.length mc) B.shs.length (mapsV bs) :: tabs (bs.eraseIdx i) (B.meant.eraseIdx i) :: row b 139 _ :: own 71 3 (.slice sp B.shs.length sc) B.shs.length (B.shs.flatMap shC) :: stM ka B.shs.length kc B.kept :: own 168 4 (.slice ta B.turned.length tc) B.turned.length (B.turned.flatMap chC) :: l) zsup)
 rw [set_same hR] at q1
 exact base_shut U U (q1.sup zsup)
theorem tget_some (b lg : Nat) (B : Bs) (i : Nat) (R : List Rw) (k v : ByteArray) (hn : B.shs.length ≤ 8) (hi : i < B.shs.length) (hR : B.meant[i]? = some R) (hs : Srt R) (hv : rget R k = some v) (hvs : v.size ≤ 1000000) (l : List HProp) :
 Fc prog E 18 [.pointer (some ⟨b, 0, none⟩), .int .i64 (i : Int), .string k].toArray (baseM b lg B :: l) (fun u l' => ∃ g c K, InL [K] (some ⟨g, 0, none⟩) v.size c (ints .u8 (bytesS v)) ∧ u = .tuple #[.slice (some ⟨g, 0, none⟩) v.size c, .int .i64 0] ∧ l' = K :: baseM b lg B :: l) := by
 refine Fc.base fun sp sc ka kc ma mc ta tc => Vw (p := [stM ma B.shs.length mc B.meant]) (Ji zpk Jj) (Fc.stAt hi fun bs bi R' m hbn hMn hb hR' hm => Wg ?_)
 obtain rfl : R = R' := Option.some.inj (hR.symm.trans hR')
 have hkm := mapsV_at hb
 have hlk := look_rget hm hs k
 rw [hv] at hlk
 refine Fc.fact (fun w s => Vu (s.pick Jm)) fun om => ?_
 obtain ⟨gm, rfl⟩ := om.at_.resolve_right fun ⟨h0, _⟩ => by have := om.le; omega
 refine Va (c := ?codeC) Tryz.func18 ?hb Tryz.ntmps18 ?hl ?_
 case hb => exact rfl
 case hl => exact rfl
 refine Jh (Je (Jb (Jf rfl) U U U (Jb (Jf rfl) U U U ?_)))
 refine Jg (Ja (Jh (Jh (Je (Jb (Jd rfl) U U U (Jb (Jd rfl) U U U ?_))))))
 refine Jl rfl (Jw e70 U U (Vw (Ji zpk Jj) (check_ok E b B.shs.length _ sp sc _ _ _ i hi _ (by omega))) ?_)
 rintro _ _ ⟨rfl, rfl⟩
 refine Jb (Jf rfl) U U U ?_
 refine Jg (Ja (Jh (Je (Jb (Jd rfl) U U U (Jb (y_neq U U) U U U ?_)))))
 refine Jg (Ja ?_)
 refine Vk rfl zbl ?_
 refine Vd (Ja (Jh (Je (Jb (Jd rfl) U U U ?_))))
 refine Jb znc U U U ?_
 refine Jb (Jk hT U U U U U U) U U U ?_
 refine Jb (Jo hT U U U zrd) U U U ?_
 refine Jb (Jd rfl) U U U ?_
 refine Jb (Jn hT U U U U U zix zix) U U U ?_
 refine Jb (Jo hT U U U (Rd1.elem (RdN.own zpk) hkm)) U U U ?_
 refine Jb (Jd rfl) U U U ?_
 refine Jb ((y_lookup (a := k) hT U U U U (keyStr hT U U) U U U trivial zpk).cast hlk) U U U ?_
 refine Jb (Jd rfl) U U U (Jb (Vg U U) U U U (Jb (Vg U U) U U U (Jb (Jf rfl) U U U (Jb (Jf rfl) U U U ?_))))
 refine Jg (Ja (Jh (Jh (Je (Jb (Jd rfl) U U U (Jb (y_not rfl) U U U ?_))))))
 refine Jg (Ja ?_)
 refine Vk rfl zbl ?_
 refine Vd (Ja (Jh (Je (Jb (Jd rfl) U U U ?_))))
 refine Jl rfl (l_convStr (s := v) hT U U U U U U U (by omega) rfl (fun g c K hK => ?_))
 refine Jb (Jf rfl) U U U (Jb (Jf rfl) U U U ?_)
 refine Jg (Ja (Vn ?_))
 refine JE.ret2 (.inl rfl) U U zrv zrv ?_
 refine ⟨_, fun w q => ?_, g, c, K, hK, rfl, rfl⟩
 have q1 := st_back hbn hMn hb hi hm (q.sup (p := mapA Value.string (fun _ => True) bi (kvT m) :: own 147 1 (.slice (some ⟨gm, 0, none⟩) B.shs.length mc) B.shs.length (mapsV bs) :: tabs (bs.eraseIdx i) (B.meant.eraseIdx i) :: K :: row b 139 _ :: own 71 3 (.slice sp B.shs.length sc) B.shs.length (B.shs.flatMap shC) :: stM ka B.shs.length kc B.kept :: own 168 4 (.slice ta B.turned.length tc) B.turned.length (B.turned.flatMap chC) :: l) zsup)
 rw [set_same hR] at q1
 exact Sat.pick (base_shut (r := K :: l) U U (q1.sup zsup)) (Jz Jm)
end
end
section
open Go Go.SL
section
attribute [local irreducible] J JL JE JM LS Y Fc RV Code.wp wpList Code.wpIn wpListIn
attribute [local irreducible] Yc ltS
variable (E : World)
theorem del_none (b lg : Nat) (B : Bs) (i : Nat) (R : List Rw) (k : ByteArray) (hn : B.shs.length ≤ 8) (hi : i < B.shs.length) (hR : B.meant[i]? = some R) (hs : Srt R) (hv : rget R k = none) (l : List HProp) :
 Fc prog E 33 [.pointer (some ⟨b, 0, none⟩), .int .i64 (i : Int), .string k].toArray (baseM b lg B :: l) (fun v l' => v = .int .i64 4 ∧ l' = baseM b lg B :: l) := by
 refine Fc.base fun sp sc ka kc ma mc ta tc => Vw (p := [stM ma B.shs.length mc B.meant]) (Ji zpk Jj) (Fc.stAt hi fun bs bi R' m hbn hMn hb hR' hm => Fc.eqs ?_)
 obtain rfl : R = R' := Option.some.inj (hR.symm.trans hR')
 have hkm := mapsV_at hb
 have hlk := look_rget hm hs k
 rw [hv] at hlk
 refine Fc.fact (fun w s => Vu (s.pick Jm)) fun om => ?_
 obtain ⟨gm, rfl⟩ := om.at_.resolve_right fun ⟨h0, _⟩ => by have := om.le; omega
 refine Va (c := ?codeC) Tryz.func33 ?hb Tryz.ntmps33 ?hl ?_
 case hb => exact rfl
 case hl => exact rfl
 refine Jh (Je (Jb (Jf rfl) U U U ?_))
 refine Jg (Ja (Jh (Jh (Je (Jb (Jd rfl) U U U (Jb (Jd rfl) U U U ?_))))))
 refine Jl rfl (Jw e70 U U (Vw (Ji zpk Jj) (check_ok E b B.shs.length _ sp sc _ _ _ i hi _ (by omega))) ?_)
 rintro _ _ ⟨rfl, rfl⟩
 refine Jb (Jf rfl) U U U ?_
 refine Jg (Ja (Jh (Je (Jb (Jd rfl) U U U (Jb (y_neq U U) U U U ?_)))))
 refine Jg (Ja ?_)
 refine Vk rfl zbl ?_
 refine Vd (Ja (Jh (Jh (Je (Jb (Jd rfl) U U U ?_)))))
 refine Jb znc U U U ?_
 refine Jb (Jk hT U U U U U U) U U U ?_
 refine Jb (Jo hT U U U zrd) U U U ?_
 refine Jb (Jd rfl) U U U ?_
 refine Jb (Jn hT U U U U U zix zix) U U U ?_
 refine Jb (Jo hT U U U (Rd1.elem (RdN.own zpk) hkm)) U U U ?_
 refine Jb (Jd rfl) U U U ?_
 refine Jb ((y_lookup (a := k) hT U U U U (keyStr hT U U) U U U trivial zpk).cast hlk) U U U ?_
 refine Jb (Jd rfl) U U U (Jb (Vg U U) U U U (Jb (Vg U U) U U U (Jb (Jf rfl) U U U (Jb (Jf rfl) U U U ?_))))
 refine Jg (Ja (Jh (Je (Jb (Jd rfl) U U U (Jb (y_not rfl) U U U ?_)))))
 refine Jg (Ja ?_)
 refine J.cond_t rfl zbl ?_
 refine Jh (Je (Jb (Jf rfl) U U U ?_))
 refine Jg (Ja (Vn (Vb ?_)))
 refine Vi (.inl rfl) U U zrv ?_
 refine ⟨rfl, fun w q => ?_⟩
 have q1 := st_back hbn hMn hb hi hm (q.sup (p := mapA Value.string (fun _ => True) bi (kvT m) :: own 147 1 (.slice (some ⟨gm, 0, none⟩) B.shs.length mc) B.shs.length (mapsV bs) :: tabs (bs.eraseIdx i) (B.meant.eraseIdx i) :: row b 139 _ :: own 71 3 (.slice sp B.shs.length sc) B.shs.length (B.shs.flatMap shC) :: stM ka B.shs.length kc B.kept :: own 168 4 (.slice ta B.turned.length tc) B.turned.length (B.turned.flatMap chC) :: l) zsup)
 rw [set_same hR] at q1
 exact base_shut U U (q1.sup zsup)
theorem del_ok (b lg : Nat) (B : Bs) (i : Nat) (R : List Rw) (k : ByteArray) (hn : B.shs.length ≤ 8) (hi : i < B.shs.length) (hR : B.meant[i]? = some R) (hs : Srt R) (hv : rget R k ≠ none) (ht : B.turned.length ≤ 60000) (l : List HProp) :
 Fc prog E 33 [.pointer (some ⟨b, 0, none⟩), .int .i64 (i : Int), .string k].toArray (baseM b lg B :: l) (fun v l' => v = .int .i64 0 ∧ l' = baseM b lg (B.del i R k) :: l) := by
 refine Fc.base fun sp sc ka kc ma mc ta tc => Vw (p := [stM ma B.shs.length mc B.meant]) (Ji zpk Jj) (Fc.stAt hi fun bs bi R' m hbn hMn hb hR' hm => Fc.eqs ?_)
 obtain rfl : R = R' := Option.some.inj (hR.symm.trans hR')
 have hkm := mapsV_at hb
 have hlk := look_rget hm hs k
 rw [Option.isSome_iff_ne_none.2 hv] at hlk
 refine Fc.fact (fun w s => Vu (s.pick Jm)) fun om => ?_
 obtain ⟨gm, rfl⟩ := om.at_.resolve_right fun ⟨h0, _⟩ => by have := om.le; omega
 obtain ⟨T, hT2⟩ : ∃ T, B.turned.length = T := ⟨_, rfl⟩
 rw [hT2] at ht ⊢
 refine Va (c := ?codeC) Tryz.func33 ?hb Tryz.ntmps33 ?hl ?_
 case hb => exact rfl
 case hl => exact rfl
 refine Jh (Je (Jb (Jf rfl) U U U ?_))
 refine Jg (Ja (Jh (Jh (Je (Jb (Jd rfl) U U U (Jb (Jd rfl) U U U ?_))))))
 refine Jl rfl (Jw e70 U U (Vw (Ji zpk Jj) (check_ok E b B.shs.length _ sp sc _ _ _ i hi _ (by omega))) ?_)
 rintro _ _ ⟨rfl, rfl⟩
 refine Jb (Jf rfl) U U U ?_
 refine Jg (Ja (Jh (Je (Jb (Jd rfl) U U U (Jb (y_neq U U) U U U ?_)))))
 refine Jg (Ja ?_)
 refine Vk rfl zbl ?_
 refine Vd (Ja (Jh (Jh (Je (Jb (Jd rfl) U U U ?_)))))
 refine Jb znc U U U ?_
 refine Jb (Jk hT U U U U U U) U U U ?_
 refine Jb (Jo hT U U U zrd) U U U ?_
 refine Jb (Jd rfl) U U U ?_
 refine Jb (Jn hT U U U U U zix zix) U U U ?_
 refine Jb (Jo hT U U U (Rd1.elem (RdN.own zpk) hkm)) U U U ?_
 refine Jb (Jd rfl) U U U ?_
 refine Jb ((y_lookup (a := k) hT U U U U (keyStr hT U U) U U U trivial zpk).cast hlk) U U U ?_
 refine Jb (Jd rfl) U U U (Jb (Vg U U) U U U (Jb (Vg U U) U U U (Jb (Jf rfl) U U U (Jb (Jf rfl) U U U ?_))))
 refine Jg (Ja (Jh (Je (Jb (Jd rfl) U U U (Jb (y_not rfl) U U U ?_)))))
 refine Jg (Ja ?_)
 refine Vk rfl zbl ?_
 refine Vd (Ja (Jh (Jh (Je (Jb (Jd rfl) U U U ?_)))))
 refine Jb znc U U U ?_
 refine Jb (Jk hT U U U U U U) U U U ?_
 refine Jb (Jo hT U U U zrd) U U U ?_
 refine Jb (Vf hT U U U) U U U (Jb (y_eql U U) U U U ?_)
 refine Jg (Ja ?_)
 refine Vk rfl zbl ?_
 refine Vd (Ja (Jh (Je (Jb (Jd rfl) U U U ?_))))
 refine Jb znc U U U ?_
 refine Jb (Jk hT U U U U U U) U U U ?_
 refine Jb (Jo hT U U U zrd) U U U ?_
 refine Jb (Jd rfl) U U U ?_
 refine Jb (Jn hT U U U U U zix zix) U U U ?_
 refine Jb (Jo hT U U U (Rd1.elem (RdN.own zpk) hkm)) U U U ?_
 refine Jb (Jd rfl) U U U ?_
 refine Jl rfl (l_delete0 (a := k) hT U U (keyStr hT U U) U U U trivial zpk ?_)
 refine Jg (Ja (Jh (Je (Jb (Jd rfl) U U U (Jb (Jd rfl) U U U ?_)))))
 refine Jb znc U U U ?_
 refine Jb (Jk hT U U U U U U) U U U ?_
 refine Jb (Jo hT U U U zrd) U U U ?_
 refine Jb (Jd rfl) U U U (Jb (Jd rfl) U U U ?_)
 refine Jb (y_build (cs := [_, _, _, _]) hT U U U U U U ⟨⟨zln, Nat.le_of_ble_eq_true rfl⟩, ⟨⟨zln, Nat.le_of_ble_eq_true rfl⟩, trivial⟩⟩ rfl) U U U ?_
 refine Jl rfl (l_buildSliceP (cs := chC ⟨false, i, k, ⟨#[]⟩⟩) hT U U U U U U U (fill_one U U) rfl (fun b9 => ?_))
 refine Jl rfl (l_append hT U U U U U U U U zpk zrdn rfl (by intro u hu; simp [chC] at hu; rcases hu with rfl | rfl | rfl | rfl <;> rfl) (by rw [show i168.bytes = 48 from rfl]; omega) (by omega) rfl (fun na nc hnc => ?_))
 refine Jb znc U U U ?_
 refine Jb (Jk hT U U U U U U) U U U ?_
 refine Jl rfl (Vs hT U U U U U zpk zix ?_)
 refine Jg (Ja (Jh (Je (Jb (Jf rfl) U U U ?_))))
 refine Jg (Ja (Vn ?_))
 refine Vi (.inl rfl) U U zrv ?_
 refine ⟨rfl, fun w q => ?_⟩
 rw [mdel_kvT] at q
 have q1 := st_back hbn hMn hb hi (rdel_perm hm hs k) (q.sup (p := mapA Value.string (fun _ => True) bi (kvT (rdel m k)) :: own 147 1 (.slice (some ⟨gm, 0, none⟩) B.shs.length mc) B.shs.length (mapsV bs) :: tabs (bs.eraseIdx i) (B.meant.eraseIdx i) :: row b 139 _ :: own 71 3 (.slice sp B.shs.length sc) B.shs.length (B.shs.flatMap shC) :: stM ka B.shs.length kc B.kept :: own 168 4 (.slice na (T + 1) nc) (T + 1) (B.turned.flatMap chC ++ chC ⟨false, i, k, ⟨#[]⟩⟩) :: l) zsup)
 refine base_shut (B := B.del i R k) (t := T + 1) (sp := sp) (sc := sc) (ka := ka) (kc := kc) (ma := some ⟨gm, 0, none⟩) (mc := mc) (ta := na) (tc := nc) rfl (by rw [Bs.del, List.length_append, hT2]; rfl) ?_
 have e : (B.del i R k).turned.flatMap chC = B.turned.flatMap chC ++ chC ⟨false, i, k, ⟨#[]⟩⟩ := by simp [Bs.del]
 rw [e]
 exact q1.sup zsup
theorem put_spec (b lg : Nat) (B : Bs) (i : Nat) (h : Shp) (R : List Rw) (k v : ByteArray) (p : Option Addr) (cap : Nat) (hn : B.shs.length ≤ 8) (hi : i < B.shs.length) (hsh : B.shs[i]? = some h) (hR : B.meant[i]? = some R) (hs : Srt R) (hk : k.size ≤ 9000000) (_ : v.size ≤ 9000000) (ht : B.turned.length ≤ 60000) (l : List HProp) (hin : InL l p v.size cap (ints .u8 (bytesS v))) :
 Fc prog E 32 [.pointer (some ⟨b, 0, none⟩), .int .i64 (i : Int), .string k, .slice p v.size cap].toArray (baseM b lg B :: l) (fun u l' => u = .int .i64 (putE h R k v) ∧ l' = baseM b lg (if putE h R k v = 0 then B.put i R k v else B) :: l) := by
 refine Fc.base fun sp sc ka kc ma mc ta tc => Vw (p := [stM ma B.shs.length mc B.meant]) (Ji zpk Jj) (Fc.stAt hi fun bs bi R' m hbn hMn hb hR' hm => Fc.eqs ?_)
 obtain rfl : R = R' := Option.some.inj (hR.symm.trans hR')
 have hkm := mapsV_at hb
 obtain ⟨th, hth⟩ : ∃ th, (rget R k).isSome = th := ⟨_, rfl⟩
 have hlk := look_rget hm hs k
 rw [hth] at hlk
 have hml : (kvT m).length = R.length := by rw [kvT_length, hm.length_eq]
 refine Fc.fact (fun w s => Vu (s.pick Jm)) fun om => ?_
 obtain ⟨gm, rfl⟩ := om.at_.resolve_right fun ⟨h0, _⟩ => by have := om.le; omega
 refine Fc.fact (fun w s => Vu (s.pick (A := own 71 3 (.slice sp B.shs.length sc) B.shs.length (B.shs.flatMap shC)) zpk)) fun os => ?_
 obtain ⟨gs, rfl⟩ := os.at_.resolve_right fun ⟨h0, _⟩ => by have := os.le; omega
 obtain ⟨T, hT2⟩ : ∃ T, B.turned.length = T := ⟨_, rfl⟩
 obtain ⟨n, hn2⟩ : ∃ n, B.shs.length = n := ⟨_, rfl⟩
 rw [hT2] at ht ⊢
 rw [hn2] at hn hi hbn hMn ⊢
 obtain ⟨hrw, hky, hvl⟩ := h
 have hq1 : Shp.rows ⟨hrw, hky, hvl⟩ = hrw := rfl
 have hq2 : Shp.key ⟨hrw, hky, hvl⟩ = hky := rfl
 have hq3 : Shp.value ⟨hrw, hky, hvl⟩ = hvl := rfl
 obtain ⟨pe, hpe⟩ : ∃ pe, putE ⟨hrw, hky, hvl⟩ R k v = pe := ⟨_, rfl⟩
 rw [hpe]
 refine Va (c := ?codeC) Tryz.func32 ?hb Tryz.ntmps32 ?hl ?_
 case hb => exact rfl
 case hl => exact rfl
 refine Jh (Je (Jb (Jf rfl) U U U ?_))
 refine Jg (Ja (Jh (Jh (Je (Jb (Jd rfl) U U U (Jb (Jd rfl) U U U ?_))))))
 refine Jl rfl (Jw e70 U U (Vw (Ji zpk Jj) (check_ok E b n _ (some ⟨gs, 0, none⟩) sc _ _ _ i hi _ (by omega))) ?_)
 rintro _ _ ⟨rfl, rfl⟩
 refine Jb (Jf rfl) U U U ?_
 refine Jg (Ja (Jh (Je (Jb (Jd rfl) U U U (Jb (y_neq U U) U U U ?_)))))
 refine Jg (Ja ?_)
 refine Vk rfl zbl ?_
 refine Vd (Ja (Jh ?_))
 refine Vz _ _ [(0, .q), (1, .q), (2, .q), (3, .q), (4, .q), (5, .q), (6, .q), (7, .q), (8, .q), (9, .q), (10, .q), (11, .q), (12, .q), (13, .q), (14, .n), (15, .q), (16, .l)] mixed (by kernel_rfl) (Jj) ?_
 refine zqm U U U U U ?_
 refine Jc U U U U (fun m => znc) ?_
 refine Jc U U U U (fun m => Jk hT U U U U U U) ?_
 refine Jc U U U U (fun m => Jo hT U U U zrda) ?_
 refine zqm U U U U U ?_
 refine Jc U U U U (fun m => Jn hT U U U U U zix zix) ?_
 refine Jc U U U U (fun m => Jo hT U U U (Rd1.elem (RdN.own zpk) hkm)) ?_
 refine zqm U U U U U ?_
 refine Jc U U U U (fun m => znc) ?_
 refine Jc U U U U (fun m => Jk hT U U U U U U) ?_
 refine Jc U U U U (fun m => Jo hT U U U zrda) ?_
 refine zqm U U U U U ?_
 refine Jc U U U U (fun m => Jn hT U U U U U zix zix) ?_
 refine Jc U U U U (fun m => We hT U U U ((RdN.own zpk).elem (fun x _ => shC_length x) hsh) rfl) ?_
 refine JM.lay U U U U (fun a hf => lays_alloc hT U U zcl) (fun b2 => ?_)
 refine Jc U U U U (fun m => Jf rfl) ?_
 refine Vm U U (fun fr => Vx hT U U U zln zoc zpk zln (⟨[_], (by (repeat (first | exact Jj | exact Vc | refine Ji Jm ?_))), ?_⟩))
 refine Vv (Ja (Jh (Je (Jb (Jd rfl) U U U (Jb (Jd rfl) U U U ?_)))))
 refine Jb ((y_lookup (a := k) hT U U U U (keyStr hT U U) U U U trivial zpk).cast hlk) U U U ?_
 refine Jb (Jd rfl) U U U (Jb (Vg U U) U U U (Jb (Vg U U) U U U (Jb (Jf rfl) U U U (Jb (Jf rfl) U U U ?_))))
 refine Jg (Ja (Jh (Ve (Jh (Je (Jb (Jd rfl) U U U (Jb (y_str_eq U U) U U U (Jb (Jf rfl) U U U ?_))))))))
 refine Jg (Ja ?_)
 first | apply Jx rfl | apply Vo rfl
 case' ht =>
  intro h
  try (first | exact zom | exact zho h | subst h)
  all_goals
   have hE : pe = 2 := by rw [← hpe]; exact if_pos rfl
   refine Jh (Je (Jb (Jf rfl) U U U ?_))
   refine Jg (Ja (Vn (Vj (Vb ?_))))
   refine Vi (.inl rfl) U U zrv ?_
   refine ⟨by rw [hE], fun w q => ?_⟩
   rw [hE]
   first
    | (have zz := hok0
       rw [if_pos rfl]
       rw [strOf_bytesS, mput_kvT] at q
       have q1 := st_back hbn hMn hb hi (rput_perm hm hs k v) (q.sup (p := mapA Value.string (fun _ => True) bi (kvT (rput m k v)) :: own 147 1 (.slice (some ⟨gm, 0, none⟩) n mc) n (mapsV bs) :: tabs (bs.eraseIdx i) (B.meant.eraseIdx i) :: row b 139 _ :: own 71 3 (.slice (some ⟨gs, 0, none⟩) n sc) n (B.shs.flatMap shC) :: stM ka n kc B.kept :: own 168 4 (.slice na (T + 1) nc) (T + 1) (B.turned.flatMap chC ++ chC ⟨true, i, k, v⟩) :: l) zsup)
       refine base_shut (B := B.put i R k v) (n := n) (t := T + 1) (sp := some ⟨gs, 0, none⟩) (sc := sc) (ka := ka) (kc := kc) (ma := some ⟨gm, 0, none⟩) (mc := mc) (ta := na) (tc := nc) hn2 (by rw [Bs.put, List.length_append, hT2]; rfl) ?_
       have e : (B.put i R k v).turned.flatMap chC = B.turned.flatMap chC ++ chC ⟨true, i, k, v⟩ := by simp [Bs.put]
       rw [e]
       exact q1.sup zsup)
    | (rw [if_neg (by decide)]
       have q1 := st_back hbn hMn hb hi hm (q.sup (p := mapA Value.string (fun _ => True) bi (kvT m) :: own 147 1 (.slice (some ⟨gm, 0, none⟩) n mc) n (mapsV bs) :: tabs (bs.eraseIdx i) (B.meant.eraseIdx i) :: row b 139 _ :: own 71 3 (.slice (some ⟨gs, 0, none⟩) n sc) n (B.shs.flatMap shC) :: stM ka n kc B.kept :: own 168 4 (.slice ta T tc) T (B.turned.flatMap chC) :: l) zsup)
       rw [set_same hR] at q1
       exact base_shut (sp := some ⟨gs, 0, none⟩) (sc := sc) (ka := ka) (kc := kc) (ma := some ⟨gm, 0, none⟩) (mc := mc) (ta := ta) (tc := tc) hn2 hT2 (q1.sup zsup))
 case' hf =>
  intro h
  try (first | exact zom | exact zho h | subst h)
  all_goals
   have hkne : ¬ k.size = 0 := fun e => h (by rw [← strOf_bytesS k, bytesS_nil e]; rfl)
   refine Jh (Je (Jb (Jd rfl) U U U (Jb (y_len_string hT U U U) U U U (Jb (Jk hT U U U U U U) U U U ?_))))
   refine Jb (Jo hT U U U zrd) U U U ?_
   refine Jb (y_gtr U U) U U U (Jb (Jd rfl) U U U ?_)
   all_goals (first | (refine Vh U U U (fun h => ?_) (fun h => ?_) <;> try (first | (exfalso; omega) | exact absurd rfl h)) | (refine Vr U U U (fun h => ?_) (fun h => ?_) <;> try (first | cases h | (exfalso; simp at h; done))) | skip)
   all_goals (first | refine Js U U U U U U ?_ | refine Jp U U U U U ?_ | refine Jt U U U (Jd rfl) U U ?_)
   all_goals (first | refine Js U U U U U U ?_ | refine Jp U U U U U ?_ | refine Jt U U U (Vf hT U U U) U U ?_)
   all_goals (first | refine Js U U U U U U ?_ | refine Jp U U U U U ?_ | refine Jt U U U (Jk hT U U U U U U) U U ?_)
   all_goals (first | refine Js U U U U U U ?_ | refine Jp U U U U U ?_ | refine Jt U U U (Jo hT U U U zrd) U U ?_)
   all_goals (first | refine Js U U U U U U ?_ | refine Jp U U U U U ?_ | refine Jt U U U (y_gtr U U) U U ?_)
   all_goals (refine Jb (Wb U U U) U U U ?_)
   all_goals (refine Jb (Jf rfl) U U U ?_)
   all_goals refine Jg (Ja ?_)
   all_goals
    first | apply Jx rfl | apply Vo rfl
    case' ht =>
     intro h
     try (first | exact zom | exact zho h | subst h)
     all_goals
      have hE : pe = 3 := by
       rw [← hpe, putE, if_neg hkne, if_pos]
       dsimp only
       omega
      refine Jh (Je (Jb (Jf rfl) U U U ?_))
      refine Jg (Ja (Vn (Vj (Vb ?_))))
      refine Vi (.inl rfl) U U zrv ?_
      refine ⟨by rw [hE], fun w q => ?_⟩
      rw [hE]
      first
       | (have zz := hok0
          rw [if_pos rfl]
          rw [strOf_bytesS, mput_kvT] at q
          have q1 := st_back hbn hMn hb hi (rput_perm hm hs k v) (q.sup (p := mapA Value.string (fun _ => True) bi (kvT (rput m k v)) :: own 147 1 (.slice (some ⟨gm, 0, none⟩) n mc) n (mapsV bs) :: tabs (bs.eraseIdx i) (B.meant.eraseIdx i) :: row b 139 _ :: own 71 3 (.slice (some ⟨gs, 0, none⟩) n sc) n (B.shs.flatMap shC) :: stM ka n kc B.kept :: own 168 4 (.slice na (T + 1) nc) (T + 1) (B.turned.flatMap chC ++ chC ⟨true, i, k, v⟩) :: l) zsup)
          refine base_shut (B := B.put i R k v) (n := n) (t := T + 1) (sp := some ⟨gs, 0, none⟩) (sc := sc) (ka := ka) (kc := kc) (ma := some ⟨gm, 0, none⟩) (mc := mc) (ta := na) (tc := nc) hn2 (by rw [Bs.put, List.length_append, hT2]; rfl) ?_
          have e : (B.put i R k v).turned.flatMap chC = B.turned.flatMap chC ++ chC ⟨true, i, k, v⟩ := by simp [Bs.put]
          rw [e]
          exact q1.sup zsup)
       | (rw [if_neg (by decide)]
          have q1 := st_back hbn hMn hb hi hm (q.sup (p := mapA Value.string (fun _ => True) bi (kvT m) :: own 147 1 (.slice (some ⟨gm, 0, none⟩) n mc) n (mapsV bs) :: tabs (bs.eraseIdx i) (B.meant.eraseIdx i) :: row b 139 _ :: own 71 3 (.slice (some ⟨gs, 0, none⟩) n sc) n (B.shs.flatMap shC) :: stM ka n kc B.kept :: own 168 4 (.slice ta T tc) T (B.turned.flatMap chC) :: l) zsup)
          rw [set_same hR] at q1
          exact base_shut (sp := some ⟨gs, 0, none⟩) (sc := sc) (ka := ka) (kc := kc) (ma := some ⟨gm, 0, none⟩) (mc := mc) (ta := ta) (tc := tc) hn2 hT2 (q1.sup zsup))
    case' hf =>
     intro h
     try (first | exact zom | exact zho h | subst h)
     all_goals
      have hnl : ¬ (hky < (k.size : Int) ∨ hvl < (v.size : Int)) := by omega
      cases th
      ·
       skip
       refine Jh (Jh (Je (Jb (Jd rfl) U U U (Jb (y_not rfl) U U U (Jb (Jd rfl) U U U ?_)))))
       all_goals (first | (refine Vh U U U (fun h => ?_) (fun h => ?_) <;> try (first | (exfalso; omega) | exact absurd rfl h)) | (refine Vr U U U (fun h => ?_) (fun h => ?_) <;> try (first | cases h | (exfalso; simp at h; done))) | skip)
       all_goals (first | refine Js U U U U U U ?_ | refine Jp U U U U U ?_ | refine Jt U U U (Jd rfl) U U ?_)
       all_goals (first | refine Js U U U U U U ?_ | refine Jp U U U U U ?_ | refine Jt U U U ((y_len_map hT U U U zpk).cast (u := .int .i64 (R.length : Int)) (by rw [hml])) U U ?_)
       all_goals (first | refine Js U U U U U U ?_ | refine Jp U U U U U ?_ | refine Jt U U U (Jk hT U U U U U U) U U ?_)
       all_goals (first | refine Js U U U U U U ?_ | refine Jp U U U U U ?_ | refine Jt U U U (Jo hT U U U zrd) U U ?_)
       all_goals (first | refine Js U U U U U U ?_ | refine Jp U U U U U ?_ | refine Jt U U U (y_eql U U) U U ?_)
       all_goals (refine Jb (Wb U U U) U U U ?_)
       all_goals (refine Jb (Jf rfl) U U U ?_)
       all_goals refine Jg (Ja ?_)
       all_goals
        first | apply Jx rfl | apply Vo rfl
        case' ht =>
         intro h
         try (first | exact zom | exact zho h | subst h)
         all_goals
          have hE : pe = 6 := by
           rw [← hpe, putE, if_neg hkne, if_neg hnl, if_pos]
           exact ⟨Option.isNone_iff_eq_none.1 (Option.isSome_eq_false_iff.1 hth), by first | assumption | rfl⟩
          refine Vd ?_
        case' hf =>
         intro h
         try (first | exact zom | exact zho h | subst h)
         all_goals
          have hE : pe = 0 := by
           rw [← hpe, putE, if_neg hkne, if_neg hnl, if_neg]
           rintro ⟨_, e⟩
           exact absurd e (by assumption)
          have hok0 : True := trivial
          refine Je (Jb (Jd rfl) U U U ?_)
          refine Jb znc U U U ?_
          refine Jb (Jk hT U U U U U U) U U U ?_
          refine Jb (Jo hT U U U zrd) U U U ?_
          refine Jb (Vf hT U U U) U U U (Jb (y_eql U U) U U U (Jb (Jf rfl) U U U ?_))
          refine Jg ?_
       all_goals refine Ja ?_
       all_goals
        first | apply Jx rfl | apply Vo rfl
        case' ht =>
         intro h
         try (first | exact zom | exact zho h | subst h)
         all_goals
          refine Jh (Je (Jb (Jf rfl) U U U ?_))
          refine Jg (Ja (Vn (Vj (Vb ?_))))
          refine Vi (.inl rfl) U U zrv ?_
          refine ⟨by rw [hE], fun w q => ?_⟩
          rw [hE]
          first
           | (have zz := hok0
              rw [if_pos rfl]
              rw [strOf_bytesS, mput_kvT] at q
              have q1 := st_back hbn hMn hb hi (rput_perm hm hs k v) (q.sup (p := mapA Value.string (fun _ => True) bi (kvT (rput m k v)) :: own 147 1 (.slice (some ⟨gm, 0, none⟩) n mc) n (mapsV bs) :: tabs (bs.eraseIdx i) (B.meant.eraseIdx i) :: row b 139 _ :: own 71 3 (.slice (some ⟨gs, 0, none⟩) n sc) n (B.shs.flatMap shC) :: stM ka n kc B.kept :: own 168 4 (.slice na (T + 1) nc) (T + 1) (B.turned.flatMap chC ++ chC ⟨true, i, k, v⟩) :: l) zsup)
              refine base_shut (B := B.put i R k v) (n := n) (t := T + 1) (sp := some ⟨gs, 0, none⟩) (sc := sc) (ka := ka) (kc := kc) (ma := some ⟨gm, 0, none⟩) (mc := mc) (ta := na) (tc := nc) hn2 (by rw [Bs.put, List.length_append, hT2]; rfl) ?_
              have e : (B.put i R k v).turned.flatMap chC = B.turned.flatMap chC ++ chC ⟨true, i, k, v⟩ := by simp [Bs.put]
              rw [e]
              exact q1.sup zsup)
           | (rw [if_neg (by decide)]
              have q1 := st_back hbn hMn hb hi hm (q.sup (p := mapA Value.string (fun _ => True) bi (kvT m) :: own 147 1 (.slice (some ⟨gm, 0, none⟩) n mc) n (mapsV bs) :: tabs (bs.eraseIdx i) (B.meant.eraseIdx i) :: row b 139 _ :: own 71 3 (.slice (some ⟨gs, 0, none⟩) n sc) n (B.shs.flatMap shC) :: stM ka n kc B.kept :: own 168 4 (.slice ta T tc) T (B.turned.flatMap chC) :: l) zsup)
              rw [set_same hR] at q1
              exact base_shut (sp := some ⟨gs, 0, none⟩) (sc := sc) (ka := ka) (kc := kc) (ma := some ⟨gm, 0, none⟩) (mc := mc) (ta := ta) (tc := tc) hn2 hT2 (q1.sup zsup))
        case' hf =>
         intro h
         try (first | exact zom | exact zho h | subst h)
         all_goals
          refine Vd ?_
       all_goals
        refine Ju (Ja (Jh (Je (Jb (Jd rfl) U U U (Jb (Jd rfl) U U U (Jb (Jd rfl) U U U ?_))))))
        refine Jb (y_convStringL (xs := bytesS v) hT U U U U U U U zinl (bytesS_length v)) U U U ?_
        refine Jl rfl (l_mapUpdate (a := k) hT U U (keyStr hT U U) U U U U trivial zpk ?_)
        refine Jg (Ja (Jh ?_))
        refine Vz _ _ [(0, .q), (1, .q), (2, .q), (3, .q), (5, .q), (6, .q), (7, .q), (8, .q), (9, .q), (4, .e), (10, .n), (11, .l), (12, .q), (13, .q), (14, .l)] mixed (by kernel_rfl) (Ji (Jz (Jz Jm)) (Ji (Jz (Jz (Jz (Jz (Jz (Jz Jm)))))) (Jj))) ?_
        refine zqm U U U U U (zqm U U U U U ?_)
        refine Jc U U U U (fun m => znc) ?_
        refine Jc U U U U (fun m => Jk hT U U U U U U) (zqm U U U U U (zqm U U U U U (zqm U U U U U ?_)))
        refine Jc U U U U (fun m => y_convStringL (xs := bytesS v) hT U U U U U U U zinl (bytesS_length v)) ?_
        refine Jc U U U U (fun m => y_build (cs := [_, _, _, _]) hT U U U U U U ⟨⟨zln, Nat.le_of_ble_eq_true rfl⟩, ⟨⟨zln, Nat.le_of_ble_eq_true rfl⟩, ⟨⟨zln, Nat.le_of_ble_eq_true rfl⟩, ⟨⟨zln, Nat.le_of_ble_eq_true rfl⟩, trivial⟩⟩⟩⟩ rfl) ?_
        refine Wh U U U U (fun fr => Jo hT U U U zrd) ?_
        refine JM.lay U U U U (fun a hf => lays_buildSlice (cs := chC ⟨true, i, k, v⟩) hT U U U U hf U U U (fill_one (by rw [strOf_bytesS]; rfl) rfl)) (fun b9 => ?_)
        refine Vm U U (fun fr => l_append hT U U U U U U U U zpk zrdn rfl (by intro u hu; simp [chC] at hu; rcases hu with rfl | rfl | rfl | rfl <;> rfl) (by rw [show i168.bytes = 48 from rfl]; omega) (by omega) rfl (fun na nc hnc => ⟨[_, _, _], (by (repeat (first | exact Jj | exact Vc | refine Ji Jm ?_))), ?_⟩))
        refine Jc U U U U (fun m => znc) ?_
        refine Jc U U U U (fun m => Jk hT U U U U U U) ?_
        refine Vm U U (fun fr => Vs hT U U U U U zpk zix (⟨[_, _, _], (by (repeat (first | exact Jj | exact Vc | refine Ji Jm ?_))), ?_⟩))
        refine Vv (Ja (Jh (Je (Jb (Jf rfl) U U U ?_))))
        refine Jg (Ja (Vn ?_))
        refine Vi (.inl rfl) U U zrv ?_
        refine ⟨by rw [hE], fun w q => ?_⟩
        rw [hE]
        first
         | (have zz := hok0
            rw [if_pos rfl]
            rw [strOf_bytesS, mput_kvT] at q
            have q1 := st_back hbn hMn hb hi (rput_perm hm hs k v) (q.sup (p := mapA Value.string (fun _ => True) bi (kvT (rput m k v)) :: own 147 1 (.slice (some ⟨gm, 0, none⟩) n mc) n (mapsV bs) :: tabs (bs.eraseIdx i) (B.meant.eraseIdx i) :: row b 139 _ :: own 71 3 (.slice (some ⟨gs, 0, none⟩) n sc) n (B.shs.flatMap shC) :: stM ka n kc B.kept :: own 168 4 (.slice na (T + 1) nc) (T + 1) (B.turned.flatMap chC ++ chC ⟨true, i, k, v⟩) :: l) zsup)
            refine base_shut (B := B.put i R k v) (n := n) (t := T + 1) (sp := some ⟨gs, 0, none⟩) (sc := sc) (ka := ka) (kc := kc) (ma := some ⟨gm, 0, none⟩) (mc := mc) (ta := na) (tc := nc) hn2 (by rw [Bs.put, List.length_append, hT2]; rfl) ?_
            have e : (B.put i R k v).turned.flatMap chC = B.turned.flatMap chC ++ chC ⟨true, i, k, v⟩ := by simp [Bs.put]
            rw [e]
            exact q1.sup zsup)
         | (rw [if_neg (by decide)]
            have q1 := st_back hbn hMn hb hi hm (q.sup (p := mapA Value.string (fun _ => True) bi (kvT m) :: own 147 1 (.slice (some ⟨gm, 0, none⟩) n mc) n (mapsV bs) :: tabs (bs.eraseIdx i) (B.meant.eraseIdx i) :: row b 139 _ :: own 71 3 (.slice (some ⟨gs, 0, none⟩) n sc) n (B.shs.flatMap shC) :: stM ka n kc B.kept :: own 168 4 (.slice ta T tc) T (B.turned.flatMap chC) :: l) zsup)
            rw [set_same hR] at q1
            exact base_shut (sp := some ⟨gs, 0, none⟩) (sc := sc) (ka := ka) (kc := kc) (ma := some ⟨gm, 0, none⟩) (mc := mc) (ta := ta) (tc := tc) hn2 hT2 (q1.sup zsup))
      ·
       skip
       refine Jh (Jh (Je (Jb (Jd rfl) U U U (Jb (y_not rfl) U U U (Jb (Jd rfl) U U U ?_)))))
       all_goals (first | (refine Vh U U U (fun h => ?_) (fun h => ?_) <;> try (first | (exfalso; omega) | exact absurd rfl h)) | (refine Vr U U U (fun h => ?_) (fun h => ?_) <;> try (first | cases h | (exfalso; simp at h; done))) | skip)
       all_goals (first | refine Js U U U U U U ?_ | refine Jp U U U U U ?_ | refine Jt U U U (Jd rfl) U U ?_)
       all_goals (first | refine Js U U U U U U ?_ | refine Jp U U U U U ?_ | refine Jt U U U ((y_len_map hT U U U zpk).cast (u := .int .i64 (R.length : Int)) (by rw [hml])) U U ?_)
       all_goals (first | refine Js U U U U U U ?_ | refine Jp U U U U U ?_ | refine Jt U U U (Jk hT U U U U U U) U U ?_)
       all_goals (first | refine Js U U U U U U ?_ | refine Jp U U U U U ?_ | refine Jt U U U (Jo hT U U U zrd) U U ?_)
       all_goals (first | refine Js U U U U U U ?_ | refine Jp U U U U U ?_ | refine Jt U U U (y_eql U U) U U ?_)
       all_goals (refine Jb (Wb U U U) U U U ?_)
       all_goals (refine Jb (Jf rfl) U U U ?_)
       all_goals refine Jg (Ja ?_)
       all_goals
        first | apply Jx rfl | apply Vo rfl
        case' ht =>
         intro h
         try (first | exact zom | exact zho h | subst h)
         all_goals
          refine Vd ?_
        case' hf =>
         intro h
         try (first | exact zom | exact zho h | subst h)
         all_goals
          have hE : pe = 0 := by
           rw [← hpe, putE, if_neg hkne, if_neg hnl, if_neg]
           rintro ⟨e, _⟩
           rw [e] at hth
           cases hth
          have hok0 : True := trivial
          refine Je (Jb (Jd rfl) U U U ?_)
          refine Jb znc U U U ?_
          refine Jb (Jk hT U U U U U U) U U U ?_
          refine Jb (Jo hT U U U zrd) U U U ?_
          refine Jb (Vf hT U U U) U U U (Jb (y_eql U U) U U U (Jb (Jf rfl) U U U ?_))
          refine Jg ?_
       all_goals refine Ja ?_
       all_goals
        first | apply Jx rfl | apply Vo rfl
        case' ht =>
         intro h
         try (first | exact zom | exact zho h | subst h)
         all_goals
          refine Jh (Je (Jb (Jf rfl) U U U ?_))
          refine Jg (Ja (Vn (Vj (Vb ?_))))
          refine Vi (.inl rfl) U U zrv ?_
          refine ⟨by rw [hE], fun w q => ?_⟩
          rw [hE]
          first
           | (have zz := hok0
              rw [if_pos rfl]
              rw [strOf_bytesS, mput_kvT] at q
              have q1 := st_back hbn hMn hb hi (rput_perm hm hs k v) (q.sup (p := mapA Value.string (fun _ => True) bi (kvT (rput m k v)) :: own 147 1 (.slice (some ⟨gm, 0, none⟩) n mc) n (mapsV bs) :: tabs (bs.eraseIdx i) (B.meant.eraseIdx i) :: row b 139 _ :: own 71 3 (.slice (some ⟨gs, 0, none⟩) n sc) n (B.shs.flatMap shC) :: stM ka n kc B.kept :: own 168 4 (.slice na (T + 1) nc) (T + 1) (B.turned.flatMap chC ++ chC ⟨true, i, k, v⟩) :: l) zsup)
              refine base_shut (B := B.put i R k v) (n := n) (t := T + 1) (sp := some ⟨gs, 0, none⟩) (sc := sc) (ka := ka) (kc := kc) (ma := some ⟨gm, 0, none⟩) (mc := mc) (ta := na) (tc := nc) hn2 (by rw [Bs.put, List.length_append, hT2]; rfl) ?_
              have e : (B.put i R k v).turned.flatMap chC = B.turned.flatMap chC ++ chC ⟨true, i, k, v⟩ := by simp [Bs.put]
              rw [e]
              exact q1.sup zsup)
           | (rw [if_neg (by decide)]
              have q1 := st_back hbn hMn hb hi hm (q.sup (p := mapA Value.string (fun _ => True) bi (kvT m) :: own 147 1 (.slice (some ⟨gm, 0, none⟩) n mc) n (mapsV bs) :: tabs (bs.eraseIdx i) (B.meant.eraseIdx i) :: row b 139 _ :: own 71 3 (.slice (some ⟨gs, 0, none⟩) n sc) n (B.shs.flatMap shC) :: stM ka n kc B.kept :: own 168 4 (.slice ta T tc) T (B.turned.flatMap chC) :: l) zsup)
              rw [set_same hR] at q1
              exact base_shut (sp := some ⟨gs, 0, none⟩) (sc := sc) (ka := ka) (kc := kc) (ma := some ⟨gm, 0, none⟩) (mc := mc) (ta := ta) (tc := tc) hn2 hT2 (q1.sup zsup))
        case' hf =>
         intro h
         try (first | exact zom | exact zho h | subst h)
         all_goals
          refine Vd ?_
       all_goals
        refine Ju (Ja (Jh (Je (Jb (Jd rfl) U U U (Jb (Jd rfl) U U U (Jb (Jd rfl) U U U ?_))))))
        refine Jb (y_convStringL (xs := bytesS v) hT U U U U U U U zinl (bytesS_length v)) U U U ?_
        refine Jl rfl (l_mapUpdate (a := k) hT U U (keyStr hT U U) U U U U trivial zpk ?_)
        refine Jg (Ja (Jh ?_))
        refine Vz _ _ [(0, .q), (1, .q), (2, .q), (3, .q), (5, .q), (6, .q), (7, .q), (8, .q), (9, .q), (4, .e), (10, .n), (11, .l), (12, .q), (13, .q), (14, .l)] mixed (by kernel_rfl) (Ji (Jz (Jz Jm)) (Ji (Jz (Jz (Jz (Jz (Jz (Jz Jm)))))) (Jj))) ?_
        refine zqm U U U U U (zqm U U U U U ?_)
        refine Jc U U U U (fun m => znc) ?_
        refine Jc U U U U (fun m => Jk hT U U U U U U) (zqm U U U U U (zqm U U U U U (zqm U U U U U ?_)))
        refine Jc U U U U (fun m => y_convStringL (xs := bytesS v) hT U U U U U U U zinl (bytesS_length v)) ?_
        refine Jc U U U U (fun m => y_build (cs := [_, _, _, _]) hT U U U U U U ⟨⟨zln, Nat.le_of_ble_eq_true rfl⟩, ⟨⟨zln, Nat.le_of_ble_eq_true rfl⟩, ⟨⟨zln, Nat.le_of_ble_eq_true rfl⟩, ⟨⟨zln, Nat.le_of_ble_eq_true rfl⟩, trivial⟩⟩⟩⟩ rfl) ?_
        refine Wh U U U U (fun fr => Jo hT U U U zrd) ?_
        refine JM.lay U U U U (fun a hf => lays_buildSlice (cs := chC ⟨true, i, k, v⟩) hT U U U U hf U U U (fill_one (by rw [strOf_bytesS]; rfl) rfl)) (fun b9 => ?_)
        refine Vm U U (fun fr => l_append hT U U U U U U U U zpk zrdn rfl (by intro u hu; simp [chC] at hu; rcases hu with rfl | rfl | rfl | rfl <;> rfl) (by rw [show i168.bytes = 48 from rfl]; omega) (by omega) rfl (fun na nc hnc => ⟨[_, _, _], (by (repeat (first | exact Jj | exact Vc | refine Ji Jm ?_))), ?_⟩))
        refine Jc U U U U (fun m => znc) ?_
        refine Jc U U U U (fun m => Jk hT U U U U U U) ?_
        refine Vm U U (fun fr => Vs hT U U U U U zpk zix (⟨[_, _, _], (by (repeat (first | exact Jj | exact Vc | refine Ji Jm ?_))), ?_⟩))
        refine Vv (Ja (Jh (Je (Jb (Jf rfl) U U U ?_))))
        refine Jg (Ja (Vn ?_))
        refine Vi (.inl rfl) U U zrv ?_
        refine ⟨by rw [hE], fun w q => ?_⟩
        rw [hE]
        first
         | (have zz := hok0
            rw [if_pos rfl]
            rw [strOf_bytesS, mput_kvT] at q
            have q1 := st_back hbn hMn hb hi (rput_perm hm hs k v) (q.sup (p := mapA Value.string (fun _ => True) bi (kvT (rput m k v)) :: own 147 1 (.slice (some ⟨gm, 0, none⟩) n mc) n (mapsV bs) :: tabs (bs.eraseIdx i) (B.meant.eraseIdx i) :: row b 139 _ :: own 71 3 (.slice (some ⟨gs, 0, none⟩) n sc) n (B.shs.flatMap shC) :: stM ka n kc B.kept :: own 168 4 (.slice na (T + 1) nc) (T + 1) (B.turned.flatMap chC ++ chC ⟨true, i, k, v⟩) :: l) zsup)
            refine base_shut (B := B.put i R k v) (n := n) (t := T + 1) (sp := some ⟨gs, 0, none⟩) (sc := sc) (ka := ka) (kc := kc) (ma := some ⟨gm, 0, none⟩) (mc := mc) (ta := na) (tc := nc) hn2 (by rw [Bs.put, List.length_append, hT2]; rfl) ?_
            have e : (B.put i R k v).turned.flatMap chC = B.turned.flatMap chC ++ chC ⟨true, i, k, v⟩ := by simp [Bs.put]
            rw [e]
            exact q1.sup zsup)
         | (rw [if_neg (by decide)]
            have q1 := st_back hbn hMn hb hi hm (q.sup (p := mapA Value.string (fun _ => True) bi (kvT m) :: own 147 1 (.slice (some ⟨gm, 0, none⟩) n mc) n (mapsV bs) :: tabs (bs.eraseIdx i) (B.meant.eraseIdx i) :: row b 139 _ :: own 71 3 (.slice (some ⟨gs, 0, none⟩) n sc) n (B.shs.flatMap shC) :: stM ka n kc B.kept :: own 168 4 (.slice ta T tc) T (B.turned.flatMap chC) :: l) zsup)
            rw [set_same hR] at q1
            exact base_shut (sp := some ⟨gs, 0, none⟩) (sc := sc) (ka := ka) (kc := kc) (ma := some ⟨gm, 0, none⟩) (mc := mc) (ta := ta) (tc := tc) hn2 hT2 (q1.sup zsup))
end
end
section
open Go Go.SL
section
attribute [local irreducible] J JL JE JM LS Y Fc RV Code.wp wpList Code.wpIn wpListIn
attribute [local irreducible] Yc ltS
variable (E : World)
theorem commit_clean (b lg : Nat) (B : Bs) (ht : B.turned = []) (l : List HProp) : Fc prog E 35 [.pointer (some ⟨b, 0, none⟩)].toArray (baseM b lg B :: l) (fun v l' => v = .int .i64 0 ∧ l' = baseM b lg B :: l) := by
 refine Fc.base fun sp sc ka kc ma mc ta tc => Fc.eqs ?_
 obtain ⟨T, hT2⟩ : ∃ T, B.turned.length = T := ⟨_, rfl⟩
 have hT0 : T = 0 := by rw [← hT2, ht]; rfl
 rw [hT2]
 refine Va (c := ?codeC) Tryz.func35 ?hb Tryz.ntmps35 ?hl ?_
 case hb => exact rfl
 case hl => exact rfl
 refine Jh (Je (Jb (Jf rfl) U U U ?_))
 refine Jg (Ja (Jh (Ve (Jh (Je (Jb (Jd rfl) U U U (Jb (Wc hT U U U U) U U U (Jb (Jf rfl) U U U ?_))))))))
 refine Jg (Ja ?_)
 refine Vk rfl zbl ?_
 refine Jh (Je (Jb (Jd rfl) U U U ?_))
 refine Jb znc U U U ?_
 refine Jb (Jk hT U U U U U U) U U U ?_
 refine Jb (Jo hT U U U zrd) U U U ?_
 refine Jb (Vf hT U U U) U U U (Jb (y_eql U U) U U U (Jb (Jf rfl) U U U ?_))
 refine Jg (Ja ?_)
 refine J.cond_t rfl zbl ?_
 refine Jh (Je (Jb (Jf rfl) U U U ?_))
 refine Jg (Ja (Vn (Vj (Vb ?_))))
 refine Vi (.inl rfl) U U zrv ?_
 exact ⟨rfl, fun w q => base_shut rfl hT2 q⟩
def Bs.done (B : Bs) : Bs := { B with kept := B.meant, turned := [] }
theorem commit_one (b lg st d : Nat) (B : Bs) (S : Sb) (D X : Dk) (L La : Lg) (e : Int) (hn : B.shs.length ≤ 8) (ht : B.turned ≠ []) (h9 : B.turned.length ≤ 900) (hc : ∀ c ∈ B.turned, ChOk c) (he : e ≠ 6)
 (capp : ∀ (p : Option Addr) (c : Nat) l, InL l p (txB B.turned).length c (ints .u8 (txB B.turned)) → Fc prog E 84 [.pointer (some ⟨lg, 0, none⟩), .slice p (txB B.turned).length c].toArray (logm lg st L :: row st 205 (scells S d) :: disk d D :: l) (fun v l' => v = .int .i64 e ∧ l' = logm lg st La :: row st 205 (scells S d) :: disk d X :: l)) (l : List HProp) :
 Fc prog E 35 [.pointer (some ⟨b, 0, none⟩)].toArray (baseM b lg B :: logm lg st L :: row st 205 (scells S d) :: disk d D :: l)
  (fun v l' => v = .int .i64 e ∧ l' = baseM b lg (if e = 0 then B.done else B) :: logm lg st La :: row st 205 (scells S d) :: disk d X :: l) := by
 refine Fc.base fun sp sc ka kc ma mc ta tc => Fc.eqs ?_
 obtain ⟨T, hT2⟩ : ∃ T, B.turned.length = T := ⟨_, rfl⟩
 have hT0 : ¬ T = 0 := fun e => ht (List.eq_nil_of_length_eq_zero (hT2.trans e))
 rw [hT2] at h9 ⊢
 have hb : decide (e = 6) = false := decide_eq_false he
 refine Va (c := ?codeC) Tryz.func35 ?hb Tryz.ntmps35 ?hl ?_
 case hb => exact rfl
 case hl => exact rfl
 refine Jh (Je (Jb (Jf rfl) U U U ?_))
 refine Jg (Ja (Jh (Ve (Jh (Je (Jb (Jd rfl) U U U (Jb (Wc hT U U U U) U U U (Jb (Jf rfl) U U U ?_))))))))
 refine Jg (Ja ?_)
 refine Vk rfl zbl ?_
 refine Jh (Je (Jb (Jd rfl) U U U ?_))
 refine Jb znc U U U ?_
 refine Jb (Jk hT U U U U U U) U U U ?_
 refine Jb (Jo hT U U U zrd) U U U ?_
 refine Jb (Vf hT U U U) U U U (Jb (y_eql U U) U U U (Jb (Jf rfl) U U U ?_))
 refine Jg (Ja ?_)
 refine Vk rfl zbl ?_
 refine Vd (Ju (Ja (Jh ?_)))
 refine Vz _ _ [(0, .q), (1, .q), (2, .q), (3, .q), (4, .q), (5, .q), (6, .q), (7, .q), (8, .l), (9, .l), (10, .q)] mixed (by kernel_rfl) (Ji (Jz (Jz (Jz (Jz Jm)))) (Ji (Jz (Jz (Jz (Jz Jm)))) (Ji (Jz (Jz (Jz (Jz Jm)))) (Ji (Jz (Jz (Jz (Jz Jm)))) (Jj))))) ?_
 refine zqm U U U U U ?_
 refine Jc U U U U (fun m => znc) ?_
 refine Jc U U U U (fun m => Jk hT U U U U U U) ?_
 refine Jc U U U U (fun m => Jo hT U U U zrda) ?_
 refine zqm U U U U U ?_
 refine Jc U U U U (fun m => znc) ?_
 refine Jc U U U U (fun m => Jk hT U U U U U U) ?_
 refine Jc U U U U (fun m => Jo hT U U U zrda) ?_
 refine Vm U U (fun fr => Jw e85 U U (Vw (Ji zpk Jj) (tx_spec E ta T tc B.turned hT2 h9 hc _)) ?_)
 rintro _ _ ⟨a1, c1, rfl, rfl⟩
 refine ⟨[_, _, _, _, _], (by (repeat (first | exact Jj | exact Vc | refine Ji Jm ?_))), ?_⟩
 refine Vm U U (fun fr => Jw e84 U U (Fc.fact (p := OwnAt a1 (txB B.turned).length c1 (ints .u8 (txB B.turned))) (fun w s => Vu (s.pick Jm)) fun ob => Vw (Ji zpk (Ji zpk (Ji zpk Jj))) (capp a1 c1 _ (ob.inl zpk))) ?_)
 rintro _ _ ⟨rfl, rfl⟩
 refine ⟨[_, _, _, _, _], (by (repeat (first | exact Jj | exact Vc | refine Ji Jm ?_))), ?_⟩
 refine Jc U U U U (fun m => Jf rfl) ?_
 refine Vv (Ja (Jh (Jh (Je (Jb (Jd rfl) U U U (Jb (y_eql U U) U U U ?_))))))
 refine Jg (Ja ?_)
 refine Vk rfl zbl ?_
 refine Vd (Ja (Jh (Jh (Je (Jb (Jd rfl) U U U (Jb (y_neq U U) U U U ?_))))))
 refine Jg (Ja ?_)
 first | apply Jx rfl | apply Vo rfl
 case' ht =>
  intro h
  try (first | exact zom | exact zho h | subst h)
  all_goals
   refine Jh (Je (Jb (Jd rfl) U U U (Jb (Jf rfl) U U U ?_)))
   refine Jg (Ja (Vn (Vb ?_)))
   refine Vi (.inl rfl) U U zrv ?_
   refine ⟨congrArg (Value.int .i64) (by omega), fun w q => ?_⟩
   first
    | (rw [if_neg h]
       exact base_shut (sp := sp) (sc := sc) (ka := ka) (kc := kc) (ma := ma) (mc := mc) (ta := ta) (tc := tc) rfl hT2 (q.sup zsup))
    | (rw [if_pos (show e = 0 by omega)]
       exact base_shut (B := B.done) (sp := sp) (sc := sc) (ka := a3) (kc := c3) (ma := ma) (mc := mc) (ta := none) (tc := 0) U U (Sat.sup (Sat.own_nil (e := 168) (size := 4) q) zsup))
 case' hf =>
  intro h
  try (first | exact zom | exact zho h | subst h)
  all_goals
   refine Vd ?_
 all_goals refine Ja ?_
 all_goals
  refine Jh (Je (Jb (Jd rfl) U U U (Jb (Jd rfl) U U U (Jb (Jd rfl) U U U ?_))))
  refine Jb znc U U U ?_
  refine Jb (Jk hT U U U U U U) U U U ?_
  refine Jb (Jo hT U U U zrd) U U U ?_
  refine Jl rfl (Jw e69 U U (Vw (Ji zpk Jj) (copied_spec E ma B.shs.length mc (by omega) B.meant _)) ?_)
  rintro _ _ ⟨a3, c3, rfl, rfl⟩
  refine Jb znc U U U ?_
  refine Jb (Jk hT U U U U U U) U U U ?_
  refine Jl rfl (Vs hT U U U U U zpk zix ?_)
  refine Jb znc U U U ?_
  refine Jb (Jk hT U U U U U U) U U U ?_
  refine Jl rfl (Vs hT U U U U U zpk zix ?_)
  refine Jg (Ja (Jh (Je (Jb (Jf rfl) U U U ?_))))
  refine Jg (Ja (Vn ?_))
  refine Vi (.inl rfl) U U zrv ?_
  refine ⟨congrArg (Value.int .i64) (by omega), fun w q => ?_⟩
  first
   | (rw [if_neg h]
      exact base_shut (sp := sp) (sc := sc) (ka := ka) (kc := kc) (ma := ma) (mc := mc) (ta := ta) (tc := tc) rfl hT2 (q.sup zsup))
   | (rw [if_pos (show e = 0 by omega)]
      exact base_shut (B := B.done) (sp := sp) (sc := sc) (ka := a3) (kc := c3) (ma := ma) (mc := mc) (ta := none) (tc := 0) U U (Sat.sup (Sat.own_nil (e := 168) (size := 4) q) zsup))
theorem commit_two {K : Nat} (hS : SortOk E K) (b lg st d : Nat) (B : Bs) (S Sa : Sb) (D D1 X : Dk) (L L1 La : Lg) (e : Int) (hn : B.shs.length ≤ 8) (ht : B.turned ≠ []) (h9 : B.turned.length ≤ 900) (hc : ∀ c ∈ B.turned, ChOk c) (hR : ∀ R ∈ B.meant, ROk R) (hK : ∀ R ∈ B.meant, R.length ≤ K)
 (capp : ∀ (p : Option Addr) (c : Nat) l, InL l p (txB B.turned).length c (ints .u8 (txB B.turned)) → Fc prog E 84 [.pointer (some ⟨lg, 0, none⟩), .slice p (txB B.turned).length c].toArray (logm lg st L :: row st 205 (scells S d) :: disk d D :: l) (fun v l' => v = .int .i64 6 ∧ l' = logm lg st L1 :: row st 205 (scells S d) :: disk d D1 :: l))
 (cck : ∀ (p : Option Addr) (c : Nat) l, InL l p (stB B.meant).length c (ints .u8 (stB B.meant)) → Fc prog E 86 [.pointer (some ⟨lg, 0, none⟩), .slice p (stB B.meant).length c].toArray (logm lg st L1 :: row st 205 (scells S d) :: disk d D1 :: l) (fun v l' => v = .int .i64 e ∧ l' = logm lg st La :: row st 205 (scells Sa d) :: disk d X :: l)) (l : List HProp) :
 Fc prog E 35 [.pointer (some ⟨b, 0, none⟩)].toArray (baseM b lg B :: logm lg st L :: row st 205 (scells S d) :: disk d D :: l)
  (fun v l' => v = .int .i64 e ∧ l' = baseM b lg (if e = 0 then B.done else B) :: logm lg st La :: row st 205 (scells Sa d) :: disk d X :: l) := by
 refine Fc.base fun sp sc ka kc ma mc ta tc => Fc.eqs ?_
 obtain ⟨T, hT2⟩ : ∃ T, B.turned.length = T := ⟨_, rfl⟩
 have hT0 : ¬ T = 0 := fun e => ht (List.eq_nil_of_length_eq_zero (hT2.trans e))
 rw [hT2] at h9 ⊢
 refine Va (c := ?codeC) Tryz.func35 ?hb Tryz.ntmps35 ?hl ?_
 case hb => exact rfl
 case hl => exact rfl
 refine Jh (Je (Jb (Jf rfl) U U U ?_))
 refine Jg (Ja (Jh (Ve (Jh (Je (Jb (Jd rfl) U U U (Jb (Wc hT U U U U) U U U (Jb (Jf rfl) U U U ?_))))))))
 refine Jg (Ja ?_)
 refine Vk rfl zbl ?_
 refine Jh (Je (Jb (Jd rfl) U U U ?_))
 refine Jb znc U U U ?_
 refine Jb (Jk hT U U U U U U) U U U ?_
 refine Jb (Jo hT U U U zrd) U U U ?_
 refine Jb (Vf hT U U U) U U U (Jb (y_eql U U) U U U (Jb (Jf rfl) U U U ?_))
 refine Jg (Ja ?_)
 refine Vk rfl zbl ?_
 refine Vd (Ju (Ja (Jh ?_)))
 refine Vz _ _ [(0, .q), (1, .q), (2, .q), (3, .q), (4, .q), (5, .q), (6, .q), (7, .q), (8, .l), (9, .l), (10, .q)] mixed (by kernel_rfl) (Ji (Jz (Jz (Jz (Jz Jm)))) (Ji (Jz (Jz (Jz (Jz Jm)))) (Ji (Jz (Jz (Jz (Jz Jm)))) (Ji (Jz (Jz (Jz (Jz Jm)))) (Jj))))) ?_
 refine zqm U U U U U ?_
 refine Jc U U U U (fun m => znc) ?_
 refine Jc U U U U (fun m => Jk hT U U U U U U) ?_
 refine Jc U U U U (fun m => Jo hT U U U zrda) ?_
 refine zqm U U U U U ?_
 refine Jc U U U U (fun m => znc) ?_
 refine Jc U U U U (fun m => Jk hT U U U U U U) ?_
 refine Jc U U U U (fun m => Jo hT U U U zrda) ?_
 refine Vm U U (fun fr => Jw e85 U U (Vw (Ji zpk Jj) (tx_spec E ta T tc B.turned hT2 h9 hc _)) ?_)
 rintro _ _ ⟨a1, c1, rfl, rfl⟩
 refine ⟨[_, _, _, _, _], (by (repeat (first | exact Jj | exact Vc | refine Ji Jm ?_))), ?_⟩
 refine Vm U U (fun fr => Jw e84 U U (Fc.fact (p := OwnAt a1 (txB B.turned).length c1 (ints .u8 (txB B.turned))) (fun w s => Vu (s.pick Jm)) fun ob => Vw (Ji zpk (Ji zpk (Ji zpk Jj))) (capp a1 c1 _ (ob.inl zpk))) ?_)
 rintro _ _ ⟨rfl, rfl⟩
 refine ⟨[_, _, _, _, _], (by (repeat (first | exact Jj | exact Vc | refine Ji Jm ?_))), ?_⟩
 refine Jc U U U U (fun m => Jf rfl) ?_
 refine Vv (Ja (Jh (Jh (Je (Jb (Jd rfl) U U U (Jb (y_eql U U) U U U ?_))))))
 refine Jg (Ja ?_)
 refine J.cond_t rfl zbl ?_
 refine J.pre (l' := stM ma B.shs.length mc B.meant :: logm lg st L1 :: row st 205 (scells S d) :: disk d D1 :: row b 139 [.pointer (some ⟨lg, 0, none⟩), .slice sp B.shs.length sc, .slice ka B.shs.length kc, .slice ma B.shs.length mc, .slice ta T tc] :: own 71 3 (.slice sp B.shs.length sc) B.shs.length (B.shs.flatMap shC) :: stM ka B.shs.length kc B.kept :: own 168 4 (.slice ta T tc) T (B.turned.flatMap chC) :: l) (fun w s => s.sup zsup) ?_
 refine Vz _ _ [(0, .q), (1, .q), (2, .q), (3, .q), (4, .q), (5, .q), (6, .q), (7, .q), (8, .l), (9, .l), (10, .q)] mixed (by kernel_rfl) (Ji (Jm) (Ji (Jm) (Ji (Jm) (Ji (Jm) (Jj))))) ?_
 refine zqm U U U U U ?_
 refine Jc U U U U (fun m => znc) ?_
 refine Jc U U U U (fun m => Jk hT U U U U U U) ?_
 refine Jc U U U U (fun m => Jo hT U U U zrda) ?_
 refine zqm U U U U U ?_
 refine Jc U U U U (fun m => znc) ?_
 refine Jc U U U U (fun m => Jk hT U U U U U U) ?_
 refine Jc U U U U (fun m => Jo hT U U U zrda) ?_
 refine Vm U U (fun fr => Jw e75 U U (Vw (Ji zpk Jj) (bytes_spec E hS ma B.shs.length mc hn B.meant hR hK _)) ?_)
 rintro _ _ ⟨a2, c2, rfl, rfl⟩
 refine ⟨[_, _, _, _, _], (by (repeat (first | exact Jj | exact Vc | refine Ji Jm ?_))), ?_⟩
 refine Vm U U (fun fr => Jw e86 U U (Fc.fact (p := OwnAt a2 (stB B.meant).length c2 (ints .u8 (stB B.meant))) (fun w s => Vu (s.pick Jm)) fun ob => Vw (Ji zpk (Ji zpk (Ji zpk Jj))) (cck a2 c2 _ (ob.inl zpk))) ?_)
 rintro _ _ ⟨rfl, rfl⟩
 refine ⟨[_, _, _, _, _], (by (repeat (first | exact Jj | exact Vc | refine Ji Jm ?_))), ?_⟩
 refine Jc U U U U (fun m => Jf rfl) ?_
 refine Vv (Ja (Jh (Jh (Je (Jb (Jd rfl) U U U (Jb (y_neq U U) U U U ?_))))))
 refine Jg (Ja ?_)
 first | apply Jx rfl | apply Vo rfl
 case' ht =>
  intro h
  try (first | exact zom | exact zho h | subst h)
  all_goals
   refine Jh (Je (Jb (Jd rfl) U U U (Jb (Jf rfl) U U U ?_)))
   refine Jg (Ja (Vn (Vb ?_)))
   refine Vi (.inl rfl) U U zrv ?_
   refine ⟨congrArg (Value.int .i64) (by omega), fun w q => ?_⟩
   first
    | (rw [if_neg h]
       exact base_shut (sp := sp) (sc := sc) (ka := ka) (kc := kc) (ma := ma) (mc := mc) (ta := ta) (tc := tc) rfl hT2 (q.sup zsup))
    | (rw [if_pos (show e = 0 by omega)]
       exact base_shut (B := B.done) (sp := sp) (sc := sc) (ka := a3) (kc := c3) (ma := ma) (mc := mc) (ta := none) (tc := 0) U U (Sat.sup (Sat.own_nil (e := 168) (size := 4) q) zsup))
 case' hf =>
  intro h
  try (first | exact zom | exact zho h | subst h)
  all_goals
   refine Vd ?_
 all_goals refine Ja ?_
 all_goals
  refine Jh (Je (Jb (Jd rfl) U U U (Jb (Jd rfl) U U U (Jb (Jd rfl) U U U ?_))))
  refine Jb znc U U U ?_
  refine Jb (Jk hT U U U U U U) U U U ?_
  refine Jb (Jo hT U U U zrd) U U U ?_
  refine Jl rfl (Jw e69 U U (Vw (Ji zpk Jj) (copied_spec E ma B.shs.length mc (by omega) B.meant _)) ?_)
  rintro _ _ ⟨a3, c3, rfl, rfl⟩
  refine Jb znc U U U ?_
  refine Jb (Jk hT U U U U U U) U U U ?_
  refine Jl rfl (Vs hT U U U U U zpk zix ?_)
  refine Jb znc U U U ?_
  refine Jb (Jk hT U U U U U U) U U U ?_
  refine Jl rfl (Vs hT U U U U U zpk zix ?_)
  refine Jg (Ja (Jh (Je (Jb (Jf rfl) U U U ?_))))
  refine Jg (Ja (Vn ?_))
  refine Vi (.inl rfl) U U zrv ?_
  refine ⟨congrArg (Value.int .i64) (by omega), fun w q => ?_⟩
  first
   | (rw [if_neg h]
      exact base_shut (sp := sp) (sc := sc) (ka := ka) (kc := kc) (ma := ma) (mc := mc) (ta := ta) (tc := tc) rfl hT2 (q.sup zsup))
   | (rw [if_pos (show e = 0 by omega)]
      exact base_shut (B := B.done) (sp := sp) (sc := sc) (ka := a3) (kc := c3) (ma := ma) (mc := mc) (ta := none) (tc := 0) U U (Sat.sup (Sat.own_nil (e := 168) (size := 4) q) zsup))
end
end
section
open Go Go.SL
section
structure Tells (shs : List Shp) (L : Lg) (Rs0 : List (List Rw)) (css : List (List Chg)) : Prop where
 fit : SFit shs Rs0
 snap : (L.snap = [] ∧ Rs0 = List.replicate shs.length []) ∨ L.snap = stB Rs0
 txs : L.txs = css.map txB
 can : ∀ (j : Nat) cs, css[j]? = some cs → Cans shs ((css.take j).foldl chsS Rs0) cs
 ok : ∀ cs ∈ css, (∀ c ∈ cs, ChOk c) ∧ cs.length ≤ 900
theorem shC_flat (hs : List Shp) : (hs.flatMap shC).length = hs.length * 3 := by
 induction hs with
 | nil => rfl
 | cons h hs ih => rw [List.flatMap_cons, List.length_append, ih, shC_length, List.length_cons]; omega
theorem Tells.fits {shs : List Shp} {L : Lg} {Rs0 : List (List Rw)} {css : List (List Chg)} (h : Tells shs L Rs0 css) : ∀ j, SFit shs ((css.take j).foldl chsS Rs0)
 | 0 => by simpa using h.fit
 | j + 1 => by
   cases e : css[j]? with
   | none =>
     have hl : css.length ≤ j := by
      rcases Nat.lt_or_ge j css.length with q | q
      · rw [List.getElem?_eq_getElem q] at e; cases e
      · exact q
     have := h.fits j
     rwa [List.take_of_length_le (by omega)] at this ⊢
   | some cs =>
     rw [List.take_add_one, e, Option.toList_some, List.foldl_append]
     have q := (h.fits j).chsS (h.can j cs e) cs.length
     rwa [List.take_length] at q
end
section
attribute [local irreducible] J JL JE JM LS Y Fc RV Code.wp wpList Code.wpIn wpListIn
attribute [local irreducible] Yc ltS
variable (E : World)
theorem cloneSh_spec (p : Option Addr) (cap n : Nat) (hs : List Shp) (l : List HProp) (hn : hs.length = n) (h0 : 0 < n) (hb : n ≤ 1000000) (hin : InL l p n cap (hs.flatMap shC)) :
 Fc prog E 64 [.slice p n cap].toArray l (fun v l' => ∃ g c, v = .slice (some ⟨g, 0, none⟩) n c ∧ l' = own 71 3 v n (hs.flatMap shC) :: l) := by
 obtain ⟨g, o, rfl, _⟩ := hin.addr h0
 have hl : (hs.flatMap shC).length = n * 3 := by rw [← hn, shC_flat]
 refine Wg (Fc.mono (R := fun v l' => ∃ g c, v = .slice (some ⟨g, 0, none⟩) n c ∧ n ≤ c ∧ c ≤ maxLen ∧ l' = own 71 3 (.slice (some ⟨g, 0, none⟩) n c) n (hs.flatMap shC) :: l) (Fc.ownKnown h0 (Wg ?_)) fun v l' ⟨g, c, h1, _, _, h2⟩ => ⟨_, fun w s => s, g, c, h1, by rw [h2, h1]⟩)
 refine Va (c := ?codeC) Tryz.func64 ?hb Tryz.ntmps64 ?hl ?_
 case hb => exact rfl
 case hl => exact rfl
 refine Jh (Je (Jb (Jf rfl) U U U ?_))
 refine Jg (Ja (Jh (Jh (Je (Jb (Jd rfl) U U U (Jb (y_sl_eq_nil hT U U U U) U U U ?_))))))
 refine Jg (Ja ?_)
 refine Vk rfl zbl ?_
 refine Vd (Ja (Jh (Je ?_)))
 refine Jl rfl (l_buildSlice0 hT U U U U (fun b1 => ?_))
 refine Jb (Jd rfl) U U U ?_
 refine Jl rfl (l_appendIn hT U U U U U U U U Jm (hin.cons _) (by rw [hl, show i71.size = 3 from rfl]) (by intro u hu; obtain ⟨h, _, hu⟩ := List.mem_flatMap.1 hu; simp [shC] at hu; rcases hu with rfl | rfl | rfl <;> rfl) (by rw [show i71.bytes = 24 from rfl]; omega) (by omega) rfl (fun q c hc => ?_))
 refine Jb (Jf rfl) U U U ?_
 refine Jg (Ja (Vn ?_))
 refine Vi (.inl rfl) U U zrv ?_
 exact ⟨_, fun w s => by simp only [Nat.zero_add, List.nil_append] at s ⊢; exact s, q, c, by simp, rfl⟩
theorem topen_good (lg st n : Nat) (L : Lg) (shs : List Shp) (Rs0 : List (List Rw)) (css : List (List Chg)) (sp : Option Addr) (sc : Nat) (hn : shs.length = n) (h0 : 0 < n) (hn8 : n ≤ 8) (hsh : ∀ h ∈ shs, ShOk h) (hT1 : Tells shs L Rs0 css) (_ : css.length ≤ 512) (l : List HProp) (hin : InL l sp n sc (shs.flatMap shC)) :
 Fc prog E 13 [.pointer (some ⟨lg, 0, none⟩), .slice sp n sc].toArray (logm lg st L :: l)
  (fun v l' => ∃ b, v = .tuple #[.pointer (some ⟨b, 0, none⟩), .int .i64 0] ∧ l' = baseM b lg ⟨shs, css.foldl chsS Rs0, css.foldl chsS Rs0, []⟩ :: logm lg st L :: l) := by
 refine Wg ?_
 obtain ⟨sg, so, rfl, _⟩ := hin.addr h0
 have hread : ∀ l p c sp' sc', InL l p L.snap.length c (ints .u8 L.snap) → InL l sp' n sc' (shs.flatMap shC) → Fc prog E 65 [.slice p L.snap.length c, .slice sp' n sc'].toArray l (fun v l' => ∃ a c, v = .tuple #[.slice a n c, .bool true] ∧ l' = stM a n c Rs0 :: l) := fun l p c sp' sc' h1 h2 => by
  rcases hT1.snap with ⟨e1, e2⟩ | e1
  · rw [e2, hn, e1]
    exact tread_none E p c sp' sc' n (by omega) l
  · exact tread_good E p c L.snap.length sp' sc' n shs Rs0 (by rw [e1]) hn hn8 h0 (by rw [hT1.fit.len, hn]) hsh hT1.fit.fit l (by rwa [e1] at h1 ⊢) h2
 refine Fc.of_bodyM (c := ?codeC) Tryz.func13 ?hb Tryz.ntmps13 ?hl ?_
 case hb => exact rfl
 case hl => exact rfl
 refine Jh (Je ?_)
 refine Jl rfl (Wf hT U U zcl rfl (fun b1 => ?_))
 refine Jl rfl (Wf hT U U zcl rfl (fun b2 => ?_))
 refine Jg (Ja (Jh (Ve (Jh (Je (Jb (Jd rfl) U U U (Jb (Wc hT U U U U) U U U (Jb (Jf rfl) U U U ?_))))))))
 refine Jg (Ja ?_)
 refine Vk rfl zbl ?_
 refine Jh (Je (Jb (Jd rfl) U U U (Jb (Vf hT U U U) U U U (Jb (y_eql U U) U U U (Jb (Jd rfl) U U U ?_)))))
 all_goals (first | (refine Vh U U U (fun h => ?_) (fun h => ?_) <;> try (first | (exfalso; omega) | exact absurd rfl h)) | (refine Vr U U U (fun h => ?_) (fun h => ?_) <;> try (first | cases h | (exfalso; simp at h; done))) | skip)
 all_goals (first | refine Js U U U U U U ?_ | refine Jp U U U U U ?_ | refine Jt U U U (Jd rfl) U U ?_)
 all_goals (first | refine Js U U U U U U ?_ | refine Jp U U U U U ?_ | refine Jt U U U (Vf hT U U U) U U ?_)
 all_goals (first | refine Js U U U U U U ?_ | refine Jp U U U U U ?_ | refine Jt U U U (y_gtr U U) U U ?_)
 all_goals (refine Jb (Wb U U U) U U U ?_)
 all_goals (refine Jb (Jf rfl) U U U ?_)
 all_goals refine Jg (Ja ?_)
 all_goals
  refine Vk rfl zbl ?_
  refine Vd ?_
 all_goals refine Ju (Ja ?_)
 all_goals
  refine Jh (Jh (Je (Jb (Jd rfl) U U U (Jb (Vf hT U U U) U U U (Jb (Jd rfl) U U U ?_)))))
  refine Jg (Ja (Ve ?_))
  refine Wn (α := Nat) (fun i => i ≤ n) (fun i => [(0, .pointer (some ⟨lg, 0, none⟩)), (1, .slice (some ⟨sg, so, none⟩) n sc), (4, .pointer (some ⟨b1, 0, none⟩)), (5, .pointer (some ⟨b2, 0, none⟩)), (24, .slice (some ⟨sg, so, none⟩) n sc), (25, .int .i64 n), (26, .int .i64 i)]) (fun _ => row b2 31 [.int .i64 0] :: row b1 30 [.pointer none] :: logm lg st L :: l) (fun i => n - i) 0 (Nat.zero_le _) ⟨U, U, U, U, U, U, U, trivial⟩ (fun w s => s) ?_
  intro i hi
  refine Jh (Je (Jb (y_lss U U) U U U ?_))
  refine Jg (Ja (Jh ?_))
  first | apply Jx rfl | apply Vo rfl
  case' ht =>
   intro h
   try (first | exact zom | exact zho h | subst h)
   all_goals
    refine Vd ?_
  case' hf =>
   intro h
   try (first | exact zom | exact zho h | subst h)
   all_goals
    refine Wl (Jv (Jv (Vl (Ja (Jh (Je (Jb (Jd rfl) U U U (Jb (Jd rfl) U U U ?_))))))))
    refine Jl rfl (Jw e64 U U (cloneSh_spec E (some ⟨sg, so, none⟩) sc n shs _ hn h0 (by omega) zinl) ?_)
    rintro _ _ ⟨g2, c2, rfl, rfl⟩
    refine Jb (y_build (cs := [_, _, _, _, _]) hT U U U U U U ⟨⟨zln, Nat.le_of_ble_eq_true rfl⟩, ⟨⟨zln, Nat.le_of_ble_eq_true rfl⟩, trivial⟩⟩ rfl) U U U ?_
    refine Jl rfl (l_box rfl zcl rfl (fun b4 => ?_))
    refine Jl rfl (Wf hT U U zcl rfl (fun b5 => ?_))
    refine Jl rfl (Vs hT U U U U U zpk zix ?_)
    refine Jg (Ja (Jh (Je (Jb (Jf rfl) U U U ?_))))
    refine Jg (Ja (Jh ?_))
    refine J.seqK (α := Option Addr × Nat) (fun _ => True) (fun s => [(0, .pointer (some ⟨lg, 0, none⟩)), (4, .pointer (some ⟨b1, 0, none⟩)), (5, .pointer (some ⟨b2, 0, none⟩)), (8, .pointer (some ⟨b5, 0, none⟩)), (9, .bool true)]) (fun s => stM s.1 n s.2 Rs0 :: row b4 139 [.pointer (some ⟨lg, 0, none⟩), .slice (some ⟨g2, 0, none⟩) n c2, .slice s.1 n s.2, .slice none 0 0, .slice none 0 0] :: logm lg st L :: row b5 30 [.pointer (some ⟨b4, 0, none⟩)] :: own 71 3 (.slice (some ⟨g2, 0, none⟩) n c2) n (shs.flatMap shC) :: row b2 31 [.int .i64 0] :: row b1 30 [.pointer none] :: l) ?hj14 (fun hk14 => ?hf14)
    case hf14 =>
     refine J.pre (l' := logm lg st L :: row b4 139 [.pointer (some ⟨lg, 0, none⟩), .slice (some ⟨g2, 0, none⟩) n c2, .slice none 0 0, .slice none 0 0, .slice none 0 0] :: row b5 30 [.pointer (some ⟨b4, 0, none⟩)] :: own 71 3 (.slice (some ⟨g2, 0, none⟩) n c2) n (shs.flatMap shC) :: row b2 31 [.int .i64 0] :: row b1 30 [.pointer none] :: l) (fun w s => s.sup zsup) ?_
     refine J.fact (fun w s => Vu (s.pick (A := own 71 3 (.slice (some ⟨g2, 0, none⟩) n c2) n (shs.flatMap shC)) zpk)) fun osh => ?_
     refine J.drawF _ _ [0, 1, 3, 4, 5] 2 [(6, .l), (7, .l), (8, .q), (9, .q), (10, .q), (11, .q), (12, .q), (13, .l), (14, .q)] 6 [(2, .l), (7, .l), (8, .q), (9, .q), (10, .q), (11, .q), (12, .q), (13, .l), (14, .q)] mixed (by kernel_rfl) (Ji (Jm) (Ji (Jm) (Jj))) ?_
     refine JP.quiet U U U U (fun m => Jo hT U U U zrda) ?_
     refine JP.quiet U U U U (fun m => Jd rfl) ?_
     refine JP.quiet U U U U (fun m => Jo hT U U U zrda) ?_
     refine JP.quiet U U U U (fun m => znc) ?_
     refine JP.quiet U U U U (fun m => Jk hT U U U U U U) ?_
     refine JP.nil ?_ ?_
     refine Vm U U (fun fr => Jw e66 U U (Vw (Ji zpk Jj) (lsnapshot_spec E lg st L _)) ?_)
     rintro _ _ ⟨sa, sc', rfl, rfl⟩
     refine ⟨[_, _, _], (by (repeat (first | exact Jj | exact Vc | refine Ji Jm ?_))), ?_⟩
     refine Vm U U (fun fr => LS.ofY U U (Jo hT U U U zrd) ⟨[_, _, _], (by (repeat (first | exact Jj | exact Vc | refine Ji Jm ?_))), ?_⟩)
     refine Vm U U (fun fr => Jw e65 U U (Fc.fact (fun w s => Vu (s.pick Jm)) fun oq => hread _ sa sc' _ _ (oq.inl Jm) (osh.inl zpk)) ?_)
     rintro _ _ ⟨ka, kc, rfl, rfl⟩
     refine ⟨[_, _, _, _], (by (repeat (first | exact Jj | exact Vc | refine Ji Jm ?_))), ?_⟩
     refine zqm U U U U U (Jc U U U U (fun m => Vg U U) (Jc U U U U (fun m => Vg U U) ?_))
     refine Jc U U U U (fun m => znc) ?_
     refine Jc U U U U (fun m => Jk hT U U U U U U) ?_
     refine Vm U U (fun fr => Vs hT U U U U U zpk zix (⟨[_, _, _, _], (by (repeat (first | exact Jj | exact Vc | refine Ji Jm ?_))), ?_⟩))
     refine Jc U U U U (fun m => Jf rfl) ?_
     refine Vv ?_
     rotate_left
     refine Vm U U (fun fr => LS.ofY U U (Jo hT U U U zrd) ⟨[_, _], (by (repeat (first | exact Jj | exact Vc | refine Ji Jm ?_))), ?_⟩)
     refine Vm U U (fun fr => Jw e66 U U (Vw (Ji zpk Jj) (lsnapshot_spec E lg st L _)) ?_)
     rintro _ _ ⟨sa, sc', rfl, rfl⟩
     refine ⟨[_, _, _], (by (repeat (first | exact Jj | exact Vc | refine Ji Jm ?_))), ?_⟩
     refine Vm U U (fun fr => Jw e65 U U (Fc.fact (fun w s => Vu (s.pick Jm)) fun oq => hread _ sa sc' _ _ (oq.inl Jm) (osh.inl zpk)) ?_)
     rintro _ _ ⟨ka, kc, rfl, rfl⟩
     refine ⟨[_, _, _, _], (by (repeat (first | exact Jj | exact Vc | refine Ji Jm ?_))), ?_⟩
     refine zqm U U U U U (Jc U U U U (fun m => Vg U U) (Jc U U U U (fun m => Vg U U) ?_))
     refine Jc U U U U (fun m => znc) ?_
     refine Jc U U U U (fun m => Jk hT U U U U U U) ?_
     refine Vm U U (fun fr => Vs hT U U U U U zpk zix (⟨[_, _, _, _], (by (repeat (first | exact Jj | exact Vc | refine Ji Jm ?_))), ?_⟩))
     refine Jc U U U U (fun m => Jf rfl) ?_
     refine Vv ?_
     all_goals refine Ja ?_
     all_goals
      exact Wj hk14 (ka, kc) trivial ⟨U, U, U, U, U, trivial⟩ (fun w s => s.sup zsup)
    rintro ⟨ka, kc⟩ _
    dsimp only
    refine Jh (Je (Jb (Jd rfl) U U U (Jb (y_not rfl) U U U ?_)))
    refine Jg (Ja ?_)
    refine Vk rfl zbl ?_
    refine Vd ?_
    all_goals refine Ja ?_
    all_goals
     refine Jh (Jh (Je (Jb (Jd rfl) U U U ?_)))
     refine Jl rfl (Jw e67 U U (lall_spec E _ (.pointer (some ⟨lg, 0, none⟩)) rfl) ?_)
     rintro _ _ ⟨bc, rfl, rfl⟩
     refine Jg (Ja (Ve ?_))
     refine J.rangeFunc e121 rfl fun fn a0 k DD K hK hf0 => ?_
     refine Fc.mono (Fc.imp (lall1_spec E lg st L (row b2 31 [.int .i64 0] :: row b1 30 [.pointer none] :: l) k bc (fun j => [row b4 139 [.pointer (some ⟨lg, 0, none⟩), .slice (some ⟨g2, 0, none⟩) n c2, .slice ka n kc, .slice none 0 0, .slice none 0 0], own 71 3 (.slice (some ⟨g2, 0, none⟩) n c2) n (shs.flatMap shC), stM ka n kc ((css.take j).foldl chsS Rs0), row b5 30 [.pointer (some ⟨b4, 0, none⟩)], K .ready none, blk DD (.deferred (some []))]) (fun _ => [pur False, K .ready none]) (fun frr j tx a c htx hsm => ?hy)) ?hi) ?hm
     case hi => exact fun w s => s.sup zsup
     case hy =>
      obtain ⟨cs, hcs, rfl⟩ : ∃ cs, css[j]? = some cs ∧ txB cs = tx := by
       rw [hT1.txs, List.getElem?_map] at htx
       cases e : css[j]? with
       | none => rw [e] at htx; cases htx
       | some cs => rw [e] at htx; exact ⟨cs, rfl, Option.some.inj htx⟩
      have hok2 := hT1.ok cs (List.mem_of_getElem? hcs)
      have hjl : j < css.length := by
       rcases Nat.lt_or_ge j css.length with h | h
       · exact h
       · rw [List.getElem?_eq_none h] at hcs; cases hcs
      refine Yc.split (p := [K .ready none]) ?_ (Ji zpk Jj)
      refine Yc.post ?_
      refine Yc.of_body hK hf0 rfl (by decide) ?_
      refine Je (Jb (Jf rfl) U U U ?_)
      refine Jg ?_
      refine JE.assigned zpk ?_
      refine Ve (Jh ?_)
      refine J.pre (l' := stM ka n kc ((css.take j).foldl chsS Rs0) :: own 5 1 (.slice a (txB cs).length c) (txB cs).length (ints .u8 (txB cs)) :: row b4 139 [.pointer (some ⟨lg, 0, none⟩), .slice (some ⟨g2, 0, none⟩) n c2, .slice ka n kc, .slice none 0 0, .slice none 0 0] :: own 71 3 (.slice (some ⟨g2, 0, none⟩) n c2) n (shs.flatMap shC) :: row b5 30 [.pointer (some ⟨b4, 0, none⟩)] :: K .busy none :: blk DD (.deferred (some [])) :: frr) (fun w s => s.sup zsup) ?_
      refine J.fact (fun w s => Vu (s.pick (Jz Jm))) fun ot => ?_
      refine J.fact (fun w s => Vu (s.pick (Jz (Jz (Jz Jm))))) fun osh => ?_
      refine Vz _ _ [(0, .q), (1, .q), (2, .q), (3, .q), (4, .q), (5, .q), (6, .q), (7, .q), (8, .q), (9, .l), (10, .q)] mixed (by kernel_rfl) (Ji (Jm) (Jj)) ?_
      refine Jc U U U U (fun m => Jo hT U U U zrda) ?_
      refine Jc U U U U (fun m => znc) ?_
      refine Jc U U U U (fun m => Jk hT U U U U U U) ?_
      refine Jc U U U U (fun m => Jo hT U U U zrda) ?_
      refine zqm U U U U U ?_
      refine Jc U U U U (fun m => Jo hT U U U zrda) ?_
      refine Jc U U U U (fun m => znc) ?_
      refine Jc U U U U (fun m => Jk hT U U U U U U) ?_
      refine Jc U U U U (fun m => Jo hT U U U zrda) ?_
      refine Vm U U (fun fr => Jw e68 U U (carry_good E ka n kc a c (txB cs).length (some ⟨g2, 0, none⟩) c2 shs _ cs rfl hn hn8 hsh (hT1.fits j) (hT1.can j cs hcs) hok2.1 hok2.2 _ (ot.inl zpk) (osh.inl zpk)) ?_)
      rintro _ _ ⟨rfl, rfl⟩
      refine ⟨[_], (by (repeat (first | exact Jj | exact Vc | refine Ji Jm ?_))), ?_⟩
      refine Jc U U U U (fun m => y_not rfl) ?_
      refine Vv (Ja ?_)
      refine Vk rfl zbl ?_
      refine Vd (Ju ?_)
      all_goals
       refine JE.round_on hK zpk ?_
       have e : (css.take (j + 1)).foldl chsS Rs0 = chsS ((css.take j).foldl chsS Rs0) cs := by rw [List.take_add_one, hcs, Option.toList_some, List.foldl_append]; rfl
       refine ⟨[row b4 139 [.pointer (some ⟨lg, 0, none⟩), .slice (some ⟨g2, 0, none⟩) n c2, .slice ka n kc, .slice none 0 0, .slice none 0 0], own 71 3 (.slice (some ⟨g2, 0, none⟩) n c2) n (shs.flatMap shC), stM ka n kc (chsS ((css.take j).foldl chsS Rs0) cs), row b5 30 [.pointer (some ⟨b4, 0, none⟩)], K .ready none, blk DD (.deferred (some []))] ++ frr, fun w q => q.sup zsup, .inl ⟨rfl, by rw [e]⟩⟩
     case hm =>
      rintro _ _ (rfl | ⟨j, hj, rfl⟩)
      · refine ⟨.ready, none, _, by (repeat (first | exact Jm | apply Jz | apply Vp)), by simp, ?_⟩
        dsimp only
        rw [hT1.txs, List.length_map, List.take_length]
        refine Ju (Ja (Jh ?_))
        refine J.pre (l' := stM ka n kc (css.foldl chsS Rs0) :: row b4 139 [.pointer (some ⟨lg, 0, none⟩), .slice (some ⟨g2, 0, none⟩) n c2, .slice ka n kc, .slice none 0 0, .slice none 0 0] :: own 71 3 (.slice (some ⟨g2, 0, none⟩) n c2) n (shs.flatMap shC) :: row b5 30 [.pointer (some ⟨b4, 0, none⟩)] :: row b2 31 [.int .i64 0] :: row b1 30 [.pointer none] :: logm lg st L :: blk DD (.deferred (some [])) :: l) (fun w s => s.sup zsup) ?_
        refine Vz _ _ [(0, .q), (1, .e), (2, .e), (3, .e), (4, .e), (5, .l), (6, .q), (7, .q), (8, .l)] mixed (by kernel_rfl) (Ji (Jm) (Ji (Jm) (Jj))) ?_
        refine Jc U U U U (fun m => Jo hT U U U zrda) ?_
        refine Wh U U U U (fun fr => Jo hT U U U zrd) ?_
        refine Wh U U U U (fun fr => znc) ?_
        refine Wh U U U U (fun fr => Jk hT U U U U U U) ?_
        refine Wh U U U U (fun fr => Jo hT U U U zrd) ?_
        refine Vm U U (fun fr => Jw e69 U U (copied_spec E ka n kc (by omega) (css.foldl chsS Rs0) _) ?_)
        rintro _ _ ⟨ma, mc, rfl, rfl⟩
        refine ⟨[_, _, _], (by (repeat (first | exact Jj | exact Vc | refine Ji Jm ?_))), ?_⟩
        refine Jc U U U U (fun m => znc) ?_
        refine Jc U U U U (fun m => Jk hT U U U U U U) ?_
        refine Vm U U (fun fr => Vs hT U U U U U zpk zix (⟨[_, _, _], (by (repeat (first | exact Jj | exact Vc | refine Ji Jm ?_))), ?_⟩))
        refine Vv (Ja (Jh (Je ?_)))
        refine Jb (Jo hT U U U zrd) U U U ?_
        refine Jl rfl (Vs hT U U U U U zpk zix ?_)
        refine Jl rfl (Vs hT U U U U U zpk zix ?_)
        refine Jg (Ja (Vn ?_))
        first | refine JE.unmark (.inl rfl) rfl zpk ?_ | refine JE.nomark (.inl rfl) rfl ?_
        refine JE.ret2 (.inl rfl) U U zrv zrv ?_
        exact ⟨_, fun w q => base_shut (B := ⟨shs, css.foldl chsS Rs0, css.foldl chsS Rs0, []⟩) (r := logm lg st L :: l) (n := n) (t := 0) (sp := some ⟨g2, 0, none⟩) (sc := c2) (ka := ka) (kc := kc) (ma := ma) (mc := mc) (ta := none) (tc := 0) hn rfl (Sat.sup (Sat.own_nil (e := 168) (size := 4) q) zsup), b4, rfl, rfl⟩
      · refine ⟨.ready, none, _, by (repeat (first | exact Jm | apply Jz | apply Vp)), by simp, ?_⟩
        dsimp only
        exact JE.picks (Jz Jm) (JE.purs fun h => h.elim)
  all_goals refine Ja ?_
  all_goals
   refine Jh (Ve (Jh (Je ?_)))
   have hlt : i < n := by omega
   obtain ⟨h, hh⟩ : ∃ h, shs[i]? = some h := ⟨shs[i]'(by omega), List.getElem?_eq_getElem _⟩
   have hok := hsh h (List.mem_of_getElem? hh)
   obtain ⟨hrw, hky, hvl⟩ := h
   have k1 : 1 ≤ hrw ∧ hrw ≤ 64 := hok.rows
   have k2 : 1 ≤ hky ∧ hky ≤ 64 := hok.key
   have k3 : 0 ≤ hvl ∧ hvl ≤ 1024 := hok.value
   have hq1 : Shp.rows ⟨hrw, hky, hvl⟩ = hrw := rfl
   have hq2 : Shp.key ⟨hrw, hky, hvl⟩ = hky := rfl
   have hq3 : Shp.value ⟨hrw, hky, hvl⟩ = hvl := rfl
   refine Jb (Jn hT U U U U U zix zix) U U U ?_
   refine Jb (We hT U U U ((InL.rdN (cs := shs.flatMap shC) zinl h0).elem (fun x _ => shC_length x) hh) rfl) U U U ?_
   refine Jl rfl (Wf hT U U zcl rfl (fun b19 => ?_))
   refine Jl rfl (Vx hT U U U zln zoc zpk zln ?_)
   refine Jg (Ja (Jh (Je (Jb (Jk hT U U U U U U) U U U ?_))))
   refine Jb (Jo hT U U U zrd) U U U ?_
   refine Jb (y_lss U U) U U U (Jb (Jd rfl) U U U ?_)
   all_goals (first | (refine Vh U U U (fun h => ?_) (fun h => ?_) <;> try (first | (exfalso; omega) | exact absurd rfl h)) | (refine Vr U U U (fun h => ?_) (fun h => ?_) <;> try (first | cases h | (exfalso; simp at h; done))) | skip)
   all_goals (first | refine Js U U U U U U ?_ | refine Jp U U U U U ?_ | refine Jt U U U (Jk hT U U U U U U) U U ?_)
   all_goals (first | refine Js U U U U U U ?_ | refine Jp U U U U U ?_ | refine Jt U U U (Jo hT U U U zrd) U U ?_)
   all_goals (first | refine Js U U U U U U ?_ | refine Jp U U U U U ?_ | refine Jt U U U (y_gtr U U) U U ?_)
   all_goals (refine Jb (Wb U U U) U U U ?_)
   all_goals (refine Jb (Jd rfl) U U U ?_)
   all_goals (first | (refine Vh U U U (fun h => ?_) (fun h => ?_) <;> try (first | (exfalso; omega) | exact absurd rfl h)) | (refine Vr U U U (fun h => ?_) (fun h => ?_) <;> try (first | cases h | (exfalso; simp at h; done))) | skip)
   all_goals (first | refine Js U U U U U U ?_ | refine Jp U U U U U ?_ | refine Jt U U U (Jk hT U U U U U U) U U ?_)
   all_goals (first | refine Js U U U U U U ?_ | refine Jp U U U U U ?_ | refine Jt U U U (Jo hT U U U zrd) U U ?_)
   all_goals (first | refine Js U U U U U U ?_ | refine Jp U U U U U ?_ | refine Jt U U U (y_lss U U) U U ?_)
   all_goals (refine Jb (Wb U U U) U U U ?_)
   all_goals (refine Jb (Jd rfl) U U U ?_)
   all_goals (first | (refine Vh U U U (fun h => ?_) (fun h => ?_) <;> try (first | (exfalso; omega) | exact absurd rfl h)) | (refine Vr U U U (fun h => ?_) (fun h => ?_) <;> try (first | cases h | (exfalso; simp at h; done))) | skip)
   all_goals (first | refine Js U U U U U U ?_ | refine Jp U U U U U ?_ | refine Jt U U U (Jk hT U U U U U U) U U ?_)
   all_goals (first | refine Js U U U U U U ?_ | refine Jp U U U U U ?_ | refine Jt U U U (Jo hT U U U zrd) U U ?_)
   all_goals (first | refine Js U U U U U U ?_ | refine Jp U U U U U ?_ | refine Jt U U U (y_gtr U U) U U ?_)
   all_goals (refine Jb (Wb U U U) U U U ?_)
   all_goals (refine Jb (Jd rfl) U U U ?_)
   all_goals (first | (refine Vh U U U (fun h => ?_) (fun h => ?_) <;> try (first | (exfalso; omega) | exact absurd rfl h)) | (refine Vr U U U (fun h => ?_) (fun h => ?_) <;> try (first | cases h | (exfalso; simp at h; done))) | skip)
   all_goals (first | refine Js U U U U U U ?_ | refine Jp U U U U U ?_ | refine Jt U U U (Jk hT U U U U U U) U U ?_)
   all_goals (first | refine Js U U U U U U ?_ | refine Jp U U U U U ?_ | refine Jt U U U (Jo hT U U U zrd) U U ?_)
   all_goals (first | refine Js U U U U U U ?_ | refine Jp U U U U U ?_ | refine Jt U U U (y_lss U U) U U ?_)
   all_goals (refine Jb (Wb U U U) U U U ?_)
   all_goals (refine Jb (Jd rfl) U U U ?_)
   all_goals (first | (refine Vh U U U (fun h => ?_) (fun h => ?_) <;> try (first | (exfalso; omega) | exact absurd rfl h)) | (refine Vr U U U (fun h => ?_) (fun h => ?_) <;> try (first | cases h | (exfalso; simp at h; done))) | skip)
   all_goals (first | refine Js U U U U U U ?_ | refine Jp U U U U U ?_ | refine Jt U U U (Jk hT U U U U U U) U U ?_)
   all_goals (first | refine Js U U U U U U ?_ | refine Jp U U U U U ?_ | refine Jt U U U (Jo hT U U U zrd) U U ?_)
   all_goals (first | refine Js U U U U U U ?_ | refine Jp U U U U U ?_ | refine Jt U U U (y_gtr U U) U U ?_)
   all_goals (refine Jb (Wb U U U) U U U ?_)
   all_goals refine Jg (Ja ?_)
   all_goals
    refine Vk rfl zbl ?_
    refine Vd ?_
   all_goals refine Ju (Ja ?_)
   all_goals
    refine Je ?_
    refine Jb (Wa U U zwr) U U U ?_
    refine Jb (Jd rfl) U U U ?_
    refine Jg ?_
  all_goals
   refine Vt (s := i) (i + 1) (by omega) ⟨U, U, U, U, U, U, U, trivial⟩ (fun w q => q.sup zsup) (by omega)
end
end
section
open Go Go.SL
section
attribute [local irreducible] J JL JE JM LS Y Fc RV Code.wp wpList Code.wpIn wpListIn
attribute [local irreducible] Yc ltS
variable (E : World)
theorem put_bad (b lg : Nat) (B : Bs) (i : Int) (k : ByteArray) (v : Value) (hn : B.shs.length ≤ 8) (hi : ¬ (0 ≤ i ∧ i < (B.shs.length : Int))) (l : List HProp) :
 Fc prog E 32 [.pointer (some ⟨b, 0, none⟩), .int .i64 i, .string k, v].toArray (baseM b lg B :: l) (fun v l' => v = .int .i64 2 ∧ l' = baseM b lg B :: l) := by
 refine Fc.base fun sp sc ka kc ma mc ta tc => Fc.eqs ?_
 refine Va (c := ?codeC) Tryz.func32 ?hb Tryz.ntmps32 ?hl ?_
 case hb => exact rfl
 case hl => exact rfl
 refine Jh (Je (Jb (Jf rfl) U U U ?_))
 refine Jg (Ja (Jh (Jh (Je (Jb (Jd rfl) U U U (Jb (Jd rfl) U U U ?_))))))
 refine Jl rfl (Jw e70 U U (Vw (Ji zpk Jj) (check_bad E b B.shs.length _ sp sc _ _ _ i hi _ (by omega))) ?_)
 rintro _ _ ⟨rfl, rfl⟩
 refine Jb (Jf rfl) U U U ?_
 refine Jg (Ja (Jh (Je (Jb (Jd rfl) U U U (Jb (y_neq U U) U U U ?_)))))
 refine Jg (Ja ?_)
 refine J.cond_t rfl zbl ?_
 refine Jh (Je (Jb (Jd rfl) U U U (Jb (Jf rfl) U U U ?_)))
 refine Jg (Ja (Vn (Vb ?_)))
 refine Vi (.inl rfl) U U zrv ?_
 exact ⟨rfl, fun w q => base_shut U U q⟩
theorem del_bad (b lg : Nat) (B : Bs) (i : Int) (k : ByteArray) (hn : B.shs.length ≤ 8) (hi : ¬ (0 ≤ i ∧ i < (B.shs.length : Int))) (l : List HProp) :
 Fc prog E 33 [.pointer (some ⟨b, 0, none⟩), .int .i64 i, .string k].toArray (baseM b lg B :: l) (fun v l' => v = .int .i64 2 ∧ l' = baseM b lg B :: l) := by
 refine Fc.base fun sp sc ka kc ma mc ta tc => Fc.eqs ?_
 refine Va (c := ?codeC) Tryz.func33 ?hb Tryz.ntmps33 ?hl ?_
 case hb => exact rfl
 case hl => exact rfl
 refine Jh (Je (Jb (Jf rfl) U U U ?_))
 refine Jg (Ja (Jh (Jh (Je (Jb (Jd rfl) U U U (Jb (Jd rfl) U U U ?_))))))
 refine Jl rfl (Jw e70 U U (Vw (Ji zpk Jj) (check_bad E b B.shs.length _ sp sc _ _ _ i hi _ (by omega))) ?_)
 rintro _ _ ⟨rfl, rfl⟩
 refine Jb (Jf rfl) U U U ?_
 refine Jg (Ja (Jh (Je (Jb (Jd rfl) U U U (Jb (y_neq U U) U U U ?_)))))
 refine Jg (Ja ?_)
 refine J.cond_t rfl zbl ?_
 refine Jh (Je (Jb (Jd rfl) U U U (Jb (Jf rfl) U U U ?_)))
 refine Jg (Ja (Vn (Vb ?_)))
 refine Vi (.inl rfl) U U zrv ?_
 exact ⟨rfl, fun w q => base_shut U U q⟩
theorem topen_none (lg : Nat) (sp : Option Addr) (sc n : Nat) (hn : n = 0 ∨ 8 < n) (hb : n ≤ 9000000) (l : List HProp) : Fc prog E 13 [.pointer (some ⟨lg, 0, none⟩), .slice sp n sc].toArray l (fun u l' => u = .tuple #[.pointer none, .int .i64 2] ∧ l' = l) := by
 refine Fc.eqs ?_
 rcases hn with rfl | hn
 · refine Fc.of_bodyM (c := ?codeC) Tryz.func13 ?hb Tryz.ntmps13 ?hl ?_
   case hb => exact rfl
   case hl => exact rfl
   refine Jh (Je ?_)
   refine Jl rfl (Wf hT U U zcl rfl (fun b1 => ?_))
   refine Jl rfl (Wf hT U U zcl rfl (fun b2 => ?_))
   refine Jg (Ja (Jh (Ve (Jh (Je (Jb (Jd rfl) U U U (Jb (Wc hT U U U U) U U U (Jb (Jf rfl) U U U ?_))))))))
   refine Jg (Ja ?_)
   refine Vk rfl zbl ?_
   refine Jh (Je (Jb (Jd rfl) U U U (Jb (Vf hT U U U) U U U (Jb (y_eql U U) U U U (Jb (Jd rfl) U U U ?_)))))
   all_goals (first | (refine Vh U U U (fun h => ?_) (fun h => ?_) <;> try (first | (exfalso; omega) | exact absurd rfl h)) | (refine Vr U U U (fun h => ?_) (fun h => ?_) <;> try (first | cases h | (exfalso; simp at h; done))) | skip)
   all_goals (first | refine Js U U U U U U ?_ | refine Jp U U U U U ?_ | refine Jt U U U (Jd rfl) U U ?_)
   all_goals (first | refine Js U U U U U U ?_ | refine Jp U U U U U ?_ | refine Jt U U U (Vf hT U U U) U U ?_)
   all_goals (first | refine Js U U U U U U ?_ | refine Jp U U U U U ?_ | refine Jt U U U (y_gtr U U) U U ?_)
   all_goals (refine Jb (Wb U U U) U U U ?_)
   all_goals (refine Jb (Jf rfl) U U U ?_)
   all_goals refine Jg (Ja ?_)
   all_goals
    refine J.cond_t rfl zbl ?_
    refine Jh (Je ?_)
    refine Jl rfl (Vs hT U U U U U zpk zix ?_)
    refine Jl rfl (Vs hT U U U U U zpk zix ?_)
    refine Jg (Ja (Vn (Vj (Vb ?_))))
    first | refine JE.unmark (.inl rfl) rfl zpk ?_ | refine JE.nomark (.inl rfl) rfl ?_
    refine JE.ret2 (.inl rfl) U U zrv zrv ?_
    exact ⟨rfl, fun w q => q.sup zsup⟩
 · refine Fc.of_bodyM (c := ?codeC) Tryz.func13 ?hb Tryz.ntmps13 ?hl ?_
   case hb => exact rfl
   case hl => exact rfl
   refine Jh (Je ?_)
   refine Jl rfl (Wf hT U U zcl rfl (fun b1 => ?_))
   refine Jl rfl (Wf hT U U zcl rfl (fun b2 => ?_))
   refine Jg (Ja (Jh (Ve (Jh (Je (Jb (Jd rfl) U U U (Jb (Wc hT U U U U) U U U (Jb (Jf rfl) U U U ?_))))))))
   refine Jg (Ja ?_)
   refine Vk rfl zbl ?_
   refine Jh (Je (Jb (Jd rfl) U U U (Jb (Vf hT U U U) U U U (Jb (y_eql U U) U U U (Jb (Jd rfl) U U U ?_)))))
   all_goals (first | (refine Vh U U U (fun h => ?_) (fun h => ?_) <;> try (first | (exfalso; omega) | exact absurd rfl h)) | (refine Vr U U U (fun h => ?_) (fun h => ?_) <;> try (first | cases h | (exfalso; simp at h; done))) | skip)
   all_goals (first | refine Js U U U U U U ?_ | refine Jp U U U U U ?_ | refine Jt U U U (Jd rfl) U U ?_)
   all_goals (first | refine Js U U U U U U ?_ | refine Jp U U U U U ?_ | refine Jt U U U (Vf hT U U U) U U ?_)
   all_goals (first | refine Js U U U U U U ?_ | refine Jp U U U U U ?_ | refine Jt U U U (y_gtr U U) U U ?_)
   all_goals (refine Jb (Wb U U U) U U U ?_)
   all_goals (refine Jb (Jf rfl) U U U ?_)
   all_goals refine Jg (Ja ?_)
   all_goals
    refine J.cond_t rfl zbl ?_
    refine Jh (Je ?_)
    refine Jl rfl (Vs hT U U U U U zpk zix ?_)
    refine Jl rfl (Vs hT U U U U U zpk zix ?_)
    refine Jg (Ja (Vn (Vj (Vb ?_))))
    first | refine JE.unmark (.inl rfl) rfl zpk ?_ | refine JE.nomark (.inl rfl) rfl ?_
    refine JE.ret2 (.inl rfl) U U zrv zrv ?_
    exact ⟨rfl, fun w q => q.sup zsup⟩
end
end
section
open Go Go.SL
section
attribute [local irreducible] J JL JE JM LS Y Fc RV Code.wp wpList Code.wpIn wpListIn
attribute [local irreducible] Yc ltS
variable (E : World)
theorem tall_spec (v : Value) (hv : v.oneCell' = true) (i : Int) (l : List HProp) : Fc prog E 17 [v, .int .i64 i].toArray l (fun u l' => ∃ c1 c2, u = .func (.func 71) #[] [Value.pointer (some ⟨c1, 0, none⟩), Value.pointer (some ⟨c2, 0, none⟩)].toArray ∧ l' = row c2 3 [.int .i64 i] :: row c1 30 [v] :: l) := by
 have hvc : v.cells = [v].toArray := by cases v <;> simp_all [Value.cells, Value.oneCell']
 refine Va (c := ?codeC) Tryz.func17 ?hb Tryz.ntmps17 ?hl ?_
 case hb => exact rfl
 case hl => exact rfl
 refine Jh (Je ?_)
 refine Jl rfl (l_box rfl hvc rfl (fun bA => ?_))
 refine Jl rfl (l_box rfl zcl rfl (fun b1 => ?_))
 refine Jb (Jf rfl) U U U ?_
 refine Jg (Ja (Jh (Je (Jb (y_makeFunc U U) U U U (Jb (Jf rfl) U U U ?_)))))
 refine Jg (Ja (Vn ?_))
 refine Vi (.inl rfl) U U zrv ?_
 exact ⟨bA, b1, rfl, rfl⟩
theorem tall1_spec {N : Nat} (hS : SortOk E N) (k c1 c2 b lg : Nat) (B : Bs) (i : Nat) (R : List Rw) (X l : List HProp) (St Fin : Nat → List HProp) (hn : B.shs.length ≤ 8) (hi : i < B.shs.length) (hR : B.meant[i]? = some R) (hok : ROk R) (hRN : R.length ≤ N)
 (h0 : ∀ w r, Sat E (stars (baseM b lg B :: (X ++ r))) w → Sat E (stars (St 0 ++ r)) w)
 (hy : ∀ (fr : List HProp) (j : Nat) (key v : ByteArray) (g c : Nat) (KK : HProp), R[j]? = some (key, v) → InL [KK] (some ⟨g, 0, none⟩) v.size c (ints .u8 (bytesS v)) → Yc prog E k [Value.string key, .slice (some ⟨g, 0, none⟩) v.size c].toArray (KK :: (St j ++ fr))
   (fun u l' => (u = .bool true ∧ l' = St (j + 1) ++ fr) ∨ (u = .bool false ∧ l' = Fin j ++ fr))) :
 Fc prog E 71 [.func (.yield k) #[] #[], Value.pointer (some ⟨c1, 0, none⟩), Value.pointer (some ⟨c2, 0, none⟩)].toArray (row c2 3 [.int .i64 (i : Int)] :: row c1 30 [.pointer (some ⟨b, 0, none⟩)] :: baseM b lg B :: (X ++ l))
  (fun _ l' => l' = St R.length ++ l ∨ ∃ j, j < R.length ∧ l' = Fin j ++ l) := by
 refine Vw (p := [baseM b lg B]) (Ji zpk Jj) (Fc.base fun sp sc ka kc ma mc ta tc => Vw (p := [stM ma B.shs.length mc B.meant]) (Ji zpk Jj) (Fc.stAt hi fun bs bi R' m hbn hMn hb hR' hm => Wg ?_))
 obtain rfl : R = R' := Option.some.inj (hR.symm.trans hR')
 have hkm := mapsV_at hb
 have hml : (kvT m).length = R.length := by rw [kvT_length, hm.length_eq]
 have hfew := hok.few
 refine Fc.fact (fun w s => Vu (s.pick Jm)) fun om => ?_
 obtain ⟨gm, rfl⟩ := om.at_.resolve_right fun ⟨h0, _⟩ => by have := om.le; omega
 refine Va (c := ?codeC) Tryz.func71 ?hb Tryz.ntmps71 ?hl ?_
 case hb => exact rfl
 case hl => exact rfl
 refine Jh (Jh (Je ?_))
 refine Jb (Jo hT U U U zrd) U U U ?_
 refine Jb (Jo hT U U U zrd) U U U ?_
 refine Jl rfl (Jw e70 U U (Vw (Ji zpk Jj) (check_ok E b B.shs.length _ sp sc _ _ _ i hi _ (by omega))) ?_)
 rintro _ _ ⟨rfl, rfl⟩
 refine Jb (y_neq U U) U U U ?_
 refine Jg (Ja ?_)
 refine Vk rfl zbl ?_
 refine Vd (Ja (Jh ?_))
 refine J.pre (l' := mapA Value.string (fun _ => True) bi (kvT m) :: own 147 1 (.slice (some ⟨gm, 0, none⟩) B.shs.length mc) B.shs.length (mapsV bs) :: tabs (bs.eraseIdx i) (B.meant.eraseIdx i) :: row b 139 [.pointer (some ⟨lg, 0, none⟩), .slice sp B.shs.length sc, .slice ka B.shs.length kc, .slice (some ⟨gm, 0, none⟩) B.shs.length mc, .slice ta B.turned.length tc] :: own 71 3 (.slice sp B.shs.length sc) B.shs.length (B.shs.flatMap shC) :: stM ka B.shs.length kc B.kept :: own 168 4 (.slice ta B.turned.length tc) B.turned.length (B.turned.flatMap chC) :: row c2 3 [.int .i64 (i : Int)] :: row c1 30 [.pointer (some ⟨b, 0, none⟩)] :: (X ++ l)) (fun w s => s.sup zsup) ?_
 refine Vz _ _ [(0, .q), (1, .q), (2, .q), (3, .q), (4, .q), (5, .q), (6, .q), (7, .l), (8, .q)] mixed (by kernel_rfl) (Ji (Jm) (Jj)) ?_
 refine Jc U U U U (fun m => Jo hT U U U zrda) ?_
 refine Jc U U U U (fun m => znc) ?_
 refine Jc U U U U (fun m => Jk hT U U U U U U) ?_
 refine Jc U U U U (fun m => Jo hT U U U zrda) ?_
 refine Jc U U U U (fun m => Jo hT U U U zrda) ?_
 refine Jc U U U U (fun m => Jn hT U U U U U zix zix) ?_
 refine Jc U U U U (fun m => Jo hT U U U (Rd1.elem (RdN.own zpk) hkm)) ?_
 refine Vm U U (fun fr => Jw e72 U U (mclone_spec E bi m _) ?_)
 rintro _ _ ⟨cm, rfl, rfl⟩
 refine ⟨[_, _], (by (repeat (first | exact Jj | exact Vc | refine Ji Jm ?_))), ?_⟩
 refine Jc U U U U (fun m => Jf rfl) ?_
 refine Vv (Ja (Jh ?_))
 refine J.pre (l' := mapA Value.string (fun _ => True) cm (kvT m) :: row c2 3 [.int .i64 (i : Int)] :: row c1 30 [.pointer (some ⟨b, 0, none⟩)] :: (St 0 ++ l)) (fun w s => ?_) ?_
 · have q1 := st_back hbn hMn hb hi hm (s.sup (p := mapA Value.string (fun _ => True) bi (kvT m) :: own 147 1 (.slice (some ⟨gm, 0, none⟩) B.shs.length mc) B.shs.length (mapsV bs) :: tabs (bs.eraseIdx i) (B.meant.eraseIdx i) :: mapA Value.string (fun _ => True) cm (kvT m) :: row c2 3 [.int .i64 (i : Int)] :: row c1 30 [.pointer (some ⟨b, 0, none⟩)] :: row b 139 _ :: own 71 3 (.slice sp B.shs.length sc) B.shs.length (B.shs.flatMap shC) :: stM ka B.shs.length kc B.kept :: own 168 4 (.slice ta B.turned.length tc) B.turned.length (B.turned.flatMap chC) :: (X ++ l)) zsup)
   rw [set_same hR] at q1
   have q2 := base_shut (B := B) (lg := lg) (b := b) (r := mapA Value.string (fun _ => True) cm (kvT m) :: row c2 3 [.int .i64 (i : Int)] :: row c1 30 [.pointer (some ⟨b, 0, none⟩)] :: (X ++ l)) (sp := sp) (sc := sc) (ka := ka) (kc := kc) (ma := some ⟨gm, 0, none⟩) (mc := mc) (ta := ta) (tc := tc) U U (q1.sup zsup)
   have q3 := Sat.rot (p := [baseM b lg B, mapA Value.string (fun _ => True) cm (kvT m), row c2 3 [.int .i64 (i : Int)], row c1 30 [.pointer (some ⟨b, 0, none⟩)]]) (g := X) (r := l) q2
   have q4 := Sat.rot (p := X) (g := [baseM b lg B]) (r := [mapA Value.string (fun _ => True) cm (kvT m), row c2 3 [.int .i64 (i : Int)], row c1 30 [.pointer (some ⟨b, 0, none⟩)]] ++ l) q3
   exact Sat.rot (p := St 0) (g := [mapA Value.string (fun _ => True) cm (kvT m), row c2 3 [.int .i64 (i : Int)], row c1 30 [.pointer (some ⟨b, 0, none⟩)]]) (h0 w _ q4)
 refine Je (Jb (Jd rfl) U U U ?_)
 refine Jl rfl (Jw e74 U U (mkeysT_spec E _ (.map (some cm)) rfl) ?_)
 rintro _ _ ⟨bk, rfl, rfl⟩
 refine Jl rfl (Jw e73 U U (Vw (Ji zpk (Ji zpk Jj)) (sortedT E hS bk cm (kvT m) _ (by omega) (by omega))) ?_)
 rintro _ _ ⟨vs, va, vc, hv1, hv2, rfl, rfl⟩
 obtain rfl : vs = R.map (·.1) := keys_eq (hv1.trans (by rw [kvT_keys]; exact hm.map _)) hv2 hok.srt
 rw [List.length_map]
 refine Jb (Vf hT U U U) U U U (Jb (Jd rfl) U U U ?_)
 refine Jg (Ja (Ve ?_))
 refine J.fact (p := OwnAt va R.length vc ((R.map (·.1)).map Value.string)) (fun w s => Vu (s.pick Jm)) fun ov => ?_
 refine Wn (α := Nat) (fun j => j ≤ R.length) (fun j => [(0, .func (.yield k) #[] #[]), (1, .pointer (some ⟨c1, 0, none⟩)), (2, .pointer (some ⟨c2, 0, none⟩)), (4, .map (some cm)), (21, .slice va R.length vc), (22, .int .i64 R.length), (23, .int .i64 j)]) (fun j => St j ++ (own 9 1 (.slice va R.length vc) R.length ((R.map (·.1)).map Value.string) :: mapA Value.string (fun _ => True) cm (kvT m) :: row c2 3 [.int .i64 (i : Int)] :: row c1 30 [.pointer (some ⟨b, 0, none⟩)] :: l)) (fun j => R.length - j) 0 (Nat.zero_le _) ⟨U, U, U, U, U, U, U, trivial⟩ (fun w h => Sat.rot (p := [own 9 1 (.slice va R.length vc) R.length ((R.map (·.1)).map Value.string), mapA Value.string (fun _ => True) cm (kvT m), row c2 3 [.int .i64 (i : Int)], row c1 30 [.pointer (some ⟨b, 0, none⟩)]]) (g := St 0) (h.sup zsup)) ?_
 intro j hj
 refine Jh (Je (Jb (y_lss U U) U U U ?_))
 refine Jg (Ja (Jh ?_))
 first | apply Jx rfl | apply Vo rfl
 case' ht =>
  intro h
  try (first | exact zom | exact zho h | subst h)
  all_goals
   refine Vd ?_
 case' hf =>
  intro h
  try (first | exact zom | exact zho h | subst h)
  all_goals
   refine Wl (Jv (Jv (Vl ?_)))
   refine JE.ret0 (.inr rfl) U U  ?_
   first
    | (have zz := hlt
       refine ⟨Fin j ++ l, fun w q => ?_, .inr ⟨j, hlt, rfl⟩⟩
       exact q.sup zsup)
    | (obtain rfl : j = R.length := by omega
       refine ⟨St R.length ++ l, fun w q => ?_, .inl rfl⟩
       exact q.sup zsup)
 all_goals refine Ja ?_
 all_goals
  refine Jh (Ve (Jh (Je ?_)))
  have hlt : j < R.length := by omega
  obtain ⟨⟨key, v⟩, hkv⟩ : ∃ p, R[j]? = some p := ⟨R[j]'hlt, List.getElem?_eq_getElem _⟩
  have hkj : ((R.map (·.1)).map Value.string)[j]? = some (.string key) := by simp [hkv]
  have hsz := hok.small _ (List.mem_of_getElem? hkv)
  dsimp only at hsz
  have hlk : lookV false (mlook (kvT m) key) (.string ⟨#[]⟩) = .string v := by
   rw [mlook_kvT, rget_perm hm hok.srt.nodup, rget_at hok.srt hkv]; rfl
  obtain ⟨gv, rfl⟩ := ov.at_.resolve_right fun ⟨h0, _⟩ => by have := ov.le; omega
  refine Jb (Jn hT U U U U U zix zix) U U U ?_
  refine Jb (Jo hT U U U (Rd1.elem (RdN.own zpk) hkj)) U U U ?_
  refine Jb (Jf rfl) U U U ?_
  refine Jg (Ja (Jh (Je (Jb (Jd rfl) U U U (Jb (Jd rfl) U U U (Jb (Jd rfl) U U U (Jb (Jd rfl) U U U ?_)))))))
  refine Jb ((y_lookup (a := key) hT U U U U (keyStr hT U U) U U U trivial zpk).cast (u := .string v) hlk) U U U ?_
  refine Jl rfl (l_convStr (s := v) hT U U U U U U U (by omega) rfl (fun g c KK hKK => ?_))
  refine JL.yield U U U (hy _ j key v g c KK hkv hKK) ?_
  rintro _ _ (⟨rfl, rfl⟩ | ⟨rfl, rfl⟩)
  all_goals (refine Jb (y_not rfl) U U U ?_)
  all_goals refine Jg (Ja ?_)
  all_goals
   first | apply Jx rfl | apply Vo rfl
   case' ht =>
    intro h
    try (first | exact zom | exact zho h | subst h)
    all_goals
     refine Vn (Vj (Vb (Vb (Vj ?_))))
     refine JE.ret0 (.inl rfl) U U  ?_
     first
      | (have zz := hlt
         refine ⟨Fin j ++ l, fun w q => ?_, .inr ⟨j, hlt, rfl⟩⟩
         exact q.sup zsup)
      | (obtain rfl : j = R.length := by omega
         refine ⟨St R.length ++ l, fun w q => ?_, .inl rfl⟩
         exact q.sup zsup)
   case' hf =>
    intro h
    try (first | exact zom | exact zho h | subst h)
    all_goals
     refine Vd ?_
  all_goals refine Ju (Ja ?_)
  all_goals
   refine Je ?_
   refine Jb (Wa U U zwr) U U U ?_
   refine Jb (Jd rfl) U U U ?_
   refine Jg ?_
 all_goals
  exact Vt (s := j) (j + 1) (by omega) ⟨U, U, U, U, U, U, U, trivial⟩ (fun w q => q) (by omega)
end
end
section
open Go Go.SL
attribute [local irreducible] J JL JE JM LS Y Fc RV Code.wp wpList Code.wpIn wpListIn
attribute [local irreducible] Yc
variable (E : World)
end
section
open Go Go.SL
attribute [local irreducible] J JL JE JM LS Y Fc RV Code.wp wpList Code.wpIn wpListIn
attribute [local irreducible] Yc
variable (E : World)
end
section
open Go Go.SL
attribute [local irreducible] J JL JE JM LS Y Fc RV Code.wp wpList Code.wpIn wpListIn
attribute [local irreducible] Yc
variable (E : World)
section
variable (x lg : Nat) (br : Bool) (last : BitVec 64) (ph hops : Int) (got : Value) (l : List HProp)
end
end
section
open Go Go.SL
attribute [local irreducible] J JL JE JM LS Y Fc RV Code.wp wpList Code.wpIn wpListIn
attribute [local irreducible] Yc
variable (E : World)
section
variable (x lg st d : Nat) (last : BitVec 64) (hops : Int) (got : Value) (S Sa : Sb) (D X : Dk) (L La : Lg) (p : Option Addr) (cap n : Nat) (ks : List (List Int)) (l : List HProp) (hn : ks.length = n) (hn1 : 1 ≤ n) (hn3 : n ≤ 3) (hk : ∀ k ∈ ks, (ints .u8 k).length = 32) (hin : InL l p n cap (ks.flatMap (ints .u8)))
include hn hn1 hn3 hk hin
end
end
section
open Go Go.SL
end
section
open Go Go.SL
attribute [local irreducible] J JL JE JM LS Y Fc RV Code.wp wpList Code.wpIn wpListIn
attribute [local irreducible] Yc
variable (E : World)
end
end Go.Proofs.YtaopifoidbdniaaGreat
