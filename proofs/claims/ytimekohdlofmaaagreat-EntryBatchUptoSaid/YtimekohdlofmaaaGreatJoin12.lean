import Derived.Test.YtimekohdlofmaaaGreatJoin2
import Derived.Test.YtimekohdlofmaaaGreatJoin4
import Derived.Test.YtimekohdlofmaaaGreatJoin11
/- What is done to an entry, step by step: what the entry comes to, and what the document says. -/
namespace Go.Proofs.YtimekohdlofmaaaGreat
open Go Go.SL
theorem Fc.conv {P : Program} {E : World} {f : FuncId} {args : Array Value} {l l1 : List HProp} {R R1 : Value → List HProp → Prop} (h : Fc P E f args l1 R1) (hi : ∀ w, Sat E (stars l) w → Sat E (stars l1) w) (hr : ∀ v l', R1 v l' → ∃ l'', (∀ w, Sat E (stars l') w → Sat E (stars l'') w) ∧ R v l'') : Fc P E f args l R := Fc.imp (Wi (h.mono hr)) hi
/-- An entry's state. -/
structure ES where
  x : Nat
  lg : Nat
  st : Nat
  g : Nat
  S : Sb
  D : Dk
  L : Lg
  last : BitVec 64
  ph : Int
  hops : Int
  G : List (Int × List Int)
def ES.got (s : ES) : Value := if s.ph = 0 then .map none else .map (some s.g)
def ES.gotP (s : ES) : HProp := if s.ph = 0 then pur True else gotM s.g s.G
def ES.parts (d : Nat) (s : ES) : List HProp := [entR s.x s.lg false s.last s.ph s.hops s.got, s.gotP, logm s.lg s.st s.L, row s.st 224 (scells s.S d), disk d s.D]
def ES.H (d : Nat) (s : ES) : HProp := stars (s.parts d)
structure ES.Ok (M i : Nat) (s : ES) : Prop where
  lh : LH s.S s.D s.L
  num : entryN s.L = some s.last
  turn : s.S.turn.toNat ≤ i
  low : s.last.toNat ≤ i
  len : s.D.safe.length = M
  phase : (s.ph = 0 ∧ s.hops = 0 ∧ s.G = []) ∨ ((s.ph = 1 ∨ s.ph = 2) ∧ 1 ≤ s.hops ∧ s.hops ≤ 3)
  placed : Placed s.G
  keys : ∀ p ∈ s.G, 0 ≤ p.1 ∧ p.1 < 12
  size : ∀ p ∈ s.G, p.2.length ≤ 1000000
  byt : ∀ p ∈ s.G, Bytes p.2
  few : s.G.length ≤ i
theorem ES.Ok.mono {M i j : Nat} {s : ES} (h : s.Ok M i) (hj : i ≤ j) : s.Ok M j := ⟨h.lh, h.num, Nat.le_trans h.turn hj, Nat.le_trans h.low hj, h.len, h.phase, h.placed, h.keys, h.size, h.byt, Nat.le_trans h.few hj⟩
theorem rise_le : ∀ (ks : List Int) (lo : Int), ks.Pairwise (· < ·) → (∀ k ∈ ks, lo ≤ k ∧ k < 12) → (ks.length : Int) ≤ max (12 - lo) 0
  | [], _, _, _ => by simp; omega
  | k :: ks, lo, hp, h => by
    have h1 := h k (by simp)
    rw [List.pairwise_cons] at hp
    have h2 := rise_le ks (k + 1) hp.2 fun x hx => ⟨by have := hp.1 x hx; omega, (h x (by simp [hx])).2⟩
    rw [List.length_cons]
    omega
theorem ES.Ok.twelve {M i : Nat} {s : ES} (h : s.Ok M i) : s.G.length ≤ 12 := by
  have z := rise_le (s.G.map fun p : Int × List Int => p.1) 0 h.placed (fun k hk => by
    obtain ⟨p, hp, rfl⟩ := List.mem_map.1 hk
    exact h.keys p hp)
  rw [List.length_map] at z
  omega
def ES.over (s : ES) : ES := { s with ph := 0, hops := 0, G := [] }
theorem ES.Ok.over {M i : Nat} {s : ES} (h : s.Ok M i) : s.over.Ok M i := ⟨h.lh, h.num, h.turn, h.low, h.len, .inl ⟨rfl, rfl, rfl⟩, List.Pairwise.nil, fun p hp => (by cases hp), fun p hp => (by cases hp), fun p hp => (by cases hp), Nat.zero_le _⟩
theorem ES.shut {E w : World} {d : Nat} {l : List HProp} (s : ES) (q : Sat E (stars (entR s.x s.lg false s.last s.ph s.hops s.got :: s.gotP :: logm s.lg s.st s.L :: row s.st 224 (scells s.S d) :: disk d s.D :: l)) w) : Sat E (stars (s.H d :: l)) w := Sat.fold (m := s.parts d) q
theorem ES.open {P : Program} {E : World} {f : FuncId} {args : Array Value} {R : Value → List HProp → Prop} {d : Nat} {l : List HProp} {s : ES} (h : Fc P E f args (entR s.x s.lg false s.last s.ph s.hops s.got :: s.gotP :: logm s.lg s.st s.L :: row s.st 224 (scells s.S d) :: disk d s.D :: l) R) : Fc P E f args (s.H d :: l) R := Fc.imp h fun _ q => Sat.unfold (m := s.parts d) q
theorem ES.busy {s : ES} (h : ¬ s.ph = 0) : s.got = .map (some s.g) ∧ s.gotP = gotM s.g s.G := ⟨if_neg h, if_neg h⟩
theorem RGot.none {K : HProp} {last : BitVec 64} : RGot K last 0 none 0 [] [] := ⟨rfl, Nat.zero_le _, ⟨Nat.le_refl _, Nat.zero_le _, .inr ⟨rfl, rfl⟩⟩, ⟨rfl, fun i b h => by simp at h⟩, fun p hp => (by cases hp)⟩
section
attribute [local irreducible] J JL JE JM LS Y Fc RV Code.wp wpList Code.wpIn wpListIn
attribute [local irreducible] Yc
variable (E : World)
end
end Go.Proofs.YtimekohdlofmaaaGreat
/- A round announced, onions collected, batches told, replies fanned out: the entry and the document side by side. -/
namespace Go.Proofs.YtimekohdlofmaaaGreat
open Go Go.SL
section
attribute [local irreducible] J JL JE JM LS Y Fc RV Code.wp wpList Code.wpIn wpListIn
attribute [local irreducible] Yc
variable (E : World)
theorem announce_any {S : Sb} {D : Dk} {L : Lg} {last : BitVec 64} (h : LH S D L) (hN : entryN L = some last) (hlast : last + 1#64 ≠ 0#64) (ht : S.turn.toNat + 1 < 18446744073709551616) (h64 : 64 ≤ D.safe.length) :
    ∃ A Sa D', LH Sa D' A ∧ entryN A = some (last + 1#64) ∧ Sa.turn.toNat ≤ S.turn.toNat + 1 ∧ D'.safe.length = D.safe.length ∧ ∀ (x lg st d : Nat) (hops : Int) (got : Value) (p : Option Addr) (cap n : Nat) (ks : List (List Int)) (l : List HProp), ks.length = n → 1 ≤ n → n ≤ 3 → (∀ k ∈ ks, (ints .u8 k).length = 32) → InL l p n cap (ks.flatMap (ints .u8)) →
      Fc prog E 13 [.pointer (some ⟨x, 0, none⟩), .slice p n cap].toArray (entR x lg false last 0 hops got :: logm lg st L :: row st 224 (scells S d) :: disk d D :: l)
        (fun v l' => ∃ a c g, v = .tuple #[.agg #[Q (last + 1#64), .slice a n c], .int .i64 0] ∧ l' = own 73 32 (.slice a n c) n (ks.flatMap (ints .u8)) :: blk g (.map #[] 0) :: entR x lg false (last + 1#64) 1 n (.map (some g)) :: logm lg st A :: row st 224 (scells Sa d) :: disk d D' :: l) := by
  obtain ⟨A, La, Sa, X, e, hA, hK, hc⟩ := announce_lh E (a := none) h hN hlast (fun k hk => by cases hk) ht h64
  rcases hK.out with ⟨rfl, rfl, htn, D', a', rfl, hL, hl, hn, _⟩ | ⟨_, hne, _⟩
  · obtain rfl := hn rfl
    refine ⟨La, Sa, D', hL, hA, htn, hl, fun x lg st d hops got p cap n ks l h1 h2 h3 h4 h5 => ?_⟩
    exact (announce_spec E x lg st d last hops got S Sa D D' L La p cap n ks l h1 h2 h3 h4 h5 0 hlast (fun l => hc x lg st d hops got l)).mono fun v l' q => by
      rcases q with ⟨_, q⟩ | ⟨q, _⟩
      · exact q
      · exact absurd rfl q
  · exact absurd rfl hne
end
end Go.Proofs.YtimekohdlofmaaaGreat
/- Onions collected, batches told, replies fanned out, an entry opened anew: the entry and the document side by side. -/
namespace Go.Proofs.YtimekohdlofmaaaGreat
open Go Go.SL
section
attribute [local irreducible] J JL JE JM LS Y Fc RV Code.wp wpList Code.wpIn wpListIn
attribute [local irreducible] Yc
variable (E : World)
theorem new_find {M : Nat} (j : Nat) (hj : j < M) : (Dk.new M).find j = zeroB := by
  simp only [Dk.find, Dk.new, List.reverse_nil, List.find?_nil, Int.toNat_natCast]
  rw [List.getD_eq_getElem?_getD, List.getElem?_replicate, if_pos hj]
  rfl
theorem new_counts {M : Nat} (h : 2 ≤ M) : (Dk.new M).counts = none := by
  have h0 : (Dk.new M).find 0 = zeroB := new_find 0 (by omega)
  have h1 : (Dk.new M).find 1 = zeroB := new_find 1 (by omega)
  have hz : sbOk zeroB = false := by decide +kernel
  simp only [Dk.counts, h0, h1, hz, Bool.false_eq_true, if_false]
theorem es_new {M : Nat} (h1 : 64 ≤ M) (h2 : M ≤ 512) (d : Nat) (l : List HProp) : Fc prog E 12 [.pointer (some ⟨d, 0, none⟩)].toArray (disk d (Dk.new M) :: l) (fun v l' => ∃ s : ES, s.Ok M 0 ∧ s.last = 0#64 ∧ s.ph = 0 ∧ s.hops = 0 ∧ s.G = [] ∧ v = .tuple #[.pointer (some ⟨s.x, 0, none⟩), .int .i64 0] ∧ l' = s.H d :: l) := by
  obtain ⟨hL, hl⟩ := lh_format h1 h2
  have hu : Up (Dk.new M) := new_up (by omega) h2
  have hlen : (Dk.new M).safe.length = M := by simp [Dk.new]
  have hsb : (sbBlock sb0).length = 64 := sbBlock_length sb0_hash
  have w1 := hu.write (sbBlock sb0) (i := 0) (by omega)
  have hu1 := hu.push (i := 0) (b := sbBlock sb0) (by omega) hsb
  have hl1 : ((Dk.new M).does.push 0 (sbBlock sb0)).safe.length = M := hlen
  have w2 := hu1.write zeroB (i := 1) (by omega)
  have hu2 := hu1.push (i := 1) (b := zeroB) (by omega) rfl
  have w3 : (((Dk.new M).does.push 0 (sbBlock sb0)).does.push 1 zeroB).sync = ((Dk.new M).formatted, 0) := by
    rw [Dk.sync, if_neg (by rw [hu2.dead]; simp), if_neg (by rw [hu2.armed]; simp)]
    rfl
  have hF : formatF (Dk.new M) = ((Dk.new M).formatted, 0) := by
    unfold formatF
    rw [w1]
    dsimp only
    rw [if_pos rfl, w2]
    dsimp only
    rw [if_pos rfl, w3]
  have hst : ∀ l, Fc prog E 61 [.pointer (some ⟨d, 0, none⟩)].toArray (disk d (Dk.new M) :: l) (fun v l' => ∃ st, v = .tuple #[.pointer (some ⟨st, 0, none⟩), .int .i64 0] ∧ l' = row st 224 (scells sb0 d) :: disk d (Dk.new M).formatted :: l) := fun l => by
    have q := storeF_spec E d (Dk.new M) l (by rw [hlen]; exact h1) hu.dead (by simp [Dk.new]) (new_counts (by omega))
    rw [hF] at q
    refine q.mono fun v l' q => ?_
    rcases q with ⟨_, q⟩ | ⟨q, _⟩
    · exact q
    · exact absurd rfl q
  refine Wi ((eopen_spec E d sb0 (Dk.new M) (Dk.new M).formatted lg0 hst (fun st l => lopenA_spec E st d sb0 _ lg0 none l hL) l).mono fun v l' q => ?_)
  rcases q with ⟨n, x, lg, st, f1, f2, f3⟩ | ⟨f1, _⟩
  · rw [entryN_lg0] at f1
    cases f1
    refine ⟨(ES.mk x lg st 0 sb0 (Dk.new M).formatted lg0 0#64 0 0 []).H d :: l, fun w q => ?_, ES.mk x lg st 0 sb0 (Dk.new M).formatted lg0 0#64 0 0 [], ⟨hL, entryN_lg0, Nat.le_refl _, Nat.le_refl _, hl, .inl ⟨rfl, rfl, rfl⟩, List.Pairwise.nil, fun p hp => (by cases hp), fun p hp => (by cases hp), fun p hp => (by cases hp), Nat.le_refl _⟩, rfl, rfl, rfl, rfl, f2, rfl⟩
    subst f3
    exact ES.shut (ES.mk x lg st 0 sb0 (Dk.new M).formatted lg0 0#64 0 0 []) ((Sat.topur trivial q).pick (Jx Jp))
  · rw [entryN_lg0] at f1; cases f1
end
end Go.Proofs.YtimekohdlofmaaaGreat
/- What the law hands to an entry: the bytes that are collected, and where they lie. -/
namespace Go.Proofs.YtimekohdlofmaaaGreat
open Go Go.SL
section
attribute [local irreducible] J JL JE JM LS Y Fc RV Code.wp wpList Code.wpIn wpListIn
attribute [local irreducible] Yc
variable (E : World)
end
end Go.Proofs.YtimekohdlofmaaaGreat
/- Onions of a batch: what is put up, where it is kept, how a batch is in order. -/
namespace Go.Proofs.YtimekohdlofmaaaGreat
open Go Go.SL
/-- An argument's Up. -/
structure Up22 where
  client : Int
  slot : Int
  round : Int
  p : Option Addr
  c : Nat
  onion : List Int
def upV (u : Up22) : List Value := [.int .i64 u.client, .int .i64 u.slot, .int .u64 u.round, .slice u.p u.onion.length u.c]
theorem upV_one (u : Up22) : ∀ v ∈ upV u, v.oneCell' = true := by
  intro v hv
  simp only [upV, List.mem_cons, List.not_mem_nil, or_false] at hv
  rcases hv with rfl | rfl | rfl | rfl <;> rfl
structure Up22.Ok (u : Up22) (l : List HProp) : Prop where
  client : I64 u.client
  slot : I64 u.slot
  byt : Bytes u.onion
  few : u.onion.length ≤ 1048576
  inl : InL l u.p u.onion.length u.c (ints .u8 u.onion)
/-- A client, a slot, an onion of 242 bytes. -/
abbrev Trip := Int × Int × List Int
structure TripOk (t : Trip) : Prop where
  client : 0 ≤ t.1 ∧ t.1 < 4
  slot : 0 ≤ t.2.1 ∧ t.2.1 < 3
  len : t.2.2.length = 242
  byt : Bytes t.2.2
def cutO (b : List Int) : List Int := (b ++ List.replicate 242 0).take 242
theorem cutO_len (b : List Int) : (cutO b).length = 242 := by unfold cutO; rw [List.length_take, List.length_append, List.length_replicate]; omega
theorem cutO_byt {b : List Int} (h : Bytes b) : Bytes (cutO b) := fun y hy => by
  rcases List.mem_append.1 (List.mem_of_mem_take hy) with q | q
  · exact h y q
  · rw [List.eq_of_mem_replicate q]; decide
def pktT (t : Trip) : List Int := packB 2 t.1 t.2.1 1#64 t.2.2
def plc (t : Trip) : Int × List Int := (t.1 * 3 + t.2.1, t.2.2)
theorem pktT_len {t : Trip} (h : TripOk t) : (pktT t).length = 253 := by unfold pktT packB; simp [leB_length, h.len]
theorem pktT_byt {t : Trip} (h : TripOk t) : Bytes (pktT t) := by
  unfold pktT packB
  intro y hy
  simp only [List.cons_append, List.nil_append, List.append_assoc, List.mem_cons, List.mem_append, List.not_mem_nil, or_false] at hy
  rcases hy with rfl | rfl | rfl | hy | hy
  · decide
  · have := h.client; omega
  · have := h.slot; omega
  · exact Bytes.leB 8 _ y hy
  · exact h.byt y hy
theorem pktT_parts (t : Trip) : (pktT t).getD 0 0 = 2 ∧ (pktT t).getD 1 0 = t.1 ∧ (pktT t).getD 2 0 = t.2.1 ∧ roundN (pktT t) = 1#64 ∧ (pktT t).drop 11 = t.2.2 := by
  refine ⟨rfl, rfl, rfl, ?_, ?_⟩
  · unfold roundN
    have e : ((pktT t).drop 3).take 8 = leB 8 1#64 := by
      unfold pktT packB
      simp [leB_length]
    rw [e]
    decide
  · unfold pktT packB
    simp [leB_length]
theorem col_pkt {G : List (Int × List Int)} {t : Trip} (h : TripOk t) : colE 1#64 2 G (pktT t) = (if ∃ p ∈ G, p.1 = (plc t).1 then 5 else 0) ∧ placeN (pktT t) = (plc t).1 := by
  obtain ⟨p0, p1, p2, p3, p4⟩ := pktT_parts t
  have hl := pktT_len h
  have hu : upE (pktT t) = 0 := by
    unfold upE
    have p3' : leG (List.take 8 (List.drop 3 (pktT t))) 8 = 1#64 := p3
    rw [hl, p0, p1, p2]
    first | rw [p3] | rw [p3']
    rw [if_neg (by decide), if_neg]
    rintro (q | q)
    · exact q rfl
    · unfold endsB at q
      rw [decide_eq_false_iff_not] at q
      have a1 := h.client
      have a2 := h.slot
      exact q ⟨a1.1, a1.2, a2.1, a2.2, by decide⟩
  have hp : placeN (pktT t) = (plc t).1 := by unfold placeN plc; rw [p1, p2]
  refine ⟨?_, hp⟩
  unfold colE
  rw [if_neg (by rw [hu]; decide), hl, if_neg (by decide), p3, if_neg (by decide), hp]
theorem colG_pkt {G : List (Int × List Int)} {t : Trip} (h : TripOk t) (hn : ¬ ∃ p ∈ G, p.1 = (plc t).1) : colE 1#64 2 G (pktT t) = 0 ∧ colG 1#64 2 G (pktT t) = plc t :: G := by
  obtain ⟨e1, e2⟩ := col_pkt (G := G) h
  rw [if_neg hn] at e1
  refine ⟨e1, ?_⟩
  unfold colG
  rw [if_pos e1, e2, (pktT_parts t).2.2.2.2]
  rfl
theorem colG_there {G : List (Int × List Int)} {t : Trip} (h : TripOk t) (hn : ∃ p ∈ G, p.1 = (plc t).1) : colE 1#64 2 G (pktT t) = 5 ∧ colG 1#64 2 G (pktT t) = G := by
  obtain ⟨e1, e2⟩ := col_pkt (G := G) h
  rw [if_pos hn] at e1
  refine ⟨e1, ?_⟩
  unfold colG
  rw [if_neg (by rw [e1]; decide)]
/-- Places in order. -/
def inOrder : List (Int × List Int) → List (Int × List Int)
  | [] => []
  | p :: r => insP p (inOrder r)
theorem inOrder_perm : ∀ G, (inOrder G).Perm G
  | [] => List.Perm.refl _
  | p :: r => (insP_perm p _).trans (List.Perm.cons p (inOrder_perm r))
theorem inOrder_placed : ∀ {G : List (Int × List Int)}, (G.map fun p : Int × List Int => p.1).Nodup → Placed (inOrder G)
  | [], _ => List.Pairwise.nil
  | p :: r, h => by
    rw [List.map_cons, List.nodup_cons] at h
    refine insP_placed (inOrder_placed h.2) fun q hq e => h.1 ?_
    exact List.mem_map.2 ⟨q, (inOrder_perm r).subset hq, e⟩
theorem turned_get {α : Type} {G : List α} {n k i : Nat} (hn : G.length = n) (hk : k < n) (hi : i < n) : (G.drop k ++ G.take k)[i]? = G[(i + k) % n]? := by
  rcases Nat.lt_or_ge i (n - k) with h | h
  · rw [List.getElem?_append_left (by rw [List.length_drop]; omega), List.getElem?_drop, Nat.mod_eq_of_lt (by omega), Nat.add_comm]
  · rw [List.getElem?_append_right (by rw [List.length_drop]; omega), List.length_drop, List.getElem?_take, if_pos (by omega)]
    congr 1
    rw [Nat.mod_eq_sub_mod (by omega), Nat.mod_eq_of_lt (by omega)]
    omega
theorem turned_perm {α : Type} (G : List α) (k : Nat) : (G.drop k ++ G.take k).Perm G := by
  have h := List.perm_append_comm (l₁ := G.drop k) (l₂ := G.take k)
  rwa [List.take_append_drop] at h
/-- Keys of client and slot. -/
def pairV (q : Int × Int) : List Value := [.int .i64 q.1, .int .i64 q.2]
theorem keyPair : KeyOk prog 58 (fun q : Int × Int => .agg (pairV q).toArray) (fun _ => True) :=
  keyFlat hT (n := 2) (ks := [.int .i64, .int .i64]) (by kernel_rfl) rfl (by kernel_rfl) O O (fun a _ => ⟨⟨a.1, rfl⟩, ⟨a.2, rfl⟩, trivial⟩) (fun a b _ _ h => by
    simp only [pairV, List.cons.injEq, Value.int.injEq, true_and, and_true] at h
    exact Prod.ext h.1 h.2)
theorem fill_pair (a b : Int) : Instr.fill (fun q => some (q * 1, 1)) [Value.int .i64 0, Value.int .i64 0].toArray [(0, .int .i64 a), (1, .int .i64 b)] = some (pairV (a, b)).toArray := by
  have h := fill_eq (fun i => some (i * 1, 1)) [(0, 1), (1, 1)] [(0, .int .i64 a), (1, .int .i64 b)] [Value.int .i64 0, Value.int .i64 0] (by intro q hq; simp at hq; rcases hq with rfl | rfl <;> rfl) (by simp [fillOk, Value.cells])
  rw [h]
  simp [fillE, Value.cells, pairV]
/-- What was met. -/
def metL (U : List Trip) : List ((Int × Int) × Value) := U.map fun t => ((t.1, t.2.1), .bool true)
theorem met_look (U : List Trip) (q : Int × Int) : mlook (metL U) q = if ∃ t ∈ U, (t.1, t.2.1) = q then some (.bool true) else none := by
  induction U with
  | nil => simp [metL, mlook]
  | cons t U ih =>
    unfold metL at ih ⊢
    rw [List.map_cons, mlook]
    by_cases h : q = (t.1, t.2.1)
    · rw [if_pos h, if_pos ⟨t, by simp, h.symm⟩]
    · rw [if_neg h, ih]
      congr 1
      simp only [List.mem_cons, eq_iff_iff]
      constructor
      · rintro ⟨u, hu, e⟩; exact ⟨u, .inr hu, e⟩
      · rintro ⟨u, rfl | hu, e⟩
        · exact absurd e.symm h
        · exact ⟨u, hu, e⟩
theorem met_put {U : List Trip} {t : Trip} (h : ¬ ∃ u ∈ U, (u.1, u.2.1) = (t.1, t.2.1)) : mput (metL U) (t.1, t.2.1) (.bool true) = metL (U ++ [t]) := by
  have e : mlook (metL U) (t.1, t.2.1) = none := by rw [met_look, if_neg h]
  have e2 := mput_new (v := .bool true) e
  rw [e2]
  unfold metL
  rw [List.map_append]
  rfl
section
attribute [local irreducible] J JL JE JM LS Y Fc RV Code.wp wpList Code.wpIn wpListIn
attribute [local irreducible] Yc
variable (E : World)
theorem putup2 (c s : Int) (b : List Int) (hl : b.length = 242) :
    ∃ (e : Int) (n' : Nat) (bs' : List Int), bs'.length = n' ∧ ((e = 0 ∧ (0 ≤ c ∧ c < 4 ∧ 0 ≤ s ∧ s < 3) ∧ bs' = pktT (c, s, b)) ∨ e = 241) ∧ ∀ l (p : Option Addr) (cap : Nat), InL l p 242 cap (ints .u8 b) →
      Fc prog E 24 [.agg #[.int .i64 c, .int .i64 s, Q 1#64, .slice p 242 cap]].toArray l (fun v l' => ∃ a c', v = .tuple #[.slice a n' c', .int .i64 e] ∧ l' = own 5 1 (.slice a n' c') n' (ints .u8 bs') :: l) := by
  cases he : endsB c s 1#64 with
  | true =>
    have hcs : 0 ≤ c ∧ c < 4 ∧ 0 ≤ s ∧ s < 3 ∧ 0 < (1#64 : BitVec 64).toNat := of_decide_eq_true he
    have h253 : (pktT (c, s, b)).length = 253 := by unfold pktT packB; simp [leB_length, hl]
    refine ⟨0, 253, pktT (c, s, b), h253, .inl ⟨rfl, ⟨hcs.1, hcs.2.1, hcs.2.2.1, hcs.2.2.2.1⟩, rfl⟩, fun l p cap hin => ?_⟩
    refine (putup_spec E c s 1#64 p cap 242 b l hl (by decide) hin).mono fun v l' q => ?_
    rcases q with ⟨_, _, a, c', h1, h2⟩ | ⟨q, _⟩
    · exact ⟨a, c', h1, h2⟩
    · rw [he] at q; cases q
  | false =>
    refine ⟨241, 0, [], rfl, .inr rfl, fun l p cap hin => ?_⟩
    refine Wi ((putup_spec E c s 1#64 p cap 242 b l hl (by decide) hin).mono fun v l' q => ?_)
    rcases q with ⟨q, _⟩ | ⟨_, h1, h2⟩
    · rw [he] at q; cases q
    · exact ⟨own 5 1 (.slice none 0 0) 0 [] :: l, fun w s => Sat.own_nil (by subst h2; exact s), none, 0, h1, rfl⟩
end
section
open Go.ChangeShapes Go.WideShapes Go.ChangeAt Go.RowKit
set_option maxRecDepth 100000 in
theorem tr_up22 {H : Type} {enc : TypeId × Value → H} {w : World} {ok : DataW H → Prop} {L : Nat → Prop} {cs : List Value} (her : Her ok L) (hL1 : ∀ n, L n → n ≤ 1048576) (h : Tr enc prog ok w 54 cs) : ∃ u : Up22, cs = upV u ∧ u.Ok [old w] := by
  obtain ⟨hl, hf⟩ := Tr.struct her u54 h
  rw [show prog.cellsOf 54 = 4 by kernel_rfl] at hl
  match cs, hl with
  | [a0, a1, a2, a3], _ =>
    have h0 := hf 0 _ rfl
    have h1 := hf 1 _ rfl
    have h2 := hf 2 _ rfl
    have h3 := hf 3 _ rfl
    dsimp only at h0 h1 h2 h3
    rw [show prog.cellsOf 3 = 1 by kernel_rfl] at h0 h1
    rw [show prog.cellsOf 30 = 1 by kernel_rfl] at h2
    rw [show prog.cellsOf 22 = 1 by kernel_rfl] at h3
    obtain ⟨k0, e0, r0⟩ := Tr.int u3 h0
    obtain ⟨k1, e1, r1⟩ := Tr.int u3 h1
    obtain ⟨k2, e2, r2⟩ := Tr.int u30 h2
    obtain ⟨p, c, bs, e3, hL, hb, hi⟩ := tr_bytesR her h3
    cases e0; cases e1; cases e2; cases e3
    exact ⟨⟨k0, k1, k2, p, c, bs⟩, rfl, ⟨r0, r1, hb, hL1 _ hL, hi.inl []⟩⟩
set_option maxRecDepth 100000 in
theorem tr_ups22 {H : Type} {enc : TypeId × Value → H} {w : World} {ok : DataW H → Prop} {L : Nat → Prop} {v : Value} (her : Her ok L) (hL1 : ∀ n, L n → n ≤ 1048576) (h : Tr enc prog ok w 48 [v]) : ∃ (p : Option Addr) (cap : Nat) (xs : List Up22), v = .slice p xs.length cap ∧ (∀ x ∈ xs, x.Ok [old w]) ∧ InW w p xs.length cap (xs.flatMap upV) := by
  obtain ⟨p, cap, xs, h1, _, hk, h2⟩ := Tr.slice (encA := upV) (okA := fun u : Up22 => u.Ok [old w]) (k := 4) her u48 (by kernel_rfl) (by decide) (fun _ _ => rfl) (fun cs hc => tr_up22 her hL1 hc) h
  exact ⟨p, cap, xs, h1, hk, h2⟩
end
end Go.Proofs.YtimekohdlofmaaaGreat
