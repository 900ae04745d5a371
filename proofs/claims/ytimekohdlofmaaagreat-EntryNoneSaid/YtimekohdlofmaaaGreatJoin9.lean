import Derived.Test.YtimekohdlofmaaaGreatJoin1
import Derived.Test.YtimekohdlofmaaaGreatJoin7
import Derived.Test.YtimekohdlofmaaaGreatJoin8
namespace Go.Proofs.YtimekohdlofmaaaGreat
open Go Go.SL
/-! Chapter 22: an entry of a log. -/
/-- An entry's cells. -/
def ecells (lg : Nat) (br : Bool) (last : BitVec 64) (ph hops : Int) (got : Value) : List Value := [.pointer (some ⟨lg, 0, none⟩), .bool br, Q last, .int .i64 ph, .int .i64 hops, got]
def enext (n : BitVec 64) (b : List Int) : Option (BitVec 64) := if b.length = 8 ∧ n.toNat < (leG b 8).toNat then some (leG b 8) else none
def echain (n : BitVec 64) : List (List Int) → Option (BitVec 64)
  | [] => some n
  | b :: r => (enext n b).bind fun m => echain m r
def estart (s : List Int) : Option (BitVec 64) := if s.length = 0 then some 0#64 else if s.length = 8 then some (leG s 8) else none
def entryN (L : Lg) : Option (BitVec 64) := (estart L.snap).bind fun n => echain n L.txs
theorem echain_append (n : BitVec 64) (xs ys : List (List Int)) : echain n (xs ++ ys) = (echain n xs).bind fun m => echain m ys := by
  induction xs generalizing n with
  | nil => rfl
  | cons b r ih =>
    simp only [List.cons_append, echain]
    cases enext n b with
    | none => rfl
    | some m => exact ih m
theorem echain_step {n m : BitVec 64} {txs : List (List Int)} {j : Nat} {b : List Int} (h : echain n (txs.take j) = some m) (hb : txs[j]? = some b) : echain n (txs.take (j + 1)) = enext m b := by
  rw [List.take_add_one, hb, show (some b).toList = [b] from rfl, echain_append, h]
  simp [echain]
theorem echain_bad {n m : BitVec 64} {txs : List (List Int)} {j : Nat} {b : List Int} (h : echain n (txs.take j) = some m) (hb : txs[j]? = some b) (hn : enext m b = none) : echain n txs = none := by
  rw [← List.take_append_drop (j + 1) txs, echain_append, echain_step h hb, hn]
  rfl
/-- The number behind so many transactions. -/
def echN (n : BitVec 64) (txs : List (List Int)) (j : Nat) : BitVec 64 := (echain n (txs.take j)).getD 0#64
theorem echN_of {n m : BitVec 64} {txs : List (List Int)} {j : Nat} (h : echain n (txs.take j) = some m) : echN n txs j = m := by rw [echN, h]; rfl
/-- What opening an entry comes to. -/
def eopenP (d : Nat) (S : Sb) (D' : Dk) (L : Lg) (l : List HProp) (v : Value) (l' : List HProp) : Prop :=
  (∃ n x lg st, entryN L = some n ∧ v = .tuple #[.pointer (some ⟨x, 0, none⟩), .int .i64 0] ∧ l' = row x 136 (ecells lg false n 0 0 (.map none)) :: logm lg st L :: row st 224 (scells S d) :: disk d D' :: l) ∨
  (entryN L = none ∧ v = .tuple #[.pointer none, .int .i64 320] ∧ l' = disk d D' :: l)
attribute [local irreducible] J JL JE JM LS Y Fc RV Code.wp wpList Code.wpIn wpListIn
attribute [local irreducible] Yc
variable (E : World)
theorem eopen_err (d : Nat) (D D' : Dk) (e : Int) (he : e ≠ 0) (cs : ∀ l, Fc prog E 61 [.pointer (some ⟨d, 0, none⟩)].toArray (disk d D :: l) (fun v l' => v = .tuple #[.pointer none, .int .i64 e] ∧ l' = disk d D' :: l)) (l : List HProp) :
    Fc prog E 12 [.pointer (some ⟨d, 0, none⟩)].toArray (disk d D :: l) (fun v l' => v = .tuple #[.pointer none, .int .i64 e] ∧ l' = disk d D' :: l) := by
  have hde : decide (¬ e = 0) = true := decide_eq_true he
  refine Fc.of_bodyM (c := ?codeC) Tryz.func12 ?hb Tryz.ntmps12 ?hl ?_
  case hb => exact rfl
  case hl => exact rfl
  refine J.seq ?_
  refine J.region ?_
  refine JL.step (y_assign rfl) rfl rfl rfl (JL.step (y_assign rfl) rfl rfl rfl ?_)
  refine JL.nil ?_
  refine JE.then_normal ?_
  refine J.scope ?_
  refine J.seq ?_
  refine J.region ?_
  refine JL.step (y_move rfl) rfl rfl rfl ?_
  refine JL.loud rfl (l_callF e61 rfl rfl (cs _) ?_)
  rintro _ _ ⟨rfl, rfl⟩
  refine JL.step (y_move rfl) rfl rfl rfl (JL.step (y_extract rfl rfl) rfl rfl rfl (JL.step (y_extract rfl rfl) rfl rfl rfl (JL.step (y_assign rfl) rfl rfl rfl (JL.step (y_assign rfl) rfl rfl rfl ?_))))
  refine JL.nil ?_
  refine JE.then_normal ?_
  refine J.seq ?_
  refine J.seq ?_
  refine J.region ?_
  refine JL.step (y_move rfl) rfl rfl rfl (JL.step (y_neq rfl rfl) rfl rfl rfl ?_)
  refine JL.nil ?_
  refine JE.then_normal ?_
  refine J.cond_t rfl (by (first | rfl | assumption | (simp; done) | (simp; omega))) ?_
  refine J.seq ?_
  refine J.region ?_
  refine JL.step (y_move rfl) rfl rfl rfl (JL.step (y_assign rfl) rfl rfl rfl (JL.step (y_assign rfl) rfl rfl rfl ?_))
  refine JL.nil ?_
  refine JE.then_normal ?_
  refine J.ret ?_
  refine JE.then_ret ?_
  refine JE.scope_ret ?_
  first | refine JE.unmark (.inl rfl) rfl (by (repeat (first | exact Pick.head | apply Pick.tail | apply Pick.app))) ?_ | refine JE.nomark (.inl rfl) rfl ?_
  refine JE.ret2 (.inl rfl) rfl rfl (by (first | exact RV.tmp rfl | exact RV.cell1 hT rfl rfl rfl (by (exact Rd1.row (by (repeat (first | exact Pick.head | apply Pick.tail | apply Pick.app))) (by rfl))) | exact RV.cellN hT rfl rfl rfl (by (first | exact RdN.rowAll (by (repeat (first | exact Pick.head | apply Pick.tail | apply Pick.app))) | exact RdN.own (by (repeat (first | exact Pick.head | apply Pick.tail | apply Pick.app))))) (by (first | rfl | assumption | (simp; done) | omega)))) (by (first | exact RV.tmp rfl | exact RV.cell1 hT rfl rfl rfl (by (exact Rd1.row (by (repeat (first | exact Pick.head | apply Pick.tail | apply Pick.app))) (by rfl))) | exact RV.cellN hT rfl rfl rfl (by (first | exact RdN.rowAll (by (repeat (first | exact Pick.head | apply Pick.tail | apply Pick.app))) | exact RdN.own (by (repeat (first | exact Pick.head | apply Pick.tail | apply Pick.app))))) (by (first | rfl | assumption | (simp; done) | omega)))) ?_
  exact ⟨rfl, rfl⟩
set_option maxHeartbeats 1000000 in
theorem eopen_spec (d : Nat) (S : Sb) (D D' : Dk) (L : Lg) (cs : ∀ l, Fc prog E 61 [.pointer (some ⟨d, 0, none⟩)].toArray (disk d D :: l) (fun v l' => ∃ st, v = .tuple #[.pointer (some ⟨st, 0, none⟩), .int .i64 0] ∧ l' = row st 224 (scells S d) :: disk d D' :: l))
    (co : ∀ st l, Fc prog E 62 [.pointer (some ⟨st, 0, none⟩)].toArray (row st 224 (scells S d) :: disk d D' :: l) (fun v l' => ∃ lg, v = .tuple #[.pointer (some ⟨lg, 0, none⟩), .int .i64 0] ∧ l' = logm lg st L :: row st 224 (scells S d) :: disk d D' :: l)) (l : List HProp) :
    Fc prog E 12 [.pointer (some ⟨d, 0, none⟩)].toArray (disk d D :: l) (eopenP d S D' L l) := by
  refine Fc.post ?_
  have csn : ∀ lg st l, Fc prog E 63 [.pointer (some ⟨lg, 0, none⟩)].toArray (logm lg st L :: l) (fun v l' => ∃ a c, v = .slice a L.snap.length c ∧ l' = own 5 1 (.slice a L.snap.length c) L.snap.length (ints .u8 L.snap) :: logm lg st L :: l ∧ OwnAt a L.snap.length c (ints .u8 L.snap)) := fun lg st l => (lsnapshot_spec E lg st L l).know fun v l' w ⟨a, c, e1, e2⟩ s => by
    subst e1
    subst e2
    exact ⟨a, c, rfl, rfl, Sat.own_at s⟩
  have cget : ∀ (a : Option Addr) (c : Nat) (b : List Int) l, b.length = 8 → InL l a b.length c (ints .u8 b) → Fc prog E 64 [.slice a b.length c].toArray l (fun v l' => v = Q (leG b 8) ∧ l' = l) := fun a c b l hb h => by
    have q := octGet64_spec E a c b l h
    rwa [show min b.length 8 = 8 by omega] at q
  have h3 : (L.snap.length = 0 ∧ estart L.snap = some 0#64) ∨ (L.snap.length = 8 ∧ estart L.snap = some (leG L.snap 8)) ∨ (¬ L.snap.length = 0 ∧ ¬ L.snap.length = 8 ∧ entryN L = none) := by
    by_cases h0 : L.snap.length = 0
    · exact .inl ⟨h0, by unfold estart; rw [if_pos h0]⟩
    · by_cases h8 : L.snap.length = 8
      · exact .inr (.inl ⟨h8, by unfold estart; rw [if_neg h0, if_pos h8]⟩)
      · exact .inr (.inr ⟨h0, h8, by unfold entryN estart; rw [if_neg h0, if_neg h8]; rfl⟩)
  refine Fc.of_bodyM (c := ?codeC) Tryz.func12 ?hb Tryz.ntmps12 ?hl ?_
  case hb => exact rfl
  case hl => exact rfl
  refine J.seq ?_
  refine J.region ?_
  refine JL.step (y_assign rfl) rfl rfl rfl (JL.step (y_assign rfl) rfl rfl rfl ?_)
  refine JL.nil ?_
  refine JE.then_normal ?_
  refine J.scope ?_
  refine J.seq ?_
  refine J.region ?_
  refine JL.step (y_move rfl) rfl rfl rfl ?_
  refine JL.loud rfl (l_callF e61 rfl rfl (cs _) ?_)
  rintro _ _ ⟨st, rfl, rfl⟩
  refine JL.step (y_move rfl) rfl rfl rfl (JL.step (y_extract rfl rfl) rfl rfl rfl (JL.step (y_extract rfl rfl) rfl rfl rfl (JL.step (y_assign rfl) rfl rfl rfl (JL.step (y_assign rfl) rfl rfl rfl ?_))))
  refine JL.nil ?_
  refine JE.then_normal ?_
  refine J.seq ?_
  refine J.seq ?_
  refine J.region ?_
  refine JL.step (y_move rfl) rfl rfl rfl (JL.step (y_neq rfl rfl) rfl rfl rfl ?_)
  refine JL.nil ?_
  refine JE.then_normal ?_
  refine J.cond_f rfl (by (first | rfl | assumption | (simp; done) | (simp; omega))) ?_
  refine J.skip ?_
  refine JE.then_normal ?_
  refine J.seq ?_
  refine J.region ?_
  refine JL.step (y_move rfl) rfl rfl rfl ?_
  refine JL.loud rfl (l_callF e62 rfl rfl (co st _) ?_)
  rintro _ _ ⟨lg, rfl, rfl⟩
  refine JL.step (y_move rfl) rfl rfl rfl (JL.step (y_extract rfl rfl) rfl rfl rfl (JL.step (y_extract rfl rfl) rfl rfl rfl (JL.step (y_assign rfl) rfl rfl rfl (JL.step (y_assign rfl) rfl rfl rfl ?_))))
  refine JL.nil ?_
  refine JE.then_normal ?_
  refine J.seq ?_
  refine J.seq ?_
  refine J.region ?_
  refine JL.step (y_move rfl) rfl rfl rfl (JL.step (y_neq rfl rfl) rfl rfl rfl ?_)
  refine JL.nil ?_
  refine JE.then_normal ?_
  refine J.cond_f rfl (by (first | rfl | assumption | (simp; done) | (simp; omega))) ?_
  refine J.skip ?_
  refine JE.then_normal ?_
  refine J.seq ?_
  refine J.region ?_
  refine JL.step (y_move rfl) rfl rfl rfl ?_
  refine JL.step (y_build (cs := [_, _, _, _, _, _]) hT rfl rfl rfl rfl rfl rfl ⟨⟨(by (first | rfl | assumption | (simp; done) | omega)), Nat.le_of_ble_eq_true rfl⟩, trivial⟩ rfl) rfl rfl rfl ?_
  refine JL.loud rfl (l_box (cs := ecells lg false 0#64 0 0 (.map none)) rfl (by (first | rfl | simp)) rfl (fun bx => ?_))
  refine JL.loud rfl (l_alloc hT rfl rfl (by (first | rfl | simp)) rfl (fun b7 => ?_))
  refine JL.loud rfl (l_store1 hT rfl rfl rfl rfl rfl (by (repeat (first | exact Pick.head | apply Pick.tail | apply Pick.app))) (by (first | omega | exact Nat.le_of_ble_eq_true rfl | decide | (simp; omega))) ?_)
  refine JL.nil ?_
  refine JE.then_normal ?_
  refine J.seq ?_
  refine J.seq ?_
  refine J.region ?_
  refine JL.step (y_move rfl) rfl rfl rfl ?_
  refine JL.loud rfl (l_callF e63 rfl rfl (Fc.on (Split.cons (by (repeat (first | exact Pick.head | apply Pick.tail | apply Pick.app))) Split.nil) (csn lg st _)) ?_)
  rintro _ _ ⟨sa, sc, rfl, rfl, os⟩
  refine JL.step (y_assign rfl) rfl rfl rfl ?_
  refine JL.nil ?_
  refine JE.then_normal ?_
  rcases h3 with ⟨hl0, hst⟩ | ⟨hl0, hst⟩ | ⟨hl0, hl8, hst⟩
  ·
    have hE : entryN L = echain 0#64 L.txs := by unfold entryN; rw [hst]; rfl
    have hb3 : decide ((L.snap.length : Int) = 0) = true := decide_eq_true (by omega)
    refine J.seq ?_
    refine J.region ?_
    refine JL.step (y_move rfl) rfl rfl rfl (JL.step (y_len_slice hT rfl rfl rfl) rfl rfl rfl ?_)
    refine JL.nil ?_
    refine JE.then_normal ?_
    refine J.block ?_
    refine J.seq ?_
    refine J.region ?_
    refine JL.step (y_eql rfl rfl) rfl rfl rfl (JL.step (y_assign rfl) rfl rfl rfl ?_)
    refine JL.nil ?_
    refine JE.then_normal ?_
    refine J.cond_t rfl (by (first | rfl | assumption | (simp; done) | (simp; omega))) ?_
    refine J.skip ?_
    refine JE.block_normal ?_
    refine JE.then_normal ?_
    refine J.seq ?_
    obtain ⟨n0, hn0⟩ : ∃ n0 : BitVec 64, 0#64 = n0 := ⟨_, rfl⟩
    rw [hn0] at hE
    refine J.lists (l' := row bx 136 (ecells lg false n0 0 0 (.map none)) :: row b7 26 [.pointer (some ⟨bx, 0, none⟩)] :: own 5 1 (.slice sa L.snap.length sc) L.snap.length (ints .u8 L.snap) :: logm lg st L :: row st 224 (scells S d) :: disk d D' :: l) (fun w q => by rw [← hn0]; exact q.sup (by (repeat (first | exact Sup.refl | apply Sup.cons (by (repeat (first | exact Pick.head | apply Pick.tail | apply Pick.app))) | apply Sup.app | apply Sup.skip | apply Sup.skips)))) ?_
    refine J.region ?_
    refine JL.loud rfl (l_alloc hT rfl rfl (by (first | rfl | simp)) rfl (fun b9 => ?_))
    refine JL.loud rfl (l_store1 hT rfl rfl rfl rfl rfl (by (repeat (first | exact Pick.head | apply Pick.tail | apply Pick.app))) (by (first | omega | exact Nat.le_of_ble_eq_true rfl | decide | (simp; omega))) ?_)
    refine JL.nil ?_
    refine JE.then_normal ?_
    refine J.seq ?_
    refine J.label ?_
    refine JE.then_normal ?_
    refine J.seq ?_
    refine J.seq ?_
    refine J.region ?_
    refine JL.step (y_move rfl) rfl rfl rfl ?_
    refine JL.loud rfl (l_callF e65 rfl rfl (lall_spec E _ (.pointer (some ⟨lg, 0, none⟩)) rfl) ?_)
    rintro _ _ ⟨bc, rfl, rfl⟩
    refine JL.nil ?_
    refine JE.then_normal ?_
    refine J.block ?_
    refine J.rangeFunc e110 rfl fun fn a0 k DD K1 hK hf0 => ?_
    refine Fc.mono (Fc.imp (lall2_spec E lg st L (blk DD (.deferred (some [])) :: row st 224 (scells S d) :: disk d D' :: l) k bc (fun j => [pur (echain n0 (L.txs.take j) = some (echN n0 L.txs j)), row bx 136 (ecells lg false (echN n0 L.txs j) 0 0 (.map none)), row b9 4 [.bool false], row b7 26 [.pointer (some ⟨bx, 0, none⟩)], K1 .ready none]) (fun _ => [pur (echain n0 L.txs = none), row b9 4 [.bool true], K1 .done (some (.exit 1))]) (fun fr j tx xa xc htx hsx => ?hy)) (fun w s => ?hi)) ?hm
    case hi =>
      exact (Sat.topur (p := echain n0 (L.txs.take 0) = some (echN n0 L.txs 0)) rfl s).sup (by (repeat (first | exact Sup.refl | apply Sup.cons (by (repeat (first | exact Pick.head | apply Pick.tail | apply Pick.app))) | apply Sup.app | apply Sup.skip | apply Sup.skips)))
    case hy =>
      refine Yc.split (p := [pur _]) ?_ (Split.cons (by (repeat (first | exact Pick.head | apply Pick.tail | apply Pick.app))) Split.nil)
      refine Yc.purs fun hch => ?_
      refine Yc.split (p := [K1 .ready none]) ?_ (Split.cons (by (repeat (first | exact Pick.head | apply Pick.tail | apply Pick.app))) Split.nil)
      refine Yc.post ?_
      refine Yc.of_body hK hf0 rfl (by decide) ?_
      refine J.region ?_
      refine JL.step (y_assign rfl) rfl rfl rfl ?_
      refine JL.nil ?_
      refine JE.assigned (by (repeat (first | exact Pick.head | apply Pick.tail | apply Pick.app))) ?_
      refine J.block ?_
      refine J.seq ?_
      refine J.seq ?_
      refine J.fact (p := OwnAt xa tx.length xc (ints .u8 tx)) (fun w s => Sat.own_at (s.pick (by (repeat (first | exact Pick.head | apply Pick.tail | apply Pick.app))))) fun ox => ?_
      obtain ⟨b8, hb8⟩ : ∃ b8, decide (¬ (tx.length : Int) = 8) = b8 := ⟨_, rfl⟩
      have h8 : b8 = false → tx.length = 8 := fun h => by rw [h] at hb8; simp at hb8; omega
      have hn8 : b8 = true → ¬ tx.length = 8 := fun h => by rw [h] at hb8; simp at hb8; omega
      cases b8
      all_goals
        refine J.draw _ _ [(0, .q), (1, .q), (2, .q), (3, .q), (4, .q), (5, .q), (6, .q), (7, .q), (8, .q), (9, .q), (10, .q), (11, .q)] mixed (by kernel_rfl) (Split.nil) ?_
        refine JM.quiet rfl rfl rfl rfl (fun m => y_move rfl) ?_
        refine JM.quiet rfl rfl rfl rfl (fun m => y_len_slice hT rfl rfl rfl) ?_
        refine JM.quiet rfl rfl rfl rfl (fun m => y_neqB rfl rfl hb8) ?_
        refine JM.quiet rfl rfl rfl rfl (fun m => y_move rfl) ?_
        all_goals (first | refine JM.gskip rfl rfl rfl rfl rfl rfl rfl ?_ | refine JM.gskipU rfl rfl rfl rfl rfl rfl ?_ | refine JM.gquiet rfl rfl rfl rfl rfl rfl (fun m => y_move rfl) ?_)
        all_goals (first | refine JM.gskip rfl rfl rfl rfl rfl rfl rfl ?_ | refine JM.gskipU rfl rfl rfl rfl rfl rfl ?_ | refine JM.gquiet rfl rfl rfl rfl rfl rfl (fun m => y_callF e64 rfl (cget xa xc tx _ (h8 rfl) (ox.inl (Pick.app m (by (repeat (first | exact Pick.head | apply Pick.tail | apply Pick.app))))))) ?_)
        all_goals (first | refine JM.gskip rfl rfl rfl rfl rfl rfl rfl ?_ | refine JM.gskipU rfl rfl rfl rfl rfl rfl ?_ | refine JM.gquiet rfl rfl rfl rfl rfl rfl (fun m => y_load1 hT rfl rfl rfl (by (exact Rd1.row (Pick.app m (by (repeat (first | exact Pick.head | apply Pick.tail | apply Pick.app)))) (by rfl)))) ?_)
        all_goals (first | refine JM.gskip rfl rfl rfl rfl rfl rfl rfl ?_ | refine JM.gskipU rfl rfl rfl rfl rfl rfl ?_ | refine JM.gquiet rfl rfl rfl rfl rfl rfl (fun m => (by first | exact y_nilCheck rfl | exact y_nilCheckF rfl | exact y_nilCheckY rfl)) ?_)
        all_goals (first | refine JM.gskip rfl rfl rfl rfl rfl rfl rfl ?_ | refine JM.gskipU rfl rfl rfl rfl rfl rfl ?_ | refine JM.gquiet rfl rfl rfl rfl rfl rfl (fun m => y_fieldAddr hT rfl rfl rfl rfl rfl rfl) ?_)
        all_goals (first | refine JM.gskip rfl rfl rfl rfl rfl rfl rfl ?_ | refine JM.gskipU rfl rfl rfl rfl rfl rfl ?_ | refine JM.gquiet rfl rfl rfl rfl rfl rfl (fun m => y_load1 hT rfl rfl rfl (by (exact Rd1.row (Pick.app m (by (repeat (first | exact Pick.head | apply Pick.tail | apply Pick.app)))) (by rfl)))) ?_)
        all_goals (first | refine JM.gskip rfl rfl rfl rfl rfl rfl rfl ?_ | refine JM.gskipU rfl rfl rfl rfl rfl rfl ?_ | refine JM.gquiet rfl rfl rfl rfl rfl rfl (fun m => y_leq rfl rfl) ?_)
        all_goals refine JM.quiet rfl rfl rfl rfl (fun m => y_pick rfl rfl rfl) ?_
        all_goals refine JM.nil ?_
      all_goals refine JE.then_normal ?_
      all_goals
        first | apply J.cond_dec rfl | apply J.cond rfl
        case' ht =>
          intro h
          try (first | (exfalso; omega) | (cases h; done) | (exfalso; simp at h; done) | subst h)
          all_goals
            have hbad : echain n0 L.txs = none := echain_bad hch htx (by
                unfold enext
                rw [if_neg]
                rintro ⟨h1, h2⟩
                first
                  | exact hn8 rfl h1
                  | omega)
            refine J.seq ?_
            refine J.region ?_
            refine JL.loud rfl (l_store1 hT rfl rfl rfl rfl rfl (by (repeat (first | exact Pick.head | apply Pick.tail | apply Pick.app))) (by (first | omega | exact Nat.le_of_ble_eq_true rfl | decide | (simp; omega))) ?_)
            refine JL.nil ?_
            refine JE.then_normal ?_
            refine J.exit ?_
            refine JE.then_exit ?_
            refine JE.block_past rfl ?_
            refine JE.round_exit hK (by (repeat (first | exact Pick.head | apply Pick.tail | apply Pick.app))) ?_
            refine ⟨_, fun w z => ?_, .inr ⟨rfl, rfl⟩⟩
            exact (Sat.topur hbad z).sup (by (repeat (first | exact Sup.refl | apply Sup.cons (by (repeat (first | exact Pick.head | apply Pick.tail | apply Pick.app))) | apply Sup.app | apply Sup.skip | apply Sup.skips)))
        case' hf =>
          intro h
          try (first | (exfalso; omega) | (cases h; done) | (exfalso; simp at h; done) | subst h)
          all_goals
            have hgo : echain n0 (L.txs.take (j + 1)) = some (leG tx 8) := by rw [echain_step hch htx, enext, if_pos ⟨h8 rfl, by omega⟩]
            refine J.skip ?_
      all_goals refine JE.then_normal ?_
      all_goals
        refine J.draw _ _ [(0, .q), (1, .q), (2, .q), (3, .q), (4, .q), (5, .l)] mixed (by kernel_rfl) (Split.cons (Pick.tail (Pick.tail Pick.head)) (Split.nil)) ?_
        refine JM.quiet rfl rfl rfl rfl (fun m => y_load1 hT rfl rfl rfl (by (exact Rd1.row (Pick.app m (by (repeat (first | exact Pick.head | apply Pick.tail | apply Pick.app)))) (by rfl)))) ?_
        refine JM.quiet rfl rfl rfl rfl (fun m => y_move rfl) ?_
        refine JM.quiet rfl rfl rfl rfl (fun m => y_callF e64 rfl (cget xa xc tx _ (h8 rfl) (ox.inl (Pick.app m (by (repeat (first | exact Pick.head | apply Pick.tail | apply Pick.app))))))) ?_
        refine JM.quiet rfl rfl rfl rfl (fun m => (by first | exact y_nilCheck rfl | exact y_nilCheckF rfl | exact y_nilCheckY rfl)) ?_
        refine JM.quiet rfl rfl rfl rfl (fun m => y_fieldAddr hT rfl rfl rfl rfl rfl rfl) ?_
        refine JM.loud rfl rfl (fun fr => l_store1 hT rfl rfl rfl rfl rfl (by (repeat (first | exact Pick.head | apply Pick.tail | apply Pick.app))) (by (first | omega | exact Nat.le_of_ble_eq_true rfl | decide | (simp; omega))) (⟨[_], (by (repeat (first | exact Split.nil | exact Split.all | refine Split.cons Pick.head ?_))), ?_⟩))
        refine JM.nil ?_
      all_goals refine JE.block_normal ?_
      all_goals
        refine JE.round_on hK (by (repeat (first | exact Pick.head | apply Pick.tail | apply Pick.app))) ?_
        have e := echN_of hgo
        refine ⟨_, fun w z => ?_, .inl ⟨rfl, rfl⟩⟩
        have z2 := Sat.topur (p := echain n0 (L.txs.take (j + 1)) = some (leG tx 8)) hgo z
        try dsimp only
        rw [e]
        exact z2.sup (by (repeat (first | exact Sup.refl | apply Sup.cons (by (repeat (first | exact Pick.head | apply Pick.tail | apply Pick.app))) | apply Sup.app | apply Sup.skip | apply Sup.skips)))
    case hm =>
      rintro _ _ (rfl | ⟨j, hj, rfl⟩)
      · refine ⟨.ready, none, _, by (repeat (first | exact Pick.head | apply Pick.tail | apply Pick.app)), by simp, ?_⟩
        dsimp only
        refine JE.picks (A := pur _) (by (repeat (first | exact Pick.head | apply Pick.tail | apply Pick.app))) (JE.purs fun hch => ?_)
        have hres : entryN L = some (echN n0 L.txs L.txs.length) := by rw [hE, ← hch, List.take_length]
        refine JE.block_normal ?_
        refine JE.then_normal ?_
        refine J.seq ?_
        refine J.seq ?_
        refine J.region ?_
        refine JL.step (y_load1 hT rfl rfl rfl (by (exact Rd1.row (by (repeat (first | exact Pick.head | apply Pick.tail | apply Pick.app))) (by rfl)))) rfl rfl rfl ?_
        refine JL.nil ?_
        refine JE.then_normal ?_
        first | apply J.cond_dec rfl | apply J.cond rfl
        case' ht =>
          intro h
          try (first | (exfalso; omega) | (cases h; done) | (exfalso; simp at h; done) | subst h)
          all_goals
            refine J.seq ?_
            refine J.region ?_
            refine JL.step (y_assign rfl) rfl rfl rfl (JL.step (y_assign rfl) rfl rfl rfl ?_)
            refine JL.nil ?_
            refine JE.then_normal ?_
            refine J.ret ?_
            refine JE.then_ret ?_
            refine JE.scope_ret ?_
            first | refine JE.unmark (.inl rfl) rfl (by (repeat (first | exact Pick.head | apply Pick.tail | apply Pick.app))) ?_ | refine JE.nomark (.inl rfl) rfl ?_
            refine JE.ret2 (.inl rfl) rfl rfl (by (first | exact RV.tmp rfl | exact RV.cell1 hT rfl rfl rfl (by (exact Rd1.row (by (repeat (first | exact Pick.head | apply Pick.tail | apply Pick.app))) (by rfl))) | exact RV.cellN hT rfl rfl rfl (by (first | exact RdN.rowAll (by (repeat (first | exact Pick.head | apply Pick.tail | apply Pick.app))) | exact RdN.own (by (repeat (first | exact Pick.head | apply Pick.tail | apply Pick.app))))) (by (first | rfl | assumption | (simp; done) | omega)))) (by (first | exact RV.tmp rfl | exact RV.cell1 hT rfl rfl rfl (by (exact Rd1.row (by (repeat (first | exact Pick.head | apply Pick.tail | apply Pick.app))) (by rfl))) | exact RV.cellN hT rfl rfl rfl (by (first | exact RdN.rowAll (by (repeat (first | exact Pick.head | apply Pick.tail | apply Pick.app))) | exact RdN.own (by (repeat (first | exact Pick.head | apply Pick.tail | apply Pick.app))))) (by (first | rfl | assumption | (simp; done) | omega)))) ?_
            first
              | exact ⟨_, fun w q => q.sup (by (repeat (first | exact Sup.refl | apply Sup.cons (by (repeat (first | exact Pick.head | apply Pick.tail | apply Pick.app))) | apply Sup.app | apply Sup.skip | apply Sup.skips))), .inl ⟨_, bx, lg, st, hres, rfl, rfl⟩⟩
              | exact ⟨_, fun w q => q.sup (by (repeat (first | exact Sup.refl | apply Sup.cons (by (repeat (first | exact Pick.head | apply Pick.tail | apply Pick.app))) | apply Sup.app | apply Sup.skip | apply Sup.skips))), .inr ⟨hres, rfl, rfl⟩⟩
        case' hf =>
          intro h
          try (first | (exfalso; omega) | (cases h; done) | (exfalso; simp at h; done) | subst h)
          all_goals
            refine J.skip ?_
        all_goals refine JE.then_normal ?_
        all_goals
          refine J.seq ?_
          refine J.region ?_
          refine JL.step (y_load1 hT rfl rfl rfl (by (exact Rd1.row (by (repeat (first | exact Pick.head | apply Pick.tail | apply Pick.app))) (by rfl)))) rfl rfl rfl ?_
          refine JL.step (y_assign rfl) rfl rfl rfl (JL.step (y_assign rfl) rfl rfl rfl ?_)
          refine JL.nil ?_
          refine JE.then_normal ?_
          refine J.ret ?_
          refine JE.scope_ret ?_
          first | refine JE.unmark (.inl rfl) rfl (by (repeat (first | exact Pick.head | apply Pick.tail | apply Pick.app))) ?_ | refine JE.nomark (.inl rfl) rfl ?_
          refine JE.ret2 (.inl rfl) rfl rfl (by (first | exact RV.tmp rfl | exact RV.cell1 hT rfl rfl rfl (by (exact Rd1.row (by (repeat (first | exact Pick.head | apply Pick.tail | apply Pick.app))) (by rfl))) | exact RV.cellN hT rfl rfl rfl (by (first | exact RdN.rowAll (by (repeat (first | exact Pick.head | apply Pick.tail | apply Pick.app))) | exact RdN.own (by (repeat (first | exact Pick.head | apply Pick.tail | apply Pick.app))))) (by (first | rfl | assumption | (simp; done) | omega)))) (by (first | exact RV.tmp rfl | exact RV.cell1 hT rfl rfl rfl (by (exact Rd1.row (by (repeat (first | exact Pick.head | apply Pick.tail | apply Pick.app))) (by rfl))) | exact RV.cellN hT rfl rfl rfl (by (first | exact RdN.rowAll (by (repeat (first | exact Pick.head | apply Pick.tail | apply Pick.app))) | exact RdN.own (by (repeat (first | exact Pick.head | apply Pick.tail | apply Pick.app))))) (by (first | rfl | assumption | (simp; done) | omega)))) ?_
          first
            | exact ⟨_, fun w q => q.sup (by (repeat (first | exact Sup.refl | apply Sup.cons (by (repeat (first | exact Pick.head | apply Pick.tail | apply Pick.app))) | apply Sup.app | apply Sup.skip | apply Sup.skips))), .inl ⟨_, bx, lg, st, hres, rfl, rfl⟩⟩
            | exact ⟨_, fun w q => q.sup (by (repeat (first | exact Sup.refl | apply Sup.cons (by (repeat (first | exact Pick.head | apply Pick.tail | apply Pick.app))) | apply Sup.app | apply Sup.skip | apply Sup.skips))), .inr ⟨hres, rfl, rfl⟩⟩
      · refine ⟨.done, some (.exit 1), _, by (repeat (first | exact Pick.head | apply Pick.tail | apply Pick.app)), by simp, ?_⟩
        dsimp only
        refine J.picks (A := pur _) (by (repeat (first | exact Pick.head | apply Pick.tail | apply Pick.app))) (J.purs fun hbad => ?_)
        have hres : entryN L = none := by rw [hE]; exact hbad
        refine J.exit ?_
        refine JE.block_exit ?_
        refine JE.then_normal ?_
        refine J.seq ?_
        refine J.seq ?_
        refine J.region ?_
        refine JL.step (y_load1 hT rfl rfl rfl (by (exact Rd1.row (by (repeat (first | exact Pick.head | apply Pick.tail | apply Pick.app))) (by rfl)))) rfl rfl rfl ?_
        refine JL.nil ?_
        refine JE.then_normal ?_
        first | apply J.cond_dec rfl | apply J.cond rfl
        case' ht =>
          intro h
          try (first | (exfalso; omega) | (cases h; done) | (exfalso; simp at h; done) | subst h)
          all_goals
            refine J.seq ?_
            refine J.region ?_
            refine JL.step (y_assign rfl) rfl rfl rfl (JL.step (y_assign rfl) rfl rfl rfl ?_)
            refine JL.nil ?_
            refine JE.then_normal ?_
            refine J.ret ?_
            refine JE.then_ret ?_
            refine JE.scope_ret ?_
            first | refine JE.unmark (.inl rfl) rfl (by (repeat (first | exact Pick.head | apply Pick.tail | apply Pick.app))) ?_ | refine JE.nomark (.inl rfl) rfl ?_
            refine JE.ret2 (.inl rfl) rfl rfl (by (first | exact RV.tmp rfl | exact RV.cell1 hT rfl rfl rfl (by (exact Rd1.row (by (repeat (first | exact Pick.head | apply Pick.tail | apply Pick.app))) (by rfl))) | exact RV.cellN hT rfl rfl rfl (by (first | exact RdN.rowAll (by (repeat (first | exact Pick.head | apply Pick.tail | apply Pick.app))) | exact RdN.own (by (repeat (first | exact Pick.head | apply Pick.tail | apply Pick.app))))) (by (first | rfl | assumption | (simp; done) | omega)))) (by (first | exact RV.tmp rfl | exact RV.cell1 hT rfl rfl rfl (by (exact Rd1.row (by (repeat (first | exact Pick.head | apply Pick.tail | apply Pick.app))) (by rfl))) | exact RV.cellN hT rfl rfl rfl (by (first | exact RdN.rowAll (by (repeat (first | exact Pick.head | apply Pick.tail | apply Pick.app))) | exact RdN.own (by (repeat (first | exact Pick.head | apply Pick.tail | apply Pick.app))))) (by (first | rfl | assumption | (simp; done) | omega)))) ?_
            first
              | exact ⟨_, fun w q => q.sup (by (repeat (first | exact Sup.refl | apply Sup.cons (by (repeat (first | exact Pick.head | apply Pick.tail | apply Pick.app))) | apply Sup.app | apply Sup.skip | apply Sup.skips))), .inl ⟨_, bx, lg, st, hres, rfl, rfl⟩⟩
              | exact ⟨_, fun w q => q.sup (by (repeat (first | exact Sup.refl | apply Sup.cons (by (repeat (first | exact Pick.head | apply Pick.tail | apply Pick.app))) | apply Sup.app | apply Sup.skip | apply Sup.skips))), .inr ⟨hres, rfl, rfl⟩⟩
        case' hf =>
          intro h
          try (first | (exfalso; omega) | (cases h; done) | (exfalso; simp at h; done) | subst h)
          all_goals
            refine J.skip ?_
        all_goals refine JE.then_normal ?_
        all_goals
          refine J.seq ?_
          refine J.region ?_
          refine JL.step (y_load1 hT rfl rfl rfl (by (exact Rd1.row (by (repeat (first | exact Pick.head | apply Pick.tail | apply Pick.app))) (by rfl)))) rfl rfl rfl ?_
          refine JL.step (y_assign rfl) rfl rfl rfl (JL.step (y_assign rfl) rfl rfl rfl ?_)
          refine JL.nil ?_
          refine JE.then_normal ?_
          refine J.ret ?_
          refine JE.scope_ret ?_
          first | refine JE.unmark (.inl rfl) rfl (by (repeat (first | exact Pick.head | apply Pick.tail | apply Pick.app))) ?_ | refine JE.nomark (.inl rfl) rfl ?_
          refine JE.ret2 (.inl rfl) rfl rfl (by (first | exact RV.tmp rfl | exact RV.cell1 hT rfl rfl rfl (by (exact Rd1.row (by (repeat (first | exact Pick.head | apply Pick.tail | apply Pick.app))) (by rfl))) | exact RV.cellN hT rfl rfl rfl (by (first | exact RdN.rowAll (by (repeat (first | exact Pick.head | apply Pick.tail | apply Pick.app))) | exact RdN.own (by (repeat (first | exact Pick.head | apply Pick.tail | apply Pick.app))))) (by (first | rfl | assumption | (simp; done) | omega)))) (by (first | exact RV.tmp rfl | exact RV.cell1 hT rfl rfl rfl (by (exact Rd1.row (by (repeat (first | exact Pick.head | apply Pick.tail | apply Pick.app))) (by rfl))) | exact RV.cellN hT rfl rfl rfl (by (first | exact RdN.rowAll (by (repeat (first | exact Pick.head | apply Pick.tail | apply Pick.app))) | exact RdN.own (by (repeat (first | exact Pick.head | apply Pick.tail | apply Pick.app))))) (by (first | rfl | assumption | (simp; done) | omega)))) ?_
          first
            | exact ⟨_, fun w q => q.sup (by (repeat (first | exact Sup.refl | apply Sup.cons (by (repeat (first | exact Pick.head | apply Pick.tail | apply Pick.app))) | apply Sup.app | apply Sup.skip | apply Sup.skips))), .inl ⟨_, bx, lg, st, hres, rfl, rfl⟩⟩
            | exact ⟨_, fun w q => q.sup (by (repeat (first | exact Sup.refl | apply Sup.cons (by (repeat (first | exact Pick.head | apply Pick.tail | apply Pick.app))) | apply Sup.app | apply Sup.skip | apply Sup.skips))), .inr ⟨hres, rfl, rfl⟩⟩
  ·
    have hE : entryN L = echain (leG L.snap 8) L.txs := by unfold entryN; rw [hst]; rfl
    have hb3 : decide ((L.snap.length : Int) = 0) = false := decide_eq_false (by omega)
    have hb4 : decide ((L.snap.length : Int) = 8) = true := decide_eq_true (by omega)
    refine J.seq ?_
    refine J.region ?_
    refine JL.step (y_move rfl) rfl rfl rfl (JL.step (y_len_slice hT rfl rfl rfl) rfl rfl rfl ?_)
    refine JL.nil ?_
    refine JE.then_normal ?_
    refine J.block ?_
    refine J.seq ?_
    refine J.region ?_
    refine JL.step (y_eql rfl rfl) rfl rfl rfl (JL.step (y_assign rfl) rfl rfl rfl ?_)
    refine JL.nil ?_
    refine JE.then_normal ?_
    refine J.cond_f rfl (by (first | rfl | assumption | (simp; done) | (simp; omega))) ?_
    refine J.seq ?_
    refine J.region ?_
    refine JL.step (y_eql rfl rfl) rfl rfl rfl (JL.step (y_assign rfl) rfl rfl rfl ?_)
    refine JL.nil ?_
    refine JE.then_normal ?_
    refine J.cond_t rfl (by (first | rfl | assumption | (simp; done) | (simp; omega))) ?_
    refine J.draw _ _ [(0, .q), (1, .q), (2, .q), (3, .q), (4, .q), (5, .l)] mixed (by kernel_rfl) (Split.cons (Pick.tail (Pick.tail (Pick.tail Pick.head))) (Split.nil)) ?_
    refine JM.quiet rfl rfl rfl rfl (fun m => y_load1 hT rfl rfl rfl (by (exact Rd1.row (Pick.app m (by (repeat (first | exact Pick.head | apply Pick.tail | apply Pick.app)))) (by rfl)))) ?_
    refine JM.quiet rfl rfl rfl rfl (fun m => y_move rfl) ?_
    refine JM.quiet rfl rfl rfl rfl (fun m => y_callF e64 rfl (cget sa sc L.snap _ hl0 (os.inl (Pick.app m (by (repeat (first | exact Pick.head | apply Pick.tail | apply Pick.app))))))) ?_
    refine JM.quiet rfl rfl rfl rfl (fun m => (by first | exact y_nilCheck rfl | exact y_nilCheckF rfl | exact y_nilCheckY rfl)) ?_
    refine JM.quiet rfl rfl rfl rfl (fun m => y_fieldAddr hT rfl rfl rfl rfl rfl rfl) ?_
    refine JM.loud rfl rfl (fun fr => l_store1 hT rfl rfl rfl rfl rfl (by (repeat (first | exact Pick.head | apply Pick.tail | apply Pick.app))) (by (first | omega | exact Nat.le_of_ble_eq_true rfl | decide | (simp; omega))) (⟨[_], (by (repeat (first | exact Split.nil | exact Split.all | refine Split.cons Pick.head ?_))), ?_⟩))
    refine JM.nil ?_
    refine JE.block_normal ?_
    refine JE.then_normal ?_
    refine J.seq ?_
    obtain ⟨n0, hn0⟩ : ∃ n0 : BitVec 64, leG L.snap 8 = n0 := ⟨_, rfl⟩
    rw [hn0] at hE
    refine J.lists (l' := row bx 136 (ecells lg false n0 0 0 (.map none)) :: row b7 26 [.pointer (some ⟨bx, 0, none⟩)] :: own 5 1 (.slice sa L.snap.length sc) L.snap.length (ints .u8 L.snap) :: logm lg st L :: row st 224 (scells S d) :: disk d D' :: l) (fun w q => by rw [← hn0]; exact q.sup (by (repeat (first | exact Sup.refl | apply Sup.cons (by (repeat (first | exact Pick.head | apply Pick.tail | apply Pick.app))) | apply Sup.app | apply Sup.skip | apply Sup.skips)))) ?_
    refine J.region ?_
    refine JL.loud rfl (l_alloc hT rfl rfl (by (first | rfl | simp)) rfl (fun b9 => ?_))
    refine JL.loud rfl (l_store1 hT rfl rfl rfl rfl rfl (by (repeat (first | exact Pick.head | apply Pick.tail | apply Pick.app))) (by (first | omega | exact Nat.le_of_ble_eq_true rfl | decide | (simp; omega))) ?_)
    refine JL.nil ?_
    refine JE.then_normal ?_
    refine J.seq ?_
    refine J.label ?_
    refine JE.then_normal ?_
    refine J.seq ?_
    refine J.seq ?_
    refine J.region ?_
    refine JL.step (y_move rfl) rfl rfl rfl ?_
    refine JL.loud rfl (l_callF e65 rfl rfl (lall_spec E _ (.pointer (some ⟨lg, 0, none⟩)) rfl) ?_)
    rintro _ _ ⟨bc, rfl, rfl⟩
    refine JL.nil ?_
    refine JE.then_normal ?_
    refine J.block ?_
    refine J.rangeFunc e110 rfl fun fn a0 k DD K1 hK hf0 => ?_
    refine Fc.mono (Fc.imp (lall2_spec E lg st L (blk DD (.deferred (some [])) :: row st 224 (scells S d) :: disk d D' :: l) k bc (fun j => [pur (echain n0 (L.txs.take j) = some (echN n0 L.txs j)), row bx 136 (ecells lg false (echN n0 L.txs j) 0 0 (.map none)), row b9 4 [.bool false], row b7 26 [.pointer (some ⟨bx, 0, none⟩)], K1 .ready none]) (fun _ => [pur (echain n0 L.txs = none), row b9 4 [.bool true], K1 .done (some (.exit 1))]) (fun fr j tx xa xc htx hsx => ?hy)) (fun w s => ?hi)) ?hm
    case hi =>
      exact (Sat.topur (p := echain n0 (L.txs.take 0) = some (echN n0 L.txs 0)) rfl s).sup (by (repeat (first | exact Sup.refl | apply Sup.cons (by (repeat (first | exact Pick.head | apply Pick.tail | apply Pick.app))) | apply Sup.app | apply Sup.skip | apply Sup.skips)))
    case hy =>
      refine Yc.split (p := [pur _]) ?_ (Split.cons (by (repeat (first | exact Pick.head | apply Pick.tail | apply Pick.app))) Split.nil)
      refine Yc.purs fun hch => ?_
      refine Yc.split (p := [K1 .ready none]) ?_ (Split.cons (by (repeat (first | exact Pick.head | apply Pick.tail | apply Pick.app))) Split.nil)
      refine Yc.post ?_
      refine Yc.of_body hK hf0 rfl (by decide) ?_
      refine J.region ?_
      refine JL.step (y_assign rfl) rfl rfl rfl ?_
      refine JL.nil ?_
      refine JE.assigned (by (repeat (first | exact Pick.head | apply Pick.tail | apply Pick.app))) ?_
      refine J.block ?_
      refine J.seq ?_
      refine J.seq ?_
      refine J.fact (p := OwnAt xa tx.length xc (ints .u8 tx)) (fun w s => Sat.own_at (s.pick (by (repeat (first | exact Pick.head | apply Pick.tail | apply Pick.app))))) fun ox => ?_
      obtain ⟨b8, hb8⟩ : ∃ b8, decide (¬ (tx.length : Int) = 8) = b8 := ⟨_, rfl⟩
      have h8 : b8 = false → tx.length = 8 := fun h => by rw [h] at hb8; simp at hb8; omega
      have hn8 : b8 = true → ¬ tx.length = 8 := fun h => by rw [h] at hb8; simp at hb8; omega
      cases b8
      all_goals
        refine J.draw _ _ [(0, .q), (1, .q), (2, .q), (3, .q), (4, .q), (5, .q), (6, .q), (7, .q), (8, .q), (9, .q), (10, .q), (11, .q)] mixed (by kernel_rfl) (Split.nil) ?_
        refine JM.quiet rfl rfl rfl rfl (fun m => y_move rfl) ?_
        refine JM.quiet rfl rfl rfl rfl (fun m => y_len_slice hT rfl rfl rfl) ?_
        refine JM.quiet rfl rfl rfl rfl (fun m => y_neqB rfl rfl hb8) ?_
        refine JM.quiet rfl rfl rfl rfl (fun m => y_move rfl) ?_
        all_goals (first | refine JM.gskip rfl rfl rfl rfl rfl rfl rfl ?_ | refine JM.gskipU rfl rfl rfl rfl rfl rfl ?_ | refine JM.gquiet rfl rfl rfl rfl rfl rfl (fun m => y_move rfl) ?_)
        all_goals (first | refine JM.gskip rfl rfl rfl rfl rfl rfl rfl ?_ | refine JM.gskipU rfl rfl rfl rfl rfl rfl ?_ | refine JM.gquiet rfl rfl rfl rfl rfl rfl (fun m => y_callF e64 rfl (cget xa xc tx _ (h8 rfl) (ox.inl (Pick.app m (by (repeat (first | exact Pick.head | apply Pick.tail | apply Pick.app))))))) ?_)
        all_goals (first | refine JM.gskip rfl rfl rfl rfl rfl rfl rfl ?_ | refine JM.gskipU rfl rfl rfl rfl rfl rfl ?_ | refine JM.gquiet rfl rfl rfl rfl rfl rfl (fun m => y_load1 hT rfl rfl rfl (by (exact Rd1.row (Pick.app m (by (repeat (first | exact Pick.head | apply Pick.tail | apply Pick.app)))) (by rfl)))) ?_)
        all_goals (first | refine JM.gskip rfl rfl rfl rfl rfl rfl rfl ?_ | refine JM.gskipU rfl rfl rfl rfl rfl rfl ?_ | refine JM.gquiet rfl rfl rfl rfl rfl rfl (fun m => (by first | exact y_nilCheck rfl | exact y_nilCheckF rfl | exact y_nilCheckY rfl)) ?_)
        all_goals (first | refine JM.gskip rfl rfl rfl rfl rfl rfl rfl ?_ | refine JM.gskipU rfl rfl rfl rfl rfl rfl ?_ | refine JM.gquiet rfl rfl rfl rfl rfl rfl (fun m => y_fieldAddr hT rfl rfl rfl rfl rfl rfl) ?_)
        all_goals (first | refine JM.gskip rfl rfl rfl rfl rfl rfl rfl ?_ | refine JM.gskipU rfl rfl rfl rfl rfl rfl ?_ | refine JM.gquiet rfl rfl rfl rfl rfl rfl (fun m => y_load1 hT rfl rfl rfl (by (exact Rd1.row (Pick.app m (by (repeat (first | exact Pick.head | apply Pick.tail | apply Pick.app)))) (by rfl)))) ?_)
        all_goals (first | refine JM.gskip rfl rfl rfl rfl rfl rfl rfl ?_ | refine JM.gskipU rfl rfl rfl rfl rfl rfl ?_ | refine JM.gquiet rfl rfl rfl rfl rfl rfl (fun m => y_leq rfl rfl) ?_)
        all_goals refine JM.quiet rfl rfl rfl rfl (fun m => y_pick rfl rfl rfl) ?_
        all_goals refine JM.nil ?_
      all_goals refine JE.then_normal ?_
      all_goals
        first | apply J.cond_dec rfl | apply J.cond rfl
        case' ht =>
          intro h
          try (first | (exfalso; omega) | (cases h; done) | (exfalso; simp at h; done) | subst h)
          all_goals
            have hbad : echain n0 L.txs = none := echain_bad hch htx (by
                unfold enext
                rw [if_neg]
                rintro ⟨h1, h2⟩
                first
                  | exact hn8 rfl h1
                  | omega)
            refine J.seq ?_
            refine J.region ?_
            refine JL.loud rfl (l_store1 hT rfl rfl rfl rfl rfl (by (repeat (first | exact Pick.head | apply Pick.tail | apply Pick.app))) (by (first | omega | exact Nat.le_of_ble_eq_true rfl | decide | (simp; omega))) ?_)
            refine JL.nil ?_
            refine JE.then_normal ?_
            refine J.exit ?_
            refine JE.then_exit ?_
            refine JE.block_past rfl ?_
            refine JE.round_exit hK (by (repeat (first | exact Pick.head | apply Pick.tail | apply Pick.app))) ?_
            refine ⟨_, fun w z => ?_, .inr ⟨rfl, rfl⟩⟩
            exact (Sat.topur hbad z).sup (by (repeat (first | exact Sup.refl | apply Sup.cons (by (repeat (first | exact Pick.head | apply Pick.tail | apply Pick.app))) | apply Sup.app | apply Sup.skip | apply Sup.skips)))
        case' hf =>
          intro h
          try (first | (exfalso; omega) | (cases h; done) | (exfalso; simp at h; done) | subst h)
          all_goals
            have hgo : echain n0 (L.txs.take (j + 1)) = some (leG tx 8) := by rw [echain_step hch htx, enext, if_pos ⟨h8 rfl, by omega⟩]
            refine J.skip ?_
      all_goals refine JE.then_normal ?_
      all_goals
        refine J.draw _ _ [(0, .q), (1, .q), (2, .q), (3, .q), (4, .q), (5, .l)] mixed (by kernel_rfl) (Split.cons (Pick.tail (Pick.tail Pick.head)) (Split.nil)) ?_
        refine JM.quiet rfl rfl rfl rfl (fun m => y_load1 hT rfl rfl rfl (by (exact Rd1.row (Pick.app m (by (repeat (first | exact Pick.head | apply Pick.tail | apply Pick.app)))) (by rfl)))) ?_
        refine JM.quiet rfl rfl rfl rfl (fun m => y_move rfl) ?_
        refine JM.quiet rfl rfl rfl rfl (fun m => y_callF e64 rfl (cget xa xc tx _ (h8 rfl) (ox.inl (Pick.app m (by (repeat (first | exact Pick.head | apply Pick.tail | apply Pick.app))))))) ?_
        refine JM.quiet rfl rfl rfl rfl (fun m => (by first | exact y_nilCheck rfl | exact y_nilCheckF rfl | exact y_nilCheckY rfl)) ?_
        refine JM.quiet rfl rfl rfl rfl (fun m => y_fieldAddr hT rfl rfl rfl rfl rfl rfl) ?_
        refine JM.loud rfl rfl (fun fr => l_store1 hT rfl rfl rfl rfl rfl (by (repeat (first | exact Pick.head | apply Pick.tail | apply Pick.app))) (by (first | omega | exact Nat.le_of_ble_eq_true rfl | decide | (simp; omega))) (⟨[_], (by (repeat (first | exact Split.nil | exact Split.all | refine Split.cons Pick.head ?_))), ?_⟩))
        refine JM.nil ?_
      all_goals refine JE.block_normal ?_
      all_goals
        refine JE.round_on hK (by (repeat (first | exact Pick.head | apply Pick.tail | apply Pick.app))) ?_
        have e := echN_of hgo
        refine ⟨_, fun w z => ?_, .inl ⟨rfl, rfl⟩⟩
        have z2 := Sat.topur (p := echain n0 (L.txs.take (j + 1)) = some (leG tx 8)) hgo z
        try dsimp only
        rw [e]
        exact z2.sup (by (repeat (first | exact Sup.refl | apply Sup.cons (by (repeat (first | exact Pick.head | apply Pick.tail | apply Pick.app))) | apply Sup.app | apply Sup.skip | apply Sup.skips)))
    case hm =>
      rintro _ _ (rfl | ⟨j, hj, rfl⟩)
      · refine ⟨.ready, none, _, by (repeat (first | exact Pick.head | apply Pick.tail | apply Pick.app)), by simp, ?_⟩
        dsimp only
        refine JE.picks (A := pur _) (by (repeat (first | exact Pick.head | apply Pick.tail | apply Pick.app))) (JE.purs fun hch => ?_)
        have hres : entryN L = some (echN n0 L.txs L.txs.length) := by rw [hE, ← hch, List.take_length]
        refine JE.block_normal ?_
        refine JE.then_normal ?_
        refine J.seq ?_
        refine J.seq ?_
        refine J.region ?_
        refine JL.step (y_load1 hT rfl rfl rfl (by (exact Rd1.row (by (repeat (first | exact Pick.head | apply Pick.tail | apply Pick.app))) (by rfl)))) rfl rfl rfl ?_
        refine JL.nil ?_
        refine JE.then_normal ?_
        first | apply J.cond_dec rfl | apply J.cond rfl
        case' ht =>
          intro h
          try (first | (exfalso; omega) | (cases h; done) | (exfalso; simp at h; done) | subst h)
          all_goals
            refine J.seq ?_
            refine J.region ?_
            refine JL.step (y_assign rfl) rfl rfl rfl (JL.step (y_assign rfl) rfl rfl rfl ?_)
            refine JL.nil ?_
            refine JE.then_normal ?_
            refine J.ret ?_
            refine JE.then_ret ?_
            refine JE.scope_ret ?_
            first | refine JE.unmark (.inl rfl) rfl (by (repeat (first | exact Pick.head | apply Pick.tail | apply Pick.app))) ?_ | refine JE.nomark (.inl rfl) rfl ?_
            refine JE.ret2 (.inl rfl) rfl rfl (by (first | exact RV.tmp rfl | exact RV.cell1 hT rfl rfl rfl (by (exact Rd1.row (by (repeat (first | exact Pick.head | apply Pick.tail | apply Pick.app))) (by rfl))) | exact RV.cellN hT rfl rfl rfl (by (first | exact RdN.rowAll (by (repeat (first | exact Pick.head | apply Pick.tail | apply Pick.app))) | exact RdN.own (by (repeat (first | exact Pick.head | apply Pick.tail | apply Pick.app))))) (by (first | rfl | assumption | (simp; done) | omega)))) (by (first | exact RV.tmp rfl | exact RV.cell1 hT rfl rfl rfl (by (exact Rd1.row (by (repeat (first | exact Pick.head | apply Pick.tail | apply Pick.app))) (by rfl))) | exact RV.cellN hT rfl rfl rfl (by (first | exact RdN.rowAll (by (repeat (first | exact Pick.head | apply Pick.tail | apply Pick.app))) | exact RdN.own (by (repeat (first | exact Pick.head | apply Pick.tail | apply Pick.app))))) (by (first | rfl | assumption | (simp; done) | omega)))) ?_
            first
              | exact ⟨_, fun w q => q.sup (by (repeat (first | exact Sup.refl | apply Sup.cons (by (repeat (first | exact Pick.head | apply Pick.tail | apply Pick.app))) | apply Sup.app | apply Sup.skip | apply Sup.skips))), .inl ⟨_, bx, lg, st, hres, rfl, rfl⟩⟩
              | exact ⟨_, fun w q => q.sup (by (repeat (first | exact Sup.refl | apply Sup.cons (by (repeat (first | exact Pick.head | apply Pick.tail | apply Pick.app))) | apply Sup.app | apply Sup.skip | apply Sup.skips))), .inr ⟨hres, rfl, rfl⟩⟩
        case' hf =>
          intro h
          try (first | (exfalso; omega) | (cases h; done) | (exfalso; simp at h; done) | subst h)
          all_goals
            refine J.skip ?_
        all_goals refine JE.then_normal ?_
        all_goals
          refine J.seq ?_
          refine J.region ?_
          refine JL.step (y_load1 hT rfl rfl rfl (by (exact Rd1.row (by (repeat (first | exact Pick.head | apply Pick.tail | apply Pick.app))) (by rfl)))) rfl rfl rfl ?_
          refine JL.step (y_assign rfl) rfl rfl rfl (JL.step (y_assign rfl) rfl rfl rfl ?_)
          refine JL.nil ?_
          refine JE.then_normal ?_
          refine J.ret ?_
          refine JE.scope_ret ?_
          first | refine JE.unmark (.inl rfl) rfl (by (repeat (first | exact Pick.head | apply Pick.tail | apply Pick.app))) ?_ | refine JE.nomark (.inl rfl) rfl ?_
          refine JE.ret2 (.inl rfl) rfl rfl (by (first | exact RV.tmp rfl | exact RV.cell1 hT rfl rfl rfl (by (exact Rd1.row (by (repeat (first | exact Pick.head | apply Pick.tail | apply Pick.app))) (by rfl))) | exact RV.cellN hT rfl rfl rfl (by (first | exact RdN.rowAll (by (repeat (first | exact Pick.head | apply Pick.tail | apply Pick.app))) | exact RdN.own (by (repeat (first | exact Pick.head | apply Pick.tail | apply Pick.app))))) (by (first | rfl | assumption | (simp; done) | omega)))) (by (first | exact RV.tmp rfl | exact RV.cell1 hT rfl rfl rfl (by (exact Rd1.row (by (repeat (first | exact Pick.head | apply Pick.tail | apply Pick.app))) (by rfl))) | exact RV.cellN hT rfl rfl rfl (by (first | exact RdN.rowAll (by (repeat (first | exact Pick.head | apply Pick.tail | apply Pick.app))) | exact RdN.own (by (repeat (first | exact Pick.head | apply Pick.tail | apply Pick.app))))) (by (first | rfl | assumption | (simp; done) | omega)))) ?_
          first
            | exact ⟨_, fun w q => q.sup (by (repeat (first | exact Sup.refl | apply Sup.cons (by (repeat (first | exact Pick.head | apply Pick.tail | apply Pick.app))) | apply Sup.app | apply Sup.skip | apply Sup.skips))), .inl ⟨_, bx, lg, st, hres, rfl, rfl⟩⟩
            | exact ⟨_, fun w q => q.sup (by (repeat (first | exact Sup.refl | apply Sup.cons (by (repeat (first | exact Pick.head | apply Pick.tail | apply Pick.app))) | apply Sup.app | apply Sup.skip | apply Sup.skips))), .inr ⟨hres, rfl, rfl⟩⟩
      · refine ⟨.done, some (.exit 1), _, by (repeat (first | exact Pick.head | apply Pick.tail | apply Pick.app)), by simp, ?_⟩
        dsimp only
        refine J.picks (A := pur _) (by (repeat (first | exact Pick.head | apply Pick.tail | apply Pick.app))) (J.purs fun hbad => ?_)
        have hres : entryN L = none := by rw [hE]; exact hbad
        refine J.exit ?_
        refine JE.block_exit ?_
        refine JE.then_normal ?_
        refine J.seq ?_
        refine J.seq ?_
        refine J.region ?_
        refine JL.step (y_load1 hT rfl rfl rfl (by (exact Rd1.row (by (repeat (first | exact Pick.head | apply Pick.tail | apply Pick.app))) (by rfl)))) rfl rfl rfl ?_
        refine JL.nil ?_
        refine JE.then_normal ?_
        first | apply J.cond_dec rfl | apply J.cond rfl
        case' ht =>
          intro h
          try (first | (exfalso; omega) | (cases h; done) | (exfalso; simp at h; done) | subst h)
          all_goals
            refine J.seq ?_
            refine J.region ?_
            refine JL.step (y_assign rfl) rfl rfl rfl (JL.step (y_assign rfl) rfl rfl rfl ?_)
            refine JL.nil ?_
            refine JE.then_normal ?_
            refine J.ret ?_
            refine JE.then_ret ?_
            refine JE.scope_ret ?_
            first | refine JE.unmark (.inl rfl) rfl (by (repeat (first | exact Pick.head | apply Pick.tail | apply Pick.app))) ?_ | refine JE.nomark (.inl rfl) rfl ?_
            refine JE.ret2 (.inl rfl) rfl rfl (by (first | exact RV.tmp rfl | exact RV.cell1 hT rfl rfl rfl (by (exact Rd1.row (by (repeat (first | exact Pick.head | apply Pick.tail | apply Pick.app))) (by rfl))) | exact RV.cellN hT rfl rfl rfl (by (first | exact RdN.rowAll (by (repeat (first | exact Pick.head | apply Pick.tail | apply Pick.app))) | exact RdN.own (by (repeat (first | exact Pick.head | apply Pick.tail | apply Pick.app))))) (by (first | rfl | assumption | (simp; done) | omega)))) (by (first | exact RV.tmp rfl | exact RV.cell1 hT rfl rfl rfl (by (exact Rd1.row (by (repeat (first | exact Pick.head | apply Pick.tail | apply Pick.app))) (by rfl))) | exact RV.cellN hT rfl rfl rfl (by (first | exact RdN.rowAll (by (repeat (first | exact Pick.head | apply Pick.tail | apply Pick.app))) | exact RdN.own (by (repeat (first | exact Pick.head | apply Pick.tail | apply Pick.app))))) (by (first | rfl | assumption | (simp; done) | omega)))) ?_
            first
              | exact ⟨_, fun w q => q.sup (by (repeat (first | exact Sup.refl | apply Sup.cons (by (repeat (first | exact Pick.head | apply Pick.tail | apply Pick.app))) | apply Sup.app | apply Sup.skip | apply Sup.skips))), .inl ⟨_, bx, lg, st, hres, rfl, rfl⟩⟩
              | exact ⟨_, fun w q => q.sup (by (repeat (first | exact Sup.refl | apply Sup.cons (by (repeat (first | exact Pick.head | apply Pick.tail | apply Pick.app))) | apply Sup.app | apply Sup.skip | apply Sup.skips))), .inr ⟨hres, rfl, rfl⟩⟩
        case' hf =>
          intro h
          try (first | (exfalso; omega) | (cases h; done) | (exfalso; simp at h; done) | subst h)
          all_goals
            refine J.skip ?_
        all_goals refine JE.then_normal ?_
        all_goals
          refine J.seq ?_
          refine J.region ?_
          refine JL.step (y_load1 hT rfl rfl rfl (by (exact Rd1.row (by (repeat (first | exact Pick.head | apply Pick.tail | apply Pick.app))) (by rfl)))) rfl rfl rfl ?_
          refine JL.step (y_assign rfl) rfl rfl rfl (JL.step (y_assign rfl) rfl rfl rfl ?_)
          refine JL.nil ?_
          refine JE.then_normal ?_
          refine J.ret ?_
          refine JE.scope_ret ?_
          first | refine JE.unmark (.inl rfl) rfl (by (repeat (first | exact Pick.head | apply Pick.tail | apply Pick.app))) ?_ | refine JE.nomark (.inl rfl) rfl ?_
          refine JE.ret2 (.inl rfl) rfl rfl (by (first | exact RV.tmp rfl | exact RV.cell1 hT rfl rfl rfl (by (exact Rd1.row (by (repeat (first | exact Pick.head | apply Pick.tail | apply Pick.app))) (by rfl))) | exact RV.cellN hT rfl rfl rfl (by (first | exact RdN.rowAll (by (repeat (first | exact Pick.head | apply Pick.tail | apply Pick.app))) | exact RdN.own (by (repeat (first | exact Pick.head | apply Pick.tail | apply Pick.app))))) (by (first | rfl | assumption | (simp; done) | omega)))) (by (first | exact RV.tmp rfl | exact RV.cell1 hT rfl rfl rfl (by (exact Rd1.row (by (repeat (first | exact Pick.head | apply Pick.tail | apply Pick.app))) (by rfl))) | exact RV.cellN hT rfl rfl rfl (by (first | exact RdN.rowAll (by (repeat (first | exact Pick.head | apply Pick.tail | apply Pick.app))) | exact RdN.own (by (repeat (first | exact Pick.head | apply Pick.tail | apply Pick.app))))) (by (first | rfl | assumption | (simp; done) | omega)))) ?_
          first
            | exact ⟨_, fun w q => q.sup (by (repeat (first | exact Sup.refl | apply Sup.cons (by (repeat (first | exact Pick.head | apply Pick.tail | apply Pick.app))) | apply Sup.app | apply Sup.skip | apply Sup.skips))), .inl ⟨_, bx, lg, st, hres, rfl, rfl⟩⟩
            | exact ⟨_, fun w q => q.sup (by (repeat (first | exact Sup.refl | apply Sup.cons (by (repeat (first | exact Pick.head | apply Pick.tail | apply Pick.app))) | apply Sup.app | apply Sup.skip | apply Sup.skips))), .inr ⟨hres, rfl, rfl⟩⟩
  ·
    have hb3 : decide ((L.snap.length : Int) = 0) = false := decide_eq_false (by omega)
    have hb4 : decide ((L.snap.length : Int) = 8) = false := decide_eq_false (by omega)
    refine J.seq ?_
    refine J.region ?_
    refine JL.step (y_move rfl) rfl rfl rfl (JL.step (y_len_slice hT rfl rfl rfl) rfl rfl rfl ?_)
    refine JL.nil ?_
    refine JE.then_normal ?_
    refine J.block ?_
    refine J.seq ?_
    refine J.region ?_
    refine JL.step (y_eql rfl rfl) rfl rfl rfl (JL.step (y_assign rfl) rfl rfl rfl ?_)
    refine JL.nil ?_
    refine JE.then_normal ?_
    refine J.cond_f rfl (by (first | rfl | assumption | (simp; done) | (simp; omega))) ?_
    refine J.seq ?_
    refine J.region ?_
    refine JL.step (y_eql rfl rfl) rfl rfl rfl (JL.step (y_assign rfl) rfl rfl rfl ?_)
    refine JL.nil ?_
    refine JE.then_normal ?_
    refine J.cond_f rfl (by (first | rfl | assumption | (simp; done) | (simp; omega))) ?_
    refine J.seq ?_
    refine J.region ?_
    refine JL.step (y_assign rfl) rfl rfl rfl (JL.step (y_assign rfl) rfl rfl rfl ?_)
    refine JL.nil ?_
    refine JE.then_normal ?_
    refine J.ret ?_
    refine JE.block_ret ?_
    refine JE.then_ret ?_
    refine JE.scope_ret ?_
    first | refine JE.unmark (.inl rfl) rfl (by (repeat (first | exact Pick.head | apply Pick.tail | apply Pick.app))) ?_ | refine JE.nomark (.inl rfl) rfl ?_
    refine JE.ret2 (.inl rfl) rfl rfl (by (first | exact RV.tmp rfl | exact RV.cell1 hT rfl rfl rfl (by (exact Rd1.row (by (repeat (first | exact Pick.head | apply Pick.tail | apply Pick.app))) (by rfl))) | exact RV.cellN hT rfl rfl rfl (by (first | exact RdN.rowAll (by (repeat (first | exact Pick.head | apply Pick.tail | apply Pick.app))) | exact RdN.own (by (repeat (first | exact Pick.head | apply Pick.tail | apply Pick.app))))) (by (first | rfl | assumption | (simp; done) | omega)))) (by (first | exact RV.tmp rfl | exact RV.cell1 hT rfl rfl rfl (by (exact Rd1.row (by (repeat (first | exact Pick.head | apply Pick.tail | apply Pick.app))) (by rfl))) | exact RV.cellN hT rfl rfl rfl (by (first | exact RdN.rowAll (by (repeat (first | exact Pick.head | apply Pick.tail | apply Pick.app))) | exact RdN.own (by (repeat (first | exact Pick.head | apply Pick.tail | apply Pick.app))))) (by (first | rfl | assumption | (simp; done) | omega)))) ?_
    exact ⟨_, fun w q => q.sup (by (repeat (first | exact Sup.refl | apply Sup.cons (by (repeat (first | exact Pick.head | apply Pick.tail | apply Pick.app))) | apply Sup.app | apply Sup.skip | apply Sup.skips))), .inr ⟨hst, rfl, rfl⟩⟩
end Go.Proofs.YtimekohdlofmaaaGreat
namespace Go.Proofs.YtimekohdlofmaaaGreat
open Go Go.SL
/-! The disk of an entry, armed or not. -/
def Dk.armO (D : Dk) : Option Nat → Dk
  | none => D
  | some k => D.arm k
theorem armO_safe (D : Dk) (a : Option Nat) : (D.armO a).safe = D.safe := by cases a <;> rfl
theorem armO_pending (D : Dk) (a : Option Nat) : (D.armO a).pending = D.pending := by cases a <;> rfl
theorem armO_dead (D : Dk) (a : Option Nat) : (D.armO a).dead = D.dead := by cases a <;> rfl
theorem armO_counts (D : Dk) (a : Option Nat) : (D.armO a).counts = D.counts := by cases a <;> rfl
theorem armO_half (D : Dk) (a : Option Nat) : (D.armO a).half = D.half := by cases a <;> rfl
theorem armO_snapB (D : Dk) (a : Option Nat) (s : Sb) : ∀ k, snapB s (D.armO a) k = snapB s D k
  | 0 => rfl
  | k + 1 => by
    rw [snapB, snapB, armO_snapB D a s k]
    cases a <;> rfl
theorem armO_snapS (D : Dk) (a : Option Nat) (s : Sb) : snapS s (D.armO a) = snapS s D := by rw [snapS, snapS, armO_snapB]
theorem armO_openL (S : Sb) (D : Dk) (a : Option Nat) (bs : List Int) : openL S (D.armO a) bs = openL S D bs := by cases a <;> rfl
theorem armO_byt {D : Dk} (h : Byt D) (a : Option Nat) : Byt (D.armO a) := by cases a <;> exact ⟨h.safe, h.pend⟩
/-- What formatting comes to. -/
def formatF (D : Dk) : Dk × Int :=
  if (D.write 0 (sbBlock sb0)).2 = 0 then
    (if ((D.write 0 (sbBlock sb0)).1.write 1 zeroB).2 = 0 then ((D.write 0 (sbBlock sb0)).1.write 1 zeroB).1.sync else (D.write 0 (sbBlock sb0)).1.write 1 zeroB)
  else D.write 0 (sbBlock sb0)
theorem write_pend (D : Dk) (i : Int) (b : Blk) : (D.write i b).1.pending.length ≤ D.pending.length + 1 := by
  unfold Dk.write
  split
  · exact Nat.le_succ _
  · split
    · exact Nat.le_succ _
    · simp [Dk.push, Dk.does]
attribute [local irreducible] J JL JE JM LS Y Fc RV Code.wp wpList Code.wpIn wpListIn
attribute [local irreducible] Yc
variable (E : World)
theorem openA_spec (d : Nat) (D : Dk) (s : Sb) (w : List Int) (a : Option Nat) (l : List HProp) (h : Holds s w D) (h64 : 64 ≤ D.safe.length) :
    Fc prog E 97 [.pointer (some ⟨d, 0, none⟩)].toArray (disk d (D.armO a) :: l) (fun v l' => ∃ st, v = .tuple #[.pointer (some ⟨st, 0, none⟩), .int .i64 0] ∧ l' = row st 224 (scells s d) :: disk d (D.armO a) :: l) :=
  (open_spec E d (D.armO a) l (by rw [armO_safe]; exact h64) (by rw [armO_dead]; exact h.up.dead) (by rw [armO_pending, h.none]; decide)).mono fun v l' q => by
    rw [armO_counts, h.counts] at q
    simp only [openP] at q
    rw [if_pos ⟨by rw [armO_half]; exact h.fits.hi, by rw [armO_snapS, h.snap]; exact h.hash⟩] at q
    exact q
theorem lopenA_spec (st d : Nat) (S : Sb) (D : Dk) (L : Lg) (a : Option Nat) (l : List HProp) (h : LH S D L) :
    Fc prog E 62 [.pointer (some ⟨st, 0, none⟩)].toArray (row st 224 (scells S d) :: disk d (D.armO a) :: l)
      (fun v l' => ∃ lg, v = .tuple #[.pointer (some ⟨lg, 0, none⟩), .int .i64 0] ∧ l' = logm lg st L :: row st 224 (scells S d) :: disk d (D.armO a) :: l) := by
  have hf : Fits S (D.armO a) := ⟨h.holds.fits.hash, h.holds.fits.place, h.holds.fits.lo, by rw [armO_half]; exact h.holds.fits.hi, by rw [armO_safe]; exact h.holds.fits.two⟩
  have q := lopen_spec E st d S (D.armO a) L.snap l hf (by rw [armO_dead]; exact h.holds.up.dead) (armO_byt h.byt a) (by rw [armO_pending, h.holds.none]; decide) (by rw [armO_snapS]; exact h.holds.snap) h.holds.hash
  rwa [armO_openL, h.openL] at q
theorem storeA_spec (d : Nat) (D : Dk) (s : Sb) (w : List Int) (a : Option Nat) (l : List HProp) (h : Holds s w D) (h64 : 64 ≤ D.safe.length) :
    Fc prog E 61 [.pointer (some ⟨d, 0, none⟩)].toArray (disk d (D.armO a) :: l) (fun v l' => ∃ st, v = .tuple #[.pointer (some ⟨st, 0, none⟩), .int .i64 0] ∧ l' = row st 224 (scells s d) :: disk d (D.armO a) :: l) := by
  refine Fc.of_body (c := ?codeC) Tryz.func61 ?hb Tryz.ntmps61 ?hl ?_
  case hb => exact rfl
  case hl => exact rfl
  refine J.seq ?_
  refine J.region ?_
  refine JL.step (y_assign rfl) rfl rfl rfl (JL.step (y_assign rfl) rfl rfl rfl ?_)
  refine JL.nil ?_
  refine JE.then_normal ?_
  refine J.seq ?_
  refine J.region ?_
  refine JL.step (y_move rfl) rfl rfl rfl ?_
  refine JL.loud rfl (l_callF e97 rfl rfl (openA_spec E d D s w a _ h h64) ?_)
  rintro _ _ ⟨st, rfl, rfl⟩
  refine JL.step (y_move rfl) rfl rfl rfl (JL.step (y_extract rfl rfl) rfl rfl rfl (JL.step (y_extract rfl rfl) rfl rfl rfl (JL.step (y_assign rfl) rfl rfl rfl (JL.step (y_assign rfl) rfl rfl rfl ?_))))
  refine JL.nil ?_
  refine JE.then_normal ?_
  refine J.seq ?_
  refine J.seq ?_
  refine J.region ?_
  refine JL.step (y_move rfl) rfl rfl rfl (JL.step (y_eql rfl rfl) rfl rfl rfl ?_)
  refine JL.nil ?_
  refine JE.then_normal ?_
  refine J.cond_f rfl (by (first | rfl | assumption | (simp; done) | (simp; omega))) ?_
  refine J.skip ?_
  refine JE.then_normal ?_
  refine J.seq ?_
  refine J.region ?_
  refine JL.step (y_move rfl) rfl rfl rfl (JL.step (y_move rfl) rfl rfl rfl (JL.step (y_assign rfl) rfl rfl rfl (JL.step (y_assign rfl) rfl rfl rfl ?_)))
  refine JL.nil ?_
  refine JE.then_normal ?_
  refine J.ret ?_
  refine JE.ret2 (.inl rfl) rfl rfl (by (first | exact RV.tmp rfl | exact RV.cell1 hT rfl rfl rfl (by (exact Rd1.row (by (repeat (first | exact Pick.head | apply Pick.tail | apply Pick.app))) (by rfl))) | exact RV.cellN hT rfl rfl rfl (by (first | exact RdN.rowAll (by (repeat (first | exact Pick.head | apply Pick.tail | apply Pick.app))) | exact RdN.own (by (repeat (first | exact Pick.head | apply Pick.tail | apply Pick.app))))) (by (first | rfl | assumption | (simp; done) | omega)))) (by (first | exact RV.tmp rfl | exact RV.cell1 hT rfl rfl rfl (by (exact Rd1.row (by (repeat (first | exact Pick.head | apply Pick.tail | apply Pick.app))) (by rfl))) | exact RV.cellN hT rfl rfl rfl (by (first | exact RdN.rowAll (by (repeat (first | exact Pick.head | apply Pick.tail | apply Pick.app))) | exact RdN.own (by (repeat (first | exact Pick.head | apply Pick.tail | apply Pick.app))))) (by (first | rfl | assumption | (simp; done) | omega)))) ?_
  exact ⟨st, rfl, rfl⟩
theorem formatF_spec (d : Nat) (D : Dk) (l : List HProp) (h : 64 ≤ D.safe.length) (hpn : D.pending.length ≤ 100000) :
    Fc prog E 83 [.pointer (some ⟨d, 0, none⟩)].toArray (disk d D :: l) (fun v l' => ((formatF D).2 = 0 ∧ ∃ st, v = .tuple #[.pointer (some ⟨st, 0, none⟩), .int .i64 0] ∧ l' = row st 224 (scells sb0 d) :: disk d (formatF D).1 :: l) ∨ (¬ (formatF D).2 = 0 ∧ v = .tuple #[.pointer none, .int .i64 (formatF D).2] ∧ l' = disk d (formatF D).1 :: l)) := by
  refine Fc.post ?_
  have hnilIn : ∀ l, InL l none 0 0 (ints .u8 []) := fun l => ⟨Nat.le_refl _, Nat.zero_le _, .inr ⟨rfl, rfl⟩⟩
  obtain ⟨⟨D1, e1⟩, hW1⟩ : ∃ R, D.write 0 (sbBlock sb0) = R := ⟨_, rfl⟩
  obtain ⟨⟨D2, e2⟩, hW2⟩ : ∃ R, D1.write 1 zeroB = R := ⟨_, rfl⟩
  obtain ⟨⟨D3, e3⟩, hW3⟩ : ∃ R, D2.sync = R := ⟨_, rfl⟩
  have hF : formatF D = if e1 = 0 then (if e2 = 0 then (D3, e3) else (D2, e2)) else (D1, e1) := by
    unfold formatF
    rw [hW1]
    dsimp only
    rw [hW2]
    dsimp only
    rw [hW3]
  have h1p : D1.pending.length ≤ D.pending.length + 1 := by have q := write_pend D 0 (sbBlock sb0); rwa [hW1] at q
  have h2p : D2.pending.length ≤ D1.pending.length + 1 := by have q := write_pend D1 1 zeroB; rwa [hW2] at q
  have c0 : ∀ l, Fc prog E 122 [Value.pointer (some ⟨d, 0, none⟩), .int .i64 0, .agg (encB (sbBlock sb0)).toArray].toArray (disk d D :: l) (fun v l' => v = .int .i64 e1 ∧ l' = disk d D1 :: l) := fun l => by
    have q := write_spec E d D 0 (sbBlock sb0) (sbBlock_length sb0_hash) l (by omega)
    rwa [hW1] at q
  have c1 : ∀ l, Fc prog E 122 [Value.pointer (some ⟨d, 0, none⟩), .int .i64 1, .agg (encB zeroB).toArray].toArray (disk d D1 :: l) (fun v l' => v = .int .i64 e2 ∧ l' = disk d D2 :: l) := fun l => by
    have q := write_spec E d D1 1 zeroB rfl l (by omega)
    rwa [hW2] at q
  have c2 : ∀ l, Fc prog E 124 [Value.pointer (some ⟨d, 0, none⟩)].toArray (disk d D2 :: l) (fun v l' => v = .int .i64 e3 ∧ l' = disk d D3 :: l) := fun l => by
    have q := sync_spec E d D2 l (by omega)
    rwa [hW3] at q
  have hS19 : (encS sb0).length = 19 := by simp [encS, ints, sb0_hash]
  have hS1 := encS_one sb0
  obtain ⟨hs, hhs⟩ : ∃ hs, (sha []).take 16 = hs := ⟨_, rfl⟩
  have hsl : hs.length = 16 := by rw [← hhs]; simp [sha_length]
  have hs16 : (ints .u8 hs).length = 16 := by simp [ints, hsl]
  have esb : encS sb0 = .int .i64 0 :: Q 0#64 :: .int .i64 0 :: ints .u8 hs := by rw [encS, sb0, hhs]
  have hshort : ∀ l, Fc prog E 121 [.slice none 0 0].toArray l (fun v l' => v = .agg (ints .u8 hs).toArray ∧ l' = l) := fun l => by
    have q := short_spec E none 0 [] l (hnilIn l) (by simp)
    rwa [hhs] at q
  rw [hF]
  obtain ⟨S0, hS0⟩ : ∃ S0, sb0 = S0 := ⟨_, rfl⟩
  have hS0h : S0.hash.length = 16 := by rw [← hS0]; exact sb0_hash
  rw [hS0] at c0 hS19 hS1 esb ⊢
  refine Fc.of_body (c := ?codeC) Tryz.func83 ?hb Tryz.ntmps83 ?hl ?_
  case hb => exact rfl
  case hl => exact rfl
  refine J.seq ?_
  refine J.region ?_
  refine JL.step (y_assign rfl) rfl rfl rfl (JL.step (y_assign rfl) rfl rfl rfl ?_)
  refine JL.nil ?_
  refine JE.then_normal ?_
  refine J.seq ?_
  refine J.block ?_
  refine J.seq ?_
  refine J.region ?_
  refine JL.step (y_move rfl) rfl rfl rfl (JL.step (y_ptr_eq_nil hT rfl rfl rfl rfl) rfl rfl rfl (JL.step (y_assign rfl) rfl rfl rfl ?_))
  refine JL.nil ?_
  refine JE.then_normal ?_
  refine J.cond_f rfl (by (first | rfl | assumption | (simp; done) | (simp; omega))) ?_
  refine J.seq ?_
  refine J.region ?_
  refine JL.step (y_move rfl) rfl rfl rfl ?_
  refine JL.loud rfl (l_callF e82 rfl rfl (len_spec E d D _) ?_)
  rintro _ _ ⟨rfl, rfl⟩
  refine JL.step (y_lss rfl rfl) rfl rfl rfl (JL.step (y_assign rfl) rfl rfl rfl ?_)
  refine JL.nil ?_
  refine JE.then_normal ?_
  refine J.cond_f rfl (by (first | rfl | assumption | (simp; done) | (simp; omega))) ?_
  refine J.skip ?_
  refine JE.block_normal ?_
  refine JE.then_normal ?_
  refine J.seq ?_
  refine J.region ?_
  refine JL.loud rfl (l_callF e121 rfl rfl (hshort _) ?_)
  rintro _ _ ⟨rfl, rfl⟩
  refine JL.step (y_build (cs := encS S0) hT rfl rfl rfl rfl rfl rfl ⟨⟨hs16, Nat.le_of_ble_eq_true rfl⟩, trivial⟩ (by rw [esb]; simp [fillE, Value.cells, ints]; exact ⟨rfl, Nat.le_of_ble_eq_true rfl⟩)) rfl rfl rfl ?_
  refine JL.loud rfl (l_alloc hT rfl rfl (by (first | rfl | simp)) rfl (fun b3 => ?_))
  refine JL.loud rfl (l_storeAll hT rfl rfl rfl (by (first | rfl | assumption | (simp; done) | omega)) (by (first | assumption | exact ones_of rfl | exact encW_one _ | exact encB_one _ | (intro u hu; simp at hu; rcases hu with rfl | rfl <;> rfl) | (intro u hu; simp at hu; subst hu; rfl) | simp)) (by (repeat (first | exact Pick.head | apply Pick.tail | apply Pick.app))) (by (first | rfl | assumption | (simp; done) | omega)) ?_)
  refine JL.nil ?_
  refine JE.then_normal ?_
  refine J.seq ?_
  refine J.seq ?_
  refine J.region ?_
  refine JL.step (y_move rfl) rfl rfl rfl ?_
  refine JL.step (y_loadN hT rfl rfl rfl (by (first | exact RdN.rowAll (by (repeat (first | exact Pick.head | apply Pick.tail | apply Pick.app))) | exact RdN.own (by (repeat (first | exact Pick.head | apply Pick.tail | apply Pick.app))))) (by (first | rfl | assumption | (simp; done) | omega))) rfl rfl rfl ?_
  refine JL.loud rfl (l_callF e123 rfl rfl (block_super_spec E S0 _ hS0h) ?_)
  rintro _ _ ⟨rfl, rfl⟩
  refine JL.loud rfl (l_callF e122 rfl rfl (Fc.on (Split.cons (by (repeat (first | exact Pick.head | apply Pick.tail | apply Pick.app))) Split.nil) (c0 _)) ?_)
  rintro _ _ ⟨rfl, rfl⟩
  refine JL.step (y_assign rfl) rfl rfl rfl ?_
  refine JL.nil ?_
  refine JE.then_normal ?_
  refine J.seq ?_
  refine J.region ?_
  refine JL.step (y_move rfl) rfl rfl rfl (JL.step (y_neq rfl rfl) rfl rfl rfl ?_)
  refine JL.nil ?_
  refine JE.then_normal ?_
  first | apply J.cond_dec rfl | apply J.cond rfl
  case' ht =>
    intro h
    try (first | (exfalso; omega) | (cases h; done) | (exfalso; simp at h; done) | subst h)
    all_goals
      have hne : ¬ e1 = 0 := h
      refine J.seq ?_
      refine J.region ?_
      refine JL.step (y_move rfl) rfl rfl rfl (JL.step (y_assign rfl) rfl rfl rfl (JL.step (y_assign rfl) rfl rfl rfl ?_))
      refine JL.nil ?_
      refine JE.then_normal ?_
      refine J.ret ?_
      refine JE.then_ret ?_
      refine JE.ret2 (.inl rfl) rfl rfl (by (first | exact RV.tmp rfl | exact RV.cell1 hT rfl rfl rfl (by (exact Rd1.row (by (repeat (first | exact Pick.head | apply Pick.tail | apply Pick.app))) (by rfl))) | exact RV.cellN hT rfl rfl rfl (by (first | exact RdN.rowAll (by (repeat (first | exact Pick.head | apply Pick.tail | apply Pick.app))) | exact RdN.own (by (repeat (first | exact Pick.head | apply Pick.tail | apply Pick.app))))) (by (first | rfl | assumption | (simp; done) | omega)))) (by (first | exact RV.tmp rfl | exact RV.cell1 hT rfl rfl rfl (by (exact Rd1.row (by (repeat (first | exact Pick.head | apply Pick.tail | apply Pick.app))) (by rfl))) | exact RV.cellN hT rfl rfl rfl (by (first | exact RdN.rowAll (by (repeat (first | exact Pick.head | apply Pick.tail | apply Pick.app))) | exact RdN.own (by (repeat (first | exact Pick.head | apply Pick.tail | apply Pick.app))))) (by (first | rfl | assumption | (simp; done) | omega)))) ?_
      first
        | (have zz := he3
           rw [if_pos he1, if_pos he2]
           exact ⟨_, fun w q => q.sup (by (repeat (first | exact Sup.refl | apply Sup.cons (by (repeat (first | exact Pick.head | apply Pick.tail | apply Pick.app))) | apply Sup.app | apply Sup.skip | apply Sup.skips))), .inl ⟨he3, _, rfl, rfl⟩⟩)
        | (have zz := he2
           rw [if_pos he1, if_pos he2]
           exact ⟨_, fun w q => q.sup (by (repeat (first | exact Sup.refl | apply Sup.cons (by (repeat (first | exact Pick.head | apply Pick.tail | apply Pick.app))) | apply Sup.app | apply Sup.skip | apply Sup.skips))), .inr ⟨hne, rfl, rfl⟩⟩)
        | (have zz := he1
           rw [if_pos he1, if_neg hne]
           exact ⟨_, fun w q => q.sup (by (repeat (first | exact Sup.refl | apply Sup.cons (by (repeat (first | exact Pick.head | apply Pick.tail | apply Pick.app))) | apply Sup.app | apply Sup.skip | apply Sup.skips))), .inr ⟨hne, rfl, rfl⟩⟩)
        | (rw [if_neg hne]
           exact ⟨_, fun w q => q.sup (by (repeat (first | exact Sup.refl | apply Sup.cons (by (repeat (first | exact Pick.head | apply Pick.tail | apply Pick.app))) | apply Sup.app | apply Sup.skip | apply Sup.skips))), .inr ⟨hne, rfl, rfl⟩⟩)
  case' hf =>
    intro h
    try (first | (exfalso; omega) | (cases h; done) | (exfalso; simp at h; done) | subst h)
    all_goals
      have he1 : e1 = 0 := by omega
      refine J.skip ?_
  all_goals refine JE.then_normal ?_
  all_goals
    refine J.seq ?_
    refine J.seq ?_
    refine J.region ?_
    refine JL.step (y_move rfl) rfl rfl rfl (JL.step (y_build_arr0 hT rfl rfl rfl rfl) rfl rfl rfl ?_)
    refine JL.loud rfl (l_callF e122 rfl rfl (Fc.on (Split.cons (by (repeat (first | exact Pick.head | apply Pick.tail | apply Pick.app))) Split.nil) (c1 _)) ?_)
    rintro _ _ ⟨rfl, rfl⟩
    refine JL.step (y_assign rfl) rfl rfl rfl ?_
    refine JL.nil ?_
    refine JE.then_normal ?_
    refine J.seq ?_
    refine J.region ?_
    refine JL.step (y_move rfl) rfl rfl rfl (JL.step (y_neq rfl rfl) rfl rfl rfl ?_)
    refine JL.nil ?_
    refine JE.then_normal ?_
    first | apply J.cond_dec rfl | apply J.cond rfl
    case' ht =>
      intro h
      try (first | (exfalso; omega) | (cases h; done) | (exfalso; simp at h; done) | subst h)
      all_goals
        have hne : ¬ e2 = 0 := h
        refine J.seq ?_
        refine J.region ?_
        refine JL.step (y_move rfl) rfl rfl rfl (JL.step (y_assign rfl) rfl rfl rfl (JL.step (y_assign rfl) rfl rfl rfl ?_))
        refine JL.nil ?_
        refine JE.then_normal ?_
        refine J.ret ?_
        refine JE.then_ret ?_
        refine JE.ret2 (.inl rfl) rfl rfl (by (first | exact RV.tmp rfl | exact RV.cell1 hT rfl rfl rfl (by (exact Rd1.row (by (repeat (first | exact Pick.head | apply Pick.tail | apply Pick.app))) (by rfl))) | exact RV.cellN hT rfl rfl rfl (by (first | exact RdN.rowAll (by (repeat (first | exact Pick.head | apply Pick.tail | apply Pick.app))) | exact RdN.own (by (repeat (first | exact Pick.head | apply Pick.tail | apply Pick.app))))) (by (first | rfl | assumption | (simp; done) | omega)))) (by (first | exact RV.tmp rfl | exact RV.cell1 hT rfl rfl rfl (by (exact Rd1.row (by (repeat (first | exact Pick.head | apply Pick.tail | apply Pick.app))) (by rfl))) | exact RV.cellN hT rfl rfl rfl (by (first | exact RdN.rowAll (by (repeat (first | exact Pick.head | apply Pick.tail | apply Pick.app))) | exact RdN.own (by (repeat (first | exact Pick.head | apply Pick.tail | apply Pick.app))))) (by (first | rfl | assumption | (simp; done) | omega)))) ?_
        first
          | (have zz := he3
             rw [if_pos he1, if_pos he2]
             exact ⟨_, fun w q => q.sup (by (repeat (first | exact Sup.refl | apply Sup.cons (by (repeat (first | exact Pick.head | apply Pick.tail | apply Pick.app))) | apply Sup.app | apply Sup.skip | apply Sup.skips))), .inl ⟨he3, _, rfl, rfl⟩⟩)
          | (have zz := he2
             rw [if_pos he1, if_pos he2]
             exact ⟨_, fun w q => q.sup (by (repeat (first | exact Sup.refl | apply Sup.cons (by (repeat (first | exact Pick.head | apply Pick.tail | apply Pick.app))) | apply Sup.app | apply Sup.skip | apply Sup.skips))), .inr ⟨hne, rfl, rfl⟩⟩)
          | (have zz := he1
             rw [if_pos he1, if_neg hne]
             exact ⟨_, fun w q => q.sup (by (repeat (first | exact Sup.refl | apply Sup.cons (by (repeat (first | exact Pick.head | apply Pick.tail | apply Pick.app))) | apply Sup.app | apply Sup.skip | apply Sup.skips))), .inr ⟨hne, rfl, rfl⟩⟩)
          | (rw [if_neg hne]
             exact ⟨_, fun w q => q.sup (by (repeat (first | exact Sup.refl | apply Sup.cons (by (repeat (first | exact Pick.head | apply Pick.tail | apply Pick.app))) | apply Sup.app | apply Sup.skip | apply Sup.skips))), .inr ⟨hne, rfl, rfl⟩⟩)
    case' hf =>
      intro h
      try (first | (exfalso; omega) | (cases h; done) | (exfalso; simp at h; done) | subst h)
      all_goals
        have he2 : e2 = 0 := by omega
        refine J.skip ?_
    all_goals refine JE.then_normal ?_
    all_goals
      refine J.seq ?_
      refine J.seq ?_
      refine J.region ?_
      refine JL.step (y_move rfl) rfl rfl rfl ?_
      refine JL.loud rfl (l_callF e124 rfl rfl (Fc.on (Split.cons (by (repeat (first | exact Pick.head | apply Pick.tail | apply Pick.app))) Split.nil) (c2 _)) ?_)
      rintro _ _ ⟨rfl, rfl⟩
      refine JL.step (y_assign rfl) rfl rfl rfl ?_
      refine JL.nil ?_
      refine JE.then_normal ?_
      refine J.seq ?_
      refine J.region ?_
      refine JL.step (y_move rfl) rfl rfl rfl (JL.step (y_neq rfl rfl) rfl rfl rfl ?_)
      refine JL.nil ?_
      refine JE.then_normal ?_
      first | apply J.cond_dec rfl | apply J.cond rfl
      case' ht =>
        intro h
        try (first | (exfalso; omega) | (cases h; done) | (exfalso; simp at h; done) | subst h)
        all_goals
          have hne : ¬ e3 = 0 := h
          refine J.seq ?_
          refine J.region ?_
          refine JL.step (y_move rfl) rfl rfl rfl (JL.step (y_assign rfl) rfl rfl rfl (JL.step (y_assign rfl) rfl rfl rfl ?_))
          refine JL.nil ?_
          refine JE.then_normal ?_
          refine J.ret ?_
          refine JE.then_ret ?_
          refine JE.ret2 (.inl rfl) rfl rfl (by (first | exact RV.tmp rfl | exact RV.cell1 hT rfl rfl rfl (by (exact Rd1.row (by (repeat (first | exact Pick.head | apply Pick.tail | apply Pick.app))) (by rfl))) | exact RV.cellN hT rfl rfl rfl (by (first | exact RdN.rowAll (by (repeat (first | exact Pick.head | apply Pick.tail | apply Pick.app))) | exact RdN.own (by (repeat (first | exact Pick.head | apply Pick.tail | apply Pick.app))))) (by (first | rfl | assumption | (simp; done) | omega)))) (by (first | exact RV.tmp rfl | exact RV.cell1 hT rfl rfl rfl (by (exact Rd1.row (by (repeat (first | exact Pick.head | apply Pick.tail | apply Pick.app))) (by rfl))) | exact RV.cellN hT rfl rfl rfl (by (first | exact RdN.rowAll (by (repeat (first | exact Pick.head | apply Pick.tail | apply Pick.app))) | exact RdN.own (by (repeat (first | exact Pick.head | apply Pick.tail | apply Pick.app))))) (by (first | rfl | assumption | (simp; done) | omega)))) ?_
          first
            | (have zz := he3
               rw [if_pos he1, if_pos he2]
               exact ⟨_, fun w q => q.sup (by (repeat (first | exact Sup.refl | apply Sup.cons (by (repeat (first | exact Pick.head | apply Pick.tail | apply Pick.app))) | apply Sup.app | apply Sup.skip | apply Sup.skips))), .inl ⟨he3, _, rfl, rfl⟩⟩)
            | (have zz := he2
               rw [if_pos he1, if_pos he2]
               exact ⟨_, fun w q => q.sup (by (repeat (first | exact Sup.refl | apply Sup.cons (by (repeat (first | exact Pick.head | apply Pick.tail | apply Pick.app))) | apply Sup.app | apply Sup.skip | apply Sup.skips))), .inr ⟨hne, rfl, rfl⟩⟩)
            | (have zz := he1
               rw [if_pos he1, if_neg hne]
               exact ⟨_, fun w q => q.sup (by (repeat (first | exact Sup.refl | apply Sup.cons (by (repeat (first | exact Pick.head | apply Pick.tail | apply Pick.app))) | apply Sup.app | apply Sup.skip | apply Sup.skips))), .inr ⟨hne, rfl, rfl⟩⟩)
            | (rw [if_neg hne]
               exact ⟨_, fun w q => q.sup (by (repeat (first | exact Sup.refl | apply Sup.cons (by (repeat (first | exact Pick.head | apply Pick.tail | apply Pick.app))) | apply Sup.app | apply Sup.skip | apply Sup.skips))), .inr ⟨hne, rfl, rfl⟩⟩)
      case' hf =>
        intro h
        try (first | (exfalso; omega) | (cases h; done) | (exfalso; simp at h; done) | subst h)
        all_goals
          have he3 : e3 = 0 := by omega
          refine J.skip ?_
      all_goals refine JE.then_normal ?_
      all_goals
        refine J.seq ?_
        refine J.region ?_
        refine JL.step (y_loadN hT rfl rfl rfl (by (first | exact RdN.rowAll (by (repeat (first | exact Pick.head | apply Pick.tail | apply Pick.app))) | exact RdN.own (by (repeat (first | exact Pick.head | apply Pick.tail | apply Pick.app))))) (by (first | rfl | assumption | (simp; done) | omega))) rfl rfl rfl ?_
        refine JL.step (y_move rfl) rfl rfl rfl ?_
        refine JL.step (y_build (cs := scells S0 d) hT rfl rfl rfl rfl rfl rfl ⟨⟨hS19, Nat.le_of_ble_eq_true rfl⟩, ⟨rfl, Nat.le_of_ble_eq_true rfl⟩, trivial⟩ (by simp [fillE, Value.cells, scells, hS19, i218, i49])) rfl rfl rfl ?_
        refine JL.loud rfl (l_box rfl (by (first | rfl | simp)) rfl (fun b9 => ?_))
        refine JL.step (y_assign rfl) rfl rfl rfl (JL.step (y_assign rfl) rfl rfl rfl ?_)
        refine JL.nil ?_
        refine JE.then_normal ?_
        refine J.ret ?_
        refine JE.ret2 (.inl rfl) rfl rfl (by (first | exact RV.tmp rfl | exact RV.cell1 hT rfl rfl rfl (by (exact Rd1.row (by (repeat (first | exact Pick.head | apply Pick.tail | apply Pick.app))) (by rfl))) | exact RV.cellN hT rfl rfl rfl (by (first | exact RdN.rowAll (by (repeat (first | exact Pick.head | apply Pick.tail | apply Pick.app))) | exact RdN.own (by (repeat (first | exact Pick.head | apply Pick.tail | apply Pick.app))))) (by (first | rfl | assumption | (simp; done) | omega)))) (by (first | exact RV.tmp rfl | exact RV.cell1 hT rfl rfl rfl (by (exact Rd1.row (by (repeat (first | exact Pick.head | apply Pick.tail | apply Pick.app))) (by rfl))) | exact RV.cellN hT rfl rfl rfl (by (first | exact RdN.rowAll (by (repeat (first | exact Pick.head | apply Pick.tail | apply Pick.app))) | exact RdN.own (by (repeat (first | exact Pick.head | apply Pick.tail | apply Pick.app))))) (by (first | rfl | assumption | (simp; done) | omega)))) ?_
        first
          | (have zz := he3
             rw [if_pos he1, if_pos he2]
             exact ⟨_, fun w q => q.sup (by (repeat (first | exact Sup.refl | apply Sup.cons (by (repeat (first | exact Pick.head | apply Pick.tail | apply Pick.app))) | apply Sup.app | apply Sup.skip | apply Sup.skips))), .inl ⟨he3, _, rfl, rfl⟩⟩)
          | (have zz := he2
             rw [if_pos he1, if_pos he2]
             exact ⟨_, fun w q => q.sup (by (repeat (first | exact Sup.refl | apply Sup.cons (by (repeat (first | exact Pick.head | apply Pick.tail | apply Pick.app))) | apply Sup.app | apply Sup.skip | apply Sup.skips))), .inr ⟨hne, rfl, rfl⟩⟩)
          | (have zz := he1
             rw [if_pos he1, if_neg hne]
             exact ⟨_, fun w q => q.sup (by (repeat (first | exact Sup.refl | apply Sup.cons (by (repeat (first | exact Pick.head | apply Pick.tail | apply Pick.app))) | apply Sup.app | apply Sup.skip | apply Sup.skips))), .inr ⟨hne, rfl, rfl⟩⟩)
          | (rw [if_neg hne]
             exact ⟨_, fun w q => q.sup (by (repeat (first | exact Sup.refl | apply Sup.cons (by (repeat (first | exact Pick.head | apply Pick.tail | apply Pick.app))) | apply Sup.app | apply Sup.skip | apply Sup.skips))), .inr ⟨hne, rfl, rfl⟩⟩)
theorem storeF_spec (d : Nat) (D : Dk) (l : List HProp) (h64 : 64 ≤ D.safe.length) (hd : D.dead = false) (hpn : D.pending.length ≤ 100000) (hc : D.counts = none) :
    Fc prog E 61 [.pointer (some ⟨d, 0, none⟩)].toArray (disk d D :: l) (fun v l' => ((formatF D).2 = 0 ∧ ∃ st, v = .tuple #[.pointer (some ⟨st, 0, none⟩), .int .i64 0] ∧ l' = row st 224 (scells sb0 d) :: disk d (formatF D).1 :: l) ∨ (¬ (formatF D).2 = 0 ∧ v = .tuple #[.pointer none, .int .i64 (formatF D).2] ∧ l' = disk d (formatF D).1 :: l)) := by
  have co : ∀ l, Fc prog E 97 [.pointer (some ⟨d, 0, none⟩)].toArray (disk d D :: l) (fun v l' => v = .tuple #[.pointer none, .int .i64 210] ∧ l' = disk d D :: l) := fun l => by
    have q := open_spec E d D l h64 hd (by omega)
    rwa [hc] at q
  by_cases h0 : (formatF D).2 = 0
  · have cf : ∀ l, Fc prog E 83 [.pointer (some ⟨d, 0, none⟩)].toArray (disk d D :: l) (fun v l' => ∃ st, v = .tuple #[.pointer (some ⟨st, 0, none⟩), .int .i64 0] ∧ l' = row st 224 (scells sb0 d) :: disk d (formatF D).1 :: l) := fun l => (formatF_spec E d D l h64 hpn).mono fun v l' q => by
      rcases q with ⟨_, q⟩ | ⟨q, _⟩
      · exact q
      · exact absurd h0 q
    refine Fc.of_body (c := ?codeC) Tryz.func61 ?hb Tryz.ntmps61 ?hl ?_
    case hb => exact rfl
    case hl => exact rfl
    refine J.seq ?_
    refine J.region ?_
    refine JL.step (y_assign rfl) rfl rfl rfl (JL.step (y_assign rfl) rfl rfl rfl ?_)
    refine JL.nil ?_
    refine JE.then_normal ?_
    refine J.seq ?_
    refine J.region ?_
    refine JL.step (y_move rfl) rfl rfl rfl ?_
    refine JL.loud rfl (l_callF e97 rfl rfl (co _) ?_)
    rintro _ _ ⟨rfl, rfl⟩
    refine JL.step (y_move rfl) rfl rfl rfl (JL.step (y_extract rfl rfl) rfl rfl rfl (JL.step (y_extract rfl rfl) rfl rfl rfl (JL.step (y_assign rfl) rfl rfl rfl (JL.step (y_assign rfl) rfl rfl rfl ?_))))
    refine JL.nil ?_
    refine JE.then_normal ?_
    refine J.seq ?_
    refine J.seq ?_
    refine J.region ?_
    refine JL.step (y_move rfl) rfl rfl rfl (JL.step (y_eql rfl rfl) rfl rfl rfl ?_)
    refine JL.nil ?_
    refine JE.then_normal ?_
    refine J.cond_t rfl (by (first | rfl | assumption | (simp; done) | (simp; omega))) ?_
    refine J.seq ?_
    refine J.region ?_
    refine JL.step (y_move rfl) rfl rfl rfl ?_
    refine JL.loud rfl (l_callF e83 rfl rfl (cf _) ?_)
    rintro _ _ ⟨st, rfl, rfl⟩
    refine JL.step (y_extract rfl rfl) rfl rfl rfl (JL.step (y_extract rfl rfl) rfl rfl rfl (JL.step (y_assign rfl) rfl rfl rfl (JL.step (y_assign rfl) rfl rfl rfl ?_)))
    refine JL.nil ?_
    refine JE.then_normal ?_
    refine J.ret ?_
    refine JE.then_ret ?_
    refine JE.ret2 (.inl rfl) rfl rfl (by (first | exact RV.tmp rfl | exact RV.cell1 hT rfl rfl rfl (by (exact Rd1.row (by (repeat (first | exact Pick.head | apply Pick.tail | apply Pick.app))) (by rfl))) | exact RV.cellN hT rfl rfl rfl (by (first | exact RdN.rowAll (by (repeat (first | exact Pick.head | apply Pick.tail | apply Pick.app))) | exact RdN.own (by (repeat (first | exact Pick.head | apply Pick.tail | apply Pick.app))))) (by (first | rfl | assumption | (simp; done) | omega)))) (by (first | exact RV.tmp rfl | exact RV.cell1 hT rfl rfl rfl (by (exact Rd1.row (by (repeat (first | exact Pick.head | apply Pick.tail | apply Pick.app))) (by rfl))) | exact RV.cellN hT rfl rfl rfl (by (first | exact RdN.rowAll (by (repeat (first | exact Pick.head | apply Pick.tail | apply Pick.app))) | exact RdN.own (by (repeat (first | exact Pick.head | apply Pick.tail | apply Pick.app))))) (by (first | rfl | assumption | (simp; done) | omega)))) ?_
    exact .inl ⟨h0, _, rfl, rfl⟩
  · have cf : ∀ l, Fc prog E 83 [.pointer (some ⟨d, 0, none⟩)].toArray (disk d D :: l) (fun v l' => v = .tuple #[.pointer none, .int .i64 (formatF D).2] ∧ l' = disk d (formatF D).1 :: l) := fun l => (formatF_spec E d D l h64 hpn).mono fun v l' q => by
      rcases q with ⟨q, _⟩ | ⟨_, q⟩
      · exact absurd q h0
      · exact q
    refine Fc.of_body (c := ?codeC) Tryz.func61 ?hb Tryz.ntmps61 ?hl ?_
    case hb => exact rfl
    case hl => exact rfl
    refine J.seq ?_
    refine J.region ?_
    refine JL.step (y_assign rfl) rfl rfl rfl (JL.step (y_assign rfl) rfl rfl rfl ?_)
    refine JL.nil ?_
    refine JE.then_normal ?_
    refine J.seq ?_
    refine J.region ?_
    refine JL.step (y_move rfl) rfl rfl rfl ?_
    refine JL.loud rfl (l_callF e97 rfl rfl (co _) ?_)
    rintro _ _ ⟨rfl, rfl⟩
    refine JL.step (y_move rfl) rfl rfl rfl (JL.step (y_extract rfl rfl) rfl rfl rfl (JL.step (y_extract rfl rfl) rfl rfl rfl (JL.step (y_assign rfl) rfl rfl rfl (JL.step (y_assign rfl) rfl rfl rfl ?_))))
    refine JL.nil ?_
    refine JE.then_normal ?_
    refine J.seq ?_
    refine J.seq ?_
    refine J.region ?_
    refine JL.step (y_move rfl) rfl rfl rfl (JL.step (y_eql rfl rfl) rfl rfl rfl ?_)
    refine JL.nil ?_
    refine JE.then_normal ?_
    refine J.cond_t rfl (by (first | rfl | assumption | (simp; done) | (simp; omega))) ?_
    refine J.seq ?_
    refine J.region ?_
    refine JL.step (y_move rfl) rfl rfl rfl ?_
    refine JL.loud rfl (l_callF e83 rfl rfl (cf _) ?_)
    rintro _ _ ⟨rfl, rfl⟩
    refine JL.step (y_extract rfl rfl) rfl rfl rfl (JL.step (y_extract rfl rfl) rfl rfl rfl (JL.step (y_assign rfl) rfl rfl rfl (JL.step (y_assign rfl) rfl rfl rfl ?_)))
    refine JL.nil ?_
    refine JE.then_normal ?_
    refine J.ret ?_
    refine JE.then_ret ?_
    refine JE.ret2 (.inl rfl) rfl rfl (by (first | exact RV.tmp rfl | exact RV.cell1 hT rfl rfl rfl (by (exact Rd1.row (by (repeat (first | exact Pick.head | apply Pick.tail | apply Pick.app))) (by rfl))) | exact RV.cellN hT rfl rfl rfl (by (first | exact RdN.rowAll (by (repeat (first | exact Pick.head | apply Pick.tail | apply Pick.app))) | exact RdN.own (by (repeat (first | exact Pick.head | apply Pick.tail | apply Pick.app))))) (by (first | rfl | assumption | (simp; done) | omega)))) (by (first | exact RV.tmp rfl | exact RV.cell1 hT rfl rfl rfl (by (exact Rd1.row (by (repeat (first | exact Pick.head | apply Pick.tail | apply Pick.app))) (by rfl))) | exact RV.cellN hT rfl rfl rfl (by (first | exact RdN.rowAll (by (repeat (first | exact Pick.head | apply Pick.tail | apply Pick.app))) | exact RdN.own (by (repeat (first | exact Pick.head | apply Pick.tail | apply Pick.app))))) (by (first | rfl | assumption | (simp; done) | omega)))) ?_
    exact .inr ⟨h0, rfl, rfl⟩
end Go.Proofs.YtimekohdlofmaaaGreat
namespace Go.Proofs.YtimekohdlofmaaaGreat
open Go Go.SL
/-! What an entry does. -/
abbrev entR (x lg : Nat) (br : Bool) (last : BitVec 64) (ph hops : Int) (got : Value) : HProp := row x 136 (ecells lg br last ph hops got)
attribute [local irreducible] J JL JE JM LS Y Fc RV Code.wp wpList Code.wpIn wpListIn
attribute [local irreducible] Yc
variable (E : World)
section
variable (x lg : Nat) (br : Bool) (last : BitVec 64) (ph hops : Int) (got : Value) (l : List HProp)
theorem eround_spec : Fc prog E 17 [.pointer (some ⟨x, 0, none⟩)].toArray (entR x lg br last ph hops got :: l) (fun v l' => v = Q last ∧ l' = entR x lg br last ph hops got :: l) := by
  refine Fc.of_body (c := ?codeC) Tryz.func17 ?hb Tryz.ntmps17 ?hl ?_
  case hb => exact rfl
  case hl => exact rfl
  refine J.seq ?_
  refine J.region ?_
  refine JL.step (y_assign rfl) rfl rfl rfl ?_
  refine JL.nil ?_
  refine JE.then_normal ?_
  refine J.seq ?_
  refine J.seq ?_
  refine J.region ?_
  refine JL.step (y_move rfl) rfl rfl rfl (JL.step (y_ptr_eq_nil hT rfl rfl rfl rfl) rfl rfl rfl ?_)
  refine JL.nil ?_
  refine JE.then_normal ?_
  refine J.cond_f rfl (by (first | rfl | assumption | (simp; done) | (simp; omega))) ?_
  refine J.skip ?_
  refine JE.then_normal ?_
  refine J.seq ?_
  refine J.region ?_
  refine JL.step (y_move rfl) rfl rfl rfl ?_
  refine JL.step ((by first | exact y_nilCheck rfl | exact y_nilCheckF rfl | exact y_nilCheckY rfl)) rfl rfl rfl ?_
  refine JL.step (y_fieldAddr hT rfl rfl rfl rfl rfl rfl) rfl rfl rfl ?_
  refine JL.step (y_load1 hT rfl rfl rfl (by (exact Rd1.row (by (repeat (first | exact Pick.head | apply Pick.tail | apply Pick.app))) (by rfl)))) rfl rfl rfl ?_
  refine JL.step (y_assign rfl) rfl rfl rfl ?_
  refine JL.nil ?_
  refine JE.then_normal ?_
  refine J.ret ?_
  refine JE.ret1 (.inl rfl) rfl rfl (by (first | exact RV.tmp rfl | exact RV.cell1 hT rfl rfl rfl (by (exact Rd1.row (by (repeat (first | exact Pick.head | apply Pick.tail | apply Pick.app))) (by rfl))) | exact RV.cellN hT rfl rfl rfl (by (first | exact RdN.rowAll (by (repeat (first | exact Pick.head | apply Pick.tail | apply Pick.app))) | exact RdN.own (by (repeat (first | exact Pick.head | apply Pick.tail | apply Pick.app))))) (by (first | rfl | assumption | (simp; done) | omega)))) ?_
  exact ⟨rfl, rfl⟩
theorem ephase_spec : Fc prog E 18 [.pointer (some ⟨x, 0, none⟩)].toArray (entR x lg br last ph hops got :: l) (fun v l' => v = .int .i64 ph ∧ l' = entR x lg br last ph hops got :: l) := by
  refine Fc.of_body (c := ?codeC) Tryz.func18 ?hb Tryz.ntmps18 ?hl ?_
  case hb => exact rfl
  case hl => exact rfl
  refine J.seq ?_
  refine J.region ?_
  refine JL.step (y_assign rfl) rfl rfl rfl ?_
  refine JL.nil ?_
  refine JE.then_normal ?_
  refine J.seq ?_
  refine J.seq ?_
  refine J.region ?_
  refine JL.step (y_move rfl) rfl rfl rfl (JL.step (y_ptr_eq_nil hT rfl rfl rfl rfl) rfl rfl rfl ?_)
  refine JL.nil ?_
  refine JE.then_normal ?_
  refine J.cond_f rfl (by (first | rfl | assumption | (simp; done) | (simp; omega))) ?_
  refine J.skip ?_
  refine JE.then_normal ?_
  refine J.seq ?_
  refine J.region ?_
  refine JL.step (y_move rfl) rfl rfl rfl ?_
  refine JL.step ((by first | exact y_nilCheck rfl | exact y_nilCheckF rfl | exact y_nilCheckY rfl)) rfl rfl rfl ?_
  refine JL.step (y_fieldAddr hT rfl rfl rfl rfl rfl rfl) rfl rfl rfl ?_
  refine JL.step (y_load1 hT rfl rfl rfl (by (exact Rd1.row (by (repeat (first | exact Pick.head | apply Pick.tail | apply Pick.app))) (by rfl)))) rfl rfl rfl ?_
  refine JL.step (y_assign rfl) rfl rfl rfl ?_
  refine JL.nil ?_
  refine JE.then_normal ?_
  refine J.ret ?_
  refine JE.ret1 (.inl rfl) rfl rfl (by (first | exact RV.tmp rfl | exact RV.cell1 hT rfl rfl rfl (by (exact Rd1.row (by (repeat (first | exact Pick.head | apply Pick.tail | apply Pick.app))) (by rfl))) | exact RV.cellN hT rfl rfl rfl (by (first | exact RdN.rowAll (by (repeat (first | exact Pick.head | apply Pick.tail | apply Pick.app))) | exact RdN.own (by (repeat (first | exact Pick.head | apply Pick.tail | apply Pick.app))))) (by (first | rfl | assumption | (simp; done) | omega)))) ?_
  exact ⟨rfl, rfl⟩
/-- A number is kept: appended, or, where there is no room, behind a checkpoint. -/
theorem keep_one (st d : Nat) (S : Sb) (D X : Dk) (L La : Lg) (n : BitVec 64) (e : Int) (he : e ≠ 6)
    (capp : ∀ (p : Option Addr) (c : Nat) l, InL l p 8 c (ints .u8 (leB 8 n)) → Fc prog E 94 [.pointer (some ⟨lg, 0, none⟩), .slice p 8 c].toArray (logm lg st L :: row st 224 (scells S d) :: disk d D :: l) (fun v l' => v = .int .i64 e ∧ l' = logm lg st La :: row st 224 (scells S d) :: disk d X :: l)) :
    Fc prog E 66 [.pointer (some ⟨x, 0, none⟩), Q n].toArray (entR x lg br last ph hops got :: logm lg st L :: row st 224 (scells S d) :: disk d D :: l)
      (fun v l' => v = .int .i64 e ∧ l' = entR x lg (decide (¬ e = 0)) last ph hops got :: logm lg st La :: row st 224 (scells S d) :: disk d X :: l) := by
  refine Fc.eqs ?_
  have hb : decide (e = 6) = false := decide_eq_false he
  refine Fc.of_body (c := ?codeC) Tryz.func66 ?hb Tryz.ntmps66 ?hl ?_
  case hb => exact rfl
  case hl => exact rfl
  refine J.seq ?_
  refine J.region ?_
  refine JL.step (y_assign rfl) rfl rfl rfl ?_
  refine JL.nil ?_
  refine JE.then_normal ?_
  refine J.seq ?_
  refine J.region ?_
  refine JL.step (y_move rfl) rfl rfl rfl ?_
  refine JL.loud rfl (l_callF e111 rfl rfl (octPut64_spec E none 0 [] n _ ⟨Nat.le_refl _, Nat.zero_le _, .inr ⟨rfl, rfl⟩⟩ (by decide)) ?_)
  rintro _ _ ⟨ba, bc, rfl, rfl⟩
  refine JL.step (y_assign rfl) rfl rfl rfl ?_
  refine JL.nil ?_
  refine JE.then_normal ?_
  refine J.seq ?_
  refine J.region ?_
  refine JL.step (y_move rfl) rfl rfl rfl ?_
  refine JL.step ((by first | exact y_nilCheck rfl | exact y_nilCheckF rfl | exact y_nilCheckY rfl)) rfl rfl rfl ?_
  refine JL.step (y_fieldAddr hT rfl rfl rfl rfl rfl rfl) rfl rfl rfl ?_
  refine JL.step (y_load1 hT rfl rfl rfl (by (exact Rd1.row (by (repeat (first | exact Pick.head | apply Pick.tail | apply Pick.app))) (by rfl)))) rfl rfl rfl ?_
  refine JL.step (y_move rfl) rfl rfl rfl ?_
  refine JL.loud rfl (l_callF e94 rfl rfl (Fc.fact (p := OwnAt ba 8 bc (ints .u8 (leB 8 n))) (fun w s => Sat.own_at (s.pick Pick.head)) fun ob => Fc.on (Split.cons (by (repeat (first | exact Pick.head | apply Pick.tail | apply Pick.app))) (Split.cons (by (repeat (first | exact Pick.head | apply Pick.tail | apply Pick.app))) (Split.cons (by (repeat (first | exact Pick.head | apply Pick.tail | apply Pick.app))) Split.nil))) (capp ba bc _ (ob.inl (by (repeat (first | exact Pick.head | apply Pick.tail | apply Pick.app)))))) ?_)
  rintro _ _ ⟨rfl, rfl⟩
  refine JL.step (y_assign rfl) rfl rfl rfl ?_
  refine JL.nil ?_
  refine JE.then_normal ?_
  refine J.seq ?_
  refine J.seq ?_
  refine J.region ?_
  refine JL.step (y_move rfl) rfl rfl rfl (JL.step (y_eql rfl rfl) rfl rfl rfl ?_)
  refine JL.nil ?_
  refine JE.then_normal ?_
  refine J.cond_f rfl (by (first | rfl | assumption | (simp; done) | (simp; omega))) ?_
  refine J.skip ?_
  refine JE.then_normal ?_
  refine J.seq ?_
  refine J.region ?_
  refine JL.step (y_move rfl) rfl rfl rfl (JL.step (y_move rfl) rfl rfl rfl (JL.step (y_neq rfl rfl) rfl rfl rfl ?_))
  refine JL.step ((by first | exact y_nilCheck rfl | exact y_nilCheckF rfl | exact y_nilCheckY rfl)) rfl rfl rfl ?_
  refine JL.step (y_fieldAddr hT rfl rfl rfl rfl rfl rfl) rfl rfl rfl ?_
  refine JL.loud rfl (l_store1 hT rfl rfl rfl rfl rfl (by (repeat (first | exact Pick.head | apply Pick.tail | apply Pick.app))) (by (first | omega | exact Nat.le_of_ble_eq_true rfl | decide | (simp; omega))) ?_)
  refine JL.nil ?_
  refine JE.then_normal ?_
  refine J.seq ?_
  refine J.region ?_
  refine JL.step (y_move rfl) rfl rfl rfl (JL.step (y_assign rfl) rfl rfl rfl ?_)
  refine JL.nil ?_
  refine JE.then_normal ?_
  refine J.ret ?_
  refine JE.ret1 (.inl rfl) rfl rfl (by (first | exact RV.tmp rfl | exact RV.cell1 hT rfl rfl rfl (by (exact Rd1.row (by (repeat (first | exact Pick.head | apply Pick.tail | apply Pick.app))) (by rfl))) | exact RV.cellN hT rfl rfl rfl (by (first | exact RdN.rowAll (by (repeat (first | exact Pick.head | apply Pick.tail | apply Pick.app))) | exact RdN.own (by (repeat (first | exact Pick.head | apply Pick.tail | apply Pick.app))))) (by (first | rfl | assumption | (simp; done) | omega)))) ?_
  exact ⟨rfl, fun w q => q.sup (by (repeat (first | exact Sup.refl | apply Sup.cons (by (repeat (first | exact Pick.head | apply Pick.tail | apply Pick.app))) | apply Sup.app | apply Sup.skip | apply Sup.skips)))⟩
theorem keep_two (st d : Nat) (S Sa : Sb) (D D1 X : Dk) (L L1 La : Lg) (n : BitVec 64) (e : Int)
    (capp : ∀ (p : Option Addr) (c : Nat) l, InL l p 8 c (ints .u8 (leB 8 n)) → Fc prog E 94 [.pointer (some ⟨lg, 0, none⟩), .slice p 8 c].toArray (logm lg st L :: row st 224 (scells S d) :: disk d D :: l) (fun v l' => v = .int .i64 6 ∧ l' = logm lg st L1 :: row st 224 (scells S d) :: disk d D1 :: l))
    (cck : ∀ (p : Option Addr) (c : Nat) l, InL l p 8 c (ints .u8 (leB 8 n)) → Fc prog E 96 [.pointer (some ⟨lg, 0, none⟩), .slice p 8 c].toArray (logm lg st L1 :: row st 224 (scells S d) :: disk d D1 :: l) (fun v l' => v = .int .i64 e ∧ l' = logm lg st La :: row st 224 (scells Sa d) :: disk d X :: l)) :
    Fc prog E 66 [.pointer (some ⟨x, 0, none⟩), Q n].toArray (entR x lg br last ph hops got :: logm lg st L :: row st 224 (scells S d) :: disk d D :: l)
      (fun v l' => v = .int .i64 e ∧ l' = entR x lg (decide (¬ e = 0)) last ph hops got :: logm lg st La :: row st 224 (scells Sa d) :: disk d X :: l) := by
  refine Fc.eqs ?_
  refine Fc.of_body (c := ?codeC) Tryz.func66 ?hb Tryz.ntmps66 ?hl ?_
  case hb => exact rfl
  case hl => exact rfl
  refine J.seq ?_
  refine J.region ?_
  refine JL.step (y_assign rfl) rfl rfl rfl ?_
  refine JL.nil ?_
  refine JE.then_normal ?_
  refine J.seq ?_
  refine J.region ?_
  refine JL.step (y_move rfl) rfl rfl rfl ?_
  refine JL.loud rfl (l_callF e111 rfl rfl (octPut64_spec E none 0 [] n _ ⟨Nat.le_refl _, Nat.zero_le _, .inr ⟨rfl, rfl⟩⟩ (by decide)) ?_)
  rintro _ _ ⟨ba, bc, rfl, rfl⟩
  refine JL.step (y_assign rfl) rfl rfl rfl ?_
  refine JL.nil ?_
  refine JE.then_normal ?_
  refine J.seq ?_
  refine J.region ?_
  refine JL.step (y_move rfl) rfl rfl rfl ?_
  refine JL.step ((by first | exact y_nilCheck rfl | exact y_nilCheckF rfl | exact y_nilCheckY rfl)) rfl rfl rfl ?_
  refine JL.step (y_fieldAddr hT rfl rfl rfl rfl rfl rfl) rfl rfl rfl ?_
  refine JL.step (y_load1 hT rfl rfl rfl (by (exact Rd1.row (by (repeat (first | exact Pick.head | apply Pick.tail | apply Pick.app))) (by rfl)))) rfl rfl rfl ?_
  refine JL.step (y_move rfl) rfl rfl rfl ?_
  refine JL.loud rfl (l_callF e94 rfl rfl (Fc.on (Split.cons (by (repeat (first | exact Pick.head | apply Pick.tail | apply Pick.app))) (Split.cons (by (repeat (first | exact Pick.head | apply Pick.tail | apply Pick.app))) (Split.cons (by (repeat (first | exact Pick.head | apply Pick.tail | apply Pick.app))) Split.nil))) (Fc.fact (p := OwnAt ba 8 bc (ints .u8 (leB 8 n))) (fun w s => Sat.own_at (s.pick (by (repeat (first | exact Pick.head | apply Pick.tail | apply Pick.app))))) fun ob => capp ba bc _ (ob.inl (by (repeat (first | exact Pick.head | apply Pick.tail | apply Pick.app)))))) ?_)
  rintro _ _ ⟨rfl, rfl⟩
  refine JL.step (y_assign rfl) rfl rfl rfl ?_
  refine JL.nil ?_
  refine JE.then_normal ?_
  refine J.seq ?_
  refine J.seq ?_
  refine J.region ?_
  refine JL.step (y_move rfl) rfl rfl rfl (JL.step (y_eql rfl rfl) rfl rfl rfl ?_)
  refine JL.nil ?_
  refine JE.then_normal ?_
  refine J.cond_t rfl (by (first | rfl | assumption | (simp; done) | (simp; omega))) ?_
  refine J.region ?_
  refine JL.step (y_move rfl) rfl rfl rfl ?_
  refine JL.step ((by first | exact y_nilCheck rfl | exact y_nilCheckF rfl | exact y_nilCheckY rfl)) rfl rfl rfl ?_
  refine JL.step (y_fieldAddr hT rfl rfl rfl rfl rfl rfl) rfl rfl rfl ?_
  refine JL.step (y_load1 hT rfl rfl rfl (by (exact Rd1.row (by (repeat (first | exact Pick.head | apply Pick.tail | apply Pick.app))) (by rfl)))) rfl rfl rfl ?_
  refine JL.step (y_move rfl) rfl rfl rfl ?_
  refine JL.loud rfl (l_callF e96 rfl rfl (Fc.on (Split.cons (by (repeat (first | exact Pick.head | apply Pick.tail | apply Pick.app))) (Split.cons (by (repeat (first | exact Pick.head | apply Pick.tail | apply Pick.app))) (Split.cons (by (repeat (first | exact Pick.head | apply Pick.tail | apply Pick.app))) Split.nil))) (Fc.fact (p := OwnAt ba 8 bc (ints .u8 (leB 8 n))) (fun w s => Sat.own_at (s.pick (by (repeat (first | exact Pick.head | apply Pick.tail | apply Pick.app))))) fun ob => cck ba bc _ (ob.inl (by (repeat (first | exact Pick.head | apply Pick.tail | apply Pick.app)))))) ?_)
  rintro _ _ ⟨rfl, rfl⟩
  refine JL.step (y_assign rfl) rfl rfl rfl ?_
  refine JL.nil ?_
  refine JE.then_normal ?_
  refine J.seq ?_
  refine J.region ?_
  refine JL.step (y_move rfl) rfl rfl rfl (JL.step (y_move rfl) rfl rfl rfl (JL.step (y_neq rfl rfl) rfl rfl rfl ?_))
  refine JL.step ((by first | exact y_nilCheck rfl | exact y_nilCheckF rfl | exact y_nilCheckY rfl)) rfl rfl rfl ?_
  refine JL.step (y_fieldAddr hT rfl rfl rfl rfl rfl rfl) rfl rfl rfl ?_
  refine JL.loud rfl (l_store1 hT rfl rfl rfl rfl rfl (by (repeat (first | exact Pick.head | apply Pick.tail | apply Pick.app))) (by (first | omega | exact Nat.le_of_ble_eq_true rfl | decide | (simp; omega))) ?_)
  refine JL.nil ?_
  refine JE.then_normal ?_
  refine J.seq ?_
  refine J.region ?_
  refine JL.step (y_move rfl) rfl rfl rfl (JL.step (y_assign rfl) rfl rfl rfl ?_)
  refine JL.nil ?_
  refine JE.then_normal ?_
  refine J.ret ?_
  refine JE.ret1 (.inl rfl) rfl rfl (by (first | exact RV.tmp rfl | exact RV.cell1 hT rfl rfl rfl (by (exact Rd1.row (by (repeat (first | exact Pick.head | apply Pick.tail | apply Pick.app))) (by rfl))) | exact RV.cellN hT rfl rfl rfl (by (first | exact RdN.rowAll (by (repeat (first | exact Pick.head | apply Pick.tail | apply Pick.app))) | exact RdN.own (by (repeat (first | exact Pick.head | apply Pick.tail | apply Pick.app))))) (by (first | rfl | assumption | (simp; done) | omega)))) ?_
  exact ⟨rfl, fun w q => q.sup (by (repeat (first | exact Sup.refl | apply Sup.cons (by (repeat (first | exact Pick.head | apply Pick.tail | apply Pick.app))) | apply Sup.app | apply Sup.skip | apply Sup.skips)))⟩
end
end Go.Proofs.YtimekohdlofmaaaGreat
namespace Go.Proofs.YtimekohdlofmaaaGreat
open Go Go.SL
/-! Keys, and a round's begin. -/
def keyB (i : Nat) : List Int := ((i + 1 : Nat) : Int) :: List.replicate 31 0
theorem keyB_length (i : Nat) : (ints .u8 (keyB i)).length = 32 := by simp [keyB, ints]
def keysL (m : Nat) : List (List Int) := (List.range m).map keyB
theorem keysL_next (m : Nat) : (keysL (m + 1)).flatMap (ints .u8) = (keysL m).flatMap (ints .u8) ++ ints .u8 (keyB m) := by simp [keysL, List.range_succ]
theorem fill_arr0 {zs : List Value} {v : Value} {m : Nat} (hz : zs.length = m + 1) (hv : v.cells = #[v]) : Instr.fill (fun q => some (q * 1, 1)) zs.toArray [(0, v)] = some (v :: zs.drop 1).toArray := by
  have h := fill_eq (fun q => some (q * 1, 1)) [(0, 1)] [(0, v)] zs (fun q hq => by simp at hq; subst hq; rfl) (by simp [fillOk, hv, hz])
  rw [h]
  simp [fillE, hv]
attribute [local irreducible] J JL JE JM LS Y Fc RV Code.wp wpList Code.wpIn wpListIn
attribute [local irreducible] Yc
variable (E : World)
theorem keys22_spec (n : Int) (l : List HProp) (m : Nat) (hm : (m : Int) = min (max n 0) 5) :
    Fc prog E 14 [.int .i64 n].toArray l (fun v l' => ∃ a c, v = .slice a m c ∧ l' = own 73 32 (.slice a m c) m ((keysL m).flatMap (ints .u8)) :: l) := by
  refine Fc.post ?_
  have hm5 : m ≤ 5 := by omega
  refine Fc.of_body (c := ?codeC) Tryz.func14 ?hb Tryz.ntmps14 ?hl ?_
  case hb => exact rfl
  case hl => exact rfl
  refine J.seq ?_
  refine J.region ?_
  refine JL.step (y_assign rfl) rfl rfl rfl ?_
  refine JL.nil ?_
  refine JE.then_normal ?_
  refine J.seq ?_
  refine J.region ?_
  refine JL.step (y_assign rfl) rfl rfl rfl ?_
  refine JL.nil ?_
  refine JE.then_normal ?_
  refine J.seq ?_
  refine J.seq ?_
  refine J.region ?_
  refine JL.step (y_move rfl) rfl rfl rfl ?_
  refine JL.step (y_max2 rfl rfl rfl) rfl rfl rfl ?_
  refine JL.step (y_min2 (m := (m : Int)) rfl rfl hm.symm) rfl rfl rfl ?_
  refine JL.step (y_move rfl) rfl rfl rfl ?_
  refine JL.nil ?_
  refine JE.then_normal ?_
  refine J.block ?_
  refine J.loop (α := Nat × Option Addr × Nat) (fun s => s.1 ≤ m) (fun s => [(3, .slice s.2.1 s.1 s.2.2), (7, .int .i64 m), (8, .int .i64 s.1)]) (fun s => own 73 32 (.slice s.2.1 s.1 s.2.2) s.1 ((keysL s.1).flatMap (ints .u8)) :: l) (fun s => m - s.1) (0, none, 0) (Nat.zero_le _) ⟨rfl, rfl, rfl, trivial⟩ (fun w h => h.own_nil) ?_
  rintro ⟨i, a, c⟩ hi
  dsimp only at hi ⊢
  refine J.seq ?_
  refine J.region ?_
  refine JL.step (y_lss rfl rfl) rfl rfl rfl ?_
  refine JL.nil ?_
  refine JE.then_normal ?_
  refine J.seq ?_
  first | apply J.cond_dec rfl | apply J.cond rfl
  case' ht =>
    intro h
    try (first | (exfalso; omega) | (cases h; done) | (exfalso; simp at h; done) | subst h)
    all_goals
      refine J.skip ?_
  case' hf =>
    intro h
    try (first | (exfalso; omega) | (cases h; done) | (exfalso; simp at h; done) | subst h)
    all_goals
      refine J.exit ?_
      refine JE.then_exit ?_
      refine JE.then_exit ?_
      refine JE.block_exit ?_
      refine JE.then_normal ?_
      refine J.seq ?_
      refine J.region ?_
      refine JL.step (y_move rfl) rfl rfl rfl (JL.step (y_assign rfl) rfl rfl rfl ?_)
      refine JL.nil ?_
      refine JE.then_normal ?_
      refine J.ret ?_
      refine JE.ret1 (.inl rfl) rfl rfl (by (first | exact RV.tmp rfl | exact RV.cell1 hT rfl rfl rfl (by (exact Rd1.row (by (repeat (first | exact Pick.head | apply Pick.tail | apply Pick.app))) (by rfl))) | exact RV.cellN hT rfl rfl rfl (by (first | exact RdN.rowAll (by (repeat (first | exact Pick.head | apply Pick.tail | apply Pick.app))) | exact RdN.own (by (repeat (first | exact Pick.head | apply Pick.tail | apply Pick.app))))) (by (first | rfl | assumption | (simp; done) | omega)))) ?_
      obtain rfl : i = m := by omega
      exact ⟨_, fun w q => q, a, c, rfl, rfl⟩
  all_goals refine JE.then_normal ?_
  all_goals
    refine J.seq ?_
    refine J.block ?_
    refine J.seq ?_
    refine J.region ?_
    refine JL.step (y_move rfl) rfl rfl rfl (JL.step (y_assign rfl) rfl rfl rfl ?_)
    refine JL.nil ?_
    refine JE.then_normal ?_
    have hlt : i < m := by omega
    have hk32 := keyB_length i
    refine J.region ?_
    refine JL.step (y_move rfl) rfl rfl rfl (JL.step (y_move rfl) rfl rfl rfl ?_)
    refine JL.step (y_add rfl rfl (by (first | exact wrap_i64 (by omega) (by omega) | rfl))) rfl rfl rfl ?_
    refine JL.step (y_conv (m := ((i + 1 : Nat) : Int)) hT rfl rfl rfl rfl (by rw [wrap_u8]; omega)) rfl rfl rfl ?_
    refine JL.step (y_buildArr (cs := ints .u8 (keyB i)) hT rfl rfl rfl rfl rfl (fill_arr0 (m := 31) rfl rfl)) rfl rfl rfl ?_
    refine JL.loud rfl (l_buildSliceP (cs := ints .u8 (keyB i)) hT rfl rfl rfl rfl rfl rfl rfl (fill_one rfl hk32) rfl (fun bk => ?_))
    refine JL.loud rfl (l_append hT rfl rfl rfl rfl rfl rfl rfl rfl (by (repeat (first | exact Pick.head | apply Pick.tail | apply Pick.app))) (by (first | exact RdN.rowAll (by (repeat (first | exact Pick.head | apply Pick.tail | apply Pick.app))) | exact RdN.own (by (repeat (first | exact Pick.head | apply Pick.tail | apply Pick.app))))) (by rw [show i73.size = 32 from rfl]; exact hk32) (ints_one _ _) (by rw [show i73.bytes = 32 from rfl]; omega) (by omega) rfl (fun na nc hnc => ?_))
    refine JL.step (y_assign rfl) rfl rfl rfl ?_
    refine JL.nil ?_
    refine JE.block_normal ?_
    refine JE.then_normal ?_
    refine J.region ?_
    refine JL.step (y_add rfl rfl (by (first | exact wrap_i64 (by omega) (by omega) | rfl))) rfl rfl rfl ?_
    refine JL.step (y_move rfl) rfl rfl rfl ?_
    refine JL.nil ?_
  all_goals
    refine JE.round (s := (i, a, c)) (i + 1, na, nc) (by dsimp only; omega) ⟨rfl, rfl, rfl, trivial⟩ (fun w q => ?_) (by dsimp only; omega)
    dsimp only
    rw [keysL_next]
    exact q.sup (by (repeat (first | exact Sup.refl | apply Sup.cons (by (repeat (first | exact Pick.head | apply Pick.tail | apply Pick.app))) | apply Sup.app | apply Sup.skip | apply Sup.skips)))
theorem clonek_spec (p : Option Addr) (cap n : Nat) (ks : List (List Int)) (l : List HProp) (hn : ks.length = n) (hb : n ≤ 1000000) (hk : ∀ k ∈ ks, (ints .u8 k).length = 32) (hin : InL l p n cap (ks.flatMap (ints .u8))) :
    Fc prog E 67 [.slice p n cap].toArray l (fun v l' => ∃ a c, v = .slice a n c ∧ l' = own 73 32 (.slice a n c) n (ks.flatMap (ints .u8)) :: l) := by
  refine Fc.post ?_
  have hl : (ks.flatMap (ints .u8)).length = n * 32 := by rw [seg_len hk, hn]
  have hones : ∀ u ∈ ks.flatMap (ints .u8), u.oneCell' = true := fun u hu => by
    obtain ⟨k, _, hu⟩ := List.mem_flatMap.1 hu
    exact ints_one _ _ u hu
  cases hp : p with
  | none =>
    subst hp
    obtain ⟨hc, hx⟩ := hin.rd.resolve_left (fun ⟨b, o, e, _⟩ => by cases e)
    have h0 : n = 0 := by have := hin.le; omega
    refine Fc.of_body (c := ?codeC) Tryz.func67 ?hb Tryz.ntmps67 ?hl ?_
    case hb => exact rfl
    case hl => exact rfl
    refine J.seq ?_
    refine J.region ?_
    refine JL.step (y_assign rfl) rfl rfl rfl ?_
    refine JL.nil ?_
    refine JE.then_normal ?_
    refine J.seq ?_
    refine J.seq ?_
    refine J.region ?_
    refine JL.step (y_move rfl) rfl rfl rfl (JL.step (y_sl_eq_nil hT rfl rfl rfl rfl) rfl rfl rfl ?_)
    refine JL.nil ?_
    refine JE.then_normal ?_
    refine J.cond_t rfl (by (first | rfl | assumption | (simp; done) | (simp; omega))) ?_
    refine J.seq ?_
    refine J.region ?_
    refine JL.step (y_assign rfl) rfl rfl rfl ?_
    refine JL.nil ?_
    refine JE.then_normal ?_
    refine J.ret ?_
    refine JE.then_ret ?_
    refine JE.ret1 (.inl rfl) rfl rfl (by (first | exact RV.tmp rfl | exact RV.cell1 hT rfl rfl rfl (by (exact Rd1.row (by (repeat (first | exact Pick.head | apply Pick.tail | apply Pick.app))) (by rfl))) | exact RV.cellN hT rfl rfl rfl (by (first | exact RdN.rowAll (by (repeat (first | exact Pick.head | apply Pick.tail | apply Pick.app))) | exact RdN.own (by (repeat (first | exact Pick.head | apply Pick.tail | apply Pick.app))))) (by (first | rfl | assumption | (simp; done) | omega)))) ?_
    exact ⟨_, fun w q => by rw [hx, h0]; exact q.own_nil, none, 0, by rw [h0], rfl⟩
  | some a0 =>
    subst hp
    refine Fc.of_body (c := ?codeC) Tryz.func67 ?hb Tryz.ntmps67 ?hl ?_
    case hb => exact rfl
    case hl => exact rfl
    refine J.seq ?_
    refine J.region ?_
    refine JL.step (y_assign rfl) rfl rfl rfl ?_
    refine JL.nil ?_
    refine JE.then_normal ?_
    refine J.seq ?_
    refine J.seq ?_
    refine J.region ?_
    refine JL.step (y_move rfl) rfl rfl rfl (JL.step (y_sl_eq_nil hT rfl rfl rfl rfl) rfl rfl rfl ?_)
    refine JL.nil ?_
    refine JE.then_normal ?_
    refine J.cond_f rfl (by (first | rfl | assumption | (simp; done) | (simp; omega))) ?_
    refine J.skip ?_
    refine JE.then_normal ?_
    refine J.seq ?_
    refine J.region ?_
    refine JL.loud rfl (l_buildSlice0 hT rfl rfl rfl rfl (fun b1 => ?_))
    refine JL.step (y_move rfl) rfl rfl rfl ?_
    refine JL.loud rfl (l_appendIn hT rfl rfl rfl rfl rfl rfl rfl rfl Pick.head (hin.cons _) (by rw [show i73.size = 32 from rfl]; exact hl) hones (by rw [show i73.bytes = 32 from rfl]; omega) (by omega) rfl (fun q c hc => ?_))
    refine JL.step (y_assign rfl) rfl rfl rfl ?_
    refine JL.nil ?_
    refine JE.then_normal ?_
    refine J.ret ?_
    refine JE.ret1 (.inl rfl) rfl rfl (by (first | exact RV.tmp rfl | exact RV.cell1 hT rfl rfl rfl (by (exact Rd1.row (by (repeat (first | exact Pick.head | apply Pick.tail | apply Pick.app))) (by rfl))) | exact RV.cellN hT rfl rfl rfl (by (first | exact RdN.rowAll (by (repeat (first | exact Pick.head | apply Pick.tail | apply Pick.app))) | exact RdN.own (by (repeat (first | exact Pick.head | apply Pick.tail | apply Pick.app))))) (by (first | rfl | assumption | (simp; done) | omega)))) ?_
    exact ⟨_, fun w s => by simp only [Nat.zero_add, List.nil_append] at s ⊢; exact s, q, c, by simp, rfl⟩
section
variable (x lg st d : Nat) (last : BitVec 64) (hops : Int) (got : Value) (S Sa : Sb) (D X : Dk) (L La : Lg) (p : Option Addr) (cap n : Nat) (ks : List (List Int)) (l : List HProp) (hn : ks.length = n) (hn1 : 1 ≤ n) (hn3 : n ≤ 3) (hk : ∀ k ∈ ks, (ints .u8 k).length = 32) (hin : InL l p n cap (ks.flatMap (ints .u8)))
include hn hn1 hn3 hk hin
/-- A round is announced, if its number can be kept. -/
theorem announce_spec (e : Int) (hlast : last + 1#64 ≠ 0#64)
    (ckeep : ∀ l, Fc prog E 66 [.pointer (some ⟨x, 0, none⟩), Q (last + 1#64)].toArray (entR x lg false last 0 hops got :: logm lg st L :: row st 224 (scells S d) :: disk d D :: l)
      (fun v l' => v = .int .i64 e ∧ l' = entR x lg (decide (¬ e = 0)) last 0 hops got :: logm lg st La :: row st 224 (scells Sa d) :: disk d X :: l)) :
    Fc prog E 13 [.pointer (some ⟨x, 0, none⟩), .slice p n cap].toArray (entR x lg false last 0 hops got :: logm lg st L :: row st 224 (scells S d) :: disk d D :: l)
      (fun v l' => (e = 0 ∧ ∃ a c g, v = .tuple #[.agg #[Q (last + 1#64), .slice a n c], .int .i64 0] ∧ l' = own 73 32 (.slice a n c) n (ks.flatMap (ints .u8)) :: blk g (.map #[] 0) :: entR x lg false (last + 1#64) 1 n (.map (some g)) :: logm lg st La :: row st 224 (scells Sa d) :: disk d X :: l) ∨
        (¬ e = 0 ∧ v = .tuple #[.agg #[Q 0#64, .slice none 0 0], .int .i64 e] ∧ l' = entR x lg true last 0 hops got :: logm lg st La :: row st 224 (scells Sa d) :: disk d X :: l)) := by
  refine Fc.post ?_
  have hb1 : decide ((n : Int) < 1) = false := decide_eq_false (by omega)
  have hb3 : decide ((3 : Int) < n) = false := decide_eq_false (by omega)
  have hbl : decide (((last + 1#64).toNat : Int) = 0) = false := decide_eq_false fun h => hlast (by
    apply BitVec.eq_of_toNat_eq
    rw [show (0#64).toNat = 0 from rfl]
    omega)
  by_cases he : e = 0
  · have hd : decide (¬ e = 0) = false := decide_eq_false (by omega)
    rw [hd] at ckeep
    subst he
    refine Fc.of_body (c := ?codeC) Tryz.func13 ?hb Tryz.ntmps13 ?hl ?_
    case hb => exact rfl
    case hl => exact rfl
    refine J.seq ?_
    refine J.region ?_
    refine JL.loud rfl (l_alloc hT rfl rfl (by (first | rfl | simp)) rfl (fun b1 => ?_))
    refine JL.step (y_assign rfl) rfl rfl rfl ?_
    refine JL.nil ?_
    refine JE.then_normal ?_
    refine J.seq ?_
    refine J.block ?_
    refine J.seq ?_
    refine J.region ?_
    refine JL.step (y_move rfl) rfl rfl rfl (JL.step (y_ptr_eq_nil hT rfl rfl rfl rfl) rfl rfl rfl (JL.step (y_assign rfl) rfl rfl rfl ?_))
    refine JL.nil ?_
    refine JE.then_normal ?_
    refine J.cond_f rfl (by (first | rfl | assumption | (simp; done) | (simp; omega))) ?_
    refine J.seq ?_
    refine J.region ?_
    refine JL.step (y_move rfl) rfl rfl rfl ?_
    refine JL.step ((by first | exact y_nilCheck rfl | exact y_nilCheckF rfl | exact y_nilCheckY rfl)) rfl rfl rfl ?_
    refine JL.step (y_fieldAddr hT rfl rfl rfl rfl rfl rfl) rfl rfl rfl ?_
    refine JL.step (y_load1 hT rfl rfl rfl (by (exact Rd1.row (by (repeat (first | exact Pick.head | apply Pick.tail | apply Pick.app))) (by rfl)))) rfl rfl rfl ?_
    refine JL.step (y_assign rfl) rfl rfl rfl ?_
    refine JL.nil ?_
    refine JE.then_normal ?_
    refine J.cond_f rfl (by (first | rfl | assumption | (simp; done) | (simp; omega))) ?_
    refine J.seq ?_
    refine J.region ?_
    refine JL.step (y_move rfl) rfl rfl rfl ?_
    refine JL.step ((by first | exact y_nilCheck rfl | exact y_nilCheckF rfl | exact y_nilCheckY rfl)) rfl rfl rfl ?_
    refine JL.step (y_fieldAddr hT rfl rfl rfl rfl rfl rfl) rfl rfl rfl ?_
    refine JL.step (y_load1 hT rfl rfl rfl (by (exact Rd1.row (by (repeat (first | exact Pick.head | apply Pick.tail | apply Pick.app))) (by rfl)))) rfl rfl rfl ?_
    refine JL.step (y_neq rfl rfl) rfl rfl rfl (JL.step (y_assign rfl) rfl rfl rfl ?_)
    refine JL.nil ?_
    refine JE.then_normal ?_
    refine J.cond_f rfl (by (first | rfl | assumption | (simp; done) | (simp; omega))) ?_
    refine J.seq ?_
    refine J.region ?_
    refine JL.step (y_move rfl) rfl rfl rfl (JL.step (y_len_slice hT rfl rfl rfl) rfl rfl rfl ?_)
    refine JL.step (y_lssB rfl rfl hb1) rfl rfl rfl ?_
    refine JL.step (y_move rfl) rfl rfl rfl ?_
    all_goals (first | (refine JL.gsplit_dec rfl rfl rfl (fun h => ?_) (fun h => ?_) <;> try (first | (exfalso; omega) | exact absurd rfl h)) | (refine JL.gsplit rfl rfl rfl (fun h => ?_) (fun h => ?_) <;> try (first | cases h | (exfalso; simp at h; done))) | skip)
    all_goals (first | refine JL.gskip rfl rfl rfl rfl rfl rfl ?_ | refine JL.gskipU rfl rfl rfl rfl rfl ?_ | refine JL.gstep rfl rfl rfl (y_move rfl) rfl rfl ?_)
    all_goals (first | refine JL.gskip rfl rfl rfl rfl rfl rfl ?_ | refine JL.gskipU rfl rfl rfl rfl rfl ?_ | refine JL.gstep rfl rfl rfl (y_len_slice hT rfl rfl rfl) rfl rfl ?_)
    all_goals (first | refine JL.gskip rfl rfl rfl rfl rfl rfl ?_ | refine JL.gskipU rfl rfl rfl rfl rfl ?_ | refine JL.gstep rfl rfl rfl (y_gtr rfl rfl) rfl rfl ?_)
    all_goals (refine JL.step (y_pick rfl rfl rfl) rfl rfl rfl ?_)
    all_goals (refine JL.step (y_assign rfl) rfl rfl rfl ?_)
    all_goals refine JL.nil ?_
    all_goals refine JE.then_normal ?_
    all_goals
      refine J.cond_f rfl (by (first | rfl | assumption | (simp; done) | (simp; omega))) ?_
      refine J.seq ?_
      refine J.region ?_
      refine JL.step (y_move rfl) rfl rfl rfl ?_
      refine JL.step ((by first | exact y_nilCheck rfl | exact y_nilCheckF rfl | exact y_nilCheckY rfl)) rfl rfl rfl ?_
      refine JL.step (y_fieldAddr hT rfl rfl rfl rfl rfl rfl) rfl rfl rfl ?_
      refine JL.step (y_load1 hT rfl rfl rfl (by (exact Rd1.row (by (repeat (first | exact Pick.head | apply Pick.tail | apply Pick.app))) (by rfl)))) rfl rfl rfl ?_
      refine JL.step ((by first | exact y_addQ rfl rfl | exact y_add rfl rfl (by (first | exact wrap_i64 (by omega) (by omega) | rfl)))) rfl rfl rfl ?_
      refine JL.step (y_eql rfl rfl) rfl rfl rfl (JL.step (y_assign rfl) rfl rfl rfl ?_)
      refine JL.nil ?_
      refine JE.then_normal ?_
      refine J.cond_f rfl (by (first | rfl | assumption | (simp; done) | (simp; omega))) ?_
      refine J.skip ?_
    all_goals refine JE.block_normal ?_
    all_goals refine JE.then_normal ?_
    all_goals
      refine J.seq ?_
      refine J.seq ?_
      refine J.region ?_
      refine JL.step (y_move rfl) rfl rfl rfl (JL.step (y_move rfl) rfl rfl rfl ?_)
      refine JL.step ((by first | exact y_nilCheck rfl | exact y_nilCheckF rfl | exact y_nilCheckY rfl)) rfl rfl rfl ?_
      refine JL.step (y_fieldAddr hT rfl rfl rfl rfl rfl rfl) rfl rfl rfl ?_
      refine JL.step (y_load1 hT rfl rfl rfl (by (exact Rd1.row (by (repeat (first | exact Pick.head | apply Pick.tail | apply Pick.app))) (by rfl)))) rfl rfl rfl ?_
      refine JL.step ((by first | exact y_addQ rfl rfl | exact y_add rfl rfl (by (first | exact wrap_i64 (by omega) (by omega) | rfl)))) rfl rfl rfl ?_
      refine JL.loud rfl (l_callF e66 rfl rfl (Fc.on (Split.cons (by (repeat (first | exact Pick.head | apply Pick.tail | apply Pick.app))) (Split.cons (by (repeat (first | exact Pick.head | apply Pick.tail | apply Pick.app))) (Split.cons (by (repeat (first | exact Pick.head | apply Pick.tail | apply Pick.app))) (Split.cons (by (repeat (first | exact Pick.head | apply Pick.tail | apply Pick.app))) Split.nil)))) (ckeep _)) ?_)
      rintro _ _ ⟨rfl, rfl⟩
      refine JL.step (y_assign rfl) rfl rfl rfl ?_
      refine JL.nil ?_
      refine JE.then_normal ?_
      refine J.seq ?_
      refine J.region ?_
      refine JL.step (y_move rfl) rfl rfl rfl (JL.step (y_neq rfl rfl) rfl rfl rfl ?_)
      refine JL.nil ?_
      refine JE.then_normal ?_
      refine J.cond_f rfl (by (first | rfl | assumption | (simp; done) | (simp; omega))) ?_
      refine J.skip ?_
      refine JE.then_normal ?_
      refine J.seq ?_
      refine J.region ?_
      refine JL.step (y_move rfl) rfl rfl rfl ?_
      refine JL.step ((by first | exact y_nilCheck rfl | exact y_nilCheckF rfl | exact y_nilCheckY rfl)) rfl rfl rfl ?_
      refine JL.step (y_fieldAddr hT rfl rfl rfl rfl rfl rfl) rfl rfl rfl ?_
      refine JL.step (y_load1 hT rfl rfl rfl (by (exact Rd1.row (by (repeat (first | exact Pick.head | apply Pick.tail | apply Pick.app))) (by rfl)))) rfl rfl rfl ?_
      refine JL.step ((by first | exact y_addQ rfl rfl | exact y_add rfl rfl (by (first | exact wrap_i64 (by omega) (by omega) | rfl)))) rfl rfl rfl ?_
      refine JL.step ((by first | exact y_nilCheck rfl | exact y_nilCheckF rfl | exact y_nilCheckY rfl)) rfl rfl rfl ?_
      refine JL.step (y_fieldAddr hT rfl rfl rfl rfl rfl rfl) rfl rfl rfl ?_
      refine JL.loud rfl (l_store1 hT rfl rfl rfl rfl rfl (by (repeat (first | exact Pick.head | apply Pick.tail | apply Pick.app))) (by (first | omega | exact Nat.le_of_ble_eq_true rfl | decide | (simp; omega))) ?_)
      refine JL.nil ?_
      refine JE.then_normal ?_
      refine J.seq ?_
      refine J.region ?_
      refine JL.step (y_move rfl) rfl rfl rfl (JL.step (y_move rfl) rfl rfl rfl (JL.step (y_move rfl) rfl rfl rfl (JL.step (y_move rfl) rfl rfl rfl (JL.step (y_len_slice hT rfl rfl rfl) rfl rfl rfl ?_))))
      refine JL.loud rfl (l_makeMap rfl (fun bg => ?_))
      refine JL.step ((by first | exact y_nilCheck rfl | exact y_nilCheckF rfl | exact y_nilCheckY rfl)) rfl rfl rfl ?_
      refine JL.step (y_fieldAddr hT rfl rfl rfl rfl rfl rfl) rfl rfl rfl ?_
      refine JL.loud rfl (l_store1 hT rfl rfl rfl rfl rfl (by (repeat (first | exact Pick.head | apply Pick.tail | apply Pick.app))) (by (first | omega | exact Nat.le_of_ble_eq_true rfl | decide | (simp; omega))) ?_)
      refine JL.step ((by first | exact y_nilCheck rfl | exact y_nilCheckF rfl | exact y_nilCheckY rfl)) rfl rfl rfl ?_
      refine JL.step (y_fieldAddr hT rfl rfl rfl rfl rfl rfl) rfl rfl rfl ?_
      refine JL.loud rfl (l_store1 hT rfl rfl rfl rfl rfl (by (repeat (first | exact Pick.head | apply Pick.tail | apply Pick.app))) (by (first | omega | exact Nat.le_of_ble_eq_true rfl | decide | (simp; omega))) ?_)
      refine JL.step ((by first | exact y_nilCheck rfl | exact y_nilCheckF rfl | exact y_nilCheckY rfl)) rfl rfl rfl ?_
      refine JL.step (y_fieldAddr hT rfl rfl rfl rfl rfl rfl) rfl rfl rfl ?_
      refine JL.loud rfl (l_store1 hT rfl rfl rfl rfl rfl (by (repeat (first | exact Pick.head | apply Pick.tail | apply Pick.app))) (by (first | omega | exact Nat.le_of_ble_eq_true rfl | decide | (simp; omega))) ?_)
      refine JL.nil ?_
      refine JE.then_normal ?_
      refine J.seq ?_
      refine J.draw _ _ [(0, .q), (1, .q), (2, .q), (3, .q), (4, .q), (5, .l), (6, .q), (7, .l), (8, .q)] mixed (by kernel_rfl) (Split.cons (Pick.tail (Pick.tail (Pick.tail (Pick.tail (Pick.tail Pick.head))))) (Split.nil)) ?_
      refine JM.quiet rfl rfl rfl rfl (fun m => y_move rfl) ?_
      refine JM.quiet rfl rfl rfl rfl (fun m => (by first | exact y_nilCheck rfl | exact y_nilCheckF rfl | exact y_nilCheckY rfl)) ?_
      refine JM.quiet rfl rfl rfl rfl (fun m => y_fieldAddr hT rfl rfl rfl rfl rfl rfl) ?_
      refine JM.quiet rfl rfl rfl rfl (fun m => y_load1 hT rfl rfl rfl (by (exact Rd1.row (Pick.app m (by (repeat (first | exact Pick.head | apply Pick.tail | apply Pick.app)))) (by rfl)))) ?_
      refine JM.quiet rfl rfl rfl rfl (fun m => y_move rfl) ?_
      refine JM.loud rfl rfl (fun fr => l_callF e67 rfl rfl (clonek_spec E p cap n ks _ hn (by omega) hk (by (repeat (first | assumption | apply InL.cons | apply InL.app)))) ?_)
      rintro _ _ ⟨ka, kc, rfl, rfl⟩
      refine ⟨[_, _], (by (repeat (first | exact Split.nil | exact Split.all | refine Split.cons Pick.head ?_))), ?_⟩
      refine JM.quiet rfl rfl rfl rfl (fun m => y_build (cs := [_, _]) hT rfl rfl rfl rfl rfl rfl ⟨⟨(by (first | rfl | assumption | (simp; done) | omega)), Nat.le_of_ble_eq_true rfl⟩, ⟨⟨(by (first | rfl | assumption | (simp; done) | omega)), Nat.le_of_ble_eq_true rfl⟩, trivial⟩⟩ rfl) ?_
      refine JM.loud rfl rfl (fun fr => l_storeAll hT rfl rfl rfl (by (first | rfl | assumption | (simp; done) | omega)) (by (first | assumption | exact ones_of rfl | exact encW_one _ | exact encB_one _ | (intro u hu; simp at hu; rcases hu with rfl | rfl <;> rfl) | (intro u hu; simp at hu; subst hu; rfl) | simp)) (by (repeat (first | exact Pick.head | apply Pick.tail | apply Pick.app))) (by (first | rfl | assumption | (simp; done) | omega)) (⟨[_, _], (by (repeat (first | exact Split.nil | exact Split.all | refine Split.cons Pick.head ?_))), ?_⟩))
      refine JM.quiet rfl rfl rfl rfl (fun m => y_assign rfl) ?_
      refine JM.nil ?_
      refine JE.then_normal ?_
      refine J.ret ?_
      refine JE.ret2 (.inl rfl) rfl rfl (by (first | exact RV.tmp rfl | exact RV.cell1 hT rfl rfl rfl (by (exact Rd1.row (by (repeat (first | exact Pick.head | apply Pick.tail | apply Pick.app))) (by rfl))) | exact RV.cellN hT rfl rfl rfl (by (first | exact RdN.rowAll (by (repeat (first | exact Pick.head | apply Pick.tail | apply Pick.app))) | exact RdN.own (by (repeat (first | exact Pick.head | apply Pick.tail | apply Pick.app))))) (by (first | rfl | assumption | (simp; done) | omega)))) (by (first | exact RV.tmp rfl | exact RV.cell1 hT rfl rfl rfl (by (exact Rd1.row (by (repeat (first | exact Pick.head | apply Pick.tail | apply Pick.app))) (by rfl))) | exact RV.cellN hT rfl rfl rfl (by (first | exact RdN.rowAll (by (repeat (first | exact Pick.head | apply Pick.tail | apply Pick.app))) | exact RdN.own (by (repeat (first | exact Pick.head | apply Pick.tail | apply Pick.app))))) (by (first | rfl | assumption | (simp; done) | omega)))) ?_
      exact ⟨_, fun w q => q.sup (by (repeat (first | exact Sup.refl | apply Sup.cons (by (repeat (first | exact Pick.head | apply Pick.tail | apply Pick.app))) | apply Sup.app | apply Sup.skip | apply Sup.skips))), .inl ⟨rfl, ka, kc, bg, rfl, rfl⟩⟩
  · have hd : decide (¬ e = 0) = true := decide_eq_true he
    rw [hd] at ckeep
    refine Fc.of_body (c := ?codeC) Tryz.func13 ?hb Tryz.ntmps13 ?hl ?_
    case hb => exact rfl
    case hl => exact rfl
    refine J.seq ?_
    refine J.region ?_
    refine JL.loud rfl (l_alloc hT rfl rfl (by (first | rfl | simp)) rfl (fun b1 => ?_))
    refine JL.step (y_assign rfl) rfl rfl rfl ?_
    refine JL.nil ?_
    refine JE.then_normal ?_
    refine J.seq ?_
    refine J.block ?_
    refine J.seq ?_
    refine J.region ?_
    refine JL.step (y_move rfl) rfl rfl rfl (JL.step (y_ptr_eq_nil hT rfl rfl rfl rfl) rfl rfl rfl (JL.step (y_assign rfl) rfl rfl rfl ?_))
    refine JL.nil ?_
    refine JE.then_normal ?_
    refine J.cond_f rfl (by (first | rfl | assumption | (simp; done) | (simp; omega))) ?_
    refine J.seq ?_
    refine J.region ?_
    refine JL.step (y_move rfl) rfl rfl rfl ?_
    refine JL.step ((by first | exact y_nilCheck rfl | exact y_nilCheckF rfl | exact y_nilCheckY rfl)) rfl rfl rfl ?_
    refine JL.step (y_fieldAddr hT rfl rfl rfl rfl rfl rfl) rfl rfl rfl ?_
    refine JL.step (y_load1 hT rfl rfl rfl (by (exact Rd1.row (by (repeat (first | exact Pick.head | apply Pick.tail | apply Pick.app))) (by rfl)))) rfl rfl rfl ?_
    refine JL.step (y_assign rfl) rfl rfl rfl ?_
    refine JL.nil ?_
    refine JE.then_normal ?_
    refine J.cond_f rfl (by (first | rfl | assumption | (simp; done) | (simp; omega))) ?_
    refine J.seq ?_
    refine J.region ?_
    refine JL.step (y_move rfl) rfl rfl rfl ?_
    refine JL.step ((by first | exact y_nilCheck rfl | exact y_nilCheckF rfl | exact y_nilCheckY rfl)) rfl rfl rfl ?_
    refine JL.step (y_fieldAddr hT rfl rfl rfl rfl rfl rfl) rfl rfl rfl ?_
    refine JL.step (y_load1 hT rfl rfl rfl (by (exact Rd1.row (by (repeat (first | exact Pick.head | apply Pick.tail | apply Pick.app))) (by rfl)))) rfl rfl rfl ?_
    refine JL.step (y_neq rfl rfl) rfl rfl rfl (JL.step (y_assign rfl) rfl rfl rfl ?_)
    refine JL.nil ?_
    refine JE.then_normal ?_
    refine J.cond_f rfl (by (first | rfl | assumption | (simp; done) | (simp; omega))) ?_
    refine J.seq ?_
    refine J.region ?_
    refine JL.step (y_move rfl) rfl rfl rfl (JL.step (y_len_slice hT rfl rfl rfl) rfl rfl rfl ?_)
    refine JL.step (y_lssB rfl rfl hb1) rfl rfl rfl ?_
    refine JL.step (y_move rfl) rfl rfl rfl ?_
    all_goals (first | (refine JL.gsplit_dec rfl rfl rfl (fun h => ?_) (fun h => ?_) <;> try (first | (exfalso; omega) | exact absurd rfl h)) | (refine JL.gsplit rfl rfl rfl (fun h => ?_) (fun h => ?_) <;> try (first | cases h | (exfalso; simp at h; done))) | skip)
    all_goals (first | refine JL.gskip rfl rfl rfl rfl rfl rfl ?_ | refine JL.gskipU rfl rfl rfl rfl rfl ?_ | refine JL.gstep rfl rfl rfl (y_move rfl) rfl rfl ?_)
    all_goals (first | refine JL.gskip rfl rfl rfl rfl rfl rfl ?_ | refine JL.gskipU rfl rfl rfl rfl rfl ?_ | refine JL.gstep rfl rfl rfl (y_len_slice hT rfl rfl rfl) rfl rfl ?_)
    all_goals (first | refine JL.gskip rfl rfl rfl rfl rfl rfl ?_ | refine JL.gskipU rfl rfl rfl rfl rfl ?_ | refine JL.gstep rfl rfl rfl (y_gtr rfl rfl) rfl rfl ?_)
    all_goals (refine JL.step (y_pick rfl rfl rfl) rfl rfl rfl ?_)
    all_goals (refine JL.step (y_assign rfl) rfl rfl rfl ?_)
    all_goals refine JL.nil ?_
    all_goals refine JE.then_normal ?_
    all_goals
      refine J.cond_f rfl (by (first | rfl | assumption | (simp; done) | (simp; omega))) ?_
      refine J.seq ?_
      refine J.region ?_
      refine JL.step (y_move rfl) rfl rfl rfl ?_
      refine JL.step ((by first | exact y_nilCheck rfl | exact y_nilCheckF rfl | exact y_nilCheckY rfl)) rfl rfl rfl ?_
      refine JL.step (y_fieldAddr hT rfl rfl rfl rfl rfl rfl) rfl rfl rfl ?_
      refine JL.step (y_load1 hT rfl rfl rfl (by (exact Rd1.row (by (repeat (first | exact Pick.head | apply Pick.tail | apply Pick.app))) (by rfl)))) rfl rfl rfl ?_
      refine JL.step ((by first | exact y_addQ rfl rfl | exact y_add rfl rfl (by (first | exact wrap_i64 (by omega) (by omega) | rfl)))) rfl rfl rfl ?_
      refine JL.step (y_eql rfl rfl) rfl rfl rfl (JL.step (y_assign rfl) rfl rfl rfl ?_)
      refine JL.nil ?_
      refine JE.then_normal ?_
      refine J.cond_f rfl (by (first | rfl | assumption | (simp; done) | (simp; omega))) ?_
      refine J.skip ?_
    all_goals refine JE.block_normal ?_
    all_goals refine JE.then_normal ?_
    all_goals
      refine J.seq ?_
      refine J.seq ?_
      refine J.region ?_
      refine JL.step (y_move rfl) rfl rfl rfl (JL.step (y_move rfl) rfl rfl rfl ?_)
      refine JL.step ((by first | exact y_nilCheck rfl | exact y_nilCheckF rfl | exact y_nilCheckY rfl)) rfl rfl rfl ?_
      refine JL.step (y_fieldAddr hT rfl rfl rfl rfl rfl rfl) rfl rfl rfl ?_
      refine JL.step (y_load1 hT rfl rfl rfl (by (exact Rd1.row (by (repeat (first | exact Pick.head | apply Pick.tail | apply Pick.app))) (by rfl)))) rfl rfl rfl ?_
      refine JL.step ((by first | exact y_addQ rfl rfl | exact y_add rfl rfl (by (first | exact wrap_i64 (by omega) (by omega) | rfl)))) rfl rfl rfl ?_
      refine JL.loud rfl (l_callF e66 rfl rfl (Fc.on (Split.cons (by (repeat (first | exact Pick.head | apply Pick.tail | apply Pick.app))) (Split.cons (by (repeat (first | exact Pick.head | apply Pick.tail | apply Pick.app))) (Split.cons (by (repeat (first | exact Pick.head | apply Pick.tail | apply Pick.app))) (Split.cons (by (repeat (first | exact Pick.head | apply Pick.tail | apply Pick.app))) Split.nil)))) (ckeep _)) ?_)
      rintro _ _ ⟨rfl, rfl⟩
      refine JL.step (y_assign rfl) rfl rfl rfl ?_
      refine JL.nil ?_
      refine JE.then_normal ?_
      refine J.seq ?_
      refine J.region ?_
      refine JL.step (y_move rfl) rfl rfl rfl (JL.step (y_neq rfl rfl) rfl rfl rfl ?_)
      refine JL.nil ?_
      refine JE.then_normal ?_
      refine J.cond_t rfl (by (first | rfl | assumption | (simp; done) | (simp; omega))) ?_
      refine J.seq ?_
      refine J.region ?_
      refine JL.step (y_build (cs := [_, _]) hT rfl rfl rfl rfl rfl rfl trivial rfl) rfl rfl rfl (JL.step (y_move rfl) rfl rfl rfl ?_)
      refine JL.loud rfl (l_storeAll hT rfl rfl rfl (by (first | rfl | assumption | (simp; done) | omega)) (by (first | assumption | exact ones_of rfl | exact encW_one _ | exact encB_one _ | (intro u hu; simp at hu; rcases hu with rfl | rfl <;> rfl) | (intro u hu; simp at hu; subst hu; rfl) | simp)) (by (repeat (first | exact Pick.head | apply Pick.tail | apply Pick.app))) (by (first | rfl | assumption | (simp; done) | omega)) ?_)
      refine JL.step (y_assign rfl) rfl rfl rfl ?_
      refine JL.nil ?_
      refine JE.then_normal ?_
      refine J.ret ?_
      refine JE.then_ret ?_
      refine JE.ret2 (.inl rfl) rfl rfl (by (first | exact RV.tmp rfl | exact RV.cell1 hT rfl rfl rfl (by (exact Rd1.row (by (repeat (first | exact Pick.head | apply Pick.tail | apply Pick.app))) (by rfl))) | exact RV.cellN hT rfl rfl rfl (by (first | exact RdN.rowAll (by (repeat (first | exact Pick.head | apply Pick.tail | apply Pick.app))) | exact RdN.own (by (repeat (first | exact Pick.head | apply Pick.tail | apply Pick.app))))) (by (first | rfl | assumption | (simp; done) | omega)))) (by (first | exact RV.tmp rfl | exact RV.cell1 hT rfl rfl rfl (by (exact Rd1.row (by (repeat (first | exact Pick.head | apply Pick.tail | apply Pick.app))) (by rfl))) | exact RV.cellN hT rfl rfl rfl (by (first | exact RdN.rowAll (by (repeat (first | exact Pick.head | apply Pick.tail | apply Pick.app))) | exact RdN.own (by (repeat (first | exact Pick.head | apply Pick.tail | apply Pick.app))))) (by (first | rfl | assumption | (simp; done) | omega)))) ?_
      exact ⟨_, fun w q => q.sup (by (repeat (first | exact Sup.refl | apply Sup.cons (by (repeat (first | exact Pick.head | apply Pick.tail | apply Pick.app))) | apply Sup.app | apply Sup.skip | apply Sup.skips))), .inr ⟨he, rfl, rfl⟩⟩
end
end Go.Proofs.YtimekohdlofmaaaGreat
namespace Go.Proofs.YtimekohdlofmaaaGreat
open Go Go.SL
/-! A number that is kept, on a disk that may be armed. -/
/-- An armed disk, so much left at most. -/
structure Armd (N : Nat) (D : Dk) : Prop where
  armed : D.armed = true
  low : 0 ≤ D.left
  high : D.left ≤ N
theorem Armd.does {N : Nat} {D : Dk} (h : Armd N D) (hN : N ≤ 1000000) (h0 : ¬ (D.armed = true ∧ D.left = 0)) : Armd N D.does := by
  have h1 := h.low
  have h2 := h.high
  have h3 : D.left ≠ 0 := fun e => h0 ⟨h.armed, e⟩
  refine ⟨h.armed, ?_, ?_⟩ <;> simp only [Dk.does, h.armed, if_true] <;> rw [wrap_i64 (by omega) (by omega)] <;> omega
theorem Armd.write {N : Nat} {D : Dk} (h : Armd N D) (hN : N ≤ 1000000) {i : Int} {b : Blk} (e : (D.write i b).2 = 0) : Armd N (D.write i b).1 := by
  unfold Dk.write at e ⊢
  split at e
  · rename_i hr; exact absurd e hr
  · rename_i hr
    rw [if_neg hr]
    split at e
    · exact absurd e (show ¬ (7 : Int) = 0 by decide)
    · rename_i h0
      rw [if_neg h0]
      have q := h.does hN h0
      exact ⟨q.armed, q.low, q.high⟩
theorem Armd.put {N : Nat} {D : Dk} (h : Armd N D) (hN : N ≤ 1000000) {i : Int} {b : Blk} (e : (D.put i b).2 = 0) : Armd N (D.put i b).1 := by
  unfold Dk.put at e ⊢
  split at e
  · rename_i h0
    rw [if_pos h0]
    exact h.write hN e
  · rename_i h0; exact absurd e h0
/-- A sync that is done. -/
theorem Armd.sync {N : Nat} {D : Dk} (h : Armd N D) (hN : N ≤ 1000000) (e : D.sync.2 = 0) : Armd N D.sync.1 ∧ D.sync.1.pending = [] ∧ D.sync.1.dead = false := by
  unfold Dk.sync at e ⊢
  split at e
  · exact absurd e (show ¬ (7 : Int) = 0 by decide)
  · rename_i hd
    rw [if_neg hd]
    split at e
    · exact absurd e (show ¬ (7 : Int) = 0 by decide)
    · rename_i h0
      rw [if_neg h0]
      have q := h.does hN h0
      exact ⟨⟨q.armed, q.low, q.high⟩, rfl, by simpa [Dk.settle, Dk.does] using hd⟩
theorem Armd.putsW {N : Nat} {D : Dk} (h : Armd N D) (hN : N ≤ 1000000) (used : Nat) (tx : List Int) : ∀ k, (putsW used tx D k).2 = 0 → Armd N (Go.Proofs.YtimekohdlofmaaaGreat.putsW used tx D k).1
  | 0, _ => h
  | k + 1, e => by
    rw [Go.Proofs.YtimekohdlofmaaaGreat.putsW] at e ⊢
    by_cases hk : (Go.Proofs.YtimekohdlofmaaaGreat.putsW used tx D k).2 = 0
    · rw [if_pos hk] at e ⊢
      exact (Armd.putsW h hN used tx k hk).put hN e
    · rw [if_neg hk] at e; exact absurd e hk
theorem Armd.takeW {N : Nat} {D : Dk} (h : Armd N D) (hN : N ≤ 1000000) (base : Int) (bs : List Int) : ∀ k, (takeW base bs D k).2 = 0 → Armd N (Go.Proofs.YtimekohdlofmaaaGreat.takeW base bs D k).1
  | 0, _ => h
  | k + 1, e => by
    rw [Go.Proofs.YtimekohdlofmaaaGreat.takeW] at e ⊢
    by_cases hk : (Go.Proofs.YtimekohdlofmaaaGreat.takeW base bs D k).2 = 0
    · rw [if_pos hk] at e ⊢
      exact (Armd.takeW h hN base bs k hk).write hN e
    · rw [if_neg hk] at e; exact absurd e hk
/-- What is done, and on a disk that goes on. -/
def GoesOn (N : Nat) (X : Dk) : Prop := Armd N X ∧ X.pending = [] ∧ X.dead = false
theorem Armd.writeL {N : Nat} {D : Dk} (h : Armd N D) (hN : N ≤ 1000000) (L : Lg) (S : Sb) (tx : List Int) (e : (writeL L S D tx).2 = 0) : GoesOn N (Go.Proofs.YtimekohdlofmaaaGreat.writeL L S D tx).1 := by
  unfold Go.Proofs.YtimekohdlofmaaaGreat.writeL at e ⊢
  dsimp only at e ⊢
  obtain ⟨W, hW⟩ : ∃ W, Go.Proofs.YtimekohdlofmaaaGreat.putsW L.used tx D (pieceN tx.length) = W := ⟨_, rfl⟩
  have hA := h.putsW hN L.used tx (pieceN tx.length)
  rw [hW] at e hA ⊢
  by_cases h1 : W.2 = 0
  · rw [if_pos h1] at e ⊢
    have hA := hA h1
    by_cases h2 : W.1.sync.2 = 0
    · rw [if_pos h2] at e ⊢
      have hB := (hA.sync hN h2).1
      by_cases h3 : (W.1.sync.1.put (L.used : Int) (mkB S.turn L.txs.length tx)).2 = 0
      · rw [if_pos h3] at e ⊢
        exact (hB.put hN h3).sync hN e
      · rw [if_neg h3] at e; exact absurd e h3
    · rw [if_neg h2] at e; exact absurd e h2
  · rw [if_neg h1] at e; exact absurd e h1
theorem Armd.takeS {N : Nat} {D : Dk} (h : Armd N D) (hN : N ≤ 1000000) (s : Sb) (bs : List Int) (e : (takeS s D bs).2.2 = 0) : GoesOn N (Go.Proofs.YtimekohdlofmaaaGreat.takeS s D bs).2.1 := by
  unfold Go.Proofs.YtimekohdlofmaaaGreat.takeS at e ⊢
  by_cases h0 : 64 * D.half < bs.length
  · rw [if_pos h0] at e; exact absurd e (show ¬ (3 : Int) = 0 by decide)
  rw [if_neg h0] at e ⊢
  dsimp only at e ⊢
  obtain ⟨W, hW⟩ : ∃ W, Go.Proofs.YtimekohdlofmaaaGreat.takeW (2 + (nextS s bs).place * (D.half : Int)) bs D ((bs.length + 63) / 64) = W := ⟨_, rfl⟩
  have hA := h.takeW hN (2 + (nextS s bs).place * (D.half : Int)) bs ((bs.length + 63) / 64)
  rw [hW] at e hA ⊢
  by_cases h1 : W.2 = 0
  · rw [if_pos h1] at e ⊢
    have hA := hA h1
    by_cases h2 : W.1.sync.2 = 0
    · rw [if_pos h2] at e ⊢
      have hB := (hA.sync hN h2).1
      by_cases h3 : (W.1.sync.1.write (((nextS s bs).turn.toNat % 2 : Nat) : Int) (sbBlock (nextS s bs))).2 = 0
      · rw [if_pos h3] at e ⊢
        by_cases h4 : (W.1.sync.1.write (((nextS s bs).turn.toNat % 2 : Nat) : Int) (sbBlock (nextS s bs))).1.sync.2 = 0
        · rw [if_pos h4] at e ⊢
          exact (hB.write hN h3).sync hN h4
        · rw [if_neg h4] at e; exact absurd e h4
      · rw [if_neg h3] at e; exact absurd e h3
    · rw [if_neg h2] at e; exact absurd e h2
  · rw [if_neg h1] at e; exact absurd e h1
/-- A disk that goes on is one that is armed with what is left. -/
theorem GoesOn.back {N : Nat} {X : Dk} (h : GoesOn N X) : ∃ k, k ≤ N ∧ X = (X.crash []).arm k := by
  obtain ⟨⟨h1, h2, h3⟩, h4, h5⟩ := h
  refine ⟨X.left.toNat, by omega, ?_⟩
  cases X
  simp only at h1 h2 h3 h4 h5
  subst h1 h4 h5
  simp [Dk.crash, Dk.settle, Dk.arm, liveOn]
  omega
theorem arm_armd (D : Dk) (k : Nat) : Armd k (D.arm k) := ⟨by simp [Dk.arm], by simp [Dk.arm], by simp [Dk.arm]⟩
/-- What a change leaves on a disk that may be armed: done (0), or dead (7). -/
structure Kept2 (S : Sb) (D : Dk) (L A : Lg) (a : Option Nat) (La : Lg) (Sa : Sb) (X : Dk) (e : Int) : Prop where
  few : X.pending.length ≤ 1000
  len : X.safe.length = D.safe.length
  out : (e = 0 ∧ La = A ∧ Sa.turn.toNat ≤ S.turn.toNat + 1 ∧ ∃ D' a', X = D'.armO a' ∧ LH Sa D' A ∧ D'.safe.length = D.safe.length ∧ (a = none → a' = none) ∧ ∀ k, a' = some k → k ≤ 1000000) ∨
    (e = 7 ∧ a ≠ none ∧ La = { L with broken := true } ∧ Sa = S ∧ ∀ keep, ∃ S2 L2, LH S2 (X.crash keep) L2 ∧ (L2 = L ∨ L2 = A) ∧ S2.turn.toNat ≤ S.turn.toNat + 1)
theorem append_kept {S : Sb} {D : Dk} {L A : Lg} {tx : List Int} {a : Option Nat} (h : LH S D L) (hs : Small tx) (ha : ∀ k, a = some k → k ≤ 1000000) (hroom : L.used + needN tx.length ≤ D.slots) (hA : { L with txs := L.txs ++ [tx], used := L.used + needN tx.length } = A) :
    ∃ La X e, appL L S (D.armO a) tx = (La, X, e) ∧ Kept2 S D L A a La S X e := by
  cases a with
  | none =>
    obtain ⟨D', e, hL, hl⟩ := h.append hs hroom
    rw [hA] at e hL
    exact ⟨A, D', 0, e, by rw [hL.holds.none]; decide, hl, .inl ⟨rfl, rfl, Nat.le_succ _, D', none, rfl, hL, hl, fun _ => rfl, fun k hk => by cases hk⟩⟩
  | some k =>
    have hk := ha k rfl
    obtain ⟨X, e, hW, hfew, _, hor⟩ := append_cut h hs hk hroom
    have hlen := writeL_len L S (D.arm k) tx
    have hgo := (arm_armd D k).writeL hk L S tx
    rw [hW] at hlen hgo
    have eA := appL_arm h k hs hroom
    rw [hW] at eA
    dsimp only at eA hlen hgo
    rw [hA] at eA
    rcases hor with ⟨rfl, _, _, hkp⟩ | ⟨rfl, _, _, hkp⟩
    · rw [if_neg (by decide)] at eA
      exact ⟨_, _, _, eA, hfew, hlen, .inr ⟨rfl, by simp, rfl, rfl, fun keep => (hkp keep).elim (fun h => ⟨S, L, h, .inl rfl, Nat.le_succ _⟩) (fun h => ⟨S, A, by rw [← hA]; exact h.2, .inr rfl, Nat.le_succ _⟩)⟩⟩
    · rw [if_pos rfl] at eA
      obtain ⟨k', hk', hX⟩ := (hgo rfl).back
      exact ⟨_, _, _, eA, hfew, hlen, .inl ⟨rfl, rfl, Nat.le_succ _, X.crash [], some k', hX, by rw [← hA]; exact hkp [], (crash_len X []).trans hlen, fun h => (by cases h), fun j hj => by cases hj; omega⟩⟩
theorem check_kept {S : Sb} {D : Dk} {L A : Lg} {state : List Int} {a : Option Nat} (h : LH S D L) (hs : Small state) (ha : ∀ k, a = some k → k ≤ 1000000) (hl : state.length ≤ 64 * D.half) (ht : S.turn.toNat + 1 < 18446744073709551616) (hA : (⟨state, [], 0, false⟩ : Lg) = A) :
    ∃ La Sa X e, ckL L S (D.armO a) state = (La, Sa, X, e) ∧ Kept2 S D L A a La Sa X e := by
  cases a with
  | none =>
    obtain ⟨D', e, hL, hd⟩ := h.check hs hl ht
    rw [hA] at e hL
    exact ⟨A, nextS S state, D', 0, e, by rw [hL.holds.none]; decide, hd, .inl ⟨rfl, rfl, by rw [next_turn ht]; exact Nat.le_refl _, D', none, rfl, hL, hd, fun _ => rfl, fun k hk => by cases hk⟩⟩
  | some k =>
    have hk := ha k rfl
    obtain ⟨hfew, hor⟩ := cut_law (k := k) h.holds.up h.holds.none hk h.holds.fits.two h.holds.fits.place hl
    have hBa : Byt (D.arm k) := ⟨h.byt.safe, h.byt.pend⟩
    have hB := hBa.takeS S hs.bytes
    have hlen := takeS_len S (D.arm k) state
    have hgo := (arm_armd D k).takeS hk S state
    obtain ⟨⟨Sa, X, f⟩, hR⟩ : ∃ R, takeS S (D.arm k) state = R := ⟨_, rfl⟩
    rw [hR] at hfew hor hB hlen hgo
    dsimp only at hfew hor hB hlen hgo
    have hw := h.whole
    have hck : ckL L S (D.armO (some k)) state = if f = 0 then ({ L with snap := state, txs := [], used := 0 }, Sa, X, 0) else if f = 3 then (L, Sa, X, 3) else ({ L with broken := true }, Sa, X, f) := by
      show ckL L S (D.arm k) state = _
      unfold ckL
      rw [if_neg (by rw [hw]; simp), hR]
    rcases hor with ⟨rfl, rfl, _, hkp⟩ | ⟨rfl, rfl, _, hkp⟩
    · rw [if_neg (by decide), if_neg (by decide)] at hck
      refine ⟨_, _, _, _, hck, hfew, hlen, .inr ⟨rfl, by simp, rfl, rfl, fun keep => ?_⟩⟩
      rcases hkp keep with h1 | h1
      · exact ⟨Sa, L, h.kept h1 (hB.crash keep), .inl rfl, Nat.le_succ _⟩
      · exact ⟨nextS Sa state, A, by rw [← hA]; exact h.taken hs hl ht h1 (hB.crash keep), .inr rfl, by rw [next_turn ht]; exact Nat.le_refl _⟩
    · rw [if_pos rfl] at hck
      obtain ⟨k', hk', hX⟩ := (hgo rfl).back
      have hLA : ({ L with snap := state, txs := [], used := 0 } : Lg) = A := by
        rw [← hA]
        cases L
        simp only at hw
        rw [hw]
      rw [hLA] at hck
      exact ⟨_, _, _, _, hck, hfew, hlen, .inl ⟨rfl, rfl, by rw [next_turn ht]; exact Nat.le_refl _, X.crash [], some k', hX, by rw [← hA]; exact h.taken hs hl ht (hkp []) (hB.crash []), (crash_len X []).trans hlen, fun h => (by cases h), fun j hj => by cases hj; omega⟩⟩
/-! The numbers. -/
theorem small_num (x : BitVec 64) : Small (leB 8 x) := ⟨fun y h => by
  simp only [leB, List.mem_map, List.mem_range] at h
  obtain ⟨i, _, rfl⟩ := h
  omega, by rw [leB_length]; decide⟩
theorem next_num {last : BitVec 64} (h : last + 1#64 ≠ 0#64) : (last + 1#64).toNat = last.toNat + 1 := by
  have h1 := last.isLt
  rw [BitVec.toNat_add]
  show (last.toNat + 1) % 18446744073709551616 = _
  have h2 : last.toNat + 1 ≠ 18446744073709551616 := fun e => h (by
    apply BitVec.eq_of_toNat_eq
    rw [BitVec.toNat_add]
    show (last.toNat + 1) % 18446744073709551616 = 0
    omega)
  omega
theorem entryN_snoc {L : Lg} {last : BitVec 64} (h : entryN L = some last) (hl : last + 1#64 ≠ 0#64) (u : Nat) : entryN { L with txs := L.txs ++ [leB 8 (last + 1#64)], used := u } = some (last + 1#64) := by
  unfold entryN at h ⊢
  dsimp only
  cases hs : estart L.snap with
  | none => rw [hs] at h; cases h
  | some n =>
    rw [hs] at h
    rw [Option.bind_some] at h ⊢
    rw [echain_append, h, Option.bind_some, echain, enext, leG_leB8, if_pos ⟨leB_length _ _, by rw [next_num hl]; omega⟩]
    rfl
theorem entryN_check (x : BitVec 64) : entryN ⟨leB 8 x, [], 0, false⟩ = some x := by
  unfold entryN estart
  rw [if_neg (by rw [leB_length]; decide), if_pos (leB_length _ _), leG_leB8]
  rfl
end Go.Proofs.YtimekohdlofmaaaGreat
namespace Go.Proofs.YtimekohdlofmaaaGreat
open Go Go.SL
/-! An entry of a disk. -/
theorem usedN_ge : ∀ txs : List (List Int), txs.length ≤ usedN txs
  | [] => Nat.le_refl _
  | t :: ts => by
    have h := usedN_ge ts
    simp only [usedN, List.map_cons, List.sum_cons, List.length_cons] at h ⊢
    have : 1 ≤ needN t.length := by unfold needN; omega
    omega
theorem LH.few {S : Sb} {D : Dk} {L : Lg} (h : LH S D L) : L.txs.length < 512 := by
  have h1 := usedN_ge L.txs
  have h2 := h.used
  have h3 := h.fit
  have h4 := h.holds.up.ok.most
  unfold Dk.slots at h3
  omega
theorem LH.congr {S : Sb} {D D' : Dk} {L : Lg} (h : LH S D L) (hu : Up D') (hs : D'.safe = D.safe) (hp : D'.pending = []) : LH S D' L := by
  refine h.kept ⟨hu, hp, by rw [hs], fun j _ _ _ => ?_⟩ ⟨fun b hb => h.byt.safe b (hs ▸ hb), fun p hq => ?_⟩
  · unfold Dk.find
    rw [hp, h.holds.none, hs]
  · rw [hp] at hq; cases hq
def zeros64 : List Blk := List.replicate 64 zeroB
/-- A disk between two starts: without rounds, or with a log whose last number this is. -/
structure ESt (T : Nat) (D : Dk) (last : BitVec 64) : Prop where
  up : Up D
  none : D.pending = []
  len : D.safe.length = 64
  out : (D.safe = zeros64 ∧ last = 0#64) ∨ ∃ S L, LH S D L ∧ entryN L = some last ∧ S.turn.toNat ≤ T
theorem ESt.new : ESt 0 (Dk.new 64) 0#64 := ⟨new_up (by decide) (by decide), rfl, by simp [Dk.new], .inl ⟨rfl, rfl⟩⟩
theorem ESt.mono {T T' : Nat} {D : Dk} {last : BitVec 64} (h : ESt T D last) (hT : T ≤ T') : ESt T' D last := ⟨h.up, h.none, h.len, h.out.imp_right fun ⟨S, L, h1, h2, h3⟩ => ⟨S, L, h1, h2, by omega⟩⟩
theorem ESt.of {T : Nat} {D : Dk} {last : BitVec 64} {S : Sb} {L : Lg} (h : LH S D L) (hn : entryN L = some last) (ht : S.turn.toNat ≤ T) (hl : D.safe.length = 64) : ESt T D last := ⟨h.holds.up, h.holds.none, hl, .inr ⟨S, L, h, hn, ht⟩⟩
theorem entryN_lg0 : entryN lg0 = some 0#64 := rfl
theorem zeros_counts {D : Dk} (hs : D.safe = zeros64) (hp : D.pending = []) : D.counts = Option.none := by
  have h0 : D.find 0 = zeroB := by unfold Dk.find; rw [hp, hs]; rfl
  have h1 : D.find 1 = zeroB := by unfold Dk.find; rw [hp, hs]; rfl
  have hz : sbOk zeroB = false := by decide +kernel
  simp only [Dk.counts, h0, h1, hz, Bool.false_eq_true, if_false]
theorem zeros_set1 : zeros64.set 1 zeroB = zeros64 := rfl
theorem zeros_set01 (b : Blk) : (zeros64.set 0 b).set 1 zeroB = zeros64.set 0 b := rfl
/-- What a formatted disk holds. -/
theorem zeros_lh {D : Dk} (hu : Up D) (hs : D.safe = zeros64.set 0 (sbBlock sb0)) (hp : D.pending = []) : LH sb0 D lg0 := by
  refine (lh_format (n := 64) (by decide) (by decide)).1.congr hu ?_ hp
  rw [hs]
  show _ = liveOn (fun _ => true) [((0 : Int), sbBlock sb0), ((1 : Int), zeroB)] 0 (List.replicate 64 zeroB)
  simp only [liveOn]
  exact (zeros_set01 _).symm
/-- What opening a disk with no rounds comes to. -/
theorem format_cases {D : Dk} {a : Option Nat} (hu : Up D) (hp : D.pending = []) (hs : D.safe = zeros64) (ha : ∀ k, a = some k → k ≤ 1000000) :
    ∃ X e, formatF (D.armO a) = (X, e) ∧ ((e = 0 ∧ ∃ D' a', X = D'.armO a' ∧ LH sb0 D' lg0 ∧ D'.safe.length = 64 ∧ (a = Option.none → a' = Option.none) ∧ ∀ k, a' = some k → k ≤ 1000000) ∨
      (e = 7 ∧ a ≠ Option.none ∧ X.pending.length ≤ 1000 ∧ ∀ keep, ESt 0 (X.crash keep) 0#64)) := by
  have hl : D.safe.length = 64 := by rw [hs]; rfl
  have hsb : (sbBlock sb0).length = 64 := sbBlock_length sb0_hash
  cases a with
  | none =>
    have h1 := hu.write (sbBlock sb0) (i := 0) (by omega)
    have hu1 := hu.push (i := 0) (b := sbBlock sb0) (by omega) hsb
    have hl1 : (D.does.push 0 (sbBlock sb0)).safe.length = 64 := hl
    have h2 := hu1.write zeroB (i := 1) (by omega)
    have hu2 := hu1.push (i := 1) (b := zeroB) (by omega) rfl
    have h3 : ((D.does.push 0 (sbBlock sb0)).does.push 1 zeroB).sync = (D.formatted, 0) := by
      rw [Dk.sync, if_neg (by rw [hu2.dead]; simp), if_neg (by rw [hu2.armed]; simp)]
      rfl
    have hF : formatF (D.armO Option.none) = (D.formatted, 0) := by
      show formatF D = _
      unfold formatF
      rw [h1]
      dsimp only
      rw [if_pos rfl, h2]
      dsimp only
      rw [if_pos rfl, h3]
    obtain ⟨hu3, hl3, hp3⟩ := formatted_up hu (by omega)
    refine ⟨_, _, hF, .inl ⟨rfl, D.formatted, Option.none, rfl, zeros_lh hu3 ?_ hp3, hl3.trans hl, fun _ => rfl, fun k hk => by cases hk⟩⟩
    show liveOn (fun _ => true) (D.pending ++ [((0 : Int), sbBlock sb0)] ++ [((1 : Int), zeroB)]) 0 D.safe = _
    rw [hp, hs]
    simp only [List.nil_append, List.cons_append, liveOn]
    exact zeros_set01 _
  | some k =>
    have hk := ha k rfl
    obtain ⟨Y, hY⟩ : ∃ Y, D.arm (k : Int) = Y := ⟨_, rfl⟩
    have hYs : Y.safe = zeros64 := by rw [← hY]; exact hs
    have hYp : Y.pending = [] := by rw [← hY]; exact hp
    have hYl : Y.safe.length = 64 := by rw [hYs]; rfl
    have hA : Ar Y k := by rw [← hY]; exact ⟨⟨hu.ok.safe, hu.ok.pend, hu.ok.some, hu.ok.most, by simp only [Dk.arm]; omega⟩, hu.dead, by simp [Dk.arm], rfl⟩
    -- what lives
    have hcr : ∀ X : Dk, X.Ok → X.safe = zeros64 → (X.pending = [] ∨ X.pending = [((0 : Int), sbBlock sb0)] ∨ X.pending = [((0 : Int), sbBlock sb0), ((1 : Int), zeroB)]) → ∀ keep, ESt 0 (X.crash keep) 0#64 := fun X hX hXs hXp keep => by
      obtain ⟨hcu, hcp, hcl⟩ := crash_up hX keep
      have hcl : (X.crash keep).safe.length = 64 := by rw [hcl, hXs]; rfl
      have hcs : (X.crash keep).safe = zeros64 ∨ (X.crash keep).safe = zeros64.set 0 (sbBlock sb0) := by
        show liveOn (bitAt keep) X.pending 0 X.safe = _ ∨ liveOn (bitAt keep) X.pending 0 X.safe = _
        rw [hXs]
        rcases hXp with e | e | e <;> rw [e] <;> simp only [liveOn]
        · first
            | exact .inl rfl
            | exact .inl trivial
        · split
          · exact .inr rfl
          · exact .inl rfl
        · split <;> split
          · exact .inr (zeros_set01 _)
          · exact .inl zeros_set1
          · exact .inr rfl
          · exact .inl rfl
      rcases hcs with h | h
      · exact ⟨hcu, hcp, hcl, .inl ⟨h, rfl⟩⟩
      · exact ESt.of (zeros_lh hcu h hcp) entryN_lg0 (Nat.le_refl _) hcl
    have hFY : formatF (D.armO (some k)) = formatF Y := by rw [← hY]; rfl
    rw [hFY]
    rcases hA.write (i := 0) (b := sbBlock sb0) hsb (by omega) with ⟨_, e1⟩ | ⟨k1, hk1, e1, hA1⟩
    · have hF : formatF Y = (Y.dies, 7) := by unfold formatF; rw [e1]; rfl
      exact ⟨_, _, hF, .inr ⟨rfl, by simp, by show Y.pending.length ≤ 1000; rw [hYp]; exact Nat.zero_le _, hcr _ hA.ok.dies hYs (.inl hYp)⟩⟩
    obtain ⟨Y1, hY1⟩ : ∃ Y1, Y.does.push 0 (sbBlock sb0) = Y1 := ⟨_, rfl⟩
    have h1s : Y1.safe = zeros64 := by rw [← hY1]; exact hYs
    have h1p : Y1.pending = [((0 : Int), sbBlock sb0)] := by rw [← hY1]; simp [Dk.push, Dk.does, hYp]
    rw [hY1] at e1 hA1
    rcases hA1.write (i := 1) (b := zeroB) rfl (by rw [h1s]; decide) with ⟨_, e2⟩ | ⟨k2, hk2, e2, hA2⟩
    · have hF : formatF Y = (Y1.dies, 7) := by unfold formatF; rw [e1]; dsimp only; rw [if_pos rfl, e2]; rfl
      exact ⟨_, _, hF, .inr ⟨rfl, by simp, by show Y1.pending.length ≤ 1000; rw [h1p]; decide, hcr _ hA1.ok.dies h1s (.inr (.inl h1p))⟩⟩
    obtain ⟨Y2, hY2⟩ : ∃ Y2, Y1.does.push 1 zeroB = Y2 := ⟨_, rfl⟩
    have h2s : Y2.safe = zeros64 := by rw [← hY2]; exact h1s
    have h2p : Y2.pending = [((0 : Int), sbBlock sb0), ((1 : Int), zeroB)] := by rw [← hY2]; simp [Dk.push, Dk.does, h1p]
    rw [hY2] at e2 hA2
    rcases hA2.sync with ⟨_, e3⟩ | ⟨k3, hk3, e3, hA3⟩
    · have hF : formatF Y = (Y2.dies, 7) := by unfold formatF; rw [e1]; dsimp only; rw [if_pos rfl, e2]; dsimp only; rw [if_pos rfl, e3]
      exact ⟨_, _, hF, .inr ⟨rfl, by simp, by show Y2.pending.length ≤ 1000; rw [h2p]; decide, hcr _ hA2.ok.dies h2s (.inr (.inr h2p))⟩⟩
    obtain ⟨Y3, hY3⟩ : ∃ Y3, Y2.does.settle (fun _ => true) = Y3 := ⟨_, rfl⟩
    have h3p : Y3.pending = [] := by rw [← hY3]; rfl
    have h3s : Y3.safe = zeros64.set 0 (sbBlock sb0) := by
      rw [← hY3]
      show liveOn (fun _ => true) Y2.pending 0 Y2.safe = _
      rw [h2p, h2s]
      simp only [liveOn]
      exact zeros_set01 _
    rw [hY3] at e3 hA3
    have hF : formatF Y = (Y3, 0) := by unfold formatF; rw [e1]; dsimp only; rw [if_pos rfl, e2]; dsimp only; rw [if_pos rfl, e3]
    have hgo : GoesOn 1000000 Y3 := ⟨⟨hA3.armed, by rw [hA3.left]; omega, by rw [hA3.left]; omega⟩, h3p, hA3.dead⟩
    obtain ⟨k', hk', hX⟩ := hgo.back
    obtain ⟨hcu, hcp, hcl⟩ := crash_up hA3.ok []
    have hcs : (Y3.crash []).safe = zeros64.set 0 (sbBlock sb0) := by
      show liveOn (bitAt []) Y3.pending 0 Y3.safe = _
      rw [h3p, h3s]
      rfl
    exact ⟨_, _, hF, .inl ⟨rfl, Y3.crash [], some k', hX, zeros_lh hcu hcs hcp, by rw [hcs]; rfl, fun h => (by cases h), fun j hj => by cases hj; omega⟩⟩
attribute [local irreducible] J JL JE JM LS Y Fc RV Code.wp wpList Code.wpIn wpListIn
attribute [local irreducible] Yc
variable (E : World)
/-- A round is announced on a disk that may be armed. -/
theorem announce_lh {S : Sb} {D : Dk} {L : Lg} {last : BitVec 64} {a : Option Nat} (h : LH S D L) (hN : entryN L = some last) (hlast : last + 1#64 ≠ 0#64) (ha : ∀ k, a = some k → k ≤ 1000000) (ht : S.turn.toNat + 1 < 18446744073709551616) (h64 : 64 ≤ D.safe.length) :
    ∃ A La Sa X e, entryN A = some (last + 1#64) ∧ Kept2 S D L A a La Sa X e ∧ ∀ (x lg st d : Nat) (hops : Int) (got : Value) (l : List HProp),
      Fc prog E 66 [.pointer (some ⟨x, 0, none⟩), Q (last + 1#64)].toArray (entR x lg false last 0 hops got :: logm lg st L :: row st 224 (scells S d) :: disk d (D.armO a) :: l)
        (fun v l' => v = .int .i64 e ∧ l' = entR x lg (decide (¬ e = 0)) last 0 hops got :: logm lg st La :: row st 224 (scells Sa d) :: disk d X :: l) := by
  obtain ⟨b, hb⟩ : ∃ b, leB 8 (last + 1#64) = b := ⟨_, rfl⟩
  have hsm : Small b := by rw [← hb]; exact small_num _
  have hbl : b.length = 8 := by rw [← hb]; exact leB_length _ _
  have hh := h.holds.fits.hash
  have h2 : 2 ≤ (D.armO a).safe.length := by rw [armO_safe]; exact h.holds.fits.two
  have hpn : (D.armO a).pending.length ≤ 100000 := by rw [armO_pending, h.holds.none]; decide
  have hfew := h.few
  by_cases hroom : L.used + needN b.length ≤ D.slots
  · obtain ⟨La, X, e, eA, hK⟩ := append_kept h hsm ha hroom rfl
    have he : e ≠ 6 := by rcases hK.out with ⟨h, _⟩ | ⟨h, _⟩ <;> omega
    refine ⟨_, La, S, X, e, by have q := entryN_snoc hN hlast (L.used + needN b.length); rwa [hb] at q, hK, fun x lg st d hops got l => ?_⟩
    refine keep_one E x lg false last 0 hops got l st d S (D.armO a) X L La (last + 1#64) e he fun p c l hin => ?_
    rw [hb] at hin
    have q := lappend_spec E lg st d L S (D.armO a) l hh h2 b p c 8 hbl hsm hpn hfew hin
    rwa [eA] at q
  · have eA : appL L S (D.armO a) b = (L, D.armO a, 6) := by
      rw [appL, if_neg (by rw [h.whole]; simp), if_neg]
      cases a with
      | none => exact fun e => hroom ((roomB_iff h _).1 e)
      | some k => exact fun e => hroom ((roomB_iff h _).1 e)
    obtain ⟨La, Sa, X, e, eC, hK⟩ := check_kept (a := a) h hsm ha (by rw [hbl]; unfold Dk.half; omega) ht rfl
    refine ⟨_, La, Sa, X, e, by rw [← hb]; exact entryN_check _, hK, fun x lg st d hops got l => ?_⟩
    refine keep_two E x lg false last 0 hops got l st d S Sa (D.armO a) (D.armO a) X L L La (last + 1#64) e (fun p c l hin => ?_) fun p c l hin => ?_
    · rw [hb] at hin
      have q := lappend_spec E lg st d L S (D.armO a) l hh h2 b p c 8 hbl hsm hpn hfew hin
      rwa [eA] at q
    · rw [hb, ← hbl] at hin
      have q := lcheck_spec E lg st d L S (D.armO a) l hh h2 h.holds.fits.place hpn b p c hsm hin
      rwa [eC, hbl] at q
theorem eopen_lh (d : Nat) {S : Sb} {D : Dk} {L : Lg} (h : LH S D L) (h64 : 64 ≤ D.safe.length) (a : Option Nat) (l : List HProp) :
    Fc prog E 12 [.pointer (some ⟨d, 0, none⟩)].toArray (disk d (D.armO a) :: l) (eopenP d S (D.armO a) L l) :=
  eopen_spec E d S (D.armO a) (D.armO a) L (fun l => storeA_spec E d D S L.snap a l h.holds h64) (fun st l => lopenA_spec E st d S D L a l h) l
/-- An entry is opened on a disk that may be armed. -/
theorem eopen_cases {T : Nat} {D : Dk} {last : BitVec 64} {a : Option Nat} (h : ESt T D last) (ha : ∀ k, a = some k → k ≤ 1000000) :
    (∃ S D' L a', LH S D' L ∧ entryN L = some last ∧ S.turn.toNat ≤ T ∧ D'.safe.length = 64 ∧ (a = none → a' = none) ∧ (∀ k, a' = some k → k ≤ 1000000) ∧ ∀ d l, Fc prog E 12 [.pointer (some ⟨d, 0, none⟩)].toArray (disk d (D.armO a) :: l)
      (fun v l' => ∃ x lg st, v = .tuple #[.pointer (some ⟨x, 0, none⟩), .int .i64 0] ∧ l' = entR x lg false last 0 0 (.map none) :: logm lg st L :: row st 224 (scells S d) :: disk d (D'.armO a') :: l)) ∨
    (a ≠ none ∧ ∃ X : Dk, X.pending.length ≤ 1000 ∧ (∀ keep, ESt T (X.crash keep) last) ∧ ∀ d l, Fc prog E 12 [.pointer (some ⟨d, 0, none⟩)].toArray (disk d (D.armO a) :: l) (fun v l' => v = .tuple #[.pointer none, .int .i64 7] ∧ l' = disk d X :: l)) := by
  rcases h.out with ⟨hs, hl⟩ | ⟨S, L, hL, hN, ht⟩
  · subst hl
    obtain ⟨X, e, hF, hor⟩ := format_cases h.up h.none hs ha
    have hst : ∀ d l, Fc prog E 61 [.pointer (some ⟨d, 0, none⟩)].toArray (disk d (D.armO a) :: l) (fun v l' => (e = 0 ∧ ∃ st, v = .tuple #[.pointer (some ⟨st, 0, none⟩), .int .i64 0] ∧ l' = row st 224 (scells sb0 d) :: disk d X :: l) ∨ (¬ e = 0 ∧ v = .tuple #[.pointer none, .int .i64 e] ∧ l' = disk d X :: l)) := fun d l => by
      have q := storeF_spec E d (D.armO a) l (by rw [armO_safe, h.len]; decide) (by rw [armO_dead]; exact h.up.dead) (by rw [armO_pending, h.none]; decide) (by rw [armO_counts]; exact zeros_counts hs h.none)
      rwa [hF] at q
    rcases hor with ⟨rfl, D', a', rfl, hL, hl', hn, hb⟩ | ⟨rfl, hna, hf, hkp⟩
    · refine .inl ⟨sb0, D', lg0, a', hL, entryN_lg0, Nat.zero_le _, hl', hn, hb, fun d l => ?_⟩
      refine (eopen_spec E d sb0 (D.armO a) (D'.armO a') lg0 (fun l => (hst d l).mono fun v l' q => ?_) (fun st l => lopenA_spec E st d sb0 D' lg0 a' l hL) l).mono fun v l' q => ?_
      · rcases q with ⟨_, q⟩ | ⟨q, _⟩
        · exact q
        · exact absurd rfl q
      · rcases q with ⟨n, x, lg, st, e1, e2, e3⟩ | ⟨e1, _⟩
        · rw [entryN_lg0] at e1
          cases e1
          exact ⟨x, lg, st, e2, e3⟩
        · rw [entryN_lg0] at e1; cases e1
    · refine .inr ⟨hna, X, hf, fun keep => (hkp keep).mono (Nat.zero_le _), fun d l => ?_⟩
      refine eopen_err E d (D.armO a) X 7 (by decide) (fun l => (hst d l).mono fun v l' q => ?_) l
      rcases q with ⟨q, _⟩ | ⟨_, q⟩
      · exact absurd q (by decide)
      · exact q
  · refine .inl ⟨S, D, L, a, hL, hN, ht, h.len, fun h => h, ha, fun d l => (eopen_lh E d hL (by rw [h.len]; decide) a l).mono fun v l' q => ?_⟩
    rcases q with ⟨n, x, lg, st, e1, e2, e3⟩ | ⟨e1, _⟩
    · rw [hN] at e1
      cases e1
      exact ⟨x, lg, st, e2, e3⟩
    · rw [hN] at e1; cases e1
end Go.Proofs.YtimekohdlofmaaaGreat
/- The entry that is not there. -/
namespace Go.Proofs.YtimekohdlofmaaaGreat
open Go Go.SL
section
attribute [local irreducible] J JL JE JM LS Y Fc RV Code.wp wpList Code.wpIn wpListIn
attribute [local irreducible] Yc
variable (E : World)
theorem xopen_nil (l : List HProp) : Fc prog E 97 [.pointer none].toArray l (fun v l' => v = .tuple #[.pointer none, .int .i64 1] ∧ l' = l) := by
  refine Fc.of_body (c := ?codeC) Tryz.func97 ?hb Tryz.ntmps97 ?hl ?_
  case hb => exact rfl
  case hl => exact rfl
  refine J.seq ?_
  refine J.region ?_
  refine JL.step (y_assign rfl) rfl rfl rfl (JL.step (y_assign rfl) rfl rfl rfl ?_)
  refine JL.nil ?_
  refine JE.then_normal ?_
  refine J.seq ?_
  refine J.block ?_
  refine J.seq ?_
  refine J.region ?_
  refine JL.step (y_move rfl) rfl rfl rfl (JL.step (y_ptr_eq_nil hT rfl rfl rfl rfl) rfl rfl rfl (JL.step (y_assign rfl) rfl rfl rfl ?_))
  refine JL.nil ?_
  refine JE.then_normal ?_
  refine J.cond_t rfl (by (first | rfl | assumption | (simp; done) | (simp; omega))) ?_
  refine J.seq ?_
  refine J.region ?_
  refine JL.step (y_assign rfl) rfl rfl rfl (JL.step (y_assign rfl) rfl rfl rfl ?_)
  refine JL.nil ?_
  refine JE.then_normal ?_
  refine J.ret ?_
  refine JE.block_ret ?_
  refine JE.then_ret ?_
  refine JE.ret2 (.inl rfl) rfl rfl (by (first | exact RV.tmp rfl | exact RV.cell1 hT rfl rfl rfl (by (exact Rd1.row (by (repeat (first | exact Pick.head | apply Pick.tail | apply Pick.app))) (by rfl))) | exact RV.cellN hT rfl rfl rfl (by (first | exact RdN.rowAll (by (repeat (first | exact Pick.head | apply Pick.tail | apply Pick.app))) | exact RdN.own (by (repeat (first | exact Pick.head | apply Pick.tail | apply Pick.app))))) (by (first | rfl | assumption | (simp; done) | omega)))) (by (first | exact RV.tmp rfl | exact RV.cell1 hT rfl rfl rfl (by (exact Rd1.row (by (repeat (first | exact Pick.head | apply Pick.tail | apply Pick.app))) (by rfl))) | exact RV.cellN hT rfl rfl rfl (by (first | exact RdN.rowAll (by (repeat (first | exact Pick.head | apply Pick.tail | apply Pick.app))) | exact RdN.own (by (repeat (first | exact Pick.head | apply Pick.tail | apply Pick.app))))) (by (first | rfl | assumption | (simp; done) | omega)))) ?_
  exact ⟨rfl, rfl⟩
theorem estore_nil (l : List HProp) : Fc prog E 61 [.pointer none].toArray l (fun v l' => v = .tuple #[.pointer none, .int .i64 1] ∧ l' = l) := by
  refine Fc.of_body (c := ?codeC) Tryz.func61 ?hb Tryz.ntmps61 ?hl ?_
  case hb => exact rfl
  case hl => exact rfl
  refine J.seq ?_
  refine J.region ?_
  refine JL.step (y_assign rfl) rfl rfl rfl (JL.step (y_assign rfl) rfl rfl rfl ?_)
  refine JL.nil ?_
  refine JE.then_normal ?_
  refine J.seq ?_
  refine J.region ?_
  refine JL.step (y_move rfl) rfl rfl rfl ?_
  refine JL.loud rfl (l_callF e97 rfl rfl (xopen_nil E _) ?_)
  rintro _ _ ⟨rfl, rfl⟩
  refine JL.step (y_move rfl) rfl rfl rfl (JL.step (y_extract rfl rfl) rfl rfl rfl (JL.step (y_extract rfl rfl) rfl rfl rfl (JL.step (y_assign rfl) rfl rfl rfl (JL.step (y_assign rfl) rfl rfl rfl ?_))))
  refine JL.nil ?_
  refine JE.then_normal ?_
  refine J.seq ?_
  refine J.seq ?_
  refine J.region ?_
  refine JL.step (y_move rfl) rfl rfl rfl (JL.step (y_eql rfl rfl) rfl rfl rfl ?_)
  refine JL.nil ?_
  refine JE.then_normal ?_
  refine J.cond_f rfl (by (first | rfl | assumption | (simp; done) | (simp; omega))) ?_
  refine J.skip ?_
  refine JE.then_normal ?_
  refine J.seq ?_
  refine J.region ?_
  refine JL.step (y_move rfl) rfl rfl rfl (JL.step (y_move rfl) rfl rfl rfl (JL.step (y_assign rfl) rfl rfl rfl (JL.step (y_assign rfl) rfl rfl rfl ?_)))
  refine JL.nil ?_
  refine JE.then_normal ?_
  refine J.ret ?_
  refine JE.ret2 (.inl rfl) rfl rfl (by (first | exact RV.tmp rfl | exact RV.cell1 hT rfl rfl rfl (by (exact Rd1.row (by (repeat (first | exact Pick.head | apply Pick.tail | apply Pick.app))) (by rfl))) | exact RV.cellN hT rfl rfl rfl (by (first | exact RdN.rowAll (by (repeat (first | exact Pick.head | apply Pick.tail | apply Pick.app))) | exact RdN.own (by (repeat (first | exact Pick.head | apply Pick.tail | apply Pick.app))))) (by (first | rfl | assumption | (simp; done) | omega)))) (by (first | exact RV.tmp rfl | exact RV.cell1 hT rfl rfl rfl (by (exact Rd1.row (by (repeat (first | exact Pick.head | apply Pick.tail | apply Pick.app))) (by rfl))) | exact RV.cellN hT rfl rfl rfl (by (first | exact RdN.rowAll (by (repeat (first | exact Pick.head | apply Pick.tail | apply Pick.app))) | exact RdN.own (by (repeat (first | exact Pick.head | apply Pick.tail | apply Pick.app))))) (by (first | rfl | assumption | (simp; done) | omega)))) ?_
  exact ⟨rfl, rfl⟩
theorem eopen_nil (l : List HProp) : Fc prog E 12 [.pointer none].toArray l (fun v l' => v = .tuple #[.pointer none, .int .i64 1] ∧ l' = l) := by
  refine Fc.eqs ?_
  refine Fc.of_bodyM (c := ?codeC) Tryz.func12 ?hb Tryz.ntmps12 ?hl ?_
  case hb => exact rfl
  case hl => exact rfl
  refine J.seq ?_
  refine J.region ?_
  refine JL.step (y_assign rfl) rfl rfl rfl (JL.step (y_assign rfl) rfl rfl rfl ?_)
  refine JL.nil ?_
  refine JE.then_normal ?_
  refine J.scope ?_
  refine J.seq ?_
  refine J.region ?_
  refine JL.step (y_move rfl) rfl rfl rfl ?_
  refine JL.loud rfl (l_callF e61 rfl rfl (estore_nil E _) ?_)
  rintro _ _ ⟨rfl, rfl⟩
  refine JL.step (y_move rfl) rfl rfl rfl (JL.step (y_extract rfl rfl) rfl rfl rfl (JL.step (y_extract rfl rfl) rfl rfl rfl (JL.step (y_assign rfl) rfl rfl rfl (JL.step (y_assign rfl) rfl rfl rfl ?_))))
  refine JL.nil ?_
  refine JE.then_normal ?_
  refine J.seq ?_
  refine J.seq ?_
  refine J.region ?_
  refine JL.step (y_move rfl) rfl rfl rfl (JL.step (y_neq rfl rfl) rfl rfl rfl ?_)
  refine JL.nil ?_
  refine JE.then_normal ?_
  refine J.cond_t rfl (by (first | rfl | assumption | (simp; done) | (simp; omega))) ?_
  refine J.seq ?_
  refine J.region ?_
  refine JL.step (y_move rfl) rfl rfl rfl (JL.step (y_assign rfl) rfl rfl rfl (JL.step (y_assign rfl) rfl rfl rfl ?_))
  refine JL.nil ?_
  refine JE.then_normal ?_
  refine J.ret ?_
  refine JE.then_ret ?_
  refine JE.scope_ret ?_
  first | refine JE.unmark (.inl rfl) rfl (by (repeat (first | exact Pick.head | apply Pick.tail | apply Pick.app))) ?_ | refine JE.nomark (.inl rfl) rfl ?_
  refine JE.ret2 (.inl rfl) rfl rfl (by (first | exact RV.tmp rfl | exact RV.cell1 hT rfl rfl rfl (by (exact Rd1.row (by (repeat (first | exact Pick.head | apply Pick.tail | apply Pick.app))) (by rfl))) | exact RV.cellN hT rfl rfl rfl (by (first | exact RdN.rowAll (by (repeat (first | exact Pick.head | apply Pick.tail | apply Pick.app))) | exact RdN.own (by (repeat (first | exact Pick.head | apply Pick.tail | apply Pick.app))))) (by (first | rfl | assumption | (simp; done) | omega)))) (by (first | exact RV.tmp rfl | exact RV.cell1 hT rfl rfl rfl (by (exact Rd1.row (by (repeat (first | exact Pick.head | apply Pick.tail | apply Pick.app))) (by rfl))) | exact RV.cellN hT rfl rfl rfl (by (first | exact RdN.rowAll (by (repeat (first | exact Pick.head | apply Pick.tail | apply Pick.app))) | exact RdN.own (by (repeat (first | exact Pick.head | apply Pick.tail | apply Pick.app))))) (by (first | rfl | assumption | (simp; done) | omega)))) ?_
  exact ⟨rfl, fun w q => q.sup (by (repeat (first | exact Sup.refl | apply Sup.cons (by (repeat (first | exact Pick.head | apply Pick.tail | apply Pick.app))) | apply Sup.app | apply Sup.skip | apply Sup.skips)))⟩
theorem eannounce_nil (h : Value) (l : List HProp) : Fc prog E 13 [.pointer none, h].toArray l (fun v l' => v = .tuple #[.agg #[.int .u64 0, .slice none 0 0], .int .i64 1] ∧ l' = l) := by
  refine Fc.eqs ?_
  refine Fc.of_body (c := ?codeC) Tryz.func13 ?hb Tryz.ntmps13 ?hl ?_
  case hb => exact rfl
  case hl => exact rfl
  refine J.seq ?_
  refine J.region ?_
  refine JL.loud rfl (l_alloc hT rfl rfl (by (first | rfl | simp)) rfl (fun b1 => ?_))
  refine JL.step (y_assign rfl) rfl rfl rfl ?_
  refine JL.nil ?_
  refine JE.then_normal ?_
  refine J.seq ?_
  refine J.block ?_
  refine J.seq ?_
  refine J.region ?_
  refine JL.step (y_move rfl) rfl rfl rfl (JL.step (y_ptr_eq_nil hT rfl rfl rfl rfl) rfl rfl rfl (JL.step (y_assign rfl) rfl rfl rfl ?_))
  refine JL.nil ?_
  refine JE.then_normal ?_
  refine J.cond_t rfl (by (first | rfl | assumption | (simp; done) | (simp; omega))) ?_
  refine J.seq ?_
  refine J.region ?_
  refine JL.step (y_build (cs := [_, _]) hT rfl rfl rfl rfl rfl rfl trivial rfl) rfl rfl rfl ?_
  refine JL.loud rfl (l_storeAll hT rfl rfl rfl (by (first | rfl | assumption | (simp; done) | omega)) (by (first | assumption | exact ones_of rfl | exact encW_one _ | exact encB_one _ | (intro u hu; simp at hu; rcases hu with rfl | rfl <;> rfl) | (intro u hu; simp at hu; subst hu; rfl) | simp)) (by (repeat (first | exact Pick.head | apply Pick.tail | apply Pick.app))) (by (first | rfl | assumption | (simp; done) | omega)) ?_)
  refine JL.step (y_assign rfl) rfl rfl rfl ?_
  refine JL.nil ?_
  refine JE.then_normal ?_
  refine J.ret ?_
  refine JE.block_ret ?_
  refine JE.then_ret ?_
  refine JE.ret2 (.inl rfl) rfl rfl (by (first | exact RV.tmp rfl | exact RV.cell1 hT rfl rfl rfl (by (exact Rd1.row (by (repeat (first | exact Pick.head | apply Pick.tail | apply Pick.app))) (by rfl))) | exact RV.cellN hT rfl rfl rfl (by (first | exact RdN.rowAll (by (repeat (first | exact Pick.head | apply Pick.tail | apply Pick.app))) | exact RdN.own (by (repeat (first | exact Pick.head | apply Pick.tail | apply Pick.app))))) (by (first | rfl | assumption | (simp; done) | omega)))) (by (first | exact RV.tmp rfl | exact RV.cell1 hT rfl rfl rfl (by (exact Rd1.row (by (repeat (first | exact Pick.head | apply Pick.tail | apply Pick.app))) (by rfl))) | exact RV.cellN hT rfl rfl rfl (by (first | exact RdN.rowAll (by (repeat (first | exact Pick.head | apply Pick.tail | apply Pick.app))) | exact RdN.own (by (repeat (first | exact Pick.head | apply Pick.tail | apply Pick.app))))) (by (first | rfl | assumption | (simp; done) | omega)))) ?_
  exact ⟨rfl, fun w q => q.sup (by (repeat (first | exact Sup.refl | apply Sup.cons (by (repeat (first | exact Pick.head | apply Pick.tail | apply Pick.app))) | apply Sup.app | apply Sup.skip | apply Sup.skips)))⟩
theorem eclose_nil (l : List HProp) : Fc prog E 15 [.pointer none].toArray l (fun v l' => v = .tuple #[.slice none 0 0, .int .i64 1] ∧ l' = l) := by
  refine Fc.eqs ?_
  refine Fc.of_body (c := ?codeC) Tryz.func15 ?hb Tryz.ntmps15 ?hl ?_
  case hb => exact rfl
  case hl => exact rfl
  refine J.seq ?_
  refine J.region ?_
  refine JL.step (y_assign rfl) rfl rfl rfl (JL.step (y_assign rfl) rfl rfl rfl ?_)
  refine JL.nil ?_
  refine JE.then_normal ?_
  refine J.seq ?_
  refine J.block ?_
  refine J.seq ?_
  refine J.region ?_
  refine JL.step (y_move rfl) rfl rfl rfl (JL.step (y_ptr_eq_nil hT rfl rfl rfl rfl) rfl rfl rfl (JL.step (y_assign rfl) rfl rfl rfl ?_))
  refine JL.nil ?_
  refine JE.then_normal ?_
  refine J.cond_t rfl (by (first | rfl | assumption | (simp; done) | (simp; omega))) ?_
  refine J.seq ?_
  refine J.region ?_
  refine JL.step (y_assign rfl) rfl rfl rfl (JL.step (y_assign rfl) rfl rfl rfl ?_)
  refine JL.nil ?_
  refine JE.then_normal ?_
  refine J.ret ?_
  refine JE.block_ret ?_
  refine JE.then_ret ?_
  refine JE.ret2 (.inl rfl) rfl rfl (by (first | exact RV.tmp rfl | exact RV.cell1 hT rfl rfl rfl (by (exact Rd1.row (by (repeat (first | exact Pick.head | apply Pick.tail | apply Pick.app))) (by rfl))) | exact RV.cellN hT rfl rfl rfl (by (first | exact RdN.rowAll (by (repeat (first | exact Pick.head | apply Pick.tail | apply Pick.app))) | exact RdN.own (by (repeat (first | exact Pick.head | apply Pick.tail | apply Pick.app))))) (by (first | rfl | assumption | (simp; done) | omega)))) (by (first | exact RV.tmp rfl | exact RV.cell1 hT rfl rfl rfl (by (exact Rd1.row (by (repeat (first | exact Pick.head | apply Pick.tail | apply Pick.app))) (by rfl))) | exact RV.cellN hT rfl rfl rfl (by (first | exact RdN.rowAll (by (repeat (first | exact Pick.head | apply Pick.tail | apply Pick.app))) | exact RdN.own (by (repeat (first | exact Pick.head | apply Pick.tail | apply Pick.app))))) (by (first | rfl | assumption | (simp; done) | omega)))) ?_
  exact ⟨rfl, fun w q => q.sup (by (repeat (first | exact Sup.refl | apply Sup.cons (by (repeat (first | exact Pick.head | apply Pick.tail | apply Pick.app))) | apply Sup.app | apply Sup.skip | apply Sup.skips)))⟩
theorem efan_nil (h : Value) (l : List HProp) : Fc prog E 16 [.pointer none, h].toArray l (fun v l' => v = .tuple #[.slice none 0 0, .int .i64 1] ∧ l' = l) := by
  refine Fc.eqs ?_
  refine Fc.of_body (c := ?codeC) Tryz.func16 ?hb Tryz.ntmps16 ?hl ?_
  case hb => exact rfl
  case hl => exact rfl
  refine J.seq ?_
  refine J.region ?_
  refine JL.step (y_assign rfl) rfl rfl rfl (JL.step (y_assign rfl) rfl rfl rfl ?_)
  refine JL.nil ?_
  refine JE.then_normal ?_
  refine J.seq ?_
  refine J.block ?_
  refine J.seq ?_
  refine J.region ?_
  refine JL.step (y_move rfl) rfl rfl rfl (JL.step (y_ptr_eq_nil hT rfl rfl rfl rfl) rfl rfl rfl (JL.step (y_assign rfl) rfl rfl rfl ?_))
  refine JL.nil ?_
  refine JE.then_normal ?_
  refine J.cond_t rfl (by (first | rfl | assumption | (simp; done) | (simp; omega))) ?_
  refine J.seq ?_
  refine J.region ?_
  refine JL.step (y_assign rfl) rfl rfl rfl (JL.step (y_assign rfl) rfl rfl rfl ?_)
  refine JL.nil ?_
  refine JE.then_normal ?_
  refine J.ret ?_
  refine JE.block_ret ?_
  refine JE.then_ret ?_
  refine JE.ret2 (.inl rfl) rfl rfl (by (first | exact RV.tmp rfl | exact RV.cell1 hT rfl rfl rfl (by (exact Rd1.row (by (repeat (first | exact Pick.head | apply Pick.tail | apply Pick.app))) (by rfl))) | exact RV.cellN hT rfl rfl rfl (by (first | exact RdN.rowAll (by (repeat (first | exact Pick.head | apply Pick.tail | apply Pick.app))) | exact RdN.own (by (repeat (first | exact Pick.head | apply Pick.tail | apply Pick.app))))) (by (first | rfl | assumption | (simp; done) | omega)))) (by (first | exact RV.tmp rfl | exact RV.cell1 hT rfl rfl rfl (by (exact Rd1.row (by (repeat (first | exact Pick.head | apply Pick.tail | apply Pick.app))) (by rfl))) | exact RV.cellN hT rfl rfl rfl (by (first | exact RdN.rowAll (by (repeat (first | exact Pick.head | apply Pick.tail | apply Pick.app))) | exact RdN.own (by (repeat (first | exact Pick.head | apply Pick.tail | apply Pick.app))))) (by (first | rfl | assumption | (simp; done) | omega)))) ?_
  exact ⟨rfl, fun w q => q.sup (by (repeat (first | exact Sup.refl | apply Sup.cons (by (repeat (first | exact Pick.head | apply Pick.tail | apply Pick.app))) | apply Sup.app | apply Sup.skip | apply Sup.skips)))⟩
theorem ecollect_nil (h : Value) (l : List HProp) : Fc prog E 20 [.pointer none, h].toArray l (fun v l' => v = .int .i64 1 ∧ l' = l) := by
  refine Fc.eqs ?_
  refine Fc.of_body (c := ?codeC) Tryz.func20 ?hb Tryz.ntmps20 ?hl ?_
  case hb => exact rfl
  case hl => exact rfl
  refine J.seq ?_
  refine J.region ?_
  refine JL.step (y_assign rfl) rfl rfl rfl ?_
  refine JL.nil ?_
  refine JE.then_normal ?_
  refine J.seq ?_
  refine J.block ?_
  refine J.seq ?_
  refine J.region ?_
  refine JL.step (y_move rfl) rfl rfl rfl (JL.step (y_ptr_eq_nil hT rfl rfl rfl rfl) rfl rfl rfl (JL.step (y_assign rfl) rfl rfl rfl ?_))
  refine JL.nil ?_
  refine JE.then_normal ?_
  refine J.cond_t rfl (by (first | rfl | assumption | (simp; done) | (simp; omega))) ?_
  refine J.seq ?_
  refine J.region ?_
  refine JL.step (y_assign rfl) rfl rfl rfl ?_
  refine JL.nil ?_
  refine JE.then_normal ?_
  refine J.ret ?_
  refine JE.block_ret ?_
  refine JE.then_ret ?_
  refine JE.ret1 (.inl rfl) rfl rfl (by (first | exact RV.tmp rfl | exact RV.cell1 hT rfl rfl rfl (by (exact Rd1.row (by (repeat (first | exact Pick.head | apply Pick.tail | apply Pick.app))) (by rfl))) | exact RV.cellN hT rfl rfl rfl (by (first | exact RdN.rowAll (by (repeat (first | exact Pick.head | apply Pick.tail | apply Pick.app))) | exact RdN.own (by (repeat (first | exact Pick.head | apply Pick.tail | apply Pick.app))))) (by (first | rfl | assumption | (simp; done) | omega)))) ?_
  exact ⟨rfl, fun w q => q.sup (by (repeat (first | exact Sup.refl | apply Sup.cons (by (repeat (first | exact Pick.head | apply Pick.tail | apply Pick.app))) | apply Sup.app | apply Sup.skip | apply Sup.skips)))⟩
theorem eabort_nil (l : List HProp) : Fc prog E 21 [.pointer none].toArray l (fun v l' => v = .int .i64 1 ∧ l' = l) := by
  refine Fc.eqs ?_
  refine Fc.of_body (c := ?codeC) Tryz.func21 ?hb Tryz.ntmps21 ?hl ?_
  case hb => exact rfl
  case hl => exact rfl
  refine J.seq ?_
  refine J.region ?_
  refine JL.step (y_assign rfl) rfl rfl rfl ?_
  refine JL.nil ?_
  refine JE.then_normal ?_
  refine J.seq ?_
  refine J.block ?_
  refine J.seq ?_
  refine J.region ?_
  refine JL.step (y_move rfl) rfl rfl rfl (JL.step (y_ptr_eq_nil hT rfl rfl rfl rfl) rfl rfl rfl (JL.step (y_assign rfl) rfl rfl rfl ?_))
  refine JL.nil ?_
  refine JE.then_normal ?_
  refine J.cond_t rfl (by (first | rfl | assumption | (simp; done) | (simp; omega))) ?_
  refine J.seq ?_
  refine J.region ?_
  refine JL.step (y_assign rfl) rfl rfl rfl ?_
  refine JL.nil ?_
  refine JE.then_normal ?_
  refine J.ret ?_
  refine JE.block_ret ?_
  refine JE.then_ret ?_
  refine JE.ret1 (.inl rfl) rfl rfl (by (first | exact RV.tmp rfl | exact RV.cell1 hT rfl rfl rfl (by (exact Rd1.row (by (repeat (first | exact Pick.head | apply Pick.tail | apply Pick.app))) (by rfl))) | exact RV.cellN hT rfl rfl rfl (by (first | exact RdN.rowAll (by (repeat (first | exact Pick.head | apply Pick.tail | apply Pick.app))) | exact RdN.own (by (repeat (first | exact Pick.head | apply Pick.tail | apply Pick.app))))) (by (first | rfl | assumption | (simp; done) | omega)))) ?_
  exact ⟨rfl, fun w q => q.sup (by (repeat (first | exact Sup.refl | apply Sup.cons (by (repeat (first | exact Pick.head | apply Pick.tail | apply Pick.app))) | apply Sup.app | apply Sup.skip | apply Sup.skips)))⟩
theorem eround_nil (l : List HProp) : Fc prog E 17 [.pointer none].toArray l (fun v l' => v = .int .u64 0 ∧ l' = l) := by
  refine Fc.of_body (c := ?codeC) Tryz.func17 ?hb Tryz.ntmps17 ?hl ?_
  case hb => exact rfl
  case hl => exact rfl
  refine J.seq ?_
  refine J.region ?_
  refine JL.step (y_assign rfl) rfl rfl rfl ?_
  refine JL.nil ?_
  refine JE.then_normal ?_
  refine J.seq ?_
  refine J.seq ?_
  refine J.region ?_
  refine JL.step (y_move rfl) rfl rfl rfl (JL.step (y_ptr_eq_nil hT rfl rfl rfl rfl) rfl rfl rfl ?_)
  refine JL.nil ?_
  refine JE.then_normal ?_
  refine J.cond_t rfl (by (first | rfl | assumption | (simp; done) | (simp; omega))) ?_
  refine J.seq ?_
  refine J.region ?_
  refine JL.step (y_assign rfl) rfl rfl rfl ?_
  refine JL.nil ?_
  refine JE.then_normal ?_
  refine J.ret ?_
  refine JE.then_ret ?_
  refine JE.ret1 (.inl rfl) rfl rfl (by (first | exact RV.tmp rfl | exact RV.cell1 hT rfl rfl rfl (by (exact Rd1.row (by (repeat (first | exact Pick.head | apply Pick.tail | apply Pick.app))) (by rfl))) | exact RV.cellN hT rfl rfl rfl (by (first | exact RdN.rowAll (by (repeat (first | exact Pick.head | apply Pick.tail | apply Pick.app))) | exact RdN.own (by (repeat (first | exact Pick.head | apply Pick.tail | apply Pick.app))))) (by (first | rfl | assumption | (simp; done) | omega)))) ?_
  exact ⟨rfl, rfl⟩
theorem ephase_nil (l : List HProp) : Fc prog E 18 [.pointer none].toArray l (fun v l' => v = .int .i64 0 ∧ l' = l) := by
  refine Fc.of_body (c := ?codeC) Tryz.func18 ?hb Tryz.ntmps18 ?hl ?_
  case hb => exact rfl
  case hl => exact rfl
  refine J.seq ?_
  refine J.region ?_
  refine JL.step (y_assign rfl) rfl rfl rfl ?_
  refine JL.nil ?_
  refine JE.then_normal ?_
  refine J.seq ?_
  refine J.seq ?_
  refine J.region ?_
  refine JL.step (y_move rfl) rfl rfl rfl (JL.step (y_ptr_eq_nil hT rfl rfl rfl rfl) rfl rfl rfl ?_)
  refine JL.nil ?_
  refine JE.then_normal ?_
  refine J.cond_t rfl (by (first | rfl | assumption | (simp; done) | (simp; omega))) ?_
  refine J.seq ?_
  refine J.region ?_
  refine JL.step (y_assign rfl) rfl rfl rfl ?_
  refine JL.nil ?_
  refine JE.then_normal ?_
  refine J.ret ?_
  refine JE.then_ret ?_
  refine JE.ret1 (.inl rfl) rfl rfl (by (first | exact RV.tmp rfl | exact RV.cell1 hT rfl rfl rfl (by (exact Rd1.row (by (repeat (first | exact Pick.head | apply Pick.tail | apply Pick.app))) (by rfl))) | exact RV.cellN hT rfl rfl rfl (by (first | exact RdN.rowAll (by (repeat (first | exact Pick.head | apply Pick.tail | apply Pick.app))) | exact RdN.own (by (repeat (first | exact Pick.head | apply Pick.tail | apply Pick.app))))) (by (first | rfl | assumption | (simp; done) | omega)))) ?_
  exact ⟨rfl, rfl⟩
theorem ecount_nil (l : List HProp) : Fc prog E 19 [.pointer none].toArray l (fun v l' => v = .int .i64 0 ∧ l' = l) := by
  refine Fc.of_body (c := ?codeC) Tryz.func19 ?hb Tryz.ntmps19 ?hl ?_
  case hb => exact rfl
  case hl => exact rfl
  refine J.seq ?_
  refine J.region ?_
  refine JL.step (y_assign rfl) rfl rfl rfl ?_
  refine JL.nil ?_
  refine JE.then_normal ?_
  refine J.seq ?_
  refine J.seq ?_
  refine J.region ?_
  refine JL.step (y_move rfl) rfl rfl rfl (JL.step (y_ptr_eq_nil hT rfl rfl rfl rfl) rfl rfl rfl ?_)
  refine JL.nil ?_
  refine JE.then_normal ?_
  refine J.cond_t rfl (by (first | rfl | assumption | (simp; done) | (simp; omega))) ?_
  refine J.seq ?_
  refine J.region ?_
  refine JL.step (y_assign rfl) rfl rfl rfl ?_
  refine JL.nil ?_
  refine JE.then_normal ?_
  refine J.ret ?_
  refine JE.then_ret ?_
  refine JE.ret1 (.inl rfl) rfl rfl (by (first | exact RV.tmp rfl | exact RV.cell1 hT rfl rfl rfl (by (exact Rd1.row (by (repeat (first | exact Pick.head | apply Pick.tail | apply Pick.app))) (by rfl))) | exact RV.cellN hT rfl rfl rfl (by (first | exact RdN.rowAll (by (repeat (first | exact Pick.head | apply Pick.tail | apply Pick.app))) | exact RdN.own (by (repeat (first | exact Pick.head | apply Pick.tail | apply Pick.app))))) (by (first | rfl | assumption | (simp; done) | omega)))) ?_
  exact ⟨rfl, rfl⟩
end
