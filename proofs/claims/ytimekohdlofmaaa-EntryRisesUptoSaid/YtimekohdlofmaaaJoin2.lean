import Derived.Test.YtimekohdlofmaaaProg
import Derived.KernelRfl
import Derived.Test.YtimekohdlofmaaaRows
import Derived.Test.YtimekohdlofmaaaJoin1
namespace Go.Proofs.Ytimekohdlofmaaa
open Go Go.SL
noncomputable abbrev prog : Program := Try.prog
/-- Follows: the orders mixed. -/
theorem mixed : prog.follows .mixedOrders = true := by kernel_rfl
def i3 : TI := ⟨.int .i64, 1, 8, some (Value.int .i64 0)⟩
theorem u3 : prog.underlying 3 = some i3.u := by kernel_rfl
theorem z3 : (prog.info? 3).map (fun j => (j.size, j.bytes, j.zero)) = some (i3.size, i3.bytes, i3.zero) := by kernel_rfl
def i22 : TI := ⟨.slice 5, 1, 24, some (Value.slice none 0 0)⟩
theorem u22 : prog.underlying 22 = some i22.u := by kernel_rfl
theorem z22 : (prog.info? 22).map (fun j => (j.size, j.bytes, j.zero)) = some (i22.size, i22.bytes, i22.zero) := by kernel_rfl
def i100 : TI := ⟨.int .u32, 1, 4, some (Value.int .u32 0)⟩
theorem u100 : prog.underlying 100 = some i100.u := by kernel_rfl
theorem z100 : (prog.info? 100).map (fun j => (j.size, j.bytes, j.zero)) = some (i100.size, i100.bytes, i100.zero) := by kernel_rfl
def i26 : TI := ⟨.int .i64, 1, 8, some (Value.int .i64 0)⟩
theorem u26 : prog.underlying 26 = some i26.u := by kernel_rfl
theorem z26 : (prog.info? 26).map (fun j => (j.size, j.bytes, j.zero)) = some (i26.size, i26.bytes, i26.zero) := by kernel_rfl
def i71 : TI := ⟨.array 64 5, 64, 64, some (.agg (List.replicate 64 (Value.int .u8 0)).toArray)⟩
theorem u71 : prog.underlying 71 = some i71.u := by kernel_rfl
theorem z71 : (prog.info? 71).map (fun j => (j.size, j.bytes, j.zero)) = some (i71.size, i71.bytes, i71.zero) := by kernel_rfl
def i36 : TI := ⟨.int .u64, 1, 8, some (Value.int .u64 0)⟩
theorem u36 : prog.underlying 36 = some i36.u := by kernel_rfl
theorem z36 : (prog.info? 36).map (fun j => (j.size, j.bytes, j.zero)) = some (i36.size, i36.bytes, i36.zero) := by kernel_rfl
def i68 : TI := ⟨.struct #[⟨ "place", 3, 0, false, "", "hollowtree/extent", 0⟩, ⟨ "turn", 36, 1, false, "", "hollowtree/extent", 8⟩, ⟨ "size", 3, 2, false, "", "hollowtree/extent", 16⟩, ⟨ "hash", 65, 3, false, "", "hollowtree/extent", 24⟩], 19, 40, some (.agg (([Value.int .i64 0] ++ [Value.int .u64 0] ++ [Value.int .i64 0] ++ List.replicate 16 (Value.int .u8 0))).toArray)⟩
theorem u68 : prog.underlying 68 = some i68.u := by kernel_rfl
theorem z68 : (prog.info? 68).map (fun j => (j.size, j.bytes, j.zero)) = some (i68.size, i68.bytes, i68.zero) := by kernel_rfl
def i5 : TI := ⟨.int .u8, 1, 1, some (Value.int .u8 0)⟩
theorem u5 : prog.underlying 5 = some i5.u := by kernel_rfl
theorem z5 : (prog.info? 5).map (fun j => (j.size, j.bytes, j.zero)) = some (i5.size, i5.bytes, i5.zero) := by kernel_rfl
def i78 : TI := ⟨.struct #[⟨ "Store", 29, 0, true, "", "", 0⟩, ⟨ "snapshot", 22, 1, false, "", "hollowtree/wal", 8⟩, ⟨ "txs", 23, 2, false, "", "hollowtree/wal", 32⟩, ⟨ "used", 3, 3, false, "", "hollowtree/wal", 56⟩, ⟨ "broken", 4, 4, false, "", "hollowtree/wal", 64⟩], 5, 72, some (.agg (([Value.pointer none] ++ [Value.slice none 0 0] ++ [Value.slice none 0 0] ++ [Value.int .i64 0] ++ [Value.bool false])).toArray)⟩
theorem u78 : prog.underlying 78 = some i78.u := by kernel_rfl
theorem z78 : (prog.info? 78).map (fun j => (j.size, j.bytes, j.zero)) = some (i78.size, i78.bytes, i78.zero) := by kernel_rfl
def i45 : TI := ⟨.struct #[⟨ "Round", 36, 0, false, "", "", 0⟩, ⟨ "Hops", 43, 1, false, "", "", 8⟩], 2, 32, some (.agg (([Value.int .u64 0] ++ [Value.slice none 0 0])).toArray)⟩
theorem u45 : prog.underlying 45 = some i45.u := by kernel_rfl
theorem z45 : (prog.info? 45).map (fun j => (j.size, j.bytes, j.zero)) = some (i45.size, i45.bytes, i45.zero) := by kernel_rfl
def i74 : TI := ⟨.struct #[⟨ "super", 68, 0, true, "", "hollowtree/extent", 0⟩, ⟨ "disk", 25, 19, false, "", "hollowtree/extent", 40⟩], 20, 48, some (.agg ((([Value.int .i64 0] ++ [Value.int .u64 0] ++ [Value.int .i64 0] ++ List.replicate 16 (Value.int .u8 0)) ++ [Value.pointer none])).toArray)⟩
theorem u74 : prog.underlying 74 = some i74.u := by kernel_rfl
theorem z74 : (prog.info? 74).map (fun j => (j.size, j.bytes, j.zero)) = some (i74.size, i74.bytes, i74.zero) := by kernel_rfl
def i25 : TI := ⟨.pointer 64, 1, 8, some (Value.pointer none)⟩
theorem u25 : prog.underlying 25 = some i25.u := by kernel_rfl
theorem z25 : (prog.info? 25).map (fun j => (j.size, j.bytes, j.zero)) = some (i25.size, i25.bytes, i25.zero) := by kernel_rfl
def i60 : TI := ⟨.array 32 5, 32, 32, some (.agg (List.replicate 32 (Value.int .u8 0)).toArray)⟩
theorem u60 : prog.underlying 60 = some i60.u := by kernel_rfl
theorem z60 : (prog.info? 60).map (fun j => (j.size, j.bytes, j.zero)) = some (i60.size, i60.bytes, i60.zero) := by kernel_rfl
def i135 : TI := ⟨.struct #[⟨ "state", 133, 0, false, "", "hollowtree/sha", 0⟩, ⟨ "k", 131, 8, false, "", "hollowtree/sha", 32⟩, ⟨ "rest", 70, 9, false, "", "hollowtree/sha", 56⟩, ⟨ "n", 3, 73, false, "", "hollowtree/sha", 120⟩], 74, 128, some (.agg ((List.replicate 8 (Value.int .u32 0) ++ [Value.slice none 0 0] ++ List.replicate 64 (Value.int .u8 0) ++ [Value.int .i64 0])).toArray)⟩
theorem u135 : prog.underlying 135 = some i135.u := by kernel_rfl
theorem z135 : (prog.info? 135).map (fun j => (j.size, j.bytes, j.zero)) = some (i135.size, i135.bytes, i135.zero) := by kernel_rfl
def i64 : TI := ⟨.struct #[⟨ "safe", 61, 0, false, "", "hollowtree/disk", 0⟩, ⟨ "pending", 62, 1, false, "", "hollowtree/disk", 24⟩, ⟨ "dead", 4, 2, false, "", "hollowtree/disk", 48⟩, ⟨ "armed", 4, 3, false, "", "hollowtree/disk", 49⟩, ⟨ "left", 3, 4, false, "", "hollowtree/disk", 56⟩, ⟨ "ops", 3, 5, false, "", "hollowtree/disk", 64⟩], 6, 72, some (.agg (([Value.slice none 0 0] ++ [Value.slice none 0 0] ++ [Value.bool false] ++ [Value.bool false] ++ [Value.int .i64 0] ++ [Value.int .i64 0])).toArray)⟩
theorem u64 : prog.underlying 64 = some i64.u := by kernel_rfl
theorem z64 : (prog.info? 64).map (fun j => (j.size, j.bytes, j.zero)) = some (i64.size, i64.bytes, i64.zero) := by kernel_rfl
def i85 : TI := ⟨.struct #[⟨ "log", 32, 0, false, "", "hollowtree/entry", 0⟩, ⟨ "broken", 4, 1, false, "", "hollowtree/entry", 8⟩, ⟨ "last", 36, 2, false, "", "hollowtree/entry", 16⟩, ⟨ "phase", 3, 3, false, "", "hollowtree/entry", 24⟩, ⟨ "hops", 3, 4, false, "", "hollowtree/entry", 32⟩, ⟨ "got", 83, 5, false, "", "hollowtree/entry", 40⟩], 6, 48, some (.agg (([Value.pointer none] ++ [Value.bool false] ++ [Value.int .u64 0] ++ [Value.int .i64 0] ++ [Value.int .i64 0] ++ [Value.map none])).toArray)⟩
theorem u85 : prog.underlying 85 = some i85.u := by kernel_rfl
theorem z85 : (prog.info? 85).map (fun j => (j.size, j.bytes, j.zero)) = some (i85.size, i85.bytes, i85.zero) := by kernel_rfl
def i23 : TI := ⟨.slice 22, 1, 24, some (Value.slice none 0 0)⟩
theorem u23 : prog.underlying 23 = some i23.u := by kernel_rfl
theorem z23 : (prog.info? 23).map (fun j => (j.size, j.bytes, j.zero)) = some (i23.size, i23.bytes, i23.zero) := by kernel_rfl
def i29 : TI := ⟨.pointer 74, 1, 8, some (Value.pointer none)⟩
theorem u29 : prog.underlying 29 = some i29.u := by kernel_rfl
theorem z29 : (prog.info? 29).map (fun j => (j.size, j.bytes, j.zero)) = some (i29.size, i29.bytes, i29.zero) := by kernel_rfl
def i61 : TI := ⟨.slice 71, 1, 24, some (Value.slice none 0 0)⟩
theorem u61 : prog.underlying 61 = some i61.u := by kernel_rfl
theorem z61 : (prog.info? 61).map (fun j => (j.size, j.bytes, j.zero)) = some (i61.size, i61.bytes, i61.zero) := by kernel_rfl
def i4 : TI := ⟨.bool, 1, 1, some (Value.bool false)⟩
theorem u4 : prog.underlying 4 = some i4.u := by kernel_rfl
theorem z4 : (prog.info? 4).map (fun j => (j.size, j.bytes, j.zero)) = some (i4.size, i4.bytes, i4.zero) := by kernel_rfl
def i62 : TI := ⟨.slice 96, 1, 24, some (Value.slice none 0 0)⟩
theorem u62 : prog.underlying 62 = some i62.u := by kernel_rfl
theorem z62 : (prog.info? 62).map (fun j => (j.size, j.bytes, j.zero)) = some (i62.size, i62.bytes, i62.zero) := by kernel_rfl
def i133 : TI := ⟨.array 8 100, 8, 32, some (.agg (List.replicate 8 (Value.int .u32 0)).toArray)⟩
theorem u133 : prog.underlying 133 = some i133.u := by kernel_rfl
theorem z133 : (prog.info? 133).map (fun j => (j.size, j.bytes, j.zero)) = some (i133.size, i133.bytes, i133.zero) := by kernel_rfl
def i38 : TI := ⟨.pointer 85, 1, 8, some (Value.pointer none)⟩
theorem u38 : prog.underlying 38 = some i38.u := by kernel_rfl
theorem z38 : (prog.info? 38).map (fun j => (j.size, j.bytes, j.zero)) = some (i38.size, i38.bytes, i38.zero) := by kernel_rfl
def i43 : TI := ⟨.slice 60, 1, 24, some (Value.slice none 0 0)⟩
theorem u43 : prog.underlying 43 = some i43.u := by kernel_rfl
theorem z43 : (prog.info? 43).map (fun j => (j.size, j.bytes, j.zero)) = some (i43.size, i43.bytes, i43.zero) := by kernel_rfl
def i65 : TI := ⟨.array 16 5, 16, 16, some (.agg (List.replicate 16 (Value.int .u8 0)).toArray)⟩
theorem u65 : prog.underlying 65 = some i65.u := by kernel_rfl
theorem z65 : (prog.info? 65).map (fun j => (j.size, j.bytes, j.zero)) = some (i65.size, i65.bytes, i65.zero) := by kernel_rfl
def i96 : TI := ⟨.struct #[⟨ "at", 3, 0, false, "", "hollowtree/disk", 0⟩, ⟨ "block", 71, 1, false, "", "hollowtree/disk", 8⟩], 65, 72, some (.agg (([Value.int .i64 0] ++ List.replicate 64 (Value.int .u8 0))).toArray)⟩
theorem u96 : prog.underlying 96 = some i96.u := by kernel_rfl
theorem z96 : (prog.info? 96).map (fun j => (j.size, j.bytes, j.zero)) = some (i96.size, i96.bytes, i96.zero) := by kernel_rfl
def i122 : TI := ⟨.struct #[⟨ "bytes", 22, 0, false, "", "hollowtree/octet", 0⟩, ⟨ "at", 3, 1, false, "", "hollowtree/octet", 24⟩, ⟨ "err", 26, 2, false, "", "hollowtree/octet", 32⟩], 3, 40, some (.agg (([Value.slice none 0 0] ++ [Value.int .i64 0] ++ [Value.int .i64 0])).toArray)⟩
theorem u122 : prog.underlying 122 = some i122.u := by kernel_rfl
theorem z122 : (prog.info? 122).map (fun j => (j.size, j.bytes, j.zero)) = some (i122.size, i122.bytes, i122.zero) := by kernel_rfl
def i32 : TI := ⟨.pointer 78, 1, 8, some (Value.pointer none)⟩
theorem u32 : prog.underlying 32 = some i32.u := by kernel_rfl
theorem z32 : (prog.info? 32).map (fun j => (j.size, j.bytes, j.zero)) = some (i32.size, i32.bytes, i32.zero) := by kernel_rfl
def i53 : TI := ⟨.slice 4, 1, 24, some (Value.slice none 0 0)⟩
theorem u53 : prog.underlying 53 = some i53.u := by kernel_rfl
theorem z53 : (prog.info? 53).map (fun j => (j.size, j.bytes, j.zero)) = some (i53.size, i53.bytes, i53.zero) := by kernel_rfl
def i131 : TI := ⟨.slice 100, 1, 24, some (Value.slice none 0 0)⟩
theorem u131 : prog.underlying 131 = some i131.u := by kernel_rfl
theorem z131 : (prog.info? 131).map (fun j => (j.size, j.bytes, j.zero)) = some (i131.size, i131.bytes, i131.zero) := by kernel_rfl
def i138 : TI := ⟨.array 64 100, 64, 256, some (.agg (List.replicate 64 (Value.int .u32 0)).toArray)⟩
theorem u138 : prog.underlying 138 = some i138.u := by kernel_rfl
theorem z138 : (prog.info? 138).map (fun j => (j.size, j.bytes, j.zero)) = some (i138.size, i138.bytes, i138.zero) := by kernel_rfl
def i55 : TI := ⟨.struct #[⟨ "At", 3, 0, false, "", "", 0⟩, ⟨ "Keep", 53, 1, false, "", "", 8⟩], 2, 32, some (.agg (([Value.int .i64 0] ++ [Value.slice none 0 0])).toArray)⟩
theorem u55 : prog.underlying 55 = some i55.u := by kernel_rfl
theorem z55 : (prog.info? 55).map (fun j => (j.size, j.bytes, j.zero)) = some (i55.size, i55.bytes, i55.zero) := by kernel_rfl
def i21 : TI := ⟨.int .i32, 1, 4, some (Value.int .i32 0)⟩
theorem u21 : prog.underlying 21 = some i21.u := by kernel_rfl
theorem z21 : (prog.info? 21).map (fun j => (j.size, j.bytes, j.zero)) = some (i21.size, i21.bytes, i21.zero) := by kernel_rfl
def i52 : TI := ⟨.slice 55, 1, 24, some (Value.slice none 0 0)⟩
theorem u52 : prog.underlying 52 = some i52.u := by kernel_rfl
theorem z52 : (prog.info? 52).map (fun j => (j.size, j.bytes, j.zero)) = some (i52.size, i52.bytes, i52.zero) := by kernel_rfl
def i83 : TI := ⟨.map 3 22, 1, 8, some (Value.map none)⟩
theorem u83 : prog.underlying 83 = some i83.u := by kernel_rfl
theorem z83 : (prog.info? 83).map (fun j => (j.size, j.bytes, j.zero)) = some (i83.size, i83.bytes, i83.zero) := by kernel_rfl
def i124 : TI := ⟨.struct #[⟨ "spot", 122, 0, true, "", "hollowtree/octet", 0⟩], 3, 40, some (.agg ((([Value.slice none 0 0] ++ [Value.int .i64 0] ++ [Value.int .i64 0]))).toArray)⟩
theorem u124 : prog.underlying 124 = some i124.u := by kernel_rfl
theorem z124 : (prog.info? 124).map (fun j => (j.size, j.bytes, j.zero)) = some (i124.size, i124.bytes, i124.zero) := by kernel_rfl
def i70 : TI := ⟨.array 64 5, 64, 64, some (.agg (List.replicate 64 (Value.int .u8 0)).toArray)⟩
theorem u70 : prog.underlying 70 = some i70.u := by kernel_rfl
theorem z70 : (prog.info? 70).map (fun j => (j.size, j.bytes, j.zero)) = some (i70.size, i70.bytes, i70.zero) := by kernel_rfl
def i112 : TI := ⟨.pointer 135, 1, 8, some (Value.pointer none)⟩
theorem u112 : prog.underlying 112 = some i112.u := by kernel_rfl
theorem z112 : (prog.info? 112).map (fun j => (j.size, j.bytes, j.zero)) = some (i112.size, i112.bytes, i112.zero) := by kernel_rfl
def i9 : TI := ⟨.string, 1, 16, some (Value.string ByteArray.empty)⟩
theorem u9 : prog.underlying 9 = some i9.u := by kernel_rfl
theorem z9 : (prog.info? 9).map (fun j => (j.size, j.bytes, j.zero)) = some (i9.size, i9.bytes, i9.zero) := by kernel_rfl
def i104 : TI := ⟨.pointer 124, 1, 8, some (Value.pointer none)⟩
theorem u104 : prog.underlying 104 = some i104.u := by kernel_rfl
theorem z104 : (prog.info? 104).map (fun j => (j.size, j.bytes, j.zero)) = some (i104.size, i104.bytes, i104.zero) := by kernel_rfl
def T : Tab := [(3, i3), (22, i22), (100, i100), (26, i26), (71, i71), (36, i36), (68, i68), (5, i5), (78, i78), (45, i45), (74, i74), (25, i25), (60, i60), (135, i135), (64, i64), (85, i85), (23, i23), (29, i29), (61, i61), (4, i4), (62, i62), (133, i133), (38, i38), (43, i43), (65, i65), (96, i96), (122, i122), (32, i32), (53, i53), (131, i131), (138, i138), (55, i55), (21, i21), (52, i52), (83, i83), (124, i124), (70, i70), (112, i112), (9, i9), (104, i104)]
theorem hT : Tok prog T := Tok.cons u3 z3 (Tok.cons u22 z22 (Tok.cons u100 z100 (Tok.cons u26 z26 (Tok.cons u71 z71 (Tok.cons u36 z36 (Tok.cons u68 z68 (Tok.cons u5 z5 (Tok.cons u78 z78 (Tok.cons u45 z45 (Tok.cons u74 z74 (Tok.cons u25 z25 (Tok.cons u60 z60 (Tok.cons u135 z135 (Tok.cons u64 z64 (Tok.cons u85 z85 (Tok.cons u23 z23 (Tok.cons u29 z29 (Tok.cons u61 z61 (Tok.cons u4 z4 (Tok.cons u62 z62 (Tok.cons u133 z133 (Tok.cons u38 z38 (Tok.cons u43 z43 (Tok.cons u65 z65 (Tok.cons u96 z96 (Tok.cons u122 z122 (Tok.cons u32 z32 (Tok.cons u53 z53 (Tok.cons u131 z131 (Tok.cons u138 z138 (Tok.cons u55 z55 (Tok.cons u21 z21 (Tok.cons u52 z52 (Tok.cons u83 z83 (Tok.cons u124 z124 (Tok.cons u70 z70 (Tok.cons u112 z112 (Tok.cons u9 z9 (Tok.cons u104 z104 Tok.nil)))))))))))))))))))))))))))))))))))))))
theorem e2 : Ent prog 2 := Ent.mk Try.func2 (by kernel_rfl) (by kernel_rfl)
theorem e3 : Ent prog 3 := Ent.mk Try.func3 (by kernel_rfl) (by kernel_rfl)
theorem e4 : Ent prog 4 := Ent.mk Try.func4 (by kernel_rfl) (by kernel_rfl)
theorem e5 : Ent prog 5 := Ent.mk Try.func5 (by kernel_rfl) (by kernel_rfl)
theorem e6 : Ent prog 6 := Ent.mk Try.func6 (by kernel_rfl) (by kernel_rfl)
theorem e7 : Ent prog 7 := Ent.mk Try.func7 (by kernel_rfl) (by kernel_rfl)
theorem e8 : Ent prog 8 := Ent.mk Try.func8 (by kernel_rfl) (by kernel_rfl)
theorem e9 : Ent prog 9 := Ent.mk Try.func9 (by kernel_rfl) (by kernel_rfl)
theorem e10 : Ent prog 10 := Ent.mk Try.func10 (by kernel_rfl) (by kernel_rfl)
theorem e11 : Ent prog 11 := Ent.mk Try.func11 (by kernel_rfl) (by kernel_rfl)
theorem e12 : Ent prog 12 := Ent.mk Try.func12 (by kernel_rfl) (by kernel_rfl)
theorem e13 : Ent prog 13 := Ent.mk Try.func13 (by kernel_rfl) (by kernel_rfl)
theorem e14 : Ent prog 14 := Ent.mk Try.func14 (by kernel_rfl) (by kernel_rfl)
theorem e15 : Ent prog 15 := Ent.mk Try.func15 (by kernel_rfl) (by kernel_rfl)
theorem e16 : Ent prog 16 := Ent.mk Try.func16 (by kernel_rfl) (by kernel_rfl)
theorem e17 : Ent prog 17 := Ent.mk Try.func17 (by kernel_rfl) (by kernel_rfl)
theorem e18 : Ent prog 18 := Ent.mk Try.func18 (by kernel_rfl) (by kernel_rfl)
theorem e19 : Ent prog 19 := Ent.mk Try.func19 (by kernel_rfl) (by kernel_rfl)
theorem e20 : Ent prog 20 := Ent.mk Try.func20 (by kernel_rfl) (by kernel_rfl)
theorem e21 : Ent prog 21 := Ent.mk Try.func21 (by kernel_rfl) (by kernel_rfl)
theorem e22 : Ent prog 22 := Ent.mk Try.func22 (by kernel_rfl) (by kernel_rfl)
theorem e23 : Ent prog 23 := Ent.mk Try.func23 (by kernel_rfl) (by kernel_rfl)
theorem e24 : Ent prog 24 := Ent.mk Try.func24 (by kernel_rfl) (by kernel_rfl)
theorem e25 : Ent prog 25 := Ent.mk Try.func25 (by kernel_rfl) (by kernel_rfl)
theorem e26 : Ent prog 26 := Ent.mk Try.func26 (by kernel_rfl) (by kernel_rfl)
theorem e27 : Ent prog 27 := Ent.mk Try.func27 (by kernel_rfl) (by kernel_rfl)
theorem e28 : Ent prog 28 := Ent.mk Try.func28 (by kernel_rfl) (by kernel_rfl)
theorem e29 : Ent prog 29 := Ent.mk Try.func29 (by kernel_rfl) (by kernel_rfl)
theorem e30 : Ent prog 30 := Ent.mk Try.func30 (by kernel_rfl) (by kernel_rfl)
theorem e31 : Ent prog 31 := Ent.mk Try.func31 (by kernel_rfl) (by kernel_rfl)
theorem e32 : Ent prog 32 := Ent.mk Try.func32 (by kernel_rfl) (by kernel_rfl)
theorem e33 : Ent prog 33 := Ent.mk Try.func33 (by kernel_rfl) (by kernel_rfl)
theorem e34 : Ent prog 34 := Ent.mk Try.func34 (by kernel_rfl) (by kernel_rfl)
theorem e35 : Ent prog 35 := Ent.mk Try.func35 (by kernel_rfl) (by kernel_rfl)
theorem e36 : Ent prog 36 := Ent.mk Try.func36 (by kernel_rfl) (by kernel_rfl)
theorem e37 : Ent prog 37 := Ent.mk Try.func37 (by kernel_rfl) (by kernel_rfl)
theorem e38 : Ent prog 38 := Ent.mk Try.func38 (by kernel_rfl) (by kernel_rfl)
theorem e39 : Ent prog 39 := Ent.mk Try.func39 (by kernel_rfl) (by kernel_rfl)
theorem e40 : Ent prog 40 := Ent.mk Try.func40 (by kernel_rfl) (by kernel_rfl)
theorem e41 : Ent prog 41 := Ent.mk Try.func41 (by kernel_rfl) (by kernel_rfl)
theorem e42 : Ent prog 42 := Ent.mk Try.func42 (by kernel_rfl) (by kernel_rfl)
theorem e43 : Ent prog 43 := Ent.mk Try.func43 (by kernel_rfl) (by kernel_rfl)
theorem e44 : Ent prog 44 := Ent.mk Try.func44 (by kernel_rfl) (by kernel_rfl)
theorem e45 : Ent prog 45 := Ent.mk Try.func45 (by kernel_rfl) (by kernel_rfl)
theorem e46 : Ent prog 46 := Ent.mk Try.func46 (by kernel_rfl) (by kernel_rfl)
theorem e47 : Ent prog 47 := Ent.mk Try.func47 (by kernel_rfl) (by kernel_rfl)
theorem e48 : Ent prog 48 := Ent.mk Try.func48 (by kernel_rfl) (by kernel_rfl)
theorem e49 : Ent prog 49 := Ent.mk Try.func49 (by kernel_rfl) (by kernel_rfl)
theorem e50 : Ent prog 50 := Ent.mk Try.func50 (by kernel_rfl) (by kernel_rfl)
theorem e51 : Ent prog 51 := Ent.mk Try.func51 (by kernel_rfl) (by kernel_rfl)
theorem e52 : Ent prog 52 := Ent.mk Try.func52 (by kernel_rfl) (by kernel_rfl)
theorem e53 : Ent prog 53 := Ent.mk Try.func53 (by kernel_rfl) (by kernel_rfl)
theorem e54 : Ent prog 54 := Ent.mk Try.func54 (by kernel_rfl) (by kernel_rfl)
theorem e55 : Ent prog 55 := Ent.mk Try.func55 (by kernel_rfl) (by kernel_rfl)
theorem e56 : Ent prog 56 := Ent.mk Try.func56 (by kernel_rfl) (by kernel_rfl)
theorem e57 : Ent prog 57 := Ent.mk Try.func57 (by kernel_rfl) (by kernel_rfl)
theorem e58 : Ent prog 58 := Ent.mk Try.func58 (by kernel_rfl) (by kernel_rfl)
theorem e59 : Ent prog 59 := Ent.mk Try.func59 (by kernel_rfl) (by kernel_rfl)
theorem e60 : Ent prog 60 := Ent.mk Try.func60 (by kernel_rfl) (by kernel_rfl)
theorem e61 : Ent prog 61 := Ent.mk Try.func61 (by kernel_rfl) (by kernel_rfl)
theorem e62 : Ent prog 62 := Ent.mk Try.func62 (by kernel_rfl) (by kernel_rfl)
theorem e63 : Ent prog 63 := Ent.mk Try.func63 (by kernel_rfl) (by kernel_rfl)
theorem e64 : Ent prog 64 := Ent.mk Try.func64 (by kernel_rfl) (by kernel_rfl)
theorem e65 : Ent prog 65 := Ent.mk Try.func65 (by kernel_rfl) (by kernel_rfl)
theorem e66 : Ent prog 66 := Ent.mk Try.func66 (by kernel_rfl) (by kernel_rfl)
theorem e67 : Ent prog 67 := Ent.mk Try.func67 (by kernel_rfl) (by kernel_rfl)
theorem e68 : Ent prog 68 := Ent.mk Try.func68 (by kernel_rfl) (by kernel_rfl)
theorem e69 : Ent prog 69 := Ent.mk Try.func69 (by kernel_rfl) (by kernel_rfl)
theorem e70 : Ent prog 70 := Ent.mk Try.func70 (by kernel_rfl) (by kernel_rfl)
theorem e71 : Ent prog 71 := Ent.mk Try.func71 (by kernel_rfl) (by kernel_rfl)
theorem e72 : Ent prog 72 := Ent.mk Try.func72 (by kernel_rfl) (by kernel_rfl)
theorem e73 : Ent prog 73 := Ent.mk Try.func73 (by kernel_rfl) (by kernel_rfl)
theorem e74 : Ent prog 74 := Ent.mk Try.func74 (by kernel_rfl) (by kernel_rfl)
theorem e75 : Ent prog 75 := Ent.mk Try.func75 (by kernel_rfl) (by kernel_rfl)
theorem e76 : Ent prog 76 := Ent.mk Try.func76 (by kernel_rfl) (by kernel_rfl)
theorem e77 : Ent prog 77 := Ent.mk Try.func77 (by kernel_rfl) (by kernel_rfl)
theorem e78 : Ent prog 78 := Ent.mk Try.func78 (by kernel_rfl) (by kernel_rfl)
theorem e79 : Ent prog 79 := Ent.mk Try.func79 (by kernel_rfl) (by kernel_rfl)
theorem e80 : Ent prog 80 := Ent.mk Try.func80 (by kernel_rfl) (by kernel_rfl)
theorem e81 : Ent prog 81 := Ent.mk Try.func81 (by kernel_rfl) (by kernel_rfl)
theorem e82 : Ent prog 82 := Ent.mk Try.func82 (by kernel_rfl) (by kernel_rfl)
theorem e83 : Ent prog 83 := Ent.mk Try.func83 (by kernel_rfl) (by kernel_rfl)
theorem e84 : Ent prog 84 := Ent.mk Try.func84 (by kernel_rfl) (by kernel_rfl)
theorem e85 : Ent prog 85 := Ent.mk Try.func85 (by kernel_rfl) (by kernel_rfl)
end Go.Proofs.Ytimekohdlofmaaa
namespace Go.Proofs.Ytimekohdlofmaaa
open Go Go.SL

abbrev Blk := List Int
def encB (b : Blk) : List Value := ints .u8 b
def encW (p : Int × Blk) : List Value := .int .i64 p.1 :: encB p.2
@[simp] theorem encB_length (b : Blk) : (encB b).length = b.length := by simp [encB]
theorem encB_one (b : Blk) : ∀ v ∈ encB b, v.oneCell' = true := ints_one _ _
theorem encW_one (p : Int × Blk) : ∀ v ∈ encW p, v.oneCell' = true := by
  intro v hv
  simp only [encW, List.mem_cons] at hv
  rcases hv with rfl | hv
  · rfl
  · exact encB_one _ v hv

/-- A disk. -/
structure Dk where
  safe : List Blk
  pending : List (Int × Blk)
  dead : Bool
  armed : Bool
  left : Int
  ops : Int
structure Dk.Ok (D : Dk) : Prop where
  safe : ∀ b ∈ D.safe, b.length = 64
  pend : ∀ p ∈ D.pending, p.2.length = 64 ∧ 0 ≤ p.1 ∧ p.1 < D.safe.length
  some : 1 ≤ D.safe.length
  most : D.safe.length ≤ 512
  left : -9223372036854775808 ≤ D.left ∧ D.left ≤ 9223372036854775807
theorem Dk.Ok.segB {D : Dk} (h : D.Ok) : ∀ b ∈ D.safe, (encB b).length = 64 := fun b hb => by rw [encB_length]; exact h.safe b hb
theorem Dk.Ok.segW {D : Dk} (h : D.Ok) : ∀ p ∈ D.pending, (encW p).length = 65 := fun p hp => by simp [encW, (h.pend p hp).1]

def dcells (D : Dk) (sa : Option Addr) (sc : Nat) (pa : Option Addr) (pc : Nat) : List Value :=
  [.slice sa D.safe.length sc, .slice pa D.pending.length pc, .bool D.dead, .bool D.armed, .int .i64 D.left, .int .i64 D.ops]
/-- A disk in memory. -/
def disk (d : Nat) (D : Dk) : HProp := ex fun q : Option Addr × Nat × Option Addr × Nat => stars
  [pur D.Ok, row d 64 (dcells D q.1 q.2.1 q.2.2.1 q.2.2.2),
   own 71 64 (.slice q.1 D.safe.length q.2.1) D.safe.length (D.safe.flatMap encB),
   own 96 65 (.slice q.2.2.1 D.pending.length q.2.2.2) D.pending.length (D.pending.flatMap encW)]
theorem disk_open {E w : World} {d : Nat} {D : Dk} {r : List HProp} (s : Sat E (stars (disk d D :: r)) w) : ∃ sa sc pa pc, D.Ok ∧ Sat E (stars (row d 64 (dcells D sa sc pa pc) ::
    own 71 64 (.slice sa D.safe.length sc) D.safe.length (D.safe.flatMap encB) :: own 96 65 (.slice pa D.pending.length pc) D.pending.length (D.pending.flatMap encW) :: r)) w := by
  obtain ⟨⟨sa, sc, pa, pc⟩, s⟩ := s.ofex
  obtain ⟨hok, s⟩ := s.unfold.ofpur
  exact ⟨sa, sc, pa, pc, hok, s⟩
theorem disk_shut {E w : World} {d : Nat} {D : Dk} {r : List HProp} {sa pa : Option Addr} {sc pc : Nat} (hok : D.Ok) (s : Sat E (stars (row d 64 (dcells D sa sc pa pc) ::
    own 71 64 (.slice sa D.safe.length sc) D.safe.length (D.safe.flatMap encB) :: own 96 65 (.slice pa D.pending.length pc) D.pending.length (D.pending.flatMap encW) :: r)) w) : Sat E (stars (disk d D :: r)) w :=
  Sat.toex (F := fun _ : Option Addr × Nat × Option Addr × Nat => _) (sa, sc, pa, pc) (Sat.fold (m := [_, _, _, _]) (s.topur hok))
section
variable {E : World} {ρ : Option Nat} {n : Nat} {ds : List Deferred} {env : Fr} {c : Code} {Q : Exit → Act → World → Prop} {d : Nat} {D : Dk} {r : List HProp}
theorem J.disk (h : ∀ sa sc pa pc, D.Ok → J prog E ρ n ds c Q env (row d 64 (dcells D sa sc pa pc) ::
    own 71 64 (.slice sa D.safe.length sc) D.safe.length (D.safe.flatMap encB) :: own 96 65 (.slice pa D.pending.length pc) D.pending.length (D.pending.flatMap encW) :: r)) : J prog E ρ n ds c Q env (disk d D :: r) := fun a w hf hs =>
  let ⟨sa, sc, pa, pc, hok, s⟩ := disk_open hs
  h sa sc pa pc hok a w hf s
/-- The world behind a function's end, the disk shut again. -/
theorem Fc.disk {f : FuncId} {args : Array Value} {l : List HProp} {R : Value → List HProp → Prop} {D' : Dk}
    (h : Fc prog E f args l fun v l' => ∃ sa sc pa pc, D'.Ok ∧ R v (Go.Proofs.Ytimekohdlofmaaa.disk d D' :: r) ∧ l' = row d 64 (dcells D' sa sc pa pc) ::
      own 71 64 (.slice sa D'.safe.length sc) D'.safe.length (D'.safe.flatMap encB) :: own 96 65 (.slice pa D'.pending.length pc) D'.pending.length (D'.pending.flatMap encW) :: r) : Fc prog E f args l R := fun w hs =>
  (h w hs).mono fun _ _ ⟨v, _, he, s, _, _, _, _, hok, hR, hl⟩ => ⟨v, _, he, disk_shut hok (hl ▸ s), hR⟩
end

theorem disk_okd {E : World} {f : FuncId} {args : Array Value} {d : Nat} {D : Dk} {r : List HProp} {R : Value → List HProp → Prop} (h : D.Ok → Fc prog E f args (disk d D :: r) R) : Fc prog E f args (disk d D :: r) R := fun w hs =>
  let ⟨_, _, _, _, hok, _⟩ := disk_open hs
  h hok w hs
attribute [local irreducible] J JL JE JM LS Y Fc RV Code.wp wpList Code.wpIn wpListIn
/-- Why nothing can be done. -/
def Dk.ready (D : Dk) (i : Int) : Int := if D.dead then 7 else if i < 0 ∨ D.safe.length ≤ i then 2 else 0

variable (E : World)
theorem ready_spec (d : Nat) (D : Dk) (i : Int) (r : List HProp) :
    Fc prog E 39 [Value.pointer (some ⟨d, 0, none⟩), .int .i64 i].toArray (disk d D :: r) (fun v l' => v = .int .i64 (D.ready i) ∧ l' = disk d D :: r) := by
  refine Fc.disk (d := d) (D' := D) (r := r) ?_
  refine Fc.of_body (c := ?codeC) Try.func39 ?hb Try.ntmps39 ?hl ?_
  case hb => exact rfl
  case hl => exact rfl
  refine J.disk fun sa sc pa pc hok => ?_
  refine J.seq ?_
  refine J.region ?_
  refine JL.step (y_assign rfl) rfl rfl rfl ?_
  refine JL.nil ?_
  refine JE.then_normal ?_
  refine J.seq ?_
  refine J.block ?_
  refine J.seq ?_
  refine J.region ?_
  refine JL.step (y_move rfl) rfl rfl rfl (JL.step (y_ptr_eq_nil hT rfl rfl rfl rfl) rfl rfl rfl (JL.step (y_assign rfl) rfl rfl rfl ?_))
  refine JL.nil ?_
  refine JE.then_normal ?_
  first | apply J.cond_dec rfl | apply J.cond rfl
  case' ht =>
    intro h
    try (first | (exfalso; omega) | (cases h; done) | (exfalso; simp at h; done) | subst h)
    all_goals
      refine J.seq ?_
      refine J.region ?_
      refine JL.step (y_assign rfl) rfl rfl rfl ?_
      refine JL.nil ?_
      refine JE.then_normal ?_
      refine J.ret ?_
      refine JE.block_ret ?_
      refine JE.then_ret ?_
      refine JE.ret1 (.inl rfl) rfl rfl (by (first | exact RV.tmp rfl | exact RV.cell1 hT rfl rfl rfl (by (exact Rd1.row (by (repeat (first | exact Pick.head | apply Pick.tail | apply Pick.app))) (by rfl))) | exact RV.cellN hT rfl rfl rfl (by (first | exact RdN.rowAll (by (repeat (first | exact Pick.head | apply Pick.tail | apply Pick.app))) | exact RdN.own (by (repeat (first | exact Pick.head | apply Pick.tail | apply Pick.app))))) (by (first | rfl | assumption | (simp; done) | omega)))) ?_
      refine ⟨sa, sc, pa, pc, hok, ⟨?_, rfl⟩, rfl⟩; simp_all [Dk.ready]
  case' hf =>
    intro h
    try (first | (exfalso; omega) | (cases h; done) | (exfalso; simp at h; done) | subst h)
    all_goals
      refine J.seq ?_
      refine J.region ?_
      refine JL.step (y_move rfl) rfl rfl rfl ?_
      refine JL.step ((by first | exact y_nilCheck rfl | exact y_nilCheckF rfl | exact y_nilCheckY rfl)) rfl rfl rfl ?_
      refine JL.step (y_fieldAddr hT rfl rfl rfl rfl rfl rfl) rfl rfl rfl ?_
      refine JL.step (y_load1 hT rfl rfl rfl (by (exact Rd1.row (by (repeat (first | exact Pick.head | apply Pick.tail | apply Pick.app))) (by rfl)))) rfl rfl rfl ?_
      refine JL.step (y_assign rfl) rfl rfl rfl ?_
      refine JL.nil ?_
      refine JE.then_normal ?_
      first | apply J.cond_dec rfl | apply J.cond rfl
      case' ht =>
        intro h
        try (first | (exfalso; omega) | (cases h; done) | (exfalso; simp at h; done) | subst h)
        all_goals
          refine J.seq ?_
          refine J.region ?_
          refine JL.step (y_assign rfl) rfl rfl rfl ?_
          refine JL.nil ?_
          refine JE.then_normal ?_
          refine J.ret ?_
          refine JE.block_ret ?_
          refine JE.then_ret ?_
          refine JE.ret1 (.inl rfl) rfl rfl (by (first | exact RV.tmp rfl | exact RV.cell1 hT rfl rfl rfl (by (exact Rd1.row (by (repeat (first | exact Pick.head | apply Pick.tail | apply Pick.app))) (by rfl))) | exact RV.cellN hT rfl rfl rfl (by (first | exact RdN.rowAll (by (repeat (first | exact Pick.head | apply Pick.tail | apply Pick.app))) | exact RdN.own (by (repeat (first | exact Pick.head | apply Pick.tail | apply Pick.app))))) (by (first | rfl | assumption | (simp; done) | omega)))) ?_
          refine ⟨sa, sc, pa, pc, hok, ⟨?_, rfl⟩, rfl⟩; simp_all [Dk.ready]
      case' hf =>
        intro h
        try (first | (exfalso; omega) | (cases h; done) | (exfalso; simp at h; done) | subst h)
        all_goals
          refine J.seq ?_
          refine J.region ?_
          refine JL.step (y_move rfl) rfl rfl rfl (JL.step (y_lss rfl rfl) rfl rfl rfl (JL.step (y_move rfl) rfl rfl rfl ?_))
          all_goals (first | (refine JL.gsplit_dec rfl rfl rfl (fun h => ?_) (fun h => ?_) <;> try (first | (exfalso; omega) | exact absurd rfl h)) | (refine JL.gsplit rfl rfl rfl (fun h => ?_) (fun h => ?_) <;> try (first | cases h | (exfalso; simp at h; done))) | skip)
          all_goals (first | refine JL.gskip rfl rfl rfl rfl rfl rfl ?_ | refine JL.gskipU rfl rfl rfl rfl rfl ?_ | refine JL.gstep rfl rfl rfl (y_move rfl) rfl rfl ?_)
          all_goals (first | refine JL.gskip rfl rfl rfl rfl rfl rfl ?_ | refine JL.gskipU rfl rfl rfl rfl rfl ?_ | refine JL.gstep rfl rfl rfl (y_move rfl) rfl rfl ?_)
          all_goals (first | refine JL.gskip rfl rfl rfl rfl rfl rfl ?_ | refine JL.gskipU rfl rfl rfl rfl rfl ?_ | refine JL.gstep rfl rfl rfl ((by first | exact y_nilCheck rfl | exact y_nilCheckF rfl | exact y_nilCheckY rfl)) rfl rfl ?_)
          all_goals (first | refine JL.gskip rfl rfl rfl rfl rfl rfl ?_ | refine JL.gskipU rfl rfl rfl rfl rfl ?_ | refine JL.gstep rfl rfl rfl (y_fieldAddr hT rfl rfl rfl rfl rfl rfl) rfl rfl ?_)
          all_goals (first | refine JL.gskip rfl rfl rfl rfl rfl rfl ?_ | refine JL.gskipU rfl rfl rfl rfl rfl ?_ | refine JL.gstep rfl rfl rfl (y_load1 hT rfl rfl rfl (by (exact Rd1.row (by (repeat (first | exact Pick.head | apply Pick.tail | apply Pick.app))) (by rfl)))) rfl rfl ?_)
          all_goals (first | refine JL.gskip rfl rfl rfl rfl rfl rfl ?_ | refine JL.gskipU rfl rfl rfl rfl rfl ?_ | refine JL.gstep rfl rfl rfl (y_len_slice hT rfl rfl rfl) rfl rfl ?_)
          all_goals (first | refine JL.gskip rfl rfl rfl rfl rfl rfl ?_ | refine JL.gskipU rfl rfl rfl rfl rfl ?_ | refine JL.gstep rfl rfl rfl (y_geq rfl rfl) rfl rfl ?_)
          all_goals (refine JL.step (y_pick rfl rfl rfl) rfl rfl rfl ?_)
          all_goals (refine JL.step (y_assign rfl) rfl rfl rfl ?_)
          all_goals refine JL.nil ?_
          all_goals refine JE.then_normal ?_
          all_goals
            first | apply J.cond_dec rfl | apply J.cond rfl
            case' ht =>
              intro h
              try (first | (exfalso; omega) | (cases h; done) | (exfalso; simp at h; done) | subst h)
              all_goals
                refine J.seq ?_
                refine J.region ?_
                refine JL.step (y_assign rfl) rfl rfl rfl ?_
                refine JL.nil ?_
                refine JE.then_normal ?_
                refine J.ret ?_
                refine JE.block_ret ?_
                refine JE.then_ret ?_
                refine JE.ret1 (.inl rfl) rfl rfl (by (first | exact RV.tmp rfl | exact RV.cell1 hT rfl rfl rfl (by (exact Rd1.row (by (repeat (first | exact Pick.head | apply Pick.tail | apply Pick.app))) (by rfl))) | exact RV.cellN hT rfl rfl rfl (by (first | exact RdN.rowAll (by (repeat (first | exact Pick.head | apply Pick.tail | apply Pick.app))) | exact RdN.own (by (repeat (first | exact Pick.head | apply Pick.tail | apply Pick.app))))) (by (first | rfl | assumption | (simp; done) | omega)))) ?_
                refine ⟨sa, sc, pa, pc, hok, ⟨?_, rfl⟩, rfl⟩; simp_all [Dk.ready]
            case' hf =>
              intro h
              try (first | (exfalso; omega) | (cases h; done) | (exfalso; simp at h; done) | subst h)
              all_goals
                refine J.skip ?_
  all_goals refine JE.block_normal ?_
  all_goals refine JE.then_normal ?_
  all_goals
    refine J.seq ?_
    refine J.region ?_
    refine JL.step (y_assign rfl) rfl rfl rfl ?_
    refine JL.nil ?_
    refine JE.then_normal ?_
    refine J.ret ?_
    refine JE.ret1 (.inl rfl) rfl rfl (by (first | exact RV.tmp rfl | exact RV.cell1 hT rfl rfl rfl (by (exact Rd1.row (by (repeat (first | exact Pick.head | apply Pick.tail | apply Pick.app))) (by rfl))) | exact RV.cellN hT rfl rfl rfl (by (first | exact RdN.rowAll (by (repeat (first | exact Pick.head | apply Pick.tail | apply Pick.app))) | exact RdN.own (by (repeat (first | exact Pick.head | apply Pick.tail | apply Pick.app))))) (by (first | rfl | assumption | (simp; done) | omega)))) ?_
    refine ⟨sa, sc, pa, pc, hok, ⟨?_, rfl⟩, rfl⟩; simp_all [Dk.ready]
theorem len_spec (d : Nat) (D : Dk) (r : List HProp) :
    Fc prog E 21 [Value.pointer (some ⟨d, 0, none⟩)].toArray (disk d D :: r) (fun v l' => v = .int .i64 D.safe.length ∧ l' = disk d D :: r) := by
  refine Fc.disk (d := d) (D' := D) (r := r) ?_
  refine Fc.of_body (c := ?codeC) Try.func21 ?hb Try.ntmps21 ?hl ?_
  case hb => exact rfl
  case hl => exact rfl
  refine J.disk fun sa sc pa pc hok => ?_
  refine J.seq ?_
  refine J.region ?_
  refine JL.step (y_assign rfl) rfl rfl rfl ?_
  refine JL.nil ?_
  refine JE.then_normal ?_
  refine J.seq ?_
  refine J.seq ?_
  refine J.region ?_
  refine JL.step (y_move rfl) rfl rfl rfl (JL.step (y_ptr_eq_nil hT rfl rfl rfl rfl) rfl rfl rfl ?_)
  refine JL.nil ?_
  refine JE.then_normal ?_
  first | apply J.cond_dec rfl | apply J.cond rfl
  case' ht =>
    intro h
    try (first | (exfalso; omega) | (cases h; done) | (exfalso; simp at h; done) | subst h)
    all_goals
      refine J.seq ?_
      refine J.region ?_
      refine JL.step (y_assign rfl) rfl rfl rfl ?_
      refine JL.nil ?_
      refine JE.then_normal ?_
      refine J.ret ?_
      refine JE.then_ret ?_
      refine JE.ret1 (.inl rfl) rfl rfl (by (first | exact RV.tmp rfl | exact RV.cell1 hT rfl rfl rfl (by (exact Rd1.row (by (repeat (first | exact Pick.head | apply Pick.tail | apply Pick.app))) (by rfl))) | exact RV.cellN hT rfl rfl rfl (by (first | exact RdN.rowAll (by (repeat (first | exact Pick.head | apply Pick.tail | apply Pick.app))) | exact RdN.own (by (repeat (first | exact Pick.head | apply Pick.tail | apply Pick.app))))) (by (first | rfl | assumption | (simp; done) | omega)))) ?_
      exact ⟨sa, sc, pa, pc, hok, ⟨rfl, rfl⟩, rfl⟩
  case' hf =>
    intro h
    try (first | (exfalso; omega) | (cases h; done) | (exfalso; simp at h; done) | subst h)
    all_goals
      refine J.skip ?_
  all_goals refine JE.then_normal ?_
  all_goals
    refine J.seq ?_
    refine J.region ?_
    refine JL.step (y_move rfl) rfl rfl rfl ?_
    refine JL.step ((by first | exact y_nilCheck rfl | exact y_nilCheckF rfl | exact y_nilCheckY rfl)) rfl rfl rfl ?_
    refine JL.step (y_fieldAddr hT rfl rfl rfl rfl rfl rfl) rfl rfl rfl ?_
    refine JL.step (y_load1 hT rfl rfl rfl (by (exact Rd1.row (by (repeat (first | exact Pick.head | apply Pick.tail | apply Pick.app))) (by rfl)))) rfl rfl rfl ?_
    refine JL.step (y_len_slice hT rfl rfl rfl) rfl rfl rfl (JL.step (y_assign rfl) rfl rfl rfl ?_)
    refine JL.nil ?_
    refine JE.then_normal ?_
    refine J.ret ?_
    refine JE.ret1 (.inl rfl) rfl rfl (by (first | exact RV.tmp rfl | exact RV.cell1 hT rfl rfl rfl (by (exact Rd1.row (by (repeat (first | exact Pick.head | apply Pick.tail | apply Pick.app))) (by rfl))) | exact RV.cellN hT rfl rfl rfl (by (first | exact RdN.rowAll (by (repeat (first | exact Pick.head | apply Pick.tail | apply Pick.app))) | exact RdN.own (by (repeat (first | exact Pick.head | apply Pick.tail | apply Pick.app))))) (by (first | rfl | assumption | (simp; done) | omega)))) ?_
    exact ⟨sa, sc, pa, pc, hok, ⟨rfl, rfl⟩, rfl⟩
/-- The power goes behind so many. -/
def Dk.arm (D : Dk) (k : Int) : Dk := { D with armed := decide (0 ≤ k), left := k }
theorem arm_spec (d : Nat) (D : Dk) (k : Int) (hk : -9223372036854775808 ≤ k ∧ k ≤ 9223372036854775807) (r : List HProp) :
    Fc prog E 19 [Value.pointer (some ⟨d, 0, none⟩), .int .i64 k].toArray (disk d D :: r) (fun v l' => v = .int .i64 (if D.dead then 7 else 0) ∧ l' = disk d (if D.dead then D else D.arm k) :: r) := by
  have hr : D.Ok → D.ready 0 = if D.dead then 7 else 0 := fun h => by
    have := h.some
    have h' : ¬ ((0 : Int) < 0 ∨ (D.safe.length : Int) ≤ 0) := by omega
    simp only [Dk.ready, h', if_false]
  cases hd : D.dead with
  | true =>
    refine Fc.of_body (c := ?codeC) Try.func19 ?hb Try.ntmps19 ?hl ?_
    case hb => exact rfl
    case hl => exact rfl
    simp only [if_true]
    refine J.seq ?_
    refine J.region ?_
    refine JL.step (y_assign rfl) rfl rfl rfl ?_
    refine JL.nil ?_
    refine JE.then_normal ?_
    refine J.seq ?_
    refine J.seq ?_
    refine J.region ?_
    refine JL.step (y_move rfl) rfl rfl rfl ?_
    refine JL.loud rfl (l_callF e39 rfl rfl (ready_spec E d D 0 r) ?_)
    rintro _ _ ⟨rfl, rfl⟩
    refine JL.step (y_assign rfl) rfl rfl rfl ?_
    refine JL.nil ?_
    refine JE.then_normal ?_
    refine J.seq ?_
    refine J.region ?_
    simp only [Dk.ready, hd, if_true]
    refine JL.step (y_move rfl) rfl rfl rfl (JL.step (y_neq rfl rfl) rfl rfl rfl ?_)
    refine JL.nil ?_
    refine JE.then_normal ?_
    refine J.cond_t rfl (by (first | rfl | assumption | (simp; done) | (simp; omega))) ?_
    refine J.seq ?_
    refine J.region ?_
    refine JL.step (y_move rfl) rfl rfl rfl (JL.step (y_assign rfl) rfl rfl rfl ?_)
    refine JL.nil ?_
    refine JE.then_normal ?_
    refine J.ret ?_
    refine JE.then_ret ?_
    refine JE.ret1 (.inl rfl) rfl rfl (by (first | exact RV.tmp rfl | exact RV.cell1 hT rfl rfl rfl (by (exact Rd1.row (by (repeat (first | exact Pick.head | apply Pick.tail | apply Pick.app))) (by rfl))) | exact RV.cellN hT rfl rfl rfl (by (first | exact RdN.rowAll (by (repeat (first | exact Pick.head | apply Pick.tail | apply Pick.app))) | exact RdN.own (by (repeat (first | exact Pick.head | apply Pick.tail | apply Pick.app))))) (by (first | rfl | assumption | (simp; done) | omega)))) ?_
    exact ⟨rfl, rfl⟩
  | false =>
    refine Fc.disk (d := d) (D' := D.arm k) (r := r) ?_
    refine Fc.of_body (c := ?codeC) Try.func19 ?hb Try.ntmps19 ?hl ?_
    case hb => exact rfl
    case hl => exact rfl
    refine J.seq ?_
    refine J.region ?_
    refine JL.step (y_assign rfl) rfl rfl rfl ?_
    refine JL.nil ?_
    refine JE.then_normal ?_
    refine J.seq ?_
    refine J.seq ?_
    refine J.region ?_
    refine JL.step (y_move rfl) rfl rfl rfl ?_
    refine JL.loud rfl (l_callF e39 rfl rfl (ready_spec E d D 0 r) ?_)
    rintro _ _ ⟨rfl, rfl⟩
    refine JL.step (y_assign rfl) rfl rfl rfl ?_
    refine JL.nil ?_
    refine JE.then_normal ?_
    refine J.seq ?_
    refine J.disk fun sa sc pa pc hok => ?_
    rw [hr hok]
    simp only [hd, Bool.false_eq_true, if_false]
    refine J.region ?_
    refine JL.step (y_move rfl) rfl rfl rfl (JL.step (y_neq rfl rfl) rfl rfl rfl ?_)
    refine JL.nil ?_
    refine JE.then_normal ?_
    refine J.cond_f rfl (by (first | rfl | assumption | (simp; done) | (simp; omega))) ?_
    refine J.skip ?_
    refine JE.then_normal ?_
    refine J.seq ?_
    refine J.region ?_
    refine JL.step (y_move rfl) rfl rfl rfl (JL.step (y_move rfl) rfl rfl rfl (JL.step (y_move rfl) rfl rfl rfl (JL.step (y_geq rfl rfl) rfl rfl rfl (JL.step (y_move rfl) rfl rfl rfl ?_))))
    refine JL.step ((by first | exact y_nilCheck rfl | exact y_nilCheckF rfl | exact y_nilCheckY rfl)) rfl rfl rfl ?_
    refine JL.step (y_fieldAddr hT rfl rfl rfl rfl rfl rfl) rfl rfl rfl ?_
    refine JL.loud rfl (l_store1 hT rfl rfl rfl rfl rfl (by (repeat (first | exact Pick.head | apply Pick.tail | apply Pick.app))) (by (first | omega | exact Nat.le_of_ble_eq_true rfl | decide | (simp; omega))) ?_)
    refine JL.step ((by first | exact y_nilCheck rfl | exact y_nilCheckF rfl | exact y_nilCheckY rfl)) rfl rfl rfl ?_
    refine JL.step (y_fieldAddr hT rfl rfl rfl rfl rfl rfl) rfl rfl rfl ?_
    refine JL.loud rfl (l_store1 hT rfl rfl rfl rfl rfl (by (repeat (first | exact Pick.head | apply Pick.tail | apply Pick.app))) (by (first | omega | exact Nat.le_of_ble_eq_true rfl | decide | (simp; omega))) ?_)
    refine JL.nil ?_
    refine JE.then_normal ?_
    refine J.seq ?_
    refine J.region ?_
    refine JL.step (y_assign rfl) rfl rfl rfl ?_
    refine JL.nil ?_
    refine JE.then_normal ?_
    refine J.ret ?_
    refine JE.ret1 (.inl rfl) rfl rfl (by (first | exact RV.tmp rfl | exact RV.cell1 hT rfl rfl rfl (by (exact Rd1.row (by (repeat (first | exact Pick.head | apply Pick.tail | apply Pick.app))) (by rfl))) | exact RV.cellN hT rfl rfl rfl (by (first | exact RdN.rowAll (by (repeat (first | exact Pick.head | apply Pick.tail | apply Pick.app))) | exact RdN.own (by (repeat (first | exact Pick.head | apply Pick.tail | apply Pick.app))))) (by (first | rfl | assumption | (simp; done) | omega)))) ?_
    exact ⟨sa, sc, pa, pc, ⟨hok.safe, hok.pend, hok.some, hok.most, hk⟩, ⟨rfl, by simp⟩, rfl⟩
/-- One more is done. -/
def Dk.does (D : Dk) : Dk := { D with left := if D.armed then IntKind.i64.wrap (D.left - 1) else D.left, ops := IntKind.i64.wrap (D.ops + 1) }
/-- The power goes. -/
def Dk.dies (D : Dk) : Dk := { D with dead := true, armed := false }
theorem Dk.Ok.dies {D : Dk} (h : D.Ok) : D.dies.Ok := ⟨h.safe, h.pend, h.some, h.most, h.left⟩
theorem wrap_range (x : Int) : -9223372036854775808 ≤ IntKind.i64.wrap x ∧ IntKind.i64.wrap x ≤ 9223372036854775807 := by rw [IntKind.wrap_i64]; omega
theorem Dk.Ok.does {D : Dk} (h : D.Ok) : D.does.Ok := ⟨h.safe, h.pend, h.some, h.most, by
  simp only [Dk.does]
  split
  · exact wrap_range _
  · exact h.left⟩
theorem do_dies (d : Nat) (D : Dk) (f : FuncId) (cs : Array Value) (r : List HProp) (ha : D.armed = true) (h0 : D.left = 0) :
    Fc prog E 43 [Value.pointer (some ⟨d, 0, none⟩), .func (.func f) #[] cs].toArray (disk d D :: r) (fun v l' => v = .int .i64 7 ∧ l' = disk d D.dies :: r) := by
  refine Fc.disk (d := d) (D' := D.dies) (r := r) ?_
  refine Fc.of_body (c := ?codeC) Try.func43 ?hb Try.ntmps43 ?hl ?_
  case hb => exact rfl
  case hl => exact rfl
  refine J.disk fun sa sc pa pc hok => ?_
  refine J.seq ?_
  refine J.region ?_
  refine JL.step (y_assign rfl) rfl rfl rfl ?_
  refine JL.nil ?_
  refine JE.then_normal ?_
  refine J.seq ?_
  refine J.seq ?_
  refine J.region ?_
  refine JL.step (y_move rfl) rfl rfl rfl ?_
  refine JL.step ((by first | exact y_nilCheck rfl | exact y_nilCheckF rfl | exact y_nilCheckY rfl)) rfl rfl rfl ?_
  refine JL.step (y_fieldAddr hT rfl rfl rfl rfl rfl rfl) rfl rfl rfl ?_
  refine JL.step (y_load1 hT rfl rfl rfl (by (exact Rd1.row (by (repeat (first | exact Pick.head | apply Pick.tail | apply Pick.app))) (by rfl)))) rfl rfl rfl ?_
  refine JL.nil ?_
  refine JE.then_normal ?_
  refine J.cond_t rfl (by (first | rfl | assumption | (simp; done) | (simp; omega))) ?_
  refine J.seq ?_
  refine J.seq ?_
  refine J.region ?_
  refine JL.step (y_move rfl) rfl rfl rfl ?_
  refine JL.step ((by first | exact y_nilCheck rfl | exact y_nilCheckF rfl | exact y_nilCheckY rfl)) rfl rfl rfl ?_
  refine JL.step (y_fieldAddr hT rfl rfl rfl rfl rfl rfl) rfl rfl rfl ?_
  refine JL.step (y_load1 hT rfl rfl rfl (by (exact Rd1.row (by (repeat (first | exact Pick.head | apply Pick.tail | apply Pick.app))) (by rfl)))) rfl rfl rfl ?_
  refine JL.step (y_eql rfl rfl) rfl rfl rfl ?_
  refine JL.nil ?_
  refine JE.then_normal ?_
  refine J.cond_t rfl (by (first | rfl | assumption | (simp; done) | (simp; omega))) ?_
  refine J.seq ?_
  refine J.region ?_
  refine JL.step (y_move rfl) rfl rfl rfl (JL.step (y_move rfl) rfl rfl rfl ?_)
  refine JL.step ((by first | exact y_nilCheck rfl | exact y_nilCheckF rfl | exact y_nilCheckY rfl)) rfl rfl rfl ?_
  refine JL.step (y_fieldAddr hT rfl rfl rfl rfl rfl rfl) rfl rfl rfl ?_
  refine JL.loud rfl (l_store1 hT rfl rfl rfl rfl rfl (by (repeat (first | exact Pick.head | apply Pick.tail | apply Pick.app))) (by (first | omega | exact Nat.le_of_ble_eq_true rfl | decide | (simp; omega))) ?_)
  refine JL.step ((by first | exact y_nilCheck rfl | exact y_nilCheckF rfl | exact y_nilCheckY rfl)) rfl rfl rfl ?_
  refine JL.step (y_fieldAddr hT rfl rfl rfl rfl rfl rfl) rfl rfl rfl ?_
  refine JL.loud rfl (l_store1 hT rfl rfl rfl rfl rfl (by (repeat (first | exact Pick.head | apply Pick.tail | apply Pick.app))) (by (first | omega | exact Nat.le_of_ble_eq_true rfl | decide | (simp; omega))) ?_)
  refine JL.nil ?_
  refine JE.then_normal ?_
  refine J.seq ?_
  refine J.region ?_
  refine JL.step (y_assign rfl) rfl rfl rfl ?_
  refine JL.nil ?_
  refine JE.then_normal ?_
  refine J.ret ?_
  refine JE.then_ret ?_
  refine JE.then_ret ?_
  refine JE.ret1 (.inl rfl) rfl rfl (by (first | exact RV.tmp rfl | exact RV.cell1 hT rfl rfl rfl (by (exact Rd1.row (by (repeat (first | exact Pick.head | apply Pick.tail | apply Pick.app))) (by rfl))) | exact RV.cellN hT rfl rfl rfl (by (first | exact RdN.rowAll (by (repeat (first | exact Pick.head | apply Pick.tail | apply Pick.app))) | exact RdN.own (by (repeat (first | exact Pick.head | apply Pick.tail | apply Pick.app))))) (by (first | rfl | assumption | (simp; done) | omega)))) ?_
  exact ⟨sa, sc, pa, pc, hok.dies, ⟨rfl, rfl⟩, rfl⟩
  -- UNUSED OPTIONS: call t34, val
theorem do_does (d : Nat) (D D2 : Dk) (f : FuncId) (hent : Ent prog f) (cs : List Value) (r : List HProp) (hna : ¬ (D.armed = true ∧ D.left = 0))
    (hcl : Fc prog E f cs.toArray (disk d D.does :: r) (fun _ l' => l' = disk d D2 :: r)) :
    Fc prog E 43 [Value.pointer (some ⟨d, 0, none⟩), .func (.func f) #[] cs.toArray].toArray (disk d D :: r) (fun v l' => v = .int .i64 0 ∧ l' = disk d D2 :: r) := by
  cases ha : D.armed with
  | true =>
    have h0 : ¬ D.left = 0 := fun e => hna ⟨ha, e⟩
    have hd : decide (D.left = 0) = false := decide_eq_false h0
    refine Fc.of_body (c := ?codeC) Try.func43 ?hb Try.ntmps43 ?hl ?_
    case hb => exact rfl
    case hl => exact rfl
    refine J.disk fun sa sc pa pc hok => ?_
    refine J.seq ?_
    refine J.region ?_
    refine JL.step (y_assign rfl) rfl rfl rfl ?_
    refine JL.nil ?_
    refine JE.then_normal ?_
    refine J.seq ?_
    refine J.seq ?_
    refine J.region ?_
    refine JL.step (y_move rfl) rfl rfl rfl ?_
    refine JL.step ((by first | exact y_nilCheck rfl | exact y_nilCheckF rfl | exact y_nilCheckY rfl)) rfl rfl rfl ?_
    refine JL.step (y_fieldAddr hT rfl rfl rfl rfl rfl rfl) rfl rfl rfl ?_
    refine JL.step (y_load1 hT rfl rfl rfl (by (exact Rd1.row (by (repeat (first | exact Pick.head | apply Pick.tail | apply Pick.app))) (by rfl)))) rfl rfl rfl ?_
    refine JL.nil ?_
    refine JE.then_normal ?_
    refine J.cond_t rfl (by (first | rfl | assumption | (simp; done) | (simp; omega))) ?_
    refine J.seq ?_
    refine J.seq ?_
    refine J.region ?_
    refine JL.step (y_move rfl) rfl rfl rfl ?_
    refine JL.step ((by first | exact y_nilCheck rfl | exact y_nilCheckF rfl | exact y_nilCheckY rfl)) rfl rfl rfl ?_
    refine JL.step (y_fieldAddr hT rfl rfl rfl rfl rfl rfl) rfl rfl rfl ?_
    refine JL.step (y_load1 hT rfl rfl rfl (by (exact Rd1.row (by (repeat (first | exact Pick.head | apply Pick.tail | apply Pick.app))) (by rfl)))) rfl rfl rfl ?_
    refine JL.step (y_eql rfl rfl) rfl rfl rfl ?_
    refine JL.nil ?_
    refine JE.then_normal ?_
    refine J.cond_f rfl (by (first | rfl | assumption | (simp; done) | (simp; omega))) ?_
    refine J.skip ?_
    refine JE.then_normal ?_
    refine J.region ?_
    refine JL.step (y_move rfl) rfl rfl rfl ?_
    refine JL.step ((by first | exact y_nilCheck rfl | exact y_nilCheckF rfl | exact y_nilCheckY rfl)) rfl rfl rfl ?_
    refine JL.step (y_fieldAddr hT rfl rfl rfl rfl rfl rfl) rfl rfl rfl ?_
    refine JL.step (y_load1 hT rfl rfl rfl (by (exact Rd1.row (by (repeat (first | exact Pick.head | apply Pick.tail | apply Pick.app))) (by rfl)))) rfl rfl rfl ?_
    refine JL.step (y_sub rfl rfl rfl) rfl rfl rfl ?_
    refine JL.step ((by first | exact y_nilCheck rfl | exact y_nilCheckF rfl | exact y_nilCheckY rfl)) rfl rfl rfl ?_
    refine JL.step (y_fieldAddr hT rfl rfl rfl rfl rfl rfl) rfl rfl rfl ?_
    refine JL.loud rfl (l_store1 hT rfl rfl rfl rfl rfl (by (repeat (first | exact Pick.head | apply Pick.tail | apply Pick.app))) (by (first | omega | exact Nat.le_of_ble_eq_true rfl | decide | (simp; omega))) ?_)
    refine JL.nil ?_
    refine JE.then_normal ?_
    refine J.seq ?_
    refine J.region ?_
    refine JL.step (y_move rfl) rfl rfl rfl ?_
    refine JL.step ((by first | exact y_nilCheck rfl | exact y_nilCheckF rfl | exact y_nilCheckY rfl)) rfl rfl rfl ?_
    refine JL.step (y_fieldAddr hT rfl rfl rfl rfl rfl rfl) rfl rfl rfl ?_
    refine JL.step (y_load1 hT rfl rfl rfl (by (exact Rd1.row (by (repeat (first | exact Pick.head | apply Pick.tail | apply Pick.app))) (by rfl)))) rfl rfl rfl ?_
    refine JL.step (y_add rfl rfl rfl) rfl rfl rfl ?_
    refine JL.step ((by first | exact y_nilCheck rfl | exact y_nilCheckF rfl | exact y_nilCheckY rfl)) rfl rfl rfl ?_
    refine JL.step (y_fieldAddr hT rfl rfl rfl rfl rfl rfl) rfl rfl rfl ?_
    refine JL.loud rfl (l_store1 hT rfl rfl rfl rfl rfl (by (repeat (first | exact Pick.head | apply Pick.tail | apply Pick.app))) (by (first | omega | exact Nat.le_of_ble_eq_true rfl | decide | (simp; omega))) ?_)
    refine JL.nil ?_
    refine JE.then_normal ?_
    refine J.seq ?_
    refine J.region ?_
    refine JL.step (y_move rfl) rfl rfl rfl ?_
    refine JL.loud rfl (l_callV hent rfl rfl rfl ((hcl.imp fun w s => disk_shut (D := D.does) (sa := sa) (sc := sc) (pa := pa) (pc := pc) hok.does (by simpa [dcells, Dk.does, ha] using s))) ?_)
    rintro _ _ rfl
    refine JL.nil ?_
    refine JE.then_normal ?_
    refine J.seq ?_
    refine J.region ?_
    refine JL.step (y_assign rfl) rfl rfl rfl ?_
    refine JL.nil ?_
    refine JE.then_normal ?_
    refine J.ret ?_
    refine JE.ret1 (.inl rfl) rfl rfl (by (first | exact RV.tmp rfl | exact RV.cell1 hT rfl rfl rfl (by (exact Rd1.row (by (repeat (first | exact Pick.head | apply Pick.tail | apply Pick.app))) (by rfl))) | exact RV.cellN hT rfl rfl rfl (by (first | exact RdN.rowAll (by (repeat (first | exact Pick.head | apply Pick.tail | apply Pick.app))) | exact RdN.own (by (repeat (first | exact Pick.head | apply Pick.tail | apply Pick.app))))) (by (first | rfl | assumption | (simp; done) | omega)))) ?_
    exact ⟨rfl, rfl⟩
  | false =>
    refine Fc.of_body (c := ?codeC) Try.func43 ?hb Try.ntmps43 ?hl ?_
    case hb => exact rfl
    case hl => exact rfl
    refine J.disk fun sa sc pa pc hok => ?_
    refine J.seq ?_
    refine J.region ?_
    refine JL.step (y_assign rfl) rfl rfl rfl ?_
    refine JL.nil ?_
    refine JE.then_normal ?_
    refine J.seq ?_
    refine J.seq ?_
    refine J.region ?_
    refine JL.step (y_move rfl) rfl rfl rfl ?_
    refine JL.step ((by first | exact y_nilCheck rfl | exact y_nilCheckF rfl | exact y_nilCheckY rfl)) rfl rfl rfl ?_
    refine JL.step (y_fieldAddr hT rfl rfl rfl rfl rfl rfl) rfl rfl rfl ?_
    refine JL.step (y_load1 hT rfl rfl rfl (by (exact Rd1.row (by (repeat (first | exact Pick.head | apply Pick.tail | apply Pick.app))) (by rfl)))) rfl rfl rfl ?_
    refine JL.nil ?_
    refine JE.then_normal ?_
    refine J.cond_f rfl (by (first | rfl | assumption | (simp; done) | (simp; omega))) ?_
    refine J.skip ?_
    refine JE.then_normal ?_
    refine J.seq ?_
    refine J.region ?_
    refine JL.step (y_move rfl) rfl rfl rfl ?_
    refine JL.step ((by first | exact y_nilCheck rfl | exact y_nilCheckF rfl | exact y_nilCheckY rfl)) rfl rfl rfl ?_
    refine JL.step (y_fieldAddr hT rfl rfl rfl rfl rfl rfl) rfl rfl rfl ?_
    refine JL.step (y_load1 hT rfl rfl rfl (by (exact Rd1.row (by (repeat (first | exact Pick.head | apply Pick.tail | apply Pick.app))) (by rfl)))) rfl rfl rfl ?_
    refine JL.step (y_add rfl rfl rfl) rfl rfl rfl ?_
    refine JL.step ((by first | exact y_nilCheck rfl | exact y_nilCheckF rfl | exact y_nilCheckY rfl)) rfl rfl rfl ?_
    refine JL.step (y_fieldAddr hT rfl rfl rfl rfl rfl rfl) rfl rfl rfl ?_
    refine JL.loud rfl (l_store1 hT rfl rfl rfl rfl rfl (by (repeat (first | exact Pick.head | apply Pick.tail | apply Pick.app))) (by (first | omega | exact Nat.le_of_ble_eq_true rfl | decide | (simp; omega))) ?_)
    refine JL.nil ?_
    refine JE.then_normal ?_
    refine J.seq ?_
    refine J.region ?_
    refine JL.step (y_move rfl) rfl rfl rfl ?_
    refine JL.loud rfl (l_callV hent rfl rfl rfl ((hcl.imp fun w s => disk_shut (D := D.does) (sa := sa) (sc := sc) (pa := pa) (pc := pc) hok.does (by simpa [dcells, Dk.does, ha] using s))) ?_)
    rintro _ _ rfl
    refine JL.nil ?_
    refine JE.then_normal ?_
    refine J.seq ?_
    refine J.region ?_
    refine JL.step (y_assign rfl) rfl rfl rfl ?_
    refine JL.nil ?_
    refine JE.then_normal ?_
    refine J.ret ?_
    refine JE.ret1 (.inl rfl) rfl rfl (by (first | exact RV.tmp rfl | exact RV.cell1 hT rfl rfl rfl (by (exact Rd1.row (by (repeat (first | exact Pick.head | apply Pick.tail | apply Pick.app))) (by rfl))) | exact RV.cellN hT rfl rfl rfl (by (first | exact RdN.rowAll (by (repeat (first | exact Pick.head | apply Pick.tail | apply Pick.app))) | exact RdN.own (by (repeat (first | exact Pick.head | apply Pick.tail | apply Pick.app))))) (by (first | rfl | assumption | (simp; done) | omega)))) ?_
    exact ⟨rfl, rfl⟩
/-- The pending writes that live. -/
def liveOn (lv : Nat → Bool) : List (Int × Blk) → Nat → List Blk → List Blk
  | [], _, s => s
  | p :: r, k, s => liveOn lv r (k + 1) (if lv k then s.set p.1.toNat p.2 else s)
def Dk.settle (D : Dk) (lv : Nat → Bool) : Dk := { D with safe := liveOn lv D.pending 0 D.safe, pending := [] }
theorem liveOn_length (lv : Nat → Bool) : ∀ (l : List (Int × Blk)) (k : Nat) (s : List Blk), (liveOn lv l k s).length = s.length
  | [], _, _ => rfl
  | p :: r, k, s => by simp only [liveOn]; rw [liveOn_length]; split <;> simp
theorem liveOn_blk (lv : Nat → Bool) : ∀ (l : List (Int × Blk)) (k : Nat) (s : List Blk), (∀ p ∈ l, p.2.length = 64) → (∀ b ∈ s, b.length = 64) → ∀ b ∈ liveOn lv l k s, b.length = 64
  | [], _, _, _, hs => hs
  | p :: r, k, s, hl, hs => by
    simp only [liveOn]
    refine liveOn_blk lv r _ _ (fun q hq => hl q (by simp [hq])) ?_
    split
    · intro b hb
      rcases List.mem_or_eq_of_mem_set hb with h | h
      · exact hs b h
      · subst h; exact hl p (by simp)
    · exact hs
theorem Dk.Ok.settle {D : Dk} (h : D.Ok) (lv : Nat → Bool) : (D.settle lv).Ok :=
  ⟨liveOn_blk lv _ _ _ (fun p hp => (h.pend p hp).1) h.safe, fun p hp => by simp [Dk.settle] at hp, by simp only [Dk.settle, liveOn_length]; exact h.some, by simp only [Dk.settle, liveOn_length]; exact h.most, h.left⟩
structure SetI (D : Dk) (lv : Nat → Bool) (s : Nat × List Blk) : Prop where
  le : s.1 ≤ D.pending.length
  len : s.2.length = D.safe.length
  blk : ∀ b ∈ s.2, b.length = 64
  on : liveOn lv (D.pending.drop s.1) s.1 s.2 = liveOn lv D.pending 0 D.safe
theorem SetI.next {D : Dk} {lv : Nat → Bool} {s : Nat × List Blk} (h : SetI D lv s) (hok : D.Ok) {p : Int × Blk} (hp : D.pending[s.1]? = some p) : SetI D lv (s.1 + 1, if lv s.1 then s.2.set p.1.toNat p.2 else s.2) := by
  have hlt : s.1 < D.pending.length := by
    rcases Nat.lt_or_ge s.1 D.pending.length with h | h
    · exact h
    · simp [List.getElem?_eq_none h] at hp
  have hm := List.mem_of_getElem? hp
  refine ⟨hlt, by dsimp only; split <;> simp [h.len], ?_, ?_⟩
  · dsimp only
    split
    · intro b hb
      rcases List.mem_or_eq_of_mem_set hb with hb | hb
      · exact h.blk b hb
      · subst hb; exact (hok.pend p hm).1
    · exact h.blk
  · have := h.on
    rw [List.drop_eq_getElem_cons hlt] at this
    rw [List.getElem?_eq_getElem hlt] at hp
    cases hp
    exact this
theorem settle_spec (d : Nat) (D : Dk) (f : FuncId) (hent : Ent prog f) (cs : List Value) (r : List HProp) (lv : Nat → Bool) (hpn : D.pending.length ≤ 1000000)
    (hlv : ∀ m i, i < D.pending.length → Fc prog E f ([Value.int .i64 (i : Nat)] ++ cs).toArray (m ++ r) (fun v l' => v = .bool (lv i) ∧ l' = m ++ r)) :
    Fc prog E 40 [Value.pointer (some ⟨d, 0, none⟩), .func (.func f) #[] cs.toArray].toArray (disk d D :: r) (fun v l' => v = .tuple #[] ∧ l' = disk d (D.settle lv) :: r) := by
  refine Fc.eqs ?_
  refine Fc.of_body (c := ?codeC) Try.func40 ?hb Try.ntmps40 ?hl ?_
  case hb => exact rfl
  case hl => exact rfl
  refine J.disk fun sa sc pa pc hok => ?_
  refine J.picks (Pick.tail (Pick.tail Pick.head)) ?_
  refine J.own_addr fun gp hgp hpc => ?_
  refine J.picks (Pick.tail (Pick.tail Pick.head)) ?_
  refine J.owns (fun _ h0 _ => by have := hok.some; omega) fun gs cap sp hv hsc hm hl hfull => ?_
  simp only [Value.slice.injEq] at hv
  obtain ⟨rfl, _, rfl⟩ := hv
  refine J.seq ?_
  refine J.seq ?_
  refine J.region ?_
  refine JL.step (y_move rfl) rfl rfl rfl ?_
  refine JL.step ((by first | exact y_nilCheck rfl | exact y_nilCheckF rfl | exact y_nilCheckY rfl)) rfl rfl rfl ?_
  refine JL.step (y_fieldAddr hT rfl rfl rfl rfl rfl rfl) rfl rfl rfl ?_
  refine JL.step (y_load1 hT rfl rfl rfl (by (exact Rd1.row (by (repeat (first | exact Pick.head | apply Pick.tail | apply Pick.app))) (by rfl)))) rfl rfl rfl ?_
  refine JL.step (y_len_slice hT rfl rfl rfl) rfl rfl rfl (JL.step (y_move rfl) rfl rfl rfl ?_)
  refine JL.nil ?_
  refine JE.then_normal ?_
  refine J.block ?_
  refine J.loop (α := Nat × List Blk) (SetI D lv) (fun s => [(0, .pointer (some ⟨d, 0, none⟩)), (1, .func (.func f) #[] cs.toArray), (9, .slice pa D.pending.length pc), (10, .int .i64 D.pending.length), (11, .int .i64 s.1)]) (fun s => row gs 71 (s.2.flatMap encB ++ sp) :: own 96 65 (.slice pa D.pending.length pc) D.pending.length (D.pending.flatMap encW) :: row d 64 (dcells D (some ⟨gs, 0, none⟩) sc pa pc) :: r) (fun s => D.pending.length - s.1) (0, D.safe) ⟨by omega, rfl, hok.safe, rfl⟩ ⟨rfl, rfl, rfl, rfl, rfl, trivial⟩ (fun w h => h) ?_
  rintro ⟨k, s⟩ hI
  dsimp only
  refine J.seq ?_
  refine J.region ?_
  refine JL.step (y_lss rfl rfl) rfl rfl rfl ?_
  refine JL.nil ?_
  refine JE.then_normal ?_
  refine J.seq ?_
  first | apply J.cond_dec rfl | apply J.cond rfl
  case' ht =>
    intro h
    try (first | (exfalso; omega) | (cases h; done) | (exfalso; simp at h; done) | subst h)
    all_goals
      refine J.skip ?_
  case' hf =>
    intro h
    try (first | (exfalso; omega) | (cases h; done) | (exfalso; simp at h; done) | subst h)
    all_goals
      refine J.exit ?_
      refine JE.then_exit ?_
      refine JE.then_exit ?_
      refine JE.block_exit ?_
      refine JE.then_normal ?_
      refine J.region ?_
      refine JL.step (y_move rfl) rfl rfl rfl ?_
      refine JL.step ((by first | exact y_nilCheck rfl | exact y_nilCheckF rfl | exact y_nilCheckY rfl)) rfl rfl rfl ?_
      refine JL.step (y_fieldAddr hT rfl rfl rfl rfl rfl rfl) rfl rfl rfl ?_
      refine JL.loud rfl (l_store1 hT rfl rfl rfl rfl rfl (by (repeat (first | exact Pick.head | apply Pick.tail | apply Pick.app))) (by (first | omega | exact Nat.le_of_ble_eq_true rfl | decide | (simp; omega))) ?_)
      refine JL.nil ?_
      refine JE.ret0 (.inr rfl) rfl rfl  ?_
      refine ⟨rfl, fun w q => ?_⟩
      have hk : k = D.pending.length := by have := hI.le; dsimp only at this h; omega
      subst hk
      have hs : s = liveOn lv D.pending 0 D.safe := by have := hI.on; rwa [List.drop_length] at this
      have hlen : s.length = D.safe.length := hI.len
      have q1 := (q.pick (Pick.tail (Pick.tail Pick.head))).drop
      have hseg : (s.flatMap encB).length = s.length * 64 := seg_len (fun b hb => by rw [encB_length]; exact hI.blk b hb)
      have q2 := (q1.pick (Pick.tail Pick.head)).owned (m := s.length) (cap := sc) (size := 64) (by omega) hm hseg (by rw [List.length_append] at hfull ⊢; rw [hseg, hlen]; omega)
      have q3 := (q2.own_nil (e := 96) (size := 65)).divide (Split.cons (Pick.tail (Pick.tail Pick.head)) (Split.cons (Pick.tail Pick.head) (Split.cons Pick.head Split.nil)))
      refine disk_shut (D := D.settle lv) (sa := some ⟨gs, 0, none⟩) (sc := sc) (pa := none) (pc := 0) (hok.settle lv) ?_
      have e : (D.settle lv).safe = s := hs.symm
      rw [e]
      have e2 : dcells (D.settle lv) (some ⟨gs, 0, none⟩) sc none 0 = (dcells D (some ⟨gs, 0, none⟩) sc pa pc).set 1 (.slice none 0 0) := by
        simp only [dcells, liveOn_length, Dk.settle, List.length_nil, List.set_cons_succ, List.set_cons_zero]
      rw [e2]
      exact q3
  all_goals refine JE.then_normal ?_
  all_goals
    refine J.seq ?_
    refine J.block ?_
    refine J.seq ?_
    refine J.region ?_
    refine JL.step (y_move rfl) rfl rfl rfl ?_
    obtain rfl := hgp (by omega)
    obtain ⟨p, hp⟩ : ∃ p, D.pending[k]? = some p := ⟨_, List.getElem?_eq_getElem (by omega)⟩
    have hpo := hok.pend p (List.mem_of_getElem? hp)
    have hWl : (encW p).length = 65 := by simp [encW, hpo.1]
    have hBl : (encB p.2).length = 64 := by simp [hpo.1]
    have hseg : (s.flatMap encB).length = s.length * 64 := seg_len (fun b hb => by rw [encB_length]; exact hI.blk b hb)
    have hlen : s.length = D.safe.length := hI.len
    have hfit : 0 + p.1.toNat * i71.size + (encB p.2).length ≤ (s.flatMap encB ++ sp).length := by
      rw [hBl, List.length_append, hseg, hlen, show i71.size = 64 from rfl]
      omega
    refine JL.step (y_indexAddr_slice hT rfl rfl rfl rfl rfl (by (first | omega | exact Nat.le_of_ble_eq_true rfl | decide | (simp; omega))) (by (first | omega | exact Nat.le_of_ble_eq_true rfl | decide | (simp; omega)))) rfl rfl rfl ?_
    refine JL.step (y_loadN hT rfl rfl rfl ((RdN.own (by (repeat (first | exact Pick.head | apply Pick.tail | apply Pick.app)))).elem hok.segW hp) hWl) rfl rfl rfl ?_
    refine JL.loud rfl (l_alloc hT rfl rfl (by (first | rfl | simp)) rfl (fun b2 => ?_))
    refine JL.step (y_assign rfl) rfl rfl rfl ?_
    refine JL.loud rfl (l_storeAll hT rfl rfl rfl (by (first | rfl | assumption | (simp; done) | omega)) (by (first | assumption | exact ones_of rfl | exact encW_one _ | exact encB_one _ | (intro u hu; simp at hu; rcases hu with rfl | rfl <;> rfl) | (intro u hu; simp at hu; subst hu; rfl) | simp)) (by (repeat (first | exact Pick.head | apply Pick.tail | apply Pick.app))) (by (first | rfl | assumption | (simp; done) | omega)) ?_)
    refine JL.nil ?_
    refine JE.then_normal ?_
    refine J.seq ?_
    refine J.region ?_
    refine JL.step (y_move rfl) rfl rfl rfl (JL.step (y_move rfl) rfl rfl rfl ?_)
    refine JL.loud rfl (l_callV hent rfl rfl rfl (hlv (_ :: _ :: _ :: _ :: []) k (by omega)) ?_)
    rintro _ _ ⟨rfl, rfl⟩
    refine JL.nil ?_
    refine JE.then_normal ?_
    first | apply J.cond_dec rfl | apply J.cond rfl
    case' ht =>
      intro h
      try (first | (exfalso; omega) | (cases h; done) | (exfalso; simp at h; done) | subst h)
      all_goals
        refine J.draw _ _ [(0, .q), (1, .q), (2, .q), (3, .q), (4, .q), (5, .q), (6, .q), (7, .q), (8, .q), (9, .l)] mixed (by kernel_rfl) (Split.cons (Pick.tail Pick.head) (Split.nil)) ?_
        refine JM.quiet rfl rfl rfl rfl (fun m => y_move rfl) ?_
        refine JM.quiet rfl rfl rfl rfl (fun m => (by first | exact y_nilCheck rfl | exact y_nilCheckF rfl | exact y_nilCheckY rfl)) ?_
        refine JM.quiet rfl rfl rfl rfl (fun m => y_fieldAddr hT rfl rfl rfl rfl rfl rfl) ?_
        refine JM.quiet rfl rfl rfl rfl (fun m => y_load1 hT rfl rfl rfl (by (exact Rd1.row (Pick.app m (by (repeat (first | exact Pick.head | apply Pick.tail | apply Pick.app)))) (by rfl)))) ?_
        refine JM.quiet rfl rfl rfl rfl (fun m => y_fieldAddr hT rfl rfl rfl rfl rfl rfl) ?_
        refine JM.quiet rfl rfl rfl rfl (fun m => y_load1 hT rfl rfl rfl (by (exact Rd1.row (Pick.app m (by (repeat (first | exact Pick.head | apply Pick.tail | apply Pick.app)))) (by rfl)))) ?_
        refine JM.quiet rfl rfl rfl rfl (fun m => y_fieldAddr hT rfl rfl rfl rfl rfl rfl) ?_
        refine JM.quiet rfl rfl rfl rfl (fun m => y_loadN hT rfl rfl rfl (RdN.row (n := 64) (vs := encB p.2) (Pick.app m (by (repeat (first | exact Pick.head | apply Pick.tail | apply Pick.app)))) (by simp [encW, List.take_of_length_le, hpo.1])) hBl) ?_
        refine JM.quiet rfl rfl rfl rfl (fun m => y_indexAddr_slice hT rfl rfl rfl rfl rfl (by (first | omega | exact Nat.le_of_ble_eq_true rfl | decide | (simp; omega))) (by (first | omega | exact Nat.le_of_ble_eq_true rfl | decide | (simp; omega)))) ?_
        refine JM.loud rfl rfl (fun fr => l_storeN hT rfl rfl rfl hBl (encB_one _) Pick.head hfit ⟨[_], (by (repeat (first | exact Split.nil | exact Split.all | refine Split.cons Pick.head ?_))), ?_⟩)
        refine JM.nil ?_
    case' hf =>
      intro h
      try (first | (exfalso; omega) | (cases h; done) | (exfalso; simp at h; done) | subst h)
      all_goals
        refine J.skip ?_
    all_goals refine JE.block_normal ?_
    all_goals refine JE.then_normal ?_
    all_goals
      refine J.region ?_
      refine JL.step (y_add rfl rfl (by (first | exact wrap_i64 (by omega) (by omega) | rfl))) rfl rfl rfl ?_
      refine JL.step (y_move rfl) rfl rfl rfl ?_
      refine JL.nil ?_
  all_goals
    by_cases hb : lv k = true
    · try (exfalso; rw [h] at hb; exact Bool.false_ne_true hb)
      all_goals
        refine JE.round (s := (k, s)) (k + 1, s.set p.1.toNat p.2) (by have := hI.next hok hp; rwa [if_pos hb] at this) ⟨rfl, rfl, rfl, rfl, rfl, trivial⟩ (fun w q => ?_) (by omega)
        have e := seg_set (enc := encB) (sp := sp) (xs := s) (i := p.1.toNat) (y := p.2) (fun b hb => by rw [encB_length]; exact hI.blk b hb) (by omega)
        rw [hBl, Nat.zero_add] at q
        rw [← e]
        exact (q.pick (Pick.tail Pick.head)).drop
    · try (exfalso; exact hb h)
      all_goals
        refine JE.round (s := (k, s)) (k + 1, s) (by have := hI.next hok hp; rwa [if_neg hb] at this) ⟨rfl, rfl, rfl, rfl, rfl, trivial⟩ (fun w q => ?_) (by omega)
        exact q.drop
def Dk.sync (D : Dk) : Dk × Int := if D.dead then (D, 7) else if D.armed ∧ D.left = 0 then (D.dies, 7) else (D.does.settle (fun _ => true), 0)
theorem yes_spec (l : List HProp) (v : Value) : Fc prog E 49 [v].toArray l (fun u l' => u = .bool true ∧ l' = l) := by
  refine Fc.of_body (c := ?codeC) Try.func49 ?hb Try.ntmps49 ?hl ?_
  case hb => exact rfl
  case hl => exact rfl
  refine J.seq ?_
  refine J.region ?_
  refine JL.step (y_assign rfl) rfl rfl rfl ?_
  refine JL.nil ?_
  refine JE.then_normal ?_
  refine J.seq ?_
  refine J.region ?_
  refine JL.step (y_assign rfl) rfl rfl rfl ?_
  refine JL.nil ?_
  refine JE.then_normal ?_
  refine J.ret ?_
  refine JE.ret1 (.inl rfl) rfl rfl (by (first | exact RV.tmp rfl | exact RV.cell1 hT rfl rfl rfl (by (exact Rd1.row (by (repeat (first | exact Pick.head | apply Pick.tail | apply Pick.app))) (by rfl))) | exact RV.cellN hT rfl rfl rfl (by (first | exact RdN.rowAll (by (repeat (first | exact Pick.head | apply Pick.tail | apply Pick.app))) | exact RdN.own (by (repeat (first | exact Pick.head | apply Pick.tail | apply Pick.app))))) (by (first | rfl | assumption | (simp; done) | omega)))) ?_
  exact ⟨rfl, rfl⟩
theorem sync1_spec (b d : Nat) (D : Dk) (r : List HProp) (hpn : D.pending.length ≤ 1000000) :
    Fc prog E 48 [Value.pointer (some ⟨b, 0, none⟩)].toArray (disk d D :: row b 25 [.pointer (some ⟨d, 0, none⟩)] :: r) (fun _ l' => l' = disk d (D.settle (fun _ => true)) :: row b 25 [.pointer (some ⟨d, 0, none⟩)] :: r) := by
  refine Fc.of_body (c := ?codeC) Try.func48 ?hb Try.ntmps48 ?hl ?_
  case hb => exact rfl
  case hl => exact rfl
  refine J.region ?_
  refine JL.step (y_load1 hT rfl rfl rfl (by (exact Rd1.row (by (repeat (first | exact Pick.head | apply Pick.tail | apply Pick.app))) (by rfl)))) rfl rfl rfl ?_
  refine JL.loud rfl (l_callF e40 rfl rfl (settle_spec E d D 49 e49 [] _ (fun _ => true) hpn (fun m i _ => yes_spec E _ _)) ?_)
  rintro _ _ ⟨rfl, rfl⟩
  refine JL.nil ?_
  all_goals
    refine JE.ret0 (.inr rfl) rfl rfl  ?_
    rfl
theorem ready0 {D : Dk} (h : D.Ok) : D.ready 0 = if D.dead then 7 else 0 := by
  have := h.some
  have h' : ¬ ((0 : Int) < 0 ∨ (D.safe.length : Int) ≤ 0) := by omega
  simp only [Dk.ready, h', if_false]
theorem sync_spec (d : Nat) (D : Dk) (r : List HProp) (hpn : D.pending.length ≤ 1000000) :
    Fc prog E 25 [Value.pointer (some ⟨d, 0, none⟩)].toArray (disk d D :: r) (fun v l' => v = .int .i64 D.sync.2 ∧ l' = disk d D.sync.1 :: r) := by
  refine disk_okd fun hok => Fc.eqs ?_
  have hr := ready0 hok
  by_cases hd : D.dead = true
  · simp only [hd, if_true] at hr
    simp only [Dk.sync, hd, if_true]
    refine Fc.of_body (c := ?codeC) Try.func25 ?hb Try.ntmps25 ?hl ?_
    case hb => exact rfl
    case hl => exact rfl
    refine J.seq ?_
    refine J.region ?_
    refine JL.loud rfl (l_box rfl (by (first | rfl | simp)) rfl (fun b1 => ?_))
    refine JL.step (y_assign rfl) rfl rfl rfl ?_
    refine JL.nil ?_
    refine JE.then_normal ?_
    refine J.seq ?_
    refine J.seq ?_
    refine J.region ?_
    refine JL.step (y_load1 hT rfl rfl rfl (by (exact Rd1.row (by (repeat (first | exact Pick.head | apply Pick.tail | apply Pick.app))) (by rfl)))) rfl rfl rfl ?_
    refine JL.loud rfl (l_callF e39 rfl rfl ((ready_spec E d D 0 _).split (Split.cons (by (repeat (first | exact Pick.head | apply Pick.tail | apply Pick.app))) Split.nil)) ?_)
    rintro _ _ ⟨rfl, rfl⟩
    refine JL.step (y_assign rfl) rfl rfl rfl ?_
    refine JL.nil ?_
    refine JE.then_normal ?_
    refine J.seq ?_
    rw [hr]
    refine J.region ?_
    refine JL.step (y_move rfl) rfl rfl rfl (JL.step (y_neq rfl rfl) rfl rfl rfl ?_)
    refine JL.nil ?_
    refine JE.then_normal ?_
    refine J.cond_t rfl (by (first | rfl | assumption | (simp; done) | (simp; omega))) ?_
    refine J.seq ?_
    refine J.region ?_
    refine JL.step (y_move rfl) rfl rfl rfl (JL.step (y_assign rfl) rfl rfl rfl ?_)
    refine JL.nil ?_
    refine JE.then_normal ?_
    refine J.ret ?_
    refine JE.then_ret ?_
    refine JE.ret1 (.inl rfl) rfl rfl (by (first | exact RV.tmp rfl | exact RV.cell1 hT rfl rfl rfl (by (exact Rd1.row (by (repeat (first | exact Pick.head | apply Pick.tail | apply Pick.app))) (by rfl))) | exact RV.cellN hT rfl rfl rfl (by (first | exact RdN.rowAll (by (repeat (first | exact Pick.head | apply Pick.tail | apply Pick.app))) | exact RdN.own (by (repeat (first | exact Pick.head | apply Pick.tail | apply Pick.app))))) (by (first | rfl | assumption | (simp; done) | omega)))) ?_
    exact ⟨rfl, fun w q => (q.pick (Pick.tail Pick.head)).drop⟩
  · simp only [hd] at hr
    simp only [Dk.sync, hd]
    by_cases ha : D.armed = true ∧ D.left = 0
    · simp only [ha, and_self, if_true]
      refine Fc.of_body (c := ?codeC) Try.func25 ?hb Try.ntmps25 ?hl ?_
      case hb => exact rfl
      case hl => exact rfl
      refine J.seq ?_
      refine J.region ?_
      refine JL.loud rfl (l_box rfl (by (first | rfl | simp)) rfl (fun b1 => ?_))
      refine JL.step (y_assign rfl) rfl rfl rfl ?_
      refine JL.nil ?_
      refine JE.then_normal ?_
      refine J.seq ?_
      refine J.seq ?_
      refine J.region ?_
      refine JL.step (y_load1 hT rfl rfl rfl (by (exact Rd1.row (by (repeat (first | exact Pick.head | apply Pick.tail | apply Pick.app))) (by rfl)))) rfl rfl rfl ?_
      refine JL.loud rfl (l_callF e39 rfl rfl ((ready_spec E d D 0 _).split (Split.cons (by (repeat (first | exact Pick.head | apply Pick.tail | apply Pick.app))) Split.nil)) ?_)
      rintro _ _ ⟨rfl, rfl⟩
      refine JL.step (y_assign rfl) rfl rfl rfl ?_
      refine JL.nil ?_
      refine JE.then_normal ?_
      refine J.seq ?_
      rw [hr]
      refine J.region ?_
      refine JL.step (y_move rfl) rfl rfl rfl (JL.step (y_neq rfl rfl) rfl rfl rfl ?_)
      refine JL.nil ?_
      refine JE.then_normal ?_
      refine J.cond_f rfl (by (first | rfl | assumption | (simp; done) | (simp; omega))) ?_
      refine J.skip ?_
      refine JE.then_normal ?_
      refine J.seq ?_
      refine J.region ?_
      refine JL.step (y_load1 hT rfl rfl rfl (by (exact Rd1.row (by (repeat (first | exact Pick.head | apply Pick.tail | apply Pick.app))) (by rfl)))) rfl rfl rfl ?_
      refine JL.step (y_makeFunc rfl rfl) rfl rfl rfl ?_
      refine JL.loud rfl (l_callF e43 rfl rfl ((do_dies E d D _ _ _ ha.1 ha.2).split (Split.cons (by (repeat (first | exact Pick.head | apply Pick.tail | apply Pick.app))) Split.nil)) ?_)
      rintro _ _ ⟨rfl, rfl⟩
      refine JL.step (y_assign rfl) rfl rfl rfl ?_
      refine JL.nil ?_
      refine JE.then_normal ?_
      refine J.ret ?_
      refine JE.ret1 (.inl rfl) rfl rfl (by (first | exact RV.tmp rfl | exact RV.cell1 hT rfl rfl rfl (by (exact Rd1.row (by (repeat (first | exact Pick.head | apply Pick.tail | apply Pick.app))) (by rfl))) | exact RV.cellN hT rfl rfl rfl (by (first | exact RdN.rowAll (by (repeat (first | exact Pick.head | apply Pick.tail | apply Pick.app))) | exact RdN.own (by (repeat (first | exact Pick.head | apply Pick.tail | apply Pick.app))))) (by (first | rfl | assumption | (simp; done) | omega)))) ?_
      exact ⟨rfl, fun w q => (q.pick (Pick.tail Pick.head)).drop⟩
    · simp only [ha, if_false]
      refine Fc.of_body (c := ?codeC) Try.func25 ?hb Try.ntmps25 ?hl ?_
      case hb => exact rfl
      case hl => exact rfl
      refine J.seq ?_
      refine J.region ?_
      refine JL.loud rfl (l_box rfl (by (first | rfl | simp)) rfl (fun b1 => ?_))
      refine JL.step (y_assign rfl) rfl rfl rfl ?_
      refine JL.nil ?_
      refine JE.then_normal ?_
      refine J.seq ?_
      refine J.seq ?_
      refine J.region ?_
      refine JL.step (y_load1 hT rfl rfl rfl (by (exact Rd1.row (by (repeat (first | exact Pick.head | apply Pick.tail | apply Pick.app))) (by rfl)))) rfl rfl rfl ?_
      refine JL.loud rfl (l_callF e39 rfl rfl ((ready_spec E d D 0 _).split (Split.cons (by (repeat (first | exact Pick.head | apply Pick.tail | apply Pick.app))) Split.nil)) ?_)
      rintro _ _ ⟨rfl, rfl⟩
      refine JL.step (y_assign rfl) rfl rfl rfl ?_
      refine JL.nil ?_
      refine JE.then_normal ?_
      refine J.seq ?_
      rw [hr]
      refine J.region ?_
      refine JL.step (y_move rfl) rfl rfl rfl (JL.step (y_neq rfl rfl) rfl rfl rfl ?_)
      refine JL.nil ?_
      refine JE.then_normal ?_
      refine J.cond_f rfl (by (first | rfl | assumption | (simp; done) | (simp; omega))) ?_
      refine J.skip ?_
      refine JE.then_normal ?_
      refine J.seq ?_
      refine J.region ?_
      refine JL.step (y_load1 hT rfl rfl rfl (by (exact Rd1.row (by (repeat (first | exact Pick.head | apply Pick.tail | apply Pick.app))) (by rfl)))) rfl rfl rfl ?_
      refine JL.step (y_makeFunc rfl rfl) rfl rfl rfl ?_
      refine JL.loud rfl (l_callF e43 rfl rfl ((do_does E d D _ _ e48 [_] _ ha (sync1_spec E _ d D.does _ hpn)).split (Split.cons (by (repeat (first | exact Pick.head | apply Pick.tail | apply Pick.app))) Split.nil)) ?_)
      rintro _ _ ⟨rfl, rfl⟩
      refine JL.step (y_assign rfl) rfl rfl rfl ?_
      refine JL.nil ?_
      refine JE.then_normal ?_
      refine J.ret ?_
      refine JE.ret1 (.inl rfl) rfl rfl (by (first | exact RV.tmp rfl | exact RV.cell1 hT rfl rfl rfl (by (exact Rd1.row (by (repeat (first | exact Pick.head | apply Pick.tail | apply Pick.app))) (by rfl))) | exact RV.cellN hT rfl rfl rfl (by (first | exact RdN.rowAll (by (repeat (first | exact Pick.head | apply Pick.tail | apply Pick.app))) | exact RdN.own (by (repeat (first | exact Pick.head | apply Pick.tail | apply Pick.app))))) (by (first | rfl | assumption | (simp; done) | omega)))) ?_
      exact ⟨rfl, fun w q => (q.pick (Pick.tail Pick.head)).drop⟩
def Dk.push (D : Dk) (i : Int) (b : Blk) : Dk := { D with pending := D.pending ++ [(i, b)] }
theorem Dk.Ok.push {D : Dk} (h : D.Ok) {i : Int} {b : Blk} (hb : b.length = 64) (hi : 0 ≤ i ∧ i < D.safe.length) : (D.push i b).Ok :=
  ⟨h.safe, fun p hp => by
    simp only [Dk.push, List.mem_append, List.mem_singleton] at hp
    rcases hp with hp | rfl
    · exact h.pend p hp
    · exact ⟨hb, hi⟩, h.some, h.most, h.left⟩
theorem write1_spec (b0 b1 b2 d : Nat) (D : Dk) (i : Int) (b : Blk) (hb : b.length = 64) (hi : 0 ≤ i ∧ i < D.safe.length) (r : List HProp) (hpn : D.pending.length ≤ 1000000) :
    Fc prog E 44 [Value.pointer (some ⟨b0, 0, none⟩), .pointer (some ⟨b1, 0, none⟩), .pointer (some ⟨b2, 0, none⟩)].toArray
      (disk d D :: row b0 25 [.pointer (some ⟨d, 0, none⟩)] :: row b1 3 [.int .i64 i] :: row b2 71 (encB b) :: r)
      (fun _ l' => l' = disk d (D.push i b) :: row b0 25 [.pointer (some ⟨d, 0, none⟩)] :: row b1 3 [.int .i64 i] :: row b2 71 (encB b) :: r) := by
  refine Fc.post ?_
  have hBl : (encB b).length = 64 := by rw [encB_length]; exact hb
  have hWl : (encW (i, b)).length = 65 := by simp [encW, hb]
  refine Fc.of_body (c := ?codeC) Try.func44 ?hb Try.ntmps44 ?hl ?_
  case hb => exact rfl
  case hl => exact rfl
  refine J.disk fun sa sc pa pc hok => ?_
  refine J.draw _ _ [(0, .q), (1, .q), (2, .q), (3, .q), (5, .q), (6, .q), (7, .q), (4, .l), (8, .n), (9, .l), (10, .q), (11, .q), (12, .l)] mixed (by kernel_rfl) (Split.cons (Pick.head) (Split.cons (Pick.tail Pick.head) (Split.nil))) ?_
  refine JM.quiet rfl rfl rfl rfl (fun m => y_load1 hT rfl rfl rfl (by (exact Rd1.row (Pick.app m (by (repeat (first | exact Pick.head | apply Pick.tail | apply Pick.app)))) (by rfl)))) ?_
  refine JM.quiet rfl rfl rfl rfl (fun m => y_load1 hT rfl rfl rfl (by (exact Rd1.row (Pick.app m (by (repeat (first | exact Pick.head | apply Pick.tail | apply Pick.app)))) (by rfl)))) ?_
  refine JM.quiet rfl rfl rfl rfl (fun m => (by first | exact y_nilCheck rfl | exact y_nilCheckF rfl | exact y_nilCheckY rfl)) ?_
  refine JM.quiet rfl rfl rfl rfl (fun m => y_fieldAddr hT rfl rfl rfl rfl rfl rfl) ?_
  refine JM.quiet rfl rfl rfl rfl (fun m => y_load1 hT rfl rfl rfl (by (exact Rd1.row (Pick.app m (by (repeat (first | exact Pick.head | apply Pick.tail | apply Pick.app)))) (by rfl)))) ?_
  refine JM.quiet rfl rfl rfl rfl (fun m => y_loadN hT rfl rfl rfl (RdN.row (n := 64) (vs := encB b) (Pick.app m (by (repeat (first | exact Pick.head | apply Pick.tail | apply Pick.app)))) (by simp [List.take_of_length_le, hb])) hBl) ?_
  refine JM.quiet rfl rfl rfl rfl (fun m => y_build (cs := encW (i, b)) hT rfl rfl rfl rfl rfl rfl ⟨⟨rfl, Nat.le_of_ble_eq_true rfl⟩, ⟨hBl, Nat.le_of_ble_eq_true rfl⟩, trivial⟩ (fillE_two rfl hBl)) ?_
  refine JM.loud rfl rfl (fun fr => LS.ofY rfl rfl (y_load1 hT rfl rfl rfl (by (exact Rd1.row (by (repeat (first | exact Pick.head | apply Pick.tail | apply Pick.app))) (by rfl)))) ⟨[_, _], (by (repeat (first | exact Split.nil | exact Split.all | refine Split.cons Pick.head ?_))), ?_⟩)
  refine JM.lay rfl rfl rfl rfl (fun a hf => lays_buildSlice hT rfl rfl rfl rfl hf rfl rfl rfl (by (first | exact fill_one rfl (by first | assumption | rfl | (simp; done)) | rfl | simp))) (fun b1 => ?_)
  refine JM.loud rfl rfl (fun fr => l_append hT rfl rfl rfl rfl rfl rfl rfl rfl (by (repeat (first | exact Pick.head | apply Pick.tail | apply Pick.app))) (by (first | exact RdN.rowAll (by (repeat (first | exact Pick.head | apply Pick.tail | apply Pick.app))) | exact RdN.own (by (repeat (first | exact Pick.head | apply Pick.tail | apply Pick.app))))) (by (first | rfl | assumption | (simp; done) | omega)) (by (first | assumption | exact ones_of rfl | exact encW_one _ | exact encB_one _ | (intro u hu; simp at hu; rcases hu with rfl | rfl <;> rfl) | (intro u hu; simp at hu; subst hu; rfl) | simp)) (by (first | exact Nat.le_trans (Nat.mul_le_mul_left _ (Nat.le_of_ble_eq_true rfl : _ ≤ 4096)) (by omega) | exact Nat.le_trans (Nat.mul_le_mul_left _ (Nat.le_of_ble_eq_true rfl : _ ≤ 1)) (by omega))) (by (first | omega | exact Nat.le_of_ble_eq_true rfl | decide | (simp; omega))) rfl (fun ab2 cb2 hb2 => ⟨[_, _, _], (by (repeat (first | exact Split.nil | exact Split.all | refine Split.cons Pick.head ?_))), ?_⟩))
  refine JM.quiet rfl rfl rfl rfl (fun m => (by first | exact y_nilCheck rfl | exact y_nilCheckF rfl | exact y_nilCheckY rfl)) ?_
  refine JM.quiet rfl rfl rfl rfl (fun m => y_fieldAddr hT rfl rfl rfl rfl rfl rfl) ?_
  refine JM.loud rfl rfl (fun fr => l_store1 hT rfl rfl rfl rfl rfl (by (repeat (first | exact Pick.head | apply Pick.tail | apply Pick.app))) (by (first | omega | exact Nat.le_of_ble_eq_true rfl | decide | (simp; omega))) (⟨[_, _, _], (by (repeat (first | exact Split.nil | exact Split.all | refine Split.cons Pick.head ?_))), ?_⟩))
  refine JM.nil ?_
  all_goals
    refine JE.ret0 (.inr rfl) rfl rfl  ?_
    refine ⟨_, fun w q => ?_, rfl⟩
    refine disk_shut (D := D.push i b) (sa := sa) (sc := sc) (pa := ab2) (pc := cb2) (hok.push hb hi) ?_
    have e1 : (D.push i b).pending.length = D.pending.length + 1 := by simp [Dk.push]
    have e2 : (D.push i b).pending.flatMap encW = D.pending.flatMap encW ++ encW (i, b) := by simp [Dk.push]
    have e3 : dcells (D.push i b) sa sc ab2 cb2 = (dcells D sa sc pa pc).set 1 (.slice ab2 (D.pending.length + 1) cb2) := by simp [dcells, Dk.push]
    rw [e1, e2, e3]
    exact ((q.pick (Pick.tail (Pick.tail Pick.head))).drop).divide (Split.cons Pick.head (Split.cons (Pick.tail Pick.head) (Split.cons Pick.head Split.nil)))
end Go.Proofs.Ytimekohdlofmaaa
namespace Go.Proofs.Ytimekohdlofmaaa
open Go Go.SL
attribute [local irreducible] J JL JE JM LS Y Fc RV Code.wp wpList Code.wpIn wpListIn
variable (E : World)
def Dk.write (D : Dk) (i : Int) (b : Blk) : Dk × Int := if D.ready i ≠ 0 then (D, D.ready i) else if D.armed ∧ D.left = 0 then (D.dies, 7) else (D.does.push i b, 0)
theorem ready_zero {D : Dk} {i : Int} (h : D.ready i = 0) : D.dead = false ∧ 0 ≤ i ∧ i < D.safe.length := by
  simp only [Dk.ready] at h
  split at h
  · simp at h
  · split at h
    · simp at h
    · rename_i h1 h2; exact ⟨by simpa using h1, by omega⟩
theorem write_spec (d : Nat) (D : Dk) (i : Int) (b : Blk) (hb : b.length = 64) (r : List HProp) (hpn : D.pending.length ≤ 1000000) :
    Fc prog E 23 [Value.pointer (some ⟨d, 0, none⟩), .int .i64 i, .agg (encB b).toArray].toArray (disk d D :: r) (fun v l' => v = .int .i64 (D.write i b).2 ∧ l' = disk d (D.write i b).1 :: r) := by
  refine Fc.eqs ?_
  by_cases hr : D.ready i = 0
  · have hz := ready_zero hr
    have hr' : decide (¬ D.ready i = 0) = false := by simp [hr]
    by_cases ha : D.armed = true ∧ D.left = 0
    · simp only [Dk.write, hr, ha, and_self, ne_eq, not_true_eq_false, if_false, if_true]
      refine Fc.of_body (c := ?codeC) Try.func23 ?hb Try.ntmps23 ?hl ?_
      case hb => exact rfl
      case hl => exact rfl
      refine J.seq ?_
      refine J.region ?_
      refine JL.loud rfl (l_box rfl (by (first | rfl | simp)) rfl (fun b1 => ?_))
      refine JL.loud rfl (l_box rfl (by (first | rfl | simp)) rfl (fun b2 => ?_))
      refine JL.loud rfl (l_box rfl (by (first | rfl | simp)) rfl (fun b3 => ?_))
      refine JL.step (y_assign rfl) rfl rfl rfl ?_
      refine JL.nil ?_
      refine JE.then_normal ?_
      refine J.seq ?_
      refine J.seq ?_
      refine J.region ?_
      refine JL.step (y_load1 hT rfl rfl rfl (by (exact Rd1.row (by (repeat (first | exact Pick.head | apply Pick.tail | apply Pick.app))) (by rfl)))) rfl rfl rfl ?_
      refine JL.step (y_load1 hT rfl rfl rfl (by (exact Rd1.row (by (repeat (first | exact Pick.head | apply Pick.tail | apply Pick.app))) (by rfl)))) rfl rfl rfl ?_
      refine JL.loud rfl (l_callF e39 rfl rfl ((ready_spec E d D i _).split (Split.cons (by (repeat (first | exact Pick.head | apply Pick.tail | apply Pick.app))) Split.nil)) ?_)
      rintro _ _ ⟨rfl, rfl⟩
      refine JL.step (y_assign rfl) rfl rfl rfl ?_
      refine JL.nil ?_
      refine JE.then_normal ?_
      refine J.seq ?_
      refine J.region ?_
      refine JL.step (y_move rfl) rfl rfl rfl (JL.step (y_neq rfl rfl) rfl rfl rfl ?_)
      refine JL.nil ?_
      refine JE.then_normal ?_
      refine J.cond_f rfl (by (first | rfl | assumption | (simp; done) | (simp; omega))) ?_
      refine J.skip ?_
      refine JE.then_normal ?_
      refine J.seq ?_
      refine J.region ?_
      refine JL.step (y_load1 hT rfl rfl rfl (by (exact Rd1.row (by (repeat (first | exact Pick.head | apply Pick.tail | apply Pick.app))) (by rfl)))) rfl rfl rfl ?_
      refine JL.step (y_makeFunc rfl rfl) rfl rfl rfl ?_
      refine JL.loud rfl (l_callF e43 rfl rfl ((do_dies E d D _ _ _ ha.1 ha.2).split (Split.cons (by (repeat (first | exact Pick.head | apply Pick.tail | apply Pick.app))) Split.nil)) ?_)
      rintro _ _ ⟨rfl, rfl⟩
      refine JL.step (y_assign rfl) rfl rfl rfl ?_
      refine JL.nil ?_
      refine JE.then_normal ?_
      refine J.ret ?_
      refine JE.ret1 (.inl rfl) rfl rfl (by (first | exact RV.tmp rfl | exact RV.cell1 hT rfl rfl rfl (by (exact Rd1.row (by (repeat (first | exact Pick.head | apply Pick.tail | apply Pick.app))) (by rfl))) | exact RV.cellN hT rfl rfl rfl (by (first | exact RdN.rowAll (by (repeat (first | exact Pick.head | apply Pick.tail | apply Pick.app))) | exact RdN.own (by (repeat (first | exact Pick.head | apply Pick.tail | apply Pick.app))))) (by (first | rfl | assumption | (simp; done) | omega)))) ?_
      exact ⟨rfl, fun w q => (((q.pick (Pick.tail Pick.head)).drop.pick (Pick.tail Pick.head)).drop.pick (Pick.tail Pick.head)).drop⟩
    · simp only [Dk.write, hr, ha, ne_eq, not_true_eq_false, if_false]
      refine Fc.of_body (c := ?codeC) Try.func23 ?hb Try.ntmps23 ?hl ?_
      case hb => exact rfl
      case hl => exact rfl
      refine J.seq ?_
      refine J.region ?_
      refine JL.loud rfl (l_box rfl (by (first | rfl | simp)) rfl (fun b1 => ?_))
      refine JL.loud rfl (l_box rfl (by (first | rfl | simp)) rfl (fun b2 => ?_))
      refine JL.loud rfl (l_box rfl (by (first | rfl | simp)) rfl (fun b3 => ?_))
      refine JL.step (y_assign rfl) rfl rfl rfl ?_
      refine JL.nil ?_
      refine JE.then_normal ?_
      refine J.seq ?_
      refine J.seq ?_
      refine J.region ?_
      refine JL.step (y_load1 hT rfl rfl rfl (by (exact Rd1.row (by (repeat (first | exact Pick.head | apply Pick.tail | apply Pick.app))) (by rfl)))) rfl rfl rfl ?_
      refine JL.step (y_load1 hT rfl rfl rfl (by (exact Rd1.row (by (repeat (first | exact Pick.head | apply Pick.tail | apply Pick.app))) (by rfl)))) rfl rfl rfl ?_
      refine JL.loud rfl (l_callF e39 rfl rfl ((ready_spec E d D i _).split (Split.cons (by (repeat (first | exact Pick.head | apply Pick.tail | apply Pick.app))) Split.nil)) ?_)
      rintro _ _ ⟨rfl, rfl⟩
      refine JL.step (y_assign rfl) rfl rfl rfl ?_
      refine JL.nil ?_
      refine JE.then_normal ?_
      refine J.seq ?_
      refine J.region ?_
      refine JL.step (y_move rfl) rfl rfl rfl (JL.step (y_neq rfl rfl) rfl rfl rfl ?_)
      refine JL.nil ?_
      refine JE.then_normal ?_
      refine J.cond_f rfl (by (first | rfl | assumption | (simp; done) | (simp; omega))) ?_
      refine J.skip ?_
      refine JE.then_normal ?_
      refine J.seq ?_
      refine J.region ?_
      refine JL.step (y_load1 hT rfl rfl rfl (by (exact Rd1.row (by (repeat (first | exact Pick.head | apply Pick.tail | apply Pick.app))) (by rfl)))) rfl rfl rfl ?_
      refine JL.step (y_makeFunc rfl rfl) rfl rfl rfl ?_
      refine JL.loud rfl (l_callF e43 rfl rfl ((do_does E d D _ _ e44 [_, _, _] _ ha (write1_spec E _ _ _ d D.does i b hb hz.2 _ hpn)).split (Split.cons (by (repeat (first | exact Pick.head | apply Pick.tail | apply Pick.app))) (Split.cons (by (repeat (first | exact Pick.head | apply Pick.tail | apply Pick.app))) (Split.cons (by (repeat (first | exact Pick.head | apply Pick.tail | apply Pick.app))) (Split.cons (by (repeat (first | exact Pick.head | apply Pick.tail | apply Pick.app))) Split.nil))))) ?_)
      rintro _ _ ⟨rfl, rfl⟩
      refine JL.step (y_assign rfl) rfl rfl rfl ?_
      refine JL.nil ?_
      refine JE.then_normal ?_
      refine J.ret ?_
      refine JE.ret1 (.inl rfl) rfl rfl (by (first | exact RV.tmp rfl | exact RV.cell1 hT rfl rfl rfl (by (exact Rd1.row (by (repeat (first | exact Pick.head | apply Pick.tail | apply Pick.app))) (by rfl))) | exact RV.cellN hT rfl rfl rfl (by (first | exact RdN.rowAll (by (repeat (first | exact Pick.head | apply Pick.tail | apply Pick.app))) | exact RdN.own (by (repeat (first | exact Pick.head | apply Pick.tail | apply Pick.app))))) (by (first | rfl | assumption | (simp; done) | omega)))) ?_
      exact ⟨rfl, fun w q => (((q.pick (Pick.tail Pick.head)).drop.pick (Pick.tail Pick.head)).drop.pick (Pick.tail Pick.head)).drop⟩
  · simp only [Dk.write, hr, ne_eq, not_false_eq_true, if_true]
    have hr' : decide (¬ D.ready i = 0) = true := by simp [hr]
    refine Fc.of_body (c := ?codeC) Try.func23 ?hb Try.ntmps23 ?hl ?_
    case hb => exact rfl
    case hl => exact rfl
    refine J.seq ?_
    refine J.region ?_
    refine JL.loud rfl (l_box rfl (by (first | rfl | simp)) rfl (fun b1 => ?_))
    refine JL.loud rfl (l_box rfl (by (first | rfl | simp)) rfl (fun b2 => ?_))
    refine JL.loud rfl (l_box rfl (by (first | rfl | simp)) rfl (fun b3 => ?_))
    refine JL.step (y_assign rfl) rfl rfl rfl ?_
    refine JL.nil ?_
    refine JE.then_normal ?_
    refine J.seq ?_
    refine J.seq ?_
    refine J.region ?_
    refine JL.step (y_load1 hT rfl rfl rfl (by (exact Rd1.row (by (repeat (first | exact Pick.head | apply Pick.tail | apply Pick.app))) (by rfl)))) rfl rfl rfl ?_
    refine JL.step (y_load1 hT rfl rfl rfl (by (exact Rd1.row (by (repeat (first | exact Pick.head | apply Pick.tail | apply Pick.app))) (by rfl)))) rfl rfl rfl ?_
    refine JL.loud rfl (l_callF e39 rfl rfl ((ready_spec E d D i _).split (Split.cons (by (repeat (first | exact Pick.head | apply Pick.tail | apply Pick.app))) Split.nil)) ?_)
    rintro _ _ ⟨rfl, rfl⟩
    refine JL.step (y_assign rfl) rfl rfl rfl ?_
    refine JL.nil ?_
    refine JE.then_normal ?_
    refine J.seq ?_
    refine J.region ?_
    refine JL.step (y_move rfl) rfl rfl rfl (JL.step (y_neq rfl rfl) rfl rfl rfl ?_)
    refine JL.nil ?_
    refine JE.then_normal ?_
    refine J.cond_t rfl (by (first | rfl | assumption | (simp; done) | (simp; omega))) ?_
    refine J.seq ?_
    refine J.region ?_
    refine JL.step (y_move rfl) rfl rfl rfl (JL.step (y_assign rfl) rfl rfl rfl ?_)
    refine JL.nil ?_
    refine JE.then_normal ?_
    refine J.ret ?_
    refine JE.then_ret ?_
    refine JE.ret1 (.inl rfl) rfl rfl (by (first | exact RV.tmp rfl | exact RV.cell1 hT rfl rfl rfl (by (exact Rd1.row (by (repeat (first | exact Pick.head | apply Pick.tail | apply Pick.app))) (by rfl))) | exact RV.cellN hT rfl rfl rfl (by (first | exact RdN.rowAll (by (repeat (first | exact Pick.head | apply Pick.tail | apply Pick.app))) | exact RdN.own (by (repeat (first | exact Pick.head | apply Pick.tail | apply Pick.app))))) (by (first | rfl | assumption | (simp; done) | omega)))) ?_
    exact ⟨rfl, fun w q => (((q.pick (Pick.tail Pick.head)).drop.pick (Pick.tail Pick.head)).drop.pick (Pick.tail Pick.head)).drop⟩
end Go.Proofs.Ytimekohdlofmaaa
namespace Go.Proofs.Ytimekohdlofmaaa
open Go Go.SL
attribute [local irreducible] J JL JE JM LS Y Fc RV Code.wp wpList Code.wpIn wpListIn
attribute [local irreducible] Yc
variable (E : World)
theorem backward_spec (v : Value) (l : List HProp) (hv : v.oneCell' = true) : Fc prog E 72 [v].toArray l
    (fun u l' => ∃ b, u = .func (.func 82) #[] [Value.pointer (some ⟨b, 0, none⟩)].toArray ∧ l' = row b 62 [v] :: l) := by
  have hvc : v.cells = [v].toArray := by cases v <;> simp_all [Value.cells, Value.oneCell']
  refine Fc.of_body (c := ?codeC) Try.func72 ?hb Try.ntmps72 ?hl ?_
  case hb => exact rfl
  case hl => exact rfl
  refine J.seq ?_
  refine J.region ?_
  refine JL.loud rfl (l_box rfl hvc rfl (fun b1 => ?_))
  refine JL.step (y_assign rfl) rfl rfl rfl ?_
  refine JL.nil ?_
  refine JE.then_normal ?_
  refine J.seq ?_
  refine J.region ?_
  refine JL.step (y_makeFunc rfl rfl) rfl rfl rfl (JL.step (y_assign rfl) rfl rfl rfl ?_)
  refine JL.nil ?_
  refine JE.then_normal ?_
  refine J.ret ?_
  refine JE.ret1 (.inl rfl) rfl rfl (by (first | exact RV.tmp rfl | exact RV.cell1 hT rfl rfl rfl (by (exact Rd1.row (by (repeat (first | exact Pick.head | apply Pick.tail | apply Pick.app))) (by rfl))) | exact RV.cellN hT rfl rfl rfl (by (first | exact RdN.rowAll (by (repeat (first | exact Pick.head | apply Pick.tail | apply Pick.app))) | exact RdN.own (by (repeat (first | exact Pick.head | apply Pick.tail | apply Pick.app))))) (by (first | rfl | assumption | (simp; done) | omega)))) ?_
  exact ⟨b1, rfl, rfl⟩
/-- What a round finds and leaves. -/
theorem backward1_spec (k b : Nat) (pa : Option Addr) (pc : Nat) (xs : List (Int × Blk)) (hxs : ∀ x ∈ xs, (encW x).length = 65) (hn : xs.length ≤ 1000000) (St Fin : Nat → List HProp)
    (hrd : ∀ j, j < xs.length → ∃ g o, pa = some ⟨g, o, none⟩ ∧ ∀ m, RdN (m ++ St j) g o (xs.flatMap encW))
    (hy : ∀ j x, j < xs.length → xs[xs.length - 1 - j]? = some x → Yc prog E k [Value.int .i64 ((xs.length : Int) - 1 - j), .agg (encW x).toArray].toArray (row b 62 [.slice pa xs.length pc] :: St j)
      (fun v l' => (v = .bool true ∧ l' = row b 62 [.slice pa xs.length pc] :: St (j + 1)) ∨ (v = .bool false ∧ l' = row b 62 [.slice pa xs.length pc] :: Fin j))) :
    Fc prog E 82 [.func (.yield k) #[] #[], Value.pointer (some ⟨b, 0, none⟩)].toArray (row b 62 [.slice pa xs.length pc] :: St 0)
      (fun _ l' => l' = row b 62 [.slice pa xs.length pc] :: St xs.length ∨ ∃ j, j < xs.length ∧ l' = row b 62 [.slice pa xs.length pc] :: Fin j) := by
  refine Fc.of_body (c := ?codeC) Try.func82 ?hb Try.ntmps82 ?hl ?_
  case hb => exact rfl
  case hl => exact rfl
  refine J.seq ?_
  refine J.region ?_
  refine JL.step (y_load1 hT rfl rfl rfl (by (exact Rd1.row (by (repeat (first | exact Pick.head | apply Pick.tail | apply Pick.app))) (by rfl)))) rfl rfl rfl ?_
  refine JL.step (y_len_slice hT rfl rfl rfl) rfl rfl rfl ?_
  refine JL.step (y_sub rfl rfl (by (first | exact wrap_i64 (by omega) (by omega) | rfl))) rfl rfl rfl ?_
  refine JL.step (y_assign rfl) rfl rfl rfl ?_
  refine JL.nil ?_
  refine JE.then_normal ?_
  refine J.block ?_
  refine J.loop (α := Nat) (fun j => j ≤ xs.length) (fun j => [(0, .func (.yield k) #[] #[]), (1, .pointer (some ⟨b, 0, none⟩)), (3, .int .i64 ((xs.length : Int) - 1 - j))]) (fun j => row b 62 [.slice pa xs.length pc] :: St j) (fun j => xs.length - j) 0 (by omega) ⟨rfl, rfl, (congrArg (fun z => some (Value.int .i64 z)) (by omega)), trivial⟩ (fun w h => h) ?_
  intro j hj
  refine J.seq ?_
  refine J.seq ?_
  refine J.region ?_
  refine JL.step (y_move rfl) rfl rfl rfl (JL.step (y_geq rfl rfl) rfl rfl rfl ?_)
  refine JL.nil ?_
  refine JE.then_normal ?_
  first | apply J.cond_dec rfl | apply J.cond rfl
  case' ht =>
    intro h
    try (first | (exfalso; omega) | (cases h; done) | (exfalso; simp at h; done) | subst h)
    all_goals
      refine J.skip ?_
  case' hf =>
    intro h
    try (first | (exfalso; omega) | (cases h; done) | (exfalso; simp at h; done) | subst h)
    all_goals
      refine J.exit ?_
      refine JE.then_exit ?_
      refine JE.then_exit ?_
      refine JE.block_exit ?_
      refine JE.ret0 (.inr rfl) rfl rfl  ?_
      first
      | exact .inr ⟨j, hlt, rfl⟩
      | (obtain rfl : j = xs.length := by omega
         exact .inl rfl)
  all_goals refine JE.then_normal ?_
  all_goals
    refine J.seq ?_
    refine J.block ?_
    refine J.seq ?_
    refine J.region ?_
    refine JL.step (y_move rfl) rfl rfl rfl (JL.step (y_move rfl) rfl rfl rfl ?_)
    refine JL.step (y_load1 hT rfl rfl rfl (by (exact Rd1.row (by (repeat (first | exact Pick.head | apply Pick.tail | apply Pick.app))) (by rfl)))) rfl rfl rfl ?_
    refine JL.step (y_move rfl) rfl rfl rfl ?_
    have hlt : j < xs.length := by omega
    obtain ⟨g, o, rfl, hr⟩ := hrd j hlt
    obtain ⟨x, hx⟩ : ∃ x, xs[xs.length - 1 - j]? = some x := ⟨_, List.getElem?_eq_getElem (by omega)⟩
    have hxl := hxs x (List.mem_of_getElem? hx)
    refine JL.step (y_indexAddr_slice hT rfl rfl rfl rfl rfl (by (first | omega | exact Nat.le_of_ble_eq_true rfl | decide | (simp; omega))) (by (first | omega | exact Nat.le_of_ble_eq_true rfl | decide | (simp; omega)))) rfl rfl rfl ?_
    refine JL.step (y_loadN hT rfl rfl rfl (vs := encW x) (by
      have h1 := (hr [row b 62 [.slice (some ⟨g, o, none⟩) xs.length pc]]).elem hxs hx
      have e1 : ((xs.length : Int) - 1 - (j : Int)).toNat = xs.length - 1 - j := by omega
      rw [e1]; exact h1) hxl) rfl rfl rfl ?_
    refine JL.yield rfl rfl rfl (hy j x hlt hx) ?_
    rintro _ _ (⟨rfl, rfl⟩ | ⟨rfl, rfl⟩)
    all_goals (refine JL.step (y_not rfl) rfl rfl rfl ?_)
    all_goals refine JL.nil ?_
    all_goals refine JE.then_normal ?_
    all_goals
      first | apply J.cond_dec rfl | apply J.cond rfl
      case' ht =>
        intro h
        try (first | (exfalso; omega) | (cases h; done) | (exfalso; simp at h; done) | subst h)
        all_goals
          refine J.ret ?_
          refine JE.block_ret ?_
          refine JE.then_ret ?_
          refine JE.then_ret ?_
          refine JE.block_ret ?_
          refine JE.ret0 (.inl rfl) rfl rfl  ?_
          first
          | exact .inr ⟨j, hlt, rfl⟩
          | (obtain rfl : j = xs.length := by omega
             exact .inl rfl)
      case' hf =>
        intro h
        try (first | (exfalso; omega) | (cases h; done) | (exfalso; simp at h; done) | subst h)
        all_goals
          refine J.skip ?_
    all_goals refine JE.block_normal ?_
    all_goals refine JE.then_normal ?_
    all_goals
      refine J.region ?_
      refine JL.step (y_move rfl) rfl rfl rfl ?_
      refine JL.step (y_sub rfl rfl (by (first | exact wrap_i64 (by omega) (by omega) | rfl))) rfl rfl rfl ?_
      refine JL.step (y_assign rfl) rfl rfl rfl ?_
      refine JL.nil ?_
  all_goals
    refine JE.round (s := j) (j + 1) (by omega) ⟨rfl, rfl, (congrArg (fun z => some (Value.int .i64 z)) (by omega)), trivial⟩ (fun w h => h) (by omega)
def zeroB : Blk := List.replicate 64 0
theorem encB_zero : encB zeroB = List.replicate 64 (Value.int .u8 0) := by simp [encB, ints, zeroB]
/-- What a sector holds. -/
def Dk.find (D : Dk) (i : Int) : Blk := match D.pending.reverse.find? (fun p => p.1 = i) with
  | some p => p.2
  | none => D.safe.getD i.toNat []
def Dk.read (D : Dk) (i : Int) : Blk := if D.ready i = 0 then D.find i else zeroB
/-- The last j pending writes are of other sectors. -/
def Other (D : Dk) (i : Int) (j : Nat) : Prop := ∀ q, D.pending.length - j ≤ q → ∀ p, D.pending[q]? = some p → p.1 ≠ i
theorem find_none {D : Dk} {i : Int} (h : Other D i D.pending.length) : D.find i = D.safe.getD i.toNat [] := by
  have e : D.pending.reverse.find? (fun p => p.1 = i) = none := by
    rw [List.find?_eq_none]
    intro p hp
    obtain ⟨q, hq⟩ := List.mem_iff_getElem?.1 (List.mem_reverse.1 hp)
    simpa using h q (by omega) p hq
  simp [Dk.find, e]
theorem find_some {D : Dk} {i : Int} {j : Nat} {x : Int × Blk} (hj : j < D.pending.length) (h : Other D i j) (hx : D.pending[D.pending.length - 1 - j]? = some x) (hi : x.1 = i) : D.find i = x.2 := by
  have e : D.pending.reverse.find? (fun p => p.1 = i) = some x := by
    rw [List.find?_eq_some_iff_getElem]
    have hl : D.pending.length - 1 - j < D.pending.length := by omega
    rw [List.getElem?_eq_getElem hl] at hx
    refine ⟨by simpa using hi, j, by simpa using hj, ?_, fun q hq => ?_⟩
    · rw [List.getElem_reverse]; exact Option.some.inj hx
    · rw [List.getElem_reverse]
      simpa using h (D.pending.length - 1 - q) (by omega) _ (List.getElem?_eq_getElem (by omega))
  simp [Dk.find, e]
theorem Other.next {D : Dk} {i : Int} {j : Nat} {x : Int × Blk} (h : Other D i j) (hx : D.pending[D.pending.length - 1 - j]? = some x) (hi : ¬ x.1 = i) : Other D i (j + 1) := by
  intro q hq p hp
  by_cases hqe : q = D.pending.length - 1 - j
  · subst hqe; rw [hx] at hp; cases hp; exact hi
  · exact h q (by omega) p hp
theorem Dk.Ok.find {D : Dk} (h : D.Ok) {i : Int} (hi : 0 ≤ i ∧ i < D.safe.length) : (D.find i).length = 64 := by
  unfold Dk.find
  split
  · rename_i p hp
    have := List.mem_of_find?_eq_some hp
    exact (h.pend p (List.mem_reverse.1 this)).1
  · rw [List.getD_eq_getElem?_getD, List.getElem?_eq_getElem (by omega)]
    exact h.safe _ (List.getElem_mem _)
theorem read_bad (d : Nat) (D : Dk) (i : Int) (r : List HProp) (hr : ¬ D.ready i = 0) :
    Fc prog E 50 [Value.pointer (some ⟨d, 0, none⟩), .int .i64 i].toArray (disk d D :: r) (fun v l' => v = .tuple #[.agg (encB zeroB).toArray, .int .i64 (D.ready i)] ∧ l' = disk d D :: r) := by
  refine Fc.eqs ?_
  rw [encB_zero]
  have hr' : decide (¬ D.ready i = 0) = true := by simp [hr]
  refine Fc.of_bodyM (c := ?codeC) Try.func50 ?hb Try.ntmps50 ?hl ?_
  case hb => exact rfl
  case hl => exact rfl
  refine J.seq ?_
  refine J.region ?_
  refine JL.loud rfl (l_box rfl (by (first | rfl | simp)) rfl (fun b1 => ?_))
  refine JL.loud rfl (l_alloc hT rfl rfl (by (first | rfl | simp)) rfl (fun b2 => ?_))
  refine JL.loud rfl (l_alloc hT rfl rfl (by (first | rfl | simp)) rfl (fun b3 => ?_))
  refine JL.nil ?_
  refine JE.then_normal ?_
  refine J.seq ?_
  refine J.seq ?_
  refine J.region ?_
  refine JL.step (y_move rfl) rfl rfl rfl ?_
  refine JL.step (y_load1 hT rfl rfl rfl (by (exact Rd1.row (by (repeat (first | exact Pick.head | apply Pick.tail | apply Pick.app))) (by rfl)))) rfl rfl rfl ?_
  refine JL.loud rfl (l_callF e39 rfl rfl ((ready_spec E d D i _).split (Split.cons (by (repeat (first | exact Pick.head | apply Pick.tail | apply Pick.app))) Split.nil)) ?_)
  rintro _ _ ⟨rfl, rfl⟩
  refine JL.step (y_assign rfl) rfl rfl rfl ?_
  refine JL.nil ?_
  refine JE.then_normal ?_
  refine J.seq ?_
  refine J.region ?_
  refine JL.step (y_move rfl) rfl rfl rfl (JL.step (y_neq rfl rfl) rfl rfl rfl ?_)
  refine JL.nil ?_
  refine JE.then_normal ?_
  refine J.cond_t rfl (by (first | rfl | assumption | (simp; done) | (simp; omega))) ?_
  refine J.seq ?_
  refine J.region ?_
  refine JL.step (y_build_arr0 hT rfl rfl rfl rfl) rfl rfl rfl (JL.step (y_move rfl) rfl rfl rfl ?_)
  refine JL.loud rfl (l_storeAll hT rfl rfl rfl (by (first | rfl | assumption | (simp; done) | omega)) (by (first | assumption | exact ones_of rfl | exact encW_one _ | exact encB_one _ | (intro u hu; simp at hu; rcases hu with rfl | rfl <;> rfl) | (intro u hu; simp at hu; subst hu; rfl) | simp)) (by (repeat (first | exact Pick.head | apply Pick.tail | apply Pick.app))) (by (first | rfl | assumption | (simp; done) | omega)) ?_)
  refine JL.loud rfl (l_store1 hT rfl rfl rfl rfl rfl (by (repeat (first | exact Pick.head | apply Pick.tail | apply Pick.app))) (by (first | omega | exact Nat.le_of_ble_eq_true rfl | decide | (simp; omega))) ?_)
  refine JL.nil ?_
  refine JE.then_normal ?_
  refine J.ret ?_
  refine JE.then_ret ?_
  first | refine JE.unmark (.inl rfl) rfl (by (repeat (first | exact Pick.head | apply Pick.tail | apply Pick.app))) ?_ | refine JE.nomark (.inl rfl) rfl ?_
  refine JE.ret2 (.inl rfl) rfl rfl (by (first | exact RV.tmp rfl | exact RV.cell1 hT rfl rfl rfl (by (exact Rd1.row (by (repeat (first | exact Pick.head | apply Pick.tail | apply Pick.app))) (by rfl))) | exact RV.cellN hT rfl rfl rfl (by (first | exact RdN.rowAll (by (repeat (first | exact Pick.head | apply Pick.tail | apply Pick.app))) | exact RdN.own (by (repeat (first | exact Pick.head | apply Pick.tail | apply Pick.app))))) (by (first | rfl | assumption | (simp; done) | omega)))) (by (first | exact RV.tmp rfl | exact RV.cell1 hT rfl rfl rfl (by (exact Rd1.row (by (repeat (first | exact Pick.head | apply Pick.tail | apply Pick.app))) (by rfl))) | exact RV.cellN hT rfl rfl rfl (by (first | exact RdN.rowAll (by (repeat (first | exact Pick.head | apply Pick.tail | apply Pick.app))) | exact RdN.own (by (repeat (first | exact Pick.head | apply Pick.tail | apply Pick.app))))) (by (first | rfl | assumption | (simp; done) | omega)))) ?_
  refine ⟨rfl, fun w q => ?_⟩
  exact (q.drop.drop.pick (Pick.tail Pick.head)).drop
/-- The list of Read's loop, and how it is left. -/
def readS (D : Dk) (i : Int) (K : LoopState → Option Code → HProp) (DD d b1 b2 b3 : Nat) (sa : Option Addr) (sc : Nat) (pa : Option Addr) (pc : Nat) (r : List HProp) (j : Nat) : List HProp :=
  pur (Other D i j) :: K .ready none :: blk DD (.deferred (some [])) :: own 96 65 (.slice pa D.pending.length pc) D.pending.length (D.pending.flatMap encW) :: own 71 64 (.slice sa D.safe.length sc) D.safe.length (D.safe.flatMap encB) :: row d 64 (dcells D sa sc pa pc) :: row b3 26 [.int .i64 0] :: row b2 71 (List.replicate 64 (.int .u8 0)) :: row b1 3 [.int .i64 i] :: r
def readF (D : Dk) (i : Int) (K : LoopState → Option Code → HProp) (DD d b1 b2 b3 : Nat) (sa : Option Addr) (sc : Nat) (pa : Option Addr) (pc : Nat) (r : List HProp) (_ : Nat) : List HProp :=
  K .done (some .ret) :: blk DD (.deferred (some [])) :: own 96 65 (.slice pa D.pending.length pc) D.pending.length (D.pending.flatMap encW) :: own 71 64 (.slice sa D.safe.length sc) D.safe.length (D.safe.flatMap encB) :: row d 64 (dcells D sa sc pa pc) :: row b3 26 [.int .i64 0] :: row b2 71 (encB (D.find i)) :: row b1 3 [.int .i64 i] :: r
theorem read_good (d : Nat) (D : Dk) (i : Int) (r : List HProp) (hr : D.ready i = 0) (hpn : D.pending.length ≤ 1000000) :
    Fc prog E 50 [Value.pointer (some ⟨d, 0, none⟩), .int .i64 i].toArray (disk d D :: r) (fun v l' => v = .tuple #[.agg (encB (D.find i)).toArray, .int .i64 0] ∧ l' = disk d D :: r) := by
  refine disk_okd fun hok0 => Fc.eqs ?_
  have hz := ready_zero hr
  have hr' : decide (¬ D.ready i = 0) = false := by simp [hr]
  refine Fc.of_bodyM (c := ?codeC) Try.func50 ?hb Try.ntmps50 ?hl ?_
  case hb => exact rfl
  case hl => exact rfl
  refine J.seq ?_
  refine J.region ?_
  refine JL.loud rfl (l_box rfl (by (first | rfl | simp)) rfl (fun b1 => ?_))
  refine JL.loud rfl (l_alloc hT rfl rfl (by (first | rfl | simp)) rfl (fun b2 => ?_))
  refine JL.loud rfl (l_alloc hT rfl rfl (by (first | rfl | simp)) rfl (fun b3 => ?_))
  refine JL.nil ?_
  refine JE.then_normal ?_
  refine J.seq ?_
  refine J.seq ?_
  refine J.region ?_
  refine JL.step (y_move rfl) rfl rfl rfl ?_
  refine JL.step (y_load1 hT rfl rfl rfl (by (exact Rd1.row (by (repeat (first | exact Pick.head | apply Pick.tail | apply Pick.app))) (by rfl)))) rfl rfl rfl ?_
  refine JL.loud rfl (l_callF e39 rfl rfl ((ready_spec E d D i _).split (Split.cons (by (repeat (first | exact Pick.head | apply Pick.tail | apply Pick.app))) Split.nil)) ?_)
  rintro _ _ ⟨rfl, rfl⟩
  refine JL.step (y_assign rfl) rfl rfl rfl ?_
  refine JL.nil ?_
  refine JE.then_normal ?_
  refine J.seq ?_
  refine J.region ?_
  refine JL.step (y_move rfl) rfl rfl rfl (JL.step (y_neq rfl rfl) rfl rfl rfl ?_)
  refine JL.nil ?_
  refine JE.then_normal ?_
  refine J.cond_f rfl (by (first | rfl | assumption | (simp; done) | (simp; omega))) ?_
  refine J.skip ?_
  refine JE.then_normal ?_
  refine J.seq ?_
  refine J.seq ?_
  refine J.disk fun sa sc pa pc hok => ?_
  refine J.picks (Pick.tail Pick.head) (J.own_addr fun gs hgs hsc => ?_)
  obtain rfl := hgs hok.some
  refine J.picks (Pick.tail (Pick.tail Pick.head)) (J.own_addr fun gp hgp hpc => ?_)
  refine J.region ?_
  refine JL.step (y_move rfl) rfl rfl rfl ?_
  refine JL.step ((by first | exact y_nilCheck rfl | exact y_nilCheckF rfl | exact y_nilCheckY rfl)) rfl rfl rfl ?_
  refine JL.step (y_fieldAddr hT rfl rfl rfl rfl rfl rfl) rfl rfl rfl ?_
  refine JL.step (y_load1 hT rfl rfl rfl (by (exact Rd1.row (by (repeat (first | exact Pick.head | apply Pick.tail | apply Pick.app))) (by rfl)))) rfl rfl rfl ?_
  refine JL.loud rfl (l_callF e72 rfl rfl (backward_spec E _ _ rfl) ?_)
  rintro _ _ ⟨bb, rfl, rfl⟩
  refine JL.nil ?_
  refine JE.then_normal ?_
  refine J.block ?_
  refine J.rangeFunc e82 rfl fun fn a0 k DD K hK hf0 => ?_
  refine Fc.mono (Fc.imp (backward1_spec E k bb pa pc D.pending hok.segW hpn (readS D i K DD d b1 b2 b3 (some ⟨gs, 0, none⟩) sc pa pc r) (readF D i K DD d b1 b2 b3 (some ⟨gs, 0, none⟩) sc pa pc r) (fun j hj => ?hrd) (fun j x hj hx => ?hy)) ?hi) ?hm
  case hrd => exact ⟨gp, 0, hgp (by omega), fun m => by unfold readS; rw [hgp (by omega)]; exact RdN.own (Pick.app m (by (repeat (first | exact Pick.head | apply Pick.tail | apply Pick.app))))⟩
  case hi =>
    intro w s
    have s2 := s.divide (p := [row bb 62 [.slice pa D.pending.length pc], K .ready none]) (Split.cons (by (repeat (first | exact Pick.head | apply Pick.tail | apply Pick.app))) (Split.cons (by (repeat (first | exact Pick.head | apply Pick.tail | apply Pick.app))) Split.nil))
    exact ((s2.topur (p := Other D i 0) (fun q hq p hp => by simp [List.getElem?_eq_none (by omega : D.pending.length ≤ q)] at hp)).pick (Pick.tail Pick.head))
  case hy =>
    unfold readS
    refine Yc.split (Yc.purs fun hO => ?_) (Split.cons (Pick.tail Pick.head) (Split.cons (Pick.tail Pick.head) Split.nil))
    refine Yc.post ?_
    have hxl := hok.segW x (List.mem_of_getElem? hx)
    refine Yc.of_body hK hf0 rfl (by decide) ?_
    refine J.region ?_
    refine JL.loud rfl (l_alloc hT rfl rfl (by (first | rfl | simp)) rfl (fun b6 => ?_))
    refine JL.loud rfl (l_storeAll hT rfl rfl rfl (by (first | rfl | assumption | (simp; done) | omega)) (by (first | assumption | exact ones_of rfl | exact encW_one _ | exact encB_one _ | (intro u hu; simp at hu; rcases hu with rfl | rfl <;> rfl) | (intro u hu; simp at hu; subst hu; rfl) | simp)) (by (repeat (first | exact Pick.head | apply Pick.tail | apply Pick.app))) (by (first | rfl | assumption | (simp; done) | omega)) ?_)
    refine JL.nil ?_
    refine JE.assigned (by (repeat (first | exact Pick.head | apply Pick.tail | apply Pick.app))) ?_
    refine J.block ?_
    refine J.seq ?_
    refine J.region ?_
    refine JL.step (y_fieldAddr hT rfl rfl rfl rfl rfl rfl) rfl rfl rfl ?_
    refine JL.step (y_load1 hT rfl rfl rfl (by (exact Rd1.row (by (repeat (first | exact Pick.head | apply Pick.tail | apply Pick.app))) (by rfl)))) rfl rfl rfl ?_
    refine JL.step (y_load1 hT rfl rfl rfl (by (exact Rd1.row (by (repeat (first | exact Pick.head | apply Pick.tail | apply Pick.app))) (by rfl)))) rfl rfl rfl ?_
    refine JL.step (y_eql rfl rfl) rfl rfl rfl ?_
    refine JL.nil ?_
    refine JE.then_normal ?_
    first | apply J.cond_dec rfl | apply J.cond rfl
    case' ht =>
      intro h
      try (first | (exfalso; omega) | (cases h; done) | (exfalso; simp at h; done) | subst h)
      all_goals
        refine J.seq ?_
        refine J.region ?_
        refine JL.step (y_fieldAddr hT rfl rfl rfl rfl rfl rfl) rfl rfl rfl ?_
        refine JL.step (y_loadN hT rfl rfl rfl (RdN.row (n := 64) (vs := encB x.2) (by (repeat (first | exact Pick.head | apply Pick.tail | apply Pick.app))) (by simp [encW, List.take_of_length_le, (hok.pend x (List.mem_of_getElem? hx)).1])) ((encB_length _).trans (hok.pend x (List.mem_of_getElem? hx)).1)) rfl rfl rfl ?_
        have hxb : (encB x.2).length = 64 := (encB_length _).trans (hok.pend x (List.mem_of_getElem? hx)).1
        refine JL.loud rfl (l_storeAll hT rfl rfl rfl (by (first | rfl | assumption | (simp; done) | omega)) (by (first | assumption | exact ones_of rfl | exact encW_one _ | exact encB_one _ | (intro u hu; simp at hu; rcases hu with rfl | rfl <;> rfl) | (intro u hu; simp at hu; subst hu; rfl) | simp)) (by (repeat (first | exact Pick.head | apply Pick.tail | apply Pick.app))) (by (first | rfl | assumption | (simp; done) | omega)) ?_)
        refine JL.loud rfl (l_store1 hT rfl rfl rfl rfl rfl (by (repeat (first | exact Pick.head | apply Pick.tail | apply Pick.app))) (by (first | omega | exact Nat.le_of_ble_eq_true rfl | decide | (simp; omega))) ?_)
        refine JL.nil ?_
        refine JE.then_normal ?_
        refine J.ret ?_
        refine JE.block_ret ?_
        refine JE.round_ret hK (by (repeat (first | exact Pick.head | apply Pick.tail | apply Pick.app))) ?_
        refine ⟨_, fun w q => ?_, .inr ⟨rfl, rfl⟩⟩
        have hfind := find_some hj hO hx rfl
        unfold readF
        rw [hfind]
        exact q.sup (by (repeat (first | exact Sup.refl | apply Sup.cons (by (repeat (first | exact Pick.head | apply Pick.tail | apply Pick.app))) | apply Sup.app | apply Sup.skip | apply Sup.skips)))
    case' hf =>
      intro h
      try (first | (exfalso; omega) | (cases h; done) | (exfalso; simp at h; done) | subst h)
      all_goals
        refine J.skip ?_
    all_goals refine JE.block_normal ?_
    all_goals
      refine JE.round_on hK (by (repeat (first | exact Pick.head | apply Pick.tail | apply Pick.app))) ?_
      refine ⟨_, fun w q => ?_, .inl ⟨rfl, rfl⟩⟩
      exact (q.topur (hO.next hx h)).sup (by (repeat (first | exact Sup.refl | apply Sup.cons (by (repeat (first | exact Pick.head | apply Pick.tail | apply Pick.app))) | apply Sup.app | apply Sup.skip | apply Sup.skips)))
  case hm =>
    rintro _ _ (rfl | ⟨j, hj, rfl⟩)
    · refine ⟨.ready, none, _, Pick.tail (Pick.tail Pick.head), by simp, ?_⟩
      dsimp only
      refine JE.picks (Pick.tail Pick.head) (JE.purs fun hO => ?_)
      have hfind := find_none hO
      obtain ⟨x, hsi⟩ : ∃ x, D.safe[i.toNat]? = some x := ⟨_, List.getElem?_eq_getElem (by omega)⟩
      have hfx : D.find i = x := by rw [hfind]; simp [List.getD_eq_getElem?_getD, hsi]
      have hBl : (encB x).length = 64 := by rw [encB_length]; exact hok.safe _ (List.mem_of_getElem? hsi)
      rw [hfx]
      refine JE.block_normal ?_
      refine JE.then_normal ?_
      refine J.seq ?_
      refine J.draw _ _ [(0, .q), (1, .q), (2, .q), (3, .q), (4, .q), (5, .q), (6, .q), (7, .l), (8, .l)] mixed (by kernel_rfl) (Split.cons (Pick.tail (Pick.tail (Pick.tail (Pick.tail (Pick.tail (Pick.tail Pick.head)))))) (Split.cons (Pick.tail (Pick.tail (Pick.tail (Pick.tail (Pick.tail Pick.head))))) (Split.nil))) ?_
      refine JM.quiet rfl rfl rfl rfl (fun m => y_move rfl) ?_
      refine JM.quiet rfl rfl rfl rfl (fun m => (by first | exact y_nilCheck rfl | exact y_nilCheckF rfl | exact y_nilCheckY rfl)) ?_
      refine JM.quiet rfl rfl rfl rfl (fun m => y_fieldAddr hT rfl rfl rfl rfl rfl rfl) ?_
      refine JM.quiet rfl rfl rfl rfl (fun m => y_load1 hT rfl rfl rfl (by (exact Rd1.row (Pick.app m (by (repeat (first | exact Pick.head | apply Pick.tail | apply Pick.app)))) (by rfl)))) ?_
      refine JM.quiet rfl rfl rfl rfl (fun m => y_load1 hT rfl rfl rfl (by (exact Rd1.row (Pick.app m (by (repeat (first | exact Pick.head | apply Pick.tail | apply Pick.app)))) (by rfl)))) ?_
      refine JM.quiet rfl rfl rfl rfl (fun m => y_indexAddr_slice hT rfl rfl rfl rfl rfl (by (first | omega | exact Nat.le_of_ble_eq_true rfl | decide | (simp; omega))) (by (first | omega | exact Nat.le_of_ble_eq_true rfl | decide | (simp; omega)))) ?_
      refine JM.quiet rfl rfl rfl rfl (fun m => y_loadN hT rfl rfl rfl ((RdN.own (Pick.app m (by (repeat (first | exact Pick.head | apply Pick.tail | apply Pick.app))))).elem hok.segB hsi) hBl) ?_
      refine JM.loud rfl rfl (fun fr => l_storeAll hT rfl rfl rfl (by (first | rfl | assumption | (simp; done) | omega)) (by (first | assumption | exact ones_of rfl | exact encW_one _ | exact encB_one _ | (intro u hu; simp at hu; rcases hu with rfl | rfl <;> rfl) | (intro u hu; simp at hu; subst hu; rfl) | simp)) (by (repeat (first | exact Pick.head | apply Pick.tail | apply Pick.app))) (by (first | rfl | assumption | (simp; done) | omega)) (⟨[_, _], (by (repeat (first | exact Split.nil | exact Split.all | refine Split.cons Pick.head ?_))), ?_⟩))
      refine JM.loud rfl rfl (fun fr => l_store1 hT rfl rfl rfl rfl rfl (by (repeat (first | exact Pick.head | apply Pick.tail | apply Pick.app))) (by (first | omega | exact Nat.le_of_ble_eq_true rfl | decide | (simp; omega))) (⟨[_, _], (by (repeat (first | exact Split.nil | exact Split.all | refine Split.cons Pick.head ?_))), ?_⟩))
      refine JM.nil ?_
      refine JE.then_normal ?_
      refine J.ret ?_
      first | refine JE.unmark (.inl rfl) rfl (by (repeat (first | exact Pick.head | apply Pick.tail | apply Pick.app))) ?_ | refine JE.nomark (.inl rfl) rfl ?_
      refine JE.ret2 (.inl rfl) rfl rfl (by (first | exact RV.tmp rfl | exact RV.cell1 hT rfl rfl rfl (by (exact Rd1.row (by (repeat (first | exact Pick.head | apply Pick.tail | apply Pick.app))) (by rfl))) | exact RV.cellN hT rfl rfl rfl (by (first | exact RdN.rowAll (by (repeat (first | exact Pick.head | apply Pick.tail | apply Pick.app))) | exact RdN.own (by (repeat (first | exact Pick.head | apply Pick.tail | apply Pick.app))))) (by (first | rfl | assumption | (simp; done) | omega)))) (by (first | exact RV.tmp rfl | exact RV.cell1 hT rfl rfl rfl (by (exact Rd1.row (by (repeat (first | exact Pick.head | apply Pick.tail | apply Pick.app))) (by rfl))) | exact RV.cellN hT rfl rfl rfl (by (first | exact RdN.rowAll (by (repeat (first | exact Pick.head | apply Pick.tail | apply Pick.app))) | exact RdN.own (by (repeat (first | exact Pick.head | apply Pick.tail | apply Pick.app))))) (by (first | rfl | assumption | (simp; done) | omega)))) ?_
      exact ⟨rfl, fun w q => disk_shut hok (q.sup (by (repeat (first | exact Sup.refl | apply Sup.cons (by (repeat (first | exact Pick.head | apply Pick.tail | apply Pick.app))) | apply Sup.app | apply Sup.skip | apply Sup.skips))))⟩
    · refine ⟨.done, some .ret, _, Pick.tail Pick.head, by simp, ?_⟩
      have hBl : (encB (D.find i)).length = 64 := by rw [encB_length]; exact hok.find hz.2
      dsimp only
      refine J.ret ?_
      refine JE.block_ret ?_
      refine JE.then_ret ?_
      first | refine JE.unmark (.inl rfl) rfl (by (repeat (first | exact Pick.head | apply Pick.tail | apply Pick.app))) ?_ | refine JE.nomark (.inl rfl) rfl ?_
      refine JE.ret2 (.inl rfl) rfl rfl (by (first | exact RV.tmp rfl | exact RV.cell1 hT rfl rfl rfl (by (exact Rd1.row (by (repeat (first | exact Pick.head | apply Pick.tail | apply Pick.app))) (by rfl))) | exact RV.cellN hT rfl rfl rfl (by (first | exact RdN.rowAll (by (repeat (first | exact Pick.head | apply Pick.tail | apply Pick.app))) | exact RdN.own (by (repeat (first | exact Pick.head | apply Pick.tail | apply Pick.app))))) (by (first | rfl | assumption | (simp; done) | omega)))) (by (first | exact RV.tmp rfl | exact RV.cell1 hT rfl rfl rfl (by (exact Rd1.row (by (repeat (first | exact Pick.head | apply Pick.tail | apply Pick.app))) (by rfl))) | exact RV.cellN hT rfl rfl rfl (by (first | exact RdN.rowAll (by (repeat (first | exact Pick.head | apply Pick.tail | apply Pick.app))) | exact RdN.own (by (repeat (first | exact Pick.head | apply Pick.tail | apply Pick.app))))) (by (first | rfl | assumption | (simp; done) | omega)))) ?_
      exact ⟨rfl, fun w q => disk_shut hok (q.sup (by (repeat (first | exact Sup.refl | apply Sup.cons (by (repeat (first | exact Pick.head | apply Pick.tail | apply Pick.app))) | apply Sup.app | apply Sup.skip | apply Sup.skips))))⟩
end Go.Proofs.Ytimekohdlofmaaa
namespace Go.Proofs.Ytimekohdlofmaaa
open Go Go.SL
attribute [local irreducible] J JL JE JM LS Y Fc RV Code.wp wpList Code.wpIn wpListIn
attribute [local irreducible] Yc
variable (E : World)
theorem read_spec (d : Nat) (D : Dk) (i : Int) (r : List HProp) (hpn : D.pending.length ≤ 1000000) :
    Fc prog E 50 [Value.pointer (some ⟨d, 0, none⟩), .int .i64 i].toArray (disk d D :: r) (fun v l' => v = .tuple #[.agg (encB (D.read i)).toArray, .int .i64 (D.ready i)] ∧ l' = disk d D :: r) := by
  by_cases h : D.ready i = 0
  · simpa only [Dk.read, h, if_true] using read_good E d D i r h hpn
  · simpa only [Dk.read, h, if_false] using read_bad E d D i r h
/-- A new disk. -/
def Dk.new (n : Nat) : Dk := ⟨List.replicate n zeroB, [], false, false, 0, 0⟩
theorem Dk.new_ok {n : Nat} (h1 : 1 ≤ n) (h2 : n ≤ 512) : (Dk.new n).Ok :=
  ⟨fun b hb => by rw [List.eq_of_mem_replicate hb]; rfl, fun p hp => by simp [Dk.new] at hp, by simpa [Dk.new] using h1, by simpa [Dk.new] using h2, by simp [Dk.new]⟩
theorem new_good (n : Nat) (r : List HProp) (h1 : 1 ≤ n) (h2 : n ≤ 512) :
    Fc prog E 7 [.int .i64 (n : Int)].toArray r (fun v l' => ∃ d, v = .tuple #[.pointer (some ⟨d, 0, none⟩), .int .i64 0] ∧ l' = disk d (Dk.new n) :: r) := by
  refine Fc.post ?_
  have e1 : decide ((n : Int) < 1) = false := by simp; omega
  have e2 : decide (512 < (n : Int)) = false := by simp; omega
  refine Fc.of_body (c := ?codeC) Try.func7 ?hb Try.ntmps7 ?hl ?_
  case hb => exact rfl
  case hl => exact rfl
  refine J.seq ?_
  refine J.region ?_
  refine JL.step (y_assign rfl) rfl rfl rfl (JL.step (y_assign rfl) rfl rfl rfl ?_)
  refine JL.nil ?_
  refine JE.then_normal ?_
  refine J.seq ?_
  refine J.seq ?_
  refine J.region ?_
  refine JL.step (y_move rfl) rfl rfl rfl (JL.step (y_lss rfl rfl) rfl rfl rfl (JL.step (y_move rfl) rfl rfl rfl ?_))
  all_goals (first | (refine JL.gsplit_dec rfl rfl rfl (fun h => ?_) (fun h => ?_) <;> try (first | (exfalso; omega) | exact absurd rfl h)) | (refine JL.gsplit rfl rfl rfl (fun h => ?_) (fun h => ?_) <;> try (first | cases h | (exfalso; simp at h; done))) | skip)
  all_goals (first | refine JL.gskip rfl rfl rfl rfl rfl rfl ?_ | refine JL.gskipU rfl rfl rfl rfl rfl ?_ | refine JL.gstep rfl rfl rfl (y_move rfl) rfl rfl ?_)
  all_goals (first | refine JL.gskip rfl rfl rfl rfl rfl rfl ?_ | refine JL.gskipU rfl rfl rfl rfl rfl ?_ | refine JL.gstep rfl rfl rfl (y_gtr rfl rfl) rfl rfl ?_)
  all_goals (refine JL.step (y_pick rfl rfl rfl) rfl rfl rfl ?_)
  all_goals refine JL.nil ?_
  all_goals refine JE.then_normal ?_
  all_goals
    refine J.cond_f rfl (by (first | rfl | assumption | (simp; done) | (simp; omega))) ?_
    refine J.skip ?_
  all_goals refine JE.then_normal ?_
  all_goals
    refine J.seq ?_
    refine J.region ?_
    refine JL.step (y_move rfl) rfl rfl rfl ?_
    refine JL.loud rfl (l_makeSlice hT rfl rfl rfl rfl rfl rfl (by (first | omega | exact Nat.le_of_ble_eq_true rfl | decide | (simp; omega))) (by (first | omega | exact Nat.le_of_ble_eq_true rfl | decide | (simp; omega))) (mk_fits rfl (by (first | omega | exact Nat.le_of_ble_eq_true rfl | decide | (simp; omega))) (by (first | omega | exact Nat.le_of_ble_eq_true rfl | decide | (simp; omega)))) (by (first | omega | exact Nat.le_of_ble_eq_true rfl | decide | (simp; omega))) rfl (fun b1 => ?_))
    refine JL.step (y_build (cs := [_, _, _, _, _, _]) hT rfl rfl rfl rfl rfl rfl ⟨⟨(by (first | rfl | assumption | (simp; done) | omega)), Nat.le_of_ble_eq_true rfl⟩, trivial⟩ rfl) rfl rfl rfl ?_
    refine JL.loud rfl (l_box rfl (by (first | rfl | simp)) rfl (fun b2 => ?_))
    refine JL.step (y_assign rfl) rfl rfl rfl (JL.step (y_assign rfl) rfl rfl rfl ?_)
    refine JL.nil ?_
    refine JE.then_normal ?_
    refine J.ret ?_
    refine JE.ret2 (.inl rfl) rfl rfl (by (first | exact RV.tmp rfl | exact RV.cell1 hT rfl rfl rfl (by (exact Rd1.row (by (repeat (first | exact Pick.head | apply Pick.tail | apply Pick.app))) (by rfl))) | exact RV.cellN hT rfl rfl rfl (by (first | exact RdN.rowAll (by (repeat (first | exact Pick.head | apply Pick.tail | apply Pick.app))) | exact RdN.own (by (repeat (first | exact Pick.head | apply Pick.tail | apply Pick.app))))) (by (first | rfl | assumption | (simp; done) | omega)))) (by (first | exact RV.tmp rfl | exact RV.cell1 hT rfl rfl rfl (by (exact Rd1.row (by (repeat (first | exact Pick.head | apply Pick.tail | apply Pick.app))) (by rfl))) | exact RV.cellN hT rfl rfl rfl (by (first | exact RdN.rowAll (by (repeat (first | exact Pick.head | apply Pick.tail | apply Pick.app))) | exact RdN.own (by (repeat (first | exact Pick.head | apply Pick.tail | apply Pick.app))))) (by (first | rfl | assumption | (simp; done) | omega)))) ?_
    refine ⟨_, fun w q => ?_, b2, rfl, rfl⟩
    refine disk_shut (sa := some ⟨b1, 0, none⟩) (sc := n) (pa := none) (pc := 0) (Dk.new_ok h1 h2) ?_
    have e1 : (madeCells (Value.agg (List.replicate 64 (Value.int .u8 0)).toArray).cells ((n : Int).toNat * i71.size)).toList = (Dk.new n).safe.flatMap encB := by
      rw [Dk.new]
      dsimp only
      rw [flatMap_rep encB zeroB _ encB_zero n]
      exact madeCells_rep _ (by omega) _
    rw [e1] at q
    have hl := seg_len (k := 64) (Dk.new_ok h1 h2).segB
    have q1 := (q.pick (Pick.tail Pick.head)).ownAll (m := n) (size := 64) (by unfold maxLen; omega) (by rw [hl]; simp [Dk.new])
    have q2 := (q1.own_nil (e := 96) (size := 65)).sup (p := [row b2 64 _, own 71 64 _ _ _, own 96 65 _ _ _] ++ r) (by (repeat (first | exact Sup.refl | apply Sup.cons (by (repeat (first | exact Pick.head | apply Pick.tail | apply Pick.app))) | apply Sup.app | apply Sup.skip | apply Sup.skips)))
    simpa [dcells, Dk.new] using q2
/-- Crash. -/
def bitAt (bs : List Bool) (i : Nat) : Bool := bs.getD i false
def Dk.crash (D : Dk) (bs : List Bool) : Dk := { D.settle (bitAt bs) with dead := false, armed := false }
theorem Dk.Ok.crash {D : Dk} (h : D.Ok) (bs : List Bool) : (D.crash bs).Ok := ⟨(h.settle (bitAt bs)).safe, (h.settle (bitAt bs)).pend, (h.settle (bitAt bs)).some, (h.settle (bitAt bs)).most, (h.settle (bitAt bs)).left⟩
theorem crash1_spec (b i : Nat) (p : Option Addr) (cap : Nat) (bs : List Bool) (m r : List HProp) (hi : i ≤ 1000000) (hin : InL r p bs.length cap (bs.map Value.bool)) :
    Fc prog E 41 [Value.int .i64 (i : Int), .pointer (some ⟨b, 0, none⟩)].toArray (m ++ row b 53 [.slice p bs.length cap] :: r) (fun v l' => v = .bool (bitAt bs i) ∧ l' = m ++ row b 53 [.slice p bs.length cap] :: r) := by
  have hp : Pick (m ++ row b 53 [.slice p bs.length cap] :: r) (row b 53 [.slice p bs.length cap]) (m ++ r) := Pick.app m Pick.head
  refine Fc.of_body (c := ?codeC) Try.func41 ?hb Try.ntmps41 ?hl ?_
  case hb => exact rfl
  case hl => exact rfl
  refine J.seq ?_
  refine J.region ?_
  refine JL.step (y_assign rfl) rfl rfl rfl ?_
  refine JL.nil ?_
  refine JE.then_normal ?_
  refine J.seq ?_
  refine J.region ?_
  refine JL.step (y_move rfl) rfl rfl rfl ?_
  refine JL.step (y_load1 hT rfl rfl rfl (Rd1.row hp rfl)) rfl rfl rfl ?_
  refine JL.step (y_len_slice hT rfl rfl rfl) rfl rfl rfl (JL.step (y_lss rfl rfl) rfl rfl rfl (JL.step (y_move rfl) rfl rfl rfl ?_))
  refine JL.gsplit_dec rfl rfl rfl (fun h => ?_) (fun h => ?_)
  all_goals (first | refine JL.gskip rfl rfl rfl rfl rfl rfl ?_ | refine JL.gstep rfl rfl rfl (y_load1 hT rfl rfl rfl (Rd1.row hp rfl)) rfl rfl ?_)
  all_goals (first | refine JL.gskip rfl rfl rfl rfl rfl rfl ?_ | refine JL.gskipU rfl rfl rfl rfl rfl ?_ | refine JL.gstep rfl rfl rfl (y_move rfl) rfl rfl ?_)
  all_goals (first | refine JL.gskip rfl rfl rfl rfl rfl rfl ?_ | (obtain ⟨g, o, rfl, hr⟩ := hin.addr (by omega); refine JL.gstep rfl rfl rfl (y_indexAddr_slice hT rfl rfl rfl rfl rfl (by (first | omega | exact Nat.le_of_ble_eq_true rfl | decide | (simp; omega))) (by (first | omega | exact Nat.le_of_ble_eq_true rfl | decide | (simp; omega)))) rfl rfl ?_))
  all_goals (first | refine JL.gskip rfl rfl rfl rfl rfl rfl ?_ | refine JL.gstep rfl rfl rfl (y_load1 hT rfl rfl rfl (v := .bool (bitAt bs i)) (by have := hr (m ++ [row b 53 [.slice (some ⟨g, o, none⟩) bs.length cap]]) i (.bool (bitAt bs i)) (by rw [List.getElem?_map, List.getElem?_eq_getElem (by omega)]; simp [bitAt, List.getD_eq_getElem?_getD, List.getElem?_eq_getElem (show i < bs.length by omega)]); rw [show i4.size = 1 from rfl, Nat.mul_one]; simpa using this)) rfl rfl ?_)
  all_goals (refine JL.step (y_pick rfl rfl rfl) rfl rfl rfl ?_)
  all_goals (refine JL.step (y_assign rfl) rfl rfl rfl ?_)
  all_goals refine JL.nil ?_
  all_goals refine JE.then_normal ?_
  all_goals
    refine J.ret ?_
    refine JE.ret1 (.inl rfl) rfl rfl (by (first | exact RV.tmp rfl | exact RV.cell1 hT rfl rfl rfl (by (exact Rd1.row (by (repeat (first | exact Pick.head | apply Pick.tail | apply Pick.app))) (by rfl))) | exact RV.cellN hT rfl rfl rfl (by (first | exact RdN.rowAll (by (repeat (first | exact Pick.head | apply Pick.tail | apply Pick.app))) | exact RdN.own (by (repeat (first | exact Pick.head | apply Pick.tail | apply Pick.app))))) (by (first | rfl | assumption | (simp; done) | omega)))) ?_
    refine ⟨?_, rfl⟩
    first
      | rfl
      | (have e : bitAt bs i = false := by simp [bitAt, List.getD_eq_getElem?_getD, List.getElem?_eq_none (show bs.length ≤ i by omega)]
         rw [e]; rfl)
theorem crash_spec (d : Nat) (D : Dk) (p : Option Addr) (cap : Nat) (bs : List Bool) (r : List HProp) (hin : InL r p bs.length cap (bs.map Value.bool)) (hpn : D.pending.length ≤ 1000000) :
    Fc prog E 20 [Value.pointer (some ⟨d, 0, none⟩), .slice p bs.length cap].toArray (disk d D :: r) (fun v l' => v = .int .i64 0 ∧ l' = disk d (D.crash bs) :: r) := by
  refine Fc.eqs ?_
  refine Fc.of_body (c := ?codeC) Try.func20 ?hb Try.ntmps20 ?hl ?_
  case hb => exact rfl
  case hl => exact rfl
  refine J.seq ?_
  refine J.region ?_
  refine JL.loud rfl (l_box rfl (by (first | rfl | simp)) rfl (fun b1 => ?_))
  refine JL.step (y_assign rfl) rfl rfl rfl ?_
  refine JL.nil ?_
  refine JE.then_normal ?_
  refine J.seq ?_
  refine J.seq ?_
  refine J.region ?_
  refine JL.step (y_move rfl) rfl rfl rfl (JL.step (y_ptr_eq_nil hT rfl rfl rfl rfl) rfl rfl rfl ?_)
  refine JL.nil ?_
  refine JE.then_normal ?_
  refine J.cond_f rfl (by (first | rfl | assumption | (simp; done) | (simp; omega))) ?_
  refine J.skip ?_
  refine JE.then_normal ?_
  refine J.seq ?_
  refine J.region ?_
  refine JL.step (y_move rfl) rfl rfl rfl (JL.step (y_makeFunc rfl rfl) rfl rfl rfl ?_)
  refine JL.loud rfl (l_callF e40 rfl rfl ((settle_spec E d D 41 e41 [_] _ (bitAt bs) hpn (fun m i hi => crash1_spec E b1 i p cap bs m r (by omega) hin)).split (Split.cons (by (repeat (first | exact Pick.head | apply Pick.tail | apply Pick.app))) (Split.cons (by (repeat (first | exact Pick.head | apply Pick.tail | apply Pick.app))) Split.nil))) ?_)
  rintro _ _ ⟨rfl, rfl⟩
  refine JL.nil ?_
  refine JE.then_normal ?_
  refine J.seq ?_
  refine J.disk fun sa sc pa pc hok => ?_
  refine J.region ?_
  refine JL.step (y_move rfl) rfl rfl rfl (JL.step (y_move rfl) rfl rfl rfl ?_)
  refine JL.step ((by first | exact y_nilCheck rfl | exact y_nilCheckF rfl | exact y_nilCheckY rfl)) rfl rfl rfl ?_
  refine JL.step (y_fieldAddr hT rfl rfl rfl rfl rfl rfl) rfl rfl rfl ?_
  refine JL.loud rfl (l_store1 hT rfl rfl rfl rfl rfl (by (repeat (first | exact Pick.head | apply Pick.tail | apply Pick.app))) (by (first | omega | exact Nat.le_of_ble_eq_true rfl | decide | (simp; omega))) ?_)
  refine JL.step ((by first | exact y_nilCheck rfl | exact y_nilCheckF rfl | exact y_nilCheckY rfl)) rfl rfl rfl ?_
  refine JL.step (y_fieldAddr hT rfl rfl rfl rfl rfl rfl) rfl rfl rfl ?_
  refine JL.loud rfl (l_store1 hT rfl rfl rfl rfl rfl (by (repeat (first | exact Pick.head | apply Pick.tail | apply Pick.app))) (by (first | omega | exact Nat.le_of_ble_eq_true rfl | decide | (simp; omega))) ?_)
  refine JL.nil ?_
  refine JE.then_normal ?_
  refine J.seq ?_
  refine J.region ?_
  refine JL.step (y_assign rfl) rfl rfl rfl ?_
  refine JL.nil ?_
  refine JE.then_normal ?_
  refine J.ret ?_
  refine JE.ret1 (.inl rfl) rfl rfl (by (first | exact RV.tmp rfl | exact RV.cell1 hT rfl rfl rfl (by (exact Rd1.row (by (repeat (first | exact Pick.head | apply Pick.tail | apply Pick.app))) (by rfl))) | exact RV.cellN hT rfl rfl rfl (by (first | exact RdN.rowAll (by (repeat (first | exact Pick.head | apply Pick.tail | apply Pick.app))) | exact RdN.own (by (repeat (first | exact Pick.head | apply Pick.tail | apply Pick.app))))) (by (first | rfl | assumption | (simp; done) | omega)))) ?_
  exact ⟨rfl, fun w q => disk_shut (D := D.crash bs) (sa := sa) (sc := sc) (pa := pa) (pc := pc) ⟨hok.safe, hok.pend, hok.some, hok.most, hok.left⟩ (q.sup (by (repeat (first | exact Sup.refl | apply Sup.cons (by (repeat (first | exact Pick.head | apply Pick.tail | apply Pick.app))) | apply Sup.app | apply Sup.skip | apply Sup.skips))))⟩
end Go.Proofs.Ytimekohdlofmaaa
namespace Go.Proofs.Ytimekohdlofmaaa
open Go.SL
theorem own_ : ownKnob Try.prog.godebug = none := by kernel_rfl
theorem laidOut_ : laidOutB Try.prog = true := by kernel_rfl
section
variable {H : Type}
theorem bulk_pos (d : DataW H) : 1 ≤ Rows.uptoBulk d := by
  cases d with
  | lit l => cases l <;> simp [Rows.uptoBulk]
  | _ => simp [Rows.uptoBulk]
theorem bulk_part {d : DataW H} : ∀ {l : List (DataW H)}, d ∈ l → Rows.uptoBulk d ≤ Rows.uptoBulkAll l
  | x :: r, h => by
    simp only [Rows.uptoBulkAll]
    rcases List.mem_cons.1 h with rfl | h
    · omega
    · have := bulk_part h; omega
theorem bulk_len : ∀ (l : List (DataW H)), l.length ≤ Rows.uptoBulkAll l
  | [] => by simp
  | x :: r => by have h1 := bulk_pos x; have h2 := bulk_len r; simp only [Rows.uptoBulkAll, List.length_cons]; omega
/-- Of small bulk. -/
def upOk (d : DataW H) : Prop := Rows.uptoBulk d ≤ 1048576
theorem upHer : Her (upOk (H := H)) (fun n => n ≤ 1048576) where
  slice es sp h := by
    simp only [upOk, Rows.uptoBulk] at h
    have h1 := bulk_len es
    refine ⟨by omega, fun d hd => ?_⟩
    rcases List.mem_append.1 hd with hd | hd
    · have := bulk_part hd; simp only [upOk]; omega
    · have := bulk_part hd; simp only [upOk]; omega
  nil := by omega
  agg ps h d hd := by
    simp only [upOk, Rows.uptoBulk] at h ⊢
    have := bulk_part hd
    omega
  str bs h := by
    simp only [upOk, Rows.uptoBulk] at h
    omega
theorem upOk_of {l : List (DataW H)} (hk : Rows.uptoSmall H l = true) : ∀ d ∈ l, upOk d := fun d hd => by
  have h : Rows.uptoBulkAll l ≤ 1048576 := of_decide_eq_true hk
  have := bulk_part hd
  simp only [upOk]
  omega
end
end Go.Proofs.Ytimekohdlofmaaa
