import Derived.Test.YtfohdnclpbipeaaDoorProg
import Derived.KernelRfl
import Derived.Test.YtfohdnclpbipeaaDoorRows
import Derived.Test.YtfohdnclpbipeaaDoorJoin1
namespace Go.Proofs.YtfohdnclpbipeaaDoor
section
open Go Go.SL
noncomputable abbrev prog : Program := Tryd.prog
theorem mixed : prog.follows .mixedOrders = true := by kernel_rfl
def i3 : TI := ⟨.int .i64, 1, 8, some (Value.int .i64 0)⟩
theorem u3 : prog.underlying 3 = some i3.u := by kernel_rfl
theorem z3 : (prog.info? 3).map (fun j => (j.size, j.bytes, j.zero)) = some (i3.size, i3.bytes, i3.zero) := by kernel_rfl
def i32 : TI := ⟨.slice 35, 1, 24, some (Value.slice none 0 0)⟩
theorem u32 : prog.underlying 32 = some i32.u := by kernel_rfl
theorem z32 : (prog.info? 32).map (fun j => (j.size, j.bytes, j.zero)) = some (i32.size, i32.bytes, i32.zero) := by kernel_rfl
def i35 : TI := ⟨.int .u64, 1, 8, some (Value.int .u64 0)⟩
theorem u35 : prog.underlying 35 = some i35.u := by kernel_rfl
theorem z35 : (prog.info? 35).map (fun j => (j.size, j.bytes, j.zero)) = some (i35.size, i35.bytes, i35.zero) := by kernel_rfl
def i29 : TI := ⟨.struct #[⟨ "From", 3, 0, false, "", "", 0⟩, ⟨ "To", 3, 1, false, "", "", 8⟩, ⟨ "Count", 3, 2, false, "", "", 16⟩, ⟨ "Size", 3, 3, false, "", "", 24⟩], 4, 32, some (.agg (([Value.int .i64 0] ++ [Value.int .i64 0] ++ [Value.int .i64 0] ++ [Value.int .i64 0])).toArray)⟩
theorem u29 : prog.underlying 29 = some i29.u := by kernel_rfl
theorem z29 : (prog.info? 29).map (fun j => (j.size, j.bytes, j.zero)) = some (i29.size, i29.bytes, i29.zero) := by kernel_rfl
def i45 : TI := ⟨.slice 3, 1, 24, some (Value.slice none 0 0)⟩
theorem u45 : prog.underlying 45 = some i45.u := by kernel_rfl
theorem z45 : (prog.info? 45).map (fun j => (j.size, j.bytes, j.zero)) = some (i45.size, i45.bytes, i45.zero) := by kernel_rfl
def i26 : TI := ⟨.slice 29, 1, 24, some (Value.slice none 0 0)⟩
theorem u26 : prog.underlying 26 = some i26.u := by kernel_rfl
theorem z26 : (prog.info? 26).map (fun j => (j.size, j.bytes, j.zero)) = some (i26.size, i26.bytes, i26.zero) := by kernel_rfl
def i38 : TI := ⟨.struct #[⟨ "Step", 3, 0, false, "", "", 0⟩, ⟨ "From", 3, 1, false, "", "", 8⟩, ⟨ "To", 3, 2, false, "", "", 16⟩, ⟨ "Count", 3, 3, false, "", "", 24⟩, ⟨ "Size", 3, 4, false, "", "", 32⟩], 5, 40, some (.agg (([Value.int .i64 0] ++ [Value.int .i64 0] ++ [Value.int .i64 0] ++ [Value.int .i64 0] ++ [Value.int .i64 0])).toArray)⟩
theorem u38 : prog.underlying 38 = some i38.u := by kernel_rfl
theorem z38 : (prog.info? 38).map (fun j => (j.size, j.bytes, j.zero)) = some (i38.size, i38.bytes, i38.zero) := by kernel_rfl
def i9 : TI := ⟨.string, 1, 16, some (Value.string ByteArray.empty)⟩
theorem u9 : prog.underlying 9 = some i9.u := by kernel_rfl
theorem z9 : (prog.info? 9).map (fun j => (j.size, j.bytes, j.zero)) = some (i9.size, i9.bytes, i9.zero) := by kernel_rfl
def i55 : TI := ⟨.struct #[⟨ "Client", 3, 0, false, "", "", 0⟩, ⟨ "Seal", 53, 1, false, "", "", 8⟩], 165, 192, some (.agg (([Value.int .i64 0] ++ ([Value.bool false] ++ List.replicate 32 (Value.int .u8 0) ++ [Value.int .u64 0] ++ List.replicate 130 (Value.int .u8 0)))).toArray)⟩
theorem u55 : prog.underlying 55 = some i55.u := by kernel_rfl
theorem z55 : (prog.info? 55).map (fun j => (j.size, j.bytes, j.zero)) = some (i55.size, i55.bytes, i55.zero) := by kernel_rfl
def i139 : TI := ⟨.int .u32, 1, 4, some (Value.int .u32 0)⟩
theorem u139 : prog.underlying 139 = some i139.u := by kernel_rfl
theorem z139 : (prog.info? 139).map (fun j => (j.size, j.bytes, j.zero)) = some (i139.size, i139.bytes, i139.zero) := by kernel_rfl
def i22 : TI := ⟨.slice 38, 1, 24, some (Value.slice none 0 0)⟩
theorem u22 : prog.underlying 22 = some i22.u := by kernel_rfl
theorem z22 : (prog.info? 22).map (fun j => (j.size, j.bytes, j.zero)) = some (i22.size, i22.bytes, i22.zero) := by kernel_rfl
def i41 : TI := ⟨.slice 55, 1, 24, some (Value.slice none 0 0)⟩
theorem u41 : prog.underlying 41 = some i41.u := by kernel_rfl
theorem z41 : (prog.info? 41).map (fun j => (j.size, j.bytes, j.zero)) = some (i41.size, i41.bytes, i41.zero) := by kernel_rfl
def i50 : TI := ⟨.array 32 5, 32, 32, some (.agg (List.replicate 32 (Value.int .u8 0)).toArray)⟩
theorem u50 : prog.underlying 50 = some i50.u := by kernel_rfl
theorem z50 : (prog.info? 50).map (fun j => (j.size, j.bytes, j.zero)) = some (i50.size, i50.bytes, i50.zero) := by kernel_rfl
def i5 : TI := ⟨.int .u8, 1, 1, some (Value.int .u8 0)⟩
theorem u5 : prog.underlying 5 = some i5.u := by kernel_rfl
theorem z5 : (prog.info? 5).map (fun j => (j.size, j.bytes, j.zero)) = some (i5.size, i5.bytes, i5.zero) := by kernel_rfl
def i58 : TI := ⟨.slice 5, 1, 24, some (Value.slice none 0 0)⟩
theorem u58 : prog.underlying 58 = some i58.u := by kernel_rfl
theorem z58 : (prog.info? 58).map (fun j => (j.size, j.bytes, j.zero)) = some (i58.size, i58.bytes, i58.zero) := by kernel_rfl
def i43 : TI := ⟨.int .u64, 1, 8, some (Value.int .u64 0)⟩
theorem u43 : prog.underlying 43 = some i43.u := by kernel_rfl
theorem z43 : (prog.info? 43).map (fun j => (j.size, j.bytes, j.zero)) = some (i43.size, i43.bytes, i43.zero) := by kernel_rfl
def i62 : TI := ⟨.slice 65, 1, 24, some (Value.slice none 0 0)⟩
theorem u62 : prog.underlying 62 = some i62.u := by kernel_rfl
theorem z62 : (prog.info? 62).map (fun j => (j.size, j.bytes, j.zero)) = some (i62.size, i62.bytes, i62.zero) := by kernel_rfl
def i65 : TI := ⟨.struct #[⟨ "Step", 3, 0, false, "", "", 0⟩, ⟨ "Count", 3, 1, false, "", "", 8⟩, ⟨ "Size", 3, 2, false, "", "", 16⟩], 3, 24, some (.agg (([Value.int .i64 0] ++ [Value.int .i64 0] ++ [Value.int .i64 0])).toArray)⟩
theorem u65 : prog.underlying 65 = some i65.u := by kernel_rfl
theorem z65 : (prog.info? 65).map (fun j => (j.size, j.bytes, j.zero)) = some (i65.size, i65.bytes, i65.zero) := by kernel_rfl
def i157 : TI := ⟨.int .u64, 1, 8, some (Value.int .u64 0)⟩
theorem u157 : prog.underlying 157 = some i157.u := by kernel_rfl
theorem z157 : (prog.info? 157).map (fun j => (j.size, j.bytes, j.zero)) = some (i157.size, i157.bytes, i157.zero) := by kernel_rfl
def i53 : TI := ⟨.struct #[⟨ "Opened", 4, 0, false, "", "", 0⟩, ⟨ "Peer", 50, 1, false, "", "", 1⟩, ⟨ "Round", 35, 33, false, "", "", 40⟩, ⟨ "Body", 51, 34, false, "", "", 48⟩], 164, 184, some (.agg (([Value.bool false] ++ List.replicate 32 (Value.int .u8 0) ++ [Value.int .u64 0] ++ List.replicate 130 (Value.int .u8 0))).toArray)⟩
theorem u53 : prog.underlying 53 = some i53.u := by kernel_rfl
theorem z53 : (prog.info? 53).map (fun j => (j.size, j.bytes, j.zero)) = some (i53.size, i53.bytes, i53.zero) := by kernel_rfl
def i40 : TI := ⟨.slice 50, 1, 24, some (Value.slice none 0 0)⟩
theorem u40 : prog.underlying 40 = some i40.u := by kernel_rfl
theorem z40 : (prog.info? 40).map (fun j => (j.size, j.bytes, j.zero)) = some (i40.size, i40.bytes, i40.zero) := by kernel_rfl
def i61 : TI := ⟨.struct #[⟨ "Clients", 3, 0, false, "", "", 0⟩, ⟨ "Hops", 3, 1, false, "", "", 8⟩, ⟨ "Noise", 3, 2, false, "", "", 16⟩, ⟨ "Seed", 58, 3, false, "", "", 24⟩, ⟨ "Rules", 59, 4, false, "", "", 48⟩], 5, 72, some (.agg (([Value.int .i64 0] ++ [Value.int .i64 0] ++ [Value.int .i64 0] ++ [Value.slice none 0 0] ++ [Value.slice none 0 0])).toArray)⟩
theorem u61 : prog.underlying 61 = some i61.u := by kernel_rfl
theorem z61 : (prog.info? 61).map (fun j => (j.size, j.bytes, j.zero)) = some (i61.size, i61.bytes, i61.zero) := by kernel_rfl
def i90 : TI := ⟨.map 35 91, 1, 8, some (Value.map none)⟩
theorem u90 : prog.underlying 90 = some i90.u := by kernel_rfl
theorem z90 : (prog.info? 90).map (fun j => (j.size, j.bytes, j.zero)) = some (i90.size, i90.bytes, i90.zero) := by kernel_rfl
def i4 : TI := ⟨.bool, 1, 1, some (Value.bool false)⟩
theorem u4 : prog.underlying 4 = some i4.u := by kernel_rfl
theorem z4 : (prog.info? 4).map (fun j => (j.size, j.bytes, j.zero)) = some (i4.size, i4.bytes, i4.zero) := by kernel_rfl
def i91 : TI := ⟨.array 2 4, 2, 2, some (.agg (List.replicate 2 (Value.bool false)).toArray)⟩
theorem u91 : prog.underlying 91 = some i91.u := by kernel_rfl
theorem z91 : (prog.info? 91).map (fun j => (j.size, j.bytes, j.zero)) = some (i91.size, i91.bytes, i91.zero) := by kernel_rfl
def i115 : TI := ⟨.struct #[⟨ "from", 50, 0, false, "", "hollowtree/watch", 0⟩, ⟨ "to", 50, 32, false, "", "hollowtree/watch", 32⟩, ⟨ "round", 35, 64, false, "", "hollowtree/watch", 64⟩, ⟨ "body", 51, 65, false, "", "hollowtree/watch", 72⟩], 195, 208, some (.agg ((List.replicate 32 (Value.int .u8 0) ++ List.replicate 32 (Value.int .u8 0) ++ [Value.int .u64 0] ++ List.replicate 130 (Value.int .u8 0))).toArray)⟩
theorem u115 : prog.underlying 115 = some i115.u := by kernel_rfl
theorem z115 : (prog.info? 115).map (fun j => (j.size, j.bytes, j.zero)) = some (i115.size, i115.bytes, i115.zero) := by kernel_rfl
def i156 : TI := ⟨.array 65 5, 65, 65, some (.agg (List.replicate 65 (Value.int .u8 0)).toArray)⟩
theorem u156 : prog.underlying 156 = some i156.u := by kernel_rfl
theorem z156 : (prog.info? 156).map (fun j => (j.size, j.bytes, j.zero)) = some (i156.size, i156.bytes, i156.zero) := by kernel_rfl
def i96 : TI := ⟨.map 3 65, 1, 8, some (Value.map none)⟩
theorem u96 : prog.underlying 96 = some i96.u := by kernel_rfl
theorem z96 : (prog.info? 96).map (fun j => (j.size, j.bytes, j.zero)) = some (i96.size, i96.bytes, i96.zero) := by kernel_rfl
def i39 : TI := ⟨.map 35 4, 1, 8, some (Value.map none)⟩
theorem u39 : prog.underlying 39 = some i39.u := by kernel_rfl
theorem z39 : (prog.info? 39).map (fun j => (j.size, j.bytes, j.zero)) = some (i39.size, i39.bytes, i39.zero) := by kernel_rfl
def i73 : TI := ⟨.map 75 29, 1, 8, some (Value.map none)⟩
theorem u73 : prog.underlying 73 = some i73.u := by kernel_rfl
theorem z73 : (prog.info? 73).map (fun j => (j.size, j.bytes, j.zero)) = some (i73.size, i73.bytes, i73.zero) := by kernel_rfl
def i131 : TI := ⟨.int .i64, 1, 8, some (Value.int .i64 0)⟩
theorem u131 : prog.underlying 131 = some i131.u := by kernel_rfl
theorem z131 : (prog.info? 131).map (fun j => (j.size, j.bytes, j.zero)) = some (i131.size, i131.bytes, i131.zero) := by kernel_rfl
def i75 : TI := ⟨.struct #[⟨ "from", 3, 0, false, "", "hollowtree/watch", 0⟩, ⟨ "to", 3, 1, false, "", "hollowtree/watch", 8⟩], 2, 16, some (.agg (([Value.int .i64 0] ++ [Value.int .i64 0])).toArray)⟩
theorem u75 : prog.underlying 75 = some i75.u := by kernel_rfl
theorem z75 : (prog.info? 75).map (fun j => (j.size, j.bytes, j.zero)) = some (i75.size, i75.bytes, i75.zero) := by kernel_rfl
def i51 : TI := ⟨.array 130 5, 130, 130, some (.agg (List.replicate 130 (Value.int .u8 0)).toArray)⟩
theorem u51 : prog.underlying 51 = some i51.u := by kernel_rfl
theorem z51 : (prog.info? 51).map (fun j => (j.size, j.bytes, j.zero)) = some (i51.size, i51.bytes, i51.zero) := by kernel_rfl
def i104 : TI := ⟨.map 3 4, 1, 8, some (Value.map none)⟩
theorem u104 : prog.underlying 104 = some i104.u := by kernel_rfl
theorem z104 : (prog.info? 104).map (fun j => (j.size, j.bytes, j.zero)) = some (i104.size, i104.bytes, i104.zero) := by kernel_rfl
def i113 : TI := ⟨.map 115 4, 1, 8, some (Value.map none)⟩
theorem u113 : prog.underlying 113 = some i113.u := by kernel_rfl
theorem z113 : (prog.info? 113).map (fun j => (j.size, j.bytes, j.zero)) = some (i113.size, i113.bytes, i113.zero) := by kernel_rfl
def i125 : TI := ⟨.array 24 5, 24, 24, some (.agg (List.replicate 24 (Value.int .u8 0)).toArray)⟩
theorem u125 : prog.underlying 125 = some i125.u := by kernel_rfl
theorem z125 : (prog.info? 125).map (fun j => (j.size, j.bytes, j.zero)) = some (i125.size, i125.bytes, i125.zero) := by kernel_rfl
def i155 : TI := ⟨.array 20 35, 20, 160, some (.agg (List.replicate 20 (Value.int .u64 0)).toArray)⟩
theorem u155 : prog.underlying 155 = some i155.u := by kernel_rfl
theorem z155 : (prog.info? 155).map (fun j => (j.size, j.bytes, j.zero)) = some (i155.size, i155.bytes, i155.zero) := by kernel_rfl
def i49 : TI := ⟨.array 32 5, 32, 32, some (.agg (List.replicate 32 (Value.int .u8 0)).toArray)⟩
theorem u49 : prog.underlying 49 = some i49.u := by kernel_rfl
theorem z49 : (prog.info? 49).map (fun j => (j.size, j.bytes, j.zero)) = some (i49.size, i49.bytes, i49.zero) := by kernel_rfl
def i172 : TI := ⟨.array 64 5, 64, 64, some (.agg (List.replicate 64 (Value.int .u8 0)).toArray)⟩
theorem u172 : prog.underlying 172 = some i172.u := by kernel_rfl
theorem z172 : (prog.info? 172).map (fun j => (j.size, j.bytes, j.zero)) = some (i172.size, i172.bytes, i172.zero) := by kernel_rfl
def i71 : TI := ⟨.array 4 3, 4, 32, some (.agg (List.replicate 4 (Value.int .i64 0)).toArray)⟩
theorem u71 : prog.underlying 71 = some i71.u := by kernel_rfl
theorem z71 : (prog.info? 71).map (fun j => (j.size, j.bytes, j.zero)) = some (i71.size, i71.bytes, i71.zero) := by kernel_rfl
def i21 : TI := ⟨.int .i32, 1, 4, some (Value.int .i32 0)⟩
theorem u21 : prog.underlying 21 = some i21.u := by kernel_rfl
theorem z21 : (prog.info? 21).map (fun j => (j.size, j.bytes, j.zero)) = some (i21.size, i21.bytes, i21.zero) := by kernel_rfl
def i2 : TI := ⟨.int .i64, 1, 8, some (Value.int .i64 0)⟩
theorem u2 : prog.underlying 2 = some i2.u := by kernel_rfl
theorem z2 : (prog.info? 2).map (fun j => (j.size, j.bytes, j.zero)) = some (i2.size, i2.bytes, i2.zero) := by kernel_rfl
def i59 : TI := ⟨.slice 189, 1, 24, some (Value.slice none 0 0)⟩
theorem u59 : prog.underlying 59 = some i59.u := by kernel_rfl
theorem z59 : (prog.info? 59).map (fun j => (j.size, j.bytes, j.zero)) = some (i59.size, i59.bytes, i59.zero) := by kernel_rfl
def i189 : TI := ⟨.struct #[⟨ "Index", 3, 0, false, "", "", 0⟩, ⟨ "Kind", 3, 1, false, "", "", 8⟩, ⟨ "By", 3, 2, false, "", "", 16⟩], 3, 24, some (.agg (([Value.int .i64 0] ++ [Value.int .i64 0] ++ [Value.int .i64 0])).toArray)⟩
theorem u189 : prog.underlying 189 = some i189.u := by kernel_rfl
theorem z189 : (prog.info? 189).map (fun j => (j.size, j.bytes, j.zero)) = some (i189.size, i189.bytes, i189.zero) := by kernel_rfl
def T : Tab := [(3, i3), (32, i32), (35, i35), (29, i29), (45, i45), (26, i26), (38, i38), (9, i9), (55, i55), (139, i139), (22, i22), (41, i41), (50, i50), (5, i5), (58, i58), (43, i43), (62, i62), (65, i65), (157, i157), (53, i53), (40, i40), (61, i61), (90, i90), (4, i4), (91, i91), (115, i115), (156, i156), (96, i96), (39, i39), (73, i73), (131, i131), (75, i75), (51, i51), (104, i104), (113, i113), (125, i125), (155, i155), (49, i49), (172, i172), (71, i71), (21, i21), (2, i2), (59, i59), (189, i189)]
theorem hT : Tok prog T := Tok.cons u3 z3 (Tok.cons u32 z32 (Tok.cons u35 z35 (Tok.cons u29 z29 (Tok.cons u45 z45 (Tok.cons u26 z26 (Tok.cons u38 z38 (Tok.cons u9 z9 (Tok.cons u55 z55 (Tok.cons u139 z139 (Tok.cons u22 z22 (Tok.cons u41 z41 (Tok.cons u50 z50 (Tok.cons u5 z5 (Tok.cons u58 z58 (Tok.cons u43 z43 (Tok.cons u62 z62 (Tok.cons u65 z65 (Tok.cons u157 z157 (Tok.cons u53 z53 (Tok.cons u40 z40 (Tok.cons u61 z61 (Tok.cons u90 z90 (Tok.cons u4 z4 (Tok.cons u91 z91 (Tok.cons u115 z115 (Tok.cons u156 z156 (Tok.cons u96 z96 (Tok.cons u39 z39 (Tok.cons u73 z73 (Tok.cons u131 z131 (Tok.cons u75 z75 (Tok.cons u51 z51 (Tok.cons u104 z104 (Tok.cons u113 z113 (Tok.cons u125 z125 (Tok.cons u155 z155 (Tok.cons u49 z49 (Tok.cons u172 z172 (Tok.cons u71 z71 (Tok.cons u21 z21 (Tok.cons u2 z2 (Tok.cons u59 z59 (Tok.cons u189 z189 Tok.nil)))))))))))))))))))))))))))))))))))))))))))
theorem e2 : Ent prog 2 := Ent.mk Tryd.func2 (by kernel_rfl) (by kernel_rfl)
theorem e3 : Ent prog 3 := Ent.mk Tryd.func3 (by kernel_rfl) (by kernel_rfl)
theorem e5 : Ent prog 5 := Ent.mk Tryd.func5 (by kernel_rfl) (by kernel_rfl)
theorem e6 : Ent prog 6 := Ent.mk Tryd.func6 (by kernel_rfl) (by kernel_rfl)
theorem e11 : Ent prog 11 := Ent.mk Tryd.func11 (by kernel_rfl) (by kernel_rfl)
theorem e12 : Ent prog 12 := Ent.mk Tryd.func12 (by kernel_rfl) (by kernel_rfl)
theorem e13 : Ent prog 13 := Ent.mk Tryd.func13 (by kernel_rfl) (by kernel_rfl)
theorem e16 : Ent prog 16 := Ent.mk Tryd.func16 (by kernel_rfl) (by kernel_rfl)
theorem e17 : Ent prog 17 := Ent.mk Tryd.func17 (by kernel_rfl) (by kernel_rfl)
theorem e18 : Ent prog 18 := Ent.mk Tryd.func18 (by kernel_rfl) (by kernel_rfl)
theorem e23 : Ent prog 23 := Ent.mk Tryd.func23 (by kernel_rfl) (by kernel_rfl)
theorem e28 : Ent prog 28 := Ent.mk Tryd.func28 (by kernel_rfl) (by kernel_rfl)
theorem e29 : Ent prog 29 := Ent.mk Tryd.func29 (by kernel_rfl) (by kernel_rfl)
theorem e30 : Ent prog 30 := Ent.mk Tryd.func30 (by kernel_rfl) (by kernel_rfl)
theorem e31 : Ent prog 31 := Ent.mk Tryd.func31 (by kernel_rfl) (by kernel_rfl)
theorem e33 : Ent prog 33 := Ent.mk Tryd.func33 (by kernel_rfl) (by kernel_rfl)
theorem e34 : Ent prog 34 := Ent.mk Tryd.func34 (by kernel_rfl) (by kernel_rfl)
theorem e36 : Ent prog 36 := Ent.mk Tryd.func36 (by kernel_rfl) (by kernel_rfl)
theorem e37 : Ent prog 37 := Ent.mk Tryd.func37 (by kernel_rfl) (by kernel_rfl)
theorem e38 : Ent prog 38 := Ent.mk Tryd.func38 (by kernel_rfl) (by kernel_rfl)
theorem e39 : Ent prog 39 := Ent.mk Tryd.func39 (by kernel_rfl) (by kernel_rfl)
theorem e40 : Ent prog 40 := Ent.mk Tryd.func40 (by kernel_rfl) (by kernel_rfl)
theorem e41 : Ent prog 41 := Ent.mk Tryd.func41 (by kernel_rfl) (by kernel_rfl)
theorem e42 : Ent prog 42 := Ent.mk Tryd.func42 (by kernel_rfl) (by kernel_rfl)
theorem e43 : Ent prog 43 := Ent.mk Tryd.func43 (by kernel_rfl) (by kernel_rfl)
theorem e44 : Ent prog 44 := Ent.mk Tryd.func44 (by kernel_rfl) (by kernel_rfl)
theorem e45 : Ent prog 45 := Ent.mk Tryd.func45 (by kernel_rfl) (by kernel_rfl)
theorem e51 : Ent prog 51 := Ent.mk Tryd.func51 (by kernel_rfl) (by kernel_rfl)
theorem e52 : Ent prog 52 := Ent.mk Tryd.func52 (by kernel_rfl) (by kernel_rfl)
theorem e53 : Ent prog 53 := Ent.mk Tryd.func53 (by kernel_rfl) (by kernel_rfl)
theorem e54 : Ent prog 54 := Ent.mk Tryd.func54 (by kernel_rfl) (by kernel_rfl)
theorem e58 : Ent prog 58 := Ent.mk Tryd.func58 (by kernel_rfl) (by kernel_rfl)
theorem e59 : Ent prog 59 := Ent.mk Tryd.func59 (by kernel_rfl) (by kernel_rfl)
theorem e60 : Ent prog 60 := Ent.mk Tryd.func60 (by kernel_rfl) (by kernel_rfl)
theorem e61 : Ent prog 61 := Ent.mk Tryd.func61 (by kernel_rfl) (by kernel_rfl)
theorem e62 : Ent prog 62 := Ent.mk Tryd.func62 (by kernel_rfl) (by kernel_rfl)
theorem e63 : Ent prog 63 := Ent.mk Tryd.func63 (by kernel_rfl) (by kernel_rfl)
theorem e64 : Ent prog 64 := Ent.mk Tryd.func64 (by kernel_rfl) (by kernel_rfl)
theorem e65 : Ent prog 65 := Ent.mk Tryd.func65 (by kernel_rfl) (by kernel_rfl)
theorem e67 : Ent prog 67 := Ent.mk Tryd.func67 (by kernel_rfl) (by kernel_rfl)
theorem e68 : Ent prog 68 := Ent.mk Tryd.func68 (by kernel_rfl) (by kernel_rfl)
theorem e69 : Ent prog 69 := Ent.mk Tryd.func69 (by kernel_rfl) (by kernel_rfl)
theorem e71 : Ent prog 71 := Ent.mk Tryd.func71 (by kernel_rfl) (by kernel_rfl)
theorem e72 : Ent prog 72 := Ent.mk Tryd.func72 (by kernel_rfl) (by kernel_rfl)
theorem e73 : Ent prog 73 := Ent.mk Tryd.func73 (by kernel_rfl) (by kernel_rfl)
theorem e74 : Ent prog 74 := Ent.mk Tryd.func74 (by kernel_rfl) (by kernel_rfl)
theorem e75 : Ent prog 75 := Ent.mk Tryd.func75 (by kernel_rfl) (by kernel_rfl)
theorem e76 : Ent prog 76 := Ent.mk Tryd.func76 (by kernel_rfl) (by kernel_rfl)
theorem e77 : Ent prog 77 := Ent.mk Tryd.func77 (by kernel_rfl) (by kernel_rfl)
theorem e78 : Ent prog 78 := Ent.mk Tryd.func78 (by kernel_rfl) (by kernel_rfl)
theorem e83 : Ent prog 83 := Ent.mk Tryd.func83 (by kernel_rfl) (by kernel_rfl)
theorem e84 : Ent prog 84 := Ent.mk Tryd.func84 (by kernel_rfl) (by kernel_rfl)
theorem e85 : Ent prog 85 := Ent.mk Tryd.func85 (by kernel_rfl) (by kernel_rfl)
theorem e87 : Ent prog 87 := Ent.mk Tryd.func87 (by kernel_rfl) (by kernel_rfl)
theorem e88 : Ent prog 88 := Ent.mk Tryd.func88 (by kernel_rfl) (by kernel_rfl)
theorem e89 : Ent prog 89 := Ent.mk Tryd.func89 (by kernel_rfl) (by kernel_rfl)
theorem e90 : Ent prog 90 := Ent.mk Tryd.func90 (by kernel_rfl) (by kernel_rfl)
theorem e91 : Ent prog 91 := Ent.mk Tryd.func91 (by kernel_rfl) (by kernel_rfl)
theorem e92 : Ent prog 92 := Ent.mk Tryd.func92 (by kernel_rfl) (by kernel_rfl)
theorem e93 : Ent prog 93 := Ent.mk Tryd.func93 (by kernel_rfl) (by kernel_rfl)
theorem e94 : Ent prog 94 := Ent.mk Tryd.func94 (by kernel_rfl) (by kernel_rfl)
theorem e96 : Ent prog 96 := Ent.mk Tryd.func96 (by kernel_rfl) (by kernel_rfl)
theorem e97 : Ent prog 97 := Ent.mk Tryd.func97 (by kernel_rfl) (by kernel_rfl)
theorem e98 : Ent prog 98 := Ent.mk Tryd.func98 (by kernel_rfl) (by kernel_rfl)
theorem e99 : Ent prog 99 := Ent.mk Tryd.func99 (by kernel_rfl) (by kernel_rfl)
theorem e100 : Ent prog 100 := Ent.mk Tryd.func100 (by kernel_rfl) (by kernel_rfl)
theorem e101 : Ent prog 101 := Ent.mk Tryd.func101 (by kernel_rfl) (by kernel_rfl)
theorem e102 : Ent prog 102 := Ent.mk Tryd.func102 (by kernel_rfl) (by kernel_rfl)
theorem e103 : Ent prog 103 := Ent.mk Tryd.func103 (by kernel_rfl) (by kernel_rfl)
theorem e104 : Ent prog 104 := Ent.mk Tryd.func104 (by kernel_rfl) (by kernel_rfl)
theorem e105 : Ent prog 105 := Ent.mk Tryd.func105 (by kernel_rfl) (by kernel_rfl)
theorem e106 : Ent prog 106 := Ent.mk Tryd.func106 (by kernel_rfl) (by kernel_rfl)
theorem e107 : Ent prog 107 := Ent.mk Tryd.func107 (by kernel_rfl) (by kernel_rfl)
theorem e108 : Ent prog 108 := Ent.mk Tryd.func108 (by kernel_rfl) (by kernel_rfl)
theorem e109 : Ent prog 109 := Ent.mk Tryd.func109 (by kernel_rfl) (by kernel_rfl)
theorem e110 : Ent prog 110 := Ent.mk Tryd.func110 (by kernel_rfl) (by kernel_rfl)
theorem e111 : Ent prog 111 := Ent.mk Tryd.func111 (by kernel_rfl) (by kernel_rfl)
theorem e112 : Ent prog 112 := Ent.mk Tryd.func112 (by kernel_rfl) (by kernel_rfl)
theorem e113 : Ent prog 113 := Ent.mk Tryd.func113 (by kernel_rfl) (by kernel_rfl)
theorem e114 : Ent prog 114 := Ent.mk Tryd.func114 (by kernel_rfl) (by kernel_rfl)
theorem e121 : Ent prog 121 := Ent.mk Tryd.func121 (by kernel_rfl) (by kernel_rfl)
theorem e122 : Ent prog 122 := Ent.mk Tryd.func122 (by kernel_rfl) (by kernel_rfl)
theorem e123 : Ent prog 123 := Ent.mk Tryd.func123 (by kernel_rfl) (by kernel_rfl)
theorem e124 : Ent prog 124 := Ent.mk Tryd.func124 (by kernel_rfl) (by kernel_rfl)
theorem e125 : Ent prog 125 := Ent.mk Tryd.func125 (by kernel_rfl) (by kernel_rfl)
theorem e126 : Ent prog 126 := Ent.mk Tryd.func126 (by kernel_rfl) (by kernel_rfl)
theorem e127 : Ent prog 127 := Ent.mk Tryd.func127 (by kernel_rfl) (by kernel_rfl)
theorem e128 : Ent prog 128 := Ent.mk Tryd.func128 (by kernel_rfl) (by kernel_rfl)
theorem e129 : Ent prog 129 := Ent.mk Tryd.func129 (by kernel_rfl) (by kernel_rfl)
theorem e130 : Ent prog 130 := Ent.mk Tryd.func130 (by kernel_rfl) (by kernel_rfl)
theorem e131 : Ent prog 131 := Ent.mk Tryd.func131 (by kernel_rfl) (by kernel_rfl)
theorem e132 : Ent prog 132 := Ent.mk Tryd.func132 (by kernel_rfl) (by kernel_rfl)
theorem e135 : Ent prog 135 := Ent.mk Tryd.func135 (by kernel_rfl) (by kernel_rfl)
theorem e136 : Ent prog 136 := Ent.mk Tryd.func136 (by kernel_rfl) (by kernel_rfl)
theorem e137 : Ent prog 137 := Ent.mk Tryd.func137 (by kernel_rfl) (by kernel_rfl)
end
section
open Go.SL
theorem own_ : ownKnob Tryd.prog.godebug = none := by kernel_rfl
theorem laidOut_ : laidOutB Tryd.prog = true := by kernel_rfl
section
variable {H : Type}
end
end
end Go.Proofs.YtfohdnclpbipeaaDoor
