import Derived.Test.YtilifeeddpkclaaSlEq
import Derived.Test.YtilifeeddpkclaaProg
import Derived.KernelRfl
namespace Go.Proofs.Ytilifeeddpkclaa
open Go Go.SL
noncomputable abbrev prog : Program := Try.prog
/-- Follows: the orders mixed. -/
theorem mixed : prog.follows .mixedOrders = true := by kernel_rfl
def i3 : TI := ⟨.int .i64, 1, 8, some (Value.int .i64 0)⟩
theorem u3 : prog.underlying 3 = some i3.u := by kernel_rfl
theorem z3 : (prog.info? 3).map (fun j => (j.size, j.bytes, j.zero)) = some (i3.size, i3.bytes, i3.zero) := by kernel_rfl
def i27 : TI := ⟨.array 64 5, 64, 64, some (.agg (List.replicate 64 (Value.int .u8 0)).toArray)⟩
theorem u27 : prog.underlying 27 = some i27.u := by kernel_rfl
theorem z27 : (prog.info? 27).map (fun j => (j.size, j.bytes, j.zero)) = some (i27.size, i27.bytes, i27.zero) := by kernel_rfl
def i145 : TI := ⟨.int .u32, 1, 4, some (Value.int .u32 0)⟩
theorem u145 : prog.underlying 145 = some i145.u := by kernel_rfl
theorem z145 : (prog.info? 145).map (fun j => (j.size, j.bytes, j.zero)) = some (i145.size, i145.bytes, i145.zero) := by kernel_rfl
def i73 : TI := ⟨.slice 5, 1, 24, some (Value.slice none 0 0)⟩
theorem u73 : prog.underlying 73 = some i73.u := by kernel_rfl
theorem z73 : (prog.info? 73).map (fun j => (j.size, j.bytes, j.zero)) = some (i73.size, i73.bytes, i73.zero) := by kernel_rfl
def i43 : TI := ⟨.struct #[⟨ "Safe", 35, 0, false, "", "", 0⟩, ⟨ "Pending", 41, 1, false, "", "", 24⟩, ⟨ "Dead", 4, 2, false, "", "", 48⟩, ⟨ "Left", 3, 3, false, "", "", 56⟩, ⟨ "Ops", 3, 4, false, "", "", 64⟩], 5, 72, some (.agg (([Value.slice none 0 0] ++ [Value.slice none 0 0] ++ [Value.bool false] ++ [Value.int .i64 0] ++ [Value.int .i64 0])).toArray)⟩
theorem u43 : prog.underlying 43 = some i43.u := by kernel_rfl
theorem z43 : (prog.info? 43).map (fun j => (j.size, j.bytes, j.zero)) = some (i43.size, i43.bytes, i43.zero) := by kernel_rfl
def i38 : TI := ⟨.int .i64, 1, 8, some (Value.int .i64 0)⟩
theorem u38 : prog.underlying 38 = some i38.u := by kernel_rfl
theorem z38 : (prog.info? 38).map (fun j => (j.size, j.bytes, j.zero)) = some (i38.size, i38.bytes, i38.zero) := by kernel_rfl
def i35 : TI := ⟨.slice 27, 1, 24, some (Value.slice none 0 0)⟩
theorem u35 : prog.underlying 35 = some i35.u := by kernel_rfl
theorem z35 : (prog.info? 35).map (fun j => (j.size, j.bytes, j.zero)) = some (i35.size, i35.bytes, i35.zero) := by kernel_rfl
def i5 : TI := ⟨.int .u8, 1, 1, some (Value.int .u8 0)⟩
theorem u5 : prog.underlying 5 = some i5.u := by kernel_rfl
theorem z5 : (prog.info? 5).map (fun j => (j.size, j.bytes, j.zero)) = some (i5.size, i5.bytes, i5.zero) := by kernel_rfl
def i32 : TI := ⟨.struct #[⟨ "Kind", 3, 0, false, "", "", 0⟩, ⟨ "At", 3, 1, false, "", "", 8⟩, ⟨ "Fill", 5, 2, false, "", "", 16⟩, ⟨ "Keep", 30, 3, false, "", "", 24⟩], 4, 48, some (.agg (([Value.int .i64 0] ++ [Value.int .i64 0] ++ [Value.int .u8 0] ++ [Value.slice none 0 0])).toArray)⟩
theorem u32 : prog.underlying 32 = some i32.u := by kernel_rfl
theorem z32 : (prog.info? 32).map (fun j => (j.size, j.bytes, j.zero)) = some (i32.size, i32.bytes, i32.zero) := by kernel_rfl
def i78 : TI := ⟨.int .u64, 1, 8, some (Value.int .u64 0)⟩
theorem u78 : prog.underlying 78 = some i78.u := by kernel_rfl
theorem z78 : (prog.info? 78).map (fun j => (j.size, j.bytes, j.zero)) = some (i78.size, i78.bytes, i78.zero) := by kernel_rfl
def i24 : TI := ⟨.pointer 102, 1, 8, some (Value.pointer none)⟩
theorem u24 : prog.underlying 24 = some i24.u := by kernel_rfl
theorem z24 : (prog.info? 24).map (fun j => (j.size, j.bytes, j.zero)) = some (i24.size, i24.bytes, i24.zero) := by kernel_rfl
def i122 : TI := ⟨.struct #[⟨ "place", 3, 0, false, "", "hollowtree/extent", 0⟩, ⟨ "turn", 78, 1, false, "", "hollowtree/extent", 8⟩, ⟨ "size", 3, 2, false, "", "hollowtree/extent", 16⟩, ⟨ "hash", 119, 3, false, "", "hollowtree/extent", 24⟩], 19, 40, some (.agg (([Value.int .i64 0] ++ [Value.int .u64 0] ++ [Value.int .i64 0] ++ List.replicate 16 (Value.int .u8 0))).toArray)⟩
theorem u122 : prog.underlying 122 = some i122.u := by kernel_rfl
theorem z122 : (prog.info? 122).map (fun j => (j.size, j.bytes, j.zero)) = some (i122.size, i122.bytes, i122.zero) := by kernel_rfl
def i157 : TI := ⟨.array 8 145, 8, 32, some (.agg (List.replicate 8 (Value.int .u32 0)).toArray)⟩
theorem u157 : prog.underlying 157 = some i157.u := by kernel_rfl
theorem z157 : (prog.info? 157).map (fun j => (j.size, j.bytes, j.zero)) = some (i157.size, i157.bytes, i157.zero) := by kernel_rfl
def i68 : TI := ⟨.struct #[⟨ "Blocks", 35, 0, false, "", "", 0⟩], 1, 24, some (.agg (([Value.slice none 0 0])).toArray)⟩
theorem u68 : prog.underlying 68 = some i68.u := by kernel_rfl
theorem z68 : (prog.info? 68).map (fun j => (j.size, j.bytes, j.zero)) = some (i68.size, i68.bytes, i68.zero) := by kernel_rfl
def i102 : TI := ⟨.struct #[⟨ "safe", 35, 0, false, "", "hollowtree/disk", 0⟩, ⟨ "pending", 100, 1, false, "", "hollowtree/disk", 24⟩, ⟨ "dead", 4, 2, false, "", "hollowtree/disk", 48⟩, ⟨ "armed", 4, 3, false, "", "hollowtree/disk", 49⟩, ⟨ "left", 3, 4, false, "", "hollowtree/disk", 56⟩, ⟨ "ops", 3, 5, false, "", "hollowtree/disk", 64⟩], 6, 72, some (.agg (([Value.slice none 0 0] ++ [Value.slice none 0 0] ++ [Value.bool false] ++ [Value.bool false] ++ [Value.int .i64 0] ++ [Value.int .i64 0])).toArray)⟩
theorem u102 : prog.underlying 102 = some i102.u := by kernel_rfl
theorem z102 : (prog.info? 102).map (fun j => (j.size, j.bytes, j.zero)) = some (i102.size, i102.bytes, i102.zero) := by kernel_rfl
def i89 : TI := ⟨.struct #[⟨ "Place", 3, 0, false, "", "", 0⟩, ⟨ "Turn", 78, 1, false, "", "", 8⟩, ⟨ "Size", 3, 2, false, "", "", 16⟩, ⟨ "Hash", 73, 3, false, "", "", 24⟩, ⟨ "Right", 4, 4, false, "", "", 48⟩], 5, 56, some (.agg (([Value.int .i64 0] ++ [Value.int .u64 0] ++ [Value.int .i64 0] ++ [Value.slice none 0 0] ++ [Value.bool false])).toArray)⟩
theorem u89 : prog.underlying 89 = some i89.u := by kernel_rfl
theorem z89 : (prog.info? 89).map (fun j => (j.size, j.bytes, j.zero)) = some (i89.size, i89.bytes, i89.zero) := by kernel_rfl
def i4 : TI := ⟨.bool, 1, 1, some (Value.bool false)⟩
theorem u4 : prog.underlying 4 = some i4.u := by kernel_rfl
theorem z4 : (prog.info? 4).map (fun j => (j.size, j.bytes, j.zero)) = some (i4.size, i4.bytes, i4.zero) := by kernel_rfl
def i125 : TI := ⟨.struct #[⟨ "super", 122, 0, true, "", "hollowtree/extent", 0⟩, ⟨ "disk", 24, 19, false, "", "hollowtree/extent", 40⟩], 20, 48, some (.agg ((([Value.int .i64 0] ++ [Value.int .u64 0] ++ [Value.int .i64 0] ++ List.replicate 16 (Value.int .u8 0)) ++ [Value.pointer none])).toArray)⟩
theorem u125 : prog.underlying 125 = some i125.u := by kernel_rfl
theorem z125 : (prog.info? 125).map (fun j => (j.size, j.bytes, j.zero)) = some (i125.size, i125.bytes, i125.zero) := by kernel_rfl
def i30 : TI := ⟨.slice 4, 1, 24, some (Value.slice none 0 0)⟩
theorem u30 : prog.underlying 30 = some i30.u := by kernel_rfl
theorem z30 : (prog.info? 30).map (fun j => (j.size, j.bytes, j.zero)) = some (i30.size, i30.bytes, i30.zero) := by kernel_rfl
def i140 : TI := ⟨.array 32 5, 32, 32, some (.agg (List.replicate 32 (Value.int .u8 0)).toArray)⟩
theorem u140 : prog.underlying 140 = some i140.u := by kernel_rfl
theorem z140 : (prog.info? 140).map (fun j => (j.size, j.bytes, j.zero)) = some (i140.size, i140.bytes, i140.zero) := by kernel_rfl
def i167 : TI := ⟨.struct #[⟨ "state", 157, 0, false, "", "hollowtree/sha", 0⟩, ⟨ "k", 164, 8, false, "", "hollowtree/sha", 32⟩, ⟨ "rest", 26, 9, false, "", "hollowtree/sha", 56⟩, ⟨ "n", 3, 73, false, "", "hollowtree/sha", 120⟩], 74, 128, some (.agg ((List.replicate 8 (Value.int .u32 0) ++ [Value.slice none 0 0] ++ List.replicate 64 (Value.int .u8 0) ++ [Value.int .i64 0])).toArray)⟩
theorem u167 : prog.underlying 167 = some i167.u := by kernel_rfl
theorem z167 : (prog.info? 167).map (fun j => (j.size, j.bytes, j.zero)) = some (i167.size, i167.bytes, i167.zero) := by kernel_rfl
def i100 : TI := ⟨.slice 113, 1, 24, some (Value.slice none 0 0)⟩
theorem u100 : prog.underlying 100 = some i100.u := by kernel_rfl
theorem z100 : (prog.info? 100).map (fun j => (j.size, j.bytes, j.zero)) = some (i100.size, i100.bytes, i100.zero) := by kernel_rfl
def i155 : TI := ⟨.array 64 145, 64, 256, some (.agg (List.replicate 64 (Value.int .u32 0)).toArray)⟩
theorem u155 : prog.underlying 155 = some i155.u := by kernel_rfl
theorem z155 : (prog.info? 155).map (fun j => (j.size, j.bytes, j.zero)) = some (i155.size, i155.bytes, i155.zero) := by kernel_rfl
def i41 : TI := ⟨.slice 108, 1, 24, some (Value.slice none 0 0)⟩
theorem u41 : prog.underlying 41 = some i41.u := by kernel_rfl
theorem z41 : (prog.info? 41).map (fun j => (j.size, j.bytes, j.zero)) = some (i41.size, i41.bytes, i41.zero) := by kernel_rfl
def i55 : TI := ⟨.slice 3, 1, 24, some (Value.slice none 0 0)⟩
theorem u55 : prog.underlying 55 = some i55.u := by kernel_rfl
theorem z55 : (prog.info? 55).map (fun j => (j.size, j.bytes, j.zero)) = some (i55.size, i55.bytes, i55.zero) := by kernel_rfl
def i22 : TI := ⟨.slice 32, 1, 24, some (Value.slice none 0 0)⟩
theorem u22 : prog.underlying 22 = some i22.u := by kernel_rfl
theorem z22 : (prog.info? 22).map (fun j => (j.size, j.bytes, j.zero)) = some (i22.size, i22.bytes, i22.zero) := by kernel_rfl
def i113 : TI := ⟨.struct #[⟨ "at", 3, 0, false, "", "hollowtree/disk", 0⟩, ⟨ "block", 27, 1, false, "", "hollowtree/disk", 8⟩], 65, 72, some (.agg (([Value.int .i64 0] ++ List.replicate 64 (Value.int .u8 0))).toArray)⟩
theorem u113 : prog.underlying 113 = some i113.u := by kernel_rfl
theorem z113 : (prog.info? 113).map (fun j => (j.size, j.bytes, j.zero)) = some (i113.size, i113.bytes, i113.zero) := by kernel_rfl
def i64 : TI := ⟨.pointer 125, 1, 8, some (Value.pointer none)⟩
theorem u64 : prog.underlying 64 = some i64.u := by kernel_rfl
theorem z64 : (prog.info? 64).map (fun j => (j.size, j.bytes, j.zero)) = some (i64.size, i64.bytes, i64.zero) := by kernel_rfl
def i108 : TI := ⟨.struct #[⟨ "At", 3, 0, false, "", "", 0⟩, ⟨ "Block", 27, 1, false, "", "", 8⟩], 65, 72, some (.agg (([Value.int .i64 0] ++ List.replicate 64 (Value.int .u8 0))).toArray)⟩
theorem u108 : prog.underlying 108 = some i108.u := by kernel_rfl
theorem z108 : (prog.info? 108).map (fun j => (j.size, j.bytes, j.zero)) = some (i108.size, i108.bytes, i108.zero) := by kernel_rfl
def i119 : TI := ⟨.array 16 5, 16, 16, some (.agg (List.replicate 16 (Value.int .u8 0)).toArray)⟩
theorem u119 : prog.underlying 119 = some i119.u := by kernel_rfl
theorem z119 : (prog.info? 119).map (fun j => (j.size, j.bytes, j.zero)) = some (i119.size, i119.bytes, i119.zero) := by kernel_rfl
def i161 : TI := ⟨.struct #[⟨ "bytes", 73, 0, false, "", "hollowtree/octet", 0⟩, ⟨ "at", 3, 1, false, "", "hollowtree/octet", 24⟩, ⟨ "err", 38, 2, false, "", "hollowtree/octet", 32⟩], 3, 40, some (.agg (([Value.slice none 0 0] ++ [Value.int .i64 0] ++ [Value.int .i64 0])).toArray)⟩
theorem u161 : prog.underlying 161 = some i161.u := by kernel_rfl
theorem z161 : (prog.info? 161).map (fun j => (j.size, j.bytes, j.zero)) = some (i161.size, i161.bytes, i161.zero) := by kernel_rfl
def i164 : TI := ⟨.slice 145, 1, 24, some (Value.slice none 0 0)⟩
theorem u164 : prog.underlying 164 = some i164.u := by kernel_rfl
theorem z164 : (prog.info? 164).map (fun j => (j.size, j.bytes, j.zero)) = some (i164.size, i164.bytes, i164.zero) := by kernel_rfl
def i80 : TI := ⟨.struct #[⟨ "At", 3, 0, false, "", "", 0⟩, ⟨ "Turn", 27, 1, false, "", "", 8⟩, ⟨ "Super", 4, 65, false, "", "", 72⟩, ⟨ "Counter", 78, 66, false, "", "", 80⟩], 67, 88, some (.agg (([Value.int .i64 0] ++ List.replicate 64 (Value.int .u8 0) ++ [Value.bool false] ++ [Value.int .u64 0])).toArray)⟩
theorem u80 : prog.underlying 80 = some i80.u := by kernel_rfl
theorem z80 : (prog.info? 80).map (fun j => (j.size, j.bytes, j.zero)) = some (i80.size, i80.bytes, i80.zero) := by kernel_rfl
def i76 : TI := ⟨.struct #[⟨ "More", 3, 0, false, "", "", 0⟩, ⟨ "Format", 4, 1, false, "", "", 8⟩, ⟨ "Snapshot", 73, 2, false, "", "", 16⟩, ⟨ "Writes", 74, 3, false, "", "", 40⟩], 4, 64, some (.agg (([Value.int .i64 0] ++ [Value.bool false] ++ [Value.slice none 0 0] ++ [Value.slice none 0 0])).toArray)⟩
theorem u76 : prog.underlying 76 = some i76.u := by kernel_rfl
theorem z76 : (prog.info? 76).map (fun j => (j.size, j.bytes, j.zero)) = some (i76.size, i76.bytes, i76.zero) := by kernel_rfl
def i95 : TI := ⟨.struct #[⟨ "More", 3, 0, false, "", "", 0⟩, ⟨ "Ahead", 3, 1, false, "", "", 8⟩, ⟨ "At", 3, 2, false, "", "", 16⟩, ⟨ "Keep", 30, 3, false, "", "", 24⟩], 4, 48, some (.agg (([Value.int .i64 0] ++ [Value.int .i64 0] ++ [Value.int .i64 0] ++ [Value.slice none 0 0])).toArray)⟩
theorem u95 : prog.underlying 95 = some i95.u := by kernel_rfl
theorem z95 : (prog.info? 95).map (fun j => (j.size, j.bytes, j.zero)) = some (i95.size, i95.bytes, i95.zero) := by kernel_rfl
def i21 : TI := ⟨.int .i32, 1, 4, some (Value.int .i32 0)⟩
theorem u21 : prog.underlying 21 = some i21.u := by kernel_rfl
theorem z21 : (prog.info? 21).map (fun j => (j.size, j.bytes, j.zero)) = some (i21.size, i21.bytes, i21.zero) := by kernel_rfl
def i28 : TI := ⟨.array 6 27, 384, 384, some (.agg ((List.replicate 6 (List.replicate 64 (Value.int .u8 0))).flatten).toArray)⟩
theorem u28 : prog.underlying 28 = some i28.u := by kernel_rfl
theorem z28 : (prog.info? 28).map (fun j => (j.size, j.bytes, j.zero)) = some (i28.size, i28.bytes, i28.zero) := by kernel_rfl
def i74 : TI := ⟨.slice 80, 1, 24, some (Value.slice none 0 0)⟩
theorem u74 : prog.underlying 74 = some i74.u := by kernel_rfl
theorem z74 : (prog.info? 74).map (fun j => (j.size, j.bytes, j.zero)) = some (i74.size, i74.bytes, i74.zero) := by kernel_rfl
def i99 : TI := ⟨.int .u64, 1, 8, some (Value.int .u64 0)⟩
theorem u99 : prog.underlying 99 = some i99.u := by kernel_rfl
theorem z99 : (prog.info? 99).map (fun j => (j.size, j.bytes, j.zero)) = some (i99.size, i99.bytes, i99.zero) := by kernel_rfl
def i9 : TI := ⟨.string, 1, 16, some (Value.string ByteArray.empty)⟩
theorem u9 : prog.underlying 9 = some i9.u := by kernel_rfl
theorem z9 : (prog.info? 9).map (fun j => (j.size, j.bytes, j.zero)) = some (i9.size, i9.bytes, i9.zero) := by kernel_rfl
def i163 : TI := ⟨.struct #[⟨ "spot", 161, 0, true, "", "hollowtree/octet", 0⟩], 3, 40, some (.agg ((([Value.slice none 0 0] ++ [Value.int .i64 0] ++ [Value.int .i64 0]))).toArray)⟩
theorem u163 : prog.underlying 163 = some i163.u := by kernel_rfl
theorem z163 : (prog.info? 163).map (fun j => (j.size, j.bytes, j.zero)) = some (i163.size, i163.bytes, i163.zero) := by kernel_rfl
def i26 : TI := ⟨.array 64 5, 64, 64, some (.agg (List.replicate 64 (Value.int .u8 0)).toArray)⟩
theorem u26 : prog.underlying 26 = some i26.u := by kernel_rfl
theorem z26 : (prog.info? 26).map (fun j => (j.size, j.bytes, j.zero)) = some (i26.size, i26.bytes, i26.zero) := by kernel_rfl
def i92 : TI := ⟨.slice 73, 1, 24, some (Value.slice none 0 0)⟩
theorem u92 : prog.underlying 92 = some i92.u := by kernel_rfl
theorem z92 : (prog.info? 92).map (fun j => (j.size, j.bytes, j.zero)) = some (i92.size, i92.bytes, i92.zero) := by kernel_rfl
def i151 : TI := ⟨.pointer 167, 1, 8, some (Value.pointer none)⟩
theorem u151 : prog.underlying 151 = some i151.u := by kernel_rfl
theorem z151 : (prog.info? 151).map (fun j => (j.size, j.bytes, j.zero)) = some (i151.size, i151.bytes, i151.zero) := by kernel_rfl
def i146 : TI := ⟨.pointer 163, 1, 8, some (Value.pointer none)⟩
theorem u146 : prog.underlying 146 = some i146.u := by kernel_rfl
theorem z146 : (prog.info? 146).map (fun j => (j.size, j.bytes, j.zero)) = some (i146.size, i146.bytes, i146.zero) := by kernel_rfl
def T : Tab := [(3, i3), (27, i27), (145, i145), (73, i73), (43, i43), (38, i38), (35, i35), (5, i5), (32, i32), (78, i78), (24, i24), (122, i122), (157, i157), (68, i68), (102, i102), (89, i89), (4, i4), (125, i125), (30, i30), (140, i140), (167, i167), (100, i100), (155, i155), (41, i41), (55, i55), (22, i22), (113, i113), (64, i64), (108, i108), (119, i119), (161, i161), (164, i164), (80, i80), (76, i76), (95, i95), (21, i21), (28, i28), (74, i74), (99, i99), (9, i9), (163, i163), (26, i26), (92, i92), (151, i151), (146, i146)]
theorem hT : Tok prog T := Tok.cons u3 z3 (Tok.cons u27 z27 (Tok.cons u145 z145 (Tok.cons u73 z73 (Tok.cons u43 z43 (Tok.cons u38 z38 (Tok.cons u35 z35 (Tok.cons u5 z5 (Tok.cons u32 z32 (Tok.cons u78 z78 (Tok.cons u24 z24 (Tok.cons u122 z122 (Tok.cons u157 z157 (Tok.cons u68 z68 (Tok.cons u102 z102 (Tok.cons u89 z89 (Tok.cons u4 z4 (Tok.cons u125 z125 (Tok.cons u30 z30 (Tok.cons u140 z140 (Tok.cons u167 z167 (Tok.cons u100 z100 (Tok.cons u155 z155 (Tok.cons u41 z41 (Tok.cons u55 z55 (Tok.cons u22 z22 (Tok.cons u113 z113 (Tok.cons u64 z64 (Tok.cons u108 z108 (Tok.cons u119 z119 (Tok.cons u161 z161 (Tok.cons u164 z164 (Tok.cons u80 z80 (Tok.cons u76 z76 (Tok.cons u95 z95 (Tok.cons u21 z21 (Tok.cons u28 z28 (Tok.cons u74 z74 (Tok.cons u99 z99 (Tok.cons u9 z9 (Tok.cons u163 z163 (Tok.cons u26 z26 (Tok.cons u92 z92 (Tok.cons u151 z151 (Tok.cons u146 z146 Tok.nil))))))))))))))))))))))))))))))))))))))))))))
theorem e2 : Ent prog 2 := Ent.mk Try.func2 (by kernel_rfl) (by kernel_rfl)
theorem e3 : Ent prog 3 := Ent.mk Try.func3 (by kernel_rfl) (by kernel_rfl)
theorem e4 : Ent prog 4 := Ent.mk Try.func4 (by kernel_rfl) (by kernel_rfl)
theorem e5 : Ent prog 5 := Ent.mk Try.func5 (by kernel_rfl) (by kernel_rfl)
theorem e6 : Ent prog 6 := Ent.mk Try.func6 (by kernel_rfl) (by kernel_rfl)
theorem e7 : Ent prog 7 := Ent.mk Try.func7 (by kernel_rfl) (by kernel_rfl)
theorem e8 : Ent prog 8 := Ent.mk Try.func8 (by kernel_rfl) (by kernel_rfl)
theorem e9 : Ent prog 9 := Ent.mk Try.func9 (by kernel_rfl) (by kernel_rfl)
theorem e10 : Ent prog 10 := Ent.mk Try.func10 (by kernel_rfl) (by kernel_rfl)
theorem e11 : Ent prog 11 := Ent.mk Try.func11 (by kernel_rfl) (by kernel_rfl)
theorem e12 : Ent prog 12 := Ent.mk Try.func12 (by kernel_rfl) (by kernel_rfl)
theorem e13 : Ent prog 13 := Ent.mk Try.func13 (by kernel_rfl) (by kernel_rfl)
theorem e14 : Ent prog 14 := Ent.mk Try.func14 (by kernel_rfl) (by kernel_rfl)
theorem e15 : Ent prog 15 := Ent.mk Try.func15 (by kernel_rfl) (by kernel_rfl)
theorem e16 : Ent prog 16 := Ent.mk Try.func16 (by kernel_rfl) (by kernel_rfl)
theorem e17 : Ent prog 17 := Ent.mk Try.func17 (by kernel_rfl) (by kernel_rfl)
theorem e18 : Ent prog 18 := Ent.mk Try.func18 (by kernel_rfl) (by kernel_rfl)
theorem e19 : Ent prog 19 := Ent.mk Try.func19 (by kernel_rfl) (by kernel_rfl)
theorem e20 : Ent prog 20 := Ent.mk Try.func20 (by kernel_rfl) (by kernel_rfl)
theorem e21 : Ent prog 21 := Ent.mk Try.func21 (by kernel_rfl) (by kernel_rfl)
theorem e22 : Ent prog 22 := Ent.mk Try.func22 (by kernel_rfl) (by kernel_rfl)
theorem e23 : Ent prog 23 := Ent.mk Try.func23 (by kernel_rfl) (by kernel_rfl)
theorem e24 : Ent prog 24 := Ent.mk Try.func24 (by kernel_rfl) (by kernel_rfl)
theorem e25 : Ent prog 25 := Ent.mk Try.func25 (by kernel_rfl) (by kernel_rfl)
theorem e26 : Ent prog 26 := Ent.mk Try.func26 (by kernel_rfl) (by kernel_rfl)
theorem e27 : Ent prog 27 := Ent.mk Try.func27 (by kernel_rfl) (by kernel_rfl)
theorem e28 : Ent prog 28 := Ent.mk Try.func28 (by kernel_rfl) (by kernel_rfl)
theorem e29 : Ent prog 29 := Ent.mk Try.func29 (by kernel_rfl) (by kernel_rfl)
theorem e30 : Ent prog 30 := Ent.mk Try.func30 (by kernel_rfl) (by kernel_rfl)
theorem e31 : Ent prog 31 := Ent.mk Try.func31 (by kernel_rfl) (by kernel_rfl)
theorem e32 : Ent prog 32 := Ent.mk Try.func32 (by kernel_rfl) (by kernel_rfl)
theorem e33 : Ent prog 33 := Ent.mk Try.func33 (by kernel_rfl) (by kernel_rfl)
theorem e34 : Ent prog 34 := Ent.mk Try.func34 (by kernel_rfl) (by kernel_rfl)
theorem e35 : Ent prog 35 := Ent.mk Try.func35 (by kernel_rfl) (by kernel_rfl)
theorem e36 : Ent prog 36 := Ent.mk Try.func36 (by kernel_rfl) (by kernel_rfl)
theorem e37 : Ent prog 37 := Ent.mk Try.func37 (by kernel_rfl) (by kernel_rfl)
theorem e38 : Ent prog 38 := Ent.mk Try.func38 (by kernel_rfl) (by kernel_rfl)
theorem e39 : Ent prog 39 := Ent.mk Try.func39 (by kernel_rfl) (by kernel_rfl)
theorem e40 : Ent prog 40 := Ent.mk Try.func40 (by kernel_rfl) (by kernel_rfl)
theorem e41 : Ent prog 41 := Ent.mk Try.func41 (by kernel_rfl) (by kernel_rfl)
theorem e42 : Ent prog 42 := Ent.mk Try.func42 (by kernel_rfl) (by kernel_rfl)
theorem e43 : Ent prog 43 := Ent.mk Try.func43 (by kernel_rfl) (by kernel_rfl)
theorem e44 : Ent prog 44 := Ent.mk Try.func44 (by kernel_rfl) (by kernel_rfl)
theorem e45 : Ent prog 45 := Ent.mk Try.func45 (by kernel_rfl) (by kernel_rfl)
theorem e46 : Ent prog 46 := Ent.mk Try.func46 (by kernel_rfl) (by kernel_rfl)
theorem e47 : Ent prog 47 := Ent.mk Try.func47 (by kernel_rfl) (by kernel_rfl)
theorem e48 : Ent prog 48 := Ent.mk Try.func48 (by kernel_rfl) (by kernel_rfl)
theorem e49 : Ent prog 49 := Ent.mk Try.func49 (by kernel_rfl) (by kernel_rfl)
theorem e50 : Ent prog 50 := Ent.mk Try.func50 (by kernel_rfl) (by kernel_rfl)
theorem e51 : Ent prog 51 := Ent.mk Try.func51 (by kernel_rfl) (by kernel_rfl)
theorem e52 : Ent prog 52 := Ent.mk Try.func52 (by kernel_rfl) (by kernel_rfl)
theorem e53 : Ent prog 53 := Ent.mk Try.func53 (by kernel_rfl) (by kernel_rfl)
theorem e54 : Ent prog 54 := Ent.mk Try.func54 (by kernel_rfl) (by kernel_rfl)
theorem e55 : Ent prog 55 := Ent.mk Try.func55 (by kernel_rfl) (by kernel_rfl)
theorem e56 : Ent prog 56 := Ent.mk Try.func56 (by kernel_rfl) (by kernel_rfl)
theorem e57 : Ent prog 57 := Ent.mk Try.func57 (by kernel_rfl) (by kernel_rfl)
theorem e58 : Ent prog 58 := Ent.mk Try.func58 (by kernel_rfl) (by kernel_rfl)
theorem e59 : Ent prog 59 := Ent.mk Try.func59 (by kernel_rfl) (by kernel_rfl)
theorem e60 : Ent prog 60 := Ent.mk Try.func60 (by kernel_rfl) (by kernel_rfl)
theorem e61 : Ent prog 61 := Ent.mk Try.func61 (by kernel_rfl) (by kernel_rfl)
theorem e62 : Ent prog 62 := Ent.mk Try.func62 (by kernel_rfl) (by kernel_rfl)
theorem e63 : Ent prog 63 := Ent.mk Try.func63 (by kernel_rfl) (by kernel_rfl)
theorem e64 : Ent prog 64 := Ent.mk Try.func64 (by kernel_rfl) (by kernel_rfl)
theorem e65 : Ent prog 65 := Ent.mk Try.func65 (by kernel_rfl) (by kernel_rfl)
theorem e66 : Ent prog 66 := Ent.mk Try.func66 (by kernel_rfl) (by kernel_rfl)
theorem e67 : Ent prog 67 := Ent.mk Try.func67 (by kernel_rfl) (by kernel_rfl)
theorem e68 : Ent prog 68 := Ent.mk Try.func68 (by kernel_rfl) (by kernel_rfl)
theorem e69 : Ent prog 69 := Ent.mk Try.func69 (by kernel_rfl) (by kernel_rfl)
theorem e70 : Ent prog 70 := Ent.mk Try.func70 (by kernel_rfl) (by kernel_rfl)
theorem e71 : Ent prog 71 := Ent.mk Try.func71 (by kernel_rfl) (by kernel_rfl)
theorem e72 : Ent prog 72 := Ent.mk Try.func72 (by kernel_rfl) (by kernel_rfl)
theorem e73 : Ent prog 73 := Ent.mk Try.func73 (by kernel_rfl) (by kernel_rfl)
theorem e74 : Ent prog 74 := Ent.mk Try.func74 (by kernel_rfl) (by kernel_rfl)
theorem e75 : Ent prog 75 := Ent.mk Try.func75 (by kernel_rfl) (by kernel_rfl)
theorem e76 : Ent prog 76 := Ent.mk Try.func76 (by kernel_rfl) (by kernel_rfl)
theorem e77 : Ent prog 77 := Ent.mk Try.func77 (by kernel_rfl) (by kernel_rfl)
theorem e78 : Ent prog 78 := Ent.mk Try.func78 (by kernel_rfl) (by kernel_rfl)
theorem e79 : Ent prog 79 := Ent.mk Try.func79 (by kernel_rfl) (by kernel_rfl)
theorem e80 : Ent prog 80 := Ent.mk Try.func80 (by kernel_rfl) (by kernel_rfl)
theorem e81 : Ent prog 81 := Ent.mk Try.func81 (by kernel_rfl) (by kernel_rfl)
theorem e82 : Ent prog 82 := Ent.mk Try.func82 (by kernel_rfl) (by kernel_rfl)
theorem e83 : Ent prog 83 := Ent.mk Try.func83 (by kernel_rfl) (by kernel_rfl)
theorem e84 : Ent prog 84 := Ent.mk Try.func84 (by kernel_rfl) (by kernel_rfl)
theorem e85 : Ent prog 85 := Ent.mk Try.func85 (by kernel_rfl) (by kernel_rfl)
theorem e86 : Ent prog 86 := Ent.mk Try.func86 (by kernel_rfl) (by kernel_rfl)
theorem e87 : Ent prog 87 := Ent.mk Try.func87 (by kernel_rfl) (by kernel_rfl)
theorem e88 : Ent prog 88 := Ent.mk Try.func88 (by kernel_rfl) (by kernel_rfl)
theorem e89 : Ent prog 89 := Ent.mk Try.func89 (by kernel_rfl) (by kernel_rfl)
theorem e90 : Ent prog 90 := Ent.mk Try.func90 (by kernel_rfl) (by kernel_rfl)
theorem e91 : Ent prog 91 := Ent.mk Try.func91 (by kernel_rfl) (by kernel_rfl)
theorem e92 : Ent prog 92 := Ent.mk Try.func92 (by kernel_rfl) (by kernel_rfl)
theorem e93 : Ent prog 93 := Ent.mk Try.func93 (by kernel_rfl) (by kernel_rfl)
theorem e94 : Ent prog 94 := Ent.mk Try.func94 (by kernel_rfl) (by kernel_rfl)
theorem e95 : Ent prog 95 := Ent.mk Try.func95 (by kernel_rfl) (by kernel_rfl)
theorem e96 : Ent prog 96 := Ent.mk Try.func96 (by kernel_rfl) (by kernel_rfl)
theorem e97 : Ent prog 97 := Ent.mk Try.func97 (by kernel_rfl) (by kernel_rfl)
theorem e98 : Ent prog 98 := Ent.mk Try.func98 (by kernel_rfl) (by kernel_rfl)
theorem e99 : Ent prog 99 := Ent.mk Try.func99 (by kernel_rfl) (by kernel_rfl)
theorem e100 : Ent prog 100 := Ent.mk Try.func100 (by kernel_rfl) (by kernel_rfl)
theorem e101 : Ent prog 101 := Ent.mk Try.func101 (by kernel_rfl) (by kernel_rfl)
theorem e102 : Ent prog 102 := Ent.mk Try.func102 (by kernel_rfl) (by kernel_rfl)
theorem e103 : Ent prog 103 := Ent.mk Try.func103 (by kernel_rfl) (by kernel_rfl)
theorem e104 : Ent prog 104 := Ent.mk Try.func104 (by kernel_rfl) (by kernel_rfl)
theorem e105 : Ent prog 105 := Ent.mk Try.func105 (by kernel_rfl) (by kernel_rfl)
theorem e106 : Ent prog 106 := Ent.mk Try.func106 (by kernel_rfl) (by kernel_rfl)
theorem e107 : Ent prog 107 := Ent.mk Try.func107 (by kernel_rfl) (by kernel_rfl)
theorem e108 : Ent prog 108 := Ent.mk Try.func108 (by kernel_rfl) (by kernel_rfl)
theorem e109 : Ent prog 109 := Ent.mk Try.func109 (by kernel_rfl) (by kernel_rfl)
theorem e110 : Ent prog 110 := Ent.mk Try.func110 (by kernel_rfl) (by kernel_rfl)
end Go.Proofs.Ytilifeeddpkclaa
