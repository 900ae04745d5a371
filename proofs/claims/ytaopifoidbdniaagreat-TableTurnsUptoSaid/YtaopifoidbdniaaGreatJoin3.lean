import Derived.Test.YtaopifoidbdniaaGreatProg
import Derived.KernelRfl
import Derived.Test.YtaopifoidbdniaaGreatRows
import Derived.Test.YtaopifoidbdniaaGreatJoin1
import Derived.Test.YtaopifoidbdniaaGreatJoin2
namespace Go.Proofs.YtaopifoidbdniaaGreat
section
open Go Go.SL
noncomputable abbrev prog : Program := Tryz.prog
theorem mixed : prog.follows .mixedOrders = true := by kernel_rfl
def i3 : TI := ⟨.int .i64, 1, 8, some (Value.int .i64 0)⟩
theorem u3 : prog.underlying 3 = some i3.u := by kernel_rfl
theorem z3 : (prog.info? 3).map (fun j => (j.size, j.bytes, j.zero)) = some (i3.size, i3.bytes, i3.zero) := by kernel_rfl
def i41 : TI := ⟨.slice 5, 1, 24, some (Value.slice none 0 0)⟩
theorem u41 : prog.underlying 41 = some i41.u := by kernel_rfl
theorem z41 : (prog.info? 41).map (fun j => (j.size, j.bytes, j.zero)) = some (i41.size, i41.bytes, i41.zero) := by kernel_rfl
def i9 : TI := ⟨.string, 1, 16, some (Value.string ByteArray.empty)⟩
theorem u9 : prog.underlying 9 = some i9.u := by kernel_rfl
theorem z9 : (prog.info? 9).map (fun j => (j.size, j.bytes, j.zero)) = some (i9.size, i9.bytes, i9.zero) := by kernel_rfl
def i31 : TI := ⟨.int .i64, 1, 8, some (Value.int .i64 0)⟩
theorem u31 : prog.underlying 31 = some i31.u := by kernel_rfl
theorem z31 : (prog.info? 31).map (fun j => (j.size, j.bytes, j.zero)) = some (i31.size, i31.bytes, i31.zero) := by kernel_rfl
def i52 : TI := ⟨.int .u64, 1, 8, some (Value.int .u64 0)⟩
theorem u52 : prog.underlying 52 = some i52.u := by kernel_rfl
theorem z52 : (prog.info? 52).map (fun j => (j.size, j.bytes, j.zero)) = some (i52.size, i52.bytes, i52.zero) := by kernel_rfl
def i115 : TI := ⟨.struct #[⟨ "Last", 52, 0, false, "", "", 0⟩, ⟨ "Phase", 3, 1, false, "", "", 8⟩, ⟨ "Hops", 3, 2, false, "", "", 16⟩, ⟨ "Got", 99, 3, false, "", "", 24⟩], 4, 48, some (.agg (([Value.int .u64 0] ++ [Value.int .i64 0] ++ [Value.int .i64 0] ++ [Value.slice none 0 0])).toArray)⟩
theorem u115 : prog.underlying 115 = some i115.u := by kernel_rfl
theorem z115 : (prog.info? 115).map (fun j => (j.size, j.bytes, j.zero)) = some (i115.size, i115.bytes, i115.zero) := by kernel_rfl
def i22 : TI := ⟨.slice 9, 1, 24, some (Value.slice none 0 0)⟩
theorem u22 : prog.underlying 22 = some i22.u := by kernel_rfl
theorem z22 : (prog.info? 22).map (fun j => (j.size, j.bytes, j.zero)) = some (i22.size, i22.bytes, i22.zero) := by kernel_rfl
def i161 : TI := ⟨.slice 3, 1, 24, some (Value.slice none 0 0)⟩
theorem u161 : prog.underlying 161 = some i161.u := by kernel_rfl
theorem z161 : (prog.info? 161).map (fun j => (j.size, j.bytes, j.zero)) = some (i161.size, i161.bytes, i161.zero) := by kernel_rfl
def i239 : TI := ⟨.int .u32, 1, 4, some (Value.int .u32 0)⟩
theorem u239 : prog.underlying 239 = some i239.u := by kernel_rfl
theorem z239 : (prog.info? 239).map (fun j => (j.size, j.bytes, j.zero)) = some (i239.size, i239.bytes, i239.zero) := by kernel_rfl
def i5 : TI := ⟨.int .u8, 1, 1, some (Value.int .u8 0)⟩
theorem u5 : prog.underlying 5 = some i5.u := by kernel_rfl
theorem z5 : (prog.info? 5).map (fun j => (j.size, j.bytes, j.zero)) = some (i5.size, i5.bytes, i5.zero) := by kernel_rfl
def i104 : TI := ⟨.struct #[⟨ "Client", 3, 0, false, "", "", 0⟩, ⟨ "Slot", 3, 1, false, "", "", 8⟩, ⟨ "Round", 52, 2, false, "", "", 16⟩, ⟨ "Onion", 41, 3, false, "", "", 24⟩], 4, 48, some (.agg (([Value.int .i64 0] ++ [Value.int .i64 0] ++ [Value.int .u64 0] ++ [Value.slice none 0 0])).toArray)⟩
theorem u104 : prog.underlying 104 = some i104.u := by kernel_rfl
theorem z104 : (prog.info? 104).map (fun j => (j.size, j.bytes, j.zero)) = some (i104.size, i104.bytes, i104.zero) := by kernel_rfl
def i202 : TI := ⟨.array 64 5, 64, 64, some (.agg (List.replicate 64 (Value.int .u8 0)).toArray)⟩
theorem u202 : prog.underlying 202 = some i202.u := by kernel_rfl
theorem z202 : (prog.info? 202).map (fun j => (j.size, j.bytes, j.zero)) = some (i202.size, i202.bytes, i202.zero) := by kernel_rfl
def i59 : TI := ⟨.slice 41, 1, 24, some (Value.slice none 0 0)⟩
theorem u59 : prog.underlying 59 = some i59.u := by kernel_rfl
theorem z59 : (prog.info? 59).map (fun j => (j.size, j.bytes, j.zero)) = some (i59.size, i59.bytes, i59.zero) := by kernel_rfl
def i30 : TI := ⟨.pointer 139, 1, 8, some (Value.pointer none)⟩
theorem u30 : prog.underlying 30 = some i30.u := by kernel_rfl
theorem z30 : (prog.info? 30).map (fun j => (j.size, j.bytes, j.zero)) = some (i30.size, i30.bytes, i30.zero) := by kernel_rfl
def i71 : TI := ⟨.struct #[⟨ "Rows", 3, 0, false, "", "", 0⟩, ⟨ "Key", 3, 1, false, "", "", 8⟩, ⟨ "Value", 3, 2, false, "", "", 16⟩], 3, 24, some (.agg (([Value.int .i64 0] ++ [Value.int .i64 0] ++ [Value.int .i64 0])).toArray)⟩
theorem u71 : prog.underlying 71 = some i71.u := by kernel_rfl
theorem z71 : (prog.info? 71).map (fun j => (j.size, j.bytes, j.zero)) = some (i71.size, i71.bytes, i71.zero) := by kernel_rfl
def i199 : TI := ⟨.struct #[⟨ "place", 3, 0, false, "", "hollowtree/extent", 0⟩, ⟨ "turn", 52, 1, false, "", "hollowtree/extent", 8⟩, ⟨ "size", 3, 2, false, "", "hollowtree/extent", 16⟩, ⟨ "hash", 196, 3, false, "", "hollowtree/extent", 24⟩], 19, 40, some (.agg (([Value.int .i64 0] ++ [Value.int .u64 0] ++ [Value.int .i64 0] ++ List.replicate 16 (Value.int .u8 0))).toArray)⟩
theorem u199 : prog.underlying 199 = some i199.u := by kernel_rfl
theorem z199 : (prog.info? 199).map (fun j => (j.size, j.bytes, j.zero)) = some (i199.size, i199.bytes, i199.zero) := by kernel_rfl
def i34 : TI := ⟨.slice 71, 1, 24, some (Value.slice none 0 0)⟩
theorem u34 : prog.underlying 34 = some i34.u := by kernel_rfl
theorem z34 : (prog.info? 34).map (fun j => (j.size, j.bytes, j.zero)) = some (i34.size, i34.bytes, i34.zero) := by kernel_rfl
def i4 : TI := ⟨.bool, 1, 1, some (Value.bool false)⟩
theorem u4 : prog.underlying 4 = some i4.u := by kernel_rfl
theorem z4 : (prog.info? 4).map (fun j => (j.size, j.bytes, j.zero)) = some (i4.size, i4.bytes, i4.zero) := by kernel_rfl
def i178 : TI := ⟨.slice 176, 1, 24, some (Value.slice none 0 0)⟩
theorem u178 : prog.underlying 178 = some i178.u := by kernel_rfl
theorem z178 : (prog.info? 178).map (fun j => (j.size, j.bytes, j.zero)) = some (i178.size, i178.bytes, i178.zero) := by kernel_rfl
def i208 : TI := ⟨.struct #[⟨ "Store", 129, 0, true, "", "", 0⟩, ⟨ "snapshot", 41, 1, false, "", "hollowtree/wal", 8⟩, ⟨ "txs", 59, 2, false, "", "hollowtree/wal", 32⟩, ⟨ "used", 3, 3, false, "", "hollowtree/wal", 56⟩, ⟨ "broken", 4, 4, false, "", "hollowtree/wal", 64⟩], 5, 72, some (.agg (([Value.pointer none] ++ [Value.slice none 0 0] ++ [Value.slice none 0 0] ++ [Value.int .i64 0] ++ [Value.bool false])).toArray)⟩
theorem u208 : prog.underlying 208 = some i208.u := by kernel_rfl
theorem z208 : (prog.info? 208).map (fun j => (j.size, j.bytes, j.zero)) = some (i208.size, i208.bytes, i208.zero) := by kernel_rfl
def i157 : TI := ⟨.struct #[⟨ "log", 26, 0, false, "", "hollowtree/entry", 0⟩, ⟨ "broken", 4, 1, false, "", "hollowtree/entry", 8⟩, ⟨ "last", 52, 2, false, "", "hollowtree/entry", 16⟩, ⟨ "phase", 3, 3, false, "", "hollowtree/entry", 24⟩, ⟨ "hops", 3, 4, false, "", "hollowtree/entry", 32⟩, ⟨ "got", 155, 5, false, "", "hollowtree/entry", 40⟩], 6, 48, some (.agg (([Value.pointer none] ++ [Value.bool false] ++ [Value.int .u64 0] ++ [Value.int .i64 0] ++ [Value.int .i64 0] ++ [Value.map none])).toArray)⟩
theorem u157 : prog.underlying 157 = some i157.u := by kernel_rfl
theorem z157 : (prog.info? 157).map (fun j => (j.size, j.bytes, j.zero)) = some (i157.size, i157.bytes, i157.zero) := by kernel_rfl
def i84 : TI := ⟨.struct #[⟨ "Tables", 82, 0, false, "", "", 0⟩], 1, 24, some (.agg (([Value.slice none 0 0])).toArray)⟩
theorem u84 : prog.underlying 84 = some i84.u := by kernel_rfl
theorem z84 : (prog.info? 84).map (fun j => (j.size, j.bytes, j.zero)) = some (i84.size, i84.bytes, i84.zero) := by kernel_rfl
def i139 : TI := ⟨.struct #[⟨ "log", 26, 0, false, "", "hollowtree/table", 0⟩, ⟨ "shapes", 34, 1, false, "", "hollowtree/table", 8⟩, ⟨ "kept", 136, 2, false, "", "hollowtree/table", 32⟩, ⟨ "meant", 136, 3, false, "", "hollowtree/table", 56⟩, ⟨ "turned", 137, 4, false, "", "hollowtree/table", 80⟩], 5, 104, some (.agg (([Value.pointer none] ++ [Value.slice none 0 0] ++ [Value.slice none 0 0] ++ [Value.slice none 0 0] ++ [Value.slice none 0 0])).toArray)⟩
theorem u139 : prog.underlying 139 = some i139.u := by kernel_rfl
theorem z139 : (prog.info? 139).map (fun j => (j.size, j.bytes, j.zero)) = some (i139.size, i139.bytes, i139.zero) := by kernel_rfl
def i136 : TI := ⟨.slice 147, 1, 24, some (Value.slice none 0 0)⟩
theorem u136 : prog.underlying 136 = some i136.u := by kernel_rfl
theorem z136 : (prog.info? 136).map (fun j => (j.size, j.bytes, j.zero)) = some (i136.size, i136.bytes, i136.zero) := by kernel_rfl
def i147 : TI := ⟨.map 9 9, 1, 8, some (Value.map none)⟩
theorem u147 : prog.underlying 147 = some i147.u := by kernel_rfl
theorem z147 : (prog.info? 147).map (fun j => (j.size, j.bytes, j.zero)) = some (i147.size, i147.bytes, i147.zero) := by kernel_rfl
def i55 : TI := ⟨.struct #[⟨ "Round", 52, 0, false, "", "", 0⟩, ⟨ "Hops", 53, 1, false, "", "", 8⟩], 2, 32, some (.agg (([Value.int .u64 0] ++ [Value.slice none 0 0])).toArray)⟩
theorem u55 : prog.underlying 55 = some i55.u := by kernel_rfl
theorem z55 : (prog.info? 55).map (fun j => (j.size, j.bytes, j.zero)) = some (i55.size, i55.bytes, i55.zero) := by kernel_rfl
def i99 : TI := ⟨.slice 104, 1, 24, some (Value.slice none 0 0)⟩
theorem u99 : prog.underlying 99 = some i99.u := by kernel_rfl
theorem z99 : (prog.info? 99).map (fun j => (j.size, j.bytes, j.zero)) = some (i99.size, i99.bytes, i99.zero) := by kernel_rfl
def i120 : TI := ⟨.array 32 5, 32, 32, some (.agg (List.replicate 32 (Value.int .u8 0)).toArray)⟩
theorem u120 : prog.underlying 120 = some i120.u := by kernel_rfl
theorem z120 : (prog.info? 120).map (fun j => (j.size, j.bytes, j.zero)) = some (i120.size, i120.bytes, i120.zero) := by kernel_rfl
def i111 : TI := ⟨.struct #[⟨ "Client", 3, 0, false, "", "", 0⟩, ⟨ "Slot", 3, 1, false, "", "", 8⟩, ⟨ "Round", 52, 2, false, "", "", 16⟩, ⟨ "Reply", 41, 3, false, "", "", 24⟩], 4, 48, some (.agg (([Value.int .i64 0] ++ [Value.int .i64 0] ++ [Value.int .u64 0] ++ [Value.slice none 0 0])).toArray)⟩
theorem u111 : prog.underlying 111 = some i111.u := by kernel_rfl
theorem z111 : (prog.info? 111).map (fun j => (j.size, j.bytes, j.zero)) = some (i111.size, i111.bytes, i111.zero) := by kernel_rfl
def i87 : TI := ⟨.struct #[⟨ "kept", 84, 0, false, "", "hollowtree/hollowtreelaw13", 0⟩, ⟨ "meant", 84, 1, false, "", "hollowtree/hollowtreelaw13", 24⟩, ⟨ "shapes", 34, 2, false, "", "hollowtree/hollowtreelaw13", 48⟩, ⟨ "turned", 3, 3, false, "", "hollowtree/hollowtreelaw13", 72⟩], 4, 80, some (.agg ((([Value.slice none 0 0]) ++ ([Value.slice none 0 0]) ++ [Value.slice none 0 0] ++ [Value.int .i64 0])).toArray)⟩
theorem u87 : prog.underlying 87 = some i87.u := by kernel_rfl
theorem z87 : (prog.info? 87).map (fun j => (j.size, j.bytes, j.zero)) = some (i87.size, i87.bytes, i87.zero) := by kernel_rfl
def i27 : TI := ⟨.pointer 173, 1, 8, some (Value.pointer none)⟩
theorem u27 : prog.underlying 27 = some i27.u := by kernel_rfl
theorem z27 : (prog.info? 27).map (fun j => (j.size, j.bytes, j.zero)) = some (i27.size, i27.bytes, i27.zero) := by kernel_rfl
def i82 : TI := ⟨.slice 178, 1, 24, some (Value.slice none 0 0)⟩
theorem u82 : prog.underlying 82 = some i82.u := by kernel_rfl
theorem z82 : (prog.info? 82).map (fun j => (j.size, j.bytes, j.zero)) = some (i82.size, i82.bytes, i82.zero) := by kernel_rfl
def i107 : TI := ⟨.int .u64, 1, 8, some (Value.int .u64 0)⟩
theorem u107 : prog.underlying 107 = some i107.u := by kernel_rfl
theorem z107 : (prog.info? 107).map (fun j => (j.size, j.bytes, j.zero)) = some (i107.size, i107.bytes, i107.zero) := by kernel_rfl
def i205 : TI := ⟨.struct #[⟨ "super", 199, 0, true, "", "hollowtree/extent", 0⟩, ⟨ "disk", 27, 19, false, "", "hollowtree/extent", 40⟩], 20, 48, some (.agg ((([Value.int .i64 0] ++ [Value.int .u64 0] ++ [Value.int .i64 0] ++ List.replicate 16 (Value.int .u8 0)) ++ [Value.pointer none])).toArray)⟩
theorem u205 : prog.underlying 205 = some i205.u := by kernel_rfl
theorem z205 : (prog.info? 205).map (fun j => (j.size, j.bytes, j.zero)) = some (i205.size, i205.bytes, i205.zero) := by kernel_rfl
def i48 : TI := ⟨.struct #[⟨ "Kind", 3, 0, false, "", "", 0⟩, ⟨ "Hops", 3, 1, false, "", "", 8⟩, ⟨ "Client", 3, 2, false, "", "", 16⟩, ⟨ "Slot", 3, 3, false, "", "", 24⟩, ⟨ "Size", 3, 4, false, "", "", 32⟩, ⟨ "Off", 3, 5, false, "", "", 40⟩, ⟨ "Fill", 5, 6, false, "", "", 48⟩, ⟨ "Raw", 41, 7, false, "", "", 56⟩], 8, 80, some (.agg (([Value.int .i64 0] ++ [Value.int .i64 0] ++ [Value.int .i64 0] ++ [Value.int .i64 0] ++ [Value.int .i64 0] ++ [Value.int .i64 0] ++ [Value.int .u8 0] ++ [Value.slice none 0 0])).toArray)⟩
theorem u48 : prog.underlying 48 = some i48.u := by kernel_rfl
theorem z48 : (prog.info? 48).map (fun j => (j.size, j.bytes, j.zero)) = some (i48.size, i48.bytes, i48.zero) := by kernel_rfl
def i53 : TI := ⟨.slice 120, 1, 24, some (Value.slice none 0 0)⟩
theorem u53 : prog.underlying 53 = some i53.u := by kernel_rfl
theorem z53 : (prog.info? 53).map (fun j => (j.size, j.bytes, j.zero)) = some (i53.size, i53.bytes, i53.zero) := by kernel_rfl
def i176 : TI := ⟨.struct #[⟨ "Key", 9, 0, false, "", "", 0⟩, ⟨ "Value", 9, 1, false, "", "", 16⟩], 2, 32, some (.agg (([Value.string ByteArray.empty] ++ [Value.string ByteArray.empty])).toArray)⟩
theorem u176 : prog.underlying 176 = some i176.u := by kernel_rfl
theorem z176 : (prog.info? 176).map (fun j => (j.size, j.bytes, j.zero)) = some (i176.size, i176.bytes, i176.zero) := by kernel_rfl
def i89 : TI := ⟨.struct #[⟨ "Kind", 3, 0, false, "", "", 0⟩, ⟨ "Table", 3, 1, false, "", "", 8⟩, ⟨ "Key", 9, 2, false, "", "", 16⟩, ⟨ "Value", 9, 3, false, "", "", 32⟩], 4, 48, some (.agg (([Value.int .i64 0] ++ [Value.int .i64 0] ++ [Value.string ByteArray.empty] ++ [Value.string ByteArray.empty])).toArray)⟩
theorem u89 : prog.underlying 89 = some i89.u := by kernel_rfl
theorem z89 : (prog.info? 89).map (fun j => (j.size, j.bytes, j.zero)) = some (i89.size, i89.bytes, i89.zero) := by kernel_rfl
def i173 : TI := ⟨.struct #[⟨ "safe", 170, 0, false, "", "hollowtree/disk", 0⟩, ⟨ "pending", 171, 1, false, "", "hollowtree/disk", 24⟩, ⟨ "dead", 4, 2, false, "", "hollowtree/disk", 48⟩, ⟨ "armed", 4, 3, false, "", "hollowtree/disk", 49⟩, ⟨ "left", 3, 4, false, "", "hollowtree/disk", 56⟩, ⟨ "ops", 3, 5, false, "", "hollowtree/disk", 64⟩], 6, 72, some (.agg (([Value.slice none 0 0] ++ [Value.slice none 0 0] ++ [Value.bool false] ++ [Value.bool false] ++ [Value.int .i64 0] ++ [Value.int .i64 0])).toArray)⟩
theorem u173 : prog.underlying 173 = some i173.u := by kernel_rfl
theorem z173 : (prog.info? 173).map (fun j => (j.size, j.bytes, j.zero)) = some (i173.size, i173.bytes, i173.zero) := by kernel_rfl
def i294 : TI := ⟨.struct #[⟨ "state", 292, 0, false, "", "hollowtree/sha", 0⟩, ⟨ "k", 290, 8, false, "", "hollowtree/sha", 32⟩, ⟨ "rest", 201, 9, false, "", "hollowtree/sha", 56⟩, ⟨ "n", 3, 73, false, "", "hollowtree/sha", 120⟩], 74, 128, some (.agg ((List.replicate 8 (Value.int .u32 0) ++ [Value.slice none 0 0] ++ List.replicate 64 (Value.int .u8 0) ++ [Value.int .i64 0])).toArray)⟩
theorem u294 : prog.underlying 294 = some i294.u := by kernel_rfl
theorem z294 : (prog.info? 294).map (fun j => (j.size, j.bytes, j.zero)) = some (i294.size, i294.bytes, i294.zero) := by kernel_rfl
def i137 : TI := ⟨.slice 168, 1, 24, some (Value.slice none 0 0)⟩
theorem u137 : prog.underlying 137 = some i137.u := by kernel_rfl
theorem z137 : (prog.info? 137).map (fun j => (j.size, j.bytes, j.zero)) = some (i137.size, i137.bytes, i137.zero) := by kernel_rfl
def i295 : TI := ⟨.int .u64, 1, 8, some (Value.int .u64 0)⟩
theorem u295 : prog.underlying 295 = some i295.u := by kernel_rfl
theorem z295 : (prog.info? 295).map (fun j => (j.size, j.bytes, j.zero)) = some (i295.size, i295.bytes, i295.zero) := by kernel_rfl
def i129 : TI := ⟨.pointer 205, 1, 8, some (Value.pointer none)⟩
theorem u129 : prog.underlying 129 = some i129.u := by kernel_rfl
theorem z129 : (prog.info? 129).map (fun j => (j.size, j.bytes, j.zero)) = some (i129.size, i129.bytes, i129.zero) := by kernel_rfl
def i49 : TI := ⟨.pointer 157, 1, 8, some (Value.pointer none)⟩
theorem u49 : prog.underlying 49 = some i49.u := by kernel_rfl
theorem z49 : (prog.info? 49).map (fun j => (j.size, j.bytes, j.zero)) = some (i49.size, i49.bytes, i49.zero) := by kernel_rfl
def i62 : TI := ⟨.slice 111, 1, 24, some (Value.slice none 0 0)⟩
theorem u62 : prog.underlying 62 = some i62.u := by kernel_rfl
theorem z62 : (prog.info? 62).map (fun j => (j.size, j.bytes, j.zero)) = some (i62.size, i62.bytes, i62.zero) := by kernel_rfl
def i170 : TI := ⟨.slice 202, 1, 24, some (Value.slice none 0 0)⟩
theorem u170 : prog.underlying 170 = some i170.u := by kernel_rfl
theorem z170 : (prog.info? 170).map (fun j => (j.size, j.bytes, j.zero)) = some (i170.size, i170.bytes, i170.zero) := by kernel_rfl
def i24 : TI := ⟨.struct #[⟨ "Keys", 22, 0, false, "", "", 0⟩, ⟨ "Values", 22, 1, false, "", "", 24⟩], 2, 48, some (.agg (([Value.slice none 0 0] ++ [Value.slice none 0 0])).toArray)⟩
theorem u24 : prog.underlying 24 = some i24.u := by kernel_rfl
theorem z24 : (prog.info? 24).map (fun j => (j.size, j.bytes, j.zero)) = some (i24.size, i24.bytes, i24.zero) := by kernel_rfl
def i155 : TI := ⟨.map 3 41, 1, 8, some (Value.map none)⟩
theorem u155 : prog.underlying 155 = some i155.u := by kernel_rfl
theorem z155 : (prog.info? 155).map (fun j => (j.size, j.bytes, j.zero)) = some (i155.size, i155.bytes, i155.zero) := by kernel_rfl
def i171 : TI := ⟨.slice 238, 1, 24, some (Value.slice none 0 0)⟩
theorem u171 : prog.underlying 171 = some i171.u := by kernel_rfl
theorem z171 : (prog.info? 171).map (fun j => (j.size, j.bytes, j.zero)) = some (i171.size, i171.bytes, i171.zero) := by kernel_rfl
def i292 : TI := ⟨.array 8 239, 8, 32, some (.agg (List.replicate 8 (Value.int .u32 0)).toArray)⟩
theorem u292 : prog.underlying 292 = some i292.u := by kernel_rfl
theorem z292 : (prog.info? 292).map (fun j => (j.size, j.bytes, j.zero)) = some (i292.size, i292.bytes, i292.zero) := by kernel_rfl
def i26 : TI := ⟨.pointer 208, 1, 8, some (Value.pointer none)⟩
theorem u26 : prog.underlying 26 = some i26.u := by kernel_rfl
theorem z26 : (prog.info? 26).map (fun j => (j.size, j.bytes, j.zero)) = some (i26.size, i26.bytes, i26.zero) := by kernel_rfl
def i255 : TI := ⟨.struct #[⟨ "bytes", 41, 0, false, "", "hollowtree/octet", 0⟩, ⟨ "at", 3, 1, false, "", "hollowtree/octet", 24⟩, ⟨ "err", 31, 2, false, "", "hollowtree/octet", 32⟩], 3, 40, some (.agg (([Value.slice none 0 0] ++ [Value.int .i64 0] ++ [Value.int .i64 0])).toArray)⟩
theorem u255 : prog.underlying 255 = some i255.u := by kernel_rfl
theorem z255 : (prog.info? 255).map (fun j => (j.size, j.bytes, j.zero)) = some (i255.size, i255.bytes, i255.zero) := by kernel_rfl
def i168 : TI := ⟨.struct #[⟨ "put", 4, 0, false, "", "hollowtree/table", 0⟩, ⟨ "table", 3, 1, false, "", "hollowtree/table", 8⟩, ⟨ "key", 9, 2, false, "", "hollowtree/table", 16⟩, ⟨ "value", 9, 3, false, "", "hollowtree/table", 32⟩], 4, 48, some (.agg (([Value.bool false] ++ [Value.int .i64 0] ++ [Value.string ByteArray.empty] ++ [Value.string ByteArray.empty])).toArray)⟩
theorem u168 : prog.underlying 168 = some i168.u := by kernel_rfl
theorem z168 : (prog.info? 168).map (fun j => (j.size, j.bytes, j.zero)) = some (i168.size, i168.bytes, i168.zero) := by kernel_rfl
def i214 : TI := ⟨.int .u16, 1, 2, some (Value.int .u16 0)⟩
theorem u214 : prog.underlying 214 = some i214.u := by kernel_rfl
theorem z214 : (prog.info? 214).map (fun j => (j.size, j.bytes, j.zero)) = some (i214.size, i214.bytes, i214.zero) := by kernel_rfl
def i238 : TI := ⟨.struct #[⟨ "at", 3, 0, false, "", "hollowtree/disk", 0⟩, ⟨ "block", 202, 1, false, "", "hollowtree/disk", 8⟩], 65, 72, some (.agg (([Value.int .i64 0] ++ List.replicate 64 (Value.int .u8 0))).toArray)⟩
theorem u238 : prog.underlying 238 = some i238.u := by kernel_rfl
theorem z238 : (prog.info? 238).map (fun j => (j.size, j.bytes, j.zero)) = some (i238.size, i238.bytes, i238.zero) := by kernel_rfl
def i196 : TI := ⟨.array 16 5, 16, 16, some (.agg (List.replicate 16 (Value.int .u8 0)).toArray)⟩
theorem u196 : prog.underlying 196 = some i196.u := by kernel_rfl
theorem z196 : (prog.info? 196).map (fun j => (j.size, j.bytes, j.zero)) = some (i196.size, i196.bytes, i196.zero) := by kernel_rfl
def i79 : TI := ⟨.struct #[⟨ "More", 3, 0, false, "", "", 0⟩, ⟨ "Shapes", 34, 1, false, "", "", 8⟩, ⟨ "Ops", 77, 2, false, "", "", 32⟩], 3, 56, some (.agg (([Value.int .i64 0] ++ [Value.slice none 0 0] ++ [Value.slice none 0 0])).toArray)⟩
theorem u79 : prog.underlying 79 = some i79.u := by kernel_rfl
theorem z79 : (prog.info? 79).map (fun j => (j.size, j.bytes, j.zero)) = some (i79.size, i79.bytes, i79.zero) := by kernel_rfl
def i93 : TI := ⟨.slice 4, 1, 24, some (Value.slice none 0 0)⟩
theorem u93 : prog.underlying 93 = some i93.u := by kernel_rfl
theorem z93 : (prog.info? 93).map (fun j => (j.size, j.bytes, j.zero)) = some (i93.size, i93.bytes, i93.zero) := by kernel_rfl
def i290 : TI := ⟨.slice 239, 1, 24, some (Value.slice none 0 0)⟩
theorem u290 : prog.underlying 290 = some i290.u := by kernel_rfl
theorem z290 : (prog.info? 290).map (fun j => (j.size, j.bytes, j.zero)) = some (i290.size, i290.bytes, i290.zero) := by kernel_rfl
def i306 : TI := ⟨.array 64 239, 64, 256, some (.agg (List.replicate 64 (Value.int .u32 0)).toArray)⟩
theorem u306 : prog.underlying 306 = some i306.u := by kernel_rfl
theorem z306 : (prog.info? 306).map (fun j => (j.size, j.bytes, j.zero)) = some (i306.size, i306.bytes, i306.zero) := by kernel_rfl
def i257 : TI := ⟨.struct #[⟨ "spot", 255, 0, true, "", "hollowtree/octet", 0⟩], 3, 40, some (.agg ((([Value.slice none 0 0] ++ [Value.int .i64 0] ++ [Value.int .i64 0]))).toArray)⟩
theorem u257 : prog.underlying 257 = some i257.u := by kernel_rfl
theorem z257 : (prog.info? 257).map (fun j => (j.size, j.bytes, j.zero)) = some (i257.size, i257.bytes, i257.zero) := by kernel_rfl
def i21 : TI := ⟨.int .i32, 1, 4, some (Value.int .i32 0)⟩
theorem u21 : prog.underlying 21 = some i21.u := by kernel_rfl
theorem z21 : (prog.info? 21).map (fun j => (j.size, j.bytes, j.zero)) = some (i21.size, i21.bytes, i21.zero) := by kernel_rfl
def i95 : TI := ⟨.struct #[⟨ "At", 3, 0, false, "", "", 0⟩, ⟨ "More", 3, 1, false, "", "", 8⟩, ⟨ "Keep", 93, 2, false, "", "", 16⟩], 3, 40, some (.agg (([Value.int .i64 0] ++ [Value.int .i64 0] ++ [Value.slice none 0 0])).toArray)⟩
theorem u95 : prog.underlying 95 = some i95.u := by kernel_rfl
theorem z95 : (prog.info? 95).map (fun j => (j.size, j.bytes, j.zero)) = some (i95.size, i95.bytes, i95.zero) := by kernel_rfl
def i113 : TI := ⟨.slice 48, 1, 24, some (Value.slice none 0 0)⟩
theorem u113 : prog.underlying 113 = some i113.u := by kernel_rfl
theorem z113 : (prog.info? 113).map (fun j => (j.size, j.bytes, j.zero)) = some (i113.size, i113.bytes, i113.zero) := by kernel_rfl
def i274 : TI := ⟨.int .i64, 1, 8, some (Value.int .i64 0)⟩
theorem u274 : prog.underlying 274 = some i274.u := by kernel_rfl
theorem z274 : (prog.info? 274).map (fun j => (j.size, j.bytes, j.zero)) = some (i274.size, i274.bytes, i274.zero) := by kernel_rfl
def i77 : TI := ⟨.slice 89, 1, 24, some (Value.slice none 0 0)⟩
theorem u77 : prog.underlying 77 = some i77.u := by kernel_rfl
theorem z77 : (prog.info? 77).map (fun j => (j.size, j.bytes, j.zero)) = some (i77.size, i77.bytes, i77.zero) := by kernel_rfl
def i102 : TI := ⟨.map 106 4, 1, 8, some (Value.map none)⟩
theorem u102 : prog.underlying 102 = some i102.u := by kernel_rfl
theorem z102 : (prog.info? 102).map (fun j => (j.size, j.bytes, j.zero)) = some (i102.size, i102.bytes, i102.zero) := by kernel_rfl
def i212 : TI := ⟨.pointer 257, 1, 8, some (Value.pointer none)⟩
theorem u212 : prog.underlying 212 = some i212.u := by kernel_rfl
theorem z212 : (prog.info? 212).map (fun j => (j.size, j.bytes, j.zero)) = some (i212.size, i212.bytes, i212.zero) := by kernel_rfl
def i201 : TI := ⟨.array 64 5, 64, 64, some (.agg (List.replicate 64 (Value.int .u8 0)).toArray)⟩
theorem u201 : prog.underlying 201 = some i201.u := by kernel_rfl
theorem z201 : (prog.info? 201).map (fun j => (j.size, j.bytes, j.zero)) = some (i201.size, i201.bytes, i201.zero) := by kernel_rfl
def i106 : TI := ⟨.array 2 3, 2, 16, some (.agg (List.replicate 2 (Value.int .i64 0)).toArray)⟩
theorem u106 : prog.underlying 106 = some i106.u := by kernel_rfl
theorem z106 : (prog.info? 106).map (fun j => (j.size, j.bytes, j.zero)) = some (i106.size, i106.bytes, i106.zero) := by kernel_rfl
def i189 : TI := ⟨.array 8 3, 8, 64, some (.agg (List.replicate 8 (Value.int .i64 0)).toArray)⟩
theorem u189 : prog.underlying 189 = some i189.u := by kernel_rfl
theorem z189 : (prog.info? 189).map (fun j => (j.size, j.bytes, j.zero)) = some (i189.size, i189.bytes, i189.zero) := by kernel_rfl
def i267 : TI := ⟨.pointer 294, 1, 8, some (Value.pointer none)⟩
theorem u267 : prog.underlying 267 = some i267.u := by kernel_rfl
theorem z267 : (prog.info? 267).map (fun j => (j.size, j.bytes, j.zero)) = some (i267.size, i267.bytes, i267.zero) := by kernel_rfl
def T : Tab := [(3, i3), (41, i41), (9, i9), (31, i31), (52, i52), (115, i115), (22, i22), (161, i161), (239, i239), (5, i5), (104, i104), (202, i202), (59, i59), (30, i30), (71, i71), (199, i199), (34, i34), (4, i4), (178, i178), (208, i208), (157, i157), (84, i84), (139, i139), (136, i136), (147, i147), (55, i55), (99, i99), (120, i120), (111, i111), (87, i87), (27, i27), (82, i82), (107, i107), (205, i205), (48, i48), (53, i53), (176, i176), (89, i89), (173, i173), (294, i294), (137, i137), (295, i295), (129, i129), (49, i49), (62, i62), (170, i170), (24, i24), (155, i155), (171, i171), (292, i292), (26, i26), (255, i255), (168, i168), (214, i214), (238, i238), (196, i196), (79, i79), (93, i93), (290, i290), (306, i306), (257, i257), (21, i21), (95, i95), (113, i113), (274, i274), (77, i77), (102, i102), (212, i212), (201, i201), (106, i106), (189, i189), (267, i267)]
theorem hT : Tok prog T := Vy u3 z3 (Vy u41 z41 (Vy u9 z9 (Vy u31 z31 (Vy u52 z52 (Vy u115 z115 (Vy u22 z22 (Vy u161 z161 (Vy u239 z239 (Vy u5 z5 (Vy u104 z104 (Vy u202 z202 (Vy u59 z59 (Vy u30 z30 (Vy u71 z71 (Vy u199 z199 (Vy u34 z34 (Vy u4 z4 (Vy u178 z178 (Vy u208 z208 (Vy u157 z157 (Vy u84 z84 (Vy u139 z139 (Vy u136 z136 (Vy u147 z147 (Vy u55 z55 (Vy u99 z99 (Vy u120 z120 (Vy u111 z111 (Vy u87 z87 (Vy u27 z27 (Vy u82 z82 (Vy u107 z107 (Vy u205 z205 (Vy u48 z48 (Vy u53 z53 (Vy u176 z176 (Vy u89 z89 (Vy u173 z173 (Vy u294 z294 (Vy u137 z137 (Vy u295 z295 (Vy u129 z129 (Vy u49 z49 (Vy u62 z62 (Vy u170 z170 (Vy u24 z24 (Vy u155 z155 (Vy u171 z171 (Vy u292 z292 (Vy u26 z26 (Vy u255 z255 (Vy u168 z168 (Vy u214 z214 (Vy u238 z238 (Vy u196 z196 (Vy u79 z79 (Vy u93 z93 (Vy u290 z290 (Vy u306 z306 (Vy u257 z257 (Vy u21 z21 (Vy u95 z95 (Vy u113 z113 (Vy u274 z274 (Vy u77 z77 (Vy u102 z102 (Vy u212 z212 (Vy u201 z201 (Vy u106 z106 (Vy u189 z189 (Vy u267 z267 Tok.nil)))))))))))))))))))))))))))))))))))))))))))))))))))))))))))))))))))))))
theorem e2 : Ent prog 2 := Vq Tryz.func2 (by kernel_rfl) (by kernel_rfl)
theorem e3 : Ent prog 3 := Vq Tryz.func3 (by kernel_rfl) (by kernel_rfl)
theorem e4 : Ent prog 4 := Vq Tryz.func4 (by kernel_rfl) (by kernel_rfl)
theorem e5 : Ent prog 5 := Vq Tryz.func5 (by kernel_rfl) (by kernel_rfl)
theorem e9 : Ent prog 9 := Vq Tryz.func9 (by kernel_rfl) (by kernel_rfl)
theorem e11 : Ent prog 11 := Vq Tryz.func11 (by kernel_rfl) (by kernel_rfl)
theorem e12 : Ent prog 12 := Vq Tryz.func12 (by kernel_rfl) (by kernel_rfl)
theorem e13 : Ent prog 13 := Vq Tryz.func13 (by kernel_rfl) (by kernel_rfl)
theorem e16 : Ent prog 16 := Vq Tryz.func16 (by kernel_rfl) (by kernel_rfl)
theorem e17 : Ent prog 17 := Vq Tryz.func17 (by kernel_rfl) (by kernel_rfl)
theorem e18 : Ent prog 18 := Vq Tryz.func18 (by kernel_rfl) (by kernel_rfl)
theorem e19 : Ent prog 19 := Vq Tryz.func19 (by kernel_rfl) (by kernel_rfl)
theorem e20 : Ent prog 20 := Vq Tryz.func20 (by kernel_rfl) (by kernel_rfl)
theorem e32 : Ent prog 32 := Vq Tryz.func32 (by kernel_rfl) (by kernel_rfl)
theorem e33 : Ent prog 33 := Vq Tryz.func33 (by kernel_rfl) (by kernel_rfl)
theorem e34 : Ent prog 34 := Vq Tryz.func34 (by kernel_rfl) (by kernel_rfl)
theorem e35 : Ent prog 35 := Vq Tryz.func35 (by kernel_rfl) (by kernel_rfl)
theorem e36 : Ent prog 36 := Vq Tryz.func36 (by kernel_rfl) (by kernel_rfl)
theorem e38 : Ent prog 38 := Vq Tryz.func38 (by kernel_rfl) (by kernel_rfl)
theorem e39 : Ent prog 39 := Vq Tryz.func39 (by kernel_rfl) (by kernel_rfl)
theorem e40 : Ent prog 40 := Vq Tryz.func40 (by kernel_rfl) (by kernel_rfl)
theorem e41 : Ent prog 41 := Vq Tryz.func41 (by kernel_rfl) (by kernel_rfl)
theorem e42 : Ent prog 42 := Vq Tryz.func42 (by kernel_rfl) (by kernel_rfl)
theorem e46 : Ent prog 46 := Vq Tryz.func46 (by kernel_rfl) (by kernel_rfl)
theorem e61 : Ent prog 61 := Vq Tryz.func61 (by kernel_rfl) (by kernel_rfl)
theorem e62 : Ent prog 62 := Vq Tryz.func62 (by kernel_rfl) (by kernel_rfl)
theorem e63 : Ent prog 63 := Vq Tryz.func63 (by kernel_rfl) (by kernel_rfl)
theorem e64 : Ent prog 64 := Vq Tryz.func64 (by kernel_rfl) (by kernel_rfl)
theorem e65 : Ent prog 65 := Vq Tryz.func65 (by kernel_rfl) (by kernel_rfl)
theorem e66 : Ent prog 66 := Vq Tryz.func66 (by kernel_rfl) (by kernel_rfl)
theorem e67 : Ent prog 67 := Vq Tryz.func67 (by kernel_rfl) (by kernel_rfl)
theorem e68 : Ent prog 68 := Vq Tryz.func68 (by kernel_rfl) (by kernel_rfl)
theorem e69 : Ent prog 69 := Vq Tryz.func69 (by kernel_rfl) (by kernel_rfl)
theorem e70 : Ent prog 70 := Vq Tryz.func70 (by kernel_rfl) (by kernel_rfl)
theorem e71 : Ent prog 71 := Vq Tryz.func71 (by kernel_rfl) (by kernel_rfl)
theorem e72 : Ent prog 72 := Vq Tryz.func72 (by kernel_rfl) (by kernel_rfl)
theorem e73 : Ent prog 73 := Vq Tryz.func73 (by kernel_rfl) (by kernel_rfl)
theorem e74 : Ent prog 74 := Vq Tryz.func74 (by kernel_rfl) (by kernel_rfl)
theorem e75 : Ent prog 75 := Vq Tryz.func75 (by kernel_rfl) (by kernel_rfl)
theorem e77 : Ent prog 77 := Vq Tryz.func77 (by kernel_rfl) (by kernel_rfl)
theorem e81 : Ent prog 81 := Vq Tryz.func81 (by kernel_rfl) (by kernel_rfl)
theorem e84 : Ent prog 84 := Vq Tryz.func84 (by kernel_rfl) (by kernel_rfl)
theorem e85 : Ent prog 85 := Vq Tryz.func85 (by kernel_rfl) (by kernel_rfl)
theorem e86 : Ent prog 86 := Vq Tryz.func86 (by kernel_rfl) (by kernel_rfl)
theorem e87 : Ent prog 87 := Vq Tryz.func87 (by kernel_rfl) (by kernel_rfl)
theorem e88 : Ent prog 88 := Vq Tryz.func88 (by kernel_rfl) (by kernel_rfl)
theorem e89 : Ent prog 89 := Vq Tryz.func89 (by kernel_rfl) (by kernel_rfl)
theorem e90 : Ent prog 90 := Vq Tryz.func90 (by kernel_rfl) (by kernel_rfl)
theorem e91 : Ent prog 91 := Vq Tryz.func91 (by kernel_rfl) (by kernel_rfl)
theorem e92 : Ent prog 92 := Vq Tryz.func92 (by kernel_rfl) (by kernel_rfl)
theorem e93 : Ent prog 93 := Vq Tryz.func93 (by kernel_rfl) (by kernel_rfl)
theorem e94 : Ent prog 94 := Vq Tryz.func94 (by kernel_rfl) (by kernel_rfl)
theorem e95 : Ent prog 95 := Vq Tryz.func95 (by kernel_rfl) (by kernel_rfl)
theorem e107 : Ent prog 107 := Vq Tryz.func107 (by kernel_rfl) (by kernel_rfl)
theorem e108 : Ent prog 108 := Vq Tryz.func108 (by kernel_rfl) (by kernel_rfl)
theorem e109 : Ent prog 109 := Vq Tryz.func109 (by kernel_rfl) (by kernel_rfl)
theorem e110 : Ent prog 110 := Vq Tryz.func110 (by kernel_rfl) (by kernel_rfl)
theorem e111 : Ent prog 111 := Vq Tryz.func111 (by kernel_rfl) (by kernel_rfl)
theorem e112 : Ent prog 112 := Vq Tryz.func112 (by kernel_rfl) (by kernel_rfl)
theorem e113 : Ent prog 113 := Vq Tryz.func113 (by kernel_rfl) (by kernel_rfl)
theorem e114 : Ent prog 114 := Vq Tryz.func114 (by kernel_rfl) (by kernel_rfl)
theorem e115 : Ent prog 115 := Vq Tryz.func115 (by kernel_rfl) (by kernel_rfl)
theorem e116 : Ent prog 116 := Vq Tryz.func116 (by kernel_rfl) (by kernel_rfl)
theorem e117 : Ent prog 117 := Vq Tryz.func117 (by kernel_rfl) (by kernel_rfl)
theorem e118 : Ent prog 118 := Vq Tryz.func118 (by kernel_rfl) (by kernel_rfl)
theorem e119 : Ent prog 119 := Vq Tryz.func119 (by kernel_rfl) (by kernel_rfl)
theorem e120 : Ent prog 120 := Vq Tryz.func120 (by kernel_rfl) (by kernel_rfl)
theorem e121 : Ent prog 121 := Vq Tryz.func121 (by kernel_rfl) (by kernel_rfl)
theorem e122 : Ent prog 122 := Vq Tryz.func122 (by kernel_rfl) (by kernel_rfl)
theorem e124 : Ent prog 124 := Vq Tryz.func124 (by kernel_rfl) (by kernel_rfl)
theorem e125 : Ent prog 125 := Vq Tryz.func125 (by kernel_rfl) (by kernel_rfl)
theorem e126 : Ent prog 126 := Vq Tryz.func126 (by kernel_rfl) (by kernel_rfl)
theorem e127 : Ent prog 127 := Vq Tryz.func127 (by kernel_rfl) (by kernel_rfl)
theorem e128 : Ent prog 128 := Vq Tryz.func128 (by kernel_rfl) (by kernel_rfl)
theorem e132 : Ent prog 132 := Vq Tryz.func132 (by kernel_rfl) (by kernel_rfl)
theorem e133 : Ent prog 133 := Vq Tryz.func133 (by kernel_rfl) (by kernel_rfl)
theorem e134 : Ent prog 134 := Vq Tryz.func134 (by kernel_rfl) (by kernel_rfl)
theorem e135 : Ent prog 135 := Vq Tryz.func135 (by kernel_rfl) (by kernel_rfl)
theorem e136 : Ent prog 136 := Vq Tryz.func136 (by kernel_rfl) (by kernel_rfl)
theorem e137 : Ent prog 137 := Vq Tryz.func137 (by kernel_rfl) (by kernel_rfl)
theorem e138 : Ent prog 138 := Vq Tryz.func138 (by kernel_rfl) (by kernel_rfl)
theorem e139 : Ent prog 139 := Vq Tryz.func139 (by kernel_rfl) (by kernel_rfl)
theorem e140 : Ent prog 140 := Vq Tryz.func140 (by kernel_rfl) (by kernel_rfl)
theorem e141 : Ent prog 141 := Vq Tryz.func141 (by kernel_rfl) (by kernel_rfl)
theorem e148 : Ent prog 148 := Vq Tryz.func148 (by kernel_rfl) (by kernel_rfl)
theorem e149 : Ent prog 149 := Vq Tryz.func149 (by kernel_rfl) (by kernel_rfl)
theorem e150 : Ent prog 150 := Vq Tryz.func150 (by kernel_rfl) (by kernel_rfl)
theorem e151 : Ent prog 151 := Vq Tryz.func151 (by kernel_rfl) (by kernel_rfl)
theorem e152 : Ent prog 152 := Vq Tryz.func152 (by kernel_rfl) (by kernel_rfl)
theorem e153 : Ent prog 153 := Vq Tryz.func153 (by kernel_rfl) (by kernel_rfl)
theorem e154 : Ent prog 154 := Vq Tryz.func154 (by kernel_rfl) (by kernel_rfl)
theorem e155 : Ent prog 155 := Vq Tryz.func155 (by kernel_rfl) (by kernel_rfl)
theorem e156 : Ent prog 156 := Vq Tryz.func156 (by kernel_rfl) (by kernel_rfl)
theorem e157 : Ent prog 157 := Vq Tryz.func157 (by kernel_rfl) (by kernel_rfl)
theorem e158 : Ent prog 158 := Vq Tryz.func158 (by kernel_rfl) (by kernel_rfl)
theorem e159 : Ent prog 159 := Vq Tryz.func159 (by kernel_rfl) (by kernel_rfl)
theorem e160 : Ent prog 160 := Vq Tryz.func160 (by kernel_rfl) (by kernel_rfl)
theorem e161 : Ent prog 161 := Vq Tryz.func161 (by kernel_rfl) (by kernel_rfl)
theorem e162 : Ent prog 162 := Vq Tryz.func162 (by kernel_rfl) (by kernel_rfl)
theorem e163 : Ent prog 163 := Vq Tryz.func163 (by kernel_rfl) (by kernel_rfl)
theorem e164 : Ent prog 164 := Vq Tryz.func164 (by kernel_rfl) (by kernel_rfl)
theorem e165 : Ent prog 165 := Vq Tryz.func165 (by kernel_rfl) (by kernel_rfl)
theorem e166 : Ent prog 166 := Vq Tryz.func166 (by kernel_rfl) (by kernel_rfl)
theorem e167 : Ent prog 167 := Vq Tryz.func167 (by kernel_rfl) (by kernel_rfl)
theorem e168 : Ent prog 168 := Vq Tryz.func168 (by kernel_rfl) (by kernel_rfl)
theorem e172 : Ent prog 172 := Vq Tryz.func172 (by kernel_rfl) (by kernel_rfl)
theorem e173 : Ent prog 173 := Vq Tryz.func173 (by kernel_rfl) (by kernel_rfl)
theorem e174 : Ent prog 174 := Vq Tryz.func174 (by kernel_rfl) (by kernel_rfl)
theorem e175 : Ent prog 175 := Vq Tryz.func175 (by kernel_rfl) (by kernel_rfl)
theorem e176 : Ent prog 176 := Vq Tryz.func176 (by kernel_rfl) (by kernel_rfl)
theorem e177 : Ent prog 177 := Vq Tryz.func177 (by kernel_rfl) (by kernel_rfl)
theorem e178 : Ent prog 178 := Vq Tryz.func178 (by kernel_rfl) (by kernel_rfl)
theorem e179 : Ent prog 179 := Vq Tryz.func179 (by kernel_rfl) (by kernel_rfl)
theorem e180 : Ent prog 180 := Vq Tryz.func180 (by kernel_rfl) (by kernel_rfl)
theorem e181 : Ent prog 181 := Vq Tryz.func181 (by kernel_rfl) (by kernel_rfl)
theorem e182 : Ent prog 182 := Vq Tryz.func182 (by kernel_rfl) (by kernel_rfl)
theorem e183 : Ent prog 183 := Vq Tryz.func183 (by kernel_rfl) (by kernel_rfl)
theorem e184 : Ent prog 184 := Vq Tryz.func184 (by kernel_rfl) (by kernel_rfl)
theorem e185 : Ent prog 185 := Vq Tryz.func185 (by kernel_rfl) (by kernel_rfl)
theorem e186 : Ent prog 186 := Vq Tryz.func186 (by kernel_rfl) (by kernel_rfl)
theorem e187 : Ent prog 187 := Vq Tryz.func187 (by kernel_rfl) (by kernel_rfl)
theorem e188 : Ent prog 188 := Vq Tryz.func188 (by kernel_rfl) (by kernel_rfl)
theorem e189 : Ent prog 189 := Vq Tryz.func189 (by kernel_rfl) (by kernel_rfl)
theorem e191 : Ent prog 191 := Vq Tryz.func191 (by kernel_rfl) (by kernel_rfl)
theorem e194 : Ent prog 194 := Vq Tryz.func194 (by kernel_rfl) (by kernel_rfl)
theorem e195 : Ent prog 195 := Vq Tryz.func195 (by kernel_rfl) (by kernel_rfl)
theorem e196 : Ent prog 196 := Vq Tryz.func196 (by kernel_rfl) (by kernel_rfl)
theorem e197 : Ent prog 197 := Vq Tryz.func197 (by kernel_rfl) (by kernel_rfl)
theorem e198 : Ent prog 198 := Vq Tryz.func198 (by kernel_rfl) (by kernel_rfl)
theorem e199 : Ent prog 199 := Vq Tryz.func199 (by kernel_rfl) (by kernel_rfl)
theorem e200 : Ent prog 200 := Vq Tryz.func200 (by kernel_rfl) (by kernel_rfl)
theorem e201 : Ent prog 201 := Vq Tryz.func201 (by kernel_rfl) (by kernel_rfl)
theorem e202 : Ent prog 202 := Vq Tryz.func202 (by kernel_rfl) (by kernel_rfl)
theorem e203 : Ent prog 203 := Vq Tryz.func203 (by kernel_rfl) (by kernel_rfl)
theorem e204 : Ent prog 204 := Vq Tryz.func204 (by kernel_rfl) (by kernel_rfl)
theorem e205 : Ent prog 205 := Vq Tryz.func205 (by kernel_rfl) (by kernel_rfl)
theorem e215 : Ent prog 215 := Vq Tryz.func215 (by kernel_rfl) (by kernel_rfl)
theorem e216 : Ent prog 216 := Vq Tryz.func216 (by kernel_rfl) (by kernel_rfl)
theorem e217 : Ent prog 217 := Vq Tryz.func217 (by kernel_rfl) (by kernel_rfl)
end
section
open Go Go.SL

abbrev Blk := List Int
def encB (b : Blk) : List Value := ints .u8 b
def encW (p : Int × Blk) : List Value := .int .i64 p.1 :: encB p.2
@[simp] theorem encB_length (b : Blk) : (encB b).length = b.length := by simp [encB]
theorem encB_one (b : Blk) : ∀ v ∈ encB b, v.oneCell' = true := ints_one _ _
theorem encW_one (p : Int × Blk) : ∀ v ∈ encW p, v.oneCell' = true := by
 intro v hv
 simp only [encW, List.mem_cons] at hv
 rcases hv with rfl | hv
 · rfl
 · exact encB_one _ v hv

structure Dk where
 safe : List Blk
 pending : List (Int × Blk)
 dead : Bool
 armed : Bool
 left : Int
 ops : Int
structure Dk.Ok (D : Dk) : Prop where
 safe : ∀ b ∈ D.safe, b.length = 64
 pend : ∀ p ∈ D.pending, p.2.length = 64 ∧ 0 ≤ p.1 ∧ p.1 < D.safe.length
 some : 1 ≤ D.safe.length
 most : D.safe.length ≤ 512
 left : -9223372036854775808 ≤ D.left ∧ D.left ≤ 9223372036854775807
theorem Dk.Ok.segB {D : Dk} (h : D.Ok) : ∀ b ∈ D.safe, (encB b).length = 64 := fun b hb => by rw [encB_length]; exact h.safe b hb
theorem Dk.Ok.segW {D : Dk} (h : D.Ok) : ∀ p ∈ D.pending, (encW p).length = 65 := fun p hp => by simp [encW, (h.pend p hp).1]

def dcells (D : Dk) (sa : Option Addr) (sc : Nat) (pa : Option Addr) (pc : Nat) : List Value :=
 [.slice sa D.safe.length sc, .slice pa D.pending.length pc, .bool D.dead, .bool D.armed, .int .i64 D.left, .int .i64 D.ops]
def disk (d : Nat) (D : Dk) : HProp := ex fun q : Option Addr × Nat × Option Addr × Nat => stars
 [pur D.Ok, row d 173 (dcells D q.1 q.2.1 q.2.2.1 q.2.2.2),
  own 202 64 (.slice q.1 D.safe.length q.2.1) D.safe.length (D.safe.flatMap encB),
  own 238 65 (.slice q.2.2.1 D.pending.length q.2.2.2) D.pending.length (D.pending.flatMap encW)]
theorem disk_open {E w : World} {d : Nat} {D : Dk} {r : List HProp} (s : Sat E (stars (disk d D :: r)) w) : ∃ sa sc pa pc, D.Ok ∧ Sat E (stars (row d 173 (dcells D sa sc pa pc) ::
 own 202 64 (.slice sa D.safe.length sc) D.safe.length (D.safe.flatMap encB) :: own 238 65 (.slice pa D.pending.length pc) D.pending.length (D.pending.flatMap encW) :: r)) w := by
 obtain ⟨⟨sa, sc, pa, pc⟩, s⟩ := s.ofex
 obtain ⟨hok, s⟩ := s.unfold.ofpur
 exact ⟨sa, sc, pa, pc, hok, s⟩
theorem disk_shut {E w : World} {d : Nat} {D : Dk} {r : List HProp} {sa pa : Option Addr} {sc pc : Nat} (hok : D.Ok) (s : Sat E (stars (row d 173 (dcells D sa sc pa pc) ::
 own 202 64 (.slice sa D.safe.length sc) D.safe.length (D.safe.flatMap encB) :: own 238 65 (.slice pa D.pending.length pc) D.pending.length (D.pending.flatMap encW) :: r)) w) : Sat E (stars (disk d D :: r)) w :=
 Sat.toex (F := fun _ : Option Addr × Nat × Option Addr × Nat => _) (sa, sc, pa, pc) (Sat.fold (m := [_, _, _, _]) (s.topur hok))
section
variable {E : World} {ρ : Option Nat} {n : Nat} {ds : List Deferred} {env : Fr} {c : Code} {Q : Exit → Act → World → Prop} {d : Nat} {D : Dk} {r : List HProp}
theorem J.disk (h : ∀ sa sc pa pc, D.Ok → J prog E ρ n ds c Q env (row d 173 (dcells D sa sc pa pc) ::
 own 202 64 (.slice sa D.safe.length sc) D.safe.length (D.safe.flatMap encB) :: own 238 65 (.slice pa D.pending.length pc) D.pending.length (D.pending.flatMap encW) :: r)) : J prog E ρ n ds c Q env (disk d D :: r) := fun a w hf hs =>
 let ⟨sa, sc, pa, pc, hok, s⟩ := disk_open hs
 h sa sc pa pc hok a w hf s
theorem Fc.disk {f : FuncId} {args : Array Value} {l : List HProp} {R : Value → List HProp → Prop} {D' : Dk}
 (h : Fc prog E f args l fun v l' => ∃ sa sc pa pc, D'.Ok ∧ R v (Go.Proofs.YtaopifoidbdniaaGreat.disk d D' :: r) ∧ l' = row d 173 (dcells D' sa sc pa pc) ::
   own 202 64 (.slice sa D'.safe.length sc) D'.safe.length (D'.safe.flatMap encB) :: own 238 65 (.slice pa D'.pending.length pc) D'.pending.length (D'.pending.flatMap encW) :: r) : Fc prog E f args l R := fun w hs =>
 (h w hs).mono fun _ _ ⟨v, _, he, s, _, _, _, _, hok, hR, hl⟩ => ⟨v, _, he, disk_shut hok (hl ▸ s), hR⟩
end

theorem disk_okd {E : World} {f : FuncId} {args : Array Value} {d : Nat} {D : Dk} {r : List HProp} {R : Value → List HProp → Prop} (h : D.Ok → Fc prog E f args (disk d D :: r) R) : Fc prog E f args (disk d D :: r) R := fun w hs =>
 let ⟨_, _, _, _, hok, _⟩ := disk_open hs
 h hok w hs
attribute [local irreducible] J JL JE JM LS Y Fc RV Code.wp wpList Code.wpIn wpListIn
def Dk.ready (D : Dk) (i : Int) : Int := if D.dead then 7 else if i < 0 ∨ D.safe.length ≤ i then 2 else 0

variable (E : World)
theorem ready_spec (d : Nat) (D : Dk) (i : Int) (r : List HProp) :
 Fc prog E 94 [Value.pointer (some ⟨d, 0, none⟩), .int .i64 i].toArray (disk d D :: r) (fun v l' => v = .int .i64 (D.ready i) ∧ l' = disk d D :: r) := by
 refine Fc.disk (d := d) (D' := D) (r := r) ?_
 refine Va (c := ?codeC) Tryz.func94 ?hb Tryz.ntmps94 ?hl ?_
 case hb => exact rfl
 case hl => exact rfl
 refine J.disk fun sa sc pa pc hok => ?_
 refine Jh (Je (Jb (Jf rfl) U U U ?_))
 refine Jg (Ja (Jh (Ve (Jh (Je (Jb (Jd rfl) U U U (Jb (Wc hT U U U U) U U U (Jb (Jf rfl) U U U ?_))))))))
 refine Jg (Ja ?_)
 first | apply Jx rfl | apply Vo rfl
 case' ht =>
  intro h
  try (first | exact zom | exact zho h | subst h)
  all_goals
   refine Jh (Je (Jb (Jf rfl) U U U ?_))
   refine Jg (Ja (Vn (Vj (Vb ?_))))
   refine Vi (.inl rfl) U U zrv ?_
   refine ⟨sa, sc, pa, pc, hok, ⟨?_, rfl⟩, rfl⟩; simp_all [Dk.ready]
 case' hf =>
  intro h
  try (first | exact zom | exact zho h | subst h)
  all_goals
   refine Jh (Je (Jb (Jd rfl) U U U ?_))
   refine Jb znc U U U ?_
   refine Jb (Jk hT U U U U U U) U U U ?_
   refine Jb (Jo hT U U U zrd) U U U ?_
   refine Jb (Jf rfl) U U U ?_
   refine Jg (Ja ?_)
   first | apply Jx rfl | apply Vo rfl
   case' ht =>
    intro h
    try (first | exact zom | exact zho h | subst h)
    all_goals
     refine Jh (Je (Jb (Jf rfl) U U U ?_))
     refine Jg (Ja (Vn (Vj (Vb ?_))))
     refine Vi (.inl rfl) U U zrv ?_
     refine ⟨sa, sc, pa, pc, hok, ⟨?_, rfl⟩, rfl⟩; simp_all [Dk.ready]
   case' hf =>
    intro h
    try (first | exact zom | exact zho h | subst h)
    all_goals
     refine Jh (Je (Jb (Jd rfl) U U U (Jb (y_lss U U) U U U (Jb (Jd rfl) U U U ?_))))
     all_goals (first | (refine Vh U U U (fun h => ?_) (fun h => ?_) <;> try (first | (exfalso; omega) | exact absurd rfl h)) | (refine Vr U U U (fun h => ?_) (fun h => ?_) <;> try (first | cases h | (exfalso; simp at h; done))) | skip)
     all_goals (first | refine Js U U U U U U ?_ | refine Jp U U U U U ?_ | refine Jt U U U (Jd rfl) U U ?_)
     all_goals (first | refine Js U U U U U U ?_ | refine Jp U U U U U ?_ | refine Jt U U U (Jd rfl) U U ?_)
     all_goals (first | refine Js U U U U U U ?_ | refine Jp U U U U U ?_ | refine Jt U U U znc U U ?_)
     all_goals (first | refine Js U U U U U U ?_ | refine Jp U U U U U ?_ | refine Jt U U U (Jk hT U U U U U U) U U ?_)
     all_goals (first | refine Js U U U U U U ?_ | refine Jp U U U U U ?_ | refine Jt U U U (Jo hT U U U zrd) U U ?_)
     all_goals (first | refine Js U U U U U U ?_ | refine Jp U U U U U ?_ | refine Jt U U U (Vf hT U U U) U U ?_)
     all_goals (first | refine Js U U U U U U ?_ | refine Jp U U U U U ?_ | refine Jt U U U (y_geq U U) U U ?_)
     all_goals (refine Jb (Wb U U U) U U U ?_)
     all_goals (refine Jb (Jf rfl) U U U ?_)
     all_goals refine Jg (Ja ?_)
     all_goals
      first | apply Jx rfl | apply Vo rfl
      case' ht =>
       intro h
       try (first | exact zom | exact zho h | subst h)
       all_goals
        refine Jh (Je (Jb (Jf rfl) U U U ?_))
        refine Jg (Ja (Vn (Vj (Vb ?_))))
        refine Vi (.inl rfl) U U zrv ?_
        refine ⟨sa, sc, pa, pc, hok, ⟨?_, rfl⟩, rfl⟩; simp_all [Dk.ready]
      case' hf =>
       intro h
       try (first | exact zom | exact zho h | subst h)
       all_goals
        refine Vd ?_
 all_goals refine Ju (Ja ?_)
 all_goals
  refine Jh (Je (Jb (Jf rfl) U U U ?_))
  refine Jg (Ja (Vn ?_))
  refine Vi (.inl rfl) U U zrv ?_
  refine ⟨sa, sc, pa, pc, hok, ⟨?_, rfl⟩, rfl⟩; simp_all [Dk.ready]
theorem len_spec (d : Nat) (D : Dk) (r : List HProp) :
 Fc prog E 61 [Value.pointer (some ⟨d, 0, none⟩)].toArray (disk d D :: r) (fun v l' => v = .int .i64 D.safe.length ∧ l' = disk d D :: r) := by
 refine Fc.disk (d := d) (D' := D) (r := r) ?_
 refine Va (c := ?codeC) Tryz.func61 ?hb Tryz.ntmps61 ?hl ?_
 case hb => exact rfl
 case hl => exact rfl
 refine J.disk fun sa sc pa pc hok => ?_
 refine Jh (Je (Jb (Jf rfl) U U U ?_))
 refine Jg (Ja (Jh (Jh (Je (Jb (Jd rfl) U U U (Jb (Wc hT U U U U) U U U ?_))))))
 refine Jg (Ja ?_)
 first | apply Jx rfl | apply Vo rfl
 case' ht =>
  intro h
  try (first | exact zom | exact zho h | subst h)
  all_goals
   refine Jh (Je (Jb (Jf rfl) U U U ?_))
   refine Jg (Ja (Vn (Vb ?_)))
   refine Vi (.inl rfl) U U zrv ?_
   exact ⟨sa, sc, pa, pc, hok, ⟨rfl, rfl⟩, rfl⟩
 case' hf =>
  intro h
  try (first | exact zom | exact zho h | subst h)
  all_goals
   refine Vd ?_
 all_goals refine Ja ?_
 all_goals
  refine Jh (Je (Jb (Jd rfl) U U U ?_))
  refine Jb znc U U U ?_
  refine Jb (Jk hT U U U U U U) U U U ?_
  refine Jb (Jo hT U U U zrd) U U U ?_
  refine Jb (Vf hT U U U) U U U (Jb (Jf rfl) U U U ?_)
  refine Jg (Ja (Vn ?_))
  refine Vi (.inl rfl) U U zrv ?_
  exact ⟨sa, sc, pa, pc, hok, ⟨rfl, rfl⟩, rfl⟩
def Dk.does (D : Dk) : Dk := { D with left := if D.armed then IntKind.i64.wrap (D.left - 1) else D.left, ops := IntKind.i64.wrap (D.ops + 1) }
def Dk.dies (D : Dk) : Dk := { D with dead := true, armed := false }
theorem Dk.Ok.dies {D : Dk} (h : D.Ok) : D.dies.Ok := ⟨h.safe, h.pend, h.some, h.most, h.left⟩
theorem wrap_range (x : Int) : -9223372036854775808 ≤ IntKind.i64.wrap x ∧ IntKind.i64.wrap x ≤ 9223372036854775807 := by rw [IntKind.wrap_i64]; omega
theorem Dk.Ok.does {D : Dk} (h : D.Ok) : D.does.Ok := ⟨h.safe, h.pend, h.some, h.most, by
 simp only [Dk.does]
 split
 · exact wrap_range _
 · exact h.left⟩
theorem do_dies (d : Nat) (D : Dk) (f : FuncId) (cs : Array Value) (r : List HProp) (ha : D.armed = true) (h0 : D.left = 0) :
 Fc prog E 149 [Value.pointer (some ⟨d, 0, none⟩), .func (.func f) #[] cs].toArray (disk d D :: r) (fun v l' => v = .int .i64 7 ∧ l' = disk d D.dies :: r) := by
 refine Fc.disk (d := d) (D' := D.dies) (r := r) ?_
 refine Va (c := ?codeC) Tryz.func149 ?hb Tryz.ntmps149 ?hl ?_
 case hb => exact rfl
 case hl => exact rfl
 refine J.disk fun sa sc pa pc hok => ?_
 refine Jh (Je (Jb (Jf rfl) U U U ?_))
 refine Jg (Ja (Jh (Jh (Je (Jb (Jd rfl) U U U ?_)))))
 refine Jb znc U U U ?_
 refine Jb (Jk hT U U U U U U) U U U ?_
 refine Jb (Jo hT U U U zrd) U U U ?_
 refine Jg (Ja ?_)
 refine J.cond_t rfl zbl ?_
 refine Jh (Jh (Je (Jb (Jd rfl) U U U ?_)))
 refine Jb znc U U U ?_
 refine Jb (Jk hT U U U U U U) U U U ?_
 refine Jb (Jo hT U U U zrd) U U U ?_
 refine Jb (y_eql U U) U U U ?_
 refine Jg (Ja ?_)
 refine J.cond_t rfl zbl ?_
 refine Jh (Je (Jb (Jd rfl) U U U (Jb (Jd rfl) U U U ?_)))
 refine Jb znc U U U ?_
 refine Jb (Jk hT U U U U U U) U U U ?_
 refine Jl rfl (Vs hT U U U U U zpk zix ?_)
 refine Jb znc U U U ?_
 refine Jb (Jk hT U U U U U U) U U U ?_
 refine Jl rfl (Vs hT U U U U U zpk zix ?_)
 refine Jg (Ja (Jh (Je (Jb (Jf rfl) U U U ?_))))
 refine Jg (Ja (Vn (Vb (Vb ?_))))
 refine Vi (.inl rfl) U U zrv ?_
 exact ⟨sa, sc, pa, pc, hok.dies, ⟨rfl, rfl⟩, rfl⟩
 -- UNUSED OPTIONS: call t34, val
theorem do_does (d : Nat) (D D2 : Dk) (f : FuncId) (hent : Ent prog f) (cs : List Value) (r : List HProp) (hna : ¬ (D.armed = true ∧ D.left = 0))
 (hcl : Fc prog E f cs.toArray (disk d D.does :: r) (fun _ l' => l' = disk d D2 :: r)) :
 Fc prog E 149 [Value.pointer (some ⟨d, 0, none⟩), .func (.func f) #[] cs.toArray].toArray (disk d D :: r) (fun v l' => v = .int .i64 0 ∧ l' = disk d D2 :: r) := by
 cases ha : D.armed with
 | true =>
   have h0 : ¬ D.left = 0 := fun e => hna ⟨ha, e⟩
   have hd : decide (D.left = 0) = false := decide_eq_false h0
   refine Va (c := ?codeC) Tryz.func149 ?hb Tryz.ntmps149 ?hl ?_
   case hb => exact rfl
   case hl => exact rfl
   refine J.disk fun sa sc pa pc hok => ?_
   refine Jh (Je (Jb (Jf rfl) U U U ?_))
   refine Jg (Ja (Jh (Jh (Je (Jb (Jd rfl) U U U ?_)))))
   refine Jb znc U U U ?_
   refine Jb (Jk hT U U U U U U) U U U ?_
   refine Jb (Jo hT U U U zrd) U U U ?_
   refine Jg (Ja ?_)
   refine J.cond_t rfl zbl ?_
   refine Jh (Jh (Je (Jb (Jd rfl) U U U ?_)))
   refine Jb znc U U U ?_
   refine Jb (Jk hT U U U U U U) U U U ?_
   refine Jb (Jo hT U U U zrd) U U U ?_
   refine Jb (y_eql U U) U U U ?_
   refine Jg (Ja ?_)
   refine Vk rfl zbl ?_
   refine Vd (Ja (Je (Jb (Jd rfl) U U U ?_)))
   refine Jb znc U U U ?_
   refine Jb (Jk hT U U U U U U) U U U ?_
   refine Jb (Jo hT U U U zrd) U U U ?_
   refine Jb (y_sub U U U) U U U ?_
   refine Jb znc U U U ?_
   refine Jb (Jk hT U U U U U U) U U U ?_
   refine Jl rfl (Vs hT U U U U U zpk zix ?_)
   refine Jg (Ja (Jh (Je (Jb (Jd rfl) U U U ?_))))
   refine Jb znc U U U ?_
   refine Jb (Jk hT U U U U U U) U U U ?_
   refine Jb (Jo hT U U U zrd) U U U ?_
   refine Jb (Wa U U U) U U U ?_
   refine Jb znc U U U ?_
   refine Jb (Jk hT U U U U U U) U U U ?_
   refine Jl rfl (Vs hT U U U U U zpk zix ?_)
   refine Jg (Ja (Jh (Je (Jb (Jd rfl) U U U ?_))))
   refine Jl rfl (l_callV hent U U U ((hcl.imp fun w s => disk_shut (D := D.does) (sa := sa) (sc := sc) (pa := pa) (pc := pc) hok.does (by simpa [dcells, Dk.does, ha] using s))) ?_)
   rintro _ _ rfl
   refine Jg (Ja (Jh (Je (Jb (Jf rfl) U U U ?_))))
   refine Jg (Ja (Vn ?_))
   refine Vi (.inl rfl) U U zrv ?_
   exact ⟨rfl, rfl⟩
 | false =>
   refine Va (c := ?codeC) Tryz.func149 ?hb Tryz.ntmps149 ?hl ?_
   case hb => exact rfl
   case hl => exact rfl
   refine J.disk fun sa sc pa pc hok => ?_
   refine Jh (Je (Jb (Jf rfl) U U U ?_))
   refine Jg (Ja (Jh (Jh (Je (Jb (Jd rfl) U U U ?_)))))
   refine Jb znc U U U ?_
   refine Jb (Jk hT U U U U U U) U U U ?_
   refine Jb (Jo hT U U U zrd) U U U ?_
   refine Jg (Ja ?_)
   refine Vk rfl zbl ?_
   refine Vd (Ja (Jh (Je (Jb (Jd rfl) U U U ?_))))
   refine Jb znc U U U ?_
   refine Jb (Jk hT U U U U U U) U U U ?_
   refine Jb (Jo hT U U U zrd) U U U ?_
   refine Jb (Wa U U U) U U U ?_
   refine Jb znc U U U ?_
   refine Jb (Jk hT U U U U U U) U U U ?_
   refine Jl rfl (Vs hT U U U U U zpk zix ?_)
   refine Jg (Ja (Jh (Je (Jb (Jd rfl) U U U ?_))))
   refine Jl rfl (l_callV hent U U U ((hcl.imp fun w s => disk_shut (D := D.does) (sa := sa) (sc := sc) (pa := pa) (pc := pc) hok.does (by simpa [dcells, Dk.does, ha] using s))) ?_)
   rintro _ _ rfl
   refine Jg (Ja (Jh (Je (Jb (Jf rfl) U U U ?_))))
   refine Jg (Ja (Vn ?_))
   refine Vi (.inl rfl) U U zrv ?_
   exact ⟨rfl, rfl⟩
def liveOn (lv : Nat → Bool) : List (Int × Blk) → Nat → List Blk → List Blk
 | [], _, s => s
 | p :: r, k, s => liveOn lv r (k + 1) (if lv k then s.set p.1.toNat p.2 else s)
def Dk.settle (D : Dk) (lv : Nat → Bool) : Dk := { D with safe := liveOn lv D.pending 0 D.safe, pending := [] }
theorem liveOn_length (lv : Nat → Bool) : ∀ (l : List (Int × Blk)) (k : Nat) (s : List Blk), (liveOn lv l k s).length = s.length
 | [], _, _ => rfl
 | p :: r, k, s => by simp only [liveOn]; rw [liveOn_length]; split <;> simp
theorem liveOn_blk (lv : Nat → Bool) : ∀ (l : List (Int × Blk)) (k : Nat) (s : List Blk), (∀ p ∈ l, p.2.length = 64) → (∀ b ∈ s, b.length = 64) → ∀ b ∈ liveOn lv l k s, b.length = 64
 | [], _, _, _, hs => hs
 | p :: r, k, s, hl, hs => by
   simp only [liveOn]
   refine liveOn_blk lv r _ _ (fun q hq => hl q (by simp [hq])) ?_
   split
   · intro b hb
     rcases List.mem_or_eq_of_mem_set hb with h | h
     · exact hs b h
     · subst h; exact hl p (by simp)
   · exact hs
theorem Dk.Ok.settle {D : Dk} (h : D.Ok) (lv : Nat → Bool) : (D.settle lv).Ok :=
 ⟨liveOn_blk lv _ _ _ (fun p hp => (h.pend p hp).1) h.safe, fun p hp => by simp [Dk.settle] at hp, by simp only [Dk.settle, liveOn_length]; exact h.some, by simp only [Dk.settle, liveOn_length]; exact h.most, h.left⟩
structure SetI (D : Dk) (lv : Nat → Bool) (s : Nat × List Blk) : Prop where
 le : s.1 ≤ D.pending.length
 len : s.2.length = D.safe.length
 blk : ∀ b ∈ s.2, b.length = 64
 on : liveOn lv (D.pending.drop s.1) s.1 s.2 = liveOn lv D.pending 0 D.safe
theorem SetI.next {D : Dk} {lv : Nat → Bool} {s : Nat × List Blk} (h : SetI D lv s) (hok : D.Ok) {p : Int × Blk} (hp : D.pending[s.1]? = some p) : SetI D lv (s.1 + 1, if lv s.1 then s.2.set p.1.toNat p.2 else s.2) := by
 have hlt : s.1 < D.pending.length := by
  rcases Nat.lt_or_ge s.1 D.pending.length with h | h
  · exact h
  · simp [List.getElem?_eq_none h] at hp
 have hm := List.mem_of_getElem? hp
 refine ⟨hlt, by dsimp only; split <;> simp [h.len], ?_, ?_⟩
 · dsimp only
   split
   · intro b hb
     rcases List.mem_or_eq_of_mem_set hb with hb | hb
     · exact h.blk b hb
     · subst hb; exact (hok.pend p hm).1
   · exact h.blk
 · have := h.on
   rw [List.drop_eq_getElem_cons hlt] at this
   rw [List.getElem?_eq_getElem hlt] at hp
   cases hp
   exact this
theorem settle_spec (d : Nat) (D : Dk) (f : FuncId) (hent : Ent prog f) (cs : List Value) (r : List HProp) (lv : Nat → Bool) (hpn : D.pending.length ≤ 1000000)
 (hlv : ∀ m i, i < D.pending.length → Fc prog E f ([Value.int .i64 (i : Nat)] ++ cs).toArray (m ++ r) (fun v l' => v = .bool (lv i) ∧ l' = m ++ r)) :
 Fc prog E 95 [Value.pointer (some ⟨d, 0, none⟩), .func (.func f) #[] cs.toArray].toArray (disk d D :: r) (fun v l' => v = .tuple #[] ∧ l' = disk d (D.settle lv) :: r) := by
 refine Fc.eqs ?_
 refine Va (c := ?codeC) Tryz.func95 ?hb Tryz.ntmps95 ?hl ?_
 case hb => exact rfl
 case hl => exact rfl
 refine J.disk fun sa sc pa pc hok => ?_
 refine J.picks (Jz (Jz Jm)) ?_
 refine J.own_addr fun gp hgp hpc => ?_
 refine J.picks (Jz (Jz Jm)) ?_
 refine J.owns (fun _ h0 _ => by have := hok.some; omega) fun gs cap sp hv hsc hm hl hfull => ?_
 simp only [Value.slice.injEq] at hv
 obtain ⟨rfl, _, rfl⟩ := hv
 refine Jh (Jh (Je (Jb (Jd rfl) U U U ?_)))
 refine Jb znc U U U ?_
 refine Jb (Jk hT U U U U U U) U U U ?_
 refine Jb (Jo hT U U U zrd) U U U ?_
 refine Jb (Vf hT U U U) U U U (Jb (Jd rfl) U U U ?_)
 refine Jg (Ja (Ve ?_))
 refine Wn (α := Nat × List Blk) (SetI D lv) (fun s => [(0, .pointer (some ⟨d, 0, none⟩)), (1, .func (.func f) #[] cs.toArray), (9, .slice pa D.pending.length pc), (10, .int .i64 D.pending.length), (11, .int .i64 s.1)]) (fun s => row gs 202 (s.2.flatMap encB ++ sp) :: own 238 65 (.slice pa D.pending.length pc) D.pending.length (D.pending.flatMap encW) :: row d 173 (dcells D (some ⟨gs, 0, none⟩) sc pa pc) :: r) (fun s => D.pending.length - s.1) (0, D.safe) ⟨by omega, rfl, hok.safe, rfl⟩ ⟨U, U, U, U, U, trivial⟩ (fun w h => h) ?_
 rintro ⟨k, s⟩ hI
 dsimp only
 refine Jh (Je (Jb (y_lss U U) U U U ?_))
 refine Jg (Ja (Jh ?_))
 first | apply Jx rfl | apply Vo rfl
 case' ht =>
  intro h
  try (first | exact zom | exact zho h | subst h)
  all_goals
   refine Vd ?_
 case' hf =>
  intro h
  try (first | exact zom | exact zho h | subst h)
  all_goals
   refine Wl (Jv (Jv (Vl (Ja (Je (Jb (Jd rfl) U U U ?_))))))
   refine Jb znc U U U ?_
   refine Jb (Jk hT U U U U U U) U U U ?_
   refine Jl rfl (Vs hT U U U U U zpk zix ?_)
   refine Jg ?_
   refine JE.ret0 (.inr rfl) U U  ?_
   refine ⟨rfl, fun w q => ?_⟩
   have hk : k = D.pending.length := by have := hI.le; dsimp only at this h; omega
   subst hk
   have hs : s = liveOn lv D.pending 0 D.safe := by have := hI.on; rwa [List.drop_length] at this
   have hlen : s.length = D.safe.length := hI.len
   have q1 := (q.pick (Jz (Jz Jm))).drop
   have hseg : (s.flatMap encB).length = s.length * 64 := seg_len (fun b hb => by rw [encB_length]; exact hI.blk b hb)
   have q2 := (q1.pick (Jz Jm)).owned (m := s.length) (cap := sc) (size := 64) (by omega) hm hseg (by rw [List.length_append] at hfull ⊢; rw [hseg, hlen]; omega)
   have q3 := (q2.own_nil (e := 238) (size := 65)).divide (Ji (Jz (Jz Jm)) (Ji (Jz Jm) (Ji Jm Jj)))
   refine disk_shut (D := D.settle lv) (sa := some ⟨gs, 0, none⟩) (sc := sc) (pa := none) (pc := 0) (hok.settle lv) ?_
   have e : (D.settle lv).safe = s := hs.symm
   rw [e]
   have e2 : dcells (D.settle lv) (some ⟨gs, 0, none⟩) sc none 0 = (dcells D (some ⟨gs, 0, none⟩) sc pa pc).set 1 (.slice none 0 0) := by
    simp only [dcells, liveOn_length, Dk.settle, List.length_nil, List.set_cons_succ, List.set_cons_zero]
   rw [e2]
   exact q3
 all_goals refine Ja ?_
 all_goals
  refine Jh (Ve (Jh (Je (Jb (Jd rfl) U U U ?_))))
  obtain rfl := hgp (by omega)
  obtain ⟨p, hp⟩ : ∃ p, D.pending[k]? = some p := ⟨_, List.getElem?_eq_getElem (by omega)⟩
  have hpo := hok.pend p (List.mem_of_getElem? hp)
  have hWl : (encW p).length = 65 := by simp [encW, hpo.1]
  have hBl : (encB p.2).length = 64 := by simp [hpo.1]
  have hseg : (s.flatMap encB).length = s.length * 64 := seg_len (fun b hb => by rw [encB_length]; exact hI.blk b hb)
  have hlen : s.length = D.safe.length := hI.len
  have hfit : 0 + p.1.toNat * i202.size + (encB p.2).length ≤ (s.flatMap encB ++ sp).length := by
   rw [hBl, List.length_append, hseg, hlen, show i202.size = 64 from rfl]
   omega
  refine Jb (Jn hT U U U U U zix zix) U U U ?_
  refine Jb (We hT U U U ((RdN.own zpk).elem hok.segW hp) hWl) U U U ?_
  refine Jl rfl (Wf hT U U zcl rfl (fun b2 => ?_))
  refine Jb (Jf rfl) U U U ?_
  refine Jl rfl (Vx hT U U U zln zoc zpk zln ?_)
  refine Jg (Ja (Jh (Je (Jb (Jd rfl) U U U (Jb (Jd rfl) U U U ?_)))))
  refine Jl rfl (l_callV hent U U U (hlv (_ :: _ :: _ :: _ :: []) k (by omega)) ?_)
  rintro _ _ ⟨rfl, rfl⟩
  refine Jg (Ja ?_)
  first | apply Jx rfl | apply Vo rfl
  case' ht =>
   intro h
   try (first | exact zom | exact zho h | subst h)
   all_goals
    refine Vz _ _ [(0, .q), (1, .q), (2, .q), (3, .q), (4, .q), (5, .q), (6, .q), (7, .q), (8, .q), (9, .l)] mixed (by kernel_rfl) (Ji (Jz Jm) (Jj)) ?_
    refine zqm U U U U U ?_
    refine Jc U U U U (fun m => znc) ?_
    refine Jc U U U U (fun m => Jk hT U U U U U U) ?_
    refine Jc U U U U (fun m => Jo hT U U U zrda) ?_
    refine Jc U U U U (fun m => Jk hT U U U U U U) ?_
    refine Jc U U U U (fun m => Jo hT U U U zrda) ?_
    refine Jc U U U U (fun m => Jk hT U U U U U U) ?_
    refine Jc U U U U (fun m => We hT U U U (RdN.row (n := 64) (vs := encB p.2) (Vp m zpk) (by simp [encW, List.take_of_length_le, hpo.1])) hBl) ?_
    refine Jc U U U U (fun m => Jn hT U U U U U zix zix) ?_
    refine Vm U U (fun fr => l_storeN hT U U U hBl (encB_one _) Jm hfit ⟨[_], (by (repeat (first | exact Jj | exact Vc | refine Ji Jm ?_))), ?_⟩)
    refine Vv ?_
  case' hf =>
   intro h
   try (first | exact zom | exact zho h | subst h)
   all_goals
    refine Vd ?_
  all_goals refine Ju (Ja ?_)
  all_goals
   refine Je ?_
   refine Jb (Wa U U zwr) U U U ?_
   refine Jb (Jd rfl) U U U ?_
   refine Jg ?_
 all_goals
  by_cases hb : lv k = true
  · try (exfalso; rw [h] at hb; exact Bool.false_ne_true hb)
    all_goals
     refine Vt (s := (k, s)) (k + 1, s.set p.1.toNat p.2) (by have := hI.next hok hp; rwa [if_pos hb] at this) ⟨U, U, U, U, U, trivial⟩ (fun w q => ?_) (by omega)
     have e := seg_set (enc := encB) (sp := sp) (xs := s) (i := p.1.toNat) (y := p.2) (fun b hb => by rw [encB_length]; exact hI.blk b hb) (by omega)
     rw [hBl, Nat.zero_add] at q
     rw [← e]
     exact (q.pick (Jz Jm)).drop
  · try (exfalso; exact hb h)
    all_goals
     refine Vt (s := (k, s)) (k + 1, s) (by have := hI.next hok hp; rwa [if_neg hb] at this) ⟨U, U, U, U, U, trivial⟩ (fun w q => ?_) (by omega)
     exact q.drop
def Dk.sync (D : Dk) : Dk × Int := if D.dead then (D, 7) else if D.armed ∧ D.left = 0 then (D.dies, 7) else (D.does.settle (fun _ => true), 0)
theorem yes_spec (l : List HProp) (v : Value) : Fc prog E 154 [v].toArray l (fun u l' => u = .bool true ∧ l' = l) := by
 refine Va (c := ?codeC) Tryz.func154 ?hb Tryz.ntmps154 ?hl ?_
 case hb => exact rfl
 case hl => exact rfl
 refine Jh (Je (Jb (Jf rfl) U U U ?_))
 refine Jg (Ja (Jh (Je (Jb (Jf rfl) U U U ?_))))
 refine Jg (Ja (Vn ?_))
 refine Vi (.inl rfl) U U zrv ?_
 exact ⟨rfl, rfl⟩
theorem sync1_spec (b d : Nat) (D : Dk) (r : List HProp) (hpn : D.pending.length ≤ 1000000) :
 Fc prog E 153 [Value.pointer (some ⟨b, 0, none⟩)].toArray (disk d D :: row b 27 [.pointer (some ⟨d, 0, none⟩)] :: r) (fun _ l' => l' = disk d (D.settle (fun _ => true)) :: row b 27 [.pointer (some ⟨d, 0, none⟩)] :: r) := by
 refine Va (c := ?codeC) Tryz.func153 ?hb Tryz.ntmps153 ?hl ?_
 case hb => exact rfl
 case hl => exact rfl
 refine Je ?_
 refine Jb (Jo hT U U U zrd) U U U ?_
 refine Jl rfl (Jw e95 U U (settle_spec E d D 154 e154 [] _ (fun _ => true) hpn (fun m i _ => yes_spec E _ _)) ?_)
 rintro _ _ ⟨rfl, rfl⟩
 refine Jg ?_
 all_goals
  refine JE.ret0 (.inr rfl) U U  ?_
  rfl
theorem ready0 {D : Dk} (h : D.Ok) : D.ready 0 = if D.dead then 7 else 0 := by
 have := h.some
 have h' : ¬ ((0 : Int) < 0 ∨ (D.safe.length : Int) ≤ 0) := by omega
 simp only [Dk.ready, h', if_false]
theorem sync_spec (d : Nat) (D : Dk) (r : List HProp) (hpn : D.pending.length ≤ 1000000) :
 Fc prog E 110 [Value.pointer (some ⟨d, 0, none⟩)].toArray (disk d D :: r) (fun v l' => v = .int .i64 D.sync.2 ∧ l' = disk d D.sync.1 :: r) := by
 refine disk_okd fun hok => Fc.eqs ?_
 have hr := ready0 hok
 by_cases hd : D.dead = true
 · simp only [hd, if_true] at hr
   simp only [Dk.sync, hd, if_true]
   refine Va (c := ?codeC) Tryz.func110 ?hb Tryz.ntmps110 ?hl ?_
   case hb => exact rfl
   case hl => exact rfl
   refine Jh (Je ?_)
   refine Jl rfl (l_box rfl zcl rfl (fun b1 => ?_))
   refine Jb (Jf rfl) U U U ?_
   refine Jg (Ja (Jh (Jh (Je ?_))))
   refine Jb (Jo hT U U U zrd) U U U ?_
   refine Jl rfl (Jw e94 U U ((ready_spec E d D 0 _).split (Ji zpk Jj)) ?_)
   rintro _ _ ⟨rfl, rfl⟩
   refine Jb (Jf rfl) U U U ?_
   refine Jg (Ja (Jh ?_))
   rw [hr]
   refine Je (Jb (Jd rfl) U U U (Jb (y_neq U U) U U U ?_))
   refine Jg (Ja ?_)
   refine J.cond_t rfl zbl ?_
   refine Jh (Je (Jb (Jd rfl) U U U (Jb (Jf rfl) U U U ?_)))
   refine Jg (Ja (Vn (Vb ?_)))
   refine Vi (.inl rfl) U U zrv ?_
   exact ⟨rfl, fun w q => (q.pick (Jz Jm)).drop⟩
 · simp only [hd] at hr
   simp only [Dk.sync, hd]
   by_cases ha : D.armed = true ∧ D.left = 0
   · simp only [ha, and_self, if_true]
     refine Va (c := ?codeC) Tryz.func110 ?hb Tryz.ntmps110 ?hl ?_
     case hb => exact rfl
     case hl => exact rfl
     refine Jh (Je ?_)
     refine Jl rfl (l_box rfl zcl rfl (fun b1 => ?_))
     refine Jb (Jf rfl) U U U ?_
     refine Jg (Ja (Jh (Jh (Je ?_))))
     refine Jb (Jo hT U U U zrd) U U U ?_
     refine Jl rfl (Jw e94 U U ((ready_spec E d D 0 _).split (Ji zpk Jj)) ?_)
     rintro _ _ ⟨rfl, rfl⟩
     refine Jb (Jf rfl) U U U ?_
     refine Jg (Ja (Jh ?_))
     rw [hr]
     refine Je (Jb (Jd rfl) U U U (Jb (y_neq U U) U U U ?_))
     refine Jg (Ja ?_)
     refine Vk rfl zbl ?_
     refine Vd (Ja (Jh (Je ?_)))
     refine Jb (Jo hT U U U zrd) U U U ?_
     refine Jb (y_makeFunc U U) U U U ?_
     refine Jl rfl (Jw e149 U U ((do_dies E d D _ _ _ ha.1 ha.2).split (Ji zpk Jj)) ?_)
     rintro _ _ ⟨rfl, rfl⟩
     refine Jb (Jf rfl) U U U ?_
     refine Jg (Ja (Vn ?_))
     refine Vi (.inl rfl) U U zrv ?_
     exact ⟨rfl, fun w q => (q.pick (Jz Jm)).drop⟩
   · simp only [ha, if_false]
     refine Va (c := ?codeC) Tryz.func110 ?hb Tryz.ntmps110 ?hl ?_
     case hb => exact rfl
     case hl => exact rfl
     refine Jh (Je ?_)
     refine Jl rfl (l_box rfl zcl rfl (fun b1 => ?_))
     refine Jb (Jf rfl) U U U ?_
     refine Jg (Ja (Jh (Jh (Je ?_))))
     refine Jb (Jo hT U U U zrd) U U U ?_
     refine Jl rfl (Jw e94 U U ((ready_spec E d D 0 _).split (Ji zpk Jj)) ?_)
     rintro _ _ ⟨rfl, rfl⟩
     refine Jb (Jf rfl) U U U ?_
     refine Jg (Ja (Jh ?_))
     rw [hr]
     refine Je (Jb (Jd rfl) U U U (Jb (y_neq U U) U U U ?_))
     refine Jg (Ja ?_)
     refine Vk rfl zbl ?_
     refine Vd (Ja (Jh (Je ?_)))
     refine Jb (Jo hT U U U zrd) U U U ?_
     refine Jb (y_makeFunc U U) U U U ?_
     refine Jl rfl (Jw e149 U U ((do_does E d D _ _ e153 [_] _ ha (sync1_spec E _ d D.does _ hpn)).split (Ji zpk Jj)) ?_)
     rintro _ _ ⟨rfl, rfl⟩
     refine Jb (Jf rfl) U U U ?_
     refine Jg (Ja (Vn ?_))
     refine Vi (.inl rfl) U U zrv ?_
     exact ⟨rfl, fun w q => (q.pick (Jz Jm)).drop⟩
def Dk.push (D : Dk) (i : Int) (b : Blk) : Dk := { D with pending := D.pending ++ [(i, b)] }
theorem Dk.Ok.push {D : Dk} (h : D.Ok) {i : Int} {b : Blk} (hb : b.length = 64) (hi : 0 ≤ i ∧ i < D.safe.length) : (D.push i b).Ok :=
 ⟨h.safe, fun p hp => by
  simp only [Dk.push, List.mem_append, List.mem_singleton] at hp
  rcases hp with hp | rfl
  · exact h.pend p hp
  · exact ⟨hb, hi⟩, h.some, h.most, h.left⟩
theorem write1_spec (b0 b1 b2 d : Nat) (D : Dk) (i : Int) (b : Blk) (hb : b.length = 64) (hi : 0 ≤ i ∧ i < D.safe.length) (r : List HProp) (hpn : D.pending.length ≤ 1000000) :
 Fc prog E 150 [Value.pointer (some ⟨b0, 0, none⟩), .pointer (some ⟨b1, 0, none⟩), .pointer (some ⟨b2, 0, none⟩)].toArray
  (disk d D :: row b0 27 [.pointer (some ⟨d, 0, none⟩)] :: row b1 3 [.int .i64 i] :: row b2 202 (encB b) :: r)
  (fun _ l' => l' = disk d (D.push i b) :: row b0 27 [.pointer (some ⟨d, 0, none⟩)] :: row b1 3 [.int .i64 i] :: row b2 202 (encB b) :: r) := by
 refine Wg ?_
 have hBl : (encB b).length = 64 := by rw [encB_length]; exact hb
 have hWl : (encW (i, b)).length = 65 := by simp [encW, hb]
 refine Va (c := ?codeC) Tryz.func150 ?hb Tryz.ntmps150 ?hl ?_
 case hb => exact rfl
 case hl => exact rfl
 refine J.disk fun sa sc pa pc hok => ?_
 refine Vz _ _ [(0, .q), (1, .q), (2, .q), (3, .q), (5, .q), (6, .q), (7, .q), (4, .l), (8, .n), (9, .l), (10, .q), (11, .q), (12, .l)] mixed (by kernel_rfl) (Ji (Jm) (Ji (Jz Jm) (Jj))) ?_
 refine Jc U U U U (fun m => Jo hT U U U zrda) ?_
 refine Jc U U U U (fun m => Jo hT U U U zrda) ?_
 refine Jc U U U U (fun m => znc) ?_
 refine Jc U U U U (fun m => Jk hT U U U U U U) ?_
 refine Jc U U U U (fun m => Jo hT U U U zrda) ?_
 refine Jc U U U U (fun m => We hT U U U (RdN.row (n := 64) (vs := encB b) (Vp m zpk) (by simp [List.take_of_length_le, hb])) hBl) ?_
 refine Jc U U U U (fun m => y_build (cs := encW (i, b)) hT U U U U U U ⟨⟨rfl, Nat.le_of_ble_eq_true rfl⟩, ⟨hBl, Nat.le_of_ble_eq_true rfl⟩, trivial⟩ (fillE_two rfl hBl)) ?_
 refine Vm U U (fun fr => LS.ofY U U (Jo hT U U U zrd) ⟨[_, _], (by (repeat (first | exact Jj | exact Vc | refine Ji Jm ?_))), ?_⟩)
 refine JM.lay U U U U (fun a hf => lays_buildSlice hT U U U U hf U U U zfl) (fun b1 => ?_)
 refine Vm U U (fun fr => l_append hT U U U U U U U U zpk zrdn zln zoc zab zix rfl (fun ab2 cb2 hb2 => ⟨[_, _, _], (by (repeat (first | exact Jj | exact Vc | refine Ji Jm ?_))), ?_⟩))
 refine Jc U U U U (fun m => znc) ?_
 refine Jc U U U U (fun m => Jk hT U U U U U U) ?_
 refine Vm U U (fun fr => Vs hT U U U U U zpk zix (⟨[_, _, _], (by (repeat (first | exact Jj | exact Vc | refine Ji Jm ?_))), ?_⟩))
 refine Vv ?_
 all_goals
  refine JE.ret0 (.inr rfl) U U  ?_
  refine ⟨_, fun w q => ?_, rfl⟩
  refine disk_shut (D := D.push i b) (sa := sa) (sc := sc) (pa := ab2) (pc := cb2) (hok.push hb hi) ?_
  have e1 : (D.push i b).pending.length = D.pending.length + 1 := by simp [Dk.push]
  have e2 : (D.push i b).pending.flatMap encW = D.pending.flatMap encW ++ encW (i, b) := by simp [Dk.push]
  have e3 : dcells (D.push i b) sa sc ab2 cb2 = (dcells D sa sc pa pc).set 1 (.slice ab2 (D.pending.length + 1) cb2) := by simp [dcells, Dk.push]
  rw [e1, e2, e3]
  exact ((q.pick (Jz (Jz Jm))).drop).divide (Ji Jm (Ji (Jz Jm) (Ji Jm Jj)))
end
section
open Go Go.SL
attribute [local irreducible] J JL JE JM LS Y Fc RV Code.wp wpList Code.wpIn wpListIn
variable (E : World)
def Dk.write (D : Dk) (i : Int) (b : Blk) : Dk × Int := if D.ready i ≠ 0 then (D, D.ready i) else if D.armed ∧ D.left = 0 then (D.dies, 7) else (D.does.push i b, 0)
theorem ready_zero {D : Dk} {i : Int} (h : D.ready i = 0) : D.dead = false ∧ 0 ≤ i ∧ i < D.safe.length := by
 simp only [Dk.ready] at h
 split at h
 · simp at h
 · split at h
   · simp at h
   · rename_i h1 h2; exact ⟨by simpa using h1, by omega⟩
theorem write_spec (d : Nat) (D : Dk) (i : Int) (b : Blk) (hb : b.length = 64) (r : List HProp) (hpn : D.pending.length ≤ 1000000) :
 Fc prog E 108 [Value.pointer (some ⟨d, 0, none⟩), .int .i64 i, .agg (encB b).toArray].toArray (disk d D :: r) (fun v l' => v = .int .i64 (D.write i b).2 ∧ l' = disk d (D.write i b).1 :: r) := by
 refine Fc.eqs ?_
 by_cases hr : D.ready i = 0
 · have hz := ready_zero hr
   have hr' : decide (¬ D.ready i = 0) = false := by simp [hr]
   by_cases ha : D.armed = true ∧ D.left = 0
   · simp only [Dk.write, hr, ha, and_self, ne_eq, not_true_eq_false, if_false, if_true]
     refine Va (c := ?codeC) Tryz.func108 ?hb Tryz.ntmps108 ?hl ?_
     case hb => exact rfl
     case hl => exact rfl
     refine Jh (Je ?_)
     refine Jl rfl (l_box rfl zcl rfl (fun b1 => ?_))
     refine Jl rfl (l_box rfl zcl rfl (fun b2 => ?_))
     refine Jl rfl (l_box rfl zcl rfl (fun b3 => ?_))
     refine Jb (Jf rfl) U U U ?_
     refine Jg (Ja (Jh (Jh (Je ?_))))
     refine Jb (Jo hT U U U zrd) U U U ?_
     refine Jb (Jo hT U U U zrd) U U U ?_
     refine Jl rfl (Jw e94 U U ((ready_spec E d D i _).split (Ji zpk Jj)) ?_)
     rintro _ _ ⟨rfl, rfl⟩
     refine Jb (Jf rfl) U U U ?_
     refine Jg (Ja (Jh (Je (Jb (Jd rfl) U U U (Jb (y_neq U U) U U U ?_)))))
     refine Jg (Ja ?_)
     refine Vk rfl zbl ?_
     refine Vd (Ja (Jh (Je ?_)))
     refine Jb (Jo hT U U U zrd) U U U ?_
     refine Jb (y_makeFunc U U) U U U ?_
     refine Jl rfl (Jw e149 U U ((do_dies E d D _ _ _ ha.1 ha.2).split (Ji zpk Jj)) ?_)
     rintro _ _ ⟨rfl, rfl⟩
     refine Jb (Jf rfl) U U U ?_
     refine Jg (Ja (Vn ?_))
     refine Vi (.inl rfl) U U zrv ?_
     exact ⟨rfl, fun w q => (((q.pick (Jz Jm)).drop.pick (Jz Jm)).drop.pick (Jz Jm)).drop⟩
   · simp only [Dk.write, hr, ha, ne_eq, not_true_eq_false, if_false]
     refine Va (c := ?codeC) Tryz.func108 ?hb Tryz.ntmps108 ?hl ?_
     case hb => exact rfl
     case hl => exact rfl
     refine Jh (Je ?_)
     refine Jl rfl (l_box rfl zcl rfl (fun b1 => ?_))
     refine Jl rfl (l_box rfl zcl rfl (fun b2 => ?_))
     refine Jl rfl (l_box rfl zcl rfl (fun b3 => ?_))
     refine Jb (Jf rfl) U U U ?_
     refine Jg (Ja (Jh (Jh (Je ?_))))
     refine Jb (Jo hT U U U zrd) U U U ?_
     refine Jb (Jo hT U U U zrd) U U U ?_
     refine Jl rfl (Jw e94 U U ((ready_spec E d D i _).split (Ji zpk Jj)) ?_)
     rintro _ _ ⟨rfl, rfl⟩
     refine Jb (Jf rfl) U U U ?_
     refine Jg (Ja (Jh (Je (Jb (Jd rfl) U U U (Jb (y_neq U U) U U U ?_)))))
     refine Jg (Ja ?_)
     refine Vk rfl zbl ?_
     refine Vd (Ja (Jh (Je ?_)))
     refine Jb (Jo hT U U U zrd) U U U ?_
     refine Jb (y_makeFunc U U) U U U ?_
     refine Jl rfl (Jw e149 U U ((do_does E d D _ _ e150 [_, _, _] _ ha (write1_spec E _ _ _ d D.does i b hb hz.2 _ hpn)).split (Ji zpk (Ji zpk (Ji zpk (Ji zpk Jj))))) ?_)
     rintro _ _ ⟨rfl, rfl⟩
     refine Jb (Jf rfl) U U U ?_
     refine Jg (Ja (Vn ?_))
     refine Vi (.inl rfl) U U zrv ?_
     exact ⟨rfl, fun w q => (((q.pick (Jz Jm)).drop.pick (Jz Jm)).drop.pick (Jz Jm)).drop⟩
 · simp only [Dk.write, hr, ne_eq, not_false_eq_true, if_true]
   have hr' : decide (¬ D.ready i = 0) = true := by simp [hr]
   refine Va (c := ?codeC) Tryz.func108 ?hb Tryz.ntmps108 ?hl ?_
   case hb => exact rfl
   case hl => exact rfl
   refine Jh (Je ?_)
   refine Jl rfl (l_box rfl zcl rfl (fun b1 => ?_))
   refine Jl rfl (l_box rfl zcl rfl (fun b2 => ?_))
   refine Jl rfl (l_box rfl zcl rfl (fun b3 => ?_))
   refine Jb (Jf rfl) U U U ?_
   refine Jg (Ja (Jh (Jh (Je ?_))))
   refine Jb (Jo hT U U U zrd) U U U ?_
   refine Jb (Jo hT U U U zrd) U U U ?_
   refine Jl rfl (Jw e94 U U ((ready_spec E d D i _).split (Ji zpk Jj)) ?_)
   rintro _ _ ⟨rfl, rfl⟩
   refine Jb (Jf rfl) U U U ?_
   refine Jg (Ja (Jh (Je (Jb (Jd rfl) U U U (Jb (y_neq U U) U U U ?_)))))
   refine Jg (Ja ?_)
   refine J.cond_t rfl zbl ?_
   refine Jh (Je (Jb (Jd rfl) U U U (Jb (Jf rfl) U U U ?_)))
   refine Jg (Ja (Vn (Vb ?_)))
   refine Vi (.inl rfl) U U zrv ?_
   exact ⟨rfl, fun w q => (((q.pick (Jz Jm)).drop.pick (Jz Jm)).drop.pick (Jz Jm)).drop⟩
end
section
open Go Go.SL
attribute [local irreducible] J JL JE JM LS Y Fc RV Code.wp wpList Code.wpIn wpListIn
attribute [local irreducible] Yc
variable (E : World)
theorem backward_spec (v : Value) (l : List HProp) (hv : v.oneCell' = true) : Fc prog E 175 [v].toArray l
 (fun u l' => ∃ b, u = .func (.func 195) #[] [Value.pointer (some ⟨b, 0, none⟩)].toArray ∧ l' = row b 171 [v] :: l) := by
 have hvc : v.cells = [v].toArray := by cases v <;> simp_all [Value.cells, Value.oneCell']
 refine Va (c := ?codeC) Tryz.func175 ?hb Tryz.ntmps175 ?hl ?_
 case hb => exact rfl
 case hl => exact rfl
 refine Jh (Je ?_)
 refine Jl rfl (l_box rfl hvc rfl (fun b1 => ?_))
 refine Jb (Jf rfl) U U U ?_
 refine Jg (Ja (Jh (Je (Jb (y_makeFunc U U) U U U (Jb (Jf rfl) U U U ?_)))))
 refine Jg (Ja (Vn ?_))
 refine Vi (.inl rfl) U U zrv ?_
 exact ⟨b1, rfl, rfl⟩
theorem backward1_spec (k b : Nat) (pa : Option Addr) (pc : Nat) (xs : List (Int × Blk)) (hxs : ∀ x ∈ xs, (encW x).length = 65) (hn : xs.length ≤ 1000000) (St Fin : Nat → List HProp)
 (hrd : ∀ j, j < xs.length → ∃ g o, pa = some ⟨g, o, none⟩ ∧ ∀ m, RdN (m ++ St j) g o (xs.flatMap encW))
 (hy : ∀ j x, j < xs.length → xs[xs.length - 1 - j]? = some x → Yc prog E k [Value.int .i64 ((xs.length : Int) - 1 - j), .agg (encW x).toArray].toArray (row b 171 [.slice pa xs.length pc] :: St j)
   (fun v l' => (v = .bool true ∧ l' = row b 171 [.slice pa xs.length pc] :: St (j + 1)) ∨ (v = .bool false ∧ l' = row b 171 [.slice pa xs.length pc] :: Fin j))) :
 Fc prog E 195 [.func (.yield k) #[] #[], Value.pointer (some ⟨b, 0, none⟩)].toArray (row b 171 [.slice pa xs.length pc] :: St 0)
  (fun _ l' => l' = row b 171 [.slice pa xs.length pc] :: St xs.length ∨ ∃ j, j < xs.length ∧ l' = row b 171 [.slice pa xs.length pc] :: Fin j) := by
 refine Va (c := ?codeC) Tryz.func195 ?hb Tryz.ntmps195 ?hl ?_
 case hb => exact rfl
 case hl => exact rfl
 refine Jh (Je ?_)
 refine Jb (Jo hT U U U zrd) U U U ?_
 refine Jb (Vf hT U U U) U U U ?_
 refine Jb (y_sub U U zwr) U U U ?_
 refine Jb (Jf rfl) U U U ?_
 refine Jg (Ja (Ve ?_))
 refine Wn (α := Nat) (fun j => j ≤ xs.length) (fun j => [(0, .func (.yield k) #[] #[]), (1, .pointer (some ⟨b, 0, none⟩)), (3, .int .i64 ((xs.length : Int) - 1 - j))]) (fun j => row b 171 [.slice pa xs.length pc] :: St j) (fun j => xs.length - j) 0 (by omega) ⟨rfl, rfl, (congrArg (fun z => some (Value.int .i64 z)) (by first | omega | (dsimp only; omega))), trivial⟩ (fun w h => h) ?_
 intro j hj
 refine Jh (Jh (Je (Jb (Jd rfl) U U U (Jb (y_geq U U) U U U ?_))))
 refine Jg (Ja ?_)
 first | apply Jx rfl | apply Vo rfl
 case' ht =>
  intro h
  try (first | exact zom | exact zho h | subst h)
  all_goals
   refine Vd ?_
 case' hf =>
  intro h
  try (first | exact zom | exact zho h | subst h)
  all_goals
   refine Wl (Jv (Jv (Vl ?_)))
   refine JE.ret0 (.inr rfl) U U  ?_
   first
   | exact .inr ⟨j, hlt, rfl⟩
   | (obtain rfl : j = xs.length := by omega
      exact .inl rfl)
 all_goals refine Ja ?_
 all_goals
  refine Jh (Ve (Jh (Je (Jb (Jd rfl) U U U (Jb (Jd rfl) U U U ?_)))))
  refine Jb (Jo hT U U U zrd) U U U ?_
  refine Jb (Jd rfl) U U U ?_
  have hlt : j < xs.length := by omega
  obtain ⟨g, o, rfl, hr⟩ := hrd j hlt
  obtain ⟨x, hx⟩ : ∃ x, xs[xs.length - 1 - j]? = some x := ⟨_, List.getElem?_eq_getElem (by omega)⟩
  have hxl := hxs x (List.mem_of_getElem? hx)
  refine Jb (Jn hT U U U U U zix zix) U U U ?_
  refine Jb (We hT U U U (vs := encW x) (by
   have h1 := (hr [row b 171 [.slice (some ⟨g, o, none⟩) xs.length pc]]).elem hxs hx
   have e1 : ((xs.length : Int) - 1 - (j : Int)).toNat = xs.length - 1 - j := by omega
   rw [e1]; exact h1) hxl) U U U ?_
  refine JL.yield U U U (hy j x hlt hx) ?_
  rintro _ _ (⟨rfl, rfl⟩ | ⟨rfl, rfl⟩)
  all_goals (refine Jb (y_not rfl) U U U ?_)
  all_goals refine Jg (Ja ?_)
  all_goals
   first | apply Jx rfl | apply Vo rfl
   case' ht =>
    intro h
    try (first | exact zom | exact zho h | subst h)
    all_goals
     refine Vn (Vj (Vb (Vb (Vj ?_))))
     refine JE.ret0 (.inl rfl) U U  ?_
     first
     | exact .inr ⟨j, hlt, rfl⟩
     | (obtain rfl : j = xs.length := by omega
        exact .inl rfl)
   case' hf =>
    intro h
    try (first | exact zom | exact zho h | subst h)
    all_goals
     refine Vd ?_
  all_goals refine Ju (Ja ?_)
  all_goals
   refine Je (Jb (Jd rfl) U U U ?_)
   refine Jb (y_sub U U zwr) U U U ?_
   refine Jb (Jf rfl) U U U ?_
   refine Jg ?_
 all_goals
  refine Vt (s := j) (j + 1) (by omega) ⟨rfl, rfl, (congrArg (fun z => some (Value.int .i64 z)) (by first | omega | (dsimp only; omega))), trivial⟩ (fun w h => h) (by omega)
def zeroB : Blk := List.replicate 64 0
theorem encB_zero : encB zeroB = List.replicate 64 (Value.int .u8 0) := by simp [encB, ints, zeroB]
def Dk.find (D : Dk) (i : Int) : Blk := match D.pending.reverse.find? (fun p => p.1 = i) with
 | some p => p.2
 | none => D.safe.getD i.toNat []
def Dk.read (D : Dk) (i : Int) : Blk := if D.ready i = 0 then D.find i else zeroB
def Other (D : Dk) (i : Int) (j : Nat) : Prop := ∀ q, D.pending.length - j ≤ q → ∀ p, D.pending[q]? = some p → p.1 ≠ i
theorem find_none {D : Dk} {i : Int} (h : Other D i D.pending.length) : D.find i = D.safe.getD i.toNat [] := by
 have e : D.pending.reverse.find? (fun p => p.1 = i) = none := by
  rw [List.find?_eq_none]
  intro p hp
  obtain ⟨q, hq⟩ := List.mem_iff_getElem?.1 (List.mem_reverse.1 hp)
  simpa using h q (by omega) p hq
 simp [Dk.find, e]
theorem find_some {D : Dk} {i : Int} {j : Nat} {x : Int × Blk} (hj : j < D.pending.length) (h : Other D i j) (hx : D.pending[D.pending.length - 1 - j]? = some x) (hi : x.1 = i) : D.find i = x.2 := by
 have e : D.pending.reverse.find? (fun p => p.1 = i) = some x := by
  rw [List.find?_eq_some_iff_getElem]
  have hl : D.pending.length - 1 - j < D.pending.length := by omega
  rw [List.getElem?_eq_getElem hl] at hx
  refine ⟨by simpa using hi, j, by simpa using hj, ?_, fun q hq => ?_⟩
  · rw [List.getElem_reverse]; exact Option.some.inj hx
  · rw [List.getElem_reverse]
    simpa using h (D.pending.length - 1 - q) (by omega) _ (List.getElem?_eq_getElem (by omega))
 simp [Dk.find, e]
theorem Other.next {D : Dk} {i : Int} {j : Nat} {x : Int × Blk} (h : Other D i j) (hx : D.pending[D.pending.length - 1 - j]? = some x) (hi : ¬ x.1 = i) : Other D i (j + 1) := by
 intro q hq p hp
 by_cases hqe : q = D.pending.length - 1 - j
 · subst hqe; rw [hx] at hp; cases hp; exact hi
 · exact h q (by omega) p hp
theorem Dk.Ok.find {D : Dk} (h : D.Ok) {i : Int} (hi : 0 ≤ i ∧ i < D.safe.length) : (D.find i).length = 64 := by
 unfold Dk.find
 split
 · rename_i p hp
   have := List.mem_of_find?_eq_some hp
   exact (h.pend p (List.mem_reverse.1 this)).1
 · rw [List.getD_eq_getElem?_getD, List.getElem?_eq_getElem (by omega)]
   exact h.safe _ (List.getElem_mem _)
theorem read_bad (d : Nat) (D : Dk) (i : Int) (r : List HProp) (hr : ¬ D.ready i = 0) :
 Fc prog E 135 [Value.pointer (some ⟨d, 0, none⟩), .int .i64 i].toArray (disk d D :: r) (fun v l' => v = .tuple #[.agg (encB zeroB).toArray, .int .i64 (D.ready i)] ∧ l' = disk d D :: r) := by
 refine Fc.eqs ?_
 rw [encB_zero]
 have hr' : decide (¬ D.ready i = 0) = true := by simp [hr]
 refine Fc.of_bodyM (c := ?codeC) Tryz.func135 ?hb Tryz.ntmps135 ?hl ?_
 case hb => exact rfl
 case hl => exact rfl
 refine Jh (Je ?_)
 refine Jl rfl (l_box rfl zcl rfl (fun b1 => ?_))
 refine Jl rfl (Wf hT U U zcl rfl (fun b2 => ?_))
 refine Jl rfl (Wf hT U U zcl rfl (fun b3 => ?_))
 refine Jg (Ja (Jh (Jh (Je (Jb (Jd rfl) U U U ?_)))))
 refine Jb (Jo hT U U U zrd) U U U ?_
 refine Jl rfl (Jw e94 U U ((ready_spec E d D i _).split (Ji zpk Jj)) ?_)
 rintro _ _ ⟨rfl, rfl⟩
 refine Jb (Jf rfl) U U U ?_
 refine Jg (Ja (Jh (Je (Jb (Jd rfl) U U U (Jb (y_neq U U) U U U ?_)))))
 refine Jg (Ja ?_)
 refine J.cond_t rfl zbl ?_
 refine Jh (Je (Jb (y_build_arr0 hT U U U U) U U U (Jb (Jd rfl) U U U ?_)))
 refine Jl rfl (Vx hT U U U zln zoc zpk zln ?_)
 refine Jl rfl (Vs hT U U U U U zpk zix ?_)
 refine Jg (Ja (Vn (Vb ?_)))
 first | refine JE.unmark (.inl rfl) rfl zpk ?_ | refine JE.nomark (.inl rfl) rfl ?_
 refine JE.ret2 (.inl rfl) U U zrv zrv ?_
 refine ⟨rfl, fun w q => ?_⟩
 exact (q.drop.drop.pick (Jz Jm)).drop
def readS (D : Dk) (i : Int) (K : LoopState → Option Code → HProp) (DD d b1 b2 b3 : Nat) (sa : Option Addr) (sc : Nat) (pa : Option Addr) (pc : Nat) (r : List HProp) (j : Nat) : List HProp :=
 pur (Other D i j) :: K .ready none :: blk DD (.deferred (some [])) :: own 238 65 (.slice pa D.pending.length pc) D.pending.length (D.pending.flatMap encW) :: own 202 64 (.slice sa D.safe.length sc) D.safe.length (D.safe.flatMap encB) :: row d 173 (dcells D sa sc pa pc) :: row b3 31 [.int .i64 0] :: row b2 202 (List.replicate 64 (.int .u8 0)) :: row b1 3 [.int .i64 i] :: r
def readF (D : Dk) (i : Int) (K : LoopState → Option Code → HProp) (DD d b1 b2 b3 : Nat) (sa : Option Addr) (sc : Nat) (pa : Option Addr) (pc : Nat) (r : List HProp) (_ : Nat) : List HProp :=
 K .done (some .ret) :: blk DD (.deferred (some [])) :: own 238 65 (.slice pa D.pending.length pc) D.pending.length (D.pending.flatMap encW) :: own 202 64 (.slice sa D.safe.length sc) D.safe.length (D.safe.flatMap encB) :: row d 173 (dcells D sa sc pa pc) :: row b3 31 [.int .i64 0] :: row b2 202 (encB (D.find i)) :: row b1 3 [.int .i64 i] :: r
theorem read_good (d : Nat) (D : Dk) (i : Int) (r : List HProp) (hr : D.ready i = 0) (hpn : D.pending.length ≤ 1000000) :
 Fc prog E 135 [Value.pointer (some ⟨d, 0, none⟩), .int .i64 i].toArray (disk d D :: r) (fun v l' => v = .tuple #[.agg (encB (D.find i)).toArray, .int .i64 0] ∧ l' = disk d D :: r) := by
 refine disk_okd fun hok0 => Fc.eqs ?_
 have hz := ready_zero hr
 have hr' : decide (¬ D.ready i = 0) = false := by simp [hr]
 refine Fc.of_bodyM (c := ?codeC) Tryz.func135 ?hb Tryz.ntmps135 ?hl ?_
 case hb => exact rfl
 case hl => exact rfl
 refine Jh (Je ?_)
 refine Jl rfl (l_box rfl zcl rfl (fun b1 => ?_))
 refine Jl rfl (Wf hT U U zcl rfl (fun b2 => ?_))
 refine Jl rfl (Wf hT U U zcl rfl (fun b3 => ?_))
 refine Jg (Ja (Jh (Jh (Je (Jb (Jd rfl) U U U ?_)))))
 refine Jb (Jo hT U U U zrd) U U U ?_
 refine Jl rfl (Jw e94 U U ((ready_spec E d D i _).split (Ji zpk Jj)) ?_)
 rintro _ _ ⟨rfl, rfl⟩
 refine Jb (Jf rfl) U U U ?_
 refine Jg (Ja (Jh (Je (Jb (Jd rfl) U U U (Jb (y_neq U U) U U U ?_)))))
 refine Jg (Ja ?_)
 refine Vk rfl zbl ?_
 refine Vd (Ja (Jh (Jh ?_)))
 refine J.disk fun sa sc pa pc hok => ?_
 refine J.picks (Jz Jm) (J.own_addr fun gs hgs hsc => ?_)
 obtain rfl := hgs hok.some
 refine J.picks (Jz (Jz Jm)) (J.own_addr fun gp hgp hpc => ?_)
 refine Je (Jb (Jd rfl) U U U ?_)
 refine Jb znc U U U ?_
 refine Jb (Jk hT U U U U U U) U U U ?_
 refine Jb (Jo hT U U U zrd) U U U ?_
 refine Jl rfl (Jw e175 U U (backward_spec E _ _ rfl) ?_)
 rintro _ _ ⟨bb, rfl, rfl⟩
 refine Jg (Ja (Ve ?_))
 refine J.rangeFunc e195 rfl fun fn a0 k DD K hK hf0 => ?_
 refine Fc.mono (Fc.imp (backward1_spec E k bb pa pc D.pending hok.segW hpn (readS D i K DD d b1 b2 b3 (some ⟨gs, 0, none⟩) sc pa pc r) (readF D i K DD d b1 b2 b3 (some ⟨gs, 0, none⟩) sc pa pc r) (fun j hj => ?hrd) (fun j x hj hx => ?hy)) ?hi) ?hm
 case hrd => exact ⟨gp, 0, hgp (by omega), fun m => by unfold readS; rw [hgp (by omega)]; exact RdN.own (Vp m zpk)⟩
 case hi =>
  intro w s
  have s2 := s.divide (p := [row bb 171 [.slice pa D.pending.length pc], K .ready none]) (Ji zpk (Ji zpk Jj))
  exact ((s2.topur (p := Other D i 0) (fun q hq p hp => by simp [List.getElem?_eq_none (by omega : D.pending.length ≤ q)] at hp)).pick (Jz Jm))
 case hy =>
  unfold readS
  refine Yc.split (Yc.purs fun hO => ?_) (Ji (Jz Jm) (Ji (Jz Jm) Jj))
  refine Yc.post ?_
  have hxl := hok.segW x (List.mem_of_getElem? hx)
  refine Yc.of_body hK hf0 rfl (by decide) ?_
  refine Je ?_
  refine Jl rfl (Wf hT U U zcl rfl (fun b6 => ?_))
  refine Jl rfl (Vx hT U U U zln zoc zpk zln ?_)
  refine Jg ?_
  refine JE.assigned zpk ?_
  refine Ve (Jh (Je (Jb (Jk hT U U U U U U) U U U ?_)))
  refine Jb (Jo hT U U U zrd) U U U ?_
  refine Jb (Jo hT U U U zrd) U U U ?_
  refine Jb (y_eql U U) U U U ?_
  refine Jg (Ja ?_)
  first | apply Jx rfl | apply Vo rfl
  case' ht =>
   intro h
   try (first | exact zom | exact zho h | subst h)
   all_goals
    refine Jh (Je (Jb (Jk hT U U U U U U) U U U ?_))
    refine Jb (We hT U U U (RdN.row (n := 64) (vs := encB x.2) zpk (by simp [encW, List.take_of_length_le, (hok.pend x (List.mem_of_getElem? hx)).1])) ((encB_length _).trans (hok.pend x (List.mem_of_getElem? hx)).1)) U U U ?_
    have hxb : (encB x.2).length = 64 := (encB_length _).trans (hok.pend x (List.mem_of_getElem? hx)).1
    refine Jl rfl (Vx hT U U U zln zoc zpk zln ?_)
    refine Jl rfl (Vs hT U U U U U zpk zix ?_)
    refine Jg (Ja (Vn (Vj ?_)))
    refine JE.round_ret hK zpk ?_
    refine ⟨_, fun w q => ?_, .inr ⟨rfl, rfl⟩⟩
    have hfind := find_some hj hO hx rfl
    unfold readF
    rw [hfind]
    exact q.sup zsup
  case' hf =>
   intro h
   try (first | exact zom | exact zho h | subst h)
   all_goals
    refine Vd ?_
  all_goals refine Ju ?_
  all_goals
   refine JE.round_on hK zpk ?_
   refine ⟨_, fun w q => ?_, .inl ⟨rfl, rfl⟩⟩
   exact (q.topur (hO.next hx h)).sup zsup
 case hm =>
  rintro _ _ (rfl | ⟨j, hj, rfl⟩)
  · refine ⟨.ready, none, _, Jz (Jz Jm), by simp, ?_⟩
    dsimp only
    refine JE.picks (Jz Jm) (JE.purs fun hO => ?_)
    have hfind := find_none hO
    obtain ⟨x, hsi⟩ : ∃ x, D.safe[i.toNat]? = some x := ⟨_, List.getElem?_eq_getElem (by omega)⟩
    have hfx : D.find i = x := by rw [hfind]; simp [List.getD_eq_getElem?_getD, hsi]
    have hBl : (encB x).length = 64 := by rw [encB_length]; exact hok.safe _ (List.mem_of_getElem? hsi)
    rw [hfx]
    refine Ju (Ja (Jh ?_))
    refine Vz _ _ [(0, .q), (1, .q), (2, .q), (3, .q), (4, .q), (5, .q), (6, .q), (7, .l), (8, .l)] mixed (by kernel_rfl) (Ji (Jz (Jz (Jz (Jz (Jz (Jz Jm)))))) (Ji (Jz (Jz (Jz (Jz (Jz Jm))))) (Jj))) ?_
    refine zqm U U U U U ?_
    refine Jc U U U U (fun m => znc) ?_
    refine Jc U U U U (fun m => Jk hT U U U U U U) ?_
    refine Jc U U U U (fun m => Jo hT U U U zrda) ?_
    refine Jc U U U U (fun m => Jo hT U U U zrda) ?_
    refine Jc U U U U (fun m => Jn hT U U U U U zix zix) ?_
    refine Jc U U U U (fun m => We hT U U U ((RdN.own (Vp m zpk)).elem hok.segB hsi) hBl) ?_
    refine Vm U U (fun fr => Vx hT U U U zln zoc zpk zln (⟨[_, _], (by (repeat (first | exact Jj | exact Vc | refine Ji Jm ?_))), ?_⟩))
    refine Vm U U (fun fr => Vs hT U U U U U zpk zix (⟨[_, _], (by (repeat (first | exact Jj | exact Vc | refine Ji Jm ?_))), ?_⟩))
    refine Vv (Ja (Vn ?_))
    first | refine JE.unmark (.inl rfl) rfl zpk ?_ | refine JE.nomark (.inl rfl) rfl ?_
    refine JE.ret2 (.inl rfl) U U zrv zrv ?_
    exact ⟨rfl, fun w q => disk_shut hok (q.sup zsup)⟩
  · refine ⟨.done, some .ret, _, Jz Jm, by simp, ?_⟩
    have hBl : (encB (D.find i)).length = 64 := by rw [encB_length]; exact hok.find hz.2
    dsimp only
    refine Vn (Vj (Vb ?_))
    first | refine JE.unmark (.inl rfl) rfl zpk ?_ | refine JE.nomark (.inl rfl) rfl ?_
    refine JE.ret2 (.inl rfl) U U zrv zrv ?_
    exact ⟨rfl, fun w q => disk_shut hok (q.sup zsup)⟩
end
section
open Go Go.SL
attribute [local irreducible] J JL JE JM LS Y Fc RV Code.wp wpList Code.wpIn wpListIn
attribute [local irreducible] Yc
variable (E : World)
theorem read_spec (d : Nat) (D : Dk) (i : Int) (r : List HProp) (hpn : D.pending.length ≤ 1000000) :
 Fc prog E 135 [Value.pointer (some ⟨d, 0, none⟩), .int .i64 i].toArray (disk d D :: r) (fun v l' => v = .tuple #[.agg (encB (D.read i)).toArray, .int .i64 (D.ready i)] ∧ l' = disk d D :: r) := by
 by_cases h : D.ready i = 0
 · simpa only [Dk.read, h, if_true] using read_good E d D i r h hpn
 · simpa only [Dk.read, h, if_false] using read_bad E d D i r h
def Dk.new (n : Nat) : Dk := ⟨List.replicate n zeroB, [], false, false, 0, 0⟩
theorem Dk.new_ok {n : Nat} (h1 : 1 ≤ n) (h2 : n ≤ 512) : (Dk.new n).Ok :=
 ⟨fun b hb => by rw [List.eq_of_mem_replicate hb]; rfl, fun p hp => by simp [Dk.new] at hp, by simpa [Dk.new] using h1, by simpa [Dk.new] using h2, by simp [Dk.new]⟩
theorem new_good (n : Nat) (r : List HProp) (h1 : 1 ≤ n) (h2 : n ≤ 512) :
 Fc prog E 46 [.int .i64 (n : Int)].toArray r (fun v l' => ∃ d, v = .tuple #[.pointer (some ⟨d, 0, none⟩), .int .i64 0] ∧ l' = disk d (Dk.new n) :: r) := by
 refine Wg ?_
 have e1 : decide ((n : Int) < 1) = false := by simp; omega
 have e2 : decide (512 < (n : Int)) = false := by simp; omega
 refine Va (c := ?codeC) Tryz.func46 ?hb Tryz.ntmps46 ?hl ?_
 case hb => exact rfl
 case hl => exact rfl
 refine Jh (Je (Jb (Jf rfl) U U U (Jb (Jf rfl) U U U ?_)))
 refine Jg (Ja (Jh (Jh (Je (Jb (Jd rfl) U U U (Jb (y_lss U U) U U U (Jb (Jd rfl) U U U ?_)))))))
 all_goals (first | (refine Vh U U U (fun h => ?_) (fun h => ?_) <;> try (first | (exfalso; omega) | exact absurd rfl h)) | (refine Vr U U U (fun h => ?_) (fun h => ?_) <;> try (first | cases h | (exfalso; simp at h; done))) | skip)
 all_goals (first | refine Js U U U U U U ?_ | refine Jp U U U U U ?_ | refine Jt U U U (Jd rfl) U U ?_)
 all_goals (first | refine Js U U U U U U ?_ | refine Jp U U U U U ?_ | refine Jt U U U (y_gtr U U) U U ?_)
 all_goals (refine Jb (Wb U U U) U U U ?_)
 all_goals refine Jg (Ja ?_)
 all_goals
  refine Vk rfl zbl ?_
  refine Vd ?_
 all_goals refine Ja ?_
 all_goals
  refine Jh (Je (Jb (Jd rfl) U U U ?_))
  refine Jl rfl (l_makeSlice hT U U U U U U zix zix (mk_fits rfl zix zix) zix rfl (fun b1 => ?_))
  refine Jb (y_build (cs := [_, _, _, _, _, _]) hT U U U U U U ⟨⟨zln, Nat.le_of_ble_eq_true rfl⟩, trivial⟩ rfl) U U U ?_
  refine Jl rfl (l_box rfl zcl rfl (fun b2 => ?_))
  refine Jb (Jf rfl) U U U (Jb (Jf rfl) U U U ?_)
  refine Jg (Ja (Vn ?_))
  refine JE.ret2 (.inl rfl) U U zrv zrv ?_
  refine ⟨_, fun w q => ?_, b2, rfl, rfl⟩
  refine disk_shut (sa := some ⟨b1, 0, none⟩) (sc := n) (pa := none) (pc := 0) (Dk.new_ok h1 h2) ?_
  have e1 : (madeCells (Value.agg (List.replicate 64 (Value.int .u8 0)).toArray).cells ((n : Int).toNat * i202.size)).toList = (Dk.new n).safe.flatMap encB := by
   rw [Dk.new]
   dsimp only
   rw [flatMap_rep encB zeroB _ encB_zero n]
   exact madeCells_rep _ (by omega) _
  rw [e1] at q
  have hl := seg_len (k := 64) (Dk.new_ok h1 h2).segB
  have q1 := (q.pick (Jz Jm)).ownAll (m := n) (size := 64) (by unfold maxLen; omega) (by rw [hl]; simp [Dk.new])
  have q2 := (q1.own_nil (e := 238) (size := 65)).sup (p := [row b2 173 _, own 202 64 _ _ _, own 238 65 _ _ _] ++ r) zsup
  simpa [dcells, Dk.new] using q2
end
section
open Go.SL
theorem own_ : ownKnob Tryz.prog.godebug = none := by kernel_rfl
theorem laidOut_ : laidOutB Tryz.prog = true := by kernel_rfl
section
variable {H : Type}
theorem bulk_pos (d : DataW H) : 1 ≤ Rows.uptoBulk d := by
 cases d with
 | lit l => cases l <;> simp [Rows.uptoBulk]
 | _ => simp [Rows.uptoBulk]
theorem bulk_part {d : DataW H} : ∀ {l : List (DataW H)}, d ∈ l → Rows.uptoBulk d ≤ Rows.uptoBulkAll l
 | x :: r, h => by
   simp only [Rows.uptoBulkAll]
   rcases List.mem_cons.1 h with rfl | h
   · omega
   · have := bulk_part h; omega
theorem bulk_len : ∀ (l : List (DataW H)), l.length ≤ Rows.uptoBulkAll l
 | [] => by simp
 | x :: r => by have h1 := bulk_pos x; have h2 := bulk_len r; simp only [Rows.uptoBulkAll, List.length_cons]; omega
def upOk (d : DataW H) : Prop := Rows.uptoBulk d ≤ 1048576
theorem upHer : Her (upOk (H := H)) (fun n => n ≤ 1048576) where
 slice es sp h := by
  simp only [upOk, Rows.uptoBulk] at h
  have h1 := bulk_len es
  refine ⟨by omega, fun d hd => ?_⟩
  rcases List.mem_append.1 hd with hd | hd
  · have := bulk_part hd; simp only [upOk]; omega
  · have := bulk_part hd; simp only [upOk]; omega
 nil := by omega
 agg ps h d hd := by
  simp only [upOk, Rows.uptoBulk] at h ⊢
  have := bulk_part hd
  omega
 str bs h := by
  simp only [upOk, Rows.uptoBulk] at h
  omega
theorem upOk_of {l : List (DataW H)} (hk : Rows.uptoSmall H l = true) : ∀ d ∈ l, upOk d := fun d hd => by
 have h : Rows.uptoBulkAll l ≤ 1048576 := of_decide_eq_true hk
 have := bulk_part hd
 simp only [upOk]
 omega
end
end
end Go.Proofs.YtaopifoidbdniaaGreat
