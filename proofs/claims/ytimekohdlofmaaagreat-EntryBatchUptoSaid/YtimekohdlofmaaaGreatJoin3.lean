import Derived.Test.YtimekohdlofmaaaGreatProg
import Derived.KernelRfl
import Derived.Test.YtimekohdlofmaaaGreatRows
import Derived.Test.YtimekohdlofmaaaGreatJoin1
import Derived.Test.YtimekohdlofmaaaGreatJoin2
namespace Go.Proofs.YtimekohdlofmaaaGreat
open Go Go.SL
noncomputable abbrev prog : Program := Tryz.prog
/-- Follows: the orders mixed. -/
theorem mixed : prog.follows .mixedOrders = true := by kernel_rfl
def i3 : TI := ⟨.int .i64, 1, 8, some (Value.int .i64 0)⟩
theorem u3 : prog.underlying 3 = some i3.u := by kernel_rfl
theorem z3 : (prog.info? 3).map (fun j => (j.size, j.bytes, j.zero)) = some (i3.size, i3.bytes, i3.zero) := by kernel_rfl
def i22 : TI := ⟨.slice 5, 1, 24, some (Value.slice none 0 0)⟩
theorem u22 : prog.underlying 22 = some i22.u := by kernel_rfl
theorem z22 : (prog.info? 22).map (fun j => (j.size, j.bytes, j.zero)) = some (i22.size, i22.bytes, i22.zero) := by kernel_rfl
def i9 : TI := ⟨.string, 1, 16, some (Value.string ByteArray.empty)⟩
theorem u9 : prog.underlying 9 = some i9.u := by kernel_rfl
theorem z9 : (prog.info? 9).map (fun j => (j.size, j.bytes, j.zero)) = some (i9.size, i9.bytes, i9.zero) := by kernel_rfl
def i27 : TI := ⟨.int .i64, 1, 8, some (Value.int .i64 0)⟩
theorem u27 : prog.underlying 27 = some i27.u := by kernel_rfl
theorem z27 : (prog.info? 27).map (fun j => (j.size, j.bytes, j.zero)) = some (i27.size, i27.bytes, i27.zero) := by kernel_rfl
def i30 : TI := ⟨.int .u64, 1, 8, some (Value.int .u64 0)⟩
theorem u30 : prog.underlying 30 = some i30.u := by kernel_rfl
theorem z30 : (prog.info? 30).map (fun j => (j.size, j.bytes, j.zero)) = some (i30.size, i30.bytes, i30.zero) := by kernel_rfl
def i68 : TI := ⟨.struct #[⟨ "Last", 30, 0, false, "", "", 0⟩, ⟨ "Phase", 3, 1, false, "", "", 8⟩, ⟨ "Hops", 3, 2, false, "", "", 16⟩, ⟨ "Got", 48, 3, false, "", "", 24⟩], 4, 48, some (.agg (([Value.int .u64 0] ++ [Value.int .i64 0] ++ [Value.int .i64 0] ++ [Value.slice none 0 0])).toArray)⟩
theorem u68 : prog.underlying 68 = some i68.u := by kernel_rfl
theorem z68 : (prog.info? 68).map (fun j => (j.size, j.bytes, j.zero)) = some (i68.size, i68.bytes, i68.zero) := by kernel_rfl
def i82 : TI := ⟨.slice 9, 1, 24, some (Value.slice none 0 0)⟩
theorem u82 : prog.underlying 82 = some i82.u := by kernel_rfl
theorem z82 : (prog.info? 82).map (fun j => (j.size, j.bytes, j.zero)) = some (i82.size, i82.bytes, i82.zero) := by kernel_rfl
def i143 : TI := ⟨.slice 3, 1, 24, some (Value.slice none 0 0)⟩
theorem u143 : prog.underlying 143 = some i143.u := by kernel_rfl
theorem z143 : (prog.info? 143).map (fun j => (j.size, j.bytes, j.zero)) = some (i143.size, i143.bytes, i143.zero) := by kernel_rfl
def i208 : TI := ⟨.int .u32, 1, 4, some (Value.int .u32 0)⟩
theorem u208 : prog.underlying 208 = some i208.u := by kernel_rfl
theorem z208 : (prog.info? 208).map (fun j => (j.size, j.bytes, j.zero)) = some (i208.size, i208.bytes, i208.zero) := by kernel_rfl
def i5 : TI := ⟨.int .u8, 1, 1, some (Value.int .u8 0)⟩
theorem u5 : prog.underlying 5 = some i5.u := by kernel_rfl
theorem z5 : (prog.info? 5).map (fun j => (j.size, j.bytes, j.zero)) = some (i5.size, i5.bytes, i5.zero) := by kernel_rfl
def i54 : TI := ⟨.struct #[⟨ "Client", 3, 0, false, "", "", 0⟩, ⟨ "Slot", 3, 1, false, "", "", 8⟩, ⟨ "Round", 30, 2, false, "", "", 16⟩, ⟨ "Onion", 22, 3, false, "", "", 24⟩], 4, 48, some (.agg (([Value.int .i64 0] ++ [Value.int .i64 0] ++ [Value.int .u64 0] ++ [Value.slice none 0 0])).toArray)⟩
theorem u54 : prog.underlying 54 = some i54.u := by kernel_rfl
theorem z54 : (prog.info? 54).map (fun j => (j.size, j.bytes, j.zero)) = some (i54.size, i54.bytes, i54.zero) := by kernel_rfl
def i221 : TI := ⟨.array 64 5, 64, 64, some (.agg (List.replicate 64 (Value.int .u8 0)).toArray)⟩
theorem u221 : prog.underlying 221 = some i221.u := by kernel_rfl
theorem z221 : (prog.info? 221).map (fun j => (j.size, j.bytes, j.zero)) = some (i221.size, i221.bytes, i221.zero) := by kernel_rfl
def i37 : TI := ⟨.slice 22, 1, 24, some (Value.slice none 0 0)⟩
theorem u37 : prog.underlying 37 = some i37.u := by kernel_rfl
theorem z37 : (prog.info? 37).map (fun j => (j.size, j.bytes, j.zero)) = some (i37.size, i37.bytes, i37.zero) := by kernel_rfl
def i88 : TI := ⟨.pointer 171, 1, 8, some (Value.pointer none)⟩
theorem u88 : prog.underlying 88 = some i88.u := by kernel_rfl
theorem z88 : (prog.info? 88).map (fun j => (j.size, j.bytes, j.zero)) = some (i88.size, i88.bytes, i88.zero) := by kernel_rfl
def i101 : TI := ⟨.struct #[⟨ "Rows", 3, 0, false, "", "", 0⟩, ⟨ "Key", 3, 1, false, "", "", 8⟩, ⟨ "Value", 3, 2, false, "", "", 16⟩], 3, 24, some (.agg (([Value.int .i64 0] ++ [Value.int .i64 0] ++ [Value.int .i64 0])).toArray)⟩
theorem u101 : prog.underlying 101 = some i101.u := by kernel_rfl
theorem z101 : (prog.info? 101).map (fun j => (j.size, j.bytes, j.zero)) = some (i101.size, i101.bytes, i101.zero) := by kernel_rfl
def i218 : TI := ⟨.struct #[⟨ "place", 3, 0, false, "", "hollowtree/extent", 0⟩, ⟨ "turn", 30, 1, false, "", "hollowtree/extent", 8⟩, ⟨ "size", 3, 2, false, "", "hollowtree/extent", 16⟩, ⟨ "hash", 215, 3, false, "", "hollowtree/extent", 24⟩], 19, 40, some (.agg (([Value.int .i64 0] ++ [Value.int .u64 0] ++ [Value.int .i64 0] ++ List.replicate 16 (Value.int .u8 0))).toArray)⟩
theorem u218 : prog.underlying 218 = some i218.u := by kernel_rfl
theorem z218 : (prog.info? 218).map (fun j => (j.size, j.bytes, j.zero)) = some (i218.size, i218.bytes, i218.zero) := by kernel_rfl
def i91 : TI := ⟨.slice 101, 1, 24, some (Value.slice none 0 0)⟩
theorem u91 : prog.underlying 91 = some i91.u := by kernel_rfl
theorem z91 : (prog.info? 91).map (fun j => (j.size, j.bytes, j.zero)) = some (i91.size, i91.bytes, i91.zero) := by kernel_rfl
def i4 : TI := ⟨.bool, 1, 1, some (Value.bool false)⟩
theorem u4 : prog.underlying 4 = some i4.u := by kernel_rfl
theorem z4 : (prog.info? 4).map (fun j => (j.size, j.bytes, j.zero)) = some (i4.size, i4.bytes, i4.zero) := by kernel_rfl
def i191 : TI := ⟨.slice 189, 1, 24, some (Value.slice none 0 0)⟩
theorem u191 : prog.underlying 191 = some i191.u := by kernel_rfl
theorem z191 : (prog.info? 191).map (fun j => (j.size, j.bytes, j.zero)) = some (i191.size, i191.bytes, i191.zero) := by kernel_rfl
def i198 : TI := ⟨.struct #[⟨ "Store", 129, 0, true, "", "", 0⟩, ⟨ "snapshot", 22, 1, false, "", "hollowtree/wal", 8⟩, ⟨ "txs", 37, 2, false, "", "hollowtree/wal", 32⟩, ⟨ "used", 3, 3, false, "", "hollowtree/wal", 56⟩, ⟨ "broken", 4, 4, false, "", "hollowtree/wal", 64⟩], 5, 72, some (.agg (([Value.pointer none] ++ [Value.slice none 0 0] ++ [Value.slice none 0 0] ++ [Value.int .i64 0] ++ [Value.bool false])).toArray)⟩
theorem u198 : prog.underlying 198 = some i198.u := by kernel_rfl
theorem z198 : (prog.info? 198).map (fun j => (j.size, j.bytes, j.zero)) = some (i198.size, i198.bytes, i198.zero) := by kernel_rfl
def i136 : TI := ⟨.struct #[⟨ "log", 85, 0, false, "", "hollowtree/entry", 0⟩, ⟨ "broken", 4, 1, false, "", "hollowtree/entry", 8⟩, ⟨ "last", 30, 2, false, "", "hollowtree/entry", 16⟩, ⟨ "phase", 3, 3, false, "", "hollowtree/entry", 24⟩, ⟨ "hops", 3, 4, false, "", "hollowtree/entry", 32⟩, ⟨ "got", 134, 5, false, "", "hollowtree/entry", 40⟩], 6, 48, some (.agg (([Value.pointer none] ++ [Value.bool false] ++ [Value.int .u64 0] ++ [Value.int .i64 0] ++ [Value.int .i64 0] ++ [Value.map none])).toArray)⟩
theorem u136 : prog.underlying 136 = some i136.u := by kernel_rfl
theorem z136 : (prog.info? 136).map (fun j => (j.size, j.bytes, j.zero)) = some (i136.size, i136.bytes, i136.zero) := by kernel_rfl
def i114 : TI := ⟨.struct #[⟨ "Tables", 112, 0, false, "", "", 0⟩], 1, 24, some (.agg (([Value.slice none 0 0])).toArray)⟩
theorem u114 : prog.underlying 114 = some i114.u := by kernel_rfl
theorem z114 : (prog.info? 114).map (fun j => (j.size, j.bytes, j.zero)) = some (i114.size, i114.bytes, i114.zero) := by kernel_rfl
def i171 : TI := ⟨.struct #[⟨ "log", 85, 0, false, "", "hollowtree/table", 0⟩, ⟨ "shapes", 91, 1, false, "", "hollowtree/table", 8⟩, ⟨ "kept", 168, 2, false, "", "hollowtree/table", 32⟩, ⟨ "meant", 168, 3, false, "", "hollowtree/table", 56⟩, ⟨ "turned", 169, 4, false, "", "hollowtree/table", 80⟩], 5, 104, some (.agg (([Value.pointer none] ++ [Value.slice none 0 0] ++ [Value.slice none 0 0] ++ [Value.slice none 0 0] ++ [Value.slice none 0 0])).toArray)⟩
theorem u171 : prog.underlying 171 = some i171.u := by kernel_rfl
theorem z171 : (prog.info? 171).map (fun j => (j.size, j.bytes, j.zero)) = some (i171.size, i171.bytes, i171.zero) := by kernel_rfl
def i168 : TI := ⟨.slice 176, 1, 24, some (Value.slice none 0 0)⟩
theorem u168 : prog.underlying 168 = some i168.u := by kernel_rfl
theorem z168 : (prog.info? 168).map (fun j => (j.size, j.bytes, j.zero)) = some (i168.size, i168.bytes, i168.zero) := by kernel_rfl
def i176 : TI := ⟨.map 9 9, 1, 8, some (Value.map none)⟩
theorem u176 : prog.underlying 176 = some i176.u := by kernel_rfl
theorem z176 : (prog.info? 176).map (fun j => (j.size, j.bytes, j.zero)) = some (i176.size, i176.bytes, i176.zero) := by kernel_rfl
def i33 : TI := ⟨.struct #[⟨ "Round", 30, 0, false, "", "", 0⟩, ⟨ "Hops", 31, 1, false, "", "", 8⟩], 2, 32, some (.agg (([Value.int .u64 0] ++ [Value.slice none 0 0])).toArray)⟩
theorem u33 : prog.underlying 33 = some i33.u := by kernel_rfl
theorem z33 : (prog.info? 33).map (fun j => (j.size, j.bytes, j.zero)) = some (i33.size, i33.bytes, i33.zero) := by kernel_rfl
def i48 : TI := ⟨.slice 54, 1, 24, some (Value.slice none 0 0)⟩
theorem u48 : prog.underlying 48 = some i48.u := by kernel_rfl
theorem z48 : (prog.info? 48).map (fun j => (j.size, j.bytes, j.zero)) = some (i48.size, i48.bytes, i48.zero) := by kernel_rfl
def i73 : TI := ⟨.array 32 5, 32, 32, some (.agg (List.replicate 32 (Value.int .u8 0)).toArray)⟩
theorem u73 : prog.underlying 73 = some i73.u := by kernel_rfl
theorem z73 : (prog.info? 73).map (fun j => (j.size, j.bytes, j.zero)) = some (i73.size, i73.bytes, i73.zero) := by kernel_rfl
def i63 : TI := ⟨.struct #[⟨ "Client", 3, 0, false, "", "", 0⟩, ⟨ "Slot", 3, 1, false, "", "", 8⟩, ⟨ "Round", 30, 2, false, "", "", 16⟩, ⟨ "Reply", 22, 3, false, "", "", 24⟩], 4, 48, some (.agg (([Value.int .i64 0] ++ [Value.int .i64 0] ++ [Value.int .u64 0] ++ [Value.slice none 0 0])).toArray)⟩
theorem u63 : prog.underlying 63 = some i63.u := by kernel_rfl
theorem z63 : (prog.info? 63).map (fun j => (j.size, j.bytes, j.zero)) = some (i63.size, i63.bytes, i63.zero) := by kernel_rfl
def i117 : TI := ⟨.struct #[⟨ "kept", 114, 0, false, "", "hollowtree/hollowtreelaw13", 0⟩, ⟨ "meant", 114, 1, false, "", "hollowtree/hollowtreelaw13", 24⟩, ⟨ "shapes", 91, 2, false, "", "hollowtree/hollowtreelaw13", 48⟩, ⟨ "turned", 3, 3, false, "", "hollowtree/hollowtreelaw13", 72⟩], 4, 80, some (.agg ((([Value.slice none 0 0]) ++ ([Value.slice none 0 0]) ++ [Value.slice none 0 0] ++ [Value.int .i64 0])).toArray)⟩
theorem u117 : prog.underlying 117 = some i117.u := by kernel_rfl
theorem z117 : (prog.info? 117).map (fun j => (j.size, j.bytes, j.zero)) = some (i117.size, i117.bytes, i117.zero) := by kernel_rfl
def i49 : TI := ⟨.pointer 152, 1, 8, some (Value.pointer none)⟩
theorem u49 : prog.underlying 49 = some i49.u := by kernel_rfl
theorem z49 : (prog.info? 49).map (fun j => (j.size, j.bytes, j.zero)) = some (i49.size, i49.bytes, i49.zero) := by kernel_rfl
def i112 : TI := ⟨.slice 191, 1, 24, some (Value.slice none 0 0)⟩
theorem u112 : prog.underlying 112 = some i112.u := by kernel_rfl
theorem z112 : (prog.info? 112).map (fun j => (j.size, j.bytes, j.zero)) = some (i112.size, i112.bytes, i112.zero) := by kernel_rfl
def i59 : TI := ⟨.int .u64, 1, 8, some (Value.int .u64 0)⟩
theorem u59 : prog.underlying 59 = some i59.u := by kernel_rfl
theorem z59 : (prog.info? 59).map (fun j => (j.size, j.bytes, j.zero)) = some (i59.size, i59.bytes, i59.zero) := by kernel_rfl
def i224 : TI := ⟨.struct #[⟨ "super", 218, 0, true, "", "hollowtree/extent", 0⟩, ⟨ "disk", 49, 19, false, "", "hollowtree/extent", 40⟩], 20, 48, some (.agg ((([Value.int .i64 0] ++ [Value.int .u64 0] ++ [Value.int .i64 0] ++ List.replicate 16 (Value.int .u8 0)) ++ [Value.pointer none])).toArray)⟩
theorem u224 : prog.underlying 224 = some i224.u := by kernel_rfl
theorem z224 : (prog.info? 224).map (fun j => (j.size, j.bytes, j.zero)) = some (i224.size, i224.bytes, i224.zero) := by kernel_rfl
def i24 : TI := ⟨.struct #[⟨ "Kind", 3, 0, false, "", "", 0⟩, ⟨ "Hops", 3, 1, false, "", "", 8⟩, ⟨ "Client", 3, 2, false, "", "", 16⟩, ⟨ "Slot", 3, 3, false, "", "", 24⟩, ⟨ "Size", 3, 4, false, "", "", 32⟩, ⟨ "Off", 3, 5, false, "", "", 40⟩, ⟨ "Fill", 5, 6, false, "", "", 48⟩, ⟨ "Raw", 22, 7, false, "", "", 56⟩], 8, 80, some (.agg (([Value.int .i64 0] ++ [Value.int .i64 0] ++ [Value.int .i64 0] ++ [Value.int .i64 0] ++ [Value.int .i64 0] ++ [Value.int .i64 0] ++ [Value.int .u8 0] ++ [Value.slice none 0 0])).toArray)⟩
theorem u24 : prog.underlying 24 = some i24.u := by kernel_rfl
theorem z24 : (prog.info? 24).map (fun j => (j.size, j.bytes, j.zero)) = some (i24.size, i24.bytes, i24.zero) := by kernel_rfl
def i31 : TI := ⟨.slice 73, 1, 24, some (Value.slice none 0 0)⟩
theorem u31 : prog.underlying 31 = some i31.u := by kernel_rfl
theorem z31 : (prog.info? 31).map (fun j => (j.size, j.bytes, j.zero)) = some (i31.size, i31.bytes, i31.zero) := by kernel_rfl
def i189 : TI := ⟨.struct #[⟨ "Key", 9, 0, false, "", "", 0⟩, ⟨ "Value", 9, 1, false, "", "", 16⟩], 2, 32, some (.agg (([Value.string ByteArray.empty] ++ [Value.string ByteArray.empty])).toArray)⟩
theorem u189 : prog.underlying 189 = some i189.u := by kernel_rfl
theorem z189 : (prog.info? 189).map (fun j => (j.size, j.bytes, j.zero)) = some (i189.size, i189.bytes, i189.zero) := by kernel_rfl
def i119 : TI := ⟨.struct #[⟨ "Kind", 3, 0, false, "", "", 0⟩, ⟨ "Table", 3, 1, false, "", "", 8⟩, ⟨ "Key", 9, 2, false, "", "", 16⟩, ⟨ "Value", 9, 3, false, "", "", 32⟩], 4, 48, some (.agg (([Value.int .i64 0] ++ [Value.int .i64 0] ++ [Value.string ByteArray.empty] ++ [Value.string ByteArray.empty])).toArray)⟩
theorem u119 : prog.underlying 119 = some i119.u := by kernel_rfl
theorem z119 : (prog.info? 119).map (fun j => (j.size, j.bytes, j.zero)) = some (i119.size, i119.bytes, i119.zero) := by kernel_rfl
def i152 : TI := ⟨.struct #[⟨ "safe", 149, 0, false, "", "hollowtree/disk", 0⟩, ⟨ "pending", 150, 1, false, "", "hollowtree/disk", 24⟩, ⟨ "dead", 4, 2, false, "", "hollowtree/disk", 48⟩, ⟨ "armed", 4, 3, false, "", "hollowtree/disk", 49⟩, ⟨ "left", 3, 4, false, "", "hollowtree/disk", 56⟩, ⟨ "ops", 3, 5, false, "", "hollowtree/disk", 64⟩], 6, 72, some (.agg (([Value.slice none 0 0] ++ [Value.slice none 0 0] ++ [Value.bool false] ++ [Value.bool false] ++ [Value.int .i64 0] ++ [Value.int .i64 0])).toArray)⟩
theorem u152 : prog.underlying 152 = some i152.u := by kernel_rfl
theorem z152 : (prog.info? 152).map (fun j => (j.size, j.bytes, j.zero)) = some (i152.size, i152.bytes, i152.zero) := by kernel_rfl
def i294 : TI := ⟨.struct #[⟨ "state", 292, 0, false, "", "hollowtree/sha", 0⟩, ⟨ "k", 290, 8, false, "", "hollowtree/sha", 32⟩, ⟨ "rest", 220, 9, false, "", "hollowtree/sha", 56⟩, ⟨ "n", 3, 73, false, "", "hollowtree/sha", 120⟩], 74, 128, some (.agg ((List.replicate 8 (Value.int .u32 0) ++ [Value.slice none 0 0] ++ List.replicate 64 (Value.int .u8 0) ++ [Value.int .i64 0])).toArray)⟩
theorem u294 : prog.underlying 294 = some i294.u := by kernel_rfl
theorem z294 : (prog.info? 294).map (fun j => (j.size, j.bytes, j.zero)) = some (i294.size, i294.bytes, i294.zero) := by kernel_rfl
def i169 : TI := ⟨.slice 185, 1, 24, some (Value.slice none 0 0)⟩
theorem u169 : prog.underlying 169 = some i169.u := by kernel_rfl
theorem z169 : (prog.info? 169).map (fun j => (j.size, j.bytes, j.zero)) = some (i169.size, i169.bytes, i169.zero) := by kernel_rfl
def i301 : TI := ⟨.int .u64, 1, 8, some (Value.int .u64 0)⟩
theorem u301 : prog.underlying 301 = some i301.u := by kernel_rfl
theorem z301 : (prog.info? 301).map (fun j => (j.size, j.bytes, j.zero)) = some (i301.size, i301.bytes, i301.zero) := by kernel_rfl
def i129 : TI := ⟨.pointer 224, 1, 8, some (Value.pointer none)⟩
theorem u129 : prog.underlying 129 = some i129.u := by kernel_rfl
theorem z129 : (prog.info? 129).map (fun j => (j.size, j.bytes, j.zero)) = some (i129.size, i129.bytes, i129.zero) := by kernel_rfl
def i26 : TI := ⟨.pointer 136, 1, 8, some (Value.pointer none)⟩
theorem u26 : prog.underlying 26 = some i26.u := by kernel_rfl
theorem z26 : (prog.info? 26).map (fun j => (j.size, j.bytes, j.zero)) = some (i26.size, i26.bytes, i26.zero) := by kernel_rfl
def i40 : TI := ⟨.slice 63, 1, 24, some (Value.slice none 0 0)⟩
theorem u40 : prog.underlying 40 = some i40.u := by kernel_rfl
theorem z40 : (prog.info? 40).map (fun j => (j.size, j.bytes, j.zero)) = some (i40.size, i40.bytes, i40.zero) := by kernel_rfl
def i149 : TI := ⟨.slice 221, 1, 24, some (Value.slice none 0 0)⟩
theorem u149 : prog.underlying 149 = some i149.u := by kernel_rfl
theorem z149 : (prog.info? 149).map (fun j => (j.size, j.bytes, j.zero)) = some (i149.size, i149.bytes, i149.zero) := by kernel_rfl
def i84 : TI := ⟨.struct #[⟨ "Keys", 82, 0, false, "", "", 0⟩, ⟨ "Values", 82, 1, false, "", "", 24⟩], 2, 48, some (.agg (([Value.slice none 0 0] ++ [Value.slice none 0 0])).toArray)⟩
theorem u84 : prog.underlying 84 = some i84.u := by kernel_rfl
theorem z84 : (prog.info? 84).map (fun j => (j.size, j.bytes, j.zero)) = some (i84.size, i84.bytes, i84.zero) := by kernel_rfl
def i134 : TI := ⟨.map 3 22, 1, 8, some (Value.map none)⟩
theorem u134 : prog.underlying 134 = some i134.u := by kernel_rfl
theorem z134 : (prog.info? 134).map (fun j => (j.size, j.bytes, j.zero)) = some (i134.size, i134.bytes, i134.zero) := by kernel_rfl
def i150 : TI := ⟨.slice 245, 1, 24, some (Value.slice none 0 0)⟩
theorem u150 : prog.underlying 150 = some i150.u := by kernel_rfl
theorem z150 : (prog.info? 150).map (fun j => (j.size, j.bytes, j.zero)) = some (i150.size, i150.bytes, i150.zero) := by kernel_rfl
def i292 : TI := ⟨.array 8 208, 8, 32, some (.agg (List.replicate 8 (Value.int .u32 0)).toArray)⟩
theorem u292 : prog.underlying 292 = some i292.u := by kernel_rfl
theorem z292 : (prog.info? 292).map (fun j => (j.size, j.bytes, j.zero)) = some (i292.size, i292.bytes, i292.zero) := by kernel_rfl
def i85 : TI := ⟨.pointer 198, 1, 8, some (Value.pointer none)⟩
theorem u85 : prog.underlying 85 = some i85.u := by kernel_rfl
theorem z85 : (prog.info? 85).map (fun j => (j.size, j.bytes, j.zero)) = some (i85.size, i85.bytes, i85.zero) := by kernel_rfl
def i257 : TI := ⟨.struct #[⟨ "bytes", 22, 0, false, "", "hollowtree/octet", 0⟩, ⟨ "at", 3, 1, false, "", "hollowtree/octet", 24⟩, ⟨ "err", 27, 2, false, "", "hollowtree/octet", 32⟩], 3, 40, some (.agg (([Value.slice none 0 0] ++ [Value.int .i64 0] ++ [Value.int .i64 0])).toArray)⟩
theorem u257 : prog.underlying 257 = some i257.u := by kernel_rfl
theorem z257 : (prog.info? 257).map (fun j => (j.size, j.bytes, j.zero)) = some (i257.size, i257.bytes, i257.zero) := by kernel_rfl
def i185 : TI := ⟨.struct #[⟨ "put", 4, 0, false, "", "hollowtree/table", 0⟩, ⟨ "table", 3, 1, false, "", "hollowtree/table", 8⟩, ⟨ "key", 9, 2, false, "", "hollowtree/table", 16⟩, ⟨ "value", 9, 3, false, "", "hollowtree/table", 32⟩], 4, 48, some (.agg (([Value.bool false] ++ [Value.int .i64 0] ++ [Value.string ByteArray.empty] ++ [Value.string ByteArray.empty])).toArray)⟩
theorem u185 : prog.underlying 185 = some i185.u := by kernel_rfl
theorem z185 : (prog.info? 185).map (fun j => (j.size, j.bytes, j.zero)) = some (i185.size, i185.bytes, i185.zero) := by kernel_rfl
def i228 : TI := ⟨.int .u16, 1, 2, some (Value.int .u16 0)⟩
theorem u228 : prog.underlying 228 = some i228.u := by kernel_rfl
theorem z228 : (prog.info? 228).map (fun j => (j.size, j.bytes, j.zero)) = some (i228.size, i228.bytes, i228.zero) := by kernel_rfl
def i245 : TI := ⟨.struct #[⟨ "at", 3, 0, false, "", "hollowtree/disk", 0⟩, ⟨ "block", 221, 1, false, "", "hollowtree/disk", 8⟩], 65, 72, some (.agg (([Value.int .i64 0] ++ List.replicate 64 (Value.int .u8 0))).toArray)⟩
theorem u245 : prog.underlying 245 = some i245.u := by kernel_rfl
theorem z245 : (prog.info? 245).map (fun j => (j.size, j.bytes, j.zero)) = some (i245.size, i245.bytes, i245.zero) := by kernel_rfl
def i215 : TI := ⟨.array 16 5, 16, 16, some (.agg (List.replicate 16 (Value.int .u8 0)).toArray)⟩
theorem u215 : prog.underlying 215 = some i215.u := by kernel_rfl
theorem z215 : (prog.info? 215).map (fun j => (j.size, j.bytes, j.zero)) = some (i215.size, i215.bytes, i215.zero) := by kernel_rfl
def i109 : TI := ⟨.struct #[⟨ "More", 3, 0, false, "", "", 0⟩, ⟨ "Shapes", 91, 1, false, "", "", 8⟩, ⟨ "Ops", 107, 2, false, "", "", 32⟩], 3, 56, some (.agg (([Value.int .i64 0] ++ [Value.slice none 0 0] ++ [Value.slice none 0 0])).toArray)⟩
theorem u109 : prog.underlying 109 = some i109.u := by kernel_rfl
theorem z109 : (prog.info? 109).map (fun j => (j.size, j.bytes, j.zero)) = some (i109.size, i109.bytes, i109.zero) := by kernel_rfl
def i123 : TI := ⟨.slice 4, 1, 24, some (Value.slice none 0 0)⟩
theorem u123 : prog.underlying 123 = some i123.u := by kernel_rfl
theorem z123 : (prog.info? 123).map (fun j => (j.size, j.bytes, j.zero)) = some (i123.size, i123.bytes, i123.zero) := by kernel_rfl
def i290 : TI := ⟨.slice 208, 1, 24, some (Value.slice none 0 0)⟩
theorem u290 : prog.underlying 290 = some i290.u := by kernel_rfl
theorem z290 : (prog.info? 290).map (fun j => (j.size, j.bytes, j.zero)) = some (i290.size, i290.bytes, i290.zero) := by kernel_rfl
def i306 : TI := ⟨.array 64 208, 64, 256, some (.agg (List.replicate 64 (Value.int .u32 0)).toArray)⟩
theorem u306 : prog.underlying 306 = some i306.u := by kernel_rfl
theorem z306 : (prog.info? 306).map (fun j => (j.size, j.bytes, j.zero)) = some (i306.size, i306.bytes, i306.zero) := by kernel_rfl
def i259 : TI := ⟨.struct #[⟨ "spot", 257, 0, true, "", "hollowtree/octet", 0⟩], 3, 40, some (.agg ((([Value.slice none 0 0] ++ [Value.int .i64 0] ++ [Value.int .i64 0]))).toArray)⟩
theorem u259 : prog.underlying 259 = some i259.u := by kernel_rfl
theorem z259 : (prog.info? 259).map (fun j => (j.size, j.bytes, j.zero)) = some (i259.size, i259.bytes, i259.zero) := by kernel_rfl
def i21 : TI := ⟨.int .i32, 1, 4, some (Value.int .i32 0)⟩
theorem u21 : prog.underlying 21 = some i21.u := by kernel_rfl
theorem z21 : (prog.info? 21).map (fun j => (j.size, j.bytes, j.zero)) = some (i21.size, i21.bytes, i21.zero) := by kernel_rfl
def i66 : TI := ⟨.slice 24, 1, 24, some (Value.slice none 0 0)⟩
theorem u66 : prog.underlying 66 = some i66.u := by kernel_rfl
theorem z66 : (prog.info? 66).map (fun j => (j.size, j.bytes, j.zero)) = some (i66.size, i66.bytes, i66.zero) := by kernel_rfl
def i125 : TI := ⟨.struct #[⟨ "At", 3, 0, false, "", "", 0⟩, ⟨ "More", 3, 1, false, "", "", 8⟩, ⟨ "Keep", 123, 2, false, "", "", 16⟩], 3, 40, some (.agg (([Value.int .i64 0] ++ [Value.int .i64 0] ++ [Value.slice none 0 0])).toArray)⟩
theorem u125 : prog.underlying 125 = some i125.u := by kernel_rfl
theorem z125 : (prog.info? 125).map (fun j => (j.size, j.bytes, j.zero)) = some (i125.size, i125.bytes, i125.zero) := by kernel_rfl
def i276 : TI := ⟨.int .i64, 1, 8, some (Value.int .i64 0)⟩
theorem u276 : prog.underlying 276 = some i276.u := by kernel_rfl
theorem z276 : (prog.info? 276).map (fun j => (j.size, j.bytes, j.zero)) = some (i276.size, i276.bytes, i276.zero) := by kernel_rfl
def i52 : TI := ⟨.map 58 4, 1, 8, some (Value.map none)⟩
theorem u52 : prog.underlying 52 = some i52.u := by kernel_rfl
theorem z52 : (prog.info? 52).map (fun j => (j.size, j.bytes, j.zero)) = some (i52.size, i52.bytes, i52.zero) := by kernel_rfl
def i107 : TI := ⟨.slice 119, 1, 24, some (Value.slice none 0 0)⟩
theorem u107 : prog.underlying 107 = some i107.u := by kernel_rfl
theorem z107 : (prog.info? 107).map (fun j => (j.size, j.bytes, j.zero)) = some (i107.size, i107.bytes, i107.zero) := by kernel_rfl
def i226 : TI := ⟨.pointer 259, 1, 8, some (Value.pointer none)⟩
theorem u226 : prog.underlying 226 = some i226.u := by kernel_rfl
theorem z226 : (prog.info? 226).map (fun j => (j.size, j.bytes, j.zero)) = some (i226.size, i226.bytes, i226.zero) := by kernel_rfl
def i220 : TI := ⟨.array 64 5, 64, 64, some (.agg (List.replicate 64 (Value.int .u8 0)).toArray)⟩
theorem u220 : prog.underlying 220 = some i220.u := by kernel_rfl
theorem z220 : (prog.info? 220).map (fun j => (j.size, j.bytes, j.zero)) = some (i220.size, i220.bytes, i220.zero) := by kernel_rfl
def i58 : TI := ⟨.array 2 3, 2, 16, some (.agg (List.replicate 2 (Value.int .i64 0)).toArray)⟩
theorem u58 : prog.underlying 58 = some i58.u := by kernel_rfl
theorem z58 : (prog.info? 58).map (fun j => (j.size, j.bytes, j.zero)) = some (i58.size, i58.bytes, i58.zero) := by kernel_rfl
def i159 : TI := ⟨.array 8 3, 8, 64, some (.agg (List.replicate 8 (Value.int .i64 0)).toArray)⟩
theorem u159 : prog.underlying 159 = some i159.u := by kernel_rfl
theorem z159 : (prog.info? 159).map (fun j => (j.size, j.bytes, j.zero)) = some (i159.size, i159.bytes, i159.zero) := by kernel_rfl
def i269 : TI := ⟨.pointer 294, 1, 8, some (Value.pointer none)⟩
theorem u269 : prog.underlying 269 = some i269.u := by kernel_rfl
theorem z269 : (prog.info? 269).map (fun j => (j.size, j.bytes, j.zero)) = some (i269.size, i269.bytes, i269.zero) := by kernel_rfl
def T : Tab := [(3, i3), (22, i22), (9, i9), (27, i27), (30, i30), (68, i68), (82, i82), (143, i143), (208, i208), (5, i5), (54, i54), (221, i221), (37, i37), (88, i88), (101, i101), (218, i218), (91, i91), (4, i4), (191, i191), (198, i198), (136, i136), (114, i114), (171, i171), (168, i168), (176, i176), (33, i33), (48, i48), (73, i73), (63, i63), (117, i117), (49, i49), (112, i112), (59, i59), (224, i224), (24, i24), (31, i31), (189, i189), (119, i119), (152, i152), (294, i294), (169, i169), (301, i301), (129, i129), (26, i26), (40, i40), (149, i149), (84, i84), (134, i134), (150, i150), (292, i292), (85, i85), (257, i257), (185, i185), (228, i228), (245, i245), (215, i215), (109, i109), (123, i123), (290, i290), (306, i306), (259, i259), (21, i21), (66, i66), (125, i125), (276, i276), (52, i52), (107, i107), (226, i226), (220, i220), (58, i58), (159, i159), (269, i269)]
theorem hT : Tok prog T := Vq u3 z3 (Vq u22 z22 (Vq u9 z9 (Vq u27 z27 (Vq u30 z30 (Vq u68 z68 (Vq u82 z82 (Vq u143 z143 (Vq u208 z208 (Vq u5 z5 (Vq u54 z54 (Vq u221 z221 (Vq u37 z37 (Vq u88 z88 (Vq u101 z101 (Vq u218 z218 (Vq u91 z91 (Vq u4 z4 (Vq u191 z191 (Vq u198 z198 (Vq u136 z136 (Vq u114 z114 (Vq u171 z171 (Vq u168 z168 (Vq u176 z176 (Vq u33 z33 (Vq u48 z48 (Vq u73 z73 (Vq u63 z63 (Vq u117 z117 (Vq u49 z49 (Vq u112 z112 (Vq u59 z59 (Vq u224 z224 (Vq u24 z24 (Vq u31 z31 (Vq u189 z189 (Vq u119 z119 (Vq u152 z152 (Vq u294 z294 (Vq u169 z169 (Vq u301 z301 (Vq u129 z129 (Vq u26 z26 (Vq u40 z40 (Vq u149 z149 (Vq u84 z84 (Vq u134 z134 (Vq u150 z150 (Vq u292 z292 (Vq u85 z85 (Vq u257 z257 (Vq u185 z185 (Vq u228 z228 (Vq u245 z245 (Vq u215 z215 (Vq u109 z109 (Vq u123 z123 (Vq u290 z290 (Vq u306 z306 (Vq u259 z259 (Vq u21 z21 (Vq u66 z66 (Vq u125 z125 (Vq u276 z276 (Vq u52 z52 (Vq u107 z107 (Vq u226 z226 (Vq u220 z220 (Vq u58 z58 (Vq u159 z159 (Vq u269 z269 Tok.nil)))))))))))))))))))))))))))))))))))))))))))))))))))))))))))))))))))))))
theorem e2 : Ent prog 2 := Vo Tryz.func2 (by kernel_rfl) (by kernel_rfl)
theorem e3 : Ent prog 3 := Vo Tryz.func3 (by kernel_rfl) (by kernel_rfl)
theorem e4 : Ent prog 4 := Vo Tryz.func4 (by kernel_rfl) (by kernel_rfl)
theorem e5 : Ent prog 5 := Vo Tryz.func5 (by kernel_rfl) (by kernel_rfl)
theorem e9 : Ent prog 9 := Vo Tryz.func9 (by kernel_rfl) (by kernel_rfl)
theorem e11 : Ent prog 11 := Vo Tryz.func11 (by kernel_rfl) (by kernel_rfl)
theorem e12 : Ent prog 12 := Vo Tryz.func12 (by kernel_rfl) (by kernel_rfl)
theorem e13 : Ent prog 13 := Vo Tryz.func13 (by kernel_rfl) (by kernel_rfl)
theorem e14 : Ent prog 14 := Vo Tryz.func14 (by kernel_rfl) (by kernel_rfl)
theorem e15 : Ent prog 15 := Vo Tryz.func15 (by kernel_rfl) (by kernel_rfl)
theorem e16 : Ent prog 16 := Vo Tryz.func16 (by kernel_rfl) (by kernel_rfl)
theorem e17 : Ent prog 17 := Vo Tryz.func17 (by kernel_rfl) (by kernel_rfl)
theorem e18 : Ent prog 18 := Vo Tryz.func18 (by kernel_rfl) (by kernel_rfl)
theorem e19 : Ent prog 19 := Vo Tryz.func19 (by kernel_rfl) (by kernel_rfl)
theorem e20 : Ent prog 20 := Vo Tryz.func20 (by kernel_rfl) (by kernel_rfl)
theorem e22 : Ent prog 22 := Vo Tryz.func22 (by kernel_rfl) (by kernel_rfl)
theorem e23 : Ent prog 23 := Vo Tryz.func23 (by kernel_rfl) (by kernel_rfl)
theorem e24 : Ent prog 24 := Vo Tryz.func24 (by kernel_rfl) (by kernel_rfl)
theorem e25 : Ent prog 25 := Vo Tryz.func25 (by kernel_rfl) (by kernel_rfl)
theorem e26 : Ent prog 26 := Vo Tryz.func26 (by kernel_rfl) (by kernel_rfl)
theorem e27 : Ent prog 27 := Vo Tryz.func27 (by kernel_rfl) (by kernel_rfl)
theorem e28 : Ent prog 28 := Vo Tryz.func28 (by kernel_rfl) (by kernel_rfl)
theorem e45 : Ent prog 45 := Vo Tryz.func45 (by kernel_rfl) (by kernel_rfl)
theorem e61 : Ent prog 61 := Vo Tryz.func61 (by kernel_rfl) (by kernel_rfl)
theorem e62 : Ent prog 62 := Vo Tryz.func62 (by kernel_rfl) (by kernel_rfl)
theorem e63 : Ent prog 63 := Vo Tryz.func63 (by kernel_rfl) (by kernel_rfl)
theorem e64 : Ent prog 64 := Vo Tryz.func64 (by kernel_rfl) (by kernel_rfl)
theorem e65 : Ent prog 65 := Vo Tryz.func65 (by kernel_rfl) (by kernel_rfl)
theorem e66 : Ent prog 66 := Vo Tryz.func66 (by kernel_rfl) (by kernel_rfl)
theorem e67 : Ent prog 67 := Vo Tryz.func67 (by kernel_rfl) (by kernel_rfl)
theorem e68 : Ent prog 68 := Vo Tryz.func68 (by kernel_rfl) (by kernel_rfl)
theorem e69 : Ent prog 69 := Vo Tryz.func69 (by kernel_rfl) (by kernel_rfl)
theorem e70 : Ent prog 70 := Vo Tryz.func70 (by kernel_rfl) (by kernel_rfl)
theorem e71 : Ent prog 71 := Vo Tryz.func71 (by kernel_rfl) (by kernel_rfl)
theorem e72 : Ent prog 72 := Vo Tryz.func72 (by kernel_rfl) (by kernel_rfl)
theorem e73 : Ent prog 73 := Vo Tryz.func73 (by kernel_rfl) (by kernel_rfl)
theorem e74 : Ent prog 74 := Vo Tryz.func74 (by kernel_rfl) (by kernel_rfl)
theorem e75 : Ent prog 75 := Vo Tryz.func75 (by kernel_rfl) (by kernel_rfl)
theorem e82 : Ent prog 82 := Vo Tryz.func82 (by kernel_rfl) (by kernel_rfl)
theorem e83 : Ent prog 83 := Vo Tryz.func83 (by kernel_rfl) (by kernel_rfl)
theorem e94 : Ent prog 94 := Vo Tryz.func94 (by kernel_rfl) (by kernel_rfl)
theorem e96 : Ent prog 96 := Vo Tryz.func96 (by kernel_rfl) (by kernel_rfl)
theorem e97 : Ent prog 97 := Vo Tryz.func97 (by kernel_rfl) (by kernel_rfl)
theorem e104 : Ent prog 104 := Vo Tryz.func104 (by kernel_rfl) (by kernel_rfl)
theorem e105 : Ent prog 105 := Vo Tryz.func105 (by kernel_rfl) (by kernel_rfl)
theorem e107 : Ent prog 107 := Vo Tryz.func107 (by kernel_rfl) (by kernel_rfl)
theorem e108 : Ent prog 108 := Vo Tryz.func108 (by kernel_rfl) (by kernel_rfl)
theorem e109 : Ent prog 109 := Vo Tryz.func109 (by kernel_rfl) (by kernel_rfl)
theorem e110 : Ent prog 110 := Vo Tryz.func110 (by kernel_rfl) (by kernel_rfl)
theorem e111 : Ent prog 111 := Vo Tryz.func111 (by kernel_rfl) (by kernel_rfl)
theorem e112 : Ent prog 112 := Vo Tryz.func112 (by kernel_rfl) (by kernel_rfl)
theorem e113 : Ent prog 113 := Vo Tryz.func113 (by kernel_rfl) (by kernel_rfl)
theorem e114 : Ent prog 114 := Vo Tryz.func114 (by kernel_rfl) (by kernel_rfl)
theorem e116 : Ent prog 116 := Vo Tryz.func116 (by kernel_rfl) (by kernel_rfl)
theorem e121 : Ent prog 121 := Vo Tryz.func121 (by kernel_rfl) (by kernel_rfl)
theorem e122 : Ent prog 122 := Vo Tryz.func122 (by kernel_rfl) (by kernel_rfl)
theorem e123 : Ent prog 123 := Vo Tryz.func123 (by kernel_rfl) (by kernel_rfl)
theorem e124 : Ent prog 124 := Vo Tryz.func124 (by kernel_rfl) (by kernel_rfl)
theorem e126 : Ent prog 126 := Vo Tryz.func126 (by kernel_rfl) (by kernel_rfl)
theorem e131 : Ent prog 131 := Vo Tryz.func131 (by kernel_rfl) (by kernel_rfl)
theorem e132 : Ent prog 132 := Vo Tryz.func132 (by kernel_rfl) (by kernel_rfl)
theorem e138 : Ent prog 138 := Vo Tryz.func138 (by kernel_rfl) (by kernel_rfl)
theorem e139 : Ent prog 139 := Vo Tryz.func139 (by kernel_rfl) (by kernel_rfl)
theorem e140 : Ent prog 140 := Vo Tryz.func140 (by kernel_rfl) (by kernel_rfl)
theorem e141 : Ent prog 141 := Vo Tryz.func141 (by kernel_rfl) (by kernel_rfl)
theorem e142 : Ent prog 142 := Vo Tryz.func142 (by kernel_rfl) (by kernel_rfl)
theorem e143 : Ent prog 143 := Vo Tryz.func143 (by kernel_rfl) (by kernel_rfl)
theorem e148 : Ent prog 148 := Vo Tryz.func148 (by kernel_rfl) (by kernel_rfl)
theorem e149 : Ent prog 149 := Vo Tryz.func149 (by kernel_rfl) (by kernel_rfl)
theorem e150 : Ent prog 150 := Vo Tryz.func150 (by kernel_rfl) (by kernel_rfl)
theorem e151 : Ent prog 151 := Vo Tryz.func151 (by kernel_rfl) (by kernel_rfl)
theorem e152 : Ent prog 152 := Vo Tryz.func152 (by kernel_rfl) (by kernel_rfl)
theorem e153 : Ent prog 153 := Vo Tryz.func153 (by kernel_rfl) (by kernel_rfl)
theorem e154 : Ent prog 154 := Vo Tryz.func154 (by kernel_rfl) (by kernel_rfl)
theorem e155 : Ent prog 155 := Vo Tryz.func155 (by kernel_rfl) (by kernel_rfl)
theorem e156 : Ent prog 156 := Vo Tryz.func156 (by kernel_rfl) (by kernel_rfl)
theorem e157 : Ent prog 157 := Vo Tryz.func157 (by kernel_rfl) (by kernel_rfl)
theorem e158 : Ent prog 158 := Vo Tryz.func158 (by kernel_rfl) (by kernel_rfl)
theorem e159 : Ent prog 159 := Vo Tryz.func159 (by kernel_rfl) (by kernel_rfl)
theorem e160 : Ent prog 160 := Vo Tryz.func160 (by kernel_rfl) (by kernel_rfl)
theorem e161 : Ent prog 161 := Vo Tryz.func161 (by kernel_rfl) (by kernel_rfl)
theorem e162 : Ent prog 162 := Vo Tryz.func162 (by kernel_rfl) (by kernel_rfl)
theorem e163 : Ent prog 163 := Vo Tryz.func163 (by kernel_rfl) (by kernel_rfl)
theorem e164 : Ent prog 164 := Vo Tryz.func164 (by kernel_rfl) (by kernel_rfl)
theorem e165 : Ent prog 165 := Vo Tryz.func165 (by kernel_rfl) (by kernel_rfl)
theorem e166 : Ent prog 166 := Vo Tryz.func166 (by kernel_rfl) (by kernel_rfl)
theorem e167 : Ent prog 167 := Vo Tryz.func167 (by kernel_rfl) (by kernel_rfl)
theorem e168 : Ent prog 168 := Vo Tryz.func168 (by kernel_rfl) (by kernel_rfl)
theorem e171 : Ent prog 171 := Vo Tryz.func171 (by kernel_rfl) (by kernel_rfl)
theorem e172 : Ent prog 172 := Vo Tryz.func172 (by kernel_rfl) (by kernel_rfl)
theorem e173 : Ent prog 173 := Vo Tryz.func173 (by kernel_rfl) (by kernel_rfl)
theorem e174 : Ent prog 174 := Vo Tryz.func174 (by kernel_rfl) (by kernel_rfl)
theorem e175 : Ent prog 175 := Vo Tryz.func175 (by kernel_rfl) (by kernel_rfl)
theorem e176 : Ent prog 176 := Vo Tryz.func176 (by kernel_rfl) (by kernel_rfl)
theorem e177 : Ent prog 177 := Vo Tryz.func177 (by kernel_rfl) (by kernel_rfl)
theorem e178 : Ent prog 178 := Vo Tryz.func178 (by kernel_rfl) (by kernel_rfl)
theorem e179 : Ent prog 179 := Vo Tryz.func179 (by kernel_rfl) (by kernel_rfl)
theorem e180 : Ent prog 180 := Vo Tryz.func180 (by kernel_rfl) (by kernel_rfl)
theorem e181 : Ent prog 181 := Vo Tryz.func181 (by kernel_rfl) (by kernel_rfl)
theorem e182 : Ent prog 182 := Vo Tryz.func182 (by kernel_rfl) (by kernel_rfl)
theorem e193 : Ent prog 193 := Vo Tryz.func193 (by kernel_rfl) (by kernel_rfl)
theorem e194 : Ent prog 194 := Vo Tryz.func194 (by kernel_rfl) (by kernel_rfl)
theorem e195 : Ent prog 195 := Vo Tryz.func195 (by kernel_rfl) (by kernel_rfl)
theorem e196 : Ent prog 196 := Vo Tryz.func196 (by kernel_rfl) (by kernel_rfl)
theorem e197 : Ent prog 197 := Vo Tryz.func197 (by kernel_rfl) (by kernel_rfl)
theorem e198 : Ent prog 198 := Vo Tryz.func198 (by kernel_rfl) (by kernel_rfl)
theorem e199 : Ent prog 199 := Vo Tryz.func199 (by kernel_rfl) (by kernel_rfl)
theorem e200 : Ent prog 200 := Vo Tryz.func200 (by kernel_rfl) (by kernel_rfl)
theorem e206 : Ent prog 206 := Vo Tryz.func206 (by kernel_rfl) (by kernel_rfl)
theorem e215 : Ent prog 215 := Vo Tryz.func215 (by kernel_rfl) (by kernel_rfl)
theorem e216 : Ent prog 216 := Vo Tryz.func216 (by kernel_rfl) (by kernel_rfl)
theorem e220 : Ent prog 220 := Vo Tryz.func220 (by kernel_rfl) (by kernel_rfl)
end Go.Proofs.YtimekohdlofmaaaGreat
namespace Go.Proofs.YtimekohdlofmaaaGreat
open Go Go.SL

abbrev Blk := List Int
def encB (b : Blk) : List Value := ints .u8 b
def encW (p : Int × Blk) : List Value := .int .i64 p.1 :: encB p.2
@[simp] theorem encB_length (b : Blk) : (encB b).length = b.length := by simp [encB]
theorem encB_one (b : Blk) : ∀ v ∈ encB b, v.oneCell' = true := ints_one _ _
theorem encW_one (p : Int × Blk) : ∀ v ∈ encW p, v.oneCell' = true := by
  intro v hv
  simp only [encW, List.mem_cons] at hv
  rcases hv with rfl | hv
  · rfl
  · exact encB_one _ v hv

/-- A disk. -/
structure Dk where
  safe : List Blk
  pending : List (Int × Blk)
  dead : Bool
  armed : Bool
  left : Int
  ops : Int
structure Dk.Ok (D : Dk) : Prop where
  safe : ∀ b ∈ D.safe, b.length = 64
  pend : ∀ p ∈ D.pending, p.2.length = 64 ∧ 0 ≤ p.1 ∧ p.1 < D.safe.length
  some : 1 ≤ D.safe.length
  most : D.safe.length ≤ 512
  left : -9223372036854775808 ≤ D.left ∧ D.left ≤ 9223372036854775807
theorem Dk.Ok.segB {D : Dk} (h : D.Ok) : ∀ b ∈ D.safe, (encB b).length = 64 := fun b hb => by rw [encB_length]; exact h.safe b hb
theorem Dk.Ok.segW {D : Dk} (h : D.Ok) : ∀ p ∈ D.pending, (encW p).length = 65 := fun p hp => by simp [encW, (h.pend p hp).1]

def dcells (D : Dk) (sa : Option Addr) (sc : Nat) (pa : Option Addr) (pc : Nat) : List Value :=
  [.slice sa D.safe.length sc, .slice pa D.pending.length pc, .bool D.dead, .bool D.armed, .int .i64 D.left, .int .i64 D.ops]
/-- A disk in memory. -/
def disk (d : Nat) (D : Dk) : HProp := ex fun q : Option Addr × Nat × Option Addr × Nat => stars
  [pur D.Ok, row d 152 (dcells D q.1 q.2.1 q.2.2.1 q.2.2.2),
   own 221 64 (.slice q.1 D.safe.length q.2.1) D.safe.length (D.safe.flatMap encB),
   own 245 65 (.slice q.2.2.1 D.pending.length q.2.2.2) D.pending.length (D.pending.flatMap encW)]
theorem disk_open {E w : World} {d : Nat} {D : Dk} {r : List HProp} (s : Sat E (stars (disk d D :: r)) w) : ∃ sa sc pa pc, D.Ok ∧ Sat E (stars (row d 152 (dcells D sa sc pa pc) ::
    own 221 64 (.slice sa D.safe.length sc) D.safe.length (D.safe.flatMap encB) :: own 245 65 (.slice pa D.pending.length pc) D.pending.length (D.pending.flatMap encW) :: r)) w := by
  obtain ⟨⟨sa, sc, pa, pc⟩, s⟩ := s.ofex
  obtain ⟨hok, s⟩ := s.unfold.ofpur
  exact ⟨sa, sc, pa, pc, hok, s⟩
theorem disk_shut {E w : World} {d : Nat} {D : Dk} {r : List HProp} {sa pa : Option Addr} {sc pc : Nat} (hok : D.Ok) (s : Sat E (stars (row d 152 (dcells D sa sc pa pc) ::
    own 221 64 (.slice sa D.safe.length sc) D.safe.length (D.safe.flatMap encB) :: own 245 65 (.slice pa D.pending.length pc) D.pending.length (D.pending.flatMap encW) :: r)) w) : Sat E (stars (disk d D :: r)) w :=
  Sat.toex (F := fun _ : Option Addr × Nat × Option Addr × Nat => _) (sa, sc, pa, pc) (Sat.fold (m := [_, _, _, _]) (s.topur hok))
section
variable {E : World} {ρ : Option Nat} {n : Nat} {ds : List Deferred} {env : Fr} {c : Code} {Q : Exit → Act → World → Prop} {d : Nat} {D : Dk} {r : List HProp}
theorem J.disk (h : ∀ sa sc pa pc, D.Ok → J prog E ρ n ds c Q env (row d 152 (dcells D sa sc pa pc) ::
    own 221 64 (.slice sa D.safe.length sc) D.safe.length (D.safe.flatMap encB) :: own 245 65 (.slice pa D.pending.length pc) D.pending.length (D.pending.flatMap encW) :: r)) : J prog E ρ n ds c Q env (disk d D :: r) := fun a w hf hs =>
  let ⟨sa, sc, pa, pc, hok, s⟩ := disk_open hs
  h sa sc pa pc hok a w hf s
/-- The world behind a function's end, the disk shut again. -/
theorem Fc.disk {f : FuncId} {args : Array Value} {l : List HProp} {R : Value → List HProp → Prop} {D' : Dk}
    (h : Fc prog E f args l fun v l' => ∃ sa sc pa pc, D'.Ok ∧ R v (Go.Proofs.YtimekohdlofmaaaGreat.disk d D' :: r) ∧ l' = row d 152 (dcells D' sa sc pa pc) ::
      own 221 64 (.slice sa D'.safe.length sc) D'.safe.length (D'.safe.flatMap encB) :: own 245 65 (.slice pa D'.pending.length pc) D'.pending.length (D'.pending.flatMap encW) :: r) : Fc prog E f args l R := fun w hs =>
  (h w hs).mono fun _ _ ⟨v, _, he, s, _, _, _, _, hok, hR, hl⟩ => ⟨v, _, he, disk_shut hok (hl ▸ s), hR⟩
end

theorem disk_okd {E : World} {f : FuncId} {args : Array Value} {d : Nat} {D : Dk} {r : List HProp} {R : Value → List HProp → Prop} (h : D.Ok → Fc prog E f args (disk d D :: r) R) : Fc prog E f args (disk d D :: r) R := fun w hs =>
  let ⟨_, _, _, _, hok, _⟩ := disk_open hs
  h hok w hs
attribute [local irreducible] J JL JE JM LS Y Fc RV Code.wp wpList Code.wpIn wpListIn
/-- Why nothing can be done. -/
def Dk.ready (D : Dk) (i : Int) : Int := if D.dead then 7 else if i < 0 ∨ D.safe.length ≤ i then 2 else 0

variable (E : World)
theorem ready_spec (d : Nat) (D : Dk) (i : Int) (r : List HProp) :
    Fc prog E 104 [Value.pointer (some ⟨d, 0, none⟩), .int .i64 i].toArray (disk d D :: r) (fun v l' => v = .int .i64 (D.ready i) ∧ l' = disk d D :: r) := by
  refine Fc.disk (d := d) (D' := D) (r := r) ?_
  refine Jt (c := ?codeC) Tryz.func104 ?hb Tryz.ntmps104 ?hl ?_
  case hb => exact rfl
  case hl => exact rfl
  refine J.disk fun sa sc pa pc hok => ?_
  refine Jh ?_
  refine Jc ?_
  refine Ja (Jd rfl) O O O ?_
  refine Jg ?_
  refine Jb ?_
  refine Jh ?_
  refine Vj ?_
  refine Jh ?_
  refine Jc ?_
  refine Ja (Je rfl) O O O (Ja (Vx hT O O O O) O O O (Ja (Jd rfl) O O O ?_))
  refine Jg ?_
  refine Jb ?_
  first | apply Va rfl | apply Vt rfl
  case' ht =>
    intro h
    try (first | (exfalso; omega) | (cases h; done) | (exfalso; simp at h; done) | subst h)
    all_goals
      refine Jh ?_
      refine Jc ?_
      refine Ja (Jd rfl) O O O ?_
      refine Jg ?_
      refine Jb ?_
      refine Vl ?_
      refine Vr ?_
      refine Jz ?_
      refine Vk (.inl rfl) O O zrv ?_
      refine ⟨sa, sc, pa, pc, hok, ⟨?_, rfl⟩, rfl⟩; simp_all [Dk.ready]
  case' hf =>
    intro h
    try (first | (exfalso; omega) | (cases h; done) | (exfalso; simp at h; done) | subst h)
    all_goals
      refine Jh ?_
      refine Jc ?_
      refine Ja (Je rfl) O O O ?_
      refine Ja ((by first | exact Jq rfl | exact Jm rfl | exact Jn rfl)) O O O ?_
      refine Ja (Jk hT O O O O O O) O O O ?_
      refine Ja (Jo hT O O O zrd) O O O ?_
      refine Ja (Jd rfl) O O O ?_
      refine Jg ?_
      refine Jb ?_
      first | apply Va rfl | apply Vt rfl
      case' ht =>
        intro h
        try (first | (exfalso; omega) | (cases h; done) | (exfalso; simp at h; done) | subst h)
        all_goals
          refine Jh ?_
          refine Jc ?_
          refine Ja (Jd rfl) O O O ?_
          refine Jg ?_
          refine Jb ?_
          refine Vl ?_
          refine Vr ?_
          refine Jz ?_
          refine Vk (.inl rfl) O O zrv ?_
          refine ⟨sa, sc, pa, pc, hok, ⟨?_, rfl⟩, rfl⟩; simp_all [Dk.ready]
      case' hf =>
        intro h
        try (first | (exfalso; omega) | (cases h; done) | (exfalso; simp at h; done) | subst h)
        all_goals
          refine Jh ?_
          refine Jc ?_
          refine Ja (Je rfl) O O O (Ja (y_lss O O) O O O (Ja (Je rfl) O O O ?_))
          all_goals (first | (refine Vm O O O (fun h => ?_) (fun h => ?_) <;> try (first | (exfalso; omega) | exact absurd rfl h)) | (refine Vz O O O (fun h => ?_) (fun h => ?_) <;> try (first | cases h | (exfalso; simp at h; done))) | skip)
          all_goals (first | refine Ju O O O O O O ?_ | refine Jr O O O O O ?_ | refine Jw O O O (Je rfl) O O ?_)
          all_goals (first | refine Ju O O O O O O ?_ | refine Jr O O O O O ?_ | refine Jw O O O (Je rfl) O O ?_)
          all_goals (first | refine Ju O O O O O O ?_ | refine Jr O O O O O ?_ | refine Jw O O O ((by first | exact Jq rfl | exact Jm rfl | exact Jn rfl)) O O ?_)
          all_goals (first | refine Ju O O O O O O ?_ | refine Jr O O O O O ?_ | refine Jw O O O (Jk hT O O O O O O) O O ?_)
          all_goals (first | refine Ju O O O O O O ?_ | refine Jr O O O O O ?_ | refine Jw O O O (Jo hT O O O zrd) O O ?_)
          all_goals (first | refine Ju O O O O O O ?_ | refine Jr O O O O O ?_ | refine Jw O O O (Vh hT O O O) O O ?_)
          all_goals (first | refine Ju O O O O O O ?_ | refine Jr O O O O O ?_ | refine Jw O O O (y_geq O O) O O ?_)
          all_goals (refine Ja (y_pick O O O) O O O ?_)
          all_goals (refine Ja (Jd rfl) O O O ?_)
          all_goals refine Jg ?_
          all_goals refine Jb ?_
          all_goals
            first | apply Va rfl | apply Vt rfl
            case' ht =>
              intro h
              try (first | (exfalso; omega) | (cases h; done) | (exfalso; simp at h; done) | subst h)
              all_goals
                refine Jh ?_
                refine Jc ?_
                refine Ja (Jd rfl) O O O ?_
                refine Jg ?_
                refine Jb ?_
                refine Vl ?_
                refine Vr ?_
                refine Jz ?_
                refine Vk (.inl rfl) O O zrv ?_
                refine ⟨sa, sc, pa, pc, hok, ⟨?_, rfl⟩, rfl⟩; simp_all [Dk.ready]
            case' hf =>
              intro h
              try (first | (exfalso; omega) | (cases h; done) | (exfalso; simp at h; done) | subst h)
              all_goals
                refine Ve ?_
  all_goals refine Jv ?_
  all_goals refine Jb ?_
  all_goals
    refine Jh ?_
    refine Jc ?_
    refine Ja (Jd rfl) O O O ?_
    refine Jg ?_
    refine Jb ?_
    refine Vl ?_
    refine Vk (.inl rfl) O O zrv ?_
    refine ⟨sa, sc, pa, pc, hok, ⟨?_, rfl⟩, rfl⟩; simp_all [Dk.ready]
theorem len_spec (d : Nat) (D : Dk) (r : List HProp) :
    Fc prog E 82 [Value.pointer (some ⟨d, 0, none⟩)].toArray (disk d D :: r) (fun v l' => v = .int .i64 D.safe.length ∧ l' = disk d D :: r) := by
  refine Fc.disk (d := d) (D' := D) (r := r) ?_
  refine Jt (c := ?codeC) Tryz.func82 ?hb Tryz.ntmps82 ?hl ?_
  case hb => exact rfl
  case hl => exact rfl
  refine J.disk fun sa sc pa pc hok => ?_
  refine Jh ?_
  refine Jc ?_
  refine Ja (Jd rfl) O O O ?_
  refine Jg ?_
  refine Jb ?_
  refine Jh ?_
  refine Jh ?_
  refine Jc ?_
  refine Ja (Je rfl) O O O (Ja (Vx hT O O O O) O O O ?_)
  refine Jg ?_
  refine Jb ?_
  first | apply Va rfl | apply Vt rfl
  case' ht =>
    intro h
    try (first | (exfalso; omega) | (cases h; done) | (exfalso; simp at h; done) | subst h)
    all_goals
      refine Jh ?_
      refine Jc ?_
      refine Ja (Jd rfl) O O O ?_
      refine Jg ?_
      refine Jb ?_
      refine Vl ?_
      refine Jz ?_
      refine Vk (.inl rfl) O O zrv ?_
      exact ⟨sa, sc, pa, pc, hok, ⟨rfl, rfl⟩, rfl⟩
  case' hf =>
    intro h
    try (first | (exfalso; omega) | (cases h; done) | (exfalso; simp at h; done) | subst h)
    all_goals
      refine Ve ?_
  all_goals refine Jb ?_
  all_goals
    refine Jh ?_
    refine Jc ?_
    refine Ja (Je rfl) O O O ?_
    refine Ja ((by first | exact Jq rfl | exact Jm rfl | exact Jn rfl)) O O O ?_
    refine Ja (Jk hT O O O O O O) O O O ?_
    refine Ja (Jo hT O O O zrd) O O O ?_
    refine Ja (Vh hT O O O) O O O (Ja (Jd rfl) O O O ?_)
    refine Jg ?_
    refine Jb ?_
    refine Vl ?_
    refine Vk (.inl rfl) O O zrv ?_
    exact ⟨sa, sc, pa, pc, hok, ⟨rfl, rfl⟩, rfl⟩
/-- The power goes behind so many. -/
def Dk.arm (D : Dk) (k : Int) : Dk := { D with armed := decide (0 ≤ k), left := k }
/-- One more is done. -/
def Dk.does (D : Dk) : Dk := { D with left := if D.armed then IntKind.i64.wrap (D.left - 1) else D.left, ops := IntKind.i64.wrap (D.ops + 1) }
/-- The power goes. -/
def Dk.dies (D : Dk) : Dk := { D with dead := true, armed := false }
theorem Dk.Ok.dies {D : Dk} (h : D.Ok) : D.dies.Ok := ⟨h.safe, h.pend, h.some, h.most, h.left⟩
theorem wrap_range (x : Int) : -9223372036854775808 ≤ IntKind.i64.wrap x ∧ IntKind.i64.wrap x ≤ 9223372036854775807 := by rw [IntKind.wrap_i64]; omega
theorem Dk.Ok.does {D : Dk} (h : D.Ok) : D.does.Ok := ⟨h.safe, h.pend, h.some, h.most, by
  simp only [Dk.does]
  split
  · exact wrap_range _
  · exact h.left⟩
theorem do_dies (d : Nat) (D : Dk) (f : FuncId) (cs : Array Value) (r : List HProp) (ha : D.armed = true) (h0 : D.left = 0) :
    Fc prog E 162 [Value.pointer (some ⟨d, 0, none⟩), .func (.func f) #[] cs].toArray (disk d D :: r) (fun v l' => v = .int .i64 7 ∧ l' = disk d D.dies :: r) := by
  refine Fc.disk (d := d) (D' := D.dies) (r := r) ?_
  refine Jt (c := ?codeC) Tryz.func162 ?hb Tryz.ntmps162 ?hl ?_
  case hb => exact rfl
  case hl => exact rfl
  refine J.disk fun sa sc pa pc hok => ?_
  refine Jh ?_
  refine Jc ?_
  refine Ja (Jd rfl) O O O ?_
  refine Jg ?_
  refine Jb ?_
  refine Jh ?_
  refine Jh ?_
  refine Jc ?_
  refine Ja (Je rfl) O O O ?_
  refine Ja ((by first | exact Jq rfl | exact Jm rfl | exact Jn rfl)) O O O ?_
  refine Ja (Jk hT O O O O O O) O O O ?_
  refine Ja (Jo hT O O O zrd) O O O ?_
  refine Jg ?_
  refine Jb ?_
  refine J.cond_t rfl zbl ?_
  refine Jh ?_
  refine Jh ?_
  refine Jc ?_
  refine Ja (Je rfl) O O O ?_
  refine Ja ((by first | exact Jq rfl | exact Jm rfl | exact Jn rfl)) O O O ?_
  refine Ja (Jk hT O O O O O O) O O O ?_
  refine Ja (Jo hT O O O zrd) O O O ?_
  refine Ja (y_eql O O) O O O ?_
  refine Jg ?_
  refine Jb ?_
  refine J.cond_t rfl zbl ?_
  refine Jh ?_
  refine Jc ?_
  refine Ja (Je rfl) O O O (Ja (Je rfl) O O O ?_)
  refine Ja ((by first | exact Jq rfl | exact Jm rfl | exact Jn rfl)) O O O ?_
  refine Ja (Jk hT O O O O O O) O O O ?_
  refine Jj rfl (Vw hT O O O O O zpk zix ?_)
  refine Ja ((by first | exact Jq rfl | exact Jm rfl | exact Jn rfl)) O O O ?_
  refine Ja (Jk hT O O O O O O) O O O ?_
  refine Jj rfl (Vw hT O O O O O zpk zix ?_)
  refine Jg ?_
  refine Jb ?_
  refine Jh ?_
  refine Jc ?_
  refine Ja (Jd rfl) O O O ?_
  refine Jg ?_
  refine Jb ?_
  refine Vl ?_
  refine Jz ?_
  refine Jz ?_
  refine Vk (.inl rfl) O O zrv ?_
  exact ⟨sa, sc, pa, pc, hok.dies, ⟨rfl, rfl⟩, rfl⟩
  -- UNUSED OPTIONS: call t34, val
theorem do_does (d : Nat) (D D2 : Dk) (f : FuncId) (hent : Ent prog f) (cs : List Value) (r : List HProp) (hna : ¬ (D.armed = true ∧ D.left = 0))
    (hcl : Fc prog E f cs.toArray (disk d D.does :: r) (fun _ l' => l' = disk d D2 :: r)) :
    Fc prog E 162 [Value.pointer (some ⟨d, 0, none⟩), .func (.func f) #[] cs.toArray].toArray (disk d D :: r) (fun v l' => v = .int .i64 0 ∧ l' = disk d D2 :: r) := by
  cases ha : D.armed with
  | true =>
    have h0 : ¬ D.left = 0 := fun e => hna ⟨ha, e⟩
    have hd : decide (D.left = 0) = false := decide_eq_false h0
    refine Jt (c := ?codeC) Tryz.func162 ?hb Tryz.ntmps162 ?hl ?_
    case hb => exact rfl
    case hl => exact rfl
    refine J.disk fun sa sc pa pc hok => ?_
    refine Jh ?_
    refine Jc ?_
    refine Ja (Jd rfl) O O O ?_
    refine Jg ?_
    refine Jb ?_
    refine Jh ?_
    refine Jh ?_
    refine Jc ?_
    refine Ja (Je rfl) O O O ?_
    refine Ja ((by first | exact Jq rfl | exact Jm rfl | exact Jn rfl)) O O O ?_
    refine Ja (Jk hT O O O O O O) O O O ?_
    refine Ja (Jo hT O O O zrd) O O O ?_
    refine Jg ?_
    refine Jb ?_
    refine J.cond_t rfl zbl ?_
    refine Jh ?_
    refine Jh ?_
    refine Jc ?_
    refine Ja (Je rfl) O O O ?_
    refine Ja ((by first | exact Jq rfl | exact Jm rfl | exact Jn rfl)) O O O ?_
    refine Ja (Jk hT O O O O O O) O O O ?_
    refine Ja (Jo hT O O O zrd) O O O ?_
    refine Ja (y_eql O O) O O O ?_
    refine Jg ?_
    refine Jb ?_
    refine Vf rfl zbl ?_
    refine Ve ?_
    refine Jb ?_
    refine Jc ?_
    refine Ja (Je rfl) O O O ?_
    refine Ja ((by first | exact Jq rfl | exact Jm rfl | exact Jn rfl)) O O O ?_
    refine Ja (Jk hT O O O O O O) O O O ?_
    refine Ja (Jo hT O O O zrd) O O O ?_
    refine Ja (y_sub O O O) O O O ?_
    refine Ja ((by first | exact Jq rfl | exact Jm rfl | exact Jn rfl)) O O O ?_
    refine Ja (Jk hT O O O O O O) O O O ?_
    refine Jj rfl (Vw hT O O O O O zpk zix ?_)
    refine Jg ?_
    refine Jb ?_
    refine Jh ?_
    refine Jc ?_
    refine Ja (Je rfl) O O O ?_
    refine Ja ((by first | exact Jq rfl | exact Jm rfl | exact Jn rfl)) O O O ?_
    refine Ja (Jk hT O O O O O O) O O O ?_
    refine Ja (Jo hT O O O zrd) O O O ?_
    refine Ja (Wc O O O) O O O ?_
    refine Ja ((by first | exact Jq rfl | exact Jm rfl | exact Jn rfl)) O O O ?_
    refine Ja (Jk hT O O O O O O) O O O ?_
    refine Jj rfl (Vw hT O O O O O zpk zix ?_)
    refine Jg ?_
    refine Jb ?_
    refine Jh ?_
    refine Jc ?_
    refine Ja (Je rfl) O O O ?_
    refine Jj rfl (l_callV hent O O O ((hcl.imp fun w s => disk_shut (D := D.does) (sa := sa) (sc := sc) (pa := pa) (pc := pc) hok.does (by simpa [dcells, Dk.does, ha] using s))) ?_)
    rintro _ _ rfl
    refine Jg ?_
    refine Jb ?_
    refine Jh ?_
    refine Jc ?_
    refine Ja (Jd rfl) O O O ?_
    refine Jg ?_
    refine Jb ?_
    refine Vl ?_
    refine Vk (.inl rfl) O O zrv ?_
    exact ⟨rfl, rfl⟩
  | false =>
    refine Jt (c := ?codeC) Tryz.func162 ?hb Tryz.ntmps162 ?hl ?_
    case hb => exact rfl
    case hl => exact rfl
    refine J.disk fun sa sc pa pc hok => ?_
    refine Jh ?_
    refine Jc ?_
    refine Ja (Jd rfl) O O O ?_
    refine Jg ?_
    refine Jb ?_
    refine Jh ?_
    refine Jh ?_
    refine Jc ?_
    refine Ja (Je rfl) O O O ?_
    refine Ja ((by first | exact Jq rfl | exact Jm rfl | exact Jn rfl)) O O O ?_
    refine Ja (Jk hT O O O O O O) O O O ?_
    refine Ja (Jo hT O O O zrd) O O O ?_
    refine Jg ?_
    refine Jb ?_
    refine Vf rfl zbl ?_
    refine Ve ?_
    refine Jb ?_
    refine Jh ?_
    refine Jc ?_
    refine Ja (Je rfl) O O O ?_
    refine Ja ((by first | exact Jq rfl | exact Jm rfl | exact Jn rfl)) O O O ?_
    refine Ja (Jk hT O O O O O O) O O O ?_
    refine Ja (Jo hT O O O zrd) O O O ?_
    refine Ja (Wc O O O) O O O ?_
    refine Ja ((by first | exact Jq rfl | exact Jm rfl | exact Jn rfl)) O O O ?_
    refine Ja (Jk hT O O O O O O) O O O ?_
    refine Jj rfl (Vw hT O O O O O zpk zix ?_)
    refine Jg ?_
    refine Jb ?_
    refine Jh ?_
    refine Jc ?_
    refine Ja (Je rfl) O O O ?_
    refine Jj rfl (l_callV hent O O O ((hcl.imp fun w s => disk_shut (D := D.does) (sa := sa) (sc := sc) (pa := pa) (pc := pc) hok.does (by simpa [dcells, Dk.does, ha] using s))) ?_)
    rintro _ _ rfl
    refine Jg ?_
    refine Jb ?_
    refine Jh ?_
    refine Jc ?_
    refine Ja (Jd rfl) O O O ?_
    refine Jg ?_
    refine Jb ?_
    refine Vl ?_
    refine Vk (.inl rfl) O O zrv ?_
    exact ⟨rfl, rfl⟩
/-- The pending writes that live. -/
def liveOn (lv : Nat → Bool) : List (Int × Blk) → Nat → List Blk → List Blk
  | [], _, s => s
  | p :: r, k, s => liveOn lv r (k + 1) (if lv k then s.set p.1.toNat p.2 else s)
def Dk.settle (D : Dk) (lv : Nat → Bool) : Dk := { D with safe := liveOn lv D.pending 0 D.safe, pending := [] }
theorem liveOn_length (lv : Nat → Bool) : ∀ (l : List (Int × Blk)) (k : Nat) (s : List Blk), (liveOn lv l k s).length = s.length
  | [], _, _ => rfl
  | p :: r, k, s => by simp only [liveOn]; rw [liveOn_length]; split <;> simp
theorem liveOn_blk (lv : Nat → Bool) : ∀ (l : List (Int × Blk)) (k : Nat) (s : List Blk), (∀ p ∈ l, p.2.length = 64) → (∀ b ∈ s, b.length = 64) → ∀ b ∈ liveOn lv l k s, b.length = 64
  | [], _, _, _, hs => hs
  | p :: r, k, s, hl, hs => by
    simp only [liveOn]
    refine liveOn_blk lv r _ _ (fun q hq => hl q (by simp [hq])) ?_
    split
    · intro b hb
      rcases List.mem_or_eq_of_mem_set hb with h | h
      · exact hs b h
      · subst h; exact hl p (by simp)
    · exact hs
theorem Dk.Ok.settle {D : Dk} (h : D.Ok) (lv : Nat → Bool) : (D.settle lv).Ok :=
  ⟨liveOn_blk lv _ _ _ (fun p hp => (h.pend p hp).1) h.safe, fun p hp => by simp [Dk.settle] at hp, by simp only [Dk.settle, liveOn_length]; exact h.some, by simp only [Dk.settle, liveOn_length]; exact h.most, h.left⟩
structure SetI (D : Dk) (lv : Nat → Bool) (s : Nat × List Blk) : Prop where
  le : s.1 ≤ D.pending.length
  len : s.2.length = D.safe.length
  blk : ∀ b ∈ s.2, b.length = 64
  on : liveOn lv (D.pending.drop s.1) s.1 s.2 = liveOn lv D.pending 0 D.safe
theorem SetI.next {D : Dk} {lv : Nat → Bool} {s : Nat × List Blk} (h : SetI D lv s) (hok : D.Ok) {p : Int × Blk} (hp : D.pending[s.1]? = some p) : SetI D lv (s.1 + 1, if lv s.1 then s.2.set p.1.toNat p.2 else s.2) := by
  have hlt : s.1 < D.pending.length := by
    rcases Nat.lt_or_ge s.1 D.pending.length with h | h
    · exact h
    · simp [List.getElem?_eq_none h] at hp
  have hm := List.mem_of_getElem? hp
  refine ⟨hlt, by dsimp only; split <;> simp [h.len], ?_, ?_⟩
  · dsimp only
    split
    · intro b hb
      rcases List.mem_or_eq_of_mem_set hb with hb | hb
      · exact h.blk b hb
      · subst hb; exact (hok.pend p hm).1
    · exact h.blk
  · have := h.on
    rw [List.drop_eq_getElem_cons hlt] at this
    rw [List.getElem?_eq_getElem hlt] at hp
    cases hp
    exact this
theorem settle_spec (d : Nat) (D : Dk) (f : FuncId) (hent : Ent prog f) (cs : List Value) (r : List HProp) (lv : Nat → Bool) (hpn : D.pending.length ≤ 1000000)
    (hlv : ∀ m i, i < D.pending.length → Fc prog E f ([Value.int .i64 (i : Nat)] ++ cs).toArray (m ++ r) (fun v l' => v = .bool (lv i) ∧ l' = m ++ r)) :
    Fc prog E 105 [Value.pointer (some ⟨d, 0, none⟩), .func (.func f) #[] cs.toArray].toArray (disk d D :: r) (fun v l' => v = .tuple #[] ∧ l' = disk d (D.settle lv) :: r) := by
  refine Fc.eqs ?_
  refine Jt (c := ?codeC) Tryz.func105 ?hb Tryz.ntmps105 ?hl ?_
  case hb => exact rfl
  case hl => exact rfl
  refine J.disk fun sa sc pa pc hok => ?_
  refine J.picks (Jx (Jx Jp)) ?_
  refine J.own_addr fun gp hgp hpc => ?_
  refine J.picks (Jx (Jx Jp)) ?_
  refine J.owns (fun _ h0 _ => by have := hok.some; omega) fun gs cap sp hv hsc hm hl hfull => ?_
  simp only [Value.slice.injEq] at hv
  obtain ⟨rfl, _, rfl⟩ := hv
  refine Jh ?_
  refine Jh ?_
  refine Jc ?_
  refine Ja (Je rfl) O O O ?_
  refine Ja ((by first | exact Jq rfl | exact Jm rfl | exact Jn rfl)) O O O ?_
  refine Ja (Jk hT O O O O O O) O O O ?_
  refine Ja (Jo hT O O O zrd) O O O ?_
  refine Ja (Vh hT O O O) O O O (Ja (Je rfl) O O O ?_)
  refine Jg ?_
  refine Jb ?_
  refine Vj ?_
  refine J.loop (α := Nat × List Blk) (SetI D lv) (fun s => [(0, .pointer (some ⟨d, 0, none⟩)), (1, .func (.func f) #[] cs.toArray), (9, .slice pa D.pending.length pc), (10, .int .i64 D.pending.length), (11, .int .i64 s.1)]) (fun s => row gs 221 (s.2.flatMap encB ++ sp) :: own 245 65 (.slice pa D.pending.length pc) D.pending.length (D.pending.flatMap encW) :: row d 152 (dcells D (some ⟨gs, 0, none⟩) sc pa pc) :: r) (fun s => D.pending.length - s.1) (0, D.safe) ⟨by omega, rfl, hok.safe, rfl⟩ ⟨O, O, O, O, O, trivial⟩ (fun w h => h) ?_
  rintro ⟨k, s⟩ hI
  dsimp only
  refine Jh ?_
  refine Jc ?_
  refine Ja (y_lss O O) O O O ?_
  refine Jg ?_
  refine Jb ?_
  refine Jh ?_
  first | apply Va rfl | apply Vt rfl
  case' ht =>
    intro h
    try (first | (exfalso; omega) | (cases h; done) | (exfalso; simp at h; done) | subst h)
    all_goals
      refine Ve ?_
  case' hf =>
    intro h
    try (first | (exfalso; omega) | (cases h; done) | (exfalso; simp at h; done) | subst h)
    all_goals
      refine J.exit ?_
      refine Vc ?_
      refine Vc ?_
      refine Vs ?_
      refine Jb ?_
      refine Jc ?_
      refine Ja (Je rfl) O O O ?_
      refine Ja ((by first | exact Jq rfl | exact Jm rfl | exact Jn rfl)) O O O ?_
      refine Ja (Jk hT O O O O O O) O O O ?_
      refine Jj rfl (Vw hT O O O O O zpk zix ?_)
      refine Jg ?_
      refine JE.ret0 (.inr rfl) O O  ?_
      refine ⟨rfl, fun w q => ?_⟩
      have hk : k = D.pending.length := by have := hI.le; dsimp only at this h; omega
      subst hk
      have hs : s = liveOn lv D.pending 0 D.safe := by have := hI.on; rwa [List.drop_length] at this
      have hlen : s.length = D.safe.length := hI.len
      have q1 := (q.pick (Jx (Jx Jp))).drop
      have hseg : (s.flatMap encB).length = s.length * 64 := seg_len (fun b hb => by rw [encB_length]; exact hI.blk b hb)
      have q2 := (q1.pick (Jx Jp)).owned (m := s.length) (cap := sc) (size := 64) (by omega) hm hseg (by rw [List.length_append] at hfull ⊢; rw [hseg, hlen]; omega)
      have q3 := (q2.own_nil (e := 245) (size := 65)).divide (Ji (Jx (Jx Jp)) (Ji (Jx Jp) (Ji Jp Jl)))
      refine disk_shut (D := D.settle lv) (sa := some ⟨gs, 0, none⟩) (sc := sc) (pa := none) (pc := 0) (hok.settle lv) ?_
      have e : (D.settle lv).safe = s := hs.symm
      rw [e]
      have e2 : dcells (D.settle lv) (some ⟨gs, 0, none⟩) sc none 0 = (dcells D (some ⟨gs, 0, none⟩) sc pa pc).set 1 (.slice none 0 0) := by
        simp only [dcells, liveOn_length, Dk.settle, List.length_nil, List.set_cons_succ, List.set_cons_zero]
      rw [e2]
      exact q3
  all_goals refine Jb ?_
  all_goals
    refine Jh ?_
    refine Vj ?_
    refine Jh ?_
    refine Jc ?_
    refine Ja (Je rfl) O O O ?_
    obtain rfl := hgp (by omega)
    obtain ⟨p, hp⟩ : ∃ p, D.pending[k]? = some p := ⟨_, List.getElem?_eq_getElem (by omega)⟩
    have hpo := hok.pend p (List.mem_of_getElem? hp)
    have hWl : (encW p).length = 65 := by simp [encW, hpo.1]
    have hBl : (encB p.2).length = 64 := by simp [hpo.1]
    have hseg : (s.flatMap encB).length = s.length * 64 := seg_len (fun b hb => by rw [encB_length]; exact hI.blk b hb)
    have hlen : s.length = D.safe.length := hI.len
    have hfit : 0 + p.1.toNat * i221.size + (encB p.2).length ≤ (s.flatMap encB ++ sp).length := by
      rw [hBl, List.length_append, hseg, hlen, show i221.size = 64 from rfl]
      omega
    refine Ja (Vg hT O O O O O zix zix) O O O ?_
    refine Ja (y_loadN hT O O O ((RdN.own zpk).elem hok.segW hp) hWl) O O O ?_
    refine Jj rfl (Wa hT O O zcl rfl (fun b2 => ?_))
    refine Ja (Jd rfl) O O O ?_
    refine Jj rfl (Vp hT O O O zln zoc zpk zln ?_)
    refine Jg ?_
    refine Jb ?_
    refine Jh ?_
    refine Jc ?_
    refine Ja (Je rfl) O O O (Ja (Je rfl) O O O ?_)
    refine Jj rfl (l_callV hent O O O (hlv (_ :: _ :: _ :: _ :: []) k (by omega)) ?_)
    rintro _ _ ⟨rfl, rfl⟩
    refine Jg ?_
    refine Jb ?_
    first | apply Va rfl | apply Vt rfl
    case' ht =>
      intro h
      try (first | (exfalso; omega) | (cases h; done) | (exfalso; simp at h; done) | subst h)
      all_goals
        refine Wl _ _ [(0, .q), (1, .q), (2, .q), (3, .q), (4, .q), (5, .q), (6, .q), (7, .q), (8, .q), (9, .l)] mixed (by kernel_rfl) (Ji (Jx Jp) (Jl)) ?_
        refine Jf O O O O (fun m => Je rfl) ?_
        refine Jf O O O O (fun m => (by first | exact Jq rfl | exact Jm rfl | exact Jn rfl)) ?_
        refine Jf O O O O (fun m => Jk hT O O O O O O) ?_
        refine Jf O O O O (fun m => Jo hT O O O zrda) ?_
        refine Jf O O O O (fun m => Jk hT O O O O O O) ?_
        refine Jf O O O O (fun m => Jo hT O O O zrda) ?_
        refine Jf O O O O (fun m => Jk hT O O O O O O) ?_
        refine Jf O O O O (fun m => y_loadN hT O O O (RdN.row (n := 64) (vs := encB p.2) (Vn m zpk) (by simp [encW, List.take_of_length_le, hpo.1])) hBl) ?_
        refine Jf O O O O (fun m => Vg hT O O O O O zix zix) ?_
        refine Wf O O (fun fr => l_storeN hT O O O hBl (encB_one _) Jp hfit ⟨[_], (by (repeat (first | exact Jl | exact Vu | refine Ji Jp ?_))), ?_⟩)
        refine Wh ?_
    case' hf =>
      intro h
      try (first | (exfalso; omega) | (cases h; done) | (exfalso; simp at h; done) | subst h)
      all_goals
        refine Ve ?_
    all_goals refine Jv ?_
    all_goals refine Jb ?_
    all_goals
      refine Jc ?_
      refine Ja (Wc O O zwr) O O O ?_
      refine Ja (Je rfl) O O O ?_
      refine Jg ?_
  all_goals
    by_cases hb : lv k = true
    · try (exfalso; rw [h] at hb; exact Bool.false_ne_true hb)
      all_goals
        refine Vy (s := (k, s)) (k + 1, s.set p.1.toNat p.2) (by have := hI.next hok hp; rwa [if_pos hb] at this) ⟨O, O, O, O, O, trivial⟩ (fun w q => ?_) (by omega)
        have e := seg_set (enc := encB) (sp := sp) (xs := s) (i := p.1.toNat) (y := p.2) (fun b hb => by rw [encB_length]; exact hI.blk b hb) (by omega)
        rw [hBl, Nat.zero_add] at q
        rw [← e]
        exact (q.pick (Jx Jp)).drop
    · try (exfalso; exact hb h)
      all_goals
        refine Vy (s := (k, s)) (k + 1, s) (by have := hI.next hok hp; rwa [if_neg hb] at this) ⟨O, O, O, O, O, trivial⟩ (fun w q => ?_) (by omega)
        exact q.drop
def Dk.sync (D : Dk) : Dk × Int := if D.dead then (D, 7) else if D.armed ∧ D.left = 0 then (D.dies, 7) else (D.does.settle (fun _ => true), 0)
theorem yes_spec (l : List HProp) (v : Value) : Fc prog E 167 [v].toArray l (fun u l' => u = .bool true ∧ l' = l) := by
  refine Jt (c := ?codeC) Tryz.func167 ?hb Tryz.ntmps167 ?hl ?_
  case hb => exact rfl
  case hl => exact rfl
  refine Jh ?_
  refine Jc ?_
  refine Ja (Jd rfl) O O O ?_
  refine Jg ?_
  refine Jb ?_
  refine Jh ?_
  refine Jc ?_
  refine Ja (Jd rfl) O O O ?_
  refine Jg ?_
  refine Jb ?_
  refine Vl ?_
  refine Vk (.inl rfl) O O zrv ?_
  exact ⟨rfl, rfl⟩
theorem sync1_spec (b d : Nat) (D : Dk) (r : List HProp) (hpn : D.pending.length ≤ 1000000) :
    Fc prog E 166 [Value.pointer (some ⟨b, 0, none⟩)].toArray (disk d D :: row b 49 [.pointer (some ⟨d, 0, none⟩)] :: r) (fun _ l' => l' = disk d (D.settle (fun _ => true)) :: row b 49 [.pointer (some ⟨d, 0, none⟩)] :: r) := by
  refine Jt (c := ?codeC) Tryz.func166 ?hb Tryz.ntmps166 ?hl ?_
  case hb => exact rfl
  case hl => exact rfl
  refine Jc ?_
  refine Ja (Jo hT O O O zrd) O O O ?_
  refine Jj rfl (Js e105 O O (settle_spec E d D 167 e167 [] _ (fun _ => true) hpn (fun m i _ => yes_spec E _ _)) ?_)
  rintro _ _ ⟨rfl, rfl⟩
  refine Jg ?_
  all_goals
    refine JE.ret0 (.inr rfl) O O  ?_
    rfl
theorem ready0 {D : Dk} (h : D.Ok) : D.ready 0 = if D.dead then 7 else 0 := by
  have := h.some
  have h' : ¬ ((0 : Int) < 0 ∨ (D.safe.length : Int) ≤ 0) := by omega
  simp only [Dk.ready, h', if_false]
theorem sync_spec (d : Nat) (D : Dk) (r : List HProp) (hpn : D.pending.length ≤ 1000000) :
    Fc prog E 124 [Value.pointer (some ⟨d, 0, none⟩)].toArray (disk d D :: r) (fun v l' => v = .int .i64 D.sync.2 ∧ l' = disk d D.sync.1 :: r) := by
  refine disk_okd fun hok => Fc.eqs ?_
  have hr := ready0 hok
  by_cases hd : D.dead = true
  · simp only [hd, if_true] at hr
    simp only [Dk.sync, hd, if_true]
    refine Jt (c := ?codeC) Tryz.func124 ?hb Tryz.ntmps124 ?hl ?_
    case hb => exact rfl
    case hl => exact rfl
    refine Jh ?_
    refine Jc ?_
    refine Jj rfl (l_box rfl zcl rfl (fun b1 => ?_))
    refine Ja (Jd rfl) O O O ?_
    refine Jg ?_
    refine Jb ?_
    refine Jh ?_
    refine Jh ?_
    refine Jc ?_
    refine Ja (Jo hT O O O zrd) O O O ?_
    refine Jj rfl (Js e104 O O ((ready_spec E d D 0 _).split (Ji zpk Jl)) ?_)
    rintro _ _ ⟨rfl, rfl⟩
    refine Ja (Jd rfl) O O O ?_
    refine Jg ?_
    refine Jb ?_
    refine Jh ?_
    rw [hr]
    refine Jc ?_
    refine Ja (Je rfl) O O O (Ja (Wk O O) O O O ?_)
    refine Jg ?_
    refine Jb ?_
    refine J.cond_t rfl zbl ?_
    refine Jh ?_
    refine Jc ?_
    refine Ja (Je rfl) O O O (Ja (Jd rfl) O O O ?_)
    refine Jg ?_
    refine Jb ?_
    refine Vl ?_
    refine Jz ?_
    refine Vk (.inl rfl) O O zrv ?_
    exact ⟨rfl, fun w q => (q.pick (Jx Jp)).drop⟩
  · simp only [hd] at hr
    simp only [Dk.sync, hd]
    by_cases ha : D.armed = true ∧ D.left = 0
    · simp only [ha, and_self, if_true]
      refine Jt (c := ?codeC) Tryz.func124 ?hb Tryz.ntmps124 ?hl ?_
      case hb => exact rfl
      case hl => exact rfl
      refine Jh ?_
      refine Jc ?_
      refine Jj rfl (l_box rfl zcl rfl (fun b1 => ?_))
      refine Ja (Jd rfl) O O O ?_
      refine Jg ?_
      refine Jb ?_
      refine Jh ?_
      refine Jh ?_
      refine Jc ?_
      refine Ja (Jo hT O O O zrd) O O O ?_
      refine Jj rfl (Js e104 O O ((ready_spec E d D 0 _).split (Ji zpk Jl)) ?_)
      rintro _ _ ⟨rfl, rfl⟩
      refine Ja (Jd rfl) O O O ?_
      refine Jg ?_
      refine Jb ?_
      refine Jh ?_
      rw [hr]
      refine Jc ?_
      refine Ja (Je rfl) O O O (Ja (Wk O O) O O O ?_)
      refine Jg ?_
      refine Jb ?_
      refine Vf rfl zbl ?_
      refine Ve ?_
      refine Jb ?_
      refine Jh ?_
      refine Jc ?_
      refine Ja (Jo hT O O O zrd) O O O ?_
      refine Ja (y_makeFunc O O) O O O ?_
      refine Jj rfl (Js e162 O O ((do_dies E d D _ _ _ ha.1 ha.2).split (Ji zpk Jl)) ?_)
      rintro _ _ ⟨rfl, rfl⟩
      refine Ja (Jd rfl) O O O ?_
      refine Jg ?_
      refine Jb ?_
      refine Vl ?_
      refine Vk (.inl rfl) O O zrv ?_
      exact ⟨rfl, fun w q => (q.pick (Jx Jp)).drop⟩
    · simp only [ha, if_false]
      refine Jt (c := ?codeC) Tryz.func124 ?hb Tryz.ntmps124 ?hl ?_
      case hb => exact rfl
      case hl => exact rfl
      refine Jh ?_
      refine Jc ?_
      refine Jj rfl (l_box rfl zcl rfl (fun b1 => ?_))
      refine Ja (Jd rfl) O O O ?_
      refine Jg ?_
      refine Jb ?_
      refine Jh ?_
      refine Jh ?_
      refine Jc ?_
      refine Ja (Jo hT O O O zrd) O O O ?_
      refine Jj rfl (Js e104 O O ((ready_spec E d D 0 _).split (Ji zpk Jl)) ?_)
      rintro _ _ ⟨rfl, rfl⟩
      refine Ja (Jd rfl) O O O ?_
      refine Jg ?_
      refine Jb ?_
      refine Jh ?_
      rw [hr]
      refine Jc ?_
      refine Ja (Je rfl) O O O (Ja (Wk O O) O O O ?_)
      refine Jg ?_
      refine Jb ?_
      refine Vf rfl zbl ?_
      refine Ve ?_
      refine Jb ?_
      refine Jh ?_
      refine Jc ?_
      refine Ja (Jo hT O O O zrd) O O O ?_
      refine Ja (y_makeFunc O O) O O O ?_
      refine Jj rfl (Js e162 O O ((do_does E d D _ _ e166 [_] _ ha (sync1_spec E _ d D.does _ hpn)).split (Ji zpk Jl)) ?_)
      rintro _ _ ⟨rfl, rfl⟩
      refine Ja (Jd rfl) O O O ?_
      refine Jg ?_
      refine Jb ?_
      refine Vl ?_
      refine Vk (.inl rfl) O O zrv ?_
      exact ⟨rfl, fun w q => (q.pick (Jx Jp)).drop⟩
def Dk.push (D : Dk) (i : Int) (b : Blk) : Dk := { D with pending := D.pending ++ [(i, b)] }
theorem Dk.Ok.push {D : Dk} (h : D.Ok) {i : Int} {b : Blk} (hb : b.length = 64) (hi : 0 ≤ i ∧ i < D.safe.length) : (D.push i b).Ok :=
  ⟨h.safe, fun p hp => by
    simp only [Dk.push, List.mem_append, List.mem_singleton] at hp
    rcases hp with hp | rfl
    · exact h.pend p hp
    · exact ⟨hb, hi⟩, h.some, h.most, h.left⟩
theorem write1_spec (b0 b1 b2 d : Nat) (D : Dk) (i : Int) (b : Blk) (hb : b.length = 64) (hi : 0 ≤ i ∧ i < D.safe.length) (r : List HProp) (hpn : D.pending.length ≤ 1000000) :
    Fc prog E 163 [Value.pointer (some ⟨b0, 0, none⟩), .pointer (some ⟨b1, 0, none⟩), .pointer (some ⟨b2, 0, none⟩)].toArray
      (disk d D :: row b0 49 [.pointer (some ⟨d, 0, none⟩)] :: row b1 3 [.int .i64 i] :: row b2 221 (encB b) :: r)
      (fun _ l' => l' = disk d (D.push i b) :: row b0 49 [.pointer (some ⟨d, 0, none⟩)] :: row b1 3 [.int .i64 i] :: row b2 221 (encB b) :: r) := by
  refine Wi ?_
  have hBl : (encB b).length = 64 := by rw [encB_length]; exact hb
  have hWl : (encW (i, b)).length = 65 := by simp [encW, hb]
  refine Jt (c := ?codeC) Tryz.func163 ?hb Tryz.ntmps163 ?hl ?_
  case hb => exact rfl
  case hl => exact rfl
  refine J.disk fun sa sc pa pc hok => ?_
  refine Wl _ _ [(0, .q), (1, .q), (2, .q), (3, .q), (5, .q), (6, .q), (7, .q), (4, .l), (8, .n), (9, .l), (10, .q), (11, .q), (12, .l)] mixed (by kernel_rfl) (Ji (Jp) (Ji (Jx Jp) (Jl))) ?_
  refine Jf O O O O (fun m => Jo hT O O O zrda) ?_
  refine Jf O O O O (fun m => Jo hT O O O zrda) ?_
  refine Jf O O O O (fun m => (by first | exact Jq rfl | exact Jm rfl | exact Jn rfl)) ?_
  refine Jf O O O O (fun m => Jk hT O O O O O O) ?_
  refine Jf O O O O (fun m => Jo hT O O O zrda) ?_
  refine Jf O O O O (fun m => y_loadN hT O O O (RdN.row (n := 64) (vs := encB b) (Vn m zpk) (by simp [List.take_of_length_le, hb])) hBl) ?_
  refine Jf O O O O (fun m => y_build (cs := encW (i, b)) hT O O O O O O ⟨⟨rfl, Nat.le_of_ble_eq_true rfl⟩, ⟨hBl, Nat.le_of_ble_eq_true rfl⟩, trivial⟩ (fillE_two rfl hBl)) ?_
  refine Wf O O (fun fr => LS.ofY O O (Jo hT O O O zrd) ⟨[_, _], (by (repeat (first | exact Jl | exact Vu | refine Ji Jp ?_))), ?_⟩)
  refine JM.lay O O O O (fun a hf => lays_buildSlice hT O O O O hf O O O zfl) (fun b1 => ?_)
  refine Wf O O (fun fr => l_append hT O O O O O O O O zpk zrdn zln zoc zab zix rfl (fun ab2 cb2 hb2 => ⟨[_, _, _], (by (repeat (first | exact Jl | exact Vu | refine Ji Jp ?_))), ?_⟩))
  refine Jf O O O O (fun m => (by first | exact Jq rfl | exact Jm rfl | exact Jn rfl)) ?_
  refine Jf O O O O (fun m => Jk hT O O O O O O) ?_
  refine Wf O O (fun fr => Vw hT O O O O O zpk zix (⟨[_, _, _], (by (repeat (first | exact Jl | exact Vu | refine Ji Jp ?_))), ?_⟩))
  refine Wh ?_
  all_goals
    refine JE.ret0 (.inr rfl) O O  ?_
    refine ⟨_, fun w q => ?_, rfl⟩
    refine disk_shut (D := D.push i b) (sa := sa) (sc := sc) (pa := ab2) (pc := cb2) (hok.push hb hi) ?_
    have e1 : (D.push i b).pending.length = D.pending.length + 1 := by simp [Dk.push]
    have e2 : (D.push i b).pending.flatMap encW = D.pending.flatMap encW ++ encW (i, b) := by simp [Dk.push]
    have e3 : dcells (D.push i b) sa sc ab2 cb2 = (dcells D sa sc pa pc).set 1 (.slice ab2 (D.pending.length + 1) cb2) := by simp [dcells, Dk.push]
    rw [e1, e2, e3]
    exact ((q.pick (Jx (Jx Jp))).drop).divide (Ji Jp (Ji (Jx Jp) (Ji Jp Jl)))
end Go.Proofs.YtimekohdlofmaaaGreat
namespace Go.Proofs.YtimekohdlofmaaaGreat
open Go Go.SL
attribute [local irreducible] J JL JE JM LS Y Fc RV Code.wp wpList Code.wpIn wpListIn
variable (E : World)
def Dk.write (D : Dk) (i : Int) (b : Blk) : Dk × Int := if D.ready i ≠ 0 then (D, D.ready i) else if D.armed ∧ D.left = 0 then (D.dies, 7) else (D.does.push i b, 0)
theorem ready_zero {D : Dk} {i : Int} (h : D.ready i = 0) : D.dead = false ∧ 0 ≤ i ∧ i < D.safe.length := by
  simp only [Dk.ready] at h
  split at h
  · simp at h
  · split at h
    · simp at h
    · rename_i h1 h2; exact ⟨by simpa using h1, by omega⟩
theorem write_spec (d : Nat) (D : Dk) (i : Int) (b : Blk) (hb : b.length = 64) (r : List HProp) (hpn : D.pending.length ≤ 1000000) :
    Fc prog E 122 [Value.pointer (some ⟨d, 0, none⟩), .int .i64 i, .agg (encB b).toArray].toArray (disk d D :: r) (fun v l' => v = .int .i64 (D.write i b).2 ∧ l' = disk d (D.write i b).1 :: r) := by
  refine Fc.eqs ?_
  by_cases hr : D.ready i = 0
  · have hz := ready_zero hr
    have hr' : decide (¬ D.ready i = 0) = false := by simp [hr]
    by_cases ha : D.armed = true ∧ D.left = 0
    · simp only [Dk.write, hr, ha, and_self, ne_eq, not_true_eq_false, if_false, if_true]
      refine Jt (c := ?codeC) Tryz.func122 ?hb Tryz.ntmps122 ?hl ?_
      case hb => exact rfl
      case hl => exact rfl
      refine Jh ?_
      refine Jc ?_
      refine Jj rfl (l_box rfl zcl rfl (fun b1 => ?_))
      refine Jj rfl (l_box rfl zcl rfl (fun b2 => ?_))
      refine Jj rfl (l_box rfl zcl rfl (fun b3 => ?_))
      refine Ja (Jd rfl) O O O ?_
      refine Jg ?_
      refine Jb ?_
      refine Jh ?_
      refine Jh ?_
      refine Jc ?_
      refine Ja (Jo hT O O O zrd) O O O ?_
      refine Ja (Jo hT O O O zrd) O O O ?_
      refine Jj rfl (Js e104 O O ((ready_spec E d D i _).split (Ji zpk Jl)) ?_)
      rintro _ _ ⟨rfl, rfl⟩
      refine Ja (Jd rfl) O O O ?_
      refine Jg ?_
      refine Jb ?_
      refine Jh ?_
      refine Jc ?_
      refine Ja (Je rfl) O O O (Ja (Wk O O) O O O ?_)
      refine Jg ?_
      refine Jb ?_
      refine Vf rfl zbl ?_
      refine Ve ?_
      refine Jb ?_
      refine Jh ?_
      refine Jc ?_
      refine Ja (Jo hT O O O zrd) O O O ?_
      refine Ja (y_makeFunc O O) O O O ?_
      refine Jj rfl (Js e162 O O ((do_dies E d D _ _ _ ha.1 ha.2).split (Ji zpk Jl)) ?_)
      rintro _ _ ⟨rfl, rfl⟩
      refine Ja (Jd rfl) O O O ?_
      refine Jg ?_
      refine Jb ?_
      refine Vl ?_
      refine Vk (.inl rfl) O O zrv ?_
      exact ⟨rfl, fun w q => (((q.pick (Jx Jp)).drop.pick (Jx Jp)).drop.pick (Jx Jp)).drop⟩
    · simp only [Dk.write, hr, ha, ne_eq, not_true_eq_false, if_false]
      refine Jt (c := ?codeC) Tryz.func122 ?hb Tryz.ntmps122 ?hl ?_
      case hb => exact rfl
      case hl => exact rfl
      refine Jh ?_
      refine Jc ?_
      refine Jj rfl (l_box rfl zcl rfl (fun b1 => ?_))
      refine Jj rfl (l_box rfl zcl rfl (fun b2 => ?_))
      refine Jj rfl (l_box rfl zcl rfl (fun b3 => ?_))
      refine Ja (Jd rfl) O O O ?_
      refine Jg ?_
      refine Jb ?_
      refine Jh ?_
      refine Jh ?_
      refine Jc ?_
      refine Ja (Jo hT O O O zrd) O O O ?_
      refine Ja (Jo hT O O O zrd) O O O ?_
      refine Jj rfl (Js e104 O O ((ready_spec E d D i _).split (Ji zpk Jl)) ?_)
      rintro _ _ ⟨rfl, rfl⟩
      refine Ja (Jd rfl) O O O ?_
      refine Jg ?_
      refine Jb ?_
      refine Jh ?_
      refine Jc ?_
      refine Ja (Je rfl) O O O (Ja (Wk O O) O O O ?_)
      refine Jg ?_
      refine Jb ?_
      refine Vf rfl zbl ?_
      refine Ve ?_
      refine Jb ?_
      refine Jh ?_
      refine Jc ?_
      refine Ja (Jo hT O O O zrd) O O O ?_
      refine Ja (y_makeFunc O O) O O O ?_
      refine Jj rfl (Js e162 O O ((do_does E d D _ _ e163 [_, _, _] _ ha (write1_spec E _ _ _ d D.does i b hb hz.2 _ hpn)).split (Ji zpk (Ji zpk (Ji zpk (Ji zpk Jl))))) ?_)
      rintro _ _ ⟨rfl, rfl⟩
      refine Ja (Jd rfl) O O O ?_
      refine Jg ?_
      refine Jb ?_
      refine Vl ?_
      refine Vk (.inl rfl) O O zrv ?_
      exact ⟨rfl, fun w q => (((q.pick (Jx Jp)).drop.pick (Jx Jp)).drop.pick (Jx Jp)).drop⟩
  · simp only [Dk.write, hr, ne_eq, not_false_eq_true, if_true]
    have hr' : decide (¬ D.ready i = 0) = true := by simp [hr]
    refine Jt (c := ?codeC) Tryz.func122 ?hb Tryz.ntmps122 ?hl ?_
    case hb => exact rfl
    case hl => exact rfl
    refine Jh ?_
    refine Jc ?_
    refine Jj rfl (l_box rfl zcl rfl (fun b1 => ?_))
    refine Jj rfl (l_box rfl zcl rfl (fun b2 => ?_))
    refine Jj rfl (l_box rfl zcl rfl (fun b3 => ?_))
    refine Ja (Jd rfl) O O O ?_
    refine Jg ?_
    refine Jb ?_
    refine Jh ?_
    refine Jh ?_
    refine Jc ?_
    refine Ja (Jo hT O O O zrd) O O O ?_
    refine Ja (Jo hT O O O zrd) O O O ?_
    refine Jj rfl (Js e104 O O ((ready_spec E d D i _).split (Ji zpk Jl)) ?_)
    rintro _ _ ⟨rfl, rfl⟩
    refine Ja (Jd rfl) O O O ?_
    refine Jg ?_
    refine Jb ?_
    refine Jh ?_
    refine Jc ?_
    refine Ja (Je rfl) O O O (Ja (Wk O O) O O O ?_)
    refine Jg ?_
    refine Jb ?_
    refine J.cond_t rfl zbl ?_
    refine Jh ?_
    refine Jc ?_
    refine Ja (Je rfl) O O O (Ja (Jd rfl) O O O ?_)
    refine Jg ?_
    refine Jb ?_
    refine Vl ?_
    refine Jz ?_
    refine Vk (.inl rfl) O O zrv ?_
    exact ⟨rfl, fun w q => (((q.pick (Jx Jp)).drop.pick (Jx Jp)).drop.pick (Jx Jp)).drop⟩
end Go.Proofs.YtimekohdlofmaaaGreat
namespace Go.Proofs.YtimekohdlofmaaaGreat
open Go Go.SL
attribute [local irreducible] J JL JE JM LS Y Fc RV Code.wp wpList Code.wpIn wpListIn
attribute [local irreducible] Yc
variable (E : World)
theorem backward_spec (v : Value) (l : List HProp) (hv : v.oneCell' = true) : Fc prog E 175 [v].toArray l
    (fun u l' => ∃ b, u = .func (.func 195) #[] [Value.pointer (some ⟨b, 0, none⟩)].toArray ∧ l' = row b 150 [v] :: l) := by
  have hvc : v.cells = [v].toArray := by cases v <;> simp_all [Value.cells, Value.oneCell']
  refine Jt (c := ?codeC) Tryz.func175 ?hb Tryz.ntmps175 ?hl ?_
  case hb => exact rfl
  case hl => exact rfl
  refine Jh ?_
  refine Jc ?_
  refine Jj rfl (l_box rfl hvc rfl (fun b1 => ?_))
  refine Ja (Jd rfl) O O O ?_
  refine Jg ?_
  refine Jb ?_
  refine Jh ?_
  refine Jc ?_
  refine Ja (y_makeFunc O O) O O O (Ja (Jd rfl) O O O ?_)
  refine Jg ?_
  refine Jb ?_
  refine Vl ?_
  refine Vk (.inl rfl) O O zrv ?_
  exact ⟨b1, rfl, rfl⟩
/-- What a round finds and leaves. -/
theorem backward1_spec (k b : Nat) (pa : Option Addr) (pc : Nat) (xs : List (Int × Blk)) (hxs : ∀ x ∈ xs, (encW x).length = 65) (hn : xs.length ≤ 1000000) (St Fin : Nat → List HProp)
    (hrd : ∀ j, j < xs.length → ∃ g o, pa = some ⟨g, o, none⟩ ∧ ∀ m, RdN (m ++ St j) g o (xs.flatMap encW))
    (hy : ∀ j x, j < xs.length → xs[xs.length - 1 - j]? = some x → Yc prog E k [Value.int .i64 ((xs.length : Int) - 1 - j), .agg (encW x).toArray].toArray (row b 150 [.slice pa xs.length pc] :: St j)
      (fun v l' => (v = .bool true ∧ l' = row b 150 [.slice pa xs.length pc] :: St (j + 1)) ∨ (v = .bool false ∧ l' = row b 150 [.slice pa xs.length pc] :: Fin j))) :
    Fc prog E 195 [.func (.yield k) #[] #[], Value.pointer (some ⟨b, 0, none⟩)].toArray (row b 150 [.slice pa xs.length pc] :: St 0)
      (fun _ l' => l' = row b 150 [.slice pa xs.length pc] :: St xs.length ∨ ∃ j, j < xs.length ∧ l' = row b 150 [.slice pa xs.length pc] :: Fin j) := by
  refine Jt (c := ?codeC) Tryz.func195 ?hb Tryz.ntmps195 ?hl ?_
  case hb => exact rfl
  case hl => exact rfl
  refine Jh ?_
  refine Jc ?_
  refine Ja (Jo hT O O O zrd) O O O ?_
  refine Ja (Vh hT O O O) O O O ?_
  refine Ja (y_sub O O zwr) O O O ?_
  refine Ja (Jd rfl) O O O ?_
  refine Jg ?_
  refine Jb ?_
  refine Vj ?_
  refine J.loop (α := Nat) (fun j => j ≤ xs.length) (fun j => [(0, .func (.yield k) #[] #[]), (1, .pointer (some ⟨b, 0, none⟩)), (3, .int .i64 ((xs.length : Int) - 1 - j))]) (fun j => row b 150 [.slice pa xs.length pc] :: St j) (fun j => xs.length - j) 0 (by omega) ⟨rfl, rfl, (congrArg (fun z => some (Value.int .i64 z)) (by first | omega | (dsimp only; omega))), trivial⟩ (fun w h => h) ?_
  intro j hj
  refine Jh ?_
  refine Jh ?_
  refine Jc ?_
  refine Ja (Je rfl) O O O (Ja (y_geq O O) O O O ?_)
  refine Jg ?_
  refine Jb ?_
  first | apply Va rfl | apply Vt rfl
  case' ht =>
    intro h
    try (first | (exfalso; omega) | (cases h; done) | (exfalso; simp at h; done) | subst h)
    all_goals
      refine Ve ?_
  case' hf =>
    intro h
    try (first | (exfalso; omega) | (cases h; done) | (exfalso; simp at h; done) | subst h)
    all_goals
      refine J.exit ?_
      refine Vc ?_
      refine Vc ?_
      refine Vs ?_
      refine JE.ret0 (.inr rfl) O O  ?_
      first
      | exact .inr ⟨j, hlt, rfl⟩
      | (obtain rfl : j = xs.length := by omega
         exact .inl rfl)
  all_goals refine Jb ?_
  all_goals
    refine Jh ?_
    refine Vj ?_
    refine Jh ?_
    refine Jc ?_
    refine Ja (Je rfl) O O O (Ja (Je rfl) O O O ?_)
    refine Ja (Jo hT O O O zrd) O O O ?_
    refine Ja (Je rfl) O O O ?_
    have hlt : j < xs.length := by omega
    obtain ⟨g, o, rfl, hr⟩ := hrd j hlt
    obtain ⟨x, hx⟩ : ∃ x, xs[xs.length - 1 - j]? = some x := ⟨_, List.getElem?_eq_getElem (by omega)⟩
    have hxl := hxs x (List.mem_of_getElem? hx)
    refine Ja (Vg hT O O O O O zix zix) O O O ?_
    refine Ja (y_loadN hT O O O (vs := encW x) (by
      have h1 := (hr [row b 150 [.slice (some ⟨g, o, none⟩) xs.length pc]]).elem hxs hx
      have e1 : ((xs.length : Int) - 1 - (j : Int)).toNat = xs.length - 1 - j := by omega
      rw [e1]; exact h1) hxl) O O O ?_
    refine JL.yield O O O (hy j x hlt hx) ?_
    rintro _ _ (⟨rfl, rfl⟩ | ⟨rfl, rfl⟩)
    all_goals (refine Ja (y_not rfl) O O O ?_)
    all_goals refine Jg ?_
    all_goals refine Jb ?_
    all_goals
      first | apply Va rfl | apply Vt rfl
      case' ht =>
        intro h
        try (first | (exfalso; omega) | (cases h; done) | (exfalso; simp at h; done) | subst h)
        all_goals
          refine Vl ?_
          refine Vr ?_
          refine Jz ?_
          refine Jz ?_
          refine Vr ?_
          refine JE.ret0 (.inl rfl) O O  ?_
          first
          | exact .inr ⟨j, hlt, rfl⟩
          | (obtain rfl : j = xs.length := by omega
             exact .inl rfl)
      case' hf =>
        intro h
        try (first | (exfalso; omega) | (cases h; done) | (exfalso; simp at h; done) | subst h)
        all_goals
          refine Ve ?_
    all_goals refine Jv ?_
    all_goals refine Jb ?_
    all_goals
      refine Jc ?_
      refine Ja (Je rfl) O O O ?_
      refine Ja (y_sub O O zwr) O O O ?_
      refine Ja (Jd rfl) O O O ?_
      refine Jg ?_
  all_goals
    refine Vy (s := j) (j + 1) (by omega) ⟨rfl, rfl, (congrArg (fun z => some (Value.int .i64 z)) (by first | omega | (dsimp only; omega))), trivial⟩ (fun w h => h) (by omega)
def zeroB : Blk := List.replicate 64 0
theorem encB_zero : encB zeroB = List.replicate 64 (Value.int .u8 0) := by simp [encB, ints, zeroB]
/-- What a sector holds. -/
def Dk.find (D : Dk) (i : Int) : Blk := match D.pending.reverse.find? (fun p => p.1 = i) with
  | some p => p.2
  | none => D.safe.getD i.toNat []
def Dk.read (D : Dk) (i : Int) : Blk := if D.ready i = 0 then D.find i else zeroB
/-- The last j pending writes are of other sectors. -/
def Other (D : Dk) (i : Int) (j : Nat) : Prop := ∀ q, D.pending.length - j ≤ q → ∀ p, D.pending[q]? = some p → p.1 ≠ i
theorem find_none {D : Dk} {i : Int} (h : Other D i D.pending.length) : D.find i = D.safe.getD i.toNat [] := by
  have e : D.pending.reverse.find? (fun p => p.1 = i) = none := by
    rw [List.find?_eq_none]
    intro p hp
    obtain ⟨q, hq⟩ := List.mem_iff_getElem?.1 (List.mem_reverse.1 hp)
    simpa using h q (by omega) p hq
  simp [Dk.find, e]
theorem find_some {D : Dk} {i : Int} {j : Nat} {x : Int × Blk} (hj : j < D.pending.length) (h : Other D i j) (hx : D.pending[D.pending.length - 1 - j]? = some x) (hi : x.1 = i) : D.find i = x.2 := by
  have e : D.pending.reverse.find? (fun p => p.1 = i) = some x := by
    rw [List.find?_eq_some_iff_getElem]
    have hl : D.pending.length - 1 - j < D.pending.length := by omega
    rw [List.getElem?_eq_getElem hl] at hx
    refine ⟨by simpa using hi, j, by simpa using hj, ?_, fun q hq => ?_⟩
    · rw [List.getElem_reverse]; exact Option.some.inj hx
    · rw [List.getElem_reverse]
      simpa using h (D.pending.length - 1 - q) (by omega) _ (List.getElem?_eq_getElem (by omega))
  simp [Dk.find, e]
theorem Other.next {D : Dk} {i : Int} {j : Nat} {x : Int × Blk} (h : Other D i j) (hx : D.pending[D.pending.length - 1 - j]? = some x) (hi : ¬ x.1 = i) : Other D i (j + 1) := by
  intro q hq p hp
  by_cases hqe : q = D.pending.length - 1 - j
  · subst hqe; rw [hx] at hp; cases hp; exact hi
  · exact h q (by omega) p hp
theorem Dk.Ok.find {D : Dk} (h : D.Ok) {i : Int} (hi : 0 ≤ i ∧ i < D.safe.length) : (D.find i).length = 64 := by
  unfold Dk.find
  split
  · rename_i p hp
    have := List.mem_of_find?_eq_some hp
    exact (h.pend p (List.mem_reverse.1 this)).1
  · rw [List.getD_eq_getElem?_getD, List.getElem?_eq_getElem (by omega)]
    exact h.safe _ (List.getElem_mem _)
theorem read_bad (d : Nat) (D : Dk) (i : Int) (r : List HProp) (hr : ¬ D.ready i = 0) :
    Fc prog E 141 [Value.pointer (some ⟨d, 0, none⟩), .int .i64 i].toArray (disk d D :: r) (fun v l' => v = .tuple #[.agg (encB zeroB).toArray, .int .i64 (D.ready i)] ∧ l' = disk d D :: r) := by
  refine Fc.eqs ?_
  rw [encB_zero]
  have hr' : decide (¬ D.ready i = 0) = true := by simp [hr]
  refine Fc.of_bodyM (c := ?codeC) Tryz.func141 ?hb Tryz.ntmps141 ?hl ?_
  case hb => exact rfl
  case hl => exact rfl
  refine Jh ?_
  refine Jc ?_
  refine Jj rfl (l_box rfl zcl rfl (fun b1 => ?_))
  refine Jj rfl (Wa hT O O zcl rfl (fun b2 => ?_))
  refine Jj rfl (Wa hT O O zcl rfl (fun b3 => ?_))
  refine Jg ?_
  refine Jb ?_
  refine Jh ?_
  refine Jh ?_
  refine Jc ?_
  refine Ja (Je rfl) O O O ?_
  refine Ja (Jo hT O O O zrd) O O O ?_
  refine Jj rfl (Js e104 O O ((ready_spec E d D i _).split (Ji zpk Jl)) ?_)
  rintro _ _ ⟨rfl, rfl⟩
  refine Ja (Jd rfl) O O O ?_
  refine Jg ?_
  refine Jb ?_
  refine Jh ?_
  refine Jc ?_
  refine Ja (Je rfl) O O O (Ja (Wk O O) O O O ?_)
  refine Jg ?_
  refine Jb ?_
  refine J.cond_t rfl zbl ?_
  refine Jh ?_
  refine Jc ?_
  refine Ja (y_build_arr0 hT O O O O) O O O (Ja (Je rfl) O O O ?_)
  refine Jj rfl (Vp hT O O O zln zoc zpk zln ?_)
  refine Jj rfl (Vw hT O O O O O zpk zix ?_)
  refine Jg ?_
  refine Jb ?_
  refine Vl ?_
  refine Jz ?_
  first | refine JE.unmark (.inl rfl) rfl zpk ?_ | refine JE.nomark (.inl rfl) rfl ?_
  refine Wg (.inl rfl) O O zrv zrv ?_
  refine ⟨rfl, fun w q => ?_⟩
  exact (q.drop.drop.pick (Jx Jp)).drop
/-- The list of Read's loop, and how it is left. -/
def readS (D : Dk) (i : Int) (K : LoopState → Option Code → HProp) (DD d b1 b2 b3 : Nat) (sa : Option Addr) (sc : Nat) (pa : Option Addr) (pc : Nat) (r : List HProp) (j : Nat) : List HProp :=
  pur (Other D i j) :: K .ready none :: blk DD (.deferred (some [])) :: own 245 65 (.slice pa D.pending.length pc) D.pending.length (D.pending.flatMap encW) :: own 221 64 (.slice sa D.safe.length sc) D.safe.length (D.safe.flatMap encB) :: row d 152 (dcells D sa sc pa pc) :: row b3 27 [.int .i64 0] :: row b2 221 (List.replicate 64 (.int .u8 0)) :: row b1 3 [.int .i64 i] :: r
def readF (D : Dk) (i : Int) (K : LoopState → Option Code → HProp) (DD d b1 b2 b3 : Nat) (sa : Option Addr) (sc : Nat) (pa : Option Addr) (pc : Nat) (r : List HProp) (_ : Nat) : List HProp :=
  K .done (some .ret) :: blk DD (.deferred (some [])) :: own 245 65 (.slice pa D.pending.length pc) D.pending.length (D.pending.flatMap encW) :: own 221 64 (.slice sa D.safe.length sc) D.safe.length (D.safe.flatMap encB) :: row d 152 (dcells D sa sc pa pc) :: row b3 27 [.int .i64 0] :: row b2 221 (encB (D.find i)) :: row b1 3 [.int .i64 i] :: r
theorem read_good (d : Nat) (D : Dk) (i : Int) (r : List HProp) (hr : D.ready i = 0) (hpn : D.pending.length ≤ 1000000) :
    Fc prog E 141 [Value.pointer (some ⟨d, 0, none⟩), .int .i64 i].toArray (disk d D :: r) (fun v l' => v = .tuple #[.agg (encB (D.find i)).toArray, .int .i64 0] ∧ l' = disk d D :: r) := by
  refine disk_okd fun hok0 => Fc.eqs ?_
  have hz := ready_zero hr
  have hr' : decide (¬ D.ready i = 0) = false := by simp [hr]
  refine Fc.of_bodyM (c := ?codeC) Tryz.func141 ?hb Tryz.ntmps141 ?hl ?_
  case hb => exact rfl
  case hl => exact rfl
  refine Jh ?_
  refine Jc ?_
  refine Jj rfl (l_box rfl zcl rfl (fun b1 => ?_))
  refine Jj rfl (Wa hT O O zcl rfl (fun b2 => ?_))
  refine Jj rfl (Wa hT O O zcl rfl (fun b3 => ?_))
  refine Jg ?_
  refine Jb ?_
  refine Jh ?_
  refine Jh ?_
  refine Jc ?_
  refine Ja (Je rfl) O O O ?_
  refine Ja (Jo hT O O O zrd) O O O ?_
  refine Jj rfl (Js e104 O O ((ready_spec E d D i _).split (Ji zpk Jl)) ?_)
  rintro _ _ ⟨rfl, rfl⟩
  refine Ja (Jd rfl) O O O ?_
  refine Jg ?_
  refine Jb ?_
  refine Jh ?_
  refine Jc ?_
  refine Ja (Je rfl) O O O (Ja (Wk O O) O O O ?_)
  refine Jg ?_
  refine Jb ?_
  refine Vf rfl zbl ?_
  refine Ve ?_
  refine Jb ?_
  refine Jh ?_
  refine Jh ?_
  refine J.disk fun sa sc pa pc hok => ?_
  refine J.picks (Jx Jp) (J.own_addr fun gs hgs hsc => ?_)
  obtain rfl := hgs hok.some
  refine J.picks (Jx (Jx Jp)) (J.own_addr fun gp hgp hpc => ?_)
  refine Jc ?_
  refine Ja (Je rfl) O O O ?_
  refine Ja ((by first | exact Jq rfl | exact Jm rfl | exact Jn rfl)) O O O ?_
  refine Ja (Jk hT O O O O O O) O O O ?_
  refine Ja (Jo hT O O O zrd) O O O ?_
  refine Jj rfl (Js e175 O O (backward_spec E _ _ rfl) ?_)
  rintro _ _ ⟨bb, rfl, rfl⟩
  refine Jg ?_
  refine Jb ?_
  refine Vj ?_
  refine J.rangeFunc e195 rfl fun fn a0 k DD K hK hf0 => ?_
  refine Fc.mono (Fc.imp (backward1_spec E k bb pa pc D.pending hok.segW hpn (readS D i K DD d b1 b2 b3 (some ⟨gs, 0, none⟩) sc pa pc r) (readF D i K DD d b1 b2 b3 (some ⟨gs, 0, none⟩) sc pa pc r) (fun j hj => ?hrd) (fun j x hj hx => ?hy)) ?hi) ?hm
  case hrd => exact ⟨gp, 0, hgp (by omega), fun m => by unfold readS; rw [hgp (by omega)]; exact RdN.own (Vn m zpk)⟩
  case hi =>
    intro w s
    have s2 := s.divide (p := [row bb 150 [.slice pa D.pending.length pc], K .ready none]) (Ji zpk (Ji zpk Jl))
    exact ((s2.topur (p := Other D i 0) (fun q hq p hp => by simp [List.getElem?_eq_none (by omega : D.pending.length ≤ q)] at hp)).pick (Jx Jp))
  case hy =>
    unfold readS
    refine Yc.split (Yc.purs fun hO => ?_) (Ji (Jx Jp) (Ji (Jx Jp) Jl))
    refine Yc.post ?_
    have hxl := hok.segW x (List.mem_of_getElem? hx)
    refine Yc.of_body hK hf0 rfl (by decide) ?_
    refine Jc ?_
    refine Jj rfl (Wa hT O O zcl rfl (fun b6 => ?_))
    refine Jj rfl (Vp hT O O O zln zoc zpk zln ?_)
    refine Jg ?_
    refine JE.assigned zpk ?_
    refine Vj ?_
    refine Jh ?_
    refine Jc ?_
    refine Ja (Jk hT O O O O O O) O O O ?_
    refine Ja (Jo hT O O O zrd) O O O ?_
    refine Ja (Jo hT O O O zrd) O O O ?_
    refine Ja (y_eql O O) O O O ?_
    refine Jg ?_
    refine Jb ?_
    first | apply Va rfl | apply Vt rfl
    case' ht =>
      intro h
      try (first | (exfalso; omega) | (cases h; done) | (exfalso; simp at h; done) | subst h)
      all_goals
        refine Jh ?_
        refine Jc ?_
        refine Ja (Jk hT O O O O O O) O O O ?_
        refine Ja (y_loadN hT O O O (RdN.row (n := 64) (vs := encB x.2) zpk (by simp [encW, List.take_of_length_le, (hok.pend x (List.mem_of_getElem? hx)).1])) ((encB_length _).trans (hok.pend x (List.mem_of_getElem? hx)).1)) O O O ?_
        have hxb : (encB x.2).length = 64 := (encB_length _).trans (hok.pend x (List.mem_of_getElem? hx)).1
        refine Jj rfl (Vp hT O O O zln zoc zpk zln ?_)
        refine Jj rfl (Vw hT O O O O O zpk zix ?_)
        refine Jg ?_
        refine Jb ?_
        refine Vl ?_
        refine Vr ?_
        refine JE.round_ret hK zpk ?_
        refine ⟨_, fun w q => ?_, .inr ⟨rfl, rfl⟩⟩
        have hfind := find_some hj hO hx rfl
        unfold readF
        rw [hfind]
        exact q.sup zsup
    case' hf =>
      intro h
      try (first | (exfalso; omega) | (cases h; done) | (exfalso; simp at h; done) | subst h)
      all_goals
        refine Ve ?_
    all_goals refine Jv ?_
    all_goals
      refine JE.round_on hK zpk ?_
      refine ⟨_, fun w q => ?_, .inl ⟨rfl, rfl⟩⟩
      exact (q.topur (hO.next hx h)).sup zsup
  case hm =>
    rintro _ _ (rfl | ⟨j, hj, rfl⟩)
    · refine ⟨.ready, none, _, Jx (Jx Jp), by simp, ?_⟩
      dsimp only
      refine JE.picks (Jx Jp) (JE.purs fun hO => ?_)
      have hfind := find_none hO
      obtain ⟨x, hsi⟩ : ∃ x, D.safe[i.toNat]? = some x := ⟨_, List.getElem?_eq_getElem (by omega)⟩
      have hfx : D.find i = x := by rw [hfind]; simp [List.getD_eq_getElem?_getD, hsi]
      have hBl : (encB x).length = 64 := by rw [encB_length]; exact hok.safe _ (List.mem_of_getElem? hsi)
      rw [hfx]
      refine Jv ?_
      refine Jb ?_
      refine Jh ?_
      refine Wl _ _ [(0, .q), (1, .q), (2, .q), (3, .q), (4, .q), (5, .q), (6, .q), (7, .l), (8, .l)] mixed (by kernel_rfl) (Ji (Jx (Jx (Jx (Jx (Jx (Jx Jp)))))) (Ji (Jx (Jx (Jx (Jx (Jx Jp))))) (Jl))) ?_
      refine Jf O O O O (fun m => Je rfl) ?_
      refine Jf O O O O (fun m => (by first | exact Jq rfl | exact Jm rfl | exact Jn rfl)) ?_
      refine Jf O O O O (fun m => Jk hT O O O O O O) ?_
      refine Jf O O O O (fun m => Jo hT O O O zrda) ?_
      refine Jf O O O O (fun m => Jo hT O O O zrda) ?_
      refine Jf O O O O (fun m => Vg hT O O O O O zix zix) ?_
      refine Jf O O O O (fun m => y_loadN hT O O O ((RdN.own (Vn m zpk)).elem hok.segB hsi) hBl) ?_
      refine Wf O O (fun fr => Vp hT O O O zln zoc zpk zln (⟨[_, _], (by (repeat (first | exact Jl | exact Vu | refine Ji Jp ?_))), ?_⟩))
      refine Wf O O (fun fr => Vw hT O O O O O zpk zix (⟨[_, _], (by (repeat (first | exact Jl | exact Vu | refine Ji Jp ?_))), ?_⟩))
      refine Wh ?_
      refine Jb ?_
      refine Vl ?_
      first | refine JE.unmark (.inl rfl) rfl zpk ?_ | refine JE.nomark (.inl rfl) rfl ?_
      refine Wg (.inl rfl) O O zrv zrv ?_
      exact ⟨rfl, fun w q => disk_shut hok (q.sup zsup)⟩
    · refine ⟨.done, some .ret, _, Jx Jp, by simp, ?_⟩
      have hBl : (encB (D.find i)).length = 64 := by rw [encB_length]; exact hok.find hz.2
      dsimp only
      refine Vl ?_
      refine Vr ?_
      refine Jz ?_
      first | refine JE.unmark (.inl rfl) rfl zpk ?_ | refine JE.nomark (.inl rfl) rfl ?_
      refine Wg (.inl rfl) O O zrv zrv ?_
      exact ⟨rfl, fun w q => disk_shut hok (q.sup zsup)⟩
end Go.Proofs.YtimekohdlofmaaaGreat
namespace Go.Proofs.YtimekohdlofmaaaGreat
open Go Go.SL
attribute [local irreducible] J JL JE JM LS Y Fc RV Code.wp wpList Code.wpIn wpListIn
attribute [local irreducible] Yc
variable (E : World)
theorem read_spec (d : Nat) (D : Dk) (i : Int) (r : List HProp) (hpn : D.pending.length ≤ 1000000) :
    Fc prog E 141 [Value.pointer (some ⟨d, 0, none⟩), .int .i64 i].toArray (disk d D :: r) (fun v l' => v = .tuple #[.agg (encB (D.read i)).toArray, .int .i64 (D.ready i)] ∧ l' = disk d D :: r) := by
  by_cases h : D.ready i = 0
  · simpa only [Dk.read, h, if_true] using read_good E d D i r h hpn
  · simpa only [Dk.read, h, if_false] using read_bad E d D i r h
/-- A new disk. -/
def Dk.new (n : Nat) : Dk := ⟨List.replicate n zeroB, [], false, false, 0, 0⟩
theorem Dk.new_ok {n : Nat} (h1 : 1 ≤ n) (h2 : n ≤ 512) : (Dk.new n).Ok :=
  ⟨fun b hb => by rw [List.eq_of_mem_replicate hb]; rfl, fun p hp => by simp [Dk.new] at hp, by simpa [Dk.new] using h1, by simpa [Dk.new] using h2, by simp [Dk.new]⟩
theorem new_good (n : Nat) (r : List HProp) (h1 : 1 ≤ n) (h2 : n ≤ 512) :
    Fc prog E 22 [.int .i64 (n : Int)].toArray r (fun v l' => ∃ d, v = .tuple #[.pointer (some ⟨d, 0, none⟩), .int .i64 0] ∧ l' = disk d (Dk.new n) :: r) := by
  refine Wi ?_
  have e1 : decide ((n : Int) < 1) = false := by simp; omega
  have e2 : decide (512 < (n : Int)) = false := by simp; omega
  refine Jt (c := ?codeC) Tryz.func22 ?hb Tryz.ntmps22 ?hl ?_
  case hb => exact rfl
  case hl => exact rfl
  refine Jh ?_
  refine Jc ?_
  refine Ja (Jd rfl) O O O (Ja (Jd rfl) O O O ?_)
  refine Jg ?_
  refine Jb ?_
  refine Jh ?_
  refine Jh ?_
  refine Jc ?_
  refine Ja (Je rfl) O O O (Ja (y_lss O O) O O O (Ja (Je rfl) O O O ?_))
  all_goals (first | (refine Vm O O O (fun h => ?_) (fun h => ?_) <;> try (first | (exfalso; omega) | exact absurd rfl h)) | (refine Vz O O O (fun h => ?_) (fun h => ?_) <;> try (first | cases h | (exfalso; simp at h; done))) | skip)
  all_goals (first | refine Ju O O O O O O ?_ | refine Jr O O O O O ?_ | refine Jw O O O (Je rfl) O O ?_)
  all_goals (first | refine Ju O O O O O O ?_ | refine Jr O O O O O ?_ | refine Jw O O O (y_gtr O O) O O ?_)
  all_goals (refine Ja (y_pick O O O) O O O ?_)
  all_goals refine Jg ?_
  all_goals refine Jb ?_
  all_goals
    refine Vf rfl zbl ?_
    refine Ve ?_
  all_goals refine Jb ?_
  all_goals
    refine Jh ?_
    refine Jc ?_
    refine Ja (Je rfl) O O O ?_
    refine Jj rfl (l_makeSlice hT O O O O O O zix zix (mk_fits rfl zix zix) zix rfl (fun b1 => ?_))
    refine Ja (y_build (cs := [_, _, _, _, _, _]) hT O O O O O O ⟨⟨zln, Nat.le_of_ble_eq_true rfl⟩, trivial⟩ rfl) O O O ?_
    refine Jj rfl (l_box rfl zcl rfl (fun b2 => ?_))
    refine Ja (Jd rfl) O O O (Ja (Jd rfl) O O O ?_)
    refine Jg ?_
    refine Jb ?_
    refine Vl ?_
    refine Wg (.inl rfl) O O zrv zrv ?_
    refine ⟨_, fun w q => ?_, b2, rfl, rfl⟩
    refine disk_shut (sa := some ⟨b1, 0, none⟩) (sc := n) (pa := none) (pc := 0) (Dk.new_ok h1 h2) ?_
    have e1 : (madeCells (Value.agg (List.replicate 64 (Value.int .u8 0)).toArray).cells ((n : Int).toNat * i221.size)).toList = (Dk.new n).safe.flatMap encB := by
      rw [Dk.new]
      dsimp only
      rw [flatMap_rep encB zeroB _ encB_zero n]
      exact madeCells_rep _ (by omega) _
    rw [e1] at q
    have hl := seg_len (k := 64) (Dk.new_ok h1 h2).segB
    have q1 := (q.pick (Jx Jp)).ownAll (m := n) (size := 64) (by unfold maxLen; omega) (by rw [hl]; simp [Dk.new])
    have q2 := (q1.own_nil (e := 245) (size := 65)).sup (p := [row b2 152 _, own 221 64 _ _ _, own 245 65 _ _ _] ++ r) zsup
    simpa [dcells, Dk.new] using q2
/-- Crash. -/
def bitAt (bs : List Bool) (i : Nat) : Bool := bs.getD i false
def Dk.crash (D : Dk) (bs : List Bool) : Dk := { D.settle (bitAt bs) with dead := false, armed := false }
theorem Dk.Ok.crash {D : Dk} (h : D.Ok) (bs : List Bool) : (D.crash bs).Ok := ⟨(h.settle (bitAt bs)).safe, (h.settle (bitAt bs)).pend, (h.settle (bitAt bs)).some, (h.settle (bitAt bs)).most, (h.settle (bitAt bs)).left⟩
end Go.Proofs.YtimekohdlofmaaaGreat
namespace Go.Proofs.YtimekohdlofmaaaGreat
open Go.SL
theorem own_ : ownKnob Tryz.prog.godebug = none := by kernel_rfl
theorem laidOut_ : laidOutB Tryz.prog = true := by kernel_rfl
section
variable {H : Type}
theorem bulk_pos (d : DataW H) : 1 ≤ Rows.uptoBulk d := by
  cases d with
  | lit l => cases l <;> simp [Rows.uptoBulk]
  | _ => simp [Rows.uptoBulk]
theorem bulk_part {d : DataW H} : ∀ {l : List (DataW H)}, d ∈ l → Rows.uptoBulk d ≤ Rows.uptoBulkAll l
  | x :: r, h => by
    simp only [Rows.uptoBulkAll]
    rcases List.mem_cons.1 h with rfl | h
    · omega
    · have := bulk_part h; omega
theorem bulk_len : ∀ (l : List (DataW H)), l.length ≤ Rows.uptoBulkAll l
  | [] => by simp
  | x :: r => by have h1 := bulk_pos x; have h2 := bulk_len r; simp only [Rows.uptoBulkAll, List.length_cons]; omega
/-- Of small bulk. -/
def upOk (d : DataW H) : Prop := Rows.uptoBulk d ≤ 1048576
theorem upHer : Her (upOk (H := H)) (fun n => n ≤ 1048576) where
  slice es sp h := by
    simp only [upOk, Rows.uptoBulk] at h
    have h1 := bulk_len es
    refine ⟨by omega, fun d hd => ?_⟩
    rcases List.mem_append.1 hd with hd | hd
    · have := bulk_part hd; simp only [upOk]; omega
    · have := bulk_part hd; simp only [upOk]; omega
  nil := by omega
  agg ps h d hd := by
    simp only [upOk, Rows.uptoBulk] at h ⊢
    have := bulk_part hd
    omega
  str bs h := by
    simp only [upOk, Rows.uptoBulk] at h
    omega
theorem upOk_of {l : List (DataW H)} (hk : Rows.uptoSmall H l = true) : ∀ d ∈ l, upOk d := fun d hd => by
  have h : Rows.uptoBulkAll l ≤ 1048576 := of_decide_eq_true hk
  have := bulk_part hd
  simp only [upOk]
  omega
end
end Go.Proofs.YtimekohdlofmaaaGreat
