import Derived.Test.YtccagffapohkhaaGreatDoorProg
import Derived.KernelRfl
import Derived.Test.YtccagffapohkhaaGreatDoorRows
import Derived.Test.YtccagffapohkhaaGreatDoorJoin1
namespace Go.Proofs.YtccagffapohkhaaGreatDoor
section
open Go Go.SL
noncomputable abbrev prog : Program := Tryz.prog
/-- Follows: the orders mixed. -/
theorem mixed : prog.follows .mixedOrders = true := by kernel_rfl
def i3 : TI := ⟨.int .i64, 1, 8, some (Value.int .i64 0)⟩
theorem u3 : prog.underlying 3 = some i3.u := by kernel_rfl
theorem z3 : (prog.info? 3).map (fun j => (j.size, j.bytes, j.zero)) = some (i3.size, i3.bytes, i3.zero) := by kernel_rfl
def i9 : TI := ⟨.string, 1, 16, some (Value.string ByteArray.empty)⟩
theorem u9 : prog.underlying 9 = some i9.u := by kernel_rfl
theorem z9 : (prog.info? 9).map (fun j => (j.size, j.bytes, j.zero)) = some (i9.size, i9.bytes, i9.zero) := by kernel_rfl
def i36 : TI := ⟨.struct #[⟨ "Kind", 3, 0, false, "", "", 0⟩, ⟨ "Key", 25, 1, false, "", "", 8⟩, ⟨ "Names", 34, 33, false, "", "", 40⟩, ⟨ "Texts", 34, 34, false, "", "", 64⟩, ⟨ "Seq", 3, 35, false, "", "", 88⟩, ⟨ "Out", 3, 36, false, "", "", 96⟩, ⟨ "Acked", 3, 37, false, "", "", 104⟩, ⟨ "In", 3, 38, false, "", "", 112⟩, ⟨ "Err", 28, 39, false, "", "", 120⟩], 40, 128, some (.agg (([Value.int .i64 0] ++ List.replicate 32 (Value.int .u8 0) ++ [Value.slice none 0 0] ++ [Value.slice none 0 0] ++ [Value.int .i64 0] ++ [Value.int .i64 0] ++ [Value.int .i64 0] ++ [Value.int .i64 0] ++ [Value.int .i64 0])).toArray)⟩
theorem u36 : prog.underlying 36 = some i36.u := by kernel_rfl
theorem z36 : (prog.info? 36).map (fun j => (j.size, j.bytes, j.zero)) = some (i36.size, i36.bytes, i36.zero) := by kernel_rfl
def i34 : TI := ⟨.slice 9, 1, 24, some (Value.slice none 0 0)⟩
theorem u34 : prog.underlying 34 = some i34.u := by kernel_rfl
theorem z34 : (prog.info? 34).map (fun j => (j.size, j.bytes, j.zero)) = some (i34.size, i34.bytes, i34.zero) := by kernel_rfl
def i5 : TI := ⟨.int .u8, 1, 1, some (Value.int .u8 0)⟩
theorem u5 : prog.underlying 5 = some i5.u := by kernel_rfl
theorem z5 : (prog.info? 5).map (fun j => (j.size, j.bytes, j.zero)) = some (i5.size, i5.bytes, i5.zero) := by kernel_rfl
def i30 : TI := ⟨.struct #[⟨ "Err", 28, 0, false, "", "", 0⟩, ⟨ "At", 3, 1, false, "", "", 8⟩], 2, 16, some (.agg (([Value.int .i64 0] ++ [Value.int .i64 0])).toArray)⟩
theorem u30 : prog.underlying 30 = some i30.u := by kernel_rfl
theorem z30 : (prog.info? 30).map (fun j => (j.size, j.bytes, j.zero)) = some (i30.size, i30.bytes, i30.zero) := by kernel_rfl
def i27 : TI := ⟨.struct #[⟨ "Kind", 3, 0, false, "", "", 0⟩, ⟨ "Name", 9, 1, false, "", "", 8⟩, ⟨ "Key", 25, 2, false, "", "", 24⟩, ⟨ "Text", 9, 34, false, "", "", 56⟩, ⟨ "Count", 3, 35, false, "", "", 72⟩], 36, 80, some (.agg (([Value.int .i64 0] ++ [Value.string ByteArray.empty] ++ List.replicate 32 (Value.int .u8 0) ++ [Value.string ByteArray.empty] ++ [Value.int .i64 0])).toArray)⟩
theorem u27 : prog.underlying 27 = some i27.u := by kernel_rfl
theorem z27 : (prog.info? 27).map (fun j => (j.size, j.bytes, j.zero)) = some (i27.size, i27.bytes, i27.zero) := by kernel_rfl
def i83 : TI := ⟨.slice 5, 1, 24, some (Value.slice none 0 0)⟩
theorem u83 : prog.underlying 83 = some i83.u := by kernel_rfl
theorem z83 : (prog.info? 83).map (fun j => (j.size, j.bytes, j.zero)) = some (i83.size, i83.bytes, i83.zero) := by kernel_rfl
def i28 : TI := ⟨.int .i64, 1, 8, some (Value.int .i64 0)⟩
theorem u28 : prog.underlying 28 = some i28.u := by kernel_rfl
theorem z28 : (prog.info? 28).map (fun j => (j.size, j.bytes, j.zero)) = some (i28.size, i28.bytes, i28.zero) := by kernel_rfl
def i21 : TI := ⟨.int .i32, 1, 4, some (Value.int .i32 0)⟩
theorem u21 : prog.underlying 21 = some i21.u := by kernel_rfl
theorem z21 : (prog.info? 21).map (fun j => (j.size, j.bytes, j.zero)) = some (i21.size, i21.bytes, i21.zero) := by kernel_rfl
def i135 : TI := ⟨.int .u32, 1, 4, some (Value.int .u32 0)⟩
theorem u135 : prog.underlying 135 = some i135.u := by kernel_rfl
theorem z135 : (prog.info? 135).map (fun j => (j.size, j.bytes, j.zero)) = some (i135.size, i135.bytes, i135.zero) := by kernel_rfl
def i25 : TI := ⟨.array 32 5, 32, 32, some (.agg (List.replicate 32 (Value.int .u8 0)).toArray)⟩
theorem u25 : prog.underlying 25 = some i25.u := by kernel_rfl
theorem z25 : (prog.info? 25).map (fun j => (j.size, j.bytes, j.zero)) = some (i25.size, i25.bytes, i25.zero) := by kernel_rfl
def i145 : TI := ⟨.int .u64, 1, 8, some (Value.int .u64 0)⟩
theorem u145 : prog.underlying 145 = some i145.u := by kernel_rfl
theorem z145 : (prog.info? 145).map (fun j => (j.size, j.bytes, j.zero)) = some (i145.size, i145.bytes, i145.zero) := by kernel_rfl
def i71 : TI := ⟨.struct #[⟨ "s", 9, 0, false, "", "hollowtree/hollowtreeref24", 0⟩, ⟨ "at", 3, 1, false, "", "hollowtree/hollowtreeref24", 16⟩, ⟨ "spot", 30, 2, false, "", "hollowtree/hollowtreeref24", 24⟩], 4, 40, some (.agg (([Value.string ByteArray.empty] ++ [Value.int .i64 0] ++ ([Value.int .i64 0] ++ [Value.int .i64 0]))).toArray)⟩
theorem u71 : prog.underlying 71 = some i71.u := by kernel_rfl
theorem z71 : (prog.info? 71).map (fun j => (j.size, j.bytes, j.zero)) = some (i71.size, i71.bytes, i71.zero) := by kernel_rfl
def i65 : TI := ⟨.struct #[⟨ "s", 9, 0, false, "", "hollowtree/line", 0⟩, ⟨ "at", 3, 1, false, "", "hollowtree/line", 16⟩, ⟨ "spot", 30, 2, false, "", "hollowtree/line", 24⟩], 4, 40, some (.agg (([Value.string ByteArray.empty] ++ [Value.int .i64 0] ++ ([Value.int .i64 0] ++ [Value.int .i64 0]))).toArray)⟩
theorem u65 : prog.underlying 65 = some i65.u := by kernel_rfl
theorem z65 : (prog.info? 65).map (fun j => (j.size, j.bytes, j.zero)) = some (i65.size, i65.bytes, i65.zero) := by kernel_rfl
def i138 : TI := ⟨.int .i64, 1, 8, some (Value.int .i64 0)⟩
theorem u138 : prog.underlying 138 = some i138.u := by kernel_rfl
theorem z138 : (prog.info? 138).map (fun j => (j.size, j.bytes, j.zero)) = some (i138.size, i138.bytes, i138.zero) := by kernel_rfl
def i95 : TI := ⟨.struct #[⟨ "addr", 93, 0, false, "", "strings", 0⟩, ⟨ "buf", 83, 1, false, "", "strings", 8⟩], 2, 32, some (.agg (([Value.pointer none] ++ [Value.slice none 0 0])).toArray)⟩
theorem u95 : prog.underlying 95 = some i95.u := by kernel_rfl
theorem z95 : (prog.info? 95).map (fun j => (j.size, j.bytes, j.zero)) = some (i95.size, i95.bytes, i95.zero) := by kernel_rfl
def i85 : TI := ⟨.map 28 9, 1, 8, some (Value.map none)⟩
theorem u85 : prog.underlying 85 = some i85.u := by kernel_rfl
theorem z85 : (prog.info? 85).map (fun j => (j.size, j.bytes, j.zero)) = some (i85.size, i85.bytes, i85.zero) := by kernel_rfl
def i2 : TI := ⟨.int .i64, 1, 8, some (Value.int .i64 0)⟩
theorem u2 : prog.underlying 2 = some i2.u := by kernel_rfl
theorem z2 : (prog.info? 2).map (fun j => (j.size, j.bytes, j.zero)) = some (i2.size, i2.bytes, i2.zero) := by kernel_rfl
def i163 : TI := ⟨.struct #[⟨ "lo", 5, 0, false, "", "unicode/utf8", 0⟩, ⟨ "hi", 5, 1, false, "", "unicode/utf8", 1⟩], 2, 2, some (.agg (([Value.int .u8 0] ++ [Value.int .u8 0])).toArray)⟩
theorem u163 : prog.underlying 163 = some i163.u := by kernel_rfl
theorem z163 : (prog.info? 163).map (fun j => (j.size, j.bytes, j.zero)) = some (i163.size, i163.bytes, i163.zero) := by kernel_rfl
def i4 : TI := ⟨.bool, 1, 1, some (Value.bool false)⟩
theorem u4 : prog.underlying 4 = some i4.u := by kernel_rfl
theorem z4 : (prog.info? 4).map (fun j => (j.size, j.bytes, j.zero)) = some (i4.size, i4.bytes, i4.zero) := by kernel_rfl
def i60 : TI := ⟨.array 8 9, 8, 128, some (.agg (List.replicate 8 (Value.string ByteArray.empty)).toArray)⟩
theorem u60 : prog.underlying 60 = some i60.u := by kernel_rfl
theorem z60 : (prog.info? 60).map (fun j => (j.size, j.bytes, j.zero)) = some (i60.size, i60.bytes, i60.zero) := by kernel_rfl
def i107 : TI := ⟨.int .u64, 1, 8, some (Value.int .u64 0)⟩
theorem u107 : prog.underlying 107 = some i107.u := by kernel_rfl
theorem z107 : (prog.info? 107).map (fun j => (j.size, j.bytes, j.zero)) = some (i107.size, i107.bytes, i107.zero) := by kernel_rfl
def i154 : TI := ⟨.struct #[⟨ "Func", 9, 0, false, "", "", 0⟩, ⟨ "Num", 9, 1, false, "", "", 16⟩, ⟨ "Err", 97, 2, false, "", "", 32⟩], 3, 48, some (.agg (([Value.string ByteArray.empty] ++ [Value.string ByteArray.empty] ++ [Value.nilIface])).toArray)⟩
theorem u154 : prog.underlying 154 = some i154.u := by kernel_rfl
theorem z154 : (prog.info? 154).map (fun j => (j.size, j.bytes, j.zero)) = some (i154.size, i154.bytes, i154.zero) := by kernel_rfl
def i158 : TI := ⟨.array 65 5, 65, 65, some (.agg (List.replicate 65 (Value.int .u8 0)).toArray)⟩
theorem u158 : prog.underlying 158 = some i158.u := by kernel_rfl
theorem z158 : (prog.info? 158).map (fun j => (j.size, j.bytes, j.zero)) = some (i158.size, i158.bytes, i158.zero) := by kernel_rfl
def i93 : TI := ⟨.pointer 95, 1, 8, some (Value.pointer none)⟩
theorem u93 : prog.underlying 93 = some i93.u := by kernel_rfl
theorem z93 : (prog.info? 93).map (fun j => (j.size, j.bytes, j.zero)) = some (i93.size, i93.bytes, i93.zero) := by kernel_rfl
def i67 : TI := ⟨.pointer 27, 1, 8, some (Value.pointer none)⟩
theorem u67 : prog.underlying 67 = some i67.u := by kernel_rfl
theorem z67 : (prog.info? 67).map (fun j => (j.size, j.bytes, j.zero)) = some (i67.size, i67.bytes, i67.zero) := by kernel_rfl
def i87 : TI := ⟨.slice 28, 1, 24, some (Value.slice none 0 0)⟩
theorem u87 : prog.underlying 87 = some i87.u := by kernel_rfl
theorem z87 : (prog.info? 87).map (fun j => (j.size, j.bytes, j.zero)) = some (i87.size, i87.bytes, i87.zero) := by kernel_rfl
def i144 : TI := ⟨.array 24 5, 24, 24, some (.agg (List.replicate 24 (Value.int .u8 0)).toArray)⟩
theorem u144 : prog.underlying 144 = some i144.u := by kernel_rfl
theorem z144 : (prog.info? 144).map (fun j => (j.size, j.bytes, j.zero)) = some (i144.size, i144.bytes, i144.zero) := by kernel_rfl
def i141 : TI := ⟨.pointer 154, 1, 8, some (Value.pointer none)⟩
theorem u141 : prog.underlying 141 = some i141.u := by kernel_rfl
theorem z141 : (prog.info? 141).map (fun j => (j.size, j.bytes, j.zero)) = some (i141.size, i141.bytes, i141.zero) := by kernel_rfl
def i112 : TI := ⟨.array 4 3, 4, 32, some (.agg (List.replicate 4 (Value.int .i64 0)).toArray)⟩
theorem u112 : prog.underlying 112 = some i112.u := by kernel_rfl
theorem z112 : (prog.info? 112).map (fun j => (j.size, j.bytes, j.zero)) = some (i112.size, i112.bytes, i112.zero) := by kernel_rfl
def i157 : TI := ⟨.array 20 145, 20, 160, some (.agg (List.replicate 20 (Value.int .u64 0)).toArray)⟩
theorem u157 : prog.underlying 157 = some i157.u := by kernel_rfl
theorem z157 : (prog.info? 157).map (fun j => (j.size, j.bytes, j.zero)) = some (i157.size, i157.bytes, i157.zero) := by kernel_rfl
def i164 : TI := ⟨.array 16 163, 32, 32, some (.agg ((List.replicate 16 (([Value.int .u8 0] ++ [Value.int .u8 0]))).flatten).toArray)⟩
theorem u164 : prog.underlying 164 = some i164.u := by kernel_rfl
theorem z164 : (prog.info? 164).map (fun j => (j.size, j.bytes, j.zero)) = some (i164.size, i164.bytes, i164.zero) := by kernel_rfl
def i24 : TI := ⟨.array 32 5, 32, 32, some (.agg (List.replicate 32 (Value.int .u8 0)).toArray)⟩
theorem u24 : prog.underlying 24 = some i24.u := by kernel_rfl
theorem z24 : (prog.info? 24).map (fun j => (j.size, j.bytes, j.zero)) = some (i24.size, i24.bytes, i24.zero) := by kernel_rfl
def i170 : TI := ⟨.array 64 5, 64, 64, some (.agg (List.replicate 64 (Value.int .u8 0)).toArray)⟩
theorem u170 : prog.underlying 170 = some i170.u := by kernel_rfl
theorem z170 : (prog.info? 170).map (fun j => (j.size, j.bytes, j.zero)) = some (i170.size, i170.bytes, i170.zero) := by kernel_rfl
def i81 : TI := ⟨.array 3 3, 3, 24, some (.agg (List.replicate 3 (Value.int .i64 0)).toArray)⟩
theorem u81 : prog.underlying 81 = some i81.u := by kernel_rfl
theorem z81 : (prog.info? 81).map (fun j => (j.size, j.bytes, j.zero)) = some (i81.size, i81.bytes, i81.zero) := by kernel_rfl
def i113 : TI := ⟨.array 2 5, 2, 2, some (.agg (List.replicate 2 (Value.int .u8 0)).toArray)⟩
theorem u113 : prog.underlying 113 = some i113.u := by kernel_rfl
theorem z113 : (prog.info? 113).map (fun j => (j.size, j.bytes, j.zero)) = some (i113.size, i113.bytes, i113.zero) := by kernel_rfl
def i114 : TI := ⟨.pointer 5, 1, 8, some (Value.pointer none)⟩
theorem u114 : prog.underlying 114 = some i114.u := by kernel_rfl
theorem z114 : (prog.info? 114).map (fun j => (j.size, j.bytes, j.zero)) = some (i114.size, i114.bytes, i114.zero) := by kernel_rfl
def i124 : TI := ⟨.unsafePointer, 1, 8, some (Value.pointer none)⟩
theorem u124 : prog.underlying 124 = some i124.u := by kernel_rfl
theorem z124 : (prog.info? 124).map (fun j => (j.size, j.bytes, j.zero)) = some (i124.size, i124.bytes, i124.zero) := by kernel_rfl
def i168 : TI := ⟨.struct #[⟨ "s", 9, 0, false, "", "errors", 0⟩], 1, 16, some (.agg (([Value.string ByteArray.empty])).toArray)⟩
theorem u168 : prog.underlying 168 = some i168.u := by kernel_rfl
theorem z168 : (prog.info? 168).map (fun j => (j.size, j.bytes, j.zero)) = some (i168.size, i168.bytes, i168.zero) := by kernel_rfl
def i161 : TI := ⟨.array 256 5, 256, 256, some (.agg (List.replicate 256 (Value.int .u8 0)).toArray)⟩
theorem u161 : prog.underlying 161 = some i161.u := by kernel_rfl
theorem z161 : (prog.info? 161).map (fun j => (j.size, j.bytes, j.zero)) = some (i161.size, i161.bytes, i161.zero) := by kernel_rfl
def i166 : TI := ⟨.pointer 168, 1, 8, some (Value.pointer none)⟩
theorem u166 : prog.underlying 166 = some i166.u := by kernel_rfl
theorem z166 : (prog.info? 166).map (fun j => (j.size, j.bytes, j.zero)) = some (i166.size, i166.bytes, i166.zero) := by kernel_rfl
def T : Tab := [(3, i3), (9, i9), (36, i36), (34, i34), (5, i5), (30, i30), (27, i27), (83, i83), (28, i28), (21, i21), (135, i135), (25, i25), (145, i145), (71, i71), (65, i65), (138, i138), (95, i95), (85, i85), (2, i2), (163, i163), (4, i4), (60, i60), (107, i107), (154, i154), (158, i158), (93, i93), (67, i67), (87, i87), (144, i144), (141, i141), (112, i112), (157, i157), (164, i164), (24, i24), (170, i170), (81, i81), (113, i113), (114, i114), (124, i124), (168, i168), (161, i161), (166, i166)]
theorem hT : Tok prog T := Tok.cons u3 z3 (Tok.cons u9 z9 (Tok.cons u36 z36 (Tok.cons u34 z34 (Tok.cons u5 z5 (Tok.cons u30 z30 (Tok.cons u27 z27 (Tok.cons u83 z83 (Tok.cons u28 z28 (Tok.cons u21 z21 (Tok.cons u135 z135 (Tok.cons u25 z25 (Tok.cons u145 z145 (Tok.cons u71 z71 (Tok.cons u65 z65 (Tok.cons u138 z138 (Tok.cons u95 z95 (Tok.cons u85 z85 (Tok.cons u2 z2 (Tok.cons u163 z163 (Tok.cons u4 z4 (Tok.cons u60 z60 (Tok.cons u107 z107 (Tok.cons u154 z154 (Tok.cons u158 z158 (Tok.cons u93 z93 (Tok.cons u67 z67 (Tok.cons u87 z87 (Tok.cons u144 z144 (Tok.cons u141 z141 (Tok.cons u112 z112 (Tok.cons u157 z157 (Tok.cons u164 z164 (Tok.cons u24 z24 (Tok.cons u170 z170 (Tok.cons u81 z81 (Tok.cons u113 z113 (Tok.cons u114 z114 (Tok.cons u124 z124 (Tok.cons u168 z168 (Tok.cons u161 z161 (Tok.cons u166 z166 Tok.nil)))))))))))))))))))))))))))))))))))))))))
theorem e2 : Ent prog 2 := Ent.mk Tryz.func2 (by kernel_rfl) (by kernel_rfl)
theorem e3 : Ent prog 3 := Ent.mk Tryz.func3 (by kernel_rfl) (by kernel_rfl)
theorem e4 : Ent prog 4 := Ent.mk Tryz.func4 (by kernel_rfl) (by kernel_rfl)
theorem e5 : Ent prog 5 := Ent.mk Tryz.func5 (by kernel_rfl) (by kernel_rfl)
theorem e11 : Ent prog 11 := Ent.mk Tryz.func11 (by kernel_rfl) (by kernel_rfl)
theorem e12 : Ent prog 12 := Ent.mk Tryz.func12 (by kernel_rfl) (by kernel_rfl)
theorem e13 : Ent prog 13 := Ent.mk Tryz.func13 (by kernel_rfl) (by kernel_rfl)
theorem e16 : Ent prog 16 := Ent.mk Tryz.func16 (by kernel_rfl) (by kernel_rfl)
theorem e17 : Ent prog 17 := Ent.mk Tryz.func17 (by kernel_rfl) (by kernel_rfl)
theorem e21 : Ent prog 21 := Ent.mk Tryz.func21 (by kernel_rfl) (by kernel_rfl)
theorem e23 : Ent prog 23 := Ent.mk Tryz.func23 (by kernel_rfl) (by kernel_rfl)
theorem e25 : Ent prog 25 := Ent.mk Tryz.func25 (by kernel_rfl) (by kernel_rfl)
theorem e27 : Ent prog 27 := Ent.mk Tryz.func27 (by kernel_rfl) (by kernel_rfl)
theorem e29 : Ent prog 29 := Ent.mk Tryz.func29 (by kernel_rfl) (by kernel_rfl)
theorem e34 : Ent prog 34 := Ent.mk Tryz.func34 (by kernel_rfl) (by kernel_rfl)
theorem e35 : Ent prog 35 := Ent.mk Tryz.func35 (by kernel_rfl) (by kernel_rfl)
theorem e36 : Ent prog 36 := Ent.mk Tryz.func36 (by kernel_rfl) (by kernel_rfl)
theorem e37 : Ent prog 37 := Ent.mk Tryz.func37 (by kernel_rfl) (by kernel_rfl)
theorem e46 : Ent prog 46 := Ent.mk Tryz.func46 (by kernel_rfl) (by kernel_rfl)
theorem e47 : Ent prog 47 := Ent.mk Tryz.func47 (by kernel_rfl) (by kernel_rfl)
theorem e51 : Ent prog 51 := Ent.mk Tryz.func51 (by kernel_rfl) (by kernel_rfl)
theorem e53 : Ent prog 53 := Ent.mk Tryz.func53 (by kernel_rfl) (by kernel_rfl)
theorem e54 : Ent prog 54 := Ent.mk Tryz.func54 (by kernel_rfl) (by kernel_rfl)
theorem e55 : Ent prog 55 := Ent.mk Tryz.func55 (by kernel_rfl) (by kernel_rfl)
theorem e56 : Ent prog 56 := Ent.mk Tryz.func56 (by kernel_rfl) (by kernel_rfl)
theorem e57 : Ent prog 57 := Ent.mk Tryz.func57 (by kernel_rfl) (by kernel_rfl)
theorem e58 : Ent prog 58 := Ent.mk Tryz.func58 (by kernel_rfl) (by kernel_rfl)
theorem e62 : Ent prog 62 := Ent.mk Tryz.func62 (by kernel_rfl) (by kernel_rfl)
theorem e63 : Ent prog 63 := Ent.mk Tryz.func63 (by kernel_rfl) (by kernel_rfl)
theorem e64 : Ent prog 64 := Ent.mk Tryz.func64 (by kernel_rfl) (by kernel_rfl)
theorem e65 : Ent prog 65 := Ent.mk Tryz.func65 (by kernel_rfl) (by kernel_rfl)
theorem e66 : Ent prog 66 := Ent.mk Tryz.func66 (by kernel_rfl) (by kernel_rfl)
theorem e67 : Ent prog 67 := Ent.mk Tryz.func67 (by kernel_rfl) (by kernel_rfl)
theorem e68 : Ent prog 68 := Ent.mk Tryz.func68 (by kernel_rfl) (by kernel_rfl)
theorem e69 : Ent prog 69 := Ent.mk Tryz.func69 (by kernel_rfl) (by kernel_rfl)
theorem e70 : Ent prog 70 := Ent.mk Tryz.func70 (by kernel_rfl) (by kernel_rfl)
theorem e72 : Ent prog 72 := Ent.mk Tryz.func72 (by kernel_rfl) (by kernel_rfl)
theorem e73 : Ent prog 73 := Ent.mk Tryz.func73 (by kernel_rfl) (by kernel_rfl)
theorem e74 : Ent prog 74 := Ent.mk Tryz.func74 (by kernel_rfl) (by kernel_rfl)
theorem e75 : Ent prog 75 := Ent.mk Tryz.func75 (by kernel_rfl) (by kernel_rfl)
theorem e76 : Ent prog 76 := Ent.mk Tryz.func76 (by kernel_rfl) (by kernel_rfl)
theorem e77 : Ent prog 77 := Ent.mk Tryz.func77 (by kernel_rfl) (by kernel_rfl)
theorem e78 : Ent prog 78 := Ent.mk Tryz.func78 (by kernel_rfl) (by kernel_rfl)
theorem e79 : Ent prog 79 := Ent.mk Tryz.func79 (by kernel_rfl) (by kernel_rfl)
theorem e80 : Ent prog 80 := Ent.mk Tryz.func80 (by kernel_rfl) (by kernel_rfl)
theorem e81 : Ent prog 81 := Ent.mk Tryz.func81 (by kernel_rfl) (by kernel_rfl)
theorem e83 : Ent prog 83 := Ent.mk Tryz.func83 (by kernel_rfl) (by kernel_rfl)
theorem e84 : Ent prog 84 := Ent.mk Tryz.func84 (by kernel_rfl) (by kernel_rfl)
theorem e85 : Ent prog 85 := Ent.mk Tryz.func85 (by kernel_rfl) (by kernel_rfl)
theorem e86 : Ent prog 86 := Ent.mk Tryz.func86 (by kernel_rfl) (by kernel_rfl)
theorem e87 : Ent prog 87 := Ent.mk Tryz.func87 (by kernel_rfl) (by kernel_rfl)
theorem e88 : Ent prog 88 := Ent.mk Tryz.func88 (by kernel_rfl) (by kernel_rfl)
theorem e93 : Ent prog 93 := Ent.mk Tryz.func93 (by kernel_rfl) (by kernel_rfl)
theorem e94 : Ent prog 94 := Ent.mk Tryz.func94 (by kernel_rfl) (by kernel_rfl)
theorem e95 : Ent prog 95 := Ent.mk Tryz.func95 (by kernel_rfl) (by kernel_rfl)
theorem e97 : Ent prog 97 := Ent.mk Tryz.func97 (by kernel_rfl) (by kernel_rfl)
theorem e98 : Ent prog 98 := Ent.mk Tryz.func98 (by kernel_rfl) (by kernel_rfl)
theorem e99 : Ent prog 99 := Ent.mk Tryz.func99 (by kernel_rfl) (by kernel_rfl)
theorem e100 : Ent prog 100 := Ent.mk Tryz.func100 (by kernel_rfl) (by kernel_rfl)
theorem e104 : Ent prog 104 := Ent.mk Tryz.func104 (by kernel_rfl) (by kernel_rfl)
theorem e109 : Ent prog 109 := Ent.mk Tryz.func109 (by kernel_rfl) (by kernel_rfl)
end
section
open Go.SL
theorem own_ : ownKnob Tryz.prog.godebug = none := by kernel_rfl
theorem laidOut_ : laidOutB Tryz.prog = true := by kernel_rfl
section
variable {H : Type}
end
end
end Go.Proofs.YtccagffapohkhaaGreatDoor
