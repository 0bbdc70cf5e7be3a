/- Written by program (wip/tab.py): what the program's table of types says, each line held by the kernel. -/
import Derived.Test.YtlojjlbngnaphaaRows
import Derived.Test.YtlojjlbngnaphaaSk
namespace Go.Proofs.Ytlojjlbngnaphaa
open Go.Sl
def tab : TabData where
  flds := [(7, [0, 1, 2, 3]), (8, [0, 1, 2, 3]), (13, [0, 1]), (14, [0, 1]), (18, [0]), (19, [0]), (24, [0, 1]), (25, [0, 1]), (49, [0, 1, 2, 3, 4, 5, 6, 7, 8, 9, 10, 11]), (50, [0, 1, 2, 3, 4, 5, 6, 7, 8, 9, 10, 11]), (56, [0, 1, 2]), (57, [0, 1, 2]), (60, [0, 1, 2, 3]), (61, [0, 1, 2, 3]), (77, [0, 1, 2]), (78, [0, 1, 2]), (89, [0, 1, 2, 3, 4, 5, 6, 7]), (90, [0, 1, 2, 3, 4, 5, 6, 7]), (94, [0, 1, 2, 3]), (95, [0, 1, 2, 3]), (123, [0, 1]), (124, [0, 1]), (138, [0, 1]), (139, [0, 1]), (145, [0, 1]), (146, [0, 1]), (177, [0, 1, 2]), (178, [0, 1, 2]), (185, [0, 1, 2, 3]), (186, [0, 1, 2, 3]), (189, [0, 1, 2, 3]), (190, [0, 1, 2, 3]), (200, [0, 1, 2, 3, 4, 5, 6, 7, 8, 9, 10]), (201, [0, 1, 2, 3, 4, 5, 6, 7, 8, 9, 10])]
  leaf := [(1, ()), (2, ()), (3, ()), (4, ()), (5, ()), (6, ()), (9, ()), (10, ()), (11, ()), (12, ()), (15, ()), (16, ()), (17, ()), (20, ()), (21, ()), (22, ()), (23, ()), (26, ()), (27, ()), (28, ()), (29, ()), (30, ()), (32, ()), (33, ()), (34, ()), (36, ()), (37, ()), (38, ()), (39, ()), (40, ()), (41, ()), (42, ()), (43, ()), (44, ()), (45, ()), (46, ()), (47, ()), (48, ()), (51, ()), (52, ()), (53, ()), (54, ()), (55, ()), (58, ()), (59, ()), (63, ()), (64, ()), (65, ()), (67, ()), (68, ()), (69, ()), (70, ()), (71, ()), (72, ()), (73, ()), (74, ()), (75, ()), (76, ()), (79, ()), (81, ()), (82, ()), (83, ()), (84, ()), (86, ()), (88, ()), (91, ()), (92, ()), (93, ()), (97, ()), (99, ()), (100, ()), (101, ()), (102, ()), (103, ()), (104, ()), (105, ()), (106, ()), (107, ()), (108, ()), (109, ()), (110, ()), (111, ()), (112, ()), (113, ()), (114, ()), (115, ()), (117, ()), (118, ()), (120, ()), (121, ()), (122, ()), (125, ()), (126, ()), (127, ()), (128, ()), (129, ()), (130, ()), (131, ()), (132, ()), (133, ()), (134, ()), (135, ()), (136, ()), (137, ()), (140, ()), (141, ()), (142, ()), (143, ()), (144, ()), (147, ()), (148, ()), (149, ()), (151, ()), (153, ()), (154, ()), (156, ()), (157, ()), (158, ()), (160, ()), (161, ()), (163, ()), (164, ()), (165, ()), (166, ()), (168, ()), (169, ()), (170, ()), (171, ()), (172, ()), (173, ()), (174, ()), (175, ()), (176, ()), (179, ()), (180, ()), (181, ()), (182, ()), (183, ()), (184, ()), (187, ()), (188, ()), (194, ()), (195, ()), (196, ()), (197, ()), (198, ()), (199, ()), (202, ())]
  aggs := [(7, 4), (8, 4), (13, 2), (14, 2), (18, 1), (19, 1), (24, 2), (25, 2), (49, 12), (50, 12), (56, 3), (57, 3), (60, 4), (61, 4), (77, 3), (78, 3), (89, 8), (90, 8), (94, 4), (95, 4), (123, 2), (124, 2), (138, 2), (139, 2), (145, 2), (146, 2), (167, 16), (177, 3), (178, 3), (185, 4), (186, 4), (189, 4), (190, 4), (191, 0), (192, 0), (193, 0), (200, 11), (201, 11)]
  sls := [(23, 78), (28, 55), (38, 133), (39, 71), (40, 135), (41, 136), (42, 137), (43, 140), (44, 143), (45, 28), (46, 144), (47, 23), (48, 59), (55, 5), (59, 25), (71, 3), (113, 5), (133, 9), (135, 22), (136, 30), (137, 139), (140, 141), (143, 4), (144, 146), (174, 173)]
  ints := [(2, .i64), (3, .i64), (5, .u8), (6, .u8), (12, .u64), (21, .i32), (22, .u64), (29, .u16), (30, .u16), (74, .u32), (141, .u8), (142, .u64), (194, .u8), (195, .u8), (198, .i32), (199, .i32)]
  descs := [(4, 1, 0), (9, 2, 0), (10, 2, 0), (11, 2, 0), (15, 0, 190), (16, 0, 193), (17, 0, 201), (37, 0, 50), (83, 0, 124), (128, 0, 178), (171, 0, 186), (173, 0, 3), (197, 0, 5)]
theorem tab_ok : tab.ok Try.prog = true := by kernel_rfl
theorem st_23 : SliceT Try.prog 23 78 (.agg #[.int .i64 0, .int .i64 0, .slice none 0 0]) 3 40 := ⟨by kernel_rfl, by kernel_rfl, rfl, by simp [Value.cells, Value.oneCell']⟩
theorem st_28 : SliceT Try.prog 28 55 (.slice none 0 0) 1 24 := ⟨by kernel_rfl, by kernel_rfl, rfl, by simp [Value.cells, Value.oneCell']⟩
theorem st_38 : SliceT Try.prog 38 133 (.slice none 0 0) 1 24 := ⟨by kernel_rfl, by kernel_rfl, rfl, by simp [Value.cells, Value.oneCell']⟩
theorem st_39 : SliceT Try.prog 39 71 (.slice none 0 0) 1 24 := ⟨by kernel_rfl, by kernel_rfl, rfl, by simp [Value.cells, Value.oneCell']⟩
theorem st_40 : SliceT Try.prog 40 135 (.slice none 0 0) 1 24 := ⟨by kernel_rfl, by kernel_rfl, rfl, by simp [Value.cells, Value.oneCell']⟩
theorem st_41 : SliceT Try.prog 41 136 (.slice none 0 0) 1 24 := ⟨by kernel_rfl, by kernel_rfl, rfl, by simp [Value.cells, Value.oneCell']⟩
theorem st_42 : SliceT Try.prog 42 137 (.slice none 0 0) 1 24 := ⟨by kernel_rfl, by kernel_rfl, rfl, by simp [Value.cells, Value.oneCell']⟩
theorem st_43 : SliceT Try.prog 43 140 (.slice none 0 0) 1 24 := ⟨by kernel_rfl, by kernel_rfl, rfl, by simp [Value.cells, Value.oneCell']⟩
theorem st_44 : SliceT Try.prog 44 143 (.slice none 0 0) 1 24 := ⟨by kernel_rfl, by kernel_rfl, rfl, by simp [Value.cells, Value.oneCell']⟩
theorem st_45 : SliceT Try.prog 45 28 (.slice none 0 0) 1 24 := ⟨by kernel_rfl, by kernel_rfl, rfl, by simp [Value.cells, Value.oneCell']⟩
theorem st_46 : SliceT Try.prog 46 144 (.slice none 0 0) 1 24 := ⟨by kernel_rfl, by kernel_rfl, rfl, by simp [Value.cells, Value.oneCell']⟩
theorem st_47 : SliceT Try.prog 47 23 (.slice none 0 0) 1 24 := ⟨by kernel_rfl, by kernel_rfl, rfl, by simp [Value.cells, Value.oneCell']⟩
theorem st_48 : SliceT Try.prog 48 59 (.slice none 0 0) 1 24 := ⟨by kernel_rfl, by kernel_rfl, rfl, by simp [Value.cells, Value.oneCell']⟩
theorem st_55 : SliceT Try.prog 55 5 (.int .u8 0) 1 1 := ⟨by kernel_rfl, by kernel_rfl, rfl, by simp [Value.cells, Value.oneCell']⟩
theorem st_59 : SliceT Try.prog 59 25 (.agg #[.int .u64 0, .slice none 0 0]) 2 32 := ⟨by kernel_rfl, by kernel_rfl, rfl, by simp [Value.cells, Value.oneCell']⟩
theorem st_71 : SliceT Try.prog 71 3 (.int .i64 0) 1 8 := ⟨by kernel_rfl, by kernel_rfl, rfl, by simp [Value.cells, Value.oneCell']⟩
theorem st_113 : SliceT Try.prog 113 5 (.int .u8 0) 1 1 := ⟨by kernel_rfl, by kernel_rfl, rfl, by simp [Value.cells, Value.oneCell']⟩
theorem st_135 : SliceT Try.prog 135 22 (.int .u64 0) 1 8 := ⟨by kernel_rfl, by kernel_rfl, rfl, by simp [Value.cells, Value.oneCell']⟩
theorem st_136 : SliceT Try.prog 136 30 (.int .u16 0) 1 2 := ⟨by kernel_rfl, by kernel_rfl, rfl, by simp [Value.cells, Value.oneCell']⟩
theorem st_137 : SliceT Try.prog 137 139 (.agg #[.int .i64 0, .int .i64 0]) 2 16 := ⟨by kernel_rfl, by kernel_rfl, rfl, by simp [Value.cells, Value.oneCell']⟩
theorem st_140 : SliceT Try.prog 140 141 (.int .u8 0) 1 1 := ⟨by kernel_rfl, by kernel_rfl, rfl, by simp [Value.cells, Value.oneCell']⟩
theorem st_143 : SliceT Try.prog 143 4 (.bool false) 1 1 := ⟨by kernel_rfl, by kernel_rfl, rfl, by simp [Value.cells, Value.oneCell']⟩
theorem st_144 : SliceT Try.prog 144 146 (.agg #[.int .i64 0, .slice none 0 0]) 2 32 := ⟨by kernel_rfl, by kernel_rfl, rfl, by simp [Value.cells, Value.oneCell']⟩
theorem st_174 : SliceT Try.prog 174 173 (.pointer none) 1 8 := ⟨by kernel_rfl, by kernel_rfl, rfl, by simp [Value.cells, Value.oneCell']⟩
theorem sb_7 : StructT Try.prog 7 [.int .i64 0, .int .i64 0, .bool false, .int .u8 0] [(0, 1), (1, 1), (2, 1), (3, 1)] := ⟨fun w => by simp, _, Try.underlying7, fun w => by simp⟩
theorem sb_8 : StructT Try.prog 8 [.int .i64 0, .int .i64 0, .bool false, .int .u8 0] [(0, 1), (1, 1), (2, 1), (3, 1)] := ⟨fun w => by simp, _, Try.underlying8, fun w => by simp⟩
theorem sb_18 : StructT Try.prog 18 [.pointer none] [(0, 1)] := ⟨fun w => by simp, _, Try.underlying18, fun w => by simp⟩
theorem sb_19 : StructT Try.prog 19 [.pointer none] [(0, 1)] := ⟨fun w => by simp, _, Try.underlying19, fun w => by simp⟩
theorem sb_24 : StructT Try.prog 24 [.int .u64 0, .slice none 0 0] [(0, 1), (1, 1)] := ⟨fun w => by simp, _, Try.underlying24, fun w => by simp⟩
theorem sb_25 : StructT Try.prog 25 [.int .u64 0, .slice none 0 0] [(0, 1), (1, 1)] := ⟨fun w => by simp, _, Try.underlying25, fun w => by simp⟩
theorem sb_49 : StructT Try.prog 49 [.slice none 0 0, .slice none 0 0, .slice none 0 0, .slice none 0 0, .slice none 0 0, .slice none 0 0, .slice none 0 0, .slice none 0 0, .slice none 0 0, .slice none 0 0, .slice none 0 0, .slice none 0 0] [(0, 1), (1, 1), (2, 1), (3, 1), (4, 1), (5, 1), (6, 1), (7, 1), (8, 1), (9, 1), (10, 1), (11, 1)] := ⟨fun w => by simp, _, Try.underlying49, fun w => by simp⟩
theorem sb_50 : StructT Try.prog 50 [.slice none 0 0, .slice none 0 0, .slice none 0 0, .slice none 0 0, .slice none 0 0, .slice none 0 0, .slice none 0 0, .slice none 0 0, .slice none 0 0, .slice none 0 0, .slice none 0 0, .slice none 0 0] [(0, 1), (1, 1), (2, 1), (3, 1), (4, 1), (5, 1), (6, 1), (7, 1), (8, 1), (9, 1), (10, 1), (11, 1)] := ⟨fun w => by simp, _, Try.underlying50, fun w => by simp⟩
theorem sb_56 : StructT Try.prog 56 [.int .u64 0, .int .u64 0, .int .i64 0] [(0, 1), (1, 1), (2, 1)] := ⟨fun w => by simp, _, Try.underlying56, fun w => by simp⟩
theorem sb_57 : StructT Try.prog 57 [.int .u64 0, .int .u64 0, .int .i64 0] [(0, 1), (1, 1), (2, 1)] := ⟨fun w => by simp, _, Try.underlying57, fun w => by simp⟩
theorem sb_60 : StructT Try.prog 60 [.slice none 0 0, .int .u64 0, .int .i64 0, .int .i64 0] [(0, 1), (1, 1), (2, 1), (3, 1)] := ⟨fun w => by simp, _, Try.underlying60, fun w => by simp⟩
theorem sb_61 : StructT Try.prog 61 [.slice none 0 0, .int .u64 0, .int .i64 0, .int .i64 0] [(0, 1), (1, 1), (2, 1), (3, 1)] := ⟨fun w => by simp, _, Try.underlying61, fun w => by simp⟩
theorem sb_77 : StructT Try.prog 77 [.int .i64 0, .int .i64 0, .slice none 0 0] [(0, 1), (1, 1), (2, 1)] := ⟨fun w => by simp, _, Try.underlying77, fun w => by simp⟩
theorem sb_78 : StructT Try.prog 78 [.int .i64 0, .int .i64 0, .slice none 0 0] [(0, 1), (1, 1), (2, 1)] := ⟨fun w => by simp, _, Try.underlying78, fun w => by simp⟩
theorem sb_89 : StructT Try.prog 89 [.int .u64 0, .int .u64 0, .int .i64 0, .int .i64 0, .int .i64 0, .int .i64 0, .bool false, .int .u32 0] [(0, 1), (1, 1), (2, 1), (3, 1), (4, 1), (5, 1), (6, 1), (7, 1)] := ⟨fun w => by simp, _, Try.underlying89, fun w => by simp⟩
theorem sb_90 : StructT Try.prog 90 [.int .u64 0, .int .u64 0, .int .i64 0, .int .i64 0, .int .i64 0, .int .i64 0, .bool false, .int .u32 0] [(0, 1), (1, 1), (2, 1), (3, 1), (4, 1), (5, 1), (6, 1), (7, 1)] := ⟨fun w => by simp, _, Try.underlying90, fun w => by simp⟩
theorem sb_94 : StructT Try.prog 94 [.int .u64 0, .int .u64 0, .int .i64 0, .int .u32 0] [(0, 1), (1, 1), (2, 1), (3, 1)] := ⟨fun w => by simp, _, Try.underlying94, fun w => by simp⟩
theorem sb_95 : StructT Try.prog 95 [.int .u64 0, .int .u64 0, .int .i64 0, .int .u32 0] [(0, 1), (1, 1), (2, 1), (3, 1)] := ⟨fun w => by simp, _, Try.underlying95, fun w => by simp⟩
theorem sb_123 : StructT Try.prog 123 [.int .u32 0, .int .i64 0] [(0, 1), (1, 1)] := ⟨fun w => by simp, _, Try.underlying123, fun w => by simp⟩
theorem sb_124 : StructT Try.prog 124 [.int .u32 0, .int .i64 0] [(0, 1), (1, 1)] := ⟨fun w => by simp, _, Try.underlying124, fun w => by simp⟩
theorem sb_138 : StructT Try.prog 138 [.int .i64 0, .int .i64 0] [(0, 1), (1, 1)] := ⟨fun w => by simp, _, Try.underlying138, fun w => by simp⟩
theorem sb_139 : StructT Try.prog 139 [.int .i64 0, .int .i64 0] [(0, 1), (1, 1)] := ⟨fun w => by simp, _, Try.underlying139, fun w => by simp⟩
theorem sb_145 : StructT Try.prog 145 [.int .i64 0, .slice none 0 0] [(0, 1), (1, 1)] := ⟨fun w => by simp, _, Try.underlying145, fun w => by simp⟩
theorem sb_146 : StructT Try.prog 146 [.int .i64 0, .slice none 0 0] [(0, 1), (1, 1)] := ⟨fun w => by simp, _, Try.underlying146, fun w => by simp⟩
theorem sb_177 : StructT Try.prog 177 [.int .i64 0, .slice none 0 0, .int .u16 0] [(0, 1), (1, 1), (2, 1)] := ⟨fun w => by simp, _, Try.underlying177, fun w => by simp⟩
theorem sb_178 : StructT Try.prog 178 [.int .i64 0, .slice none 0 0, .int .u16 0] [(0, 1), (1, 1), (2, 1)] := ⟨fun w => by simp, _, Try.underlying178, fun w => by simp⟩
theorem sb_185 : StructT Try.prog 185 [.slice none 0 0, .int .i64 0, .int .u16 0, .int .i64 0] [(0, 1), (1, 1), (2, 1), (3, 1)] := ⟨fun w => by simp, _, Try.underlying185, fun w => by simp⟩
theorem sb_186 : StructT Try.prog 186 [.slice none 0 0, .int .i64 0, .int .u16 0, .int .i64 0] [(0, 1), (1, 1), (2, 1), (3, 1)] := ⟨fun w => by simp, _, Try.underlying186, fun w => by simp⟩
theorem sb_192 : StructT Try.prog 192 [] [(0, 0)] := ⟨fun w => by simp, _, Try.underlying192, fun w => by simp⟩
theorem sb_193 : StructT Try.prog 193 [] [(0, 0)] := ⟨fun w => by simp, _, Try.underlying193, fun w => by simp⟩
theorem ze_2 : ∀ w, (zeroValue 2).run Try.prog w = .ok (.int .i64 0) w := fun w => by simp
theorem ze_3 : ∀ w, (zeroValue 3).run Try.prog w = .ok (.int .i64 0) w := fun w => by simp
theorem ze_4 : ∀ w, (zeroValue 4).run Try.prog w = .ok (.bool false) w := fun w => by simp
theorem ze_5 : ∀ w, (zeroValue 5).run Try.prog w = .ok (.int .u8 0) w := fun w => by simp
theorem ze_6 : ∀ w, (zeroValue 6).run Try.prog w = .ok (.int .u8 0) w := fun w => by simp
theorem ze_12 : ∀ w, (zeroValue 12).run Try.prog w = .ok (.int .u64 0) w := fun w => by simp
theorem ze_15 : ∀ w, (zeroValue 15).run Try.prog w = .ok (.pointer none) w := fun w => by simp
theorem ze_16 : ∀ w, (zeroValue 16).run Try.prog w = .ok (.pointer none) w := fun w => by simp
theorem ze_17 : ∀ w, (zeroValue 17).run Try.prog w = .ok (.pointer none) w := fun w => by simp
theorem ze_21 : ∀ w, (zeroValue 21).run Try.prog w = .ok (.int .i32 0) w := fun w => by simp
theorem ze_22 : ∀ w, (zeroValue 22).run Try.prog w = .ok (.int .u64 0) w := fun w => by simp
theorem ze_23 : ∀ w, (zeroValue 23).run Try.prog w = .ok (.slice none 0 0) w := fun w => by simp
theorem ze_28 : ∀ w, (zeroValue 28).run Try.prog w = .ok (.slice none 0 0) w := fun w => by simp
theorem ze_29 : ∀ w, (zeroValue 29).run Try.prog w = .ok (.int .u16 0) w := fun w => by simp
theorem ze_30 : ∀ w, (zeroValue 30).run Try.prog w = .ok (.int .u16 0) w := fun w => by simp
theorem ze_37 : ∀ w, (zeroValue 37).run Try.prog w = .ok (.pointer none) w := fun w => by simp
theorem ze_38 : ∀ w, (zeroValue 38).run Try.prog w = .ok (.slice none 0 0) w := fun w => by simp
theorem ze_39 : ∀ w, (zeroValue 39).run Try.prog w = .ok (.slice none 0 0) w := fun w => by simp
theorem ze_40 : ∀ w, (zeroValue 40).run Try.prog w = .ok (.slice none 0 0) w := fun w => by simp
theorem ze_41 : ∀ w, (zeroValue 41).run Try.prog w = .ok (.slice none 0 0) w := fun w => by simp
theorem ze_42 : ∀ w, (zeroValue 42).run Try.prog w = .ok (.slice none 0 0) w := fun w => by simp
theorem ze_43 : ∀ w, (zeroValue 43).run Try.prog w = .ok (.slice none 0 0) w := fun w => by simp
theorem ze_44 : ∀ w, (zeroValue 44).run Try.prog w = .ok (.slice none 0 0) w := fun w => by simp
theorem ze_45 : ∀ w, (zeroValue 45).run Try.prog w = .ok (.slice none 0 0) w := fun w => by simp
theorem ze_46 : ∀ w, (zeroValue 46).run Try.prog w = .ok (.slice none 0 0) w := fun w => by simp
theorem ze_47 : ∀ w, (zeroValue 47).run Try.prog w = .ok (.slice none 0 0) w := fun w => by simp
theorem ze_48 : ∀ w, (zeroValue 48).run Try.prog w = .ok (.slice none 0 0) w := fun w => by simp
theorem ze_55 : ∀ w, (zeroValue 55).run Try.prog w = .ok (.slice none 0 0) w := fun w => by simp
theorem ze_59 : ∀ w, (zeroValue 59).run Try.prog w = .ok (.slice none 0 0) w := fun w => by simp
theorem ze_71 : ∀ w, (zeroValue 71).run Try.prog w = .ok (.slice none 0 0) w := fun w => by simp
theorem ze_74 : ∀ w, (zeroValue 74).run Try.prog w = .ok (.int .u32 0) w := fun w => by simp
theorem ze_83 : ∀ w, (zeroValue 83).run Try.prog w = .ok (.pointer none) w := fun w => by simp
theorem ze_113 : ∀ w, (zeroValue 113).run Try.prog w = .ok (.slice none 0 0) w := fun w => by simp
theorem ze_128 : ∀ w, (zeroValue 128).run Try.prog w = .ok (.pointer none) w := fun w => by simp
theorem ze_133 : ∀ w, (zeroValue 133).run Try.prog w = .ok (.slice none 0 0) w := fun w => by simp
theorem ze_135 : ∀ w, (zeroValue 135).run Try.prog w = .ok (.slice none 0 0) w := fun w => by simp
theorem ze_136 : ∀ w, (zeroValue 136).run Try.prog w = .ok (.slice none 0 0) w := fun w => by simp
theorem ze_137 : ∀ w, (zeroValue 137).run Try.prog w = .ok (.slice none 0 0) w := fun w => by simp
theorem ze_140 : ∀ w, (zeroValue 140).run Try.prog w = .ok (.slice none 0 0) w := fun w => by simp
theorem ze_141 : ∀ w, (zeroValue 141).run Try.prog w = .ok (.int .u8 0) w := fun w => by simp
theorem ze_142 : ∀ w, (zeroValue 142).run Try.prog w = .ok (.int .u64 0) w := fun w => by simp
theorem ze_143 : ∀ w, (zeroValue 143).run Try.prog w = .ok (.slice none 0 0) w := fun w => by simp
theorem ze_144 : ∀ w, (zeroValue 144).run Try.prog w = .ok (.slice none 0 0) w := fun w => by simp
theorem ze_171 : ∀ w, (zeroValue 171).run Try.prog w = .ok (.pointer none) w := fun w => by simp
theorem ze_173 : ∀ w, (zeroValue 173).run Try.prog w = .ok (.pointer none) w := fun w => by simp
theorem ze_174 : ∀ w, (zeroValue 174).run Try.prog w = .ok (.slice none 0 0) w := fun w => by simp
theorem ze_194 : ∀ w, (zeroValue 194).run Try.prog w = .ok (.int .u8 0) w := fun w => by simp
theorem ze_195 : ∀ w, (zeroValue 195).run Try.prog w = .ok (.int .u8 0) w := fun w => by simp
theorem ze_197 : ∀ w, (zeroValue 197).run Try.prog w = .ok (.pointer none) w := fun w => by simp
theorem ze_198 : ∀ w, (zeroValue 198).run Try.prog w = .ok (.int .i32 0) w := fun w => by simp
theorem ze_199 : ∀ w, (zeroValue 199).run Try.prog w = .ok (.int .i32 0) w := fun w => by simp
theorem ze_202 : ∀ w, (zeroValue 202).run Try.prog w = .ok (.pointer none) w := fun w => by simp
end Go.Proofs.Ytlojjlbngnaphaa
