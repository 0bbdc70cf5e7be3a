/- Written by program (wip/tab.py): what the program's table of types says, each line held by the kernel. -/
import Derived.Test.YthefmgmgmoanlaaRows
import Derived.Test.YthefmgmgmoanlaaSw
namespace Go.Proofs.Ythefmgmgmoanlaa
open Go.Sl
def tab : TabData where
  flds := [(7, [0, 1, 2, 3]), (8, [0, 1, 2, 3]), (13, [0, 1]), (14, [0, 1]), (18, [0]), (19, [0]), (52, [0, 1, 2, 3]), (53, [0, 1, 2, 3]), (81, [0, 1, 2, 3, 4, 5, 6, 7, 8, 9, 10, 11]), (82, [0, 1, 2, 3, 4, 5, 6, 7, 8, 9, 10, 11]), (84, [0, 1, 2, 3]), (85, [0, 1, 2, 3]), (103, [0, 1, 2]), (104, [0, 1, 2]), (117, [0, 1, 2]), (118, [0, 1, 2]), (120, [0, 1, 2, 3]), (121, [0, 1, 2, 3]), (127, [0, 1, 2, 3]), (128, [0, 1, 2, 3]), (132, [0, 1]), (133, [0, 1]), (137, [0, 1, 2]), (138, [0, 1, 2]), (156, [0, 1, 2]), (157, [0, 1, 2]), (165, [0, 1, 2, 3]), (166, [0, 1, 2, 3]), (175, [0, 1]), (176, [0, 1]), (180, [0, 1]), (181, [0, 1]), (183, [0, 1, 2]), (184, [0, 1, 2]), (186, [0, 1]), (187, [0, 1]), (188, [0, 1]), (189, [0, 1]), (198, [0, 1, 2, 3]), (199, [0, 1, 2, 3]), (209, [0, 1, 2, 3, 4, 5, 6, 7, 8, 9, 10]), (210, [0, 1, 2, 3, 4, 5, 6, 7, 8, 9, 10])]
  leaf := [(1, ()), (2, ()), (3, ()), (4, ()), (5, ()), (6, ()), (9, ()), (10, ()), (11, ()), (12, ()), (15, ()), (16, ()), (17, ()), (20, ()), (21, ()), (22, ()), (23, ()), (24, ()), (25, ()), (27, ()), (28, ()), (29, ()), (30, ()), (31, ()), (32, ()), (33, ()), (34, ()), (35, ()), (37, ()), (38, ()), (39, ()), (40, ()), (41, ()), (42, ()), (43, ()), (44, ()), (45, ()), (47, ()), (48, ()), (49, ()), (50, ()), (51, ()), (54, ()), (55, ()), (56, ()), (57, ()), (58, ()), (59, ()), (60, ()), (61, ()), (62, ()), (63, ()), (64, ()), (65, ()), (66, ()), (67, ()), (68, ()), (69, ()), (70, ()), (71, ()), (72, ()), (73, ()), (74, ()), (75, ()), (76, ()), (77, ()), (78, ()), (79, ()), (80, ()), (83, ()), (86, ()), (87, ()), (88, ()), (89, ()), (90, ()), (91, ()), (92, ()), (93, ()), (95, ()), (96, ()), (97, ()), (98, ()), (100, ()), (101, ()), (102, ()), (105, ()), (106, ()), (107, ()), (108, ()), (109, ()), (110, ()), (111, ()), (112, ()), (113, ()), (115, ()), (116, ()), (119, ()), (122, ()), (123, ()), (124, ()), (125, ()), (126, ()), (129, ()), (134, ()), (135, ()), (139, ()), (140, ()), (141, ()), (142, ()), (143, ()), (144, ()), (145, ()), (146, ()), (147, ()), (148, ()), (149, ()), (150, ()), (151, ()), (152, ()), (153, ()), (154, ()), (155, ()), (159, ()), (160, ()), (161, ()), (162, ()), (163, ()), (164, ()), (167, ()), (168, ()), (169, ()), (170, ()), (171, ()), (172, ()), (173, ()), (174, ()), (177, ()), (178, ()), (179, ()), (182, ()), (185, ()), (190, ()), (192, ()), (194, ()), (196, ()), (197, ()), (203, ()), (204, ()), (205, ()), (206, ()), (207, ()), (208, ()), (211, ())]
  aggs := [(7, 4), (8, 4), (13, 2), (14, 2), (18, 1), (19, 1), (52, 4), (53, 4), (81, 12), (82, 12), (84, 4), (85, 4), (103, 3), (104, 3), (117, 3), (118, 3), (120, 4), (121, 4), (127, 4), (128, 4), (130, 128), (131, 128), (132, 129), (133, 129), (137, 3), (138, 3), (156, 3), (157, 3), (165, 4), (166, 4), (175, 2), (176, 2), (180, 2), (181, 2), (183, 3), (184, 3), (186, 2), (187, 2), (188, 2), (189, 2), (198, 4), (199, 4), (200, 0), (201, 0), (202, 0), (209, 11), (210, 11)]
  sls := [(35, 5), (44, 53), (51, 4), (57, 35), (61, 3), (65, 85), (70, 171), (71, 61), (72, 93), (73, 173), (74, 174), (75, 177), (76, 51), (77, 57), (78, 179), (79, 182), (80, 185), (93, 22), (124, 131), (126, 133), (155, 189), (171, 9), (173, 25), (174, 176), (177, 178), (179, 181), (182, 184), (185, 187)]
  ints := [(2, .i64), (3, .i64), (5, .u8), (6, .u8), (12, .u64), (21, .i32), (22, .u64), (24, .u16), (25, .u16), (31, .u32), (32, .u64), (178, .u8), (203, .u8), (204, .u8), (207, .i32), (208, .i32)]
  descs := [(4, 1, 0), (9, 2, 0), (10, 2, 0), (11, 2, 0), (15, 0, 199), (16, 0, 202), (17, 0, 210), (23, 0, 118), (38, 0, 121), (45, 0, 128), (67, 0, 138), (69, 0, 82), (98, 0, 157), (102, 0, 104), (107, 0, 166), (206, 0, 5)]
theorem tab_ok : tab.ok Try.prog = true := by kernel_rfl
theorem st_35 : SliceT Try.prog 35 5 (.int .u8 0) 1 1 := ⟨by kernel_rfl, by kernel_rfl, rfl, by simp [Value.cells, Value.oneCell']⟩
theorem st_44 : SliceT Try.prog 44 53 (.agg #[.int .u8 0, .int .i64 0, .slice none 0 0, .slice none 0 0]) 4 64 := ⟨by kernel_rfl, by kernel_rfl, rfl, by simp [Value.cells, Value.oneCell']⟩
theorem st_51 : SliceT Try.prog 51 4 (.bool false) 1 1 := ⟨by kernel_rfl, by kernel_rfl, rfl, by simp [Value.cells, Value.oneCell']⟩
theorem st_57 : SliceT Try.prog 57 35 (.slice none 0 0) 1 24 := ⟨by kernel_rfl, by kernel_rfl, rfl, by simp [Value.cells, Value.oneCell']⟩
theorem st_61 : SliceT Try.prog 61 3 (.int .i64 0) 1 8 := ⟨by kernel_rfl, by kernel_rfl, rfl, by simp [Value.cells, Value.oneCell']⟩
theorem st_65 : SliceT Try.prog 65 85 (.agg #[.int .i64 0, .int .u64 0, .int .i64 0, .slice none 0 0]) 4 48 := ⟨by kernel_rfl, by kernel_rfl, rfl, by simp [Value.cells, Value.oneCell']⟩
theorem st_70 : SliceT Try.prog 70 171 (.slice none 0 0) 1 24 := ⟨by kernel_rfl, by kernel_rfl, rfl, by simp [Value.cells, Value.oneCell']⟩
theorem st_71 : SliceT Try.prog 71 61 (.slice none 0 0) 1 24 := ⟨by kernel_rfl, by kernel_rfl, rfl, by simp [Value.cells, Value.oneCell']⟩
theorem st_72 : SliceT Try.prog 72 93 (.slice none 0 0) 1 24 := ⟨by kernel_rfl, by kernel_rfl, rfl, by simp [Value.cells, Value.oneCell']⟩
theorem st_73 : SliceT Try.prog 73 173 (.slice none 0 0) 1 24 := ⟨by kernel_rfl, by kernel_rfl, rfl, by simp [Value.cells, Value.oneCell']⟩
theorem st_74 : SliceT Try.prog 74 174 (.slice none 0 0) 1 24 := ⟨by kernel_rfl, by kernel_rfl, rfl, by simp [Value.cells, Value.oneCell']⟩
theorem st_75 : SliceT Try.prog 75 177 (.slice none 0 0) 1 24 := ⟨by kernel_rfl, by kernel_rfl, rfl, by simp [Value.cells, Value.oneCell']⟩
theorem st_76 : SliceT Try.prog 76 51 (.slice none 0 0) 1 24 := ⟨by kernel_rfl, by kernel_rfl, rfl, by simp [Value.cells, Value.oneCell']⟩
theorem st_77 : SliceT Try.prog 77 57 (.slice none 0 0) 1 24 := ⟨by kernel_rfl, by kernel_rfl, rfl, by simp [Value.cells, Value.oneCell']⟩
theorem st_78 : SliceT Try.prog 78 179 (.slice none 0 0) 1 24 := ⟨by kernel_rfl, by kernel_rfl, rfl, by simp [Value.cells, Value.oneCell']⟩
theorem st_79 : SliceT Try.prog 79 182 (.slice none 0 0) 1 24 := ⟨by kernel_rfl, by kernel_rfl, rfl, by simp [Value.cells, Value.oneCell']⟩
theorem st_80 : SliceT Try.prog 80 185 (.slice none 0 0) 1 24 := ⟨by kernel_rfl, by kernel_rfl, rfl, by simp [Value.cells, Value.oneCell']⟩
theorem st_93 : SliceT Try.prog 93 22 (.int .u64 0) 1 8 := ⟨by kernel_rfl, by kernel_rfl, rfl, by simp [Value.cells, Value.oneCell']⟩
theorem st_155 : SliceT Try.prog 155 189 (.agg #[.int .i64 0, .slice none 0 0]) 2 32 := ⟨by kernel_rfl, by kernel_rfl, rfl, by simp [Value.cells, Value.oneCell']⟩
theorem st_173 : SliceT Try.prog 173 25 (.int .u16 0) 1 2 := ⟨by kernel_rfl, by kernel_rfl, rfl, by simp [Value.cells, Value.oneCell']⟩
theorem st_174 : SliceT Try.prog 174 176 (.agg #[.int .i64 0, .int .i64 0]) 2 16 := ⟨by kernel_rfl, by kernel_rfl, rfl, by simp [Value.cells, Value.oneCell']⟩
theorem st_177 : SliceT Try.prog 177 178 (.int .u8 0) 1 1 := ⟨by kernel_rfl, by kernel_rfl, rfl, by simp [Value.cells, Value.oneCell']⟩
theorem st_179 : SliceT Try.prog 179 181 (.agg #[.int .i64 0, .slice none 0 0]) 2 32 := ⟨by kernel_rfl, by kernel_rfl, rfl, by simp [Value.cells, Value.oneCell']⟩
theorem st_182 : SliceT Try.prog 182 184 (.agg #[.int .i64 0, .int .i64 0, .slice none 0 0]) 3 40 := ⟨by kernel_rfl, by kernel_rfl, rfl, by simp [Value.cells, Value.oneCell']⟩
theorem st_185 : SliceT Try.prog 185 187 (.agg #[.int .u64 0, .slice none 0 0]) 2 32 := ⟨by kernel_rfl, by kernel_rfl, rfl, by simp [Value.cells, Value.oneCell']⟩
theorem sb_7 : StructT Try.prog 7 [.int .i64 0, .int .i64 0, .bool false, .int .u8 0] [(0, 1), (1, 1), (2, 1), (3, 1)] := ⟨fun w => by simp, _, Try.underlying7, fun w => by simp⟩
theorem sb_8 : StructT Try.prog 8 [.int .i64 0, .int .i64 0, .bool false, .int .u8 0] [(0, 1), (1, 1), (2, 1), (3, 1)] := ⟨fun w => by simp, _, Try.underlying8, fun w => by simp⟩
theorem sb_18 : StructT Try.prog 18 [.pointer none] [(0, 1)] := ⟨fun w => by simp, _, Try.underlying18, fun w => by simp⟩
theorem sb_19 : StructT Try.prog 19 [.pointer none] [(0, 1)] := ⟨fun w => by simp, _, Try.underlying19, fun w => by simp⟩
theorem sb_52 : StructT Try.prog 52 [.int .u8 0, .int .i64 0, .slice none 0 0, .slice none 0 0] [(0, 1), (1, 1), (2, 1), (3, 1)] := ⟨fun w => by simp, _, Try.underlying52, fun w => by simp⟩
theorem sb_53 : StructT Try.prog 53 [.int .u8 0, .int .i64 0, .slice none 0 0, .slice none 0 0] [(0, 1), (1, 1), (2, 1), (3, 1)] := ⟨fun w => by simp, _, Try.underlying53, fun w => by simp⟩
theorem sb_81 : StructT Try.prog 81 [.slice none 0 0, .slice none 0 0, .slice none 0 0, .slice none 0 0, .slice none 0 0, .slice none 0 0, .slice none 0 0, .slice none 0 0, .slice none 0 0, .slice none 0 0, .slice none 0 0, .slice none 0 0] [(0, 1), (1, 1), (2, 1), (3, 1), (4, 1), (5, 1), (6, 1), (7, 1), (8, 1), (9, 1), (10, 1), (11, 1)] := ⟨fun w => by simp, _, Try.underlying81, fun w => by simp⟩
theorem sb_82 : StructT Try.prog 82 [.slice none 0 0, .slice none 0 0, .slice none 0 0, .slice none 0 0, .slice none 0 0, .slice none 0 0, .slice none 0 0, .slice none 0 0, .slice none 0 0, .slice none 0 0, .slice none 0 0, .slice none 0 0] [(0, 1), (1, 1), (2, 1), (3, 1), (4, 1), (5, 1), (6, 1), (7, 1), (8, 1), (9, 1), (10, 1), (11, 1)] := ⟨fun w => by simp, _, Try.underlying82, fun w => by simp⟩
theorem sb_84 : StructT Try.prog 84 [.int .i64 0, .int .u64 0, .int .i64 0, .slice none 0 0] [(0, 1), (1, 1), (2, 1), (3, 1)] := ⟨fun w => by simp, _, Try.underlying84, fun w => by simp⟩
theorem sb_85 : StructT Try.prog 85 [.int .i64 0, .int .u64 0, .int .i64 0, .slice none 0 0] [(0, 1), (1, 1), (2, 1), (3, 1)] := ⟨fun w => by simp, _, Try.underlying85, fun w => by simp⟩
theorem sb_103 : StructT Try.prog 103 [.pointer none, .pointer none, .pointer none] [(0, 1), (1, 1), (2, 1)] := ⟨fun w => by simp, _, Try.underlying103, fun w => by simp⟩
theorem sb_104 : StructT Try.prog 104 [.pointer none, .pointer none, .pointer none] [(0, 1), (1, 1), (2, 1)] := ⟨fun w => by simp, _, Try.underlying104, fun w => by simp⟩
theorem sb_117 : StructT Try.prog 117 [.int .i64 0, .slice none 0 0, .int .u16 0] [(0, 1), (1, 1), (2, 1)] := ⟨fun w => by simp, _, Try.underlying117, fun w => by simp⟩
theorem sb_118 : StructT Try.prog 118 [.int .i64 0, .slice none 0 0, .int .u16 0] [(0, 1), (1, 1), (2, 1)] := ⟨fun w => by simp, _, Try.underlying118, fun w => by simp⟩
theorem sb_120 : StructT Try.prog 120 [.slice none 0 0, .int .i64 0, .int .u16 0, .int .i64 0] [(0, 1), (1, 1), (2, 1), (3, 1)] := ⟨fun w => by simp, _, Try.underlying120, fun w => by simp⟩
theorem sb_121 : StructT Try.prog 121 [.slice none 0 0, .int .i64 0, .int .u16 0, .int .i64 0] [(0, 1), (1, 1), (2, 1), (3, 1)] := ⟨fun w => by simp, _, Try.underlying121, fun w => by simp⟩
theorem sb_127 : StructT Try.prog 127 [.slice none 0 0, .slice none 0 0, .map none, .bool false] [(0, 1), (1, 1), (2, 1), (3, 1)] := ⟨fun w => by simp, _, Try.underlying127, fun w => by simp⟩
theorem sb_128 : StructT Try.prog 128 [.slice none 0 0, .slice none 0 0, .map none, .bool false] [(0, 1), (1, 1), (2, 1), (3, 1)] := ⟨fun w => by simp, _, Try.underlying128, fun w => by simp⟩
theorem sb_137 : StructT Try.prog 137 [.int .i64 0, .slice none 0 0, .int .u16 0] [(0, 1), (1, 1), (2, 1)] := ⟨fun w => by simp, _, Try.underlying137, fun w => by simp⟩
theorem sb_138 : StructT Try.prog 138 [.int .i64 0, .slice none 0 0, .int .u16 0] [(0, 1), (1, 1), (2, 1)] := ⟨fun w => by simp, _, Try.underlying138, fun w => by simp⟩
theorem sb_156 : StructT Try.prog 156 [.slice none 0 0, .slice none 0 0, .bool false] [(0, 1), (1, 1), (2, 1)] := ⟨fun w => by simp, _, Try.underlying156, fun w => by simp⟩
theorem sb_157 : StructT Try.prog 157 [.slice none 0 0, .slice none 0 0, .bool false] [(0, 1), (1, 1), (2, 1)] := ⟨fun w => by simp, _, Try.underlying157, fun w => by simp⟩
theorem sb_165 : StructT Try.prog 165 [.slice none 0 0, .int .i64 0, .int .u16 0, .int .i64 0] [(0, 1), (1, 1), (2, 1), (3, 1)] := ⟨fun w => by simp, _, Try.underlying165, fun w => by simp⟩
theorem sb_166 : StructT Try.prog 166 [.slice none 0 0, .int .i64 0, .int .u16 0, .int .i64 0] [(0, 1), (1, 1), (2, 1), (3, 1)] := ⟨fun w => by simp, _, Try.underlying166, fun w => by simp⟩
theorem sb_175 : StructT Try.prog 175 [.int .i64 0, .int .i64 0] [(0, 1), (1, 1)] := ⟨fun w => by simp, _, Try.underlying175, fun w => by simp⟩
theorem sb_176 : StructT Try.prog 176 [.int .i64 0, .int .i64 0] [(0, 1), (1, 1)] := ⟨fun w => by simp, _, Try.underlying176, fun w => by simp⟩
theorem sb_180 : StructT Try.prog 180 [.int .i64 0, .slice none 0 0] [(0, 1), (1, 1)] := ⟨fun w => by simp, _, Try.underlying180, fun w => by simp⟩
theorem sb_181 : StructT Try.prog 181 [.int .i64 0, .slice none 0 0] [(0, 1), (1, 1)] := ⟨fun w => by simp, _, Try.underlying181, fun w => by simp⟩
theorem sb_183 : StructT Try.prog 183 [.int .i64 0, .int .i64 0, .slice none 0 0] [(0, 1), (1, 1), (2, 1)] := ⟨fun w => by simp, _, Try.underlying183, fun w => by simp⟩
theorem sb_184 : StructT Try.prog 184 [.int .i64 0, .int .i64 0, .slice none 0 0] [(0, 1), (1, 1), (2, 1)] := ⟨fun w => by simp, _, Try.underlying184, fun w => by simp⟩
theorem sb_186 : StructT Try.prog 186 [.int .u64 0, .slice none 0 0] [(0, 1), (1, 1)] := ⟨fun w => by simp, _, Try.underlying186, fun w => by simp⟩
theorem sb_187 : StructT Try.prog 187 [.int .u64 0, .slice none 0 0] [(0, 1), (1, 1)] := ⟨fun w => by simp, _, Try.underlying187, fun w => by simp⟩
theorem sb_188 : StructT Try.prog 188 [.int .i64 0, .slice none 0 0] [(0, 1), (1, 1)] := ⟨fun w => by simp, _, Try.underlying188, fun w => by simp⟩
theorem sb_189 : StructT Try.prog 189 [.int .i64 0, .slice none 0 0] [(0, 1), (1, 1)] := ⟨fun w => by simp, _, Try.underlying189, fun w => by simp⟩
theorem sb_201 : StructT Try.prog 201 [] [(0, 0)] := ⟨fun w => by simp, _, Try.underlying201, fun w => by simp⟩
theorem sb_202 : StructT Try.prog 202 [] [(0, 0)] := ⟨fun w => by simp, _, Try.underlying202, fun w => by simp⟩
end Go.Proofs.Ythefmgmgmoanlaa
