/- Written by program (wip/tab.py): what the program's table of types says, each line held by the kernel. -/
import Derived.Test.YtgkpdpoblofehaaGreatRows
import Derived.Test.YtgkpdpoblofehaaGreatSw
namespace Go.Proofs.YtgkpdpoblofehaaGreat
open Go.Sl
def tab : TabData where
  flds := [(7, [0, 1, 2, 3]), (8, [0, 1, 2, 3]), (13, [0, 1]), (14, [0, 1]), (18, [0]), (19, [0]), (23, [0, 1, 2]), (24, [0, 1, 2]), (26, [0, 1, 2, 3, 4, 7, 8, 9, 10, 11]), (27, [0, 1, 2, 3, 4, 7, 8, 9, 10, 11]), (52, [0, 1, 2, 3, 4, 5, 6, 7, 8, 9, 10, 11]), (53, [0, 1, 2, 3, 4, 5, 6, 7, 8, 9, 10, 11]), (71, [0, 1]), (72, [0, 1]), (98, [0, 1, 2]), (99, [0, 1, 2]), (138, [0, 1]), (139, [0, 1]), (142, [0, 1]), (143, [0, 1]), (145, [0, 1, 2]), (146, [0, 1, 2]), (148, [0, 1]), (149, [0, 1]), (151, [0, 1, 2, 3]), (152, [0, 1, 2, 3]), (167, [0, 1, 2, 3]), (168, [0, 1, 2, 3]), (178, [0, 1, 2, 3, 4, 5, 6, 7, 8, 9, 10]), (179, [0, 1, 2, 3, 4, 5, 6, 7, 8, 9, 10])]
  leaf := [(1, ()), (2, ()), (3, ()), (4, ()), (5, ()), (6, ()), (9, ()), (10, ()), (11, ()), (12, ()), (15, ()), (16, ()), (17, ()), (20, ()), (21, ()), (22, ()), (25, ()), (28, ()), (29, ()), (30, ()), (31, ()), (32, ()), (34, ()), (35, ()), (36, ()), (38, ()), (39, ()), (40, ()), (41, ()), (42, ()), (43, ()), (44, ()), (45, ()), (46, ()), (47, ()), (48, ()), (49, ()), (50, ()), (51, ()), (54, ()), (55, ()), (56, ()), (57, ()), (58, ()), (59, ()), (60, ()), (61, ()), (62, ()), (63, ()), (64, ()), (66, ()), (67, ()), (68, ()), (69, ()), (70, ()), (73, ()), (74, ()), (75, ()), (76, ()), (77, ()), (78, ()), (79, ()), (80, ()), (81, ()), (82, ()), (84, ()), (85, ()), (86, ()), (87, ()), (88, ()), (89, ()), (90, ()), (91, ()), (92, ()), (93, ()), (94, ()), (95, ()), (96, ()), (97, ()), (100, ()), (101, ()), (102, ()), (103, ()), (104, ()), (105, ()), (106, ()), (107, ()), (108, ()), (109, ()), (110, ()), (111, ()), (112, ()), (113, ()), (114, ()), (115, ()), (116, ()), (117, ()), (118, ()), (119, ()), (120, ()), (121, ()), (122, ()), (123, ()), (124, ()), (125, ()), (126, ()), (127, ()), (128, ()), (129, ()), (130, ()), (131, ()), (132, ()), (133, ()), (134, ()), (135, ()), (136, ()), (137, ()), (140, ()), (141, ()), (144, ()), (147, ()), (150, ()), (153, ()), (154, ()), (155, ()), (156, ()), (158, ()), (160, ()), (161, ()), (163, ()), (165, ()), (166, ()), (172, ()), (173, ()), (174, ()), (175, ()), (176, ()), (177, ()), (180, ())]
  aggs := [(7, 4), (8, 4), (13, 2), (14, 2), (18, 1), (19, 1), (23, 3), (24, 3), (26, 12), (27, 12), (52, 12), (53, 12), (71, 2), (72, 2), (98, 3), (99, 3), (138, 2), (139, 2), (142, 2), (143, 2), (145, 3), (146, 3), (148, 2), (149, 2), (151, 4), (152, 4), (159, 16), (167, 4), (168, 4), (169, 0), (170, 0), (171, 0), (178, 11), (179, 11)]
  sls := [(25, 62), (32, 5), (40, 32), (41, 132), (42, 134), (43, 135), (44, 136), (45, 137), (46, 25), (47, 140), (48, 40), (49, 141), (50, 144), (51, 147), (67, 72), (132, 9), (134, 3), (135, 22), (136, 30), (137, 139), (140, 4), (141, 143), (144, 146), (147, 149)]
  ints := [(2, .i64), (3, .i64), (5, .u8), (6, .u8), (12, .u64), (21, .i32), (22, .u64), (29, .u16), (30, .u16), (62, .u8), (77, .u32), (129, .u64), (172, .u8), (173, .u8), (176, .i32), (177, .i32)]
  descs := [(4, 1, 0), (9, 2, 0), (10, 2, 0), (11, 2, 0), (15, 0, 168), (16, 0, 171), (17, 0, 179), (39, 0, 53), (64, 0, 99), (101, 0, 152), (102, 0, 27), (109, 0, 22), (116, 0, 3), (175, 0, 5)]
theorem tab_ok : tab.ok Tryz.prog = true := by kernel_rfl
theorem st_25 : SliceT Tryz.prog 25 62 (.int .u8 0) 1 1 := ⟨by kernel_rfl, by kernel_rfl, rfl, by simp [Value.cells, Value.oneCell']⟩
theorem st_32 : SliceT Tryz.prog 32 5 (.int .u8 0) 1 1 := ⟨by kernel_rfl, by kernel_rfl, rfl, by simp [Value.cells, Value.oneCell']⟩
theorem st_40 : SliceT Tryz.prog 40 32 (.slice none 0 0) 1 24 := ⟨by kernel_rfl, by kernel_rfl, rfl, by simp [Value.cells, Value.oneCell']⟩
theorem st_41 : SliceT Tryz.prog 41 132 (.slice none 0 0) 1 24 := ⟨by kernel_rfl, by kernel_rfl, rfl, by simp [Value.cells, Value.oneCell']⟩
theorem st_42 : SliceT Tryz.prog 42 134 (.slice none 0 0) 1 24 := ⟨by kernel_rfl, by kernel_rfl, rfl, by simp [Value.cells, Value.oneCell']⟩
theorem st_43 : SliceT Tryz.prog 43 135 (.slice none 0 0) 1 24 := ⟨by kernel_rfl, by kernel_rfl, rfl, by simp [Value.cells, Value.oneCell']⟩
theorem st_44 : SliceT Tryz.prog 44 136 (.slice none 0 0) 1 24 := ⟨by kernel_rfl, by kernel_rfl, rfl, by simp [Value.cells, Value.oneCell']⟩
theorem st_45 : SliceT Tryz.prog 45 137 (.slice none 0 0) 1 24 := ⟨by kernel_rfl, by kernel_rfl, rfl, by simp [Value.cells, Value.oneCell']⟩
theorem st_46 : SliceT Tryz.prog 46 25 (.slice none 0 0) 1 24 := ⟨by kernel_rfl, by kernel_rfl, rfl, by simp [Value.cells, Value.oneCell']⟩
theorem st_47 : SliceT Tryz.prog 47 140 (.slice none 0 0) 1 24 := ⟨by kernel_rfl, by kernel_rfl, rfl, by simp [Value.cells, Value.oneCell']⟩
theorem st_48 : SliceT Tryz.prog 48 40 (.slice none 0 0) 1 24 := ⟨by kernel_rfl, by kernel_rfl, rfl, by simp [Value.cells, Value.oneCell']⟩
theorem st_49 : SliceT Tryz.prog 49 141 (.slice none 0 0) 1 24 := ⟨by kernel_rfl, by kernel_rfl, rfl, by simp [Value.cells, Value.oneCell']⟩
theorem st_50 : SliceT Tryz.prog 50 144 (.slice none 0 0) 1 24 := ⟨by kernel_rfl, by kernel_rfl, rfl, by simp [Value.cells, Value.oneCell']⟩
theorem st_51 : SliceT Tryz.prog 51 147 (.slice none 0 0) 1 24 := ⟨by kernel_rfl, by kernel_rfl, rfl, by simp [Value.cells, Value.oneCell']⟩
theorem st_134 : SliceT Tryz.prog 134 3 (.int .i64 0) 1 8 := ⟨by kernel_rfl, by kernel_rfl, rfl, by simp [Value.cells, Value.oneCell']⟩
theorem st_135 : SliceT Tryz.prog 135 22 (.int .u64 0) 1 8 := ⟨by kernel_rfl, by kernel_rfl, rfl, by simp [Value.cells, Value.oneCell']⟩
theorem st_136 : SliceT Tryz.prog 136 30 (.int .u16 0) 1 2 := ⟨by kernel_rfl, by kernel_rfl, rfl, by simp [Value.cells, Value.oneCell']⟩
theorem st_137 : SliceT Tryz.prog 137 139 (.agg #[.int .i64 0, .int .i64 0]) 2 16 := ⟨by kernel_rfl, by kernel_rfl, rfl, by simp [Value.cells, Value.oneCell']⟩
theorem st_140 : SliceT Tryz.prog 140 4 (.bool false) 1 1 := ⟨by kernel_rfl, by kernel_rfl, rfl, by simp [Value.cells, Value.oneCell']⟩
theorem st_141 : SliceT Tryz.prog 141 143 (.agg #[.int .i64 0, .slice none 0 0]) 2 32 := ⟨by kernel_rfl, by kernel_rfl, rfl, by simp [Value.cells, Value.oneCell']⟩
theorem st_144 : SliceT Tryz.prog 144 146 (.agg #[.int .i64 0, .int .i64 0, .slice none 0 0]) 3 40 := ⟨by kernel_rfl, by kernel_rfl, rfl, by simp [Value.cells, Value.oneCell']⟩
theorem st_147 : SliceT Tryz.prog 147 149 (.agg #[.int .u64 0, .slice none 0 0]) 2 32 := ⟨by kernel_rfl, by kernel_rfl, rfl, by simp [Value.cells, Value.oneCell']⟩
theorem sb_7 : StructT Tryz.prog 7 [.int .i64 0, .int .i64 0, .bool false, .int .u8 0] [(0, 1), (1, 1), (2, 1), (3, 1)] := ⟨fun w => by simp, _, Tryz.underlying7, fun w => by simp⟩
theorem sb_8 : StructT Tryz.prog 8 [.int .i64 0, .int .i64 0, .bool false, .int .u8 0] [(0, 1), (1, 1), (2, 1), (3, 1)] := ⟨fun w => by simp, _, Tryz.underlying8, fun w => by simp⟩
theorem sb_18 : StructT Tryz.prog 18 [.pointer none] [(0, 1)] := ⟨fun w => by simp, _, Tryz.underlying18, fun w => by simp⟩
theorem sb_19 : StructT Tryz.prog 19 [.pointer none] [(0, 1)] := ⟨fun w => by simp, _, Tryz.underlying19, fun w => by simp⟩
theorem sb_23 : StructT Tryz.prog 23 [.int .i64 0, .int .i64 0, .int .i64 0] [(0, 1), (1, 1), (2, 1)] := ⟨fun w => by simp, _, Tryz.underlying23, fun w => by simp⟩
theorem sb_24 : StructT Tryz.prog 24 [.int .i64 0, .int .i64 0, .int .i64 0] [(0, 1), (1, 1), (2, 1)] := ⟨fun w => by simp, _, Tryz.underlying24, fun w => by simp⟩
theorem sb_26 : StructT Tryz.prog 26 [.int .u64 0, .int .u64 0, .int .u64 0, .int .i64 0, .int .i64 0, .int .i64 0, .int .i64 0, .int .i64 0, .bool false, .bool false, .slice none 0 0, .int .i64 0] [(0, 1), (1, 1), (2, 1), (3, 1), (4, 3), (7, 1), (8, 1), (9, 1), (10, 1), (11, 1)] := ⟨fun w => by simp, _, Tryz.underlying26, fun w => by simp⟩
theorem sb_27 : StructT Tryz.prog 27 [.int .u64 0, .int .u64 0, .int .u64 0, .int .i64 0, .int .i64 0, .int .i64 0, .int .i64 0, .int .i64 0, .bool false, .bool false, .slice none 0 0, .int .i64 0] [(0, 1), (1, 1), (2, 1), (3, 1), (4, 3), (7, 1), (8, 1), (9, 1), (10, 1), (11, 1)] := ⟨fun w => by simp, _, Tryz.underlying27, fun w => by simp⟩
theorem sb_52 : StructT Tryz.prog 52 [.slice none 0 0, .slice none 0 0, .slice none 0 0, .slice none 0 0, .slice none 0 0, .slice none 0 0, .slice none 0 0, .slice none 0 0, .slice none 0 0, .slice none 0 0, .slice none 0 0, .slice none 0 0] [(0, 1), (1, 1), (2, 1), (3, 1), (4, 1), (5, 1), (6, 1), (7, 1), (8, 1), (9, 1), (10, 1), (11, 1)] := ⟨fun w => by simp, _, Tryz.underlying52, fun w => by simp⟩
theorem sb_53 : StructT Tryz.prog 53 [.slice none 0 0, .slice none 0 0, .slice none 0 0, .slice none 0 0, .slice none 0 0, .slice none 0 0, .slice none 0 0, .slice none 0 0, .slice none 0 0, .slice none 0 0, .slice none 0 0, .slice none 0 0] [(0, 1), (1, 1), (2, 1), (3, 1), (4, 1), (5, 1), (6, 1), (7, 1), (8, 1), (9, 1), (10, 1), (11, 1)] := ⟨fun w => by simp, _, Tryz.underlying53, fun w => by simp⟩
theorem sb_98 : StructT Tryz.prog 98 [.int .i64 0, .slice none 0 0, .int .u16 0] [(0, 1), (1, 1), (2, 1)] := ⟨fun w => by simp, _, Tryz.underlying98, fun w => by simp⟩
theorem sb_99 : StructT Tryz.prog 99 [.int .i64 0, .slice none 0 0, .int .u16 0] [(0, 1), (1, 1), (2, 1)] := ⟨fun w => by simp, _, Tryz.underlying99, fun w => by simp⟩
theorem sb_138 : StructT Tryz.prog 138 [.int .i64 0, .int .i64 0] [(0, 1), (1, 1)] := ⟨fun w => by simp, _, Tryz.underlying138, fun w => by simp⟩
theorem sb_139 : StructT Tryz.prog 139 [.int .i64 0, .int .i64 0] [(0, 1), (1, 1)] := ⟨fun w => by simp, _, Tryz.underlying139, fun w => by simp⟩
theorem sb_142 : StructT Tryz.prog 142 [.int .i64 0, .slice none 0 0] [(0, 1), (1, 1)] := ⟨fun w => by simp, _, Tryz.underlying142, fun w => by simp⟩
theorem sb_143 : StructT Tryz.prog 143 [.int .i64 0, .slice none 0 0] [(0, 1), (1, 1)] := ⟨fun w => by simp, _, Tryz.underlying143, fun w => by simp⟩
theorem sb_145 : StructT Tryz.prog 145 [.int .i64 0, .int .i64 0, .slice none 0 0] [(0, 1), (1, 1), (2, 1)] := ⟨fun w => by simp, _, Tryz.underlying145, fun w => by simp⟩
theorem sb_146 : StructT Tryz.prog 146 [.int .i64 0, .int .i64 0, .slice none 0 0] [(0, 1), (1, 1), (2, 1)] := ⟨fun w => by simp, _, Tryz.underlying146, fun w => by simp⟩
theorem sb_148 : StructT Tryz.prog 148 [.int .u64 0, .slice none 0 0] [(0, 1), (1, 1)] := ⟨fun w => by simp, _, Tryz.underlying148, fun w => by simp⟩
theorem sb_149 : StructT Tryz.prog 149 [.int .u64 0, .slice none 0 0] [(0, 1), (1, 1)] := ⟨fun w => by simp, _, Tryz.underlying149, fun w => by simp⟩
theorem sb_151 : StructT Tryz.prog 151 [.slice none 0 0, .int .i64 0, .int .u16 0, .int .i64 0] [(0, 1), (1, 1), (2, 1), (3, 1)] := ⟨fun w => by simp, _, Tryz.underlying151, fun w => by simp⟩
theorem sb_152 : StructT Tryz.prog 152 [.slice none 0 0, .int .i64 0, .int .u16 0, .int .i64 0] [(0, 1), (1, 1), (2, 1), (3, 1)] := ⟨fun w => by simp, _, Tryz.underlying152, fun w => by simp⟩
theorem sb_170 : StructT Tryz.prog 170 [] [(0, 0)] := ⟨fun w => by simp, _, Tryz.underlying170, fun w => by simp⟩
theorem sb_171 : StructT Tryz.prog 171 [] [(0, 0)] := ⟨fun w => by simp, _, Tryz.underlying171, fun w => by simp⟩
theorem ze_2 : ∀ w, (zeroValue 2).run Tryz.prog w = .ok (.int .i64 0) w := fun w => by simp
theorem ze_3 : ∀ w, (zeroValue 3).run Tryz.prog w = .ok (.int .i64 0) w := fun w => by simp
theorem ze_4 : ∀ w, (zeroValue 4).run Tryz.prog w = .ok (.bool false) w := fun w => by simp
theorem ze_5 : ∀ w, (zeroValue 5).run Tryz.prog w = .ok (.int .u8 0) w := fun w => by simp
theorem ze_6 : ∀ w, (zeroValue 6).run Tryz.prog w = .ok (.int .u8 0) w := fun w => by simp
theorem ze_12 : ∀ w, (zeroValue 12).run Tryz.prog w = .ok (.int .u64 0) w := fun w => by simp
theorem ze_15 : ∀ w, (zeroValue 15).run Tryz.prog w = .ok (.pointer none) w := fun w => by simp
theorem ze_16 : ∀ w, (zeroValue 16).run Tryz.prog w = .ok (.pointer none) w := fun w => by simp
theorem ze_17 : ∀ w, (zeroValue 17).run Tryz.prog w = .ok (.pointer none) w := fun w => by simp
theorem ze_21 : ∀ w, (zeroValue 21).run Tryz.prog w = .ok (.int .i32 0) w := fun w => by simp
theorem ze_22 : ∀ w, (zeroValue 22).run Tryz.prog w = .ok (.int .u64 0) w := fun w => by simp
theorem ze_25 : ∀ w, (zeroValue 25).run Tryz.prog w = .ok (.slice none 0 0) w := fun w => by simp
theorem ze_29 : ∀ w, (zeroValue 29).run Tryz.prog w = .ok (.int .u16 0) w := fun w => by simp
theorem ze_30 : ∀ w, (zeroValue 30).run Tryz.prog w = .ok (.int .u16 0) w := fun w => by simp
theorem ze_32 : ∀ w, (zeroValue 32).run Tryz.prog w = .ok (.slice none 0 0) w := fun w => by simp
theorem ze_39 : ∀ w, (zeroValue 39).run Tryz.prog w = .ok (.pointer none) w := fun w => by simp
theorem ze_40 : ∀ w, (zeroValue 40).run Tryz.prog w = .ok (.slice none 0 0) w := fun w => by simp
theorem ze_41 : ∀ w, (zeroValue 41).run Tryz.prog w = .ok (.slice none 0 0) w := fun w => by simp
theorem ze_42 : ∀ w, (zeroValue 42).run Tryz.prog w = .ok (.slice none 0 0) w := fun w => by simp
theorem ze_43 : ∀ w, (zeroValue 43).run Tryz.prog w = .ok (.slice none 0 0) w := fun w => by simp
theorem ze_44 : ∀ w, (zeroValue 44).run Tryz.prog w = .ok (.slice none 0 0) w := fun w => by simp
theorem ze_45 : ∀ w, (zeroValue 45).run Tryz.prog w = .ok (.slice none 0 0) w := fun w => by simp
theorem ze_46 : ∀ w, (zeroValue 46).run Tryz.prog w = .ok (.slice none 0 0) w := fun w => by simp
theorem ze_47 : ∀ w, (zeroValue 47).run Tryz.prog w = .ok (.slice none 0 0) w := fun w => by simp
theorem ze_48 : ∀ w, (zeroValue 48).run Tryz.prog w = .ok (.slice none 0 0) w := fun w => by simp
theorem ze_49 : ∀ w, (zeroValue 49).run Tryz.prog w = .ok (.slice none 0 0) w := fun w => by simp
theorem ze_50 : ∀ w, (zeroValue 50).run Tryz.prog w = .ok (.slice none 0 0) w := fun w => by simp
theorem ze_51 : ∀ w, (zeroValue 51).run Tryz.prog w = .ok (.slice none 0 0) w := fun w => by simp
theorem ze_62 : ∀ w, (zeroValue 62).run Tryz.prog w = .ok (.int .u8 0) w := fun w => by simp
theorem ze_64 : ∀ w, (zeroValue 64).run Tryz.prog w = .ok (.pointer none) w := fun w => by simp
theorem ze_67 : ∀ w, (zeroValue 67).run Tryz.prog w = .ok (.slice none 0 0) w := fun w => by simp
theorem ze_77 : ∀ w, (zeroValue 77).run Tryz.prog w = .ok (.int .u32 0) w := fun w => by simp
theorem ze_101 : ∀ w, (zeroValue 101).run Tryz.prog w = .ok (.pointer none) w := fun w => by simp
theorem ze_102 : ∀ w, (zeroValue 102).run Tryz.prog w = .ok (.pointer none) w := fun w => by simp
theorem ze_109 : ∀ w, (zeroValue 109).run Tryz.prog w = .ok (.pointer none) w := fun w => by simp
theorem ze_116 : ∀ w, (zeroValue 116).run Tryz.prog w = .ok (.pointer none) w := fun w => by simp
theorem ze_129 : ∀ w, (zeroValue 129).run Tryz.prog w = .ok (.int .u64 0) w := fun w => by simp
theorem ze_132 : ∀ w, (zeroValue 132).run Tryz.prog w = .ok (.slice none 0 0) w := fun w => by simp
theorem ze_134 : ∀ w, (zeroValue 134).run Tryz.prog w = .ok (.slice none 0 0) w := fun w => by simp
theorem ze_135 : ∀ w, (zeroValue 135).run Tryz.prog w = .ok (.slice none 0 0) w := fun w => by simp
theorem ze_136 : ∀ w, (zeroValue 136).run Tryz.prog w = .ok (.slice none 0 0) w := fun w => by simp
theorem ze_137 : ∀ w, (zeroValue 137).run Tryz.prog w = .ok (.slice none 0 0) w := fun w => by simp
theorem ze_140 : ∀ w, (zeroValue 140).run Tryz.prog w = .ok (.slice none 0 0) w := fun w => by simp
theorem ze_141 : ∀ w, (zeroValue 141).run Tryz.prog w = .ok (.slice none 0 0) w := fun w => by simp
theorem ze_144 : ∀ w, (zeroValue 144).run Tryz.prog w = .ok (.slice none 0 0) w := fun w => by simp
theorem ze_147 : ∀ w, (zeroValue 147).run Tryz.prog w = .ok (.slice none 0 0) w := fun w => by simp
theorem ze_172 : ∀ w, (zeroValue 172).run Tryz.prog w = .ok (.int .u8 0) w := fun w => by simp
theorem ze_173 : ∀ w, (zeroValue 173).run Tryz.prog w = .ok (.int .u8 0) w := fun w => by simp
theorem ze_175 : ∀ w, (zeroValue 175).run Tryz.prog w = .ok (.pointer none) w := fun w => by simp
theorem ze_176 : ∀ w, (zeroValue 176).run Tryz.prog w = .ok (.int .i32 0) w := fun w => by simp
theorem ze_177 : ∀ w, (zeroValue 177).run Tryz.prog w = .ok (.int .i32 0) w := fun w => by simp
theorem ze_180 : ∀ w, (zeroValue 180).run Tryz.prog w = .ok (.pointer none) w := fun w => by simp
end Go.Proofs.YtgkpdpoblofehaaGreat
