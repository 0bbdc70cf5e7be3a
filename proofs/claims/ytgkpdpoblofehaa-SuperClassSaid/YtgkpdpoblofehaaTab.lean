/- Written by program (wip/tab.py): what the program's table of types says, each line held by the kernel. -/
import Derived.Test.YtgkpdpoblofehaaRows
import Derived.Test.YtgkpdpoblofehaaSw
namespace Go.Proofs.Ytgkpdpoblofehaa
open Go.Sl
def tab : TabData where
  flds := [(7, [0, 1, 2, 3]), (8, [0, 1, 2, 3]), (13, [0, 1]), (14, [0, 1]), (18, [0]), (19, [0]), (50, [0, 1, 2, 3, 4, 5, 6, 7, 8, 9, 10, 11]), (51, [0, 1, 2, 3, 4, 5, 6, 7, 8, 9, 10, 11]), (56, [0, 1, 2, 3, 4, 5, 6, 7]), (57, [0, 1, 2, 3, 4, 5, 6, 7]), (58, [0, 1, 2, 3]), (59, [0, 1, 2, 3]), (60, [0, 1, 2]), (61, [0, 1, 2]), (85, [0, 1, 2]), (86, [0, 1, 2]), (88, [0, 1, 2, 3, 4, 7, 8, 9, 10, 11]), (89, [0, 1, 2, 3, 4, 7, 8, 9, 10, 11]), (133, [0, 1]), (134, [0, 1]), (138, [0, 1]), (139, [0, 1]), (141, [0, 1, 2]), (142, [0, 1, 2]), (144, [0, 1]), (145, [0, 1]), (159, [0, 1]), (160, [0, 1]), (168, [0, 1, 2]), (169, [0, 1, 2]), (172, [0, 1, 2, 3]), (173, [0, 1, 2, 3]), (207, [0, 1, 2, 3]), (208, [0, 1, 2, 3]), (218, [0, 1, 2, 3, 4, 5, 6, 7, 8, 9, 10]), (219, [0, 1, 2, 3, 4, 5, 6, 7, 8, 9, 10])]
  leaf := [(1, ()), (2, ()), (3, ()), (4, ()), (5, ()), (6, ()), (9, ()), (10, ()), (11, ()), (12, ()), (15, ()), (16, ()), (17, ()), (20, ()), (21, ()), (22, ()), (23, ()), (24, ()), (25, ()), (27, ()), (28, ()), (29, ()), (31, ()), (32, ()), (34, ()), (36, ()), (37, ()), (38, ()), (39, ()), (40, ()), (41, ()), (42, ()), (43, ()), (44, ()), (45, ()), (46, ()), (47, ()), (48, ()), (49, ()), (52, ()), (53, ()), (54, ()), (55, ()), (62, ()), (63, ()), (64, ()), (65, ()), (66, ()), (67, ()), (69, ()), (71, ()), (73, ()), (74, ()), (76, ()), (78, ()), (80, ()), (81, ()), (82, ()), (83, ()), (84, ()), (87, ()), (90, ()), (91, ()), (92, ()), (93, ()), (94, ()), (95, ()), (96, ()), (97, ()), (98, ()), (99, ()), (100, ()), (101, ()), (102, ()), (103, ()), (104, ()), (105, ()), (106, ()), (107, ()), (108, ()), (109, ()), (110, ()), (111, ()), (112, ()), (113, ()), (114, ()), (115, ()), (116, ()), (117, ()), (118, ()), (119, ()), (120, ()), (121, ()), (122, ()), (123, ()), (124, ()), (126, ()), (127, ()), (128, ()), (129, ()), (130, ()), (131, ()), (132, ()), (135, ()), (136, ()), (137, ()), (140, ()), (143, ()), (147, ()), (148, ()), (149, ()), (150, ()), (151, ()), (152, ()), (153, ()), (154, ()), (155, ()), (156, ()), (157, ()), (158, ()), (161, ()), (162, ()), (163, ()), (164, ()), (165, ()), (166, ()), (167, ()), (170, ()), (171, ()), (174, ()), (175, ()), (176, ()), (177, ()), (178, ()), (179, ()), (180, ()), (181, ()), (182, ()), (183, ()), (184, ()), (185, ()), (186, ()), (187, ()), (188, ()), (189, ()), (190, ()), (191, ()), (192, ()), (193, ()), (195, ()), (196, ()), (197, ()), (198, ()), (199, ()), (201, ()), (203, ()), (205, ()), (206, ()), (212, ()), (213, ()), (214, ()), (215, ()), (216, ()), (217, ()), (220, ())]
  aggs := [(7, 4), (8, 4), (13, 2), (14, 2), (18, 1), (19, 1), (50, 12), (51, 12), (56, 8), (57, 8), (58, 4), (59, 4), (60, 3), (61, 3), (85, 3), (86, 3), (88, 12), (89, 12), (133, 2), (134, 2), (138, 2), (139, 2), (141, 3), (142, 3), (144, 2), (145, 2), (159, 2), (160, 2), (168, 3), (169, 3), (172, 4), (173, 4), (194, 16), (207, 4), (208, 4), (209, 0), (210, 0), (211, 0), (218, 11), (219, 11)]
  sls := [(22, 5), (38, 22), (39, 128), (40, 108), (41, 130), (42, 131), (43, 132), (44, 87), (45, 136), (46, 38), (47, 137), (48, 140), (49, 143), (87, 135), (108, 3), (116, 115), (128, 9), (130, 54), (131, 25), (132, 134), (136, 4), (137, 139), (140, 142), (143, 145), (155, 160)]
  ints := [(2, .i64), (3, .i64), (5, .u8), (6, .u8), (12, .u64), (21, .i32), (24, .u16), (25, .u16), (54, .u64), (55, .u32), (122, .u64), (135, .u8), (212, .u8), (213, .u8), (216, .i32), (217, .i32)]
  descs := [(4, 1, 0), (9, 2, 0), (10, 2, 0), (11, 2, 0), (15, 0, 208), (16, 0, 211), (17, 0, 219), (37, 0, 51), (107, 0, 169), (114, 0, 173), (115, 0, 3), (164, 0, 89), (177, 0, 54), (215, 0, 5)]
theorem tab_ok : tab.ok Try.prog = true := by kernel_rfl
theorem st_22 : SliceT Try.prog 22 5 (.int .u8 0) 1 1 := ⟨by kernel_rfl, by kernel_rfl, rfl, by simp [Value.cells, Value.oneCell']⟩
theorem st_38 : SliceT Try.prog 38 22 (.slice none 0 0) 1 24 := ⟨by kernel_rfl, by kernel_rfl, rfl, by simp [Value.cells, Value.oneCell']⟩
theorem st_39 : SliceT Try.prog 39 128 (.slice none 0 0) 1 24 := ⟨by kernel_rfl, by kernel_rfl, rfl, by simp [Value.cells, Value.oneCell']⟩
theorem st_40 : SliceT Try.prog 40 108 (.slice none 0 0) 1 24 := ⟨by kernel_rfl, by kernel_rfl, rfl, by simp [Value.cells, Value.oneCell']⟩
theorem st_41 : SliceT Try.prog 41 130 (.slice none 0 0) 1 24 := ⟨by kernel_rfl, by kernel_rfl, rfl, by simp [Value.cells, Value.oneCell']⟩
theorem st_42 : SliceT Try.prog 42 131 (.slice none 0 0) 1 24 := ⟨by kernel_rfl, by kernel_rfl, rfl, by simp [Value.cells, Value.oneCell']⟩
theorem st_43 : SliceT Try.prog 43 132 (.slice none 0 0) 1 24 := ⟨by kernel_rfl, by kernel_rfl, rfl, by simp [Value.cells, Value.oneCell']⟩
theorem st_44 : SliceT Try.prog 44 87 (.slice none 0 0) 1 24 := ⟨by kernel_rfl, by kernel_rfl, rfl, by simp [Value.cells, Value.oneCell']⟩
theorem st_45 : SliceT Try.prog 45 136 (.slice none 0 0) 1 24 := ⟨by kernel_rfl, by kernel_rfl, rfl, by simp [Value.cells, Value.oneCell']⟩
theorem st_46 : SliceT Try.prog 46 38 (.slice none 0 0) 1 24 := ⟨by kernel_rfl, by kernel_rfl, rfl, by simp [Value.cells, Value.oneCell']⟩
theorem st_47 : SliceT Try.prog 47 137 (.slice none 0 0) 1 24 := ⟨by kernel_rfl, by kernel_rfl, rfl, by simp [Value.cells, Value.oneCell']⟩
theorem st_48 : SliceT Try.prog 48 140 (.slice none 0 0) 1 24 := ⟨by kernel_rfl, by kernel_rfl, rfl, by simp [Value.cells, Value.oneCell']⟩
theorem st_49 : SliceT Try.prog 49 143 (.slice none 0 0) 1 24 := ⟨by kernel_rfl, by kernel_rfl, rfl, by simp [Value.cells, Value.oneCell']⟩
theorem st_87 : SliceT Try.prog 87 135 (.int .u8 0) 1 1 := ⟨by kernel_rfl, by kernel_rfl, rfl, by simp [Value.cells, Value.oneCell']⟩
theorem st_108 : SliceT Try.prog 108 3 (.int .i64 0) 1 8 := ⟨by kernel_rfl, by kernel_rfl, rfl, by simp [Value.cells, Value.oneCell']⟩
theorem st_116 : SliceT Try.prog 116 115 (.pointer none) 1 8 := ⟨by kernel_rfl, by kernel_rfl, rfl, by simp [Value.cells, Value.oneCell']⟩
theorem st_130 : SliceT Try.prog 130 54 (.int .u64 0) 1 8 := ⟨by kernel_rfl, by kernel_rfl, rfl, by simp [Value.cells, Value.oneCell']⟩
theorem st_131 : SliceT Try.prog 131 25 (.int .u16 0) 1 2 := ⟨by kernel_rfl, by kernel_rfl, rfl, by simp [Value.cells, Value.oneCell']⟩
theorem st_132 : SliceT Try.prog 132 134 (.agg #[.int .i64 0, .int .i64 0]) 2 16 := ⟨by kernel_rfl, by kernel_rfl, rfl, by simp [Value.cells, Value.oneCell']⟩
theorem st_136 : SliceT Try.prog 136 4 (.bool false) 1 1 := ⟨by kernel_rfl, by kernel_rfl, rfl, by simp [Value.cells, Value.oneCell']⟩
theorem st_137 : SliceT Try.prog 137 139 (.agg #[.int .i64 0, .slice none 0 0]) 2 32 := ⟨by kernel_rfl, by kernel_rfl, rfl, by simp [Value.cells, Value.oneCell']⟩
theorem st_140 : SliceT Try.prog 140 142 (.agg #[.int .i64 0, .int .i64 0, .slice none 0 0]) 3 40 := ⟨by kernel_rfl, by kernel_rfl, rfl, by simp [Value.cells, Value.oneCell']⟩
theorem st_143 : SliceT Try.prog 143 145 (.agg #[.int .u64 0, .slice none 0 0]) 2 32 := ⟨by kernel_rfl, by kernel_rfl, rfl, by simp [Value.cells, Value.oneCell']⟩
theorem sb_7 : StructT Try.prog 7 [.int .i64 0, .int .i64 0, .bool false, .int .u8 0] [(0, 1), (1, 1), (2, 1), (3, 1)] := ⟨fun w => by simp, _, Try.underlying7, fun w => by simp⟩
theorem sb_8 : StructT Try.prog 8 [.int .i64 0, .int .i64 0, .bool false, .int .u8 0] [(0, 1), (1, 1), (2, 1), (3, 1)] := ⟨fun w => by simp, _, Try.underlying8, fun w => by simp⟩
theorem sb_18 : StructT Try.prog 18 [.pointer none] [(0, 1)] := ⟨fun w => by simp, _, Try.underlying18, fun w => by simp⟩
theorem sb_19 : StructT Try.prog 19 [.pointer none] [(0, 1)] := ⟨fun w => by simp, _, Try.underlying19, fun w => by simp⟩
theorem sb_50 : StructT Try.prog 50 [.slice none 0 0, .slice none 0 0, .slice none 0 0, .slice none 0 0, .slice none 0 0, .slice none 0 0, .slice none 0 0, .slice none 0 0, .slice none 0 0, .slice none 0 0, .slice none 0 0, .slice none 0 0] [(0, 1), (1, 1), (2, 1), (3, 1), (4, 1), (5, 1), (6, 1), (7, 1), (8, 1), (9, 1), (10, 1), (11, 1)] := ⟨fun w => by simp, _, Try.underlying50, fun w => by simp⟩
theorem sb_51 : StructT Try.prog 51 [.slice none 0 0, .slice none 0 0, .slice none 0 0, .slice none 0 0, .slice none 0 0, .slice none 0 0, .slice none 0 0, .slice none 0 0, .slice none 0 0, .slice none 0 0, .slice none 0 0, .slice none 0 0] [(0, 1), (1, 1), (2, 1), (3, 1), (4, 1), (5, 1), (6, 1), (7, 1), (8, 1), (9, 1), (10, 1), (11, 1)] := ⟨fun w => by simp, _, Try.underlying51, fun w => by simp⟩
theorem sb_56 : StructT Try.prog 56 [.int .u64 0, .int .u64 0, .int .i64 0, .int .i64 0, .int .i64 0, .int .i64 0, .bool false, .int .u32 0] [(0, 1), (1, 1), (2, 1), (3, 1), (4, 1), (5, 1), (6, 1), (7, 1)] := ⟨fun w => by simp, _, Try.underlying56, fun w => by simp⟩
theorem sb_57 : StructT Try.prog 57 [.int .u64 0, .int .u64 0, .int .i64 0, .int .i64 0, .int .i64 0, .int .i64 0, .bool false, .int .u32 0] [(0, 1), (1, 1), (2, 1), (3, 1), (4, 1), (5, 1), (6, 1), (7, 1)] := ⟨fun w => by simp, _, Try.underlying57, fun w => by simp⟩
theorem sb_58 : StructT Try.prog 58 [.int .u64 0, .int .u64 0, .int .i64 0, .int .u32 0] [(0, 1), (1, 1), (2, 1), (3, 1)] := ⟨fun w => by simp, _, Try.underlying58, fun w => by simp⟩
theorem sb_59 : StructT Try.prog 59 [.int .u64 0, .int .u64 0, .int .i64 0, .int .u32 0] [(0, 1), (1, 1), (2, 1), (3, 1)] := ⟨fun w => by simp, _, Try.underlying59, fun w => by simp⟩
theorem sb_60 : StructT Try.prog 60 [.int .u64 0, .int .u64 0, .int .i64 0] [(0, 1), (1, 1), (2, 1)] := ⟨fun w => by simp, _, Try.underlying60, fun w => by simp⟩
theorem sb_61 : StructT Try.prog 61 [.int .u64 0, .int .u64 0, .int .i64 0] [(0, 1), (1, 1), (2, 1)] := ⟨fun w => by simp, _, Try.underlying61, fun w => by simp⟩
theorem sb_85 : StructT Try.prog 85 [.int .i64 0, .int .i64 0, .int .i64 0] [(0, 1), (1, 1), (2, 1)] := ⟨fun w => by simp, _, Try.underlying85, fun w => by simp⟩
theorem sb_86 : StructT Try.prog 86 [.int .i64 0, .int .i64 0, .int .i64 0] [(0, 1), (1, 1), (2, 1)] := ⟨fun w => by simp, _, Try.underlying86, fun w => by simp⟩
theorem sb_88 : StructT Try.prog 88 [.int .u64 0, .int .u64 0, .int .u64 0, .int .i64 0, .int .i64 0, .int .i64 0, .int .i64 0, .int .i64 0, .bool false, .bool false, .slice none 0 0, .int .i64 0] [(0, 1), (1, 1), (2, 1), (3, 1), (4, 3), (7, 1), (8, 1), (9, 1), (10, 1), (11, 1)] := ⟨fun w => by simp, _, Try.underlying88, fun w => by simp⟩
theorem sb_89 : StructT Try.prog 89 [.int .u64 0, .int .u64 0, .int .u64 0, .int .i64 0, .int .i64 0, .int .i64 0, .int .i64 0, .int .i64 0, .bool false, .bool false, .slice none 0 0, .int .i64 0] [(0, 1), (1, 1), (2, 1), (3, 1), (4, 3), (7, 1), (8, 1), (9, 1), (10, 1), (11, 1)] := ⟨fun w => by simp, _, Try.underlying89, fun w => by simp⟩
theorem sb_133 : StructT Try.prog 133 [.int .i64 0, .int .i64 0] [(0, 1), (1, 1)] := ⟨fun w => by simp, _, Try.underlying133, fun w => by simp⟩
theorem sb_134 : StructT Try.prog 134 [.int .i64 0, .int .i64 0] [(0, 1), (1, 1)] := ⟨fun w => by simp, _, Try.underlying134, fun w => by simp⟩
theorem sb_138 : StructT Try.prog 138 [.int .i64 0, .slice none 0 0] [(0, 1), (1, 1)] := ⟨fun w => by simp, _, Try.underlying138, fun w => by simp⟩
theorem sb_139 : StructT Try.prog 139 [.int .i64 0, .slice none 0 0] [(0, 1), (1, 1)] := ⟨fun w => by simp, _, Try.underlying139, fun w => by simp⟩
theorem sb_141 : StructT Try.prog 141 [.int .i64 0, .int .i64 0, .slice none 0 0] [(0, 1), (1, 1), (2, 1)] := ⟨fun w => by simp, _, Try.underlying141, fun w => by simp⟩
theorem sb_142 : StructT Try.prog 142 [.int .i64 0, .int .i64 0, .slice none 0 0] [(0, 1), (1, 1), (2, 1)] := ⟨fun w => by simp, _, Try.underlying142, fun w => by simp⟩
theorem sb_144 : StructT Try.prog 144 [.int .u64 0, .slice none 0 0] [(0, 1), (1, 1)] := ⟨fun w => by simp, _, Try.underlying144, fun w => by simp⟩
theorem sb_145 : StructT Try.prog 145 [.int .u64 0, .slice none 0 0] [(0, 1), (1, 1)] := ⟨fun w => by simp, _, Try.underlying145, fun w => by simp⟩
theorem sb_168 : StructT Try.prog 168 [.int .i64 0, .slice none 0 0, .int .u16 0] [(0, 1), (1, 1), (2, 1)] := ⟨fun w => by simp, _, Try.underlying168, fun w => by simp⟩
theorem sb_169 : StructT Try.prog 169 [.int .i64 0, .slice none 0 0, .int .u16 0] [(0, 1), (1, 1), (2, 1)] := ⟨fun w => by simp, _, Try.underlying169, fun w => by simp⟩
theorem sb_172 : StructT Try.prog 172 [.slice none 0 0, .int .i64 0, .int .u16 0, .int .i64 0] [(0, 1), (1, 1), (2, 1), (3, 1)] := ⟨fun w => by simp, _, Try.underlying172, fun w => by simp⟩
theorem sb_173 : StructT Try.prog 173 [.slice none 0 0, .int .i64 0, .int .u16 0, .int .i64 0] [(0, 1), (1, 1), (2, 1), (3, 1)] := ⟨fun w => by simp, _, Try.underlying173, fun w => by simp⟩
theorem sb_210 : StructT Try.prog 210 [] [(0, 0)] := ⟨fun w => by simp, _, Try.underlying210, fun w => by simp⟩
theorem sb_211 : StructT Try.prog 211 [] [(0, 0)] := ⟨fun w => by simp, _, Try.underlying211, fun w => by simp⟩
theorem ze_2 : ∀ w, (zeroValue 2).run Try.prog w = .ok (.int .i64 0) w := fun w => by simp
theorem ze_3 : ∀ w, (zeroValue 3).run Try.prog w = .ok (.int .i64 0) w := fun w => by simp
theorem ze_4 : ∀ w, (zeroValue 4).run Try.prog w = .ok (.bool false) w := fun w => by simp
theorem ze_5 : ∀ w, (zeroValue 5).run Try.prog w = .ok (.int .u8 0) w := fun w => by simp
theorem ze_6 : ∀ w, (zeroValue 6).run Try.prog w = .ok (.int .u8 0) w := fun w => by simp
theorem ze_12 : ∀ w, (zeroValue 12).run Try.prog w = .ok (.int .u64 0) w := fun w => by simp
theorem ze_15 : ∀ w, (zeroValue 15).run Try.prog w = .ok (.pointer none) w := fun w => by simp
theorem ze_16 : ∀ w, (zeroValue 16).run Try.prog w = .ok (.pointer none) w := fun w => by simp
theorem ze_17 : ∀ w, (zeroValue 17).run Try.prog w = .ok (.pointer none) w := fun w => by simp
theorem ze_21 : ∀ w, (zeroValue 21).run Try.prog w = .ok (.int .i32 0) w := fun w => by simp
theorem ze_22 : ∀ w, (zeroValue 22).run Try.prog w = .ok (.slice none 0 0) w := fun w => by simp
theorem ze_24 : ∀ w, (zeroValue 24).run Try.prog w = .ok (.int .u16 0) w := fun w => by simp
theorem ze_25 : ∀ w, (zeroValue 25).run Try.prog w = .ok (.int .u16 0) w := fun w => by simp
theorem ze_37 : ∀ w, (zeroValue 37).run Try.prog w = .ok (.pointer none) w := fun w => by simp
theorem ze_38 : ∀ w, (zeroValue 38).run Try.prog w = .ok (.slice none 0 0) w := fun w => by simp
theorem ze_39 : ∀ w, (zeroValue 39).run Try.prog w = .ok (.slice none 0 0) w := fun w => by simp
theorem ze_40 : ∀ w, (zeroValue 40).run Try.prog w = .ok (.slice none 0 0) w := fun w => by simp
theorem ze_41 : ∀ w, (zeroValue 41).run Try.prog w = .ok (.slice none 0 0) w := fun w => by simp
theorem ze_42 : ∀ w, (zeroValue 42).run Try.prog w = .ok (.slice none 0 0) w := fun w => by simp
theorem ze_43 : ∀ w, (zeroValue 43).run Try.prog w = .ok (.slice none 0 0) w := fun w => by simp
theorem ze_44 : ∀ w, (zeroValue 44).run Try.prog w = .ok (.slice none 0 0) w := fun w => by simp
theorem ze_45 : ∀ w, (zeroValue 45).run Try.prog w = .ok (.slice none 0 0) w := fun w => by simp
theorem ze_46 : ∀ w, (zeroValue 46).run Try.prog w = .ok (.slice none 0 0) w := fun w => by simp
theorem ze_47 : ∀ w, (zeroValue 47).run Try.prog w = .ok (.slice none 0 0) w := fun w => by simp
theorem ze_48 : ∀ w, (zeroValue 48).run Try.prog w = .ok (.slice none 0 0) w := fun w => by simp
theorem ze_49 : ∀ w, (zeroValue 49).run Try.prog w = .ok (.slice none 0 0) w := fun w => by simp
theorem ze_54 : ∀ w, (zeroValue 54).run Try.prog w = .ok (.int .u64 0) w := fun w => by simp
theorem ze_55 : ∀ w, (zeroValue 55).run Try.prog w = .ok (.int .u32 0) w := fun w => by simp
theorem ze_87 : ∀ w, (zeroValue 87).run Try.prog w = .ok (.slice none 0 0) w := fun w => by simp
theorem ze_107 : ∀ w, (zeroValue 107).run Try.prog w = .ok (.pointer none) w := fun w => by simp
theorem ze_108 : ∀ w, (zeroValue 108).run Try.prog w = .ok (.slice none 0 0) w := fun w => by simp
theorem ze_114 : ∀ w, (zeroValue 114).run Try.prog w = .ok (.pointer none) w := fun w => by simp
theorem ze_115 : ∀ w, (zeroValue 115).run Try.prog w = .ok (.pointer none) w := fun w => by simp
theorem ze_116 : ∀ w, (zeroValue 116).run Try.prog w = .ok (.slice none 0 0) w := fun w => by simp
theorem ze_122 : ∀ w, (zeroValue 122).run Try.prog w = .ok (.int .u64 0) w := fun w => by simp
theorem ze_128 : ∀ w, (zeroValue 128).run Try.prog w = .ok (.slice none 0 0) w := fun w => by simp
theorem ze_130 : ∀ w, (zeroValue 130).run Try.prog w = .ok (.slice none 0 0) w := fun w => by simp
theorem ze_131 : ∀ w, (zeroValue 131).run Try.prog w = .ok (.slice none 0 0) w := fun w => by simp
theorem ze_132 : ∀ w, (zeroValue 132).run Try.prog w = .ok (.slice none 0 0) w := fun w => by simp
theorem ze_135 : ∀ w, (zeroValue 135).run Try.prog w = .ok (.int .u8 0) w := fun w => by simp
theorem ze_136 : ∀ w, (zeroValue 136).run Try.prog w = .ok (.slice none 0 0) w := fun w => by simp
theorem ze_137 : ∀ w, (zeroValue 137).run Try.prog w = .ok (.slice none 0 0) w := fun w => by simp
theorem ze_140 : ∀ w, (zeroValue 140).run Try.prog w = .ok (.slice none 0 0) w := fun w => by simp
theorem ze_143 : ∀ w, (zeroValue 143).run Try.prog w = .ok (.slice none 0 0) w := fun w => by simp
theorem ze_155 : ∀ w, (zeroValue 155).run Try.prog w = .ok (.slice none 0 0) w := fun w => by simp
theorem ze_164 : ∀ w, (zeroValue 164).run Try.prog w = .ok (.pointer none) w := fun w => by simp
theorem ze_177 : ∀ w, (zeroValue 177).run Try.prog w = .ok (.pointer none) w := fun w => by simp
theorem ze_212 : ∀ w, (zeroValue 212).run Try.prog w = .ok (.int .u8 0) w := fun w => by simp
theorem ze_213 : ∀ w, (zeroValue 213).run Try.prog w = .ok (.int .u8 0) w := fun w => by simp
theorem ze_215 : ∀ w, (zeroValue 215).run Try.prog w = .ok (.pointer none) w := fun w => by simp
theorem ze_216 : ∀ w, (zeroValue 216).run Try.prog w = .ok (.int .i32 0) w := fun w => by simp
theorem ze_217 : ∀ w, (zeroValue 217).run Try.prog w = .ok (.int .i32 0) w := fun w => by simp
theorem ze_220 : ∀ w, (zeroValue 220).run Try.prog w = .ok (.pointer none) w := fun w => by simp
end Go.Proofs.Ytgkpdpoblofehaa
