import Derived.Test.YtjebagmjcdaegaaGreatM2
import Derived.Test.YtjebagmjcdaegaaGreatRows
/-! Text Tab. -/
namespace Go.Proofs.YtjebagmjcdaegaaGreat
open Go.Sl
def tab : TabData where
  flds := [(7, [0, 1, 2, 3]), (8, [0, 1, 2, 3]), (13, [0, 1]), (14, [0, 1]), (18, [0]), (19, [0]), (63, [0, 1, 2]), (64, [0, 1, 2]), (66, [0, 1, 2, 3, 4, 7, 8, 9, 10, 11]), (67, [0, 1, 2, 3, 4, 7, 8, 9, 10, 11]), (68, [0, 12, 13]), (69, [0, 12, 13]), (74, [0, 1, 13, 14, 15, 16, 17, 18]), (75, [0, 1, 13, 14, 15, 16, 17, 18]), (85, [0, 1]), (86, [0, 1]), (87, [0, 1, 2]), (88, [0, 1, 2]), (96, [0, 1]), (97, [0, 1]), (107, [0, 1, 2]), (108, [0, 1, 2]), (109, [0, 1, 2, 3]), (110, [0, 1, 2, 3]), (113, [0, 1, 2]), (114, [0, 1, 2]), (118, [0, 1, 2]), (119, [0, 1, 2]), (122, [0, 1, 2, 3]), (123, [0, 1, 2, 3]), (133, [0, 1]), (134, [0, 1]), (149, [0, 1, 4, 5, 6, 7, 8]), (150, [0, 1, 4, 5, 6, 7, 8]), (154, [0, 1, 2]), (155, [0, 1, 2]), (158, [0, 1, 2, 3]), (159, [0, 1, 2, 3]), (166, [0, 1, 2, 3, 4, 5, 6, 7]), (167, [0, 1, 2, 3, 4, 5, 6, 7]), (171, [0, 1, 2, 3]), (172, [0, 1, 2, 3]), (173, [0, 3]), (174, [0, 3]), (178, [0, 1]), (179, [0, 1]), (186, [0]), (187, [0]), (202, [0, 1, 2, 3]), (203, [0, 1, 2, 3]), (215, [0, 1, 2, 3]), (216, [0, 1, 2, 3]), (231, [0, 1]), (232, [0, 1]), (248, [0, 1, 2]), (249, [0, 1, 2]), (260, [0, 1]), (261, [0, 1]), (299, [0, 1, 2, 3, 4, 5, 6, 7]), (300, [0, 1, 2, 3, 4, 5, 6, 7]), (306, [0, 1, 2, 3]), (307, [0, 1, 2, 3]), (318, [0, 1]), (319, [0, 1]), (326, [0, 1, 2]), (327, [0, 1, 2]), (332, [0, 1]), (333, [0, 1]), (345, [0, 1]), (346, [0, 1]), (348, [0, 1, 2, 3]), (349, [0, 1, 2, 3]), (359, [0, 1, 2, 3, 4, 5, 6, 7, 8, 9, 10]), (360, [0, 1, 2, 3, 4, 5, 6, 7, 8, 9, 10]), (362, [0, 1]), (363, [0, 1])]
  leaf := [(1, ()), (2, ()), (3, ()), (4, ()), (5, ()), (6, ()), (9, ()), (10, ()), (11, ()), (12, ()), (15, ()), (16, ()), (17, ()), (20, ()), (21, ()), (22, ()), (23, ()), (24, ()), (25, ()), (27, ()), (28, ()), (29, ()), (31, ()), (32, ()), (34, ()), (35, ()), (36, ()), (37, ()), (38, ()), (39, ()), (40, ()), (41, ()), (42, ()), (43, ()), (44, ()), (45, ()), (46, ()), (47, ()), (48, ()), (49, ()), (50, ()), (51, ()), (53, ()), (54, ()), (55, ()), (56, ()), (57, ()), (58, ()), (59, ()), (61, ()), (62, ()), (65, ()), (71, ()), (72, ()), (73, ()), (77, ()), (78, ()), (80, ()), (81, ()), (83, ()), (84, ()), (90, ()), (91, ()), (92, ()), (93, ()), (94, ()), (95, ()), (98, ()), (99, ()), (100, ()), (101, ()), (102, ()), (104, ()), (105, ()), (106, ()), (111, ()), (112, ()), (115, ()), (116, ()), (117, ()), (120, ()), (121, ()), (124, ()), (126, ()), (127, ()), (128, ()), (129, ()), (130, ()), (131, ()), (132, ()), (136, ()), (137, ()), (138, ()), (139, ()), (140, ()), (141, ()), (142, ()), (143, ()), (144, ()), (145, ()), (146, ()), (147, ()), (148, ()), (151, ()), (152, ()), (153, ()), (157, ()), (161, ()), (162, ()), (164, ()), (165, ()), (168, ()), (169, ()), (170, ()), (176, ()), (177, ()), (181, ()), (182, ()), (183, ()), (184, ()), (185, ()), (190, ()), (191, ()), (192, ()), (193, ()), (194, ()), (195, ()), (196, ()), (197, ()), (198, ()), (199, ()), (200, ()), (201, ()), (205, ()), (206, ()), (207, ()), (208, ()), (210, ()), (211, ()), (212, ()), (213, ()), (214, ()), (217, ()), (221, ()), (222, ()), (223, ()), (224, ()), (225, ()), (226, ()), (227, ()), (228, ()), (229, ()), (230, ()), (233, ()), (234, ()), (235, ()), (236, ()), (237, ()), (238, ()), (240, ()), (241, ()), (242, ()), (243, ()), (244, ()), (245, ()), (247, ()), (250, ()), (251, ()), (252, ()), (253, ()), (254, ()), (255, ()), (256, ()), (258, ()), (259, ()), (262, ()), (263, ()), (265, ()), (266, ()), (267, ()), (268, ()), (269, ()), (270, ()), (271, ()), (272, ()), (273, ()), (274, ()), (275, ()), (276, ()), (277, ()), (278, ()), (279, ()), (280, ()), (281, ()), (282, ()), (283, ()), (285, ()), (286, ()), (287, ()), (288, ()), (289, ()), (290, ()), (292, ()), (294, ()), (295, ()), (296, ()), (297, ()), (298, ()), (301, ()), (302, ()), (303, ()), (304, ()), (305, ()), (309, ()), (311, ()), (312, ()), (313, ()), (314, ()), (315, ()), (316, ()), (317, ()), (320, ()), (321, ()), (322, ()), (323, ()), (324, ()), (325, ()), (328, ()), (329, ()), (330, ()), (331, ()), (334, ()), (335, ()), (336, ()), (337, ()), (338, ()), (339, ()), (340, ()), (341, ()), (343, ()), (344, ()), (347, ()), (353, ()), (354, ()), (355, ()), (356, ()), (357, ()), (358, ()), (361, ()), (364, ())]
  aggs := [(7, 4), (8, 4), (13, 2), (14, 2), (18, 1), (19, 1), (63, 3), (64, 3), (66, 12), (67, 12), (68, 14), (69, 14), (74, 19), (75, 19), (85, 2), (86, 2), (87, 3), (88, 3), (96, 2), (97, 2), (107, 3), (108, 3), (109, 6), (110, 6), (113, 3), (114, 3), (118, 3), (119, 3), (122, 4), (123, 4), (133, 13), (134, 13), (149, 9), (150, 9), (154, 3), (155, 3), (158, 4), (159, 4), (166, 8), (167, 8), (171, 4), (172, 4), (173, 4), (174, 4), (178, 2), (179, 2), (186, 1), (187, 1), (202, 4), (203, 4), (209, 16), (215, 4), (216, 4), (218, 128), (219, 128), (231, 2), (232, 2), (248, 3), (249, 3), (260, 129), (261, 129), (299, 8), (300, 8), (306, 4), (307, 4), (318, 2), (319, 2), (326, 3), (327, 3), (332, 2), (333, 2), (345, 2), (346, 2), (348, 4), (349, 4), (350, 0), (351, 0), (352, 0), (359, 11), (360, 11), (362, 2), (363, 2)]
  sls := [(22, 5), (37, 23), (47, 3), (49, 22), (59, 134), (65, 144), (78, 86), (84, 88), (105, 115), (106, 114), (115, 4), (138, 67), (169, 179), (170, 179), (193, 192), (212, 219), (214, 261), (227, 232), (245, 5), (256, 319), (336, 262)]
  ints := [(2, .i64), (3, .i64), (5, .u8), (6, .u8), (12, .u64), (21, .i32), (23, .u16), (25, .u16), (38, .u32), (40, .u64), (62, .u64), (144, .u8), (353, .u8), (354, .u8), (357, .i32), (358, .i32)]
  descs := [(4, 1, 0), (9, 2, 0), (10, 2, 0), (11, 2, 0), (15, 0, 349), (16, 0, 352), (17, 0, 360), (24, 0, 110), (29, 0, 75), (43, 0, 123), (72, 0, 150), (73, 0, 167), (81, 0, 172), (93, 0, 25), (111, 0, 114), (112, 0, 119), (117, 0, 216), (146, 0, 69), (162, 0, 249), (165, 0, 363), (185, 0, 170), (233, 0, 67), (262, 0, 3), (263, 0, 108), (265, 0, 327), (272, 0, 62), (301, 0, 333), (341, 0, 346), (356, 0, 5)]
theorem tab_ok : tab.ok Tryz.prog = true := by kernel_rfl
theorem st_22 : SliceT Tryz.prog 22 5 (.int .u8 0) 1 1 := ⟨by kernel_rfl, by kernel_rfl, rfl, by simp [Value.cells, Value.oneCell']⟩
theorem st_47 : SliceT Tryz.prog 47 3 (.int .i64 0) 1 8 := ⟨by kernel_rfl, by kernel_rfl, rfl, by simp [Value.cells, Value.oneCell']⟩
theorem st_49 : SliceT Tryz.prog 49 22 (.slice none 0 0) 1 24 := ⟨by kernel_rfl, by kernel_rfl, rfl, by simp [Value.cells, Value.oneCell']⟩
theorem st_59 : SliceT Tryz.prog 59 134 (.agg #[.bool false, .int .u64 0, .int .u64 0, .int .u64 0, .int .i64 0, .int .i64 0, .int .i64 0, .int .i64 0, .int .i64 0, .bool false, .bool false, .slice none 0 0, .int .i64 0]) 13 112 := ⟨by kernel_rfl, by kernel_rfl, rfl, by simp [Value.cells, Value.oneCell']⟩
theorem st_65 : SliceT Tryz.prog 65 144 (.int .u8 0) 1 1 := ⟨by kernel_rfl, by kernel_rfl, rfl, by simp [Value.cells, Value.oneCell']⟩
theorem st_78 : SliceT Tryz.prog 78 86 (.agg #[.int .u64 0, .slice none 0 0]) 2 32 := ⟨by kernel_rfl, by kernel_rfl, rfl, by simp [Value.cells, Value.oneCell']⟩
theorem st_84 : SliceT Tryz.prog 84 88 (.agg #[.int .i64 0, .int .i64 0, .slice none 0 0]) 3 40 := ⟨by kernel_rfl, by kernel_rfl, rfl, by simp [Value.cells, Value.oneCell']⟩
theorem st_138 : SliceT Tryz.prog 138 67 (.agg #[.int .u64 0, .int .u64 0, .int .u64 0, .int .i64 0, .int .i64 0, .int .i64 0, .int .i64 0, .int .i64 0, .bool false, .bool false, .slice none 0 0, .int .i64 0]) 12 104 := ⟨by kernel_rfl, by kernel_rfl, rfl, by simp [Value.cells, Value.oneCell']⟩
theorem st_170 : SliceT Tryz.prog 170 179 (.agg #[.int .i64 0, .int .i64 0]) 2 16 := ⟨by kernel_rfl, by kernel_rfl, rfl, by simp [Value.cells, Value.oneCell']⟩
theorem st_256 : SliceT Tryz.prog 256 319 (.agg #[.int .i64 0, .int .i64 0]) 2 16 := ⟨by kernel_rfl, by kernel_rfl, rfl, by simp [Value.cells, Value.oneCell']⟩
theorem st_336 : SliceT Tryz.prog 336 262 (.pointer none) 1 8 := ⟨by kernel_rfl, by kernel_rfl, rfl, by simp [Value.cells, Value.oneCell']⟩
theorem sb_64 : StructT Tryz.prog 64 [.int .i64 0, .int .i64 0, .int .i64 0] [(0, 1), (1, 1), (2, 1)] := ⟨fun w => by simp, _, Tryz.underlying64, fun w => by simp⟩
theorem sb_67 : StructT Tryz.prog 67 [.int .u64 0, .int .u64 0, .int .u64 0, .int .i64 0, .int .i64 0, .int .i64 0, .int .i64 0, .int .i64 0, .bool false, .bool false, .slice none 0 0, .int .i64 0] [(0, 1), (1, 1), (2, 1), (3, 1), (4, 3), (7, 1), (8, 1), (9, 1), (10, 1), (11, 1)] := ⟨fun w => by simp, _, Tryz.underlying67, fun w => by simp⟩
theorem sb_69 : StructT Tryz.prog 69 [.int .u64 0, .int .u64 0, .int .u64 0, .int .i64 0, .int .i64 0, .int .i64 0, .int .i64 0, .int .i64 0, .bool false, .bool false, .slice none 0 0, .int .i64 0, .bool false, .bool false] [(0, 12), (12, 1), (13, 1)] := ⟨fun w => by simp, _, Tryz.underlying69, fun w => by simp⟩
theorem sb_75 : StructT Tryz.prog 75 [.pointer none, .int .u64 0, .int .u64 0, .int .u64 0, .int .i64 0, .int .i64 0, .int .i64 0, .int .i64 0, .int .i64 0, .bool false, .bool false, .slice none 0 0, .int .i64 0, .pointer none, .pointer none, .bool false, .int .u16 0, .bool false, .bool false] [(0, 1), (1, 12), (13, 1), (14, 1), (15, 1), (16, 1), (17, 1), (18, 1)] := ⟨fun w => by simp, _, Tryz.underlying75, fun w => by simp⟩
theorem sb_86 : StructT Tryz.prog 86 [.int .u64 0, .slice none 0 0] [(0, 1), (1, 1)] := ⟨fun w => by simp, _, Tryz.underlying86, fun w => by simp⟩
theorem sb_88 : StructT Tryz.prog 88 [.int .i64 0, .int .i64 0, .slice none 0 0] [(0, 1), (1, 1), (2, 1)] := ⟨fun w => by simp, _, Tryz.underlying88, fun w => by simp⟩
theorem sb_97 : StructT Tryz.prog 97 [.int .i64 0, .int .u16 0] [(0, 1), (1, 1)] := ⟨fun w => by simp, _, Tryz.underlying97, fun w => by simp⟩
theorem sb_110 : StructT Tryz.prog 110 [.slice none 0 0, .bool false, .int .i64 0, .int .i64 0, .int .i64 0, .int .i64 0] [(0, 1), (1, 1), (2, 1), (3, 3)] := ⟨fun w => by simp, _, Tryz.underlying110, fun w => by simp⟩
theorem sb_119 : StructT Tryz.prog 119 [.pointer none, .bool false, .int .i64 0] [(0, 1), (1, 1), (2, 1)] := ⟨fun w => by simp, _, Tryz.underlying119, fun w => by simp⟩
theorem sb_123 : StructT Tryz.prog 123 [.slice none 0 0, .int .i64 0, .int .u16 0, .int .i64 0] [(0, 1), (1, 1), (2, 1), (3, 1)] := ⟨fun w => by simp, _, Tryz.underlying123, fun w => by simp⟩
theorem sb_134 : StructT Tryz.prog 134 [.bool false, .int .u64 0, .int .u64 0, .int .u64 0, .int .i64 0, .int .i64 0, .int .i64 0, .int .i64 0, .int .i64 0, .bool false, .bool false, .slice none 0 0, .int .i64 0] [(0, 1), (1, 12)] := ⟨fun w => by simp, _, Tryz.underlying134, fun w => by simp⟩
theorem sb_150 : StructT Tryz.prog 150 [.pointer none, .int .i64 0, .int .i64 0, .int .i64 0, .pointer none, .bool false, .slice none 0 0, .slice none 0 0, .bool false] [(0, 1), (1, 3), (4, 1), (5, 1), (6, 1), (7, 1), (8, 1)] := ⟨fun w => by simp, _, Tryz.underlying150, fun w => by simp⟩
theorem sb_155 : StructT Tryz.prog 155 [.int .u64 0, .int .u64 0, .int .i64 0] [(0, 1), (1, 1), (2, 1)] := ⟨fun w => by simp, _, Tryz.underlying155, fun w => by simp⟩
theorem sb_159 : StructT Tryz.prog 159 [.slice none 0 0, .int .u64 0, .int .i64 0, .int .i64 0] [(0, 1), (1, 1), (2, 1), (3, 1)] := ⟨fun w => by simp, _, Tryz.underlying159, fun w => by simp⟩
theorem sb_167 : StructT Tryz.prog 167 [.pointer none, .int .i64 0, .int .u64 0, .pointer none, .int .u64 0, .bool false, .pointer none, .int .u16 0] [(0, 1), (1, 1), (2, 1), (3, 1), (4, 1), (5, 1), (6, 1), (7, 1)] := ⟨fun w => by simp, _, Tryz.underlying167, fun w => by simp⟩
theorem sb_172 : StructT Tryz.prog 172 [.int .i64 0, .map none, .slice none 0 0, .slice none 0 0] [(0, 1), (1, 1), (2, 1), (3, 1)] := ⟨fun w => by simp, _, Tryz.underlying172, fun w => by simp⟩
theorem sb_174 : StructT Tryz.prog 174 [.int .i64 0, .int .i64 0, .int .i64 0, .int .i64 0] [(0, 3), (3, 1)] := ⟨fun w => by simp, _, Tryz.underlying174, fun w => by simp⟩
theorem sb_179 : StructT Tryz.prog 179 [.int .i64 0, .int .i64 0] [(0, 1), (1, 1)] := ⟨fun w => by simp, _, Tryz.underlying179, fun w => by simp⟩
theorem sb_187 : StructT Tryz.prog 187 [.int .u16 0] [(0, 1)] := ⟨fun w => by simp, _, Tryz.underlying187, fun w => by simp⟩
theorem sb_203 : StructT Tryz.prog 203 [.int .i64 0, .int .i64 0, .int .i64 0, .int .i64 0] [(0, 1), (1, 1), (2, 1), (3, 1)] := ⟨fun w => by simp, _, Tryz.underlying203, fun w => by simp⟩
theorem sb_216 : StructT Tryz.prog 216 [.slice none 0 0, .slice none 0 0, .map none, .bool false] [(0, 1), (1, 1), (2, 1), (3, 1)] := ⟨fun w => by simp, _, Tryz.underlying216, fun w => by simp⟩
theorem sb_249 : StructT Tryz.prog 249 [.int .i64 0, .int .i64 0, .int .i64 0] [(0, 1), (1, 1), (2, 1)] := ⟨fun w => by simp, _, Tryz.underlying249, fun w => by simp⟩
theorem sb_300 : StructT Tryz.prog 300 [.int .u64 0, .int .u64 0, .int .i64 0, .int .i64 0, .int .i64 0, .int .i64 0, .bool false, .int .u32 0] [(0, 1), (1, 1), (2, 1), (3, 1), (4, 1), (5, 1), (6, 1), (7, 1)] := ⟨fun w => by simp, _, Tryz.underlying300, fun w => by simp⟩
theorem sb_307 : StructT Tryz.prog 307 [.int .u64 0, .int .u64 0, .int .i64 0, .int .u32 0] [(0, 1), (1, 1), (2, 1), (3, 1)] := ⟨fun w => by simp, _, Tryz.underlying307, fun w => by simp⟩
theorem sb_319 : StructT Tryz.prog 319 [.int .i64 0, .int .i64 0] [(0, 1), (1, 1)] := ⟨fun w => by simp, _, Tryz.underlying319, fun w => by simp⟩
theorem sb_327 : StructT Tryz.prog 327 [.int .i64 0, .slice none 0 0, .int .u16 0] [(0, 1), (1, 1), (2, 1)] := ⟨fun w => by simp, _, Tryz.underlying327, fun w => by simp⟩
theorem sb_333 : StructT Tryz.prog 333 [.int .u32 0, .int .i64 0] [(0, 1), (1, 1)] := ⟨fun w => by simp, _, Tryz.underlying333, fun w => by simp⟩
theorem sb_346 : StructT Tryz.prog 346 [.slice none 0 0, .int .i64 0] [(0, 1), (1, 1)] := ⟨fun w => by simp, _, Tryz.underlying346, fun w => by simp⟩
theorem ze_22 : ∀ w, (zeroValue 22).run Tryz.prog w = .ok (.slice none 0 0) w := fun w => by simp
theorem ze_138 : ∀ w, (zeroValue 138).run Tryz.prog w = .ok (.slice none 0 0) w := fun w => by simp
end Go.Proofs.YtjebagmjcdaegaaGreat
/-! Text Ga. -/
set_option maxRecDepth 8000
set_option maxHeartbeats 16000000
set_option linter.unusedVariables false
set_option linter.unusedSimpArgs false
set_option linter.unusedSectionVars false
namespace Go.Proofs.YtjebagmjcdaegaaGreat
open Go.RowKit Go.Sl
attribute [local irreducible] Sl.Own
variable {W : World} {R : List SProp}
structure GeoD where
  m : Int
  c : Int
  s : Int
def GeoD.good (g : GeoD) : Prop := (3 <= g.m /\ g.m <= 16) /\ (1 <= g.c /\ g.c <= 16) /\ (1 <= g.s /\ g.s <= 256)
instance geoGoodDec (g : GeoD) : Decidable g.good := by unfold GeoD.good; exact inferInstance
abbrev GeoD.cells (g : GeoD) : List Value := [.int .i64 g.m, .int .i64 g.c, .int .i64 g.s]
abbrev GeoD.shape (g : GeoD) : List Value := [.int .i64 g.m, .int .i64 g.c, .int .i64 g.s, .int .i64 (IntKind.i64.wrap (g.m - 1))]
theorem gin_ok (n a b : Int) : Does1 W Tryz.prog 133 [.int .i64 n, .int .i64 a, .int .i64 b] R (.bool (decide (a <= n /\ n <= b))) R := by
 (refine Does.enter Tryz.func133 Tryz.ntmps133 rfl rfl ?_)
 refine w ?_
 refine zg ?_ ?_ <;> intro hb
 ·
  have q := of_decide_eq_true hb
  refine w ?_
  exact VE.done1 rfl (by congr 1; rw [decide_eq_decide]; omega) Ent.refl
 ·
  have q := of_decide_eq_false hb
  refine w ?_
  exact VE.done1 rfl (by congr 1; symm; apply decide_eq_false; omega) Ent.refl
theorem gcheck_ok (g : GeoD) : Does1 W Tryz.prog 78 [.agg g.cells.toArray] R (.int .u16 (if g.good then 0 else 60)) R := by
 have bad : ¬ g.good -> (if g.good then (0 : Int) else 60) = 60 := fun h => if_neg h
 (refine Does.enter Tryz.func78 Tryz.ntmps78 rfl rfl ?_)
 refine w ?_; repeat (refine zj fun _ => ?_; refine w ?_)
 (refine zq ?_; refine zy rfl rfl (gin_ok g.m 3 16) ?_)
 intro _ _
 refine w ?_; repeat (refine zj fun _ => ?_; refine w ?_)
 refine zg ?_ ?_ <;> intro hb
 rotate_left
 ·
  have q := of_decide_eq_false hb
  refine w ?_; repeat (refine zj fun _ => ?_; refine w ?_)
  exact VE.done1 rfl (by rw [bad (fun h => q ⟨h.1.1, h.1.2⟩)]) (Ent.drop Ent.refl)
 have q1 := of_decide_eq_true hb
 refine w ?_; repeat (refine zj fun _ => ?_; refine w ?_)
 (refine zq ?_; refine zy rfl rfl (gin_ok g.c 1 16) ?_)
 intro _ _
 refine w ?_; repeat (refine zj fun _ => ?_; refine w ?_)
 refine zg ?_ ?_ <;> intro hb
 rotate_left
 ·
  have q := of_decide_eq_false hb
  refine w ?_; repeat (refine zj fun _ => ?_; refine w ?_)
  exact VE.done1 rfl (by rw [bad (fun h => q ⟨h.2.1.1, h.2.1.2⟩)]) (Ent.drop Ent.refl)
 have q2 := of_decide_eq_true hb
 refine w ?_; repeat (refine zj fun _ => ?_; refine w ?_)
 (refine zq ?_; refine zy rfl rfl (gin_ok g.s 1 256) ?_)
 intro _ _
 refine w ?_; repeat (refine zj fun _ => ?_; refine w ?_)
 refine zk ?_ ?_ <;> intro hc
 ·
  have q3 := of_decide_eq_true hc
  refine w ?_; repeat (refine zj fun _ => ?_; refine w ?_)
  exact VE.done1 rfl (by rw [if_pos ⟨q1, q2, q3⟩]) (Ent.drop Ent.refl)
 ·
  have q3 := of_decide_eq_false hc
  refine w ?_; repeat (refine zj fun _ => ?_; refine w ?_)
  exact VE.done1 rfl (by rw [bad (fun h => q3 h.2.2)]) (Ent.drop Ent.refl)
theorem gof_ok (g : GeoD) : Does1 W Tryz.prog 88 [.agg g.cells.toArray] R (.tuple #[.agg g.shape.toArray, .int .u16 (if g.good then 0 else 60)]) R := by
 (refine Does.enter Tryz.func88 Tryz.ntmps88 rfl rfl ?_)
 refine w ?_; repeat (refine zj fun _ => ?_; refine w ?_)
 refine zq ?_; refine OpV.allocS sb_174 rfl ?_; intro ns
 refine w ?_; repeat (refine zj fun _ => ?_; refine w ?_)
 (refine VC.drawn [6] 7 [0, 1, 2, 3, 4, 5, 6, 7, 8] _ rfl (by kernel_rfl) (by kernel_rfl) Ent.re ?_)
 refine w ?_; repeat (refine zj fun _ => ?_; refine w ?_)
 ((first | apply VO.pure rfl rfl | apply VQ.pure rfl rfl | apply VD.take rfl rfl rfl | (refine VD.end rfl rfl rfl ?_; apply OpV.pure)); exact PureAt.build sb_174 rfl (show buildX _ _ _ = some g.shape by simp [buildX, setL, Value.cells]); rfl)
 refine w ?_; repeat (refine zj fun _ => ?_; refine w ?_)
 (refine zq ?_; refine zy rfl rfl (gcheck_ok g) ?_; intro _ _)
 refine w ?_; repeat (refine zj fun _ => ?_; refine w ?_)
 refine zq ?_
 refine OpV.stA (vs := g.shape) tab_ok rfl rfl rfl rfl (by simp [Value.oneCell']) zh (by simp) ?_
 refine w ?_; repeat (refine zj fun _ => ?_; refine w ?_)
 exact VE.results2 (.inl rfl) () rfl (ResIs.agg (vs := g.shape) tab_ok rfl rfl zm rfl rfl) (.tmp rfl) trivial rfl (Ent.drop (Ent.drop Ent.refl))
abbrev shpN (m c s : Nat) : List Value := [.int .i64 m, .int .i64 c, .int .i64 s, .int .i64 ((m - 1 : Nat) : Int)]
abbrev geoN (m c s : Nat) : List Value := [.int .i64 m, .int .i64 c, .int .i64 s]
theorem shape_N (m c s : Nat) (hm : 1 <= m /\ m <= 16) : GeoD.shape ⟨m, c, s⟩ = shpN m c s := by
 have e : (m : Int) - 1 = ((m - 1 : Nat) : Int) := by omega
 unfold GeoD.shape shpN
 dsimp only
 rw [e, IntWalk.i64_in _ ⟨by omega, by omega⟩]
theorem grows1_ok (m c s : Nat) (hc : 1 <= c /\ c <= 16) (hs : 1 <= s /\ s <= 256) : Does1 W Tryz.prog 89 [.agg (shpN m c s).toArray] R (.int .i64 ((s * c : Nat) : Int)) R := by
 have h : s * c <= 256 * 16 := Nat.mul_le_mul hs.2 hc.2
 (refine Does.enter Tryz.func89 Tryz.ntmps89 rfl rfl ?_)
 refine w ?_; repeat (refine zj fun _ => ?_; refine w ?_)
 exact VE.done1 rfl (by congr 1) (Ent.drop Ent.refl)
theorem gparity_ok (m c s : Nat) (hm : 3 <= m /\ m <= 16) (k : Nat) (hk : k <= 4096) : Does W Tryz.prog 141 [.agg (shpN m c s).toArray, .int .i64 k] R (β := Nat) (fun z => z < m) (fun z => .int .i64 z) (fun _ => R) := by
 (refine Does.enter Tryz.func141 Tryz.ntmps141 rfl rfl ?_)
 refine w ?_; repeat (refine zj fun _ => ?_; refine w ?_)
 ((refine VC.quiet rfl (by kernel_rfl) (by kernel_rfl) ?_); (refine w ?_; repeat (refine zj fun _ => ?_; refine w ?_)))
 ((first | apply VO.pure rfl rfl | apply VQ.pure rfl rfl | apply VD.take rfl rfl rfl | (refine VD.end rfl rfl rfl ?_; apply OpV.pure)); exact PureAt.rem (a := k) (b := m) rfl rfl (by omega); rfl)
 have h : k % m < m := Nat.mod_lt _ (by omega)
 generalize k % m = z at *
 refine w ?_; repeat (refine zj fun _ => ?_; refine w ?_)
 exact VE.done (m - 1 - z) rfl (by omega) (by congr 1; omega) (Ent.drop Ent.refl)
theorem gmember_ok (m c s : Nat) (hm : 3 <= m /\ m <= 16) (k i : Nat) (hk : k <= 4096) (hi : i <= 4096) : Does W Tryz.prog 90 [.agg (shpN m c s).toArray, .int .i64 k, .int .i64 i] R (β := Nat) (fun z => z < m) (fun z => .int .i64 z) (fun _ => R) := by
 (refine Does.enter Tryz.func90 Tryz.ntmps90 rfl rfl ?_)
 refine w ?_; repeat (refine zj fun _ => ?_; refine w ?_)
 (refine VC.drawn [2] 9 [0, 1, 4, 6, 7, 8, 2, 3, 5, 9, 10] _ rfl (by kernel_rfl) (by kernel_rfl) Ent.re ?_)
 refine w ?_; repeat (refine zj fun _ => ?_; refine w ?_)
 (refine zq ?_; refine zy rfl rfl (gparity_ok m c s hm k hk) ?_)
 intro z hz
 refine w ?_; repeat (refine zj fun _ => ?_; refine w ?_)
 ((first | apply VO.pure rfl rfl | apply VQ.pure rfl rfl | apply VD.take rfl rfl rfl | (refine VD.end rfl rfl rfl ?_; apply OpV.pure)); exact PureAt.rem (a := z + 1 + i) (b := m) rfl rfl (by omega); rfl)
 refine w ?_; repeat (refine zj fun _ => ?_; refine w ?_)
 exact VE.done ((z + 1 + i) % m) rfl (Nat.mod_lt _ (by omega)) rfl (Ent.drop Ent.refl)
theorem gofN_ok {m c s : Nat} (hm : 3 <= m /\ m <= 16) (hc : 1 <= c /\ c <= 16) (hs : 1 <= s /\ s <= 256) : Does1 W Tryz.prog 88 [.agg (geoN m c s).toArray] R (.tuple #[.agg (shpN m c s).toArray, .int .u16 0]) R := by
 have h := gof_ok (W := W) (R := R) ⟨m, c, s⟩
 rw [shape_N m c s (by omega), if_pos ⟨⟨by simp; omega, by simp; omega⟩, ⟨by simp; omega, by simp; omega⟩, by simp; omega, by simp; omega⟩] at h
 exact h
theorem growsN_ok {m c s : Nat} (hm : 3 <= m /\ m <= 16) (hc : 1 <= c /\ c <= 16) (hs : 1 <= s /\ s <= 256) : Does1 W Tryz.prog 70 [.agg (geoN m c s).toArray] R (.int .i64 ((s * c : Nat) : Int)) R := by
 (refine Does.enter Tryz.func70 Tryz.ntmps70 rfl rfl ?_)
 refine w ?_; repeat (refine zj fun _ => ?_; refine w ?_)
 (refine zq ?_; refine zy rfl rfl (gofN_ok hm hc hs) ?_; intro _ _)
 refine w ?_; repeat (refine zj fun _ => ?_; refine w ?_)
 refine zq ?_; refine OpV.allocS sb_174 rfl ?_; intro ns
 refine w ?_; repeat (refine zj fun _ => ?_; refine w ?_)
 refine zq ?_
 refine OpV.stA (vs := shpN m c s) tab_ok rfl rfl rfl rfl (by simp [Value.oneCell']) zh (by simp) ?_
 refine w ?_; repeat (refine zj fun _ => ?_; refine w ?_)
 (refine zq ?_; refine zy rfl rfl (grows1_ok m c s hc hs) ?_)
 intro _ _
 refine w ?_; repeat (refine zj fun _ => ?_; refine w ?_)
 exact VE.done1 rfl rfl (Ent.drop (Ent.drop Ent.refl))
theorem gblocks_ok {m c s : Nat} (hm : 3 <= m /\ m <= 16) (hc : 1 <= c /\ c <= 16) (hs : 1 <= s /\ s <= 256) : Does1 W Tryz.prog 46 [.agg (geoN m c s).toArray] R (.int .i64 ((s * c * (m - 1) : Nat) : Int)) R := by
 (refine Does.enter Tryz.func46 Tryz.ntmps46 rfl rfl ?_)
 refine w ?_; repeat (refine zj fun _ => ?_; refine w ?_)
 (refine VC.drawn [1] 5 [0, 2, 3, 4, 1, 5, 6] _ rfl (by kernel_rfl) (by kernel_rfl) Ent.re ?_)
 refine w ?_; repeat (refine zj fun _ => ?_; refine w ?_)
 (refine zq ?_; refine zy rfl rfl (growsN_ok hm hc hs) ?_)
 intro _ _
 have h : s * c <= 256 * 16 := Nat.mul_le_mul hs.2 hc.2
 have h2 : s * c * (m - 1) <= 4096 * 15 := Nat.mul_le_mul (by omega) (by omega)
 refine w ?_; repeat (refine zj fun _ => ?_; refine w ?_)
 have e : (m : Int) - 1 = ((m - 1 : Nat) : Int) := by omega
 exact VE.done1 rfl (by rw [e, <- Int.natCast_mul, IntWalk.i64_in _ ⟨by omega, by omega⟩]) (Ent.drop Ent.refl)
structure PlcE where
  stripe : Nat
  row : Nat
  member : Nat
  parity : Nat
theorem gplace_ok {m c s : Nat} (hm : 3 <= m /\ m <= 16) (hc : 1 <= c /\ c <= 16) (hs : 1 <= s /\ s <= 256) {k : Nat} (hk : k < s * c * (m - 1)) :
  Does W Tryz.prog 107 [.agg (geoN m c s).toArray, .int .i64 k] R (β := PlcE) (fun x => x.row < s * c /\ x.member < m)
   (fun x => .tuple #[.agg #[.int .i64 x.stripe, .int .i64 x.row, .int .i64 x.member, .int .i64 x.parity], .int .u16 0]) (fun _ => R) := by
 have h : s * c <= 256 * 16 := Nat.mul_le_mul hs.2 hc.2
 have h2 : s * c * (m - 1) <= 4096 * 15 := Nat.mul_le_mul (by omega) (by omega)
 have h3 : (m - 1) * c <= 15 * 16 := Nat.mul_le_mul (by omega) hc.2
 have h4 : 1 * 1 <= (m - 1) * c := Nat.mul_le_mul (by omega) hc.1
 have hst : k / ((m - 1) * c) < s := Nat.div_lt_of_lt_mul (by rw [Nat.mul_comm ((m - 1) * c), Nat.mul_comm (m - 1), <- Nat.mul_assoc]; exact hk)
 have hi : k % ((m - 1) * c) < (m - 1) * c := Nat.mod_lt _ (by omega)
 obtain ⟨st, hq⟩ : ∃ q, k / ((m - 1) * c) = q := ⟨_, rfl⟩
 rw [hq] at hst
 (refine Does.enter Tryz.func107 Tryz.ntmps107 rfl rfl ?_)
 refine w ?_; repeat (refine zj fun _ => ?_; refine w ?_)
 refine zq ?_; refine OpV.allocS sb_203 rfl ?_; intro np
 refine w ?_; repeat (refine zj fun _ => ?_; refine w ?_)
 (refine zq ?_; refine zy rfl rfl (gofN_ok hm hc hs) ?_; intro _ _)
 refine w ?_; repeat (refine zj fun _ => ?_; refine w ?_)
 refine zq ?_; refine OpV.allocS sb_174 rfl ?_; intro ns
 refine w ?_; repeat (refine zj fun _ => ?_; refine w ?_)
 refine zq ?_
 refine OpV.stA (vs := shpN m c s) tab_ok rfl rfl rfl rfl (by simp [Value.oneCell']) zh (by simp) ?_
 refine w ?_; repeat (refine zj fun _ => ?_; refine w ?_)
 (refine VC.drawn [5] 9 [0, 1, 2, 3, 4, 6, 7, 5, 8, 9, 10] _ rfl (by kernel_rfl) (by kernel_rfl) Ent.re ?_)
 refine w ?_; repeat (refine zj fun _ => ?_; refine w ?_)
 (first | refine VO.gF rfl rfl rfl (decide_eq_false (by omega)) ?_ | refine VD.gF rfl rfl rfl (decide_eq_false (by omega)) ?_)
 refine w ?_; repeat (refine zj fun _ => ?_; refine w ?_)
 (refine zq ?_; refine zy rfl rfl (grows1_ok m c s hc hs) ?_)
 intro _ _
 have hkI : (k : Int) < ((s * c : Nat) : Int) * ((m - 1 : Nat) : Int) := by rw [<- Int.natCast_mul]; omega
 have e1 : (((m - 1 : Nat) : Int) * (c : Int)) = (((m - 1) * c : Nat) : Int) := (Int.natCast_mul _ _).symm
 refine w ?_; repeat (refine zj fun _ => ?_; refine w ?_)
 (refine VC.condFe rfl rfl (decide_eq_false (by omega)) ?_)
 refine w ?_; repeat (refine zj fun _ => ?_; refine w ?_)
 ((refine VC.quiet rfl (by kernel_rfl) (by kernel_rfl) ?_); (refine w ?_; repeat (refine zj fun _ => ?_; refine w ?_)))
 refine VQ.re 37 (.int .i64 (((m - 1) * c : Nat) : Int)) rfl (by rw [e1]) ?_
 ((first | apply VO.pure rfl rfl | apply VQ.pure rfl rfl | apply VD.take rfl rfl rfl | (refine VD.end rfl rfl rfl ?_; apply OpV.pure)); exact PureAt.quo (a := k) (b := (m - 1) * c) rfl rfl (by omega) (by rw [hq]; exact IntWalk.i64_in _ ⟨by omega, by omega⟩); rfl)
 rw [hq]
 refine w ?_; repeat (refine zj fun _ => ?_; refine w ?_)
 refine VQ.re 45 (.int .i64 (((m - 1) * c : Nat) : Int)) rfl (by rw [e1]) ?_
 ((first | apply VO.pure rfl rfl | apply VQ.pure rfl rfl | apply VD.take rfl rfl rfl | (refine VD.end rfl rfl rfl ?_; apply OpV.pure)); exact PureAt.rem (a := k) (b := (m - 1) * c) rfl rfl (by omega); rfl)
 generalize k % ((m - 1) * c) = i at *
 have h5 : st * c + i % c < s * c := by
  have h6 : i % c < c := Nat.mod_lt _ (by omega)
  have h7 : (st + 1) * c <= s * c := Nat.mul_le_mul_right c hst
  rw [Nat.add_mul] at h7; omega
 refine w ?_; repeat (refine zj fun _ => ?_; refine w ?_)
 (refine VC.drawn [19, 22] 23 [0, 1, 2, 3, 4, 5, 6, 7, 8, 9, 10, 11, 12, 13, 14, 15, 16, 17, 18, 20, 21, 19, 22, 23, 24, 25] _ rfl (by kernel_rfl) (by kernel_rfl) Ent.re ?_)
 obtain ⟨j, hj⟩ : ∃ q, i / c = q := ⟨_, rfl⟩
 have hj2 : j <= 4096 := by rw [<- hj]; exact Nat.le_trans (Nat.div_le_self _ _) (by omega)
 obtain ⟨ic, hic⟩ : ∃ q, i % c = q := ⟨_, rfl⟩
 rw [hic] at h5
 have e2 : ((st : Int) * (c : Int)) = ((st * c : Nat) : Int) := (Int.natCast_mul _ _).symm
 refine w ?_; repeat (refine zj fun _ => ?_; refine w ?_)
 ((first | apply VO.pure rfl rfl | apply VQ.pure rfl rfl | apply VD.take rfl rfl rfl | (refine VD.end rfl rfl rfl ?_; apply OpV.pure)); exact PureAt.rem (a := i) (b := c) rfl rfl (by omega); rfl)
 rw [hic]
 refine w ?_; repeat (refine zj fun _ => ?_; refine w ?_)
 ((first | apply VO.pure rfl rfl | apply VQ.pure rfl rfl | apply VD.take rfl rfl rfl | (refine VD.end rfl rfl rfl ?_; apply OpV.pure)); exact PureAt.quo (a := i) (b := c) rfl rfl (by omega) (by rw [hj]; exact IntWalk.i64_in _ ⟨by omega, by omega⟩); rfl)
 rw [hj]
 refine w ?_; repeat (refine zj fun _ => ?_; refine w ?_)
 (refine zq ?_; refine zy rfl rfl (gmember_ok m c s hm st j (by omega) hj2) ?_)
 intro me hme
 refine w ?_; repeat (refine zj fun _ => ?_; refine w ?_)
 (refine zq ?_; refine zy rfl rfl (gparity_ok m c s hm st (by omega)) ?_)
 intro pa hpa
 refine w ?_; repeat (refine zj fun _ => ?_; refine w ?_)
 ((first | apply VO.pure rfl rfl | apply VQ.pure rfl rfl | apply VD.take rfl rfl rfl | (refine VD.end rfl rfl rfl ?_; apply OpV.pure)); exact PureAt.build sb_203 rfl (show buildX _ _ _ = some [.int .i64 st, .int .i64 ((st : Int) * (c : Int) + (ic : Int)), .int .i64 me, .int .i64 pa] by simp [buildX, setL, Value.cells]); rfl)
 refine zq ?_
 refine OpV.stA (vs := [.int .i64 st, .int .i64 ((st : Int) * (c : Int) + (ic : Int)), .int .i64 me, .int .i64 pa]) tab_ok rfl rfl rfl rfl (by simp [Value.oneCell']) zh (by simp) ?_
 refine w ?_; repeat (refine zj fun _ => ?_; refine w ?_)
 refine VE.results2 (.inl rfl) (PlcE.mk st (st * c + ic) me pa) rfl (ResIs.agg (vs := [.int .i64 st, .int .i64 ((st : Int) * (c : Int) + (ic : Int)), .int .i64 me, .int .i64 pa]) tab_ok rfl rfl zm rfl rfl) (.tmp rfl) ⟨h5, hme⟩ ?_ (Ent.drop (Ent.drop (Ent.drop Ent.refl)))
 rw [e2]; rfl
theorem gat_ok {m c s : Nat} (hm : 3 <= m /\ m <= 16) (hc : 1 <= c /\ c <= 16) (hs : 1 <= s /\ s <= 256) (k r : Int) (hr : r < 9223372036854775807) :
  Does W Tryz.prog 35 [.agg (geoN m c s).toArray, .int .i64 k, .int .i64 r] R (β := Int × Bool) (fun _ => True)
   (fun x => .tuple #[.int .i64 x.1, .bool x.2, .int .u16 (if (0 <= k /\ k < m) /\ 0 <= r /\ r < ((s * c : Nat) : Int) then 0 else 3)]) (fun _ => R) := by
 have h : s * c <= 256 * 16 := Nat.mul_le_mul hs.2 hc.2
 (refine Does.enter Tryz.func35 Tryz.ntmps35 rfl rfl ?_)
 refine w ?_; repeat (refine zj fun _ => ?_; refine w ?_)
 (refine zq ?_; refine zy rfl rfl (gofN_ok hm hc hs) ?_; intro _ _)
 refine w ?_; repeat (refine zj fun _ => ?_; refine w ?_)
 refine zq ?_; refine OpV.allocS sb_174 rfl ?_; intro ns
 refine w ?_; repeat (refine zj fun _ => ?_; refine w ?_)
 refine zq ?_
 refine OpV.stA (vs := shpN m c s) tab_ok rfl rfl rfl rfl (by simp [Value.oneCell']) zh (by simp) ?_
 refine w ?_; repeat (refine zj fun _ => ?_; refine w ?_)
 iterate 3
  refine zg ?_ ?_ <;> intro hb
  ·
   have q := of_decide_eq_true hb
   refine w ?_; repeat (refine zj fun _ => ?_; refine w ?_)
   exact VE.done (0, false) rfl trivial (by rw [if_neg (by omega)]) (Ent.drop (Ent.drop Ent.refl))
  have q := of_decide_eq_false hb
  clear hb
  refine w ?_; repeat (refine zj fun _ => ?_; refine w ?_)
 (refine zq ?_; refine zy rfl rfl (grows1_ok m c s hc hs) ?_)
 intro _ _
 refine w ?_; repeat (refine zj fun _ => ?_; refine w ?_)
 refine zk ?_ ?_ <;> intro hc
 ·
  have q := of_decide_eq_true hc
  refine w ?_; repeat (refine zj fun _ => ?_; refine w ?_)
  exact VE.done (0, false) rfl trivial (by rw [if_neg (by omega)]) (Ent.drop (Ent.drop Ent.refl))
 have q := of_decide_eq_false hc
 clear hc
 obtain ⟨r, rfl⟩ := Int.eq_ofNat_of_zero_le (show 0 <= r by omega)
 obtain ⟨k, rfl⟩ := Int.eq_ofNat_of_zero_le (show 0 <= k by omega)
 have good : ∀ a b : Int, (if (0 <= (k : Int) /\ (k : Int) < m) /\ 0 <= (r : Int) /\ (r : Int) < ((s * c : Nat) : Int) then a else b) = a := fun a b => if_pos (by omega)
 obtain ⟨st, hst⟩ : ∃ q, r / c = q := ⟨_, rfl⟩
 have hst2 : st <= 4096 := by rw [<- hst]; exact Nat.le_trans (Nat.div_le_self _ _) (by omega)
 refine w ?_; repeat (refine zj fun _ => ?_; refine w ?_)
 ((first | apply VO.pure rfl rfl | apply VQ.pure rfl rfl | apply VD.take rfl rfl rfl | (refine VD.end rfl rfl rfl ?_; apply OpV.pure)); exact PureAt.quo (a := r) (b := c) rfl rfl (by omega) (by rw [hst]; exact IntWalk.i64_in _ ⟨by omega, by omega⟩); rfl)
 rw [hst]
 refine w ?_; repeat (refine zj fun _ => ?_; refine w ?_)
 (refine VC.drawn [3] 12 [0, 1, 2, 5, 6, 7, 9, 10, 11, 3, 4, 8, 12, 13] _ rfl (by kernel_rfl) (by kernel_rfl) Ent.re ?_)
 refine w ?_; repeat (refine zj fun _ => ?_; refine w ?_)
 (refine zq ?_; refine zy rfl rfl (gmember_ok m c s hm st 0 (by omega) (by omega)) ?_)
 intro me hme
 refine w ?_; repeat (refine zj fun _ => ?_; refine w ?_)
 refine VD.re 54 (.int .i64 ((k + m - me : Nat) : Int)) rfl (by congr 1; omega) ?_
 ((first | apply VO.pure rfl rfl | apply VQ.pure rfl rfl | apply VD.take rfl rfl rfl | (refine VD.end rfl rfl rfl ?_; apply OpV.pure)); exact PureAt.rem (a := k + m - me) (b := m) rfl rfl (by omega); rfl)
 refine w ?_; repeat (refine zj fun _ => ?_; refine w ?_)
 generalize (k + m - me) % m = z
 refine zk ?_ ?_ <;> intro hc
 ·
  refine w ?_; repeat (refine zj fun _ => ?_; refine w ?_)
  exact VE.done (0, true) rfl trivial (by rw [good]) (Ent.drop (Ent.drop Ent.refl))
 refine w ?_; repeat (refine zj fun _ => ?_; refine w ?_)
 ((refine VC.quiet rfl (by kernel_rfl) (by kernel_rfl) ?_); (refine w ?_; repeat (refine zj fun _ => ?_; refine w ?_)))
 ((first | apply VO.pure rfl rfl | apply VQ.pure rfl rfl | apply VD.take rfl rfl rfl | (refine VD.end rfl rfl rfl ?_; apply OpV.pure)); exact PureAt.rem (a := r) (b := c) rfl rfl (by omega); rfl)
 refine w ?_; repeat (refine zj fun _ => ?_; refine w ?_)
 exact VE.done (_, false) rfl trivial (by rw [good]) (Ent.drop (Ent.drop Ent.refl))
end Go.Proofs.YtjebagmjcdaegaaGreat
/-! Text Le. -/
namespace Go.Proofs.YtjebagmjcdaegaaGreat
open Go.RowKit Go.Sl
def byteV (c : UInt8) : Value := .int .u8 (c.toNat : Int)
@[simp] theorem byteV_one (c : UInt8) : (byteV c).oneCell' = true := rfl
def bytes (l : List UInt8) : List Value := l.map byteV
@[simp] theorem bytes_one (l : List UInt8) : ∀ u ∈ bytes l, u.oneCell' = true := by
  intro u hu; obtain ⟨c, _, rfl⟩ := List.mem_map.1 hu; rfl
@[simp] theorem bytes_length (l : List UInt8) : (bytes l).length = l.length := by simp [bytes]
theorem bytes_append (a b : List UInt8) : bytes (a ++ b) = bytes a ++ bytes b := by simp [bytes]
theorem bytes_replicate (n : Nat) : bytes (List.replicate n 0) = List.replicate n (.int .u8 0) := by simp [bytes, byteV]
structure Pk where
  size : Nat
  had : List UInt8
  bad : Int
def Pk.ok (k : Pk) : Prop := k.had.length <= k.size /\ k.size <= 4096 /\ (k.bad = 0 \/ k.bad = 10)
abbrev PackerO (p : Nat) (k : Pk) (ao : Option Addr) (cap : Nat) (R : List SProp) : List SProp :=
  Row p 327 [.int .i64 k.size, .slice ao k.had.length cap, .int .u16 k.bad] :: Own 5 1 (.slice ao k.had.length cap) k.had.length (bytes k.had) :: R
def PackerR (p : Nat) (k : Pk) : SProp := ex fun ac : Option Addr × Nat => Sl.star (fact k.ok :: PackerO p k ac.1 ac.2 [])
theorem PackerR.open {W w : World} {p : Nat} {k : Pk} {R : List SProp} (hw : Holds W (PackerR p k :: R) w) : ∃ x : { ac : Option Addr × Nat // k.ok }, Holds W (PackerO p k x.1.1 x.1.2 R) w := by
 obtain ⟨ac, h⟩ := hw.exOpen
 have h := h.join
 exact ⟨⟨ac, h.factOpen⟩, h.tail⟩
theorem PackerR.shut {W : World} {p : Nat} {k : Pk} {R : List SProp} (hk : k.ok) {ao : Option Addr} {cap : Nat} : Ent W (PackerO p k ao cap R) (PackerR p k :: R) := fun _ hw =>
 Holds.exShut (ao, cap) (Holds.nest (L := [_, _, _]) (hw.factShut hk))
theorem PackerR.shut' {W : World} {p : Nat} {k : Pk} {R : List SProp} (hk : k.ok) {ao : Option Addr} {cap n : Nat} {xs : List Value} (hn : n = k.had.length) (hx : xs = bytes k.had) :
  Ent W (Row p 327 [.int .i64 k.size, .slice ao n cap, .int .u16 k.bad] :: Own 5 1 (.slice ao n cap) n xs :: R) (PackerR p k :: R) := by
 subst hn hx; exact PackerR.shut hk
theorem PackerR.know {W w : World} {p : Nat} {k : Pk} {R : List SProp} (hw : Holds W (PackerR p k :: R) w) : k.ok := by
 obtain ⟨⟨_, h⟩, _⟩ := PackerR.open hw
 exact h
def Pk.room (k : Pk) (n : Int) : Pk := if k.bad = 0 /\ (k.size : Int) - k.had.length < n then { k with bad := 10 } else k
theorem left_ok {W : World} {R : List SProp} (p : Nat) (k : Pk) :
  Does1 W Tryz.prog 252 [.pointer (some ⟨p, 0, none⟩)] (PackerR p k :: R) (.int .i64 ((k.size : Int) - k.had.length)) (PackerR p k :: R) := by
 (refine Does.enter Tryz.func252 Tryz.ntmps252 rfl rfl ?_)
 refine VC.obtain (fun w => PackerR.open) ?_
 rintro ⟨⟨ao, cap⟩, hk⟩
 have ⟨h1, h2, h3⟩ := hk
 refine w ?_
 (refine VC.quiet rfl (by kernel_rfl) (by kernel_rfl) ?_)
 refine w ?_
 refine VE.done1 rfl rfl ?_
 exact PackerR.shut hk
theorem Pk.room_ok {k : Pk} {n : Int} (h : k.ok) : (k.room n).ok := by
 unfold Pk.room
 split
 · exact ⟨h.1, h.2.1, .inr rfl⟩
 · exact h
theorem room_ok {W : World} {R : List SProp} (p : Nat) (k : Pk) (n : Int) :
  Does1 W Tryz.prog 222 [.pointer (some ⟨p, 0, none⟩), .int .i64 n] (PackerR p k :: R) (.bool ((k.room n).bad == 0)) (PackerR p (k.room n) :: R) := by
 (refine Does.enter Tryz.func222 Tryz.ntmps222 rfl rfl ?_)
 refine VC.obtain (fun w => PackerR.open) ?_
 rintro ⟨⟨ao, cap⟩, hk⟩
 have ⟨h1, h2, h3⟩ := hk
 refine w ?_
 refine zg ?_ ?_ <;> intro hb
 ·
  refine w ?_
  ((refine zq ?_; refine OpV.call rfl rfl (fun _ _ => by simp) (left_ok p k) (PackerR.shut hk) rfl ?_); intro _ _)
  refine VO.obtain (fun w => PackerR.open) ?_
  rintro ⟨⟨ao, cap⟩, -⟩
  refine w ?_
  refine zk ?_ ?_ <;> intro hc
  ·
   refine w ?_
   have e : k.room n = { k with bad := 10 } := by unfold Pk.room; rw [if_pos]; simp_all
   refine VE.done1 rfl ?_ ?_
   · rw [e]
   · rw [e]; exact PackerR.shut (k := { k with bad := 10 }) ⟨h1, h2, .inr rfl⟩
  ·
   refine w ?_
   have e : k.room n = k := by unfold Pk.room; rw [if_neg]; simp_all
   refine VE.done1 rfl ?_ ?_
   · rw [e]
   · rw [e]; exact PackerR.shut hk
 ·
  refine w ?_
  have e : k.room n = k := by unfold Pk.room; rw [if_neg]; simp_all
  refine VE.done1 rfl ?_ ?_
  · rw [e]
  · rw [e]; exact PackerR.shut hk
def lowBytes (v : Nat) : Nat -> List UInt8
  | 0 => []
  | j + 1 => lowBytes v j ++ [UInt8.ofNat (v / 256 ^ j)]
theorem lowBytes_length (v j : Nat) : (lowBytes v j).length = j := by induction j <;> simp [lowBytes, *]
def Pk.number (k : Pk) (v width : Nat) : Pk := if (k.room width).bad = 0 then { k with had := k.had ++ lowBytes v width } else k.room width
theorem Pk.room_zero {k : Pk} {n : Int} (h : (k.room n).bad = 0) : k.room n = k /\ k.bad = 0 /\ n <= (k.size : Int) - k.had.length := by
 unfold Pk.room at *
 split at h
 · cases h
 ·
  rename_i hn
  rw [if_neg hn]
  exact ⟨rfl, h, by omega⟩
theorem u8_of (n : Nat) : IntKind.u8.wrap (n : Int) = ((UInt8.ofNat n).toNat : Int) := by
 simp only [IntKind.wrap, IntKind.bits, IntKind.signed, Bool.false_and, Bool.false_eq_true, if_false]
 simp
theorem number_ok {W : World} {R : List SProp} (p : Nat) (k : Pk) (v width : Nat) :
    Does1 W Tryz.prog 225 [.pointer (some ⟨p, 0, none⟩), .int .u64 v, .int .i64 width] (PackerR p k :: R) (.tuple #[]) (PackerR p (k.number v width) :: R) := by
  (refine Does.enter Tryz.func225 Tryz.ntmps225 rfl rfl ?_)
  refine VC.know (fun w => PackerR.know) ?_
  intro ⟨h1, h2, h3⟩
  refine w ?_
  ((refine zq ?_; refine zd rfl rfl (room_ok p k width) ?_); intro _ _)
  refine w ?_
  refine zk ?_ ?_ <;> intro hc
  · refine w ?_
    refine VE.done1 rfl ?_ ?_
    · rfl
    · have hr : ¬ (k.room width).bad = 0 := by simpa using hc
      rw [show k.number v width = k.room width by unfold Pk.number; rw [if_neg hr]]
      exact Ent.refl
  · refine w ?_
    have hr : (k.room width).bad = 0 := by simpa using hc
    obtain ⟨e1, e2, e3⟩ := Pk.room_zero hr
    rw [e1]
    refine VC.loop (α := Nat) (fun j => j <= width) (fun j => PackerR p { k with had := k.had ++ lowBytes v j } :: R)
      (fun j => [(0, .pointer (some ⟨p, 0, none⟩)), (1, .int .u64 ((v / 256 ^ j : Nat) : Int)), (10, .int .i64 width), (11, .int .i64 j)]) (fun j => width - j) rfl 0 (Nat.zero_le _) ?_ ?_ ?_
    · simp only [lowBytes, List.append_nil]; exact Ent.refl
    · exact ⟨rfl, asV rfl (by simp), rfl, rfl, trivial⟩
    · intro j hj
      refine w ?_
      refine zk ?_ ?_ <;> intro hc
      · have hlt : j < width := by simpa using hc
        refine VC.obtain (fun w => PackerR.open) ?_
        rintro ⟨⟨ao, cap⟩, -⟩
        refine w ?_
        refine VO.re 19 (byteV (UInt8.ofNat (v / 256 ^ j))) rfl (by rw [u8_of]; rfl) ?_
        (refine zq ?_; refine OpV.buildSlice1 st_22 rfl rfl (by first | (simp; done) | simp [Value.oneCell']) (by decide) rfl ?_; intro nb)
        have hl : (k.had ++ lowBytes v j).length = k.had.length + j := by simp [lowBytes_length]
        (refine zq ?_; refine OpV.appendRow st_22 rfl rfl zh zm rfl (by first | (simp; done) | simp [Value.oneCell']) ?_ ?_ rfl ?_)
        · simp only [hl, maxLen]; omega
        · simp only [hl]; omega
        intro ao cap
        refine w ?_
        refine VE.round (j + 1) (by omega) (by omega) ⟨rfl, asV rfl (by rw [Nat.pow_succ, Nat.div_div_eq_div_mul]; rfl), rfl, rfl, trivial⟩ ?_
        have hl1 : (k.had ++ lowBytes v (j + 1)).length = k.had.length + j + 1 := by simp [lowBytes_length]; omega
        exact .drop (PackerR.shut' (k := { k with had := k.had ++ lowBytes v (j + 1) }) ⟨by simp only [hl1]; omega, h2, h3⟩ (by simp only [hl, hl1]) (by simp [bytes, lowBytes]))
      · have hge : j = width := by have : ¬ j < width := by simpa using hc
                                   omega
        subst hge
        refine w ?_
        (refine VE.done1N rfl ?_ ?_)
        · rfl
        · rw [show k.number v j = { k with had := k.had ++ lowBytes v j } by unfold Pk.number; rw [if_pos hr]]
          exact Ent.refl
theorem ldB {W : World} {P : Program} {n : Nat} {H : List SProp} {f : Fr} {dst : Option Tmp} {ty_ : TypeId} {pos : String} {after : Array Edge} {guard : Option (Nat × Bool)} {T : TabData} {x : Operand} {s : TypeId} {a : Addr} {k j : Nat} {l : List UInt8} (hT : T.ok P = true) (hx : evalX f x = some (.pointer (some (a.add j)))) (hl : assoc T.leaf s = some ()) (hr : Rds W H 1 (some a) k (bytes l)) (hj : j < l.length) :
  PureAt W P n H f { dst, op := .load s x, type := ty_, pos, after, guard } (.int .u8 (l[j].toNat : Int)) :=
 PureAt.ldR hT hx hl hr (by simp [bytes, byteV, hj])
theorem new_ok {W : World} {R : List SProp} (size : Nat) (hs : size <= 4096) :
  Does W Tryz.prog 187 [.int .i64 size] R (β := Nat) (fun _ => True) (fun b => .tuple #[.pointer (some ⟨b, 0, none⟩), .int .u16 0]) (fun b => PackerR b ⟨size, [], 0⟩ :: R) := by
 (refine Does.enter Tryz.func187 Tryz.ntmps187 rfl rfl ?_)
 refine w ?_; repeat (refine zj fun _ => ?_; refine w ?_)
 (refine VC.condFe rfl rfl (by simp; omega) ?_)
 refine w ?_; repeat (refine zj fun _ => ?_; refine w ?_)
 (apply VO.pure rfl rfl; apply PureAt.build sb_327 rfl; (simp [buildX, setL, Value.cells]; rfl); rfl)
 refine w ?_; repeat (refine zj fun _ => ?_; refine w ?_)
 refine VE.done _ rfl trivial rfl ?_
 exact fun w hw => PackerR.shut' (k := ⟨size, [], 0⟩) ⟨Nat.zero_le _, hs, .inl rfl⟩ rfl rfl w (Holds.swap (hw.ownNil 5 1))
theorem wrap64_of {v : Nat} (h : v < 2 ^ 64) : IntKind.u64.wrap (v : Int) = v := by
 simp only [IntKind.wrap, IntKind.bits, IntKind.signed, Bool.false_and, Bool.false_eq_true, if_false]
 omega
theorem wrap32_of (v : Nat) : IntKind.u32.wrap (v : Int) = ((v % 2 ^ 32 : Nat) : Int) := by
 simp only [IntKind.wrap, IntKind.bits, IntKind.signed, Bool.false_and, Bool.false_eq_true, if_false]
 omega
theorem wrap16_of (v : Nat) : IntKind.u16.wrap (v : Int) = ((v % 2 ^ 16 : Nat) : Int) := by
 simp only [IntKind.wrap, IntKind.bits, IntKind.signed, Bool.false_and, Bool.false_eq_true, if_false]
 omega
theorem wrap8_of (v : Nat) : IntKind.u8.wrap (v : Int) = ((v % 2 ^ 8 : Nat) : Int) := by
 simp only [IntKind.wrap, IntKind.bits, IntKind.signed, Bool.false_and, Bool.false_eq_true, if_false]
 omega
theorem u64_ok {W : World} {R : List SProp} (p : Nat) (k : Pk) (v : Nat) :
  Does1 W Tryz.prog 164 [.pointer (some ⟨p, 0, none⟩), .int .u64 v] (PackerR p k :: R) (.tuple #[]) (PackerR p (k.number v 8) :: R) := by
 (refine Does.enter Tryz.func164 Tryz.ntmps164 rfl rfl ?_)
 refine w ?_
 ((refine zq ?_; refine zd rfl rfl (number_ok p k v 8) ?_); intro _ _)
 refine w ?_
 (first | exact VE.done1 rfl rfl Ent.refl | exact VE.done1N rfl rfl Ent.refl)
theorem u32_ok {W : World} {R : List SProp} (p : Nat) (k : Pk) (v : Nat) (hv : v < 2 ^ 64) :
  Does1 W Tryz.prog 191 [.pointer (some ⟨p, 0, none⟩), .int .u32 v] (PackerR p k :: R) (.tuple #[]) (PackerR p (k.number v 4) :: R) := by
 (refine Does.enter Tryz.func191 Tryz.ntmps191 rfl rfl ?_)
 refine w ?_
 refine VO.re 6 (.int .u64 v) rfl (by rw [wrap64_of hv]) ?_
 ((refine zq ?_; refine zd rfl rfl (number_ok p k v 4) ?_); intro _ _)
 refine w ?_
 (first | exact VE.done1 rfl rfl Ent.refl | exact VE.done1N rfl rfl Ent.refl)
theorem u16_ok {W : World} {R : List SProp} (p : Nat) (k : Pk) (v : Nat) (hv : v < 2 ^ 64) :
  Does1 W Tryz.prog 178 [.pointer (some ⟨p, 0, none⟩), .int .u16 v] (PackerR p k :: R) (.tuple #[]) (PackerR p (k.number v 2) :: R) := by
 (refine Does.enter Tryz.func178 Tryz.ntmps178 rfl rfl ?_)
 refine w ?_
 refine VO.re 6 (.int .u64 v) rfl (by rw [wrap64_of hv]) ?_
 ((refine zq ?_; refine zd rfl rfl (number_ok p k v 2) ?_); intro _ _)
 refine w ?_
 (first | exact VE.done1 rfl rfl Ent.refl | exact VE.done1N rfl rfl Ent.refl)
theorem u8_ok {W : World} {R : List SProp} (p : Nat) (k : Pk) (v : Nat) (hv : v < 2 ^ 64) :
  Does1 W Tryz.prog 170 [.pointer (some ⟨p, 0, none⟩), .int .u8 v] (PackerR p k :: R) (.tuple #[]) (PackerR p (k.number v 1) :: R) := by
 (refine Does.enter Tryz.func170 Tryz.ntmps170 rfl rfl ?_)
 refine w ?_
 refine VO.re 6 (.int .u64 v) rfl (by rw [wrap64_of hv]) ?_
 ((refine zq ?_; refine zd rfl rfl (number_ok p k v 1) ?_); intro _ _)
 refine w ?_
 (first | exact VE.done1 rfl rfl Ent.refl | exact VE.done1N rfl rfl Ent.refl)
def Pk.image (k : Pk) : List UInt8 := k.had ++ List.replicate (k.size - k.had.length) 0
theorem bytes_ok {W : World} {R : List SProp} (p : Nat) (k : Pk) (hb : k.bad = 0) :
  Does W Tryz.prog 190 [.pointer (some ⟨p, 0, none⟩)] (PackerR p k :: R) (β := Nat) (fun _ => True) (fun b => .tuple #[.slice (some ⟨b, 0, none⟩) k.size k.size, .int .u16 0])
   (fun b => Own 5 1 (.slice (some ⟨b, 0, none⟩) k.size k.size) k.size (bytes k.image) :: PackerR p k :: R) := by
 (refine Does.enter Tryz.func190 Tryz.ntmps190 rfl rfl ?_)
 refine VC.obtain (fun w => PackerR.open) ?_
 rintro ⟨⟨ao, cap⟩, hk⟩
 have ⟨h1, h2, h3⟩ := hk
 refine w ?_
 (refine VC.condFe rfl rfl (by simpa using hb) ?_)
 refine w ?_
 refine zq ?_; refine OpV.makeSlice1 st_22 rfl rfl rfl ?_ ?_ rfl ?_
 · omega
 · simp only [maxLen]; omega
 intro b
 refine w ?_
 (refine zq ?_; refine OpV.copy st_22 rfl rfl zh (fun w hw => Sees.own (bytes_one _) hw zm) rfl ?_)
 have e : min k.had.length k.size = k.had.length := by omega
 rw [e]
 refine w ?_
 refine VE.done b rfl trivial rfl ?_
 have e2 : (bytes k.had).take (k.had.length * 1) ++ (List.replicate k.size (Value.int .u8 0)).drop (k.had.length * 1) = bytes k.image := by
  rw [Pk.image, bytes_append, bytes_replicate, Nat.mul_one, List.take_of_length_le (by simp)]; simp
 rw [e2]
 exact fun w hw => (PackerR.shut hk w (hw.reord (by (repeat first | exact .refl | (apply Reord.cons; focus repeat first | exact .head | apply Del.tail) | exact .nil | apply Reord.drop)))).swap
end Go.Proofs.YtjebagmjcdaegaaGreat
/-! Text Na. -/
namespace Go.Sl
open Go Go.RowKit
section
variable {W w : World} {H R L M : List SProp} {α : Type} {res : α -> SProp}
def pile (res : α -> SProp) (l : List α) : SProp := star (l.map res)
theorem pile_nil (h : Holds W R w) : Holds W (pile res [] :: R) w := h.nest (L := [])
theorem pile_push {l : List α} {a : α} (h : Holds W (res a :: pile res l :: R) w) : Holds W (pile res (l ++ [a]) :: R) w := by
 have h2 := (h.swap).join
 refine Holds.nest ?_
 rw [List.map_append]
 refine h2.perm ?_
 simp
theorem pile_join {l m : List α} (h : Holds W (pile res l :: pile res m :: R) w) : Holds W (pile res (l ++ m) :: R) w := by
 have h2 := (h.join).perm List.perm_append_comm
 have h3 : Holds W (pile res m :: (R ++ l.map res)) w := h2
 have h4 := h3.join
 refine Holds.nest ?_
 rw [List.map_append]
 refine h4.perm ?_
 rw [List.append_assoc]
 refine (List.perm_append_comm (l₁ := m.map res)).trans ?_
 rw [List.append_assoc]
 refine (List.perm_append_comm (l₁ := R)).trans ?_
 rw [List.append_assoc]
theorem pile_out {l : List α} {i : Nat} (hi : i < l.length) (h : Holds W (pile res l :: R) w) : Holds W (res l[i] :: pile res (l.eraseIdx i) :: R) w := by
 have h2 := h.join
 have e : List.Perm l (l[i] :: l.eraseIdx i) := by
  rw [List.eraseIdx_eq_take_drop_succ]
  have : l = l.take i ++ l[i] :: l.drop (i + 1) := by rw [<- List.drop_eq_getElem_cons hi, List.take_append_drop]
  exact (List.Perm.of_eq this).trans List.perm_middle
 have h3 : Holds W (res l[i] :: ((l.eraseIdx i).map res ++ R)) w := h2.perm (by simpa using ((e.map res).append_right R))
 have h4 : Holds W ((l.eraseIdx i).map res ++ (R ++ [res l[i]])) w := h3.perm (by
  refine (List.perm_append_comm (l₁ := [res l[i]]) (l₂ := (l.eraseIdx i).map res ++ R)).trans ?_
  rw [List.append_assoc])
 have h5 : Holds W (pile res (l.eraseIdx i) :: (R ++ [res l[i]])) w := h4.nest
 exact h5.perm (List.perm_append_comm (l₁ := pile res (l.eraseIdx i) :: R) (l₂ := [res l[i]]))
theorem Rds.star {sz k : Nat} {ao : Option Addr} {xs : List Value} (m : Sl.star L ∈ H) (h : ∀ R, Rds W (L ++ R) sz ao k xs) : Rds W H sz ao k xs := by
 have h0 := h []
 refine ⟨h0.len, h0.one, h0.nil, fun w hw => ?_⟩
 obtain ⟨R, p⟩ := mem_perm m
 exact (h R).cell w (hw.perm p).join
theorem Rds.pile {sz k : Nat} {ao : Option Addr} {xs : List Value} {l : List α} {a : α} (m : Sl.pile res l ∈ H) (ha : a ∈ l) (h : ∀ R, res a ∈ R -> Rds W R sz ao k xs) : Rds W H sz ao k xs :=
 Rds.star (L := l.map res) m (fun R => h _ (List.mem_append_left _ (List.mem_map_of_mem ha)))
end
end Go.Sl
namespace Go.Proofs.YtjebagmjcdaegaaGreat
open Go.RowKit Go.Sl
attribute [local irreducible] Own
variable {W : World} {R : List SProp}
structure RowE where
  ao : Option Addr
  cap : Nat
  data : List UInt8
abbrev RowE.hdr (e : RowE) : Value := .slice e.ao e.data.length e.cap
def RowE.res (e : RowE) : SProp := Own 5 1 (.slice e.ao e.data.length e.cap) e.data.length (bytes e.data)
structure RowE.ok (e : RowE) : Prop where
  nil : e.ao = none -> e.data.length = 0
  cap : e.data.length <= e.cap
theorem rowhdr_one (l : List RowE) : ∀ u ∈ l.map RowE.hdr, u.oneCell' = true := by
 intro u hu; obtain ⟨e, _, rfl⟩ := List.mem_map.1 hu; rfl
theorem RowE.rds {H : List SProp} {e : RowE} (h : e.ok) (m : e.res ∈ H) : Rds W H 1 e.ao e.data.length (bytes e.data) := Rds.own (bytes_one _) m (by simp) h.nil
theorem RowE.know {W w : World} {R : List SProp} {e : RowE} (h : Holds W (e.res :: R) w) : e.ok := ⟨h.ownNone (.head _), h.ownCap (.head _)⟩
structure RdRows (W : World) (R : List SProp) (ao : Option Addr) (l : List RowE) : Prop where
  rds : Rds W R 1 ao l.length (l.map RowE.hdr)
  each : ∀ e ∈ l, Rds W R 1 e.ao e.data.length (bytes e.data)
  ok : ∀ e ∈ l, e.ok
abbrev RowsO (x : Option Addr × Nat) (l : List RowE) : SProp := Own 22 1 (.slice x.1 l.length x.2) l.length (l.map RowE.hdr)
abbrev PilR (l : List RowE) : SProp := pile RowE.res l
theorem RdRows.own {H : List SProp} {x : Option Addr × Nat} {l : List RowE} (hn : x.1 = none -> l.length = 0) (hok : ∀ e ∈ l, e.ok) (m1 : RowsO x l ∈ H) (m2 : PilR l ∈ H) : RdRows W H x.1 l :=
 ⟨Rds.own (rowhdr_one l) m1 (by simp) hn, fun e he => Rds.pile m2 he (fun R hR => RowE.rds (hok e he) hR), hok⟩
theorem RdRows.ent {H R : List SProp} {ao : Option Addr} {l : List RowE} (h : RdRows W R ao l) (e : Ent W H R) : RdRows W H ao l := ⟨h.rds.ent e, fun x hx => (h.each x hx).ent e, h.ok⟩
theorem PilR.know {W w : World} {R : List SProp} {l : List RowE} (h : Holds W (PilR l :: R) w) : ∀ e ∈ l, e.ok := by
 intro e he
 obtain ⟨i, hi, rfl⟩ := List.mem_iff_getElem.1 he
 exact RowE.know (pile_out hi h)
structure PatE where
  member : Int
  row : Int
  d : RowE
abbrev PatE.cells (p : PatE) : List Value := [.int .i64 p.member, .int .i64 p.row, p.d.hdr]
def patCells (l : List PatE) : List Value := l.flatMap PatE.cells
def PatE.res (p : PatE) : SProp := p.d.res
theorem pat_one (p : PatE) : ∀ u ∈ p.cells, u.oneCell' = true := by simp [Value.oneCell']
theorem pats_one (l : List PatE) : ∀ u ∈ patCells l, u.oneCell' = true := by
 intro u hu; obtain ⟨p, _, h⟩ := List.mem_flatMap.1 hu; exact pat_one p u h
theorem pats_len (l : List PatE) : (patCells l).length = l.length * 3 := flat_length l (fun _ _ => rfl)
theorem pat_at (l : List PatE) (j : Nat) (h : j < l.length) : ((patCells l).drop (j * 3)).take 3 = l[j].cells := flat_part l j h (fun _ _ => rfl)
structure RdPats (W : World) (R : List SProp) (ao : Option Addr) (l : List PatE) : Prop where
  rds : Rds W R 3 ao l.length (patCells l)
  each : ∀ p ∈ l, Rds W R 1 p.d.ao p.d.data.length (bytes p.d.data)
  ok : ∀ p ∈ l, p.d.ok
abbrev PatsO (x : Option Addr × Nat) (l : List PatE) : SProp := Own 88 3 (.slice x.1 l.length x.2) l.length (patCells l)
abbrev PilP (l : List PatE) : SProp := pile PatE.res l
theorem RdPats.own {H : List SProp} {x : Option Addr × Nat} {l : List PatE} (hn : x.1 = none -> l.length = 0) (hok : ∀ p ∈ l, p.d.ok) (m1 : PatsO x l ∈ H) (m2 : PilP l ∈ H) : RdPats W H x.1 l :=
 ⟨Rds.own (pats_one l) m1 (pats_len l) hn, fun p hp => Rds.pile m2 hp (fun R hR => RowE.rds (hok p hp) hR), hok⟩
theorem RdPats.ent {H R : List SProp} {ao : Option Addr} {l : List PatE} (h : RdPats W R ao l) (e : Ent W H R) : RdPats W H ao l := ⟨h.rds.ent e, fun x hx => (h.each x hx).ent e, h.ok⟩
theorem PilP.know {W w : World} {R : List SProp} {l : List PatE} (h : Holds W (PilP l :: R) w) : ∀ p ∈ l, p.d.ok := by
 intro e he
 obtain ⟨i, hi, rfl⟩ := List.mem_iff_getElem.1 he
 exact RowE.know (pile_out hi h)
structure TxnE where
  seq : Nat
  ao : Option Addr
  cap : Nat
  pats : List PatE
abbrev TxnE.cells (t : TxnE) : List Value := [.int .u64 t.seq, .slice t.ao t.pats.length t.cap]
def txnCells (l : List TxnE) : List Value := l.flatMap TxnE.cells
def TxnE.res (t : TxnE) : SProp := Sl.star [PatsO (t.ao, t.cap) t.pats, PilP t.pats]
structure TxnE.ok (t : TxnE) : Prop where
  nil : t.ao = none -> t.pats.length = 0
  cap : t.pats.length <= t.cap
  each : ∀ p ∈ t.pats, p.d.ok
theorem txn_one (p : TxnE) : ∀ u ∈ p.cells, u.oneCell' = true := by simp [Value.oneCell']
theorem txns_one (l : List TxnE) : ∀ u ∈ txnCells l, u.oneCell' = true := by
 intro u hu; obtain ⟨p, _, h⟩ := List.mem_flatMap.1 hu; exact txn_one p u h
theorem txns_len (l : List TxnE) : (txnCells l).length = l.length * 2 := flat_length l (fun _ _ => rfl)
structure RdTxns (W : World) (R : List SProp) (ao : Option Addr) (l : List TxnE) : Prop where
  rds : Rds W R 2 ao l.length (txnCells l)
  each : ∀ t ∈ l, RdPats W R t.ao t.pats
  ok : ∀ t ∈ l, t.ok
abbrev TxnsO (x : Option Addr × Nat) (l : List TxnE) : SProp := Own 86 2 (.slice x.1 l.length x.2) l.length (txnCells l)
abbrev PilT (l : List TxnE) : SProp := pile TxnE.res l
theorem TxnE.know {W w : World} {R : List SProp} {t : TxnE} (h : Holds W (t.res :: R) w) : t.ok := by
 have h2 : Holds W (PatsO (t.ao, t.cap) t.pats :: PilP t.pats :: R) w := h.join
 exact ⟨h2.ownNone (.head _), h2.ownCap (.head _), PilP.know h2.tail⟩
theorem PilT.know {W w : World} {R : List SProp} {l : List TxnE} (h : Holds W (PilT l :: R) w) : ∀ t ∈ l, t.ok := by
 intro e he
 obtain ⟨i, hi, rfl⟩ := List.mem_iff_getElem.1 he
 exact TxnE.know (pile_out hi h)
theorem TxnE.rd {H : List SProp} {t : TxnE} (h : t.ok) (m : t.res ∈ H) : RdPats W H t.ao t.pats := by
 have q : ∀ R, RdPats W ([PatsO (t.ao, t.cap) t.pats, PilP t.pats] ++ R) t.ao t.pats := fun R => RdPats.own (x := (t.ao, t.cap)) h.nil h.each (by simp) (by simp)
 exact ⟨Rds.star m fun R => (q R).rds, fun p hp => Rds.star m fun R => (q R).each p hp, h.each⟩
theorem RdTxns.own {H : List SProp} {x : Option Addr × Nat} {l : List TxnE} (hn : x.1 = none -> l.length = 0) (hok : ∀ t ∈ l, t.ok) (m1 : TxnsO x l ∈ H) (m2 : PilT l ∈ H) : RdTxns W H x.1 l := by
 refine ⟨Rds.own (txns_one l) m1 (txns_len l) hn, fun t ht => ?_, hok⟩
 exact ⟨Rds.pile m2 ht (fun R hR => (TxnE.rd (hok t ht) hR).rds), fun p hp => Rds.pile m2 ht (fun R hR => (TxnE.rd (hok t ht) hR).each p hp), (hok t ht).each⟩
theorem RdTxns.ent {H R : List SProp} {ao : Option Addr} {l : List TxnE} (h : RdTxns W R ao l) (e : Ent W H R) : RdTxns W H ao l := ⟨h.rds.ent e, fun x hx => (h.each x hx).ent e, h.ok⟩
theorem TxnE.shut {W w : World} {R : List SProp} (t : TxnE) (h : Holds W (PatsO (t.ao, t.cap) t.pats :: PilP t.pats :: R) w) : Holds W (t.res :: R) w := h.nest (L := [PatsO (t.ao, t.cap) t.pats, PilP t.pats])
end Go.Proofs.YtjebagmjcdaegaaGreat
/-! Text Lr. -/
namespace Go.Proofs.YtjebagmjcdaegaaGreat
open Go.RowKit Go.Sl
theorem clone_ok {W : World} {R : List SProp} {ao : Option Addr} {n cap : Nat} {xs : List Value} (ha : Rds W R 1 ao n xs) (hn : n <= 1099511627776) :
    Does W Tryz.prog 54 [.slice ao n cap] R (β := Option Addr × Nat) (fun _ => True) (fun x => .slice x.1 n x.2) (fun x => Own 5 1 (.slice x.1 n x.2) n xs :: R) := by
  (refine Does.enter Tryz.func54 Tryz.ntmps54 rfl rfl ?_)
  refine w ?_
  cases ao with
  | none =>
    have h0 := ha.nil rfl
    subst h0
    have hx : xs = [] := List.eq_nil_of_length_eq_zero (by simpa using ha.len)
    subst hx
    (refine VC.condTe rfl rfl (rfl) ?_)
    refine w ?_
    exact VE.done (none, 0) rfl trivial rfl fun w hw => hw.ownNil _ _
  | some a =>
    (refine VC.condFe rfl rfl (rfl) ?_)
    refine w ?_
    (refine zq ?_; refine OpV.buildSlice1 st_22 rfl rfl (by first | (simp; done) | simp [Value.oneCell']) (by decide) rfl ?_; intro nb)
    refine VO.ent (H' := Own 5 1 (.slice (some ⟨nb, 0, none⟩) 0 0) 0 [] :: R) (fun w hw => Holds.ownShut rfl (Nat.le_refl _) (by decide) rfl hw) ?_
    refine w ?_
    refine VO.step rfl rfl ?_
    refine OpV.append st_22 rfl rfl .head (fun w hw => (ha.sees (cap := cap) hw.tail).src st_22.und) (by simp only [maxLen]; omega) (by omega) rfl ?_
    intro ao' cap'
    simp only [Nat.zero_add, List.nil_append]
    refine w ?_
    exact VE.done (ao', cap') rfl trivial rfl Ent.refl
structure Rk where
  b : List UInt8
  at_ : Nat
  err : Int
  wh : Int
def Rk.ok (k : Rk) : Prop := k.at_ <= k.b.length /\ k.b.length <= 1099511627776
abbrev ReaderO (p : Nat) (k : Rk) (ao : Option Addr) (cap : Nat) (R : List SProp) : List SProp :=
  Row p 123 [.slice ao k.b.length cap, .int .i64 k.at_, .int .u16 k.err, .int .i64 k.wh] :: Own 5 1 (.slice ao k.b.length cap) k.b.length (bytes k.b) :: R
def ReaderR (p : Nat) (k : Rk) : SProp := ex fun ac : Option Addr × Nat => Sl.star (fact k.ok :: ReaderO p k ac.1 ac.2 [])
theorem ReaderR.open {W w : World} {p : Nat} {k : Rk} {R : List SProp} (hw : Holds W (ReaderR p k :: R) w) : ∃ x : { ac : Option Addr × Nat // k.ok }, Holds W (ReaderO p k x.1.1 x.1.2 R) w := by
 obtain ⟨ac, h⟩ := hw.exOpen
 have h := h.join
 exact ⟨⟨ac, h.factOpen⟩, h.tail⟩
theorem ReaderR.shut {W : World} {p : Nat} {k : Rk} {R : List SProp} (hk : k.ok) {ao : Option Addr} {cap : Nat} : Ent W (ReaderO p k ao cap R) (ReaderR p k :: R) := fun _ hw =>
 Holds.exShut (ao, cap) (Holds.nest (L := [_, _, _]) (hw.factShut hk))
theorem ReaderR.know {W w : World} {p : Nat} {k : Rk} {R : List SProp} (hw : Holds W (ReaderR p k :: R) w) : k.ok := by
 obtain ⟨⟨_, h⟩, _⟩ := ReaderR.open hw
 exact h
theorem read_ok {W : World} {R : List SProp} {ao : Option Addr} {n cap : Nat} {l : List UInt8} (ha : Rds W R 1 ao n (bytes l)) (hn : n <= 1099511627776) :
  Does W Tryz.prog 14 [.slice ao n cap] R (β := Nat) (fun _ => True) (fun b => .pointer (some ⟨b, 0, none⟩)) (fun b => ReaderR b ⟨l, 0, 0, 0⟩ :: R) := by
 have hl : l.length = n := by have := ha.len; simpa using this
 (refine Does.enter Tryz.func14 Tryz.ntmps14 rfl rfl ?_)
 refine w ?_; repeat (refine zj fun _ => ?_; refine w ?_)
 (refine zq ?_; refine zd rfl rfl (clone_ok ha hn) ?_)
 rintro ⟨ao', cap'⟩ -
 refine w ?_; repeat (refine zj fun _ => ?_; refine w ?_)
 (apply VO.pure rfl rfl; apply PureAt.build sb_123 rfl; (simp [buildX, setL, Value.cells]; rfl); rfl)
 refine w ?_; repeat (refine zj fun _ => ?_; refine w ?_)
 subst hl
 exact VE.done _ rfl trivial rfl (ReaderR.shut (k := ⟨l, 0, 0, 0⟩) ⟨Nat.zero_le _, hn⟩)
theorem rleft_ok {W : World} {R : List SProp} (p : Nat) (k : Rk) :
  Does1 W Tryz.prog 58 [.pointer (some ⟨p, 0, none⟩)] (ReaderR p k :: R) (.int .i64 ((k.b.length : Int) - k.at_)) (ReaderR p k :: R) := by
 (refine Does.enter Tryz.func58 Tryz.ntmps58 rfl rfl ?_)
 refine VC.obtain (fun w => ReaderR.open) ?_
 rintro ⟨⟨ao, cap⟩, hk⟩
 have ⟨h1, h2⟩ := hk
 refine w ?_
 ((refine VC.quiet rfl (by kernel_rfl) (by kernel_rfl) ?_); refine w ?_)
 refine VE.done1 rfl rfl ?_
 exact ReaderR.shut hk
theorem rfail_ok {W : World} {R : List SProp} (p : Nat) (k : Rk) (e a : Int) :
  Does1 W Tryz.prog 113 [.pointer (some ⟨p, 0, none⟩), .int .u16 e, .int .i64 a] (ReaderR p k :: R) (.tuple #[]) (ReaderR p { k with err := e, wh := a } :: R) := by
 (refine Does.enter Tryz.func113 Tryz.ntmps113 rfl rfl ?_)
 refine VC.obtain (fun w => ReaderR.open) ?_
 rintro ⟨⟨ao, cap⟩, hk⟩
 refine w ?_
 (refine VE.done1N rfl rfl ?_)
 exact ReaderR.shut (k := { k with err := e, wh := a }) hk
def Rk.short (k : Rk) (n : Nat) : Rk := if k.err = 0 /\ k.b.length - k.at_ < n then { k with err := 11, wh := k.at_ } else k
def Rk.got (k : Rk) (n : Nat) : List UInt8 := if (k.short n).err = 0 then (k.b.drop k.at_).take n else []
theorem Rk.short_zero {k : Rk} {n : Nat} (h : (k.short n).err = 0) : k.short n = k /\ k.err = 0 /\ n <= k.b.length - k.at_ := by
 unfold Rk.short at *
 split at h
 · cases h
 ·
  rename_i hn
  rw [if_neg hn]
  exact ⟨rfl, h, by omega⟩
theorem Rk.got_length {k : Rk} {n : Nat} (h : (k.short n).err = 0) : (k.got n).length = n := by
 obtain ⟨_, _, h3⟩ := Rk.short_zero h
 unfold Rk.got
 rw [if_pos h]
 simp; omega
theorem next_bad {W : World} {R : List SProp} (p : Nat) (k : Rk) (n : Nat) (hbad : (k.short n).err ≠ 0) :
  Does1 W Tryz.prog 57 [.pointer (some ⟨p, 0, none⟩), .int .i64 n] (ReaderR p k :: R) (.slice none 0 0) (ReaderR p (k.short n) :: R) := by
 (refine Does.enter Tryz.func57 Tryz.ntmps57 rfl rfl ?_)
 refine VC.obtain (fun w => ReaderR.open) ?_
 rintro ⟨⟨ao, cap⟩, hk⟩
 have ⟨h1, h2⟩ := hk
 refine w ?_
 refine zg ?_ ?_ <;> intro hb
 ·
  refine w ?_
  ((refine zq ?_; refine OpV.call rfl rfl (fun _ _ => by simp) (rleft_ok p k) (ReaderR.shut hk) rfl ?_); intro _ _)
  refine VO.obtain (fun w => ReaderR.open) ?_
  rintro ⟨⟨ao, cap⟩, -⟩
  have hb : k.err = 0 := by simpa using hb
  refine w ?_
  refine zk ?_ ?_ <;> intro hc
  ·
   have hs : k.short n = { k with err := 11, wh := k.at_ } := by unfold Rk.short; rw [if_pos ⟨hb, by simp at hc; omega⟩]
   refine w ?_
   ((refine zq ?_; refine OpV.call rfl rfl (fun _ _ => by simp) (rfail_ok p k 11 k.at_) (ReaderR.shut hk) rfl ?_); intro _ _)
   refine VO.obtain (fun w => ReaderR.open) ?_
   rintro ⟨⟨ao, cap⟩, hk'⟩
   refine w ?_
   rw [hs]
   refine VE.done1 rfl rfl ?_
   exact ReaderR.shut hk'
  ·
   have hs : k.short n = k := by unfold Rk.short; rw [if_neg]; simp at hc; omega
   rw [hs] at hbad
   exact absurd hb hbad
 ·
  have hb : k.err ≠ 0 := by simpa using hb
  have hs : k.short n = k := by unfold Rk.short; rw [if_neg]; omega
  refine w ?_
  (refine VC.condTe rfl rfl (by simpa using hb) ?_)
  refine w ?_
  rw [hs]
  refine VE.done1 rfl rfl ?_
  exact ReaderR.shut hk
theorem next_good {W : World} {R : List SProp} (p : Nat) (k : Rk) (n : Nat) (hgood : (k.short n).err = 0) :
  Does W Tryz.prog 57 [.pointer (some ⟨p, 0, none⟩), .int .i64 n] (ReaderR p k :: R) (β := Option Addr × Nat)
   (fun x => k.b.length <= x.2) (fun x => .slice (subA x.1 x.2 k.at_ 1) n (x.2 - k.at_)) (fun x => ReaderO p k x.1 x.2 R) := by
 (refine Does.enter Tryz.func57 Tryz.ntmps57 rfl rfl ?_)
 refine VC.obtain (fun w => ReaderR.open) ?_
 rintro ⟨⟨ao, cap⟩, hk⟩
 have ⟨h1, h2⟩ := hk
 obtain ⟨hs, hb, hle⟩ := Rk.short_zero hgood
 refine w ?_
 (first | refine VO.gT rfl rfl rfl (by simpa using hb) ?_ | refine VD.gT rfl rfl rfl (by simpa using hb) ?_)
 refine w ?_
 ((refine zq ?_; refine OpV.call rfl rfl (fun _ _ => by simp) (rleft_ok p k) (ReaderR.shut hk) rfl ?_); intro _ _)
 refine VO.obtain (fun w => ReaderR.open) ?_
 rintro ⟨⟨ao, cap⟩, -⟩
 refine w ?_
 (refine VC.condFe rfl rfl (by simp; omega) ?_)
 refine w ?_
 (refine VC.condFe rfl rfl (by simp [hb]) ?_)
 refine VC.know (fun w hw => hw.ownCap zm) ?_
 intro hcap
 refine w ?_
 ((refine VC.quiet rfl (by kernel_rfl) (by kernel_rfl) ?_); refine w ?_)
 refine VE.done (ao, cap) rfl hcap ?_ Ent.refl
 show Value.slice _ (k.at_ + n - k.at_) _ = _
 rw [Nat.add_sub_cancel_left]
theorem got_rds {W : World} {k : Rk} {n : Nat} {ao : Option Addr} {cap : Nat} {H : List SProp} (hk : k.ok) (hgood : (k.short n).err = 0) (hcap : k.b.length <= cap) (hn : ao = none -> k.b.length = 0)
  (m : Own 5 1 (.slice ao k.b.length cap) k.b.length (bytes k.b) ∈ H) : Rds W H 1 (subA ao cap k.at_ 1) n (bytes (k.got n)) := by
 obtain ⟨hs, hb, hle⟩ := Rk.short_zero hgood
 have h1 := hk.1
 have r := Rds.own (W := W) (bytes_one k.b) m (by simp) hn
 have := r.sub (cap := cap) (l := k.at_) (h := k.at_ + n) (by omega) (by omega) hcap
 rw [Nat.add_sub_cancel_left] at this
 have e : ((bytes k.b).drop (k.at_ * 1)).take (n * 1) = bytes (k.got n) := by
  unfold Rk.got; rw [if_pos hgood]; simp [bytes]
 rw [e] at this
 exact this
def leVal : List UInt8 -> Nat
  | [] => 0
  | c :: r => c.toNat + 256 * leVal r
theorem leVal_lt : ∀ l : List UInt8, leVal l < 256 ^ l.length
  | [] => by decide
  | c :: r => by
    have := leVal_lt r
    have hc := c.toNat_lt
    simp only [leVal, List.length_cons, Nat.pow_succ]
    omega
theorem leVal_snoc : ∀ (l : List UInt8) (c : UInt8), leVal (l ++ [c]) = leVal l + c.toNat * 256 ^ l.length
  | [], c => by simp [leVal]
  | d :: r, c => by
    have := leVal_snoc r c
    simp only [List.cons_append, leVal, this, List.length_cons, Nat.pow_succ]
    rw [Nat.mul_add, Nat.add_assoc, Nat.mul_left_comm, Nat.mul_comm (256 ^ r.length)]
theorem or_shift (x y s : Nat) (hx : x < 2 ^ s) (hs : s <= 64) (hy : y * 2 ^ s < 2 ^ 64) :
  IntKind.u64.wrap ((BitVec.ofInt IntKind.u64.bits (x : Int) ||| BitVec.ofInt IntKind.u64.bits (IntKind.u64.wrap ((y : Int) * 2 ^ min s IntKind.u64.bits))).toNat : Int) = ((x + y * 2 ^ s : Nat) : Int) := by
 have hm : min s IntKind.u64.bits = s := by simp [IntKind.bits]; omega
 have hx64 : x < 2 ^ 64 := Nat.lt_of_lt_of_le hx (Nat.pow_le_pow_right (by decide) hs)
 rw [hm]
 have e1 : ((y : Int) * 2 ^ s) = ((y * 2 ^ s : Nat) : Int) := by simp
 rw [e1, wrap64_of hy]
 have e2 : (BitVec.ofInt IntKind.u64.bits (x : Int)).toNat = x := by
  simp [IntKind.bits]; omega
 have e3 : (BitVec.ofInt IntKind.u64.bits ((y * 2 ^ s : Nat) : Int)).toNat = y * 2 ^ s := by
  simp only [BitVec.toNat_ofInt, IntKind.bits]
  omega
 rw [BitVec.toNat_or, e2, e3]
 have e4 : x ||| y * 2 ^ s = x + y * 2 ^ s := by
  rw [Nat.or_comm, Nat.mul_comm, <- Nat.two_pow_add_eq_or_of_lt hx]; omega
 have e5 : x + y * 2 ^ s < 2 ^ 64 := by
  rw [<- e4]; exact Nat.or_lt_two_pow hx64 hy
 rw [e4, wrap64_of e5]
theorem or_le (x c i : Nat) (hx : x < 256 ^ i) (hc : c < 256) (hi : i < 8) :
  IntKind.u64.wrap ((BitVec.ofInt IntKind.u64.bits (x : Int) ||| BitVec.ofInt IntKind.u64.bits (IntKind.u64.wrap ((c : Int) * 2 ^ min (8 * i) IntKind.u64.bits))).toNat : Int) = ((x + c * 256 ^ i : Nat) : Int) := by
 have e256 : (256 : Nat) ^ i = 2 ^ (8 * i) := by rw [Nat.pow_mul]
 rw [e256] at hx ⊢
 refine or_shift x c (8 * i) hx (by omega) ?_
 calc c * 2 ^ (8 * i) < 256 * 2 ^ (8 * i) := Nat.mul_lt_mul_of_pos_right hc (Nat.two_pow_pos _)
  _ = 2 ^ (8 + 8 * i) := by rw [Nat.pow_add]
  _ <= 2 ^ 64 := Nat.pow_le_pow_right (by decide) (by omega)
def Rk.number (k : Rk) (width : Nat) : Rk := if (k.short width).err = 0 then { k with at_ := k.at_ + width } else k.short width
theorem rnumber_ok {W : World} {R : List SProp} (p : Nat) (k : Rk) (width : Nat) (hw8 : width <= 8) :
    Does1 W Tryz.prog 55 [.pointer (some ⟨p, 0, none⟩), .int .i64 width] (ReaderR p k :: R) (.int .u64 (leVal (k.got width))) (ReaderR p (k.number width) :: R) := by
  (refine Does.enter Tryz.func55 Tryz.ntmps55 rfl rfl ?_)
  refine VC.know (fun w => ReaderR.know) ?_
  intro hk
  have ⟨h1, h2⟩ := hk
  refine w ?_
  by_cases hg : (k.short width).err = 0
  · obtain ⟨hs, hb, hle⟩ := Rk.short_zero hg
    (refine zq ?_; refine zd rfl rfl (next_good p k width hg) ?_)
    rintro ⟨ao, cap⟩ hcap
    refine VO.know (fun w hw => hw.ownNone zm) ?_
    intro hnone
    have hr := got_rds (W := W) (n := width) (H := ReaderO p k ao cap R) hk hg hcap hnone zm
    have hgl := Rk.got_length hg
    refine w ?_
    refine VC.loop (α := Nat) (fun j => j <= width) (fun j => ReaderO p k ao cap R)
      (fun j => [(0, .pointer (some ⟨p, 0, none⟩)), (1, .int .i64 width), (5, .int .u64 ((leVal ((k.got width).take j) : Nat) : Int)), (10, .slice (subA ao cap k.at_ 1) width (cap - k.at_)), (11, .int .i64 width), (12, .int .i64 j)])
      (fun j => width - j) rfl 0 (Nat.zero_le _) Ent.refl ⟨rfl, rfl, rfl, rfl, rfl, rfl, trivial⟩ ?_
    intro j hj
    refine w ?_
    refine zk ?_ ?_ <;> intro hc
    · have hlt : j < width := by simpa using hc
      obtain ⟨a0, ha0⟩ : ∃ a0, subA ao cap k.at_ 1 = some a0 := by
        cases e : subA ao cap k.at_ 1 with
        | none => have := hr.nil e; omega
        | some a0 => exact ⟨a0, rfl⟩
      rw [ha0] at hr ⊢
      have hb1 := hr
      refine w ?_
      have hc8 := ((k.got width)[j]'(by omega)).toNat_lt
      (refine zq ?_; refine OpV.pure (PureAt.shl rfl rfl (by omega)) rfl ?_)
      refine w ?_
      have ht : (k.got width).take (j + 1) = (k.got width).take j ++ [(k.got width)[j]'(by omega)] := by rw [List.take_succ_eq_append_getElem (by omega)]
      have htl : ((k.got width).take j).length = j := by rw [List.length_take]; omega
      have hor := or_le (leVal ((k.got width).take j)) ((k.got width)[j]'(by omega)).toNat j (by have := leVal_lt ((k.got width).take j); rw [htl] at this; exact this) hc8 (by omega)
      refine VE.round (j + 1) (by omega) (by omega) ⟨rfl, rfl, asV rfl ?_, rfl, rfl, rfl, trivial⟩ Ent.refl
      rw [ht, leVal_snoc, htl, <- hor, wrap64_of (v := ((k.got width)[j]'(by omega)).toNat) (by omega), show (8 * (j : Int)).toNat = 8 * j by omega]
    · have hge : j = width := by have : ¬ j < width := by simpa using hc
                                 omega
      subst hge
      refine w ?_
      (refine VC.condTe rfl rfl (by simp [hb]) ?_)
      refine w ?_
      refine VE.done1 rfl ?_ ?_
      · rw [List.take_of_length_le (by omega)]
      · rw [show k.number j = { k with at_ := k.at_ + j } by unfold Rk.number; rw [if_pos hg]]
        exact ReaderR.shut (k := { k with at_ := k.at_ + j }) ⟨by simp only; omega, h2⟩
  · ((refine zq ?_; refine zd rfl rfl (next_bad p k width hg) ?_); intro _ _)
    have hgn : k.got width = [] := by unfold Rk.got; rw [if_neg hg]
    refine w ?_
    refine VC.loop (α := Unit) (fun _ => True) (fun _ => ReaderR p (k.short width) :: R)
      (fun _ => [(0, .pointer (some ⟨p, 0, none⟩)), (1, .int .i64 width), (5, .int .u64 0), (11, .int .i64 0), (12, .int .i64 0)])
      (fun _ => 0) rfl () trivial Ent.refl ⟨rfl, rfl, rfl, rfl, rfl, trivial⟩ ?_
    intro _ _
    refine w ?_
    refine VO.obtain (fun w => ReaderR.open) ?_
    rintro ⟨⟨ao, cap⟩, hk'⟩
    refine w ?_
    (refine VC.condFe rfl rfl (by simpa using hg) ?_)
    refine w ?_
    rw [hgn]
    refine VE.done1 rfl ?_ ?_
    · rfl
    · rw [show k.number width = k.short width by unfold Rk.number; rw [if_neg hg]]
      exact ReaderR.shut hk'
theorem Rk.got_good {k : Rk} {n : Nat} (h1 : k.err = 0) (h2 : n <= k.b.length - k.at_) : k.got n = (k.b.drop k.at_).take n /\ k.short n = k /\ k.number n = { k with at_ := k.at_ + n } := by
 have e : k.short n = k := by unfold Rk.short; rw [if_neg]; omega
 refine ⟨?_, e, ?_⟩
 · unfold Rk.got; rw [e, if_pos h1]
 · unfold Rk.number; rw [e, if_pos h1]
theorem got_lt (k : Rk) (n : Nat) : leVal (k.got n) < 256 ^ n := by
 have h := leVal_lt (k.got n)
 refine Nat.lt_of_lt_of_le h (Nat.pow_le_pow_right (by decide) ?_)
 unfold Rk.got; split
 · simp; omega
 · simp
theorem r64_ok {W : World} {R : List SProp} (p : Nat) (k : Rk) :
  Does1 W Tryz.prog 165 [.pointer (some ⟨p, 0, none⟩)] (ReaderR p k :: R) (.int .u64 (leVal (k.got 8))) (ReaderR p (k.number 8) :: R) := by
 (refine Does.enter Tryz.func165 Tryz.ntmps165 rfl rfl ?_)
 refine w ?_
 ((refine zq ?_; refine zd rfl rfl (rnumber_ok p k 8 (by decide)) ?_); intro _ _)
 refine w ?_
 (first | exact VE.done1 rfl rfl Ent.refl | exact VE.done1N rfl rfl Ent.refl)
theorem r32_ok {W : World} {R : List SProp} (p : Nat) (k : Rk) :
  Does1 W Tryz.prog 15 [.pointer (some ⟨p, 0, none⟩)] (ReaderR p k :: R) (.int .u32 (leVal (k.got 4))) (ReaderR p (k.number 4) :: R) := by
 (refine Does.enter Tryz.func15 Tryz.ntmps15 rfl rfl ?_)
 refine w ?_
 ((refine zq ?_; refine zd rfl rfl (rnumber_ok p k 4 (by decide)) ?_); intro _ _)
 refine w ?_
 refine VE.done1 rfl ?_ ?_
 · rw [wrap32_of, Nat.mod_eq_of_lt (by have := got_lt k 4; omega)]
 · exact Ent.refl
theorem r16_ok {W : World} {R : List SProp} (p : Nat) (k : Rk) :
  Does1 W Tryz.prog 20 [.pointer (some ⟨p, 0, none⟩)] (ReaderR p k :: R) (.int .u16 (leVal (k.got 2))) (ReaderR p (k.number 2) :: R) := by
 (refine Does.enter Tryz.func20 Tryz.ntmps20 rfl rfl ?_)
 refine w ?_
 ((refine zq ?_; refine zd rfl rfl (rnumber_ok p k 2 (by decide)) ?_); intro _ _)
 refine w ?_
 refine VE.done1 rfl ?_ ?_
 · rw [wrap16_of, Nat.mod_eq_of_lt (by have := got_lt k 2; omega)]
 · exact Ent.refl
theorem r8_ok {W : World} {R : List SProp} (p : Nat) (k : Rk) :
  Does1 W Tryz.prog 18 [.pointer (some ⟨p, 0, none⟩)] (ReaderR p k :: R) (.int .u8 (leVal (k.got 1))) (ReaderR p (k.number 1) :: R) := by
 (refine Does.enter Tryz.func18 Tryz.ntmps18 rfl rfl ?_)
 refine w ?_
 ((refine zq ?_; refine zd rfl rfl (rnumber_ok p k 1 (by decide)) ?_); intro _ _)
 refine w ?_
 refine VE.done1 rfl ?_ ?_
 · rw [wrap8_of, Nat.mod_eq_of_lt (by have := got_lt k 1; omega)]
 · exact Ent.refl
theorem at_ok {W : World} {R : List SProp} (p : Nat) (k : Pk) :
  Does1 W Tryz.prog 189 [.pointer (some ⟨p, 0, none⟩)] (PackerR p k :: R) (.int .i64 k.had.length) (PackerR p k :: R) := by
 (refine Does.enter Tryz.func189 Tryz.ntmps189 rfl rfl ?_)
 refine VC.obtain (fun w => PackerR.open) ?_
 rintro ⟨⟨ao, cap⟩, hk⟩
 refine w ?_
 refine VE.done1 rfl rfl ?_
 exact PackerR.shut hk
theorem Pk.number_good {k : Pk} {v w : Nat} (h1 : k.bad = 0) (h2 : k.had.length + w <= k.size) : k.number v w = { k with had := k.had ++ lowBytes v w } := by
 have e : k.room w = k := by unfold Pk.room; rw [if_neg]; omega
 unfold Pk.number; rw [e, if_pos h1]
end Go.Proofs.YtjebagmjcdaegaaGreat
/-! Text Gc. -/
namespace Go.Proofs.YtjebagmjcdaegaaGreat
open Go.RowKit Go.Sl
attribute [local irreducible] Sl.Own
variable {W : World} {R : List SProp}
abbrev SumO (p a : Nat) (l : List UInt8) (k : Int) (R : List SProp) : List SProp :=
  Row p 346 [.slice (some ⟨a, 0, none⟩) 128 128, .int .i64 k] :: Own 5 1 (.slice (some ⟨a, 0, none⟩) 128 128) 128 (bytes l) :: R
theorem xornew_ok : Does W Tryz.prog 248 [.int .i64 128] R (β := Nat × Nat) (fun _ => True) (fun y => .tuple #[.pointer (some ⟨y.1, 0, none⟩), .int .u16 0]) (fun y => SumO y.1 y.2 (List.replicate 128 0) 0 R) := by
 (refine Does.enter Tryz.func248 Tryz.ntmps248 rfl rfl ?_)
 refine w ?_; repeat (refine zj fun _ => ?_; refine w ?_)
 refine zq ?_
 refine OpV.makeSlice1 (m := 128) st_22 rfl rfl rfl (by decide) (by decide) rfl ?_
 intro a
 rw [show List.replicate 128 (Value.int .u8 0) = bytes (List.replicate 128 0) by rw [bytes_replicate]]
 (apply VO.pure rfl rfl; apply PureAt.build sb_346 rfl; (simp [buildX, setL, Value.cells]; rfl); rfl)
 refine w ?_; repeat (refine zj fun _ => ?_; refine w ?_)
 rename_i p
 exact VE.done (p, a) rfl trivial rfl Ent.re
theorem xorB (a b : UInt8) : IntKind.u8.wrap ((BitVec.ofInt IntKind.u8.bits (a.toNat : Int) ^^^ BitVec.ofInt IntKind.u8.bits (b.toNat : Int)).toNat : Int) = ((a ^^^ b).toNat : Int) := by
 have h : ∀ c : UInt8, (BitVec.ofInt IntKind.u8.bits (c.toNat : Int)).toNat = c.toNat := fun c => by
  have := c.toNat_lt
  rw [BitVec.toNat_ofInt]
  show ((c.toNat : Int) % ((2 ^ 8 : Nat) : Int)).toNat = _
  omega
 rw [BitVec.toNat_xor, h, h, UInt8.toNat_xor]
 have := Nat.xor_lt_two_pow a.toNat_lt b.toNat_lt
 rw [IntKind.wrap_u8]
 omega
theorem xoradd_ok {ao : Option Addr} {cap : Nat} (p a : Nat) (l b : List UInt8) (k : Int) (hl : l.length = 128) (hb : b.length = 128) (hr : Rds W (SumO p a l k R) 1 ao 128 (bytes b)) (hR : ∀ l' k', Rds W (SumO p a l' k' R) 1 ao 128 (bytes b)) :
  Does W Tryz.prog 249 [.pointer (some ⟨p, 0, none⟩), .slice ao 128 cap] (SumO p a l k R) (β := List UInt8 × Int) (fun y => y.1.length = 128) (fun _ => .int .u16 0) (fun y => SumO p a y.1 y.2 R) := by
 obtain ⟨ba, rfl⟩ : ∃ x, ao = some x := by cases ao with | none => have := hr.nil rfl; omega | some x => exact ⟨x, rfl⟩
 (refine Does.enter Tryz.func249 Tryz.ntmps249 rfl rfl ?_)
 refine w ?_
 refine VC.loop (α := Nat × List UInt8) (fun y => y.1 <= 128 /\ y.2.length = 128) (fun y => SumO p a y.2 k R)
  (fun y => [(0, .pointer (some ⟨p, 0, none⟩)), (15, .slice (some ba) 128 cap), (16, .int .i64 128), (17, .int .i64 y.1)]) (fun y => 128 - y.1) rfl (0, l) ⟨Nat.zero_le _, hl⟩ Ent.refl ⟨rfl, rfl, rfl, rfl, trivial⟩ ?_
 rintro ⟨i, l'⟩ ⟨hi, hl'⟩
 dsimp only at hi hl' ⊢
 have hb1 := hR l' k
 have hb2 : Rds W (SumO p a l' k R) 1 (some ⟨a, 0, none⟩) 128 (bytes l') := Rds.own (bytes_one _) zm (by simp [hl']) (by simp)
 refine w ?_
 refine zk ?_ ?_ <;> intro hc
 ·
  have hlt : i < 128 := by have := of_decide_eq_true hc; omega
  refine w ?_
  refine zq ?_
  refine OpV.stO tab_ok rfl rfl rfl rfl zh (by simp; omega) ?_
  rw [xorB, show (bytes l').set i (Value.int .u8 ((l'[i] ^^^ b[i]).toNat : Int)) = bytes (l'.set i (l'[i] ^^^ b[i])) by unfold bytes; rw [List.map_set]; rfl]
  refine w ?_
  exact VE.round (i + 1, l'.set i (l'[i] ^^^ b[i])) ⟨hlt, by rw [List.length_set]; exact hl'⟩ (by dsimp only; omega) ⟨rfl, rfl, rfl, rfl, trivial⟩ Ent.re
 ·
  have hge : i = 128 := by have := of_decide_eq_false hc; omega
  refine w ?_
  exact VE.done (l', IntKind.i64.wrap (k + 1)) rfl hl' rfl Ent.re
theorem xorvalue_ok (p a : Nat) (l : List UInt8) (k : Int) (hl : l.length = 128) :
  Does W Tryz.prog 250 [.pointer (some ⟨p, 0, none⟩)] (SumO p a l k R) (β := Option Addr × Nat) (fun _ => True) (fun x => .slice x.1 128 x.2) (fun x => Own 5 1 (.slice x.1 128 x.2) 128 (bytes l) :: SumO p a l k R) := by
 have hr : Rds W (SumO p a l k R) 1 (some ⟨a, 0, none⟩) 128 (bytes l) := Rds.own (bytes_one _) zm (by simp [hl]) (by simp)
 (refine Does.enter Tryz.func250 Tryz.ntmps250 rfl rfl ?_)
 refine w ?_
 (refine zq ?_; refine zy rfl rfl (clone_ok hr (by decide)) ?_)
 intro x _
 refine w ?_
 exact VE.done x rfl trivial rfl Ent.refl
theorem solve_ok {m c s : Nat} {ao : Option Addr} {cap : Nat} (hm : 3 <= m /\ m <= 16) (hc : 1 <= c /\ c <= 16) (hs : 1 <= s /\ s <= 256) {k r : Nat} (hk : k < m) (hr : r < s * c) (l : List RowE) (hl : l.length = m) (hrd : RdRows W R ao l) (h128 : ∀ i (h : i < l.length), i ≠ k -> l[i].data.length = 128) :
  Does W Tryz.prog 220 [.agg (geoN m c s).toArray, .int .i64 r, .int .i64 k, .slice ao m cap] R (β := List UInt8 × Option Addr × Nat) (fun y => y.1.length = 128) (fun y => .tuple #[.slice y.2.1 128 y.2.2, .int .u16 0])
   (fun y => Own 5 1 (.slice y.2.1 128 y.2.2) 128 (bytes y.1) :: R) := by
 have h : s * c <= 256 * 16 := Nat.mul_le_mul hs.2 hc.2
 have hrdm : Rds W R 1 ao m (l.map RowE.hdr) := hl ▸ hrd.rds
 (refine Does.enter Tryz.func220 Tryz.ntmps220 rfl rfl ?_)
 refine w ?_; repeat (refine zj fun _ => ?_; refine w ?_)
 rename_i gb
 (refine zq ?_; refine zy rfl rfl (gat_ok hm hc hs (k : Int) (r : Int) (by omega)) ?_)
 rintro ⟨z, zb⟩ _
 rw [if_pos (by omega)]
 refine w ?_; repeat (refine zj fun _ => ?_; refine w ?_)
 obtain ⟨la, rfl⟩ : ∃ x, ao = some x := by cases ao with | none => have := hrd.rds.nil rfl; omega | some x => exact ⟨x, rfl⟩
 (refine VC.condFe rfl rfl (by simp) ?_)
 refine w ?_; repeat (refine zj fun _ => ?_; refine w ?_)
 (refine zq ?_; refine zy rfl rfl (xornew_ok) ?_)
 rintro ⟨p, a⟩ _
 refine w ?_; repeat (refine zj fun _ => ?_; refine w ?_)
 refine VC.loop (α := Nat × List UInt8 × Int) (fun y => y.1 <= m /\ y.2.1.length = 128) (fun y => SumO p a y.2.1 y.2.2 (Row gb 64 (geoN m c s) :: R))
  (fun y => [(2, .int .i64 (k : Int)), (13, .pointer (some ⟨p, 0, none⟩)), (37, .slice (some la) m cap), (38, .int .i64 m), (39, .int .i64 y.1)]) (fun y => m - y.1) rfl (0, List.replicate 128 0, 0) ⟨Nat.zero_le _, by simp⟩ Ent.refl ⟨rfl, rfl, rfl, rfl, rfl, trivial⟩ ?_
 rintro ⟨i, l', k'⟩ ⟨hi, hl'⟩
 dsimp only at hi hl' ⊢
 have eR : ∀ l' k', Ent W (SumO p a l' k' (Row gb 64 (geoN m c s) :: R)) R := fun _ _ => Ent.drop (Ent.drop (Ent.drop Ent.refl))
 have hr1 : Rds W (SumO p a l' k' (Row gb 64 (geoN m c s) :: R)) 1 (some la) m (l.map RowE.hdr) := hrdm.ent (eR _ _)
 refine w ?_; repeat (refine zj fun _ => ?_; refine w ?_)
 refine zk ?_ ?_ <;> intro hc
 ·
  have hlt : i < m := by have := of_decide_eq_true hc; omega
  have hll : i < l.length := by omega
  refine w ?_; repeat (refine zj fun _ => ?_; refine w ?_)
  refine VO.pure rfl rfl (PureAt.ldR tab_ok rfl rfl hr1 (by rw [List.getElem?_map, List.getElem?_eq_getElem hll]; rfl)) rfl ?_
  refine w ?_; repeat (refine zj fun _ => ?_; refine w ?_)
  refine zg ?_ ?_ <;> intro hb
  ·
   have hne : i ≠ k := by
    intro e; subst e
    have : ((i : Int) != (i : Int)) = true := hb
    simp at this
   have h1 := h128 i hll hne
   refine w ?_; repeat (refine zj fun _ => ?_; refine w ?_)
   have hadd := xoradd_ok (W := W) (R := Row gb 64 (geoN m c s) :: R) (cap := l[i].cap) p a l' l[i].data k' hl' h1 (h1 ▸ (hrd.each _ (List.getElem_mem hll)).ent (eR _ _)) (fun l2 k2 => h1 ▸ (hrd.each _ (List.getElem_mem hll)).ent (eR _ _))
   refine VO.re 49 (.slice l[i].ao 128 l[i].cap) rfl (by show Value.slice _ l[i].data.length _ = _; rw [h1]) ?_
   (refine zq ?_; refine zy rfl rfl (hadd) ?_)
   rintro ⟨l2, k2⟩ h2
   refine w ?_; repeat (refine zj fun _ => ?_; refine w ?_)
   exact VE.round (i + 1, l2, k2) ⟨hlt, h2⟩ (by dsimp only; omega) ⟨rfl, rfl, rfl, rfl, asV rfl (by congr 1), trivial⟩ Ent.refl
  ·
   refine w ?_; repeat (refine zj fun _ => ?_; refine w ?_)
   exact VE.round (i + 1, l', k') ⟨hlt, hl'⟩ (by dsimp only; omega) ⟨rfl, rfl, rfl, rfl, asV rfl (by congr 1), trivial⟩ Ent.refl
 ·
  have hge : i = m := by have := of_decide_eq_false hc; omega
  refine w ?_; repeat (refine zj fun _ => ?_; refine w ?_)
  (refine zq ?_; refine zy rfl rfl (xorvalue_ok p a l' k' hl') ?_)
  intro x _
  refine w ?_; repeat (refine zj fun _ => ?_; refine w ?_)
  exact VE.done (l', x) rfl hl' rfl (Ent.trans Ent.re (Ent.re (L := Own 5 1 (.slice x.1 128 x.2) 128 (bytes l') :: R)))
end Go.Proofs.YtjebagmjcdaegaaGreat
/-! Text Lp. -/
namespace Go.Proofs.YtjebagmjcdaegaaGreat
open Go.RowKit Go.Sl
theorem mul64_ok {W : World} {R : List SProp} (n : Nat) (hn : n < 2 ^ 32) :
  Does1 W Tryz.prog 197 [.int .u64 1, .int .u64 n] R (.tuple #[.int .u64 0, .int .u64 n]) R := by
 (refine Does.enter Tryz.func197 Tryz.ntmps197 rfl rfl ?_)
 refine w ?_
 refine VE.done1 rfl ?_ Ent.refl
 have h1 : (BitVec.ofInt IntKind.u64.bits (n : Int) &&& BitVec.ofInt IntKind.u64.bits 4294967295).toNat = n := by
  have e2 : (BitVec.ofInt IntKind.u64.bits (n : Int)).toNat = n := by simp [IntKind.bits]; omega
  have e3 : (BitVec.ofInt IntKind.u64.bits (4294967295 : Int)).toNat = 2 ^ 32 - 1 := by decide
  rw [BitVec.toNat_and, e2, e3, Nat.and_two_pow_sub_one_eq_mod, Nat.mod_eq_of_lt hn]
 have h2 : n / 2 ^ Int.toNat 32 = 0 := Nat.div_eq_of_lt hn
 have h3 : (BitVec.ofInt IntKind.u64.bits 1 &&& BitVec.ofInt IntKind.u64.bits 4294967295).toNat = 1 := by decide
 have h4 : 1 / 2 ^ Int.toNat 32 = 0 := by decide
 have h5 : ((2 : Int) ^ IntKind.u64.bits).natAbs = 2 ^ 64 := by decide
 have h6 : n % 2 ^ 64 = n := Nat.mod_eq_of_lt (by omega)
 have h7 : 1 % 2 ^ 64 = 1 := by decide
 have h8 : IntKind.u64.wrap 0 = 0 := by decide
 have h9 : (BitVec.ofInt IntKind.u64.bits 0 &&& BitVec.ofInt IntKind.u64.bits 4294967295).toNat = 0 := by decide
 simp only [h1, h2, h3, h4, h5, h6, h7, Nat.one_mul, Nat.zero_mul, Nat.mul_zero, Nat.zero_add, Nat.add_zero, Nat.zero_mod, Nat.zero_div, Int.natCast_zero, Int.zero_mul, Int.mul_zero, Int.zero_add, Int.add_zero, h8, h9, Int.one_mul, wrap64_of (show n < 2 ^ 64 by omega)]
theorem mul_ok {W : World} {R : List SProp} (n : Nat) (hn : n < 2 ^ 32) :
  Does1 W Tryz.prog 134 [.int .u64 1, .int .u64 n] R (.tuple #[.int .u64 0, .int .u64 n]) R := by
 (refine Does.enter Tryz.func134 Tryz.ntmps134 rfl rfl ?_)
 refine w ?_
 ((refine zq ?_; refine zd rfl rfl (mul64_ok n hn) ?_); intro _ _)
 refine w ?_
 (first | exact VE.done1 rfl rfl Ent.refl | exact VE.done1N rfl rfl Ent.refl)
theorem repeat_ok {W : World} {R : List SProp} (x : Nat) (c : UInt8) (n : Nat) (h1 : 1 <= n) (hn : n <= 1048576) :
    Does W Tryz.prog 232 [.slice (some ⟨x, 0, none⟩) 1 1, .int .i64 n] (Row x 5 [byteV c] :: R) (β := Nat) (fun _ => True) (fun b => .slice (some ⟨b, 0, none⟩) n n)
      (fun b => Own 5 1 (.slice (some ⟨b, 0, none⟩) n n) n (bytes (List.replicate n c)) :: Row x 5 [byteV c] :: R) := by
  (refine Does.enter Tryz.func232 Tryz.ntmps232 rfl rfl ?_)
  refine w ?_
  refine VO.re 15 (.int .u64 ((1 : Nat) : Int)) rfl (by rw [wrap64_of (by omega)]) ?_
  refine VO.re 17 (.int .u64 n) rfl (by rw [wrap64_of (by omega)]) ?_
  ((refine zq ?_; refine zd rfl rfl (mul_ok n (by omega)) ?_); intro _ _)
  refine w ?_
  (refine VC.condFe rfl rfl (by simp; omega) ?_)
  refine w ?_
  refine VO.re 29 (.int .i64 n) rfl (by congr 1; exact IntWalk.i64_in _ (by omega)) ?_
  refine zq ?_; refine OpV.makeSlice1 st_22 rfl rfl rfl ?_ ?_ rfl ?_
  · omega
  · simp only [maxLen]; omega
  intro b
  refine w ?_
  (refine zq ?_; refine OpV.copy st_22 rfl rfl zh (fun w hw => Sees.row (ys := []) (xs := [byteV c]) (by simp) rfl hw (by simp only [List.append_nil]; (focus repeat first | exact .head _ | apply List.Mem.tail))) rfl ?_)
  refine w ?_
  have e0 : (bytes [c]).take (1 * 1) ++ (List.replicate n (Value.int .u8 0)).drop (1 * 1) = bytes (List.replicate 1 c ++ List.replicate (n - 1) 0) := by
    rw [bytes_append, bytes_replicate]; simp [bytes]
  have e1 : min 1 n = 1 := by omega
  rw [e1]
  refine VC.loop (α := Nat) (fun j => 1 <= j /\ j <= n) (fun j => Own 5 1 (.slice (some ⟨b, 0, none⟩) n n) n (bytes (List.replicate j c ++ List.replicate (n - j) 0)) :: Row x 5 [byteV c] :: R)
    (fun j => [(7, .slice (some ⟨b, 0, none⟩) n n), (8, .int .i64 j)]) (fun j => n - j) rfl 1 ⟨Nat.le_refl _, h1⟩ ?_ ⟨rfl, rfl, trivial⟩ ?_
  · rw [<- e0]; exact Ent.refl
  · rintro j ⟨hj1, hj⟩
    refine w ?_
    refine zk ?_ ?_ <;> intro hc
    · have hlt : j < n := by simpa using hc
      refine w ?_
      (refine VC.drawn [7] 8 [0, 1, 2, 3, 4, 5, 6, 7, 8, 9] [] rfl (by kernel_rfl) (by kernel_rfl) Ent.re ?_)
      refine w ?_
      have hr : Rds W (Own 5 1 (.slice (some ⟨b, 0, none⟩) n n) n (bytes (List.replicate j c ++ List.replicate (n - j) 0)) :: Row x 5 [byteV c] :: R) 1 (some ⟨b, 0, none⟩) n (bytes (List.replicate j c ++ List.replicate (n - j) 0)) := Rds.own (bytes_one _) zm (by simp; omega) (by simp)
      (refine zq ?_; refine OpV.copyOwn st_22 rfl rfl zh (hlt) (fun w hw => (hr.take hj).sees hw) rfl ?_)
      refine w ?_
      have e2 : (bytes (List.replicate j c ++ List.replicate (n - j) 0)).take (j * 1) ++ ((bytes (List.replicate j c ++ List.replicate (n - j) 0)).take (j * 1)).take (min j (n - j) * 1) ++ (bytes (List.replicate j c ++ List.replicate (n - j) 0)).drop (j * 1 + min j (n - j) * 1)
          = bytes (List.replicate (j + min j (n - j)) c ++ List.replicate (n - (j + min j (n - j))) 0) := by
        simp only [Nat.mul_one, bytes_append]
        have a1 : (bytes (List.replicate j c) ++ bytes (List.replicate (n - j) 0)).take j = bytes (List.replicate j c) := by
          rw [List.take_append_of_le_length (by simp), List.take_of_length_le (by simp)]
        rw [a1]
        have a2 : (bytes (List.replicate j c)).take (min j (n - j)) = bytes (List.replicate (min j (n - j)) c) := by simp [bytes, List.take_replicate]
        have a3 : (bytes (List.replicate j c) ++ bytes (List.replicate (n - j) 0)).drop (j + min j (n - j)) = bytes (List.replicate (n - (j + min j (n - j))) 0) := by
          rw [List.drop_append]; simp [bytes, List.drop_replicate]; omega
        rw [a2, a3, <- bytes_append, List.replicate_append_replicate]
      rw [e2]
      refine VE.round (j + min j (n - j)) ⟨by omega, by omega⟩ (by omega) ⟨rfl, asV rfl (by simp), trivial⟩ Ent.refl
    · have hge : j = n := by have : ¬ j < n := by simpa using hc
                             omega
      subst hge
      refine w ?_
      refine VE.done b rfl trivial rfl ?_
      simp only [Nat.sub_self, List.replicate_zero, List.append_nil]
      exact Ent.refl
def Pk.raw (k : Pk) (l : List UInt8) : Pk := if (k.room l.length).bad = 0 then { k with had := k.had ++ l } else k.room l.length
def Pk.fill (k : Pk) (n : Int) (c : UInt8) : Pk := if n <= 0 then k else if (k.room n).bad = 0 then { k with had := k.had ++ List.replicate n.toNat c } else k.room n
theorem fill_ok {W : World} {R : List SProp} (p : Nat) (k : Pk) (n : Int) (c : UInt8) :
  Does1 W Tryz.prog 188 [.pointer (some ⟨p, 0, none⟩), .int .i64 n, byteV c] (PackerR p k :: R) (.tuple #[]) (PackerR p (k.fill n c) :: R) := by
 (refine Does.enter Tryz.func188 Tryz.ntmps188 rfl rfl ?_)
 refine VC.know (fun w => PackerR.know) ?_
 intro ⟨h1, h2, h3⟩
 refine w ?_
 refine zg ?_ ?_ <;> intro hb
 ·
  have hn : 0 < n := by simpa using hb
  refine w ?_
  ((refine zq ?_; refine zd rfl rfl (room_ok p k n) ?_); intro _ _)
  refine w ?_
  refine zk ?_ ?_ <;> intro hc
  ·
   have hr : (k.room n).bad = 0 := by simpa using hc
   obtain ⟨e1, e2, e3⟩ := Pk.room_zero hr
   rw [e1]
   obtain ⟨m, rfl⟩ : ∃ m : Nat, n = m := ⟨n.toNat, by omega⟩
   refine VC.obtain (fun w => PackerR.open) ?_
   rintro ⟨⟨ao, cap⟩, -⟩
   refine w ?_
   (refine VC.drawn [6, 8, 9] 10 [0, 1, 2, 3, 4, 5, 7, 6, 8, 9, 10, 11, 12] [Row p 327 [.int .i64 k.size, .slice ao k.had.length cap, .int .u16 k.bad]] rfl (by kernel_rfl) (by kernel_rfl) Ent.re ?_)
   refine w ?_
   (refine zq ?_; refine OpV.buildSlice1 st_22 rfl rfl (by first | (simp; done) | simp [Value.oneCell']) (by decide) rfl ?_; intro nb)
   refine w ?_
   (refine zq ?_; refine zd rfl rfl (repeat_ok nb c m (by omega) (by omega)) ?_)
   intro b _
   refine w ?_
   refine zq ?_
   refine OpV.append st_22 rfl rfl zh (fun w hw => (Sees.own (bytes_one _) hw zm).src st_22.und) (by simp only [maxLen]; omega) (by omega) rfl ?_
   intro ao' cap'
   refine w ?_
   (refine VE.done1N rfl rfl ?_)
   rw [show k.fill m c = { k with had := k.had ++ List.replicate m c } by unfold Pk.fill; rw [if_neg (by omega), if_pos hr]; simp]
   refine Ent.trans Ent.re (PackerR.shut' (k := { k with had := k.had ++ List.replicate m c }) ⟨by simp; omega, h2, h3⟩ (by simp) (by simp [bytes]))
  ·
   have hr : ¬ (k.room n).bad = 0 := by simpa using hc
   refine w ?_
   (refine VE.done1N rfl rfl ?_)
   rw [show k.fill n c = k.room n by unfold Pk.fill; rw [if_neg (by omega), if_neg hr]]
   exact Ent.refl
 ·
  have hn : ¬ 0 < n := by simpa using hb
  refine w ?_
  (refine VE.done1N rfl rfl ?_)
  rw [show k.fill n c = k by unfold Pk.fill; rw [if_pos (by omega)]]
  exact Ent.refl
end Go.Proofs.YtjebagmjcdaegaaGreat
/-! Text Dk. -/
namespace Go.Proofs.YtjebagmjcdaegaaGreat
open Go.RowKit Go.Sl
attribute [local irreducible] Own
variable {W : World} {R : List SProp}
abbrev zb : Value := .int .u8 0
theorem st_sectors : SliceT Tryz.prog 212 219 (.agg (List.replicate 128 zb).toArray) 128 128 :=
 ⟨by kernel_rfl, by kernel_rfl, by simp [Value.cells], by intro u hu; simp only [Value.cells, List.toList_toArray] at hu; rw [List.eq_of_mem_replicate hu]; rfl⟩
theorem st_writes : SliceT Tryz.prog 214 261 (.agg (.int .i64 0 :: List.replicate 128 zb).toArray) 129 136 :=
 ⟨by kernel_rfl, by kernel_rfl, by simp [Value.cells], by
  intro u hu; simp only [Value.cells, List.toList_toArray, List.mem_cons] at hu
  rcases hu with hu | hu
  · subst hu; rfl
  · rw [List.eq_of_mem_replicate hu]; rfl⟩
theorem sb_write : StructT Tryz.prog 261 (.int .i64 0 :: List.replicate 128 zb) [(0, 1), (1, 128)] := by
 refine ⟨fun w => ?_, _, Tryz.underlying261, fun w => by simp⟩
 obtain ⟨i, hi, hz, hs, hb⟩ := info_parts st_writes.info
 simp [zeroValue, typeInfo, hi, hz]
theorem setL_mid : ∀ (vs a b : List Value), vs.length = b.length -> setL (a ++ b) a.length vs = a ++ vs
  | [], a, b, h => by cases b with | nil => simp [setL] | cons _ _ => cases h
  | v :: r, a, [], h => by cases h
  | v :: r, a, x :: b, h => by
    have := setL_mid r (a ++ [v]) b (by simpa using h)
    rw [setL, List.set_append_right _ _ (Nat.le_refl _), Nat.sub_self, List.set_cons_zero]
    simpa using this
structure DiskD where
  last : List (List UInt8)
  cache : List (Nat × List UInt8)
  failed : Bool
structure DiskD.ok (k : DiskD) : Prop where
  last : ∀ b ∈ k.last, b.length = 128
  cache : ∀ c ∈ k.cache, c.1 < k.last.length /\ c.2.length = 128
  size : k.last.length <= 8192
def wCells (c : Nat × List UInt8) : List Value := .int .i64 (c.1 : Int) :: bytes c.2
def lastR : List (Nat × List UInt8) -> Int -> Option Int
  | [], _ => none
  | c :: r, a => if a = (c.1 : Int) then some (r.length : Int) else lastR r a
def seenOf (c : List (Nat × List UInt8)) : Int -> Option Int := lastR c.reverse
theorem seenOf_nil : seenOf [] = fun _ => none := rfl
theorem seenOf_snoc (c : List (Nat × List UInt8)) (x : Nat × List UInt8) : seenOf (c ++ [x]) = updM (seenOf c) (x.1 : Int) (c.length : Int) := by
 funext a
 simp [seenOf, lastR, updM]
abbrev DiskO (d : Nat) (k : DiskD) (x : (Option Addr × Nat) × (Option Addr × Nat) × Nat) (R : List SProp) : List SProp :=
  Row d 216 [.slice x.1.1 k.last.length x.1.2, .slice x.2.1.1 k.cache.length x.2.1.2, .map (some x.2.2), .bool k.failed] :: Own 219 128 (.slice x.1.1 k.last.length x.1.2) k.last.length (k.last.flatMap bytes) ::
    Own 261 129 (.slice x.2.1.1 k.cache.length x.2.1.2) k.cache.length (k.cache.flatMap wCells) :: MapR x.2.2 (seenOf k.cache) :: R
def DiskR (d : Nat) (k : DiskD) : SProp := ex fun x : (Option Addr × Nat) × (Option Addr × Nat) × Nat => Sl.star (fact k.ok :: DiskO d k x [])
theorem DiskR.open {W w : World} {d : Nat} {k : DiskD} {R : List SProp} (hw : Holds W (DiskR d k :: R) w) : ∃ x : { x : (Option Addr × Nat) × (Option Addr × Nat) × Nat // k.ok }, Holds W (DiskO d k x.1 R) w := by
 obtain ⟨x, h⟩ := hw.exOpen
 have h := h.join
 exact ⟨⟨x, h.factOpen⟩, h.tail⟩
theorem DiskR.shut {d : Nat} {k : DiskD} {R : List SProp} (hk : k.ok) {x : (Option Addr × Nat) × (Option Addr × Nat) × Nat} : Ent W (DiskO d k x R) (DiskR d k :: R) := fun _ hw =>
 Holds.exShut x (Holds.nest (L := [_, _, _, _, _]) (hw.factShut hk))
theorem DiskR.know {W w : World} {d : Nat} {k : DiskD} {R : List SProp} (hw : Holds W (DiskR d k :: R) w) : k.ok := by
 obtain ⟨⟨_, h⟩, _⟩ := DiskR.open hw
 exact h
def zeroSec : List UInt8 := List.replicate 128 0
theorem zeroSec_length : zeroSec.length = 128 := by simp [zeroSec]
theorem madeCells_same (z : Value) (s m : Nat) (hs : 0 < s) : (madeCells (List.replicate s z).toArray m).toList = List.replicate m z := by
 apply List.ext_getElem
 · simp [madeCells]
 ·
  intro i h1 h2
  have : i % s < s := Nat.mod_lt _ hs
  simp [madeCells, this]
theorem zeros_flat : ∀ n : Nat, (List.replicate n zeroSec).flatMap bytes = List.replicate (n * 128) zb
  | 0 => by simp
  | n + 1 => by
    rw [List.replicate_succ, List.flatMap_cons, zeros_flat n, zeroSec, bytes_replicate, Nat.add_mul, Nat.one_mul, Nat.add_comm (n * 128), List.replicate_append_replicate]
theorem disknew_ok (n : Nat) (h1 : 1 <= n) (h2 : n <= 8192) :
  Does W Tryz.prog 59 [.int .i64 n] R (β := Nat) (fun _ => True) (fun d => .tuple #[.pointer (some ⟨d, 0, none⟩), .int .u16 0]) (fun d => DiskR d ⟨List.replicate n zeroSec, [], false⟩ :: R) := by
 (refine Does.enter Tryz.func59 Tryz.ntmps59 rfl rfl ?_)
 refine w ?_; repeat (refine zj fun _ => ?_; refine w ?_)
 (first | refine VO.gF rfl rfl rfl (by simp; omega) ?_ | refine VD.gF rfl rfl rfl (by simp; omega) ?_)
 refine w ?_; repeat (refine zj fun _ => ?_; refine w ?_)
 (refine VC.condFe rfl rfl (by simp; omega) ?_)
 refine w ?_; repeat (refine zj fun _ => ?_; refine w ?_)
 refine zq ?_
 refine OpV.makeSlice st_sectors rfl rfl ?_ ?_ rfl ?_
 · omega
 · simp only [maxLen]; omega
 intro nb
 have e : (madeCells (Value.agg (List.replicate 128 zb).toArray).cells (n * 128)).toList = (List.replicate n zeroSec).flatMap bytes := by
  rw [zeros_flat]; exact madeCells_same zb 128 (n * 128) (by decide)
 rw [e]
 refine zq ?_
 refine OpV.makeMap rfl ?_
 intro mb
 (apply VO.pure rfl rfl; apply PureAt.build sb_216 rfl; (simp [buildX, setL, Value.cells]; rfl); rfl)
 refine w ?_; repeat (refine zj fun _ => ?_; refine w ?_)
 refine VE.done _ rfl trivial rfl ?_
 intro w hw
 have hw := hw.ownNil 261 129
 have hl : (List.replicate n zeroSec).length = n := List.length_replicate
 refine DiskR.shut (k := ⟨List.replicate n zeroSec, [], false⟩) (x := ((some ⟨nb, 0, none⟩, n), (none, 0), mb)) ⟨fun b hb => (by rw [List.eq_of_mem_replicate hb]; exact zeroSec_length), fun c hc => absurd hc (by simp), (by rw [hl]; exact h2)⟩ w (hw.reord ?_)
 simp only [DiskO, hl, List.length_nil, List.flatMap_nil, seenOf_nil]
 (repeat first | exact .refl | (apply Reord.cons; focus repeat first | exact .head | apply Del.tail) | exact .nil | apply Reord.drop)
theorem disknew_bad (n : Int) (h : n < 1 \/ 8192 < n) :
  Does1 W Tryz.prog 59 [.int .i64 n] R (.tuple #[.pointer none, .int .u16 40]) R := by
 (refine Does.enter Tryz.func59 Tryz.ntmps59 rfl rfl ?_)
 refine w ?_; repeat (refine zj fun _ => ?_; refine w ?_)
 refine zg ?_ ?_ <;> intro hb
 ·
  refine w ?_; repeat (refine zj fun _ => ?_; refine w ?_)
  (first | exact VE.done1 rfl rfl Ent.refl | exact VE.done1N rfl rfl Ent.refl)
 ·
  refine w ?_; repeat (refine zj fun _ => ?_; refine w ?_)
  (refine VC.condTe rfl rfl (by have := of_decide_eq_false hb; simp; omega) ?_)
  refine w ?_; repeat (refine zj fun _ => ?_; refine w ?_)
  (first | exact VE.done1 rfl rfl Ent.refl | exact VE.done1N rfl rfl Ent.refl)
def DiskD.may (k : DiskD) (at_ : Int) : Int := if k.failed then 2 else if at_ < 0 \/ (k.last.length : Int) <= at_ then 3 else 0
theorem may_ok (d : Nat) (k : DiskD) (at_ : Int) :
  Does1 W Tryz.prog 159 [.pointer (some ⟨d, 0, none⟩), .int .i64 at_] (DiskR d k :: R) (.int .u16 (k.may at_)) (DiskR d k :: R) := by
 (refine Does.enter Tryz.func159 Tryz.ntmps159 rfl rfl ?_)
 refine VC.obtain (fun w => DiskR.open) ?_
 rintro ⟨⟨⟨ao, cap⟩, ⟨ao', cap'⟩, m⟩, hk⟩
 refine w ?_
 refine zk ?_ ?_ <;> intro hc
 ·
  refine w ?_
  refine VE.done1 rfl ?_ ?_
  · simp [DiskD.may, hc]
  · exact DiskR.shut hk
 have hf : k.failed = false := hc
 refine w ?_
 refine zg ?_ ?_ <;> intro hb
 ·
  have : at_ < 0 := of_decide_eq_true hb
  refine w ?_
  refine VE.done1 rfl ?_ ?_
  · simp [DiskD.may, hf, this]
  · exact DiskR.shut hk
 have h0 : ¬ at_ < 0 := of_decide_eq_false hb
 refine w ?_
 refine zk ?_ ?_ <;> intro hc
 ·
  have : (k.last.length : Int) <= at_ := by simpa using hc
  refine w ?_
  refine VE.done1 rfl ?_ ?_
  · simp [DiskD.may, hf, this]
  · exact DiskR.shut hk
 ·
  have : ¬ (k.last.length : Int) <= at_ := by simpa using hc
  refine w ?_
  refine VE.done1 rfl ?_ ?_
  · simp only [DiskD.may, hf]; rw [if_neg (by simp), if_neg (by omega)]
  · exact DiskR.shut hk
theorem dsectors_ok (d : Nat) (k : DiskD) :
  Does1 W Tryz.prog 67 [.pointer (some ⟨d, 0, none⟩)] (DiskR d k :: R) (.int .i64 k.last.length) (DiskR d k :: R) := by
 (refine Does.enter Tryz.func67 Tryz.ntmps67 rfl rfl ?_)
 refine VC.obtain (fun w => DiskR.open) ?_
 rintro ⟨⟨⟨ao, cap⟩, ⟨ao', cap'⟩, m⟩, hk⟩
 refine w ?_
 refine VE.done1 rfl ?_ ?_
 · rfl
 · exact DiskR.shut hk
theorem failed_ok (d : Nat) (k : DiskD) :
  Does1 W Tryz.prog 66 [.pointer (some ⟨d, 0, none⟩)] (DiskR d k :: R) (.bool k.failed) (DiskR d k :: R) := by
 (refine Does.enter Tryz.func66 Tryz.ntmps66 rfl rfl ?_)
 refine VC.obtain (fun w => DiskR.open) ?_
 rintro ⟨⟨⟨ao, cap⟩, ⟨ao', cap'⟩, m⟩, hk⟩
 refine w ?_
 refine VE.done1 rfl ?_ ?_
 · rfl
 · exact DiskR.shut hk
def DiskD.write (k : DiskD) (a : Nat) (b : List UInt8) : DiskD := { k with cache := k.cache ++ [(a, b)] }
theorem write_bad {ao : Option Addr} {cap nb : Nat} (d : Nat) (k : DiskD) (at_ : Int) (h : k.may at_ ≠ 0) :
  Does1 W Tryz.prog 151 [.pointer (some ⟨d, 0, none⟩), .int .i64 at_, .slice ao nb cap] (DiskR d k :: R) (.int .u16 (k.may at_)) (DiskR d k :: R) := by
 (refine Does.enter Tryz.func151 Tryz.ntmps151 rfl rfl ?_)
 refine w ?_
 ((refine zq ?_; refine zd rfl rfl (may_ok d k at_) ?_); intro _ _)
 refine w ?_
 (refine VC.condTe rfl rfl (by simpa using h) ?_)
 refine w ?_
 refine VE.done1 rfl ?_ ?_
 · rfl
 · exact Ent.refl
theorem may_zero {k : DiskD} {a : Int} (h : k.may a = 0) : k.failed = false /\ 0 <= a /\ a < k.last.length := by
 unfold DiskD.may at h
 split at h
 · cases h
 ·
  rename_i h1
  split at h
  · cases h
  · exact ⟨by simpa using h1, by omega, by omega⟩
theorem write_len {ao : Option Addr} {cap nb : Nat} (d : Nat) (k : DiskD) (at_ : Int) (h : k.may at_ = 0) (hb : nb ≠ 128) :
  Does1 W Tryz.prog 151 [.pointer (some ⟨d, 0, none⟩), .int .i64 at_, .slice ao nb cap] (DiskR d k :: R) (.int .u16 4) (DiskR d k :: R) := by
 (refine Does.enter Tryz.func151 Tryz.ntmps151 rfl rfl ?_)
 refine w ?_
 ((refine zq ?_; refine zd rfl rfl (may_ok d k at_) ?_); intro _ _)
 refine w ?_
 (refine VC.condFe rfl rfl (by simp [h]) ?_)
 refine w ?_
 (refine VC.condTe rfl rfl (by simp; omega) ?_)
 refine w ?_
 refine VE.done1 rfl ?_ ?_
 · rfl
 · exact Ent.refl
theorem buildX_step {pls : List (Nat × Nat)} {cs : List Value} {i o : Nat} {v : Value} {r : List (Nat × Value)} (h : pls[i]? = some (o, v.cells.size)) (hl : o + v.cells.size <= cs.length) :
  buildX pls cs ((i, v) :: r) = buildX pls (setL cs o v.cells.toList) r := by
 rw [buildX, h]
 simp only [ne_eq, not_true_eq_false, decide_false, Bool.false_or]
 rw [if_neg (by simpa using hl)]
theorem build_write (a : Int) (vs : List Value) (h : vs.length = 128) : buildX [(0, 1), (1, 128)] (.int .i64 0 :: List.replicate 128 zb) [(0, .int .i64 a), (1, .agg vs.toArray)] = some (.int .i64 a :: vs) := by
 have e : setL (.int .i64 a :: List.replicate 128 zb) 1 vs = .int .i64 a :: vs := setL_mid vs [.int .i64 a] (List.replicate 128 zb) (by rw [h, List.length_replicate])
 rw [buildX_step (o := 0) (v := .int .i64 a) rfl (by show 0 + 1 <= _; rw [List.length_cons, List.length_replicate]; decide), buildX_step (o := 1) (v := .agg vs.toArray) (by show some (1, 128) = some (1, vs.toArray.size); rw [List.size_toArray, h]) (by show 1 + vs.toArray.size <= (setL _ 0 [_]).length; rw [setL_length, List.length_cons, List.length_replicate, List.size_toArray, h]; decide)]
 exact congrArg some e
theorem wCells_length {c : Nat × List UInt8} (h : c.2.length = 128) : (wCells c).length = 129 := by simp [wCells, h]
theorem wCells_one (c : Nat × List UInt8) : ∀ u ∈ wCells c, u.oneCell' = true := by
 intro u hu
 rcases List.mem_cons.1 hu with h | h
 · subst h; rfl
 · exact bytes_one _ u h
theorem Addr_add_zero (a : Addr) : a.add 0 = a := by simp [Addr.add]
theorem DiskD.write_okk {k : DiskD} {a : Nat} {b : List UInt8} (hk : k.ok) (ha : a < k.last.length) (hb : b.length = 128) : (k.write a b).ok :=
 ⟨hk.last, fun c hc => by
  rcases List.mem_append.1 hc with h | h
  · exact hk.cache c h
  · rw [List.mem_singleton] at h; subst h; exact ⟨ha, hb⟩, hk.size⟩
theorem write_ok {ao : Option Addr} {cap : Nat} {b : List UInt8} (d : Nat) (k : DiskD) (a : Nat) (ha : a < k.last.length) (hf : k.failed = false) (hb : b.length = 128) (hc : k.cache.length <= 1000000000)
  (hr : Rds W R 1 ao 128 (bytes b)) :
  Does1 W Tryz.prog 151 [.pointer (some ⟨d, 0, none⟩), .int .i64 a, .slice ao 128 cap] (DiskR d k :: R) (.int .u16 0) (DiskR d (k.write a b) :: R) := by
 have hm : k.may a = 0 := by unfold DiskD.may; rw [hf, if_neg (by simp), if_neg (by omega)]
 obtain ⟨ad, rfl⟩ : ∃ ad, ao = some ad := by cases ao with | none => have := hr.nil rfl; omega | some ad => exact ⟨ad, rfl⟩
 (refine Does.enter Tryz.func151 Tryz.ntmps151 rfl rfl ?_)
 refine w ?_
 ((refine zq ?_; refine zd rfl rfl (may_ok d k a) ?_); intro _ _)
 refine w ?_
 (refine VC.condFe rfl rfl (by simp [hm]) ?_)
 refine w ?_
 refine VC.obtain (fun w => DiskR.open) ?_
 rintro ⟨⟨⟨lo, lc⟩, ⟨co, cc⟩, m⟩, hk⟩
 (refine VC.drawn [] 10 [0, 1, 2, 3, 4, 5, 6, 7, 8, 9, 10] _ rfl (by kernel_rfl) (by kernel_rfl) Ent.re ?_)
 dsimp only [DiskO]
 refine w ?_
 refine zq ?_
 refine OpV.mapUpdate Tryz.underlying213 Tryz.underlying3 rfl rfl rfl zh ?_
 refine w ?_
 (refine VC.drawn [10, 11] 12 [0, 1, 2, 3, 4, 5, 6, 7, 8, 9, 10, 11, 12, 13, 14] (Row d 216 [.slice lo k.last.length lc, .slice co k.cache.length cc, .map (some m), .bool k.failed] :: R) rfl (by kernel_rfl) (by kernel_rfl) Ent.re ?_)
 refine w ?_
 ((first | apply VO.pure rfl rfl | apply VQ.pure rfl rfl | apply VD.take rfl rfl rfl | (refine VD.end rfl rfl rfl ?_; apply OpV.pure)); exact PureAt.toArray Tryz.underlying219 rfl (Nat.le_refl 128); rfl)
 refine VD.re 34 (.pointer (some (ad.add 0))) rfl (by rw [Addr_add_zero]) ?_
 ((first | apply VO.pure rfl rfl | apply VQ.pure rfl rfl | apply VD.take rfl rfl rfl | (refine VD.end rfl rfl rfl ?_; apply OpV.pure)); exact .ldRA tab_ok rfl rfl (hr.ent (Reord.ent (Reord.drop .refl))) (show ((bytes b).drop 0).take 128 = bytes b from List.take_of_length_le (by simp [hb])) (by simp [hb]); rfl)
 ((first | apply VO.pure rfl rfl | apply VQ.pure rfl rfl | apply VD.take rfl rfl rfl | (refine VD.end rfl rfl rfl ?_; apply OpV.pure)); exact PureAt.build sb_write rfl (build_write a (bytes b) (by simp [hb])); rfl)
 refine zq ?_
 refine OpV.buildSlice (vs := [.agg (wCells (a, b)).toArray]) (cs := wCells (a, b)) st_writes rfl rfl (by simp [Value.cells, wCells, hb]) (by simp [Value.cells]) (by decide) rfl ?_
 intro nb
 refine ⟨Ent.re, ?_⟩
 refine zq ?_
 refine OpV.appendRow st_writes rfl rfl zh zm (by simp [wCells, hb]) (wCells_one (a, b)) ?_ ?_ rfl ?_
 · simp only [maxLen]; omega
 · omega
 intro co' cc'
 refine ⟨Ent.re, ?_⟩
 refine w ?_
 refine VE.done1 rfl ?_ ?_
 · rfl
 ·
  refine Ent.trans ?_ (DiskR.shut (x := ((lo, lc), (co', cc'), m)) (DiskD.write_okk hk ha hb))
  have e1 : (k.write a b).cache = k.cache ++ [(a, b)] := rfl
  have e2 : (k.write a b).last = k.last := rfl
  have e3 : (k.write a b).failed = k.failed := rfl
  simp only [DiskO, e1, e2, e3, seenOf_snoc, List.flatMap_append, List.flatMap_singleton, List.length_append, List.length_singleton, List.set_cons_zero, List.set_cons_succ]
  exact Ent.re
def sets (keep : Nat -> Bool) : List (List UInt8) -> Nat -> List (Nat × List UInt8) -> List (List UInt8)
  | last, _, [] => last
  | last, i, c :: r => sets keep (if keep i then last.set c.1 c.2 else last) (i + 1) r
theorem sets_snoc (keep : Nat -> Bool) (c : Nat × List UInt8) : ∀ (l : List (Nat × List UInt8)) (last : List (List UInt8)) (i : Nat), sets keep last i (l ++ [c]) = if keep (i + l.length) then (sets keep last i l).set c.1 c.2 else sets keep last i l
  | [], last, i => by simp [sets]
  | x :: r, last, i => by
    rw [List.cons_append, sets, sets_snoc keep c r, sets, List.length_cons, show i + 1 + r.length = i + (r.length + 1) by omega]
theorem sets_length (keep : Nat -> Bool) : ∀ (l : List (Nat × List UInt8)) (last : List (List UInt8)) (i : Nat), (sets keep last i l).length = last.length
 | [], _, _ => rfl
 | x :: r, last, i => by rw [sets, sets_length keep r]; split <;> simp
theorem sets_128 (keep : Nat -> Bool) : ∀ (l : List (Nat × List UInt8)) (last : List (List UInt8)) (i : Nat), (∀ b ∈ last, b.length = 128) -> (∀ c ∈ l, c.2.length = 128) -> ∀ b ∈ sets keep last i l, b.length = 128
  | [], _, _, h, _, b, hb => h b hb
  | x :: r, last, i, h, hc, b, hb => by
    rw [sets] at hb
    refine sets_128 keep r _ _ (fun y hy => ?_) (fun c h => hc c (.tail _ h)) b hb
    split at hy
    · rcases List.mem_or_eq_of_mem_set hy with q | q
      · exact h y q
      · subst q; exact hc x (.head _)
    · exact h y hy
theorem store_all (zs vs : List Value) (n : Nat) (h : zs.length = n) : zs.take 0 ++ vs ++ zs.drop (0 + n) = vs := by simp [<- h]
def DiskD.settle (k : DiskD) (keep : Nat -> Bool) : DiskD := ⟨sets keep k.last 0 k.cache, [], k.failed⟩
theorem DiskD.settle_okk {k : DiskD} {keep : Nat -> Bool} (hk : k.ok) : (k.settle keep).ok :=
 ⟨sets_128 keep _ _ _ hk.last (fun c h => (hk.cache c h).2), fun c h => absurd h (by simp [DiskD.settle]), by unfold DiskD.settle; rw [sets_length]; exact hk.size⟩
theorem caches_one (l : List (Nat × List UInt8)) : ∀ u ∈ l.flatMap wCells, u.oneCell' = true := by
 intro u hu; obtain ⟨c, _, h⟩ := List.mem_flatMap.1 hu; exact wCells_one c u h
theorem lasts_one (l : List (List UInt8)) : ∀ u ∈ l.flatMap bytes, u.oneCell' = true := by
 intro u hu; obtain ⟨c, _, h⟩ := List.mem_flatMap.1 hu; exact bytes_one c u h
theorem settle_ok {g : FuncId} {cp : Array Value} {keep : Nat -> Bool} (d : Nat) (k : DiskD) (hcf : ∀ a w, (callFunc g a).run Tryz.prog w = .ok (.enter g a) w)
  (hkeep : ∀ (i : Nat) (X : List SProp), Does1 W Tryz.prog g (.int .i64 i :: cp.toList) (X ++ R) (.bool (keep i)) (X ++ R)) :
  Does1 W Tryz.prog 109 [.pointer (some ⟨d, 0, none⟩), .func (.func g) #[] cp] (DiskR d k :: R) (.tuple #[]) (DiskR d (k.settle keep) :: R) := by
 (refine Does.enter Tryz.func109 Tryz.ntmps109 rfl rfl ?_)
 refine VC.obtain (fun w => DiskR.open) ?_
 rintro ⟨⟨⟨lo, lc⟩, ⟨co, cc⟩, m⟩, hk⟩
 dsimp only [DiskO]
 refine VC.know (fun w hw => hw.ownNone zm : ∀ w, _ -> (co = none -> k.cache.length = 0)) ?_
 intro hcn
 refine VC.know (fun w hw => hw.ownNone zm : ∀ w, _ -> (lo = none -> k.last.length = 0)) ?_
 intro hln
 refine VC.know (fun w hw => hw.ownMax (show Own 261 129 (.slice co k.cache.length cc) k.cache.length (k.cache.flatMap wCells) ∈ _ by (focus repeat first | exact .head _ | apply List.Mem.tail)) : ∀ w, _ -> k.cache.length <= maxLen) ?_
 intro hmax
 simp only [maxLen] at hmax
 refine w ?_
 refine VC.loop (α := Nat) (fun i => i <= k.cache.length)
  (fun i => Row d 216 [.slice lo k.last.length lc, .slice co k.cache.length cc, .map (some m), .bool k.failed] :: Own 219 128 (.slice lo k.last.length lc) k.last.length ((sets keep k.last 0 (k.cache.take i)).flatMap bytes) ::
   Own 261 129 (.slice co k.cache.length cc) k.cache.length (k.cache.flatMap wCells) :: MapR m (seenOf k.cache) :: R)
  (fun i => [(0, .pointer (some ⟨d, 0, none⟩)), (1, .func (.func g) #[] cp), (9, .slice co k.cache.length cc), (10, .int .i64 k.cache.length), (11, .int .i64 i)]) (fun i => k.cache.length - i) rfl 0 (Nat.zero_le _) Ent.refl ⟨rfl, rfl, rfl, rfl, rfl, trivial⟩ ?_
 intro i hi
 refine w ?_
 refine zk ?_ ?_ <;> intro hc
 ·
  have hlt : i < k.cache.length := by have := of_decide_eq_true hc; omega
  obtain ⟨a, rfl⟩ : ∃ a, co = some a := by cases co with | none => have := hcn rfl; omega | some a => exact ⟨a, rfl⟩
  obtain ⟨hw1, hw2⟩ := hk.cache k.cache[i] (List.getElem_mem hlt)
  obtain ⟨b, rfl⟩ : ∃ b, lo = some b := by cases lo with | none => have := hln rfl; omega | some b => exact ⟨b, rfl⟩
  have hpart := flat_part (g := wCells) (w := 129) k.cache i hlt (fun c h => wCells_length (hk.cache c h).2)
  refine w ?_
  ((first | apply VO.pure rfl rfl | apply VQ.pure rfl rfl | apply VD.take rfl rfl rfl | (refine VD.end rfl rfl rfl ?_; apply OpV.pure)); exact .ldRA tab_ok rfl rfl (Rds.own (caches_one _) zm (flat_length _ (fun c h => wCells_length (hk.cache c h).2)) hcn) hpart (wCells_length hw2); rfl)
  generalize hcc : k.cache[i] = c at *
  have hsn : sets keep k.last 0 (k.cache.take (i + 1)) = if keep i then (sets keep k.last 0 (k.cache.take i)).set c.1 c.2 else sets keep k.last 0 (k.cache.take i) := by
   rw [List.take_succ_eq_append_getElem hlt, sets_snoc, List.length_take, Nat.min_eq_left hi, Nat.zero_add, hcc]
  have hsl : (sets keep k.last 0 (k.cache.take i)).length = k.last.length := sets_length _ _ _ _
  have hs8 := sets_128 keep (k.cache.take i) k.last 0 hk.last (fun c h => (hk.cache c (List.mem_of_mem_take h)).2)
  generalize sets keep k.last 0 (k.cache.take i) = la at *
  refine zq ?_; refine OpV.allocS sb_write rfl ?_; intro na
  refine w ?_
  refine zq ?_
  refine OpV.stA (vs := wCells c) tab_ok rfl rfl rfl (wCells_length hw2) (wCells_one _) zh (by rw [List.length_cons, List.length_replicate]; decide) ?_
  rw [store_all _ _ 129 (by rw [List.length_cons, List.length_replicate])]
  refine w ?_
  refine zq ?_
  refine OpV.call rfl rfl hcf (hkeep i [Row na 261 (wCells c), Row d 216 [.slice (some b) k.last.length lc, .slice (some a) k.cache.length cc, .map (some m), .bool k.failed], Own 219 128 (.slice (some b) k.last.length lc) k.last.length (la.flatMap bytes),
   Own 261 129 (.slice (some a) k.cache.length cc) k.cache.length (k.cache.flatMap wCells), MapR m (seenOf k.cache)]) Ent.refl rfl ?_
  intro _ _
  dsimp only [List.cons_append, List.nil_append]
  refine w ?_
  refine zk ?_ ?_ <;> intro hc
  ·
   have hkt : keep i = true := hc
   refine w ?_
   (refine VC.drawn [] 8 [0, 1, 2, 3, 4, 5, 6, 7, 8, 9] _ rfl (by kernel_rfl) (by kernel_rfl) Ent.re ?_)
   refine w ?_
   ((first | apply VO.pure rfl rfl | apply VQ.pure rfl rfl | apply VD.take rfl rfl rfl | (refine VD.end rfl rfl rfl ?_; apply OpV.pure)); exact PureAt.ldA tab_ok rfl rfl (.head _) (show ((wCells c).drop 1).take 128 = bytes c.2 from List.take_of_length_le (by rw [List.length_drop, wCells_length hw2]; decide)) (by simp [hw2]); rfl)
   refine w ?_
   refine zq ?_
   refine OpV.stOA (vs := bytes c.2) tab_ok rfl rfl rfl (by simp [hw2]) (bytes_one _) zh ?_ ?_
   · rw [flat_length (w := 128) _ (fun b h => by simp [hs8 b h]), hsl]; omega
   rw [flat_set (g := bytes) (w := 128) c.2 la c.1 (by omega) (fun b h => by simp [hs8 b h])]
   refine w ?_
   refine VE.round (i + 1) hlt (by omega) ⟨rfl, rfl, rfl, rfl, rfl, trivial⟩ ?_
   rw [hsn, if_pos hkt]
   exact Ent.re
  ·
   have hkt : ¬ keep i = true := by simpa using hc
   refine w ?_
   refine VE.round (i + 1) hlt (by omega) ⟨rfl, rfl, rfl, rfl, rfl, trivial⟩ ?_
   rw [hsn, if_neg hkt]
   exact Ent.re
 ·
  have hge : i = k.cache.length := by have := of_decide_eq_false hc; omega
  subst hge
  rw [List.take_of_length_le (Nat.le_refl k.cache.length)]
  refine w ?_
  refine zq ?_
  refine OpV.clearMap Tryz.underlying213 rfl zh ?_
  refine w ?_
  (refine VE.done1N rfl ?_ ?_)
  · rfl
  ·
   intro w hw
   refine DiskR.shut (k := k.settle keep) (x := ((lo, lc), (none, 0), m)) (DiskD.settle_okk hk) w ((hw.ownNil 261 129).reord ?_)
   have e1 : (k.settle keep).cache = [] := rfl
   have e2 : (k.settle keep).last = sets keep k.last 0 k.cache := rfl
   have e3 : (k.settle keep).failed = k.failed := rfl
   simp only [DiskO, e1, e2, e3, seenOf_nil, sets_length, List.flatMap_nil, List.length_nil, List.set_cons_zero, List.set_cons_succ]
   (repeat first | exact .refl | (apply Reord.cons; focus repeat first | exact .head | apply Del.tail) | exact .nil | apply Reord.drop)
theorem Ent.dropAll : ∀ X : List SProp, Ent W (X ++ R) R
 | [] => Ent.refl
 | _ :: r => Ent.drop (Ent.dropAll r)
theorem flushf_ok (i : Nat) : Does1 W Tryz.prog 211 [.int .i64 i] R (.bool true) R := by
 (refine Does.enter Tryz.func211 Tryz.ntmps211 rfl rfl ?_)
 refine w ?_
 (first | exact VE.done1 rfl rfl Ent.refl | exact VE.done1N rfl rfl Ent.refl)
theorem failf_ok (i : Nat) : Does1 W Tryz.prog 251 [.int .i64 i] R (.bool false) R := by
 (refine Does.enter Tryz.func251 Tryz.ntmps251 rfl rfl ?_)
 refine w ?_
 (first | exact VE.done1 rfl rfl Ent.refl | exact VE.done1N rfl rfl Ent.refl)
def bools (l : List Bool) : List Value := l.map .bool
@[simp] theorem bools_length (l : List Bool) : (bools l).length = l.length := by simp [bools]
theorem bools_one (l : List Bool) : ∀ u ∈ bools l, u.oneCell' = true := by
 intro u hu; obtain ⟨c, _, rfl⟩ := List.mem_map.1 hu; rfl
def keepOf (l : List Bool) (i : Nat) : Bool := l.getD i false
theorem crashf_ok {ao : Option Addr} {n cap bx : Nat} {l : List Bool} (i : Nat) (hm : Row bx 115 [.slice ao n cap] ∈ R) (hr : Rds W R 1 ao n (bools l)) :
  Does1 W Tryz.prog 110 [.int .i64 i, .pointer (some ⟨bx, 0, none⟩)] R (.bool (keepOf l i)) R := by
 have hl : l.length = n := by have := hr.len; simpa using this
 (refine Does.enter Tryz.func110 Tryz.ntmps110 rfl rfl ?_)
 refine w ?_
 refine VO.pure rfl rfl (PureAt.ld tab_ok rfl rfl hm rfl) rfl ?_
 refine w ?_
 refine zg ?_ ?_ <;> intro hb
 ·
  have hlt : i < n := by have := of_decide_eq_true hb; omega
  obtain ⟨a, rfl⟩ : ∃ a, ao = some a := by cases ao with | none => have := hr.nil rfl; omega | some a => exact ⟨a, rfl⟩
  refine VO.pure rfl rfl (PureAt.ld tab_ok rfl rfl hm rfl) rfl ?_
  refine w ?_
  refine VO.pure rfl rfl (PureAt.ldR tab_ok rfl rfl hr (show (bools l)[i]? = some (.bool (keepOf l i)) by simp [bools, keepOf, hl, hlt])) rfl ?_
  refine w ?_
  (first | exact VE.done1 rfl rfl Ent.refl | exact VE.done1N rfl rfl Ent.refl)
 ·
  have hge : n <= i := by have := of_decide_eq_false hb; omega
  refine w ?_
  refine VE.done1 rfl ?_ ?_
  · simp [keepOf, hl, hge]
  · exact Ent.refl
theorem flush_ok (d : Nat) (k : DiskD) (hf : k.failed = false) :
  Does1 W Tryz.prog 146 [.pointer (some ⟨d, 0, none⟩)] (DiskR d k :: R) (.int .u16 0) (DiskR d (k.settle fun _ => true) :: R) := by
 (refine Does.enter Tryz.func146 Tryz.ntmps146 rfl rfl ?_)
 refine VC.obtain (fun w => DiskR.open) ?_
 rintro ⟨⟨⟨lo, lc⟩, ⟨co, cc⟩, m⟩, hk⟩
 refine w ?_
 (refine VC.condFe rfl rfl (hf) ?_)
 refine VC.ent (DiskR.shut hk) ?_
 refine w ?_
 ((refine zq ?_; refine zd rfl rfl (settle_ok (cp := #[]) d k (fun _ _ => by simp) (fun i X => flushf_ok i)) ?_); intro _ _)
 refine w ?_
 refine VE.done1 rfl ?_ ?_
 · rfl
 · exact Ent.refl
theorem flush_bad (d : Nat) (k : DiskD) (hf : k.failed = true) :
  Does1 W Tryz.prog 146 [.pointer (some ⟨d, 0, none⟩)] (DiskR d k :: R) (.int .u16 2) (DiskR d k :: R) := by
 (refine Does.enter Tryz.func146 Tryz.ntmps146 rfl rfl ?_)
 refine VC.obtain (fun w => DiskR.open) ?_
 rintro ⟨⟨⟨lo, lc⟩, ⟨co, cc⟩, m⟩, hk⟩
 refine w ?_
 (refine VC.condTe rfl rfl (hf) ?_)
 refine w ?_
 refine VE.done1 rfl ?_ ?_
 · rfl
 · exact DiskR.shut hk
theorem fail_ok (d : Nat) (k : DiskD) :
  Does1 W Tryz.prog 221 [.pointer (some ⟨d, 0, none⟩)] (DiskR d k :: R) (.tuple #[]) (DiskR d ((DiskD.mk k.last k.cache true).settle fun _ => false) :: R) := by
 (refine Does.enter Tryz.func221 Tryz.ntmps221 rfl rfl ?_)
 refine VC.obtain (fun w => DiskR.open) ?_
 rintro ⟨⟨⟨lo, lc⟩, ⟨co, cc⟩, m⟩, hk⟩
 dsimp only [DiskO]
 refine w ?_
 refine VO.ent (DiskR.shut (k := ⟨k.last, k.cache, true⟩) (x := ((lo, lc), (co, cc), m)) ⟨hk.last, hk.cache, hk.size⟩) ?_
 ((refine zq ?_; refine zd rfl rfl (settle_ok (cp := #[]) d ⟨k.last, k.cache, true⟩ (fun _ _ => by simp) (fun i X => failf_ok i)) ?_); intro _ _)
 refine w ?_
 (refine VE.done1N rfl ?_ ?_)
 · rfl
 · exact Ent.refl
theorem crash_ok {ao : Option Addr} {n cap : Nat} {l : List Bool} (d : Nat) (k : DiskD) (hr : Rds W R 1 ao n (bools l)) :
  Does1 W Tryz.prog 52 [.pointer (some ⟨d, 0, none⟩), .slice ao n cap] (DiskR d k :: R) (.tuple #[]) (DiskR d (k.settle (keepOf l)) :: R) := by
 (refine Does.enter Tryz.func52 Tryz.ntmps52 rfl rfl ?_)
 refine w ?_; repeat (refine zj fun _ => ?_; refine w ?_)
 rename_i bx
 refine VO.pure rfl rfl (PureAt.makeFunc1 rfl) rfl ?_
 ((refine zq ?_; refine zd rfl rfl (settle_ok (R := Row bx 115 [.slice ao n cap] :: R) (cp := #[.pointer (some ⟨bx, 0, none⟩)]) d k (fun _ _ => by simp) (fun i X => crashf_ok i (List.mem_append_right _ (.head _)) (hr.ent ((Ent.dropAll X).trans (Ent.drop Ent.refl))))) ?_); intro _ _)
 refine w ?_; repeat (refine zj fun _ => ?_; refine w ?_)
 (refine VE.done1N rfl ?_ ?_)
 · rfl
 · exact Ent.re
theorem lastR_some : ∀ (r : List (Nat × List UInt8)) (a i : Int), lastR r a = some i -> ∃ j c, i = ((j : Nat) : Int) /\ j < r.length /\ r.reverse[j]? = some c /\ a = ((c.1 : Nat) : Int)
  | [], _, _, h => by cases h
  | c :: r, a, i, h => by
    unfold lastR at h
    split at h
    · rename_i e
      cases h
      exact ⟨r.length, c, rfl, by simp, by rw [List.reverse_cons, List.getElem?_append_right (by simp)]; simp, e⟩
    · obtain ⟨j, c', h1, h2, h3, h4⟩ := lastR_some r a i h
      exact ⟨j, c', h1, by simp; omega, by rw [List.reverse_cons, List.getElem?_append_left (by simpa using h2)]; exact h3, h4⟩
theorem seenOf_some {c : List (Nat × List UInt8)} {a i : Int} (h : seenOf c a = some i) : ∃ j x, i = ((j : Nat) : Int) /\ j < c.length /\ c[j]? = some x /\ a = ((x.1 : Nat) : Int) := by
 obtain ⟨j, x, h1, h2, h3, h4⟩ := lastR_some _ a i h
 exact ⟨j, x, h1, by simpa using h2, by simpa using h3, h4⟩
def DiskD.look (k : DiskD) (a : Nat) : List UInt8 := match seenOf k.cache (a : Int) with
  | some i => ((k.cache[i.toNat]?).map (·.2)).getD []
  | none => (k.last[a]?).getD []
theorem DiskD.look_clean {k : DiskD} (h : k.cache = []) (a : Nat) : k.look a = (k.last[a]?).getD [] := by
 unfold DiskD.look; rw [h]; rfl
theorem DiskD.look_128 {k : DiskD} (hk : k.ok) {a : Nat} (ha : a < k.last.length) : (k.look a).length = 128 := by
 unfold DiskD.look
 split
 ·
  rename_i i h
  obtain ⟨j, x, rfl, h2, h3, h4⟩ := seenOf_some h
  rw [Int.toNat_natCast, h3]
  exact (hk.cache x (List.mem_of_getElem? h3)).2
 ·
  rw [List.getElem?_eq_getElem ha]
  exact hk.last _ (List.getElem_mem ha)
theorem cache_part {l : List (Nat × List UInt8)} (j : Nat) (x : Nat × List UInt8) (h : l[j]? = some x) (hl : ∀ c ∈ l, c.2.length = 128) : ((l.flatMap wCells).drop (j * 129 + 1)).take 128 = bytes x.2 := by
 obtain ⟨hj, rfl⟩ := List.getElem?_eq_some_iff.1 h
 have := flat_part (g := wCells) (w := 129) l j hj (fun c h => wCells_length (hl c h))
 rw [<- List.drop_drop, List.take_drop, show 1 + 128 = 129 from rfl, this]
 rfl
theorem dread_bad (d : Nat) (k : DiskD) (at_ : Int) (h : k.may at_ ≠ 0) :
  Does1 W Tryz.prog 121 [.pointer (some ⟨d, 0, none⟩), .int .i64 at_] (DiskR d k :: R) (.tuple #[.slice none 0 0, .int .u16 (k.may at_)]) (DiskR d k :: R) := by
 (refine Does.enter Tryz.func121 Tryz.ntmps121 rfl rfl ?_)
 refine w ?_
 ((refine zq ?_; refine zd rfl rfl (may_ok d k at_) ?_); intro _ _)
 refine w ?_
 (refine VC.condTe rfl rfl (by simpa using h) ?_)
 refine w ?_
 refine VE.done1 rfl ?_ ?_
 · rfl
 · exact Ent.refl
theorem dread_ok (d : Nat) (k : DiskD) (a : Nat) (hf : k.failed = false) (ha : a < k.last.length) :
    Does W Tryz.prog 121 [.pointer (some ⟨d, 0, none⟩), .int .i64 a] (DiskR d k :: R) (β := Addr × Nat) (fun _ => True) (fun x => .tuple #[.slice (some x.1) 128 x.2, .int .u16 0])
      (fun x => Own 5 1 (.slice (some x.1) 128 x.2) 128 (bytes (k.look a)) :: DiskR d k :: R) := by
  have hm : k.may a = 0 := by unfold DiskD.may; rw [hf, if_neg (by simp), if_neg (by omega)]
  (refine Does.enter Tryz.func121 Tryz.ntmps121 rfl rfl ?_)
  refine w ?_
  ((refine zq ?_; refine zd rfl rfl (may_ok d k a) ?_); intro _ _)
  refine w ?_
  (refine VC.condFe rfl rfl (by simp [hm]) ?_)
  refine w ?_
  refine VO.obtain (fun w => DiskR.open) ?_
  rintro ⟨⟨⟨lo, lc⟩, ⟨co, cc⟩, m⟩, hk⟩
  dsimp only [DiskO]
  refine VO.know (fun w hw => hw.ownNone zm : ∀ w, _ -> (co = none -> k.cache.length = 0)) ?_
  intro hcn
  refine VO.know (fun w hw => hw.ownNone zm : ∀ w, _ -> (lo = none -> k.last.length = 0)) ?_
  intro hln
  obtain ⟨b, rfl⟩ : ∃ b, lo = some b := by cases lo with | none => have := hln rfl; omega | some b => exact ⟨b, rfl⟩
  have h8 : ∀ x ∈ k.last, (bytes x).length = 128 := fun x h => by simp [hk.last x h]
  have hla : k.last[a].length = 128 := hk.last _ (List.getElem_mem ha)
  refine w ?_
  refine VO.pure rfl rfl (.ldRA tab_ok rfl rfl (Rds.own (lasts_one _) zm (flat_length _ h8) hln) (flat_part (g := bytes) k.last a ha h8) (by simp [hla])) rfl ?_
  refine zq ?_
  refine OpV.allocE st_sectors (cs := List.replicate 128 zb) rfl rfl ?_
  intro na
  refine zq ?_
  refine OpV.stA (vs := bytes k.last[a]) tab_ok rfl rfl rfl (by simp [hla]) (bytes_one _) zh (by rw [List.length_replicate]; decide) ?_
  rw [store_all _ _ 128 (by rw [List.length_replicate])]
  refine w ?_
  refine VO.pure rfl rfl (PureAt.lookup Tryz.underlying213 Tryz.underlying3 (fun w => by simp) rfl rfl zm) rfl ?_
  refine w ?_
  (first | refine VO.join (α := Nat) (fun _ => True) (fun _ => Row na 219 (bytes (k.look a)) :: DiskO d k ((some b, lc), (co, cc), m) R) (fun _ => [(7, .pointer (some ⟨na, 0, none⟩))]) ?_ ?_ | refine VC.joinTB (α := Nat) (fun _ => True) (fun _ => Row na 219 (bytes (k.look a)) :: DiskO d k ((some b, lc), (co, cc), m) R) (fun _ => [(7, .pointer (some ⟨na, 0, none⟩))]) ?_ ?_ | refine VC.joinB (α := Nat) (fun _ => True) (fun _ => Row na 219 (bytes (k.look a)) :: DiskO d k ((some b, lc), (co, cc), m) R) (fun _ => [(7, .pointer (some ⟨na, 0, none⟩))]) ?_ ?_ | refine VC.join (α := Nat) (fun _ => True) (fun _ => Row na 219 (bytes (k.look a)) :: DiskO d k ((some b, lc), (co, cc), m) R) (fun _ => [(7, .pointer (some ⟨na, 0, none⟩))]) ?_ ?_)
  · intro Q2 jn
    cases hs : seenOf k.cache (a : Int) with
    | none =>
      (refine VC.condFe rfl rfl (rfl) ?_)
      have hlk : k.look a = k.last[a] := by unfold DiskD.look; rw [hs, List.getElem?_eq_getElem ha]; rfl
      rw [hlk] at jn
      refine w ?_
      (refine jn.to 0 trivial ⟨rfl, trivial⟩ ?_; (try dsimp only); exact Ent.re)
    | some i =>
      obtain ⟨j, x, rfl, hj, hx, hax⟩ := seenOf_some hs
      obtain ⟨c, rfl⟩ : ∃ c, co = some c := by cases co with | none => have := hcn rfl; omega | some c => exact ⟨c, rfl⟩
      have hx2 : x.2.length = 128 := (hk.cache x (List.mem_of_getElem? hx)).2
      have hlk : k.look a = x.2 := by unfold DiskD.look; rw [hs]; simp [hx]
      rw [hlk] at jn
      (refine VC.condTe rfl rfl (rfl) ?_)
      refine w ?_
      refine VO.pure rfl rfl (.ldRA tab_ok rfl rfl (Rds.own (caches_one _) zm (flat_length _ (fun c h => wCells_length (hk.cache c h).2)) hcn) (cache_part j x hx (fun c h => (hk.cache c h).2)) (by simp [hx2])) rfl ?_
      refine zq ?_
      refine OpV.stA (vs := bytes x.2) tab_ok rfl rfl rfl (by simp [hx2]) (bytes_one _) zh (by simp [hla]) ?_
      rw [store_all _ _ 128 (by simp [hla])]
      refine w ?_
      (refine jn.to 0 trivial ⟨rfl, trivial⟩ ?_; (try dsimp only); exact Ent.re)
  · intro _ _
    have hl8 := DiskD.look_128 hk ha
    refine w ?_
    refine VO.pure rfl rfl (PureAt.sliceArr (sz := 1) Tryz.underlying219 (by decide) (fun w => by simp) rfl) rfl ?_
    refine VO.re 41 (.slice (some ⟨na, 0, none⟩) 128 128) rfl (by rw [Addr_add_zero]) ?_
    refine VO.ent (fun w hw => DiskR.shut hk w (hw.reord (L := DiskO d k ((some b, lc), (co, cc), m) (Row na 219 (bytes (k.look a)) :: R)) (by (repeat first | exact .refl | (apply Reord.cons; focus repeat first | exact .head | apply Del.tail) | exact .nil | apply Reord.drop)))) ?_
    (refine zq ?_; refine zd rfl rfl (clone_ok (Rds.row (H := DiskR d k :: Row na 219 (bytes (k.look a)) :: R) (bytes_one _) (.tail _ (.head _)) (by simp [hl8])) (by decide)) ?_)
    rintro ⟨ao', cap'⟩ -
    refine VO.know (fun w hw => hw.ownNone zm : ∀ w, _ -> (ao' = none -> 128 = 0)) ?_
    intro hn
    obtain ⟨a', rfl⟩ : ∃ a', ao' = some a' := by cases ao' with | none => have := hn rfl; omega | some a' => exact ⟨a', rfl⟩
    refine w ?_
    exact VE.done (a', cap') rfl trivial rfl Ent.re
theorem Rds.part {H : List SProp} {sz m j : Nat} {a : Addr} {xs : List Value} (r : Rds W H sz (some a) m xs) (hj : j < m) : Rds W H 1 (some (a.add (j * sz))) sz ((xs.drop (j * sz)).take sz) := by
 have hl := r.len
 have : j * sz + sz <= m * sz := by rw [<- Nat.succ_mul]; exact Nat.mul_le_mul_right _ hj
 refine ⟨by rw [List.length_take, List.length_drop]; omega, fun u hu => r.one u (List.mem_of_mem_drop (List.mem_of_mem_take hu)), fun h => (by cases h), fun w hw a' ha i v hv => ?_⟩
 cases ha
 rw [Addr_add_add]
 refine r.cell w hw a rfl _ _ ?_
 rw [List.getElem?_take] at hv
 split at hv
 · rw [List.getElem?_drop] at hv; exact hv
 · cases hv
theorem image_bad (d : Nat) (k : DiskD) (hf : k.failed = true) :
  Does1 W Tryz.prog 117 [.pointer (some ⟨d, 0, none⟩)] (DiskR d k :: R) (.slice none 0 0) (DiskR d k :: R) := by
 (refine Does.enter Tryz.func117 Tryz.ntmps117 rfl rfl ?_)
 refine VC.obtain (fun w => DiskR.open) ?_
 rintro ⟨⟨⟨lo, lc⟩, ⟨co, cc⟩, m⟩, hk⟩
 refine w ?_
 (refine VC.condTe rfl rfl (hf) ?_)
 refine w ?_
 refine VE.done1 rfl ?_ ?_
 · rfl
 · exact DiskR.shut hk
theorem image_ok (d : Nat) (k : DiskD) (hf : k.failed = false) :
  Does W Tryz.prog 117 [.pointer (some ⟨d, 0, none⟩)] (DiskR d k :: R) (β := Option Addr × Nat) (fun _ => True) (fun x => .slice x.1 (k.last.length * 128) x.2)
   (fun x => Own 5 1 (.slice x.1 (k.last.length * 128) x.2) (k.last.length * 128) (bytes k.last.flatten) :: DiskR d k :: R) := by
 (refine Does.enter Tryz.func117 Tryz.ntmps117 rfl rfl ?_)
 refine VC.obtain (fun w => DiskR.open) ?_
 rintro ⟨⟨⟨lo, lc⟩, ⟨co, cc⟩, m⟩, hk⟩
 dsimp only [DiskO]
 refine VC.know (fun w hw => hw.ownNone (show Own 219 128 (.slice lo k.last.length lc) k.last.length _ ∈ _ by (focus repeat first | exact .head _ | apply List.Mem.tail)) : ∀ w, _ -> (lo = none -> k.last.length = 0)) ?_
 intro hln
 have h8 : ∀ x ∈ k.last, (bytes x).length = 128 := fun x h => by simp [hk.last x h]
 have hsz := hk.size
 refine w ?_
 (refine VC.condFe rfl rfl (hf) ?_)
 refine w ?_
 refine VO.re 14 (.int .i64 ((k.last.length * 128 : Nat) : Int)) rfl (by congr 1) ?_
 refine zq ?_
 refine OpV.makeCap (m := k.last.length * 128) st_22 rfl rfl ?_ ?_ rfl ?_
 · omega
 · simp only [maxLen]; omega
 intro nb
 refine w ?_
 refine VC.loop (α := Nat × Option Addr × Nat) (fun g => g.1 <= k.last.length)
  (fun g => Own 5 1 (.slice g.2.1 (g.1 * 128) g.2.2) (g.1 * 128) (bytes (k.last.take g.1).flatten) :: DiskO d k ((lo, lc), (co, cc), m) R)
  (fun g => [(0, .pointer (some ⟨d, 0, none⟩)), (3, .slice g.2.1 (g.1 * 128) g.2.2), (20, .int .i64 k.last.length), (21, .int .i64 g.1)]) (fun g => k.last.length - g.1) rfl (0, some ⟨nb, 0, none⟩, k.last.length * 128) (Nat.zero_le _) Ent.re ⟨rfl, rfl, rfl, rfl, trivial⟩ ?_
 rintro ⟨i, ao, cap⟩ hi
 have hi : i <= k.last.length := hi
 dsimp only [DiskO]
 refine w ?_
 refine zk ?_ ?_ <;> intro hc
 ·
  have hlt : i < k.last.length := by have := of_decide_eq_true hc; omega
  obtain ⟨b, rfl⟩ : ∃ b, lo = some b := by cases lo with | none => have := hln rfl; omega | some b => exact ⟨b, rfl⟩
  have hla : k.last[i].length = 128 := hk.last _ (List.getElem_mem hlt)
  have hp := flat_part (g := bytes) k.last i hlt h8
  refine w ?_
  refine VO.pure rfl rfl (PureAt.sliceArr (sz := 1) Tryz.underlying219 (by decide) (fun w => by simp) rfl) rfl ?_
  refine VO.re 31 (.slice (some (b.add (i * 128))) 128 128) rfl (by rw [Addr_add_zero]) ?_
  refine zq ?_
  refine OpV.append st_22 rfl rfl .head (fun w hw => ((Rds.part (Rds.own (W := W) (H := DiskO d k ((some b, lc), (co, cc), m) R) (lasts_one _) (.tail _ (.head _)) (flat_length _ h8) hln) hlt).sees (cap := 128) hw.tail).src st_22.und) (by simp only [maxLen]; omega) (by omega) rfl ?_
  intro ao' cap'
  rw [hp, show i * 128 + 128 = (i + 1) * 128 by omega]
  have e : bytes (k.last.take i).flatten ++ bytes k.last[i] = bytes (k.last.take (i + 1)).flatten := by
   rw [<- bytes_append, List.take_succ_eq_append_getElem hlt, List.flatten_append]; simp
  rw [e]
  refine w ?_
  exact VE.round (i + 1, ao', cap') hlt (by simp only; omega) ⟨rfl, rfl, rfl, rfl, trivial⟩ Ent.refl
 ·
  have hge : i = k.last.length := by have := of_decide_eq_false hc; omega
  subst hge
  rw [List.take_of_length_le (Nat.le_refl k.last.length)]
  refine w ?_
  refine VE.done (ao, cap) rfl trivial rfl ?_
  exact fun w hw => (DiskR.shut hk w (hw.reord (L := DiskO d k ((lo, lc), (co, cc), m) (Own 5 1 (.slice ao (k.last.length * 128) cap) (k.last.length * 128) (bytes k.last.flatten) :: R)) (by (repeat first | exact .refl | (apply Reord.cons; focus repeat first | exact .head | apply Del.tail) | exact .nil | apply Reord.drop)))).swap
def ints (l : List Nat) : List Value := l.map fun (n : Nat) => Value.int .i64 (n : Int)
theorem ints_one (l : List Nat) : ∀ u ∈ ints l, u.oneCell' = true := by
 intro u hu; obtain ⟨c, _, rfl⟩ := List.mem_map.1 hu; rfl
@[simp] theorem ints_length (l : List Nat) : (ints l).length = l.length := by simp [ints]
theorem OpV.copyPart {P : Program} {n : Nat} {Q : Exit -> Act -> World -> Prop} {H : List SProp} {f : Fr} {d : Nat} {ty_ : TypeId} {pos : String} {after : Array Edge} {guard : Option (Nat × Bool)}
  {s x : Operand} {t tx e' e : TypeId} {z : Value} {by_ sz m k cap m' cap' j : Nat} {a : Addr} {vx : Value} {xs news : List Value} {C : SProp -> List SProp} {N : List SProp -> Fr -> Prop} (st : SliceT P t e' z 1 by_) (hs : evalX f s = some (.slice (some (a.add j)) m' cap')) (hx : evalX f x = some vx)
  (u : Hole H (Own e sz (.slice (some a) m cap) m xs) C) (hj : j + min k m' <= xs.length) (hsrc : ∀ w, Holds W H w -> Sees w 1 vx k news) (hd : Nat.blt d n = true)
  (h : N (C (Own e sz (.slice (some a) m cap) m (xs.take j ++ news.take (min k m') ++ xs.drop (j + min k m')))) ((d, .int .i64 ((min k m' : Nat) : Int)) :: f)) :
  OpV W P n { dst := some d, op := .call { callee := .builtin .copy, args := #[s, x], argTypes := #[t, tx] }, type := ty_, pos, after, guard } Q H f N := by
 refine OpV.run (α := Unit) (v := fun _ => .int .i64 ((min k m' : Nat) : Int)) (G := fun _ => C (Own e sz (.slice (some a) m cap) m (xs.take j ++ news.take (min k m') ++ xs.drop (j + min k m')))) hd (fun tm w hk hw => ?_) (fun _ => h)
 obtain ⟨R, p, q⟩ := u.perm
 have hsee := hsrc w hw
 obtain ⟨hl, hv⟩ := (hw.perm p).ownOpen
 rcases hv with ⟨he, rfl, hR⟩ | ⟨b, cap0, spare, he, hn, hm, hc, hR⟩
 · cases he
 ·
  cases he
  rw [Addr.add_lit, Nat.zero_add] at hs
  have hfit : j + min k m' * 1 <= (xs ++ spare).length := by rw [List.length_append]; omega
  obtain ⟨w', hr, h2⟩ := Holds.copyRow (ty := ty_) (tx := tx) (cap := cap') (m := m') st hR .head hfit hsee
  refine ⟨(), w', ?_, ?_⟩
  ·
   unfold execOp
   simp only [resolve, invoke, builtin, Sem.run_bind, Sem.run_pure, Result.andThen_ok, List.map_toArray, List.map_cons, List.map_nil, hk.eval hs, hk.eval hx, hr]
  ·
   refine Holds.perm (q _) ?_
   rw [Nat.mul_one] at h2
   have hnl : (news.take (min k m')).length = min k m' := by
    rw [List.length_take, hsee.len]; omega
   have e9 : (xs ++ spare).take j ++ news.take (min k m') ++ (xs ++ spare).drop (j + min k m') = (xs.take j ++ news.take (min k m') ++ xs.drop (j + min k m')) ++ spare := by
    rw [List.take_append_of_le_length (by omega), List.drop_append_of_le_length (by omega)]; simp
   rw [e9] at h2
   refine Holds.ownShut ?_ hn hm ?_ h2
   · simp only [List.length_append, List.length_take, List.length_drop, hl, hnl] at *; omega
   · rw [<- hc]; simp only [List.length_append, List.length_take, List.length_drop, hl, hnl] at *; omega
def chunks (l : List UInt8) (n : Nat) : List (List UInt8) := (List.range n).map fun i => (l.drop (i * 128)).take 128
theorem chunks_length (l : List UInt8) (n : Nat) : (chunks l n).length = n := by simp [chunks]
theorem chunks_128 {l : List UInt8} {n : Nat} (h : l.length = n * 128) : ∀ b ∈ chunks l n, b.length = 128 := by
 intro b hb
 obtain ⟨i, hi, rfl⟩ := List.mem_map.1 hb
 have := List.mem_range.1 hi
 rw [List.length_take, List.length_drop]; omega
def laid (l : List UInt8) (n i : Nat) : List (List UInt8) := chunks l i ++ List.replicate (n - i) zeroSec
theorem laid_set (l : List UInt8) (n i : Nat) (h : i < n) : (laid l n i).set i ((l.drop (i * 128)).take 128) = laid l n (i + 1) := by
 unfold laid
 rw [List.set_append_right _ _ (by rw [chunks_length]; exact Nat.le_refl _), chunks_length, Nat.sub_self, show n - i = (n - (i + 1)) + 1 by omega, List.replicate_succ, List.set_cons_zero]
 have e : chunks l (i + 1) = chunks l i ++ [(l.drop (i * 128)).take 128] := by simp [chunks, List.range_succ]
 rw [e, List.append_assoc]; rfl
theorem laid_128 {l : List UInt8} {n i : Nat} (hi : i <= n) (h : l.length = n * 128) : ∀ b ∈ laid l n i, (bytes b).length = 128 := by
 intro b hb
 rcases List.mem_append.1 hb with q | q
 ·
  obtain ⟨j, hj, rfl⟩ := List.mem_map.1 q
  have := List.mem_range.1 hj
  rw [bytes_length, List.length_take, List.length_drop]; omega
 · rw [List.eq_of_mem_replicate q]; simp [zeroSec]
theorem laid_length (l : List UInt8) (n i : Nat) (h : i <= n) : (laid l n i).length = n := by unfold laid; rw [List.length_append, chunks_length, List.length_replicate]; omega
theorem load_odd {ao : Option Addr} {cap n : Nat} (h : n % 128 ≠ 0) :
  Does1 W Tryz.prog 62 [.slice ao n cap] R (.tuple #[.pointer none, .int .u16 40]) R := by
 (refine Does.enter Tryz.func62 Tryz.ntmps62 rfl rfl ?_)
 refine w ?_
 refine VO.pure rfl rfl (PureAt.rem (b := 128) rfl rfl (by decide)) rfl ?_
 refine w ?_
 (refine VC.condTe rfl rfl (by simp; omega) ?_)
 refine w ?_
 (first | exact VE.done1 rfl rfl Ent.refl | exact VE.done1N rfl rfl Ent.refl)
theorem load_big {ao : Option Addr} {cap n : Nat} (h : n % 128 = 0) (hb : n / 128 < 1 \/ 8192 < n / 128) (hn : n <= 1000000000) :
  Does1 W Tryz.prog 62 [.slice ao n cap] R (.tuple #[.pointer none, .int .u16 40]) R := by
 (refine Does.enter Tryz.func62 Tryz.ntmps62 rfl rfl ?_)
 refine w ?_
 refine VO.pure rfl rfl (PureAt.rem (b := 128) rfl rfl (by decide)) rfl ?_
 refine w ?_
 (refine VC.condFe rfl rfl (by simp; omega) ?_)
 refine w ?_
 refine VO.pure rfl rfl (PureAt.quo (b := 128) rfl rfl (by decide) (IntWalk.i64_in _ ⟨by omega, by omega⟩)) rfl ?_
 ((refine zq ?_; refine zd rfl rfl (disknew_bad ((n / 128 : Nat) : Int) (by omega)) ?_); intro _ _)
 refine w ?_
 refine VE.done1 rfl ?_ ?_
 · rfl
 · exact Ent.refl
theorem load_ok {ao : Option Addr} {cap m : Nat} {l : List UInt8} (hr : Rds W R 1 ao (m * 128) (bytes l)) (h1 : 1 <= m) (h2 : m <= 8192) (hcap : m * 128 <= cap) :
  Does W Tryz.prog 62 [.slice ao (m * 128) cap] R (β := Nat) (fun _ => True) (fun d => .tuple #[.pointer (some ⟨d, 0, none⟩), .int .u16 0]) (fun d => DiskR d ⟨chunks l m, [], false⟩ :: R) := by
 have hl : l.length = m * 128 := by have := hr.len; simpa using this
 (refine Does.enter Tryz.func62 Tryz.ntmps62 rfl rfl ?_)
 refine w ?_
 ((first | apply VO.pure rfl rfl | apply VQ.pure rfl rfl | apply VD.take rfl rfl rfl | (refine VD.end rfl rfl rfl ?_; apply OpV.pure)); exact PureAt.rem (b := 128) rfl rfl (by decide); rfl)
 refine w ?_
 (refine VC.condFe rfl rfl (by simp) ?_)
 refine w ?_
 ((first | apply VO.pure rfl rfl | apply VQ.pure rfl rfl | apply VD.take rfl rfl rfl | (refine VD.end rfl rfl rfl ?_; apply OpV.pure)); exact PureAt.quo (b := 128) rfl rfl (by decide) (IntWalk.i64_in _ ⟨by omega, by omega⟩); rfl)
 refine VO.re 14 (.int .i64 (m : Int)) rfl (by rw [Nat.mul_div_cancel _ (by decide)]) ?_
 (refine zq ?_; refine zd rfl rfl (disknew_ok m h1 h2) ?_)
 intro d _
 refine w ?_
 refine VO.obtain (fun w => DiskR.open) ?_
 rintro ⟨⟨⟨lo, lc⟩, ⟨co, cc⟩, mb⟩, hk⟩
 dsimp only [DiskO]
 simp only [List.length_replicate]
 refine VO.know (p := lo = none -> m = 0) (fun w hw => Holds.ownNone hw (.tail _ (.head _))) ?_
 intro hln
 obtain ⟨b, rfl⟩ : ∃ b, lo = some b := by cases lo with | none => have := hln rfl; omega | some b => exact ⟨b, rfl⟩
 refine w ?_
 refine VC.loop (α := Nat) (fun i => i <= m) (fun i => Row d 216 [.slice (some b) m lc, .slice co 0 cc, .map (some mb), .bool false] :: Own 219 128 (.slice (some b) m lc) m ((laid l m i).flatMap bytes) ::
   Own 261 129 (.slice co 0 cc) 0 [] :: MapR mb (seenOf []) :: R)
  (fun i => [(0, .slice ao (m * 128) cap), (4, .pointer (some ⟨d, 0, none⟩)), (25, .int .i64 m), (26, .int .i64 i)]) (fun i => m - i) rfl 0 (Nat.zero_le _) (by simp only [laid, chunks, List.range_zero, List.map_nil, List.nil_append, Nat.sub_zero]; exact Ent.re) ⟨rfl, rfl, rfl, rfl, trivial⟩ ?_
 intro i hi
 refine w ?_
 refine zk ?_ ?_ <;> intro hc
 ·
  have hlt : i < m := by have := of_decide_eq_true hc; omega
  have hll := laid_length l m i hi
  have hl8 := laid_128 hi hl
  refine w ?_
  (refine VC.drawn [] 11 [0, 1, 2, 3, 4, 5, 6, 7, 8, 9, 10, 11] _ rfl (by kernel_rfl) (by kernel_rfl) Ent.re ?_)
  refine w ?_
  ((first | apply VO.pure rfl rfl | apply VQ.pure rfl rfl | apply VD.take rfl rfl rfl | (refine VD.end rfl rfl rfl ?_; apply OpV.pure)); exact PureAt.sliceArr (sz := 1) Tryz.underlying219 (by decide) (fun w => by simp) rfl; rfl)
  refine w ?_
  refine VD.re 35 (.slice (some (b.add (i * 128))) 128 128) rfl (by rw [Addr_add_zero]) ?_
  refine VD.re 38 (.int .i64 ((i * 128 : Nat) : Int)) rfl rfl ?_
  refine w ?_
  have hle : i * 128 <= m * 128 := Nat.mul_le_mul_right _ hi
  have hle2 : (i + 1) * 128 <= m * 128 := Nat.mul_le_mul_right _ hlt
  have hsub := (Rds.sub hr hle (Nat.le_refl (m * 128)) hcap).ent (H := Row d 216 [.slice (some b) m lc, .slice co 0 cc, .map (some mb), .bool false] :: Own 219 128 (.slice (some b) m lc) m ((laid l m i).flatMap bytes) ::
   Own 261 129 (.slice co 0 cc) 0 [] :: MapR mb (seenOf []) :: R) (Ent.drop (Ent.drop (Ent.drop (Ent.drop Ent.refl))))
  have hmin : min (m * 128 - i * 128) 128 = 128 := by omega
  have hnews : (((bytes l).drop (i * 128 * 1)).take ((m * 128 - i * 128) * 1)).take 128 = bytes ((l.drop (i * 128)).take 128) := by
   rw [Nat.mul_one, Nat.mul_one, List.take_take, Nat.min_eq_left (by omega), bytes, <- List.map_drop, <- List.map_take]; rfl
  refine zq ?_
  refine OpV.copyPart st_22 rfl rfl zh (by rw [hmin, flat_length (w := 128) _ hl8, hll]; omega) (fun w hw => hsub.sees hw) rfl ?_
  rw [hmin, hnews, flat_set (g := bytes) (w := 128) ((l.drop (i * 128)).take 128) (laid l m i) i (by omega) hl8, laid_set l m i hlt]
  refine w ?_
  exact VE.round (i + 1) hlt (by omega) ⟨rfl, rfl, rfl, rfl, trivial⟩ Ent.re
 ·
  have hge : i = m := by have := of_decide_eq_false hc; omega
  subst hge
  refine w ?_
  refine VE.done d rfl trivial rfl ?_
  have hm0 : laid l i i = chunks l i := by simp [laid]
  rw [hm0]
  have := DiskR.shut (W := W) (R := R) (d := d) (k := ⟨chunks l i, [], false⟩) (x := ((some b, lc), (co, cc), mb)) ⟨chunks_128 hl, fun c hc => absurd hc (by simp), by simp only [chunks_length]; exact h2⟩
  simpa only [DiskO, chunks_length, List.length_nil, List.flatMap_nil] using this
end Go.Proofs.YtjebagmjcdaegaaGreat
/-! Text Ca. -/
namespace Go.Sl
def crcPoly : BitVec 32 := 0x82f63b78#32
def stp (n : BitVec 32) : BitVec 32 := (n >>> 1) ^^^ (if n.getLsbD 0 then crcPoly else 0#32)
def stpN : Nat -> BitVec 32 -> BitVec 32
  | 0, n => n
  | k + 1, n => stpN k (stp n)
theorem stpN_add (a b : Nat) (n : BitVec 32) : stpN (a + b) n = stpN b (stpN a n) := by
 induction a generalizing n with
 | zero => rw [Nat.zero_add]; rfl
 | succ a ih => rw [Nat.succ_add]; exact ih (stp n)
theorem stp_xor (a b : BitVec 32) : stp (a ^^^ b) = stp a ^^^ stp b := by
 unfold stp
 rw [BitVec.getLsbD_xor]
 apply BitVec.eq_of_getLsbD_eq
 intro i hi
 simp only [BitVec.getLsbD_xor, BitVec.getLsbD_ushiftRight]
 cases a.getLsbD 0 <;> cases b.getLsbD 0 <;> simp <;> cases a.getLsbD (1 + i) <;> cases b.getLsbD (1 + i) <;> cases crcPoly.getLsbD i <;> rfl
theorem stp_even (n : BitVec 32) (h : n.getLsbD 0 = false) : stp n = n >>> 1 := by
 unfold stp; rw [h]; simp
theorem stpN_xor : ∀ (k : Nat) (a b : BitVec 32), stpN k (a ^^^ b) = stpN k a ^^^ stpN k b
 | 0, _, _ => rfl
 | k + 1, a, b => by rw [stpN, stp_xor, stpN_xor k]; rfl
theorem stpN_shift : ∀ (k : Nat) (n : BitVec 32), (∀ i, i < k -> n.getLsbD i = false) -> stpN k n = n >>> k
  | 0, n, _ => by simp [stpN]
  | k + 1, n, h => by
    rw [stpN, stp_even n (h 0 (by omega)), stpN_shift k _ (fun i hi => by rw [BitVec.getLsbD_ushiftRight, Nat.add_comm]; exact h (i + 1) (by omega))]
    rw [<- BitVec.shiftRight_add, Nat.add_comm]
theorem stp_nibble (n : BitVec 32) : stpN 4 n = (n >>> 4) ^^^ stpN 4 (n &&& 15#32) := by
 have e : n = (n &&& 0xfffffff0#32) ^^^ (n &&& 15#32) := by
  apply BitVec.eq_of_getLsbD_eq
  intro i hi
  rw [BitVec.getLsbD_xor, BitVec.getLsbD_and, BitVec.getLsbD_and]
  have : (0xfffffff0#32).getLsbD i = !(15#32).getLsbD i := by
   have hc : ∀ j : Fin 32, (0xfffffff0#32).getLsbD j.1 = !(15#32).getLsbD j.1 := by decide
   exact hc ⟨i, hi⟩
  rw [this]
  cases n.getLsbD i <;> cases (15#32).getLsbD i <;> rfl
 have hs : stpN 4 (n &&& 0xfffffff0#32) = n >>> 4 := by
  rw [stpN_shift 4 _ (fun i hi => by
   rw [BitVec.getLsbD_and]
   have hc : ∀ j : Fin 4, (0xfffffff0#32).getLsbD j.1 = false := by decide
   rw [hc ⟨i, hi⟩, Bool.and_false])]
  apply BitVec.eq_of_getLsbD_eq
  intro i hi
  rw [BitVec.getLsbD_ushiftRight, BitVec.getLsbD_ushiftRight, BitVec.getLsbD_and]
  by_cases h : 4 + i < 32
  ·
   have hc : ∀ j : Fin 28, (0xfffffff0#32).getLsbD (4 + j.1) = true := by decide
   rw [hc ⟨i, by omega⟩, Bool.and_true]
  · rw [BitVec.getLsbD_of_ge n _ (by omega)]; rfl
 conv => lhs; rw [e]
 rw [stpN_xor, hs]
def crcB (n : BitVec 32) (b : UInt8) : BitVec 32 := stpN 8 (n ^^^ BitVec.ofNat 32 b.toNat)
def crcF (n : BitVec 32) (l : List UInt8) : BitVec 32 := l.foldl crcB n
def crcM (n : BitVec 32) (l : List UInt8) : BitVec 32 := ~~~(crcF (~~~n) l)
def crcS (l : List UInt8) : BitVec 32 := crcM 0#32 l
theorem crcB_nibbles (n : BitVec 32) (b : UInt8) : crcB n b =
  (((((n ^^^ BitVec.ofNat 32 b.toNat) >>> 4) ^^^ stpN 4 ((n ^^^ BitVec.ofNat 32 b.toNat) &&& 15#32)) >>> 4) ^^^ stpN 4 ((((n ^^^ BitVec.ofNat 32 b.toNat) >>> 4) ^^^ stpN 4 ((n ^^^ BitVec.ofNat 32 b.toNat) &&& 15#32)) &&& 15#32)) := by
 unfold crcB
 rw [show (8 : Nat) = 4 + 4 from rfl, stpN_add, stp_nibble (stpN 4 _), stp_nibble (n ^^^ _)]
end Go.Sl
/-! Text Ea. -/
namespace Go.Proofs.YtjebagmjcdaegaaGreat
open Go.RowKit Go.Sl
def padTo (n : Nat) (l : List UInt8) : List UInt8 := l ++ List.replicate (n - l.length) 0
theorem padTo_length {n : Nat} {l : List UInt8} (h : l.length <= n) : (padTo n l).length = n := by simp [padTo]; omega
def magicL : List UInt8 := [83, 80, 74, 76]
def begunL (kind epoch seq : Nat) : List UInt8 := magicL ++ lowBytes kind 4 ++ lowBytes epoch 8 ++ lowBytes seq 8
theorem begunL_length (kind epoch seq : Nat) : (begunL kind epoch seq).length = 24 := by simp [begunL, lowBytes_length, magicL]
def sealS (b : List UInt8) : List UInt8 := b ++ lowBytes (crcS b).toNat 4
def sectB (kind epoch seq : Nat) (rest : List UInt8) : List UInt8 := padTo 124 (begunL kind epoch seq ++ rest)
theorem sectB_length {kind epoch seq : Nat} {rest : List UInt8} (h : rest.length <= 100) : (sectB kind epoch seq rest).length = 124 := padTo_length (by rw [List.length_append, begunL_length]; omega)
theorem sealS_length {b : List UInt8} (h : b.length = 124) : (sealS b).length = 128 := by simp [sealS, lowBytes_length, h]
def numAt (b : List UInt8) (a w : Nat) : Nat := leVal ((b.drop a).take w)
def kindB (b : List UInt8) : UInt8 := if b.length = 128 /\ b.take 4 = magicL /\ (b.getD 4 0).toNat <= 3 then b.getD 4 0 else 0
def looksM (b : List UInt8) (kind : UInt8) : Int := if b.length ≠ 128 then 4 else if kindB b ≠ kind then 80 else if numAt b 124 4 ≠ (crcS (b.take 124)).toNat then 81 else 0
theorem lowBytes_cons : ∀ (w v : Nat), lowBytes v (w + 1) = UInt8.ofNat v :: lowBytes (v / 256) w
  | 0, v => by simp [lowBytes]
  | w + 1, v => by
    rw [lowBytes, lowBytes_cons w v, lowBytes, List.cons_append, Nat.div_div_eq_div_mul, Nat.pow_succ, Nat.mul_comm]
theorem leVal_low : ∀ (w v : Nat), v < 256 ^ w -> leVal (lowBytes v w) = v
  | 0, v, h => by simp at h; subst h; rfl
  | w + 1, v, h => by
    rw [lowBytes_cons, leVal, leVal_low w (v / 256) (by rw [Nat.pow_succ] at h; exact Nat.div_lt_of_lt_mul (by omega)), UInt8.toNat_ofNat']
    have := Nat.mod_add_div v 256
    omega
def flds (fs : List (Nat × Nat)) : List UInt8 := fs.flatMap fun p => lowBytes p.1 p.2
def offs (fs : List (Nat × Nat)) (k : Nat) : Nat := ((fs.take k).map (·.2)).sum
theorem flds_append (a b : List (Nat × Nat)) : flds (a ++ b) = flds a ++ flds b := by simp [flds]
theorem flds_length : ∀ (fs : List (Nat × Nat)), (flds fs).length = (fs.map (·.2)).sum
 | [] => rfl
 | p :: r => by rw [flds, List.flatMap_cons, List.length_append, lowBytes_length, List.map_cons, List.sum_cons, <- flds_length r]; rfl
theorem numAt_skip (a l : List UInt8) (i w : Nat) : numAt (a ++ l) (a.length + i) w = numAt l i w := by
 unfold numAt; rw [List.drop_append, List.drop_of_length_le (by omega)]; simp
theorem numAt_here (v w : Nat) (c : List UInt8) (hv : v < 256 ^ w) : numAt (lowBytes v w ++ c) 0 w = v := by
 unfold numAt; rw [List.drop_zero, List.take_left' (lowBytes_length v w), leVal_low w v hv]
theorem numAt_flds : ∀ (fs : List (Nat × Nat)) (k : Nat) (p : Nat × Nat) (c : List UInt8), fs[k]? = some p -> p.1 < 256 ^ p.2 -> numAt (flds fs ++ c) (offs fs k) p.2 = p.1
  | [], k, p, c, h, _ => by simp at h
  | q :: r, 0, p, c, h, hv => by
    simp at h; subst h
    show numAt (lowBytes q.1 q.2 ++ flds r ++ c) 0 q.2 = q.1
    rw [List.append_assoc]; exact numAt_here _ _ _ hv
  | q :: r, k + 1, p, c, h, hv => by
    have ih := numAt_flds r k p c (by simpa using h) hv
    have e : offs (q :: r) (k + 1) = (lowBytes q.1 q.2).length + offs r k := by simp [offs, lowBytes_length]
    rw [e]
    show numAt (lowBytes q.1 q.2 ++ flds r ++ c) _ _ = _
    rw [List.append_assoc, numAt_skip]; exact ih
theorem low_zero : ∀ n, lowBytes 0 n = List.replicate n 0
 | 0 => rfl
 | n + 1 => by rw [lowBytes_cons, Nat.zero_div, low_zero n]; rfl
structure HdrD where
  epoch : Nat
  seq : Nat
  index : Int
  count : Int
  member : Int
  row : Int
  escaped : Bool
  sum : Nat
abbrev HdrD.cells (h : HdrD) : List Value := [.int .u64 h.epoch, .int .u64 h.seq, .int .i64 h.index, .int .i64 h.count, .int .i64 h.member, .int .i64 h.row, .bool h.escaped, .int .u32 h.sum]
structure CmtD where
  epoch : Nat
  seq : Nat
  count : Int
  sum : Nat
abbrev CmtD.cells (h : CmtD) : List Value := [.int .u64 h.epoch, .int .u64 h.seq, .int .i64 h.count, .int .u32 h.sum]
structure ChkD where
  epoch : Nat
  seq : Nat
  tail : Int
abbrev ChkD.cells (h : ChkD) : List Value := [.int .u64 h.epoch, .int .u64 h.seq, .int .i64 h.tail]
def cntOk (epoch seq : Nat) : Prop := epoch <= 4611686018427387904 /\ 1 <= seq /\ seq <= 4611686018427387904
instance (a b : Nat) : Decidable (cntOk a b) := by unfold cntOk; exact inferInstance
def HdrD.good (h : HdrD) : Prop := cntOk h.epoch h.seq /\ (1 <= h.count /\ h.count <= 1023) /\ (0 <= h.index /\ h.index <= h.count - 1) /\ (0 <= h.member /\ h.member <= 15) /\ 0 <= h.row /\ h.row <= 4095
def CmtD.good (h : CmtD) : Prop := cntOk h.epoch h.seq /\ 1 <= h.count /\ h.count <= 1023
def ChkD.good (h : ChkD) : Prop := cntOk h.epoch h.seq /\ 0 <= h.tail /\ h.tail <= 2047
instance (h : HdrD) : Decidable h.good := by unfold HdrD.good; exact inferInstance
instance (h : CmtD) : Decidable h.good := by unfold CmtD.good; exact inferInstance
instance (h : ChkD) : Decidable h.good := by unfold ChkD.good; exact inferInstance
def bitN (b : Bool) : Nat := if b then 1 else 0
def HdrD.rest (h : HdrD) : List (Nat × Nat) := [(h.index.toNat, 4), (h.count.toNat, 4), (h.member.toNat, 4), (h.row.toNat, 4), (bitN h.escaped, 4), (h.sum, 4)]
def CmtD.rest (h : CmtD) : List (Nat × Nat) := [(h.count.toNat, 4), (h.sum, 4)]
def ChkD.rest (h : ChkD) : List (Nat × Nat) := [(h.tail.toNat, 4)]
def sectF (kind epoch seq : Nat) (rest : List (Nat × Nat)) : List UInt8 := sealS (sectB kind epoch seq (flds rest))
def HdrD.enc (h : HdrD) : Int × List UInt8 := if h.good then (0, sectF 1 h.epoch h.seq h.rest) else (80, [])
def CmtD.enc (h : CmtD) : Int × List UInt8 := if h.good then (0, sectF 2 h.epoch h.seq h.rest) else (80, [])
def ChkD.enc (h : ChkD) : Int × List UInt8 := if h.good then (0, sectF 3 h.epoch h.seq h.rest) else (80, [])
def HdrD.parse (b : List UInt8) : HdrD := ⟨numAt b 8 8, numAt b 16 8, numAt b 24 4, numAt b 28 4, numAt b 32 4, numAt b 36 4, decide (numAt b 40 4 = 1), numAt b 44 4⟩
def CmtD.parse (b : List UInt8) : CmtD := ⟨numAt b 8 8, numAt b 16 8, numAt b 24 4, numAt b 28 4⟩
def ChkD.parse (b : List UInt8) : ChkD := ⟨numAt b 8 8, numAt b 16 8, numAt b 24 4⟩
def zeroH : HdrD := ⟨0, 0, 0, 0, 0, 0, false, 0⟩
def zeroC : CmtD := ⟨0, 0, 0, 0⟩
def zeroK : ChkD := ⟨0, 0, 0⟩
def HdrD.dec (b : List UInt8) : Int × HdrD := if looksM b 1 ≠ 0 then (looksM b 1, zeroH) else if (HdrD.parse b).good /\ (HdrD.parse b).enc.2 = b then (0, HdrD.parse b) else (80, zeroH)
def CmtD.dec (b : List UInt8) : Int × CmtD := if looksM b 2 ≠ 0 then (looksM b 2, zeroC) else if (CmtD.parse b).good /\ (CmtD.parse b).enc.2 = b then (0, CmtD.parse b) else (80, zeroC)
def ChkD.dec (b : List UInt8) : Int × ChkD := if looksM b 3 ≠ 0 then (looksM b 3, zeroK) else if (ChkD.parse b).good /\ (ChkD.parse b).enc.2 = b then (0, ChkD.parse b) else (80, zeroK)
theorem magic_low : magicL = lowBytes 1279938643 4 := by decide
theorem sectF_flds (kind epoch seq : Nat) (rest : List (Nat × Nat)) (h : (rest.map (·.2)).sum <= 100) :
  sectF kind epoch seq rest = flds ([(1279938643, 4), (kind, 4), (epoch, 8), (seq, 8)] ++ rest) ++ (lowBytes 0 (100 - (rest.map (·.2)).sum) ++ lowBytes (crcS (sectB kind epoch seq (flds rest))).toNat 4) := by
 have hlen : 124 - (begunL kind epoch seq ++ flds rest).length = 100 - (rest.map (·.2)).sum := by
  rw [List.length_append, begunL_length, flds_length]; omega
 unfold sectF sealS
 rw [<- List.append_assoc]
 congr 1
 unfold sectB padTo
 rw [hlen, low_zero, flds_append]
 simp only [begunL, magic_low, flds, List.flatMap_cons, List.flatMap_nil, List.append_nil, List.append_assoc]
theorem sectF_length (kind epoch seq : Nat) (rest : List (Nat × Nat)) (h : (rest.map (·.2)).sum <= 100) : (sectF kind epoch seq rest).length = 128 :=
 sealS_length (sectB_length (by rw [flds_length]; exact h))
theorem crcS_lt (b : List UInt8) : (crcS b).toNat < 256 ^ 4 := (crcS b).isLt
theorem sectF_num (kind epoch seq : Nat) (rest : List (Nat × Nat)) (h : (rest.map (·.2)).sum <= 100) (k : Nat) (p : Nat × Nat) (hk : ([(1279938643, 4), (kind, 4), (epoch, 8), (seq, 8)] ++ rest)[k]? = some p) (hv : p.1 < 256 ^ p.2) :
  numAt (sectF kind epoch seq rest) (offs ([(1279938643, 4), (kind, 4), (epoch, 8), (seq, 8)] ++ rest) k) p.2 = p.1 := by
 rw [sectF_flds _ _ _ _ h]; exact numAt_flds _ k p _ hk hv
theorem sectF_looks (kind : UInt8) (hk : 1 <= kind.toNat /\ kind.toNat <= 3) (epoch seq : Nat) (rest : List (Nat × Nat)) (h : (rest.map (·.2)).sum <= 100) : looksM (sectF kind.toNat epoch seq rest) kind = 0 := by
 have hl := sectF_length kind.toNat epoch seq rest h
 have hb : (sectB kind.toNat epoch seq (flds rest)).length = 124 := sectB_length (by rw [flds_length]; exact h)
 have hcons : ∃ r, sectF kind.toNat epoch seq rest = magicL ++ (kind :: r) := by
  unfold sectF sealS sectB padTo begunL
  rw [lowBytes_cons 3 kind.toNat]
  refine ⟨_, by rw [List.append_assoc, List.append_assoc, List.append_assoc, List.append_assoc, List.append_assoc, List.cons_append]; congr 2; simp⟩
 have hkb : kindB (sectF kind.toNat epoch seq rest) = kind := by
  obtain ⟨r, hr⟩ := hcons
  have h4 : (sectF kind.toNat epoch seq rest).getD 4 0 = kind := by rw [hr]; rfl
  unfold kindB
  rw [h4, if_pos ⟨hl, by rw [hr]; rfl, hk.2⟩]
 have htk : (sectF kind.toNat epoch seq rest).take 124 = sectB kind.toNat epoch seq (flds rest) := by unfold sectF sealS; rw [List.take_left' hb]
 have hn : numAt (sectF kind.toNat epoch seq rest) 124 4 = (crcS (sectB kind.toNat epoch seq (flds rest))).toNat := by
  unfold sectF sealS
  have := numAt_skip (sectB kind.toNat epoch seq (flds rest)) (lowBytes (crcS (sectB kind.toNat epoch seq (flds rest))).toNat 4) 0 4
  rw [hb] at this
  rw [this]
  have := numAt_here (crcS (sectB kind.toNat epoch seq (flds rest))).toNat 4 [] (crcS_lt _)
  rwa [List.append_nil] at this
 unfold looksM
 rw [if_neg (by simp [hl]), hkb, if_neg (by simp), htk, hn, if_neg (by simp)]
theorem hdr_sum (h : HdrD) : (h.rest.map (·.2)).sum <= 100 := by simp [HdrD.rest]
theorem cmt_sum (h : CmtD) : (h.rest.map (·.2)).sum <= 100 := by simp [CmtD.rest]
theorem chk_sum (h : ChkD) : (h.rest.map (·.2)).sum <= 100 := by simp [ChkD.rest]
theorem hdr_parse (h : HdrD) (hg : h.good) (hs : h.sum < 4294967296) : HdrD.parse (sectF 1 h.epoch h.seq h.rest) = h := by
 obtain ⟨⟨g1, g2, g3⟩, ⟨g4, g5⟩, ⟨g6, g7⟩, ⟨g8, g9⟩, g10, g11⟩ := hg
 have n := fun k p => sectF_num 1 h.epoch h.seq h.rest (hdr_sum h) k p
 have e2 := n 2 _ rfl (show h.epoch < 256 ^ 8 by omega)
 have e3 := n 3 _ rfl (show h.seq < 256 ^ 8 by omega)
 have e4 := n 4 _ rfl (show h.index.toNat < 256 ^ 4 by omega)
 have e5 := n 5 _ rfl (show h.count.toNat < 256 ^ 4 by omega)
 have e6 := n 6 _ rfl (show h.member.toNat < 256 ^ 4 by omega)
 have e7 := n 7 _ rfl (show h.row.toNat < 256 ^ 4 by omega)
 have e8 := n 8 _ rfl (show bitN h.escaped < 256 ^ 4 by unfold bitN; split <;> omega)
 have e9 := n 9 _ rfl (show h.sum < 256 ^ 4 by omega)
 change numAt _ 8 8 = _ at e2
 change numAt _ 16 8 = _ at e3
 change numAt _ 24 4 = _ at e4
 change numAt _ 28 4 = _ at e5
 change numAt _ 32 4 = _ at e6
 change numAt _ 36 4 = _ at e7
 change numAt _ 40 4 = _ at e8
 change numAt _ 44 4 = _ at e9
 unfold HdrD.parse
 rw [e2, e3, e4, e5, e6, e7, e8, e9]
 obtain ⟨a, b, c, d, e, f, g, i⟩ := h
 simp only [HdrD.mk.injEq, true_and, and_true] at *
 refine ⟨by omega, by omega, by omega, by omega, ?_⟩
 cases g <;> simp [bitN]
theorem cmt_parse (h : CmtD) (hg : h.good) (hs : h.sum < 4294967296) : CmtD.parse (sectF 2 h.epoch h.seq h.rest) = h := by
 obtain ⟨⟨g1, g2, g3⟩, g4, g5⟩ := hg
 have n := fun k p => sectF_num 2 h.epoch h.seq h.rest (cmt_sum h) k p
 have e2 := n 2 _ rfl (show h.epoch < 256 ^ 8 by omega)
 have e3 := n 3 _ rfl (show h.seq < 256 ^ 8 by omega)
 have e4 := n 4 _ rfl (show h.count.toNat < 256 ^ 4 by omega)
 have e5 := n 5 _ rfl (show h.sum < 256 ^ 4 by omega)
 change numAt _ 8 8 = _ at e2
 change numAt _ 16 8 = _ at e3
 change numAt _ 24 4 = _ at e4
 change numAt _ 28 4 = _ at e5
 unfold CmtD.parse
 rw [e2, e3, e4, e5]
 obtain ⟨a, b, c, d⟩ := h
 simp only [CmtD.mk.injEq, true_and, and_true] at *
 omega
theorem chk_parse (h : ChkD) (hg : h.good) : ChkD.parse (sectF 3 h.epoch h.seq h.rest) = h := by
 obtain ⟨⟨g1, g2, g3⟩, g4, g5⟩ := hg
 have n := fun k p => sectF_num 3 h.epoch h.seq h.rest (chk_sum h) k p
 have e2 := n 2 _ rfl (show h.epoch < 256 ^ 8 by omega)
 have e3 := n 3 _ rfl (show h.seq < 256 ^ 8 by omega)
 have e4 := n 4 _ rfl (show h.tail.toNat < 256 ^ 4 by omega)
 change numAt _ 8 8 = _ at e2
 change numAt _ 16 8 = _ at e3
 change numAt _ 24 4 = _ at e4
 unfold ChkD.parse
 rw [e2, e3, e4]
 obtain ⟨a, b, c⟩ := h
 simp only [ChkD.mk.injEq, true_and, and_true] at *
 omega
theorem hdr_back (h : HdrD) (hg : h.good) (hs : h.sum < 4294967296) : HdrD.dec h.enc.2 = (0, h) := by
 have e : h.enc.2 = sectF 1 h.epoch h.seq h.rest := by unfold HdrD.enc; rw [if_pos hg]
 unfold HdrD.dec
 rw [e, if_neg (by rw [show sectF 1 h.epoch h.seq h.rest = sectF (1 : UInt8).toNat h.epoch h.seq h.rest from rfl, sectF_looks 1 (by decide) _ _ _ (hdr_sum h)]; simp), hdr_parse h hg hs, if_pos ⟨hg, e⟩]
theorem cmt_back (h : CmtD) (hg : h.good) (hs : h.sum < 4294967296) : CmtD.dec h.enc.2 = (0, h) := by
 have e : h.enc.2 = sectF 2 h.epoch h.seq h.rest := by unfold CmtD.enc; rw [if_pos hg]
 unfold CmtD.dec
 rw [e, if_neg (by rw [show sectF 2 h.epoch h.seq h.rest = sectF (2 : UInt8).toNat h.epoch h.seq h.rest from rfl, sectF_looks 2 (by decide) _ _ _ (cmt_sum h)]; simp), cmt_parse h hg hs, if_pos ⟨hg, e⟩]
theorem chk_back (h : ChkD) (hg : h.good) : ChkD.dec h.enc.2 = (0, h) := by
 have e : h.enc.2 = sectF 3 h.epoch h.seq h.rest := by unfold ChkD.enc; rw [if_pos hg]
 unfold ChkD.dec
 rw [e, if_neg (by rw [show sectF 3 h.epoch h.seq h.rest = sectF (3 : UInt8).toNat h.epoch h.seq h.rest from rfl, sectF_looks 3 (by decide) _ _ _ (chk_sum h)]; simp), chk_parse h hg, if_pos ⟨hg, e⟩]
end Go.Proofs.YtjebagmjcdaegaaGreat
/-! Text Eb. -/
namespace Go.Sl
open Go Go.RowKit
section
variable {W : World} {P : Program} {n : Nat} {H : List SProp} {f : Fr} {dst : Option Tmp} {ty_ : TypeId} {pos : String} {after : Array Edge} {guard : Option (Nat × Bool)}
def u32V (c : BitVec 32) : Value := .int .u32 (c.toNat : Int)
theorem PureAt.indexArr {T : TabData} {x y : Operand} {t e : TypeId} {k : IntKind} {b o m j : Nat} (hT : T.ok P = true) (ht : P.underlying t = some (.array m e)) (hx : evalX f x = some (.pointer (some ⟨b, o, none⟩))) (hy : evalX f y = some (.int k (j : Int)))
  (hl : assoc T.leaf e = some ()) (hj : j < m) : PureAt W P n H f { dst, op := .indexAddr t x y, type := ty_, pos, after, guard } (.pointer (some ⟨b, o + j, none⟩)) := by
 unfold PureAt
 intro tm w hk _
 have h1 : (0 : Int) <= j /\ (j : Int) < m := ⟨by omega, by omega⟩
 have h2 : (⟨b, o, none⟩ : Addr).add j = ⟨b, o + j, none⟩ := by unfold Addr.add; split <;> simp_all
 simp [execOp, hk.eval hx, hk.eval hy, Instr.indexAt, Instr.sureAddr, asIntOf, run_underlying ht, (T.leaf_ok hT hl).2, h1, h2]
 intro h; omega
theorem ofInt32 (c : BitVec 32) : BitVec.ofInt 32 (c.toNat : Int) = c := by
 rw [BitVec.ofInt_natCast, BitVec.ofNat_toNat, BitVec.setWidth_eq]
theorem wrapB32 (c : BitVec 32) : IntKind.u32.wrap (c.toNat : Int) = c.toNat := by
 have := c.isLt
 rw [IntKind.wrap_u32]; omega
theorem PureAt.not32 {x : Operand} {s : TypeId} {c : BitVec 32} (hx : evalX f x = some (u32V c)) : PureAt W P n H f { dst, op := .unOp .xor s x, type := ty_, pos, after, guard } (u32V (~~~c)) := by
 unfold PureAt
 intro tm w hk _
 have e : (4294967295#32 ^^^ c) = ~~~c := by
  apply BitVec.eq_of_getLsbD_eq
  intro i hi
  have hc : ∀ j : Fin 32, (4294967295#32).getLsbD j.1 = true := by decide
  rw [BitVec.getLsbD_xor, BitVec.getLsbD_not, hc ⟨i, hi⟩]
  simp [hi]
 have e2 : IntKind.u32.wrap ((BitVec.ofInt 32 4294967295 ^^^ BitVec.ofInt 32 (c.toNat : Int)).toNat : Int) = ((~~~c).toNat : Int) := by
  rw [ofInt32, show BitVec.ofInt 32 4294967295 = 4294967295#32 from rfl, e, wrapB32]
 unfold execOp
 simp only [hk.eval hx, u32V]
 have e3 : (Op.unary .xor (.int .u32 (c.toNat : Int))).run P w = .ok (.int .u32 ((~~~c).toNat : Int)) w := by
  rw [<- e2]; rfl
 simp only [Sem.run_bind, e3, Result.andThen_ok, Sem.run_pure]
end
end Go.Sl
namespace Go.Proofs.YtjebagmjcdaegaaGreat
open Go.RowKit Go.Sl
attribute [local irreducible] Own
variable {W : World} {R : List SProp}
theorem xor32 (a b : BitVec 32) : IntKind.u32.wrap ((BitVec.ofInt IntKind.u32.bits (a.toNat : Int) ^^^ BitVec.ofInt IntKind.u32.bits (b.toNat : Int)).toNat : Int) = ((a ^^^ b).toNat : Int) := by
 show IntKind.u32.wrap ((BitVec.ofInt 32 _ ^^^ BitVec.ofInt 32 _).toNat : Int) = _
 rw [ofInt32, ofInt32, wrapB32]
theorem and32 (a b : BitVec 32) : IntKind.u32.wrap ((BitVec.ofInt IntKind.u32.bits (a.toNat : Int) &&& BitVec.ofInt IntKind.u32.bits (b.toNat : Int)).toNat : Int) = ((a &&& b).toNat : Int) := by
 show IntKind.u32.wrap ((BitVec.ofInt 32 _ &&& BitVec.ofInt 32 _).toNat : Int) = _
 rw [ofInt32, ofInt32, wrapB32]
theorem shr32 (a : BitVec 32) (k : Nat) : ((a.toNat / 2 ^ k : Nat) : Int) = ((a >>> k).toNat : Int) := by
 rw [BitVec.toNat_ushiftRight, Nat.shiftRight_eq_div_pow]
theorem byte32 (c : UInt8) : (c.toNat : Int) = ((BitVec.ofNat 32 c.toNat).toNat : Int) := by
 rw [BitVec.toNat_ofNat, Nat.mod_eq_of_lt (by have := c.toNat_lt; omega)]
theorem crcF_snoc (n : BitVec 32) (l : List UInt8) (c : UInt8) : crcF n (l ++ [c]) = crcB (crcF n l) c := by simp [crcF]
def tabV (i : Nat) : List Value := (List.range 16).map fun j => if j < i then .int .u32 ((stpN 4 (BitVec.ofNat 32 j)).toNat : Int) else .int .u32 0
theorem tabV_length (i : Nat) : (tabV i).length = 16 := by simp [tabV]
theorem tabV_one (i : Nat) : ∀ u ∈ tabV i, u.oneCell' = true := by
 intro u hu
 obtain ⟨j, -, rfl⟩ := List.mem_map.1 hu
 split <;> rfl
theorem tabV_set (i : Nat) (h : i < 16) : (tabV i).set i (.int .u32 ((stpN 4 (BitVec.ofNat 32 i)).toNat : Int)) = tabV (i + 1) := by
 apply List.ext_getElem (by simp [tabV])
 intro j h1 h2
 have hj : j < 16 := by rw [tabV_length] at h2; exact h2
 rw [List.getElem_set]
 simp only [tabV, List.getElem_map, List.getElem_range]
 by_cases e : i = j
 · subst e; rw [if_pos rfl, if_pos (by omega)]
 ·
  rw [if_neg e]
  by_cases q : j < i
  · rw [if_pos q, if_pos (by omega)]
  · rw [if_neg q, if_neg (by omega)]
theorem tabV_get (j : Nat) (h : j < 16) : (tabV 16)[j]? = some (.int .u32 ((stpN 4 (BitVec.ofNat 32 j)).toNat : Int)) := by simp [tabV, h]
theorem mul32 (m : BitVec 32) : IntKind.u32.wrap (2197175160 * ((m &&& 1#32).toNat : Int)) = ((if m.getLsbD 0 then crcPoly else 0#32).toNat : Int) := by
 have e : m &&& 1#32 = if m.getLsbD 0 then 1#32 else 0#32 := by
  apply BitVec.eq_of_getLsbD_eq
  intro j hj
  rw [BitVec.getLsbD_and]
  cases j with
  | zero => cases m.getLsbD 0 <;> simp
  | succ j => cases m.getLsbD 0 <;> simp
 rw [e]
 cases m.getLsbD 0
 · rw [IntKind.wrap_u32]; rfl
 · rw [IntKind.wrap_u32]; rfl
theorem half_ok : Does1 W Tryz.prog 112 [] R (.agg (tabV 16).toArray) R := by
 (refine Does.enter Tryz.func112 Tryz.ntmps112 rfl rfl ?_)
 refine w ?_
 refine zq ?_
 refine OpV.alloc (z := .agg (tabV 0).toArray) (cs := tabV 0) (fun w => by simp; rfl) rfl rfl ?_
 intro nb
 refine w ?_
 refine VC.loop (α := Nat) (fun i => i <= 16) (fun i => Row nb 209 (tabV i) :: R) (fun i => [(0, .pointer (some ⟨nb, 0, none⟩)), (3, .int .i64 i)]) (fun i => 16 - i) rfl 0 (Nat.zero_le _) Ent.refl ⟨rfl, rfl, trivial⟩ ?_
 intro i hi
 refine w ?_
 refine zk ?_ ?_ <;> intro hc
 ·
  have hlt : i < 16 := by have := of_decide_eq_true hc; omega
  have h0 : IntKind.u32.wrap (i : Int) = ((BitVec.ofNat 32 i).toNat : Int) := by
   rw [IntKind.wrap_u32, BitVec.toNat_ofNat]; omega
  refine w ?_
  refine VC.re 2 (.int .u32 ((BitVec.ofNat 32 i).toNat : Int)) rfl (by rw [h0]) ?_
  refine VC.loop (α := Nat) (fun k => k <= 4) (fun _ => Row nb 209 (tabV i) :: R) (fun k => [(0, .pointer (some ⟨nb, 0, none⟩)), (1, .int .i64 i), (2, .int .u32 ((stpN k (BitVec.ofNat 32 i)).toNat : Int)), (3, .int .i64 i), (8, .int .i64 k)]) (fun k => 4 - k) rfl 0 (Nat.zero_le _) Ent.refl ⟨rfl, rfl, rfl, rfl, rfl, trivial⟩ ?_
  intro k hk
  refine w ?_
  refine zk ?_ ?_ <;> intro hc
  ·
   have hkt : k < 4 := by have := of_decide_eq_true hc; omega
   have hst : stpN (k + 1) (BitVec.ofNat 32 i) = stp (stpN k (BitVec.ofNat 32 i)) := by rw [stpN_add]; rfl
   generalize stpN k (BitVec.ofNat 32 i) = m at *
   have hs1 : (((m.toNat / 2 ^ (1 : Int).toNat : Nat)) : Int) = ((m >>> 1).toNat : Int) := shr32 m 1
   have hand : IntKind.u32.wrap ((BitVec.ofInt IntKind.u32.bits (m.toNat : Int) &&& BitVec.ofInt IntKind.u32.bits 1).toNat : Int) = ((m &&& 1#32).toNat : Int) := and32 m 1#32
   refine w ?_
   refine VE.round (k + 1) (by omega) (by omega) ⟨rfl, rfl, asV rfl ?_, rfl, asV rfl (by congr 1), trivial⟩ Ent.refl
   rw [hst, hand, mul32, hs1]
   exact congrArg (Value.int .u32) (xor32 (m >>> 1) _)
  ·
   have hge : k = 4 := by have := of_decide_eq_false hc; omega
   subst hge
   refine w ?_
   refine VO.pure rfl rfl (PureAt.indexArr tab_ok Tryz.underlying209 rfl rfl rfl hlt) rfl ?_
   refine zq ?_
   refine OpV.st (cs := tabV i) tab_ok rfl rfl rfl rfl .head (by rw [tabV_length]; omega) ?_
   rw [show (tabV i).set (0 + i) (.int .u32 ((stpN 4 (BitVec.ofNat 32 i)).toNat : Int)) = tabV (i + 1) by rw [Nat.zero_add]; exact tabV_set i hlt]
   refine w ?_
   exact VE.round (i + 1) (by omega) (by omega) ⟨rfl, asV rfl (by congr 1), trivial⟩ Ent.refl
 ·
  have hge : i = 16 := by have := of_decide_eq_false hc; omega
  subst hge
  have ht : List.take 16 (List.drop 0 (tabV 16)) = tabV 16 := by rw [List.drop_zero, List.take_of_length_le (by rw [tabV_length]; exact Nat.le_refl _)]
  have hl := tabV_length 16
  have h1 := tabV_one 16
  generalize tabV 16 = T at *
  refine w ?_
  refine VO.pure rfl rfl (PureAt.ldA tab_ok rfl rfl (.head _) ht hl) rfl ?_
  refine zq ?_
  refine OpV.stA (vs := T) tab_ok rfl rfl rfl hl h1 .head (by rw [hl]; decide) ?_
  rw [show T.take 0 ++ T ++ T.drop (0 + 16) = T by rw [List.drop_of_length_le (by omega)]; simp]
  refine w ?_
  exact VE.results1 (.inl rfl) () rfl (ResIs.agg (vs := T) tab_ok rfl rfl (.head _) ht hl) trivial rfl (Ent.drop Ent.refl)
theorem and15 (m : BitVec 32) : ((m &&& 15#32).toNat : Nat) < 16 := by
 rw [BitVec.toNat_and]; exact Nat.lt_succ_of_le Nat.and_le_right
theorem more_ok {ao : Option Addr} {cap : Nat} {l : List UInt8} (c : BitVec 32) (hr : Rds W R 1 ao l.length (bytes l)) (hl : l.length <= 1099511627776) :
  Does1 W Tryz.prog 56 [.int .u32 (c.toNat : Int), .slice ao l.length cap] R (.int .u32 ((crcM c l).toNat : Int)) R := by
 (refine Does.enter Tryz.func56 Tryz.ntmps56 rfl rfl ?_)
 refine w ?_
 (refine zq ?_; refine zy rfl rfl (half_ok) ?_; intro _ _)
 refine zq ?_
 refine OpV.alloc (z := .agg (tabV 0).toArray) (cs := tabV 0) (fun w => by simp; rfl) rfl rfl ?_
 intro nb
 have hl16 := tabV_length 16
 have h1 := tabV_one 16
 have hget := tabV_get
 have hl0 := tabV_length 0
 generalize tabV 16 = T at *
 generalize tabV 0 = T0 at *
 refine zq ?_
 refine OpV.stA (vs := T) tab_ok rfl rfl rfl hl16 h1 .head (by rw [hl0]; decide) ?_
 rw [show T0.take 0 ++ T ++ T0.drop (0 + 16) = T by rw [List.drop_of_length_le (by omega)]; simp]
 refine w ?_
 refine VO.pure rfl rfl (PureAt.not32 (c := c) rfl) rfl ?_
 unfold u32V
 refine w ?_
 refine VC.loop (α := Nat) (fun i => i <= l.length) (fun _ => Row nb 209 T :: R) (fun i => [(5, .pointer (some ⟨nb, 0, none⟩)), (6, .int .u32 ((crcF (~~~c) (l.take i)).toNat : Int)), (12, .slice ao l.length cap), (13, .int .i64 l.length), (14, .int .i64 i)]) (fun i => l.length - i) rfl 0 (Nat.zero_le _) Ent.refl ⟨rfl, rfl, rfl, rfl, rfl, trivial⟩ ?_
 intro i hi
 refine w ?_
 refine zk ?_ ?_ <;> intro hc
 ·
  have hlt : i < l.length := by have := of_decide_eq_true hc; omega
  obtain ⟨a, rfl⟩ : ∃ a, ao = some a := by cases ao with | none => have := hr.nil rfl; omega | some a => exact ⟨a, rfl⟩
  have hst : crcF (~~~c) (l.take (i + 1)) = crcB (crcF (~~~c) (l.take i)) l[i] := by rw [List.take_succ_eq_append_getElem hlt, crcF_snoc]
  rw [crcB_nibbles] at hst
  have hb9 := hr.ent (Ent.drop (p := Row nb 209 T) Ent.refl : Ent W (Row nb 209 T :: R) R)
  generalize crcF (~~~c) (l.take i) = F at *
  refine w ?_
  have hx : Value.int .u32 (IntKind.u32.wrap ((BitVec.ofInt IntKind.u32.bits (F.toNat : Int) ^^^ BitVec.ofInt IntKind.u32.bits (IntKind.u32.wrap (l[i].toNat : Int))).toNat : Int)) = .int .u32 ((F ^^^ BitVec.ofNat 32 l[i].toNat).toNat : Int) := by
   rw [byte32, wrapB32]; exact congrArg (Value.int .u32) (xor32 _ _)
  refine VO.pure rfl rfl (ldB tab_ok rfl rfl hb9 hlt) rfl ?_
  iterate 9 (refine zv ?_)
  refine VO.re 21 _ rfl hx ?_
  generalize F ^^^ BitVec.ofNat 32 l[i].toNat = G at *
  have hs4 : ∀ m : BitVec 32, (((m.toNat / 2 ^ (4 : Int).toNat : Nat)) : Int) = ((m >>> 4).toNat : Int) := fun m => shr32 m 4
  have ha15 : ∀ m : BitVec 32, IntKind.u32.wrap ((BitVec.ofInt IntKind.u32.bits (m.toNat : Int) &&& BitVec.ofInt IntKind.u32.bits 15).toNat : Int) = ((m &&& 15#32).toNat : Int) := fun m => and32 m 15#32
  have hrow : ∀ m : BitVec 32, T[0 + (m &&& 15#32).toNat]? = some (.int .u32 ((stpN 4 (m &&& 15#32)).toNat : Int)) := fun m => by
   rw [show 0 + (m &&& 15#32).toNat = (m &&& 15#32).toNat by omega, hget _ (and15 m), BitVec.ofNat_toNat, BitVec.setWidth_eq]
  refine w ?_
  refine VO.re 25 (.int .u32 ((G &&& 15#32).toNat : Int)) rfl (by rw [ha15]) ?_
  refine VO.pure rfl rfl (PureAt.indexArr tab_ok Tryz.underlying209 rfl rfl rfl (and15 G)) rfl ?_
  refine VO.pure rfl rfl (PureAt.ld tab_ok rfl rfl (.head _) (hrow G)) rfl ?_
  refine zv ?_
  refine VO.re 28 (.int .u32 (((G >>> 4) ^^^ stpN 4 (G &&& 15#32)).toNat : Int)) rfl (by rw [hs4]; exact congrArg (Value.int .u32) (xor32 _ _)) ?_
  generalize (G >>> 4) ^^^ stpN 4 (G &&& 15#32) = M at *
  refine w ?_
  refine VO.re 32 (.int .u32 ((M &&& 15#32).toNat : Int)) rfl (by rw [ha15]) ?_
  refine VO.pure rfl rfl (PureAt.indexArr tab_ok Tryz.underlying209 rfl rfl rfl (and15 M)) rfl ?_
  refine VO.pure rfl rfl (PureAt.ld tab_ok rfl rfl (.head _) (hrow M)) rfl ?_
  refine zv ?_
  refine VO.re 35 (.int .u32 (((M >>> 4) ^^^ stpN 4 (M &&& 15#32)).toNat : Int)) rfl (by rw [hs4]; exact congrArg (Value.int .u32) (xor32 _ _)) ?_
  refine w ?_
  refine VE.round (i + 1) (by omega) (by omega) ⟨rfl, asV rfl (by rw [hst]), rfl, rfl, asV rfl (by congr 1), trivial⟩ Ent.refl
 ·
  have hge : i = l.length := by have := of_decide_eq_false hc; omega
  subst hge
  rw [List.take_of_length_le (Nat.le_refl _)]
  refine w ?_
  refine VO.pure rfl rfl (PureAt.not32 (c := crcF (~~~c) l) rfl) rfl ?_
  unfold u32V
  refine w ?_
  refine VE.done1 rfl ?_ ?_
  · rfl
  · exact Ent.drop Ent.refl
theorem sum_ok {ao : Option Addr} {cap : Nat} {l : List UInt8} (hr : Rds W R 1 ao l.length (bytes l)) (hl : l.length <= 1099511627776) :
  Does1 W Tryz.prog 16 [.slice ao l.length cap] R (.int .u32 ((crcS l).toNat : Int)) R := by
 (refine Does.enter Tryz.func16 Tryz.ntmps16 rfl rfl ?_)
 refine w ?_
 (refine zq ?_; refine zy rfl rfl (more_ok 0#32 hr hl) ?_)
 intro _ _
 refine w ?_
 refine VE.done1 rfl ?_ ?_
 · rfl
 · exact Ent.refl
theorem cnt_iff (a b : Nat) : cntOk a b ↔ a <= 4611686018427387904 /\ 1 <= b /\ b <= 4611686018427387904 := Iff.rfl
theorem counts_ok (a b : Nat) :
  Does1 W Tryz.prog 199 [.int .u64 a, .int .u64 b] R (.bool (decide (cntOk a b))) R := by
 (refine Does.enter Tryz.func199 Tryz.ntmps199 rfl rfl ?_)
 refine w ?_
 iterate 2
  refine zg ?_ ?_ <;> intro hb
  rotate_left
  ·
   replace hb := of_decide_eq_false hb
   refine w ?_
   refine VE.done1 rfl ?_ ?_
   · rw [decide_eq_false (fun h => by have := (cnt_iff a b).1 h; omega)]
   · exact Ent.refl
  replace hb := of_decide_eq_true hb
  refine w ?_
 refine VE.done1 rfl ?_ ?_
 · congr 1; rw [decide_eq_decide, cnt_iff]; omega
 · exact Ent.refl
theorem in_ok (n a b : Int) :
  Does1 W Tryz.prog 200 [.int .i64 n, .int .i64 a, .int .i64 b] R (.bool (decide (a <= n /\ n <= b))) R := by
 (refine Does.enter Tryz.func200 Tryz.ntmps200 rfl rfl ?_)
 refine w ?_
 refine zg ?_ ?_ <;> intro hb
 ·
  have h : a <= n := of_decide_eq_true hb
  refine w ?_
  refine VE.done1 rfl ?_ ?_
  · simp [h]
  · exact Ent.refl
 ·
  have h : ¬ a <= n := of_decide_eq_false hb
  refine w ?_
  refine VE.done1 rfl ?_ ?_
  · simp [h]
  · exact Ent.refl
theorem bytes_take (l : List UInt8) (k : Nat) : (bytes l).take (k * 1) = bytes (l.take k) := by rw [Nat.mul_one]; simp [bytes]
theorem bytes_drop (l : List UInt8) (k : Nat) : (bytes l).drop (k * 1) = bytes (l.drop k) := by rw [Nat.mul_one]; simp [bytes]
theorem rds_head {ao : Option Addr} {l : List UInt8} (hr : Rds W R 1 ao l.length (bytes l)) (k : Nat) (hk : k <= l.length) : Rds W R 1 ao k (bytes (l.take k)) := by
 have := hr.take hk
 rwa [bytes_take] at this
theorem rds_part {ao : Option Addr} {cap : Nat} {l : List UInt8} (hr : Rds W R 1 ao l.length (bytes l)) (a b : Nat) (h1 : a <= b) (h2 : b <= l.length) (h3 : l.length <= cap) : Rds W R 1 (subA ao cap a 1) (b - a) (bytes ((l.drop a).take (b - a))) := by
 have := hr.sub h1 h2 h3
 rwa [bytes_drop, bytes_take] at this
theorem kindB_no {b : List UInt8} (h : b.length = 128 -> b.take 4 = magicL -> 3 < (b.getD 4 0).toNat) : kindB b = 0 := by
 unfold kindB; rw [if_neg]; rintro ⟨h1, h2, h3⟩; have := h h1 h2; omega
theorem kindB_yes {b : List UInt8} (h1 : b.length = 128) (h2 : b.take 4 = magicL) (h3 : (b.getD 4 0).toNat <= 3) : kindB b = b.getD 4 0 := by
 unfold kindB; rw [if_pos ⟨h1, h2, h3⟩]
theorem getD4 {b : List UInt8} (h : 4 < b.length) : b.getD 4 0 = b[4] := by simp [List.getD, h]
theorem kind_ok {ao : Option Addr} {cap : Nat} {l : List UInt8} (hr : Rds W R 1 ao l.length (bytes l)) (hcap : l.length <= cap) :
  Does1 W Tryz.prog 198 [.slice ao l.length cap] R (.int .u8 ((kindB l).toNat : Int)) R := by
 (refine Does.enter Tryz.func198 Tryz.ntmps198 rfl rfl ?_)
 refine w ?_
 refine zg ?_ ?_ <;> intro hb
 ·
  have hb : l.length ≠ 128 := by have := hb; simp at this; omega
  refine w ?_
  refine VE.done1 rfl ?_ ?_
  · rw [kindB_no (fun h => absurd h hb)]; rfl
  · exact Ent.refl
 have h128 : l.length = 128 := by have := hb; simp at this; omega
 obtain ⟨a, rfl⟩ : ∃ a, ao = some a := by cases ao with | none => have := hr.nil rfl; omega | some a => exact ⟨a, rfl⟩
 have hb1 := hr
 refine w ?_
 refine VO.pure rfl rfl (PureAt.toStr (l := l.take 4) tab_ok rfl rfl rfl rfl (rds_head hr 4 (by omega)) rfl) rfl ?_
 refine VO.pure rfl rfl (PureAt.strEq (b := magicL) tab_ok rfl rfl rfl rfl) rfl ?_
 refine w ?_
 refine zg ?_ ?_ <;> intro hb
 ·
  have hb : l.take 4 ≠ magicL := by have := hb; simp at this; exact this
  refine w ?_
  refine VE.done1 rfl ?_ ?_
  · rw [kindB_no (fun _ h => absurd h hb)]; rfl
  · exact Ent.refl
 have hm : l.take 4 = magicL := by have := hb; simp at this; exact this
 refine w ?_
 refine zk ?_ ?_ <;> intro hc
 ·
  have h3 : 3 < (l[4]).toNat := by have := of_decide_eq_true hc; omega
  refine w ?_
  refine VE.done1 rfl ?_ ?_
  · rw [kindB_no (fun _ _ => by rw [getD4 (by omega)]; exact h3)]; rfl
  · exact Ent.refl
 ·
  have h3 : (l[4]).toNat <= 3 := by have := of_decide_eq_false hc; omega
  refine w ?_
  refine VE.done1 rfl ?_ ?_
  · rw [kindB_yes h128 hm (by rw [getD4 (by omega)]; exact h3), getD4 (by omega)]
  · exact Ent.refl
structure HdrD.fit (h : HdrD) : Prop where
  epoch : h.epoch < 2 ^ 64
  seq : h.seq < 2 ^ 64
  index : -9223372036854775808 <= h.index /\ h.index <= 9223372036854775807
  count : -9223372036854775808 <= h.count /\ h.count <= 9223372036854775807
  member : -9223372036854775808 <= h.member /\ h.member <= 9223372036854775807
  row : -9223372036854775808 <= h.row /\ h.row <= 9223372036854775807
  sum : h.sum < 4294967296
structure CmtD.fit (h : CmtD) : Prop where
  epoch : h.epoch < 2 ^ 64
  seq : h.seq < 2 ^ 64
  count : -9223372036854775808 <= h.count /\ h.count <= 9223372036854775807
  sum : h.sum < 4294967296
structure ChkD.fit (h : ChkD) : Prop where
  epoch : h.epoch < 2 ^ 64
  seq : h.seq < 2 ^ 64
  tail : -9223372036854775808 <= h.tail /\ h.tail <= 9223372036854775807
theorem hdr_iff (h : HdrD) : h.good ↔ (h.epoch <= 4611686018427387904 /\ 1 <= h.seq /\ h.seq <= 4611686018427387904) /\ 1 <= h.count /\ h.count <= 1023 /\ 0 <= h.index /\ h.index <= h.count - 1 /\ 0 <= h.member /\ h.member <= 15 /\ 0 <= h.row /\ h.row <= 4095 := by
 unfold HdrD.good cntOk
 constructor
 · rintro ⟨a, ⟨b, c⟩, ⟨d, e⟩, ⟨f, g⟩, i, j⟩; exact ⟨a, b, c, d, e, f, g, i, j⟩
 · rintro ⟨a, b, c, d, e, f, g, i, j⟩; exact ⟨a, ⟨b, c⟩, ⟨d, e⟩, ⟨f, g⟩, i, j⟩
theorem cmt_iff (h : CmtD) : h.good ↔ (h.epoch <= 4611686018427387904 /\ 1 <= h.seq /\ h.seq <= 4611686018427387904) /\ 1 <= h.count /\ h.count <= 1023 := Iff.rfl
theorem chk_iff (h : ChkD) : h.good ↔ (h.epoch <= 4611686018427387904 /\ 1 <= h.seq /\ h.seq <= 4611686018427387904) /\ 0 <= h.tail /\ h.tail <= 2047 := Iff.rfl
theorem hdr_bad {h : HdrD} (g : ¬ h.good) : h.enc = (80, []) := if_neg g
theorem cmt_bad {h : CmtD} (g : ¬ h.good) : h.enc = (80, []) := if_neg g
theorem chk_bad {h : ChkD} (g : ¬ h.good) : h.enc = (80, []) := if_neg g
theorem hdr_ok {h : HdrD} (g : h.good) : h.enc = (0, sectF 1 h.epoch h.seq h.rest) := if_pos g
theorem cmt_ok {h : CmtD} (g : h.good) : h.enc = (0, sectF 2 h.epoch h.seq h.rest) := if_pos g
theorem chk_ok {h : ChkD} (g : h.good) : h.enc = (0, sectF 3 h.epoch h.seq h.rest) := if_pos g
theorem i64_nat {v : Nat} (h : v < 4294967296) : IntKind.i64.wrap (v : Int) = v := IntWalk.i64_in _ ⟨by omega, by omega⟩
theorem u32_nat {v : Nat} (h : v < 4294967296) : IntKind.u32.wrap (v : Int) = v := by rw [wrap32_of, Nat.mod_eq_of_lt h]
theorem bitN_lt (b : Bool) : bitN b < 2 ^ 64 := by cases b <;> decide
abbrev OwnB (x : Option Addr × Nat) (l : List UInt8) : SProp := Own 5 1 (.slice x.1 l.length x.2) l.length (bytes l)
theorem img_len {k : DiskD} (hk : k.ok) : k.last.flatten.length = k.last.length * 128 := by
 have : ∀ l : List (List UInt8), (∀ b ∈ l, b.length = 128) -> l.flatten.length = l.length * 128 := fun l => by
  induction l with
  | nil => intro _; rfl
  | cons a r ih => intro h; rw [List.flatten_cons, List.length_append, ih fun b hb => h b (.tail _ hb), h a (.head _), List.length_cons, Nat.add_mul]; omega
 exact this k.last hk.last
def DiskD.rd (k : DiskD) (a : Int) : List UInt8 × Int := if k.may a = 0 then (k.look a.toNat, 0) else ([], k.may a)
def DiskD.wr (k : DiskD) (a : Int) (b : List UInt8) : Int × DiskD := if k.may a ≠ 0 then (k.may a, k) else if b.length ≠ 128 then (4, k) else (0, k.write a.toNat b)
def DiskD.fl (k : DiskD) : Int × DiskD := if k.failed then (2, k) else (0, k.settle fun _ => true)
def DiskD.fail (k : DiskD) : DiskD := (DiskD.mk k.last k.cache true).settle fun _ => false
def DiskD.img (k : DiskD) : List UInt8 := if k.failed then [] else k.last.flatten
def DiskD.blank (n : Nat) : DiskD := ⟨List.replicate n zeroSec, [], false⟩
abbrev sliceB (x : Option Addr × Nat) (l : List UInt8) : Value := .slice x.1 l.length x.2
theorem drd_ok (d : Nat) (k : DiskD) (a : Int) :
  Does W Tryz.prog 121 [.pointer (some ⟨d, 0, none⟩), .int .i64 a] (DiskR d k :: R) (β := Option Addr × Nat) (fun x => x.1 = none -> (k.rd a).1.length = 0) (fun x => .tuple #[sliceB x (k.rd a).1, .int .u16 (k.rd a).2]) (fun x => OwnB x (k.rd a).1 :: DiskR d k :: R) := by
 by_cases h : k.may a = 0
 ·
  obtain ⟨hf, h0, h1⟩ := may_zero h
  obtain ⟨n, rfl⟩ := Int.eq_ofNat_of_zero_le h0
  have hn : n < k.last.length := by omega
  have e : k.rd (n : Int) = (k.look n, 0) := by unfold DiskD.rd; rw [if_pos h]; rfl
  rw [e]
  refine DoesK (fun w => DiskR.know) fun hk => ?_
  have hl := DiskD.look_128 hk hn
  refine Does.mono (dread_ok d k n hf hn) (fun x => (some x.1, x.2)) (fun _ _ h => by cases h) (fun x _ => by simp only [sliceB, hl]) fun x _ => ?_
  simp only [OwnB, hl]; exact Ent.refl
 ·
  have e : k.rd a = ([], k.may a) := by unfold DiskD.rd; rw [if_neg h]
  rw [e]
  exact Does1M (dread_bad d k a h) (none, 0) (fun _ => rfl) rfl fun w hw => hw.ownNil 5 1
theorem dwr_ok {ao : Option Addr} {cap : Nat} {b : List UInt8} (d : Nat) (k : DiskD) (a : Int) (hc : k.cache.length <= 1000000000) (hr : Rds W R 1 ao b.length (bytes b)) :
  Does1 W Tryz.prog 151 [.pointer (some ⟨d, 0, none⟩), .int .i64 a, .slice ao b.length cap] (DiskR d k :: R) (.int .u16 (k.wr a b).1) (DiskR d (k.wr a b).2 :: R) := by
 unfold DiskD.wr
 by_cases h : k.may a = 0
 ·
  rw [if_neg (by simpa using h)]
  by_cases hb : b.length = 128
  ·
   rw [if_neg (by simpa using hb)]
   obtain ⟨hf, h0, h1⟩ := may_zero h
   obtain ⟨n, rfl⟩ := Int.eq_ofNat_of_zero_le h0
   rw [hb] at hr ⊢
   exact write_ok d k n (by omega) hf hb hc hr
  · rw [if_pos hb]; exact write_len d k a h hb
 · rw [if_pos h]; exact write_bad d k a h
theorem dfl_ok (d : Nat) (k : DiskD) :
  Does1 W Tryz.prog 146 [.pointer (some ⟨d, 0, none⟩)] (DiskR d k :: R) (.int .u16 k.fl.1) (DiskR d k.fl.2 :: R) := by
 unfold DiskD.fl
 cases h : k.failed
 · exact flush_ok d k h
 · exact flush_bad d k h
theorem dimg_ok (d : Nat) (k : DiskD) :
  Does W Tryz.prog 117 [.pointer (some ⟨d, 0, none⟩)] (DiskR d k :: R) (β := Option Addr × Nat) (fun x => x.1 = none -> k.img.length = 0) (fun x => sliceB x k.img) (fun x => OwnB x k.img :: DiskR d k :: R) := by
 refine DoesA (A := fun _ => True) ?_ (fun x _ w hw => hw.ownNone (.head _))
 unfold DiskD.img
 cases h : k.failed
 ·
  refine DoesK (fun w => DiskR.know) fun hk => ?_
  have hl := img_len hk
  refine Does.mono (image_ok d k h) id (fun _ _ => trivial) (fun x _ => by simp [sliceB, hl]) fun x _ => ?_
  simp only [OwnB, hl, Bool.false_eq_true, if_false, id]; exact Ent.refl
 · exact Does1M (image_bad d k h) (none, 0) trivial rfl fun w hw => hw.ownNil 5 1
structure DevD where
  k : DiskD
  worn : Bool
  left : Int
structure SlotD where
  in_ : Option DevD
  aside : Option DevD
  coming : Option DevD
structure CntD where
  r : Int
  w : Int
  f : Int
structure BayD where
  slots : List SlotD
  dark : Bool
  trip : Int
  n : CntD
structure DevP where
  r : Nat
  d : Nat
  v : DevD
structure SlotP where
  in_ : Option DevP
  aside : Option DevP
  coming : Option DevP
def SlotP.D (s : SlotP) : SlotD := ⟨s.in_.map DevP.v, s.aside.map DevP.v, s.coming.map DevP.v⟩
abbrev devPtr (p : Option DevP) : Value := .pointer (p.map fun x => ⟨x.r, 0, none⟩)
def slotCells (s : SlotP) : List Value := [devPtr s.in_, devPtr s.aside, devPtr s.coming]
theorem slotCells_length (s : SlotP) : (slotCells s).length = 3 := rfl
theorem slotCells_one (l : List SlotP) : ∀ u ∈ l.flatMap slotCells, u.oneCell' = true := by
 intro u hu
 obtain ⟨s, _, h⟩ := List.mem_flatMap.1 hu
 simp only [slotCells, List.mem_cons, List.not_mem_nil, or_false] at h
 rcases h with h | h | h <;> subst h <;> rfl
abbrev devRow (p : DevP) : SProp := Row p.r 119 [.pointer (some ⟨p.d, 0, none⟩), .bool p.v.worn, .int .i64 p.v.left]
def devRes : Option DevP -> SProp
  | none => fact True
  | some p => Sl.star [devRow p, DiskR p.d p.v.k]
def slotRes (s : SlotP) : SProp := Sl.star [devRes s.in_, devRes s.aside, devRes s.coming]
abbrev bayRow (b : Nat) (D : BayD) (a : Addr) (n : Nat) : SProp := Row b 110 [.slice (some a) n n, .bool D.dark, .int .i64 D.trip, .int .i64 D.n.r, .int .i64 D.n.w, .int .i64 D.n.f]
abbrev slotsOwn (a : Addr) (sp : List SlotP) : SProp := Own 114 3 (.slice (some a) sp.length sp.length) sp.length (sp.flatMap slotCells)
abbrev BayO (b : Nat) (D : BayD) (a : Addr) (sp : List SlotP) (R : List SProp) : List SProp := bayRow b D a sp.length :: slotsOwn a sp :: (sp.map slotRes ++ R)
def BayR (b : Nat) (D : BayD) : SProp := ex fun x : Addr × List SlotP => Sl.star (fact (D.slots = x.2.map SlotP.D /\ x.2.length <= 17) :: BayO b D x.1 x.2 [])
theorem BayR.open {W w : World} {b : Nat} {D : BayD} {R : List SProp} (hw : Holds W (BayR b D :: R) w) : ∃ x : { x : Addr × List SlotP // D.slots = x.2.map SlotP.D /\ x.2.length <= 17 }, Holds W (BayO b D x.1.1 x.1.2 R) w := by
 obtain ⟨x, h⟩ := hw.exOpen
 have h := h.join
 refine ⟨⟨x, h.factOpen⟩, ?_⟩
 have h := h.tail
 have e : BayO b D x.1 x.2 [] ++ R = BayO b D x.1 x.2 R := by simp only [BayO, List.cons_append, List.append_assoc, List.nil_append]
 rw [<- e]; exact h
theorem BayR.shut {b : Nat} {D : BayD} {R : List SProp} {a : Addr} {sp : List SlotP} (h1 : D.slots = sp.map SlotP.D) (h2 : sp.length <= 17) : Ent W (BayO b D a sp R) (BayR b D :: R) := fun w hw =>
 Holds.exShut (a, sp) (Holds.nest (L := fact _ :: BayO b D a sp []) (by
  have h : Holds W (fact (D.slots = sp.map SlotP.D /\ sp.length <= 17) :: BayO b D a sp R) w := hw.factShut ⟨h1, h2⟩
  simpa only [BayO, List.cons_append, List.append_assoc, List.nil_append] using h))
theorem BayR.know {W w : World} {b : Nat} {D : BayD} {R : List SProp} (hw : Holds W (BayR b D :: R) w) : D.slots.length <= 17 := by
 obtain ⟨⟨x, h1, h2⟩, _⟩ := BayR.open hw
 rw [h1, List.length_map]; exact h2
theorem slotOut (l1 l2 : List SlotP) (s : SlotP) (R : List SProp) : Ent W ((l1 ++ s :: l2).map slotRes ++ R) (devRes s.in_ :: devRes s.aside :: devRes s.coming :: ((l1 ++ l2).map slotRes ++ R)) := fun w hw => by
 have p : ((l1 ++ s :: l2).map slotRes ++ R).Perm (slotRes s :: ((l1 ++ l2).map slotRes ++ R)) := by
  simp only [List.map_append, List.map_cons, List.append_assoc, List.cons_append]
  exact List.perm_middle
 exact (hw.perm p).join
theorem slotIn (l1 l2 : List SlotP) (s : SlotP) (R : List SProp) : Ent W (devRes s.in_ :: devRes s.aside :: devRes s.coming :: ((l1 ++ l2).map slotRes ++ R)) ((l1 ++ s :: l2).map slotRes ++ R) := fun w hw => by
 have p : (slotRes s :: ((l1 ++ l2).map slotRes ++ R)).Perm ((l1 ++ s :: l2).map slotRes ++ R) := by
  simp only [List.map_append, List.map_cons, List.append_assoc, List.cons_append]
  exact List.perm_middle.symm
 exact (Holds.nest (L := [_, _, _]) hw).perm p
theorem devOut (p : DevP) (R : List SProp) : Ent W (devRes (some p) :: R) (devRow p :: DiskR p.d p.v.k :: R) := fun w hw => Holds.join (L := [_, _]) hw
theorem devIn (p : DevP) (R : List SProp) : Ent W (devRow p :: DiskR p.d p.v.k :: R) (devRes (some p) :: R) := fun w hw => Holds.nest (L := [_, _]) hw
theorem devNone (R : List SProp) : Ent W R (devRes none :: R) := fun w hw => hw.factShut trivial
theorem devDrop (p : Option DevP) (R : List SProp) : Ent W (devRes p :: R) R := fun w hw => hw.tail
def inRange (n : Nat) (k : Int) : Bool := decide (0 <= k /\ k < (n : Int))
def slotAt (a : Addr) (n : Nat) (k : Int) : Option Addr := if inRange n k then some (a.add (k.toNat * 3)) else none
def inP (sp : List SlotP) (k : Int) : Option DevP := if 0 <= k then (sp[k.toNat]?).bind SlotP.in_ else none
def BayD.dev (D : BayD) (k : Int) : Option DevD := if 0 <= k then (D.slots[k.toNat]?).bind SlotD.in_ else none
theorem inP_D {D : BayD} {sp : List SlotP} (h : D.slots = sp.map SlotP.D) (k : Int) : D.dev k = (inP sp k).map DevP.v := by
 unfold BayD.dev inP
 split
 ·
  rw [h, List.getElem?_map]
  cases sp[k.toNat]? with
  | none => rfl
  | some s => rfl
 · rfl
theorem inP_range {sp : List SlotP} {k : Int} (h : inRange sp.length k = false) : inP sp k = none := by
 unfold inRange at h
 have h := of_decide_eq_false h
 unfold inP
 split
 · rw [List.getElem?_eq_none (by omega)]; rfl
 · rfl
theorem bayat_ok {D : BayD} {a : Addr} {n : Nat} (b : Nat) (k : Int) (hn : n <= 17) :
  Does1 W Tryz.prog 114 [.pointer (some ⟨b, 0, none⟩), .int .i64 k] (bayRow b D a n :: R) (.pointer (slotAt a n k)) (bayRow b D a n :: R) := by
 (refine Does.enter Tryz.func114 Tryz.ntmps114 rfl rfl ?_)
 refine w ?_
 refine zg ?_ ?_ <;> intro hb
 ·
  have h : k < 0 := of_decide_eq_true hb
  refine w ?_
  refine VE.done1 rfl ?_ ?_
  · unfold slotAt inRange; rw [if_neg (by simp; omega)]
  · exact Ent.refl
 have h0 : ¬ k < 0 := of_decide_eq_false hb
 refine w ?_
 refine zk ?_ ?_ <;> intro hc
 ·
  have h : (n : Int) <= k := by simpa using hc
  refine w ?_
  refine VE.done1 rfl ?_ ?_
  · unfold slotAt inRange; rw [if_neg (by simp; omega)]
  · exact Ent.refl
 have h1 : ¬ (n : Int) <= k := by simpa using hc
 obtain ⟨i, rfl⟩ := Int.eq_ofNat_of_zero_le (show 0 <= k by omega)
 refine w ?_
 refine VE.done1 rfl ?_ ?_
 · unfold slotAt inRange; rw [if_pos (by simp; omega)]; rfl
 · exact Ent.refl
theorem slots_rds {H : List SProp} {a : Addr} {sp : List SlotP} (m : slotsOwn a sp ∈ H) : Rds W H 3 (some a) sp.length (sp.flatMap slotCells) :=
 Rds.own (slotCells_one _) m (flat_length _ fun _ _ => rfl) (fun h => by cases h)
theorem slots_get (sp : List SlotP) (i j : Nat) (h : i < sp.length) (hj : j < 3) : (sp.flatMap slotCells)[i * 3 + j]? = (slotCells sp[i])[j]? := by
 rw [<- flat_part (g := slotCells) (w := 3) sp i h (fun _ _ => rfl), List.getElem?_take, if_pos hj, List.getElem?_drop]
theorem inP_at {sp : List SlotP} {i : Nat} (h : i < sp.length) : inP sp (i : Int) = sp[i].in_ := by
 unfold inP
 rw [if_pos (by omega), Int.toNat_natCast, List.getElem?_eq_getElem h]; rfl
theorem bayin_ok {D : BayD} {a : Addr} {sp : List SlotP} (b : Nat) (k : Int) (hn : sp.length <= 17) :
  Does1 W Tryz.prog 65 [.pointer (some ⟨b, 0, none⟩), .int .i64 k] (bayRow b D a sp.length :: slotsOwn a sp :: R) (devPtr (inP sp k)) (bayRow b D a sp.length :: slotsOwn a sp :: R) := by
 (refine Does.enter Tryz.func65 Tryz.ntmps65 rfl rfl ?_)
 refine w ?_
 ((refine zq ?_; refine zd rfl rfl (bayat_ok (D := D) (a := a) (n := sp.length) b k hn) ?_); intro _ _)
 refine w ?_
 unfold slotAt
 cases hr : inRange sp.length k
 ·
  refine w ?_
  refine VE.done1 rfl ?_ ?_
  · rw [inP_range hr]; rfl
  · exact Ent.refl
 ·
  obtain ⟨h0, h1⟩ : 0 <= k /\ k < (sp.length : Int) := of_decide_eq_true hr
  obtain ⟨i, rfl⟩ := Int.eq_ofNat_of_zero_le h0
  have hi : i < sp.length := by omega
  refine w ?_
  refine VO.pure rfl rfl (.ldRc tab_ok rfl rfl (slots_rds zm) ((slots_get sp i 0 hi (by decide)).trans rfl)) rfl ?_
  refine w ?_
  refine VE.done1 rfl ?_ ?_
  · rw [inP_at hi]
  · exact Ent.refl
def thereE (n : Nat) (p : Bool) (k : Int) : Int := if inRange n k then (if p then 0 else 51) else 1
theorem baythere_ok {D : BayD} {a : Addr} {sp : List SlotP} (b : Nat) (k : Int) (hn : sp.length <= 17) :
  Does1 W Tryz.prog 116 [.pointer (some ⟨b, 0, none⟩), .int .i64 k] (bayRow b D a sp.length :: slotsOwn a sp :: R) (.tuple #[devPtr (inP sp k), .int .u16 (thereE sp.length (inP sp k).isSome k)]) (bayRow b D a sp.length :: slotsOwn a sp :: R) := by
 (refine Does.enter Tryz.func116 Tryz.ntmps116 rfl rfl ?_)
 refine w ?_
 ((refine zq ?_; refine zd rfl rfl (bayin_ok (D := D) (a := a) (sp := sp) b k hn) ?_); intro _ _)
 refine w ?_
 ((refine zq ?_; refine zd rfl rfl (bayat_ok (D := D) (a := a) (n := sp.length) b k hn) ?_); intro _ _)
 refine w ?_
 unfold slotAt thereE
 cases hr : inRange sp.length k
 ·
  refine w ?_
  refine VE.done1 rfl ?_ ?_
  · rw [inP_range hr]; rfl
  · exact Ent.refl
 ·
  refine w ?_
  cases hp : inP sp k
  ·
   refine w ?_
   refine VE.done1 rfl ?_ ?_
   · rfl
   · exact Ent.refl
  ·
   refine w ?_
   refine VE.done1 rfl ?_ ?_
   · rfl
   · exact Ent.refl
theorem inP_split {sp : List SlotP} {k : Int} {p : DevP} (h : inP sp k = some p) : ∃ (l1 : List SlotP) (s : SlotP) (l2 : List SlotP), sp = l1 ++ s :: l2 /\ k = (l1.length : Int) /\ s.in_ = some p := by
  unfold inP at h
  split at h
  · rename_i h0
    obtain ⟨i, rfl⟩ := Int.eq_ofNat_of_zero_le h0
    rw [Int.toNat_natCast] at h
    cases hg : sp[i]? with
    | none => rw [hg] at h; cases h
    | some s =>
      rw [hg] at h
      obtain ⟨hi, e⟩ := List.getElem?_eq_some_iff.1 hg
      refine ⟨sp.take i, s, sp.drop (i + 1), ?_, by rw [List.length_take, Nat.min_eq_left (by omega)], h⟩
      rw [<- e, <- List.drop_eq_getElem_cons hi, List.take_append_drop]
  · cases h
abbrev BayX (b : Nat) (D : BayD) (a : Addr) (l1 : List SlotP) (s : SlotP) (l2 : List SlotP) (R : List SProp) : List SProp :=
  devRes s.aside :: devRes s.coming :: bayRow b D a (l1 ++ s :: l2).length :: slotsOwn a (l1 ++ s :: l2) :: ((l1 ++ l2).map slotRes ++ R)
theorem bayOut {b : Nat} {D : BayD} {a : Addr} {l1 l2 : List SlotP} {s : SlotP} {R : List SProp} : Ent W (BayO b D a (l1 ++ s :: l2) R) (devRes s.in_ :: BayX b D a l1 s l2 R) := fun w hw => by
 have p1 : (BayO b D a (l1 ++ s :: l2) R).Perm ((l1 ++ s :: l2).map slotRes ++ (bayRow b D a (l1 ++ s :: l2).length :: slotsOwn a (l1 ++ s :: l2) :: R)) := by
  refine List.Perm.trans ?_ List.perm_middle.symm
  exact List.Perm.cons _ List.perm_middle.symm
 have h := slotOut l1 l2 s _ w (hw.perm p1)
 refine h.perm (List.Perm.cons _ (List.Perm.cons _ (List.Perm.cons _ ?_)))
 refine List.Perm.trans List.perm_middle ?_
 exact List.Perm.cons _ List.perm_middle
theorem bayIn {b : Nat} {D : BayD} {a : Addr} {l1 l2 : List SlotP} {s : SlotP} {R : List SProp} : Ent W (devRes s.in_ :: BayX b D a l1 s l2 R) (BayO b D a (l1 ++ s :: l2) R) := fun w hw => by
 have p1 : (BayO b D a (l1 ++ s :: l2) R).Perm ((l1 ++ s :: l2).map slotRes ++ (bayRow b D a (l1 ++ s :: l2).length :: slotsOwn a (l1 ++ s :: l2) :: R)) := by
  refine List.Perm.trans ?_ List.perm_middle.symm
  exact List.Perm.cons _ List.perm_middle.symm
 have p2 : (devRes s.in_ :: devRes s.aside :: devRes s.coming :: ((l1 ++ l2).map slotRes ++ (bayRow b D a (l1 ++ s :: l2).length :: slotsOwn a (l1 ++ s :: l2) :: R))).Perm (devRes s.in_ :: BayX b D a l1 s l2 R) := by
  refine List.Perm.cons _ (List.Perm.cons _ (List.Perm.cons _ ?_))
  refine List.Perm.trans List.perm_middle ?_
  exact List.Perm.cons _ List.perm_middle
 exact (slotIn l1 l2 s _ w (hw.perm p2.symm)).perm p1.symm
theorem bayOutP {b : Nat} {D : BayD} {a : Addr} {l1 l2 : List SlotP} {s : SlotP} {R : List SProp} {p : DevP} (hs : s.in_ = some p) : Ent W (BayO b D a (l1 ++ s :: l2) R) (devRow p :: DiskR p.d p.v.k :: BayX b D a l1 s l2 R) := fun w hw => by
 have h := bayOut w hw
 rw [hs] at h
 exact devOut p _ w h
theorem bayInP {b : Nat} {D D' : BayD} {a : Addr} {l1 l2 : List SlotP} {s : SlotP} {R : List SProp} {p : DevP} (hs : s.in_ = some p) (v : DevD) (h1 : D'.slots = (l1 ++ { s with in_ := some ⟨p.r, p.d, v⟩ } :: l2).map SlotP.D) (h2 : (l1 ++ s :: l2).length <= 17) :
  Ent W (devRow ⟨p.r, p.d, v⟩ :: DiskR p.d v.k :: BayX b D' a l1 s l2 R) (BayR b D' :: R) := fun w hw => by
 have e1 : (l1 ++ { s with in_ := some ⟨p.r, p.d, v⟩ } :: l2).length = (l1 ++ s :: l2).length := by simp
 have e2 : slotsOwn a (l1 ++ { s with in_ := some ⟨p.r, p.d, v⟩ } :: l2) = slotsOwn a (l1 ++ s :: l2) := by
  unfold slotsOwn
  rw [e1]
  congr 1
  simp only [List.flatMap_append, List.flatMap_cons]
  congr 2
  simp [slotCells, devPtr, hs]
 refine BayR.shut (a := a) h1 (by rw [e1]; exact h2) w ?_
 refine bayIn w ?_
 refine devIn ⟨p.r, p.d, v⟩ _ w ?_
 simp only [BayX, e1, e2]
 exact hw
theorem bayInC {b : Nat} {D D' : BayD} {a : Addr} {l1 l2 : List SlotP} {s : SlotP} {R : List SProp} {p : DevP} (P : SProp) (hs : s.in_ = some p) (v : DevD) (h1 : D'.slots = (l1 ++ { s with in_ := some ⟨p.r, p.d, v⟩ } :: l2).map SlotP.D) (h2 : (l1 ++ s :: l2).length <= 17) :
  Ent W (P :: devRow ⟨p.r, p.d, v⟩ :: DiskR p.d v.k :: BayX b D' a l1 s l2 R) (P :: BayR b D' :: R) :=
 Ent.ctx (X := [P]) (L := devRow ⟨p.r, p.d, v⟩ :: DiskR p.d v.k :: devRes s.aside :: devRes s.coming :: bayRow b D' a (l1 ++ s :: l2).length :: slotsOwn a (l1 ++ s :: l2) :: (l1 ++ l2).map slotRes) (L' := [BayR b D']) (bayInP (D := D) hs v h1 h2)
def BayD.setIn (D : BayD) (i : Nat) (v : DevD) : BayD := { D with slots := D.slots.set i { (D.slots[i]?.getD ⟨none, none, none⟩) with in_ := some v } }
theorem setIn_slots {D : BayD} {l1 l2 : List SlotP} {s : SlotP} {p : DevP} (h : D.slots = (l1 ++ s :: l2).map SlotP.D) (v : DevD) : (D.setIn l1.length v).slots = (l1 ++ { s with in_ := some ⟨p.r, p.d, v⟩ } :: l2).map SlotP.D := by
 unfold BayD.setIn
 simp only [h, List.map_append, List.map_cons]
 rw [List.set_append_right _ _ (by simp), List.getElem?_append_right (by simp)]
 simp [SlotP.D]
theorem bayhas_ok (b : Nat) (D : BayD) (k : Int) :
    Does1 W Tryz.prog 26 [.pointer (some ⟨b, 0, none⟩), .int .i64 k] (BayR b D :: R) (.bool ((D.dev k).any fun v => !v.k.failed)) (BayR b D :: R) := by
  (refine Does.enter Tryz.func26 Tryz.ntmps26 rfl rfl ?_)
  refine VC.obtain (fun w => BayR.open) ?_
  rintro ⟨⟨a, sp⟩, h1, h2⟩
  dsimp only at h1 h2 ⊢
  refine w ?_
  ((refine zq ?_; refine zd rfl rfl (bayin_ok (D := D) (a := a) (sp := sp) b k h2) ?_); intro _ _)
  refine w ?_
  rw [inP_D h1]
  cases hp : inP sp k with
  | none =>
    refine w ?_
    refine VE.done1 rfl ?_ ?_
    · rfl
    · exact BayR.shut h1 h2
  | some p =>
    obtain ⟨l1, s, l2, rfl, rfl, hs⟩ := inP_split hp
    dsimp only [devPtr, Option.map_some, Option.isNone_some, Bool.not_false]
    refine VO.ent (bayOutP hs) ?_
    refine w ?_
    ((refine zq ?_; refine zd rfl rfl (failed_ok p.d p.v.k) ?_); intro _ _)
    refine w ?_
    refine VE.done1 rfl ?_ ?_
    · rfl
    · refine Ent.trans Ent.re (bayInP (D := D) (p := p) hs p.v ?_ h2)
      rw [h1]; simp [SlotP.D, hs]
theorem baysectors_ok (b : Nat) (D : BayD) (k : Int) :
    Does1 W Tryz.prog 27 [.pointer (some ⟨b, 0, none⟩), .int .i64 k] (BayR b D :: R) (.int .i64 ((D.dev k).elim 0 fun v => v.k.last.length)) (BayR b D :: R) := by
  (refine Does.enter Tryz.func27 Tryz.ntmps27 rfl rfl ?_)
  refine VC.obtain (fun w => BayR.open) ?_
  rintro ⟨⟨a, sp⟩, h1, h2⟩
  dsimp only at h1 h2 ⊢
  refine w ?_
  ((refine zq ?_; refine zd rfl rfl (bayin_ok (D := D) (a := a) (sp := sp) b k h2) ?_); intro _ _)
  rw [inP_D h1]
  cases hp : inP sp k with
  | none =>
    dsimp only [devPtr, Option.map_none]
    refine w ?_
    refine VE.done1 rfl ?_ ?_
    · rfl
    · exact BayR.shut h1 h2
  | some p =>
    obtain ⟨l1, s, l2, rfl, rfl, hs⟩ := inP_split hp
    dsimp only [devPtr, Option.map_some, Option.isNone_some, Bool.not_false]
    refine w ?_
    refine VO.ent (bayOutP hs) ?_
    refine w ?_
    ((refine zq ?_; refine zd rfl rfl (dsectors_ok p.d p.v.k) ?_); intro _ _)
    refine w ?_
    refine VE.done1 rfl ?_ ?_
    · rfl
    · refine Ent.trans Ent.re (bayInP (D := D) (p := p) hs p.v ?_ h2)
      rw [h1]; simp [SlotP.D, hs]
def BayD.image (D : BayD) (k : Int) : List UInt8 × Int := match D.dev k with
  | some v => (v.k.img, 0)
  | none => ([], thereE D.slots.length false k)
theorem bayimage_ok (b : Nat) (D : BayD) (k : Int) :
    Does W Tryz.prog 63 [.pointer (some ⟨b, 0, none⟩), .int .i64 k] (BayR b D :: R) (β := Option Addr × Nat) (fun x => x.1 = none -> (D.image k).1.length = 0) (fun x => .tuple #[sliceB x (D.image k).1, .int .u16 (D.image k).2]) (fun x => OwnB x (D.image k).1 :: BayR b D :: R) := by
  refine DoesA (A := fun _ => True) ?_ (fun x _ w hw => hw.ownNone (.head _))
  (refine Does.enter Tryz.func63 Tryz.ntmps63 rfl rfl ?_)
  refine VC.obtain (fun w => BayR.open) ?_
  rintro ⟨⟨a, sp⟩, h1, h2⟩
  dsimp only at h1 h2 ⊢
  refine w ?_
  ((refine zq ?_; refine zd rfl rfl (baythere_ok (D := D) (a := a) (sp := sp) b k h2) ?_); intro _ _)
  unfold BayD.image
  rw [inP_D h1, show D.slots.length = sp.length by rw [h1, List.length_map]]
  cases hp : inP sp k with
  | none =>
    dsimp only [devPtr, Option.map_none, Option.isSome_none]
    refine w ?_
    have he : thereE sp.length false k ≠ 0 := by unfold thereE; split <;> simp
    (refine VC.condTe rfl rfl (by simpa using he) ?_)
    refine w ?_
    refine VE.done (none, 0) rfl trivial rfl fun w hw => (BayR.shut h1 h2 w hw).ownNil 5 1
  | some p =>
    obtain ⟨l1, s, l2, rfl, rfl, hs⟩ := inP_split hp
    dsimp only [devPtr, Option.map_some, Option.isSome_some]
    have he : thereE (l1 ++ s :: l2).length true (l1.length : Int) = 0 := by unfold thereE inRange; rw [if_pos (by simp; omega)]; rfl
    rw [he]
    refine w ?_
    refine VO.ent (bayOutP hs) ?_
    refine w ?_
    (refine zq ?_; refine zd rfl rfl (dimg_ok p.d p.v.k) ?_)
    intro x _
    refine w ?_
    refine VE.done x rfl trivial rfl ?_
    refine Ent.trans Ent.re (bayInC (D := D) (p := p) _ hs p.v ?_ h2)
    rw [h1]; simp [SlotP.D, hs]
def DevD.use (v : DevD) : DevD := if v.worn = false then v else if v.left = 0 then ⟨v.k.fail, false, v.left⟩ else ⟨v.k, v.worn, IntKind.i64.wrap (v.left - 1)⟩
abbrev devCells (d : Nat) (v : DevD) : List Value := [.pointer (some ⟨d, 0, none⟩), .bool v.worn, .int .i64 v.left]
theorem use_ok (r d : Nat) (v : DevD) :
  Does1 W Tryz.prog 158 [.pointer (some ⟨r, 0, none⟩)] (Row r 119 (devCells d v) :: DiskR d v.k :: R) (.tuple #[]) (Row r 119 (devCells d v.use) :: DiskR d v.use.k :: R) := by
 (refine Does.enter Tryz.func158 Tryz.ntmps158 rfl rfl ?_)
 unfold DevD.use
 refine w ?_
 refine zk ?_ ?_ <;> intro hc
 ·
  have hw : v.worn = false := by simpa using hc
  refine w ?_
  (refine VE.done1N rfl ?_ ?_)
  · rfl
  · rw [if_pos hw]; exact Ent.refl
 ·
  have hw : v.worn ≠ false := by simpa using hc
  rw [if_neg hw]
  refine w ?_
  refine zk ?_ ?_ <;> intro hc
  ·
   have h0 : v.left = 0 := by simpa using hc
   refine w ?_
   ((refine zq ?_; refine zd rfl rfl (fail_ok d v.k) ?_); intro _ _)
   refine w ?_
   (refine VE.done1N rfl ?_ ?_)
   · rfl
   · rw [if_pos h0]; exact Ent.re
  ·
   have h0 : ¬ v.left = 0 := by simpa using hc
   refine w ?_
   (refine VE.done1N rfl ?_ ?_)
   · rfl
   · rw [if_neg h0]; exact Ent.re
def BayD.pow (D : BayD) : BayD := if D.trip = 0 then { D with dark := true, trip := -1 } else D
def CntD.inc (c : CntD) : Nat -> CntD
  | 0 => { c with r := IntKind.i64.wrap (c.r + 1) }
  | 1 => { c with w := IntKind.i64.wrap (c.w + 1) }
  | _ => { c with f := IntKind.i64.wrap (c.f + 1) }
def BayD.less (D : BayD) : BayD := { D with trip := if 0 < D.trip then IntKind.i64.wrap (D.trip - 1) else D.trip }
def BayD.step (D : BayD) (j : Nat) : BayD := { D with trip := if 0 < D.trip then IntKind.i64.wrap (D.trip - 1) else D.trip, n := D.n.inc j }
def BayD.refuse (D : BayD) (k : Int) : Int := if inRange D.slots.length k = false then 1 else if D.pow.dark then 50 else thereE D.slots.length (D.dev k).isSome k
def BayD.ahead (D : BayD) (k : Int) (j : Nat) : BayD := if inRange D.slots.length k = false then D else if D.pow.dark then D.pow else D.pow.step j
theorem BayD.pow_slots (D : BayD) : D.pow.slots = D.slots := by unfold BayD.pow; split <;> rfl
theorem BayD.ahead_slots (D : BayD) (k : Int) (j : Nat) : (D.ahead k j).slots = D.slots := by
 unfold BayD.ahead; split
 · rfl
 ·
  split
  · exact D.pow_slots
  · exact D.pow_slots
theorem breads_ok (b : Nat) : Does1 W Tryz.prog 119 [.pointer (some ⟨b, 3, none⟩)] R (.pointer (some ⟨b, 3 + 0, none⟩)) R := by
 (refine Does.enter Tryz.func119 Tryz.ntmps119 rfl rfl ?_)
 refine w ?_
 (first | exact VE.done1 rfl rfl Ent.refl | exact VE.done1N rfl rfl Ent.refl)
theorem writes_ok (b : Nat) : Does1 W Tryz.prog 149 [.pointer (some ⟨b, 3, none⟩)] R (.pointer (some ⟨b, 3 + 1, none⟩)) R := by
 (refine Does.enter Tryz.func149 Tryz.ntmps149 rfl rfl ?_)
 refine w ?_
 (first | exact VE.done1 rfl rfl Ent.refl | exact VE.done1N rfl rfl Ent.refl)
theorem flushes_ok (b : Nat) : Does1 W Tryz.prog 144 [.pointer (some ⟨b, 3, none⟩)] R (.pointer (some ⟨b, 3 + 2, none⟩)) R := by
 (refine Does.enter Tryz.func144 Tryz.ntmps144 rfl rfl ?_)
 refine w ?_
 (first | exact VE.done1 rfl rfl Ent.refl | exact VE.done1N rfl rfl Ent.refl)
def BayD.dv (D : BayD) (k : Int) : DevD := ((D.dev k).getD ⟨⟨[], [], false⟩, false, 0⟩).use
theorem inRange_at {l1 l2 : List SlotP} {s : SlotP} : inRange (l1 ++ s :: l2).length (l1.length : Int) = true := by unfold inRange; simp; omega
theorem operate_ok {gd gc : FuncId} {cp : Array Value} {γ : Type} {A : γ -> Prop} {res : γ -> Value} {G : γ -> List SProp} {kf : DiskD -> DiskD} (b : Nat) (D : BayD) (k : Int) (j : Nat) (hj : j < 3)
    (hcf : ∀ a w, (callFunc gc a).run Tryz.prog w = .ok (.enter gc a) w) (hdf : ∀ a w, (callFunc gd a).run Tryz.prog w = .ok (.enter gd a) w)
    (hcount : ∀ X : List SProp, Does1 W Tryz.prog gc [.pointer (some ⟨b, 3, none⟩)] X (.pointer (some ⟨b, 3 + j, none⟩)) X)
    (hdo : ∀ (r d : Nat), (D.dev k).isSome = true -> D.refuse k = 0 -> ∀ X : List SProp, Does W Tryz.prog gd (.pointer (some ⟨r, 0, none⟩) :: cp.toList) (Row r 119 (devCells d (D.dv k)) :: DiskR d (D.dv k).k :: (X ++ R)) A res (fun x => Row r 119 (devCells d (D.dv k)) :: DiskR d (kf (D.dv k).k) :: (X ++ G x))) :
    Does W Tryz.prog 118 [.pointer (some ⟨b, 0, none⟩), .int .i64 k, .func (.func gc) #[] #[], .func (.func gd) #[] cp] (BayR b D :: R) (β := Option γ)
      (fun x => x.elim (D.refuse k ≠ 0) fun y => D.refuse k = 0 /\ A y) (fun x => x.elim (.int .u16 (D.refuse k)) res)
      (fun x => x.elim (BayR b (D.ahead k j) :: R) fun y => BayR b ((D.ahead k j).setIn k.toNat ⟨kf (D.dv k).k, (D.dv k).worn, (D.dv k).left⟩) :: G y) := by
  (refine Does.enter Tryz.func118 Tryz.ntmps118 rfl rfl ?_)
  refine VC.obtain (fun w => BayR.open) ?_
  rintro ⟨⟨a, sp⟩, h1, h2⟩
  dsimp only at h1 h2 ⊢
  have hl : D.slots.length = sp.length := by rw [h1, List.length_map]
  refine w ?_
  ((refine zq ?_; refine zd rfl rfl (bayat_ok (D := D) (a := a) (n := sp.length) b k h2) ?_); intro _ _)
  unfold slotAt
  cases hin : inRange sp.length k
  · refine w ?_
    have hr : D.refuse k = 1 := by unfold BayD.refuse; rw [hl, if_pos hin]
    refine VE.done none rfl (by rw [Option.elim_none, hr]; decide) (by rw [Option.elim_none, hr]) ?_
    unfold BayD.ahead; rw [Option.elim_none, hl, if_pos hin]; exact BayR.shut h1 h2
  refine w ?_
  (first | refine VO.join (α := Unit) (fun _ => True) (fun _ => bayRow b D.pow a sp.length :: slotsOwn a sp :: (sp.map slotRes ++ R)) (fun _ => [(0, .pointer (some ⟨b, 0, none⟩)), (1, .int .i64 k), (2, .func (.func gc) #[] #[]), (3, .func (.func gd) #[] cp)]) ?_ ?_ | refine VC.joinTB (α := Unit) (fun _ => True) (fun _ => bayRow b D.pow a sp.length :: slotsOwn a sp :: (sp.map slotRes ++ R)) (fun _ => [(0, .pointer (some ⟨b, 0, none⟩)), (1, .int .i64 k), (2, .func (.func gc) #[] #[]), (3, .func (.func gd) #[] cp)]) ?_ ?_ | refine VC.joinB (α := Unit) (fun _ => True) (fun _ => bayRow b D.pow a sp.length :: slotsOwn a sp :: (sp.map slotRes ++ R)) (fun _ => [(0, .pointer (some ⟨b, 0, none⟩)), (1, .int .i64 k), (2, .func (.func gc) #[] #[]), (3, .func (.func gd) #[] cp)]) ?_ ?_ | refine VC.join (α := Unit) (fun _ => True) (fun _ => bayRow b D.pow a sp.length :: slotsOwn a sp :: (sp.map slotRes ++ R)) (fun _ => [(0, .pointer (some ⟨b, 0, none⟩)), (1, .int .i64 k), (2, .func (.func gc) #[] #[]), (3, .func (.func gd) #[] cp)]) ?_ ?_)
  · intro Q2 jn
    refine zk ?_ ?_ <;> intro hc
    · have h0 : D.trip = 0 := by simpa using hc
      refine w ?_
      refine jn.to () trivial ⟨rfl, rfl, rfl, rfl, trivial⟩ ?_
      unfold BayD.pow; rw [if_pos h0]; exact Ent.re
    · have h0 : ¬ D.trip = 0 := by simpa using hc
      refine w ?_
      refine jn.to () trivial ⟨rfl, rfl, rfl, rfl, trivial⟩ ?_
      unfold BayD.pow; rw [if_neg h0]; exact Ent.re
  intro _ _
  refine w ?_
  have h1p : D.pow.slots = sp.map SlotP.D := by rw [D.pow_slots, h1]
  refine zk ?_ ?_ <;> intro hc
  · have hdk : D.pow.dark = true := hc
    refine w ?_
    have hr : D.refuse k = 50 := by unfold BayD.refuse; rw [hl, if_neg (by simp [hin]), if_pos hdk]
    refine VE.done none rfl (by rw [Option.elim_none, hr]; decide) (by rw [Option.elim_none, hr]) ?_
    unfold BayD.ahead; rw [Option.elim_none, hl, if_neg (by simp [hin]), if_pos hdk]; exact BayR.shut h1p h2
  have hdk : ¬ D.pow.dark = true := by simpa using hc
  have hah : D.ahead k j = D.pow.step j := by unfold BayD.ahead; rw [hl, if_neg (by simp [hin]), if_neg hdk]
  rw [hah]
  generalize hP : D.pow = Pw at *
  refine w ?_
  (refine VC.join (α := Unit) (fun _ => True) (fun _ => bayRow b Pw.less a sp.length :: slotsOwn a sp :: (sp.map slotRes ++ R)) (fun _ => [(0, .pointer (some ⟨b, 0, none⟩)), (1, .int .i64 k), (2, .func (.func gc) #[] #[]), (3, .func (.func gd) #[] cp)]) ?_ ?_)
  · intro Q2 jn
    refine zk ?_ ?_ <;> intro hc
    · have h0 : 0 < Pw.trip := of_decide_eq_true hc
      refine w ?_
      refine jn.to () trivial ⟨rfl, rfl, rfl, rfl, trivial⟩ ?_
      unfold BayD.less; rw [if_pos h0]; exact Ent.re
    · have h0 : ¬ 0 < Pw.trip := of_decide_eq_false hc
      refine w ?_
      refine jn.to () trivial ⟨rfl, rfl, rfl, rfl, trivial⟩ ?_
      unfold BayD.less; rw [if_neg h0]; exact Ent.re
  intro _ _
  refine VC.seq rfl ?_
  refine VC.join (α := Unit) (fun _ => True) (fun _ => bayRow b (Pw.step j) a sp.length :: slotsOwn a sp :: (sp.map slotRes ++ R)) (fun _ => [(0, .pointer (some ⟨b, 0, none⟩)), (1, .int .i64 k), (3, .func (.func gd) #[] cp)]) ?_ ?_
  · intro Q2 jn
    rcases (show j = 0 \/ j = 1 \/ j = 2 by omega) with rfl | rfl | rfl
    · refine w ?_
      refine zq ?_
      refine OpV.call rfl rfl hcf (hcount _) Ent.refl rfl ?_
      intro _ _
      refine w ?_
      exact jn.to () trivial ⟨rfl, rfl, rfl, trivial⟩ Ent.re
    · refine w ?_
      refine zq ?_
      refine OpV.call rfl rfl hcf (hcount _) Ent.refl rfl ?_
      intro _ _
      refine w ?_
      exact jn.to () trivial ⟨rfl, rfl, rfl, trivial⟩ Ent.re
    · refine w ?_
      refine zq ?_
      refine OpV.call rfl rfl hcf (hcount _) Ent.refl rfl ?_
      intro _ _
      refine w ?_
      exact jn.to () trivial ⟨rfl, rfl, rfl, trivial⟩ Ent.re
  intro _ _
  refine w ?_
  have h1s : (Pw.step j).slots = sp.map SlotP.D := h1p
  ((refine zq ?_; refine zd rfl rfl (baythere_ok (D := Pw.step j) (a := a) (sp := sp) b k h2) ?_); intro _ _)
  have hrf : D.refuse k = thereE sp.length (inP sp k).isSome k := by unfold BayD.refuse; rw [hl, if_neg (by simp [hin]), hP, if_neg hdk, inP_D h1, Option.isSome_map]
  have hdv : D.dv k = (((inP sp k).map DevP.v).getD ⟨⟨[], [], false⟩, false, 0⟩).use := by unfold BayD.dv; rw [inP_D h1]
  rw [inP_D h1, hdv] at hdo
  rw [hdv]
  rw [hrf] at hdo ⊢
  cases hp : inP sp k with
  | none =>
    dsimp only [devPtr, Option.map_none, Option.isSome_none]
    have he : thereE sp.length false k ≠ 0 := by unfold thereE; split <;> simp
    refine w ?_
    (refine VC.condTe rfl rfl (by simpa using he) ?_)
    refine w ?_
    refine VE.done none rfl (by simpa using he) rfl ?_
    exact BayR.shut h1s h2
  | some p =>
    obtain ⟨l1, s, l2, rfl, rfl, hs⟩ := inP_split hp
    dsimp only [devPtr, Option.map_some, Option.isSome_some, Option.getD_some]
    have he : thereE (l1 ++ s :: l2).length true (l1.length : Int) = 0 := by unfold thereE; rw [inRange_at]; rfl
    rw [hp] at hdo
    dsimp only [Option.map_some, Option.isSome_some, Option.getD_some] at hdo
    rw [he] at hdo ⊢
    refine w ?_
    refine VO.ent (bayOutP hs) ?_
    refine w ?_
    ((refine zq ?_; refine zd rfl rfl (use_ok p.r p.d p.v) ?_); intro _ _)
    refine w ?_
    refine zq ?_
    refine OpV.call rfl rfl hdf (hdo p.r p.d rfl rfl (devRes s.aside :: devRes s.coming :: bayRow b (Pw.step j) a (l1 ++ s :: l2).length :: slotsOwn a (l1 ++ s :: l2) :: (l1 ++ l2).map slotRes)) ?_ rfl ?_
    · exact Ent.refl
    intro y hy
    refine w ?_
    refine VE.done (some y) rfl ⟨rfl, hy⟩ rfl ?_
    exact bayInP (b := b) (a := a) (R := G y) (D := Pw.step j) (D' := (Pw.step j).setIn l1.length ⟨kf p.v.use.k, p.v.use.worn, p.v.use.left⟩) (p := p) hs ⟨kf p.v.use.k, p.v.use.worn, p.v.use.left⟩ (setIn_slots (p := p) (D := Pw.step j) h1s _) h2
theorem push1 {A B C : SProp} (X R : List SProp) : Ent W (C :: A :: B :: (X ++ R)) (A :: B :: (X ++ (C :: R))) := fun w hw => hw.perm (by
 refine List.Perm.symm (List.Perm.trans (List.Perm.cons _ (List.Perm.cons _ List.perm_middle)) ?_)
 exact List.Perm.trans (List.Perm.cons _ (List.Perm.swap _ _ _)) (List.Perm.swap _ _ _))
theorem push3 {A B C D E : SProp} (X R : List SProp) : Ent W (C :: D :: E :: A :: B :: (X ++ R)) (A :: B :: (X ++ (C :: D :: E :: R))) := fun w hw => by
 have h1 := push1 (W := W) (A := A) (B := B) (C := E) X R
 have h2 := push1 (W := W) (A := A) (B := B) (C := D) X (E :: R)
 have h3 := push1 (W := W) (A := A) (B := B) (C := C) X (D :: E :: R)
 have k1 := Ent.ctx (X := [C, D]) (L := E :: A :: B :: X) (L' := A :: B :: (X ++ [E])) (R := R) (by
  have := push1 (W := W) (A := A) (B := B) (C := E) X ([C, D] ++ R)
  simpa using this)
 have k2 := Ent.ctx (X := [C]) (L := D :: A :: B :: X) (L' := A :: B :: (X ++ [D])) (R := E :: R) (by
  have := push1 (W := W) (A := A) (B := B) (C := D) X ([C] ++ (E :: R))
  simpa using this)
 exact h3 w (by simpa using k2 w (by simpa using k1 w hw))
theorem pull2 {A B C D : SProp} (X R : List SProp) : Ent W (A :: B :: (X ++ (C :: D :: R))) (C :: D :: A :: B :: (X ++ R)) := fun w hw => hw.perm (by
 have p1 : (X ++ (C :: D :: R)).Perm (C :: D :: (X ++ R)) := List.Perm.trans List.perm_middle (List.Perm.cons _ List.perm_middle)
 refine List.Perm.trans (List.Perm.cons _ (List.Perm.cons _ p1)) ?_
 exact List.Perm.append_right (X ++ R) (show [A, B, C, D].Perm [C, D, A, B] from List.perm_append_comm (l₁ := [A, B]) (l₂ := [C, D])))
theorem push2 {A B C D : SProp} (X R : List SProp) : Ent W (C :: D :: A :: B :: (X ++ R)) (A :: B :: (X ++ (C :: D :: R))) := fun w hw => hw.perm (by
 have p1 : (X ++ (C :: D :: R)).Perm (C :: D :: (X ++ R)) := List.Perm.trans List.perm_middle (List.Perm.cons _ List.perm_middle)
 refine List.Perm.symm (List.Perm.trans (List.Perm.cons _ (List.Perm.cons _ p1)) ?_)
 exact List.Perm.append_right (X ++ R) (show [A, B, C, D].Perm [C, D, A, B] from List.perm_append_comm (l₁ := [A, B]) (l₂ := [C, D])))
theorem readf_ok (r d ba bd : Nat) (v : DevD) (k : DiskD) (a : Int) (X : List SProp) :
  Does W Tryz.prog 120 [.pointer (some ⟨r, 0, none⟩), .pointer (some ⟨ba, 0, none⟩), .pointer (some ⟨bd, 0, none⟩)] (Row r 119 (devCells d v) :: DiskR d k :: (X ++ (Row ba 3 [.int .i64 a] :: Row bd 22 [.slice none 0 0] :: R)))
   (β := Option Addr × Nat) (fun x => x.1 = none -> (k.rd a).1.length = 0) (fun _ => .int .u16 (k.rd a).2)
   (fun x => Row r 119 (devCells d v) :: DiskR d k :: (X ++ (Row ba 3 [.int .i64 a] :: Row bd 22 [sliceB x (k.rd a).1] :: OwnB x (k.rd a).1 :: R))) := by
 (refine Does.enter Tryz.func120 Tryz.ntmps120 rfl rfl ?_)
 refine VC.ent (pull2 X R) ?_
 refine w ?_
 (refine VC.drawn [5, 9] 10 [0, 1, 2, 3, 4, 5, 6, 7, 8, 9, 10] (DiskR d k :: Row ba 3 [.int .i64 a] :: Row r 119 (devCells d v) :: (X ++ R)) rfl (by kernel_rfl) (by kernel_rfl) Ent.re ?_)
 refine w ?_
 (refine zq ?_; refine zd rfl rfl (drd_ok d k a) ?_)
 intro x hx
 refine w ?_
 exact VE.done x rfl hx rfl (Ent.trans Ent.re (push3 X R))
def BayD.read (D : BayD) (k a : Int) : (List UInt8 × Int) × BayD :=
  if D.refuse k = 0 then ((D.dv k).k.rd a, (D.ahead k 0).setIn k.toNat (D.dv k)) else (([], D.refuse k), D.ahead k 0)
def BayD.write (D : BayD) (k a : Int) (b : List UInt8) : Int × BayD :=
  if D.refuse k = 0 then (((D.dv k).k.wr a b).1, (D.ahead k 1).setIn k.toNat ⟨((D.dv k).k.wr a b).2, (D.dv k).worn, (D.dv k).left⟩) else (D.refuse k, D.ahead k 1)
def BayD.flush (D : BayD) (k : Int) : Int × BayD :=
  if D.refuse k = 0 then ((D.dv k).k.fl.1, (D.ahead k 2).setIn k.toNat ⟨(D.dv k).k.fl.2, (D.dv k).worn, (D.dv k).left⟩) else (D.refuse k, D.ahead k 2)
theorem bayread_ok (b : Nat) (D : BayD) (k a : Int) :
    Does W Tryz.prog 68 [.pointer (some ⟨b, 0, none⟩), .int .i64 k, .int .i64 a] (BayR b D :: R) (β := Option Addr × Nat) (fun x => x.1 = none -> (D.read k a).1.1.length = 0) (fun x => .tuple #[sliceB x (D.read k a).1.1, .int .u16 (D.read k a).1.2]) (fun x => OwnB x (D.read k a).1.1 :: BayR b (D.read k a).2 :: R) := by
  (refine Does.enter Tryz.func68 Tryz.ntmps68 rfl rfl ?_)
  refine w ?_; repeat (refine zj fun _ => ?_; refine w ?_)
  rename_i ba
  refine zq ?_
  refine OpV.alloc ze_22 rfl rfl ?_
  intro bd
  refine w ?_; repeat (refine zj fun _ => ?_; refine w ?_)
  refine VO.pure rfl rfl (PureAt.makeFuncN rfl) rfl ?_
  refine w ?_; repeat (refine zj fun _ => ?_; refine w ?_)
  refine VO.ent (Reord.ent (L := BayR b D :: Row ba 3 [.int .i64 a] :: Row bd 22 [.slice none 0 0] :: R) (by (repeat first | exact .refl | (apply Reord.cons; focus repeat first | exact .head | apply Del.tail) | exact .nil | apply Reord.drop))) ?_
  refine zq ?_
  refine zy rfl rfl (operate_ok (gd := 120) (gc := 119) (cp := #[.pointer (some ⟨ba, 0, none⟩), .pointer (some ⟨bd, 0, none⟩)]) (kf := id) (R := Row ba 3 [.int .i64 a] :: Row bd 22 [.slice none 0 0] :: R) b D k 0 (by decide) (fun _ _ => by simp) (fun _ _ => by simp) (fun X => breads_ok b) (fun r d hv hr X => readf_ok r d ba bd (D.dv k) (D.dv k).k a X)) ?_
  intro y hy
  unfold BayD.read
  cases y with
  | none =>
    have hr : D.refuse k ≠ 0 := hy
    dsimp only [Option.elim_none]
    rw [if_neg hr]
    refine w ?_; repeat (refine zj fun _ => ?_; refine w ?_)
    refine VE.results2 (.inl rfl) (none, 0) rfl (ResIs.leaf tab_ok rfl rfl zm rfl) (.tmp rfl) (fun _ => rfl) rfl ?_
    exact Ent.trans (Ent.re (L := BayR b (D.ahead k 0) :: R)) fun w hw => hw.ownNil 5 1
  | some x =>
    obtain ⟨hr, hx⟩ : D.refuse k = 0 /\ (x.1 = none -> ((D.dv k).k.rd a).1.length = 0) := hy
    dsimp only [Option.elim_some]
    rw [if_pos hr]
    refine w ?_; repeat (refine zj fun _ => ?_; refine w ?_)
    exact VE.results2 (.inl rfl) x rfl (ResIs.leaf tab_ok rfl rfl zm rfl) (.tmp rfl) hx rfl Ent.re
theorem writef_ok {ao : Option Addr} {cap : Nat} {l : List UInt8} (r d ba bd : Nat) (v : DevD) (k : DiskD) (a : Int) (hc : k.cache.length <= 1000000000) (hl : RdsA W 1 ao l.length (bytes l) \/ Rds W R 1 ao l.length (bytes l)) (X : List SProp) :
  Does W Tryz.prog 150 [.pointer (some ⟨r, 0, none⟩), .pointer (some ⟨ba, 0, none⟩), .pointer (some ⟨bd, 0, none⟩)] (Row r 119 (devCells d v) :: DiskR d k :: (X ++ (Row ba 3 [.int .i64 a] :: Row bd 22 [.slice ao l.length cap] :: R)))
   (β := Unit) (fun _ => True) (fun _ => .int .u16 (k.wr a l).1)
   (fun _ => Row r 119 (devCells d v) :: DiskR d (k.wr a l).2 :: (X ++ (Row ba 3 [.int .i64 a] :: Row bd 22 [.slice ao l.length cap] :: R))) := by
 (refine Does.enter Tryz.func150 Tryz.ntmps150 rfl rfl ?_)
 refine VC.ent (pull2 X R) ?_
 refine w ?_
 (refine VC.drawn [] 6 [0, 1, 2, 3, 4, 5, 6, 7] _ rfl (by kernel_rfl) (by kernel_rfl) Ent.re ?_)
 refine w ?_
 have hr : Rds W (Row ba 3 [.int .i64 a] :: Row bd 22 [.slice ao l.length cap] :: Row r 119 (devCells d v) :: (X ++ R)) 1 ao l.length (bytes l) := by
  rcases hl with h | h
  · exact h _
  · exact h.ent (fun w hw => Ent.dropAll (_ :: _ :: _ :: X) w hw)
 refine VD.ent (Reord.ent (L := DiskR d k :: Row ba 3 [.int .i64 a] :: Row bd 22 [.slice ao l.length cap] :: Row r 119 (devCells d v) :: (X ++ R)) (by (repeat first | exact .refl | (apply Reord.cons; focus repeat first | exact .head | apply Del.tail) | exact .nil | apply Reord.drop))) ?_
 (refine zq ?_; refine zy rfl rfl (dwr_ok (b := l) d k a hc hr) ?_)
 intro _ _
 refine w ?_
 exact VE.done () rfl trivial rfl (Ent.trans Ent.re (push2 X R))
theorem baywrite_ok {ao : Option Addr} {cap : Nat} {l : List UInt8} (b : Nat) (D : BayD) (k a : Int) (hc : (D.dv k).k.cache.length <= 1000000000) (hl : RdsA W 1 ao l.length (bytes l) \/ Rds W R 1 ao l.length (bytes l)) :
    Does1 W Tryz.prog 104 [.pointer (some ⟨b, 0, none⟩), .int .i64 k, .int .i64 a, .slice ao l.length cap] (BayR b D :: R) (.int .u16 (D.write k a l).1) (BayR b (D.write k a l).2 :: R) := by
  (refine Does.enter Tryz.func104 Tryz.ntmps104 rfl rfl ?_)
  refine w ?_; repeat (refine zj fun _ => ?_; refine w ?_)
  rename_i ba bd
  refine VO.pure rfl rfl (PureAt.makeFuncN rfl) rfl ?_
  refine w ?_; repeat (refine zj fun _ => ?_; refine w ?_)
  refine VO.ent (Reord.ent (L := BayR b D :: Row ba 3 [.int .i64 a] :: Row bd 22 [.slice ao l.length cap] :: R) (by (repeat first | exact .refl | (apply Reord.cons; focus repeat first | exact .head | apply Del.tail) | exact .nil | apply Reord.drop))) ?_
  refine zq ?_
  refine zy rfl rfl (operate_ok (gd := 150) (gc := 149) (cp := #[.pointer (some ⟨ba, 0, none⟩), .pointer (some ⟨bd, 0, none⟩)]) (kf := fun k => (k.wr a l).2) (R := Row ba 3 [.int .i64 a] :: Row bd 22 [.slice ao l.length cap] :: R) b D k 1 (by decide) (fun _ _ => by simp) (fun _ _ => by simp) (fun X => writes_ok b) (fun r d hv hr X => writef_ok r d ba bd (D.dv k) (D.dv k).k a hc hl X)) ?_
  intro y hy
  unfold BayD.write
  cases y with
  | none =>
    have hr : D.refuse k ≠ 0 := hy
    dsimp only [Option.elim_none]
    rw [if_neg hr]
    refine w ?_; repeat (refine zj fun _ => ?_; refine w ?_)
    refine VE.done1 rfl ?_ ?_
    · rfl
    · exact Ent.re
  | some x =>
    obtain ⟨hr, hx⟩ : D.refuse k = 0 /\ True := hy
    dsimp only [Option.elim_some]
    rw [if_pos hr]
    refine w ?_; repeat (refine zj fun _ => ?_; refine w ?_)
    refine VE.done1 rfl ?_ ?_
    · rfl
    · exact Ent.re
theorem flushf2_ok (r d : Nat) (v : DevD) (k : DiskD) (X : List SProp) :
  Does W Tryz.prog 145 [.pointer (some ⟨r, 0, none⟩)] (Row r 119 (devCells d v) :: DiskR d k :: (X ++ R))
   (β := Unit) (fun _ => True) (fun _ => .int .u16 k.fl.1) (fun _ => Row r 119 (devCells d v) :: DiskR d k.fl.2 :: (X ++ R)) := by
 (refine Does.enter Tryz.func145 Tryz.ntmps145 rfl rfl ?_)
 refine w ?_
 ((refine zq ?_; refine zd rfl rfl (dfl_ok d k) ?_); intro _ _)
 refine w ?_
 exact VE.done () rfl trivial rfl Ent.re
theorem bayflush_ok (b : Nat) (D : BayD) (k : Int) :
    Does1 W Tryz.prog 97 [.pointer (some ⟨b, 0, none⟩), .int .i64 k] (BayR b D :: R) (.int .u16 (D.flush k).1) (BayR b (D.flush k).2 :: R) := by
  (refine Does.enter Tryz.func97 Tryz.ntmps97 rfl rfl ?_)
  refine w ?_
  refine zq ?_
  refine zy rfl rfl (operate_ok (gd := 145) (gc := 144) (cp := #[]) (kf := fun k => k.fl.2) (R := R) b D k 2 (by decide) (fun _ _ => by simp) (fun _ _ => by simp) (fun X => flushes_ok b) (fun r d hv hr X => flushf2_ok r d (D.dv k) (D.dv k).k X)) ?_
  intro y hy
  unfold BayD.flush
  cases y with
  | none =>
    have hr : D.refuse k ≠ 0 := hy
    dsimp only [Option.elim_none]
    rw [if_neg hr]
    refine w ?_
    refine VE.done1 rfl ?_ ?_
    · rfl
    · exact Ent.re
  | some x =>
    obtain ⟨hr, hx⟩ : D.refuse k = 0 /\ True := hy
    dsimp only [Option.elim_some]
    rw [if_pos hr]
    refine w ?_
    refine VE.done1 rfl ?_ ?_
    · rfl
    · exact Ent.re
def BayD.tE (D : BayD) (k : Int) : Int := thereE D.slots.length (D.dev k).isSome k
def BayD.fail (D : BayD) (k : Int) : Int × BayD := match D.dev k with
  | some v => (0, D.setIn k.toNat ⟨v.k.fail, v.worn, v.left⟩)
  | none => (D.tE k, D)
def BayD.wear (D : BayD) (k n : Int) : Int × BayD := if n < 0 then (1, D) else match D.dev k with
  | some v => (0, D.setIn k.toNat ⟨v.k, true, n⟩)
  | none => (D.tE k, D)
def BayD.trips (D : BayD) (n : Int) : Int × BayD := if n < 0 then (1, D) else if D.dark then (50, D) else (0, { D with trip := n })
theorem slots_set1 {l1 l2 : List SlotP} {s : SlotP} (j : Nat) (hj : j < 3) (v : Value) : ((l1 ++ s :: l2).flatMap slotCells).set (l1.length * 3 + j) v = l1.flatMap slotCells ++ ((slotCells s).set j v ++ l2.flatMap slotCells) := by
 have e : (l1.flatMap slotCells).length = l1.length * 3 := flat_length l1 fun _ _ => rfl
 rw [List.flatMap_append, List.flatMap_cons, List.set_append_right _ _ (by rw [e]; omega), e, show l1.length * 3 + j - l1.length * 3 = j by omega, List.set_append_left _ _ (by rw [slotCells_length]; exact hj)]
theorem slots_in {l1 l2 : List SlotP} {s : SlotP} (x : Option DevP) : ((l1 ++ s :: l2).flatMap slotCells).set (l1.length * 3 + 0) (devPtr x) = (l1 ++ { s with in_ := x } :: l2).flatMap slotCells := by
 rw [slots_set1 0 (by decide), List.flatMap_append, List.flatMap_cons]; rfl
theorem slots_coming {l1 l2 : List SlotP} {s : SlotP} (x : Option DevP) : ((l1 ++ s :: l2).flatMap slotCells).set (l1.length * 3 + 2) (devPtr x) = (l1 ++ { s with coming := x } :: l2).flatMap slotCells := by
 rw [slots_set1 2 (by decide), List.flatMap_append, List.flatMap_cons]; rfl
theorem slots_len {l1 l2 : List SlotP} {s : SlotP} (j : Nat) (hj : j < 3) : l1.length * 3 + j < ((l1 ++ s :: l2).flatMap slotCells).length := by
 rw [flat_length (g := slotCells) (w := 3) _ fun _ _ => rfl]; simp; omega
def BayD.setSlot (D : BayD) (i : Nat) (s : SlotD) : BayD := { D with slots := D.slots.set i s }
theorem setSlot_slots {D : BayD} {l1 l2 : List SlotP} {s : SlotP} (h : D.slots = (l1 ++ s :: l2).map SlotP.D) (s' : SlotP) : (D.setSlot l1.length s'.D).slots = (l1 ++ s' :: l2).map SlotP.D := by
 unfold BayD.setSlot
 simp only [h, List.map_append, List.map_cons]
 rw [List.set_append_right _ _ (by simp)]
 simp
theorem bayInS {b n : Nat} {D' : BayD} {a : Addr} {l1 l2 : List SlotP} {R : List SProp} (s' : SlotP) (hn : (l1 ++ s' :: l2).length = n) (h1 : D'.slots = (l1 ++ s' :: l2).map SlotP.D) (h2 : n <= 17) :
  Ent W (devRes s'.in_ :: devRes s'.aside :: devRes s'.coming :: bayRow b D' a n :: Own 114 3 (.slice (some a) n n) n ((l1 ++ s' :: l2).flatMap slotCells) :: ((l1 ++ l2).map slotRes ++ R)) (BayR b D' :: R) := fun w hw => by
 subst hn
 exact BayR.shut h1 h2 w (bayIn w hw)
def BayD.slot (D : BayD) (k : Int) : SlotD := (D.slots[k.toNat]?).getD ⟨none, none, none⟩
theorem slot_at {D : BayD} {l1 l2 : List SlotP} {s : SlotP} (h : D.slots = (l1 ++ s :: l2).map SlotP.D) : D.slot (l1.length : Int) = s.D := by
 unfold BayD.slot
 rw [h, Int.toNat_natCast]; simp
theorem nilBools : Rds W R 1 none 0 (bools []) := by
 refine ⟨rfl, fun _ h => ?_, fun _ => rfl, fun _ _ _ h => ?_⟩
 · cases h
 · cases h
def SlotD.taken (s : SlotD) : Bool := (s.in_.any fun v => !v.k.failed) || s.coming.isSome
theorem taken_ok {a : Addr} {l1 l2 : List SlotP} {s : SlotP} :
    Does1 W Tryz.prog 115 [.pointer (some (a.add (l1.length * 3)))] (devRes s.in_ :: slotsOwn a (l1 ++ s :: l2) :: R) (.bool s.D.taken) (devRes s.in_ :: slotsOwn a (l1 ++ s :: l2) :: R) := by
  have c0 := slots_get (l1 ++ s :: l2) l1.length 0 (by simp) (by decide)
  have c2 := slots_get (l1 ++ s :: l2) l1.length 2 (by simp) (by decide)
  simp only [List.getElem_append_right (Nat.le_refl _), Nat.sub_self, List.getElem_cons_zero] at c0 c2
  (refine Does.enter Tryz.func115 Tryz.ntmps115 rfl rfl ?_)
  refine w ?_
  refine VO.pure rfl rfl (.ldRc tab_ok rfl rfl (slots_rds zm) (c0.trans rfl)) rfl ?_
  unfold SlotD.taken
  rw [show s.D.in_ = s.in_.map DevP.v from rfl, show s.D.coming = s.coming.map DevP.v from rfl]
  cases hs : s.in_ with
  | none =>
    dsimp only [devPtr, Option.map_none]
    refine w ?_
    refine VO.pure rfl rfl (.ldRc tab_ok rfl rfl (slots_rds zm) (c2.trans rfl)) rfl ?_
    cases hs2 : s.coming with
    | none =>
      dsimp only [devPtr, Option.map_none]
      refine w ?_
      (first | exact VE.done1 rfl rfl Ent.refl | exact VE.done1N rfl rfl Ent.refl)
    | some q =>
      dsimp only [devPtr, Option.map_some]
      refine w ?_
      (first | exact VE.done1 rfl rfl Ent.refl | exact VE.done1N rfl rfl Ent.refl)
  | some p =>
    dsimp only [devPtr, Option.map_some]
    refine VO.ent (devOut p _) ?_
    refine w ?_
    refine VO.pure rfl rfl (.ldRc tab_ok rfl rfl (slots_rds zm) (c0.trans (by simp [slotCells, devPtr, hs]; rfl))) rfl ?_
    refine w ?_
    ((refine zq ?_; refine zd rfl rfl (failed_ok p.d p.v.k) ?_); intro _ _)
    refine w ?_
    cases hf : p.v.k.failed
    · refine w ?_
      refine VE.done1 rfl ?_ ?_
      · simp [hf]
      · exact Ent.trans Ent.re (devIn p _)
    · refine w ?_
      refine VO.pure rfl rfl (.ldRc tab_ok rfl rfl (slots_rds zm) (c2.trans rfl)) rfl ?_
      refine VO.ent (Ent.trans Ent.re (devIn p _)) ?_
      cases hs2 : s.coming with
      | none =>
        dsimp only [devPtr, Option.map_none]
        refine w ?_
        refine VE.done1 rfl ?_ ?_
        · simp [hf]
        · exact Ent.re
      | some q =>
        dsimp only [devPtr, Option.map_some]
        refine w ?_
        refine VE.done1 rfl ?_ ?_
        · simp [hf]
        · exact Ent.re
def BayD.layE (D : BayD) (k : Int) : Int := if inRange D.slots.length k = false then 1 else if (D.slot k).taken then 52 else 0
def BayD.lay (D : BayD) (k : Int) (e : Int) (kd : DiskD) : Int × BayD :=
  if D.layE k ≠ 0 then (D.layE k, D) else if e ≠ 0 then (e, D) else (0, D.setSlot k.toNat ⟨some ⟨kd, false, 0⟩, (D.slot k).aside, (D.slot k).coming⟩)
theorem range_split {sp : List SlotP} {k : Int} (h : inRange sp.length k = true) : ∃ (l1 : List SlotP) (s : SlotP) (l2 : List SlotP), sp = l1 ++ s :: l2 /\ k = (l1.length : Int) := by
 obtain ⟨h0, h1⟩ : 0 <= k /\ k < (sp.length : Int) := of_decide_eq_true h
 obtain ⟨i, rfl⟩ := Int.eq_ofNat_of_zero_le h0
 have hi : i < sp.length := by omega
 refine ⟨sp.take i, sp[i], sp.drop (i + 1), ?_, by rw [List.length_take, Nat.min_eq_left (by omega)]⟩
 rw [<- List.drop_eq_getElem_cons hi, List.take_append_drop]
theorem lay_ok {gm : FuncId} {cp : Array Value} (b : Nat) (D : BayD) (k e : Int) (kd : DiskD) (hcf : ∀ a w, (callFunc gm a).run Tryz.prog w = .ok (.enter gm a) w) (he : e = 0 \/ e = 40)
  (hm : ∀ X : List SProp, Does W Tryz.prog gm cp.toList (X ++ R) (β := Nat) (fun _ => True) (fun d => if e = 0 then .tuple #[.pointer (some ⟨d, 0, none⟩), .int .u16 0] else .tuple #[.pointer none, .int .u16 e]) (fun d => if e = 0 then DiskR d kd :: (X ++ R) else X ++ R)) :
  Does1 W Tryz.prog 60 [.pointer (some ⟨b, 0, none⟩), .int .i64 k, .func (.func gm) #[] cp] (BayR b D :: R) (.int .u16 (D.lay k e kd).1) (BayR b (D.lay k e kd).2 :: R) := by
 (refine Does.enter Tryz.func60 Tryz.ntmps60 rfl rfl ?_)
 refine VC.obtain (fun w => BayR.open) ?_
 rintro ⟨⟨a, sp⟩, h1, h2⟩
 dsimp only at h1 h2 ⊢
 have hl : D.slots.length = sp.length := by rw [h1, List.length_map]
 refine w ?_; repeat (refine zj fun _ => ?_; refine w ?_)
 ((refine zq ?_; refine zd rfl rfl (bayat_ok (D := D) (a := a) (n := sp.length) b k h2) ?_); intro _ _)
 unfold slotAt BayD.lay BayD.layE
 cases hin : inRange sp.length k
 ·
  refine w ?_; repeat (refine zj fun _ => ?_; refine w ?_)
  refine VE.done1 rfl ?_ ?_
  · rw [hl, hin]; rfl
  · rw [hl, hin]; exact BayR.shut h1 h2
 obtain ⟨l1, s, l2, rfl, rfl⟩ := range_split hin
 rw [hl, hin, slot_at h1]
 simp only [Bool.true_eq_false, if_false]
 refine w ?_; repeat (refine zj fun _ => ?_; refine w ?_)
 refine VO.ent bayOut ?_
 ((refine zq ?_; refine zd rfl rfl (taken_ok (a := a) (l1 := l1) (l2 := l2) (s := s)) ?_); intro _ _)
 refine w ?_; repeat (refine zj fun _ => ?_; refine w ?_)
 cases ht : s.D.taken
 ·
  refine w ?_; repeat (refine zj fun _ => ?_; refine w ?_)
  refine VO.ent (Ent.re (L := devRes s.in_ :: slotsOwn a (l1 ++ s :: l2) :: devRes s.aside :: devRes s.coming :: bayRow b D a (l1 ++ s :: l2).length :: ((l1 ++ l2).map slotRes ++ R))) ?_
  have hm := hm (devRes s.in_ :: slotsOwn a (l1 ++ s :: l2) :: devRes s.aside :: devRes s.coming :: bayRow b D a (l1 ++ s :: l2).length :: (l1 ++ l2).map slotRes)
  rcases he with rfl | rfl
  ·
   simp only [if_true] at hm
   refine zq ?_
   refine OpV.call rfl rfl hcf hm Ent.refl rfl ?_
   intro d _
   dsimp only [List.cons_append]
   refine w ?_; repeat (refine zj fun _ => ?_; refine w ?_)
   (apply VO.pure rfl rfl; apply PureAt.build sb_119 rfl; (simp [buildX, setL, Value.cells]; rfl); rfl)
   refine w ?_; repeat (refine zj fun _ => ?_; refine w ?_)
   rename_i nr
   refine zq ?_
   refine OpV.stO2 tab_ok rfl rfl rfl rfl zh (slots_len 0 (by decide)) (slots_in (some ⟨nr, d, ⟨kd, false, 0⟩⟩)) ?_
   refine w ?_; repeat (refine zj fun _ => ?_; refine w ?_)
   refine VE.done1 rfl ?_ ?_
   · rfl
   ·
    refine Ent.trans (Ent.re (L := devRow ⟨nr, d, ⟨kd, false, 0⟩⟩ :: DiskR d kd :: devRes s.aside :: devRes s.coming :: bayRow b D a (l1 ++ s :: l2).length :: Own 114 3 (.slice (some a) (l1 ++ s :: l2).length (l1 ++ s :: l2).length) (l1 ++ s :: l2).length ((l1 ++ { s with in_ := some ⟨nr, d, ⟨kd, false, 0⟩⟩ } :: l2).flatMap slotCells) :: ((l1 ++ l2).map slotRes ++ R))) ?_
    refine Ent.trans (devIn ⟨nr, d, ⟨kd, false, 0⟩⟩ _) ?_
    exact bayInS (D' := D.setSlot l1.length (SlotP.D { s with in_ := some ⟨nr, d, ⟨kd, false, 0⟩⟩ })) { s with in_ := some ⟨nr, d, ⟨kd, false, 0⟩⟩ } (by simp) (setSlot_slots h1 _) h2
  ·
   simp only [show ¬ ((40 : Int) = 0) by decide, if_false] at hm
   refine zq ?_
   refine OpV.call rfl rfl hcf hm Ent.refl rfl ?_
   intro d _
   dsimp only [List.cons_append]
   refine w ?_; repeat (refine zj fun _ => ?_; refine w ?_)
   refine VE.done1 rfl ?_ ?_
   · rfl
   · exact Ent.trans (Ent.trans Ent.re bayIn) (BayR.shut h1 h2)
 ·
  refine w ?_; repeat (refine zj fun _ => ?_; refine w ?_)
  refine VE.done1 rfl ?_ ?_
  · rfl
  · exact Ent.trans (Ent.trans Ent.re bayIn) (BayR.shut h1 h2)
def newE (n : Int) : Int := if 1 <= n /\ n <= 8192 then 0 else 40
def BayD.swap (D : BayD) (k n : Int) : Int × BayD := if n < 0 then (1, D) else D.lay k (newE n) (.blank n.toNat)
def loadE (n : Nat) : Int := if n % 128 = 0 /\ 1 <= n / 128 /\ n / 128 <= 8192 then 0 else 40
def BayD.load (D : BayD) (k : Int) (l : List UInt8) : Int × BayD := D.lay k (loadE l.length) ⟨chunks l (l.length / 128), [], false⟩
theorem loadE_cases (n : Nat) : loadE n = 0 \/ loadE n = 40 := by unfold loadE; split <;> simp
def BayD.push (D : BayD) (k : Int) : Int × BayD :=
  if inRange D.slots.length k = false then (1, D) else if (D.slot k).aside.isNone then (51, D) else if (D.slot k).taken then (52, D) else (0, D.setSlot k.toNat ⟨(D.slot k).in_, none, (D.slot k).aside⟩)
structure KeepD where
  ao : Option Addr
  cap : Nat
  l : List Bool
abbrev KeepD.hdr (x : KeepD) : Value := .slice x.ao x.l.length x.cap
structure Keeps (W : World) (R : List SProp) (ao : Option Addr) (kl : List KeepD) : Prop where
  rds : Rds W R 1 ao kl.length (kl.map KeepD.hdr)
  wf : ∀ x ∈ kl, Rds W R 1 x.ao x.l.length (bools x.l)
theorem Keeps.ent {H R : List SProp} {ao : Option Addr} {kl : List KeepD} (h : Keeps W R ao kl) (e : Ent W H R) : Keeps W H ao kl := ⟨h.rds.ent e, fun x hx => (h.wf x hx).ent e⟩
def SlotD.cut (s : SlotD) (l : List Bool) : SlotD :=
  if s.coming.isSome then ⟨s.coming, s.aside, none⟩ else ⟨s.in_.map fun v => ⟨v.k.settle (keepOf l), v.worn, v.left⟩, s.aside, none⟩
def BayD.cut (D : BayD) (kl : List (List Bool)) : BayD := { D with slots := D.slots.mapIdx fun i s => s.cut (kl.getD i []), dark := false, trip := -1 }
theorem cut_step (sl : List SlotD) (kl : List (List Bool)) (i : Nat) (h : i < sl.length) : (sl.mapIdx fun j s => s.cut (kl.getD j [])).take (i + 1) = (sl.mapIdx fun j s => s.cut (kl.getD j [])).take i ++ [sl[i].cut (kl.getD i [])] := by
 rw [List.take_succ_eq_append_getElem (by simpa using h)]
 simp
theorem bayInR {b n : Nat} {D : BayD} {a : Addr} {l1 l2 : List SlotP} {R : List SProp} (s' : SlotP) (hn : (l1 ++ s' :: l2).length = n) :
  Ent W (devRes s'.in_ :: devRes s'.aside :: devRes s'.coming :: bayRow b D a n :: Own 114 3 (.slice (some a) n n) n ((l1 ++ s' :: l2).flatMap slotCells) :: ((l1 ++ l2).map slotRes ++ R))
   (bayRow b D a n :: Own 114 3 (.slice (some a) n n) n ((l1 ++ s' :: l2).flatMap slotCells) :: ((l1 ++ s' :: l2).map slotRes ++ R)) := by
 subst hn
 exact bayIn
theorem baycut_ok {ao : Option Addr} {cap : Nat} {kl : List KeepD} (b : Nat) (D : BayD) (hk : Keeps W R ao kl) :
    Does1 W Tryz.prog 10 [.pointer (some ⟨b, 0, none⟩), .slice ao kl.length cap] (BayR b D :: R) (.tuple #[]) (BayR b (D.cut (kl.map KeepD.l)) :: R) := by
  (refine Does.enter Tryz.func10 Tryz.ntmps10 rfl rfl ?_)
  refine VC.obtain (fun w => BayR.open) ?_
  rintro ⟨⟨a, sp⟩, h1, h2⟩
  dsimp only at h1 h2 ⊢
  have hl : D.slots.length = sp.length := by rw [h1, List.length_map]
  refine w ?_
  refine VC.loop (α := List SlotP) (fun dn => dn.length <= sp.length /\ dn.map SlotP.D = (D.cut (kl.map KeepD.l)).slots.take dn.length)
    (fun dn => bayRow b D a sp.length :: Own 114 3 (.slice (some a) sp.length sp.length) sp.length ((dn ++ sp.drop dn.length).flatMap slotCells) :: ((dn ++ sp.drop dn.length).map slotRes ++ R))
    (fun dn => [(0, .pointer (some ⟨b, 0, none⟩)), (1, .slice ao kl.length cap), (11, .int .i64 sp.length), (12, .int .i64 dn.length)]) (fun dn => sp.length - dn.length) rfl [] ⟨Nat.zero_le _, rfl⟩ (by simp only [List.length_nil, List.drop_zero, List.nil_append]; exact Ent.re) ⟨rfl, rfl, rfl, rfl, trivial⟩ ?_
  rintro dn ⟨hdn, hdD⟩
  refine w ?_
  refine zk ?_ ?_ <;> intro hc
  · have hlt : dn.length < sp.length := by have := of_decide_eq_true hc; omega
    have hsp := List.drop_eq_getElem_cons hlt
    rw [hsp]
    generalize hs : sp[dn.length] = s at *
    generalize hl2 : sp.drop (dn.length + 1) = l2 at *
    have hn : (dn ++ s :: l2).length = sp.length := by rw [<- hl2]; simp; omega
    have hsD : D.slots[dn.length]'(by omega) = s.D := by simp only [h1, List.getElem_map, hs]
    rw [<- hn]
    have c0 := slots_get (dn ++ s :: l2) dn.length 0 (by simp) (by decide)
    have c2 := slots_get (dn ++ s :: l2) dn.length 2 (by simp) (by decide)
    simp only [List.getElem_append_right (Nat.le_refl _), Nat.sub_self, List.getElem_cons_zero] at c0 c2
    refine w ?_
    refine VO.ent (bayOut (D := D)) ?_
    refine w ?_
    refine VO.pure rfl rfl (.ldRc tab_ok rfl rfl (slots_rds zm) (c0.trans rfl)) rfl ?_
    refine w ?_
    (refine VC.join (α := Option DevP) (fun x => devPtr x = devPtr s.in_ /\ x.map DevP.v = s.D.in_.map fun v => ⟨v.k.settle (keepOf ((kl.map KeepD.l).getD dn.length [])), v.worn, v.left⟩) (fun x => devRes x :: BayX b D a dn s l2 R) (fun _ => [(0, .pointer (some ⟨b, 0, none⟩)), (1, .slice ao kl.length cap), (5, .pointer (some (a.add (dn.length * 3)))), (11, .int .i64 (dn ++ s :: l2).length), (12, .int .i64 dn.length)]) ?_ ?_)
    · intro Q2 jn
      cases hi : s.in_ with
      | none =>
        dsimp only [devPtr, Option.map_none, Option.isNone_none, Bool.not_true]
        refine w ?_
        refine jn.to none ⟨by rw [hi], by rw [show s.D.in_ = s.in_.map DevP.v from rfl, hi]; rfl⟩ ⟨rfl, rfl, rfl, rfl, rfl, trivial⟩ Ent.refl
      | some p =>
        dsimp only [devPtr, Option.map_some, Option.isNone_some, Bool.not_false]
        refine w ?_
        (refine VC.join (α := KeepD) (fun x => x.l = (kl.map KeepD.l).getD dn.length [] /\ Rds W R 1 x.ao x.l.length (bools x.l)) (fun _ => devRes (some p) :: BayX b D a dn s l2 R) (fun x => [(0, .pointer (some ⟨b, 0, none⟩)), (1, .slice ao kl.length cap), (5, .pointer (some (a.add (dn.length * 3)))), (6, x.hdr), (11, .int .i64 (dn ++ s :: l2).length), (12, .int .i64 dn.length)]) ?_ ?_)
        · intro Q3 jn3
          refine zk ?_ ?_ <;> intro hc
          · have hlk : dn.length < kl.length := by have := of_decide_eq_true hc; omega
            have hk2 := hk.ent (Ent.dropAll (W := W) (R := R) (devRes (some p) :: devRes s.aside :: devRes s.coming :: bayRow b D a (dn ++ s :: l2).length :: slotsOwn a (dn ++ s :: l2) :: (dn ++ l2).map slotRes))
            obtain ⟨ka, rfl⟩ : ∃ ka, ao = some ka := by cases ao with | none => have := hk.rds.nil rfl; omega | some ka => exact ⟨ka, rfl⟩
            refine w ?_
            refine VO.pure rfl rfl (.ldRc tab_ok rfl rfl hk2.rds (show (kl.map KeepD.hdr)[dn.length]? = some (kl[dn.length].hdr) by rw [List.getElem?_map, List.getElem?_eq_getElem hlk]; rfl)) rfl ?_
            refine w ?_
            refine jn3.to kl[dn.length] ⟨by simp [List.getD, hlk], hk.wf _ (List.getElem_mem hlk)⟩ ⟨rfl, rfl, rfl, rfl, rfl, rfl, trivial⟩ Ent.refl
          · have hlk : ¬ dn.length < kl.length := by have := of_decide_eq_false hc; omega
            refine w ?_
            refine jn3.to ⟨none, 0, []⟩ ⟨by simp [List.getD, hlk], nilBools⟩ ⟨rfl, rfl, rfl, rfl, rfl, rfl, trivial⟩ Ent.refl
        · rintro x ⟨hx, hxr⟩
          refine w ?_
          refine VO.pure rfl rfl (.ldRc tab_ok rfl rfl (slots_rds zm) (c0.trans (by simp [slotCells, devPtr, hi]; rfl))) rfl ?_
          refine VO.ent (devOut p _) ?_
          refine w ?_
          ((refine zq ?_; refine zd rfl rfl (crash_ok (l := x.l) p.d p.v.k (hxr.ent (Ent.dropAll (W := W) (R := R) (devRow p :: devRes s.aside :: devRes s.coming :: bayRow b D a (dn ++ s :: l2).length :: slotsOwn a (dn ++ s :: l2) :: (dn ++ l2).map slotRes)))) ?_); intro _ _)
          refine w ?_
          refine jn.to (some ⟨p.r, p.d, ⟨p.v.k.settle (keepOf x.l), p.v.worn, p.v.left⟩⟩) ⟨by rw [hi]; rfl, ?_⟩ ⟨rfl, rfl, rfl, rfl, rfl, trivial⟩ ?_
          · rw [show s.D.in_ = s.in_.map DevP.v from rfl, hi, <- hx]; rfl
          · exact Ent.trans Ent.re (devIn ⟨p.r, p.d, ⟨p.v.k.settle (keepOf x.l), p.v.worn, p.v.left⟩⟩ _)
    · rintro x ⟨hx1, hx2⟩
      refine w ?_
      refine VO.pure rfl rfl (.ldRc tab_ok rfl rfl (slots_rds zm) (c2.trans rfl)) rfl ?_
      refine w ?_
      have hcut : ∀ s' : SlotP, s'.D = s.D.cut ((kl.map KeepD.l).getD dn.length []) -> (dn ++ [s']).map SlotP.D = (D.cut (kl.map KeepD.l)).slots.take (dn ++ [s']).length := by
        intro s' hs'
        rw [List.length_append, List.length_singleton, List.map_append, hdD]
        unfold BayD.cut
        rw [cut_step _ _ _ (by omega), hsD, <- hs']; rfl
      have hdr : ∀ s' : SlotP, dn ++ [s'] ++ sp.drop (dn ++ [s']).length = dn ++ s' :: l2 := by intro s'; rw [List.length_append, List.length_singleton, hl2]; simp
      cases hco : s.coming with
      | none =>
        dsimp only [devPtr, Option.map_none, Option.isNone_none, Bool.not_true]
        refine w ?_
        have e1 : slotCells s = slotCells ⟨x, s.aside, none⟩ := by unfold slotCells; rw [hx1, hco]
        refine VE.round (dn ++ [⟨x, s.aside, none⟩]) ⟨by rw [List.length_append, List.length_singleton]; omega, hcut _ ?_⟩ (by rw [hn, List.length_append, List.length_singleton]; omega) ⟨rfl, rfl, rfl, asV rfl (by simp), trivial⟩ ?_
        · unfold SlotD.cut
          rw [show s.D.coming = s.coming.map DevP.v from rfl, hco, if_neg (by simp), <- hx2]; rfl
        · rw [hdr]
          have e2 : (dn ++ s :: l2).flatMap slotCells = (dn ++ ⟨x, s.aside, none⟩ :: l2).flatMap slotCells := by simp only [List.flatMap_append, List.flatMap_cons, e1]
          simp only [BayX, slotsOwn]
          rw [e2, hco]
          exact bayInR ⟨x, s.aside, none⟩ (by simp)
      | some q =>
        dsimp only [devPtr, Option.map_some, Option.isNone_some, Bool.not_false]
        refine w ?_
        refine VO.pure rfl rfl (.ldRc tab_ok rfl rfl (slots_rds zm) (c2.trans (by simp [slotCells, devPtr, hco]; rfl))) rfl ?_
        refine w ?_
        refine zq ?_
        refine OpV.stO2 tab_ok rfl rfl rfl rfl zh (slots_len 0 (by decide)) (slots_in (some q)) ?_
        refine w ?_
        refine zq ?_
        refine OpV.stO2 tab_ok rfl rfl rfl rfl zh (by rw [<- slots_in (s := s) (some q), List.length_set]; exact slots_len 2 (by decide)) (slots_coming none) ?_
        refine w ?_
        refine VE.round (dn ++ [⟨some q, s.aside, none⟩]) ⟨by rw [List.length_append, List.length_singleton]; omega, hcut _ ?_⟩ (by rw [hn, List.length_append, List.length_singleton]; omega) ⟨rfl, rfl, rfl, asV rfl (by simp), trivial⟩ ?_
        · unfold SlotD.cut
          rw [show s.D.coming = s.coming.map DevP.v from rfl, hco, if_pos (by simp)]; rfl
        · rw [hdr]
          refine Ent.trans (devDrop x _) ?_
          rw [hco]
          refine Ent.trans (Ent.re (L := devRes (some q) :: devRes s.aside :: bayRow b D a (dn ++ s :: l2).length :: Own 114 3 (.slice (some a) (dn ++ s :: l2).length (dn ++ s :: l2).length) (dn ++ s :: l2).length ((dn ++ ⟨some q, s.aside, none⟩ :: l2).flatMap slotCells) :: ((dn ++ l2).map slotRes ++ R))) ?_
          refine Ent.trans (devNone _) ?_
          refine Ent.trans (Ent.re (L := devRes (some q) :: devRes s.aside :: devRes none :: bayRow b D a (dn ++ s :: l2).length :: Own 114 3 (.slice (some a) (dn ++ s :: l2).length (dn ++ s :: l2).length) (dn ++ s :: l2).length ((dn ++ ⟨some q, s.aside, none⟩ :: l2).flatMap slotCells) :: ((dn ++ l2).map slotRes ++ R))) ?_
          exact bayInR ⟨some q, s.aside, none⟩ (by simp)
  · refine w ?_
    have hge : dn.length = sp.length := by have := of_decide_eq_false hc; omega
    (refine VE.done1N rfl ?_ ?_)
    · rfl
    · rw [List.drop_eq_nil_of_le (by omega), List.append_nil, <- hge]
      rw [hge, List.take_of_length_le (by unfold BayD.cut; simp [hl])] at hdD
      exact BayR.shut (D := D.cut (kl.map KeepD.l)) hdD.symm (by omega)
def intsI (l : List Int) : List Value := l.map fun n => .int .i64 n
@[simp] theorem intsI_length (l : List Int) : (intsI l).length = l.length := by simp [intsI]
theorem intsI_one (l : List Int) : ∀ u ∈ intsI l, u.oneCell' = true := by
 intro u hu; obtain ⟨c, _, rfl⟩ := List.mem_map.1 hu; rfl
theorem intsI_get (l : List Int) (i : Nat) (h : i < l.length) : (intsI l)[i]? = some (.int .i64 l[i]) := by simp [intsI, h]
def sizeOk (n : Int) : Bool := decide (0 <= n /\ n <= 8192)
def bayE (l : List Int) : Int := if l.length < 1 \/ 17 < l.length then 1 else if l.all sizeOk then 0 else 40
def slotOf (n : Int) : SlotD := if n = 0 then ⟨none, none, none⟩ else ⟨some ⟨.blank n.toNat, false, 0⟩, none, none⟩
def BayD.new (l : List Int) : BayD := ⟨l.map slotOf, false, -1, ⟨0, 0, 0⟩⟩
def noneP : SlotP := ⟨none, none, none⟩
theorem st_slots : SliceT Tryz.prog 106 114 (.agg #[.pointer none, .pointer none, .pointer none]) 3 24 := ⟨by kernel_rfl, by kernel_rfl, rfl, by simp [Value.cells, Value.oneCell']⟩
theorem addSlot {A B : SProp} (dn : List SlotP) (s : SlotP) (R : List SProp) : Ent W (devRes s.in_ :: devRes s.aside :: devRes s.coming :: A :: B :: (dn.map slotRes ++ R)) (A :: B :: ((dn ++ [s]).map slotRes ++ R)) := fun w hw => by
 have h := Holds.nest (L := [devRes s.in_, devRes s.aside, devRes s.coming]) hw
 refine Holds.perm ?_ h
 have p1 : (A :: B :: ((dn ++ [s]).map slotRes ++ R)).Perm (A :: B :: slotRes s :: (dn.map slotRes ++ R)) := by
  refine List.Perm.cons _ (List.Perm.cons _ ?_)
  rw [List.map_append, List.append_assoc]
  exact List.perm_middle
 refine List.Perm.trans ?_ p1.symm
 exact List.Perm.append_right (dn.map slotRes ++ R) (show [slotRes s, A, B].Perm [A, B, slotRes s] from List.perm_append_comm (l₁ := [slotRes s]) (l₂ := [A, B]))
theorem addNone {A B : SProp} (dn : List SlotP) (R : List SProp) : Ent W (A :: B :: (dn.map slotRes ++ R)) (A :: B :: ((dn ++ [noneP]).map slotRes ++ R)) :=
 (((devNone _).trans (devNone _)).trans (devNone _)).trans (addSlot dn noneP R)
theorem baynew_ok {ao : Option Addr} {cap : Nat} {l : List Int} (hr : Rds W R 1 ao l.length (intsI l)) (hlen : l.length <= 1000000000) :
  Does W Tryz.prog 22 [.slice ao l.length cap] R (β := Option Nat) (fun x => x.isSome = decide (bayE l = 0)) (fun x => .tuple #[.pointer (x.map fun b => ⟨b, 0, none⟩), .int .u16 (bayE l)]) (fun x => x.elim R fun b => BayR b (BayD.new l) :: R) := by
 (refine Does.enter Tryz.func22 Tryz.ntmps22 rfl rfl ?_)
 refine w ?_; repeat (refine zj fun _ => ?_; refine w ?_)
 unfold bayE
 refine zg ?_ ?_ <;> intro hb
 ·
  have h : l.length < 1 := by have := of_decide_eq_true hb; omega
  refine w ?_; repeat (refine zj fun _ => ?_; refine w ?_)
  refine VE.done none rfl (by rw [if_pos (Or.inl h)]; rfl) (by rw [if_pos (Or.inl h)]; rfl) Ent.refl
 have h1 : ¬ l.length < 1 := by have := of_decide_eq_false hb; omega
 refine w ?_; repeat (refine zj fun _ => ?_; refine w ?_)
 refine zk ?_ ?_ <;> intro hc
 ·
  have h : 17 < l.length := by have : (17 : Int) < l.length := (by simpa using hc); omega
  refine w ?_; repeat (refine zj fun _ => ?_; refine w ?_)
  refine VE.done none rfl (by rw [if_pos (Or.inr h)]; rfl) (by rw [if_pos (Or.inr h)]; rfl) Ent.refl
 have h2 : ¬ 17 < l.length := by have : (l.length : Int) <= 17 := (by simpa using hc); omega
 rw [if_neg (by omega)]
 refine w ?_; repeat (refine zj fun _ => ?_; refine w ?_)
 refine zq ?_
 refine OpV.makeSlice st_slots rfl rfl (by omega) (by simp only [maxLen]; omega) rfl ?_
 intro nb
 have e0 : (madeCells (Value.agg #[.pointer none, .pointer none, .pointer none]).cells (l.length * 3)).toList = (List.replicate l.length noneP).flatMap slotCells := by
  have := madeCells_same (.pointer none) 3 (l.length * 3) (by decide)
  have e : ∀ n : Nat, (List.replicate n noneP).flatMap slotCells = List.replicate (n * 3) (.pointer none) := by
   intro n
   induction n with
   | zero => rfl
   | succ n ih => rw [List.replicate_succ, List.flatMap_cons, ih, Nat.add_mul, Nat.one_mul, Nat.add_comm, <- List.replicate_append_replicate]; rfl
  rw [e]; exact this
 rw [e0]
 (apply VO.pure rfl rfl; apply PureAt.build sb_110 rfl; (simp [buildX, setL, Value.cells]; rfl); rfl)
 refine w ?_; repeat (refine zj fun _ => ?_; refine w ?_)
 rename_i b
 refine VC.loop (α := List SlotP) (fun dn => dn.length <= l.length /\ dn.map SlotP.D = (l.map slotOf).take dn.length /\ (l.take dn.length).all sizeOk = true)
  (fun dn => bayRow b (BayD.new l) ⟨nb, 0, none⟩ l.length :: Own 114 3 (.slice (some ⟨nb, 0, none⟩) l.length l.length) l.length ((dn ++ List.replicate (l.length - dn.length) noneP).flatMap slotCells) :: (dn.map slotRes ++ R))
  (fun dn => [(4, .pointer (some ⟨b, 0, none⟩)), (22, .slice ao l.length cap), (23, .int .i64 l.length), (24, .int .i64 dn.length)]) (fun dn => l.length - dn.length) rfl [] ⟨Nat.zero_le _, rfl, rfl⟩ (by simp only [List.length_nil, Nat.sub_zero, List.nil_append]; exact Ent.re) ⟨rfl, rfl, rfl, rfl, trivial⟩ ?_
 rintro dn ⟨hdn, hdD, hall⟩
 refine w ?_; repeat (refine zj fun _ => ?_; refine w ?_)
 refine zk ?_ ?_ <;> intro hc
 ·
  have hlt : dn.length < l.length := by have := of_decide_eq_true hc; omega
  obtain ⟨ka, rfl⟩ : ∃ ka, ao = some ka := by cases ao with | none => have := hr.nil rfl; omega | some ka => exact ⟨ka, rfl⟩
  have hr2 := fun A B => hr.ent (Ent.dropAll (W := W) (R := R) (A :: B :: dn.map slotRes))
  refine w ?_; repeat (refine zj fun _ => ?_; refine w ?_)
  refine VO.pure rfl rfl (.ldRc tab_ok rfl rfl (hr2 _ _) (intsI_get l dn.length hlt)) rfl ?_
  refine w ?_; repeat (refine zj fun _ => ?_; refine w ?_)
  generalize hn : l[dn.length] = n at *
  have hrep : List.replicate (l.length - dn.length) noneP = noneP :: List.replicate (l.length - (dn.length + 1)) noneP := by rw [show l.length - dn.length = (l.length - (dn.length + 1)) + 1 by omega, List.replicate_succ]
  have hstep : ∀ s : SlotP, s.D = slotOf n -> (dn ++ [s]).map SlotP.D = (l.map slotOf).take (dn ++ [s]).length := by
   intro s hs
   rw [List.length_append, List.length_singleton, List.map_append, hdD, List.take_succ_eq_append_getElem (by simpa using hlt)]
   simp [hs, hn]
  have hall2 : ∀ s : SlotP, sizeOk n = true -> (l.take (dn ++ [s]).length).all sizeOk = true := by
   intro s hs
   rw [List.length_append, List.length_singleton, List.take_succ_eq_append_getElem hlt, List.all_append, hall, hn]; simp [hs]
  refine zk ?_ ?_ <;> intro hc
  ·
   have h0 : n = 0 := by simpa using hc
   refine w ?_; repeat (refine zj fun _ => ?_; refine w ?_)
   refine VE.round (dn ++ [noneP]) ⟨by rw [List.length_append, List.length_singleton]; omega, hstep _ (by rw [h0]; rfl), hall2 _ (by rw [h0]; rfl)⟩ (by rw [List.length_append, List.length_singleton]; omega) ⟨rfl, rfl, rfl, asV rfl (by simp), trivial⟩ ?_
   rw [hrep, List.length_append, List.length_singleton, List.append_assoc]
   exact addNone dn R
  ·
   have h0 : ¬ n = 0 := by simpa using hc
   refine w ?_; repeat (refine zj fun _ => ?_; refine w ?_)
   by_cases hs : sizeOk n = true
   ·
    obtain ⟨g1, g2⟩ : 0 <= n /\ n <= 8192 := of_decide_eq_true hs
    obtain ⟨m, rfl⟩ := Int.eq_ofNat_of_zero_le g1
    (refine zq ?_; refine zd rfl rfl (disknew_ok m (by omega) (by omega)) ?_)
    intro d _
    refine w ?_; repeat (refine zj fun _ => ?_; refine w ?_)
    (apply VO.pure rfl rfl; apply PureAt.build sb_119 rfl; (simp [buildX, setL, Value.cells]; rfl); rfl)
    refine w ?_; repeat (refine zj fun _ => ?_; refine w ?_)
    rename_i nr
    rw [hrep]
    refine zq ?_
    refine OpV.stO2 tab_ok rfl rfl rfl rfl zh (slots_len 0 (by decide)) (slots_in (some ⟨nr, d, ⟨⟨List.replicate m zeroSec, [], false⟩, false, 0⟩⟩)) ?_
    refine w ?_; repeat (refine zj fun _ => ?_; refine w ?_)
    refine VE.round (dn ++ [⟨some ⟨nr, d, ⟨⟨List.replicate m zeroSec, [], false⟩, false, 0⟩⟩, none, none⟩]) ⟨by rw [List.length_append, List.length_singleton]; omega, hstep _ ?_, hall2 _ hs⟩ (by rw [List.length_append, List.length_singleton]; omega) ⟨rfl, rfl, rfl, asV rfl (by simp), trivial⟩ ?_
    · unfold slotOf; rw [if_neg h0]; rfl
    ·
     rw [List.length_append, List.length_singleton, List.append_assoc]
     refine Ent.trans (Ent.re (L := devRow ⟨nr, d, ⟨⟨List.replicate m zeroSec, [], false⟩, false, 0⟩⟩ :: DiskR d ⟨List.replicate m zeroSec, [], false⟩ :: bayRow b (BayD.new l) ⟨nb, 0, none⟩ l.length :: Own 114 3 (.slice (some ⟨nb, 0, none⟩) l.length l.length) l.length ((dn ++ ⟨some ⟨nr, d, ⟨⟨List.replicate m zeroSec, [], false⟩, false, 0⟩⟩, none, none⟩ :: List.replicate (l.length - (dn.length + 1)) noneP).flatMap slotCells) :: (dn.map slotRes ++ R))) ?_
     refine Ent.trans (devIn ⟨nr, d, ⟨⟨List.replicate m zeroSec, [], false⟩, false, 0⟩⟩ _) ?_
     refine Ent.trans (devNone _) ?_
     refine Ent.trans (devNone _) ?_
     refine Ent.trans (Ent.re (L := devRes (some ⟨nr, d, ⟨⟨List.replicate m zeroSec, [], false⟩, false, 0⟩⟩) :: devRes none :: devRes none :: bayRow b (BayD.new l) ⟨nb, 0, none⟩ l.length :: Own 114 3 (.slice (some ⟨nb, 0, none⟩) l.length l.length) l.length ((dn ++ ⟨some ⟨nr, d, ⟨⟨List.replicate m zeroSec, [], false⟩, false, 0⟩⟩, none, none⟩ :: List.replicate (l.length - (dn.length + 1)) noneP).flatMap slotCells) :: (dn.map slotRes ++ R))) ?_
     exact addSlot dn ⟨some ⟨nr, d, ⟨⟨List.replicate m zeroSec, [], false⟩, false, 0⟩⟩, none, none⟩ R
   ·
    have hs2 : n < 1 \/ 8192 < n := by
     have : ¬ (0 <= n /\ n <= 8192) := fun h => hs (decide_eq_true h)
     omega
    ((refine zq ?_; refine zd rfl rfl (disknew_bad n hs2) ?_); intro _ _)
    refine w ?_; repeat (refine zj fun _ => ?_; refine w ?_)
    have hno : l.all sizeOk = false := by
     rw [Bool.eq_false_iff]
     intro h
     rw [List.all_eq_true] at h
     exact hs (h n (by rw [<- hn]; exact List.getElem_mem hlt))
    refine VE.done none rfl (by simp [hno]) (by simp [hno]) ?_
    exact Ent.dropAll (_ :: _ :: dn.map slotRes)
 ·
  have hge : dn.length = l.length := by have := of_decide_eq_false hc; omega
  refine w ?_; repeat (refine zj fun _ => ?_; refine w ?_)
  rw [hge, List.take_of_length_le (Nat.le_refl _)] at hall
  refine VE.done (some b) rfl (by simp [hall]) (by simp [hall]) ?_
  rw [hge, List.take_of_length_le (by simp)] at hdD
  rw [hge, Nat.sub_self, List.replicate_zero, List.append_nil, <- hge]
  exact BayR.shut (D := BayD.new l) hdD.symm (by omega)
end Go.Proofs.YtjebagmjcdaegaaGreat
/-! Text Lq. -/
namespace Go.Proofs.YtjebagmjcdaegaaGreat
open Go.RowKit Go.Sl
structure OpD where
  kind : Int
  v : Nat
  n : Int
  ao : Option Addr
  cap : Nat
  b : List UInt8
abbrev OpD.cells (o : OpD) : List Value := [.int .i64 o.kind, .int .u64 o.v, .int .i64 o.n, .slice o.ao o.b.length o.cap]
structure OpD.wf (W : World) (o : OpD) : Prop where
  v : o.v < 2 ^ 64
  n1 : -9223372036854775808 <= o.n
  n2 : o.n <= 9223372036854775807
  b : RdsA W 1 o.ao o.b.length (bytes o.b)
  big : o.b.length <= 140737488355328
def Pk.puts (k : Pk) (o : OpD) (l : List UInt8) : Pk :=
  if o.kind = 1 then k.number (o.v % 2 ^ 8) 1 else if o.kind = 2 then k.number (o.v % 2 ^ 16) 2 else if o.kind = 3 then k.number (o.v % 2 ^ 32) 4 else
  if o.kind = 4 then k.number o.v 8 else if o.kind = 5 then k.raw l else if o.kind = 6 then k.fill o.n (UInt8.ofNat o.v) else k
end Go.Proofs.YtjebagmjcdaegaaGreat
/-! Text Ls. -/
namespace Go.Proofs.YtjebagmjcdaegaaGreat
open Go.RowKit Go.Sl
theorem notnought_ok {W : World} {R : List SProp} (c : UInt8) : Does1 W Tryz.prog 231 [.int .u8 (c.toNat : Int)] R (.bool (c != 0)) R := by
 (refine Does.enter Tryz.func231 Tryz.ntmps231 rfl rfl ?_)
 refine w ?_
 refine VE.done1 rfl ?_ ?_
 ·
  congr 1
  by_cases h : c = 0
  · subst h; rfl
  ·
   have h1 : (c.toNat : Int) ≠ 0 := fun e => h (UInt8.toNat_inj.1 (by show c.toNat = 0; omega))
   rw [bne_iff_ne.2 h, bne_iff_ne.2 h1]
 · exact Ent.refl
def firstOdd (l : List UInt8) : Int := match l.findIdx? (· != 0) with
  | some j => j
  | none => -1
theorem index_ok {W : World} {R : List SProp} {ao : Option Addr} {n cap : Nat} {l : List UInt8} (ha : Rds W R 1 ao n (bytes l)) (hn : n <= 1099511627776) :
    Does1 W Tryz.prog 230 [.slice ao n cap, .func (.func 231) #[] #[]] R (.int .i64 (firstOdd l)) R := by
  have hl : l.length = n := by have := ha.len; simpa using this
  subst hl
  (refine Does.enter Tryz.func230 Tryz.ntmps230 rfl rfl ?_)
  refine w ?_
  refine VC.loop (α := Nat) (fun j => j <= l.length /\ ∀ i (h : i < l.length), i < j -> l[i] = 0) (fun _ => R)
    (fun j => [(0, .slice ao l.length cap), (1, .func (.func 231) #[] #[]), (7, .int .i64 l.length), (8, .int .i64 j)]) (fun j => l.length - j) rfl 0 ⟨Nat.zero_le _, fun _ _ h => absurd h (by omega)⟩ Ent.refl ⟨rfl, rfl, rfl, rfl, trivial⟩ ?_
  rintro j ⟨hj, hi⟩
  refine w ?_
  refine zk ?_ ?_ <;> intro hc
  · have hlt : j < l.length := by simpa using hc
    obtain ⟨a, rfl⟩ : ∃ a, ao = some a := by cases ao with | none => have := ha.nil rfl; omega | some a => exact ⟨a, rfl⟩
    have hb1 := ha
    refine w ?_
    (refine zq ?_; refine zy rfl rfl (notnought_ok l[j]) ?_)
    intro _ _
    refine w ?_
    refine zk ?_ ?_ <;> intro hc
    · refine w ?_
      refine VE.done1 rfl ?_ ?_
      · have hne : l[j] ≠ 0 := by simpa using hc
        have : l.findIdx? (· != 0) = some j := by
          rw [List.findIdx?_eq_some_iff_getElem]
          exact ⟨hlt, by simpa using hne, fun i h => by simp [hi i (by omega) h]⟩
        simp only [firstOdd, this]
      · exact Ent.refl
    · have he : l[j] = 0 := by simpa using hc
      refine w ?_
      refine VE.round (j + 1) ⟨hlt, fun i h hij => ?_⟩ (by omega) ⟨rfl, rfl, rfl, rfl, trivial⟩ Ent.refl
      by_cases e : i = j
      · subst e; exact he
      · exact hi i h (by omega)
  · have hge : j = l.length := by have : ¬ j < l.length := by simpa using hc
                                  omega
    refine w ?_
    refine VE.done1 rfl ?_ ?_
    · have : l.findIdx? (· != 0) = none := by
        rw [List.findIdx?_eq_none_iff]
        intro x hx
        obtain ⟨i, h, rfl⟩ := List.mem_iff_getElem.1 hx
        simp [hi i h (by omega)]
      simp only [firstOdd, this]
    · exact Ent.refl
theorem Rk.number_bad {k : Rk} {n : Nat} (h : (k.short n).err ≠ 0) : k.number n = k.short n := by unfold Rk.number; rw [if_neg h]
theorem Rk.number_good {k : Rk} {n : Nat} (h : (k.short n).err = 0) : k.number n = { k with at_ := k.at_ + n } := by unfold Rk.number; rw [if_pos h]
def Rk.raw (k : Rk) (n : Int) : Rk := if n <= 0 then k else k.number n.toNat
def Rk.rawGot (k : Rk) (n : Int) : List UInt8 := if n <= 0 then [] else k.got n.toNat
theorem rraw_ok {W : World} {R : List SProp} (p : Nat) (k : Rk) (n : Int) :
  Does W Tryz.prog 17 [.pointer (some ⟨p, 0, none⟩), .int .i64 n] (ReaderR p k :: R) (β := Option Addr × Nat) (fun _ => True) (fun x => .slice x.1 (k.rawGot n).length x.2)
   (fun x => Own 5 1 (.slice x.1 (k.rawGot n).length x.2) (k.rawGot n).length (bytes (k.rawGot n)) :: ReaderR p (k.raw n) :: R) := by
 (refine Does.enter Tryz.func17 Tryz.ntmps17 rfl rfl ?_)
 refine VC.know (fun w => ReaderR.know) ?_
 intro hk
 have ⟨h1, h2⟩ := hk
 refine w ?_
 refine zk ?_ ?_ <;> intro hc
 ·
  have hn : n <= 0 := by simpa using hc
  refine w ?_
  refine VE.done (none, 0) rfl trivial (by simp [Rk.rawGot, hn]) ?_
  simp only [Rk.rawGot, Rk.raw, hn, if_true]
  exact fun w hw => hw.ownNil _ _
 ·
  have hn : ¬ n <= 0 := by simpa using hc
  obtain ⟨m, rfl⟩ : ∃ m : Nat, n = m := ⟨n.toNat, by omega⟩
  have e1 : k.rawGot m = k.got m := by unfold Rk.rawGot; rw [if_neg hn]; rfl
  have e2 : k.raw m = k.number m := by unfold Rk.raw; rw [if_neg hn]; rfl
  rw [e1, e2]
  refine w ?_
  by_cases hg : (k.short m).err = 0
  ·
   obtain ⟨hs, hb, hle⟩ := Rk.short_zero hg
   have hlen := Rk.got_length hg
   (refine zq ?_; refine zd rfl rfl (next_good p k m hg) ?_)
   rintro ⟨ao, cap⟩ hcap
   refine VO.know (fun w hw => hw.ownNone zm) ?_
   intro hnone
   have hr := got_rds (W := W) (H := ReaderO p k ao cap R) hk hg hcap hnone zm
   (refine zq ?_; refine zd rfl rfl (clone_ok hr (by omega)) ?_)
   rintro ⟨ao', cap'⟩ -
   refine w ?_
   refine VE.done (ao', cap') rfl trivial (by rw [hlen]) ?_
   rw [hlen, Rk.number_good hg]
   exact fun w hw => (ReaderR.shut (k := { k with at_ := k.at_ + m }) ⟨by simp only; omega, h2⟩ w (hw.reord (L := Row p 123 [.slice ao k.b.length cap, .int .i64 ((k.at_ + m : Nat) : Int), .int .u16 k.err, .int .i64 k.wh] :: Own 5 1 (.slice ao k.b.length cap) k.b.length (bytes k.b) :: Own 5 1 (.slice ao' m cap') m (bytes (k.got m)) :: R) (by (repeat first | exact .refl | (apply Reord.cons; focus repeat first | exact .head | apply Del.tail) | exact .nil | apply Reord.drop)))).swap
  ·
   have hgot : k.got m = [] := by unfold Rk.got; rw [if_neg hg]
   ((refine zq ?_; refine zd rfl rfl (next_bad p k m hg) ?_); intro _ _)
   refine zq ?_
   have hr : Rds W (ReaderR p (k.short m) :: R) 1 none 0 (bytes []) := ⟨rfl, by simp [bytes], fun _ => rfl, fun _ _ _ h => by cases h⟩
   refine zy rfl rfl (clone_ok hr (by decide)) ?_
   rintro ⟨ao', cap'⟩ -
   refine VO.obtain (fun w hw => by
    obtain ⟨x, h⟩ := ReaderR.open hw.swap
    exact ⟨x, h⟩) ?_
   rintro ⟨⟨ao, cap⟩, hk'⟩
   have ⟨h1', h2'⟩ := hk'
   refine w ?_
   refine VE.done (ao', cap') rfl trivial (by rw [hgot]; rfl) ?_
   rw [hgot, Rk.number_bad hg]
   exact fun w hw => (ReaderR.shut hk' w (hw.reord (by (repeat first | exact .refl | (apply Reord.cons; focus repeat first | exact .head | apply Del.tail) | exact .nil | apply Reord.drop)))).swap
theorem rend_ok {W : World} {R : List SProp} (p : Nat) (k : Rk) :
  Does1 W Tryz.prog 21 [.pointer (some ⟨p, 0, none⟩)] (ReaderR p k :: R) (if k.err = 0 /\ k.at_ < k.b.length then .tuple #[.int .u16 13, .int .i64 k.at_] else .tuple #[.int .u16 k.err, .int .i64 k.wh]) (ReaderR p k :: R) := by
 (refine Does.enter Tryz.func21 Tryz.ntmps21 rfl rfl ?_)
 refine VC.obtain (fun w => ReaderR.open) ?_
 rintro ⟨⟨ao, cap⟩, hk⟩
 have ⟨h1, h2⟩ := hk
 refine w ?_
 refine zg ?_ ?_ <;> intro hb
 ·
  have he : k.err = 0 := by simpa using hb
  refine w ?_
  ((refine zq ?_; refine OpV.call rfl rfl (fun _ _ => by simp) (rleft_ok p k) (ReaderR.shut hk) rfl ?_); intro _ _)
  refine VO.obtain (fun w => ReaderR.open) ?_
  rintro ⟨⟨ao, cap⟩, -⟩
  refine w ?_
  refine zk ?_ ?_ <;> intro hc
  ·
   have hlt : k.at_ < k.b.length := by simp at hc; omega
   refine w ?_
   ((refine VC.quiet rfl (by kernel_rfl) (by kernel_rfl) ?_); refine w ?_)
   rw [if_pos ⟨he, hlt⟩]
   refine VE.done1 rfl rfl ?_
   exact ReaderR.shut hk
  ·
   have hlt : ¬ k.at_ < k.b.length := by simp at hc; omega
   refine w ?_
   ((refine VC.quiet rfl (by kernel_rfl) (by kernel_rfl) ?_); refine w ?_)
   rw [if_neg (fun h => hlt h.2)]
   refine VE.done1 rfl rfl ?_
   exact ReaderR.shut hk
 ·
  have he : ¬ k.err = 0 := by simpa using hb
  refine w ?_
  ((refine VC.quiet rfl (by kernel_rfl) (by kernel_rfl) ?_); refine w ?_)
  rw [if_neg (fun h => he h.1)]
  refine VE.done1 rfl rfl ?_
  exact ReaderR.shut hk
def Rk.noughts (k : Rk) (n : Int) : Rk :=
  if n <= 0 then k else if (k.short n.toNat).err ≠ 0 then k.short n.toNat else
  if 0 <= firstOdd (k.got n.toNat) then { k with err := 12, wh := k.at_ + firstOdd (k.got n.toNat) } else { k with at_ := k.at_ + n.toNat }
theorem firstOdd_lt (l : List UInt8) : -1 <= firstOdd l /\ firstOdd l <= l.length := by
 unfold firstOdd
 split
 ·
  rename_i j h
  obtain ⟨h1, _⟩ := List.findIdx?_eq_some_iff_getElem.1 h
  omega
 · omega
theorem rnoughts_ok {W : World} {R : List SProp} (p : Nat) (k : Rk) (n : Int) :
  Does1 W Tryz.prog 184 [.pointer (some ⟨p, 0, none⟩), .int .i64 n] (ReaderR p k :: R) (.tuple #[]) (ReaderR p (k.noughts n) :: R) := by
 (refine Does.enter Tryz.func184 Tryz.ntmps184 rfl rfl ?_)
 refine VC.know (fun w => ReaderR.know) ?_
 intro hk
 have ⟨h1, h2⟩ := hk
 refine w ?_
 refine zk ?_ ?_ <;> intro hc
 ·
  have hn : n <= 0 := by simpa using hc
  refine w ?_
  refine VE.done1 rfl ?_ ?_
  · rfl
  · unfold Rk.noughts; rw [if_pos hn]; exact Ent.refl
 ·
  have hn : ¬ n <= 0 := by simpa using hc
  obtain ⟨m, rfl⟩ : ∃ m : Nat, n = m := ⟨n.toNat, by omega⟩
  refine w ?_
  by_cases hg : (k.short m).err = 0
  ·
   obtain ⟨hs, hb, hle⟩ := Rk.short_zero hg
   have hlen := Rk.got_length hg
   have hf := firstOdd_lt (k.got m)
   (refine zq ?_; refine zd rfl rfl (next_good p k m hg) ?_)
   rintro ⟨ao, cap⟩ hcap
   refine VO.know (fun w hw => hw.ownNone zm) ?_
   intro hnone
   have hr := got_rds (W := W) (H := ReaderO p k ao cap R) hk hg hcap hnone zm
   refine w ?_
   (refine zq ?_; refine zy rfl rfl (index_ok hr (by omega)) ?_; intro _ _)
   refine w ?_
   refine zk ?_ ?_ <;> intro hc
   ·
    have hge : 0 <= firstOdd (k.got m) := by simpa using hc
    refine w ?_
    ((refine zq ?_; refine OpV.call rfl rfl (fun _ _ => by simp) (rfail_ok p k 12 (k.at_ + firstOdd (k.got m))) (ReaderR.shut hk) rfl ?_); intro _ _)
    refine w ?_
    refine VE.done1 rfl ?_ ?_
    · rfl
    ·
     unfold Rk.noughts
     rw [Int.toNat_natCast, if_neg hn, if_neg (by simpa using hg), if_pos hge]
     exact Ent.refl
   ·
    have hge : ¬ 0 <= firstOdd (k.got m) := by simpa using hc
    refine w ?_
    (refine VE.done1N rfl ?_ ?_)
    · rfl
    ·
     unfold Rk.noughts
     rw [Int.toNat_natCast, if_neg hn, if_neg (by simpa using hg), if_neg hge]
     exact ReaderR.shut (k := { k with at_ := k.at_ + m }) ⟨by simp only; omega, h2⟩
  ·
   ((refine zq ?_; refine zd rfl rfl (next_bad p k m hg) ?_); intro _ _)
   refine w ?_
   have hr : Rds W (ReaderR p (k.short m) :: R) 1 none 0 (bytes []) := ⟨rfl, by simp [bytes], fun _ => rfl, fun _ _ _ h => by cases h⟩
   (refine zq ?_; refine zy rfl rfl (index_ok hr (by decide)) ?_; intro _ _)
   refine VO.obtain (fun w hw => ReaderR.open hw) ?_
   rintro ⟨⟨ao, cap⟩, hk'⟩
   have ⟨h1', h2'⟩ := hk'
   refine w ?_
   (refine VE.done1N rfl ?_ ?_)
   · rfl
   ·
    unfold Rk.noughts
    rw [Int.toNat_natCast, if_neg hn, if_pos (by simpa using hg)]
    exact ReaderR.shut hk'
def Rk.reads (k : Rk) (o : OpD) : Rk :=
  if o.kind = 1 then k.number 1 else if o.kind = 2 then k.number 2 else if o.kind = 3 then k.number 4 else if o.kind = 4 then k.number 8 else
  if o.kind = 5 then k.raw o.n else if o.kind = 6 then k.noughts o.n else k
end Go.Proofs.YtjebagmjcdaegaaGreat
