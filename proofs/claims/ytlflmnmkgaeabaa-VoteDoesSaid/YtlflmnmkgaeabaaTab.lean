/- Written by program (wip/tab.py): what the program's table of types says, each line held by the kernel. -/
import Derived.Test.YtlflmnmkgaeabaaRows
import Derived.Test.YtlflmnmkgaeabaaSw
namespace Go.Proofs.Ytlflmnmkgaeabaa
open Go.Sl
def tab : TabData where
  flds := [(7, [0, 1, 2, 3]), (8, [0, 1, 2, 3]), (13, [0, 1]), (14, [0, 1]), (18, [0]), (19, [0]), (26, [0, 1, 2]), (27, [0, 1, 2]), (29, [0, 1, 2, 3, 4, 7, 8, 9, 10, 11]), (30, [0, 1, 2, 3, 4, 7, 8, 9, 10, 11]), (31, [0, 12, 13]), (32, [0, 12, 13]), (54, [0, 1, 2, 3, 4, 5, 6, 7, 8, 9, 10, 11]), (55, [0, 1, 2, 3, 4, 5, 6, 7, 8, 9, 10, 11]), (60, [0, 1]), (61, [0, 1]), (106, [0, 1]), (107, [0, 1]), (112, [0, 1]), (113, [0, 1]), (115, [0, 1, 2]), (116, [0, 1, 2]), (118, [0, 1]), (119, [0, 1]), (125, [0, 1, 2, 3]), (126, [0, 1, 2, 3]), (138, [0, 1, 2, 3, 4, 5, 6, 7, 8, 9, 10]), (139, [0, 1, 2, 3, 4, 5, 6, 7, 8, 9, 10])]
  leaf := [(1, ()), (2, ()), (3, ()), (4, ()), (5, ()), (6, ()), (9, ()), (10, ()), (11, ()), (12, ()), (15, ()), (16, ()), (17, ()), (20, ()), (21, ()), (22, ()), (23, ()), (24, ()), (25, ()), (28, ()), (33, ()), (34, ()), (36, ()), (37, ()), (38, ()), (40, ()), (41, ()), (42, ()), (43, ()), (44, ()), (45, ()), (46, ()), (47, ()), (48, ()), (49, ()), (50, ()), (51, ()), (52, ()), (53, ()), (56, ()), (57, ()), (58, ()), (59, ()), (62, ()), (63, ()), (64, ()), (65, ()), (66, ()), (67, ()), (68, ()), (69, ()), (70, ()), (71, ()), (72, ()), (74, ()), (75, ()), (76, ()), (77, ()), (78, ()), (80, ()), (81, ()), (82, ()), (83, ()), (84, ()), (85, ()), (86, ()), (87, ()), (88, ()), (89, ()), (90, ()), (91, ()), (92, ()), (93, ()), (94, ()), (95, ()), (96, ()), (97, ()), (98, ()), (99, ()), (100, ()), (101, ()), (102, ()), (103, ()), (104, ()), (105, ()), (108, ()), (109, ()), (110, ()), (111, ()), (114, ()), (117, ()), (120, ()), (121, ()), (122, ()), (123, ()), (124, ()), (130, ()), (131, ()), (132, ()), (133, ()), (134, ()), (135, ()), (136, ()), (137, ()), (140, ())]
  aggs := [(7, 4), (8, 4), (13, 2), (14, 2), (18, 1), (19, 1), (26, 3), (27, 3), (29, 12), (30, 12), (31, 14), (32, 14), (54, 12), (55, 12), (60, 13), (61, 13), (106, 2), (107, 2), (112, 2), (113, 2), (115, 3), (116, 3), (118, 2), (119, 2), (125, 4), (126, 4), (127, 0), (128, 0), (129, 0), (138, 11), (139, 11)]
  sls := [(22, 61), (28, 59), (42, 99), (43, 100), (44, 102), (45, 103), (46, 104), (47, 105), (48, 28), (49, 109), (50, 42), (51, 111), (52, 114), (53, 117), (69, 30), (99, 5), (100, 9), (102, 3), (103, 25), (104, 34), (105, 107), (109, 4), (111, 113), (114, 116), (117, 119)]
  ints := [(2, .i64), (3, .i64), (5, .u8), (6, .u8), (12, .u64), (21, .i32), (25, .u64), (33, .u16), (34, .u16), (59, .u8), (108, .u64), (131, .u32), (132, .u8), (133, .u8), (136, .i32), (137, .i32)]
  descs := [(4, 1, 0), (9, 2, 0), (10, 2, 0), (11, 2, 0), (15, 0, 126), (16, 0, 129), (17, 0, 139), (41, 0, 55), (77, 0, 32), (135, 0, 5)]
theorem tab_ok : tab.ok Try.prog = true := by kernel_rfl
theorem st_22 : SliceT Try.prog 22 61 (.agg #[.bool false, .int .u64 0, .int .u64 0, .int .u64 0, .int .i64 0, .int .i64 0, .int .i64 0, .int .i64 0, .int .i64 0, .bool false, .bool false, .slice none 0 0, .int .i64 0]) 13 112 := ⟨by kernel_rfl, by kernel_rfl, rfl, by simp [Value.cells, Value.oneCell']⟩
theorem st_28 : SliceT Try.prog 28 59 (.int .u8 0) 1 1 := ⟨by kernel_rfl, by kernel_rfl, rfl, by simp [Value.cells, Value.oneCell']⟩
theorem st_42 : SliceT Try.prog 42 99 (.slice none 0 0) 1 24 := ⟨by kernel_rfl, by kernel_rfl, rfl, by simp [Value.cells, Value.oneCell']⟩
theorem st_43 : SliceT Try.prog 43 100 (.slice none 0 0) 1 24 := ⟨by kernel_rfl, by kernel_rfl, rfl, by simp [Value.cells, Value.oneCell']⟩
theorem st_44 : SliceT Try.prog 44 102 (.slice none 0 0) 1 24 := ⟨by kernel_rfl, by kernel_rfl, rfl, by simp [Value.cells, Value.oneCell']⟩
theorem st_45 : SliceT Try.prog 45 103 (.slice none 0 0) 1 24 := ⟨by kernel_rfl, by kernel_rfl, rfl, by simp [Value.cells, Value.oneCell']⟩
theorem st_46 : SliceT Try.prog 46 104 (.slice none 0 0) 1 24 := ⟨by kernel_rfl, by kernel_rfl, rfl, by simp [Value.cells, Value.oneCell']⟩
theorem st_47 : SliceT Try.prog 47 105 (.slice none 0 0) 1 24 := ⟨by kernel_rfl, by kernel_rfl, rfl, by simp [Value.cells, Value.oneCell']⟩
theorem st_48 : SliceT Try.prog 48 28 (.slice none 0 0) 1 24 := ⟨by kernel_rfl, by kernel_rfl, rfl, by simp [Value.cells, Value.oneCell']⟩
theorem st_49 : SliceT Try.prog 49 109 (.slice none 0 0) 1 24 := ⟨by kernel_rfl, by kernel_rfl, rfl, by simp [Value.cells, Value.oneCell']⟩
theorem st_50 : SliceT Try.prog 50 42 (.slice none 0 0) 1 24 := ⟨by kernel_rfl, by kernel_rfl, rfl, by simp [Value.cells, Value.oneCell']⟩
theorem st_51 : SliceT Try.prog 51 111 (.slice none 0 0) 1 24 := ⟨by kernel_rfl, by kernel_rfl, rfl, by simp [Value.cells, Value.oneCell']⟩
theorem st_52 : SliceT Try.prog 52 114 (.slice none 0 0) 1 24 := ⟨by kernel_rfl, by kernel_rfl, rfl, by simp [Value.cells, Value.oneCell']⟩
theorem st_53 : SliceT Try.prog 53 117 (.slice none 0 0) 1 24 := ⟨by kernel_rfl, by kernel_rfl, rfl, by simp [Value.cells, Value.oneCell']⟩
theorem st_69 : SliceT Try.prog 69 30 (.agg #[.int .u64 0, .int .u64 0, .int .u64 0, .int .i64 0, .int .i64 0, .int .i64 0, .int .i64 0, .int .i64 0, .bool false, .bool false, .slice none 0 0, .int .i64 0]) 12 104 := ⟨by kernel_rfl, by kernel_rfl, rfl, by simp [Value.cells, Value.oneCell']⟩
theorem st_99 : SliceT Try.prog 99 5 (.int .u8 0) 1 1 := ⟨by kernel_rfl, by kernel_rfl, rfl, by simp [Value.cells, Value.oneCell']⟩
theorem st_102 : SliceT Try.prog 102 3 (.int .i64 0) 1 8 := ⟨by kernel_rfl, by kernel_rfl, rfl, by simp [Value.cells, Value.oneCell']⟩
theorem st_103 : SliceT Try.prog 103 25 (.int .u64 0) 1 8 := ⟨by kernel_rfl, by kernel_rfl, rfl, by simp [Value.cells, Value.oneCell']⟩
theorem st_104 : SliceT Try.prog 104 34 (.int .u16 0) 1 2 := ⟨by kernel_rfl, by kernel_rfl, rfl, by simp [Value.cells, Value.oneCell']⟩
theorem st_105 : SliceT Try.prog 105 107 (.agg #[.int .i64 0, .int .i64 0]) 2 16 := ⟨by kernel_rfl, by kernel_rfl, rfl, by simp [Value.cells, Value.oneCell']⟩
theorem st_109 : SliceT Try.prog 109 4 (.bool false) 1 1 := ⟨by kernel_rfl, by kernel_rfl, rfl, by simp [Value.cells, Value.oneCell']⟩
theorem st_111 : SliceT Try.prog 111 113 (.agg #[.int .i64 0, .slice none 0 0]) 2 32 := ⟨by kernel_rfl, by kernel_rfl, rfl, by simp [Value.cells, Value.oneCell']⟩
theorem st_114 : SliceT Try.prog 114 116 (.agg #[.int .i64 0, .int .i64 0, .slice none 0 0]) 3 40 := ⟨by kernel_rfl, by kernel_rfl, rfl, by simp [Value.cells, Value.oneCell']⟩
theorem st_117 : SliceT Try.prog 117 119 (.agg #[.int .u64 0, .slice none 0 0]) 2 32 := ⟨by kernel_rfl, by kernel_rfl, rfl, by simp [Value.cells, Value.oneCell']⟩
theorem sb_7 : StructT Try.prog 7 [.int .i64 0, .int .i64 0, .bool false, .int .u8 0] [(0, 1), (1, 1), (2, 1), (3, 1)] := ⟨fun w => by simp, _, Try.underlying7, fun w => by simp⟩
theorem sb_8 : StructT Try.prog 8 [.int .i64 0, .int .i64 0, .bool false, .int .u8 0] [(0, 1), (1, 1), (2, 1), (3, 1)] := ⟨fun w => by simp, _, Try.underlying8, fun w => by simp⟩
theorem sb_18 : StructT Try.prog 18 [.pointer none] [(0, 1)] := ⟨fun w => by simp, _, Try.underlying18, fun w => by simp⟩
theorem sb_19 : StructT Try.prog 19 [.pointer none] [(0, 1)] := ⟨fun w => by simp, _, Try.underlying19, fun w => by simp⟩
theorem sb_26 : StructT Try.prog 26 [.int .i64 0, .int .i64 0, .int .i64 0] [(0, 1), (1, 1), (2, 1)] := ⟨fun w => by simp, _, Try.underlying26, fun w => by simp⟩
theorem sb_27 : StructT Try.prog 27 [.int .i64 0, .int .i64 0, .int .i64 0] [(0, 1), (1, 1), (2, 1)] := ⟨fun w => by simp, _, Try.underlying27, fun w => by simp⟩
theorem sb_29 : StructT Try.prog 29 [.int .u64 0, .int .u64 0, .int .u64 0, .int .i64 0, .int .i64 0, .int .i64 0, .int .i64 0, .int .i64 0, .bool false, .bool false, .slice none 0 0, .int .i64 0] [(0, 1), (1, 1), (2, 1), (3, 1), (4, 3), (7, 1), (8, 1), (9, 1), (10, 1), (11, 1)] := ⟨fun w => by simp, _, Try.underlying29, fun w => by simp⟩
theorem sb_30 : StructT Try.prog 30 [.int .u64 0, .int .u64 0, .int .u64 0, .int .i64 0, .int .i64 0, .int .i64 0, .int .i64 0, .int .i64 0, .bool false, .bool false, .slice none 0 0, .int .i64 0] [(0, 1), (1, 1), (2, 1), (3, 1), (4, 3), (7, 1), (8, 1), (9, 1), (10, 1), (11, 1)] := ⟨fun w => by simp, _, Try.underlying30, fun w => by simp⟩
theorem sb_31 : StructT Try.prog 31 [.int .u64 0, .int .u64 0, .int .u64 0, .int .i64 0, .int .i64 0, .int .i64 0, .int .i64 0, .int .i64 0, .bool false, .bool false, .slice none 0 0, .int .i64 0, .bool false, .bool false] [(0, 12), (12, 1), (13, 1)] := ⟨fun w => by simp, _, Try.underlying31, fun w => by simp⟩
theorem sb_32 : StructT Try.prog 32 [.int .u64 0, .int .u64 0, .int .u64 0, .int .i64 0, .int .i64 0, .int .i64 0, .int .i64 0, .int .i64 0, .bool false, .bool false, .slice none 0 0, .int .i64 0, .bool false, .bool false] [(0, 12), (12, 1), (13, 1)] := ⟨fun w => by simp, _, Try.underlying32, fun w => by simp⟩
theorem sb_54 : StructT Try.prog 54 [.slice none 0 0, .slice none 0 0, .slice none 0 0, .slice none 0 0, .slice none 0 0, .slice none 0 0, .slice none 0 0, .slice none 0 0, .slice none 0 0, .slice none 0 0, .slice none 0 0, .slice none 0 0] [(0, 1), (1, 1), (2, 1), (3, 1), (4, 1), (5, 1), (6, 1), (7, 1), (8, 1), (9, 1), (10, 1), (11, 1)] := ⟨fun w => by simp, _, Try.underlying54, fun w => by simp⟩
theorem sb_55 : StructT Try.prog 55 [.slice none 0 0, .slice none 0 0, .slice none 0 0, .slice none 0 0, .slice none 0 0, .slice none 0 0, .slice none 0 0, .slice none 0 0, .slice none 0 0, .slice none 0 0, .slice none 0 0, .slice none 0 0] [(0, 1), (1, 1), (2, 1), (3, 1), (4, 1), (5, 1), (6, 1), (7, 1), (8, 1), (9, 1), (10, 1), (11, 1)] := ⟨fun w => by simp, _, Try.underlying55, fun w => by simp⟩
theorem sb_60 : StructT Try.prog 60 [.bool false, .int .u64 0, .int .u64 0, .int .u64 0, .int .i64 0, .int .i64 0, .int .i64 0, .int .i64 0, .int .i64 0, .bool false, .bool false, .slice none 0 0, .int .i64 0] [(0, 1), (1, 12)] := ⟨fun w => by simp, _, Try.underlying60, fun w => by simp⟩
theorem sb_61 : StructT Try.prog 61 [.bool false, .int .u64 0, .int .u64 0, .int .u64 0, .int .i64 0, .int .i64 0, .int .i64 0, .int .i64 0, .int .i64 0, .bool false, .bool false, .slice none 0 0, .int .i64 0] [(0, 1), (1, 12)] := ⟨fun w => by simp, _, Try.underlying61, fun w => by simp⟩
theorem sb_106 : StructT Try.prog 106 [.int .i64 0, .int .i64 0] [(0, 1), (1, 1)] := ⟨fun w => by simp, _, Try.underlying106, fun w => by simp⟩
theorem sb_107 : StructT Try.prog 107 [.int .i64 0, .int .i64 0] [(0, 1), (1, 1)] := ⟨fun w => by simp, _, Try.underlying107, fun w => by simp⟩
theorem sb_112 : StructT Try.prog 112 [.int .i64 0, .slice none 0 0] [(0, 1), (1, 1)] := ⟨fun w => by simp, _, Try.underlying112, fun w => by simp⟩
theorem sb_113 : StructT Try.prog 113 [.int .i64 0, .slice none 0 0] [(0, 1), (1, 1)] := ⟨fun w => by simp, _, Try.underlying113, fun w => by simp⟩
theorem sb_115 : StructT Try.prog 115 [.int .i64 0, .int .i64 0, .slice none 0 0] [(0, 1), (1, 1), (2, 1)] := ⟨fun w => by simp, _, Try.underlying115, fun w => by simp⟩
theorem sb_116 : StructT Try.prog 116 [.int .i64 0, .int .i64 0, .slice none 0 0] [(0, 1), (1, 1), (2, 1)] := ⟨fun w => by simp, _, Try.underlying116, fun w => by simp⟩
theorem sb_118 : StructT Try.prog 118 [.int .u64 0, .slice none 0 0] [(0, 1), (1, 1)] := ⟨fun w => by simp, _, Try.underlying118, fun w => by simp⟩
theorem sb_119 : StructT Try.prog 119 [.int .u64 0, .slice none 0 0] [(0, 1), (1, 1)] := ⟨fun w => by simp, _, Try.underlying119, fun w => by simp⟩
theorem sb_128 : StructT Try.prog 128 [] [(0, 0)] := ⟨fun w => by simp, _, Try.underlying128, fun w => by simp⟩
theorem sb_129 : StructT Try.prog 129 [] [(0, 0)] := ⟨fun w => by simp, _, Try.underlying129, fun w => by simp⟩
theorem ze_2 : ∀ w, (zeroValue 2).run Try.prog w = .ok (.int .i64 0) w := fun w => by simp
theorem ze_3 : ∀ w, (zeroValue 3).run Try.prog w = .ok (.int .i64 0) w := fun w => by simp
theorem ze_4 : ∀ w, (zeroValue 4).run Try.prog w = .ok (.bool false) w := fun w => by simp
theorem ze_5 : ∀ w, (zeroValue 5).run Try.prog w = .ok (.int .u8 0) w := fun w => by simp
theorem ze_6 : ∀ w, (zeroValue 6).run Try.prog w = .ok (.int .u8 0) w := fun w => by simp
theorem ze_12 : ∀ w, (zeroValue 12).run Try.prog w = .ok (.int .u64 0) w := fun w => by simp
theorem ze_15 : ∀ w, (zeroValue 15).run Try.prog w = .ok (.pointer none) w := fun w => by simp
theorem ze_16 : ∀ w, (zeroValue 16).run Try.prog w = .ok (.pointer none) w := fun w => by simp
theorem ze_17 : ∀ w, (zeroValue 17).run Try.prog w = .ok (.pointer none) w := fun w => by simp
theorem ze_21 : ∀ w, (zeroValue 21).run Try.prog w = .ok (.int .i32 0) w := fun w => by simp
theorem ze_22 : ∀ w, (zeroValue 22).run Try.prog w = .ok (.slice none 0 0) w := fun w => by simp
theorem ze_25 : ∀ w, (zeroValue 25).run Try.prog w = .ok (.int .u64 0) w := fun w => by simp
theorem ze_28 : ∀ w, (zeroValue 28).run Try.prog w = .ok (.slice none 0 0) w := fun w => by simp
theorem ze_33 : ∀ w, (zeroValue 33).run Try.prog w = .ok (.int .u16 0) w := fun w => by simp
theorem ze_34 : ∀ w, (zeroValue 34).run Try.prog w = .ok (.int .u16 0) w := fun w => by simp
theorem ze_41 : ∀ w, (zeroValue 41).run Try.prog w = .ok (.pointer none) w := fun w => by simp
theorem ze_42 : ∀ w, (zeroValue 42).run Try.prog w = .ok (.slice none 0 0) w := fun w => by simp
theorem ze_43 : ∀ w, (zeroValue 43).run Try.prog w = .ok (.slice none 0 0) w := fun w => by simp
theorem ze_44 : ∀ w, (zeroValue 44).run Try.prog w = .ok (.slice none 0 0) w := fun w => by simp
theorem ze_45 : ∀ w, (zeroValue 45).run Try.prog w = .ok (.slice none 0 0) w := fun w => by simp
theorem ze_46 : ∀ w, (zeroValue 46).run Try.prog w = .ok (.slice none 0 0) w := fun w => by simp
theorem ze_47 : ∀ w, (zeroValue 47).run Try.prog w = .ok (.slice none 0 0) w := fun w => by simp
theorem ze_48 : ∀ w, (zeroValue 48).run Try.prog w = .ok (.slice none 0 0) w := fun w => by simp
theorem ze_49 : ∀ w, (zeroValue 49).run Try.prog w = .ok (.slice none 0 0) w := fun w => by simp
theorem ze_50 : ∀ w, (zeroValue 50).run Try.prog w = .ok (.slice none 0 0) w := fun w => by simp
theorem ze_51 : ∀ w, (zeroValue 51).run Try.prog w = .ok (.slice none 0 0) w := fun w => by simp
theorem ze_52 : ∀ w, (zeroValue 52).run Try.prog w = .ok (.slice none 0 0) w := fun w => by simp
theorem ze_53 : ∀ w, (zeroValue 53).run Try.prog w = .ok (.slice none 0 0) w := fun w => by simp
theorem ze_59 : ∀ w, (zeroValue 59).run Try.prog w = .ok (.int .u8 0) w := fun w => by simp
theorem ze_69 : ∀ w, (zeroValue 69).run Try.prog w = .ok (.slice none 0 0) w := fun w => by simp
theorem ze_77 : ∀ w, (zeroValue 77).run Try.prog w = .ok (.pointer none) w := fun w => by simp
theorem ze_99 : ∀ w, (zeroValue 99).run Try.prog w = .ok (.slice none 0 0) w := fun w => by simp
theorem ze_100 : ∀ w, (zeroValue 100).run Try.prog w = .ok (.slice none 0 0) w := fun w => by simp
theorem ze_102 : ∀ w, (zeroValue 102).run Try.prog w = .ok (.slice none 0 0) w := fun w => by simp
theorem ze_103 : ∀ w, (zeroValue 103).run Try.prog w = .ok (.slice none 0 0) w := fun w => by simp
theorem ze_104 : ∀ w, (zeroValue 104).run Try.prog w = .ok (.slice none 0 0) w := fun w => by simp
theorem ze_105 : ∀ w, (zeroValue 105).run Try.prog w = .ok (.slice none 0 0) w := fun w => by simp
theorem ze_108 : ∀ w, (zeroValue 108).run Try.prog w = .ok (.int .u64 0) w := fun w => by simp
theorem ze_109 : ∀ w, (zeroValue 109).run Try.prog w = .ok (.slice none 0 0) w := fun w => by simp
theorem ze_111 : ∀ w, (zeroValue 111).run Try.prog w = .ok (.slice none 0 0) w := fun w => by simp
theorem ze_114 : ∀ w, (zeroValue 114).run Try.prog w = .ok (.slice none 0 0) w := fun w => by simp
theorem ze_117 : ∀ w, (zeroValue 117).run Try.prog w = .ok (.slice none 0 0) w := fun w => by simp
theorem ze_131 : ∀ w, (zeroValue 131).run Try.prog w = .ok (.int .u32 0) w := fun w => by simp
theorem ze_132 : ∀ w, (zeroValue 132).run Try.prog w = .ok (.int .u8 0) w := fun w => by simp
theorem ze_133 : ∀ w, (zeroValue 133).run Try.prog w = .ok (.int .u8 0) w := fun w => by simp
theorem ze_135 : ∀ w, (zeroValue 135).run Try.prog w = .ok (.pointer none) w := fun w => by simp
theorem ze_136 : ∀ w, (zeroValue 136).run Try.prog w = .ok (.int .i32 0) w := fun w => by simp
theorem ze_137 : ∀ w, (zeroValue 137).run Try.prog w = .ok (.int .i32 0) w := fun w => by simp
theorem ze_140 : ∀ w, (zeroValue 140).run Try.prog w = .ok (.pointer none) w := fun w => by simp
end Go.Proofs.Ytlflmnmkgaeabaa
