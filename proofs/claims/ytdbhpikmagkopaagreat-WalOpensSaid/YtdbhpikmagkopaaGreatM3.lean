import Derived.Test.YtdbhpikmagkopaaGreatM2
import Derived.Test.YtdbhpikmagkopaaGreatRows
/-! Text Tab. -/
namespace Go.Proofs.YtdbhpikmagkopaaGreat
open Go.Sl
def tab : TabData where
  flds := [(7, [0, 1, 2, 3]), (8, [0, 1, 2, 3]), (13, [0, 1]), (14, [0, 1]), (18, [0]), (19, [0]), (34, [0, 1, 2, 3, 4, 5]), (35, [0, 1, 2, 3, 4, 5]), (55, [0, 1, 2, 3, 4, 5, 6, 7, 8, 9, 10, 11]), (56, [0, 1, 2, 3, 4, 5, 6, 7, 8, 9, 10, 11]), (60, [0, 1, 2, 3]), (61, [0, 1, 2, 3]), (69, [0, 1, 2]), (70, [0, 1, 2]), (75, [0, 1, 2]), (76, [0, 1, 2]), (86, [0, 1]), (87, [0, 1]), (94, [0, 1, 2, 3, 4, 5, 6, 7]), (95, [0, 1, 2, 3, 4, 5, 6, 7]), (97, [0, 1, 2]), (98, [0, 1, 2]), (101, [0, 1, 2, 3, 4, 5, 6, 7, 8]), (102, [0, 1, 2, 3, 4, 5, 6, 7, 8]), (107, [0, 1, 2, 3]), (108, [0, 1, 2, 3]), (111, [0, 1, 2]), (112, [0, 1, 2]), (119, [0, 1, 2, 3]), (120, [0, 1, 2, 3]), (123, [0, 1, 2]), (124, [0, 1, 2]), (127, [0, 1, 2]), (128, [0, 1, 2]), (131, [0, 1, 2, 3, 4, 5]), (132, [0, 1, 2, 3, 4, 5]), (163, [0, 1]), (164, [0, 1]), (171, [0, 1, 2, 3]), (172, [0, 1, 2, 3]), (175, [0, 1, 2]), (176, [0, 1, 2]), (195, [0, 1, 2]), (196, [0, 1, 2]), (198, [0, 1]), (199, [0, 1]), (205, [0, 1]), (206, [0, 1]), (211, [0, 1]), (212, [0, 1]), (217, [0, 1, 2, 3]), (218, [0, 1, 2, 3]), (232, [0, 1, 2, 3, 4, 5, 6, 7]), (233, [0, 1, 2, 3, 4, 5, 6, 7]), (237, [0, 1, 2, 3]), (238, [0, 1, 2, 3]), (261, [0, 1]), (262, [0, 1]), (273, [0, 1]), (274, [0, 1]), (306, [0, 1, 2, 3]), (307, [0, 1, 2, 3]), (310, [0, 1, 2]), (311, [0, 1, 2]), (315, [0, 1, 2, 3]), (316, [0, 1, 2, 3]), (326, [0, 1, 2, 3, 4, 5, 6, 7, 8, 9, 10]), (327, [0, 1, 2, 3, 4, 5, 6, 7, 8, 9, 10])]
  leaf := [(1, ()), (2, ()), (3, ()), (4, ()), (5, ()), (6, ()), (9, ()), (10, ()), (11, ()), (12, ()), (15, ()), (16, ()), (17, ()), (20, ()), (21, ()), (22, ()), (23, ()), (24, ()), (25, ()), (26, ()), (27, ()), (29, ()), (30, ()), (31, ()), (32, ()), (33, ()), (36, ()), (37, ()), (39, ()), (41, ()), (42, ()), (43, ()), (44, ()), (45, ()), (46, ()), (47, ()), (48, ()), (49, ()), (50, ()), (51, ()), (52, ()), (53, ()), (54, ()), (57, ()), (58, ()), (59, ()), (62, ()), (63, ()), (64, ()), (65, ()), (66, ()), (67, ()), (68, ()), (72, ()), (74, ()), (77, ()), (78, ()), (79, ()), (80, ()), (81, ()), (83, ()), (84, ()), (85, ()), (88, ()), (89, ()), (90, ()), (92, ()), (93, ()), (96, ()), (99, ()), (100, ()), (104, ()), (105, ()), (106, ()), (109, ()), (110, ()), (113, ()), (114, ()), (115, ()), (116, ()), (117, ()), (118, ()), (121, ()), (122, ()), (125, ()), (126, ()), (129, ()), (130, ()), (133, ()), (135, ()), (136, ()), (137, ()), (138, ()), (139, ()), (140, ()), (141, ()), (142, ()), (143, ()), (144, ()), (145, ()), (146, ()), (147, ()), (148, ()), (150, ()), (151, ()), (153, ()), (154, ()), (156, ()), (157, ()), (158, ()), (159, ()), (160, ()), (162, ()), (165, ()), (167, ()), (168, ()), (170, ()), (174, ()), (177, ()), (178, ()), (179, ()), (181, ()), (182, ()), (183, ()), (185, ()), (186, ()), (187, ()), (189, ()), (191, ()), (192, ()), (193, ()), (194, ()), (197, ()), (200, ()), (201, ()), (202, ()), (203, ()), (204, ()), (207, ()), (208, ()), (209, ()), (210, ()), (213, ()), (214, ()), (215, ()), (216, ()), (222, ()), (224, ()), (225, ()), (226, ()), (228, ()), (229, ()), (230, ()), (231, ()), (234, ()), (235, ()), (236, ()), (239, ()), (240, ()), (241, ()), (242, ()), (243, ()), (244, ()), (245, ()), (246, ()), (247, ()), (248, ()), (249, ()), (250, ()), (252, ()), (253, ()), (254, ()), (255, ()), (256, ()), (257, ()), (258, ()), (259, ()), (260, ()), (264, ()), (265, ()), (266, ()), (267, ()), (268, ()), (269, ()), (270, ()), (272, ()), (275, ()), (276, ()), (277, ()), (278, ()), (279, ()), (280, ()), (282, ()), (283, ()), (284, ()), (285, ()), (286, ()), (287, ()), (288, ()), (290, ()), (292, ()), (293, ()), (295, ()), (296, ()), (297, ()), (299, ()), (300, ()), (301, ()), (303, ()), (305, ()), (308, ()), (309, ()), (312, ()), (313, ()), (314, ()), (320, ()), (321, ()), (322, ()), (323, ()), (324, ()), (325, ()), (328, ())]
  aggs := [(7, 4), (8, 4), (13, 2), (14, 2), (18, 1), (19, 1), (34, 6), (35, 6), (55, 12), (56, 12), (60, 4), (61, 4), (69, 3), (70, 3), (75, 3), (76, 3), (86, 2), (87, 2), (94, 8), (95, 8), (97, 3), (98, 3), (101, 9), (102, 9), (107, 6), (108, 6), (111, 3), (112, 3), (119, 6), (120, 6), (123, 3), (124, 3), (127, 3), (128, 3), (131, 6), (132, 6), (163, 2), (164, 2), (171, 4), (172, 4), (175, 3), (176, 3), (195, 3), (196, 3), (198, 2), (199, 2), (205, 2), (206, 2), (211, 2), (212, 2), (217, 4), (218, 4), (219, 128), (220, 128), (232, 8), (233, 8), (237, 4), (238, 4), (261, 129), (262, 129), (273, 2), (274, 2), (304, 16), (306, 4), (307, 4), (310, 3), (311, 3), (315, 4), (316, 4), (317, 0), (318, 0), (319, 0), (326, 11), (327, 11)]
  sls := [(22, 3), (24, 61), (43, 65), (44, 201), (45, 22), (46, 203), (47, 204), (48, 165), (49, 207), (50, 59), (51, 43), (52, 210), (53, 58), (54, 81), (58, 70), (59, 4), (65, 5), (81, 87), (106, 132), (118, 124), (165, 206), (194, 199), (201, 9), (203, 23), (204, 37), (207, 208), (210, 212), (214, 220), (215, 262), (250, 5), (309, 279)]
  ints := [(2, .i64), (3, .i64), (5, .u8), (6, .u8), (12, .u64), (21, .i32), (23, .u64), (36, .u16), (37, .u16), (208, .u8), (209, .u64), (230, .u32), (320, .u8), (321, .u8), (324, .i32), (325, .i32)]
  descs := [(4, 1, 0), (9, 2, 0), (10, 2, 0), (11, 2, 0), (15, 0, 316), (16, 0, 319), (17, 0, 327), (26, 0, 120), (27, 0, 108), (31, 0, 35), (32, 0, 95), (33, 0, 102), (42, 0, 56), (90, 0, 176), (93, 0, 164), (100, 0, 112), (121, 0, 124), (122, 0, 128), (126, 0, 218), (129, 0, 132), (130, 0, 196), (225, 0, 274), (247, 0, 307), (256, 0, 311), (279, 0, 3), (280, 0, 76), (323, 0, 5)]
theorem tab_ok : tab.ok Tryz.prog = true := by kernel_rfl
theorem st_22 : SliceT Tryz.prog 22 3 (.int .i64 0) 1 8 := ⟨by kernel_rfl, by kernel_rfl, rfl, by simp [Value.cells, Value.oneCell']⟩
theorem st_43 : SliceT Tryz.prog 43 65 (.slice none 0 0) 1 24 := ⟨by kernel_rfl, by kernel_rfl, rfl, by simp [Value.cells, Value.oneCell']⟩
theorem st_50 : SliceT Tryz.prog 50 59 (.slice none 0 0) 1 24 := ⟨by kernel_rfl, by kernel_rfl, rfl, by simp [Value.cells, Value.oneCell']⟩
theorem st_51 : SliceT Tryz.prog 51 43 (.slice none 0 0) 1 24 := ⟨by kernel_rfl, by kernel_rfl, rfl, by simp [Value.cells, Value.oneCell']⟩
theorem st_53 : SliceT Tryz.prog 53 58 (.slice none 0 0) 1 24 := ⟨by kernel_rfl, by kernel_rfl, rfl, by simp [Value.cells, Value.oneCell']⟩
theorem st_54 : SliceT Tryz.prog 54 81 (.slice none 0 0) 1 24 := ⟨by kernel_rfl, by kernel_rfl, rfl, by simp [Value.cells, Value.oneCell']⟩
theorem st_58 : SliceT Tryz.prog 58 70 (.agg #[.int .i64 0, .int .i64 0, .slice none 0 0]) 3 40 := ⟨by kernel_rfl, by kernel_rfl, rfl, by simp [Value.cells, Value.oneCell']⟩
theorem st_59 : SliceT Tryz.prog 59 4 (.bool false) 1 1 := ⟨by kernel_rfl, by kernel_rfl, rfl, by simp [Value.cells, Value.oneCell']⟩
theorem st_65 : SliceT Tryz.prog 65 5 (.int .u8 0) 1 1 := ⟨by kernel_rfl, by kernel_rfl, rfl, by simp [Value.cells, Value.oneCell']⟩
theorem st_81 : SliceT Tryz.prog 81 87 (.agg #[.int .u64 0, .slice none 0 0]) 2 32 := ⟨by kernel_rfl, by kernel_rfl, rfl, by simp [Value.cells, Value.oneCell']⟩
theorem st_165 : SliceT Tryz.prog 165 206 (.agg #[.int .i64 0, .int .i64 0]) 2 16 := ⟨by kernel_rfl, by kernel_rfl, rfl, by simp [Value.cells, Value.oneCell']⟩
theorem st_194 : SliceT Tryz.prog 194 199 (.agg #[.int .i64 0, .slice none 0 0]) 2 32 := ⟨by kernel_rfl, by kernel_rfl, rfl, by simp [Value.cells, Value.oneCell']⟩
theorem st_309 : SliceT Tryz.prog 309 279 (.pointer none) 1 8 := ⟨by kernel_rfl, by kernel_rfl, rfl, by simp [Value.cells, Value.oneCell']⟩
theorem sb_35 : StructT Tryz.prog 35 [.pointer none, .pointer none, .pointer none, .pointer none, .int .i64 0, .int .i64 0] [(0, 1), (1, 1), (2, 1), (3, 1), (4, 1), (5, 1)] := ⟨fun w => by simp, _, Tryz.underlying35, fun w => by simp⟩
theorem sb_56 : StructT Tryz.prog 56 [.slice none 0 0, .slice none 0 0, .slice none 0 0, .slice none 0 0, .slice none 0 0, .slice none 0 0, .slice none 0 0, .slice none 0 0, .slice none 0 0, .slice none 0 0, .slice none 0 0, .slice none 0 0] [(0, 1), (1, 1), (2, 1), (3, 1), (4, 1), (5, 1), (6, 1), (7, 1), (8, 1), (9, 1), (10, 1), (11, 1)] := ⟨fun w => by simp, _, Tryz.underlying56, fun w => by simp⟩
theorem sb_70 : StructT Tryz.prog 70 [.int .i64 0, .int .i64 0, .slice none 0 0] [(0, 1), (1, 1), (2, 1)] := ⟨fun w => by simp, _, Tryz.underlying70, fun w => by simp⟩
theorem sb_76 : StructT Tryz.prog 76 [.int .i64 0, .int .i64 0, .int .i64 0] [(0, 1), (1, 1), (2, 1)] := ⟨fun w => by simp, _, Tryz.underlying76, fun w => by simp⟩
theorem sb_87 : StructT Tryz.prog 87 [.int .u64 0, .slice none 0 0] [(0, 1), (1, 1)] := ⟨fun w => by simp, _, Tryz.underlying87, fun w => by simp⟩
theorem sb_95 : StructT Tryz.prog 95 [.pointer none, .int .i64 0, .int .u64 0, .pointer none, .int .u64 0, .bool false, .pointer none, .int .u16 0] [(0, 1), (1, 1), (2, 1), (3, 1), (4, 1), (5, 1), (6, 1), (7, 1)] := ⟨fun w => by simp, _, Tryz.underlying95, fun w => by simp⟩
theorem sb_98 : StructT Tryz.prog 98 [.int .u64 0, .int .u64 0, .int .i64 0] [(0, 1), (1, 1), (2, 1)] := ⟨fun w => by simp, _, Tryz.underlying98, fun w => by simp⟩
theorem sb_102 : StructT Tryz.prog 102 [.pointer none, .int .i64 0, .int .u64 0, .pointer none, .int .u64 0, .bool false, .int .i64 0, .slice none 0 0, .int .u16 0] [(0, 1), (1, 1), (2, 1), (3, 1), (4, 1), (5, 1), (6, 1), (7, 1), (8, 1)] := ⟨fun w => by simp, _, Tryz.underlying102, fun w => by simp⟩
theorem sb_108 : StructT Tryz.prog 108 [.slice none 0 0, .bool false, .int .i64 0, .int .i64 0, .int .i64 0, .int .i64 0] [(0, 1), (1, 1), (2, 1), (3, 3)] := ⟨fun w => by simp, _, Tryz.underlying108, fun w => by simp⟩
theorem sb_112 : StructT Tryz.prog 112 [.int .i64 0, .int .i64 0, .int .i64 0] [(0, 1), (1, 1), (2, 1)] := ⟨fun w => by simp, _, Tryz.underlying112, fun w => by simp⟩
theorem sb_120 : StructT Tryz.prog 120 [.slice none 0 0, .bool false, .int .i64 0, .int .i64 0, .int .i64 0, .int .i64 0] [(0, 1), (1, 1), (2, 1), (3, 3)] := ⟨fun w => by simp, _, Tryz.underlying120, fun w => by simp⟩
theorem sb_128 : StructT Tryz.prog 128 [.pointer none, .bool false, .int .i64 0] [(0, 1), (1, 1), (2, 1)] := ⟨fun w => by simp, _, Tryz.underlying128, fun w => by simp⟩
theorem sb_132 : StructT Tryz.prog 132 [.pointer none, .pointer none, .pointer none, .int .i64 0, .int .i64 0, .int .i64 0] [(0, 1), (1, 1), (2, 1), (3, 1), (4, 1), (5, 1)] := ⟨fun w => by simp, _, Tryz.underlying132, fun w => by simp⟩
theorem sb_164 : StructT Tryz.prog 164 [.int .i64 0, .slice none 0 0] [(0, 1), (1, 1)] := ⟨fun w => by simp, _, Tryz.underlying164, fun w => by simp⟩
theorem sb_172 : StructT Tryz.prog 172 [.slice none 0 0, .int .u64 0, .int .i64 0, .int .i64 0] [(0, 1), (1, 1), (2, 1), (3, 1)] := ⟨fun w => by simp, _, Tryz.underlying172, fun w => by simp⟩
theorem sb_176 : StructT Tryz.prog 176 [.int .i64 0, .int .i64 0, .int .i64 0] [(0, 1), (1, 1), (2, 1)] := ⟨fun w => by simp, _, Tryz.underlying176, fun w => by simp⟩
theorem sb_196 : StructT Tryz.prog 196 [.slice none 0 0, .slice none 0 0, .bool false] [(0, 1), (1, 1), (2, 1)] := ⟨fun w => by simp, _, Tryz.underlying196, fun w => by simp⟩
theorem sb_199 : StructT Tryz.prog 199 [.int .i64 0, .slice none 0 0] [(0, 1), (1, 1)] := ⟨fun w => by simp, _, Tryz.underlying199, fun w => by simp⟩
theorem sb_206 : StructT Tryz.prog 206 [.int .i64 0, .int .i64 0] [(0, 1), (1, 1)] := ⟨fun w => by simp, _, Tryz.underlying206, fun w => by simp⟩
theorem sb_218 : StructT Tryz.prog 218 [.slice none 0 0, .slice none 0 0, .map none, .bool false] [(0, 1), (1, 1), (2, 1), (3, 1)] := ⟨fun w => by simp, _, Tryz.underlying218, fun w => by simp⟩
theorem sb_233 : StructT Tryz.prog 233 [.int .u64 0, .int .u64 0, .int .i64 0, .int .i64 0, .int .i64 0, .int .i64 0, .bool false, .int .u32 0] [(0, 1), (1, 1), (2, 1), (3, 1), (4, 1), (5, 1), (6, 1), (7, 1)] := ⟨fun w => by simp, _, Tryz.underlying233, fun w => by simp⟩
theorem sb_238 : StructT Tryz.prog 238 [.int .u64 0, .int .u64 0, .int .i64 0, .int .u32 0] [(0, 1), (1, 1), (2, 1), (3, 1)] := ⟨fun w => by simp, _, Tryz.underlying238, fun w => by simp⟩
theorem sb_274 : StructT Tryz.prog 274 [.int .u32 0, .int .i64 0] [(0, 1), (1, 1)] := ⟨fun w => by simp, _, Tryz.underlying274, fun w => by simp⟩
theorem sb_307 : StructT Tryz.prog 307 [.slice none 0 0, .int .i64 0, .int .u16 0, .int .i64 0] [(0, 1), (1, 1), (2, 1), (3, 1)] := ⟨fun w => by simp, _, Tryz.underlying307, fun w => by simp⟩
theorem sb_311 : StructT Tryz.prog 311 [.int .i64 0, .slice none 0 0, .int .u16 0] [(0, 1), (1, 1), (2, 1)] := ⟨fun w => by simp, _, Tryz.underlying311, fun w => by simp⟩
theorem ze_65 : ∀ w, (zeroValue 65).run Tryz.prog w = .ok (.slice none 0 0) w := fun w => by simp
end Go.Proofs.YtdbhpikmagkopaaGreat
/-! Text Le. -/
set_option maxRecDepth 8000
set_option maxHeartbeats 16000000
set_option linter.unusedVariables false
set_option linter.unusedSimpArgs false
set_option linter.unusedSectionVars false
namespace Go.Proofs.YtdbhpikmagkopaaGreat
open Go.RowKit Go.Sl
def byteV (c : UInt8) : Value := .int .u8 (c.toNat : Int)
@[simp] theorem byteV_one (c : UInt8) : (byteV c).oneCell' = true := rfl
def bytes (l : List UInt8) : List Value := l.map byteV
@[simp] theorem bytes_one (l : List UInt8) : ∀ u ∈ bytes l, u.oneCell' = true := by
  intro u hu; obtain ⟨c, _, rfl⟩ := List.mem_map.1 hu; rfl
@[simp] theorem bytes_length (l : List UInt8) : (bytes l).length = l.length := by simp [bytes]
theorem bytes_append (a b : List UInt8) : bytes (a ++ b) = bytes a ++ bytes b := by simp [bytes]
theorem bytes_replicate (n : Nat) : bytes (List.replicate n 0) = List.replicate n (.int .u8 0) := by simp [bytes, byteV]
structure Pk where
  size : Nat
  had : List UInt8
  bad : Int
def Pk.ok (k : Pk) : Prop := k.had.length <= k.size /\ k.size <= 4096 /\ (k.bad = 0 \/ k.bad = 10)
abbrev PackerO (p : Nat) (k : Pk) (ao : Option Addr) (cap : Nat) (R : List SProp) : List SProp :=
  Row p 311 [.int .i64 k.size, .slice ao k.had.length cap, .int .u16 k.bad] :: Own 5 1 (.slice ao k.had.length cap) k.had.length (bytes k.had) :: R
def PackerR (p : Nat) (k : Pk) : SProp := ex fun ac : Option Addr × Nat => Sl.star (fact k.ok :: PackerO p k ac.1 ac.2 [])
theorem PackerR.open {W w : World} {p : Nat} {k : Pk} {R : List SProp} (hw : Holds W (PackerR p k :: R) w) : ∃ x : { ac : Option Addr × Nat // k.ok }, Holds W (PackerO p k x.1.1 x.1.2 R) w := by
 obtain ⟨ac, h⟩ := hw.exOpen
 have h := h.join
 exact ⟨⟨ac, h.factOpen⟩, h.tail⟩
theorem PackerR.shut {W : World} {p : Nat} {k : Pk} {R : List SProp} (hk : k.ok) {ao : Option Addr} {cap : Nat} : Ent W (PackerO p k ao cap R) (PackerR p k :: R) := fun _ hw =>
 Holds.exShut (ao, cap) (Holds.nest (L := [_, _, _]) (hw.factShut hk))
theorem PackerR.shut' {W : World} {p : Nat} {k : Pk} {R : List SProp} (hk : k.ok) {ao : Option Addr} {cap n : Nat} {xs : List Value} (hn : n = k.had.length) (hx : xs = bytes k.had) :
  Ent W (Row p 311 [.int .i64 k.size, .slice ao n cap, .int .u16 k.bad] :: Own 5 1 (.slice ao n cap) n xs :: R) (PackerR p k :: R) := by
 subst hn hx; exact PackerR.shut hk
theorem PackerR.know {W w : World} {p : Nat} {k : Pk} {R : List SProp} (hw : Holds W (PackerR p k :: R) w) : k.ok := by
 obtain ⟨⟨_, h⟩, _⟩ := PackerR.open hw
 exact h
def Pk.room (k : Pk) (n : Int) : Pk := if k.bad = 0 /\ (k.size : Int) - k.had.length < n then { k with bad := 10 } else k
theorem left_ok {W : World} {R : List SProp} (p : Nat) (k : Pk) :
  Does1 W Tryz.prog 230 [.pointer (some ⟨p, 0, none⟩)] (PackerR p k :: R) (.int .i64 ((k.size : Int) - k.had.length)) (PackerR p k :: R) := by
 (refine Does.enter Tryz.func230 Tryz.ntmps230 rfl rfl ?_)
 refine VC.obtain (fun w => PackerR.open) ?_
 rintro ⟨⟨ao, cap⟩, hk⟩
 have ⟨h1, h2, h3⟩ := hk
 refine w ?_
 (refine VC.quiet rfl (by kernel_rfl) (by kernel_rfl) ?_)
 refine w ?_
 refine VE.done1 rfl rfl ?_
 exact PackerR.shut hk
theorem Pk.room_ok {k : Pk} {n : Int} (h : k.ok) : (k.room n).ok := by
 unfold Pk.room
 split
 · exact ⟨h.1, h.2.1, .inr rfl⟩
 · exact h
theorem room_ok {W : World} {R : List SProp} (p : Nat) (k : Pk) (n : Int) :
  Does1 W Tryz.prog 226 [.pointer (some ⟨p, 0, none⟩), .int .i64 n] (PackerR p k :: R) (.bool ((k.room n).bad == 0)) (PackerR p (k.room n) :: R) := by
 (refine Does.enter Tryz.func226 Tryz.ntmps226 rfl rfl ?_)
 refine VC.obtain (fun w => PackerR.open) ?_
 rintro ⟨⟨ao, cap⟩, hk⟩
 have ⟨h1, h2, h3⟩ := hk
 refine w ?_
 refine zg ?_ ?_ <;> intro hb
 ·
  refine w ?_
  ((refine zq ?_; refine OpV.call rfl rfl (fun _ _ => by simp) (left_ok p k) (PackerR.shut hk) rfl ?_); intro _ _)
  refine VO.obtain (fun w => PackerR.open) ?_
  rintro ⟨⟨ao, cap⟩, -⟩
  refine w ?_
  refine zk ?_ ?_ <;> intro hc
  ·
   refine w ?_
   have e : k.room n = { k with bad := 10 } := by unfold Pk.room; rw [if_pos]; simp_all
   refine VE.done1 rfl ?_ ?_
   · rw [e]
   · rw [e]; exact PackerR.shut (k := { k with bad := 10 }) ⟨h1, h2, .inr rfl⟩
  ·
   refine w ?_
   have e : k.room n = k := by unfold Pk.room; rw [if_neg]; simp_all
   refine VE.done1 rfl ?_ ?_
   · rw [e]
   · rw [e]; exact PackerR.shut hk
 ·
  refine w ?_
  have e : k.room n = k := by unfold Pk.room; rw [if_neg]; simp_all
  refine VE.done1 rfl ?_ ?_
  · rw [e]
  · rw [e]; exact PackerR.shut hk
def lowBytes (v : Nat) : Nat -> List UInt8
  | 0 => []
  | j + 1 => lowBytes v j ++ [UInt8.ofNat (v / 256 ^ j)]
theorem lowBytes_length (v j : Nat) : (lowBytes v j).length = j := by induction j <;> simp [lowBytes, *]
def Pk.number (k : Pk) (v width : Nat) : Pk := if (k.room width).bad = 0 then { k with had := k.had ++ lowBytes v width } else k.room width
theorem Pk.room_zero {k : Pk} {n : Int} (h : (k.room n).bad = 0) : k.room n = k /\ k.bad = 0 /\ n <= (k.size : Int) - k.had.length := by
 unfold Pk.room at *
 split at h
 · cases h
 ·
  rename_i hn
  rw [if_neg hn]
  exact ⟨rfl, h, by omega⟩
theorem u8_of (n : Nat) : IntKind.u8.wrap (n : Int) = ((UInt8.ofNat n).toNat : Int) := by
 simp only [IntKind.wrap, IntKind.bits, IntKind.signed, Bool.false_and, Bool.false_eq_true, if_false]
 simp
theorem number_ok {W : World} {R : List SProp} (p : Nat) (k : Pk) (v width : Nat) :
    Does1 W Tryz.prog 211 [.pointer (some ⟨p, 0, none⟩), .int .u64 v, .int .i64 width] (PackerR p k :: R) (.tuple #[]) (PackerR p (k.number v width) :: R) := by
  (refine Does.enter Tryz.func211 Tryz.ntmps211 rfl rfl ?_)
  refine VC.know (fun w => PackerR.know) ?_
  intro ⟨h1, h2, h3⟩
  refine w ?_
  ((refine zq ?_; refine zd rfl rfl (room_ok p k width) ?_); intro _ _)
  refine w ?_
  refine zk ?_ ?_ <;> intro hc
  · refine w ?_
    refine VE.done1 rfl ?_ ?_
    · rfl
    · have hr : ¬ (k.room width).bad = 0 := by simpa using hc
      rw [show k.number v width = k.room width by unfold Pk.number; rw [if_neg hr]]
      exact Ent.refl
  · refine w ?_
    have hr : (k.room width).bad = 0 := by simpa using hc
    obtain ⟨e1, e2, e3⟩ := Pk.room_zero hr
    rw [e1]
    refine VC.loop (α := Nat) (fun j => j <= width) (fun j => PackerR p { k with had := k.had ++ lowBytes v j } :: R)
      (fun j => [(0, .pointer (some ⟨p, 0, none⟩)), (1, .int .u64 ((v / 256 ^ j : Nat) : Int)), (10, .int .i64 width), (11, .int .i64 j)]) (fun j => width - j) rfl 0 (Nat.zero_le _) ?_ ?_ ?_
    · simp only [lowBytes, List.append_nil]; exact Ent.refl
    · exact ⟨rfl, asV rfl (by simp), rfl, rfl, trivial⟩
    · intro j hj
      refine w ?_
      refine zk ?_ ?_ <;> intro hc
      · have hlt : j < width := by simpa using hc
        refine VC.obtain (fun w => PackerR.open) ?_
        rintro ⟨⟨ao, cap⟩, -⟩
        refine w ?_
        refine VO.re 19 (byteV (UInt8.ofNat (v / 256 ^ j))) rfl (by rw [u8_of]; rfl) ?_
        (refine zq ?_; refine OpV.buildSlice1 st_65 rfl rfl (by first | (simp; done) | simp [Value.oneCell']) (by decide) rfl ?_; intro nb)
        have hl : (k.had ++ lowBytes v j).length = k.had.length + j := by simp [lowBytes_length]
        (refine zq ?_; refine OpV.appendRow st_65 rfl rfl zh zm rfl (by first | (simp; done) | simp [Value.oneCell']) ?_ ?_ rfl ?_)
        · simp only [hl, maxLen]; omega
        · simp only [hl]; omega
        intro ao cap
        refine w ?_
        refine VE.round (j + 1) (by omega) (by omega) ⟨rfl, asV rfl (by rw [Nat.pow_succ, Nat.div_div_eq_div_mul]; rfl), rfl, rfl, trivial⟩ ?_
        have hl1 : (k.had ++ lowBytes v (j + 1)).length = k.had.length + j + 1 := by simp [lowBytes_length]; omega
        exact .drop (PackerR.shut' (k := { k with had := k.had ++ lowBytes v (j + 1) }) ⟨by simp only [hl1]; omega, h2, h3⟩ (by simp only [hl, hl1]) (by simp [bytes, lowBytes]))
      · have hge : j = width := by have : ¬ j < width := by simpa using hc
                                   omega
        subst hge
        refine w ?_
        (refine VE.done1N rfl ?_ ?_)
        · rfl
        · rw [show k.number v j = { k with had := k.had ++ lowBytes v j } by unfold Pk.number; rw [if_pos hr]]
          exact Ent.refl
theorem ldB {W : World} {P : Program} {n : Nat} {H : List SProp} {f : Fr} {dst : Option Tmp} {ty_ : TypeId} {pos : String} {after : Array Edge} {guard : Option (Nat × Bool)} {T : TabData} {x : Operand} {s : TypeId} {a : Addr} {k j : Nat} {l : List UInt8} (hT : T.ok P = true) (hx : evalX f x = some (.pointer (some (a.add j)))) (hl : assoc T.leaf s = some ()) (hr : Rds W H 1 (some a) k (bytes l)) (hj : j < l.length) :
  PureAt W P n H f { dst, op := .load s x, type := ty_, pos, after, guard } (.int .u8 (l[j].toNat : Int)) :=
 PureAt.ldR hT hx hl hr (by simp [bytes, byteV, hj])
theorem new_ok {W : World} {R : List SProp} (size : Nat) (hs : size <= 4096) :
  Does W Tryz.prog 207 [.int .i64 size] R (β := Nat) (fun _ => True) (fun b => .tuple #[.pointer (some ⟨b, 0, none⟩), .int .u16 0]) (fun b => PackerR b ⟨size, [], 0⟩ :: R) := by
 (refine Does.enter Tryz.func207 Tryz.ntmps207 rfl rfl ?_)
 refine w ?_; repeat (refine zj fun _ => ?_; refine w ?_)
 (refine VC.condFe rfl rfl (by simp; omega) ?_)
 refine w ?_; repeat (refine zj fun _ => ?_; refine w ?_)
 (apply VO.pure rfl rfl; apply PureAt.build sb_311 rfl; (simp [buildX, setL, Value.cells]; rfl); rfl)
 refine w ?_; repeat (refine zj fun _ => ?_; refine w ?_)
 refine VE.done _ rfl trivial rfl ?_
 exact fun w hw => PackerR.shut' (k := ⟨size, [], 0⟩) ⟨Nat.zero_le _, hs, .inl rfl⟩ rfl rfl w (Holds.swap (hw.ownNil 5 1))
theorem wrap64_of {v : Nat} (h : v < 2 ^ 64) : IntKind.u64.wrap (v : Int) = v := by
 simp only [IntKind.wrap, IntKind.bits, IntKind.signed, Bool.false_and, Bool.false_eq_true, if_false]
 omega
theorem wrap32_of (v : Nat) : IntKind.u32.wrap (v : Int) = ((v % 2 ^ 32 : Nat) : Int) := by
 simp only [IntKind.wrap, IntKind.bits, IntKind.signed, Bool.false_and, Bool.false_eq_true, if_false]
 omega
theorem u64_ok {W : World} {R : List SProp} (p : Nat) (k : Pk) (v : Nat) :
  Does1 W Tryz.prog 209 [.pointer (some ⟨p, 0, none⟩), .int .u64 v] (PackerR p k :: R) (.tuple #[]) (PackerR p (k.number v 8) :: R) := by
 (refine Does.enter Tryz.func209 Tryz.ntmps209 rfl rfl ?_)
 refine w ?_
 ((refine zq ?_; refine zd rfl rfl (number_ok p k v 8) ?_); intro _ _)
 refine w ?_
 (first | exact VE.done1 rfl rfl Ent.refl | exact VE.done1N rfl rfl Ent.refl)
theorem u32_ok {W : World} {R : List SProp} (p : Nat) (k : Pk) (v : Nat) (hv : v < 2 ^ 64) :
  Does1 W Tryz.prog 164 [.pointer (some ⟨p, 0, none⟩), .int .u32 v] (PackerR p k :: R) (.tuple #[]) (PackerR p (k.number v 4) :: R) := by
 (refine Does.enter Tryz.func164 Tryz.ntmps164 rfl rfl ?_)
 refine w ?_
 refine VO.re 6 (.int .u64 v) rfl (by rw [wrap64_of hv]) ?_
 ((refine zq ?_; refine zd rfl rfl (number_ok p k v 4) ?_); intro _ _)
 refine w ?_
 (first | exact VE.done1 rfl rfl Ent.refl | exact VE.done1N rfl rfl Ent.refl)
def Pk.image (k : Pk) : List UInt8 := k.had ++ List.replicate (k.size - k.had.length) 0
theorem bytes_ok {W : World} {R : List SProp} (p : Nat) (k : Pk) (hb : k.bad = 0) :
  Does W Tryz.prog 210 [.pointer (some ⟨p, 0, none⟩)] (PackerR p k :: R) (β := Nat) (fun _ => True) (fun b => .tuple #[.slice (some ⟨b, 0, none⟩) k.size k.size, .int .u16 0])
   (fun b => Own 5 1 (.slice (some ⟨b, 0, none⟩) k.size k.size) k.size (bytes k.image) :: PackerR p k :: R) := by
 (refine Does.enter Tryz.func210 Tryz.ntmps210 rfl rfl ?_)
 refine VC.obtain (fun w => PackerR.open) ?_
 rintro ⟨⟨ao, cap⟩, hk⟩
 have ⟨h1, h2, h3⟩ := hk
 refine w ?_
 (refine VC.condFe rfl rfl (by simpa using hb) ?_)
 refine w ?_
 refine zq ?_; refine OpV.makeSlice1 st_65 rfl rfl rfl ?_ ?_ rfl ?_
 · omega
 · simp only [maxLen]; omega
 intro b
 refine w ?_
 (refine zq ?_; refine OpV.copy st_65 rfl rfl zh (fun w hw => Sees.own (bytes_one _) hw zm) rfl ?_)
 have e : min k.had.length k.size = k.had.length := by omega
 rw [e]
 refine w ?_
 refine VE.done b rfl trivial rfl ?_
 have e2 : (bytes k.had).take (k.had.length * 1) ++ (List.replicate k.size (Value.int .u8 0)).drop (k.had.length * 1) = bytes k.image := by
  rw [Pk.image, bytes_append, bytes_replicate, Nat.mul_one, List.take_of_length_le (by simp)]; simp
 rw [e2]
 exact fun w hw => (PackerR.shut hk w (hw.reord (by (repeat first | exact .refl | (apply Reord.cons; focus repeat first | exact .head | apply Del.tail) | exact .nil | apply Reord.drop)))).swap
theorem same_any {W : World} {R : List SProp} {ao ao' : Option Addr} {n n' cap cap' : Nat} {a b : List UInt8} (ha : Rds W R 1 ao n (bytes a)) (hb : Rds W R 1 ao' n' (bytes b)) (hn : n <= maxLen) :
    Does1 W Tryz.prog 28 [.slice ao n cap, .slice ao' n' cap'] R (.bool (decide (a = b))) R := by
  have la : a.length = n := by have := ha.len; simpa using this
  have lb : b.length = n' := by have := hb.len; simpa using this
  unfold maxLen at hn
  (refine Does.enter Tryz.func28 Tryz.ntmps28 rfl rfl ?_)
  refine w ?_
  by_cases hl : n = n'
  · subst hl
    (refine VC.condFe rfl rfl (by simp) ?_)
    refine w ?_
    refine VC.loop (α := Nat) (fun j => j <= n /\ ∀ i (h : i < a.length) (h' : i < b.length), i < j -> a[i] = b[i]) (fun j => R)
      (fun j => [(0, .slice ao n cap), (1, .slice ao' n cap'), (5, .int .i64 j)]) (fun j => n - j) rfl 0 ⟨Nat.zero_le _, fun _ _ _ h => absurd h (by omega)⟩ Ent.refl ⟨rfl, rfl, rfl, trivial⟩ ?_
    rintro j ⟨hj, hi⟩
    refine w ?_
    refine zk ?_ ?_ <;> intro hc
    · have hlt : j < n := by simpa using hc
      obtain ⟨a0, rfl⟩ : ∃ a0, ao = some a0 := by cases ao with | none => have := ha.nil rfl; omega | some a0 => exact ⟨a0, rfl⟩
      obtain ⟨b0, rfl⟩ : ∃ b0, ao' = some b0 := by cases ao' with | none => have := hb.nil rfl; omega | some b0 => exact ⟨b0, rfl⟩
      have hb1 := ha
      have hb2 := hb
      refine w ?_
      ((refine VC.quiet rfl (by kernel_rfl) (by kernel_rfl) ?_); refine w ?_)
      refine zk ?_ ?_ <;> intro hc
      · refine w ?_
        refine VE.done1 rfl ?_ ?_
        · have hne : a[j]'(by omega) ≠ b[j]'(by omega) := by
            intro e; rw [e] at hc; simp at hc
          have : a ≠ b := fun e => hne (by subst e; rfl)
          simp [this]
        · exact Ent.refl
      · refine w ?_
        have he : a[j]'(by omega) = b[j]'(by omega) := by
          have : ((a[j]'(by omega)).toNat : Int) = ((b[j]'(by omega)).toNat : Int) := by simpa using hc
          exact UInt8.toNat_inj.1 (by omega)
        refine VE.round (j + 1) ⟨by omega, fun i h h' hij => ?_⟩ (by omega) ⟨rfl, rfl, rfl, trivial⟩ Ent.refl
        by_cases e : i = j
        · subst e; exact he
        · exact hi i h h' (by omega)
    · have hge : j = n := by have : ¬ j < n := by simpa using hc
                             omega
      refine w ?_
      refine VE.done1 rfl ?_ ?_
      · have : a = b := List.ext_getElem (by omega) fun i h h' => hi i h h' (by omega)
        simp [this]
      · exact Ent.refl
  · (refine VC.condTe rfl rfl (by simp; omega) ?_)
    refine w ?_
    refine VE.done1 rfl ?_ ?_
    · have : a ≠ b := fun e => hl (by subst e; omega)
      simp [this]
    · exact Ent.refl
end Go.Proofs.YtdbhpikmagkopaaGreat
/-! Text Na. -/
namespace Go.Sl
open Go Go.RowKit
section
variable {W w : World} {H R L M : List SProp} {α : Type} {res : α -> SProp}
def pile (res : α -> SProp) (l : List α) : SProp := star (l.map res)
theorem pile_nil (h : Holds W R w) : Holds W (pile res [] :: R) w := h.nest (L := [])
theorem pile_push {l : List α} {a : α} (h : Holds W (res a :: pile res l :: R) w) : Holds W (pile res (l ++ [a]) :: R) w := by
 have h2 := (h.swap).join
 refine Holds.nest ?_
 rw [List.map_append]
 refine h2.perm ?_
 simp
theorem pile_out {l : List α} {i : Nat} (hi : i < l.length) (h : Holds W (pile res l :: R) w) : Holds W (res l[i] :: pile res (l.eraseIdx i) :: R) w := by
 have h2 := h.join
 have e : List.Perm l (l[i] :: l.eraseIdx i) := by
  rw [List.eraseIdx_eq_take_drop_succ]
  have : l = l.take i ++ l[i] :: l.drop (i + 1) := by rw [<- List.drop_eq_getElem_cons hi, List.take_append_drop]
  exact (List.Perm.of_eq this).trans List.perm_middle
 have h3 : Holds W (res l[i] :: ((l.eraseIdx i).map res ++ R)) w := h2.perm (by simpa using ((e.map res).append_right R))
 have h4 : Holds W ((l.eraseIdx i).map res ++ (R ++ [res l[i]])) w := h3.perm (by
  refine (List.perm_append_comm (l₁ := [res l[i]]) (l₂ := (l.eraseIdx i).map res ++ R)).trans ?_
  rw [List.append_assoc])
 have h5 : Holds W (pile res (l.eraseIdx i) :: (R ++ [res l[i]])) w := h4.nest
 exact h5.perm (List.perm_append_comm (l₁ := pile res (l.eraseIdx i) :: R) (l₂ := [res l[i]]))
theorem Rds.star {sz k : Nat} {ao : Option Addr} {xs : List Value} (m : Sl.star L ∈ H) (h : ∀ R, Rds W (L ++ R) sz ao k xs) : Rds W H sz ao k xs := by
 have h0 := h []
 refine ⟨h0.len, h0.one, h0.nil, fun w hw => ?_⟩
 obtain ⟨R, p⟩ := mem_perm m
 exact (h R).cell w (hw.perm p).join
theorem Rds.pile {sz k : Nat} {ao : Option Addr} {xs : List Value} {l : List α} {a : α} (m : Sl.pile res l ∈ H) (ha : a ∈ l) (h : ∀ R, res a ∈ R -> Rds W R sz ao k xs) : Rds W H sz ao k xs :=
 Rds.star (L := l.map res) m (fun R => h _ (List.mem_append_left _ (List.mem_map_of_mem ha)))
end
end Go.Sl
namespace Go.Proofs.YtdbhpikmagkopaaGreat
open Go.RowKit Go.Sl
attribute [local irreducible] Own
variable {W : World} {R : List SProp}
structure RowE where
  ao : Option Addr
  cap : Nat
  data : List UInt8
abbrev RowE.hdr (e : RowE) : Value := .slice e.ao e.data.length e.cap
def RowE.res (e : RowE) : SProp := Own 5 1 (.slice e.ao e.data.length e.cap) e.data.length (bytes e.data)
structure RowE.ok (e : RowE) : Prop where
  nil : e.ao = none -> e.data.length = 0
  cap : e.data.length <= e.cap
theorem rowhdr_one (l : List RowE) : ∀ u ∈ l.map RowE.hdr, u.oneCell' = true := by
 intro u hu; obtain ⟨e, _, rfl⟩ := List.mem_map.1 hu; rfl
theorem RowE.rds {H : List SProp} {e : RowE} (h : e.ok) (m : e.res ∈ H) : Rds W H 1 e.ao e.data.length (bytes e.data) := Rds.own (bytes_one _) m (by simp) h.nil
theorem RowE.know {W w : World} {R : List SProp} {e : RowE} (h : Holds W (e.res :: R) w) : e.ok := ⟨h.ownNone (.head _), h.ownCap (.head _)⟩
structure RdRows (W : World) (R : List SProp) (ao : Option Addr) (l : List RowE) : Prop where
  rds : Rds W R 1 ao l.length (l.map RowE.hdr)
  each : ∀ e ∈ l, Rds W R 1 e.ao e.data.length (bytes e.data)
  ok : ∀ e ∈ l, e.ok
abbrev RowsO (x : Option Addr × Nat) (l : List RowE) : SProp := Own 65 1 (.slice x.1 l.length x.2) l.length (l.map RowE.hdr)
abbrev PilR (l : List RowE) : SProp := pile RowE.res l
theorem RdRows.own {H : List SProp} {x : Option Addr × Nat} {l : List RowE} (hn : x.1 = none -> l.length = 0) (hok : ∀ e ∈ l, e.ok) (m1 : RowsO x l ∈ H) (m2 : PilR l ∈ H) : RdRows W H x.1 l :=
 ⟨Rds.own (rowhdr_one l) m1 (by simp) hn, fun e he => Rds.pile m2 he (fun R hR => RowE.rds (hok e he) hR), hok⟩
theorem RdRows.ent {H R : List SProp} {ao : Option Addr} {l : List RowE} (h : RdRows W R ao l) (e : Ent W H R) : RdRows W H ao l := ⟨h.rds.ent e, fun x hx => (h.each x hx).ent e, h.ok⟩
theorem PilR.know {W w : World} {R : List SProp} {l : List RowE} (h : Holds W (PilR l :: R) w) : ∀ e ∈ l, e.ok := by
 intro e he
 obtain ⟨i, hi, rfl⟩ := List.mem_iff_getElem.1 he
 exact RowE.know (pile_out hi h)
structure PatE where
  member : Int
  row : Int
  d : RowE
abbrev PatE.cells (p : PatE) : List Value := [.int .i64 p.member, .int .i64 p.row, p.d.hdr]
def patCells (l : List PatE) : List Value := l.flatMap PatE.cells
def PatE.res (p : PatE) : SProp := p.d.res
theorem pat_one (p : PatE) : ∀ u ∈ p.cells, u.oneCell' = true := by simp [Value.oneCell']
theorem pats_one (l : List PatE) : ∀ u ∈ patCells l, u.oneCell' = true := by
 intro u hu; obtain ⟨p, _, h⟩ := List.mem_flatMap.1 hu; exact pat_one p u h
theorem pats_len (l : List PatE) : (patCells l).length = l.length * 3 := flat_length l (fun _ _ => rfl)
theorem pat_get (l : List PatE) (j i : Nat) (h : j < l.length) (hi : i < 3) : (patCells l)[j * 3 + i]? = (l[j].cells)[i]? := flat_at l j i h (fun _ _ => rfl) hi
theorem pat_at (l : List PatE) (j : Nat) (h : j < l.length) : ((patCells l).drop (j * 3)).take 3 = l[j].cells := flat_part l j h (fun _ _ => rfl)
structure RdPats (W : World) (R : List SProp) (ao : Option Addr) (l : List PatE) : Prop where
  rds : Rds W R 3 ao l.length (patCells l)
  each : ∀ p ∈ l, Rds W R 1 p.d.ao p.d.data.length (bytes p.d.data)
  ok : ∀ p ∈ l, p.d.ok
abbrev PatsO (x : Option Addr × Nat) (l : List PatE) : SProp := Own 70 3 (.slice x.1 l.length x.2) l.length (patCells l)
abbrev PilP (l : List PatE) : SProp := pile PatE.res l
theorem RdPats.own {H : List SProp} {x : Option Addr × Nat} {l : List PatE} (hn : x.1 = none -> l.length = 0) (hok : ∀ p ∈ l, p.d.ok) (m1 : PatsO x l ∈ H) (m2 : PilP l ∈ H) : RdPats W H x.1 l :=
 ⟨Rds.own (pats_one l) m1 (pats_len l) hn, fun p hp => Rds.pile m2 hp (fun R hR => RowE.rds (hok p hp) hR), hok⟩
theorem RdPats.ent {H R : List SProp} {ao : Option Addr} {l : List PatE} (h : RdPats W R ao l) (e : Ent W H R) : RdPats W H ao l := ⟨h.rds.ent e, fun x hx => (h.each x hx).ent e, h.ok⟩
theorem PilP.know {W w : World} {R : List SProp} {l : List PatE} (h : Holds W (PilP l :: R) w) : ∀ p ∈ l, p.d.ok := by
 intro e he
 obtain ⟨i, hi, rfl⟩ := List.mem_iff_getElem.1 he
 exact RowE.know (pile_out hi h)
structure TxnE where
  seq : Nat
  ao : Option Addr
  cap : Nat
  pats : List PatE
abbrev TxnE.cells (t : TxnE) : List Value := [.int .u64 t.seq, .slice t.ao t.pats.length t.cap]
def txnCells (l : List TxnE) : List Value := l.flatMap TxnE.cells
def TxnE.res (t : TxnE) : SProp := Sl.star [PatsO (t.ao, t.cap) t.pats, PilP t.pats]
structure TxnE.ok (t : TxnE) : Prop where
  nil : t.ao = none -> t.pats.length = 0
  cap : t.pats.length <= t.cap
  each : ∀ p ∈ t.pats, p.d.ok
theorem txn_one (p : TxnE) : ∀ u ∈ p.cells, u.oneCell' = true := by simp [Value.oneCell']
theorem txns_one (l : List TxnE) : ∀ u ∈ txnCells l, u.oneCell' = true := by
 intro u hu; obtain ⟨p, _, h⟩ := List.mem_flatMap.1 hu; exact txn_one p u h
theorem txns_len (l : List TxnE) : (txnCells l).length = l.length * 2 := flat_length l (fun _ _ => rfl)
theorem txn_get (l : List TxnE) (j i : Nat) (h : j < l.length) (hi : i < 2) : (txnCells l)[j * 2 + i]? = (l[j].cells)[i]? := flat_at l j i h (fun _ _ => rfl) hi
structure RdTxns (W : World) (R : List SProp) (ao : Option Addr) (l : List TxnE) : Prop where
  rds : Rds W R 2 ao l.length (txnCells l)
  each : ∀ t ∈ l, RdPats W R t.ao t.pats
  ok : ∀ t ∈ l, t.ok
abbrev TxnsO (x : Option Addr × Nat) (l : List TxnE) : SProp := Own 87 2 (.slice x.1 l.length x.2) l.length (txnCells l)
abbrev PilT (l : List TxnE) : SProp := pile TxnE.res l
theorem TxnE.know {W w : World} {R : List SProp} {t : TxnE} (h : Holds W (t.res :: R) w) : t.ok := by
 have h2 : Holds W (PatsO (t.ao, t.cap) t.pats :: PilP t.pats :: R) w := h.join
 exact ⟨h2.ownNone (.head _), h2.ownCap (.head _), PilP.know h2.tail⟩
theorem PilT.know {W w : World} {R : List SProp} {l : List TxnE} (h : Holds W (PilT l :: R) w) : ∀ t ∈ l, t.ok := by
 intro e he
 obtain ⟨i, hi, rfl⟩ := List.mem_iff_getElem.1 he
 exact TxnE.know (pile_out hi h)
theorem TxnE.rd {H : List SProp} {t : TxnE} (h : t.ok) (m : t.res ∈ H) : RdPats W H t.ao t.pats := by
 have q : ∀ R, RdPats W ([PatsO (t.ao, t.cap) t.pats, PilP t.pats] ++ R) t.ao t.pats := fun R => RdPats.own (x := (t.ao, t.cap)) h.nil h.each (by simp) (by simp)
 exact ⟨Rds.star m fun R => (q R).rds, fun p hp => Rds.star m fun R => (q R).each p hp, h.each⟩
theorem RdTxns.own {H : List SProp} {x : Option Addr × Nat} {l : List TxnE} (hn : x.1 = none -> l.length = 0) (hok : ∀ t ∈ l, t.ok) (m1 : TxnsO x l ∈ H) (m2 : PilT l ∈ H) : RdTxns W H x.1 l := by
 refine ⟨Rds.own (txns_one l) m1 (txns_len l) hn, fun t ht => ?_, hok⟩
 exact ⟨Rds.pile m2 ht (fun R hR => (TxnE.rd (hok t ht) hR).rds), fun p hp => Rds.pile m2 ht (fun R hR => (TxnE.rd (hok t ht) hR).each p hp), (hok t ht).each⟩
theorem RdTxns.ent {H R : List SProp} {ao : Option Addr} {l : List TxnE} (h : RdTxns W R ao l) (e : Ent W H R) : RdTxns W H ao l := ⟨h.rds.ent e, fun x hx => (h.each x hx).ent e, h.ok⟩
theorem TxnE.shut {W w : World} {R : List SProp} (t : TxnE) (h : Holds W (PatsO (t.ao, t.cap) t.pats :: PilP t.pats :: R) w) : Holds W (t.res :: R) w := h.nest (L := [PatsO (t.ao, t.cap) t.pats, PilP t.pats])
end Go.Proofs.YtdbhpikmagkopaaGreat
/-! Text Lr. -/
namespace Go.Proofs.YtdbhpikmagkopaaGreat
open Go.RowKit Go.Sl
theorem clone_ok {W : World} {R : List SProp} {ao : Option Addr} {n cap : Nat} {xs : List Value} (ha : Rds W R 1 ao n xs) (hn : n <= 1099511627776) :
    Does W Tryz.prog 185 [.slice ao n cap] R (β := Option Addr × Nat) (fun _ => True) (fun x => .slice x.1 n x.2) (fun x => Own 5 1 (.slice x.1 n x.2) n xs :: R) := by
  (refine Does.enter Tryz.func185 Tryz.ntmps185 rfl rfl ?_)
  refine w ?_
  cases ao with
  | none =>
    have h0 := ha.nil rfl
    subst h0
    have hx : xs = [] := List.eq_nil_of_length_eq_zero (by simpa using ha.len)
    subst hx
    (refine VC.condTe rfl rfl (rfl) ?_)
    refine w ?_
    exact VE.done (none, 0) rfl trivial rfl fun w hw => hw.ownNil _ _
  | some a =>
    (refine VC.condFe rfl rfl (rfl) ?_)
    refine w ?_
    (refine zq ?_; refine OpV.buildSlice1 st_65 rfl rfl (by first | (simp; done) | simp [Value.oneCell']) (by decide) rfl ?_; intro nb)
    refine VO.ent (H' := Own 5 1 (.slice (some ⟨nb, 0, none⟩) 0 0) 0 [] :: R) (fun w hw => Holds.ownShut rfl (Nat.le_refl _) (by decide) rfl hw) ?_
    refine w ?_
    refine VO.step rfl rfl ?_
    refine OpV.append st_65 rfl rfl .head (fun w hw => (ha.sees (cap := cap) hw.tail).src st_65.und) (by simp only [maxLen]; omega) (by omega) rfl ?_
    intro ao' cap'
    simp only [Nat.zero_add, List.nil_append]
    refine w ?_
    exact VE.done (ao', cap') rfl trivial rfl Ent.refl
structure Rk where
  b : List UInt8
  at_ : Nat
  err : Int
  wh : Int
def Rk.ok (k : Rk) : Prop := k.at_ <= k.b.length /\ k.b.length <= 1099511627776
abbrev ReaderO (p : Nat) (k : Rk) (ao : Option Addr) (cap : Nat) (R : List SProp) : List SProp :=
  Row p 307 [.slice ao k.b.length cap, .int .i64 k.at_, .int .u16 k.err, .int .i64 k.wh] :: Own 5 1 (.slice ao k.b.length cap) k.b.length (bytes k.b) :: R
def ReaderR (p : Nat) (k : Rk) : SProp := ex fun ac : Option Addr × Nat => Sl.star (fact k.ok :: ReaderO p k ac.1 ac.2 [])
theorem ReaderR.open {W w : World} {p : Nat} {k : Rk} {R : List SProp} (hw : Holds W (ReaderR p k :: R) w) : ∃ x : { ac : Option Addr × Nat // k.ok }, Holds W (ReaderO p k x.1.1 x.1.2 R) w := by
 obtain ⟨ac, h⟩ := hw.exOpen
 have h := h.join
 exact ⟨⟨ac, h.factOpen⟩, h.tail⟩
theorem ReaderR.shut {W : World} {p : Nat} {k : Rk} {R : List SProp} (hk : k.ok) {ao : Option Addr} {cap : Nat} : Ent W (ReaderO p k ao cap R) (ReaderR p k :: R) := fun _ hw =>
 Holds.exShut (ao, cap) (Holds.nest (L := [_, _, _]) (hw.factShut hk))
theorem ReaderR.know {W w : World} {p : Nat} {k : Rk} {R : List SProp} (hw : Holds W (ReaderR p k :: R) w) : k.ok := by
 obtain ⟨⟨_, h⟩, _⟩ := ReaderR.open hw
 exact h
theorem read_ok {W : World} {R : List SProp} {ao : Option Addr} {n cap : Nat} {l : List UInt8} (ha : Rds W R 1 ao n (bytes l)) (hn : n <= 1099511627776) :
  Does W Tryz.prog 198 [.slice ao n cap] R (β := Nat) (fun _ => True) (fun b => .pointer (some ⟨b, 0, none⟩)) (fun b => ReaderR b ⟨l, 0, 0, 0⟩ :: R) := by
 have hl : l.length = n := by have := ha.len; simpa using this
 (refine Does.enter Tryz.func198 Tryz.ntmps198 rfl rfl ?_)
 refine w ?_; repeat (refine zj fun _ => ?_; refine w ?_)
 (refine zq ?_; refine zd rfl rfl (clone_ok ha hn) ?_)
 rintro ⟨ao', cap'⟩ -
 refine w ?_; repeat (refine zj fun _ => ?_; refine w ?_)
 (apply VO.pure rfl rfl; apply PureAt.build sb_307 rfl; (simp [buildX, setL, Value.cells]; rfl); rfl)
 refine w ?_; repeat (refine zj fun _ => ?_; refine w ?_)
 subst hl
 exact VE.done _ rfl trivial rfl (ReaderR.shut (k := ⟨l, 0, 0, 0⟩) ⟨Nat.zero_le _, hn⟩)
theorem rleft_ok {W : World} {R : List SProp} (p : Nat) (k : Rk) :
  Does1 W Tryz.prog 228 [.pointer (some ⟨p, 0, none⟩)] (ReaderR p k :: R) (.int .i64 ((k.b.length : Int) - k.at_)) (ReaderR p k :: R) := by
 (refine Does.enter Tryz.func228 Tryz.ntmps228 rfl rfl ?_)
 refine VC.obtain (fun w => ReaderR.open) ?_
 rintro ⟨⟨ao, cap⟩, hk⟩
 have ⟨h1, h2⟩ := hk
 refine w ?_
 ((refine VC.quiet rfl (by kernel_rfl) (by kernel_rfl) ?_); refine w ?_)
 refine VE.done1 rfl rfl ?_
 exact ReaderR.shut hk
theorem rfail_ok {W : World} {R : List SProp} (p : Nat) (k : Rk) (e a : Int) :
  Does1 W Tryz.prog 229 [.pointer (some ⟨p, 0, none⟩), .int .u16 e, .int .i64 a] (ReaderR p k :: R) (.tuple #[]) (ReaderR p { k with err := e, wh := a } :: R) := by
 (refine Does.enter Tryz.func229 Tryz.ntmps229 rfl rfl ?_)
 refine VC.obtain (fun w => ReaderR.open) ?_
 rintro ⟨⟨ao, cap⟩, hk⟩
 refine w ?_
 (refine VE.done1N rfl rfl ?_)
 exact ReaderR.shut (k := { k with err := e, wh := a }) hk
def Rk.short (k : Rk) (n : Nat) : Rk := if k.err = 0 /\ k.b.length - k.at_ < n then { k with err := 11, wh := k.at_ } else k
def Rk.got (k : Rk) (n : Nat) : List UInt8 := if (k.short n).err = 0 then (k.b.drop k.at_).take n else []
theorem Rk.short_zero {k : Rk} {n : Nat} (h : (k.short n).err = 0) : k.short n = k /\ k.err = 0 /\ n <= k.b.length - k.at_ := by
 unfold Rk.short at *
 split at h
 · cases h
 ·
  rename_i hn
  rw [if_neg hn]
  exact ⟨rfl, h, by omega⟩
theorem Rk.got_length {k : Rk} {n : Nat} (h : (k.short n).err = 0) : (k.got n).length = n := by
 obtain ⟨_, _, h3⟩ := Rk.short_zero h
 unfold Rk.got
 rw [if_pos h]
 simp; omega
theorem next_bad {W : World} {R : List SProp} (p : Nat) (k : Rk) (n : Nat) (hbad : (k.short n).err ≠ 0) :
  Does1 W Tryz.prog 220 [.pointer (some ⟨p, 0, none⟩), .int .i64 n] (ReaderR p k :: R) (.slice none 0 0) (ReaderR p (k.short n) :: R) := by
 (refine Does.enter Tryz.func220 Tryz.ntmps220 rfl rfl ?_)
 refine VC.obtain (fun w => ReaderR.open) ?_
 rintro ⟨⟨ao, cap⟩, hk⟩
 have ⟨h1, h2⟩ := hk
 refine w ?_
 refine zg ?_ ?_ <;> intro hb
 ·
  refine w ?_
  ((refine zq ?_; refine OpV.call rfl rfl (fun _ _ => by simp) (rleft_ok p k) (ReaderR.shut hk) rfl ?_); intro _ _)
  refine VO.obtain (fun w => ReaderR.open) ?_
  rintro ⟨⟨ao, cap⟩, -⟩
  have hb : k.err = 0 := by simpa using hb
  refine w ?_
  refine zk ?_ ?_ <;> intro hc
  ·
   have hs : k.short n = { k with err := 11, wh := k.at_ } := by unfold Rk.short; rw [if_pos ⟨hb, by simp at hc; omega⟩]
   refine w ?_
   ((refine zq ?_; refine OpV.call rfl rfl (fun _ _ => by simp) (rfail_ok p k 11 k.at_) (ReaderR.shut hk) rfl ?_); intro _ _)
   refine VO.obtain (fun w => ReaderR.open) ?_
   rintro ⟨⟨ao, cap⟩, hk'⟩
   refine w ?_
   rw [hs]
   refine VE.done1 rfl rfl ?_
   exact ReaderR.shut hk'
  ·
   have hs : k.short n = k := by unfold Rk.short; rw [if_neg]; simp at hc; omega
   rw [hs] at hbad
   exact absurd hb hbad
 ·
  have hb : k.err ≠ 0 := by simpa using hb
  have hs : k.short n = k := by unfold Rk.short; rw [if_neg]; omega
  refine w ?_
  (refine VC.condTe rfl rfl (by simpa using hb) ?_)
  refine w ?_
  rw [hs]
  refine VE.done1 rfl rfl ?_
  exact ReaderR.shut hk
theorem next_good {W : World} {R : List SProp} (p : Nat) (k : Rk) (n : Nat) (hgood : (k.short n).err = 0) :
  Does W Tryz.prog 220 [.pointer (some ⟨p, 0, none⟩), .int .i64 n] (ReaderR p k :: R) (β := Option Addr × Nat)
   (fun x => k.b.length <= x.2) (fun x => .slice (subA x.1 x.2 k.at_ 1) n (x.2 - k.at_)) (fun x => ReaderO p k x.1 x.2 R) := by
 (refine Does.enter Tryz.func220 Tryz.ntmps220 rfl rfl ?_)
 refine VC.obtain (fun w => ReaderR.open) ?_
 rintro ⟨⟨ao, cap⟩, hk⟩
 have ⟨h1, h2⟩ := hk
 obtain ⟨hs, hb, hle⟩ := Rk.short_zero hgood
 refine w ?_
 (first | refine VO.gT rfl rfl rfl (by simpa using hb) ?_ | refine VD.gT rfl rfl rfl (by simpa using hb) ?_)
 refine w ?_
 ((refine zq ?_; refine OpV.call rfl rfl (fun _ _ => by simp) (rleft_ok p k) (ReaderR.shut hk) rfl ?_); intro _ _)
 refine VO.obtain (fun w => ReaderR.open) ?_
 rintro ⟨⟨ao, cap⟩, -⟩
 refine w ?_
 (refine VC.condFe rfl rfl (by simp; omega) ?_)
 refine w ?_
 (refine VC.condFe rfl rfl (by simp [hb]) ?_)
 refine VC.know (fun w hw => hw.ownCap zm) ?_
 intro hcap
 refine w ?_
 ((refine VC.quiet rfl (by kernel_rfl) (by kernel_rfl) ?_); refine w ?_)
 refine VE.done (ao, cap) rfl hcap ?_ Ent.refl
 show Value.slice _ (k.at_ + n - k.at_) _ = _
 rw [Nat.add_sub_cancel_left]
theorem got_rds {W : World} {k : Rk} {n : Nat} {ao : Option Addr} {cap : Nat} {H : List SProp} (hk : k.ok) (hgood : (k.short n).err = 0) (hcap : k.b.length <= cap) (hn : ao = none -> k.b.length = 0)
  (m : Own 5 1 (.slice ao k.b.length cap) k.b.length (bytes k.b) ∈ H) : Rds W H 1 (subA ao cap k.at_ 1) n (bytes (k.got n)) := by
 obtain ⟨hs, hb, hle⟩ := Rk.short_zero hgood
 have h1 := hk.1
 have r := Rds.own (W := W) (bytes_one k.b) m (by simp) hn
 have := r.sub (cap := cap) (l := k.at_) (h := k.at_ + n) (by omega) (by omega) hcap
 rw [Nat.add_sub_cancel_left] at this
 have e : ((bytes k.b).drop (k.at_ * 1)).take (n * 1) = bytes (k.got n) := by
  unfold Rk.got; rw [if_pos hgood]; simp [bytes]
 rw [e] at this
 exact this
def leVal : List UInt8 -> Nat
  | [] => 0
  | c :: r => c.toNat + 256 * leVal r
theorem leVal_lt : ∀ l : List UInt8, leVal l < 256 ^ l.length
  | [] => by decide
  | c :: r => by
    have := leVal_lt r
    have hc := c.toNat_lt
    simp only [leVal, List.length_cons, Nat.pow_succ]
    omega
theorem leVal_snoc : ∀ (l : List UInt8) (c : UInt8), leVal (l ++ [c]) = leVal l + c.toNat * 256 ^ l.length
  | [], c => by simp [leVal]
  | d :: r, c => by
    have := leVal_snoc r c
    simp only [List.cons_append, leVal, this, List.length_cons, Nat.pow_succ]
    rw [Nat.mul_add, Nat.add_assoc, Nat.mul_left_comm, Nat.mul_comm (256 ^ r.length)]
theorem or_shift (x y s : Nat) (hx : x < 2 ^ s) (hs : s <= 64) (hy : y * 2 ^ s < 2 ^ 64) :
  IntKind.u64.wrap ((BitVec.ofInt IntKind.u64.bits (x : Int) ||| BitVec.ofInt IntKind.u64.bits (IntKind.u64.wrap ((y : Int) * 2 ^ min s IntKind.u64.bits))).toNat : Int) = ((x + y * 2 ^ s : Nat) : Int) := by
 have hm : min s IntKind.u64.bits = s := by simp [IntKind.bits]; omega
 have hx64 : x < 2 ^ 64 := Nat.lt_of_lt_of_le hx (Nat.pow_le_pow_right (by decide) hs)
 rw [hm]
 have e1 : ((y : Int) * 2 ^ s) = ((y * 2 ^ s : Nat) : Int) := by simp
 rw [e1, wrap64_of hy]
 have e2 : (BitVec.ofInt IntKind.u64.bits (x : Int)).toNat = x := by
  simp [IntKind.bits]; omega
 have e3 : (BitVec.ofInt IntKind.u64.bits ((y * 2 ^ s : Nat) : Int)).toNat = y * 2 ^ s := by
  simp only [BitVec.toNat_ofInt, IntKind.bits]
  omega
 rw [BitVec.toNat_or, e2, e3]
 have e4 : x ||| y * 2 ^ s = x + y * 2 ^ s := by
  rw [Nat.or_comm, Nat.mul_comm, <- Nat.two_pow_add_eq_or_of_lt hx]; omega
 have e5 : x + y * 2 ^ s < 2 ^ 64 := by
  rw [<- e4]; exact Nat.or_lt_two_pow hx64 hy
 rw [e4, wrap64_of e5]
theorem or_le (x c i : Nat) (hx : x < 256 ^ i) (hc : c < 256) (hi : i < 8) :
  IntKind.u64.wrap ((BitVec.ofInt IntKind.u64.bits (x : Int) ||| BitVec.ofInt IntKind.u64.bits (IntKind.u64.wrap ((c : Int) * 2 ^ min (8 * i) IntKind.u64.bits))).toNat : Int) = ((x + c * 256 ^ i : Nat) : Int) := by
 have e256 : (256 : Nat) ^ i = 2 ^ (8 * i) := by rw [Nat.pow_mul]
 rw [e256] at hx ⊢
 refine or_shift x c (8 * i) hx (by omega) ?_
 calc c * 2 ^ (8 * i) < 256 * 2 ^ (8 * i) := Nat.mul_lt_mul_of_pos_right hc (Nat.two_pow_pos _)
  _ = 2 ^ (8 + 8 * i) := by rw [Nat.pow_add]
  _ <= 2 ^ 64 := Nat.pow_le_pow_right (by decide) (by omega)
def Rk.number (k : Rk) (width : Nat) : Rk := if (k.short width).err = 0 then { k with at_ := k.at_ + width } else k.short width
theorem rnumber_ok {W : World} {R : List SProp} (p : Nat) (k : Rk) (width : Nat) (hw8 : width <= 8) :
    Does1 W Tryz.prog 202 [.pointer (some ⟨p, 0, none⟩), .int .i64 width] (ReaderR p k :: R) (.int .u64 (leVal (k.got width))) (ReaderR p (k.number width) :: R) := by
  (refine Does.enter Tryz.func202 Tryz.ntmps202 rfl rfl ?_)
  refine VC.know (fun w => ReaderR.know) ?_
  intro hk
  have ⟨h1, h2⟩ := hk
  refine w ?_
  by_cases hg : (k.short width).err = 0
  · obtain ⟨hs, hb, hle⟩ := Rk.short_zero hg
    (refine zq ?_; refine zd rfl rfl (next_good p k width hg) ?_)
    rintro ⟨ao, cap⟩ hcap
    refine VO.know (fun w hw => hw.ownNone zm) ?_
    intro hnone
    have hr := got_rds (W := W) (n := width) (H := ReaderO p k ao cap R) hk hg hcap hnone zm
    have hgl := Rk.got_length hg
    refine w ?_
    refine VC.loop (α := Nat) (fun j => j <= width) (fun j => ReaderO p k ao cap R)
      (fun j => [(0, .pointer (some ⟨p, 0, none⟩)), (1, .int .i64 width), (5, .int .u64 ((leVal ((k.got width).take j) : Nat) : Int)), (10, .slice (subA ao cap k.at_ 1) width (cap - k.at_)), (11, .int .i64 width), (12, .int .i64 j)])
      (fun j => width - j) rfl 0 (Nat.zero_le _) Ent.refl ⟨rfl, rfl, rfl, rfl, rfl, rfl, trivial⟩ ?_
    intro j hj
    refine w ?_
    refine zk ?_ ?_ <;> intro hc
    · have hlt : j < width := by simpa using hc
      obtain ⟨a0, ha0⟩ : ∃ a0, subA ao cap k.at_ 1 = some a0 := by
        cases e : subA ao cap k.at_ 1 with
        | none => have := hr.nil e; omega
        | some a0 => exact ⟨a0, rfl⟩
      rw [ha0] at hr ⊢
      have hb1 := hr
      refine w ?_
      have hc8 := ((k.got width)[j]'(by omega)).toNat_lt
      (refine zq ?_; refine OpV.pure (PureAt.shl rfl rfl (by omega)) rfl ?_)
      refine w ?_
      have ht : (k.got width).take (j + 1) = (k.got width).take j ++ [(k.got width)[j]'(by omega)] := by rw [List.take_succ_eq_append_getElem (by omega)]
      have htl : ((k.got width).take j).length = j := by rw [List.length_take]; omega
      have hor := or_le (leVal ((k.got width).take j)) ((k.got width)[j]'(by omega)).toNat j (by have := leVal_lt ((k.got width).take j); rw [htl] at this; exact this) hc8 (by omega)
      refine VE.round (j + 1) (by omega) (by omega) ⟨rfl, rfl, asV rfl ?_, rfl, rfl, rfl, trivial⟩ Ent.refl
      rw [ht, leVal_snoc, htl, <- hor, wrap64_of (v := ((k.got width)[j]'(by omega)).toNat) (by omega), show (8 * (j : Int)).toNat = 8 * j by omega]
    · have hge : j = width := by have : ¬ j < width := by simpa using hc
                                 omega
      subst hge
      refine w ?_
      (refine VC.condTe rfl rfl (by simp [hb]) ?_)
      refine w ?_
      refine VE.done1 rfl ?_ ?_
      · rw [List.take_of_length_le (by omega)]
      · rw [show k.number j = { k with at_ := k.at_ + j } by unfold Rk.number; rw [if_pos hg]]
        exact ReaderR.shut (k := { k with at_ := k.at_ + j }) ⟨by simp only; omega, h2⟩
  · ((refine zq ?_; refine zd rfl rfl (next_bad p k width hg) ?_); intro _ _)
    have hgn : k.got width = [] := by unfold Rk.got; rw [if_neg hg]
    refine w ?_
    refine VC.loop (α := Unit) (fun _ => True) (fun _ => ReaderR p (k.short width) :: R)
      (fun _ => [(0, .pointer (some ⟨p, 0, none⟩)), (1, .int .i64 width), (5, .int .u64 0), (11, .int .i64 0), (12, .int .i64 0)])
      (fun _ => 0) rfl () trivial Ent.refl ⟨rfl, rfl, rfl, rfl, rfl, trivial⟩ ?_
    intro _ _
    refine w ?_
    refine VO.obtain (fun w => ReaderR.open) ?_
    rintro ⟨⟨ao, cap⟩, hk'⟩
    refine w ?_
    (refine VC.condFe rfl rfl (by simpa using hg) ?_)
    refine w ?_
    rw [hgn]
    refine VE.done1 rfl ?_ ?_
    · rfl
    · rw [show k.number width = k.short width by unfold Rk.number; rw [if_neg hg]]
      exact ReaderR.shut hk'
theorem Rk.got_good {k : Rk} {n : Nat} (h1 : k.err = 0) (h2 : n <= k.b.length - k.at_) : k.got n = (k.b.drop k.at_).take n /\ k.short n = k /\ k.number n = { k with at_ := k.at_ + n } := by
 have e : k.short n = k := by unfold Rk.short; rw [if_neg]; omega
 refine ⟨?_, e, ?_⟩
 · unfold Rk.got; rw [e, if_pos h1]
 · unfold Rk.number; rw [e, if_pos h1]
theorem got_lt (k : Rk) (n : Nat) : leVal (k.got n) < 256 ^ n := by
 have h := leVal_lt (k.got n)
 refine Nat.lt_of_lt_of_le h (Nat.pow_le_pow_right (by decide) ?_)
 unfold Rk.got; split
 · simp; omega
 · simp
theorem r64_ok {W : World} {R : List SProp} (p : Nat) (k : Rk) :
  Does1 W Tryz.prog 200 [.pointer (some ⟨p, 0, none⟩)] (ReaderR p k :: R) (.int .u64 (leVal (k.got 8))) (ReaderR p (k.number 8) :: R) := by
 (refine Does.enter Tryz.func200 Tryz.ntmps200 rfl rfl ?_)
 refine w ?_
 ((refine zq ?_; refine zd rfl rfl (rnumber_ok p k 8 (by decide)) ?_); intro _ _)
 refine w ?_
 (first | exact VE.done1 rfl rfl Ent.refl | exact VE.done1N rfl rfl Ent.refl)
theorem r32_ok {W : World} {R : List SProp} (p : Nat) (k : Rk) :
  Does1 W Tryz.prog 153 [.pointer (some ⟨p, 0, none⟩)] (ReaderR p k :: R) (.int .u32 (leVal (k.got 4))) (ReaderR p (k.number 4) :: R) := by
 (refine Does.enter Tryz.func153 Tryz.ntmps153 rfl rfl ?_)
 refine w ?_
 ((refine zq ?_; refine zd rfl rfl (rnumber_ok p k 4 (by decide)) ?_); intro _ _)
 refine w ?_
 refine VE.done1 rfl ?_ ?_
 · rw [wrap32_of, Nat.mod_eq_of_lt (by have := got_lt k 4; omega)]
 · exact Ent.refl
theorem Pk.number_good {k : Pk} {v w : Nat} (h1 : k.bad = 0) (h2 : k.had.length + w <= k.size) : k.number v w = { k with had := k.had ++ lowBytes v w } := by
 have e : k.room w = k := by unfold Pk.room; rw [if_neg]; omega
 unfold Pk.number; rw [e, if_pos h1]
end Go.Proofs.YtdbhpikmagkopaaGreat
/-! Text Ca. -/
namespace Go.Sl
def crcPoly : BitVec 32 := 0x82f63b78#32
def stp (n : BitVec 32) : BitVec 32 := (n >>> 1) ^^^ (if n.getLsbD 0 then crcPoly else 0#32)
def stpN : Nat -> BitVec 32 -> BitVec 32
  | 0, n => n
  | k + 1, n => stpN k (stp n)
theorem stpN_add (a b : Nat) (n : BitVec 32) : stpN (a + b) n = stpN b (stpN a n) := by
 induction a generalizing n with
 | zero => rw [Nat.zero_add]; rfl
 | succ a ih => rw [Nat.succ_add]; exact ih (stp n)
theorem stp_xor (a b : BitVec 32) : stp (a ^^^ b) = stp a ^^^ stp b := by
 unfold stp
 rw [BitVec.getLsbD_xor]
 apply BitVec.eq_of_getLsbD_eq
 intro i hi
 simp only [BitVec.getLsbD_xor, BitVec.getLsbD_ushiftRight]
 cases a.getLsbD 0 <;> cases b.getLsbD 0 <;> simp <;> cases a.getLsbD (1 + i) <;> cases b.getLsbD (1 + i) <;> cases crcPoly.getLsbD i <;> rfl
theorem stp_even (n : BitVec 32) (h : n.getLsbD 0 = false) : stp n = n >>> 1 := by
 unfold stp; rw [h]; simp
theorem stpN_xor : ∀ (k : Nat) (a b : BitVec 32), stpN k (a ^^^ b) = stpN k a ^^^ stpN k b
 | 0, _, _ => rfl
 | k + 1, a, b => by rw [stpN, stp_xor, stpN_xor k]; rfl
theorem stpN_shift : ∀ (k : Nat) (n : BitVec 32), (∀ i, i < k -> n.getLsbD i = false) -> stpN k n = n >>> k
  | 0, n, _ => by simp [stpN]
  | k + 1, n, h => by
    rw [stpN, stp_even n (h 0 (by omega)), stpN_shift k _ (fun i hi => by rw [BitVec.getLsbD_ushiftRight, Nat.add_comm]; exact h (i + 1) (by omega))]
    rw [<- BitVec.shiftRight_add, Nat.add_comm]
theorem stp_nibble (n : BitVec 32) : stpN 4 n = (n >>> 4) ^^^ stpN 4 (n &&& 15#32) := by
 have e : n = (n &&& 0xfffffff0#32) ^^^ (n &&& 15#32) := by
  apply BitVec.eq_of_getLsbD_eq
  intro i hi
  rw [BitVec.getLsbD_xor, BitVec.getLsbD_and, BitVec.getLsbD_and]
  have : (0xfffffff0#32).getLsbD i = !(15#32).getLsbD i := by
   have hc : ∀ j : Fin 32, (0xfffffff0#32).getLsbD j.1 = !(15#32).getLsbD j.1 := by decide
   exact hc ⟨i, hi⟩
  rw [this]
  cases n.getLsbD i <;> cases (15#32).getLsbD i <;> rfl
 have hs : stpN 4 (n &&& 0xfffffff0#32) = n >>> 4 := by
  rw [stpN_shift 4 _ (fun i hi => by
   rw [BitVec.getLsbD_and]
   have hc : ∀ j : Fin 4, (0xfffffff0#32).getLsbD j.1 = false := by decide
   rw [hc ⟨i, hi⟩, Bool.and_false])]
  apply BitVec.eq_of_getLsbD_eq
  intro i hi
  rw [BitVec.getLsbD_ushiftRight, BitVec.getLsbD_ushiftRight, BitVec.getLsbD_and]
  by_cases h : 4 + i < 32
  ·
   have hc : ∀ j : Fin 28, (0xfffffff0#32).getLsbD (4 + j.1) = true := by decide
   rw [hc ⟨i, by omega⟩, Bool.and_true]
  · rw [BitVec.getLsbD_of_ge n _ (by omega)]; rfl
 conv => lhs; rw [e]
 rw [stpN_xor, hs]
def crcB (n : BitVec 32) (b : UInt8) : BitVec 32 := stpN 8 (n ^^^ BitVec.ofNat 32 b.toNat)
def crcF (n : BitVec 32) (l : List UInt8) : BitVec 32 := l.foldl crcB n
def crcM (n : BitVec 32) (l : List UInt8) : BitVec 32 := ~~~(crcF (~~~n) l)
def crcS (l : List UInt8) : BitVec 32 := crcM 0#32 l
theorem crcB_nibbles (n : BitVec 32) (b : UInt8) : crcB n b =
  (((((n ^^^ BitVec.ofNat 32 b.toNat) >>> 4) ^^^ stpN 4 ((n ^^^ BitVec.ofNat 32 b.toNat) &&& 15#32)) >>> 4) ^^^ stpN 4 ((((n ^^^ BitVec.ofNat 32 b.toNat) >>> 4) ^^^ stpN 4 ((n ^^^ BitVec.ofNat 32 b.toNat) &&& 15#32)) &&& 15#32)) := by
 unfold crcB
 rw [show (8 : Nat) = 4 + 4 from rfl, stpN_add, stp_nibble (stpN 4 _), stp_nibble (n ^^^ _)]
end Go.Sl
/-! Text Ea. -/
namespace Go.Proofs.YtdbhpikmagkopaaGreat
open Go.RowKit Go.Sl
def padTo (n : Nat) (l : List UInt8) : List UInt8 := l ++ List.replicate (n - l.length) 0
theorem padTo_length {n : Nat} {l : List UInt8} (h : l.length <= n) : (padTo n l).length = n := by simp [padTo]; omega
def magicL : List UInt8 := [83, 80, 74, 76]
def begunL (kind epoch seq : Nat) : List UInt8 := magicL ++ lowBytes kind 4 ++ lowBytes epoch 8 ++ lowBytes seq 8
theorem begunL_length (kind epoch seq : Nat) : (begunL kind epoch seq).length = 24 := by simp [begunL, lowBytes_length, magicL]
def sealS (b : List UInt8) : List UInt8 := b ++ lowBytes (crcS b).toNat 4
def sectB (kind epoch seq : Nat) (rest : List UInt8) : List UInt8 := padTo 124 (begunL kind epoch seq ++ rest)
theorem sectB_length {kind epoch seq : Nat} {rest : List UInt8} (h : rest.length <= 100) : (sectB kind epoch seq rest).length = 124 := padTo_length (by rw [List.length_append, begunL_length]; omega)
theorem sealS_length {b : List UInt8} (h : b.length = 124) : (sealS b).length = 128 := by simp [sealS, lowBytes_length, h]
def numAt (b : List UInt8) (a w : Nat) : Nat := leVal ((b.drop a).take w)
def kindB (b : List UInt8) : UInt8 := if b.length = 128 /\ b.take 4 = magicL /\ (b.getD 4 0).toNat <= 3 then b.getD 4 0 else 0
def looksM (b : List UInt8) (kind : UInt8) : Int := if b.length ≠ 128 then 4 else if kindB b ≠ kind then 80 else if numAt b 124 4 ≠ (crcS (b.take 124)).toNat then 81 else 0
theorem lowBytes_cons : ∀ (w v : Nat), lowBytes v (w + 1) = UInt8.ofNat v :: lowBytes (v / 256) w
  | 0, v => by simp [lowBytes]
  | w + 1, v => by
    rw [lowBytes, lowBytes_cons w v, lowBytes, List.cons_append, Nat.div_div_eq_div_mul, Nat.pow_succ, Nat.mul_comm]
theorem leVal_low : ∀ (w v : Nat), v < 256 ^ w -> leVal (lowBytes v w) = v
  | 0, v, h => by simp at h; subst h; rfl
  | w + 1, v, h => by
    rw [lowBytes_cons, leVal, leVal_low w (v / 256) (by rw [Nat.pow_succ] at h; exact Nat.div_lt_of_lt_mul (by omega)), UInt8.toNat_ofNat']
    have := Nat.mod_add_div v 256
    omega
def flds (fs : List (Nat × Nat)) : List UInt8 := fs.flatMap fun p => lowBytes p.1 p.2
def offs (fs : List (Nat × Nat)) (k : Nat) : Nat := ((fs.take k).map (·.2)).sum
theorem flds_append (a b : List (Nat × Nat)) : flds (a ++ b) = flds a ++ flds b := by simp [flds]
theorem flds_length : ∀ (fs : List (Nat × Nat)), (flds fs).length = (fs.map (·.2)).sum
 | [] => rfl
 | p :: r => by rw [flds, List.flatMap_cons, List.length_append, lowBytes_length, List.map_cons, List.sum_cons, <- flds_length r]; rfl
theorem numAt_skip (a l : List UInt8) (i w : Nat) : numAt (a ++ l) (a.length + i) w = numAt l i w := by
 unfold numAt; rw [List.drop_append, List.drop_of_length_le (by omega)]; simp
theorem numAt_here (v w : Nat) (c : List UInt8) (hv : v < 256 ^ w) : numAt (lowBytes v w ++ c) 0 w = v := by
 unfold numAt; rw [List.drop_zero, List.take_left' (lowBytes_length v w), leVal_low w v hv]
theorem numAt_flds : ∀ (fs : List (Nat × Nat)) (k : Nat) (p : Nat × Nat) (c : List UInt8), fs[k]? = some p -> p.1 < 256 ^ p.2 -> numAt (flds fs ++ c) (offs fs k) p.2 = p.1
  | [], k, p, c, h, _ => by simp at h
  | q :: r, 0, p, c, h, hv => by
    simp at h; subst h
    show numAt (lowBytes q.1 q.2 ++ flds r ++ c) 0 q.2 = q.1
    rw [List.append_assoc]; exact numAt_here _ _ _ hv
  | q :: r, k + 1, p, c, h, hv => by
    have ih := numAt_flds r k p c (by simpa using h) hv
    have e : offs (q :: r) (k + 1) = (lowBytes q.1 q.2).length + offs r k := by simp [offs, lowBytes_length]
    rw [e]
    show numAt (lowBytes q.1 q.2 ++ flds r ++ c) _ _ = _
    rw [List.append_assoc, numAt_skip]; exact ih
theorem low_zero : ∀ n, lowBytes 0 n = List.replicate n 0
 | 0 => rfl
 | n + 1 => by rw [lowBytes_cons, Nat.zero_div, low_zero n]; rfl
structure HdrD where
  epoch : Nat
  seq : Nat
  index : Int
  count : Int
  member : Int
  row : Int
  escaped : Bool
  sum : Nat
abbrev HdrD.cells (h : HdrD) : List Value := [.int .u64 h.epoch, .int .u64 h.seq, .int .i64 h.index, .int .i64 h.count, .int .i64 h.member, .int .i64 h.row, .bool h.escaped, .int .u32 h.sum]
structure CmtD where
  epoch : Nat
  seq : Nat
  count : Int
  sum : Nat
abbrev CmtD.cells (h : CmtD) : List Value := [.int .u64 h.epoch, .int .u64 h.seq, .int .i64 h.count, .int .u32 h.sum]
structure ChkD where
  epoch : Nat
  seq : Nat
  tail : Int
abbrev ChkD.cells (h : ChkD) : List Value := [.int .u64 h.epoch, .int .u64 h.seq, .int .i64 h.tail]
def cntOk (epoch seq : Nat) : Prop := epoch <= 4611686018427387904 /\ 1 <= seq /\ seq <= 4611686018427387904
instance (a b : Nat) : Decidable (cntOk a b) := by unfold cntOk; exact inferInstance
def HdrD.good (h : HdrD) : Prop := cntOk h.epoch h.seq /\ (1 <= h.count /\ h.count <= 1023) /\ (0 <= h.index /\ h.index <= h.count - 1) /\ (0 <= h.member /\ h.member <= 15) /\ 0 <= h.row /\ h.row <= 4095
def CmtD.good (h : CmtD) : Prop := cntOk h.epoch h.seq /\ 1 <= h.count /\ h.count <= 1023
def ChkD.good (h : ChkD) : Prop := cntOk h.epoch h.seq /\ 0 <= h.tail /\ h.tail <= 2047
instance (h : HdrD) : Decidable h.good := by unfold HdrD.good; exact inferInstance
instance (h : CmtD) : Decidable h.good := by unfold CmtD.good; exact inferInstance
instance (h : ChkD) : Decidable h.good := by unfold ChkD.good; exact inferInstance
def bitN (b : Bool) : Nat := if b then 1 else 0
def HdrD.rest (h : HdrD) : List (Nat × Nat) := [(h.index.toNat, 4), (h.count.toNat, 4), (h.member.toNat, 4), (h.row.toNat, 4), (bitN h.escaped, 4), (h.sum, 4)]
def CmtD.rest (h : CmtD) : List (Nat × Nat) := [(h.count.toNat, 4), (h.sum, 4)]
def ChkD.rest (h : ChkD) : List (Nat × Nat) := [(h.tail.toNat, 4)]
def sectF (kind epoch seq : Nat) (rest : List (Nat × Nat)) : List UInt8 := sealS (sectB kind epoch seq (flds rest))
def HdrD.enc (h : HdrD) : Int × List UInt8 := if h.good then (0, sectF 1 h.epoch h.seq h.rest) else (80, [])
def CmtD.enc (h : CmtD) : Int × List UInt8 := if h.good then (0, sectF 2 h.epoch h.seq h.rest) else (80, [])
def ChkD.enc (h : ChkD) : Int × List UInt8 := if h.good then (0, sectF 3 h.epoch h.seq h.rest) else (80, [])
def HdrD.parse (b : List UInt8) : HdrD := ⟨numAt b 8 8, numAt b 16 8, numAt b 24 4, numAt b 28 4, numAt b 32 4, numAt b 36 4, decide (numAt b 40 4 = 1), numAt b 44 4⟩
def CmtD.parse (b : List UInt8) : CmtD := ⟨numAt b 8 8, numAt b 16 8, numAt b 24 4, numAt b 28 4⟩
def ChkD.parse (b : List UInt8) : ChkD := ⟨numAt b 8 8, numAt b 16 8, numAt b 24 4⟩
def zeroH : HdrD := ⟨0, 0, 0, 0, 0, 0, false, 0⟩
def zeroC : CmtD := ⟨0, 0, 0, 0⟩
def zeroK : ChkD := ⟨0, 0, 0⟩
def HdrD.dec (b : List UInt8) : Int × HdrD := if looksM b 1 ≠ 0 then (looksM b 1, zeroH) else if (HdrD.parse b).good /\ (HdrD.parse b).enc.2 = b then (0, HdrD.parse b) else (80, zeroH)
def CmtD.dec (b : List UInt8) : Int × CmtD := if looksM b 2 ≠ 0 then (looksM b 2, zeroC) else if (CmtD.parse b).good /\ (CmtD.parse b).enc.2 = b then (0, CmtD.parse b) else (80, zeroC)
def ChkD.dec (b : List UInt8) : Int × ChkD := if looksM b 3 ≠ 0 then (looksM b 3, zeroK) else if (ChkD.parse b).good /\ (ChkD.parse b).enc.2 = b then (0, ChkD.parse b) else (80, zeroK)
theorem magic_low : magicL = lowBytes 1279938643 4 := by decide
theorem sectF_flds (kind epoch seq : Nat) (rest : List (Nat × Nat)) (h : (rest.map (·.2)).sum <= 100) :
  sectF kind epoch seq rest = flds ([(1279938643, 4), (kind, 4), (epoch, 8), (seq, 8)] ++ rest) ++ (lowBytes 0 (100 - (rest.map (·.2)).sum) ++ lowBytes (crcS (sectB kind epoch seq (flds rest))).toNat 4) := by
 have hlen : 124 - (begunL kind epoch seq ++ flds rest).length = 100 - (rest.map (·.2)).sum := by
  rw [List.length_append, begunL_length, flds_length]; omega
 unfold sectF sealS
 rw [<- List.append_assoc]
 congr 1
 unfold sectB padTo
 rw [hlen, low_zero, flds_append]
 simp only [begunL, magic_low, flds, List.flatMap_cons, List.flatMap_nil, List.append_nil, List.append_assoc]
theorem sectF_length (kind epoch seq : Nat) (rest : List (Nat × Nat)) (h : (rest.map (·.2)).sum <= 100) : (sectF kind epoch seq rest).length = 128 :=
 sealS_length (sectB_length (by rw [flds_length]; exact h))
theorem crcS_lt (b : List UInt8) : (crcS b).toNat < 256 ^ 4 := (crcS b).isLt
theorem sectF_num (kind epoch seq : Nat) (rest : List (Nat × Nat)) (h : (rest.map (·.2)).sum <= 100) (k : Nat) (p : Nat × Nat) (hk : ([(1279938643, 4), (kind, 4), (epoch, 8), (seq, 8)] ++ rest)[k]? = some p) (hv : p.1 < 256 ^ p.2) :
  numAt (sectF kind epoch seq rest) (offs ([(1279938643, 4), (kind, 4), (epoch, 8), (seq, 8)] ++ rest) k) p.2 = p.1 := by
 rw [sectF_flds _ _ _ _ h]; exact numAt_flds _ k p _ hk hv
theorem sectF_looks (kind : UInt8) (hk : 1 <= kind.toNat /\ kind.toNat <= 3) (epoch seq : Nat) (rest : List (Nat × Nat)) (h : (rest.map (·.2)).sum <= 100) : looksM (sectF kind.toNat epoch seq rest) kind = 0 := by
 have hl := sectF_length kind.toNat epoch seq rest h
 have hb : (sectB kind.toNat epoch seq (flds rest)).length = 124 := sectB_length (by rw [flds_length]; exact h)
 have hcons : ∃ r, sectF kind.toNat epoch seq rest = magicL ++ (kind :: r) := by
  unfold sectF sealS sectB padTo begunL
  rw [lowBytes_cons 3 kind.toNat]
  refine ⟨_, by rw [List.append_assoc, List.append_assoc, List.append_assoc, List.append_assoc, List.append_assoc, List.cons_append]; congr 2; simp⟩
 have hkb : kindB (sectF kind.toNat epoch seq rest) = kind := by
  obtain ⟨r, hr⟩ := hcons
  have h4 : (sectF kind.toNat epoch seq rest).getD 4 0 = kind := by rw [hr]; rfl
  unfold kindB
  rw [h4, if_pos ⟨hl, by rw [hr]; rfl, hk.2⟩]
 have htk : (sectF kind.toNat epoch seq rest).take 124 = sectB kind.toNat epoch seq (flds rest) := by unfold sectF sealS; rw [List.take_left' hb]
 have hn : numAt (sectF kind.toNat epoch seq rest) 124 4 = (crcS (sectB kind.toNat epoch seq (flds rest))).toNat := by
  unfold sectF sealS
  have := numAt_skip (sectB kind.toNat epoch seq (flds rest)) (lowBytes (crcS (sectB kind.toNat epoch seq (flds rest))).toNat 4) 0 4
  rw [hb] at this
  rw [this]
  have := numAt_here (crcS (sectB kind.toNat epoch seq (flds rest))).toNat 4 [] (crcS_lt _)
  rwa [List.append_nil] at this
 unfold looksM
 rw [if_neg (by simp [hl]), hkb, if_neg (by simp), htk, hn, if_neg (by simp)]
theorem hdr_sum (h : HdrD) : (h.rest.map (·.2)).sum <= 100 := by simp [HdrD.rest]
theorem cmt_sum (h : CmtD) : (h.rest.map (·.2)).sum <= 100 := by simp [CmtD.rest]
theorem chk_sum (h : ChkD) : (h.rest.map (·.2)).sum <= 100 := by simp [ChkD.rest]
theorem hdr_parse (h : HdrD) (hg : h.good) (hs : h.sum < 4294967296) : HdrD.parse (sectF 1 h.epoch h.seq h.rest) = h := by
 obtain ⟨⟨g1, g2, g3⟩, ⟨g4, g5⟩, ⟨g6, g7⟩, ⟨g8, g9⟩, g10, g11⟩ := hg
 have n := fun k p => sectF_num 1 h.epoch h.seq h.rest (hdr_sum h) k p
 have e2 := n 2 _ rfl (show h.epoch < 256 ^ 8 by omega)
 have e3 := n 3 _ rfl (show h.seq < 256 ^ 8 by omega)
 have e4 := n 4 _ rfl (show h.index.toNat < 256 ^ 4 by omega)
 have e5 := n 5 _ rfl (show h.count.toNat < 256 ^ 4 by omega)
 have e6 := n 6 _ rfl (show h.member.toNat < 256 ^ 4 by omega)
 have e7 := n 7 _ rfl (show h.row.toNat < 256 ^ 4 by omega)
 have e8 := n 8 _ rfl (show bitN h.escaped < 256 ^ 4 by unfold bitN; split <;> omega)
 have e9 := n 9 _ rfl (show h.sum < 256 ^ 4 by omega)
 change numAt _ 8 8 = _ at e2
 change numAt _ 16 8 = _ at e3
 change numAt _ 24 4 = _ at e4
 change numAt _ 28 4 = _ at e5
 change numAt _ 32 4 = _ at e6
 change numAt _ 36 4 = _ at e7
 change numAt _ 40 4 = _ at e8
 change numAt _ 44 4 = _ at e9
 unfold HdrD.parse
 rw [e2, e3, e4, e5, e6, e7, e8, e9]
 obtain ⟨a, b, c, d, e, f, g, i⟩ := h
 simp only [HdrD.mk.injEq, true_and, and_true] at *
 refine ⟨by omega, by omega, by omega, by omega, ?_⟩
 cases g <;> simp [bitN]
theorem cmt_parse (h : CmtD) (hg : h.good) (hs : h.sum < 4294967296) : CmtD.parse (sectF 2 h.epoch h.seq h.rest) = h := by
 obtain ⟨⟨g1, g2, g3⟩, g4, g5⟩ := hg
 have n := fun k p => sectF_num 2 h.epoch h.seq h.rest (cmt_sum h) k p
 have e2 := n 2 _ rfl (show h.epoch < 256 ^ 8 by omega)
 have e3 := n 3 _ rfl (show h.seq < 256 ^ 8 by omega)
 have e4 := n 4 _ rfl (show h.count.toNat < 256 ^ 4 by omega)
 have e5 := n 5 _ rfl (show h.sum < 256 ^ 4 by omega)
 change numAt _ 8 8 = _ at e2
 change numAt _ 16 8 = _ at e3
 change numAt _ 24 4 = _ at e4
 change numAt _ 28 4 = _ at e5
 unfold CmtD.parse
 rw [e2, e3, e4, e5]
 obtain ⟨a, b, c, d⟩ := h
 simp only [CmtD.mk.injEq, true_and, and_true] at *
 omega
theorem chk_parse (h : ChkD) (hg : h.good) : ChkD.parse (sectF 3 h.epoch h.seq h.rest) = h := by
 obtain ⟨⟨g1, g2, g3⟩, g4, g5⟩ := hg
 have n := fun k p => sectF_num 3 h.epoch h.seq h.rest (chk_sum h) k p
 have e2 := n 2 _ rfl (show h.epoch < 256 ^ 8 by omega)
 have e3 := n 3 _ rfl (show h.seq < 256 ^ 8 by omega)
 have e4 := n 4 _ rfl (show h.tail.toNat < 256 ^ 4 by omega)
 change numAt _ 8 8 = _ at e2
 change numAt _ 16 8 = _ at e3
 change numAt _ 24 4 = _ at e4
 unfold ChkD.parse
 rw [e2, e3, e4]
 obtain ⟨a, b, c⟩ := h
 simp only [ChkD.mk.injEq, true_and, and_true] at *
 omega
theorem hdr_back (h : HdrD) (hg : h.good) (hs : h.sum < 4294967296) : HdrD.dec h.enc.2 = (0, h) := by
 have e : h.enc.2 = sectF 1 h.epoch h.seq h.rest := by unfold HdrD.enc; rw [if_pos hg]
 unfold HdrD.dec
 rw [e, if_neg (by rw [show sectF 1 h.epoch h.seq h.rest = sectF (1 : UInt8).toNat h.epoch h.seq h.rest from rfl, sectF_looks 1 (by decide) _ _ _ (hdr_sum h)]; simp), hdr_parse h hg hs, if_pos ⟨hg, e⟩]
theorem cmt_back (h : CmtD) (hg : h.good) (hs : h.sum < 4294967296) : CmtD.dec h.enc.2 = (0, h) := by
 have e : h.enc.2 = sectF 2 h.epoch h.seq h.rest := by unfold CmtD.enc; rw [if_pos hg]
 unfold CmtD.dec
 rw [e, if_neg (by rw [show sectF 2 h.epoch h.seq h.rest = sectF (2 : UInt8).toNat h.epoch h.seq h.rest from rfl, sectF_looks 2 (by decide) _ _ _ (cmt_sum h)]; simp), cmt_parse h hg hs, if_pos ⟨hg, e⟩]
theorem chk_back (h : ChkD) (hg : h.good) : ChkD.dec h.enc.2 = (0, h) := by
 have e : h.enc.2 = sectF 3 h.epoch h.seq h.rest := by unfold ChkD.enc; rw [if_pos hg]
 unfold ChkD.dec
 rw [e, if_neg (by rw [show sectF 3 h.epoch h.seq h.rest = sectF (3 : UInt8).toNat h.epoch h.seq h.rest from rfl, sectF_looks 3 (by decide) _ _ _ (chk_sum h)]; simp), chk_parse h hg, if_pos ⟨hg, e⟩]
end Go.Proofs.YtdbhpikmagkopaaGreat
/-! Text Eb. -/
namespace Go.Sl
open Go Go.RowKit
section
variable {W : World} {P : Program} {n : Nat} {H : List SProp} {f : Fr} {dst : Option Tmp} {ty_ : TypeId} {pos : String} {after : Array Edge} {guard : Option (Nat × Bool)}
def u32V (c : BitVec 32) : Value := .int .u32 (c.toNat : Int)
theorem PureAt.indexArr {T : TabData} {x y : Operand} {t e : TypeId} {k : IntKind} {b o m j : Nat} (hT : T.ok P = true) (ht : P.underlying t = some (.array m e)) (hx : evalX f x = some (.pointer (some ⟨b, o, none⟩))) (hy : evalX f y = some (.int k (j : Int)))
  (hl : assoc T.leaf e = some ()) (hj : j < m) : PureAt W P n H f { dst, op := .indexAddr t x y, type := ty_, pos, after, guard } (.pointer (some ⟨b, o + j, none⟩)) := by
 unfold PureAt
 intro tm w hk _
 have h1 : (0 : Int) <= j /\ (j : Int) < m := ⟨by omega, by omega⟩
 have h2 : (⟨b, o, none⟩ : Addr).add j = ⟨b, o + j, none⟩ := by unfold Addr.add; split <;> simp_all
 simp [execOp, hk.eval hx, hk.eval hy, Instr.indexAt, Instr.sureAddr, asIntOf, run_underlying ht, (T.leaf_ok hT hl).2, h1, h2]
 intro h; omega
theorem ofInt32 (c : BitVec 32) : BitVec.ofInt 32 (c.toNat : Int) = c := by
 rw [BitVec.ofInt_natCast, BitVec.ofNat_toNat, BitVec.setWidth_eq]
theorem wrapB32 (c : BitVec 32) : IntKind.u32.wrap (c.toNat : Int) = c.toNat := by
 have := c.isLt
 rw [IntKind.wrap_u32]; omega
theorem PureAt.not32 {x : Operand} {s : TypeId} {c : BitVec 32} (hx : evalX f x = some (u32V c)) : PureAt W P n H f { dst, op := .unOp .xor s x, type := ty_, pos, after, guard } (u32V (~~~c)) := by
 unfold PureAt
 intro tm w hk _
 have e : (4294967295#32 ^^^ c) = ~~~c := by
  apply BitVec.eq_of_getLsbD_eq
  intro i hi
  have hc : ∀ j : Fin 32, (4294967295#32).getLsbD j.1 = true := by decide
  rw [BitVec.getLsbD_xor, BitVec.getLsbD_not, hc ⟨i, hi⟩]
  simp [hi]
 have e2 : IntKind.u32.wrap ((BitVec.ofInt 32 4294967295 ^^^ BitVec.ofInt 32 (c.toNat : Int)).toNat : Int) = ((~~~c).toNat : Int) := by
  rw [ofInt32, show BitVec.ofInt 32 4294967295 = 4294967295#32 from rfl, e, wrapB32]
 unfold execOp
 simp only [hk.eval hx, u32V]
 have e3 : (Op.unary .xor (.int .u32 (c.toNat : Int))).run P w = .ok (.int .u32 ((~~~c).toNat : Int)) w := by
  rw [<- e2]; rfl
 simp only [Sem.run_bind, e3, Result.andThen_ok, Sem.run_pure]
end
end Go.Sl
namespace Go.Proofs.YtdbhpikmagkopaaGreat
open Go.RowKit Go.Sl
attribute [local irreducible] Own
variable {W : World} {R : List SProp}
theorem xor32 (a b : BitVec 32) : IntKind.u32.wrap ((BitVec.ofInt IntKind.u32.bits (a.toNat : Int) ^^^ BitVec.ofInt IntKind.u32.bits (b.toNat : Int)).toNat : Int) = ((a ^^^ b).toNat : Int) := by
 show IntKind.u32.wrap ((BitVec.ofInt 32 _ ^^^ BitVec.ofInt 32 _).toNat : Int) = _
 rw [ofInt32, ofInt32, wrapB32]
theorem and32 (a b : BitVec 32) : IntKind.u32.wrap ((BitVec.ofInt IntKind.u32.bits (a.toNat : Int) &&& BitVec.ofInt IntKind.u32.bits (b.toNat : Int)).toNat : Int) = ((a &&& b).toNat : Int) := by
 show IntKind.u32.wrap ((BitVec.ofInt 32 _ &&& BitVec.ofInt 32 _).toNat : Int) = _
 rw [ofInt32, ofInt32, wrapB32]
theorem shr32 (a : BitVec 32) (k : Nat) : ((a.toNat / 2 ^ k : Nat) : Int) = ((a >>> k).toNat : Int) := by
 rw [BitVec.toNat_ushiftRight, Nat.shiftRight_eq_div_pow]
theorem rthrough_ok (c : BitVec 32) (k : Nat) (hk : k <= 1000) :
  Does1 W Tryz.prog 227 [.int .u32 (c.toNat : Int), .int .i64 k] R (.int .u32 ((stpN k c).toNat : Int)) R := by
 (refine Does.enter Tryz.func227 Tryz.ntmps227 rfl rfl ?_)
 refine w ?_
 refine VC.loop (α := Nat) (fun i => i <= k) (fun _ => R) (fun i => [(0, .int .u32 ((stpN i c).toNat : Int)), (1, .int .i64 k), (5, .int .i64 i)]) (fun i => k - i) rfl 0 (Nat.zero_le _) Ent.refl ⟨rfl, rfl, rfl, trivial⟩ ?_
 intro i hi
 refine w ?_
 refine zk ?_ ?_ <;> intro hc
 ·
  have hlt : i < k := by have := of_decide_eq_true hc; omega
  have hst : stpN (i + 1) c = stp (stpN i c) := by rw [stpN_add]; rfl
  generalize stpN i c = m at *
  have hand : IntKind.u32.wrap ((BitVec.ofInt IntKind.u32.bits (m.toNat : Int) &&& BitVec.ofInt IntKind.u32.bits 1).toNat : Int) = ((m &&& 1#32).toNat : Int) := and32 m 1#32
  have hb : (((m &&& 1#32).toNat : Int) == 1) = m.getLsbD 0 := by
   have e : m &&& 1#32 = if m.getLsbD 0 then 1#32 else 0#32 := by
    apply BitVec.eq_of_getLsbD_eq
    intro j hj
    rw [BitVec.getLsbD_and]
    cases j with
    | zero => cases m.getLsbD 0 <;> simp
    | succ j => cases m.getLsbD 0 <;> simp
   rw [e]; cases m.getLsbD 0 <;> rfl
  refine w ?_
  refine VC.re 13 (.bool (m.getLsbD 0)) rfl (by rw [hand, hb]) ?_
  have hs1 : (((m.toNat / 2 ^ (1 : Int).toNat : Nat)) : Int) = ((m >>> 1).toNat : Int) := shr32 m 1
  cases hbit : m.getLsbD 0
  ·
   have hst2 : stp m = m >>> 1 := stp_even m hbit
   refine w ?_
   refine VE.round (i + 1) (by omega) (by omega) ⟨asV rfl (by rw [hst, hst2, hs1]), rfl, asV rfl (by congr 1), trivial⟩ Ent.refl
  ·
   have hst2 : stp m = (m >>> 1) ^^^ crcPoly := by unfold stp; rw [hbit]; rfl
   refine w ?_
   refine VE.round (i + 1) (by omega) (by omega) ⟨asV rfl (by rw [hst, hst2, hs1]; exact congrArg (Value.int .u32) (xor32 (m >>> 1) crcPoly)), rfl, asV rfl (by congr 1), trivial⟩ Ent.refl
 ·
  have hge : i = k := by have := of_decide_eq_false hc; omega
  subst hge
  refine w ?_
  refine VE.done1 rfl ?_ ?_
  · rfl
  · exact Ent.refl
theorem byte32 (c : UInt8) : (c.toNat : Int) = ((BitVec.ofNat 32 c.toNat).toNat : Int) := by
 rw [BitVec.toNat_ofNat, Nat.mod_eq_of_lt (by have := c.toNat_lt; omega)]
theorem crcF_snoc (n : BitVec 32) (l : List UInt8) (c : UInt8) : crcF n (l ++ [c]) = crcB (crcF n l) c := by simp [crcF]
theorem rmore_ok {ao : Option Addr} {cap : Nat} {l : List UInt8} (c : BitVec 32) (hr : Rds W R 1 ao l.length (bytes l)) (hl : l.length <= 1099511627776) :
  Does1 W Tryz.prog 212 [.int .u32 (c.toNat : Int), .slice ao l.length cap] R (.int .u32 ((crcM c l).toNat : Int)) R := by
 (refine Does.enter Tryz.func212 Tryz.ntmps212 rfl rfl ?_)
 refine w ?_
 refine VO.pure rfl rfl (PureAt.not32 (c := c) rfl) rfl ?_
 unfold u32V
 refine w ?_
 refine VC.loop (α := Nat) (fun i => i <= l.length) (fun _ => R) (fun i => [(1, .slice ao l.length cap), (5, .int .u32 ((crcF (~~~c) (l.take i)).toNat : Int)), (6, .int .i64 i)]) (fun i => l.length - i) rfl 0 (Nat.zero_le _) Ent.refl ⟨rfl, rfl, rfl, trivial⟩ ?_
 intro i hi
 refine w ?_
 refine zk ?_ ?_ <;> intro hc
 ·
  have hlt : i < l.length := by have := of_decide_eq_true hc; omega
  obtain ⟨a, rfl⟩ : ∃ a, ao = some a := by cases ao with | none => have := hr.nil rfl; omega | some a => exact ⟨a, rfl⟩
  have hst : crcF (~~~c) (l.take (i + 1)) = crcB (crcF (~~~c) (l.take i)) l[i] := by rw [List.take_succ_eq_append_getElem hlt, crcF_snoc]
  have hb1 := hr
  refine w ?_
  refine VO.re 21 (.int .u32 (((crcF (~~~c) (l.take i)) ^^^ BitVec.ofNat 32 l[i].toNat).toNat : Int)) rfl (by rw [byte32, wrapB32]; exact congrArg (Value.int .u32) (xor32 _ _)) ?_
  (refine zq ?_; refine zy rfl rfl (rthrough_ok _ 8 (by omega)) ?_; intro _ _)
  refine w ?_
  refine VE.round (i + 1) (by omega) (by omega) ⟨rfl, asV rfl (by rw [hst]; rfl), asV rfl (by congr 1), trivial⟩ Ent.refl
 ·
  have hge : i = l.length := by have := of_decide_eq_false hc; omega
  subst hge
  rw [List.take_of_length_le (Nat.le_refl _)]
  refine w ?_
  refine VO.pure rfl rfl (PureAt.not32 (c := crcF (~~~c) l) rfl) rfl ?_
  unfold u32V
  refine w ?_
  refine VE.done1 rfl ?_ ?_
  · rfl
  · exact Ent.refl
theorem rsum_ok {ao : Option Addr} {cap : Nat} {l : List UInt8} (hr : Rds W R 1 ao l.length (bytes l)) (hl : l.length <= 1099511627776) :
  Does1 W Tryz.prog 172 [.slice ao l.length cap] R (.int .u32 ((crcS l).toNat : Int)) R := by
 (refine Does.enter Tryz.func172 Tryz.ntmps172 rfl rfl ?_)
 refine w ?_
 (refine zq ?_; refine zy rfl rfl (rmore_ok 0#32 hr hl) ?_)
 intro _ _
 refine w ?_
 refine VE.done1 rfl ?_ ?_
 · rfl
 · exact Ent.refl
def tabV (i : Nat) : List Value := (List.range 16).map fun j => if j < i then .int .u32 ((stpN 4 (BitVec.ofNat 32 j)).toNat : Int) else .int .u32 0
theorem tabV_length (i : Nat) : (tabV i).length = 16 := by simp [tabV]
theorem tabV_one (i : Nat) : ∀ u ∈ tabV i, u.oneCell' = true := by
 intro u hu
 obtain ⟨j, -, rfl⟩ := List.mem_map.1 hu
 split <;> rfl
theorem tabV_set (i : Nat) (h : i < 16) : (tabV i).set i (.int .u32 ((stpN 4 (BitVec.ofNat 32 i)).toNat : Int)) = tabV (i + 1) := by
 apply List.ext_getElem (by simp [tabV])
 intro j h1 h2
 have hj : j < 16 := by rw [tabV_length] at h2; exact h2
 rw [List.getElem_set]
 simp only [tabV, List.getElem_map, List.getElem_range]
 by_cases e : i = j
 · subst e; rw [if_pos rfl, if_pos (by omega)]
 ·
  rw [if_neg e]
  by_cases q : j < i
  · rw [if_pos q, if_pos (by omega)]
  · rw [if_neg q, if_neg (by omega)]
theorem tabV_get (j : Nat) (h : j < 16) : (tabV 16)[j]? = some (.int .u32 ((stpN 4 (BitVec.ofNat 32 j)).toNat : Int)) := by simp [tabV, h]
theorem mul32 (m : BitVec 32) : IntKind.u32.wrap (2197175160 * ((m &&& 1#32).toNat : Int)) = ((if m.getLsbD 0 then crcPoly else 0#32).toNat : Int) := by
 have e : m &&& 1#32 = if m.getLsbD 0 then 1#32 else 0#32 := by
  apply BitVec.eq_of_getLsbD_eq
  intro j hj
  rw [BitVec.getLsbD_and]
  cases j with
  | zero => cases m.getLsbD 0 <;> simp
  | succ j => cases m.getLsbD 0 <;> simp
 rw [e]
 cases m.getLsbD 0
 · rw [IntKind.wrap_u32]; rfl
 · rw [IntKind.wrap_u32]; rfl
theorem half_ok : Does1 W Tryz.prog 218 [] R (.agg (tabV 16).toArray) R := by
 (refine Does.enter Tryz.func218 Tryz.ntmps218 rfl rfl ?_)
 refine w ?_
 refine zq ?_
 refine OpV.alloc (z := .agg (tabV 0).toArray) (cs := tabV 0) (fun w => by simp; rfl) rfl rfl ?_
 intro nb
 refine w ?_
 refine VC.loop (α := Nat) (fun i => i <= 16) (fun i => Row nb 304 (tabV i) :: R) (fun i => [(0, .pointer (some ⟨nb, 0, none⟩)), (3, .int .i64 i)]) (fun i => 16 - i) rfl 0 (Nat.zero_le _) Ent.refl ⟨rfl, rfl, trivial⟩ ?_
 intro i hi
 refine w ?_
 refine zk ?_ ?_ <;> intro hc
 ·
  have hlt : i < 16 := by have := of_decide_eq_true hc; omega
  have h0 : IntKind.u32.wrap (i : Int) = ((BitVec.ofNat 32 i).toNat : Int) := by
   rw [IntKind.wrap_u32, BitVec.toNat_ofNat]; omega
  refine w ?_
  refine VC.re 2 (.int .u32 ((BitVec.ofNat 32 i).toNat : Int)) rfl (by rw [h0]) ?_
  refine VC.loop (α := Nat) (fun k => k <= 4) (fun _ => Row nb 304 (tabV i) :: R) (fun k => [(0, .pointer (some ⟨nb, 0, none⟩)), (1, .int .i64 i), (2, .int .u32 ((stpN k (BitVec.ofNat 32 i)).toNat : Int)), (3, .int .i64 i), (8, .int .i64 k)]) (fun k => 4 - k) rfl 0 (Nat.zero_le _) Ent.refl ⟨rfl, rfl, rfl, rfl, rfl, trivial⟩ ?_
  intro k hk
  refine w ?_
  refine zk ?_ ?_ <;> intro hc
  ·
   have hkt : k < 4 := by have := of_decide_eq_true hc; omega
   have hst : stpN (k + 1) (BitVec.ofNat 32 i) = stp (stpN k (BitVec.ofNat 32 i)) := by rw [stpN_add]; rfl
   generalize stpN k (BitVec.ofNat 32 i) = m at *
   have hs1 : (((m.toNat / 2 ^ (1 : Int).toNat : Nat)) : Int) = ((m >>> 1).toNat : Int) := shr32 m 1
   have hand : IntKind.u32.wrap ((BitVec.ofInt IntKind.u32.bits (m.toNat : Int) &&& BitVec.ofInt IntKind.u32.bits 1).toNat : Int) = ((m &&& 1#32).toNat : Int) := and32 m 1#32
   refine w ?_
   refine VE.round (k + 1) (by omega) (by omega) ⟨rfl, rfl, asV rfl ?_, rfl, asV rfl (by congr 1), trivial⟩ Ent.refl
   rw [hst, hand, mul32, hs1]
   exact congrArg (Value.int .u32) (xor32 (m >>> 1) _)
  ·
   have hge : k = 4 := by have := of_decide_eq_false hc; omega
   subst hge
   refine w ?_
   refine VO.pure rfl rfl (PureAt.indexArr tab_ok Tryz.underlying304 rfl rfl rfl hlt) rfl ?_
   refine zq ?_
   refine OpV.st (cs := tabV i) tab_ok rfl rfl rfl rfl .head (by rw [tabV_length]; omega) ?_
   rw [show (tabV i).set (0 + i) (.int .u32 ((stpN 4 (BitVec.ofNat 32 i)).toNat : Int)) = tabV (i + 1) by rw [Nat.zero_add]; exact tabV_set i hlt]
   refine w ?_
   exact VE.round (i + 1) (by omega) (by omega) ⟨rfl, asV rfl (by congr 1), trivial⟩ Ent.refl
 ·
  have hge : i = 16 := by have := of_decide_eq_false hc; omega
  subst hge
  have ht : List.take 16 (List.drop 0 (tabV 16)) = tabV 16 := by rw [List.drop_zero, List.take_of_length_le (by rw [tabV_length]; exact Nat.le_refl _)]
  have hl := tabV_length 16
  have h1 := tabV_one 16
  generalize tabV 16 = T at *
  refine w ?_
  refine VO.pure rfl rfl (PureAt.ldA tab_ok rfl rfl (.head _) ht hl) rfl ?_
  refine zq ?_
  refine OpV.stA (vs := T) tab_ok rfl rfl rfl hl h1 .head (by rw [hl]; decide) ?_
  rw [show T.take 0 ++ T ++ T.drop (0 + 16) = T by rw [List.drop_of_length_le (by omega)]; simp]
  refine w ?_
  exact VE.results1 (.inl rfl) () rfl (ResIs.agg (vs := T) tab_ok rfl rfl (.head _) ht hl) trivial rfl (Ent.drop Ent.refl)
theorem and15 (m : BitVec 32) : ((m &&& 15#32).toNat : Nat) < 16 := by
 rw [BitVec.toNat_and]; exact Nat.lt_succ_of_le Nat.and_le_right
theorem more_ok {ao : Option Addr} {cap : Nat} {l : List UInt8} (c : BitVec 32) (hr : Rds W R 1 ao l.length (bytes l)) (hl : l.length <= 1099511627776) :
  Does1 W Tryz.prog 187 [.int .u32 (c.toNat : Int), .slice ao l.length cap] R (.int .u32 ((crcM c l).toNat : Int)) R := by
 (refine Does.enter Tryz.func187 Tryz.ntmps187 rfl rfl ?_)
 refine w ?_
 (refine zq ?_; refine zy rfl rfl (half_ok) ?_; intro _ _)
 refine zq ?_
 refine OpV.alloc (z := .agg (tabV 0).toArray) (cs := tabV 0) (fun w => by simp; rfl) rfl rfl ?_
 intro nb
 have hl16 := tabV_length 16
 have h1 := tabV_one 16
 have hget := tabV_get
 have hl0 := tabV_length 0
 generalize tabV 16 = T at *
 generalize tabV 0 = T0 at *
 refine zq ?_
 refine OpV.stA (vs := T) tab_ok rfl rfl rfl hl16 h1 .head (by rw [hl0]; decide) ?_
 rw [show T0.take 0 ++ T ++ T0.drop (0 + 16) = T by rw [List.drop_of_length_le (by omega)]; simp]
 refine w ?_
 refine VO.pure rfl rfl (PureAt.not32 (c := c) rfl) rfl ?_
 unfold u32V
 refine w ?_
 refine VC.loop (α := Nat) (fun i => i <= l.length) (fun _ => Row nb 304 T :: R) (fun i => [(5, .pointer (some ⟨nb, 0, none⟩)), (6, .int .u32 ((crcF (~~~c) (l.take i)).toNat : Int)), (12, .slice ao l.length cap), (13, .int .i64 l.length), (14, .int .i64 i)]) (fun i => l.length - i) rfl 0 (Nat.zero_le _) Ent.refl ⟨rfl, rfl, rfl, rfl, rfl, trivial⟩ ?_
 intro i hi
 refine w ?_
 refine zk ?_ ?_ <;> intro hc
 ·
  have hlt : i < l.length := by have := of_decide_eq_true hc; omega
  obtain ⟨a, rfl⟩ : ∃ a, ao = some a := by cases ao with | none => have := hr.nil rfl; omega | some a => exact ⟨a, rfl⟩
  have hst : crcF (~~~c) (l.take (i + 1)) = crcB (crcF (~~~c) (l.take i)) l[i] := by rw [List.take_succ_eq_append_getElem hlt, crcF_snoc]
  rw [crcB_nibbles] at hst
  have hb9 := hr.ent (Ent.drop (p := Row nb 304 T) Ent.refl : Ent W (Row nb 304 T :: R) R)
  generalize crcF (~~~c) (l.take i) = F at *
  refine w ?_
  have hx : Value.int .u32 (IntKind.u32.wrap ((BitVec.ofInt IntKind.u32.bits (F.toNat : Int) ^^^ BitVec.ofInt IntKind.u32.bits (IntKind.u32.wrap (l[i].toNat : Int))).toNat : Int)) = .int .u32 ((F ^^^ BitVec.ofNat 32 l[i].toNat).toNat : Int) := by
   rw [byte32, wrapB32]; exact congrArg (Value.int .u32) (xor32 _ _)
  refine VO.pure rfl rfl (ldB tab_ok rfl rfl hb9 hlt) rfl ?_
  iterate 9 (refine zv ?_)
  refine VO.re 21 _ rfl hx ?_
  generalize F ^^^ BitVec.ofNat 32 l[i].toNat = G at *
  have hs4 : ∀ m : BitVec 32, (((m.toNat / 2 ^ (4 : Int).toNat : Nat)) : Int) = ((m >>> 4).toNat : Int) := fun m => shr32 m 4
  have ha15 : ∀ m : BitVec 32, IntKind.u32.wrap ((BitVec.ofInt IntKind.u32.bits (m.toNat : Int) &&& BitVec.ofInt IntKind.u32.bits 15).toNat : Int) = ((m &&& 15#32).toNat : Int) := fun m => and32 m 15#32
  have hrow : ∀ m : BitVec 32, T[0 + (m &&& 15#32).toNat]? = some (.int .u32 ((stpN 4 (m &&& 15#32)).toNat : Int)) := fun m => by
   rw [show 0 + (m &&& 15#32).toNat = (m &&& 15#32).toNat by omega, hget _ (and15 m), BitVec.ofNat_toNat, BitVec.setWidth_eq]
  refine w ?_
  refine VO.re 25 (.int .u32 ((G &&& 15#32).toNat : Int)) rfl (by rw [ha15]) ?_
  refine VO.pure rfl rfl (PureAt.indexArr tab_ok Tryz.underlying304 rfl rfl rfl (and15 G)) rfl ?_
  refine VO.pure rfl rfl (PureAt.ld tab_ok rfl rfl (.head _) (hrow G)) rfl ?_
  refine zv ?_
  refine VO.re 28 (.int .u32 (((G >>> 4) ^^^ stpN 4 (G &&& 15#32)).toNat : Int)) rfl (by rw [hs4]; exact congrArg (Value.int .u32) (xor32 _ _)) ?_
  generalize (G >>> 4) ^^^ stpN 4 (G &&& 15#32) = M at *
  refine w ?_
  refine VO.re 32 (.int .u32 ((M &&& 15#32).toNat : Int)) rfl (by rw [ha15]) ?_
  refine VO.pure rfl rfl (PureAt.indexArr tab_ok Tryz.underlying304 rfl rfl rfl (and15 M)) rfl ?_
  refine VO.pure rfl rfl (PureAt.ld tab_ok rfl rfl (.head _) (hrow M)) rfl ?_
  refine zv ?_
  refine VO.re 35 (.int .u32 (((M >>> 4) ^^^ stpN 4 (M &&& 15#32)).toNat : Int)) rfl (by rw [hs4]; exact congrArg (Value.int .u32) (xor32 _ _)) ?_
  refine w ?_
  refine VE.round (i + 1) (by omega) (by omega) ⟨rfl, asV rfl (by rw [hst]), rfl, rfl, asV rfl (by congr 1), trivial⟩ Ent.refl
 ·
  have hge : i = l.length := by have := of_decide_eq_false hc; omega
  subst hge
  rw [List.take_of_length_le (Nat.le_refl _)]
  refine w ?_
  refine VO.pure rfl rfl (PureAt.not32 (c := crcF (~~~c) l) rfl) rfl ?_
  unfold u32V
  refine w ?_
  refine VE.done1 rfl ?_ ?_
  · rfl
  · exact Ent.drop Ent.refl
theorem sum_ok {ao : Option Addr} {cap : Nat} {l : List UInt8} (hr : Rds W R 1 ao l.length (bytes l)) (hl : l.length <= 1099511627776) :
  Does1 W Tryz.prog 138 [.slice ao l.length cap] R (.int .u32 ((crcS l).toNat : Int)) R := by
 (refine Does.enter Tryz.func138 Tryz.ntmps138 rfl rfl ?_)
 refine w ?_
 (refine zq ?_; refine zy rfl rfl (more_ok 0#32 hr hl) ?_)
 intro _ _
 refine w ?_
 refine VE.done1 rfl ?_ ?_
 · rfl
 · exact Ent.refl
theorem cnt_iff (a b : Nat) : cntOk a b ↔ a <= 4611686018427387904 /\ 1 <= b /\ b <= 4611686018427387904 := Iff.rfl
theorem counts_ok (a b : Nat) :
  Does1 W Tryz.prog 160 [.int .u64 a, .int .u64 b] R (.bool (decide (cntOk a b))) R := by
 (refine Does.enter Tryz.func160 Tryz.ntmps160 rfl rfl ?_)
 refine w ?_
 iterate 2
  refine zg ?_ ?_ <;> intro hb
  rotate_left
  ·
   replace hb := of_decide_eq_false hb
   refine w ?_
   refine VE.done1 rfl ?_ ?_
   · rw [decide_eq_false (fun h => by have := (cnt_iff a b).1 h; omega)]
   · exact Ent.refl
  replace hb := of_decide_eq_true hb
  refine w ?_
 refine VE.done1 rfl ?_ ?_
 · congr 1; rw [decide_eq_decide, cnt_iff]; omega
 · exact Ent.refl
theorem numbers_ok (a b : Nat) :
  Does1 W Tryz.prog 165 [.int .u64 a, .int .u64 b] R (.bool (decide (cntOk a b))) R := by
 (refine Does.enter Tryz.func165 Tryz.ntmps165 rfl rfl ?_)
 refine w ?_
 iterate 2
  refine zg ?_ ?_ <;> intro hb
  rotate_left
  ·
   replace hb := of_decide_eq_false hb
   refine w ?_
   refine VE.done1 rfl ?_ ?_
   · rw [decide_eq_false (fun h => by have := (cnt_iff a b).1 h; omega)]
   · exact Ent.refl
  replace hb := of_decide_eq_true hb
  refine w ?_
 refine VE.done1 rfl ?_ ?_
 · congr 1; rw [decide_eq_decide, cnt_iff]; omega
 · exact Ent.refl
theorem in_ok (n a b : Int) :
  Does1 W Tryz.prog 161 [.int .i64 n, .int .i64 a, .int .i64 b] R (.bool (decide (a <= n /\ n <= b))) R := by
 (refine Does.enter Tryz.func161 Tryz.ntmps161 rfl rfl ?_)
 refine w ?_
 refine zg ?_ ?_ <;> intro hb
 ·
  have h : a <= n := of_decide_eq_true hb
  refine w ?_
  refine VE.done1 rfl ?_ ?_
  · simp [h]
  · exact Ent.refl
 ·
  have h : ¬ a <= n := of_decide_eq_false hb
  refine w ?_
  refine VE.done1 rfl ?_ ?_
  · simp [h]
  · exact Ent.refl
theorem and_lowB (y j : Nat) (h : y < 2 ^ 64) (hj : j <= 64) : IntKind.u64.wrap ((BitVec.ofInt IntKind.u64.bits (y : Int) &&& BitVec.ofInt IntKind.u64.bits ((2 ^ j - 1 : Nat) : Int)).toNat : Int) = ((y % 2 ^ j : Nat) : Int) := by
 have e : (BitVec.ofInt 64 (y : Int) &&& BitVec.ofInt 64 ((2 ^ j - 1 : Nat) : Int)).toNat = y % 2 ^ j := by
  rw [BitVec.toNat_and, BitVec.ofInt_natCast, BitVec.ofInt_natCast, BitVec.toNat_ofNat, BitVec.toNat_ofNat, Nat.mod_eq_of_lt h, Nat.mod_eq_of_lt, Nat.and_two_pow_sub_one_eq_mod]
  have := Nat.pow_le_pow_right (show 0 < 2 by decide) hj
  have := Nat.two_pow_pos j
  omega
 show IntKind.u64.wrap ((BitVec.ofInt 64 (y : Int) &&& BitVec.ofInt 64 ((2 ^ j - 1 : Nat) : Int)).toNat : Int) = _
 rw [e]
 have h2 : y % 2 ^ j < 2 ^ 64 := Nat.lt_of_le_of_lt (Nat.mod_le _ _) h
 exact wrap64_of h2
theorem put_ok {ao : Option Addr} {cap : Nat} (l : List UInt8) (v wd : Nat) (hl : l.length <= 100000) (hw : wd <= 8) (hv : v < 2 ^ 64) :
  Does W Tryz.prog 167 [.slice ao l.length cap, .int .u64 v, .int .i64 wd] (Own 5 1 (.slice ao l.length cap) l.length (bytes l) :: R) (β := Option Addr × Nat) (fun _ => True)
   (fun x => .slice x.1 (l ++ lowBytes v wd).length x.2) (fun x => Own 5 1 (.slice x.1 (l ++ lowBytes v wd).length x.2) (l ++ lowBytes v wd).length (bytes (l ++ lowBytes v wd)) :: R) := by
 (refine Does.enter Tryz.func167 Tryz.ntmps167 rfl rfl ?_)
 refine w ?_
 refine VC.loop (α := Nat × Option Addr × Nat) (fun y => y.1 <= wd) (fun y => Own 5 1 (.slice y.2.1 (l ++ lowBytes v y.1).length y.2.2) (l ++ lowBytes v y.1).length (bytes (l ++ lowBytes v y.1)) :: R)
  (fun y => [(0, .slice y.2.1 (l ++ lowBytes v y.1).length y.2.2), (1, .int .u64 ((v / 256 ^ y.1 : Nat) : Int)), (2, .int .i64 wd), (7, .int .i64 y.1)]) (fun y => wd - y.1) rfl (0, ao, cap) (Nat.zero_le _) (by simp only [lowBytes, List.append_nil]; exact Ent.refl) ⟨asV rfl (by simp [lowBytes]), asV rfl (by simp), rfl, rfl, trivial⟩ ?_
 rintro ⟨i, so, sc⟩ hi
 dsimp only at hi ⊢
 have hlen : (l ++ lowBytes v i).length = l.length + i := by rw [List.length_append, lowBytes_length]
 refine w ?_
 refine zk ?_ ?_ <;> intro hc
 ·
  have hlt : i < wd := by have := of_decide_eq_true hc; omega
  refine w ?_
  refine VO.re 16 (.int .u8 ((UInt8.ofNat (v / 256 ^ i)).toNat : Int)) rfl ?_ ?_
  ·
   rw [show (255 : Int) = ((2 ^ 8 - 1 : Nat) : Int) from rfl, and_lowB _ 8 (by exact Nat.lt_of_le_of_lt (Nat.div_le_self _ _) hv) (by omega), u8_of]
   congr 2
   simp
  (refine zq ?_; refine OpV.buildSlice1 st_65 rfl rfl (by first | (simp; done) | simp [Value.oneCell']) (by decide) rfl ?_; intro nb)
  (refine zq ?_; refine OpV.appendRow st_65 rfl rfl zh zm rfl (by first | (simp; done) | simp [Value.oneCell']) ?_ ?_ rfl ?_)
  · simp only [maxLen]; omega
  · omega
  intro so' sc'
  refine w ?_
  refine VE.round (i + 1, so', sc') (by simp only; omega) (by simp only; omega) ⟨asV rfl ?_, asV rfl ?_, rfl, asV rfl (by congr 1), trivial⟩ ?_
  · simp only; congr 1; rw [List.length_append, List.length_append, lowBytes_length, lowBytes_length]; omega
  · simp only; rw [show (2 : Nat) ^ (8 : Int).toNat = 256 from rfl, Nat.div_div_eq_div_mul, Nat.pow_succ]
  ·
   dsimp only
   rw [lowBytes, <- List.append_assoc]
   rw [show (l ++ lowBytes v i ++ [UInt8.ofNat (v / 256 ^ i)]).length = (l ++ lowBytes v i).length + 1 from by rw [List.length_append]; rfl, bytes_append (l ++ lowBytes v i)]
   exact Ent.re
 ·
  have hge : i = wd := by have := of_decide_eq_false hc; omega
  subst hge
  refine w ?_
  exact VE.done (so, sc) rfl trivial rfl Ent.refl
theorem drop_step (l : List UInt8) (e j : Nat) (h : j < e) (he : e <= l.length) :
  (l.drop (e - (j + 1))).take (j + 1) = l[e - (j + 1)]'(by omega) :: (l.drop (e - j)).take j := by
 rw [List.drop_eq_getElem_cons (by omega), List.take_succ_cons, show e - (j + 1) + 1 = e - j by omega]
theorem get_ok {ao : Option Addr} {cap : Nat} {l : List UInt8} (hr : Rds W R 1 ao l.length (bytes l)) (a wd : Nat) (hl : l.length <= 1099511627776) (hw : wd <= 8) (ha : a + wd <= l.length) :
  Does1 W Tryz.prog 182 [.slice ao l.length cap, .int .i64 a, .int .i64 wd] R (.int .u64 (numAt l a wd : Nat)) R := by
 (refine Does.enter Tryz.func182 Tryz.ntmps182 rfl rfl ?_)
 refine w ?_
 refine VC.loop (α := Nat) (fun j => j <= wd) (fun j => R)
  (fun j => [(0, .slice ao l.length cap), (1, .int .i64 a), (7, .int .u64 ((leVal ((l.drop (a + wd - j)).take j) : Nat) : Int)), (8, .int .i64 ((wd : Int) - 1 - j))])
  (fun j => wd - j) rfl 0 (Nat.zero_le _) Ent.refl ⟨rfl, rfl, asV rfl (by simp [leVal]), asV rfl (by congr 1; omega), trivial⟩ ?_
 intro j hj
 refine w ?_
 refine zk ?_ ?_ <;> intro hc
 ·
  have hlt : j < wd := by have := of_decide_eq_true hc; omega
  obtain ⟨a0, ha0⟩ : ∃ a0, ao = some a0 := by
   cases e : ao with
   | none => have := hr.nil e; omega
   | some a0 => exact ⟨a0, rfl⟩
  subst ha0
  have hb1 := hr
  refine w ?_
  (refine zq ?_; refine OpV.pure (PureAt.shl rfl rfl (by omega)) rfl ?_)
  refine w ?_
  refine VO.re 20 (.int .i64 ((a + wd - 1 - j : Nat) : Int)) rfl (by congr 1; omega) ?_
  refine w ?_
  refine VE.round (j + 1) (by omega) (by omega) ⟨rfl, rfl, asV rfl ?_, asV rfl (by congr 1; omega), trivial⟩ Ent.refl
  rw [show a + wd - (j + 1) = a + wd - (j + 1) from rfl, drop_step l (a + wd) j (by omega) ha, leVal]
  have hv := leVal_lt ((l.drop (a + wd - j)).take j)
  rw [show ((l.drop (a + wd - j)).take j).length = j by rw [List.length_take, List.length_drop]; omega] at hv
  have hv2 : leVal ((l.drop (a + wd - j)).take j) < 2 ^ 56 := Nat.lt_of_lt_of_le hv (by rw [show (2 : Nat) ^ 56 = 256 ^ 7 from rfl]; exact Nat.pow_le_pow_right (by decide) (by omega))
  have hc8 := (l[a + wd - (j + 1)]'(by omega)).toNat_lt
  have hor := or_shift (l[a + wd - (j + 1)]'(by omega)).toNat (leVal ((l.drop (a + wd - j)).take j)) 8 hc8 (by omega) (by omega)
  congr 1
  rw [BitVec.or_comm]
  simp only [show a + wd - 1 - j = a + wd - (j + 1) by omega]
  rw [wrap64_of (v := (l[a + wd - (j + 1)]'(by omega)).toNat) (by omega)]
  refine Eq.trans hor ?_
  congr 1; omega
 ·
  have hge : j = wd := by have := of_decide_eq_false hc; omega
  subst hge
  refine w ?_
  refine VE.done1 rfl ?_ ?_
  · congr 2; unfold numAt; rw [show a + j - j = a by omega]
  · exact Ent.refl
theorem begun_ok (k e s : Nat) (hk : k < 2 ^ 63) (he : e < 2 ^ 64) (hs : s < 2 ^ 64) :
  Does W Tryz.prog 166 [.int .i64 k, .int .u64 e, .int .u64 s] R (β := Option Addr × Nat) (fun _ => True)
   (fun x => .slice x.1 (begunL k e s).length x.2) (fun x => Own 5 1 (.slice x.1 (begunL k e s).length x.2) (begunL k e s).length (bytes (begunL k e s)) :: R) := by
 (refine Does.enter Tryz.func166 Tryz.ntmps166 rfl rfl ?_)
 refine VC.ent (fun w hw => hw.ownNil 5 1) ?_
 refine w ?_
 refine zq ?_
 refine OpV.append (news := bytes magicL) (m := 4) st_65 rfl rfl zh (fun w hw => Src.ofString w (TabData.string_ok tab_ok rfl) _) (by decide) (by decide) rfl ?_
 intro a1 c1
 rw [show (0 + 4 : Nat) = magicL.length from rfl, List.nil_append]
 refine w ?_
 refine VO.re 12 (.int .u64 k) rfl (by rw [wrap64_of (by omega)]) ?_
 (refine zq ?_; refine zd rfl rfl (put_ok magicL k 4 (by decide) (by decide) (by omega)) ?_)
 rintro ⟨a2, c2⟩ _
 refine w ?_
 (refine zq ?_; refine zd rfl rfl (put_ok (magicL ++ lowBytes k 4) e 8 (by simp [magicL, lowBytes_length]) (by decide) he) ?_)
 rintro ⟨a3, c3⟩ _
 refine w ?_
 (refine zq ?_; refine zd rfl rfl (put_ok (magicL ++ lowBytes k 4 ++ lowBytes e 8) s 8 (by simp [magicL, lowBytes_length]) (by decide) hs) ?_)
 rintro ⟨a4, c4⟩ _
 refine w ?_
 exact VE.done (a4, c4) rfl trivial rfl Ent.refl
theorem ended_ok {ao : Option Addr} {cap : Nat} (l : List UInt8) (hl : l.length <= 124) :
  Does W Tryz.prog 168 [.slice ao l.length cap] (Own 5 1 (.slice ao l.length cap) l.length (bytes l) :: R) (β := Option Addr × Nat) (fun _ => True)
   (fun x => .slice x.1 (sealS (padTo 124 l)).length x.2) (fun x => Own 5 1 (.slice x.1 (sealS (padTo 124 l)).length x.2) (sealS (padTo 124 l)).length (bytes (sealS (padTo 124 l))) :: R) := by
 (refine Does.enter Tryz.func168 Tryz.ntmps168 rfl rfl ?_)
 refine w ?_
 refine VC.loop (α := Nat × Option Addr × Nat) (fun y => l.length + y.1 <= 124) (fun y => Own 5 1 (.slice y.2.1 (l ++ List.replicate y.1 0).length y.2.2) (l ++ List.replicate y.1 0).length (bytes (l ++ List.replicate y.1 0)) :: R)
  (fun y => [(0, .slice y.2.1 (l ++ List.replicate y.1 0).length y.2.2)]) (fun y => 124 - (l.length + y.1)) rfl (0, ao, cap) (by simp only; omega) (by simp only [List.replicate_zero, List.append_nil]; exact Ent.refl) ⟨asV rfl (by simp), trivial⟩ ?_
 rintro ⟨i, so, sc⟩ hi
 dsimp only at hi ⊢
 have hlen : (l ++ List.replicate i (0 : UInt8)).length = l.length + i := by rw [List.length_append, List.length_replicate]
 refine w ?_
 refine zk ?_ ?_ <;> intro hc
 ·
  have hlt : l.length + i < 124 := by have := of_decide_eq_true hc; omega
  refine w ?_
  (refine zq ?_; refine OpV.buildSlice1 st_65 rfl rfl (by first | (simp; done) | simp [Value.oneCell']) (by decide) rfl ?_; intro nb)
  (refine zq ?_; refine OpV.appendRow st_65 rfl rfl zh zm rfl (by first | (simp; done) | simp [Value.oneCell']) ?_ ?_ rfl ?_)
  · simp only [maxLen]; omega
  · omega
  intro so' sc'
  refine w ?_
  refine VE.round (i + 1, so', sc') (by simp only; omega) (by simp only; omega) ⟨asV rfl ?_, trivial⟩ ?_
  · simp only; congr 1; rw [List.length_append, List.length_append, List.length_replicate, List.length_replicate]; omega
  ·
   dsimp only
   rw [List.replicate_succ', <- List.append_assoc]
   have e1 : (l ++ List.replicate i (0 : UInt8) ++ [0]).length = (l ++ List.replicate i (0 : UInt8)).length + 1 := List.length_append
   rw [e1, bytes_append (l ++ List.replicate i (0 : UInt8))]
   exact Ent.re
 ·
  have hge : i = 124 - l.length := by have := of_decide_eq_false hc; omega
  subst hge
  rw [show l ++ List.replicate (124 - l.length) (0 : UInt8) = padTo 124 l from rfl] at *
  have hp : (padTo 124 l).length = 124 := padTo_length hl
  refine w ?_
  refine VO.know (fun w hw => hw.ownNone zm : ∀ w, _ -> (so = none -> (padTo 124 l).length = 0)) ?_
  intro hnone
  (refine zq ?_; refine zy rfl rfl (rsum_ok (Rds.own (bytes_one _) (.head _) (by simp) hnone) (by omega)) ?_)
  intro _ _
  refine w ?_
  have hcr := (crcS (padTo 124 l)).isLt
  refine VO.re 14 (.int .u64 (crcS (padTo 124 l)).toNat) rfl (by rw [wrap64_of (by omega)]) ?_
  (refine zq ?_; refine zd rfl rfl (put_ok (padTo 124 l) (crcS (padTo 124 l)).toNat 4 (by omega) (by decide) (by have := (crcS (padTo 124 l)).isLt; omega)) ?_)
  rintro ⟨a4, c4⟩ _
  refine w ?_
  exact VE.done (a4, c4) rfl trivial rfl Ent.refl
theorem bytes_take (l : List UInt8) (k : Nat) : (bytes l).take (k * 1) = bytes (l.take k) := by rw [Nat.mul_one]; simp [bytes]
theorem bytes_drop (l : List UInt8) (k : Nat) : (bytes l).drop (k * 1) = bytes (l.drop k) := by rw [Nat.mul_one]; simp [bytes]
theorem rds_head {ao : Option Addr} {l : List UInt8} (hr : Rds W R 1 ao l.length (bytes l)) (k : Nat) (hk : k <= l.length) : Rds W R 1 ao k (bytes (l.take k)) := by
 have := hr.take hk
 rwa [bytes_take] at this
theorem rds_part {ao : Option Addr} {cap : Nat} {l : List UInt8} (hr : Rds W R 1 ao l.length (bytes l)) (a b : Nat) (h1 : a <= b) (h2 : b <= l.length) (h3 : l.length <= cap) : Rds W R 1 (subA ao cap a 1) (b - a) (bytes ((l.drop a).take (b - a))) := by
 have := hr.sub h1 h2 h3
 rwa [bytes_drop, bytes_take] at this
theorem kindB_no {b : List UInt8} (h : b.length = 128 -> b.take 4 = magicL -> 3 < (b.getD 4 0).toNat) : kindB b = 0 := by
 unfold kindB; rw [if_neg]; rintro ⟨h1, h2, h3⟩; have := h h1 h2; omega
theorem kindB_yes {b : List UInt8} (h1 : b.length = 128) (h2 : b.take 4 = magicL) (h3 : (b.getD 4 0).toNat <= 3) : kindB b = b.getD 4 0 := by
 unfold kindB; rw [if_pos ⟨h1, h2, h3⟩]
theorem getD4 {b : List UInt8} (h : 4 < b.length) : b.getD 4 0 = b[4] := by simp [List.getD, h]
theorem kind_ok {ao : Option Addr} {cap : Nat} {l : List UInt8} (hr : Rds W R 1 ao l.length (bytes l)) (hcap : l.length <= cap) :
  Does1 W Tryz.prog 197 [.slice ao l.length cap] R (.int .u8 ((kindB l).toNat : Int)) R := by
 (refine Does.enter Tryz.func197 Tryz.ntmps197 rfl rfl ?_)
 refine w ?_
 refine zg ?_ ?_ <;> intro hb
 ·
  have hb : l.length ≠ 128 := by have := hb; simp at this; omega
  refine w ?_
  refine VE.done1 rfl ?_ ?_
  · rw [kindB_no (fun h => absurd h hb)]; rfl
  · exact Ent.refl
 have h128 : l.length = 128 := by have := hb; simp at this; omega
 obtain ⟨a, rfl⟩ : ∃ a, ao = some a := by cases ao with | none => have := hr.nil rfl; omega | some a => exact ⟨a, rfl⟩
 have hb1 := hr
 refine w ?_
 refine VO.pure rfl rfl (PureAt.toStr (l := l.take 4) tab_ok rfl rfl rfl rfl (rds_head hr 4 (by omega)) rfl) rfl ?_
 refine VO.pure rfl rfl (PureAt.strEq (b := magicL) tab_ok rfl rfl rfl rfl) rfl ?_
 refine w ?_
 refine zg ?_ ?_ <;> intro hb
 ·
  have hb : l.take 4 ≠ magicL := by have := hb; simp at this; exact this
  refine w ?_
  refine VE.done1 rfl ?_ ?_
  · rw [kindB_no (fun _ h => absurd h hb)]; rfl
  · exact Ent.refl
 have hm : l.take 4 = magicL := by have := hb; simp at this; exact this
 refine w ?_
 refine zk ?_ ?_ <;> intro hc
 ·
  have h3 : 3 < (l[4]).toNat := by have := of_decide_eq_true hc; omega
  refine w ?_
  refine VE.done1 rfl ?_ ?_
  · rw [kindB_no (fun _ _ => by rw [getD4 (by omega)]; exact h3)]; rfl
  · exact Ent.refl
 ·
  have h3 : (l[4]).toNat <= 3 := by have := of_decide_eq_false hc; omega
  refine w ?_
  refine VE.done1 rfl ?_ ?_
  · rw [kindB_yes h128 hm (by rw [getD4 (by omega)]; exact h3), getD4 (by omega)]
  · exact Ent.refl
theorem rkind_ok {ao : Option Addr} {cap : Nat} {l : List UInt8} (hr : Rds W R 1 ao l.length (bytes l)) (hcap : l.length <= cap) :
  Does1 W Tryz.prog 213 [.slice ao l.length cap] R (.int .u8 ((kindB l).toNat : Int)) R := by
 (refine Does.enter Tryz.func213 Tryz.ntmps213 rfl rfl ?_)
 refine w ?_
 refine zg ?_ ?_ <;> intro hb
 ·
  have hb : l.length ≠ 128 := by have := hb; simp at this; omega
  refine w ?_
  refine VE.done1 rfl ?_ ?_
  · rw [kindB_no (fun h => absurd h hb)]; rfl
  · exact Ent.refl
 have h128 : l.length = 128 := by have := hb; simp at this; omega
 obtain ⟨a, rfl⟩ : ∃ a, ao = some a := by cases ao with | none => have := hr.nil rfl; omega | some a => exact ⟨a, rfl⟩
 have hb1 := hr
 refine w ?_
 refine VO.pure rfl rfl (PureAt.toStr (l := l.take 4) tab_ok rfl rfl rfl rfl (rds_head hr 4 (by omega)) rfl) rfl ?_
 refine VO.pure rfl rfl (PureAt.strEq (b := magicL) tab_ok rfl rfl rfl rfl) rfl ?_
 refine w ?_
 refine zg ?_ ?_ <;> intro hb
 ·
  have hb : l.take 4 ≠ magicL := by have := hb; simp at this; exact this
  refine w ?_
  refine VE.done1 rfl ?_ ?_
  · rw [kindB_no (fun _ h => absurd h hb)]; rfl
  · exact Ent.refl
 have hm : l.take 4 = magicL := by have := hb; simp at this; exact this
 refine w ?_
 refine zg ?_ ?_ <;> intro hb
 ·
  have h0 : (l[4]).toNat = 0 := by have := of_decide_eq_true hb; omega
  refine w ?_
  refine VE.done1 rfl ?_ ?_
  · rw [kindB_yes h128 hm (by rw [getD4 (by omega)]; omega), getD4 (by omega), h0]; rfl
  · exact Ent.refl
 refine w ?_
 refine zk ?_ ?_ <;> intro hc
 ·
  have h3 : 3 < (l[4]).toNat := by have := of_decide_eq_true hc; omega
  refine w ?_
  refine VE.done1 rfl ?_ ?_
  · rw [kindB_no (fun _ _ => by rw [getD4 (by omega)]; exact h3)]; rfl
  · exact Ent.refl
 ·
  have h3 : (l[4]).toNat <= 3 := by have := of_decide_eq_false hc; omega
  refine w ?_
  refine VE.done1 rfl ?_ ?_
  · rw [kindB_yes h128 hm (by rw [getD4 (by omega)]; exact h3), getD4 (by omega)]
  · exact Ent.refl
theorem rlooks_ok {ao : Option Addr} {cap : Nat} {l : List UInt8} (hr : Rds W R 1 ao l.length (bytes l)) (hcap : l.length <= cap) (k : UInt8) :
  Does1 W Tryz.prog 181 [.slice ao l.length cap, .int .u8 (k.toNat : Int)] R (.int .i64 (looksM l k)) R := by
 (refine Does.enter Tryz.func181 Tryz.ntmps181 rfl rfl ?_)
 refine w ?_
 refine zk ?_ ?_ <;> intro hc
 ·
  have hb : l.length ≠ 128 := by have := hc; simp at this; omega
  refine w ?_
  refine VE.done1 rfl ?_ ?_
  · unfold looksM; rw [if_pos hb]
  · exact Ent.refl
 have h128 : l.length = 128 := by have := hc; simp at this; omega
 refine w ?_
 (refine zq ?_; refine zy rfl rfl (rkind_ok hr hcap) ?_)
 intro _ _
 refine w ?_
 refine zk ?_ ?_ <;> intro hc
 ·
  have hb : kindB l ≠ k := by intro h; rw [h] at hc; simp at hc
  refine w ?_
  refine VE.done1 rfl ?_ ?_
  · unfold looksM; rw [if_neg (by omega), if_pos hb]
  · exact Ent.refl
 have hk : kindB l = k := by
  have h1 : ((kindB l).toNat : Int) = (k.toNat : Int) := by simpa using hc
  exact UInt8.toNat_inj.1 (by omega)
 have h124 : (l.take 124).length = 124 := by rw [List.length_take]; omega
 refine w ?_
 have hsum := rsum_ok (cap := cap) (l := l.take 124) (W := W) (R := R) (ao := ao) (by rw [h124]; exact rds_head hr 124 (by omega)) (by omega)
 rw [h124] at hsum
 (refine zq ?_; refine zy rfl rfl (hsum) ?_)
 intro _ _
 refine w ?_
 (refine zq ?_; refine zy rfl rfl (get_ok hr 124 4 (by omega) (by omega) (by omega)) ?_)
 intro _ _
 have hcr := (crcS (l.take 124)).isLt
 refine w ?_
 refine zk ?_ ?_ <;> intro hc
 ·
  have hb : numAt l 124 4 ≠ (crcS (l.take 124)).toNat := by
   intro h
   rw [h, wrap64_of (by omega)] at hc
   simp at hc
  refine w ?_
  refine VE.done1 rfl ?_ ?_
  · unfold looksM; rw [if_neg (by omega), if_neg (fun h => h hk), if_pos hb]
  · exact Ent.refl
 ·
  have hb : numAt l 124 4 = (crcS (l.take 124)).toNat := by
   rw [wrap64_of (by omega)] at hc
   have h1 : ((numAt l 124 4 : Nat) : Int) = (((crcS (l.take 124)).toNat : Nat) : Int) := by simpa using hc
   omega
  refine w ?_
  refine VE.done1 rfl ?_ ?_
  · unfold looksM; rw [if_neg (by omega), if_neg (fun h => h hk), if_neg (fun h => h hb)]
  · exact Ent.refl
structure HdrD.fit (h : HdrD) : Prop where
  epoch : h.epoch < 2 ^ 64
  seq : h.seq < 2 ^ 64
  index : -9223372036854775808 <= h.index /\ h.index <= 9223372036854775807
  count : -9223372036854775808 <= h.count /\ h.count <= 9223372036854775807
  member : -9223372036854775808 <= h.member /\ h.member <= 9223372036854775807
  row : -9223372036854775808 <= h.row /\ h.row <= 9223372036854775807
  sum : h.sum < 4294967296
structure CmtD.fit (h : CmtD) : Prop where
  epoch : h.epoch < 2 ^ 64
  seq : h.seq < 2 ^ 64
  count : -9223372036854775808 <= h.count /\ h.count <= 9223372036854775807
  sum : h.sum < 4294967296
structure ChkD.fit (h : ChkD) : Prop where
  epoch : h.epoch < 2 ^ 64
  seq : h.seq < 2 ^ 64
  tail : -9223372036854775808 <= h.tail /\ h.tail <= 9223372036854775807
theorem hdr_iff (h : HdrD) : h.good ↔ (h.epoch <= 4611686018427387904 /\ 1 <= h.seq /\ h.seq <= 4611686018427387904) /\ 1 <= h.count /\ h.count <= 1023 /\ 0 <= h.index /\ h.index <= h.count - 1 /\ 0 <= h.member /\ h.member <= 15 /\ 0 <= h.row /\ h.row <= 4095 := by
 unfold HdrD.good cntOk
 constructor
 · rintro ⟨a, ⟨b, c⟩, ⟨d, e⟩, ⟨f, g⟩, i, j⟩; exact ⟨a, b, c, d, e, f, g, i, j⟩
 · rintro ⟨a, b, c, d, e, f, g, i, j⟩; exact ⟨a, ⟨b, c⟩, ⟨d, e⟩, ⟨f, g⟩, i, j⟩
theorem cmt_iff (h : CmtD) : h.good ↔ (h.epoch <= 4611686018427387904 /\ 1 <= h.seq /\ h.seq <= 4611686018427387904) /\ 1 <= h.count /\ h.count <= 1023 := Iff.rfl
theorem chk_iff (h : ChkD) : h.good ↔ (h.epoch <= 4611686018427387904 /\ 1 <= h.seq /\ h.seq <= 4611686018427387904) /\ 0 <= h.tail /\ h.tail <= 2047 := Iff.rfl
theorem hdr_bad {h : HdrD} (g : ¬ h.good) : h.enc = (80, []) := if_neg g
theorem cmt_bad {h : CmtD} (g : ¬ h.good) : h.enc = (80, []) := if_neg g
theorem chk_bad {h : ChkD} (g : ¬ h.good) : h.enc = (80, []) := if_neg g
theorem hdr_ok {h : HdrD} (g : h.good) : h.enc = (0, sectF 1 h.epoch h.seq h.rest) := if_pos g
theorem cmt_ok {h : CmtD} (g : h.good) : h.enc = (0, sectF 2 h.epoch h.seq h.rest) := if_pos g
theorem chk_ok {h : ChkD} (g : h.good) : h.enc = (0, sectF 3 h.epoch h.seq h.rest) := if_pos g
theorem i64_nat {v : Nat} (h : v < 4294967296) : IntKind.i64.wrap (v : Int) = v := IntWalk.i64_in _ ⟨by omega, by omega⟩
theorem u32_nat {v : Nat} (h : v < 4294967296) : IntKind.u32.wrap (v : Int) = v := by rw [wrap32_of, Nat.mod_eq_of_lt h]
theorem bitN_lt (b : Bool) : bitN b < 2 ^ 64 := by cases b <;> decide
abbrev OwnB (x : Option Addr × Nat) (l : List UInt8) : SProp := Own 5 1 (.slice x.1 l.length x.2) l.length (bytes l)
theorem rench_ok (h : HdrD) (hf : h.fit) :
  Does W Tryz.prog 173 [.agg h.cells.toArray] R (β := Option Addr × Nat) (fun _ => True) (fun x => .tuple #[.slice x.1 h.enc.2.length x.2, .int .i64 h.enc.1]) (fun x => OwnB x h.enc.2 :: R) := by
 have hiff := hdr_iff h
 (refine Does.enter Tryz.func173 Tryz.ntmps173 rfl rfl ?_)
 refine w ?_; repeat (refine zj fun _ => ?_; refine w ?_)
 (refine zq ?_; refine zy rfl rfl (numbers_ok h.epoch h.seq) ?_; intro _ _)
 refine w ?_; repeat (refine zj fun _ => ?_; refine w ?_)
 refine zg ?_ ?_ <;> intro hb
 ·
  have hb : ¬ cntOk h.epoch h.seq := by simpa using hb
  have hbad := hdr_bad (h := h) (fun g => hb g.1)
  refine w ?_; repeat (refine zj fun _ => ?_; refine w ?_)
  refine VE.done (none, 0) rfl trivial (by rw [hbad]; rfl) ?_
  rw [hbad]; exact Ent.trans (Ent.re (L := R)) (fun w hw => hw.ownNil _ _)
 have h0 : cntOk h.epoch h.seq := by simpa using hb
 have h0 := (cnt_iff _ _).1 h0
 refine w ?_; repeat (refine zj fun _ => ?_; refine w ?_)
 iterate 7
  refine zg ?_ ?_ <;> intro hb
  ·
   replace hb := of_decide_eq_true hb
   have hbad := hdr_bad (h := h) (fun g => by have := hiff.1 g; omega)
   refine w ?_; repeat (refine zj fun _ => ?_; refine w ?_)
   refine VE.done (none, 0) rfl trivial (by rw [hbad]; rfl) ?_
   rw [hbad]; exact Ent.trans (Ent.re (L := R)) (fun w hw => hw.ownNil _ _)
  replace hb := of_decide_eq_false hb
  refine w ?_; repeat (refine zj fun _ => ?_; refine w ?_)
 refine zk ?_ ?_ <;> intro hc
 ·
  replace hc := of_decide_eq_true hc
  have hbad := hdr_bad (h := h) (fun g => by have := hiff.1 g; omega)
  refine w ?_; repeat (refine zj fun _ => ?_; refine w ?_)
  refine VE.done (none, 0) rfl trivial (by rw [hbad]; rfl) ?_
  rw [hbad]; exact Ent.trans (Ent.re (L := R)) (fun w hw => hw.ownNil _ _)
 replace hc := of_decide_eq_false hc
 have hg : h.good := hiff.2 (by omega)
 have he := hdr_ok hg
 obtain ⟨ep, sq, ix, ct, mb, rw_, es, sm⟩ := h
 dsimp only at *
 obtain ⟨ix, rfl⟩ := Int.eq_ofNat_of_zero_le (show 0 <= ix by omega)
 obtain ⟨ct, rfl⟩ := Int.eq_ofNat_of_zero_le (show 0 <= ct by omega)
 obtain ⟨mb, rfl⟩ := Int.eq_ofNat_of_zero_le (show 0 <= mb by omega)
 obtain ⟨rw_, rfl⟩ := Int.eq_ofNat_of_zero_le (show 0 <= rw_ by omega)
 rw [he]
 have hsm := hf.sum
 have hl0 := begunL_length 1 ep sq
 dsimp only at hsm ⊢
 simp only [HdrD.rest, sectF, sectB, flds, List.flatMap_cons, List.flatMap_nil, List.append_nil, Int.toNat_natCast]
 refine w ?_; repeat (refine zj fun _ => ?_; refine w ?_)
 (refine zq ?_; refine zd rfl rfl (begun_ok 1 ep sq (by omega) (by omega) (by omega)) ?_)
 rintro ⟨a1, c1⟩ -
 generalize begunL 1 ep sq = B at *
 refine w ?_; repeat (refine zj fun _ => ?_; refine w ?_)
 refine VO.re 64 (.int .u64 ix) rfl (by rw [wrap64_of (by omega)]) ?_
 (refine zq ?_; refine zd rfl rfl (put_ok B ix 4 (by omega) (by omega) (by omega)) ?_)
 rintro ⟨a2, c2⟩ -
 refine w ?_; repeat (refine zj fun _ => ?_; refine w ?_)
 refine VO.re 69 (.int .u64 ct) rfl (by rw [wrap64_of (by omega)]) ?_
 (refine zq ?_; refine zd rfl rfl (put_ok (B ++ lowBytes ix 4) ct 4 (by simp [lowBytes_length]; omega) (by omega) (by omega)) ?_)
 rintro ⟨a3, c3⟩ -
 refine w ?_; repeat (refine zj fun _ => ?_; refine w ?_)
 refine VO.re 74 (.int .u64 mb) rfl (by rw [wrap64_of (by omega)]) ?_
 (refine zq ?_; refine zd rfl rfl (put_ok (B ++ lowBytes ix 4 ++ lowBytes ct 4) mb 4 (by simp [lowBytes_length]; omega) (by omega) (by omega)) ?_)
 rintro ⟨a4, c4⟩ -
 refine w ?_; repeat (refine zj fun _ => ?_; refine w ?_)
 refine VO.re 79 (.int .u64 rw_) rfl (by rw [wrap64_of (by omega)]) ?_
 (refine zq ?_; refine zd rfl rfl (put_ok (B ++ lowBytes ix 4 ++ lowBytes ct 4 ++ lowBytes mb 4) rw_ 4 (by simp [lowBytes_length]; omega) (by omega) (by omega)) ?_)
 rintro ⟨a5, c5⟩ -
 cases es
 ·
  refine w ?_; repeat (refine zj fun _ => ?_; refine w ?_)
  refine VO.re 84 (.int .u64 (bitN false)) rfl rfl ?_
  (refine zq ?_; refine zd rfl rfl (put_ok (B ++ lowBytes ix 4 ++ lowBytes ct 4 ++ lowBytes mb 4 ++ lowBytes rw_ 4) (bitN false) 4 (by simp [lowBytes_length]; omega) (by omega) (bitN_lt false)) ?_)
  rintro ⟨a6, c6⟩ -
  refine w ?_; repeat (refine zj fun _ => ?_; refine w ?_)
  refine VO.re 89 (.int .u64 sm) rfl (by show Value.int .u64 (IntKind.u64.wrap (sm : Int)) = _; rw [wrap64_of (by omega)]) ?_
  (refine zq ?_; refine zd rfl rfl (put_ok (B ++ lowBytes ix 4 ++ lowBytes ct 4 ++ lowBytes mb 4 ++ lowBytes rw_ 4 ++ lowBytes (bitN false) 4) sm 4 (by simp [lowBytes_length]; omega) (by omega) (by omega)) ?_)
  rintro ⟨a7, c7⟩ -
  refine w ?_; repeat (refine zj fun _ => ?_; refine w ?_)
  (refine zq ?_; refine zd rfl rfl (ended_ok (B ++ lowBytes ix 4 ++ lowBytes ct 4 ++ lowBytes mb 4 ++ lowBytes rw_ 4 ++ lowBytes (bitN false) 4 ++ lowBytes sm 4) (by simp [lowBytes_length]; omega)) ?_)
  rintro ⟨a8, c8⟩ -
  refine w ?_; repeat (refine zj fun _ => ?_; refine w ?_)
  simp only [List.append_assoc]
  exact VE.done (a8, c8) rfl trivial rfl Ent.re
 ·
  refine w ?_; repeat (refine zj fun _ => ?_; refine w ?_)
  refine VO.re 84 (.int .u64 (bitN true)) rfl rfl ?_
  (refine zq ?_; refine zd rfl rfl (put_ok (B ++ lowBytes ix 4 ++ lowBytes ct 4 ++ lowBytes mb 4 ++ lowBytes rw_ 4) (bitN true) 4 (by simp [lowBytes_length]; omega) (by omega) (bitN_lt true)) ?_)
  rintro ⟨a6, c6⟩ -
  refine w ?_; repeat (refine zj fun _ => ?_; refine w ?_)
  refine VO.re 89 (.int .u64 sm) rfl (by show Value.int .u64 (IntKind.u64.wrap (sm : Int)) = _; rw [wrap64_of (by omega)]) ?_
  (refine zq ?_; refine zd rfl rfl (put_ok (B ++ lowBytes ix 4 ++ lowBytes ct 4 ++ lowBytes mb 4 ++ lowBytes rw_ 4 ++ lowBytes (bitN true) 4) sm 4 (by simp [lowBytes_length]; omega) (by omega) (by omega)) ?_)
  rintro ⟨a7, c7⟩ -
  refine w ?_; repeat (refine zj fun _ => ?_; refine w ?_)
  (refine zq ?_; refine zd rfl rfl (ended_ok (B ++ lowBytes ix 4 ++ lowBytes ct 4 ++ lowBytes mb 4 ++ lowBytes rw_ 4 ++ lowBytes (bitN true) 4 ++ lowBytes sm 4) (by simp [lowBytes_length]; omega)) ?_)
  rintro ⟨a8, c8⟩ -
  refine w ?_; repeat (refine zj fun _ => ?_; refine w ?_)
  simp only [List.append_assoc]
  exact VE.done (a8, c8) rfl trivial rfl Ent.re
theorem rencc_ok (h : CmtD) (hf : h.fit) :
  Does W Tryz.prog 174 [.agg h.cells.toArray] R (β := Option Addr × Nat) (fun _ => True) (fun x => .tuple #[.slice x.1 h.enc.2.length x.2, .int .i64 h.enc.1]) (fun x => OwnB x h.enc.2 :: R) := by
 have hiff := cmt_iff h
 (refine Does.enter Tryz.func174 Tryz.ntmps174 rfl rfl ?_)
 refine w ?_; repeat (refine zj fun _ => ?_; refine w ?_)
 (refine zq ?_; refine zy rfl rfl (numbers_ok h.epoch h.seq) ?_; intro _ _)
 refine w ?_; repeat (refine zj fun _ => ?_; refine w ?_)
 refine zg ?_ ?_ <;> intro hb
 ·
  have hb : ¬ cntOk h.epoch h.seq := by simpa using hb
  have hbad := cmt_bad (h := h) (fun g => hb g.1)
  refine w ?_; repeat (refine zj fun _ => ?_; refine w ?_)
  refine VE.done (none, 0) rfl trivial (by rw [hbad]; rfl) ?_
  rw [hbad]; exact Ent.trans (Ent.re (L := R)) (fun w hw => hw.ownNil _ _)
 have h0 : cntOk h.epoch h.seq := by simpa using hb
 have h0 := (cnt_iff _ _).1 h0
 refine w ?_; repeat (refine zj fun _ => ?_; refine w ?_)
 iterate 1
  refine zg ?_ ?_ <;> intro hb
  ·
   replace hb := of_decide_eq_true hb
   have hbad := cmt_bad (h := h) (fun g => by have := hiff.1 g; omega)
   refine w ?_; repeat (refine zj fun _ => ?_; refine w ?_)
   refine VE.done (none, 0) rfl trivial (by rw [hbad]; rfl) ?_
   rw [hbad]; exact Ent.trans (Ent.re (L := R)) (fun w hw => hw.ownNil _ _)
  replace hb := of_decide_eq_false hb
  refine w ?_; repeat (refine zj fun _ => ?_; refine w ?_)
 refine zk ?_ ?_ <;> intro hc
 ·
  replace hc := of_decide_eq_true hc
  have hbad := cmt_bad (h := h) (fun g => by have := hiff.1 g; omega)
  refine w ?_; repeat (refine zj fun _ => ?_; refine w ?_)
  refine VE.done (none, 0) rfl trivial (by rw [hbad]; rfl) ?_
  rw [hbad]; exact Ent.trans (Ent.re (L := R)) (fun w hw => hw.ownNil _ _)
 replace hc := of_decide_eq_false hc
 have hg : h.good := hiff.2 (by omega)
 have he := cmt_ok hg
 obtain ⟨ep, sq, ct, sm⟩ := h
 dsimp only at *
 obtain ⟨ct, rfl⟩ := Int.eq_ofNat_of_zero_le (show 0 <= ct by omega)
 rw [he]
 have hsm := hf.sum
 have hl0 := begunL_length 2 ep sq
 dsimp only at hsm ⊢
 simp only [CmtD.rest, sectF, sectB, flds, List.flatMap_cons, List.flatMap_nil, List.append_nil, Int.toNat_natCast]
 refine w ?_; repeat (refine zj fun _ => ?_; refine w ?_)
 (refine zq ?_; refine zd rfl rfl (begun_ok 2 ep sq (by omega) (by omega) (by omega)) ?_)
 rintro ⟨a1, c1⟩ -
 generalize begunL 2 ep sq = B at *
 refine w ?_; repeat (refine zj fun _ => ?_; refine w ?_)
 refine VO.re 31 (.int .u64 ct) rfl (by rw [wrap64_of (by omega)]) ?_
 (refine zq ?_; refine zd rfl rfl (put_ok B ct 4 (by omega) (by omega) (by omega)) ?_)
 rintro ⟨a2, c2⟩ -
 refine w ?_; repeat (refine zj fun _ => ?_; refine w ?_)
 refine VO.re 36 (.int .u64 sm) rfl (by show Value.int .u64 (IntKind.u64.wrap (sm : Int)) = _; rw [wrap64_of (by omega)]) ?_
 (refine zq ?_; refine zd rfl rfl (put_ok (B ++ lowBytes ct 4) sm 4 (by simp [lowBytes_length]; omega) (by omega) (by omega)) ?_)
 rintro ⟨a3, c3⟩ -
 refine w ?_; repeat (refine zj fun _ => ?_; refine w ?_)
 (refine zq ?_; refine zd rfl rfl (ended_ok (B ++ lowBytes ct 4 ++ lowBytes sm 4) (by simp [lowBytes_length]; omega)) ?_)
 rintro ⟨a8, c8⟩ -
 refine w ?_; repeat (refine zj fun _ => ?_; refine w ?_)
 simp only [List.append_assoc]
 exact VE.done (a8, c8) rfl trivial rfl Ent.re
theorem rencs_ok (h : ChkD) (hf : h.fit) :
  Does W Tryz.prog 104 [.agg h.cells.toArray] R (β := Option Addr × Nat) (fun _ => True) (fun x => .tuple #[.slice x.1 h.enc.2.length x.2, .int .i64 h.enc.1]) (fun x => OwnB x h.enc.2 :: R) := by
 have hiff := chk_iff h
 (refine Does.enter Tryz.func104 Tryz.ntmps104 rfl rfl ?_)
 refine w ?_; repeat (refine zj fun _ => ?_; refine w ?_)
 (refine zq ?_; refine zy rfl rfl (numbers_ok h.epoch h.seq) ?_; intro _ _)
 refine w ?_; repeat (refine zj fun _ => ?_; refine w ?_)
 refine zg ?_ ?_ <;> intro hb
 ·
  have hb : ¬ cntOk h.epoch h.seq := by simpa using hb
  have hbad := chk_bad (h := h) (fun g => hb g.1)
  refine w ?_; repeat (refine zj fun _ => ?_; refine w ?_)
  refine VE.done (none, 0) rfl trivial (by rw [hbad]; rfl) ?_
  rw [hbad]; exact Ent.trans (Ent.re (L := R)) (fun w hw => hw.ownNil _ _)
 have h0 : cntOk h.epoch h.seq := by simpa using hb
 have h0 := (cnt_iff _ _).1 h0
 refine w ?_; repeat (refine zj fun _ => ?_; refine w ?_)
 iterate 1
  refine zg ?_ ?_ <;> intro hb
  ·
   replace hb := of_decide_eq_true hb
   have hbad := chk_bad (h := h) (fun g => by have := hiff.1 g; omega)
   refine w ?_; repeat (refine zj fun _ => ?_; refine w ?_)
   refine VE.done (none, 0) rfl trivial (by rw [hbad]; rfl) ?_
   rw [hbad]; exact Ent.trans (Ent.re (L := R)) (fun w hw => hw.ownNil _ _)
  replace hb := of_decide_eq_false hb
  refine w ?_; repeat (refine zj fun _ => ?_; refine w ?_)
 refine zk ?_ ?_ <;> intro hc
 ·
  replace hc := of_decide_eq_true hc
  have hbad := chk_bad (h := h) (fun g => by have := hiff.1 g; omega)
  refine w ?_; repeat (refine zj fun _ => ?_; refine w ?_)
  refine VE.done (none, 0) rfl trivial (by rw [hbad]; rfl) ?_
  rw [hbad]; exact Ent.trans (Ent.re (L := R)) (fun w hw => hw.ownNil _ _)
 replace hc := of_decide_eq_false hc
 have hg : h.good := hiff.2 (by omega)
 have he := chk_ok hg
 obtain ⟨ep, sq, ct⟩ := h
 dsimp only at *
 obtain ⟨ct, rfl⟩ := Int.eq_ofNat_of_zero_le (show 0 <= ct by omega)
 rw [he]
 have hl0 := begunL_length 3 ep sq
 dsimp only
 simp only [ChkD.rest, sectF, sectB, flds, List.flatMap_cons, List.flatMap_nil, List.append_nil, Int.toNat_natCast]
 refine w ?_; repeat (refine zj fun _ => ?_; refine w ?_)
 (refine zq ?_; refine zd rfl rfl (begun_ok 3 ep sq (by omega) (by omega) (by omega)) ?_)
 rintro ⟨a1, c1⟩ -
 generalize begunL 3 ep sq = B at *
 refine w ?_; repeat (refine zj fun _ => ?_; refine w ?_)
 refine VO.re 31 (.int .u64 ct) rfl (by rw [wrap64_of (by omega)]) ?_
 (refine zq ?_; refine zd rfl rfl (put_ok B ct 4 (by omega) (by omega) (by omega)) ?_)
 rintro ⟨a2, c2⟩ -
 refine w ?_; repeat (refine zj fun _ => ?_; refine w ?_)
 (refine zq ?_; refine zd rfl rfl (ended_ok (B ++ lowBytes ct 4) (by simp [lowBytes_length]; omega)) ?_)
 rintro ⟨a8, c8⟩ -
 refine w ?_; repeat (refine zj fun _ => ?_; refine w ?_)
 simp only [List.append_assoc]
 exact VE.done (a8, c8) rfl trivial rfl Ent.re
def HdrD.parse2 (b : List UInt8) : HdrD := ⟨numAt b 8 8, numAt b 16 8, numAt b 24 4, numAt b 28 4, numAt b 32 4, numAt b 36 4, decide (b.getD 40 0 = 1), numAt b 44 4⟩
theorem numAt_lt (b : List UInt8) (a w : Nat) : numAt b a w < 256 ^ w := by
 unfold numAt
 refine Nat.lt_of_lt_of_le (leVal_lt _) (Nat.pow_le_pow_right (by decide) ?_)
 rw [List.length_take]; exact Nat.min_le_left _ _
theorem numAt_low (b : List UInt8) (a w : Nat) (h : a < b.length) : (b.getD a 0).toNat = numAt b a (w + 1) % 256 := by
 unfold numAt
 rw [List.drop_eq_getElem_cons h, List.take_succ_cons, leVal]
 have := (b[a]).toNat_lt
 simp only [List.getD, List.getElem?_eq_getElem h, Option.getD_some]
 omega
theorem hdr_esc {b : List UInt8} {h : HdrD} (hg : h.good) (he : h.enc.2 = b) : numAt b 40 4 = bitN h.escaped := by
 rw [hdr_ok hg] at he
 rw [<- he]
 exact sectF_num 1 h.epoch h.seq h.rest (hdr_sum h) 8 (bitN h.escaped, 4) rfl (by cases h.escaped <;> decide)
theorem bitN_dec (b : Bool) : decide (bitN b = 1) = b := by cases b <;> rfl
theorem hdr_dec2 {b : List UInt8} (hb : b.length = 128) (hl : looksM b 1 = 0) : HdrD.dec b = if (HdrD.parse2 b).good /\ (HdrD.parse2 b).enc.2 = b then (0, HdrD.parse2 b) else (80, zeroH) := by
 have k40 := numAt_low b 40 3 (by omega)
 have e1 : (HdrD.parse2 b).good /\ (HdrD.parse2 b).enc.2 = b -> HdrD.parse b = HdrD.parse2 b := by
  rintro ⟨g, e⟩
  have h := hdr_esc g e
  unfold HdrD.parse HdrD.parse2 at *
  rw [h, bitN_dec]
 have e2 : (HdrD.parse b).good /\ (HdrD.parse b).enc.2 = b -> HdrD.parse b = HdrD.parse2 b := by
  rintro ⟨g, e⟩
  have h := hdr_esc g e
  unfold HdrD.parse HdrD.parse2 at *
  congr 1
  dsimp only at h
  rw [decide_eq_decide]
  constructor
  ·
   intro q
   have : (b.getD 40 0).toNat = 1 := by rw [k40, show (3 + 1) = 4 from rfl, q]
   exact UInt8.toNat_inj.1 this
  ·
   intro q
   rw [q] at k40
   have : numAt b 40 4 = 0 \/ numAt b 40 4 = 1 := by rw [h]; unfold bitN; split <;> simp
   have k41 : (1 : UInt8).toNat = 1 := rfl
   rw [k41] at k40
   change 1 = numAt b 40 4 % 256 at k40
   omega
 unfold HdrD.dec
 rw [if_neg (by rw [hl]; simp)]
 by_cases h1 : (HdrD.parse2 b).good /\ (HdrD.parse2 b).enc.2 = b
 · rw [if_pos h1, e1 h1, if_pos h1]
 ·
  rw [if_neg h1]
  by_cases h2 : (HdrD.parse b).good /\ (HdrD.parse b).enc.2 = b
  · exact absurd (by rw [<- e2 h2]; exact h2) h1
  · rw [if_neg h2]
theorem cmt_dec2 {b : List UInt8} (hl : looksM b 2 = 0) : CmtD.dec b = if (CmtD.parse b).good /\ (CmtD.parse b).enc.2 = b then (0, CmtD.parse b) else (80, zeroC) := by
 unfold CmtD.dec; rw [if_neg (by rw [hl]; simp)]
theorem chk_dec2 {b : List UInt8} (hl : looksM b 3 = 0) : ChkD.dec b = if (ChkD.parse b).good /\ (ChkD.parse b).enc.2 = b then (0, ChkD.parse b) else (80, zeroK) := by
 unfold ChkD.dec; rw [if_neg (by rw [hl]; simp)]
theorem hdr_decB {b : List UInt8} (hl : looksM b 1 ≠ 0) : HdrD.dec b = (looksM b 1, zeroH) := by unfold HdrD.dec; rw [if_pos hl]
theorem cmt_decB {b : List UInt8} (hl : looksM b 2 ≠ 0) : CmtD.dec b = (looksM b 2, zeroC) := by unfold CmtD.dec; rw [if_pos hl]
theorem chk_decB {b : List UInt8} (hl : looksM b 3 ≠ 0) : ChkD.dec b = (looksM b 3, zeroK) := by unfold ChkD.dec; rw [if_pos hl]
theorem hdr_one (h : HdrD) : ∀ u ∈ h.cells, u.oneCell' = true := by
 intro u hu; simp only [HdrD.cells, List.mem_cons, List.not_mem_nil, or_false] at hu
 rcases hu with h | h | h | h | h | h | h | h <;> subst h <;> rfl
theorem cmt_one (h : CmtD) : ∀ u ∈ h.cells, u.oneCell' = true := by
 intro u hu; simp only [CmtD.cells, List.mem_cons, List.not_mem_nil, or_false] at hu
 rcases hu with h | h | h | h <;> subst h <;> rfl
theorem chk_one (h : ChkD) : ∀ u ∈ h.cells, u.oneCell' = true := by
 intro u hu; simp only [ChkD.cells, List.mem_cons, List.not_mem_nil, or_false] at hu
 rcases hu with h | h | h <;> subst h <;> rfl
theorem hdr_fit2 (b : List UInt8) : (HdrD.parse2 b).fit := by
 have h := numAt_lt b
 refine ⟨h 8 8, h 16 8, ?_, ?_, ?_, ?_, h 44 4⟩
 · have := h 24 4; simp only [HdrD.parse2]; omega
 · have := h 28 4; simp only [HdrD.parse2]; omega
 · have := h 32 4; simp only [HdrD.parse2]; omega
 · have := h 36 4; simp only [HdrD.parse2]; omega
theorem hdr_fit (b : List UInt8) : (HdrD.parse b).fit := by
 have h := numAt_lt b
 refine ⟨h 8 8, h 16 8, ?_, ?_, ?_, ?_, h 44 4⟩
 · have := h 24 4; simp only [HdrD.parse]; omega
 · have := h 28 4; simp only [HdrD.parse]; omega
 · have := h 32 4; simp only [HdrD.parse]; omega
 · have := h 36 4; simp only [HdrD.parse]; omega
theorem cmt_fit (b : List UInt8) : (CmtD.parse b).fit := by
 have h := numAt_lt b
 refine ⟨h 8 8, h 16 8, ?_, h 28 4⟩
 have := h 24 4; simp only [CmtD.parse]; omega
theorem chk_fit (b : List UInt8) : (ChkD.parse b).fit := by
 have h := numAt_lt b
 refine ⟨h 8 8, h 16 8, ?_⟩
 have := h 24 4; simp only [ChkD.parse]; omega
theorem looks_len {b : List UInt8} {k : UInt8} (h : looksM b k = 0) : b.length = 128 := by
 unfold looksM at h; split at h
 · cases h
 · omega
theorem enc_bad {h : HdrD} : h.enc.1 ≠ 0 ↔ ¬ h.good := by unfold HdrD.enc; split <;> simp_all
theorem encc_bad {h : CmtD} : h.enc.1 ≠ 0 ↔ ¬ h.good := by unfold CmtD.enc; split <;> simp_all
theorem encs_bad {h : ChkD} : h.enc.1 ≠ 0 ↔ ¬ h.good := by unfold ChkD.enc; split <;> simp_all
theorem u8_one (c : UInt8) : ((c.toNat : Int) == 1) = decide (c = 1) := by
 rw [Bool.eq_iff_iff]
 simp only [beq_iff_eq, decide_eq_true_eq]
 constructor
 · intro h; exact UInt8.toNat_inj.1 (by show c.toNat = 1; omega)
 · intro h; subst h; rfl
theorem own_rds {H : List SProp} {x : Option Addr × Nat} {l : List UInt8} (hn : x.1 = none -> l.length = 0) (m : OwnB x l ∈ H) : Rds W H 1 x.1 l.length (bytes l) := Rds.own (bytes_one _) m (by simp) hn
theorem rdech_ok {ao : Option Addr} {cap : Nat} {l : List UInt8} (hr : Rds W R 1 ao l.length (bytes l)) (hcap : l.length <= cap) :
  Does1 W Tryz.prog 214 [.slice ao l.length cap] R (.tuple #[.agg (HdrD.dec l).2.cells.toArray, .int .i64 (HdrD.dec l).1]) R := by
 (refine Does.enter Tryz.func214 Tryz.ntmps214 rfl rfl ?_)
 refine w ?_
 refine zq ?_; refine OpV.allocS sb_233 rfl ?_; intro nz
 refine w ?_
 have hr1 := hr.ent (H := Row nz 233 zeroH.cells :: R) (Ent.drop Ent.refl)
 (refine zq ?_; refine zy rfl rfl (rlooks_ok hr1 hcap 1) ?_)
 intro _ _
 refine w ?_
 refine zk ?_ ?_ <;> intro hc
 ·
  have hl : looksM l 1 ≠ 0 := by simpa using hc
  rw [hdr_decB hl]
  refine w ?_
  (apply VO.pure rfl rfl; apply PureAt.build sb_233 (pv := []) rfl; rfl; rfl)
  refine w ?_
  refine zq ?_
  refine OpV.stA (vs := zeroH.cells) tab_ok rfl rfl rfl rfl (hdr_one _) zh (by simp) ?_
  refine w ?_
  exact VE.results2 (.inl rfl) () rfl (ResIs.agg (vs := zeroH.cells) tab_ok rfl rfl zm rfl rfl) (.tmp rfl) trivial rfl (Ent.re (L := R))
 have hl : looksM l 1 = 0 := by simpa using hc
 have hlen := looks_len hl
 rw [hdr_dec2 hlen hl]
 obtain ⟨a, rfl⟩ : ∃ a, ao = some a := by cases ao with | none => have := hr.nil rfl; omega | some a => exact ⟨a, rfl⟩
 have hb1 := hr1
 have hlt := numAt_lt l
 refine w ?_
 refine VC.drawnX [1, 3, 5, 8, 11, 14, 21, 24] 25 24 [0, 2, 4, 7, 10, 13, 16, 17, 18, 19, 20, 1, 3, 5, 6, 8, 9, 11, 12, 14, 15, 21, 22, 23, 24, 25] _ 5 (fun b => Row b 233 zeroH.cells) (fun b => .pointer (some ⟨b, 0, none⟩)) rfl (by kernel_rfl) (by kernel_rfl) Ent.refl ?_
 (repeat (apply VX.take rfl rfl rfl rfl; (exact zp); rfl; rfl; rfl))
 refine VX.re 33 (.bool (HdrD.parse2 l).escaped) rfl ?_ rfl rfl ?_
 ·
  show Value.bool _ = Value.bool (decide (l.getD 40 0 = 1))
  rw [show l.getD 40 0 = l[40] by simp [List.getD, show 40 < l.length by omega], u8_one]
 (refine VX.call rfl rfl rfl rfl rfl rfl (fun _ _ => by simp) (fun L hL => get_ok (hr1.ent hL) 8 8 (by omega) (by decide) (by omega)) rfl (FloatX.alloc sb_233 rfl) Ent.refl rfl rfl rfl ?_)
 (refine VX.call rfl rfl rfl rfl rfl rfl (fun _ _ => by simp) (fun L hL => get_ok (hr1.ent hL) 16 8 (by omega) (by decide) (by omega)) rfl (FloatX.alloc sb_233 rfl) Ent.refl rfl rfl rfl ?_)
 (refine VX.call rfl rfl rfl rfl rfl rfl (fun _ _ => by simp) (fun L hL => get_ok (hr1.ent hL) 24 4 (by omega) (by decide) (by omega)) rfl (FloatX.alloc sb_233 rfl) Ent.refl rfl rfl rfl ?_)
 (repeat (apply VX.take rfl rfl rfl rfl; (exact zp); rfl; rfl; rfl))
 (refine VX.call rfl rfl rfl rfl rfl rfl (fun _ _ => by simp) (fun L hL => get_ok (hr1.ent hL) 28 4 (by omega) (by decide) (by omega)) rfl (FloatX.alloc sb_233 rfl) Ent.refl rfl rfl rfl ?_)
 (repeat (apply VX.take rfl rfl rfl rfl; (exact zp); rfl; rfl; rfl))
 (refine VX.call rfl rfl rfl rfl rfl rfl (fun _ _ => by simp) (fun L hL => get_ok (hr1.ent hL) 32 4 (by omega) (by decide) (by omega)) rfl (FloatX.alloc sb_233 rfl) Ent.refl rfl rfl rfl ?_)
 (repeat (apply VX.take rfl rfl rfl rfl; (exact zp); rfl; rfl; rfl))
 (refine VX.call rfl rfl rfl rfl rfl rfl (fun _ _ => by simp) (fun L hL => get_ok (hr1.ent hL) 36 4 (by omega) (by decide) (by omega)) rfl (FloatX.alloc sb_233 rfl) Ent.refl rfl rfl rfl ?_)
 (repeat (apply VX.take rfl rfl rfl rfl; (exact zp); rfl; rfl; rfl))
 (refine VX.call rfl rfl rfl rfl rfl rfl (fun _ _ => by simp) (fun L hL => get_ok (hr1.ent hL) 44 4 (by omega) (by decide) (by omega)) rfl (FloatX.alloc sb_233 rfl) Ent.refl rfl rfl rfl ?_)
 (repeat (apply VX.take rfl rfl rfl rfl; (exact zp); rfl; rfl; rfl))
 refine VX.re 20 (.int .i64 (HdrD.parse2 l).index) rfl (by rw [i64_nat (hlt 24 4)]; rfl) rfl rfl ?_
 refine VX.re 23 (.int .i64 (HdrD.parse2 l).count) rfl (by rw [i64_nat (hlt 28 4)]; rfl) rfl rfl ?_
 refine VX.re 26 (.int .i64 (HdrD.parse2 l).member) rfl (by rw [i64_nat (hlt 32 4)]; rfl) rfl rfl ?_
 refine VX.re 29 (.int .i64 (HdrD.parse2 l).row) rfl (by rw [i64_nat (hlt 36 4)]; rfl) rfl rfl ?_
 refine VX.re 36 (.int .u32 (HdrD.parse2 l).sum) rfl (by rw [u32_nat (hlt 44 4)]; rfl) rfl rfl ?_
 (apply VX.take rfl rfl rfl rfl; apply PureAt.build sb_233 rfl; (simp [buildX, setL, Value.cells]; rfl); rfl; rfl; rfl)
 refine VX.float rfl rfl (FloatX.alloc sb_233 rfl) Ent.refl ?_
 intro nh
 refine zq ?_
 refine OpV.stA (vs := (HdrD.parse2 l).cells) tab_ok rfl rfl rfl rfl (hdr_one _) zh (by simp) ?_
 refine VD.ent (Ent.re (L := Row nh 233 (HdrD.parse2 l).cells :: Row nz 233 zeroH.cells :: R)) ?_
 refine w ?_
 (refine zq ?_; refine zd rfl rfl (rench_ok (HdrD.parse2 l) (hdr_fit2 l)) ?_)
 rintro ⟨a1, c1⟩ -
 refine VO.know (p := a1 = none -> (HdrD.parse2 l).enc.2.length = 0) (fun w hw => hw.ownNone (.head _)) ?_
 intro hn
 refine w ?_
 refine zg ?_ ?_ <;> intro hb
 ·
  have hb : ¬ (HdrD.parse2 l).good := enc_bad.1 (by simpa using hb)
  rw [if_neg (fun h => hb h.1)]
  refine w ?_
  (apply VO.pure rfl rfl; apply PureAt.build sb_233 (pv := []) rfl; rfl; rfl)
  refine w ?_
  refine zq ?_
  refine OpV.stA (vs := zeroH.cells) tab_ok rfl rfl rfl rfl (hdr_one _) zh (by simp) ?_
  refine w ?_
  exact VE.results2 (.inl rfl) () rfl (ResIs.agg (vs := zeroH.cells) tab_ok rfl rfl zm rfl rfl) (.tmp rfl) trivial rfl (Ent.re (L := R))
 have hg : (HdrD.parse2 l).good := by
  have hb := hb
  by_cases hg : (HdrD.parse2 l).good
  · exact hg
  · have := enc_bad.2 hg; simp at hb; exact absurd hb this
 refine w ?_
 ((first | apply VO.pure rfl rfl | apply VQ.pure rfl rfl | apply VD.take rfl rfl rfl | (refine VD.end rfl rfl rfl ?_; apply OpV.pure)); exact PureAt.toStr (l := (HdrD.parse2 l).enc.2) tab_ok rfl rfl rfl rfl (own_rds hn (.head _)) rfl; rfl)
 refine w ?_
 ((first | apply VO.pure rfl rfl | apply VQ.pure rfl rfl | apply VD.take rfl rfl rfl | (refine VD.end rfl rfl rfl ?_; apply OpV.pure)); exact PureAt.toStr (l := l) tab_ok rfl rfl rfl rfl (hr.ent (Ent.drop (Ent.drop (Ent.drop Ent.refl)))) rfl; rfl)
 ((first | apply VO.pure rfl rfl | apply VQ.pure rfl rfl | apply VD.take rfl rfl rfl | (refine VD.end rfl rfl rfl ?_; apply OpV.pure)); exact PureAt.strEq (b := l) tab_ok rfl rfl rfl rfl; rfl)
 refine w ?_
 refine zk ?_ ?_ <;> intro hc
 ·
  have hne : ¬ (HdrD.parse2 l).enc.2 = l := by simpa using hc
  rw [if_neg (fun h => hne h.2)]
  refine w ?_
  (apply VO.pure rfl rfl; apply PureAt.build sb_233 (pv := []) rfl; rfl; rfl)
  refine w ?_
  refine zq ?_
  refine OpV.stA (vs := zeroH.cells) tab_ok rfl rfl rfl rfl (hdr_one _) zh (by simp) ?_
  refine w ?_
  exact VE.results2 (.inl rfl) () rfl (ResIs.agg (vs := zeroH.cells) tab_ok rfl rfl zm rfl rfl) (.tmp rfl) trivial rfl (Ent.re (L := R))
 ·
  have he : (HdrD.parse2 l).enc.2 = l := by simpa using hc
  rw [if_pos ⟨hg, he⟩]
  refine w ?_
  refine zq ?_
  refine OpV.stA (vs := (HdrD.parse2 l).cells) tab_ok rfl rfl rfl rfl (hdr_one _) zh (by simp) ?_
  refine w ?_
  exact VE.results2 (.inl rfl) () rfl (ResIs.agg (vs := (HdrD.parse2 l).cells) tab_ok rfl rfl zm rfl rfl) (.tmp rfl) trivial rfl (Ent.re (L := R))
theorem rdecc_ok {ao : Option Addr} {cap : Nat} {l : List UInt8} (hr : Rds W R 1 ao l.length (bytes l)) (hcap : l.length <= cap) :
  Does1 W Tryz.prog 217 [.slice ao l.length cap] R (.tuple #[.agg (CmtD.dec l).2.cells.toArray, .int .i64 (CmtD.dec l).1]) R := by
 (refine Does.enter Tryz.func217 Tryz.ntmps217 rfl rfl ?_)
 refine w ?_
 refine zq ?_; refine OpV.allocS sb_238 rfl ?_; intro nz
 refine w ?_
 have hr1 := hr.ent (H := Row nz 238 zeroC.cells :: R) (Ent.drop Ent.refl)
 (refine zq ?_; refine zy rfl rfl (rlooks_ok hr1 hcap 2) ?_)
 intro _ _
 refine w ?_
 refine zk ?_ ?_ <;> intro hc
 ·
  have hl : looksM l 2 ≠ 0 := by simpa using hc
  rw [cmt_decB hl]
  refine w ?_
  (apply VO.pure rfl rfl; apply PureAt.build sb_238 (pv := []) rfl; rfl; rfl)
  refine w ?_
  refine zq ?_
  refine OpV.stA (vs := zeroC.cells) tab_ok rfl rfl rfl rfl (cmt_one _) zh (by simp) ?_
  refine w ?_
  exact VE.results2 (.inl rfl) () rfl (ResIs.agg (vs := zeroC.cells) tab_ok rfl rfl zm rfl rfl) (.tmp rfl) trivial rfl (Ent.re (L := R))
 have hl : looksM l 2 = 0 := by simpa using hc
 have hlen := looks_len hl
 rw [cmt_dec2 hl]
 have hlt := numAt_lt l
 refine w ?_
 (refine zq ?_; refine zy rfl rfl (get_ok hr1 8 8 (by omega) (by decide) (by omega)) ?_)
 intro _ _
 refine w ?_
 (refine zq ?_; refine zy rfl rfl (get_ok hr1 16 8 (by omega) (by decide) (by omega)) ?_)
 intro _ _
 refine w ?_
 (refine zq ?_; refine zy rfl rfl (get_ok hr1 24 4 (by omega) (by decide) (by omega)) ?_)
 intro _ _
 refine w ?_
 (refine zq ?_; refine zy rfl rfl (get_ok hr1 28 4 (by omega) (by decide) (by omega)) ?_)
 intro _ _
 refine w ?_
 refine VO.re 20 (.int .i64 (CmtD.parse l).count) rfl (by rw [i64_nat (hlt 24 4)]; rfl) ?_
 refine VO.re 23 (.int .u32 (CmtD.parse l).sum) rfl (by rw [u32_nat (hlt 28 4)]; rfl) ?_
 (apply VO.pure rfl rfl; apply PureAt.build sb_238 rfl; (simp [buildX, setL, Value.cells]; rfl); rfl)
 refine w ?_
 refine zq ?_; refine OpV.allocS sb_238 rfl ?_; intro nh
 refine zq ?_
 refine OpV.stA (vs := (CmtD.parse l).cells) tab_ok rfl rfl rfl rfl (cmt_one _) zh (by simp) ?_
 refine VO.ent (Ent.re (L := Row nh 238 (CmtD.parse l).cells :: Row nz 238 zeroC.cells :: R)) ?_
 refine w ?_
 (refine zq ?_; refine zd rfl rfl (rencc_ok (CmtD.parse l) (cmt_fit l)) ?_)
 rintro ⟨a1, c1⟩ -
 refine VO.know (p := a1 = none -> (CmtD.parse l).enc.2.length = 0) (fun w hw => hw.ownNone (.head _)) ?_
 intro hn
 refine w ?_
 refine zg ?_ ?_ <;> intro hb
 ·
  have hb : ¬ (CmtD.parse l).good := encc_bad.1 (by simpa using hb)
  rw [if_neg (fun h => hb h.1)]
  refine w ?_
  (apply VO.pure rfl rfl; apply PureAt.build sb_238 (pv := []) rfl; rfl; rfl)
  refine w ?_
  refine zq ?_
  refine OpV.stA (vs := zeroC.cells) tab_ok rfl rfl rfl rfl (cmt_one _) zh (by simp) ?_
  refine w ?_
  exact VE.results2 (.inl rfl) () rfl (ResIs.agg (vs := zeroC.cells) tab_ok rfl rfl zm rfl rfl) (.tmp rfl) trivial rfl (Ent.re (L := R))
 have hg : (CmtD.parse l).good := by
  have hb := hb
  by_cases hg : (CmtD.parse l).good
  · exact hg
  · have := encc_bad.2 hg; simp at hb; exact absurd hb this
 refine w ?_
 refine VO.pure rfl rfl (PureAt.toStr (l := (CmtD.parse l).enc.2) tab_ok rfl rfl rfl rfl (own_rds hn (.head _)) rfl) rfl ?_
 refine w ?_
 refine VO.pure rfl rfl (PureAt.toStr (l := l) tab_ok rfl rfl rfl rfl (hr.ent (Ent.drop (Ent.drop (Ent.drop Ent.refl)))) rfl) rfl ?_
 refine VO.pure rfl rfl (PureAt.strEq (b := l) tab_ok rfl rfl rfl rfl) rfl ?_
 refine w ?_
 refine zk ?_ ?_ <;> intro hc
 ·
  have hne : ¬ (CmtD.parse l).enc.2 = l := by simpa using hc
  rw [if_neg (fun h => hne h.2)]
  refine w ?_
  (apply VO.pure rfl rfl; apply PureAt.build sb_238 (pv := []) rfl; rfl; rfl)
  refine w ?_
  refine zq ?_
  refine OpV.stA (vs := zeroC.cells) tab_ok rfl rfl rfl rfl (cmt_one _) zh (by simp) ?_
  refine w ?_
  exact VE.results2 (.inl rfl) () rfl (ResIs.agg (vs := zeroC.cells) tab_ok rfl rfl zm rfl rfl) (.tmp rfl) trivial rfl (Ent.re (L := R))
 ·
  have he : (CmtD.parse l).enc.2 = l := by simpa using hc
  rw [if_pos ⟨hg, he⟩]
  refine w ?_
  refine zq ?_
  refine OpV.stA (vs := (CmtD.parse l).cells) tab_ok rfl rfl rfl rfl (cmt_one _) zh (by simp) ?_
  refine w ?_
  exact VE.results2 (.inl rfl) () rfl (ResIs.agg (vs := (CmtD.parse l).cells) tab_ok rfl rfl zm rfl rfl) (.tmp rfl) trivial rfl (Ent.re (L := R))
theorem rdecs_ok {ao : Option Addr} {cap : Nat} {l : List UInt8} (hr : Rds W R 1 ao l.length (bytes l)) (hcap : l.length <= cap) :
  Does1 W Tryz.prog 131 [.slice ao l.length cap] R (.tuple #[.agg (ChkD.dec l).2.cells.toArray, .int .i64 (ChkD.dec l).1]) R := by
 (refine Does.enter Tryz.func131 Tryz.ntmps131 rfl rfl ?_)
 refine w ?_
 refine zq ?_; refine OpV.allocS sb_98 rfl ?_; intro nz
 refine w ?_
 have hr1 := hr.ent (H := Row nz 98 zeroK.cells :: R) (Ent.drop Ent.refl)
 (refine zq ?_; refine zy rfl rfl (rlooks_ok hr1 hcap 3) ?_)
 intro _ _
 refine w ?_
 refine zk ?_ ?_ <;> intro hc
 ·
  have hl : looksM l 3 ≠ 0 := by simpa using hc
  rw [chk_decB hl]
  refine w ?_
  (apply VO.pure rfl rfl; apply PureAt.build sb_98 (pv := []) rfl; rfl; rfl)
  refine w ?_
  refine zq ?_
  refine OpV.stA (vs := zeroK.cells) tab_ok rfl rfl rfl rfl (chk_one _) zh (by simp) ?_
  refine w ?_
  exact VE.results2 (.inl rfl) () rfl (ResIs.agg (vs := zeroK.cells) tab_ok rfl rfl zm rfl rfl) (.tmp rfl) trivial rfl (Ent.re (L := R))
 have hl : looksM l 3 = 0 := by simpa using hc
 have hlen := looks_len hl
 rw [chk_dec2 hl]
 have hlt := numAt_lt l
 refine w ?_
 (refine zq ?_; refine zy rfl rfl (get_ok hr1 8 8 (by omega) (by decide) (by omega)) ?_)
 intro _ _
 refine w ?_
 (refine zq ?_; refine zy rfl rfl (get_ok hr1 16 8 (by omega) (by decide) (by omega)) ?_)
 intro _ _
 refine w ?_
 (refine zq ?_; refine zy rfl rfl (get_ok hr1 24 4 (by omega) (by decide) (by omega)) ?_)
 intro _ _
 refine w ?_
 refine VO.re 20 (.int .i64 (ChkD.parse l).tail) rfl (by rw [i64_nat (hlt 24 4)]; rfl) ?_
 (apply VO.pure rfl rfl; apply PureAt.build sb_98 rfl; (simp [buildX, setL, Value.cells]; rfl); rfl)
 refine w ?_
 refine zq ?_; refine OpV.allocS sb_98 rfl ?_; intro nh
 refine zq ?_
 refine OpV.stA (vs := (ChkD.parse l).cells) tab_ok rfl rfl rfl rfl (chk_one _) zh (by simp) ?_
 refine VO.ent (Ent.re (L := Row nh 98 (ChkD.parse l).cells :: Row nz 98 zeroK.cells :: R)) ?_
 refine w ?_
 (refine zq ?_; refine zd rfl rfl (rencs_ok (ChkD.parse l) (chk_fit l)) ?_)
 rintro ⟨a1, c1⟩ -
 refine VO.know (p := a1 = none -> (ChkD.parse l).enc.2.length = 0) (fun w hw => hw.ownNone (.head _)) ?_
 intro hn
 refine w ?_
 refine zg ?_ ?_ <;> intro hb
 ·
  have hb : ¬ (ChkD.parse l).good := encs_bad.1 (by simpa using hb)
  rw [if_neg (fun h => hb h.1)]
  refine w ?_
  (apply VO.pure rfl rfl; apply PureAt.build sb_98 (pv := []) rfl; rfl; rfl)
  refine w ?_
  refine zq ?_
  refine OpV.stA (vs := zeroK.cells) tab_ok rfl rfl rfl rfl (chk_one _) zh (by simp) ?_
  refine w ?_
  exact VE.results2 (.inl rfl) () rfl (ResIs.agg (vs := zeroK.cells) tab_ok rfl rfl zm rfl rfl) (.tmp rfl) trivial rfl (Ent.re (L := R))
 have hg : (ChkD.parse l).good := by
  have hb := hb
  by_cases hg : (ChkD.parse l).good
  · exact hg
  · have := encs_bad.2 hg; simp at hb; exact absurd hb this
 refine w ?_
 refine VO.pure rfl rfl (PureAt.toStr (l := (ChkD.parse l).enc.2) tab_ok rfl rfl rfl rfl (own_rds hn (.head _)) rfl) rfl ?_
 refine w ?_
 refine VO.pure rfl rfl (PureAt.toStr (l := l) tab_ok rfl rfl rfl rfl (hr.ent (Ent.drop (Ent.drop (Ent.drop Ent.refl)))) rfl) rfl ?_
 refine VO.pure rfl rfl (PureAt.strEq (b := l) tab_ok rfl rfl rfl rfl) rfl ?_
 refine w ?_
 refine zk ?_ ?_ <;> intro hc
 ·
  have hne : ¬ (ChkD.parse l).enc.2 = l := by simpa using hc
  rw [if_neg (fun h => hne h.2)]
  refine w ?_
  (apply VO.pure rfl rfl; apply PureAt.build sb_98 (pv := []) rfl; rfl; rfl)
  refine w ?_
  refine zq ?_
  refine OpV.stA (vs := zeroK.cells) tab_ok rfl rfl rfl rfl (chk_one _) zh (by simp) ?_
  refine w ?_
  exact VE.results2 (.inl rfl) () rfl (ResIs.agg (vs := zeroK.cells) tab_ok rfl rfl zm rfl rfl) (.tmp rfl) trivial rfl (Ent.re (L := R))
 ·
  have he : (ChkD.parse l).enc.2 = l := by simpa using hc
  rw [if_pos ⟨hg, he⟩]
  refine w ?_
  refine zq ?_
  refine OpV.stA (vs := (ChkD.parse l).cells) tab_ok rfl rfl rfl rfl (chk_one _) zh (by simp) ?_
  refine w ?_
  exact VE.results2 (.inl rfl) () rfl (ResIs.agg (vs := (ChkD.parse l).cells) tab_ok rfl rfl zm rfl rfl) (.tmp rfl) trivial rfl (Ent.re (L := R))
end Go.Proofs.YtdbhpikmagkopaaGreat
/-! Text Lp. -/
namespace Go.Proofs.YtdbhpikmagkopaaGreat
open Go.RowKit Go.Sl
def Pk.raw (k : Pk) (l : List UInt8) : Pk := if (k.room l.length).bad = 0 then { k with had := k.had ++ l } else k.room l.length
def Pk.fill (k : Pk) (n : Int) (c : UInt8) : Pk := if n <= 0 then k else if (k.room n).bad = 0 then { k with had := k.had ++ List.replicate n.toNat c } else k.room n
end Go.Proofs.YtdbhpikmagkopaaGreat
/-! Text Lq. -/
namespace Go.Proofs.YtdbhpikmagkopaaGreat
open Go.RowKit Go.Sl
structure OpD where
  kind : Int
  v : Nat
  n : Int
  ao : Option Addr
  cap : Nat
  b : List UInt8
abbrev OpD.cells (o : OpD) : List Value := [.int .i64 o.kind, .int .u64 o.v, .int .i64 o.n, .slice o.ao o.b.length o.cap]
structure OpD.wf (W : World) (o : OpD) : Prop where
  v : o.v < 2 ^ 64
  n1 : -9223372036854775808 <= o.n
  n2 : o.n <= 9223372036854775807
  b : RdsA W 1 o.ao o.b.length (bytes o.b)
  big : o.b.length <= 140737488355328
end Go.Proofs.YtdbhpikmagkopaaGreat
/-! Text Ls. -/
namespace Go.Proofs.YtdbhpikmagkopaaGreat
open Go.RowKit Go.Sl
def firstOdd (l : List UInt8) : Int := match l.findIdx? (· != 0) with
  | some j => j
  | none => -1
theorem Rk.number_bad {k : Rk} {n : Nat} (h : (k.short n).err ≠ 0) : k.number n = k.short n := by unfold Rk.number; rw [if_neg h]
theorem Rk.number_good {k : Rk} {n : Nat} (h : (k.short n).err = 0) : k.number n = { k with at_ := k.at_ + n } := by unfold Rk.number; rw [if_pos h]
def Rk.raw (k : Rk) (n : Int) : Rk := if n <= 0 then k else k.number n.toNat
def Rk.rawGot (k : Rk) (n : Int) : List UInt8 := if n <= 0 then [] else k.got n.toNat
theorem rraw_ok {W : World} {R : List SProp} (p : Nat) (k : Rk) (n : Int) :
  Does W Tryz.prog 199 [.pointer (some ⟨p, 0, none⟩), .int .i64 n] (ReaderR p k :: R) (β := Option Addr × Nat) (fun _ => True) (fun x => .slice x.1 (k.rawGot n).length x.2)
   (fun x => Own 5 1 (.slice x.1 (k.rawGot n).length x.2) (k.rawGot n).length (bytes (k.rawGot n)) :: ReaderR p (k.raw n) :: R) := by
 (refine Does.enter Tryz.func199 Tryz.ntmps199 rfl rfl ?_)
 refine VC.know (fun w => ReaderR.know) ?_
 intro hk
 have ⟨h1, h2⟩ := hk
 refine w ?_
 refine zk ?_ ?_ <;> intro hc
 ·
  have hn : n <= 0 := by simpa using hc
  refine w ?_
  refine VE.done (none, 0) rfl trivial (by simp [Rk.rawGot, hn]) ?_
  simp only [Rk.rawGot, Rk.raw, hn, if_true]
  exact fun w hw => hw.ownNil _ _
 ·
  have hn : ¬ n <= 0 := by simpa using hc
  obtain ⟨m, rfl⟩ : ∃ m : Nat, n = m := ⟨n.toNat, by omega⟩
  have e1 : k.rawGot m = k.got m := by unfold Rk.rawGot; rw [if_neg hn]; rfl
  have e2 : k.raw m = k.number m := by unfold Rk.raw; rw [if_neg hn]; rfl
  rw [e1, e2]
  refine w ?_
  by_cases hg : (k.short m).err = 0
  ·
   obtain ⟨hs, hb, hle⟩ := Rk.short_zero hg
   have hlen := Rk.got_length hg
   (refine zq ?_; refine zd rfl rfl (next_good p k m hg) ?_)
   rintro ⟨ao, cap⟩ hcap
   refine VO.know (fun w hw => hw.ownNone zm) ?_
   intro hnone
   have hr := got_rds (W := W) (H := ReaderO p k ao cap R) hk hg hcap hnone zm
   (refine zq ?_; refine zd rfl rfl (clone_ok hr (by omega)) ?_)
   rintro ⟨ao', cap'⟩ -
   refine w ?_
   refine VE.done (ao', cap') rfl trivial (by rw [hlen]) ?_
   rw [hlen, Rk.number_good hg]
   exact fun w hw => (ReaderR.shut (k := { k with at_ := k.at_ + m }) ⟨by simp only; omega, h2⟩ w (hw.reord (L := Row p 307 [.slice ao k.b.length cap, .int .i64 ((k.at_ + m : Nat) : Int), .int .u16 k.err, .int .i64 k.wh] :: Own 5 1 (.slice ao k.b.length cap) k.b.length (bytes k.b) :: Own 5 1 (.slice ao' m cap') m (bytes (k.got m)) :: R) (by (repeat first | exact .refl | (apply Reord.cons; focus repeat first | exact .head | apply Del.tail) | exact .nil | apply Reord.drop)))).swap
  ·
   have hgot : k.got m = [] := by unfold Rk.got; rw [if_neg hg]
   ((refine zq ?_; refine zd rfl rfl (next_bad p k m hg) ?_); intro _ _)
   refine zq ?_
   have hr : Rds W (ReaderR p (k.short m) :: R) 1 none 0 (bytes []) := ⟨rfl, by simp [bytes], fun _ => rfl, fun _ _ _ h => by cases h⟩
   refine zy rfl rfl (clone_ok hr (by decide)) ?_
   rintro ⟨ao', cap'⟩ -
   refine VO.obtain (fun w hw => by
    obtain ⟨x, h⟩ := ReaderR.open hw.swap
    exact ⟨x, h⟩) ?_
   rintro ⟨⟨ao, cap⟩, hk'⟩
   have ⟨h1', h2'⟩ := hk'
   refine w ?_
   refine VE.done (ao', cap') rfl trivial (by rw [hgot]; rfl) ?_
   rw [hgot, Rk.number_bad hg]
   exact fun w hw => (ReaderR.shut hk' w (hw.reord (by (repeat first | exact .refl | (apply Reord.cons; focus repeat first | exact .head | apply Del.tail) | exact .nil | apply Reord.drop)))).swap
def Rk.noughts (k : Rk) (n : Int) : Rk :=
  if n <= 0 then k else if (k.short n.toNat).err ≠ 0 then k.short n.toNat else
  if 0 <= firstOdd (k.got n.toNat) then { k with err := 12, wh := k.at_ + firstOdd (k.got n.toNat) } else { k with at_ := k.at_ + n.toNat }
end Go.Proofs.YtdbhpikmagkopaaGreat
/-! Text Ej. -/
namespace Go.Proofs.YtdbhpikmagkopaaGreat
open Go.RowKit Go.Sl
attribute [local irreducible] Own
variable {W : World} {R : List SProp}
theorem rawR_ok {ao : Option Addr} {cap n : Nat} {l : List UInt8} (p : Nat) (k : Pk) (hb : Rds W R 1 ao n (bytes l)) :
  Does1 W Tryz.prog 208 [.pointer (some ⟨p, 0, none⟩), .slice ao n cap] (PackerR p k :: R) (.tuple #[]) (PackerR p (k.raw l) :: R) := by
 have hl : l.length = n := by have := hb.len; simpa using this
 subst hl
 (refine Does.enter Tryz.func208 Tryz.ntmps208 rfl rfl ?_)
 refine VC.know (fun w => PackerR.know) ?_
 intro ⟨h1, h2, h3⟩
 refine w ?_
 ((refine zq ?_; refine zd rfl rfl (room_ok p k l.length) ?_); intro _ _)
 refine w ?_
 refine zk ?_ ?_ <;> intro hc
 ·
  have hr : (k.room l.length).bad = 0 := by simpa using hc
  obtain ⟨e1, e2, e3⟩ := Pk.room_zero hr
  rw [e1]
  refine VC.obtain (fun w => PackerR.open) ?_
  rintro ⟨⟨ao, cap⟩, -⟩
  refine w ?_
  refine zq ?_
  refine OpV.append st_65 rfl rfl zh (fun w hw => (hb.sees hw.tail.tail).src st_65.und) (by simp only [maxLen]; omega) (by omega) rfl ?_
  intro ao' cap'
  refine w ?_
  (refine VE.done1N rfl rfl ?_)
  rw [show k.raw l = { k with had := k.had ++ l } by unfold Pk.raw; rw [if_pos hr]]
  exact PackerR.shut' (k := { k with had := k.had ++ l }) ⟨by simp; omega, h2, h3⟩ (by simp) (by simp [bytes])
 ·
  have hr : ¬ (k.room l.length).bad = 0 := by simpa using hc
  refine w ?_
  (refine VE.done1N rfl rfl ?_)
  rw [show k.raw l = k.room l.length by unfold Pk.raw; rw [if_neg hr]]
  exact Ent.refl
theorem Pk.raw_good {k : Pk} {l : List UInt8} (h1 : k.bad = 0) (h2 : k.had.length + l.length <= k.size) : k.raw l = { k with had := k.had ++ l } := by
 have e : k.room l.length = k := by unfold Pk.room; rw [if_neg]; omega
 unfold Pk.raw; rw [e, if_pos h1]
theorem image_pad (k : Pk) : k.image = padTo k.size k.had := rfl
theorem written_ok (kind : UInt8) (e s : Nat) (he : e < 2 ^ 64) (hs : s < 2 ^ 64) (rest : List UInt8) (hrest : rest.length <= 100) (g : FuncId) (hg : ∀ a w, (callFunc g a).run Tryz.prog w = .ok (.enter g a) w) (cap : Array Value)
  (spec : ∀ p, Does1 W Tryz.prog g (.pointer (some ⟨p, 0, none⟩) :: cap.toList) (PackerR p ⟨124, begunL kind.toNat e s, 0⟩ :: R) (.tuple #[]) (PackerR p ⟨124, begunL kind.toNat e s ++ rest, 0⟩ :: R)) :
  Does W Tryz.prog 162 [.int .u8 (kind.toNat : Int), .int .u64 e, .int .u64 s, .func (.func g) #[] cap] R (β := Option Addr × Nat) (fun _ => True) (fun x => .tuple #[.slice x.1 (sealS (sectB kind.toNat e s rest)).length x.2, .int .u16 0])
   (fun x => OwnB x (sealS (sectB kind.toNat e s rest)) :: R) := by
 have hlB := begunL_length kind.toNat e s
 have hk8 := kind.toNat_lt
 (refine Does.enter Tryz.func162 Tryz.ntmps162 rfl rfl ?_)
 refine w ?_
 (refine zq ?_; refine zd rfl rfl (new_ok 124 (by decide)) ?_)
 intro p _
 refine w ?_
 (refine zq ?_; refine OpV.buildSlice1 st_65 rfl rfl (by first | (simp; done) | simp [Value.oneCell']) (by decide) rfl ?_; intro nb)
 refine zq ?_
 refine OpV.markConst tab_ok rfl rfl rfl zh rfl ?_
 refine zq ?_
 refine zd rfl rfl (rawR_ok (R := MRow nb 5 (bytes magicL) :: R) (l := magicL) p ⟨124, [], 0⟩ (Rds.mrow (bytes_one _) (.head _) rfl)) ?_
 intro _ _
 rw [Pk.raw_good rfl (by decide)]
 dsimp only
 refine w ?_
 refine VO.re 26 (.int .u32 (kind.toNat : Nat)) rfl (by rw [u32_nat (by omega)]) ?_
 ((refine zq ?_; refine zd rfl rfl (u32_ok p ⟨124, [] ++ magicL, 0⟩ kind.toNat (by omega)) ?_); intro _ _)
 rw [Pk.number_good rfl (by simp [magicL])]
 dsimp only
 refine w ?_
 ((refine zq ?_; refine zd rfl rfl (u64_ok p ⟨124, [] ++ magicL ++ lowBytes kind.toNat 4, 0⟩ e) ?_); intro _ _)
 rw [Pk.number_good rfl (by simp [magicL, lowBytes_length])]
 dsimp only
 refine w ?_
 ((refine zq ?_; refine zd rfl rfl (u64_ok p ⟨124, [] ++ magicL ++ lowBytes kind.toNat 4 ++ lowBytes e 8, 0⟩ s) ?_); intro _ _)
 rw [Pk.number_good rfl (by simp [magicL, lowBytes_length])]
 dsimp only
 rw [show [] ++ magicL ++ lowBytes kind.toNat 4 ++ lowBytes e 8 ++ lowBytes s 8 = begunL kind.toNat e s from rfl]
 refine w ?_
 refine zq ?_
 refine OpV.call rfl rfl hg (spec p) Ent.re rfl ?_
 intro _ _
 refine w ?_
 (refine zq ?_; refine zd rfl rfl (bytes_ok p ⟨124, begunL kind.toNat e s ++ rest, 0⟩ rfl) ?_)
 intro b _
 rw [image_pad]
 dsimp only
 rw [show padTo 124 (begunL kind.toNat e s ++ rest) = sectB kind.toNat e s rest from rfl]
 have hl124 : (sectB kind.toNat e s rest).length = 124 := sectB_length hrest
 generalize sectB kind.toNat e s rest = B at *
 refine w ?_
 (refine zq ?_; refine zd rfl rfl (new_ok 128 (by decide)) ?_)
 intro q _
 refine w ?_
 have hrB : Rds W (Own 5 1 (.slice (some ⟨b, 0, none⟩) 124 124) 124 (bytes B) :: R) 1 (some ⟨b, 0, none⟩) 124 (bytes B) := Rds.own (bytes_one _) (.head _) (by simp [hl124]) (by simp)
 refine zq ?_
 refine zd rfl rfl (rawR_ok q ⟨128, [], 0⟩ hrB) ?_
 intro _ _
 rw [Pk.raw_good rfl (by simp [hl124])]
 dsimp only
 refine w ?_
 have hsum := sum_ok (W := W) (cap := 124) (l := B) (R := PackerR q ⟨128, [] ++ B, 0⟩ :: Own 5 1 (.slice (some ⟨b, 0, none⟩) 124 124) 124 (bytes B) :: R) (ao := some ⟨b, 0, none⟩) (by rw [hl124]; exact hrB.ent (Ent.drop Ent.refl)) (by omega)
 rw [hl124] at hsum
 (refine zq ?_; refine zy rfl rfl (hsum) ?_)
 intro _ _
 refine w ?_
 have hcr := (crcS B).isLt
 ((refine zq ?_; refine zd rfl rfl (u32_ok q ⟨128, [] ++ B, 0⟩ (crcS B).toNat (by omega)) ?_); intro _ _)
 rw [Pk.number_good rfl (by simp [hl124])]
 dsimp only
 rw [show [] ++ B ++ lowBytes (crcS B).toNat 4 = sealS B from rfl]
 refine w ?_
 (refine zq ?_; refine zd rfl rfl (bytes_ok q ⟨128, sealS B, 0⟩ rfl) ?_)
 intro o _
 have hl128 := sealS_length hl124
 have him : (Pk.mk 128 (sealS B) 0).image = sealS B := by
  rw [image_pad]; unfold padTo; dsimp only; rw [hl128]; simp
 rw [him]
 dsimp only
 refine w ?_
 refine VE.done (some ⟨o, 0, none⟩, 128) rfl trivial (by rw [hl128]; rfl) ?_
 rw [show OwnB (some ⟨o, 0, none⟩, 128) (sealS B) = Own 5 1 (.slice (some ⟨o, 0, none⟩) 128 128) 128 (bytes (sealS B)) by unfold OwnB; rw [hl128]]
 exact Ent.re
def hadH (B : List UInt8) (vs : List Nat) (i : Nat) : List UInt8 := B ++ (vs.take i).flatMap (lowBytes · 4)
theorem hadH_zero (B : List UInt8) (vs : List Nat) : hadH B vs 0 = B := by simp [hadH]
theorem hadH_succ (B : List UInt8) (vs : List Nat) (i : Nat) (h : i < vs.length) : hadH B vs (i + 1) = hadH B vs i ++ lowBytes vs[i] 4 := by
 unfold hadH; rw [List.take_succ_eq_append_getElem h, List.flatMap_append, <- List.append_assoc, List.flatMap_cons, List.flatMap_nil, List.append_nil]
theorem low_flat_length (vs : List Nat) : (vs.flatMap (lowBytes · 4)).length = 4 * vs.length := by
 induction vs with
 | nil => rfl
 | cons v r ih => rw [List.flatMap_cons, List.length_append, lowBytes_length, ih, List.length_cons]; omega
theorem hadH_length (B : List UInt8) (vs : List Nat) (i : Nat) (h : i <= vs.length) : (hadH B vs i).length = B.length + 4 * i := by
 unfold hadH; rw [List.length_append, low_flat_length, List.length_take, Nat.min_eq_left h]
theorem hdr1_ok (h : HdrD) (hg : h.good) (hf : h.fit) (B : List UInt8) (hB : B.length = 24) (p hb : Nat) :
  Does1 W Tryz.prog 186 [.pointer (some ⟨p, 0, none⟩), .pointer (some ⟨hb, 0, none⟩)] (PackerR p ⟨124, B, 0⟩ :: Row hb 233 h.cells :: R) (.tuple #[]) (PackerR p ⟨124, B ++ flds h.rest, 0⟩ :: Row hb 233 h.cells :: R) := by
 have hiff := (hdr_iff h).1 hg
 obtain ⟨ep, sq, ix, ct, mb, rw_, es, sm⟩ := h
 dsimp only at hiff
 obtain ⟨ix, rfl⟩ := Int.eq_ofNat_of_zero_le (show 0 <= ix by omega)
 obtain ⟨ct, rfl⟩ := Int.eq_ofNat_of_zero_le (show 0 <= ct by omega)
 obtain ⟨mb, rfl⟩ := Int.eq_ofNat_of_zero_le (show 0 <= mb by omega)
 obtain ⟨rw_, rfl⟩ := Int.eq_ofNat_of_zero_le (show 0 <= rw_ by omega)
 have hsm : sm < 4294967296 := hf.sum
 clear hf hg
 (refine Does.enter Tryz.func186 Tryz.ntmps186 rfl rfl ?_)
 refine w ?_
 (refine zq ?_; refine OpV.buildSlice1 st_22 rfl rfl (by first | (simp; done) | simp [Value.oneCell']) (by decide) rfl ?_; intro nb)
 refine w ?_
 have hvs : ∀ v ∈ [ix, ct, mb, rw_], v < 4294967296 := by
  intro v hv; simp only [List.mem_cons, List.not_mem_nil, or_false] at hv; omega
 have hvl : [ix, ct, mb, rw_].length = 4 := rfl
 have hrow : ∀ (i : Nat) (h : i < [ix, ct, mb, rw_].length), [Value.int .i64 (ix : Int), .int .i64 (ct : Int), .int .i64 (mb : Int), .int .i64 (rw_ : Int)][i]? = some (.int .i64 (([ix, ct, mb, rw_][i] : Nat) : Int)) := by
  intro i h
  match i, h with
  | 0, _ => rfl
  | 1, _ => rfl
  | 2, _ => rfl
  | 3, _ => rfl
 refine VC.loop (α := Nat) (fun i => i <= 4) (fun i => Row nb 3 [Value.int .i64 (ix : Int), .int .i64 (ct : Int), .int .i64 (mb : Int), .int .i64 (rw_ : Int)] :: PackerR p ⟨124, hadH B [ix, ct, mb, rw_] i, 0⟩ :: Row hb 233 (HdrD.mk ep sq ix ct mb rw_ es sm).cells :: R)
  (fun i => [(0, .pointer (some ⟨p, 0, none⟩)), (1, .pointer (some ⟨hb, 0, none⟩)), (14, .slice (some ⟨nb, 0, none⟩) 4 4), (15, .int .i64 4), (16, .int .i64 i)]) (fun i => 4 - i) rfl 0 (Nat.zero_le _) (by rw [hadH_zero]; exact Ent.refl) ⟨rfl, rfl, rfl, rfl, rfl, trivial⟩ ?_
 intro i hi
 have hll := hadH_length B [ix, ct, mb, rw_] i hi
 refine w ?_
 refine zk ?_ ?_ <;> intro hc
 ·
  have hlt : i < 4 := by have := of_decide_eq_true hc; omega
  have hr1 : Rds W (Row nb 3 [Value.int .i64 (ix : Int), .int .i64 (ct : Int), .int .i64 (mb : Int), .int .i64 (rw_ : Int)] :: PackerR p ⟨124, hadH B [ix, ct, mb, rw_] i, 0⟩ :: Row hb 233 (HdrD.mk ep sq ix ct mb rw_ es sm).cells :: R) 1 (some ⟨nb, 0, none⟩) 4 [Value.int .i64 (ix : Int), .int .i64 (ct : Int), .int .i64 (mb : Int), .int .i64 (rw_ : Int)] :=
   Rds.row (by simp [Value.oneCell']) (.head _) rfl
  have hsucc := hadH_succ B [ix, ct, mb, rw_] i hlt
  have hrow := hrow i hlt
  have hv := hvs _ (List.getElem_mem (l := [ix, ct, mb, rw_]) hlt)
  generalize [ix, ct, mb, rw_][i]'hlt = v at *
  generalize hgl : [Value.int .i64 (ix : Int), .int .i64 (ct : Int), .int .i64 (mb : Int), .int .i64 (rw_ : Int)] = cs at *
  refine w ?_
  refine VO.pure rfl rfl (PureAt.ldR tab_ok rfl rfl hr1 hrow) rfl ?_
  refine w ?_
  refine VO.re 22 (.int .u32 v) rfl (by rw [u32_nat hv]) ?_
  ((refine zq ?_; refine zd rfl rfl (u32_ok p ⟨124, hadH B [ix, ct, mb, rw_] i, 0⟩ v (by omega)) ?_); intro _ _)
  rw [Pk.number_good rfl (by dsimp only; omega)]
  dsimp only
  rw [<- hsucc]
  refine w ?_
  exact VE.round (i + 1) (by omega) (by omega) ⟨rfl, rfl, rfl, rfl, asV rfl (by congr 1), trivial⟩ Ent.re
 ·
  have hge : i = 4 := by have := of_decide_eq_false hc; omega
  subst hge
  have hfl : hadH B [ix, ct, mb, rw_] 4 ++ lowBytes (bitN es) 4 ++ lowBytes sm 4 = B ++ flds (HdrD.mk ep sq ix ct mb rw_ es sm).rest := by
   simp [hadH, flds, HdrD.rest]
  rw [<- hfl]
  generalize hadH B [ix, ct, mb, rw_] 4 = D at *
  cases es
  ·
   refine w ?_
   refine VO.re 28 (.int .u32 (bitN false)) rfl rfl ?_
   ((refine zq ?_; refine zd rfl rfl (u32_ok p ⟨124, D, 0⟩ (bitN false) (bitN_lt _)) ?_); intro _ _)
   rw [Pk.number_good rfl (by dsimp only; omega)]
   dsimp only
   refine w ?_
   refine VO.re 32 (.int .u32 sm) rfl rfl ?_
   ((refine zq ?_; refine zd rfl rfl (u32_ok p ⟨124, D ++ lowBytes (bitN false) 4, 0⟩ sm (by omega)) ?_); intro _ _)
   rw [Pk.number_good rfl (by simp [lowBytes_length]; omega)]
   refine w ?_
   (refine VE.done1N rfl rfl ?_)
   exact Ent.re
  ·
   refine w ?_
   refine VO.re 28 (.int .u32 (bitN true)) rfl rfl ?_
   ((refine zq ?_; refine zd rfl rfl (u32_ok p ⟨124, D, 0⟩ (bitN true) (bitN_lt _)) ?_); intro _ _)
   rw [Pk.number_good rfl (by dsimp only; omega)]
   dsimp only
   refine w ?_
   refine VO.re 32 (.int .u32 sm) rfl rfl ?_
   ((refine zq ?_; refine zd rfl rfl (u32_ok p ⟨124, D ++ lowBytes (bitN true) 4, 0⟩ sm (by omega)) ?_); intro _ _)
   rw [Pk.number_good rfl (by simp [lowBytes_length]; omega)]
   refine w ?_
   (refine VE.done1N rfl rfl ?_)
   exact Ent.re
theorem cmt1_ok (h : CmtD) (hg : h.good) (hf : h.fit) (B : List UInt8) (hB : B.length = 24) (p hb : Nat) :
  Does1 W Tryz.prog 188 [.pointer (some ⟨p, 0, none⟩), .pointer (some ⟨hb, 0, none⟩)] (PackerR p ⟨124, B, 0⟩ :: Row hb 238 h.cells :: R) (.tuple #[]) (PackerR p ⟨124, B ++ flds h.rest, 0⟩ :: Row hb 238 h.cells :: R) := by
 have hiff := (cmt_iff h).1 hg
 obtain ⟨ep, sq, ct, sm⟩ := h
 dsimp only at hiff
 obtain ⟨ct, rfl⟩ := Int.eq_ofNat_of_zero_le (show 0 <= ct by omega)
 have hsm : sm < 4294967296 := hf.sum
 clear hf hg
 have hfl : B ++ lowBytes ct 4 ++ lowBytes sm 4 = B ++ flds (CmtD.mk ep sq ct sm).rest := by simp [flds, CmtD.rest]
 rw [<- hfl]
 (refine Does.enter Tryz.func188 Tryz.ntmps188 rfl rfl ?_)
 refine w ?_
 refine VO.re 6 (.int .u32 ct) rfl (by show Value.int .u32 (IntKind.u32.wrap (ct : Int)) = _; rw [u32_nat (by omega)]) ?_
 ((refine zq ?_; refine zd rfl rfl (u32_ok p ⟨124, B, 0⟩ ct (by omega)) ?_); intro _ _)
 rw [Pk.number_good rfl (by dsimp only; omega)]
 dsimp only
 refine w ?_
 refine VO.re 10 (.int .u32 sm) rfl rfl ?_
 ((refine zq ?_; refine zd rfl rfl (u32_ok p ⟨124, B ++ lowBytes ct 4, 0⟩ sm (by omega)) ?_); intro _ _)
 rw [Pk.number_good rfl (by simp [lowBytes_length]; omega)]
 refine w ?_
 (refine VE.done1N rfl rfl ?_)
 exact Ent.re
theorem chk1_ok (h : ChkD) (hg : h.good) (hf : h.fit) (B : List UInt8) (hB : B.length = 24) (p hb : Nat) :
  Does1 W Tryz.prog 163 [.pointer (some ⟨p, 0, none⟩), .pointer (some ⟨hb, 0, none⟩)] (PackerR p ⟨124, B, 0⟩ :: Row hb 98 h.cells :: R) (.tuple #[]) (PackerR p ⟨124, B ++ flds h.rest, 0⟩ :: Row hb 98 h.cells :: R) := by
 have hiff := (chk_iff h).1 hg
 obtain ⟨ep, sq, ct⟩ := h
 dsimp only at hiff
 obtain ⟨ct, rfl⟩ := Int.eq_ofNat_of_zero_le (show 0 <= ct by omega)
 clear hf hg
 have hfl : B ++ lowBytes ct 4 = B ++ flds (ChkD.mk ep sq ct).rest := by simp [flds, ChkD.rest]
 rw [<- hfl]
 (refine Does.enter Tryz.func163 Tryz.ntmps163 rfl rfl ?_)
 refine w ?_
 refine VO.re 6 (.int .u32 ct) rfl (by show Value.int .u32 (IntKind.u32.wrap (ct : Int)) = _; rw [u32_nat (by omega)]) ?_
 ((refine zq ?_; refine zd rfl rfl (u32_ok p ⟨124, B, 0⟩ ct (by omega)) ?_); intro _ _)
 rw [Pk.number_good rfl (by dsimp only; omega)]
 dsimp only
 refine w ?_
 (refine VE.done1N rfl rfl ?_)
 exact Ent.re
theorem ench_ok (h : HdrD) (hf : h.fit) :
  Does W Tryz.prog 137 [.agg h.cells.toArray] R (β := Option Addr × Nat) (fun _ => True) (fun x => .tuple #[.slice x.1 h.enc.2.length x.2, .int .u16 h.enc.1]) (fun x => OwnB x h.enc.2 :: R) := by
 have hct := hf.count
 (refine Does.enter Tryz.func137 Tryz.ntmps137 rfl rfl ?_)
 refine w ?_; repeat (refine zj fun _ => ?_; refine w ?_)
 rename_i hbx
 (refine zq ?_; refine zy rfl rfl (counts_ok h.epoch h.seq) ?_)
 intro _ _
 refine w ?_; repeat (refine zj fun _ => ?_; refine w ?_)
 refine zg ?_ ?_ <;> intro hb
 ·
  have hb : ¬ cntOk h.epoch h.seq := by simpa using hb
  have hbad := hdr_bad (h := h) (fun g => hb g.1)
  refine w ?_; repeat (refine zj fun _ => ?_; refine w ?_)
  refine VE.done (none, 0) rfl trivial (by rw [hbad]; rfl) ?_
  rw [hbad]; exact Ent.trans (Ent.re (L := R)) (fun w hw => hw.ownNil _ _)
 have h0 : cntOk h.epoch h.seq := by simpa using hb
 refine w ?_; repeat (refine zj fun _ => ?_; refine w ?_)
 (refine zq ?_; refine zy rfl rfl (in_ok h.count 1 1023) ?_)
 intro _ _
 refine w ?_; repeat (refine zj fun _ => ?_; refine w ?_)
 refine zg ?_ ?_ <;> intro hb
 ·
  have hb : ¬ (1 <= h.count /\ h.count <= 1023) := by have hq := hb; simp at hq; omega
  have hbad := hdr_bad (h := h) (fun g => hb g.2.1)
  refine w ?_; repeat (refine zj fun _ => ?_; refine w ?_)
  refine VE.done (none, 0) rfl trivial (by rw [hbad]; rfl) ?_
  rw [hbad]; exact Ent.trans (Ent.re (L := R)) (fun w hw => hw.ownNil _ _)
 have h1 : 1 <= h.count /\ h.count <= 1023 := by simpa using hb
 refine w ?_; repeat (refine zj fun _ => ?_; refine w ?_)
 (refine zq ?_; refine zy rfl rfl (in_ok h.index 0 (h.count - 1)) ?_)
 intro _ _
 refine w ?_; repeat (refine zj fun _ => ?_; refine w ?_)
 refine zg ?_ ?_ <;> intro hb
 ·
  have hb : ¬ (0 <= h.index /\ h.index <= h.count - 1) := by have hq := hb; simp at hq; omega
  have hbad := hdr_bad (h := h) (fun g => hb g.2.2.1)
  refine w ?_; repeat (refine zj fun _ => ?_; refine w ?_)
  refine VE.done (none, 0) rfl trivial (by rw [hbad]; rfl) ?_
  rw [hbad]; exact Ent.trans (Ent.re (L := R)) (fun w hw => hw.ownNil _ _)
 have h2 : 0 <= h.index /\ h.index <= h.count - 1 := by simpa using hb
 refine w ?_; repeat (refine zj fun _ => ?_; refine w ?_)
 (refine zq ?_; refine zy rfl rfl (in_ok h.member 0 15) ?_)
 intro _ _
 refine w ?_; repeat (refine zj fun _ => ?_; refine w ?_)
 refine zg ?_ ?_ <;> intro hb
 ·
  have hb : ¬ (0 <= h.member /\ h.member <= 15) := by have hq := hb; simp at hq; omega
  have hbad := hdr_bad (h := h) (fun g => hb g.2.2.2.1)
  refine w ?_; repeat (refine zj fun _ => ?_; refine w ?_)
  refine VE.done (none, 0) rfl trivial (by rw [hbad]; rfl) ?_
  rw [hbad]; exact Ent.trans (Ent.re (L := R)) (fun w hw => hw.ownNil _ _)
 have h3 : 0 <= h.member /\ h.member <= 15 := by simpa using hb
 refine w ?_; repeat (refine zj fun _ => ?_; refine w ?_)
 (refine zq ?_; refine zy rfl rfl (in_ok h.row 0 4095) ?_)
 intro _ _
 refine w ?_; repeat (refine zj fun _ => ?_; refine w ?_)
 refine zk ?_ ?_ <;> intro hc
 ·
  have hb : ¬ (0 <= h.row /\ h.row <= 4095) := by have hq := hc; simp at hq; omega
  have hbad := hdr_bad (h := h) (fun g => hb g.2.2.2.2)
  refine w ?_; repeat (refine zj fun _ => ?_; refine w ?_)
  refine VE.done (none, 0) rfl trivial (by rw [hbad]; rfl) ?_
  rw [hbad]; exact Ent.trans (Ent.re (L := R)) (fun w hw => hw.ownNil _ _)
 have h4 : 0 <= h.row /\ h.row <= 4095 := by simpa using hc
 have hg : h.good := ⟨h0, h1, h2, h3, h4⟩
 have he := hdr_ok hg
 rw [he]
 refine w ?_; repeat (refine zj fun _ => ?_; refine w ?_)
 refine VO.pure rfl rfl (PureAt.makeFuncN rfl) rfl ?_
 (refine zq ?_; refine zd rfl rfl (written_ok 1 h.epoch h.seq hf.epoch hf.seq (flds h.rest) (by rw [flds_length]; exact hdr_sum h) 186 (fun _ _ => by simp) #[.pointer (some ⟨hbx, 0, none⟩)] (fun p => hdr1_ok h hg hf _ (begunL_length _ _ _) p hbx)) ?_)
 rintro ⟨a1, c1⟩ -
 refine w ?_; repeat (refine zj fun _ => ?_; refine w ?_)
 exact VE.done (a1, c1) rfl trivial rfl Ent.re
theorem encc_ok (h : CmtD) (hf : h.fit) :
  Does W Tryz.prog 140 [.agg h.cells.toArray] R (β := Option Addr × Nat) (fun _ => True) (fun x => .tuple #[.slice x.1 h.enc.2.length x.2, .int .u16 h.enc.1]) (fun x => OwnB x h.enc.2 :: R) := by
 (refine Does.enter Tryz.func140 Tryz.ntmps140 rfl rfl ?_)
 refine w ?_; repeat (refine zj fun _ => ?_; refine w ?_)
 rename_i hbx
 (refine zq ?_; refine zy rfl rfl (counts_ok h.epoch h.seq) ?_)
 intro _ _
 refine w ?_; repeat (refine zj fun _ => ?_; refine w ?_)
 refine zg ?_ ?_ <;> intro hb
 ·
  have hb : ¬ cntOk h.epoch h.seq := by simpa using hb
  have hbad := cmt_bad (h := h) (fun g => hb g.1)
  refine w ?_; repeat (refine zj fun _ => ?_; refine w ?_)
  refine VE.done (none, 0) rfl trivial (by rw [hbad]; rfl) ?_
  rw [hbad]; exact Ent.trans (Ent.re (L := R)) (fun w hw => hw.ownNil _ _)
 have h0 : cntOk h.epoch h.seq := by simpa using hb
 refine w ?_; repeat (refine zj fun _ => ?_; refine w ?_)
 (refine zq ?_; refine zy rfl rfl (in_ok h.count 1 1023) ?_)
 intro _ _
 refine w ?_; repeat (refine zj fun _ => ?_; refine w ?_)
 refine zk ?_ ?_ <;> intro hc
 ·
  have hb : ¬ (1 <= h.count /\ h.count <= 1023) := by have hq := hc; simp at hq; omega
  have hbad := cmt_bad (h := h) (fun g => hb g.2)
  refine w ?_; repeat (refine zj fun _ => ?_; refine w ?_)
  refine VE.done (none, 0) rfl trivial (by rw [hbad]; rfl) ?_
  rw [hbad]; exact Ent.trans (Ent.re (L := R)) (fun w hw => hw.ownNil _ _)
 have h4 : 1 <= h.count /\ h.count <= 1023 := by simpa using hc
 have hg : h.good := ⟨h0, h4⟩
 have he := cmt_ok hg
 rw [he]
 refine w ?_; repeat (refine zj fun _ => ?_; refine w ?_)
 refine VO.pure rfl rfl (PureAt.makeFuncN rfl) rfl ?_
 (refine zq ?_; refine zd rfl rfl (written_ok 2 h.epoch h.seq hf.epoch hf.seq (flds h.rest) (by rw [flds_length]; exact cmt_sum h) 188 (fun _ _ => by simp) #[.pointer (some ⟨hbx, 0, none⟩)] (fun p => cmt1_ok h hg hf _ (begunL_length _ _ _) p hbx)) ?_)
 rintro ⟨a1, c1⟩ -
 refine w ?_; repeat (refine zj fun _ => ?_; refine w ?_)
 exact VE.done (a1, c1) rfl trivial rfl Ent.re
theorem encs_ok (h : ChkD) (hf : h.fit) :
  Does W Tryz.prog 101 [.agg h.cells.toArray] R (β := Option Addr × Nat) (fun _ => True) (fun x => .tuple #[.slice x.1 h.enc.2.length x.2, .int .u16 h.enc.1]) (fun x => OwnB x h.enc.2 :: R) := by
 (refine Does.enter Tryz.func101 Tryz.ntmps101 rfl rfl ?_)
 refine w ?_; repeat (refine zj fun _ => ?_; refine w ?_)
 rename_i hbx
 (refine zq ?_; refine zy rfl rfl (counts_ok h.epoch h.seq) ?_)
 intro _ _
 refine w ?_; repeat (refine zj fun _ => ?_; refine w ?_)
 refine zg ?_ ?_ <;> intro hb
 ·
  have hb : ¬ cntOk h.epoch h.seq := by simpa using hb
  have hbad := chk_bad (h := h) (fun g => hb g.1)
  refine w ?_; repeat (refine zj fun _ => ?_; refine w ?_)
  refine VE.done (none, 0) rfl trivial (by rw [hbad]; rfl) ?_
  rw [hbad]; exact Ent.trans (Ent.re (L := R)) (fun w hw => hw.ownNil _ _)
 have h0 : cntOk h.epoch h.seq := by simpa using hb
 refine w ?_; repeat (refine zj fun _ => ?_; refine w ?_)
 (refine zq ?_; refine zy rfl rfl (in_ok h.tail 0 2047) ?_)
 intro _ _
 refine w ?_; repeat (refine zj fun _ => ?_; refine w ?_)
 refine zk ?_ ?_ <;> intro hc
 ·
  have hb : ¬ (0 <= h.tail /\ h.tail <= 2047) := by have hq := hc; simp at hq; omega
  have hbad := chk_bad (h := h) (fun g => hb g.2)
  refine w ?_; repeat (refine zj fun _ => ?_; refine w ?_)
  refine VE.done (none, 0) rfl trivial (by rw [hbad]; rfl) ?_
  rw [hbad]; exact Ent.trans (Ent.re (L := R)) (fun w hw => hw.ownNil _ _)
 have h4 : 0 <= h.tail /\ h.tail <= 2047 := by simpa using hc
 have hg : h.good := ⟨h0, h4⟩
 have he := chk_ok hg
 rw [he]
 refine w ?_; repeat (refine zj fun _ => ?_; refine w ?_)
 refine VO.pure rfl rfl (PureAt.makeFuncN rfl) rfl ?_
 (refine zq ?_; refine zd rfl rfl (written_ok 3 h.epoch h.seq hf.epoch hf.seq (flds h.rest) (by rw [flds_length]; exact chk_sum h) 163 (fun _ _ => by simp) #[.pointer (some ⟨hbx, 0, none⟩)] (fun p => chk1_ok h hg hf _ (begunL_length _ _ _) p hbx)) ?_)
 rintro ⟨a1, c1⟩ -
 refine w ?_; repeat (refine zj fun _ => ?_; refine w ?_)
 exact VE.done (a1, c1) rfl trivial rfl Ent.re
theorem equal_ok {ao ao' : Option Addr} {cap cap' : Nat} {a b : List UInt8} (ha : Rds W R 1 ao a.length (bytes a)) (hb : Rds W R 1 ao' b.length (bytes b)) :
  Does1 W Tryz.prog 201 [.slice ao a.length cap, .slice ao' b.length cap'] R (.bool (decide (a = b))) R := by
 (refine Does.enter Tryz.func201 Tryz.ntmps201 rfl rfl ?_)
 refine w ?_
 refine VO.pure rfl rfl (PureAt.toStr (l := a) tab_ok rfl rfl rfl rfl ha rfl) rfl ?_
 refine w ?_
 refine VO.pure rfl rfl (PureAt.toStr (l := b) tab_ok rfl rfl rfl rfl hb rfl) rfl ?_
 refine VO.pure rfl rfl (PureAt.strEq tab_ok rfl rfl rfl rfl) rfl ?_
 refine w ?_
 refine VE.done1 rfl ?_ ?_
 · rfl
 · exact Ent.refl
theorem read_bad {ao : Option Addr} {cap : Nat} {l : List UInt8} (hr : Rds W R 1 ao l.length (bytes l)) (hcap : l.length <= cap) (k : UInt8) (hbad : looksM l k ≠ 0) (f1 f2 : Value) :
  Does1 W Tryz.prog 151 [.slice ao l.length cap, .int .u8 (k.toNat : Int), f1, f2] R (.int .u16 (looksM l k)) R := by
 (refine Does.enter Tryz.func151 Tryz.ntmps151 rfl rfl ?_)
 refine w ?_
 refine zk ?_ ?_ <;> intro hc
 ·
  have hb : l.length ≠ 128 := by have := hc; simp at this; omega
  refine w ?_
  refine VE.done1 rfl ?_ ?_
  · unfold looksM; rw [if_pos hb]
  · exact Ent.refl
 have h128 : l.length = 128 := by have := hc; simp at this; omega
 refine w ?_
 (refine zq ?_; refine zy rfl rfl (kind_ok hr hcap) ?_)
 intro _ _
 refine w ?_
 refine zk ?_ ?_ <;> intro hc
 ·
  have hb : kindB l ≠ k := by intro h; rw [h] at hc; simp at hc
  refine w ?_
  refine VE.done1 rfl ?_ ?_
  · unfold looksM; rw [if_neg (by omega), if_pos hb]
  · exact Ent.refl
 have hk : kindB l = k := by
  have h1 : ((kindB l).toNat : Int) = (k.toNat : Int) := by simpa using hc
  exact UInt8.toNat_inj.1 (by omega)
 have hn : numAt l 124 4 ≠ (crcS (l.take 124)).toNat := by
  intro h; apply hbad; unfold looksM; rw [if_neg (by omega), if_neg (fun h => h hk), if_neg (fun h2 => h2 h)]
 obtain ⟨a, rfl⟩ : ∃ a, ao = some a := by cases ao with | none => have := hr.nil rfl; omega | some a => exact ⟨a, rfl⟩
 have hp := rds_part hr 124 128 (by omega) (by omega) hcap
 rw [show 128 - 124 = 4 from rfl] at hp
 have hlt := numAt_lt l 124 4
 have h124 : (l.take 124).length = 124 := by rw [List.length_take]; omega
 refine w ?_
 refine VO.re 22 (.slice (subA (some a) cap 124 1) 4 (cap - 124)) rfl (by rw [h128]) ?_
 (refine zq ?_; refine zd rfl rfl (read_ok hp (by omega)) ?_)
 intro q _
 refine w ?_
 have hr2 := hr.ent (H := ReaderR q ⟨(l.drop 124).take 4, 0, 0, 0⟩ :: R) (Ent.drop Ent.refl)
 have hg := Rk.got_good (k := ⟨(l.drop 124).take 4, 0, 0, 0⟩) (n := 4) rfl (by simp; omega)
 have hsum := sum_ok (cap := cap) (l := l.take 124) (W := W) (R := ReaderR q ⟨(l.drop 124).take 4, 4, 0, 0⟩ :: R) (ao := some a) (by rw [h124]; exact rds_head (hr.ent (Ent.drop Ent.refl)) 124 (by omega)) (by omega)
 rw [h124] at hsum
 (refine VC.drawn [1] 4 [0, 2, 3, 1, 4, 5] R rfl (by kernel_rfl) (by kernel_rfl) Ent.re ?_)
 refine w ?_
 ((refine zq ?_; refine zd rfl rfl (r32_ok q ⟨(l.drop 124).take 4, 0, 0, 0⟩) ?_); intro _ _)
 rw [hg.1, hg.2.2]
 dsimp only
 rw [show leVal (List.take 4 (List.drop 0 (List.take 4 (List.drop 124 l)))) = numAt l 124 4 by unfold numAt; rw [List.drop_zero, List.take_take]; rfl, Nat.zero_add]
 refine w ?_
 (refine zq ?_; refine zy rfl rfl (hsum) ?_)
 intro _ _
 refine w ?_
 (refine VC.condTe rfl rfl (by simpa using fun h => hn (by omega)) ?_)
 refine w ?_
 refine VE.done1 rfl ?_ ?_
 · unfold looksM; rw [if_neg (by omega), if_neg (fun h => h hk), if_pos hn]
 · exact Ent.re
theorem read_good {R0 R1 : List SProp} {ao : Option Addr} {cap : Nat} {l : List UInt8} (hr : Rds W R0 1 ao l.length (bytes l)) (hr1 : Rds W R1 1 ao l.length (bytes l)) (hcap : l.length <= cap) (k : UInt8) (hlk : looksM l k = 0)
  (g1 g2 : FuncId) (cap1 cap2 : Array Value) (hg1 : ∀ a w, (callFunc g1 a).run Tryz.prog w = .ok (.enter g1 a) w) (hg2 : ∀ a w, (callFunc g2 a).run Tryz.prog w = .ok (.enter g2 a) w) (C : List UInt8) (eC : Int)
  (rest : ∀ p, Does1 W Tryz.prog g1 ([.pointer (some ⟨p, 0, none⟩), .int .u64 (numAt l 8 8 : Nat), .int .u64 (numAt l 16 8 : Nat)] ++ cap1.toList) (ReaderR p ⟨l, 24, 0, 0⟩ :: R0) (.tuple #[]) R1)
  (again : Does W Tryz.prog g2 ([] ++ cap2.toList) R1 (β := Option Addr × Nat) (fun _ => True) (fun x => .tuple #[.slice x.1 C.length x.2, .int .u16 eC]) (fun x => OwnB x C :: R1)) :
  Does1 W Tryz.prog 151 [.slice ao l.length cap, .int .u8 (k.toNat : Int), .func (.func g1) #[] cap1, .func (.func g2) #[] cap2] R0 (.int .u16 (if eC = 0 /\ C = l then 0 else 80)) R1 := by
 have h128 := looks_len hlk
 have hk : kindB l = k := by
  unfold looksM at hlk; rw [if_neg (by omega)] at hlk; split at hlk
  · cases hlk
  · rename_i h; exact Decidable.of_not_not h
 have hn : numAt l 124 4 = (crcS (l.take 124)).toNat := by
  unfold looksM at hlk; rw [if_neg (by omega), if_neg (fun h => h hk)] at hlk; split at hlk
  · cases hlk
  · rename_i h; exact Decidable.of_not_not h
 obtain ⟨a, rfl⟩ : ∃ a, ao = some a := by cases ao with | none => have := hr.nil rfl; omega | some a => exact ⟨a, rfl⟩
 have hp := rds_part hr 124 128 (by omega) (by omega) hcap
 rw [show 128 - 124 = 4 from rfl] at hp
 have hlt := numAt_lt l 124 4
 have h124 : (l.take 124).length = 124 := by rw [List.length_take]; omega
 (refine Does.enter Tryz.func151 Tryz.ntmps151 rfl rfl ?_)
 refine w ?_
 (refine VC.condFe rfl rfl (by simp; omega) ?_)
 refine w ?_
 (refine zq ?_; refine zy rfl rfl (kind_ok hr hcap) ?_)
 intro _ _
 rw [hk]
 refine w ?_
 (refine VC.condFe rfl rfl (by simp) ?_)
 refine w ?_
 refine VO.re 22 (.slice (subA (some a) cap 124 1) 4 (cap - 124)) rfl (by rw [h128]) ?_
 (refine zq ?_; refine zd rfl rfl (read_ok hp (by omega)) ?_)
 intro q _
 refine w ?_
 have hr2 := hr.ent (H := ReaderR q ⟨(l.drop 124).take 4, 0, 0, 0⟩ :: R0) (Ent.drop Ent.refl)
 have hg := Rk.got_good (k := ⟨(l.drop 124).take 4, 0, 0, 0⟩) (n := 4) rfl (by simp; omega)
 have hsum := sum_ok (cap := cap) (l := l.take 124) (W := W) (R := ReaderR q ⟨(l.drop 124).take 4, 4, 0, 0⟩ :: R0) (ao := some a) (by rw [h124]; exact rds_head (hr.ent (Ent.drop Ent.refl)) 124 (by omega)) (by omega)
 rw [h124] at hsum
 (refine VC.drawn [1] 4 [0, 2, 3, 1, 4, 5] R0 rfl (by kernel_rfl) (by kernel_rfl) Ent.re ?_)
 refine w ?_
 ((refine zq ?_; refine zd rfl rfl (r32_ok q ⟨(l.drop 124).take 4, 0, 0, 0⟩) ?_); intro _ _)
 rw [hg.1, hg.2.2]
 dsimp only
 rw [show leVal (List.take 4 (List.drop 0 (List.take 4 (List.drop 124 l)))) = numAt l 124 4 by unfold numAt; rw [List.drop_zero, List.take_take]; rfl, Nat.zero_add]
 refine w ?_
 (refine zq ?_; refine zy rfl rfl (hsum) ?_)
 intro _ _
 refine w ?_
 (refine VC.condFe rfl rfl (by simp; omega) ?_)
 refine w ?_
 refine zq ?_
 refine zd rfl rfl (read_ok (R := R0) hr (by omega)) ?_
 intro p _
 refine w ?_
 (refine zq ?_; refine zd rfl rfl (rraw_ok p ⟨l, 0, 0, 0⟩ 8) ?_)
 rintro ⟨ra, rc⟩ -
 rw [show (Rk.mk l 0 0 0).raw 8 = ⟨l, 8, 0, 0⟩ by unfold Rk.raw; rw [if_neg (by decide)]; exact (Rk.got_good (k := ⟨l, 0, 0, 0⟩) (n := 8) rfl (by simp only; omega)).2.2]
 have g8 := Rk.got_good (k := ⟨l, 8, 0, 0⟩) (n := 8) rfl (by simp only; omega)
 have g16 := Rk.got_good (k := ⟨l, 16, 0, 0⟩) (n := 8) rfl (by simp only; omega)
 refine w ?_
 (refine zq ?_; refine zd rfl rfl (r64_ok p ⟨l, 8, 0, 0⟩) ?_)
 intro _ _
 rw [g8.1, g8.2.2]
 dsimp only
 refine w ?_
 (refine zq ?_; refine zd rfl rfl (r64_ok p ⟨l, 16, 0, 0⟩) ?_)
 intro _ _
 rw [g16.1, g16.2.2]
 dsimp only
 refine w ?_
 refine zq ?_
 refine OpV.call rfl rfl hg1 (rest p) Ent.re rfl ?_
 intro _ _
 refine w ?_
 refine zq ?_
 refine OpV.call rfl rfl hg2 again Ent.re rfl ?_
 rintro ⟨xa, xc⟩ -
 refine VO.know (p := xa = none -> C.length = 0) (fun w hw => hw.ownNone (.head _)) ?_
 intro hxn
 refine w ?_
 refine zg ?_ ?_ <;> intro hb
 ·
  have hb : eC ≠ 0 := by simpa using hb
  refine w ?_
  refine VE.done1 rfl ?_ ?_
  · rw [if_neg (fun h => hb h.1)]
  · exact Ent.re
 have hb : eC = 0 := by simpa using hb
 refine w ?_
 (refine zq ?_; refine zy rfl rfl (equal_ok (hr1.ent (Ent.drop Ent.refl)) (own_rds (x := (xa, xc)) hxn (.head _))) ?_)
 intro _ _
 refine w ?_
 refine zk ?_ ?_ <;> intro hc
 ·
  have hne : ¬ C = l := by have hc := hc; simp at hc; exact fun h => hc h.symm
  refine w ?_
  refine VE.done1 rfl ?_ ?_
  · rw [if_neg (fun h => hne h.2)]
  · exact Ent.re
 ·
  have he : C = l := by have hc := hc; simp at hc; exact hc.symm
  refine w ?_
  refine VE.done1 rfl ?_ ?_
  · rw [if_pos ⟨hb, he⟩]
  · exact Ent.re
theorem hdr2_ok (h : HdrD) (hf : h.fit) (hb : Nat) :
  Does W Tryz.prog 225 [.pointer (some ⟨hb, 0, none⟩)] (Row hb 233 h.cells :: R) (β := Option Addr × Nat) (fun _ => True) (fun x => .tuple #[.slice x.1 h.enc.2.length x.2, .int .u16 h.enc.1]) (fun x => OwnB x h.enc.2 :: Row hb 233 h.cells :: R) := by
 (refine Does.enter Tryz.func225 Tryz.ntmps225 rfl rfl ?_)
 refine w ?_
 (refine zq ?_; refine zd rfl rfl (ench_ok h hf) ?_)
 rintro ⟨a1, c1⟩ -
 refine w ?_
 exact VE.done (a1, c1) rfl trivial rfl Ent.re
theorem cmt2_ok (h : CmtD) (hf : h.fit) (hb : Nat) :
  Does W Tryz.prog 223 [.pointer (some ⟨hb, 0, none⟩)] (Row hb 238 h.cells :: R) (β := Option Addr × Nat) (fun _ => True) (fun x => .tuple #[.slice x.1 h.enc.2.length x.2, .int .u16 h.enc.1]) (fun x => OwnB x h.enc.2 :: Row hb 238 h.cells :: R) := by
 (refine Does.enter Tryz.func223 Tryz.ntmps223 rfl rfl ?_)
 refine w ?_
 (refine zq ?_; refine zd rfl rfl (encc_ok h hf) ?_)
 rintro ⟨a1, c1⟩ -
 refine w ?_
 exact VE.done (a1, c1) rfl trivial rfl Ent.re
theorem chk2_ok (h : ChkD) (hf : h.fit) (hb : Nat) :
  Does W Tryz.prog 154 [.pointer (some ⟨hb, 0, none⟩)] (Row hb 98 h.cells :: R) (β := Option Addr × Nat) (fun _ => True) (fun x => .tuple #[.slice x.1 h.enc.2.length x.2, .int .u16 h.enc.1]) (fun x => OwnB x h.enc.2 :: Row hb 98 h.cells :: R) := by
 (refine Does.enter Tryz.func154 Tryz.ntmps154 rfl rfl ?_)
 refine w ?_
 (refine zq ?_; refine zd rfl rfl (encs_ok h hf) ?_)
 rintro ⟨a1, c1⟩ -
 refine w ?_
 exact VE.done (a1, c1) rfl trivial rfl Ent.re
theorem cmtR_ok {l : List UInt8} (hl : l.length = 128) (p hb : Nat) :
  Does1 W Tryz.prog 222 [.pointer (some ⟨p, 0, none⟩), .int .u64 (numAt l 8 8 : Nat), .int .u64 (numAt l 16 8 : Nat), .pointer (some ⟨hb, 0, none⟩)] (ReaderR p ⟨l, 24, 0, 0⟩ :: Row hb 238 zeroC.cells :: R) (.tuple #[]) (Row hb 238 (CmtD.parse l).cells :: R) := by
 have g24 := Rk.got_good (k := ⟨l, 24, 0, 0⟩) (n := 4) rfl (by simp only; omega)
 have g28 := Rk.got_good (k := ⟨l, 28, 0, 0⟩) (n := 4) rfl (by simp only; omega)
 have hlt := numAt_lt l
 (refine Does.enter Tryz.func222 Tryz.ntmps222 rfl rfl ?_)
 refine w ?_
 ((refine zq ?_; refine zd rfl rfl (r32_ok p ⟨l, 24, 0, 0⟩) ?_); intro _ _)
 rw [g24.1, g24.2.2]
 dsimp only
 refine w ?_
 refine VO.re 11 (.int .i64 (CmtD.parse l).count) rfl (by rw [show leVal (List.take 4 (List.drop 24 l)) = numAt l 24 4 from rfl, i64_nat (hlt 24 4)]; rfl) ?_
 ((refine zq ?_; refine zd rfl rfl (r32_ok p ⟨l, 28, 0, 0⟩) ?_); intro _ _)
 rw [g28.1, g28.2.2]
 dsimp only
 refine w ?_
 (apply VO.pure rfl rfl; apply PureAt.build sb_238 rfl; (simp [buildX, setL, Value.cells]; rfl); rfl)
 refine zq ?_
 refine OpV.stA (vs := (CmtD.parse l).cells) tab_ok rfl rfl rfl rfl (cmt_one _) zh (by simp) ?_
 refine w ?_
 (refine VE.done1N rfl rfl ?_)
 exact Ent.re (L := Row hb 238 (CmtD.parse l).cells :: R)
theorem chkR_ok {l : List UInt8} (hl : l.length = 128) (p hb : Nat) :
  Does1 W Tryz.prog 152 [.pointer (some ⟨p, 0, none⟩), .int .u64 (numAt l 8 8 : Nat), .int .u64 (numAt l 16 8 : Nat), .pointer (some ⟨hb, 0, none⟩)] (ReaderR p ⟨l, 24, 0, 0⟩ :: Row hb 98 zeroK.cells :: R) (.tuple #[]) (Row hb 98 (ChkD.parse l).cells :: R) := by
 have g24 := Rk.got_good (k := ⟨l, 24, 0, 0⟩) (n := 4) rfl (by simp only; omega)
 have hlt := numAt_lt l
 (refine Does.enter Tryz.func152 Tryz.ntmps152 rfl rfl ?_)
 refine w ?_
 ((refine zq ?_; refine zd rfl rfl (r32_ok p ⟨l, 24, 0, 0⟩) ?_); intro _ _)
 rw [g24.1, g24.2.2]
 dsimp only
 refine w ?_
 refine VO.re 11 (.int .i64 (ChkD.parse l).tail) rfl (by rw [show leVal (List.take 4 (List.drop 24 l)) = numAt l 24 4 from rfl, i64_nat (hlt 24 4)]; rfl) ?_
 (apply VO.pure rfl rfl; apply PureAt.build sb_98 rfl; (simp [buildX, setL, Value.cells]; rfl); rfl)
 refine zq ?_
 refine OpV.stA (vs := (ChkD.parse l).cells) tab_ok rfl rfl rfl rfl (chk_one _) zh (by simp) ?_
 refine w ?_
 (refine VE.done1N rfl rfl ?_)
 exact Ent.re (L := Row hb 98 (ChkD.parse l).cells :: R)
def cellsH (l : List UInt8) (i : Nat) : List Value :=
  [.int .u64 (numAt l 8 8 : Nat), .int .u64 (numAt l 16 8 : Nat)] ++ ((List.range 4).map fun j => .int .i64 (if j < i then ((numAt l (24 + 4 * j) 4 : Nat) : Int) else 0)) ++ [.bool false, .int .u32 0]
theorem cellsH_length (l : List UInt8) (i : Nat) : (cellsH l i).length = 8 := by simp [cellsH]
theorem cellsH_set (l : List UInt8) (i : Nat) (h : i < 4) : (cellsH l i).set (2 + i) (.int .i64 (numAt l (24 + 4 * i) 4 : Nat)) = cellsH l (i + 1) := by
 match i, h with
 | 0, _ => rfl
 | 1, _ => rfl
 | 2, _ => rfl
 | 3, _ => rfl
theorem nat_one (v : Nat) : ((v : Int) == 1) = decide (v = 1) := by
 rw [Bool.eq_iff_iff]; simp only [beq_iff_eq, decide_eq_true_eq]; omega
theorem hdrR_ok {l : List UInt8} (hl : l.length = 128) (p hb : Nat) :
  Does1 W Tryz.prog 224 [.pointer (some ⟨p, 0, none⟩), .int .u64 (numAt l 8 8 : Nat), .int .u64 (numAt l 16 8 : Nat), .pointer (some ⟨hb, 0, none⟩)] (ReaderR p ⟨l, 24, 0, 0⟩ :: Row hb 233 zeroH.cells :: R) (.tuple #[]) (Row hb 233 (HdrD.parse l).cells :: R) := by
 have hlt := numAt_lt l
 (refine Does.enter Tryz.func224 Tryz.ntmps224 rfl rfl ?_)
 refine w ?_
 (refine zq ?_; refine OpV.buildSlice1 st_309 rfl rfl (by first | (simp; done) | simp [Value.oneCell']) (by decide) rfl ?_; intro nb)
 refine w ?_
 have hrow : ∀ (i : Nat) (h : i < 4), [Value.pointer (some ⟨hb, 2, none⟩), .pointer (some ⟨hb, 3, none⟩), .pointer (some ⟨hb, 4, none⟩), .pointer (some ⟨hb, 5, none⟩)][i]? = some (.pointer (some ⟨hb, 2 + i, none⟩)) := by
  intro i h
  match i, h with
  | 0, _ => rfl
  | 1, _ => rfl
  | 2, _ => rfl
  | 3, _ => rfl
 refine VC.loop (α := Nat) (fun i => i <= 4) (fun i => Row nb 279 [Value.pointer (some ⟨hb, 2, none⟩), .pointer (some ⟨hb, 3, none⟩), .pointer (some ⟨hb, 4, none⟩), .pointer (some ⟨hb, 5, none⟩)] :: ReaderR p ⟨l, 24 + 4 * i, 0, 0⟩ :: Row hb 233 (cellsH l i) :: R)
  (fun i => [(0, .pointer (some ⟨p, 0, none⟩)), (3, .pointer (some ⟨hb, 0, none⟩)), (17, .slice (some ⟨nb, 0, none⟩) 4 4), (18, .int .i64 4), (19, .int .i64 i)]) (fun i => 4 - i) rfl 0 (Nat.zero_le _) Ent.re ⟨rfl, rfl, rfl, rfl, rfl, trivial⟩ ?_
 intro i hi
 refine w ?_
 refine zk ?_ ?_ <;> intro hc
 ·
  have hlt4 : i < 4 := by have := of_decide_eq_true hc; omega
  have g24 := Rk.got_good (k := ⟨l, 24 + 4 * i, 0, 0⟩) (n := 4) rfl (by simp only; omega)
  have hrow := hrow i hlt4
  generalize hgl : [Value.pointer (some ⟨hb, 2, none⟩), .pointer (some ⟨hb, 3, none⟩), .pointer (some ⟨hb, 4, none⟩), .pointer (some ⟨hb, 5, none⟩)] = cs at *
  have hr1 : Rds W (Row nb 279 cs :: ReaderR p ⟨l, 24 + 4 * i, 0, 0⟩ :: Row hb 233 (cellsH l i) :: R) 1 (some ⟨nb, 0, none⟩) 4 cs := Rds.row (by rw [<- hgl]; simp [Value.oneCell']) (.head _) (by rw [<- hgl]; rfl)
  refine w ?_
  refine VO.pure rfl rfl (PureAt.ldR tab_ok rfl rfl hr1 hrow) rfl ?_
  refine w ?_
  ((refine zq ?_; refine zd rfl rfl (r32_ok p ⟨l, 24 + 4 * i, 0, 0⟩) ?_); intro _ _)
  rw [g24.1, g24.2.2]
  dsimp only
  refine w ?_
  refine VO.re 26 (.int .i64 (numAt l (24 + 4 * i) 4 : Nat)) rfl (by rw [show leVal (List.take 4 (List.drop (24 + 4 * i) l)) = numAt l (24 + 4 * i) 4 from rfl, i64_nat (hlt _ 4)]) ?_
  refine zq ?_
  refine OpV.st (cs := cellsH l i) tab_ok rfl rfl rfl rfl zh (by rw [cellsH_length]; omega) ?_
  rw [cellsH_set l i hlt4]
  refine w ?_
  refine VE.round (i + 1) (by omega) (by omega) ⟨rfl, rfl, rfl, rfl, asV rfl (by congr 1), trivial⟩ ?_
  rw [show 24 + 4 * (i + 1) = 24 + 4 * i + 4 by omega]
  exact Ent.re
 ·
  have hge : i = 4 := by have := of_decide_eq_false hc; omega
  subst hge
  have g40 := Rk.got_good (k := ⟨l, 40, 0, 0⟩) (n := 4) rfl (by simp only; omega)
  have g44 := Rk.got_good (k := ⟨l, 44, 0, 0⟩) (n := 4) rfl (by simp only; omega)
  refine VC.ent (Ent.re (L := ReaderR p ⟨l, 40, 0, 0⟩ :: Row hb 233 (HdrD.mk (numAt l 8 8) (numAt l 16 8) (numAt l 24 4) (numAt l 28 4) (numAt l 32 4) (numAt l 36 4) false 0).cells :: R)) ?_
  refine w ?_
  ((refine zq ?_; refine zd rfl rfl (r32_ok p ⟨l, 40, 0, 0⟩) ?_); intro _ _)
  rw [g40.1, g40.2.2]
  dsimp only
  refine zv ?_
  refine VO.re 31 (.bool (HdrD.parse l).escaped) rfl (by rw [show leVal (List.take 4 (List.drop 40 l)) = numAt l 40 4 from rfl]; show Value.bool _ = Value.bool (decide (numAt l 40 4 = 1)); rw [nat_one]) ?_
  refine w ?_
  ((refine zq ?_; refine zd rfl rfl (r32_ok p ⟨l, 44, 0, 0⟩) ?_); intro _ _)
  rw [g44.1, g44.2.2]
  dsimp only
  refine w ?_
  (refine VE.done1N rfl rfl ?_)
  exact Ent.re (L := Row hb 233 (HdrD.parse l).cells :: R)
theorem dech_ok {ao : Option Addr} {cap : Nat} {l : List UInt8} (hr : Rds W R 1 ao l.length (bytes l)) (hcap : l.length <= cap) :
  Does1 W Tryz.prog 205 [.slice ao l.length cap] R (.tuple #[.agg (HdrD.dec l).2.cells.toArray, .int .u16 (HdrD.dec l).1]) R := by
 (refine Does.enter Tryz.func205 Tryz.ntmps205 rfl rfl ?_)
 refine w ?_
 refine zq ?_; refine OpV.allocS sb_233 rfl ?_; intro nz
 refine w ?_
 refine VO.pure rfl rfl (PureAt.makeFuncN rfl) rfl ?_
 refine VO.pure rfl rfl (PureAt.makeFuncN rfl) rfl ?_
 have hr1 : ∀ cs, Rds W (Row nz 233 cs :: R) 1 ao l.length (bytes l) := fun cs => hr.ent (Ent.drop Ent.refl)
 by_cases hl : looksM l 1 = 0
 ·
  have h128 := looks_len hl
  have e := show HdrD.dec l = if (HdrD.parse l).good /\ (HdrD.parse l).enc.2 = l then (0, HdrD.parse l) else (80, zeroH) by unfold HdrD.dec; rw [if_neg (by rw [hl]; simp)]
  (refine zq ?_; refine zy rfl rfl (read_good (hr1 zeroH.cells) (hr1 (HdrD.parse l).cells) hcap 1 hl 224 225 #[.pointer (some ⟨nz, 0, none⟩)] #[.pointer (some ⟨nz, 0, none⟩)] (fun _ _ => by simp) (fun _ _ => by simp) (HdrD.parse l).enc.2 (HdrD.parse l).enc.1 (fun p => hdrR_ok h128 p nz) (hdr2_ok (HdrD.parse l) (hdr_fit l) nz)) ?_)
  intro _ _
  by_cases hg : (HdrD.parse l).good /\ (HdrD.parse l).enc.2 = l
  ·
   rw [if_pos hg] at e
   rw [if_pos ⟨Decidable.of_not_not (fun h => enc_bad.1 h hg.1), hg.2⟩, e]
   refine w ?_
   refine zq ?_
   refine OpV.stA (vs := (HdrD.parse l).cells) tab_ok rfl rfl rfl rfl (hdr_one _) zh (by simp) ?_
   refine w ?_
   exact VE.results2 (.inl rfl) () rfl (ResIs.agg (vs := (HdrD.parse l).cells) tab_ok rfl rfl zm rfl rfl) (.tmp rfl) trivial rfl (Ent.re (L := R))
  ·
   rw [if_neg hg] at e
   rw [if_neg (fun h => hg ⟨Decidable.of_not_not (fun h2 => enc_bad.2 h2 h.1), h.2⟩), e]
   refine w ?_
   (apply VO.pure rfl rfl; apply PureAt.build sb_233 (pv := []) rfl; rfl; rfl)
   refine w ?_
   refine zq ?_
   refine OpV.stA (vs := zeroH.cells) tab_ok rfl rfl rfl rfl (hdr_one _) zh (by simp) ?_
   refine w ?_
   exact VE.results2 (.inl rfl) () rfl (ResIs.agg (vs := zeroH.cells) tab_ok rfl rfl zm rfl rfl) (.tmp rfl) trivial rfl (Ent.re (L := R))
 ·
  rw [hdr_decB hl]
  (refine zq ?_; refine zy rfl rfl (read_bad (hr1 zeroH.cells) hcap 1 hl _ _) ?_)
  intro _ _
  refine w ?_
  (refine VC.condTe rfl rfl (by simpa using hl) ?_)
  refine w ?_
  (apply VO.pure rfl rfl; apply PureAt.build sb_233 (pv := []) rfl; rfl; rfl)
  refine w ?_
  refine zq ?_
  refine OpV.stA (vs := zeroH.cells) tab_ok rfl rfl rfl rfl (hdr_one _) zh (by simp) ?_
  refine w ?_
  exact VE.results2 (.inl rfl) () rfl (ResIs.agg (vs := zeroH.cells) tab_ok rfl rfl zm rfl rfl) (.tmp rfl) trivial rfl (Ent.re (L := R))
theorem decc_ok {ao : Option Addr} {cap : Nat} {l : List UInt8} (hr : Rds W R 1 ao l.length (bytes l)) (hcap : l.length <= cap) :
  Does1 W Tryz.prog 204 [.slice ao l.length cap] R (.tuple #[.agg (CmtD.dec l).2.cells.toArray, .int .u16 (CmtD.dec l).1]) R := by
 (refine Does.enter Tryz.func204 Tryz.ntmps204 rfl rfl ?_)
 refine w ?_
 refine zq ?_; refine OpV.allocS sb_238 rfl ?_; intro nz
 refine w ?_
 refine VO.pure rfl rfl (PureAt.makeFuncN rfl) rfl ?_
 refine VO.pure rfl rfl (PureAt.makeFuncN rfl) rfl ?_
 have hr1 : ∀ cs, Rds W (Row nz 238 cs :: R) 1 ao l.length (bytes l) := fun cs => hr.ent (Ent.drop Ent.refl)
 by_cases hl : looksM l 2 = 0
 ·
  have h128 := looks_len hl
  have e := cmt_dec2 hl
  (refine zq ?_; refine zy rfl rfl (read_good (hr1 zeroC.cells) (hr1 (CmtD.parse l).cells) hcap 2 hl 222 223 #[.pointer (some ⟨nz, 0, none⟩)] #[.pointer (some ⟨nz, 0, none⟩)] (fun _ _ => by simp) (fun _ _ => by simp) (CmtD.parse l).enc.2 (CmtD.parse l).enc.1 (fun p => cmtR_ok h128 p nz) (cmt2_ok (CmtD.parse l) (cmt_fit l) nz)) ?_)
  intro _ _
  by_cases hg : (CmtD.parse l).good /\ (CmtD.parse l).enc.2 = l
  ·
   rw [if_pos hg] at e
   rw [if_pos ⟨Decidable.of_not_not (fun h => encc_bad.1 h hg.1), hg.2⟩, e]
   refine w ?_
   refine zq ?_
   refine OpV.stA (vs := (CmtD.parse l).cells) tab_ok rfl rfl rfl rfl (cmt_one _) zh (by simp) ?_
   refine w ?_
   exact VE.results2 (.inl rfl) () rfl (ResIs.agg (vs := (CmtD.parse l).cells) tab_ok rfl rfl zm rfl rfl) (.tmp rfl) trivial rfl (Ent.re (L := R))
  ·
   rw [if_neg hg] at e
   rw [if_neg (fun h => hg ⟨Decidable.of_not_not (fun h2 => encc_bad.2 h2 h.1), h.2⟩), e]
   refine w ?_
   (apply VO.pure rfl rfl; apply PureAt.build sb_238 (pv := []) rfl; rfl; rfl)
   refine w ?_
   refine zq ?_
   refine OpV.stA (vs := zeroC.cells) tab_ok rfl rfl rfl rfl (cmt_one _) zh (by simp) ?_
   refine w ?_
   exact VE.results2 (.inl rfl) () rfl (ResIs.agg (vs := zeroC.cells) tab_ok rfl rfl zm rfl rfl) (.tmp rfl) trivial rfl (Ent.re (L := R))
 ·
  rw [cmt_decB hl]
  (refine zq ?_; refine zy rfl rfl (read_bad (hr1 zeroC.cells) hcap 2 hl _ _) ?_)
  intro _ _
  refine w ?_
  (refine VC.condTe rfl rfl (by simpa using hl) ?_)
  refine w ?_
  (apply VO.pure rfl rfl; apply PureAt.build sb_238 (pv := []) rfl; rfl; rfl)
  refine w ?_
  refine zq ?_
  refine OpV.stA (vs := zeroC.cells) tab_ok rfl rfl rfl rfl (cmt_one _) zh (by simp) ?_
  refine w ?_
  exact VE.results2 (.inl rfl) () rfl (ResIs.agg (vs := zeroC.cells) tab_ok rfl rfl zm rfl rfl) (.tmp rfl) trivial rfl (Ent.re (L := R))
theorem decs_ok {ao : Option Addr} {cap : Nat} {l : List UInt8} (hr : Rds W R 1 ao l.length (bytes l)) (hcap : l.length <= cap) :
  Does1 W Tryz.prog 95 [.slice ao l.length cap] R (.tuple #[.agg (ChkD.dec l).2.cells.toArray, .int .u16 (ChkD.dec l).1]) R := by
 (refine Does.enter Tryz.func95 Tryz.ntmps95 rfl rfl ?_)
 refine w ?_
 refine zq ?_; refine OpV.allocS sb_98 rfl ?_; intro nz
 refine w ?_
 refine VO.pure rfl rfl (PureAt.makeFuncN rfl) rfl ?_
 refine VO.pure rfl rfl (PureAt.makeFuncN rfl) rfl ?_
 have hr1 : ∀ cs, Rds W (Row nz 98 cs :: R) 1 ao l.length (bytes l) := fun cs => hr.ent (Ent.drop Ent.refl)
 by_cases hl : looksM l 3 = 0
 ·
  have h128 := looks_len hl
  have e := chk_dec2 hl
  (refine zq ?_; refine zy rfl rfl (read_good (hr1 zeroK.cells) (hr1 (ChkD.parse l).cells) hcap 3 hl 152 154 #[.pointer (some ⟨nz, 0, none⟩)] #[.pointer (some ⟨nz, 0, none⟩)] (fun _ _ => by simp) (fun _ _ => by simp) (ChkD.parse l).enc.2 (ChkD.parse l).enc.1 (fun p => chkR_ok h128 p nz) (chk2_ok (ChkD.parse l) (chk_fit l) nz)) ?_)
  intro _ _
  by_cases hg : (ChkD.parse l).good /\ (ChkD.parse l).enc.2 = l
  ·
   rw [if_pos hg] at e
   rw [if_pos ⟨Decidable.of_not_not (fun h => encs_bad.1 h hg.1), hg.2⟩, e]
   refine w ?_
   refine zq ?_
   refine OpV.stA (vs := (ChkD.parse l).cells) tab_ok rfl rfl rfl rfl (chk_one _) zh (by simp) ?_
   refine w ?_
   exact VE.results2 (.inl rfl) () rfl (ResIs.agg (vs := (ChkD.parse l).cells) tab_ok rfl rfl zm rfl rfl) (.tmp rfl) trivial rfl (Ent.re (L := R))
  ·
   rw [if_neg hg] at e
   rw [if_neg (fun h => hg ⟨Decidable.of_not_not (fun h2 => encs_bad.2 h2 h.1), h.2⟩), e]
   refine w ?_
   (apply VO.pure rfl rfl; apply PureAt.build sb_98 (pv := []) rfl; rfl; rfl)
   refine w ?_
   refine zq ?_
   refine OpV.stA (vs := zeroK.cells) tab_ok rfl rfl rfl rfl (chk_one _) zh (by simp) ?_
   refine w ?_
   exact VE.results2 (.inl rfl) () rfl (ResIs.agg (vs := zeroK.cells) tab_ok rfl rfl zm rfl rfl) (.tmp rfl) trivial rfl (Ent.re (L := R))
 ·
  rw [chk_decB hl]
  (refine zq ?_; refine zy rfl rfl (read_bad (hr1 zeroK.cells) hcap 3 hl _ _) ?_)
  intro _ _
  refine w ?_
  (refine VC.condTe rfl rfl (by simpa using hl) ?_)
  refine w ?_
  (apply VO.pure rfl rfl; apply PureAt.build sb_98 (pv := []) rfl; rfl; rfl)
  refine w ?_
  refine zq ?_
  refine OpV.stA (vs := zeroK.cells) tab_ok rfl rfl rfl rfl (chk_one _) zh (by simp) ?_
  refine w ?_
  exact VE.results2 (.inl rfl) () rfl (ResIs.agg (vs := zeroK.cells) tab_ok rfl rfl zm rfl rfl) (.tmp rfl) trivial rfl (Ent.re (L := R))
def nought4 : List UInt8 := [0, 0, 0, 0]
def escM (b : List UInt8) : List UInt8 := if b.take 4 = magicL then nought4 ++ b.drop 4 else b
def isEsc (b : List UInt8) : Bool := decide (b.take 4 = magicL)
structure EscD where
  out : List UInt8
  is : Bool
  err : Int
def escD (b : List UInt8) : EscD := if b.length = 128 then ⟨escM b, isEsc b, 0⟩ else ⟨[], false, 4⟩
def unD (b : List UInt8) (e : Bool) : List UInt8 × Int :=
  if b.length ≠ 128 then ([], 4) else if e = false then (if b.take 4 = magicL then ([], 80) else (b, 0)) else (if b.take 4 = nought4 then (magicL ++ b.drop 4, 0) else ([], 80))
theorem esc_ok {ao : Option Addr} {cap : Nat} {l : List UInt8} (hr : Rds W R 1 ao l.length (bytes l)) (hcap : l.length <= cap) :
  Does W Tryz.prog 136 [.slice ao l.length cap] R (β := Option Addr × Nat) (fun _ => True) (fun x => .tuple #[.slice x.1 (escD l).out.length x.2, .bool (escD l).is, .int .u16 (escD l).err]) (fun x => OwnB x (escD l).out :: R) := by
 (refine Does.enter Tryz.func136 Tryz.ntmps136 rfl rfl ?_)
 refine w ?_
 refine zk ?_ ?_ <;> intro hc
 ·
  have hb : l.length ≠ 128 := by have := hc; simp at this; omega
  have e : escD l = ⟨[], false, 4⟩ := if_neg hb
  rw [e]
  refine w ?_
  refine VE.done (none, 0) rfl trivial rfl ?_; exact fun w hw => hw.ownNil _ _
 have h128 : l.length = 128 := by have := hc; simp at this; omega
 have e : escD l = ⟨escM l, isEsc l, 0⟩ := if_pos h128
 rw [e]
 dsimp only
 refine w ?_
 (refine zq ?_; refine zd rfl rfl (clone_ok hr (by omega)) ?_)
 rintro ⟨a1, c1⟩ -
 refine w ?_
 refine VO.pure rfl rfl (PureAt.toStr (l := l.take 4) tab_ok rfl rfl rfl rfl ((rds_head hr 4 (by omega)).ent (Ent.drop Ent.refl)) rfl) rfl ?_
 refine VO.pure rfl rfl (PureAt.strEq (b := magicL) tab_ok rfl rfl rfl rfl) rfl ?_
 refine w ?_
 refine zk ?_ ?_ <;> intro hc
 ·
  have hm : l.take 4 = magicL := by simpa using hc
  rw [show escM l = nought4 ++ l.drop 4 from if_pos hm, show isEsc l = true from decide_eq_true hm]
  refine VC.know (fun w hw => hw.ownCap (.head _)) ?_
  intro hcap1
  refine w ?_
  refine zq ?_
  refine OpV.clearHead (k := 3) st_65 rfl zh (by omega) ?_
  have hx : (Builtin.zeroCells (Value.int .u8 0).cells (3 + 1)).toList ++ (bytes l).drop ((3 + 1) * 1) = bytes (nought4 ++ l.drop 4) := by
   rw [bytes_append, show (Builtin.zeroCells (Value.int .u8 0).cells (3 + 1)).toList = bytes nought4 by simp [Builtin.zeroCells, Value.cells, bytes, nought4, byteV]; rfl]; exact congrArg (bytes nought4 ++ ·) (by simp [bytes])
  rw [hx]
  refine w ?_
  refine VE.done (a1, c1) rfl trivial ?_ ?_
  ·
   have : (nought4 ++ l.drop 4).length = l.length := by simp [nought4]; omega
   rw [this, hc]
  ·
   have : (nought4 ++ l.drop 4).length = l.length := by simp [nought4]; omega
   rw [show OwnB (a1, c1) (nought4 ++ l.drop 4) = Own 5 1 (.slice a1 l.length c1) l.length (bytes (nought4 ++ l.drop 4)) by unfold OwnB; rw [this]]
   exact Ent.re
 ·
  have hm : ¬ l.take 4 = magicL := by simpa using hc
  rw [show escM l = l from if_neg hm, show isEsc l = false from decide_eq_false hm]
  refine w ?_
  refine VE.done (a1, c1) rfl trivial ?_ Ent.re
  rw [hc]
theorem unesc_ok {ao : Option Addr} {cap : Nat} {l : List UInt8} (hr : Rds W R 1 ao l.length (bytes l)) (hcap : l.length <= cap) (b : Bool) :
  Does W Tryz.prog 206 [.slice ao l.length cap, .bool b] R (β := Option Addr × Nat) (fun _ => True) (fun x => .tuple #[.slice x.1 (unD l b).1.length x.2, .int .u16 (unD l b).2]) (fun x => OwnB x (unD l b).1 :: R) := by
 (refine Does.enter Tryz.func206 Tryz.ntmps206 rfl rfl ?_)
 refine w ?_
 refine zk ?_ ?_ <;> intro hc
 ·
  have hb : l.length ≠ 128 := by have := hc; simp at this; omega
  have e : unD l b = ([], 4) := if_pos hb
  rw [e]
  refine w ?_
  refine VE.done (none, 0) rfl trivial rfl ?_; exact fun w hw => hw.ownNil _ _
 have h128 : l.length = 128 := by have := hc; simp at this; omega
 have e0 : unD l b = if b = false then (if l.take 4 = magicL then ([], 80) else (l, 0)) else (if l.take 4 = nought4 then (magicL ++ l.drop 4, 0) else ([], 80)) := if_neg (fun h => h h128)
 rw [e0]
 cases b
 ·
  rw [if_pos rfl]
  refine w ?_
  refine VO.pure rfl rfl (PureAt.toStr (l := l.take 4) tab_ok rfl rfl rfl rfl (rds_head hr 4 (by omega)) rfl) rfl ?_
  refine VO.pure rfl rfl (PureAt.strEq (b := magicL) tab_ok rfl rfl rfl rfl) rfl ?_
  refine w ?_
  refine zk ?_ ?_ <;> intro hc
  ·
   have hm : l.take 4 = magicL := by simpa using hc
   rw [if_pos hm]
   refine w ?_
   (refine VC.condTe rfl rfl (decide_eq_true hm) ?_)
   refine w ?_
   refine VE.done (none, 0) rfl trivial rfl ?_; exact fun w hw => hw.ownNil _ _
  ·
   have hm : ¬ l.take 4 = magicL := by simpa using hc
   rw [if_neg hm]
   refine w ?_
   (refine zq ?_; refine zd rfl rfl (clone_ok hr (by omega)) ?_)
   rintro ⟨a1, c1⟩ -
   refine w ?_
   exact VE.done (a1, c1) rfl trivial rfl Ent.re
 ·
  rw [if_neg (by decide)]
  refine w ?_
  refine VO.pure rfl rfl (PureAt.toStr (l := l.take 4) tab_ok rfl rfl rfl rfl (rds_head hr 4 (by omega)) rfl) rfl ?_
  refine VO.pure rfl rfl (PureAt.strEq (b := nought4) tab_ok rfl rfl rfl rfl) rfl ?_
  refine w ?_
  refine zk ?_ ?_ <;> intro hc
  ·
   have hm : ¬ l.take 4 = nought4 := by simpa using hc
   rw [if_neg hm]
   refine w ?_
   refine VE.done (none, 0) rfl trivial rfl ?_; exact fun w hw => hw.ownNil _ _
  ·
   have hm : l.take 4 = nought4 := by simpa using hc
   rw [if_pos hm]
   refine w ?_
   (refine zq ?_; refine zd rfl rfl (clone_ok hr (by omega)) ?_)
   rintro ⟨a1, c1⟩ -
   refine w ?_
   refine zq ?_
   refine OpV.copyStr (l := magicL) st_65 rfl rfl zh (by simp [magicL]; omega) rfl ?_
   have hx : (magicL.map fun (c : UInt8) => Value.int .u8 (c.toNat : Int)) ++ (bytes l).drop magicL.length = bytes (magicL ++ l.drop 4) := by
    rw [bytes_append]; exact congrArg (bytes magicL ++ ·) (by simp [bytes, magicL])
   rw [hx]
   refine w ?_
   have : (magicL ++ l.drop 4).length = l.length := by simp [magicL]; omega
   refine VE.done (a1, c1) rfl trivial ?_ ?_
   · rw [this]
   ·
    rw [show OwnB (a1, c1) (magicL ++ l.drop 4) = Own 5 1 (.slice a1 l.length c1) l.length (bytes (magicL ++ l.drop 4)) by unfold OwnB; rw [this]]
    exact Ent.re
theorem resc_ok {ao : Option Addr} {cap : Nat} {l : List UInt8} (hr : Rds W R 1 ao l.length (bytes l)) (hcap : l.length <= cap) :
  Does W Tryz.prog 171 [.slice ao l.length cap] R (β := Option Addr × Nat) (fun _ => True) (fun x => .tuple #[.slice x.1 (escD l).out.length x.2, .bool (escD l).is, .int .i64 (escD l).err]) (fun x => OwnB x (escD l).out :: R) := by
 (refine Does.enter Tryz.func171 Tryz.ntmps171 rfl rfl ?_)
 refine w ?_
 refine zk ?_ ?_ <;> intro hc
 ·
  have hb : l.length ≠ 128 := by have := hc; simp at this; omega
  have e : escD l = ⟨[], false, 4⟩ := if_neg hb
  rw [e]
  refine w ?_
  refine VE.done (none, 0) rfl trivial rfl ?_; exact fun w hw => hw.ownNil _ _
 have h128 : l.length = 128 := by have := hc; simp at this; omega
 have e : escD l = ⟨escM l, isEsc l, 0⟩ := if_pos h128
 rw [e]
 dsimp only
 refine w ?_
 refine VO.pure rfl rfl (PureAt.toStr (l := l.take 4) tab_ok rfl rfl rfl rfl (rds_head hr 4 (by omega)) rfl) rfl ?_
 refine VO.pure rfl rfl (PureAt.strEq (b := magicL) tab_ok rfl rfl rfl rfl) rfl ?_
 refine w ?_
 refine VC.ent (fun w hw => hw.ownNil 5 1) ?_
 refine zk ?_ ?_ <;> intro hc
 ·
  have hm : ¬ l.take 4 = magicL := by simpa using hc
  rw [show escM l = l from if_neg hm, show isEsc l = false from decide_eq_false hm]
  refine w ?_
  refine zq ?_
  refine OpV.append st_65 rfl rfl zh (fun w hw => (hr.sees (cap := cap) hw.tail).src st_65.und) (by simp only [maxLen]; omega) (by omega) rfl ?_
  intro a1 c1
  simp only [Nat.zero_add, List.nil_append]
  refine w ?_
  exact VE.done (a1, c1) rfl trivial rfl Ent.re
 ·
  have hm : l.take 4 = magicL := by simpa using hc
  rw [show escM l = nought4 ++ l.drop 4 from if_pos hm, show isEsc l = true from decide_eq_true hm]
  obtain ⟨a, rfl⟩ : ∃ a, ao = some a := by cases ao with | none => have := hr.nil rfl; omega | some a => exact ⟨a, rfl⟩
  have hp := rds_part hr 4 128 (by omega) (by omega) hcap
  rw [show 128 - 4 = 124 from rfl, List.take_of_length_le (by rw [List.length_drop]; omega)] at hp
  refine w ?_
  (refine zq ?_; refine OpV.buildSlice1 st_65 rfl rfl (by first | (simp; done) | simp [Value.oneCell']) (by decide) rfl ?_; intro nb)
  refine zq ?_
  refine OpV.appendRow st_65 rfl rfl zh zm rfl (by simp [Value.oneCell']) (by decide) (by decide) rfl ?_
  intro a1 c1
  refine w ?_
  refine VO.re 21 (.slice (subA (some a) cap 4 1) 124 (cap - 4)) rfl (by rw [h128]) ?_
  refine zq ?_
  refine OpV.append (news := bytes (l.drop 4)) (m := 124) st_65 rfl rfl zh (fun w hw => ((hp.ent (Ent.drop (Ent.drop Ent.refl))).sees (cap := cap - 4) hw).src st_65.und) (by decide) (by decide) rfl ?_
  intro a2 c2
  refine w ?_
  have hl4 : (nought4 ++ l.drop 4).length = 0 + 4 + 124 := by simp [nought4]; omega
  refine VE.done (a2, c2) rfl trivial (by rw [hl4]) ?_
  rw [show OwnB (a2, c2) (nought4 ++ l.drop 4) = Own 5 1 (.slice a2 (0 + 4 + 124) c2) (0 + 4 + 124) ([] ++ bytes nought4 ++ bytes (l.drop 4)) by unfold OwnB; rw [hl4, bytes_append]; rfl]
  exact Ent.re
theorem runesc_ok {ao : Option Addr} {cap : Nat} {l : List UInt8} (hr : Rds W R 1 ao l.length (bytes l)) (hcap : l.length <= cap) (b : Bool) :
  Does W Tryz.prog 216 [.slice ao l.length cap, .bool b] R (β := Option Addr × Nat) (fun _ => True) (fun x => .tuple #[.slice x.1 (unD l b).1.length x.2, .int .i64 (unD l b).2]) (fun x => OwnB x (unD l b).1 :: R) := by
 (refine Does.enter Tryz.func216 Tryz.ntmps216 rfl rfl ?_)
 refine w ?_
 refine zk ?_ ?_ <;> intro hc
 ·
  have hb : l.length ≠ 128 := by have := hc; simp at this; omega
  have e : unD l b = ([], 4) := if_pos hb
  rw [e]
  refine w ?_
  refine VE.done (none, 0) rfl trivial rfl ?_; exact fun w hw => hw.ownNil _ _
 have h128 : l.length = 128 := by have := hc; simp at this; omega
 have e0 : unD l b = if b = false then (if l.take 4 = magicL then ([], 80) else (l, 0)) else (if l.take 4 = nought4 then (magicL ++ l.drop 4, 0) else ([], 80)) := if_neg (fun h => h h128)
 rw [e0]
 obtain ⟨a, rfl⟩ : ∃ a, ao = some a := by cases ao with | none => have := hr.nil rfl; omega | some a => exact ⟨a, rfl⟩
 cases b
 ·
  rw [if_pos rfl]
  refine w ?_
  refine VO.pure rfl rfl (PureAt.toStr (l := l.take 4) tab_ok rfl rfl rfl rfl (rds_head hr 4 (by omega)) rfl) rfl ?_
  refine VO.pure rfl rfl (PureAt.strEq (b := magicL) tab_ok rfl rfl rfl rfl) rfl ?_
  refine w ?_
  refine zk ?_ ?_ <;> intro hc
  ·
   have hm : l.take 4 = magicL := by simpa using hc
   rw [if_pos hm]
   refine w ?_
   refine VE.done (none, 0) rfl trivial rfl ?_; exact fun w hw => hw.ownNil _ _
  ·
   have hm : ¬ l.take 4 = magicL := by simpa using hc
   rw [if_neg hm]
   refine VC.ent (fun w hw => hw.ownNil 5 1) ?_
   refine w ?_
   refine zq ?_
   refine OpV.append st_65 rfl rfl zh (fun w hw => (hr.sees (cap := cap) hw.tail).src st_65.und) (by simp only [maxLen]; omega) (by omega) rfl ?_
   intro a1 c1
   simp only [Nat.zero_add, List.nil_append]
   refine w ?_
   exact VE.done (a1, c1) rfl trivial rfl Ent.re
 ·
  rw [if_neg (by decide)]
  refine w ?_
  refine VO.pure rfl rfl (PureAt.toStr (l := l.take 4) tab_ok rfl rfl rfl rfl (rds_head hr 4 (by omega)) rfl) rfl ?_
  refine VO.pure rfl rfl (PureAt.strEq (b := nought4) tab_ok rfl rfl rfl rfl) rfl ?_
  refine w ?_
  refine zk ?_ ?_ <;> intro hc
  ·
   have hm : ¬ l.take 4 = nought4 := by simpa using hc
   rw [if_neg hm]
   refine w ?_
   refine VE.done (none, 0) rfl trivial rfl ?_; exact fun w hw => hw.ownNil _ _
  ·
   have hm : l.take 4 = nought4 := by simpa using hc
   rw [if_pos hm]
   have hp := rds_part hr 4 128 (by omega) (by omega) hcap
   rw [show 128 - 4 = 124 from rfl, List.take_of_length_le (by rw [List.length_drop]; omega)] at hp
   refine VC.ent (fun w hw => hw.ownNil 5 1) ?_
   refine w ?_
   refine zq ?_
   refine OpV.append (news := bytes magicL) (m := 4) st_65 rfl rfl zh (fun w hw => Src.ofString w (TabData.string_ok tab_ok rfl) _) (by decide) (by decide) rfl ?_
   intro a1 c1
   refine w ?_
   refine VO.re 27 (.slice (subA (some a) cap 4 1) 124 (cap - 4)) rfl (by rw [h128]) ?_
   refine zq ?_
   refine OpV.append (news := bytes (l.drop 4)) (m := 124) st_65 rfl rfl zh (fun w hw => ((hp.ent (Ent.drop Ent.refl)).sees (cap := cap - 4) hw).src st_65.und) (by decide) (by decide) rfl ?_
   intro a2 c2
   refine w ?_
   have hl4 : (magicL ++ l.drop 4).length = 0 + 4 + 124 := by simp [magicL]; omega
   refine VE.done (a2, c2) rfl trivial (by rw [hl4]) ?_
   rw [show OwnB (a2, c2) (magicL ++ l.drop 4) = Own 5 1 (.slice a2 (0 + 4 + 124) c2) (0 + 4 + 124) ([] ++ bytes magicL ++ bytes (l.drop 4)) by unfold OwnB; rw [hl4, bytes_append]; rfl]
   exact Ent.re
theorem crcF_append (n : BitVec 32) (a b : List UInt8) : crcF n (a ++ b) = crcF (crcF n a) b := by simp [crcF]
theorem crcM_append (n : BitVec 32) (a b : List UInt8) : crcM n (a ++ b) = crcM (crcM n a) b := by
 unfold crcM; rw [crcF_append]; simp
theorem crcM_nil (n : BitVec 32) : crcM n [] = n := by simp [crcM, crcF]
theorem hdr_decO {b : List UInt8} (h : (HdrD.dec b).1 = 0) : looksM b 1 = 0 /\ (HdrD.dec b).2.good /\ (HdrD.dec b).2.enc = (0, b) /\ (HdrD.dec b).2 = HdrD.parse b := by
 unfold HdrD.dec at h ⊢
 split at h
 · rename_i h1; exact absurd h h1
 ·
  rename_i h1
  split at h
  ·
   rename_i h2
   rw [if_neg h1, if_pos h2]
   exact ⟨Decidable.of_not_not h1, h2.1, by rw [hdr_ok h2.1]; have := h2.2; rw [hdr_ok h2.1] at this; exact congrArg (Prod.mk 0) this, rfl⟩
  · cases h
theorem cmt_decO {b : List UInt8} (h : (CmtD.dec b).1 = 0) : looksM b 2 = 0 /\ (CmtD.dec b).2.good /\ (CmtD.dec b).2.enc = (0, b) := by
 unfold CmtD.dec at h ⊢
 split at h
 · rename_i h1; exact absurd h h1
 ·
  rename_i h1
  split at h
  ·
   rename_i h2
   rw [if_neg h1, if_pos h2]
   exact ⟨Decidable.of_not_not h1, h2.1, by rw [cmt_ok h2.1]; have := h2.2; rw [cmt_ok h2.1] at this; exact congrArg (Prod.mk 0) this⟩
  · cases h
theorem nought_magic : magicL ≠ nought4 := by decide
theorem escN_length {b : List UInt8} (h : b.length = 128) : (escM b).length = 128 := by
 unfold escM; split
 · simp [nought4]; omega
 · exact h
theorem escN_head {l : List UInt8} : (escM l).take 4 ≠ magicL := by
 unfold escM; split
 · rw [List.take_left' (by rfl)]; exact fun h => nought_magic h.symm
 · assumption
theorem unN_back {l : List UInt8} (h : l.length = 128) : unD (escM l) (isEsc l) = (l, 0) := by
 have hl := escN_length h
 have hh := escN_head (l := l)
 unfold unD isEsc
 rw [if_neg (by omega)]
 by_cases hm : l.take 4 = magicL
 ·
  rw [decide_eq_true hm, if_neg (by simp)]
  have e : escM l = nought4 ++ l.drop 4 := if_pos hm
  rw [e, List.take_left' (by rfl), if_pos rfl, List.drop_left' (by rfl), <- hm, List.take_append_drop]
 · rw [decide_eq_false hm, if_pos rfl, if_neg hh, show escM l = l from if_neg hm]
theorem unN_esc {b : List UInt8} {e : Bool} (h : (unD b e).2 = 0) : (unD b e).1.length = 128 /\ escM (unD b e).1 = b /\ isEsc (unD b e).1 = e := by
 unfold unD at h ⊢
 split at h
 · cases h
 ·
  rename_i h1
  have h128 : b.length = 128 := Decidable.of_not_not h1
  rw [if_neg h1]
  split at h
  ·
   rename_i h2
   rw [if_pos h2]
   split at h
   · cases h
   ·
    rename_i h3
    rw [if_neg h3]
    exact ⟨h128, if_neg h3, by rw [h2]; exact decide_eq_false h3⟩
  ·
   rename_i h2
   rw [if_neg h2]
   split at h
   ·
    rename_i h3
    rw [if_pos h3]
    have ht : (magicL ++ b.drop 4).take 4 = magicL := List.take_left' (by rfl)
    have hd : (magicL ++ b.drop 4).drop 4 = b.drop 4 := List.drop_left' (by rfl)
    refine ⟨by simp [magicL]; omega, ?_, ?_⟩
    ·
     show escM (magicL ++ b.drop 4) = b
     unfold escM
     rw [if_pos ht, hd, <- h3, List.take_append_drop]
    ·
     show isEsc (magicL ++ b.drop 4) = e
     cases e with
     | true => exact decide_eq_true ht
     | false => exact absurd rfl h2
   · cases h
structure PatD where
  member : Int
  row : Int
  data : List UInt8
def PatD.far (p : PatD) : Prop := p.member < 0 \/ 15 < p.member \/ p.row < 0 \/ 4095 < p.row
instance (p : PatD) : Decidable p.far := by unfold PatD.far; exact inferInstance
def hdrP (e s n i : Nat) (p : PatD) : HdrD := ⟨e, s, i, n, p.member, p.row, isEsc p.data, (crcS (escM p.data)).toNat⟩
def headP (e s n i : Nat) (p : PatD) : List UInt8 := (hdrP e s n i p).enc.2
def pairsP (e s n : Nat) : List PatD -> Nat -> List (List UInt8)
  | [], _ => []
  | p :: r, i => headP e s n i p :: escM p.data :: pairsP e s n r (i + 1)
def headsP (e s n : Nat) : List PatD -> Nat -> List UInt8
  | [], _ => []
  | p :: r, i => headP e s n i p ++ headsP e s n r (i + 1)
def cmtP (e s : Nat) (l : List PatD) : CmtD := ⟨e, s, l.length, (crcS (headsP e s l.length l 0)).toNat⟩
def secsM (e s : Nat) (l : List PatD) : Int × List (List UInt8) :=
  if l.length < 1 \/ 1023 < l.length then (1, []) else if ¬ cntOk e s \/ ∃ p ∈ l, p.far then (3, []) else if ∃ p ∈ l, p.data.length ≠ 128 then (4, []) else
  (0, pairsP e s l.length l 0 ++ [(cmtP e s l).enc.2])
theorem pairsP_length (e s n : Nat) : ∀ (l : List PatD) (i : Nat), (pairsP e s n l i).length = 2 * l.length
 | [], _ => rfl
 | _ :: r, i => by simp only [pairsP, List.length_cons, pairsP_length e s n r]; omega
theorem pairsP_get (e s n : Nat) : ∀ (l : List PatD) (i j : Nat) (h : j < l.length), (pairsP e s n l i)[2 * j]? = some (headP e s n (i + j) l[j]) /\ (pairsP e s n l i)[2 * j + 1]? = some (escM l[j].data)
  | p :: r, i, 0, _ => ⟨rfl, rfl⟩
  | p :: r, i, j + 1, h => by
    have ih := pairsP_get e s n r (i + 1) j (by simpa using h)
    rw [show 2 * (j + 1) = 2 * j + 2 by omega, show 2 * j + 2 + 1 = (2 * j + 1) + 2 by omega]
    simp only [pairsP, List.getElem?_cons_succ, List.getElem_cons_succ]
    rw [show i + (j + 1) = i + 1 + j by omega]
    exact ih
theorem headsP_append (e s n : Nat) : ∀ (l m : List PatD) (i : Nat), headsP e s n (l ++ m) i = headsP e s n l i ++ headsP e s n m (i + l.length)
 | [], m, i => by simp [headsP]
 | p :: r, m, i => by simp only [List.cons_append, headsP, headsP_append e s n r, List.append_assoc, List.length_cons]; rw [show i + 1 + r.length = i + (r.length + 1) by omega]
theorem pairsP_append (e s n : Nat) : ∀ (l m : List PatD) (i : Nat), pairsP e s n (l ++ m) i = pairsP e s n l i ++ pairsP e s n m (i + l.length)
 | [], m, i => by simp [pairsP]
 | p :: r, m, i => by simp only [List.cons_append, pairsP, pairsP_append e s n r, List.length_cons]; rw [show i + 1 + r.length = i + (r.length + 1) by omega]
structure Fine (e s : Nat) (l : List PatD) : Prop where
  cnt : cntOk e s
  n1 : 1 <= l.length
  n2 : l.length <= 1023
  pat : ∀ p ∈ l, (0 <= p.member /\ p.member <= 15) /\ (0 <= p.row /\ p.row <= 4095) /\ p.data.length = 128
def rowsP (e s : Nat) (l : List PatD) : List (List UInt8) := pairsP e s l.length l 0 ++ [(cmtP e s l).enc.2]
theorem rowsP_length (e s : Nat) (l : List PatD) : (rowsP e s l).length = 2 * l.length + 1 := by simp [rowsP, pairsP_length]
theorem secs_fine {e s : Nat} {l : List PatD} (h : Fine e s l) : secsM e s l = (0, rowsP e s l) := by
 unfold secsM
 rw [if_neg (by have := h.n1; have := h.n2; omega), if_neg, if_neg]
 · rfl
 · rintro ⟨p, hp, hd⟩; exact hd (h.pat p hp).2.2
 ·
  rintro (h1 | ⟨p, hp, hf⟩)
  · exact h1 h.cnt
  · have := h.pat p hp; unfold PatD.far at hf; omega
theorem secs_ok {e s : Nat} {l : List PatD} (h : (secsM e s l).1 = 0) : Fine e s l := by
 unfold secsM at h
 split at h
 · cases h
 ·
  rename_i h1
  split at h
  · cases h
  ·
   rename_i h2
   split at h
   · cases h
   ·
    rename_i h3
    refine ⟨Decidable.of_not_not fun q => h2 (.inl q), by omega, by omega, fun p hp => ?_⟩
    have hf : ¬ p.far := fun q => h2 (.inr ⟨p, hp, q⟩)
    have hd : p.data.length = 128 := Decidable.of_not_not fun q => h3 ⟨p, hp, q⟩
    unfold PatD.far at hf
    exact ⟨by omega, by omega, hd⟩
theorem secs_cases (e s : Nat) (l : List PatD) : (Fine e s l /\ secsM e s l = (0, rowsP e s l)) \/ (¬ Fine e s l /\ (secsM e s l).1 ≠ 0 /\ (secsM e s l).2 = []) := by
 by_cases h : (secsM e s l).1 = 0
 · exact .inl ⟨secs_ok h, secs_fine (secs_ok h)⟩
 ·
  refine .inr ⟨fun q => h (by rw [secs_fine q]), h, ?_⟩
  unfold secsM at h ⊢
  split
  · rfl
  ·
   split
   · rfl
   ·
    split
    · rfl
    · rename_i h1 h2 h3; rw [if_neg h1, if_neg h2, if_neg h3] at h; exact absurd rfl h
theorem hdrP_good {e s : Nat} {l : List PatD} (h : Fine e s l) {i : Nat} (hi : i < l.length) : (hdrP e s l.length i l[i]).good := by
 have hp := h.pat l[i] (List.getElem_mem hi)
 have := h.n2
 exact ⟨h.cnt, ⟨by simp only [hdrP]; omega, by simp only [hdrP]; omega⟩, ⟨by simp only [hdrP]; omega, by simp only [hdrP]; omega⟩, hp.1, hp.2.1⟩
theorem hdrP_sum (e s n i : Nat) (p : PatD) : (hdrP e s n i p).sum < 4294967296 := (crcS (escM p.data)).isLt
theorem cmtP_good {e s : Nat} {l : List PatD} (h : Fine e s l) : (cmtP e s l).good := ⟨h.cnt, by have := h.n1; simp only [cmtP]; omega, by have := h.n2; simp only [cmtP]; omega⟩
theorem cmtP_sum (e s : Nat) (l : List PatD) : (cmtP e s l).sum < 4294967296 := (crcS _).isLt
theorem headP_dec {e s : Nat} {l : List PatD} (h : Fine e s l) {i : Nat} (hi : i < l.length) : HdrD.dec (headP e s l.length i l[i]) = (0, hdrP e s l.length i l[i]) := hdr_back _ (hdrP_good h hi) (hdrP_sum _ _ _ _ _)
theorem headP_length {e s : Nat} {l : List PatD} (h : Fine e s l) {i : Nat} (hi : i < l.length) : (headP e s l.length i l[i]).length = 128 := by
 unfold headP; rw [hdr_ok (hdrP_good h hi)]; exact sectF_length _ _ _ _ (hdr_sum _)
theorem cmtP_dec {e s : Nat} {l : List PatD} (h : Fine e s l) : CmtD.dec (cmtP e s l).enc.2 = (0, cmtP e s l) := cmt_back _ (cmtP_good h) (cmtP_sum _ _ _)
theorem cmtP_length {e s : Nat} {l : List PatD} (h : Fine e s l) : (cmtP e s l).enc.2.length = 128 := by
 rw [cmt_ok (cmtP_good h)]; exact sectF_length _ _ _ _ (cmt_sum _)
theorem rowsP_even {e s : Nat} {l : List PatD} {i : Nat} (hi : i < l.length) : (rowsP e s l)[2 * i]? = some (headP e s l.length i l[i]) := by
 unfold rowsP
 rw [List.getElem?_append_left (by rw [pairsP_length]; omega), (pairsP_get e s l.length l 0 i hi).1, Nat.zero_add]
theorem rowsP_odd {e s : Nat} {l : List PatD} {i : Nat} (hi : i < l.length) : (rowsP e s l)[2 * i + 1]? = some (escM l[i].data) := by
 unfold rowsP
 rw [List.getElem?_append_left (by rw [pairsP_length]; omega), (pairsP_get e s l.length l 0 i hi).2]
theorem rowsP_last (e s : Nat) (l : List PatD) : (rowsP e s l)[2 * l.length]? = some (cmtP e s l).enc.2 := by
 unfold rowsP
 rw [List.getElem?_append_right (by rw [pairsP_length]; exact Nat.le_refl _), pairsP_length]; simp
theorem rowsP_128 {e s : Nat} {l : List PatD} (h : Fine e s l) : ∀ r ∈ rowsP e s l, r.length = 128 := by
 intro r hr
 obtain ⟨j, hj⟩ := List.mem_iff_getElem?.1 hr
 have hlt := (List.getElem?_eq_some_iff.1 hj).1
 rw [rowsP_length] at hlt
 rcases Nat.lt_or_ge j (2 * l.length) with h1 | h1
 ·
  rcases Nat.mod_two_eq_zero_or_one j with h2 | h2
  ·
   rw [show j = 2 * (j / 2) by omega, rowsP_even (by omega)] at hj
   injection hj with hj; rw [<- hj]; exact headP_length h _
  ·
   rw [show j = 2 * (j / 2) + 1 by omega, rowsP_odd (by omega)] at hj
   injection hj with hj; rw [<- hj]; exact escN_length (h.pat _ (List.getElem_mem _)).2.2
 ·
  rw [show j = 2 * l.length by omega, rowsP_last] at hj
  injection hj with hj; rw [<- hj]; exact cmtP_length h
abbrev SecF := Nat -> List UInt8
def stepOk (sec : SecF) (e s : Nat) (n : Int) (i : Nat) : Prop :=
  (HdrD.dec (sec (2 * i))).1 = 0 /\ (HdrD.dec (sec (2 * i))).2.epoch = e /\ (HdrD.dec (sec (2 * i))).2.seq = s /\ (HdrD.dec (sec (2 * i))).2.index = i /\ (HdrD.dec (sec (2 * i))).2.count = n /\
  (unD (sec (2 * i + 1)) (HdrD.dec (sec (2 * i))).2.escaped).2 = 0 /\ (crcS (sec (2 * i + 1))).toNat = (HdrD.dec (sec (2 * i))).2.sum
instance (sec : SecF) (e s : Nat) (n : Int) (i : Nat) : Decidable (stepOk sec e s n i) := by unfold stepOk; exact inferInstance
def patAt (sec : SecF) (i : Nat) : PatD := ⟨(HdrD.dec (sec (2 * i))).2.member, (HdrD.dec (sec (2 * i))).2.row, (unD (sec (2 * i + 1)) (HdrD.dec (sec (2 * i))).2.escaped).1⟩
def headsF (sec : SecF) : Nat -> List UInt8
  | 0 => []
  | i + 1 => headsF sec i ++ sec (2 * i)
def batN (sec : SecF) : Int := (HdrD.dec (sec 0)).2.count
def batOk (sec : SecF) (room e s : Nat) : Prop :=
  (HdrD.dec (sec 0)).1 = 0 /\ 2 * batN sec + 1 <= room /\ (∀ i, i < (batN sec).toNat -> stepOk sec e s (batN sec) i) /\
  (CmtD.dec (sec (2 * (batN sec).toNat))) = (0, ⟨e, s, batN sec, (crcS (headsF sec (batN sec).toNat)).toNat⟩)
instance instCmtN : DecidableEq CmtD := fun a b => if h : a.epoch = b.epoch /\ a.seq = b.seq /\ a.count = b.count /\ a.sum = b.sum then isTrue (by cases a; cases b; simp_all) else isFalse (fun q => h (by rw [q]; exact ⟨rfl, rfl, rfl, rfl⟩))
instance (sec : SecF) (room e s : Nat) : Decidable (batOk sec room e s) := by unfold batOk; exact inferInstance
def batM (sec : SecF) (room e s : Nat) : Option (List PatD) := if batOk sec room e s then some ((List.range (batN sec).toNat).map (patAt sec)) else none
theorem headsP_map (e s : Nat) (sec : SecF) (n : Nat) : ∀ (m : Nat), (∀ i, i < m -> sec (2 * i) = headP e s n i (patAt sec i)) -> headsP e s n ((List.range m).map (patAt sec)) 0 = headsF sec m
  | 0, _ => rfl
  | m + 1, h => by
    rw [List.range_succ, List.map_append, headsP_append, headsP_map e s sec n m (fun i hi => h i (by omega))]
    simp only [List.map_cons, List.map_nil, headsP, List.append_nil, List.length_map, List.length_range, Nat.zero_add, headsF]
    rw [h m (by omega)]
theorem bat_iff (sec : SecF) (room e s : Nat) (l : List PatD) : batM sec room e s = some l ↔ Fine e s l /\ 2 * l.length + 1 <= room /\ ∀ j, j < 2 * l.length + 1 -> (rowsP e s l)[j]? = some (sec j) := by
 constructor
 ·
  intro h
  unfold batM at h
  split at h
  ·
   rename_i hb
   injection h with h
   obtain ⟨h0, hroom, hst, hc⟩ := hb
   have g0 := (hdr_decO h0).2.1
   have hn1 : 1 <= batN sec /\ batN sec <= 1023 := g0.2.1
   obtain ⟨N, hN⟩ : ∃ N : Nat, batN sec = N := ⟨(batN sec).toNat, by omega⟩
   rw [hN] at hst hc hroom hn1
   rw [hN] at h
   rw [Int.toNat_natCast] at hst hc h
   have hl : l.length = N := by rw [<- h]; simp
   have hget : ∀ (i : Nat) (hi : i < l.length), l[i] = patAt sec i := by
    intro i hi; simp only [<- h, List.getElem_map, List.getElem_range]
   have hs : ∀ i, i < N -> sec (2 * i) = headP e s N i (patAt sec i) /\ sec (2 * i + 1) = escM (patAt sec i).data /\ (patAt sec i).data.length = 128 /\ (0 <= (patAt sec i).member /\ (patAt sec i).member <= 15) /\ (0 <= (patAt sec i).row /\ (patAt sec i).row <= 4095) /\ cntOk e s := by
    intro i hi
    obtain ⟨a1, a2, a3, a4, a5, a6, a7⟩ := hst i hi
    obtain ⟨_, b2, b3, b4⟩ := hdr_decO a1
    obtain ⟨c1, c2, c3⟩ := unN_esc a6
    have hh : (HdrD.dec (sec (2 * i))).2 = hdrP e s N i (patAt sec i) := by
     unfold hdrP patAt
     dsimp only
     rw [c2, c3, a7, <- a2, <- a3, <- a4, <- a5]
    refine ⟨?_, c2.symm, c1, b2.2.2.2.1, b2.2.2.2.2, by rw [<- a2, <- a3]; exact b2.1⟩
    unfold headP
    rw [<- hh, b3]
   have hfine : Fine e s l := by
    refine ⟨(hs 0 (by omega)).2.2.2.2.2, by omega, by omega, fun p hp => ?_⟩
    obtain ⟨i, hi, rfl⟩ := List.mem_iff_getElem.1 hp
    rw [hget i hi]
    have := hs i (by omega)
    exact ⟨this.2.2.2.1, this.2.2.2.2.1, this.2.2.1⟩
   refine ⟨hfine, by omega, fun j hj => ?_⟩
   rcases Nat.lt_or_ge j (2 * l.length) with h1 | h1
   ·
    rcases Nat.mod_two_eq_zero_or_one j with h2 | h2
    ·
     obtain ⟨i, rfl⟩ : ∃ i, j = 2 * i := ⟨j / 2, by omega⟩
     rw [rowsP_even (by omega), hget i (by omega), hl, <- (hs i (by omega)).1]
    ·
     obtain ⟨i, rfl⟩ : ∃ i, j = 2 * i + 1 := ⟨j / 2, by omega⟩
     rw [rowsP_odd (by omega), hget i (by omega), <- (hs i (by omega)).2.1]
   ·
    obtain rfl : j = 2 * l.length := by omega
    rw [rowsP_last]
    have hcm : cmtP e s l = ⟨e, s, N, (crcS (headsF sec N)).toNat⟩ := by
     unfold cmtP
     rw [hl, <- h, headsP_map e s sec N N (fun i hi => (hs i hi).1)]
    have hd := cmt_decO (b := sec (2 * N)) (by rw [hc])
    rw [hc] at hd
    rw [hcm, hd.2.2, hl]
  · cases h
 ·
  rintro ⟨hf, hroom, hrow⟩
  have hn1 := hf.n1
  have he : ∀ (i : Nat) (hi : i < l.length), sec (2 * i) = headP e s l.length i l[i] /\ sec (2 * i + 1) = escM l[i].data := by
   intro i hi
   have h1 := hrow (2 * i) (by omega)
   have h2 := hrow (2 * i + 1) (by omega)
   rw [rowsP_even hi] at h1
   rw [rowsP_odd hi] at h2
   injection h1 with h1; injection h2 with h2
   exact ⟨h1.symm, h2.symm⟩
  have hd : ∀ (i : Nat) (hi : i < l.length), HdrD.dec (sec (2 * i)) = (0, hdrP e s l.length i l[i]) := fun i hi => by rw [(he i hi).1]; exact headP_dec hf hi
  have hu : ∀ (i : Nat) (hi : i < l.length), unD (sec (2 * i + 1)) (hdrP e s l.length i l[i]).escaped = (l[i].data, 0) := fun i hi => by rw [(he i hi).2]; exact unN_back (hf.pat _ (List.getElem_mem hi)).2.2
  have h0 := hd 0 (by omega)
  rw [Nat.mul_zero] at h0
  have hN : batN sec = l.length := by unfold batN; rw [h0]; rfl
  have hp : ∀ (i : Nat) (hi : i < l.length), patAt sec i = l[i] := by
   intro i hi
   unfold patAt
   rw [hd i hi]; dsimp only
   rw [hu i hi]; rfl
  have hm : (List.range l.length).map (patAt sec) = l := by
   apply List.ext_getElem
   · simp
   · intro i h1 h2; simp only [List.getElem_map, List.getElem_range]; exact hp i h2
  unfold batM
  rw [if_pos]
  · rw [hN, Int.toNat_natCast, hm]
  ·
   refine ⟨by rw [h0], by rw [hN]; omega, ?_, ?_⟩
   ·
    intro i hi
    rw [hN, Int.toNat_natCast] at hi
    unfold stepOk
    rw [hN, hd i hi]
    dsimp only
    rw [hu i hi, (he i hi).2]
    exact ⟨rfl, rfl, rfl, rfl, rfl, rfl, rfl⟩
   ·
    have h1 := hrow (2 * l.length) (by omega)
    rw [rowsP_last] at h1
    injection h1 with h1
    rw [hN, Int.toNat_natCast, <- h1, cmtP_dec hf]
    congr 1
    unfold cmtP
    congr 3
    rw [<- headsP_map e s sec l.length l.length (fun i hi => by rw [hp i hi]; exact (he i hi).1), hm]
def rotF (sec : SecF) (size hd : Nat) : SecF := fun j => sec ((hd + j) % size)
def ofM (sec : SecF) (size e : Nat) : Nat -> Nat -> Nat -> Nat -> List (Nat × List PatD)
  | 0, _, _, _ => []
  | f + 1, nx, us, hd => if nx <= 4611686018427387904 then match batM (rotF sec size hd) (size - us) e nx with
    | none => []
    | some l => (nx, l) :: ofM sec size e f (nx + 1) (us + (2 * l.length + 1)) ((hd + (2 * l.length + 1)) % size)
    else []
def costT (ts : List (Nat × List PatD)) : Nat := (ts.map fun t => 2 * t.2.length + 1).sum
def mostC : Nat := 4611686018427387904
def numb (s : Nat) : List (List PatD) -> List (Nat × List PatD)
  | [] => []
  | l :: r => (s, l) :: numb (s + 1) r
def costL (ls : List (List PatD)) : Nat := (ls.map fun l => 2 * l.length + 1).sum
theorem costL_cons (l : List PatD) (r : List (List PatD)) : costL (l :: r) = (2 * l.length + 1) + costL r := by simp [costL]
theorem costL_append (a b : List (List PatD)) : costL (a ++ b) = costL a + costL b := by simp [costL]
theorem costT_cons (t : Nat × List PatD) (r : List (Nat × List PatD)) : costT (t :: r) = (2 * t.2.length + 1) + costT r := by simp [costT]
theorem costT_append (a b : List (Nat × List PatD)) : costT (a ++ b) = costT a + costT b := by simp [costT]
theorem costT_numb : ∀ (ls : List (List PatD)) (s : Nat), costT (numb s ls) = costL ls
 | [], _ => rfl
 | l :: r, s => by rw [numb, costT_cons, costL_cons, costT_numb r]
theorem numb_length : ∀ (ls : List (List PatD)) (s : Nat), (numb s ls).length = ls.length
 | [], _ => rfl
 | _ :: r, s => by simp [numb, numb_length r]
theorem rotF_mod (sec : SecF) (size hd : Nat) : rotF sec size (hd % size) = rotF sec size hd := by
 funext j; unfold rotF; rw [Nat.mod_add_mod]
section
variable {sec : SecF} {size e : Nat}
theorem bat_room {room s : Nat} {l : List PatD} (h : batM sec room e s = some l) : 2 * l.length + 1 <= room /\ 1 <= l.length := by
 have := (bat_iff sec room e s l).1 h
 exact ⟨this.2.1, this.1.n1⟩
theorem of_cost : ∀ (f nx us hd : Nat), us <= size -> us + costT (ofM sec size e f nx us hd) <= size
  | 0, _, us, _, h => by simpa [ofM, costT] using h
  | f + 1, nx, us, hd, h => by
    unfold ofM
    split
    · split
      · simpa [costT] using h
      · rename_i l hl
        have hr := bat_room hl
        have ih := of_cost f (nx + 1) (us + (2 * l.length + 1)) ((hd + (2 * l.length + 1)) % size) (by omega)
        rw [costT_cons]; dsimp only; omega
    · simpa [costT] using h
theorem of_each : ∀ (f nx us hd i : Nat) (t : Nat × List PatD), (ofM sec size e f nx us hd)[i]? = some t -> t.1 = nx + i /\ nx + i <= mostC /\
    batM (rotF sec size (hd + costT ((ofM sec size e f nx us hd).take i))) (size - (us + costT ((ofM sec size e f nx us hd).take i))) e (nx + i) = some t.2
  | 0, _, _, _, i, t, h => by simp [ofM] at h
  | f + 1, nx, us, hd, i, t, h => by
    unfold ofM at h ⊢
    split at h
    · rename_i hm
      rw [if_pos hm]
      split at h
      · simp at h
      · rename_i l hl
        cases i with
        | zero =>
          simp only [List.getElem?_cons_zero, Option.some.injEq] at h
          subst h
          exact ⟨rfl, hm, by simpa [costT] using hl⟩
        | succ i =>
          simp only [List.getElem?_cons_succ] at h
          obtain ⟨h1, h2, h3⟩ := of_each f _ _ _ i t h
          refine ⟨by omega, by omega, ?_⟩
          rw [List.take_succ_cons, costT_cons]
          rw [<- rotF_mod] at h3
          rw [Nat.mod_add_mod, rotF_mod] at h3
          rw [show hd + ((2 * (nx, l).2.length + 1) + costT ((ofM sec size e f (nx + 1) (us + (2 * l.length + 1)) ((hd + (2 * l.length + 1)) % size)).take i)) = hd + (2 * l.length + 1) + costT ((ofM sec size e f (nx + 1) (us + (2 * l.length + 1)) ((hd + (2 * l.length + 1)) % size)).take i) by simp only; omega,
            show us + ((2 * (nx, l).2.length + 1) + costT ((ofM sec size e f (nx + 1) (us + (2 * l.length + 1)) ((hd + (2 * l.length + 1)) % size)).take i)) = us + (2 * l.length + 1) + costT ((ofM sec size e f (nx + 1) (us + (2 * l.length + 1)) ((hd + (2 * l.length + 1)) % size)).take i) by simp only; omega,
            show nx + (i + 1) = nx + 1 + i by omega]
          exact h3
    · simp at h
theorem of_prefix : ∀ (ls : List (List PatD)) (f nx us hd : Nat), (∀ (k : Nat) (h : k < ls.length), nx + k <= mostC /\ batM (rotF sec size (hd + costL (ls.take k))) (size - (us + costL (ls.take k))) e (nx + k) = some ls[k]) -> ls.length <= f ->
    ofM sec size e f nx us hd = numb nx ls ++ ofM sec size e (f - ls.length) (nx + ls.length) (us + costL ls) (if ls = [] then hd else (hd + costL ls) % size)
  | [], f, nx, us, hd, _, _ => by simp [numb, costL]
  | l :: r, 0, nx, us, hd, _, h => by simp at h
  | l :: r, f + 1, nx, us, hd, h, hf => by
    obtain ⟨h1, h2⟩ := h 0 (by simp)
    simp only [List.take_zero, Nat.add_zero, List.getElem_cons_zero, show costL [] = 0 from rfl] at h1 h2
    have ih := of_prefix r f (nx + 1) (us + (2 * l.length + 1)) ((hd + (2 * l.length + 1)) % size) (fun k hk => by
      obtain ⟨h3, h4⟩ := h (k + 1) (by simpa using hk)
      rw [List.take_succ_cons, costL_cons, List.getElem_cons_succ] at h4
      refine ⟨by omega, ?_⟩
      rw [<- rotF_mod, Nat.mod_add_mod, rotF_mod, show hd + (2 * l.length + 1) + costL (r.take k) = hd + (2 * l.length + 1 + costL (r.take k)) by omega, show us + (2 * l.length + 1) + costL (r.take k) = us + (2 * l.length + 1 + costL (r.take k)) by omega, show nx + 1 + k = nx + (k + 1) by omega]
      exact h4) (by simpa using hf)
    rw [ofM, if_pos (show nx <= 4611686018427387904 from h1), h2]
    dsimp only
    rw [ih]
    simp only [numb, List.cons_append, List.length_cons, costL_cons, reduceCtorEq, if_false, List.cons.injEq, true_and]
    congr 2
    · omega
    · omega
    · omega
    · by_cases hr : r = []
      · subst hr; simp [costL]
      · rw [if_neg hr, Nat.mod_add_mod]; congr 1; omega
end
def flatR (e s : Nat) : List (List PatD) -> List (List UInt8)
  | [] => []
  | l :: r => rowsP e s l ++ flatR e (s + 1) r
theorem flatR_length (e : Nat) : ∀ (ls : List (List PatD)) (s : Nat), (flatR e s ls).length = costL ls
 | [], _ => rfl
 | l :: r, s => by rw [flatR, List.length_append, rowsP_length, flatR_length e r, costL_cons]
theorem flatR_append (e : Nat) : ∀ (a b : List (List PatD)) (s : Nat), flatR e s (a ++ b) = flatR e s a ++ flatR e (s + a.length) b
  | [], b, s => rfl
  | l :: r, b, s => by
    simp only [List.cons_append, flatR, flatR_append e r, List.append_assoc, List.length_cons]
    rw [show s + 1 + r.length = s + (r.length + 1) by omega]
theorem flatR_get (e : Nat) (ls : List (List PatD)) (s k j : Nat) (h : k < ls.length) (hj : j < 2 * ls[k].length + 1) : (flatR e s ls)[costL (ls.take k) + j]? = (rowsP e (s + k) ls[k])[j]? := by
 have e1 : ls = ls.take k ++ ls[k] :: ls.drop (k + 1) := by rw [<- List.drop_eq_getElem_cons h, List.take_append_drop]
 have e2 : flatR e s ls = flatR e s (ls.take k) ++ (rowsP e (s + k) ls[k] ++ flatR e (s + k + 1) (ls.drop (k + 1))) := by
  conv => lhs; rw [e1]
  rw [flatR_append, flatR, List.length_take, Nat.min_eq_left (by omega)]
 rw [e2, List.getElem?_append_right (by rw [flatR_length]; omega), flatR_length, show costL (ls.take k) + j - costL (ls.take k) = j by omega, List.getElem?_append_left (by rw [rowsP_length]; exact hj)]
theorem costL_take_le (ls : List (List PatD)) (k : Nat) (h : k < ls.length) : costL (ls.take k) + (2 * ls[k].length + 1) <= costL ls := by
 have e1 : ls = ls.take k ++ ls[k] :: ls.drop (k + 1) := by rw [<- List.drop_eq_getElem_cons h, List.take_append_drop]
 have : costL ls = costL (ls.take k) + ((2 * ls[k].length + 1) + costL (ls.drop (k + 1))) := by
  conv => lhs; rw [e1]
  rw [costL_append, costL_cons]
 omega
def FineL (e s : Nat) (ls : List (List PatD)) : Prop := ∀ (k : Nat) (h : k < ls.length), Fine e (s + k) ls[k]
theorem laid_found {sec : SecF} {size e s at_ : Nat} {ls : List (List PatD)} (hf : FineL e s ls) (hc : costL ls <= size) (hs : ∀ j, j < costL ls -> (flatR e s ls)[j]? = some (sec ((at_ + j) % size))) :
  ∀ (k : Nat) (h : k < ls.length), s + k <= mostC /\ batM (rotF sec size (at_ + costL (ls.take k))) (size - (0 + costL (ls.take k))) e (s + k) = some ls[k] := by
 intro k h
 have hk := hf k h
 have hle := costL_take_le ls k h
 refine ⟨hk.cnt.2.2, (bat_iff _ _ _ _ _).2 ⟨hk, by omega, fun j hj => ?_⟩⟩
 rw [<- flatR_get e ls s k j h hj, hs _ (by omega)]
 unfold rotF
 rw [Nat.add_assoc]
theorem of_laid {sec : SecF} {size e s at_ f : Nat} {ls : List (List PatD)} (hf : FineL e s ls) (hc : costL ls <= size) (hs : ∀ j, j < costL ls -> (flatR e s ls)[j]? = some (sec ((at_ + j) % size))) (hl : ls.length <= f) :
  ofM sec size e f s 0 at_ = numb s ls ++ ofM sec size e (f - ls.length) (s + ls.length) (costL ls) (if ls = [] then at_ else (at_ + costL ls) % size) := by
 have := of_prefix ls f s 0 at_ (laid_found hf hc hs) hl
 rwa [Nat.zero_add] at this
theorem costL_len : ∀ (ls : List (List PatD)), ls.length <= costL ls
 | [] => Nat.le_refl _
 | l :: r => by have := costL_len r; rw [costL_cons, List.length_cons]; omega
theorem of_none {sec : SecF} {size e f nx us hd : Nat} (h : batM (rotF sec size hd) (size - us) e nx = none) : ofM sec size e f nx us hd = [] := by
  cases f with
  | zero => rfl
  | succ f => unfold ofM; split
              · rw [h]
              · rfl
theorem bat_no {sec : SecF} {room e s : Nat} (h : (HdrD.dec (sec 0)).1 ≠ 0) : batM sec room e s = none := by
 unfold batM; rw [if_neg (fun q => h q.1)]
theorem bat_head {sec : SecF} {room e s : Nat} {l : List PatD} (h : batM sec room e s = some l) : (HdrD.dec (sec 0)).1 = 0 /\ (HdrD.dec (sec 0)).2.epoch = e /\ (HdrD.dec (sec 0)).2.seq = s := by
 obtain ⟨h1, h2, h3⟩ := (bat_iff _ _ _ _ _).1 h
 have h4 := h3 0 (by omega)
 have hn := h1.n1
 have h5 := rowsP_even (e := e) (s := s) (l := l) (i := 0) (by omega)
 rw [Nat.mul_zero] at h5
 rw [h5] at h4
 injection h4 with h4
 rw [<- h4, headP_dec h1 (by omega)]
 exact ⟨rfl, rfl, rfl⟩
theorem bat_other {sec : SecF} {room e s e' s' : Nat} {l : List PatD} {room' : Nat} (h : batM sec room e s = some l) (hne : e' ≠ e \/ s' ≠ s) : batM sec room' e' s' = none := by
  cases h2 : batM sec room' e' s' with
  | none => rfl
  | some l' =>
    have a := bat_head h
    have b := bat_head h2
    omega
theorem kind_nought {b : List UInt8} (h : b.take 4 ≠ magicL) (k : UInt8) (hk : k ≠ 0) : looksM b k ≠ 0 := by
 unfold looksM
 split
 · decide
 ·
  have : kindB b = 0 := by unfold kindB; rw [if_neg (fun q => h q.2.1)]
  rw [this, if_pos (fun q => hk q.symm)]; decide
theorem dec_nought {b : List UInt8} (h : b.take 4 ≠ magicL) : (HdrD.dec b).1 ≠ 0 /\ (CmtD.dec b).1 ≠ 0 := by
 constructor
 · intro q; exact kind_nought h 1 (by decide) (hdr_decO q).1
 · intro q; exact kind_nought h 2 (by decide) (cmt_decO q).1
theorem hurt_none {sec was : SecF} {room room' e s : Nat} {l : List PatD} {j : Nat} {z : List UInt8} (h : batM sec room e s = some l) (hj : j < 2 * l.length + 1) (hz : z.take 4 ≠ magicL) (hw : was j = z) (hk : ∀ i, i < 2 * l.length + 1 -> i ≠ j -> was i = sec i)
    (hu : (crcS (sec j)).toNat ≠ (crcS z).toNat) : batM was room' e s = none := by
  cases h2 : batM was room' e s with
  | none => rfl
  | some l' =>
    exfalso
    obtain ⟨f1, _, r1⟩ := (bat_iff _ _ _ _ _).1 h
    obtain ⟨f2, _, r2⟩ := (bat_iff _ _ _ _ _).1 h2
    have n1 := f1.n1
    have n2 := f2.n1
    have head : ∀ {x : Nat} {m : List PatD} {q : SecF} (f : Fine e s m) (r : ∀ j, j < 2 * m.length + 1 -> (rowsP e s m)[j]? = some (q j)) (hx : x < m.length), HdrD.dec (q (2 * x)) = (0, hdrP e s m.length x m[x]) := by
      intro x m q f r hx
      have := r (2 * x) (by omega)
      rw [rowsP_even hx] at this
      injection this with this
      rw [<- this, headP_dec f hx]
    by_cases h0 : j = 0
    · subst h0
      have := head f2 r2 (x := 0) (by omega)
      rw [Nat.mul_zero, hw] at this
      exact (dec_nought hz).1 (by rw [this])
    · have a1 := head f1 r1 (x := 0) (by omega)
      have a2 := head f2 r2 (x := 0) (by omega)
      rw [Nat.mul_zero] at a1 a2
      rw [hk 0 (by omega) (fun q => h0 q.symm), a1] at a2
      have hlen : l.length = l'.length := by
        injection a2 with _ a2
        have : ((l.length : Nat) : Int) = (l'.length : Nat) := congrArg HdrD.count a2
        omega
      rcases Nat.mod_two_eq_zero_or_one j with hp | hp
      · obtain ⟨x, rfl⟩ : ∃ x, j = 2 * x := ⟨j / 2, by omega⟩
        by_cases hx : x < l'.length
        · have := head f2 r2 hx
          rw [hw] at this
          exact (dec_nought hz).1 (by rw [this])
        · have hx2 : x = l'.length := by omega
          subst hx2
          have := r2 (2 * l'.length) (by omega)
          rw [rowsP_last] at this
          injection this with this
          rw [hw] at this
          exact (dec_nought hz).2 (by rw [<- this, cmtP_dec f2])
      · obtain ⟨x, rfl⟩ : ∃ x, j = 2 * x + 1 := ⟨j / 2, by omega⟩
        have hx : x < l.length := by omega
        have hx' : x < l'.length := by omega
        have b1 := head f1 r1 hx
        have b2 := head f2 r2 hx'
        rw [hk (2 * x) (by omega) (by omega), b1] at b2
        injection b2 with _ b2
        have hs : (crcS (escM l[x].data)).toNat = (crcS (escM l'[x].data)).toNat := congrArg HdrD.sum b2
        have c1 := r1 (2 * x + 1) (by omega)
        have c2 := r2 (2 * x + 1) (by omega)
        rw [rowsP_odd hx] at c1
        rw [rowsP_odd hx'] at c2
        injection c1 with c1; injection c2 with c2
        rw [hw] at c2
        rw [c1, c2] at hs
        exact hu hs
def secB (ring : List UInt8) : SecF := fun k => (ring.drop (128 * k)).take 128
structure FndD where
  txns : List (Nat × List PatD)
  next : Nat
  head : Nat
  used : Nat
def foundM (ring : List UInt8) (c : ChkD) : Int × FndD :=
  if c.enc.1 ≠ 0 \/ ring.length % 128 ≠ 0 \/ ring.length / 128 < 5 \/ 2048 < ring.length / 128 \/ ((ring.length / 128 : Nat) : Int) <= c.tail then (1, ⟨[], 0, 0, 0⟩) else
  let ts := ofM (secB ring) (ring.length / 128) c.epoch (ring.length / 128 + 1) c.seq 0 c.tail.toNat
  (0, ⟨ts, c.seq + ts.length, (c.tail.toNat + costT ts) % (ring.length / 128), costT ts⟩)
theorem mod_inj {a i j n : Nat} (hi : i < n) (hj : j < n) (h : (a + i) % n = (a + j) % n) : i = j := by
 have h1 := Nat.mod_add_div (a + i) n
 have h2 := Nat.mod_add_div (a + j) n
 rw [h] at h1
 generalize (a + i) / n = x at *
 generalize (a + j) / n = y at *
 rcases Nat.lt_trichotomy x y with hxy | hxy | hxy
 ·
  have : n * x + n <= n * y := by rw [<- Nat.mul_succ]; exact Nat.mul_le_mul_left _ hxy
  omega
 · subst hxy; omega
 ·
  have : n * y + n <= n * x := by rw [<- Nat.mul_succ]; exact Nat.mul_le_mul_left _ hxy
  omega
abbrev zb : Value := .int .u8 0
theorem st_sectors : SliceT Tryz.prog 214 220 (.agg (List.replicate 128 zb).toArray) 128 128 :=
 ⟨by kernel_rfl, by kernel_rfl, by simp [Value.cells], by intro u hu; simp only [Value.cells, List.toList_toArray] at hu; rw [List.eq_of_mem_replicate hu]; rfl⟩
theorem st_writes : SliceT Tryz.prog 215 262 (.agg (.int .i64 0 :: List.replicate 128 zb).toArray) 129 136 :=
 ⟨by kernel_rfl, by kernel_rfl, by simp [Value.cells], by
  intro u hu; simp only [Value.cells, List.toList_toArray, List.mem_cons] at hu
  rcases hu with hu | hu
  · subst hu; rfl
  · rw [List.eq_of_mem_replicate hu]; rfl⟩
theorem sb_write : StructT Tryz.prog 262 (.int .i64 0 :: List.replicate 128 zb) [(0, 1), (1, 128)] := by
 refine ⟨fun w => ?_, _, Tryz.underlying262, fun w => by simp⟩
 obtain ⟨i, hi, hz, hs, hb⟩ := info_parts st_writes.info
 simp [zeroValue, typeInfo, hi, hz]
theorem setL_mid : ∀ (vs a b : List Value), vs.length = b.length -> setL (a ++ b) a.length vs = a ++ vs
  | [], a, b, h => by cases b with | nil => simp [setL] | cons _ _ => cases h
  | v :: r, a, [], h => by cases h
  | v :: r, a, x :: b, h => by
    have := setL_mid r (a ++ [v]) b (by simpa using h)
    rw [setL, List.set_append_right _ _ (Nat.le_refl _), Nat.sub_self, List.set_cons_zero]
    simpa using this
structure DiskD where
  last : List (List UInt8)
  cache : List (Nat × List UInt8)
  failed : Bool
structure DiskD.ok (k : DiskD) : Prop where
  last : ∀ b ∈ k.last, b.length = 128
  cache : ∀ c ∈ k.cache, c.1 < k.last.length /\ c.2.length = 128
  size : k.last.length <= 8192
def wCells (c : Nat × List UInt8) : List Value := .int .i64 (c.1 : Int) :: bytes c.2
def lastR : List (Nat × List UInt8) -> Int -> Option Int
  | [], _ => none
  | c :: r, a => if a = (c.1 : Int) then some (r.length : Int) else lastR r a
def seenOf (c : List (Nat × List UInt8)) : Int -> Option Int := lastR c.reverse
theorem seenOf_nil : seenOf [] = fun _ => none := rfl
theorem seenOf_snoc (c : List (Nat × List UInt8)) (x : Nat × List UInt8) : seenOf (c ++ [x]) = updM (seenOf c) (x.1 : Int) (c.length : Int) := by
 funext a
 simp [seenOf, lastR, updM]
abbrev DiskO (d : Nat) (k : DiskD) (x : (Option Addr × Nat) × (Option Addr × Nat) × Nat) (R : List SProp) : List SProp :=
  Row d 218 [.slice x.1.1 k.last.length x.1.2, .slice x.2.1.1 k.cache.length x.2.1.2, .map (some x.2.2), .bool k.failed] :: Own 220 128 (.slice x.1.1 k.last.length x.1.2) k.last.length (k.last.flatMap bytes) ::
    Own 262 129 (.slice x.2.1.1 k.cache.length x.2.1.2) k.cache.length (k.cache.flatMap wCells) :: MapR x.2.2 (seenOf k.cache) :: R
def DiskR (d : Nat) (k : DiskD) : SProp := ex fun x : (Option Addr × Nat) × (Option Addr × Nat) × Nat => Sl.star (fact k.ok :: DiskO d k x [])
theorem DiskR.open {W w : World} {d : Nat} {k : DiskD} {R : List SProp} (hw : Holds W (DiskR d k :: R) w) : ∃ x : { x : (Option Addr × Nat) × (Option Addr × Nat) × Nat // k.ok }, Holds W (DiskO d k x.1 R) w := by
 obtain ⟨x, h⟩ := hw.exOpen
 have h := h.join
 exact ⟨⟨x, h.factOpen⟩, h.tail⟩
theorem DiskR.shut {d : Nat} {k : DiskD} {R : List SProp} (hk : k.ok) {x : (Option Addr × Nat) × (Option Addr × Nat) × Nat} : Ent W (DiskO d k x R) (DiskR d k :: R) := fun _ hw =>
 Holds.exShut x (Holds.nest (L := [_, _, _, _, _]) (hw.factShut hk))
theorem DiskR.know {W w : World} {d : Nat} {k : DiskD} {R : List SProp} (hw : Holds W (DiskR d k :: R) w) : k.ok := by
 obtain ⟨⟨_, h⟩, _⟩ := DiskR.open hw
 exact h
def zeroSec : List UInt8 := List.replicate 128 0
theorem zeroSec_length : zeroSec.length = 128 := by simp [zeroSec]
theorem madeCells_same (z : Value) (s m : Nat) (hs : 0 < s) : (madeCells (List.replicate s z).toArray m).toList = List.replicate m z := by
 apply List.ext_getElem
 · simp [madeCells]
 ·
  intro i h1 h2
  have : i % s < s := Nat.mod_lt _ hs
  simp [madeCells, this]
theorem zeros_flat : ∀ n : Nat, (List.replicate n zeroSec).flatMap bytes = List.replicate (n * 128) zb
  | 0 => by simp
  | n + 1 => by
    rw [List.replicate_succ, List.flatMap_cons, zeros_flat n, zeroSec, bytes_replicate, Nat.add_mul, Nat.one_mul, Nat.add_comm (n * 128), List.replicate_append_replicate]
theorem disknew_ok (n : Nat) (h1 : 1 <= n) (h2 : n <= 8192) :
  Does W Tryz.prog 86 [.int .i64 n] R (β := Nat) (fun _ => True) (fun d => .tuple #[.pointer (some ⟨d, 0, none⟩), .int .u16 0]) (fun d => DiskR d ⟨List.replicate n zeroSec, [], false⟩ :: R) := by
 (refine Does.enter Tryz.func86 Tryz.ntmps86 rfl rfl ?_)
 refine w ?_; repeat (refine zj fun _ => ?_; refine w ?_)
 (first | refine VO.gF rfl rfl rfl (by simp; omega) ?_ | refine VD.gF rfl rfl rfl (by simp; omega) ?_)
 refine w ?_; repeat (refine zj fun _ => ?_; refine w ?_)
 (refine VC.condFe rfl rfl (by simp; omega) ?_)
 refine w ?_; repeat (refine zj fun _ => ?_; refine w ?_)
 refine zq ?_
 refine OpV.makeSlice st_sectors rfl rfl ?_ ?_ rfl ?_
 · omega
 · simp only [maxLen]; omega
 intro nb
 have e : (madeCells (Value.agg (List.replicate 128 zb).toArray).cells (n * 128)).toList = (List.replicate n zeroSec).flatMap bytes := by
  rw [zeros_flat]; exact madeCells_same zb 128 (n * 128) (by decide)
 rw [e]
 refine zq ?_
 refine OpV.makeMap rfl ?_
 intro mb
 (apply VO.pure rfl rfl; apply PureAt.build sb_218 rfl; (simp [buildX, setL, Value.cells]; rfl); rfl)
 refine w ?_; repeat (refine zj fun _ => ?_; refine w ?_)
 refine VE.done _ rfl trivial rfl ?_
 intro w hw
 have hw := hw.ownNil 262 129
 have hl : (List.replicate n zeroSec).length = n := List.length_replicate
 refine DiskR.shut (k := ⟨List.replicate n zeroSec, [], false⟩) (x := ((some ⟨nb, 0, none⟩, n), (none, 0), mb)) ⟨fun b hb => (by rw [List.eq_of_mem_replicate hb]; exact zeroSec_length), fun c hc => absurd hc (by simp), (by rw [hl]; exact h2)⟩ w (hw.reord ?_)
 simp only [DiskO, hl, List.length_nil, List.flatMap_nil, seenOf_nil]
 (repeat first | exact .refl | (apply Reord.cons; focus repeat first | exact .head | apply Del.tail) | exact .nil | apply Reord.drop)
theorem disknew_bad (n : Int) (h : n < 1 \/ 8192 < n) :
  Does1 W Tryz.prog 86 [.int .i64 n] R (.tuple #[.pointer none, .int .u16 40]) R := by
 (refine Does.enter Tryz.func86 Tryz.ntmps86 rfl rfl ?_)
 refine w ?_; repeat (refine zj fun _ => ?_; refine w ?_)
 refine zg ?_ ?_ <;> intro hb
 ·
  refine w ?_; repeat (refine zj fun _ => ?_; refine w ?_)
  (first | exact VE.done1 rfl rfl Ent.refl | exact VE.done1N rfl rfl Ent.refl)
 ·
  refine w ?_; repeat (refine zj fun _ => ?_; refine w ?_)
  (refine VC.condTe rfl rfl (by have := of_decide_eq_false hb; simp; omega) ?_)
  refine w ?_; repeat (refine zj fun _ => ?_; refine w ?_)
  (first | exact VE.done1 rfl rfl Ent.refl | exact VE.done1N rfl rfl Ent.refl)
def DiskD.may (k : DiskD) (at_ : Int) : Int := if k.failed then 2 else if at_ < 0 \/ (k.last.length : Int) <= at_ then 3 else 0
theorem may_ok (d : Nat) (k : DiskD) (at_ : Int) :
  Does1 W Tryz.prog 196 [.pointer (some ⟨d, 0, none⟩), .int .i64 at_] (DiskR d k :: R) (.int .u16 (k.may at_)) (DiskR d k :: R) := by
 (refine Does.enter Tryz.func196 Tryz.ntmps196 rfl rfl ?_)
 refine VC.obtain (fun w => DiskR.open) ?_
 rintro ⟨⟨⟨ao, cap⟩, ⟨ao', cap'⟩, m⟩, hk⟩
 refine w ?_
 refine zk ?_ ?_ <;> intro hc
 ·
  refine w ?_
  refine VE.done1 rfl ?_ ?_
  · simp [DiskD.may, hc]
  · exact DiskR.shut hk
 have hf : k.failed = false := hc
 refine w ?_
 refine zg ?_ ?_ <;> intro hb
 ·
  have : at_ < 0 := of_decide_eq_true hb
  refine w ?_
  refine VE.done1 rfl ?_ ?_
  · simp [DiskD.may, hf, this]
  · exact DiskR.shut hk
 have h0 : ¬ at_ < 0 := of_decide_eq_false hb
 refine w ?_
 refine zk ?_ ?_ <;> intro hc
 ·
  have : (k.last.length : Int) <= at_ := by simpa using hc
  refine w ?_
  refine VE.done1 rfl ?_ ?_
  · simp [DiskD.may, hf, this]
  · exact DiskR.shut hk
 ·
  have : ¬ (k.last.length : Int) <= at_ := by simpa using hc
  refine w ?_
  refine VE.done1 rfl ?_ ?_
  · simp only [DiskD.may, hf]; rw [if_neg (by simp), if_neg (by omega)]
  · exact DiskR.shut hk
theorem failed_ok (d : Nat) (k : DiskD) :
  Does1 W Tryz.prog 178 [.pointer (some ⟨d, 0, none⟩)] (DiskR d k :: R) (.bool k.failed) (DiskR d k :: R) := by
 (refine Does.enter Tryz.func178 Tryz.ntmps178 rfl rfl ?_)
 refine VC.obtain (fun w => DiskR.open) ?_
 rintro ⟨⟨⟨ao, cap⟩, ⟨ao', cap'⟩, m⟩, hk⟩
 refine w ?_
 refine VE.done1 rfl ?_ ?_
 · rfl
 · exact DiskR.shut hk
def DiskD.write (k : DiskD) (a : Nat) (b : List UInt8) : DiskD := { k with cache := k.cache ++ [(a, b)] }
theorem write_bad {ao : Option Addr} {cap nb : Nat} (d : Nat) (k : DiskD) (at_ : Int) (h : k.may at_ ≠ 0) :
  Does1 W Tryz.prog 159 [.pointer (some ⟨d, 0, none⟩), .int .i64 at_, .slice ao nb cap] (DiskR d k :: R) (.int .u16 (k.may at_)) (DiskR d k :: R) := by
 (refine Does.enter Tryz.func159 Tryz.ntmps159 rfl rfl ?_)
 refine w ?_
 ((refine zq ?_; refine zd rfl rfl (may_ok d k at_) ?_); intro _ _)
 refine w ?_
 (refine VC.condTe rfl rfl (by simpa using h) ?_)
 refine w ?_
 refine VE.done1 rfl ?_ ?_
 · rfl
 · exact Ent.refl
theorem may_zero {k : DiskD} {a : Int} (h : k.may a = 0) : k.failed = false /\ 0 <= a /\ a < k.last.length := by
 unfold DiskD.may at h
 split at h
 · cases h
 ·
  rename_i h1
  split at h
  · cases h
  · exact ⟨by simpa using h1, by omega, by omega⟩
theorem write_len {ao : Option Addr} {cap nb : Nat} (d : Nat) (k : DiskD) (at_ : Int) (h : k.may at_ = 0) (hb : nb ≠ 128) :
  Does1 W Tryz.prog 159 [.pointer (some ⟨d, 0, none⟩), .int .i64 at_, .slice ao nb cap] (DiskR d k :: R) (.int .u16 4) (DiskR d k :: R) := by
 (refine Does.enter Tryz.func159 Tryz.ntmps159 rfl rfl ?_)
 refine w ?_
 ((refine zq ?_; refine zd rfl rfl (may_ok d k at_) ?_); intro _ _)
 refine w ?_
 (refine VC.condFe rfl rfl (by simp [h]) ?_)
 refine w ?_
 (refine VC.condTe rfl rfl (by simp; omega) ?_)
 refine w ?_
 refine VE.done1 rfl ?_ ?_
 · rfl
 · exact Ent.refl
theorem buildX_step {pls : List (Nat × Nat)} {cs : List Value} {i o : Nat} {v : Value} {r : List (Nat × Value)} (h : pls[i]? = some (o, v.cells.size)) (hl : o + v.cells.size <= cs.length) :
  buildX pls cs ((i, v) :: r) = buildX pls (setL cs o v.cells.toList) r := by
 rw [buildX, h]
 simp only [ne_eq, not_true_eq_false, decide_false, Bool.false_or]
 rw [if_neg (by simpa using hl)]
theorem build_write (a : Int) (vs : List Value) (h : vs.length = 128) : buildX [(0, 1), (1, 128)] (.int .i64 0 :: List.replicate 128 zb) [(0, .int .i64 a), (1, .agg vs.toArray)] = some (.int .i64 a :: vs) := by
 have e : setL (.int .i64 a :: List.replicate 128 zb) 1 vs = .int .i64 a :: vs := setL_mid vs [.int .i64 a] (List.replicate 128 zb) (by rw [h, List.length_replicate])
 rw [buildX_step (o := 0) (v := .int .i64 a) rfl (by show 0 + 1 <= _; rw [List.length_cons, List.length_replicate]; decide), buildX_step (o := 1) (v := .agg vs.toArray) (by show some (1, 128) = some (1, vs.toArray.size); rw [List.size_toArray, h]) (by show 1 + vs.toArray.size <= (setL _ 0 [_]).length; rw [setL_length, List.length_cons, List.length_replicate, List.size_toArray, h]; decide)]
 exact congrArg some e
theorem wCells_length {c : Nat × List UInt8} (h : c.2.length = 128) : (wCells c).length = 129 := by simp [wCells, h]
theorem wCells_one (c : Nat × List UInt8) : ∀ u ∈ wCells c, u.oneCell' = true := by
 intro u hu
 rcases List.mem_cons.1 hu with h | h
 · subst h; rfl
 · exact bytes_one _ u h
theorem Addr_add_zero (a : Addr) : a.add 0 = a := by simp [Addr.add]
theorem DiskD.write_okk {k : DiskD} {a : Nat} {b : List UInt8} (hk : k.ok) (ha : a < k.last.length) (hb : b.length = 128) : (k.write a b).ok :=
 ⟨hk.last, fun c hc => by
  rcases List.mem_append.1 hc with h | h
  · exact hk.cache c h
  · rw [List.mem_singleton] at h; subst h; exact ⟨ha, hb⟩, hk.size⟩
theorem write_ok {ao : Option Addr} {cap : Nat} {b : List UInt8} (d : Nat) (k : DiskD) (a : Nat) (ha : a < k.last.length) (hf : k.failed = false) (hb : b.length = 128) (hc : k.cache.length <= 1000000000)
  (hr : Rds W R 1 ao 128 (bytes b)) :
  Does1 W Tryz.prog 159 [.pointer (some ⟨d, 0, none⟩), .int .i64 a, .slice ao 128 cap] (DiskR d k :: R) (.int .u16 0) (DiskR d (k.write a b) :: R) := by
 have hm : k.may a = 0 := by unfold DiskD.may; rw [hf, if_neg (by simp), if_neg (by omega)]
 obtain ⟨ad, rfl⟩ : ∃ ad, ao = some ad := by cases ao with | none => have := hr.nil rfl; omega | some ad => exact ⟨ad, rfl⟩
 (refine Does.enter Tryz.func159 Tryz.ntmps159 rfl rfl ?_)
 refine w ?_
 ((refine zq ?_; refine zd rfl rfl (may_ok d k a) ?_); intro _ _)
 refine w ?_
 (refine VC.condFe rfl rfl (by simp [hm]) ?_)
 refine w ?_
 refine VC.obtain (fun w => DiskR.open) ?_
 rintro ⟨⟨⟨lo, lc⟩, ⟨co, cc⟩, m⟩, hk⟩
 (refine VC.drawn [] 10 [0, 1, 2, 3, 4, 5, 6, 7, 8, 9, 10] _ rfl (by kernel_rfl) (by kernel_rfl) Ent.re ?_)
 dsimp only [DiskO]
 refine w ?_
 refine zq ?_
 refine OpV.mapUpdate Tryz.underlying216 Tryz.underlying3 rfl rfl rfl zh ?_
 refine w ?_
 (refine VC.drawn [10, 11] 12 [0, 1, 2, 3, 4, 5, 6, 7, 8, 9, 10, 11, 12, 13, 14] (Row d 218 [.slice lo k.last.length lc, .slice co k.cache.length cc, .map (some m), .bool k.failed] :: R) rfl (by kernel_rfl) (by kernel_rfl) Ent.re ?_)
 refine w ?_
 ((first | apply VO.pure rfl rfl | apply VQ.pure rfl rfl | apply VD.take rfl rfl rfl | (refine VD.end rfl rfl rfl ?_; apply OpV.pure)); exact PureAt.toArray Tryz.underlying220 rfl (Nat.le_refl 128); rfl)
 refine VD.re 34 (.pointer (some (ad.add 0))) rfl (by rw [Addr_add_zero]) ?_
 ((first | apply VO.pure rfl rfl | apply VQ.pure rfl rfl | apply VD.take rfl rfl rfl | (refine VD.end rfl rfl rfl ?_; apply OpV.pure)); exact .ldRA tab_ok rfl rfl (hr.ent (Reord.ent (Reord.drop .refl))) (show ((bytes b).drop 0).take 128 = bytes b from List.take_of_length_le (by simp [hb])) (by simp [hb]); rfl)
 ((first | apply VO.pure rfl rfl | apply VQ.pure rfl rfl | apply VD.take rfl rfl rfl | (refine VD.end rfl rfl rfl ?_; apply OpV.pure)); exact PureAt.build sb_write rfl (build_write a (bytes b) (by simp [hb])); rfl)
 refine zq ?_
 refine OpV.buildSlice (vs := [.agg (wCells (a, b)).toArray]) (cs := wCells (a, b)) st_writes rfl rfl (by simp [Value.cells, wCells, hb]) (by simp [Value.cells]) (by decide) rfl ?_
 intro nb
 refine ⟨Ent.re, ?_⟩
 refine zq ?_
 refine OpV.appendRow st_writes rfl rfl zh zm (by simp [wCells, hb]) (wCells_one (a, b)) ?_ ?_ rfl ?_
 · simp only [maxLen]; omega
 · omega
 intro co' cc'
 refine ⟨Ent.re, ?_⟩
 refine w ?_
 refine VE.done1 rfl ?_ ?_
 · rfl
 ·
  refine Ent.trans ?_ (DiskR.shut (x := ((lo, lc), (co', cc'), m)) (DiskD.write_okk hk ha hb))
  have e1 : (k.write a b).cache = k.cache ++ [(a, b)] := rfl
  have e2 : (k.write a b).last = k.last := rfl
  have e3 : (k.write a b).failed = k.failed := rfl
  simp only [DiskO, e1, e2, e3, seenOf_snoc, List.flatMap_append, List.flatMap_singleton, List.length_append, List.length_singleton, List.set_cons_zero, List.set_cons_succ]
  exact Ent.re
def sets (keep : Nat -> Bool) : List (List UInt8) -> Nat -> List (Nat × List UInt8) -> List (List UInt8)
  | last, _, [] => last
  | last, i, c :: r => sets keep (if keep i then last.set c.1 c.2 else last) (i + 1) r
theorem sets_snoc (keep : Nat -> Bool) (c : Nat × List UInt8) : ∀ (l : List (Nat × List UInt8)) (last : List (List UInt8)) (i : Nat), sets keep last i (l ++ [c]) = if keep (i + l.length) then (sets keep last i l).set c.1 c.2 else sets keep last i l
  | [], last, i => by simp [sets]
  | x :: r, last, i => by
    rw [List.cons_append, sets, sets_snoc keep c r, sets, List.length_cons, show i + 1 + r.length = i + (r.length + 1) by omega]
theorem sets_length (keep : Nat -> Bool) : ∀ (l : List (Nat × List UInt8)) (last : List (List UInt8)) (i : Nat), (sets keep last i l).length = last.length
 | [], _, _ => rfl
 | x :: r, last, i => by rw [sets, sets_length keep r]; split <;> simp
theorem sets_128 (keep : Nat -> Bool) : ∀ (l : List (Nat × List UInt8)) (last : List (List UInt8)) (i : Nat), (∀ b ∈ last, b.length = 128) -> (∀ c ∈ l, c.2.length = 128) -> ∀ b ∈ sets keep last i l, b.length = 128
  | [], _, _, h, _, b, hb => h b hb
  | x :: r, last, i, h, hc, b, hb => by
    rw [sets] at hb
    refine sets_128 keep r _ _ (fun y hy => ?_) (fun c h => hc c (.tail _ h)) b hb
    split at hy
    · rcases List.mem_or_eq_of_mem_set hy with q | q
      · exact h y q
      · subst q; exact hc x (.head _)
    · exact h y hy
theorem store_all (zs vs : List Value) (n : Nat) (h : zs.length = n) : zs.take 0 ++ vs ++ zs.drop (0 + n) = vs := by simp [<- h]
def DiskD.settle (k : DiskD) (keep : Nat -> Bool) : DiskD := ⟨sets keep k.last 0 k.cache, [], k.failed⟩
theorem DiskD.settle_okk {k : DiskD} {keep : Nat -> Bool} (hk : k.ok) : (k.settle keep).ok :=
 ⟨sets_128 keep _ _ _ hk.last (fun c h => (hk.cache c h).2), fun c h => absurd h (by simp [DiskD.settle]), by unfold DiskD.settle; rw [sets_length]; exact hk.size⟩
theorem caches_one (l : List (Nat × List UInt8)) : ∀ u ∈ l.flatMap wCells, u.oneCell' = true := by
 intro u hu; obtain ⟨c, _, h⟩ := List.mem_flatMap.1 hu; exact wCells_one c u h
theorem lasts_one (l : List (List UInt8)) : ∀ u ∈ l.flatMap bytes, u.oneCell' = true := by
 intro u hu; obtain ⟨c, _, h⟩ := List.mem_flatMap.1 hu; exact bytes_one c u h
theorem settle_ok {g : FuncId} {cp : Array Value} {keep : Nat -> Bool} (d : Nat) (k : DiskD) (hcf : ∀ a w, (callFunc g a).run Tryz.prog w = .ok (.enter g a) w)
  (hkeep : ∀ (i : Nat) (X : List SProp), Does1 W Tryz.prog g (.int .i64 i :: cp.toList) (X ++ R) (.bool (keep i)) (X ++ R)) :
  Does1 W Tryz.prog 121 [.pointer (some ⟨d, 0, none⟩), .func (.func g) #[] cp] (DiskR d k :: R) (.tuple #[]) (DiskR d (k.settle keep) :: R) := by
 (refine Does.enter Tryz.func121 Tryz.ntmps121 rfl rfl ?_)
 refine VC.obtain (fun w => DiskR.open) ?_
 rintro ⟨⟨⟨lo, lc⟩, ⟨co, cc⟩, m⟩, hk⟩
 dsimp only [DiskO]
 refine VC.know (fun w hw => hw.ownNone zm : ∀ w, _ -> (co = none -> k.cache.length = 0)) ?_
 intro hcn
 refine VC.know (fun w hw => hw.ownNone zm : ∀ w, _ -> (lo = none -> k.last.length = 0)) ?_
 intro hln
 refine VC.know (fun w hw => hw.ownMax (show Own 262 129 (.slice co k.cache.length cc) k.cache.length (k.cache.flatMap wCells) ∈ _ by (focus repeat first | exact .head _ | apply List.Mem.tail)) : ∀ w, _ -> k.cache.length <= maxLen) ?_
 intro hmax
 simp only [maxLen] at hmax
 refine w ?_
 refine VC.loop (α := Nat) (fun i => i <= k.cache.length)
  (fun i => Row d 218 [.slice lo k.last.length lc, .slice co k.cache.length cc, .map (some m), .bool k.failed] :: Own 220 128 (.slice lo k.last.length lc) k.last.length ((sets keep k.last 0 (k.cache.take i)).flatMap bytes) ::
   Own 262 129 (.slice co k.cache.length cc) k.cache.length (k.cache.flatMap wCells) :: MapR m (seenOf k.cache) :: R)
  (fun i => [(0, .pointer (some ⟨d, 0, none⟩)), (1, .func (.func g) #[] cp), (9, .slice co k.cache.length cc), (10, .int .i64 k.cache.length), (11, .int .i64 i)]) (fun i => k.cache.length - i) rfl 0 (Nat.zero_le _) Ent.refl ⟨rfl, rfl, rfl, rfl, rfl, trivial⟩ ?_
 intro i hi
 refine w ?_
 refine zk ?_ ?_ <;> intro hc
 ·
  have hlt : i < k.cache.length := by have := of_decide_eq_true hc; omega
  obtain ⟨a, rfl⟩ : ∃ a, co = some a := by cases co with | none => have := hcn rfl; omega | some a => exact ⟨a, rfl⟩
  obtain ⟨hw1, hw2⟩ := hk.cache k.cache[i] (List.getElem_mem hlt)
  obtain ⟨b, rfl⟩ : ∃ b, lo = some b := by cases lo with | none => have := hln rfl; omega | some b => exact ⟨b, rfl⟩
  have hpart := flat_part (g := wCells) (w := 129) k.cache i hlt (fun c h => wCells_length (hk.cache c h).2)
  refine w ?_
  ((first | apply VO.pure rfl rfl | apply VQ.pure rfl rfl | apply VD.take rfl rfl rfl | (refine VD.end rfl rfl rfl ?_; apply OpV.pure)); exact .ldRA tab_ok rfl rfl (Rds.own (caches_one _) zm (flat_length _ (fun c h => wCells_length (hk.cache c h).2)) hcn) hpart (wCells_length hw2); rfl)
  generalize hcc : k.cache[i] = c at *
  have hsn : sets keep k.last 0 (k.cache.take (i + 1)) = if keep i then (sets keep k.last 0 (k.cache.take i)).set c.1 c.2 else sets keep k.last 0 (k.cache.take i) := by
   rw [List.take_succ_eq_append_getElem hlt, sets_snoc, List.length_take, Nat.min_eq_left hi, Nat.zero_add, hcc]
  have hsl : (sets keep k.last 0 (k.cache.take i)).length = k.last.length := sets_length _ _ _ _
  have hs8 := sets_128 keep (k.cache.take i) k.last 0 hk.last (fun c h => (hk.cache c (List.mem_of_mem_take h)).2)
  generalize sets keep k.last 0 (k.cache.take i) = la at *
  refine zq ?_; refine OpV.allocS sb_write rfl ?_; intro na
  refine w ?_
  refine zq ?_
  refine OpV.stA (vs := wCells c) tab_ok rfl rfl rfl (wCells_length hw2) (wCells_one _) zh (by rw [List.length_cons, List.length_replicate]; decide) ?_
  rw [store_all _ _ 129 (by rw [List.length_cons, List.length_replicate])]
  refine w ?_
  refine zq ?_
  refine OpV.call rfl rfl hcf (hkeep i [Row na 262 (wCells c), Row d 218 [.slice (some b) k.last.length lc, .slice (some a) k.cache.length cc, .map (some m), .bool k.failed], Own 220 128 (.slice (some b) k.last.length lc) k.last.length (la.flatMap bytes),
   Own 262 129 (.slice (some a) k.cache.length cc) k.cache.length (k.cache.flatMap wCells), MapR m (seenOf k.cache)]) Ent.refl rfl ?_
  intro _ _
  dsimp only [List.cons_append, List.nil_append]
  refine w ?_
  refine zk ?_ ?_ <;> intro hc
  ·
   have hkt : keep i = true := hc
   refine w ?_
   (refine VC.drawn [] 8 [0, 1, 2, 3, 4, 5, 6, 7, 8, 9] _ rfl (by kernel_rfl) (by kernel_rfl) Ent.re ?_)
   refine w ?_
   ((first | apply VO.pure rfl rfl | apply VQ.pure rfl rfl | apply VD.take rfl rfl rfl | (refine VD.end rfl rfl rfl ?_; apply OpV.pure)); exact PureAt.ldA tab_ok rfl rfl (.head _) (show ((wCells c).drop 1).take 128 = bytes c.2 from List.take_of_length_le (by rw [List.length_drop, wCells_length hw2]; decide)) (by simp [hw2]); rfl)
   refine w ?_
   refine zq ?_
   refine OpV.stOA (vs := bytes c.2) tab_ok rfl rfl rfl (by simp [hw2]) (bytes_one _) zh ?_ ?_
   · rw [flat_length (w := 128) _ (fun b h => by simp [hs8 b h]), hsl]; omega
   rw [flat_set (g := bytes) (w := 128) c.2 la c.1 (by omega) (fun b h => by simp [hs8 b h])]
   refine w ?_
   refine VE.round (i + 1) hlt (by omega) ⟨rfl, rfl, rfl, rfl, rfl, trivial⟩ ?_
   rw [hsn, if_pos hkt]
   exact Ent.re
  ·
   have hkt : ¬ keep i = true := by simpa using hc
   refine w ?_
   refine VE.round (i + 1) hlt (by omega) ⟨rfl, rfl, rfl, rfl, rfl, trivial⟩ ?_
   rw [hsn, if_neg hkt]
   exact Ent.re
 ·
  have hge : i = k.cache.length := by have := of_decide_eq_false hc; omega
  subst hge
  rw [List.take_of_length_le (Nat.le_refl k.cache.length)]
  refine w ?_
  refine zq ?_
  refine OpV.clearMap Tryz.underlying216 rfl zh ?_
  refine w ?_
  (refine VE.done1N rfl ?_ ?_)
  · rfl
  ·
   intro w hw
   refine DiskR.shut (k := k.settle keep) (x := ((lo, lc), (none, 0), m)) (DiskD.settle_okk hk) w ((hw.ownNil 262 129).reord ?_)
   have e1 : (k.settle keep).cache = [] := rfl
   have e2 : (k.settle keep).last = sets keep k.last 0 k.cache := rfl
   have e3 : (k.settle keep).failed = k.failed := rfl
   simp only [DiskO, e1, e2, e3, seenOf_nil, sets_length, List.flatMap_nil, List.length_nil, List.set_cons_zero, List.set_cons_succ]
   (repeat first | exact .refl | (apply Reord.cons; focus repeat first | exact .head | apply Del.tail) | exact .nil | apply Reord.drop)
theorem Ent.dropAll : ∀ X : List SProp, Ent W (X ++ R) R
 | [] => Ent.refl
 | _ :: r => Ent.drop (Ent.dropAll r)
theorem flushf_ok (i : Nat) : Does1 W Tryz.prog 219 [.int .i64 i] R (.bool true) R := by
 (refine Does.enter Tryz.func219 Tryz.ntmps219 rfl rfl ?_)
 refine w ?_
 (first | exact VE.done1 rfl rfl Ent.refl | exact VE.done1N rfl rfl Ent.refl)
theorem failf_ok (i : Nat) : Does1 W Tryz.prog 170 [.int .i64 i] R (.bool false) R := by
 (refine Does.enter Tryz.func170 Tryz.ntmps170 rfl rfl ?_)
 refine w ?_
 (first | exact VE.done1 rfl rfl Ent.refl | exact VE.done1N rfl rfl Ent.refl)
def bools (l : List Bool) : List Value := l.map .bool
@[simp] theorem bools_length (l : List Bool) : (bools l).length = l.length := by simp [bools]
theorem bools_one (l : List Bool) : ∀ u ∈ bools l, u.oneCell' = true := by
 intro u hu; obtain ⟨c, _, rfl⟩ := List.mem_map.1 hu; rfl
def keepOf (l : List Bool) (i : Nat) : Bool := l.getD i false
theorem crashf_ok {ao : Option Addr} {n cap bx : Nat} {l : List Bool} (i : Nat) (hm : Row bx 59 [.slice ao n cap] ∈ R) (hr : Rds W R 1 ao n (bools l)) :
  Does1 W Tryz.prog 122 [.int .i64 i, .pointer (some ⟨bx, 0, none⟩)] R (.bool (keepOf l i)) R := by
 have hl : l.length = n := by have := hr.len; simpa using this
 (refine Does.enter Tryz.func122 Tryz.ntmps122 rfl rfl ?_)
 refine w ?_
 refine VO.pure rfl rfl (PureAt.ld tab_ok rfl rfl hm rfl) rfl ?_
 refine w ?_
 refine zg ?_ ?_ <;> intro hb
 ·
  have hlt : i < n := by have := of_decide_eq_true hb; omega
  obtain ⟨a, rfl⟩ : ∃ a, ao = some a := by cases ao with | none => have := hr.nil rfl; omega | some a => exact ⟨a, rfl⟩
  refine VO.pure rfl rfl (PureAt.ld tab_ok rfl rfl hm rfl) rfl ?_
  refine w ?_
  refine VO.pure rfl rfl (PureAt.ldR tab_ok rfl rfl hr (show (bools l)[i]? = some (.bool (keepOf l i)) by simp [bools, keepOf, hl, hlt])) rfl ?_
  refine w ?_
  (first | exact VE.done1 rfl rfl Ent.refl | exact VE.done1N rfl rfl Ent.refl)
 ·
  have hge : n <= i := by have := of_decide_eq_false hb; omega
  refine w ?_
  refine VE.done1 rfl ?_ ?_
  · simp [keepOf, hl, hge]
  · exact Ent.refl
theorem flush_ok (d : Nat) (k : DiskD) (hf : k.failed = false) :
  Does1 W Tryz.prog 192 [.pointer (some ⟨d, 0, none⟩)] (DiskR d k :: R) (.int .u16 0) (DiskR d (k.settle fun _ => true) :: R) := by
 (refine Does.enter Tryz.func192 Tryz.ntmps192 rfl rfl ?_)
 refine VC.obtain (fun w => DiskR.open) ?_
 rintro ⟨⟨⟨lo, lc⟩, ⟨co, cc⟩, m⟩, hk⟩
 refine w ?_
 (refine VC.condFe rfl rfl (hf) ?_)
 refine VC.ent (DiskR.shut hk) ?_
 refine w ?_
 ((refine zq ?_; refine zd rfl rfl (settle_ok (cp := #[]) d k (fun _ _ => by simp) (fun i X => flushf_ok i)) ?_); intro _ _)
 refine w ?_
 refine VE.done1 rfl ?_ ?_
 · rfl
 · exact Ent.refl
theorem flush_bad (d : Nat) (k : DiskD) (hf : k.failed = true) :
  Does1 W Tryz.prog 192 [.pointer (some ⟨d, 0, none⟩)] (DiskR d k :: R) (.int .u16 2) (DiskR d k :: R) := by
 (refine Does.enter Tryz.func192 Tryz.ntmps192 rfl rfl ?_)
 refine VC.obtain (fun w => DiskR.open) ?_
 rintro ⟨⟨⟨lo, lc⟩, ⟨co, cc⟩, m⟩, hk⟩
 refine w ?_
 (refine VC.condTe rfl rfl (hf) ?_)
 refine w ?_
 refine VE.done1 rfl ?_ ?_
 · rfl
 · exact DiskR.shut hk
theorem fail_ok (d : Nat) (k : DiskD) :
  Does1 W Tryz.prog 110 [.pointer (some ⟨d, 0, none⟩)] (DiskR d k :: R) (.tuple #[]) (DiskR d ((DiskD.mk k.last k.cache true).settle fun _ => false) :: R) := by
 (refine Does.enter Tryz.func110 Tryz.ntmps110 rfl rfl ?_)
 refine VC.obtain (fun w => DiskR.open) ?_
 rintro ⟨⟨⟨lo, lc⟩, ⟨co, cc⟩, m⟩, hk⟩
 dsimp only [DiskO]
 refine w ?_
 refine VO.ent (DiskR.shut (k := ⟨k.last, k.cache, true⟩) (x := ((lo, lc), (co, cc), m)) ⟨hk.last, hk.cache, hk.size⟩) ?_
 ((refine zq ?_; refine zd rfl rfl (settle_ok (cp := #[]) d ⟨k.last, k.cache, true⟩ (fun _ _ => by simp) (fun i X => failf_ok i)) ?_); intro _ _)
 refine w ?_
 (refine VE.done1N rfl ?_ ?_)
 · rfl
 · exact Ent.refl
theorem crash_ok {ao : Option Addr} {n cap : Nat} {l : List Bool} (d : Nat) (k : DiskD) (hr : Rds W R 1 ao n (bools l)) :
  Does1 W Tryz.prog 60 [.pointer (some ⟨d, 0, none⟩), .slice ao n cap] (DiskR d k :: R) (.tuple #[]) (DiskR d (k.settle (keepOf l)) :: R) := by
 (refine Does.enter Tryz.func60 Tryz.ntmps60 rfl rfl ?_)
 refine w ?_; repeat (refine zj fun _ => ?_; refine w ?_)
 rename_i bx
 refine VO.pure rfl rfl (PureAt.makeFunc1 rfl) rfl ?_
 ((refine zq ?_; refine zd rfl rfl (settle_ok (R := Row bx 59 [.slice ao n cap] :: R) (cp := #[.pointer (some ⟨bx, 0, none⟩)]) d k (fun _ _ => by simp) (fun i X => crashf_ok i (List.mem_append_right _ (.head _)) (hr.ent ((Ent.dropAll X).trans (Ent.drop Ent.refl))))) ?_); intro _ _)
 refine w ?_; repeat (refine zj fun _ => ?_; refine w ?_)
 (refine VE.done1N rfl ?_ ?_)
 · rfl
 · exact Ent.re
end Go.Proofs.YtdbhpikmagkopaaGreat
