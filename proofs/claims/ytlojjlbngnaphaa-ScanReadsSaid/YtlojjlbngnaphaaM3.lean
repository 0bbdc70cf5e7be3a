import Derived.Test.YtlojjlbngnaphaaM2
import Derived.Test.YtlojjlbngnaphaaRows
/-! Text Tab. -/
/- Written by program (wip/tab.py): what the program's table of types says, each line held by the kernel. -/
namespace Go.Proofs.Ytlojjlbngnaphaa
open Go.Sl
def tab : TabData where
  flds := [(7, [0, 1, 2, 3]), (8, [0, 1, 2, 3]), (13, [0, 1]), (14, [0, 1]), (18, [0]), (19, [0]), (24, [0, 1]), (25, [0, 1]), (49, [0, 1, 2, 3, 4, 5, 6, 7, 8, 9, 10, 11]), (50, [0, 1, 2, 3, 4, 5, 6, 7, 8, 9, 10, 11]), (56, [0, 1, 2]), (57, [0, 1, 2]), (60, [0, 1, 2, 3]), (61, [0, 1, 2, 3]), (77, [0, 1, 2]), (78, [0, 1, 2]), (89, [0, 1, 2, 3, 4, 5, 6, 7]), (90, [0, 1, 2, 3, 4, 5, 6, 7]), (94, [0, 1, 2, 3]), (95, [0, 1, 2, 3]), (123, [0, 1]), (124, [0, 1]), (138, [0, 1]), (139, [0, 1]), (145, [0, 1]), (146, [0, 1]), (177, [0, 1, 2]), (178, [0, 1, 2]), (185, [0, 1, 2, 3]), (186, [0, 1, 2, 3]), (189, [0, 1, 2, 3]), (190, [0, 1, 2, 3]), (200, [0, 1, 2, 3, 4, 5, 6, 7, 8, 9, 10]), (201, [0, 1, 2, 3, 4, 5, 6, 7, 8, 9, 10])]
  leaf := [(1, ()), (2, ()), (3, ()), (4, ()), (5, ()), (6, ()), (9, ()), (10, ()), (11, ()), (12, ()), (15, ()), (16, ()), (17, ()), (20, ()), (21, ()), (22, ()), (23, ()), (26, ()), (27, ()), (28, ()), (29, ()), (30, ()), (32, ()), (33, ()), (34, ()), (36, ()), (37, ()), (38, ()), (39, ()), (40, ()), (41, ()), (42, ()), (43, ()), (44, ()), (45, ()), (46, ()), (47, ()), (48, ()), (51, ()), (52, ()), (53, ()), (54, ()), (55, ()), (58, ()), (59, ()), (63, ()), (64, ()), (65, ()), (67, ()), (68, ()), (69, ()), (70, ()), (71, ()), (72, ()), (73, ()), (74, ()), (75, ()), (76, ()), (79, ()), (81, ()), (82, ()), (83, ()), (84, ()), (86, ()), (88, ()), (91, ()), (92, ()), (93, ()), (97, ()), (99, ()), (100, ()), (101, ()), (102, ()), (103, ()), (104, ()), (105, ()), (106, ()), (107, ()), (108, ()), (109, ()), (110, ()), (111, ()), (112, ()), (113, ()), (114, ()), (115, ()), (117, ()), (118, ()), (120, ()), (121, ()), (122, ()), (125, ()), (126, ()), (127, ()), (128, ()), (129, ()), (130, ()), (131, ()), (132, ()), (133, ()), (134, ()), (135, ()), (136, ()), (137, ()), (140, ()), (141, ()), (142, ()), (143, ()), (144, ()), (147, ()), (148, ()), (149, ()), (151, ()), (153, ()), (154, ()), (156, ()), (157, ()), (158, ()), (160, ()), (161, ()), (163, ()), (164, ()), (165, ()), (166, ()), (168, ()), (169, ()), (170, ()), (171, ()), (172, ()), (173, ()), (174, ()), (175, ()), (176, ()), (179, ()), (180, ()), (181, ()), (182, ()), (183, ()), (184, ()), (187, ()), (188, ()), (194, ()), (195, ()), (196, ()), (197, ()), (198, ()), (199, ()), (202, ())]
  aggs := [(7, 4), (8, 4), (13, 2), (14, 2), (18, 1), (19, 1), (24, 2), (25, 2), (49, 12), (50, 12), (56, 3), (57, 3), (60, 4), (61, 4), (77, 3), (78, 3), (89, 8), (90, 8), (94, 4), (95, 4), (123, 2), (124, 2), (138, 2), (139, 2), (145, 2), (146, 2), (167, 16), (177, 3), (178, 3), (185, 4), (186, 4), (189, 4), (190, 4), (191, 0), (192, 0), (193, 0), (200, 11), (201, 11)]
  sls := [(23, 78), (28, 55), (38, 133), (39, 71), (40, 135), (41, 136), (42, 137), (43, 140), (44, 143), (45, 28), (46, 144), (47, 23), (48, 59), (55, 5), (59, 25), (71, 3), (113, 5), (133, 9), (135, 22), (136, 30), (137, 139), (140, 141), (143, 4), (144, 146), (174, 173)]
  ints := [(2, .i64), (3, .i64), (5, .u8), (6, .u8), (12, .u64), (21, .i32), (22, .u64), (29, .u16), (30, .u16), (74, .u32), (141, .u8), (142, .u64), (194, .u8), (195, .u8), (198, .i32), (199, .i32)]
  descs := [(4, 1, 0), (9, 2, 0), (10, 2, 0), (11, 2, 0), (15, 0, 190), (16, 0, 193), (17, 0, 201), (37, 0, 50), (83, 0, 124), (128, 0, 178), (171, 0, 186), (173, 0, 3), (197, 0, 5)]
theorem tab_ok : tab.ok Try.prog = true := by kernel_rfl
theorem st_23 : SliceT Try.prog 23 78 (.agg #[.int .i64 0, .int .i64 0, .slice none 0 0]) 3 40 := ⟨by kernel_rfl, by kernel_rfl, rfl, by simp [Value.cells, Value.oneCell']⟩
theorem st_28 : SliceT Try.prog 28 55 (.slice none 0 0) 1 24 := ⟨by kernel_rfl, by kernel_rfl, rfl, by simp [Value.cells, Value.oneCell']⟩
theorem st_44 : SliceT Try.prog 44 143 (.slice none 0 0) 1 24 := ⟨by kernel_rfl, by kernel_rfl, rfl, by simp [Value.cells, Value.oneCell']⟩
theorem st_45 : SliceT Try.prog 45 28 (.slice none 0 0) 1 24 := ⟨by kernel_rfl, by kernel_rfl, rfl, by simp [Value.cells, Value.oneCell']⟩
theorem st_47 : SliceT Try.prog 47 23 (.slice none 0 0) 1 24 := ⟨by kernel_rfl, by kernel_rfl, rfl, by simp [Value.cells, Value.oneCell']⟩
theorem st_48 : SliceT Try.prog 48 59 (.slice none 0 0) 1 24 := ⟨by kernel_rfl, by kernel_rfl, rfl, by simp [Value.cells, Value.oneCell']⟩
theorem st_55 : SliceT Try.prog 55 5 (.int .u8 0) 1 1 := ⟨by kernel_rfl, by kernel_rfl, rfl, by simp [Value.cells, Value.oneCell']⟩
theorem st_59 : SliceT Try.prog 59 25 (.agg #[.int .u64 0, .slice none 0 0]) 2 32 := ⟨by kernel_rfl, by kernel_rfl, rfl, by simp [Value.cells, Value.oneCell']⟩
theorem st_71 : SliceT Try.prog 71 3 (.int .i64 0) 1 8 := ⟨by kernel_rfl, by kernel_rfl, rfl, by simp [Value.cells, Value.oneCell']⟩
theorem st_174 : SliceT Try.prog 174 173 (.pointer none) 1 8 := ⟨by kernel_rfl, by kernel_rfl, rfl, by simp [Value.cells, Value.oneCell']⟩
theorem sb_25 : StructT Try.prog 25 [.int .u64 0, .slice none 0 0] [(0, 1), (1, 1)] := ⟨fun w => by simp, _, Try.underlying25, fun w => by simp⟩
theorem sb_50 : StructT Try.prog 50 [.slice none 0 0, .slice none 0 0, .slice none 0 0, .slice none 0 0, .slice none 0 0, .slice none 0 0, .slice none 0 0, .slice none 0 0, .slice none 0 0, .slice none 0 0, .slice none 0 0, .slice none 0 0] [(0, 1), (1, 1), (2, 1), (3, 1), (4, 1), (5, 1), (6, 1), (7, 1), (8, 1), (9, 1), (10, 1), (11, 1)] := ⟨fun w => by simp, _, Try.underlying50, fun w => by simp⟩
theorem sb_57 : StructT Try.prog 57 [.int .u64 0, .int .u64 0, .int .i64 0] [(0, 1), (1, 1), (2, 1)] := ⟨fun w => by simp, _, Try.underlying57, fun w => by simp⟩
theorem sb_61 : StructT Try.prog 61 [.slice none 0 0, .int .u64 0, .int .i64 0, .int .i64 0] [(0, 1), (1, 1), (2, 1), (3, 1)] := ⟨fun w => by simp, _, Try.underlying61, fun w => by simp⟩
theorem sb_78 : StructT Try.prog 78 [.int .i64 0, .int .i64 0, .slice none 0 0] [(0, 1), (1, 1), (2, 1)] := ⟨fun w => by simp, _, Try.underlying78, fun w => by simp⟩
theorem sb_90 : StructT Try.prog 90 [.int .u64 0, .int .u64 0, .int .i64 0, .int .i64 0, .int .i64 0, .int .i64 0, .bool false, .int .u32 0] [(0, 1), (1, 1), (2, 1), (3, 1), (4, 1), (5, 1), (6, 1), (7, 1)] := ⟨fun w => by simp, _, Try.underlying90, fun w => by simp⟩
theorem sb_95 : StructT Try.prog 95 [.int .u64 0, .int .u64 0, .int .i64 0, .int .u32 0] [(0, 1), (1, 1), (2, 1), (3, 1)] := ⟨fun w => by simp, _, Try.underlying95, fun w => by simp⟩
theorem sb_124 : StructT Try.prog 124 [.int .u32 0, .int .i64 0] [(0, 1), (1, 1)] := ⟨fun w => by simp, _, Try.underlying124, fun w => by simp⟩
theorem sb_178 : StructT Try.prog 178 [.int .i64 0, .slice none 0 0, .int .u16 0] [(0, 1), (1, 1), (2, 1)] := ⟨fun w => by simp, _, Try.underlying178, fun w => by simp⟩
theorem sb_186 : StructT Try.prog 186 [.slice none 0 0, .int .i64 0, .int .u16 0, .int .i64 0] [(0, 1), (1, 1), (2, 1), (3, 1)] := ⟨fun w => by simp, _, Try.underlying186, fun w => by simp⟩
end Go.Proofs.Ytlojjlbngnaphaa

/-! Text Le. -/
/- What the packer's and the reader's functions do, over resources. -/
set_option maxRecDepth 8000
set_option linter.unusedVariables false
set_option linter.unusedSimpArgs false
set_option linter.unusedSectionVars false
namespace Go.Proofs.Ytlojjlbngnaphaa
open Go.RowKit Go.Sl

def byteV (c : UInt8) : Value := .int .u8 (c.toNat : Int)
@[simp] theorem byteV_one (c : UInt8) : (byteV c).oneCell' = true := rfl
def bytes (l : List UInt8) : List Value := l.map byteV
@[simp] theorem bytes_one (l : List UInt8) : ∀ u ∈ bytes l, u.oneCell' = true := by
  intro u hu; obtain ⟨c, _, rfl⟩ := List.mem_map.1 hu; rfl
@[simp] theorem bytes_length (l : List UInt8) : (bytes l).length = l.length := by simp [bytes]
theorem bytes_append (a b : List UInt8) : bytes (a ++ b) = bytes a ++ bytes b := by simp [bytes]
theorem bytes_replicate (n : Nat) : bytes (List.replicate n 0) = List.replicate n (.int .u8 0) := by simp [bytes, byteV]

structure Pk where
  size : Nat
  had : List UInt8
  bad : Int

def Pk.ok (k : Pk) : Prop := k.had.length ≤ k.size ∧ k.size ≤ 4096 ∧ (k.bad = 0 ∨ k.bad = 10)

abbrev PackerO (p : Nat) (k : Pk) (ao : Option Addr) (cap : Nat) (R : List SProp) : List SProp :=
  Row p 178 [.int .i64 k.size, .slice ao k.had.length cap, .int .u16 k.bad] :: Own 5 1 (.slice ao k.had.length cap) k.had.length (bytes k.had) :: R
def PackerR (p : Nat) (k : Pk) : SProp := ex fun ac : Option Addr × Nat => Sl.star (fact k.ok :: PackerO p k ac.1 ac.2 [])

theorem PackerR.open {W w : World} {p : Nat} {k : Pk} {R : List SProp} (hw : Holds W (PackerR p k :: R) w) : ∃ x : { ac : Option Addr × Nat // k.ok }, Holds W (PackerO p k x.1.1 x.1.2 R) w := by
  obtain ⟨ac, h⟩ := hw.exOpen
  have h := h.join
  exact ⟨⟨ac, h.factOpen⟩, h.tail⟩

theorem PackerR.shut {W : World} {p : Nat} {k : Pk} {R : List SProp} (hk : k.ok) {ao : Option Addr} {cap : Nat} : Ent W (PackerO p k ao cap R) (PackerR p k :: R) := fun _ hw =>
  Holds.exShut (ao, cap) (Holds.nest (L := [_, _, _]) (hw.factShut hk))

theorem PackerR.shut' {W : World} {p : Nat} {k : Pk} {R : List SProp} (hk : k.ok) {ao : Option Addr} {cap n : Nat} {xs : List Value} (hn : n = k.had.length) (hx : xs = bytes k.had) :
    Ent W (Row p 178 [.int .i64 k.size, .slice ao n cap, .int .u16 k.bad] :: Own 5 1 (.slice ao n cap) n xs :: R) (PackerR p k :: R) := by
  subst hn hx; exact PackerR.shut hk

theorem PackerR.know {W w : World} {p : Nat} {k : Pk} {R : List SProp} (hw : Holds W (PackerR p k :: R) w) : k.ok := by
  obtain ⟨⟨_, h⟩, _⟩ := PackerR.open hw
  exact h

def Pk.room (k : Pk) (n : Int) : Pk := if k.bad = 0 ∧ (k.size : Int) - k.had.length < n then { k with bad := 10 } else k

theorem left_ok {W : World} {R : List SProp} (p : Nat) (k : Pk) :
    Does1 W Try.prog 110 [.pointer (some ⟨p, 0, none⟩)] (PackerR p k :: R) (.int .i64 ((k.size : Int) - k.had.length)) (PackerR p k :: R) := by
  (refine Does.enter Try.func110 Try.ntmps110 rfl rfl ?_)
  refine VC.obtain (fun w => PackerR.open) ?_
  rintro ⟨⟨ao, cap⟩, hk⟩
  have ⟨h1, h2, h3⟩ := hk
  (refine w ?_; repeat ((first | refine VO.step rfl rfl ?_ | refine VD.end rfl rfl rfl ?_ | refine VD.mid rfl rfl rfl ?_); refine OpV.box rfl rfl rfl ?_; intro _; refine w ?_))
  (refine VC.quiet rfl (by kernel_rfl) (by kernel_rfl) ?_)
  (refine w ?_; repeat ((first | refine VO.step rfl rfl ?_ | refine VD.end rfl rfl rfl ?_ | refine VD.mid rfl rfl rfl ?_); refine OpV.box rfl rfl rfl ?_; intro _; refine w ?_))
  (refine VE.done1 rfl rfl ?_)
  exact PackerR.shut hk

theorem Pk.room_ok {k : Pk} {n : Int} (h : k.ok) : (k.room n).ok := by
  unfold Pk.room
  split
  · exact ⟨h.1, h.2.1, .inr rfl⟩
  · exact h

theorem room_ok {W : World} {R : List SProp} (p : Nat) (k : Pk) (n : Int) :
    Does1 W Try.prog 102 [.pointer (some ⟨p, 0, none⟩), .int .i64 n] (PackerR p k :: R) (.bool ((k.room n).bad == 0)) (PackerR p (k.room n) :: R) := by
  (refine Does.enter Try.func102 Try.ntmps102 rfl rfl ?_)
  refine VC.obtain (fun w => PackerR.open) ?_
  rintro ⟨⟨ao, cap⟩, hk⟩
  have ⟨h1, h2, h3⟩ := hk
  (refine w ?_; repeat ((first | refine VO.step rfl rfl ?_ | refine VD.end rfl rfl rfl ?_ | refine VD.mid rfl rfl rfl ?_); refine OpV.box rfl rfl rfl ?_; intro _; refine w ?_))
  ((first | refine VO.split rfl rfl rfl ?_ ?_ | refine VD.split rfl rfl rfl ?_ ?_) <;> intro hb)
  · (refine w ?_; repeat ((first | refine VO.step rfl rfl ?_ | refine VD.end rfl rfl rfl ?_ | refine VD.mid rfl rfl rfl ?_); refine OpV.box rfl rfl rfl ?_; intro _; refine w ?_))
    (((first | refine VO.step rfl rfl ?_ | refine VD.end rfl rfl rfl ?_ | refine VD.mid rfl rfl rfl ?_); refine OpV.call rfl rfl (fun _ _ => by simp) (left_ok p k) (PackerR.shut hk) rfl ?_); intro _ _)
    refine VO.obtain (fun w => PackerR.open) ?_
    rintro ⟨⟨ao, cap⟩, -⟩
    (refine w ?_; repeat ((first | refine VO.step rfl rfl ?_ | refine VD.end rfl rfl rfl ?_ | refine VD.mid rfl rfl rfl ?_); refine OpV.box rfl rfl rfl ?_; intro _; refine w ?_))
    (refine VC.cond rfl rfl ?_ ?_ <;> intro hc)
    · (refine w ?_; repeat ((first | refine VO.step rfl rfl ?_ | refine VD.end rfl rfl rfl ?_ | refine VD.mid rfl rfl rfl ?_); refine OpV.box rfl rfl rfl ?_; intro _; refine w ?_))
      have e : k.room n = { k with bad := 10 } := by unfold Pk.room; rw [if_pos]; simp_all
      (refine VE.done1 rfl ?_ ?_)
      · rw [e]
      · rw [e]; exact PackerR.shut (k := { k with bad := 10 }) ⟨h1, h2, .inr rfl⟩
    · (refine w ?_; repeat ((first | refine VO.step rfl rfl ?_ | refine VD.end rfl rfl rfl ?_ | refine VD.mid rfl rfl rfl ?_); refine OpV.box rfl rfl rfl ?_; intro _; refine w ?_))
      have e : k.room n = k := by unfold Pk.room; rw [if_neg]; simp_all
      (refine VE.done1 rfl ?_ ?_)
      · rw [e]
      · rw [e]; exact PackerR.shut hk
  · (refine w ?_; repeat ((first | refine VO.step rfl rfl ?_ | refine VD.end rfl rfl rfl ?_ | refine VD.mid rfl rfl rfl ?_); refine OpV.box rfl rfl rfl ?_; intro _; refine w ?_))
    have e : k.room n = k := by unfold Pk.room; rw [if_neg]; simp_all
    (refine VE.done1 rfl ?_ ?_)
    · rw [e]
    · rw [e]; exact PackerR.shut hk

/-- The lowest j bytes of v. -/
def lowBytes (v : Nat) : Nat → List UInt8
  | 0 => []
  | j + 1 => lowBytes v j ++ [UInt8.ofNat (v / 256 ^ j)]
theorem lowBytes_length (v j : Nat) : (lowBytes v j).length = j := by induction j <;> simp [lowBytes, *]

def Pk.number (k : Pk) (v width : Nat) : Pk := if (k.room width).bad = 0 then { k with had := k.had ++ lowBytes v width } else k.room width

theorem Pk.room_zero {k : Pk} {n : Int} (h : (k.room n).bad = 0) : k.room n = k ∧ k.bad = 0 ∧ n ≤ (k.size : Int) - k.had.length := by
  unfold Pk.room at *
  split at h
  · cases h
  · rename_i hn
    rw [if_neg hn]
    exact ⟨rfl, h, by omega⟩

theorem u8_of (n : Nat) : IntKind.u8.wrap (n : Int) = ((UInt8.ofNat n).toNat : Int) := by
  simp only [IntKind.wrap, IntKind.bits, IntKind.signed, Bool.false_and, Bool.false_eq_true, if_false]
  simp

theorem number_ok {W : World} {R : List SProp} (p : Nat) (k : Pk) (v width : Nat) :
    Does1 W Try.prog 91 [.pointer (some ⟨p, 0, none⟩), .int .u64 v, .int .i64 width] (PackerR p k :: R) (.tuple #[]) (PackerR p (k.number v width) :: R) := by
  (refine Does.enter Try.func91 Try.ntmps91 rfl rfl ?_)
  refine VC.know (fun w => PackerR.know) ?_
  intro ⟨h1, h2, h3⟩
  (refine w ?_; repeat ((first | refine VO.step rfl rfl ?_ | refine VD.end rfl rfl rfl ?_ | refine VD.mid rfl rfl rfl ?_); refine OpV.box rfl rfl rfl ?_; intro _; refine w ?_))
  (((first | refine VO.step rfl rfl ?_ | refine VD.end rfl rfl rfl ?_ | refine VD.mid rfl rfl rfl ?_); refine OpV.call rfl rfl (fun _ _ => by simp) (room_ok p k width) Ent.re rfl ?_); intro _ _)
  (refine w ?_; repeat ((first | refine VO.step rfl rfl ?_ | refine VD.end rfl rfl rfl ?_ | refine VD.mid rfl rfl rfl ?_); refine OpV.box rfl rfl rfl ?_; intro _; refine w ?_))
  (refine VC.cond rfl rfl ?_ ?_ <;> intro hc)
  · (refine w ?_; repeat ((first | refine VO.step rfl rfl ?_ | refine VD.end rfl rfl rfl ?_ | refine VD.mid rfl rfl rfl ?_); refine OpV.box rfl rfl rfl ?_; intro _; refine w ?_))
    (refine VE.done1 rfl ?_ ?_)
    · rfl
    · have hr : ¬ (k.room width).bad = 0 := by simpa using hc
      rw [show k.number v width = k.room width by unfold Pk.number; rw [if_neg hr]]
      exact Ent.refl
  · (refine w ?_; repeat ((first | refine VO.step rfl rfl ?_ | refine VD.end rfl rfl rfl ?_ | refine VD.mid rfl rfl rfl ?_); refine OpV.box rfl rfl rfl ?_; intro _; refine w ?_))
    have hr : (k.room width).bad = 0 := by simpa using hc
    obtain ⟨e1, e2, e3⟩ := Pk.room_zero hr
    rw [e1]
    refine VC.loop (α := Nat) (fun j => j ≤ width) (fun j => PackerR p { k with had := k.had ++ lowBytes v j } :: R)
      (fun j => [(0, .pointer (some ⟨p, 0, none⟩)), (1, .int .u64 ((v / 256 ^ j : Nat) : Int)), (10, .int .i64 width), (11, .int .i64 j)]) (fun j => width - j) rfl 0 (Nat.zero_le _) ?_ ?_ ?_
    · simp only [lowBytes, List.append_nil]; exact Ent.refl
    · exact ⟨rfl, asV rfl (by simp), rfl, rfl, trivial⟩
    · intro j hj
      (refine w ?_; repeat ((first | refine VO.step rfl rfl ?_ | refine VD.end rfl rfl rfl ?_ | refine VD.mid rfl rfl rfl ?_); refine OpV.box rfl rfl rfl ?_; intro _; refine w ?_))
      (refine VC.cond rfl rfl ?_ ?_ <;> intro hc)
      · have hlt : j < width := by simpa using hc
        refine VC.obtain (fun w => PackerR.open) ?_
        rintro ⟨⟨ao, cap⟩, -⟩
        (refine w ?_; repeat ((first | refine VO.step rfl rfl ?_ | refine VD.end rfl rfl rfl ?_ | refine VD.mid rfl rfl rfl ?_); refine OpV.box rfl rfl rfl ?_; intro _; refine w ?_))
        refine VO.re 19 (byteV (UInt8.ofNat (v / 256 ^ j))) rfl (by rw [u8_of]; rfl) ?_
        ((first | refine VO.step rfl rfl ?_ | refine VD.end rfl rfl rfl ?_ | refine VD.mid rfl rfl rfl ?_); refine OpV.buildSlice1 st_55 rfl rfl (by first | (simp; done) | simp [Value.oneCell']) (by decide) rfl ?_; intro nb)
        have hl : (k.had ++ lowBytes v j).length = k.had.length + j := by simp [lowBytes_length]
        ((first | refine VO.step rfl rfl ?_ | refine VD.end rfl rfl rfl ?_ | refine VD.mid rfl rfl rfl ?_); refine OpV.appendRow st_55 rfl rfl (by (repeat first | exact .head | apply Hole.tail)) (by (focus repeat first | exact .head _ | apply List.Mem.tail)) rfl (by first | (simp; done) | simp [Value.oneCell']) ?_ ?_ rfl ?_)
        · simp only [hl, maxLen]; omega
        · simp only [hl]; omega
        intro ao cap
        (refine w ?_; repeat ((first | refine VO.step rfl rfl ?_ | refine VD.end rfl rfl rfl ?_ | refine VD.mid rfl rfl rfl ?_); refine OpV.box rfl rfl rfl ?_; intro _; refine w ?_))
        refine VE.round (j + 1) (by omega) (by omega) ⟨rfl, asV rfl (by rw [Nat.pow_succ, Nat.div_div_eq_div_mul]; rfl), rfl, rfl, trivial⟩ ?_
        have hl1 : (k.had ++ lowBytes v (j + 1)).length = k.had.length + j + 1 := by simp [lowBytes_length]; omega
        exact .drop (PackerR.shut' (k := { k with had := k.had ++ lowBytes v (j + 1) }) ⟨by simp only [hl1]; omega, h2, h3⟩ (by simp only [hl, hl1]) (by simp [bytes, lowBytes]))
      · have hge : j = width := by have : ¬ j < width := by simpa using hc
                                   omega
        subst hge
        (refine w ?_; repeat ((first | refine VO.step rfl rfl ?_ | refine VD.end rfl rfl rfl ?_ | refine VD.mid rfl rfl rfl ?_); refine OpV.box rfl rfl rfl ?_; intro _; refine w ?_))
        (refine VE.done1N rfl ?_ ?_)
        · rfl
        · rw [show k.number v j = { k with had := k.had ++ lowBytes v j } by unfold Pk.number; rw [if_pos hr]]
          exact Ent.refl

theorem ldB {W : World} {P : Program} {n : Nat} {H : List SProp} {f : Fr} {dst : Option Tmp} {ty_ : TypeId} {pos : String} {after : Array Edge} {guard : Option (Nat × Bool)} {T : TabData} {x : Operand} {s : TypeId} {a : Addr} {k j : Nat} {l : List UInt8} (hT : T.ok P = true) (hx : evalX f x = some (.pointer (some (a.add j)))) (hl : assoc T.leaf s = some ()) (hr : Rds W H 1 (some a) k (bytes l)) (hj : j < l.length) :
    PureAt W P n H f { dst, op := .load s x, type := ty_, pos, after, guard } (.int .u8 (l[j].toNat : Int)) :=
  PureAt.ldR hT hx hl hr (by simp [bytes, byteV, hj])

theorem new_ok {W : World} {R : List SProp} (size : Nat) (hs : size ≤ 4096) :
    Does W Try.prog 87 [.int .i64 size] R (β := Nat) (fun _ => True) (fun b => .tuple #[.pointer (some ⟨b, 0, none⟩), .int .u16 0]) (fun b => PackerR b ⟨size, [], 0⟩ :: R) := by
  (refine Does.enter Try.func87 Try.ntmps87 rfl rfl ?_)
  (refine w ?_; repeat ((first | refine VO.step rfl rfl ?_ | refine VD.end rfl rfl rfl ?_ | refine VD.mid rfl rfl rfl ?_); refine OpV.box rfl rfl rfl ?_; intro _; refine w ?_))
  (refine VC.condFe rfl rfl (by simp; omega) ?_)
  (refine w ?_; repeat ((first | refine VO.step rfl rfl ?_ | refine VD.end rfl rfl rfl ?_ | refine VD.mid rfl rfl rfl ?_); refine OpV.box rfl rfl rfl ?_; intro _; refine w ?_))
  (apply VO.pure rfl rfl; apply PureAt.build sb_178 rfl; (simp [buildX, setL, Value.cells]; rfl); rfl)
  (refine w ?_; repeat ((first | refine VO.step rfl rfl ?_ | refine VD.end rfl rfl rfl ?_ | refine VD.mid rfl rfl rfl ?_); refine OpV.box rfl rfl rfl ?_; intro _; refine w ?_))
  refine VE.done _ rfl trivial rfl ?_
  exact fun w hw => PackerR.shut' (k := ⟨size, [], 0⟩) ⟨Nat.zero_le _, hs, .inl rfl⟩ rfl rfl w (Holds.swap (hw.ownNil 5 1))

theorem wrap64_of {v : Nat} (h : v < 2 ^ 64) : IntKind.u64.wrap (v : Int) = v := by
  simp only [IntKind.wrap, IntKind.bits, IntKind.signed, Bool.false_and, Bool.false_eq_true, if_false]
  omega
theorem wrap32_of (v : Nat) : IntKind.u32.wrap (v : Int) = ((v % 2 ^ 32 : Nat) : Int) := by
  simp only [IntKind.wrap, IntKind.bits, IntKind.signed, Bool.false_and, Bool.false_eq_true, if_false]
  omega
theorem u64_ok {W : World} {R : List SProp} (p : Nat) (k : Pk) (v : Nat) :
    Does1 W Try.prog 89 [.pointer (some ⟨p, 0, none⟩), .int .u64 v] (PackerR p k :: R) (.tuple #[]) (PackerR p (k.number v 8) :: R) := by
  (refine Does.enter Try.func89 Try.ntmps89 rfl rfl ?_)
  (refine w ?_; repeat ((first | refine VO.step rfl rfl ?_ | refine VD.end rfl rfl rfl ?_ | refine VD.mid rfl rfl rfl ?_); refine OpV.box rfl rfl rfl ?_; intro _; refine w ?_))
  (((first | refine VO.step rfl rfl ?_ | refine VD.end rfl rfl rfl ?_ | refine VD.mid rfl rfl rfl ?_); refine OpV.call rfl rfl (fun _ _ => by simp) (number_ok p k v 8) Ent.re rfl ?_); intro _ _)
  (refine w ?_; repeat ((first | refine VO.step rfl rfl ?_ | refine VD.end rfl rfl rfl ?_ | refine VD.mid rfl rfl rfl ?_); refine OpV.box rfl rfl rfl ?_; intro _; refine w ?_))
  (first | exact VE.done1 rfl rfl Ent.refl | exact VE.done1N rfl rfl Ent.refl)
theorem u32_ok {W : World} {R : List SProp} (p : Nat) (k : Pk) (v : Nat) (hv : v < 2 ^ 64) :
    Does1 W Try.prog 68 [.pointer (some ⟨p, 0, none⟩), .int .u32 v] (PackerR p k :: R) (.tuple #[]) (PackerR p (k.number v 4) :: R) := by
  (refine Does.enter Try.func68 Try.ntmps68 rfl rfl ?_)
  (refine w ?_; repeat ((first | refine VO.step rfl rfl ?_ | refine VD.end rfl rfl rfl ?_ | refine VD.mid rfl rfl rfl ?_); refine OpV.box rfl rfl rfl ?_; intro _; refine w ?_))
  refine VO.re 6 (.int .u64 v) rfl (by rw [wrap64_of hv]) ?_
  (((first | refine VO.step rfl rfl ?_ | refine VD.end rfl rfl rfl ?_ | refine VD.mid rfl rfl rfl ?_); refine OpV.call rfl rfl (fun _ _ => by simp) (number_ok p k v 4) Ent.re rfl ?_); intro _ _)
  (refine w ?_; repeat ((first | refine VO.step rfl rfl ?_ | refine VD.end rfl rfl rfl ?_ | refine VD.mid rfl rfl rfl ?_); refine OpV.box rfl rfl rfl ?_; intro _; refine w ?_))
  (first | exact VE.done1 rfl rfl Ent.refl | exact VE.done1N rfl rfl Ent.refl)
/-- All bytes of a packer, noughts behind what was put. -/
def Pk.image (k : Pk) : List UInt8 := k.had ++ List.replicate (k.size - k.had.length) 0

theorem bytes_ok {W : World} {R : List SProp} (p : Nat) (k : Pk) (hb : k.bad = 0) :
    Does W Try.prog 90 [.pointer (some ⟨p, 0, none⟩)] (PackerR p k :: R) (β := Nat) (fun _ => True) (fun b => .tuple #[.slice (some ⟨b, 0, none⟩) k.size k.size, .int .u16 0])
      (fun b => Own 5 1 (.slice (some ⟨b, 0, none⟩) k.size k.size) k.size (bytes k.image) :: PackerR p k :: R) := by
  (refine Does.enter Try.func90 Try.ntmps90 rfl rfl ?_)
  refine VC.obtain (fun w => PackerR.open) ?_
  rintro ⟨⟨ao, cap⟩, hk⟩
  have ⟨h1, h2, h3⟩ := hk
  (refine w ?_; repeat ((first | refine VO.step rfl rfl ?_ | refine VD.end rfl rfl rfl ?_ | refine VD.mid rfl rfl rfl ?_); refine OpV.box rfl rfl rfl ?_; intro _; refine w ?_))
  (refine VC.condFe rfl rfl (by simpa using hb) ?_)
  (refine w ?_; repeat ((first | refine VO.step rfl rfl ?_ | refine VD.end rfl rfl rfl ?_ | refine VD.mid rfl rfl rfl ?_); refine OpV.box rfl rfl rfl ?_; intro _; refine w ?_))
  ((first | refine VO.step rfl rfl ?_ | refine VD.end rfl rfl rfl ?_ | refine VD.mid rfl rfl rfl ?_); refine OpV.makeSlice1 st_55 rfl rfl rfl ?_ ?_ rfl ?_)
  · omega
  · simp only [maxLen]; omega
  intro b
  (refine w ?_; repeat ((first | refine VO.step rfl rfl ?_ | refine VD.end rfl rfl rfl ?_ | refine VD.mid rfl rfl rfl ?_); refine OpV.box rfl rfl rfl ?_; intro _; refine w ?_))
  ((first | refine VO.step rfl rfl ?_ | refine VD.end rfl rfl rfl ?_ | refine VD.mid rfl rfl rfl ?_); refine OpV.copy st_55 rfl rfl (by (repeat first | exact .head | apply Hole.tail)) (fun w hw => Sees.own (bytes_one _) hw (by (focus repeat first | exact .head _ | apply List.Mem.tail))) rfl ?_)
  have e : min k.had.length k.size = k.had.length := by omega
  rw [e]
  (refine w ?_; repeat ((first | refine VO.step rfl rfl ?_ | refine VD.end rfl rfl rfl ?_ | refine VD.mid rfl rfl rfl ?_); refine OpV.box rfl rfl rfl ?_; intro _; refine w ?_))
  refine VE.done b rfl trivial rfl ?_
  have e2 : (bytes k.had).take (k.had.length * 1) ++ (List.replicate k.size (Value.int .u8 0)).drop (k.had.length * 1) = bytes k.image := by
    rw [Pk.image, bytes_append, bytes_replicate, Nat.mul_one, List.take_of_length_le (by simp)]; simp
  rw [e2]
  exact fun w hw => (PackerR.shut hk w (hw.reord (by (repeat first | exact .refl | (apply Reord.cons; focus repeat first | exact .head | apply Del.tail) | exact .nil | apply Reord.drop)))).swap

theorem same_any {W : World} {R : List SProp} {ao ao' : Option Addr} {n n' cap cap' : Nat} {a b : List UInt8} (ha : Rds W R 1 ao n (bytes a)) (hb : Rds W R 1 ao' n' (bytes b)) (hn : n ≤ maxLen) :
    Does1 W Try.prog 31 [.slice ao n cap, .slice ao' n' cap'] R (.bool (decide (a = b))) R := by
  have la : a.length = n := by have := ha.len; simpa using this
  have lb : b.length = n' := by have := hb.len; simpa using this
  unfold maxLen at hn
  (refine Does.enter Try.func31 Try.ntmps31 rfl rfl ?_)
  (refine w ?_; repeat ((first | refine VO.step rfl rfl ?_ | refine VD.end rfl rfl rfl ?_ | refine VD.mid rfl rfl rfl ?_); refine OpV.box rfl rfl rfl ?_; intro _; refine w ?_))
  by_cases hl : n = n'
  · subst hl
    (refine VC.condFe rfl rfl (by simp) ?_)
    (refine w ?_; repeat ((first | refine VO.step rfl rfl ?_ | refine VD.end rfl rfl rfl ?_ | refine VD.mid rfl rfl rfl ?_); refine OpV.box rfl rfl rfl ?_; intro _; refine w ?_))
    refine VC.loop (α := Nat) (fun j => j ≤ n ∧ ∀ i (h : i < a.length) (h' : i < b.length), i < j → a[i] = b[i]) (fun j => R)
      (fun j => [(0, .slice ao n cap), (1, .slice ao' n cap'), (5, .int .i64 j)]) (fun j => n - j) rfl 0 ⟨Nat.zero_le _, fun _ _ _ h => absurd h (by omega)⟩ Ent.refl ⟨rfl, rfl, rfl, trivial⟩ ?_
    rintro j ⟨hj, hi⟩
    (refine w ?_; repeat ((first | refine VO.step rfl rfl ?_ | refine VD.end rfl rfl rfl ?_ | refine VD.mid rfl rfl rfl ?_); refine OpV.box rfl rfl rfl ?_; intro _; refine w ?_))
    (refine VC.cond rfl rfl ?_ ?_ <;> intro hc)
    · have hlt : j < n := by simpa using hc
      obtain ⟨a0, rfl⟩ : ∃ a0, ao = some a0 := by cases ao with | none => have := ha.nil rfl; omega | some a0 => exact ⟨a0, rfl⟩
      obtain ⟨b0, rfl⟩ : ∃ b0, ao' = some b0 := by cases ao' with | none => have := hb.nil rfl; omega | some b0 => exact ⟨b0, rfl⟩
      have hb1 := ha
      have hb2 := hb
      (refine w ?_; repeat ((first | refine VO.step rfl rfl ?_ | refine VD.end rfl rfl rfl ?_ | refine VD.mid rfl rfl rfl ?_); refine OpV.box rfl rfl rfl ?_; intro _; refine w ?_))
      ((refine VC.quiet rfl (by kernel_rfl) (by kernel_rfl) ?_); (refine w ?_; repeat ((first | refine VO.step rfl rfl ?_ | refine VD.end rfl rfl rfl ?_ | refine VD.mid rfl rfl rfl ?_); refine OpV.box rfl rfl rfl ?_; intro _; refine w ?_)))
      (refine VC.cond rfl rfl ?_ ?_ <;> intro hc)
      · (refine w ?_; repeat ((first | refine VO.step rfl rfl ?_ | refine VD.end rfl rfl rfl ?_ | refine VD.mid rfl rfl rfl ?_); refine OpV.box rfl rfl rfl ?_; intro _; refine w ?_))
        (refine VE.done1 rfl ?_ ?_)
        · have hne : a[j]'(by omega) ≠ b[j]'(by omega) := by
            intro e; rw [e] at hc; simp at hc
          have : a ≠ b := fun e => hne (by subst e; rfl)
          simp [this]
        · exact Ent.refl
      · (refine w ?_; repeat ((first | refine VO.step rfl rfl ?_ | refine VD.end rfl rfl rfl ?_ | refine VD.mid rfl rfl rfl ?_); refine OpV.box rfl rfl rfl ?_; intro _; refine w ?_))
        have he : a[j]'(by omega) = b[j]'(by omega) := by
          have : ((a[j]'(by omega)).toNat : Int) = ((b[j]'(by omega)).toNat : Int) := by simpa using hc
          exact UInt8.toNat_inj.1 (by omega)
        refine VE.round (j + 1) ⟨by omega, fun i h h' hij => ?_⟩ (by omega) ⟨rfl, rfl, rfl, trivial⟩ Ent.refl
        by_cases e : i = j
        · subst e; exact he
        · exact hi i h h' (by omega)
    · have hge : j = n := by have : ¬ j < n := by simpa using hc
                             omega
      (refine w ?_; repeat ((first | refine VO.step rfl rfl ?_ | refine VD.end rfl rfl rfl ?_ | refine VD.mid rfl rfl rfl ?_); refine OpV.box rfl rfl rfl ?_; intro _; refine w ?_))
      (refine VE.done1 rfl ?_ ?_)
      · have : a = b := List.ext_getElem (by omega) fun i h h' => hi i h h' (by omega)
        simp [this]
      · exact Ent.refl
  · (refine VC.condTe rfl rfl (by simp; omega) ?_)
    (refine w ?_; repeat ((first | refine VO.step rfl rfl ?_ | refine VD.end rfl rfl rfl ?_ | refine VD.mid rfl rfl rfl ?_); refine OpV.box rfl rfl rfl ?_; intro _; refine w ?_))
    (refine VE.done1 rfl ?_ ?_)
    · have : a ≠ b := fun e => hl (by subst e; omega)
      simp [this]
    · exact Ent.refl

end Go.Proofs.Ytlojjlbngnaphaa

/-! Text Na. -/
/- Lists that lead to lists: rows of bytes, patches, batches: what they are in memory. -/
set_option maxRecDepth 8000
set_option linter.unusedVariables false
set_option linter.unusedSimpArgs false
set_option linter.unusedSectionVars false
namespace Go.Sl
open Go Go.RowKit
section
variable {W w : World} {H R L M : List SProp} {α : Type} {res : α → SProp}
/-- What many things have, as one resource. -/
def pile (res : α → SProp) (l : List α) : SProp := star (l.map res)
theorem pile_nil (h : Holds W R w) : Holds W (pile res [] :: R) w := h.nest (L := [])
theorem pile_push {l : List α} {a : α} (h : Holds W (res a :: pile res l :: R) w) : Holds W (pile res (l ++ [a]) :: R) w := by
  have h2 := (h.swap).join
  refine Holds.nest ?_
  rw [List.map_append]
  refine h2.perm ?_
  simp
theorem pile_out {l : List α} {i : Nat} (hi : i < l.length) (h : Holds W (pile res l :: R) w) : Holds W (res l[i] :: pile res (l.eraseIdx i) :: R) w := by
  have h2 := h.join
  have e : List.Perm l (l[i] :: l.eraseIdx i) := by
    rw [List.eraseIdx_eq_take_drop_succ]
    have : l = l.take i ++ l[i] :: l.drop (i + 1) := by rw [← List.drop_eq_getElem_cons hi, List.take_append_drop]
    exact (List.Perm.of_eq this).trans List.perm_middle
  have h3 : Holds W (res l[i] :: ((l.eraseIdx i).map res ++ R)) w := h2.perm (by simpa using ((e.map res).append_right R))
  have h4 : Holds W ((l.eraseIdx i).map res ++ (R ++ [res l[i]])) w := h3.perm (by
    refine (List.perm_append_comm (l₁ := [res l[i]]) (l₂ := (l.eraseIdx i).map res ++ R)).trans ?_
    rw [List.append_assoc])
  have h5 : Holds W (pile res (l.eraseIdx i) :: (R ++ [res l[i]])) w := h4.nest
  exact h5.perm (List.perm_append_comm (l₁ := pile res (l.eraseIdx i) :: R) (l₂ := [res l[i]]))
/-- What lies within a group of resources is read. -/
theorem Rds.star {sz k : Nat} {ao : Option Addr} {xs : List Value} (m : Sl.star L ∈ H) (h : ∀ R, Rds W (L ++ R) sz ao k xs) : Rds W H sz ao k xs := by
  have h0 := h []
  refine ⟨h0.len, h0.one, h0.nil, fun w hw => ?_⟩
  obtain ⟨R, p⟩ := mem_perm m
  exact (h R).cell w (hw.perm p).join
theorem Rds.pile {sz k : Nat} {ao : Option Addr} {xs : List Value} {l : List α} {a : α} (m : Sl.pile res l ∈ H) (ha : a ∈ l) (h : ∀ R, res a ∈ R → Rds W R sz ao k xs) : Rds W H sz ao k xs :=
  Rds.star (L := l.map res) m (fun R => h _ (List.mem_append_left _ (List.mem_map_of_mem ha)))
end
end Go.Sl
namespace Go.Proofs.Ytlojjlbngnaphaa
open Go.RowKit Go.Sl
attribute [local irreducible] Own

/-! ### Rows of bytes -/
structure RowE where
  ao : Option Addr
  cap : Nat
  data : List UInt8
abbrev RowE.hdr (e : RowE) : Value := .slice e.ao e.data.length e.cap
def RowE.res (e : RowE) : SProp := Own 5 1 (.slice e.ao e.data.length e.cap) e.data.length (bytes e.data)
structure RowE.ok (e : RowE) : Prop where
  nil : e.ao = none → e.data.length = 0
  cap : e.data.length ≤ e.cap
theorem rowhdr_one (l : List RowE) : ∀ u ∈ l.map RowE.hdr, u.oneCell' = true := by
  intro u hu; obtain ⟨e, _, rfl⟩ := List.mem_map.1 hu; rfl
theorem RowE.rds {W : World} {H : List SProp} {e : RowE} (h : e.ok) (m : e.res ∈ H) : Rds W H 1 e.ao e.data.length (bytes e.data) := Rds.own (bytes_one _) m (by simp) h.nil
theorem RowE.know {W w : World} {R : List SProp} {e : RowE} (h : Holds W (e.res :: R) w) : e.ok := ⟨h.ownNone (.head _), h.ownCap (.head _)⟩
/-- Rows that can be read. -/
structure RdRows (W : World) (R : List SProp) (ao : Option Addr) (l : List RowE) : Prop where
  rds : Rds W R 1 ao l.length (l.map RowE.hdr)
  each : ∀ e ∈ l, Rds W R 1 e.ao e.data.length (bytes e.data)
  ok : ∀ e ∈ l, e.ok
abbrev RowsO (x : Option Addr × Nat) (l : List RowE) : SProp := Own 55 1 (.slice x.1 l.length x.2) l.length (l.map RowE.hdr)
abbrev PilR (l : List RowE) : SProp := pile RowE.res l
theorem RdRows.own {W : World} {H : List SProp} {x : Option Addr × Nat} {l : List RowE} (hn : x.1 = none → l.length = 0) (hok : ∀ e ∈ l, e.ok) (m1 : RowsO x l ∈ H) (m2 : PilR l ∈ H) : RdRows W H x.1 l :=
  ⟨Rds.own (rowhdr_one l) m1 (by simp) hn, fun e he => Rds.pile m2 he (fun R hR => RowE.rds (hok e he) hR), hok⟩
theorem RdRows.ent {W : World} {H R : List SProp} {ao : Option Addr} {l : List RowE} (h : RdRows W R ao l) (e : Ent W H R) : RdRows W H ao l := ⟨h.rds.ent e, fun x hx => (h.each x hx).ent e, h.ok⟩
theorem PilR.know {W w : World} {R : List SProp} {l : List RowE} (h : Holds W (PilR l :: R) w) : ∀ e ∈ l, e.ok := by
  intro e he
  obtain ⟨i, hi, rfl⟩ := List.mem_iff_getElem.1 he
  exact RowE.know (pile_out hi h)
/-! ### Patches -/
structure PatE where
  member : Int
  row : Int
  d : RowE
abbrev PatE.cells (p : PatE) : List Value := [.int .i64 p.member, .int .i64 p.row, p.d.hdr]
def patCells (l : List PatE) : List Value := l.flatMap PatE.cells
def PatE.res (p : PatE) : SProp := p.d.res
theorem pat_one (p : PatE) : ∀ u ∈ p.cells, u.oneCell' = true := by simp [Value.oneCell']
theorem pats_one (l : List PatE) : ∀ u ∈ patCells l, u.oneCell' = true := by
  intro u hu; obtain ⟨p, _, h⟩ := List.mem_flatMap.1 hu; exact pat_one p u h
theorem pats_len (l : List PatE) : (patCells l).length = l.length * 3 := flat_length l (fun _ _ => rfl)
theorem pat_get (l : List PatE) (j i : Nat) (h : j < l.length) (hi : i < 3) : (patCells l)[j * 3 + i]? = (l[j].cells)[i]? := flat_at l j i h (fun _ _ => rfl) hi
theorem pat_at (l : List PatE) (j : Nat) (h : j < l.length) : ((patCells l).drop (j * 3)).take 3 = l[j].cells := flat_part l j h (fun _ _ => rfl)
structure RdPats (W : World) (R : List SProp) (ao : Option Addr) (l : List PatE) : Prop where
  rds : Rds W R 3 ao l.length (patCells l)
  each : ∀ p ∈ l, Rds W R 1 p.d.ao p.d.data.length (bytes p.d.data)
  ok : ∀ p ∈ l, p.d.ok
abbrev PatsO (x : Option Addr × Nat) (l : List PatE) : SProp := Own 78 3 (.slice x.1 l.length x.2) l.length (patCells l)
abbrev PilP (l : List PatE) : SProp := pile PatE.res l
theorem RdPats.own {W : World} {H : List SProp} {x : Option Addr × Nat} {l : List PatE} (hn : x.1 = none → l.length = 0) (hok : ∀ p ∈ l, p.d.ok) (m1 : PatsO x l ∈ H) (m2 : PilP l ∈ H) : RdPats W H x.1 l :=
  ⟨Rds.own (pats_one l) m1 (pats_len l) hn, fun p hp => Rds.pile m2 hp (fun R hR => RowE.rds (hok p hp) hR), hok⟩
theorem RdPats.ent {W : World} {H R : List SProp} {ao : Option Addr} {l : List PatE} (h : RdPats W R ao l) (e : Ent W H R) : RdPats W H ao l := ⟨h.rds.ent e, fun x hx => (h.each x hx).ent e, h.ok⟩
theorem PilP.know {W w : World} {R : List SProp} {l : List PatE} (h : Holds W (PilP l :: R) w) : ∀ p ∈ l, p.d.ok := by
  intro e he
  obtain ⟨i, hi, rfl⟩ := List.mem_iff_getElem.1 he
  exact RowE.know (pile_out hi h)
/-! ### Batches -/
structure TxnE where
  seq : Nat
  ao : Option Addr
  cap : Nat
  pats : List PatE
abbrev TxnE.cells (t : TxnE) : List Value := [.int .u64 t.seq, .slice t.ao t.pats.length t.cap]
def txnCells (l : List TxnE) : List Value := l.flatMap TxnE.cells
def TxnE.res (t : TxnE) : SProp := Sl.star [PatsO (t.ao, t.cap) t.pats, PilP t.pats]
structure TxnE.ok (t : TxnE) : Prop where
  nil : t.ao = none → t.pats.length = 0
  cap : t.pats.length ≤ t.cap
  each : ∀ p ∈ t.pats, p.d.ok
theorem txn_one (p : TxnE) : ∀ u ∈ p.cells, u.oneCell' = true := by simp [Value.oneCell']
theorem txns_one (l : List TxnE) : ∀ u ∈ txnCells l, u.oneCell' = true := by
  intro u hu; obtain ⟨p, _, h⟩ := List.mem_flatMap.1 hu; exact txn_one p u h
theorem txns_len (l : List TxnE) : (txnCells l).length = l.length * 2 := flat_length l (fun _ _ => rfl)
theorem txn_get (l : List TxnE) (j i : Nat) (h : j < l.length) (hi : i < 2) : (txnCells l)[j * 2 + i]? = (l[j].cells)[i]? := flat_at l j i h (fun _ _ => rfl) hi
structure RdTxns (W : World) (R : List SProp) (ao : Option Addr) (l : List TxnE) : Prop where
  rds : Rds W R 2 ao l.length (txnCells l)
  each : ∀ t ∈ l, RdPats W R t.ao t.pats
  ok : ∀ t ∈ l, t.ok
abbrev TxnsO (x : Option Addr × Nat) (l : List TxnE) : SProp := Own 25 2 (.slice x.1 l.length x.2) l.length (txnCells l)
abbrev PilT (l : List TxnE) : SProp := pile TxnE.res l
theorem TxnE.know {W w : World} {R : List SProp} {t : TxnE} (h : Holds W (t.res :: R) w) : t.ok := by
  have h2 : Holds W (PatsO (t.ao, t.cap) t.pats :: PilP t.pats :: R) w := h.join
  exact ⟨h2.ownNone (.head _), h2.ownCap (.head _), PilP.know h2.tail⟩
theorem PilT.know {W w : World} {R : List SProp} {l : List TxnE} (h : Holds W (PilT l :: R) w) : ∀ t ∈ l, t.ok := by
  intro e he
  obtain ⟨i, hi, rfl⟩ := List.mem_iff_getElem.1 he
  exact TxnE.know (pile_out hi h)
theorem TxnE.rd {W : World} {H : List SProp} {t : TxnE} (h : t.ok) (m : t.res ∈ H) : RdPats W H t.ao t.pats := by
  have q : ∀ R, RdPats W ([PatsO (t.ao, t.cap) t.pats, PilP t.pats] ++ R) t.ao t.pats := fun R => RdPats.own (x := (t.ao, t.cap)) h.nil h.each (by simp) (by simp)
  exact ⟨Rds.star m fun R => (q R).rds, fun p hp => Rds.star m fun R => (q R).each p hp, h.each⟩
theorem RdTxns.own {W : World} {H : List SProp} {x : Option Addr × Nat} {l : List TxnE} (hn : x.1 = none → l.length = 0) (hok : ∀ t ∈ l, t.ok) (m1 : TxnsO x l ∈ H) (m2 : PilT l ∈ H) : RdTxns W H x.1 l := by
  refine ⟨Rds.own (txns_one l) m1 (txns_len l) hn, fun t ht => ?_, hok⟩
  exact ⟨Rds.pile m2 ht (fun R hR => (TxnE.rd (hok t ht) hR).rds), fun p hp => Rds.pile m2 ht (fun R hR => (TxnE.rd (hok t ht) hR).each p hp), (hok t ht).each⟩
theorem RdTxns.ent {W : World} {H R : List SProp} {ao : Option Addr} {l : List TxnE} (h : RdTxns W R ao l) (e : Ent W H R) : RdTxns W H ao l := ⟨h.rds.ent e, fun x hx => (h.each x hx).ent e, h.ok⟩
/-- A batch that is put together. -/
theorem TxnE.shut {W w : World} {R : List SProp} (t : TxnE) (h : Holds W (PatsO (t.ao, t.cap) t.pats :: PilP t.pats :: R) w) : Holds W (t.res :: R) w := h.nest (L := [PatsO (t.ao, t.cap) t.pats, PilP t.pats])
end Go.Proofs.Ytlojjlbngnaphaa

/-! Text Lr. -/
/- What the reader's functions do, over resources. -/
set_option maxRecDepth 8000
set_option linter.unusedVariables false
set_option linter.unusedSimpArgs false
set_option linter.unusedSectionVars false
namespace Go.Proofs.Ytlojjlbngnaphaa
open Go.RowKit Go.Sl

theorem clone_ok {W : World} {R : List SProp} {ao : Option Addr} {n cap : Nat} {xs : List Value} (ha : Rds W R 1 ao n xs) (hn : n ≤ 1099511627776) :
    Does W Try.prog 63 [.slice ao n cap] R (β := Option Addr × Nat) (fun _ => True) (fun x => .slice x.1 n x.2) (fun x => Own 5 1 (.slice x.1 n x.2) n xs :: R) := by
  (refine Does.enter Try.func63 Try.ntmps63 rfl rfl ?_)
  (refine w ?_; repeat ((first | refine VO.step rfl rfl ?_ | refine VD.end rfl rfl rfl ?_ | refine VD.mid rfl rfl rfl ?_); refine OpV.box rfl rfl rfl ?_; intro _; refine w ?_))
  cases ao with
  | none =>
    have h0 := ha.nil rfl
    subst h0
    have hx : xs = [] := List.eq_nil_of_length_eq_zero (by simpa using ha.len)
    subst hx
    (refine VC.condTe rfl rfl (rfl) ?_)
    (refine w ?_; repeat ((first | refine VO.step rfl rfl ?_ | refine VD.end rfl rfl rfl ?_ | refine VD.mid rfl rfl rfl ?_); refine OpV.box rfl rfl rfl ?_; intro _; refine w ?_))
    exact VE.done (none, 0) rfl trivial rfl fun w hw => hw.ownNil _ _
  | some a =>
    (refine VC.condFe rfl rfl (rfl) ?_)
    (refine w ?_; repeat ((first | refine VO.step rfl rfl ?_ | refine VD.end rfl rfl rfl ?_ | refine VD.mid rfl rfl rfl ?_); refine OpV.box rfl rfl rfl ?_; intro _; refine w ?_))
    ((first | refine VO.step rfl rfl ?_ | refine VD.end rfl rfl rfl ?_ | refine VD.mid rfl rfl rfl ?_); refine OpV.buildSlice1 st_55 rfl rfl (by first | (simp; done) | simp [Value.oneCell']) (by decide) rfl ?_; intro nb)
    refine VO.ent (H' := Own 5 1 (.slice (some ⟨nb, 0, none⟩) 0 0) 0 [] :: R) (fun w hw => Holds.ownShut rfl (Nat.le_refl _) (by decide) rfl hw) ?_
    (refine w ?_; repeat ((first | refine VO.step rfl rfl ?_ | refine VD.end rfl rfl rfl ?_ | refine VD.mid rfl rfl rfl ?_); refine OpV.box rfl rfl rfl ?_; intro _; refine w ?_))
    refine VO.step rfl rfl ?_
    refine OpV.append st_55 rfl rfl .head (fun w hw => (ha.sees (cap := cap) hw.tail).src st_55.und) (by simp only [maxLen]; omega) (by omega) rfl ?_
    intro ao' cap'
    simp only [Nat.zero_add, List.nil_append]
    (refine w ?_; repeat ((first | refine VO.step rfl rfl ?_ | refine VD.end rfl rfl rfl ?_ | refine VD.mid rfl rfl rfl ?_); refine OpV.box rfl rfl rfl ?_; intro _; refine w ?_))
    exact VE.done (ao', cap') rfl trivial rfl Ent.refl

structure Rk where
  b : List UInt8
  at_ : Nat
  err : Int
  wh : Int

def Rk.ok (k : Rk) : Prop := k.at_ ≤ k.b.length ∧ k.b.length ≤ 1099511627776

abbrev ReaderO (p : Nat) (k : Rk) (ao : Option Addr) (cap : Nat) (R : List SProp) : List SProp :=
  Row p 186 [.slice ao k.b.length cap, .int .i64 k.at_, .int .u16 k.err, .int .i64 k.wh] :: Own 5 1 (.slice ao k.b.length cap) k.b.length (bytes k.b) :: R
def ReaderR (p : Nat) (k : Rk) : SProp := ex fun ac : Option Addr × Nat => Sl.star (fact k.ok :: ReaderO p k ac.1 ac.2 [])

theorem ReaderR.open {W w : World} {p : Nat} {k : Rk} {R : List SProp} (hw : Holds W (ReaderR p k :: R) w) : ∃ x : { ac : Option Addr × Nat // k.ok }, Holds W (ReaderO p k x.1.1 x.1.2 R) w := by
  obtain ⟨ac, h⟩ := hw.exOpen
  have h := h.join
  exact ⟨⟨ac, h.factOpen⟩, h.tail⟩
theorem ReaderR.shut {W : World} {p : Nat} {k : Rk} {R : List SProp} (hk : k.ok) {ao : Option Addr} {cap : Nat} : Ent W (ReaderO p k ao cap R) (ReaderR p k :: R) := fun _ hw =>
  Holds.exShut (ao, cap) (Holds.nest (L := [_, _, _]) (hw.factShut hk))
theorem ReaderR.know {W w : World} {p : Nat} {k : Rk} {R : List SProp} (hw : Holds W (ReaderR p k :: R) w) : k.ok := by
  obtain ⟨⟨_, h⟩, _⟩ := ReaderR.open hw
  exact h

theorem read_ok {W : World} {R : List SProp} {ao : Option Addr} {n cap : Nat} {l : List UInt8} (ha : Rds W R 1 ao n (bytes l)) (hn : n ≤ 1099511627776) :
    Does W Try.prog 104 [.slice ao n cap] R (β := Nat) (fun _ => True) (fun b => .pointer (some ⟨b, 0, none⟩)) (fun b => ReaderR b ⟨l, 0, 0, 0⟩ :: R) := by
  have hl : l.length = n := by have := ha.len; simpa using this
  (refine Does.enter Try.func104 Try.ntmps104 rfl rfl ?_)
  (refine w ?_; repeat ((first | refine VO.step rfl rfl ?_ | refine VD.end rfl rfl rfl ?_ | refine VD.mid rfl rfl rfl ?_); refine OpV.box rfl rfl rfl ?_; intro _; refine w ?_))
  ((first | refine VO.step rfl rfl ?_ | refine VD.end rfl rfl rfl ?_ | refine VD.mid rfl rfl rfl ?_); refine OpV.call rfl rfl (fun _ _ => by simp) (clone_ok ha hn) Ent.re rfl ?_)
  rintro ⟨ao', cap'⟩ -
  (refine w ?_; repeat ((first | refine VO.step rfl rfl ?_ | refine VD.end rfl rfl rfl ?_ | refine VD.mid rfl rfl rfl ?_); refine OpV.box rfl rfl rfl ?_; intro _; refine w ?_))
  (apply VO.pure rfl rfl; apply PureAt.build sb_186 rfl; (simp [buildX, setL, Value.cells]; rfl); rfl)
  (refine w ?_; repeat ((first | refine VO.step rfl rfl ?_ | refine VD.end rfl rfl rfl ?_ | refine VD.mid rfl rfl rfl ?_); refine OpV.box rfl rfl rfl ?_; intro _; refine w ?_))
  subst hl
  exact VE.done _ rfl trivial rfl (ReaderR.shut (k := ⟨l, 0, 0, 0⟩) ⟨Nat.zero_le _, hn⟩)

theorem rleft_ok {W : World} {R : List SProp} (p : Nat) (k : Rk) :
    Does1 W Try.prog 112 [.pointer (some ⟨p, 0, none⟩)] (ReaderR p k :: R) (.int .i64 ((k.b.length : Int) - k.at_)) (ReaderR p k :: R) := by
  (refine Does.enter Try.func112 Try.ntmps112 rfl rfl ?_)
  refine VC.obtain (fun w => ReaderR.open) ?_
  rintro ⟨⟨ao, cap⟩, hk⟩
  have ⟨h1, h2⟩ := hk
  (refine w ?_; repeat ((first | refine VO.step rfl rfl ?_ | refine VD.end rfl rfl rfl ?_ | refine VD.mid rfl rfl rfl ?_); refine OpV.box rfl rfl rfl ?_; intro _; refine w ?_))
  ((refine VC.quiet rfl (by kernel_rfl) (by kernel_rfl) ?_); (refine w ?_; repeat ((first | refine VO.step rfl rfl ?_ | refine VD.end rfl rfl rfl ?_ | refine VD.mid rfl rfl rfl ?_); refine OpV.box rfl rfl rfl ?_; intro _; refine w ?_)))
  (refine VE.done1 rfl rfl ?_)
  exact ReaderR.shut hk
theorem rfail_ok {W : World} {R : List SProp} (p : Nat) (k : Rk) (e a : Int) :
    Does1 W Try.prog 113 [.pointer (some ⟨p, 0, none⟩), .int .u16 e, .int .i64 a] (ReaderR p k :: R) (.tuple #[]) (ReaderR p { k with err := e, wh := a } :: R) := by
  (refine Does.enter Try.func113 Try.ntmps113 rfl rfl ?_)
  refine VC.obtain (fun w => ReaderR.open) ?_
  rintro ⟨⟨ao, cap⟩, hk⟩
  (refine w ?_; repeat ((first | refine VO.step rfl rfl ?_ | refine VD.end rfl rfl rfl ?_ | refine VD.mid rfl rfl rfl ?_); refine OpV.box rfl rfl rfl ?_; intro _; refine w ?_))
  (refine VE.done1N rfl rfl ?_)
  exact ReaderR.shut (k := { k with err := e, wh := a }) hk

/-- Is there so much? If not, it is short for good. -/
def Rk.short (k : Rk) (n : Nat) : Rk := if k.err = 0 ∧ k.b.length - k.at_ < n then { k with err := 11, wh := k.at_ } else k
/-- The next so many bytes; none where something is wrong. -/
def Rk.got (k : Rk) (n : Nat) : List UInt8 := if (k.short n).err = 0 then (k.b.drop k.at_).take n else []
theorem Rk.short_zero {k : Rk} {n : Nat} (h : (k.short n).err = 0) : k.short n = k ∧ k.err = 0 ∧ n ≤ k.b.length - k.at_ := by
  unfold Rk.short at *
  split at h
  · cases h
  · rename_i hn
    rw [if_neg hn]
    exact ⟨rfl, h, by omega⟩
theorem Rk.got_length {k : Rk} {n : Nat} (h : (k.short n).err = 0) : (k.got n).length = n := by
  obtain ⟨_, _, h3⟩ := Rk.short_zero h
  unfold Rk.got
  rw [if_pos h]
  simp; omega

theorem next_bad {W : World} {R : List SProp} (p : Nat) (k : Rk) (n : Nat) (hbad : (k.short n).err ≠ 0) :
    Does1 W Try.prog 111 [.pointer (some ⟨p, 0, none⟩), .int .i64 n] (ReaderR p k :: R) (.slice none 0 0) (ReaderR p (k.short n) :: R) := by
  (refine Does.enter Try.func111 Try.ntmps111 rfl rfl ?_)
  refine VC.obtain (fun w => ReaderR.open) ?_
  rintro ⟨⟨ao, cap⟩, hk⟩
  have ⟨h1, h2⟩ := hk
  (refine w ?_; repeat ((first | refine VO.step rfl rfl ?_ | refine VD.end rfl rfl rfl ?_ | refine VD.mid rfl rfl rfl ?_); refine OpV.box rfl rfl rfl ?_; intro _; refine w ?_))
  ((first | refine VO.split rfl rfl rfl ?_ ?_ | refine VD.split rfl rfl rfl ?_ ?_) <;> intro hb)
  · (refine w ?_; repeat ((first | refine VO.step rfl rfl ?_ | refine VD.end rfl rfl rfl ?_ | refine VD.mid rfl rfl rfl ?_); refine OpV.box rfl rfl rfl ?_; intro _; refine w ?_))
    (((first | refine VO.step rfl rfl ?_ | refine VD.end rfl rfl rfl ?_ | refine VD.mid rfl rfl rfl ?_); refine OpV.call rfl rfl (fun _ _ => by simp) (rleft_ok p k) (ReaderR.shut hk) rfl ?_); intro _ _)
    refine VO.obtain (fun w => ReaderR.open) ?_
    rintro ⟨⟨ao, cap⟩, -⟩
    have hb : k.err = 0 := by simpa using hb
    (refine w ?_; repeat ((first | refine VO.step rfl rfl ?_ | refine VD.end rfl rfl rfl ?_ | refine VD.mid rfl rfl rfl ?_); refine OpV.box rfl rfl rfl ?_; intro _; refine w ?_))
    (refine VC.cond rfl rfl ?_ ?_ <;> intro hc)
    · have hs : k.short n = { k with err := 11, wh := k.at_ } := by unfold Rk.short; rw [if_pos ⟨hb, by simp at hc; omega⟩]
      (refine w ?_; repeat ((first | refine VO.step rfl rfl ?_ | refine VD.end rfl rfl rfl ?_ | refine VD.mid rfl rfl rfl ?_); refine OpV.box rfl rfl rfl ?_; intro _; refine w ?_))
      (((first | refine VO.step rfl rfl ?_ | refine VD.end rfl rfl rfl ?_ | refine VD.mid rfl rfl rfl ?_); refine OpV.call rfl rfl (fun _ _ => by simp) (rfail_ok p k 11 k.at_) (ReaderR.shut hk) rfl ?_); intro _ _)
      refine VO.obtain (fun w => ReaderR.open) ?_
      rintro ⟨⟨ao, cap⟩, hk'⟩
      (refine w ?_; repeat ((first | refine VO.step rfl rfl ?_ | refine VD.end rfl rfl rfl ?_ | refine VD.mid rfl rfl rfl ?_); refine OpV.box rfl rfl rfl ?_; intro _; refine w ?_))
      rw [hs]
      (refine VE.done1 rfl rfl ?_)
      exact ReaderR.shut hk'
    · have hs : k.short n = k := by unfold Rk.short; rw [if_neg]; simp at hc; omega
      rw [hs] at hbad
      exact absurd hb hbad
  · have hb : k.err ≠ 0 := by simpa using hb
    have hs : k.short n = k := by unfold Rk.short; rw [if_neg]; omega
    (refine w ?_; repeat ((first | refine VO.step rfl rfl ?_ | refine VD.end rfl rfl rfl ?_ | refine VD.mid rfl rfl rfl ?_); refine OpV.box rfl rfl rfl ?_; intro _; refine w ?_))
    (refine VC.condTe rfl rfl (by simpa using hb) ?_)
    (refine w ?_; repeat ((first | refine VO.step rfl rfl ?_ | refine VD.end rfl rfl rfl ?_ | refine VD.mid rfl rfl rfl ?_); refine OpV.box rfl rfl rfl ?_; intro _; refine w ?_))
    rw [hs]
    (refine VE.done1 rfl rfl ?_)
    exact ReaderR.shut hk

theorem next_good {W : World} {R : List SProp} (p : Nat) (k : Rk) (n : Nat) (hgood : (k.short n).err = 0) :
    Does W Try.prog 111 [.pointer (some ⟨p, 0, none⟩), .int .i64 n] (ReaderR p k :: R) (β := Option Addr × Nat)
      (fun x => k.b.length ≤ x.2) (fun x => .slice (subA x.1 x.2 k.at_ 1) n (x.2 - k.at_)) (fun x => ReaderO p k x.1 x.2 R) := by
  (refine Does.enter Try.func111 Try.ntmps111 rfl rfl ?_)
  refine VC.obtain (fun w => ReaderR.open) ?_
  rintro ⟨⟨ao, cap⟩, hk⟩
  have ⟨h1, h2⟩ := hk
  obtain ⟨hs, hb, hle⟩ := Rk.short_zero hgood
  (refine w ?_; repeat ((first | refine VO.step rfl rfl ?_ | refine VD.end rfl rfl rfl ?_ | refine VD.mid rfl rfl rfl ?_); refine OpV.box rfl rfl rfl ?_; intro _; refine w ?_))
  (first | refine VO.gT rfl rfl rfl (by simpa using hb) ?_ | refine VD.gT rfl rfl rfl (by simpa using hb) ?_)
  (refine w ?_; repeat ((first | refine VO.step rfl rfl ?_ | refine VD.end rfl rfl rfl ?_ | refine VD.mid rfl rfl rfl ?_); refine OpV.box rfl rfl rfl ?_; intro _; refine w ?_))
  (((first | refine VO.step rfl rfl ?_ | refine VD.end rfl rfl rfl ?_ | refine VD.mid rfl rfl rfl ?_); refine OpV.call rfl rfl (fun _ _ => by simp) (rleft_ok p k) (ReaderR.shut hk) rfl ?_); intro _ _)
  refine VO.obtain (fun w => ReaderR.open) ?_
  rintro ⟨⟨ao, cap⟩, -⟩
  (refine w ?_; repeat ((first | refine VO.step rfl rfl ?_ | refine VD.end rfl rfl rfl ?_ | refine VD.mid rfl rfl rfl ?_); refine OpV.box rfl rfl rfl ?_; intro _; refine w ?_))
  (refine VC.condFe rfl rfl (by simp; omega) ?_)
  (refine w ?_; repeat ((first | refine VO.step rfl rfl ?_ | refine VD.end rfl rfl rfl ?_ | refine VD.mid rfl rfl rfl ?_); refine OpV.box rfl rfl rfl ?_; intro _; refine w ?_))
  (refine VC.condFe rfl rfl (by simp [hb]) ?_)
  refine VC.know (fun w hw => hw.ownCap (by (focus repeat first | exact .head _ | apply List.Mem.tail))) ?_
  intro hcap
  (refine w ?_; repeat ((first | refine VO.step rfl rfl ?_ | refine VD.end rfl rfl rfl ?_ | refine VD.mid rfl rfl rfl ?_); refine OpV.box rfl rfl rfl ?_; intro _; refine w ?_))
  ((refine VC.quiet rfl (by kernel_rfl) (by kernel_rfl) ?_); (refine w ?_; repeat ((first | refine VO.step rfl rfl ?_ | refine VD.end rfl rfl rfl ?_ | refine VD.mid rfl rfl rfl ?_); refine OpV.box rfl rfl rfl ?_; intro _; refine w ?_)))
  refine VE.done (ao, cap) rfl hcap ?_ Ent.refl
  show Value.slice _ (k.at_ + n - k.at_) _ = _
  rw [Nat.add_sub_cancel_left]

/-- What lies behind a slice that 'next' hands back. -/
theorem got_rds {W : World} {k : Rk} {n : Nat} {ao : Option Addr} {cap : Nat} {H : List SProp} (hk : k.ok) (hgood : (k.short n).err = 0) (hcap : k.b.length ≤ cap) (hn : ao = none → k.b.length = 0)
    (m : Own 5 1 (.slice ao k.b.length cap) k.b.length (bytes k.b) ∈ H) : Rds W H 1 (subA ao cap k.at_ 1) n (bytes (k.got n)) := by
  obtain ⟨hs, hb, hle⟩ := Rk.short_zero hgood
  have h1 := hk.1
  have r := Rds.own (W := W) (bytes_one k.b) m (by simp) hn
  have := r.sub (cap := cap) (l := k.at_) (h := k.at_ + n) (by omega) (by omega) hcap
  rw [Nat.add_sub_cancel_left] at this
  have e : ((bytes k.b).drop (k.at_ * 1)).take (n * 1) = bytes (k.got n) := by
    unfold Rk.got; rw [if_pos hgood]; simp [bytes]
  rw [e] at this
  exact this

/-- A number, its lowest byte first. -/
def leVal : List UInt8 → Nat
  | [] => 0
  | c :: r => c.toNat + 256 * leVal r
theorem leVal_lt : ∀ l : List UInt8, leVal l < 256 ^ l.length
  | [] => by decide
  | c :: r => by
    have := leVal_lt r
    have hc := c.toNat_lt
    simp only [leVal, List.length_cons, Nat.pow_succ]
    omega
theorem leVal_snoc : ∀ (l : List UInt8) (c : UInt8), leVal (l ++ [c]) = leVal l + c.toNat * 256 ^ l.length
  | [], c => by simp [leVal]
  | d :: r, c => by
    have := leVal_snoc r c
    simp only [List.cons_append, leVal, this, List.length_cons, Nat.pow_succ]
    rw [Nat.mul_add, Nat.add_assoc, Nat.mul_left_comm, Nat.mul_comm (256 ^ r.length)]

theorem or_shift (x y s : Nat) (hx : x < 2 ^ s) (hs : s ≤ 64) (hy : y * 2 ^ s < 2 ^ 64) :
    IntKind.u64.wrap ((BitVec.ofInt IntKind.u64.bits (x : Int) ||| BitVec.ofInt IntKind.u64.bits (IntKind.u64.wrap ((y : Int) * 2 ^ min s IntKind.u64.bits))).toNat : Int) = ((x + y * 2 ^ s : Nat) : Int) := by
  have hm : min s IntKind.u64.bits = s := by simp [IntKind.bits]; omega
  have hx64 : x < 2 ^ 64 := Nat.lt_of_lt_of_le hx (Nat.pow_le_pow_right (by decide) hs)
  rw [hm]
  have e1 : ((y : Int) * 2 ^ s) = ((y * 2 ^ s : Nat) : Int) := by simp
  rw [e1, wrap64_of hy]
  have e2 : (BitVec.ofInt IntKind.u64.bits (x : Int)).toNat = x := by
    simp [IntKind.bits]; omega
  have e3 : (BitVec.ofInt IntKind.u64.bits ((y * 2 ^ s : Nat) : Int)).toNat = y * 2 ^ s := by
    simp only [BitVec.toNat_ofInt, IntKind.bits]
    omega
  rw [BitVec.toNat_or, e2, e3]
  have e4 : x ||| y * 2 ^ s = x + y * 2 ^ s := by
    rw [Nat.or_comm, Nat.mul_comm, ← Nat.two_pow_add_eq_or_of_lt hx]; omega
  have e5 : x + y * 2 ^ s < 2 ^ 64 := by
    rw [← e4]; exact Nat.or_lt_two_pow hx64 hy
  rw [e4, wrap64_of e5]
theorem or_le (x c i : Nat) (hx : x < 256 ^ i) (hc : c < 256) (hi : i < 8) :
    IntKind.u64.wrap ((BitVec.ofInt IntKind.u64.bits (x : Int) ||| BitVec.ofInt IntKind.u64.bits (IntKind.u64.wrap ((c : Int) * 2 ^ min (8 * i) IntKind.u64.bits))).toNat : Int) = ((x + c * 256 ^ i : Nat) : Int) := by
  have e256 : (256 : Nat) ^ i = 2 ^ (8 * i) := by rw [Nat.pow_mul]
  rw [e256] at hx ⊢
  refine or_shift x c (8 * i) hx (by omega) ?_
  calc c * 2 ^ (8 * i) < 256 * 2 ^ (8 * i) := Nat.mul_lt_mul_of_pos_right hc (Nat.two_pow_pos _)
    _ = 2 ^ (8 + 8 * i) := by rw [Nat.pow_add]
    _ ≤ 2 ^ 64 := Nat.pow_le_pow_right (by decide) (by omega)

def Rk.number (k : Rk) (width : Nat) : Rk := if (k.short width).err = 0 then { k with at_ := k.at_ + width } else k.short width

theorem rnumber_ok {W : World} {R : List SProp} (p : Nat) (k : Rk) (width : Nat) (hw8 : width ≤ 8) :
    Does1 W Try.prog 108 [.pointer (some ⟨p, 0, none⟩), .int .i64 width] (ReaderR p k :: R) (.int .u64 (leVal (k.got width))) (ReaderR p (k.number width) :: R) := by
  (refine Does.enter Try.func108 Try.ntmps108 rfl rfl ?_)
  refine VC.know (fun w => ReaderR.know) ?_
  intro hk
  have ⟨h1, h2⟩ := hk
  (refine w ?_; repeat ((first | refine VO.step rfl rfl ?_ | refine VD.end rfl rfl rfl ?_ | refine VD.mid rfl rfl rfl ?_); refine OpV.box rfl rfl rfl ?_; intro _; refine w ?_))
  by_cases hg : (k.short width).err = 0
  · obtain ⟨hs, hb, hle⟩ := Rk.short_zero hg
    ((first | refine VO.step rfl rfl ?_ | refine VD.end rfl rfl rfl ?_ | refine VD.mid rfl rfl rfl ?_); refine OpV.call rfl rfl (fun _ _ => by simp) (next_good p k width hg) Ent.re rfl ?_)
    rintro ⟨ao, cap⟩ hcap
    refine VO.know (fun w hw => hw.ownNone (by (focus repeat first | exact .head _ | apply List.Mem.tail))) ?_
    intro hnone
    have hr := got_rds (W := W) (n := width) (H := ReaderO p k ao cap R) hk hg hcap hnone (by (focus repeat first | exact .head _ | apply List.Mem.tail))
    have hgl := Rk.got_length hg
    (refine w ?_; repeat ((first | refine VO.step rfl rfl ?_ | refine VD.end rfl rfl rfl ?_ | refine VD.mid rfl rfl rfl ?_); refine OpV.box rfl rfl rfl ?_; intro _; refine w ?_))
    refine VC.loop (α := Nat) (fun j => j ≤ width) (fun j => ReaderO p k ao cap R)
      (fun j => [(0, .pointer (some ⟨p, 0, none⟩)), (1, .int .i64 width), (5, .int .u64 ((leVal ((k.got width).take j) : Nat) : Int)), (10, .slice (subA ao cap k.at_ 1) width (cap - k.at_)), (11, .int .i64 width), (12, .int .i64 j)])
      (fun j => width - j) rfl 0 (Nat.zero_le _) Ent.refl ⟨rfl, rfl, rfl, rfl, rfl, rfl, trivial⟩ ?_
    intro j hj
    (refine w ?_; repeat ((first | refine VO.step rfl rfl ?_ | refine VD.end rfl rfl rfl ?_ | refine VD.mid rfl rfl rfl ?_); refine OpV.box rfl rfl rfl ?_; intro _; refine w ?_))
    (refine VC.cond rfl rfl ?_ ?_ <;> intro hc)
    · have hlt : j < width := by simpa using hc
      obtain ⟨a0, ha0⟩ : ∃ a0, subA ao cap k.at_ 1 = some a0 := by
        cases e : subA ao cap k.at_ 1 with
        | none => have := hr.nil e; omega
        | some a0 => exact ⟨a0, rfl⟩
      rw [ha0] at hr ⊢
      have hb1 := hr
      (refine w ?_; repeat ((first | refine VO.step rfl rfl ?_ | refine VD.end rfl rfl rfl ?_ | refine VD.mid rfl rfl rfl ?_); refine OpV.box rfl rfl rfl ?_; intro _; refine w ?_))
      have hc8 := ((k.got width)[j]'(by omega)).toNat_lt
      ((first | refine VO.step rfl rfl ?_ | refine VD.end rfl rfl rfl ?_ | refine VD.mid rfl rfl rfl ?_); refine OpV.pure (PureAt.shl rfl rfl (by omega)) rfl ?_)
      (refine w ?_; repeat ((first | refine VO.step rfl rfl ?_ | refine VD.end rfl rfl rfl ?_ | refine VD.mid rfl rfl rfl ?_); refine OpV.box rfl rfl rfl ?_; intro _; refine w ?_))
      have ht : (k.got width).take (j + 1) = (k.got width).take j ++ [(k.got width)[j]'(by omega)] := by rw [List.take_succ_eq_append_getElem (by omega)]
      have htl : ((k.got width).take j).length = j := by rw [List.length_take]; omega
      have hor := or_le (leVal ((k.got width).take j)) ((k.got width)[j]'(by omega)).toNat j (by have := leVal_lt ((k.got width).take j); rw [htl] at this; exact this) hc8 (by omega)
      refine VE.round (j + 1) (by omega) (by omega) ⟨rfl, rfl, asV rfl ?_, rfl, rfl, rfl, trivial⟩ Ent.refl
      rw [ht, leVal_snoc, htl, ← hor, wrap64_of (v := ((k.got width)[j]'(by omega)).toNat) (by omega), show (8 * (j : Int)).toNat = 8 * j by omega]
    · have hge : j = width := by have : ¬ j < width := by simpa using hc
                                 omega
      subst hge
      (refine w ?_; repeat ((first | refine VO.step rfl rfl ?_ | refine VD.end rfl rfl rfl ?_ | refine VD.mid rfl rfl rfl ?_); refine OpV.box rfl rfl rfl ?_; intro _; refine w ?_))
      (refine VC.condTe rfl rfl (by simp [hb]) ?_)
      (refine w ?_; repeat ((first | refine VO.step rfl rfl ?_ | refine VD.end rfl rfl rfl ?_ | refine VD.mid rfl rfl rfl ?_); refine OpV.box rfl rfl rfl ?_; intro _; refine w ?_))
      (refine VE.done1 rfl ?_ ?_)
      · rw [List.take_of_length_le (by omega)]
      · rw [show k.number j = { k with at_ := k.at_ + j } by unfold Rk.number; rw [if_pos hg]]
        exact ReaderR.shut (k := { k with at_ := k.at_ + j }) ⟨by simp only; omega, h2⟩
  · (((first | refine VO.step rfl rfl ?_ | refine VD.end rfl rfl rfl ?_ | refine VD.mid rfl rfl rfl ?_); refine OpV.call rfl rfl (fun _ _ => by simp) (next_bad p k width hg) Ent.re rfl ?_); intro _ _)
    have hgn : k.got width = [] := by unfold Rk.got; rw [if_neg hg]
    (refine w ?_; repeat ((first | refine VO.step rfl rfl ?_ | refine VD.end rfl rfl rfl ?_ | refine VD.mid rfl rfl rfl ?_); refine OpV.box rfl rfl rfl ?_; intro _; refine w ?_))
    refine VC.loop (α := Unit) (fun _ => True) (fun _ => ReaderR p (k.short width) :: R)
      (fun _ => [(0, .pointer (some ⟨p, 0, none⟩)), (1, .int .i64 width), (5, .int .u64 0), (11, .int .i64 0), (12, .int .i64 0)])
      (fun _ => 0) rfl () trivial Ent.refl ⟨rfl, rfl, rfl, rfl, rfl, trivial⟩ ?_
    intro _ _
    (refine w ?_; repeat ((first | refine VO.step rfl rfl ?_ | refine VD.end rfl rfl rfl ?_ | refine VD.mid rfl rfl rfl ?_); refine OpV.box rfl rfl rfl ?_; intro _; refine w ?_))
    refine VO.obtain (fun w => ReaderR.open) ?_
    rintro ⟨⟨ao, cap⟩, hk'⟩
    (refine w ?_; repeat ((first | refine VO.step rfl rfl ?_ | refine VD.end rfl rfl rfl ?_ | refine VD.mid rfl rfl rfl ?_); refine OpV.box rfl rfl rfl ?_; intro _; refine w ?_))
    (refine VC.condFe rfl rfl (by simpa using hg) ?_)
    (refine w ?_; repeat ((first | refine VO.step rfl rfl ?_ | refine VD.end rfl rfl rfl ?_ | refine VD.mid rfl rfl rfl ?_); refine OpV.box rfl rfl rfl ?_; intro _; refine w ?_))
    rw [hgn]
    (refine VE.done1 rfl ?_ ?_)
    · rfl
    · rw [show k.number width = k.short width by unfold Rk.number; rw [if_neg hg]]
      exact ReaderR.shut hk'

theorem Rk.got_good {k : Rk} {n : Nat} (h1 : k.err = 0) (h2 : n ≤ k.b.length - k.at_) : k.got n = (k.b.drop k.at_).take n ∧ k.short n = k ∧ k.number n = { k with at_ := k.at_ + n } := by
  have e : k.short n = k := by unfold Rk.short; rw [if_neg]; omega
  refine ⟨?_, e, ?_⟩
  · unfold Rk.got; rw [e, if_pos h1]
  · unfold Rk.number; rw [e, if_pos h1]

theorem got_lt (k : Rk) (n : Nat) : leVal (k.got n) < 256 ^ n := by
  have h := leVal_lt (k.got n)
  refine Nat.lt_of_lt_of_le h (Nat.pow_le_pow_right (by decide) ?_)
  unfold Rk.got; split
  · simp; omega
  · simp

theorem r64_ok {W : World} {R : List SProp} (p : Nat) (k : Rk) :
    Does1 W Try.prog 106 [.pointer (some ⟨p, 0, none⟩)] (ReaderR p k :: R) (.int .u64 (leVal (k.got 8))) (ReaderR p (k.number 8) :: R) := by
  (refine Does.enter Try.func106 Try.ntmps106 rfl rfl ?_)
  (refine w ?_; repeat ((first | refine VO.step rfl rfl ?_ | refine VD.end rfl rfl rfl ?_ | refine VD.mid rfl rfl rfl ?_); refine OpV.box rfl rfl rfl ?_; intro _; refine w ?_))
  (((first | refine VO.step rfl rfl ?_ | refine VD.end rfl rfl rfl ?_ | refine VD.mid rfl rfl rfl ?_); refine OpV.call rfl rfl (fun _ _ => by simp) (rnumber_ok p k 8 (by decide)) Ent.re rfl ?_); intro _ _)
  (refine w ?_; repeat ((first | refine VO.step rfl rfl ?_ | refine VD.end rfl rfl rfl ?_ | refine VD.mid rfl rfl rfl ?_); refine OpV.box rfl rfl rfl ?_; intro _; refine w ?_))
  (first | exact VE.done1 rfl rfl Ent.refl | exact VE.done1N rfl rfl Ent.refl)
theorem r32_ok {W : World} {R : List SProp} (p : Nat) (k : Rk) :
    Does1 W Try.prog 96 [.pointer (some ⟨p, 0, none⟩)] (ReaderR p k :: R) (.int .u32 (leVal (k.got 4))) (ReaderR p (k.number 4) :: R) := by
  (refine Does.enter Try.func96 Try.ntmps96 rfl rfl ?_)
  (refine w ?_; repeat ((first | refine VO.step rfl rfl ?_ | refine VD.end rfl rfl rfl ?_ | refine VD.mid rfl rfl rfl ?_); refine OpV.box rfl rfl rfl ?_; intro _; refine w ?_))
  (((first | refine VO.step rfl rfl ?_ | refine VD.end rfl rfl rfl ?_ | refine VD.mid rfl rfl rfl ?_); refine OpV.call rfl rfl (fun _ _ => by simp) (rnumber_ok p k 4 (by decide)) Ent.re rfl ?_); intro _ _)
  (refine w ?_; repeat ((first | refine VO.step rfl rfl ?_ | refine VD.end rfl rfl rfl ?_ | refine VD.mid rfl rfl rfl ?_); refine OpV.box rfl rfl rfl ?_; intro _; refine w ?_))
  (refine VE.done1 rfl ?_ ?_)
  · rw [wrap32_of, Nat.mod_eq_of_lt (by have := got_lt k 4; omega)]
  · exact Ent.refl
theorem Pk.number_good {k : Pk} {v w : Nat} (h1 : k.bad = 0) (h2 : k.had.length + w ≤ k.size) : k.number v w = { k with had := k.had ++ lowBytes v w } := by
  have e : k.room w = k := by unfold Pk.room; rw [if_neg]; omega
  unfold Pk.number; rw [e, if_pos h1]

end Go.Proofs.Ytlojjlbngnaphaa

/-! Text Ca. -/
/- Checksums: the plain law of shifts by a polynomial: a run of at most 32 bits that has changed is told. No program is named. -/
set_option maxRecDepth 8000
set_option linter.unusedVariables false
set_option linter.unusedSimpArgs false
set_option linter.unusedSectionVars false
namespace Go.Sl

def crcPoly : BitVec 32 := 0x82f63b78#32
def stp (n : BitVec 32) : BitVec 32 := (n >>> 1) ^^^ (if n.getLsbD 0 then crcPoly else 0#32)
def stpN : Nat → BitVec 32 → BitVec 32
  | 0, n => n
  | k + 1, n => stpN k (stp n)
theorem stpN_add (a b : Nat) (n : BitVec 32) : stpN (a + b) n = stpN b (stpN a n) := by
  induction a generalizing n with
  | zero => rw [Nat.zero_add]; rfl
  | succ a ih => rw [Nat.succ_add]; exact ih (stp n)
theorem stp_xor (a b : BitVec 32) : stp (a ^^^ b) = stp a ^^^ stp b := by
  unfold stp
  rw [BitVec.getLsbD_xor]
  apply BitVec.eq_of_getLsbD_eq
  intro i hi
  simp only [BitVec.getLsbD_xor, BitVec.getLsbD_ushiftRight]
  cases a.getLsbD 0 <;> cases b.getLsbD 0 <;> simp <;> cases a.getLsbD (1 + i) <;> cases b.getLsbD (1 + i) <;> cases crcPoly.getLsbD i <;> rfl
theorem stp_even (n : BitVec 32) (h : n.getLsbD 0 = false) : stp n = n >>> 1 := by
  unfold stp; rw [h]; simp
theorem stpN_xor : ∀ (k : Nat) (a b : BitVec 32), stpN k (a ^^^ b) = stpN k a ^^^ stpN k b
  | 0, _, _ => rfl
  | k + 1, a, b => by rw [stpN, stp_xor, stpN_xor k]; rfl
/-- A number whose lowest bits are noughts is only shifted. -/
theorem stpN_shift : ∀ (k : Nat) (n : BitVec 32), (∀ i, i < k → n.getLsbD i = false) → stpN k n = n >>> k
  | 0, n, _ => by simp [stpN]
  | k + 1, n, h => by
    rw [stpN, stp_even n (h 0 (by omega)), stpN_shift k _ (fun i hi => by rw [BitVec.getLsbD_ushiftRight, Nat.add_comm]; exact h (i + 1) (by omega))]
    rw [← BitVec.shiftRight_add, Nat.add_comm]
/-- By halves of a byte, from a table. -/
theorem stp_nibble (n : BitVec 32) : stpN 4 n = (n >>> 4) ^^^ stpN 4 (n &&& 15#32) := by
  have e : n = (n &&& 0xfffffff0#32) ^^^ (n &&& 15#32) := by
    apply BitVec.eq_of_getLsbD_eq
    intro i hi
    rw [BitVec.getLsbD_xor, BitVec.getLsbD_and, BitVec.getLsbD_and]
    have : (0xfffffff0#32).getLsbD i = !(15#32).getLsbD i := by
      have hc : ∀ j : Fin 32, (0xfffffff0#32).getLsbD j.1 = !(15#32).getLsbD j.1 := by decide
      exact hc ⟨i, hi⟩
    rw [this]
    cases n.getLsbD i <;> cases (15#32).getLsbD i <;> rfl
  have hs : stpN 4 (n &&& 0xfffffff0#32) = n >>> 4 := by
    rw [stpN_shift 4 _ (fun i hi => by
      rw [BitVec.getLsbD_and]
      have hc : ∀ j : Fin 4, (0xfffffff0#32).getLsbD j.1 = false := by decide
      rw [hc ⟨i, hi⟩, Bool.and_false])]
    apply BitVec.eq_of_getLsbD_eq
    intro i hi
    rw [BitVec.getLsbD_ushiftRight, BitVec.getLsbD_ushiftRight, BitVec.getLsbD_and]
    by_cases h : 4 + i < 32
    · have hc : ∀ j : Fin 28, (0xfffffff0#32).getLsbD (4 + j.1) = true := by decide
      rw [hc ⟨i, by omega⟩, Bool.and_true]
    · rw [BitVec.getLsbD_of_ge n _ (by omega)]; rfl
  conv => lhs; rw [e]
  rw [stpN_xor, hs]

/-- A byte more. -/
def crcB (n : BitVec 32) (b : UInt8) : BitVec 32 := stpN 8 (n ^^^ BitVec.ofNat 32 b.toNat)
def crcF (n : BitVec 32) (l : List UInt8) : BitVec 32 := l.foldl crcB n
def crcM (n : BitVec 32) (l : List UInt8) : BitVec 32 := ~~~(crcF (~~~n) l)
def crcS (l : List UInt8) : BitVec 32 := crcM 0#32 l
theorem crcB_nibbles (n : BitVec 32) (b : UInt8) : crcB n b =
    (((((n ^^^ BitVec.ofNat 32 b.toNat) >>> 4) ^^^ stpN 4 ((n ^^^ BitVec.ofNat 32 b.toNat) &&& 15#32)) >>> 4) ^^^ stpN 4 ((((n ^^^ BitVec.ofNat 32 b.toNat) >>> 4) ^^^ stpN 4 ((n ^^^ BitVec.ofNat 32 b.toNat) &&& 15#32)) &&& 15#32)) := by
  unfold crcB
  rw [show (8 : Nat) = 4 + 4 from rfl, stpN_add, stp_nibble (stpN 4 _), stp_nibble (n ^^^ _)]

/-! ### Bit by bit -/
/-! ### Bytes as bits -/
end Go.Sl

/-! Text Ea. -/
/- The journal's sectors: what they are, what is read of them: the plain law. -/
set_option maxRecDepth 8000
set_option linter.unusedVariables false
set_option linter.unusedSimpArgs false
set_option linter.unusedSectionVars false
namespace Go.Proofs.Ytlojjlbngnaphaa
open Go.RowKit Go.Sl

def padTo (n : Nat) (l : List UInt8) : List UInt8 := l ++ List.replicate (n - l.length) 0
theorem padTo_length {n : Nat} {l : List UInt8} (h : l.length ≤ n) : (padTo n l).length = n := by simp [padTo]; omega
def magicL : List UInt8 := [83, 80, 74, 76]
def begunL (kind epoch seq : Nat) : List UInt8 := magicL ++ lowBytes kind 4 ++ lowBytes epoch 8 ++ lowBytes seq 8
theorem begunL_length (kind epoch seq : Nat) : (begunL kind epoch seq).length = 24 := by simp [begunL, lowBytes_length, magicL]
def sealS (b : List UInt8) : List UInt8 := b ++ lowBytes (crcS b).toNat 4
def sectB (kind epoch seq : Nat) (rest : List UInt8) : List UInt8 := padTo 124 (begunL kind epoch seq ++ rest)
theorem sectB_length {kind epoch seq : Nat} {rest : List UInt8} (h : rest.length ≤ 100) : (sectB kind epoch seq rest).length = 124 := padTo_length (by rw [List.length_append, begunL_length]; omega)
theorem sealS_length {b : List UInt8} (h : b.length = 124) : (sealS b).length = 128 := by simp [sealS, lowBytes_length, h]
def numAt (b : List UInt8) (a w : Nat) : Nat := leVal ((b.drop a).take w)
def kindB (b : List UInt8) : UInt8 := if b.length = 128 ∧ b.take 4 = magicL ∧ (b.getD 4 0).toNat ≤ 3 then b.getD 4 0 else 0
/-- The errors that all kinds have. -/
def looksM (b : List UInt8) (kind : UInt8) : Int := if b.length ≠ 128 then 4 else if kindB b ≠ kind then 80 else if numAt b 124 4 ≠ (crcS (b.take 124)).toNat then 81 else 0

theorem lowBytes_cons : ∀ (w v : Nat), lowBytes v (w + 1) = UInt8.ofNat v :: lowBytes (v / 256) w
  | 0, v => by simp [lowBytes]
  | w + 1, v => by
    rw [lowBytes, lowBytes_cons w v, lowBytes, List.cons_append, Nat.div_div_eq_div_mul, Nat.pow_succ, Nat.mul_comm]
theorem leVal_low : ∀ (w v : Nat), v < 256 ^ w → leVal (lowBytes v w) = v
  | 0, v, h => by simp at h; subst h; rfl
  | w + 1, v, h => by
    rw [lowBytes_cons, leVal, leVal_low w (v / 256) (by rw [Nat.pow_succ] at h; exact Nat.div_lt_of_lt_mul (by omega)), UInt8.toNat_ofNat']
    have := Nat.mod_add_div v 256
    omega
/-! ### Numbers side by side -/
def flds (fs : List (Nat × Nat)) : List UInt8 := fs.flatMap fun p => lowBytes p.1 p.2
def offs (fs : List (Nat × Nat)) (k : Nat) : Nat := ((fs.take k).map (·.2)).sum
theorem flds_append (a b : List (Nat × Nat)) : flds (a ++ b) = flds a ++ flds b := by simp [flds]
theorem flds_length : ∀ (fs : List (Nat × Nat)), (flds fs).length = (fs.map (·.2)).sum
  | [] => rfl
  | p :: r => by rw [flds, List.flatMap_cons, List.length_append, lowBytes_length, List.map_cons, List.sum_cons, ← flds_length r]; rfl
theorem numAt_skip (a l : List UInt8) (i w : Nat) : numAt (a ++ l) (a.length + i) w = numAt l i w := by
  unfold numAt; rw [List.drop_append, List.drop_of_length_le (by omega)]; simp
theorem numAt_here (v w : Nat) (c : List UInt8) (hv : v < 256 ^ w) : numAt (lowBytes v w ++ c) 0 w = v := by
  unfold numAt; rw [List.drop_zero, List.take_left' (lowBytes_length v w), leVal_low w v hv]
theorem numAt_flds : ∀ (fs : List (Nat × Nat)) (k : Nat) (p : Nat × Nat) (c : List UInt8), fs[k]? = some p → p.1 < 256 ^ p.2 → numAt (flds fs ++ c) (offs fs k) p.2 = p.1
  | [], k, p, c, h, _ => by simp at h
  | q :: r, 0, p, c, h, hv => by
    simp at h; subst h
    show numAt (lowBytes q.1 q.2 ++ flds r ++ c) 0 q.2 = q.1
    rw [List.append_assoc]; exact numAt_here _ _ _ hv
  | q :: r, k + 1, p, c, h, hv => by
    have ih := numAt_flds r k p c (by simpa using h) hv
    have e : offs (q :: r) (k + 1) = (lowBytes q.1 q.2).length + offs r k := by simp [offs, lowBytes_length]
    rw [e]
    show numAt (lowBytes q.1 q.2 ++ flds r ++ c) _ _ = _
    rw [List.append_assoc, numAt_skip]; exact ih
theorem low_zero : ∀ n, lowBytes 0 n = List.replicate n 0
  | 0 => rfl
  | n + 1 => by rw [lowBytes_cons, Nat.zero_div, low_zero n]; rfl

/-! ### The three kinds -/
structure HdrD where
  epoch : Nat
  seq : Nat
  index : Int
  count : Int
  member : Int
  row : Int
  escaped : Bool
  sum : Nat
abbrev HdrD.cells (h : HdrD) : List Value := [.int .u64 h.epoch, .int .u64 h.seq, .int .i64 h.index, .int .i64 h.count, .int .i64 h.member, .int .i64 h.row, .bool h.escaped, .int .u32 h.sum]
structure CmtD where
  epoch : Nat
  seq : Nat
  count : Int
  sum : Nat
abbrev CmtD.cells (h : CmtD) : List Value := [.int .u64 h.epoch, .int .u64 h.seq, .int .i64 h.count, .int .u32 h.sum]
structure ChkD where
  epoch : Nat
  seq : Nat
  tail : Int
abbrev ChkD.cells (h : ChkD) : List Value := [.int .u64 h.epoch, .int .u64 h.seq, .int .i64 h.tail]
def cntOk (epoch seq : Nat) : Prop := epoch ≤ 4611686018427387904 ∧ 1 ≤ seq ∧ seq ≤ 4611686018427387904
instance (a b : Nat) : Decidable (cntOk a b) := by unfold cntOk; exact inferInstance
def HdrD.good (h : HdrD) : Prop := cntOk h.epoch h.seq ∧ (1 ≤ h.count ∧ h.count ≤ 1023) ∧ (0 ≤ h.index ∧ h.index ≤ h.count - 1) ∧ (0 ≤ h.member ∧ h.member ≤ 15) ∧ 0 ≤ h.row ∧ h.row ≤ 4095
def CmtD.good (h : CmtD) : Prop := cntOk h.epoch h.seq ∧ 1 ≤ h.count ∧ h.count ≤ 1023
def ChkD.good (h : ChkD) : Prop := cntOk h.epoch h.seq ∧ 0 ≤ h.tail ∧ h.tail ≤ 2047
instance (h : HdrD) : Decidable h.good := by unfold HdrD.good; exact inferInstance
instance (h : CmtD) : Decidable h.good := by unfold CmtD.good; exact inferInstance
instance (h : ChkD) : Decidable h.good := by unfold ChkD.good; exact inferInstance
def bitN (b : Bool) : Nat := if b then 1 else 0
def HdrD.rest (h : HdrD) : List (Nat × Nat) := [(h.index.toNat, 4), (h.count.toNat, 4), (h.member.toNat, 4), (h.row.toNat, 4), (bitN h.escaped, 4), (h.sum, 4)]
def CmtD.rest (h : CmtD) : List (Nat × Nat) := [(h.count.toNat, 4), (h.sum, 4)]
def ChkD.rest (h : ChkD) : List (Nat × Nat) := [(h.tail.toNat, 4)]
/-- A sector of a kind, with these numbers. -/
def sectF (kind epoch seq : Nat) (rest : List (Nat × Nat)) : List UInt8 := sealS (sectB kind epoch seq (flds rest))
def HdrD.enc (h : HdrD) : Int × List UInt8 := if h.good then (0, sectF 1 h.epoch h.seq h.rest) else (80, [])
def CmtD.enc (h : CmtD) : Int × List UInt8 := if h.good then (0, sectF 2 h.epoch h.seq h.rest) else (80, [])
def ChkD.enc (h : ChkD) : Int × List UInt8 := if h.good then (0, sectF 3 h.epoch h.seq h.rest) else (80, [])
def HdrD.parse (b : List UInt8) : HdrD := ⟨numAt b 8 8, numAt b 16 8, numAt b 24 4, numAt b 28 4, numAt b 32 4, numAt b 36 4, decide (numAt b 40 4 = 1), numAt b 44 4⟩
def CmtD.parse (b : List UInt8) : CmtD := ⟨numAt b 8 8, numAt b 16 8, numAt b 24 4, numAt b 28 4⟩
def ChkD.parse (b : List UInt8) : ChkD := ⟨numAt b 8 8, numAt b 16 8, numAt b 24 4⟩
def zeroH : HdrD := ⟨0, 0, 0, 0, 0, 0, false, 0⟩
def zeroC : CmtD := ⟨0, 0, 0, 0⟩
def zeroK : ChkD := ⟨0, 0, 0⟩
def HdrD.dec (b : List UInt8) : Int × HdrD := if looksM b 1 ≠ 0 then (looksM b 1, zeroH) else if (HdrD.parse b).good ∧ (HdrD.parse b).enc.2 = b then (0, HdrD.parse b) else (80, zeroH)
def CmtD.dec (b : List UInt8) : Int × CmtD := if looksM b 2 ≠ 0 then (looksM b 2, zeroC) else if (CmtD.parse b).good ∧ (CmtD.parse b).enc.2 = b then (0, CmtD.parse b) else (80, zeroC)
def ChkD.dec (b : List UInt8) : Int × ChkD := if looksM b 3 ≠ 0 then (looksM b 3, zeroK) else if (ChkD.parse b).good ∧ (ChkD.parse b).enc.2 = b then (0, ChkD.parse b) else (80, zeroK)

theorem magic_low : magicL = lowBytes 1279938643 4 := by decide
theorem sectF_flds (kind epoch seq : Nat) (rest : List (Nat × Nat)) (h : (rest.map (·.2)).sum ≤ 100) :
    sectF kind epoch seq rest = flds ([(1279938643, 4), (kind, 4), (epoch, 8), (seq, 8)] ++ rest) ++ (lowBytes 0 (100 - (rest.map (·.2)).sum) ++ lowBytes (crcS (sectB kind epoch seq (flds rest))).toNat 4) := by
  have hlen : 124 - (begunL kind epoch seq ++ flds rest).length = 100 - (rest.map (·.2)).sum := by
    rw [List.length_append, begunL_length, flds_length]; omega
  unfold sectF sealS
  rw [← List.append_assoc]
  congr 1
  unfold sectB padTo
  rw [hlen, low_zero, flds_append]
  simp only [begunL, magic_low, flds, List.flatMap_cons, List.flatMap_nil, List.append_nil, List.append_assoc]
theorem sectF_length (kind epoch seq : Nat) (rest : List (Nat × Nat)) (h : (rest.map (·.2)).sum ≤ 100) : (sectF kind epoch seq rest).length = 128 :=
  sealS_length (sectB_length (by rw [flds_length]; exact h))
theorem crcS_lt (b : List UInt8) : (crcS b).toNat < 256 ^ 4 := (crcS b).isLt
theorem sectF_num (kind epoch seq : Nat) (rest : List (Nat × Nat)) (h : (rest.map (·.2)).sum ≤ 100) (k : Nat) (p : Nat × Nat) (hk : ([(1279938643, 4), (kind, 4), (epoch, 8), (seq, 8)] ++ rest)[k]? = some p) (hv : p.1 < 256 ^ p.2) :
    numAt (sectF kind epoch seq rest) (offs ([(1279938643, 4), (kind, 4), (epoch, 8), (seq, 8)] ++ rest) k) p.2 = p.1 := by
  rw [sectF_flds _ _ _ _ h]; exact numAt_flds _ k p _ hk hv
theorem sectF_looks (kind : UInt8) (hk : 1 ≤ kind.toNat ∧ kind.toNat ≤ 3) (epoch seq : Nat) (rest : List (Nat × Nat)) (h : (rest.map (·.2)).sum ≤ 100) : looksM (sectF kind.toNat epoch seq rest) kind = 0 := by
  have hl := sectF_length kind.toNat epoch seq rest h
  have hb : (sectB kind.toNat epoch seq (flds rest)).length = 124 := sectB_length (by rw [flds_length]; exact h)
  have hcons : ∃ r, sectF kind.toNat epoch seq rest = magicL ++ (kind :: r) := by
    unfold sectF sealS sectB padTo begunL
    rw [lowBytes_cons 3 kind.toNat]
    refine ⟨_, by rw [List.append_assoc, List.append_assoc, List.append_assoc, List.append_assoc, List.append_assoc, List.cons_append]; congr 2; simp⟩
  have hkb : kindB (sectF kind.toNat epoch seq rest) = kind := by
    obtain ⟨r, hr⟩ := hcons
    have h4 : (sectF kind.toNat epoch seq rest).getD 4 0 = kind := by rw [hr]; rfl
    unfold kindB
    rw [h4, if_pos ⟨hl, by rw [hr]; rfl, hk.2⟩]
  have htk : (sectF kind.toNat epoch seq rest).take 124 = sectB kind.toNat epoch seq (flds rest) := by unfold sectF sealS; rw [List.take_left' hb]
  have hn : numAt (sectF kind.toNat epoch seq rest) 124 4 = (crcS (sectB kind.toNat epoch seq (flds rest))).toNat := by
    unfold sectF sealS
    have := numAt_skip (sectB kind.toNat epoch seq (flds rest)) (lowBytes (crcS (sectB kind.toNat epoch seq (flds rest))).toNat 4) 0 4
    rw [hb] at this
    rw [this]
    have := numAt_here (crcS (sectB kind.toNat epoch seq (flds rest))).toNat 4 [] (crcS_lt _)
    rwa [List.append_nil] at this
  unfold looksM
  rw [if_neg (by simp [hl]), hkb, if_neg (by simp), htk, hn, if_neg (by simp)]

/-! ### What is written is read -/
theorem hdr_sum (h : HdrD) : (h.rest.map (·.2)).sum ≤ 100 := by simp [HdrD.rest]
theorem cmt_sum (h : CmtD) : (h.rest.map (·.2)).sum ≤ 100 := by simp [CmtD.rest]
theorem chk_sum (h : ChkD) : (h.rest.map (·.2)).sum ≤ 100 := by simp [ChkD.rest]
theorem hdr_parse (h : HdrD) (hg : h.good) (hs : h.sum < 4294967296) : HdrD.parse (sectF 1 h.epoch h.seq h.rest) = h := by
  obtain ⟨⟨g1, g2, g3⟩, ⟨g4, g5⟩, ⟨g6, g7⟩, ⟨g8, g9⟩, g10, g11⟩ := hg
  have n := fun k p => sectF_num 1 h.epoch h.seq h.rest (hdr_sum h) k p
  have e2 := n 2 _ rfl (show h.epoch < 256 ^ 8 by omega)
  have e3 := n 3 _ rfl (show h.seq < 256 ^ 8 by omega)
  have e4 := n 4 _ rfl (show h.index.toNat < 256 ^ 4 by omega)
  have e5 := n 5 _ rfl (show h.count.toNat < 256 ^ 4 by omega)
  have e6 := n 6 _ rfl (show h.member.toNat < 256 ^ 4 by omega)
  have e7 := n 7 _ rfl (show h.row.toNat < 256 ^ 4 by omega)
  have e8 := n 8 _ rfl (show bitN h.escaped < 256 ^ 4 by unfold bitN; split <;> omega)
  have e9 := n 9 _ rfl (show h.sum < 256 ^ 4 by omega)
  change numAt _ 8 8 = _ at e2
  change numAt _ 16 8 = _ at e3
  change numAt _ 24 4 = _ at e4
  change numAt _ 28 4 = _ at e5
  change numAt _ 32 4 = _ at e6
  change numAt _ 36 4 = _ at e7
  change numAt _ 40 4 = _ at e8
  change numAt _ 44 4 = _ at e9
  unfold HdrD.parse
  rw [e2, e3, e4, e5, e6, e7, e8, e9]
  obtain ⟨a, b, c, d, e, f, g, i⟩ := h
  simp only [HdrD.mk.injEq, true_and, and_true] at *
  refine ⟨by omega, by omega, by omega, by omega, ?_⟩
  cases g <;> simp [bitN]
theorem cmt_parse (h : CmtD) (hg : h.good) (hs : h.sum < 4294967296) : CmtD.parse (sectF 2 h.epoch h.seq h.rest) = h := by
  obtain ⟨⟨g1, g2, g3⟩, g4, g5⟩ := hg
  have n := fun k p => sectF_num 2 h.epoch h.seq h.rest (cmt_sum h) k p
  have e2 := n 2 _ rfl (show h.epoch < 256 ^ 8 by omega)
  have e3 := n 3 _ rfl (show h.seq < 256 ^ 8 by omega)
  have e4 := n 4 _ rfl (show h.count.toNat < 256 ^ 4 by omega)
  have e5 := n 5 _ rfl (show h.sum < 256 ^ 4 by omega)
  change numAt _ 8 8 = _ at e2
  change numAt _ 16 8 = _ at e3
  change numAt _ 24 4 = _ at e4
  change numAt _ 28 4 = _ at e5
  unfold CmtD.parse
  rw [e2, e3, e4, e5]
  obtain ⟨a, b, c, d⟩ := h
  simp only [CmtD.mk.injEq, true_and, and_true] at *
  omega
theorem hdr_back (h : HdrD) (hg : h.good) (hs : h.sum < 4294967296) : HdrD.dec h.enc.2 = (0, h) := by
  have e : h.enc.2 = sectF 1 h.epoch h.seq h.rest := by unfold HdrD.enc; rw [if_pos hg]
  unfold HdrD.dec
  rw [e, if_neg (by rw [show sectF 1 h.epoch h.seq h.rest = sectF (1 : UInt8).toNat h.epoch h.seq h.rest from rfl, sectF_looks 1 (by decide) _ _ _ (hdr_sum h)]; simp), hdr_parse h hg hs, if_pos ⟨hg, e⟩]
theorem cmt_back (h : CmtD) (hg : h.good) (hs : h.sum < 4294967296) : CmtD.dec h.enc.2 = (0, h) := by
  have e : h.enc.2 = sectF 2 h.epoch h.seq h.rest := by unfold CmtD.enc; rw [if_pos hg]
  unfold CmtD.dec
  rw [e, if_neg (by rw [show sectF 2 h.epoch h.seq h.rest = sectF (2 : UInt8).toNat h.epoch h.seq h.rest from rfl, sectF_looks 2 (by decide) _ _ _ (cmt_sum h)]; simp), cmt_parse h hg hs, if_pos ⟨hg, e⟩]
end Go.Proofs.Ytlojjlbngnaphaa

/-! Text Eb. -/
/- Checksums: the program's half, More, Sum; the document's through, More, Sum. -/
set_option maxRecDepth 8000
set_option linter.unusedVariables false
set_option linter.unusedSimpArgs false
set_option linter.unusedSectionVars false
namespace Go.Sl
open Go Go.RowKit
section
variable {W : World} {P : Program} {n : Nat} {H : List SProp} {f : Fr} {dst : Option Tmp} {ty_ : TypeId} {pos : String} {after : Array Edge} {guard : Option (Nat × Bool)}
/-- A number of 32 bits. -/
def u32V (c : BitVec 32) : Value := .int .u32 (c.toNat : Int)
theorem PureAt.indexArr {T : TabData} {x y : Operand} {t e : TypeId} {k : IntKind} {b o m j : Nat} (hT : T.ok P = true) (ht : P.underlying t = some (.array m e)) (hx : evalX f x = some (.pointer (some ⟨b, o, none⟩))) (hy : evalX f y = some (.int k (j : Int)))
    (hl : assoc T.leaf e = some ()) (hj : j < m) : PureAt W P n H f { dst, op := .indexAddr t x y, type := ty_, pos, after, guard } (.pointer (some ⟨b, o + j, none⟩)) := by
  unfold PureAt
  intro tm w hk _
  have h1 : (0 : Int) ≤ j ∧ (j : Int) < m := ⟨by omega, by omega⟩
  have h2 : (⟨b, o, none⟩ : Addr).add j = ⟨b, o + j, none⟩ := by unfold Addr.add; split <;> simp_all
  simp [execOp, hk.eval hx, hk.eval hy, Instr.indexAt, Instr.sureAddr, asIntOf, run_underlying ht, (T.leaf_ok hT hl).2, h1, h2]
  intro h; omega
theorem ofInt32 (c : BitVec 32) : BitVec.ofInt 32 (c.toNat : Int) = c := by
  rw [BitVec.ofInt_natCast, BitVec.ofNat_toNat, BitVec.setWidth_eq]
theorem wrapB32 (c : BitVec 32) : IntKind.u32.wrap (c.toNat : Int) = c.toNat := by
  have := c.isLt
  rw [IntKind.wrap_u32]; omega
theorem PureAt.not32 {x : Operand} {s : TypeId} {c : BitVec 32} (hx : evalX f x = some (u32V c)) : PureAt W P n H f { dst, op := .unOp .xor s x, type := ty_, pos, after, guard } (u32V (~~~c)) := by
  unfold PureAt
  intro tm w hk _
  have e : (4294967295#32 ^^^ c) = ~~~c := by
    apply BitVec.eq_of_getLsbD_eq
    intro i hi
    have hc : ∀ j : Fin 32, (4294967295#32).getLsbD j.1 = true := by decide
    rw [BitVec.getLsbD_xor, BitVec.getLsbD_not, hc ⟨i, hi⟩]
    simp [hi]
  have e2 : IntKind.u32.wrap ((BitVec.ofInt 32 4294967295 ^^^ BitVec.ofInt 32 (c.toNat : Int)).toNat : Int) = ((~~~c).toNat : Int) := by
    rw [ofInt32, show BitVec.ofInt 32 4294967295 = 4294967295#32 from rfl, e, wrapB32]
  unfold execOp
  simp only [hk.eval hx, u32V]
  have e3 : (Op.unary .xor (.int .u32 (c.toNat : Int))).run P w = .ok (.int .u32 ((~~~c).toNat : Int)) w := by
    rw [← e2]; rfl
  simp only [Sem.run_bind, e3, Result.andThen_ok, Sem.run_pure]
end
end Go.Sl
namespace Go.Proofs.Ytlojjlbngnaphaa
open Go.RowKit Go.Sl
attribute [local irreducible] Own

theorem xor32 (a b : BitVec 32) : IntKind.u32.wrap ((BitVec.ofInt IntKind.u32.bits (a.toNat : Int) ^^^ BitVec.ofInt IntKind.u32.bits (b.toNat : Int)).toNat : Int) = ((a ^^^ b).toNat : Int) := by
  show IntKind.u32.wrap ((BitVec.ofInt 32 _ ^^^ BitVec.ofInt 32 _).toNat : Int) = _
  rw [ofInt32, ofInt32, wrapB32]
theorem and32 (a b : BitVec 32) : IntKind.u32.wrap ((BitVec.ofInt IntKind.u32.bits (a.toNat : Int) &&& BitVec.ofInt IntKind.u32.bits (b.toNat : Int)).toNat : Int) = ((a &&& b).toNat : Int) := by
  show IntKind.u32.wrap ((BitVec.ofInt 32 _ &&& BitVec.ofInt 32 _).toNat : Int) = _
  rw [ofInt32, ofInt32, wrapB32]
theorem shr32 (a : BitVec 32) (k : Nat) : ((a.toNat / 2 ^ k : Nat) : Int) = ((a >>> k).toNat : Int) := by
  rw [BitVec.toNat_ushiftRight, Nat.shiftRight_eq_div_pow]

theorem rthrough_ok {W : World} {R : List SProp} (c : BitVec 32) (k : Nat) (hk : k ≤ 1000) :
    Does1 W Try.prog 86 [.int .u32 (c.toNat : Int), .int .i64 k] R (.int .u32 ((stpN k c).toNat : Int)) R := by
  (refine Does.enter Try.func86 Try.ntmps86 rfl rfl ?_)
  (refine w ?_; repeat ((first | refine VO.step rfl rfl ?_ | refine VD.end rfl rfl rfl ?_ | refine VD.mid rfl rfl rfl ?_); refine OpV.box rfl rfl rfl ?_; intro _; refine w ?_))
  refine VC.loop (α := Nat) (fun i => i ≤ k) (fun _ => R) (fun i => [(0, .int .u32 ((stpN i c).toNat : Int)), (1, .int .i64 k), (5, .int .i64 i)]) (fun i => k - i) rfl 0 (Nat.zero_le _) Ent.refl ⟨rfl, rfl, rfl, trivial⟩ ?_
  intro i hi
  (refine w ?_; repeat ((first | refine VO.step rfl rfl ?_ | refine VD.end rfl rfl rfl ?_ | refine VD.mid rfl rfl rfl ?_); refine OpV.box rfl rfl rfl ?_; intro _; refine w ?_))
  (refine VC.cond rfl rfl ?_ ?_ <;> intro hc)
  · have hlt : i < k := by have := of_decide_eq_true hc; omega
    have hst : stpN (i + 1) c = stp (stpN i c) := by rw [stpN_add]; rfl
    generalize stpN i c = m at *
    have hand : IntKind.u32.wrap ((BitVec.ofInt IntKind.u32.bits (m.toNat : Int) &&& BitVec.ofInt IntKind.u32.bits 1).toNat : Int) = ((m &&& 1#32).toNat : Int) := and32 m 1#32
    have hb : (((m &&& 1#32).toNat : Int) == 1) = m.getLsbD 0 := by
      have e : m &&& 1#32 = if m.getLsbD 0 then 1#32 else 0#32 := by
        apply BitVec.eq_of_getLsbD_eq
        intro j hj
        rw [BitVec.getLsbD_and]
        cases j with
        | zero => cases m.getLsbD 0 <;> simp
        | succ j => cases m.getLsbD 0 <;> simp
      rw [e]; cases m.getLsbD 0 <;> rfl
    (refine w ?_; repeat ((first | refine VO.step rfl rfl ?_ | refine VD.end rfl rfl rfl ?_ | refine VD.mid rfl rfl rfl ?_); refine OpV.box rfl rfl rfl ?_; intro _; refine w ?_))
    refine VC.re 13 (.bool (m.getLsbD 0)) rfl (by rw [hand, hb]) ?_
    have hs1 : (((m.toNat / 2 ^ (1 : Int).toNat : Nat)) : Int) = ((m >>> 1).toNat : Int) := shr32 m 1
    cases hbit : m.getLsbD 0
    · have hst2 : stp m = m >>> 1 := stp_even m hbit
      (refine w ?_; repeat ((first | refine VO.step rfl rfl ?_ | refine VD.end rfl rfl rfl ?_ | refine VD.mid rfl rfl rfl ?_); refine OpV.box rfl rfl rfl ?_; intro _; refine w ?_))
      refine VE.round (i + 1) (by omega) (by omega) ⟨asV rfl (by rw [hst, hst2, hs1]), rfl, asV rfl (by congr 1), trivial⟩ Ent.refl
    · have hst2 : stp m = (m >>> 1) ^^^ crcPoly := by unfold stp; rw [hbit]; rfl
      (refine w ?_; repeat ((first | refine VO.step rfl rfl ?_ | refine VD.end rfl rfl rfl ?_ | refine VD.mid rfl rfl rfl ?_); refine OpV.box rfl rfl rfl ?_; intro _; refine w ?_))
      refine VE.round (i + 1) (by omega) (by omega) ⟨asV rfl (by rw [hst, hst2, hs1]; exact congrArg (Value.int .u32) (xor32 (m >>> 1) crcPoly)), rfl, asV rfl (by congr 1), trivial⟩ Ent.refl
  · have hge : i = k := by have := of_decide_eq_false hc; omega
    subst hge
    (refine w ?_; repeat ((first | refine VO.step rfl rfl ?_ | refine VD.end rfl rfl rfl ?_ | refine VD.mid rfl rfl rfl ?_); refine OpV.box rfl rfl rfl ?_; intro _; refine w ?_))
    (refine VE.done1 rfl ?_ ?_)
    · rfl
    · exact Ent.refl

theorem byte32 (c : UInt8) : (c.toNat : Int) = ((BitVec.ofNat 32 c.toNat).toNat : Int) := by
  rw [BitVec.toNat_ofNat, Nat.mod_eq_of_lt (by have := c.toNat_lt; omega)]
theorem crcF_snoc (n : BitVec 32) (l : List UInt8) (c : UInt8) : crcF n (l ++ [c]) = crcB (crcF n l) c := by simp [crcF]
theorem rmore_ok {W : World} {R : List SProp} {ao : Option Addr} {cap : Nat} {l : List UInt8} (c : BitVec 32) (hr : Rds W R 1 ao l.length (bytes l)) (hl : l.length ≤ 1099511627776) :
    Does1 W Try.prog 62 [.int .u32 (c.toNat : Int), .slice ao l.length cap] R (.int .u32 ((crcM c l).toNat : Int)) R := by
  (refine Does.enter Try.func62 Try.ntmps62 rfl rfl ?_)
  (refine w ?_; repeat ((first | refine VO.step rfl rfl ?_ | refine VD.end rfl rfl rfl ?_ | refine VD.mid rfl rfl rfl ?_); refine OpV.box rfl rfl rfl ?_; intro _; refine w ?_))
  (first | refine VO.pure rfl rfl (PureAt.not32 (c := c) rfl) rfl ?_ | refine VD.take rfl rfl rfl (PureAt.not32 (c := c) rfl) rfl ?_ | refine VQ.pure rfl rfl (PureAt.not32 (c := c) rfl) rfl ?_ | refine VD.end rfl rfl rfl (OpV.pure (PureAt.not32 (c := c) rfl) rfl ?_))
  unfold u32V
  (refine w ?_; repeat ((first | refine VO.step rfl rfl ?_ | refine VD.end rfl rfl rfl ?_ | refine VD.mid rfl rfl rfl ?_); refine OpV.box rfl rfl rfl ?_; intro _; refine w ?_))
  refine VC.loop (α := Nat) (fun i => i ≤ l.length) (fun _ => R) (fun i => [(1, .slice ao l.length cap), (5, .int .u32 ((crcF (~~~c) (l.take i)).toNat : Int)), (6, .int .i64 i)]) (fun i => l.length - i) rfl 0 (Nat.zero_le _) Ent.refl ⟨rfl, rfl, rfl, trivial⟩ ?_
  intro i hi
  (refine w ?_; repeat ((first | refine VO.step rfl rfl ?_ | refine VD.end rfl rfl rfl ?_ | refine VD.mid rfl rfl rfl ?_); refine OpV.box rfl rfl rfl ?_; intro _; refine w ?_))
  (refine VC.cond rfl rfl ?_ ?_ <;> intro hc)
  · have hlt : i < l.length := by have := of_decide_eq_true hc; omega
    obtain ⟨a, rfl⟩ : ∃ a, ao = some a := by cases ao with | none => have := hr.nil rfl; omega | some a => exact ⟨a, rfl⟩
    have hst : crcF (~~~c) (l.take (i + 1)) = crcB (crcF (~~~c) (l.take i)) l[i] := by rw [List.take_succ_eq_append_getElem hlt, crcF_snoc]
    have hb1 := hr
    (refine w ?_; repeat ((first | refine VO.step rfl rfl ?_ | refine VD.end rfl rfl rfl ?_ | refine VD.mid rfl rfl rfl ?_); refine OpV.box rfl rfl rfl ?_; intro _; refine w ?_))
    refine VO.re 21 (.int .u32 (((crcF (~~~c) (l.take i)) ^^^ BitVec.ofNat 32 l[i].toNat).toNat : Int)) rfl (by rw [byte32, wrapB32]; exact congrArg (Value.int .u32) (xor32 _ _)) ?_
    ((first | refine VO.step rfl rfl ?_ | refine VD.end rfl rfl rfl ?_ | refine VD.mid rfl rfl rfl ?_); refine OpV.call rfl rfl (fun _ _ => by simp) (rthrough_ok _ 8 (by omega)) Ent.refl rfl ?_; intro _ _)
    (refine w ?_; repeat ((first | refine VO.step rfl rfl ?_ | refine VD.end rfl rfl rfl ?_ | refine VD.mid rfl rfl rfl ?_); refine OpV.box rfl rfl rfl ?_; intro _; refine w ?_))
    refine VE.round (i + 1) (by omega) (by omega) ⟨rfl, asV rfl (by rw [hst]; rfl), asV rfl (by congr 1), trivial⟩ Ent.refl
  · have hge : i = l.length := by have := of_decide_eq_false hc; omega
    subst hge
    rw [List.take_of_length_le (Nat.le_refl _)]
    (refine w ?_; repeat ((first | refine VO.step rfl rfl ?_ | refine VD.end rfl rfl rfl ?_ | refine VD.mid rfl rfl rfl ?_); refine OpV.box rfl rfl rfl ?_; intro _; refine w ?_))
    (first | refine VO.pure rfl rfl (PureAt.not32 (c := crcF (~~~c) l) rfl) rfl ?_ | refine VD.take rfl rfl rfl (PureAt.not32 (c := crcF (~~~c) l) rfl) rfl ?_ | refine VQ.pure rfl rfl (PureAt.not32 (c := crcF (~~~c) l) rfl) rfl ?_ | refine VD.end rfl rfl rfl (OpV.pure (PureAt.not32 (c := crcF (~~~c) l) rfl) rfl ?_))
    unfold u32V
    (refine w ?_; repeat ((first | refine VO.step rfl rfl ?_ | refine VD.end rfl rfl rfl ?_ | refine VD.mid rfl rfl rfl ?_); refine OpV.box rfl rfl rfl ?_; intro _; refine w ?_))
    (refine VE.done1 rfl ?_ ?_)
    · rfl
    · exact Ent.refl
theorem rsum_ok {W : World} {R : List SProp} {ao : Option Addr} {cap : Nat} {l : List UInt8} (hr : Rds W R 1 ao l.length (bytes l)) (hl : l.length ≤ 1099511627776) :
    Does1 W Try.prog 29 [.slice ao l.length cap] R (.int .u32 ((crcS l).toNat : Int)) R := by
  (refine Does.enter Try.func29 Try.ntmps29 rfl rfl ?_)
  (refine w ?_; repeat ((first | refine VO.step rfl rfl ?_ | refine VD.end rfl rfl rfl ?_ | refine VD.mid rfl rfl rfl ?_); refine OpV.box rfl rfl rfl ?_; intro _; refine w ?_))
  ((first | refine VO.step rfl rfl ?_ | refine VD.end rfl rfl rfl ?_ | refine VD.mid rfl rfl rfl ?_); refine OpV.call rfl rfl (fun _ _ => by simp) (rmore_ok 0#32 hr hl) Ent.refl rfl ?_)
  intro _ _
  (refine w ?_; repeat ((first | refine VO.step rfl rfl ?_ | refine VD.end rfl rfl rfl ?_ | refine VD.mid rfl rfl rfl ?_); refine OpV.box rfl rfl rfl ?_; intro _; refine w ?_))
  (refine VE.done1 rfl ?_ ?_)
  · rfl
  · exact Ent.refl

/-! ### The program's, by a table -/
def tabV (i : Nat) : List Value := (List.range 16).map fun j => if j < i then .int .u32 ((stpN 4 (BitVec.ofNat 32 j)).toNat : Int) else .int .u32 0
theorem tabV_length (i : Nat) : (tabV i).length = 16 := by simp [tabV]
theorem tabV_one (i : Nat) : ∀ u ∈ tabV i, u.oneCell' = true := by
  intro u hu
  obtain ⟨j, -, rfl⟩ := List.mem_map.1 hu
  split <;> rfl
theorem tabV_set (i : Nat) (h : i < 16) : (tabV i).set i (.int .u32 ((stpN 4 (BitVec.ofNat 32 i)).toNat : Int)) = tabV (i + 1) := by
  apply List.ext_getElem (by simp [tabV])
  intro j h1 h2
  have hj : j < 16 := by rw [tabV_length] at h2; exact h2
  rw [List.getElem_set]
  simp only [tabV, List.getElem_map, List.getElem_range]
  by_cases e : i = j
  · subst e; rw [if_pos rfl, if_pos (by omega)]
  · rw [if_neg e]
    by_cases q : j < i
    · rw [if_pos q, if_pos (by omega)]
    · rw [if_neg q, if_neg (by omega)]
theorem tabV_get (j : Nat) (h : j < 16) : (tabV 16)[j]? = some (.int .u32 ((stpN 4 (BitVec.ofNat 32 j)).toNat : Int)) := by simp [tabV, h]
theorem mul32 (m : BitVec 32) : IntKind.u32.wrap (2197175160 * ((m &&& 1#32).toNat : Int)) = ((if m.getLsbD 0 then crcPoly else 0#32).toNat : Int) := by
  have e : m &&& 1#32 = if m.getLsbD 0 then 1#32 else 0#32 := by
    apply BitVec.eq_of_getLsbD_eq
    intro j hj
    rw [BitVec.getLsbD_and]
    cases j with
    | zero => cases m.getLsbD 0 <;> simp
    | succ j => cases m.getLsbD 0 <;> simp
  rw [e]
  cases m.getLsbD 0
  · rw [IntKind.wrap_u32]; rfl
  · rw [IntKind.wrap_u32]; rfl
theorem half_ok {W : World} {R : List SProp} : Does1 W Try.prog 92 [] R (.agg (tabV 16).toArray) R := by
  (refine Does.enter Try.func92 Try.ntmps92 rfl rfl ?_)
  (refine w ?_; repeat ((first | refine VO.step rfl rfl ?_ | refine VD.end rfl rfl rfl ?_ | refine VD.mid rfl rfl rfl ?_); refine OpV.box rfl rfl rfl ?_; intro _; refine w ?_))
  (first | refine VO.step rfl rfl ?_ | refine VD.end rfl rfl rfl ?_ | refine VD.mid rfl rfl rfl ?_)
  refine OpV.alloc (z := .agg (tabV 0).toArray) (cs := tabV 0) (fun w => by simp; rfl) rfl rfl ?_
  intro nb
  (refine w ?_; repeat ((first | refine VO.step rfl rfl ?_ | refine VD.end rfl rfl rfl ?_ | refine VD.mid rfl rfl rfl ?_); refine OpV.box rfl rfl rfl ?_; intro _; refine w ?_))
  refine VC.loop (α := Nat) (fun i => i ≤ 16) (fun i => Row nb 167 (tabV i) :: R) (fun i => [(0, .pointer (some ⟨nb, 0, none⟩)), (3, .int .i64 i)]) (fun i => 16 - i) rfl 0 (Nat.zero_le _) Ent.refl ⟨rfl, rfl, trivial⟩ ?_
  intro i hi
  (refine w ?_; repeat ((first | refine VO.step rfl rfl ?_ | refine VD.end rfl rfl rfl ?_ | refine VD.mid rfl rfl rfl ?_); refine OpV.box rfl rfl rfl ?_; intro _; refine w ?_))
  (refine VC.cond rfl rfl ?_ ?_ <;> intro hc)
  · have hlt : i < 16 := by have := of_decide_eq_true hc; omega
    have h0 : IntKind.u32.wrap (i : Int) = ((BitVec.ofNat 32 i).toNat : Int) := by
      rw [IntKind.wrap_u32, BitVec.toNat_ofNat]; omega
    (refine w ?_; repeat ((first | refine VO.step rfl rfl ?_ | refine VD.end rfl rfl rfl ?_ | refine VD.mid rfl rfl rfl ?_); refine OpV.box rfl rfl rfl ?_; intro _; refine w ?_))
    refine VC.re 2 (.int .u32 ((BitVec.ofNat 32 i).toNat : Int)) rfl (by rw [h0]) ?_
    refine VC.loop (α := Nat) (fun k => k ≤ 4) (fun _ => Row nb 167 (tabV i) :: R) (fun k => [(0, .pointer (some ⟨nb, 0, none⟩)), (1, .int .i64 i), (2, .int .u32 ((stpN k (BitVec.ofNat 32 i)).toNat : Int)), (3, .int .i64 i), (8, .int .i64 k)]) (fun k => 4 - k) rfl 0 (Nat.zero_le _) Ent.refl ⟨rfl, rfl, rfl, rfl, rfl, trivial⟩ ?_
    intro k hk
    (refine w ?_; repeat ((first | refine VO.step rfl rfl ?_ | refine VD.end rfl rfl rfl ?_ | refine VD.mid rfl rfl rfl ?_); refine OpV.box rfl rfl rfl ?_; intro _; refine w ?_))
    (refine VC.cond rfl rfl ?_ ?_ <;> intro hc)
    · have hkt : k < 4 := by have := of_decide_eq_true hc; omega
      have hst : stpN (k + 1) (BitVec.ofNat 32 i) = stp (stpN k (BitVec.ofNat 32 i)) := by rw [stpN_add]; rfl
      generalize stpN k (BitVec.ofNat 32 i) = m at *
      have hs1 : (((m.toNat / 2 ^ (1 : Int).toNat : Nat)) : Int) = ((m >>> 1).toNat : Int) := shr32 m 1
      have hand : IntKind.u32.wrap ((BitVec.ofInt IntKind.u32.bits (m.toNat : Int) &&& BitVec.ofInt IntKind.u32.bits 1).toNat : Int) = ((m &&& 1#32).toNat : Int) := and32 m 1#32
      (refine w ?_; repeat ((first | refine VO.step rfl rfl ?_ | refine VD.end rfl rfl rfl ?_ | refine VD.mid rfl rfl rfl ?_); refine OpV.box rfl rfl rfl ?_; intro _; refine w ?_))
      refine VE.round (k + 1) (by omega) (by omega) ⟨rfl, rfl, asV rfl ?_, rfl, asV rfl (by congr 1), trivial⟩ Ent.refl
      rw [hst, hand, mul32, hs1]
      exact congrArg (Value.int .u32) (xor32 (m >>> 1) _)
    · have hge : k = 4 := by have := of_decide_eq_false hc; omega
      subst hge
      (refine w ?_; repeat ((first | refine VO.step rfl rfl ?_ | refine VD.end rfl rfl rfl ?_ | refine VD.mid rfl rfl rfl ?_); refine OpV.box rfl rfl rfl ?_; intro _; refine w ?_))
      (first | refine VO.pure rfl rfl (PureAt.indexArr tab_ok Try.underlying167 rfl rfl rfl hlt) rfl ?_ | refine VD.take rfl rfl rfl (PureAt.indexArr tab_ok Try.underlying167 rfl rfl rfl hlt) rfl ?_ | refine VQ.pure rfl rfl (PureAt.indexArr tab_ok Try.underlying167 rfl rfl rfl hlt) rfl ?_ | refine VD.end rfl rfl rfl (OpV.pure (PureAt.indexArr tab_ok Try.underlying167 rfl rfl rfl hlt) rfl ?_))
      (first | refine VO.step rfl rfl ?_ | refine VD.end rfl rfl rfl ?_ | refine VD.mid rfl rfl rfl ?_)
      refine OpV.st (cs := tabV i) tab_ok rfl rfl rfl rfl .head (by rw [tabV_length]; omega) ?_
      rw [show (tabV i).set (0 + i) (.int .u32 ((stpN 4 (BitVec.ofNat 32 i)).toNat : Int)) = tabV (i + 1) by rw [Nat.zero_add]; exact tabV_set i hlt]
      (refine w ?_; repeat ((first | refine VO.step rfl rfl ?_ | refine VD.end rfl rfl rfl ?_ | refine VD.mid rfl rfl rfl ?_); refine OpV.box rfl rfl rfl ?_; intro _; refine w ?_))
      exact VE.round (i + 1) (by omega) (by omega) ⟨rfl, asV rfl (by congr 1), trivial⟩ Ent.refl
  · have hge : i = 16 := by have := of_decide_eq_false hc; omega
    subst hge
    have ht : List.take 16 (List.drop 0 (tabV 16)) = tabV 16 := by rw [List.drop_zero, List.take_of_length_le (by rw [tabV_length]; exact Nat.le_refl _)]
    have hl := tabV_length 16
    have h1 := tabV_one 16
    generalize tabV 16 = T at *
    (refine w ?_; repeat ((first | refine VO.step rfl rfl ?_ | refine VD.end rfl rfl rfl ?_ | refine VD.mid rfl rfl rfl ?_); refine OpV.box rfl rfl rfl ?_; intro _; refine w ?_))
    (first | refine VO.pure rfl rfl (PureAt.ldA tab_ok rfl rfl (.head _) ht hl) rfl ?_ | refine VD.take rfl rfl rfl (PureAt.ldA tab_ok rfl rfl (.head _) ht hl) rfl ?_ | refine VQ.pure rfl rfl (PureAt.ldA tab_ok rfl rfl (.head _) ht hl) rfl ?_ | refine VD.end rfl rfl rfl (OpV.pure (PureAt.ldA tab_ok rfl rfl (.head _) ht hl) rfl ?_))
    (first | refine VO.step rfl rfl ?_ | refine VD.end rfl rfl rfl ?_ | refine VD.mid rfl rfl rfl ?_)
    refine OpV.stA (vs := T) tab_ok rfl rfl rfl hl h1 .head (by rw [hl]; decide) ?_
    rw [show T.take 0 ++ T ++ T.drop (0 + 16) = T by rw [List.drop_of_length_le (by omega)]; simp]
    (refine w ?_; repeat ((first | refine VO.step rfl rfl ?_ | refine VD.end rfl rfl rfl ?_ | refine VD.mid rfl rfl rfl ?_); refine OpV.box rfl rfl rfl ?_; intro _; refine w ?_))
    exact VE.results1 (.inl rfl) () rfl (ResIs.agg (vs := T) tab_ok rfl rfl (.head _) ht hl) trivial rfl (Ent.drop Ent.refl)
theorem and15 (m : BitVec 32) : ((m &&& 15#32).toNat : Nat) < 16 := by
  rw [BitVec.toNat_and]; exact Nat.lt_succ_of_le Nat.and_le_right
set_option maxHeartbeats 1000000 in
theorem more_ok {W : World} {R : List SProp} {ao : Option Addr} {cap : Nat} {l : List UInt8} (c : BitVec 32) (hr : Rds W R 1 ao l.length (bytes l)) (hl : l.length ≤ 1099511627776) :
    Does1 W Try.prog 69 [.int .u32 (c.toNat : Int), .slice ao l.length cap] R (.int .u32 ((crcM c l).toNat : Int)) R := by
  (refine Does.enter Try.func69 Try.ntmps69 rfl rfl ?_)
  (refine w ?_; repeat ((first | refine VO.step rfl rfl ?_ | refine VD.end rfl rfl rfl ?_ | refine VD.mid rfl rfl rfl ?_); refine OpV.box rfl rfl rfl ?_; intro _; refine w ?_))
  ((first | refine VO.step rfl rfl ?_ | refine VD.end rfl rfl rfl ?_ | refine VD.mid rfl rfl rfl ?_); refine OpV.call rfl rfl (fun _ _ => by simp) (half_ok) Ent.refl rfl ?_; intro _ _)
  (first | refine VO.step rfl rfl ?_ | refine VD.end rfl rfl rfl ?_ | refine VD.mid rfl rfl rfl ?_)
  refine OpV.alloc (z := .agg (tabV 0).toArray) (cs := tabV 0) (fun w => by simp; rfl) rfl rfl ?_
  intro nb
  have hl16 := tabV_length 16
  have h1 := tabV_one 16
  have hget := tabV_get
  have hl0 := tabV_length 0
  generalize tabV 16 = T at *
  generalize tabV 0 = T0 at *
  (first | refine VO.step rfl rfl ?_ | refine VD.end rfl rfl rfl ?_ | refine VD.mid rfl rfl rfl ?_)
  refine OpV.stA (vs := T) tab_ok rfl rfl rfl hl16 h1 .head (by rw [hl0]; decide) ?_
  rw [show T0.take 0 ++ T ++ T0.drop (0 + 16) = T by rw [List.drop_of_length_le (by omega)]; simp]
  (refine w ?_; repeat ((first | refine VO.step rfl rfl ?_ | refine VD.end rfl rfl rfl ?_ | refine VD.mid rfl rfl rfl ?_); refine OpV.box rfl rfl rfl ?_; intro _; refine w ?_))
  (first | refine VO.pure rfl rfl (PureAt.not32 (c := c) rfl) rfl ?_ | refine VD.take rfl rfl rfl (PureAt.not32 (c := c) rfl) rfl ?_ | refine VQ.pure rfl rfl (PureAt.not32 (c := c) rfl) rfl ?_ | refine VD.end rfl rfl rfl (OpV.pure (PureAt.not32 (c := c) rfl) rfl ?_))
  unfold u32V
  (refine w ?_; repeat ((first | refine VO.step rfl rfl ?_ | refine VD.end rfl rfl rfl ?_ | refine VD.mid rfl rfl rfl ?_); refine OpV.box rfl rfl rfl ?_; intro _; refine w ?_))
  refine VC.loop (α := Nat) (fun i => i ≤ l.length) (fun _ => Row nb 167 T :: R) (fun i => [(5, .pointer (some ⟨nb, 0, none⟩)), (6, .int .u32 ((crcF (~~~c) (l.take i)).toNat : Int)), (12, .slice ao l.length cap), (13, .int .i64 l.length), (14, .int .i64 i)]) (fun i => l.length - i) rfl 0 (Nat.zero_le _) Ent.refl ⟨rfl, rfl, rfl, rfl, rfl, trivial⟩ ?_
  intro i hi
  (refine w ?_; repeat ((first | refine VO.step rfl rfl ?_ | refine VD.end rfl rfl rfl ?_ | refine VD.mid rfl rfl rfl ?_); refine OpV.box rfl rfl rfl ?_; intro _; refine w ?_))
  (refine VC.cond rfl rfl ?_ ?_ <;> intro hc)
  · have hlt : i < l.length := by have := of_decide_eq_true hc; omega
    obtain ⟨a, rfl⟩ : ∃ a, ao = some a := by cases ao with | none => have := hr.nil rfl; omega | some a => exact ⟨a, rfl⟩
    have hst : crcF (~~~c) (l.take (i + 1)) = crcB (crcF (~~~c) (l.take i)) l[i] := by rw [List.take_succ_eq_append_getElem hlt, crcF_snoc]
    rw [crcB_nibbles] at hst
    have hb9 := hr.ent (Ent.drop (p := Row nb 167 T) Ent.refl : Ent W (Row nb 167 T :: R) R)
    generalize crcF (~~~c) (l.take i) = F at *
    (refine w ?_; repeat ((first | refine VO.step rfl rfl ?_ | refine VD.end rfl rfl rfl ?_ | refine VD.mid rfl rfl rfl ?_); refine OpV.box rfl rfl rfl ?_; intro _; refine w ?_))
    have hx : Value.int .u32 (IntKind.u32.wrap ((BitVec.ofInt IntKind.u32.bits (F.toNat : Int) ^^^ BitVec.ofInt IntKind.u32.bits (IntKind.u32.wrap (l[i].toNat : Int))).toNat : Int)) = .int .u32 ((F ^^^ BitVec.ofNat 32 l[i].toNat).toNat : Int) := by
      rw [byte32, wrapB32]; exact congrArg (Value.int .u32) (xor32 _ _)
    (first | refine VO.pure rfl rfl (ldB tab_ok rfl rfl hb9 hlt) rfl ?_ | refine VD.take rfl rfl rfl (ldB tab_ok rfl rfl hb9 hlt) rfl ?_ | refine VQ.pure rfl rfl (ldB tab_ok rfl rfl hb9 hlt) rfl ?_ | refine VD.end rfl rfl rfl (OpV.pure (ldB tab_ok rfl rfl hb9 hlt) rfl ?_))
    iterate 9 (first | (first | refine VO.nil rfl ?_ | refine VQ.nil rfl ?_ | refine VD.nil ?_ | ((first | apply VO.pure rfl rfl | apply VQ.pure rfl rfl | apply VD.take rfl rfl rfl | (refine VD.end rfl rfl rfl ?_; apply OpV.pure)); (first | (apply PureAt.ar64 rfl rfl rfl; omega) | exact .eval tab_ok rfl | (apply PureAt.ld tab_ok rfl rfl; (focus repeat first | exact .head _ | apply List.Mem.tail); rfl) | (apply PureAt.shr rfl rfl (by decide) (by decide)) | (apply PureAt.shr rfl rfl (by omega) (by simp only [IntKind.bits]; omega)) | exact .fieldAddrA tab_ok rfl rfl | exact .sliceLH tab_ok rfl rfl rfl rfl (by omega) (by omega) | exact .sliceH tab_ok rfl rfl rfl (by omega) | exact .sliceL tab_ok rfl rfl rfl (by omega) | (first | exact .indexAddr tab_ok rfl rfl rfl rfl (by omega) | exact .indexAddrN tab_ok rfl rfl rfl rfl (by omega) | exact .indexAddrI tab_ok rfl rfl rfl rfl (toNatLit _) (by decide) (by omega) | exact .indexAddrNI tab_ok rfl rfl rfl rfl (toNatLit _) (by decide) (by omega) | exact .ldR tab_ok rfl rfl hr1 (List.getElem?_eq_getElem (by omega)) | exact .ldR tab_ok rfl rfl hr2 (List.getElem?_eq_getElem (by omega)) | exact ldB tab_ok rfl rfl hb1 (by omega) | exact ldB tab_ok rfl rfl hb2 (by omega)) | exact .sliceHI tab_ok rfl rfl rfl (toNatLit _) (by decide) (by omega) | exact .sliceLI tab_ok rfl rfl rfl (toNatLit _) (by decide) (by omega) | (apply PureAt.ldA tab_ok rfl rfl; (focus repeat first | exact .head _ | apply List.Mem.tail); rfl; rfl) | exact .ldro tab_ok rfl rfl (by assumption)); rfl) | refine VO.skip rfl rfl rfl rfl ?_ | refine VQ.skip rfl rfl rfl rfl ?_ | refine VD.skip rfl rfl rfl rfl rfl ?_ | refine VD.skipM rfl rfl Ent.refl rfl rfl rfl ?_ | ((first | refine VO.step rfl rfl ?_ | refine VD.end rfl rfl rfl ?_ | refine VD.mid rfl rfl rfl ?_); (first | (apply OpV.st tab_ok rfl rfl rfl rfl (by (repeat first | exact .head | apply Hole.tail); first | done | fail) (by first | (simp; done) | fail)) | (refine OpV.box rfl rfl rfl ?_; intro _))) | refine ⟨Ent.re, ?_⟩) | (first | refine VC.seq rfl ?_ | refine VC.region rfl ?_ | refine VC.condT rfl rfl ?_ | refine VC.condF rfl rfl ?_ | refine VC.block rfl ?_ | refine VC.skip rfl ?_ | refine VC.ret rfl ?_ | refine VC.exit rfl ?_ | refine VC.scope rfl ?_ | refine VC.label rfl ?_) | (first | refine VE.next ?_ | refine VE.passRet ?_ | refine VE.passExit ?_ | refine VE.blockNormal ?_ | refine VE.blockHit ?_ | refine VE.blockMiss rfl ?_ | refine VE.blockRet ?_ | refine VE.loopRet ?_ | refine VE.loopExit ?_ | refine VE.scopeNormal ?_ | refine VE.scopeRet ?_ | refine VE.scopeExit ?_))
    refine VO.re 21 _ rfl hx ?_
    generalize F ^^^ BitVec.ofNat 32 l[i].toNat = G at *
    have hs4 : ∀ m : BitVec 32, (((m.toNat / 2 ^ (4 : Int).toNat : Nat)) : Int) = ((m >>> 4).toNat : Int) := fun m => shr32 m 4
    have ha15 : ∀ m : BitVec 32, IntKind.u32.wrap ((BitVec.ofInt IntKind.u32.bits (m.toNat : Int) &&& BitVec.ofInt IntKind.u32.bits 15).toNat : Int) = ((m &&& 15#32).toNat : Int) := fun m => and32 m 15#32
    have hrow : ∀ m : BitVec 32, T[0 + (m &&& 15#32).toNat]? = some (.int .u32 ((stpN 4 (m &&& 15#32)).toNat : Int)) := fun m => by
      rw [show 0 + (m &&& 15#32).toNat = (m &&& 15#32).toNat by omega, hget _ (and15 m), BitVec.ofNat_toNat, BitVec.setWidth_eq]
    (refine w ?_; repeat ((first | refine VO.step rfl rfl ?_ | refine VD.end rfl rfl rfl ?_ | refine VD.mid rfl rfl rfl ?_); refine OpV.box rfl rfl rfl ?_; intro _; refine w ?_))
    refine VO.re 25 (.int .u32 ((G &&& 15#32).toNat : Int)) rfl (by rw [ha15]) ?_
    (first | refine VO.pure rfl rfl (PureAt.indexArr tab_ok Try.underlying167 rfl rfl rfl (and15 G)) rfl ?_ | refine VD.take rfl rfl rfl (PureAt.indexArr tab_ok Try.underlying167 rfl rfl rfl (and15 G)) rfl ?_ | refine VQ.pure rfl rfl (PureAt.indexArr tab_ok Try.underlying167 rfl rfl rfl (and15 G)) rfl ?_ | refine VD.end rfl rfl rfl (OpV.pure (PureAt.indexArr tab_ok Try.underlying167 rfl rfl rfl (and15 G)) rfl ?_))
    (first | refine VO.pure rfl rfl (PureAt.ld tab_ok rfl rfl (.head _) (hrow G)) rfl ?_ | refine VD.take rfl rfl rfl (PureAt.ld tab_ok rfl rfl (.head _) (hrow G)) rfl ?_ | refine VQ.pure rfl rfl (PureAt.ld tab_ok rfl rfl (.head _) (hrow G)) rfl ?_ | refine VD.end rfl rfl rfl (OpV.pure (PureAt.ld tab_ok rfl rfl (.head _) (hrow G)) rfl ?_))
    (first | (first | refine VO.nil rfl ?_ | refine VQ.nil rfl ?_ | refine VD.nil ?_ | ((first | apply VO.pure rfl rfl | apply VQ.pure rfl rfl | apply VD.take rfl rfl rfl | (refine VD.end rfl rfl rfl ?_; apply OpV.pure)); (first | (apply PureAt.ar64 rfl rfl rfl; omega) | exact .eval tab_ok rfl | (apply PureAt.ld tab_ok rfl rfl; (focus repeat first | exact .head _ | apply List.Mem.tail); rfl) | (apply PureAt.shr rfl rfl (by decide) (by decide)) | (apply PureAt.shr rfl rfl (by omega) (by simp only [IntKind.bits]; omega)) | exact .fieldAddrA tab_ok rfl rfl | exact .sliceLH tab_ok rfl rfl rfl rfl (by omega) (by omega) | exact .sliceH tab_ok rfl rfl rfl (by omega) | exact .sliceL tab_ok rfl rfl rfl (by omega) | (first | exact .indexAddr tab_ok rfl rfl rfl rfl (by omega) | exact .indexAddrN tab_ok rfl rfl rfl rfl (by omega) | exact .indexAddrI tab_ok rfl rfl rfl rfl (toNatLit _) (by decide) (by omega) | exact .indexAddrNI tab_ok rfl rfl rfl rfl (toNatLit _) (by decide) (by omega) | exact .ldR tab_ok rfl rfl hr1 (List.getElem?_eq_getElem (by omega)) | exact .ldR tab_ok rfl rfl hr2 (List.getElem?_eq_getElem (by omega)) | exact ldB tab_ok rfl rfl hb1 (by omega) | exact ldB tab_ok rfl rfl hb2 (by omega)) | exact .sliceHI tab_ok rfl rfl rfl (toNatLit _) (by decide) (by omega) | exact .sliceLI tab_ok rfl rfl rfl (toNatLit _) (by decide) (by omega) | (apply PureAt.ldA tab_ok rfl rfl; (focus repeat first | exact .head _ | apply List.Mem.tail); rfl; rfl) | exact .ldro tab_ok rfl rfl (by assumption)); rfl) | refine VO.skip rfl rfl rfl rfl ?_ | refine VQ.skip rfl rfl rfl rfl ?_ | refine VD.skip rfl rfl rfl rfl rfl ?_ | refine VD.skipM rfl rfl Ent.refl rfl rfl rfl ?_ | ((first | refine VO.step rfl rfl ?_ | refine VD.end rfl rfl rfl ?_ | refine VD.mid rfl rfl rfl ?_); (first | (apply OpV.st tab_ok rfl rfl rfl rfl (by (repeat first | exact .head | apply Hole.tail); first | done | fail) (by first | (simp; done) | fail)) | (refine OpV.box rfl rfl rfl ?_; intro _))) | refine ⟨Ent.re, ?_⟩) | (first | refine VC.seq rfl ?_ | refine VC.region rfl ?_ | refine VC.condT rfl rfl ?_ | refine VC.condF rfl rfl ?_ | refine VC.block rfl ?_ | refine VC.skip rfl ?_ | refine VC.ret rfl ?_ | refine VC.exit rfl ?_ | refine VC.scope rfl ?_ | refine VC.label rfl ?_) | (first | refine VE.next ?_ | refine VE.passRet ?_ | refine VE.passExit ?_ | refine VE.blockNormal ?_ | refine VE.blockHit ?_ | refine VE.blockMiss rfl ?_ | refine VE.blockRet ?_ | refine VE.loopRet ?_ | refine VE.loopExit ?_ | refine VE.scopeNormal ?_ | refine VE.scopeRet ?_ | refine VE.scopeExit ?_))
    refine VO.re 28 (.int .u32 (((G >>> 4) ^^^ stpN 4 (G &&& 15#32)).toNat : Int)) rfl (by rw [hs4]; exact congrArg (Value.int .u32) (xor32 _ _)) ?_
    generalize (G >>> 4) ^^^ stpN 4 (G &&& 15#32) = M at *
    (refine w ?_; repeat ((first | refine VO.step rfl rfl ?_ | refine VD.end rfl rfl rfl ?_ | refine VD.mid rfl rfl rfl ?_); refine OpV.box rfl rfl rfl ?_; intro _; refine w ?_))
    refine VO.re 32 (.int .u32 ((M &&& 15#32).toNat : Int)) rfl (by rw [ha15]) ?_
    (first | refine VO.pure rfl rfl (PureAt.indexArr tab_ok Try.underlying167 rfl rfl rfl (and15 M)) rfl ?_ | refine VD.take rfl rfl rfl (PureAt.indexArr tab_ok Try.underlying167 rfl rfl rfl (and15 M)) rfl ?_ | refine VQ.pure rfl rfl (PureAt.indexArr tab_ok Try.underlying167 rfl rfl rfl (and15 M)) rfl ?_ | refine VD.end rfl rfl rfl (OpV.pure (PureAt.indexArr tab_ok Try.underlying167 rfl rfl rfl (and15 M)) rfl ?_))
    (first | refine VO.pure rfl rfl (PureAt.ld tab_ok rfl rfl (.head _) (hrow M)) rfl ?_ | refine VD.take rfl rfl rfl (PureAt.ld tab_ok rfl rfl (.head _) (hrow M)) rfl ?_ | refine VQ.pure rfl rfl (PureAt.ld tab_ok rfl rfl (.head _) (hrow M)) rfl ?_ | refine VD.end rfl rfl rfl (OpV.pure (PureAt.ld tab_ok rfl rfl (.head _) (hrow M)) rfl ?_))
    (first | (first | refine VO.nil rfl ?_ | refine VQ.nil rfl ?_ | refine VD.nil ?_ | ((first | apply VO.pure rfl rfl | apply VQ.pure rfl rfl | apply VD.take rfl rfl rfl | (refine VD.end rfl rfl rfl ?_; apply OpV.pure)); (first | (apply PureAt.ar64 rfl rfl rfl; omega) | exact .eval tab_ok rfl | (apply PureAt.ld tab_ok rfl rfl; (focus repeat first | exact .head _ | apply List.Mem.tail); rfl) | (apply PureAt.shr rfl rfl (by decide) (by decide)) | (apply PureAt.shr rfl rfl (by omega) (by simp only [IntKind.bits]; omega)) | exact .fieldAddrA tab_ok rfl rfl | exact .sliceLH tab_ok rfl rfl rfl rfl (by omega) (by omega) | exact .sliceH tab_ok rfl rfl rfl (by omega) | exact .sliceL tab_ok rfl rfl rfl (by omega) | (first | exact .indexAddr tab_ok rfl rfl rfl rfl (by omega) | exact .indexAddrN tab_ok rfl rfl rfl rfl (by omega) | exact .indexAddrI tab_ok rfl rfl rfl rfl (toNatLit _) (by decide) (by omega) | exact .indexAddrNI tab_ok rfl rfl rfl rfl (toNatLit _) (by decide) (by omega) | exact .ldR tab_ok rfl rfl hr1 (List.getElem?_eq_getElem (by omega)) | exact .ldR tab_ok rfl rfl hr2 (List.getElem?_eq_getElem (by omega)) | exact ldB tab_ok rfl rfl hb1 (by omega) | exact ldB tab_ok rfl rfl hb2 (by omega)) | exact .sliceHI tab_ok rfl rfl rfl (toNatLit _) (by decide) (by omega) | exact .sliceLI tab_ok rfl rfl rfl (toNatLit _) (by decide) (by omega) | (apply PureAt.ldA tab_ok rfl rfl; (focus repeat first | exact .head _ | apply List.Mem.tail); rfl; rfl) | exact .ldro tab_ok rfl rfl (by assumption)); rfl) | refine VO.skip rfl rfl rfl rfl ?_ | refine VQ.skip rfl rfl rfl rfl ?_ | refine VD.skip rfl rfl rfl rfl rfl ?_ | refine VD.skipM rfl rfl Ent.refl rfl rfl rfl ?_ | ((first | refine VO.step rfl rfl ?_ | refine VD.end rfl rfl rfl ?_ | refine VD.mid rfl rfl rfl ?_); (first | (apply OpV.st tab_ok rfl rfl rfl rfl (by (repeat first | exact .head | apply Hole.tail); first | done | fail) (by first | (simp; done) | fail)) | (refine OpV.box rfl rfl rfl ?_; intro _))) | refine ⟨Ent.re, ?_⟩) | (first | refine VC.seq rfl ?_ | refine VC.region rfl ?_ | refine VC.condT rfl rfl ?_ | refine VC.condF rfl rfl ?_ | refine VC.block rfl ?_ | refine VC.skip rfl ?_ | refine VC.ret rfl ?_ | refine VC.exit rfl ?_ | refine VC.scope rfl ?_ | refine VC.label rfl ?_) | (first | refine VE.next ?_ | refine VE.passRet ?_ | refine VE.passExit ?_ | refine VE.blockNormal ?_ | refine VE.blockHit ?_ | refine VE.blockMiss rfl ?_ | refine VE.blockRet ?_ | refine VE.loopRet ?_ | refine VE.loopExit ?_ | refine VE.scopeNormal ?_ | refine VE.scopeRet ?_ | refine VE.scopeExit ?_))
    refine VO.re 35 (.int .u32 (((M >>> 4) ^^^ stpN 4 (M &&& 15#32)).toNat : Int)) rfl (by rw [hs4]; exact congrArg (Value.int .u32) (xor32 _ _)) ?_
    (refine w ?_; repeat ((first | refine VO.step rfl rfl ?_ | refine VD.end rfl rfl rfl ?_ | refine VD.mid rfl rfl rfl ?_); refine OpV.box rfl rfl rfl ?_; intro _; refine w ?_))
    refine VE.round (i + 1) (by omega) (by omega) ⟨rfl, asV rfl (by rw [hst]), rfl, rfl, asV rfl (by congr 1), trivial⟩ Ent.refl
  · have hge : i = l.length := by have := of_decide_eq_false hc; omega
    subst hge
    rw [List.take_of_length_le (Nat.le_refl _)]
    (refine w ?_; repeat ((first | refine VO.step rfl rfl ?_ | refine VD.end rfl rfl rfl ?_ | refine VD.mid rfl rfl rfl ?_); refine OpV.box rfl rfl rfl ?_; intro _; refine w ?_))
    (first | refine VO.pure rfl rfl (PureAt.not32 (c := crcF (~~~c) l) rfl) rfl ?_ | refine VD.take rfl rfl rfl (PureAt.not32 (c := crcF (~~~c) l) rfl) rfl ?_ | refine VQ.pure rfl rfl (PureAt.not32 (c := crcF (~~~c) l) rfl) rfl ?_ | refine VD.end rfl rfl rfl (OpV.pure (PureAt.not32 (c := crcF (~~~c) l) rfl) rfl ?_))
    unfold u32V
    (refine w ?_; repeat ((first | refine VO.step rfl rfl ?_ | refine VD.end rfl rfl rfl ?_ | refine VD.mid rfl rfl rfl ?_); refine OpV.box rfl rfl rfl ?_; intro _; refine w ?_))
    (refine VE.done1 rfl ?_ ?_)
    · rfl
    · exact Ent.drop Ent.refl
theorem sum_ok {W : World} {R : List SProp} {ao : Option Addr} {cap : Nat} {l : List UInt8} (hr : Rds W R 1 ao l.length (bytes l)) (hl : l.length ≤ 1099511627776) :
    Does1 W Try.prog 35 [.slice ao l.length cap] R (.int .u32 ((crcS l).toNat : Int)) R := by
  (refine Does.enter Try.func35 Try.ntmps35 rfl rfl ?_)
  (refine w ?_; repeat ((first | refine VO.step rfl rfl ?_ | refine VD.end rfl rfl rfl ?_ | refine VD.mid rfl rfl rfl ?_); refine OpV.box rfl rfl rfl ?_; intro _; refine w ?_))
  ((first | refine VO.step rfl rfl ?_ | refine VD.end rfl rfl rfl ?_ | refine VD.mid rfl rfl rfl ?_); refine OpV.call rfl rfl (fun _ _ => by simp) (more_ok 0#32 hr hl) Ent.refl rfl ?_)
  intro _ _
  (refine w ?_; repeat ((first | refine VO.step rfl rfl ?_ | refine VD.end rfl rfl rfl ?_ | refine VD.mid rfl rfl rfl ?_); refine OpV.box rfl rfl rfl ?_; intro _; refine w ?_))
  (refine VE.done1 rfl ?_ ?_)
  · rfl
  · exact Ent.refl
end Go.Proofs.Ytlojjlbngnaphaa

/-! Text Ec. -/
/- The document's record: put, numbers, begun, ended; the program's counts, in. -/
set_option maxRecDepth 8000
set_option linter.unusedVariables false
set_option linter.unusedSimpArgs false
set_option linter.unusedSectionVars false
namespace Go.Proofs.Ytlojjlbngnaphaa
open Go.RowKit Go.Sl
attribute [local irreducible] Own

theorem cnt_iff (a b : Nat) : cntOk a b ↔ a ≤ 4611686018427387904 ∧ 1 ≤ b ∧ b ≤ 4611686018427387904 := Iff.rfl
theorem counts_ok {W : World} {R : List SProp} (a b : Nat) :
    Does1 W Try.prog 64 [.int .u64 a, .int .u64 b] R (.bool (decide (cntOk a b))) R := by
  (refine Does.enter Try.func64 Try.ntmps64 rfl rfl ?_)
  (refine w ?_; repeat ((first | refine VO.step rfl rfl ?_ | refine VD.end rfl rfl rfl ?_ | refine VD.mid rfl rfl rfl ?_); refine OpV.box rfl rfl rfl ?_; intro _; refine w ?_))
  iterate 2
    ((first | refine VO.split rfl rfl rfl ?_ ?_ | refine VD.split rfl rfl rfl ?_ ?_) <;> intro hb)
    rotate_left
    · replace hb := of_decide_eq_false hb
      (refine w ?_; repeat ((first | refine VO.step rfl rfl ?_ | refine VD.end rfl rfl rfl ?_ | refine VD.mid rfl rfl rfl ?_); refine OpV.box rfl rfl rfl ?_; intro _; refine w ?_))
      (refine VE.done1 rfl ?_ ?_)
      · rw [decide_eq_false (fun h => by have := (cnt_iff a b).1 h; omega)]
      · exact Ent.refl
    replace hb := of_decide_eq_true hb
    (refine w ?_; repeat ((first | refine VO.step rfl rfl ?_ | refine VD.end rfl rfl rfl ?_ | refine VD.mid rfl rfl rfl ?_); refine OpV.box rfl rfl rfl ?_; intro _; refine w ?_))
  (refine VE.done1 rfl ?_ ?_)
  · congr 1; rw [decide_eq_decide, cnt_iff]; omega
  · exact Ent.refl
theorem numbers_ok {W : World} {R : List SProp} (a b : Nat) :
    Does1 W Try.prog 71 [.int .u64 a, .int .u64 b] R (.bool (decide (cntOk a b))) R := by
  (refine Does.enter Try.func71 Try.ntmps71 rfl rfl ?_)
  (refine w ?_; repeat ((first | refine VO.step rfl rfl ?_ | refine VD.end rfl rfl rfl ?_ | refine VD.mid rfl rfl rfl ?_); refine OpV.box rfl rfl rfl ?_; intro _; refine w ?_))
  iterate 2
    ((first | refine VO.split rfl rfl rfl ?_ ?_ | refine VD.split rfl rfl rfl ?_ ?_) <;> intro hb)
    rotate_left
    · replace hb := of_decide_eq_false hb
      (refine w ?_; repeat ((first | refine VO.step rfl rfl ?_ | refine VD.end rfl rfl rfl ?_ | refine VD.mid rfl rfl rfl ?_); refine OpV.box rfl rfl rfl ?_; intro _; refine w ?_))
      (refine VE.done1 rfl ?_ ?_)
      · rw [decide_eq_false (fun h => by have := (cnt_iff a b).1 h; omega)]
      · exact Ent.refl
    replace hb := of_decide_eq_true hb
    (refine w ?_; repeat ((first | refine VO.step rfl rfl ?_ | refine VD.end rfl rfl rfl ?_ | refine VD.mid rfl rfl rfl ?_); refine OpV.box rfl rfl rfl ?_; intro _; refine w ?_))
  (refine VE.done1 rfl ?_ ?_)
  · congr 1; rw [decide_eq_decide, cnt_iff]; omega
  · exact Ent.refl
theorem in_ok {W : World} {R : List SProp} (n a b : Int) :
    Does1 W Try.prog 65 [.int .i64 n, .int .i64 a, .int .i64 b] R (.bool (decide (a ≤ n ∧ n ≤ b))) R := by
  (refine Does.enter Try.func65 Try.ntmps65 rfl rfl ?_)
  (refine w ?_; repeat ((first | refine VO.step rfl rfl ?_ | refine VD.end rfl rfl rfl ?_ | refine VD.mid rfl rfl rfl ?_); refine OpV.box rfl rfl rfl ?_; intro _; refine w ?_))
  ((first | refine VO.split rfl rfl rfl ?_ ?_ | refine VD.split rfl rfl rfl ?_ ?_) <;> intro hb)
  · have h : a ≤ n := of_decide_eq_true hb
    (refine w ?_; repeat ((first | refine VO.step rfl rfl ?_ | refine VD.end rfl rfl rfl ?_ | refine VD.mid rfl rfl rfl ?_); refine OpV.box rfl rfl rfl ?_; intro _; refine w ?_))
    (refine VE.done1 rfl ?_ ?_)
    · simp [h]
    · exact Ent.refl
  · have h : ¬ a ≤ n := of_decide_eq_false hb
    (refine w ?_; repeat ((first | refine VO.step rfl rfl ?_ | refine VD.end rfl rfl rfl ?_ | refine VD.mid rfl rfl rfl ?_); refine OpV.box rfl rfl rfl ?_; intro _; refine w ?_))
    (refine VE.done1 rfl ?_ ?_)
    · simp [h]
    · exact Ent.refl
theorem and_lowB (y j : Nat) (h : y < 2 ^ 64) (hj : j ≤ 64) : IntKind.u64.wrap ((BitVec.ofInt IntKind.u64.bits (y : Int) &&& BitVec.ofInt IntKind.u64.bits ((2 ^ j - 1 : Nat) : Int)).toNat : Int) = ((y % 2 ^ j : Nat) : Int) := by
  have e : (BitVec.ofInt 64 (y : Int) &&& BitVec.ofInt 64 ((2 ^ j - 1 : Nat) : Int)).toNat = y % 2 ^ j := by
    rw [BitVec.toNat_and, BitVec.ofInt_natCast, BitVec.ofInt_natCast, BitVec.toNat_ofNat, BitVec.toNat_ofNat, Nat.mod_eq_of_lt h, Nat.mod_eq_of_lt, Nat.and_two_pow_sub_one_eq_mod]
    have := Nat.pow_le_pow_right (show 0 < 2 by decide) hj
    have := Nat.two_pow_pos j
    omega
  show IntKind.u64.wrap ((BitVec.ofInt 64 (y : Int) &&& BitVec.ofInt 64 ((2 ^ j - 1 : Nat) : Int)).toNat : Int) = _
  rw [e]
  have h2 : y % 2 ^ j < 2 ^ 64 := Nat.lt_of_le_of_lt (Nat.mod_le _ _) h
  exact wrap64_of h2
/-- A list of bytes of one's own grows by a number. -/
theorem put_ok {W : World} {R : List SProp} {ao : Option Addr} {cap : Nat} (l : List UInt8) (v wd : Nat) (hl : l.length ≤ 100000) (hw : wd ≤ 8) (hv : v < 2 ^ 64) :
    Does W Try.prog 73 [.slice ao l.length cap, .int .u64 v, .int .i64 wd] (Own 5 1 (.slice ao l.length cap) l.length (bytes l) :: R) (β := Option Addr × Nat) (fun _ => True)
      (fun x => .slice x.1 (l ++ lowBytes v wd).length x.2) (fun x => Own 5 1 (.slice x.1 (l ++ lowBytes v wd).length x.2) (l ++ lowBytes v wd).length (bytes (l ++ lowBytes v wd)) :: R) := by
  (refine Does.enter Try.func73 Try.ntmps73 rfl rfl ?_)
  (refine w ?_; repeat ((first | refine VO.step rfl rfl ?_ | refine VD.end rfl rfl rfl ?_ | refine VD.mid rfl rfl rfl ?_); refine OpV.box rfl rfl rfl ?_; intro _; refine w ?_))
  refine VC.loop (α := Nat × Option Addr × Nat) (fun y => y.1 ≤ wd) (fun y => Own 5 1 (.slice y.2.1 (l ++ lowBytes v y.1).length y.2.2) (l ++ lowBytes v y.1).length (bytes (l ++ lowBytes v y.1)) :: R)
    (fun y => [(0, .slice y.2.1 (l ++ lowBytes v y.1).length y.2.2), (1, .int .u64 ((v / 256 ^ y.1 : Nat) : Int)), (2, .int .i64 wd), (7, .int .i64 y.1)]) (fun y => wd - y.1) rfl (0, ao, cap) (Nat.zero_le _) (by simp only [lowBytes, List.append_nil]; exact Ent.refl) ⟨asV rfl (by simp [lowBytes]), asV rfl (by simp), rfl, rfl, trivial⟩ ?_
  rintro ⟨i, so, sc⟩ hi
  dsimp only at hi ⊢
  have hlen : (l ++ lowBytes v i).length = l.length + i := by rw [List.length_append, lowBytes_length]
  (refine w ?_; repeat ((first | refine VO.step rfl rfl ?_ | refine VD.end rfl rfl rfl ?_ | refine VD.mid rfl rfl rfl ?_); refine OpV.box rfl rfl rfl ?_; intro _; refine w ?_))
  (refine VC.cond rfl rfl ?_ ?_ <;> intro hc)
  · have hlt : i < wd := by have := of_decide_eq_true hc; omega
    (refine w ?_; repeat ((first | refine VO.step rfl rfl ?_ | refine VD.end rfl rfl rfl ?_ | refine VD.mid rfl rfl rfl ?_); refine OpV.box rfl rfl rfl ?_; intro _; refine w ?_))
    refine VO.re 16 (.int .u8 ((UInt8.ofNat (v / 256 ^ i)).toNat : Int)) rfl ?_ ?_
    · rw [show (255 : Int) = ((2 ^ 8 - 1 : Nat) : Int) from rfl, and_lowB _ 8 (by exact Nat.lt_of_le_of_lt (Nat.div_le_self _ _) hv) (by omega), u8_of]
      congr 2
      simp
    ((first | refine VO.step rfl rfl ?_ | refine VD.end rfl rfl rfl ?_ | refine VD.mid rfl rfl rfl ?_); refine OpV.buildSlice1 st_55 rfl rfl (by first | (simp; done) | simp [Value.oneCell']) (by decide) rfl ?_; intro nb)
    ((first | refine VO.step rfl rfl ?_ | refine VD.end rfl rfl rfl ?_ | refine VD.mid rfl rfl rfl ?_); refine OpV.appendRow st_55 rfl rfl (by (repeat first | exact .head | apply Hole.tail)) (by (focus repeat first | exact .head _ | apply List.Mem.tail)) rfl (by first | (simp; done) | simp [Value.oneCell']) ?_ ?_ rfl ?_)
    · simp only [maxLen]; omega
    · omega
    intro so' sc'
    (refine w ?_; repeat ((first | refine VO.step rfl rfl ?_ | refine VD.end rfl rfl rfl ?_ | refine VD.mid rfl rfl rfl ?_); refine OpV.box rfl rfl rfl ?_; intro _; refine w ?_))
    refine VE.round (i + 1, so', sc') (by simp only; omega) (by simp only; omega) ⟨asV rfl ?_, asV rfl ?_, rfl, asV rfl (by congr 1), trivial⟩ ?_
    · simp only; congr 1; rw [List.length_append, List.length_append, lowBytes_length, lowBytes_length]; omega
    · simp only; rw [show (2 : Nat) ^ (8 : Int).toNat = 256 from rfl, Nat.div_div_eq_div_mul, Nat.pow_succ]
    · dsimp only
      rw [lowBytes, ← List.append_assoc]
      rw [show (l ++ lowBytes v i ++ [UInt8.ofNat (v / 256 ^ i)]).length = (l ++ lowBytes v i).length + 1 from by rw [List.length_append]; rfl, bytes_append (l ++ lowBytes v i)]
      exact Ent.re
  · have hge : i = wd := by have := of_decide_eq_false hc; omega
    subst hge
    (refine w ?_; repeat ((first | refine VO.step rfl rfl ?_ | refine VD.end rfl rfl rfl ?_ | refine VD.mid rfl rfl rfl ?_); refine OpV.box rfl rfl rfl ?_; intro _; refine w ?_))
    exact VE.done (so, sc) rfl trivial rfl Ent.refl
end Go.Proofs.Ytlojjlbngnaphaa

/-! Text Ed. -/
/- The document's record: get. -/
set_option maxRecDepth 8000
set_option linter.unusedVariables false
set_option linter.unusedSimpArgs false
set_option linter.unusedSectionVars false
namespace Go.Proofs.Ytlojjlbngnaphaa
open Go.RowKit Go.Sl
attribute [local irreducible] Own

theorem drop_step (l : List UInt8) (e j : Nat) (h : j < e) (he : e ≤ l.length) :
    (l.drop (e - (j + 1))).take (j + 1) = l[e - (j + 1)]'(by omega) :: (l.drop (e - j)).take j := by
  rw [List.drop_eq_getElem_cons (by omega), List.take_succ_cons, show e - (j + 1) + 1 = e - j by omega]
/-- A number lies in a list of bytes. -/
theorem get_ok {W : World} {R : List SProp} {ao : Option Addr} {cap : Nat} {l : List UInt8} (hr : Rds W R 1 ao l.length (bytes l)) (a wd : Nat) (hl : l.length ≤ 1099511627776) (hw : wd ≤ 8) (ha : a + wd ≤ l.length) :
    Does1 W Try.prog 101 [.slice ao l.length cap, .int .i64 a, .int .i64 wd] R (.int .u64 (numAt l a wd : Nat)) R := by
  (refine Does.enter Try.func101 Try.ntmps101 rfl rfl ?_)
  (refine w ?_; repeat ((first | refine VO.step rfl rfl ?_ | refine VD.end rfl rfl rfl ?_ | refine VD.mid rfl rfl rfl ?_); refine OpV.box rfl rfl rfl ?_; intro _; refine w ?_))
  refine VC.loop (α := Nat) (fun j => j ≤ wd) (fun j => R)
    (fun j => [(0, .slice ao l.length cap), (1, .int .i64 a), (7, .int .u64 ((leVal ((l.drop (a + wd - j)).take j) : Nat) : Int)), (8, .int .i64 ((wd : Int) - 1 - j))])
    (fun j => wd - j) rfl 0 (Nat.zero_le _) Ent.refl ⟨rfl, rfl, asV rfl (by simp [leVal]), asV rfl (by congr 1; omega), trivial⟩ ?_
  intro j hj
  (refine w ?_; repeat ((first | refine VO.step rfl rfl ?_ | refine VD.end rfl rfl rfl ?_ | refine VD.mid rfl rfl rfl ?_); refine OpV.box rfl rfl rfl ?_; intro _; refine w ?_))
  (refine VC.cond rfl rfl ?_ ?_ <;> intro hc)
  · have hlt : j < wd := by have := of_decide_eq_true hc; omega
    obtain ⟨a0, ha0⟩ : ∃ a0, ao = some a0 := by
      cases e : ao with
      | none => have := hr.nil e; omega
      | some a0 => exact ⟨a0, rfl⟩
    subst ha0
    have hb1 := hr
    (refine w ?_; repeat ((first | refine VO.step rfl rfl ?_ | refine VD.end rfl rfl rfl ?_ | refine VD.mid rfl rfl rfl ?_); refine OpV.box rfl rfl rfl ?_; intro _; refine w ?_))
    ((first | refine VO.step rfl rfl ?_ | refine VD.end rfl rfl rfl ?_ | refine VD.mid rfl rfl rfl ?_); refine OpV.pure (PureAt.shl rfl rfl (by omega)) rfl ?_)
    (refine w ?_; repeat ((first | refine VO.step rfl rfl ?_ | refine VD.end rfl rfl rfl ?_ | refine VD.mid rfl rfl rfl ?_); refine OpV.box rfl rfl rfl ?_; intro _; refine w ?_))
    refine VO.re 20 (.int .i64 ((a + wd - 1 - j : Nat) : Int)) rfl (by congr 1; omega) ?_
    (refine w ?_; repeat ((first | refine VO.step rfl rfl ?_ | refine VD.end rfl rfl rfl ?_ | refine VD.mid rfl rfl rfl ?_); refine OpV.box rfl rfl rfl ?_; intro _; refine w ?_))
    refine VE.round (j + 1) (by omega) (by omega) ⟨rfl, rfl, asV rfl ?_, asV rfl (by congr 1; omega), trivial⟩ Ent.refl
    rw [show a + wd - (j + 1) = a + wd - (j + 1) from rfl, drop_step l (a + wd) j (by omega) ha, leVal]
    have hv := leVal_lt ((l.drop (a + wd - j)).take j)
    rw [show ((l.drop (a + wd - j)).take j).length = j by rw [List.length_take, List.length_drop]; omega] at hv
    have hv2 : leVal ((l.drop (a + wd - j)).take j) < 2 ^ 56 := Nat.lt_of_lt_of_le hv (by rw [show (2 : Nat) ^ 56 = 256 ^ 7 from rfl]; exact Nat.pow_le_pow_right (by decide) (by omega))
    have hc8 := (l[a + wd - (j + 1)]'(by omega)).toNat_lt
    have hor := or_shift (l[a + wd - (j + 1)]'(by omega)).toNat (leVal ((l.drop (a + wd - j)).take j)) 8 hc8 (by omega) (by omega)
    congr 1
    rw [BitVec.or_comm]
    simp only [show a + wd - 1 - j = a + wd - (j + 1) by omega]
    rw [wrap64_of (v := (l[a + wd - (j + 1)]'(by omega)).toNat) (by omega)]
    refine Eq.trans hor ?_
    congr 1; omega
  · have hge : j = wd := by have := of_decide_eq_false hc; omega
    subst hge
    (refine w ?_; repeat ((first | refine VO.step rfl rfl ?_ | refine VD.end rfl rfl rfl ?_ | refine VD.mid rfl rfl rfl ?_); refine OpV.box rfl rfl rfl ?_; intro _; refine w ?_))
    (refine VE.done1 rfl ?_ ?_)
    · congr 2; unfold numAt; rw [show a + j - j = a by omega]
    · exact Ent.refl
end Go.Proofs.Ytlojjlbngnaphaa

/-! Text Ef. -/
/- The document's record: begun, ended. -/
set_option maxRecDepth 8000
set_option linter.unusedVariables false
set_option linter.unusedSimpArgs false
set_option linter.unusedSectionVars false
namespace Go.Proofs.Ytlojjlbngnaphaa
open Go.RowKit Go.Sl
attribute [local irreducible] Own

theorem begun_ok {W : World} {R : List SProp} (k e s : Nat) (hk : k < 2 ^ 63) (he : e < 2 ^ 64) (hs : s < 2 ^ 64) :
    Does W Try.prog 72 [.int .i64 k, .int .u64 e, .int .u64 s] R (β := Option Addr × Nat) (fun _ => True)
      (fun x => .slice x.1 (begunL k e s).length x.2) (fun x => Own 5 1 (.slice x.1 (begunL k e s).length x.2) (begunL k e s).length (bytes (begunL k e s)) :: R) := by
  (refine Does.enter Try.func72 Try.ntmps72 rfl rfl ?_)
  refine VC.ent (fun w hw => hw.ownNil 5 1) ?_
  (refine w ?_; repeat ((first | refine VO.step rfl rfl ?_ | refine VD.end rfl rfl rfl ?_ | refine VD.mid rfl rfl rfl ?_); refine OpV.box rfl rfl rfl ?_; intro _; refine w ?_))
  (first | refine VO.step rfl rfl ?_ | refine VD.end rfl rfl rfl ?_ | refine VD.mid rfl rfl rfl ?_)
  refine OpV.append (news := bytes magicL) (m := 4) st_55 rfl rfl (by (repeat first | exact .head | apply Hole.tail)) (fun w hw => Src.ofString w (TabData.string_ok tab_ok rfl) _) (by decide) (by decide) rfl ?_
  intro a1 c1
  rw [show (0 + 4 : Nat) = magicL.length from rfl, List.nil_append]
  (refine w ?_; repeat ((first | refine VO.step rfl rfl ?_ | refine VD.end rfl rfl rfl ?_ | refine VD.mid rfl rfl rfl ?_); refine OpV.box rfl rfl rfl ?_; intro _; refine w ?_))
  refine VO.re 12 (.int .u64 k) rfl (by rw [wrap64_of (by omega)]) ?_
  ((first | refine VO.step rfl rfl ?_ | refine VD.end rfl rfl rfl ?_ | refine VD.mid rfl rfl rfl ?_); refine OpV.call rfl rfl (fun _ _ => by simp) (put_ok magicL k 4 (by decide) (by decide) (by omega)) Ent.re rfl ?_)
  rintro ⟨a2, c2⟩ _
  (refine w ?_; repeat ((first | refine VO.step rfl rfl ?_ | refine VD.end rfl rfl rfl ?_ | refine VD.mid rfl rfl rfl ?_); refine OpV.box rfl rfl rfl ?_; intro _; refine w ?_))
  ((first | refine VO.step rfl rfl ?_ | refine VD.end rfl rfl rfl ?_ | refine VD.mid rfl rfl rfl ?_); refine OpV.call rfl rfl (fun _ _ => by simp) (put_ok (magicL ++ lowBytes k 4) e 8 (by simp [magicL, lowBytes_length]) (by decide) he) Ent.re rfl ?_)
  rintro ⟨a3, c3⟩ _
  (refine w ?_; repeat ((first | refine VO.step rfl rfl ?_ | refine VD.end rfl rfl rfl ?_ | refine VD.mid rfl rfl rfl ?_); refine OpV.box rfl rfl rfl ?_; intro _; refine w ?_))
  ((first | refine VO.step rfl rfl ?_ | refine VD.end rfl rfl rfl ?_ | refine VD.mid rfl rfl rfl ?_); refine OpV.call rfl rfl (fun _ _ => by simp) (put_ok (magicL ++ lowBytes k 4 ++ lowBytes e 8) s 8 (by simp [magicL, lowBytes_length]) (by decide) hs) Ent.re rfl ?_)
  rintro ⟨a4, c4⟩ _
  (refine w ?_; repeat ((first | refine VO.step rfl rfl ?_ | refine VD.end rfl rfl rfl ?_ | refine VD.mid rfl rfl rfl ?_); refine OpV.box rfl rfl rfl ?_; intro _; refine w ?_))
  exact VE.done (a4, c4) rfl trivial rfl Ent.refl
theorem ended_ok {W : World} {R : List SProp} {ao : Option Addr} {cap : Nat} (l : List UInt8) (hl : l.length ≤ 124) :
    Does W Try.prog 74 [.slice ao l.length cap] (Own 5 1 (.slice ao l.length cap) l.length (bytes l) :: R) (β := Option Addr × Nat) (fun _ => True)
      (fun x => .slice x.1 (sealS (padTo 124 l)).length x.2) (fun x => Own 5 1 (.slice x.1 (sealS (padTo 124 l)).length x.2) (sealS (padTo 124 l)).length (bytes (sealS (padTo 124 l))) :: R) := by
  (refine Does.enter Try.func74 Try.ntmps74 rfl rfl ?_)
  (refine w ?_; repeat ((first | refine VO.step rfl rfl ?_ | refine VD.end rfl rfl rfl ?_ | refine VD.mid rfl rfl rfl ?_); refine OpV.box rfl rfl rfl ?_; intro _; refine w ?_))
  refine VC.loop (α := Nat × Option Addr × Nat) (fun y => l.length + y.1 ≤ 124) (fun y => Own 5 1 (.slice y.2.1 (l ++ List.replicate y.1 0).length y.2.2) (l ++ List.replicate y.1 0).length (bytes (l ++ List.replicate y.1 0)) :: R)
    (fun y => [(0, .slice y.2.1 (l ++ List.replicate y.1 0).length y.2.2)]) (fun y => 124 - (l.length + y.1)) rfl (0, ao, cap) (by simp only; omega) (by simp only [List.replicate_zero, List.append_nil]; exact Ent.refl) ⟨asV rfl (by simp), trivial⟩ ?_
  rintro ⟨i, so, sc⟩ hi
  dsimp only at hi ⊢
  have hlen : (l ++ List.replicate i (0 : UInt8)).length = l.length + i := by rw [List.length_append, List.length_replicate]
  (refine w ?_; repeat ((first | refine VO.step rfl rfl ?_ | refine VD.end rfl rfl rfl ?_ | refine VD.mid rfl rfl rfl ?_); refine OpV.box rfl rfl rfl ?_; intro _; refine w ?_))
  (refine VC.cond rfl rfl ?_ ?_ <;> intro hc)
  · have hlt : l.length + i < 124 := by have := of_decide_eq_true hc; omega
    (refine w ?_; repeat ((first | refine VO.step rfl rfl ?_ | refine VD.end rfl rfl rfl ?_ | refine VD.mid rfl rfl rfl ?_); refine OpV.box rfl rfl rfl ?_; intro _; refine w ?_))
    ((first | refine VO.step rfl rfl ?_ | refine VD.end rfl rfl rfl ?_ | refine VD.mid rfl rfl rfl ?_); refine OpV.buildSlice1 st_55 rfl rfl (by first | (simp; done) | simp [Value.oneCell']) (by decide) rfl ?_; intro nb)
    ((first | refine VO.step rfl rfl ?_ | refine VD.end rfl rfl rfl ?_ | refine VD.mid rfl rfl rfl ?_); refine OpV.appendRow st_55 rfl rfl (by (repeat first | exact .head | apply Hole.tail)) (by (focus repeat first | exact .head _ | apply List.Mem.tail)) rfl (by first | (simp; done) | simp [Value.oneCell']) ?_ ?_ rfl ?_)
    · simp only [maxLen]; omega
    · omega
    intro so' sc'
    (refine w ?_; repeat ((first | refine VO.step rfl rfl ?_ | refine VD.end rfl rfl rfl ?_ | refine VD.mid rfl rfl rfl ?_); refine OpV.box rfl rfl rfl ?_; intro _; refine w ?_))
    refine VE.round (i + 1, so', sc') (by simp only; omega) (by simp only; omega) ⟨asV rfl ?_, trivial⟩ ?_
    · simp only; congr 1; rw [List.length_append, List.length_append, List.length_replicate, List.length_replicate]; omega
    · dsimp only
      rw [List.replicate_succ', ← List.append_assoc]
      have e1 : (l ++ List.replicate i (0 : UInt8) ++ [0]).length = (l ++ List.replicate i (0 : UInt8)).length + 1 := List.length_append
      rw [e1, bytes_append (l ++ List.replicate i (0 : UInt8))]
      exact Ent.re
  · have hge : i = 124 - l.length := by have := of_decide_eq_false hc; omega
    subst hge
    rw [show l ++ List.replicate (124 - l.length) (0 : UInt8) = padTo 124 l from rfl] at *
    have hp : (padTo 124 l).length = 124 := padTo_length hl
    (refine w ?_; repeat ((first | refine VO.step rfl rfl ?_ | refine VD.end rfl rfl rfl ?_ | refine VD.mid rfl rfl rfl ?_); refine OpV.box rfl rfl rfl ?_; intro _; refine w ?_))
    refine VO.know (fun w hw => hw.ownNone (by (focus repeat first | exact .head _ | apply List.Mem.tail)) : ∀ w, _ → (so = none → (padTo 124 l).length = 0)) ?_
    intro hnone
    ((first | refine VO.step rfl rfl ?_ | refine VD.end rfl rfl rfl ?_ | refine VD.mid rfl rfl rfl ?_); refine OpV.call rfl rfl (fun _ _ => by simp) (rsum_ok (Rds.own (bytes_one _) (.head _) (by simp) hnone) (by omega)) Ent.refl rfl ?_)
    intro _ _
    (refine w ?_; repeat ((first | refine VO.step rfl rfl ?_ | refine VD.end rfl rfl rfl ?_ | refine VD.mid rfl rfl rfl ?_); refine OpV.box rfl rfl rfl ?_; intro _; refine w ?_))
    have hcr := (crcS (padTo 124 l)).isLt
    refine VO.re 14 (.int .u64 (crcS (padTo 124 l)).toNat) rfl (by rw [wrap64_of (by omega)]) ?_
    ((first | refine VO.step rfl rfl ?_ | refine VD.end rfl rfl rfl ?_ | refine VD.mid rfl rfl rfl ?_); refine OpV.call rfl rfl (fun _ _ => by simp) (put_ok (padTo 124 l) (crcS (padTo 124 l)).toNat 4 (by omega) (by decide) (by have := (crcS (padTo 124 l)).isLt; omega)) Ent.re rfl ?_)
    rintro ⟨a4, c4⟩ _
    (refine w ?_; repeat ((first | refine VO.step rfl rfl ?_ | refine VD.end rfl rfl rfl ?_ | refine VD.mid rfl rfl rfl ?_); refine OpV.box rfl rfl rfl ?_; intro _; refine w ?_))
    exact VE.done (a4, c4) rfl trivial rfl Ent.refl
end Go.Proofs.Ytlojjlbngnaphaa

/-! Text Eg. -/
/- Sectors of the journal: what they look like (Kind, looks), the document's and the program's. -/
set_option maxRecDepth 8000
set_option linter.unusedVariables false
set_option linter.unusedSimpArgs false
set_option linter.unusedSectionVars false
namespace Go.Proofs.Ytlojjlbngnaphaa
open Go.RowKit Go.Sl
attribute [local irreducible] Own

theorem bytes_take (l : List UInt8) (k : Nat) : (bytes l).take (k * 1) = bytes (l.take k) := by rw [Nat.mul_one]; simp [bytes]
theorem bytes_drop (l : List UInt8) (k : Nat) : (bytes l).drop (k * 1) = bytes (l.drop k) := by rw [Nat.mul_one]; simp [bytes]
theorem rds_head {W : World} {R : List SProp} {ao : Option Addr} {l : List UInt8} (hr : Rds W R 1 ao l.length (bytes l)) (k : Nat) (hk : k ≤ l.length) : Rds W R 1 ao k (bytes (l.take k)) := by
  have := hr.take hk
  rwa [bytes_take] at this
theorem rds_part {W : World} {R : List SProp} {ao : Option Addr} {cap : Nat} {l : List UInt8} (hr : Rds W R 1 ao l.length (bytes l)) (a b : Nat) (h1 : a ≤ b) (h2 : b ≤ l.length) (h3 : l.length ≤ cap) : Rds W R 1 (subA ao cap a 1) (b - a) (bytes ((l.drop a).take (b - a))) := by
  have := hr.sub h1 h2 h3
  rwa [bytes_drop, bytes_take] at this
theorem kindB_no {b : List UInt8} (h : b.length = 128 → b.take 4 = magicL → 3 < (b.getD 4 0).toNat) : kindB b = 0 := by
  unfold kindB; rw [if_neg]; rintro ⟨h1, h2, h3⟩; have := h h1 h2; omega
theorem kindB_yes {b : List UInt8} (h1 : b.length = 128) (h2 : b.take 4 = magicL) (h3 : (b.getD 4 0).toNat ≤ 3) : kindB b = b.getD 4 0 := by
  unfold kindB; rw [if_pos ⟨h1, h2, h3⟩]
theorem getD4 {b : List UInt8} (h : 4 < b.length) : b.getD 4 0 = b[4] := by simp [List.getD, h]

theorem kind_ok {W : World} {R : List SProp} {ao : Option Addr} {cap : Nat} {l : List UInt8} (hr : Rds W R 1 ao l.length (bytes l)) (hcap : l.length ≤ cap) :
    Does1 W Try.prog 103 [.slice ao l.length cap] R (.int .u8 ((kindB l).toNat : Int)) R := by
  (refine Does.enter Try.func103 Try.ntmps103 rfl rfl ?_)
  (refine w ?_; repeat ((first | refine VO.step rfl rfl ?_ | refine VD.end rfl rfl rfl ?_ | refine VD.mid rfl rfl rfl ?_); refine OpV.box rfl rfl rfl ?_; intro _; refine w ?_))
  ((first | refine VO.split rfl rfl rfl ?_ ?_ | refine VD.split rfl rfl rfl ?_ ?_) <;> intro hb)
  · have hb : l.length ≠ 128 := by have := hb; simp at this; omega
    (refine w ?_; repeat ((first | refine VO.step rfl rfl ?_ | refine VD.end rfl rfl rfl ?_ | refine VD.mid rfl rfl rfl ?_); refine OpV.box rfl rfl rfl ?_; intro _; refine w ?_))
    (refine VE.done1 rfl ?_ ?_)
    · rw [kindB_no (fun h => absurd h hb)]; rfl
    · exact Ent.refl
  have h128 : l.length = 128 := by have := hb; simp at this; omega
  obtain ⟨a, rfl⟩ : ∃ a, ao = some a := by cases ao with | none => have := hr.nil rfl; omega | some a => exact ⟨a, rfl⟩
  have hb1 := hr
  (refine w ?_; repeat ((first | refine VO.step rfl rfl ?_ | refine VD.end rfl rfl rfl ?_ | refine VD.mid rfl rfl rfl ?_); refine OpV.box rfl rfl rfl ?_; intro _; refine w ?_))
  (first | refine VO.pure rfl rfl (PureAt.toStr (l := l.take 4) tab_ok rfl rfl rfl rfl (rds_head hr 4 (by omega)) rfl) rfl ?_ | refine VD.take rfl rfl rfl (PureAt.toStr (l := l.take 4) tab_ok rfl rfl rfl rfl (rds_head hr 4 (by omega)) rfl) rfl ?_ | refine VQ.pure rfl rfl (PureAt.toStr (l := l.take 4) tab_ok rfl rfl rfl rfl (rds_head hr 4 (by omega)) rfl) rfl ?_ | refine VD.end rfl rfl rfl (OpV.pure (PureAt.toStr (l := l.take 4) tab_ok rfl rfl rfl rfl (rds_head hr 4 (by omega)) rfl) rfl ?_))
  (first | refine VO.pure rfl rfl (PureAt.strEq (b := magicL) tab_ok rfl rfl rfl rfl) rfl ?_ | refine VD.take rfl rfl rfl (PureAt.strEq (b := magicL) tab_ok rfl rfl rfl rfl) rfl ?_ | refine VQ.pure rfl rfl (PureAt.strEq (b := magicL) tab_ok rfl rfl rfl rfl) rfl ?_ | refine VD.end rfl rfl rfl (OpV.pure (PureAt.strEq (b := magicL) tab_ok rfl rfl rfl rfl) rfl ?_))
  (refine w ?_; repeat ((first | refine VO.step rfl rfl ?_ | refine VD.end rfl rfl rfl ?_ | refine VD.mid rfl rfl rfl ?_); refine OpV.box rfl rfl rfl ?_; intro _; refine w ?_))
  ((first | refine VO.split rfl rfl rfl ?_ ?_ | refine VD.split rfl rfl rfl ?_ ?_) <;> intro hb)
  · have hb : l.take 4 ≠ magicL := by have := hb; simp at this; exact this
    (refine w ?_; repeat ((first | refine VO.step rfl rfl ?_ | refine VD.end rfl rfl rfl ?_ | refine VD.mid rfl rfl rfl ?_); refine OpV.box rfl rfl rfl ?_; intro _; refine w ?_))
    (refine VE.done1 rfl ?_ ?_)
    · rw [kindB_no (fun _ h => absurd h hb)]; rfl
    · exact Ent.refl
  have hm : l.take 4 = magicL := by have := hb; simp at this; exact this
  (refine w ?_; repeat ((first | refine VO.step rfl rfl ?_ | refine VD.end rfl rfl rfl ?_ | refine VD.mid rfl rfl rfl ?_); refine OpV.box rfl rfl rfl ?_; intro _; refine w ?_))
  (refine VC.cond rfl rfl ?_ ?_ <;> intro hc)
  · have h3 : 3 < (l[4]).toNat := by have := of_decide_eq_true hc; omega
    (refine w ?_; repeat ((first | refine VO.step rfl rfl ?_ | refine VD.end rfl rfl rfl ?_ | refine VD.mid rfl rfl rfl ?_); refine OpV.box rfl rfl rfl ?_; intro _; refine w ?_))
    (refine VE.done1 rfl ?_ ?_)
    · rw [kindB_no (fun _ _ => by rw [getD4 (by omega)]; exact h3)]; rfl
    · exact Ent.refl
  · have h3 : (l[4]).toNat ≤ 3 := by have := of_decide_eq_false hc; omega
    (refine w ?_; repeat ((first | refine VO.step rfl rfl ?_ | refine VD.end rfl rfl rfl ?_ | refine VD.mid rfl rfl rfl ?_); refine OpV.box rfl rfl rfl ?_; intro _; refine w ?_))
    (refine VE.done1 rfl ?_ ?_)
    · rw [kindB_yes h128 hm (by rw [getD4 (by omega)]; exact h3), getD4 (by omega)]
    · exact Ent.refl
theorem rkind_ok {W : World} {R : List SProp} {ao : Option Addr} {cap : Nat} {l : List UInt8} (hr : Rds W R 1 ao l.length (bytes l)) (hcap : l.length ≤ cap) :
    Does1 W Try.prog 109 [.slice ao l.length cap] R (.int .u8 ((kindB l).toNat : Int)) R := by
  (refine Does.enter Try.func109 Try.ntmps109 rfl rfl ?_)
  (refine w ?_; repeat ((first | refine VO.step rfl rfl ?_ | refine VD.end rfl rfl rfl ?_ | refine VD.mid rfl rfl rfl ?_); refine OpV.box rfl rfl rfl ?_; intro _; refine w ?_))
  ((first | refine VO.split rfl rfl rfl ?_ ?_ | refine VD.split rfl rfl rfl ?_ ?_) <;> intro hb)
  · have hb : l.length ≠ 128 := by have := hb; simp at this; omega
    (refine w ?_; repeat ((first | refine VO.step rfl rfl ?_ | refine VD.end rfl rfl rfl ?_ | refine VD.mid rfl rfl rfl ?_); refine OpV.box rfl rfl rfl ?_; intro _; refine w ?_))
    (refine VE.done1 rfl ?_ ?_)
    · rw [kindB_no (fun h => absurd h hb)]; rfl
    · exact Ent.refl
  have h128 : l.length = 128 := by have := hb; simp at this; omega
  obtain ⟨a, rfl⟩ : ∃ a, ao = some a := by cases ao with | none => have := hr.nil rfl; omega | some a => exact ⟨a, rfl⟩
  have hb1 := hr
  (refine w ?_; repeat ((first | refine VO.step rfl rfl ?_ | refine VD.end rfl rfl rfl ?_ | refine VD.mid rfl rfl rfl ?_); refine OpV.box rfl rfl rfl ?_; intro _; refine w ?_))
  (first | refine VO.pure rfl rfl (PureAt.toStr (l := l.take 4) tab_ok rfl rfl rfl rfl (rds_head hr 4 (by omega)) rfl) rfl ?_ | refine VD.take rfl rfl rfl (PureAt.toStr (l := l.take 4) tab_ok rfl rfl rfl rfl (rds_head hr 4 (by omega)) rfl) rfl ?_ | refine VQ.pure rfl rfl (PureAt.toStr (l := l.take 4) tab_ok rfl rfl rfl rfl (rds_head hr 4 (by omega)) rfl) rfl ?_ | refine VD.end rfl rfl rfl (OpV.pure (PureAt.toStr (l := l.take 4) tab_ok rfl rfl rfl rfl (rds_head hr 4 (by omega)) rfl) rfl ?_))
  (first | refine VO.pure rfl rfl (PureAt.strEq (b := magicL) tab_ok rfl rfl rfl rfl) rfl ?_ | refine VD.take rfl rfl rfl (PureAt.strEq (b := magicL) tab_ok rfl rfl rfl rfl) rfl ?_ | refine VQ.pure rfl rfl (PureAt.strEq (b := magicL) tab_ok rfl rfl rfl rfl) rfl ?_ | refine VD.end rfl rfl rfl (OpV.pure (PureAt.strEq (b := magicL) tab_ok rfl rfl rfl rfl) rfl ?_))
  (refine w ?_; repeat ((first | refine VO.step rfl rfl ?_ | refine VD.end rfl rfl rfl ?_ | refine VD.mid rfl rfl rfl ?_); refine OpV.box rfl rfl rfl ?_; intro _; refine w ?_))
  ((first | refine VO.split rfl rfl rfl ?_ ?_ | refine VD.split rfl rfl rfl ?_ ?_) <;> intro hb)
  · have hb : l.take 4 ≠ magicL := by have := hb; simp at this; exact this
    (refine w ?_; repeat ((first | refine VO.step rfl rfl ?_ | refine VD.end rfl rfl rfl ?_ | refine VD.mid rfl rfl rfl ?_); refine OpV.box rfl rfl rfl ?_; intro _; refine w ?_))
    (refine VE.done1 rfl ?_ ?_)
    · rw [kindB_no (fun _ h => absurd h hb)]; rfl
    · exact Ent.refl
  have hm : l.take 4 = magicL := by have := hb; simp at this; exact this
  (refine w ?_; repeat ((first | refine VO.step rfl rfl ?_ | refine VD.end rfl rfl rfl ?_ | refine VD.mid rfl rfl rfl ?_); refine OpV.box rfl rfl rfl ?_; intro _; refine w ?_))
  ((first | refine VO.split rfl rfl rfl ?_ ?_ | refine VD.split rfl rfl rfl ?_ ?_) <;> intro hb)
  · have h0 : (l[4]).toNat = 0 := by have := of_decide_eq_true hb; omega
    (refine w ?_; repeat ((first | refine VO.step rfl rfl ?_ | refine VD.end rfl rfl rfl ?_ | refine VD.mid rfl rfl rfl ?_); refine OpV.box rfl rfl rfl ?_; intro _; refine w ?_))
    (refine VE.done1 rfl ?_ ?_)
    · rw [kindB_yes h128 hm (by rw [getD4 (by omega)]; omega), getD4 (by omega), h0]; rfl
    · exact Ent.refl
  (refine w ?_; repeat ((first | refine VO.step rfl rfl ?_ | refine VD.end rfl rfl rfl ?_ | refine VD.mid rfl rfl rfl ?_); refine OpV.box rfl rfl rfl ?_; intro _; refine w ?_))
  (refine VC.cond rfl rfl ?_ ?_ <;> intro hc)
  · have h3 : 3 < (l[4]).toNat := by have := of_decide_eq_true hc; omega
    (refine w ?_; repeat ((first | refine VO.step rfl rfl ?_ | refine VD.end rfl rfl rfl ?_ | refine VD.mid rfl rfl rfl ?_); refine OpV.box rfl rfl rfl ?_; intro _; refine w ?_))
    (refine VE.done1 rfl ?_ ?_)
    · rw [kindB_no (fun _ _ => by rw [getD4 (by omega)]; exact h3)]; rfl
    · exact Ent.refl
  · have h3 : (l[4]).toNat ≤ 3 := by have := of_decide_eq_false hc; omega
    (refine w ?_; repeat ((first | refine VO.step rfl rfl ?_ | refine VD.end rfl rfl rfl ?_ | refine VD.mid rfl rfl rfl ?_); refine OpV.box rfl rfl rfl ?_; intro _; refine w ?_))
    (refine VE.done1 rfl ?_ ?_)
    · rw [kindB_yes h128 hm (by rw [getD4 (by omega)]; exact h3), getD4 (by omega)]
    · exact Ent.refl
theorem rlooks_ok {W : World} {R : List SProp} {ao : Option Addr} {cap : Nat} {l : List UInt8} (hr : Rds W R 1 ao l.length (bytes l)) (hcap : l.length ≤ cap) (k : UInt8) :
    Does1 W Try.prog 100 [.slice ao l.length cap, .int .u8 (k.toNat : Int)] R (.int .i64 (looksM l k)) R := by
  (refine Does.enter Try.func100 Try.ntmps100 rfl rfl ?_)
  (refine w ?_; repeat ((first | refine VO.step rfl rfl ?_ | refine VD.end rfl rfl rfl ?_ | refine VD.mid rfl rfl rfl ?_); refine OpV.box rfl rfl rfl ?_; intro _; refine w ?_))
  (refine VC.cond rfl rfl ?_ ?_ <;> intro hc)
  · have hb : l.length ≠ 128 := by have := hc; simp at this; omega
    (refine w ?_; repeat ((first | refine VO.step rfl rfl ?_ | refine VD.end rfl rfl rfl ?_ | refine VD.mid rfl rfl rfl ?_); refine OpV.box rfl rfl rfl ?_; intro _; refine w ?_))
    (refine VE.done1 rfl ?_ ?_)
    · unfold looksM; rw [if_pos hb]
    · exact Ent.refl
  have h128 : l.length = 128 := by have := hc; simp at this; omega
  (refine w ?_; repeat ((first | refine VO.step rfl rfl ?_ | refine VD.end rfl rfl rfl ?_ | refine VD.mid rfl rfl rfl ?_); refine OpV.box rfl rfl rfl ?_; intro _; refine w ?_))
  ((first | refine VO.step rfl rfl ?_ | refine VD.end rfl rfl rfl ?_ | refine VD.mid rfl rfl rfl ?_); refine OpV.call rfl rfl (fun _ _ => by simp) (rkind_ok hr hcap) Ent.refl rfl ?_)
  intro _ _
  (refine w ?_; repeat ((first | refine VO.step rfl rfl ?_ | refine VD.end rfl rfl rfl ?_ | refine VD.mid rfl rfl rfl ?_); refine OpV.box rfl rfl rfl ?_; intro _; refine w ?_))
  (refine VC.cond rfl rfl ?_ ?_ <;> intro hc)
  · have hb : kindB l ≠ k := by intro h; rw [h] at hc; simp at hc
    (refine w ?_; repeat ((first | refine VO.step rfl rfl ?_ | refine VD.end rfl rfl rfl ?_ | refine VD.mid rfl rfl rfl ?_); refine OpV.box rfl rfl rfl ?_; intro _; refine w ?_))
    (refine VE.done1 rfl ?_ ?_)
    · unfold looksM; rw [if_neg (by omega), if_pos hb]
    · exact Ent.refl
  have hk : kindB l = k := by
    have h1 : ((kindB l).toNat : Int) = (k.toNat : Int) := by simpa using hc
    exact UInt8.toNat_inj.1 (by omega)
  have h124 : (l.take 124).length = 124 := by rw [List.length_take]; omega
  (refine w ?_; repeat ((first | refine VO.step rfl rfl ?_ | refine VD.end rfl rfl rfl ?_ | refine VD.mid rfl rfl rfl ?_); refine OpV.box rfl rfl rfl ?_; intro _; refine w ?_))
  have hsum := rsum_ok (cap := cap) (l := l.take 124) (W := W) (R := R) (ao := ao) (by rw [h124]; exact rds_head hr 124 (by omega)) (by omega)
  rw [h124] at hsum
  ((first | refine VO.step rfl rfl ?_ | refine VD.end rfl rfl rfl ?_ | refine VD.mid rfl rfl rfl ?_); refine OpV.call rfl rfl (fun _ _ => by simp) (hsum) Ent.refl rfl ?_)
  intro _ _
  (refine w ?_; repeat ((first | refine VO.step rfl rfl ?_ | refine VD.end rfl rfl rfl ?_ | refine VD.mid rfl rfl rfl ?_); refine OpV.box rfl rfl rfl ?_; intro _; refine w ?_))
  ((first | refine VO.step rfl rfl ?_ | refine VD.end rfl rfl rfl ?_ | refine VD.mid rfl rfl rfl ?_); refine OpV.call rfl rfl (fun _ _ => by simp) (get_ok hr 124 4 (by omega) (by omega) (by omega)) Ent.refl rfl ?_)
  intro _ _
  have hcr := (crcS (l.take 124)).isLt
  (refine w ?_; repeat ((first | refine VO.step rfl rfl ?_ | refine VD.end rfl rfl rfl ?_ | refine VD.mid rfl rfl rfl ?_); refine OpV.box rfl rfl rfl ?_; intro _; refine w ?_))
  (refine VC.cond rfl rfl ?_ ?_ <;> intro hc)
  · have hb : numAt l 124 4 ≠ (crcS (l.take 124)).toNat := by
      intro h
      rw [h, wrap64_of (by omega)] at hc
      simp at hc
    (refine w ?_; repeat ((first | refine VO.step rfl rfl ?_ | refine VD.end rfl rfl rfl ?_ | refine VD.mid rfl rfl rfl ?_); refine OpV.box rfl rfl rfl ?_; intro _; refine w ?_))
    (refine VE.done1 rfl ?_ ?_)
    · unfold looksM; rw [if_neg (by omega), if_neg (fun h => h hk), if_pos hb]
    · exact Ent.refl
  · have hb : numAt l 124 4 = (crcS (l.take 124)).toNat := by
      rw [wrap64_of (by omega)] at hc
      have h1 : ((numAt l 124 4 : Nat) : Int) = (((crcS (l.take 124)).toNat : Nat) : Int) := by simpa using hc
      omega
    (refine w ?_; repeat ((first | refine VO.step rfl rfl ?_ | refine VD.end rfl rfl rfl ?_ | refine VD.mid rfl rfl rfl ?_); refine OpV.box rfl rfl rfl ?_; intro _; refine w ?_))
    (refine VE.done1 rfl ?_ ?_)
    · unfold looksM; rw [if_neg (by omega), if_neg (fun h => h hk), if_neg (fun h => h hb)]
    · exact Ent.refl
end Go.Proofs.Ytlojjlbngnaphaa

/-! Text Eh. -/
/- The document's EncodeHeader, EncodeCommit, EncodeCheck. -/
set_option maxRecDepth 8000
set_option linter.unusedVariables false
set_option linter.unusedSimpArgs false
set_option linter.unusedSectionVars false
namespace Go.Proofs.Ytlojjlbngnaphaa
open Go.RowKit Go.Sl
attribute [local irreducible] Own

structure HdrD.fit (h : HdrD) : Prop where
  epoch : h.epoch < 2 ^ 64
  seq : h.seq < 2 ^ 64
  index : -9223372036854775808 ≤ h.index ∧ h.index ≤ 9223372036854775807
  count : -9223372036854775808 ≤ h.count ∧ h.count ≤ 9223372036854775807
  member : -9223372036854775808 ≤ h.member ∧ h.member ≤ 9223372036854775807
  row : -9223372036854775808 ≤ h.row ∧ h.row ≤ 9223372036854775807
  sum : h.sum < 4294967296
structure CmtD.fit (h : CmtD) : Prop where
  epoch : h.epoch < 2 ^ 64
  seq : h.seq < 2 ^ 64
  count : -9223372036854775808 ≤ h.count ∧ h.count ≤ 9223372036854775807
  sum : h.sum < 4294967296
structure ChkD.fit (h : ChkD) : Prop where
  epoch : h.epoch < 2 ^ 64
  seq : h.seq < 2 ^ 64
  tail : -9223372036854775808 ≤ h.tail ∧ h.tail ≤ 9223372036854775807
theorem hdr_iff (h : HdrD) : h.good ↔ (h.epoch ≤ 4611686018427387904 ∧ 1 ≤ h.seq ∧ h.seq ≤ 4611686018427387904) ∧ 1 ≤ h.count ∧ h.count ≤ 1023 ∧ 0 ≤ h.index ∧ h.index ≤ h.count - 1 ∧ 0 ≤ h.member ∧ h.member ≤ 15 ∧ 0 ≤ h.row ∧ h.row ≤ 4095 := by
  unfold HdrD.good cntOk
  constructor
  · rintro ⟨a, ⟨b, c⟩, ⟨d, e⟩, ⟨f, g⟩, i, j⟩; exact ⟨a, b, c, d, e, f, g, i, j⟩
  · rintro ⟨a, b, c, d, e, f, g, i, j⟩; exact ⟨a, ⟨b, c⟩, ⟨d, e⟩, ⟨f, g⟩, i, j⟩
theorem cmt_iff (h : CmtD) : h.good ↔ (h.epoch ≤ 4611686018427387904 ∧ 1 ≤ h.seq ∧ h.seq ≤ 4611686018427387904) ∧ 1 ≤ h.count ∧ h.count ≤ 1023 := Iff.rfl
theorem chk_iff (h : ChkD) : h.good ↔ (h.epoch ≤ 4611686018427387904 ∧ 1 ≤ h.seq ∧ h.seq ≤ 4611686018427387904) ∧ 0 ≤ h.tail ∧ h.tail ≤ 2047 := Iff.rfl
theorem hdr_bad {h : HdrD} (g : ¬ h.good) : h.enc = (80, []) := if_neg g
theorem cmt_bad {h : CmtD} (g : ¬ h.good) : h.enc = (80, []) := if_neg g
theorem chk_bad {h : ChkD} (g : ¬ h.good) : h.enc = (80, []) := if_neg g
theorem hdr_ok {h : HdrD} (g : h.good) : h.enc = (0, sectF 1 h.epoch h.seq h.rest) := if_pos g
theorem cmt_ok {h : CmtD} (g : h.good) : h.enc = (0, sectF 2 h.epoch h.seq h.rest) := if_pos g
theorem chk_ok {h : ChkD} (g : h.good) : h.enc = (0, sectF 3 h.epoch h.seq h.rest) := if_pos g
theorem i64_nat {v : Nat} (h : v < 4294967296) : IntKind.i64.wrap (v : Int) = v := IntWalk.i64_in _ ⟨by omega, by omega⟩
theorem u32_nat {v : Nat} (h : v < 4294967296) : IntKind.u32.wrap (v : Int) = v := by rw [wrap32_of, Nat.mod_eq_of_lt h]
theorem bitN_lt (b : Bool) : bitN b < 2 ^ 64 := by cases b <;> decide
/-- Bytes of one's own, however they lie. -/
abbrev OwnB (x : Option Addr × Nat) (l : List UInt8) : SProp := Own 5 1 (.slice x.1 l.length x.2) l.length (bytes l)

set_option maxHeartbeats 1000000 in
theorem rench_ok {W : World} {R : List SProp} (h : HdrD) (hf : h.fit) :
    Does W Try.prog 40 [.agg h.cells.toArray] R (β := Option Addr × Nat) (fun _ => True) (fun x => .tuple #[.slice x.1 h.enc.2.length x.2, .int .i64 h.enc.1]) (fun x => OwnB x h.enc.2 :: R) := by
  have hiff := hdr_iff h
  (refine Does.enter Try.func40 Try.ntmps40 rfl rfl ?_)
  (refine w ?_; repeat ((first | refine VO.step rfl rfl ?_ | refine VD.end rfl rfl rfl ?_ | refine VD.mid rfl rfl rfl ?_); refine OpV.box rfl rfl rfl ?_; intro _; refine w ?_))
  ((first | refine VO.step rfl rfl ?_ | refine VD.end rfl rfl rfl ?_ | refine VD.mid rfl rfl rfl ?_); refine OpV.call rfl rfl (fun _ _ => by simp) (numbers_ok h.epoch h.seq) Ent.refl rfl ?_; intro _ _)
  (refine w ?_; repeat ((first | refine VO.step rfl rfl ?_ | refine VD.end rfl rfl rfl ?_ | refine VD.mid rfl rfl rfl ?_); refine OpV.box rfl rfl rfl ?_; intro _; refine w ?_))
  ((first | refine VO.split rfl rfl rfl ?_ ?_ | refine VD.split rfl rfl rfl ?_ ?_) <;> intro hb)
  · have hb : ¬ cntOk h.epoch h.seq := by simpa using hb
    have hbad := hdr_bad (h := h) (fun g => hb g.1)
    (refine w ?_; repeat ((first | refine VO.step rfl rfl ?_ | refine VD.end rfl rfl rfl ?_ | refine VD.mid rfl rfl rfl ?_); refine OpV.box rfl rfl rfl ?_; intro _; refine w ?_))
    refine VE.done (none, 0) rfl trivial (by rw [hbad]; rfl) ?_
    rw [hbad]; exact Ent.trans (Ent.re (L := R)) (fun w hw => hw.ownNil _ _)
  have h0 : cntOk h.epoch h.seq := by simpa using hb
  have h0 := (cnt_iff _ _).1 h0
  (refine w ?_; repeat ((first | refine VO.step rfl rfl ?_ | refine VD.end rfl rfl rfl ?_ | refine VD.mid rfl rfl rfl ?_); refine OpV.box rfl rfl rfl ?_; intro _; refine w ?_))
  iterate 7
    ((first | refine VO.split rfl rfl rfl ?_ ?_ | refine VD.split rfl rfl rfl ?_ ?_) <;> intro hb)
    · replace hb := of_decide_eq_true hb
      have hbad := hdr_bad (h := h) (fun g => by have := hiff.1 g; omega)
      (refine w ?_; repeat ((first | refine VO.step rfl rfl ?_ | refine VD.end rfl rfl rfl ?_ | refine VD.mid rfl rfl rfl ?_); refine OpV.box rfl rfl rfl ?_; intro _; refine w ?_))
      refine VE.done (none, 0) rfl trivial (by rw [hbad]; rfl) ?_
      rw [hbad]; exact Ent.trans (Ent.re (L := R)) (fun w hw => hw.ownNil _ _)
    replace hb := of_decide_eq_false hb
    (refine w ?_; repeat ((first | refine VO.step rfl rfl ?_ | refine VD.end rfl rfl rfl ?_ | refine VD.mid rfl rfl rfl ?_); refine OpV.box rfl rfl rfl ?_; intro _; refine w ?_))
  (refine VC.cond rfl rfl ?_ ?_ <;> intro hc)
  · replace hc := of_decide_eq_true hc
    have hbad := hdr_bad (h := h) (fun g => by have := hiff.1 g; omega)
    (refine w ?_; repeat ((first | refine VO.step rfl rfl ?_ | refine VD.end rfl rfl rfl ?_ | refine VD.mid rfl rfl rfl ?_); refine OpV.box rfl rfl rfl ?_; intro _; refine w ?_))
    refine VE.done (none, 0) rfl trivial (by rw [hbad]; rfl) ?_
    rw [hbad]; exact Ent.trans (Ent.re (L := R)) (fun w hw => hw.ownNil _ _)
  replace hc := of_decide_eq_false hc
  have hg : h.good := hiff.2 (by omega)
  have he := hdr_ok hg
  obtain ⟨ep, sq, ix, ct, mb, rw_, es, sm⟩ := h
  dsimp only at *
  obtain ⟨ix, rfl⟩ := Int.eq_ofNat_of_zero_le (show 0 ≤ ix by omega)
  obtain ⟨ct, rfl⟩ := Int.eq_ofNat_of_zero_le (show 0 ≤ ct by omega)
  obtain ⟨mb, rfl⟩ := Int.eq_ofNat_of_zero_le (show 0 ≤ mb by omega)
  obtain ⟨rw_, rfl⟩ := Int.eq_ofNat_of_zero_le (show 0 ≤ rw_ by omega)
  rw [he]
  have hsm := hf.sum
  have hl0 := begunL_length 1 ep sq
  dsimp only at hsm ⊢
  simp only [HdrD.rest, sectF, sectB, flds, List.flatMap_cons, List.flatMap_nil, List.append_nil, Int.toNat_natCast]
  (refine w ?_; repeat ((first | refine VO.step rfl rfl ?_ | refine VD.end rfl rfl rfl ?_ | refine VD.mid rfl rfl rfl ?_); refine OpV.box rfl rfl rfl ?_; intro _; refine w ?_))
  ((first | refine VO.step rfl rfl ?_ | refine VD.end rfl rfl rfl ?_ | refine VD.mid rfl rfl rfl ?_); refine OpV.call rfl rfl (fun _ _ => by simp) (begun_ok 1 ep sq (by omega) (by omega) (by omega)) Ent.re rfl ?_)
  rintro ⟨a1, c1⟩ -
  generalize begunL 1 ep sq = B at *
  (refine w ?_; repeat ((first | refine VO.step rfl rfl ?_ | refine VD.end rfl rfl rfl ?_ | refine VD.mid rfl rfl rfl ?_); refine OpV.box rfl rfl rfl ?_; intro _; refine w ?_))
  refine VO.re 64 (.int .u64 ix) rfl (by rw [wrap64_of (by omega)]) ?_
  ((first | refine VO.step rfl rfl ?_ | refine VD.end rfl rfl rfl ?_ | refine VD.mid rfl rfl rfl ?_); refine OpV.call rfl rfl (fun _ _ => by simp) (put_ok B ix 4 (by omega) (by omega) (by omega)) Ent.re rfl ?_)
  rintro ⟨a2, c2⟩ -
  (refine w ?_; repeat ((first | refine VO.step rfl rfl ?_ | refine VD.end rfl rfl rfl ?_ | refine VD.mid rfl rfl rfl ?_); refine OpV.box rfl rfl rfl ?_; intro _; refine w ?_))
  refine VO.re 69 (.int .u64 ct) rfl (by rw [wrap64_of (by omega)]) ?_
  ((first | refine VO.step rfl rfl ?_ | refine VD.end rfl rfl rfl ?_ | refine VD.mid rfl rfl rfl ?_); refine OpV.call rfl rfl (fun _ _ => by simp) (put_ok (B ++ lowBytes ix 4) ct 4 (by simp [lowBytes_length]; omega) (by omega) (by omega)) Ent.re rfl ?_)
  rintro ⟨a3, c3⟩ -
  (refine w ?_; repeat ((first | refine VO.step rfl rfl ?_ | refine VD.end rfl rfl rfl ?_ | refine VD.mid rfl rfl rfl ?_); refine OpV.box rfl rfl rfl ?_; intro _; refine w ?_))
  refine VO.re 74 (.int .u64 mb) rfl (by rw [wrap64_of (by omega)]) ?_
  ((first | refine VO.step rfl rfl ?_ | refine VD.end rfl rfl rfl ?_ | refine VD.mid rfl rfl rfl ?_); refine OpV.call rfl rfl (fun _ _ => by simp) (put_ok (B ++ lowBytes ix 4 ++ lowBytes ct 4) mb 4 (by simp [lowBytes_length]; omega) (by omega) (by omega)) Ent.re rfl ?_)
  rintro ⟨a4, c4⟩ -
  (refine w ?_; repeat ((first | refine VO.step rfl rfl ?_ | refine VD.end rfl rfl rfl ?_ | refine VD.mid rfl rfl rfl ?_); refine OpV.box rfl rfl rfl ?_; intro _; refine w ?_))
  refine VO.re 79 (.int .u64 rw_) rfl (by rw [wrap64_of (by omega)]) ?_
  ((first | refine VO.step rfl rfl ?_ | refine VD.end rfl rfl rfl ?_ | refine VD.mid rfl rfl rfl ?_); refine OpV.call rfl rfl (fun _ _ => by simp) (put_ok (B ++ lowBytes ix 4 ++ lowBytes ct 4 ++ lowBytes mb 4) rw_ 4 (by simp [lowBytes_length]; omega) (by omega) (by omega)) Ent.re rfl ?_)
  rintro ⟨a5, c5⟩ -
  cases es
  · (refine w ?_; repeat ((first | refine VO.step rfl rfl ?_ | refine VD.end rfl rfl rfl ?_ | refine VD.mid rfl rfl rfl ?_); refine OpV.box rfl rfl rfl ?_; intro _; refine w ?_))
    refine VO.re 84 (.int .u64 (bitN false)) rfl rfl ?_
    ((first | refine VO.step rfl rfl ?_ | refine VD.end rfl rfl rfl ?_ | refine VD.mid rfl rfl rfl ?_); refine OpV.call rfl rfl (fun _ _ => by simp) (put_ok (B ++ lowBytes ix 4 ++ lowBytes ct 4 ++ lowBytes mb 4 ++ lowBytes rw_ 4) (bitN false) 4 (by simp [lowBytes_length]; omega) (by omega) (bitN_lt false)) Ent.re rfl ?_)
    rintro ⟨a6, c6⟩ -
    (refine w ?_; repeat ((first | refine VO.step rfl rfl ?_ | refine VD.end rfl rfl rfl ?_ | refine VD.mid rfl rfl rfl ?_); refine OpV.box rfl rfl rfl ?_; intro _; refine w ?_))
    refine VO.re 89 (.int .u64 sm) rfl (by show Value.int .u64 (IntKind.u64.wrap (sm : Int)) = _; rw [wrap64_of (by omega)]) ?_
    ((first | refine VO.step rfl rfl ?_ | refine VD.end rfl rfl rfl ?_ | refine VD.mid rfl rfl rfl ?_); refine OpV.call rfl rfl (fun _ _ => by simp) (put_ok (B ++ lowBytes ix 4 ++ lowBytes ct 4 ++ lowBytes mb 4 ++ lowBytes rw_ 4 ++ lowBytes (bitN false) 4) sm 4 (by simp [lowBytes_length]; omega) (by omega) (by omega)) Ent.re rfl ?_)
    rintro ⟨a7, c7⟩ -
    (refine w ?_; repeat ((first | refine VO.step rfl rfl ?_ | refine VD.end rfl rfl rfl ?_ | refine VD.mid rfl rfl rfl ?_); refine OpV.box rfl rfl rfl ?_; intro _; refine w ?_))
    ((first | refine VO.step rfl rfl ?_ | refine VD.end rfl rfl rfl ?_ | refine VD.mid rfl rfl rfl ?_); refine OpV.call rfl rfl (fun _ _ => by simp) (ended_ok (B ++ lowBytes ix 4 ++ lowBytes ct 4 ++ lowBytes mb 4 ++ lowBytes rw_ 4 ++ lowBytes (bitN false) 4 ++ lowBytes sm 4) (by simp [lowBytes_length]; omega)) Ent.re rfl ?_)
    rintro ⟨a8, c8⟩ -
    (refine w ?_; repeat ((first | refine VO.step rfl rfl ?_ | refine VD.end rfl rfl rfl ?_ | refine VD.mid rfl rfl rfl ?_); refine OpV.box rfl rfl rfl ?_; intro _; refine w ?_))
    simp only [List.append_assoc]
    exact VE.done (a8, c8) rfl trivial rfl Ent.re
  · (refine w ?_; repeat ((first | refine VO.step rfl rfl ?_ | refine VD.end rfl rfl rfl ?_ | refine VD.mid rfl rfl rfl ?_); refine OpV.box rfl rfl rfl ?_; intro _; refine w ?_))
    refine VO.re 84 (.int .u64 (bitN true)) rfl rfl ?_
    ((first | refine VO.step rfl rfl ?_ | refine VD.end rfl rfl rfl ?_ | refine VD.mid rfl rfl rfl ?_); refine OpV.call rfl rfl (fun _ _ => by simp) (put_ok (B ++ lowBytes ix 4 ++ lowBytes ct 4 ++ lowBytes mb 4 ++ lowBytes rw_ 4) (bitN true) 4 (by simp [lowBytes_length]; omega) (by omega) (bitN_lt true)) Ent.re rfl ?_)
    rintro ⟨a6, c6⟩ -
    (refine w ?_; repeat ((first | refine VO.step rfl rfl ?_ | refine VD.end rfl rfl rfl ?_ | refine VD.mid rfl rfl rfl ?_); refine OpV.box rfl rfl rfl ?_; intro _; refine w ?_))
    refine VO.re 89 (.int .u64 sm) rfl (by show Value.int .u64 (IntKind.u64.wrap (sm : Int)) = _; rw [wrap64_of (by omega)]) ?_
    ((first | refine VO.step rfl rfl ?_ | refine VD.end rfl rfl rfl ?_ | refine VD.mid rfl rfl rfl ?_); refine OpV.call rfl rfl (fun _ _ => by simp) (put_ok (B ++ lowBytes ix 4 ++ lowBytes ct 4 ++ lowBytes mb 4 ++ lowBytes rw_ 4 ++ lowBytes (bitN true) 4) sm 4 (by simp [lowBytes_length]; omega) (by omega) (by omega)) Ent.re rfl ?_)
    rintro ⟨a7, c7⟩ -
    (refine w ?_; repeat ((first | refine VO.step rfl rfl ?_ | refine VD.end rfl rfl rfl ?_ | refine VD.mid rfl rfl rfl ?_); refine OpV.box rfl rfl rfl ?_; intro _; refine w ?_))
    ((first | refine VO.step rfl rfl ?_ | refine VD.end rfl rfl rfl ?_ | refine VD.mid rfl rfl rfl ?_); refine OpV.call rfl rfl (fun _ _ => by simp) (ended_ok (B ++ lowBytes ix 4 ++ lowBytes ct 4 ++ lowBytes mb 4 ++ lowBytes rw_ 4 ++ lowBytes (bitN true) 4 ++ lowBytes sm 4) (by simp [lowBytes_length]; omega)) Ent.re rfl ?_)
    rintro ⟨a8, c8⟩ -
    (refine w ?_; repeat ((first | refine VO.step rfl rfl ?_ | refine VD.end rfl rfl rfl ?_ | refine VD.mid rfl rfl rfl ?_); refine OpV.box rfl rfl rfl ?_; intro _; refine w ?_))
    simp only [List.append_assoc]
    exact VE.done (a8, c8) rfl trivial rfl Ent.re
theorem rencc_ok {W : World} {R : List SProp} (h : CmtD) (hf : h.fit) :
    Does W Try.prog 41 [.agg h.cells.toArray] R (β := Option Addr × Nat) (fun _ => True) (fun x => .tuple #[.slice x.1 h.enc.2.length x.2, .int .i64 h.enc.1]) (fun x => OwnB x h.enc.2 :: R) := by
  have hiff := cmt_iff h
  (refine Does.enter Try.func41 Try.ntmps41 rfl rfl ?_)
  (refine w ?_; repeat ((first | refine VO.step rfl rfl ?_ | refine VD.end rfl rfl rfl ?_ | refine VD.mid rfl rfl rfl ?_); refine OpV.box rfl rfl rfl ?_; intro _; refine w ?_))
  ((first | refine VO.step rfl rfl ?_ | refine VD.end rfl rfl rfl ?_ | refine VD.mid rfl rfl rfl ?_); refine OpV.call rfl rfl (fun _ _ => by simp) (numbers_ok h.epoch h.seq) Ent.refl rfl ?_; intro _ _)
  (refine w ?_; repeat ((first | refine VO.step rfl rfl ?_ | refine VD.end rfl rfl rfl ?_ | refine VD.mid rfl rfl rfl ?_); refine OpV.box rfl rfl rfl ?_; intro _; refine w ?_))
  ((first | refine VO.split rfl rfl rfl ?_ ?_ | refine VD.split rfl rfl rfl ?_ ?_) <;> intro hb)
  · have hb : ¬ cntOk h.epoch h.seq := by simpa using hb
    have hbad := cmt_bad (h := h) (fun g => hb g.1)
    (refine w ?_; repeat ((first | refine VO.step rfl rfl ?_ | refine VD.end rfl rfl rfl ?_ | refine VD.mid rfl rfl rfl ?_); refine OpV.box rfl rfl rfl ?_; intro _; refine w ?_))
    refine VE.done (none, 0) rfl trivial (by rw [hbad]; rfl) ?_
    rw [hbad]; exact Ent.trans (Ent.re (L := R)) (fun w hw => hw.ownNil _ _)
  have h0 : cntOk h.epoch h.seq := by simpa using hb
  have h0 := (cnt_iff _ _).1 h0
  (refine w ?_; repeat ((first | refine VO.step rfl rfl ?_ | refine VD.end rfl rfl rfl ?_ | refine VD.mid rfl rfl rfl ?_); refine OpV.box rfl rfl rfl ?_; intro _; refine w ?_))
  iterate 1
    ((first | refine VO.split rfl rfl rfl ?_ ?_ | refine VD.split rfl rfl rfl ?_ ?_) <;> intro hb)
    · replace hb := of_decide_eq_true hb
      have hbad := cmt_bad (h := h) (fun g => by have := hiff.1 g; omega)
      (refine w ?_; repeat ((first | refine VO.step rfl rfl ?_ | refine VD.end rfl rfl rfl ?_ | refine VD.mid rfl rfl rfl ?_); refine OpV.box rfl rfl rfl ?_; intro _; refine w ?_))
      refine VE.done (none, 0) rfl trivial (by rw [hbad]; rfl) ?_
      rw [hbad]; exact Ent.trans (Ent.re (L := R)) (fun w hw => hw.ownNil _ _)
    replace hb := of_decide_eq_false hb
    (refine w ?_; repeat ((first | refine VO.step rfl rfl ?_ | refine VD.end rfl rfl rfl ?_ | refine VD.mid rfl rfl rfl ?_); refine OpV.box rfl rfl rfl ?_; intro _; refine w ?_))
  (refine VC.cond rfl rfl ?_ ?_ <;> intro hc)
  · replace hc := of_decide_eq_true hc
    have hbad := cmt_bad (h := h) (fun g => by have := hiff.1 g; omega)
    (refine w ?_; repeat ((first | refine VO.step rfl rfl ?_ | refine VD.end rfl rfl rfl ?_ | refine VD.mid rfl rfl rfl ?_); refine OpV.box rfl rfl rfl ?_; intro _; refine w ?_))
    refine VE.done (none, 0) rfl trivial (by rw [hbad]; rfl) ?_
    rw [hbad]; exact Ent.trans (Ent.re (L := R)) (fun w hw => hw.ownNil _ _)
  replace hc := of_decide_eq_false hc
  have hg : h.good := hiff.2 (by omega)
  have he := cmt_ok hg
  obtain ⟨ep, sq, ct, sm⟩ := h
  dsimp only at *
  obtain ⟨ct, rfl⟩ := Int.eq_ofNat_of_zero_le (show 0 ≤ ct by omega)
  rw [he]
  have hsm := hf.sum
  have hl0 := begunL_length 2 ep sq
  dsimp only at hsm ⊢
  simp only [CmtD.rest, sectF, sectB, flds, List.flatMap_cons, List.flatMap_nil, List.append_nil, Int.toNat_natCast]
  (refine w ?_; repeat ((first | refine VO.step rfl rfl ?_ | refine VD.end rfl rfl rfl ?_ | refine VD.mid rfl rfl rfl ?_); refine OpV.box rfl rfl rfl ?_; intro _; refine w ?_))
  ((first | refine VO.step rfl rfl ?_ | refine VD.end rfl rfl rfl ?_ | refine VD.mid rfl rfl rfl ?_); refine OpV.call rfl rfl (fun _ _ => by simp) (begun_ok 2 ep sq (by omega) (by omega) (by omega)) Ent.re rfl ?_)
  rintro ⟨a1, c1⟩ -
  generalize begunL 2 ep sq = B at *
  (refine w ?_; repeat ((first | refine VO.step rfl rfl ?_ | refine VD.end rfl rfl rfl ?_ | refine VD.mid rfl rfl rfl ?_); refine OpV.box rfl rfl rfl ?_; intro _; refine w ?_))
  refine VO.re 31 (.int .u64 ct) rfl (by rw [wrap64_of (by omega)]) ?_
  ((first | refine VO.step rfl rfl ?_ | refine VD.end rfl rfl rfl ?_ | refine VD.mid rfl rfl rfl ?_); refine OpV.call rfl rfl (fun _ _ => by simp) (put_ok B ct 4 (by omega) (by omega) (by omega)) Ent.re rfl ?_)
  rintro ⟨a2, c2⟩ -
  (refine w ?_; repeat ((first | refine VO.step rfl rfl ?_ | refine VD.end rfl rfl rfl ?_ | refine VD.mid rfl rfl rfl ?_); refine OpV.box rfl rfl rfl ?_; intro _; refine w ?_))
  refine VO.re 36 (.int .u64 sm) rfl (by show Value.int .u64 (IntKind.u64.wrap (sm : Int)) = _; rw [wrap64_of (by omega)]) ?_
  ((first | refine VO.step rfl rfl ?_ | refine VD.end rfl rfl rfl ?_ | refine VD.mid rfl rfl rfl ?_); refine OpV.call rfl rfl (fun _ _ => by simp) (put_ok (B ++ lowBytes ct 4) sm 4 (by simp [lowBytes_length]; omega) (by omega) (by omega)) Ent.re rfl ?_)
  rintro ⟨a3, c3⟩ -
  (refine w ?_; repeat ((first | refine VO.step rfl rfl ?_ | refine VD.end rfl rfl rfl ?_ | refine VD.mid rfl rfl rfl ?_); refine OpV.box rfl rfl rfl ?_; intro _; refine w ?_))
  ((first | refine VO.step rfl rfl ?_ | refine VD.end rfl rfl rfl ?_ | refine VD.mid rfl rfl rfl ?_); refine OpV.call rfl rfl (fun _ _ => by simp) (ended_ok (B ++ lowBytes ct 4 ++ lowBytes sm 4) (by simp [lowBytes_length]; omega)) Ent.re rfl ?_)
  rintro ⟨a8, c8⟩ -
  (refine w ?_; repeat ((first | refine VO.step rfl rfl ?_ | refine VD.end rfl rfl rfl ?_ | refine VD.mid rfl rfl rfl ?_); refine OpV.box rfl rfl rfl ?_; intro _; refine w ?_))
  simp only [List.append_assoc]
  exact VE.done (a8, c8) rfl trivial rfl Ent.re
theorem rencs_ok {W : World} {R : List SProp} (h : ChkD) (hf : h.fit) :
    Does W Try.prog 58 [.agg h.cells.toArray] R (β := Option Addr × Nat) (fun _ => True) (fun x => .tuple #[.slice x.1 h.enc.2.length x.2, .int .i64 h.enc.1]) (fun x => OwnB x h.enc.2 :: R) := by
  have hiff := chk_iff h
  (refine Does.enter Try.func58 Try.ntmps58 rfl rfl ?_)
  (refine w ?_; repeat ((first | refine VO.step rfl rfl ?_ | refine VD.end rfl rfl rfl ?_ | refine VD.mid rfl rfl rfl ?_); refine OpV.box rfl rfl rfl ?_; intro _; refine w ?_))
  ((first | refine VO.step rfl rfl ?_ | refine VD.end rfl rfl rfl ?_ | refine VD.mid rfl rfl rfl ?_); refine OpV.call rfl rfl (fun _ _ => by simp) (numbers_ok h.epoch h.seq) Ent.refl rfl ?_; intro _ _)
  (refine w ?_; repeat ((first | refine VO.step rfl rfl ?_ | refine VD.end rfl rfl rfl ?_ | refine VD.mid rfl rfl rfl ?_); refine OpV.box rfl rfl rfl ?_; intro _; refine w ?_))
  ((first | refine VO.split rfl rfl rfl ?_ ?_ | refine VD.split rfl rfl rfl ?_ ?_) <;> intro hb)
  · have hb : ¬ cntOk h.epoch h.seq := by simpa using hb
    have hbad := chk_bad (h := h) (fun g => hb g.1)
    (refine w ?_; repeat ((first | refine VO.step rfl rfl ?_ | refine VD.end rfl rfl rfl ?_ | refine VD.mid rfl rfl rfl ?_); refine OpV.box rfl rfl rfl ?_; intro _; refine w ?_))
    refine VE.done (none, 0) rfl trivial (by rw [hbad]; rfl) ?_
    rw [hbad]; exact Ent.trans (Ent.re (L := R)) (fun w hw => hw.ownNil _ _)
  have h0 : cntOk h.epoch h.seq := by simpa using hb
  have h0 := (cnt_iff _ _).1 h0
  (refine w ?_; repeat ((first | refine VO.step rfl rfl ?_ | refine VD.end rfl rfl rfl ?_ | refine VD.mid rfl rfl rfl ?_); refine OpV.box rfl rfl rfl ?_; intro _; refine w ?_))
  iterate 1
    ((first | refine VO.split rfl rfl rfl ?_ ?_ | refine VD.split rfl rfl rfl ?_ ?_) <;> intro hb)
    · replace hb := of_decide_eq_true hb
      have hbad := chk_bad (h := h) (fun g => by have := hiff.1 g; omega)
      (refine w ?_; repeat ((first | refine VO.step rfl rfl ?_ | refine VD.end rfl rfl rfl ?_ | refine VD.mid rfl rfl rfl ?_); refine OpV.box rfl rfl rfl ?_; intro _; refine w ?_))
      refine VE.done (none, 0) rfl trivial (by rw [hbad]; rfl) ?_
      rw [hbad]; exact Ent.trans (Ent.re (L := R)) (fun w hw => hw.ownNil _ _)
    replace hb := of_decide_eq_false hb
    (refine w ?_; repeat ((first | refine VO.step rfl rfl ?_ | refine VD.end rfl rfl rfl ?_ | refine VD.mid rfl rfl rfl ?_); refine OpV.box rfl rfl rfl ?_; intro _; refine w ?_))
  (refine VC.cond rfl rfl ?_ ?_ <;> intro hc)
  · replace hc := of_decide_eq_true hc
    have hbad := chk_bad (h := h) (fun g => by have := hiff.1 g; omega)
    (refine w ?_; repeat ((first | refine VO.step rfl rfl ?_ | refine VD.end rfl rfl rfl ?_ | refine VD.mid rfl rfl rfl ?_); refine OpV.box rfl rfl rfl ?_; intro _; refine w ?_))
    refine VE.done (none, 0) rfl trivial (by rw [hbad]; rfl) ?_
    rw [hbad]; exact Ent.trans (Ent.re (L := R)) (fun w hw => hw.ownNil _ _)
  replace hc := of_decide_eq_false hc
  have hg : h.good := hiff.2 (by omega)
  have he := chk_ok hg
  obtain ⟨ep, sq, ct⟩ := h
  dsimp only at *
  obtain ⟨ct, rfl⟩ := Int.eq_ofNat_of_zero_le (show 0 ≤ ct by omega)
  rw [he]
  have hl0 := begunL_length 3 ep sq
  dsimp only
  simp only [ChkD.rest, sectF, sectB, flds, List.flatMap_cons, List.flatMap_nil, List.append_nil, Int.toNat_natCast]
  (refine w ?_; repeat ((first | refine VO.step rfl rfl ?_ | refine VD.end rfl rfl rfl ?_ | refine VD.mid rfl rfl rfl ?_); refine OpV.box rfl rfl rfl ?_; intro _; refine w ?_))
  ((first | refine VO.step rfl rfl ?_ | refine VD.end rfl rfl rfl ?_ | refine VD.mid rfl rfl rfl ?_); refine OpV.call rfl rfl (fun _ _ => by simp) (begun_ok 3 ep sq (by omega) (by omega) (by omega)) Ent.re rfl ?_)
  rintro ⟨a1, c1⟩ -
  generalize begunL 3 ep sq = B at *
  (refine w ?_; repeat ((first | refine VO.step rfl rfl ?_ | refine VD.end rfl rfl rfl ?_ | refine VD.mid rfl rfl rfl ?_); refine OpV.box rfl rfl rfl ?_; intro _; refine w ?_))
  refine VO.re 31 (.int .u64 ct) rfl (by rw [wrap64_of (by omega)]) ?_
  ((first | refine VO.step rfl rfl ?_ | refine VD.end rfl rfl rfl ?_ | refine VD.mid rfl rfl rfl ?_); refine OpV.call rfl rfl (fun _ _ => by simp) (put_ok B ct 4 (by omega) (by omega) (by omega)) Ent.re rfl ?_)
  rintro ⟨a2, c2⟩ -
  (refine w ?_; repeat ((first | refine VO.step rfl rfl ?_ | refine VD.end rfl rfl rfl ?_ | refine VD.mid rfl rfl rfl ?_); refine OpV.box rfl rfl rfl ?_; intro _; refine w ?_))
  ((first | refine VO.step rfl rfl ?_ | refine VD.end rfl rfl rfl ?_ | refine VD.mid rfl rfl rfl ?_); refine OpV.call rfl rfl (fun _ _ => by simp) (ended_ok (B ++ lowBytes ct 4) (by simp [lowBytes_length]; omega)) Ent.re rfl ?_)
  rintro ⟨a8, c8⟩ -
  (refine w ?_; repeat ((first | refine VO.step rfl rfl ?_ | refine VD.end rfl rfl rfl ?_ | refine VD.mid rfl rfl rfl ?_); refine OpV.box rfl rfl rfl ?_; intro _; refine w ?_))
  simp only [List.append_assoc]
  exact VE.done (a8, c8) rfl trivial rfl Ent.re
end Go.Proofs.Ytlojjlbngnaphaa

/-! Text Ei. -/
/- The document's DecodeHeader, DecodeCommit, DecodeCheck. -/
set_option maxRecDepth 8000
set_option linter.unusedVariables false
set_option linter.unusedSimpArgs false
set_option linter.unusedSectionVars false
namespace Go.Proofs.Ytlojjlbngnaphaa
open Go.RowKit Go.Sl
attribute [local irreducible] Own

def HdrD.parse2 (b : List UInt8) : HdrD := ⟨numAt b 8 8, numAt b 16 8, numAt b 24 4, numAt b 28 4, numAt b 32 4, numAt b 36 4, decide (b.getD 40 0 = 1), numAt b 44 4⟩
theorem numAt_lt (b : List UInt8) (a w : Nat) : numAt b a w < 256 ^ w := by
  unfold numAt
  refine Nat.lt_of_lt_of_le (leVal_lt _) (Nat.pow_le_pow_right (by decide) ?_)
  rw [List.length_take]; exact Nat.min_le_left _ _
theorem numAt_low (b : List UInt8) (a w : Nat) (h : a < b.length) : (b.getD a 0).toNat = numAt b a (w + 1) % 256 := by
  unfold numAt
  rw [List.drop_eq_getElem_cons h, List.take_succ_cons, leVal]
  have := (b[a]).toNat_lt
  simp only [List.getD, List.getElem?_eq_getElem h, Option.getD_some]
  omega
theorem hdr_esc {b : List UInt8} {h : HdrD} (hg : h.good) (he : h.enc.2 = b) : numAt b 40 4 = bitN h.escaped := by
  rw [hdr_ok hg] at he
  rw [← he]
  exact sectF_num 1 h.epoch h.seq h.rest (hdr_sum h) 8 (bitN h.escaped, 4) rfl (by cases h.escaped <;> decide)
theorem bitN_dec (b : Bool) : decide (bitN b = 1) = b := by cases b <;> rfl
theorem hdr_dec2 {b : List UInt8} (hb : b.length = 128) (hl : looksM b 1 = 0) : HdrD.dec b = if (HdrD.parse2 b).good ∧ (HdrD.parse2 b).enc.2 = b then (0, HdrD.parse2 b) else (80, zeroH) := by
  have k40 := numAt_low b 40 3 (by omega)
  have e1 : (HdrD.parse2 b).good ∧ (HdrD.parse2 b).enc.2 = b → HdrD.parse b = HdrD.parse2 b := by
    rintro ⟨g, e⟩
    have h := hdr_esc g e
    unfold HdrD.parse HdrD.parse2 at *
    rw [h, bitN_dec]
  have e2 : (HdrD.parse b).good ∧ (HdrD.parse b).enc.2 = b → HdrD.parse b = HdrD.parse2 b := by
    rintro ⟨g, e⟩
    have h := hdr_esc g e
    unfold HdrD.parse HdrD.parse2 at *
    congr 1
    dsimp only at h
    rw [decide_eq_decide]
    constructor
    · intro q
      have : (b.getD 40 0).toNat = 1 := by rw [k40, show (3 + 1) = 4 from rfl, q]
      exact UInt8.toNat_inj.1 this
    · intro q
      rw [q] at k40
      have : numAt b 40 4 = 0 ∨ numAt b 40 4 = 1 := by rw [h]; unfold bitN; split <;> simp
      have k41 : (1 : UInt8).toNat = 1 := rfl
      rw [k41] at k40
      change 1 = numAt b 40 4 % 256 at k40
      omega
  unfold HdrD.dec
  rw [if_neg (by rw [hl]; simp)]
  by_cases h1 : (HdrD.parse2 b).good ∧ (HdrD.parse2 b).enc.2 = b
  · rw [if_pos h1, e1 h1, if_pos h1]
  · rw [if_neg h1]
    by_cases h2 : (HdrD.parse b).good ∧ (HdrD.parse b).enc.2 = b
    · exact absurd (by rw [← e2 h2]; exact h2) h1
    · rw [if_neg h2]
theorem cmt_dec2 {b : List UInt8} (hl : looksM b 2 = 0) : CmtD.dec b = if (CmtD.parse b).good ∧ (CmtD.parse b).enc.2 = b then (0, CmtD.parse b) else (80, zeroC) := by
  unfold CmtD.dec; rw [if_neg (by rw [hl]; simp)]
theorem hdr_decB {b : List UInt8} (hl : looksM b 1 ≠ 0) : HdrD.dec b = (looksM b 1, zeroH) := by unfold HdrD.dec; rw [if_pos hl]
theorem cmt_decB {b : List UInt8} (hl : looksM b 2 ≠ 0) : CmtD.dec b = (looksM b 2, zeroC) := by unfold CmtD.dec; rw [if_pos hl]
theorem hdr_one (h : HdrD) : ∀ u ∈ h.cells, u.oneCell' = true := by
  intro u hu; simp only [HdrD.cells, List.mem_cons, List.not_mem_nil, or_false] at hu
  rcases hu with h | h | h | h | h | h | h | h <;> subst h <;> rfl
theorem cmt_one (h : CmtD) : ∀ u ∈ h.cells, u.oneCell' = true := by
  intro u hu; simp only [CmtD.cells, List.mem_cons, List.not_mem_nil, or_false] at hu
  rcases hu with h | h | h | h <;> subst h <;> rfl
theorem hdr_fit2 (b : List UInt8) : (HdrD.parse2 b).fit := by
  have h := numAt_lt b
  refine ⟨h 8 8, h 16 8, ?_, ?_, ?_, ?_, h 44 4⟩
  · have := h 24 4; simp only [HdrD.parse2]; omega
  · have := h 28 4; simp only [HdrD.parse2]; omega
  · have := h 32 4; simp only [HdrD.parse2]; omega
  · have := h 36 4; simp only [HdrD.parse2]; omega
theorem hdr_fit (b : List UInt8) : (HdrD.parse b).fit := by
  have h := numAt_lt b
  refine ⟨h 8 8, h 16 8, ?_, ?_, ?_, ?_, h 44 4⟩
  · have := h 24 4; simp only [HdrD.parse]; omega
  · have := h 28 4; simp only [HdrD.parse]; omega
  · have := h 32 4; simp only [HdrD.parse]; omega
  · have := h 36 4; simp only [HdrD.parse]; omega
theorem cmt_fit (b : List UInt8) : (CmtD.parse b).fit := by
  have h := numAt_lt b
  refine ⟨h 8 8, h 16 8, ?_, h 28 4⟩
  have := h 24 4; simp only [CmtD.parse]; omega
theorem looks_len {b : List UInt8} {k : UInt8} (h : looksM b k = 0) : b.length = 128 := by
  unfold looksM at h; split at h
  · cases h
  · omega
theorem enc_bad {h : HdrD} : h.enc.1 ≠ 0 ↔ ¬ h.good := by unfold HdrD.enc; split <;> simp_all
theorem encc_bad {h : CmtD} : h.enc.1 ≠ 0 ↔ ¬ h.good := by unfold CmtD.enc; split <;> simp_all
theorem u8_one (c : UInt8) : ((c.toNat : Int) == 1) = decide (c = 1) := by
  rw [Bool.eq_iff_iff]
  simp only [beq_iff_eq, decide_eq_true_eq]
  constructor
  · intro h; exact UInt8.toNat_inj.1 (by show c.toNat = 1; omega)
  · intro h; subst h; rfl
theorem own_rds {W : World} {H : List SProp} {x : Option Addr × Nat} {l : List UInt8} (hn : x.1 = none → l.length = 0) (m : OwnB x l ∈ H) : Rds W H 1 x.1 l.length (bytes l) := Rds.own (bytes_one _) m (by simp) hn
set_option maxHeartbeats 2000000 in
theorem rdech_ok {W : World} {R : List SProp} {ao : Option Addr} {cap : Nat} {l : List UInt8} (hr : Rds W R 1 ao l.length (bytes l)) (hcap : l.length ≤ cap) :
    Does1 W Try.prog 81 [.slice ao l.length cap] R (.tuple #[.agg (HdrD.dec l).2.cells.toArray, .int .i64 (HdrD.dec l).1]) R := by
  (refine Does.enter Try.func81 Try.ntmps81 rfl rfl ?_)
  (refine w ?_; repeat ((first | refine VO.step rfl rfl ?_ | refine VD.end rfl rfl rfl ?_ | refine VD.mid rfl rfl rfl ?_); refine OpV.box rfl rfl rfl ?_; intro _; refine w ?_))
  ((first | refine VO.step rfl rfl ?_ | refine VD.end rfl rfl rfl ?_ | refine VD.mid rfl rfl rfl ?_); refine OpV.allocS sb_90 rfl ?_; intro nz)
  (refine w ?_; repeat ((first | refine VO.step rfl rfl ?_ | refine VD.end rfl rfl rfl ?_ | refine VD.mid rfl rfl rfl ?_); refine OpV.box rfl rfl rfl ?_; intro _; refine w ?_))
  have hr1 := hr.ent (H := Row nz 90 zeroH.cells :: R) (Ent.drop Ent.refl)
  ((first | refine VO.step rfl rfl ?_ | refine VD.end rfl rfl rfl ?_ | refine VD.mid rfl rfl rfl ?_); refine OpV.call rfl rfl (fun _ _ => by simp) (rlooks_ok hr1 hcap 1) Ent.refl rfl ?_)
  intro _ _
  (refine w ?_; repeat ((first | refine VO.step rfl rfl ?_ | refine VD.end rfl rfl rfl ?_ | refine VD.mid rfl rfl rfl ?_); refine OpV.box rfl rfl rfl ?_; intro _; refine w ?_))
  (refine VC.cond rfl rfl ?_ ?_ <;> intro hc)
  · have hl : looksM l 1 ≠ 0 := by simpa using hc
    rw [hdr_decB hl]
    (refine w ?_; repeat ((first | refine VO.step rfl rfl ?_ | refine VD.end rfl rfl rfl ?_ | refine VD.mid rfl rfl rfl ?_); refine OpV.box rfl rfl rfl ?_; intro _; refine w ?_))
    (apply VO.pure rfl rfl; apply PureAt.build sb_90 (pv := []) rfl; rfl; rfl)
    (refine w ?_; repeat ((first | refine VO.step rfl rfl ?_ | refine VD.end rfl rfl rfl ?_ | refine VD.mid rfl rfl rfl ?_); refine OpV.box rfl rfl rfl ?_; intro _; refine w ?_))
    (first | refine VO.step rfl rfl ?_ | refine VD.end rfl rfl rfl ?_ | refine VD.mid rfl rfl rfl ?_)
    refine OpV.stA (vs := zeroH.cells) tab_ok rfl rfl rfl rfl (hdr_one _) (by (repeat first | exact .head | apply Hole.tail)) (by simp) ?_
    (refine w ?_; repeat ((first | refine VO.step rfl rfl ?_ | refine VD.end rfl rfl rfl ?_ | refine VD.mid rfl rfl rfl ?_); refine OpV.box rfl rfl rfl ?_; intro _; refine w ?_))
    exact VE.results2 (.inl rfl) () rfl (ResIs.agg (vs := zeroH.cells) tab_ok rfl rfl (by (focus repeat first | exact .head _ | apply List.Mem.tail)) rfl rfl) (.tmp rfl) trivial rfl (Ent.re (L := R))
  have hl : looksM l 1 = 0 := by simpa using hc
  have hlen := looks_len hl
  rw [hdr_dec2 hlen hl]
  obtain ⟨a, rfl⟩ : ∃ a, ao = some a := by cases ao with | none => have := hr.nil rfl; omega | some a => exact ⟨a, rfl⟩
  have hb1 := hr1
  have hlt := numAt_lt l
  (refine w ?_; repeat ((first | refine VO.step rfl rfl ?_ | refine VD.end rfl rfl rfl ?_ | refine VD.mid rfl rfl rfl ?_); refine OpV.box rfl rfl rfl ?_; intro _; refine w ?_))
  refine VC.drawnX [1, 3, 5, 8, 11, 14, 21, 24] 25 24 [0, 2, 4, 7, 10, 13, 16, 17, 18, 19, 20, 1, 3, 5, 6, 8, 9, 11, 12, 14, 15, 21, 22, 23, 24, 25] _ 5 (fun b => Row b 90 zeroH.cells) (fun b => .pointer (some ⟨b, 0, none⟩)) rfl (by kernel_rfl) (by kernel_rfl) Ent.refl ?_
  (repeat (apply VX.take rfl rfl rfl rfl; (first | (apply PureAt.ar64 rfl rfl rfl; omega) | exact .eval tab_ok rfl | (apply PureAt.ld tab_ok rfl rfl; (focus repeat first | exact .head _ | apply List.Mem.tail); rfl) | (apply PureAt.shr rfl rfl (by decide) (by decide)) | (apply PureAt.shr rfl rfl (by omega) (by simp only [IntKind.bits]; omega)) | exact .fieldAddrA tab_ok rfl rfl | exact .sliceLH tab_ok rfl rfl rfl rfl (by omega) (by omega) | exact .sliceH tab_ok rfl rfl rfl (by omega) | exact .sliceL tab_ok rfl rfl rfl (by omega) | (first | exact .indexAddr tab_ok rfl rfl rfl rfl (by omega) | exact .indexAddrN tab_ok rfl rfl rfl rfl (by omega) | exact .indexAddrI tab_ok rfl rfl rfl rfl (toNatLit _) (by decide) (by omega) | exact .indexAddrNI tab_ok rfl rfl rfl rfl (toNatLit _) (by decide) (by omega) | exact .ldR tab_ok rfl rfl hr1 (List.getElem?_eq_getElem (by omega)) | exact .ldR tab_ok rfl rfl hr2 (List.getElem?_eq_getElem (by omega)) | exact ldB tab_ok rfl rfl hb1 (by omega) | exact ldB tab_ok rfl rfl hb2 (by omega)) | exact .sliceHI tab_ok rfl rfl rfl (toNatLit _) (by decide) (by omega) | exact .sliceLI tab_ok rfl rfl rfl (toNatLit _) (by decide) (by omega) | (apply PureAt.ldA tab_ok rfl rfl; (focus repeat first | exact .head _ | apply List.Mem.tail); rfl; rfl) | exact .ldro tab_ok rfl rfl (by assumption)); rfl; rfl; rfl))
  refine VX.re 33 (.bool (HdrD.parse2 l).escaped) rfl ?_ rfl rfl ?_
  · show Value.bool _ = Value.bool (decide (l.getD 40 0 = 1))
    rw [show l.getD 40 0 = l[40] by simp [List.getD, show 40 < l.length by omega], u8_one]
  (refine VX.call rfl rfl rfl rfl rfl rfl (fun _ _ => by simp) (fun L hL => get_ok (hr1.ent hL) 8 8 (by omega) (by decide) (by omega)) rfl (FloatX.alloc sb_90 rfl) Ent.refl rfl rfl rfl ?_)
  (refine VX.call rfl rfl rfl rfl rfl rfl (fun _ _ => by simp) (fun L hL => get_ok (hr1.ent hL) 16 8 (by omega) (by decide) (by omega)) rfl (FloatX.alloc sb_90 rfl) Ent.refl rfl rfl rfl ?_)
  (refine VX.call rfl rfl rfl rfl rfl rfl (fun _ _ => by simp) (fun L hL => get_ok (hr1.ent hL) 24 4 (by omega) (by decide) (by omega)) rfl (FloatX.alloc sb_90 rfl) Ent.refl rfl rfl rfl ?_)
  (repeat (apply VX.take rfl rfl rfl rfl; (first | (apply PureAt.ar64 rfl rfl rfl; omega) | exact .eval tab_ok rfl | (apply PureAt.ld tab_ok rfl rfl; (focus repeat first | exact .head _ | apply List.Mem.tail); rfl) | (apply PureAt.shr rfl rfl (by decide) (by decide)) | (apply PureAt.shr rfl rfl (by omega) (by simp only [IntKind.bits]; omega)) | exact .fieldAddrA tab_ok rfl rfl | exact .sliceLH tab_ok rfl rfl rfl rfl (by omega) (by omega) | exact .sliceH tab_ok rfl rfl rfl (by omega) | exact .sliceL tab_ok rfl rfl rfl (by omega) | (first | exact .indexAddr tab_ok rfl rfl rfl rfl (by omega) | exact .indexAddrN tab_ok rfl rfl rfl rfl (by omega) | exact .indexAddrI tab_ok rfl rfl rfl rfl (toNatLit _) (by decide) (by omega) | exact .indexAddrNI tab_ok rfl rfl rfl rfl (toNatLit _) (by decide) (by omega) | exact .ldR tab_ok rfl rfl hr1 (List.getElem?_eq_getElem (by omega)) | exact .ldR tab_ok rfl rfl hr2 (List.getElem?_eq_getElem (by omega)) | exact ldB tab_ok rfl rfl hb1 (by omega) | exact ldB tab_ok rfl rfl hb2 (by omega)) | exact .sliceHI tab_ok rfl rfl rfl (toNatLit _) (by decide) (by omega) | exact .sliceLI tab_ok rfl rfl rfl (toNatLit _) (by decide) (by omega) | (apply PureAt.ldA tab_ok rfl rfl; (focus repeat first | exact .head _ | apply List.Mem.tail); rfl; rfl) | exact .ldro tab_ok rfl rfl (by assumption)); rfl; rfl; rfl))
  (refine VX.call rfl rfl rfl rfl rfl rfl (fun _ _ => by simp) (fun L hL => get_ok (hr1.ent hL) 28 4 (by omega) (by decide) (by omega)) rfl (FloatX.alloc sb_90 rfl) Ent.refl rfl rfl rfl ?_)
  (repeat (apply VX.take rfl rfl rfl rfl; (first | (apply PureAt.ar64 rfl rfl rfl; omega) | exact .eval tab_ok rfl | (apply PureAt.ld tab_ok rfl rfl; (focus repeat first | exact .head _ | apply List.Mem.tail); rfl) | (apply PureAt.shr rfl rfl (by decide) (by decide)) | (apply PureAt.shr rfl rfl (by omega) (by simp only [IntKind.bits]; omega)) | exact .fieldAddrA tab_ok rfl rfl | exact .sliceLH tab_ok rfl rfl rfl rfl (by omega) (by omega) | exact .sliceH tab_ok rfl rfl rfl (by omega) | exact .sliceL tab_ok rfl rfl rfl (by omega) | (first | exact .indexAddr tab_ok rfl rfl rfl rfl (by omega) | exact .indexAddrN tab_ok rfl rfl rfl rfl (by omega) | exact .indexAddrI tab_ok rfl rfl rfl rfl (toNatLit _) (by decide) (by omega) | exact .indexAddrNI tab_ok rfl rfl rfl rfl (toNatLit _) (by decide) (by omega) | exact .ldR tab_ok rfl rfl hr1 (List.getElem?_eq_getElem (by omega)) | exact .ldR tab_ok rfl rfl hr2 (List.getElem?_eq_getElem (by omega)) | exact ldB tab_ok rfl rfl hb1 (by omega) | exact ldB tab_ok rfl rfl hb2 (by omega)) | exact .sliceHI tab_ok rfl rfl rfl (toNatLit _) (by decide) (by omega) | exact .sliceLI tab_ok rfl rfl rfl (toNatLit _) (by decide) (by omega) | (apply PureAt.ldA tab_ok rfl rfl; (focus repeat first | exact .head _ | apply List.Mem.tail); rfl; rfl) | exact .ldro tab_ok rfl rfl (by assumption)); rfl; rfl; rfl))
  (refine VX.call rfl rfl rfl rfl rfl rfl (fun _ _ => by simp) (fun L hL => get_ok (hr1.ent hL) 32 4 (by omega) (by decide) (by omega)) rfl (FloatX.alloc sb_90 rfl) Ent.refl rfl rfl rfl ?_)
  (repeat (apply VX.take rfl rfl rfl rfl; (first | (apply PureAt.ar64 rfl rfl rfl; omega) | exact .eval tab_ok rfl | (apply PureAt.ld tab_ok rfl rfl; (focus repeat first | exact .head _ | apply List.Mem.tail); rfl) | (apply PureAt.shr rfl rfl (by decide) (by decide)) | (apply PureAt.shr rfl rfl (by omega) (by simp only [IntKind.bits]; omega)) | exact .fieldAddrA tab_ok rfl rfl | exact .sliceLH tab_ok rfl rfl rfl rfl (by omega) (by omega) | exact .sliceH tab_ok rfl rfl rfl (by omega) | exact .sliceL tab_ok rfl rfl rfl (by omega) | (first | exact .indexAddr tab_ok rfl rfl rfl rfl (by omega) | exact .indexAddrN tab_ok rfl rfl rfl rfl (by omega) | exact .indexAddrI tab_ok rfl rfl rfl rfl (toNatLit _) (by decide) (by omega) | exact .indexAddrNI tab_ok rfl rfl rfl rfl (toNatLit _) (by decide) (by omega) | exact .ldR tab_ok rfl rfl hr1 (List.getElem?_eq_getElem (by omega)) | exact .ldR tab_ok rfl rfl hr2 (List.getElem?_eq_getElem (by omega)) | exact ldB tab_ok rfl rfl hb1 (by omega) | exact ldB tab_ok rfl rfl hb2 (by omega)) | exact .sliceHI tab_ok rfl rfl rfl (toNatLit _) (by decide) (by omega) | exact .sliceLI tab_ok rfl rfl rfl (toNatLit _) (by decide) (by omega) | (apply PureAt.ldA tab_ok rfl rfl; (focus repeat first | exact .head _ | apply List.Mem.tail); rfl; rfl) | exact .ldro tab_ok rfl rfl (by assumption)); rfl; rfl; rfl))
  (refine VX.call rfl rfl rfl rfl rfl rfl (fun _ _ => by simp) (fun L hL => get_ok (hr1.ent hL) 36 4 (by omega) (by decide) (by omega)) rfl (FloatX.alloc sb_90 rfl) Ent.refl rfl rfl rfl ?_)
  (repeat (apply VX.take rfl rfl rfl rfl; (first | (apply PureAt.ar64 rfl rfl rfl; omega) | exact .eval tab_ok rfl | (apply PureAt.ld tab_ok rfl rfl; (focus repeat first | exact .head _ | apply List.Mem.tail); rfl) | (apply PureAt.shr rfl rfl (by decide) (by decide)) | (apply PureAt.shr rfl rfl (by omega) (by simp only [IntKind.bits]; omega)) | exact .fieldAddrA tab_ok rfl rfl | exact .sliceLH tab_ok rfl rfl rfl rfl (by omega) (by omega) | exact .sliceH tab_ok rfl rfl rfl (by omega) | exact .sliceL tab_ok rfl rfl rfl (by omega) | (first | exact .indexAddr tab_ok rfl rfl rfl rfl (by omega) | exact .indexAddrN tab_ok rfl rfl rfl rfl (by omega) | exact .indexAddrI tab_ok rfl rfl rfl rfl (toNatLit _) (by decide) (by omega) | exact .indexAddrNI tab_ok rfl rfl rfl rfl (toNatLit _) (by decide) (by omega) | exact .ldR tab_ok rfl rfl hr1 (List.getElem?_eq_getElem (by omega)) | exact .ldR tab_ok rfl rfl hr2 (List.getElem?_eq_getElem (by omega)) | exact ldB tab_ok rfl rfl hb1 (by omega) | exact ldB tab_ok rfl rfl hb2 (by omega)) | exact .sliceHI tab_ok rfl rfl rfl (toNatLit _) (by decide) (by omega) | exact .sliceLI tab_ok rfl rfl rfl (toNatLit _) (by decide) (by omega) | (apply PureAt.ldA tab_ok rfl rfl; (focus repeat first | exact .head _ | apply List.Mem.tail); rfl; rfl) | exact .ldro tab_ok rfl rfl (by assumption)); rfl; rfl; rfl))
  (refine VX.call rfl rfl rfl rfl rfl rfl (fun _ _ => by simp) (fun L hL => get_ok (hr1.ent hL) 44 4 (by omega) (by decide) (by omega)) rfl (FloatX.alloc sb_90 rfl) Ent.refl rfl rfl rfl ?_)
  (repeat (apply VX.take rfl rfl rfl rfl; (first | (apply PureAt.ar64 rfl rfl rfl; omega) | exact .eval tab_ok rfl | (apply PureAt.ld tab_ok rfl rfl; (focus repeat first | exact .head _ | apply List.Mem.tail); rfl) | (apply PureAt.shr rfl rfl (by decide) (by decide)) | (apply PureAt.shr rfl rfl (by omega) (by simp only [IntKind.bits]; omega)) | exact .fieldAddrA tab_ok rfl rfl | exact .sliceLH tab_ok rfl rfl rfl rfl (by omega) (by omega) | exact .sliceH tab_ok rfl rfl rfl (by omega) | exact .sliceL tab_ok rfl rfl rfl (by omega) | (first | exact .indexAddr tab_ok rfl rfl rfl rfl (by omega) | exact .indexAddrN tab_ok rfl rfl rfl rfl (by omega) | exact .indexAddrI tab_ok rfl rfl rfl rfl (toNatLit _) (by decide) (by omega) | exact .indexAddrNI tab_ok rfl rfl rfl rfl (toNatLit _) (by decide) (by omega) | exact .ldR tab_ok rfl rfl hr1 (List.getElem?_eq_getElem (by omega)) | exact .ldR tab_ok rfl rfl hr2 (List.getElem?_eq_getElem (by omega)) | exact ldB tab_ok rfl rfl hb1 (by omega) | exact ldB tab_ok rfl rfl hb2 (by omega)) | exact .sliceHI tab_ok rfl rfl rfl (toNatLit _) (by decide) (by omega) | exact .sliceLI tab_ok rfl rfl rfl (toNatLit _) (by decide) (by omega) | (apply PureAt.ldA tab_ok rfl rfl; (focus repeat first | exact .head _ | apply List.Mem.tail); rfl; rfl) | exact .ldro tab_ok rfl rfl (by assumption)); rfl; rfl; rfl))
  refine VX.re 20 (.int .i64 (HdrD.parse2 l).index) rfl (by rw [i64_nat (hlt 24 4)]; rfl) rfl rfl ?_
  refine VX.re 23 (.int .i64 (HdrD.parse2 l).count) rfl (by rw [i64_nat (hlt 28 4)]; rfl) rfl rfl ?_
  refine VX.re 26 (.int .i64 (HdrD.parse2 l).member) rfl (by rw [i64_nat (hlt 32 4)]; rfl) rfl rfl ?_
  refine VX.re 29 (.int .i64 (HdrD.parse2 l).row) rfl (by rw [i64_nat (hlt 36 4)]; rfl) rfl rfl ?_
  refine VX.re 36 (.int .u32 (HdrD.parse2 l).sum) rfl (by rw [u32_nat (hlt 44 4)]; rfl) rfl rfl ?_
  (apply VX.take rfl rfl rfl rfl; apply PureAt.build sb_90 rfl; (simp [buildX, setL, Value.cells]; rfl); rfl; rfl; rfl)
  refine VX.float rfl rfl (FloatX.alloc sb_90 rfl) Ent.refl ?_
  intro nh
  (first | refine VO.step rfl rfl ?_ | refine VD.end rfl rfl rfl ?_ | refine VD.mid rfl rfl rfl ?_)
  refine OpV.stA (vs := (HdrD.parse2 l).cells) tab_ok rfl rfl rfl rfl (hdr_one _) (by (repeat first | exact .head | apply Hole.tail)) (by simp) ?_
  refine VD.ent (Ent.re (L := Row nh 90 (HdrD.parse2 l).cells :: Row nz 90 zeroH.cells :: R)) ?_
  (refine w ?_; repeat ((first | refine VO.step rfl rfl ?_ | refine VD.end rfl rfl rfl ?_ | refine VD.mid rfl rfl rfl ?_); refine OpV.box rfl rfl rfl ?_; intro _; refine w ?_))
  ((first | refine VO.step rfl rfl ?_ | refine VD.end rfl rfl rfl ?_ | refine VD.mid rfl rfl rfl ?_); refine OpV.call rfl rfl (fun _ _ => by simp) (rench_ok (HdrD.parse2 l) (hdr_fit2 l)) Ent.re rfl ?_)
  rintro ⟨a1, c1⟩ -
  refine VO.know (p := a1 = none → (HdrD.parse2 l).enc.2.length = 0) (fun w hw => hw.ownNone (.head _)) ?_
  intro hn
  (refine w ?_; repeat ((first | refine VO.step rfl rfl ?_ | refine VD.end rfl rfl rfl ?_ | refine VD.mid rfl rfl rfl ?_); refine OpV.box rfl rfl rfl ?_; intro _; refine w ?_))
  ((first | refine VO.split rfl rfl rfl ?_ ?_ | refine VD.split rfl rfl rfl ?_ ?_) <;> intro hb)
  · have hb : ¬ (HdrD.parse2 l).good := enc_bad.1 (by simpa using hb)
    rw [if_neg (fun h => hb h.1)]
    (refine w ?_; repeat ((first | refine VO.step rfl rfl ?_ | refine VD.end rfl rfl rfl ?_ | refine VD.mid rfl rfl rfl ?_); refine OpV.box rfl rfl rfl ?_; intro _; refine w ?_))
    (apply VO.pure rfl rfl; apply PureAt.build sb_90 (pv := []) rfl; rfl; rfl)
    (refine w ?_; repeat ((first | refine VO.step rfl rfl ?_ | refine VD.end rfl rfl rfl ?_ | refine VD.mid rfl rfl rfl ?_); refine OpV.box rfl rfl rfl ?_; intro _; refine w ?_))
    (first | refine VO.step rfl rfl ?_ | refine VD.end rfl rfl rfl ?_ | refine VD.mid rfl rfl rfl ?_)
    refine OpV.stA (vs := zeroH.cells) tab_ok rfl rfl rfl rfl (hdr_one _) (by (repeat first | exact .head | apply Hole.tail)) (by simp) ?_
    (refine w ?_; repeat ((first | refine VO.step rfl rfl ?_ | refine VD.end rfl rfl rfl ?_ | refine VD.mid rfl rfl rfl ?_); refine OpV.box rfl rfl rfl ?_; intro _; refine w ?_))
    exact VE.results2 (.inl rfl) () rfl (ResIs.agg (vs := zeroH.cells) tab_ok rfl rfl (by (focus repeat first | exact .head _ | apply List.Mem.tail)) rfl rfl) (.tmp rfl) trivial rfl (Ent.re (L := R))
  have hg : (HdrD.parse2 l).good := by
    have hb := hb
    by_cases hg : (HdrD.parse2 l).good
    · exact hg
    · have := enc_bad.2 hg; simp at hb; exact absurd hb this
  (refine w ?_; repeat ((first | refine VO.step rfl rfl ?_ | refine VD.end rfl rfl rfl ?_ | refine VD.mid rfl rfl rfl ?_); refine OpV.box rfl rfl rfl ?_; intro _; refine w ?_))
  (first | refine VO.pure rfl rfl (PureAt.toStr (l := (HdrD.parse2 l).enc.2) tab_ok rfl rfl rfl rfl (own_rds hn (.head _)) rfl) rfl ?_ | refine VD.take rfl rfl rfl (PureAt.toStr (l := (HdrD.parse2 l).enc.2) tab_ok rfl rfl rfl rfl (own_rds hn (.head _)) rfl) rfl ?_ | refine VQ.pure rfl rfl (PureAt.toStr (l := (HdrD.parse2 l).enc.2) tab_ok rfl rfl rfl rfl (own_rds hn (.head _)) rfl) rfl ?_ | refine VD.end rfl rfl rfl (OpV.pure (PureAt.toStr (l := (HdrD.parse2 l).enc.2) tab_ok rfl rfl rfl rfl (own_rds hn (.head _)) rfl) rfl ?_))
  (refine w ?_; repeat ((first | refine VO.step rfl rfl ?_ | refine VD.end rfl rfl rfl ?_ | refine VD.mid rfl rfl rfl ?_); refine OpV.box rfl rfl rfl ?_; intro _; refine w ?_))
  (first | refine VO.pure rfl rfl (PureAt.toStr (l := l) tab_ok rfl rfl rfl rfl (hr.ent (Ent.drop (Ent.drop (Ent.drop Ent.refl)))) rfl) rfl ?_ | refine VD.take rfl rfl rfl (PureAt.toStr (l := l) tab_ok rfl rfl rfl rfl (hr.ent (Ent.drop (Ent.drop (Ent.drop Ent.refl)))) rfl) rfl ?_ | refine VQ.pure rfl rfl (PureAt.toStr (l := l) tab_ok rfl rfl rfl rfl (hr.ent (Ent.drop (Ent.drop (Ent.drop Ent.refl)))) rfl) rfl ?_ | refine VD.end rfl rfl rfl (OpV.pure (PureAt.toStr (l := l) tab_ok rfl rfl rfl rfl (hr.ent (Ent.drop (Ent.drop (Ent.drop Ent.refl)))) rfl) rfl ?_))
  (first | refine VO.pure rfl rfl (PureAt.strEq (b := l) tab_ok rfl rfl rfl rfl) rfl ?_ | refine VD.take rfl rfl rfl (PureAt.strEq (b := l) tab_ok rfl rfl rfl rfl) rfl ?_ | refine VQ.pure rfl rfl (PureAt.strEq (b := l) tab_ok rfl rfl rfl rfl) rfl ?_ | refine VD.end rfl rfl rfl (OpV.pure (PureAt.strEq (b := l) tab_ok rfl rfl rfl rfl) rfl ?_))
  (refine w ?_; repeat ((first | refine VO.step rfl rfl ?_ | refine VD.end rfl rfl rfl ?_ | refine VD.mid rfl rfl rfl ?_); refine OpV.box rfl rfl rfl ?_; intro _; refine w ?_))
  (refine VC.cond rfl rfl ?_ ?_ <;> intro hc)
  · have hne : ¬ (HdrD.parse2 l).enc.2 = l := by simpa using hc
    rw [if_neg (fun h => hne h.2)]
    (refine w ?_; repeat ((first | refine VO.step rfl rfl ?_ | refine VD.end rfl rfl rfl ?_ | refine VD.mid rfl rfl rfl ?_); refine OpV.box rfl rfl rfl ?_; intro _; refine w ?_))
    (apply VO.pure rfl rfl; apply PureAt.build sb_90 (pv := []) rfl; rfl; rfl)
    (refine w ?_; repeat ((first | refine VO.step rfl rfl ?_ | refine VD.end rfl rfl rfl ?_ | refine VD.mid rfl rfl rfl ?_); refine OpV.box rfl rfl rfl ?_; intro _; refine w ?_))
    (first | refine VO.step rfl rfl ?_ | refine VD.end rfl rfl rfl ?_ | refine VD.mid rfl rfl rfl ?_)
    refine OpV.stA (vs := zeroH.cells) tab_ok rfl rfl rfl rfl (hdr_one _) (by (repeat first | exact .head | apply Hole.tail)) (by simp) ?_
    (refine w ?_; repeat ((first | refine VO.step rfl rfl ?_ | refine VD.end rfl rfl rfl ?_ | refine VD.mid rfl rfl rfl ?_); refine OpV.box rfl rfl rfl ?_; intro _; refine w ?_))
    exact VE.results2 (.inl rfl) () rfl (ResIs.agg (vs := zeroH.cells) tab_ok rfl rfl (by (focus repeat first | exact .head _ | apply List.Mem.tail)) rfl rfl) (.tmp rfl) trivial rfl (Ent.re (L := R))
  · have he : (HdrD.parse2 l).enc.2 = l := by simpa using hc
    rw [if_pos ⟨hg, he⟩]
    (refine w ?_; repeat ((first | refine VO.step rfl rfl ?_ | refine VD.end rfl rfl rfl ?_ | refine VD.mid rfl rfl rfl ?_); refine OpV.box rfl rfl rfl ?_; intro _; refine w ?_))
    (first | refine VO.step rfl rfl ?_ | refine VD.end rfl rfl rfl ?_ | refine VD.mid rfl rfl rfl ?_)
    refine OpV.stA (vs := (HdrD.parse2 l).cells) tab_ok rfl rfl rfl rfl (hdr_one _) (by (repeat first | exact .head | apply Hole.tail)) (by simp) ?_
    (refine w ?_; repeat ((first | refine VO.step rfl rfl ?_ | refine VD.end rfl rfl rfl ?_ | refine VD.mid rfl rfl rfl ?_); refine OpV.box rfl rfl rfl ?_; intro _; refine w ?_))
    exact VE.results2 (.inl rfl) () rfl (ResIs.agg (vs := (HdrD.parse2 l).cells) tab_ok rfl rfl (by (focus repeat first | exact .head _ | apply List.Mem.tail)) rfl rfl) (.tmp rfl) trivial rfl (Ent.re (L := R))
set_option maxHeartbeats 2000000 in
theorem rdecc_ok {W : World} {R : List SProp} {ao : Option Addr} {cap : Nat} {l : List UInt8} (hr : Rds W R 1 ao l.length (bytes l)) (hcap : l.length ≤ cap) :
    Does1 W Try.prog 84 [.slice ao l.length cap] R (.tuple #[.agg (CmtD.dec l).2.cells.toArray, .int .i64 (CmtD.dec l).1]) R := by
  (refine Does.enter Try.func84 Try.ntmps84 rfl rfl ?_)
  (refine w ?_; repeat ((first | refine VO.step rfl rfl ?_ | refine VD.end rfl rfl rfl ?_ | refine VD.mid rfl rfl rfl ?_); refine OpV.box rfl rfl rfl ?_; intro _; refine w ?_))
  ((first | refine VO.step rfl rfl ?_ | refine VD.end rfl rfl rfl ?_ | refine VD.mid rfl rfl rfl ?_); refine OpV.allocS sb_95 rfl ?_; intro nz)
  (refine w ?_; repeat ((first | refine VO.step rfl rfl ?_ | refine VD.end rfl rfl rfl ?_ | refine VD.mid rfl rfl rfl ?_); refine OpV.box rfl rfl rfl ?_; intro _; refine w ?_))
  have hr1 := hr.ent (H := Row nz 95 zeroC.cells :: R) (Ent.drop Ent.refl)
  ((first | refine VO.step rfl rfl ?_ | refine VD.end rfl rfl rfl ?_ | refine VD.mid rfl rfl rfl ?_); refine OpV.call rfl rfl (fun _ _ => by simp) (rlooks_ok hr1 hcap 2) Ent.refl rfl ?_)
  intro _ _
  (refine w ?_; repeat ((first | refine VO.step rfl rfl ?_ | refine VD.end rfl rfl rfl ?_ | refine VD.mid rfl rfl rfl ?_); refine OpV.box rfl rfl rfl ?_; intro _; refine w ?_))
  (refine VC.cond rfl rfl ?_ ?_ <;> intro hc)
  · have hl : looksM l 2 ≠ 0 := by simpa using hc
    rw [cmt_decB hl]
    (refine w ?_; repeat ((first | refine VO.step rfl rfl ?_ | refine VD.end rfl rfl rfl ?_ | refine VD.mid rfl rfl rfl ?_); refine OpV.box rfl rfl rfl ?_; intro _; refine w ?_))
    (apply VO.pure rfl rfl; apply PureAt.build sb_95 (pv := []) rfl; rfl; rfl)
    (refine w ?_; repeat ((first | refine VO.step rfl rfl ?_ | refine VD.end rfl rfl rfl ?_ | refine VD.mid rfl rfl rfl ?_); refine OpV.box rfl rfl rfl ?_; intro _; refine w ?_))
    (first | refine VO.step rfl rfl ?_ | refine VD.end rfl rfl rfl ?_ | refine VD.mid rfl rfl rfl ?_)
    refine OpV.stA (vs := zeroC.cells) tab_ok rfl rfl rfl rfl (cmt_one _) (by (repeat first | exact .head | apply Hole.tail)) (by simp) ?_
    (refine w ?_; repeat ((first | refine VO.step rfl rfl ?_ | refine VD.end rfl rfl rfl ?_ | refine VD.mid rfl rfl rfl ?_); refine OpV.box rfl rfl rfl ?_; intro _; refine w ?_))
    exact VE.results2 (.inl rfl) () rfl (ResIs.agg (vs := zeroC.cells) tab_ok rfl rfl (by (focus repeat first | exact .head _ | apply List.Mem.tail)) rfl rfl) (.tmp rfl) trivial rfl (Ent.re (L := R))
  have hl : looksM l 2 = 0 := by simpa using hc
  have hlen := looks_len hl
  rw [cmt_dec2 hl]
  have hlt := numAt_lt l
  (refine w ?_; repeat ((first | refine VO.step rfl rfl ?_ | refine VD.end rfl rfl rfl ?_ | refine VD.mid rfl rfl rfl ?_); refine OpV.box rfl rfl rfl ?_; intro _; refine w ?_))
  ((first | refine VO.step rfl rfl ?_ | refine VD.end rfl rfl rfl ?_ | refine VD.mid rfl rfl rfl ?_); refine OpV.call rfl rfl (fun _ _ => by simp) (get_ok hr1 8 8 (by omega) (by decide) (by omega)) Ent.refl rfl ?_)
  intro _ _
  (refine w ?_; repeat ((first | refine VO.step rfl rfl ?_ | refine VD.end rfl rfl rfl ?_ | refine VD.mid rfl rfl rfl ?_); refine OpV.box rfl rfl rfl ?_; intro _; refine w ?_))
  ((first | refine VO.step rfl rfl ?_ | refine VD.end rfl rfl rfl ?_ | refine VD.mid rfl rfl rfl ?_); refine OpV.call rfl rfl (fun _ _ => by simp) (get_ok hr1 16 8 (by omega) (by decide) (by omega)) Ent.refl rfl ?_)
  intro _ _
  (refine w ?_; repeat ((first | refine VO.step rfl rfl ?_ | refine VD.end rfl rfl rfl ?_ | refine VD.mid rfl rfl rfl ?_); refine OpV.box rfl rfl rfl ?_; intro _; refine w ?_))
  ((first | refine VO.step rfl rfl ?_ | refine VD.end rfl rfl rfl ?_ | refine VD.mid rfl rfl rfl ?_); refine OpV.call rfl rfl (fun _ _ => by simp) (get_ok hr1 24 4 (by omega) (by decide) (by omega)) Ent.refl rfl ?_)
  intro _ _
  (refine w ?_; repeat ((first | refine VO.step rfl rfl ?_ | refine VD.end rfl rfl rfl ?_ | refine VD.mid rfl rfl rfl ?_); refine OpV.box rfl rfl rfl ?_; intro _; refine w ?_))
  ((first | refine VO.step rfl rfl ?_ | refine VD.end rfl rfl rfl ?_ | refine VD.mid rfl rfl rfl ?_); refine OpV.call rfl rfl (fun _ _ => by simp) (get_ok hr1 28 4 (by omega) (by decide) (by omega)) Ent.refl rfl ?_)
  intro _ _
  (refine w ?_; repeat ((first | refine VO.step rfl rfl ?_ | refine VD.end rfl rfl rfl ?_ | refine VD.mid rfl rfl rfl ?_); refine OpV.box rfl rfl rfl ?_; intro _; refine w ?_))
  refine VO.re 20 (.int .i64 (CmtD.parse l).count) rfl (by rw [i64_nat (hlt 24 4)]; rfl) ?_
  refine VO.re 23 (.int .u32 (CmtD.parse l).sum) rfl (by rw [u32_nat (hlt 28 4)]; rfl) ?_
  (apply VO.pure rfl rfl; apply PureAt.build sb_95 rfl; (simp [buildX, setL, Value.cells]; rfl); rfl)
  (refine w ?_; repeat ((first | refine VO.step rfl rfl ?_ | refine VD.end rfl rfl rfl ?_ | refine VD.mid rfl rfl rfl ?_); refine OpV.box rfl rfl rfl ?_; intro _; refine w ?_))
  ((first | refine VO.step rfl rfl ?_ | refine VD.end rfl rfl rfl ?_ | refine VD.mid rfl rfl rfl ?_); refine OpV.allocS sb_95 rfl ?_; intro nh)
  (first | refine VO.step rfl rfl ?_ | refine VD.end rfl rfl rfl ?_ | refine VD.mid rfl rfl rfl ?_)
  refine OpV.stA (vs := (CmtD.parse l).cells) tab_ok rfl rfl rfl rfl (cmt_one _) (by (repeat first | exact .head | apply Hole.tail)) (by simp) ?_
  refine VO.ent (Ent.re (L := Row nh 95 (CmtD.parse l).cells :: Row nz 95 zeroC.cells :: R)) ?_
  (refine w ?_; repeat ((first | refine VO.step rfl rfl ?_ | refine VD.end rfl rfl rfl ?_ | refine VD.mid rfl rfl rfl ?_); refine OpV.box rfl rfl rfl ?_; intro _; refine w ?_))
  ((first | refine VO.step rfl rfl ?_ | refine VD.end rfl rfl rfl ?_ | refine VD.mid rfl rfl rfl ?_); refine OpV.call rfl rfl (fun _ _ => by simp) (rencc_ok (CmtD.parse l) (cmt_fit l)) Ent.re rfl ?_)
  rintro ⟨a1, c1⟩ -
  refine VO.know (p := a1 = none → (CmtD.parse l).enc.2.length = 0) (fun w hw => hw.ownNone (.head _)) ?_
  intro hn
  (refine w ?_; repeat ((first | refine VO.step rfl rfl ?_ | refine VD.end rfl rfl rfl ?_ | refine VD.mid rfl rfl rfl ?_); refine OpV.box rfl rfl rfl ?_; intro _; refine w ?_))
  ((first | refine VO.split rfl rfl rfl ?_ ?_ | refine VD.split rfl rfl rfl ?_ ?_) <;> intro hb)
  · have hb : ¬ (CmtD.parse l).good := encc_bad.1 (by simpa using hb)
    rw [if_neg (fun h => hb h.1)]
    (refine w ?_; repeat ((first | refine VO.step rfl rfl ?_ | refine VD.end rfl rfl rfl ?_ | refine VD.mid rfl rfl rfl ?_); refine OpV.box rfl rfl rfl ?_; intro _; refine w ?_))
    (apply VO.pure rfl rfl; apply PureAt.build sb_95 (pv := []) rfl; rfl; rfl)
    (refine w ?_; repeat ((first | refine VO.step rfl rfl ?_ | refine VD.end rfl rfl rfl ?_ | refine VD.mid rfl rfl rfl ?_); refine OpV.box rfl rfl rfl ?_; intro _; refine w ?_))
    (first | refine VO.step rfl rfl ?_ | refine VD.end rfl rfl rfl ?_ | refine VD.mid rfl rfl rfl ?_)
    refine OpV.stA (vs := zeroC.cells) tab_ok rfl rfl rfl rfl (cmt_one _) (by (repeat first | exact .head | apply Hole.tail)) (by simp) ?_
    (refine w ?_; repeat ((first | refine VO.step rfl rfl ?_ | refine VD.end rfl rfl rfl ?_ | refine VD.mid rfl rfl rfl ?_); refine OpV.box rfl rfl rfl ?_; intro _; refine w ?_))
    exact VE.results2 (.inl rfl) () rfl (ResIs.agg (vs := zeroC.cells) tab_ok rfl rfl (by (focus repeat first | exact .head _ | apply List.Mem.tail)) rfl rfl) (.tmp rfl) trivial rfl (Ent.re (L := R))
  have hg : (CmtD.parse l).good := by
    have hb := hb
    by_cases hg : (CmtD.parse l).good
    · exact hg
    · have := encc_bad.2 hg; simp at hb; exact absurd hb this
  (refine w ?_; repeat ((first | refine VO.step rfl rfl ?_ | refine VD.end rfl rfl rfl ?_ | refine VD.mid rfl rfl rfl ?_); refine OpV.box rfl rfl rfl ?_; intro _; refine w ?_))
  (first | refine VO.pure rfl rfl (PureAt.toStr (l := (CmtD.parse l).enc.2) tab_ok rfl rfl rfl rfl (own_rds hn (.head _)) rfl) rfl ?_ | refine VD.take rfl rfl rfl (PureAt.toStr (l := (CmtD.parse l).enc.2) tab_ok rfl rfl rfl rfl (own_rds hn (.head _)) rfl) rfl ?_ | refine VQ.pure rfl rfl (PureAt.toStr (l := (CmtD.parse l).enc.2) tab_ok rfl rfl rfl rfl (own_rds hn (.head _)) rfl) rfl ?_ | refine VD.end rfl rfl rfl (OpV.pure (PureAt.toStr (l := (CmtD.parse l).enc.2) tab_ok rfl rfl rfl rfl (own_rds hn (.head _)) rfl) rfl ?_))
  (refine w ?_; repeat ((first | refine VO.step rfl rfl ?_ | refine VD.end rfl rfl rfl ?_ | refine VD.mid rfl rfl rfl ?_); refine OpV.box rfl rfl rfl ?_; intro _; refine w ?_))
  (first | refine VO.pure rfl rfl (PureAt.toStr (l := l) tab_ok rfl rfl rfl rfl (hr.ent (Ent.drop (Ent.drop (Ent.drop Ent.refl)))) rfl) rfl ?_ | refine VD.take rfl rfl rfl (PureAt.toStr (l := l) tab_ok rfl rfl rfl rfl (hr.ent (Ent.drop (Ent.drop (Ent.drop Ent.refl)))) rfl) rfl ?_ | refine VQ.pure rfl rfl (PureAt.toStr (l := l) tab_ok rfl rfl rfl rfl (hr.ent (Ent.drop (Ent.drop (Ent.drop Ent.refl)))) rfl) rfl ?_ | refine VD.end rfl rfl rfl (OpV.pure (PureAt.toStr (l := l) tab_ok rfl rfl rfl rfl (hr.ent (Ent.drop (Ent.drop (Ent.drop Ent.refl)))) rfl) rfl ?_))
  (first | refine VO.pure rfl rfl (PureAt.strEq (b := l) tab_ok rfl rfl rfl rfl) rfl ?_ | refine VD.take rfl rfl rfl (PureAt.strEq (b := l) tab_ok rfl rfl rfl rfl) rfl ?_ | refine VQ.pure rfl rfl (PureAt.strEq (b := l) tab_ok rfl rfl rfl rfl) rfl ?_ | refine VD.end rfl rfl rfl (OpV.pure (PureAt.strEq (b := l) tab_ok rfl rfl rfl rfl) rfl ?_))
  (refine w ?_; repeat ((first | refine VO.step rfl rfl ?_ | refine VD.end rfl rfl rfl ?_ | refine VD.mid rfl rfl rfl ?_); refine OpV.box rfl rfl rfl ?_; intro _; refine w ?_))
  (refine VC.cond rfl rfl ?_ ?_ <;> intro hc)
  · have hne : ¬ (CmtD.parse l).enc.2 = l := by simpa using hc
    rw [if_neg (fun h => hne h.2)]
    (refine w ?_; repeat ((first | refine VO.step rfl rfl ?_ | refine VD.end rfl rfl rfl ?_ | refine VD.mid rfl rfl rfl ?_); refine OpV.box rfl rfl rfl ?_; intro _; refine w ?_))
    (apply VO.pure rfl rfl; apply PureAt.build sb_95 (pv := []) rfl; rfl; rfl)
    (refine w ?_; repeat ((first | refine VO.step rfl rfl ?_ | refine VD.end rfl rfl rfl ?_ | refine VD.mid rfl rfl rfl ?_); refine OpV.box rfl rfl rfl ?_; intro _; refine w ?_))
    (first | refine VO.step rfl rfl ?_ | refine VD.end rfl rfl rfl ?_ | refine VD.mid rfl rfl rfl ?_)
    refine OpV.stA (vs := zeroC.cells) tab_ok rfl rfl rfl rfl (cmt_one _) (by (repeat first | exact .head | apply Hole.tail)) (by simp) ?_
    (refine w ?_; repeat ((first | refine VO.step rfl rfl ?_ | refine VD.end rfl rfl rfl ?_ | refine VD.mid rfl rfl rfl ?_); refine OpV.box rfl rfl rfl ?_; intro _; refine w ?_))
    exact VE.results2 (.inl rfl) () rfl (ResIs.agg (vs := zeroC.cells) tab_ok rfl rfl (by (focus repeat first | exact .head _ | apply List.Mem.tail)) rfl rfl) (.tmp rfl) trivial rfl (Ent.re (L := R))
  · have he : (CmtD.parse l).enc.2 = l := by simpa using hc
    rw [if_pos ⟨hg, he⟩]
    (refine w ?_; repeat ((first | refine VO.step rfl rfl ?_ | refine VD.end rfl rfl rfl ?_ | refine VD.mid rfl rfl rfl ?_); refine OpV.box rfl rfl rfl ?_; intro _; refine w ?_))
    (first | refine VO.step rfl rfl ?_ | refine VD.end rfl rfl rfl ?_ | refine VD.mid rfl rfl rfl ?_)
    refine OpV.stA (vs := (CmtD.parse l).cells) tab_ok rfl rfl rfl rfl (cmt_one _) (by (repeat first | exact .head | apply Hole.tail)) (by simp) ?_
    (refine w ?_; repeat ((first | refine VO.step rfl rfl ?_ | refine VD.end rfl rfl rfl ?_ | refine VD.mid rfl rfl rfl ?_); refine OpV.box rfl rfl rfl ?_; intro _; refine w ?_))
    exact VE.results2 (.inl rfl) () rfl (ResIs.agg (vs := (CmtD.parse l).cells) tab_ok rfl rfl (by (focus repeat first | exact .head _ | apply List.Mem.tail)) rfl rfl) (.tmp rfl) trivial rfl (Ent.re (L := R))
end Go.Proofs.Ytlojjlbngnaphaa

/-! Text Lp. -/
/- Raw bytes, fills, and the law's own call of a packer. -/
set_option maxRecDepth 8000
set_option linter.unusedVariables false
set_option linter.unusedSimpArgs false
set_option linter.unusedSectionVars false
namespace Go.Proofs.Ytlojjlbngnaphaa
open Go.RowKit Go.Sl

/-- What was put, and a few bytes behind it. -/
def Pk.raw (k : Pk) (l : List UInt8) : Pk := if (k.room l.length).bad = 0 then { k with had := k.had ++ l } else k.room l.length
def Pk.fill (k : Pk) (n : Int) (c : UInt8) : Pk := if n ≤ 0 then k else if (k.room n).bad = 0 then { k with had := k.had ++ List.replicate n.toNat c } else k.room n

end Go.Proofs.Ytlojjlbngnaphaa

/-! Text Lq. -/
/- Scripts of calls: the law's data, 'much', 'puts'. -/
set_option maxRecDepth 8000
set_option linter.unusedVariables false
set_option linter.unusedSimpArgs false
set_option linter.unusedSectionVars false
namespace Go.Proofs.Ytlojjlbngnaphaa
open Go.RowKit Go.Sl

structure OpD where
  kind : Int
  v : Nat
  n : Int
  ao : Option Addr
  cap : Nat
  b : List UInt8
abbrev OpD.cells (o : OpD) : List Value := [.int .i64 o.kind, .int .u64 o.v, .int .i64 o.n, .slice o.ao o.b.length o.cap]
structure OpD.wf (W : World) (o : OpD) : Prop where
  v : o.v < 2 ^ 64
  n1 : -9223372036854775808 ≤ o.n
  n2 : o.n ≤ 9223372036854775807
  b : RdsA W 1 o.ao o.b.length (bytes o.b)
  big : o.b.length ≤ 140737488355328
end Go.Proofs.Ytlojjlbngnaphaa

/-! Text Ls. -/
/- The reader's Raw, Noughts, End. -/
set_option maxRecDepth 8000
set_option linter.unusedVariables false
set_option linter.unusedSimpArgs false
set_option linter.unusedSectionVars false
namespace Go.Proofs.Ytlojjlbngnaphaa
open Go.RowKit Go.Sl

/-- The first byte that is no nought. -/
def firstOdd (l : List UInt8) : Int := match l.findIdx? (· != 0) with
  | some j => j
  | none => -1

theorem Rk.number_bad {k : Rk} {n : Nat} (h : (k.short n).err ≠ 0) : k.number n = k.short n := by unfold Rk.number; rw [if_neg h]
theorem Rk.number_good {k : Rk} {n : Nat} (h : (k.short n).err = 0) : k.number n = { k with at_ := k.at_ + n } := by unfold Rk.number; rw [if_pos h]
def Rk.raw (k : Rk) (n : Int) : Rk := if n ≤ 0 then k else k.number n.toNat
def Rk.rawGot (k : Rk) (n : Int) : List UInt8 := if n ≤ 0 then [] else k.got n.toNat

theorem rraw_ok {W : World} {R : List SProp} (p : Nat) (k : Rk) (n : Int) :
    Does W Try.prog 105 [.pointer (some ⟨p, 0, none⟩), .int .i64 n] (ReaderR p k :: R) (β := Option Addr × Nat) (fun _ => True) (fun x => .slice x.1 (k.rawGot n).length x.2)
      (fun x => Own 5 1 (.slice x.1 (k.rawGot n).length x.2) (k.rawGot n).length (bytes (k.rawGot n)) :: ReaderR p (k.raw n) :: R) := by
  (refine Does.enter Try.func105 Try.ntmps105 rfl rfl ?_)
  refine VC.know (fun w => ReaderR.know) ?_
  intro hk
  have ⟨h1, h2⟩ := hk
  (refine w ?_; repeat ((first | refine VO.step rfl rfl ?_ | refine VD.end rfl rfl rfl ?_ | refine VD.mid rfl rfl rfl ?_); refine OpV.box rfl rfl rfl ?_; intro _; refine w ?_))
  (refine VC.cond rfl rfl ?_ ?_ <;> intro hc)
  · have hn : n ≤ 0 := by simpa using hc
    (refine w ?_; repeat ((first | refine VO.step rfl rfl ?_ | refine VD.end rfl rfl rfl ?_ | refine VD.mid rfl rfl rfl ?_); refine OpV.box rfl rfl rfl ?_; intro _; refine w ?_))
    refine VE.done (none, 0) rfl trivial (by simp [Rk.rawGot, hn]) ?_
    simp only [Rk.rawGot, Rk.raw, hn, if_true]
    exact fun w hw => hw.ownNil _ _
  · have hn : ¬ n ≤ 0 := by simpa using hc
    obtain ⟨m, rfl⟩ : ∃ m : Nat, n = m := ⟨n.toNat, by omega⟩
    have e1 : k.rawGot m = k.got m := by unfold Rk.rawGot; rw [if_neg hn]; rfl
    have e2 : k.raw m = k.number m := by unfold Rk.raw; rw [if_neg hn]; rfl
    rw [e1, e2]
    (refine w ?_; repeat ((first | refine VO.step rfl rfl ?_ | refine VD.end rfl rfl rfl ?_ | refine VD.mid rfl rfl rfl ?_); refine OpV.box rfl rfl rfl ?_; intro _; refine w ?_))
    by_cases hg : (k.short m).err = 0
    · obtain ⟨hs, hb, hle⟩ := Rk.short_zero hg
      have hlen := Rk.got_length hg
      ((first | refine VO.step rfl rfl ?_ | refine VD.end rfl rfl rfl ?_ | refine VD.mid rfl rfl rfl ?_); refine OpV.call rfl rfl (fun _ _ => by simp) (next_good p k m hg) Ent.re rfl ?_)
      rintro ⟨ao, cap⟩ hcap
      refine VO.know (fun w hw => hw.ownNone (by (focus repeat first | exact .head _ | apply List.Mem.tail))) ?_
      intro hnone
      have hr := got_rds (W := W) (H := ReaderO p k ao cap R) hk hg hcap hnone (by (focus repeat first | exact .head _ | apply List.Mem.tail))
      ((first | refine VO.step rfl rfl ?_ | refine VD.end rfl rfl rfl ?_ | refine VD.mid rfl rfl rfl ?_); refine OpV.call rfl rfl (fun _ _ => by simp) (clone_ok hr (by omega)) Ent.re rfl ?_)
      rintro ⟨ao', cap'⟩ -
      (refine w ?_; repeat ((first | refine VO.step rfl rfl ?_ | refine VD.end rfl rfl rfl ?_ | refine VD.mid rfl rfl rfl ?_); refine OpV.box rfl rfl rfl ?_; intro _; refine w ?_))
      refine VE.done (ao', cap') rfl trivial (by rw [hlen]) ?_
      rw [hlen, Rk.number_good hg]
      exact fun w hw => (ReaderR.shut (k := { k with at_ := k.at_ + m }) ⟨by simp only; omega, h2⟩ w (hw.reord (L := Row p 186 [.slice ao k.b.length cap, .int .i64 ((k.at_ + m : Nat) : Int), .int .u16 k.err, .int .i64 k.wh] :: Own 5 1 (.slice ao k.b.length cap) k.b.length (bytes k.b) :: Own 5 1 (.slice ao' m cap') m (bytes (k.got m)) :: R) (by (repeat first | exact .refl | (apply Reord.cons; focus repeat first | exact .head | apply Del.tail) | exact .nil | apply Reord.drop)))).swap
    · have hgot : k.got m = [] := by unfold Rk.got; rw [if_neg hg]
      (((first | refine VO.step rfl rfl ?_ | refine VD.end rfl rfl rfl ?_ | refine VD.mid rfl rfl rfl ?_); refine OpV.call rfl rfl (fun _ _ => by simp) (next_bad p k m hg) Ent.re rfl ?_); intro _ _)
      (first | refine VO.step rfl rfl ?_ | refine VD.end rfl rfl rfl ?_ | refine VD.mid rfl rfl rfl ?_)
      have hr : Rds W (ReaderR p (k.short m) :: R) 1 none 0 (bytes []) := ⟨rfl, by simp [bytes], fun _ => rfl, fun _ _ _ h => by cases h⟩
      refine OpV.call rfl rfl (fun _ _ => by simp) (clone_ok hr (by decide)) Ent.refl rfl ?_
      rintro ⟨ao', cap'⟩ -
      refine VO.obtain (fun w hw => by
        obtain ⟨x, h⟩ := ReaderR.open hw.swap
        exact ⟨x, h⟩) ?_
      rintro ⟨⟨ao, cap⟩, hk'⟩
      have ⟨h1', h2'⟩ := hk'
      (refine w ?_; repeat ((first | refine VO.step rfl rfl ?_ | refine VD.end rfl rfl rfl ?_ | refine VD.mid rfl rfl rfl ?_); refine OpV.box rfl rfl rfl ?_; intro _; refine w ?_))
      refine VE.done (ao', cap') rfl trivial (by rw [hgot]; rfl) ?_
      rw [hgot, Rk.number_bad hg]
      exact fun w hw => (ReaderR.shut hk' w (hw.reord (by (repeat first | exact .refl | (apply Reord.cons; focus repeat first | exact .head | apply Del.tail) | exact .nil | apply Reord.drop)))).swap

def Rk.noughts (k : Rk) (n : Int) : Rk :=
  if n ≤ 0 then k else if (k.short n.toNat).err ≠ 0 then k.short n.toNat else
  if 0 ≤ firstOdd (k.got n.toNat) then { k with err := 12, wh := k.at_ + firstOdd (k.got n.toNat) } else { k with at_ := k.at_ + n.toNat }

end Go.Proofs.Ytlojjlbngnaphaa

/-! Text Ej. -/
/- The program's EncodeHeader, EncodeCommit, EncodeCheck. -/
set_option maxRecDepth 8000
set_option linter.unusedVariables false
set_option linter.unusedSimpArgs false
set_option linter.unusedSectionVars false
namespace Go.Proofs.Ytlojjlbngnaphaa
open Go.RowKit Go.Sl
attribute [local irreducible] Own

/-- Bytes that are read wherever they lie. -/
theorem rawR_ok {W : World} {R : List SProp} {ao : Option Addr} {cap n : Nat} {l : List UInt8} (p : Nat) (k : Pk) (hb : Rds W R 1 ao n (bytes l)) :
    Does1 W Try.prog 88 [.pointer (some ⟨p, 0, none⟩), .slice ao n cap] (PackerR p k :: R) (.tuple #[]) (PackerR p (k.raw l) :: R) := by
  have hl : l.length = n := by have := hb.len; simpa using this
  subst hl
  (refine Does.enter Try.func88 Try.ntmps88 rfl rfl ?_)
  refine VC.know (fun w => PackerR.know) ?_
  intro ⟨h1, h2, h3⟩
  (refine w ?_; repeat ((first | refine VO.step rfl rfl ?_ | refine VD.end rfl rfl rfl ?_ | refine VD.mid rfl rfl rfl ?_); refine OpV.box rfl rfl rfl ?_; intro _; refine w ?_))
  (((first | refine VO.step rfl rfl ?_ | refine VD.end rfl rfl rfl ?_ | refine VD.mid rfl rfl rfl ?_); refine OpV.call rfl rfl (fun _ _ => by simp) (room_ok p k l.length) Ent.re rfl ?_); intro _ _)
  (refine w ?_; repeat ((first | refine VO.step rfl rfl ?_ | refine VD.end rfl rfl rfl ?_ | refine VD.mid rfl rfl rfl ?_); refine OpV.box rfl rfl rfl ?_; intro _; refine w ?_))
  (refine VC.cond rfl rfl ?_ ?_ <;> intro hc)
  · have hr : (k.room l.length).bad = 0 := by simpa using hc
    obtain ⟨e1, e2, e3⟩ := Pk.room_zero hr
    rw [e1]
    refine VC.obtain (fun w => PackerR.open) ?_
    rintro ⟨⟨ao, cap⟩, -⟩
    (refine w ?_; repeat ((first | refine VO.step rfl rfl ?_ | refine VD.end rfl rfl rfl ?_ | refine VD.mid rfl rfl rfl ?_); refine OpV.box rfl rfl rfl ?_; intro _; refine w ?_))
    (first | refine VO.step rfl rfl ?_ | refine VD.end rfl rfl rfl ?_ | refine VD.mid rfl rfl rfl ?_)
    refine OpV.append st_55 rfl rfl (by (repeat first | exact .head | apply Hole.tail)) (fun w hw => (hb.sees hw.tail.tail).src st_55.und) (by simp only [maxLen]; omega) (by omega) rfl ?_
    intro ao' cap'
    (refine w ?_; repeat ((first | refine VO.step rfl rfl ?_ | refine VD.end rfl rfl rfl ?_ | refine VD.mid rfl rfl rfl ?_); refine OpV.box rfl rfl rfl ?_; intro _; refine w ?_))
    (refine VE.done1N rfl rfl ?_)
    rw [show k.raw l = { k with had := k.had ++ l } by unfold Pk.raw; rw [if_pos hr]]
    exact PackerR.shut' (k := { k with had := k.had ++ l }) ⟨by simp; omega, h2, h3⟩ (by simp) (by simp [bytes])
  · have hr : ¬ (k.room l.length).bad = 0 := by simpa using hc
    (refine w ?_; repeat ((first | refine VO.step rfl rfl ?_ | refine VD.end rfl rfl rfl ?_ | refine VD.mid rfl rfl rfl ?_); refine OpV.box rfl rfl rfl ?_; intro _; refine w ?_))
    (refine VE.done1N rfl rfl ?_)
    rw [show k.raw l = k.room l.length by unfold Pk.raw; rw [if_neg hr]]
    exact Ent.refl
theorem Pk.raw_good {k : Pk} {l : List UInt8} (h1 : k.bad = 0) (h2 : k.had.length + l.length ≤ k.size) : k.raw l = { k with had := k.had ++ l } := by
  have e : k.room l.length = k := by unfold Pk.room; rw [if_neg]; omega
  unfold Pk.raw; rw [e, if_pos h1]
theorem image_pad (k : Pk) : k.image = padTo k.size k.had := rfl

theorem written_ok {W : World} {R : List SProp} (kind : UInt8) (e s : Nat) (he : e < 2 ^ 64) (hs : s < 2 ^ 64) (rest : List UInt8) (hrest : rest.length ≤ 100) (g : FuncId) (hg : ∀ a w, (callFunc g a).run Try.prog w = .ok (.enter g a) w) (cap : Array Value)
    (spec : ∀ p, Does1 W Try.prog g (.pointer (some ⟨p, 0, none⟩) :: cap.toList) (PackerR p ⟨124, begunL kind.toNat e s, 0⟩ :: R) (.tuple #[]) (PackerR p ⟨124, begunL kind.toNat e s ++ rest, 0⟩ :: R)) :
    Does W Try.prog 66 [.int .u8 (kind.toNat : Int), .int .u64 e, .int .u64 s, .func (.func g) #[] cap] R (β := Option Addr × Nat) (fun _ => True) (fun x => .tuple #[.slice x.1 (sealS (sectB kind.toNat e s rest)).length x.2, .int .u16 0])
      (fun x => OwnB x (sealS (sectB kind.toNat e s rest)) :: R) := by
  have hlB := begunL_length kind.toNat e s
  have hk8 := kind.toNat_lt
  (refine Does.enter Try.func66 Try.ntmps66 rfl rfl ?_)
  (refine w ?_; repeat ((first | refine VO.step rfl rfl ?_ | refine VD.end rfl rfl rfl ?_ | refine VD.mid rfl rfl rfl ?_); refine OpV.box rfl rfl rfl ?_; intro _; refine w ?_))
  ((first | refine VO.step rfl rfl ?_ | refine VD.end rfl rfl rfl ?_ | refine VD.mid rfl rfl rfl ?_); refine OpV.call rfl rfl (fun _ _ => by simp) (new_ok 124 (by decide)) Ent.re rfl ?_)
  intro p _
  (refine w ?_; repeat ((first | refine VO.step rfl rfl ?_ | refine VD.end rfl rfl rfl ?_ | refine VD.mid rfl rfl rfl ?_); refine OpV.box rfl rfl rfl ?_; intro _; refine w ?_))
  ((first | refine VO.step rfl rfl ?_ | refine VD.end rfl rfl rfl ?_ | refine VD.mid rfl rfl rfl ?_); refine OpV.buildSlice1 st_55 rfl rfl (by first | (simp; done) | simp [Value.oneCell']) (by decide) rfl ?_; intro nb)
  (first | refine VO.step rfl rfl ?_ | refine VD.end rfl rfl rfl ?_ | refine VD.mid rfl rfl rfl ?_)
  refine OpV.markConst tab_ok rfl rfl rfl (by (repeat first | exact .head | apply Hole.tail)) rfl ?_
  (first | refine VO.step rfl rfl ?_ | refine VD.end rfl rfl rfl ?_ | refine VD.mid rfl rfl rfl ?_)
  refine OpV.call rfl rfl (fun _ _ => by simp) (rawR_ok (R := MRow nb 5 (bytes magicL) :: R) (l := magicL) p ⟨124, [], 0⟩ (Rds.mrow (bytes_one _) (.head _) rfl)) Ent.re rfl ?_
  intro _ _
  rw [Pk.raw_good rfl (by decide)]
  dsimp only
  (refine w ?_; repeat ((first | refine VO.step rfl rfl ?_ | refine VD.end rfl rfl rfl ?_ | refine VD.mid rfl rfl rfl ?_); refine OpV.box rfl rfl rfl ?_; intro _; refine w ?_))
  refine VO.re 26 (.int .u32 (kind.toNat : Nat)) rfl (by rw [u32_nat (by omega)]) ?_
  (((first | refine VO.step rfl rfl ?_ | refine VD.end rfl rfl rfl ?_ | refine VD.mid rfl rfl rfl ?_); refine OpV.call rfl rfl (fun _ _ => by simp) (u32_ok p ⟨124, [] ++ magicL, 0⟩ kind.toNat (by omega)) Ent.re rfl ?_); intro _ _)
  rw [Pk.number_good rfl (by simp [magicL])]
  dsimp only
  (refine w ?_; repeat ((first | refine VO.step rfl rfl ?_ | refine VD.end rfl rfl rfl ?_ | refine VD.mid rfl rfl rfl ?_); refine OpV.box rfl rfl rfl ?_; intro _; refine w ?_))
  (((first | refine VO.step rfl rfl ?_ | refine VD.end rfl rfl rfl ?_ | refine VD.mid rfl rfl rfl ?_); refine OpV.call rfl rfl (fun _ _ => by simp) (u64_ok p ⟨124, [] ++ magicL ++ lowBytes kind.toNat 4, 0⟩ e) Ent.re rfl ?_); intro _ _)
  rw [Pk.number_good rfl (by simp [magicL, lowBytes_length])]
  dsimp only
  (refine w ?_; repeat ((first | refine VO.step rfl rfl ?_ | refine VD.end rfl rfl rfl ?_ | refine VD.mid rfl rfl rfl ?_); refine OpV.box rfl rfl rfl ?_; intro _; refine w ?_))
  (((first | refine VO.step rfl rfl ?_ | refine VD.end rfl rfl rfl ?_ | refine VD.mid rfl rfl rfl ?_); refine OpV.call rfl rfl (fun _ _ => by simp) (u64_ok p ⟨124, [] ++ magicL ++ lowBytes kind.toNat 4 ++ lowBytes e 8, 0⟩ s) Ent.re rfl ?_); intro _ _)
  rw [Pk.number_good rfl (by simp [magicL, lowBytes_length])]
  dsimp only
  rw [show [] ++ magicL ++ lowBytes kind.toNat 4 ++ lowBytes e 8 ++ lowBytes s 8 = begunL kind.toNat e s from rfl]
  (refine w ?_; repeat ((first | refine VO.step rfl rfl ?_ | refine VD.end rfl rfl rfl ?_ | refine VD.mid rfl rfl rfl ?_); refine OpV.box rfl rfl rfl ?_; intro _; refine w ?_))
  (first | refine VO.step rfl rfl ?_ | refine VD.end rfl rfl rfl ?_ | refine VD.mid rfl rfl rfl ?_)
  refine OpV.call rfl rfl hg (spec p) Ent.re rfl ?_
  intro _ _
  (refine w ?_; repeat ((first | refine VO.step rfl rfl ?_ | refine VD.end rfl rfl rfl ?_ | refine VD.mid rfl rfl rfl ?_); refine OpV.box rfl rfl rfl ?_; intro _; refine w ?_))
  ((first | refine VO.step rfl rfl ?_ | refine VD.end rfl rfl rfl ?_ | refine VD.mid rfl rfl rfl ?_); refine OpV.call rfl rfl (fun _ _ => by simp) (bytes_ok p ⟨124, begunL kind.toNat e s ++ rest, 0⟩ rfl) Ent.re rfl ?_)
  intro b _
  rw [image_pad]
  dsimp only
  rw [show padTo 124 (begunL kind.toNat e s ++ rest) = sectB kind.toNat e s rest from rfl]
  have hl124 : (sectB kind.toNat e s rest).length = 124 := sectB_length hrest
  generalize sectB kind.toNat e s rest = B at *
  (refine w ?_; repeat ((first | refine VO.step rfl rfl ?_ | refine VD.end rfl rfl rfl ?_ | refine VD.mid rfl rfl rfl ?_); refine OpV.box rfl rfl rfl ?_; intro _; refine w ?_))
  ((first | refine VO.step rfl rfl ?_ | refine VD.end rfl rfl rfl ?_ | refine VD.mid rfl rfl rfl ?_); refine OpV.call rfl rfl (fun _ _ => by simp) (new_ok 128 (by decide)) Ent.re rfl ?_)
  intro q _
  (refine w ?_; repeat ((first | refine VO.step rfl rfl ?_ | refine VD.end rfl rfl rfl ?_ | refine VD.mid rfl rfl rfl ?_); refine OpV.box rfl rfl rfl ?_; intro _; refine w ?_))
  have hrB : Rds W (Own 5 1 (.slice (some ⟨b, 0, none⟩) 124 124) 124 (bytes B) :: R) 1 (some ⟨b, 0, none⟩) 124 (bytes B) := Rds.own (bytes_one _) (.head _) (by simp [hl124]) (by simp)
  (first | refine VO.step rfl rfl ?_ | refine VD.end rfl rfl rfl ?_ | refine VD.mid rfl rfl rfl ?_)
  refine OpV.call rfl rfl (fun _ _ => by simp) (rawR_ok q ⟨128, [], 0⟩ hrB) Ent.re rfl ?_
  intro _ _
  rw [Pk.raw_good rfl (by simp [hl124])]
  dsimp only
  (refine w ?_; repeat ((first | refine VO.step rfl rfl ?_ | refine VD.end rfl rfl rfl ?_ | refine VD.mid rfl rfl rfl ?_); refine OpV.box rfl rfl rfl ?_; intro _; refine w ?_))
  have hsum := sum_ok (W := W) (cap := 124) (l := B) (R := PackerR q ⟨128, [] ++ B, 0⟩ :: Own 5 1 (.slice (some ⟨b, 0, none⟩) 124 124) 124 (bytes B) :: R) (ao := some ⟨b, 0, none⟩) (by rw [hl124]; exact hrB.ent (Ent.drop Ent.refl)) (by omega)
  rw [hl124] at hsum
  ((first | refine VO.step rfl rfl ?_ | refine VD.end rfl rfl rfl ?_ | refine VD.mid rfl rfl rfl ?_); refine OpV.call rfl rfl (fun _ _ => by simp) (hsum) Ent.refl rfl ?_)
  intro _ _
  (refine w ?_; repeat ((first | refine VO.step rfl rfl ?_ | refine VD.end rfl rfl rfl ?_ | refine VD.mid rfl rfl rfl ?_); refine OpV.box rfl rfl rfl ?_; intro _; refine w ?_))
  have hcr := (crcS B).isLt
  (((first | refine VO.step rfl rfl ?_ | refine VD.end rfl rfl rfl ?_ | refine VD.mid rfl rfl rfl ?_); refine OpV.call rfl rfl (fun _ _ => by simp) (u32_ok q ⟨128, [] ++ B, 0⟩ (crcS B).toNat (by omega)) Ent.re rfl ?_); intro _ _)
  rw [Pk.number_good rfl (by simp [hl124])]
  dsimp only
  rw [show [] ++ B ++ lowBytes (crcS B).toNat 4 = sealS B from rfl]
  (refine w ?_; repeat ((first | refine VO.step rfl rfl ?_ | refine VD.end rfl rfl rfl ?_ | refine VD.mid rfl rfl rfl ?_); refine OpV.box rfl rfl rfl ?_; intro _; refine w ?_))
  ((first | refine VO.step rfl rfl ?_ | refine VD.end rfl rfl rfl ?_ | refine VD.mid rfl rfl rfl ?_); refine OpV.call rfl rfl (fun _ _ => by simp) (bytes_ok q ⟨128, sealS B, 0⟩ rfl) Ent.re rfl ?_)
  intro o _
  have hl128 := sealS_length hl124
  have him : (Pk.mk 128 (sealS B) 0).image = sealS B := by
    rw [image_pad]; unfold padTo; dsimp only; rw [hl128]; simp
  rw [him]
  dsimp only
  (refine w ?_; repeat ((first | refine VO.step rfl rfl ?_ | refine VD.end rfl rfl rfl ?_ | refine VD.mid rfl rfl rfl ?_); refine OpV.box rfl rfl rfl ?_; intro _; refine w ?_))
  refine VE.done (some ⟨o, 0, none⟩, 128) rfl trivial (by rw [hl128]; rfl) ?_
  rw [show OwnB (some ⟨o, 0, none⟩, 128) (sealS B) = Own 5 1 (.slice (some ⟨o, 0, none⟩) 128 128) 128 (bytes (sealS B)) by unfold OwnB; rw [hl128]]
  exact Ent.re

/-- What goes in behind, one number of four bytes after the other. -/
def hadH (B : List UInt8) (vs : List Nat) (i : Nat) : List UInt8 := B ++ (vs.take i).flatMap (lowBytes · 4)
theorem hadH_zero (B : List UInt8) (vs : List Nat) : hadH B vs 0 = B := by simp [hadH]
theorem hadH_succ (B : List UInt8) (vs : List Nat) (i : Nat) (h : i < vs.length) : hadH B vs (i + 1) = hadH B vs i ++ lowBytes vs[i] 4 := by
  unfold hadH; rw [List.take_succ_eq_append_getElem h, List.flatMap_append, ← List.append_assoc, List.flatMap_cons, List.flatMap_nil, List.append_nil]
theorem low_flat_length (vs : List Nat) : (vs.flatMap (lowBytes · 4)).length = 4 * vs.length := by
  induction vs with
  | nil => rfl
  | cons v r ih => rw [List.flatMap_cons, List.length_append, lowBytes_length, ih, List.length_cons]; omega
theorem hadH_length (B : List UInt8) (vs : List Nat) (i : Nat) (h : i ≤ vs.length) : (hadH B vs i).length = B.length + 4 * i := by
  unfold hadH; rw [List.length_append, low_flat_length, List.length_take, Nat.min_eq_left h]
theorem hdr1_ok {W : World} {R : List SProp} (h : HdrD) (hg : h.good) (hf : h.fit) (B : List UInt8) (hB : B.length = 24) (p hb : Nat) :
    Does1 W Try.prog 67 [.pointer (some ⟨p, 0, none⟩), .pointer (some ⟨hb, 0, none⟩)] (PackerR p ⟨124, B, 0⟩ :: Row hb 90 h.cells :: R) (.tuple #[]) (PackerR p ⟨124, B ++ flds h.rest, 0⟩ :: Row hb 90 h.cells :: R) := by
  have hiff := (hdr_iff h).1 hg
  obtain ⟨ep, sq, ix, ct, mb, rw_, es, sm⟩ := h
  dsimp only at hiff
  obtain ⟨ix, rfl⟩ := Int.eq_ofNat_of_zero_le (show 0 ≤ ix by omega)
  obtain ⟨ct, rfl⟩ := Int.eq_ofNat_of_zero_le (show 0 ≤ ct by omega)
  obtain ⟨mb, rfl⟩ := Int.eq_ofNat_of_zero_le (show 0 ≤ mb by omega)
  obtain ⟨rw_, rfl⟩ := Int.eq_ofNat_of_zero_le (show 0 ≤ rw_ by omega)
  have hsm : sm < 4294967296 := hf.sum
  clear hf hg
  (refine Does.enter Try.func67 Try.ntmps67 rfl rfl ?_)
  (refine w ?_; repeat ((first | refine VO.step rfl rfl ?_ | refine VD.end rfl rfl rfl ?_ | refine VD.mid rfl rfl rfl ?_); refine OpV.box rfl rfl rfl ?_; intro _; refine w ?_))
  ((first | refine VO.step rfl rfl ?_ | refine VD.end rfl rfl rfl ?_ | refine VD.mid rfl rfl rfl ?_); refine OpV.buildSlice1 st_71 rfl rfl (by first | (simp; done) | simp [Value.oneCell']) (by decide) rfl ?_; intro nb)
  (refine w ?_; repeat ((first | refine VO.step rfl rfl ?_ | refine VD.end rfl rfl rfl ?_ | refine VD.mid rfl rfl rfl ?_); refine OpV.box rfl rfl rfl ?_; intro _; refine w ?_))
  have hvs : ∀ v ∈ [ix, ct, mb, rw_], v < 4294967296 := by
    intro v hv; simp only [List.mem_cons, List.not_mem_nil, or_false] at hv; omega
  have hvl : [ix, ct, mb, rw_].length = 4 := rfl
  have hrow : ∀ (i : Nat) (h : i < [ix, ct, mb, rw_].length), [Value.int .i64 (ix : Int), .int .i64 (ct : Int), .int .i64 (mb : Int), .int .i64 (rw_ : Int)][i]? = some (.int .i64 (([ix, ct, mb, rw_][i] : Nat) : Int)) := by
    intro i h
    match i, h with
    | 0, _ => rfl
    | 1, _ => rfl
    | 2, _ => rfl
    | 3, _ => rfl
  refine VC.loop (α := Nat) (fun i => i ≤ 4) (fun i => Row nb 3 [Value.int .i64 (ix : Int), .int .i64 (ct : Int), .int .i64 (mb : Int), .int .i64 (rw_ : Int)] :: PackerR p ⟨124, hadH B [ix, ct, mb, rw_] i, 0⟩ :: Row hb 90 (HdrD.mk ep sq ix ct mb rw_ es sm).cells :: R)
    (fun i => [(0, .pointer (some ⟨p, 0, none⟩)), (1, .pointer (some ⟨hb, 0, none⟩)), (14, .slice (some ⟨nb, 0, none⟩) 4 4), (15, .int .i64 4), (16, .int .i64 i)]) (fun i => 4 - i) rfl 0 (Nat.zero_le _) (by rw [hadH_zero]; exact Ent.refl) ⟨rfl, rfl, rfl, rfl, rfl, trivial⟩ ?_
  intro i hi
  have hll := hadH_length B [ix, ct, mb, rw_] i hi
  (refine w ?_; repeat ((first | refine VO.step rfl rfl ?_ | refine VD.end rfl rfl rfl ?_ | refine VD.mid rfl rfl rfl ?_); refine OpV.box rfl rfl rfl ?_; intro _; refine w ?_))
  (refine VC.cond rfl rfl ?_ ?_ <;> intro hc)
  · have hlt : i < 4 := by have := of_decide_eq_true hc; omega
    have hr1 : Rds W (Row nb 3 [Value.int .i64 (ix : Int), .int .i64 (ct : Int), .int .i64 (mb : Int), .int .i64 (rw_ : Int)] :: PackerR p ⟨124, hadH B [ix, ct, mb, rw_] i, 0⟩ :: Row hb 90 (HdrD.mk ep sq ix ct mb rw_ es sm).cells :: R) 1 (some ⟨nb, 0, none⟩) 4 [Value.int .i64 (ix : Int), .int .i64 (ct : Int), .int .i64 (mb : Int), .int .i64 (rw_ : Int)] :=
      Rds.row (by simp [Value.oneCell']) (.head _) rfl
    have hsucc := hadH_succ B [ix, ct, mb, rw_] i hlt
    have hrow := hrow i hlt
    have hv := hvs _ (List.getElem_mem (l := [ix, ct, mb, rw_]) hlt)
    generalize [ix, ct, mb, rw_][i]'hlt = v at *
    generalize hgl : [Value.int .i64 (ix : Int), .int .i64 (ct : Int), .int .i64 (mb : Int), .int .i64 (rw_ : Int)] = cs at *
    (refine w ?_; repeat ((first | refine VO.step rfl rfl ?_ | refine VD.end rfl rfl rfl ?_ | refine VD.mid rfl rfl rfl ?_); refine OpV.box rfl rfl rfl ?_; intro _; refine w ?_))
    (first | refine VO.pure rfl rfl (PureAt.ldR tab_ok rfl rfl hr1 hrow) rfl ?_ | refine VD.take rfl rfl rfl (PureAt.ldR tab_ok rfl rfl hr1 hrow) rfl ?_ | refine VQ.pure rfl rfl (PureAt.ldR tab_ok rfl rfl hr1 hrow) rfl ?_ | refine VD.end rfl rfl rfl (OpV.pure (PureAt.ldR tab_ok rfl rfl hr1 hrow) rfl ?_))
    (refine w ?_; repeat ((first | refine VO.step rfl rfl ?_ | refine VD.end rfl rfl rfl ?_ | refine VD.mid rfl rfl rfl ?_); refine OpV.box rfl rfl rfl ?_; intro _; refine w ?_))
    refine VO.re 22 (.int .u32 v) rfl (by rw [u32_nat hv]) ?_
    (((first | refine VO.step rfl rfl ?_ | refine VD.end rfl rfl rfl ?_ | refine VD.mid rfl rfl rfl ?_); refine OpV.call rfl rfl (fun _ _ => by simp) (u32_ok p ⟨124, hadH B [ix, ct, mb, rw_] i, 0⟩ v (by omega)) Ent.re rfl ?_); intro _ _)
    rw [Pk.number_good rfl (by dsimp only; omega)]
    dsimp only
    rw [← hsucc]
    (refine w ?_; repeat ((first | refine VO.step rfl rfl ?_ | refine VD.end rfl rfl rfl ?_ | refine VD.mid rfl rfl rfl ?_); refine OpV.box rfl rfl rfl ?_; intro _; refine w ?_))
    exact VE.round (i + 1) (by omega) (by omega) ⟨rfl, rfl, rfl, rfl, asV rfl (by congr 1), trivial⟩ Ent.re
  · have hge : i = 4 := by have := of_decide_eq_false hc; omega
    subst hge
    have hfl : hadH B [ix, ct, mb, rw_] 4 ++ lowBytes (bitN es) 4 ++ lowBytes sm 4 = B ++ flds (HdrD.mk ep sq ix ct mb rw_ es sm).rest := by
      simp [hadH, flds, HdrD.rest]
    rw [← hfl]
    generalize hadH B [ix, ct, mb, rw_] 4 = D at *
    cases es
    · (refine w ?_; repeat ((first | refine VO.step rfl rfl ?_ | refine VD.end rfl rfl rfl ?_ | refine VD.mid rfl rfl rfl ?_); refine OpV.box rfl rfl rfl ?_; intro _; refine w ?_))
      refine VO.re 28 (.int .u32 (bitN false)) rfl rfl ?_
      (((first | refine VO.step rfl rfl ?_ | refine VD.end rfl rfl rfl ?_ | refine VD.mid rfl rfl rfl ?_); refine OpV.call rfl rfl (fun _ _ => by simp) (u32_ok p ⟨124, D, 0⟩ (bitN false) (bitN_lt _)) Ent.re rfl ?_); intro _ _)
      rw [Pk.number_good rfl (by dsimp only; omega)]
      dsimp only
      (refine w ?_; repeat ((first | refine VO.step rfl rfl ?_ | refine VD.end rfl rfl rfl ?_ | refine VD.mid rfl rfl rfl ?_); refine OpV.box rfl rfl rfl ?_; intro _; refine w ?_))
      refine VO.re 32 (.int .u32 sm) rfl rfl ?_
      (((first | refine VO.step rfl rfl ?_ | refine VD.end rfl rfl rfl ?_ | refine VD.mid rfl rfl rfl ?_); refine OpV.call rfl rfl (fun _ _ => by simp) (u32_ok p ⟨124, D ++ lowBytes (bitN false) 4, 0⟩ sm (by omega)) Ent.re rfl ?_); intro _ _)
      rw [Pk.number_good rfl (by simp [lowBytes_length]; omega)]
      (refine w ?_; repeat ((first | refine VO.step rfl rfl ?_ | refine VD.end rfl rfl rfl ?_ | refine VD.mid rfl rfl rfl ?_); refine OpV.box rfl rfl rfl ?_; intro _; refine w ?_))
      (refine VE.done1N rfl rfl ?_)
      exact Ent.re
    · (refine w ?_; repeat ((first | refine VO.step rfl rfl ?_ | refine VD.end rfl rfl rfl ?_ | refine VD.mid rfl rfl rfl ?_); refine OpV.box rfl rfl rfl ?_; intro _; refine w ?_))
      refine VO.re 28 (.int .u32 (bitN true)) rfl rfl ?_
      (((first | refine VO.step rfl rfl ?_ | refine VD.end rfl rfl rfl ?_ | refine VD.mid rfl rfl rfl ?_); refine OpV.call rfl rfl (fun _ _ => by simp) (u32_ok p ⟨124, D, 0⟩ (bitN true) (bitN_lt _)) Ent.re rfl ?_); intro _ _)
      rw [Pk.number_good rfl (by dsimp only; omega)]
      dsimp only
      (refine w ?_; repeat ((first | refine VO.step rfl rfl ?_ | refine VD.end rfl rfl rfl ?_ | refine VD.mid rfl rfl rfl ?_); refine OpV.box rfl rfl rfl ?_; intro _; refine w ?_))
      refine VO.re 32 (.int .u32 sm) rfl rfl ?_
      (((first | refine VO.step rfl rfl ?_ | refine VD.end rfl rfl rfl ?_ | refine VD.mid rfl rfl rfl ?_); refine OpV.call rfl rfl (fun _ _ => by simp) (u32_ok p ⟨124, D ++ lowBytes (bitN true) 4, 0⟩ sm (by omega)) Ent.re rfl ?_); intro _ _)
      rw [Pk.number_good rfl (by simp [lowBytes_length]; omega)]
      (refine w ?_; repeat ((first | refine VO.step rfl rfl ?_ | refine VD.end rfl rfl rfl ?_ | refine VD.mid rfl rfl rfl ?_); refine OpV.box rfl rfl rfl ?_; intro _; refine w ?_))
      (refine VE.done1N rfl rfl ?_)
      exact Ent.re
theorem cmt1_ok {W : World} {R : List SProp} (h : CmtD) (hg : h.good) (hf : h.fit) (B : List UInt8) (hB : B.length = 24) (p hb : Nat) :
    Does1 W Try.prog 70 [.pointer (some ⟨p, 0, none⟩), .pointer (some ⟨hb, 0, none⟩)] (PackerR p ⟨124, B, 0⟩ :: Row hb 95 h.cells :: R) (.tuple #[]) (PackerR p ⟨124, B ++ flds h.rest, 0⟩ :: Row hb 95 h.cells :: R) := by
  have hiff := (cmt_iff h).1 hg
  obtain ⟨ep, sq, ct, sm⟩ := h
  dsimp only at hiff
  obtain ⟨ct, rfl⟩ := Int.eq_ofNat_of_zero_le (show 0 ≤ ct by omega)
  have hsm : sm < 4294967296 := hf.sum
  clear hf hg
  have hfl : B ++ lowBytes ct 4 ++ lowBytes sm 4 = B ++ flds (CmtD.mk ep sq ct sm).rest := by simp [flds, CmtD.rest]
  rw [← hfl]
  (refine Does.enter Try.func70 Try.ntmps70 rfl rfl ?_)
  (refine w ?_; repeat ((first | refine VO.step rfl rfl ?_ | refine VD.end rfl rfl rfl ?_ | refine VD.mid rfl rfl rfl ?_); refine OpV.box rfl rfl rfl ?_; intro _; refine w ?_))
  refine VO.re 6 (.int .u32 ct) rfl (by show Value.int .u32 (IntKind.u32.wrap (ct : Int)) = _; rw [u32_nat (by omega)]) ?_
  (((first | refine VO.step rfl rfl ?_ | refine VD.end rfl rfl rfl ?_ | refine VD.mid rfl rfl rfl ?_); refine OpV.call rfl rfl (fun _ _ => by simp) (u32_ok p ⟨124, B, 0⟩ ct (by omega)) Ent.re rfl ?_); intro _ _)
  rw [Pk.number_good rfl (by dsimp only; omega)]
  dsimp only
  (refine w ?_; repeat ((first | refine VO.step rfl rfl ?_ | refine VD.end rfl rfl rfl ?_ | refine VD.mid rfl rfl rfl ?_); refine OpV.box rfl rfl rfl ?_; intro _; refine w ?_))
  refine VO.re 10 (.int .u32 sm) rfl rfl ?_
  (((first | refine VO.step rfl rfl ?_ | refine VD.end rfl rfl rfl ?_ | refine VD.mid rfl rfl rfl ?_); refine OpV.call rfl rfl (fun _ _ => by simp) (u32_ok p ⟨124, B ++ lowBytes ct 4, 0⟩ sm (by omega)) Ent.re rfl ?_); intro _ _)
  rw [Pk.number_good rfl (by simp [lowBytes_length]; omega)]
  (refine w ?_; repeat ((first | refine VO.step rfl rfl ?_ | refine VD.end rfl rfl rfl ?_ | refine VD.mid rfl rfl rfl ?_); refine OpV.box rfl rfl rfl ?_; intro _; refine w ?_))
  (refine VE.done1N rfl rfl ?_)
  exact Ent.re
theorem chk1_ok {W : World} {R : List SProp} (h : ChkD) (hg : h.good) (hf : h.fit) (B : List UInt8) (hB : B.length = 24) (p hb : Nat) :
    Does1 W Try.prog 76 [.pointer (some ⟨p, 0, none⟩), .pointer (some ⟨hb, 0, none⟩)] (PackerR p ⟨124, B, 0⟩ :: Row hb 57 h.cells :: R) (.tuple #[]) (PackerR p ⟨124, B ++ flds h.rest, 0⟩ :: Row hb 57 h.cells :: R) := by
  have hiff := (chk_iff h).1 hg
  obtain ⟨ep, sq, ct⟩ := h
  dsimp only at hiff
  obtain ⟨ct, rfl⟩ := Int.eq_ofNat_of_zero_le (show 0 ≤ ct by omega)
  clear hf hg
  have hfl : B ++ lowBytes ct 4 = B ++ flds (ChkD.mk ep sq ct).rest := by simp [flds, ChkD.rest]
  rw [← hfl]
  (refine Does.enter Try.func76 Try.ntmps76 rfl rfl ?_)
  (refine w ?_; repeat ((first | refine VO.step rfl rfl ?_ | refine VD.end rfl rfl rfl ?_ | refine VD.mid rfl rfl rfl ?_); refine OpV.box rfl rfl rfl ?_; intro _; refine w ?_))
  refine VO.re 6 (.int .u32 ct) rfl (by show Value.int .u32 (IntKind.u32.wrap (ct : Int)) = _; rw [u32_nat (by omega)]) ?_
  (((first | refine VO.step rfl rfl ?_ | refine VD.end rfl rfl rfl ?_ | refine VD.mid rfl rfl rfl ?_); refine OpV.call rfl rfl (fun _ _ => by simp) (u32_ok p ⟨124, B, 0⟩ ct (by omega)) Ent.re rfl ?_); intro _ _)
  rw [Pk.number_good rfl (by dsimp only; omega)]
  dsimp only
  (refine w ?_; repeat ((first | refine VO.step rfl rfl ?_ | refine VD.end rfl rfl rfl ?_ | refine VD.mid rfl rfl rfl ?_); refine OpV.box rfl rfl rfl ?_; intro _; refine w ?_))
  (refine VE.done1N rfl rfl ?_)
  exact Ent.re
set_option maxHeartbeats 1000000 in
theorem ench_ok {W : World} {R : List SProp} (h : HdrD) (hf : h.fit) :
    Does W Try.prog 34 [.agg h.cells.toArray] R (β := Option Addr × Nat) (fun _ => True) (fun x => .tuple #[.slice x.1 h.enc.2.length x.2, .int .u16 h.enc.1]) (fun x => OwnB x h.enc.2 :: R) := by
  have hct := hf.count
  (refine Does.enter Try.func34 Try.ntmps34 rfl rfl ?_)
  (refine w ?_; repeat ((first | refine VO.step rfl rfl ?_ | refine VD.end rfl rfl rfl ?_ | refine VD.mid rfl rfl rfl ?_); refine OpV.box rfl rfl rfl ?_; intro _; refine w ?_))
  rename_i hbx
  ((first | refine VO.step rfl rfl ?_ | refine VD.end rfl rfl rfl ?_ | refine VD.mid rfl rfl rfl ?_); refine OpV.call rfl rfl (fun _ _ => by simp) (counts_ok h.epoch h.seq) Ent.refl rfl ?_)
  intro _ _
  (refine w ?_; repeat ((first | refine VO.step rfl rfl ?_ | refine VD.end rfl rfl rfl ?_ | refine VD.mid rfl rfl rfl ?_); refine OpV.box rfl rfl rfl ?_; intro _; refine w ?_))
  ((first | refine VO.split rfl rfl rfl ?_ ?_ | refine VD.split rfl rfl rfl ?_ ?_) <;> intro hb)
  · have hb : ¬ cntOk h.epoch h.seq := by simpa using hb
    have hbad := hdr_bad (h := h) (fun g => hb g.1)
    (refine w ?_; repeat ((first | refine VO.step rfl rfl ?_ | refine VD.end rfl rfl rfl ?_ | refine VD.mid rfl rfl rfl ?_); refine OpV.box rfl rfl rfl ?_; intro _; refine w ?_))
    refine VE.done (none, 0) rfl trivial (by rw [hbad]; rfl) ?_
    rw [hbad]; exact Ent.trans (Ent.re (L := R)) (fun w hw => hw.ownNil _ _)
  have h0 : cntOk h.epoch h.seq := by simpa using hb
  (refine w ?_; repeat ((first | refine VO.step rfl rfl ?_ | refine VD.end rfl rfl rfl ?_ | refine VD.mid rfl rfl rfl ?_); refine OpV.box rfl rfl rfl ?_; intro _; refine w ?_))
  ((first | refine VO.step rfl rfl ?_ | refine VD.end rfl rfl rfl ?_ | refine VD.mid rfl rfl rfl ?_); refine OpV.call rfl rfl (fun _ _ => by simp) (in_ok h.count 1 1023) Ent.refl rfl ?_)
  intro _ _
  (refine w ?_; repeat ((first | refine VO.step rfl rfl ?_ | refine VD.end rfl rfl rfl ?_ | refine VD.mid rfl rfl rfl ?_); refine OpV.box rfl rfl rfl ?_; intro _; refine w ?_))
  ((first | refine VO.split rfl rfl rfl ?_ ?_ | refine VD.split rfl rfl rfl ?_ ?_) <;> intro hb)
  · have hb : ¬ (1 ≤ h.count ∧ h.count ≤ 1023) := by have hq := hb; simp at hq; omega
    have hbad := hdr_bad (h := h) (fun g => hb g.2.1)
    (refine w ?_; repeat ((first | refine VO.step rfl rfl ?_ | refine VD.end rfl rfl rfl ?_ | refine VD.mid rfl rfl rfl ?_); refine OpV.box rfl rfl rfl ?_; intro _; refine w ?_))
    refine VE.done (none, 0) rfl trivial (by rw [hbad]; rfl) ?_
    rw [hbad]; exact Ent.trans (Ent.re (L := R)) (fun w hw => hw.ownNil _ _)
  have h1 : 1 ≤ h.count ∧ h.count ≤ 1023 := by simpa using hb
  (refine w ?_; repeat ((first | refine VO.step rfl rfl ?_ | refine VD.end rfl rfl rfl ?_ | refine VD.mid rfl rfl rfl ?_); refine OpV.box rfl rfl rfl ?_; intro _; refine w ?_))
  ((first | refine VO.step rfl rfl ?_ | refine VD.end rfl rfl rfl ?_ | refine VD.mid rfl rfl rfl ?_); refine OpV.call rfl rfl (fun _ _ => by simp) (in_ok h.index 0 (h.count - 1)) Ent.refl rfl ?_)
  intro _ _
  (refine w ?_; repeat ((first | refine VO.step rfl rfl ?_ | refine VD.end rfl rfl rfl ?_ | refine VD.mid rfl rfl rfl ?_); refine OpV.box rfl rfl rfl ?_; intro _; refine w ?_))
  ((first | refine VO.split rfl rfl rfl ?_ ?_ | refine VD.split rfl rfl rfl ?_ ?_) <;> intro hb)
  · have hb : ¬ (0 ≤ h.index ∧ h.index ≤ h.count - 1) := by have hq := hb; simp at hq; omega
    have hbad := hdr_bad (h := h) (fun g => hb g.2.2.1)
    (refine w ?_; repeat ((first | refine VO.step rfl rfl ?_ | refine VD.end rfl rfl rfl ?_ | refine VD.mid rfl rfl rfl ?_); refine OpV.box rfl rfl rfl ?_; intro _; refine w ?_))
    refine VE.done (none, 0) rfl trivial (by rw [hbad]; rfl) ?_
    rw [hbad]; exact Ent.trans (Ent.re (L := R)) (fun w hw => hw.ownNil _ _)
  have h2 : 0 ≤ h.index ∧ h.index ≤ h.count - 1 := by simpa using hb
  (refine w ?_; repeat ((first | refine VO.step rfl rfl ?_ | refine VD.end rfl rfl rfl ?_ | refine VD.mid rfl rfl rfl ?_); refine OpV.box rfl rfl rfl ?_; intro _; refine w ?_))
  ((first | refine VO.step rfl rfl ?_ | refine VD.end rfl rfl rfl ?_ | refine VD.mid rfl rfl rfl ?_); refine OpV.call rfl rfl (fun _ _ => by simp) (in_ok h.member 0 15) Ent.refl rfl ?_)
  intro _ _
  (refine w ?_; repeat ((first | refine VO.step rfl rfl ?_ | refine VD.end rfl rfl rfl ?_ | refine VD.mid rfl rfl rfl ?_); refine OpV.box rfl rfl rfl ?_; intro _; refine w ?_))
  ((first | refine VO.split rfl rfl rfl ?_ ?_ | refine VD.split rfl rfl rfl ?_ ?_) <;> intro hb)
  · have hb : ¬ (0 ≤ h.member ∧ h.member ≤ 15) := by have hq := hb; simp at hq; omega
    have hbad := hdr_bad (h := h) (fun g => hb g.2.2.2.1)
    (refine w ?_; repeat ((first | refine VO.step rfl rfl ?_ | refine VD.end rfl rfl rfl ?_ | refine VD.mid rfl rfl rfl ?_); refine OpV.box rfl rfl rfl ?_; intro _; refine w ?_))
    refine VE.done (none, 0) rfl trivial (by rw [hbad]; rfl) ?_
    rw [hbad]; exact Ent.trans (Ent.re (L := R)) (fun w hw => hw.ownNil _ _)
  have h3 : 0 ≤ h.member ∧ h.member ≤ 15 := by simpa using hb
  (refine w ?_; repeat ((first | refine VO.step rfl rfl ?_ | refine VD.end rfl rfl rfl ?_ | refine VD.mid rfl rfl rfl ?_); refine OpV.box rfl rfl rfl ?_; intro _; refine w ?_))
  ((first | refine VO.step rfl rfl ?_ | refine VD.end rfl rfl rfl ?_ | refine VD.mid rfl rfl rfl ?_); refine OpV.call rfl rfl (fun _ _ => by simp) (in_ok h.row 0 4095) Ent.refl rfl ?_)
  intro _ _
  (refine w ?_; repeat ((first | refine VO.step rfl rfl ?_ | refine VD.end rfl rfl rfl ?_ | refine VD.mid rfl rfl rfl ?_); refine OpV.box rfl rfl rfl ?_; intro _; refine w ?_))
  (refine VC.cond rfl rfl ?_ ?_ <;> intro hc)
  · have hb : ¬ (0 ≤ h.row ∧ h.row ≤ 4095) := by have hq := hc; simp at hq; omega
    have hbad := hdr_bad (h := h) (fun g => hb g.2.2.2.2)
    (refine w ?_; repeat ((first | refine VO.step rfl rfl ?_ | refine VD.end rfl rfl rfl ?_ | refine VD.mid rfl rfl rfl ?_); refine OpV.box rfl rfl rfl ?_; intro _; refine w ?_))
    refine VE.done (none, 0) rfl trivial (by rw [hbad]; rfl) ?_
    rw [hbad]; exact Ent.trans (Ent.re (L := R)) (fun w hw => hw.ownNil _ _)
  have h4 : 0 ≤ h.row ∧ h.row ≤ 4095 := by simpa using hc
  have hg : h.good := ⟨h0, h1, h2, h3, h4⟩
  have he := hdr_ok hg
  rw [he]
  (refine w ?_; repeat ((first | refine VO.step rfl rfl ?_ | refine VD.end rfl rfl rfl ?_ | refine VD.mid rfl rfl rfl ?_); refine OpV.box rfl rfl rfl ?_; intro _; refine w ?_))
  (first | refine VO.pure rfl rfl (PureAt.makeFuncN rfl) rfl ?_ | refine VD.take rfl rfl rfl (PureAt.makeFuncN rfl) rfl ?_ | refine VQ.pure rfl rfl (PureAt.makeFuncN rfl) rfl ?_ | refine VD.end rfl rfl rfl (OpV.pure (PureAt.makeFuncN rfl) rfl ?_))
  ((first | refine VO.step rfl rfl ?_ | refine VD.end rfl rfl rfl ?_ | refine VD.mid rfl rfl rfl ?_); refine OpV.call rfl rfl (fun _ _ => by simp) (written_ok 1 h.epoch h.seq hf.epoch hf.seq (flds h.rest) (by rw [flds_length]; exact hdr_sum h) 67 (fun _ _ => by simp) #[.pointer (some ⟨hbx, 0, none⟩)] (fun p => hdr1_ok h hg hf _ (begunL_length _ _ _) p hbx)) Ent.re rfl ?_)
  rintro ⟨a1, c1⟩ -
  (refine w ?_; repeat ((first | refine VO.step rfl rfl ?_ | refine VD.end rfl rfl rfl ?_ | refine VD.mid rfl rfl rfl ?_); refine OpV.box rfl rfl rfl ?_; intro _; refine w ?_))
  exact VE.done (a1, c1) rfl trivial rfl Ent.re
theorem encc_ok {W : World} {R : List SProp} (h : CmtD) (hf : h.fit) :
    Does W Try.prog 37 [.agg h.cells.toArray] R (β := Option Addr × Nat) (fun _ => True) (fun x => .tuple #[.slice x.1 h.enc.2.length x.2, .int .u16 h.enc.1]) (fun x => OwnB x h.enc.2 :: R) := by
  (refine Does.enter Try.func37 Try.ntmps37 rfl rfl ?_)
  (refine w ?_; repeat ((first | refine VO.step rfl rfl ?_ | refine VD.end rfl rfl rfl ?_ | refine VD.mid rfl rfl rfl ?_); refine OpV.box rfl rfl rfl ?_; intro _; refine w ?_))
  rename_i hbx
  ((first | refine VO.step rfl rfl ?_ | refine VD.end rfl rfl rfl ?_ | refine VD.mid rfl rfl rfl ?_); refine OpV.call rfl rfl (fun _ _ => by simp) (counts_ok h.epoch h.seq) Ent.refl rfl ?_)
  intro _ _
  (refine w ?_; repeat ((first | refine VO.step rfl rfl ?_ | refine VD.end rfl rfl rfl ?_ | refine VD.mid rfl rfl rfl ?_); refine OpV.box rfl rfl rfl ?_; intro _; refine w ?_))
  ((first | refine VO.split rfl rfl rfl ?_ ?_ | refine VD.split rfl rfl rfl ?_ ?_) <;> intro hb)
  · have hb : ¬ cntOk h.epoch h.seq := by simpa using hb
    have hbad := cmt_bad (h := h) (fun g => hb g.1)
    (refine w ?_; repeat ((first | refine VO.step rfl rfl ?_ | refine VD.end rfl rfl rfl ?_ | refine VD.mid rfl rfl rfl ?_); refine OpV.box rfl rfl rfl ?_; intro _; refine w ?_))
    refine VE.done (none, 0) rfl trivial (by rw [hbad]; rfl) ?_
    rw [hbad]; exact Ent.trans (Ent.re (L := R)) (fun w hw => hw.ownNil _ _)
  have h0 : cntOk h.epoch h.seq := by simpa using hb
  (refine w ?_; repeat ((first | refine VO.step rfl rfl ?_ | refine VD.end rfl rfl rfl ?_ | refine VD.mid rfl rfl rfl ?_); refine OpV.box rfl rfl rfl ?_; intro _; refine w ?_))
  ((first | refine VO.step rfl rfl ?_ | refine VD.end rfl rfl rfl ?_ | refine VD.mid rfl rfl rfl ?_); refine OpV.call rfl rfl (fun _ _ => by simp) (in_ok h.count 1 1023) Ent.refl rfl ?_)
  intro _ _
  (refine w ?_; repeat ((first | refine VO.step rfl rfl ?_ | refine VD.end rfl rfl rfl ?_ | refine VD.mid rfl rfl rfl ?_); refine OpV.box rfl rfl rfl ?_; intro _; refine w ?_))
  (refine VC.cond rfl rfl ?_ ?_ <;> intro hc)
  · have hb : ¬ (1 ≤ h.count ∧ h.count ≤ 1023) := by have hq := hc; simp at hq; omega
    have hbad := cmt_bad (h := h) (fun g => hb g.2)
    (refine w ?_; repeat ((first | refine VO.step rfl rfl ?_ | refine VD.end rfl rfl rfl ?_ | refine VD.mid rfl rfl rfl ?_); refine OpV.box rfl rfl rfl ?_; intro _; refine w ?_))
    refine VE.done (none, 0) rfl trivial (by rw [hbad]; rfl) ?_
    rw [hbad]; exact Ent.trans (Ent.re (L := R)) (fun w hw => hw.ownNil _ _)
  have h4 : 1 ≤ h.count ∧ h.count ≤ 1023 := by simpa using hc
  have hg : h.good := ⟨h0, h4⟩
  have he := cmt_ok hg
  rw [he]
  (refine w ?_; repeat ((first | refine VO.step rfl rfl ?_ | refine VD.end rfl rfl rfl ?_ | refine VD.mid rfl rfl rfl ?_); refine OpV.box rfl rfl rfl ?_; intro _; refine w ?_))
  (first | refine VO.pure rfl rfl (PureAt.makeFuncN rfl) rfl ?_ | refine VD.take rfl rfl rfl (PureAt.makeFuncN rfl) rfl ?_ | refine VQ.pure rfl rfl (PureAt.makeFuncN rfl) rfl ?_ | refine VD.end rfl rfl rfl (OpV.pure (PureAt.makeFuncN rfl) rfl ?_))
  ((first | refine VO.step rfl rfl ?_ | refine VD.end rfl rfl rfl ?_ | refine VD.mid rfl rfl rfl ?_); refine OpV.call rfl rfl (fun _ _ => by simp) (written_ok 2 h.epoch h.seq hf.epoch hf.seq (flds h.rest) (by rw [flds_length]; exact cmt_sum h) 70 (fun _ _ => by simp) #[.pointer (some ⟨hbx, 0, none⟩)] (fun p => cmt1_ok h hg hf _ (begunL_length _ _ _) p hbx)) Ent.re rfl ?_)
  rintro ⟨a1, c1⟩ -
  (refine w ?_; repeat ((first | refine VO.step rfl rfl ?_ | refine VD.end rfl rfl rfl ?_ | refine VD.mid rfl rfl rfl ?_); refine OpV.box rfl rfl rfl ?_; intro _; refine w ?_))
  exact VE.done (a1, c1) rfl trivial rfl Ent.re
theorem encs_ok {W : World} {R : List SProp} (h : ChkD) (hf : h.fit) :
    Does W Try.prog 55 [.agg h.cells.toArray] R (β := Option Addr × Nat) (fun _ => True) (fun x => .tuple #[.slice x.1 h.enc.2.length x.2, .int .u16 h.enc.1]) (fun x => OwnB x h.enc.2 :: R) := by
  (refine Does.enter Try.func55 Try.ntmps55 rfl rfl ?_)
  (refine w ?_; repeat ((first | refine VO.step rfl rfl ?_ | refine VD.end rfl rfl rfl ?_ | refine VD.mid rfl rfl rfl ?_); refine OpV.box rfl rfl rfl ?_; intro _; refine w ?_))
  rename_i hbx
  ((first | refine VO.step rfl rfl ?_ | refine VD.end rfl rfl rfl ?_ | refine VD.mid rfl rfl rfl ?_); refine OpV.call rfl rfl (fun _ _ => by simp) (counts_ok h.epoch h.seq) Ent.refl rfl ?_)
  intro _ _
  (refine w ?_; repeat ((first | refine VO.step rfl rfl ?_ | refine VD.end rfl rfl rfl ?_ | refine VD.mid rfl rfl rfl ?_); refine OpV.box rfl rfl rfl ?_; intro _; refine w ?_))
  ((first | refine VO.split rfl rfl rfl ?_ ?_ | refine VD.split rfl rfl rfl ?_ ?_) <;> intro hb)
  · have hb : ¬ cntOk h.epoch h.seq := by simpa using hb
    have hbad := chk_bad (h := h) (fun g => hb g.1)
    (refine w ?_; repeat ((first | refine VO.step rfl rfl ?_ | refine VD.end rfl rfl rfl ?_ | refine VD.mid rfl rfl rfl ?_); refine OpV.box rfl rfl rfl ?_; intro _; refine w ?_))
    refine VE.done (none, 0) rfl trivial (by rw [hbad]; rfl) ?_
    rw [hbad]; exact Ent.trans (Ent.re (L := R)) (fun w hw => hw.ownNil _ _)
  have h0 : cntOk h.epoch h.seq := by simpa using hb
  (refine w ?_; repeat ((first | refine VO.step rfl rfl ?_ | refine VD.end rfl rfl rfl ?_ | refine VD.mid rfl rfl rfl ?_); refine OpV.box rfl rfl rfl ?_; intro _; refine w ?_))
  ((first | refine VO.step rfl rfl ?_ | refine VD.end rfl rfl rfl ?_ | refine VD.mid rfl rfl rfl ?_); refine OpV.call rfl rfl (fun _ _ => by simp) (in_ok h.tail 0 2047) Ent.refl rfl ?_)
  intro _ _
  (refine w ?_; repeat ((first | refine VO.step rfl rfl ?_ | refine VD.end rfl rfl rfl ?_ | refine VD.mid rfl rfl rfl ?_); refine OpV.box rfl rfl rfl ?_; intro _; refine w ?_))
  (refine VC.cond rfl rfl ?_ ?_ <;> intro hc)
  · have hb : ¬ (0 ≤ h.tail ∧ h.tail ≤ 2047) := by have hq := hc; simp at hq; omega
    have hbad := chk_bad (h := h) (fun g => hb g.2)
    (refine w ?_; repeat ((first | refine VO.step rfl rfl ?_ | refine VD.end rfl rfl rfl ?_ | refine VD.mid rfl rfl rfl ?_); refine OpV.box rfl rfl rfl ?_; intro _; refine w ?_))
    refine VE.done (none, 0) rfl trivial (by rw [hbad]; rfl) ?_
    rw [hbad]; exact Ent.trans (Ent.re (L := R)) (fun w hw => hw.ownNil _ _)
  have h4 : 0 ≤ h.tail ∧ h.tail ≤ 2047 := by simpa using hc
  have hg : h.good := ⟨h0, h4⟩
  have he := chk_ok hg
  rw [he]
  (refine w ?_; repeat ((first | refine VO.step rfl rfl ?_ | refine VD.end rfl rfl rfl ?_ | refine VD.mid rfl rfl rfl ?_); refine OpV.box rfl rfl rfl ?_; intro _; refine w ?_))
  (first | refine VO.pure rfl rfl (PureAt.makeFuncN rfl) rfl ?_ | refine VD.take rfl rfl rfl (PureAt.makeFuncN rfl) rfl ?_ | refine VQ.pure rfl rfl (PureAt.makeFuncN rfl) rfl ?_ | refine VD.end rfl rfl rfl (OpV.pure (PureAt.makeFuncN rfl) rfl ?_))
  ((first | refine VO.step rfl rfl ?_ | refine VD.end rfl rfl rfl ?_ | refine VD.mid rfl rfl rfl ?_); refine OpV.call rfl rfl (fun _ _ => by simp) (written_ok 3 h.epoch h.seq hf.epoch hf.seq (flds h.rest) (by rw [flds_length]; exact chk_sum h) 76 (fun _ _ => by simp) #[.pointer (some ⟨hbx, 0, none⟩)] (fun p => chk1_ok h hg hf _ (begunL_length _ _ _) p hbx)) Ent.re rfl ?_)
  rintro ⟨a1, c1⟩ -
  (refine w ?_; repeat ((first | refine VO.step rfl rfl ?_ | refine VD.end rfl rfl rfl ?_ | refine VD.mid rfl rfl rfl ?_); refine OpV.box rfl rfl rfl ?_; intro _; refine w ?_))
  exact VE.done (a1, c1) rfl trivial rfl Ent.re
end Go.Proofs.Ytlojjlbngnaphaa

/-! Text Ek. -/
/- The program's read, DecodeHeader, DecodeCommit, DecodeCheck. -/
set_option maxRecDepth 8000
set_option linter.unusedVariables false
set_option linter.unusedSimpArgs false
set_option linter.unusedSectionVars false
namespace Go.Proofs.Ytlojjlbngnaphaa
open Go.RowKit Go.Sl
attribute [local irreducible] Own

theorem equal_ok {W : World} {R : List SProp} {ao ao' : Option Addr} {cap cap' : Nat} {a b : List UInt8} (ha : Rds W R 1 ao a.length (bytes a)) (hb : Rds W R 1 ao' b.length (bytes b)) :
    Does1 W Try.prog 107 [.slice ao a.length cap, .slice ao' b.length cap'] R (.bool (decide (a = b))) R := by
  (refine Does.enter Try.func107 Try.ntmps107 rfl rfl ?_)
  (refine w ?_; repeat ((first | refine VO.step rfl rfl ?_ | refine VD.end rfl rfl rfl ?_ | refine VD.mid rfl rfl rfl ?_); refine OpV.box rfl rfl rfl ?_; intro _; refine w ?_))
  (first | refine VO.pure rfl rfl (PureAt.toStr (l := a) tab_ok rfl rfl rfl rfl ha rfl) rfl ?_ | refine VD.take rfl rfl rfl (PureAt.toStr (l := a) tab_ok rfl rfl rfl rfl ha rfl) rfl ?_ | refine VQ.pure rfl rfl (PureAt.toStr (l := a) tab_ok rfl rfl rfl rfl ha rfl) rfl ?_ | refine VD.end rfl rfl rfl (OpV.pure (PureAt.toStr (l := a) tab_ok rfl rfl rfl rfl ha rfl) rfl ?_))
  (refine w ?_; repeat ((first | refine VO.step rfl rfl ?_ | refine VD.end rfl rfl rfl ?_ | refine VD.mid rfl rfl rfl ?_); refine OpV.box rfl rfl rfl ?_; intro _; refine w ?_))
  (first | refine VO.pure rfl rfl (PureAt.toStr (l := b) tab_ok rfl rfl rfl rfl hb rfl) rfl ?_ | refine VD.take rfl rfl rfl (PureAt.toStr (l := b) tab_ok rfl rfl rfl rfl hb rfl) rfl ?_ | refine VQ.pure rfl rfl (PureAt.toStr (l := b) tab_ok rfl rfl rfl rfl hb rfl) rfl ?_ | refine VD.end rfl rfl rfl (OpV.pure (PureAt.toStr (l := b) tab_ok rfl rfl rfl rfl hb rfl) rfl ?_))
  (first | refine VO.pure rfl rfl (PureAt.strEq tab_ok rfl rfl rfl rfl) rfl ?_ | refine VD.take rfl rfl rfl (PureAt.strEq tab_ok rfl rfl rfl rfl) rfl ?_ | refine VQ.pure rfl rfl (PureAt.strEq tab_ok rfl rfl rfl rfl) rfl ?_ | refine VD.end rfl rfl rfl (OpV.pure (PureAt.strEq tab_ok rfl rfl rfl rfl) rfl ?_))
  (refine w ?_; repeat ((first | refine VO.step rfl rfl ?_ | refine VD.end rfl rfl rfl ?_ | refine VD.mid rfl rfl rfl ?_); refine OpV.box rfl rfl rfl ?_; intro _; refine w ?_))
  (refine VE.done1 rfl ?_ ?_)
  · rfl
  · exact Ent.refl
theorem read_bad {W : World} {R : List SProp} {ao : Option Addr} {cap : Nat} {l : List UInt8} (hr : Rds W R 1 ao l.length (bytes l)) (hcap : l.length ≤ cap) (k : UInt8) (hbad : looksM l k ≠ 0) (f1 f2 : Value) :
    Does1 W Try.prog 94 [.slice ao l.length cap, .int .u8 (k.toNat : Int), f1, f2] R (.int .u16 (looksM l k)) R := by
  (refine Does.enter Try.func94 Try.ntmps94 rfl rfl ?_)
  (refine w ?_; repeat ((first | refine VO.step rfl rfl ?_ | refine VD.end rfl rfl rfl ?_ | refine VD.mid rfl rfl rfl ?_); refine OpV.box rfl rfl rfl ?_; intro _; refine w ?_))
  (refine VC.cond rfl rfl ?_ ?_ <;> intro hc)
  · have hb : l.length ≠ 128 := by have := hc; simp at this; omega
    (refine w ?_; repeat ((first | refine VO.step rfl rfl ?_ | refine VD.end rfl rfl rfl ?_ | refine VD.mid rfl rfl rfl ?_); refine OpV.box rfl rfl rfl ?_; intro _; refine w ?_))
    (refine VE.done1 rfl ?_ ?_)
    · unfold looksM; rw [if_pos hb]
    · exact Ent.refl
  have h128 : l.length = 128 := by have := hc; simp at this; omega
  (refine w ?_; repeat ((first | refine VO.step rfl rfl ?_ | refine VD.end rfl rfl rfl ?_ | refine VD.mid rfl rfl rfl ?_); refine OpV.box rfl rfl rfl ?_; intro _; refine w ?_))
  ((first | refine VO.step rfl rfl ?_ | refine VD.end rfl rfl rfl ?_ | refine VD.mid rfl rfl rfl ?_); refine OpV.call rfl rfl (fun _ _ => by simp) (kind_ok hr hcap) Ent.refl rfl ?_)
  intro _ _
  (refine w ?_; repeat ((first | refine VO.step rfl rfl ?_ | refine VD.end rfl rfl rfl ?_ | refine VD.mid rfl rfl rfl ?_); refine OpV.box rfl rfl rfl ?_; intro _; refine w ?_))
  (refine VC.cond rfl rfl ?_ ?_ <;> intro hc)
  · have hb : kindB l ≠ k := by intro h; rw [h] at hc; simp at hc
    (refine w ?_; repeat ((first | refine VO.step rfl rfl ?_ | refine VD.end rfl rfl rfl ?_ | refine VD.mid rfl rfl rfl ?_); refine OpV.box rfl rfl rfl ?_; intro _; refine w ?_))
    (refine VE.done1 rfl ?_ ?_)
    · unfold looksM; rw [if_neg (by omega), if_pos hb]
    · exact Ent.refl
  have hk : kindB l = k := by
    have h1 : ((kindB l).toNat : Int) = (k.toNat : Int) := by simpa using hc
    exact UInt8.toNat_inj.1 (by omega)
  have hn : numAt l 124 4 ≠ (crcS (l.take 124)).toNat := by
    intro h; apply hbad; unfold looksM; rw [if_neg (by omega), if_neg (fun h => h hk), if_neg (fun h2 => h2 h)]
  obtain ⟨a, rfl⟩ : ∃ a, ao = some a := by cases ao with | none => have := hr.nil rfl; omega | some a => exact ⟨a, rfl⟩
  have hp := rds_part hr 124 128 (by omega) (by omega) hcap
  rw [show 128 - 124 = 4 from rfl] at hp
  have hlt := numAt_lt l 124 4
  have h124 : (l.take 124).length = 124 := by rw [List.length_take]; omega
  (refine w ?_; repeat ((first | refine VO.step rfl rfl ?_ | refine VD.end rfl rfl rfl ?_ | refine VD.mid rfl rfl rfl ?_); refine OpV.box rfl rfl rfl ?_; intro _; refine w ?_))
  refine VO.re 22 (.slice (subA (some a) cap 124 1) 4 (cap - 124)) rfl (by rw [h128]) ?_
  ((first | refine VO.step rfl rfl ?_ | refine VD.end rfl rfl rfl ?_ | refine VD.mid rfl rfl rfl ?_); refine OpV.call rfl rfl (fun _ _ => by simp) (read_ok hp (by omega)) Ent.re rfl ?_)
  intro q _
  (refine w ?_; repeat ((first | refine VO.step rfl rfl ?_ | refine VD.end rfl rfl rfl ?_ | refine VD.mid rfl rfl rfl ?_); refine OpV.box rfl rfl rfl ?_; intro _; refine w ?_))
  have hr2 := hr.ent (H := ReaderR q ⟨(l.drop 124).take 4, 0, 0, 0⟩ :: R) (Ent.drop Ent.refl)
  have hg := Rk.got_good (k := ⟨(l.drop 124).take 4, 0, 0, 0⟩) (n := 4) rfl (by simp; omega)
  have hsum := sum_ok (cap := cap) (l := l.take 124) (W := W) (R := ReaderR q ⟨(l.drop 124).take 4, 4, 0, 0⟩ :: R) (ao := some a) (by rw [h124]; exact rds_head (hr.ent (Ent.drop Ent.refl)) 124 (by omega)) (by omega)
  rw [h124] at hsum
  (refine VC.drawn [1] 4 [0, 2, 3, 1, 4, 5] R rfl (by kernel_rfl) (by kernel_rfl) Ent.re ?_)
  (refine w ?_; repeat ((first | refine VO.step rfl rfl ?_ | refine VD.end rfl rfl rfl ?_ | refine VD.mid rfl rfl rfl ?_); refine OpV.box rfl rfl rfl ?_; intro _; refine w ?_))
  (((first | refine VO.step rfl rfl ?_ | refine VD.end rfl rfl rfl ?_ | refine VD.mid rfl rfl rfl ?_); refine OpV.call rfl rfl (fun _ _ => by simp) (r32_ok q ⟨(l.drop 124).take 4, 0, 0, 0⟩) Ent.re rfl ?_); intro _ _)
  rw [hg.1, hg.2.2]
  dsimp only
  rw [show leVal (List.take 4 (List.drop 0 (List.take 4 (List.drop 124 l)))) = numAt l 124 4 by unfold numAt; rw [List.drop_zero, List.take_take]; rfl, Nat.zero_add]
  (refine w ?_; repeat ((first | refine VO.step rfl rfl ?_ | refine VD.end rfl rfl rfl ?_ | refine VD.mid rfl rfl rfl ?_); refine OpV.box rfl rfl rfl ?_; intro _; refine w ?_))
  ((first | refine VO.step rfl rfl ?_ | refine VD.end rfl rfl rfl ?_ | refine VD.mid rfl rfl rfl ?_); refine OpV.call rfl rfl (fun _ _ => by simp) (hsum) Ent.refl rfl ?_)
  intro _ _
  (refine w ?_; repeat ((first | refine VO.step rfl rfl ?_ | refine VD.end rfl rfl rfl ?_ | refine VD.mid rfl rfl rfl ?_); refine OpV.box rfl rfl rfl ?_; intro _; refine w ?_))
  (refine VC.condTe rfl rfl (by simpa using fun h => hn (by omega)) ?_)
  (refine w ?_; repeat ((first | refine VO.step rfl rfl ?_ | refine VD.end rfl rfl rfl ?_ | refine VD.mid rfl rfl rfl ?_); refine OpV.box rfl rfl rfl ?_; intro _; refine w ?_))
  (refine VE.done1 rfl ?_ ?_)
  · unfold looksM; rw [if_neg (by omega), if_neg (fun h => h hk), if_pos hn]
  · exact Ent.re
set_option maxHeartbeats 1000000 in
theorem read_good {W : World} {R0 R1 : List SProp} {ao : Option Addr} {cap : Nat} {l : List UInt8} (hr : Rds W R0 1 ao l.length (bytes l)) (hr1 : Rds W R1 1 ao l.length (bytes l)) (hcap : l.length ≤ cap) (k : UInt8) (hlk : looksM l k = 0)
    (g1 g2 : FuncId) (cap1 cap2 : Array Value) (hg1 : ∀ a w, (callFunc g1 a).run Try.prog w = .ok (.enter g1 a) w) (hg2 : ∀ a w, (callFunc g2 a).run Try.prog w = .ok (.enter g2 a) w) (C : List UInt8) (eC : Int)
    (rest : ∀ p, Does1 W Try.prog g1 ([.pointer (some ⟨p, 0, none⟩), .int .u64 (numAt l 8 8 : Nat), .int .u64 (numAt l 16 8 : Nat)] ++ cap1.toList) (ReaderR p ⟨l, 24, 0, 0⟩ :: R0) (.tuple #[]) R1)
    (again : Does W Try.prog g2 ([] ++ cap2.toList) R1 (β := Option Addr × Nat) (fun _ => True) (fun x => .tuple #[.slice x.1 C.length x.2, .int .u16 eC]) (fun x => OwnB x C :: R1)) :
    Does1 W Try.prog 94 [.slice ao l.length cap, .int .u8 (k.toNat : Int), .func (.func g1) #[] cap1, .func (.func g2) #[] cap2] R0 (.int .u16 (if eC = 0 ∧ C = l then 0 else 80)) R1 := by
  have h128 := looks_len hlk
  have hk : kindB l = k := by
    unfold looksM at hlk; rw [if_neg (by omega)] at hlk; split at hlk
    · cases hlk
    · rename_i h; exact Decidable.of_not_not h
  have hn : numAt l 124 4 = (crcS (l.take 124)).toNat := by
    unfold looksM at hlk; rw [if_neg (by omega), if_neg (fun h => h hk)] at hlk; split at hlk
    · cases hlk
    · rename_i h; exact Decidable.of_not_not h
  obtain ⟨a, rfl⟩ : ∃ a, ao = some a := by cases ao with | none => have := hr.nil rfl; omega | some a => exact ⟨a, rfl⟩
  have hp := rds_part hr 124 128 (by omega) (by omega) hcap
  rw [show 128 - 124 = 4 from rfl] at hp
  have hlt := numAt_lt l 124 4
  have h124 : (l.take 124).length = 124 := by rw [List.length_take]; omega
  (refine Does.enter Try.func94 Try.ntmps94 rfl rfl ?_)
  (refine w ?_; repeat ((first | refine VO.step rfl rfl ?_ | refine VD.end rfl rfl rfl ?_ | refine VD.mid rfl rfl rfl ?_); refine OpV.box rfl rfl rfl ?_; intro _; refine w ?_))
  (refine VC.condFe rfl rfl (by simp; omega) ?_)
  (refine w ?_; repeat ((first | refine VO.step rfl rfl ?_ | refine VD.end rfl rfl rfl ?_ | refine VD.mid rfl rfl rfl ?_); refine OpV.box rfl rfl rfl ?_; intro _; refine w ?_))
  ((first | refine VO.step rfl rfl ?_ | refine VD.end rfl rfl rfl ?_ | refine VD.mid rfl rfl rfl ?_); refine OpV.call rfl rfl (fun _ _ => by simp) (kind_ok hr hcap) Ent.refl rfl ?_)
  intro _ _
  rw [hk]
  (refine w ?_; repeat ((first | refine VO.step rfl rfl ?_ | refine VD.end rfl rfl rfl ?_ | refine VD.mid rfl rfl rfl ?_); refine OpV.box rfl rfl rfl ?_; intro _; refine w ?_))
  (refine VC.condFe rfl rfl (by simp) ?_)
  (refine w ?_; repeat ((first | refine VO.step rfl rfl ?_ | refine VD.end rfl rfl rfl ?_ | refine VD.mid rfl rfl rfl ?_); refine OpV.box rfl rfl rfl ?_; intro _; refine w ?_))
  refine VO.re 22 (.slice (subA (some a) cap 124 1) 4 (cap - 124)) rfl (by rw [h128]) ?_
  ((first | refine VO.step rfl rfl ?_ | refine VD.end rfl rfl rfl ?_ | refine VD.mid rfl rfl rfl ?_); refine OpV.call rfl rfl (fun _ _ => by simp) (read_ok hp (by omega)) Ent.re rfl ?_)
  intro q _
  (refine w ?_; repeat ((first | refine VO.step rfl rfl ?_ | refine VD.end rfl rfl rfl ?_ | refine VD.mid rfl rfl rfl ?_); refine OpV.box rfl rfl rfl ?_; intro _; refine w ?_))
  have hr2 := hr.ent (H := ReaderR q ⟨(l.drop 124).take 4, 0, 0, 0⟩ :: R0) (Ent.drop Ent.refl)
  have hg := Rk.got_good (k := ⟨(l.drop 124).take 4, 0, 0, 0⟩) (n := 4) rfl (by simp; omega)
  have hsum := sum_ok (cap := cap) (l := l.take 124) (W := W) (R := ReaderR q ⟨(l.drop 124).take 4, 4, 0, 0⟩ :: R0) (ao := some a) (by rw [h124]; exact rds_head (hr.ent (Ent.drop Ent.refl)) 124 (by omega)) (by omega)
  rw [h124] at hsum
  (refine VC.drawn [1] 4 [0, 2, 3, 1, 4, 5] R0 rfl (by kernel_rfl) (by kernel_rfl) Ent.re ?_)
  (refine w ?_; repeat ((first | refine VO.step rfl rfl ?_ | refine VD.end rfl rfl rfl ?_ | refine VD.mid rfl rfl rfl ?_); refine OpV.box rfl rfl rfl ?_; intro _; refine w ?_))
  (((first | refine VO.step rfl rfl ?_ | refine VD.end rfl rfl rfl ?_ | refine VD.mid rfl rfl rfl ?_); refine OpV.call rfl rfl (fun _ _ => by simp) (r32_ok q ⟨(l.drop 124).take 4, 0, 0, 0⟩) Ent.re rfl ?_); intro _ _)
  rw [hg.1, hg.2.2]
  dsimp only
  rw [show leVal (List.take 4 (List.drop 0 (List.take 4 (List.drop 124 l)))) = numAt l 124 4 by unfold numAt; rw [List.drop_zero, List.take_take]; rfl, Nat.zero_add]
  (refine w ?_; repeat ((first | refine VO.step rfl rfl ?_ | refine VD.end rfl rfl rfl ?_ | refine VD.mid rfl rfl rfl ?_); refine OpV.box rfl rfl rfl ?_; intro _; refine w ?_))
  ((first | refine VO.step rfl rfl ?_ | refine VD.end rfl rfl rfl ?_ | refine VD.mid rfl rfl rfl ?_); refine OpV.call rfl rfl (fun _ _ => by simp) (hsum) Ent.refl rfl ?_)
  intro _ _
  (refine w ?_; repeat ((first | refine VO.step rfl rfl ?_ | refine VD.end rfl rfl rfl ?_ | refine VD.mid rfl rfl rfl ?_); refine OpV.box rfl rfl rfl ?_; intro _; refine w ?_))
  (refine VC.condFe rfl rfl (by simp; omega) ?_)
  (refine w ?_; repeat ((first | refine VO.step rfl rfl ?_ | refine VD.end rfl rfl rfl ?_ | refine VD.mid rfl rfl rfl ?_); refine OpV.box rfl rfl rfl ?_; intro _; refine w ?_))
  (first | refine VO.step rfl rfl ?_ | refine VD.end rfl rfl rfl ?_ | refine VD.mid rfl rfl rfl ?_)
  refine OpV.call rfl rfl (fun _ _ => by simp) (read_ok (R := R0) hr (by omega)) Ent.re rfl ?_
  intro p _
  (refine w ?_; repeat ((first | refine VO.step rfl rfl ?_ | refine VD.end rfl rfl rfl ?_ | refine VD.mid rfl rfl rfl ?_); refine OpV.box rfl rfl rfl ?_; intro _; refine w ?_))
  ((first | refine VO.step rfl rfl ?_ | refine VD.end rfl rfl rfl ?_ | refine VD.mid rfl rfl rfl ?_); refine OpV.call rfl rfl (fun _ _ => by simp) (rraw_ok p ⟨l, 0, 0, 0⟩ 8) Ent.re rfl ?_)
  rintro ⟨ra, rc⟩ -
  rw [show (Rk.mk l 0 0 0).raw 8 = ⟨l, 8, 0, 0⟩ by unfold Rk.raw; rw [if_neg (by decide)]; exact (Rk.got_good (k := ⟨l, 0, 0, 0⟩) (n := 8) rfl (by simp only; omega)).2.2]
  have g8 := Rk.got_good (k := ⟨l, 8, 0, 0⟩) (n := 8) rfl (by simp only; omega)
  have g16 := Rk.got_good (k := ⟨l, 16, 0, 0⟩) (n := 8) rfl (by simp only; omega)
  (refine w ?_; repeat ((first | refine VO.step rfl rfl ?_ | refine VD.end rfl rfl rfl ?_ | refine VD.mid rfl rfl rfl ?_); refine OpV.box rfl rfl rfl ?_; intro _; refine w ?_))
  ((first | refine VO.step rfl rfl ?_ | refine VD.end rfl rfl rfl ?_ | refine VD.mid rfl rfl rfl ?_); refine OpV.call rfl rfl (fun _ _ => by simp) (r64_ok p ⟨l, 8, 0, 0⟩) Ent.re rfl ?_)
  intro _ _
  rw [g8.1, g8.2.2]
  dsimp only
  (refine w ?_; repeat ((first | refine VO.step rfl rfl ?_ | refine VD.end rfl rfl rfl ?_ | refine VD.mid rfl rfl rfl ?_); refine OpV.box rfl rfl rfl ?_; intro _; refine w ?_))
  ((first | refine VO.step rfl rfl ?_ | refine VD.end rfl rfl rfl ?_ | refine VD.mid rfl rfl rfl ?_); refine OpV.call rfl rfl (fun _ _ => by simp) (r64_ok p ⟨l, 16, 0, 0⟩) Ent.re rfl ?_)
  intro _ _
  rw [g16.1, g16.2.2]
  dsimp only
  (refine w ?_; repeat ((first | refine VO.step rfl rfl ?_ | refine VD.end rfl rfl rfl ?_ | refine VD.mid rfl rfl rfl ?_); refine OpV.box rfl rfl rfl ?_; intro _; refine w ?_))
  (first | refine VO.step rfl rfl ?_ | refine VD.end rfl rfl rfl ?_ | refine VD.mid rfl rfl rfl ?_)
  refine OpV.call rfl rfl hg1 (rest p) Ent.re rfl ?_
  intro _ _
  (refine w ?_; repeat ((first | refine VO.step rfl rfl ?_ | refine VD.end rfl rfl rfl ?_ | refine VD.mid rfl rfl rfl ?_); refine OpV.box rfl rfl rfl ?_; intro _; refine w ?_))
  (first | refine VO.step rfl rfl ?_ | refine VD.end rfl rfl rfl ?_ | refine VD.mid rfl rfl rfl ?_)
  refine OpV.call rfl rfl hg2 again Ent.re rfl ?_
  rintro ⟨xa, xc⟩ -
  refine VO.know (p := xa = none → C.length = 0) (fun w hw => hw.ownNone (.head _)) ?_
  intro hxn
  (refine w ?_; repeat ((first | refine VO.step rfl rfl ?_ | refine VD.end rfl rfl rfl ?_ | refine VD.mid rfl rfl rfl ?_); refine OpV.box rfl rfl rfl ?_; intro _; refine w ?_))
  ((first | refine VO.split rfl rfl rfl ?_ ?_ | refine VD.split rfl rfl rfl ?_ ?_) <;> intro hb)
  · have hb : eC ≠ 0 := by simpa using hb
    (refine w ?_; repeat ((first | refine VO.step rfl rfl ?_ | refine VD.end rfl rfl rfl ?_ | refine VD.mid rfl rfl rfl ?_); refine OpV.box rfl rfl rfl ?_; intro _; refine w ?_))
    (refine VE.done1 rfl ?_ ?_)
    · rw [if_neg (fun h => hb h.1)]
    · exact Ent.re
  have hb : eC = 0 := by simpa using hb
  (refine w ?_; repeat ((first | refine VO.step rfl rfl ?_ | refine VD.end rfl rfl rfl ?_ | refine VD.mid rfl rfl rfl ?_); refine OpV.box rfl rfl rfl ?_; intro _; refine w ?_))
  ((first | refine VO.step rfl rfl ?_ | refine VD.end rfl rfl rfl ?_ | refine VD.mid rfl rfl rfl ?_); refine OpV.call rfl rfl (fun _ _ => by simp) (equal_ok (hr1.ent (Ent.drop Ent.refl)) (own_rds (x := (xa, xc)) hxn (.head _))) Ent.refl rfl ?_)
  intro _ _
  (refine w ?_; repeat ((first | refine VO.step rfl rfl ?_ | refine VD.end rfl rfl rfl ?_ | refine VD.mid rfl rfl rfl ?_); refine OpV.box rfl rfl rfl ?_; intro _; refine w ?_))
  (refine VC.cond rfl rfl ?_ ?_ <;> intro hc)
  · have hne : ¬ C = l := by have hc := hc; simp at hc; exact fun h => hc h.symm
    (refine w ?_; repeat ((first | refine VO.step rfl rfl ?_ | refine VD.end rfl rfl rfl ?_ | refine VD.mid rfl rfl rfl ?_); refine OpV.box rfl rfl rfl ?_; intro _; refine w ?_))
    (refine VE.done1 rfl ?_ ?_)
    · rw [if_neg (fun h => hne h.2)]
    · exact Ent.re
  · have he : C = l := by have hc := hc; simp at hc; exact hc.symm
    (refine w ?_; repeat ((first | refine VO.step rfl rfl ?_ | refine VD.end rfl rfl rfl ?_ | refine VD.mid rfl rfl rfl ?_); refine OpV.box rfl rfl rfl ?_; intro _; refine w ?_))
    (refine VE.done1 rfl ?_ ?_)
    · rw [if_pos ⟨hb, he⟩]
    · exact Ent.re

theorem hdr2_ok {W : World} {R : List SProp} (h : HdrD) (hf : h.fit) (hb : Nat) :
    Does W Try.prog 99 [.pointer (some ⟨hb, 0, none⟩)] (Row hb 90 h.cells :: R) (β := Option Addr × Nat) (fun _ => True) (fun x => .tuple #[.slice x.1 h.enc.2.length x.2, .int .u16 h.enc.1]) (fun x => OwnB x h.enc.2 :: Row hb 90 h.cells :: R) := by
  (refine Does.enter Try.func99 Try.ntmps99 rfl rfl ?_)
  (refine w ?_; repeat ((first | refine VO.step rfl rfl ?_ | refine VD.end rfl rfl rfl ?_ | refine VD.mid rfl rfl rfl ?_); refine OpV.box rfl rfl rfl ?_; intro _; refine w ?_))
  ((first | refine VO.step rfl rfl ?_ | refine VD.end rfl rfl rfl ?_ | refine VD.mid rfl rfl rfl ?_); refine OpV.call rfl rfl (fun _ _ => by simp) (ench_ok h hf) Ent.re rfl ?_)
  rintro ⟨a1, c1⟩ -
  (refine w ?_; repeat ((first | refine VO.step rfl rfl ?_ | refine VD.end rfl rfl rfl ?_ | refine VD.mid rfl rfl rfl ?_); refine OpV.box rfl rfl rfl ?_; intro _; refine w ?_))
  exact VE.done (a1, c1) rfl trivial rfl Ent.re

theorem cmt2_ok {W : World} {R : List SProp} (h : CmtD) (hf : h.fit) (hb : Nat) :
    Does W Try.prog 97 [.pointer (some ⟨hb, 0, none⟩)] (Row hb 95 h.cells :: R) (β := Option Addr × Nat) (fun _ => True) (fun x => .tuple #[.slice x.1 h.enc.2.length x.2, .int .u16 h.enc.1]) (fun x => OwnB x h.enc.2 :: Row hb 95 h.cells :: R) := by
  (refine Does.enter Try.func97 Try.ntmps97 rfl rfl ?_)
  (refine w ?_; repeat ((first | refine VO.step rfl rfl ?_ | refine VD.end rfl rfl rfl ?_ | refine VD.mid rfl rfl rfl ?_); refine OpV.box rfl rfl rfl ?_; intro _; refine w ?_))
  ((first | refine VO.step rfl rfl ?_ | refine VD.end rfl rfl rfl ?_ | refine VD.mid rfl rfl rfl ?_); refine OpV.call rfl rfl (fun _ _ => by simp) (encc_ok h hf) Ent.re rfl ?_)
  rintro ⟨a1, c1⟩ -
  (refine w ?_; repeat ((first | refine VO.step rfl rfl ?_ | refine VD.end rfl rfl rfl ?_ | refine VD.mid rfl rfl rfl ?_); refine OpV.box rfl rfl rfl ?_; intro _; refine w ?_))
  exact VE.done (a1, c1) rfl trivial rfl Ent.re

theorem cmtR_ok {W : World} {R : List SProp} {l : List UInt8} (hl : l.length = 128) (p hb : Nat) :
    Does1 W Try.prog 95 [.pointer (some ⟨p, 0, none⟩), .int .u64 (numAt l 8 8 : Nat), .int .u64 (numAt l 16 8 : Nat), .pointer (some ⟨hb, 0, none⟩)] (ReaderR p ⟨l, 24, 0, 0⟩ :: Row hb 95 zeroC.cells :: R) (.tuple #[]) (Row hb 95 (CmtD.parse l).cells :: R) := by
  have g24 := Rk.got_good (k := ⟨l, 24, 0, 0⟩) (n := 4) rfl (by simp only; omega)
  have g28 := Rk.got_good (k := ⟨l, 28, 0, 0⟩) (n := 4) rfl (by simp only; omega)
  have hlt := numAt_lt l
  (refine Does.enter Try.func95 Try.ntmps95 rfl rfl ?_)
  (refine w ?_; repeat ((first | refine VO.step rfl rfl ?_ | refine VD.end rfl rfl rfl ?_ | refine VD.mid rfl rfl rfl ?_); refine OpV.box rfl rfl rfl ?_; intro _; refine w ?_))
  (((first | refine VO.step rfl rfl ?_ | refine VD.end rfl rfl rfl ?_ | refine VD.mid rfl rfl rfl ?_); refine OpV.call rfl rfl (fun _ _ => by simp) (r32_ok p ⟨l, 24, 0, 0⟩) Ent.re rfl ?_); intro _ _)
  rw [g24.1, g24.2.2]
  dsimp only
  (refine w ?_; repeat ((first | refine VO.step rfl rfl ?_ | refine VD.end rfl rfl rfl ?_ | refine VD.mid rfl rfl rfl ?_); refine OpV.box rfl rfl rfl ?_; intro _; refine w ?_))
  refine VO.re 11 (.int .i64 (CmtD.parse l).count) rfl (by rw [show leVal (List.take 4 (List.drop 24 l)) = numAt l 24 4 from rfl, i64_nat (hlt 24 4)]; rfl) ?_
  (((first | refine VO.step rfl rfl ?_ | refine VD.end rfl rfl rfl ?_ | refine VD.mid rfl rfl rfl ?_); refine OpV.call rfl rfl (fun _ _ => by simp) (r32_ok p ⟨l, 28, 0, 0⟩) Ent.re rfl ?_); intro _ _)
  rw [g28.1, g28.2.2]
  dsimp only
  (refine w ?_; repeat ((first | refine VO.step rfl rfl ?_ | refine VD.end rfl rfl rfl ?_ | refine VD.mid rfl rfl rfl ?_); refine OpV.box rfl rfl rfl ?_; intro _; refine w ?_))
  (apply VO.pure rfl rfl; apply PureAt.build sb_95 rfl; (simp [buildX, setL, Value.cells]; rfl); rfl)
  (first | refine VO.step rfl rfl ?_ | refine VD.end rfl rfl rfl ?_ | refine VD.mid rfl rfl rfl ?_)
  refine OpV.stA (vs := (CmtD.parse l).cells) tab_ok rfl rfl rfl rfl (cmt_one _) (by (repeat first | exact .head | apply Hole.tail)) (by simp) ?_
  (refine w ?_; repeat ((first | refine VO.step rfl rfl ?_ | refine VD.end rfl rfl rfl ?_ | refine VD.mid rfl rfl rfl ?_); refine OpV.box rfl rfl rfl ?_; intro _; refine w ?_))
  (refine VE.done1N rfl rfl ?_)
  exact Ent.re (L := Row hb 95 (CmtD.parse l).cells :: R)
end Go.Proofs.Ytlojjlbngnaphaa

