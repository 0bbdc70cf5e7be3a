import Derived.Test.YtpmmkmcbimnigaaGreatM2
import Derived.Test.YtpmmkmcbimnigaaGreatRows
/-! Text Tab. -/
/- Written by program (wip/tab.py): what the program's table of types says, each line held by the kernel. -/
namespace Go.Proofs.YtpmmkmcbimnigaaGreat
open Go.Sl
def tab : TabData where
  flds := [(7, [0, 1, 2, 3]), (8, [0, 1, 2, 3]), (13, [0, 1]), (14, [0, 1]), (18, [0]), (19, [0]), (34, [0, 1, 2, 3]), (35, [0, 1, 2, 3]), (38, [0, 1, 2]), (39, [0, 1, 2]), (57, [0, 1, 2, 3, 4, 5, 6, 7, 8, 9, 10, 11]), (58, [0, 1, 2, 3, 4, 5, 6, 7, 8, 9, 10, 11]), (69, [0, 1, 2, 3]), (70, [0, 1, 2, 3]), (75, [0, 1, 2]), (76, [0, 1, 2]), (77, [0, 1, 2]), (78, [0, 1, 2]), (80, [0, 1, 2, 3]), (81, [0, 1, 2, 3]), (83, [0, 1, 2, 3, 4, 5]), (84, [0, 1, 2, 3, 4, 5]), (136, [0, 1, 2, 3]), (137, [0, 1, 2, 3]), (139, [0, 1, 2]), (140, [0, 1, 2]), (145, [0, 1]), (146, [0, 1]), (150, [0, 1]), (151, [0, 1]), (155, [0, 1, 2, 3]), (156, [0, 1, 2, 3]), (169, [0, 1]), (170, [0, 1]), (174, [0, 1]), (175, [0, 1]), (177, [0, 1, 2]), (178, [0, 1, 2]), (180, [0, 1]), (181, [0, 1]), (187, [0, 1, 2, 3]), (188, [0, 1, 2, 3]), (198, [0, 1, 2, 3, 4, 5, 6, 7, 8, 9, 10]), (199, [0, 1, 2, 3, 4, 5, 6, 7, 8, 9, 10])]
  leaf := [(1, ()), (2, ()), (3, ()), (4, ()), (5, ()), (6, ()), (9, ()), (10, ()), (11, ()), (12, ()), (15, ()), (16, ()), (17, ()), (20, ()), (21, ()), (22, ()), (23, ()), (24, ()), (25, ()), (26, ()), (27, ()), (29, ()), (30, ()), (32, ()), (33, ()), (36, ()), (37, ()), (40, ()), (42, ()), (43, ()), (44, ()), (45, ()), (46, ()), (47, ()), (48, ()), (49, ()), (50, ()), (51, ()), (52, ()), (53, ()), (54, ()), (55, ()), (56, ()), (59, ()), (60, ()), (61, ()), (62, ()), (63, ()), (65, ()), (66, ()), (67, ()), (68, ()), (71, ()), (73, ()), (74, ()), (79, ()), (82, ()), (86, ()), (87, ()), (88, ()), (89, ()), (90, ()), (91, ()), (92, ()), (93, ()), (94, ()), (96, ()), (97, ()), (98, ()), (99, ()), (100, ()), (101, ()), (102, ()), (103, ()), (104, ()), (105, ()), (106, ()), (107, ()), (108, ()), (109, ()), (110, ()), (111, ()), (112, ()), (113, ()), (114, ()), (115, ()), (116, ()), (117, ()), (118, ()), (120, ()), (121, ()), (122, ()), (123, ()), (124, ()), (125, ()), (126, ()), (127, ()), (128, ()), (129, ()), (130, ()), (131, ()), (132, ()), (133, ()), (134, ()), (135, ()), (138, ()), (141, ()), (142, ()), (143, ()), (144, ()), (147, ()), (152, ()), (153, ()), (154, ()), (157, ()), (158, ()), (159, ()), (160, ()), (161, ()), (162, ()), (163, ()), (164, ()), (165, ()), (166, ()), (167, ()), (168, ()), (171, ()), (172, ()), (173, ()), (176, ()), (179, ()), (183, ()), (184, ()), (185, ()), (186, ()), (192, ()), (193, ()), (194, ()), (195, ()), (196, ()), (197, ()), (200, ())]
  aggs := [(7, 4), (8, 4), (13, 2), (14, 2), (18, 1), (19, 1), (34, 4), (35, 4), (38, 3), (39, 3), (57, 12), (58, 12), (69, 6), (70, 6), (75, 3), (76, 3), (77, 3), (78, 3), (80, 6), (81, 6), (83, 6), (84, 6), (136, 4), (137, 4), (139, 3), (140, 3), (145, 2), (146, 2), (148, 128), (149, 128), (150, 129), (151, 129), (155, 4), (156, 4), (169, 2), (170, 2), (174, 2), (175, 2), (177, 3), (178, 3), (180, 2), (181, 2), (182, 16), (187, 4), (188, 4), (189, 0), (190, 0), (191, 0), (198, 11), (199, 11)]
  sls := [(22, 5), (23, 35), (24, 3), (45, 22), (46, 164), (47, 24), (48, 166), (49, 167), (50, 168), (51, 171), (52, 147), (53, 45), (54, 173), (55, 176), (56, 179), (68, 78), (79, 84), (133, 149), (135, 151), (138, 146), (147, 4), (164, 9), (166, 157), (167, 27), (168, 170), (171, 172), (173, 175), (176, 178), (179, 181)]
  ints := [(2, .i64), (3, .i64), (5, .u8), (6, .u8), (12, .u64), (21, .i32), (26, .u16), (27, .u16), (106, .u32), (108, .u64), (157, .u64), (172, .u8), (192, .u8), (193, .u8), (196, .i32), (197, .i32)]
  descs := [(4, 1, 0), (9, 2, 0), (10, 2, 0), (11, 2, 0), (15, 0, 188), (16, 0, 191), (17, 0, 199), (25, 0, 70), (30, 0, 81), (44, 0, 58), (71, 0, 137), (74, 0, 76), (82, 0, 140), (98, 0, 78), (100, 0, 84), (112, 0, 156), (141, 0, 3), (142, 0, 39), (195, 0, 5)]
theorem tab_ok : tab.ok Tryz.prog = true := by kernel_rfl
theorem st_22 : SliceT Tryz.prog 22 5 (.int .u8 0) 1 1 := ⟨by kernel_rfl, by kernel_rfl, rfl, by simp [Value.cells, Value.oneCell']⟩
theorem st_24 : SliceT Tryz.prog 24 3 (.int .i64 0) 1 8 := ⟨by kernel_rfl, by kernel_rfl, rfl, by simp [Value.cells, Value.oneCell']⟩
theorem st_45 : SliceT Tryz.prog 45 22 (.slice none 0 0) 1 24 := ⟨by kernel_rfl, by kernel_rfl, rfl, by simp [Value.cells, Value.oneCell']⟩
theorem st_52 : SliceT Tryz.prog 52 147 (.slice none 0 0) 1 24 := ⟨by kernel_rfl, by kernel_rfl, rfl, by simp [Value.cells, Value.oneCell']⟩
theorem st_53 : SliceT Tryz.prog 53 45 (.slice none 0 0) 1 24 := ⟨by kernel_rfl, by kernel_rfl, rfl, by simp [Value.cells, Value.oneCell']⟩
theorem st_55 : SliceT Tryz.prog 55 176 (.slice none 0 0) 1 24 := ⟨by kernel_rfl, by kernel_rfl, rfl, by simp [Value.cells, Value.oneCell']⟩
theorem st_56 : SliceT Tryz.prog 56 179 (.slice none 0 0) 1 24 := ⟨by kernel_rfl, by kernel_rfl, rfl, by simp [Value.cells, Value.oneCell']⟩
theorem st_138 : SliceT Tryz.prog 138 146 (.agg #[.int .i64 0, .slice none 0 0]) 2 32 := ⟨by kernel_rfl, by kernel_rfl, rfl, by simp [Value.cells, Value.oneCell']⟩
theorem st_176 : SliceT Tryz.prog 176 178 (.agg #[.int .i64 0, .int .i64 0, .slice none 0 0]) 3 40 := ⟨by kernel_rfl, by kernel_rfl, rfl, by simp [Value.cells, Value.oneCell']⟩
theorem st_179 : SliceT Tryz.prog 179 181 (.agg #[.int .u64 0, .slice none 0 0]) 2 32 := ⟨by kernel_rfl, by kernel_rfl, rfl, by simp [Value.cells, Value.oneCell']⟩
theorem sb_39 : StructT Tryz.prog 39 [.int .i64 0, .int .i64 0, .int .i64 0] [(0, 1), (1, 1), (2, 1)] := ⟨fun w => by simp, _, Tryz.underlying39, fun w => by simp⟩
theorem sb_58 : StructT Tryz.prog 58 [.slice none 0 0, .slice none 0 0, .slice none 0 0, .slice none 0 0, .slice none 0 0, .slice none 0 0, .slice none 0 0, .slice none 0 0, .slice none 0 0, .slice none 0 0, .slice none 0 0, .slice none 0 0] [(0, 1), (1, 1), (2, 1), (3, 1), (4, 1), (5, 1), (6, 1), (7, 1), (8, 1), (9, 1), (10, 1), (11, 1)] := ⟨fun w => by simp, _, Tryz.underlying58, fun w => by simp⟩
theorem sb_70 : StructT Tryz.prog 70 [.slice none 0 0, .bool false, .int .i64 0, .int .i64 0, .int .i64 0, .int .i64 0] [(0, 1), (1, 1), (2, 1), (3, 3)] := ⟨fun w => by simp, _, Tryz.underlying70, fun w => by simp⟩
theorem sb_76 : StructT Tryz.prog 76 [.pointer none, .bool false, .int .i64 0] [(0, 1), (1, 1), (2, 1)] := ⟨fun w => by simp, _, Tryz.underlying76, fun w => by simp⟩
theorem sb_81 : StructT Tryz.prog 81 [.slice none 0 0, .bool false, .int .i64 0, .int .i64 0, .int .i64 0, .int .i64 0] [(0, 1), (1, 1), (2, 1), (3, 3)] := ⟨fun w => by simp, _, Tryz.underlying81, fun w => by simp⟩
theorem sb_84 : StructT Tryz.prog 84 [.pointer none, .pointer none, .pointer none, .int .i64 0, .int .i64 0, .int .i64 0] [(0, 1), (1, 1), (2, 1), (3, 1), (4, 1), (5, 1)] := ⟨fun w => by simp, _, Tryz.underlying84, fun w => by simp⟩
theorem sb_137 : StructT Tryz.prog 137 [.slice none 0 0, .slice none 0 0, .map none, .bool false] [(0, 1), (1, 1), (2, 1), (3, 1)] := ⟨fun w => by simp, _, Tryz.underlying137, fun w => by simp⟩
theorem sb_140 : StructT Tryz.prog 140 [.slice none 0 0, .slice none 0 0, .bool false] [(0, 1), (1, 1), (2, 1)] := ⟨fun w => by simp, _, Tryz.underlying140, fun w => by simp⟩
theorem sb_146 : StructT Tryz.prog 146 [.int .i64 0, .slice none 0 0] [(0, 1), (1, 1)] := ⟨fun w => by simp, _, Tryz.underlying146, fun w => by simp⟩
theorem sb_156 : StructT Tryz.prog 156 [.slice none 0 0, .int .i64 0, .int .u16 0, .int .i64 0] [(0, 1), (1, 1), (2, 1), (3, 1)] := ⟨fun w => by simp, _, Tryz.underlying156, fun w => by simp⟩
theorem sb_178 : StructT Tryz.prog 178 [.int .i64 0, .int .i64 0, .slice none 0 0] [(0, 1), (1, 1), (2, 1)] := ⟨fun w => by simp, _, Tryz.underlying178, fun w => by simp⟩
theorem sb_181 : StructT Tryz.prog 181 [.int .u64 0, .slice none 0 0] [(0, 1), (1, 1)] := ⟨fun w => by simp, _, Tryz.underlying181, fun w => by simp⟩
end Go.Proofs.YtpmmkmcbimnigaaGreat

/-! Text Le. -/
/- What the packer's and the reader's functions do, over resources. -/
set_option maxRecDepth 8000
set_option linter.unusedVariables false
set_option linter.unusedSimpArgs false
set_option linter.unusedSectionVars false
namespace Go.Proofs.YtpmmkmcbimnigaaGreat
open Go.RowKit Go.Sl

def byteV (c : UInt8) : Value := .int .u8 (c.toNat : Int)
@[simp] theorem byteV_one (c : UInt8) : (byteV c).oneCell' = true := rfl
def bytes (l : List UInt8) : List Value := l.map byteV
@[simp] theorem bytes_one (l : List UInt8) : ∀ u ∈ bytes l, u.oneCell' = true := by
  intro u hu; obtain ⟨c, _, rfl⟩ := List.mem_map.1 hu; rfl
@[simp] theorem bytes_length (l : List UInt8) : (bytes l).length = l.length := by simp [bytes]
theorem bytes_append (a b : List UInt8) : bytes (a ++ b) = bytes a ++ bytes b := by simp [bytes]
theorem bytes_replicate (n : Nat) : bytes (List.replicate n 0) = List.replicate n (.int .u8 0) := by simp [bytes, byteV]

structure Pk where
  size : Nat
  had : List UInt8
  bad : Int

def Pk.ok (k : Pk) : Prop := k.had.length ≤ k.size ∧ k.size ≤ 4096 ∧ (k.bad = 0 ∨ k.bad = 10)

def Pk.room (k : Pk) (n : Int) : Pk := if k.bad = 0 ∧ (k.size : Int) - k.had.length < n then { k with bad := 10 } else k

/-- The lowest j bytes of v. -/
def lowBytes (v : Nat) : Nat → List UInt8
  | 0 => []
  | j + 1 => lowBytes v j ++ [UInt8.ofNat (v / 256 ^ j)]
theorem lowBytes_length (v j : Nat) : (lowBytes v j).length = j := by induction j <;> simp [lowBytes, *]

def Pk.number (k : Pk) (v width : Nat) : Pk := if (k.room width).bad = 0 then { k with had := k.had ++ lowBytes v width } else k.room width

theorem ldB {W : World} {P : Program} {n : Nat} {H : List SProp} {f : Fr} {dst : Option Tmp} {ty_ : TypeId} {pos : String} {after : Array Edge} {guard : Option (Nat × Bool)} {T : TabData} {x : Operand} {s : TypeId} {a : Addr} {k j : Nat} {l : List UInt8} (hT : T.ok P = true) (hx : evalX f x = some (.pointer (some (a.add j)))) (hl : assoc T.leaf s = some ()) (hr : Rds W H 1 (some a) k (bytes l)) (hj : j < l.length) :
    PureAt W P n H f { dst, op := .load s x, type := ty_, pos, after, guard } (.int .u8 (l[j].toNat : Int)) :=
  PureAt.ldR hT hx hl hr (by simp [bytes, byteV, hj])

theorem wrap64_of {v : Nat} (h : v < 2 ^ 64) : IntKind.u64.wrap (v : Int) = v := by
  simp only [IntKind.wrap, IntKind.bits, IntKind.signed, Bool.false_and, Bool.false_eq_true, if_false]
  omega
theorem wrap32_of (v : Nat) : IntKind.u32.wrap (v : Int) = ((v % 2 ^ 32 : Nat) : Int) := by
  simp only [IntKind.wrap, IntKind.bits, IntKind.signed, Bool.false_and, Bool.false_eq_true, if_false]
  omega
theorem wrap16_of (v : Nat) : IntKind.u16.wrap (v : Int) = ((v % 2 ^ 16 : Nat) : Int) := by
  simp only [IntKind.wrap, IntKind.bits, IntKind.signed, Bool.false_and, Bool.false_eq_true, if_false]
  omega
theorem wrap8_of (v : Nat) : IntKind.u8.wrap (v : Int) = ((v % 2 ^ 8 : Nat) : Int) := by
  simp only [IntKind.wrap, IntKind.bits, IntKind.signed, Bool.false_and, Bool.false_eq_true, if_false]
  omega

/-- All bytes of a packer, noughts behind what was put. -/
def Pk.image (k : Pk) : List UInt8 := k.had ++ List.replicate (k.size - k.had.length) 0

theorem same_any {W : World} {R : List SProp} {ao ao' : Option Addr} {n n' cap cap' : Nat} {a b : List UInt8} (ha : Rds W R 1 ao n (bytes a)) (hb : Rds W R 1 ao' n' (bytes b)) (hn : n ≤ maxLen) :
    Does1 W Tryz.prog 19 [.slice ao n cap, .slice ao' n' cap'] R (.bool (decide (a = b))) R := by
  have la : a.length = n := by have := ha.len; simpa using this
  have lb : b.length = n' := by have := hb.len; simpa using this
  unfold maxLen at hn
  (refine Does.enter Tryz.func19 Tryz.ntmps19 rfl rfl ?_)
  (refine w ?_; repeat ((first | refine VO.step rfl rfl ?_ | refine VD.end rfl rfl rfl ?_ | refine VD.mid rfl rfl rfl ?_); refine OpV.box rfl rfl rfl ?_; intro _; refine w ?_))
  by_cases hl : n = n'
  · subst hl
    (refine VC.condFe rfl rfl (by simp) ?_)
    (refine w ?_; repeat ((first | refine VO.step rfl rfl ?_ | refine VD.end rfl rfl rfl ?_ | refine VD.mid rfl rfl rfl ?_); refine OpV.box rfl rfl rfl ?_; intro _; refine w ?_))
    refine VC.loop (α := Nat) (fun j => j ≤ n ∧ ∀ i (h : i < a.length) (h' : i < b.length), i < j → a[i] = b[i]) (fun j => R)
      (fun j => [(0, .slice ao n cap), (1, .slice ao' n cap'), (5, .int .i64 j)]) (fun j => n - j) rfl 0 ⟨Nat.zero_le _, fun _ _ _ h => absurd h (by omega)⟩ Ent.refl ⟨rfl, rfl, rfl, trivial⟩ ?_
    rintro j ⟨hj, hi⟩
    (refine w ?_; repeat ((first | refine VO.step rfl rfl ?_ | refine VD.end rfl rfl rfl ?_ | refine VD.mid rfl rfl rfl ?_); refine OpV.box rfl rfl rfl ?_; intro _; refine w ?_))
    (refine VC.cond rfl rfl ?_ ?_ <;> intro hc)
    · have hlt : j < n := by simpa using hc
      obtain ⟨a0, rfl⟩ : ∃ a0, ao = some a0 := by cases ao with | none => have := ha.nil rfl; omega | some a0 => exact ⟨a0, rfl⟩
      obtain ⟨b0, rfl⟩ : ∃ b0, ao' = some b0 := by cases ao' with | none => have := hb.nil rfl; omega | some b0 => exact ⟨b0, rfl⟩
      have hb1 := ha
      have hb2 := hb
      (refine w ?_; repeat ((first | refine VO.step rfl rfl ?_ | refine VD.end rfl rfl rfl ?_ | refine VD.mid rfl rfl rfl ?_); refine OpV.box rfl rfl rfl ?_; intro _; refine w ?_))
      ((refine VC.quiet rfl (by kernel_rfl) (by kernel_rfl) ?_); (refine w ?_; repeat ((first | refine VO.step rfl rfl ?_ | refine VD.end rfl rfl rfl ?_ | refine VD.mid rfl rfl rfl ?_); refine OpV.box rfl rfl rfl ?_; intro _; refine w ?_)))
      (refine VC.cond rfl rfl ?_ ?_ <;> intro hc)
      · (refine w ?_; repeat ((first | refine VO.step rfl rfl ?_ | refine VD.end rfl rfl rfl ?_ | refine VD.mid rfl rfl rfl ?_); refine OpV.box rfl rfl rfl ?_; intro _; refine w ?_))
        (refine VE.done1 rfl ?_ ?_)
        · have hne : a[j]'(by omega) ≠ b[j]'(by omega) := by
            intro e; rw [e] at hc; simp at hc
          have : a ≠ b := fun e => hne (by subst e; rfl)
          simp [this]
        · exact Ent.refl
      · (refine w ?_; repeat ((first | refine VO.step rfl rfl ?_ | refine VD.end rfl rfl rfl ?_ | refine VD.mid rfl rfl rfl ?_); refine OpV.box rfl rfl rfl ?_; intro _; refine w ?_))
        have he : a[j]'(by omega) = b[j]'(by omega) := by
          have : ((a[j]'(by omega)).toNat : Int) = ((b[j]'(by omega)).toNat : Int) := by simpa using hc
          exact UInt8.toNat_inj.1 (by omega)
        refine VE.round (j + 1) ⟨by omega, fun i h h' hij => ?_⟩ (by omega) ⟨rfl, rfl, rfl, trivial⟩ Ent.refl
        by_cases e : i = j
        · subst e; exact he
        · exact hi i h h' (by omega)
    · have hge : j = n := by have : ¬ j < n := by simpa using hc
                             omega
      (refine w ?_; repeat ((first | refine VO.step rfl rfl ?_ | refine VD.end rfl rfl rfl ?_ | refine VD.mid rfl rfl rfl ?_); refine OpV.box rfl rfl rfl ?_; intro _; refine w ?_))
      (refine VE.done1 rfl ?_ ?_)
      · have : a = b := List.ext_getElem (by omega) fun i h h' => hi i h h' (by omega)
        simp [this]
      · exact Ent.refl
  · (refine VC.condTe rfl rfl (by simp; omega) ?_)
    (refine w ?_; repeat ((first | refine VO.step rfl rfl ?_ | refine VD.end rfl rfl rfl ?_ | refine VD.mid rfl rfl rfl ?_); refine OpV.box rfl rfl rfl ?_; intro _; refine w ?_))
    (refine VE.done1 rfl ?_ ?_)
    · have : a ≠ b := fun e => hl (by subst e; omega)
      simp [this]
    · exact Ent.refl

end Go.Proofs.YtpmmkmcbimnigaaGreat

/-! Text Lr. -/
/- What the reader's functions do, over resources. -/
set_option maxRecDepth 8000
set_option linter.unusedVariables false
set_option linter.unusedSimpArgs false
set_option linter.unusedSectionVars false
namespace Go.Proofs.YtpmmkmcbimnigaaGreat
open Go.RowKit Go.Sl

theorem clone_ok {W : World} {R : List SProp} {ao : Option Addr} {n cap : Nat} {xs : List Value} (ha : Rds W R 1 ao n xs) (hn : n ≤ 1099511627776) :
    Does W Tryz.prog 98 [.slice ao n cap] R (β := Option Addr × Nat) (fun _ => True) (fun x => .slice x.1 n x.2) (fun x => Own 5 1 (.slice x.1 n x.2) n xs :: R) := by
  (refine Does.enter Tryz.func98 Tryz.ntmps98 rfl rfl ?_)
  (refine w ?_; repeat ((first | refine VO.step rfl rfl ?_ | refine VD.end rfl rfl rfl ?_ | refine VD.mid rfl rfl rfl ?_); refine OpV.box rfl rfl rfl ?_; intro _; refine w ?_))
  cases ao with
  | none =>
    have h0 := ha.nil rfl
    subst h0
    have hx : xs = [] := List.eq_nil_of_length_eq_zero (by simpa using ha.len)
    subst hx
    (refine VC.condTe rfl rfl (rfl) ?_)
    (refine w ?_; repeat ((first | refine VO.step rfl rfl ?_ | refine VD.end rfl rfl rfl ?_ | refine VD.mid rfl rfl rfl ?_); refine OpV.box rfl rfl rfl ?_; intro _; refine w ?_))
    exact VE.done (none, 0) rfl trivial rfl fun w hw => hw.ownNil _ _
  | some a =>
    (refine VC.condFe rfl rfl (rfl) ?_)
    (refine w ?_; repeat ((first | refine VO.step rfl rfl ?_ | refine VD.end rfl rfl rfl ?_ | refine VD.mid rfl rfl rfl ?_); refine OpV.box rfl rfl rfl ?_; intro _; refine w ?_))
    ((first | refine VO.step rfl rfl ?_ | refine VD.end rfl rfl rfl ?_ | refine VD.mid rfl rfl rfl ?_); refine OpV.buildSlice1 st_22 rfl rfl (by first | (simp; done) | simp [Value.oneCell']) (by decide) rfl ?_; intro nb)
    refine VO.ent (H' := Own 5 1 (.slice (some ⟨nb, 0, none⟩) 0 0) 0 [] :: R) (fun w hw => Holds.ownShut rfl (Nat.le_refl _) (by decide) rfl hw) ?_
    (refine w ?_; repeat ((first | refine VO.step rfl rfl ?_ | refine VD.end rfl rfl rfl ?_ | refine VD.mid rfl rfl rfl ?_); refine OpV.box rfl rfl rfl ?_; intro _; refine w ?_))
    refine VO.step rfl rfl ?_
    refine OpV.append st_22 rfl rfl .head (fun w hw => (ha.sees (cap := cap) hw.tail).src st_22.und) (by simp only [maxLen]; omega) (by omega) rfl ?_
    intro ao' cap'
    simp only [Nat.zero_add, List.nil_append]
    (refine w ?_; repeat ((first | refine VO.step rfl rfl ?_ | refine VD.end rfl rfl rfl ?_ | refine VD.mid rfl rfl rfl ?_); refine OpV.box rfl rfl rfl ?_; intro _; refine w ?_))
    exact VE.done (ao', cap') rfl trivial rfl Ent.refl

structure Rk where
  b : List UInt8
  at_ : Nat
  err : Int
  wh : Int

def Rk.ok (k : Rk) : Prop := k.at_ ≤ k.b.length ∧ k.b.length ≤ 1099511627776

abbrev ReaderO (p : Nat) (k : Rk) (ao : Option Addr) (cap : Nat) (R : List SProp) : List SProp :=
  Row p 156 [.slice ao k.b.length cap, .int .i64 k.at_, .int .u16 k.err, .int .i64 k.wh] :: Own 5 1 (.slice ao k.b.length cap) k.b.length (bytes k.b) :: R
def ReaderR (p : Nat) (k : Rk) : SProp := ex fun ac : Option Addr × Nat => Sl.star (fact k.ok :: ReaderO p k ac.1 ac.2 [])

theorem ReaderR.open {W w : World} {p : Nat} {k : Rk} {R : List SProp} (hw : Holds W (ReaderR p k :: R) w) : ∃ x : { ac : Option Addr × Nat // k.ok }, Holds W (ReaderO p k x.1.1 x.1.2 R) w := by
  obtain ⟨ac, h⟩ := hw.exOpen
  have h := h.join
  exact ⟨⟨ac, h.factOpen⟩, h.tail⟩
theorem ReaderR.shut {W : World} {p : Nat} {k : Rk} {R : List SProp} (hk : k.ok) {ao : Option Addr} {cap : Nat} : Ent W (ReaderO p k ao cap R) (ReaderR p k :: R) := fun _ hw =>
  Holds.exShut (ao, cap) (Holds.nest (L := [_, _, _]) (hw.factShut hk))
theorem ReaderR.know {W w : World} {p : Nat} {k : Rk} {R : List SProp} (hw : Holds W (ReaderR p k :: R) w) : k.ok := by
  obtain ⟨⟨_, h⟩, _⟩ := ReaderR.open hw
  exact h

theorem read_ok {W : World} {R : List SProp} {ao : Option Addr} {n cap : Nat} {l : List UInt8} (ha : Rds W R 1 ao n (bytes l)) (hn : n ≤ 1099511627776) :
    Does W Tryz.prog 61 [.slice ao n cap] R (β := Nat) (fun _ => True) (fun b => .pointer (some ⟨b, 0, none⟩)) (fun b => ReaderR b ⟨l, 0, 0, 0⟩ :: R) := by
  have hl : l.length = n := by have := ha.len; simpa using this
  (refine Does.enter Tryz.func61 Tryz.ntmps61 rfl rfl ?_)
  (refine w ?_; repeat ((first | refine VO.step rfl rfl ?_ | refine VD.end rfl rfl rfl ?_ | refine VD.mid rfl rfl rfl ?_); refine OpV.box rfl rfl rfl ?_; intro _; refine w ?_))
  ((first | refine VO.step rfl rfl ?_ | refine VD.end rfl rfl rfl ?_ | refine VD.mid rfl rfl rfl ?_); refine OpV.call rfl rfl (fun _ _ => by simp) (clone_ok ha hn) Ent.re rfl ?_)
  rintro ⟨ao', cap'⟩ -
  (refine w ?_; repeat ((first | refine VO.step rfl rfl ?_ | refine VD.end rfl rfl rfl ?_ | refine VD.mid rfl rfl rfl ?_); refine OpV.box rfl rfl rfl ?_; intro _; refine w ?_))
  (apply VO.pure rfl rfl; apply PureAt.build sb_156 rfl; (simp [buildX, setL, Value.cells]; rfl); rfl)
  (refine w ?_; repeat ((first | refine VO.step rfl rfl ?_ | refine VD.end rfl rfl rfl ?_ | refine VD.mid rfl rfl rfl ?_); refine OpV.box rfl rfl rfl ?_; intro _; refine w ?_))
  subst hl
  exact VE.done _ rfl trivial rfl (ReaderR.shut (k := ⟨l, 0, 0, 0⟩) ⟨Nat.zero_le _, hn⟩)

theorem rleft_ok {W : World} {R : List SProp} (p : Nat) (k : Rk) :
    Does1 W Tryz.prog 101 [.pointer (some ⟨p, 0, none⟩)] (ReaderR p k :: R) (.int .i64 ((k.b.length : Int) - k.at_)) (ReaderR p k :: R) := by
  (refine Does.enter Tryz.func101 Tryz.ntmps101 rfl rfl ?_)
  refine VC.obtain (fun w => ReaderR.open) ?_
  rintro ⟨⟨ao, cap⟩, hk⟩
  have ⟨h1, h2⟩ := hk
  (refine w ?_; repeat ((first | refine VO.step rfl rfl ?_ | refine VD.end rfl rfl rfl ?_ | refine VD.mid rfl rfl rfl ?_); refine OpV.box rfl rfl rfl ?_; intro _; refine w ?_))
  ((refine VC.quiet rfl (by kernel_rfl) (by kernel_rfl) ?_); (refine w ?_; repeat ((first | refine VO.step rfl rfl ?_ | refine VD.end rfl rfl rfl ?_ | refine VD.mid rfl rfl rfl ?_); refine OpV.box rfl rfl rfl ?_; intro _; refine w ?_)))
  (refine VE.done1 rfl rfl ?_)
  exact ReaderR.shut hk
theorem rfail_ok {W : World} {R : List SProp} (p : Nat) (k : Rk) (e a : Int) :
    Does1 W Tryz.prog 112 [.pointer (some ⟨p, 0, none⟩), .int .u16 e, .int .i64 a] (ReaderR p k :: R) (.tuple #[]) (ReaderR p { k with err := e, wh := a } :: R) := by
  (refine Does.enter Tryz.func112 Tryz.ntmps112 rfl rfl ?_)
  refine VC.obtain (fun w => ReaderR.open) ?_
  rintro ⟨⟨ao, cap⟩, hk⟩
  (refine w ?_; repeat ((first | refine VO.step rfl rfl ?_ | refine VD.end rfl rfl rfl ?_ | refine VD.mid rfl rfl rfl ?_); refine OpV.box rfl rfl rfl ?_; intro _; refine w ?_))
  (refine VE.done1N rfl rfl ?_)
  exact ReaderR.shut (k := { k with err := e, wh := a }) hk

/-- Is there so much? If not, it is short for good. -/
def Rk.short (k : Rk) (n : Nat) : Rk := if k.err = 0 ∧ k.b.length - k.at_ < n then { k with err := 11, wh := k.at_ } else k
/-- The next so many bytes; none where something is wrong. -/
def Rk.got (k : Rk) (n : Nat) : List UInt8 := if (k.short n).err = 0 then (k.b.drop k.at_).take n else []
theorem Rk.short_zero {k : Rk} {n : Nat} (h : (k.short n).err = 0) : k.short n = k ∧ k.err = 0 ∧ n ≤ k.b.length - k.at_ := by
  unfold Rk.short at *
  split at h
  · cases h
  · rename_i hn
    rw [if_neg hn]
    exact ⟨rfl, h, by omega⟩
theorem Rk.got_length {k : Rk} {n : Nat} (h : (k.short n).err = 0) : (k.got n).length = n := by
  obtain ⟨_, _, h3⟩ := Rk.short_zero h
  unfold Rk.got
  rw [if_pos h]
  simp; omega

theorem next_bad {W : World} {R : List SProp} (p : Nat) (k : Rk) (n : Nat) (hbad : (k.short n).err ≠ 0) :
    Does1 W Tryz.prog 100 [.pointer (some ⟨p, 0, none⟩), .int .i64 n] (ReaderR p k :: R) (.slice none 0 0) (ReaderR p (k.short n) :: R) := by
  (refine Does.enter Tryz.func100 Tryz.ntmps100 rfl rfl ?_)
  refine VC.obtain (fun w => ReaderR.open) ?_
  rintro ⟨⟨ao, cap⟩, hk⟩
  have ⟨h1, h2⟩ := hk
  (refine w ?_; repeat ((first | refine VO.step rfl rfl ?_ | refine VD.end rfl rfl rfl ?_ | refine VD.mid rfl rfl rfl ?_); refine OpV.box rfl rfl rfl ?_; intro _; refine w ?_))
  ((first | refine VO.split rfl rfl rfl ?_ ?_ | refine VD.split rfl rfl rfl ?_ ?_) <;> intro hb)
  · (refine w ?_; repeat ((first | refine VO.step rfl rfl ?_ | refine VD.end rfl rfl rfl ?_ | refine VD.mid rfl rfl rfl ?_); refine OpV.box rfl rfl rfl ?_; intro _; refine w ?_))
    (((first | refine VO.step rfl rfl ?_ | refine VD.end rfl rfl rfl ?_ | refine VD.mid rfl rfl rfl ?_); refine OpV.call rfl rfl (fun _ _ => by simp) (rleft_ok p k) (ReaderR.shut hk) rfl ?_); intro _ _)
    refine VO.obtain (fun w => ReaderR.open) ?_
    rintro ⟨⟨ao, cap⟩, -⟩
    have hb : k.err = 0 := by simpa using hb
    (refine w ?_; repeat ((first | refine VO.step rfl rfl ?_ | refine VD.end rfl rfl rfl ?_ | refine VD.mid rfl rfl rfl ?_); refine OpV.box rfl rfl rfl ?_; intro _; refine w ?_))
    (refine VC.cond rfl rfl ?_ ?_ <;> intro hc)
    · have hs : k.short n = { k with err := 11, wh := k.at_ } := by unfold Rk.short; rw [if_pos ⟨hb, by simp at hc; omega⟩]
      (refine w ?_; repeat ((first | refine VO.step rfl rfl ?_ | refine VD.end rfl rfl rfl ?_ | refine VD.mid rfl rfl rfl ?_); refine OpV.box rfl rfl rfl ?_; intro _; refine w ?_))
      (((first | refine VO.step rfl rfl ?_ | refine VD.end rfl rfl rfl ?_ | refine VD.mid rfl rfl rfl ?_); refine OpV.call rfl rfl (fun _ _ => by simp) (rfail_ok p k 11 k.at_) (ReaderR.shut hk) rfl ?_); intro _ _)
      refine VO.obtain (fun w => ReaderR.open) ?_
      rintro ⟨⟨ao, cap⟩, hk'⟩
      (refine w ?_; repeat ((first | refine VO.step rfl rfl ?_ | refine VD.end rfl rfl rfl ?_ | refine VD.mid rfl rfl rfl ?_); refine OpV.box rfl rfl rfl ?_; intro _; refine w ?_))
      rw [hs]
      (refine VE.done1 rfl rfl ?_)
      exact ReaderR.shut hk'
    · have hs : k.short n = k := by unfold Rk.short; rw [if_neg]; simp at hc; omega
      rw [hs] at hbad
      exact absurd hb hbad
  · have hb : k.err ≠ 0 := by simpa using hb
    have hs : k.short n = k := by unfold Rk.short; rw [if_neg]; omega
    (refine w ?_; repeat ((first | refine VO.step rfl rfl ?_ | refine VD.end rfl rfl rfl ?_ | refine VD.mid rfl rfl rfl ?_); refine OpV.box rfl rfl rfl ?_; intro _; refine w ?_))
    (refine VC.condTe rfl rfl (by simpa using hb) ?_)
    (refine w ?_; repeat ((first | refine VO.step rfl rfl ?_ | refine VD.end rfl rfl rfl ?_ | refine VD.mid rfl rfl rfl ?_); refine OpV.box rfl rfl rfl ?_; intro _; refine w ?_))
    rw [hs]
    (refine VE.done1 rfl rfl ?_)
    exact ReaderR.shut hk

theorem next_good {W : World} {R : List SProp} (p : Nat) (k : Rk) (n : Nat) (hgood : (k.short n).err = 0) :
    Does W Tryz.prog 100 [.pointer (some ⟨p, 0, none⟩), .int .i64 n] (ReaderR p k :: R) (β := Option Addr × Nat)
      (fun x => k.b.length ≤ x.2) (fun x => .slice (subA x.1 x.2 k.at_ 1) n (x.2 - k.at_)) (fun x => ReaderO p k x.1 x.2 R) := by
  (refine Does.enter Tryz.func100 Tryz.ntmps100 rfl rfl ?_)
  refine VC.obtain (fun w => ReaderR.open) ?_
  rintro ⟨⟨ao, cap⟩, hk⟩
  have ⟨h1, h2⟩ := hk
  obtain ⟨hs, hb, hle⟩ := Rk.short_zero hgood
  (refine w ?_; repeat ((first | refine VO.step rfl rfl ?_ | refine VD.end rfl rfl rfl ?_ | refine VD.mid rfl rfl rfl ?_); refine OpV.box rfl rfl rfl ?_; intro _; refine w ?_))
  (first | refine VO.gT rfl rfl rfl (by simpa using hb) ?_ | refine VD.gT rfl rfl rfl (by simpa using hb) ?_)
  (refine w ?_; repeat ((first | refine VO.step rfl rfl ?_ | refine VD.end rfl rfl rfl ?_ | refine VD.mid rfl rfl rfl ?_); refine OpV.box rfl rfl rfl ?_; intro _; refine w ?_))
  (((first | refine VO.step rfl rfl ?_ | refine VD.end rfl rfl rfl ?_ | refine VD.mid rfl rfl rfl ?_); refine OpV.call rfl rfl (fun _ _ => by simp) (rleft_ok p k) (ReaderR.shut hk) rfl ?_); intro _ _)
  refine VO.obtain (fun w => ReaderR.open) ?_
  rintro ⟨⟨ao, cap⟩, -⟩
  (refine w ?_; repeat ((first | refine VO.step rfl rfl ?_ | refine VD.end rfl rfl rfl ?_ | refine VD.mid rfl rfl rfl ?_); refine OpV.box rfl rfl rfl ?_; intro _; refine w ?_))
  (refine VC.condFe rfl rfl (by simp; omega) ?_)
  (refine w ?_; repeat ((first | refine VO.step rfl rfl ?_ | refine VD.end rfl rfl rfl ?_ | refine VD.mid rfl rfl rfl ?_); refine OpV.box rfl rfl rfl ?_; intro _; refine w ?_))
  (refine VC.condFe rfl rfl (by simp [hb]) ?_)
  refine VC.know (fun w hw => hw.ownCap (by (focus repeat first | exact .head _ | apply List.Mem.tail))) ?_
  intro hcap
  (refine w ?_; repeat ((first | refine VO.step rfl rfl ?_ | refine VD.end rfl rfl rfl ?_ | refine VD.mid rfl rfl rfl ?_); refine OpV.box rfl rfl rfl ?_; intro _; refine w ?_))
  ((refine VC.quiet rfl (by kernel_rfl) (by kernel_rfl) ?_); (refine w ?_; repeat ((first | refine VO.step rfl rfl ?_ | refine VD.end rfl rfl rfl ?_ | refine VD.mid rfl rfl rfl ?_); refine OpV.box rfl rfl rfl ?_; intro _; refine w ?_)))
  refine VE.done (ao, cap) rfl hcap ?_ Ent.refl
  show Value.slice _ (k.at_ + n - k.at_) _ = _
  rw [Nat.add_sub_cancel_left]

/-- What lies behind a slice that 'next' hands back. -/
theorem got_rds {W : World} {k : Rk} {n : Nat} {ao : Option Addr} {cap : Nat} {H : List SProp} (hk : k.ok) (hgood : (k.short n).err = 0) (hcap : k.b.length ≤ cap) (hn : ao = none → k.b.length = 0)
    (m : Own 5 1 (.slice ao k.b.length cap) k.b.length (bytes k.b) ∈ H) : Rds W H 1 (subA ao cap k.at_ 1) n (bytes (k.got n)) := by
  obtain ⟨hs, hb, hle⟩ := Rk.short_zero hgood
  have h1 := hk.1
  have r := Rds.own (W := W) (bytes_one k.b) m (by simp) hn
  have := r.sub (cap := cap) (l := k.at_) (h := k.at_ + n) (by omega) (by omega) hcap
  rw [Nat.add_sub_cancel_left] at this
  have e : ((bytes k.b).drop (k.at_ * 1)).take (n * 1) = bytes (k.got n) := by
    unfold Rk.got; rw [if_pos hgood]; simp [bytes]
  rw [e] at this
  exact this

/-- A number, its lowest byte first. -/
def leVal : List UInt8 → Nat
  | [] => 0
  | c :: r => c.toNat + 256 * leVal r
theorem leVal_lt : ∀ l : List UInt8, leVal l < 256 ^ l.length
  | [] => by decide
  | c :: r => by
    have := leVal_lt r
    have hc := c.toNat_lt
    simp only [leVal, List.length_cons, Nat.pow_succ]
    omega
theorem leVal_snoc : ∀ (l : List UInt8) (c : UInt8), leVal (l ++ [c]) = leVal l + c.toNat * 256 ^ l.length
  | [], c => by simp [leVal]
  | d :: r, c => by
    have := leVal_snoc r c
    simp only [List.cons_append, leVal, this, List.length_cons, Nat.pow_succ]
    rw [Nat.mul_add, Nat.add_assoc, Nat.mul_left_comm, Nat.mul_comm (256 ^ r.length)]

theorem or_shift (x y s : Nat) (hx : x < 2 ^ s) (hs : s ≤ 64) (hy : y * 2 ^ s < 2 ^ 64) :
    IntKind.u64.wrap ((BitVec.ofInt IntKind.u64.bits (x : Int) ||| BitVec.ofInt IntKind.u64.bits (IntKind.u64.wrap ((y : Int) * 2 ^ min s IntKind.u64.bits))).toNat : Int) = ((x + y * 2 ^ s : Nat) : Int) := by
  have hm : min s IntKind.u64.bits = s := by simp [IntKind.bits]; omega
  have hx64 : x < 2 ^ 64 := Nat.lt_of_lt_of_le hx (Nat.pow_le_pow_right (by decide) hs)
  rw [hm]
  have e1 : ((y : Int) * 2 ^ s) = ((y * 2 ^ s : Nat) : Int) := by simp
  rw [e1, wrap64_of hy]
  have e2 : (BitVec.ofInt IntKind.u64.bits (x : Int)).toNat = x := by
    simp [IntKind.bits]; omega
  have e3 : (BitVec.ofInt IntKind.u64.bits ((y * 2 ^ s : Nat) : Int)).toNat = y * 2 ^ s := by
    simp only [BitVec.toNat_ofInt, IntKind.bits]
    omega
  rw [BitVec.toNat_or, e2, e3]
  have e4 : x ||| y * 2 ^ s = x + y * 2 ^ s := by
    rw [Nat.or_comm, Nat.mul_comm, ← Nat.two_pow_add_eq_or_of_lt hx]; omega
  have e5 : x + y * 2 ^ s < 2 ^ 64 := by
    rw [← e4]; exact Nat.or_lt_two_pow hx64 hy
  rw [e4, wrap64_of e5]
theorem or_le (x c i : Nat) (hx : x < 256 ^ i) (hc : c < 256) (hi : i < 8) :
    IntKind.u64.wrap ((BitVec.ofInt IntKind.u64.bits (x : Int) ||| BitVec.ofInt IntKind.u64.bits (IntKind.u64.wrap ((c : Int) * 2 ^ min (8 * i) IntKind.u64.bits))).toNat : Int) = ((x + c * 256 ^ i : Nat) : Int) := by
  have e256 : (256 : Nat) ^ i = 2 ^ (8 * i) := by rw [Nat.pow_mul]
  rw [e256] at hx ⊢
  refine or_shift x c (8 * i) hx (by omega) ?_
  calc c * 2 ^ (8 * i) < 256 * 2 ^ (8 * i) := Nat.mul_lt_mul_of_pos_right hc (Nat.two_pow_pos _)
    _ = 2 ^ (8 + 8 * i) := by rw [Nat.pow_add]
    _ ≤ 2 ^ 64 := Nat.pow_le_pow_right (by decide) (by omega)

def Rk.number (k : Rk) (width : Nat) : Rk := if (k.short width).err = 0 then { k with at_ := k.at_ + width } else k.short width

theorem rnumber_ok {W : World} {R : List SProp} (p : Nat) (k : Rk) (width : Nat) (hw8 : width ≤ 8) :
    Does1 W Tryz.prog 99 [.pointer (some ⟨p, 0, none⟩), .int .i64 width] (ReaderR p k :: R) (.int .u64 (leVal (k.got width))) (ReaderR p (k.number width) :: R) := by
  (refine Does.enter Tryz.func99 Tryz.ntmps99 rfl rfl ?_)
  refine VC.know (fun w => ReaderR.know) ?_
  intro hk
  have ⟨h1, h2⟩ := hk
  (refine w ?_; repeat ((first | refine VO.step rfl rfl ?_ | refine VD.end rfl rfl rfl ?_ | refine VD.mid rfl rfl rfl ?_); refine OpV.box rfl rfl rfl ?_; intro _; refine w ?_))
  by_cases hg : (k.short width).err = 0
  · obtain ⟨hs, hb, hle⟩ := Rk.short_zero hg
    ((first | refine VO.step rfl rfl ?_ | refine VD.end rfl rfl rfl ?_ | refine VD.mid rfl rfl rfl ?_); refine OpV.call rfl rfl (fun _ _ => by simp) (next_good p k width hg) Ent.re rfl ?_)
    rintro ⟨ao, cap⟩ hcap
    refine VO.know (fun w hw => hw.ownNone (by (focus repeat first | exact .head _ | apply List.Mem.tail))) ?_
    intro hnone
    have hr := got_rds (W := W) (n := width) (H := ReaderO p k ao cap R) hk hg hcap hnone (by (focus repeat first | exact .head _ | apply List.Mem.tail))
    have hgl := Rk.got_length hg
    (refine w ?_; repeat ((first | refine VO.step rfl rfl ?_ | refine VD.end rfl rfl rfl ?_ | refine VD.mid rfl rfl rfl ?_); refine OpV.box rfl rfl rfl ?_; intro _; refine w ?_))
    refine VC.loop (α := Nat) (fun j => j ≤ width) (fun j => ReaderO p k ao cap R)
      (fun j => [(0, .pointer (some ⟨p, 0, none⟩)), (1, .int .i64 width), (5, .int .u64 ((leVal ((k.got width).take j) : Nat) : Int)), (10, .slice (subA ao cap k.at_ 1) width (cap - k.at_)), (11, .int .i64 width), (12, .int .i64 j)])
      (fun j => width - j) rfl 0 (Nat.zero_le _) Ent.refl ⟨rfl, rfl, rfl, rfl, rfl, rfl, trivial⟩ ?_
    intro j hj
    (refine w ?_; repeat ((first | refine VO.step rfl rfl ?_ | refine VD.end rfl rfl rfl ?_ | refine VD.mid rfl rfl rfl ?_); refine OpV.box rfl rfl rfl ?_; intro _; refine w ?_))
    (refine VC.cond rfl rfl ?_ ?_ <;> intro hc)
    · have hlt : j < width := by simpa using hc
      obtain ⟨a0, ha0⟩ : ∃ a0, subA ao cap k.at_ 1 = some a0 := by
        cases e : subA ao cap k.at_ 1 with
        | none => have := hr.nil e; omega
        | some a0 => exact ⟨a0, rfl⟩
      rw [ha0] at hr ⊢
      have hb1 := hr
      (refine w ?_; repeat ((first | refine VO.step rfl rfl ?_ | refine VD.end rfl rfl rfl ?_ | refine VD.mid rfl rfl rfl ?_); refine OpV.box rfl rfl rfl ?_; intro _; refine w ?_))
      have hc8 := ((k.got width)[j]'(by omega)).toNat_lt
      ((first | refine VO.step rfl rfl ?_ | refine VD.end rfl rfl rfl ?_ | refine VD.mid rfl rfl rfl ?_); refine OpV.pure (PureAt.shl rfl rfl (by omega)) rfl ?_)
      (refine w ?_; repeat ((first | refine VO.step rfl rfl ?_ | refine VD.end rfl rfl rfl ?_ | refine VD.mid rfl rfl rfl ?_); refine OpV.box rfl rfl rfl ?_; intro _; refine w ?_))
      have ht : (k.got width).take (j + 1) = (k.got width).take j ++ [(k.got width)[j]'(by omega)] := by rw [List.take_succ_eq_append_getElem (by omega)]
      have htl : ((k.got width).take j).length = j := by rw [List.length_take]; omega
      have hor := or_le (leVal ((k.got width).take j)) ((k.got width)[j]'(by omega)).toNat j (by have := leVal_lt ((k.got width).take j); rw [htl] at this; exact this) hc8 (by omega)
      refine VE.round (j + 1) (by omega) (by omega) ⟨rfl, rfl, asV rfl ?_, rfl, rfl, rfl, trivial⟩ Ent.refl
      rw [ht, leVal_snoc, htl, ← hor, wrap64_of (v := ((k.got width)[j]'(by omega)).toNat) (by omega), show (8 * (j : Int)).toNat = 8 * j by omega]
    · have hge : j = width := by have : ¬ j < width := by simpa using hc
                                 omega
      subst hge
      (refine w ?_; repeat ((first | refine VO.step rfl rfl ?_ | refine VD.end rfl rfl rfl ?_ | refine VD.mid rfl rfl rfl ?_); refine OpV.box rfl rfl rfl ?_; intro _; refine w ?_))
      (refine VC.condTe rfl rfl (by simp [hb]) ?_)
      (refine w ?_; repeat ((first | refine VO.step rfl rfl ?_ | refine VD.end rfl rfl rfl ?_ | refine VD.mid rfl rfl rfl ?_); refine OpV.box rfl rfl rfl ?_; intro _; refine w ?_))
      (refine VE.done1 rfl ?_ ?_)
      · rw [List.take_of_length_le (by omega)]
      · rw [show k.number j = { k with at_ := k.at_ + j } by unfold Rk.number; rw [if_pos hg]]
        exact ReaderR.shut (k := { k with at_ := k.at_ + j }) ⟨by simp only; omega, h2⟩
  · (((first | refine VO.step rfl rfl ?_ | refine VD.end rfl rfl rfl ?_ | refine VD.mid rfl rfl rfl ?_); refine OpV.call rfl rfl (fun _ _ => by simp) (next_bad p k width hg) Ent.re rfl ?_); intro _ _)
    have hgn : k.got width = [] := by unfold Rk.got; rw [if_neg hg]
    (refine w ?_; repeat ((first | refine VO.step rfl rfl ?_ | refine VD.end rfl rfl rfl ?_ | refine VD.mid rfl rfl rfl ?_); refine OpV.box rfl rfl rfl ?_; intro _; refine w ?_))
    refine VC.loop (α := Unit) (fun _ => True) (fun _ => ReaderR p (k.short width) :: R)
      (fun _ => [(0, .pointer (some ⟨p, 0, none⟩)), (1, .int .i64 width), (5, .int .u64 0), (11, .int .i64 0), (12, .int .i64 0)])
      (fun _ => 0) rfl () trivial Ent.refl ⟨rfl, rfl, rfl, rfl, rfl, trivial⟩ ?_
    intro _ _
    (refine w ?_; repeat ((first | refine VO.step rfl rfl ?_ | refine VD.end rfl rfl rfl ?_ | refine VD.mid rfl rfl rfl ?_); refine OpV.box rfl rfl rfl ?_; intro _; refine w ?_))
    refine VO.obtain (fun w => ReaderR.open) ?_
    rintro ⟨⟨ao, cap⟩, hk'⟩
    (refine w ?_; repeat ((first | refine VO.step rfl rfl ?_ | refine VD.end rfl rfl rfl ?_ | refine VD.mid rfl rfl rfl ?_); refine OpV.box rfl rfl rfl ?_; intro _; refine w ?_))
    (refine VC.condFe rfl rfl (by simpa using hg) ?_)
    (refine w ?_; repeat ((first | refine VO.step rfl rfl ?_ | refine VD.end rfl rfl rfl ?_ | refine VD.mid rfl rfl rfl ?_); refine OpV.box rfl rfl rfl ?_; intro _; refine w ?_))
    rw [hgn]
    (refine VE.done1 rfl ?_ ?_)
    · rfl
    · rw [show k.number width = k.short width by unfold Rk.number; rw [if_neg hg]]
      exact ReaderR.shut hk'

theorem Rk.got_good {k : Rk} {n : Nat} (h1 : k.err = 0) (h2 : n ≤ k.b.length - k.at_) : k.got n = (k.b.drop k.at_).take n ∧ k.short n = k ∧ k.number n = { k with at_ := k.at_ + n } := by
  have e : k.short n = k := by unfold Rk.short; rw [if_neg]; omega
  refine ⟨?_, e, ?_⟩
  · unfold Rk.got; rw [e, if_pos h1]
  · unfold Rk.number; rw [e, if_pos h1]

theorem got_lt (k : Rk) (n : Nat) : leVal (k.got n) < 256 ^ n := by
  have h := leVal_lt (k.got n)
  refine Nat.lt_of_lt_of_le h (Nat.pow_le_pow_right (by decide) ?_)
  unfold Rk.got; split
  · simp; omega
  · simp

theorem r32_ok {W : World} {R : List SProp} (p : Nat) (k : Rk) :
    Does1 W Tryz.prog 62 [.pointer (some ⟨p, 0, none⟩)] (ReaderR p k :: R) (.int .u32 (leVal (k.got 4))) (ReaderR p (k.number 4) :: R) := by
  (refine Does.enter Tryz.func62 Tryz.ntmps62 rfl rfl ?_)
  (refine w ?_; repeat ((first | refine VO.step rfl rfl ?_ | refine VD.end rfl rfl rfl ?_ | refine VD.mid rfl rfl rfl ?_); refine OpV.box rfl rfl rfl ?_; intro _; refine w ?_))
  (((first | refine VO.step rfl rfl ?_ | refine VD.end rfl rfl rfl ?_ | refine VD.mid rfl rfl rfl ?_); refine OpV.call rfl rfl (fun _ _ => by simp) (rnumber_ok p k 4 (by decide)) Ent.re rfl ?_); intro _ _)
  (refine w ?_; repeat ((first | refine VO.step rfl rfl ?_ | refine VD.end rfl rfl rfl ?_ | refine VD.mid rfl rfl rfl ?_); refine OpV.box rfl rfl rfl ?_; intro _; refine w ?_))
  (refine VE.done1 rfl ?_ ?_)
  · rw [wrap32_of, Nat.mod_eq_of_lt (by have := got_lt k 4; omega)]
  · exact Ent.refl
theorem r16_ok {W : World} {R : List SProp} (p : Nat) (k : Rk) :
    Does1 W Tryz.prog 66 [.pointer (some ⟨p, 0, none⟩)] (ReaderR p k :: R) (.int .u16 (leVal (k.got 2))) (ReaderR p (k.number 2) :: R) := by
  (refine Does.enter Tryz.func66 Tryz.ntmps66 rfl rfl ?_)
  (refine w ?_; repeat ((first | refine VO.step rfl rfl ?_ | refine VD.end rfl rfl rfl ?_ | refine VD.mid rfl rfl rfl ?_); refine OpV.box rfl rfl rfl ?_; intro _; refine w ?_))
  (((first | refine VO.step rfl rfl ?_ | refine VD.end rfl rfl rfl ?_ | refine VD.mid rfl rfl rfl ?_); refine OpV.call rfl rfl (fun _ _ => by simp) (rnumber_ok p k 2 (by decide)) Ent.re rfl ?_); intro _ _)
  (refine w ?_; repeat ((first | refine VO.step rfl rfl ?_ | refine VD.end rfl rfl rfl ?_ | refine VD.mid rfl rfl rfl ?_); refine OpV.box rfl rfl rfl ?_; intro _; refine w ?_))
  (refine VE.done1 rfl ?_ ?_)
  · rw [wrap16_of, Nat.mod_eq_of_lt (by have := got_lt k 2; omega)]
  · exact Ent.refl
theorem r8_ok {W : World} {R : List SProp} (p : Nat) (k : Rk) :
    Does1 W Tryz.prog 64 [.pointer (some ⟨p, 0, none⟩)] (ReaderR p k :: R) (.int .u8 (leVal (k.got 1))) (ReaderR p (k.number 1) :: R) := by
  (refine Does.enter Tryz.func64 Tryz.ntmps64 rfl rfl ?_)
  (refine w ?_; repeat ((first | refine VO.step rfl rfl ?_ | refine VD.end rfl rfl rfl ?_ | refine VD.mid rfl rfl rfl ?_); refine OpV.box rfl rfl rfl ?_; intro _; refine w ?_))
  (((first | refine VO.step rfl rfl ?_ | refine VD.end rfl rfl rfl ?_ | refine VD.mid rfl rfl rfl ?_); refine OpV.call rfl rfl (fun _ _ => by simp) (rnumber_ok p k 1 (by decide)) Ent.re rfl ?_); intro _ _)
  (refine w ?_; repeat ((first | refine VO.step rfl rfl ?_ | refine VD.end rfl rfl rfl ?_ | refine VD.mid rfl rfl rfl ?_); refine OpV.box rfl rfl rfl ?_; intro _; refine w ?_))
  (refine VE.done1 rfl ?_ ?_)
  · rw [wrap8_of, Nat.mod_eq_of_lt (by have := got_lt k 1; omega)]
  · exact Ent.refl

theorem Pk.number_good {k : Pk} {v w : Nat} (h1 : k.bad = 0) (h2 : k.had.length + w ≤ k.size) : k.number v w = { k with had := k.had ++ lowBytes v w } := by
  have e : k.room w = k := by unfold Pk.room; rw [if_neg]; omega
  unfold Pk.number; rw [e, if_pos h1]

end Go.Proofs.YtpmmkmcbimnigaaGreat

/-! Text Dk. -/
/- Package disk: a disk's memory, its calls. -/
set_option maxRecDepth 8000
set_option linter.unusedVariables false
set_option linter.unusedSimpArgs false
set_option linter.unusedSectionVars false
namespace Go.Proofs.YtpmmkmcbimnigaaGreat
open Go.RowKit Go.Sl
attribute [local irreducible] Own

abbrev zb : Value := .int .u8 0
theorem st_sectors : SliceT Tryz.prog 133 149 (.agg (List.replicate 128 zb).toArray) 128 128 :=
  ⟨by kernel_rfl, by kernel_rfl, by simp [Value.cells], by intro u hu; simp only [Value.cells, List.toList_toArray] at hu; rw [List.eq_of_mem_replicate hu]; rfl⟩
theorem st_writes : SliceT Tryz.prog 135 151 (.agg (.int .i64 0 :: List.replicate 128 zb).toArray) 129 136 :=
  ⟨by kernel_rfl, by kernel_rfl, by simp [Value.cells], by
    intro u hu; simp only [Value.cells, List.toList_toArray, List.mem_cons] at hu
    rcases hu with hu | hu
    · subst hu; rfl
    · rw [List.eq_of_mem_replicate hu]; rfl⟩
theorem sb_write : StructT Tryz.prog 151 (.int .i64 0 :: List.replicate 128 zb) [(0, 1), (1, 128)] := by
  refine ⟨fun w => ?_, _, Tryz.underlying151, fun w => by simp⟩
  obtain ⟨i, hi, hz, hs, hb⟩ := info_parts st_writes.info
  simp [zeroValue, typeInfo, hi, hz]

theorem setL_mid : ∀ (vs a b : List Value), vs.length = b.length → setL (a ++ b) a.length vs = a ++ vs
  | [], a, b, h => by cases b with | nil => simp [setL] | cons _ _ => cases h
  | v :: r, a, [], h => by cases h
  | v :: r, a, x :: b, h => by
    have := setL_mid r (a ++ [v]) b (by simpa using h)
    rw [setL, List.set_append_right _ _ (Nat.le_refl _), Nat.sub_self, List.set_cons_zero]
    simpa using this

/-! ### A disk -/

structure DiskD where
  last : List (List UInt8)
  cache : List (Nat × List UInt8)
  failed : Bool
structure DiskD.ok (k : DiskD) : Prop where
  last : ∀ b ∈ k.last, b.length = 128
  cache : ∀ c ∈ k.cache, c.1 < k.last.length ∧ c.2.length = 128
  size : k.last.length ≤ 8192
def wCells (c : Nat × List UInt8) : List Value := .int .i64 (c.1 : Int) :: bytes c.2

/-- Which write is the last of a sector's (the list has the last one first). -/
def lastR : List (Nat × List UInt8) → Int → Option Int
  | [], _ => none
  | c :: r, a => if a = (c.1 : Int) then some (r.length : Int) else lastR r a
def seenOf (c : List (Nat × List UInt8)) : Int → Option Int := lastR c.reverse
theorem seenOf_nil : seenOf [] = fun _ => none := rfl
theorem seenOf_snoc (c : List (Nat × List UInt8)) (x : Nat × List UInt8) : seenOf (c ++ [x]) = updM (seenOf c) (x.1 : Int) (c.length : Int) := by
  funext a
  simp [seenOf, lastR, updM]

abbrev DiskO (d : Nat) (k : DiskD) (x : (Option Addr × Nat) × (Option Addr × Nat) × Nat) (R : List SProp) : List SProp :=
  Row d 137 [.slice x.1.1 k.last.length x.1.2, .slice x.2.1.1 k.cache.length x.2.1.2, .map (some x.2.2), .bool k.failed] :: Own 149 128 (.slice x.1.1 k.last.length x.1.2) k.last.length (k.last.flatMap bytes) ::
    Own 151 129 (.slice x.2.1.1 k.cache.length x.2.1.2) k.cache.length (k.cache.flatMap wCells) :: MapR x.2.2 (seenOf k.cache) :: R
def DiskR (d : Nat) (k : DiskD) : SProp := ex fun x : (Option Addr × Nat) × (Option Addr × Nat) × Nat => Sl.star (fact k.ok :: DiskO d k x [])
theorem DiskR.open {W w : World} {d : Nat} {k : DiskD} {R : List SProp} (hw : Holds W (DiskR d k :: R) w) : ∃ x : { x : (Option Addr × Nat) × (Option Addr × Nat) × Nat // k.ok }, Holds W (DiskO d k x.1 R) w := by
  obtain ⟨x, h⟩ := hw.exOpen
  have h := h.join
  exact ⟨⟨x, h.factOpen⟩, h.tail⟩
theorem DiskR.shut {W : World} {d : Nat} {k : DiskD} {R : List SProp} (hk : k.ok) {x : (Option Addr × Nat) × (Option Addr × Nat) × Nat} : Ent W (DiskO d k x R) (DiskR d k :: R) := fun _ hw =>
  Holds.exShut x (Holds.nest (L := [_, _, _, _, _]) (hw.factShut hk))
theorem DiskR.know {W w : World} {d : Nat} {k : DiskD} {R : List SProp} (hw : Holds W (DiskR d k :: R) w) : k.ok := by
  obtain ⟨⟨_, h⟩, _⟩ := DiskR.open hw
  exact h

def zeroSec : List UInt8 := List.replicate 128 0
theorem zeroSec_length : zeroSec.length = 128 := by simp [zeroSec]
theorem madeCells_same (z : Value) (s m : Nat) (hs : 0 < s) : (madeCells (List.replicate s z).toArray m).toList = List.replicate m z := by
  apply List.ext_getElem
  · simp [madeCells]
  · intro i h1 h2
    have : i % s < s := Nat.mod_lt _ hs
    simp [madeCells, this]
theorem zeros_flat : ∀ n : Nat, (List.replicate n zeroSec).flatMap bytes = List.replicate (n * 128) zb
  | 0 => by simp
  | n + 1 => by
    rw [List.replicate_succ, List.flatMap_cons, zeros_flat n, zeroSec, bytes_replicate, Nat.add_mul, Nat.one_mul, Nat.add_comm (n * 128), List.replicate_append_replicate]

theorem disknew_ok {W : World} {R : List SProp} (n : Nat) (h1 : 1 ≤ n) (h2 : n ≤ 8192) :
    Does W Tryz.prog 27 [.int .i64 n] R (β := Nat) (fun _ => True) (fun d => .tuple #[.pointer (some ⟨d, 0, none⟩), .int .u16 0]) (fun d => DiskR d ⟨List.replicate n zeroSec, [], false⟩ :: R) := by
  (refine Does.enter Tryz.func27 Tryz.ntmps27 rfl rfl ?_)
  (refine w ?_; repeat ((first | refine VO.step rfl rfl ?_ | refine VD.end rfl rfl rfl ?_ | refine VD.mid rfl rfl rfl ?_); refine OpV.box rfl rfl rfl ?_; intro _; refine w ?_))
  (first | refine VO.gF rfl rfl rfl (by simp; omega) ?_ | refine VD.gF rfl rfl rfl (by simp; omega) ?_)
  (refine w ?_; repeat ((first | refine VO.step rfl rfl ?_ | refine VD.end rfl rfl rfl ?_ | refine VD.mid rfl rfl rfl ?_); refine OpV.box rfl rfl rfl ?_; intro _; refine w ?_))
  (refine VC.condFe rfl rfl (by simp; omega) ?_)
  (refine w ?_; repeat ((first | refine VO.step rfl rfl ?_ | refine VD.end rfl rfl rfl ?_ | refine VD.mid rfl rfl rfl ?_); refine OpV.box rfl rfl rfl ?_; intro _; refine w ?_))
  (first | refine VO.step rfl rfl ?_ | refine VD.end rfl rfl rfl ?_ | refine VD.mid rfl rfl rfl ?_)
  refine OpV.makeSlice st_sectors rfl rfl ?_ ?_ rfl ?_
  · omega
  · simp only [maxLen]; omega
  intro nb
  have e : (madeCells (Value.agg (List.replicate 128 zb).toArray).cells (n * 128)).toList = (List.replicate n zeroSec).flatMap bytes := by
    rw [zeros_flat]; exact madeCells_same zb 128 (n * 128) (by decide)
  rw [e]
  (first | refine VO.step rfl rfl ?_ | refine VD.end rfl rfl rfl ?_ | refine VD.mid rfl rfl rfl ?_)
  refine OpV.makeMap rfl ?_
  intro mb
  (apply VO.pure rfl rfl; apply PureAt.build sb_137 rfl; (simp [buildX, setL, Value.cells]; rfl); rfl)
  (refine w ?_; repeat ((first | refine VO.step rfl rfl ?_ | refine VD.end rfl rfl rfl ?_ | refine VD.mid rfl rfl rfl ?_); refine OpV.box rfl rfl rfl ?_; intro _; refine w ?_))
  refine VE.done _ rfl trivial rfl ?_
  intro w hw
  have hw := hw.ownNil 151 129
  have hl : (List.replicate n zeroSec).length = n := List.length_replicate
  refine DiskR.shut (k := ⟨List.replicate n zeroSec, [], false⟩) (x := ((some ⟨nb, 0, none⟩, n), (none, 0), mb)) ⟨fun b hb => (by rw [List.eq_of_mem_replicate hb]; exact zeroSec_length), fun c hc => absurd hc (by simp), (by rw [hl]; exact h2)⟩ w (hw.reord ?_)
  simp only [DiskO, hl, List.length_nil, List.flatMap_nil, seenOf_nil]
  (repeat first | exact .refl | (apply Reord.cons; focus repeat first | exact .head | apply Del.tail) | exact .nil | apply Reord.drop)

theorem disknew_bad {W : World} {R : List SProp} (n : Int) (h : n < 1 ∨ 8192 < n) :
    Does1 W Tryz.prog 27 [.int .i64 n] R (.tuple #[.pointer none, .int .u16 40]) R := by
  (refine Does.enter Tryz.func27 Tryz.ntmps27 rfl rfl ?_)
  (refine w ?_; repeat ((first | refine VO.step rfl rfl ?_ | refine VD.end rfl rfl rfl ?_ | refine VD.mid rfl rfl rfl ?_); refine OpV.box rfl rfl rfl ?_; intro _; refine w ?_))
  ((first | refine VO.split rfl rfl rfl ?_ ?_ | refine VD.split rfl rfl rfl ?_ ?_) <;> intro hb)
  · (refine w ?_; repeat ((first | refine VO.step rfl rfl ?_ | refine VD.end rfl rfl rfl ?_ | refine VD.mid rfl rfl rfl ?_); refine OpV.box rfl rfl rfl ?_; intro _; refine w ?_))
    (first | exact VE.done1 rfl rfl Ent.refl | exact VE.done1N rfl rfl Ent.refl)
  · (refine w ?_; repeat ((first | refine VO.step rfl rfl ?_ | refine VD.end rfl rfl rfl ?_ | refine VD.mid rfl rfl rfl ?_); refine OpV.box rfl rfl rfl ?_; intro _; refine w ?_))
    (refine VC.condTe rfl rfl (by have := of_decide_eq_false hb; simp; omega) ?_)
    (refine w ?_; repeat ((first | refine VO.step rfl rfl ?_ | refine VD.end rfl rfl rfl ?_ | refine VD.mid rfl rfl rfl ?_); refine OpV.box rfl rfl rfl ?_; intro _; refine w ?_))
    (first | exact VE.done1 rfl rfl Ent.refl | exact VE.done1N rfl rfl Ent.refl)

def DiskD.may (k : DiskD) (at_ : Int) : Int := if k.failed then 2 else if at_ < 0 ∨ (k.last.length : Int) ≤ at_ then 3 else 0
theorem may_ok {W : World} {R : List SProp} (d : Nat) (k : DiskD) (at_ : Int) :
    Does1 W Tryz.prog 93 [.pointer (some ⟨d, 0, none⟩), .int .i64 at_] (DiskR d k :: R) (.int .u16 (k.may at_)) (DiskR d k :: R) := by
  (refine Does.enter Tryz.func93 Tryz.ntmps93 rfl rfl ?_)
  refine VC.obtain (fun w => DiskR.open) ?_
  rintro ⟨⟨⟨ao, cap⟩, ⟨ao', cap'⟩, m⟩, hk⟩
  (refine w ?_; repeat ((first | refine VO.step rfl rfl ?_ | refine VD.end rfl rfl rfl ?_ | refine VD.mid rfl rfl rfl ?_); refine OpV.box rfl rfl rfl ?_; intro _; refine w ?_))
  (refine VC.cond rfl rfl ?_ ?_ <;> intro hc)
  · (refine w ?_; repeat ((first | refine VO.step rfl rfl ?_ | refine VD.end rfl rfl rfl ?_ | refine VD.mid rfl rfl rfl ?_); refine OpV.box rfl rfl rfl ?_; intro _; refine w ?_))
    (refine VE.done1 rfl ?_ ?_)
    · simp [DiskD.may, hc]
    · exact DiskR.shut hk
  have hf : k.failed = false := hc
  (refine w ?_; repeat ((first | refine VO.step rfl rfl ?_ | refine VD.end rfl rfl rfl ?_ | refine VD.mid rfl rfl rfl ?_); refine OpV.box rfl rfl rfl ?_; intro _; refine w ?_))
  ((first | refine VO.split rfl rfl rfl ?_ ?_ | refine VD.split rfl rfl rfl ?_ ?_) <;> intro hb)
  · have : at_ < 0 := of_decide_eq_true hb
    (refine w ?_; repeat ((first | refine VO.step rfl rfl ?_ | refine VD.end rfl rfl rfl ?_ | refine VD.mid rfl rfl rfl ?_); refine OpV.box rfl rfl rfl ?_; intro _; refine w ?_))
    (refine VE.done1 rfl ?_ ?_)
    · simp [DiskD.may, hf, this]
    · exact DiskR.shut hk
  have h0 : ¬ at_ < 0 := of_decide_eq_false hb
  (refine w ?_; repeat ((first | refine VO.step rfl rfl ?_ | refine VD.end rfl rfl rfl ?_ | refine VD.mid rfl rfl rfl ?_); refine OpV.box rfl rfl rfl ?_; intro _; refine w ?_))
  (refine VC.cond rfl rfl ?_ ?_ <;> intro hc)
  · have : (k.last.length : Int) ≤ at_ := by simpa using hc
    (refine w ?_; repeat ((first | refine VO.step rfl rfl ?_ | refine VD.end rfl rfl rfl ?_ | refine VD.mid rfl rfl rfl ?_); refine OpV.box rfl rfl rfl ?_; intro _; refine w ?_))
    (refine VE.done1 rfl ?_ ?_)
    · simp [DiskD.may, hf, this]
    · exact DiskR.shut hk
  · have : ¬ (k.last.length : Int) ≤ at_ := by simpa using hc
    (refine w ?_; repeat ((first | refine VO.step rfl rfl ?_ | refine VD.end rfl rfl rfl ?_ | refine VD.mid rfl rfl rfl ?_); refine OpV.box rfl rfl rfl ?_; intro _; refine w ?_))
    (refine VE.done1 rfl ?_ ?_)
    · simp only [DiskD.may, hf]; rw [if_neg (by simp), if_neg (by omega)]
    · exact DiskR.shut hk

theorem dsectors_ok {W : World} {R : List SProp} (d : Nat) (k : DiskD) :
    Does1 W Tryz.prog 86 [.pointer (some ⟨d, 0, none⟩)] (DiskR d k :: R) (.int .i64 k.last.length) (DiskR d k :: R) := by
  (refine Does.enter Tryz.func86 Tryz.ntmps86 rfl rfl ?_)
  refine VC.obtain (fun w => DiskR.open) ?_
  rintro ⟨⟨⟨ao, cap⟩, ⟨ao', cap'⟩, m⟩, hk⟩
  (refine w ?_; repeat ((first | refine VO.step rfl rfl ?_ | refine VD.end rfl rfl rfl ?_ | refine VD.mid rfl rfl rfl ?_); refine OpV.box rfl rfl rfl ?_; intro _; refine w ?_))
  (refine VE.done1 rfl ?_ ?_)
  · rfl
  · exact DiskR.shut hk
theorem failed_ok {W : World} {R : List SProp} (d : Nat) (k : DiskD) :
    Does1 W Tryz.prog 85 [.pointer (some ⟨d, 0, none⟩)] (DiskR d k :: R) (.bool k.failed) (DiskR d k :: R) := by
  (refine Does.enter Tryz.func85 Tryz.ntmps85 rfl rfl ?_)
  refine VC.obtain (fun w => DiskR.open) ?_
  rintro ⟨⟨⟨ao, cap⟩, ⟨ao', cap'⟩, m⟩, hk⟩
  (refine w ?_; repeat ((first | refine VO.step rfl rfl ?_ | refine VD.end rfl rfl rfl ?_ | refine VD.mid rfl rfl rfl ?_); refine OpV.box rfl rfl rfl ?_; intro _; refine w ?_))
  (refine VE.done1 rfl ?_ ?_)
  · rfl
  · exact DiskR.shut hk

def DiskD.write (k : DiskD) (a : Nat) (b : List UInt8) : DiskD := { k with cache := k.cache ++ [(a, b)] }
theorem write_bad {W : World} {R : List SProp} {ao : Option Addr} {cap nb : Nat} (d : Nat) (k : DiskD) (at_ : Int) (h : k.may at_ ≠ 0) :
    Does1 W Tryz.prog 47 [.pointer (some ⟨d, 0, none⟩), .int .i64 at_, .slice ao nb cap] (DiskR d k :: R) (.int .u16 (k.may at_)) (DiskR d k :: R) := by
  (refine Does.enter Tryz.func47 Tryz.ntmps47 rfl rfl ?_)
  (refine w ?_; repeat ((first | refine VO.step rfl rfl ?_ | refine VD.end rfl rfl rfl ?_ | refine VD.mid rfl rfl rfl ?_); refine OpV.box rfl rfl rfl ?_; intro _; refine w ?_))
  (((first | refine VO.step rfl rfl ?_ | refine VD.end rfl rfl rfl ?_ | refine VD.mid rfl rfl rfl ?_); refine OpV.call rfl rfl (fun _ _ => by simp) (may_ok d k at_) Ent.re rfl ?_); intro _ _)
  (refine w ?_; repeat ((first | refine VO.step rfl rfl ?_ | refine VD.end rfl rfl rfl ?_ | refine VD.mid rfl rfl rfl ?_); refine OpV.box rfl rfl rfl ?_; intro _; refine w ?_))
  (refine VC.condTe rfl rfl (by simpa using h) ?_)
  (refine w ?_; repeat ((first | refine VO.step rfl rfl ?_ | refine VD.end rfl rfl rfl ?_ | refine VD.mid rfl rfl rfl ?_); refine OpV.box rfl rfl rfl ?_; intro _; refine w ?_))
  (refine VE.done1 rfl ?_ ?_)
  · rfl
  · exact Ent.refl
theorem may_zero {k : DiskD} {a : Int} (h : k.may a = 0) : k.failed = false ∧ 0 ≤ a ∧ a < k.last.length := by
  unfold DiskD.may at h
  split at h
  · cases h
  · rename_i h1
    split at h
    · cases h
    · exact ⟨by simpa using h1, by omega, by omega⟩

theorem write_len {W : World} {R : List SProp} {ao : Option Addr} {cap nb : Nat} (d : Nat) (k : DiskD) (at_ : Int) (h : k.may at_ = 0) (hb : nb ≠ 128) :
    Does1 W Tryz.prog 47 [.pointer (some ⟨d, 0, none⟩), .int .i64 at_, .slice ao nb cap] (DiskR d k :: R) (.int .u16 4) (DiskR d k :: R) := by
  (refine Does.enter Tryz.func47 Tryz.ntmps47 rfl rfl ?_)
  (refine w ?_; repeat ((first | refine VO.step rfl rfl ?_ | refine VD.end rfl rfl rfl ?_ | refine VD.mid rfl rfl rfl ?_); refine OpV.box rfl rfl rfl ?_; intro _; refine w ?_))
  (((first | refine VO.step rfl rfl ?_ | refine VD.end rfl rfl rfl ?_ | refine VD.mid rfl rfl rfl ?_); refine OpV.call rfl rfl (fun _ _ => by simp) (may_ok d k at_) Ent.re rfl ?_); intro _ _)
  (refine w ?_; repeat ((first | refine VO.step rfl rfl ?_ | refine VD.end rfl rfl rfl ?_ | refine VD.mid rfl rfl rfl ?_); refine OpV.box rfl rfl rfl ?_; intro _; refine w ?_))
  (refine VC.condFe rfl rfl (by simp [h]) ?_)
  (refine w ?_; repeat ((first | refine VO.step rfl rfl ?_ | refine VD.end rfl rfl rfl ?_ | refine VD.mid rfl rfl rfl ?_); refine OpV.box rfl rfl rfl ?_; intro _; refine w ?_))
  (refine VC.condTe rfl rfl (by simp; omega) ?_)
  (refine w ?_; repeat ((first | refine VO.step rfl rfl ?_ | refine VD.end rfl rfl rfl ?_ | refine VD.mid rfl rfl rfl ?_); refine OpV.box rfl rfl rfl ?_; intro _; refine w ?_))
  (refine VE.done1 rfl ?_ ?_)
  · rfl
  · exact Ent.refl

theorem buildX_step {pls : List (Nat × Nat)} {cs : List Value} {i o : Nat} {v : Value} {r : List (Nat × Value)} (h : pls[i]? = some (o, v.cells.size)) (hl : o + v.cells.size ≤ cs.length) :
    buildX pls cs ((i, v) :: r) = buildX pls (setL cs o v.cells.toList) r := by
  rw [buildX, h]
  simp only [ne_eq, not_true_eq_false, decide_false, Bool.false_or]
  rw [if_neg (by simpa using hl)]
theorem build_write (a : Int) (vs : List Value) (h : vs.length = 128) : buildX [(0, 1), (1, 128)] (.int .i64 0 :: List.replicate 128 zb) [(0, .int .i64 a), (1, .agg vs.toArray)] = some (.int .i64 a :: vs) := by
  have e : setL (.int .i64 a :: List.replicate 128 zb) 1 vs = .int .i64 a :: vs := setL_mid vs [.int .i64 a] (List.replicate 128 zb) (by rw [h, List.length_replicate])
  rw [buildX_step (o := 0) (v := .int .i64 a) rfl (by show 0 + 1 ≤ _; rw [List.length_cons, List.length_replicate]; decide), buildX_step (o := 1) (v := .agg vs.toArray) (by show some (1, 128) = some (1, vs.toArray.size); rw [List.size_toArray, h]) (by show 1 + vs.toArray.size ≤ (setL _ 0 [_]).length; rw [setL_length, List.length_cons, List.length_replicate, List.size_toArray, h]; decide)]
  exact congrArg some e
theorem wCells_length {c : Nat × List UInt8} (h : c.2.length = 128) : (wCells c).length = 129 := by simp [wCells, h]
theorem wCells_one (c : Nat × List UInt8) : ∀ u ∈ wCells c, u.oneCell' = true := by
  intro u hu
  rcases List.mem_cons.1 hu with h | h
  · subst h; rfl
  · exact bytes_one _ u h
theorem Addr_add_zero (a : Addr) : a.add 0 = a := by simp [Addr.add]

theorem DiskD.write_okk {k : DiskD} {a : Nat} {b : List UInt8} (hk : k.ok) (ha : a < k.last.length) (hb : b.length = 128) : (k.write a b).ok :=
  ⟨hk.last, fun c hc => by
    rcases List.mem_append.1 hc with h | h
    · exact hk.cache c h
    · rw [List.mem_singleton] at h; subst h; exact ⟨ha, hb⟩, hk.size⟩

theorem write_ok {W : World} {R : List SProp} {ao : Option Addr} {cap : Nat} {b : List UInt8} (d : Nat) (k : DiskD) (a : Nat) (ha : a < k.last.length) (hf : k.failed = false) (hb : b.length = 128) (hc : k.cache.length ≤ 1000000000)
    (hr : Rds W R 1 ao 128 (bytes b)) :
    Does1 W Tryz.prog 47 [.pointer (some ⟨d, 0, none⟩), .int .i64 a, .slice ao 128 cap] (DiskR d k :: R) (.int .u16 0) (DiskR d (k.write a b) :: R) := by
  have hm : k.may a = 0 := by unfold DiskD.may; rw [hf, if_neg (by simp), if_neg (by omega)]
  obtain ⟨ad, rfl⟩ : ∃ ad, ao = some ad := by cases ao with | none => have := hr.nil rfl; omega | some ad => exact ⟨ad, rfl⟩
  (refine Does.enter Tryz.func47 Tryz.ntmps47 rfl rfl ?_)
  (refine w ?_; repeat ((first | refine VO.step rfl rfl ?_ | refine VD.end rfl rfl rfl ?_ | refine VD.mid rfl rfl rfl ?_); refine OpV.box rfl rfl rfl ?_; intro _; refine w ?_))
  (((first | refine VO.step rfl rfl ?_ | refine VD.end rfl rfl rfl ?_ | refine VD.mid rfl rfl rfl ?_); refine OpV.call rfl rfl (fun _ _ => by simp) (may_ok d k a) Ent.re rfl ?_); intro _ _)
  (refine w ?_; repeat ((first | refine VO.step rfl rfl ?_ | refine VD.end rfl rfl rfl ?_ | refine VD.mid rfl rfl rfl ?_); refine OpV.box rfl rfl rfl ?_; intro _; refine w ?_))
  (refine VC.condFe rfl rfl (by simp [hm]) ?_)
  (refine w ?_; repeat ((first | refine VO.step rfl rfl ?_ | refine VD.end rfl rfl rfl ?_ | refine VD.mid rfl rfl rfl ?_); refine OpV.box rfl rfl rfl ?_; intro _; refine w ?_))
  refine VC.obtain (fun w => DiskR.open) ?_
  rintro ⟨⟨⟨lo, lc⟩, ⟨co, cc⟩, m⟩, hk⟩
  (refine VC.drawn [] 10 [0, 1, 2, 3, 4, 5, 6, 7, 8, 9, 10] _ rfl (by kernel_rfl) (by kernel_rfl) Ent.re ?_)
  dsimp only [DiskO]
  (refine w ?_; repeat ((first | refine VO.step rfl rfl ?_ | refine VD.end rfl rfl rfl ?_ | refine VD.mid rfl rfl rfl ?_); refine OpV.box rfl rfl rfl ?_; intro _; refine w ?_))
  (first | refine VO.step rfl rfl ?_ | refine VD.end rfl rfl rfl ?_ | refine VD.mid rfl rfl rfl ?_)
  refine OpV.mapUpdate Tryz.underlying134 Tryz.underlying3 rfl rfl rfl (by (repeat first | exact .head | apply Hole.tail)) ?_
  (refine w ?_; repeat ((first | refine VO.step rfl rfl ?_ | refine VD.end rfl rfl rfl ?_ | refine VD.mid rfl rfl rfl ?_); refine OpV.box rfl rfl rfl ?_; intro _; refine w ?_))
  (refine VC.drawn [10, 11] 12 [0, 1, 2, 3, 4, 5, 6, 7, 8, 9, 10, 11, 12, 13, 14] (Row d 137 [.slice lo k.last.length lc, .slice co k.cache.length cc, .map (some m), .bool k.failed] :: R) rfl (by kernel_rfl) (by kernel_rfl) Ent.re ?_)
  (refine w ?_; repeat ((first | refine VO.step rfl rfl ?_ | refine VD.end rfl rfl rfl ?_ | refine VD.mid rfl rfl rfl ?_); refine OpV.box rfl rfl rfl ?_; intro _; refine w ?_))
  (first | refine VO.pure rfl rfl (PureAt.toArray Tryz.underlying149 rfl (Nat.le_refl 128)) rfl ?_ | refine VD.take rfl rfl rfl (PureAt.toArray Tryz.underlying149 rfl (Nat.le_refl 128)) rfl ?_ | refine VQ.pure rfl rfl (PureAt.toArray Tryz.underlying149 rfl (Nat.le_refl 128)) rfl ?_ | refine VD.end rfl rfl rfl (OpV.pure (PureAt.toArray Tryz.underlying149 rfl (Nat.le_refl 128)) rfl ?_))
  refine VD.re 34 (.pointer (some (ad.add 0))) rfl (by rw [Addr_add_zero]) ?_
  (first | refine VO.pure rfl rfl (.ldRA tab_ok rfl rfl (hr.ent (Reord.ent (Reord.drop .refl))) (show ((bytes b).drop 0).take 128 = bytes b from List.take_of_length_le (by simp [hb])) (by simp [hb])) rfl ?_ | refine VD.take rfl rfl rfl (.ldRA tab_ok rfl rfl (hr.ent (Reord.ent (Reord.drop .refl))) (show ((bytes b).drop 0).take 128 = bytes b from List.take_of_length_le (by simp [hb])) (by simp [hb])) rfl ?_ | refine VQ.pure rfl rfl (.ldRA tab_ok rfl rfl (hr.ent (Reord.ent (Reord.drop .refl))) (show ((bytes b).drop 0).take 128 = bytes b from List.take_of_length_le (by simp [hb])) (by simp [hb])) rfl ?_ | refine VD.end rfl rfl rfl (OpV.pure (.ldRA tab_ok rfl rfl (hr.ent (Reord.ent (Reord.drop .refl))) (show ((bytes b).drop 0).take 128 = bytes b from List.take_of_length_le (by simp [hb])) (by simp [hb])) rfl ?_))
  (first | refine VO.pure rfl rfl (PureAt.build sb_write rfl (build_write a (bytes b) (by simp [hb]))) rfl ?_ | refine VD.take rfl rfl rfl (PureAt.build sb_write rfl (build_write a (bytes b) (by simp [hb]))) rfl ?_ | refine VQ.pure rfl rfl (PureAt.build sb_write rfl (build_write a (bytes b) (by simp [hb]))) rfl ?_ | refine VD.end rfl rfl rfl (OpV.pure (PureAt.build sb_write rfl (build_write a (bytes b) (by simp [hb]))) rfl ?_))
  (first | refine VO.step rfl rfl ?_ | refine VD.end rfl rfl rfl ?_ | refine VD.mid rfl rfl rfl ?_)
  refine OpV.buildSlice (vs := [.agg (wCells (a, b)).toArray]) (cs := wCells (a, b)) st_writes rfl rfl (by simp [Value.cells, wCells, hb]) (by simp [Value.cells]) (by decide) rfl ?_
  intro nb
  refine ⟨Ent.re, ?_⟩
  (first | refine VO.step rfl rfl ?_ | refine VD.end rfl rfl rfl ?_ | refine VD.mid rfl rfl rfl ?_)
  refine OpV.appendRow st_writes rfl rfl (by (repeat first | exact .head | apply Hole.tail)) (by (focus repeat first | exact .head _ | apply List.Mem.tail)) (by simp [wCells, hb]) (wCells_one (a, b)) ?_ ?_ rfl ?_
  · simp only [maxLen]; omega
  · omega
  intro co' cc'
  refine ⟨Ent.re, ?_⟩
  (refine w ?_; repeat ((first | refine VO.step rfl rfl ?_ | refine VD.end rfl rfl rfl ?_ | refine VD.mid rfl rfl rfl ?_); refine OpV.box rfl rfl rfl ?_; intro _; refine w ?_))
  (refine VE.done1 rfl ?_ ?_)
  · rfl
  · refine Ent.trans ?_ (DiskR.shut (x := ((lo, lc), (co', cc'), m)) (DiskD.write_okk hk ha hb))
    have e1 : (k.write a b).cache = k.cache ++ [(a, b)] := rfl
    have e2 : (k.write a b).last = k.last := rfl
    have e3 : (k.write a b).failed = k.failed := rfl
    simp only [DiskO, e1, e2, e3, seenOf_snoc, List.flatMap_append, List.flatMap_singleton, List.length_append, List.length_singleton, List.set_cons_zero, List.set_cons_succ]
    exact Ent.re

/-! ### settle -/

def sets (keep : Nat → Bool) : List (List UInt8) → Nat → List (Nat × List UInt8) → List (List UInt8)
  | last, _, [] => last
  | last, i, c :: r => sets keep (if keep i then last.set c.1 c.2 else last) (i + 1) r
theorem sets_snoc (keep : Nat → Bool) (c : Nat × List UInt8) : ∀ (l : List (Nat × List UInt8)) (last : List (List UInt8)) (i : Nat), sets keep last i (l ++ [c]) = if keep (i + l.length) then (sets keep last i l).set c.1 c.2 else sets keep last i l
  | [], last, i => by simp [sets]
  | x :: r, last, i => by
    rw [List.cons_append, sets, sets_snoc keep c r, sets, List.length_cons, show i + 1 + r.length = i + (r.length + 1) by omega]
theorem sets_length (keep : Nat → Bool) : ∀ (l : List (Nat × List UInt8)) (last : List (List UInt8)) (i : Nat), (sets keep last i l).length = last.length
  | [], _, _ => rfl
  | x :: r, last, i => by rw [sets, sets_length keep r]; split <;> simp
theorem sets_128 (keep : Nat → Bool) : ∀ (l : List (Nat × List UInt8)) (last : List (List UInt8)) (i : Nat), (∀ b ∈ last, b.length = 128) → (∀ c ∈ l, c.2.length = 128) → ∀ b ∈ sets keep last i l, b.length = 128
  | [], _, _, h, _, b, hb => h b hb
  | x :: r, last, i, h, hc, b, hb => by
    rw [sets] at hb
    refine sets_128 keep r _ _ (fun y hy => ?_) (fun c h => hc c (.tail _ h)) b hb
    split at hy
    · rcases List.mem_or_eq_of_mem_set hy with q | q
      · exact h y q
      · subst q; exact hc x (.head _)
    · exact h y hy
theorem store_all (zs vs : List Value) (n : Nat) (h : zs.length = n) : zs.take 0 ++ vs ++ zs.drop (0 + n) = vs := by simp [← h]
def DiskD.settle (k : DiskD) (keep : Nat → Bool) : DiskD := ⟨sets keep k.last 0 k.cache, [], k.failed⟩
theorem DiskD.settle_okk {k : DiskD} {keep : Nat → Bool} (hk : k.ok) : (k.settle keep).ok :=
  ⟨sets_128 keep _ _ _ hk.last (fun c h => (hk.cache c h).2), fun c h => absurd h (by simp [DiskD.settle]), by unfold DiskD.settle; rw [sets_length]; exact hk.size⟩

theorem caches_one (l : List (Nat × List UInt8)) : ∀ u ∈ l.flatMap wCells, u.oneCell' = true := by
  intro u hu; obtain ⟨c, _, h⟩ := List.mem_flatMap.1 hu; exact wCells_one c u h
theorem lasts_one (l : List (List UInt8)) : ∀ u ∈ l.flatMap bytes, u.oneCell' = true := by
  intro u hu; obtain ⟨c, _, h⟩ := List.mem_flatMap.1 hu; exact bytes_one c u h

set_option maxHeartbeats 2000000 in
theorem settle_ok {W : World} {R : List SProp} {g : FuncId} {cp : Array Value} {keep : Nat → Bool} (d : Nat) (k : DiskD) (hcf : ∀ a w, (callFunc g a).run Tryz.prog w = .ok (.enter g a) w)
    (hkeep : ∀ (i : Nat) (X : List SProp), Does1 W Tryz.prog g (.int .i64 i :: cp.toList) (X ++ R) (.bool (keep i)) (X ++ R)) :
    Does1 W Tryz.prog 88 [.pointer (some ⟨d, 0, none⟩), .func (.func g) #[] cp] (DiskR d k :: R) (.tuple #[]) (DiskR d (k.settle keep) :: R) := by
  (refine Does.enter Tryz.func88 Tryz.ntmps88 rfl rfl ?_)
  refine VC.obtain (fun w => DiskR.open) ?_
  rintro ⟨⟨⟨lo, lc⟩, ⟨co, cc⟩, m⟩, hk⟩
  dsimp only [DiskO]
  refine VC.know (fun w hw => hw.ownNone (by (focus repeat first | exact .head _ | apply List.Mem.tail)) : ∀ w, _ → (co = none → k.cache.length = 0)) ?_
  intro hcn
  refine VC.know (fun w hw => hw.ownNone (by (focus repeat first | exact .head _ | apply List.Mem.tail)) : ∀ w, _ → (lo = none → k.last.length = 0)) ?_
  intro hln
  refine VC.know (fun w hw => hw.ownMax (show Own 151 129 (.slice co k.cache.length cc) k.cache.length (k.cache.flatMap wCells) ∈ _ by (focus repeat first | exact .head _ | apply List.Mem.tail)) : ∀ w, _ → k.cache.length ≤ maxLen) ?_
  intro hmax
  simp only [maxLen] at hmax
  (refine w ?_; repeat ((first | refine VO.step rfl rfl ?_ | refine VD.end rfl rfl rfl ?_ | refine VD.mid rfl rfl rfl ?_); refine OpV.box rfl rfl rfl ?_; intro _; refine w ?_))
  refine VC.loop (α := Nat) (fun i => i ≤ k.cache.length)
    (fun i => Row d 137 [.slice lo k.last.length lc, .slice co k.cache.length cc, .map (some m), .bool k.failed] :: Own 149 128 (.slice lo k.last.length lc) k.last.length ((sets keep k.last 0 (k.cache.take i)).flatMap bytes) ::
      Own 151 129 (.slice co k.cache.length cc) k.cache.length (k.cache.flatMap wCells) :: MapR m (seenOf k.cache) :: R)
    (fun i => [(0, .pointer (some ⟨d, 0, none⟩)), (1, .func (.func g) #[] cp), (9, .slice co k.cache.length cc), (10, .int .i64 k.cache.length), (11, .int .i64 i)]) (fun i => k.cache.length - i) rfl 0 (Nat.zero_le _) Ent.refl ⟨rfl, rfl, rfl, rfl, rfl, trivial⟩ ?_
  intro i hi
  (refine w ?_; repeat ((first | refine VO.step rfl rfl ?_ | refine VD.end rfl rfl rfl ?_ | refine VD.mid rfl rfl rfl ?_); refine OpV.box rfl rfl rfl ?_; intro _; refine w ?_))
  (refine VC.cond rfl rfl ?_ ?_ <;> intro hc)
  · have hlt : i < k.cache.length := by have := of_decide_eq_true hc; omega
    obtain ⟨a, rfl⟩ : ∃ a, co = some a := by cases co with | none => have := hcn rfl; omega | some a => exact ⟨a, rfl⟩
    obtain ⟨hw1, hw2⟩ := hk.cache k.cache[i] (List.getElem_mem hlt)
    obtain ⟨b, rfl⟩ : ∃ b, lo = some b := by cases lo with | none => have := hln rfl; omega | some b => exact ⟨b, rfl⟩
    have hpart := flat_part (g := wCells) (w := 129) k.cache i hlt (fun c h => wCells_length (hk.cache c h).2)
    (refine w ?_; repeat ((first | refine VO.step rfl rfl ?_ | refine VD.end rfl rfl rfl ?_ | refine VD.mid rfl rfl rfl ?_); refine OpV.box rfl rfl rfl ?_; intro _; refine w ?_))
    (first | refine VO.pure rfl rfl (.ldRA tab_ok rfl rfl (Rds.own (caches_one _) (by (focus repeat first | exact .head _ | apply List.Mem.tail)) (flat_length _ (fun c h => wCells_length (hk.cache c h).2)) hcn) hpart (wCells_length hw2)) rfl ?_ | refine VD.take rfl rfl rfl (.ldRA tab_ok rfl rfl (Rds.own (caches_one _) (by (focus repeat first | exact .head _ | apply List.Mem.tail)) (flat_length _ (fun c h => wCells_length (hk.cache c h).2)) hcn) hpart (wCells_length hw2)) rfl ?_ | refine VQ.pure rfl rfl (.ldRA tab_ok rfl rfl (Rds.own (caches_one _) (by (focus repeat first | exact .head _ | apply List.Mem.tail)) (flat_length _ (fun c h => wCells_length (hk.cache c h).2)) hcn) hpart (wCells_length hw2)) rfl ?_ | refine VD.end rfl rfl rfl (OpV.pure (.ldRA tab_ok rfl rfl (Rds.own (caches_one _) (by (focus repeat first | exact .head _ | apply List.Mem.tail)) (flat_length _ (fun c h => wCells_length (hk.cache c h).2)) hcn) hpart (wCells_length hw2)) rfl ?_))
    generalize hcc : k.cache[i] = c at *
    have hsn : sets keep k.last 0 (k.cache.take (i + 1)) = if keep i then (sets keep k.last 0 (k.cache.take i)).set c.1 c.2 else sets keep k.last 0 (k.cache.take i) := by
      rw [List.take_succ_eq_append_getElem hlt, sets_snoc, List.length_take, Nat.min_eq_left hi, Nat.zero_add, hcc]
    have hsl : (sets keep k.last 0 (k.cache.take i)).length = k.last.length := sets_length _ _ _ _
    have hs8 := sets_128 keep (k.cache.take i) k.last 0 hk.last (fun c h => (hk.cache c (List.mem_of_mem_take h)).2)
    generalize sets keep k.last 0 (k.cache.take i) = la at *
    ((first | refine VO.step rfl rfl ?_ | refine VD.end rfl rfl rfl ?_ | refine VD.mid rfl rfl rfl ?_); refine OpV.allocS sb_write rfl ?_; intro na)
    (refine w ?_; repeat ((first | refine VO.step rfl rfl ?_ | refine VD.end rfl rfl rfl ?_ | refine VD.mid rfl rfl rfl ?_); refine OpV.box rfl rfl rfl ?_; intro _; refine w ?_))
    (first | refine VO.step rfl rfl ?_ | refine VD.end rfl rfl rfl ?_ | refine VD.mid rfl rfl rfl ?_)
    refine OpV.stA (vs := wCells c) tab_ok rfl rfl rfl (wCells_length hw2) (wCells_one _) (by (repeat first | exact .head | apply Hole.tail)) (by rw [List.length_cons, List.length_replicate]; decide) ?_
    rw [store_all _ _ 129 (by rw [List.length_cons, List.length_replicate])]
    (refine w ?_; repeat ((first | refine VO.step rfl rfl ?_ | refine VD.end rfl rfl rfl ?_ | refine VD.mid rfl rfl rfl ?_); refine OpV.box rfl rfl rfl ?_; intro _; refine w ?_))
    (first | refine VO.step rfl rfl ?_ | refine VD.end rfl rfl rfl ?_ | refine VD.mid rfl rfl rfl ?_)
    refine OpV.call rfl rfl hcf (hkeep i [Row na 151 (wCells c), Row d 137 [.slice (some b) k.last.length lc, .slice (some a) k.cache.length cc, .map (some m), .bool k.failed], Own 149 128 (.slice (some b) k.last.length lc) k.last.length (la.flatMap bytes),
      Own 151 129 (.slice (some a) k.cache.length cc) k.cache.length (k.cache.flatMap wCells), MapR m (seenOf k.cache)]) Ent.refl rfl ?_
    intro _ _
    dsimp only [List.cons_append, List.nil_append]
    (refine w ?_; repeat ((first | refine VO.step rfl rfl ?_ | refine VD.end rfl rfl rfl ?_ | refine VD.mid rfl rfl rfl ?_); refine OpV.box rfl rfl rfl ?_; intro _; refine w ?_))
    (refine VC.cond rfl rfl ?_ ?_ <;> intro hc)
    · have hkt : keep i = true := hc
      (refine w ?_; repeat ((first | refine VO.step rfl rfl ?_ | refine VD.end rfl rfl rfl ?_ | refine VD.mid rfl rfl rfl ?_); refine OpV.box rfl rfl rfl ?_; intro _; refine w ?_))
      (refine VC.drawn [] 8 [0, 1, 2, 3, 4, 5, 6, 7, 8, 9] _ rfl (by kernel_rfl) (by kernel_rfl) Ent.re ?_)
      (refine w ?_; repeat ((first | refine VO.step rfl rfl ?_ | refine VD.end rfl rfl rfl ?_ | refine VD.mid rfl rfl rfl ?_); refine OpV.box rfl rfl rfl ?_; intro _; refine w ?_))
      (first | refine VO.pure rfl rfl (PureAt.ldA tab_ok rfl rfl (.head _) (show ((wCells c).drop 1).take 128 = bytes c.2 from List.take_of_length_le (by rw [List.length_drop, wCells_length hw2]; decide)) (by simp [hw2])) rfl ?_ | refine VD.take rfl rfl rfl (PureAt.ldA tab_ok rfl rfl (.head _) (show ((wCells c).drop 1).take 128 = bytes c.2 from List.take_of_length_le (by rw [List.length_drop, wCells_length hw2]; decide)) (by simp [hw2])) rfl ?_ | refine VQ.pure rfl rfl (PureAt.ldA tab_ok rfl rfl (.head _) (show ((wCells c).drop 1).take 128 = bytes c.2 from List.take_of_length_le (by rw [List.length_drop, wCells_length hw2]; decide)) (by simp [hw2])) rfl ?_ | refine VD.end rfl rfl rfl (OpV.pure (PureAt.ldA tab_ok rfl rfl (.head _) (show ((wCells c).drop 1).take 128 = bytes c.2 from List.take_of_length_le (by rw [List.length_drop, wCells_length hw2]; decide)) (by simp [hw2])) rfl ?_))
      (refine w ?_; repeat ((first | refine VO.step rfl rfl ?_ | refine VD.end rfl rfl rfl ?_ | refine VD.mid rfl rfl rfl ?_); refine OpV.box rfl rfl rfl ?_; intro _; refine w ?_))
      (first | refine VO.step rfl rfl ?_ | refine VD.end rfl rfl rfl ?_ | refine VD.mid rfl rfl rfl ?_)
      refine OpV.stOA (vs := bytes c.2) tab_ok rfl rfl rfl (by simp [hw2]) (bytes_one _) (by (repeat first | exact .head | apply Hole.tail)) ?_ ?_
      · rw [flat_length (w := 128) _ (fun b h => by simp [hs8 b h]), hsl]; omega
      rw [flat_set (g := bytes) (w := 128) c.2 la c.1 (by omega) (fun b h => by simp [hs8 b h])]
      (refine w ?_; repeat ((first | refine VO.step rfl rfl ?_ | refine VD.end rfl rfl rfl ?_ | refine VD.mid rfl rfl rfl ?_); refine OpV.box rfl rfl rfl ?_; intro _; refine w ?_))
      refine VE.round (i + 1) hlt (by omega) ⟨rfl, rfl, rfl, rfl, rfl, trivial⟩ ?_
      rw [hsn, if_pos hkt]
      exact Ent.re
    · have hkt : ¬ keep i = true := by simpa using hc
      (refine w ?_; repeat ((first | refine VO.step rfl rfl ?_ | refine VD.end rfl rfl rfl ?_ | refine VD.mid rfl rfl rfl ?_); refine OpV.box rfl rfl rfl ?_; intro _; refine w ?_))
      refine VE.round (i + 1) hlt (by omega) ⟨rfl, rfl, rfl, rfl, rfl, trivial⟩ ?_
      rw [hsn, if_neg hkt]
      exact Ent.re
  · have hge : i = k.cache.length := by have := of_decide_eq_false hc; omega
    subst hge
    rw [List.take_of_length_le (Nat.le_refl k.cache.length)]
    (refine w ?_; repeat ((first | refine VO.step rfl rfl ?_ | refine VD.end rfl rfl rfl ?_ | refine VD.mid rfl rfl rfl ?_); refine OpV.box rfl rfl rfl ?_; intro _; refine w ?_))
    (first | refine VO.step rfl rfl ?_ | refine VD.end rfl rfl rfl ?_ | refine VD.mid rfl rfl rfl ?_)
    refine OpV.clearMap Tryz.underlying134 rfl (by (repeat first | exact .head | apply Hole.tail)) ?_
    (refine w ?_; repeat ((first | refine VO.step rfl rfl ?_ | refine VD.end rfl rfl rfl ?_ | refine VD.mid rfl rfl rfl ?_); refine OpV.box rfl rfl rfl ?_; intro _; refine w ?_))
    (refine VE.done1N rfl ?_ ?_)
    · rfl
    · intro w hw
      refine DiskR.shut (k := k.settle keep) (x := ((lo, lc), (none, 0), m)) (DiskD.settle_okk hk) w ((hw.ownNil 151 129).reord ?_)
      have e1 : (k.settle keep).cache = [] := rfl
      have e2 : (k.settle keep).last = sets keep k.last 0 k.cache := rfl
      have e3 : (k.settle keep).failed = k.failed := rfl
      simp only [DiskO, e1, e2, e3, seenOf_nil, sets_length, List.flatMap_nil, List.length_nil, List.set_cons_zero, List.set_cons_succ]
      (repeat first | exact .refl | (apply Reord.cons; focus repeat first | exact .head | apply Del.tail) | exact .nil | apply Reord.drop)
end Go.Proofs.YtpmmkmcbimnigaaGreat

/-! Text Dl. -/
/- Package disk: Flush, Fail, Crash, Read, Image, Pending. -/
set_option maxRecDepth 8000
set_option linter.unusedVariables false
set_option linter.unusedSimpArgs false
set_option linter.unusedSectionVars false
namespace Go.Proofs.YtpmmkmcbimnigaaGreat
open Go.RowKit Go.Sl
attribute [local irreducible] Own

theorem Ent.dropAll {W : World} {R : List SProp} : ∀ X : List SProp, Ent W (X ++ R) R
  | [] => Ent.refl
  | _ :: r => Ent.drop (Ent.dropAll r)

theorem flushf_ok {W : World} {R : List SProp} (i : Nat) : Does1 W Tryz.prog 89 [.int .i64 i] R (.bool true) R := by
  (refine Does.enter Tryz.func89 Tryz.ntmps89 rfl rfl ?_)
  (refine w ?_; repeat ((first | refine VO.step rfl rfl ?_ | refine VD.end rfl rfl rfl ?_ | refine VD.mid rfl rfl rfl ?_); refine OpV.box rfl rfl rfl ?_; intro _; refine w ?_))
  (first | exact VE.done1 rfl rfl Ent.refl | exact VE.done1N rfl rfl Ent.refl)
theorem failf_ok {W : World} {R : List SProp} (i : Nat) : Does1 W Tryz.prog 91 [.int .i64 i] R (.bool false) R := by
  (refine Does.enter Tryz.func91 Tryz.ntmps91 rfl rfl ?_)
  (refine w ?_; repeat ((first | refine VO.step rfl rfl ?_ | refine VD.end rfl rfl rfl ?_ | refine VD.mid rfl rfl rfl ?_); refine OpV.box rfl rfl rfl ?_; intro _; refine w ?_))
  (first | exact VE.done1 rfl rfl Ent.refl | exact VE.done1N rfl rfl Ent.refl)

def bools (l : List Bool) : List Value := l.map .bool
@[simp] theorem bools_length (l : List Bool) : (bools l).length = l.length := by simp [bools]
theorem bools_one (l : List Bool) : ∀ u ∈ bools l, u.oneCell' = true := by
  intro u hu; obtain ⟨c, _, rfl⟩ := List.mem_map.1 hu; rfl
def keepOf (l : List Bool) (i : Nat) : Bool := l.getD i false

theorem crashf_ok {W : World} {R : List SProp} {ao : Option Addr} {n cap bx : Nat} {l : List Bool} (i : Nat) (hm : Row bx 147 [.slice ao n cap] ∈ R) (hr : Rds W R 1 ao n (bools l)) :
    Does1 W Tryz.prog 92 [.int .i64 i, .pointer (some ⟨bx, 0, none⟩)] R (.bool (keepOf l i)) R := by
  have hl : l.length = n := by have := hr.len; simpa using this
  (refine Does.enter Tryz.func92 Tryz.ntmps92 rfl rfl ?_)
  (refine w ?_; repeat ((first | refine VO.step rfl rfl ?_ | refine VD.end rfl rfl rfl ?_ | refine VD.mid rfl rfl rfl ?_); refine OpV.box rfl rfl rfl ?_; intro _; refine w ?_))
  (first | refine VO.pure rfl rfl (PureAt.ld tab_ok rfl rfl hm rfl) rfl ?_ | refine VD.take rfl rfl rfl (PureAt.ld tab_ok rfl rfl hm rfl) rfl ?_ | refine VQ.pure rfl rfl (PureAt.ld tab_ok rfl rfl hm rfl) rfl ?_ | refine VD.end rfl rfl rfl (OpV.pure (PureAt.ld tab_ok rfl rfl hm rfl) rfl ?_))
  (refine w ?_; repeat ((first | refine VO.step rfl rfl ?_ | refine VD.end rfl rfl rfl ?_ | refine VD.mid rfl rfl rfl ?_); refine OpV.box rfl rfl rfl ?_; intro _; refine w ?_))
  ((first | refine VO.split rfl rfl rfl ?_ ?_ | refine VD.split rfl rfl rfl ?_ ?_) <;> intro hb)
  · have hlt : i < n := by have := of_decide_eq_true hb; omega
    obtain ⟨a, rfl⟩ : ∃ a, ao = some a := by cases ao with | none => have := hr.nil rfl; omega | some a => exact ⟨a, rfl⟩
    (first | refine VO.pure rfl rfl (PureAt.ld tab_ok rfl rfl hm rfl) rfl ?_ | refine VD.take rfl rfl rfl (PureAt.ld tab_ok rfl rfl hm rfl) rfl ?_ | refine VQ.pure rfl rfl (PureAt.ld tab_ok rfl rfl hm rfl) rfl ?_ | refine VD.end rfl rfl rfl (OpV.pure (PureAt.ld tab_ok rfl rfl hm rfl) rfl ?_))
    (refine w ?_; repeat ((first | refine VO.step rfl rfl ?_ | refine VD.end rfl rfl rfl ?_ | refine VD.mid rfl rfl rfl ?_); refine OpV.box rfl rfl rfl ?_; intro _; refine w ?_))
    (first | refine VO.pure rfl rfl (PureAt.ldR tab_ok rfl rfl hr (show (bools l)[i]? = some (.bool (keepOf l i)) by simp [bools, keepOf, hl, hlt])) rfl ?_ | refine VD.take rfl rfl rfl (PureAt.ldR tab_ok rfl rfl hr (show (bools l)[i]? = some (.bool (keepOf l i)) by simp [bools, keepOf, hl, hlt])) rfl ?_ | refine VQ.pure rfl rfl (PureAt.ldR tab_ok rfl rfl hr (show (bools l)[i]? = some (.bool (keepOf l i)) by simp [bools, keepOf, hl, hlt])) rfl ?_ | refine VD.end rfl rfl rfl (OpV.pure (PureAt.ldR tab_ok rfl rfl hr (show (bools l)[i]? = some (.bool (keepOf l i)) by simp [bools, keepOf, hl, hlt])) rfl ?_))
    (refine w ?_; repeat ((first | refine VO.step rfl rfl ?_ | refine VD.end rfl rfl rfl ?_ | refine VD.mid rfl rfl rfl ?_); refine OpV.box rfl rfl rfl ?_; intro _; refine w ?_))
    (first | exact VE.done1 rfl rfl Ent.refl | exact VE.done1N rfl rfl Ent.refl)
  · have hge : n ≤ i := by have := of_decide_eq_false hb; omega
    (refine w ?_; repeat ((first | refine VO.step rfl rfl ?_ | refine VD.end rfl rfl rfl ?_ | refine VD.mid rfl rfl rfl ?_); refine OpV.box rfl rfl rfl ?_; intro _; refine w ?_))
    (refine VE.done1 rfl ?_ ?_)
    · simp [keepOf, hl, hge]
    · exact Ent.refl

theorem flush_ok {W : World} {R : List SProp} (d : Nat) (k : DiskD) (hf : k.failed = false) :
    Does1 W Tryz.prog 35 [.pointer (some ⟨d, 0, none⟩)] (DiskR d k :: R) (.int .u16 0) (DiskR d (k.settle fun _ => true) :: R) := by
  (refine Does.enter Tryz.func35 Tryz.ntmps35 rfl rfl ?_)
  refine VC.obtain (fun w => DiskR.open) ?_
  rintro ⟨⟨⟨lo, lc⟩, ⟨co, cc⟩, m⟩, hk⟩
  (refine w ?_; repeat ((first | refine VO.step rfl rfl ?_ | refine VD.end rfl rfl rfl ?_ | refine VD.mid rfl rfl rfl ?_); refine OpV.box rfl rfl rfl ?_; intro _; refine w ?_))
  (refine VC.condFe rfl rfl (hf) ?_)
  refine VC.ent (DiskR.shut hk) ?_
  (refine w ?_; repeat ((first | refine VO.step rfl rfl ?_ | refine VD.end rfl rfl rfl ?_ | refine VD.mid rfl rfl rfl ?_); refine OpV.box rfl rfl rfl ?_; intro _; refine w ?_))
  (((first | refine VO.step rfl rfl ?_ | refine VD.end rfl rfl rfl ?_ | refine VD.mid rfl rfl rfl ?_); refine OpV.call rfl rfl (fun _ _ => by simp) (settle_ok (cp := #[]) d k (fun _ _ => by simp) (fun i X => flushf_ok i)) Ent.re rfl ?_); intro _ _)
  (refine w ?_; repeat ((first | refine VO.step rfl rfl ?_ | refine VD.end rfl rfl rfl ?_ | refine VD.mid rfl rfl rfl ?_); refine OpV.box rfl rfl rfl ?_; intro _; refine w ?_))
  (refine VE.done1 rfl ?_ ?_)
  · rfl
  · exact Ent.refl
theorem flush_bad {W : World} {R : List SProp} (d : Nat) (k : DiskD) (hf : k.failed = true) :
    Does1 W Tryz.prog 35 [.pointer (some ⟨d, 0, none⟩)] (DiskR d k :: R) (.int .u16 2) (DiskR d k :: R) := by
  (refine Does.enter Tryz.func35 Tryz.ntmps35 rfl rfl ?_)
  refine VC.obtain (fun w => DiskR.open) ?_
  rintro ⟨⟨⟨lo, lc⟩, ⟨co, cc⟩, m⟩, hk⟩
  (refine w ?_; repeat ((first | refine VO.step rfl rfl ?_ | refine VD.end rfl rfl rfl ?_ | refine VD.mid rfl rfl rfl ?_); refine OpV.box rfl rfl rfl ?_; intro _; refine w ?_))
  (refine VC.condTe rfl rfl (hf) ?_)
  (refine w ?_; repeat ((first | refine VO.step rfl rfl ?_ | refine VD.end rfl rfl rfl ?_ | refine VD.mid rfl rfl rfl ?_); refine OpV.box rfl rfl rfl ?_; intro _; refine w ?_))
  (refine VE.done1 rfl ?_ ?_)
  · rfl
  · exact DiskR.shut hk
theorem fail_ok {W : World} {R : List SProp} (d : Nat) (k : DiskD) :
    Does1 W Tryz.prog 39 [.pointer (some ⟨d, 0, none⟩)] (DiskR d k :: R) (.tuple #[]) (DiskR d ((DiskD.mk k.last k.cache true).settle fun _ => false) :: R) := by
  (refine Does.enter Tryz.func39 Tryz.ntmps39 rfl rfl ?_)
  refine VC.obtain (fun w => DiskR.open) ?_
  rintro ⟨⟨⟨lo, lc⟩, ⟨co, cc⟩, m⟩, hk⟩
  dsimp only [DiskO]
  (refine w ?_; repeat ((first | refine VO.step rfl rfl ?_ | refine VD.end rfl rfl rfl ?_ | refine VD.mid rfl rfl rfl ?_); refine OpV.box rfl rfl rfl ?_; intro _; refine w ?_))
  refine VO.ent (DiskR.shut (k := ⟨k.last, k.cache, true⟩) (x := ((lo, lc), (co, cc), m)) ⟨hk.last, hk.cache, hk.size⟩) ?_
  (((first | refine VO.step rfl rfl ?_ | refine VD.end rfl rfl rfl ?_ | refine VD.mid rfl rfl rfl ?_); refine OpV.call rfl rfl (fun _ _ => by simp) (settle_ok (cp := #[]) d ⟨k.last, k.cache, true⟩ (fun _ _ => by simp) (fun i X => failf_ok i)) Ent.re rfl ?_); intro _ _)
  (refine w ?_; repeat ((first | refine VO.step rfl rfl ?_ | refine VD.end rfl rfl rfl ?_ | refine VD.mid rfl rfl rfl ?_); refine OpV.box rfl rfl rfl ?_; intro _; refine w ?_))
  (refine VE.done1N rfl ?_ ?_)
  · rfl
  · exact Ent.refl
theorem crash_ok {W : World} {R : List SProp} {ao : Option Addr} {n cap : Nat} {l : List Bool} (d : Nat) (k : DiskD) (hr : Rds W R 1 ao n (bools l)) :
    Does1 W Tryz.prog 42 [.pointer (some ⟨d, 0, none⟩), .slice ao n cap] (DiskR d k :: R) (.tuple #[]) (DiskR d (k.settle (keepOf l)) :: R) := by
  (refine Does.enter Tryz.func42 Tryz.ntmps42 rfl rfl ?_)
  (refine w ?_; repeat ((first | refine VO.step rfl rfl ?_ | refine VD.end rfl rfl rfl ?_ | refine VD.mid rfl rfl rfl ?_); refine OpV.box rfl rfl rfl ?_; intro _; refine w ?_))
  rename_i bx
  (first | refine VO.pure rfl rfl (PureAt.makeFunc1 rfl) rfl ?_ | refine VD.take rfl rfl rfl (PureAt.makeFunc1 rfl) rfl ?_ | refine VQ.pure rfl rfl (PureAt.makeFunc1 rfl) rfl ?_ | refine VD.end rfl rfl rfl (OpV.pure (PureAt.makeFunc1 rfl) rfl ?_))
  (((first | refine VO.step rfl rfl ?_ | refine VD.end rfl rfl rfl ?_ | refine VD.mid rfl rfl rfl ?_); refine OpV.call rfl rfl (fun _ _ => by simp) (settle_ok (R := Row bx 147 [.slice ao n cap] :: R) (cp := #[.pointer (some ⟨bx, 0, none⟩)]) d k (fun _ _ => by simp) (fun i X => crashf_ok i (List.mem_append_right _ (.head _)) (hr.ent ((Ent.dropAll X).trans (Ent.drop Ent.refl))))) Ent.re rfl ?_); intro _ _)
  (refine w ?_; repeat ((first | refine VO.step rfl rfl ?_ | refine VD.end rfl rfl rfl ?_ | refine VD.mid rfl rfl rfl ?_); refine OpV.box rfl rfl rfl ?_; intro _; refine w ?_))
  (refine VE.done1N rfl ?_ ?_)
  · rfl
  · exact Ent.re
end Go.Proofs.YtpmmkmcbimnigaaGreat

/-! Text Dm. -/
/- Package disk: Read, Image, Pending. -/
set_option maxRecDepth 8000
set_option linter.unusedVariables false
set_option linter.unusedSimpArgs false
set_option linter.unusedSectionVars false
namespace Go.Proofs.YtpmmkmcbimnigaaGreat
open Go.RowKit Go.Sl
attribute [local irreducible] Own

/-- A sector, as it was written last. -/
def DiskD.look (k : DiskD) (a : Nat) : List UInt8 := match seenOf k.cache (a : Int) with
  | some i => ((k.cache[i.toNat]?).map (·.2)).getD []
  | none => (k.last[a]?).getD []
/-! ### Image, Pending -/

theorem Rds.part {W : World} {H : List SProp} {sz m j : Nat} {a : Addr} {xs : List Value} (r : Rds W H sz (some a) m xs) (hj : j < m) : Rds W H 1 (some (a.add (j * sz))) sz ((xs.drop (j * sz)).take sz) := by
  have hl := r.len
  have : j * sz + sz ≤ m * sz := by rw [← Nat.succ_mul]; exact Nat.mul_le_mul_right _ hj
  refine ⟨by rw [List.length_take, List.length_drop]; omega, fun u hu => r.one u (List.mem_of_mem_drop (List.mem_of_mem_take hu)), fun h => (by cases h), fun w hw a' ha i v hv => ?_⟩
  cases ha
  rw [Addr_add_add]
  refine r.cell w hw a rfl _ _ ?_
  rw [List.getElem?_take] at hv
  split at hv
  · rw [List.getElem?_drop] at hv; exact hv
  · cases hv
theorem bytes_flatten : ∀ l : List (List UInt8), bytes l.flatten = l.flatMap bytes
  | [] => rfl
  | a :: r => by rw [List.flatten_cons, bytes_append, bytes_flatten r, List.flatMap_cons]

theorem image_bad {W : World} {R : List SProp} (d : Nat) (k : DiskD) (hf : k.failed = true) :
    Does1 W Tryz.prog 94 [.pointer (some ⟨d, 0, none⟩)] (DiskR d k :: R) (.slice none 0 0) (DiskR d k :: R) := by
  (refine Does.enter Tryz.func94 Tryz.ntmps94 rfl rfl ?_)
  refine VC.obtain (fun w => DiskR.open) ?_
  rintro ⟨⟨⟨lo, lc⟩, ⟨co, cc⟩, m⟩, hk⟩
  (refine w ?_; repeat ((first | refine VO.step rfl rfl ?_ | refine VD.end rfl rfl rfl ?_ | refine VD.mid rfl rfl rfl ?_); refine OpV.box rfl rfl rfl ?_; intro _; refine w ?_))
  (refine VC.condTe rfl rfl (hf) ?_)
  (refine w ?_; repeat ((first | refine VO.step rfl rfl ?_ | refine VD.end rfl rfl rfl ?_ | refine VD.mid rfl rfl rfl ?_); refine OpV.box rfl rfl rfl ?_; intro _; refine w ?_))
  (refine VE.done1 rfl ?_ ?_)
  · rfl
  · exact DiskR.shut hk

set_option maxHeartbeats 2000000 in
theorem image_ok {W : World} {R : List SProp} (d : Nat) (k : DiskD) (hf : k.failed = false) :
    Does W Tryz.prog 94 [.pointer (some ⟨d, 0, none⟩)] (DiskR d k :: R) (β := Option Addr × Nat) (fun _ => True) (fun x => .slice x.1 (k.last.length * 128) x.2)
      (fun x => Own 5 1 (.slice x.1 (k.last.length * 128) x.2) (k.last.length * 128) (bytes k.last.flatten) :: DiskR d k :: R) := by
  (refine Does.enter Tryz.func94 Tryz.ntmps94 rfl rfl ?_)
  refine VC.obtain (fun w => DiskR.open) ?_
  rintro ⟨⟨⟨lo, lc⟩, ⟨co, cc⟩, m⟩, hk⟩
  dsimp only [DiskO]
  refine VC.know (fun w hw => hw.ownNone (show Own 149 128 (.slice lo k.last.length lc) k.last.length _ ∈ _ by (focus repeat first | exact .head _ | apply List.Mem.tail)) : ∀ w, _ → (lo = none → k.last.length = 0)) ?_
  intro hln
  have h8 : ∀ x ∈ k.last, (bytes x).length = 128 := fun x h => by simp [hk.last x h]
  have hsz := hk.size
  (refine w ?_; repeat ((first | refine VO.step rfl rfl ?_ | refine VD.end rfl rfl rfl ?_ | refine VD.mid rfl rfl rfl ?_); refine OpV.box rfl rfl rfl ?_; intro _; refine w ?_))
  (refine VC.condFe rfl rfl (hf) ?_)
  (refine w ?_; repeat ((first | refine VO.step rfl rfl ?_ | refine VD.end rfl rfl rfl ?_ | refine VD.mid rfl rfl rfl ?_); refine OpV.box rfl rfl rfl ?_; intro _; refine w ?_))
  refine VO.re 14 (.int .i64 ((k.last.length * 128 : Nat) : Int)) rfl (by congr 1) ?_
  (first | refine VO.step rfl rfl ?_ | refine VD.end rfl rfl rfl ?_ | refine VD.mid rfl rfl rfl ?_)
  refine OpV.makeCap (m := k.last.length * 128) st_22 rfl rfl ?_ ?_ rfl ?_
  · omega
  · simp only [maxLen]; omega
  intro nb
  (refine w ?_; repeat ((first | refine VO.step rfl rfl ?_ | refine VD.end rfl rfl rfl ?_ | refine VD.mid rfl rfl rfl ?_); refine OpV.box rfl rfl rfl ?_; intro _; refine w ?_))
  refine VC.loop (α := Nat × Option Addr × Nat) (fun g => g.1 ≤ k.last.length)
    (fun g => Own 5 1 (.slice g.2.1 (g.1 * 128) g.2.2) (g.1 * 128) (bytes (k.last.take g.1).flatten) :: DiskO d k ((lo, lc), (co, cc), m) R)
    (fun g => [(0, .pointer (some ⟨d, 0, none⟩)), (3, .slice g.2.1 (g.1 * 128) g.2.2), (20, .int .i64 k.last.length), (21, .int .i64 g.1)]) (fun g => k.last.length - g.1) rfl (0, some ⟨nb, 0, none⟩, k.last.length * 128) (Nat.zero_le _) Ent.re ⟨rfl, rfl, rfl, rfl, trivial⟩ ?_
  rintro ⟨i, ao, cap⟩ hi
  have hi : i ≤ k.last.length := hi
  dsimp only [DiskO]
  (refine w ?_; repeat ((first | refine VO.step rfl rfl ?_ | refine VD.end rfl rfl rfl ?_ | refine VD.mid rfl rfl rfl ?_); refine OpV.box rfl rfl rfl ?_; intro _; refine w ?_))
  (refine VC.cond rfl rfl ?_ ?_ <;> intro hc)
  · have hlt : i < k.last.length := by have := of_decide_eq_true hc; omega
    obtain ⟨b, rfl⟩ : ∃ b, lo = some b := by cases lo with | none => have := hln rfl; omega | some b => exact ⟨b, rfl⟩
    have hla : k.last[i].length = 128 := hk.last _ (List.getElem_mem hlt)
    have hp := flat_part (g := bytes) k.last i hlt h8
    (refine w ?_; repeat ((first | refine VO.step rfl rfl ?_ | refine VD.end rfl rfl rfl ?_ | refine VD.mid rfl rfl rfl ?_); refine OpV.box rfl rfl rfl ?_; intro _; refine w ?_))
    (first | refine VO.pure rfl rfl (PureAt.sliceArr (sz := 1) Tryz.underlying149 (by decide) (fun w => by simp) rfl) rfl ?_ | refine VD.take rfl rfl rfl (PureAt.sliceArr (sz := 1) Tryz.underlying149 (by decide) (fun w => by simp) rfl) rfl ?_ | refine VQ.pure rfl rfl (PureAt.sliceArr (sz := 1) Tryz.underlying149 (by decide) (fun w => by simp) rfl) rfl ?_ | refine VD.end rfl rfl rfl (OpV.pure (PureAt.sliceArr (sz := 1) Tryz.underlying149 (by decide) (fun w => by simp) rfl) rfl ?_))
    refine VO.re 31 (.slice (some (b.add (i * 128))) 128 128) rfl (by rw [Addr_add_zero]) ?_
    (first | refine VO.step rfl rfl ?_ | refine VD.end rfl rfl rfl ?_ | refine VD.mid rfl rfl rfl ?_)
    refine OpV.append st_22 rfl rfl .head (fun w hw => ((Rds.part (Rds.own (W := W) (H := DiskO d k ((some b, lc), (co, cc), m) R) (lasts_one _) (.tail _ (.head _)) (flat_length _ h8) hln) hlt).sees (cap := 128) hw.tail).src st_22.und) (by simp only [maxLen]; omega) (by omega) rfl ?_
    intro ao' cap'
    rw [hp, show i * 128 + 128 = (i + 1) * 128 by omega]
    have e : bytes (k.last.take i).flatten ++ bytes k.last[i] = bytes (k.last.take (i + 1)).flatten := by
      rw [← bytes_append, List.take_succ_eq_append_getElem hlt, List.flatten_append]; simp
    rw [e]
    (refine w ?_; repeat ((first | refine VO.step rfl rfl ?_ | refine VD.end rfl rfl rfl ?_ | refine VD.mid rfl rfl rfl ?_); refine OpV.box rfl rfl rfl ?_; intro _; refine w ?_))
    exact VE.round (i + 1, ao', cap') hlt (by simp only; omega) ⟨rfl, rfl, rfl, rfl, trivial⟩ Ent.refl
  · have hge : i = k.last.length := by have := of_decide_eq_false hc; omega
    subst hge
    rw [List.take_of_length_le (Nat.le_refl k.last.length)]
    (refine w ?_; repeat ((first | refine VO.step rfl rfl ?_ | refine VD.end rfl rfl rfl ?_ | refine VD.mid rfl rfl rfl ?_); refine OpV.box rfl rfl rfl ?_; intro _; refine w ?_))
    refine VE.done (ao, cap) rfl trivial rfl ?_
    exact fun w hw => (DiskR.shut hk w (hw.reord (L := DiskO d k ((lo, lc), (co, cc), m) (Own 5 1 (.slice ao (k.last.length * 128) cap) (k.last.length * 128) (bytes k.last.flatten) :: R)) (by (repeat first | exact .refl | (apply Reord.cons; focus repeat first | exact .head | apply Del.tail) | exact .nil | apply Reord.drop)))).swap

def ints (l : List Nat) : List Value := l.map fun (n : Nat) => Value.int .i64 (n : Int)
theorem ints_one (l : List Nat) : ∀ u ∈ ints l, u.oneCell' = true := by
  intro u hu; obtain ⟨c, _, rfl⟩ := List.mem_map.1 hu; rfl
@[simp] theorem ints_length (l : List Nat) : (ints l).length = l.length := by simp [ints]

set_option maxHeartbeats 2000000 in
theorem pending_ok {W : World} {R : List SProp} (d : Nat) (k : DiskD) (hcl : k.cache.length ≤ 1000000000) :
    Does W Tryz.prog 56 [.pointer (some ⟨d, 0, none⟩)] (DiskR d k :: R) (β := Option Addr × Nat) (fun _ => True) (fun x => .slice x.1 k.cache.length x.2)
      (fun x => Own 3 1 (.slice x.1 k.cache.length x.2) k.cache.length (ints (k.cache.map (·.1))) :: DiskR d k :: R) := by
  (refine Does.enter Tryz.func56 Tryz.ntmps56 rfl rfl ?_)
  refine VC.obtain (fun w => DiskR.open) ?_
  rintro ⟨⟨⟨lo, lc⟩, ⟨co, cc⟩, m⟩, hk⟩
  dsimp only [DiskO]
  refine VC.know (fun w hw => hw.ownNone (show Own 151 129 (.slice co k.cache.length cc) k.cache.length _ ∈ _ by (focus repeat first | exact .head _ | apply List.Mem.tail)) : ∀ w, _ → (co = none → k.cache.length = 0)) ?_
  intro hcn
  (refine w ?_; repeat ((first | refine VO.step rfl rfl ?_ | refine VD.end rfl rfl rfl ?_ | refine VD.mid rfl rfl rfl ?_); refine OpV.box rfl rfl rfl ?_; intro _; refine w ?_))
  refine VC.loop (α := Nat × Option Addr × Nat) (fun g => g.1 ≤ k.cache.length)
    (fun g => Own 3 1 (.slice g.2.1 g.1 g.2.2) g.1 (ints ((k.cache.take g.1).map (·.1))) :: DiskO d k ((lo, lc), (co, cc), m) R)
    (fun g => [(3, .slice g.2.1 g.1 g.2.2), (9, .slice co k.cache.length cc), (10, .int .i64 k.cache.length), (11, .int .i64 g.1)]) (fun g => k.cache.length - g.1) rfl (0, none, 0) (Nat.zero_le _) (fun w hw => hw.ownNil _ _) ⟨rfl, rfl, rfl, rfl, trivial⟩ ?_
  rintro ⟨i, ao, cap⟩ hi
  have hi : i ≤ k.cache.length := hi
  dsimp only [DiskO]
  (refine w ?_; repeat ((first | refine VO.step rfl rfl ?_ | refine VD.end rfl rfl rfl ?_ | refine VD.mid rfl rfl rfl ?_); refine OpV.box rfl rfl rfl ?_; intro _; refine w ?_))
  (refine VC.cond rfl rfl ?_ ?_ <;> intro hc)
  · have hlt : i < k.cache.length := by have := of_decide_eq_true hc; omega
    obtain ⟨a, rfl⟩ : ∃ a, co = some a := by cases co with | none => have := hcn rfl; omega | some a => exact ⟨a, rfl⟩
    obtain ⟨hw1, hw2⟩ := hk.cache k.cache[i] (List.getElem_mem hlt)
    have hpart := flat_part (g := wCells) (w := 129) k.cache i hlt (fun c h => wCells_length (hk.cache c h).2)
    have e : ints ((k.cache.take i).map (·.1)) ++ [.int .i64 (k.cache[i].1 : Int)] = ints ((k.cache.take (i + 1)).map (·.1)) := by
      rw [List.take_succ_eq_append_getElem hlt, List.map_append]; simp only [ints, List.map_append]; rfl
    (refine w ?_; repeat ((first | refine VO.step rfl rfl ?_ | refine VD.end rfl rfl rfl ?_ | refine VD.mid rfl rfl rfl ?_); refine OpV.box rfl rfl rfl ?_; intro _; refine w ?_))
    (first | refine VO.pure rfl rfl (.ldRA tab_ok rfl rfl (Rds.own (caches_one _) (by (focus repeat first | exact .head _ | apply List.Mem.tail)) (flat_length _ (fun c h => wCells_length (hk.cache c h).2)) hcn) hpart (wCells_length hw2)) rfl ?_ | refine VD.take rfl rfl rfl (.ldRA tab_ok rfl rfl (Rds.own (caches_one _) (by (focus repeat first | exact .head _ | apply List.Mem.tail)) (flat_length _ (fun c h => wCells_length (hk.cache c h).2)) hcn) hpart (wCells_length hw2)) rfl ?_ | refine VQ.pure rfl rfl (.ldRA tab_ok rfl rfl (Rds.own (caches_one _) (by (focus repeat first | exact .head _ | apply List.Mem.tail)) (flat_length _ (fun c h => wCells_length (hk.cache c h).2)) hcn) hpart (wCells_length hw2)) rfl ?_ | refine VD.end rfl rfl rfl (OpV.pure (.ldRA tab_ok rfl rfl (Rds.own (caches_one _) (by (focus repeat first | exact .head _ | apply List.Mem.tail)) (flat_length _ (fun c h => wCells_length (hk.cache c h).2)) hcn) hpart (wCells_length hw2)) rfl ?_))
    ((first | refine VO.step rfl rfl ?_ | refine VD.end rfl rfl rfl ?_ | refine VD.mid rfl rfl rfl ?_); refine OpV.allocS sb_write rfl ?_; intro na)
    (first | refine VO.step rfl rfl ?_ | refine VD.end rfl rfl rfl ?_ | refine VD.mid rfl rfl rfl ?_)
    refine OpV.stA (vs := wCells k.cache[i]) tab_ok rfl rfl rfl (wCells_length hw2) (wCells_one _) (by (repeat first | exact .head | apply Hole.tail)) (by rw [List.length_cons, List.length_replicate]; decide) ?_
    rw [store_all _ _ 129 (by rw [List.length_cons, List.length_replicate])]
    (refine w ?_; repeat ((first | refine VO.step rfl rfl ?_ | refine VD.end rfl rfl rfl ?_ | refine VD.mid rfl rfl rfl ?_); refine OpV.box rfl rfl rfl ?_; intro _; refine w ?_))
    ((first | refine VO.step rfl rfl ?_ | refine VD.end rfl rfl rfl ?_ | refine VD.mid rfl rfl rfl ?_); refine OpV.buildSlice1 st_24 rfl rfl (by first | (simp; done) | simp [Value.oneCell']) (by decide) rfl ?_; intro nb)
    ((first | refine VO.step rfl rfl ?_ | refine VD.end rfl rfl rfl ?_ | refine VD.mid rfl rfl rfl ?_); refine OpV.appendRow st_24 rfl rfl (by (repeat first | exact .head | apply Hole.tail)) (by (focus repeat first | exact .head _ | apply List.Mem.tail)) rfl (by first | (simp; done) | simp [Value.oneCell']) ?_ ?_ rfl ?_)
    · simp only [maxLen]; omega
    · omega
    intro ao' cap'
    rw [e]
    (refine w ?_; repeat ((first | refine VO.step rfl rfl ?_ | refine VD.end rfl rfl rfl ?_ | refine VD.mid rfl rfl rfl ?_); refine OpV.box rfl rfl rfl ?_; intro _; refine w ?_))
    exact VE.round (i + 1, ao', cap') hlt (by simp only; omega) ⟨rfl, rfl, rfl, rfl, trivial⟩ Ent.re
  · have hge : i = k.cache.length := by have := of_decide_eq_false hc; omega
    subst hge
    rw [List.take_of_length_le (Nat.le_refl k.cache.length)]
    (refine w ?_; repeat ((first | refine VO.step rfl rfl ?_ | refine VD.end rfl rfl rfl ?_ | refine VD.mid rfl rfl rfl ?_); refine OpV.box rfl rfl rfl ?_; intro _; refine w ?_))
    refine VE.done (ao, cap) rfl trivial rfl ?_
    exact fun w hw => (DiskR.shut hk w (hw.reord (L := DiskO d k ((lo, lc), (co, cc), m) (Own 3 1 (.slice ao k.cache.length cap) k.cache.length (ints (k.cache.map (·.1))) :: R)) (by (repeat first | exact .refl | (apply Reord.cons; focus repeat first | exact .head | apply Del.tail) | exact .nil | apply Reord.drop)))).swap
end Go.Proofs.YtpmmkmcbimnigaaGreat

/-! Text Lo. -/
/- Package disk: Load. -/
set_option maxRecDepth 8000
set_option linter.unusedVariables false
set_option linter.unusedSimpArgs false
set_option linter.unusedSectionVars false
namespace Go.Proofs.YtpmmkmcbimnigaaGreat
open Go.RowKit Go.Sl
attribute [local irreducible] Own

/-- copy into a part of what is ours, cell by cell. -/
theorem OpV.copyPart {W : World} {P : Program} {n : Nat} {Q : Exit → Act → World → Prop} {H : List SProp} {f : Fr} {d : Nat} {ty_ : TypeId} {pos : String} {after : Array Edge} {guard : Option (Nat × Bool)}
    {s x : Operand} {t tx e' e : TypeId} {z : Value} {by_ sz m k cap m' cap' j : Nat} {a : Addr} {vx : Value} {xs news : List Value} {C : SProp → List SProp} {N : List SProp → Fr → Prop} (st : SliceT P t e' z 1 by_) (hs : evalX f s = some (.slice (some (a.add j)) m' cap')) (hx : evalX f x = some vx)
    (u : Hole H (Own e sz (.slice (some a) m cap) m xs) C) (hj : j + min k m' ≤ xs.length) (hsrc : ∀ w, Holds W H w → Sees w 1 vx k news) (hd : Nat.blt d n = true)
    (h : N (C (Own e sz (.slice (some a) m cap) m (xs.take j ++ news.take (min k m') ++ xs.drop (j + min k m')))) ((d, .int .i64 ((min k m' : Nat) : Int)) :: f)) :
    OpV W P n { dst := some d, op := .call { callee := .builtin .copy, args := #[s, x], argTypes := #[t, tx] }, type := ty_, pos, after, guard } Q H f N := by
  refine OpV.run (α := Unit) (v := fun _ => .int .i64 ((min k m' : Nat) : Int)) (G := fun _ => C (Own e sz (.slice (some a) m cap) m (xs.take j ++ news.take (min k m') ++ xs.drop (j + min k m')))) hd (fun tm w hk hw => ?_) (fun _ => h)
  obtain ⟨R, p, q⟩ := u.perm
  have hsee := hsrc w hw
  obtain ⟨hl, hv⟩ := (hw.perm p).ownOpen
  rcases hv with ⟨he, rfl, hR⟩ | ⟨b, cap0, spare, he, hn, hm, hc, hR⟩
  · cases he
  · cases he
    rw [Addr.add_lit, Nat.zero_add] at hs
    have hfit : j + min k m' * 1 ≤ (xs ++ spare).length := by rw [List.length_append]; omega
    obtain ⟨w', hr, h2⟩ := Holds.copyRow (ty := ty_) (tx := tx) (cap := cap') (m := m') st hR .head hfit hsee
    refine ⟨(), w', ?_, ?_⟩
    · unfold execOp
      simp only [resolve, invoke, builtin, Sem.run_bind, Sem.run_pure, Result.andThen_ok, List.map_toArray, List.map_cons, List.map_nil, hk.eval hs, hk.eval hx, hr]
    · refine Holds.perm (q _) ?_
      rw [Nat.mul_one] at h2
      have hnl : (news.take (min k m')).length = min k m' := by
        rw [List.length_take, hsee.len]; omega
      have e9 : (xs ++ spare).take j ++ news.take (min k m') ++ (xs ++ spare).drop (j + min k m') = (xs.take j ++ news.take (min k m') ++ xs.drop (j + min k m')) ++ spare := by
        rw [List.take_append_of_le_length (by omega), List.drop_append_of_le_length (by omega)]; simp
      rw [e9] at h2
      refine Holds.ownShut ?_ hn hm ?_ h2
      · simp only [List.length_append, List.length_take, List.length_drop, hl, hnl] at *; omega
      · rw [← hc]; simp only [List.length_append, List.length_take, List.length_drop, hl, hnl] at *; omega

/-- Bytes, in sectors. -/
def chunks (l : List UInt8) (n : Nat) : List (List UInt8) := (List.range n).map fun i => (l.drop (i * 128)).take 128
theorem chunks_length (l : List UInt8) (n : Nat) : (chunks l n).length = n := by simp [chunks]
theorem chunks_128 {l : List UInt8} {n : Nat} (h : l.length = n * 128) : ∀ b ∈ chunks l n, b.length = 128 := by
  intro b hb
  obtain ⟨i, hi, rfl⟩ := List.mem_map.1 hb
  have := List.mem_range.1 hi
  rw [List.length_take, List.length_drop]; omega
theorem chunks_flatten : ∀ (n : Nat) (l : List UInt8), l.length = n * 128 → (chunks l n).flatten = l
  | 0, l, h => by simp [chunks, List.eq_nil_of_length_eq_zero (by simpa using h)]
  | n + 1, l, h => by
    have ih := chunks_flatten n (l.drop 128) (by rw [List.length_drop]; omega)
    have e : chunks l (n + 1) = l.take 128 :: chunks (l.drop 128) n := by
      unfold chunks
      rw [List.range_succ_eq_map, List.map_cons, List.map_map]
      congr 1
      apply List.map_congr_left
      intro i _
      simp only [Function.comp, List.drop_drop]
      rw [show (i + 1) * 128 = 128 + i * 128 by omega]
    rw [e, List.flatten_cons, ih, List.take_append_drop]

/-- The first so many sectors laid in, noughts behind. -/
def laid (l : List UInt8) (n i : Nat) : List (List UInt8) := chunks l i ++ List.replicate (n - i) zeroSec
theorem laid_set (l : List UInt8) (n i : Nat) (h : i < n) : (laid l n i).set i ((l.drop (i * 128)).take 128) = laid l n (i + 1) := by
  unfold laid
  rw [List.set_append_right _ _ (by rw [chunks_length]; exact Nat.le_refl _), chunks_length, Nat.sub_self, show n - i = (n - (i + 1)) + 1 by omega, List.replicate_succ, List.set_cons_zero]
  have e : chunks l (i + 1) = chunks l i ++ [(l.drop (i * 128)).take 128] := by simp [chunks, List.range_succ]
  rw [e, List.append_assoc]; rfl
theorem laid_128 {l : List UInt8} {n i : Nat} (hi : i ≤ n) (h : l.length = n * 128) : ∀ b ∈ laid l n i, (bytes b).length = 128 := by
  intro b hb
  rcases List.mem_append.1 hb with q | q
  · obtain ⟨j, hj, rfl⟩ := List.mem_map.1 q
    have := List.mem_range.1 hj
    rw [bytes_length, List.length_take, List.length_drop]; omega
  · rw [List.eq_of_mem_replicate q]; simp [zeroSec]
theorem laid_length (l : List UInt8) (n i : Nat) (h : i ≤ n) : (laid l n i).length = n := by unfold laid; rw [List.length_append, chunks_length, List.length_replicate]; omega

theorem load_odd {W : World} {R : List SProp} {ao : Option Addr} {cap n : Nat} (h : n % 128 ≠ 0) :
    Does1 W Tryz.prog 104 [.slice ao n cap] R (.tuple #[.pointer none, .int .u16 40]) R := by
  (refine Does.enter Tryz.func104 Tryz.ntmps104 rfl rfl ?_)
  (refine w ?_; repeat ((first | refine VO.step rfl rfl ?_ | refine VD.end rfl rfl rfl ?_ | refine VD.mid rfl rfl rfl ?_); refine OpV.box rfl rfl rfl ?_; intro _; refine w ?_))
  (first | refine VO.pure rfl rfl (PureAt.rem (b := 128) rfl rfl (by decide)) rfl ?_ | refine VD.take rfl rfl rfl (PureAt.rem (b := 128) rfl rfl (by decide)) rfl ?_ | refine VQ.pure rfl rfl (PureAt.rem (b := 128) rfl rfl (by decide)) rfl ?_ | refine VD.end rfl rfl rfl (OpV.pure (PureAt.rem (b := 128) rfl rfl (by decide)) rfl ?_))
  (refine w ?_; repeat ((first | refine VO.step rfl rfl ?_ | refine VD.end rfl rfl rfl ?_ | refine VD.mid rfl rfl rfl ?_); refine OpV.box rfl rfl rfl ?_; intro _; refine w ?_))
  (refine VC.condTe rfl rfl (by simp; omega) ?_)
  (refine w ?_; repeat ((first | refine VO.step rfl rfl ?_ | refine VD.end rfl rfl rfl ?_ | refine VD.mid rfl rfl rfl ?_); refine OpV.box rfl rfl rfl ?_; intro _; refine w ?_))
  (first | exact VE.done1 rfl rfl Ent.refl | exact VE.done1N rfl rfl Ent.refl)
theorem load_big {W : World} {R : List SProp} {ao : Option Addr} {cap n : Nat} (h : n % 128 = 0) (hb : n / 128 < 1 ∨ 8192 < n / 128) (hn : n ≤ 1000000000) :
    Does1 W Tryz.prog 104 [.slice ao n cap] R (.tuple #[.pointer none, .int .u16 40]) R := by
  (refine Does.enter Tryz.func104 Tryz.ntmps104 rfl rfl ?_)
  (refine w ?_; repeat ((first | refine VO.step rfl rfl ?_ | refine VD.end rfl rfl rfl ?_ | refine VD.mid rfl rfl rfl ?_); refine OpV.box rfl rfl rfl ?_; intro _; refine w ?_))
  (first | refine VO.pure rfl rfl (PureAt.rem (b := 128) rfl rfl (by decide)) rfl ?_ | refine VD.take rfl rfl rfl (PureAt.rem (b := 128) rfl rfl (by decide)) rfl ?_ | refine VQ.pure rfl rfl (PureAt.rem (b := 128) rfl rfl (by decide)) rfl ?_ | refine VD.end rfl rfl rfl (OpV.pure (PureAt.rem (b := 128) rfl rfl (by decide)) rfl ?_))
  (refine w ?_; repeat ((first | refine VO.step rfl rfl ?_ | refine VD.end rfl rfl rfl ?_ | refine VD.mid rfl rfl rfl ?_); refine OpV.box rfl rfl rfl ?_; intro _; refine w ?_))
  (refine VC.condFe rfl rfl (by simp; omega) ?_)
  (refine w ?_; repeat ((first | refine VO.step rfl rfl ?_ | refine VD.end rfl rfl rfl ?_ | refine VD.mid rfl rfl rfl ?_); refine OpV.box rfl rfl rfl ?_; intro _; refine w ?_))
  (first | refine VO.pure rfl rfl (PureAt.quo (b := 128) rfl rfl (by decide) (IntWalk.i64_in _ ⟨by omega, by omega⟩)) rfl ?_ | refine VD.take rfl rfl rfl (PureAt.quo (b := 128) rfl rfl (by decide) (IntWalk.i64_in _ ⟨by omega, by omega⟩)) rfl ?_ | refine VQ.pure rfl rfl (PureAt.quo (b := 128) rfl rfl (by decide) (IntWalk.i64_in _ ⟨by omega, by omega⟩)) rfl ?_ | refine VD.end rfl rfl rfl (OpV.pure (PureAt.quo (b := 128) rfl rfl (by decide) (IntWalk.i64_in _ ⟨by omega, by omega⟩)) rfl ?_))
  (((first | refine VO.step rfl rfl ?_ | refine VD.end rfl rfl rfl ?_ | refine VD.mid rfl rfl rfl ?_); refine OpV.call rfl rfl (fun _ _ => by simp) (disknew_bad ((n / 128 : Nat) : Int) (by omega)) Ent.re rfl ?_); intro _ _)
  (refine w ?_; repeat ((first | refine VO.step rfl rfl ?_ | refine VD.end rfl rfl rfl ?_ | refine VD.mid rfl rfl rfl ?_); refine OpV.box rfl rfl rfl ?_; intro _; refine w ?_))
  (refine VE.done1 rfl ?_ ?_)
  · rfl
  · exact Ent.refl

set_option maxHeartbeats 2000000 in
theorem load_ok {W : World} {R : List SProp} {ao : Option Addr} {cap m : Nat} {l : List UInt8} (hr : Rds W R 1 ao (m * 128) (bytes l)) (h1 : 1 ≤ m) (h2 : m ≤ 8192) (hcap : m * 128 ≤ cap) :
    Does W Tryz.prog 104 [.slice ao (m * 128) cap] R (β := Nat) (fun _ => True) (fun d => .tuple #[.pointer (some ⟨d, 0, none⟩), .int .u16 0]) (fun d => DiskR d ⟨chunks l m, [], false⟩ :: R) := by
  have hl : l.length = m * 128 := by have := hr.len; simpa using this
  (refine Does.enter Tryz.func104 Tryz.ntmps104 rfl rfl ?_)
  (refine w ?_; repeat ((first | refine VO.step rfl rfl ?_ | refine VD.end rfl rfl rfl ?_ | refine VD.mid rfl rfl rfl ?_); refine OpV.box rfl rfl rfl ?_; intro _; refine w ?_))
  (first | refine VO.pure rfl rfl (PureAt.rem (b := 128) rfl rfl (by decide)) rfl ?_ | refine VD.take rfl rfl rfl (PureAt.rem (b := 128) rfl rfl (by decide)) rfl ?_ | refine VQ.pure rfl rfl (PureAt.rem (b := 128) rfl rfl (by decide)) rfl ?_ | refine VD.end rfl rfl rfl (OpV.pure (PureAt.rem (b := 128) rfl rfl (by decide)) rfl ?_))
  (refine w ?_; repeat ((first | refine VO.step rfl rfl ?_ | refine VD.end rfl rfl rfl ?_ | refine VD.mid rfl rfl rfl ?_); refine OpV.box rfl rfl rfl ?_; intro _; refine w ?_))
  (refine VC.condFe rfl rfl (by simp) ?_)
  (refine w ?_; repeat ((first | refine VO.step rfl rfl ?_ | refine VD.end rfl rfl rfl ?_ | refine VD.mid rfl rfl rfl ?_); refine OpV.box rfl rfl rfl ?_; intro _; refine w ?_))
  (first | refine VO.pure rfl rfl (PureAt.quo (b := 128) rfl rfl (by decide) (IntWalk.i64_in _ ⟨by omega, by omega⟩)) rfl ?_ | refine VD.take rfl rfl rfl (PureAt.quo (b := 128) rfl rfl (by decide) (IntWalk.i64_in _ ⟨by omega, by omega⟩)) rfl ?_ | refine VQ.pure rfl rfl (PureAt.quo (b := 128) rfl rfl (by decide) (IntWalk.i64_in _ ⟨by omega, by omega⟩)) rfl ?_ | refine VD.end rfl rfl rfl (OpV.pure (PureAt.quo (b := 128) rfl rfl (by decide) (IntWalk.i64_in _ ⟨by omega, by omega⟩)) rfl ?_))
  refine VO.re 14 (.int .i64 (m : Int)) rfl (by rw [Nat.mul_div_cancel _ (by decide)]) ?_
  ((first | refine VO.step rfl rfl ?_ | refine VD.end rfl rfl rfl ?_ | refine VD.mid rfl rfl rfl ?_); refine OpV.call rfl rfl (fun _ _ => by simp) (disknew_ok m h1 h2) Ent.re rfl ?_)
  intro d _
  (refine w ?_; repeat ((first | refine VO.step rfl rfl ?_ | refine VD.end rfl rfl rfl ?_ | refine VD.mid rfl rfl rfl ?_); refine OpV.box rfl rfl rfl ?_; intro _; refine w ?_))
  refine VO.obtain (fun w => DiskR.open) ?_
  rintro ⟨⟨⟨lo, lc⟩, ⟨co, cc⟩, mb⟩, hk⟩
  dsimp only [DiskO]
  simp only [List.length_replicate]
  refine VO.know (p := lo = none → m = 0) (fun w hw => Holds.ownNone hw (.tail _ (.head _))) ?_
  intro hln
  obtain ⟨b, rfl⟩ : ∃ b, lo = some b := by cases lo with | none => have := hln rfl; omega | some b => exact ⟨b, rfl⟩
  (refine w ?_; repeat ((first | refine VO.step rfl rfl ?_ | refine VD.end rfl rfl rfl ?_ | refine VD.mid rfl rfl rfl ?_); refine OpV.box rfl rfl rfl ?_; intro _; refine w ?_))
  refine VC.loop (α := Nat) (fun i => i ≤ m) (fun i => Row d 137 [.slice (some b) m lc, .slice co 0 cc, .map (some mb), .bool false] :: Own 149 128 (.slice (some b) m lc) m ((laid l m i).flatMap bytes) ::
      Own 151 129 (.slice co 0 cc) 0 [] :: MapR mb (seenOf []) :: R)
    (fun i => [(0, .slice ao (m * 128) cap), (4, .pointer (some ⟨d, 0, none⟩)), (25, .int .i64 m), (26, .int .i64 i)]) (fun i => m - i) rfl 0 (Nat.zero_le _) (by simp only [laid, chunks, List.range_zero, List.map_nil, List.nil_append, Nat.sub_zero]; exact Ent.re) ⟨rfl, rfl, rfl, rfl, trivial⟩ ?_
  intro i hi
  (refine w ?_; repeat ((first | refine VO.step rfl rfl ?_ | refine VD.end rfl rfl rfl ?_ | refine VD.mid rfl rfl rfl ?_); refine OpV.box rfl rfl rfl ?_; intro _; refine w ?_))
  (refine VC.cond rfl rfl ?_ ?_ <;> intro hc)
  · have hlt : i < m := by have := of_decide_eq_true hc; omega
    have hll := laid_length l m i hi
    have hl8 := laid_128 hi hl
    (refine w ?_; repeat ((first | refine VO.step rfl rfl ?_ | refine VD.end rfl rfl rfl ?_ | refine VD.mid rfl rfl rfl ?_); refine OpV.box rfl rfl rfl ?_; intro _; refine w ?_))
    (refine VC.drawn [] 11 [0, 1, 2, 3, 4, 5, 6, 7, 8, 9, 10, 11] _ rfl (by kernel_rfl) (by kernel_rfl) Ent.re ?_)
    (refine w ?_; repeat ((first | refine VO.step rfl rfl ?_ | refine VD.end rfl rfl rfl ?_ | refine VD.mid rfl rfl rfl ?_); refine OpV.box rfl rfl rfl ?_; intro _; refine w ?_))
    (first | refine VO.pure rfl rfl (PureAt.sliceArr (sz := 1) Tryz.underlying149 (by decide) (fun w => by simp) rfl) rfl ?_ | refine VD.take rfl rfl rfl (PureAt.sliceArr (sz := 1) Tryz.underlying149 (by decide) (fun w => by simp) rfl) rfl ?_ | refine VQ.pure rfl rfl (PureAt.sliceArr (sz := 1) Tryz.underlying149 (by decide) (fun w => by simp) rfl) rfl ?_ | refine VD.end rfl rfl rfl (OpV.pure (PureAt.sliceArr (sz := 1) Tryz.underlying149 (by decide) (fun w => by simp) rfl) rfl ?_))
    (refine w ?_; repeat ((first | refine VO.step rfl rfl ?_ | refine VD.end rfl rfl rfl ?_ | refine VD.mid rfl rfl rfl ?_); refine OpV.box rfl rfl rfl ?_; intro _; refine w ?_))
    refine VD.re 35 (.slice (some (b.add (i * 128))) 128 128) rfl (by rw [Addr_add_zero]) ?_
    refine VD.re 38 (.int .i64 ((i * 128 : Nat) : Int)) rfl rfl ?_
    (refine w ?_; repeat ((first | refine VO.step rfl rfl ?_ | refine VD.end rfl rfl rfl ?_ | refine VD.mid rfl rfl rfl ?_); refine OpV.box rfl rfl rfl ?_; intro _; refine w ?_))
    have hle : i * 128 ≤ m * 128 := Nat.mul_le_mul_right _ hi
    have hle2 : (i + 1) * 128 ≤ m * 128 := Nat.mul_le_mul_right _ hlt
    have hsub := (Rds.sub hr hle (Nat.le_refl (m * 128)) hcap).ent (H := Row d 137 [.slice (some b) m lc, .slice co 0 cc, .map (some mb), .bool false] :: Own 149 128 (.slice (some b) m lc) m ((laid l m i).flatMap bytes) ::
      Own 151 129 (.slice co 0 cc) 0 [] :: MapR mb (seenOf []) :: R) (Ent.drop (Ent.drop (Ent.drop (Ent.drop Ent.refl))))
    have hmin : min (m * 128 - i * 128) 128 = 128 := by omega
    have hnews : (((bytes l).drop (i * 128 * 1)).take ((m * 128 - i * 128) * 1)).take 128 = bytes ((l.drop (i * 128)).take 128) := by
      rw [Nat.mul_one, Nat.mul_one, List.take_take, Nat.min_eq_left (by omega), bytes, ← List.map_drop, ← List.map_take]; rfl
    (first | refine VO.step rfl rfl ?_ | refine VD.end rfl rfl rfl ?_ | refine VD.mid rfl rfl rfl ?_)
    refine OpV.copyPart st_22 rfl rfl (by (repeat first | exact .head | apply Hole.tail)) (by rw [hmin, flat_length (w := 128) _ hl8, hll]; omega) (fun w hw => hsub.sees hw) rfl ?_
    rw [hmin, hnews, flat_set (g := bytes) (w := 128) ((l.drop (i * 128)).take 128) (laid l m i) i (by omega) hl8, laid_set l m i hlt]
    (refine w ?_; repeat ((first | refine VO.step rfl rfl ?_ | refine VD.end rfl rfl rfl ?_ | refine VD.mid rfl rfl rfl ?_); refine OpV.box rfl rfl rfl ?_; intro _; refine w ?_))
    exact VE.round (i + 1) hlt (by omega) ⟨rfl, rfl, rfl, rfl, trivial⟩ Ent.re
  · have hge : i = m := by have := of_decide_eq_false hc; omega
    subst hge
    (refine w ?_; repeat ((first | refine VO.step rfl rfl ?_ | refine VD.end rfl rfl rfl ?_ | refine VD.mid rfl rfl rfl ?_); refine OpV.box rfl rfl rfl ?_; intro _; refine w ?_))
    refine VE.done d rfl trivial rfl ?_
    have hm0 : laid l i i = chunks l i := by simp [laid]
    rw [hm0]
    have := DiskR.shut (W := W) (R := R) (d := d) (k := ⟨chunks l i, [], false⟩) (x := ((some b, lc), (co, cc), mb)) ⟨chunks_128 hl, fun c hc => absurd hc (by simp), by simp only [chunks_length]; exact h2⟩
    simpa only [DiskO, chunks_length, List.length_nil, List.flatMap_nil] using this
end Go.Proofs.YtpmmkmcbimnigaaGreat

/-! Text Ca. -/
/- Checksums: the plain law of shifts by a polynomial: a run of at most 32 bits that has changed is told. No program is named. -/
set_option maxRecDepth 8000
set_option linter.unusedVariables false
set_option linter.unusedSimpArgs false
set_option linter.unusedSectionVars false
namespace Go.Sl

def crcPoly : BitVec 32 := 0x82f63b78#32
def stp (n : BitVec 32) : BitVec 32 := (n >>> 1) ^^^ (if n.getLsbD 0 then crcPoly else 0#32)
def stpN : Nat → BitVec 32 → BitVec 32
  | 0, n => n
  | k + 1, n => stpN k (stp n)
theorem stpN_add (a b : Nat) (n : BitVec 32) : stpN (a + b) n = stpN b (stpN a n) := by
  induction a generalizing n with
  | zero => rw [Nat.zero_add]; rfl
  | succ a ih => rw [Nat.succ_add]; exact ih (stp n)
theorem stp_xor (a b : BitVec 32) : stp (a ^^^ b) = stp a ^^^ stp b := by
  unfold stp
  rw [BitVec.getLsbD_xor]
  apply BitVec.eq_of_getLsbD_eq
  intro i hi
  simp only [BitVec.getLsbD_xor, BitVec.getLsbD_ushiftRight]
  cases a.getLsbD 0 <;> cases b.getLsbD 0 <;> simp <;> cases a.getLsbD (1 + i) <;> cases b.getLsbD (1 + i) <;> cases crcPoly.getLsbD i <;> rfl
theorem stp_even (n : BitVec 32) (h : n.getLsbD 0 = false) : stp n = n >>> 1 := by
  unfold stp; rw [h]; simp
theorem stpN_xor : ∀ (k : Nat) (a b : BitVec 32), stpN k (a ^^^ b) = stpN k a ^^^ stpN k b
  | 0, _, _ => rfl
  | k + 1, a, b => by rw [stpN, stp_xor, stpN_xor k]; rfl
/-- A number whose lowest bits are noughts is only shifted. -/
theorem stpN_shift : ∀ (k : Nat) (n : BitVec 32), (∀ i, i < k → n.getLsbD i = false) → stpN k n = n >>> k
  | 0, n, _ => by simp [stpN]
  | k + 1, n, h => by
    rw [stpN, stp_even n (h 0 (by omega)), stpN_shift k _ (fun i hi => by rw [BitVec.getLsbD_ushiftRight, Nat.add_comm]; exact h (i + 1) (by omega))]
    rw [← BitVec.shiftRight_add, Nat.add_comm]
/-- By halves of a byte, from a table. -/
theorem stp_nibble (n : BitVec 32) : stpN 4 n = (n >>> 4) ^^^ stpN 4 (n &&& 15#32) := by
  have e : n = (n &&& 0xfffffff0#32) ^^^ (n &&& 15#32) := by
    apply BitVec.eq_of_getLsbD_eq
    intro i hi
    rw [BitVec.getLsbD_xor, BitVec.getLsbD_and, BitVec.getLsbD_and]
    have : (0xfffffff0#32).getLsbD i = !(15#32).getLsbD i := by
      have hc : ∀ j : Fin 32, (0xfffffff0#32).getLsbD j.1 = !(15#32).getLsbD j.1 := by decide
      exact hc ⟨i, hi⟩
    rw [this]
    cases n.getLsbD i <;> cases (15#32).getLsbD i <;> rfl
  have hs : stpN 4 (n &&& 0xfffffff0#32) = n >>> 4 := by
    rw [stpN_shift 4 _ (fun i hi => by
      rw [BitVec.getLsbD_and]
      have hc : ∀ j : Fin 4, (0xfffffff0#32).getLsbD j.1 = false := by decide
      rw [hc ⟨i, hi⟩, Bool.and_false])]
    apply BitVec.eq_of_getLsbD_eq
    intro i hi
    rw [BitVec.getLsbD_ushiftRight, BitVec.getLsbD_ushiftRight, BitVec.getLsbD_and]
    by_cases h : 4 + i < 32
    · have hc : ∀ j : Fin 28, (0xfffffff0#32).getLsbD (4 + j.1) = true := by decide
      rw [hc ⟨i, by omega⟩, Bool.and_true]
    · rw [BitVec.getLsbD_of_ge n _ (by omega)]; rfl
  conv => lhs; rw [e]
  rw [stpN_xor, hs]

/-- A byte more. -/
def crcB (n : BitVec 32) (b : UInt8) : BitVec 32 := stpN 8 (n ^^^ BitVec.ofNat 32 b.toNat)
def crcF (n : BitVec 32) (l : List UInt8) : BitVec 32 := l.foldl crcB n
def crcM (n : BitVec 32) (l : List UInt8) : BitVec 32 := ~~~(crcF (~~~n) l)
def crcS (l : List UInt8) : BitVec 32 := crcM 0#32 l
theorem crcB_nibbles (n : BitVec 32) (b : UInt8) : crcB n b =
    (((((n ^^^ BitVec.ofNat 32 b.toNat) >>> 4) ^^^ stpN 4 ((n ^^^ BitVec.ofNat 32 b.toNat) &&& 15#32)) >>> 4) ^^^ stpN 4 ((((n ^^^ BitVec.ofNat 32 b.toNat) >>> 4) ^^^ stpN 4 ((n ^^^ BitVec.ofNat 32 b.toNat) &&& 15#32)) &&& 15#32)) := by
  unfold crcB
  rw [show (8 : Nat) = 4 + 4 from rfl, stpN_add, stp_nibble (stpN 4 _), stp_nibble (n ^^^ _)]

/-! ### Bit by bit -/
/-! ### Bytes as bits -/
end Go.Sl

/-! Text Ea. -/
/- The journal's sectors: what they are, what is read of them: the plain law. -/
set_option maxRecDepth 8000
set_option linter.unusedVariables false
set_option linter.unusedSimpArgs false
set_option linter.unusedSectionVars false
namespace Go.Proofs.YtpmmkmcbimnigaaGreat
open Go.RowKit Go.Sl

def padTo (n : Nat) (l : List UInt8) : List UInt8 := l ++ List.replicate (n - l.length) 0
def magicL : List UInt8 := [83, 80, 74, 76]
def begunL (kind epoch seq : Nat) : List UInt8 := magicL ++ lowBytes kind 4 ++ lowBytes epoch 8 ++ lowBytes seq 8
def sealS (b : List UInt8) : List UInt8 := b ++ lowBytes (crcS b).toNat 4
def sectB (kind epoch seq : Nat) (rest : List UInt8) : List UInt8 := padTo 124 (begunL kind epoch seq ++ rest)
def numAt (b : List UInt8) (a w : Nat) : Nat := leVal ((b.drop a).take w)
def kindB (b : List UInt8) : UInt8 := if b.length = 128 ∧ b.take 4 = magicL ∧ (b.getD 4 0).toNat ≤ 3 then b.getD 4 0 else 0
/-- The errors that all kinds have. -/
def looksM (b : List UInt8) (kind : UInt8) : Int := if b.length ≠ 128 then 4 else if kindB b ≠ kind then 80 else if numAt b 124 4 ≠ (crcS (b.take 124)).toNat then 81 else 0

theorem lowBytes_cons : ∀ (w v : Nat), lowBytes v (w + 1) = UInt8.ofNat v :: lowBytes (v / 256) w
  | 0, v => by simp [lowBytes]
  | w + 1, v => by
    rw [lowBytes, lowBytes_cons w v, lowBytes, List.cons_append, Nat.div_div_eq_div_mul, Nat.pow_succ, Nat.mul_comm]
theorem leVal_low : ∀ (w v : Nat), v < 256 ^ w → leVal (lowBytes v w) = v
  | 0, v, h => by simp at h; subst h; rfl
  | w + 1, v, h => by
    rw [lowBytes_cons, leVal, leVal_low w (v / 256) (by rw [Nat.pow_succ] at h; exact Nat.div_lt_of_lt_mul (by omega)), UInt8.toNat_ofNat']
    have := Nat.mod_add_div v 256
    omega
/-! ### Numbers side by side -/
def flds (fs : List (Nat × Nat)) : List UInt8 := fs.flatMap fun p => lowBytes p.1 p.2
/-! ### The three kinds -/
structure HdrD where
  epoch : Nat
  seq : Nat
  index : Int
  count : Int
  member : Int
  row : Int
  escaped : Bool
  sum : Nat
abbrev HdrD.cells (h : HdrD) : List Value := [.int .u64 h.epoch, .int .u64 h.seq, .int .i64 h.index, .int .i64 h.count, .int .i64 h.member, .int .i64 h.row, .bool h.escaped, .int .u32 h.sum]
structure CmtD where
  epoch : Nat
  seq : Nat
  count : Int
  sum : Nat
abbrev CmtD.cells (h : CmtD) : List Value := [.int .u64 h.epoch, .int .u64 h.seq, .int .i64 h.count, .int .u32 h.sum]
structure ChkD where
  epoch : Nat
  seq : Nat
  tail : Int
abbrev ChkD.cells (h : ChkD) : List Value := [.int .u64 h.epoch, .int .u64 h.seq, .int .i64 h.tail]
def cntOk (epoch seq : Nat) : Prop := epoch ≤ 4611686018427387904 ∧ 1 ≤ seq ∧ seq ≤ 4611686018427387904
instance (a b : Nat) : Decidable (cntOk a b) := by unfold cntOk; exact inferInstance
def HdrD.good (h : HdrD) : Prop := cntOk h.epoch h.seq ∧ (1 ≤ h.count ∧ h.count ≤ 1023) ∧ (0 ≤ h.index ∧ h.index ≤ h.count - 1) ∧ (0 ≤ h.member ∧ h.member ≤ 15) ∧ 0 ≤ h.row ∧ h.row ≤ 4095
def CmtD.good (h : CmtD) : Prop := cntOk h.epoch h.seq ∧ 1 ≤ h.count ∧ h.count ≤ 1023
def ChkD.good (h : ChkD) : Prop := cntOk h.epoch h.seq ∧ 0 ≤ h.tail ∧ h.tail ≤ 2047
instance (h : HdrD) : Decidable h.good := by unfold HdrD.good; exact inferInstance
instance (h : CmtD) : Decidable h.good := by unfold CmtD.good; exact inferInstance
instance (h : ChkD) : Decidable h.good := by unfold ChkD.good; exact inferInstance
def bitN (b : Bool) : Nat := if b then 1 else 0
def HdrD.rest (h : HdrD) : List (Nat × Nat) := [(h.index.toNat, 4), (h.count.toNat, 4), (h.member.toNat, 4), (h.row.toNat, 4), (bitN h.escaped, 4), (h.sum, 4)]
def CmtD.rest (h : CmtD) : List (Nat × Nat) := [(h.count.toNat, 4), (h.sum, 4)]
def ChkD.rest (h : ChkD) : List (Nat × Nat) := [(h.tail.toNat, 4)]
/-- A sector of a kind, with these numbers. -/
def sectF (kind epoch seq : Nat) (rest : List (Nat × Nat)) : List UInt8 := sealS (sectB kind epoch seq (flds rest))
def HdrD.enc (h : HdrD) : Int × List UInt8 := if h.good then (0, sectF 1 h.epoch h.seq h.rest) else (80, [])
def CmtD.enc (h : CmtD) : Int × List UInt8 := if h.good then (0, sectF 2 h.epoch h.seq h.rest) else (80, [])
def ChkD.enc (h : ChkD) : Int × List UInt8 := if h.good then (0, sectF 3 h.epoch h.seq h.rest) else (80, [])
def HdrD.parse (b : List UInt8) : HdrD := ⟨numAt b 8 8, numAt b 16 8, numAt b 24 4, numAt b 28 4, numAt b 32 4, numAt b 36 4, decide (numAt b 40 4 = 1), numAt b 44 4⟩
def CmtD.parse (b : List UInt8) : CmtD := ⟨numAt b 8 8, numAt b 16 8, numAt b 24 4, numAt b 28 4⟩
def ChkD.parse (b : List UInt8) : ChkD := ⟨numAt b 8 8, numAt b 16 8, numAt b 24 4⟩
def zeroH : HdrD := ⟨0, 0, 0, 0, 0, 0, false, 0⟩
def zeroC : CmtD := ⟨0, 0, 0, 0⟩
def zeroK : ChkD := ⟨0, 0, 0⟩
def HdrD.dec (b : List UInt8) : Int × HdrD := if looksM b 1 ≠ 0 then (looksM b 1, zeroH) else if (HdrD.parse b).good ∧ (HdrD.parse b).enc.2 = b then (0, HdrD.parse b) else (80, zeroH)
def CmtD.dec (b : List UInt8) : Int × CmtD := if looksM b 2 ≠ 0 then (looksM b 2, zeroC) else if (CmtD.parse b).good ∧ (CmtD.parse b).enc.2 = b then (0, CmtD.parse b) else (80, zeroC)
def ChkD.dec (b : List UInt8) : Int × ChkD := if looksM b 3 ≠ 0 then (looksM b 3, zeroK) else if (ChkD.parse b).good ∧ (ChkD.parse b).enc.2 = b then (0, ChkD.parse b) else (80, zeroK)

theorem crcS_lt (b : List UInt8) : (crcS b).toNat < 256 ^ 4 := (crcS b).isLt
/-! ### What is written is read -/
end Go.Proofs.YtpmmkmcbimnigaaGreat

/-! Text Eb. -/
/- Checksums: the program's half, More, Sum; the document's through, More, Sum. -/
set_option maxRecDepth 8000
set_option linter.unusedVariables false
set_option linter.unusedSimpArgs false
set_option linter.unusedSectionVars false
namespace Go.Sl
open Go Go.RowKit
section
variable {W : World} {P : Program} {n : Nat} {H : List SProp} {f : Fr} {dst : Option Tmp} {ty_ : TypeId} {pos : String} {after : Array Edge} {guard : Option (Nat × Bool)}
/-- A number of 32 bits. -/
def u32V (c : BitVec 32) : Value := .int .u32 (c.toNat : Int)
theorem PureAt.indexArr {T : TabData} {x y : Operand} {t e : TypeId} {k : IntKind} {b o m j : Nat} (hT : T.ok P = true) (ht : P.underlying t = some (.array m e)) (hx : evalX f x = some (.pointer (some ⟨b, o, none⟩))) (hy : evalX f y = some (.int k (j : Int)))
    (hl : assoc T.leaf e = some ()) (hj : j < m) : PureAt W P n H f { dst, op := .indexAddr t x y, type := ty_, pos, after, guard } (.pointer (some ⟨b, o + j, none⟩)) := by
  unfold PureAt
  intro tm w hk _
  have h1 : (0 : Int) ≤ j ∧ (j : Int) < m := ⟨by omega, by omega⟩
  have h2 : (⟨b, o, none⟩ : Addr).add j = ⟨b, o + j, none⟩ := by unfold Addr.add; split <;> simp_all
  simp [execOp, hk.eval hx, hk.eval hy, Instr.indexAt, Instr.sureAddr, asIntOf, run_underlying ht, (T.leaf_ok hT hl).2, h1, h2]
  intro h; omega
theorem ofInt32 (c : BitVec 32) : BitVec.ofInt 32 (c.toNat : Int) = c := by
  rw [BitVec.ofInt_natCast, BitVec.ofNat_toNat, BitVec.setWidth_eq]
theorem wrapB32 (c : BitVec 32) : IntKind.u32.wrap (c.toNat : Int) = c.toNat := by
  have := c.isLt
  rw [IntKind.wrap_u32]; omega
theorem PureAt.not32 {x : Operand} {s : TypeId} {c : BitVec 32} (hx : evalX f x = some (u32V c)) : PureAt W P n H f { dst, op := .unOp .xor s x, type := ty_, pos, after, guard } (u32V (~~~c)) := by
  unfold PureAt
  intro tm w hk _
  have e : (4294967295#32 ^^^ c) = ~~~c := by
    apply BitVec.eq_of_getLsbD_eq
    intro i hi
    have hc : ∀ j : Fin 32, (4294967295#32).getLsbD j.1 = true := by decide
    rw [BitVec.getLsbD_xor, BitVec.getLsbD_not, hc ⟨i, hi⟩]
    simp [hi]
  have e2 : IntKind.u32.wrap ((BitVec.ofInt 32 4294967295 ^^^ BitVec.ofInt 32 (c.toNat : Int)).toNat : Int) = ((~~~c).toNat : Int) := by
    rw [ofInt32, show BitVec.ofInt 32 4294967295 = 4294967295#32 from rfl, e, wrapB32]
  unfold execOp
  simp only [hk.eval hx, u32V]
  have e3 : (Op.unary .xor (.int .u32 (c.toNat : Int))).run P w = .ok (.int .u32 ((~~~c).toNat : Int)) w := by
    rw [← e2]; rfl
  simp only [Sem.run_bind, e3, Result.andThen_ok, Sem.run_pure]
end
end Go.Sl
namespace Go.Proofs.YtpmmkmcbimnigaaGreat
open Go.RowKit Go.Sl
attribute [local irreducible] Own

theorem xor32 (a b : BitVec 32) : IntKind.u32.wrap ((BitVec.ofInt IntKind.u32.bits (a.toNat : Int) ^^^ BitVec.ofInt IntKind.u32.bits (b.toNat : Int)).toNat : Int) = ((a ^^^ b).toNat : Int) := by
  show IntKind.u32.wrap ((BitVec.ofInt 32 _ ^^^ BitVec.ofInt 32 _).toNat : Int) = _
  rw [ofInt32, ofInt32, wrapB32]
theorem and32 (a b : BitVec 32) : IntKind.u32.wrap ((BitVec.ofInt IntKind.u32.bits (a.toNat : Int) &&& BitVec.ofInt IntKind.u32.bits (b.toNat : Int)).toNat : Int) = ((a &&& b).toNat : Int) := by
  show IntKind.u32.wrap ((BitVec.ofInt 32 _ &&& BitVec.ofInt 32 _).toNat : Int) = _
  rw [ofInt32, ofInt32, wrapB32]
theorem shr32 (a : BitVec 32) (k : Nat) : ((a.toNat / 2 ^ k : Nat) : Int) = ((a >>> k).toNat : Int) := by
  rw [BitVec.toNat_ushiftRight, Nat.shiftRight_eq_div_pow]

theorem rthrough_ok {W : World} {R : List SProp} (c : BitVec 32) (k : Nat) (hk : k ≤ 1000) :
    Does1 W Tryz.prog 111 [.int .u32 (c.toNat : Int), .int .i64 k] R (.int .u32 ((stpN k c).toNat : Int)) R := by
  (refine Does.enter Tryz.func111 Tryz.ntmps111 rfl rfl ?_)
  (refine w ?_; repeat ((first | refine VO.step rfl rfl ?_ | refine VD.end rfl rfl rfl ?_ | refine VD.mid rfl rfl rfl ?_); refine OpV.box rfl rfl rfl ?_; intro _; refine w ?_))
  refine VC.loop (α := Nat) (fun i => i ≤ k) (fun _ => R) (fun i => [(0, .int .u32 ((stpN i c).toNat : Int)), (1, .int .i64 k), (5, .int .i64 i)]) (fun i => k - i) rfl 0 (Nat.zero_le _) Ent.refl ⟨rfl, rfl, rfl, trivial⟩ ?_
  intro i hi
  (refine w ?_; repeat ((first | refine VO.step rfl rfl ?_ | refine VD.end rfl rfl rfl ?_ | refine VD.mid rfl rfl rfl ?_); refine OpV.box rfl rfl rfl ?_; intro _; refine w ?_))
  (refine VC.cond rfl rfl ?_ ?_ <;> intro hc)
  · have hlt : i < k := by have := of_decide_eq_true hc; omega
    have hst : stpN (i + 1) c = stp (stpN i c) := by rw [stpN_add]; rfl
    generalize stpN i c = m at *
    have hand : IntKind.u32.wrap ((BitVec.ofInt IntKind.u32.bits (m.toNat : Int) &&& BitVec.ofInt IntKind.u32.bits 1).toNat : Int) = ((m &&& 1#32).toNat : Int) := and32 m 1#32
    have hb : (((m &&& 1#32).toNat : Int) == 1) = m.getLsbD 0 := by
      have e : m &&& 1#32 = if m.getLsbD 0 then 1#32 else 0#32 := by
        apply BitVec.eq_of_getLsbD_eq
        intro j hj
        rw [BitVec.getLsbD_and]
        cases j with
        | zero => cases m.getLsbD 0 <;> simp
        | succ j => cases m.getLsbD 0 <;> simp
      rw [e]; cases m.getLsbD 0 <;> rfl
    (refine w ?_; repeat ((first | refine VO.step rfl rfl ?_ | refine VD.end rfl rfl rfl ?_ | refine VD.mid rfl rfl rfl ?_); refine OpV.box rfl rfl rfl ?_; intro _; refine w ?_))
    refine VC.re 13 (.bool (m.getLsbD 0)) rfl (by rw [hand, hb]) ?_
    have hs1 : (((m.toNat / 2 ^ (1 : Int).toNat : Nat)) : Int) = ((m >>> 1).toNat : Int) := shr32 m 1
    cases hbit : m.getLsbD 0
    · have hst2 : stp m = m >>> 1 := stp_even m hbit
      (refine w ?_; repeat ((first | refine VO.step rfl rfl ?_ | refine VD.end rfl rfl rfl ?_ | refine VD.mid rfl rfl rfl ?_); refine OpV.box rfl rfl rfl ?_; intro _; refine w ?_))
      refine VE.round (i + 1) (by omega) (by omega) ⟨asV rfl (by rw [hst, hst2, hs1]), rfl, asV rfl (by congr 1), trivial⟩ Ent.refl
    · have hst2 : stp m = (m >>> 1) ^^^ crcPoly := by unfold stp; rw [hbit]; rfl
      (refine w ?_; repeat ((first | refine VO.step rfl rfl ?_ | refine VD.end rfl rfl rfl ?_ | refine VD.mid rfl rfl rfl ?_); refine OpV.box rfl rfl rfl ?_; intro _; refine w ?_))
      refine VE.round (i + 1) (by omega) (by omega) ⟨asV rfl (by rw [hst, hst2, hs1]; exact congrArg (Value.int .u32) (xor32 (m >>> 1) crcPoly)), rfl, asV rfl (by congr 1), trivial⟩ Ent.refl
  · have hge : i = k := by have := of_decide_eq_false hc; omega
    subst hge
    (refine w ?_; repeat ((first | refine VO.step rfl rfl ?_ | refine VD.end rfl rfl rfl ?_ | refine VD.mid rfl rfl rfl ?_); refine OpV.box rfl rfl rfl ?_; intro _; refine w ?_))
    (refine VE.done1 rfl ?_ ?_)
    · rfl
    · exact Ent.refl

theorem byte32 (c : UInt8) : (c.toNat : Int) = ((BitVec.ofNat 32 c.toNat).toNat : Int) := by
  rw [BitVec.toNat_ofNat, Nat.mod_eq_of_lt (by have := c.toNat_lt; omega)]
theorem crcF_snoc (n : BitVec 32) (l : List UInt8) (c : UInt8) : crcF n (l ++ [c]) = crcB (crcF n l) c := by simp [crcF]
theorem rmore_ok {W : World} {R : List SProp} {ao : Option Addr} {cap : Nat} {l : List UInt8} (c : BitVec 32) (hr : Rds W R 1 ao l.length (bytes l)) (hl : l.length ≤ 1099511627776) :
    Does1 W Tryz.prog 97 [.int .u32 (c.toNat : Int), .slice ao l.length cap] R (.int .u32 ((crcM c l).toNat : Int)) R := by
  (refine Does.enter Tryz.func97 Tryz.ntmps97 rfl rfl ?_)
  (refine w ?_; repeat ((first | refine VO.step rfl rfl ?_ | refine VD.end rfl rfl rfl ?_ | refine VD.mid rfl rfl rfl ?_); refine OpV.box rfl rfl rfl ?_; intro _; refine w ?_))
  (first | refine VO.pure rfl rfl (PureAt.not32 (c := c) rfl) rfl ?_ | refine VD.take rfl rfl rfl (PureAt.not32 (c := c) rfl) rfl ?_ | refine VQ.pure rfl rfl (PureAt.not32 (c := c) rfl) rfl ?_ | refine VD.end rfl rfl rfl (OpV.pure (PureAt.not32 (c := c) rfl) rfl ?_))
  unfold u32V
  (refine w ?_; repeat ((first | refine VO.step rfl rfl ?_ | refine VD.end rfl rfl rfl ?_ | refine VD.mid rfl rfl rfl ?_); refine OpV.box rfl rfl rfl ?_; intro _; refine w ?_))
  refine VC.loop (α := Nat) (fun i => i ≤ l.length) (fun _ => R) (fun i => [(1, .slice ao l.length cap), (5, .int .u32 ((crcF (~~~c) (l.take i)).toNat : Int)), (6, .int .i64 i)]) (fun i => l.length - i) rfl 0 (Nat.zero_le _) Ent.refl ⟨rfl, rfl, rfl, trivial⟩ ?_
  intro i hi
  (refine w ?_; repeat ((first | refine VO.step rfl rfl ?_ | refine VD.end rfl rfl rfl ?_ | refine VD.mid rfl rfl rfl ?_); refine OpV.box rfl rfl rfl ?_; intro _; refine w ?_))
  (refine VC.cond rfl rfl ?_ ?_ <;> intro hc)
  · have hlt : i < l.length := by have := of_decide_eq_true hc; omega
    obtain ⟨a, rfl⟩ : ∃ a, ao = some a := by cases ao with | none => have := hr.nil rfl; omega | some a => exact ⟨a, rfl⟩
    have hst : crcF (~~~c) (l.take (i + 1)) = crcB (crcF (~~~c) (l.take i)) l[i] := by rw [List.take_succ_eq_append_getElem hlt, crcF_snoc]
    have hb1 := hr
    (refine w ?_; repeat ((first | refine VO.step rfl rfl ?_ | refine VD.end rfl rfl rfl ?_ | refine VD.mid rfl rfl rfl ?_); refine OpV.box rfl rfl rfl ?_; intro _; refine w ?_))
    refine VO.re 21 (.int .u32 (((crcF (~~~c) (l.take i)) ^^^ BitVec.ofNat 32 l[i].toNat).toNat : Int)) rfl (by rw [byte32, wrapB32]; exact congrArg (Value.int .u32) (xor32 _ _)) ?_
    ((first | refine VO.step rfl rfl ?_ | refine VD.end rfl rfl rfl ?_ | refine VD.mid rfl rfl rfl ?_); refine OpV.call rfl rfl (fun _ _ => by simp) (rthrough_ok _ 8 (by omega)) Ent.refl rfl ?_; intro _ _)
    (refine w ?_; repeat ((first | refine VO.step rfl rfl ?_ | refine VD.end rfl rfl rfl ?_ | refine VD.mid rfl rfl rfl ?_); refine OpV.box rfl rfl rfl ?_; intro _; refine w ?_))
    refine VE.round (i + 1) (by omega) (by omega) ⟨rfl, asV rfl (by rw [hst]; rfl), asV rfl (by congr 1), trivial⟩ Ent.refl
  · have hge : i = l.length := by have := of_decide_eq_false hc; omega
    subst hge
    rw [List.take_of_length_le (Nat.le_refl _)]
    (refine w ?_; repeat ((first | refine VO.step rfl rfl ?_ | refine VD.end rfl rfl rfl ?_ | refine VD.mid rfl rfl rfl ?_); refine OpV.box rfl rfl rfl ?_; intro _; refine w ?_))
    (first | refine VO.pure rfl rfl (PureAt.not32 (c := crcF (~~~c) l) rfl) rfl ?_ | refine VD.take rfl rfl rfl (PureAt.not32 (c := crcF (~~~c) l) rfl) rfl ?_ | refine VQ.pure rfl rfl (PureAt.not32 (c := crcF (~~~c) l) rfl) rfl ?_ | refine VD.end rfl rfl rfl (OpV.pure (PureAt.not32 (c := crcF (~~~c) l) rfl) rfl ?_))
    unfold u32V
    (refine w ?_; repeat ((first | refine VO.step rfl rfl ?_ | refine VD.end rfl rfl rfl ?_ | refine VD.mid rfl rfl rfl ?_); refine OpV.box rfl rfl rfl ?_; intro _; refine w ?_))
    (refine VE.done1 rfl ?_ ?_)
    · rfl
    · exact Ent.refl
theorem rsum_ok {W : World} {R : List SProp} {ao : Option Addr} {cap : Nat} {l : List UInt8} (hr : Rds W R 1 ao l.length (bytes l)) (hl : l.length ≤ 1099511627776) :
    Does1 W Tryz.prog 54 [.slice ao l.length cap] R (.int .u32 ((crcS l).toNat : Int)) R := by
  (refine Does.enter Tryz.func54 Tryz.ntmps54 rfl rfl ?_)
  (refine w ?_; repeat ((first | refine VO.step rfl rfl ?_ | refine VD.end rfl rfl rfl ?_ | refine VD.mid rfl rfl rfl ?_); refine OpV.box rfl rfl rfl ?_; intro _; refine w ?_))
  ((first | refine VO.step rfl rfl ?_ | refine VD.end rfl rfl rfl ?_ | refine VD.mid rfl rfl rfl ?_); refine OpV.call rfl rfl (fun _ _ => by simp) (rmore_ok 0#32 hr hl) Ent.refl rfl ?_)
  intro _ _
  (refine w ?_; repeat ((first | refine VO.step rfl rfl ?_ | refine VD.end rfl rfl rfl ?_ | refine VD.mid rfl rfl rfl ?_); refine OpV.box rfl rfl rfl ?_; intro _; refine w ?_))
  (refine VE.done1 rfl ?_ ?_)
  · rfl
  · exact Ent.refl

/-! ### The program's, by a table -/
def tabV (i : Nat) : List Value := (List.range 16).map fun j => if j < i then .int .u32 ((stpN 4 (BitVec.ofNat 32 j)).toNat : Int) else .int .u32 0
theorem tabV_length (i : Nat) : (tabV i).length = 16 := by simp [tabV]
theorem tabV_one (i : Nat) : ∀ u ∈ tabV i, u.oneCell' = true := by
  intro u hu
  obtain ⟨j, -, rfl⟩ := List.mem_map.1 hu
  split <;> rfl
theorem tabV_set (i : Nat) (h : i < 16) : (tabV i).set i (.int .u32 ((stpN 4 (BitVec.ofNat 32 i)).toNat : Int)) = tabV (i + 1) := by
  apply List.ext_getElem (by simp [tabV])
  intro j h1 h2
  have hj : j < 16 := by rw [tabV_length] at h2; exact h2
  rw [List.getElem_set]
  simp only [tabV, List.getElem_map, List.getElem_range]
  by_cases e : i = j
  · subst e; rw [if_pos rfl, if_pos (by omega)]
  · rw [if_neg e]
    by_cases q : j < i
    · rw [if_pos q, if_pos (by omega)]
    · rw [if_neg q, if_neg (by omega)]
theorem tabV_get (j : Nat) (h : j < 16) : (tabV 16)[j]? = some (.int .u32 ((stpN 4 (BitVec.ofNat 32 j)).toNat : Int)) := by simp [tabV, h]
theorem mul32 (m : BitVec 32) : IntKind.u32.wrap (2197175160 * ((m &&& 1#32).toNat : Int)) = ((if m.getLsbD 0 then crcPoly else 0#32).toNat : Int) := by
  have e : m &&& 1#32 = if m.getLsbD 0 then 1#32 else 0#32 := by
    apply BitVec.eq_of_getLsbD_eq
    intro j hj
    rw [BitVec.getLsbD_and]
    cases j with
    | zero => cases m.getLsbD 0 <;> simp
    | succ j => cases m.getLsbD 0 <;> simp
  rw [e]
  cases m.getLsbD 0
  · rw [IntKind.wrap_u32]; rfl
  · rw [IntKind.wrap_u32]; rfl
theorem half_ok {W : World} {R : List SProp} : Does1 W Tryz.prog 110 [] R (.agg (tabV 16).toArray) R := by
  (refine Does.enter Tryz.func110 Tryz.ntmps110 rfl rfl ?_)
  (refine w ?_; repeat ((first | refine VO.step rfl rfl ?_ | refine VD.end rfl rfl rfl ?_ | refine VD.mid rfl rfl rfl ?_); refine OpV.box rfl rfl rfl ?_; intro _; refine w ?_))
  (first | refine VO.step rfl rfl ?_ | refine VD.end rfl rfl rfl ?_ | refine VD.mid rfl rfl rfl ?_)
  refine OpV.alloc (z := .agg (tabV 0).toArray) (cs := tabV 0) (fun w => by simp; rfl) rfl rfl ?_
  intro nb
  (refine w ?_; repeat ((first | refine VO.step rfl rfl ?_ | refine VD.end rfl rfl rfl ?_ | refine VD.mid rfl rfl rfl ?_); refine OpV.box rfl rfl rfl ?_; intro _; refine w ?_))
  refine VC.loop (α := Nat) (fun i => i ≤ 16) (fun i => Row nb 182 (tabV i) :: R) (fun i => [(0, .pointer (some ⟨nb, 0, none⟩)), (3, .int .i64 i)]) (fun i => 16 - i) rfl 0 (Nat.zero_le _) Ent.refl ⟨rfl, rfl, trivial⟩ ?_
  intro i hi
  (refine w ?_; repeat ((first | refine VO.step rfl rfl ?_ | refine VD.end rfl rfl rfl ?_ | refine VD.mid rfl rfl rfl ?_); refine OpV.box rfl rfl rfl ?_; intro _; refine w ?_))
  (refine VC.cond rfl rfl ?_ ?_ <;> intro hc)
  · have hlt : i < 16 := by have := of_decide_eq_true hc; omega
    have h0 : IntKind.u32.wrap (i : Int) = ((BitVec.ofNat 32 i).toNat : Int) := by
      rw [IntKind.wrap_u32, BitVec.toNat_ofNat]; omega
    (refine w ?_; repeat ((first | refine VO.step rfl rfl ?_ | refine VD.end rfl rfl rfl ?_ | refine VD.mid rfl rfl rfl ?_); refine OpV.box rfl rfl rfl ?_; intro _; refine w ?_))
    refine VC.re 2 (.int .u32 ((BitVec.ofNat 32 i).toNat : Int)) rfl (by rw [h0]) ?_
    refine VC.loop (α := Nat) (fun k => k ≤ 4) (fun _ => Row nb 182 (tabV i) :: R) (fun k => [(0, .pointer (some ⟨nb, 0, none⟩)), (1, .int .i64 i), (2, .int .u32 ((stpN k (BitVec.ofNat 32 i)).toNat : Int)), (3, .int .i64 i), (8, .int .i64 k)]) (fun k => 4 - k) rfl 0 (Nat.zero_le _) Ent.refl ⟨rfl, rfl, rfl, rfl, rfl, trivial⟩ ?_
    intro k hk
    (refine w ?_; repeat ((first | refine VO.step rfl rfl ?_ | refine VD.end rfl rfl rfl ?_ | refine VD.mid rfl rfl rfl ?_); refine OpV.box rfl rfl rfl ?_; intro _; refine w ?_))
    (refine VC.cond rfl rfl ?_ ?_ <;> intro hc)
    · have hkt : k < 4 := by have := of_decide_eq_true hc; omega
      have hst : stpN (k + 1) (BitVec.ofNat 32 i) = stp (stpN k (BitVec.ofNat 32 i)) := by rw [stpN_add]; rfl
      generalize stpN k (BitVec.ofNat 32 i) = m at *
      have hs1 : (((m.toNat / 2 ^ (1 : Int).toNat : Nat)) : Int) = ((m >>> 1).toNat : Int) := shr32 m 1
      have hand : IntKind.u32.wrap ((BitVec.ofInt IntKind.u32.bits (m.toNat : Int) &&& BitVec.ofInt IntKind.u32.bits 1).toNat : Int) = ((m &&& 1#32).toNat : Int) := and32 m 1#32
      (refine w ?_; repeat ((first | refine VO.step rfl rfl ?_ | refine VD.end rfl rfl rfl ?_ | refine VD.mid rfl rfl rfl ?_); refine OpV.box rfl rfl rfl ?_; intro _; refine w ?_))
      refine VE.round (k + 1) (by omega) (by omega) ⟨rfl, rfl, asV rfl ?_, rfl, asV rfl (by congr 1), trivial⟩ Ent.refl
      rw [hst, hand, mul32, hs1]
      exact congrArg (Value.int .u32) (xor32 (m >>> 1) _)
    · have hge : k = 4 := by have := of_decide_eq_false hc; omega
      subst hge
      (refine w ?_; repeat ((first | refine VO.step rfl rfl ?_ | refine VD.end rfl rfl rfl ?_ | refine VD.mid rfl rfl rfl ?_); refine OpV.box rfl rfl rfl ?_; intro _; refine w ?_))
      (first | refine VO.pure rfl rfl (PureAt.indexArr tab_ok Tryz.underlying182 rfl rfl rfl hlt) rfl ?_ | refine VD.take rfl rfl rfl (PureAt.indexArr tab_ok Tryz.underlying182 rfl rfl rfl hlt) rfl ?_ | refine VQ.pure rfl rfl (PureAt.indexArr tab_ok Tryz.underlying182 rfl rfl rfl hlt) rfl ?_ | refine VD.end rfl rfl rfl (OpV.pure (PureAt.indexArr tab_ok Tryz.underlying182 rfl rfl rfl hlt) rfl ?_))
      (first | refine VO.step rfl rfl ?_ | refine VD.end rfl rfl rfl ?_ | refine VD.mid rfl rfl rfl ?_)
      refine OpV.st (cs := tabV i) tab_ok rfl rfl rfl rfl .head (by rw [tabV_length]; omega) ?_
      rw [show (tabV i).set (0 + i) (.int .u32 ((stpN 4 (BitVec.ofNat 32 i)).toNat : Int)) = tabV (i + 1) by rw [Nat.zero_add]; exact tabV_set i hlt]
      (refine w ?_; repeat ((first | refine VO.step rfl rfl ?_ | refine VD.end rfl rfl rfl ?_ | refine VD.mid rfl rfl rfl ?_); refine OpV.box rfl rfl rfl ?_; intro _; refine w ?_))
      exact VE.round (i + 1) (by omega) (by omega) ⟨rfl, asV rfl (by congr 1), trivial⟩ Ent.refl
  · have hge : i = 16 := by have := of_decide_eq_false hc; omega
    subst hge
    have ht : List.take 16 (List.drop 0 (tabV 16)) = tabV 16 := by rw [List.drop_zero, List.take_of_length_le (by rw [tabV_length]; exact Nat.le_refl _)]
    have hl := tabV_length 16
    have h1 := tabV_one 16
    generalize tabV 16 = T at *
    (refine w ?_; repeat ((first | refine VO.step rfl rfl ?_ | refine VD.end rfl rfl rfl ?_ | refine VD.mid rfl rfl rfl ?_); refine OpV.box rfl rfl rfl ?_; intro _; refine w ?_))
    (first | refine VO.pure rfl rfl (PureAt.ldA tab_ok rfl rfl (.head _) ht hl) rfl ?_ | refine VD.take rfl rfl rfl (PureAt.ldA tab_ok rfl rfl (.head _) ht hl) rfl ?_ | refine VQ.pure rfl rfl (PureAt.ldA tab_ok rfl rfl (.head _) ht hl) rfl ?_ | refine VD.end rfl rfl rfl (OpV.pure (PureAt.ldA tab_ok rfl rfl (.head _) ht hl) rfl ?_))
    (first | refine VO.step rfl rfl ?_ | refine VD.end rfl rfl rfl ?_ | refine VD.mid rfl rfl rfl ?_)
    refine OpV.stA (vs := T) tab_ok rfl rfl rfl hl h1 .head (by rw [hl]; decide) ?_
    rw [show T.take 0 ++ T ++ T.drop (0 + 16) = T by rw [List.drop_of_length_le (by omega)]; simp]
    (refine w ?_; repeat ((first | refine VO.step rfl rfl ?_ | refine VD.end rfl rfl rfl ?_ | refine VD.mid rfl rfl rfl ?_); refine OpV.box rfl rfl rfl ?_; intro _; refine w ?_))
    exact VE.results1 (.inl rfl) () rfl (ResIs.agg (vs := T) tab_ok rfl rfl (.head _) ht hl) trivial rfl (Ent.drop Ent.refl)
theorem and15 (m : BitVec 32) : ((m &&& 15#32).toNat : Nat) < 16 := by
  rw [BitVec.toNat_and]; exact Nat.lt_succ_of_le Nat.and_le_right
set_option maxHeartbeats 1000000 in
theorem more_ok {W : World} {R : List SProp} {ao : Option Addr} {cap : Nat} {l : List UInt8} (c : BitVec 32) (hr : Rds W R 1 ao l.length (bytes l)) (hl : l.length ≤ 1099511627776) :
    Does1 W Tryz.prog 95 [.int .u32 (c.toNat : Int), .slice ao l.length cap] R (.int .u32 ((crcM c l).toNat : Int)) R := by
  (refine Does.enter Tryz.func95 Tryz.ntmps95 rfl rfl ?_)
  (refine w ?_; repeat ((first | refine VO.step rfl rfl ?_ | refine VD.end rfl rfl rfl ?_ | refine VD.mid rfl rfl rfl ?_); refine OpV.box rfl rfl rfl ?_; intro _; refine w ?_))
  ((first | refine VO.step rfl rfl ?_ | refine VD.end rfl rfl rfl ?_ | refine VD.mid rfl rfl rfl ?_); refine OpV.call rfl rfl (fun _ _ => by simp) (half_ok) Ent.refl rfl ?_; intro _ _)
  (first | refine VO.step rfl rfl ?_ | refine VD.end rfl rfl rfl ?_ | refine VD.mid rfl rfl rfl ?_)
  refine OpV.alloc (z := .agg (tabV 0).toArray) (cs := tabV 0) (fun w => by simp; rfl) rfl rfl ?_
  intro nb
  have hl16 := tabV_length 16
  have h1 := tabV_one 16
  have hget := tabV_get
  have hl0 := tabV_length 0
  generalize tabV 16 = T at *
  generalize tabV 0 = T0 at *
  (first | refine VO.step rfl rfl ?_ | refine VD.end rfl rfl rfl ?_ | refine VD.mid rfl rfl rfl ?_)
  refine OpV.stA (vs := T) tab_ok rfl rfl rfl hl16 h1 .head (by rw [hl0]; decide) ?_
  rw [show T0.take 0 ++ T ++ T0.drop (0 + 16) = T by rw [List.drop_of_length_le (by omega)]; simp]
  (refine w ?_; repeat ((first | refine VO.step rfl rfl ?_ | refine VD.end rfl rfl rfl ?_ | refine VD.mid rfl rfl rfl ?_); refine OpV.box rfl rfl rfl ?_; intro _; refine w ?_))
  (first | refine VO.pure rfl rfl (PureAt.not32 (c := c) rfl) rfl ?_ | refine VD.take rfl rfl rfl (PureAt.not32 (c := c) rfl) rfl ?_ | refine VQ.pure rfl rfl (PureAt.not32 (c := c) rfl) rfl ?_ | refine VD.end rfl rfl rfl (OpV.pure (PureAt.not32 (c := c) rfl) rfl ?_))
  unfold u32V
  (refine w ?_; repeat ((first | refine VO.step rfl rfl ?_ | refine VD.end rfl rfl rfl ?_ | refine VD.mid rfl rfl rfl ?_); refine OpV.box rfl rfl rfl ?_; intro _; refine w ?_))
  refine VC.loop (α := Nat) (fun i => i ≤ l.length) (fun _ => Row nb 182 T :: R) (fun i => [(5, .pointer (some ⟨nb, 0, none⟩)), (6, .int .u32 ((crcF (~~~c) (l.take i)).toNat : Int)), (12, .slice ao l.length cap), (13, .int .i64 l.length), (14, .int .i64 i)]) (fun i => l.length - i) rfl 0 (Nat.zero_le _) Ent.refl ⟨rfl, rfl, rfl, rfl, rfl, trivial⟩ ?_
  intro i hi
  (refine w ?_; repeat ((first | refine VO.step rfl rfl ?_ | refine VD.end rfl rfl rfl ?_ | refine VD.mid rfl rfl rfl ?_); refine OpV.box rfl rfl rfl ?_; intro _; refine w ?_))
  (refine VC.cond rfl rfl ?_ ?_ <;> intro hc)
  · have hlt : i < l.length := by have := of_decide_eq_true hc; omega
    obtain ⟨a, rfl⟩ : ∃ a, ao = some a := by cases ao with | none => have := hr.nil rfl; omega | some a => exact ⟨a, rfl⟩
    have hst : crcF (~~~c) (l.take (i + 1)) = crcB (crcF (~~~c) (l.take i)) l[i] := by rw [List.take_succ_eq_append_getElem hlt, crcF_snoc]
    rw [crcB_nibbles] at hst
    have hb9 := hr.ent (Ent.drop (p := Row nb 182 T) Ent.refl : Ent W (Row nb 182 T :: R) R)
    generalize crcF (~~~c) (l.take i) = F at *
    (refine w ?_; repeat ((first | refine VO.step rfl rfl ?_ | refine VD.end rfl rfl rfl ?_ | refine VD.mid rfl rfl rfl ?_); refine OpV.box rfl rfl rfl ?_; intro _; refine w ?_))
    have hx : Value.int .u32 (IntKind.u32.wrap ((BitVec.ofInt IntKind.u32.bits (F.toNat : Int) ^^^ BitVec.ofInt IntKind.u32.bits (IntKind.u32.wrap (l[i].toNat : Int))).toNat : Int)) = .int .u32 ((F ^^^ BitVec.ofNat 32 l[i].toNat).toNat : Int) := by
      rw [byte32, wrapB32]; exact congrArg (Value.int .u32) (xor32 _ _)
    (first | refine VO.pure rfl rfl (ldB tab_ok rfl rfl hb9 hlt) rfl ?_ | refine VD.take rfl rfl rfl (ldB tab_ok rfl rfl hb9 hlt) rfl ?_ | refine VQ.pure rfl rfl (ldB tab_ok rfl rfl hb9 hlt) rfl ?_ | refine VD.end rfl rfl rfl (OpV.pure (ldB tab_ok rfl rfl hb9 hlt) rfl ?_))
    iterate 9 (first | (first | refine VO.nil rfl ?_ | refine VQ.nil rfl ?_ | refine VD.nil ?_ | ((first | apply VO.pure rfl rfl | apply VQ.pure rfl rfl | apply VD.take rfl rfl rfl | (refine VD.end rfl rfl rfl ?_; apply OpV.pure)); (first | (apply PureAt.ar64 rfl rfl rfl; omega) | exact .eval tab_ok rfl | (apply PureAt.ld tab_ok rfl rfl; (focus repeat first | exact .head _ | apply List.Mem.tail); rfl) | (apply PureAt.shr rfl rfl (by decide) (by decide)) | (apply PureAt.shr rfl rfl (by omega) (by simp only [IntKind.bits]; omega)) | exact .fieldAddrA tab_ok rfl rfl | exact .sliceLH tab_ok rfl rfl rfl rfl (by omega) (by omega) | exact .sliceH tab_ok rfl rfl rfl (by omega) | exact .sliceL tab_ok rfl rfl rfl (by omega) | (first | exact .indexAddr tab_ok rfl rfl rfl rfl (by omega) | exact .indexAddrN tab_ok rfl rfl rfl rfl (by omega) | exact .indexAddrI tab_ok rfl rfl rfl rfl (toNatLit _) (by decide) (by omega) | exact .indexAddrNI tab_ok rfl rfl rfl rfl (toNatLit _) (by decide) (by omega) | exact .ldR tab_ok rfl rfl hr1 (List.getElem?_eq_getElem (by omega)) | exact .ldR tab_ok rfl rfl hr2 (List.getElem?_eq_getElem (by omega)) | exact ldB tab_ok rfl rfl hb1 (by omega) | exact ldB tab_ok rfl rfl hb2 (by omega)) | exact .sliceHI tab_ok rfl rfl rfl (toNatLit _) (by decide) (by omega) | exact .sliceLI tab_ok rfl rfl rfl (toNatLit _) (by decide) (by omega) | (apply PureAt.ldA tab_ok rfl rfl; (focus repeat first | exact .head _ | apply List.Mem.tail); rfl; rfl) | exact .ldro tab_ok rfl rfl (by assumption)); rfl) | refine VO.skip rfl rfl rfl rfl ?_ | refine VQ.skip rfl rfl rfl rfl ?_ | refine VD.skip rfl rfl rfl rfl rfl ?_ | refine VD.skipM rfl rfl Ent.refl rfl rfl rfl ?_ | ((first | refine VO.step rfl rfl ?_ | refine VD.end rfl rfl rfl ?_ | refine VD.mid rfl rfl rfl ?_); (first | (apply OpV.st tab_ok rfl rfl rfl rfl (by (repeat first | exact .head | apply Hole.tail); first | done | fail) (by first | (simp; done) | fail)) | (refine OpV.box rfl rfl rfl ?_; intro _))) | refine ⟨Ent.re, ?_⟩) | (first | refine VC.seq rfl ?_ | refine VC.region rfl ?_ | refine VC.condT rfl rfl ?_ | refine VC.condF rfl rfl ?_ | refine VC.block rfl ?_ | refine VC.skip rfl ?_ | refine VC.ret rfl ?_ | refine VC.exit rfl ?_ | refine VC.scope rfl ?_ | refine VC.label rfl ?_) | (first | refine VE.next ?_ | refine VE.passRet ?_ | refine VE.passExit ?_ | refine VE.blockNormal ?_ | refine VE.blockHit ?_ | refine VE.blockMiss rfl ?_ | refine VE.blockRet ?_ | refine VE.loopRet ?_ | refine VE.loopExit ?_ | refine VE.scopeNormal ?_ | refine VE.scopeRet ?_ | refine VE.scopeExit ?_))
    refine VO.re 21 _ rfl hx ?_
    generalize F ^^^ BitVec.ofNat 32 l[i].toNat = G at *
    have hs4 : ∀ m : BitVec 32, (((m.toNat / 2 ^ (4 : Int).toNat : Nat)) : Int) = ((m >>> 4).toNat : Int) := fun m => shr32 m 4
    have ha15 : ∀ m : BitVec 32, IntKind.u32.wrap ((BitVec.ofInt IntKind.u32.bits (m.toNat : Int) &&& BitVec.ofInt IntKind.u32.bits 15).toNat : Int) = ((m &&& 15#32).toNat : Int) := fun m => and32 m 15#32
    have hrow : ∀ m : BitVec 32, T[0 + (m &&& 15#32).toNat]? = some (.int .u32 ((stpN 4 (m &&& 15#32)).toNat : Int)) := fun m => by
      rw [show 0 + (m &&& 15#32).toNat = (m &&& 15#32).toNat by omega, hget _ (and15 m), BitVec.ofNat_toNat, BitVec.setWidth_eq]
    (refine w ?_; repeat ((first | refine VO.step rfl rfl ?_ | refine VD.end rfl rfl rfl ?_ | refine VD.mid rfl rfl rfl ?_); refine OpV.box rfl rfl rfl ?_; intro _; refine w ?_))
    refine VO.re 25 (.int .u32 ((G &&& 15#32).toNat : Int)) rfl (by rw [ha15]) ?_
    (first | refine VO.pure rfl rfl (PureAt.indexArr tab_ok Tryz.underlying182 rfl rfl rfl (and15 G)) rfl ?_ | refine VD.take rfl rfl rfl (PureAt.indexArr tab_ok Tryz.underlying182 rfl rfl rfl (and15 G)) rfl ?_ | refine VQ.pure rfl rfl (PureAt.indexArr tab_ok Tryz.underlying182 rfl rfl rfl (and15 G)) rfl ?_ | refine VD.end rfl rfl rfl (OpV.pure (PureAt.indexArr tab_ok Tryz.underlying182 rfl rfl rfl (and15 G)) rfl ?_))
    (first | refine VO.pure rfl rfl (PureAt.ld tab_ok rfl rfl (.head _) (hrow G)) rfl ?_ | refine VD.take rfl rfl rfl (PureAt.ld tab_ok rfl rfl (.head _) (hrow G)) rfl ?_ | refine VQ.pure rfl rfl (PureAt.ld tab_ok rfl rfl (.head _) (hrow G)) rfl ?_ | refine VD.end rfl rfl rfl (OpV.pure (PureAt.ld tab_ok rfl rfl (.head _) (hrow G)) rfl ?_))
    (first | (first | refine VO.nil rfl ?_ | refine VQ.nil rfl ?_ | refine VD.nil ?_ | ((first | apply VO.pure rfl rfl | apply VQ.pure rfl rfl | apply VD.take rfl rfl rfl | (refine VD.end rfl rfl rfl ?_; apply OpV.pure)); (first | (apply PureAt.ar64 rfl rfl rfl; omega) | exact .eval tab_ok rfl | (apply PureAt.ld tab_ok rfl rfl; (focus repeat first | exact .head _ | apply List.Mem.tail); rfl) | (apply PureAt.shr rfl rfl (by decide) (by decide)) | (apply PureAt.shr rfl rfl (by omega) (by simp only [IntKind.bits]; omega)) | exact .fieldAddrA tab_ok rfl rfl | exact .sliceLH tab_ok rfl rfl rfl rfl (by omega) (by omega) | exact .sliceH tab_ok rfl rfl rfl (by omega) | exact .sliceL tab_ok rfl rfl rfl (by omega) | (first | exact .indexAddr tab_ok rfl rfl rfl rfl (by omega) | exact .indexAddrN tab_ok rfl rfl rfl rfl (by omega) | exact .indexAddrI tab_ok rfl rfl rfl rfl (toNatLit _) (by decide) (by omega) | exact .indexAddrNI tab_ok rfl rfl rfl rfl (toNatLit _) (by decide) (by omega) | exact .ldR tab_ok rfl rfl hr1 (List.getElem?_eq_getElem (by omega)) | exact .ldR tab_ok rfl rfl hr2 (List.getElem?_eq_getElem (by omega)) | exact ldB tab_ok rfl rfl hb1 (by omega) | exact ldB tab_ok rfl rfl hb2 (by omega)) | exact .sliceHI tab_ok rfl rfl rfl (toNatLit _) (by decide) (by omega) | exact .sliceLI tab_ok rfl rfl rfl (toNatLit _) (by decide) (by omega) | (apply PureAt.ldA tab_ok rfl rfl; (focus repeat first | exact .head _ | apply List.Mem.tail); rfl; rfl) | exact .ldro tab_ok rfl rfl (by assumption)); rfl) | refine VO.skip rfl rfl rfl rfl ?_ | refine VQ.skip rfl rfl rfl rfl ?_ | refine VD.skip rfl rfl rfl rfl rfl ?_ | refine VD.skipM rfl rfl Ent.refl rfl rfl rfl ?_ | ((first | refine VO.step rfl rfl ?_ | refine VD.end rfl rfl rfl ?_ | refine VD.mid rfl rfl rfl ?_); (first | (apply OpV.st tab_ok rfl rfl rfl rfl (by (repeat first | exact .head | apply Hole.tail); first | done | fail) (by first | (simp; done) | fail)) | (refine OpV.box rfl rfl rfl ?_; intro _))) | refine ⟨Ent.re, ?_⟩) | (first | refine VC.seq rfl ?_ | refine VC.region rfl ?_ | refine VC.condT rfl rfl ?_ | refine VC.condF rfl rfl ?_ | refine VC.block rfl ?_ | refine VC.skip rfl ?_ | refine VC.ret rfl ?_ | refine VC.exit rfl ?_ | refine VC.scope rfl ?_ | refine VC.label rfl ?_) | (first | refine VE.next ?_ | refine VE.passRet ?_ | refine VE.passExit ?_ | refine VE.blockNormal ?_ | refine VE.blockHit ?_ | refine VE.blockMiss rfl ?_ | refine VE.blockRet ?_ | refine VE.loopRet ?_ | refine VE.loopExit ?_ | refine VE.scopeNormal ?_ | refine VE.scopeRet ?_ | refine VE.scopeExit ?_))
    refine VO.re 28 (.int .u32 (((G >>> 4) ^^^ stpN 4 (G &&& 15#32)).toNat : Int)) rfl (by rw [hs4]; exact congrArg (Value.int .u32) (xor32 _ _)) ?_
    generalize (G >>> 4) ^^^ stpN 4 (G &&& 15#32) = M at *
    (refine w ?_; repeat ((first | refine VO.step rfl rfl ?_ | refine VD.end rfl rfl rfl ?_ | refine VD.mid rfl rfl rfl ?_); refine OpV.box rfl rfl rfl ?_; intro _; refine w ?_))
    refine VO.re 32 (.int .u32 ((M &&& 15#32).toNat : Int)) rfl (by rw [ha15]) ?_
    (first | refine VO.pure rfl rfl (PureAt.indexArr tab_ok Tryz.underlying182 rfl rfl rfl (and15 M)) rfl ?_ | refine VD.take rfl rfl rfl (PureAt.indexArr tab_ok Tryz.underlying182 rfl rfl rfl (and15 M)) rfl ?_ | refine VQ.pure rfl rfl (PureAt.indexArr tab_ok Tryz.underlying182 rfl rfl rfl (and15 M)) rfl ?_ | refine VD.end rfl rfl rfl (OpV.pure (PureAt.indexArr tab_ok Tryz.underlying182 rfl rfl rfl (and15 M)) rfl ?_))
    (first | refine VO.pure rfl rfl (PureAt.ld tab_ok rfl rfl (.head _) (hrow M)) rfl ?_ | refine VD.take rfl rfl rfl (PureAt.ld tab_ok rfl rfl (.head _) (hrow M)) rfl ?_ | refine VQ.pure rfl rfl (PureAt.ld tab_ok rfl rfl (.head _) (hrow M)) rfl ?_ | refine VD.end rfl rfl rfl (OpV.pure (PureAt.ld tab_ok rfl rfl (.head _) (hrow M)) rfl ?_))
    (first | (first | refine VO.nil rfl ?_ | refine VQ.nil rfl ?_ | refine VD.nil ?_ | ((first | apply VO.pure rfl rfl | apply VQ.pure rfl rfl | apply VD.take rfl rfl rfl | (refine VD.end rfl rfl rfl ?_; apply OpV.pure)); (first | (apply PureAt.ar64 rfl rfl rfl; omega) | exact .eval tab_ok rfl | (apply PureAt.ld tab_ok rfl rfl; (focus repeat first | exact .head _ | apply List.Mem.tail); rfl) | (apply PureAt.shr rfl rfl (by decide) (by decide)) | (apply PureAt.shr rfl rfl (by omega) (by simp only [IntKind.bits]; omega)) | exact .fieldAddrA tab_ok rfl rfl | exact .sliceLH tab_ok rfl rfl rfl rfl (by omega) (by omega) | exact .sliceH tab_ok rfl rfl rfl (by omega) | exact .sliceL tab_ok rfl rfl rfl (by omega) | (first | exact .indexAddr tab_ok rfl rfl rfl rfl (by omega) | exact .indexAddrN tab_ok rfl rfl rfl rfl (by omega) | exact .indexAddrI tab_ok rfl rfl rfl rfl (toNatLit _) (by decide) (by omega) | exact .indexAddrNI tab_ok rfl rfl rfl rfl (toNatLit _) (by decide) (by omega) | exact .ldR tab_ok rfl rfl hr1 (List.getElem?_eq_getElem (by omega)) | exact .ldR tab_ok rfl rfl hr2 (List.getElem?_eq_getElem (by omega)) | exact ldB tab_ok rfl rfl hb1 (by omega) | exact ldB tab_ok rfl rfl hb2 (by omega)) | exact .sliceHI tab_ok rfl rfl rfl (toNatLit _) (by decide) (by omega) | exact .sliceLI tab_ok rfl rfl rfl (toNatLit _) (by decide) (by omega) | (apply PureAt.ldA tab_ok rfl rfl; (focus repeat first | exact .head _ | apply List.Mem.tail); rfl; rfl) | exact .ldro tab_ok rfl rfl (by assumption)); rfl) | refine VO.skip rfl rfl rfl rfl ?_ | refine VQ.skip rfl rfl rfl rfl ?_ | refine VD.skip rfl rfl rfl rfl rfl ?_ | refine VD.skipM rfl rfl Ent.refl rfl rfl rfl ?_ | ((first | refine VO.step rfl rfl ?_ | refine VD.end rfl rfl rfl ?_ | refine VD.mid rfl rfl rfl ?_); (first | (apply OpV.st tab_ok rfl rfl rfl rfl (by (repeat first | exact .head | apply Hole.tail); first | done | fail) (by first | (simp; done) | fail)) | (refine OpV.box rfl rfl rfl ?_; intro _))) | refine ⟨Ent.re, ?_⟩) | (first | refine VC.seq rfl ?_ | refine VC.region rfl ?_ | refine VC.condT rfl rfl ?_ | refine VC.condF rfl rfl ?_ | refine VC.block rfl ?_ | refine VC.skip rfl ?_ | refine VC.ret rfl ?_ | refine VC.exit rfl ?_ | refine VC.scope rfl ?_ | refine VC.label rfl ?_) | (first | refine VE.next ?_ | refine VE.passRet ?_ | refine VE.passExit ?_ | refine VE.blockNormal ?_ | refine VE.blockHit ?_ | refine VE.blockMiss rfl ?_ | refine VE.blockRet ?_ | refine VE.loopRet ?_ | refine VE.loopExit ?_ | refine VE.scopeNormal ?_ | refine VE.scopeRet ?_ | refine VE.scopeExit ?_))
    refine VO.re 35 (.int .u32 (((M >>> 4) ^^^ stpN 4 (M &&& 15#32)).toNat : Int)) rfl (by rw [hs4]; exact congrArg (Value.int .u32) (xor32 _ _)) ?_
    (refine w ?_; repeat ((first | refine VO.step rfl rfl ?_ | refine VD.end rfl rfl rfl ?_ | refine VD.mid rfl rfl rfl ?_); refine OpV.box rfl rfl rfl ?_; intro _; refine w ?_))
    refine VE.round (i + 1) (by omega) (by omega) ⟨rfl, asV rfl (by rw [hst]), rfl, rfl, asV rfl (by congr 1), trivial⟩ Ent.refl
  · have hge : i = l.length := by have := of_decide_eq_false hc; omega
    subst hge
    rw [List.take_of_length_le (Nat.le_refl _)]
    (refine w ?_; repeat ((first | refine VO.step rfl rfl ?_ | refine VD.end rfl rfl rfl ?_ | refine VD.mid rfl rfl rfl ?_); refine OpV.box rfl rfl rfl ?_; intro _; refine w ?_))
    (first | refine VO.pure rfl rfl (PureAt.not32 (c := crcF (~~~c) l) rfl) rfl ?_ | refine VD.take rfl rfl rfl (PureAt.not32 (c := crcF (~~~c) l) rfl) rfl ?_ | refine VQ.pure rfl rfl (PureAt.not32 (c := crcF (~~~c) l) rfl) rfl ?_ | refine VD.end rfl rfl rfl (OpV.pure (PureAt.not32 (c := crcF (~~~c) l) rfl) rfl ?_))
    unfold u32V
    (refine w ?_; repeat ((first | refine VO.step rfl rfl ?_ | refine VD.end rfl rfl rfl ?_ | refine VD.mid rfl rfl rfl ?_); refine OpV.box rfl rfl rfl ?_; intro _; refine w ?_))
    (refine VE.done1 rfl ?_ ?_)
    · rfl
    · exact Ent.drop Ent.refl
theorem sum_ok {W : World} {R : List SProp} {ao : Option Addr} {cap : Nat} {l : List UInt8} (hr : Rds W R 1 ao l.length (bytes l)) (hl : l.length ≤ 1099511627776) :
    Does1 W Tryz.prog 51 [.slice ao l.length cap] R (.int .u32 ((crcS l).toNat : Int)) R := by
  (refine Does.enter Tryz.func51 Tryz.ntmps51 rfl rfl ?_)
  (refine w ?_; repeat ((first | refine VO.step rfl rfl ?_ | refine VD.end rfl rfl rfl ?_ | refine VD.mid rfl rfl rfl ?_); refine OpV.box rfl rfl rfl ?_; intro _; refine w ?_))
  ((first | refine VO.step rfl rfl ?_ | refine VD.end rfl rfl rfl ?_ | refine VD.mid rfl rfl rfl ?_); refine OpV.call rfl rfl (fun _ _ => by simp) (more_ok 0#32 hr hl) Ent.refl rfl ?_)
  intro _ _
  (refine w ?_; repeat ((first | refine VO.step rfl rfl ?_ | refine VD.end rfl rfl rfl ?_ | refine VD.mid rfl rfl rfl ?_); refine OpV.box rfl rfl rfl ?_; intro _; refine w ?_))
  (refine VE.done1 rfl ?_ ?_)
  · rfl
  · exact Ent.refl
end Go.Proofs.YtpmmkmcbimnigaaGreat

/-! Text Ec. -/
/- The document's record: put, numbers, begun, ended; the program's counts, in. -/
set_option maxRecDepth 8000
set_option linter.unusedVariables false
set_option linter.unusedSimpArgs false
set_option linter.unusedSectionVars false
namespace Go.Proofs.YtpmmkmcbimnigaaGreat
open Go.RowKit Go.Sl
attribute [local irreducible] Own

end Go.Proofs.YtpmmkmcbimnigaaGreat

/-! Text Ed. -/
/- The document's record: get. -/
set_option maxRecDepth 8000
set_option linter.unusedVariables false
set_option linter.unusedSimpArgs false
set_option linter.unusedSectionVars false
namespace Go.Proofs.YtpmmkmcbimnigaaGreat
open Go.RowKit Go.Sl
attribute [local irreducible] Own

end Go.Proofs.YtpmmkmcbimnigaaGreat

/-! Text Ef. -/
/- The document's record: begun, ended. -/
set_option maxRecDepth 8000
set_option linter.unusedVariables false
set_option linter.unusedSimpArgs false
set_option linter.unusedSectionVars false
namespace Go.Proofs.YtpmmkmcbimnigaaGreat
open Go.RowKit Go.Sl
attribute [local irreducible] Own

end Go.Proofs.YtpmmkmcbimnigaaGreat

/-! Text Eg. -/
/- Sectors of the journal: what they look like (Kind, looks), the document's and the program's. -/
set_option maxRecDepth 8000
set_option linter.unusedVariables false
set_option linter.unusedSimpArgs false
set_option linter.unusedSectionVars false
namespace Go.Proofs.YtpmmkmcbimnigaaGreat
open Go.RowKit Go.Sl
attribute [local irreducible] Own

theorem bytes_take (l : List UInt8) (k : Nat) : (bytes l).take (k * 1) = bytes (l.take k) := by rw [Nat.mul_one]; simp [bytes]
theorem bytes_drop (l : List UInt8) (k : Nat) : (bytes l).drop (k * 1) = bytes (l.drop k) := by rw [Nat.mul_one]; simp [bytes]
theorem rds_head {W : World} {R : List SProp} {ao : Option Addr} {l : List UInt8} (hr : Rds W R 1 ao l.length (bytes l)) (k : Nat) (hk : k ≤ l.length) : Rds W R 1 ao k (bytes (l.take k)) := by
  have := hr.take hk
  rwa [bytes_take] at this
theorem rds_part {W : World} {R : List SProp} {ao : Option Addr} {cap : Nat} {l : List UInt8} (hr : Rds W R 1 ao l.length (bytes l)) (a b : Nat) (h1 : a ≤ b) (h2 : b ≤ l.length) (h3 : l.length ≤ cap) : Rds W R 1 (subA ao cap a 1) (b - a) (bytes ((l.drop a).take (b - a))) := by
  have := hr.sub h1 h2 h3
  rwa [bytes_drop, bytes_take] at this
end Go.Proofs.YtpmmkmcbimnigaaGreat

/-! Text Eh. -/
/- The document's EncodeHeader, EncodeCommit, EncodeCheck. -/
set_option maxRecDepth 8000
set_option linter.unusedVariables false
set_option linter.unusedSimpArgs false
set_option linter.unusedSectionVars false
namespace Go.Proofs.YtpmmkmcbimnigaaGreat
open Go.RowKit Go.Sl
attribute [local irreducible] Own

structure HdrD.fit (h : HdrD) : Prop where
  epoch : h.epoch < 2 ^ 64
  seq : h.seq < 2 ^ 64
  index : -9223372036854775808 ≤ h.index ∧ h.index ≤ 9223372036854775807
  count : -9223372036854775808 ≤ h.count ∧ h.count ≤ 9223372036854775807
  member : -9223372036854775808 ≤ h.member ∧ h.member ≤ 9223372036854775807
  row : -9223372036854775808 ≤ h.row ∧ h.row ≤ 9223372036854775807
  sum : h.sum < 4294967296
structure CmtD.fit (h : CmtD) : Prop where
  epoch : h.epoch < 2 ^ 64
  seq : h.seq < 2 ^ 64
  count : -9223372036854775808 ≤ h.count ∧ h.count ≤ 9223372036854775807
  sum : h.sum < 4294967296
structure ChkD.fit (h : ChkD) : Prop where
  epoch : h.epoch < 2 ^ 64
  seq : h.seq < 2 ^ 64
  tail : -9223372036854775808 ≤ h.tail ∧ h.tail ≤ 9223372036854775807
/-- Bytes of one's own, however they lie. -/
abbrev OwnB (x : Option Addr × Nat) (l : List UInt8) : SProp := Own 5 1 (.slice x.1 l.length x.2) l.length (bytes l)

end Go.Proofs.YtpmmkmcbimnigaaGreat

/-! Text Ba. -/
/- Package bay: a disk's calls in one form, a bay's memory. -/
set_option maxRecDepth 8000
set_option linter.unusedVariables false
set_option linter.unusedSimpArgs false
set_option linter.unusedSectionVars false
namespace Go.Proofs.YtpmmkmcbimnigaaGreat
open Go.RowKit Go.Sl
attribute [local irreducible] Own

theorem img_len {k : DiskD} (hk : k.ok) : k.last.flatten.length = k.last.length * 128 := by
  have : ∀ l : List (List UInt8), (∀ b ∈ l, b.length = 128) → l.flatten.length = l.length * 128 := fun l => by
    induction l with
    | nil => intro _; rfl
    | cons a r ih => intro h; rw [List.flatten_cons, List.length_append, ih fun b hb => h b (.tail _ hb), h a (.head _), List.length_cons, Nat.add_mul]; omega
  exact this k.last hk.last

/-! ### A disk's calls, each in one form -/

def DiskD.rd (k : DiskD) (a : Int) : List UInt8 × Int := if k.may a = 0 then (k.look a.toNat, 0) else ([], k.may a)
def DiskD.wr (k : DiskD) (a : Int) (b : List UInt8) : Int × DiskD := if k.may a ≠ 0 then (k.may a, k) else if b.length ≠ 128 then (4, k) else (0, k.write a.toNat b)
def DiskD.fl (k : DiskD) : Int × DiskD := if k.failed then (2, k) else (0, k.settle fun _ => true)
def DiskD.fail (k : DiskD) : DiskD := (DiskD.mk k.last k.cache true).settle fun _ => false
def DiskD.img (k : DiskD) : List UInt8 := if k.failed then [] else k.last.flatten
def DiskD.blank (n : Nat) : DiskD := ⟨List.replicate n zeroSec, [], false⟩

abbrev sliceB (x : Option Addr × Nat) (l : List UInt8) : Value := .slice x.1 l.length x.2

theorem DiskD.may_cases (k : DiskD) (a : Int) : k.may a = 0 ∨ k.may a = 2 ∨ k.may a = 3 := by
  unfold DiskD.may; split
  · exact .inr (.inl rfl)
  · split
    · exact .inr (.inr rfl)
    · exact .inl rfl

theorem dwr_ok {W : World} {R : List SProp} {ao : Option Addr} {cap : Nat} {b : List UInt8} (d : Nat) (k : DiskD) (a : Int) (hc : k.cache.length ≤ 1000000000) (hr : Rds W R 1 ao b.length (bytes b)) :
    Does1 W Tryz.prog 47 [.pointer (some ⟨d, 0, none⟩), .int .i64 a, .slice ao b.length cap] (DiskR d k :: R) (.int .u16 (k.wr a b).1) (DiskR d (k.wr a b).2 :: R) := by
  unfold DiskD.wr
  by_cases h : k.may a = 0
  · rw [if_neg (by simpa using h)]
    by_cases hb : b.length = 128
    · rw [if_neg (by simpa using hb)]
      obtain ⟨hf, h0, h1⟩ := may_zero h
      obtain ⟨n, rfl⟩ := Int.eq_ofNat_of_zero_le h0
      rw [hb] at hr ⊢
      exact write_ok d k n (by omega) hf hb hc hr
    · rw [if_pos hb]; exact write_len d k a h hb
  · rw [if_pos h]; exact write_bad d k a h
theorem dfl_ok {W : World} {R : List SProp} (d : Nat) (k : DiskD) :
    Does1 W Tryz.prog 35 [.pointer (some ⟨d, 0, none⟩)] (DiskR d k :: R) (.int .u16 k.fl.1) (DiskR d k.fl.2 :: R) := by
  unfold DiskD.fl
  cases h : k.failed
  · exact flush_ok d k h
  · exact flush_bad d k h
theorem dimg_ok {W : World} {R : List SProp} (d : Nat) (k : DiskD) :
    Does W Tryz.prog 94 [.pointer (some ⟨d, 0, none⟩)] (DiskR d k :: R) (β := Option Addr × Nat) (fun x => x.1 = none → k.img.length = 0) (fun x => sliceB x k.img) (fun x => OwnB x k.img :: DiskR d k :: R) := by
  refine DoesA (A := fun _ => True) ?_ (fun x _ w hw => hw.ownNone (.head _))
  unfold DiskD.img
  cases h : k.failed
  · refine DoesK (fun w => DiskR.know) fun hk => ?_
    have hl := img_len hk
    refine Does.mono (image_ok d k h) id (fun _ _ => trivial) (fun x _ => by simp [sliceB, hl]) fun x _ => ?_
    simp only [OwnB, hl, Bool.false_eq_true, if_false, id]; exact Ent.refl
  · exact Does1M (image_bad d k h) (none, 0) trivial rfl fun w hw => hw.ownNil 5 1
end Go.Proofs.YtpmmkmcbimnigaaGreat

/-! Text Bb. -/
/- Package bay: a bay's memory; slots, what stands in them. -/
set_option maxRecDepth 8000
set_option linter.unusedVariables false
set_option linter.unusedSimpArgs false
set_option linter.unusedSectionVars false
namespace Go.Proofs.YtpmmkmcbimnigaaGreat
open Go.RowKit Go.Sl
attribute [local irreducible] Own

/-! ### What a bay is -/

structure DevD where
  k : DiskD
  worn : Bool
  left : Int
structure SlotD where
  in_ : Option DevD
  aside : Option DevD
  coming : Option DevD
structure CntD where
  r : Int
  w : Int
  f : Int
structure BayD where
  slots : List SlotD
  dark : Bool
  trip : Int
  n : CntD

/-! ### A bay's memory -/

structure DevP where
  r : Nat
  d : Nat
  v : DevD
structure SlotP where
  in_ : Option DevP
  aside : Option DevP
  coming : Option DevP
def SlotP.D (s : SlotP) : SlotD := ⟨s.in_.map DevP.v, s.aside.map DevP.v, s.coming.map DevP.v⟩
abbrev devPtr (p : Option DevP) : Value := .pointer (p.map fun x => ⟨x.r, 0, none⟩)
def slotCells (s : SlotP) : List Value := [devPtr s.in_, devPtr s.aside, devPtr s.coming]
theorem slotCells_length (s : SlotP) : (slotCells s).length = 3 := rfl
theorem slotCells_one (l : List SlotP) : ∀ u ∈ l.flatMap slotCells, u.oneCell' = true := by
  intro u hu
  obtain ⟨s, _, h⟩ := List.mem_flatMap.1 hu
  simp only [slotCells, List.mem_cons, List.not_mem_nil, or_false] at h
  rcases h with h | h | h <;> subst h <;> rfl
abbrev devRow (p : DevP) : SProp := Row p.r 76 [.pointer (some ⟨p.d, 0, none⟩), .bool p.v.worn, .int .i64 p.v.left]
def devRes : Option DevP → SProp
  | none => fact True
  | some p => Sl.star [devRow p, DiskR p.d p.v.k]
def slotRes (s : SlotP) : SProp := Sl.star [devRes s.in_, devRes s.aside, devRes s.coming]
abbrev bayRow (b : Nat) (D : BayD) (a : Addr) (n : Nat) : SProp := Row b 70 [.slice (some a) n n, .bool D.dark, .int .i64 D.trip, .int .i64 D.n.r, .int .i64 D.n.w, .int .i64 D.n.f]
abbrev slotsOwn (a : Addr) (sp : List SlotP) : SProp := Own 78 3 (.slice (some a) sp.length sp.length) sp.length (sp.flatMap slotCells)
abbrev BayO (b : Nat) (D : BayD) (a : Addr) (sp : List SlotP) (R : List SProp) : List SProp := bayRow b D a sp.length :: slotsOwn a sp :: (sp.map slotRes ++ R)
def BayR (b : Nat) (D : BayD) : SProp := ex fun x : Addr × List SlotP => Sl.star (fact (D.slots = x.2.map SlotP.D ∧ x.2.length ≤ 17) :: BayO b D x.1 x.2 [])
theorem BayR.open {W w : World} {b : Nat} {D : BayD} {R : List SProp} (hw : Holds W (BayR b D :: R) w) : ∃ x : { x : Addr × List SlotP // D.slots = x.2.map SlotP.D ∧ x.2.length ≤ 17 }, Holds W (BayO b D x.1.1 x.1.2 R) w := by
  obtain ⟨x, h⟩ := hw.exOpen
  have h := h.join
  refine ⟨⟨x, h.factOpen⟩, ?_⟩
  have h := h.tail
  have e : BayO b D x.1 x.2 [] ++ R = BayO b D x.1 x.2 R := by simp only [BayO, List.cons_append, List.append_assoc, List.nil_append]
  rw [← e]; exact h
theorem BayR.shut {W : World} {b : Nat} {D : BayD} {R : List SProp} {a : Addr} {sp : List SlotP} (h1 : D.slots = sp.map SlotP.D) (h2 : sp.length ≤ 17) : Ent W (BayO b D a sp R) (BayR b D :: R) := fun w hw =>
  Holds.exShut (a, sp) (Holds.nest (L := fact _ :: BayO b D a sp []) (by
    have h : Holds W (fact (D.slots = sp.map SlotP.D ∧ sp.length ≤ 17) :: BayO b D a sp R) w := hw.factShut ⟨h1, h2⟩
    simpa only [BayO, List.cons_append, List.append_assoc, List.nil_append] using h))
theorem BayR.know {W w : World} {b : Nat} {D : BayD} {R : List SProp} (hw : Holds W (BayR b D :: R) w) : D.slots.length ≤ 17 := by
  obtain ⟨⟨x, h1, h2⟩, _⟩ := BayR.open hw
  rw [h1, List.length_map]; exact h2

/-- One slot's resources to the front, and back. -/
theorem slotOut {W : World} (l1 l2 : List SlotP) (s : SlotP) (R : List SProp) : Ent W ((l1 ++ s :: l2).map slotRes ++ R) (devRes s.in_ :: devRes s.aside :: devRes s.coming :: ((l1 ++ l2).map slotRes ++ R)) := fun w hw => by
  have p : ((l1 ++ s :: l2).map slotRes ++ R).Perm (slotRes s :: ((l1 ++ l2).map slotRes ++ R)) := by
    simp only [List.map_append, List.map_cons, List.append_assoc, List.cons_append]
    exact List.perm_middle
  exact (hw.perm p).join
theorem slotIn {W : World} (l1 l2 : List SlotP) (s : SlotP) (R : List SProp) : Ent W (devRes s.in_ :: devRes s.aside :: devRes s.coming :: ((l1 ++ l2).map slotRes ++ R)) ((l1 ++ s :: l2).map slotRes ++ R) := fun w hw => by
  have p : (slotRes s :: ((l1 ++ l2).map slotRes ++ R)).Perm ((l1 ++ s :: l2).map slotRes ++ R) := by
    simp only [List.map_append, List.map_cons, List.append_assoc, List.cons_append]
    exact List.perm_middle.symm
  exact (Holds.nest (L := [_, _, _]) hw).perm p
theorem devOut {W : World} (p : DevP) (R : List SProp) : Ent W (devRes (some p) :: R) (devRow p :: DiskR p.d p.v.k :: R) := fun w hw => Holds.join (L := [_, _]) hw
theorem devIn {W : World} (p : DevP) (R : List SProp) : Ent W (devRow p :: DiskR p.d p.v.k :: R) (devRes (some p) :: R) := fun w hw => Holds.nest (L := [_, _]) hw
theorem devNone {W : World} (R : List SProp) : Ent W R (devRes none :: R) := fun w hw => hw.factShut trivial
/-! ### Where a slot lies, what is in it -/

def inRange (n : Nat) (k : Int) : Bool := decide (0 ≤ k ∧ k < (n : Int))
def slotAt (a : Addr) (n : Nat) (k : Int) : Option Addr := if inRange n k then some (a.add (k.toNat * 3)) else none
def inP (sp : List SlotP) (k : Int) : Option DevP := if 0 ≤ k then (sp[k.toNat]?).bind SlotP.in_ else none
def BayD.dev (D : BayD) (k : Int) : Option DevD := if 0 ≤ k then (D.slots[k.toNat]?).bind SlotD.in_ else none
theorem inP_D {D : BayD} {sp : List SlotP} (h : D.slots = sp.map SlotP.D) (k : Int) : D.dev k = (inP sp k).map DevP.v := by
  unfold BayD.dev inP
  split
  · rw [h, List.getElem?_map]
    cases sp[k.toNat]? with
    | none => rfl
    | some s => rfl
  · rfl
theorem inP_range {sp : List SlotP} {k : Int} (h : inRange sp.length k = false) : inP sp k = none := by
  unfold inRange at h
  have h := of_decide_eq_false h
  unfold inP
  split
  · rw [List.getElem?_eq_none (by omega)]; rfl
  · rfl

theorem bayat_ok {W : World} {R : List SProp} {D : BayD} {a : Addr} {n : Nat} (b : Nat) (k : Int) (hn : n ≤ 17) :
    Does1 W Tryz.prog 43 [.pointer (some ⟨b, 0, none⟩), .int .i64 k] (bayRow b D a n :: R) (.pointer (slotAt a n k)) (bayRow b D a n :: R) := by
  (refine Does.enter Tryz.func43 Tryz.ntmps43 rfl rfl ?_)
  (refine w ?_; repeat ((first | refine VO.step rfl rfl ?_ | refine VD.end rfl rfl rfl ?_ | refine VD.mid rfl rfl rfl ?_); refine OpV.box rfl rfl rfl ?_; intro _; refine w ?_))
  ((first | refine VO.split rfl rfl rfl ?_ ?_ | refine VD.split rfl rfl rfl ?_ ?_) <;> intro hb)
  · have h : k < 0 := of_decide_eq_true hb
    (refine w ?_; repeat ((first | refine VO.step rfl rfl ?_ | refine VD.end rfl rfl rfl ?_ | refine VD.mid rfl rfl rfl ?_); refine OpV.box rfl rfl rfl ?_; intro _; refine w ?_))
    (refine VE.done1 rfl ?_ ?_)
    · unfold slotAt inRange; rw [if_neg (by simp; omega)]
    · exact Ent.refl
  have h0 : ¬ k < 0 := of_decide_eq_false hb
  (refine w ?_; repeat ((first | refine VO.step rfl rfl ?_ | refine VD.end rfl rfl rfl ?_ | refine VD.mid rfl rfl rfl ?_); refine OpV.box rfl rfl rfl ?_; intro _; refine w ?_))
  (refine VC.cond rfl rfl ?_ ?_ <;> intro hc)
  · have h : (n : Int) ≤ k := by simpa using hc
    (refine w ?_; repeat ((first | refine VO.step rfl rfl ?_ | refine VD.end rfl rfl rfl ?_ | refine VD.mid rfl rfl rfl ?_); refine OpV.box rfl rfl rfl ?_; intro _; refine w ?_))
    (refine VE.done1 rfl ?_ ?_)
    · unfold slotAt inRange; rw [if_neg (by simp; omega)]
    · exact Ent.refl
  have h1 : ¬ (n : Int) ≤ k := by simpa using hc
  obtain ⟨i, rfl⟩ := Int.eq_ofNat_of_zero_le (show 0 ≤ k by omega)
  (refine w ?_; repeat ((first | refine VO.step rfl rfl ?_ | refine VD.end rfl rfl rfl ?_ | refine VD.mid rfl rfl rfl ?_); refine OpV.box rfl rfl rfl ?_; intro _; refine w ?_))
  (refine VE.done1 rfl ?_ ?_)
  · unfold slotAt inRange; rw [if_pos (by simp; omega)]; rfl
  · exact Ent.refl

theorem slots_rds {W : World} {H : List SProp} {a : Addr} {sp : List SlotP} (m : slotsOwn a sp ∈ H) : Rds W H 3 (some a) sp.length (sp.flatMap slotCells) :=
  Rds.own (slotCells_one _) m (flat_length _ fun _ _ => rfl) (fun h => by cases h)
theorem slots_get (sp : List SlotP) (i j : Nat) (h : i < sp.length) (hj : j < 3) : (sp.flatMap slotCells)[i * 3 + j]? = (slotCells sp[i])[j]? := by
  rw [← flat_part (g := slotCells) (w := 3) sp i h (fun _ _ => rfl), List.getElem?_take, if_pos hj, List.getElem?_drop]

theorem inP_at {sp : List SlotP} {i : Nat} (h : i < sp.length) : inP sp (i : Int) = sp[i].in_ := by
  unfold inP
  rw [if_pos (by omega), Int.toNat_natCast, List.getElem?_eq_getElem h]; rfl
theorem bayin_ok {W : World} {R : List SProp} {D : BayD} {a : Addr} {sp : List SlotP} (b : Nat) (k : Int) (hn : sp.length ≤ 17) :
    Does1 W Tryz.prog 55 [.pointer (some ⟨b, 0, none⟩), .int .i64 k] (bayRow b D a sp.length :: slotsOwn a sp :: R) (devPtr (inP sp k)) (bayRow b D a sp.length :: slotsOwn a sp :: R) := by
  (refine Does.enter Tryz.func55 Tryz.ntmps55 rfl rfl ?_)
  (refine w ?_; repeat ((first | refine VO.step rfl rfl ?_ | refine VD.end rfl rfl rfl ?_ | refine VD.mid rfl rfl rfl ?_); refine OpV.box rfl rfl rfl ?_; intro _; refine w ?_))
  (((first | refine VO.step rfl rfl ?_ | refine VD.end rfl rfl rfl ?_ | refine VD.mid rfl rfl rfl ?_); refine OpV.call rfl rfl (fun _ _ => by simp) (bayat_ok (D := D) (a := a) (n := sp.length) b k hn) Ent.re rfl ?_); intro _ _)
  (refine w ?_; repeat ((first | refine VO.step rfl rfl ?_ | refine VD.end rfl rfl rfl ?_ | refine VD.mid rfl rfl rfl ?_); refine OpV.box rfl rfl rfl ?_; intro _; refine w ?_))
  unfold slotAt
  cases hr : inRange sp.length k
  · (refine w ?_; repeat ((first | refine VO.step rfl rfl ?_ | refine VD.end rfl rfl rfl ?_ | refine VD.mid rfl rfl rfl ?_); refine OpV.box rfl rfl rfl ?_; intro _; refine w ?_))
    (refine VE.done1 rfl ?_ ?_)
    · rw [inP_range hr]; rfl
    · exact Ent.refl
  · obtain ⟨h0, h1⟩ : 0 ≤ k ∧ k < (sp.length : Int) := of_decide_eq_true hr
    obtain ⟨i, rfl⟩ := Int.eq_ofNat_of_zero_le h0
    have hi : i < sp.length := by omega
    (refine w ?_; repeat ((first | refine VO.step rfl rfl ?_ | refine VD.end rfl rfl rfl ?_ | refine VD.mid rfl rfl rfl ?_); refine OpV.box rfl rfl rfl ?_; intro _; refine w ?_))
    (first | refine VO.pure rfl rfl (.ldRc tab_ok rfl rfl (slots_rds (by (focus repeat first | exact .head _ | apply List.Mem.tail))) ((slots_get sp i 0 hi (by decide)).trans rfl)) rfl ?_ | refine VD.take rfl rfl rfl (.ldRc tab_ok rfl rfl (slots_rds (by (focus repeat first | exact .head _ | apply List.Mem.tail))) ((slots_get sp i 0 hi (by decide)).trans rfl)) rfl ?_ | refine VQ.pure rfl rfl (.ldRc tab_ok rfl rfl (slots_rds (by (focus repeat first | exact .head _ | apply List.Mem.tail))) ((slots_get sp i 0 hi (by decide)).trans rfl)) rfl ?_ | refine VD.end rfl rfl rfl (OpV.pure (.ldRc tab_ok rfl rfl (slots_rds (by (focus repeat first | exact .head _ | apply List.Mem.tail))) ((slots_get sp i 0 hi (by decide)).trans rfl)) rfl ?_))
    (refine w ?_; repeat ((first | refine VO.step rfl rfl ?_ | refine VD.end rfl rfl rfl ?_ | refine VD.mid rfl rfl rfl ?_); refine OpV.box rfl rfl rfl ?_; intro _; refine w ?_))
    (refine VE.done1 rfl ?_ ?_)
    · rw [inP_at hi]
    · exact Ent.refl

def thereE (n : Nat) (p : Bool) (k : Int) : Int := if inRange n k then (if p then 0 else 51) else 1
theorem baythere_ok {W : World} {R : List SProp} {D : BayD} {a : Addr} {sp : List SlotP} (b : Nat) (k : Int) (hn : sp.length ≤ 17) :
    Does1 W Tryz.prog 38 [.pointer (some ⟨b, 0, none⟩), .int .i64 k] (bayRow b D a sp.length :: slotsOwn a sp :: R) (.tuple #[devPtr (inP sp k), .int .u16 (thereE sp.length (inP sp k).isSome k)]) (bayRow b D a sp.length :: slotsOwn a sp :: R) := by
  (refine Does.enter Tryz.func38 Tryz.ntmps38 rfl rfl ?_)
  (refine w ?_; repeat ((first | refine VO.step rfl rfl ?_ | refine VD.end rfl rfl rfl ?_ | refine VD.mid rfl rfl rfl ?_); refine OpV.box rfl rfl rfl ?_; intro _; refine w ?_))
  (((first | refine VO.step rfl rfl ?_ | refine VD.end rfl rfl rfl ?_ | refine VD.mid rfl rfl rfl ?_); refine OpV.call rfl rfl (fun _ _ => by simp) (bayin_ok (D := D) (a := a) (sp := sp) b k hn) Ent.re rfl ?_); intro _ _)
  (refine w ?_; repeat ((first | refine VO.step rfl rfl ?_ | refine VD.end rfl rfl rfl ?_ | refine VD.mid rfl rfl rfl ?_); refine OpV.box rfl rfl rfl ?_; intro _; refine w ?_))
  (((first | refine VO.step rfl rfl ?_ | refine VD.end rfl rfl rfl ?_ | refine VD.mid rfl rfl rfl ?_); refine OpV.call rfl rfl (fun _ _ => by simp) (bayat_ok (D := D) (a := a) (n := sp.length) b k hn) Ent.re rfl ?_); intro _ _)
  (refine w ?_; repeat ((first | refine VO.step rfl rfl ?_ | refine VD.end rfl rfl rfl ?_ | refine VD.mid rfl rfl rfl ?_); refine OpV.box rfl rfl rfl ?_; intro _; refine w ?_))
  unfold slotAt thereE
  cases hr : inRange sp.length k
  · (refine w ?_; repeat ((first | refine VO.step rfl rfl ?_ | refine VD.end rfl rfl rfl ?_ | refine VD.mid rfl rfl rfl ?_); refine OpV.box rfl rfl rfl ?_; intro _; refine w ?_))
    (refine VE.done1 rfl ?_ ?_)
    · rw [inP_range hr]; rfl
    · exact Ent.refl
  · (refine w ?_; repeat ((first | refine VO.step rfl rfl ?_ | refine VD.end rfl rfl rfl ?_ | refine VD.mid rfl rfl rfl ?_); refine OpV.box rfl rfl rfl ?_; intro _; refine w ?_))
    cases hp : inP sp k
    · (refine w ?_; repeat ((first | refine VO.step rfl rfl ?_ | refine VD.end rfl rfl rfl ?_ | refine VD.mid rfl rfl rfl ?_); refine OpV.box rfl rfl rfl ?_; intro _; refine w ?_))
      (refine VE.done1 rfl ?_ ?_)
      · rfl
      · exact Ent.refl
    · (refine w ?_; repeat ((first | refine VO.step rfl rfl ?_ | refine VD.end rfl rfl rfl ?_ | refine VD.mid rfl rfl rfl ?_); refine OpV.box rfl rfl rfl ?_; intro _; refine w ?_))
      (refine VE.done1 rfl ?_ ?_)
      · rfl
      · exact Ent.refl

/-! ### The disk in a slot, taken out and put back -/

theorem inP_split {sp : List SlotP} {k : Int} {p : DevP} (h : inP sp k = some p) : ∃ (l1 : List SlotP) (s : SlotP) (l2 : List SlotP), sp = l1 ++ s :: l2 ∧ k = (l1.length : Int) ∧ s.in_ = some p := by
  unfold inP at h
  split at h
  · rename_i h0
    obtain ⟨i, rfl⟩ := Int.eq_ofNat_of_zero_le h0
    rw [Int.toNat_natCast] at h
    cases hg : sp[i]? with
    | none => rw [hg] at h; cases h
    | some s =>
      rw [hg] at h
      obtain ⟨hi, e⟩ := List.getElem?_eq_some_iff.1 hg
      refine ⟨sp.take i, s, sp.drop (i + 1), ?_, by rw [List.length_take, Nat.min_eq_left (by omega)], h⟩
      rw [← e, ← List.drop_eq_getElem_cons hi, List.take_append_drop]
  · cases h
/-- What stands behind one slot's disk. -/
abbrev BayX (b : Nat) (D : BayD) (a : Addr) (l1 : List SlotP) (s : SlotP) (l2 : List SlotP) (R : List SProp) : List SProp :=
  devRes s.aside :: devRes s.coming :: bayRow b D a (l1 ++ s :: l2).length :: slotsOwn a (l1 ++ s :: l2) :: ((l1 ++ l2).map slotRes ++ R)
theorem bayOut {W : World} {b : Nat} {D : BayD} {a : Addr} {l1 l2 : List SlotP} {s : SlotP} {R : List SProp} : Ent W (BayO b D a (l1 ++ s :: l2) R) (devRes s.in_ :: BayX b D a l1 s l2 R) := fun w hw => by
  have p1 : (BayO b D a (l1 ++ s :: l2) R).Perm ((l1 ++ s :: l2).map slotRes ++ (bayRow b D a (l1 ++ s :: l2).length :: slotsOwn a (l1 ++ s :: l2) :: R)) := by
    refine List.Perm.trans ?_ List.perm_middle.symm
    exact List.Perm.cons _ List.perm_middle.symm
  have h := slotOut l1 l2 s _ w (hw.perm p1)
  refine h.perm (List.Perm.cons _ (List.Perm.cons _ (List.Perm.cons _ ?_)))
  refine List.Perm.trans List.perm_middle ?_
  exact List.Perm.cons _ List.perm_middle
theorem bayIn {W : World} {b : Nat} {D : BayD} {a : Addr} {l1 l2 : List SlotP} {s : SlotP} {R : List SProp} : Ent W (devRes s.in_ :: BayX b D a l1 s l2 R) (BayO b D a (l1 ++ s :: l2) R) := fun w hw => by
  have p1 : (BayO b D a (l1 ++ s :: l2) R).Perm ((l1 ++ s :: l2).map slotRes ++ (bayRow b D a (l1 ++ s :: l2).length :: slotsOwn a (l1 ++ s :: l2) :: R)) := by
    refine List.Perm.trans ?_ List.perm_middle.symm
    exact List.Perm.cons _ List.perm_middle.symm
  have p2 : (devRes s.in_ :: devRes s.aside :: devRes s.coming :: ((l1 ++ l2).map slotRes ++ (bayRow b D a (l1 ++ s :: l2).length :: slotsOwn a (l1 ++ s :: l2) :: R))).Perm (devRes s.in_ :: BayX b D a l1 s l2 R) := by
    refine List.Perm.cons _ (List.Perm.cons _ (List.Perm.cons _ ?_))
    refine List.Perm.trans List.perm_middle ?_
    exact List.Perm.cons _ List.perm_middle
  exact (slotIn l1 l2 s _ w (hw.perm p2.symm)).perm p1.symm
theorem bayOutP {W : World} {b : Nat} {D : BayD} {a : Addr} {l1 l2 : List SlotP} {s : SlotP} {R : List SProp} {p : DevP} (hs : s.in_ = some p) : Ent W (BayO b D a (l1 ++ s :: l2) R) (devRow p :: DiskR p.d p.v.k :: BayX b D a l1 s l2 R) := fun w hw => by
  have h := bayOut w hw
  rw [hs] at h
  exact devOut p _ w h
/-- The disk has turned, in its place. -/
theorem bayInP {W : World} {b : Nat} {D D' : BayD} {a : Addr} {l1 l2 : List SlotP} {s : SlotP} {R : List SProp} {p : DevP} (hs : s.in_ = some p) (v : DevD) (h1 : D'.slots = (l1 ++ { s with in_ := some ⟨p.r, p.d, v⟩ } :: l2).map SlotP.D) (h2 : (l1 ++ s :: l2).length ≤ 17) :
    Ent W (devRow ⟨p.r, p.d, v⟩ :: DiskR p.d v.k :: BayX b D' a l1 s l2 R) (BayR b D' :: R) := fun w hw => by
  have e1 : (l1 ++ { s with in_ := some ⟨p.r, p.d, v⟩ } :: l2).length = (l1 ++ s :: l2).length := by simp
  have e2 : slotsOwn a (l1 ++ { s with in_ := some ⟨p.r, p.d, v⟩ } :: l2) = slotsOwn a (l1 ++ s :: l2) := by
    unfold slotsOwn
    rw [e1]
    congr 1
    simp only [List.flatMap_append, List.flatMap_cons]
    congr 2
    simp [slotCells, devPtr, hs]
  refine BayR.shut (a := a) h1 (by rw [e1]; exact h2) w ?_
  refine bayIn w ?_
  refine devIn ⟨p.r, p.d, v⟩ _ w ?_
  simp only [BayX, e1, e2]
  exact hw
theorem bayInC {W : World} {b : Nat} {D D' : BayD} {a : Addr} {l1 l2 : List SlotP} {s : SlotP} {R : List SProp} {p : DevP} (P : SProp) (hs : s.in_ = some p) (v : DevD) (h1 : D'.slots = (l1 ++ { s with in_ := some ⟨p.r, p.d, v⟩ } :: l2).map SlotP.D) (h2 : (l1 ++ s :: l2).length ≤ 17) :
    Ent W (P :: devRow ⟨p.r, p.d, v⟩ :: DiskR p.d v.k :: BayX b D' a l1 s l2 R) (P :: BayR b D' :: R) :=
  Ent.ctx (X := [P]) (L := devRow ⟨p.r, p.d, v⟩ :: DiskR p.d v.k :: devRes s.aside :: devRes s.coming :: bayRow b D' a (l1 ++ s :: l2).length :: slotsOwn a (l1 ++ s :: l2) :: (l1 ++ l2).map slotRes) (L' := [BayR b D']) (bayInP (D := D) hs v h1 h2)
def BayD.setIn (D : BayD) (i : Nat) (v : DevD) : BayD := { D with slots := D.slots.set i { (D.slots[i]?.getD ⟨none, none, none⟩) with in_ := some v } }
theorem setIn_slots {D : BayD} {l1 l2 : List SlotP} {s : SlotP} {p : DevP} (h : D.slots = (l1 ++ s :: l2).map SlotP.D) (v : DevD) : (D.setIn l1.length v).slots = (l1 ++ { s with in_ := some ⟨p.r, p.d, v⟩ } :: l2).map SlotP.D := by
  unfold BayD.setIn
  simp only [h, List.map_append, List.map_cons]
  rw [List.set_append_right _ _ (by simp), List.getElem?_append_right (by simp)]
  simp [SlotP.D]

/-! ### Calls that only look -/
theorem bayhas_ok {W : World} {R : List SProp} (b : Nat) (D : BayD) (k : Int) :
    Does1 W Tryz.prog 30 [.pointer (some ⟨b, 0, none⟩), .int .i64 k] (BayR b D :: R) (.bool ((D.dev k).any fun v => !v.k.failed)) (BayR b D :: R) := by
  (refine Does.enter Tryz.func30 Tryz.ntmps30 rfl rfl ?_)
  refine VC.obtain (fun w => BayR.open) ?_
  rintro ⟨⟨a, sp⟩, h1, h2⟩
  dsimp only at h1 h2 ⊢
  (refine w ?_; repeat ((first | refine VO.step rfl rfl ?_ | refine VD.end rfl rfl rfl ?_ | refine VD.mid rfl rfl rfl ?_); refine OpV.box rfl rfl rfl ?_; intro _; refine w ?_))
  (((first | refine VO.step rfl rfl ?_ | refine VD.end rfl rfl rfl ?_ | refine VD.mid rfl rfl rfl ?_); refine OpV.call rfl rfl (fun _ _ => by simp) (bayin_ok (D := D) (a := a) (sp := sp) b k h2) Ent.re rfl ?_); intro _ _)
  (refine w ?_; repeat ((first | refine VO.step rfl rfl ?_ | refine VD.end rfl rfl rfl ?_ | refine VD.mid rfl rfl rfl ?_); refine OpV.box rfl rfl rfl ?_; intro _; refine w ?_))
  rw [inP_D h1]
  cases hp : inP sp k with
  | none =>
    (refine w ?_; repeat ((first | refine VO.step rfl rfl ?_ | refine VD.end rfl rfl rfl ?_ | refine VD.mid rfl rfl rfl ?_); refine OpV.box rfl rfl rfl ?_; intro _; refine w ?_))
    (refine VE.done1 rfl ?_ ?_)
    · rfl
    · exact BayR.shut h1 h2
  | some p =>
    obtain ⟨l1, s, l2, rfl, rfl, hs⟩ := inP_split hp
    dsimp only [devPtr, Option.map_some, Option.isNone_some, Bool.not_false]
    refine VO.ent (bayOutP hs) ?_
    (refine w ?_; repeat ((first | refine VO.step rfl rfl ?_ | refine VD.end rfl rfl rfl ?_ | refine VD.mid rfl rfl rfl ?_); refine OpV.box rfl rfl rfl ?_; intro _; refine w ?_))
    (((first | refine VO.step rfl rfl ?_ | refine VD.end rfl rfl rfl ?_ | refine VD.mid rfl rfl rfl ?_); refine OpV.call rfl rfl (fun _ _ => by simp) (failed_ok p.d p.v.k) Ent.re rfl ?_); intro _ _)
    (refine w ?_; repeat ((first | refine VO.step rfl rfl ?_ | refine VD.end rfl rfl rfl ?_ | refine VD.mid rfl rfl rfl ?_); refine OpV.box rfl rfl rfl ?_; intro _; refine w ?_))
    (refine VE.done1 rfl ?_ ?_)
    · rfl
    · refine Ent.trans Ent.re (bayInP (D := D) (p := p) hs p.v ?_ h2)
      rw [h1]; simp [SlotP.D, hs]
theorem baysectors_ok {W : World} {R : List SProp} (b : Nat) (D : BayD) (k : Int) :
    Does1 W Tryz.prog 31 [.pointer (some ⟨b, 0, none⟩), .int .i64 k] (BayR b D :: R) (.int .i64 ((D.dev k).elim 0 fun v => v.k.last.length)) (BayR b D :: R) := by
  (refine Does.enter Tryz.func31 Tryz.ntmps31 rfl rfl ?_)
  refine VC.obtain (fun w => BayR.open) ?_
  rintro ⟨⟨a, sp⟩, h1, h2⟩
  dsimp only at h1 h2 ⊢
  (refine w ?_; repeat ((first | refine VO.step rfl rfl ?_ | refine VD.end rfl rfl rfl ?_ | refine VD.mid rfl rfl rfl ?_); refine OpV.box rfl rfl rfl ?_; intro _; refine w ?_))
  (((first | refine VO.step rfl rfl ?_ | refine VD.end rfl rfl rfl ?_ | refine VD.mid rfl rfl rfl ?_); refine OpV.call rfl rfl (fun _ _ => by simp) (bayin_ok (D := D) (a := a) (sp := sp) b k h2) Ent.re rfl ?_); intro _ _)
  rw [inP_D h1]
  cases hp : inP sp k with
  | none =>
    dsimp only [devPtr, Option.map_none]
    (refine w ?_; repeat ((first | refine VO.step rfl rfl ?_ | refine VD.end rfl rfl rfl ?_ | refine VD.mid rfl rfl rfl ?_); refine OpV.box rfl rfl rfl ?_; intro _; refine w ?_))
    (refine VE.done1 rfl ?_ ?_)
    · rfl
    · exact BayR.shut h1 h2
  | some p =>
    obtain ⟨l1, s, l2, rfl, rfl, hs⟩ := inP_split hp
    dsimp only [devPtr, Option.map_some, Option.isNone_some, Bool.not_false]
    (refine w ?_; repeat ((first | refine VO.step rfl rfl ?_ | refine VD.end rfl rfl rfl ?_ | refine VD.mid rfl rfl rfl ?_); refine OpV.box rfl rfl rfl ?_; intro _; refine w ?_))
    refine VO.ent (bayOutP hs) ?_
    (refine w ?_; repeat ((first | refine VO.step rfl rfl ?_ | refine VD.end rfl rfl rfl ?_ | refine VD.mid rfl rfl rfl ?_); refine OpV.box rfl rfl rfl ?_; intro _; refine w ?_))
    (((first | refine VO.step rfl rfl ?_ | refine VD.end rfl rfl rfl ?_ | refine VD.mid rfl rfl rfl ?_); refine OpV.call rfl rfl (fun _ _ => by simp) (dsectors_ok p.d p.v.k) Ent.re rfl ?_); intro _ _)
    (refine w ?_; repeat ((first | refine VO.step rfl rfl ?_ | refine VD.end rfl rfl rfl ?_ | refine VD.mid rfl rfl rfl ?_); refine OpV.box rfl rfl rfl ?_; intro _; refine w ?_))
    (refine VE.done1 rfl ?_ ?_)
    · rfl
    · refine Ent.trans Ent.re (bayInP (D := D) (p := p) hs p.v ?_ h2)
      rw [h1]; simp [SlotP.D, hs]
def BayD.image (D : BayD) (k : Int) : List UInt8 × Int := match D.dev k with
  | some v => (v.k.img, 0)
  | none => ([], thereE D.slots.length false k)
theorem baypending_ok {W : World} {R : List SProp} (b : Nat) (D : BayD) (k : Int) (hc : ∀ v, D.dev k = some v → v.k.cache.length ≤ 1000000000) :
    Does W Tryz.prog 21 [.pointer (some ⟨b, 0, none⟩), .int .i64 k] (BayR b D :: R) (β := Option Addr × Nat) (fun x => x.1 = none → ((D.dev k).elim [] fun v => v.k.cache.map (·.1)).length = 0) (fun x => .slice x.1 ((D.dev k).elim [] fun v => v.k.cache.map (·.1)).length x.2)
      (fun x => Own 3 1 (.slice x.1 ((D.dev k).elim [] fun v => v.k.cache.map (·.1)).length x.2) ((D.dev k).elim [] fun v => v.k.cache.map (·.1)).length (ints ((D.dev k).elim [] fun v => v.k.cache.map (·.1))) :: BayR b D :: R) := by
  refine DoesA (A := fun _ => True) ?_ (fun x _ w hw => hw.ownNone (.head _))
  (refine Does.enter Tryz.func21 Tryz.ntmps21 rfl rfl ?_)
  refine VC.obtain (fun w => BayR.open) ?_
  rintro ⟨⟨a, sp⟩, h1, h2⟩
  dsimp only at h1 h2 ⊢
  (refine w ?_; repeat ((first | refine VO.step rfl rfl ?_ | refine VD.end rfl rfl rfl ?_ | refine VD.mid rfl rfl rfl ?_); refine OpV.box rfl rfl rfl ?_; intro _; refine w ?_))
  (((first | refine VO.step rfl rfl ?_ | refine VD.end rfl rfl rfl ?_ | refine VD.mid rfl rfl rfl ?_); refine OpV.call rfl rfl (fun _ _ => by simp) (bayin_ok (D := D) (a := a) (sp := sp) b k h2) Ent.re rfl ?_); intro _ _)
  rw [inP_D h1] at hc ⊢
  cases hp : inP sp k with
  | none =>
    dsimp only [devPtr, Option.map_none]
    (refine w ?_; repeat ((first | refine VO.step rfl rfl ?_ | refine VD.end rfl rfl rfl ?_ | refine VD.mid rfl rfl rfl ?_); refine OpV.box rfl rfl rfl ?_; intro _; refine w ?_))
    refine VE.done (none, 0) rfl trivial rfl fun w hw => (BayR.shut h1 h2 w hw).ownNil 3 1
  | some p =>
    obtain ⟨l1, s, l2, rfl, rfl, hs⟩ := inP_split hp
    dsimp only [devPtr, Option.map_some, Option.isNone_some, Bool.not_false]
    (refine w ?_; repeat ((first | refine VO.step rfl rfl ?_ | refine VD.end rfl rfl rfl ?_ | refine VD.mid rfl rfl rfl ?_); refine OpV.box rfl rfl rfl ?_; intro _; refine w ?_))
    refine VO.ent (bayOutP hs) ?_
    (refine w ?_; repeat ((first | refine VO.step rfl rfl ?_ | refine VD.end rfl rfl rfl ?_ | refine VD.mid rfl rfl rfl ?_); refine OpV.box rfl rfl rfl ?_; intro _; refine w ?_))
    ((first | refine VO.step rfl rfl ?_ | refine VD.end rfl rfl rfl ?_ | refine VD.mid rfl rfl rfl ?_); refine OpV.call rfl rfl (fun _ _ => by simp) (pending_ok p.d p.v.k (hc p.v (by rw [hp]; rfl))) Ent.re rfl ?_)
    intro x _
    (refine w ?_; repeat ((first | refine VO.step rfl rfl ?_ | refine VD.end rfl rfl rfl ?_ | refine VD.mid rfl rfl rfl ?_); refine OpV.box rfl rfl rfl ?_; intro _; refine w ?_))
    refine VE.done x rfl trivial (by simp) ?_
    have e : (Option.elim (some p.v) ([] : List Nat) fun v => v.k.cache.map (·.1)).length = p.v.k.cache.length := by simp
    rw [e]
    refine Ent.trans Ent.re (bayInC (D := D) (p := p) _ hs p.v ?_ h2)
    rw [h1]; simp [SlotP.D, hs]
theorem baydark_ok {W : World} {R : List SProp} (b : Nat) (D : BayD) :
    Does1 W Tryz.prog 70 [.pointer (some ⟨b, 0, none⟩)] (BayR b D :: R) (.bool D.dark) (BayR b D :: R) := by
  (refine Does.enter Tryz.func70 Tryz.ntmps70 rfl rfl ?_)
  refine VC.obtain (fun w => BayR.open) ?_
  rintro ⟨⟨a, sp⟩, h1, h2⟩
  dsimp only at h1 h2 ⊢
  (refine w ?_; repeat ((first | refine VO.step rfl rfl ?_ | refine VD.end rfl rfl rfl ?_ | refine VD.mid rfl rfl rfl ?_); refine OpV.box rfl rfl rfl ?_; intro _; refine w ?_))
  (refine VE.done1 rfl ?_ ?_)
  · rfl
  · exact BayR.shut h1 h2
abbrev cntV (c : CntD) : Value := .agg #[.int .i64 c.r, .int .i64 c.w, .int .i64 c.f]
theorem baycounts_ok {W : World} {R : List SProp} (b : Nat) (D : BayD) :
    Does1 W Tryz.prog 15 [.pointer (some ⟨b, 0, none⟩)] (BayR b D :: R) (cntV D.n) (BayR b D :: R) := by
  (refine Does.enter Tryz.func15 Tryz.ntmps15 rfl rfl ?_)
  refine VC.obtain (fun w => BayR.open) ?_
  rintro ⟨⟨a, sp⟩, h1, h2⟩
  dsimp only at h1 h2 ⊢
  (refine w ?_; repeat ((first | refine VO.step rfl rfl ?_ | refine VD.end rfl rfl rfl ?_ | refine VD.mid rfl rfl rfl ?_); refine OpV.box rfl rfl rfl ?_; intro _; refine w ?_))
  ((first | refine VO.step rfl rfl ?_ | refine VD.end rfl rfl rfl ?_ | refine VD.mid rfl rfl rfl ?_); refine OpV.allocS sb_39 rfl ?_; intro na)
  (refine w ?_; repeat ((first | refine VO.step rfl rfl ?_ | refine VD.end rfl rfl rfl ?_ | refine VD.mid rfl rfl rfl ?_); refine OpV.box rfl rfl rfl ?_; intro _; refine w ?_))
  (first | refine VO.step rfl rfl ?_ | refine VD.end rfl rfl rfl ?_ | refine VD.mid rfl rfl rfl ?_)
  refine OpV.stA (vs := [.int .i64 D.n.r, .int .i64 D.n.w, .int .i64 D.n.f]) tab_ok rfl rfl rfl rfl (by simp [Value.oneCell']) (by (repeat first | exact .head | apply Hole.tail)) (by simp) ?_
  (refine w ?_; repeat ((first | refine VO.step rfl rfl ?_ | refine VD.end rfl rfl rfl ?_ | refine VD.mid rfl rfl rfl ?_); refine OpV.box rfl rfl rfl ?_; intro _; refine w ?_))
  refine VE.results1 (.inl rfl) () rfl (ResIs.agg (vs := [.int .i64 D.n.r, .int .i64 D.n.w, .int .i64 D.n.f]) tab_ok rfl rfl (.head _) rfl rfl) trivial rfl ?_
  exact Ent.drop (BayR.shut h1 h2)
theorem bayimage_ok {W : World} {R : List SProp} (b : Nat) (D : BayD) (k : Int) :
    Does W Tryz.prog 49 [.pointer (some ⟨b, 0, none⟩), .int .i64 k] (BayR b D :: R) (β := Option Addr × Nat) (fun x => x.1 = none → (D.image k).1.length = 0) (fun x => .tuple #[sliceB x (D.image k).1, .int .u16 (D.image k).2]) (fun x => OwnB x (D.image k).1 :: BayR b D :: R) := by
  refine DoesA (A := fun _ => True) ?_ (fun x _ w hw => hw.ownNone (.head _))
  (refine Does.enter Tryz.func49 Tryz.ntmps49 rfl rfl ?_)
  refine VC.obtain (fun w => BayR.open) ?_
  rintro ⟨⟨a, sp⟩, h1, h2⟩
  dsimp only at h1 h2 ⊢
  (refine w ?_; repeat ((first | refine VO.step rfl rfl ?_ | refine VD.end rfl rfl rfl ?_ | refine VD.mid rfl rfl rfl ?_); refine OpV.box rfl rfl rfl ?_; intro _; refine w ?_))
  (((first | refine VO.step rfl rfl ?_ | refine VD.end rfl rfl rfl ?_ | refine VD.mid rfl rfl rfl ?_); refine OpV.call rfl rfl (fun _ _ => by simp) (baythere_ok (D := D) (a := a) (sp := sp) b k h2) Ent.re rfl ?_); intro _ _)
  unfold BayD.image
  rw [inP_D h1, show D.slots.length = sp.length by rw [h1, List.length_map]]
  cases hp : inP sp k with
  | none =>
    dsimp only [devPtr, Option.map_none, Option.isSome_none]
    (refine w ?_; repeat ((first | refine VO.step rfl rfl ?_ | refine VD.end rfl rfl rfl ?_ | refine VD.mid rfl rfl rfl ?_); refine OpV.box rfl rfl rfl ?_; intro _; refine w ?_))
    have he : thereE sp.length false k ≠ 0 := by unfold thereE; split <;> simp
    (refine VC.condTe rfl rfl (by simpa using he) ?_)
    (refine w ?_; repeat ((first | refine VO.step rfl rfl ?_ | refine VD.end rfl rfl rfl ?_ | refine VD.mid rfl rfl rfl ?_); refine OpV.box rfl rfl rfl ?_; intro _; refine w ?_))
    refine VE.done (none, 0) rfl trivial rfl fun w hw => (BayR.shut h1 h2 w hw).ownNil 5 1
  | some p =>
    obtain ⟨l1, s, l2, rfl, rfl, hs⟩ := inP_split hp
    dsimp only [devPtr, Option.map_some, Option.isSome_some]
    have he : thereE (l1 ++ s :: l2).length true (l1.length : Int) = 0 := by unfold thereE inRange; rw [if_pos (by simp; omega)]; rfl
    rw [he]
    (refine w ?_; repeat ((first | refine VO.step rfl rfl ?_ | refine VD.end rfl rfl rfl ?_ | refine VD.mid rfl rfl rfl ?_); refine OpV.box rfl rfl rfl ?_; intro _; refine w ?_))
    refine VO.ent (bayOutP hs) ?_
    (refine w ?_; repeat ((first | refine VO.step rfl rfl ?_ | refine VD.end rfl rfl rfl ?_ | refine VD.mid rfl rfl rfl ?_); refine OpV.box rfl rfl rfl ?_; intro _; refine w ?_))
    ((first | refine VO.step rfl rfl ?_ | refine VD.end rfl rfl rfl ?_ | refine VD.mid rfl rfl rfl ?_); refine OpV.call rfl rfl (fun _ _ => by simp) (dimg_ok p.d p.v.k) Ent.re rfl ?_)
    intro x _
    (refine w ?_; repeat ((first | refine VO.step rfl rfl ?_ | refine VD.end rfl rfl rfl ?_ | refine VD.mid rfl rfl rfl ?_); refine OpV.box rfl rfl rfl ?_; intro _; refine w ?_))
    refine VE.done x rfl trivial rfl ?_
    refine Ent.trans Ent.re (bayInC (D := D) (p := p) _ hs p.v ?_ h2)
    rw [h1]; simp [SlotP.D, hs]
end Go.Proofs.YtpmmkmcbimnigaaGreat

/-! Text Bc. -/
/- Package bay: operations. -/
set_option maxRecDepth 8000
set_option linter.unusedVariables false
set_option linter.unusedSimpArgs false
set_option linter.unusedSectionVars false
namespace Go.Proofs.YtpmmkmcbimnigaaGreat
open Go.RowKit Go.Sl
attribute [local irreducible] Own

def DevD.use (v : DevD) : DevD := if v.worn = false then v else if v.left = 0 then ⟨v.k.fail, false, v.left⟩ else ⟨v.k, v.worn, IntKind.i64.wrap (v.left - 1)⟩
abbrev devCells (d : Nat) (v : DevD) : List Value := [.pointer (some ⟨d, 0, none⟩), .bool v.worn, .int .i64 v.left]
theorem use_ok {W : World} {R : List SProp} (r d : Nat) (v : DevD) :
    Does1 W Tryz.prog 87 [.pointer (some ⟨r, 0, none⟩)] (Row r 76 (devCells d v) :: DiskR d v.k :: R) (.tuple #[]) (Row r 76 (devCells d v.use) :: DiskR d v.use.k :: R) := by
  (refine Does.enter Tryz.func87 Tryz.ntmps87 rfl rfl ?_)
  unfold DevD.use
  (refine w ?_; repeat ((first | refine VO.step rfl rfl ?_ | refine VD.end rfl rfl rfl ?_ | refine VD.mid rfl rfl rfl ?_); refine OpV.box rfl rfl rfl ?_; intro _; refine w ?_))
  (refine VC.cond rfl rfl ?_ ?_ <;> intro hc)
  · have hw : v.worn = false := by simpa using hc
    (refine w ?_; repeat ((first | refine VO.step rfl rfl ?_ | refine VD.end rfl rfl rfl ?_ | refine VD.mid rfl rfl rfl ?_); refine OpV.box rfl rfl rfl ?_; intro _; refine w ?_))
    (refine VE.done1N rfl ?_ ?_)
    · rfl
    · rw [if_pos hw]; exact Ent.refl
  · have hw : v.worn ≠ false := by simpa using hc
    rw [if_neg hw]
    (refine w ?_; repeat ((first | refine VO.step rfl rfl ?_ | refine VD.end rfl rfl rfl ?_ | refine VD.mid rfl rfl rfl ?_); refine OpV.box rfl rfl rfl ?_; intro _; refine w ?_))
    (refine VC.cond rfl rfl ?_ ?_ <;> intro hc)
    · have h0 : v.left = 0 := by simpa using hc
      (refine w ?_; repeat ((first | refine VO.step rfl rfl ?_ | refine VD.end rfl rfl rfl ?_ | refine VD.mid rfl rfl rfl ?_); refine OpV.box rfl rfl rfl ?_; intro _; refine w ?_))
      (((first | refine VO.step rfl rfl ?_ | refine VD.end rfl rfl rfl ?_ | refine VD.mid rfl rfl rfl ?_); refine OpV.call rfl rfl (fun _ _ => by simp) (fail_ok d v.k) Ent.re rfl ?_); intro _ _)
      (refine w ?_; repeat ((first | refine VO.step rfl rfl ?_ | refine VD.end rfl rfl rfl ?_ | refine VD.mid rfl rfl rfl ?_); refine OpV.box rfl rfl rfl ?_; intro _; refine w ?_))
      (refine VE.done1N rfl ?_ ?_)
      · rfl
      · rw [if_pos h0]; exact Ent.re
    · have h0 : ¬ v.left = 0 := by simpa using hc
      (refine w ?_; repeat ((first | refine VO.step rfl rfl ?_ | refine VD.end rfl rfl rfl ?_ | refine VD.mid rfl rfl rfl ?_); refine OpV.box rfl rfl rfl ?_; intro _; refine w ?_))
      (refine VE.done1N rfl ?_ ?_)
      · rfl
      · rw [if_neg h0]; exact Ent.re

def BayD.pow (D : BayD) : BayD := if D.trip = 0 then { D with dark := true, trip := -1 } else D
def CntD.inc (c : CntD) : Nat → CntD
  | 0 => { c with r := IntKind.i64.wrap (c.r + 1) }
  | 1 => { c with w := IntKind.i64.wrap (c.w + 1) }
  | _ => { c with f := IntKind.i64.wrap (c.f + 1) }
def BayD.less (D : BayD) : BayD := { D with trip := if 0 < D.trip then IntKind.i64.wrap (D.trip - 1) else D.trip }
def BayD.step (D : BayD) (j : Nat) : BayD := { D with trip := if 0 < D.trip then IntKind.i64.wrap (D.trip - 1) else D.trip, n := D.n.inc j }
/-- Why an operation is not done; 0: it is. -/
def BayD.refuse (D : BayD) (k : Int) : Int := if inRange D.slots.length k = false then 1 else if D.pow.dark then 50 else thereE D.slots.length (D.dev k).isSome k
def BayD.ahead (D : BayD) (k : Int) (j : Nat) : BayD := if inRange D.slots.length k = false then D else if D.pow.dark then D.pow else D.pow.step j
theorem BayD.pow_slots (D : BayD) : D.pow.slots = D.slots := by unfold BayD.pow; split <;> rfl
theorem BayD.ahead_slots (D : BayD) (k : Int) (j : Nat) : (D.ahead k j).slots = D.slots := by
  unfold BayD.ahead; split
  · rfl
  · split
    · exact D.pow_slots
    · exact D.pow_slots

theorem writes_ok {W : World} {R : List SProp} (b : Nat) : Does1 W Tryz.prog 45 [.pointer (some ⟨b, 3, none⟩)] R (.pointer (some ⟨b, 3 + 1, none⟩)) R := by
  (refine Does.enter Tryz.func45 Tryz.ntmps45 rfl rfl ?_)
  (refine w ?_; repeat ((first | refine VO.step rfl rfl ?_ | refine VD.end rfl rfl rfl ?_ | refine VD.mid rfl rfl rfl ?_); refine OpV.box rfl rfl rfl ?_; intro _; refine w ?_))
  (first | exact VE.done1 rfl rfl Ent.refl | exact VE.done1N rfl rfl Ent.refl)
theorem flushes_ok {W : World} {R : List SProp} (b : Nat) : Does1 W Tryz.prog 33 [.pointer (some ⟨b, 3, none⟩)] R (.pointer (some ⟨b, 3 + 2, none⟩)) R := by
  (refine Does.enter Tryz.func33 Tryz.ntmps33 rfl rfl ?_)
  (refine w ?_; repeat ((first | refine VO.step rfl rfl ?_ | refine VD.end rfl rfl rfl ?_ | refine VD.mid rfl rfl rfl ?_); refine OpV.box rfl rfl rfl ?_; intro _; refine w ?_))
  (first | exact VE.done1 rfl rfl Ent.refl | exact VE.done1N rfl rfl Ent.refl)
def BayD.dv (D : BayD) (k : Int) : DevD := ((D.dev k).getD ⟨⟨[], [], false⟩, false, 0⟩).use
theorem inRange_at {l1 l2 : List SlotP} {s : SlotP} : inRange (l1 ++ s :: l2).length (l1.length : Int) = true := by unfold inRange; simp; omega
set_option maxHeartbeats 1000000 in
/-- An operation with the disk in a slot; none: it is refused. -/
theorem operate_ok {W : World} {R : List SProp} {gd gc : FuncId} {cp : Array Value} {γ : Type} {A : γ → Prop} {res : γ → Value} {G : γ → List SProp} {kf : DiskD → DiskD} (b : Nat) (D : BayD) (k : Int) (j : Nat) (hj : j < 3)
    (hcf : ∀ a w, (callFunc gc a).run Tryz.prog w = .ok (.enter gc a) w) (hdf : ∀ a w, (callFunc gd a).run Tryz.prog w = .ok (.enter gd a) w)
    (hcount : ∀ X : List SProp, Does1 W Tryz.prog gc [.pointer (some ⟨b, 3, none⟩)] X (.pointer (some ⟨b, 3 + j, none⟩)) X)
    (hdo : ∀ (r d : Nat), (D.dev k).isSome = true → D.refuse k = 0 → ∀ X : List SProp, Does W Tryz.prog gd (.pointer (some ⟨r, 0, none⟩) :: cp.toList) (Row r 76 (devCells d (D.dv k)) :: DiskR d (D.dv k).k :: (X ++ R)) A res (fun x => Row r 76 (devCells d (D.dv k)) :: DiskR d (kf (D.dv k).k) :: (X ++ G x))) :
    Does W Tryz.prog 32 [.pointer (some ⟨b, 0, none⟩), .int .i64 k, .func (.func gc) #[] #[], .func (.func gd) #[] cp] (BayR b D :: R) (β := Option γ)
      (fun x => x.elim (D.refuse k ≠ 0) fun y => D.refuse k = 0 ∧ A y) (fun x => x.elim (.int .u16 (D.refuse k)) res)
      (fun x => x.elim (BayR b (D.ahead k j) :: R) fun y => BayR b ((D.ahead k j).setIn k.toNat ⟨kf (D.dv k).k, (D.dv k).worn, (D.dv k).left⟩) :: G y) := by
  (refine Does.enter Tryz.func32 Tryz.ntmps32 rfl rfl ?_)
  refine VC.obtain (fun w => BayR.open) ?_
  rintro ⟨⟨a, sp⟩, h1, h2⟩
  dsimp only at h1 h2 ⊢
  have hl : D.slots.length = sp.length := by rw [h1, List.length_map]
  (refine w ?_; repeat ((first | refine VO.step rfl rfl ?_ | refine VD.end rfl rfl rfl ?_ | refine VD.mid rfl rfl rfl ?_); refine OpV.box rfl rfl rfl ?_; intro _; refine w ?_))
  (((first | refine VO.step rfl rfl ?_ | refine VD.end rfl rfl rfl ?_ | refine VD.mid rfl rfl rfl ?_); refine OpV.call rfl rfl (fun _ _ => by simp) (bayat_ok (D := D) (a := a) (n := sp.length) b k h2) Ent.re rfl ?_); intro _ _)
  unfold slotAt
  cases hin : inRange sp.length k
  · (refine w ?_; repeat ((first | refine VO.step rfl rfl ?_ | refine VD.end rfl rfl rfl ?_ | refine VD.mid rfl rfl rfl ?_); refine OpV.box rfl rfl rfl ?_; intro _; refine w ?_))
    have hr : D.refuse k = 1 := by unfold BayD.refuse; rw [hl, if_pos hin]
    refine VE.done none rfl (by rw [Option.elim_none, hr]; decide) (by rw [Option.elim_none, hr]) ?_
    unfold BayD.ahead; rw [Option.elim_none, hl, if_pos hin]; exact BayR.shut h1 h2
  (refine w ?_; repeat ((first | refine VO.step rfl rfl ?_ | refine VD.end rfl rfl rfl ?_ | refine VD.mid rfl rfl rfl ?_); refine OpV.box rfl rfl rfl ?_; intro _; refine w ?_))
  (first | refine VO.join (α := Unit) (fun _ => True) (fun _ => bayRow b D.pow a sp.length :: slotsOwn a sp :: (sp.map slotRes ++ R)) (fun _ => [(0, .pointer (some ⟨b, 0, none⟩)), (1, .int .i64 k), (2, .func (.func gc) #[] #[]), (3, .func (.func gd) #[] cp)]) ?_ ?_ | refine VC.joinTB (α := Unit) (fun _ => True) (fun _ => bayRow b D.pow a sp.length :: slotsOwn a sp :: (sp.map slotRes ++ R)) (fun _ => [(0, .pointer (some ⟨b, 0, none⟩)), (1, .int .i64 k), (2, .func (.func gc) #[] #[]), (3, .func (.func gd) #[] cp)]) ?_ ?_ | refine VC.joinB (α := Unit) (fun _ => True) (fun _ => bayRow b D.pow a sp.length :: slotsOwn a sp :: (sp.map slotRes ++ R)) (fun _ => [(0, .pointer (some ⟨b, 0, none⟩)), (1, .int .i64 k), (2, .func (.func gc) #[] #[]), (3, .func (.func gd) #[] cp)]) ?_ ?_ | refine VC.join (α := Unit) (fun _ => True) (fun _ => bayRow b D.pow a sp.length :: slotsOwn a sp :: (sp.map slotRes ++ R)) (fun _ => [(0, .pointer (some ⟨b, 0, none⟩)), (1, .int .i64 k), (2, .func (.func gc) #[] #[]), (3, .func (.func gd) #[] cp)]) ?_ ?_)
  · intro Q2 jn
    (refine VC.cond rfl rfl ?_ ?_ <;> intro hc)
    · have h0 : D.trip = 0 := by simpa using hc
      (refine w ?_; repeat ((first | refine VO.step rfl rfl ?_ | refine VD.end rfl rfl rfl ?_ | refine VD.mid rfl rfl rfl ?_); refine OpV.box rfl rfl rfl ?_; intro _; refine w ?_))
      refine jn.to () trivial ⟨rfl, rfl, rfl, rfl, trivial⟩ ?_
      unfold BayD.pow; rw [if_pos h0]; exact Ent.re
    · have h0 : ¬ D.trip = 0 := by simpa using hc
      (refine w ?_; repeat ((first | refine VO.step rfl rfl ?_ | refine VD.end rfl rfl rfl ?_ | refine VD.mid rfl rfl rfl ?_); refine OpV.box rfl rfl rfl ?_; intro _; refine w ?_))
      refine jn.to () trivial ⟨rfl, rfl, rfl, rfl, trivial⟩ ?_
      unfold BayD.pow; rw [if_neg h0]; exact Ent.re
  intro _ _
  (refine w ?_; repeat ((first | refine VO.step rfl rfl ?_ | refine VD.end rfl rfl rfl ?_ | refine VD.mid rfl rfl rfl ?_); refine OpV.box rfl rfl rfl ?_; intro _; refine w ?_))
  have h1p : D.pow.slots = sp.map SlotP.D := by rw [D.pow_slots, h1]
  (refine VC.cond rfl rfl ?_ ?_ <;> intro hc)
  · have hdk : D.pow.dark = true := hc
    (refine w ?_; repeat ((first | refine VO.step rfl rfl ?_ | refine VD.end rfl rfl rfl ?_ | refine VD.mid rfl rfl rfl ?_); refine OpV.box rfl rfl rfl ?_; intro _; refine w ?_))
    have hr : D.refuse k = 50 := by unfold BayD.refuse; rw [hl, if_neg (by simp [hin]), if_pos hdk]
    refine VE.done none rfl (by rw [Option.elim_none, hr]; decide) (by rw [Option.elim_none, hr]) ?_
    unfold BayD.ahead; rw [Option.elim_none, hl, if_neg (by simp [hin]), if_pos hdk]; exact BayR.shut h1p h2
  have hdk : ¬ D.pow.dark = true := by simpa using hc
  have hah : D.ahead k j = D.pow.step j := by unfold BayD.ahead; rw [hl, if_neg (by simp [hin]), if_neg hdk]
  rw [hah]
  generalize hP : D.pow = Pw at *
  (refine w ?_; repeat ((first | refine VO.step rfl rfl ?_ | refine VD.end rfl rfl rfl ?_ | refine VD.mid rfl rfl rfl ?_); refine OpV.box rfl rfl rfl ?_; intro _; refine w ?_))
  (refine VC.join (α := Unit) (fun _ => True) (fun _ => bayRow b Pw.less a sp.length :: slotsOwn a sp :: (sp.map slotRes ++ R)) (fun _ => [(0, .pointer (some ⟨b, 0, none⟩)), (1, .int .i64 k), (2, .func (.func gc) #[] #[]), (3, .func (.func gd) #[] cp)]) ?_ ?_)
  · intro Q2 jn
    (refine VC.cond rfl rfl ?_ ?_ <;> intro hc)
    · have h0 : 0 < Pw.trip := of_decide_eq_true hc
      (refine w ?_; repeat ((first | refine VO.step rfl rfl ?_ | refine VD.end rfl rfl rfl ?_ | refine VD.mid rfl rfl rfl ?_); refine OpV.box rfl rfl rfl ?_; intro _; refine w ?_))
      refine jn.to () trivial ⟨rfl, rfl, rfl, rfl, trivial⟩ ?_
      unfold BayD.less; rw [if_pos h0]; exact Ent.re
    · have h0 : ¬ 0 < Pw.trip := of_decide_eq_false hc
      (refine w ?_; repeat ((first | refine VO.step rfl rfl ?_ | refine VD.end rfl rfl rfl ?_ | refine VD.mid rfl rfl rfl ?_); refine OpV.box rfl rfl rfl ?_; intro _; refine w ?_))
      refine jn.to () trivial ⟨rfl, rfl, rfl, rfl, trivial⟩ ?_
      unfold BayD.less; rw [if_neg h0]; exact Ent.re
  intro _ _
  refine VC.seq rfl ?_
  refine VC.join (α := Unit) (fun _ => True) (fun _ => bayRow b (Pw.step j) a sp.length :: slotsOwn a sp :: (sp.map slotRes ++ R)) (fun _ => [(0, .pointer (some ⟨b, 0, none⟩)), (1, .int .i64 k), (3, .func (.func gd) #[] cp)]) ?_ ?_
  · intro Q2 jn
    rcases (show j = 0 ∨ j = 1 ∨ j = 2 by omega) with rfl | rfl | rfl
    · (refine w ?_; repeat ((first | refine VO.step rfl rfl ?_ | refine VD.end rfl rfl rfl ?_ | refine VD.mid rfl rfl rfl ?_); refine OpV.box rfl rfl rfl ?_; intro _; refine w ?_))
      (first | refine VO.step rfl rfl ?_ | refine VD.end rfl rfl rfl ?_ | refine VD.mid rfl rfl rfl ?_)
      refine OpV.call rfl rfl hcf (hcount _) Ent.refl rfl ?_
      intro _ _
      (refine w ?_; repeat ((first | refine VO.step rfl rfl ?_ | refine VD.end rfl rfl rfl ?_ | refine VD.mid rfl rfl rfl ?_); refine OpV.box rfl rfl rfl ?_; intro _; refine w ?_))
      exact jn.to () trivial ⟨rfl, rfl, rfl, trivial⟩ Ent.re
    · (refine w ?_; repeat ((first | refine VO.step rfl rfl ?_ | refine VD.end rfl rfl rfl ?_ | refine VD.mid rfl rfl rfl ?_); refine OpV.box rfl rfl rfl ?_; intro _; refine w ?_))
      (first | refine VO.step rfl rfl ?_ | refine VD.end rfl rfl rfl ?_ | refine VD.mid rfl rfl rfl ?_)
      refine OpV.call rfl rfl hcf (hcount _) Ent.refl rfl ?_
      intro _ _
      (refine w ?_; repeat ((first | refine VO.step rfl rfl ?_ | refine VD.end rfl rfl rfl ?_ | refine VD.mid rfl rfl rfl ?_); refine OpV.box rfl rfl rfl ?_; intro _; refine w ?_))
      exact jn.to () trivial ⟨rfl, rfl, rfl, trivial⟩ Ent.re
    · (refine w ?_; repeat ((first | refine VO.step rfl rfl ?_ | refine VD.end rfl rfl rfl ?_ | refine VD.mid rfl rfl rfl ?_); refine OpV.box rfl rfl rfl ?_; intro _; refine w ?_))
      (first | refine VO.step rfl rfl ?_ | refine VD.end rfl rfl rfl ?_ | refine VD.mid rfl rfl rfl ?_)
      refine OpV.call rfl rfl hcf (hcount _) Ent.refl rfl ?_
      intro _ _
      (refine w ?_; repeat ((first | refine VO.step rfl rfl ?_ | refine VD.end rfl rfl rfl ?_ | refine VD.mid rfl rfl rfl ?_); refine OpV.box rfl rfl rfl ?_; intro _; refine w ?_))
      exact jn.to () trivial ⟨rfl, rfl, rfl, trivial⟩ Ent.re
  intro _ _
  (refine w ?_; repeat ((first | refine VO.step rfl rfl ?_ | refine VD.end rfl rfl rfl ?_ | refine VD.mid rfl rfl rfl ?_); refine OpV.box rfl rfl rfl ?_; intro _; refine w ?_))
  have h1s : (Pw.step j).slots = sp.map SlotP.D := h1p
  (((first | refine VO.step rfl rfl ?_ | refine VD.end rfl rfl rfl ?_ | refine VD.mid rfl rfl rfl ?_); refine OpV.call rfl rfl (fun _ _ => by simp) (baythere_ok (D := Pw.step j) (a := a) (sp := sp) b k h2) Ent.re rfl ?_); intro _ _)
  have hrf : D.refuse k = thereE sp.length (inP sp k).isSome k := by unfold BayD.refuse; rw [hl, if_neg (by simp [hin]), hP, if_neg hdk, inP_D h1, Option.isSome_map]
  have hdv : D.dv k = (((inP sp k).map DevP.v).getD ⟨⟨[], [], false⟩, false, 0⟩).use := by unfold BayD.dv; rw [inP_D h1]
  rw [inP_D h1, hdv] at hdo
  rw [hdv]
  rw [hrf] at hdo ⊢
  cases hp : inP sp k with
  | none =>
    dsimp only [devPtr, Option.map_none, Option.isSome_none]
    have he : thereE sp.length false k ≠ 0 := by unfold thereE; split <;> simp
    (refine w ?_; repeat ((first | refine VO.step rfl rfl ?_ | refine VD.end rfl rfl rfl ?_ | refine VD.mid rfl rfl rfl ?_); refine OpV.box rfl rfl rfl ?_; intro _; refine w ?_))
    (refine VC.condTe rfl rfl (by simpa using he) ?_)
    (refine w ?_; repeat ((first | refine VO.step rfl rfl ?_ | refine VD.end rfl rfl rfl ?_ | refine VD.mid rfl rfl rfl ?_); refine OpV.box rfl rfl rfl ?_; intro _; refine w ?_))
    refine VE.done none rfl (by simpa using he) rfl ?_
    exact BayR.shut h1s h2
  | some p =>
    obtain ⟨l1, s, l2, rfl, rfl, hs⟩ := inP_split hp
    dsimp only [devPtr, Option.map_some, Option.isSome_some, Option.getD_some]
    have he : thereE (l1 ++ s :: l2).length true (l1.length : Int) = 0 := by unfold thereE; rw [inRange_at]; rfl
    rw [hp] at hdo
    dsimp only [Option.map_some, Option.isSome_some, Option.getD_some] at hdo
    rw [he] at hdo ⊢
    (refine w ?_; repeat ((first | refine VO.step rfl rfl ?_ | refine VD.end rfl rfl rfl ?_ | refine VD.mid rfl rfl rfl ?_); refine OpV.box rfl rfl rfl ?_; intro _; refine w ?_))
    refine VO.ent (bayOutP hs) ?_
    (refine w ?_; repeat ((first | refine VO.step rfl rfl ?_ | refine VD.end rfl rfl rfl ?_ | refine VD.mid rfl rfl rfl ?_); refine OpV.box rfl rfl rfl ?_; intro _; refine w ?_))
    (((first | refine VO.step rfl rfl ?_ | refine VD.end rfl rfl rfl ?_ | refine VD.mid rfl rfl rfl ?_); refine OpV.call rfl rfl (fun _ _ => by simp) (use_ok p.r p.d p.v) Ent.re rfl ?_); intro _ _)
    (refine w ?_; repeat ((first | refine VO.step rfl rfl ?_ | refine VD.end rfl rfl rfl ?_ | refine VD.mid rfl rfl rfl ?_); refine OpV.box rfl rfl rfl ?_; intro _; refine w ?_))
    (first | refine VO.step rfl rfl ?_ | refine VD.end rfl rfl rfl ?_ | refine VD.mid rfl rfl rfl ?_)
    refine OpV.call rfl rfl hdf (hdo p.r p.d rfl rfl (devRes s.aside :: devRes s.coming :: bayRow b (Pw.step j) a (l1 ++ s :: l2).length :: slotsOwn a (l1 ++ s :: l2) :: (l1 ++ l2).map slotRes)) ?_ rfl ?_
    · exact Ent.refl
    intro y hy
    (refine w ?_; repeat ((first | refine VO.step rfl rfl ?_ | refine VD.end rfl rfl rfl ?_ | refine VD.mid rfl rfl rfl ?_); refine OpV.box rfl rfl rfl ?_; intro _; refine w ?_))
    refine VE.done (some y) rfl ⟨rfl, hy⟩ rfl ?_
    exact bayInP (b := b) (a := a) (R := G y) (D := Pw.step j) (D' := (Pw.step j).setIn l1.length ⟨kf p.v.use.k, p.v.use.worn, p.v.use.left⟩) (p := p) hs ⟨kf p.v.use.k, p.v.use.worn, p.v.use.left⟩ (setIn_slots (p := p) (D := Pw.step j) h1s _) h2

/-! ### Read, Write, Flush -/
theorem pull2 {W : World} {A B C D : SProp} (X R : List SProp) : Ent W (A :: B :: (X ++ (C :: D :: R))) (C :: D :: A :: B :: (X ++ R)) := fun w hw => hw.perm (by
  have p1 : (X ++ (C :: D :: R)).Perm (C :: D :: (X ++ R)) := List.Perm.trans List.perm_middle (List.Perm.cons _ List.perm_middle)
  refine List.Perm.trans (List.Perm.cons _ (List.Perm.cons _ p1)) ?_
  exact List.Perm.append_right (X ++ R) (show [A, B, C, D].Perm [C, D, A, B] from List.perm_append_comm (l₁ := [A, B]) (l₂ := [C, D])))
theorem push2 {W : World} {A B C D : SProp} (X R : List SProp) : Ent W (C :: D :: A :: B :: (X ++ R)) (A :: B :: (X ++ (C :: D :: R))) := fun w hw => hw.perm (by
  have p1 : (X ++ (C :: D :: R)).Perm (C :: D :: (X ++ R)) := List.Perm.trans List.perm_middle (List.Perm.cons _ List.perm_middle)
  refine List.Perm.symm (List.Perm.trans (List.Perm.cons _ (List.Perm.cons _ p1)) ?_)
  exact List.Perm.append_right (X ++ R) (show [A, B, C, D].Perm [C, D, A, B] from List.perm_append_comm (l₁ := [A, B]) (l₂ := [C, D])))

/-- What a read answers. -/
def BayD.read (D : BayD) (k a : Int) : (List UInt8 × Int) × BayD :=
  if D.refuse k = 0 then ((D.dv k).k.rd a, (D.ahead k 0).setIn k.toNat (D.dv k)) else (([], D.refuse k), D.ahead k 0)
def BayD.write (D : BayD) (k a : Int) (b : List UInt8) : Int × BayD :=
  if D.refuse k = 0 then (((D.dv k).k.wr a b).1, (D.ahead k 1).setIn k.toNat ⟨((D.dv k).k.wr a b).2, (D.dv k).worn, (D.dv k).left⟩) else (D.refuse k, D.ahead k 1)
def BayD.flush (D : BayD) (k : Int) : Int × BayD :=
  if D.refuse k = 0 then ((D.dv k).k.fl.1, (D.ahead k 2).setIn k.toNat ⟨(D.dv k).k.fl.2, (D.dv k).worn, (D.dv k).left⟩) else (D.refuse k, D.ahead k 2)

theorem writef_ok {W : World} {R : List SProp} {ao : Option Addr} {cap : Nat} {l : List UInt8} (r d ba bd : Nat) (v : DevD) (k : DiskD) (a : Int) (hc : k.cache.length ≤ 1000000000) (hl : RdsA W 1 ao l.length (bytes l) ∨ Rds W R 1 ao l.length (bytes l)) (X : List SProp) :
    Does W Tryz.prog 46 [.pointer (some ⟨r, 0, none⟩), .pointer (some ⟨ba, 0, none⟩), .pointer (some ⟨bd, 0, none⟩)] (Row r 76 (devCells d v) :: DiskR d k :: (X ++ (Row ba 3 [.int .i64 a] :: Row bd 22 [.slice ao l.length cap] :: R)))
      (β := Unit) (fun _ => True) (fun _ => .int .u16 (k.wr a l).1)
      (fun _ => Row r 76 (devCells d v) :: DiskR d (k.wr a l).2 :: (X ++ (Row ba 3 [.int .i64 a] :: Row bd 22 [.slice ao l.length cap] :: R))) := by
  (refine Does.enter Tryz.func46 Tryz.ntmps46 rfl rfl ?_)
  refine VC.ent (pull2 X R) ?_
  (refine w ?_; repeat ((first | refine VO.step rfl rfl ?_ | refine VD.end rfl rfl rfl ?_ | refine VD.mid rfl rfl rfl ?_); refine OpV.box rfl rfl rfl ?_; intro _; refine w ?_))
  (refine VC.drawn [] 6 [0, 1, 2, 3, 4, 5, 6, 7] _ rfl (by kernel_rfl) (by kernel_rfl) Ent.re ?_)
  (refine w ?_; repeat ((first | refine VO.step rfl rfl ?_ | refine VD.end rfl rfl rfl ?_ | refine VD.mid rfl rfl rfl ?_); refine OpV.box rfl rfl rfl ?_; intro _; refine w ?_))
  have hr : Rds W (Row ba 3 [.int .i64 a] :: Row bd 22 [.slice ao l.length cap] :: Row r 76 (devCells d v) :: (X ++ R)) 1 ao l.length (bytes l) := by
    rcases hl with h | h
    · exact h _
    · exact h.ent (fun w hw => Ent.dropAll (_ :: _ :: _ :: X) w hw)
  refine VD.ent (Reord.ent (L := DiskR d k :: Row ba 3 [.int .i64 a] :: Row bd 22 [.slice ao l.length cap] :: Row r 76 (devCells d v) :: (X ++ R)) (by (repeat first | exact .refl | (apply Reord.cons; focus repeat first | exact .head | apply Del.tail) | exact .nil | apply Reord.drop))) ?_
  ((first | refine VO.step rfl rfl ?_ | refine VD.end rfl rfl rfl ?_ | refine VD.mid rfl rfl rfl ?_); refine OpV.call rfl rfl (fun _ _ => by simp) (dwr_ok (b := l) d k a hc hr) Ent.refl rfl ?_)
  intro _ _
  (refine w ?_; repeat ((first | refine VO.step rfl rfl ?_ | refine VD.end rfl rfl rfl ?_ | refine VD.mid rfl rfl rfl ?_); refine OpV.box rfl rfl rfl ?_; intro _; refine w ?_))
  exact VE.done () rfl trivial rfl (Ent.trans Ent.re (push2 X R))

theorem baywrite_ok {W : World} {R : List SProp} {ao : Option Addr} {cap : Nat} {l : List UInt8} (b : Nat) (D : BayD) (k a : Int) (hc : (D.dv k).k.cache.length ≤ 1000000000) (hl : RdsA W 1 ao l.length (bytes l) ∨ Rds W R 1 ao l.length (bytes l)) :
    Does1 W Tryz.prog 13 [.pointer (some ⟨b, 0, none⟩), .int .i64 k, .int .i64 a, .slice ao l.length cap] (BayR b D :: R) (.int .u16 (D.write k a l).1) (BayR b (D.write k a l).2 :: R) := by
  (refine Does.enter Tryz.func13 Tryz.ntmps13 rfl rfl ?_)
  (refine w ?_; repeat ((first | refine VO.step rfl rfl ?_ | refine VD.end rfl rfl rfl ?_ | refine VD.mid rfl rfl rfl ?_); refine OpV.box rfl rfl rfl ?_; intro _; refine w ?_))
  rename_i ba bd
  (first | refine VO.pure rfl rfl (PureAt.makeFuncN rfl) rfl ?_ | refine VD.take rfl rfl rfl (PureAt.makeFuncN rfl) rfl ?_ | refine VQ.pure rfl rfl (PureAt.makeFuncN rfl) rfl ?_ | refine VD.end rfl rfl rfl (OpV.pure (PureAt.makeFuncN rfl) rfl ?_))
  (refine w ?_; repeat ((first | refine VO.step rfl rfl ?_ | refine VD.end rfl rfl rfl ?_ | refine VD.mid rfl rfl rfl ?_); refine OpV.box rfl rfl rfl ?_; intro _; refine w ?_))
  refine VO.ent (Reord.ent (L := BayR b D :: Row ba 3 [.int .i64 a] :: Row bd 22 [.slice ao l.length cap] :: R) (by (repeat first | exact .refl | (apply Reord.cons; focus repeat first | exact .head | apply Del.tail) | exact .nil | apply Reord.drop))) ?_
  (first | refine VO.step rfl rfl ?_ | refine VD.end rfl rfl rfl ?_ | refine VD.mid rfl rfl rfl ?_)
  refine OpV.call rfl rfl (fun _ _ => by simp) (operate_ok (gd := 46) (gc := 45) (cp := #[.pointer (some ⟨ba, 0, none⟩), .pointer (some ⟨bd, 0, none⟩)]) (kf := fun k => (k.wr a l).2) (R := Row ba 3 [.int .i64 a] :: Row bd 22 [.slice ao l.length cap] :: R) b D k 1 (by decide) (fun _ _ => by simp) (fun _ _ => by simp) (fun X => writes_ok b) (fun r d hv hr X => writef_ok r d ba bd (D.dv k) (D.dv k).k a hc hl X)) Ent.refl rfl ?_
  intro y hy
  unfold BayD.write
  cases y with
  | none =>
    have hr : D.refuse k ≠ 0 := hy
    dsimp only [Option.elim_none]
    rw [if_neg hr]
    (refine w ?_; repeat ((first | refine VO.step rfl rfl ?_ | refine VD.end rfl rfl rfl ?_ | refine VD.mid rfl rfl rfl ?_); refine OpV.box rfl rfl rfl ?_; intro _; refine w ?_))
    (refine VE.done1 rfl ?_ ?_)
    · rfl
    · exact Ent.re
  | some x =>
    obtain ⟨hr, hx⟩ : D.refuse k = 0 ∧ True := hy
    dsimp only [Option.elim_some]
    rw [if_pos hr]
    (refine w ?_; repeat ((first | refine VO.step rfl rfl ?_ | refine VD.end rfl rfl rfl ?_ | refine VD.mid rfl rfl rfl ?_); refine OpV.box rfl rfl rfl ?_; intro _; refine w ?_))
    (refine VE.done1 rfl ?_ ?_)
    · rfl
    · exact Ent.re

theorem flushf2_ok {W : World} {R : List SProp} (r d : Nat) (v : DevD) (k : DiskD) (X : List SProp) :
    Does W Tryz.prog 34 [.pointer (some ⟨r, 0, none⟩)] (Row r 76 (devCells d v) :: DiskR d k :: (X ++ R))
      (β := Unit) (fun _ => True) (fun _ => .int .u16 k.fl.1) (fun _ => Row r 76 (devCells d v) :: DiskR d k.fl.2 :: (X ++ R)) := by
  (refine Does.enter Tryz.func34 Tryz.ntmps34 rfl rfl ?_)
  (refine w ?_; repeat ((first | refine VO.step rfl rfl ?_ | refine VD.end rfl rfl rfl ?_ | refine VD.mid rfl rfl rfl ?_); refine OpV.box rfl rfl rfl ?_; intro _; refine w ?_))
  (((first | refine VO.step rfl rfl ?_ | refine VD.end rfl rfl rfl ?_ | refine VD.mid rfl rfl rfl ?_); refine OpV.call rfl rfl (fun _ _ => by simp) (dfl_ok d k) Ent.re rfl ?_); intro _ _)
  (refine w ?_; repeat ((first | refine VO.step rfl rfl ?_ | refine VD.end rfl rfl rfl ?_ | refine VD.mid rfl rfl rfl ?_); refine OpV.box rfl rfl rfl ?_; intro _; refine w ?_))
  exact VE.done () rfl trivial rfl Ent.re
theorem bayflush_ok {W : World} {R : List SProp} (b : Nat) (D : BayD) (k : Int) :
    Does1 W Tryz.prog 7 [.pointer (some ⟨b, 0, none⟩), .int .i64 k] (BayR b D :: R) (.int .u16 (D.flush k).1) (BayR b (D.flush k).2 :: R) := by
  (refine Does.enter Tryz.func7 Tryz.ntmps7 rfl rfl ?_)
  (refine w ?_; repeat ((first | refine VO.step rfl rfl ?_ | refine VD.end rfl rfl rfl ?_ | refine VD.mid rfl rfl rfl ?_); refine OpV.box rfl rfl rfl ?_; intro _; refine w ?_))
  (first | refine VO.step rfl rfl ?_ | refine VD.end rfl rfl rfl ?_ | refine VD.mid rfl rfl rfl ?_)
  refine OpV.call rfl rfl (fun _ _ => by simp) (operate_ok (gd := 34) (gc := 33) (cp := #[]) (kf := fun k => k.fl.2) (R := R) b D k 2 (by decide) (fun _ _ => by simp) (fun _ _ => by simp) (fun X => flushes_ok b) (fun r d hv hr X => flushf2_ok r d (D.dv k) (D.dv k).k X)) Ent.refl rfl ?_
  intro y hy
  unfold BayD.flush
  cases y with
  | none =>
    have hr : D.refuse k ≠ 0 := hy
    dsimp only [Option.elim_none]
    rw [if_neg hr]
    (refine w ?_; repeat ((first | refine VO.step rfl rfl ?_ | refine VD.end rfl rfl rfl ?_ | refine VD.mid rfl rfl rfl ?_); refine OpV.box rfl rfl rfl ?_; intro _; refine w ?_))
    (refine VE.done1 rfl ?_ ?_)
    · rfl
    · exact Ent.re
  | some x =>
    obtain ⟨hr, hx⟩ : D.refuse k = 0 ∧ True := hy
    dsimp only [Option.elim_some]
    rw [if_pos hr]
    (refine w ?_; repeat ((first | refine VO.step rfl rfl ?_ | refine VD.end rfl rfl rfl ?_ | refine VD.mid rfl rfl rfl ?_); refine OpV.box rfl rfl rfl ?_; intro _; refine w ?_))
    (refine VE.done1 rfl ?_ ?_)
    · rfl
    · exact Ent.re
end Go.Proofs.YtpmmkmcbimnigaaGreat

/-! Text Bd. -/
/- Package bay: Fail, Wear, Trip, Pull, Push, Swap, Load. -/
set_option maxRecDepth 8000
set_option linter.unusedVariables false
set_option linter.unusedSimpArgs false
set_option linter.unusedSectionVars false
namespace Go.Proofs.YtpmmkmcbimnigaaGreat
open Go.RowKit Go.Sl
attribute [local irreducible] Own

/-- Of a call that asks for a slot's disk: the error, if there is none. -/
def BayD.tE (D : BayD) (k : Int) : Int := thereE D.slots.length (D.dev k).isSome k
def BayD.fail (D : BayD) (k : Int) : Int × BayD := match D.dev k with
  | some v => (0, D.setIn k.toNat ⟨v.k.fail, v.worn, v.left⟩)
  | none => (D.tE k, D)
def BayD.wear (D : BayD) (k n : Int) : Int × BayD := if n < 0 then (1, D) else match D.dev k with
  | some v => (0, D.setIn k.toNat ⟨v.k, true, n⟩)
  | none => (D.tE k, D)
def BayD.trips (D : BayD) (n : Int) : Int × BayD := if n < 0 then (1, D) else if D.dark then (50, D) else (0, { D with trip := n })

theorem bayfail_ok {W : World} {R : List SProp} (b : Nat) (D : BayD) (k : Int) :
    Does1 W Tryz.prog 9 [.pointer (some ⟨b, 0, none⟩), .int .i64 k] (BayR b D :: R) (.int .u16 (D.fail k).1) (BayR b (D.fail k).2 :: R) := by
  (refine Does.enter Tryz.func9 Tryz.ntmps9 rfl rfl ?_)
  refine VC.obtain (fun w => BayR.open) ?_
  rintro ⟨⟨a, sp⟩, h1, h2⟩
  dsimp only at h1 h2 ⊢
  (refine w ?_; repeat ((first | refine VO.step rfl rfl ?_ | refine VD.end rfl rfl rfl ?_ | refine VD.mid rfl rfl rfl ?_); refine OpV.box rfl rfl rfl ?_; intro _; refine w ?_))
  (((first | refine VO.step rfl rfl ?_ | refine VD.end rfl rfl rfl ?_ | refine VD.mid rfl rfl rfl ?_); refine OpV.call rfl rfl (fun _ _ => by simp) (baythere_ok (D := D) (a := a) (sp := sp) b k h2) Ent.re rfl ?_); intro _ _)
  unfold BayD.fail BayD.tE
  rw [inP_D h1, show D.slots.length = sp.length by rw [h1, List.length_map]]
  cases hp : inP sp k with
  | none =>
    dsimp only [devPtr, Option.map_none, Option.isSome_none]
    (refine w ?_; repeat ((first | refine VO.step rfl rfl ?_ | refine VD.end rfl rfl rfl ?_ | refine VD.mid rfl rfl rfl ?_); refine OpV.box rfl rfl rfl ?_; intro _; refine w ?_))
    have he : thereE sp.length false k ≠ 0 := by unfold thereE; split <;> simp
    (refine VC.condFe rfl rfl (by simpa using he) ?_)
    (refine w ?_; repeat ((first | refine VO.step rfl rfl ?_ | refine VD.end rfl rfl rfl ?_ | refine VD.mid rfl rfl rfl ?_); refine OpV.box rfl rfl rfl ?_; intro _; refine w ?_))
    (refine VE.done1 rfl ?_ ?_)
    · rfl
    · exact BayR.shut h1 h2
  | some p =>
    obtain ⟨l1, s, l2, rfl, rfl, hs⟩ := inP_split hp
    dsimp only [devPtr, Option.map_some, Option.isSome_some]
    have he : thereE (l1 ++ s :: l2).length true (l1.length : Int) = 0 := by unfold thereE; rw [inRange_at]; rfl
    rw [he]
    (refine w ?_; repeat ((first | refine VO.step rfl rfl ?_ | refine VD.end rfl rfl rfl ?_ | refine VD.mid rfl rfl rfl ?_); refine OpV.box rfl rfl rfl ?_; intro _; refine w ?_))
    refine VO.ent (bayOutP hs) ?_
    (refine w ?_; repeat ((first | refine VO.step rfl rfl ?_ | refine VD.end rfl rfl rfl ?_ | refine VD.mid rfl rfl rfl ?_); refine OpV.box rfl rfl rfl ?_; intro _; refine w ?_))
    (((first | refine VO.step rfl rfl ?_ | refine VD.end rfl rfl rfl ?_ | refine VD.mid rfl rfl rfl ?_); refine OpV.call rfl rfl (fun _ _ => by simp) (fail_ok p.d p.v.k) Ent.re rfl ?_); intro _ _)
    (refine w ?_; repeat ((first | refine VO.step rfl rfl ?_ | refine VD.end rfl rfl rfl ?_ | refine VD.mid rfl rfl rfl ?_); refine OpV.box rfl rfl rfl ?_; intro _; refine w ?_))
    (refine VE.done1 rfl ?_ ?_)
    · rfl
    · refine Ent.trans Ent.re (bayInP (D := D) (D' := D.setIn l1.length ⟨p.v.k.fail, p.v.worn, p.v.left⟩) (p := p) hs ⟨p.v.k.fail, p.v.worn, p.v.left⟩ (setIn_slots (p := p) h1 _) h2)

/-! ### A slot as it lies in its array -/
theorem slots_set1 {l1 l2 : List SlotP} {s : SlotP} (j : Nat) (hj : j < 3) (v : Value) : ((l1 ++ s :: l2).flatMap slotCells).set (l1.length * 3 + j) v = l1.flatMap slotCells ++ ((slotCells s).set j v ++ l2.flatMap slotCells) := by
  have e : (l1.flatMap slotCells).length = l1.length * 3 := flat_length l1 fun _ _ => rfl
  rw [List.flatMap_append, List.flatMap_cons, List.set_append_right _ _ (by rw [e]; omega), e, show l1.length * 3 + j - l1.length * 3 = j by omega, List.set_append_left _ _ (by rw [slotCells_length]; exact hj)]
theorem slots_in {l1 l2 : List SlotP} {s : SlotP} (x : Option DevP) : ((l1 ++ s :: l2).flatMap slotCells).set (l1.length * 3 + 0) (devPtr x) = (l1 ++ { s with in_ := x } :: l2).flatMap slotCells := by
  rw [slots_set1 0 (by decide), List.flatMap_append, List.flatMap_cons]; rfl
theorem slots_aside {l1 l2 : List SlotP} {s : SlotP} (x : Option DevP) : ((l1 ++ s :: l2).flatMap slotCells).set (l1.length * 3 + 1) (devPtr x) = (l1 ++ { s with aside := x } :: l2).flatMap slotCells := by
  rw [slots_set1 1 (by decide), List.flatMap_append, List.flatMap_cons]; rfl
theorem slots_coming {l1 l2 : List SlotP} {s : SlotP} (x : Option DevP) : ((l1 ++ s :: l2).flatMap slotCells).set (l1.length * 3 + 2) (devPtr x) = (l1 ++ { s with coming := x } :: l2).flatMap slotCells := by
  rw [slots_set1 2 (by decide), List.flatMap_append, List.flatMap_cons]; rfl
theorem slots_len {l1 l2 : List SlotP} {s : SlotP} (j : Nat) (hj : j < 3) : l1.length * 3 + j < ((l1 ++ s :: l2).flatMap slotCells).length := by
  rw [flat_length (g := slotCells) (w := 3) _ fun _ _ => rfl]; simp; omega
def BayD.setSlot (D : BayD) (i : Nat) (s : SlotD) : BayD := { D with slots := D.slots.set i s }
theorem setSlot_slots {D : BayD} {l1 l2 : List SlotP} {s : SlotP} (h : D.slots = (l1 ++ s :: l2).map SlotP.D) (s' : SlotP) : (D.setSlot l1.length s'.D).slots = (l1 ++ s' :: l2).map SlotP.D := by
  unfold BayD.setSlot
  simp only [h, List.map_append, List.map_cons]
  rw [List.set_append_right _ _ (by simp)]
  simp
/-- A slot, put back: whatever stands in it now. -/
theorem bayInS {W : World} {b n : Nat} {D' : BayD} {a : Addr} {l1 l2 : List SlotP} {R : List SProp} (s' : SlotP) (hn : (l1 ++ s' :: l2).length = n) (h1 : D'.slots = (l1 ++ s' :: l2).map SlotP.D) (h2 : n ≤ 17) :
    Ent W (devRes s'.in_ :: devRes s'.aside :: devRes s'.coming :: bayRow b D' a n :: Own 78 3 (.slice (some a) n n) n ((l1 ++ s' :: l2).flatMap slotCells) :: ((l1 ++ l2).map slotRes ++ R)) (BayR b D' :: R) := fun w hw => by
  subst hn
  exact BayR.shut h1 h2 w (bayIn w hw)

def BayD.slot (D : BayD) (k : Int) : SlotD := (D.slots[k.toNat]?).getD ⟨none, none, none⟩
def BayD.pull (D : BayD) (k : Int) : Int × BayD := match D.dev k with
  | some v => (0, D.setSlot k.toNat ⟨none, some ⟨v.k.settle (keepOf []), v.worn, v.left⟩, (D.slot k).coming⟩)
  | none => (D.tE k, D)
theorem slot_at {D : BayD} {l1 l2 : List SlotP} {s : SlotP} (h : D.slots = (l1 ++ s :: l2).map SlotP.D) : D.slot (l1.length : Int) = s.D := by
  unfold BayD.slot
  rw [h, Int.toNat_natCast]; simp
theorem nilBools {W : World} {R : List SProp} : Rds W R 1 none 0 (bools []) := by
  refine ⟨rfl, fun _ h => ?_, fun _ => rfl, fun _ _ _ h => ?_⟩
  · cases h
  · cases h

theorem baypull_ok {W : World} {R : List SProp} (b : Nat) (D : BayD) (k : Int) :
    Does1 W Tryz.prog 11 [.pointer (some ⟨b, 0, none⟩), .int .i64 k] (BayR b D :: R) (.int .u16 (D.pull k).1) (BayR b (D.pull k).2 :: R) := by
  (refine Does.enter Tryz.func11 Tryz.ntmps11 rfl rfl ?_)
  refine VC.obtain (fun w => BayR.open) ?_
  rintro ⟨⟨a, sp⟩, h1, h2⟩
  dsimp only at h1 h2 ⊢
  (refine w ?_; repeat ((first | refine VO.step rfl rfl ?_ | refine VD.end rfl rfl rfl ?_ | refine VD.mid rfl rfl rfl ?_); refine OpV.box rfl rfl rfl ?_; intro _; refine w ?_))
  (((first | refine VO.step rfl rfl ?_ | refine VD.end rfl rfl rfl ?_ | refine VD.mid rfl rfl rfl ?_); refine OpV.call rfl rfl (fun _ _ => by simp) (baythere_ok (D := D) (a := a) (sp := sp) b k h2) Ent.re rfl ?_); intro _ _)
  unfold BayD.pull BayD.tE
  rw [inP_D h1, show D.slots.length = sp.length by rw [h1, List.length_map]]
  cases hp : inP sp k with
  | none =>
    dsimp only [devPtr, Option.map_none, Option.isSome_none]
    (refine w ?_; repeat ((first | refine VO.step rfl rfl ?_ | refine VD.end rfl rfl rfl ?_ | refine VD.mid rfl rfl rfl ?_); refine OpV.box rfl rfl rfl ?_; intro _; refine w ?_))
    have he : thereE sp.length false k ≠ 0 := by unfold thereE; split <;> simp
    (refine VC.condFe rfl rfl (by simpa using he) ?_)
    (refine w ?_; repeat ((first | refine VO.step rfl rfl ?_ | refine VD.end rfl rfl rfl ?_ | refine VD.mid rfl rfl rfl ?_); refine OpV.box rfl rfl rfl ?_; intro _; refine w ?_))
    (refine VE.done1 rfl ?_ ?_)
    · rfl
    · exact BayR.shut h1 h2
  | some p =>
    obtain ⟨l1, s, l2, rfl, rfl, hs⟩ := inP_split hp
    dsimp only [devPtr, Option.map_some, Option.isSome_some]
    have he : thereE (l1 ++ s :: l2).length true (l1.length : Int) = 0 := by unfold thereE; rw [inRange_at]; rfl
    rw [he, slot_at h1]
    (refine w ?_; repeat ((first | refine VO.step rfl rfl ?_ | refine VD.end rfl rfl rfl ?_ | refine VD.mid rfl rfl rfl ?_); refine OpV.box rfl rfl rfl ?_; intro _; refine w ?_))
    refine VO.ent (bayOutP hs) ?_
    (refine w ?_; repeat ((first | refine VO.step rfl rfl ?_ | refine VD.end rfl rfl rfl ?_ | refine VD.mid rfl rfl rfl ?_); refine OpV.box rfl rfl rfl ?_; intro _; refine w ?_))
    (((first | refine VO.step rfl rfl ?_ | refine VD.end rfl rfl rfl ?_ | refine VD.mid rfl rfl rfl ?_); refine OpV.call rfl rfl (fun _ _ => by simp) (crash_ok (l := []) p.d p.v.k nilBools) Ent.re rfl ?_); intro _ _)
    (refine w ?_; repeat ((first | refine VO.step rfl rfl ?_ | refine VD.end rfl rfl rfl ?_ | refine VD.mid rfl rfl rfl ?_); refine OpV.box rfl rfl rfl ?_; intro _; refine w ?_))
    (((first | refine VO.step rfl rfl ?_ | refine VD.end rfl rfl rfl ?_ | refine VD.mid rfl rfl rfl ?_); refine OpV.call rfl rfl (fun _ _ => by simp) (bayat_ok (D := D) (a := a) (n := (l1 ++ s :: l2).length) b (l1.length : Int) h2) Ent.re rfl ?_); intro _ _)
    unfold slotAt
    rw [inRange_at]
    (refine w ?_; repeat ((first | refine VO.step rfl rfl ?_ | refine VD.end rfl rfl rfl ?_ | refine VD.mid rfl rfl rfl ?_); refine OpV.box rfl rfl rfl ?_; intro _; refine w ?_))
    (first | refine VO.step rfl rfl ?_ | refine VD.end rfl rfl rfl ?_ | refine VD.mid rfl rfl rfl ?_)
    refine OpV.stO2 tab_ok rfl rfl rfl rfl (by (repeat first | exact .head | apply Hole.tail)) (slots_len 0 (by decide)) (slots_in none) ?_
    (refine w ?_; repeat ((first | refine VO.step rfl rfl ?_ | refine VD.end rfl rfl rfl ?_ | refine VD.mid rfl rfl rfl ?_); refine OpV.box rfl rfl rfl ?_; intro _; refine w ?_))
    (first | refine VO.step rfl rfl ?_ | refine VD.end rfl rfl rfl ?_ | refine VD.mid rfl rfl rfl ?_)
    refine OpV.stO2 tab_ok rfl rfl rfl rfl (by (repeat first | exact .head | apply Hole.tail)) (slots_len 1 (by decide)) (slots_aside (some ⟨p.r, p.d, ⟨p.v.k.settle (keepOf []), p.v.worn, p.v.left⟩⟩)) ?_
    (refine w ?_; repeat ((first | refine VO.step rfl rfl ?_ | refine VD.end rfl rfl rfl ?_ | refine VD.mid rfl rfl rfl ?_); refine OpV.box rfl rfl rfl ?_; intro _; refine w ?_))
    (refine VE.done1 rfl ?_ ?_)
    · rfl
    · refine Ent.trans (Ent.re (L := devRow ⟨p.r, p.d, ⟨p.v.k.settle (keepOf []), p.v.worn, p.v.left⟩⟩ :: DiskR p.d (p.v.k.settle (keepOf [])) :: devRes s.coming :: bayRow b D a (l1 ++ s :: l2).length :: Own 78 3 (.slice (some a) (l1 ++ s :: l2).length (l1 ++ s :: l2).length) (l1 ++ s :: l2).length ((l1 ++ ⟨none, some ⟨p.r, p.d, ⟨p.v.k.settle (keepOf []), p.v.worn, p.v.left⟩⟩, s.coming⟩ :: l2).flatMap slotCells) :: ((l1 ++ l2).map slotRes ++ R))) ?_
      refine Ent.trans (devIn ⟨p.r, p.d, ⟨p.v.k.settle (keepOf []), p.v.worn, p.v.left⟩⟩ _) ?_
      refine Ent.trans (devNone _) ?_
      exact bayInS (D' := D.setSlot l1.length (SlotP.D ⟨none, some ⟨p.r, p.d, ⟨p.v.k.settle (keepOf []), p.v.worn, p.v.left⟩⟩, s.coming⟩)) ⟨none, some ⟨p.r, p.d, ⟨p.v.k.settle (keepOf []), p.v.worn, p.v.left⟩⟩, s.coming⟩ (by simp) (setSlot_slots h1 _) h2

/-! ### Swap, Load, Push -/
def SlotD.taken (s : SlotD) : Bool := (s.in_.any fun v => !v.k.failed) || s.coming.isSome
theorem taken_ok {W : World} {R : List SProp} {a : Addr} {l1 l2 : List SlotP} {s : SlotP} :
    Does1 W Tryz.prog 108 [.pointer (some (a.add (l1.length * 3)))] (devRes s.in_ :: slotsOwn a (l1 ++ s :: l2) :: R) (.bool s.D.taken) (devRes s.in_ :: slotsOwn a (l1 ++ s :: l2) :: R) := by
  have c0 := slots_get (l1 ++ s :: l2) l1.length 0 (by simp) (by decide)
  have c2 := slots_get (l1 ++ s :: l2) l1.length 2 (by simp) (by decide)
  simp only [List.getElem_append_right (Nat.le_refl _), Nat.sub_self, List.getElem_cons_zero] at c0 c2
  (refine Does.enter Tryz.func108 Tryz.ntmps108 rfl rfl ?_)
  (refine w ?_; repeat ((first | refine VO.step rfl rfl ?_ | refine VD.end rfl rfl rfl ?_ | refine VD.mid rfl rfl rfl ?_); refine OpV.box rfl rfl rfl ?_; intro _; refine w ?_))
  (first | refine VO.pure rfl rfl (.ldRc tab_ok rfl rfl (slots_rds (by (focus repeat first | exact .head _ | apply List.Mem.tail))) (c0.trans rfl)) rfl ?_ | refine VD.take rfl rfl rfl (.ldRc tab_ok rfl rfl (slots_rds (by (focus repeat first | exact .head _ | apply List.Mem.tail))) (c0.trans rfl)) rfl ?_ | refine VQ.pure rfl rfl (.ldRc tab_ok rfl rfl (slots_rds (by (focus repeat first | exact .head _ | apply List.Mem.tail))) (c0.trans rfl)) rfl ?_ | refine VD.end rfl rfl rfl (OpV.pure (.ldRc tab_ok rfl rfl (slots_rds (by (focus repeat first | exact .head _ | apply List.Mem.tail))) (c0.trans rfl)) rfl ?_))
  unfold SlotD.taken
  rw [show s.D.in_ = s.in_.map DevP.v from rfl, show s.D.coming = s.coming.map DevP.v from rfl]
  cases hs : s.in_ with
  | none =>
    dsimp only [devPtr, Option.map_none]
    (refine w ?_; repeat ((first | refine VO.step rfl rfl ?_ | refine VD.end rfl rfl rfl ?_ | refine VD.mid rfl rfl rfl ?_); refine OpV.box rfl rfl rfl ?_; intro _; refine w ?_))
    (first | refine VO.pure rfl rfl (.ldRc tab_ok rfl rfl (slots_rds (by (focus repeat first | exact .head _ | apply List.Mem.tail))) (c2.trans rfl)) rfl ?_ | refine VD.take rfl rfl rfl (.ldRc tab_ok rfl rfl (slots_rds (by (focus repeat first | exact .head _ | apply List.Mem.tail))) (c2.trans rfl)) rfl ?_ | refine VQ.pure rfl rfl (.ldRc tab_ok rfl rfl (slots_rds (by (focus repeat first | exact .head _ | apply List.Mem.tail))) (c2.trans rfl)) rfl ?_ | refine VD.end rfl rfl rfl (OpV.pure (.ldRc tab_ok rfl rfl (slots_rds (by (focus repeat first | exact .head _ | apply List.Mem.tail))) (c2.trans rfl)) rfl ?_))
    cases hs2 : s.coming with
    | none =>
      dsimp only [devPtr, Option.map_none]
      (refine w ?_; repeat ((first | refine VO.step rfl rfl ?_ | refine VD.end rfl rfl rfl ?_ | refine VD.mid rfl rfl rfl ?_); refine OpV.box rfl rfl rfl ?_; intro _; refine w ?_))
      (first | exact VE.done1 rfl rfl Ent.refl | exact VE.done1N rfl rfl Ent.refl)
    | some q =>
      dsimp only [devPtr, Option.map_some]
      (refine w ?_; repeat ((first | refine VO.step rfl rfl ?_ | refine VD.end rfl rfl rfl ?_ | refine VD.mid rfl rfl rfl ?_); refine OpV.box rfl rfl rfl ?_; intro _; refine w ?_))
      (first | exact VE.done1 rfl rfl Ent.refl | exact VE.done1N rfl rfl Ent.refl)
  | some p =>
    dsimp only [devPtr, Option.map_some]
    refine VO.ent (devOut p _) ?_
    (refine w ?_; repeat ((first | refine VO.step rfl rfl ?_ | refine VD.end rfl rfl rfl ?_ | refine VD.mid rfl rfl rfl ?_); refine OpV.box rfl rfl rfl ?_; intro _; refine w ?_))
    (first | refine VO.pure rfl rfl (.ldRc tab_ok rfl rfl (slots_rds (by (focus repeat first | exact .head _ | apply List.Mem.tail))) (c0.trans (by simp [slotCells, devPtr, hs]; rfl))) rfl ?_ | refine VD.take rfl rfl rfl (.ldRc tab_ok rfl rfl (slots_rds (by (focus repeat first | exact .head _ | apply List.Mem.tail))) (c0.trans (by simp [slotCells, devPtr, hs]; rfl))) rfl ?_ | refine VQ.pure rfl rfl (.ldRc tab_ok rfl rfl (slots_rds (by (focus repeat first | exact .head _ | apply List.Mem.tail))) (c0.trans (by simp [slotCells, devPtr, hs]; rfl))) rfl ?_ | refine VD.end rfl rfl rfl (OpV.pure (.ldRc tab_ok rfl rfl (slots_rds (by (focus repeat first | exact .head _ | apply List.Mem.tail))) (c0.trans (by simp [slotCells, devPtr, hs]; rfl))) rfl ?_))
    (refine w ?_; repeat ((first | refine VO.step rfl rfl ?_ | refine VD.end rfl rfl rfl ?_ | refine VD.mid rfl rfl rfl ?_); refine OpV.box rfl rfl rfl ?_; intro _; refine w ?_))
    (((first | refine VO.step rfl rfl ?_ | refine VD.end rfl rfl rfl ?_ | refine VD.mid rfl rfl rfl ?_); refine OpV.call rfl rfl (fun _ _ => by simp) (failed_ok p.d p.v.k) Ent.re rfl ?_); intro _ _)
    (refine w ?_; repeat ((first | refine VO.step rfl rfl ?_ | refine VD.end rfl rfl rfl ?_ | refine VD.mid rfl rfl rfl ?_); refine OpV.box rfl rfl rfl ?_; intro _; refine w ?_))
    cases hf : p.v.k.failed
    · (refine w ?_; repeat ((first | refine VO.step rfl rfl ?_ | refine VD.end rfl rfl rfl ?_ | refine VD.mid rfl rfl rfl ?_); refine OpV.box rfl rfl rfl ?_; intro _; refine w ?_))
      (refine VE.done1 rfl ?_ ?_)
      · simp [hf]
      · exact Ent.trans Ent.re (devIn p _)
    · (refine w ?_; repeat ((first | refine VO.step rfl rfl ?_ | refine VD.end rfl rfl rfl ?_ | refine VD.mid rfl rfl rfl ?_); refine OpV.box rfl rfl rfl ?_; intro _; refine w ?_))
      (first | refine VO.pure rfl rfl (.ldRc tab_ok rfl rfl (slots_rds (by (focus repeat first | exact .head _ | apply List.Mem.tail))) (c2.trans rfl)) rfl ?_ | refine VD.take rfl rfl rfl (.ldRc tab_ok rfl rfl (slots_rds (by (focus repeat first | exact .head _ | apply List.Mem.tail))) (c2.trans rfl)) rfl ?_ | refine VQ.pure rfl rfl (.ldRc tab_ok rfl rfl (slots_rds (by (focus repeat first | exact .head _ | apply List.Mem.tail))) (c2.trans rfl)) rfl ?_ | refine VD.end rfl rfl rfl (OpV.pure (.ldRc tab_ok rfl rfl (slots_rds (by (focus repeat first | exact .head _ | apply List.Mem.tail))) (c2.trans rfl)) rfl ?_))
      refine VO.ent (Ent.trans Ent.re (devIn p _)) ?_
      cases hs2 : s.coming with
      | none =>
        dsimp only [devPtr, Option.map_none]
        (refine w ?_; repeat ((first | refine VO.step rfl rfl ?_ | refine VD.end rfl rfl rfl ?_ | refine VD.mid rfl rfl rfl ?_); refine OpV.box rfl rfl rfl ?_; intro _; refine w ?_))
        (refine VE.done1 rfl ?_ ?_)
        · simp [hf]
        · exact Ent.re
      | some q =>
        dsimp only [devPtr, Option.map_some]
        (refine w ?_; repeat ((first | refine VO.step rfl rfl ?_ | refine VD.end rfl rfl rfl ?_ | refine VD.mid rfl rfl rfl ?_); refine OpV.box rfl rfl rfl ?_; intro _; refine w ?_))
        (refine VE.done1 rfl ?_ ?_)
        · simp [hf]
        · exact Ent.re

/-- Why nothing is laid into a slot; 0: it is. -/
def BayD.layE (D : BayD) (k : Int) : Int := if inRange D.slots.length k = false then 1 else if (D.slot k).taken then 52 else 0
def BayD.lay (D : BayD) (k : Int) (e : Int) (kd : DiskD) : Int × BayD :=
  if D.layE k ≠ 0 then (D.layE k, D) else if e ≠ 0 then (e, D) else (0, D.setSlot k.toNat ⟨some ⟨kd, false, 0⟩, (D.slot k).aside, (D.slot k).coming⟩)
theorem range_split {sp : List SlotP} {k : Int} (h : inRange sp.length k = true) : ∃ (l1 : List SlotP) (s : SlotP) (l2 : List SlotP), sp = l1 ++ s :: l2 ∧ k = (l1.length : Int) := by
  obtain ⟨h0, h1⟩ : 0 ≤ k ∧ k < (sp.length : Int) := of_decide_eq_true h
  obtain ⟨i, rfl⟩ := Int.eq_ofNat_of_zero_le h0
  have hi : i < sp.length := by omega
  refine ⟨sp.take i, sp[i], sp.drop (i + 1), ?_, by rw [List.length_take, Nat.min_eq_left (by omega)]⟩
  rw [← List.drop_eq_getElem_cons hi, List.take_append_drop]

theorem lay_ok {W : World} {R : List SProp} {gm : FuncId} {cp : Array Value} (b : Nat) (D : BayD) (k e : Int) (kd : DiskD) (hcf : ∀ a w, (callFunc gm a).run Tryz.prog w = .ok (.enter gm a) w) (he : e = 0 ∨ e = 40)
    (hm : ∀ X : List SProp, Does W Tryz.prog gm cp.toList (X ++ R) (β := Nat) (fun _ => True) (fun d => if e = 0 then .tuple #[.pointer (some ⟨d, 0, none⟩), .int .u16 0] else .tuple #[.pointer none, .int .u16 e]) (fun d => if e = 0 then DiskR d kd :: (X ++ R) else X ++ R)) :
    Does1 W Tryz.prog 102 [.pointer (some ⟨b, 0, none⟩), .int .i64 k, .func (.func gm) #[] cp] (BayR b D :: R) (.int .u16 (D.lay k e kd).1) (BayR b (D.lay k e kd).2 :: R) := by
  (refine Does.enter Tryz.func102 Tryz.ntmps102 rfl rfl ?_)
  refine VC.obtain (fun w => BayR.open) ?_
  rintro ⟨⟨a, sp⟩, h1, h2⟩
  dsimp only at h1 h2 ⊢
  have hl : D.slots.length = sp.length := by rw [h1, List.length_map]
  (refine w ?_; repeat ((first | refine VO.step rfl rfl ?_ | refine VD.end rfl rfl rfl ?_ | refine VD.mid rfl rfl rfl ?_); refine OpV.box rfl rfl rfl ?_; intro _; refine w ?_))
  (((first | refine VO.step rfl rfl ?_ | refine VD.end rfl rfl rfl ?_ | refine VD.mid rfl rfl rfl ?_); refine OpV.call rfl rfl (fun _ _ => by simp) (bayat_ok (D := D) (a := a) (n := sp.length) b k h2) Ent.re rfl ?_); intro _ _)
  unfold slotAt BayD.lay BayD.layE
  cases hin : inRange sp.length k
  · (refine w ?_; repeat ((first | refine VO.step rfl rfl ?_ | refine VD.end rfl rfl rfl ?_ | refine VD.mid rfl rfl rfl ?_); refine OpV.box rfl rfl rfl ?_; intro _; refine w ?_))
    (refine VE.done1 rfl ?_ ?_)
    · rw [hl, hin]; rfl
    · rw [hl, hin]; exact BayR.shut h1 h2
  obtain ⟨l1, s, l2, rfl, rfl⟩ := range_split hin
  rw [hl, hin, slot_at h1]
  simp only [Bool.true_eq_false, if_false]
  (refine w ?_; repeat ((first | refine VO.step rfl rfl ?_ | refine VD.end rfl rfl rfl ?_ | refine VD.mid rfl rfl rfl ?_); refine OpV.box rfl rfl rfl ?_; intro _; refine w ?_))
  refine VO.ent bayOut ?_
  (((first | refine VO.step rfl rfl ?_ | refine VD.end rfl rfl rfl ?_ | refine VD.mid rfl rfl rfl ?_); refine OpV.call rfl rfl (fun _ _ => by simp) (taken_ok (a := a) (l1 := l1) (l2 := l2) (s := s)) Ent.re rfl ?_); intro _ _)
  (refine w ?_; repeat ((first | refine VO.step rfl rfl ?_ | refine VD.end rfl rfl rfl ?_ | refine VD.mid rfl rfl rfl ?_); refine OpV.box rfl rfl rfl ?_; intro _; refine w ?_))
  cases ht : s.D.taken
  · (refine w ?_; repeat ((first | refine VO.step rfl rfl ?_ | refine VD.end rfl rfl rfl ?_ | refine VD.mid rfl rfl rfl ?_); refine OpV.box rfl rfl rfl ?_; intro _; refine w ?_))
    refine VO.ent (Ent.re (L := devRes s.in_ :: slotsOwn a (l1 ++ s :: l2) :: devRes s.aside :: devRes s.coming :: bayRow b D a (l1 ++ s :: l2).length :: ((l1 ++ l2).map slotRes ++ R))) ?_
    have hm := hm (devRes s.in_ :: slotsOwn a (l1 ++ s :: l2) :: devRes s.aside :: devRes s.coming :: bayRow b D a (l1 ++ s :: l2).length :: (l1 ++ l2).map slotRes)
    rcases he with rfl | rfl
    · simp only [if_true] at hm
      (first | refine VO.step rfl rfl ?_ | refine VD.end rfl rfl rfl ?_ | refine VD.mid rfl rfl rfl ?_)
      refine OpV.call rfl rfl hcf hm Ent.refl rfl ?_
      intro d _
      dsimp only [List.cons_append]
      (refine w ?_; repeat ((first | refine VO.step rfl rfl ?_ | refine VD.end rfl rfl rfl ?_ | refine VD.mid rfl rfl rfl ?_); refine OpV.box rfl rfl rfl ?_; intro _; refine w ?_))
      (apply VO.pure rfl rfl; apply PureAt.build sb_76 rfl; (simp [buildX, setL, Value.cells]; rfl); rfl)
      (refine w ?_; repeat ((first | refine VO.step rfl rfl ?_ | refine VD.end rfl rfl rfl ?_ | refine VD.mid rfl rfl rfl ?_); refine OpV.box rfl rfl rfl ?_; intro _; refine w ?_))
      rename_i nr
      (first | refine VO.step rfl rfl ?_ | refine VD.end rfl rfl rfl ?_ | refine VD.mid rfl rfl rfl ?_)
      refine OpV.stO2 tab_ok rfl rfl rfl rfl (by (repeat first | exact .head | apply Hole.tail)) (slots_len 0 (by decide)) (slots_in (some ⟨nr, d, ⟨kd, false, 0⟩⟩)) ?_
      (refine w ?_; repeat ((first | refine VO.step rfl rfl ?_ | refine VD.end rfl rfl rfl ?_ | refine VD.mid rfl rfl rfl ?_); refine OpV.box rfl rfl rfl ?_; intro _; refine w ?_))
      (refine VE.done1 rfl ?_ ?_)
      · rfl
      · refine Ent.trans (Ent.re (L := devRow ⟨nr, d, ⟨kd, false, 0⟩⟩ :: DiskR d kd :: devRes s.aside :: devRes s.coming :: bayRow b D a (l1 ++ s :: l2).length :: Own 78 3 (.slice (some a) (l1 ++ s :: l2).length (l1 ++ s :: l2).length) (l1 ++ s :: l2).length ((l1 ++ { s with in_ := some ⟨nr, d, ⟨kd, false, 0⟩⟩ } :: l2).flatMap slotCells) :: ((l1 ++ l2).map slotRes ++ R))) ?_
        refine Ent.trans (devIn ⟨nr, d, ⟨kd, false, 0⟩⟩ _) ?_
        exact bayInS (D' := D.setSlot l1.length (SlotP.D { s with in_ := some ⟨nr, d, ⟨kd, false, 0⟩⟩ })) { s with in_ := some ⟨nr, d, ⟨kd, false, 0⟩⟩ } (by simp) (setSlot_slots h1 _) h2
    · simp only [show ¬ ((40 : Int) = 0) by decide, if_false] at hm
      (first | refine VO.step rfl rfl ?_ | refine VD.end rfl rfl rfl ?_ | refine VD.mid rfl rfl rfl ?_)
      refine OpV.call rfl rfl hcf hm Ent.refl rfl ?_
      intro d _
      dsimp only [List.cons_append]
      (refine w ?_; repeat ((first | refine VO.step rfl rfl ?_ | refine VD.end rfl rfl rfl ?_ | refine VD.mid rfl rfl rfl ?_); refine OpV.box rfl rfl rfl ?_; intro _; refine w ?_))
      (refine VE.done1 rfl ?_ ?_)
      · rfl
      · exact Ent.trans (Ent.trans Ent.re bayIn) (BayR.shut h1 h2)
  · (refine w ?_; repeat ((first | refine VO.step rfl rfl ?_ | refine VD.end rfl rfl rfl ?_ | refine VD.mid rfl rfl rfl ?_); refine OpV.box rfl rfl rfl ?_; intro _; refine w ?_))
    (refine VE.done1 rfl ?_ ?_)
    · rfl
    · exact Ent.trans (Ent.trans Ent.re bayIn) (BayR.shut h1 h2)

def newE (n : Int) : Int := if 1 ≤ n ∧ n ≤ 8192 then 0 else 40
def BayD.swap (D : BayD) (k n : Int) : Int × BayD := if n < 0 then (1, D) else D.lay k (newE n) (.blank n.toNat)
def loadE (n : Nat) : Int := if n % 128 = 0 ∧ 1 ≤ n / 128 ∧ n / 128 ≤ 8192 then 0 else 40
def BayD.load (D : BayD) (k : Int) (l : List UInt8) : Int × BayD := D.lay k (loadE l.length) ⟨chunks l (l.length / 128), [], false⟩

theorem loadE_cases (n : Nat) : loadE n = 0 ∨ loadE n = 40 := by unfold loadE; split <;> simp

def BayD.push (D : BayD) (k : Int) : Int × BayD :=
  if inRange D.slots.length k = false then (1, D) else if (D.slot k).aside.isNone then (51, D) else if (D.slot k).taken then (52, D) else (0, D.setSlot k.toNat ⟨(D.slot k).in_, none, (D.slot k).aside⟩)
theorem baypush_ok {W : World} {R : List SProp} (b : Nat) (D : BayD) (k : Int) :
    Does1 W Tryz.prog 72 [.pointer (some ⟨b, 0, none⟩), .int .i64 k] (BayR b D :: R) (.int .u16 (D.push k).1) (BayR b (D.push k).2 :: R) := by
  (refine Does.enter Tryz.func72 Tryz.ntmps72 rfl rfl ?_)
  refine VC.obtain (fun w => BayR.open) ?_
  rintro ⟨⟨a, sp⟩, h1, h2⟩
  dsimp only at h1 h2 ⊢
  have hl : D.slots.length = sp.length := by rw [h1, List.length_map]
  (refine w ?_; repeat ((first | refine VO.step rfl rfl ?_ | refine VD.end rfl rfl rfl ?_ | refine VD.mid rfl rfl rfl ?_); refine OpV.box rfl rfl rfl ?_; intro _; refine w ?_))
  (((first | refine VO.step rfl rfl ?_ | refine VD.end rfl rfl rfl ?_ | refine VD.mid rfl rfl rfl ?_); refine OpV.call rfl rfl (fun _ _ => by simp) (bayat_ok (D := D) (a := a) (n := sp.length) b k h2) Ent.re rfl ?_); intro _ _)
  unfold slotAt BayD.push
  cases hin : inRange sp.length k
  · (refine w ?_; repeat ((first | refine VO.step rfl rfl ?_ | refine VD.end rfl rfl rfl ?_ | refine VD.mid rfl rfl rfl ?_); refine OpV.box rfl rfl rfl ?_; intro _; refine w ?_))
    (refine VE.done1 rfl ?_ ?_)
    · rw [hl, hin]; rfl
    · rw [hl, hin]; exact BayR.shut h1 h2
  obtain ⟨l1, s, l2, rfl, rfl⟩ := range_split hin
  rw [hl, hin, slot_at h1]
  simp only [Bool.true_eq_false, if_false]
  have c1 := slots_get (l1 ++ s :: l2) l1.length 1 (by simp) (by decide)
  simp only [List.getElem_append_right (Nat.le_refl _), Nat.sub_self, List.getElem_cons_zero] at c1
  (refine w ?_; repeat ((first | refine VO.step rfl rfl ?_ | refine VD.end rfl rfl rfl ?_ | refine VD.mid rfl rfl rfl ?_); refine OpV.box rfl rfl rfl ?_; intro _; refine w ?_))
  (first | refine VO.pure rfl rfl (.ldRc tab_ok rfl rfl (slots_rds (by (focus repeat first | exact .head _ | apply List.Mem.tail))) (c1.trans rfl)) rfl ?_ | refine VD.take rfl rfl rfl (.ldRc tab_ok rfl rfl (slots_rds (by (focus repeat first | exact .head _ | apply List.Mem.tail))) (c1.trans rfl)) rfl ?_ | refine VQ.pure rfl rfl (.ldRc tab_ok rfl rfl (slots_rds (by (focus repeat first | exact .head _ | apply List.Mem.tail))) (c1.trans rfl)) rfl ?_ | refine VD.end rfl rfl rfl (OpV.pure (.ldRc tab_ok rfl rfl (slots_rds (by (focus repeat first | exact .head _ | apply List.Mem.tail))) (c1.trans rfl)) rfl ?_))
  rw [show s.D.aside = s.aside.map DevP.v from rfl]
  cases hs : s.aside with
  | none =>
    dsimp only [devPtr, Option.map_none]
    (refine w ?_; repeat ((first | refine VO.step rfl rfl ?_ | refine VD.end rfl rfl rfl ?_ | refine VD.mid rfl rfl rfl ?_); refine OpV.box rfl rfl rfl ?_; intro _; refine w ?_))
    (refine VE.done1 rfl ?_ ?_)
    · rfl
    · exact BayR.shut h1 h2
  | some q =>
    dsimp only [devPtr, Option.map_some]
    simp only [Option.isNone_some, Bool.false_eq_true, if_false]
    (refine w ?_; repeat ((first | refine VO.step rfl rfl ?_ | refine VD.end rfl rfl rfl ?_ | refine VD.mid rfl rfl rfl ?_); refine OpV.box rfl rfl rfl ?_; intro _; refine w ?_))
    refine VO.ent bayOut ?_
    (((first | refine VO.step rfl rfl ?_ | refine VD.end rfl rfl rfl ?_ | refine VD.mid rfl rfl rfl ?_); refine OpV.call rfl rfl (fun _ _ => by simp) (taken_ok (a := a) (l1 := l1) (l2 := l2) (s := s)) Ent.re rfl ?_); intro _ _)
    (refine w ?_; repeat ((first | refine VO.step rfl rfl ?_ | refine VD.end rfl rfl rfl ?_ | refine VD.mid rfl rfl rfl ?_); refine OpV.box rfl rfl rfl ?_; intro _; refine w ?_))
    cases ht : s.D.taken
    · (refine w ?_; repeat ((first | refine VO.step rfl rfl ?_ | refine VD.end rfl rfl rfl ?_ | refine VD.mid rfl rfl rfl ?_); refine OpV.box rfl rfl rfl ?_; intro _; refine w ?_))
      (first | refine VO.pure rfl rfl (.ldRc tab_ok rfl rfl (slots_rds (by (focus repeat first | exact .head _ | apply List.Mem.tail))) (c1.trans rfl)) rfl ?_ | refine VD.take rfl rfl rfl (.ldRc tab_ok rfl rfl (slots_rds (by (focus repeat first | exact .head _ | apply List.Mem.tail))) (c1.trans rfl)) rfl ?_ | refine VQ.pure rfl rfl (.ldRc tab_ok rfl rfl (slots_rds (by (focus repeat first | exact .head _ | apply List.Mem.tail))) (c1.trans rfl)) rfl ?_ | refine VD.end rfl rfl rfl (OpV.pure (.ldRc tab_ok rfl rfl (slots_rds (by (focus repeat first | exact .head _ | apply List.Mem.tail))) (c1.trans rfl)) rfl ?_))
      (refine w ?_; repeat ((first | refine VO.step rfl rfl ?_ | refine VD.end rfl rfl rfl ?_ | refine VD.mid rfl rfl rfl ?_); refine OpV.box rfl rfl rfl ?_; intro _; refine w ?_))
      (first | refine VO.step rfl rfl ?_ | refine VD.end rfl rfl rfl ?_ | refine VD.mid rfl rfl rfl ?_)
      refine OpV.stO2 tab_ok rfl rfl rfl rfl (by (repeat first | exact .head | apply Hole.tail)) (slots_len 1 (by decide)) (slots_aside none) ?_
      (refine w ?_; repeat ((first | refine VO.step rfl rfl ?_ | refine VD.end rfl rfl rfl ?_ | refine VD.mid rfl rfl rfl ?_); refine OpV.box rfl rfl rfl ?_; intro _; refine w ?_))
      (first | refine VO.step rfl rfl ?_ | refine VD.end rfl rfl rfl ?_ | refine VD.mid rfl rfl rfl ?_)
      refine OpV.stO2 tab_ok rfl rfl rfl rfl (by (repeat first | exact .head | apply Hole.tail)) (by rw [← slots_aside (s := s) none, List.length_set]; exact slots_len 2 (by decide)) (slots_coming s.aside) ?_
      (refine w ?_; repeat ((first | refine VO.step rfl rfl ?_ | refine VD.end rfl rfl rfl ?_ | refine VD.mid rfl rfl rfl ?_); refine OpV.box rfl rfl rfl ?_; intro _; refine w ?_))
      (refine VE.done1 rfl ?_ ?_)
      · rfl
      · refine Ent.trans (Ent.re (L := devRes s.in_ :: devRes s.aside :: bayRow b D a (l1 ++ s :: l2).length :: Own 78 3 (.slice (some a) (l1 ++ s :: l2).length (l1 ++ s :: l2).length) (l1 ++ s :: l2).length ((l1 ++ ⟨s.in_, none, s.aside⟩ :: l2).flatMap slotCells) :: ((l1 ++ l2).map slotRes ++ R))) ?_
        refine Ent.trans (devNone _) ?_
        refine Ent.trans (Ent.re (L := devRes s.in_ :: devRes none :: devRes s.aside :: bayRow b D a (l1 ++ s :: l2).length :: Own 78 3 (.slice (some a) (l1 ++ s :: l2).length (l1 ++ s :: l2).length) (l1 ++ s :: l2).length ((l1 ++ ⟨s.in_, none, s.aside⟩ :: l2).flatMap slotCells) :: ((l1 ++ l2).map slotRes ++ R))) ?_
        have e : (some q.v) = s.D.aside := by rw [show s.D.aside = s.aside.map DevP.v from rfl, hs]; rfl
        rw [e]
        exact bayInS (D' := D.setSlot l1.length (SlotP.D ⟨s.in_, none, s.aside⟩)) ⟨s.in_, none, s.aside⟩ (by simp) (setSlot_slots h1 _) h2
    · (refine w ?_; repeat ((first | refine VO.step rfl rfl ?_ | refine VD.end rfl rfl rfl ?_ | refine VD.mid rfl rfl rfl ?_); refine OpV.box rfl rfl rfl ?_; intro _; refine w ?_))
      (refine VE.done1 rfl ?_ ?_)
      · rfl
      · exact Ent.trans (Ent.trans Ent.re bayIn) (BayR.shut h1 h2)
end Go.Proofs.YtpmmkmcbimnigaaGreat

/-! Text Be. -/
/- Package bay: Cut, New. -/
set_option maxRecDepth 8000
set_option linter.unusedVariables false
set_option linter.unusedSimpArgs false
set_option linter.unusedSectionVars false
namespace Go.Proofs.YtpmmkmcbimnigaaGreat
open Go.RowKit Go.Sl
attribute [local irreducible] Own

/-! ### What is kept of each slot's disk -/
structure KeepD where
  ao : Option Addr
  cap : Nat
  l : List Bool
abbrev KeepD.hdr (x : KeepD) : Value := .slice x.ao x.l.length x.cap
/-- The slice of what is kept: its headers can be read, and so can what they lead to. -/
structure Keeps (W : World) (R : List SProp) (ao : Option Addr) (kl : List KeepD) : Prop where
  rds : Rds W R 1 ao kl.length (kl.map KeepD.hdr)
  wf : ∀ x ∈ kl, Rds W R 1 x.ao x.l.length (bools x.l)
theorem Keeps.ent {W : World} {H R : List SProp} {ao : Option Addr} {kl : List KeepD} (h : Keeps W R ao kl) (e : Ent W H R) : Keeps W H ao kl := ⟨h.rds.ent e, fun x hx => (h.wf x hx).ent e⟩

def SlotD.cut (s : SlotD) (l : List Bool) : SlotD :=
  if s.coming.isSome then ⟨s.coming, s.aside, none⟩ else ⟨s.in_.map fun v => ⟨v.k.settle (keepOf l), v.worn, v.left⟩, s.aside, none⟩
def BayD.cut (D : BayD) (kl : List (List Bool)) : BayD := { D with slots := D.slots.mapIdx fun i s => s.cut (kl.getD i []), dark := false, trip := -1 }

end Go.Proofs.YtpmmkmcbimnigaaGreat

/-! Text Bf. -/
/- Package bay: New. -/
set_option maxRecDepth 8000
set_option linter.unusedVariables false
set_option linter.unusedSimpArgs false
set_option linter.unusedSectionVars false
namespace Go.Proofs.YtpmmkmcbimnigaaGreat
open Go.RowKit Go.Sl
attribute [local irreducible] Own

def intsI (l : List Int) : List Value := l.map fun n => .int .i64 n
@[simp] theorem intsI_length (l : List Int) : (intsI l).length = l.length := by simp [intsI]
theorem intsI_one (l : List Int) : ∀ u ∈ intsI l, u.oneCell' = true := by
  intro u hu; obtain ⟨c, _, rfl⟩ := List.mem_map.1 hu; rfl
theorem intsI_get (l : List Int) (i : Nat) (h : i < l.length) : (intsI l)[i]? = some (.int .i64 l[i]) := by simp [intsI, h]

def sizeOk (n : Int) : Bool := decide (0 ≤ n ∧ n ≤ 8192)
def bayE (l : List Int) : Int := if l.length < 1 ∨ 17 < l.length then 1 else if l.all sizeOk then 0 else 40
def slotOf (n : Int) : SlotD := if n = 0 then ⟨none, none, none⟩ else ⟨some ⟨.blank n.toNat, false, 0⟩, none, none⟩
def BayD.new (l : List Int) : BayD := ⟨l.map slotOf, false, -1, ⟨0, 0, 0⟩⟩
def noneP : SlotP := ⟨none, none, none⟩

theorem st_slots : SliceT Tryz.prog 68 78 (.agg #[.pointer none, .pointer none, .pointer none]) 3 24 := ⟨by kernel_rfl, by kernel_rfl, rfl, by simp [Value.cells, Value.oneCell']⟩

theorem addSlot {W : World} {A B : SProp} (dn : List SlotP) (s : SlotP) (R : List SProp) : Ent W (devRes s.in_ :: devRes s.aside :: devRes s.coming :: A :: B :: (dn.map slotRes ++ R)) (A :: B :: ((dn ++ [s]).map slotRes ++ R)) := fun w hw => by
  have h := Holds.nest (L := [devRes s.in_, devRes s.aside, devRes s.coming]) hw
  refine Holds.perm ?_ h
  have p1 : (A :: B :: ((dn ++ [s]).map slotRes ++ R)).Perm (A :: B :: slotRes s :: (dn.map slotRes ++ R)) := by
    refine List.Perm.cons _ (List.Perm.cons _ ?_)
    rw [List.map_append, List.append_assoc]
    exact List.perm_middle
  refine List.Perm.trans ?_ p1.symm
  exact List.Perm.append_right (dn.map slotRes ++ R) (show [slotRes s, A, B].Perm [A, B, slotRes s] from List.perm_append_comm (l₁ := [slotRes s]) (l₂ := [A, B]))
theorem addNone {W : World} {A B : SProp} (dn : List SlotP) (R : List SProp) : Ent W (A :: B :: (dn.map slotRes ++ R)) (A :: B :: ((dn ++ [noneP]).map slotRes ++ R)) :=
  (((devNone _).trans (devNone _)).trans (devNone _)).trans (addSlot dn noneP R)

set_option maxHeartbeats 1000000 in
theorem baynew_ok {W : World} {R : List SProp} {ao : Option Addr} {cap : Nat} {l : List Int} (hr : Rds W R 1 ao l.length (intsI l)) (hlen : l.length ≤ 1000000000) :
    Does W Tryz.prog 4 [.slice ao l.length cap] R (β := Option Nat) (fun x => x.isSome = decide (bayE l = 0)) (fun x => .tuple #[.pointer (x.map fun b => ⟨b, 0, none⟩), .int .u16 (bayE l)]) (fun x => x.elim R fun b => BayR b (BayD.new l) :: R) := by
  (refine Does.enter Tryz.func4 Tryz.ntmps4 rfl rfl ?_)
  (refine w ?_; repeat ((first | refine VO.step rfl rfl ?_ | refine VD.end rfl rfl rfl ?_ | refine VD.mid rfl rfl rfl ?_); refine OpV.box rfl rfl rfl ?_; intro _; refine w ?_))
  unfold bayE
  ((first | refine VO.split rfl rfl rfl ?_ ?_ | refine VD.split rfl rfl rfl ?_ ?_) <;> intro hb)
  · have h : l.length < 1 := by have := of_decide_eq_true hb; omega
    (refine w ?_; repeat ((first | refine VO.step rfl rfl ?_ | refine VD.end rfl rfl rfl ?_ | refine VD.mid rfl rfl rfl ?_); refine OpV.box rfl rfl rfl ?_; intro _; refine w ?_))
    refine VE.done none rfl (by rw [if_pos (Or.inl h)]; rfl) (by rw [if_pos (Or.inl h)]; rfl) Ent.refl
  have h1 : ¬ l.length < 1 := by have := of_decide_eq_false hb; omega
  (refine w ?_; repeat ((first | refine VO.step rfl rfl ?_ | refine VD.end rfl rfl rfl ?_ | refine VD.mid rfl rfl rfl ?_); refine OpV.box rfl rfl rfl ?_; intro _; refine w ?_))
  (refine VC.cond rfl rfl ?_ ?_ <;> intro hc)
  · have h : 17 < l.length := by have : (17 : Int) < l.length := (by simpa using hc); omega
    (refine w ?_; repeat ((first | refine VO.step rfl rfl ?_ | refine VD.end rfl rfl rfl ?_ | refine VD.mid rfl rfl rfl ?_); refine OpV.box rfl rfl rfl ?_; intro _; refine w ?_))
    refine VE.done none rfl (by rw [if_pos (Or.inr h)]; rfl) (by rw [if_pos (Or.inr h)]; rfl) Ent.refl
  have h2 : ¬ 17 < l.length := by have : (l.length : Int) ≤ 17 := (by simpa using hc); omega
  rw [if_neg (by omega)]
  (refine w ?_; repeat ((first | refine VO.step rfl rfl ?_ | refine VD.end rfl rfl rfl ?_ | refine VD.mid rfl rfl rfl ?_); refine OpV.box rfl rfl rfl ?_; intro _; refine w ?_))
  (first | refine VO.step rfl rfl ?_ | refine VD.end rfl rfl rfl ?_ | refine VD.mid rfl rfl rfl ?_)
  refine OpV.makeSlice st_slots rfl rfl (by omega) (by simp only [maxLen]; omega) rfl ?_
  intro nb
  have e0 : (madeCells (Value.agg #[.pointer none, .pointer none, .pointer none]).cells (l.length * 3)).toList = (List.replicate l.length noneP).flatMap slotCells := by
    have := madeCells_same (.pointer none) 3 (l.length * 3) (by decide)
    have e : ∀ n : Nat, (List.replicate n noneP).flatMap slotCells = List.replicate (n * 3) (.pointer none) := by
      intro n
      induction n with
      | zero => rfl
      | succ n ih => rw [List.replicate_succ, List.flatMap_cons, ih, Nat.add_mul, Nat.one_mul, Nat.add_comm, ← List.replicate_append_replicate]; rfl
    rw [e]; exact this
  rw [e0]
  (apply VO.pure rfl rfl; apply PureAt.build sb_70 rfl; (simp [buildX, setL, Value.cells]; rfl); rfl)
  (refine w ?_; repeat ((first | refine VO.step rfl rfl ?_ | refine VD.end rfl rfl rfl ?_ | refine VD.mid rfl rfl rfl ?_); refine OpV.box rfl rfl rfl ?_; intro _; refine w ?_))
  rename_i b
  refine VC.loop (α := List SlotP) (fun dn => dn.length ≤ l.length ∧ dn.map SlotP.D = (l.map slotOf).take dn.length ∧ (l.take dn.length).all sizeOk = true)
    (fun dn => bayRow b (BayD.new l) ⟨nb, 0, none⟩ l.length :: Own 78 3 (.slice (some ⟨nb, 0, none⟩) l.length l.length) l.length ((dn ++ List.replicate (l.length - dn.length) noneP).flatMap slotCells) :: (dn.map slotRes ++ R))
    (fun dn => [(4, .pointer (some ⟨b, 0, none⟩)), (22, .slice ao l.length cap), (23, .int .i64 l.length), (24, .int .i64 dn.length)]) (fun dn => l.length - dn.length) rfl [] ⟨Nat.zero_le _, rfl, rfl⟩ (by simp only [List.length_nil, Nat.sub_zero, List.nil_append]; exact Ent.re) ⟨rfl, rfl, rfl, rfl, trivial⟩ ?_
  rintro dn ⟨hdn, hdD, hall⟩
  (refine w ?_; repeat ((first | refine VO.step rfl rfl ?_ | refine VD.end rfl rfl rfl ?_ | refine VD.mid rfl rfl rfl ?_); refine OpV.box rfl rfl rfl ?_; intro _; refine w ?_))
  (refine VC.cond rfl rfl ?_ ?_ <;> intro hc)
  · have hlt : dn.length < l.length := by have := of_decide_eq_true hc; omega
    obtain ⟨ka, rfl⟩ : ∃ ka, ao = some ka := by cases ao with | none => have := hr.nil rfl; omega | some ka => exact ⟨ka, rfl⟩
    have hr2 := fun A B => hr.ent (Ent.dropAll (W := W) (R := R) (A :: B :: dn.map slotRes))
    (refine w ?_; repeat ((first | refine VO.step rfl rfl ?_ | refine VD.end rfl rfl rfl ?_ | refine VD.mid rfl rfl rfl ?_); refine OpV.box rfl rfl rfl ?_; intro _; refine w ?_))
    (first | refine VO.pure rfl rfl (.ldRc tab_ok rfl rfl (hr2 _ _) (intsI_get l dn.length hlt)) rfl ?_ | refine VD.take rfl rfl rfl (.ldRc tab_ok rfl rfl (hr2 _ _) (intsI_get l dn.length hlt)) rfl ?_ | refine VQ.pure rfl rfl (.ldRc tab_ok rfl rfl (hr2 _ _) (intsI_get l dn.length hlt)) rfl ?_ | refine VD.end rfl rfl rfl (OpV.pure (.ldRc tab_ok rfl rfl (hr2 _ _) (intsI_get l dn.length hlt)) rfl ?_))
    (refine w ?_; repeat ((first | refine VO.step rfl rfl ?_ | refine VD.end rfl rfl rfl ?_ | refine VD.mid rfl rfl rfl ?_); refine OpV.box rfl rfl rfl ?_; intro _; refine w ?_))
    generalize hn : l[dn.length] = n at *
    have hrep : List.replicate (l.length - dn.length) noneP = noneP :: List.replicate (l.length - (dn.length + 1)) noneP := by rw [show l.length - dn.length = (l.length - (dn.length + 1)) + 1 by omega, List.replicate_succ]
    have hstep : ∀ s : SlotP, s.D = slotOf n → (dn ++ [s]).map SlotP.D = (l.map slotOf).take (dn ++ [s]).length := by
      intro s hs
      rw [List.length_append, List.length_singleton, List.map_append, hdD, List.take_succ_eq_append_getElem (by simpa using hlt)]
      simp [hs, hn]
    have hall2 : ∀ s : SlotP, sizeOk n = true → (l.take (dn ++ [s]).length).all sizeOk = true := by
      intro s hs
      rw [List.length_append, List.length_singleton, List.take_succ_eq_append_getElem hlt, List.all_append, hall, hn]; simp [hs]
    (refine VC.cond rfl rfl ?_ ?_ <;> intro hc)
    · have h0 : n = 0 := by simpa using hc
      (refine w ?_; repeat ((first | refine VO.step rfl rfl ?_ | refine VD.end rfl rfl rfl ?_ | refine VD.mid rfl rfl rfl ?_); refine OpV.box rfl rfl rfl ?_; intro _; refine w ?_))
      refine VE.round (dn ++ [noneP]) ⟨by rw [List.length_append, List.length_singleton]; omega, hstep _ (by rw [h0]; rfl), hall2 _ (by rw [h0]; rfl)⟩ (by rw [List.length_append, List.length_singleton]; omega) ⟨rfl, rfl, rfl, asV rfl (by simp), trivial⟩ ?_
      rw [hrep, List.length_append, List.length_singleton, List.append_assoc]
      exact addNone dn R
    · have h0 : ¬ n = 0 := by simpa using hc
      (refine w ?_; repeat ((first | refine VO.step rfl rfl ?_ | refine VD.end rfl rfl rfl ?_ | refine VD.mid rfl rfl rfl ?_); refine OpV.box rfl rfl rfl ?_; intro _; refine w ?_))
      by_cases hs : sizeOk n = true
      · obtain ⟨g1, g2⟩ : 0 ≤ n ∧ n ≤ 8192 := of_decide_eq_true hs
        obtain ⟨m, rfl⟩ := Int.eq_ofNat_of_zero_le g1
        ((first | refine VO.step rfl rfl ?_ | refine VD.end rfl rfl rfl ?_ | refine VD.mid rfl rfl rfl ?_); refine OpV.call rfl rfl (fun _ _ => by simp) (disknew_ok m (by omega) (by omega)) Ent.re rfl ?_)
        intro d _
        (refine w ?_; repeat ((first | refine VO.step rfl rfl ?_ | refine VD.end rfl rfl rfl ?_ | refine VD.mid rfl rfl rfl ?_); refine OpV.box rfl rfl rfl ?_; intro _; refine w ?_))
        (apply VO.pure rfl rfl; apply PureAt.build sb_76 rfl; (simp [buildX, setL, Value.cells]; rfl); rfl)
        (refine w ?_; repeat ((first | refine VO.step rfl rfl ?_ | refine VD.end rfl rfl rfl ?_ | refine VD.mid rfl rfl rfl ?_); refine OpV.box rfl rfl rfl ?_; intro _; refine w ?_))
        rename_i nr
        rw [hrep]
        (first | refine VO.step rfl rfl ?_ | refine VD.end rfl rfl rfl ?_ | refine VD.mid rfl rfl rfl ?_)
        refine OpV.stO2 tab_ok rfl rfl rfl rfl (by (repeat first | exact .head | apply Hole.tail)) (slots_len 0 (by decide)) (slots_in (some ⟨nr, d, ⟨⟨List.replicate m zeroSec, [], false⟩, false, 0⟩⟩)) ?_
        (refine w ?_; repeat ((first | refine VO.step rfl rfl ?_ | refine VD.end rfl rfl rfl ?_ | refine VD.mid rfl rfl rfl ?_); refine OpV.box rfl rfl rfl ?_; intro _; refine w ?_))
        refine VE.round (dn ++ [⟨some ⟨nr, d, ⟨⟨List.replicate m zeroSec, [], false⟩, false, 0⟩⟩, none, none⟩]) ⟨by rw [List.length_append, List.length_singleton]; omega, hstep _ ?_, hall2 _ hs⟩ (by rw [List.length_append, List.length_singleton]; omega) ⟨rfl, rfl, rfl, asV rfl (by simp), trivial⟩ ?_
        · unfold slotOf; rw [if_neg h0]; rfl
        · rw [List.length_append, List.length_singleton, List.append_assoc]
          refine Ent.trans (Ent.re (L := devRow ⟨nr, d, ⟨⟨List.replicate m zeroSec, [], false⟩, false, 0⟩⟩ :: DiskR d ⟨List.replicate m zeroSec, [], false⟩ :: bayRow b (BayD.new l) ⟨nb, 0, none⟩ l.length :: Own 78 3 (.slice (some ⟨nb, 0, none⟩) l.length l.length) l.length ((dn ++ ⟨some ⟨nr, d, ⟨⟨List.replicate m zeroSec, [], false⟩, false, 0⟩⟩, none, none⟩ :: List.replicate (l.length - (dn.length + 1)) noneP).flatMap slotCells) :: (dn.map slotRes ++ R))) ?_
          refine Ent.trans (devIn ⟨nr, d, ⟨⟨List.replicate m zeroSec, [], false⟩, false, 0⟩⟩ _) ?_
          refine Ent.trans (devNone _) ?_
          refine Ent.trans (devNone _) ?_
          refine Ent.trans (Ent.re (L := devRes (some ⟨nr, d, ⟨⟨List.replicate m zeroSec, [], false⟩, false, 0⟩⟩) :: devRes none :: devRes none :: bayRow b (BayD.new l) ⟨nb, 0, none⟩ l.length :: Own 78 3 (.slice (some ⟨nb, 0, none⟩) l.length l.length) l.length ((dn ++ ⟨some ⟨nr, d, ⟨⟨List.replicate m zeroSec, [], false⟩, false, 0⟩⟩, none, none⟩ :: List.replicate (l.length - (dn.length + 1)) noneP).flatMap slotCells) :: (dn.map slotRes ++ R))) ?_
          exact addSlot dn ⟨some ⟨nr, d, ⟨⟨List.replicate m zeroSec, [], false⟩, false, 0⟩⟩, none, none⟩ R
      · have hs2 : n < 1 ∨ 8192 < n := by
          have : ¬ (0 ≤ n ∧ n ≤ 8192) := fun h => hs (decide_eq_true h)
          omega
        (((first | refine VO.step rfl rfl ?_ | refine VD.end rfl rfl rfl ?_ | refine VD.mid rfl rfl rfl ?_); refine OpV.call rfl rfl (fun _ _ => by simp) (disknew_bad n hs2) Ent.re rfl ?_); intro _ _)
        (refine w ?_; repeat ((first | refine VO.step rfl rfl ?_ | refine VD.end rfl rfl rfl ?_ | refine VD.mid rfl rfl rfl ?_); refine OpV.box rfl rfl rfl ?_; intro _; refine w ?_))
        have hno : l.all sizeOk = false := by
          rw [Bool.eq_false_iff]
          intro h
          rw [List.all_eq_true] at h
          exact hs (h n (by rw [← hn]; exact List.getElem_mem hlt))
        refine VE.done none rfl (by simp [hno]) (by simp [hno]) ?_
        exact Ent.dropAll (_ :: _ :: dn.map slotRes)
  · have hge : dn.length = l.length := by have := of_decide_eq_false hc; omega
    (refine w ?_; repeat ((first | refine VO.step rfl rfl ?_ | refine VD.end rfl rfl rfl ?_ | refine VD.mid rfl rfl rfl ?_); refine OpV.box rfl rfl rfl ?_; intro _; refine w ?_))
    rw [hge, List.take_of_length_le (Nat.le_refl _)] at hall
    refine VE.done (some b) rfl (by simp [hall]) (by simp [hall]) ?_
    rw [hge, List.take_of_length_le (by simp)] at hdD
    rw [hge, Nat.sub_self, List.replicate_zero, List.append_nil, ← hge]
    exact BayR.shut (D := BayD.new l) hdD.symm (by omega)
end Go.Proofs.YtpmmkmcbimnigaaGreat

/-! Text Lp. -/
/- Raw bytes, fills, and the law's own call of a packer. -/
set_option maxRecDepth 8000
set_option linter.unusedVariables false
set_option linter.unusedSimpArgs false
set_option linter.unusedSectionVars false
namespace Go.Proofs.YtpmmkmcbimnigaaGreat
open Go.RowKit Go.Sl

/-- What was put, and a few bytes behind it. -/
def Pk.raw (k : Pk) (l : List UInt8) : Pk := if (k.room l.length).bad = 0 then { k with had := k.had ++ l } else k.room l.length
def Pk.fill (k : Pk) (n : Int) (c : UInt8) : Pk := if n ≤ 0 then k else if (k.room n).bad = 0 then { k with had := k.had ++ List.replicate n.toNat c } else k.room n

end Go.Proofs.YtpmmkmcbimnigaaGreat

/-! Text Lq. -/
/- Scripts of calls: the law's data, 'much', 'puts'. -/
set_option maxRecDepth 8000
set_option linter.unusedVariables false
set_option linter.unusedSimpArgs false
set_option linter.unusedSectionVars false
namespace Go.Proofs.YtpmmkmcbimnigaaGreat
open Go.RowKit Go.Sl

structure OpD where
  kind : Int
  v : Nat
  n : Int
  ao : Option Addr
  cap : Nat
  b : List UInt8
abbrev OpD.cells (o : OpD) : List Value := [.int .i64 o.kind, .int .u64 o.v, .int .i64 o.n, .slice o.ao o.b.length o.cap]
structure OpD.wf (W : World) (o : OpD) : Prop where
  v : o.v < 2 ^ 64
  n1 : -9223372036854775808 ≤ o.n
  n2 : o.n ≤ 9223372036854775807
  b : RdsA W 1 o.ao o.b.length (bytes o.b)
  big : o.b.length ≤ 140737488355328
end Go.Proofs.YtpmmkmcbimnigaaGreat

