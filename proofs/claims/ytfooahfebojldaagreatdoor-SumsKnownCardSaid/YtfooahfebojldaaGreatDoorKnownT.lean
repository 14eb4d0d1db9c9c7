/-
  PROVED HERE: what some calls that lodger/lodgerlaw19.SumsKnown makes answer, by runs of the abstract evaluator that the kernel carries out. Conditions: none beside the row's own.
-/
import Derived.Test.YtfooahfebojldaaGreatDoorAed
import Derived.Test.YtfooahfebojldaaGreatDoorCards
import Derived.Test.YtfooahfebojldaaGreatDoorTie
import Derived.ProofKit
import Derived.OpenShut
import Derived.LaidMore
import Derived.Lay
import Derived.SevenTiedAt
import Derived.Stop.Joined
namespace Go.Proofs.YtfooahfebojldaaGreatDoor
open Go.ChangeShapes Go.WideShapes Go.ChangeAt Go.RowKit AEv
set_option maxRecDepth 100000

theorem known_own : ownKnob Tryz.prog.godebug = none := by kernel_rfl
theorem known_laidOut : laidOutB Tryz.prog = true := by kernel_rfl
theorem known_fit : Fit Tryz.prog := fit_of (by kernel_rfl) (by kernel_rfl) (by kernel_rfl)
theorem known_shape : shapeB Tryz.prog = true := by kernel_rfl
def known_e0 : Ent := ⟨116, [.str [120, 47, 121, 46, 84], .str ([97, 98, 99, 100, 101, 102, 103, 104, 105, 106, 107, 108, 109, 110, 111, 112, 113, 114, 115, 116, 117, 118, 119, 120, 121, 122, 65, 66, 67, 68, 69, 70, 71, 72, 73, 74, 75, 76, 77, 78, 79, 80, 81, 82, 83, 84, 85, 86, 87, 88, 89, 90, 48, 49, 50, 51, 52, 53, 54, 55, 56, 57, 95, 45, 47, 46])], .str []⟩
theorem known_k0 : entB Tryz.prog (tabIntr []) 400 known_e0 = true := by kernel_rfl
theorem known_ok0 : EntOK Tryz.prog known_e0 := entOK_of known_fit (T := []) trivial known_k0
def known_e1 : Ent := ⟨116, [.str [112], .str ([97, 98, 99, 100, 101, 102, 103, 104, 105, 106, 107, 108, 109, 110, 111, 112, 113, 114, 115, 116, 117, 118, 119, 120, 121, 122, 65, 66, 67, 68, 69, 70, 71, 72, 73, 74, 75, 76, 77, 78, 79, 80, 81, 82, 83, 84, 85, 86, 87, 88, 89, 90, 48, 49, 50, 51, 52, 53, 54, 55, 56, 57, 95])], .str []⟩
theorem known_k1 : entB Tryz.prog (tabIntr []) 400 known_e1 = true := by kernel_rfl
theorem known_ok1 : EntOK Tryz.prog known_e1 := entOK_of known_fit (T := []) trivial known_k1
def known_e2 : Ent := ⟨150, [.str [48, 49, 50, 51, 52, 53, 54, 55, 56, 57], .str [112]], .int .i64 (-1)⟩
theorem known_k2 : entB Tryz.prog (tabIntr []) 400 known_e2 = true := by kernel_rfl
theorem known_ok2 : EntOK Tryz.prog known_e2 := entOK_of known_fit (T := []) trivial known_k2
def known_e3 : Ent := ⟨118, [.str [48, 49, 50, 51, 52, 53, 54, 55, 56, 57], .str [112]], .bool false⟩
theorem known_k3 : entB Tryz.prog (tabIntr [known_e2]) 400 known_e3 = true := by kernel_rfl
theorem known_ok3 : EntOK Tryz.prog known_e3 := entOK_of known_fit (T := [known_e2]) ⟨known_ok2, trivial⟩ known_k3
def known_e4 : Ent := ⟨107, [.str [112]], .bool true⟩
theorem known_k4 : entB Tryz.prog (tabIntr [known_e1, known_e3]) 400 known_e4 = true := by kernel_rfl
theorem known_ok4 : EntOK Tryz.prog known_e4 := entOK_of known_fit (T := [known_e1, known_e3]) ⟨known_ok1, known_ok3, trivial⟩ known_k4
def known_e5 : Ent := ⟨116, [.str [113], .str ([97, 98, 99, 100, 101, 102, 103, 104, 105, 106, 107, 108, 109, 110, 111, 112, 113, 114, 115, 116, 117, 118, 119, 120, 121, 122, 65, 66, 67, 68, 69, 70, 71, 72, 73, 74, 75, 76, 77, 78, 79, 80, 81, 82, 83, 84, 85, 86, 87, 88, 89, 90, 48, 49, 50, 51, 52, 53, 54, 55, 56, 57, 95])], .str []⟩
theorem known_k5 : entB Tryz.prog (tabIntr []) 400 known_e5 = true := by kernel_rfl
theorem known_ok5 : EntOK Tryz.prog known_e5 := entOK_of known_fit (T := []) trivial known_k5
def known_e6 : Ent := ⟨150, [.str [48, 49, 50, 51, 52, 53, 54, 55, 56, 57], .str [113]], .int .i64 (-1)⟩
theorem known_k6 : entB Tryz.prog (tabIntr []) 400 known_e6 = true := by kernel_rfl
theorem known_ok6 : EntOK Tryz.prog known_e6 := entOK_of known_fit (T := []) trivial known_k6
def known_e7 : Ent := ⟨118, [.str [48, 49, 50, 51, 52, 53, 54, 55, 56, 57], .str [113]], .bool false⟩
theorem known_k7 : entB Tryz.prog (tabIntr [known_e6]) 400 known_e7 = true := by kernel_rfl
theorem known_ok7 : EntOK Tryz.prog known_e7 := entOK_of known_fit (T := [known_e6]) ⟨known_ok6, trivial⟩ known_k7
def known_e8 : Ent := ⟨107, [.str [113]], .bool true⟩
theorem known_k8 : entB Tryz.prog (tabIntr [known_e5, known_e7]) 400 known_e8 = true := by kernel_rfl
theorem known_ok8 : EntOK Tryz.prog known_e8 := entOK_of known_fit (T := [known_e5, known_e7]) ⟨known_ok5, known_ok7, trivial⟩ known_k8
def known_e9 : Ent := ⟨73, [.int .u64 (3)], .agg [.int .u64 (0), .int .u64 (240), .int .u8 (0), .int .i64 (0)]⟩
theorem known_k9 : entB Tryz.prog (tabIntr []) 400 known_e9 = true := by kernel_rfl
theorem known_ok9 : EntOK Tryz.prog known_e9 := entOK_of known_fit (T := []) trivial known_k9
def known_e10 : Ent := ⟨64, [.str [], .str [120, 47, 121]], .str [3, 120, 47, 121]⟩
theorem known_k10 : entB Tryz.prog (tabIntr [known_e9]) 400 known_e10 = true := by kernel_rfl
theorem known_ok10 : EntOK Tryz.prog known_e10 := entOK_of known_fit (T := [known_e9]) ⟨known_ok9, trivial⟩ known_k10
def known_e11 : Ent := ⟨73, [.int .u64 (0)], .agg [.int .u64 (0), .int .u64 (240), .int .u8 (0), .int .i64 (0)]⟩
theorem known_k11 : entB Tryz.prog (tabIntr []) 400 known_e11 = true := by kernel_rfl
theorem known_ok11 : EntOK Tryz.prog known_e11 := entOK_of known_fit (T := []) trivial known_k11
def known_e12 : Ent := ⟨73, [.int .u64 (2)], .agg [.int .u64 (0), .int .u64 (240), .int .u8 (0), .int .i64 (0)]⟩
theorem known_k12 : entB Tryz.prog (tabIntr []) 400 known_e12 = true := by kernel_rfl
theorem known_ok12 : EntOK Tryz.prog known_e12 := entOK_of known_fit (T := []) trivial known_k12
def known_e13 : Ent := ⟨73, [.int .u64 (1)], .agg [.int .u64 (0), .int .u64 (240), .int .u8 (0), .int .i64 (0)]⟩
theorem known_k13 : entB Tryz.prog (tabIntr []) 400 known_e13 = true := by kernel_rfl
theorem known_ok13 : EntOK Tryz.prog known_e13 := entOK_of known_fit (T := []) trivial known_k13
def known_e14 : Ent := ⟨64, [.str [3, 120, 47, 121, 0, 2], .str [97]], .str [3, 120, 47, 121, 0, 2, 1, 97]⟩
theorem known_k14 : entB Tryz.prog (tabIntr [known_e13]) 400 known_e14 = true := by kernel_rfl
theorem known_ok14 : EntOK Tryz.prog known_e14 := entOK_of known_fit (T := [known_e13]) ⟨known_ok13, trivial⟩ known_k14
def known_e15 : Ent := ⟨73, [.int .u64 (8)], .agg [.int .u64 (0), .int .u64 (240), .int .u8 (0), .int .i64 (0)]⟩
theorem known_k15 : entB Tryz.prog (tabIntr []) 400 known_e15 = true := by kernel_rfl
theorem known_ok15 : EntOK Tryz.prog known_e15 := entOK_of known_fit (T := []) trivial known_k15
def known_e16 : Ent := ⟨64, [.str [3, 120, 47, 121, 0, 2, 1, 97, 8, 1, 2, 3], .str [98]], .str [3, 120, 47, 121, 0, 2, 1, 97, 8, 1, 2, 3, 1, 98]⟩
theorem known_k16 : entB Tryz.prog (tabIntr [known_e13]) 400 known_e16 = true := by kernel_rfl
theorem known_ok16 : EntOK Tryz.prog known_e16 := entOK_of known_fit (T := [known_e13]) ⟨known_ok13, trivial⟩ known_k16
def known_e17 : Ent := ⟨73, [.int .u64 (9)], .agg [.int .u64 (0), .int .u64 (240), .int .u8 (0), .int .i64 (0)]⟩
theorem known_k17 : entB Tryz.prog (tabIntr []) 400 known_e17 = true := by kernel_rfl
theorem known_ok17 : EntOK Tryz.prog known_e17 := entOK_of known_fit (T := []) trivial known_k17
def known_e18 : Ent := ⟨64, [.str [3, 120, 47, 121, 0, 2, 1, 97, 8, 1, 2, 3, 1, 98, 9, 2, 3, 2, 1], .str [84]], .str [3, 120, 47, 121, 0, 2, 1, 97, 8, 1, 2, 3, 1, 98, 9, 2, 3, 2, 1, 1, 84]⟩
theorem known_k18 : entB Tryz.prog (tabIntr [known_e13]) 400 known_e18 = true := by kernel_rfl
theorem known_ok18 : EntOK Tryz.prog known_e18 := entOK_of known_fit (T := [known_e13]) ⟨known_ok13, trivial⟩ known_k18
def known_e19 : Ent := ⟨73, [.int .u64 (7)], .agg [.int .u64 (0), .int .u64 (240), .int .u8 (0), .int .i64 (0)]⟩
theorem known_k19 : entB Tryz.prog (tabIntr []) 400 known_e19 = true := by kernel_rfl
theorem known_ok19 : EntOK Tryz.prog known_e19 := entOK_of known_fit (T := []) trivial known_k19
def known_e20 : Ent := ⟨64, [.str [3, 120, 47, 121, 0, 2, 1, 97, 8, 1, 2, 3, 1, 98, 9, 2, 3, 2, 1, 1, 84, 7, 2], .str [112]], .str [3, 120, 47, 121, 0, 2, 1, 97, 8, 1, 2, 3, 1, 98, 9, 2, 3, 2, 1, 1, 84, 7, 2, 1, 112]⟩
theorem known_k20 : entB Tryz.prog (tabIntr [known_e13]) 400 known_e20 = true := by kernel_rfl
theorem known_ok20 : EntOK Tryz.prog known_e20 := entOK_of known_fit (T := [known_e13]) ⟨known_ok13, trivial⟩ known_k20
def known_e21 : Ent := ⟨73, [.int .u64 (6)], .agg [.int .u64 (0), .int .u64 (240), .int .u8 (0), .int .i64 (0)]⟩
theorem known_k21 : entB Tryz.prog (tabIntr []) 400 known_e21 = true := by kernel_rfl
theorem known_ok21 : EntOK Tryz.prog known_e21 := entOK_of known_fit (T := []) trivial known_k21
def known_e22 : Ent := ⟨73, [.int .u64 (5)], .agg [.int .u64 (0), .int .u64 (240), .int .u8 (0), .int .i64 (0)]⟩
theorem known_k22 : entB Tryz.prog (tabIntr []) 400 known_e22 = true := by kernel_rfl
theorem known_ok22 : EntOK Tryz.prog known_e22 := entOK_of known_fit (T := []) trivial known_k22
def known_e23 : Ent := ⟨64, [.str [3, 120, 47, 121, 0, 2, 1, 97, 8, 1, 2, 3, 1, 98, 9, 2, 3, 2, 1, 1, 84, 7, 2, 1, 112, 6], .str [120, 47, 121, 46, 84]], .str [3, 120, 47, 121, 0, 2, 1, 97, 8, 1, 2, 3, 1, 98, 9, 2, 3, 2, 1, 1, 84, 7, 2, 1, 112, 6, 5, 120, 47, 121, 46, 84]⟩
theorem known_k23 : entB Tryz.prog (tabIntr [known_e22]) 400 known_e23 = true := by kernel_rfl
theorem known_ok23 : EntOK Tryz.prog known_e23 := entOK_of known_fit (T := [known_e22]) ⟨known_ok22, trivial⟩ known_k23
def known_e24 : Ent := ⟨64, [.str [3, 120, 47, 121, 0, 2, 1, 97, 8, 1, 2, 3, 1, 98, 9, 2, 3, 2, 1, 1, 84, 7, 2, 1, 112, 6, 5, 120, 47, 121, 46, 84], .str [113]], .str [3, 120, 47, 121, 0, 2, 1, 97, 8, 1, 2, 3, 1, 98, 9, 2, 3, 2, 1, 1, 84, 7, 2, 1, 112, 6, 5, 120, 47, 121, 46, 84, 1, 113]⟩
theorem known_k24 : entB Tryz.prog (tabIntr [known_e13]) 400 known_e24 = true := by kernel_rfl
theorem known_ok24 : EntOK Tryz.prog known_e24 := entOK_of known_fit (T := [known_e13]) ⟨known_ok13, trivial⟩ known_k24
def known_e25 : Ent := ⟨29, [.agg [.str [109], .bool true, .nilS, .nilS]], .bool true⟩
theorem known_k25 : entB Tryz.prog (tabIntr []) 400 known_e25 = true := by kernel_rfl
theorem known_ok25 : EntOK Tryz.prog known_e25 := entOK_of known_fit (T := []) trivial known_k25
def known_e26 : Ent := ⟨64, [.str [], .str [109]], .str [1, 109]⟩
theorem known_k26 : entB Tryz.prog (tabIntr [known_e13]) 400 known_e26 = true := by kernel_rfl
theorem known_ok26 : EntOK Tryz.prog known_e26 := entOK_of known_fit (T := [known_e13]) ⟨known_ok13, trivial⟩ known_k26
def known_e27 : Ent := ⟨17, [.agg [.str [109], .bool true, .nilS, .nilS]], .str [1, 109, 1]⟩
theorem known_k27 : entB Tryz.prog (tabIntr [known_e25, known_e26, known_e13]) 400 known_e27 = true := by kernel_rfl
theorem known_ok27 : EntOK Tryz.prog known_e27 := entOK_of known_fit (T := [known_e25, known_e26, known_e13]) ⟨known_ok25, known_ok26, known_ok13, trivial⟩ known_k27
def known_e28 : Ent := ⟨29, [.agg [.str [], .bool false, .nilS, .nilS]], .bool true⟩
theorem known_k28 : entB Tryz.prog (tabIntr []) 400 known_e28 = true := by kernel_rfl
theorem known_ok28 : EntOK Tryz.prog known_e28 := entOK_of known_fit (T := []) trivial known_k28
def known_e29 : Ent := ⟨64, [.str [], .str []], .str [0]⟩
theorem known_k29 : entB Tryz.prog (tabIntr [known_e11]) 400 known_e29 = true := by kernel_rfl
theorem known_ok29 : EntOK Tryz.prog known_e29 := entOK_of known_fit (T := [known_e11]) ⟨known_ok11, trivial⟩ known_k29
def known_e30 : Ent := ⟨17, [.agg [.str [], .bool false, .nilS, .nilS]], .str [0, 0, 0, 0]⟩
theorem known_k30 : entB Tryz.prog (tabIntr [known_e28, known_e29, known_e11]) 400 known_e30 = true := by kernel_rfl
theorem known_ok30 : EntOK Tryz.prog known_e30 := entOK_of known_fit (T := [known_e28, known_e29, known_e11]) ⟨known_ok28, known_ok29, known_ok11, trivial⟩ known_k30
def known_e31 : Ent := ⟨64, [.str [1, 109], .str []], .str [1, 109, 0]⟩
theorem known_k31 : entB Tryz.prog (tabIntr [known_e11]) 400 known_e31 = true := by kernel_rfl
theorem known_ok31 : EntOK Tryz.prog known_e31 := entOK_of known_fit (T := [known_e11]) ⟨known_ok11, trivial⟩ known_k31
def known_e32 : Ent := ⟨64, [.str [1, 109, 0, 1], .str [97]], .str [1, 109, 0, 1, 1, 97]⟩
theorem known_k32 : entB Tryz.prog (tabIntr [known_e13]) 400 known_e32 = true := by kernel_rfl
theorem known_ok32 : EntOK Tryz.prog known_e32 := entOK_of known_fit (T := [known_e13]) ⟨known_ok13, trivial⟩ known_k32
def known_e33 : Ent := ⟨64, [.str [0], .str [116]], .str [0, 1, 116]⟩
theorem known_k33 : entB Tryz.prog (tabIntr [known_e13]) 400 known_e33 = true := by kernel_rfl
theorem known_ok33 : EntOK Tryz.prog known_e33 := entOK_of known_fit (T := [known_e13]) ⟨known_ok13, trivial⟩ known_k33
def known_e34 : Ent := ⟨13, [.str [], .str [116], .nilS], .str [0, 1, 116, 0]⟩
theorem known_k34 : entB Tryz.prog (tabIntr [known_e29, known_e33, known_e11]) 400 known_e34 = true := by kernel_rfl
theorem known_ok34 : EntOK Tryz.prog known_e34 := entOK_of known_fit (T := [known_e29, known_e33, known_e11]) ⟨known_ok29, known_ok33, known_ok11, trivial⟩ known_k34
def known_e35 : Ent := ⟨29, [.agg [.str [97], .bool true, .nilS, .nilS]], .bool true⟩
theorem known_k35 : entB Tryz.prog (tabIntr []) 400 known_e35 = true := by kernel_rfl
theorem known_ok35 : EntOK Tryz.prog known_e35 := entOK_of known_fit (T := []) trivial known_k35
def known_e36 : Ent := ⟨64, [.str [1, 109, 0, 1, 1, 97, 1], .str [97]], .str [1, 109, 0, 1, 1, 97, 1, 1, 97]⟩
theorem known_k36 : entB Tryz.prog (tabIntr [known_e13]) 400 known_e36 = true := by kernel_rfl
theorem known_ok36 : EntOK Tryz.prog known_e36 := entOK_of known_fit (T := [known_e13]) ⟨known_ok13, trivial⟩ known_k36
def known_e37 : Ent := ⟨9, [.str []], .tup [.agg [.str [], .bool false, .nilS, .nilS], .int .i64 (4)]⟩
theorem known_k37 : entB Tryz.prog (tabIntr []) 400 known_e37 = true := by kernel_rfl
theorem known_ok37 : EntOK Tryz.prog known_e37 := entOK_of known_fit (T := []) trivial known_k37
def known_e38 : Ent := ⟨19, [.agg [.str [], .bool false, .nilS, .nilS], .agg [.str [], .bool false, .nilS, .nilS]], .bool true⟩
theorem known_k38 : entB Tryz.prog (tabIntr []) 400 known_e38 = true := by kernel_rfl
theorem known_ok38 : EntOK Tryz.prog known_e38 := entOK_of known_fit (T := []) trivial known_k38
def known_e39 : Ent := ⟨9, [.str [1, 109, 2]], .tup [.agg [.str [], .bool false, .nilS, .nilS], .int .i64 (4)]⟩
theorem known_k39 : entB Tryz.prog (tabIntr [known_e13, known_e12]) 400 known_e39 = true := by kernel_rfl
theorem known_ok39 : EntOK Tryz.prog known_e39 := entOK_of known_fit (T := [known_e13, known_e12]) ⟨known_ok13, known_ok12, trivial⟩ known_k39
def known_e40 : Ent := ⟨9, [.str [1, 109, 1, 0]], .tup [.agg [.str [], .bool false, .nilS, .nilS], .int .i64 (4)]⟩
theorem known_k40 : entB Tryz.prog (tabIntr [known_e13]) 400 known_e40 = true := by kernel_rfl
theorem known_ok40 : EntOK Tryz.prog known_e40 := entOK_of known_fit (T := [known_e13]) ⟨known_ok13, trivial⟩ known_k40
def known_e41 : Ent := ⟨9, [.str [1, 109, 0, 1, 1, 97, 0, 0]], .tup [.agg [.str [], .bool false, .nilS, .nilS], .int .i64 (4)]⟩
theorem known_k41 : entB Tryz.prog (tabIntr [known_e13, known_e11]) 400 known_e41 = true := by kernel_rfl
theorem known_ok41 : EntOK Tryz.prog known_e41 := entOK_of known_fit (T := [known_e13, known_e11]) ⟨known_ok13, known_ok11, trivial⟩ known_k41
def known_e42 : Ent := ⟨9, [.str [1, 109, 0, 2, 1, 98, 2, 1, 97, 2, 0]], .tup [.agg [.str [], .bool false, .nilS, .nilS], .int .i64 (4)]⟩
theorem known_k42 : entB Tryz.prog (tabIntr [known_e13, known_e11, known_e12]) 400 known_e42 = true := by kernel_rfl
theorem known_ok42 : EntOK Tryz.prog known_e42 := entOK_of known_fit (T := [known_e13, known_e11, known_e12]) ⟨known_ok13, known_ok11, known_ok12, trivial⟩ known_k42
def known_e43 : Ent := ⟨9, [.str [1, 109, 0, 2, 1, 97, 2, 1, 97, 2, 0]], .tup [.agg [.str [], .bool false, .nilS, .nilS], .int .i64 (4)]⟩
theorem known_k43 : entB Tryz.prog (tabIntr [known_e13, known_e11, known_e12]) 400 known_e43 = true := by kernel_rfl
theorem known_ok43 : EntOK Tryz.prog known_e43 := entOK_of known_fit (T := [known_e13, known_e11, known_e12]) ⟨known_ok13, known_ok11, known_ok12, trivial⟩ known_k43
def known_e44 : Ent := ⟨9, [.str [1, 109, 0, 1, 0, 2, 0]], .tup [.agg [.str [], .bool false, .nilS, .nilS], .int .i64 (4)]⟩
theorem known_k44 : entB Tryz.prog (tabIntr [known_e13, known_e11, known_e12]) 400 known_e44 = true := by kernel_rfl
theorem known_ok44 : EntOK Tryz.prog known_e44 := entOK_of known_fit (T := [known_e13, known_e11, known_e12]) ⟨known_ok13, known_ok11, known_ok12, trivial⟩ known_k44
def known_e45 : Ent := ⟨9, [.str [1, 109, 0, 1, 1, 97, 9, 1, 2, 0]], .tup [.agg [.str [], .bool false, .nilS, .nilS], .int .i64 (4)]⟩
theorem known_k45 : entB Tryz.prog (tabIntr [known_e13, known_e11, known_e17, known_e12]) 400 known_e45 = true := by kernel_rfl
theorem known_ok45 : EntOK Tryz.prog known_e45 := entOK_of known_fit (T := [known_e13, known_e11, known_e17, known_e12]) ⟨known_ok13, known_ok11, known_ok17, known_ok12, trivial⟩ known_k45
def known_e46 : Ent := ⟨9, [.str [1, 109, 0, 0, 0, 0]], .tup [.agg [.str [], .bool false, .nilS, .nilS], .int .i64 (4)]⟩
theorem known_k46 : entB Tryz.prog (tabIntr [known_e13, known_e11]) 400 known_e46 = true := by kernel_rfl
theorem known_ok46 : EntOK Tryz.prog known_e46 := entOK_of known_fit (T := [known_e13, known_e11]) ⟨known_ok13, known_ok11, trivial⟩ known_k46
def known_e47 : Ent := ⟨73, [.int .u64 (10)], .agg [.int .u64 (0), .int .u64 (240), .int .u8 (0), .int .i64 (0)]⟩
theorem known_k47 : entB Tryz.prog (tabIntr []) 400 known_e47 = true := by kernel_rfl
theorem known_ok47 : EntOK Tryz.prog known_e47 := entOK_of known_fit (T := []) trivial known_k47
def known_e48 : Ent := ⟨9, [.str [1, 109, 0, 1, 1, 97, 10, 0]], .tup [.agg [.str [], .bool false, .nilS, .nilS], .int .i64 (4)]⟩
theorem known_k48 : entB Tryz.prog (tabIntr [known_e13, known_e11, known_e47]) 400 known_e48 = true := by kernel_rfl
theorem known_ok48 : EntOK Tryz.prog known_e48 := entOK_of known_fit (T := [known_e13, known_e11, known_e47]) ⟨known_ok13, known_ok11, known_ok47, trivial⟩ known_k48
def known_e49 : Ent := ⟨9, [.str [1, 109, 0, 1, 1, 97, 6, 0, 0]], .tup [.agg [.str [], .bool false, .nilS, .nilS], .int .i64 (4)]⟩
theorem known_k49 : entB Tryz.prog (tabIntr [known_e13, known_e11, known_e21]) 400 known_e49 = true := by kernel_rfl
theorem known_ok49 : EntOK Tryz.prog known_e49 := entOK_of known_fit (T := [known_e13, known_e11, known_e21]) ⟨known_ok13, known_ok11, known_ok21, trivial⟩ known_k49
def known_e50 : Ent := ⟨9, [.str [1, 109, 0, 1, 1, 97, 8, 0]], .tup [.agg [.str [], .bool false, .nilS, .nilS], .int .i64 (4)]⟩
theorem known_k50 : entB Tryz.prog (tabIntr [known_e13, known_e11, known_e15]) 400 known_e50 = true := by kernel_rfl
theorem known_ok50 : EntOK Tryz.prog known_e50 := entOK_of known_fit (T := [known_e13, known_e11, known_e15]) ⟨known_ok13, known_ok11, known_ok15, trivial⟩ known_k50
def known_e51 : Ent := ⟨73, [.int .u64 (128)], .agg [.int .u64 (0), .int .u64 (240), .int .u8 (0), .int .i64 (0)]⟩
theorem known_k51 : entB Tryz.prog (tabIntr []) 400 known_e51 = true := by kernel_rfl
theorem known_ok51 : EntOK Tryz.prog known_e51 := entOK_of known_fit (T := []) trivial known_k51
def known_e52 : Ent := ⟨9, [.str [1, 109, 128, 0]], .tup [.agg [.str [], .bool false, .nilS, .nilS], .int .i64 (4)]⟩
theorem known_k52 : entB Tryz.prog (tabIntr [known_e13, known_e51]) 400 known_e52 = true := by kernel_rfl
theorem known_ok52 : EntOK Tryz.prog known_e52 := entOK_of known_fit (T := [known_e13, known_e51]) ⟨known_ok13, known_ok51, trivial⟩ known_k52
def known_e53 : Ent := ⟨64, [.str [1, 109, 0, 1], .str []], .str [1, 109, 0, 1, 0]⟩
theorem known_k53 : entB Tryz.prog (tabIntr [known_e11]) 400 known_e53 = true := by kernel_rfl
theorem known_ok53 : EntOK Tryz.prog known_e53 := entOK_of known_fit (T := [known_e11]) ⟨known_ok11, trivial⟩ known_k53
def known_e54 : Ent := ⟨12, [], .bool true⟩
theorem known_k54 : entB Tryz.prog (tabIntr [known_e26, known_e11, known_e13, known_e32, known_e12]) 400 known_e54 = true := by kernel_rfl
theorem known_ok54 : EntOK Tryz.prog known_e54 := entOK_of known_fit (T := [known_e26, known_e11, known_e13, known_e32, known_e12]) ⟨known_ok26, known_ok11, known_ok13, known_ok32, known_ok12, trivial⟩ known_k54
def known_tab : List Ent := [known_e0, known_e4, known_e8, known_e10, known_e11, known_e12, known_e14, known_e15, known_e13, known_e9, known_e16, known_e17, known_e18, known_e19, known_e20, known_e21, known_e23, known_e24, known_e27, known_e30, known_e26, known_e31, known_e32, known_e34, known_e35, known_e36, known_e22, known_e37, known_e38, known_e39, known_e40, known_e41, known_e42, known_e43, known_e44, known_e45, known_e46, known_e48, known_e49, known_e50, known_e52, known_e53, known_e54]
theorem known_all : AllE Tryz.prog known_tab := ⟨known_ok0, known_ok4, known_ok8, known_ok10, known_ok11, known_ok12, known_ok14, known_ok15, known_ok13, known_ok9, known_ok16, known_ok17, known_ok18, known_ok19, known_ok20, known_ok21, known_ok23, known_ok24, known_ok27, known_ok30, known_ok26, known_ok31, known_ok32, known_ok34, known_ok35, known_ok36, known_ok22, known_ok37, known_ok38, known_ok39, known_ok40, known_ok41, known_ok42, known_ok43, known_ok44, known_ok45, known_ok46, known_ok48, known_ok49, known_ok50, known_ok52, known_ok53, known_ok54, trivial⟩
end Go.Proofs.YtfooahfebojldaaGreatDoor
