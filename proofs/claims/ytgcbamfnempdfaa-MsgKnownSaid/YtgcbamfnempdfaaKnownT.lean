/-
  PROVED HERE: what some calls that lodger/lodgerlaw27.MsgKnown makes answer, by runs of the abstract evaluator that the kernel carries out. Conditions: none beside the row's own.
-/
import Derived.Test.YtgcbamfnempdfaaAed
import Derived.Test.YtgcbamfnempdfaaRows
import Derived.ProofKit
import Derived.OpenShut
import Derived.LaidMore
import Derived.Lay
import Derived.SevenTiedAt
import Derived.Stop.Joined
namespace Go.Proofs.Ytgcbamfnempdfaa
open Go.ChangeShapes Go.WideShapes Go.ChangeAt Go.RowKit AEv
set_option maxRecDepth 100000

theorem known_own : ownKnob Try.prog.godebug = none := by kernel_rfl
theorem known_laidOut : laidOutB Try.prog = true := by kernel_rfl
theorem known_fit : Fit Try.prog := fit_of (by kernel_rfl) (by kernel_rfl) (by kernel_rfl)
theorem known_shape : shapeB Try.prog = true := by kernel_rfl
def known_e0 : Ent := ⟨15, [.str [0, 0, 0, 0]], .tup [.agg [.int .i64 (0), .str [], .str [], .str []], .int .i64 (4)]⟩
theorem known_k0 : entB Try.prog (tabIntr []) 400 known_e0 = true := by kernel_rfl
theorem known_ok0 : EntOK Try.prog known_e0 := entOK_of known_fit (T := []) trivial known_k0
def known_e1 : Ent := ⟨15, [.str [10, 0, 0, 0]], .tup [.agg [.int .i64 (0), .str [], .str [], .str []], .int .i64 (4)]⟩
theorem known_k1 : entB Try.prog (tabIntr []) 400 known_e1 = true := by kernel_rfl
theorem known_ok1 : EntOK Try.prog known_e1 := entOK_of known_fit (T := []) trivial known_k1
def known_e2 : Ent := ⟨15, [.str [8, 1, 116, 1, 97, 0]], .tup [.agg [.int .i64 (0), .str [], .str [], .str []], .int .i64 (4)]⟩
theorem known_k2 : entB Try.prog (tabIntr []) 400 known_e2 = true := by kernel_rfl
theorem known_ok2 : EntOK Try.prog known_e2 := entOK_of known_fit (T := []) trivial known_k2
def known_e3 : Ent := ⟨15, [.str [8, 1, 116, 0, 0, 0]], .tup [.agg [.int .i64 (0), .str [], .str [], .str []], .int .i64 (4)]⟩
theorem known_k3 : entB Try.prog (tabIntr []) 400 known_e3 = true := by kernel_rfl
theorem known_ok3 : EntOK Try.prog known_e3 := entOK_of known_fit (T := []) trivial known_k3
def known_e4 : Ent := ⟨15, [.str [8, 1, 116, 0]], .tup [.agg [.int .i64 (0), .str [], .str [], .str []], .int .i64 (4)]⟩
theorem known_k4 : entB Try.prog (tabIntr []) 400 known_e4 = true := by kernel_rfl
theorem known_ok4 : EntOK Try.prog known_e4 := entOK_of known_fit (T := []) trivial known_k4
def known_e5 : Ent := ⟨15, [.str [128, 8, 0, 0, 0]], .tup [.agg [.int .i64 (0), .str [], .str [], .str []], .int .i64 (4)]⟩
theorem known_k5 : entB Try.prog (tabIntr []) 400 known_e5 = true := by kernel_rfl
theorem known_ok5 : EntOK Try.prog known_e5 := entOK_of known_fit (T := []) trivial known_k5
def known_e6 : Ent := ⟨21, [.agg [.int .i64 (0), .str [], .nilS, .nilS, .int .u64 (0)]], .str [0, 0, 0, 1, 0, 0]⟩
theorem known_k6 : entB Try.prog (tabIntr []) 400 known_e6 = true := by kernel_rfl
theorem known_ok6 : EntOK Try.prog known_e6 := entOK_of known_fit (T := []) trivial known_k6
def known_e7 : Ent := ⟨17, [.str [15, 0, 0, 1, 0, 0]], .tup [.agg [.int .i64 (0), .str [], .nilS, .nilS, .int .u64 (0)], .int .i64 (4)]⟩
theorem known_k7 : entB Try.prog (tabIntr []) 400 known_e7 = true := by kernel_rfl
theorem known_ok7 : EntOK Try.prog known_e7 := entOK_of known_fit (T := []) trivial known_k7
def known_e8 : Ent := ⟨17, [.str [0, 0, 0, 0, 0]], .tup [.agg [.int .i64 (0), .str [], .nilS, .nilS, .int .u64 (0)], .int .i64 (4)]⟩
theorem known_k8 : entB Try.prog (tabIntr []) 400 known_e8 = true := by kernel_rfl
theorem known_ok8 : EntOK Try.prog known_e8 := entOK_of known_fit (T := []) trivial known_k8
def known_e9 : Ent := ⟨17, [.str [0, 0, 0, 1, 0, 0, 0]], .tup [.agg [.int .i64 (0), .str [], .nilS, .nilS, .int .u64 (0)], .int .i64 (4)]⟩
theorem known_k9 : entB Try.prog (tabIntr []) 400 known_e9 = true := by kernel_rfl
theorem known_ok9 : EntOK Try.prog known_e9 := entOK_of known_fit (T := []) trivial known_k9
def known_e10 : Ent := ⟨17, [.str [0, 0, 1, 1, 0, 0]], .tup [.agg [.int .i64 (0), .str [], .nilS, .nilS, .int .u64 (0)], .int .i64 (4)]⟩
theorem known_k10 : entB Try.prog (tabIntr []) 400 known_e10 = true := by kernel_rfl
theorem known_ok10 : EntOK Try.prog known_e10 := entOK_of known_fit (T := []) trivial known_k10
def known_e11 : Ent := ⟨46, [.str [2, 1, 97, 2, 6, 1, 97, 1, 6]], .tup [.nilS, .int .i64 (4)]⟩
theorem known_k11 : entB Try.prog (tabIntr []) 400 known_e11 = true := by kernel_rfl
theorem known_ok11 : EntOK Try.prog known_e11 := entOK_of known_fit (T := []) trivial known_k11
def known_e12 : Ent := ⟨17, [.str [0, 0, 0, 9, 2, 1, 97, 2, 6, 1, 97, 1, 6, 0]], .tup [.agg [.int .i64 (0), .str [], .nilS, .nilS, .int .u64 (0)], .int .i64 (4)]⟩
theorem known_k12 : entB Try.prog (tabIntr [known_e11]) 400 known_e12 = true := by kernel_rfl
theorem known_ok12 : EntOK Try.prog known_e12 := entOK_of known_fit (T := [known_e11]) ⟨known_ok11, trivial⟩ known_k12
def known_e13 : Ent := ⟨15, [.str [1, 0, 0, 2, 97, 98]], .tup [.agg [.int .i64 (1), .str [], .str [], .str [97, 98]], .int .i64 (0)]⟩
theorem known_k13 : entB Try.prog (tabIntr []) 400 known_e13 = true := by kernel_rfl
theorem known_ok13 : EntOK Try.prog known_e13 := entOK_of known_fit (T := []) trivial known_k13
def known_e14 : Ent := ⟨21, [.agg [.int .i64 (5), .str [], .nilS, .nilS, .int .u64 (300)]], .str [5, 0, 0, 1, 0, 241, 60]⟩
theorem known_k14 : entB Try.prog (tabIntr []) 400 known_e14 = true := by kernel_rfl
theorem known_ok14 : EntOK Try.prog known_e14 := entOK_of known_fit (T := []) trivial known_k14
def known_e15 : Ent := ⟨17, [.str [5, 0, 0, 1, 0, 241, 60]], .tup [.agg [.int .i64 (5), .str [], .nilS, .nilS, .int .u64 (300)], .int .i64 (0)]⟩
theorem known_k15 : entB Try.prog (tabIntr []) 400 known_e15 = true := by kernel_rfl
theorem known_ok15 : EntOK Try.prog known_e15 := entOK_of known_fit (T := []) trivial known_k15
def known_tab : List Ent := [known_e0, known_e1, known_e2, known_e3, known_e4, known_e5, known_e6, known_e7, known_e8, known_e9, known_e10, known_e12, known_e13, known_e14, known_e15]
theorem known_all : AllE Try.prog known_tab := ⟨known_ok0, known_ok1, known_ok2, known_ok3, known_ok4, known_ok5, known_ok6, known_ok7, known_ok8, known_ok9, known_ok10, known_ok12, known_ok13, known_ok14, known_ok15, trivial⟩
end Go.Proofs.Ytgcbamfnempdfaa
