/-
  PROVED HERE: contracts of functions (Dm). No condition beside each statement's own.
-/
import Derived.Test.YtlcnhahfgpnanaaGreatDoorDh
set_option linter.unusedVariables false
set_option linter.unusedSimpArgs false
namespace Go.Proofs.Lx
open Go AEv Go.Proofs Lexp
set_option maxRecDepth 100000
set_option maxHeartbeats 1000000
def ei13 : Ent := ⟨16, [.str [108, 101, 116, 32, 99, 61, 40, 97, 61, 61, 98, 41, 61, 61, 99, 32, 108, 101, 116, 32, 100, 61, 97, 61, 61, 40, 98, 60, 99, 41], .str [108, 101, 116, 32, 99, 32, 61, 32, 97, 32, 61, 61, 32, 98, 32, 61, 61, 32, 99, 10, 108, 101, 116, 32, 100, 32, 61, 32, 97, 32, 61, 61, 32, 40, 98, 32, 60, 32, 99, 41, 10]], .bool true⟩
theorem ei13_ok (hf : Fit Tryz.prog) : EntT Tryz.prog tabs ei13 := ⟨Iq, 300, Iq_ok hf, fun els => by kernel_rfl⟩
def ei14 : Ent := ⟨16, [.str [108, 101, 116, 32, 101, 61, 40, 45, 97, 41, 42, 45, 40, 97, 42, 98, 41, 46, 46, 45, 99, 46, 100], .str [108, 101, 116, 32, 101, 32, 61, 32, 45, 97, 32, 42, 32, 45, 40, 97, 32, 42, 32, 98, 41, 32, 46, 46, 32, 45, 99, 46, 100, 10]], .bool true⟩
theorem ei14_ok (hf : Fit Tryz.prog) : EntT Tryz.prog tabs ei14 := ⟨Iq, 300, Iq_ok hf, fun els => by kernel_rfl⟩
def ei15 : Ent := ⟨16, [.str [108, 101, 116, 32, 103, 61, 40, 110, 111, 116, 32, 97, 41, 46, 98], .str [108, 101, 116, 32, 103, 32, 61, 32, 40, 110, 111, 116, 32, 97, 41, 46, 98, 10]], .bool true⟩
theorem ei15_ok (hf : Fit Tryz.prog) : EntT Tryz.prog tabs ei15 := ⟨Iq, 300, Iq_ok hf, fun els => by kernel_rfl⟩
end Go.Proofs.Lx
