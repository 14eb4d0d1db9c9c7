/-
  PROVED HERE: contracts of functions (Dn). No condition beside each statement's own.
-/
import Derived.Test.YtlcnhahfgpnanaaGreatDoorDh
set_option linter.unusedVariables false
set_option linter.unusedSimpArgs false
namespace Go.Proofs.Lx
open Go AEv Go.Proofs Lexp
set_option maxRecDepth 100000
set_option maxHeartbeats 1000000
def ei16 : Ent := ⟨16, [.str [116, 121, 112, 101, 32, 85, 61, 123, 97, 58, 105, 110, 116, 44, 98, 58, 123, 99, 58, 102, 110, 40, 41, 45, 62, 110, 105, 108, 125, 125], .str [116, 121, 112, 101, 32, 85, 32, 61, 32, 123, 97, 58, 32, 105, 110, 116, 44, 32, 98, 58, 32, 123, 99, 58, 32, 102, 110, 40, 41, 32, 45, 62, 32, 110, 105, 108, 125, 125, 10]], .bool true⟩
theorem ei16_ok (hf : Fit Tryz.prog) : EntT Tryz.prog tabs ei16 := ⟨Iq, 300, Iq_ok hf, fun els => by kernel_rfl⟩
def ei17 : Ent := ⟨16, [.str [102, 117, 110, 32, 103, 40, 41, 61, 40, 49, 41], .str [102, 117, 110, 32, 103, 40, 41, 32, 61, 32, 49, 10]], .bool true⟩
theorem ei17_ok (hf : Fit Tryz.prog) : EntT Tryz.prog tabs ei17 := ⟨Iq, 300, Iq_ok hf, fun els => by kernel_rfl⟩
def ei18 : Ent := ⟨16, [.str [108, 101, 116, 32, 120, 61, 40, 49, 43, 50, 41, 42, 51], .str [108, 101, 116, 32, 120, 32, 61, 32, 40, 49, 32, 43, 32, 50, 41, 32, 42, 32, 51, 10]], .bool true⟩
theorem ei18_ok (hf : Fit Tryz.prog) : EntT Tryz.prog tabs ei18 := ⟨Iq, 300, Iq_ok hf, fun els => by kernel_rfl⟩
end Go.Proofs.Lx
