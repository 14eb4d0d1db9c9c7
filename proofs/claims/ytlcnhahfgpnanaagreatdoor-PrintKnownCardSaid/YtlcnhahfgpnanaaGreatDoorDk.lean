/-
  PROVED HERE: contracts of functions (Dk). No condition beside each statement's own.
-/
import Derived.Test.YtlcnhahfgpnanaaGreatDoorDh
set_option linter.unusedVariables false
set_option linter.unusedSimpArgs false
namespace Go.Proofs.Lx
open Go AEv Go.Proofs Lexp
set_option maxRecDepth 100000
set_option maxHeartbeats 1000000
def ei8 : Ent := ⟨16, [.str [108, 101, 116, 32, 114, 61, 123, 97, 61, 49, 44, 98, 61, 123, 125, 125, 108, 101, 116, 32, 113, 61, 40, 114, 46, 97, 41, 40, 50, 41, 40, 114, 44, 114, 41, 46, 98], .str [108, 101, 116, 32, 114, 32, 61, 32, 123, 97, 32, 61, 32, 49, 44, 32, 98, 32, 61, 32, 123, 125, 125, 10, 108, 101, 116, 32, 113, 32, 61, 32, 114, 46, 97, 40, 50, 41, 40, 114, 44, 32, 114, 41, 46, 98, 10]], .bool true⟩
theorem ei8_ok (hf : Fit Tryz.prog) : EntT Tryz.prog tabs ei8 := ⟨Iq, 300, Iq_ok hf, fun els => by kernel_rfl⟩
def ei9 : Ent := ⟨16, [.str [108, 101, 116, 32, 118, 61, 40, 108, 101, 116, 32, 120, 61, 49, 32, 105, 110, 32, 120, 41, 43, 40, 105, 102, 32, 97, 32, 116, 104, 101, 110, 32, 98, 32, 101, 108, 115, 101, 32, 99, 41], .str [108, 101, 116, 32, 118, 32, 61, 32, 40, 108, 101, 116, 32, 120, 32, 61, 32, 49, 32, 105, 110, 32, 120, 41, 32, 43, 32, 40, 105, 102, 32, 97, 32, 116, 104, 101, 110, 32, 98, 32, 101, 108, 115, 101, 32, 99, 41, 10]], .bool true⟩
theorem ei9_ok (hf : Fit Tryz.prog) : EntT Tryz.prog tabs ei9 := ⟨Iq, 300, Iq_ok hf, fun els => by kernel_rfl⟩
end Go.Proofs.Lx
