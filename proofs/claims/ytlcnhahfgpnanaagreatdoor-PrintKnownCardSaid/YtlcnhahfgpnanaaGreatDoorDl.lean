/-
  PROVED HERE: contracts of functions (Dl). No condition beside each statement's own.
-/
import Derived.Test.YtlcnhahfgpnanaaGreatDoorDh
set_option linter.unusedVariables false
set_option linter.unusedSimpArgs false
namespace Go.Proofs.Lx
open Go AEv Go.Proofs Lexp
set_option maxRecDepth 100000
set_option maxHeartbeats 1000000
def ei10 : Ent := ⟨16, [.str [108, 101, 116, 32, 119, 61, 108, 101, 116, 32, 120, 58, 105, 110, 116, 61, 49, 32, 105, 110, 40, 108, 101, 116, 32, 121, 61, 50, 32, 105, 110, 32, 121, 41], .str [108, 101, 116, 32, 119, 32, 61, 32, 108, 101, 116, 32, 120, 58, 32, 105, 110, 116, 32, 61, 32, 49, 32, 105, 110, 32, 108, 101, 116, 32, 121, 32, 61, 32, 50, 32, 105, 110, 32, 121, 10]], .bool true⟩
theorem ei10_ok (hf : Fit Tryz.prog) : EntT Tryz.prog tabs ei10 := ⟨Iq, 300, Iq_ok hf, fun els => by kernel_rfl⟩
def ei11 : Ent := ⟨16, [.str [108, 101, 116, 32, 97, 61, 114, 111, 108, 108, 32, 84, 40, 114, 111, 108, 108, 32, 117, 46, 84, 40, 117, 110, 114, 111, 108, 108, 40, 120, 41, 41, 41], .str [108, 101, 116, 32, 97, 32, 61, 32, 114, 111, 108, 108, 32, 84, 40, 114, 111, 108, 108, 32, 117, 46, 84, 40, 117, 110, 114, 111, 108, 108, 40, 120, 41, 41, 41, 10]], .bool true⟩
theorem ei11_ok (hf : Fit Tryz.prog) : EntT Tryz.prog tabs ei11 := ⟨Iq, 300, Iq_ok hf, fun els => by kernel_rfl⟩
def ei12 : Ent := ⟨16, [.str [108, 101, 116, 32, 102, 61, 40, 102, 110, 40, 97, 44, 98, 58, 84, 41, 61, 62, 97, 41, 40, 49, 41, 46, 120], .str [108, 101, 116, 32, 102, 32, 61, 32, 40, 102, 110, 40, 97, 44, 32, 98, 58, 32, 84, 41, 32, 61, 62, 32, 97, 41, 40, 49, 41, 46, 120, 10]], .bool true⟩
theorem ei12_ok (hf : Fit Tryz.prog) : EntT Tryz.prog tabs ei12 := ⟨Iq, 300, Iq_ok hf, fun els => by kernel_rfl⟩
end Go.Proofs.Lx
