/-
  PROVED HERE: contracts of functions (Di). No condition beside each statement's own.
-/
import Derived.Test.YtlcnhahfgpnanaaGreatDoorDh
set_option linter.unusedVariables false
set_option linter.unusedSimpArgs false
namespace Go.Proofs.Lx
open Go AEv Go.Proofs Lexp
set_option maxRecDepth 100000
set_option maxHeartbeats 1000000
def ei0 : Ent := ⟨16, [.str [], .str []], .bool true⟩
theorem ei0_ok (hf : Fit Tryz.prog) : EntT Tryz.prog tabs ei0 := ⟨Iq, 300, Iq_ok hf, fun els => by kernel_rfl⟩
def ei1 : Ent := ⟨16, [.str [108, 101, 116, 32, 121, 61, 49, 43, 40, 50, 42, 51, 41], .str [108, 101, 116, 32, 121, 32, 61, 32, 49, 32, 43, 32, 50, 32, 42, 32, 51, 10]], .bool true⟩
theorem ei1_ok (hf : Fit Tryz.prog) : EntT Tryz.prog tabs ei1 := ⟨Iq, 300, Iq_ok hf, fun els => by kernel_rfl⟩
def ei2 : Ent := ⟨16, [.str [108, 101, 116, 32, 122, 61, 49, 45, 40, 50, 45, 51, 41, 45, 52], .str [108, 101, 116, 32, 122, 32, 61, 32, 49, 32, 45, 32, 40, 50, 32, 45, 32, 51, 41, 32, 45, 32, 52, 10]], .bool true⟩
theorem ei2_ok (hf : Fit Tryz.prog) : EntT Tryz.prog tabs ei2 := ⟨Iq, 300, Iq_ok hf, fun els => by kernel_rfl⟩
def ei3 : Ent := ⟨16, [.str [102, 117, 110, 32, 102, 40, 97, 58, 105, 110, 116, 44, 98, 41, 58, 123, 125, 61, 102, 110, 40, 41, 61, 62, 105, 102, 32, 97, 32, 116, 104, 101, 110, 32, 98, 32, 101, 108, 115, 101, 40, 102, 40, 97, 41, 46, 120, 41], .str [102, 117, 110, 32, 102, 40, 97, 58, 32, 105, 110, 116, 44, 32, 98, 41, 58, 32, 123, 125, 32, 61, 32, 102, 110, 40, 41, 32, 61, 62, 32, 105, 102, 32, 97, 32, 116, 104, 101, 110, 32, 98, 32, 101, 108, 115, 101, 32, 102, 40, 97, 41, 46, 120, 10]], .bool true⟩
theorem ei3_ok (hf : Fit Tryz.prog) : EntT Tryz.prog tabs ei3 := ⟨Iq, 300, Iq_ok hf, fun els => by kernel_rfl⟩
def ei4 : Ent := ⟨16, [.str [116, 121, 112, 101, 32, 84, 61, 40, 102, 110, 40, 41, 45, 62, 105, 110, 116, 41, 124, 40, 105, 110, 116, 124, 115, 116, 114, 41], .str [116, 121, 112, 101, 32, 84, 32, 61, 32, 40, 102, 110, 40, 41, 32, 45, 62, 32, 105, 110, 116, 41, 32, 124, 32, 40, 105, 110, 116, 32, 124, 32, 115, 116, 114, 41, 10]], .bool true⟩
theorem ei4_ok (hf : Fit Tryz.prog) : EntT Tryz.prog tabs ei4 := ⟨Iq, 300, Iq_ok hf, fun els => by kernel_rfl⟩
end Go.Proofs.Lx
