/-
  PROVED HERE: contracts of functions (Dj). No condition beside each statement's own.
-/
import Derived.Test.YtlcnhahfgpnanaaGreatDoorDh
set_option linter.unusedVariables false
set_option linter.unusedSimpArgs false
namespace Go.Proofs.Lx
open Go AEv Go.Proofs Lexp
set_option maxRecDepth 100000
set_option maxHeartbeats 1000000
def ei5 : Ent := ⟨16, [.str [116, 121, 112, 101, 32, 84, 61, 105, 110, 116, 124, 40, 102, 110, 40, 97, 110, 121, 44, 110, 105, 108, 41, 45, 62, 40, 98, 111, 111, 108, 124, 84, 41, 41], .str [116, 121, 112, 101, 32, 84, 32, 61, 32, 105, 110, 116, 32, 124, 32, 102, 110, 40, 97, 110, 121, 44, 32, 110, 105, 108, 41, 32, 45, 62, 32, 98, 111, 111, 108, 32, 124, 32, 84, 10]], .bool true⟩
theorem ei5_ok (hf : Fit Tryz.prog) : EntT Tryz.prog tabs ei5 := ⟨Iq, 300, Iq_ok hf, fun els => by kernel_rfl⟩
def ei6 : Ent := ⟨16, [.str [108, 101, 116, 32, 115, 32, 61, 32, 45, 40, 45, 40, 34, 97, 92, 110, 98, 92, 34, 92, 92, 34, 58, 32, 117, 46, 84, 41, 41], .str [108, 101, 116, 32, 115, 32, 61, 32, 45, 45, 40, 34, 97, 92, 110, 98, 92, 34, 92, 92, 34, 58, 32, 117, 46, 84, 41, 10]], .bool true⟩
theorem ei6_ok (hf : Fit Tryz.prog) : EntT Tryz.prog tabs ei6 := ⟨Iq, 300, Iq_ok hf, fun els => by kernel_rfl⟩
def ei7 : Ent := ⟨16, [.str [105, 109, 112, 111, 114, 116, 32, 34, 97, 47, 98, 34, 32, 97, 115, 32, 117, 32, 108, 101, 116, 32, 120, 32, 58, 32, 117, 46, 84, 32, 61, 32, 110, 111, 116, 40, 110, 111, 116, 32, 116, 114, 117, 101, 41, 97, 110, 100, 40, 102, 97, 108, 115, 101, 32, 111, 114, 32, 110, 105, 108, 41], .str [105, 109, 112, 111, 114, 116, 32, 34, 97, 47, 98, 34, 32, 97, 115, 32, 117, 10, 108, 101, 116, 32, 120, 58, 32, 117, 46, 84, 32, 61, 32, 110, 111, 116, 32, 110, 111, 116, 32, 116, 114, 117, 101, 32, 97, 110, 100, 32, 40, 102, 97, 108, 115, 101, 32, 111, 114, 32, 110, 105, 108, 41, 10]], .bool true⟩
theorem ei7_ok (hf : Fit Tryz.prog) : EntT Tryz.prog tabs ei7 := ⟨Iq, 300, Iq_ok hf, fun els => by kernel_rfl⟩
end Go.Proofs.Lx
