/-
  PROVED HERE: contracts of functions (Dn). No condition beside each statement's own.
-/
import Derived.Test.YtokgebablggccaaGreatDoorDa
import Derived.Test.YtokgebablggccaaGreatDoorDh
import Derived.Test.YtokgebablggccaaGreatDoorDg
import Derived.Test.YtokgebablggccaaGreatDoorDk
import Derived.Test.YtokgebablggccaaGreatDoorDl
import Derived.Test.YtokgebablggccaaGreatDoorDm
import Derived.Test.YtokgebablggccaaGreatDoorDi
import Derived.Test.YtokgebablggccaaGreatDoorDj
set_option linter.unusedVariables false
set_option linter.unusedSimpArgs false
namespace Go.Proofs.Lx
open Go AEv Go.Proofs Lexp
set_option maxRecDepth 100000
set_option maxHeartbeats 1000000
/- lodger/parse.Parse 'let x = unroll x' -/
noncomputable def ePk_30 : EntL := ⟨9, [.str [108, 101, 116, 32, 120, 32, 61, 32, 117, 110, 114, 111, 108, 108, 32, 120]], .tup [.nilS, .iface 68 (.ptr 381 0)], 388, [(381, .cells [.int .i64 (10), .int .i64 (15)] 31 .own 0 0)]⟩
theorem ePk_30_ok (hf : Fit Tryz.prog) : EntSOK Tryz.prog tabs ePk_30.toR := ⟨lexI, 200, lexI_ok hf, rfl, fun els => by kernel_rfl⟩
/- lodger/parse.Parse 'let x = a.1' -/
noncomputable def ePk_31 : EntL := ⟨9, [.str [108, 101, 116, 32, 120, 32, 61, 32, 97, 46, 49]], .tup [.nilS, .iface 68 (.ptr 313 0)], 320, [(313, .cells [.int .i64 (10), .int .i64 (10)] 31 .own 0 0)]⟩
theorem ePk_31_ok (hf : Fit Tryz.prog) : EntSOK Tryz.prog tabs ePk_31.toR := ⟨lexI, 200, lexI_ok hf, rfl, fun els => by kernel_rfl⟩
/- lodger/parse.Parse 'let x = let y = 1' -/
noncomputable def ePk_32 : EntL := ⟨9, [.str [108, 101, 116, 32, 120, 32, 61, 32, 108, 101, 116, 32, 121, 32, 61, 32, 49]], .tup [.nilS, .iface 68 (.ptr 542 0)], 549, [(542, .cells [.int .i64 (10), .int .i64 (17)] 31 .own 0 0)]⟩
theorem ePk_32_ok (hf : Fit Tryz.prog) : EntSOK Tryz.prog tabs ePk_32.toR := ⟨lexI, 200, lexI_ok hf, rfl, fun els => by kernel_rfl⟩
/- lodger/parse.Parse 'let x = 1 2' -/
noncomputable def ePk_33 : EntL := ⟨9, [.str [108, 101, 116, 32, 120, 32, 61, 32, 49, 32, 50]], .tup [.nilS, .iface 68 (.ptr 531 0)], 538, [(531, .cells [.int .i64 (10), .int .i64 (10)] 31 .own 0 0)]⟩
theorem ePk_33_ok (hf : Fit Tryz.prog) : EntSOK Tryz.prog tabs ePk_33.toR := ⟨lexI, 200, lexI_ok hf, rfl, fun els => by kernel_rfl⟩
/- lodger/parse.Parse 'type T = int |' -/
noncomputable def ePk_34 : EntL := ⟨9, [.str [116, 121, 112, 101, 32, 84, 32, 61, 32, 105, 110, 116, 32, 124]], .tup [.nilS, .iface 68 (.ptr 296 0)], 303, [(296, .cells [.int .i64 (10), .int .i64 (14)] 31 .own 0 0)]⟩
theorem ePk_34_ok (hf : Fit Tryz.prog) : EntSOK Tryz.prog tabs ePk_34.toR := ⟨lexI, 200, lexI_ok hf, rfl, fun els => by kernel_rfl⟩
/- lodger/parse.Parse 'type T = |int' -/
noncomputable def ePk_35 : EntL := ⟨9, [.str [116, 121, 112, 101, 32, 84, 32, 61, 32, 124, 105, 110, 116]], .tup [.nilS, .iface 68 (.ptr 233 0)], 240, [(233, .cells [.int .i64 (10), .int .i64 (9)] 31 .own 0 0)]⟩
theorem ePk_35_ok (hf : Fit Tryz.prog) : EntSOK Tryz.prog tabs ePk_35.toR := ⟨lexI, 200, lexI_ok hf, rfl, fun els => by kernel_rfl⟩
/- lodger/parse.Parse 'let x: int' -/
noncomputable def ePk_36 : EntL := ⟨9, [.str [108, 101, 116, 32, 120, 58, 32, 105, 110, 116]], .tup [.nilS, .iface 68 (.ptr 215 0)], 222, [(215, .cells [.int .i64 (10), .int .i64 (10)] 31 .own 0 0)]⟩
theorem ePk_36_ok (hf : Fit Tryz.prog) : EntSOK Tryz.prog tabs ePk_36.toR := ⟨lexI, 200, lexI_ok hf, rfl, fun els => by kernel_rfl⟩
/- lodger/parse.Parse 'let x = (1 : )' -/
noncomputable def ePk_37 : EntL := ⟨9, [.str [108, 101, 116, 32, 120, 32, 61, 32, 40, 49, 32, 58, 32, 41]], .tup [.nilS, .iface 68 (.ptr 800 0)], 807, [(800, .cells [.int .i64 (10), .int .i64 (13)] 31 .own 0 0)]⟩
theorem ePk_37_ok (hf : Fit Tryz.prog) : EntSOK Tryz.prog tabs ePk_37.toR := ⟨lexI, 200, lexI_ok hf, rfl, fun els => by kernel_rfl⟩
/- lodger/parse.Parse ' # nothing\n' -/
noncomputable def ePk_38 : EntL := ⟨9, [.str [32, 35, 32, 110, 111, 116, 104, 105, 110, 103, 10]], .tup [.nilS, .nilI], 23, []⟩
theorem ePk_38_ok (hf : Fit Tryz.prog) : EntSOK Tryz.prog tabs ePk_38.toR := ⟨lexI, 200, lexI_ok hf, rfl, fun els => by kernel_rfl⟩
/- lodger/parse.Parse 'let $' -/
noncomputable def ePk_39 : EntL := ⟨9, [.str [108, 101, 116, 32, 36]], .tup [.nilS, .iface 68 (.ptr 9 0)], 13, [(9, .cells [.int .i64 (10), .int .i64 (4)] 31 .own 0 0)]⟩
theorem ePk_39_ok (hf : Fit Tryz.prog) : EntSOK Tryz.prog tabs ePk_39.toR := ⟨lexI, 200, lexI_ok hf, rfl, fun els => by kernel_rfl⟩
end Go.Proofs.Lx

namespace Go.Proofs.Lx
open Go AEv Go.Proofs Lexp
set_option maxRecDepth 100000
set_option maxHeartbeats 1000000

/-! ### works(), told where errors.errorType is known -/
noncomputable def Lw3 : List EntR := [ePw_0, ePw_1, ePw_2]
noncomputable def Iw : Nat → List AV → AHeap → Option (AV × AHeap) := orE (intrR Tryz.prog.globals.size tabs Lw3) (orE (asI erN) (isI erN))
theorem Lw3_ok (hf : Fit Tryz.prog) : ∀ e ∈ Lw3, EntSOK Tryz.prog tabs e := fun e he => by
  simp only [Lw3, List.mem_cons, List.not_mem_nil, or_false] at he
  rcases he with rfl | rfl | rfl
  · exact ePw_0_ok hf
  · exact ePw_1_ok hf
  · exact ePw_2_ok hf
theorem Iw_ok (hf : Fit Tryz.prog) : IntrOK Tryz.prog Iw := orE_ok (intrS_ok hf tabs_lt (Lw3_ok hf)) (orE_ok (asI_ok er_ok) (isI_ok er_ok))
def eWorks : Ent := ⟨13, [], .bool true⟩
theorem works_e (hf : Fit Tryz.prog) : EntE Tryz.prog tabs erN eWorks := ⟨Iw, 200, Iw_ok hf, fun els el fz => by kernel_rfl⟩
end Go.Proofs.Lx

namespace Go.Proofs.Lx
open Go AEv Go.Proofs Lexp
set_option maxRecDepth 100000
set_option maxHeartbeats 1000000
noncomputable def lA : EntL := ⟨9, [.str [108, 101, 116, 32, 120, 32, 61, 32, 40, 40, 40, 40, 40, 40, 40, 40, 40, 40, 40, 40, 40, 40, 40, 40, 40, 40, 40, 40, 40, 40, 40, 40, 40, 40, 40, 40, 40, 40, 40, 40, 40, 40, 40, 40, 40, 40, 40, 49, 41, 41, 41, 41, 41, 41, 41, 41, 41, 41, 41, 41, 41, 41, 41, 41, 41, 41, 41, 41, 41, 41, 41, 41, 41, 41, 41, 41, 41, 41, 41, 41, 41, 41, 41, 41, 41, 41, 41]], .tup [.slice 15056 0 1 (.opn 1), .nilI], 15069, [(41, .cells [.int .i64 (3), .int .i64 (0), .str [120], .str [], .nilP, .ptr 7709 0, .nilS, .nilS] 51 .own 0 0), (7709, .cells [.int .i64 (1), .int .i64 (47), .int .i64 (1), .str [], .nilP, .nilP, .nilP, .nilP, .nilS, .nilS, .nilS] 61 .own 0 0), (15056, .cells [.ptr 41 0] 52 .opn 0 0)]⟩
theorem lA_ok (hf : Fit Tryz.prog) : EntSOK Tryz.prog tabs lA.toR := eA_ok hf
noncomputable def lB : EntL := ⟨9, [.str [108, 101, 116, 32, 120, 32, 61, 32, 40, 40, 40, 40, 40, 40, 40, 40, 40, 40, 40, 40, 40, 40, 40, 40, 40, 40, 40, 40, 40, 40, 40, 40, 40, 40, 40, 40, 40, 40, 40, 40, 40, 40, 40, 40, 40, 40, 40, 40, 49, 41, 41, 41, 41, 41, 41, 41, 41, 41, 41, 41, 41, 41, 41, 41, 41, 41, 41, 41, 41, 41, 41, 41, 41, 41, 41, 41, 41, 41, 41, 41, 41, 41, 41, 41, 41, 41, 41, 41, 41]], .tup [.nilS, .iface 68 (.ptr 7780 0)], 7787, [(7780, .cells [.int .i64 (11), .int .i64 (48)] 31 .own 0 0)]⟩
theorem lB_ok (hf : Fit Tryz.prog) : EntSOK Tryz.prog tabs lB.toR := eB_ok hf
noncomputable def lC : EntL := ⟨9, [.str [116, 121, 112, 101, 32, 84, 32, 61, 32, 123, 97, 58, 32, 123, 97, 58, 32, 123, 97, 58, 32, 123, 97, 58, 32, 123, 97, 58, 32, 123, 97, 58, 32, 123, 97, 58, 32, 123, 97, 58, 32, 123, 97, 58, 32, 123, 97, 58, 32, 123, 97, 58, 32, 123, 97, 58, 32, 123, 97, 58, 32, 123, 97, 58, 32, 123, 97, 58, 32, 123, 97, 58, 32, 123, 97, 58, 32, 123, 97, 58, 32, 123, 97, 58, 32, 123, 97, 58, 32, 123, 97, 58, 32, 123, 97, 58, 32, 123, 97, 58, 32, 123, 97, 58, 32, 123, 97, 58, 32, 123, 97, 58, 32, 123, 97, 58, 32, 123, 97, 58, 32, 123, 97, 58, 32, 123, 97, 58, 32, 123, 97, 58, 32, 123, 97, 58, 32, 123, 97, 58, 32, 123, 97, 58, 32, 123, 97, 58, 32, 123, 97, 58, 32, 123, 97, 58, 32, 123, 97, 58, 32, 123, 97, 58, 32, 105, 110, 116, 125, 125, 125, 125, 125, 125, 125, 125, 125, 125, 125, 125, 125, 125, 125, 125, 125, 125, 125, 125, 125, 125, 125, 125, 125, 125, 125, 125, 125, 125, 125, 125, 125, 125, 125, 125, 125, 125, 125]], .tup [.slice 7585 0 1 (.opn 1), .nilI], 7598, [(41, .cells [.int .i64 (2), .int .i64 (0), .str [84], .str [], .ptr 125 0, .nilP, .nilS, .nilS] 51 .own 0 0), (125, .cells [.int .i64 (7), .int .i64 (9), .str [], .str [], .slice 228 0 1 (.opn 1), .slice 7541 0 1 (.opn 1), .nilP] 58 .own 0 0), (228, .cells [.str [97]] 9 .opn 0 0), (270, .cells [.int .i64 (7), .int .i64 (13), .str [], .str [], .slice 373 0 1 (.opn 1), .slice 7496 0 1 (.opn 1), .nilP] 58 .own 0 0), (373, .cells [.str [97]] 9 .opn 0 0), (415, .cells [.int .i64 (7), .int .i64 (17), .str [], .str [], .slice 518 0 1 (.opn 1), .slice 7451 0 1 (.opn 1), .nilP] 58 .own 0 0), (518, .cells [.str [97]] 9 .opn 0 0), (560, .cells [.int .i64 (7), .int .i64 (21), .str [], .str [], .slice 663 0 1 (.opn 1), .slice 7406 0 1 (.opn 1), .nilP] 58 .own 0 0), (663, .cells [.str [97]] 9 .opn 0 0), (705, .cells [.int .i64 (7), .int .i64 (25), .str [], .str [], .slice 808 0 1 (.opn 1), .slice 7361 0 1 (.opn 1), .nilP] 58 .own 0 0), (808, .cells [.str [97]] 9 .opn 0 0), (850, .cells [.int .i64 (7), .int .i64 (29), .str [], .str [], .slice 953 0 1 (.opn 1), .slice 7316 0 1 (.opn 1), .nilP] 58 .own 0 0), (953, .cells [.str [97]] 9 .opn 0 0), (995, .cells [.int .i64 (7), .int .i64 (33), .str [], .str [], .slice 1098 0 1 (.opn 1), .slice 7271 0 1 (.opn 1), .nilP] 58 .own 0 0), (1098, .cells [.str [97]] 9 .opn 0 0), (1140, .cells [.int .i64 (7), .int .i64 (37), .str [], .str [], .slice 1243 0 1 (.opn 1), .slice 7226 0 1 (.opn 1), .nilP] 58 .own 0 0), (1243, .cells [.str [97]] 9 .opn 0 0), (1285, .cells [.int .i64 (7), .int .i64 (41), .str [], .str [], .slice 1388 0 1 (.opn 1), .slice 7181 0 1 (.opn 1), .nilP] 58 .own 0 0), (1388, .cells [.str [97]] 9 .opn 0 0), (1430, .cells [.int .i64 (7), .int .i64 (45), .str [], .str [], .slice 1533 0 1 (.opn 1), .slice 7136 0 1 (.opn 1), .nilP] 58 .own 0 0), (1533, .cells [.str [97]] 9 .opn 0 0), (1575, .cells [.int .i64 (7), .int .i64 (49), .str [], .str [], .slice 1678 0 1 (.opn 1), .slice 7091 0 1 (.opn 1), .nilP] 58 .own 0 0), (1678, .cells [.str [97]] 9 .opn 0 0), (1720, .cells [.int .i64 (7), .int .i64 (53), .str [], .str [], .slice 1823 0 1 (.opn 1), .slice 7046 0 1 (.opn 1), .nilP] 58 .own 0 0), (1823, .cells [.str [97]] 9 .opn 0 0), (1865, .cells [.int .i64 (7), .int .i64 (57), .str [], .str [], .slice 1968 0 1 (.opn 1), .slice 7001 0 1 (.opn 1), .nilP] 58 .own 0 0), (1968, .cells [.str [97]] 9 .opn 0 0), (2010, .cells [.int .i64 (7), .int .i64 (61), .str [], .str [], .slice 2113 0 1 (.opn 1), .slice 6956 0 1 (.opn 1), .nilP] 58 .own 0 0), (2113, .cells [.str [97]] 9 .opn 0 0), (2155, .cells [.int .i64 (7), .int .i64 (65), .str [], .str [], .slice 2258 0 1 (.opn 1), .slice 6911 0 1 (.opn 1), .nilP] 58 .own 0 0), (2258, .cells [.str [97]] 9 .opn 0 0), (2300, .cells [.int .i64 (7), .int .i64 (69), .str [], .str [], .slice 2403 0 1 (.opn 1), .slice 6866 0 1 (.opn 1), .nilP] 58 .own 0 0), (2403, .cells [.str [97]] 9 .opn 0 0), (2445, .cells [.int .i64 (7), .int .i64 (73), .str [], .str [], .slice 2548 0 1 (.opn 1), .slice 6821 0 1 (.opn 1), .nilP] 58 .own 0 0), (2548, .cells [.str [97]] 9 .opn 0 0), (2590, .cells [.int .i64 (7), .int .i64 (77), .str [], .str [], .slice 2693 0 1 (.opn 1), .slice 6776 0 1 (.opn 1), .nilP] 58 .own 0 0), (2693, .cells [.str [97]] 9 .opn 0 0), (2735, .cells [.int .i64 (7), .int .i64 (81), .str [], .str [], .slice 2838 0 1 (.opn 1), .slice 6731 0 1 (.opn 1), .nilP] 58 .own 0 0), (2838, .cells [.str [97]] 9 .opn 0 0), (2880, .cells [.int .i64 (7), .int .i64 (85), .str [], .str [], .slice 2983 0 1 (.opn 1), .slice 6686 0 1 (.opn 1), .nilP] 58 .own 0 0), (2983, .cells [.str [97]] 9 .opn 0 0), (3025, .cells [.int .i64 (7), .int .i64 (89), .str [], .str [], .slice 3128 0 1 (.opn 1), .slice 6641 0 1 (.opn 1), .nilP] 58 .own 0 0), (3128, .cells [.str [97]] 9 .opn 0 0), (3170, .cells [.int .i64 (7), .int .i64 (93), .str [], .str [], .slice 3273 0 1 (.opn 1), .slice 6596 0 1 (.opn 1), .nilP] 58 .own 0 0), (3273, .cells [.str [97]] 9 .opn 0 0), (3315, .cells [.int .i64 (7), .int .i64 (97), .str [], .str [], .slice 3418 0 1 (.opn 1), .slice 6551 0 1 (.opn 1), .nilP] 58 .own 0 0), (3418, .cells [.str [97]] 9 .opn 0 0), (3460, .cells [.int .i64 (7), .int .i64 (101), .str [], .str [], .slice 3563 0 1 (.opn 1), .slice 6506 0 1 (.opn 1), .nilP] 58 .own 0 0), (3563, .cells [.str [97]] 9 .opn 0 0), (3605, .cells [.int .i64 (7), .int .i64 (105), .str [], .str [], .slice 3708 0 1 (.opn 1), .slice 6461 0 1 (.opn 1), .nilP] 58 .own 0 0), (3708, .cells [.str [97]] 9 .opn 0 0), (3750, .cells [.int .i64 (7), .int .i64 (109), .str [], .str [], .slice 3853 0 1 (.opn 1), .slice 6416 0 1 (.opn 1), .nilP] 58 .own 0 0), (3853, .cells [.str [97]] 9 .opn 0 0), (3895, .cells [.int .i64 (7), .int .i64 (113), .str [], .str [], .slice 3998 0 1 (.opn 1), .slice 6371 0 1 (.opn 1), .nilP] 58 .own 0 0), (3998, .cells [.str [97]] 9 .opn 0 0), (4040, .cells [.int .i64 (7), .int .i64 (117), .str [], .str [], .slice 4143 0 1 (.opn 1), .slice 6326 0 1 (.opn 1), .nilP] 58 .own 0 0), (4143, .cells [.str [97]] 9 .opn 0 0), (4185, .cells [.int .i64 (7), .int .i64 (121), .str [], .str [], .slice 4288 0 1 (.opn 1), .slice 6281 0 1 (.opn 1), .nilP] 58 .own 0 0), (4288, .cells [.str [97]] 9 .opn 0 0), (4330, .cells [.int .i64 (7), .int .i64 (125), .str [], .str [], .slice 4433 0 1 (.opn 1), .slice 6236 0 1 (.opn 1), .nilP] 58 .own 0 0), (4433, .cells [.str [97]] 9 .opn 0 0), (4475, .cells [.int .i64 (7), .int .i64 (129), .str [], .str [], .slice 4578 0 1 (.opn 1), .slice 6191 0 1 (.opn 1), .nilP] 58 .own 0 0), (4578, .cells [.str [97]] 9 .opn 0 0), (4620, .cells [.int .i64 (7), .int .i64 (133), .str [], .str [], .slice 4723 0 1 (.opn 1), .slice 6146 0 1 (.opn 1), .nilP] 58 .own 0 0), (4723, .cells [.str [97]] 9 .opn 0 0), (4765, .cells [.int .i64 (7), .int .i64 (137), .str [], .str [], .slice 4868 0 1 (.opn 1), .slice 6101 0 1 (.opn 1), .nilP] 58 .own 0 0), (4868, .cells [.str [97]] 9 .opn 0 0), (4910, .cells [.int .i64 (7), .int .i64 (141), .str [], .str [], .slice 5013 0 1 (.opn 1), .slice 6056 0 1 (.opn 1), .nilP] 58 .own 0 0), (5013, .cells [.str [97]] 9 .opn 0 0), (5055, .cells [.int .i64 (7), .int .i64 (145), .str [], .str [], .slice 5158 0 1 (.opn 1), .slice 6011 0 1 (.opn 1), .nilP] 58 .own 0 0), (5158, .cells [.str [97]] 9 .opn 0 0), (5200, .cells [.int .i64 (7), .int .i64 (149), .str [], .str [], .slice 5303 0 1 (.opn 1), .slice 5966 0 1 (.opn 1), .nilP] 58 .own 0 0), (5303, .cells [.str [97]] 9 .opn 0 0), (5345, .cells [.int .i64 (7), .int .i64 (153), .str [], .str [], .slice 5448 0 1 (.opn 1), .slice 5921 0 1 (.opn 1), .nilP] 58 .own 0 0), (5448, .cells [.str [97]] 9 .opn 0 0), (5490, .cells [.int .i64 (7), .int .i64 (157), .str [], .str [], .slice 5593 0 1 (.opn 1), .slice 5876 0 1 (.opn 1), .nilP] 58 .own 0 0), (5593, .cells [.str [97]] 9 .opn 0 0), (5635, .cells [.int .i64 (7), .int .i64 (161), .str [], .str [], .slice 5738 0 1 (.opn 1), .slice 5831 0 1 (.opn 1), .nilP] 58 .own 0 0), (5738, .cells [.str [97]] 9 .opn 0 0), (5780, .cells [.int .i64 (1), .int .i64 (165), .str [], .str [], .nilS, .nilS, .nilP] 58 .own 0 0), (5831, .cells [.ptr 5780 0] 47 .opn 0 0), (5876, .cells [.ptr 5635 0] 47 .opn 0 0), (5921, .cells [.ptr 5490 0] 47 .opn 0 0), (5966, .cells [.ptr 5345 0] 47 .opn 0 0), (6011, .cells [.ptr 5200 0] 47 .opn 0 0), (6056, .cells [.ptr 5055 0] 47 .opn 0 0), (6101, .cells [.ptr 4910 0] 47 .opn 0 0), (6146, .cells [.ptr 4765 0] 47 .opn 0 0), (6191, .cells [.ptr 4620 0] 47 .opn 0 0), (6236, .cells [.ptr 4475 0] 47 .opn 0 0), (6281, .cells [.ptr 4330 0] 47 .opn 0 0), (6326, .cells [.ptr 4185 0] 47 .opn 0 0), (6371, .cells [.ptr 4040 0] 47 .opn 0 0), (6416, .cells [.ptr 3895 0] 47 .opn 0 0), (6461, .cells [.ptr 3750 0] 47 .opn 0 0), (6506, .cells [.ptr 3605 0] 47 .opn 0 0), (6551, .cells [.ptr 3460 0] 47 .opn 0 0), (6596, .cells [.ptr 3315 0] 47 .opn 0 0), (6641, .cells [.ptr 3170 0] 47 .opn 0 0), (6686, .cells [.ptr 3025 0] 47 .opn 0 0), (6731, .cells [.ptr 2880 0] 47 .opn 0 0), (6776, .cells [.ptr 2735 0] 47 .opn 0 0), (6821, .cells [.ptr 2590 0] 47 .opn 0 0), (6866, .cells [.ptr 2445 0] 47 .opn 0 0), (6911, .cells [.ptr 2300 0] 47 .opn 0 0), (6956, .cells [.ptr 2155 0] 47 .opn 0 0), (7001, .cells [.ptr 2010 0] 47 .opn 0 0), (7046, .cells [.ptr 1865 0] 47 .opn 0 0), (7091, .cells [.ptr 1720 0] 47 .opn 0 0), (7136, .cells [.ptr 1575 0] 47 .opn 0 0), (7181, .cells [.ptr 1430 0] 47 .opn 0 0), (7226, .cells [.ptr 1285 0] 47 .opn 0 0), (7271, .cells [.ptr 1140 0] 47 .opn 0 0), (7316, .cells [.ptr 995 0] 47 .opn 0 0), (7361, .cells [.ptr 850 0] 47 .opn 0 0), (7406, .cells [.ptr 705 0] 47 .opn 0 0), (7451, .cells [.ptr 560 0] 47 .opn 0 0), (7496, .cells [.ptr 415 0] 47 .opn 0 0), (7541, .cells [.ptr 270 0] 47 .opn 0 0), (7585, .cells [.ptr 41 0] 52 .opn 0 0)]⟩
theorem lC_ok (hf : Fit Tryz.prog) : EntSOK Tryz.prog tabs lC.toR := eC_ok hf
noncomputable def lD : EntL := ⟨9, [.str [116, 121, 112, 101, 32, 84, 32, 61, 32, 123, 97, 58, 32, 123, 97, 58, 32, 123, 97, 58, 32, 123, 97, 58, 32, 123, 97, 58, 32, 123, 97, 58, 32, 123, 97, 58, 32, 123, 97, 58, 32, 123, 97, 58, 32, 123, 97, 58, 32, 123, 97, 58, 32, 123, 97, 58, 32, 123, 97, 58, 32, 123, 97, 58, 32, 123, 97, 58, 32, 123, 97, 58, 32, 123, 97, 58, 32, 123, 97, 58, 32, 123, 97, 58, 32, 123, 97, 58, 32, 123, 97, 58, 32, 123, 97, 58, 32, 123, 97, 58, 32, 123, 97, 58, 32, 123, 97, 58, 32, 123, 97, 58, 32, 123, 97, 58, 32, 123, 97, 58, 32, 123, 97, 58, 32, 123, 97, 58, 32, 123, 97, 58, 32, 123, 97, 58, 32, 123, 97, 58, 32, 123, 97, 58, 32, 123, 97, 58, 32, 123, 97, 58, 32, 123, 97, 58, 32, 123, 97, 58, 32, 123, 97, 58, 32, 123, 97, 58, 32, 105, 110, 116, 125, 125, 125, 125, 125, 125, 125, 125, 125, 125, 125, 125, 125, 125, 125, 125, 125, 125, 125, 125, 125, 125, 125, 125, 125, 125, 125, 125, 125, 125, 125, 125, 125, 125, 125, 125, 125, 125, 125, 125]], .tup [.nilS, .iface 68 (.ptr 5912 0)], 5919, [(5912, .cells [.int .i64 (11), .int .i64 (169)] 31 .own 0 0)]⟩
theorem lD_ok (hf : Fit Tryz.prog) : EntSOK Tryz.prog tabs lD.toR := eD_ok hf
noncomputable def lG : EntL := ⟨9, [.str [105, 109, 112, 111, 114, 116, 32, 34, 108, 105, 98, 47, 97, 34, 32, 97, 115, 32, 117, 32, 116, 121, 112, 101, 32, 84, 32, 61, 32, 123, 104, 58, 32, 105, 110, 116, 32, 124, 32, 110, 105, 108, 44, 32, 116, 58, 32, 117, 46, 86, 125, 32, 108, 101, 116, 32, 120, 58, 32, 84, 32, 61, 32, 114, 111, 108, 108, 32, 117, 46, 84, 40, 40, 49, 32, 58, 32, 97, 110, 121, 41, 41, 32, 102, 117, 110, 32, 103, 40, 41, 58, 32, 102, 110, 40, 41, 32, 45, 62, 32, 40, 105, 110, 116, 32, 124, 32, 115, 116, 114, 41, 32, 124, 32, 110, 105, 108, 32, 61, 32, 102, 110, 40, 97, 58, 32, 84, 41, 32, 61, 62, 32, 108, 101, 116, 32, 98, 58, 32, 105, 110, 116, 32, 61, 32, 97, 32, 105, 110, 32, 98]], .tup [.slice 4079 0 4 (.opn 1), .nilI], 4092, [(41, .cells [.int .i64 (1), .int .i64 (0), .str [117], .str [108, 105, 98, 47, 97], .nilP, .nilP, .nilS, .nilS] 51 .own 0 0), (129, .cells [.int .i64 (2), .int .i64 (20), .str [84], .str [], .ptr 213 0, .nilP, .nilS, .nilS] 51 .own 0 0), (213, .cells [.int .i64 (7), .int .i64 (29), .str [], .str [], .slice 515 0 2 (.opn 1), .slice 712 0 2 (.opn 1), .nilP] 58 .own 0 0), (358, .cells [.int .i64 (1), .int .i64 (33), .str [], .str [], .nilS, .nilS, .nilP] 58 .own 0 0), (421, .cells [.int .i64 (4), .int .i64 (39), .str [], .str [], .nilS, .nilS, .nilP] 58 .own 0 0), (457, .cells [.ptr 358 0, .ptr 421 0] 47 .opn 0 0), (472, .cells [.int .i64 (9), .int .i64 (33), .str [], .str [], .nilS, .slice 457 0 2 (.opn 1), .nilP] 58 .own 0 0), (515, .cells [.str [104], .str [116]] 9 .opn 0 0), (653, .cells [.int .i64 (6), .int .i64 (47), .str [117], .str [86], .nilS, .nilS, .nilP] 58 .own 0 0), (712, .cells [.ptr 472 0, .ptr 653 0] 47 .opn 0 0), (787, .cells [.int .i64 (3), .int .i64 (52), .str [120], .str [], .ptr 981 0, .ptr 1186 0, .nilS, .nilS] 51 .own 0 0), (981, .cells [.int .i64 (6), .int .i64 (59), .str [], .str [84], .nilS, .nilS, .nilP] 58 .own 0 0), (1186, .cells [.int .i64 (16), .int .i64 (63), .int .i64 (0), .str [], .ptr 1490 0, .nilP, .nilP, .ptr 1266 0, .nilS, .nilS, .nilS] 61 .own 0 0), (1266, .cells [.int .i64 (6), .int .i64 (68), .str [117], .str [84], .nilS, .nilS, .nilP] 58 .own 0 0), (1490, .cells [.int .i64 (15), .int .i64 (72), .int .i64 (0), .str [], .ptr 1654 0, .nilP, .nilP, .ptr 1895 0, .nilS, .nilS, .nilS] 61 .own 0 0), (1654, .cells [.int .i64 (1), .int .i64 (73), .int .i64 (1), .str [], .nilP, .nilP, .nilP, .nilP, .nilS, .nilS, .nilS] 61 .own 0 0), (1895, .cells [.int .i64 (5), .int .i64 (77), .str [], .str [], .nilS, .nilS, .nilP] 58 .own 0 0), (2344, .cells [.int .i64 (4), .int .i64 (83), .str [103], .str [], .ptr 2500 0, .ptr 2988 0, .nilS, .nilS] 51 .own 0 0), (2500, .cells [.int .i64 (8), .int .i64 (92), .str [], .str [], .nilS, .nilS, .ptr 2944 0] 58 .own 0 0), (2736, .cells [.int .i64 (1), .int .i64 (101), .str [], .str [], .nilS, .nilS, .nilP] 58 .own 0 0), (2799, .cells [.int .i64 (3), .int .i64 (107), .str [], .str [], .nilS, .nilS, .nilP] 58 .own 0 0), (2835, .cells [.ptr 2736 0, .ptr 2799 0] 47 .opn 0 0), (2850, .cells [.int .i64 (9), .int .i64 (101), .str [], .str [], .nilS, .slice 2835 0 2 (.opn 1), .nilP] 58 .own 0 0), (2893, .cells [.int .i64 (4), .int .i64 (114), .str [], .str [], .nilS, .nilS, .nilP] 58 .own 0 0), (2929, .cells [.ptr 2850 0, .ptr 2893 0] 47 .opn 0 0), (2944, .cells [.int .i64 (9), .int .i64 (100), .str [], .str [], .nilS, .slice 2929 0 2 (.opn 1), .nilP] 58 .own 0 0), (2988, .cells [.int .i64 (10), .int .i64 (120), .int .i64 (0), .str [], .ptr 3307 0, .nilP, .nilP, .nilP, .slice 3081 0 1 (.opn 1), .slice 3250 0 1 (.opn 1), .nilS] 61 .own 0 0), (3081, .cells [.str [97]] 9 .opn 0 0), (3219, .cells [.int .i64 (6), .int .i64 (126), .str [], .str [84], .nilS, .nilS, .nilP] 58 .own 0 0), (3250, .cells [.ptr 3219 0] 47 .opn 0 0), (3307, .cells [.int .i64 (12), .int .i64 (132), .int .i64 (0), .str [98], .ptr 3589 0, .ptr 3908 0, .nilP, .ptr 3391 0, .nilS, .nilS, .nilS] 61 .own 0 0), (3391, .cells [.int .i64 (1), .int .i64 (139), .str [], .str [], .nilS, .nilS, .nilP] 58 .own 0 0), (3589, .cells [.int .i64 (6), .int .i64 (145), .int .i64 (0), .str [97], .nilP, .nilP, .nilP, .nilP, .nilS, .nilS, .nilS] 61 .own 0 0), (3908, .cells [.int .i64 (6), .int .i64 (150), .int .i64 (0), .str [98], .nilP, .nilP, .nilP, .nilP, .nilS, .nilS, .nilS] 61 .own 0 0), (4079, .cells [.ptr 41 0, .ptr 129 0, .ptr 787 0, .ptr 2344 0] 52 .opn 0 0)]⟩
theorem lG_ok (hf : Fit Tryz.prog) : EntSOK Tryz.prog tabs lG.toR := eG_ok hf
noncomputable def Lk45 : List EntL := [ePk_0, ePk_1, ePk_2, ePk_3, ePk_4, ePk_5, ePk_6, ePk_7, ePk_8, ePk_9, ePk_10, ePk_11, ePk_12, ePk_13, ePk_14, ePk_15, ePk_16, ePk_17, ePk_18, ePk_19, ePk_20, ePk_21, ePk_22, ePk_23, ePk_24, ePk_25, ePk_26, ePk_27, ePk_28, ePk_29, ePk_30, ePk_31, ePk_32, ePk_33, ePk_34, ePk_35, ePk_36, ePk_37, ePk_38, ePk_39, lA, lB, lC, lD, lG]
theorem Lk45_ok (hf : Fit Tryz.prog) : ∀ e ∈ Lk45, EntSOK Tryz.prog tabs e.toR := fun e he => by
  simp only [Lk45, List.mem_cons, List.not_mem_nil, or_false] at he
  rcases he with rfl | rfl | rfl | rfl | rfl | rfl | rfl | rfl | rfl | rfl | rfl | rfl | rfl | rfl | rfl | rfl | rfl | rfl | rfl | rfl | rfl | rfl | rfl | rfl | rfl | rfl | rfl | rfl | rfl | rfl | rfl | rfl | rfl | rfl | rfl | rfl | rfl | rfl | rfl | rfl | rfl | rfl | rfl | rfl | rfl
  · exact ePk_0_ok hf
  · exact ePk_1_ok hf
  · exact ePk_2_ok hf
  · exact ePk_3_ok hf
  · exact ePk_4_ok hf
  · exact ePk_5_ok hf
  · exact ePk_6_ok hf
  · exact ePk_7_ok hf
  · exact ePk_8_ok hf
  · exact ePk_9_ok hf
  · exact ePk_10_ok hf
  · exact ePk_11_ok hf
  · exact ePk_12_ok hf
  · exact ePk_13_ok hf
  · exact ePk_14_ok hf
  · exact ePk_15_ok hf
  · exact ePk_16_ok hf
  · exact ePk_17_ok hf
  · exact ePk_18_ok hf
  · exact ePk_19_ok hf
  · exact ePk_20_ok hf
  · exact ePk_21_ok hf
  · exact ePk_22_ok hf
  · exact ePk_23_ok hf
  · exact ePk_24_ok hf
  · exact ePk_25_ok hf
  · exact ePk_26_ok hf
  · exact ePk_27_ok hf
  · exact ePk_28_ok hf
  · exact ePk_29_ok hf
  · exact ePk_30_ok hf
  · exact ePk_31_ok hf
  · exact ePk_32_ok hf
  · exact ePk_33_ok hf
  · exact ePk_34_ok hf
  · exact ePk_35_ok hf
  · exact ePk_36_ok hf
  · exact ePk_37_ok hf
  · exact ePk_38_ok hf
  · exact ePk_39_ok hf
  · exact lA_ok hf
  · exact lB_ok hf
  · exact lC_ok hf
  · exact lD_ok hf
  · exact lG_ok hf
noncomputable def Ik : Nat → List AV → AHeap → Option (AV × AHeap) := orE (orE (tabIntrE tabs erN [eWorks]) (intrL Tryz.prog.globals.size tabs Lk45)) (orE (asI erN) (isI erN))
theorem Ik_ok (hf : Fit Tryz.prog) : IntrOK Tryz.prog Ik := orE_ok (orE_ok (tabE_ok hf tabs_lt er_ok.g fun e he => by obtain rfl := List.mem_singleton.1 he; exact works_e hf) (intrL_ok hf tabs_lt (Lk45_ok hf))) (orE_ok (asI_ok er_ok) (isI_ok er_ok))
end Go.Proofs.Lx
