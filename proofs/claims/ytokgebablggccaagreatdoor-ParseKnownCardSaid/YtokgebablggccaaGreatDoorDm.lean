/-
  PROVED HERE: contracts of functions (Dm). No condition beside each statement's own.
-/
import Derived.Test.YtokgebablggccaaGreatDoorDa
import Derived.Test.YtokgebablggccaaGreatDoorDh
set_option linter.unusedVariables false
set_option linter.unusedSimpArgs false
namespace Go.Proofs.Lx
open Go AEv Go.Proofs Lexp
set_option maxRecDepth 100000
set_option maxHeartbeats 1000000
/- lodger/parse.Parse 'let = 1' -/
noncomputable def ePk_10 : EntL := ⟨9, [.str [108, 101, 116, 32, 61, 32, 49]], .tup [.nilS, .iface 68 (.ptr 110 0)], 117, [(110, .cells [.int .i64 (10), .int .i64 (4)] 31 .own 0 0)]⟩
theorem ePk_10_ok (hf : Fit Tryz.prog) : EntSOK Tryz.prog tabs ePk_10.toR := ⟨lexI, 200, lexI_ok hf, rfl, fun els => by kernel_rfl⟩
/- lodger/parse.Parse 'let x = (1' -/
noncomputable def ePk_11 : EntL := ⟨9, [.str [108, 101, 116, 32, 120, 32, 61, 32, 40, 49]], .tup [.nilS, .iface 68 (.ptr 671 0)], 678, [(671, .cells [.int .i64 (10), .int .i64 (10)] 31 .own 0 0)]⟩
theorem ePk_11_ok (hf : Fit Tryz.prog) : EntSOK Tryz.prog tabs ePk_11.toR := ⟨lexI, 200, lexI_ok hf, rfl, fun els => by kernel_rfl⟩
/- lodger/parse.Parse 'x' -/
noncomputable def ePk_12 : EntL := ⟨9, [.str [120]], .tup [.nilS, .iface 68 (.ptr 110 0)], 117, [(110, .cells [.int .i64 (10), .int .i64 (0)] 31 .own 0 0)]⟩
theorem ePk_12_ok (hf : Fit Tryz.prog) : EntSOK Tryz.prog tabs ePk_12.toR := ⟨lexI, 200, lexI_ok hf, rfl, fun els => by kernel_rfl⟩
/- lodger/parse.Parse 'let x = if 1 then 2' -/
noncomputable def ePk_13 : EntL := ⟨9, [.str [108, 101, 116, 32, 120, 32, 61, 32, 105, 102, 32, 49, 32, 116, 104, 101, 110, 32, 50]], .tup [.nilS, .iface 68 (.ptr 805 0)], 812, [(805, .cells [.int .i64 (10), .int .i64 (19)] 31 .own 0 0)]⟩
theorem ePk_13_ok (hf : Fit Tryz.prog) : EntSOK Tryz.prog tabs ePk_13.toR := ⟨lexI, 200, lexI_ok hf, rfl, fun els => by kernel_rfl⟩
/- lodger/parse.Parse 'let x = 1 + not' -/
noncomputable def ePk_14 : EntL := ⟨9, [.str [108, 101, 116, 32, 120, 32, 61, 32, 49, 32, 43, 32, 110, 111, 116]], .tup [.nilS, .iface 68 (.ptr 554 0)], 561, [(554, .cells [.int .i64 (10), .int .i64 (15)] 31 .own 0 0)]⟩
theorem ePk_14_ok (hf : Fit Tryz.prog) : EntSOK Tryz.prog tabs ePk_14.toR := ⟨lexI, 200, lexI_ok hf, rfl, fun els => by kernel_rfl⟩
/- lodger/parse.Parse 'import x as y' -/
noncomputable def ePk_15 : EntL := ⟨9, [.str [105, 109, 112, 111, 114, 116, 32, 120, 32, 97, 115, 32, 121]], .tup [.nilS, .iface 68 (.ptr 82 0)], 89, [(82, .cells [.int .i64 (10), .int .i64 (7)] 31 .own 0 0)]⟩
theorem ePk_15_ok (hf : Fit Tryz.prog) : EntSOK Tryz.prog tabs ePk_15.toR := ⟨lexI, 200, lexI_ok hf, rfl, fun els => by kernel_rfl⟩
/- lodger/parse.Parse 'import "a" x' -/
noncomputable def ePk_16 : EntL := ⟨9, [.str [105, 109, 112, 111, 114, 116, 32, 34, 97, 34, 32, 120]], .tup [.nilS, .iface 68 (.ptr 96 0)], 103, [(96, .cells [.int .i64 (10), .int .i64 (11)] 31 .own 0 0)]⟩
theorem ePk_16_ok (hf : Fit Tryz.prog) : EntSOK Tryz.prog tabs ePk_16.toR := ⟨lexI, 200, lexI_ok hf, rfl, fun els => by kernel_rfl⟩
/- lodger/parse.Parse 'type int = int' -/
noncomputable def ePk_17 : EntL := ⟨9, [.str [116, 121, 112, 101, 32, 105, 110, 116, 32, 61, 32, 105, 110, 116]], .tup [.nilS, .iface 68 (.ptr 96 0)], 103, [(96, .cells [.int .i64 (10), .int .i64 (5)] 31 .own 0 0)]⟩
theorem ePk_17_ok (hf : Fit Tryz.prog) : EntSOK Tryz.prog tabs ePk_17.toR := ⟨lexI, 200, lexI_ok hf, rfl, fun els => by kernel_rfl⟩
/- lodger/parse.Parse 'let x = 1 + if a then b else c' -/
noncomputable def ePk_18 : EntL := ⟨9, [.str [108, 101, 116, 32, 120, 32, 61, 32, 49, 32, 43, 32, 105, 102, 32, 97, 32, 116, 104, 101, 110, 32, 98, 32, 101, 108, 115, 101, 32, 99]], .tup [.nilS, .iface 68 (.ptr 515 0)], 522, [(515, .cells [.int .i64 (10), .int .i64 (12)] 31 .own 0 0)]⟩
theorem ePk_18_ok (hf : Fit Tryz.prog) : EntSOK Tryz.prog tabs ePk_18.toR := ⟨lexI, 200, lexI_ok hf, rfl, fun els => by kernel_rfl⟩
/- lodger/parse.Parse 'let x = {a: 1}' -/
noncomputable def ePk_19 : EntL := ⟨9, [.str [108, 101, 116, 32, 120, 32, 61, 32, 123, 97, 58, 32, 49, 125]], .tup [.nilS, .iface 68 (.ptr 377 0)], 384, [(377, .cells [.int .i64 (10), .int .i64 (10)] 31 .own 0 0)]⟩
theorem ePk_19_ok (hf : Fit Tryz.prog) : EntSOK Tryz.prog tabs ePk_19.toR := ⟨lexI, 200, lexI_ok hf, rfl, fun els => by kernel_rfl⟩
end Go.Proofs.Lx

namespace Go.Proofs.Lx
open Go AEv Go.Proofs Lexp
set_option maxRecDepth 100000
set_option maxHeartbeats 1000000
/- lodger/parse.Parse 'let x = {1 = 2}' -/
noncomputable def ePk_20 : EntL := ⟨9, [.str [108, 101, 116, 32, 120, 32, 61, 32, 123, 49, 32, 61, 32, 50, 125]], .tup [.nilS, .iface 68 (.ptr 362 0)], 369, [(362, .cells [.int .i64 (10), .int .i64 (9)] 31 .own 0 0)]⟩
theorem ePk_20_ok (hf : Fit Tryz.prog) : EntSOK Tryz.prog tabs ePk_20.toR := ⟨lexI, 200, lexI_ok hf, rfl, fun els => by kernel_rfl⟩
/- lodger/parse.Parse 'let x = f(,)' -/
noncomputable def ePk_21 : EntL := ⟨9, [.str [108, 101, 116, 32, 120, 32, 61, 32, 102, 40, 44, 41]], .tup [.nilS, .iface 68 (.ptr 546 0)], 553, [(546, .cells [.int .i64 (10), .int .i64 (10)] 31 .own 0 0)]⟩
theorem ePk_21_ok (hf : Fit Tryz.prog) : EntSOK Tryz.prog tabs ePk_21.toR := ⟨lexI, 200, lexI_ok hf, rfl, fun els => by kernel_rfl⟩
/- lodger/parse.Parse 'let x = {a = 1,}' -/
noncomputable def ePk_22 : EntL := ⟨9, [.str [108, 101, 116, 32, 120, 32, 61, 32, 123, 97, 32, 61, 32, 49, 44, 125]], .tup [.nilS, .iface 68 (.ptr 724 0)], 731, [(724, .cells [.int .i64 (10), .int .i64 (15)] 31 .own 0 0)]⟩
theorem ePk_22_ok (hf : Fit Tryz.prog) : EntSOK Tryz.prog tabs ePk_22.toR := ⟨lexI, 200, lexI_ok hf, rfl, fun els => by kernel_rfl⟩
/- lodger/parse.Parse 'let x = fn(a,) => a' -/
noncomputable def ePk_23 : EntL := ⟨9, [.str [108, 101, 116, 32, 120, 32, 61, 32, 102, 110, 40, 97, 44, 41, 32, 61, 62, 32, 97]], .tup [.nilS, .iface 68 (.ptr 296 0)], 303, [(296, .cells [.int .i64 (10), .int .i64 (13)] 31 .own 0 0)]⟩
theorem ePk_23_ok (hf : Fit Tryz.prog) : EntSOK Tryz.prog tabs ePk_23.toR := ⟨lexI, 200, lexI_ok hf, rfl, fun els => by kernel_rfl⟩
/- lodger/parse.Parse 'fun f = 1' -/
noncomputable def ePk_24 : EntL := ⟨9, [.str [102, 117, 110, 32, 102, 32, 61, 32, 49]], .tup [.nilS, .iface 68 (.ptr 140 0)], 147, [(140, .cells [.int .i64 (10), .int .i64 (6)] 31 .own 0 0)]⟩
theorem ePk_24_ok (hf : Fit Tryz.prog) : EntSOK Tryz.prog tabs ePk_24.toR := ⟨lexI, 200, lexI_ok hf, rfl, fun els => by kernel_rfl⟩
/- lodger/parse.Parse 'fun f(a) : = 1' -/
noncomputable def ePk_25 : EntL := ⟨9, [.str [102, 117, 110, 32, 102, 40, 97, 41, 32, 58, 32, 61, 32, 49]], .tup [.nilS, .iface 68 (.ptr 356 0)], 363, [(356, .cells [.int .i64 (10), .int .i64 (11)] 31 .own 0 0)]⟩
theorem ePk_25_ok (hf : Fit Tryz.prog) : EntSOK Tryz.prog tabs ePk_25.toR := ⟨lexI, 200, lexI_ok hf, rfl, fun els => by kernel_rfl⟩
/- lodger/parse.Parse 'type T = fn(int)' -/
noncomputable def ePk_26 : EntL := ⟨9, [.str [116, 121, 112, 101, 32, 84, 32, 61, 32, 102, 110, 40, 105, 110, 116, 41]], .tup [.nilS, .iface 68 (.ptr 364 0)], 371, [(364, .cells [.int .i64 (10), .int .i64 (16)] 31 .own 0 0)]⟩
theorem ePk_26_ok (hf : Fit Tryz.prog) : EntSOK Tryz.prog tabs ePk_26.toR := ⟨lexI, 200, lexI_ok hf, rfl, fun els => by kernel_rfl⟩
/- lodger/parse.Parse 'type T = {a = int}' -/
noncomputable def ePk_27 : EntL := ⟨9, [.str [116, 121, 112, 101, 32, 84, 32, 61, 32, 123, 97, 32, 61, 32, 105, 110, 116, 125]], .tup [.nilS, .iface 68 (.ptr 255 0)], 262, [(255, .cells [.int .i64 (10), .int .i64 (12)] 31 .own 0 0)]⟩
theorem ePk_27_ok (hf : Fit Tryz.prog) : EntSOK Tryz.prog tabs ePk_27.toR := ⟨lexI, 200, lexI_ok hf, rfl, fun els => by kernel_rfl⟩
/- lodger/parse.Parse 'type T = u.' -/
noncomputable def ePk_28 : EntL := ⟨9, [.str [116, 121, 112, 101, 32, 84, 32, 61, 32, 117, 46]], .tup [.nilS, .iface 68 (.ptr 276 0)], 283, [(276, .cells [.int .i64 (10), .int .i64 (11)] 31 .own 0 0)]⟩
theorem ePk_28_ok (hf : Fit Tryz.prog) : EntSOK Tryz.prog tabs ePk_28.toR := ⟨lexI, 200, lexI_ok hf, rfl, fun els => by kernel_rfl⟩
/- lodger/parse.Parse 'let x = roll T x' -/
noncomputable def ePk_29 : EntL := ⟨9, [.str [108, 101, 116, 32, 120, 32, 61, 32, 114, 111, 108, 108, 32, 84, 32, 120]], .tup [.nilS, .iface 68 (.ptr 414 0)], 421, [(414, .cells [.int .i64 (10), .int .i64 (15)] 31 .own 0 0)]⟩
theorem ePk_29_ok (hf : Fit Tryz.prog) : EntSOK Tryz.prog tabs ePk_29.toR := ⟨lexI, 200, lexI_ok hf, rfl, fun els => by kernel_rfl⟩
end Go.Proofs.Lx
