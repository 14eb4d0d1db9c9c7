/-
  PROVED HERE: contracts of functions (Dl). No condition beside each statement's own.
-/
import Derived.Test.YtokgebablggccaaGreatDoorDa
import Derived.Test.YtokgebablggccaaGreatDoorDh
import Derived.Test.YtokgebablggccaaGreatDoorDi
import Derived.Test.YtokgebablggccaaGreatDoorDj
import Derived.Test.YtokgebablggccaaGreatDoorDk
set_option linter.unusedVariables false
set_option linter.unusedSimpArgs false
namespace Go.Proofs.Lx
open Go AEv Go.Proofs Lexp
set_option maxRecDepth 100000
set_option maxHeartbeats 1000000
/- lodger/lodgerlaw10.value 'p .. q or r' -/
noncomputable def ePb_48 : EntL := ⟨14, [.str [112, 32, 46, 46, 32, 113, 32, 111, 114, 32, 114]], .tup [.ptr 599 0, .nilI], 856, [(260, .cells [.int .i64 (6), .int .i64 (8), .int .i64 (0), .str [112], .nilP, .nilP, .nilP, .nilP, .nilS, .nilS, .nilS] 61 .own 0 0), (363, .cells [.int .i64 (13), .int .i64 (10), .int .i64 (0), .str [46, 46], .ptr 260 0, .ptr 418 0, .nilP, .nilP, .nilS, .nilS, .nilS] 61 .own 0 0), (418, .cells [.int .i64 (6), .int .i64 (13), .int .i64 (0), .str [113], .nilP, .nilP, .nilP, .nilP, .nilS, .nilS, .nilS] 61 .own 0 0), (599, .cells [.int .i64 (13), .int .i64 (15), .int .i64 (0), .str [111, 114], .ptr 363 0, .ptr 672 0, .nilP, .nilP, .nilS, .nilS, .nilS] 61 .own 0 0), (672, .cells [.int .i64 (6), .int .i64 (18), .int .i64 (0), .str [114], .nilP, .nilP, .nilP, .nilP, .nilS, .nilS, .nilS] 61 .own 0 0)]⟩
theorem ePb_48_ok (hf : Fit Tryz.prog) : EntSOK Tryz.prog tabs ePb_48.toR := ⟨lexI, 200, lexI_ok hf, rfl, fun els => by kernel_rfl⟩
/- lodger/lodgerlaw10.value 'p .. q and r' -/
noncomputable def ePb_49 : EntL := ⟨14, [.str [112, 32, 46, 46, 32, 113, 32, 97, 110, 100, 32, 114]], .tup [.ptr 573 0, .nilI], 824, [(260, .cells [.int .i64 (6), .int .i64 (8), .int .i64 (0), .str [112], .nilP, .nilP, .nilP, .nilP, .nilS, .nilS, .nilS] 61 .own 0 0), (363, .cells [.int .i64 (13), .int .i64 (10), .int .i64 (0), .str [46, 46], .ptr 260 0, .ptr 418 0, .nilP, .nilP, .nilS, .nilS, .nilS] 61 .own 0 0), (418, .cells [.int .i64 (6), .int .i64 (13), .int .i64 (0), .str [113], .nilP, .nilP, .nilP, .nilP, .nilS, .nilS, .nilS] 61 .own 0 0), (573, .cells [.int .i64 (13), .int .i64 (15), .int .i64 (0), .str [97, 110, 100], .ptr 363 0, .ptr 640 0, .nilP, .nilP, .nilS, .nilS, .nilS] 61 .own 0 0), (640, .cells [.int .i64 (6), .int .i64 (19), .int .i64 (0), .str [114], .nilP, .nilP, .nilP, .nilP, .nilS, .nilS, .nilS] 61 .own 0 0)]⟩
theorem ePb_49_ok (hf : Fit Tryz.prog) : EntSOK Tryz.prog tabs ePb_49.toR := ⟨lexI, 200, lexI_ok hf, rfl, fun els => by kernel_rfl⟩
/- lodger/lodgerlaw10.value 'p .. q == r' -/
noncomputable def ePb_50 : EntL := ⟨14, [.str [112, 32, 46, 46, 32, 113, 32, 61, 61, 32, 114]], .tup [.ptr 547 0, .nilI], 792, [(260, .cells [.int .i64 (6), .int .i64 (8), .int .i64 (0), .str [112], .nilP, .nilP, .nilP, .nilP, .nilS, .nilS, .nilS] 61 .own 0 0), (363, .cells [.int .i64 (13), .int .i64 (10), .int .i64 (0), .str [46, 46], .ptr 260 0, .ptr 418 0, .nilP, .nilP, .nilS, .nilS, .nilS] 61 .own 0 0), (418, .cells [.int .i64 (6), .int .i64 (13), .int .i64 (0), .str [113], .nilP, .nilP, .nilP, .nilP, .nilS, .nilS, .nilS] 61 .own 0 0), (547, .cells [.int .i64 (13), .int .i64 (15), .int .i64 (0), .str [61, 61], .ptr 363 0, .ptr 608 0, .nilP, .nilP, .nilS, .nilS, .nilS] 61 .own 0 0), (608, .cells [.int .i64 (6), .int .i64 (18), .int .i64 (0), .str [114], .nilP, .nilP, .nilP, .nilP, .nilS, .nilS, .nilS] 61 .own 0 0)]⟩
theorem ePb_50_ok (hf : Fit Tryz.prog) : EntSOK Tryz.prog tabs ePb_50.toR := ⟨lexI, 200, lexI_ok hf, rfl, fun els => by kernel_rfl⟩
/- lodger/lodgerlaw10.value 'p .. q < r' -/
noncomputable def ePb_51 : EntL := ⟨14, [.str [112, 32, 46, 46, 32, 113, 32, 60, 32, 114]], .tup [.ptr 547 0, .nilI], 792, [(260, .cells [.int .i64 (6), .int .i64 (8), .int .i64 (0), .str [112], .nilP, .nilP, .nilP, .nilP, .nilS, .nilS, .nilS] 61 .own 0 0), (363, .cells [.int .i64 (13), .int .i64 (10), .int .i64 (0), .str [46, 46], .ptr 260 0, .ptr 418 0, .nilP, .nilP, .nilS, .nilS, .nilS] 61 .own 0 0), (418, .cells [.int .i64 (6), .int .i64 (13), .int .i64 (0), .str [113], .nilP, .nilP, .nilP, .nilP, .nilS, .nilS, .nilS] 61 .own 0 0), (547, .cells [.int .i64 (13), .int .i64 (15), .int .i64 (0), .str [60], .ptr 363 0, .ptr 608 0, .nilP, .nilP, .nilS, .nilS, .nilS] 61 .own 0 0), (608, .cells [.int .i64 (6), .int .i64 (17), .int .i64 (0), .str [114], .nilP, .nilP, .nilP, .nilP, .nilS, .nilS, .nilS] 61 .own 0 0)]⟩
theorem ePb_51_ok (hf : Fit Tryz.prog) : EntSOK Tryz.prog tabs ePb_51.toR := ⟨lexI, 200, lexI_ok hf, rfl, fun els => by kernel_rfl⟩
/- lodger/lodgerlaw10.value 'p .. q + r' -/
noncomputable def ePb_52 : EntL := ⟨14, [.str [112, 32, 46, 46, 32, 113, 32, 43, 32, 114]], .tup [.ptr 521 0, .nilI], 760, [(260, .cells [.int .i64 (6), .int .i64 (8), .int .i64 (0), .str [112], .nilP, .nilP, .nilP, .nilP, .nilS, .nilS, .nilS] 61 .own 0 0), (363, .cells [.int .i64 (13), .int .i64 (10), .int .i64 (0), .str [46, 46], .ptr 260 0, .ptr 418 0, .nilP, .nilP, .nilS, .nilS, .nilS] 61 .own 0 0), (418, .cells [.int .i64 (6), .int .i64 (13), .int .i64 (0), .str [113], .nilP, .nilP, .nilP, .nilP, .nilS, .nilS, .nilS] 61 .own 0 0), (521, .cells [.int .i64 (13), .int .i64 (15), .int .i64 (0), .str [43], .ptr 363 0, .ptr 576 0, .nilP, .nilP, .nilS, .nilS, .nilS] 61 .own 0 0), (576, .cells [.int .i64 (6), .int .i64 (17), .int .i64 (0), .str [114], .nilP, .nilP, .nilP, .nilP, .nilS, .nilS, .nilS] 61 .own 0 0)]⟩
theorem ePb_52_ok (hf : Fit Tryz.prog) : EntSOK Tryz.prog tabs ePb_52.toR := ⟨lexI, 200, lexI_ok hf, rfl, fun els => by kernel_rfl⟩
/- lodger/lodgerlaw10.value 'p .. q - r' -/
noncomputable def ePb_53 : EntL := ⟨14, [.str [112, 32, 46, 46, 32, 113, 32, 45, 32, 114]], .tup [.ptr 521 0, .nilI], 760, [(260, .cells [.int .i64 (6), .int .i64 (8), .int .i64 (0), .str [112], .nilP, .nilP, .nilP, .nilP, .nilS, .nilS, .nilS] 61 .own 0 0), (363, .cells [.int .i64 (13), .int .i64 (10), .int .i64 (0), .str [46, 46], .ptr 260 0, .ptr 418 0, .nilP, .nilP, .nilS, .nilS, .nilS] 61 .own 0 0), (418, .cells [.int .i64 (6), .int .i64 (13), .int .i64 (0), .str [113], .nilP, .nilP, .nilP, .nilP, .nilS, .nilS, .nilS] 61 .own 0 0), (521, .cells [.int .i64 (13), .int .i64 (15), .int .i64 (0), .str [45], .ptr 363 0, .ptr 576 0, .nilP, .nilP, .nilS, .nilS, .nilS] 61 .own 0 0), (576, .cells [.int .i64 (6), .int .i64 (17), .int .i64 (0), .str [114], .nilP, .nilP, .nilP, .nilP, .nilS, .nilS, .nilS] 61 .own 0 0)]⟩
theorem ePb_53_ok (hf : Fit Tryz.prog) : EntSOK Tryz.prog tabs ePb_53.toR := ⟨lexI, 200, lexI_ok hf, rfl, fun els => by kernel_rfl⟩
/- lodger/lodgerlaw10.value 'p .. q .. r' -/
noncomputable def ePb_54 : EntL := ⟨14, [.str [112, 32, 46, 46, 32, 113, 32, 46, 46, 32, 114]], .tup [.ptr 521 0, .nilI], 760, [(260, .cells [.int .i64 (6), .int .i64 (8), .int .i64 (0), .str [112], .nilP, .nilP, .nilP, .nilP, .nilS, .nilS, .nilS] 61 .own 0 0), (363, .cells [.int .i64 (13), .int .i64 (10), .int .i64 (0), .str [46, 46], .ptr 260 0, .ptr 418 0, .nilP, .nilP, .nilS, .nilS, .nilS] 61 .own 0 0), (418, .cells [.int .i64 (6), .int .i64 (13), .int .i64 (0), .str [113], .nilP, .nilP, .nilP, .nilP, .nilS, .nilS, .nilS] 61 .own 0 0), (521, .cells [.int .i64 (13), .int .i64 (15), .int .i64 (0), .str [46, 46], .ptr 363 0, .ptr 576 0, .nilP, .nilP, .nilS, .nilS, .nilS] 61 .own 0 0), (576, .cells [.int .i64 (6), .int .i64 (18), .int .i64 (0), .str [114], .nilP, .nilP, .nilP, .nilP, .nilS, .nilS, .nilS] 61 .own 0 0)]⟩
theorem ePb_54_ok (hf : Fit Tryz.prog) : EntSOK Tryz.prog tabs ePb_54.toR := ⟨lexI, 200, lexI_ok hf, rfl, fun els => by kernel_rfl⟩
/- lodger/lodgerlaw10.value 'p .. q * r' -/
noncomputable def ePb_55 : EntL := ⟨14, [.str [112, 32, 46, 46, 32, 113, 32, 42, 32, 114]], .tup [.ptr 363 0, .nilI], 728, [(260, .cells [.int .i64 (6), .int .i64 (8), .int .i64 (0), .str [112], .nilP, .nilP, .nilP, .nilP, .nilS, .nilS, .nilS] 61 .own 0 0), (363, .cells [.int .i64 (13), .int .i64 (10), .int .i64 (0), .str [46, 46], .ptr 260 0, .ptr 495 0, .nilP, .nilP, .nilS, .nilS, .nilS] 61 .own 0 0), (418, .cells [.int .i64 (6), .int .i64 (13), .int .i64 (0), .str [113], .nilP, .nilP, .nilP, .nilP, .nilS, .nilS, .nilS] 61 .own 0 0), (495, .cells [.int .i64 (13), .int .i64 (15), .int .i64 (0), .str [42], .ptr 418 0, .ptr 544 0, .nilP, .nilP, .nilS, .nilS, .nilS] 61 .own 0 0), (544, .cells [.int .i64 (6), .int .i64 (17), .int .i64 (0), .str [114], .nilP, .nilP, .nilP, .nilP, .nilS, .nilS, .nilS] 61 .own 0 0)]⟩
theorem ePb_55_ok (hf : Fit Tryz.prog) : EntSOK Tryz.prog tabs ePb_55.toR := ⟨lexI, 200, lexI_ok hf, rfl, fun els => by kernel_rfl⟩
/- lodger/lodgerlaw10.value 'p * q or r' -/
noncomputable def ePb_56 : EntL := ⟨14, [.str [112, 32, 42, 32, 113, 32, 111, 114, 32, 114]], .tup [.ptr 567 0, .nilI], 824, [(260, .cells [.int .i64 (6), .int .i64 (8), .int .i64 (0), .str [112], .nilP, .nilP, .nilP, .nilP, .nilS, .nilS, .nilS] 61 .own 0 0), (337, .cells [.int .i64 (13), .int .i64 (10), .int .i64 (0), .str [42], .ptr 260 0, .ptr 386 0, .nilP, .nilP, .nilS, .nilS, .nilS] 61 .own 0 0), (386, .cells [.int .i64 (6), .int .i64 (12), .int .i64 (0), .str [113], .nilP, .nilP, .nilP, .nilP, .nilS, .nilS, .nilS] 61 .own 0 0), (567, .cells [.int .i64 (13), .int .i64 (14), .int .i64 (0), .str [111, 114], .ptr 337 0, .ptr 640 0, .nilP, .nilP, .nilS, .nilS, .nilS] 61 .own 0 0), (640, .cells [.int .i64 (6), .int .i64 (17), .int .i64 (0), .str [114], .nilP, .nilP, .nilP, .nilP, .nilS, .nilS, .nilS] 61 .own 0 0)]⟩
theorem ePb_56_ok (hf : Fit Tryz.prog) : EntSOK Tryz.prog tabs ePb_56.toR := ⟨lexI, 200, lexI_ok hf, rfl, fun els => by kernel_rfl⟩
/- lodger/lodgerlaw10.value 'p * q and r' -/
noncomputable def ePb_57 : EntL := ⟨14, [.str [112, 32, 42, 32, 113, 32, 97, 110, 100, 32, 114]], .tup [.ptr 541 0, .nilI], 792, [(260, .cells [.int .i64 (6), .int .i64 (8), .int .i64 (0), .str [112], .nilP, .nilP, .nilP, .nilP, .nilS, .nilS, .nilS] 61 .own 0 0), (337, .cells [.int .i64 (13), .int .i64 (10), .int .i64 (0), .str [42], .ptr 260 0, .ptr 386 0, .nilP, .nilP, .nilS, .nilS, .nilS] 61 .own 0 0), (386, .cells [.int .i64 (6), .int .i64 (12), .int .i64 (0), .str [113], .nilP, .nilP, .nilP, .nilP, .nilS, .nilS, .nilS] 61 .own 0 0), (541, .cells [.int .i64 (13), .int .i64 (14), .int .i64 (0), .str [97, 110, 100], .ptr 337 0, .ptr 608 0, .nilP, .nilP, .nilS, .nilS, .nilS] 61 .own 0 0), (608, .cells [.int .i64 (6), .int .i64 (18), .int .i64 (0), .str [114], .nilP, .nilP, .nilP, .nilP, .nilS, .nilS, .nilS] 61 .own 0 0)]⟩
theorem ePb_57_ok (hf : Fit Tryz.prog) : EntSOK Tryz.prog tabs ePb_57.toR := ⟨lexI, 200, lexI_ok hf, rfl, fun els => by kernel_rfl⟩
/- lodger/lodgerlaw10.value 'p * q == r' -/
noncomputable def ePb_58 : EntL := ⟨14, [.str [112, 32, 42, 32, 113, 32, 61, 61, 32, 114]], .tup [.ptr 515 0, .nilI], 760, [(260, .cells [.int .i64 (6), .int .i64 (8), .int .i64 (0), .str [112], .nilP, .nilP, .nilP, .nilP, .nilS, .nilS, .nilS] 61 .own 0 0), (337, .cells [.int .i64 (13), .int .i64 (10), .int .i64 (0), .str [42], .ptr 260 0, .ptr 386 0, .nilP, .nilP, .nilS, .nilS, .nilS] 61 .own 0 0), (386, .cells [.int .i64 (6), .int .i64 (12), .int .i64 (0), .str [113], .nilP, .nilP, .nilP, .nilP, .nilS, .nilS, .nilS] 61 .own 0 0), (515, .cells [.int .i64 (13), .int .i64 (14), .int .i64 (0), .str [61, 61], .ptr 337 0, .ptr 576 0, .nilP, .nilP, .nilS, .nilS, .nilS] 61 .own 0 0), (576, .cells [.int .i64 (6), .int .i64 (17), .int .i64 (0), .str [114], .nilP, .nilP, .nilP, .nilP, .nilS, .nilS, .nilS] 61 .own 0 0)]⟩
theorem ePb_58_ok (hf : Fit Tryz.prog) : EntSOK Tryz.prog tabs ePb_58.toR := ⟨lexI, 200, lexI_ok hf, rfl, fun els => by kernel_rfl⟩
/- lodger/lodgerlaw10.value 'p * q < r' -/
noncomputable def ePb_59 : EntL := ⟨14, [.str [112, 32, 42, 32, 113, 32, 60, 32, 114]], .tup [.ptr 515 0, .nilI], 760, [(260, .cells [.int .i64 (6), .int .i64 (8), .int .i64 (0), .str [112], .nilP, .nilP, .nilP, .nilP, .nilS, .nilS, .nilS] 61 .own 0 0), (337, .cells [.int .i64 (13), .int .i64 (10), .int .i64 (0), .str [42], .ptr 260 0, .ptr 386 0, .nilP, .nilP, .nilS, .nilS, .nilS] 61 .own 0 0), (386, .cells [.int .i64 (6), .int .i64 (12), .int .i64 (0), .str [113], .nilP, .nilP, .nilP, .nilP, .nilS, .nilS, .nilS] 61 .own 0 0), (515, .cells [.int .i64 (13), .int .i64 (14), .int .i64 (0), .str [60], .ptr 337 0, .ptr 576 0, .nilP, .nilP, .nilS, .nilS, .nilS] 61 .own 0 0), (576, .cells [.int .i64 (6), .int .i64 (16), .int .i64 (0), .str [114], .nilP, .nilP, .nilP, .nilP, .nilS, .nilS, .nilS] 61 .own 0 0)]⟩
theorem ePb_59_ok (hf : Fit Tryz.prog) : EntSOK Tryz.prog tabs ePb_59.toR := ⟨lexI, 200, lexI_ok hf, rfl, fun els => by kernel_rfl⟩
/- lodger/lodgerlaw10.value 'p * q + r' -/
noncomputable def ePb_60 : EntL := ⟨14, [.str [112, 32, 42, 32, 113, 32, 43, 32, 114]], .tup [.ptr 489 0, .nilI], 728, [(260, .cells [.int .i64 (6), .int .i64 (8), .int .i64 (0), .str [112], .nilP, .nilP, .nilP, .nilP, .nilS, .nilS, .nilS] 61 .own 0 0), (337, .cells [.int .i64 (13), .int .i64 (10), .int .i64 (0), .str [42], .ptr 260 0, .ptr 386 0, .nilP, .nilP, .nilS, .nilS, .nilS] 61 .own 0 0), (386, .cells [.int .i64 (6), .int .i64 (12), .int .i64 (0), .str [113], .nilP, .nilP, .nilP, .nilP, .nilS, .nilS, .nilS] 61 .own 0 0), (489, .cells [.int .i64 (13), .int .i64 (14), .int .i64 (0), .str [43], .ptr 337 0, .ptr 544 0, .nilP, .nilP, .nilS, .nilS, .nilS] 61 .own 0 0), (544, .cells [.int .i64 (6), .int .i64 (16), .int .i64 (0), .str [114], .nilP, .nilP, .nilP, .nilP, .nilS, .nilS, .nilS] 61 .own 0 0)]⟩
theorem ePb_60_ok (hf : Fit Tryz.prog) : EntSOK Tryz.prog tabs ePb_60.toR := ⟨lexI, 200, lexI_ok hf, rfl, fun els => by kernel_rfl⟩
/- lodger/lodgerlaw10.value 'p * q - r' -/
noncomputable def ePb_61 : EntL := ⟨14, [.str [112, 32, 42, 32, 113, 32, 45, 32, 114]], .tup [.ptr 489 0, .nilI], 728, [(260, .cells [.int .i64 (6), .int .i64 (8), .int .i64 (0), .str [112], .nilP, .nilP, .nilP, .nilP, .nilS, .nilS, .nilS] 61 .own 0 0), (337, .cells [.int .i64 (13), .int .i64 (10), .int .i64 (0), .str [42], .ptr 260 0, .ptr 386 0, .nilP, .nilP, .nilS, .nilS, .nilS] 61 .own 0 0), (386, .cells [.int .i64 (6), .int .i64 (12), .int .i64 (0), .str [113], .nilP, .nilP, .nilP, .nilP, .nilS, .nilS, .nilS] 61 .own 0 0), (489, .cells [.int .i64 (13), .int .i64 (14), .int .i64 (0), .str [45], .ptr 337 0, .ptr 544 0, .nilP, .nilP, .nilS, .nilS, .nilS] 61 .own 0 0), (544, .cells [.int .i64 (6), .int .i64 (16), .int .i64 (0), .str [114], .nilP, .nilP, .nilP, .nilP, .nilS, .nilS, .nilS] 61 .own 0 0)]⟩
theorem ePb_61_ok (hf : Fit Tryz.prog) : EntSOK Tryz.prog tabs ePb_61.toR := ⟨lexI, 200, lexI_ok hf, rfl, fun els => by kernel_rfl⟩
/- lodger/lodgerlaw10.value 'p * q .. r' -/
noncomputable def ePb_62 : EntL := ⟨14, [.str [112, 32, 42, 32, 113, 32, 46, 46, 32, 114]], .tup [.ptr 489 0, .nilI], 728, [(260, .cells [.int .i64 (6), .int .i64 (8), .int .i64 (0), .str [112], .nilP, .nilP, .nilP, .nilP, .nilS, .nilS, .nilS] 61 .own 0 0), (337, .cells [.int .i64 (13), .int .i64 (10), .int .i64 (0), .str [42], .ptr 260 0, .ptr 386 0, .nilP, .nilP, .nilS, .nilS, .nilS] 61 .own 0 0), (386, .cells [.int .i64 (6), .int .i64 (12), .int .i64 (0), .str [113], .nilP, .nilP, .nilP, .nilP, .nilS, .nilS, .nilS] 61 .own 0 0), (489, .cells [.int .i64 (13), .int .i64 (14), .int .i64 (0), .str [46, 46], .ptr 337 0, .ptr 544 0, .nilP, .nilP, .nilS, .nilS, .nilS] 61 .own 0 0), (544, .cells [.int .i64 (6), .int .i64 (17), .int .i64 (0), .str [114], .nilP, .nilP, .nilP, .nilP, .nilS, .nilS, .nilS] 61 .own 0 0)]⟩
theorem ePb_62_ok (hf : Fit Tryz.prog) : EntSOK Tryz.prog tabs ePb_62.toR := ⟨lexI, 200, lexI_ok hf, rfl, fun els => by kernel_rfl⟩
/- lodger/lodgerlaw10.value 'p * q * r' -/
noncomputable def ePb_63 : EntL := ⟨14, [.str [112, 32, 42, 32, 113, 32, 42, 32, 114]], .tup [.ptr 463 0, .nilI], 696, [(260, .cells [.int .i64 (6), .int .i64 (8), .int .i64 (0), .str [112], .nilP, .nilP, .nilP, .nilP, .nilS, .nilS, .nilS] 61 .own 0 0), (337, .cells [.int .i64 (13), .int .i64 (10), .int .i64 (0), .str [42], .ptr 260 0, .ptr 386 0, .nilP, .nilP, .nilS, .nilS, .nilS] 61 .own 0 0), (386, .cells [.int .i64 (6), .int .i64 (12), .int .i64 (0), .str [113], .nilP, .nilP, .nilP, .nilP, .nilS, .nilS, .nilS] 61 .own 0 0), (463, .cells [.int .i64 (13), .int .i64 (14), .int .i64 (0), .str [42], .ptr 337 0, .ptr 512 0, .nilP, .nilP, .nilS, .nilS, .nilS] 61 .own 0 0), (512, .cells [.int .i64 (6), .int .i64 (16), .int .i64 (0), .str [114], .nilP, .nilP, .nilP, .nilP, .nilS, .nilS, .nilS] 61 .own 0 0)]⟩
theorem ePb_63_ok (hf : Fit Tryz.prog) : EntSOK Tryz.prog tabs ePb_63.toR := ⟨lexI, 200, lexI_ok hf, rfl, fun els => by kernel_rfl⟩
end Go.Proofs.Lx

namespace Go.Proofs.Lx
open Go AEv Go.Proofs Lexp
set_option maxRecDepth 100000
set_option maxHeartbeats 1000000

/-! ### ParseBinds: of two signs .. -/
noncomputable def Lb64 : List EntL := [ePb_0, ePb_1, ePb_2, ePb_3, ePb_4, ePb_5, ePb_6, ePb_7, ePb_8, ePb_9, ePb_10, ePb_11, ePb_12, ePb_13, ePb_14, ePb_15, ePb_16, ePb_17, ePb_18, ePb_19, ePb_20, ePb_21, ePb_22, ePb_23, ePb_24, ePb_25, ePb_26, ePb_27, ePb_28, ePb_29, ePb_30, ePb_31, ePb_32, ePb_33, ePb_34, ePb_35, ePb_36, ePb_37, ePb_38, ePb_39, ePb_40, ePb_41, ePb_42, ePb_43, ePb_44, ePb_45, ePb_46, ePb_47, ePb_48, ePb_49, ePb_50, ePb_51, ePb_52, ePb_53, ePb_54, ePb_55, ePb_56, ePb_57, ePb_58, ePb_59, ePb_60, ePb_61, ePb_62, ePb_63]
theorem Lb64_ok (hf : Fit Tryz.prog) : ∀ e ∈ Lb64, EntSOK Tryz.prog tabs e.toR := fun e he => by
  simp only [Lb64, List.mem_cons, List.not_mem_nil, or_false] at he
  rcases he with rfl | rfl | rfl | rfl | rfl | rfl | rfl | rfl | rfl | rfl | rfl | rfl | rfl | rfl | rfl | rfl | rfl | rfl | rfl | rfl | rfl | rfl | rfl | rfl | rfl | rfl | rfl | rfl | rfl | rfl | rfl | rfl | rfl | rfl | rfl | rfl | rfl | rfl | rfl | rfl | rfl | rfl | rfl | rfl | rfl | rfl | rfl | rfl | rfl | rfl | rfl | rfl | rfl | rfl | rfl | rfl | rfl | rfl | rfl | rfl | rfl | rfl | rfl | rfl
  · exact ePb_0_ok hf
  · exact ePb_1_ok hf
  · exact ePb_2_ok hf
  · exact ePb_3_ok hf
  · exact ePb_4_ok hf
  · exact ePb_5_ok hf
  · exact ePb_6_ok hf
  · exact ePb_7_ok hf
  · exact ePb_8_ok hf
  · exact ePb_9_ok hf
  · exact ePb_10_ok hf
  · exact ePb_11_ok hf
  · exact ePb_12_ok hf
  · exact ePb_13_ok hf
  · exact ePb_14_ok hf
  · exact ePb_15_ok hf
  · exact ePb_16_ok hf
  · exact ePb_17_ok hf
  · exact ePb_18_ok hf
  · exact ePb_19_ok hf
  · exact ePb_20_ok hf
  · exact ePb_21_ok hf
  · exact ePb_22_ok hf
  · exact ePb_23_ok hf
  · exact ePb_24_ok hf
  · exact ePb_25_ok hf
  · exact ePb_26_ok hf
  · exact ePb_27_ok hf
  · exact ePb_28_ok hf
  · exact ePb_29_ok hf
  · exact ePb_30_ok hf
  · exact ePb_31_ok hf
  · exact ePb_32_ok hf
  · exact ePb_33_ok hf
  · exact ePb_34_ok hf
  · exact ePb_35_ok hf
  · exact ePb_36_ok hf
  · exact ePb_37_ok hf
  · exact ePb_38_ok hf
  · exact ePb_39_ok hf
  · exact ePb_40_ok hf
  · exact ePb_41_ok hf
  · exact ePb_42_ok hf
  · exact ePb_43_ok hf
  · exact ePb_44_ok hf
  · exact ePb_45_ok hf
  · exact ePb_46_ok hf
  · exact ePb_47_ok hf
  · exact ePb_48_ok hf
  · exact ePb_49_ok hf
  · exact ePb_50_ok hf
  · exact ePb_51_ok hf
  · exact ePb_52_ok hf
  · exact ePb_53_ok hf
  · exact ePb_54_ok hf
  · exact ePb_55_ok hf
  · exact ePb_56_ok hf
  · exact ePb_57_ok hf
  · exact ePb_58_ok hf
  · exact ePb_59_ok hf
  · exact ePb_60_ok hf
  · exact ePb_61_ok hf
  · exact ePb_62_ok hf
  · exact ePb_63_ok hf
noncomputable def Ib : Nat → List AV → AHeap → Option (AV × AHeap) := orE (tabIntrE tabs erN [eWorks]) (intrL Tryz.prog.globals.size tabs Lb64)
theorem Ib_ok (hf : Fit Tryz.prog) : IntrOK Tryz.prog Ib := orE_ok (tabE_ok hf tabs_lt er_ok.g fun e he => by obtain rfl := List.mem_singleton.1 he; exact works_e hf) (intrL_ok hf tabs_lt (Lb64_ok hf))
end Go.Proofs.Lx
