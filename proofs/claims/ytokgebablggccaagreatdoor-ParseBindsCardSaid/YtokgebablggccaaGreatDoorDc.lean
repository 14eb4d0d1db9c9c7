/-
  PROVED HERE: contracts of functions (Dc). No condition beside each statement's own.
-/
import Derived.Test.YtokgebablggccaaGreatDoorDa
import Derived.Test.YtokgebablggccaaGreatDoorSxb
import Derived.Test.YtokgebablggccaaGreatDoorDb
import Derived.Test.YtokgebablggccaaGreatDoorProg
set_option linter.unusedVariables false
set_option linter.unusedSimpArgs false
namespace Go.Proofs.Lx
open Go AEv Go.Proofs Lexp
set_option maxRecDepth 100000
set_option maxHeartbeats 1000000

/-! ### Tables; calls that are told -/
def asciiL : List Nat := [0, 0, 0, 0, 0, 0, 0, 0, 0, 1, 1, 1, 1, 1, 0, 0, 0, 0, 0, 0, 0, 0, 0, 0, 0, 0, 0, 0, 0, 0, 0, 0, 1, 0, 0, 0, 0, 0, 0, 0, 0, 0, 0, 0, 0, 0, 0, 0, 0, 0, 0, 0, 0, 0, 0, 0, 0, 0, 0, 0, 0, 0, 0, 0, 0, 0, 0, 0, 0, 0, 0, 0, 0, 0, 0, 0, 0, 0, 0, 0, 0, 0, 0, 0, 0, 0, 0, 0, 0, 0, 0, 0, 0, 0, 0, 0, 0, 0, 0, 0, 0, 0, 0, 0, 0, 0, 0, 0, 0, 0, 0, 0, 0, 0, 0, 0, 0, 0, 0, 0, 0, 0, 0, 0, 0, 0, 0, 0, 0, 0, 0, 0, 0, 0, 0, 0, 0, 0, 0, 0, 0, 0, 0, 0, 0, 0, 0, 0, 0, 0, 0, 0, 0, 0, 0, 0, 0, 0, 0, 0, 0, 0, 0, 0, 0, 0, 0, 0, 0, 0, 0, 0, 0, 0, 0, 0, 0, 0, 0, 0, 0, 0, 0, 0, 0, 0, 0, 0, 0, 0, 0, 0, 0, 0, 0, 0, 0, 0, 0, 0, 0, 0, 0, 0, 0, 0, 0, 0, 0, 0, 0, 0, 0, 0, 0, 0, 0, 0, 0, 0, 0, 0, 0, 0, 0, 0, 0, 0, 0, 0, 0, 0, 0, 0, 0, 0, 0, 0, 0, 0, 0, 0, 0, 0, 0, 0, 0, 0, 0, 0, 0, 0, 0, 0, 0, 0]
def firstL : List Nat := [240, 240, 240, 240, 240, 240, 240, 240, 240, 240, 240, 240, 240, 240, 240, 240, 240, 240, 240, 240, 240, 240, 240, 240, 240, 240, 240, 240, 240, 240, 240, 240, 240, 240, 240, 240, 240, 240, 240, 240, 240, 240, 240, 240, 240, 240, 240, 240, 240, 240, 240, 240, 240, 240, 240, 240, 240, 240, 240, 240, 240, 240, 240, 240, 240, 240, 240, 240, 240, 240, 240, 240, 240, 240, 240, 240, 240, 240, 240, 240, 240, 240, 240, 240, 240, 240, 240, 240, 240, 240, 240, 240, 240, 240, 240, 240, 240, 240, 240, 240, 240, 240, 240, 240, 240, 240, 240, 240, 240, 240, 240, 240, 240, 240, 240, 240, 240, 240, 240, 240, 240, 240, 240, 240, 240, 240, 240, 240, 241, 241, 241, 241, 241, 241, 241, 241, 241, 241, 241, 241, 241, 241, 241, 241, 241, 241, 241, 241, 241, 241, 241, 241, 241, 241, 241, 241, 241, 241, 241, 241, 241, 241, 241, 241, 241, 241, 241, 241, 241, 241, 241, 241, 241, 241, 241, 241, 241, 241, 241, 241, 241, 241, 241, 241, 241, 241, 241, 241, 241, 241, 241, 241, 241, 241, 2, 2, 2, 2, 2, 2, 2, 2, 2, 2, 2, 2, 2, 2, 2, 2, 2, 2, 2, 2, 2, 2, 2, 2, 2, 2, 2, 2, 2, 2, 19, 3, 3, 3, 3, 3, 3, 3, 3, 3, 3, 3, 3, 35, 3, 3, 52, 4, 4, 4, 68, 241, 241, 241, 241, 241, 241, 241, 241, 241, 241, 241]
def acceptL : List Nat := [128, 191, 160, 191, 128, 159, 144, 191, 128, 143, 0, 0, 0, 0, 0, 0, 0, 0, 0, 0, 0, 0, 0, 0, 0, 0, 0, 0, 0, 0, 0, 0]
def tabs : List Tab := [⟨2, asciiL⟩, ⟨4, firstL⟩, ⟨5, acceptL⟩]
theorem tabs_lt : ∀ t ∈ tabs, t.g < Tryz.prog.globals.size := fun t ht => by
  have h4 : Nat.ble 7 Tryz.prog.globals.size = true := by kernel_rfl
  have h4' := Nat.le_of_ble_eq_true h4
  have hlt : t.g < 7 := by
    simp only [tabs, List.mem_cons, List.not_mem_nil, or_false] at ht
    rcases ht with rfl | rfl | rfl <;> decide
  omega
noncomputable def H0 (els : Nat → Nat) : AHeap := heapT Tryz.prog.globals.size els tabs []
noncomputable def R0 (f : Nat) : FRes := callN Tryz.prog (tabIntrT tabs []) 60 (.fn f) [] (H0 fun _ => 0)
noncomputable def Rl : List EntR := [⟨33, [], R0 33⟩, ⟨34, [], R0 34⟩]
def Wl : List Ent := [⟨13, [], .bool true⟩]
def erN : ErN := ⟨25, 26, 68, 85, 29, 0, 143, 7, 26⟩
noncomputable def Il : Nat → List AV → AHeap → Option (AV × AHeap) := orE (orE (tabIntrT tabs Wl) (intrR Tryz.prog.globals.size tabs Rl)) (orE (asI erN) (isI erN))
noncomputable def C (n : Nat) : CallT → List AV → AHeap → FRes := callN Tryz.prog Il n
theorem int0_ok (hf : Fit Tryz.prog) : IntrOK Tryz.prog (tabIntrT tabs []) := tabT_ok hf tabs_lt (by simp)
end Go.Proofs.Lx

namespace Go.Proofs.Lx
open Go AEv Go.Proofs Lexp Go.ChangeShapes
set_option maxRecDepth 100000
set_option maxHeartbeats 1000000

/-! ### Tables, where a law begins -/
def acceptP : List (Nat × Nat) := [(128, 191), (160, 191), (128, 159), (144, 191), (128, 143), (0, 0), (0, 0), (0, 0), (0, 0), (0, 0), (0, 0), (0, 0), (0, 0), (0, 0), (0, 0), (0, 0)]
theorem tabs_at {W : World} {g0 g1 g3 t0 t1 t3 f0 f1 f3 : Nat} {cs0 cs1 cs3 : Array Value} {p0 p1 p3 : List MemPlace} {d0 d1 d3 : DataW Unit}
    (hg0 : Tryz.prog.globalNamed "unicode/utf8.acceptRanges" = some g0) (ht0 : (Tryz.prog.globals[g0]?).map (·.type) = some t0) (hv0 : W.var? Tryz.prog "unicode/utf8.acceptRanges" = some cs0) (hd0 : DataW.trod (fun _ => ()) Tryz.prog W 0 (fun _ => true) false f0 t0 cs0.toList = some (d0, p0)) (hx0 : d0 = .agg (acceptP.map fun x => .agg [.lit (.int .u8 (Int.ofNat x.1)), .lit (.int .u8 (Int.ofNat x.2))]))
    (hg1 : Tryz.prog.globalNamed "strings.asciiSpace" = some g1) (ht1 : (Tryz.prog.globals[g1]?).map (·.type) = some t1) (hv1 : W.var? Tryz.prog "strings.asciiSpace" = some cs1) (hd1 : DataW.trod (fun _ => ()) Tryz.prog W 0 (fun _ => true) false f1 t1 cs1.toList = some (d1, p1)) (hx1 : d1 = .agg (asciiL.map fun x => .lit (.int .u8 (Int.ofNat x))))
    (hg3 : Tryz.prog.globalNamed "unicode/utf8.first" = some g3) (ht3 : (Tryz.prog.globals[g3]?).map (·.type) = some t3) (hv3 : W.var? Tryz.prog "unicode/utf8.first" = some cs3) (hd3 : DataW.trod (fun _ => ()) Tryz.prog W 0 (fun _ => true) false f3 t3 cs3.toList = some (d3, p3)) (hx3 : d3 = .agg (firstL.map fun x => .lit (.int .u8 (Int.ofNat x)))) :
    ∀ t ∈ tabs, t.g < Tryz.prog.globals.size ∧ TabAt W (elsW W) t := by
  have e0 : g0 = 5 := Option.some.inj (hg0.symm.trans (by kernel_rfl))
  have e1 : g1 = 2 := Option.some.inj (hg1.symm.trans (by kernel_rfl))
  have e3 : g3 = 4 := Option.some.inj (hg3.symm.trans (by kernel_rfl))
  subst e0; subst e1; subst e3
  have u0 : (Tryz.prog.globals[5]?).map (·.type) = some 214 := by kernel_rfl
  have u1 : t1 = 166 := Option.some.inj (ht1.symm.trans (by kernel_rfl))
  have u3 : t3 = 166 := Option.some.inj (ht3.symm.trans (by kernel_rfl))
  have u0 : t0 = 214 := Option.some.inj (ht0.symm.trans u0)
  subst u0; subst u1; subst u3
  have ha : Tryz.prog.underlying 166 = some (.array 256 5) := by kernel_rfl
  have hu : Tryz.prog.underlying 5 = some (.int .u8) := by kernel_rfl
  have hc : Tryz.prog.cellsOf 5 = 1 := by kernel_rfl
  have hacc : acceptL = pairsL acceptP := rfl
  intro t ht
  refine ⟨tabs_lt t ht, ?_⟩
  simp only [tabs, List.mem_cons, List.not_mem_nil, or_false] at ht
  rcases ht with rfl | rfl | rfl
  · exact tab_laid ha hu hc hg1 hv1 hd1 asciiL hx1
  · exact tab_laid ha hu hc hg3 hv3 hd3 firstL hx3
  · rw [hacc]
    have hk : (Tryz.prog.underlying 214) = some (.array 16 213) := by kernel_rfl
    have hs : (match Tryz.prog.underlying 213 with | some (.struct fs) => (fs.toList.map fun f => (f.type, f.offset)) | _ => []) = [(5, 0), (5, 1)] := by kernel_rfl
    cases hq : Tryz.prog.underlying 213 with
    | none => rw [hq] at hs; cases hs
    | some q =>
      rw [hq] at hs
      cases q with
      | struct fs =>
        simp only at hs
        obtain ⟨l⟩ := fs
        match l, hs with
        | [a, b], hs =>
          simp only [List.map_cons, List.map_nil, List.cons.injEq, Prod.mk.injEq, and_true] at hs
          obtain ⟨⟨a1, a2⟩, b1, b2⟩ := hs
          exact tab_laid2 hk hq (by kernel_rfl) (by rw [a1]; exact hu) (by rw [b1]; exact hu) (by rw [a1]; exact hc) (by rw [b1]; exact hc) a2 b2 hg0 hv0 hd0 acceptP hx0
      | _ => cases hs
end Go.Proofs.Lx
