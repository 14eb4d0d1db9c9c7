/-
  PROVED HERE: contracts of functions (Dh). No condition beside each statement's own.
-/
import Derived.Test.YtphbddifiklkpaaDoorDg
import Derived.Test.YtphbddifiklkpaaDoorDa
import Derived.LaidHandle
set_option linter.unusedVariables false
set_option linter.unusedSimpArgs false
namespace Go.Proofs.Lx
open Go AEv Go.Proofs Lexp
set_option maxRecDepth 100000
set_option maxHeartbeats 1000000

theorem td_0 (call : CallT → List AV → AHeap → FRes) (a : Nat) (h : AHeap)
    (H1 : load1 (AHeap.push h (.cells [.int .i64 (.ofNat 0), .int .i64 (.ofNat a)] 38 .own 0 0)) (AHeap.n h) (0 + 0) = some (.int .i64 (.ofNat 0))) :
    RunF Tryd.prog Tryd.f16 none call [] (SSt.mk [(0, .nilI), (1, .agg [.int .i64 (.ofNat 0), .int .i64 (.ofNat a)])] [] .none h) (.ret)
      (SSt.mk [(4, .bool true)] [] .none (AHeap.push h (.cells [.int .i64 (.ofNat 0), .int .i64 (.ofNat a)] 38 .own 0 0))) :=
  sxF_run [4] (hs := [.v (.int .i64 (.ofNat 0)), .b true, .v (.bool true)]) (by kernel_rfl) <| .cons H1 <| .cons (by kernel_rfl : eqI (Int.ofNat 0) (Int.ofNat 0) = true) <| .cons (by kernel_rfl : binA Tryd.prog (AHeap.push h (AObj.cells [AV.int IntKind.i64 (Int.ofNat 0), AV.int IntKind.i64 (Int.ofNat a)] 38 BK.own 0 0)) BinOp.eql 26 (Operand.tmp 9) (Operand.const Value.nilIface) AV.nilI AV.nilI = some (AV.bool true)) <| .nil
theorem td_1 (call : CallT → List AV → AHeap → FRes) (e a : Nat) (h g g2 : AHeap)
    (H1 : load1 (AHeap.push h (.cells [.int .i64 (.ofNat 10), .int .i64 (.ofNat a)] 38 .own 0 0)) (AHeap.n h) (0 + 0) = some (.int .i64 (.ofNat 10)))
    (H2 : call (CallT.fn 29) [AV.iface 52 (AV.ptr e 0), AV.iface 61 (AV.ptr (AHeap.n (AHeap.push h (AObj.cells [AV.int IntKind.i64 (Int.ofNat 10), AV.int IntKind.i64 (Int.ofNat a)] 38 BK.own 0 0))) 0)] (AHeap.room (AHeap.push (AHeap.push h (AObj.cells [AV.int IntKind.i64 (Int.ofNat 10), AV.int IntKind.i64 (Int.ofNat a)] 38 BK.own 0 0)) (AObj.cells [AV.nilP] 52 BK.own 0 0)) 26) = FRes.ret (AV.bool true) g)
    (H3 : load1 g (AHeap.n (AHeap.push h (.cells [.int .i64 (.ofNat 10), .int .i64 (.ofNat a)] 38 .own 0 0))) 0 = some (.ptr e 0))
    (H4 : AEv.loadCells g e 0 2 = some [.int .i64 (.ofNat 10), .int .i64 (.ofNat a)])
    (H5 : AEv.loadCells g (AHeap.n h) 0 2 = some [.int .i64 (.ofNat 10), .int .i64 (.ofNat a)])
    (H6 : binA Tryd.prog g BinOp.eql 38 (Operand.tmp 25) (Operand.tmp 26) (AV.agg [AV.int IntKind.i64 (Int.ofNat 10), AV.int IntKind.i64 (Int.ofNat a)]) (AV.agg [AV.int IntKind.i64 (Int.ofNat 10), AV.int IntKind.i64 (Int.ofNat a)]) = some (AV.bool true))
    (H7 : load1 g (AHeap.n h) (0 + 0) = some (.int .i64 (.ofNat 10)))
    (H8 : call (CallT.fn 30) [AV.iface 52 (AV.ptr e 0), AV.iface 36 (AV.int IntKind.i64 (Int.ofNat 10))] g = FRes.ret (AV.bool true) g2) :
    RunF Tryd.prog Tryd.f16 none call [] (SSt.mk [(0, .iface 52 (.ptr e 0)), (1, .agg [.int .i64 (.ofNat 10), .int .i64 (.ofNat a)])] [] .none h) (.ret)
      (SSt.mk [(4, .bool true)] [] .none g2) :=
  sxF_run [4] (hs := [.v (.int .i64 (.ofNat 10)), .b false, .v (.bool !false), .b true, .b true, .b true, .c (.bool true) g, .b true, .b true, .v (.ptr e 0), .b true, .v (.bool !false), .b true, .b true, .v (.ptr e 0), .b true, .b true, .v (.agg [.int .i64 (.ofNat 10), .int .i64 (.ofNat a)]), .b true, .v (.agg [.int .i64 (.ofNat 10), .int .i64 (.ofNat a)]), .b true, .v (.bool true), .b true, .b true, .b true, .b true, .v (.int .i64 (.ofNat 10)), .b true, .b true, .c (.bool true) g2, .b true]) (by kernel_rfl) <| .cons H1 <| .cons (by kernel_rfl : eqI (Int.ofNat 10) (Int.ofNat 0) = false) <| .cons (by kernel_rfl : binA Tryd.prog (AHeap.room (AHeap.push (AHeap.push h (AObj.cells [AV.int IntKind.i64 (Int.ofNat 10), AV.int IntKind.i64 (Int.ofNat a)] 38 BK.own 0 0)) (AObj.cells [AV.nilP] 52 BK.own 0 0)) 26) BinOp.neq 26 (Operand.tmp 11) (Operand.const Value.nilIface) (AV.iface 52 (AV.ptr e 0)) AV.nilI = some (AV.bool !false)) <| .cons (by kernel_rfl : (!false) = true) <| .cons (by kernel_rfl : (!false) = true) <| .cons (by kernel_rfl : (!false) = true) <| .cons H2 <| .cons (by kernel_rfl : (!false) = true) <| .cons (by kernel_rfl : true = true) <| .cons H3 <| .cons (by kernel_rfl : true = true) <| .cons (by kernel_rfl : binA Tryd.prog g BinOp.neq 52 (Operand.tmp 19) (Operand.const (Value.pointer none)) (AV.ptr e 0) AV.nilP = some (AV.bool !false)) <| .cons (by kernel_rfl : true = true) <| .cons (by kernel_rfl : (!false) = true) <| .cons H3 <| .cons (by kernel_rfl : (!false) = true) <| .cons (by kernel_rfl : (!false) = true) <| .cons H4 <| .cons (by kernel_rfl : (!false) = true) <| .cons H5 <| .cons (by kernel_rfl : (!false) = true) <| .cons H6 <| .cons (by kernel_rfl : (!false) = true) <| .cons (by kernel_rfl : true = true) <| .cons (by kernel_rfl : true = true) <| .cons (by kernel_rfl : true = true) <| .cons H7 <| .cons (by kernel_rfl : true = true) <| .cons (by kernel_rfl : true = true) <| .cons H8 <| .cons (by kernel_rfl : true = true) <| .cons (by kernel_rfl : AV.sound (AV.iface 52 (AV.ptr e 0)) = true) <| .cons (by kernel_rfl : AV.iface 52 (AV.ptr e 0) = AV.iface 52 (AV.ptr e 0)) <| .cons (by kernel_rfl : AV.sound (AV.bool !false) = true) <| .cons (by kernel_rfl : binA Tryd.prog (AHeap.room (AHeap.push (AHeap.push h (AObj.cells [AV.int IntKind.i64 (Int.ofNat 10), AV.int IntKind.i64 (Int.ofNat a)] 38 BK.own 0 0)) (AObj.cells [AV.nilP] 52 BK.own 0 0)) 26) BinOp.neq 26 (Operand.tmp 11) (Operand.const Value.nilIface) (AV.iface 52 (AV.ptr e 0)) AV.nilI = some (AV.bool !false)) <| .cons (by kernel_rfl : AV.sound (AV.bool !false) = true) <| .cons (by kernel_rfl : (AV.bool !false) = AV.bool !false) <| .cons (by kernel_rfl : AV.sound (AV.iface 52 (AV.ptr e 0)) = true) <| .cons (by kernel_rfl : AV.iface 52 (AV.ptr e 0) = AV.iface 52 (AV.ptr e 0)) <| .cons (by kernel_rfl : AV.sound (AV.iface 61 (AV.ptr (AHeap.n (AHeap.push h (AObj.cells [AV.int IntKind.i64 (Int.ofNat 10), AV.int IntKind.i64 (Int.ofNat a)] 38 BK.own 0 0))) 0)) = true) <| .cons (by kernel_rfl : AV.iface 61 (AV.ptr (AHeap.n (AHeap.push h (AObj.cells [AV.int IntKind.i64 (Int.ofNat 10), AV.int IntKind.i64 (Int.ofNat a)] 38 BK.own 0 0))) 0) = AV.iface 61 (AV.ptr (AHeap.n (AHeap.push h (AObj.cells [AV.int IntKind.i64 (Int.ofNat 10), AV.int IntKind.i64 (Int.ofNat a)] 38 BK.own 0 0))) 0)) <| .cons (by kernel_rfl : AV.sound (AV.bool true) = true) <| .cons (by kernel_rfl : (bif !false then AV.bool true else AV.bool false) = AV.bool true) <| .cons (by kernel_rfl : AV.sound (AV.bool true) = true) <| .cons (by kernel_rfl : AV.bool true = AV.bool true) <| .cons (by kernel_rfl : AV.sound (AV.ptr e 0) = true) <| .cons H3 <| .cons (by kernel_rfl : AV.sound (AV.bool !false) = true) <| .cons (by kernel_rfl : binA Tryd.prog g BinOp.neq 52 (Operand.tmp 19) (Operand.const (Value.pointer none)) (AV.ptr e 0) AV.nilP = some (AV.bool !false)) <| .cons (by kernel_rfl : AV.sound (AV.bool !false) = true) <| .cons (by kernel_rfl : (bif true then AV.bool !false else AV.bool false) = AV.bool !false) <| .cons (by kernel_rfl : AV.sound (AV.bool !false) = true) <| .cons (by kernel_rfl : (AV.bool !false) = AV.bool !false) <| .cons (by kernel_rfl : AV.sound (AV.ptr e 0) = true) <| .cons H3 <| .cons (by kernel_rfl : AV.sound (AV.ptr e 0) = true) <| .cons (by kernel_rfl : AV.ptr e 0 = AV.ptr e 0) <| .cons (by kernel_rfl : AV.sound (AV.agg [AV.int IntKind.i64 (Int.ofNat 10), AV.int IntKind.i64 (Int.ofNat a)]) = true) <| .cons H4 <| .cons (by kernel_rfl : AV.sound (AV.agg [AV.int IntKind.i64 (Int.ofNat 10), AV.int IntKind.i64 (Int.ofNat a)]) = true) <| .cons H5 <| .cons (by kernel_rfl : AV.sound (AV.bool true) = true) <| .cons H6 <| .cons (by kernel_rfl : AV.sound (AV.bool true) = true) <| .cons (by kernel_rfl : (bif !false then AV.bool true else AV.bool false) = AV.bool true) <| .cons (by kernel_rfl : AV.sound (AV.bool true) = true) <| .cons (by kernel_rfl : AV.bool true = AV.bool true) <| .cons (by kernel_rfl : AV.sound (AV.iface 52 (AV.ptr e 0)) = true) <| .cons (by kernel_rfl : AV.iface 52 (AV.ptr e 0) = AV.iface 52 (AV.ptr e 0)) <| .cons (by kernel_rfl : AV.sound (AV.ptr (AHeap.n h) (0 + 0)) = true) <| .cons (by kernel_rfl : AV.ptr (AHeap.n h) (0 + 0) = AV.ptr (AHeap.n h) (0 + 0)) <| .cons (by kernel_rfl : AV.sound (AV.int IntKind.i64 (Int.ofNat 10)) = true) <| .cons H7 <| .cons (by kernel_rfl : AV.sound (AV.iface 36 (AV.int IntKind.i64 (Int.ofNat 10))) = true) <| .cons (by kernel_rfl : AV.iface 36 (AV.int IntKind.i64 (Int.ofNat 10)) = AV.iface 36 (AV.int IntKind.i64 (Int.ofNat 10))) <| .cons (by kernel_rfl : AV.sound (AV.bool true) = true) <| .cons (by kernel_rfl : (bif true then AV.bool true else AV.bool false) = AV.bool true) <| .cons (by kernel_rfl : AV.sound (AV.bool true) = true) <| .cons (by kernel_rfl : AV.bool true = AV.bool true) <| .nil
/-! ### told -/
/-- The variable errors.errorType lies as it should. -/
def ErrAt (h : AHeap) : Prop := isErrT erN.rt erN.ng erN.te (h.get 0) = true
theorem ErrAt.keep {h g : AHeap} (he : ErrAt h) (hk : ∀ b, b < 5 → g.get b = h.get b) : ErrAt g := by
  unfold ErrAt at he ⊢
  rw [hk _ (by decide)]; exact he
theorem as_c (m e p : Nat) (x : AHeap) (he : ErrAt x) (hp : x.get p = some (.cells [.nilP] 52 .own 0 0)) : C (m + 1) (.fn 29) [.iface 52 (.ptr e 0), .iface 61 (.ptr p 0)] x = .ret (.bool true) (x.set p (some (.cells [.ptr e 0] 52 .own 0 0))) := by
  have ha : asI erN 29 [.iface 52 (.ptr e 0), .iface 61 (.ptr p 0)] x = some (.bool true, x.set p (some (.cells [.ptr e 0] 52 .own 0 0))) := by
    have e1 : Nat.beq 29 erN.fAs = true := rfl
    have e2 : Nat.beq 52 erN.tF = true := rfl
    have e3 : Nat.beq 61 erN.tFF = true := rfl
    have e4 : isErrT erN.rt erN.ng erN.te (x.get erN.g) = true := he
    simp only [asI, e1, e2, e3, e4, hp, Bool.and_true]
  have h1 : tabIntrT tabs Wl 29 [.iface 52 (.ptr e 0), .iface 61 (.ptr p 0)] x = none := rfl
  have h1' : intrR Tryd.prog.globals.size tabs Rl 29 [.iface 52 (.ptr e 0), .iface 61 (.ptr p 0)] x = none := rfl
  have hi : Il 29 [.iface 52 (.ptr e 0), .iface 61 (.ptr p 0)] x = some (.bool true, x.set p (some (.cells [.ptr e 0] 52 .own 0 0))) := by
    simp only [Il, orE, h1, h1', ha]
  simp only [C, callN, hi]
theorem is_c (m e : Nat) (k : Nat) (x : AHeap) (hl : load1 x e 0 = some (.int .i64 (Int.ofNat k))) : C (m + 1) (.fn 30) [.iface 52 (.ptr e 0), .iface 36 (.int .i64 (Int.ofNat k))] x = .ret (.bool true) x := by
  have ha : isI erN 30 [.iface 52 (.ptr e 0), .iface 36 (.int .i64 (Int.ofNat k))] x = some (.bool true, x) := by
    have e1 : Nat.beq 30 erN.fIs = true := rfl
    have e2 : Nat.beq 52 erN.tF = true := rfl
    have e3 : Nat.beq 36 erN.tE = true := rfl
    simp only [isI, e1, e2, e3, hl, eqI_t rfl, Bool.and_true]
  have h1 : tabIntrT tabs Wl 30 [.iface 52 (.ptr e 0), .iface 36 (.int .i64 (Int.ofNat k))] x = none := rfl
  have h1' : intrR Tryd.prog.globals.size tabs Rl 30 [.iface 52 (.ptr e 0), .iface 36 (.int .i64 (Int.ofNat k))] x = none := rfl
  have h2 : asI erN 30 [.iface 52 (.ptr e 0), .iface 36 (.int .i64 (Int.ofNat k))] x = none := rfl
  have hi : Il 30 [.iface 52 (.ptr e 0), .iface 36 (.int .i64 (Int.ofNat k))] x = some (.bool true, x) := by
    simp only [Il, orE, h1, h1', h2, ha]
  simp only [C, callN, hi]
theorem eqA_ft (h : AHeap) (k a : Nat) : binA Tryd.prog h BinOp.eql 38 (.tmp 25) (.tmp 26) (.agg [.int .i64 (Int.ofNat k), .int .i64 (Int.ofNat a)]) (.agg [.int .i64 (Int.ofNat k), .int .i64 (Int.ofNat a)]) = some (.bool true) := by
  have hk : eqOK Tryd.prog 38 (.tmp 25) (.tmp 26) (.agg [.int .i64 (Int.ofNat k), .int .i64 (Int.ofNat a)]) (.agg [.int .i64 (Int.ofNat k), .int .i64 (Int.ofNat a)]) = true := by
    show (!Tryd.prog.eqGuardType Tryd.prog.depth 38) = true
    kernel_rfl
  have he : eqA Tryd.prog h 100 38 (.agg [.int .i64 (Int.ofNat k), .int .i64 (Int.ofNat a)]) (.agg [.int .i64 (Int.ofNat k), .int .i64 (Int.ofNat a)]) = some true := by
    have : eqA Tryd.prog h 100 38 (.agg [.int .i64 (Int.ofNat k), .int .i64 (Int.ofNat a)]) (.agg [.int .i64 (Int.ofNat k), .int .i64 (Int.ofNat a)]) = (match some (eqI (Int.ofNat k) (Int.ofNat k)) with
      | some true => (match some (eqI (Int.ofNat a) (Int.ofNat a)) with
        | some true => some true
        | x => x)
      | x => x) := by kernel_rfl
    rw [this, eqI_t rfl, eqI_t rfl]
  simp only [binA, hk, if_true, he]
theorem told_nil (m a : Nat) (h : AHeap) : ∃ h', C (m + 1) (.fn 16) [.nilI, .agg [.int .i64 (Int.ofNat 0), .int .i64 (Int.ofNat a)]] h = .ret (.bool true) h' ∧ Ext h.n h h' :=
  ⟨_, fn_runF (intr := Il) (n := m) (args := [.nilI, .agg [.int .i64 (Int.ofNat 0), .int .i64 (Int.ofNat a)]]) Tryd.func16 (by kernel_rfl) rfl (by kernel_rfl) (td_0 (C m) a h (ld1 (gtop rfl) rfl)) (.inl rfl) (by kernel_rfl), Ext.push (Nat.le_refl _) _⟩
theorem told_c (m e a : Nat) (h : AHeap) (he : ErrAt h) (hn : 5 ≤ h.n) (hf : h.get e = some (FaultO a)) (hen : e < h.n) : ∃ h', C (m + 2) (.fn 16) [.iface 52 (.ptr e 0), .agg [.int .i64 (Int.ofNat 10), .int .i64 (Int.ofNat a)]] h = .ret (.bool true) h' ∧ Ext h.n h h' := by
  obtain ⟨h1, hh1⟩ : ∃ h1, h1 = h.push (.cells [.int .i64 (Int.ofNat 10), .int .i64 (Int.ofNat a)] 38 .own 0 0) := ⟨_, rfl⟩
  have n1 : h1.n = h.n + 1 := by rw [hh1]; rfl
  have t1 : h1.get h.n = some (.cells [.int .i64 (Int.ofNat 10), .int .i64 (Int.ofNat a)] 38 .own 0 0) := by rw [hh1]; exact gtop rfl
  obtain ⟨x, hx⟩ : ∃ x, x = (h1.push (.cells [.nilP] 52 .own 0 0)).room 26 := ⟨_, rfl⟩
  have xg : ∀ b, b < h1.n → x.get b = h1.get b := fun b hb => by rw [hx]; exact gold hb rfl
  have xo : ∀ b, b < h.n → x.get b = h.get b := fun b hb => (xg b (by omega)).trans (by rw [hh1]; exact gold hb rfl)
  have xp : x.get h1.n = some (.cells [.nilP] 52 .own 0 0) := by rw [hx]; exact gtop rfl
  have ex : ErrAt x := he.keep fun b hb => xo b (by omega)
  have c1 := as_c m e h1.n x ex xp
  obtain ⟨y, hy⟩ : ∃ y, y = x.set h1.n (some (.cells [.ptr e 0] 52 .own 0 0)) := ⟨_, rfl⟩
  rw [← hy] at c1
  have yo : ∀ b, b < h1.n → y.get b = h1.get b := fun b hb => by rw [hy]; exact gother (by omega) (xg b hb)
  have ye : y.get e = some (FaultO a) := (yo e (by omega)).trans (by rw [hh1]; exact gold hen hf)
  have yt : y.get h.n = some (.cells [.int .i64 (Int.ofNat 10), .int .i64 (Int.ofNat a)] 38 .own 0 0) := (yo _ (by omega)).trans t1
  have yn : y.n = h.n + 28 := by rw [hy, hx]; show h1.n + 1 + 26 = _; omega
  have c2 := is_c m e 10 y (ld1 ye rfl)
  have yp : y.get h1.n = some (.cells [.ptr e 0] 52 .own 0 0) := by rw [hy]; exact gsame rfl
  rw [hx, hh1] at c1
  rw [hh1] at yp t1
  exact ⟨y, fn_runF (intr := Il) (n := m + 1) (args := [.iface 52 (.ptr e 0), .agg [.int .i64 (Int.ofNat 10), .int .i64 (Int.ofNat a)]]) Tryd.func16 (by kernel_rfl) rfl (by kernel_rfl)
    (td_1 (C (m + 1)) e a h y y (ld1 t1 rfl) c1 (ld1 yp rfl) (ldc ye rfl) (ldc yt rfl) (eqA_ft y 10 a) (ld1 yt rfl) c2) (.inl rfl) (by kernel_rfl), ⟨by omega, fun b hb => (yo b (by omega)).trans (by rw [hh1]; exact gold hb rfl)⟩⟩
end Go.Proofs.Lx

namespace Go.Proofs.Lx
open Go AEv Go.Proofs Lexp
set_option maxRecDepth 100000
set_option maxHeartbeats 1000000

/-! ### LexKnown -/
/-- What a law's run needs of memory. -/
structure Mem (h : AHeap) : Prop where
  tb : tabsIn h tabs = true
  er : ErrAt h
  n : 5 ≤ h.n
theorem Mem.ext {h g : AHeap} (hm : Mem h) (x : Ext h.n h g) : Mem g := ⟨tabs_ext hm.tb hm.n x, hm.er.keep fun b hb => x.get b (by have := hm.n; omega), by have := x.n; have := hm.n; omega⟩
end Go.Proofs.Lx

namespace Go.Proofs.Lx
open Go AEv Go.Proofs Lexp Go.RowKit
set_option maxRecDepth 100000
set_option maxHeartbeats 1000000

/-! ### errors.errorType, where a law begins -/
theorem er_named : Tryd.prog.globalNamed "errors.errorType" = some 0 := by kernel_rfl
theorem er_rt : (Tryd.prog.cutTypes.find? (·.1 == "internal/reflectlite.rtype")).map (·.2) = some 104 := by kernel_rfl
theorem er_row : ((List.range Tryd.prog.types.size).filter fun t => Tryd.prog.rowNamed t [101, 114, 114, 111, 114]) = [26] := by kernel_rfl
theorem er_handle : typeHandle Tryd.prog 26 = .pointer (some ⟨7, 26, none⟩) := by kernel_rfl
abbrev erVal : Array Value := #[.iface 104 (.agg #[.pointer (some ⟨7, 26, none⟩)])]
abbrev erData : DataW Unit := .iface "internal/reflectlite.rtype" (.agg [.ptr (.lit (.string [101, 114, 114, 111, 114]))])
theorem handle_of {W : World} (h : handlesMet Tryd.prog [("errors.errorType", erData)] W) : ∃ el fz, W.heap[0]? = some (.cells erVal el fz) := by
  obtain ⟨name, u, ty, e1, e2, e3, e4, e5⟩ := h _ (List.mem_singleton.2 rfl)
  have en : name = [101, 114, 114, 111, 114] := (Option.some.inj e1).symm
  subst en
  obtain rfl := Option.some.inj (er_rt.symm.trans e2)
  have hm : ty ∈ (List.range Tryd.prog.types.size).filter fun t => Tryd.prog.rowNamed t [101, 114, 114, 111, 114] := List.mem_filter.2 ⟨List.mem_range.2 e3, e4⟩
  rw [er_row] at hm
  obtain rfl := List.mem_singleton.1 hm
  rw [er_handle] at e5
  exact var_block er_named e5
/-- A run's memory where tables and errors.errorType are known. -/
noncomputable def heapE (els : Nat → Nat) (rows : List (List AV × Nat)) (el : Nat) (fz : Nat × Nat) : AHeap := (heapT Tryd.prog.globals.size els tabs rows).set 0 (some (.raw (.cells erVal el fz)))
theorem heapE_get (els : Nat → Nat) (rows : List (List AV × Nat)) (el : Nat) (fz : Nat × Nat) {b : Nat} (hb : ¬ b = 0) : (heapE els rows el fz).get b = (heapT Tryd.prog.globals.size els tabs rows).get b := gother hb rfl
theorem heapE_mem (els : Nat → Nat) (rows : List (List AV × Nat)) (el : Nat) (fz : Nat × Nat) : Mem (heapE els rows el fz) := by
  obtain ⟨t1, t2⟩ := start_in els rows
  refine ⟨tabsIn_of fun t ht => ?_, ?_, t2⟩
  · obtain ⟨e, hg⟩ := isTab_get (tabsIn_mem t1 t ht)
    have hne : ¬ t.g = 0 := by
      simp only [tabs, List.mem_cons, List.not_mem_nil, or_false] at ht
      rcases ht with rfl | rfl | rfl <;> decide
    exact isTab_of ((heapE_get els rows el fz hne).trans hg)
  · have hg : (heapE els rows el fz).get 0 = some (.raw (.cells erVal el fz)) := gsame rfl
    unfold ErrAt
    rw [hg]; rfl
theorem start_er {W : World} (hW : Tryd.prog.globals.size ≤ W.heap.size) (hta : ∀ t ∈ tabs, t.g < Tryd.prog.globals.size ∧ TabAt W (elsW W) t) {el : Nat} {fz : Nat × Nat} (he : W.heap[0]? = some (.cells erVal el fz)) (l : List (Img × List AV × Nat)) (hl : ∀ x ∈ l, RowW W x.1 x.2.1 x.2.2) :
    HRel (muT Tryd.prog.globals.size (szW W) (l.map (·.1))) (heapE (elsW W) (l.map (·.2)) el fz) W ∧ GRel Tryd.prog (muT Tryd.prog.globals.size (szW W) (l.map (·.1))) ∧ Roed (heapE (elsW W) (l.map (·.2)) el fz) := by
  obtain ⟨h1, h2, h3⟩ := start_tabs (P := Tryd.prog) hW (elsW W) tabs hta l hl
  obtain ⟨i, q1, q2, q3⟩ := h2 0 er_ok.g
  obtain ⟨r1, r2⟩ := h1.setRaw h3 q1 q3 (by rw [q2]; exact he)
  exact ⟨r1, h2, r2⟩
noncomputable def erW (os : Os) : World :=
  let w0 := World.holding Tryd.prog os ⟨#[], #[], []⟩
  { w0 with heap := w0.heap.modify 0 fun
      | .cells _ t frozen => .cells erVal t frozen
      | o => o }
end Go.Proofs.Lx
