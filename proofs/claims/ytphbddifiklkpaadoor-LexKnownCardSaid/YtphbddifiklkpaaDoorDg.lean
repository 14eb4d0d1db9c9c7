/-
  PROVED HERE: contracts of functions (Dg). No condition beside each statement's own.
-/
import Derived.Test.YtphbddifiklkpaaDoorProg
import Derived.WalkKit
import Derived.LaidEql
import Derived.Stop.Asserts
import Derived.RowKitTokens
import Derived.Test.YtphbddifiklkpaaDoorDc
import Derived.Test.YtphbddifiklkpaaDoorDe
import Derived.Test.YtphbddifiklkpaaDoorDf
set_option linter.unusedVariables false
set_option linter.unusedSimpArgs false
namespace Go.Proofs.Lx.Er
open Go.RowKit Go.Extern.Stop Go.Stop Go.Extern Go
set_option maxRecDepth 100000

/-! ### errors.As by Go's own text (turned from the worked example ToyasAs) -/

theorem as_nil (t : Value) (w : World) :
    Calls Tryd.prog 29 #[.nilIface, t] w fun e w' => e = .returned (.bool false) ∧ w' = w := by
  go_enter Tryd.func29, Tryd.ntmps29
  go_wp2
  go_ret
  exact ⟨rfl, rfl⟩

theorem fl_valueOf27 (t : Addr) (w : World) : (ReflectliteValue.unpack (.iface 61 (.pointer (some t)))).run Tryd.prog w
    = .ok (.agg #[.pointer (some ⟨7, 61, none⟩), .pointer (some ⟨w.heap.size, 0, none⟩), .int .u64 150]) (w.alloc (.cells #[.pointer (some t)] 61)) := by kernel_rfl
theorem fl_type27 (a : Addr) (w : World) : (ReflectliteValue.methodAny (ReflectliteValue.valueError "reflectlite.Value.Type" 0) (fun t _ _ _ => ReflectliteType.toType t) #[.agg #[.pointer (some ⟨7, 61, none⟩), .pointer (some a), .int .u64 150]]).run Tryd.prog w
    = .ok (.iface 104 (.agg #[.pointer (some ⟨7, 61, none⟩)])) w := by kernel_rfl
theorem fl_methodKind (h : Value) (w : World) : (Go.method 276 104 (.agg #[h]) "Kind").run Tryd.prog w = .ok (96, h) w := by kernel_rfl
theorem fl_kind27 (w : World) : ((ReflectliteType.abiMethod fun t => (fun a : Nat => Value.int IntKind.u8 (a : Int)) <$> Rtype.kind t) #[.pointer (some ⟨7, 61, none⟩)]).run Tryd.prog w = .ok (.int .u8 22) w := by kernel_rfl
theorem fl_kind25 (w : World) : ((ReflectliteType.abiMethod fun t => (fun a : Nat => Value.int IntKind.u8 (a : Int)) <$> Rtype.kind t) #[.pointer (some ⟨7, 52, none⟩)]).run Tryd.prog w = .ok (.int .u8 22) w := by kernel_rfl

theorem rlm (z : Sem Value) (f : TypeId → Addr → Nat → Nat → Sem Value) (v : Value) :
    ReflectliteValue.method z f #[v] = (do match ← ReflectliteValue.parts v with | none => z | some (t, a, fl) => f t a fl (fl % 32)) := rfl
theorem fl_parts27 (a : Addr) (w : World) : (ReflectliteValue.parts (.agg #[.pointer (some ⟨7, 61, none⟩), .pointer (some a), .int .u64 150])).run Tryd.prog w = .ok (some (61, a, 150)) w := by kernel_rfl
theorem fl_isNil27 (a p : Addr) (W : World) (ha : W.cell? a = some (.pointer (some p))) :
    (ReflectliteValue.method (ReflectliteValue.valueError "reflectlite.Value.IsNil" 0) ReflectliteValue.isNil #[.agg #[.pointer (some ⟨7, 61, none⟩), .pointer (some a), .int .u64 150]]).run Tryd.prog W = .ok (.bool false) W := by
  rw [rlm]
  simp only [Sem.run_bind, fl_parts27, Result.andThen]
  simp [ReflectliteValue.isNil, loadVar, isAgg, underlying, Tryd.underlying61, ha, Result.andThen]

theorem fl_methodElem (h : Value) (w : World) : (Go.method 276 104 (.agg #[h]) "Elem").run Tryd.prog w = .ok (109, .agg #[h]) w := by kernel_rfl
theorem fl_methodImplements (h : Value) (w : World) : (Go.method 276 104 (.agg #[h]) "Implements").run Tryd.prog w = .ok (110, .agg #[h]) w := by kernel_rfl
theorem fl_methodAssignableTo (h : Value) (w : World) : (Go.method 276 104 (.agg #[h]) "AssignableTo").run Tryd.prog w = .ok (107, .agg #[h]) w := by kernel_rfl
theorem fl_elem27 (w : World) : (ReflectliteType.method ReflectliteType.elem #[.agg #[.pointer (some ⟨7, 61, none⟩)]]).run Tryd.prog w = .ok (.iface 104 (.agg #[.pointer (some ⟨7, 52, none⟩)])) w := by kernel_rfl
theorem fl_implements25 (w : World) : (ReflectliteType.relation "Implements" ReflectliteType.implements_ #[.agg #[.pointer (some ⟨7, 52, none⟩)], .iface 104 (.agg #[.pointer (some ⟨7, 26, none⟩)])]).run Tryd.prog w = .ok (.bool true) w := by kernel_rfl
theorem fl_typeOf25 (v : Value) (w : World) : (ReflectliteType.typeOf #[.iface 52 v]).run Tryd.prog w = .ok (.iface 104 (.agg #[.pointer (some ⟨7, 52, none⟩)])) w := by kernel_rfl
theorem fl_assignable25 (w : World) : (ReflectliteType.relation "AssignableTo" ReflectliteType.assignableTo #[.agg #[.pointer (some ⟨7, 52, none⟩)], .iface 104 (.agg #[.pointer (some ⟨7, 52, none⟩)])]).run Tryd.prog w = .ok (.bool true) w := by kernel_rfl
theorem fl_valueOf25 (e : Addr) (w : World) : (ReflectliteValue.unpack (.iface 52 (.pointer (some e)))).run Tryd.prog w
    = .ok (.agg #[.pointer (some ⟨7, 52, none⟩), .pointer (some ⟨w.heap.size, 0, none⟩), .int .u64 150]) (w.alloc (.cells #[.pointer (some e)] 52)) := by kernel_rfl

theorem fl_elemOf27 (w : World) : (Rtype.elem? 61).run Tryd.prog w = .ok (some 52) w := by kernel_rfl
theorem fl_mk25 (p : Addr) (w : World) : (ReflectliteValue.mk 52 p ReflectliteValue.flagAddr).run Tryd.prog w = .ok (.agg #[.pointer (some ⟨7, 52, none⟩), .pointer (some p), .int .u64 406]) w := by kernel_rfl
theorem fl_elemV27 (a p : Addr) (W : World) (ha : W.cell? a = some (.pointer (some p))) :
    (ReflectliteValue.method (ReflectliteValue.valueError "reflectlite.Value.Elem" 0) ReflectliteValue.elem #[.agg #[.pointer (some ⟨7, 61, none⟩), .pointer (some a), .int .u64 150]]).run Tryd.prog W
      = .ok (.agg #[.pointer (some ⟨7, 52, none⟩), .pointer (some p), .int .u64 406]) W := by
  rw [rlm]
  simp only [Sem.run_bind, fl_parts27, Result.andThen]
  simp [ReflectliteValue.elem, loadVar, isAgg, underlying, Tryd.underlying61, ha, Result.andThen, fl_elemOf27, fl_mk25]
theorem rls (v x : Value) : ReflectliteValue.set #[v, x] = (do
    let (some (dst, a, fl), some (src, b, _)) := (← ReflectliteValue.parts v, ← ReflectliteValue.parts x)
      | unsupported (.noEntry "extern/(internal/reflectlite.Value).Set.zeroValue")
    if fl / ReflectliteValue.flagAddr % 2 == 0 then unsupported (.noEntry "extern/(internal/reflectlite.Value).Set.unaddressable")
    let val ← loadVar src b
    if ← Rtype.directlyAssignable dst src then storeVar dst a val
    else if ← Rtype.implements dst src then
      if (← Rtype.kind src) == 20 then
        match val with
        | .nilIface => unsupported (.noEntry "extern/reflectlite: a nil value of one interface type handed on as a value of another")
        | _ => storeVar dst a val
      else storeVar dst a (.iface src val)
    else panicString ("reflectlite.Set: value of type " ++ (← Rtype.spelt src) ++ " is not assignable to type " ++ (← Rtype.spelt dst))
    pure (.tuple #[])) := rfl
theorem fl_parts25a (a : Addr) (w : World) : (ReflectliteValue.parts (.agg #[.pointer (some ⟨7, 52, none⟩), .pointer (some a), .int .u64 406])).run Tryd.prog w = .ok (some (52, a, 406)) w := by kernel_rfl
theorem fl_parts25 (a : Addr) (w : World) : (ReflectliteValue.parts (.agg #[.pointer (some ⟨7, 52, none⟩), .pointer (some a), .int .u64 150])).run Tryd.prog w = .ok (some (52, a, 150)) w := by kernel_rfl
theorem fl_direct25 (w : World) : (Rtype.directlyAssignable 52 52).run Tryd.prog w = .ok true w := by kernel_rfl
theorem fl_size25 (w : World) : (sizeOf 52).run Tryd.prog w = .ok 1 w := by kernel_rfl
theorem fl_set25 (ta b e : Addr) (old : Value) (W : World) (hb : W.cell? b = some (.pointer (some e))) (ht : W.cell? ta = some old) (hf : W.frozen? ta = false) :
    (ReflectliteValue.set #[.agg #[.pointer (some ⟨7, 52, none⟩), .pointer (some ta), .int .u64 406], .agg #[.pointer (some ⟨7, 52, none⟩), .pointer (some b), .int .u64 150]]).run Tryd.prog W
      = .ok (.tuple #[]) (W.setCell ta (.pointer (some e))) := by
  rw [rls]
  simp only [Sem.run_bind, fl_parts25a, fl_parts25, Result.andThen]
  simp [ReflectliteValue.flagAddr, loadVar, isAgg, underlying, Tryd.underlying52, hb, Result.andThen, fl_direct25, storeVar, Value.cells, storeCells, Addr.add]
  rw [run_store Tryd.prog W ta _ _ (by rfl)]
  simp [ht, hf]

set_option maxHeartbeats 4000000 in
theorem as_hit (e t : Addr) (old : Value) (w : World) (hg : w.cell? ⟨0, 0, none⟩ = some (.iface 104 (.agg #[.pointer (some ⟨7, 26, none⟩)]))) (ht0 : w.cell? t = some old) (hf0 : w.frozen? t = false) :
    Calls Tryd.prog 29 #[.iface 52 (.pointer (some e)), .iface 61 (.pointer (some t))] w fun ev w' => ev = .returned (.bool true) ∧ w' = ((((w.alloc (.cells #[.pointer (some t)] 61)).alloc (.cells #[.pointer (some ⟨7, 61, none⟩), .pointer (some ⟨w.heap.size, 0, none⟩), .int .u64 150] 75)).alloc (.cells #[.pointer (some ⟨7, 61, none⟩), .pointer (some ⟨w.heap.size, 0, none⟩), .int .u64 150] 75)).alloc (.cells #[.pointer (some e)] 52)).setCell t (.pointer (some e)) := by
  have h6 := @run_callFunc_extern Tryd.prog 45 _ (fun args => ReflectliteValue.unpack (args.getD 0 (.tuple #[]))) Tryd.func45 (by kernel_rfl) (by kernel_rfl) (by kernel_rfl) (by kernel_rfl)
  have h7 := @run_callFunc_extern Tryd.prog 46 _ (ReflectliteValue.methodAny (ReflectliteValue.valueError "reflectlite.Value.Type" 0) (fun t _ _ _ => ReflectliteType.toType t)) Tryd.func46 (by kernel_rfl) (by kernel_rfl) (by kernel_rfl) (by kernel_rfl)
  have h8 := @run_callFunc_extern Tryd.prog 47 _ (ReflectliteValue.method (ReflectliteValue.valueError "reflectlite.Value.IsNil" 0) ReflectliteValue.isNil) Tryd.func47 (by kernel_rfl) (by kernel_rfl) (by kernel_rfl) (by kernel_rfl)
  have h27 := @run_callFunc_extern Tryd.prog 96 _ (ReflectliteType.abiMethod fun t => do pure (.int .u8 (← Rtype.kind t))) Tryd.func96 (by kernel_rfl) (by kernel_rfl) (by kernel_rfl) (by kernel_rfl)
  have h37 := @run_callFunc_extern Tryd.prog 109 _ (ReflectliteType.method ReflectliteType.elem) Tryd.func109 (by kernel_rfl) (by kernel_rfl) (by kernel_rfl) (by kernel_rfl)
  have h38 := @run_callFunc_extern Tryd.prog 110 _ (ReflectliteType.relation "Implements" ReflectliteType.implements_) Tryd.func110 (by kernel_rfl) (by kernel_rfl) (by kernel_rfl) (by kernel_rfl)
  have h10 := @run_callFunc_extern Tryd.prog 49 _ ReflectliteType.typeOf Tryd.func49 (by kernel_rfl) (by kernel_rfl) (by kernel_rfl) (by kernel_rfl)
  have h35 := @run_callFunc_extern Tryd.prog 107 _ (ReflectliteType.relation "AssignableTo" ReflectliteType.assignableTo) Tryd.func107 (by kernel_rfl) (by kernel_rfl) (by kernel_rfl) (by kernel_rfl)
  have h11 := @run_callFunc_extern Tryd.prog 62 _ (ReflectliteValue.method (ReflectliteValue.valueError "reflectlite.Value.Elem" 0) ReflectliteValue.elem) Tryd.func62 (by kernel_rfl) (by kernel_rfl) (by kernel_rfl) (by kernel_rfl)
  have h12 := @run_callFunc_extern Tryd.prog 63 _ ReflectliteValue.set Tryd.func63 (by kernel_rfl) (by kernel_rfl) (by kernel_rfl) (by kernel_rfl)
  have tO := fl_typeOf25
  have mA := fl_methodAssignableTo
  have a25 := fl_assignable25
  have v25 := fl_valueOf25
  have f6 := fl_valueOf27
  have f7 := fl_type27
  have mK := fl_methodKind
  have mE := fl_methodElem
  have mI := fl_methodImplements
  have k27 := fl_kind27
  have k25 := fl_kind25
  have e27 := fl_elem27
  have i25 := fl_implements25
  have n8 := fl_isNil27 ⟨w.heap.size, 0, none⟩ t ((w.alloc (.cells #[.pointer (some t)] 61)).alloc (.cells #[.pointer (some ⟨7, 61, none⟩), .pointer (some ⟨w.heap.size, 0, none⟩), .int .u64 150] 75)) (by simp)
  have hlt : 0 < w.heap.size := by
    rcases Nat.eq_zero_or_pos w.heap.size with h0 | h
    · simp [World.cell?, h0] at hg
    · exact h
  have hg2 : ((w.alloc (.cells #[.pointer (some t)] 61)).alloc (.cells #[.pointer (some ⟨7, 61, none⟩), .pointer (some ⟨w.heap.size, 0, none⟩), .int .u64 150] 75)).cell? ⟨0, 0, none⟩ = some (.iface 104 (.agg #[.pointer (some ⟨7, 26, none⟩)])) := by
    rw [World.cell?_alloc_lt _ _ ⟨0, 0, none⟩ (by simp), World.cell?_alloc_lt _ _ ⟨0, 0, none⟩ hlt]; exact hg
  have htl : t.block < w.heap.size := by
    rcases Nat.lt_or_ge t.block w.heap.size with h | h
    · exact h
    · simp [World.cell?, Array.getElem?_eq_none h] at ht0
  have el := fl_elemV27 ⟨w.heap.size, 0, none⟩ t (((w.alloc (.cells #[.pointer (some t)] 61)).alloc (.cells #[.pointer (some ⟨7, 61, none⟩), .pointer (some ⟨w.heap.size, 0, none⟩), .int .u64 150] 75)).alloc (.cells #[.pointer (some ⟨7, 61, none⟩), .pointer (some ⟨w.heap.size, 0, none⟩), .int .u64 150] 75)) (by rw [World.cell?_alloc_lt _ _ ⟨w.heap.size, 0, none⟩ (by simp; omega)]; simp)
  have st := fl_set25 t ⟨w.heap.size + 1 + 1 + 1, 0, none⟩ e old ((((w.alloc (.cells #[.pointer (some t)] 61)).alloc (.cells #[.pointer (some ⟨7, 61, none⟩), .pointer (some ⟨w.heap.size, 0, none⟩), .int .u64 150] 75)).alloc (.cells #[.pointer (some ⟨7, 61, none⟩), .pointer (some ⟨w.heap.size, 0, none⟩), .int .u64 150] 75)).alloc (.cells #[.pointer (some e)] 52))
    (by rw [World.cell?_alloc_at _ _ _ _ (by simp)]; rfl)
    (by rw [World.cell?_alloc_lt _ _ t (by simp; omega), World.cell?_alloc_lt _ _ t (by simp; omega), World.cell?_alloc_lt _ _ t (by simp; omega), World.cell?_alloc_lt _ _ t htl]; exact ht0)
    (by rw [World.frozen?_alloc_old _ _ t (by simp; omega), World.frozen?_alloc_old _ _ t (by simp; omega), World.frozen?_alloc_old _ _ t (by simp; omega), World.frozen?_alloc_old _ _ t (Nat.ne_of_lt htl)]; exact hf0)
  go_enter Tryd.func29, Tryd.ntmps29
  go_wp2
  refine wp_loop_rounds 1 ?_
  rw [rounds_succ]
  go_wp2
  go_ret
  exact ⟨rfl, rfl⟩
end Go.Proofs.Lx.Er

namespace Go.Proofs.Lx.Er
open Go.RowKit Go.Extern.Stop Go.Stop Go.Extern Go
set_option maxRecDepth 100000

/-! ### errors.Is by Go's own text: a fault, and its number (after the worked example SentryIs) -/
theorem is_typeOf (v : Value) (w : World) : (Extern.ReflectliteType.typeOf #[.iface 36 v]).run Tryd.prog w = .ok (.iface 104 (.agg #[.pointer (some ⟨7, 36, none⟩)])) w := by kernel_rfl
def cmpF : Array Value → Sem Value := Extern.ReflectliteType.method fun t => do Go.Extern.Rtype.noPackHeld "Comparable" t; pure (.bool (← typeInfo t).comparable)
theorem is_comparable (w : World) : (cmpF #[.agg #[.pointer (some ⟨7, 36, none⟩)]]).run Tryd.prog w = .ok (.bool true) w := by kernel_rfl
theorem is_methodComparable (v : Value) (w : World) : (Go.method 276 104 v "Comparable").run Tryd.prog w = .ok (108, v) w := by kernel_rfl
theorem is_comp : (Tryd.prog.info? 36).map (·.comparable) = some true := by kernel_rfl
theorem is_noIs (v : Value) (xT : TypeId) (w : World) : (Instr.typeAssert (.iface 52 v) xT 116 true).run Tryd.prog w = .ok (.tuple #[.nilIface, .bool false]) w := run_typeAssert_lacksB Tryd.underlying116 (by kernel_rfl) (by kernel_rfl) v xT w
theorem is_hasUnwrap (v : Value) (xT : TypeId) (w : World) : (Instr.typeAssert (.iface 52 v) xT 111 true).run Tryd.prog w = .ok (.tuple #[.iface 52 v, .bool true]) w := run_typeAssert_hasB Tryd.underlying111 (by kernel_rfl) v xT w
theorem is_methodUnwrap (v : Value) (w : World) : (Go.method 276 52 v "Unwrap").run Tryd.prog w = .ok (101, v) w := by kernel_rfl
theorem is_same (k : Int) (w : World) : (binOp .eql 26 (.iface 36 (.int .i64 k)) (.iface 36 (.int .i64 k))).run Tryd.prog w = .ok (.bool true) w := by
  obtain ⟨i, hi, hcmp⟩ := Option.map_eq_some_iff.1 is_comp
  have h : ∀ d : Nat, (Op.equalIn (d + 2) 26 (.iface 36 (.int .i64 k)) (.iface 36 (.int .i64 k))).run Tryd.prog w = .ok true w := fun d => by
    simp [Op.equalIn, run_underlying Tryd.underlying26, run_underlying Tryd.underlying36, typeInfo, hi, hcmp]
  simp only [binOp]
  simp [Op.equal, Op.maxDepth, h 9998]
theorem is_hit (a : Addr) (k : Int) (w : World) (h1 : w.cell? a = some (.int .i64 k)) :
    Calls Tryd.prog 30 #[.iface 52 (.pointer (some a)), .iface 36 (.int .i64 k)] w fun e w' => e = .returned (.bool true) ∧ w' = w := by
  have h8 := @run_callFunc_extern Tryd.prog 49 _ Extern.ReflectliteType.typeOf Tryd.func49 (by kernel_rfl) (by kernel_rfl) (by kernel_rfl) (by kernel_rfl)
  have h32 := @run_callFunc_extern Tryd.prog 108 _ cmpF Tryd.func108 (by kernel_rfl) (by kernel_rfl) (by kernel_rfl) (by kernel_rfl)
  have tT := is_typeOf
  have cT := is_comparable
  have mR := is_methodComparable
  have nW := is_noIs
  have uW := is_hasUnwrap
  have mU := is_methodUnwrap
  have heq := is_same k w
  have hty := run_eql_iface_types (P := Tryd.prog) 52 36 (.pointer (some a)) (.int .i64 k) Tryd.underlying26 (by decide) w
  go_enter Tryd.func30, Tryd.ntmps30
  go_wp2
  refine wp_loop_rounds 2 ?_
  rw [rounds_succ]
  go_wp2
  rw [rounds_succ]
  go_wp2
  go_ret
  exact ⟨rfl, rfl⟩
end Go.Proofs.Lx.Er

namespace Go.Proofs.Lx
open Go AEv Go.Proofs
set_option maxRecDepth 100000

/-! ### errors.As, errors.Is, as intrinsics -/
theorem enters {f : FuncId} {fn : Func} (hf : Tryd.prog.funcs[f]? = some fn) (hb : fn.body.isSome = true) (hn : (fn.name == "runtime.NumGoroutine") = false) (args : Array Value) (w : World) : (callFunc f args).run Tryd.prog w = .ok (.enter f args) w := by
  obtain ⟨c, hc⟩ := Option.isSome_iff_exists.1 hb
  exact callFunc_enter hf hc hn args w
theorem er_ok : ErOK Tryd.prog erN where
  g := Nat.lt_of_lt_of_le (by decide : 0 < 1) (Nat.le_of_ble_eq_true (by kernel_rfl : Nat.ble 1 Tryd.prog.globals.size = true))
  enterAs := enters Tryd.func29 (by kernel_rfl) (by kernel_rfl)
  enterIs := enters Tryd.func30 (by kernel_rfl) (by kernel_rfl)
  hAs := fun e t old w h1 h2 h3 => (Er.as_hit e t old w h1 h2 h3).mono fun ev w' ⟨a, b⟩ => ⟨a, by
    rw [alloc_more, alloc_more, alloc_more, alloc_more, more_more, more_more, more_more] at b
    exact ⟨_, b⟩⟩
  hIs := fun a k w h => Er.is_hit a k w h
end Go.Proofs.Lx

namespace Go.Proofs.Lx
open Go AEv Go.Proofs Lexp
set_option maxRecDepth 100000
set_option maxHeartbeats 1000000

theorem pl_a (call : CallT → List AV → AHeap → FRes) (s : List UInt8) (h : AHeap) :
    RunF Tryd.prog Tryd.f4 none call [0] (SSt.mk [(0, .str s)] [] .none h) (.nrm)
      (SSt.mk [(0, .str s)] [] .none h) :=
  sxF_run [0] (hs := []) (by kernel_rfl) <| .nil
theorem pl_b (call : CallT → List AV → AHeap → FRes) (s : List UInt8) (h : AHeap) (n_1 : Nat) (t_1 : List UInt8)
    (H1 : foldA minA (AV.int IntKind.i64 (Int.ofNat (List.length s))) [AV.int IntKind.i64 (Int.ofNat 5000)] = some (AV.int IntKind.i64 (Int.ofNat n_1)))
    (H2 : sliceA Tryd.prog h 9 (AV.str s) none (some (AV.int IntKind.i64 (Int.ofNat n_1))) none = some (AV.str t_1)) :
    RunF Tryd.prog Tryd.f4 none call [1, 0] (SSt.mk [(0, .str s)] [] .none h) (.nrm)
      (SSt.mk [(0, .str t_1)] [] .none h) :=
  sxF_run [0] (hs := [.v (.int .i64 (.ofNat n_1)), .v (.str t_1)]) (by kernel_rfl) <| .cons H1 <| .cons H2 <| .nil
theorem rv (call : CallT → List AV → AHeap → FRes) (s : List UInt8) (b : Bool) (r : Nat) (h g : AHeap)
    (H1 : call (.fn 18) [] h = FRes.ret (.map r) g)
    (H2 : lookupA Tryd.prog g 46 (AV.map r) (AV.str s) false = some (AV.bool b)) :
    RunF Tryd.prog Tryd.f9 none call [] (SSt.mk [(0, .str s)] [] .none h) (.ret)
      (SSt.mk [(2, .bool b)] [] .none g) :=
  sxF_run [2] (hs := [.c (.map r) g, .v (.bool b)]) (by kernel_rfl) <| .cons H1 <| .cons H2 <| .nil
theorem pl_c (call : CallT → List AV → AHeap → FRes) (s : List UInt8) (v e : AV) (h g : AHeap)
    (H1 : call (.fn 12) [.str s] h = FRes.ret (.tup [v, e]) g) :
    RunF Tryd.prog Tryd.f4 none call [1, 1, 0] (SSt.mk [(0, .str s)] [] .none h) (.nrm)
      (SSt.mk [(0, .str s), (3, v), (4, e)] [] .none g) :=
  sxF_run [0, 3, 4] (hs := [.c (.tup [v, e]) g]) (by kernel_rfl) <| .cons H1 <| .nil
theorem pl_d (call : CallT → List AV → AHeap → FRes) (s : List UInt8) (c : Nat) (h g : AHeap)
    (H1 : call (.fn 11) [] h = FRes.ret (.bool true) g) :
    RunF Tryd.prog Tryd.f4 none call [1, 1, 1, 0] (SSt.mk [(0, .str s), (3, .nilS), (4, .iface 52 (.ptr c 0))] [] .none h) (.ret)
      (SSt.mk [(0, .str s), (2, .bool true), (3, .nilS)] [] .none g) :=
  sxF_run [0, 2, 3] (hs := [.v (.bool !false), .b true, .b true, .c (.bool true) g, .b true]) (by kernel_rfl) <| .cons (by kernel_rfl : binA Tryd.prog h BinOp.neq 26 (Operand.tmp 17) (Operand.const Value.nilIface) (AV.iface 52 (AV.ptr c 0)) AV.nilI = some (AV.bool !false)) <| .cons (by kernel_rfl : (!false) = true) <| .cons (by kernel_rfl : eqI (Int.ofNat 0) (Int.ofNat 0) = true) <| .cons H1 <| .cons (by kernel_rfl : eqI (Int.ofNat 0) (Int.ofNat 0) = true) <| .nil
theorem pl_d2 (call : CallT → List AV → AHeap → FRes) (s : List UInt8) (v : AV) (h : AHeap) :
    RunF Tryd.prog Tryd.f4 none call [1, 1, 1, 0] (SSt.mk [(0, .str s), (3, v), (4, .nilI)] [] .none h) (.nrm)
      (SSt.mk [(0, .str s), (3, v)] [] .none h) :=
  sxF_run [0, 3] (hs := [.v (.bool !true), .b false]) (by kernel_rfl) <| .cons (by kernel_rfl : binA Tryd.prog h BinOp.neq 26 (Operand.tmp 17) (Operand.const Value.nilIface) AV.nilI AV.nilI = some (AV.bool !true)) <| .cons (by kernel_rfl : (!true) = false) <| .nil
theorem pl_e (call : CallT → List AV → AHeap → FRes) (s : List UInt8) (v : AV) (h : AHeap) :
    RunF Tryd.prog Tryd.f4 none call [1, 1, 1, 1, 0, 0] (SSt.mk [(0, .str s), (3, v)] [] .none h) (.nrm)
      (SSt.mk [(0, .str s), (3, v), (5, .int .i64 (.ofNat 0))] [] .none h) :=
  sxF_run [0, 3, 5] (hs := []) (by kernel_rfl) <| .nil
theorem pl_z (call : CallT → List AV → AHeap → FRes) (s : List UInt8) (c n : Nat) (h g : AHeap) (n_1 n_2 : Nat)
    (H1 : ltI (.ofNat 0) (.ofNat n) = true)
    (H2 : arith .sub .i64 (.ofNat n) (.ofNat 1) = some (.int .i64 (.ofNat n_1)))
    (H3 : Nat.le (Nat.succ n_1) n)
    (H4 : load1 h c (0 + n_1 * 4 + 3) = some (.int .i64 (.ofNat n_2)))
    (H5 : eqI (.ofNat n_2) (.ofNat (List.length s)) = true)
    (H6 : call (.fn 11) [] h = FRes.ret (.bool true) g) :
    RunF Tryd.prog Tryd.f4 none call [1, 1, 1, 1, 1] (SSt.mk [(0, .str s), (3, .slice c 0 n (.opn 4))] [] .none h) (.ret)
      (SSt.mk [(2, .bool true)] [] .none g) :=
  sxF_run [2] (hs := [.b true, .b true, .b true, .b true, .v (.int .i64 (.ofNat n_1)), .b true, .v (.ptr c (0 + n_1 * 4)), .b true, .b true, .v (.int .i64 (.ofNat n_2)), .b true, .b true, .b true, .b true, .b true, .c (.bool true) g, .b true]) (by kernel_rfl) <| .cons H1 <| .cons H1 <| .cons H1 <| .cons H1 <| .cons H2 <| .cons H1 <| .cons (⟨H3, rfl⟩ : Nat.le (Nat.succ n_1) n ∧ AV.ptr c (0 + n_1 * 4) = AV.ptr c (0 + n_1 * 4)) <| .cons H1 <| .cons H1 <| .cons H4 <| .cons H1 <| .cons H1 <| .cons H1 <| .cons H1 <| .cons H5 <| .cons H6 <| .cons H5 <| .nil
theorem pl_x_1 (call : CallT → List AV → AHeap → FRes) (s : List UInt8) (c n i : Nat) (h : AHeap)
    (H1 : ltI (.ofNat i) (.ofNat n) = true) :
    RunF Tryd.prog Tryd.f4 none call [1, 1, 1, 1, 0, 1, 0, 0, 0] (SSt.mk [(0, .str s), (3, .slice c 0 n (.opn 4)), (5, .int .i64 (.ofNat i))] [] .none h) (.nrm)
      (SSt.mk [(0, .str s), (3, .slice c 0 n (.opn 4)), (5, .int .i64 (.ofNat i))] [] .none h) :=
  sxF_run [0, 3, 5] (hs := [.b true]) (by kernel_rfl) <| .cons H1 <| .nil
theorem pl_x_2 (call : CallT → List AV → AHeap → FRes) (s : List UInt8) (c n i : Nat) (h : AHeap)
    (H1 : ltI (.ofNat i) (.ofNat n) = false) :
    RunF Tryd.prog Tryd.f4 none call [1, 1, 1, 1, 0, 1, 0, 0, 0] (SSt.mk [(0, .str s), (3, .slice c 0 n (.opn 4)), (5, .int .i64 (.ofNat i))] [] .none h) (.exit 0)
      (SSt.mk [(0, .str s), (3, .slice c 0 n (.opn 4)), (5, .int .i64 (.ofNat i))] [] .none h) :=
  sxF_run [0, 3, 5] (hs := [.b false]) (by kernel_rfl) <| .cons H1 <| .nil
theorem pl_t (call : CallT → List AV → AHeap → FRes) (s x : List UInt8) (c n i k v a : Nat) (h g_1 : AHeap)
    (H1 : Nat.le (Nat.succ i) n)
    (H2 : AEv.loadCells h c (0 + i * 4) 4 = some [.int .i64 (.ofNat k), .str x, .int .i64 (.ofNat v), .int .i64 (.ofNat a)])
    (H3 : AEv.storeCells (AHeap.push h (.cells [.int .i64 (.ofNat 0), .str [], .int .i64 (.ofNat 0), .int .i64 (.ofNat 0)] 30 .own 0 0)) (AHeap.n h) 0 [.int .i64 (.ofNat k), .str x, .int .i64 (.ofNat v), .int .i64 (.ofNat a)] = some g_1) :
    RunF Tryd.prog Tryd.f4 none call [1, 1, 1, 1, 0, 1, 0, 0, 1, 0, 0, 0] (SSt.mk [(0, .str s), (3, .slice c 0 n (.opn 4)), (5, .int .i64 (.ofNat i))] [] .none h) (.nrm)
      (SSt.mk [(0, .str s), (3, .slice c 0 n (.opn 4)), (5, .int .i64 (.ofNat i)), (6, .ptr (AHeap.n h) 0)] [] .none g_1) :=
  sxF_run [0, 3, 5, 6] (hs := [.v (.ptr c (0 + i * 4)), .v (.agg [.int .i64 (.ofNat k), .str x, .int .i64 (.ofNat v), .int .i64 (.ofNat a)]), .vh (.tup []) g_1]) (by kernel_rfl) <| .cons (⟨H1, rfl⟩ : Nat.le (Nat.succ i) n ∧ AV.ptr c (0 + i * 4) = AV.ptr c (0 + i * 4)) <| .cons H2 <| .cons (⟨by kernel_rfl, H3, rfl⟩ : some 4 = some 4 ∧ AEv.storeCells (AHeap.push h (AObj.cells [AV.int IntKind.i64 (Int.ofNat 0), AV.str [], AV.int IntKind.i64 (Int.ofNat 0), AV.int IntKind.i64 (Int.ofNat 0)] 30 BK.own 0 0)) (AHeap.n h) 0 [AV.int IntKind.i64 (Int.ofNat k), AV.str x, AV.int IntKind.i64 (Int.ofNat v), AV.int IntKind.i64 (Int.ofNat a)] = some g_1 ∧ AV.tup [] = AV.tup []) <| .nil
theorem pl_q0 (call : CallT → List AV → AHeap → FRes) (s x y : List UInt8) (c n i k v a a1 b : Nat) (h g : AHeap) (n_1 : Nat)
    (H1 : load1 (AHeap.room h 36) b (0 + 3) = some (.int .i64 (.ofNat a)))
    (H2 : ltI (.ofNat (List.length s)) (.ofNat a) = false)
    (H3 : load1 (AHeap.room h 36) b (0 + 0) = some (.int .i64 (.ofNat k)))
    (H4 : arith .sub .i64 (.ofNat n) (.ofNat 1) = some (.int .i64 (.ofNat n_1)))
    (H5 : binA Tryd.prog (AHeap.room h 36) BinOp.neq 4 (Operand.tmp 63) (Operand.tmp 68) (AV.bool (eqI (Int.ofNat k) (Int.ofNat 0))) (AV.bool (eqI (Int.ofNat 0) (Int.ofNat n_1))) = some (AV.bool false))
    (H6 : (bif ltI (Int.ofNat (List.length s)) (Int.ofNat a) then AV.bool true else AV.bool false) = AV.bool false) :
    RunF Tryd.prog Tryd.f4 none call [1, 1, 1, 1, 0, 1, 0, 0, 1, 0, 0, 1, 0] (SSt.mk [(0, .str s), (3, .slice c 0 n (.opn 4)), (5, .int .i64 (.ofNat 0)), (6, .ptr b 0)] [] .none h) (.nrm)
      (SSt.mk [(0, .str s), (3, .slice c 0 n (.opn 4)), (5, .int .i64 (.ofNat 0)), (6, .ptr b 0)] [] .none (AHeap.room h 36)) :=
  sxF_run [0, 3, 5, 6] (hs := [.v (.int .i64 (.ofNat a)), .b false, .b false, .v (.int .i64 (.ofNat a)), .b false, .b false, .b false, .b false, .b false, .b false, .b false, .b false, .b false, .b false, .b false, .b false, .b false, .b false, .b false, .b false, .b false, .b false, .b false, .b false, .b false, .v (.int .i64 (.ofNat k)), .b false, .b false, .b false, .b false, .b false, .v (.int .i64 (.ofNat n_1)), .b false, .b false, .v (.bool false), .b false, .b false]) (by kernel_rfl) <| .cons H1 <| .cons (by kernel_rfl : ltI (Int.ofNat a) (Int.ofNat 0) = false) <| .cons (by kernel_rfl : ltI (Int.ofNat a) (Int.ofNat 0) = false) <| .cons H1 <| .cons (by kernel_rfl : ltI (Int.ofNat a) (Int.ofNat 0) = false) <| .cons (by kernel_rfl : ltI (Int.ofNat a) (Int.ofNat 0) = false) <| .cons (by kernel_rfl : ltI (Int.ofNat a) (Int.ofNat 0) = false) <| .cons (by kernel_rfl : ltI (Int.ofNat a) (Int.ofNat 0) = false) <| .cons H2 <| .cons H2 <| .cons H2 <| .cons (by kernel_rfl : ltI (Int.ofNat 0) (Int.ofNat 0) = false) <| .cons (by kernel_rfl : ltI (Int.ofNat 0) (Int.ofNat 0) = false) <| .cons (by kernel_rfl : ltI (Int.ofNat 0) (Int.ofNat 0) = false) <| .cons (by kernel_rfl : ltI (Int.ofNat 0) (Int.ofNat 0) = false) <| .cons (by kernel_rfl : ltI (Int.ofNat 0) (Int.ofNat 0) = false) <| .cons (by kernel_rfl : ltI (Int.ofNat 0) (Int.ofNat 0) = false) <| .cons (by kernel_rfl : ltI (Int.ofNat 0) (Int.ofNat 0) = false) <| .cons (by kernel_rfl : ltI (Int.ofNat 0) (Int.ofNat 0) = false) <| .cons (by kernel_rfl : ltI (Int.ofNat 0) (Int.ofNat 0) = false) <| .cons H2 <| .cons (by kernel_rfl : ltI (Int.ofNat 0) (Int.ofNat 0) = false) <| .cons H2 <| .cons (by kernel_rfl : false = false) <| .cons (by kernel_rfl : false = false) <| .cons H3 <| .cons (by kernel_rfl : false = false) <| .cons (by kernel_rfl : false = false) <| .cons (by kernel_rfl : false = false) <| .cons (by kernel_rfl : false = false) <| .cons (by kernel_rfl : false = false) <| .cons H4 <| .cons (by kernel_rfl : false = false) <| .cons (by kernel_rfl : false = false) <| .cons H5 <| .cons (by kernel_rfl : false = false) <| .cons (by kernel_rfl : AV.sound (AV.ptr b (0 + 3)) = true) <| .cons (by kernel_rfl : AV.ptr b (0 + 3) = AV.ptr b (0 + 3)) <| .cons (by kernel_rfl : AV.sound (AV.int IntKind.i64 (Int.ofNat a)) = true) <| .cons H1 <| .cons (by kernel_rfl : AV.sound (AV.bool (ltI (Int.ofNat a) (Int.ofNat 0))) = true) <| .cons (by kernel_rfl : AV.bool (ltI (Int.ofNat a) (Int.ofNat 0)) = AV.bool (ltI (Int.ofNat a) (Int.ofNat 0))) <| .cons (by kernel_rfl : AV.sound (AV.bool (ltI (Int.ofNat a) (Int.ofNat 0))) = true) <| .cons (by kernel_rfl : AV.bool (ltI (Int.ofNat a) (Int.ofNat 0)) = AV.bool (ltI (Int.ofNat a) (Int.ofNat 0))) <| .cons (by kernel_rfl : AV.sound (AV.ptr b (0 + 3)) = true) <| .cons (by kernel_rfl : AV.ptr b (0 + 3) = AV.ptr b (0 + 3)) <| .cons (by kernel_rfl : AV.sound (AV.int IntKind.i64 (Int.ofNat a)) = true) <| .cons H1 <| .cons (by kernel_rfl : AV.sound (AV.str s) = true) <| .cons (by kernel_rfl : AV.str s = AV.str s) <| .cons (by kernel_rfl : AV.sound (AV.int IntKind.i64 (Int.ofNat (List.length s))) = true) <| .cons (by kernel_rfl : AV.int IntKind.i64 (Int.ofNat (List.length s)) = AV.int IntKind.i64 (Int.ofNat (List.length s))) <| .cons (by kernel_rfl : AV.sound (AV.bool (ltI (Int.ofNat (List.length s)) (Int.ofNat a))) = true) <| .cons (by kernel_rfl : AV.bool (ltI (Int.ofNat (List.length s)) (Int.ofNat a)) = AV.bool (ltI (Int.ofNat (List.length s)) (Int.ofNat a))) <| .cons (by kernel_rfl : AV.sound (AV.bool (ltI (Int.ofNat (List.length s)) (Int.ofNat a))) = true) <| .cons (by kernel_rfl : (bif ltI (Int.ofNat a) (Int.ofNat 0) then AV.bool true else AV.bool (ltI (Int.ofNat (List.length s)) (Int.ofNat a))) = AV.bool (ltI (Int.ofNat (List.length s)) (Int.ofNat a))) <| .cons (by kernel_rfl : AV.sound (AV.bool (ltI (Int.ofNat (List.length s)) (Int.ofNat a))) = true) <| .cons (by kernel_rfl : AV.bool (ltI (Int.ofNat (List.length s)) (Int.ofNat a)) = AV.bool (ltI (Int.ofNat (List.length s)) (Int.ofNat a))) <| .cons (by kernel_rfl : AV.sound (AV.int IntKind.i64 (Int.ofNat 0)) = true) <| .cons (by kernel_rfl : AV.int IntKind.i64 (Int.ofNat 0) = AV.int IntKind.i64 (Int.ofNat 0)) <| .cons (by kernel_rfl : AV.sound (AV.bool (ltI (Int.ofNat 0) (Int.ofNat 0))) = true) <| .cons (by kernel_rfl : AV.bool (ltI (Int.ofNat 0) (Int.ofNat 0)) = AV.bool (ltI (Int.ofNat 0) (Int.ofNat 0))) <| .cons (by kernel_rfl : AV.sound (AV.bool (ltI (Int.ofNat 0) (Int.ofNat 0))) = true) <| .cons (by kernel_rfl : AV.bool (ltI (Int.ofNat 0) (Int.ofNat 0)) = AV.bool (ltI (Int.ofNat 0) (Int.ofNat 0))) <| .cons (by kernel_rfl : false = false) <| .cons (by kernel_rfl : false = false) <| .cons (by kernel_rfl : false = false) <| .cons (by kernel_rfl : false = false) <| .cons (by kernel_rfl : false = false) <| .cons (by kernel_rfl : false = false) <| .cons (by kernel_rfl : false = false) <| .cons (by kernel_rfl : false = false) <| .cons (by kernel_rfl : false = false) <| .cons (by kernel_rfl : AV.sound (AV.bool false) = true) <| .cons (by kernel_rfl : (bif ltI (Int.ofNat 0) (Int.ofNat 0) then AV.tup [] else AV.bool false) = AV.bool false) <| .cons (by kernel_rfl : AV.sound (AV.bool false) = true) <| .cons H6 <| .cons (by kernel_rfl : AV.sound (AV.bool false) = true) <| .cons (by kernel_rfl : AV.bool false = AV.bool false) <| .cons (by kernel_rfl : AV.sound (AV.ptr b (0 + 0)) = true) <| .cons (by kernel_rfl : AV.ptr b (0 + 0) = AV.ptr b (0 + 0)) <| .cons (by kernel_rfl : AV.sound (AV.int IntKind.i64 (Int.ofNat k)) = true) <| .cons H3 <| .cons (by kernel_rfl : AV.sound (AV.bool (eqI (Int.ofNat k) (Int.ofNat 0))) = true) <| .cons (by kernel_rfl : AV.bool (eqI (Int.ofNat k) (Int.ofNat 0)) = AV.bool (eqI (Int.ofNat k) (Int.ofNat 0))) <| .cons (by kernel_rfl : AV.sound (AV.int IntKind.i64 (Int.ofNat 0)) = true) <| .cons (by kernel_rfl : AV.int IntKind.i64 (Int.ofNat 0) = AV.int IntKind.i64 (Int.ofNat 0)) <| .cons (by kernel_rfl : AV.sound (AV.slice c 0 n (Cap.opn 4)) = true) <| .cons (by kernel_rfl : AV.slice c 0 n (Cap.opn 4) = AV.slice c 0 n (Cap.opn 4)) <| .cons (by kernel_rfl : AV.sound (AV.int IntKind.i64 (Int.ofNat n)) = true) <| .cons (by kernel_rfl : AV.int IntKind.i64 (Int.ofNat n) = AV.int IntKind.i64 (Int.ofNat n)) <| .cons (by kernel_rfl : AV.sound (AV.int IntKind.i64 (Int.ofNat n_1)) = true) <| .cons H4 <| .cons (by kernel_rfl : AV.sound (AV.bool (eqI (Int.ofNat 0) (Int.ofNat n_1))) = true) <| .cons (by kernel_rfl : AV.bool (eqI (Int.ofNat 0) (Int.ofNat n_1)) = AV.bool (eqI (Int.ofNat 0) (Int.ofNat n_1))) <| .cons (by kernel_rfl : AV.sound (AV.bool false) = true) <| .cons H5 <| .cons (by kernel_rfl : AV.sound (AV.bool false) = true) <| .cons (by kernel_rfl : (bif false then AV.bool true else AV.bool false) = AV.bool false) <| .cons (by kernel_rfl : false = false) <| .nil
theorem pl_qn (call : CallT → List AV → AHeap → FRes) (s x y : List UInt8) (c n i k v a a1 b : Nat) (h g : AHeap) (n_1 n_2 : Nat)
    (H1 : load1 (AHeap.room h 36) b (0 + 3) = some (.int .i64 (.ofNat a)))
    (H2 : ltI (.ofNat (List.length s)) (.ofNat a) = false)
    (H3 : ltI (.ofNat 0) (.ofNat i) = true)
    (H4 : arith .sub .i64 (.ofNat i) (.ofNat 1) = some (.int .i64 (.ofNat n_1)))
    (H5 : Nat.le (Nat.succ n_1) n)
    (H6 : load1 (AHeap.room h 36) c (0 + n_1 * 4 + 3) = some (.int .i64 (.ofNat a1)))
    (H7 : leI (.ofNat a) (.ofNat a1) = false)
    (H8 : load1 (AHeap.room h 36) b (0 + 0) = some (.int .i64 (.ofNat k)))
    (H9 : arith .sub .i64 (.ofNat n) (.ofNat 1) = some (.int .i64 (.ofNat n_2)))
    (H10 : binA Tryd.prog (AHeap.room h 36) BinOp.neq 4 (Operand.tmp 63) (Operand.tmp 68) (AV.bool (eqI (Int.ofNat k) (Int.ofNat 0))) (AV.bool (eqI (Int.ofNat i) (Int.ofNat n_2))) = some (AV.bool false))
    (H11 : (bif ltI (Int.ofNat 0) (Int.ofNat i) then AV.bool (leI (Int.ofNat a) (Int.ofNat a1)) else AV.bool false) = AV.bool (leI (Int.ofNat a) (Int.ofNat a1)))
    (H12 : (bif ltI (Int.ofNat (List.length s)) (Int.ofNat a) then AV.bool true else AV.bool (leI (Int.ofNat a) (Int.ofNat a1))) = AV.bool (leI (Int.ofNat a) (Int.ofNat a1)))
    (H13 : (bif leI (Int.ofNat a) (Int.ofNat a1) then AV.bool true else AV.bool false) = AV.bool false) :
    RunF Tryd.prog Tryd.f4 none call [1, 1, 1, 1, 0, 1, 0, 0, 1, 0, 0, 1, 0] (SSt.mk [(0, .str s), (3, .slice c 0 n (.opn 4)), (5, .int .i64 (.ofNat i)), (6, .ptr b 0)] [] .none h) (.nrm)
      (SSt.mk [(0, .str s), (3, .slice c 0 n (.opn 4)), (5, .int .i64 (.ofNat i)), (6, .ptr b 0)] [] .none (AHeap.room h 36)) :=
  sxF_run [0, 3, 5, 6] (hs := [.v (.int .i64 (.ofNat a)), .b false, .b false, .v (.int .i64 (.ofNat a)), .b false, .b false, .b false, .b false, .b false, .b false, .b false, .b true, .b true, .v (.int .i64 (.ofNat a)), .b true, .b true, .b true, .v (.int .i64 (.ofNat n_1)), .b true, .v (.ptr c (0 + n_1 * 4)), .b true, .b true, .v (.int .i64 (.ofNat a1)), .b true, .b false, .b true, .b false, .b false, .b false, .v (.int .i64 (.ofNat k)), .b false, .b false, .b false, .b false, .b false, .v (.int .i64 (.ofNat n_2)), .b false, .b false, .v (.bool false), .b false, .b false]) (by kernel_rfl) <| .cons H1 <| .cons (by kernel_rfl : ltI (Int.ofNat a) (Int.ofNat 0) = false) <| .cons (by kernel_rfl : ltI (Int.ofNat a) (Int.ofNat 0) = false) <| .cons H1 <| .cons (by kernel_rfl : ltI (Int.ofNat a) (Int.ofNat 0) = false) <| .cons (by kernel_rfl : ltI (Int.ofNat a) (Int.ofNat 0) = false) <| .cons (by kernel_rfl : ltI (Int.ofNat a) (Int.ofNat 0) = false) <| .cons (by kernel_rfl : ltI (Int.ofNat a) (Int.ofNat 0) = false) <| .cons H2 <| .cons H2 <| .cons H2 <| .cons H3 <| .cons H3 <| .cons H1 <| .cons H3 <| .cons H3 <| .cons H3 <| .cons H4 <| .cons H3 <| .cons (⟨H5, rfl⟩ : Nat.le (Nat.succ n_1) n ∧ AV.ptr c (0 + n_1 * 4) = AV.ptr c (0 + n_1 * 4)) <| .cons H3 <| .cons H3 <| .cons H6 <| .cons H3 <| .cons H2 <| .cons H3 <| .cons H2 <| .cons H7 <| .cons H7 <| .cons H8 <| .cons H7 <| .cons H7 <| .cons H7 <| .cons H7 <| .cons H7 <| .cons H9 <| .cons H7 <| .cons H7 <| .cons H10 <| .cons H7 <| .cons (by kernel_rfl : AV.sound (AV.ptr b (0 + 3)) = true) <| .cons (by kernel_rfl : AV.ptr b (0 + 3) = AV.ptr b (0 + 3)) <| .cons (by kernel_rfl : AV.sound (AV.int IntKind.i64 (Int.ofNat a)) = true) <| .cons H1 <| .cons (by kernel_rfl : AV.sound (AV.bool (ltI (Int.ofNat a) (Int.ofNat 0))) = true) <| .cons (by kernel_rfl : AV.bool (ltI (Int.ofNat a) (Int.ofNat 0)) = AV.bool (ltI (Int.ofNat a) (Int.ofNat 0))) <| .cons (by kernel_rfl : AV.sound (AV.bool (ltI (Int.ofNat a) (Int.ofNat 0))) = true) <| .cons (by kernel_rfl : AV.bool (ltI (Int.ofNat a) (Int.ofNat 0)) = AV.bool (ltI (Int.ofNat a) (Int.ofNat 0))) <| .cons (by kernel_rfl : AV.sound (AV.ptr b (0 + 3)) = true) <| .cons (by kernel_rfl : AV.ptr b (0 + 3) = AV.ptr b (0 + 3)) <| .cons (by kernel_rfl : AV.sound (AV.int IntKind.i64 (Int.ofNat a)) = true) <| .cons H1 <| .cons (by kernel_rfl : AV.sound (AV.str s) = true) <| .cons (by kernel_rfl : AV.str s = AV.str s) <| .cons (by kernel_rfl : AV.sound (AV.int IntKind.i64 (Int.ofNat (List.length s))) = true) <| .cons (by kernel_rfl : AV.int IntKind.i64 (Int.ofNat (List.length s)) = AV.int IntKind.i64 (Int.ofNat (List.length s))) <| .cons (by kernel_rfl : AV.sound (AV.bool (ltI (Int.ofNat (List.length s)) (Int.ofNat a))) = true) <| .cons (by kernel_rfl : AV.bool (ltI (Int.ofNat (List.length s)) (Int.ofNat a)) = AV.bool (ltI (Int.ofNat (List.length s)) (Int.ofNat a))) <| .cons (by kernel_rfl : AV.sound (AV.bool (ltI (Int.ofNat (List.length s)) (Int.ofNat a))) = true) <| .cons (by kernel_rfl : (bif ltI (Int.ofNat a) (Int.ofNat 0) then AV.bool true else AV.bool (ltI (Int.ofNat (List.length s)) (Int.ofNat a))) = AV.bool (ltI (Int.ofNat (List.length s)) (Int.ofNat a))) <| .cons (by kernel_rfl : AV.sound (AV.bool (ltI (Int.ofNat (List.length s)) (Int.ofNat a))) = true) <| .cons (by kernel_rfl : AV.bool (ltI (Int.ofNat (List.length s)) (Int.ofNat a)) = AV.bool (ltI (Int.ofNat (List.length s)) (Int.ofNat a))) <| .cons (by kernel_rfl : AV.sound (AV.int IntKind.i64 (Int.ofNat i)) = true) <| .cons (by kernel_rfl : AV.int IntKind.i64 (Int.ofNat i) = AV.int IntKind.i64 (Int.ofNat i)) <| .cons (by kernel_rfl : AV.sound (AV.bool (ltI (Int.ofNat 0) (Int.ofNat i))) = true) <| .cons (by kernel_rfl : AV.bool (ltI (Int.ofNat 0) (Int.ofNat i)) = AV.bool (ltI (Int.ofNat 0) (Int.ofNat i))) <| .cons (by kernel_rfl : AV.sound (AV.bool (ltI (Int.ofNat 0) (Int.ofNat i))) = true) <| .cons (by kernel_rfl : AV.bool (ltI (Int.ofNat 0) (Int.ofNat i)) = AV.bool (ltI (Int.ofNat 0) (Int.ofNat i))) <| .cons (by kernel_rfl : AV.sound (AV.ptr b (0 + 3)) = true) <| .cons (by kernel_rfl : AV.ptr b (0 + 3) = AV.ptr b (0 + 3)) <| .cons (by kernel_rfl : AV.sound (AV.int IntKind.i64 (Int.ofNat a)) = true) <| .cons H1 <| .cons (by kernel_rfl : AV.sound (AV.slice c 0 n (Cap.opn 4)) = true) <| .cons (by kernel_rfl : AV.slice c 0 n (Cap.opn 4) = AV.slice c 0 n (Cap.opn 4)) <| .cons (by kernel_rfl : AV.sound (AV.int IntKind.i64 (Int.ofNat i)) = true) <| .cons (by kernel_rfl : AV.int IntKind.i64 (Int.ofNat i) = AV.int IntKind.i64 (Int.ofNat i)) <| .cons (by kernel_rfl : AV.sound (AV.int IntKind.i64 (Int.ofNat n_1)) = true) <| .cons H4 <| .cons (by kernel_rfl : AV.sound (AV.ptr c (0 + n_1 * 4)) = true) <| .cons (⟨H5, rfl⟩ : Nat.le (Nat.succ n_1) n ∧ AV.ptr c (0 + n_1 * 4) = AV.ptr c (0 + n_1 * 4)) <| .cons (by kernel_rfl : AV.sound (AV.ptr c (0 + n_1 * 4 + 3)) = true) <| .cons (by kernel_rfl : AV.ptr c (0 + n_1 * 4 + 3) = AV.ptr c (0 + n_1 * 4 + 3)) <| .cons (by kernel_rfl : AV.sound (AV.int IntKind.i64 (Int.ofNat a1)) = true) <| .cons H6 <| .cons (by kernel_rfl : AV.sound (AV.bool (leI (Int.ofNat a) (Int.ofNat a1))) = true) <| .cons (by kernel_rfl : AV.bool (leI (Int.ofNat a) (Int.ofNat a1)) = AV.bool (leI (Int.ofNat a) (Int.ofNat a1))) <| .cons (by kernel_rfl : AV.sound (AV.bool (leI (Int.ofNat a) (Int.ofNat a1))) = true) <| .cons H11 <| .cons (by kernel_rfl : AV.sound (AV.bool (leI (Int.ofNat a) (Int.ofNat a1))) = true) <| .cons H12 <| .cons (by kernel_rfl : AV.sound (AV.bool (leI (Int.ofNat a) (Int.ofNat a1))) = true) <| .cons (by kernel_rfl : AV.bool (leI (Int.ofNat a) (Int.ofNat a1)) = AV.bool (leI (Int.ofNat a) (Int.ofNat a1))) <| .cons (by kernel_rfl : AV.sound (AV.ptr b (0 + 0)) = true) <| .cons (by kernel_rfl : AV.ptr b (0 + 0) = AV.ptr b (0 + 0)) <| .cons (by kernel_rfl : AV.sound (AV.int IntKind.i64 (Int.ofNat k)) = true) <| .cons H8 <| .cons (by kernel_rfl : AV.sound (AV.bool (eqI (Int.ofNat k) (Int.ofNat 0))) = true) <| .cons (by kernel_rfl : AV.bool (eqI (Int.ofNat k) (Int.ofNat 0)) = AV.bool (eqI (Int.ofNat k) (Int.ofNat 0))) <| .cons (by kernel_rfl : AV.sound (AV.int IntKind.i64 (Int.ofNat i)) = true) <| .cons (by kernel_rfl : AV.int IntKind.i64 (Int.ofNat i) = AV.int IntKind.i64 (Int.ofNat i)) <| .cons (by kernel_rfl : AV.sound (AV.slice c 0 n (Cap.opn 4)) = true) <| .cons (by kernel_rfl : AV.slice c 0 n (Cap.opn 4) = AV.slice c 0 n (Cap.opn 4)) <| .cons (by kernel_rfl : AV.sound (AV.int IntKind.i64 (Int.ofNat n)) = true) <| .cons (by kernel_rfl : AV.int IntKind.i64 (Int.ofNat n) = AV.int IntKind.i64 (Int.ofNat n)) <| .cons (by kernel_rfl : AV.sound (AV.int IntKind.i64 (Int.ofNat n_2)) = true) <| .cons H9 <| .cons (by kernel_rfl : AV.sound (AV.bool (eqI (Int.ofNat i) (Int.ofNat n_2))) = true) <| .cons (by kernel_rfl : AV.bool (eqI (Int.ofNat i) (Int.ofNat n_2)) = AV.bool (eqI (Int.ofNat i) (Int.ofNat n_2))) <| .cons (by kernel_rfl : AV.sound (AV.bool false) = true) <| .cons H10 <| .cons (by kernel_rfl : AV.sound (AV.bool false) = true) <| .cons H13 <| .cons (by kernel_rfl : false = false) <| .nil
theorem pl_w1 (call : CallT → List AV → AHeap → FRes) (s x y : List UInt8) (c n i k v a a1 b : Nat) (h g : AHeap) (n_1 : Nat)
    (H1 : load1 h b (0 + 0) = some (.int .i64 (.ofNat 1)))
    (H2 : load1 (AHeap.room h 43) b (0 + 1) = some (.str x))
    (H3 : beqBytes x [] = false)
    (H4 : load1 (AHeap.room h 43) b (0 + 3) = some (.int .i64 (.ofNat a)))
    (H5 : arith .add .i64 (.ofNat a) (.ofNat (List.length x)) = some (.int .i64 (.ofNat n_1)))
    (H6 : ltI (.ofNat (List.length s)) (.ofNat n_1) = false)
    (H7 : sliceA Tryd.prog (AHeap.room h 43) 9 (AV.str s) (some (AV.int IntKind.i64 (Int.ofNat a))) (some (AV.int IntKind.i64 (Int.ofNat n_1))) none = some (AV.str y))
    (H8 : (!beqBytes y x) = false)
    (H9 : call (.fn 9) [.str x] (AHeap.room h 43) = FRes.ret (.bool false) g)
    (H10 : load1 g b (0 + 0) = some (.int .i64 (.ofNat 1)))
    (H11 : load1 g b (0 + 2) = some (.int .i64 (.ofNat v)))
    (H12 : (bif beqBytes x [] then AV.bool true else AV.bool (ltI (Int.ofNat (List.length s)) (Int.ofNat n_1))) = AV.bool (ltI (Int.ofNat (List.length s)) (Int.ofNat n_1)))
    (H13 : (bif ltI (Int.ofNat (List.length s)) (Int.ofNat n_1) then AV.bool true else AV.bool !beqBytes y x) = AV.bool !beqBytes y x)
    (H14 : load1 (AHeap.room h 43) b (0 + 0) = some (.int .i64 (.ofNat 1)))
    (H15 : (bif !beqBytes y x then AV.bool true else AV.bool !true) = AV.bool !true)
    (H16 : (!eqI (.ofNat v) (.ofNat 0)) = false) :
    RunF Tryd.prog Tryd.f4 none call [1, 1, 1, 1, 0, 1, 0, 0, 1, 0, 0, 1, 1] (SSt.mk [(0, .str s), (3, .slice c 0 n (.opn 4)), (5, .int .i64 (.ofNat i)), (6, .ptr b 0)] [] .none h) (.nrm)
      (SSt.mk [(0, .str s), (3, .slice c 0 n (.opn 4)), (5, .int .i64 (.ofNat i))] [] .none g) :=
  sxF_run [0, 3, 5] (hs := [.v (.int .i64 (.ofNat 1)), .b true, .b true, .v (.str x), .b false, .b false, .v (.int .i64 (.ofNat a)), .b false, .b false, .v (.str x), .b false, .b false, .v (.int .i64 (.ofNat n_1)), .b false, .b false, .b false, .b false, .b false, .b false, .b false, .v (.int .i64 (.ofNat a)), .b false, .b false, .v (.int .i64 (.ofNat a)), .b false, .b false, .v (.str x), .b false, .b false, .v (.int .i64 (.ofNat n_1)), .b false, .v (.str y), .b false, .b false, .v (.str x), .b false, .b false, .b false, .b false, .v (.str x), .b false, .c (.bool false) g, .b false, .b false, .v (.int .i64 (.ofNat 1)), .b false, .b false, .v (.bool !true), .b false, .b false, .b false, .v (.int .i64 (.ofNat v)), .b false, .b false, .b false]) (by kernel_rfl) <| .cons H1 <| .cons (by kernel_rfl : eqI (Int.ofNat 1) (Int.ofNat 1) = true) <| .cons (by kernel_rfl : eqI (Int.ofNat 1) (Int.ofNat 1) = true) <| .cons H2 <| .cons H3 <| .cons H3 <| .cons H4 <| .cons H3 <| .cons H3 <| .cons H2 <| .cons H3 <| .cons H3 <| .cons H5 <| .cons H3 <| .cons H3 <| .cons H3 <| .cons H3 <| .cons H6 <| .cons H6 <| .cons H6 <| .cons H4 <| .cons H6 <| .cons H6 <| .cons H4 <| .cons H6 <| .cons H6 <| .cons H2 <| .cons H6 <| .cons H6 <| .cons H5 <| .cons H6 <| .cons H7 <| .cons H6 <| .cons H6 <| .cons H2 <| .cons H6 <| .cons H6 <| .cons H8 <| .cons H8 <| .cons H2 <| .cons H8 <| .cons H9 <| .cons H8 <| .cons H8 <| .cons H10 <| .cons H8 <| .cons H8 <| .cons (by kernel_rfl : binA Tryd.prog g BinOp.neq 4 (Operand.tmp 109) (Operand.tmp 112) (AV.bool false) (AV.bool (eqI (Int.ofNat 1) (Int.ofNat 2))) = some (AV.bool !true)) <| .cons H8 <| .cons (by kernel_rfl : (!true) = false) <| .cons (by kernel_rfl : (!true) = false) <| .cons H11 <| .cons (by kernel_rfl : (!true) = false) <| .cons (by kernel_rfl : (!true) = false) <| .cons (by kernel_rfl : AV.sound (AV.ptr b (0 + 1)) = true) <| .cons (by kernel_rfl : AV.ptr b (0 + 1) = AV.ptr b (0 + 1)) <| .cons (by kernel_rfl : AV.sound (AV.str x) = true) <| .cons H2 <| .cons (by kernel_rfl : AV.sound (AV.bool (beqBytes x [])) = true) <| .cons (by kernel_rfl : AV.bool (beqBytes x []) = AV.bool (beqBytes x [])) <| .cons (by kernel_rfl : AV.sound (AV.bool (beqBytes x [])) = true) <| .cons (by kernel_rfl : AV.bool (beqBytes x []) = AV.bool (beqBytes x [])) <| .cons (by kernel_rfl : AV.sound (AV.ptr b (0 + 3)) = true) <| .cons (by kernel_rfl : AV.ptr b (0 + 3) = AV.ptr b (0 + 3)) <| .cons (by kernel_rfl : AV.sound (AV.int IntKind.i64 (Int.ofNat a)) = true) <| .cons H4 <| .cons (by kernel_rfl : AV.sound (AV.ptr b (0 + 1)) = true) <| .cons (by kernel_rfl : AV.ptr b (0 + 1) = AV.ptr b (0 + 1)) <| .cons (by kernel_rfl : AV.sound (AV.str x) = true) <| .cons H2 <| .cons (by kernel_rfl : AV.sound (AV.int IntKind.i64 (Int.ofNat (List.length x))) = true) <| .cons (by kernel_rfl : AV.int IntKind.i64 (Int.ofNat (List.length x)) = AV.int IntKind.i64 (Int.ofNat (List.length x))) <| .cons (by kernel_rfl : AV.sound (AV.int IntKind.i64 (Int.ofNat n_1)) = true) <| .cons H5 <| .cons (by kernel_rfl : AV.sound (AV.str s) = true) <| .cons (by kernel_rfl : AV.str s = AV.str s) <| .cons (by kernel_rfl : AV.sound (AV.int IntKind.i64 (Int.ofNat (List.length s))) = true) <| .cons (by kernel_rfl : AV.int IntKind.i64 (Int.ofNat (List.length s)) = AV.int IntKind.i64 (Int.ofNat (List.length s))) <| .cons (by kernel_rfl : AV.sound (AV.bool (ltI (Int.ofNat (List.length s)) (Int.ofNat n_1))) = true) <| .cons (by kernel_rfl : AV.bool (ltI (Int.ofNat (List.length s)) (Int.ofNat n_1)) = AV.bool (ltI (Int.ofNat (List.length s)) (Int.ofNat n_1))) <| .cons (by kernel_rfl : AV.sound (AV.bool (ltI (Int.ofNat (List.length s)) (Int.ofNat n_1))) = true) <| .cons H12 <| .cons (by kernel_rfl : AV.sound (AV.bool (ltI (Int.ofNat (List.length s)) (Int.ofNat n_1))) = true) <| .cons (by kernel_rfl : AV.bool (ltI (Int.ofNat (List.length s)) (Int.ofNat n_1)) = AV.bool (ltI (Int.ofNat (List.length s)) (Int.ofNat n_1))) <| .cons (by kernel_rfl : AV.sound (AV.str s) = true) <| .cons (by kernel_rfl : AV.str s = AV.str s) <| .cons (by kernel_rfl : AV.sound (AV.ptr b (0 + 3)) = true) <| .cons (by kernel_rfl : AV.ptr b (0 + 3) = AV.ptr b (0 + 3)) <| .cons (by kernel_rfl : AV.sound (AV.int IntKind.i64 (Int.ofNat a)) = true) <| .cons H4 <| .cons (by kernel_rfl : AV.sound (AV.ptr b (0 + 3)) = true) <| .cons (by kernel_rfl : AV.ptr b (0 + 3) = AV.ptr b (0 + 3)) <| .cons (by kernel_rfl : AV.sound (AV.int IntKind.i64 (Int.ofNat a)) = true) <| .cons H4 <| .cons (by kernel_rfl : AV.sound (AV.ptr b (0 + 1)) = true) <| .cons (by kernel_rfl : AV.ptr b (0 + 1) = AV.ptr b (0 + 1)) <| .cons (by kernel_rfl : AV.sound (AV.str x) = true) <| .cons H2 <| .cons (by kernel_rfl : AV.sound (AV.int IntKind.i64 (Int.ofNat (List.length x))) = true) <| .cons (by kernel_rfl : AV.int IntKind.i64 (Int.ofNat (List.length x)) = AV.int IntKind.i64 (Int.ofNat (List.length x))) <| .cons (by kernel_rfl : AV.sound (AV.int IntKind.i64 (Int.ofNat n_1)) = true) <| .cons H5 <| .cons (by kernel_rfl : AV.sound (AV.str y) = true) <| .cons H7 <| .cons (by kernel_rfl : AV.sound (AV.ptr b (0 + 1)) = true) <| .cons (by kernel_rfl : AV.ptr b (0 + 1) = AV.ptr b (0 + 1)) <| .cons (by kernel_rfl : AV.sound (AV.str x) = true) <| .cons H2 <| .cons (by kernel_rfl : AV.sound (AV.bool !beqBytes y x) = true) <| .cons (by kernel_rfl : (AV.bool !beqBytes y x) = AV.bool !beqBytes y x) <| .cons (by kernel_rfl : AV.sound (AV.bool !beqBytes y x) = true) <| .cons H13 <| .cons (by kernel_rfl : AV.sound (AV.bool !beqBytes y x) = true) <| .cons (by kernel_rfl : (AV.bool !beqBytes y x) = AV.bool !beqBytes y x) <| .cons (by kernel_rfl : AV.sound (AV.ptr b (0 + 1)) = true) <| .cons (by kernel_rfl : AV.ptr b (0 + 1) = AV.ptr b (0 + 1)) <| .cons (by kernel_rfl : AV.sound (AV.str x) = true) <| .cons H2 <| .cons (by kernel_rfl : AV.sound (AV.ptr b (0 + 0)) = true) <| .cons (by kernel_rfl : AV.ptr b (0 + 0) = AV.ptr b (0 + 0)) <| .cons (by kernel_rfl : AV.sound (AV.ptr b (0 + 0)) = true) <| .cons (by kernel_rfl : AV.ptr b (0 + 0) = AV.ptr b (0 + 0)) <| .cons (by kernel_rfl : AV.sound (AV.int IntKind.i64 (Int.ofNat 1)) = true) <| .cons H10 <| .cons (by kernel_rfl : AV.sound (AV.int IntKind.i64 (Int.ofNat 1)) = true) <| .cons H14 <| .cons (by kernel_rfl : AV.sound (AV.bool (eqI (Int.ofNat 1) (Int.ofNat 2))) = true) <| .cons (by kernel_rfl : AV.bool (eqI (Int.ofNat 1) (Int.ofNat 2)) = AV.bool (eqI (Int.ofNat 1) (Int.ofNat 2))) <| .cons (by kernel_rfl : AV.sound (AV.bool (eqI (Int.ofNat 1) (Int.ofNat 2))) = true) <| .cons (by kernel_rfl : AV.bool (eqI (Int.ofNat 1) (Int.ofNat 2)) = AV.bool (eqI (Int.ofNat 1) (Int.ofNat 2))) <| .cons (by kernel_rfl : AV.sound (AV.bool !true) = true) <| .cons (by kernel_rfl : binA Tryd.prog g BinOp.neq 4 (Operand.tmp 109) (Operand.tmp 112) (AV.bool false) (AV.bool (eqI (Int.ofNat 1) (Int.ofNat 2))) = some (AV.bool !true)) <| .cons (by kernel_rfl : AV.sound (AV.bool !true) = true) <| .cons H15 <| .cons (by kernel_rfl : AV.sound (AV.bool !true) = true) <| .cons (by kernel_rfl : (AV.bool !true) = AV.bool !true) <| .cons (by kernel_rfl : AV.sound (AV.ptr b (0 + 2)) = true) <| .cons (by kernel_rfl : AV.ptr b (0 + 2) = AV.ptr b (0 + 2)) <| .cons (by kernel_rfl : AV.sound (AV.int IntKind.i64 (Int.ofNat v)) = true) <| .cons H11 <| .cons (by kernel_rfl : AV.sound (AV.bool !eqI (Int.ofNat v) (Int.ofNat 0)) = true) <| .cons (by kernel_rfl : (AV.bool !eqI (Int.ofNat v) (Int.ofNat 0)) = AV.bool !eqI (Int.ofNat v) (Int.ofNat 0)) <| .cons (by kernel_rfl : AV.sound (AV.bool !eqI (Int.ofNat v) (Int.ofNat 0)) = true) <| .cons (by kernel_rfl : (bif !true then AV.bool true else AV.bool !eqI (Int.ofNat v) (Int.ofNat 0)) = AV.bool !eqI (Int.ofNat v) (Int.ofNat 0)) <| .cons H16 <| .nil
theorem pl_w2 (call : CallT → List AV → AHeap → FRes) (s x y : List UInt8) (c n i k v a a1 b : Nat) (h g : AHeap) (n_1 : Nat)
    (H1 : load1 h b (0 + 0) = some (.int .i64 (.ofNat 2)))
    (H2 : load1 (AHeap.room h 43) b (0 + 1) = some (.str x))
    (H3 : beqBytes x [] = false)
    (H4 : load1 (AHeap.room h 43) b (0 + 3) = some (.int .i64 (.ofNat a)))
    (H5 : arith .add .i64 (.ofNat a) (.ofNat (List.length x)) = some (.int .i64 (.ofNat n_1)))
    (H6 : ltI (.ofNat (List.length s)) (.ofNat n_1) = false)
    (H7 : sliceA Tryd.prog (AHeap.room h 43) 9 (AV.str s) (some (AV.int IntKind.i64 (Int.ofNat a))) (some (AV.int IntKind.i64 (Int.ofNat n_1))) none = some (AV.str y))
    (H8 : (!beqBytes y x) = false)
    (H9 : call (.fn 9) [.str x] (AHeap.room h 43) = FRes.ret (.bool true) g)
    (H10 : load1 g b (0 + 0) = some (.int .i64 (.ofNat 2)))
    (H11 : load1 g b (0 + 2) = some (.int .i64 (.ofNat v)))
    (H12 : (bif beqBytes x [] then AV.bool true else AV.bool (ltI (Int.ofNat (List.length s)) (Int.ofNat n_1))) = AV.bool (ltI (Int.ofNat (List.length s)) (Int.ofNat n_1)))
    (H13 : (bif ltI (Int.ofNat (List.length s)) (Int.ofNat n_1) then AV.bool true else AV.bool !beqBytes y x) = AV.bool !beqBytes y x)
    (H14 : load1 (AHeap.room h 43) b (0 + 0) = some (.int .i64 (.ofNat 2)))
    (H15 : (bif !beqBytes y x then AV.bool true else AV.bool !true) = AV.bool !true)
    (H16 : (!eqI (.ofNat v) (.ofNat 0)) = false) :
    RunF Tryd.prog Tryd.f4 none call [1, 1, 1, 1, 0, 1, 0, 0, 1, 0, 0, 1, 1] (SSt.mk [(0, .str s), (3, .slice c 0 n (.opn 4)), (5, .int .i64 (.ofNat i)), (6, .ptr b 0)] [] .none h) (.nrm)
      (SSt.mk [(0, .str s), (3, .slice c 0 n (.opn 4)), (5, .int .i64 (.ofNat i))] [] .none g) :=
  sxF_run [0, 3, 5] (hs := [.v (.int .i64 (.ofNat 2)), .b false, .b true, .b true, .v (.str x), .b false, .b false, .v (.int .i64 (.ofNat a)), .b false, .b false, .v (.str x), .b false, .b false, .v (.int .i64 (.ofNat n_1)), .b false, .b false, .b false, .b false, .b false, .b false, .b false, .v (.int .i64 (.ofNat a)), .b false, .b false, .v (.int .i64 (.ofNat a)), .b false, .b false, .v (.str x), .b false, .b false, .v (.int .i64 (.ofNat n_1)), .b false, .v (.str y), .b false, .b false, .v (.str x), .b false, .b false, .b false, .b false, .v (.str x), .b false, .c (.bool true) g, .b false, .b false, .v (.int .i64 (.ofNat 2)), .b false, .b false, .v (.bool !true), .b false, .b false, .b false, .v (.int .i64 (.ofNat v)), .b false, .b false, .b false]) (by kernel_rfl) <| .cons H1 <| .cons (by kernel_rfl : eqI (Int.ofNat 2) (Int.ofNat 1) = false) <| .cons (by kernel_rfl : eqI (Int.ofNat 2) (Int.ofNat 2) = true) <| .cons (by kernel_rfl : eqI (Int.ofNat 2) (Int.ofNat 2) = true) <| .cons H2 <| .cons H3 <| .cons H3 <| .cons H4 <| .cons H3 <| .cons H3 <| .cons H2 <| .cons H3 <| .cons H3 <| .cons H5 <| .cons H3 <| .cons H3 <| .cons H3 <| .cons H3 <| .cons H6 <| .cons H6 <| .cons H6 <| .cons H4 <| .cons H6 <| .cons H6 <| .cons H4 <| .cons H6 <| .cons H6 <| .cons H2 <| .cons H6 <| .cons H6 <| .cons H5 <| .cons H6 <| .cons H7 <| .cons H6 <| .cons H6 <| .cons H2 <| .cons H6 <| .cons H6 <| .cons H8 <| .cons H8 <| .cons H2 <| .cons H8 <| .cons H9 <| .cons H8 <| .cons H8 <| .cons H10 <| .cons H8 <| .cons H8 <| .cons (by kernel_rfl : binA Tryd.prog g BinOp.neq 4 (Operand.tmp 109) (Operand.tmp 112) (AV.bool true) (AV.bool (eqI (Int.ofNat 2) (Int.ofNat 2))) = some (AV.bool !true)) <| .cons H8 <| .cons (by kernel_rfl : (!true) = false) <| .cons (by kernel_rfl : (!true) = false) <| .cons H11 <| .cons (by kernel_rfl : (!true) = false) <| .cons (by kernel_rfl : (!true) = false) <| .cons (by kernel_rfl : AV.sound (AV.ptr b (0 + 1)) = true) <| .cons (by kernel_rfl : AV.ptr b (0 + 1) = AV.ptr b (0 + 1)) <| .cons (by kernel_rfl : AV.sound (AV.str x) = true) <| .cons H2 <| .cons (by kernel_rfl : AV.sound (AV.bool (beqBytes x [])) = true) <| .cons (by kernel_rfl : AV.bool (beqBytes x []) = AV.bool (beqBytes x [])) <| .cons (by kernel_rfl : AV.sound (AV.bool (beqBytes x [])) = true) <| .cons (by kernel_rfl : AV.bool (beqBytes x []) = AV.bool (beqBytes x [])) <| .cons (by kernel_rfl : AV.sound (AV.ptr b (0 + 3)) = true) <| .cons (by kernel_rfl : AV.ptr b (0 + 3) = AV.ptr b (0 + 3)) <| .cons (by kernel_rfl : AV.sound (AV.int IntKind.i64 (Int.ofNat a)) = true) <| .cons H4 <| .cons (by kernel_rfl : AV.sound (AV.ptr b (0 + 1)) = true) <| .cons (by kernel_rfl : AV.ptr b (0 + 1) = AV.ptr b (0 + 1)) <| .cons (by kernel_rfl : AV.sound (AV.str x) = true) <| .cons H2 <| .cons (by kernel_rfl : AV.sound (AV.int IntKind.i64 (Int.ofNat (List.length x))) = true) <| .cons (by kernel_rfl : AV.int IntKind.i64 (Int.ofNat (List.length x)) = AV.int IntKind.i64 (Int.ofNat (List.length x))) <| .cons (by kernel_rfl : AV.sound (AV.int IntKind.i64 (Int.ofNat n_1)) = true) <| .cons H5 <| .cons (by kernel_rfl : AV.sound (AV.str s) = true) <| .cons (by kernel_rfl : AV.str s = AV.str s) <| .cons (by kernel_rfl : AV.sound (AV.int IntKind.i64 (Int.ofNat (List.length s))) = true) <| .cons (by kernel_rfl : AV.int IntKind.i64 (Int.ofNat (List.length s)) = AV.int IntKind.i64 (Int.ofNat (List.length s))) <| .cons (by kernel_rfl : AV.sound (AV.bool (ltI (Int.ofNat (List.length s)) (Int.ofNat n_1))) = true) <| .cons (by kernel_rfl : AV.bool (ltI (Int.ofNat (List.length s)) (Int.ofNat n_1)) = AV.bool (ltI (Int.ofNat (List.length s)) (Int.ofNat n_1))) <| .cons (by kernel_rfl : AV.sound (AV.bool (ltI (Int.ofNat (List.length s)) (Int.ofNat n_1))) = true) <| .cons H12 <| .cons (by kernel_rfl : AV.sound (AV.bool (ltI (Int.ofNat (List.length s)) (Int.ofNat n_1))) = true) <| .cons (by kernel_rfl : AV.bool (ltI (Int.ofNat (List.length s)) (Int.ofNat n_1)) = AV.bool (ltI (Int.ofNat (List.length s)) (Int.ofNat n_1))) <| .cons (by kernel_rfl : AV.sound (AV.str s) = true) <| .cons (by kernel_rfl : AV.str s = AV.str s) <| .cons (by kernel_rfl : AV.sound (AV.ptr b (0 + 3)) = true) <| .cons (by kernel_rfl : AV.ptr b (0 + 3) = AV.ptr b (0 + 3)) <| .cons (by kernel_rfl : AV.sound (AV.int IntKind.i64 (Int.ofNat a)) = true) <| .cons H4 <| .cons (by kernel_rfl : AV.sound (AV.ptr b (0 + 3)) = true) <| .cons (by kernel_rfl : AV.ptr b (0 + 3) = AV.ptr b (0 + 3)) <| .cons (by kernel_rfl : AV.sound (AV.int IntKind.i64 (Int.ofNat a)) = true) <| .cons H4 <| .cons (by kernel_rfl : AV.sound (AV.ptr b (0 + 1)) = true) <| .cons (by kernel_rfl : AV.ptr b (0 + 1) = AV.ptr b (0 + 1)) <| .cons (by kernel_rfl : AV.sound (AV.str x) = true) <| .cons H2 <| .cons (by kernel_rfl : AV.sound (AV.int IntKind.i64 (Int.ofNat (List.length x))) = true) <| .cons (by kernel_rfl : AV.int IntKind.i64 (Int.ofNat (List.length x)) = AV.int IntKind.i64 (Int.ofNat (List.length x))) <| .cons (by kernel_rfl : AV.sound (AV.int IntKind.i64 (Int.ofNat n_1)) = true) <| .cons H5 <| .cons (by kernel_rfl : AV.sound (AV.str y) = true) <| .cons H7 <| .cons (by kernel_rfl : AV.sound (AV.ptr b (0 + 1)) = true) <| .cons (by kernel_rfl : AV.ptr b (0 + 1) = AV.ptr b (0 + 1)) <| .cons (by kernel_rfl : AV.sound (AV.str x) = true) <| .cons H2 <| .cons (by kernel_rfl : AV.sound (AV.bool !beqBytes y x) = true) <| .cons (by kernel_rfl : (AV.bool !beqBytes y x) = AV.bool !beqBytes y x) <| .cons (by kernel_rfl : AV.sound (AV.bool !beqBytes y x) = true) <| .cons H13 <| .cons (by kernel_rfl : AV.sound (AV.bool !beqBytes y x) = true) <| .cons (by kernel_rfl : (AV.bool !beqBytes y x) = AV.bool !beqBytes y x) <| .cons (by kernel_rfl : AV.sound (AV.ptr b (0 + 1)) = true) <| .cons (by kernel_rfl : AV.ptr b (0 + 1) = AV.ptr b (0 + 1)) <| .cons (by kernel_rfl : AV.sound (AV.str x) = true) <| .cons H2 <| .cons (by kernel_rfl : AV.sound (AV.ptr b (0 + 0)) = true) <| .cons (by kernel_rfl : AV.ptr b (0 + 0) = AV.ptr b (0 + 0)) <| .cons (by kernel_rfl : AV.sound (AV.ptr b (0 + 0)) = true) <| .cons (by kernel_rfl : AV.ptr b (0 + 0) = AV.ptr b (0 + 0)) <| .cons (by kernel_rfl : AV.sound (AV.int IntKind.i64 (Int.ofNat 2)) = true) <| .cons H10 <| .cons (by kernel_rfl : AV.sound (AV.int IntKind.i64 (Int.ofNat 2)) = true) <| .cons H14 <| .cons (by kernel_rfl : AV.sound (AV.bool (eqI (Int.ofNat 2) (Int.ofNat 2))) = true) <| .cons (by kernel_rfl : AV.bool (eqI (Int.ofNat 2) (Int.ofNat 2)) = AV.bool (eqI (Int.ofNat 2) (Int.ofNat 2))) <| .cons (by kernel_rfl : AV.sound (AV.bool (eqI (Int.ofNat 2) (Int.ofNat 2))) = true) <| .cons (by kernel_rfl : AV.bool (eqI (Int.ofNat 2) (Int.ofNat 2)) = AV.bool (eqI (Int.ofNat 2) (Int.ofNat 2))) <| .cons (by kernel_rfl : AV.sound (AV.bool !true) = true) <| .cons (by kernel_rfl : binA Tryd.prog g BinOp.neq 4 (Operand.tmp 109) (Operand.tmp 112) (AV.bool true) (AV.bool (eqI (Int.ofNat 2) (Int.ofNat 2))) = some (AV.bool !true)) <| .cons (by kernel_rfl : AV.sound (AV.bool !true) = true) <| .cons H15 <| .cons (by kernel_rfl : AV.sound (AV.bool !true) = true) <| .cons (by kernel_rfl : (AV.bool !true) = AV.bool !true) <| .cons (by kernel_rfl : AV.sound (AV.ptr b (0 + 2)) = true) <| .cons (by kernel_rfl : AV.ptr b (0 + 2) = AV.ptr b (0 + 2)) <| .cons (by kernel_rfl : AV.sound (AV.int IntKind.i64 (Int.ofNat v)) = true) <| .cons H11 <| .cons (by kernel_rfl : AV.sound (AV.bool !eqI (Int.ofNat v) (Int.ofNat 0)) = true) <| .cons (by kernel_rfl : (AV.bool !eqI (Int.ofNat v) (Int.ofNat 0)) = AV.bool !eqI (Int.ofNat v) (Int.ofNat 0)) <| .cons (by kernel_rfl : AV.sound (AV.bool !eqI (Int.ofNat v) (Int.ofNat 0)) = true) <| .cons (by kernel_rfl : (bif !true then AV.bool true else AV.bool !eqI (Int.ofNat v) (Int.ofNat 0)) = AV.bool !eqI (Int.ofNat v) (Int.ofNat 0)) <| .cons H16 <| .nil
theorem pl_w5 (call : CallT → List AV → AHeap → FRes) (s x y : List UInt8) (c n i k v a a1 b : Nat) (h g : AHeap) (n_1 : Nat)
    (H1 : load1 h b (0 + 0) = some (.int .i64 (.ofNat 5)))
    (H2 : load1 (AHeap.room h 43) b (0 + 1) = some (.str x))
    (H3 : beqBytes x [] = false)
    (H4 : load1 (AHeap.room h 43) b (0 + 3) = some (.int .i64 (.ofNat a)))
    (H5 : arith .add .i64 (.ofNat a) (.ofNat (List.length x)) = some (.int .i64 (.ofNat n_1)))
    (H6 : ltI (.ofNat (List.length s)) (.ofNat n_1) = false)
    (H7 : sliceA Tryd.prog (AHeap.room h 43) 9 (AV.str s) (some (AV.int IntKind.i64 (Int.ofNat a))) (some (AV.int IntKind.i64 (Int.ofNat n_1))) none = some (AV.str y))
    (H8 : (!beqBytes y x) = false)
    (H9 : call (.fn 9) [.str x] (AHeap.room h 43) = FRes.ret (.bool false) g)
    (H10 : load1 g b (0 + 0) = some (.int .i64 (.ofNat 5)))
    (H11 : load1 g b (0 + 2) = some (.int .i64 (.ofNat v)))
    (H12 : (bif beqBytes x [] then AV.bool true else AV.bool (ltI (Int.ofNat (List.length s)) (Int.ofNat n_1))) = AV.bool (ltI (Int.ofNat (List.length s)) (Int.ofNat n_1)))
    (H13 : (bif ltI (Int.ofNat (List.length s)) (Int.ofNat n_1) then AV.bool true else AV.bool !beqBytes y x) = AV.bool !beqBytes y x)
    (H14 : load1 (AHeap.room h 43) b (0 + 0) = some (.int .i64 (.ofNat 5)))
    (H15 : (bif !beqBytes y x then AV.bool true else AV.bool !true) = AV.bool !true)
    (H16 : (!eqI (.ofNat v) (.ofNat 0)) = false) :
    RunF Tryd.prog Tryd.f4 none call [1, 1, 1, 1, 0, 1, 0, 0, 1, 0, 0, 1, 1] (SSt.mk [(0, .str s), (3, .slice c 0 n (.opn 4)), (5, .int .i64 (.ofNat i)), (6, .ptr b 0)] [] .none h) (.nrm)
      (SSt.mk [(0, .str s), (3, .slice c 0 n (.opn 4)), (5, .int .i64 (.ofNat i))] [] .none g) :=
  sxF_run [0, 3, 5] (hs := [.v (.int .i64 (.ofNat 5)), .b false, .b false, .b true, .v (.str x), .b false, .b false, .v (.int .i64 (.ofNat a)), .b false, .b false, .v (.str x), .b false, .b false, .v (.int .i64 (.ofNat n_1)), .b false, .b false, .b false, .b false, .b false, .b false, .b false, .v (.int .i64 (.ofNat a)), .b false, .b false, .v (.int .i64 (.ofNat a)), .b false, .b false, .v (.str x), .b false, .b false, .v (.int .i64 (.ofNat n_1)), .b false, .v (.str y), .b false, .b false, .v (.str x), .b false, .b false, .b false, .b false, .v (.str x), .b false, .c (.bool false) g, .b false, .b false, .v (.int .i64 (.ofNat 5)), .b false, .b false, .v (.bool !true), .b false, .b false, .b false, .v (.int .i64 (.ofNat v)), .b false, .b false, .b false]) (by kernel_rfl) <| .cons H1 <| .cons (by kernel_rfl : eqI (Int.ofNat 5) (Int.ofNat 1) = false) <| .cons (by kernel_rfl : eqI (Int.ofNat 5) (Int.ofNat 2) = false) <| .cons (by kernel_rfl : eqI (Int.ofNat 5) (Int.ofNat 5) = true) <| .cons H2 <| .cons H3 <| .cons H3 <| .cons H4 <| .cons H3 <| .cons H3 <| .cons H2 <| .cons H3 <| .cons H3 <| .cons H5 <| .cons H3 <| .cons H3 <| .cons H3 <| .cons H3 <| .cons H6 <| .cons H6 <| .cons H6 <| .cons H4 <| .cons H6 <| .cons H6 <| .cons H4 <| .cons H6 <| .cons H6 <| .cons H2 <| .cons H6 <| .cons H6 <| .cons H5 <| .cons H6 <| .cons H7 <| .cons H6 <| .cons H6 <| .cons H2 <| .cons H6 <| .cons H6 <| .cons H8 <| .cons H8 <| .cons H2 <| .cons H8 <| .cons H9 <| .cons H8 <| .cons H8 <| .cons H10 <| .cons H8 <| .cons H8 <| .cons (by kernel_rfl : binA Tryd.prog g BinOp.neq 4 (Operand.tmp 109) (Operand.tmp 112) (AV.bool false) (AV.bool (eqI (Int.ofNat 5) (Int.ofNat 2))) = some (AV.bool !true)) <| .cons H8 <| .cons (by kernel_rfl : (!true) = false) <| .cons (by kernel_rfl : (!true) = false) <| .cons H11 <| .cons (by kernel_rfl : (!true) = false) <| .cons (by kernel_rfl : (!true) = false) <| .cons (by kernel_rfl : AV.sound (AV.ptr b (0 + 1)) = true) <| .cons (by kernel_rfl : AV.ptr b (0 + 1) = AV.ptr b (0 + 1)) <| .cons (by kernel_rfl : AV.sound (AV.str x) = true) <| .cons H2 <| .cons (by kernel_rfl : AV.sound (AV.bool (beqBytes x [])) = true) <| .cons (by kernel_rfl : AV.bool (beqBytes x []) = AV.bool (beqBytes x [])) <| .cons (by kernel_rfl : AV.sound (AV.bool (beqBytes x [])) = true) <| .cons (by kernel_rfl : AV.bool (beqBytes x []) = AV.bool (beqBytes x [])) <| .cons (by kernel_rfl : AV.sound (AV.ptr b (0 + 3)) = true) <| .cons (by kernel_rfl : AV.ptr b (0 + 3) = AV.ptr b (0 + 3)) <| .cons (by kernel_rfl : AV.sound (AV.int IntKind.i64 (Int.ofNat a)) = true) <| .cons H4 <| .cons (by kernel_rfl : AV.sound (AV.ptr b (0 + 1)) = true) <| .cons (by kernel_rfl : AV.ptr b (0 + 1) = AV.ptr b (0 + 1)) <| .cons (by kernel_rfl : AV.sound (AV.str x) = true) <| .cons H2 <| .cons (by kernel_rfl : AV.sound (AV.int IntKind.i64 (Int.ofNat (List.length x))) = true) <| .cons (by kernel_rfl : AV.int IntKind.i64 (Int.ofNat (List.length x)) = AV.int IntKind.i64 (Int.ofNat (List.length x))) <| .cons (by kernel_rfl : AV.sound (AV.int IntKind.i64 (Int.ofNat n_1)) = true) <| .cons H5 <| .cons (by kernel_rfl : AV.sound (AV.str s) = true) <| .cons (by kernel_rfl : AV.str s = AV.str s) <| .cons (by kernel_rfl : AV.sound (AV.int IntKind.i64 (Int.ofNat (List.length s))) = true) <| .cons (by kernel_rfl : AV.int IntKind.i64 (Int.ofNat (List.length s)) = AV.int IntKind.i64 (Int.ofNat (List.length s))) <| .cons (by kernel_rfl : AV.sound (AV.bool (ltI (Int.ofNat (List.length s)) (Int.ofNat n_1))) = true) <| .cons (by kernel_rfl : AV.bool (ltI (Int.ofNat (List.length s)) (Int.ofNat n_1)) = AV.bool (ltI (Int.ofNat (List.length s)) (Int.ofNat n_1))) <| .cons (by kernel_rfl : AV.sound (AV.bool (ltI (Int.ofNat (List.length s)) (Int.ofNat n_1))) = true) <| .cons H12 <| .cons (by kernel_rfl : AV.sound (AV.bool (ltI (Int.ofNat (List.length s)) (Int.ofNat n_1))) = true) <| .cons (by kernel_rfl : AV.bool (ltI (Int.ofNat (List.length s)) (Int.ofNat n_1)) = AV.bool (ltI (Int.ofNat (List.length s)) (Int.ofNat n_1))) <| .cons (by kernel_rfl : AV.sound (AV.str s) = true) <| .cons (by kernel_rfl : AV.str s = AV.str s) <| .cons (by kernel_rfl : AV.sound (AV.ptr b (0 + 3)) = true) <| .cons (by kernel_rfl : AV.ptr b (0 + 3) = AV.ptr b (0 + 3)) <| .cons (by kernel_rfl : AV.sound (AV.int IntKind.i64 (Int.ofNat a)) = true) <| .cons H4 <| .cons (by kernel_rfl : AV.sound (AV.ptr b (0 + 3)) = true) <| .cons (by kernel_rfl : AV.ptr b (0 + 3) = AV.ptr b (0 + 3)) <| .cons (by kernel_rfl : AV.sound (AV.int IntKind.i64 (Int.ofNat a)) = true) <| .cons H4 <| .cons (by kernel_rfl : AV.sound (AV.ptr b (0 + 1)) = true) <| .cons (by kernel_rfl : AV.ptr b (0 + 1) = AV.ptr b (0 + 1)) <| .cons (by kernel_rfl : AV.sound (AV.str x) = true) <| .cons H2 <| .cons (by kernel_rfl : AV.sound (AV.int IntKind.i64 (Int.ofNat (List.length x))) = true) <| .cons (by kernel_rfl : AV.int IntKind.i64 (Int.ofNat (List.length x)) = AV.int IntKind.i64 (Int.ofNat (List.length x))) <| .cons (by kernel_rfl : AV.sound (AV.int IntKind.i64 (Int.ofNat n_1)) = true) <| .cons H5 <| .cons (by kernel_rfl : AV.sound (AV.str y) = true) <| .cons H7 <| .cons (by kernel_rfl : AV.sound (AV.ptr b (0 + 1)) = true) <| .cons (by kernel_rfl : AV.ptr b (0 + 1) = AV.ptr b (0 + 1)) <| .cons (by kernel_rfl : AV.sound (AV.str x) = true) <| .cons H2 <| .cons (by kernel_rfl : AV.sound (AV.bool !beqBytes y x) = true) <| .cons (by kernel_rfl : (AV.bool !beqBytes y x) = AV.bool !beqBytes y x) <| .cons (by kernel_rfl : AV.sound (AV.bool !beqBytes y x) = true) <| .cons H13 <| .cons (by kernel_rfl : AV.sound (AV.bool !beqBytes y x) = true) <| .cons (by kernel_rfl : (AV.bool !beqBytes y x) = AV.bool !beqBytes y x) <| .cons (by kernel_rfl : AV.sound (AV.ptr b (0 + 1)) = true) <| .cons (by kernel_rfl : AV.ptr b (0 + 1) = AV.ptr b (0 + 1)) <| .cons (by kernel_rfl : AV.sound (AV.str x) = true) <| .cons H2 <| .cons (by kernel_rfl : AV.sound (AV.ptr b (0 + 0)) = true) <| .cons (by kernel_rfl : AV.ptr b (0 + 0) = AV.ptr b (0 + 0)) <| .cons (by kernel_rfl : AV.sound (AV.ptr b (0 + 0)) = true) <| .cons (by kernel_rfl : AV.ptr b (0 + 0) = AV.ptr b (0 + 0)) <| .cons (by kernel_rfl : AV.sound (AV.int IntKind.i64 (Int.ofNat 5)) = true) <| .cons H10 <| .cons (by kernel_rfl : AV.sound (AV.int IntKind.i64 (Int.ofNat 5)) = true) <| .cons H14 <| .cons (by kernel_rfl : AV.sound (AV.bool (eqI (Int.ofNat 5) (Int.ofNat 2))) = true) <| .cons (by kernel_rfl : AV.bool (eqI (Int.ofNat 5) (Int.ofNat 2)) = AV.bool (eqI (Int.ofNat 5) (Int.ofNat 2))) <| .cons (by kernel_rfl : AV.sound (AV.bool (eqI (Int.ofNat 5) (Int.ofNat 2))) = true) <| .cons (by kernel_rfl : AV.bool (eqI (Int.ofNat 5) (Int.ofNat 2)) = AV.bool (eqI (Int.ofNat 5) (Int.ofNat 2))) <| .cons (by kernel_rfl : AV.sound (AV.bool !true) = true) <| .cons (by kernel_rfl : binA Tryd.prog g BinOp.neq 4 (Operand.tmp 109) (Operand.tmp 112) (AV.bool false) (AV.bool (eqI (Int.ofNat 5) (Int.ofNat 2))) = some (AV.bool !true)) <| .cons (by kernel_rfl : AV.sound (AV.bool !true) = true) <| .cons H15 <| .cons (by kernel_rfl : AV.sound (AV.bool !true) = true) <| .cons (by kernel_rfl : (AV.bool !true) = AV.bool !true) <| .cons (by kernel_rfl : AV.sound (AV.ptr b (0 + 2)) = true) <| .cons (by kernel_rfl : AV.ptr b (0 + 2) = AV.ptr b (0 + 2)) <| .cons (by kernel_rfl : AV.sound (AV.int IntKind.i64 (Int.ofNat v)) = true) <| .cons H11 <| .cons (by kernel_rfl : AV.sound (AV.bool !eqI (Int.ofNat v) (Int.ofNat 0)) = true) <| .cons (by kernel_rfl : (AV.bool !eqI (Int.ofNat v) (Int.ofNat 0)) = AV.bool !eqI (Int.ofNat v) (Int.ofNat 0)) <| .cons (by kernel_rfl : AV.sound (AV.bool !eqI (Int.ofNat v) (Int.ofNat 0)) = true) <| .cons (by kernel_rfl : (bif !true then AV.bool true else AV.bool !eqI (Int.ofNat v) (Int.ofNat 0)) = AV.bool !eqI (Int.ofNat v) (Int.ofNat 0)) <| .cons H16 <| .nil
theorem pl_i (call : CallT → List AV → AHeap → FRes) (s x y : List UInt8) (c n i k v a a1 b : Nat) (h g : AHeap) (n_1 n_2 : Nat)
    (H1 : load1 h b (0 + 0) = some (.int .i64 (.ofNat 3)))
    (H2 : load1 (AHeap.room h 26) b (0 + 2) = some (.int .i64 (.ofNat v)))
    (H3 : load1 (AHeap.room h 26) b (0 + 3) = some (.int .i64 (.ofNat a)))
    (H4 : leI (.ofNat (List.length s)) (.ofNat a) = false)
    (H5 : idxS a s = some (.int .u8 (.ofNat k)))
    (H6 : arith .sub .u8 (.ofNat k) (.ofNat 48) = some (.int .u8 (.ofNat n_1)))
    (H7 : evConvert Tryd.prog 5 2 (AV.int IntKind.u8 (Int.ofNat n_1)) (AHeap.room h 26) = OpRes.val (AV.int IntKind.i64 (Int.ofNat n_2)) (AHeap.room h 26))
    (H8 : ltI (.ofNat v) (.ofNat n_2) = false)
    (H9 : load1 (AHeap.room h 26) b (0 + 1) = some (.str []))
    (H10 : (bif leI (Int.ofNat (List.length s)) (Int.ofNat a) then AV.bool true else AV.bool (ltI (Int.ofNat v) (Int.ofNat n_2))) = AV.bool (ltI (Int.ofNat v) (Int.ofNat n_2)))
    (H11 : (bif ltI (Int.ofNat v) (Int.ofNat n_2) then AV.bool true else AV.bool !beqBytes [] []) = AV.bool !beqBytes [] []) :
    RunF Tryd.prog Tryd.f4 none call [1, 1, 1, 1, 0, 1, 0, 0, 1, 0, 0, 1, 1] (SSt.mk [(0, .str s), (3, .slice c 0 n (.opn 4)), (5, .int .i64 (.ofNat i)), (6, .ptr b 0)] [] .none h) (.nrm)
      (SSt.mk [(0, .str s), (3, .slice c 0 n (.opn 4)), (5, .int .i64 (.ofNat i))] [] .none (AHeap.room h 26)) :=
  sxF_run [0, 3, 5] (hs := [.v (.int .i64 (.ofNat 3)), .b false, .b false, .b false, .b true, .v (.int .i64 (.ofNat v)), .b false, .b false, .v (.int .i64 (.ofNat a)), .b false, .b false, .b false, .b false, .b false, .b false, .b false, .v (.int .i64 (.ofNat a)), .b false, .v (.int .u8 (.ofNat k)), .b false, .v (.int .u8 (.ofNat n_1)), .b false, .v (.int .i64 (.ofNat n_2)), .b false, .b false, .v (.int .i64 (.ofNat v)), .b false, .b false, .b false, .b false, .v (.str []), .b false, .b false, .b false]) (by kernel_rfl) <| .cons H1 <| .cons (by kernel_rfl : eqI (Int.ofNat 3) (Int.ofNat 1) = false) <| .cons (by kernel_rfl : eqI (Int.ofNat 3) (Int.ofNat 2) = false) <| .cons (by kernel_rfl : eqI (Int.ofNat 3) (Int.ofNat 5) = false) <| .cons (by kernel_rfl : eqI (Int.ofNat 3) (Int.ofNat 3) = true) <| .cons H2 <| .cons (by kernel_rfl : ltI (Int.ofNat v) (Int.ofNat 0) = false) <| .cons (by kernel_rfl : ltI (Int.ofNat v) (Int.ofNat 0) = false) <| .cons H3 <| .cons (by kernel_rfl : ltI (Int.ofNat v) (Int.ofNat 0) = false) <| .cons (by kernel_rfl : ltI (Int.ofNat v) (Int.ofNat 0) = false) <| .cons (by kernel_rfl : ltI (Int.ofNat v) (Int.ofNat 0) = false) <| .cons (by kernel_rfl : ltI (Int.ofNat v) (Int.ofNat 0) = false) <| .cons H4 <| .cons H4 <| .cons H4 <| .cons H3 <| .cons H4 <| .cons H5 <| .cons H4 <| .cons H6 <| .cons H4 <| .cons H7 <| .cons H4 <| .cons H4 <| .cons H2 <| .cons H4 <| .cons H4 <| .cons H8 <| .cons H8 <| .cons H9 <| .cons H8 <| .cons H8 <| .cons (by kernel_rfl : AV.sound (AV.ptr b (0 + 2)) = true) <| .cons (by kernel_rfl : AV.ptr b (0 + 2) = AV.ptr b (0 + 2)) <| .cons (by kernel_rfl : AV.sound (AV.int IntKind.i64 (Int.ofNat v)) = true) <| .cons H2 <| .cons (by kernel_rfl : AV.sound (AV.bool (ltI (Int.ofNat v) (Int.ofNat 0))) = true) <| .cons (by kernel_rfl : AV.bool (ltI (Int.ofNat v) (Int.ofNat 0)) = AV.bool (ltI (Int.ofNat v) (Int.ofNat 0))) <| .cons (by kernel_rfl : AV.sound (AV.bool (ltI (Int.ofNat v) (Int.ofNat 0))) = true) <| .cons (by kernel_rfl : AV.bool (ltI (Int.ofNat v) (Int.ofNat 0)) = AV.bool (ltI (Int.ofNat v) (Int.ofNat 0))) <| .cons (by kernel_rfl : AV.sound (AV.ptr b (0 + 3)) = true) <| .cons (by kernel_rfl : AV.ptr b (0 + 3) = AV.ptr b (0 + 3)) <| .cons (by kernel_rfl : AV.sound (AV.int IntKind.i64 (Int.ofNat a)) = true) <| .cons H3 <| .cons (by kernel_rfl : AV.sound (AV.str s) = true) <| .cons (by kernel_rfl : AV.str s = AV.str s) <| .cons (by kernel_rfl : AV.sound (AV.int IntKind.i64 (Int.ofNat (List.length s))) = true) <| .cons (by kernel_rfl : AV.int IntKind.i64 (Int.ofNat (List.length s)) = AV.int IntKind.i64 (Int.ofNat (List.length s))) <| .cons (by kernel_rfl : AV.sound (AV.bool (leI (Int.ofNat (List.length s)) (Int.ofNat a))) = true) <| .cons (by kernel_rfl : AV.bool (leI (Int.ofNat (List.length s)) (Int.ofNat a)) = AV.bool (leI (Int.ofNat (List.length s)) (Int.ofNat a))) <| .cons (by kernel_rfl : AV.sound (AV.bool (leI (Int.ofNat (List.length s)) (Int.ofNat a))) = true) <| .cons (by kernel_rfl : (bif ltI (Int.ofNat v) (Int.ofNat 0) then AV.bool true else AV.bool (leI (Int.ofNat (List.length s)) (Int.ofNat a))) = AV.bool (leI (Int.ofNat (List.length s)) (Int.ofNat a))) <| .cons (by kernel_rfl : AV.sound (AV.bool (leI (Int.ofNat (List.length s)) (Int.ofNat a))) = true) <| .cons (by kernel_rfl : AV.bool (leI (Int.ofNat (List.length s)) (Int.ofNat a)) = AV.bool (leI (Int.ofNat (List.length s)) (Int.ofNat a))) <| .cons (by kernel_rfl : AV.sound (AV.str s) = true) <| .cons (by kernel_rfl : AV.str s = AV.str s) <| .cons (by kernel_rfl : AV.sound (AV.ptr b (0 + 3)) = true) <| .cons (by kernel_rfl : AV.ptr b (0 + 3) = AV.ptr b (0 + 3)) <| .cons (by kernel_rfl : AV.sound (AV.int IntKind.i64 (Int.ofNat a)) = true) <| .cons H3 <| .cons (by kernel_rfl : AV.sound (AV.int IntKind.u8 (Int.ofNat k)) = true) <| .cons H5 <| .cons (by kernel_rfl : AV.sound (AV.int IntKind.u8 (Int.ofNat n_1)) = true) <| .cons H6 <| .cons (by kernel_rfl : AV.sound (AV.int IntKind.i64 (Int.ofNat n_2)) = true) <| .cons H7 <| .cons (by kernel_rfl : AV.sound (AV.ptr b (0 + 2)) = true) <| .cons (by kernel_rfl : AV.ptr b (0 + 2) = AV.ptr b (0 + 2)) <| .cons (by kernel_rfl : AV.sound (AV.int IntKind.i64 (Int.ofNat v)) = true) <| .cons H2 <| .cons (by kernel_rfl : AV.sound (AV.bool (ltI (Int.ofNat v) (Int.ofNat n_2))) = true) <| .cons (by kernel_rfl : AV.bool (ltI (Int.ofNat v) (Int.ofNat n_2)) = AV.bool (ltI (Int.ofNat v) (Int.ofNat n_2))) <| .cons (by kernel_rfl : AV.sound (AV.bool (ltI (Int.ofNat v) (Int.ofNat n_2))) = true) <| .cons H10 <| .cons (by kernel_rfl : AV.sound (AV.bool (ltI (Int.ofNat v) (Int.ofNat n_2))) = true) <| .cons (by kernel_rfl : AV.bool (ltI (Int.ofNat v) (Int.ofNat n_2)) = AV.bool (ltI (Int.ofNat v) (Int.ofNat n_2))) <| .cons (by kernel_rfl : AV.sound (AV.ptr b (0 + 1)) = true) <| .cons (by kernel_rfl : AV.ptr b (0 + 1) = AV.ptr b (0 + 1)) <| .cons (by kernel_rfl : AV.sound (AV.str []) = true) <| .cons H9 <| .cons (by kernel_rfl : AV.sound (AV.bool !beqBytes [] []) = true) <| .cons (by kernel_rfl : (AV.bool !beqBytes [] []) = AV.bool !beqBytes [] []) <| .cons (by kernel_rfl : AV.sound (AV.bool !beqBytes [] []) = true) <| .cons H11 <| .cons (by kernel_rfl : (!beqBytes [] []) = false) <| .nil
theorem pl_s (call : CallT → List AV → AHeap → FRes) (s x y : List UInt8) (c n i k v a a1 b : Nat) (h g : AHeap)
    (H1 : load1 h b (0 + 0) = some (.int .i64 (.ofNat 4)))
    (H2 : load1 h b (0 + 3) = some (.int .i64 (.ofNat a)))
    (H3 : leI (.ofNat (List.length s)) (.ofNat a) = false)
    (H4 : idxS a s = some (.int .u8 (.ofNat k)))
    (H5 : (!eqI (.ofNat k) (.ofNat 34)) = false)
    (H6 : load1 h b (0 + 2) = some (.int .i64 (.ofNat 0))) :
    RunF Tryd.prog Tryd.f4 none call [1, 1, 1, 1, 0, 1, 0, 0, 1, 0, 0, 1, 1] (SSt.mk [(0, .str s), (3, .slice c 0 n (.opn 4)), (5, .int .i64 (.ofNat i)), (6, .ptr b 0)] [] .none h) (.nrm)
      (SSt.mk [(0, .str s), (3, .slice c 0 n (.opn 4)), (5, .int .i64 (.ofNat i))] [] .none h) :=
  sxF_run [0, 3, 5] (hs := [.v (.int .i64 (.ofNat 4)), .b false, .b false, .b false, .b false, .b true, .v (.int .i64 (.ofNat a)), .b false, .b false, .b false, .v (.int .i64 (.ofNat a)), .b false, .v (.int .u8 (.ofNat k)), .b false, .b false, .b false, .b false, .v (.int .i64 (.ofNat 0)), .b false, .b false, .b false]) (by kernel_rfl) <| .cons H1 <| .cons (by kernel_rfl : eqI (Int.ofNat 4) (Int.ofNat 1) = false) <| .cons (by kernel_rfl : eqI (Int.ofNat 4) (Int.ofNat 2) = false) <| .cons (by kernel_rfl : eqI (Int.ofNat 4) (Int.ofNat 5) = false) <| .cons (by kernel_rfl : eqI (Int.ofNat 4) (Int.ofNat 3) = false) <| .cons (by kernel_rfl : eqI (Int.ofNat 4) (Int.ofNat 4) = true) <| .cons H2 <| .cons H3 <| .cons H3 <| .cons H3 <| .cons H2 <| .cons H3 <| .cons H4 <| .cons H3 <| .cons H3 <| .cons H5 <| .cons H5 <| .cons H6 <| .cons H5 <| .cons H5 <| .cons (by kernel_rfl : (!eqI (Int.ofNat 0) (Int.ofNat 0)) = false) <| .nil
theorem pl_o (call : CallT → List AV → AHeap → FRes) (s x y : List UInt8) (c n i k v a a1 b : Nat) (h g : AHeap)
    (H1 : load1 h b (0 + 0) = some (.int .i64 (.ofNat 0))) :
    RunF Tryd.prog Tryd.f4 none call [1, 1, 1, 1, 0, 1, 0, 0, 1, 0, 0, 1, 1] (SSt.mk [(0, .str s), (3, .slice c 0 n (.opn 4)), (5, .int .i64 (.ofNat i)), (6, .ptr b 0)] [] .none h) (.nrm)
      (SSt.mk [(0, .str s), (3, .slice c 0 n (.opn 4)), (5, .int .i64 (.ofNat i))] [] .none h) :=
  sxF_run [0, 3, 5] (hs := [.v (.int .i64 (.ofNat 0)), .b false, .b false, .b false, .b false, .b false]) (by kernel_rfl) <| .cons H1 <| .cons (by kernel_rfl : eqI (Int.ofNat 0) (Int.ofNat 1) = false) <| .cons (by kernel_rfl : eqI (Int.ofNat 0) (Int.ofNat 2) = false) <| .cons (by kernel_rfl : eqI (Int.ofNat 0) (Int.ofNat 5) = false) <| .cons (by kernel_rfl : eqI (Int.ofNat 0) (Int.ofNat 3) = false) <| .cons (by kernel_rfl : eqI (Int.ofNat 0) (Int.ofNat 4) = false) <| .nil
theorem pl_n (call : CallT → List AV → AHeap → FRes) (s : List UInt8) (v : AV) (i : Nat) (h : AHeap) (n_1 : Nat)
    (H1 : arith .add .i64 (.ofNat i) (.ofNat 1) = some (.int .i64 (.ofNat n_1))) :
    RunF Tryd.prog Tryd.f4 none call [1, 1, 1, 1, 0, 1, 0, 0, 1, 1] (SSt.mk [(0, .str s), (3, v), (5, .int .i64 (.ofNat i))] [] .none h) (.nrm)
      (SSt.mk [(0, .str s), (3, v), (5, .int .i64 (.ofNat n_1))] [] .none h) :=
  sxF_run [0, 3, 5] (hs := [.v (.int .i64 (.ofNat n_1))]) (by kernel_rfl) <| .cons H1 <| .nil


/-! ### LexPlaces -/
theorem start_in (els : Nat → Nat) (rows : List (List AV × Nat)) : tabsIn (heapT Tryd.prog.globals.size els tabs rows) tabs = true ∧ 5 ≤ (heapT Tryd.prog.globals.size els tabs rows).n := by
  have h1 : Nat.ble 5 Tryd.prog.globals.size = true := by kernel_rfl
  have h2 := Nat.le_of_ble_eq_true h1
  refine ⟨heapT_in tabs_lt (by decide), ?_⟩
  rw [(heapT_n _ els tabs rows tabs_lt).1]
  omega
theorem ent_works (hf : Fit Tryd.prog) : EntT Tryd.prog tabs ⟨11, [], .bool true⟩ := ⟨tabIntrT tabs [], 60, int0_ok hf, fun els => by kernel_rfl⟩
theorem Il_ok (hf : Fit Tryd.prog) : IntrOK Tryd.prog Il := orE_ok (orE_ok (tabT_ok hf tabs_lt fun e he => by
  obtain rfl : e = _ := by simpa [Wl] using he
  exact ent_works hf) (intrR_ok hf tabs_lt (Rl_ok hf))) (orE_ok (asI_ok er_ok) (isI_ok er_ok))
theorem works_c (m : Nat) (h : AHeap) (ht : tabsIn h tabs = true) : C (m + 1) (.fn 11) [] h = .ret (.bool true) h := by
  have hi : Il 11 [] h = some (.bool true, h) := by
    have e : tabIntr Wl 11 [] h = some (.bool true, h) := rfl
    simp only [Il, orE, tabIntrT, e, ht]
  simp only [C, callN, hi]
theorem Reserved_c (m : Nat) (s : List UInt8) (h : AHeap) (ht : tabsIn h tabs = true) : ∃ g, C (m + 2) (.fn 9) [.str s] h = .ret (.bool (inW s)) g ∧ Ext h.n h g := by
  obtain ⟨r, g, c1, w, x, _, _⟩ := reserved_c m h ht
  exact ⟨g, fn_runF (intr := Il) (n := m + 1) (args := [.str s]) Tryd.func9 (by kernel_rfl) rfl (by kernel_rfl) (rv (C (m + 1)) s (inW s) r h g c1 (lookW s w)) (.inl rfl) (by kernel_rfl), x⟩
theorem tabs_ext {h g : AHeap} (hi : tabsIn h tabs = true) (hn : 5 ≤ h.n) (x : Ext h.n h g) : tabsIn g tabs = true := tabs_keep hi fun b hb => x.get b (by omega)
theorem row_nth {D : Type} {enc : D → List AV} {w : Nat} (hw : ∀ d, (enc d).length = w) {j : Nat} (hj : j < w) : ∀ (ds : List D) (i : Nat) (hi : i < ds.length), nth (i * w + j) (rowL enc ds) = nth j (enc ds[i])
  | d :: ds, 0, hi => by
    rw [rowL_cons, nth_eq, nth_eq, List.getElem?_append_left (by rw [hw]; omega)]
    simp
  | d :: ds, i + 1, hi => by
    have ih := row_nth hw hj ds i (by simpa using hi)
    rw [nth_eq, nth_eq] at ih
    rw [rowL_cons, nth_eq, nth_eq, List.getElem?_append_right (by rw [hw, Nat.succ_mul]; omega), hw, show (i + 1) * w + j - w = i * w + j by rw [Nat.succ_mul]; omega, ih]
    simp
theorem encT_len (d : Tk) : (encT d).length = 4 := rfl
theorem row_ld1 {h : AHeap} {c j lo up el : Nat} {k : BK} {all : List Tk} {v : AV} (hg : h.get c = some (.cells (rowL encT all) el k lo up)) {i : Nat} (hi : i < all.length) (hj : j < 4) (hv : nth j (encT all[i]) = some v) : load1 h c (0 + i * 4 + j) = some v :=
  ld1 hg (by rw [Nat.zero_add, row_nth encT_len hj all i hi, hv])
theorem row_ldc {h : AHeap} {c lo up el : Nat} {k : BK} {all : List Tk} (hg : h.get c = some (.cells (rowL encT all) el k lo up)) {i : Nat} (hi : i < all.length) : AEv.loadCells h c (0 + i * 4) 4 = some (encT all[i]) :=
  row_load (rest := []) encT_len (by rw [List.append_nil]; exact hg) hi (by omega)
theorem neqB {h : AHeap} {x y : Nat} : ∀ (a b : Bool), a = b → binA Tryd.prog h BinOp.neq 4 (.tmp x) (.tmp y) (.bool a) (.bool b) = some (.bool false) := fun a b e => by subst e; cases a <;> rfl
abbrev TokO (t : Tk) : AObj := .cells (encT t) 30 .own 0 0
abbrev plS (u : List UInt8) (c N i : Nat) (x : AHeap) : SSt := ⟨[(0, .str u), (3, .slice c 0 N (.opn 4)), (5, .int .i64 (Int.ofNat i))], [], .none, x⟩
/-- One token is as it should be. -/
theorem pl_kind (m : Nat) (u : List UInt8) (c N i b k v a : Nat) (t : List UInt8) (x : AHeap) (hb : x.get b = some (TokO ⟨k, t, v, a⟩)) (hbn : b < x.n) (ht : tabsIn x tabs = true) (hn : 5 ≤ x.n) (hul : u.length ≤ 5000) (hF : k = 0 ∨ Fact u k t v a) :
    ∃ x', RunF Tryd.prog Tryd.f4 none (C (m + 9)) [1, 1, 1, 1, 0, 1, 0, 0, 1, 0, 0, 1, 1] ⟨[(0, .str u), (3, .slice c 0 N (.opn 4)), (5, .int .i64 (Int.ofNat i)), (6, .ptr b 0)], [], .none, x⟩ .nrm (plS u c N i x') ∧ Ext x.n x x' := by
  rcases hF with rfl | ⟨hp, ⟨hk, h1, h2, h3, h4, h5⟩ | ⟨rfl, rfl, h2, h3⟩ | ⟨rfl, rfl, h2⟩⟩
  · exact ⟨x, pl_o (C (m + 9)) u [] [] c N i 0 v a 0 b x x (ld1 hb rfl), Ext.refl _ _⟩
  · have hroom : (x.room 43).get b = some (TokO ⟨k, t, v, a⟩) := hb
    have ht' : tabsIn (x.room 43) tabs = true := tabs_keep ht fun b _ => rfl
    obtain ⟨g, c1, e1⟩ := Reserved_c (m + 7) t (x.room 43) ht'
    have hg : g.get b = some (TokO ⟨k, t, v, a⟩) := (e1.get b (by simp; omega)).trans hroom
    have hx : Ext x.n x g := ⟨by have := e1.n; simp at this; omega, fun c hc => (e1.get c (by simp; omega)).trans rfl⟩
    have q1 : beqBytes t [] = false := by rw [beqBytes_eq]; simpa using h1
    have q2 : beqBytes t t = true := bbr t
    have sl : sliceA Tryd.prog (x.room 43) 9 (.str u) (some (.int .i64 (Int.ofNat a))) (some (.int .i64 (Int.ofNat (a + t.length)))) none = some (.str t) := by
      rw [slice_str strt (by omega) h2, show a + t.length - a = t.length by omega, h3]
    have lt1 : ltI (Int.ofNat u.length) (Int.ofNat (a + t.length)) = false := lt_f (by omega)
    subst h5
    rcases hk with rfl | rfl | rfl
    · rw [h4] at c1
      exact ⟨g, pl_w1 (C (m + 9)) u t t c N i 1 0 a 0 b x g _ (ld1 hb rfl) (ld1 hroom rfl) q1 (ld1 hroom rfl) (add_n (by omega)) lt1 sl (by rw [q2]; rfl) c1 (ld1 hg rfl) (ld1 hg rfl) (by rw [q1]; rfl) (by rw [lt1]; rfl) (ld1 hroom rfl) (by rw [q2]; rfl) rfl, hx⟩
    · rw [h4] at c1
      exact ⟨g, pl_w2 (C (m + 9)) u t t c N i 2 0 a 0 b x g _ (ld1 hb rfl) (ld1 hroom rfl) q1 (ld1 hroom rfl) (add_n (by omega)) lt1 sl (by rw [q2]; rfl) c1 (ld1 hg rfl) (ld1 hg rfl) (by rw [q1]; rfl) (by rw [lt1]; rfl) (ld1 hroom rfl) (by rw [q2]; rfl) rfl, hx⟩
    · rw [h4] at c1
      exact ⟨g, pl_w5 (C (m + 9)) u t t c N i 5 0 a 0 b x g _ (ld1 hb rfl) (ld1 hroom rfl) q1 (ld1 hroom rfl) (add_n (by omega)) lt1 sl (by rw [q2]; rfl) c1 (ld1 hg rfl) (ld1 hg rfl) (by rw [q1]; rfl) (by rw [lt1]; rfl) (ld1 hroom rfl) (by rw [q2]; rfl) rfl, hx⟩
  · have hroom : (x.room 26).get b = some (TokO ⟨3, [], v, a⟩) := hb
    have l1 : leI (Int.ofNat u.length) (Int.ofNat a) = false := le_f (by omega)
    have l2 : ltI (Int.ofNat v) (Int.ofNat (u[a].toNat - 48)) = false := lt_f (by have := (h3 hp).2; omega)
    have hub := u8lt u[a]
    exact ⟨x.room 26, pl_i (C (m + 9)) u [] [] c N i u[a].toNat v a 0 b x x _ _ (ld1 hb rfl) (ld1 hroom rfl) (ld1 hroom rfl) l1 (idx_t hp) (sub_u8 (h3 hp).1 hub) (cv_u8_i64 (by kernel_rfl) (by kernel_rfl) (by omega)) l2 (ld1 hroom rfl) (by rw [l1]; rfl) (by rw [l2]; rfl), ⟨by simp, fun _ _ => rfl⟩⟩
  · exact ⟨x, pl_s (C (m + 9)) u [] [] c N i u[a].toNat 0 a 0 b x x (ld1 hb rfl) (ld1 hb rfl) (le_f (by omega)) (idx_t hp) (by rw [h2 hp]; rfl) (ld1 hb rfl), Ext.refl _ _⟩
theorem pl_lp (m c N : Nat) (u : List UInt8) (all : List Tk) (hul : u.length ≤ 5000) (hN : all.length = N) (hNs : N ≤ 5001) (hfa : ∀ i (hi : i < all.length), all[i].at' ≤ u.length ∧ (all[i].k = 0 ∨ Fact u all[i].k all[i].t all[i].v all[i].at') ∧ (all[i].k = 0 ↔ i = N - 1) ∧ ∀ j (hj : j + 1 = i), all[j].at' < all[i].at') : ∀ (k i : Nat) (x : AHeap), N - i = k → i ≤ N → x.get c = some (.cells (rowL encT all) 30 .opn 0 0) → c < x.n → tabsIn x tabs = true → 5 ≤ x.n →
    ∃ x', LoopF Tryd.prog Tryd.f4 none (C (m + 9)) [1, 1, 1, 1, 0, 1, 0] (k + 1) (plS u c N i x) (.exit 0) (plS u c N N x') ∧ Ext x.n x x'
  | 0, i, x, hk, hi, hc, hcn, ht, hn => by
    obtain rfl : i = N := by omega
    exact ⟨x, .exit (RunF.seqx (p := [1, 1, 1, 1, 0, 1, 0, 0]) (by kernel_rfl) (pl_x_2 (C (m + 9)) u c i i x (lt_f (by omega))) (by simp)) (by simp), Ext.refl _ _⟩
  | k + 1, i, x, hk, hi, hc, hcn, ht, hn => by
    have hi' : i < all.length := by omega
    obtain ⟨f1, f2, f3, f4⟩ := hfa i hi'
    obtain ⟨y, hy⟩ : ∃ y, y = (x.push (.cells (encT ⟨0, [], 0, 0⟩) 30 .own 0 0)).set x.n (some (TokO all[i])) := ⟨_, rfl⟩
    have yn : y.n = x.n + 1 := by rw [hy]; rfl
    have yo : ∀ b, b < x.n → y.get b = x.get b := fun b hb => by rw [hy]; exact gother (by omega) (gold hb rfl)
    have s0 := pl_x_1 (C (m + 9)) u c N i x (lt_t (by omega))
    have s1 : RunF Tryd.prog Tryd.f4 none (C (m + 9)) [1, 1, 1, 1, 0, 1, 0, 0, 1, 0, 0, 0] (plS u c N i x) .nrm ⟨[(0, .str u), (3, .slice c 0 N (.opn 4)), (5, .int .i64 (Int.ofNat i)), (6, .ptr x.n 0)], [], .none, y⟩ := by
      rw [hy]
      exact pl_t (C (m + 9)) u all[i].t c N i all[i].k all[i].v all[i].at' x _ (show i + 1 ≤ N by omega) (row_ldc hc hi') (stc (gtop rfl) rfl rfl)
    have yb : (y.room 36).get x.n = some (TokO all[i]) := by show y.get _ = _; rw [hy]; exact gsame rfl
    have yc : (y.room 36).get c = some (.cells (rowL encT all) 30 .opn 0 0) := (yo c hcn).trans hc
    have s2 : RunF Tryd.prog Tryd.f4 none (C (m + 9)) [1, 1, 1, 1, 0, 1, 0, 0, 1, 0, 0, 1, 0] ⟨[(0, .str u), (3, .slice c 0 N (.opn 4)), (5, .int .i64 (Int.ofNat i)), (6, .ptr x.n 0)], [], .none, y⟩ .nrm ⟨[(0, .str u), (3, .slice c 0 N (.opn 4)), (5, .int .i64 (Int.ofNat i)), (6, .ptr x.n 0)], [], .none, y.room 36⟩ := by
      have q1 : ltI (Int.ofNat u.length) (Int.ofNat all[i].at') = false := lt_f (by omega)
      have q2 : eqI (Int.ofNat all[i].k) (Int.ofNat 0) = eqI (Int.ofNat i) (Int.ofNat (N - 1)) := by
        by_cases h0 : all[i].k = 0
        · rw [eqI_t h0, eqI_t (f3.1 h0)]
        · rw [eqI_f h0, eqI_f (fun e => h0 (f3.2 e))]
      by_cases h0 : i = 0
      · subst h0
        exact pl_q0 (C (m + 9)) u [] [] c N 0 all[0].k 0 all[0].at' 0 x.n y y _ (ld1 yb rfl) q1 (ld1 yb rfl) (sub_n (by omega) (by omega)) (neqB _ _ q2) (by rw [q1]; rfl)
      · have hj : i - 1 < all.length := by omega
        have q3 : leI (Int.ofNat all[i].at') (Int.ofNat all[i - 1].at') = false := le_f (by have := f4 (i - 1) (by omega); omega)
        have q4 : ltI (Int.ofNat 0) (Int.ofNat i) = true := lt_t (by omega)
        exact pl_qn (C (m + 9)) u [] [] c N i all[i].k 0 all[i].at' all[i - 1].at' x.n y y _ _ (ld1 yb rfl) q1 q4 (sub_n (by omega) (by omega)) (by show i - 1 + 1 ≤ N; omega) (row_ld1 yc hj (by omega) rfl) q3 (ld1 yb rfl) (sub_n (by omega) (by omega)) (neqB _ _ q2) (by rw [q4]; rfl) (by rw [q1]; rfl) (by rw [q3]; rfl)
    have ty : tabsIn (y.room 36) tabs = true := tabs_keep ht fun b hb => yo b (by omega)
    obtain ⟨z, s3, xz⟩ := pl_kind m u c N i x.n all[i].k all[i].v all[i].at' all[i].t (y.room 36) yb (show x.n < y.n + 36 by omega) ty (show 5 ≤ y.n + 36 by omega) hul f2
    have zn := xz.n
    simp at zn
    have xx : Ext x.n x z := ⟨by omega, fun b hb => (xz.get b (by simp; omega)).trans (yo b hb)⟩
    have s4 := pl_n (C (m + 9)) u (.slice c 0 N (.opn 4)) i z _ (add_n (i := i) (j := 1) (by omega))
    obtain ⟨x', r1, r2⟩ := pl_lp m c N u all hul hN hNs hfa k (i + 1) z (by omega) (by omega) ((xx.get c hcn).trans hc) (by omega) (tabs_keep ht fun b hb => xx.get b (by omega)) (by omega)
    have blk := RunF.blockx (p := [1, 1, 1, 1, 0, 1, 0, 0, 1, 0]) (id := 1) (by kernel_rfl) (RunF.seq (p := [1, 1, 1, 1, 0, 1, 0, 0, 1, 0, 0]) (by kernel_rfl) s1 (RunF.seq (p := [1, 1, 1, 1, 0, 1, 0, 0, 1, 0, 0, 1]) (by kernel_rfl) s2 s3)) (by simp)
    exact ⟨x', .step (RunF.seq (p := [1, 1, 1, 1, 0, 1, 0, 0]) (by kernel_rfl) s0 (RunF.seq (p := [1, 1, 1, 1, 0, 1, 0, 0, 1]) (by kernel_rfl) blk s4)) r1, xx.trans (by omega) r2⟩
theorem places_c (m : Nat) (s : List UInt8) (h : AHeap) (ht : tabsIn h tabs = true) (hn : 5 ≤ h.n) : ∃ h', C (m + 10) (.fn 4) [.str s] h = .ret (.bool true) h' := by
  have s0 := pl_a (C (m + 9)) s h
  obtain ⟨u, hu⟩ : ∃ u, u = s.take (min s.length 5000) := ⟨_, rfl⟩
  have hul : u.length ≤ 5000 := by rw [hu, List.length_take]; omega
  have s1 : RunF Tryd.prog Tryd.f4 none (C (m + 9)) [1, 0] ⟨[(0, .str s)], [], .none, h⟩ .nrm ⟨[(0, .str u)], [], .none, h⟩ := by
    rw [hu]; exact pl_b (C (m + 9)) s h _ _ (min_n _ _) (sl_to (by omega))
  obtain ⟨L1, L2⟩ := Lex_c m u h ht hn (by omega)
  cases hL : lexS u with
  | error a =>
    obtain ⟨e, g, c1, _, _, _, x⟩ := L2 a hL
    have s2 := pl_c (C (m + 9)) u _ _ h g c1
    have s3 := pl_d (C (m + 9)) u e g g (works_c (m + 8) g (tabs_ext ht hn x))
    exact ⟨g, fn_runF (intr := Il) (n := m + 9) (args := [.str s]) Tryd.func4 (by kernel_rfl) rfl (by kernel_rfl) (RunF.seq (p := []) (by kernel_rfl) s0 (RunF.seq (p := [1]) (by kernel_rfl) s1 (RunF.seq (p := [1, 1]) (by kernel_rfl) s2 (RunF.seqx (p := [1, 1, 1]) (by kernel_rfl) s3 (by simp))))) (.inl rfl) (by kernel_rfl)⟩
  | ok out =>
    obtain ⟨v, g, c1, o1, x⟩ := L1 out hL
    obtain ⟨out', rfl, tk⟩ := lexS_toks hL
    rcases o1 with ⟨_, he⟩ | ⟨c, rfl, _, hc, _, hcn⟩
    · simp at he
    obtain ⟨all, hall⟩ : ∃ all, all = out' ++ [(⟨0, [], 0, u.length⟩ : Tk)] := ⟨_, rfl⟩
    rw [← hall] at hc
    have hlen : all.length = out'.length + 1 := by rw [hall]; simp
    have tkl := tk.len
    have hfa : ∀ i (hi : i < all.length), all[i].at' ≤ u.length ∧ (all[i].k = 0 ∨ Fact u all[i].k all[i].t all[i].v all[i].at') ∧ (all[i].k = 0 ↔ i = all.length - 1) ∧ ∀ j (hj : j + 1 = i), all[j].at' < all[i].at' := by
      intro i hi
      have old : ∀ j (hj : j < out'.length), all[j]'(by omega) = out'[j] := fun j hj => by simp only [hall]; exact List.getElem_append_left hj
      by_cases hio : i < out'.length
      · rw [old i hio]
        obtain ⟨e1, n, e2⟩ := tk.each out'[i] (List.getElem_mem hio)
        have e3 := tok_fact e2
        refine ⟨by omega, .inr e3, ⟨fun h0 => ?_, fun h0 => by omega⟩, fun j hj => ?_⟩
        · rcases e3.2 with ⟨h1, _⟩ | ⟨h1, _⟩ | ⟨h1, _⟩ <;> omega
        · rw [old j (by omega)]
          exact List.pairwise_iff_getElem.1 tk.inc j i (by omega) hio (by omega)
      · obtain rfl : i = out'.length := by omega
        have e0 : all[out'.length] = ⟨0, [], 0, u.length⟩ := by simp only [hall]; simp
        rw [e0]
        refine ⟨Nat.le_refl _, .inl rfl, ⟨fun _ => by omega, fun _ => rfl⟩, fun j hj => ?_⟩
        rw [old j (by omega)]
        exact (tk.each out'[j] (List.getElem_mem _)).1
    have s2 := pl_c (C (m + 9)) u _ _ h g c1
    rw [← hall] at s2
    have s3 := pl_d2 (C (m + 9)) u (.slice c 0 all.length (.opn 4)) g
    have s4 := pl_e (C (m + 9)) u (.slice c 0 all.length (.opn 4)) g
    have tg := tabs_ext ht hn x
    have xn := x.n
    obtain ⟨y, l1, xy⟩ := pl_lp m c all.length u all hul rfl (by omega) hfa all.length 0 g (by omega) (by omega) hc hcn tg (by omega)
    have l2 := RunF.block (p := [1, 1, 1, 1, 0, 1]) (id := 0) (by kernel_rfl) (LoopF.run (p := [1, 1, 1, 1, 0, 1, 0]) (by kernel_rfl) l1 (by omega))
    have hcy := (xy.get c hcn).trans hc
    have ty := tabs_keep tg fun b hb => xy.get b (by omega)
    have e0 : all[all.length - 1]'(by omega) = ⟨0, [], 0, u.length⟩ := by simp only [hall]; simp
    have s5 := pl_z (C (m + 9)) u c all.length y y _ u.length (lt_t (by omega)) (sub_n (by omega) (by omega)) (by show all.length - 1 + 1 ≤ _; omega) (row_ld1 hcy (i := all.length - 1) (by omega) (by omega) (by rw [e0]; rfl)) (eqI_t rfl) (works_c (m + 8) y ty)
    have l3 := RunP.post l2 (Γ2 := [(0, .str u), (3, .slice c 0 all.length (.opn 4))]) ⟨rfl, rfl, trivial⟩
    exact ⟨y, fn_runF (intr := Il) (n := m + 9) (args := [.str s]) Tryd.func4 (by kernel_rfl) rfl (by kernel_rfl) (RunF.seq (p := []) (by kernel_rfl) s0 (RunF.seq (p := [1]) (by kernel_rfl) s1 (RunF.seq (p := [1, 1]) (by kernel_rfl) s2 (RunF.seq (p := [1, 1, 1]) (by kernel_rfl) s3 (RunF.seq (p := [1, 1, 1, 1]) (by kernel_rfl) (RunF.seq (p := [1, 1, 1, 1, 0]) (by kernel_rfl) s4 l3) s5))))) (.inl rfl) (by kernel_rfl)⟩
end Go.Proofs.Lx
