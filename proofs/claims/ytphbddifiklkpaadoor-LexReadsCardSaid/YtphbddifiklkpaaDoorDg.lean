/-
  PROVED HERE: contracts of functions (Dg). No condition beside each statement's own.
-/
import Derived.Test.YtphbddifiklkpaaDoorProg
import Derived.WalkKit
import Derived.LaidEql
import Derived.Stop.Asserts
import Derived.RowKitTokens
import Derived.Test.YtphbddifiklkpaaDoorDc
import Derived.Test.YtphbddifiklkpaaDoorDe
import Derived.Test.YtphbddifiklkpaaDoorDf
set_option linter.unusedVariables false
set_option linter.unusedSimpArgs false
namespace Go.Proofs.Lx.Er
open Go.RowKit Go.Extern.Stop Go.Stop Go.Extern Go
set_option maxRecDepth 100000

/-! ### errors.As by Go's own text (turned from the worked example ToyasAs) -/

theorem fl_valueOf27 (t : Addr) (w : World) : (ReflectliteValue.unpack (.iface 61 (.pointer (some t)))).run Tryd.prog w
    = .ok (.agg #[.pointer (some ⟨7, 61, none⟩), .pointer (some ⟨w.heap.size, 0, none⟩), .int .u64 150]) (w.alloc (.cells #[.pointer (some t)] 61)) := by kernel_rfl
theorem fl_type27 (a : Addr) (w : World) : (ReflectliteValue.methodAny (ReflectliteValue.valueError "reflectlite.Value.Type" 0) (fun t _ _ _ => ReflectliteType.toType t) #[.agg #[.pointer (some ⟨7, 61, none⟩), .pointer (some a), .int .u64 150]]).run Tryd.prog w
    = .ok (.iface 104 (.agg #[.pointer (some ⟨7, 61, none⟩)])) w := by kernel_rfl
theorem fl_methodKind (h : Value) (w : World) : (Go.method 276 104 (.agg #[h]) "Kind").run Tryd.prog w = .ok (96, h) w := by kernel_rfl
theorem fl_kind27 (w : World) : ((ReflectliteType.abiMethod fun t => (fun a : Nat => Value.int IntKind.u8 (a : Int)) <$> Rtype.kind t) #[.pointer (some ⟨7, 61, none⟩)]).run Tryd.prog w = .ok (.int .u8 22) w := by kernel_rfl
theorem fl_kind25 (w : World) : ((ReflectliteType.abiMethod fun t => (fun a : Nat => Value.int IntKind.u8 (a : Int)) <$> Rtype.kind t) #[.pointer (some ⟨7, 52, none⟩)]).run Tryd.prog w = .ok (.int .u8 22) w := by kernel_rfl

theorem rlm (z : Sem Value) (f : TypeId → Addr → Nat → Nat → Sem Value) (v : Value) :
    ReflectliteValue.method z f #[v] = (do match ← ReflectliteValue.parts v with | none => z | some (t, a, fl) => f t a fl (fl % 32)) := rfl
theorem fl_parts27 (a : Addr) (w : World) : (ReflectliteValue.parts (.agg #[.pointer (some ⟨7, 61, none⟩), .pointer (some a), .int .u64 150])).run Tryd.prog w = .ok (some (61, a, 150)) w := by kernel_rfl
theorem fl_isNil27 (a p : Addr) (W : World) (ha : W.cell? a = some (.pointer (some p))) :
    (ReflectliteValue.method (ReflectliteValue.valueError "reflectlite.Value.IsNil" 0) ReflectliteValue.isNil #[.agg #[.pointer (some ⟨7, 61, none⟩), .pointer (some a), .int .u64 150]]).run Tryd.prog W = .ok (.bool false) W := by
  rw [rlm]
  simp only [Sem.run_bind, fl_parts27, Result.andThen]
  simp [ReflectliteValue.isNil, loadVar, isAgg, underlying, Tryd.underlying61, ha, Result.andThen]

theorem fl_methodElem (h : Value) (w : World) : (Go.method 276 104 (.agg #[h]) "Elem").run Tryd.prog w = .ok (109, .agg #[h]) w := by kernel_rfl
theorem fl_methodImplements (h : Value) (w : World) : (Go.method 276 104 (.agg #[h]) "Implements").run Tryd.prog w = .ok (110, .agg #[h]) w := by kernel_rfl
theorem fl_methodAssignableTo (h : Value) (w : World) : (Go.method 276 104 (.agg #[h]) "AssignableTo").run Tryd.prog w = .ok (107, .agg #[h]) w := by kernel_rfl
theorem fl_elem27 (w : World) : (ReflectliteType.method ReflectliteType.elem #[.agg #[.pointer (some ⟨7, 61, none⟩)]]).run Tryd.prog w = .ok (.iface 104 (.agg #[.pointer (some ⟨7, 52, none⟩)])) w := by kernel_rfl
theorem fl_implements25 (w : World) : (ReflectliteType.relation "Implements" ReflectliteType.implements_ #[.agg #[.pointer (some ⟨7, 52, none⟩)], .iface 104 (.agg #[.pointer (some ⟨7, 26, none⟩)])]).run Tryd.prog w = .ok (.bool true) w := by kernel_rfl
theorem fl_typeOf25 (v : Value) (w : World) : (ReflectliteType.typeOf #[.iface 52 v]).run Tryd.prog w = .ok (.iface 104 (.agg #[.pointer (some ⟨7, 52, none⟩)])) w := by kernel_rfl
theorem fl_assignable25 (w : World) : (ReflectliteType.relation "AssignableTo" ReflectliteType.assignableTo #[.agg #[.pointer (some ⟨7, 52, none⟩)], .iface 104 (.agg #[.pointer (some ⟨7, 52, none⟩)])]).run Tryd.prog w = .ok (.bool true) w := by kernel_rfl
theorem fl_valueOf25 (e : Addr) (w : World) : (ReflectliteValue.unpack (.iface 52 (.pointer (some e)))).run Tryd.prog w
    = .ok (.agg #[.pointer (some ⟨7, 52, none⟩), .pointer (some ⟨w.heap.size, 0, none⟩), .int .u64 150]) (w.alloc (.cells #[.pointer (some e)] 52)) := by kernel_rfl

theorem fl_elemOf27 (w : World) : (Rtype.elem? 61).run Tryd.prog w = .ok (some 52) w := by kernel_rfl
theorem fl_mk25 (p : Addr) (w : World) : (ReflectliteValue.mk 52 p ReflectliteValue.flagAddr).run Tryd.prog w = .ok (.agg #[.pointer (some ⟨7, 52, none⟩), .pointer (some p), .int .u64 406]) w := by kernel_rfl
theorem fl_elemV27 (a p : Addr) (W : World) (ha : W.cell? a = some (.pointer (some p))) :
    (ReflectliteValue.method (ReflectliteValue.valueError "reflectlite.Value.Elem" 0) ReflectliteValue.elem #[.agg #[.pointer (some ⟨7, 61, none⟩), .pointer (some a), .int .u64 150]]).run Tryd.prog W
      = .ok (.agg #[.pointer (some ⟨7, 52, none⟩), .pointer (some p), .int .u64 406]) W := by
  rw [rlm]
  simp only [Sem.run_bind, fl_parts27, Result.andThen]
  simp [ReflectliteValue.elem, loadVar, isAgg, underlying, Tryd.underlying61, ha, Result.andThen, fl_elemOf27, fl_mk25]
theorem rls (v x : Value) : ReflectliteValue.set #[v, x] = (do
    let (some (dst, a, fl), some (src, b, _)) := (← ReflectliteValue.parts v, ← ReflectliteValue.parts x)
      | unsupported (.noEntry "extern/(internal/reflectlite.Value).Set.zeroValue")
    if fl / ReflectliteValue.flagAddr % 2 == 0 then unsupported (.noEntry "extern/(internal/reflectlite.Value).Set.unaddressable")
    let val ← loadVar src b
    if ← Rtype.directlyAssignable dst src then storeVar dst a val
    else if ← Rtype.implements dst src then
      if (← Rtype.kind src) == 20 then
        match val with
        | .nilIface => unsupported (.noEntry "extern/reflectlite: a nil value of one interface type handed on as a value of another")
        | _ => storeVar dst a val
      else storeVar dst a (.iface src val)
    else panicString ("reflectlite.Set: value of type " ++ (← Rtype.spelt src) ++ " is not assignable to type " ++ (← Rtype.spelt dst))
    pure (.tuple #[])) := rfl
theorem fl_parts25a (a : Addr) (w : World) : (ReflectliteValue.parts (.agg #[.pointer (some ⟨7, 52, none⟩), .pointer (some a), .int .u64 406])).run Tryd.prog w = .ok (some (52, a, 406)) w := by kernel_rfl
theorem fl_parts25 (a : Addr) (w : World) : (ReflectliteValue.parts (.agg #[.pointer (some ⟨7, 52, none⟩), .pointer (some a), .int .u64 150])).run Tryd.prog w = .ok (some (52, a, 150)) w := by kernel_rfl
theorem fl_direct25 (w : World) : (Rtype.directlyAssignable 52 52).run Tryd.prog w = .ok true w := by kernel_rfl
theorem fl_set25 (ta b e : Addr) (old : Value) (W : World) (hb : W.cell? b = some (.pointer (some e))) (ht : W.cell? ta = some old) (hf : W.frozen? ta = false) :
    (ReflectliteValue.set #[.agg #[.pointer (some ⟨7, 52, none⟩), .pointer (some ta), .int .u64 406], .agg #[.pointer (some ⟨7, 52, none⟩), .pointer (some b), .int .u64 150]]).run Tryd.prog W
      = .ok (.tuple #[]) (W.setCell ta (.pointer (some e))) := by
  rw [rls]
  simp only [Sem.run_bind, fl_parts25a, fl_parts25, Result.andThen]
  simp [ReflectliteValue.flagAddr, loadVar, isAgg, underlying, Tryd.underlying52, hb, Result.andThen, fl_direct25, storeVar, Value.cells, storeCells, Addr.add]
  rw [run_store Tryd.prog W ta _ _ (by rfl)]
  simp [ht, hf]

set_option maxHeartbeats 4000000 in
theorem as_hit (e t : Addr) (old : Value) (w : World) (hg : w.cell? ⟨0, 0, none⟩ = some (.iface 104 (.agg #[.pointer (some ⟨7, 26, none⟩)]))) (ht0 : w.cell? t = some old) (hf0 : w.frozen? t = false) :
    Calls Tryd.prog 29 #[.iface 52 (.pointer (some e)), .iface 61 (.pointer (some t))] w fun ev w' => ev = .returned (.bool true) ∧ w' = ((((w.alloc (.cells #[.pointer (some t)] 61)).alloc (.cells #[.pointer (some ⟨7, 61, none⟩), .pointer (some ⟨w.heap.size, 0, none⟩), .int .u64 150] 75)).alloc (.cells #[.pointer (some ⟨7, 61, none⟩), .pointer (some ⟨w.heap.size, 0, none⟩), .int .u64 150] 75)).alloc (.cells #[.pointer (some e)] 52)).setCell t (.pointer (some e)) := by
  have h6 := @run_callFunc_extern Tryd.prog 45 _ (fun args => ReflectliteValue.unpack (args.getD 0 (.tuple #[]))) Tryd.func45 (by kernel_rfl) (by kernel_rfl) (by kernel_rfl) (by kernel_rfl)
  have h7 := @run_callFunc_extern Tryd.prog 46 _ (ReflectliteValue.methodAny (ReflectliteValue.valueError "reflectlite.Value.Type" 0) (fun t _ _ _ => ReflectliteType.toType t)) Tryd.func46 (by kernel_rfl) (by kernel_rfl) (by kernel_rfl) (by kernel_rfl)
  have h8 := @run_callFunc_extern Tryd.prog 47 _ (ReflectliteValue.method (ReflectliteValue.valueError "reflectlite.Value.IsNil" 0) ReflectliteValue.isNil) Tryd.func47 (by kernel_rfl) (by kernel_rfl) (by kernel_rfl) (by kernel_rfl)
  have h27 := @run_callFunc_extern Tryd.prog 96 _ (ReflectliteType.abiMethod fun t => do pure (.int .u8 (← Rtype.kind t))) Tryd.func96 (by kernel_rfl) (by kernel_rfl) (by kernel_rfl) (by kernel_rfl)
  have h37 := @run_callFunc_extern Tryd.prog 109 _ (ReflectliteType.method ReflectliteType.elem) Tryd.func109 (by kernel_rfl) (by kernel_rfl) (by kernel_rfl) (by kernel_rfl)
  have h38 := @run_callFunc_extern Tryd.prog 110 _ (ReflectliteType.relation "Implements" ReflectliteType.implements_) Tryd.func110 (by kernel_rfl) (by kernel_rfl) (by kernel_rfl) (by kernel_rfl)
  have h10 := @run_callFunc_extern Tryd.prog 49 _ ReflectliteType.typeOf Tryd.func49 (by kernel_rfl) (by kernel_rfl) (by kernel_rfl) (by kernel_rfl)
  have h35 := @run_callFunc_extern Tryd.prog 107 _ (ReflectliteType.relation "AssignableTo" ReflectliteType.assignableTo) Tryd.func107 (by kernel_rfl) (by kernel_rfl) (by kernel_rfl) (by kernel_rfl)
  have h11 := @run_callFunc_extern Tryd.prog 62 _ (ReflectliteValue.method (ReflectliteValue.valueError "reflectlite.Value.Elem" 0) ReflectliteValue.elem) Tryd.func62 (by kernel_rfl) (by kernel_rfl) (by kernel_rfl) (by kernel_rfl)
  have h12 := @run_callFunc_extern Tryd.prog 63 _ ReflectliteValue.set Tryd.func63 (by kernel_rfl) (by kernel_rfl) (by kernel_rfl) (by kernel_rfl)
  have tO := fl_typeOf25
  have mA := fl_methodAssignableTo
  have a25 := fl_assignable25
  have v25 := fl_valueOf25
  have f6 := fl_valueOf27
  have f7 := fl_type27
  have mK := fl_methodKind
  have mE := fl_methodElem
  have mI := fl_methodImplements
  have k27 := fl_kind27
  have k25 := fl_kind25
  have e27 := fl_elem27
  have i25 := fl_implements25
  have n8 := fl_isNil27 ⟨w.heap.size, 0, none⟩ t ((w.alloc (.cells #[.pointer (some t)] 61)).alloc (.cells #[.pointer (some ⟨7, 61, none⟩), .pointer (some ⟨w.heap.size, 0, none⟩), .int .u64 150] 75)) (by simp)
  have hlt : 0 < w.heap.size := by
    rcases Nat.eq_zero_or_pos w.heap.size with h0 | h
    · simp [World.cell?, h0] at hg
    · exact h
  have hg2 : ((w.alloc (.cells #[.pointer (some t)] 61)).alloc (.cells #[.pointer (some ⟨7, 61, none⟩), .pointer (some ⟨w.heap.size, 0, none⟩), .int .u64 150] 75)).cell? ⟨0, 0, none⟩ = some (.iface 104 (.agg #[.pointer (some ⟨7, 26, none⟩)])) := by
    rw [World.cell?_alloc_lt _ _ ⟨0, 0, none⟩ (by simp), World.cell?_alloc_lt _ _ ⟨0, 0, none⟩ hlt]; exact hg
  have htl : t.block < w.heap.size := by
    rcases Nat.lt_or_ge t.block w.heap.size with h | h
    · exact h
    · simp [World.cell?, Array.getElem?_eq_none h] at ht0
  have el := fl_elemV27 ⟨w.heap.size, 0, none⟩ t (((w.alloc (.cells #[.pointer (some t)] 61)).alloc (.cells #[.pointer (some ⟨7, 61, none⟩), .pointer (some ⟨w.heap.size, 0, none⟩), .int .u64 150] 75)).alloc (.cells #[.pointer (some ⟨7, 61, none⟩), .pointer (some ⟨w.heap.size, 0, none⟩), .int .u64 150] 75)) (by rw [World.cell?_alloc_lt _ _ ⟨w.heap.size, 0, none⟩ (by simp; omega)]; simp)
  have st := fl_set25 t ⟨w.heap.size + 1 + 1 + 1, 0, none⟩ e old ((((w.alloc (.cells #[.pointer (some t)] 61)).alloc (.cells #[.pointer (some ⟨7, 61, none⟩), .pointer (some ⟨w.heap.size, 0, none⟩), .int .u64 150] 75)).alloc (.cells #[.pointer (some ⟨7, 61, none⟩), .pointer (some ⟨w.heap.size, 0, none⟩), .int .u64 150] 75)).alloc (.cells #[.pointer (some e)] 52))
    (by rw [World.cell?_alloc_at _ _ _ _ (by simp)]; rfl)
    (by rw [World.cell?_alloc_lt _ _ t (by simp; omega), World.cell?_alloc_lt _ _ t (by simp; omega), World.cell?_alloc_lt _ _ t (by simp; omega), World.cell?_alloc_lt _ _ t htl]; exact ht0)
    (by rw [World.frozen?_alloc_old _ _ t (by simp; omega), World.frozen?_alloc_old _ _ t (by simp; omega), World.frozen?_alloc_old _ _ t (by simp; omega), World.frozen?_alloc_old _ _ t (Nat.ne_of_lt htl)]; exact hf0)
  go_enter Tryd.func29, Tryd.ntmps29
  go_wp2
  refine wp_loop_rounds 1 ?_
  rw [rounds_succ]
  go_wp2
  go_ret
  exact ⟨rfl, rfl⟩
end Go.Proofs.Lx.Er

namespace Go.Proofs.Lx.Er
open Go.RowKit Go.Extern.Stop Go.Stop Go.Extern Go
set_option maxRecDepth 100000

/-! ### errors.Is by Go's own text: a fault, and its number (after the worked example SentryIs) -/
theorem is_typeOf (v : Value) (w : World) : (Extern.ReflectliteType.typeOf #[.iface 36 v]).run Tryd.prog w = .ok (.iface 104 (.agg #[.pointer (some ⟨7, 36, none⟩)])) w := by kernel_rfl
def cmpF : Array Value → Sem Value := Extern.ReflectliteType.method fun t => do Go.Extern.Rtype.noPackHeld "Comparable" t; pure (.bool (← typeInfo t).comparable)
theorem is_comparable (w : World) : (cmpF #[.agg #[.pointer (some ⟨7, 36, none⟩)]]).run Tryd.prog w = .ok (.bool true) w := by kernel_rfl
theorem is_methodComparable (v : Value) (w : World) : (Go.method 276 104 v "Comparable").run Tryd.prog w = .ok (108, v) w := by kernel_rfl
theorem is_comp : (Tryd.prog.info? 36).map (·.comparable) = some true := by kernel_rfl
theorem is_noIs (v : Value) (xT : TypeId) (w : World) : (Instr.typeAssert (.iface 52 v) xT 116 true).run Tryd.prog w = .ok (.tuple #[.nilIface, .bool false]) w := run_typeAssert_lacksB Tryd.underlying116 (by kernel_rfl) (by kernel_rfl) v xT w
theorem is_hasUnwrap (v : Value) (xT : TypeId) (w : World) : (Instr.typeAssert (.iface 52 v) xT 111 true).run Tryd.prog w = .ok (.tuple #[.iface 52 v, .bool true]) w := run_typeAssert_hasB Tryd.underlying111 (by kernel_rfl) v xT w
theorem is_methodUnwrap (v : Value) (w : World) : (Go.method 276 52 v "Unwrap").run Tryd.prog w = .ok (101, v) w := by kernel_rfl
theorem is_same (k : Int) (w : World) : (binOp .eql 26 (.iface 36 (.int .i64 k)) (.iface 36 (.int .i64 k))).run Tryd.prog w = .ok (.bool true) w := by
  obtain ⟨i, hi, hcmp⟩ := Option.map_eq_some_iff.1 is_comp
  have h : ∀ d : Nat, (Op.equalIn (d + 2) 26 (.iface 36 (.int .i64 k)) (.iface 36 (.int .i64 k))).run Tryd.prog w = .ok true w := fun d => by
    simp [Op.equalIn, run_underlying Tryd.underlying26, run_underlying Tryd.underlying36, typeInfo, hi, hcmp]
  simp only [binOp]
  simp [Op.equal, Op.maxDepth, h 9998]
theorem is_hit (a : Addr) (k : Int) (w : World) (h1 : w.cell? a = some (.int .i64 k)) :
    Calls Tryd.prog 30 #[.iface 52 (.pointer (some a)), .iface 36 (.int .i64 k)] w fun e w' => e = .returned (.bool true) ∧ w' = w := by
  have h8 := @run_callFunc_extern Tryd.prog 49 _ Extern.ReflectliteType.typeOf Tryd.func49 (by kernel_rfl) (by kernel_rfl) (by kernel_rfl) (by kernel_rfl)
  have h32 := @run_callFunc_extern Tryd.prog 108 _ cmpF Tryd.func108 (by kernel_rfl) (by kernel_rfl) (by kernel_rfl) (by kernel_rfl)
  have tT := is_typeOf
  have cT := is_comparable
  have mR := is_methodComparable
  have nW := is_noIs
  have uW := is_hasUnwrap
  have mU := is_methodUnwrap
  have heq := is_same k w
  have hty := run_eql_iface_types (P := Tryd.prog) 52 36 (.pointer (some a)) (.int .i64 k) Tryd.underlying26 (by decide) w
  go_enter Tryd.func30, Tryd.ntmps30
  go_wp2
  refine wp_loop_rounds 2 ?_
  rw [rounds_succ]
  go_wp2
  rw [rounds_succ]
  go_wp2
  go_ret
  exact ⟨rfl, rfl⟩
end Go.Proofs.Lx.Er

namespace Go.Proofs.Lx
open Go AEv Go.Proofs
set_option maxRecDepth 100000

/-! ### errors.As, errors.Is, as intrinsics -/
theorem enters {f : FuncId} {fn : Func} (hf : Tryd.prog.funcs[f]? = some fn) (hb : fn.body.isSome = true) (hn : (fn.name == "runtime.NumGoroutine") = false) (args : Array Value) (w : World) : (callFunc f args).run Tryd.prog w = .ok (.enter f args) w := by
  obtain ⟨c, hc⟩ := Option.isSome_iff_exists.1 hb
  exact callFunc_enter hf hc hn args w
theorem er_ok : ErOK Tryd.prog erN where
  g := Nat.lt_of_lt_of_le (by decide : 0 < 1) (Nat.le_of_ble_eq_true (by kernel_rfl : Nat.ble 1 Tryd.prog.globals.size = true))
  enterAs := enters Tryd.func29 (by kernel_rfl) (by kernel_rfl)
  enterIs := enters Tryd.func30 (by kernel_rfl) (by kernel_rfl)
  hAs := fun e t old w h1 h2 h3 => (Er.as_hit e t old w h1 h2 h3).mono fun ev w' ⟨a, b⟩ => ⟨a, by
    rw [alloc_more, alloc_more, alloc_more, alloc_more, more_more, more_more, more_more] at b
    exact ⟨_, b⟩⟩
  hIs := fun a k w h => Er.is_hit a k w h
end Go.Proofs.Lx

namespace Go.Proofs.Lx
open Go AEv Go.Proofs Lexp
set_option maxRecDepth 100000
set_option maxHeartbeats 1000000

theorem rv (call : CallT → List AV → AHeap → FRes) (s : List UInt8) (b : Bool) (r : Nat) (h g : AHeap)
    (H1 : call (.fn 18) [] h = FRes.ret (.map r) g)
    (H2 : lookupA Tryd.prog g 46 (AV.map r) (AV.str s) false = some (AV.bool b)) :
    RunF Tryd.prog Tryd.f9 none call [] (SSt.mk [(0, .str s)] [] .none h) (.ret)
      (SSt.mk [(2, .bool b)] [] .none g) :=
  sxF_run [2] (hs := [.c (.map r) g, .v (.bool b)]) (by kernel_rfl) <| .cons H1 <| .cons H2 <| .nil
/-! ### LexPlaces -/
theorem start_in (els : Nat → Nat) (rows : List (List AV × Nat)) : tabsIn (heapT Tryd.prog.globals.size els tabs rows) tabs = true ∧ 5 ≤ (heapT Tryd.prog.globals.size els tabs rows).n := by
  have h1 : Nat.ble 5 Tryd.prog.globals.size = true := by kernel_rfl
  have h2 := Nat.le_of_ble_eq_true h1
  refine ⟨heapT_in tabs_lt (by decide), ?_⟩
  rw [(heapT_n _ els tabs rows tabs_lt).1]
  omega
theorem ent_works (hf : Fit Tryd.prog) : EntT Tryd.prog tabs ⟨11, [], .bool true⟩ := ⟨tabIntrT tabs [], 60, int0_ok hf, fun els => by kernel_rfl⟩
theorem Il_ok (hf : Fit Tryd.prog) : IntrOK Tryd.prog Il := orE_ok (orE_ok (tabT_ok hf tabs_lt fun e he => by
  obtain rfl : e = _ := by simpa [Wl] using he
  exact ent_works hf) (intrR_ok hf tabs_lt (Rl_ok hf))) (orE_ok (asI_ok er_ok) (isI_ok er_ok))
theorem works_c (m : Nat) (h : AHeap) (ht : tabsIn h tabs = true) : C (m + 1) (.fn 11) [] h = .ret (.bool true) h := by
  have hi : Il 11 [] h = some (.bool true, h) := by
    have e : tabIntr Wl 11 [] h = some (.bool true, h) := rfl
    simp only [Il, orE, tabIntrT, e, ht]
  simp only [C, callN, hi]
theorem tabs_ext {h g : AHeap} (hi : tabsIn h tabs = true) (hn : 5 ≤ h.n) (x : Ext h.n h g) : tabsIn g tabs = true := tabs_keep hi fun b hb => x.get b (by omega)
theorem encT_len (d : Tk) : (encT d).length = 4 := rfl
theorem row_ldc {h : AHeap} {c lo up el : Nat} {k : BK} {all : List Tk} (hg : h.get c = some (.cells (rowL encT all) el k lo up)) {i : Nat} (hi : i < all.length) : AEv.loadCells h c (0 + i * 4) 4 = some (encT all[i]) :=
  row_load (rest := []) encT_len (by rw [List.append_nil]; exact hg) hi (by omega)
end Go.Proofs.Lx
