/-
  PROVED HERE: contracts of functions (De). No condition beside each statement's own.
-/
import Derived.Test.YtokgebablggccaaGreatDoorProg
import Derived.WalkKit
import Derived.LaidEql
import Derived.Stop.Asserts
import Derived.RowKitTokens
import Derived.Test.YtokgebablggccaaGreatDoorDa
import Derived.Test.YtokgebablggccaaGreatDoorAx
import Derived.LaidHandle
import Derived.Test.YtokgebablggccaaGreatDoorDd
set_option linter.unusedVariables false
set_option linter.unusedSimpArgs false
set_option maxRecDepth 100000
set_option maxHeartbeats 1000000
namespace Go.Proofs.iI.Md
open Go.RowKit Go.Extern.Stop Go.Stop Go.Extern Go
open Tryz
theorem aeW(t:Addr)(w:World):(ReflectliteValue.unpack (.iface 85 (.pointer (some t)))).run prog w
 =.ok (.agg #[.pointer (some ⟨7,85,none⟩),.pointer (some ⟨w.heap.size,0,none⟩),.int .u64 150]) (w.alloc (.cells #[.pointer (some t)] 85)):=by kernel_rfl
theorem aeX(a:Addr)(w:World):(ReflectliteValue.methodAny (ReflectliteValue.valueError "reflectlite.Value.Type" 0) (λt _ _ _=>ReflectliteType.toType t) #[.agg #[.pointer (some ⟨7,85,none⟩),.pointer (some a),.int .u64 150]]).run prog w
 =.ok (.iface 143 (.agg #[.pointer (some ⟨7,85,none⟩)])) w:=by kernel_rfl
theorem aeY(h:Value)(w:World):(Go.method 344 143 (.agg #[h]) "Kind").run prog w=.ok (162,h) w:=by kernel_rfl
theorem aeZ(w:World):((ReflectliteType.abiMethod λt=>(λa:Nat=>Value.int IntKind.u8 (a:Int))<$>Rtype.kind t) #[.pointer (some ⟨7,85,none⟩)]).run prog w=.ok (.int .u8 22) w:=by kernel_rfl
theorem ae0(w:World):((ReflectliteType.abiMethod λt=>(λa:Nat=>Value.int IntKind.u8 (a:Int))<$>Rtype.kind t) #[.pointer (some ⟨7,68,none⟩)]).run prog w=.ok (.int .u8 22) w:=by kernel_rfl
theorem SL(z:Sem Value)(f:TypeId->Addr->Nat->Nat->Sem Value)(v:Value):
 ReflectliteValue.method z f #[v]=(do match<-ReflectliteValue.parts v with|none=>z|some (t,a,u5)=>f t a u5 (u5 %32)):=rfl
theorem SM(a:Addr)(w:World):(ReflectliteValue.parts (.agg #[.pointer (some ⟨7,85,none⟩),.pointer (some a),.int .u64 150])).run prog w=.ok (some (85,a,150)) w:=by kernel_rfl
theorem ae1(a p:Addr)(W:World)(a_:W.cell? a=some (.pointer (some p))):
  (ReflectliteValue.method (ReflectliteValue.valueError "reflectlite.Value.IsNil" 0) ReflectliteValue.isNil #[.agg #[.pointer (some ⟨7,85,none⟩),.pointer (some a),.int .u64 150]]).run prog W=.ok (.bool false) W:=by
 rw[SL]
 simp only[Sem.run_bind,SM,Result.andThen]
 simp[ReflectliteValue.isNil,loadVar,isAgg,underlying,underlying85,a_,Result.andThen]
theorem ae2(h:Value)(w:World):(Go.method 344 143 (.agg #[h]) "Elem").run prog w=.ok (174,.agg #[h]) w:=by kernel_rfl
theorem ae3(h:Value)(w:World):(Go.method 344 143 (.agg #[h]) "Implements").run prog w=.ok (175,.agg #[h]) w:=by kernel_rfl
theorem ae4(h:Value)(w:World):(Go.method 344 143 (.agg #[h]) "AssignableTo").run prog w=.ok (172,.agg #[h]) w:=by kernel_rfl
theorem ae5(w:World):(ReflectliteType.method ReflectliteType.elem #[.agg #[.pointer (some ⟨7,85,none⟩)]]).run prog w=.ok (.iface 143 (.agg #[.pointer (some ⟨7,68,none⟩)])) w:=by kernel_rfl
theorem ae6(w:World):(ReflectliteType.relation "Implements" ReflectliteType.implements_ #[.agg #[.pointer (some ⟨7,68,none⟩)],.iface 143 (.agg #[.pointer (some ⟨7,26,none⟩)])]).run prog w=.ok (.bool true) w:=by kernel_rfl
theorem ae7(v:Value)(w:World):(ReflectliteType.typeOf #[.iface 68 v]).run prog w=.ok (.iface 143 (.agg #[.pointer (some ⟨7,68,none⟩)])) w:=by kernel_rfl
theorem ae8(w:World):(ReflectliteType.relation "AssignableTo" ReflectliteType.assignableTo #[.agg #[.pointer (some ⟨7,68,none⟩)],.iface 143 (.agg #[.pointer (some ⟨7,68,none⟩)])]).run prog w=.ok (.bool true) w:=by kernel_rfl
theorem ae9(e:Addr)(w:World):(ReflectliteValue.unpack (.iface 68 (.pointer (some e)))).run prog w
 =.ok (.agg #[.pointer (some ⟨7,68,none⟩),.pointer (some ⟨w.heap.size,0,none⟩),.int .u64 150]) (w.alloc (.cells #[.pointer (some e)] 68)):=by kernel_rfl
theorem ae_(w:World):(Rtype.elem? 85).run prog w=.ok (some 68) w:=by kernel_rfl
theorem afa(p:Addr)(w:World):(ReflectliteValue.mk 68 p ReflectliteValue.flagAddr).run prog w=.ok (.agg #[.pointer (some ⟨7,68,none⟩),.pointer (some p),.int .u64 406]) w:=by kernel_rfl
theorem afb(a p:Addr)(W:World)(a_:W.cell? a=some (.pointer (some p))):
  (ReflectliteValue.method (ReflectliteValue.valueError "reflectlite.Value.Elem" 0) ReflectliteValue.elem #[.agg #[.pointer (some ⟨7,85,none⟩),.pointer (some a),.int .u64 150]]).run prog W
   =.ok (.agg #[.pointer (some ⟨7,68,none⟩),.pointer (some p),.int .u64 406]) W:=by
 rw[SL]
 simp only[Sem.run_bind,SM,Result.andThen]
 simp[ReflectliteValue.elem,loadVar,isAgg,underlying,underlying85,a_,Result.andThen,ae_,afa]
theorem afc(v x:Value):ReflectliteValue.set #[v,x]=(do
 let(some (dst,a,u5),some (src,b,_)):=(<-ReflectliteValue.parts v,<-ReflectliteValue.parts x)
  |unsupported (.noEntry "extern/(internal/reflectlite.Value).Set.zeroValue")
 if u5/ReflectliteValue.flagAddr %2==0 then unsupported (.noEntry "extern/(internal/reflectlite.Value).Set.unaddressable")
 let val<-loadVar src b
 if<-Rtype.directlyAssignable dst src then storeVar dst a val
 else if<-Rtype.implements dst src then
  if(<-Rtype.kind src)==20 then
   match val with
   |.nilIface=>unsupported (.noEntry "extern/reflectlite: a nil value of one interface type handed on as a value of another")
   |_=>storeVar dst a val
  else storeVar dst a (.iface src val)
 else panicString ("reflectlite.Set: value of type " ++(<-Rtype.spelt src)++ " is not assignable to type " ++(<-Rtype.spelt dst))
 pure (.tuple #[])):=rfl
theorem afd(a:Addr)(w:World):(ReflectliteValue.parts (.agg #[.pointer (some ⟨7,68,none⟩),.pointer (some a),.int .u64 406])).run prog w=.ok (some (68,a,406)) w:=by kernel_rfl
theorem afe(a:Addr)(w:World):(ReflectliteValue.parts (.agg #[.pointer (some ⟨7,68,none⟩),.pointer (some a),.int .u64 150])).run prog w=.ok (some (68,a,150)) w:=by kernel_rfl
theorem aff(w:World):(Rtype.directlyAssignable 68 68).run prog w=.ok true w:=by kernel_rfl
theorem afg(u6 b e:Addr)(old:Value)(W:World)(ag:W.cell? b=some (.pointer (some e)))(aI:W.cell? u6=some old)(aM:W.frozen? u6=false):
  (ReflectliteValue.set #[.agg #[.pointer (some ⟨7,68,none⟩),.pointer (some u6),.int .u64 406],.agg #[.pointer (some ⟨7,68,none⟩),.pointer (some b),.int .u64 150]]).run prog W
   =.ok (.tuple #[]) (W.setCell u6 (.pointer (some e))):=by
 rw[afc]
 simp only[Sem.run_bind,afd,afe,Result.andThen]
 simp[ReflectliteValue.flagAddr,loadVar,isAgg,underlying,underlying68,ag,Result.andThen,aff,storeVar,Value.cells,storeCells,Addr.add]
 rw[run_store prog W u6 _ _ (by rfl)]
 simp[aI,aM]
set_option maxHeartbeats 4000000 in
theorem afh(e t:Addr)(old:Value)(w:World)(aB:w.cell? ⟨0,0,none⟩=some (.iface 143 (.agg #[.pointer (some ⟨7,26,none⟩)])))(ru:w.cell? t=some old)(K6:w.frozen? t=false):
  Calls prog 25 #[.iface 68 (.pointer (some e)),.iface 85 (.pointer (some t))] w λiy w'=>iy=.returned (.bool true)/\w'=((((w.alloc (.cells #[.pointer (some t)] 85)).alloc (.cells #[.pointer (some ⟨7,85,none⟩),.pointer (some ⟨w.heap.size,0,none⟩),.int .u64 150] 119)).alloc (.cells #[.pointer (some ⟨7,85,none⟩),.pointer (some ⟨w.heap.size,0,none⟩),.int .u64 150] 119)).alloc (.cells #[.pointer (some e)] 68)).setCell t (.pointer (some e)):=by
 have cW:=@run_callFunc_extern prog 62 _ (λargs=>ReflectliteValue.unpack (args.getD 0 (.tuple #[]))) func62 (by kernel_rfl) (by kernel_rfl) (by kernel_rfl) (by kernel_rfl)
 have eS:=@run_callFunc_extern prog 63 _ (ReflectliteValue.methodAny (ReflectliteValue.valueError "reflectlite.Value.Type" 0) (λt _ _ _=>ReflectliteType.toType t)) func63 (by kernel_rfl) (by kernel_rfl) (by kernel_rfl) (by kernel_rfl)
 have e6:=@run_callFunc_extern prog 64 _ (ReflectliteValue.method (ReflectliteValue.valueError "reflectlite.Value.IsNil" 0) ReflectliteValue.isNil) func64 (by kernel_rfl) (by kernel_rfl) (by kernel_rfl) (by kernel_rfl)
 have alU:=@run_callFunc_extern prog 162 _ (ReflectliteType.abiMethod λt=>do pure (.int .u8 (<-Rtype.kind t))) func162 (by kernel_rfl) (by kernel_rfl) (by kernel_rfl) (by kernel_rfl)
 have alV:=@run_callFunc_extern prog 174 _ (ReflectliteType.method ReflectliteType.elem) func174 (by kernel_rfl) (by kernel_rfl) (by kernel_rfl) (by kernel_rfl)
 have alW:=@run_callFunc_extern prog 175 _ (ReflectliteType.relation "Implements" ReflectliteType.implements_) func175 (by kernel_rfl) (by kernel_rfl) (by kernel_rfl) (by kernel_rfl)
 have si:=@run_callFunc_extern prog 66 _ ReflectliteType.typeOf func66 (by kernel_rfl) (by kernel_rfl) (by kernel_rfl) (by kernel_rfl)
 have rG:=@run_callFunc_extern prog 172 _ (ReflectliteType.relation "AssignableTo" ReflectliteType.assignableTo) func172 (by kernel_rfl) (by kernel_rfl) (by kernel_rfl) (by kernel_rfl)
 have uC:=@run_callFunc_extern prog 97 _ (ReflectliteValue.method (ReflectliteValue.valueError "reflectlite.Value.Elem" 0) ReflectliteValue.elem) func97 (by kernel_rfl) (by kernel_rfl) (by kernel_rfl) (by kernel_rfl)
 have SN:=@run_callFunc_extern prog 98 _ ReflectliteValue.set func98 (by kernel_rfl) (by kernel_rfl) (by kernel_rfl) (by kernel_rfl)
 have alX:=ae7
 have alY:=ae4
 have alZ:=ae8
 have al0:=ae9
 have f6:=aeW
 have f7:=aeX
 have al1:=aeY
 have Hp:=ae2
 have al2:=ae3
 have al3:=aeZ
 have al4:=ae0
 have al5:=ae5
 have i25:=ae6
 have fZ:=ae1 ⟨w.heap.size,0,none⟩ t ((w.alloc (.cells #[.pointer (some t)] 85)).alloc (.cells #[.pointer (some ⟨7,85,none⟩),.pointer (some ⟨w.heap.size,0,none⟩),.int .u64 150] 119)) (by simp)
 have cf:0<w.heap.size:=by
  rcases Nat.eq_zero_or_pos w.heap.size with h0|h
  · simp[World.cell?,h0] at aB
  · exact h
 have Bc:((w.alloc (.cells #[.pointer (some t)] 85)).alloc (.cells #[.pointer (some ⟨7,85,none⟩),.pointer (some ⟨w.heap.size,0,none⟩),.int .u64 150] 119)).cell? ⟨0,0,none⟩=some (.iface 143 (.agg #[.pointer (some ⟨7,26,none⟩)])):=by
  rw[World.cell?_alloc_lt _ _ ⟨0,0,none⟩ (by simp),World.cell?_alloc_lt _ _ ⟨0,0,none⟩ cf];exact aB
 have L_:t.block<w.heap.size:=by
  rcases Nat.lt_or_ge t.block w.heap.size with h|h
  · exact h
  · simp[World.cell?,Array.getElem?_eq_none h] at ru
 have el:=afb ⟨w.heap.size,0,none⟩ t (((w.alloc (.cells #[.pointer (some t)] 85)).alloc (.cells #[.pointer (some ⟨7,85,none⟩),.pointer (some ⟨w.heap.size,0,none⟩),.int .u64 150] 119)).alloc (.cells #[.pointer (some ⟨7,85,none⟩),.pointer (some ⟨w.heap.size,0,none⟩),.int .u64 150] 119)) (by rw[World.cell?_alloc_lt _ _ ⟨w.heap.size,0,none⟩ (by simp;omega)];simp)
 have st:=afg t ⟨w.heap.size+1+1+1,0,none⟩ e old ((((w.alloc (.cells #[.pointer (some t)] 85)).alloc (.cells #[.pointer (some ⟨7,85,none⟩),.pointer (some ⟨w.heap.size,0,none⟩),.int .u64 150] 119)).alloc (.cells #[.pointer (some ⟨7,85,none⟩),.pointer (some ⟨w.heap.size,0,none⟩),.int .u64 150] 119)).alloc (.cells #[.pointer (some e)] 68))
  (by rw[World.cell?_alloc_at _ _ _ _ (by simp)];rfl)
  (by rw[World.cell?_alloc_lt _ _ t (by simp;omega),World.cell?_alloc_lt _ _ t (by simp;omega),World.cell?_alloc_lt _ _ t (by simp;omega),World.cell?_alloc_lt _ _ t L_];exact ru)
  (by rw[World.frozen?_alloc_old _ _ t (by simp;omega),World.frozen?_alloc_old _ _ t (by simp;omega),World.frozen?_alloc_old _ _ t (by simp;omega),World.frozen?_alloc_old _ _ t (Nat.ne_of_lt L_)];exact K6)
 go_enter func25,ntmps25
 go_wp2
 refine wp_loop_rounds 1 ?_
 rw[rounds_succ]
 go_wp2
 go_ret
 exact⟨rfl,rfl⟩
theorem afi(v:Value)(w:World):(Extern.ReflectliteType.typeOf #[.iface 29 v]).run prog w=.ok (.iface 143 (.agg #[.pointer (some ⟨7,29,none⟩)])) w:=by kernel_rfl
def SO:Array Value->Sem Value:=Extern.ReflectliteType.method λt=>do Go.Extern.Rtype.noPackHeld "Comparable" t;pure (.bool (<-typeInfo t).comparable)
theorem afj(w:World):(SO #[.agg #[.pointer (some ⟨7,29,none⟩)]]).run prog w=.ok (.bool true) w:=by kernel_rfl
theorem afk(v:Value)(w:World):(Go.method 344 143 v "Comparable").run prog w=.ok (173,v) w:=by kernel_rfl
theorem afl:(prog.info? 29).map (·.comparable)=some true:=by kernel_rfl
theorem afm(v:Value)(xT:TypeId)(w:World):(Instr.typeAssert (.iface 68 v) xT 155 true).run prog w=.ok (.tuple #[.nilIface,.bool false]) w:=run_typeAssert_lacksB underlying155 (by kernel_rfl) (by kernel_rfl) v xT w
theorem afn(v:Value)(xT:TypeId)(w:World):(Instr.typeAssert (.iface 68 v) xT 150 true).run prog w=.ok (.tuple #[.iface 68 v,.bool true]) w:=run_typeAssert_hasB underlying150 (by kernel_rfl) v xT w
theorem afo(v:Value)(w:World):(Go.method 344 68 v "Unwrap").run prog w=.ok (167,v) w:=by kernel_rfl
theorem afp(k:Int)(w:World):(binOp .eql 26 (.iface 29 (.int .i64 k)) (.iface 29 (.int .i64 k))).run prog w=.ok (.bool true) w:=by
 obtain⟨i,hi,I1⟩:=Option.map_eq_some_iff.1 afl
 have h:∀d:Nat,(Op.equalIn (d+2) 26 (.iface 29 (.int .i64 k)) (.iface 29 (.int .i64 k))).run prog w=.ok true w:=λd=>by
  simp[Op.equalIn,run_underlying underlying26,run_underlying underlying29,typeInfo,hi,I1]
 simp only[binOp]
 simp[Op.equal,Op.maxDepth,h 9998]
theorem afq(a:Addr)(k:Int)(w:World)(J:w.cell? a=some (.int .i64 k)):
  Calls prog 26 #[.iface 68 (.pointer (some a)),.iface 29 (.int .i64 k)] w λe w'=>e=.returned (.bool true)/\w'=w:=by
 have e6:=@run_callFunc_extern prog 66 _ Extern.ReflectliteType.typeOf func66 (by kernel_rfl) (by kernel_rfl) (by kernel_rfl) (by kernel_rfl)
 have al6:=@run_callFunc_extern prog 173 _ SO func173 (by kernel_rfl) (by kernel_rfl) (by kernel_rfl) (by kernel_rfl)
 have al7:=afi
 have al8:=afj
 have al9:=afk
 have al_:=afm
 have ama:=afn
 have amb:=afo
 have heq:=afp k w
 have amc:=run_eql_iface_types (P:=prog) 68 29 (.pointer (some a)) (.int .i64 k) underlying26 (by decide) w
 go_enter func26,ntmps26
 go_wp2
 refine wp_loop_rounds 2 ?_
 rw[rounds_succ]
 go_wp2
 rw[rounds_succ]
 go_wp2
 go_ret
 exact⟨rfl,rfl⟩
end Go.Proofs.iI.Md
namespace Go.Proofs.iI
open Go aJ Go.Proofs
variable {Q:cl->bD->Prop} {R:a8->Prop}
theorem enters{f:FuncId}{fn:Func}(aM:an.funcs[f]? =some fn)(ag:fn.body.isSome=true)(aT:(fn.name== "runtime.NumGoroutine")=false)(args:Array Value)(w:World):(callFunc f args).run an w=.ok (.enter f args) w:=by
 obtain⟨c,ak⟩:=Option.isSome_iff_exists.1 ag
 exact FK aM ak aT args w
theorem u7:K1 an ku where
 g:=Nat.lt_of_lt_of_le (by decide:0<1) (Nat.le_of_ble_eq_true (by kernel_rfl:Nat.ble 1 an.globals.size=true))
 Rx:=enters Tryz.func25 (by kernel_rfl) (by kernel_rfl)
 Ry:=enters Tryz.func26 (by kernel_rfl) (by kernel_rfl)
 Rz:=λe t old w J ae aq=>(Md.afh e t old w J ae aq).mono λiy w' ⟨a,b⟩=>⟨a,by
  rw[GM,GM,GM,GM,K0,K0,K0] at b
  exact⟨_,b⟩⟩
 RA:=λa k w h=>Md.afq a k w h
open Go aJ Go.Proofs lp Go.RowKit
theorem afr:an.globalNamed "errors.errorType" =some 0:=by kernel_rfl
theorem afs:(an.cutTypes.find? (·.1== "internal/reflectlite.rtype")).map (·.2)=some 143:=by kernel_rfl
theorem aft:((List.range an.types.size).filter λt=>an.rowNamed t [101,114,114,111,114])=[26]:=by kernel_rfl
theorem afu:typeHandle an 26=.pointer (some ⟨7,26,none⟩):=by kernel_rfl
abbrev DN:Array Value:=#[.iface 143 (.agg #[.pointer (some ⟨7,26,none⟩)])]
abbrev SP:DataW Unit:=.iface "internal/reflectlite.rtype" (.agg [.ptr (.lit (.string [101,114,114,111,114]))])
theorem afv{W:World}(h:handlesMet an [("errors.errorType",SP)] W):∃el fz,W.heap[0]? =some (.cells DN el fz):=by
 obtain⟨name,u,ty,aG,aE,br,dw,hh⟩:=h _ (List.mem_singleton.2 rfl)
 have mA:name=[101,114,114,111,114]:=(Option.some.inj aG).symm
 subst mA
 obtain rfl:=Option.some.inj (afs.symm.trans aE)
 have hm:ty∈(List.range an.types.size).filter λt=>an.rowNamed t [101,114,114,111,114]:=List.mem_filter.2 ⟨List.mem_range.2 br,dw⟩
 rw[aft] at hm
 obtain rfl:=List.mem_singleton.1 hm
 rw[afu] at hh
 exact aaV afr hh
noncomputable def nW(els:Nat->Nat)(rows:List (List aa×Nat))(el:Nat)(fz:Nat×Nat):I:=(kr an.globals.size els dL rows).set 0 (some (.raw (.cells DN el fz)))
theorem SQ(els:Nat->Nat)(rows:List (List aa×Nat))(el:Nat)(fz:Nat×Nat){b:Nat}(ag:¬b=0):(nW els rows el fz).get b=(kr an.globals.size els dL rows).get b:=cr ag rfl
theorem afw{W:World}(iv:an.globals.size<=W.heap.size)(qp:∀t∈dL,t.g<an.globals.size/\tK W (sv W) t){el:Nat}{fz:Nat×Nat}(he:W.heap[0]? =some (.cells DN el fz))(l:List (gx×List aa×Nat))(aA:∀x∈l,JT W x.1 x.2.1 x.2.2):
  bI (l9 an.globals.size (rq W) (l.map (·.1))) (nW (sv W) (l.map (·.2)) el fz) W/\j1 an (l9 an.globals.size (rq W) (l.map (·.1)))/\yl (nW (sv W) (l.map (·.2)) el fz):=by
 obtain⟨J,ae,aq⟩:=AW (P:=an) iv (sv W) dL qp l aA
 obtain⟨i,aV,aU,bu⟩:=ae 0 u7.g
 obtain⟨bt,b3⟩:=J.RB aq aV bu (by rw[aU];exact he)
 exact⟨bt,ae,b3⟩
noncomputable def afx(os:Os):World:=
 let w0:=World.holding an os ⟨#[],#[],[]⟩
 {w0 with heap:=w0.heap.modify 0 λ
  |.cells _ t frozen=>.cells DN t frozen
  |o=>o}
theorem SR(els:Nat->Nat):gH (kr an.globals.size els dL []) dL=true/\7<=(kr an.globals.size els dL []).n/\(kr an.globals.size els dL []).n=an.globals.size:=by
 have J:Nat.ble 7 an.globals.size=true:=by kernel_rfl
 have ae:=Nat.le_of_ble_eq_true J
 have aq:=(yU an.globals.size els dL [] qv).1
 refine⟨Rc qv (by decide),?_,?_⟩
 · rw[aq];omega
 · rw[aq];simp
theorem SS(aM:Fit an):kJ an eD:=wY (wY (Re aM qv λe he=>by simp[GZ] at he) (aaL aM qv (abe aM))) (wY (K2 u7) (K7 u7))
def tV(f:Nat)(args:List aa)(h:I):Option (aa×I):=match Nat.beq f 18 with
 |false=>none
 |true=>match args with
  |[.str s]=>match Nat.ble s.length 80000 with
   |false=>none
   |true=>match gH h dL with
    |false=>none
    |true=>match px s with
     |.ok []=>none
     |.ok (t::l)=>some (.aF [.slice h.n 0 (t::l).length (.aX 4),.c3],h.push (.cells (eK fm (t::l)) 76 .aX 0 0))
     |.error a=>some (.aF [.ao,.iface 68 (.ptr h.n 0)],h.push (qz a))
  |_=>none
theorem SU:∀l:List bP,l3 (eK fm l)=true
 |[]=>rfl
 |t::l=>by
  rw[yw]
  show l3 ([ad t.k,.str t.t,ad t.v,ad t.at']++eK fm l)=true
  simp only[List.cons_append,List.nil_append,l3,nI,SU l,Bool.and_self]
theorem Hq(aM:Fit an):kJ an tV:=by
 intro f args H v a7 ab μ w vs ar aB aW
 unfold tV at ab
 split at ab
 · cases ab
 · rename_i Ds
   have afy:f=18:=Nat.eq_of_beq_eq_true Ds
   subst afy
   split at ab
   · rename_i s
     split at ab
     · cases ab
     · rename_i ah
       have e3:s.length<=80000:=Nat.le_of_ble_eq_true ah
       split at ab
       · cases ab
       · rename_i eF
         split at ab
         · cases ab
         · rename_i t l bg
           cases ab
           refine RG aM qv (SS aM) (n:=9) (args:=[.str s]) rfl (λc=>.aF [.slice c 0 (t::l).length (.aX 4),.c3]) (SU _) ?_ ?_ eF ar aB aW
           · rintro gy a2 c d u aH ⟨us,rfl,fF,afz,rfl,⟨i,hi,q⟩,aj⟩
             exact⟨_,rfl,_,_,rfl,⟨i,by rw[aH];exact hi,q⟩,aj⟩
           · intro els
             obtain⟨c8,c9,gf⟩:=SR els
             obtain⟨v,ay,a9,cJ,x⟩:=(SJ 0 s _ c8 c9 e3).1 _ bg
             rcases cJ with⟨_,h0⟩|⟨p,rfl,_,ng,a3,_⟩
             · cases h0
             · exact⟨p,ay,a9,ng,by omega⟩
         · rename_i a bg
           cases ab
           refine RG aM qv (SS aM) (n:=9) (args:=[.str s]) rfl (λc=>.aF [.ao,.iface 68 (.ptr c 0)]) (by rfl) ?_ ?_ eF ar aB aW
           · rintro gy a2 c d u aH ⟨us,rfl,fF,afz,rfl,aT,g9,YU,rfl,⟨y,rfl,i,hi,rfl⟩,aj⟩
             exact⟨_,rfl,_,_,rfl,aT,_,_,rfl,⟨_,rfl,i,by rw[aH];exact hi,rfl⟩,aj⟩
           · intro els
             obtain⟨c8,c9,gf⟩:=SR els
             obtain⟨e,ay,a9,ng,he,_,_⟩:=(SJ 0 s _ c8 c9 e3).2 _ bg
             exact⟨e,ay,a9,ng,by omega⟩
   · cases ab
noncomputable def SV:sw:=⟨14,[.str [49,32,43,32,50,32,42,32,121,46,122,40,51,41]],.ret (.aF [.ptr 363 0,.c3]) (GO 1159 [(260,aD [.int .i64 (1),.int .i64 (8),.int .i64 (1),.str [],.au,.au,.au,.au,.ao,.ao,.ao] 61),(363,aD [.int .i64 (13),.int .i64 (10),.int .i64 (0),.str [43],.ptr 260 0,.ptr 495 0,.au,.au,.ao,.ao,.ao] 61),(418,aD [.int .i64 (1),.int .i64 (12),.int .i64 (2),.str [],.au,.au,.au,.au,.ao,.ao,.ao] 61),(495,aD [.int .i64 (13),.int .i64 (14),.int .i64 (0),.str [42],.ptr 418 0,.ptr 975 0,.au,.au,.ao,.ao,.ao] 61),(544,aD [.int .i64 (6),.int .i64 (16),.int .i64 (0),.str [121],.au,.au,.au,.au,.ao,.ao,.ao] 61),(585,aD [.int .i64 (7),.int .i64 (17),.int .i64 (0),.str [122],.ptr 544 0,.au,.au,.au,.ao,.ao,.ao] 61),(774,aD [.int .i64 (1),.int .i64 (20),.int .i64 (3),.str [],.au,.au,.au,.au,.ao,.ao,.ao] 61),(946,.cells [.ptr 774 0] 40 .aX 0 0),(975,aD [.int .i64 (9),.int .i64 (19),.int .i64 (0),.str [],.ptr 585 0,.au,.au,.au,.ao,.ao,.slice 946 0 1 (.aX 1)] 61)])⟩
theorem afA(aM:Fit an):Du an dL SV:=⟨tV,200,Hq aM,rfl,λels=>by kernel_rfl⟩
noncomputable def SW:sw:=⟨9,[.str [102,117,110,32,102,40,97,58,32,105,110,116,44,32,98,41,32,61,32,102,110,40,99,41,32,61,62,32,99]],.ret (.aF [.slice 834 0 1 (.aX 1),.c3]) (GO 847 [(41,aD [.int .i64 (4),.int .i64 (0),.str [102],.str [],.au,.ptr 377 0,.slice 290 0 2 (.aX 1),.slice 306 0 2 (.aX 1)] 51),(204,aD [.int .i64 (1),.int .i64 (9),.str [],.str [],.ao,.ao,.au] 58),(290,.cells [.str [97],.str [98]] 9 .aX 0 0),(306,.cells [.ptr 204 0,.au] 47 .aX 0 0),(377,aD [.int .i64 (10),.int .i64 (19),.int .i64 (0),.str [],.ptr 663 0,.au,.au,.au,.slice 470 0 1 (.aX 1),.slice 486 0 1 (.aX 1),.ao] 61),(470,.cells [.str [99]] 9 .aX 0 0),(486,.cells [.au] 47 .aX 0 0),(663,aD [.int .i64 (6),.int .i64 (28),.int .i64 (0),.str [99],.au,.au,.au,.au,.ao,.ao,.ao] 61),(834,.cells [.ptr 41 0] 52 .aX 0 0)])⟩
theorem afB(aM:Fit an):Du an dL SW:=⟨tV,200,Hq aM,rfl,λels=>by kernel_rfl⟩
noncomputable def SX:sw:=⟨9,[.str [108,101,116,32,120,32,49]],.ret (.aF [.ao,.iface 68 (.ptr 138 0)]) (GO 145 [(138,aD [.int .i64 (10),.int .i64 (6)] 31)])⟩
theorem afC(aM:Fit an):Du an dL SX:=⟨tV,200,Hq aM,rfl,λels=>by kernel_rfl⟩
noncomputable def Me:List sw:=[SV,SW,SX]
noncomputable def SY:Nat->List aa->I->Option (aa×I):=oF (sx an.globals.size dL Me) (oF (Dq ku) (Dr ku))
theorem afD(aM:Fit an):∀e∈Me,Du an dL e:=λe he=>by
 simp only[Me,List.mem_cons,List.not_mem_nil,or_false] at he
 rcases he with rfl|rfl|rfl
 · exact afA aM
 · exact afB aM
 · exact afC aM
theorem afE(aM:Fit an):kJ an SY:=wY (aaW aM qv (afD aM)) (wY (K2 u7) (K7 u7))
def Bj:rh:=⟨13,[],.bool true⟩
theorem afF(aM:Fit an):RF an dL ku Bj:=⟨SY,200,afE aM,λels el fz=>by kernel_rfl⟩
def amQ(n:Nat):Bool:=n==34||n==92||n==10
def amR:List aa:=(List.range 256).map λn=>.bool (amQ n)
def amO:rh:=⟨101,[.str [34,92,10]],.aF [.agg amR,.bool true]⟩
theorem amS(aM:Fit an):RF an dL ku amO:=⟨SY,60,afE aM,λels el fz=>by kernel_rfl⟩
end Go.Proofs.iI
