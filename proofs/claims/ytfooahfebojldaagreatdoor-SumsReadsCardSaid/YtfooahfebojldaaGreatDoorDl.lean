/-
  PROVED HERE: contracts of functions (Dl). No condition beside each statement's own.
-/
import Derived.Test.YtfooahfebojldaaGreatDoorDk
import Derived.Test.YtfooahfebojldaaGreatDoorSxb
import Derived.Test.YtfooahfebojldaaGreatDoorTx
set_option linter.unusedVariables false
set_option linter.unusedSimpArgs false
namespace Go.Proofs.ew
open Go aC Go.Proofs dD Go.Proofs.cT
open Go.Proofs.df (hN cC mu jg)
open Go.Proofs.eN (e5 cf aI ch fm)
set_option maxRecDepth 100000
set_option maxHeartbeats 1000000
theorem pW(call:aE->List J->aa->ao)(a b:Nat)(h:aa):
  aw Tryz.prog Tryz.f21 none call [] (af.mk [(0,.ptr a 0),(1,.ptr b 0)] [] .none h) (.nrm)
   (af.mk [(0,.ptr a 0),(1,.ptr b 0)] [] .none h):=
 aX [0,1] (hs:=[.v (.bool !true),.b false]) (by kernel_rfl)<| .cons (by kernel_rfl:dr Tryz.prog h BinOp.neq 20 (Operand.tmp 4) (Operand.const Value.nilIface) J.fy J.fy=some (J.bool !true))<| .cons (by kernel_rfl:(!true)=false)<| .nil
theorem aax(call:aE->List J->aa->ao)(a b:Nat)(h aK cd:aa)
  (H1:aC.storeCells h a 0 [.str [],.bool false,.aA,.aA]=some aK)
  (ay:aC.storeCells aK b 0 [.int .i64 (.ofNat 4)]=some cd):
  aw Tryz.prog Tryz.f21 none call [] (af.mk [(0,.ptr a 0),(1,.ptr b 0)] [] (.act (.iface 58 (.agg []))) h) (.nrm)
   (af.mk [(0,.ptr a 0),(1,.ptr b 0)] [] (.done (.iface 58 (.agg []))) cd):=
 aX [0,1] (hs:=[.v (.bool !false),.b true,.ft (.aL []) aK,.ft (.aL []) cd]) (by kernel_rfl)<| .cons (by kernel_rfl:dr Tryz.prog h BinOp.neq 20 (Operand.tmp 4) (Operand.const Value.nilIface) (J.iface 58 (J.agg [])) J.fy=some (J.bool !false))<| .cons (by kernel_rfl:(!false)=true)<| .cons (⟨by kernel_rfl,H1,rfl⟩:some 4=some 4/\aC.storeCells h a 0 [J.str [],J.bool false,J.aA,J.aA]=some aK/\J.aL []=J.aL [])<| .cons (⟨by kernel_rfl,ay,rfl⟩:some 1=some 1/\aC.storeCells aK b 0 [J.int IntKind.i64 (Int.ofNat 4)]=some cd/\J.aL []=J.aL [])<| .nil
theorem rv(call:aE->List J->aa->ao)(s:List UInt8)(h:aa){Q:bA->af->Prop}(H:∃a1:Nat,∃aq:aa,call (.fn 22) [.str s] (aa.push (aa.push h (.cells [.str [],.bool false,.aA,.aA] 24 .own 0 0)) (.cells [.int .i64 (.ofNat 0)] 25 .own 0 0))=.ret (.ptr a1 0) aq/\∃bL:Nat,av (aa.push aq (.cells [.ptr a1 0,.int .i64 (.ofNat 0)] 63 .own 0 0)) aq.n (0+0)=some (.ptr bL 0)/\∃s1:List UInt8,∃ak:aa,call (.fn 23) [.ptr bL 0] (aa.push aq (.cells [.ptr a1 0,.int .i64 (.ofNat 0)] 63 .own 0 0))=.ret (.str s1) ak/\∃aQ:aa,aC.storeCells ak h.n (0+0) [.str s1]=some aQ/\∃cm:Nat,av aQ aq.n (0+0)=some (.ptr cm 0)/\∃cn:Nat,∃a3:aa,call (.fn 24) [.ptr cm 0] aQ=.ret (.int .u64 (.ofNat cn)) a3/\∃cz:Nat,av a3 aq.n (0+0)=some (.ptr cz 0)/\∃a8:Bool,∃bZ:aa,call (.fn 26) [.ptr cz 0] a3=.ret (.bool a8) bZ/\a8=true/\((∃b2:aa,call (.fn 25) [.bool (dq (.ofNat cn) (.ofNat 1))] bZ=.ret (.aL []) b2/\∃b5:aa,aC.storeCells b2 h.n (0+1) [.bool (ba (.ofNat cn) (.ofNat 1))]=some b5/\∃aW:Bool,av b5 h.n (0+1)=some (.bool aW)/\(aW=true->∃cV:Nat,av b5 aq.n (0+0)=some (.ptr cV 0)/\∃ds:Bool,∃b1:aa,call (.fn 28) [.ptr cV 0] b5=.ret (.bool ds) b1/\(ds=true->∃s2:List UInt8,∃ja:Bool,∃v1:J,∃v2:J,aC.loadCells b1 h.n 0 4=some [.str s2,.bool ja,v1,v2]/\∃ly:Bool,∃dk:aa,call (.fn 29) [.agg [.str s2,.bool ja,v1,v2]] b1=.ret (.bool ly) dk/\((∃gg:aa,call (.fn 25) [.bool ly] dk=.ret (.aL []) gg/\∃ck:List UInt8,∃jx:Bool,∃dS:J,∃v4:J,aC.loadCells gg h.n 0 4=some [.str ck,.bool jx,dS,v4]/\J.cu dS=true/\J.cu v4=true/\∃fv:aa,aC.storeCells gg h.n 0 [.str ck,.bool jx,dS,v4]=some fv/\∃hK:aa,aC.storeCells fv (aa.n (aa.push h (.cells [.str [],.bool false,.aA,.aA] 24 .own 0 0))) 0 [.int .i64 (.ofNat 0)]=some hK/\Q .ret (af.mk [(2,.ptr h.n 0),(3,.ptr (aa.n (aa.push h (.cells [.str [],.bool false,.aA,.aA] 24 .own 0 0))) 0)] [bU.call 21 [.ptr h.n 0,.ptr (aa.n (aa.push h (.cells [.str [],.bool false,.aA,.aA] 24 .own 0 0))) 0]] .none hK))\/(∃h6:J,∃oB:aa,call (.fn 25) [.bool ly] dk=.bp h6 oB/\Q (.bp h6) (af.mk [(2,.ptr h.n 0),(3,.ptr (aa.n (aa.push h (.cells [.str [],.bool false,.aA,.aA] 24 .own 0 0))) 0)] [bU.call 21 [.ptr h.n 0,.ptr (aa.n (aa.push h (.cells [.str [],.bool false,.aA,.aA] 24 .own 0 0))) 0]] .none oB))))/\(ds=false->((∃oC:aa,call (.fn 25) [.bool false] b1=.ret (.aL []) oC/\∃b6:List UInt8,∃qo:Bool,∃v6:J,∃oj:J,aC.loadCells oC h.n 0 4=some [.str b6,.bool qo,v6,oj]/\J.cu v6=true/\J.cu oj=true/\∃pv:aa,aC.storeCells oC h.n 0 [.str b6,.bool qo,v6,oj]=some pv/\∃l3:aa,aC.storeCells pv (aa.n (aa.push h (.cells [.str [],.bool false,.aA,.aA] 24 .own 0 0))) 0 [.int .i64 (.ofNat 0)]=some l3/\Q .ret (af.mk [(2,.ptr h.n 0),(3,.ptr (aa.n (aa.push h (.cells [.str [],.bool false,.aA,.aA] 24 .own 0 0))) 0)] [bU.call 21 [.ptr h.n 0,.ptr (aa.n (aa.push h (.cells [.str [],.bool false,.aA,.aA] 24 .own 0 0))) 0]] .none l3))\/(∃qn:J,∃m2:aa,call (.fn 25) [.bool false] b1=.bp qn m2/\Q (.bp qn) (af.mk [(2,.ptr h.n 0),(3,.ptr (aa.n (aa.push h (.cells [.str [],.bool false,.aA,.aA] 24 .own 0 0))) 0)] [bU.call 21 [.ptr h.n 0,.ptr (aa.n (aa.push h (.cells [.str [],.bool false,.aA,.aA] 24 .own 0 0))) 0]] .none m2)))))/\(aW=false->((∃qp:J,∃sZ:aa,call (.fn 27) [.ptr aq.n 0] b5=.ret qp sZ/\J.cu qp=true/\∃pw:aa,aC.storeCells sZ h.n (0+2) [qp]=some pw/\((∃v10:J,∃oD:aa,call (.fn 27) [.ptr aq.n 0] pw=.ret v10 oD/\J.cu v10=true/\∃qC:aa,aC.storeCells oD h.n (0+3) [v10]=some qC/\∃ej:Nat,av qC aq.n (0+0)=some (.ptr ej 0)/\∃om:Bool,∃px:aa,call (.fn 28) [.ptr ej 0] qC=.ret (.bool om) px/\(om=true->∃cW:List UInt8,∃w_:Bool,∃v11:J,∃NJ:J,aC.loadCells px h.n 0 4=some [.str cW,.bool w_,v11,NJ]/\∃ry:Bool,∃xa:aa,call (.fn 29) [.agg [.str cW,.bool w_,v11,NJ]] px=.ret (.bool ry) xa/\((∃xb:aa,call (.fn 25) [.bool ry] xa=.ret (.aL []) xb/\∃dO:List UInt8,∃NK:Bool,∃GL:J,∃GM:J,aC.loadCells xb h.n 0 4=some [.str dO,.bool NK,GL,GM]/\J.cu GL=true/\J.cu GM=true/\∃zJ:aa,aC.storeCells xb h.n 0 [.str dO,.bool NK,GL,GM]=some zJ/\∃NL:aa,aC.storeCells zJ (aa.n (aa.push h (.cells [.str [],.bool false,.aA,.aA] 24 .own 0 0))) 0 [.int .i64 (.ofNat 0)]=some NL/\Q .ret (af.mk [(2,.ptr h.n 0),(3,.ptr (aa.n (aa.push h (.cells [.str [],.bool false,.aA,.aA] 24 .own 0 0))) 0)] [bU.call 21 [.ptr h.n 0,.ptr (aa.n (aa.push h (.cells [.str [],.bool false,.aA,.aA] 24 .own 0 0))) 0]] .none NL))\/(∃NM:J,∃NN:aa,call (.fn 25) [.bool ry] xa=.bp NM NN/\Q (.bp NM) (af.mk [(2,.ptr h.n 0),(3,.ptr (aa.n (aa.push h (.cells [.str [],.bool false,.aA,.aA] 24 .own 0 0))) 0)] [bU.call 21 [.ptr h.n 0,.ptr (aa.n (aa.push h (.cells [.str [],.bool false,.aA,.aA] 24 .own 0 0))) 0]] .none NN))))/\(om=false->((∃GN:aa,call (.fn 25) [.bool false] px=.ret (.aL []) GN/\∃e2:List UInt8,∃NO:Bool,∃GO:J,∃GP:J,aC.loadCells GN h.n 0 4=some [.str e2,.bool NO,GO,GP]/\J.cu GO=true/\J.cu GP=true/\∃NP:aa,aC.storeCells GN h.n 0 [.str e2,.bool NO,GO,GP]=some NP/\∃NQ:aa,aC.storeCells NP (aa.n (aa.push h (.cells [.str [],.bool false,.aA,.aA] 24 .own 0 0))) 0 [.int .i64 (.ofNat 0)]=some NQ/\Q .ret (af.mk [(2,.ptr h.n 0),(3,.ptr (aa.n (aa.push h (.cells [.str [],.bool false,.aA,.aA] 24 .own 0 0))) 0)] [bU.call 21 [.ptr h.n 0,.ptr (aa.n (aa.push h (.cells [.str [],.bool false,.aA,.aA] 24 .own 0 0))) 0]] .none NQ))\/(∃NR:J,∃GQ:aa,call (.fn 25) [.bool false] px=.bp NR GQ/\Q (.bp NR) (af.mk [(2,.ptr h.n 0),(3,.ptr (aa.n (aa.push h (.cells [.str [],.bool false,.aA,.aA] 24 .own 0 0))) 0)] [bU.call 21 [.ptr h.n 0,.ptr (aa.n (aa.push h (.cells [.str [],.bool false,.aA,.aA] 24 .own 0 0))) 0]] .none GQ)))))\/(∃NS:J,∃NT:aa,call (.fn 27) [.ptr aq.n 0] pw=.bp NS NT/\Q (.bp NS) (af.mk [(2,.ptr h.n 0),(3,.ptr (aa.n (aa.push h (.cells [.str [],.bool false,.aA,.aA] 24 .own 0 0))) 0)] [bU.call 21 [.ptr h.n 0,.ptr (aa.n (aa.push h (.cells [.str [],.bool false,.aA,.aA] 24 .own 0 0))) 0]] .none NT))))\/(∃v20:J,∃NU:aa,call (.fn 27) [.ptr aq.n 0] b5=.bp v20 NU/\Q (.bp v20) (af.mk [(2,.ptr h.n 0),(3,.ptr (aa.n (aa.push h (.cells [.str [],.bool false,.aA,.aA] 24 .own 0 0))) 0)] [bU.call 21 [.ptr h.n 0,.ptr (aa.n (aa.push h (.cells [.str [],.bool false,.aA,.aA] 24 .own 0 0))) 0]] .none NU)))))\/(∃NV:J,∃NW:aa,call (.fn 25) [.bool (dq (.ofNat cn) (.ofNat 1))] bZ=.bp NV NW/\Q (.bp NV) (af.mk [(2,.ptr h.n 0),(3,.ptr (aa.n (aa.push h (.cells [.str [],.bool false,.aA,.aA] 24 .own 0 0))) 0)] [bU.call 21 [.ptr h.n 0,.ptr (aa.n (aa.push h (.cells [.str [],.bool false,.aA,.aA] 24 .own 0 0))) 0]] .none NW)))):
  bz Tryz.prog Tryz.f9 call [] ⟨[(0,.str s)],[],.none,h⟩ Q:=
 hz [(1028,.t),(1029,.t),(31,.e none .o),(39,.e none .o),(42,.e none .o),(53,.e none .o)] [2,3] [(0,.v (.str s))] rfl (Eq.mp (by kernel_rfl) H)
theorem aay(call:aE->List J->aa->ao)(s:List UInt8)(h:aa){Q:bA->af->Prop}(H:∃a1:Nat,∃aq:aa,call (.fn 22) [.str s] (aa.push (aa.push h (.cells [.str [],.bool false,.aA,.aA] 24 .own 0 0)) (.cells [.int .i64 (.ofNat 0)] 25 .own 0 0))=.ret (.ptr a1 0) aq/\∃bL:Nat,av (aa.push aq (.cells [.ptr a1 0,.int .i64 (.ofNat 0)] 63 .own 0 0)) aq.n (0+0)=some (.ptr bL 0)/\∃s1:List UInt8,∃ak:aa,call (.fn 23) [.ptr bL 0] (aa.push aq (.cells [.ptr a1 0,.int .i64 (.ofNat 0)] 63 .own 0 0))=.ret (.str s1) ak/\∃aQ:aa,aC.storeCells ak h.n (0+0) [.str s1]=some aQ/\∃cm:Nat,av aQ aq.n (0+0)=some (.ptr cm 0)/\∃cn:Nat,∃a3:aa,call (.fn 24) [.ptr cm 0] aQ=.ret (.int .u64 (.ofNat cn)) a3/\∃cz:Nat,av a3 aq.n (0+0)=some (.ptr cz 0)/\∃a8:Bool,∃bZ:aa,call (.fn 26) [.ptr cz 0] a3=.ret (.bool a8) bZ/\a8=false/\∃v1:J,∃b2:aa,call (.fn 25) [.bool false] bZ=.bp v1 b2/\Q (.bp v1) (af.mk [(2,.ptr h.n 0),(3,.ptr (aa.n (aa.push h (.cells [.str [],.bool false,.aA,.aA] 24 .own 0 0))) 0)] [bU.call 21 [.ptr h.n 0,.ptr (aa.n (aa.push h (.cells [.str [],.bool false,.aA,.aA] 24 .own 0 0))) 0]] .none b2)):
  bz Tryz.prog Tryz.f9 call [] ⟨[(0,.str s)],[],.none,h⟩ Q:=
 hz [(1028,.f),(1029,.f),(31,.p .o)] [2,3] [(0,.v (.str s))] rfl (Eq.mp (by kernel_rfl) H)
def m4(lo:Nat)(path:bc)(st:cf):Option (jh×cf):=(g9 lo st).bind λr=>(g9 lo r.1).map λa9=>(⟨path,false,r.2,a9.2⟩,a9.1)
def oE(lo:Nat)(s:bc):Option (jh×cf):=
 if(aI (ch (some s)).2).2.isSome=true/\(aI (ch (some s)).2).1<=1 then
  if(aI (ch (some s)).2).1=1 then some (⟨(ch (some s)).1,true,[],[]⟩,(aI (ch (some s)).2).2) else m4 lo (ch (some s)).1 (aI (ch (some s)).2).2
 else none
def gN(lo:Nat)(s:bc):Option jh:=(oE lo s).bind λx=>if jg x.2&&ik x.1 then some x.1 else none
theorem CO{lo:Nat}{st b_:cf}{l:List eD}(e:g9 lo st=some (b_,l)):sY (dg st) (b_,l):=
 rq (sY (dg st)) (λs a2 a b=>(GK a b).1) _ _ _ ⟨by have:=qw st;simpa using this,λe he=>by cases he⟩ e
theorem Gd(st:cf):(ch st).1.length<=(eN.left st).length:=by
 have ab:=eN.Gc st
 have ae:∀(n:Nat) (t:cf),(fm n t).1.length<=(eN.left t).length:=by
  intro n t
  cases t with
  |none=>simp[fm]
  |some s=>
   simp only[fm]
   by_cases h:n<=s.length
   · rw[if_pos h];simp only[eN.left,List.length_take];omega
   · rw[if_neg h];simp
 exact Nat.le_trans (ae _ _) ab
theorem NX{N:Nat}{st:cf}{l:List eD}(h:sY N (st,l)):∀e∈l,fit e.2:=λe he=>by
 obtain⟨t,bh,ab,ae⟩:=h.2 e he
 rw[bh]
 exact⟨by rw[lW];omega,λu hu=>by cases hu;omega⟩
theorem NY{lo:Nat}{path:bc}{st st1 dB:cf}{bK bQ:List eD}(aU:path.length<=90000)(mv:dg st<90000)(aF:g9 lo st=some (st1,bK))(aG:g9 lo st1=some (dB,bQ)):oy ⟨path,false,bK,bQ⟩:=by
 have ab:=CO aF
 have ae:=CO aG
 have bx:=ab.1
 have bI:=ae.1
 simp only at bx bI
 exact⟨aU,by show bK.length<=_;omega,by show bQ.length<=_;omega,NX ab,NX ae⟩
theorem cC.zK{h:aa}{p b:Nat}{st:cf}{cs:List J}{el:TypeId}{o:Option cJ}(al:cC h p st)(ag:b≠p)(au:h.get b=some (.cells cs el .own 0 0)):cC (h.set b o) p st:=by
 cases st with
 |none=>obtain⟨ab,ae⟩:=al;exact⟨by simpa using ab,et (λe=>ag e.symm) ae⟩
 |some s=>
  obtain⟨ab,ae,v,aB,aP⟩:=al
  refine⟨by simpa using ab,ae,v,et (λe=>ag e.symm) aB,?_⟩
  rcases aP with aP|⟨c,pre,aY,aR,bW,eu⟩
  · exact .inl aP
  · exact .inr ⟨c,pre,aY,by simpa using aR,bW,et (λe=>by subst e;rw[au] at eu;cases eu) eu⟩
abbrev zL(n:Nat):cJ:=.cells [.int .i64 (Int.ofNat n)] 25 .own 0 0
def NZ(h:aa)(o:Option jh)(e:bA)(st:af):Prop:=∃g,st=⟨[(2,.ptr h.n 0),(3,.ptr (h.n+1) 0)],[.call 21 [.ptr h.n 0,.ptr (h.n+1) 0]],.none,g⟩/\Ext h.n h g/\h.n+2<=g.n/\match o with
 |none=>e=.bp fI/\(∃p b v w,g.get h.n=some (eO p b v w))/\g.get (h.n+1)=some (zL 0)
 |some x=>e=.ret/\∃vv vt F,g.get h.n=some (eO x.path x.hp vv vt)/\g.get (h.n+1)=some (zL 0)/\l4 F g vv x.pr/\l4 F g vt x.sS/\oy x/\∀d,F d->d<g.n
theorem aaz(M:Nat)(g6:480<=M)(s:bc)(h:aa)(aD:s.length<=80000):bz Tryz.prog Tryz.f9 (Y M) [] ⟨[(0,.str s)],[],.none,h⟩ (NZ h (gN 0 s)):=by
 obtain⟨ab,h7⟩:∃ab,ab=(h.push (eO [] false .aA .aA)).push (zL 0):=⟨_,rfl⟩
 have c1:ab.get h.n=some (eO [] false .aA .aA):=by rw[h7];exact hj (by simp) (eB rfl)
 have d1:ab.get (h.n+1)=some (zL 0):=by rw[h7];exact eB rfl
 have c9:ab.n=h.n+2:=by rw[h7];simp
 have bw:Ext h.n h ab:=by rw[h7];exact Ext.k0 (by simp) (Ext.push (Nat.le_refl _) _)
 obtain⟨p,aq,nc,GR,aU,qD⟩:=df.ZF (M-1) s ab (by omega)
 rw[show M-1+1=M by omega] at nc
 have acS:=qD.lt
 obtain⟨zM,zN⟩:∃x,x=aq.push (lH p 0):=⟨_,rfl⟩
 have aY:zM.get aq.n=some (lH p 0):=by rw[zN];exact eB rfl
 have bq:cC zM p (some s):=by rw[zN];exact cC.zy qD
 have a1:zM.n=aq.n+1:=by rw[zN];simp
 have dH:∀d,d<ab.n->zM.get d=ab.get d:=λd aj=>by rw[zN];exact hj (by have:=GR.n;omega) (GR.get d aj)
 obtain⟨ak,ek,gB,a9⟩:=df.Cw (M-6) p (some s) zM bq
 rw[show M-6+6=M by omega] at ek
 have bL:=gB.n
 have acT:=GR.n
 obtain⟨path,u7⟩:∃path,path=(ch (some s)).1:=⟨_,rfl⟩
 obtain⟨st1,u9⟩:∃st1,st1=(ch (some s)).2:=⟨_,rfl⟩
 have kW:path.length<=80000:=by have:=Gd (some s);rw[<-u7] at this;simp only[eN.left] at this;omega
 have D2:dg st1<=80001:=by have:=rp (some s);rw[<-u9] at this;have e:dg (some s)=s.length+1:=rfl;omega
 rw[<-u7] at ek
 rw[<-u9] at a9
 have dR:∀d,d<ab.n->ak.get d=ab.get d:=λd aj=>(gB.get d (by omega) (by omega)).trans (dH d aj)
 have aR:=(gB.get aq.n (by omega) (by omega)).trans aY
 obtain⟨aQ,gQ⟩:∃aQ,aQ=ak.set h.n (some (eO path false .aA .aA)):=⟨_,rfl⟩
 have ck:aC.storeCells ak h.n (0+0) [.str path]=some aQ:=by rw[gQ];exact dP ((dR h.n (by omega)).trans c1) rfl rfl
 have cm:aQ.n=ak.n:=by rw[gQ];simp
 have cP:∀d,d≠h.n->aQ.get d=ak.get d:=λd aj=>by rw[gQ];exact et aj rfl
 have ee:cC aQ p st1:=by rw[gQ];exact cC.zK a9 (by omega) ((dR h.n (by omega)).trans c1)
 have bW:=(cP aq.n (by omega)).trans aR
 have c3:aQ.get h.n=some (eO path false .aA .aA):=by rw[gQ];exact dF rfl
 have d3:=(cP (h.n+1) (by omega)).trans ((dR (h.n+1) (by omega)).trans d1)
 obtain⟨a3,ey,zO,ht⟩:=df.Cv (M-5) p st1 aQ ee
 rw[show M-5+5=M by omega] at ey
 obtain⟨k,ax⟩:∃k,k=(aI st1).1:=⟨_,rfl⟩
 obtain⟨dB,s3⟩:∃dB,dB=(aI st1).2:=⟨_,rfl⟩
 have D3:dg dB<=80001:=by have:=qw st1;rw[<-s3] at this;omega
 rw[<-ax] at ey
 rw[<-s3] at ht
 have cn:=zO.n
 have rz:∀d,d<aQ.n->d≠p->a3.get d=aQ.get d:=λd aj aU=>zO.get d aj aU
 have eu:=(rz aq.n (by omega) (by omega)).trans bW
 have c4:=(rz h.n (by omega) (by omega)).trans c3
 have d4:=(rz (h.n+1) (by omega) (by omega)).trans d3
 have dh:Ext h.n h a3:=⟨by omega,λd aj=>(rz d (by omega) (by omega)).trans ((cP d (by omega)).trans ((dR d (by omega)).trans (bw.get d aj)))⟩
 have co:=df.Cs (M-1) p dB a3 ht
 rw[show M-1+1=M by omega] at co
 have fw:oE 0 s=if dB.isSome=true/\k<=1 then if k=1 then some (⟨path,true,[],[]⟩,dB) else m4 0 path dB else none:=by rw[s3,ax,u9,u7];rfl
 have xc:∀g,Y M (.fn 25) [.bool false] g=.bp fI g:=λg=>by rw[show M=M-1+1 by omega];exact zz _ _
 have mt:∀g,Y M (.fn 25) [.bool true] g=.ret (.aL []) g:=λg=>by rw[show M=M-1+1 by omega];exact CD _ _
 have bad:∀{g:aa} {a b v w},Ext h.n h g->h.n+2<=g.n->g.get h.n=some (eO a b v w)->g.get (h.n+1)=some (zL 0)->gN 0 s=none->NZ h (gN 0 s) (.bp fI) ⟨[(2,.ptr h.n 0),(3,.ptr (h.n+1) 0)],[.call 21 [.ptr h.n 0,.ptr (h.n+1) 0]],.none,g⟩:=λ{g a b v w} he aM ai aj ad=>by
  rw[ad]
  exact⟨g,rfl,he,aM,rfl,⟨a,b,v,w,ai⟩,aj⟩
 subst h7
 subst zN
 by_cases cp:dB.isSome=true
 · have iO:(!dB.isNone)=true:=by cases hs:dB with|none=>rw[hs] at cp;cases cp|some _=>rfl
   rw[iO] at co
   by_cases rA:k<=1
   · rw[if_pos ⟨cp,rA⟩] at fw
     have nL:Y M (.fn 25) [.bool (dq (Int.ofNat k) (Int.ofNat 1))] a3=.ret (.aL []) a3:=by rw[iE rA];exact mt a3
     by_cases bx:k=1
     · rw[if_pos bx] at fw
       obtain⟨b5,nO⟩:∃b5,b5=a3.set h.n (some (eO path true .aA .aA)):=⟨_,rfl⟩
       have e2:aC.storeCells a3 h.n (0+1) [.bool (ba (Int.ofNat k) (Int.ofNat 1))]=some b5:=by rw[nO,nv bx];exact dP c4 rfl rfl
       have ej:b5.n=a3.n:=by rw[nO];simp
       have jV:∀d,d≠h.n->b5.get d=a3.get d:=λd aj=>by rw[nO];exact et aj rfl
       have ho:b5.get h.n=some (eO path true .aA .aA):=by rw[nO];exact dF rfl
       have rn:=(jV aq.n (by omega)).trans eu
       have d7:=(jV (h.n+1) (by omega)).trans d4
       have uY:cC b5 p dB:=by rw[nO];exact cC.zK ht (by omega) c4
       have dz:Ext h.n h b5:=by rw[nO];exact dh.fP (Nat.le_refl _)
       have ce:=df.MN (M-2) p dB b5 uY
       rw[show M-2+2=M by omega] at ce
       have nP:oy ⟨path,true,[],[]⟩:=⟨by show path.length<=_;omega,by simp,by simp,λe he=>(by cases he),λe he=>(by cases he)⟩
       cases hl:jg dB with
       |false=>
        rw[hl] at ce
        exact rv (Y M) s h ⟨p,aq,nc,p,ar (eB rfl) rfl,_,ak,ek,aQ,ck,p,ar bW rfl,_,a3,ey,p,ar eu rfl,_,a3,co,rfl,.inl ⟨a3,nL,b5,e2,true,ar ho rfl,λ_=>⟨p,ar rn rfl,false,b5,ce,nofun,λ_=>.inr ⟨fI,b5,xc b5,bad dz (by omega) ho d7 (by unfold gN;rw[fw];simp[hl])⟩⟩,nofun⟩⟩
       |true=>
        rw[hl] at ce
        obtain⟨b1,j5,j6⟩:=Ng (M-1) (x:=⟨path,true,[],[]⟩) (vv:=.aA) (vt:=.aA) (by omega) (Nat.le_refl b5.n) ⟨.inl ⟨rfl,rfl⟩,.inl ⟨rfl,rfl⟩⟩ nP
        rw[show M-1+1=M by omega] at j5
        have acU:=j6.n
        have kP:=(j6.get h.n (by omega)).trans ho
        have d8:=(j6.get (h.n+1) (by omega)).trans d7
        have dX:Ext h.n h b1:=dz.trans (Nat.le_refl _) (j6.le (by omega))
        cases iL:ik ⟨path,true,[],[]⟩ with
        |false=>
         rw[iL] at j5
         exact rv (Y M) s h ⟨p,aq,nc,p,ar (eB rfl) rfl,_,ak,ek,aQ,ck,p,ar bW rfl,_,a3,ey,p,ar eu rfl,_,a3,co,rfl,.inl ⟨a3,nL,b5,e2,true,ar ho rfl,λ_=>⟨p,ar rn rfl,true,b5,ce,λ_=>⟨_,_,_,_,ie ho rfl,false,b1,j5,.inr ⟨fI,b1,xc b1,bad dX (by omega) kP d8 (by unfold gN;rw[fw];simp[hl,iL])⟩⟩,nofun⟩,nofun⟩⟩
        |true=>
         rw[iL] at j5
         refine rv (Y M) s h ⟨p,aq,nc,p,ar (eB rfl) rfl,_,ak,ek,aQ,ck,p,ar bW rfl,_,a3,ey,p,ar eu rfl,_,a3,co,rfl,.inl ⟨a3,nL,b5,e2,true,ar ho rfl,λ_=>⟨p,ar rn rfl,true,b5,ce,λ_=>⟨_,_,_,_,ie ho rfl,true,b1,j5,.inl ⟨b1,mt b1,_,_,_,_,ie kP rfl,rfl,rfl,_,dP kP rfl rfl,_,dP (et (by simp) d8) rfl rfl,?_⟩⟩,nofun⟩,nofun⟩⟩
         have pS:gN 0 s=some ⟨path,true,[],[]⟩:=by unfold gN;rw[fw];simp[hl,iL]
         rw[pS]
         exact⟨_,rfl,Ext.fP (by simp) (dX.fP (Nat.le_refl _)),by simp;omega,rfl,.aA,.aA,λ_=>False,et (by simp) (dF rfl),dF rfl,.inl ⟨rfl,rfl⟩,.inl ⟨rfl,rfl⟩,nP,λ_ hf=>hf.elim⟩
     · rw[if_neg bx] at fw
       obtain⟨b5,nO⟩:∃b5,b5=a3.set h.n (some (eO path false .aA .aA)):=⟨_,rfl⟩
       have e2:aC.storeCells a3 h.n (0+1) [.bool (ba (Int.ofNat k) (Int.ofNat 1))]=some b5:=by rw[nO,jX bx];exact dP c4 rfl rfl
       have ej:b5.n=a3.n:=by rw[nO];simp
       have jV:∀d,d≠h.n->b5.get d=a3.get d:=λd aj=>by rw[nO];exact et aj rfl
       have ho:b5.get h.n=some (eO path false .aA .aA):=by rw[nO];exact dF rfl
       have rn:=(jV aq.n (by omega)).trans eu
       have d7:=(jV (h.n+1) (by omega)).trans d4
       have uY:cC b5 p dB:=by rw[nO];exact cC.zK ht (by omega) c4
       have dz:Ext h.n h b5:=by rw[nO];exact dh.fP (Nat.le_refl _)
       have gr:=NI (m:=M-1) (p:=p) (q:=aq.n) (by omega) (by omega) (by omega) uY ⟨0,rn⟩ (by omega)
       rw[show M-1+1=M by omega] at gr
       cases aJ:g9 0 dB with
       |none=>
        rw[aJ] at gr
        obtain⟨b1,c,f⟩:=gr
        have f0:=f.n
        exact rv (Y M) s h ⟨p,aq,nc,p,ar (eB rfl) rfl,_,ak,ek,aQ,ck,p,ar bW rfl,_,a3,ey,p,ar eu rfl,_,a3,co,rfl,.inl ⟨a3,nL,b5,e2,false,ar ho rfl,nofun,λ_=>.inr ⟨fI,b1,c,bad ⟨by omega,λd aj=>(f.get d (by omega) (by omega) (by omega)).trans (dz.get d aj)⟩ (by omega) ((f.get h.n (by omega) (by omega) (by omega)).trans ho) ((f.get (h.n+1) (by omega) (by omega) (by omega)).trans d7) (by unfold gN;rw[fw];unfold m4;rw[aJ];rfl)⟩⟩⟩
       |some y=>
       obtain⟨qt,bK⟩:=y
       rw[aJ] at gr
       obtain⟨v1,b1,s4,kP,f8,pq,m3,bR,iP⟩:=gr
       have fC:=f8.n
       have om:=(f8.get h.n (by omega) (by omega) (by omega)).trans ho
       have d8:=(f8.get (h.n+1) (by omega) (by omega) (by omega)).trans d7
       obtain⟨dk,lI⟩:∃dk,dk=b1.set h.n (some (eO path false v1 .aA)):=⟨_,rfl⟩
       have GS:=bR.cell
       have zP:eP (0+2) [v1] [.str path,.bool false,.aA,.aA]=some [.str path,.bool false,v1,.aA]:=by rcases bR with⟨rfl,_⟩|⟨_,_,_,rfl,_⟩<;>rfl
       have lJ:aC.storeCells b1 h.n (0+2) [v1]=some dk:=by rw[lI];exact dP om rfl zP
       have fZ:dk.n=b1.n:=by rw[lI];simp
       have g5:∀d,d≠h.n->dk.get d=b1.get d:=λd aj=>by rw[lI];exact et aj rfl
       have u_:dk.get h.n=some (eO path false v1 .aA):=by rw[lI];exact dF rfl
       have d9:=(g5 (h.n+1) (by omega)).trans d8
       obtain⟨l2,m3⟩:=m3
       have aaA:=(g5 aq.n (by omega)).trans m3
       have M3:cC dk p qt:=by rw[lI];exact cC.zK pq (by omega) om
       have fb:Ext h.n h dk:=⟨by omega,λd aj=>(g5 d (by omega)).trans ((f8.get d (by omega) (by omega) (by omega)).trans (dz.get d aj))⟩
       have cl:=CO aJ
       have aaB:dg qt<=80001:=by have:=cl.1;simp only at this;omega
       have uZ:=NI (m:=M-1) (p:=p) (q:=aq.n) (by omega) (by omega) (by omega) M3 ⟨l2,aaA⟩ (by omega)
       rw[show M-1+1=M by omega] at uZ
       cases nQ:g9 0 qt with
       |none=>
        rw[nQ] at uZ
        obtain⟨gg,c,f⟩:=uZ
        have f0:=f.n
        exact rv (Y M) s h ⟨p,aq,nc,p,ar (eB rfl) rfl,_,ak,ek,aQ,ck,p,ar bW rfl,_,a3,ey,p,ar eu rfl,_,a3,co,rfl,.inl ⟨a3,nL,b5,e2,false,ar ho rfl,nofun,λ_=>.inl ⟨v1,b1,kP,bR.cell,dk,lJ,.inr ⟨fI,gg,c,bad ⟨by omega,λd aj=>(f.get d (by omega) (by omega) (by omega)).trans (fb.get d aj)⟩ (by omega) ((f.get h.n (by omega) (by omega) (by omega)).trans u_) ((f.get (h.n+1) (by omega) (by omega) (by omega)).trans d9) (by unfold gN;rw[fw];unfold m4;rw[aJ];simp only[Option.bind_some,nQ];rfl)⟩⟩⟩⟩
       |some eK=>
       obtain⟨rB,bQ⟩:=eK
       rw[nQ] at uZ
       obtain⟨v2,gg,s5,GU,f10,M4,GV,b3,iQ⟩:=uZ
       have eI:=f10.n
       have ry:=(f10.get h.n (by omega) (by omega) (by omega)).trans u_
       have d10:=(f10.get (h.n+1) (by omega) (by omega) (by omega)).trans d9
       obtain⟨fv,zQ⟩:∃fv,fv=gg.set h.n (some (eO path false v1 v2)):=⟨_,rfl⟩
       have zR:eP (0+3) [v2] [.str path,.bool false,v1,.aA]=some [.str path,.bool false,v1,v2]:=by
        rcases bR with⟨rfl,_⟩|⟨_,_,_,rfl,_⟩<;>rcases b3 with⟨rfl,_⟩|⟨_,_,_,rfl,_⟩<;>rfl
       have GW:aC.storeCells gg h.n (0+3) [v2]=some fv:=by rw[zQ];exact dP ry rfl zR
       have iJ:fv.n=gg.n:=by rw[zQ];simp
       have zS:∀d,d≠h.n->fv.get d=gg.get d:=λd aj=>by rw[zQ];exact et aj rfl
       have CP:fv.get h.n=some (eO path false v1 v2):=by rw[zQ];exact dF rfl
       have d11:=(zS (h.n+1) (by omega)).trans d10
       obtain⟨aaC,GV⟩:=GV
       have GX:=(zS aq.n (by omega)).trans GV
       have M6:cC fv p rB:=by rw[zQ];exact cC.zK M4 (by omega) ry
       have N0:Ext h.n h fv:=⟨by omega,λd aj=>(zS d (by omega)).trans ((f10.get d (by omega) (by omega) (by omega)).trans (fb.get d aj))⟩
       have qD:l4 (λd=>s4 d\/s5 d) fv v1 bK:=bR.b0 λd aj=>⟨.inl aj,by have:=iP d aj;exact(zS d (by omega)).trans ((f10.get d (by omega) (by omega) (by omega)).trans (g5 d (by omega)))⟩
       have zT:l4 (λd=>s4 d\/s5 d) fv v2 bQ:=b3.b0 λd aj=>⟨.inr aj,by have:=iQ d aj;exact zS d (by omega)⟩
       have l5:∀d,s4 d\/s5 d->h.n+2<=d/\d<fv.n:=λd aj=>by
        rcases aj with aj|aj
        · have:=iP d aj;omega
        · have:=iQ d aj;omega
       have nP:oy ⟨path,false,bK,bQ⟩:=NY (by omega) (by omega) aJ nQ
       have va:oE 0 s=some (⟨path,false,bK,bQ⟩,rB):=by rw[fw];unfold m4;rw[aJ];simp only[Option.bind_some,nQ];rfl
       have ce:=df.MN (M-2) p rB fv M6
       rw[show M-2+2=M by omega] at ce
       cases hl:jg rB with
       |false=>
        rw[hl] at ce
        exact rv (Y M) s h ⟨p,aq,nc,p,ar (eB rfl) rfl,_,ak,ek,aQ,ck,p,ar bW rfl,_,a3,ey,p,ar eu rfl,_,a3,co,rfl,.inl ⟨a3,nL,b5,e2,false,ar ho rfl,nofun,λ_=>.inl ⟨v1,b1,kP,bR.cell,dk,lJ,.inl ⟨v2,gg,GU,b3.cell,fv,GW,p,ar GX rfl,false,fv,ce,nofun,λ_=>.inr ⟨fI,fv,xc fv,bad N0 (by omega) CP d11 (by unfold gN;rw[va];simp[hl])⟩⟩⟩⟩⟩
       |true=>
        rw[hl] at ce
        obtain⟨hK,j5,j6⟩:=Ng (M-1) (x:=⟨path,false,bK,bQ⟩) (vv:=v1) (vt:=v2) (by omega) (Nat.le_refl fv.n) ⟨qD.at λd aj=>(l5 d aj).2,zT.at λd aj=>(l5 d aj).2⟩ nP
        rw[show M-1+1=M by omega] at j5
        have acV:=j6.n
        have GY:=(j6.get h.n (by omega)).trans CP
        have d12:=(j6.get (h.n+1) (by omega)).trans d11
        have N1:Ext h.n h hK:=N0.trans (Nat.le_refl _) (j6.le (by omega))
        cases iL:ik ⟨path,false,bK,bQ⟩ with
        |false=>
         rw[iL] at j5
         exact rv (Y M) s h ⟨p,aq,nc,p,ar (eB rfl) rfl,_,ak,ek,aQ,ck,p,ar bW rfl,_,a3,ey,p,ar eu rfl,_,a3,co,rfl,.inl ⟨a3,nL,b5,e2,false,ar ho rfl,nofun,λ_=>.inl ⟨v1,b1,kP,bR.cell,dk,lJ,.inl ⟨v2,gg,GU,b3.cell,fv,GW,p,ar GX rfl,true,fv,ce,λ_=>⟨_,_,_,_,ie CP rfl,false,hK,j5,.inr ⟨fI,hK,xc hK,bad N1 (by omega) GY d12 (by unfold gN;rw[va];simp[hl,iL])⟩⟩,nofun⟩⟩⟩⟩
        |true=>
         rw[iL] at j5
         have GZ:eP 0 [.str path,.bool false,v1,v2] [.str path,.bool false,v1,v2]=some [.str path,.bool false,v1,v2]:=by
          rcases bR with⟨rfl,_⟩|⟨_,_,_,rfl,_⟩<;>rcases b3 with⟨rfl,_⟩|⟨_,_,_,rfl,_⟩<;>rfl
         refine rv (Y M) s h ⟨p,aq,nc,p,ar (eB rfl) rfl,_,ak,ek,aQ,ck,p,ar bW rfl,_,a3,ey,p,ar eu rfl,_,a3,co,rfl,.inl ⟨a3,nL,b5,e2,false,ar ho rfl,nofun,λ_=>.inl ⟨v1,b1,kP,bR.cell,dk,lJ,.inl ⟨v2,gg,GU,b3.cell,fv,GW,p,ar GX rfl,true,fv,ce,λ_=>⟨_,_,_,_,ie CP rfl,true,hK,j5,.inl ⟨hK,mt hK,_,_,_,_,ie GY rfl,bR.cell,b3.cell,_,dP GY rfl GZ,_,dP (et (by simp) d12) rfl rfl,?_⟩⟩,nofun⟩⟩⟩⟩
         have pS:gN 0 s=some ⟨path,false,bK,bQ⟩:=by unfold gN;rw[va];simp[hl,iL]
         rw[pS]
         have ml:∀d,h.n+2<=d->d<fv.n->∀dH dR,((hK.set h.n dH).set (h.n+1) dR).get d=fv.get d:=λd aj aD dH dR=>et (by omega) (et (by omega) (j6.get d aD))
         exact⟨_,rfl,Ext.fP (by simp) (N1.fP (Nat.le_refl _)),by simp;omega,rfl,v1,v2,λd=>s4 d\/s5 d,et (by simp) (dF rfl),dF rfl,qD.b0 λd aj=>⟨aj,ml d (l5 d aj).1 (l5 d aj).2 _ _⟩,zT.b0 λd aj=>⟨aj,ml d (l5 d aj).1 (l5 d aj).2 _ _⟩,nP,λd aj=>by have:=l5 d aj;simp;omega⟩
   · rw[if_neg (λah=>rA ah.2)] at fw
     refine rv (Y M) s h ⟨p,aq,nc,p,ar (eB rfl) rfl,_,ak,ek,aQ,ck,p,ar bW rfl,_,a3,ey,p,ar eu rfl,_,a3,co,rfl,.inr ⟨fI,a3,?_,bad dh (by omega) c4 d4 (by unfold gN;rw[fw];rfl)⟩⟩
     rw[iF rA];exact xc a3
 · have iO:(!dB.isNone)=false:=by cases hs:dB with|none=>rfl|some _=>rw[hs] at cp;exact absurd rfl cp
   rw[iO] at co
   rw[if_neg (λah=>cp ah.1)] at fw
   exact aay (Y M) s h ⟨p,aq,nc,p,ar (eB rfl) rfl,_,ak,ek,aQ,ck,p,ar bW rfl,_,a3,ey,p,ar eu rfl,_,a3,co,rfl,fI,a3,xc a3,bad dh (by omega) c4 d4 (by unfold gN;rw[fw];rfl)⟩
end Go.Proofs.ew
namespace Go.Proofs.ew
open Go aC Go.Proofs dD Go.Proofs.cT
open Go.Proofs.df (hN cC mu jg)
open Go.Proofs.eN (e5 cf aI ch fm)
set_option maxRecDepth 100000
set_option maxHeartbeats 1000000
theorem N2{Γ:Env}{y:aa}{a b:Nat}{cs:List J}{w:J}(G0:aC.loadCells y a 0 4=some cs)(aaD:av y b 0=some w)(ae:fV 2 Γ=some (.ptr a 0):=by kernel_rfl)(aB:fV 3 Γ=some (.ptr b 0):=by kernel_rfl):kE Tryz.prog (dt Tryz.f9) Tryz.f9 Γ y=some (.aL [.agg cs,w]):=by
 have e:(Tryz.f9).results.toList=[.cell 2 24,.cell 3 25]:=by kernel_rfl
 have aW:Nat.testBit (dt Tryz.f9) 2=true:=by kernel_rfl
 have ds:Nat.testBit (dt Tryz.f9) 3=true:=by kernel_rfl
 have ak:m7 Tryz.prog 24=some true:=by kernel_rfl
 have aQ:m7 Tryz.prog 25=some false:=by kernel_rfl
 have fN:dQ Tryz.prog 24=some 4:=by kernel_rfl
 have lP:dQ Tryz.prog 25=some 1:=by kernel_rfl
 unfold kE
 rw[e]
 simp only[mC,n8,aW,ds,ae,aB,ak,aQ,fN,lP,G0,aaD]
def zU(h:aa)(o:Option jh)(x:ao):Prop:=match o with
 |none=>∃g,x=.ret (.aL [.agg [.str [],.bool false,.aA,.aA],.int .i64 (Int.ofNat 4)]) g/\Ext h.n h g
 |some s=>∃g vv vt,x=.ret (.aL [.agg [.str s.path,.bool s.hp,vv,vt],.int .i64 (Int.ofNat 0)]) g/\Ext h.n h g/\ox g.n g vv vt s/\oy s
theorem aaE(M:Nat)(g6:480<=M)(s:bc)(h:aa)(aD:s.length<=80000):zU h (gN 0 s) (Y (M+1) (.fn 9) [.str s] h):=by
 obtain⟨e,st,run,aS⟩:=aaz M g6 s h aD
 cases aj:gN 0 s with
 |none=>
  rw[aj] at aS
  obtain⟨g,rfl,ad,aM,rfl,⟨p,b,v,w,ai⟩,vJ⟩:=aS
  have aaF:eP 0 [.str [],.bool false,.aA,.aA] [.str p,.bool b,v,w]=some [.str [],.bool false,.aA,.aA]:=rfl
  have G1:=aax (Y M) h.n (h.n+1) g _ _ (dP ai rfl aaF) (dP (et (by omega) vJ) rfl rfl)
  exact⟨_,Km (intr:=cj) (n:=M) (args:=[.str s]) (gargs:=[.ptr h.n 0,.ptr (h.n+1) 0]) Tryz.func9 (by kernel_rfl) (by kernel_rfl) (by kernel_rfl) run (.inr (.inr ⟨_,rfl⟩)) Tryz.func21 (by kernel_rfl) (by kernel_rfl) G1 (.inr rfl) (w:=.aL []) (by kernel_rfl) rfl (N2 (ie (et (by omega) (dF rfl)) rfl) (ar (dF rfl) rfl)),Ext.fP (by omega) (ad.fP (Nat.le_refl _))⟩
 |some x=>
  rw[aj] at aS
  obtain⟨g,rfl,ad,aM,rfl,vv,vt,F,ai,vJ,bR,b3,nP,fh⟩:=aS
  have G1:=pW (Y M) h.n (h.n+1) g
  exact⟨_,vv,vt,Km (intr:=cj) (n:=M) (args:=[.str s]) (gargs:=[.ptr h.n 0,.ptr (h.n+1) 0]) Tryz.func9 (by kernel_rfl) (by kernel_rfl) (by kernel_rfl) run (.inl rfl) Tryz.func21 (by kernel_rfl) (by kernel_rfl) G1 (.inr rfl) (w:=.aL []) (by kernel_rfl) rfl (N2 (ie ai rfl) (ar vJ rfl)),ad,⟨bR.at fh,b3.at fh⟩,nP⟩
end Go.Proofs.ew
