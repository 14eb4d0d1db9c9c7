/-
  PROVED HERE: contracts of functions (Dv). No condition beside each statement's own.
-/
import Derived.Test.YtfooahfebojldaaGreatDoorDk
import Derived.Test.YtfooahfebojldaaGreatDoorSxb
import Derived.Test.YtfooahfebojldaaGreatDoorTx
set_option linter.unusedVariables false
set_option linter.unusedSimpArgs false
namespace Go.Proofs.cN
open Go ay Go.Proofs cS Go.Proofs.cf
open Go.Proofs.cW (dC cg lM)
open Go.Proofs.ed (cM cv a_ cH ff)
set_option maxRecDepth 100000
set_option maxHeartbeats 1000000
theorem abe{m:Nat}(hm:270<=m){p q a b base:Nat}{h0 h:aa}{v:J}{F:Nat->Prop}{aV:List (aL×Nat)}{s:cv×List dQ}(ki:p<q)(kI:q<h0.n)(a5:h0.n<=a/\a<base)(ag:h0.n<=b/\b<base)(oe:a≠b)(w:qa p q a b base h0 v F aV s h)(aw:s.2.length<=900000)(wZ:ee s.1<90000):
  match m7 (dd 0 61) s with
  |none=>∃g,Y (m+1) (.fn 54) [.ptr a 0,.ptr b 0] h=.bk fh g/\Fr p q h0.n h0 g
  |some a4=>∃g v' hy oh,Y (m+1) (.fn 54) [.ptr a 0,.ptr b 0] h=.ret (.aD []) g/\qa p q a b base h0 v' hy oh a4 g:=by
 have bN:=w.bs
 obtain⟨q7,iL⟩:=w.je
 have snd:J.sound v=true:=f_.sound w.rw
 obtain⟨al,dn⟩:∃al,al=h.set q (some (kW p 0)):=⟨_,rfl⟩
 have s1:ay.storeCells h q (0+1) [.int .i64 (Int.ofNat 0)]=some al:=by rw[dn];exact dY iL rfl rfl
 have aR:al.get q=some (kW p 0):=by rw[dn];exact dN rfl
 have aQ:al.n=h.n:=by rw[dn];simp
 have cT:∀d,d≠q->al.get d=h.get d:=λd aq=>by rw[dn];exact eh aq rfl
 have ds:=(cT a (by omega)).trans w.ac
 have bh:=(cT b (by omega)).trans w.iy
 obtain⟨g,hb,jC,rt⟩:=cW.CR (m-6) p s.1 al (by rw[dn];exact cg.u0 w.rd ki)
 rw[show m-6+6=m by omega] at hb
 have bw:=jC.n
 have eu:=(jC.get a (by omega) (by omega)).trans ds
 have bf:=(jC.get b (by omega) (by omega)).trans bh
 have aT:=(jC.get q (by omega) (by omega)).trans aR
 have aba:=wW s.1
 have fl:=C_ 61 m (by omega) p q (g.room 8) (cH s.1).2 0 ki (by simp;omega) (cg.zz rt) aT (by omega) (by omega) (by omega)
 have dE:∀d,d<h.n->d≠p->d≠q->g.get d=h.get d:=λd aq aY a1=>(jC.get d (by omega) aY).trans (cT d a1)
 unfold m7
 cases ad:dd 0 61 ((cH s.1).2,0) with
 |none=>
  rw[ad] at fl
  obtain⟨ak,e,f⟩:=fl
  refine⟨ak,Om m a b h (R:=λx=>x=.bk fh ak) ⟨q,aB w.ac rfl,al,s1,q,aB ds rfl,p,aB aR rfl,_,g,hb,v,aB (dX bf) rfl,q,aB (dX eu) rfl,.inr ⟨fh,ak,e,snd,rfl⟩⟩,?_⟩
  exact w.b0.trans w.b0.n ⟨by have:=f.n;simp at this;omega,λd lO aY a1=>(f.get d (by simp;omega) aY a1).trans (dE d lO aY a1)⟩
 |some x=>
  obtain⟨t,st,n⟩:=x
  rw[ad] at fl
  obtain⟨u,ak,G,e,f,oV,bP,HC,gC⟩:=fl
  have fn:=f.n
  simp only[aa.hj] at fn gC
  obtain⟨aS,hh⟩:∃aS,aS=ak.set (g.n+5) (some (.cells [.str (cH s.1).1,.ptr u 0] 53 .own 0 0)):=⟨_,rfl⟩
  have fD:∀d,d≠g.n+5->aS.get d=ak.get d:=λd aq=>by rw[hh,aa.bH,if_neg aq]
  have cq:=w.later ki kI a5 ag (g:=aS) (st:=st) (by rw[hh];exact cg.u0 oV (by omega)) ⟨n,(fD q (by omega)).trans bP⟩ (by rw[hh];simp;omega) λd lO aY a1=>(fD d (by omega)).trans ((f.get d (by simp;omega) aY a1).trans (dE d lO aY a1))
  have HD:hx G aS t (.ptr u 0):=hx.bM (λd aq=>⟨aq,fD d (by have:=gC d aq;omega)⟩) _ _ HC
  have cl:aS.n=ak.n:=by rw[hh];simp
  obtain⟨bb,v',rfl,gg,gB,jm⟩:=cq.add ki kI a5 ag oe (x:=(cH s.1).1) HD (src:=.slice (g.n+5) 0 1 (.exact 1)) (λd lO=>⟨by have:=gC d lO;omega,by have:=gC d lO;omega,f_.low w.rw (.inr (by have:=gC d lO;omega))⟩) (by
   have:ay.loadCells aS (g.n+5) 0 (1*2)=some [.str (cH s.1).1,.ptr u 0]:=by rw[hh];exact hq (dN rfl) rfl
   simp only[hP,this]) aw
  have mv:=cq.iy
  subst hh
  exact⟨_,_,_,_,Om m a b h (R:=λx=>x=.ret (.aD []) _) ⟨q,aB w.ac rfl,al,s1,q,aB ds rfl,p,aB aR rfl,_,g,hb,v,aB (dX bf) rfl,q,aB (dX eu) rfl,.inl ⟨u,ak,e,_,_,bb,gg,_,dY gB rfl rfl,snd,aB mv rfl,rfl⟩⟩,jm⟩
def w2(N:Nat)(s:cv×List dQ):Prop:=ee s.1+s.2.length<=N/\∀e∈s.2,∃t,e.2=some t/\sz t<=60/\hV t<=60
theorem ON{aW j N:Nat}{s a4:cv×List dQ}(h:w2 N s)(e:m7 (dd aW j) s=some a4):w2 N a4/\ee a4.1<ee s.1:=by
 unfold m7 at e
 cases ad:dd aW j ((cH s.1).2,0) with
 |none=>rw[ad] at e;cases e
 |some x=>
  obtain⟨t,st,n⟩:=x
  rw[ad] at e
  obtain rfl:(st,s.2++[((cH s.1).1,some t)])=a4:=by simpa using e
  obtain⟨bz,bA,c8,e1⟩:=Hz aW j _ _ _ ad
  simp only at bz c8 e1
  have:=wW s.1
  obtain⟨ab,ae⟩:=h
  refine⟨⟨?_,λe he=>?_⟩,by show ee st<_;omega⟩
  · show ee st+(s.2++[_]).length<=N
    rw[List.length_append];show ee st+(_+1)<=N;omega
  · rcases List.mem_append.1 he with he|he
    · exact ae e he
    · obtain rfl:e=((cH s.1).1,some t):=by simpa using he
      exact⟨t,rfl,by omega,by omega⟩
theorem OO{m:Nat}(hm:280<=m){p q:Nat}{h:aa}{st:cv}(ki:p<q)(a1:q<h.n)(ai:cg h p st)(HK:∃n,h.get q=some (kW p n))(wZ:ee st<90000):
  match lP 0 st with
  |none=>∃g,Y (m+1) (.fn 27) [.ptr q 0] h=.bk fh g/\Fr p q h.n h g
  |some (b2,l)=>∃v g F,Y (m+1) (.fn 27) [.ptr q 0] h=.ret v g/\Fr p q h.n h g/\cg g p b2/\(∃n,g.get q=some (kW p n))/\gR F g v l/\∀d,F d->h.n<=d/\d<g.n:=by
 obtain⟨al,dn⟩:∃al,al=(h.push (.cells [.ptr q 0] 59 .own 0 0)).push (.cells [.az] 22 .own 0 0):=⟨_,rfl⟩
 have aQ:al.n=h.n+2:=by rw[dn];simp
 have ds:al.get h.n=some (.cells [.ptr q 0] 59 .own 0 0):=by rw[dn];exact h6 (by simp) (dA rfl)
 have bh:al.get (h.n+1)=some (.cells [.az] 22 .own 0 0):=by rw[dn];exact dA rfl
 have cT:∀d,d<h.n->al.get d=h.get d:=λd aq=>by rw[dn];exact h6 (by simp;omega) (h6 aq rfl)
 obtain⟨q7,iL⟩:=HK
 have ba:cg al p st:=cg.sN ai (by omega) λd aq=>cT d (by omega)
 have aR:=(cT q a1).trans iL
 have df:qa p q h.n (h.n+1) (h.n+2) h .az (λ_=>False) [] (st,[]) al:=⟨ba,⟨q7,aR⟩,⟨by omega,λd aq _ _=>cT d aq⟩,ds,bh,by omega,.inl ⟨rfl,rfl⟩,rfl,λ_ hf=>hf.elim⟩
 have fw:=Hu (m-6) (σ:=cv×List dQ) (I:=λs g=>w2 89999 s/\∃v F aV,qa p q h.n (h.n+1) (h.n+2) h v F aV s g) (P:=λg=>Fr p q h.n h g) (rd:=λs=>s.1) (f:=m7 (dd 0 61)) (fnum:=54) (p:=p) (q:=q) (caps:=[.ptr h.n 0,.ptr (h.n+1) 0])
  (λs g af=>by obtain⟨_,v,F,aV,w⟩:=af;exact⟨w.rd,w.je⟩) (λs g af=>by obtain⟨_,v,F,aV,w⟩:=af;exact w.b0)
  (λs g af hs=>by
   obtain⟨gd,v,F,aV,w⟩:=af
   have od:0<ee s.1:=by cases a1:s.1 with|none=>rw[a1] at hs;cases hs|some l=>simp[ee]
   have fl:=abe (m:=m-2) (by omega) ki a1 (by omega) (by omega) (by omega) w (by have:=gd.1;omega) (by have:=gd.1;omega)
   rw[show m-2+1=m-6+5 by omega] at fl
   cases ad:m7 (dd 0 61) s with
   |none=>rw[ad] at fl;exact fl
   |some a4=>
    rw[ad] at fl
    obtain⟨ez,v',hy,oh,c1,cq⟩:=fl
    obtain⟨bz,bA⟩:=ON gd ad
    exact⟨ez,c1,⟨bz,v',hy,oh,cq⟩,bA⟩)
  (h:=al) (st:=st) (s0:=((a_ st).2,[])) ba ⟨q7,aR⟩ (by omega) rfl
  (λg x r=>⟨⟨by have:=uZ st;simp;omega,λe he=>by cases he⟩,.az,_,[],df.later ki a1 (by omega) (by omega) r ⟨q7,(x.get q (by omega) (by omega)).trans aR⟩ x.n λd aq aY _=>x.get d aq aY⟩)
 rw[show m-6+6=m by omega] at fw
 have h_:lP 0 st=eF (λs=>s.1.isSome) (m7 (dd 0 61)) (a_ st).1 ((a_ st).2,[]):=rfl
 rw[h_]
 cases ad:eF (λs=>s.1.isSome) (m7 (dd 0 61)) (a_ st).1 ((a_ st).2,[]) with
 |none=>
  rw[ad] at fw
  obtain⟨g,c,f⟩:=fw
  subst dn
  exact⟨g,Ol m q h (R:=λx=>x=.bk fh g) ⟨q,aB ds rfl,.inr ⟨fh,g,c,rfl⟩⟩,f⟩
 |some s=>
  rw[ad] at fw
  obtain⟨b2,l⟩:=s
  obtain⟨g,c,gd,v,F,aV,w⟩:=fw
  subst dn
  refine⟨v,g,λd=>F d\/∃n aG,v=.slice d 0 n aG,Ol m q h (R:=λx=>x=.ret v g) ⟨q,aB ds rfl,.inl ⟨g,c,v,aB w.iy rfl,rfl⟩⟩,w.b0,w.rd,w.je,?_,λd aq=>?_⟩
  · have hlen:aV.length=l.length:=jf.len w.es
    rcases w.rw with⟨rfl,aC⟩|⟨x,rfl,ae,av,aK,bU⟩
    · subst aC
      exact .inl ⟨rfl,List.eq_nil_of_length_eq_zero (by simpa using hlen.symm)⟩
    · refine .inr ⟨x,0,.aM 2,by rw[<-hlen],.inr ⟨_,_,rfl⟩,λi af=>?_,by omega,by simp⟩
      obtain⟨bz,bA⟩:=jf.nth w.es i af (by omega)
      refine⟨.ptr aV[i].2 0,?_,ha.bM (λd aq=>⟨.inl aq,rfl⟩) _ _ bA⟩
      have:=FE (off:=0+i*2) (rest:=[]) sP.len (by rw[List.append_nil];exact av) (i:=i) (by omega) (by omega)
      rw[this,bz]
  · rcases aq with aq|⟨n,aG,aq⟩
    · have:=w.hZ d aq;omega
    · rcases w.rw with⟨e,_⟩|⟨x,e,ae,av,aK,bU⟩
      · rw[e] at aq;cases aq
      · rw[e] at aq;injection aq with ab;omega
end Go.Proofs.cN
namespace Go.Proofs.cN
open Go ay Go.Proofs cS Go.Proofs.cf
open Go.Proofs.cW (dC cg lM jc)
open Go.Proofs.ed (cM cv a_ cH ff)
set_option maxRecDepth 100000
set_option maxHeartbeats 1000000
theorem pn(call:aO->List J->aa->ax)(a b:Nat)(h:aa):
  aN Tryz.prog Tryz.f21 none call [] (ar.mk [(0,.ptr a 0),(1,.ptr b 0)] [] .none h) (.nrm)
   (ar.mk [(0,.ptr a 0),(1,.ptr b 0)] [] .none h):=
 bI [0,1] (hs:=[.v (.bool !true),.b false]) (by kernel_rfl)<| .cons (by kernel_rfl:er Tryz.prog h BinOp.neq 20 (Operand.tmp 4) (Operand.const Value.nilIface) J.eO J.eO=some (J.bool !true))<| .cons (by kernel_rfl:(!true)=false)<| .nil
theorem abf(call:aO->List J->aa->ax)(a b:Nat)(h aX dg:aa)
  (H1:ay.storeCells h a 0 [.str [],.bool false,.az,.az]=some aX)
  (a7:ay.storeCells aX b 0 [.int .i64 (.ofNat 4)]=some dg):
  aN Tryz.prog Tryz.f21 none call [] (ar.mk [(0,.ptr a 0),(1,.ptr b 0)] [] (.act (.iface 58 (.agg []))) h) (.nrm)
   (ar.mk [(0,.ptr a 0),(1,.ptr b 0)] [] (.done (.iface 58 (.agg []))) dg):=
 bI [0,1] (hs:=[.v (.bool !false),.b true,.fS (.aD []) aX,.fS (.aD []) dg]) (by kernel_rfl)<| .cons (by kernel_rfl:er Tryz.prog h BinOp.neq 20 (Operand.tmp 4) (Operand.const Value.nilIface) (J.iface 58 (J.agg [])) J.eO=some (J.bool !false))<| .cons (by kernel_rfl:(!false)=true)<| .cons (⟨by kernel_rfl,H1,rfl⟩:some 4=some 4/\ay.storeCells h a 0 [J.str [],J.bool false,J.az,J.az]=some aX/\J.aD []=J.aD [])<| .cons (⟨by kernel_rfl,a7,rfl⟩:some 1=some 1/\ay.storeCells aX b 0 [J.int IntKind.i64 (Int.ofNat 4)]=some dg/\J.aD []=J.aD [])<| .nil
theorem rb(call:aO->List J->aa->ax)(s:List UInt8)(h:aa){Q:bK->ar->Prop}(H:∃aQ:Nat,∃al:aa,call (.fn 22) [.str s] (aa.push (aa.push h (.cells [.str [],.bool false,.az,.az] 24 .own 0 0)) (.cells [.int .i64 (.ofNat 0)] 25 .own 0 0))=.ret (.ptr aQ 0) al/\∃bw:Nat,aA (aa.push al (.cells [.ptr aQ 0,.int .i64 (.ofNat 0)] 63 .own 0 0)) al.n (0+0)=some (.ptr bw 0)/\∃s1:List UInt8,∃ak:aa,call (.fn 23) [.ptr bw 0] (aa.push al (.cells [.ptr aQ 0,.int .i64 (.ofNat 0)] 63 .own 0 0))=.ret (.str s1) ak/\∃aS:aa,ay.storeCells ak h.n (0+0) [.str s1]=some aS/\∃cl:Nat,aA aS al.n (0+0)=some (.ptr cl 0)/\∃cC:Nat,∃bb:aa,call (.fn 24) [.ptr cl 0] aS=.ret (.int .u64 (.ofNat cC)) bb/\∃c5:Nat,aA bb al.n (0+0)=some (.ptr c5 0)/\∃bh:Bool,∃ch:aa,call (.fn 26) [.ptr c5 0] bb=.ret (.bool bh) ch/\bh=true/\((∃cc:aa,call (.fn 25) [.bool (fE (.ofNat cC) (.ofNat 1))] ch=.ret (.aD []) cc/\∃bY:aa,ay.storeCells cc h.n (0+1) [.bool (de (.ofNat cC) (.ofNat 1))]=some bY/\∃bf:Bool,aA bY h.n (0+1)=some (.bool bf)/\(bf=true->∃dV:Nat,aA bY al.n (0+0)=some (.ptr dV 0)/\∃dM:Bool,∃cJ:aa,call (.fn 28) [.ptr dV 0] bY=.ret (.bool dM) cJ/\(dM=true->∃s2:List UInt8,∃jZ:Bool,∃v1:J,∃v2:J,ay.loadCells cJ h.n 0 4=some [.str s2,.bool jZ,v1,v2]/\∃oD:Bool,∃eA:aa,call (.fn 29) [.agg [.str s2,.bool jZ,v1,v2]] cJ=.ret (.bool oD) eA/\((∃gk:aa,call (.fn 25) [.bool oD] eA=.ret (.aD []) gk/\∃bV:List UInt8,∃j0:Bool,∃dr:J,∃v4:J,ay.loadCells gk h.n 0 4=some [.str bV,.bool j0,dr,v4]/\J.bF dr=true/\J.bF v4=true/\∃eU:aa,ay.storeCells gk h.n 0 [.str bV,.bool j0,dr,v4]=some eU/\∃ja:aa,ay.storeCells eU (aa.n (aa.push h (.cells [.str [],.bool false,.az,.az] 24 .own 0 0))) 0 [.int .i64 (.ofNat 0)]=some ja/\Q .ret (ar.mk [(2,.ptr h.n 0),(3,.ptr (aa.n (aa.push h (.cells [.str [],.bool false,.az,.az] 24 .own 0 0))) 0)] [bC.call 21 [.ptr h.n 0,.ptr (aa.n (aa.push h (.cells [.str [],.bool false,.az,.az] 24 .own 0 0))) 0]] .none ja))\/(∃gO:J,∃kA:aa,call (.fn 25) [.bool oD] eA=.bk gO kA/\Q (.bk gO) (ar.mk [(2,.ptr h.n 0),(3,.ptr (aa.n (aa.push h (.cells [.str [],.bool false,.az,.az] 24 .own 0 0))) 0)] [bC.call 21 [.ptr h.n 0,.ptr (aa.n (aa.push h (.cells [.str [],.bool false,.az,.az] 24 .own 0 0))) 0]] .none kA))))/\(dM=false->((∃jQ:aa,call (.fn 25) [.bool false] cJ=.ret (.aD []) jQ/\∃cK:List UInt8,∃qZ:Bool,∃v6:J,∃mW:J,ay.loadCells jQ h.n 0 4=some [.str cK,.bool qZ,v6,mW]/\J.bF v6=true/\J.bF mW=true/\∃m5:aa,ay.storeCells jQ h.n 0 [.str cK,.bool qZ,v6,mW]=some m5/\∃nV:aa,ay.storeCells m5 (aa.n (aa.push h (.cells [.str [],.bool false,.az,.az] 24 .own 0 0))) 0 [.int .i64 (.ofNat 0)]=some nV/\Q .ret (ar.mk [(2,.ptr h.n 0),(3,.ptr (aa.n (aa.push h (.cells [.str [],.bool false,.az,.az] 24 .own 0 0))) 0)] [bC.call 21 [.ptr h.n 0,.ptr (aa.n (aa.push h (.cells [.str [],.bool false,.az,.az] 24 .own 0 0))) 0]] .none nV))\/(∃lI:J,∃m6:aa,call (.fn 25) [.bool false] cJ=.bk lI m6/\Q (.bk lI) (ar.mk [(2,.ptr h.n 0),(3,.ptr (aa.n (aa.push h (.cells [.str [],.bool false,.az,.az] 24 .own 0 0))) 0)] [bC.call 21 [.ptr h.n 0,.ptr (aa.n (aa.push h (.cells [.str [],.bool false,.az,.az] 24 .own 0 0))) 0]] .none m6)))))/\(bf=false->((∃pY:J,∃sQ:aa,call (.fn 27) [.ptr al.n 0] bY=.ret pY sQ/\J.bF pY=true/\∃w3:aa,ay.storeCells sQ h.n (0+2) [pY]=some w3/\((∃v10:J,∃w4:aa,call (.fn 27) [.ptr al.n 0] w3=.ret v10 w4/\J.bF v10=true/\∃re:aa,ay.storeCells w4 h.n (0+3) [v10]=some re/\∃fo:Nat,aA re al.n (0+0)=some (.ptr fo 0)/\∃nN:Bool,∃nZ:aa,call (.fn 28) [.ptr fo 0] re=.ret (.bool nN) nZ/\(nN=true->∃cY:List UInt8,∃zH:Bool,∃v11:J,∃u2:J,ay.loadCells nZ h.n 0 4=some [.str cY,.bool zH,v11,u2]/\∃qb:Bool,∃u3:aa,call (.fn 29) [.agg [.str cY,.bool zH,v11,u2]] nZ=.ret (.bool qb) u3/\((∃w5:aa,call (.fn 25) [.bool qb] u3=.ret (.aD []) w5/\∃dt:List UInt8,∃zI:Bool,∃u4:J,∃u5:J,ay.loadCells w5 h.n 0 4=some [.str dt,.bool zI,u4,u5]/\J.bF u4=true/\J.bF u5=true/\∃w6:aa,ay.storeCells w5 h.n 0 [.str dt,.bool zI,u4,u5]=some w6/\∃zJ:aa,ay.storeCells w6 (aa.n (aa.push h (.cells [.str [],.bool false,.az,.az] 24 .own 0 0))) 0 [.int .i64 (.ofNat 0)]=some zJ/\Q .ret (ar.mk [(2,.ptr h.n 0),(3,.ptr (aa.n (aa.push h (.cells [.str [],.bool false,.az,.az] 24 .own 0 0))) 0)] [bC.call 21 [.ptr h.n 0,.ptr (aa.n (aa.push h (.cells [.str [],.bool false,.az,.az] 24 .own 0 0))) 0]] .none zJ))\/(∃zK:J,∃zL:aa,call (.fn 25) [.bool qb] u3=.bk zK zL/\Q (.bk zK) (ar.mk [(2,.ptr h.n 0),(3,.ptr (aa.n (aa.push h (.cells [.str [],.bool false,.az,.az] 24 .own 0 0))) 0)] [bC.call 21 [.ptr h.n 0,.ptr (aa.n (aa.push h (.cells [.str [],.bool false,.az,.az] 24 .own 0 0))) 0]] .none zL))))/\(nN=false->((∃rf:aa,call (.fn 25) [.bool false] nZ=.ret (.aD []) rf/\∃ev:List UInt8,∃zM:Bool,∃w7:J,∃w8:J,ay.loadCells rf h.n 0 4=some [.str ev,.bool zM,w7,w8]/\J.bF w7=true/\J.bF w8=true/\∃rh:aa,ay.storeCells rf h.n 0 [.str ev,.bool zM,w7,w8]=some rh/\∃w9:aa,ay.storeCells rh (aa.n (aa.push h (.cells [.str [],.bool false,.az,.az] 24 .own 0 0))) 0 [.int .i64 (.ofNat 0)]=some w9/\Q .ret (ar.mk [(2,.ptr h.n 0),(3,.ptr (aa.n (aa.push h (.cells [.str [],.bool false,.az,.az] 24 .own 0 0))) 0)] [bC.call 21 [.ptr h.n 0,.ptr (aa.n (aa.push h (.cells [.str [],.bool false,.az,.az] 24 .own 0 0))) 0]] .none w9))\/(∃zN:J,∃zO:aa,call (.fn 25) [.bool false] nZ=.bk zN zO/\Q (.bk zN) (ar.mk [(2,.ptr h.n 0),(3,.ptr (aa.n (aa.push h (.cells [.str [],.bool false,.az,.az] 24 .own 0 0))) 0)] [bC.call 21 [.ptr h.n 0,.ptr (aa.n (aa.push h (.cells [.str [],.bool false,.az,.az] 24 .own 0 0))) 0]] .none zO)))))\/(∃zP:J,∃w_:aa,call (.fn 27) [.ptr al.n 0] w3=.bk zP w_/\Q (.bk zP) (ar.mk [(2,.ptr h.n 0),(3,.ptr (aa.n (aa.push h (.cells [.str [],.bool false,.az,.az] 24 .own 0 0))) 0)] [bC.call 21 [.ptr h.n 0,.ptr (aa.n (aa.push h (.cells [.str [],.bool false,.az,.az] 24 .own 0 0))) 0]] .none w_))))\/(∃v20:J,∃zQ:aa,call (.fn 27) [.ptr al.n 0] bY=.bk v20 zQ/\Q (.bk v20) (ar.mk [(2,.ptr h.n 0),(3,.ptr (aa.n (aa.push h (.cells [.str [],.bool false,.az,.az] 24 .own 0 0))) 0)] [bC.call 21 [.ptr h.n 0,.ptr (aa.n (aa.push h (.cells [.str [],.bool false,.az,.az] 24 .own 0 0))) 0]] .none zQ)))))\/(∃zR:J,∃OP:aa,call (.fn 25) [.bool (fE (.ofNat cC) (.ofNat 1))] ch=.bk zR OP/\Q (.bk zR) (ar.mk [(2,.ptr h.n 0),(3,.ptr (aa.n (aa.push h (.cells [.str [],.bool false,.az,.az] 24 .own 0 0))) 0)] [bC.call 21 [.ptr h.n 0,.ptr (aa.n (aa.push h (.cells [.str [],.bool false,.az,.az] 24 .own 0 0))) 0]] .none OP)))):
  bB Tryz.prog Tryz.f9 call [] ⟨[(0,.str s)],[],.none,h⟩ Q:=
 gN [(1028,.t),(1029,.t),(31,.e none .o),(39,.e none .o),(42,.e none .o),(53,.e none .o)] [2,3] [(0,.v (.str s))] rfl (Eq.mp (by kernel_rfl) H)
theorem abg(call:aO->List J->aa->ax)(s:List UInt8)(h:aa){Q:bK->ar->Prop}(H:∃aQ:Nat,∃al:aa,call (.fn 22) [.str s] (aa.push (aa.push h (.cells [.str [],.bool false,.az,.az] 24 .own 0 0)) (.cells [.int .i64 (.ofNat 0)] 25 .own 0 0))=.ret (.ptr aQ 0) al/\∃bw:Nat,aA (aa.push al (.cells [.ptr aQ 0,.int .i64 (.ofNat 0)] 63 .own 0 0)) al.n (0+0)=some (.ptr bw 0)/\∃s1:List UInt8,∃ak:aa,call (.fn 23) [.ptr bw 0] (aa.push al (.cells [.ptr aQ 0,.int .i64 (.ofNat 0)] 63 .own 0 0))=.ret (.str s1) ak/\∃aS:aa,ay.storeCells ak h.n (0+0) [.str s1]=some aS/\∃cl:Nat,aA aS al.n (0+0)=some (.ptr cl 0)/\∃cC:Nat,∃bb:aa,call (.fn 24) [.ptr cl 0] aS=.ret (.int .u64 (.ofNat cC)) bb/\∃c5:Nat,aA bb al.n (0+0)=some (.ptr c5 0)/\∃bh:Bool,∃ch:aa,call (.fn 26) [.ptr c5 0] bb=.ret (.bool bh) ch/\bh=false/\∃v1:J,∃cc:aa,call (.fn 25) [.bool false] ch=.bk v1 cc/\Q (.bk v1) (ar.mk [(2,.ptr h.n 0),(3,.ptr (aa.n (aa.push h (.cells [.str [],.bool false,.az,.az] 24 .own 0 0))) 0)] [bC.call 21 [.ptr h.n 0,.ptr (aa.n (aa.push h (.cells [.str [],.bool false,.az,.az] 24 .own 0 0))) 0]] .none cc)):
  bB Tryz.prog Tryz.f9 call [] ⟨[(0,.str s)],[],.none,h⟩ Q:=
 gN [(1028,.f),(1029,.f),(31,.p .o)] [2,3] [(0,.v (.str s))] rfl (Eq.mp (by kernel_rfl) H)
def u6(aW:Nat)(path:aL)(st:cv):Option (fN×cv):=(lP aW st).bind λr=>(lP aW r.1).map λbt=>(⟨path,false,r.2,bt.2⟩,bt.1)
def ri(aW:Nat)(s:aL):Option (fN×cv):=
 if(a_ (cH (some s)).2).2.isSome=true/\(a_ (cH (some s)).2).1<=1 then
  if(a_ (cH (some s)).2).1=1 then some (⟨(cH (some s)).1,true,[],[]⟩,(a_ (cH (some s)).2).2) else u6 aW (cH (some s)).1 (a_ (cH (some s)).2).2
 else none
def gZ(aW:Nat)(s:aL):Option fN:=(ri aW s).bind λx=>if jc x.2&&ht x.1 then some x.1 else none
theorem HM{aW:Nat}{st b2:cv}{l:List dQ}(e:lP aW st=some (b2,l)):w2 (ee st) (b2,l):=
 wX (w2 (ee st)) (λs a4 a b=>(ON a b).1) _ _ _ ⟨by have:=uZ st;simpa using this,λe he=>by cases he⟩ e
theorem Np(st:cv):(cH st).1.length<=(ed.left st).length:=by
 have ab:=ed.G1 st
 have ae:∀(n:Nat) (t:cv),(ff n t).1.length<=(ed.left t).length:=by
  intro n t
  cases t with
  |none=>simp[ff]
  |some s=>
   simp only[ff]
   by_cases h:n<=s.length
   · rw[if_pos h];simp only[ed.left,List.length_take];omega
   · rw[if_neg h];simp
 exact Nat.le_trans (ae _ _) ab
theorem OQ{N:Nat}{st:cv}{l:List dQ}(h:w2 N (st,l)):∀e∈l,fit e.2:=λe he=>by
 obtain⟨t,a2,ab,ae⟩:=h.2 e he
 rw[a2]
 exact⟨by rw[lD];omega,λu hu=>by cases hu;omega⟩
theorem abh{aW:Nat}{path:aL}{st st1 g1:cv}{bD bT:List dQ}(aY:path.length<=90000)(wZ:ee st<90000)(aE:lP aW st=some (st1,bD))(aC:lP aW st1=some (g1,bT)):la ⟨path,false,bD,bT⟩:=by
 have ab:=HM aE
 have ae:=HM aC
 have bz:=ab.1
 have bA:=ae.1
 simp only at bz bA
 exact⟨aY,by show bD.length<=_;omega,by show bT.length<=_;omega,OQ ab,OQ ae⟩
theorem cg.zS{h:aa}{p b:Nat}{st:cv}{cs:List J}{el:TypeId}{o:Option b3}(ai:cg h p st)(ag:b≠p)(ao:h.get b=some (.cells cs el .own 0 0)):cg (h.set b o) p st:=by
 cases st with
 |none=>obtain⟨ab,ae⟩:=ai;exact⟨by simpa using ab,eh (λe=>ag e.symm) ae⟩
 |some s=>
  obtain⟨ab,ae,v,av,aK⟩:=ai
  refine⟨by simpa using ab,ae,v,eh (λe=>ag e.symm) av,?_⟩
  rcases aK with aK|⟨c,pre,aR,aT,bP,eR⟩
  · exact .inl aK
  · exact .inr ⟨c,pre,aR,by simpa using aT,bP,eh (λe=>by subst e;rw[ao] at eR;cases eR) eR⟩
abbrev zT(n:Nat):b3:=.cells [.int .i64 (Int.ofNat n)] 25 .own 0 0
def OR(h:aa)(o:Option fN)(e:bK)(st:ar):Prop:=∃g,st=⟨[(2,.ptr h.n 0),(3,.ptr (h.n+1) 0)],[.call 21 [.ptr h.n 0,.ptr (h.n+1) 0]],.none,g⟩/\Ext h.n h g/\h.n+2<=g.n/\match o with
 |none=>e=.bk fh/\(∃p b v w,g.get h.n=some (eV p b v w))/\g.get (h.n+1)=some (zT 0)
 |some x=>e=.ret/\∃vv vt F,g.get h.n=some (eV x.path x.eY vv vt)/\g.get (h.n+1)=some (zT 0)/\gR F g vv x.ky/\gR F g vt x.mi/\la x/\∀d,F d->d<g.n
theorem abi(M:Nat)(nO:480<=M)(s:aL)(h:aa)(aw:s.length<=80000):bB Tryz.prog Tryz.f9 (Y M) [] ⟨[(0,.str s)],[],.none,h⟩ (OR h (gZ 0 s)):=by
 obtain⟨ab,jB⟩:∃ab,ab=(h.push (eV [] false .az .az)).push (zT 0):=⟨_,rfl⟩
 have c1:ab.get h.n=some (eV [] false .az .az):=by rw[jB];exact h6 (by simp) (dA rfl)
 have d1:ab.get (h.n+1)=some (zT 0):=by rw[jB];exact dA rfl
 have cE:ab.n=h.n+2:=by rw[jB];simp
 have bj:Ext h.n h ab:=by rw[jB];exact Ext.jJ (by simp) (Ext.push (Nat.le_refl _) _)
 obtain⟨p,al,mr,HN,aY,zU⟩:=cW.Z0 (M-1) s ab (by omega)
 rw[show M-1+1=M by omega] at mr
 have adF:=zU.lt
 obtain⟨zV,zW⟩:∃x,x=al.push (kW p 0):=⟨_,rfl⟩
 have aR:zV.get al.n=some (kW p 0):=by rw[zW];exact dA rfl
 have ba:cg zV p (some s):=by rw[zW];exact cg.Oq zU
 have aQ:zV.n=al.n+1:=by rw[zW];simp
 have cT:∀d,d<ab.n->zV.get d=ab.get d:=λd aq=>by rw[zW];exact h6 (by have:=HN.n;omega) (HN.get d aq)
 obtain⟨ak,hb,jC,bt⟩:=cW.CR (M-6) p (some s) zV ba
 rw[show M-6+6=M by omega] at hb
 have bw:=jC.n
 have adG:=HN.n
 obtain⟨path,HO⟩:∃path,path=(cH (some s)).1:=⟨_,rfl⟩
 obtain⟨st1,HP⟩:∃st1,st1=(cH (some s)).2:=⟨_,rfl⟩
 have n9:path.length<=80000:=by have:=Np (some s);rw[<-HO] at this;simp only[ed.left] at this;omega
 have Kl:ee st1<=80001:=by have:=wW (some s);rw[<-HP] at this;have e:ee (some s)=s.length+1:=rfl;omega
 rw[<-HO] at hb
 rw[<-HP] at bt
 have dE:∀d,d<ab.n->ak.get d=ab.get d:=λd aq=>(jC.get d (by omega) (by omega)).trans (cT d aq)
 have aT:=(jC.get al.n (by omega) (by omega)).trans aR
 obtain⟨aS,hh⟩:∃aS,aS=ak.set h.n (some (eV path false .az .az)):=⟨_,rfl⟩
 have bV:ay.storeCells ak h.n (0+0) [.str path]=some aS:=by rw[hh];exact dY ((dE h.n (by omega)).trans c1) rfl rfl
 have cl:aS.n=ak.n:=by rw[hh];simp
 have c8:∀d,d≠h.n->aS.get d=ak.get d:=λd aq=>by rw[hh];exact eh aq rfl
 have ft:cg aS p st1:=by rw[hh];exact cg.zS bt (by omega) ((dE h.n (by omega)).trans c1)
 have bP:=(c8 al.n (by omega)).trans aT
 have c3:aS.get h.n=some (eV path false .az .az):=by rw[hh];exact dN rfl
 have d3:=(c8 (h.n+1) (by omega)).trans ((dE (h.n+1) (by omega)).trans d1)
 obtain⟨bb,h1,OS,hC⟩:=cW.CP (M-5) p st1 aS ft
 rw[show M-5+5=M by omega] at h1
 obtain⟨k,au⟩:∃k,k=(a_ st1).1:=⟨_,rfl⟩
 obtain⟨g1,zy⟩:∃g1,g1=(a_ st1).2:=⟨_,rfl⟩
 have Km:ee g1<=80001:=by have:=uZ st1;rw[<-zy] at this;omega
 rw[<-au] at h1
 rw[<-zy] at hC
 have cC:=OS.n
 have Da:∀d,d<aS.n->d≠p->bb.get d=aS.get d:=λd aq aY=>OS.get d aq aY
 have eR:=(Da al.n (by omega) (by omega)).trans bP
 have c4:=(Da h.n (by omega) (by omega)).trans c3
 have d4:=(Da (h.n+1) (by omega) (by omega)).trans d3
 have cX:Ext h.n h bb:=⟨by omega,λd aq=>(Da d (by omega) (by omega)).trans ((c8 d (by omega)).trans ((dE d (by omega)).trans (bj.get d aq)))⟩
 have co:=cW.CK (M-1) p g1 bb hC
 rw[show M-1+1=M by omega] at co
 have h_:ri 0 s=if g1.isSome=true/\k<=1 then if k=1 then some (⟨path,true,[],[]⟩,g1) else u6 0 path g1 else none:=by rw[zy,au,HP,HO];rfl
 have xa:∀g,Y M (.fn 25) [.bool false] g=.bk fh g:=λg=>by rw[show M=M-1+1 by omega];exact zA _ _
 have mt:∀g,Y M (.fn 25) [.bool true] g=.ret (.aD []) g:=λg=>by rw[show M=M-1+1 by omega];exact C1 _ _
 have bad:∀{g:aa} {a b v w},Ext h.n h g->h.n+2<=g.n->g.get h.n=some (eV a b v w)->g.get (h.n+1)=some (zT 0)->gZ 0 s=none->OR h (gZ 0 s) (.bk fh) ⟨[(2,.ptr h.n 0),(3,.ptr (h.n+1) 0)],[.call 21 [.ptr h.n 0,.ptr (h.n+1) 0]],.none,g⟩:=λ{g a b v w} he aJ ah aq ad=>by
  rw[ad]
  exact⟨g,rfl,he,aJ,rfl,⟨a,b,v,w,ah⟩,aq⟩
 subst jB
 subst zW
 by_cases cR:g1.isSome=true
 · have oX:(!g1.isNone)=true:=by cases hs:g1 with|none=>rw[hs] at cR;cases cR|some _=>rfl
   rw[oX] at co
   by_cases Db:k<=1
   · rw[if_pos ⟨cR,Db⟩] at h_
     have m0:Y M (.fn 25) [.bool (fE (Int.ofNat k) (Int.ofNat 1))] bb=.ret (.aD []) bb:=by rw[nC Db];exact mt bb
     by_cases bz:k=1
     · rw[if_pos bz] at h_
       obtain⟨bY,m8⟩:∃bY,bY=bb.set h.n (some (eV path true .az .az)):=⟨_,rfl⟩
       have ev:ay.storeCells bb h.n (0+1) [.bool (de (Int.ofNat k) (Int.ofNat 1))]=some bY:=by rw[m8,BU bz];exact dY c4 rfl rfl
       have fo:bY.n=bb.n:=by rw[m8];simp
       have l3:∀d,d≠h.n->bY.get d=bb.get d:=λd aq=>by rw[m8];exact eh aq rfl
       have gP:bY.get h.n=some (eV path true .az .az):=by rw[m8];exact dN rfl
       have uU:=(l3 al.n (by omega)).trans eR
       have d7:=(l3 (h.n+1) (by omega)).trans d4
       have zs:cg bY p g1:=by rw[m8];exact cg.zS hC (by omega) c4
       have eE:Ext h.n h bY:=by rw[m8];exact cX.e3 (Nat.le_refl _)
       have ce:=cW.NN (M-2) p g1 bY zs
       rw[show M-2+2=M by omega] at ce
       have u7:la ⟨path,true,[],[]⟩:=⟨by show path.length<=_;omega,by simp,by simp,λe he=>(by cases he),λe he=>(by cases he)⟩
       cases jq:jc g1 with
       |false=>
        rw[jq] at ce
        exact rb (Y M) s h ⟨p,al,mr,p,aB (dA rfl) rfl,_,ak,hb,aS,bV,p,aB bP rfl,_,bb,h1,p,aB eR rfl,_,bb,co,rfl,.inl ⟨bb,m0,bY,ev,true,aB gP rfl,λ_=>⟨p,aB uU rfl,false,bY,ce,nofun,λ_=>.inr ⟨fh,bY,xa bY,bad eE (by omega) gP d7 (by unfold gZ;rw[h_];simp[jq])⟩⟩,nofun⟩⟩
       |true=>
        rw[jq] at ce
        obtain⟨cJ,o1,qc⟩:=Ho (M-1) (x:=⟨path,true,[],[]⟩) (vv:=.az) (vt:=.az) (by omega) (Nat.le_refl bY.n) ⟨.inl ⟨rfl,rfl⟩,.inl ⟨rfl,rfl⟩⟩ u7
        rw[show M-1+1=M by omega] at o1
        have adH:=qc.n
        have nY:=(qc.get h.n (by omega)).trans gP
        have d8:=(qc.get (h.n+1) (by omega)).trans d7
        have fQ:Ext h.n h cJ:=eE.trans (Nat.le_refl _) (qc.le (by omega))
        cases kR:ht ⟨path,true,[],[]⟩ with
        |false=>
         rw[kR] at o1
         exact rb (Y M) s h ⟨p,al,mr,p,aB (dA rfl) rfl,_,ak,hb,aS,bV,p,aB bP rfl,_,bb,h1,p,aB eR rfl,_,bb,co,rfl,.inl ⟨bb,m0,bY,ev,true,aB gP rfl,λ_=>⟨p,aB uU rfl,true,bY,ce,λ_=>⟨_,_,_,_,hq gP rfl,false,cJ,o1,.inr ⟨fh,cJ,xa cJ,bad fQ (by omega) nY d8 (by unfold gZ;rw[h_];simp[jq,kR])⟩⟩,nofun⟩,nofun⟩⟩
        |true=>
         rw[kR] at o1
         refine rb (Y M) s h ⟨p,al,mr,p,aB (dA rfl) rfl,_,ak,hb,aS,bV,p,aB bP rfl,_,bb,h1,p,aB eR rfl,_,bb,co,rfl,.inl ⟨bb,m0,bY,ev,true,aB gP rfl,λ_=>⟨p,aB uU rfl,true,bY,ce,λ_=>⟨_,_,_,_,hq gP rfl,true,cJ,o1,.inl ⟨cJ,mt cJ,_,_,_,_,hq nY rfl,rfl,rfl,_,dY nY rfl rfl,_,dY (eh (by simp) d8) rfl rfl,?_⟩⟩,nofun⟩,nofun⟩⟩
         have vC:gZ 0 s=some ⟨path,true,[],[]⟩:=by unfold gZ;rw[h_];simp[jq,kR]
         rw[vC]
         exact⟨_,rfl,Ext.e3 (by simp) (fQ.e3 (Nat.le_refl _)),by simp;omega,rfl,.az,.az,λ_=>False,eh (by simp) (dN rfl),dN rfl,.inl ⟨rfl,rfl⟩,.inl ⟨rfl,rfl⟩,u7,λ_ hf=>hf.elim⟩
     · rw[if_neg bz] at h_
       obtain⟨bY,m8⟩:∃bY,bY=bb.set h.n (some (eV path false .az .az)):=⟨_,rfl⟩
       have ev:ay.storeCells bb h.n (0+1) [.bool (de (Int.ofNat k) (Int.ofNat 1))]=some bY:=by rw[m8,v5 bz];exact dY c4 rfl rfl
       have fo:bY.n=bb.n:=by rw[m8];simp
       have l3:∀d,d≠h.n->bY.get d=bb.get d:=λd aq=>by rw[m8];exact eh aq rfl
       have gP:bY.get h.n=some (eV path false .az .az):=by rw[m8];exact dN rfl
       have uU:=(l3 al.n (by omega)).trans eR
       have d7:=(l3 (h.n+1) (by omega)).trans d4
       have zs:cg bY p g1:=by rw[m8];exact cg.zS hC (by omega) c4
       have eE:Ext h.n h bY:=by rw[m8];exact cX.e3 (Nat.le_refl _)
       have fw:=OO (m:=M-1) (p:=p) (q:=al.n) (by omega) (by omega) (by omega) zs ⟨0,uU⟩ (by omega)
       rw[show M-1+1=M by omega] at fw
       cases aH:lP 0 g1 with
       |none=>
        rw[aH] at fw
        obtain⟨cJ,c,f⟩:=fw
        have f0:=f.n
        exact rb (Y M) s h ⟨p,al,mr,p,aB (dA rfl) rfl,_,ak,hb,aS,bV,p,aB bP rfl,_,bb,h1,p,aB eR rfl,_,bb,co,rfl,.inl ⟨bb,m0,bY,ev,false,aB gP rfl,nofun,λ_=>.inr ⟨fh,cJ,c,bad ⟨by omega,λd aq=>(f.get d (by omega) (by omega) (by omega)).trans (eE.get d aq)⟩ (by omega) ((f.get h.n (by omega) (by omega) (by omega)).trans gP) ((f.get (h.n+1) (by omega) (by omega) (by omega)).trans d7) (by unfold gZ;rw[h_];unfold u6;rw[aH];rfl)⟩⟩⟩
       |some y=>
       obtain⟨zm,bD⟩:=y
       rw[aH] at fw
       obtain⟨v1,cJ,Dc,nY,f8,CO,sO,cq,nW⟩:=fw
       have kr:=f8.n
       have nN:=(f8.get h.n (by omega) (by omega) (by omega)).trans gP
       have d8:=(f8.get (h.n+1) (by omega) (by omega) (by omega)).trans d7
       obtain⟨eA,o0⟩:∃eA,eA=cJ.set h.n (some (eV path false v1 .az)):=⟨_,rfl⟩
       have adI:=cq.cell
       have abj:eP (0+2) [v1] [.str path,.bool false,.az,.az]=some [.str path,.bool false,v1,.az]:=by rcases cq with⟨rfl,_⟩|⟨_,_,_,rfl,_⟩<;>rfl
       have ra:ay.storeCells cJ h.n (0+2) [v1]=some eA:=by rw[o0];exact dY nN rfl abj
       have j3:eA.n=cJ.n:=by rw[o0];simp
       have kp:∀d,d≠h.n->eA.get d=cJ.get d:=λd aq=>by rw[o0];exact eh aq rfl
       have Dd:eA.get h.n=some (eV path false v1 .az):=by rw[o0];exact dN rfl
       have d9:=(kp (h.n+1) (by omega)).trans d8
       obtain⟨q7,sO⟩:=sO
       have HQ:=(kp al.n (by omega)).trans sO
       have N2:cg eA p zm:=by rw[o0];exact cg.zS CO (by omega) nN
       have gT:Ext h.n h eA:=⟨by omega,λd aq=>(kp d (by omega)).trans ((f8.get d (by omega) (by omega) (by omega)).trans (eE.get d aq))⟩
       have dn:=HM aH
       have adJ:ee zm<=80001:=by have:=dn.1;simp only at this;omega
       have uS:=OO (m:=M-1) (p:=p) (q:=al.n) (by omega) (by omega) (by omega) N2 ⟨q7,HQ⟩ (by omega)
       rw[show M-1+1=M by omega] at uS
       cases u9:lP 0 zm with
       |none=>
        rw[u9] at uS
        obtain⟨gk,c,f⟩:=uS
        have f0:=f.n
        exact rb (Y M) s h ⟨p,al,mr,p,aB (dA rfl) rfl,_,ak,hb,aS,bV,p,aB bP rfl,_,bb,h1,p,aB eR rfl,_,bb,co,rfl,.inl ⟨bb,m0,bY,ev,false,aB gP rfl,nofun,λ_=>.inl ⟨v1,cJ,nY,cq.cell,eA,ra,.inr ⟨fh,gk,c,bad ⟨by omega,λd aq=>(f.get d (by omega) (by omega) (by omega)).trans (gT.get d aq)⟩ (by omega) ((f.get h.n (by omega) (by omega) (by omega)).trans Dd) ((f.get (h.n+1) (by omega) (by omega) (by omega)).trans d9) (by unfold gZ;rw[h_];unfold u6;rw[aH];simp only[Option.bind_some,u9];rfl)⟩⟩⟩⟩
       |some dq=>
       obtain⟨De,bT⟩:=dq
       rw[u9] at uS
       obtain⟨v2,gk,Df,zX,f10,N3,HR,cp,nX⟩:=uS
       have hM:=f10.n
       have qb:=(f10.get h.n (by omega) (by omega) (by omega)).trans Dd
       have d10:=(f10.get (h.n+1) (by omega) (by omega) (by omega)).trans d9
       obtain⟨eU,zY⟩:∃eU,eU=gk.set h.n (some (eV path false v1 v2)):=⟨_,rfl⟩
       have abk:eP (0+3) [v2] [.str path,.bool false,v1,.az]=some [.str path,.bool false,v1,v2]:=by
        rcases cq with⟨rfl,_⟩|⟨_,_,_,rfl,_⟩<;>rcases cp with⟨rfl,_⟩|⟨_,_,_,rfl,_⟩<;>rfl
       have xb:ay.storeCells gk h.n (0+3) [v2]=some eU:=by rw[zY];exact dY qb rfl abk
       have y9:eU.n=gk.n:=by rw[zY];simp
       have zZ:∀d,d≠h.n->eU.get d=gk.get d:=λd aq=>by rw[zY];exact eh aq rfl
       have xc:eU.get h.n=some (eV path false v1 v2):=by rw[zY];exact dN rfl
       have d11:=(zZ (h.n+1) (by omega)).trans d10
       obtain⟨adK,HR⟩:=HR
       have HS:=(zZ al.n (by omega)).trans HR
       have N5:cg eU p De:=by rw[zY];exact cg.zS N3 (by omega) qb
       have sR:Ext h.n h eU:=⟨by omega,λd aq=>(zZ d (by omega)).trans ((f10.get d (by omega) (by omega) (by omega)).trans (gT.get d aq))⟩
       have zU:gR (λd=>Dc d\/Df d) eU v1 bD:=cq.bM λd aq=>⟨.inl aq,by have:=nW d aq;exact(zZ d (by omega)).trans ((f10.get d (by omega) (by omega) (by omega)).trans (kp d (by omega)))⟩
       have OT:gR (λd=>Dc d\/Df d) eU v2 bT:=cp.bM λd aq=>⟨.inr aq,by have:=nX d aq;exact zZ d (by omega)⟩
       have u_:∀d,Dc d\/Df d->h.n+2<=d/\d<eU.n:=λd aq=>by
        rcases aq with aq|aq
        · have:=nW d aq;omega
        · have:=nX d aq;omega
       have u7:la ⟨path,false,bD,bT⟩:=abh (by omega) (by omega) aH u9
       have HT:ri 0 s=some (⟨path,false,bD,bT⟩,De):=by rw[h_];unfold u6;rw[aH];simp only[Option.bind_some,u9];rfl
       have ce:=cW.NN (M-2) p De eU N5
       rw[show M-2+2=M by omega] at ce
       cases jq:jc De with
       |false=>
        rw[jq] at ce
        exact rb (Y M) s h ⟨p,al,mr,p,aB (dA rfl) rfl,_,ak,hb,aS,bV,p,aB bP rfl,_,bb,h1,p,aB eR rfl,_,bb,co,rfl,.inl ⟨bb,m0,bY,ev,false,aB gP rfl,nofun,λ_=>.inl ⟨v1,cJ,nY,cq.cell,eA,ra,.inl ⟨v2,gk,zX,cp.cell,eU,xb,p,aB HS rfl,false,eU,ce,nofun,λ_=>.inr ⟨fh,eU,xa eU,bad sR (by omega) xc d11 (by unfold gZ;rw[HT];simp[jq])⟩⟩⟩⟩⟩
       |true=>
        rw[jq] at ce
        obtain⟨ja,o1,qc⟩:=Ho (M-1) (x:=⟨path,false,bD,bT⟩) (vv:=v1) (vt:=v2) (by omega) (Nat.le_refl eU.n) ⟨zU.at λd aq=>(u_ d aq).2,OT.at λd aq=>(u_ d aq).2⟩ u7
        rw[show M-1+1=M by omega] at o1
        have adL:=qc.n
        have HU:=(qc.get h.n (by omega)).trans xc
        have d12:=(qc.get (h.n+1) (by omega)).trans d11
        have OU:Ext h.n h ja:=sR.trans (Nat.le_refl _) (qc.le (by omega))
        cases kR:ht ⟨path,false,bD,bT⟩ with
        |false=>
         rw[kR] at o1
         exact rb (Y M) s h ⟨p,al,mr,p,aB (dA rfl) rfl,_,ak,hb,aS,bV,p,aB bP rfl,_,bb,h1,p,aB eR rfl,_,bb,co,rfl,.inl ⟨bb,m0,bY,ev,false,aB gP rfl,nofun,λ_=>.inl ⟨v1,cJ,nY,cq.cell,eA,ra,.inl ⟨v2,gk,zX,cp.cell,eU,xb,p,aB HS rfl,true,eU,ce,λ_=>⟨_,_,_,_,hq xc rfl,false,ja,o1,.inr ⟨fh,ja,xa ja,bad OU (by omega) HU d12 (by unfold gZ;rw[HT];simp[jq,kR])⟩⟩,nofun⟩⟩⟩⟩
        |true=>
         rw[kR] at o1
         have abl:eP 0 [.str path,.bool false,v1,v2] [.str path,.bool false,v1,v2]=some [.str path,.bool false,v1,v2]:=by
          rcases cq with⟨rfl,_⟩|⟨_,_,_,rfl,_⟩<;>rcases cp with⟨rfl,_⟩|⟨_,_,_,rfl,_⟩<;>rfl
         refine rb (Y M) s h ⟨p,al,mr,p,aB (dA rfl) rfl,_,ak,hb,aS,bV,p,aB bP rfl,_,bb,h1,p,aB eR rfl,_,bb,co,rfl,.inl ⟨bb,m0,bY,ev,false,aB gP rfl,nofun,λ_=>.inl ⟨v1,cJ,nY,cq.cell,eA,ra,.inl ⟨v2,gk,zX,cp.cell,eU,xb,p,aB HS rfl,true,eU,ce,λ_=>⟨_,_,_,_,hq xc rfl,true,ja,o1,.inl ⟨ja,mt ja,_,_,_,_,hq HU rfl,cq.cell,cp.cell,_,dY HU rfl abl,_,dY (eh (by simp) d12) rfl rfl,?_⟩⟩,nofun⟩⟩⟩⟩
         have vC:gZ 0 s=some ⟨path,false,bD,bT⟩:=by unfold gZ;rw[HT];simp[jq,kR]
         rw[vC]
         have nP:∀d,h.n+2<=d->d<eU.n->∀cT dE,((ja.set h.n cT).set (h.n+1) dE).get d=eU.get d:=λd aq aw cT dE=>eh (by omega) (eh (by omega) (qc.get d aw))
         exact⟨_,rfl,Ext.e3 (by simp) (OU.e3 (Nat.le_refl _)),by simp;omega,rfl,v1,v2,λd=>Dc d\/Df d,eh (by simp) (dN rfl),dN rfl,zU.bM λd aq=>⟨aq,nP d (u_ d aq).1 (u_ d aq).2 _ _⟩,OT.bM λd aq=>⟨aq,nP d (u_ d aq).1 (u_ d aq).2 _ _⟩,u7,λd aq=>by have:=u_ d aq;simp;omega⟩
   · rw[if_neg (λaj=>Db aj.2)] at h_
     refine rb (Y M) s h ⟨p,al,mr,p,aB (dA rfl) rfl,_,ak,hb,aS,bV,p,aB bP rfl,_,bb,h1,p,aB eR rfl,_,bb,co,rfl,.inr ⟨fh,bb,?_,bad cX (by omega) c4 d4 (by unfold gZ;rw[h_];rfl)⟩⟩
     rw[tU Db];exact xa bb
 · have oX:(!g1.isNone)=false:=by cases hs:g1 with|none=>rfl|some _=>rw[hs] at cR;exact absurd rfl cR
   rw[oX] at co
   rw[if_neg (λaj=>cR aj.1)] at h_
   exact abg (Y M) s h ⟨p,al,mr,p,aB (dA rfl) rfl,_,ak,hb,aS,bV,p,aB bP rfl,_,bb,h1,p,aB eR rfl,_,bb,co,rfl,fh,bb,xa bb,bad cX (by omega) c4 d4 (by unfold gZ;rw[h_];rfl)⟩
end Go.Proofs.cN
namespace Go.Proofs.cN
open Go ay Go.Proofs cS Go.Proofs.cf
open Go.Proofs.cW (dC cg lM jc)
open Go.Proofs.ed (cM cv a_ cH ff)
set_option maxRecDepth 100000
set_option maxHeartbeats 1000000
theorem OV{Γ:Env}{y:aa}{a b:Nat}{cs:List J}{w:J}(HV:ay.loadCells y a 0 4=some cs)(abm:aA y b 0=some w)(ae:fy 2 Γ=some (.ptr a 0):=by kernel_rfl)(av:fy 3 Γ=some (.ptr b 0):=by kernel_rfl):k5 Tryz.prog (dh Tryz.f9) Tryz.f9 Γ y=some (.aD [.agg cs,w]):=by
 have e:(Tryz.f9).results.toList=[.cell 2 24,.cell 3 25]:=by kernel_rfl
 have bf:Nat.testBit (dh Tryz.f9) 2=true:=by kernel_rfl
 have dM:Nat.testBit (dh Tryz.f9) 3=true:=by kernel_rfl
 have ak:lf Tryz.prog 24=some true:=by kernel_rfl
 have aS:lf Tryz.prog 25=some false:=by kernel_rfl
 have eS:dm Tryz.prog 24=some 4:=by kernel_rfl
 have kg:dm Tryz.prog 25=some 1:=by kernel_rfl
 unfold k5
 rw[e]
 simp only[mn,oy,bf,dM,ae,av,ak,aS,eS,kg,HV,abm]
def HW(h:aa)(o:Option fN)(x:ax):Prop:=match o with
 |none=>∃g,x=.ret (.aD [.agg [.str [],.bool false,.az,.az],.int .i64 (Int.ofNat 4)]) g/\Ext h.n h g
 |some s=>∃g vv vt,x=.ret (.aD [.agg [.str s.path,.bool s.eY,vv,vt],.int .i64 (Int.ofNat 0)]) g/\Ext h.n h g/\kV g.n g vv vt s/\la s
theorem HX(M:Nat)(nO:480<=M)(s:aL)(h:aa)(aw:s.length<=80000):HW h (gZ 0 s) (Y (M+1) (.fn 9) [.str s] h):=by
 obtain⟨e,st,run,a1⟩:=abi M nO s h aw
 cases aq:gZ 0 s with
 |none=>
  rw[aq] at a1
  obtain⟨g,rfl,ad,aJ,rfl,⟨p,b,v,w,ah⟩,vL⟩:=a1
  have abn:eP 0 [.str [],.bool false,.az,.az] [.str p,.bool b,v,w]=some [.str [],.bool false,.az,.az]:=rfl
  have HY:=abf (Y M) h.n (h.n+1) g _ _ (dY ah rfl abn) (dY (eh (by omega) vL) rfl rfl)
  exact⟨_,Lt (intr:=b7) (n:=M) (args:=[.str s]) (gargs:=[.ptr h.n 0,.ptr (h.n+1) 0]) Tryz.func9 (by kernel_rfl) (by kernel_rfl) (by kernel_rfl) run (.inr (.inr ⟨_,rfl⟩)) Tryz.func21 (by kernel_rfl) (by kernel_rfl) HY (.inr rfl) (w:=.aD []) (by kernel_rfl) rfl (OV (hq (eh (by omega) (dN rfl)) rfl) (aB (dN rfl) rfl)),Ext.e3 (by omega) (ad.e3 (Nat.le_refl _))⟩
 |some x=>
  rw[aq] at a1
  obtain⟨g,rfl,ad,aJ,rfl,vv,vt,F,ah,vL,cq,cp,u7,hZ⟩:=a1
  have HY:=pn (Y M) h.n (h.n+1) g
  exact⟨_,vv,vt,Lt (intr:=b7) (n:=M) (args:=[.str s]) (gargs:=[.ptr h.n 0,.ptr (h.n+1) 0]) Tryz.func9 (by kernel_rfl) (by kernel_rfl) (by kernel_rfl) run (.inl rfl) Tryz.func21 (by kernel_rfl) (by kernel_rfl) HY (.inr rfl) (w:=.aD []) (by kernel_rfl) rfl (OV (hq ah rfl) (aB vL rfl)),ad,⟨cq.at hZ,cp.at hZ⟩,u7⟩
end Go.Proofs.cN
