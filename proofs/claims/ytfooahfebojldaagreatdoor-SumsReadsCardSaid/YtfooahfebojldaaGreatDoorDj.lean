/-
  PROVED HERE: contracts of functions (Dj). No condition beside each statement's own.
-/
import Derived.Test.YtfooahfebojldaaGreatDoorDi
import Derived.Test.YtfooahfebojldaaGreatDoorDh
import Derived.Test.YtfooahfebojldaaGreatDoorTx
import Derived.Test.YtfooahfebojldaaGreatDoorSxb
set_option linter.unusedVariables false
set_option linter.unusedSimpArgs false
namespace Go.Proofs.ew
open Go aC Go.Proofs dD Go.Proofs.cT
set_option maxRecDepth 100000
set_option maxHeartbeats 1000000
theorem aai(m:Nat)(v:J)(w:J)(h:aa){R:ao->Prop}(H:∃a1:Nat,cq Tryz.prog h 22 v=some (.int .i64 (.ofNat a1))/\∃bL:Nat,cq Tryz.prog h 22 w=some (.int .i64 (.ofNat bL))/\(a1=bL->bz Tryz.prog Tryz.f35 (Y m) [1,1,0,1,0] (af.mk [(0,v),(1,w),(5,.int .i64 (.ofNat 0))] [] .none h) (λdv dw=>((∃aq:aa,∃bK:Env,dv=.exit 0/\dw=af.mk bK [] .none aq/\cN [] bK/\R (.ret (.bool true) aq))\/(∃ak:aa,∃bQ:Env,dv=.ret/\dw=af.mk bQ [] .none ak/\cN [(4,.bool false)] bQ/\R (.ret (.bool false) ak)))))/\(¬a1=bL->R (.ret (.bool false) h))):
  R (Y (m+1) (.fn 35) [v,w] h):=
 eM (intr:=cj) [(4000,.gr [0,1,5] [(.exit 0,[]),(.ret,[(4,.is (.bool false))])])] [(0,.o v),(1,.o w)] Tryz.func35 (by kernel_rfl) (by kernel_rfl) (by kernel_rfl) rfl (Eq.mp (by kernel_rfl) H)
theorem aaj(call:aE->List J->aa->ao)(a8:Nat)(dH:Nat)(N:Nat)(aW:Nat)(dR:Nat)(M:Nat)(i:Nat)(c1:cE)(c2:cE)(h:aa){Q:bA->af->Prop}(H:i<N/\i<N/\∃s1:List UInt8,av (h.room 25) a8 (dH+i*2+0)=some (.str s1)/\i<M/\∃s2:List UInt8,av (h.room 25) aW (dR+i*2+0)=some (.str s2)/\((!cF s1 s2)=true->Q .ret (af.mk [(0,.slice a8 dH N c1),(1,.slice aW dR M c2),(4,.bool false),(5,.int .i64 (.ofNat i))] [] .none (h.room 25)))/\((!cF s1 s2)=false->i<N/\∃v1:J,av (h.room 25) a8 (dH+i*2+1)=some v1/\i<M/\∃v2:J,av (h.room 25) aW (dR+i*2+1)=some v2/\∃ds:Bool,∃aq:aa,call (.fn 62) [v1,v2] (h.room 25)=.ret (.bool ds) aq/\J.sound v1=true/\J.sound v2=true/\(ds=true->i+1<9223372036854775808/\Q .nrm (af.mk [(0,.slice a8 dH N c1),(1,.slice aW dR M c2),(5,.int .i64 (.ofNat (i+1)))] [] .none aq))/\(ds=false->Q .ret (af.mk [(0,.slice a8 dH N c1),(1,.slice aW dR M c2),(4,.bool false),(5,.int .i64 (.ofNat i))] [] .none aq)))):
  bz Tryz.prog Tryz.f35 call [1,1,0,1,0,0] ⟨[(0,.slice a8 dH N c1),(1,.slice aW dR M c2),(5,.int .i64 (.ofNat i))],[],.none,h⟩ Q:=
 hz [(1014,.t),(33,.cI .o),(38,.cI .o)] [0,1,4,5] [(0,.v (.slice a8 dH N c1)),(1,.v (.slice aW dR M c2)),(5,.v (.int .i64 (.ofNat i)))] rfl (Eq.mp (by kernel_rfl) H)
theorem aak(call:aE->List J->aa->ao)(i:Nat)(v:J)(w:J)(h:aa){Q:bA->af->Prop}(H:∃a1:Nat,cq Tryz.prog h 22 v=some (.int .i64 (.ofNat a1))/\¬i<a1/\Q (.exit 0) (af.mk [] [] .none h)):
  bz Tryz.prog Tryz.f35 call [1,1,0,1,0,0] ⟨[(0,v),(1,w),(5,.int .i64 (.ofNat i))],[],.none,h⟩ Q:=
 hz [(1014,.f)] [] [(0,.o v),(1,.o w),(5,.v (.int .i64 (.ofNat i)))] rfl (Eq.mp (by kernel_rfl) H)
theorem aal(m:Nat)(p:List UInt8)(pp:List UInt8)(eL:Bool)(eW:Bool)(vv:J)(vt:J)(mI:J)(ut:J)(h:aa){R:ao->Prop}(H:J.cu vv=true/\J.cu vt=true/\J.cu mI=true/\J.cu ut=true/\∃s1:List UInt8,av (aa.push (aa.push h (.cells [.str p,.bool eL,vv,vt] 24 .own 0 0)) (.cells [.str pp,.bool eW,mI,ut] 24 .own 0 0)) h.n (0+0)=some (.str s1)/\∃s2:List UInt8,av (aa.push (aa.push h (.cells [.str p,.bool eL,vv,vt] 24 .own 0 0)) (.cells [.str pp,.bool eW,mI,ut] 24 .own 0 0)) (aa.n (aa.push h (.cells [.str p,.bool eL,vv,vt] 24 .own 0 0))) (0+0)=some (.str s2)/\(cF s1 s2=true->∃a8:Bool,av (aa.push (aa.push h (.cells [.str p,.bool eL,vv,vt] 24 .own 0 0)) (.cells [.str pp,.bool eW,mI,ut] 24 .own 0 0)) h.n (0+1)=some (.bool a8)/\∃aW:Bool,av (aa.push (aa.push h (.cells [.str p,.bool eL,vv,vt] 24 .own 0 0)) (.cells [.str pp,.bool eW,mI,ut] 24 .own 0 0)) (aa.n (aa.push h (.cells [.str p,.bool eL,vv,vt] 24 .own 0 0))) (0+1)=some (.bool aW)/\(fl a8 aW=true->∃v1:J,av (aa.push (aa.push h (.cells [.str p,.bool eL,vv,vt] 24 .own 0 0)) (.cells [.str pp,.bool eW,mI,ut] 24 .own 0 0)) h.n (0+2)=some v1/\∃v2:J,av (aa.push (aa.push h (.cells [.str p,.bool eL,vv,vt] 24 .own 0 0)) (.cells [.str pp,.bool eW,mI,ut] 24 .own 0 0)) (aa.n (aa.push h (.cells [.str p,.bool eL,vv,vt] 24 .own 0 0))) (0+2)=some v2/\∃ds:Bool,∃aq:aa,(Y m) (.fn 35) [v1,v2] (aa.push (aa.push h (.cells [.str p,.bool eL,vv,vt] 24 .own 0 0)) (.cells [.str pp,.bool eW,mI,ut] 24 .own 0 0))=.ret (.bool ds) aq/\(ds=true->∃dS:J,av aq h.n (0+3)=some dS/\∃v4:J,av aq (aa.n (aa.push h (.cells [.str p,.bool eL,vv,vt] 24 .own 0 0))) (0+3)=some v4/\∃ja:Bool,∃ak:aa,(Y m) (.fn 35) [dS,v4] aq=.ret (.bool ja) ak/\R (.ret (.bool ja) ak))/\(ds=false->R (.ret (.bool false) aq)))/\(fl a8 aW=false->R (.ret (.bool false) (aa.push (aa.push h (.cells [.str p,.bool eL,vv,vt] 24 .own 0 0)) (.cells [.str pp,.bool eW,mI,ut] 24 .own 0 0)))))/\(cF s1 s2=false->R (.ret (.bool false) (aa.push (aa.push h (.cells [.str p,.bool eL,vv,vt] 24 .own 0 0)) (.cells [.str pp,.bool eW,mI,ut] 24 .own 0 0))))):
  R (Y (m+1) (.fn 11) [.agg [.str p,.bool eL,vv,vt],.agg [.str pp,.bool eW,mI,ut]] h):=
 eM (intr:=cj) [] [(0,.kI [.v (.str p),.v (.bool eL),.o vv,.o vt]),(1,.kI [.v (.str pp),.v (.bool eW),.o mI,.o ut])] Tryz.func11 (by kernel_rfl) (by kernel_rfl) (by kernel_rfl) rfl (Eq.mp (by kernel_rfl) H)
def pt:List eD->List eD->Bool
 |[],[]=>true
 |a::l,b::k=>cF a.1 b.1&&(nE a.2 b.2&&pt l k)
 |_,_=>false
def u1(a b:jh):Bool:=cF a.path b.path&&((a.hp==b.hp)&&(pt a.pr b.pr&&pt a.sS b.sS))
theorem Ni:∀(l k:List eD),l.length≠k.length->pt l k=false
 |[],[],h=>absurd rfl h
 |[],_::_,_=>rfl
 |_::_,[],_=>rfl
 |a::l,b::k,h=>by rw[pt,Ni l k (by simpa using h)];simp
theorem Nj(m:Nat){B:Nat}{h:aa}{v w:J}{l k:List eD}(hm:320<=m)(b4:B<=h.n)(aJ:lG B h v l)(hw:lG B h w k)(hlen:l.length<=90000)(f_:∀e∈l,fit e.2)(aam:∀e∈k,fit e.2):
  cc B h (.bool (pt l k)) (Y (m+1) (.fn 35) [v,w] h):=by
 refine aai m v w h ⟨_,aJ.len h,_,hw.len h,λe=>?_,λe=>cc.of (eZ (Ni l k e)) (Ext.refl _ _)⟩
 refine bz.loop (by kernel_rfl) (λt st=>∃i y Γ,st=⟨Γ,[],.none,y⟩/\cN [(0,v),(1,w),(5,.int .i64 (Int.ofNat i))] Γ/\l.length-i=t/\i<=l.length/\Ext B h y/\pt l k=pt (l.drop i) (k.drop i)) ?_ l.length _ (by omega) ⟨0,h,_,rfl,⟨rfl,rfl,rfl,trivial⟩,by omega,by omega,Ext.refl _ _,rfl⟩
 rintro t st ⟨i,y,Γ,rfl,cS,bh,hi,lZ,aS⟩
 by_cases ab:i<l.length
 · have hG:i<k.length:=by omega
   rcases aJ with⟨_,rfl⟩|⟨a8,dH,c1,rfl,fg,ij,lE,acO⟩
   · simp at ab
   rcases hw with⟨_,rfl⟩|⟨aW,dR,c2,rfl,fe,jT,kL,IT⟩
   · simp at hG
   have fw:Ext B h (y.room 25):=lZ.trans (Nat.le_refl _) (Ext.room B y 25)
   obtain⟨x,ad,Nk⟩:=zs fg ij fw ab
   obtain⟨x',wz,Nl⟩:=zs fe jT fw hG
   obtain⟨d1,d2⟩:=Cx ad
   obtain⟨d3,d4⟩:=Cx wz
   have f1:=f_ _ (List.getElem_mem ab)
   have f2:=aam _ (List.getElem_mem hG)
   have f3:=f1.1
   have f4:=f2.1
   obtain⟨aQ,c3,dT⟩:=Uk (m-1) (oa:=l[i].2) (ob:=k[i].2) (B:=B) (h:=y.room 25) (v:=x) (w:=x') (by omega) (by omega) f1.2 (by omega) Nk Nl
   rw[show m-1+1=m by omega] at c3
   have bJ:=fw.trans (Nat.le_refl _) dT
   rw[List.drop_eq_getElem_cons ab,List.drop_eq_getElem_cons hG,pt] at aS
   refine bz.pre (aaj (Y m) a8 dH _ aW dR _ i c1 c2 y ⟨ab,ab,_,d1,hG,_,d3,λag=>?_,λag=>⟨ab,x,d2,hG,x',d4,_,aQ,c3,Nk.snd,Nl.snd,λai=>⟨by omega,?_⟩,λai=>?_⟩⟩) cS rfl rfl rfl
   · have:cF l[i].1 k[i].1=false:=by simpa using ag
     exact .inr ⟨_,_,rfl,rfl,⟨rfl,trivial⟩,cc.of (eZ (by rw[aS,this];rfl)) fw⟩
   · have aB:cF l[i].1 k[i].1=true:=by simpa using ag
     have aP:nE l[i].2 k[i].2=true:=by simpa using ai
     exact⟨_,(by show l.length-(i+1)<t;omega),i+1,aQ,_,rfl,⟨rfl,rfl,rfl,trivial⟩,rfl,by omega,bJ,by rw[aS,aB,aP];rfl⟩
   · have:nE l[i].2 k[i].2=false:=by simpa using ai
     exact .inr ⟨aQ,_,rfl,rfl,⟨rfl,trivial⟩,cc.of (eZ (by rw[aS,this];simp)) bJ⟩
 · refine bz.pre (aak (Y m) i v w y ⟨_,aJ.len y,ab,.inl ⟨y,_,rfl,rfl,trivial,cc.of (eZ ?_) lZ⟩⟩) cS rfl rfl rfl
   rw[aS,List.drop_of_length_le (by omega),List.drop_of_length_le (by omega)];rfl
theorem aan(m:Nat){B:Nat}{h:aa}{vv vt zw zx:J}{x x':jh}(hm:330<=m)(b4:B<=h.n)(hs:ox B h vv vt x)(er:ox B h zw zx x')(hf:oy x)(Nm:oy x'):cc B h (.bool (u1 x x')) (Y (m+1) (.fn 11) [.agg [.str x.path,.bool x.hp,vv,vt],.agg [.str x'.path,.bool x'.hp,zw,zx]] h):=by
 obtain⟨cO,lE⟩:∃p,p=h.push (eO x.path x.hp vv vt):=⟨_,rfl⟩
 obtain⟨eo,kL⟩:∃p,p=cO.push (eO x'.path x'.hp zw zx):=⟨_,rfl⟩
 have a1:cO.n=h.n+1:=by rw[lE];rfl
 have bL:eo.n=h.n+2:=by rw[kL];show cO.n+1=_;omega
 have bM:Ext h.n h eo:=by rw[kL];exact(by rw[lE];exact Ext.push (Nat.le_refl _) _:Ext h.n h cO).k0 (by omega)
 have aY:eo.get h.n=some (eO x.path x.hp vv vt):=by rw[kL,aa.e6,if_neg (by omega),lE];exact eB rfl
 have aR:eo.get (h.n+1)=some (eO x'.path x'.hp zw zx):=by rw[kL];exact eB a1.symm
 have eK:Ext B h eo:=bM.le b4
 have CA:=Nat.le_trans b4 bM.n
 have s2:=(hs.b0 eK).le CA
 have Nn:=(er.b0 eK).le CA
 obtain⟨aq,c1,aF⟩:=Nj (m-1) (B:=eo.n) (h:=eo) (by omega) (Nat.le_refl _) s2.v Nn.v hf.jR hf.mK Nm.mK
 rw[show m-1+1=m by omega] at c1
 obtain⟨ak,c2,aG⟩:=Nj (m-1) (B:=eo.n) (h:=aq) (by omega) aF.n (s2.b0 aF).t (Nn.b0 aF).t hf.lt hf.Cz Nm.Cz
 rw[show m-1+1=m by omega] at c2
 have bq:=(aF.get h.n (by omega)).trans aY
 have a9:=(aF.get (h.n+1) (by omega)).trans aR
 have ff:Ext B h aq:=eK.trans (Nat.le_refl _) (aF.le CA)
 have fN:Ext B h ak:=ff.trans (Nat.le_refl _) (aG.le CA)
 refine aal m x.path x'.path x.hp x'.hp vv vt zw zx h ⟨hs.v.cell,hs.t.cell,er.v.cell,er.t.cell,?_⟩
 rw[<-lE,<-kL,a1]
 exact⟨_,ar aY rfl,_,ar aR rfl,λab=>⟨_,ar aY rfl,_,ar aR rfl,λae=>⟨_,ar aY rfl,_,ar aR rfl,_,aq,c1,λaB=>⟨_,ar bq rfl,_,ar a9 rfl,_,ak,c2,cc.of (eZ (by unfold u1;rw[ab,show(x.hp==x'.hp)=true from ae,aB];rfl)) fN⟩,λaB=>cc.of (eZ (by unfold u1;rw[ab,show(x.hp==x'.hp)=true from ae,aB];rfl)) ff⟩,λae=>cc.of (eZ (by unfold u1;rw[ab,show(x.hp==x'.hp)=false from ae];rfl)) eK⟩,λab=>cc.of (eZ (by unfold u1;rw[ab];rfl)) eK⟩
end Go.Proofs.ew
namespace Go.Proofs.ew
open Go aC Go.Proofs dD Go.Proofs.cT
open Go.Proofs.df (hN cC mu)
open Go.Proofs.eN (e5 cf aI ch fm)
set_option maxRecDepth 100000
set_option maxHeartbeats 1000000
theorem No(m:Nat)(b:Bool)(h:aa){R:ao->Prop}(H:(b=true->R (.ret (.aL []) h))/\(b=false->R (.bp (.iface 58 (.agg [])) h))):
  R (Y (m+1) (.fn 25) [.bool b] h):=
 eM (intr:=cj) [] [(0,.v (.bool b))] Tryz.func25 (by kernel_rfl) (by kernel_rfl) (by kernel_rfl) rfl (Eq.mp (by kernel_rfl) H)
theorem Np(m:Nat)(q:Nat)(f:Nat)(caps:List J)(v:J)(h:aa){R:ao->Prop}(H:∃a1:Nat,av h q (0+0)=some (.ptr a1 0)/\∃bL:Nat,∃aq:aa,(Y m) (.fn 24) [.ptr a1 0] h=.ret (.int .u64 (.ofNat bL)) aq/\bz Tryz.prog Tryz.f53 (Y m) [1,0] (af.mk [(0,.ptr q 0),(1,.fn f [] caps),(4,.int .u64 (.ofNat bL))] [] .none aq) (λdv dw=>((∃ak:aa,∃bK:Env,dv=.exit 0/\dw=af.mk bK [] .none ak/\cN [] bK/\R (.ret (.aL []) ak))\/(∃aQ:aa,∃bQ:Env,dv=.bp v/\dw=af.mk bQ [] .none aQ/\cN [] bQ/\R (.bp v aQ))))):
  R (Y (m+1) (.fn 53) [.ptr q 0,.fn f [] caps] h):=
 eM (intr:=cj) [(4000,.gr [0,1,4] [(.exit 0,[]),(.bp v,[])])] [(0,.v (.ptr q 0)),(1,.o (.fn f [] caps))] Tryz.func53 (by kernel_rfl) (by kernel_rfl) (by kernel_rfl) rfl (Eq.mp (by kernel_rfl) H)
theorem CB(call:aE->List J->aa->ao)(q:Nat)(n:Nat)(f:Nat)(caps:List J)(h:aa){Q:bA->af->Prop}(H:(0<n->∃a1:Nat,av h q (0+0)=some (.ptr a1 0)/\∃a8:Bool,∃aq:aa,call (.fn 26) [.ptr a1 0] h=.ret (.bool a8) aq/\((∃ak:aa,call (.fn 25) [.bool a8] aq=.ret (.aL []) ak/\((∃aQ:aa,call (.fn f) caps ak=.ret (.aL []) aQ/\(1<=n/\n<18446744073709551616)/\Q .nrm (af.mk [(0,.ptr q 0),(1,.fn f [] caps),(4,.int .u64 (.ofNat (n-1)))] [] .none aQ))\/(∃v1:J,∃a3:aa,call (.fn f) caps ak=.bp v1 a3/\Q (.bp v1) (af.mk [(0,.ptr q 0),(1,.fn f [] caps),(4,.int .u64 (.ofNat n))] [] .none a3))))\/(∃v2:J,∃bZ:aa,call (.fn 25) [.bool a8] aq=.bp v2 bZ/\Q (.bp v2) (af.mk [(0,.ptr q 0),(1,.fn f [] caps),(4,.int .u64 (.ofNat n))] [] .none bZ))))/\(¬0<n->Q (.exit 0) (af.mk [(0,.ptr q 0),(1,.fn f [] caps),(4,.int .u64 (.ofNat n))] [] .none h))):
  bz Tryz.prog Tryz.f53 call [1,0,0] ⟨[(0,.ptr q 0),(1,.fn f [] caps),(4,.int .u64 (.ofNat n))],[],.none,h⟩ Q:=
 hz [(19,.e none .o),(21,.e none .o)] [0,1,4] [(0,.v (.ptr q 0)),(1,.o (.fn f [] caps)),(4,.v (.int .u64 (.ofNat n)))] rfl (Eq.mp (by kernel_rfl) H)
theorem Nq(m:Nat)(q:Nat)(h:aa){R:ao->Prop}(H:∃a1:Nat,av (aa.push (aa.push h (.cells [.ptr q 0] 59 .own 0 0)) (.cells [.aA] 22 .own 0 0)) h.n 0=some (.ptr a1 0)/\((∃aq:aa,(Y m) (.fn 53) [.ptr a1 0,.fn 54 [] [.ptr h.n 0,.ptr (aa.n (aa.push h (.cells [.ptr q 0] 59 .own 0 0))) 0]] (aa.push (aa.push h (.cells [.ptr q 0] 59 .own 0 0)) (.cells [.aA] 22 .own 0 0))=.ret (.aL []) aq/\∃v1:J,av aq (aa.n (aa.push h (.cells [.ptr q 0] 59 .own 0 0))) 0=some v1/\R (.ret v1 aq))\/(∃v2:J,∃ak:aa,(Y m) (.fn 53) [.ptr a1 0,.fn 54 [] [.ptr h.n 0,.ptr (aa.n (aa.push h (.cells [.ptr q 0] 59 .own 0 0))) 0]] (aa.push (aa.push h (.cells [.ptr q 0] 59 .own 0 0)) (.cells [.aA] 22 .own 0 0))=.bp v2 ak/\R (.bp v2 ak)))):
  R (Y (m+1) (.fn 27) [.ptr q 0] h):=
 eM (intr:=cj) [(6,.e none .o)] [(0,.v (.ptr q 0))] Tryz.func27 (by kernel_rfl) (by kernel_rfl) (by kernel_rfl) rfl (Eq.mp (by kernel_rfl) H)
theorem Nr(m:Nat)(a:Nat)(b:Nat)(h:aa){R:ao->Prop}(H:∃a1:Nat,av h a 0=some (.ptr a1 0)/\∃aq:aa,aC.storeCells h a1 (0+1) [.int .i64 (.ofNat 0)]=some aq/\∃bL:Nat,av aq a 0=some (.ptr bL 0)/\∃cm:Nat,av aq bL (0+0)=some (.ptr cm 0)/\∃s1:List UInt8,∃ak:aa,(Y m) (.fn 23) [.ptr cm 0] aq=.ret (.str s1) ak/\∃v1:J,av (ak.room 8) b 0=some v1/\∃cn:Nat,av (ak.room 8) a 0=some (.ptr cn 0)/\((∃cz:Nat,∃aQ:aa,(Y m) (.fn 55) [.ptr cn 0] (ak.room 8)=.ret (.ptr cz 0) aQ/\∃cV:Nat,∃ej:Nat,∃a3:aa,gf Tryz.prog (aa.set aQ (ak.n+5) (some (.cells [.str s1,.ptr cz 0] 53 .own 0 0))) 22 (some 22) v1 (.slice (ak.n+5) 0 1 (.exact 1))=some (.slice cV 0 ej (.a5 2),a3)/\∃bZ:aa,aC.storeCells a3 b 0 [.slice cV 0 ej (.a5 2)]=some bZ/\J.sound v1=true/\av (aa.set aQ (ak.n+5) (some (.cells [.str s1,.ptr cz 0] 53 .own 0 0))) b 0=some v1/\R (.ret (.aL []) bZ))\/(∃v2:J,∃b2:aa,(Y m) (.fn 55) [.ptr cn 0] (ak.room 8)=.bp v2 b2/\J.sound v1=true/\R (.bp v2 b2)))):
  R (Y (m+1) (.fn 54) [.ptr a 0,.ptr b 0] h):=
 eM (intr:=cj) [(14,.e none .o),(17,.cI (.sr (.a5 2)))] [(0,.v (.ptr a 0)),(1,.v (.ptr b 0))] Tryz.func54 (by kernel_rfl) (by kernel_rfl) (by kernel_rfl) rfl (Eq.mp (by kernel_rfl) H)
theorem Ns(m:Nat)(a:Nat)(b:Nat)(h:aa){R:ao->Prop}(H:∃a1:Nat,av (h.room 12) a 0=some (.ptr a1 0)/\∃bL:Nat,av (h.room 12) a 0=some (.ptr bL 0)/\∃v1:J,av (h.room 12) bL (0+3)=some v1/\∃cm:Nat,av (h.room 12) b 0=some (.ptr cm 0)/\((∃cn:Nat,∃aq:aa,(Y m) (.fn 55) [.ptr cm 0] (h.room 12)=.ret (.ptr cn 0) aq/\∃cz:Nat,∃cV:Nat,∃ak:aa,gf Tryz.prog (aa.set aq (h.n+7) (some (.cells [.ptr cn 0] 47 .own 0 0))) 49 (some 49) v1 (.slice (h.n+7) 0 1 (.exact 1))=some (.slice cz 0 cV (.a5 1),ak)/\∃aQ:aa,aC.storeCells ak a1 (0+3) [.slice cz 0 cV (.a5 1)]=some aQ/\av ak a 0=some (.ptr a1 0)/\av (aa.set aq (h.n+7) (some (.cells [.ptr cn 0] 47 .own 0 0))) a 0=some (.ptr a1 0)/\av (aa.set aq (h.n+7) (some (.cells [.ptr cn 0] 47 .own 0 0))) a 0=some (.ptr bL 0)/\J.sound v1=true/\av (aa.set aq (h.n+7) (some (.cells [.ptr cn 0] 47 .own 0 0))) bL (0+3)=some v1/\R (.ret (.aL []) aQ))\/(∃v2:J,∃a3:aa,(Y m) (.fn 55) [.ptr cm 0] (h.room 12)=.bp v2 a3/\J.sound v1=true/\R (.bp v2 a3)))):
  R (Y (m+1) (.fn 74) [.ptr a 0,.ptr b 0] h):=
 eM (intr:=cj) [(8,.e none .o),(10,.cI (.sr (.a5 1)))] [(0,.v (.ptr a 0)),(1,.v (.ptr b 0))] Tryz.func74 (by kernel_rfl) (by kernel_rfl) (by kernel_rfl) rfl (Eq.mp (by kernel_rfl) H)
theorem Nt(m:Nat)(a:Nat)(b:Nat)(c:Nat)(h:aa){R:ao->Prop}(H:∃a1:Nat,av (h.room 15) a 0=some (.ptr a1 0)/\∃bL:Nat,av (h.room 15) a 0=some (.ptr bL 0)/\∃v1:J,av (h.room 15) bL (0+2)=some v1/\∃cm:Nat,av (h.room 15) b 0=some (.ptr cm 0)/\∃cn:Nat,av (h.room 15) cm (0+0)=some (.ptr cn 0)/\∃s1:List UInt8,∃aq:aa,(Y m) (.fn 23) [.ptr cn 0] (h.room 15)=.ret (.str s1) aq/\∃cz:Nat,∃cV:Nat,∃ak:aa,gf Tryz.prog (aa.set aq (h.n+10) (some (.cells [.str s1] 9 .own 0 0))) 48 (some 48) v1 (.slice (h.n+10) 0 1 (.exact 1))=some (.slice cz 0 cV (.a5 1),ak)/\∃aQ:aa,aC.storeCells ak a1 (0+2) [.slice cz 0 cV (.a5 1)]=some aQ/\av ak a 0=some (.ptr a1 0)/\av (aa.set aq (h.n+10) (some (.cells [.str s1] 9 .own 0 0))) a 0=some (.ptr a1 0)/\av (aa.set aq (h.n+10) (some (.cells [.str s1] 9 .own 0 0))) a 0=some (.ptr bL 0)/\J.sound v1=true/\av (aa.set aq (h.n+10) (some (.cells [.str s1] 9 .own 0 0))) bL (0+2)=some v1/\av aQ c 0=some (.fn 74 [] [.ptr a 0,.ptr b 0])/\((∃a3:aa,(Y m) (.fn 74) [.ptr a 0,.ptr b 0] aQ=.ret (.aL []) a3/\R (.ret (.aL []) a3))\/(∃v2:J,∃bZ:aa,(Y m) (.fn 74) [.ptr a 0,.ptr b 0] aQ=.bp v2 bZ/\R (.bp v2 bZ)))):
  R (Y (m+1) (.fn 75) [.ptr a 0,.ptr b 0,.ptr c 0] h):=
 eM (intr:=cj) [(14,.cI (.sr (.a5 1))),(17,.cI (.is (.fn 74 [] [.ptr a 0,.ptr b 0]))),(18,.e none .o)] [(0,.v (.ptr a 0)),(1,.v (.ptr b 0)),(2,.v (.ptr c 0))] Tryz.func75 (by kernel_rfl) (by kernel_rfl) (by kernel_rfl) rfl (Eq.mp (by kernel_rfl) H)
abbrev Q:=cf×Nat
abbrev Acc:=Q×(List bc×List a_)
def e0{σ:Type}(ok:σ->Bool)(f:σ->Option σ):Nat->σ->Option σ
 |0,s=>some s
 |k+1,s=>if ok s then(f s).bind (e0 ok f k) else none
def fx(f:Q->Option (a_×Q))(x:Acc):Option Acc:=(f x.1).map λr=>(r.2,(x.2.1,x.2.2++[r.1]))
def kq(f:Q->Option (a_×Q))(x:Acc):Option Acc:=fx f (((ch x.1.1).2,x.1.2),(x.2.1++[(ch x.1.1).1],x.2.2))
def g8(x:Acc):Bool:=x.1.1.isSome
def gI(q:Q):Acc:=(((aI q.1).2,q.2),([],[]))
def fp(f:Q->Option (a_×Q))(k:Nat)(q:Q):Option (a_×Q):=
 if k=6 then some (.mk 6 (ch q.1).1 [] [] none,((ch q.1).2,q.2))
 else if k=7 then(e0 g8 (kq f) (aI q.1).1 (gI q)).map λs=>(.mk 7 [] s.2.1 s.2.2 none,s.1)
 else if k=8 then(e0 g8 (fx f) (aI q.1).1 (gI q)).bind λs=>(f s.1).map λr=>(.mk 8 [] [] s.2.2 (some r.1),r.2)
 else if k=9 then(e0 g8 (fx f) (aI q.1).1 (gI q)).map λs=>(.mk 9 [] [] s.2.2 none,s.1)
 else some (.mk k [] [] [] none,q)
def ct(lo:Nat):Nat->Q->Option (a_×Q)
 |0,_=>none
 |j+1,q=>if(aI q.1).2.isSome=true/\lo<=(aI q.1).1/\(aI q.1).1<=9/\q.2+1<=60 then fp (ct lo j) (aI q.1).1 ((aI q.1).2,q.2+1) else none
def dg:cf->Nat
 |none=>0
 |some l=>l.length+1
theorem qw(st:cf):dg (aI st).2<=dg st:=by
 cases st with
 |none=>exact Nat.le_refl _
 |some s=>
  have h:=eN.Gc (some s)
  cases e:(aI (some s)).2 with
  |none=>simp[dg]
  |some t=>rw[e] at h;simp only[eN.left,dg] at*;omega
theorem aao(s:List UInt8):dg (aI (some s)).2<dg (some s):=by
 rcases eN.X0 s with h|h
 · cases e:(aI (some s)).2 with
   |none=>simp[dg]
   |some t=>rw[e] at h;simp only[eN.left,dg] at*;omega
 · rw[h];simp[dg]
theorem aap(n:Nat)(st:cf):dg (fm n st).2<=dg st:=by
 cases st with
 |none=>exact Nat.le_refl _
 |some s=>
  simp only[fm]
  by_cases h:n<=s.length
  · rw[if_pos h];simp only[dg,List.length_drop];omega
  · rw[if_neg h];simp[dg]
theorem rp(st:cf):dg (ch st).2<=dg st:=Nat.le_trans (aap _ _) (qw st)
structure Fr(p q B:Nat)(h g:aa):Prop where
 n:h.n<=g.n
 get:∀b,b<B->b≠p->b≠q->g.get b=h.get b
theorem Fr.refl(p q B:Nat)(h:aa):Fr p q B h h:=⟨Nat.le_refl _,λ_ _ _ _=>rfl⟩
theorem Fr.trans{p q B C:Nat}{h g k:aa}(b4:B<=C)(e:Fr p q B h g)(ed:Fr p q C g k):Fr p q B h k:=⟨Nat.le_trans e.n ed.n,λb ag aU aS=>(ed.get b (by omega) aU aS).trans (e.get b ag aU aS)⟩
theorem Fr.CC{p q B:Nat}{h g:aa}(e:di p B h g):Fr p q B h g:=⟨e.n,λb ag aU _=>e.get b ag aU⟩
theorem Fr.le{p q B C:Nat}{h g:aa}(b4:B<=C)(e:Fr p q C h g):Fr p q B h g:=⟨e.n,λb ag aU aS=>e.get b (by omega) aU aS⟩
theorem Fr.set{p q B b:Nat}{h g:aa}{o:Option cJ}(e:Fr p q B h g)(ag:B<=b\/b=p\/b=q):Fr p q B h (g.set b o):=⟨by simpa using e.n,λc ai aU aS=>by rw[aa.bV,if_neg (by omega)];exact e.get c ai aU aS⟩
theorem Fr.push{p q B:Nat}{h g:aa}{o:cJ}(e:Fr p q B h g)(b4:B<=g.n):Fr p q B h (g.push o):=⟨Nat.le_trans e.n (by simp),λc ai aU aS=>by rw[aa.e6,if_neg (by omega)];exact e.get c ai aU aS⟩
theorem cC.jz{h g:aa}{p:Nat}{st:cf}(al:cC h p st)(aM:h.n<=g.n)(ax:∀b,b<=p->g.get b=h.get b):cC g p st:=by
 cases st with
 |none=>obtain⟨ab,ae⟩:=al;exact⟨by omega,(ax p (Nat.le_refl _)).trans ae⟩
 |some s=>
  obtain⟨ab,ae,v,aB,aP⟩:=al
  refine⟨by omega,ae,v,(ax p (Nat.le_refl _)).trans aB,?_⟩
  rcases aP with aP|⟨b,pre,aY,aR,bW,eu⟩
  · exact .inl aP
  · exact .inr ⟨b,pre,aY,by omega,bW,(ax b (Nat.le_of_lt bW)).trans eu⟩
theorem cC.l1{h:aa}{p b:Nat}{st:cf}{o:Option cJ}(al:cC h p st)(ag:p<b):cC (h.set b o) p st:=
 cC.jz al (by simp) λc ai=>by rw[aa.bV,if_neg (by omega)]
theorem cC.zy{h:aa}{p:Nat}{st:cf}{o:cJ}(al:cC h p st):cC (h.push o) p st:=
 cC.jz al (by simp) λc ai=>by rw[aa.e6,if_neg (by have:=al.lt;omega)]
theorem cC.sU{h:aa}{p k:Nat}{st:cf}(al:cC h p st):cC (h.room k) p st:=cC.jz al (by simp) λc ai=>rfl
abbrev fI:J:=.iface 58 (.agg [])
abbrev lH(p n:Nat):cJ:=.cells [.ptr p 0,.int .i64 (Int.ofNat n)] 63 .own 0 0
theorem CD(m:Nat)(h:aa):Y (m+1) (.fn 25) [.bool true] h=.ret (.aL []) h:=No m true h (R:=λx=>x=.ret (.aL []) h) ⟨λ_=>rfl,nofun⟩
theorem zz(m:Nat)(h:aa):Y (m+1) (.fn 25) [.bool false] h=.bp fI h:=No m false h (R:=λx=>x=.bp fI h) ⟨nofun,λ_=>rfl⟩
theorem GA(m:Nat){σ:Type}{I:σ->aa->Prop}{P:aa->Prop}{rd:σ->cf}{f:σ->Option σ}{fnum p q:Nat}{caps:List J}
  (gq:∀s h,I s h->cC h p (rd s)/\∃n,h.get q=some (lH p n))
  (y7:∀s h,I s h->P h)
  (aaq:∀s h,I s h->(rd s).isSome=true->match f s with
   |none=>∃g,Y (m+5) (.fn fnum) caps h=.bp fI g/\P g
   |some a2=>∃g,Y (m+5) (.fn fnum) caps h=.ret (.aL []) g/\I a2 g/\dg (rd a2)<dg (rd s))
  {h:aa}{st:cf}{s0:σ}(al:cC h p st)(aS:∃n,h.get q=some (lH p n))(aD:dg st<90000)(dc:rd s0=(aI st).2)
  (lB:∀g,di p h.n h g->cC g p (aI st).2->I s0 g):
  match e0 (λs=>(rd s).isSome) f (aI st).1 s0 with
  |none=>∃g,Y (m+6) (.fn 53) [.ptr q 0,.fn fnum [] caps] h=.bp fI g/\P g
  |some a2=>∃g,Y (m+6) (.fn 53) [.ptr q 0,.fn fnum [] caps] h=.ret (.aL []) g/\I a2 g:=by
 obtain⟨g,c,x,r⟩:=df.Cv m p st h al
 obtain⟨wP,aS⟩:=aS
 obtain⟨N,fU⟩:∃N,N=(aI st).1:=⟨_,rfl⟩
 have u2:=eN.zm st
 rw[<-fU] at c u2⊢
 obtain⟨gw,oM⟩:∃gw,gw=e0 (λs=>(rd s).isSome) f N s0:=⟨_,rfl⟩
 rw[<-oM]
 have gr:∀{Q:bA->af->Prop},(∀a2 g Γ,gw=some a2->I a2 g->Q (.exit 0) ⟨Γ,[],.none,g⟩)->(∀g Γ,gw=none->P g->Q (.bp fI) ⟨Γ,[],.none,g⟩)->bz Tryz.prog Tryz.f53 (Y (m+5)) [1,0] ⟨[(0,.ptr q 0),(1,.fn fnum [] caps),(4,.int .u64 (Int.ofNat N))],[],.none,g⟩ Q:=by
  intro Q ad aU
  refine bz.loop (by kernel_rfl) (λk z=>∃n s y Γ,z=⟨Γ,[],.none,y⟩/\cN [(0,.ptr q 0),(1,.fn fnum [] caps),(4,.int .u64 (Int.ofNat n))] Γ/\dg (rd s)=k/\n<18446744073709551616/\I s y/\gw=e0 (λs=>(rd s).isSome) f n s) ?_ (dg (rd s0)) _ (by rw[dc];have:=qw st;omega) ⟨N,s0,g,_,rfl,⟨rfl,rfl,rfl,trivial⟩,rfl,u2,lB g x r,oM⟩
  rintro k z ⟨n,s,y,Γ,rfl,cS,ax,aM,hi,he⟩
  obtain⟨aar,l2,gL⟩:=gq s y hi
  have a7:=df.Cs (m+4) p (rd s) y aar
  cases n with
  |zero=>exact bz.pre (CB (Y (m+5)) q 0 fnum caps y ⟨λah=>absurd ah (by omega),λ_=>ad s y _ he hi⟩) cS rfl rfl rfl
  |succ n=>
   by_cases cp:(rd s).isSome=true
   · have iO:(!(rd s).isNone)=true:=by cases hs:rd s with|none=>rw[hs] at cp;cases cp|some _=>rfl
     rw[iO] at a7
     have ai:=aaq s y hi cp
     simp only[e0,cp,if_true] at he
     cases hf:f s with
     |none=>
      rw[hf] at ai he
      obtain⟨ak,c2,k7⟩:=ai
      exact bz.pre (CB (Y (m+5)) q (n+1) fnum caps y ⟨λ_=>⟨p,ar gL rfl,true,y,a7,.inl ⟨y,CD _ _,.inr ⟨fI,ak,c2,aU ak _ he k7⟩⟩⟩,λah=>absurd (by omega) ah⟩) cS rfl rfl rfl
     |some a2=>
      rw[hf] at ai he
      obtain⟨ak,c2,yh,jT⟩:=ai
      exact bz.pre (CB (Y (m+5)) q (n+1) fnum caps y ⟨λ_=>⟨p,ar gL rfl,true,y,a7,.inl ⟨y,CD _ _,.inl ⟨ak,c2,⟨by omega,aM⟩,_,by rw[<-ax];exact jT,n,a2,ak,_,rfl,⟨rfl,rfl,rfl,trivial⟩,rfl,by omega,yh,he⟩⟩⟩,λah=>absurd (by omega) ah⟩) cS rfl rfl rfl
   · have iO:(!(rd s).isNone)=false:=by cases hs:rd s with|none=>rfl|some _=>rw[hs] at cp;exact absurd rfl cp
     rw[iO] at a7
     simp only[e0,if_neg cp] at he
     exact bz.pre (CB (Y (m+5)) q (n+1) fnum caps y ⟨λ_=>⟨p,ar gL rfl,false,y,a7,.inr ⟨fI,y,zz _ _,aU y _ he (y7 s y hi)⟩⟩,λah=>absurd (by omega) ah⟩) cS rfl rfl rfl
 cases hA:gw with
 |none=>exact Np (m+5) q fnum caps fI h (R:=λx=>∃g,x=.bp fI g/\P g) ⟨p,ar aS rfl,N,g,c,gr (λa2 g Γ e _=>by rw[hA] at e;cases e) λg Γ _ au=>.inr ⟨g,Γ,rfl,rfl,trivial,g,rfl,au⟩⟩
 |some a2=>exact Np (m+5) q fnum caps fI h (R:=λx=>∃g,x=.ret (.aL []) g/\I a2 g) ⟨p,ar aS rfl,N,g,c,gr (λs2 g Γ e au=>by rw[hA] at e;cases e;exact .inl ⟨g,Γ,rfl,rfl,trivial,g,rfl,au⟩) λg Γ e _=>by rw[hA] at e;cases e⟩
end Go.Proofs.ew
namespace Go.Proofs.ew
open Go aC Go.Proofs dD Go.Proofs.cT
open Go.Proofs.df (hN cC mu)
open Go.Proofs.eN (e5 cf aI ch fm)
set_option maxRecDepth 100000
set_option maxHeartbeats 1000000
def u3(F:Nat->Prop)(h:aa)(v:J)(vs:List J):Prop:=(v=.aA/\vs=[])\/∃b off aH,v=.slice b off vs.length aH/\F b/\(∀i (hi:i<vs.length),av h b (off+i*1)=some vs[i])/\0<vs.length/\aH≠ .dead
mutual
def gM(F:Nat->Prop)(h:aa):a_->J->Prop
 |.mk k b8 ns xs rt,v=>∃r bk a6 cZ vs bN lo up,v=.ptr r 0/\F r/\h.get r=some (.cells [.int .i64 (Int.ofNat k),.str b8,bk,a6,cZ] 51 bN lo up)/\u3 F h bk (ns.map .str)/\u3 F h a6 vs/\gu F h xs vs/\j2 F h rt cZ
def gu(F:Nat->Prop)(h:aa):List a_->List J->Prop
 |[],vs=>vs=[]
 |t::c7,vs=>∃v ws,vs=v::ws/\gM F h t v/\gu F h c7 ws
def j2(F:Nat->Prop)(h:aa):Option a_->J->Prop
 |none,v=>v=.bb
 |some t,v=>gM F h t v
end
theorem u3.b0{F G:Nat->Prop}{h g:aa}{v:J}{vs:List J}(e:∀b,F b->G b/\g.get b=h.get b)(hs:u3 F h v vs):u3 G g v vs:=by
 rcases hs with hs|⟨b,off,aH,ab,ae,aB,aP⟩
 · exact .inl hs
 · refine .inr ⟨b,off,aH,ab,(e b ae).1,λi hi=>?_,aP⟩
   rw[<-aB i hi]
   unfold av
   rw[(e b ae).2]
mutual
theorem gM.b0{F G:Nat->Prop}{h g:aa}(e:∀b,F b->G b/\g.get b=h.get b):∀(t:a_) (v:J),gM F h t v->gM G g t v
 |.mk k b8 ns xs rt,v,ad=>by
  obtain⟨r,bk,a6,cZ,vs,bN,lo,up,ab,ae,aB,aP,cg,dN,fE⟩:=ad
  exact⟨r,bk,a6,cZ,vs,bN,lo,up,ab,(e r ae).1,(e r ae).2.trans aB,aP.b0 e,cg.b0 e,gu.b0 e xs vs dN,j2.b0 e rt cZ fE⟩
theorem gu.b0{F G:Nat->Prop}{h g:aa}(e:∀b,F b->G b/\g.get b=h.get b):∀(c7:List a_) (vs:List J),gu F h c7 vs->gu G g c7 vs
 |[],vs,ad=>ad
 |t::c7,vs,ad=>by
  obtain⟨v,ws,ab,ae,aB⟩:=ad
  exact⟨v,ws,ab,gM.b0 e t v ae,gu.b0 e c7 ws aB⟩
theorem j2.b0{F G:Nat->Prop}{h g:aa}(e:∀b,F b->G b/\g.get b=h.get b):∀(t:Option a_) (v:J),j2 F h t v->j2 G g t v
 |none,v,ad=>ad
 |some t,v,ad=>gM.b0 e t v ad
end
mutual
theorem gM.at{F:Nat->Prop}{B:Nat}{h:aa}(e:∀b,F b->b<B):∀(t:a_) (v:J),gM F h t v->dI B h t v
 |.mk k b8 ns xs rt,v,ad=>by
  obtain⟨r,bk,a6,cZ,vs,bN,lo,up,ab,ae,aB,aP,cg,dN,fE⟩:=ad
  have iv:∀{v:J} {vs:List J},u3 F h v vs->da B h v vs:=by
   intro v vs hs
   rcases hs with hs|⟨b,off,aH,ab,ae,aB,aP⟩
   · exact .inl hs
   · exact .inr ⟨b,off,aH,ab,e b ae,aB,aP⟩
  exact⟨r,bk,a6,cZ,vs,bN,lo,up,ab,e r ae,aB,iv aP,iv cg,gu.at e xs vs dN,j2.at e rt cZ fE⟩
theorem gu.at{F:Nat->Prop}{B:Nat}{h:aa}(e:∀b,F b->b<B):∀(c7:List a_) (vs:List J),gu F h c7 vs->dU B h c7 vs
 |[],vs,ad=>ad
 |t::c7,vs,ad=>by
  obtain⟨v,ws,ab,ae,aB⟩:=ad
  exact⟨v,ws,ab,gM.at e t v ae,gu.at e c7 ws aB⟩
theorem j2.at{F:Nat->Prop}{B:Nat}{h:aa}(e:∀b,F b->b<B):∀(t:Option a_) (v:J),j2 F h t v->dE B h t v
 |none,v,ad=>ad
 |some t,v,ad=>gM.at e t v ad
end
theorem gu.snoc{F:Nat->Prop}{h:aa}{t:a_}{v:J}(bh:gM F h t v):∀{c7:List a_} {vs:List J},gu F h c7 vs->gu F h (c7++[t]) (vs++[v])
 |[],vs,ad=>by
  have e:vs=[]:=ad
  subst e
  exact⟨v,[],rfl,bh,rfl⟩
 |s::c7,vs,ad=>by
  obtain⟨w,ws,rfl,ae,aB⟩:=ad
  exact⟨w,ws++[v],rfl,ae,gu.snoc bh aB⟩
abbrev CE(s:bc):List J:=[.str s]
abbrev zA(r:Nat):List J:=[.ptr r 0]
theorem Nu:v5 Tryz.prog CE 1 9 48 where
 hu:=by kernel_rfl
 hE:=by kernel_rfl
 info:=by
  obtain⟨i,hi⟩:=Option.isSome_iff_exists.1 (show(Tryz.prog.info? 9).isSome=true by kernel_rfl)
  refine⟨i,hi,?_,?_⟩
  · have:(Tryz.prog.info? 9).map (·.size)=some 1:=by kernel_rfl
    rw[hi] at this;simpa using this
  · have:(Tryz.prog.info? 9).map (λi=>Nat.ble i.bytes 1000)=some true:=by kernel_rfl
    rw[hi] at this
    exact Nat.le_of_ble_eq_true (by simpa using this)
 zero:=⟨.str [],by kernel_rfl,rfl⟩
 size:=by kernel_rfl
 len:=λ_=>rfl
 cell:=λ_=>rfl
 pos:=by decide
theorem GB:v5 Tryz.prog zA 1 47 49 where
 hu:=by kernel_rfl
 hE:=by kernel_rfl
 info:=by
  obtain⟨i,hi⟩:=Option.isSome_iff_exists.1 (show(Tryz.prog.info? 47).isSome=true by kernel_rfl)
  refine⟨i,hi,?_,?_⟩
  · have:(Tryz.prog.info? 47).map (·.size)=some 1:=by kernel_rfl
    rw[hi] at this;simpa using this
  · have:(Tryz.prog.info? 47).map (λi=>Nat.ble i.bytes 1000)=some true:=by kernel_rfl
    rw[hi] at this
    exact Nat.le_of_ble_eq_true (by simpa using this)
 zero:=⟨.bb,by kernel_rfl,rfl⟩
 size:=by kernel_rfl
 len:=λ_=>rfl
 cell:=λ_=>rfl
 pos:=by decide
theorem Nv{D:Type}(enc:D->J):∀bd:List D,gD (λd=>[enc d]) bd=bd.map enc
 |[]=>rfl
 |d::l=>by
  show[enc d]++gD _ l=enc d::l.map enc
  rw[Nv enc l];rfl
theorem Nw{D:Type}{enc:D->J}{el B:Nat}{F:Nat->Prop}{h:aa}{v:J}{bd:List D}(a7:fj (λd=>[enc d]) 1 el B h v bd)(fh:∀b n aH,v=.slice b 0 n aH->F b):u3 F h v (bd.map enc):=by
 rcases a7 with⟨rfl,rfl⟩|⟨b,rfl,ae,aB,aP,cg⟩
 · exact .inl ⟨rfl,rfl⟩
 · refine .inr ⟨b,0,.a5 1,by rw[List.length_map],fh b _ _ rfl,λi hi=>?_,by rw[List.length_map];exact ae,by simp⟩
   have e:=Nv enc bd
   rw[e] at aB
   exact EU aB (by rw[List.getElem?_eq_getElem (by simpa using hi)];simp)
end Go.Proofs.ew
namespace Go.Proofs.ew
open Go aC Go.Proofs dD Go.Proofs.cT
open Go.Proofs.df (hN cC mu)
open Go.Proofs.eN (e5 cf aI ch fm)
set_option maxRecDepth 100000
set_option maxHeartbeats 1000000
theorem rq{σ:Type}{ok:σ->Bool}{f:σ->Option σ}(P:σ->Prop)(hf:∀s a2,P s->f s=some a2->P a2):∀(n:Nat) (s a2:σ),P s->e0 ok f n s=some a2->P a2
 |0,s,a2,h,e=>by simp only[e0,Option.some.injEq] at e;exact e▸h
 |n+1,s,a2,h,e=>by
  simp only[e0] at e
  split at e
  · cases ad:f s with
    |none=>rw[ad] at e;cases e
    |some x=>rw[ad] at e;exact rq P hf n x a2 (hf s x h ad) e
  · cases e
theorem zB:∀(l m:List a_),eh (l++m)=eh l+eh m
 |[],m=>by simp[eh]
 |x::l,m=>by simp only[List.cons_append,eh];rw[zB l m];omega
theorem GC:∀(l m:List a_),lz (l++m)=lz l+lz m
 |[],m=>by simp[lz]
 |x::l,m=>by simp only[List.cons_append,lz];rw[GC l m];omega
theorem CF(t:a_):eh [t]=sz t:=by simp[eh]
theorem Nx(t:a_):lz [t]=iH t:=by simp[lz]
def zC(f:Q->Option (a_×Q)):Prop:=∀q t bE,f q=some (t,bE)->bE.2=q.2+sz t/\iH t+1<=sz t/\bE.2<=60/\dg bE.1<dg q.1
def lb(q:Q)(s:Acc):Prop:=s.1.2=q.2+eh s.2.2/\lz s.2.2+s.2.1.length<=eh s.2.2/\s.1.2<=60/\dg s.1.1<=dg q.1
theorem CG{f:Q->Option (a_×Q)}(hf:zC f){q:Q}{s a2:Acc}(h:lb q s)(e:fx f s=some a2):lb q a2/\dg a2.1.1<dg s.1.1:=by
 unfold fx at e
 cases ad:f s.1 with
 |none=>rw[ad] at e;cases e
 |some x=>
  obtain⟨t,bE⟩:=x
  rw[ad] at e
  obtain rfl:(bE,(s.2.1,s.2.2++[t]))=a2:=by simpa using e
  obtain⟨ab,ae,aB,aP⟩:=h
  obtain⟨bx,bI,cP,dK⟩:=hf _ _ _ ad
  refine⟨⟨?_,?_,cP,by show dg bE.1<=_;omega⟩,dK⟩
  · show bE.2=q.2+eh (s.2.2++[t])
    rw[zB,CF];omega
  · show lz (s.2.2++[t])+s.2.1.length<=eh (s.2.2++[t])
    rw[zB,CF,GC,Nx];omega
theorem GD{f:Q->Option (a_×Q)}(hf:zC f){q:Q}{s a2:Acc}(h:lb q s)(e:kq f s=some a2):lb q a2/\dg a2.1.1<dg s.1.1:=by
 unfold kq fx at e
 simp only at e
 cases ad:f ((ch s.1.1).2,s.1.2) with
 |none=>rw[ad] at e;cases e
 |some x=>
  obtain⟨t,bE⟩:=x
  rw[ad] at e
  obtain rfl:(bE,(s.2.1++[(ch s.1.1).1],s.2.2++[t]))=a2:=by simpa using e
  obtain⟨ab,ae,aB,aP⟩:=h
  obtain⟨bx,bI,cP,dK⟩:=hf _ _ _ ad
  simp only at bx dK
  have:=rp s.1.1
  refine⟨⟨?_,?_,cP,by show dg bE.1<=_;omega⟩,by show dg bE.1<_;omega⟩
  · show bE.2=q.2+eh (s.2.2++[t])
    rw[zB,CF];omega
  · show lz (s.2.2++[t])+(s.2.1++[(ch s.1.1).1]).length<=eh (s.2.2++[t])
    rw[zB,CF,GC,Nx,List.length_append]
    show _+(_+1)<=_
    omega
theorem GF(q:Q)(h:q.2<=60):lb q (gI q):=⟨by simp[gI,eh],by simp[gI,eh,lz],h,qw q.1⟩
theorem aas{f:Q->Option (a_×Q)}(hf:zC f){k:Nat}{q bE:Q}{t:a_}(h:q.2<=60)(e:fp f k q=some (t,bE)):bE.2+1=q.2+sz t/\iH t+1<=sz t/\bE.2<=60/\dg bE.1<=dg q.1:=by
 unfold fp at e
 have aM:=GF q h
 split at e
 · cases e
   exact⟨by simp[sz,eh,dy],by simp[iH,lz,q6,sz,eh,dy],h,rp _⟩
 split at e
 · cases ad:e0 g8 (kq f) (aI q.1).1 (gI q) with
   |none=>rw[ad] at e;cases e
   |some s=>
    obtain⟨ab,ae,aB,aP⟩:=rq (lb q) (λs a2 a b=>(GD hf a b).1) _ _ _ aM ad
    rw[ad] at e
    cases e
    exact⟨by simp only[sz,dy];omega,by simp only[sz,dy,iH,q6];omega,aB,aP⟩
 split at e
 · cases ad:e0 g8 (fx f) (aI q.1).1 (gI q) with
   |none=>rw[ad] at e;cases e
   |some s=>
    obtain⟨ab,ae,aB,aP⟩:=rq (lb q) (λs a2 a b=>(CG hf a b).1) _ _ _ aM ad
    rw[ad] at e
    simp only[Option.bind_some] at e
    cases bu:f s.1 with
    |none=>rw[bu] at e;cases e
    |some y=>
     obtain⟨u,aR⟩:=y
     obtain⟨bx,bI,cP,dK⟩:=hf _ _ _ bu
     rw[bu] at e
     cases e
     exact⟨by simp only[sz,dy];omega,by simp only[sz,dy,iH,q6,List.length_nil];omega,cP,Nat.le_trans (Nat.le_of_lt dK) aP⟩
 split at e
 · cases ad:e0 g8 (fx f) (aI q.1).1 (gI q) with
   |none=>rw[ad] at e;cases e
   |some s=>
    obtain⟨ab,ae,aB,aP⟩:=rq (lb q) (λs a2 a b=>(CG hf a b).1) _ _ _ aM ad
    rw[ad] at e
    cases e
    exact⟨by simp only[sz,dy];omega,by simp only[sz,dy,iH,q6,List.length_nil];omega,aB,aP⟩
 · cases e
   exact⟨by simp[sz,eh,dy],by simp[iH,lz,q6,sz,eh,dy],h,Nat.le_refl _⟩
theorem w1(lo:Nat):∀j,zC (ct lo j)
 |0,q,t,bE,e=>by simp[ct] at e
 |j+1,q,t,bE,e=>by
  simp only[ct] at e
  split at e
  · rename_i ai
    obtain⟨ab,ae,aB,aP⟩:=ai
    obtain⟨bx,bI,cP,dK⟩:=aas (w1 lo j) aP e
    refine⟨by simp only at bx;omega,bI,cP,?_⟩
    cases aS:q.1 with
    |none=>rw[aS] at ab;cases ab
    |some l=>
     have:=aao l
     rw[aS] at dK
     simp only at dK
     omega
  · cases e
theorem sV{D:Type}{P:Program}{enc:D->List J}{w:Nat}{el sT:TypeId}(T:v5 P enc w el sT){B:Nat}{h:aa}{v src:J}{bd:List D}{d:D}(a7:fj enc w el B h v bd)(b4:B<=h.n)(hs:ha h w src=some (1,enc d))(aD:bd.length+1<=1000000):
  ∃an,gf P h sT (some sT) v src=some (.slice h.n 0 (bd++[d]).length (.a5 w),an)/\an.get h.n=some (.cells (gD enc (bd++[d])) el .a5 0 0)/\an.n=h.n+1/\Ext B h an/\∀c,c<h.n->(∀n aH,v≠ .slice c 0 n aH)->an.get c=h.get c:=by
 have er:ha h w src=some ([d].length,gD enc [d]):=by rw[hs];simp[gD]
 rcases a7 with⟨rfl,rfl⟩|⟨p,rfl,ae,aB,aP,cg⟩
 · rw[List.nil_append]
   exact⟨_,SI T er (by simp) (by simp),eB rfl,by simp,Ext.k0 b4 (Ext.refl _ _),λc ai _=>hj ai rfl⟩
 · refine⟨_,by rw[List.length_append];exact SJ T aB er (by simp) (by simpa using aD),eB (by simp),by simp,?_,λc ai hw=>?_⟩
   · exact Ext.k0 (by simp;omega) (Ext.fP aP (Ext.refl _ _))
   · exact hj (by simpa using ai) (et (λe=>hw _ _ (by rw[e])) rfl)
theorem fj.oz{D:Type}{enc:D->List J}{w el B:Nat}{h g:aa}{v:J}{bd:List D}(a7:fj enc w el B h v bd)(aM:h.n<=g.n)(ax:∀d,B<=d->d<h.n->g.get d=h.get d):fj enc w el B g v bd:=by
 rcases a7 with a7|⟨q,rfl,ae,aB,aP,cg⟩
 · exact .inl a7
 · exact .inr ⟨q,rfl,ae,(ax q aP cg).trans aB,aP,by omega⟩
theorem fj.low{D:Type}{enc:D->List J}{w el B:Nat}{h:aa}{v:J}{bd:List D}(a7:fj enc w el B h v bd){b:Nat}(ag:b<B\/h.n<=b):∀n aH,v≠ .slice b 0 n aH:=by
 intro n aH e
 rcases a7 with⟨rfl,_⟩|⟨q,rfl,ae,aB,aP,cg⟩
 · cases e
 · cases e;omega
end Go.Proofs.ew
namespace Go.Proofs.ew
open Go aC Go.Proofs dD Go.Proofs.cT
open Go.Proofs.df (hN cC mu)
open Go.Proofs.eN (e5 cf aI ch fm)
set_option maxRecDepth 100000
set_option maxHeartbeats 1000000
structure w2(p q a b c r base H0:Nat):Prop where
 sW:p<q
 q0:q<H0
 Ny:H0<=a
 dG:a<base
 c5:H0<=b
 a8:b<base
 iC:H0<=c
 c1:c<base
 gw:H0<=r
 bq:r<base
 acP:a≠b
 ac:a≠c
 acQ:a≠r
 ji:b≠c
 eL:b≠r
 acR:c≠r
abbrev ga(k:Nat)(bk a6:J):cJ:=.cells [.int .i64 (Int.ofNat k),.str [],bk,a6,.bb] 51 .own 0 0
structure kr(p q a b c r k base:Nat)(az:aa)(bk a6:J)(F:Nat->Prop)(rs:List Nat)(s:Acc)(h:aa):Prop where
 rd:cC h p s.1.1
 fi:h.get q=some (lH p s.1.2)
 bS:Fr p q az.n az h
 ac:h.get a=some (.cells [.ptr r 0] 47 .own 0 0)
 ji:h.get b=some (.cells [.ptr q 0] 59 .own 0 0)
 eX:h.get c=some (.cells [.fn 74 [] [.ptr a 0,.ptr b 0]] 1 .own 0 0)
 bs:base<=h.n
 c6:h.get r=some (ga k bk a6)
 jj:fj CE 1 9 base h bk s.2.1
 fY:fj zA 1 47 base h a6 rs
 c7:gu F h s.2.2 (rs.map λr=>.ptr r 0)
 fh:∀b,F b->base<=b/\b<h.n/\(∀n aH,bk≠ .slice b 0 n aH)/\(∀n aH,a6≠ .slice b 0 n aH)
theorem gu.GG{F:Nat->Prop}{h:aa}:∀{c7:List a_} {vs:List J},gu F h c7 vs->vs.length=c7.length
 |[],vs,ad=>by
  have e:vs=[]:=ad
  subst e;rfl
 |s::c7,vs,ad=>by
  obtain⟨u,ws,rfl,ae,aB⟩:=ad
  simp[gu.GG aB]
theorem kr.len{p q a b c r k base:Nat}{az h:aa}{bk a6:J}{F:Nat->Prop}{rs:List Nat}{s:Acc}(w:kr p q a b c r k base az bk a6 F rs s h):rs.length=s.2.2.length:=by
 have:=gu.GG w.c7
 simpa using this
theorem kr.later{p q a b c r k base:Nat}{az h g:aa}{bk a6:J}{F:Nat->Prop}{rs:List Nat}{s:Acc}(aj:w2 p q a b c r base az.n)(w:kr p q a b c r k base az bk a6 F rs s h){st:cf}{n:Nat}(al:cC g p st)(aS:g.get q=some (lH p n))(aM:h.n<=g.n)(ax:∀d,d<h.n->d≠p->d≠q->g.get d=h.get d):kr p q a b c r k base az bk a6 F rs ((st,n),s.2) g:=by
 obtain⟨ab,ae,aB,aP,cg,dN,fE,gl,gz,oA,Nz,NA,CH,NB,CI,CJ⟩:=aj
 have b4:=w.bs
 have ag:∀d,base<=d->d<h.n->g.get d=h.get d:=λd aj aD=>ax d aD (by omega) (by omega)
 exact⟨al,aS,w.bS.trans w.bS.n ⟨aM,λd aj aU aS=>ax d aj aU aS⟩,(ax a (by omega) (by omega) (by omega)).trans w.ac,(ax b (by omega) (by omega) (by omega)).trans w.ji,(ax c (by omega) (by omega) (by omega)).trans w.eX,by omega,(ax r (by omega) (by omega) (by omega)).trans w.c6,fj.oz w.jj aM ag,fj.oz w.fY aM ag,gu.b0 (λd aj=>⟨aj,ag d (w.fh d aj).1 (w.fh d aj).2.1⟩) _ _ w.c7,λd aj=>by obtain⟨bx,bI,cP,dK⟩:=w.fh d aj;exact⟨bx,by omega,cP,dK⟩⟩
theorem kr.arg{p q a b c r k base:Nat}{az h:aa}{bk a6:J}{F:Nat->Prop}{rs:List Nat}{s:Acc}(aj:w2 p q a b c r base az.n)(w:kr p q a b c r k base az bk a6 F rs s h){t:a_}{u:Nat}{G:Nat->Prop}{src:J}(bh:gM G h t (.ptr u 0))(eS:∀b,G b->base<=b/\b<h.n/\(∀n aH,bk≠ .slice b 0 n aH)/\(∀n aH,a6≠ .slice b 0 n aH))(hs:ha h 1 src=some (1,[.ptr u 0]))(aD:s.2.2.length<=1000):
  ∃g v,v=.slice h.n 0 (rs++[u]).length (.a5 1)/\gf Tryz.prog h 49 (some 49) a6 src=some (v,g)/\g.get a=h.get a/\g.get r=some (ga k bk a6)/\kr p q a b c r k base az bk v (λb=>F b\/G b) (rs++[u]) (s.1,(s.2.1,s.2.2++[t])) (g.set r (some (ga k bk v))):=by
 have hlen:=w.len
 obtain⟨g,e,aq,eQ,ks,jy⟩:=sV GB (d:=u) w.fY w.bs hs (by omega)
 obtain⟨ab,ae,aB,aP,cg,dN,fE,gl,gz,oA,Nz,NA,CH,NB,CI,CJ⟩:=aj
 have b4:=w.bs
 have lw:∀d,d<base->g.get d=h.get d:=λd aj=>ks.get d aj
 have dJ:∀d,d≠r->(g.set r (some (ga k bk (.slice h.n 0 (rs++[u]).length (.a5 1))))).get d=g.get d:=λd aj=>by rw[aa.bV,if_neg aj]
 refine⟨g,_,rfl,e,lw a aP,(lw r oA).trans w.c6,?_⟩
 refine⟨cC.jz w.rd (by simp;omega) λd aj=>(dJ d (by omega)).trans (lw d (by omega)),(dJ q (by omega)).trans ((lw q (by omega)).trans w.fi),w.bS.trans (Nat.le_refl _) ⟨by simp;omega,λd aj _ _=>(dJ d (by omega)).trans (lw d (by omega))⟩,(dJ a CH).trans ((lw a aP).trans w.ac),(dJ b CI).trans ((lw b dN).trans w.ji),(dJ c CJ).trans ((lw c gl).trans w.eX),by simp;omega,dF rfl,?_,?_,?_,?_⟩
 · rcases w.jj with aF|⟨x,aF,aG,bJ,dh,iq⟩
   · exact .inl aF
   · exact .inr ⟨x,aF,aG,(dJ x (by omega)).trans ((jy x iq (w.fY.ne bJ (.inr (by decide)))).trans bJ),dh,by simp;omega⟩
 · exact .inr ⟨h.n,rfl,by simp,(dJ h.n (by omega)).trans aq,b4,by simp;omega⟩
 · have aF:gu (λb=>F b\/G b) (g.set r (some (ga k bk (.slice h.n 0 (rs++[u]).length (.a5 1))))) s.2.2 (rs.map λr=>.ptr r 0):=gu.b0 (λd aj=>⟨.inl aj,by
     obtain⟨bx,bI,cP,dK⟩:=w.fh d aj
     exact(dJ d (by omega)).trans (jy d bI dK)⟩) _ _ w.c7
   have aG:gM (λb=>F b\/G b) (g.set r (some (ga k bk (.slice h.n 0 (rs++[u]).length (.a5 1))))) t (.ptr u 0):=gM.b0 (λd aj=>⟨.inr aj,by
    obtain⟨bx,bI,cP,dK⟩:=eS d aj
    exact(dJ d (by omega)).trans (jy d bI dK)⟩) _ _ bh
   show gu _ _ (s.2.2++[t]) ((rs++[u]).map _)
   rw[List.map_append]
   exact gu.snoc aG aF
 · intro d aj
   have key:base<=d/\d<h.n/\(∀n aH,bk≠ .slice d 0 n aH)/\(∀n aH,a6≠ .slice d 0 n aH):=by
    rcases aj with aj|aj
    · exact w.fh d aj
    · exact eS d aj
   obtain⟨bx,bI,cP,dK⟩:=key
   refine⟨bx,by simp;omega,cP,λn aH e=>?_⟩
   injection e with aF
   omega
theorem kr.name{p q a b c r k base:Nat}{az h:aa}{bk a6:J}{F:Nat->Prop}{rs:List Nat}{s:Acc}(aj:w2 p q a b c r base az.n)(w:kr p q a b c r k base az bk a6 F rs s h){x:bc}{src:J}(hs:ha h 1 src=some (1,[.str x]))(aD:s.2.1.length<=1000):
  ∃g v,v=.slice h.n 0 (s.2.1++[x]).length (.a5 1)/\gf Tryz.prog h 48 (some 48) bk src=some (v,g)/\g.get a=h.get a/\g.get r=some (ga k bk a6)/\kr p q a b c r k base az v a6 F rs (s.1,(s.2.1++[x],s.2.2)) (g.set r (some (ga k v a6))):=by
 obtain⟨g,e,aq,eQ,ks,jy⟩:=sV Nu (d:=x) w.jj w.bs hs (by omega)
 obtain⟨ab,ae,aB,aP,cg,dN,fE,gl,gz,oA,Nz,NA,CH,NB,CI,CJ⟩:=aj
 have b4:=w.bs
 have lw:∀d,d<base->g.get d=h.get d:=λd aj=>ks.get d aj
 have dJ:∀d,d≠r->(g.set r (some (ga k (.slice h.n 0 (s.2.1++[x]).length (.a5 1)) a6))).get d=g.get d:=λd aj=>by rw[aa.bV,if_neg aj]
 refine⟨g,_,rfl,e,lw a aP,(lw r oA).trans w.c6,?_⟩
 refine⟨cC.jz w.rd (by simp;omega) λd aj=>(dJ d (by omega)).trans (lw d (by omega)),(dJ q (by omega)).trans ((lw q (by omega)).trans w.fi),w.bS.trans (Nat.le_refl _) ⟨by simp;omega,λd aj _ _=>(dJ d (by omega)).trans (lw d (by omega))⟩,(dJ a CH).trans ((lw a aP).trans w.ac),(dJ b CI).trans ((lw b dN).trans w.ji),(dJ c CJ).trans ((lw c gl).trans w.eX),by simp;omega,dF rfl,?_,?_,?_,?_⟩
 · exact .inr ⟨h.n,rfl,by simp,(dJ h.n (by omega)).trans aq,b4,by simp;omega⟩
 · rcases w.fY with aF|⟨x,aF,aG,bJ,dh,iq⟩
   · exact .inl aF
   · exact .inr ⟨x,aF,aG,(dJ x (by omega)).trans ((jy x iq (w.jj.ne bJ (.inr (by decide)))).trans bJ),dh,by simp;omega⟩
 · exact gu.b0 (λd aj=>⟨aj,by
    obtain⟨bx,bI,cP,dK⟩:=w.fh d aj
    exact(dJ d (by omega)).trans (jy d bI cP)⟩) _ _ w.c7
 · intro d aj
   obtain⟨bx,bI,cP,dK⟩:=w.fh d aj
   refine⟨bx,by simp;omega,λn aH e=>?_,dK⟩
   injection e with aF
   omega
end Go.Proofs.ew
namespace Go.Proofs.ew
open Go aC Go.Proofs dD Go.Proofs.cT
open Go.Proofs.df (hN cC mu)
open Go.Proofs.eN (e5 cf aI ch fm)
set_option maxRecDepth 100000
set_option maxHeartbeats 1000000
def nN(p q:Nat)(h:aa)(o:Option (a_×Q))(x:ao):Prop:=match o with
 |none=>∃g,x=.bp fI g/\Fr p q h.n h g
 |some (t,st,n)=>∃r g F,x=.ret (.ptr r 0) g/\Fr p q h.n h g/\cC g p st/\g.get q=some (lH p n)/\gM F g t (.ptr r 0)/\∀b,F b->h.n<=b/\b<g.n
def GH(m j:Nat):Prop:=∀(p q:Nat) (h:aa) (st:cf) (n:Nat),p<q->q<h.n->cC h p st->h.get q=some (lH p n)->n<=60->61<=j+n->dg st<90000->nN p q h (ct 0 j (st,n)) (Y m (.fn 55) [.ptr q 0] h)
theorem NC{m j:Nat}(ai:GH m j){p q a b c r k base:Nat}{az h:aa}{bk a6:J}{F:Nat->Prop}{rs:List Nat}{s:Acc}(aj:w2 p q a b c r base az.n)(w:kr p q a b c r k base az bk a6 F rs s h)(aD:s.2.2.length<=1000)(fQ:s.1.2<=60)(aV:61<=j+s.1.2)(mv:dg s.1.1<90000):
  match fx (ct 0 j) s with
  |none=>∃g,Y (m+1) (.fn 74) [.ptr a 0,.ptr b 0] h=.bp fI g/\Fr p q az.n az g
  |some a2=>∃g jd eT jA,Y (m+1) (.fn 74) [.ptr a 0,.ptr b 0] h=.ret (.aL []) g/\kr p q a b c r k base az bk jd eT jA a2 g:=by
 have b4:=w.bs
 have aS:q<h.n:=by have:=aj.q0;have:=aj.Ny;have:=aj.dG;omega
 have hx:=aj.sW
 have eX:=ai p q (h.room 12) s.1.1 s.1.2 aj.sW (by simp;omega) (cC.sU w.rd) w.fi fQ aV mv
 have snd:J.sound a6=true:=fj.sound w.fY
 unfold fx
 cases ad:ct 0 j s.1 with
 |none=>
  rw[ad] at eX
  obtain⟨g,e,f⟩:=eX
  refine⟨g,Ns m a b h (R:=λx=>x=.bp fI g) ⟨r,ar (eH w.ac) rfl,r,ar (eH w.ac) rfl,a6,ar (eH w.c6) rfl,q,ar (eH w.ji) rfl,.inr ⟨fI,g,e,snd,rfl⟩⟩,?_⟩
  exact w.bS.trans w.bS.n ⟨by have:=f.n;simp at this;omega,λd hq aU aS=>f.get d (by simp;omega) aU aS⟩
 |some x=>
  obtain⟨t,st,n⟩:=x
  rw[ad] at eX
  obtain⟨u,g,G,e,f,h1,aY,u4,eS⟩:=eX
  have fn:=f.n
  simp only[aa.hh] at fn eS
  obtain⟨aq,cl⟩:∃aq,aq=g.set (h.n+7) (some (.cells [.ptr u 0] 47 .own 0 0)):=⟨_,rfl⟩
  have dJ:∀d,d≠h.n+7->aq.get d=g.get d:=λd aj=>by rw[cl,aa.bV,if_neg aj]
  have bR:=w.later aj (g:=aq) (st:=st) (n:=n) (by rw[cl];exact cC.l1 h1 (by omega)) ((dJ q (by omega)).trans aY) (by rw[cl];simp;omega) λd hq aU aS=>(dJ d (by omega)).trans (f.get d (by simp;omega) aU aS)
  have u5:gM G aq t (.ptr u 0):=gM.b0 (λd aj=>⟨aj,dJ d (by have:=eS d aj;omega)⟩) _ _ u4
  have a1:aq.n=g.n:=by rw[cl];simp
  obtain⟨aQ,v,rfl,fs,jF,sX,jU⟩:=bR.arg aj u5 (src:=.slice (h.n+7) 0 1 (.exact 1)) (λd hq=>⟨by have:=eS d hq;omega,by have:=eS d hq;omega,fj.low w.jj (.inr (by have:=eS d hq;omega)),fj.low w.fY (.inr (by have:=eS d hq;omega))⟩) (by
   have:aC.loadCells aq (h.n+7) 0 (1*1)=some [.ptr u 0]:=by rw[cl];exact ie (dF rfl) rfl
   simp only[ha,this]) aD
  have qx:=bR.ac
  have wn:=bR.c6
  subst cl
  refine⟨_,_,_,_,Ns m a b h (R:=λx=>x=.ret (.aL []) _) ⟨r,ar (eH w.ac) rfl,r,ar (eH w.ac) rfl,a6,ar (eH w.c6) rfl,q,ar (eH w.ji) rfl,.inl ⟨u,g,e,_,_,aQ,fs,_,dP sX rfl rfl,ar (jF.trans qx) rfl,ar qx rfl,ar qx rfl,snd,ar wn rfl,rfl⟩⟩,jU⟩
end Go.Proofs.ew
namespace Go.Proofs.ew
open Go aC Go.Proofs dD Go.Proofs.cT
open Go.Proofs.df (hN cC mu)
open Go.Proofs.eN (e5 cf aI ch fm)
set_option maxRecDepth 100000
set_option maxHeartbeats 1000000
theorem aat{m j:Nat}(hm:6<=m)(ai:GH m j){p q a b c r k base:Nat}{az h:aa}{bk a6:J}{F:Nat->Prop}{rs:List Nat}{s:Acc}(aj:w2 p q a b c r base az.n)(w:kr p q a b c r k base az bk a6 F rs s h)(aD:s.2.2.length<=1000)(jT:s.2.1.length<=1000)(fQ:s.1.2<=60)(aV:61<=j+s.1.2)(mv:dg s.1.1<90000):
  match kq (ct 0 j) s with
  |none=>∃g,Y (m+2) (.fn 75) [.ptr a 0,.ptr b 0,.ptr c 0] h=.bp fI g/\Fr p q az.n az g
  |some a2=>∃g lY jd eT jA,Y (m+2) (.fn 75) [.ptr a 0,.ptr b 0,.ptr c 0] h=.ret (.aL []) g/\kr p q a b c r k base az lY jd eT jA a2 g:=by
 have b4:=w.bs
 have aS:q<h.n:=by have:=aj.q0;have:=aj.Ny;have:=aj.dG;omega
 have hx:=aj.sW
 have snd:J.sound bk=true:=fj.sound w.jj
 obtain⟨g,ek,gB,rt⟩:=df.Cw (m+1-6) p s.1.1 (h.room 15) (cC.sU w.rd)
 rw[show m+1-6+6=m+1 by omega] at ek
 have fn:=gB.n
 simp only[aa.hh] at fn
 obtain⟨aq,cl⟩:∃aq,aq=g.set (h.n+10) (some (.cells [.str (ch s.1.1).1] 9 .own 0 0)):=⟨_,rfl⟩
 have dJ:∀d,d≠h.n+10->aq.get d=g.get d:=λd aj=>by rw[cl,aa.bV,if_neg aj]
 have bR:=w.later aj (g:=aq) (st:=(ch s.1.1).2) (n:=s.1.2) (by rw[cl];exact cC.l1 rt (by omega)) ((dJ q (by omega)).trans ((gB.get q (by simp;omega) (by omega)).trans w.fi)) (by rw[cl];simp;omega) λd hq aU aS=>(dJ d (by omega)).trans (gB.get d (by simp;omega) aU)
 obtain⟨aQ,v,aJ,fs,jF,sX,jU⟩:=bR.name aj (x:=(ch s.1.1).1) (src:=.slice (h.n+10) 0 1 (.exact 1)) (by
  have:aC.loadCells aq (h.n+10) 0 (1*1)=some [.str (ch s.1.1).1]:=by rw[cl];exact ie (dF rfl) rfl
  simp only[ha,this]) jT
 have qx:=bR.ac
 have wn:=bR.c6
 have ND:=jU.eX
 have GI:=rp s.1.1
 have eX:=NC ai aj jU aD fQ aV (by show dg (ch s.1.1).2<_;omega)
 obtain⟨s1,hT⟩:∃s1:Acc,s1=(((ch s.1.1).2,s.1.2),(s.2.1++[(ch s.1.1).1],s.2.2)):=⟨_,rfl⟩
 have aF:kq (ct 0 j) s=fx (ct 0 j) s1:=by rw[hT];rfl
 rw[aF]
 have eX:match fx (ct 0 j) s1 with
  |none=>∃g,Y (m+1) (.fn 74) [.ptr a 0,.ptr b 0] (aQ.set r (some (ga k v a6)))=.bp fI g/\Fr p q az.n az g
  |some a2=>∃g jd eT jA,Y (m+1) (.fn 74) [.ptr a 0,.ptr b 0] (aQ.set r (some (ga k v a6)))=.ret (.aL []) g/\kr p q a b c r k base az v jd eT jA a2 g:=by rw[hT];exact eX
 subst aJ
 cases ad:fx (ct 0 j) s1 with
 |none=>
  rw[ad] at eX
  obtain⟨a3,dh,f4⟩:=eX
  refine⟨a3,?_,f4⟩
  subst cl
  exact Nt (m+1) a b c h (R:=λx=>x=.bp fI a3) ⟨r,ar (eH w.ac) rfl,r,ar (eH w.ac) rfl,bk,ar (eH w.c6) rfl,q,ar (eH w.ji) rfl,p,ar (eH w.fi) rfl,_,g,ek,_,_,aQ,fs,_,dP sX rfl rfl,ar (jF.trans qx) rfl,ar qx rfl,ar qx rfl,snd,ar wn rfl,ar ND rfl,.inr ⟨fI,a3,dh,rfl⟩⟩
 |some a2=>
  rw[ad] at eX
  obtain⟨a3,jd,eT,jA,dh,AU⟩:=eX
  refine⟨a3,_,jd,eT,jA,?_,AU⟩
  subst cl
  exact Nt (m+1) a b c h (R:=λx=>x=.ret (.aL []) a3) ⟨r,ar (eH w.ac) rfl,r,ar (eH w.ac) rfl,bk,ar (eH w.c6) rfl,q,ar (eH w.ji) rfl,p,ar (eH w.fi) rfl,_,g,ek,_,_,aQ,fs,_,dP sX rfl rfl,ar (jF.trans qx) rfl,ar qx rfl,ar qx rfl,snd,ar wn rfl,ar ND rfl,.inl ⟨a3,dh,rfl⟩⟩
theorem qy{base H0 r k:Nat}{y:aa}{b8:bc}{bk a6 cZ:J}{F G:Nat->Prop}{rs:List Nat}{ns:List bc}{xs:List a_}{ot:Option a_}{bN:eE}{lo up:Nat}(al:y.get r=some (.cells [.int .i64 (Int.ofNat k),.str b8,bk,a6,cZ] 51 bN lo up))(jj:fj CE 1 9 base y bk ns)(fY:fj zA 1 47 base y a6 rs)(c7:gu F y xs (rs.map λr=>.ptr r 0))(to:j2 G y ot cZ)
  (ag:H0<=base)(oM:H0<=r/\r<y.n)(fh:∀b,F b->H0<=b/\b<y.n)(eS:∀b,G b->H0<=b/\b<y.n):∃eT,gM eT y (.mk k b8 ns xs ot) (.ptr r 0)/\∀b,eT b->H0<=b/\b<y.n:=by
 refine⟨λb=>F b\/G b\/b=r\/(∃n aH,bk=.slice b 0 n aH)\/∃n aH,a6=.slice b 0 n aH,⟨r,bk,a6,cZ,rs.map λr=>.ptr r 0,bN,lo,up,rfl,.inr (.inr (.inl rfl)),al,Nw (enc:=λs=>.str s) jj λb n aH e=>.inr (.inr (.inr (.inl ⟨n,aH,e⟩))),Nw (enc:=λr=>.ptr r 0) fY λb n aH e=>.inr (.inr (.inr (.inr ⟨n,aH,e⟩))),gu.b0 (λb ag=>⟨.inl ag,rfl⟩) _ _ c7,j2.b0 (λb ag=>⟨.inr (.inl ag),rfl⟩) _ _ to⟩,λb jo=>?_⟩
 rcases jo with h|h|h|⟨n,aH,h⟩|⟨n,aH,h⟩
 · exact fh b h
 · exact eS b h
 · omega
 · rcases jj with⟨e,_⟩|⟨x,e,_,_,dh,iq⟩
   · rw[e] at h;cases h
   · rw[e] at h;injection h with ab;omega
 · rcases fY with⟨e,_⟩|⟨x,e,_,_,dh,iq⟩
   · rw[e] at h;cases h
   · rw[e] at h;injection h with ab;omega
end Go.Proofs.ew
