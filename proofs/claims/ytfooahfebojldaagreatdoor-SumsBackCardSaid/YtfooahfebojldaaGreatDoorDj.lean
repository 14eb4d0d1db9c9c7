/-
  PROVED HERE: contracts of functions (Dj). No condition beside each statement's own.
-/
import Derived.Test.YtfooahfebojldaaGreatDoorDi
import Derived.Test.YtfooahfebojldaaGreatDoorDh
import Derived.Test.YtfooahfebojldaaGreatDoorTx
import Derived.Test.YtfooahfebojldaaGreatDoorSxb
set_option linter.unusedVariables false
set_option linter.unusedSimpArgs false
namespace Go.Proofs.cN
open Go ay Go.Proofs cS Go.Proofs.cf
set_option maxRecDepth 100000
set_option maxHeartbeats 1000000
theorem aaT(m:Nat)(n:List UInt8)(sM:List UInt8)(w:J)(ww:J)(h:aa){R:ax->Prop}(H:J.bF w=true/\J.bF ww=true/\∃s1:List UInt8,aA (aa.push (aa.push h (.cells [.str n,w] 53 .own 0 0)) (.cells [.str sM,ww] 53 .own 0 0)) h.n (0+0)=some (.str s1)/\∃s2:List UInt8,aA (aa.push (aa.push h (.cells [.str n,w] 53 .own 0 0)) (.cells [.str sM,ww] 53 .own 0 0)) (aa.n (aa.push h (.cells [.str n,w] 53 .own 0 0))) (0+0)=some (.str s2)/\(cw s1 s2=true->∃v1:J,aA (aa.push (aa.push h (.cells [.str n,w] 53 .own 0 0)) (.cells [.str sM,ww] 53 .own 0 0)) h.n (0+1)=some v1/\∃v2:J,aA (aa.push (aa.push h (.cells [.str n,w] 53 .own 0 0)) (.cells [.str sM,ww] 53 .own 0 0)) (aa.n (aa.push h (.cells [.str n,w] 53 .own 0 0))) (0+1)=some v2/\∃bh:Bool,∃al:aa,(Y m) (.fn 48) [v1,v2] (aa.push (aa.push h (.cells [.str n,w] 53 .own 0 0)) (.cells [.str sM,ww] 53 .own 0 0))=.ret (.bool bh) al/\R (.ret (.bool bh) al))/\(cw s1 s2=false->R (.ret (.bool false) (aa.push (aa.push h (.cells [.str n,w] 53 .own 0 0)) (.cells [.str sM,ww] 53 .own 0 0))))):
  R (Y (m+1) (.fn 47) [.agg [.str n,w],.agg [.str sM,ww]] h):=
 dH (intr:=b7) [(12,.bW .o),(14,.bW .o)] [(0,.ej [.v (.str n),.o w]),(1,.ej [.v (.str sM),.o ww])] Tryz.func47 (by kernel_rfl) (by kernel_rfl) (by kernel_rfl) rfl (Eq.mp (by kernel_rfl) H)
theorem aaU(m:Nat)(v:J)(w:J)(h:aa){R:ax->Prop}(H:∃aQ:Nat,cO Tryz.prog h 22 v=some (.int .i64 (.ofNat aQ))/\∃bw:Nat,cO Tryz.prog h 22 w=some (.int .i64 (.ofNat bw))/\(aQ=bw->∃cl:Nat,cO Tryz.prog h 22 v=some (.int .i64 (.ofNat cl))/\bB Tryz.prog Tryz.f49 (Y m) [1,1,0,1,0] (ar.mk [(1,w),(2,.fn 47 [] []),(15,v),(16,.int .i64 (.ofNat cl)),(17,.int .i64 (.ofNat 0))] [] .none h) (λc6 c0=>((∃al:aa,∃bD:Env,c6=.exit 0/\c0=ar.mk bD [] .none al/\cZ [] bD/\R (.ret (.bool true) al))\/(∃ak:aa,∃bT:Env,c6=.ret/\c0=ar.mk bT [] .none ak/\cZ [(6,.bool false)] bT/\R (.ret (.bool false) ak)))))/\(¬aQ=bw->R (.ret (.bool false) h))):
  R (Y (m+1) (.fn 49) [v,w,.fn 47 [] []] h):=
 dH (intr:=b7) [(4000,.fw [1,2,15,16,17] [(.exit 0,[]),(.ret,[(6,.is (.bool false))])])] [(0,.o v),(1,.o w),(2,.v (.fn 47 [] []))] Tryz.func49 (by kernel_rfl) (by kernel_rfl) (by kernel_rfl) rfl (Eq.mp (by kernel_rfl) H)
theorem aaV(call:aO->List J->aa->ax)(bh:Nat)(cT:Nat)(N:Nat)(bf:Nat)(dE:Nat)(M:Nat)(i:Nat)(c1:cj)(c2:cj)(h:aa){Q:bK->ar->Prop}(H:i<N/\i<N/\∃s1:List UInt8,∃v1:J,ay.loadCells h bh (cT+i*2) 2=some [.str s1,v1]/\J.bF v1=true/\∃al:aa,ay.storeCells (aa.push h (.cells [.str [],.bc] 53 .own 0 0)) h.n 0 [.str s1,v1]=some al/\i<M/\∃s2:List UInt8,∃v2:J,ay.loadCells al bf (dE+i*2) 2=some [.str s2,v2]/\J.bF v2=true/\∃ak:aa,ay.storeCells (aa.push al (.cells [.str [],.bc] 53 .own 0 0)) al.n 0 [.str s2,v2]=some ak/\∃bV:List UInt8,∃dr:J,ay.loadCells ak h.n 0 2=some [.str bV,dr]/\∃cK:List UInt8,∃v4:J,ay.loadCells ak al.n 0 2=some [.str cK,v4]/\∃dM:Bool,∃aS:aa,call (.fn 47) [.agg [.str bV,dr],.agg [.str cK,v4]] ak=.ret (.bool dM) aS/\(dM=true->i+1<9223372036854775808/\Q .nrm (ar.mk [(1,.slice bf dE M c2),(2,.fn 47 [] []),(15,.slice bh cT N c1),(16,.int .i64 (.ofNat N)),(17,.int .i64 (.ofNat (i+1)))] [] .none aS))/\(dM=false->Q .ret (ar.mk [(1,.slice bf dE M c2),(2,.fn 47 [] []),(6,.bool false),(15,.slice bh cT N c1),(16,.int .i64 (.ofNat N)),(17,.int .i64 (.ofNat i))] [] .none aS))):
  bB Tryz.prog Tryz.f49 call [1,1,0,1,0,0] ⟨[(1,.slice bf dE M c2),(2,.fn 47 [] []),(15,.slice bh cT N c1),(16,.int .i64 (.ofNat N)),(17,.int .i64 (.ofNat i))],[],.none,h⟩ Q:=
 gN [(1018,.t),(21,.bW (.ej [.st,.o])),(25,.bW (.ej [.st,.o])),(27,.bW (.ej [.st,.o])),(28,.bW (.ej [.st,.o])),(29,.bW .b)] [1,2,6,15,16,17] [(1,.v (.slice bf dE M c2)),(2,.v (.fn 47 [] [])),(15,.v (.slice bh cT N c1)),(16,.v (.int .i64 (.ofNat N))),(17,.v (.int .i64 (.ofNat i)))] rfl (Eq.mp (by kernel_rfl) H)
theorem aaW(call:aO->List J->aa->ax)(N:Nat)(i:Nat)(v:J)(w:J)(h:aa){Q:bK->ar->Prop}(H:¬i<N/\Q (.exit 0) (ar.mk [] [] .none h)):
  bB Tryz.prog Tryz.f49 call [1,1,0,1,0,0] ⟨[(1,w),(2,.fn 47 [] []),(15,v),(16,.int .i64 (.ofNat N)),(17,.int .i64 (.ofNat i))],[],.none,h⟩ Q:=
 gN [(1018,.f)] [] [(1,.o w),(2,.v (.fn 47 [] [])),(15,.o v),(16,.v (.int .i64 (.ofNat N))),(17,.v (.int .i64 (.ofNat i)))] rfl (Eq.mp (by kernel_rfl) H)
theorem aaX(m:Nat)(p:List UInt8)(pp:List UInt8)(dB:Bool)(dT:Bool)(vv:J)(vt:J)(lZ:J)(ut:J)(h:aa){R:ax->Prop}(H:J.bF vv=true/\J.bF vt=true/\J.bF lZ=true/\J.bF ut=true/\∃s1:List UInt8,aA (aa.push (aa.push h (.cells [.str p,.bool dB,vv,vt] 24 .own 0 0)) (.cells [.str pp,.bool dT,lZ,ut] 24 .own 0 0)) h.n (0+0)=some (.str s1)/\∃s2:List UInt8,aA (aa.push (aa.push h (.cells [.str p,.bool dB,vv,vt] 24 .own 0 0)) (.cells [.str pp,.bool dT,lZ,ut] 24 .own 0 0)) (aa.n (aa.push h (.cells [.str p,.bool dB,vv,vt] 24 .own 0 0))) (0+0)=some (.str s2)/\(cw s1 s2=true->∃bh:Bool,aA (aa.push (aa.push h (.cells [.str p,.bool dB,vv,vt] 24 .own 0 0)) (.cells [.str pp,.bool dT,lZ,ut] 24 .own 0 0)) h.n (0+1)=some (.bool bh)/\∃bf:Bool,aA (aa.push (aa.push h (.cells [.str p,.bool dB,vv,vt] 24 .own 0 0)) (.cells [.str pp,.bool dT,lZ,ut] 24 .own 0 0)) (aa.n (aa.push h (.cells [.str p,.bool dB,vv,vt] 24 .own 0 0))) (0+1)=some (.bool bf)/\(hK bh bf=true->∃v1:J,aA (aa.push (aa.push h (.cells [.str p,.bool dB,vv,vt] 24 .own 0 0)) (.cells [.str pp,.bool dT,lZ,ut] 24 .own 0 0)) h.n (0+2)=some v1/\∃v2:J,aA (aa.push (aa.push h (.cells [.str p,.bool dB,vv,vt] 24 .own 0 0)) (.cells [.str pp,.bool dT,lZ,ut] 24 .own 0 0)) (aa.n (aa.push h (.cells [.str p,.bool dB,vv,vt] 24 .own 0 0))) (0+2)=some v2/\∃dM:Bool,∃al:aa,(Y m) (.fn 49) [v1,v2,.fn 47 [] []] (aa.push (aa.push h (.cells [.str p,.bool dB,vv,vt] 24 .own 0 0)) (.cells [.str pp,.bool dT,lZ,ut] 24 .own 0 0))=.ret (.bool dM) al/\(dM=true->∃dr:J,aA al h.n (0+3)=some dr/\∃v4:J,aA al (aa.n (aa.push h (.cells [.str p,.bool dB,vv,vt] 24 .own 0 0))) (0+3)=some v4/\∃jZ:Bool,∃ak:aa,(Y m) (.fn 49) [dr,v4,.fn 47 [] []] al=.ret (.bool jZ) ak/\R (.ret (.bool jZ) ak))/\(dM=false->R (.ret (.bool false) al)))/\(hK bh bf=false->R (.ret (.bool false) (aa.push (aa.push h (.cells [.str p,.bool dB,vv,vt] 24 .own 0 0)) (.cells [.str pp,.bool dT,lZ,ut] 24 .own 0 0)))))/\(cw s1 s2=false->R (.ret (.bool false) (aa.push (aa.push h (.cells [.str p,.bool dB,vv,vt] 24 .own 0 0)) (.cells [.str pp,.bool dT,lZ,ut] 24 .own 0 0))))):
  R (Y (m+1) (.fn 19) [.agg [.str p,.bool dB,vv,vt],.agg [.str pp,.bool dT,lZ,ut]] h):=
 dH (intr:=b7) [] [(0,.ej [.v (.str p),.v (.bool dB),.o vv,.o vt]),(1,.ej [.v (.str pp),.v (.bool dT),.o lZ,.o ut])] Tryz.func19 (by kernel_rfl) (by kernel_rfl) (by kernel_rfl) rfl (Eq.mp (by kernel_rfl) H)
def m1:List dQ->List dQ->Bool
 |[],[]=>true
 |a::l,b::k=>cw a.1 b.1&&(oM a.2 b.2&&m1 l k)
 |_,_=>false
def p8(a b:fN):Bool:=cw a.path b.path&&((a.eY==b.eY)&&(m1 a.ky b.ky&&m1 a.mi b.mi))
theorem Of:∀(l k:List dQ),l.length≠k.length->m1 l k=false
 |[],[],h=>absurd rfl h
 |[],_::_,_=>rfl
 |_::_,[],_=>rfl
 |a::l,b::k,h=>by rw[m1,Of l k (by simpa using h)];simp
theorem aaY(m:Nat){B:Nat}{h:aa}{a b:dQ}{w w':J}(hm:310<=m)(bN:B<=h.n)(a5:ep B h a.2 w)(ag:ep B h b.2 w')(e6:fit a.2)(Hr:fit b.2):ca B h (.bool (cw a.1 b.1&&oM a.2 b.2)) (Y (m+1) (.fn 47) [.agg [.str a.1,w],.agg [.str b.1,w']] h):=by
 obtain⟨di,gW⟩:∃p,p=h.push (.cells [.str a.1,w] 53 .own 0 0):=⟨_,rfl⟩
 obtain⟨da,fM⟩:∃p,p=di.push (.cells [.str b.1,w'] 53 .own 0 0):=⟨_,rfl⟩
 have aQ:di.n=h.n+1:=by rw[gW];rfl
 have bo:Ext h.n h da:=by rw[fM];exact(by rw[gW];exact Ext.push (Nat.le_refl _) _:Ext h.n h di).jJ (by omega)
 have aR:da.get h.n=some (.cells [.str a.1,w] 53 .own 0 0):=by rw[fM,aa.eD,if_neg (by omega),gW];exact dA rfl
 have aT:da.get (h.n+1)=some (.cells [.str b.1,w'] 53 .own 0 0):=by rw[fM];exact dA aQ.symm
 have dq:Ext B h da:=bo.le bN
 have bA:=fm.ext dq (Nat.le_refl _)
 have ab:=e6.1
 have ae:=Hr.1
 obtain⟨g,c,gr⟩:=WM (m-1) (oa:=a.2) (ob:=b.2) (B:=B) (h:=da) (v:=w) (w:=w') (by omega) (by omega) e6.2 (Nat.le_trans bN dq.n) (by omega) (ep.bM bA _ _ a5) (ep.bM bA _ _ ag)
 rw[show m-1+1=m by omega] at c
 refine aaT m a.1 b.1 w w' h ⟨oW a5,oW ag,?_⟩
 rw[<-gW,<-fM,aQ]
 exact⟨_,aB aR rfl,_,aB aT rfl,λe=>⟨_,aB aR rfl,_,aB aT rfl,_,g,c,ca.of (fb (by rw[e];rfl)) (dq.trans (Nat.le_refl _) gr)⟩,λe=>ca.of (fb (by rw[e];rfl)) dq⟩
theorem Og(m:Nat){B:Nat}{h:aa}{v w:J}{l k:List dQ}(hm:320<=m)(bN:B<=h.n)(aH:kU B h v l)(hw:kU B h w k)(hlen:l.length<=90000)(e6:∀e∈l,fit e.2)(Hr:∀e∈k,fit e.2):
  ca B h (.bool (m1 l k)) (Y (m+1) (.fn 49) [v,w,.fn 47 [] []] h):=by
 refine aaU m v w h ⟨_,aH.len h,_,hw.len h,λe=>⟨_,aH.len h,?_⟩,λe=>ca.of (fb (Of l k e)) (Ext.refl _ _)⟩
 refine bB.loop (by kernel_rfl) (λt st=>∃i y Γ,st=⟨Γ,[],.none,y⟩/\cZ [(1,w),(2,.fn 47 [] []),(15,v),(16,.int .i64 (Int.ofNat l.length)),(17,.int .i64 (Int.ofNat i))] Γ/\l.length-i=t/\i<=l.length/\Ext B h y/\m1 l k=m1 (l.drop i) (k.drop i)) ?_ l.length _ (by omega) ⟨0,h,_,rfl,⟨rfl,rfl,rfl,rfl,rfl,trivial⟩,by omega,by omega,Ext.refl _ _,rfl⟩
 rintro t st ⟨i,y,Γ,rfl,dk,a2,af,g9,a1⟩
 by_cases ab:i<l.length
 · have h5:i<k.length:=by omega
   rcases aH with⟨_,rfl⟩|⟨bh,cT,c1,rfl,gh,pU,gW,adz⟩
   · simp at ab
   rcases hw with⟨_,rfl⟩|⟨bf,dE,c2,rfl,dS,kH,fM,J2⟩
   · simp at h5
   have p7:=Nat.le_trans bN g9.n
   obtain⟨x,ad,Hs⟩:=CV gh pU g9 ab
   obtain⟨g,ao⟩:∃g,g=(y.push (.cells [.str [],.bc] 53 .own 0 0)).set y.n (some (.cells [.str l[i].1,x] 53 .own 0 0)):=⟨_,rfl⟩
   have cr:ay.storeCells (y.push (.cells [.str [],.bc] 53 .own 0 0)) y.n 0 [.str l[i].1,x]=some g:=by
    rw[ao];exact dY (dA rfl) rfl (CW (a:=[]) (oW Hs))
   have sJ:g.get y.n=some (.cells [.str l[i].1,x] 53 .own 0 0):=by rw[ao];exact dN rfl
   have adA:g.n=y.n+1:=by rw[ao];rfl
   have gr:Ext y.n y g:=by rw[ao];exact(Ext.push (Nat.le_refl _) _).e3 (Nat.le_refl _)
   have lN:Ext B h g:=g9.trans (Nat.le_refl _) (gr.le p7)
   obtain⟨x',wD,Ht⟩:=CV dS kH lN h5
   obtain⟨ak,kS⟩:∃ak,ak=(g.push (.cells [.str [],.bc] 53 .own 0 0)).set g.n (some (.cells [.str k[i].1,x'] 53 .own 0 0)):=⟨_,rfl⟩
   have zy:ay.storeCells (g.push (.cells [.str [],.bc] 53 .own 0 0)) g.n 0 [.str k[i].1,x']=some ak:=by
    rw[kS];exact dY (dA rfl) rfl (CW (a:=[]) (oW Ht))
   have zp:ak.get g.n=some (.cells [.str k[i].1,x'] 53 .own 0 0):=by rw[kS];exact dN rfl
   have pX:Ext g.n g ak:=by rw[kS];exact(Ext.push (Nat.le_refl _) _).e3 (Nat.le_refl _)
   have aaZ:=(pX.get y.n (by omega)).trans sJ
   have zw:Ext B h ak:=lN.trans (Nat.le_refl _) (pX.le (Nat.le_trans bN lN.n))
   have aa0:Ext B y ak:=(gr.le p7).trans (Nat.le_refl _) (pX.le (Nat.le_trans bN lN.n))
   obtain⟨aS,c3,dj⟩:=aaY (m-1) (B:=B) (h:=ak) (a:=l[i]) (b:=k[i]) (w:=x) (w':=x') (by omega) (Nat.le_trans bN zw.n) (ep.bM (fm.ext aa0 (Nat.le_refl _)) _ _ Hs) (ep.bM (fm.ext (pX.le (Nat.le_trans bN lN.n)) (Nat.le_refl _)) _ _ Ht) (e6 _ (List.getElem_mem ab)) (Hr _ (List.getElem_mem h5))
   rw[show m-1+1=m by omega] at c3
   have bu:=zw.trans (Nat.le_refl _) dj
   rw[List.drop_eq_getElem_cons ab,List.drop_eq_getElem_cons h5,m1,<-Bool.and_assoc] at a1
   refine bB.pre (aaV (Y m) bh cT _ bf dE _ i c1 c2 y ⟨ab,ab,_,x,ad,oW Hs,g,cr,h5,_,x',wD,oW Ht,ak,zy,_,_,hq aaZ rfl,_,_,hq zp rfl,_,aS,c3,λah=>⟨by omega,?_⟩,λah=>?_⟩) dk rfl rfl rfl
   rotate_left
   · have:(cw l[i].1 k[i].1&&oM l[i].2 k[i].2)=false:=ah
     exact .inr ⟨aS,_,rfl,rfl,⟨rfl,trivial⟩,ca.of (fb (by rw[a1,this];rfl)) bu⟩
   · have:(cw l[i].1 k[i].1&&oM l[i].2 k[i].2)=true:=ah
     exact⟨_,(by show l.length-(i+1)<t;omega),i+1,aS,_,rfl,⟨rfl,rfl,rfl,rfl,rfl,trivial⟩,rfl,by omega,bu,by rw[a1,this];rfl⟩
 · refine bB.pre (aaW (Y m) l.length i v w y ⟨ab,.inl ⟨y,_,rfl,rfl,trivial,ca.of (fb ?_) g9⟩⟩) dk rfl rfl rfl
   rw[a1,List.drop_of_length_le (by omega),List.drop_of_length_le (by omega)];rfl
theorem CZ(m:Nat){B:Nat}{h:aa}{vv vt vv' vt':J}{x x':fN}(hm:330<=m)(bN:B<=h.n)(hs:kV B h vv vt x)(dF:kV B h vv' vt' x')(hf:la x)(Oh:la x'):ca B h (.bool (p8 x x')) (Y (m+1) (.fn 19) [.agg [.str x.path,.bool x.eY,vv,vt],.agg [.str x'.path,.bool x'.eY,vv',vt']] h):=by
 obtain⟨di,gW⟩:∃p,p=h.push (eV x.path x.eY vv vt):=⟨_,rfl⟩
 obtain⟨da,fM⟩:∃p,p=di.push (eV x'.path x'.eY vv' vt'):=⟨_,rfl⟩
 have aQ:di.n=h.n+1:=by rw[gW];rfl
 have bw:da.n=h.n+2:=by rw[fM];show di.n+1=_;omega
 have bo:Ext h.n h da:=by rw[fM];exact(by rw[gW];exact Ext.push (Nat.le_refl _) _:Ext h.n h di).jJ (by omega)
 have aR:da.get h.n=some (eV x.path x.eY vv vt):=by rw[fM,aa.eD,if_neg (by omega),gW];exact dA rfl
 have aT:da.get (h.n+1)=some (eV x'.path x'.eY vv' vt'):=by rw[fM];exact dA aQ.symm
 have dq:Ext B h da:=bo.le bN
 have uY:=Nat.le_trans bN bo.n
 have s2:=(hs.bM dq).le uY
 have Oi:=(dF.bM dq).le uY
 obtain⟨al,c1,aE⟩:=Og (m-1) (B:=da.n) (h:=da) (by omega) (Nat.le_refl _) s2.v Oi.v hf.dz hf.l1 Oh.l1
 rw[show m-1+1=m by omega] at c1
 obtain⟨ak,c2,aC⟩:=Og (m-1) (B:=da.n) (h:=al) (by omega) aE.n (s2.bM aE).t (Oi.bM aE).t hf.lt hf.CY Oh.CY
 rw[show m-1+1=m by omega] at c2
 have ba:=(aE.get h.n (by omega)).trans aR
 have bt:=(aE.get (h.n+1) (by omega)).trans aT
 have dI:Ext B h al:=dq.trans (Nat.le_refl _) (aE.le uY)
 have eS:Ext B h ak:=dI.trans (Nat.le_refl _) (aC.le uY)
 refine aaX m x.path x'.path x.eY x'.eY vv vt vv' vt' h ⟨hs.v.cell,hs.t.cell,dF.v.cell,dF.t.cell,?_⟩
 rw[<-gW,<-fM,aQ]
 exact⟨_,aB aR rfl,_,aB aT rfl,λab=>⟨_,aB aR rfl,_,aB aT rfl,λae=>⟨_,aB aR rfl,_,aB aT rfl,_,al,c1,λav=>⟨_,aB ba rfl,_,aB bt rfl,_,ak,c2,ca.of (fb (by unfold p8;rw[ab,show(x.eY==x'.eY)=true from ae,av];rfl)) eS⟩,λav=>ca.of (fb (by unfold p8;rw[ab,show(x.eY==x'.eY)=true from ae,av];rfl)) dI⟩,λae=>ca.of (fb (by unfold p8;rw[ab,show(x.eY==x'.eY)=false from ae];rfl)) dq⟩,λab=>ca.of (fb (by unfold p8;rw[ab];rfl)) dq⟩
end Go.Proofs.cN
namespace Go.Proofs.cN
open Go ay Go.Proofs cS Go.Proofs.cf
open Go.Proofs.cW (dC cg lM)
open Go.Proofs.ed (cM cv a_ cH ff)
set_option maxRecDepth 100000
set_option maxHeartbeats 1000000
theorem Oj(m:Nat)(b:Bool)(h:aa){R:ax->Prop}(H:(b=true->R (.ret (.aD []) h))/\(b=false->R (.bk (.iface 58 (.agg [])) h))):
  R (Y (m+1) (.fn 25) [.bool b] h):=
 dH (intr:=b7) [] [(0,.v (.bool b))] Tryz.func25 (by kernel_rfl) (by kernel_rfl) (by kernel_rfl) rfl (Eq.mp (by kernel_rfl) H)
theorem Ok(m:Nat)(q:Nat)(f:Nat)(caps:List J)(v:J)(h:aa){R:ax->Prop}(H:∃aQ:Nat,aA h q (0+0)=some (.ptr aQ 0)/\∃bw:Nat,∃al:aa,(Y m) (.fn 24) [.ptr aQ 0] h=.ret (.int .u64 (.ofNat bw)) al/\bB Tryz.prog Tryz.f53 (Y m) [1,0] (ar.mk [(0,.ptr q 0),(1,.fn f [] caps),(4,.int .u64 (.ofNat bw))] [] .none al) (λc6 c0=>((∃ak:aa,∃bD:Env,c6=.exit 0/\c0=ar.mk bD [] .none ak/\cZ [] bD/\R (.ret (.aD []) ak))\/(∃aS:aa,∃bT:Env,c6=.bk v/\c0=ar.mk bT [] .none aS/\cZ [] bT/\R (.bk v aS))))):
  R (Y (m+1) (.fn 53) [.ptr q 0,.fn f [] caps] h):=
 dH (intr:=b7) [(4000,.fw [0,1,4] [(.exit 0,[]),(.bk v,[])])] [(0,.v (.ptr q 0)),(1,.o (.fn f [] caps))] Tryz.func53 (by kernel_rfl) (by kernel_rfl) (by kernel_rfl) rfl (Eq.mp (by kernel_rfl) H)
theorem C0(call:aO->List J->aa->ax)(q:Nat)(n:Nat)(f:Nat)(caps:List J)(h:aa){Q:bK->ar->Prop}(H:(0<n->∃aQ:Nat,aA h q (0+0)=some (.ptr aQ 0)/\∃bh:Bool,∃al:aa,call (.fn 26) [.ptr aQ 0] h=.ret (.bool bh) al/\((∃ak:aa,call (.fn 25) [.bool bh] al=.ret (.aD []) ak/\((∃aS:aa,call (.fn f) caps ak=.ret (.aD []) aS/\(1<=n/\n<18446744073709551616)/\Q .nrm (ar.mk [(0,.ptr q 0),(1,.fn f [] caps),(4,.int .u64 (.ofNat (n-1)))] [] .none aS))\/(∃v1:J,∃bb:aa,call (.fn f) caps ak=.bk v1 bb/\Q (.bk v1) (ar.mk [(0,.ptr q 0),(1,.fn f [] caps),(4,.int .u64 (.ofNat n))] [] .none bb))))\/(∃v2:J,∃ch:aa,call (.fn 25) [.bool bh] al=.bk v2 ch/\Q (.bk v2) (ar.mk [(0,.ptr q 0),(1,.fn f [] caps),(4,.int .u64 (.ofNat n))] [] .none ch))))/\(¬0<n->Q (.exit 0) (ar.mk [(0,.ptr q 0),(1,.fn f [] caps),(4,.int .u64 (.ofNat n))] [] .none h))):
  bB Tryz.prog Tryz.f53 call [1,0,0] ⟨[(0,.ptr q 0),(1,.fn f [] caps),(4,.int .u64 (.ofNat n))],[],.none,h⟩ Q:=
 gN [(19,.e none .o),(21,.e none .o)] [0,1,4] [(0,.v (.ptr q 0)),(1,.o (.fn f [] caps)),(4,.v (.int .u64 (.ofNat n)))] rfl (Eq.mp (by kernel_rfl) H)
theorem Ol(m:Nat)(q:Nat)(h:aa){R:ax->Prop}(H:∃aQ:Nat,aA (aa.push (aa.push h (.cells [.ptr q 0] 59 .own 0 0)) (.cells [.az] 22 .own 0 0)) h.n 0=some (.ptr aQ 0)/\((∃al:aa,(Y m) (.fn 53) [.ptr aQ 0,.fn 54 [] [.ptr h.n 0,.ptr (aa.n (aa.push h (.cells [.ptr q 0] 59 .own 0 0))) 0]] (aa.push (aa.push h (.cells [.ptr q 0] 59 .own 0 0)) (.cells [.az] 22 .own 0 0))=.ret (.aD []) al/\∃v1:J,aA al (aa.n (aa.push h (.cells [.ptr q 0] 59 .own 0 0))) 0=some v1/\R (.ret v1 al))\/(∃v2:J,∃ak:aa,(Y m) (.fn 53) [.ptr aQ 0,.fn 54 [] [.ptr h.n 0,.ptr (aa.n (aa.push h (.cells [.ptr q 0] 59 .own 0 0))) 0]] (aa.push (aa.push h (.cells [.ptr q 0] 59 .own 0 0)) (.cells [.az] 22 .own 0 0))=.bk v2 ak/\R (.bk v2 ak)))):
  R (Y (m+1) (.fn 27) [.ptr q 0] h):=
 dH (intr:=b7) [(6,.e none .o)] [(0,.v (.ptr q 0))] Tryz.func27 (by kernel_rfl) (by kernel_rfl) (by kernel_rfl) rfl (Eq.mp (by kernel_rfl) H)
theorem Om(m:Nat)(a:Nat)(b:Nat)(h:aa){R:ax->Prop}(H:∃aQ:Nat,aA h a 0=some (.ptr aQ 0)/\∃al:aa,ay.storeCells h aQ (0+1) [.int .i64 (.ofNat 0)]=some al/\∃bw:Nat,aA al a 0=some (.ptr bw 0)/\∃cl:Nat,aA al bw (0+0)=some (.ptr cl 0)/\∃s1:List UInt8,∃ak:aa,(Y m) (.fn 23) [.ptr cl 0] al=.ret (.str s1) ak/\∃v1:J,aA (ak.room 8) b 0=some v1/\∃cC:Nat,aA (ak.room 8) a 0=some (.ptr cC 0)/\((∃c5:Nat,∃aS:aa,(Y m) (.fn 55) [.ptr cC 0] (ak.room 8)=.ret (.ptr c5 0) aS/\∃dV:Nat,∃fo:Nat,∃bb:aa,gl Tryz.prog (aa.set aS (ak.n+5) (some (.cells [.str s1,.ptr c5 0] 53 .own 0 0))) 22 (some 22) v1 (.slice (ak.n+5) 0 1 (.exact 1))=some (.slice dV 0 fo (.aM 2),bb)/\∃ch:aa,ay.storeCells bb b 0 [.slice dV 0 fo (.aM 2)]=some ch/\J.sound v1=true/\aA (aa.set aS (ak.n+5) (some (.cells [.str s1,.ptr c5 0] 53 .own 0 0))) b 0=some v1/\R (.ret (.aD []) ch))\/(∃v2:J,∃cc:aa,(Y m) (.fn 55) [.ptr cC 0] (ak.room 8)=.bk v2 cc/\J.sound v1=true/\R (.bk v2 cc)))):
  R (Y (m+1) (.fn 54) [.ptr a 0,.ptr b 0] h):=
 dH (intr:=b7) [(14,.e none .o),(17,.bW (.ub (.aM 2)))] [(0,.v (.ptr a 0)),(1,.v (.ptr b 0))] Tryz.func54 (by kernel_rfl) (by kernel_rfl) (by kernel_rfl) rfl (Eq.mp (by kernel_rfl) H)
theorem On(m:Nat)(a:Nat)(b:Nat)(h:aa){R:ax->Prop}(H:∃aQ:Nat,aA (h.room 12) a 0=some (.ptr aQ 0)/\∃bw:Nat,aA (h.room 12) a 0=some (.ptr bw 0)/\∃v1:J,aA (h.room 12) bw (0+3)=some v1/\∃cl:Nat,aA (h.room 12) b 0=some (.ptr cl 0)/\((∃cC:Nat,∃al:aa,(Y m) (.fn 55) [.ptr cl 0] (h.room 12)=.ret (.ptr cC 0) al/\∃c5:Nat,∃dV:Nat,∃ak:aa,gl Tryz.prog (aa.set al (h.n+7) (some (.cells [.ptr cC 0] 47 .own 0 0))) 49 (some 49) v1 (.slice (h.n+7) 0 1 (.exact 1))=some (.slice c5 0 dV (.aM 1),ak)/\∃aS:aa,ay.storeCells ak aQ (0+3) [.slice c5 0 dV (.aM 1)]=some aS/\aA ak a 0=some (.ptr aQ 0)/\aA (aa.set al (h.n+7) (some (.cells [.ptr cC 0] 47 .own 0 0))) a 0=some (.ptr aQ 0)/\aA (aa.set al (h.n+7) (some (.cells [.ptr cC 0] 47 .own 0 0))) a 0=some (.ptr bw 0)/\J.sound v1=true/\aA (aa.set al (h.n+7) (some (.cells [.ptr cC 0] 47 .own 0 0))) bw (0+3)=some v1/\R (.ret (.aD []) aS))\/(∃v2:J,∃bb:aa,(Y m) (.fn 55) [.ptr cl 0] (h.room 12)=.bk v2 bb/\J.sound v1=true/\R (.bk v2 bb)))):
  R (Y (m+1) (.fn 74) [.ptr a 0,.ptr b 0] h):=
 dH (intr:=b7) [(8,.e none .o),(10,.bW (.ub (.aM 1)))] [(0,.v (.ptr a 0)),(1,.v (.ptr b 0))] Tryz.func74 (by kernel_rfl) (by kernel_rfl) (by kernel_rfl) rfl (Eq.mp (by kernel_rfl) H)
theorem Oo(m:Nat)(a:Nat)(b:Nat)(c:Nat)(h:aa){R:ax->Prop}(H:∃aQ:Nat,aA (h.room 15) a 0=some (.ptr aQ 0)/\∃bw:Nat,aA (h.room 15) a 0=some (.ptr bw 0)/\∃v1:J,aA (h.room 15) bw (0+2)=some v1/\∃cl:Nat,aA (h.room 15) b 0=some (.ptr cl 0)/\∃cC:Nat,aA (h.room 15) cl (0+0)=some (.ptr cC 0)/\∃s1:List UInt8,∃al:aa,(Y m) (.fn 23) [.ptr cC 0] (h.room 15)=.ret (.str s1) al/\∃c5:Nat,∃dV:Nat,∃ak:aa,gl Tryz.prog (aa.set al (h.n+10) (some (.cells [.str s1] 9 .own 0 0))) 48 (some 48) v1 (.slice (h.n+10) 0 1 (.exact 1))=some (.slice c5 0 dV (.aM 1),ak)/\∃aS:aa,ay.storeCells ak aQ (0+2) [.slice c5 0 dV (.aM 1)]=some aS/\aA ak a 0=some (.ptr aQ 0)/\aA (aa.set al (h.n+10) (some (.cells [.str s1] 9 .own 0 0))) a 0=some (.ptr aQ 0)/\aA (aa.set al (h.n+10) (some (.cells [.str s1] 9 .own 0 0))) a 0=some (.ptr bw 0)/\J.sound v1=true/\aA (aa.set al (h.n+10) (some (.cells [.str s1] 9 .own 0 0))) bw (0+2)=some v1/\aA aS c 0=some (.fn 74 [] [.ptr a 0,.ptr b 0])/\((∃bb:aa,(Y m) (.fn 74) [.ptr a 0,.ptr b 0] aS=.ret (.aD []) bb/\R (.ret (.aD []) bb))\/(∃v2:J,∃ch:aa,(Y m) (.fn 74) [.ptr a 0,.ptr b 0] aS=.bk v2 ch/\R (.bk v2 ch)))):
  R (Y (m+1) (.fn 75) [.ptr a 0,.ptr b 0,.ptr c 0] h):=
 dH (intr:=b7) [(14,.bW (.ub (.aM 1))),(17,.bW (.is (.fn 74 [] [.ptr a 0,.ptr b 0]))),(18,.e none .o)] [(0,.v (.ptr a 0)),(1,.v (.ptr b 0)),(2,.v (.ptr c 0))] Tryz.func75 (by kernel_rfl) (by kernel_rfl) (by kernel_rfl) rfl (Eq.mp (by kernel_rfl) H)
abbrev Q:=cv×Nat
abbrev Acc:=Q×(List aL×List a3)
def eF{σ:Type}(ok:σ->Bool)(f:σ->Option σ):Nat->σ->Option σ
 |0,s=>some s
 |k+1,s=>if ok s then(f s).bind (eF ok f k) else none
def gY(f:Q->Option (a3×Q))(x:Acc):Option Acc:=(f x.1).map λr=>(r.2,(x.2.1,x.2.2++[r.1]))
def lb(f:Q->Option (a3×Q))(x:Acc):Option Acc:=gY f (((cH x.1.1).2,x.1.2),(x.2.1++[(cH x.1.1).1],x.2.2))
def hY(x:Acc):Bool:=x.1.1.isSome
def gu(q:Q):Acc:=(((a_ q.1).2,q.2),([],[]))
def hv(f:Q->Option (a3×Q))(k:Nat)(q:Q):Option (a3×Q):=
 if k=6 then some (.mk 6 (cH q.1).1 [] [] none,((cH q.1).2,q.2))
 else if k=7 then(eF hY (lb f) (a_ q.1).1 (gu q)).map λs=>(.mk 7 [] s.2.1 s.2.2 none,s.1)
 else if k=8 then(eF hY (gY f) (a_ q.1).1 (gu q)).bind λs=>(f s.1).map λr=>(.mk 8 [] [] s.2.2 (some r.1),r.2)
 else if k=9 then(eF hY (gY f) (a_ q.1).1 (gu q)).map λs=>(.mk 9 [] [] s.2.2 none,s.1)
 else some (.mk k [] [] [] none,q)
def dd(aW:Nat):Nat->Q->Option (a3×Q)
 |0,_=>none
 |j+1,q=>if(a_ q.1).2.isSome=true/\aW<=(a_ q.1).1/\(a_ q.1).1<=9/\q.2+1<=60 then hv (dd aW j) (a_ q.1).1 ((a_ q.1).2,q.2+1) else none
def ee:cv->Nat
 |none=>0
 |some l=>l.length+1
theorem uZ(st:cv):ee (a_ st).2<=ee st:=by
 cases st with
 |none=>exact Nat.le_refl _
 |some s=>
  have h:=ed.G1 (some s)
  cases e:(a_ (some s)).2 with
  |none=>simp[ee]
  |some t=>rw[e] at h;simp only[ed.left,ee] at*;omega
theorem aa1(s:List UInt8):ee (a_ (some s)).2<ee (some s):=by
 rcases ed.YU s with h|h
 · cases e:(a_ (some s)).2 with
   |none=>simp[ee]
   |some t=>rw[e] at h;simp only[ed.left,ee] at*;omega
 · rw[h];simp[ee]
theorem aa2(n:Nat)(st:cv):ee (ff n st).2<=ee st:=by
 cases st with
 |none=>exact Nat.le_refl _
 |some s=>
  simp only[ff]
  by_cases h:n<=s.length
  · rw[if_pos h];simp only[ee,List.length_drop];omega
  · rw[if_neg h];simp[ee]
theorem wW(st:cv):ee (cH st).2<=ee st:=Nat.le_trans (aa2 _ _) (uZ st)
structure Fr(p q B:Nat)(h g:aa):Prop where
 n:h.n<=g.n
 get:∀b,b<B->b≠p->b≠q->g.get b=h.get b
theorem Fr.refl(p q B:Nat)(h:aa):Fr p q B h h:=⟨Nat.le_refl _,λ_ _ _ _=>rfl⟩
theorem Fr.trans{p q B C:Nat}{h g k:aa}(bN:B<=C)(e:Fr p q B h g)(cI:Fr p q C g k):Fr p q B h k:=⟨Nat.le_trans e.n cI.n,λb ag aY a1=>(cI.get b (by omega) aY a1).trans (e.get b ag aY a1)⟩
theorem Fr.aa3{p q B:Nat}{h g:aa}(e:cz p B h g):Fr p q B h g:=⟨e.n,λb ag aY _=>e.get b ag aY⟩
theorem Fr.le{p q B C:Nat}{h g:aa}(bN:B<=C)(e:Fr p q C h g):Fr p q B h g:=⟨e.n,λb ag aY a1=>e.get b (by omega) aY a1⟩
theorem Fr.set{p q B b:Nat}{h g:aa}{o:Option b3}(e:Fr p q B h g)(ag:B<=b\/b=p\/b=q):Fr p q B h (g.set b o):=⟨by simpa using e.n,λc ah aY a1=>by rw[aa.bH,if_neg (by omega)];exact e.get c ah aY a1⟩
theorem Fr.push{p q B:Nat}{h g:aa}{o:b3}(e:Fr p q B h g)(bN:B<=g.n):Fr p q B h (g.push o):=⟨Nat.le_trans e.n (by simp),λc ah aY a1=>by rw[aa.eD,if_neg (by omega)];exact e.get c ah aY a1⟩
theorem cg.sN{h g:aa}{p:Nat}{st:cv}(ai:cg h p st)(aJ:h.n<=g.n)(au:∀b,b<=p->g.get b=h.get b):cg g p st:=by
 cases st with
 |none=>obtain⟨ab,ae⟩:=ai;exact⟨by omega,(au p (Nat.le_refl _)).trans ae⟩
 |some s=>
  obtain⟨ab,ae,v,av,aK⟩:=ai
  refine⟨by omega,ae,v,(au p (Nat.le_refl _)).trans av,?_⟩
  rcases aK with aK|⟨b,pre,aR,aT,bP,eR⟩
  · exact .inl aK
  · exact .inr ⟨b,pre,aR,by omega,bP,(au b (Nat.le_of_lt bP)).trans eR⟩
theorem cg.u0{h:aa}{p b:Nat}{st:cv}{o:Option b3}(ai:cg h p st)(ag:p<b):cg (h.set b o) p st:=
 cg.sN ai (by simp) λc ah=>by rw[aa.bH,if_neg (by omega)]
theorem cg.Oq{h:aa}{p:Nat}{st:cv}{o:b3}(ai:cg h p st):cg (h.push o) p st:=
 cg.sN ai (by simp) λc ah=>by rw[aa.eD,if_neg (by have:=ai.lt;omega)]
theorem cg.zz{h:aa}{p k:Nat}{st:cv}(ai:cg h p st):cg (h.room k) p st:=cg.sN ai (by simp) λc ah=>rfl
abbrev fh:J:=.iface 58 (.agg [])
abbrev kW(p n:Nat):b3:=.cells [.ptr p 0,.int .i64 (Int.ofNat n)] 63 .own 0 0
theorem C1(m:Nat)(h:aa):Y (m+1) (.fn 25) [.bool true] h=.ret (.aD []) h:=Oj m true h (R:=λx=>x=.ret (.aD []) h) ⟨λ_=>rfl,nofun⟩
theorem zA(m:Nat)(h:aa):Y (m+1) (.fn 25) [.bool false] h=.bk fh h:=Oj m false h (R:=λx=>x=.bk fh h) ⟨nofun,λ_=>rfl⟩
theorem Hu(m:Nat){σ:Type}{I:σ->aa->Prop}{P:aa->Prop}{rd:σ->cv}{f:σ->Option σ}{fnum p q:Nat}{caps:List J}
  (po:∀s h,I s h->cg h p (rd s)/\∃n,h.get q=some (kW p n))
  (aa4:∀s h,I s h->P h)
  (aa5:∀s h,I s h->(rd s).isSome=true->match f s with
   |none=>∃g,Y (m+5) (.fn fnum) caps h=.bk fh g/\P g
   |some a4=>∃g,Y (m+5) (.fn fnum) caps h=.ret (.aD []) g/\I a4 g/\ee (rd a4)<ee (rd s))
  {h:aa}{st:cv}{s0:σ}(ai:cg h p st)(a1:∃n,h.get q=some (kW p n))(aw:ee st<90000)(dW:rd s0=(a_ st).2)
  (kQ:∀g,cz p h.n h g->cg g p (a_ st).2->I s0 g):
  match eF (λs=>(rd s).isSome) f (a_ st).1 s0 with
  |none=>∃g,Y (m+6) (.fn 53) [.ptr q 0,.fn fnum [] caps] h=.bk fh g/\P g
  |some a4=>∃g,Y (m+6) (.fn 53) [.ptr q 0,.fn fnum [] caps] h=.ret (.aD []) g/\I a4 g:=by
 obtain⟨g,c,x,r⟩:=cW.CP m p st h ai
 obtain⟨qO,a1⟩:=a1
 obtain⟨N,im⟩:∃N,N=(a_ st).1:=⟨_,rfl⟩
 have Ot:=ed.No st
 rw[<-im] at c Ot⊢
 obtain⟨gm,ru⟩:∃gm,gm=eF (λs=>(rd s).isSome) f N s0:=⟨_,rfl⟩
 rw[<-ru]
 have fw:∀{Q:bK->ar->Prop},(∀a4 g Γ,gm=some a4->I a4 g->Q (.exit 0) ⟨Γ,[],.none,g⟩)->(∀g Γ,gm=none->P g->Q (.bk fh) ⟨Γ,[],.none,g⟩)->bB Tryz.prog Tryz.f53 (Y (m+5)) [1,0] ⟨[(0,.ptr q 0),(1,.fn fnum [] caps),(4,.int .u64 (Int.ofNat N))],[],.none,g⟩ Q:=by
  intro Q ad aY
  refine bB.loop (by kernel_rfl) (λk z=>∃n s y Γ,z=⟨Γ,[],.none,y⟩/\cZ [(0,.ptr q 0),(1,.fn fnum [] caps),(4,.int .u64 (Int.ofNat n))] Γ/\ee (rd s)=k/\n<18446744073709551616/\I s y/\gm=eF (λs=>(rd s).isSome) f n s) ?_ (ee (rd s0)) _ (by rw[dW];have:=uZ st;omega) ⟨N,s0,g,_,rfl,⟨rfl,rfl,rfl,trivial⟩,rfl,Ot,kQ g x r,ru⟩
  rintro k z ⟨n,s,y,Γ,rfl,dk,au,aJ,af,he⟩
  obtain⟨aa6,q7,iL⟩:=po s y af
  have a8:=cW.CK (m+4) p (rd s) y aa6
  cases n with
  |zero=>exact bB.pre (C0 (Y (m+5)) q 0 fnum caps y ⟨λaj=>absurd aj (by omega),λ_=>ad s y _ he af⟩) dk rfl rfl rfl
  |succ n=>
   by_cases cR:(rd s).isSome=true
   · have oX:(!(rd s).isNone)=true:=by cases hs:rd s with|none=>rw[hs] at cR;cases cR|some _=>rfl
     rw[oX] at a8
     have ah:=aa5 s y af cR
     simp only[eF,cR,if_true] at he
     cases hf:f s with
     |none=>
      rw[hf] at ah he
      obtain⟨ak,c2,kS⟩:=ah
      exact bB.pre (C0 (Y (m+5)) q (n+1) fnum caps y ⟨λ_=>⟨p,aB iL rfl,true,y,a8,.inl ⟨y,C1 _ _,.inr ⟨fh,ak,c2,aY ak _ he kS⟩⟩⟩,λaj=>absurd (by omega) aj⟩) dk rfl rfl rfl
     |some a4=>
      rw[hf] at ah he
      obtain⟨ak,c2,yn,kH⟩:=ah
      exact bB.pre (C0 (Y (m+5)) q (n+1) fnum caps y ⟨λ_=>⟨p,aB iL rfl,true,y,a8,.inl ⟨y,C1 _ _,.inl ⟨ak,c2,⟨by omega,aJ⟩,_,by rw[<-au];exact kH,n,a4,ak,_,rfl,⟨rfl,rfl,rfl,trivial⟩,rfl,by omega,yn,he⟩⟩⟩,λaj=>absurd (by omega) aj⟩) dk rfl rfl rfl
   · have oX:(!(rd s).isNone)=false:=by cases hs:rd s with|none=>rfl|some _=>rw[hs] at cR;exact absurd rfl cR
     rw[oX] at a8
     simp only[eF,if_neg cR] at he
     exact bB.pre (C0 (Y (m+5)) q (n+1) fnum caps y ⟨λ_=>⟨p,aB iL rfl,false,y,a8,.inr ⟨fh,y,zA _ _,aY y _ he (aa4 s y af)⟩⟩,λaj=>absurd (by omega) aj⟩) dk rfl rfl rfl
 cases gX:gm with
 |none=>exact Ok (m+5) q fnum caps fh h (R:=λx=>∃g,x=.bk fh g/\P g) ⟨p,aB a1 rfl,N,g,c,fw (λa4 g Γ e _=>by rw[gX] at e;cases e) λg Γ _ ao=>.inr ⟨g,Γ,rfl,rfl,trivial,g,rfl,ao⟩⟩
 |some a4=>exact Ok (m+5) q fnum caps fh h (R:=λx=>∃g,x=.ret (.aD []) g/\I a4 g) ⟨p,aB a1 rfl,N,g,c,fw (λs2 g Γ e ao=>by rw[gX] at e;cases e;exact .inl ⟨g,Γ,rfl,rfl,trivial,g,rfl,ao⟩) λg Γ e _=>by rw[gX] at e;cases e⟩
end Go.Proofs.cN
namespace Go.Proofs.cN
open Go ay Go.Proofs cS Go.Proofs.cf
open Go.Proofs.cW (dC cg lM)
open Go.Proofs.ed (cM cv a_ cH ff)
set_option maxRecDepth 100000
set_option maxHeartbeats 1000000
def q8(F:Nat->Prop)(h:aa)(v:J)(vs:List J):Prop:=(v=.az/\vs=[])\/∃b off aG,v=.slice b off vs.length aG/\F b/\(∀i (af:i<vs.length),aA h b (off+i*1)=some vs[i])/\0<vs.length/\aG≠ .dead
mutual
def hx(F:Nat->Prop)(h:aa):a3->J->Prop
 |.mk k bZ ns xs rt,v=>∃r b5 bJ dy vs cd aW up,v=.ptr r 0/\F r/\h.get r=some (.cells [.int .i64 (Int.ofNat k),.str bZ,b5,bJ,dy] 51 cd aW up)/\q8 F h b5 (ns.map .str)/\q8 F h bJ vs/\g_ F h xs vs/\ha F h rt dy
def g_(F:Nat->Prop)(h:aa):List a3->List J->Prop
 |[],vs=>vs=[]
 |t::ts,vs=>∃v ws,vs=v::ws/\hx F h t v/\g_ F h ts ws
def ha(F:Nat->Prop)(h:aa):Option a3->J->Prop
 |none,v=>v=.bc
 |some t,v=>hx F h t v
end
theorem q8.bM{F G:Nat->Prop}{h g:aa}{v:J}{vs:List J}(e:∀b,F b->G b/\g.get b=h.get b)(hs:q8 F h v vs):q8 G g v vs:=by
 rcases hs with hs|⟨b,off,aG,ab,ae,av,aK⟩
 · exact .inl hs
 · refine .inr ⟨b,off,aG,ab,(e b ae).1,λi af=>?_,aK⟩
   rw[<-av i af]
   unfold aA
   rw[(e b ae).2]
mutual
theorem hx.bM{F G:Nat->Prop}{h g:aa}(e:∀b,F b->G b/\g.get b=h.get b):∀(t:a3) (v:J),hx F h t v->hx G g t v
 |.mk k bZ ns xs rt,v,ad=>by
  obtain⟨r,b5,bJ,dy,vs,cd,aW,up,ab,ae,av,aK,bU,cB,eo⟩:=ad
  exact⟨r,b5,bJ,dy,vs,cd,aW,up,ab,(e r ae).1,(e r ae).2.trans av,aK.bM e,bU.bM e,g_.bM e xs vs cB,ha.bM e rt dy eo⟩
theorem g_.bM{F G:Nat->Prop}{h g:aa}(e:∀b,F b->G b/\g.get b=h.get b):∀(ts:List a3) (vs:List J),g_ F h ts vs->g_ G g ts vs
 |[],vs,ad=>ad
 |t::ts,vs,ad=>by
  obtain⟨v,ws,ab,ae,av⟩:=ad
  exact⟨v,ws,ab,hx.bM e t v ae,g_.bM e ts ws av⟩
theorem ha.bM{F G:Nat->Prop}{h g:aa}(e:∀b,F b->G b/\g.get b=h.get b):∀(t:Option a3) (v:J),ha F h t v->ha G g t v
 |none,v,ad=>ad
 |some t,v,ad=>hx.bM e t v ad
end
mutual
theorem hx.at{F:Nat->Prop}{B:Nat}{h:aa}(e:∀b,F b->b<B):∀(t:a3) (v:J),hx F h t v->e4 B h t v
 |.mk k bZ ns xs rt,v,ad=>by
  obtain⟨r,b5,bJ,dy,vs,cd,aW,up,ab,ae,av,aK,bU,cB,eo⟩:=ad
  have ih:∀{v:J} {vs:List J},q8 F h v vs->eT B h v vs:=by
   intro v vs hs
   rcases hs with hs|⟨b,off,aG,ab,ae,av,aK⟩
   · exact .inl hs
   · exact .inr ⟨b,off,aG,ab,e b ae,av,aK⟩
  exact⟨r,b5,bJ,dy,vs,cd,aW,up,ab,e r ae,av,ih aK,ih bU,g_.at e xs vs cB,ha.at e rt dy eo⟩
theorem g_.at{F:Nat->Prop}{B:Nat}{h:aa}(e:∀b,F b->b<B):∀(ts:List a3) (vs:List J),g_ F h ts vs->e5 B h ts vs
 |[],vs,ad=>ad
 |t::ts,vs,ad=>by
  obtain⟨v,ws,ab,ae,av⟩:=ad
  exact⟨v,ws,ab,hx.at e t v ae,g_.at e ts ws av⟩
theorem ha.at{F:Nat->Prop}{B:Nat}{h:aa}(e:∀b,F b->b<B):∀(t:Option a3) (v:J),ha F h t v->ep B h t v
 |none,v,ad=>ad
 |some t,v,ad=>hx.at e t v ad
end
theorem g_.snoc{F:Nat->Prop}{h:aa}{t:a3}{v:J}(a2:hx F h t v):∀{ts:List a3} {vs:List J},g_ F h ts vs->g_ F h (ts++[t]) (vs++[v])
 |[],vs,ad=>by
  have e:vs=[]:=ad
  subst e
  exact⟨v,[],rfl,a2,rfl⟩
 |s::ts,vs,ad=>by
  obtain⟨w,ws,rfl,ae,av⟩:=ad
  exact⟨w,ws++[v],rfl,ae,g_.snoc a2 av⟩
abbrev Hv(s:aL):List J:=[.str s]
abbrev Hw(r:Nat):List J:=[.ptr r 0]
theorem aa7:sa Tryz.prog Hv 1 9 48 where
 hu:=by kernel_rfl
 gU:=by kernel_rfl
 info:=by
  obtain⟨i,af⟩:=Option.isSome_iff_exists.1 (show(Tryz.prog.info? 9).isSome=true by kernel_rfl)
  refine⟨i,af,?_,?_⟩
  · have:(Tryz.prog.info? 9).map (·.size)=some 1:=by kernel_rfl
    rw[af] at this;simpa using this
  · have:(Tryz.prog.info? 9).map (λi=>Nat.ble i.bytes 1000)=some true:=by kernel_rfl
    rw[af] at this
    exact Nat.le_of_ble_eq_true (by simpa using this)
 zero:=⟨.str [],by kernel_rfl,rfl⟩
 size:=by kernel_rfl
 len:=λ_=>rfl
 cell:=λ_=>rfl
 pos:=by decide
theorem aa8:sa Tryz.prog Hw 1 47 49 where
 hu:=by kernel_rfl
 gU:=by kernel_rfl
 info:=by
  obtain⟨i,af⟩:=Option.isSome_iff_exists.1 (show(Tryz.prog.info? 47).isSome=true by kernel_rfl)
  refine⟨i,af,?_,?_⟩
  · have:(Tryz.prog.info? 47).map (·.size)=some 1:=by kernel_rfl
    rw[af] at this;simpa using this
  · have:(Tryz.prog.info? 47).map (λi=>Nat.ble i.bytes 1000)=some true:=by kernel_rfl
    rw[af] at this
    exact Nat.le_of_ble_eq_true (by simpa using this)
 zero:=⟨.bc,by kernel_rfl,rfl⟩
 size:=by kernel_rfl
 len:=λ_=>rfl
 cell:=λ_=>rfl
 pos:=by decide
theorem Ou{D:Type}(enc:D->J):∀aV:List D,fU (λd=>[enc d]) aV=aV.map enc
 |[]=>rfl
 |d::l=>by
  show[enc d]++fU _ l=enc d::l.map enc
  rw[Ou enc l];rfl
theorem Ov{D:Type}{enc:D->J}{el B:Nat}{F:Nat->Prop}{h:aa}{v:J}{aV:List D}(a8:f_ (λd=>[enc d]) 1 el B h v aV)(hZ:∀b n aG,v=.slice b 0 n aG->F b):q8 F h v (aV.map enc):=by
 rcases a8 with⟨rfl,rfl⟩|⟨b,rfl,ae,av,aK,bU⟩
 · exact .inl ⟨rfl,rfl⟩
 · refine .inr ⟨b,0,.aM 1,by rw[List.length_map],hZ b _ _ rfl,λi af=>?_,by rw[List.length_map];exact ae,by simp⟩
   have e:=Ou enc aV
   rw[e] at av
   exact BX av (by rw[List.getElem?_eq_getElem (by simpa using af)];simp)
end Go.Proofs.cN
namespace Go.Proofs.cN
open Go ay Go.Proofs cS Go.Proofs.cf
open Go.Proofs.cW (dC cg lM)
open Go.Proofs.ed (cM cv a_ cH ff)
set_option maxRecDepth 100000
set_option maxHeartbeats 1000000
theorem wX{σ:Type}{ok:σ->Bool}{f:σ->Option σ}(P:σ->Prop)(hf:∀s a4,P s->f s=some a4->P a4):∀(n:Nat) (s a4:σ),P s->eF ok f n s=some a4->P a4
 |0,s,a4,h,e=>by simp only[eF,Option.some.injEq] at e;exact e▸h
 |n+1,s,a4,h,e=>by
  simp only[eF] at e
  split at e
  · cases ad:f s with
    |none=>rw[ad] at e;cases e
    |some x=>rw[ad] at e;exact wX P hf n x a4 (hf s x h ad) e
  · cases e
theorem zB:∀(l m:List a3),dP (l++m)=dP l+dP m
 |[],m=>by simp[dP]
 |x::l,m=>by simp only[List.cons_append,dP];rw[zB l m];omega
theorem Hx:∀(l m:List a3),kP (l++m)=kP l+kP m
 |[],m=>by simp[kP]
 |x::l,m=>by simp only[List.cons_append,kP];rw[Hx l m];omega
theorem C2(t:a3):dP [t]=sz t:=by simp[dP]
theorem Ow(t:a3):kP [t]=hV t:=by simp[kP]
def zC(f:Q->Option (a3×Q)):Prop:=∀q t bq,f q=some (t,bq)->bq.2=q.2+sz t/\hV t+1<=sz t/\bq.2<=60/\ee bq.1<ee q.1
def oY(q:Q)(s:Acc):Prop:=s.1.2=q.2+dP s.2.2/\kP s.2.2+s.2.1.length<=dP s.2.2/\s.1.2<=60/\ee s.1.1<=ee q.1
theorem Hy{f:Q->Option (a3×Q)}(hf:zC f){q:Q}{s a4:Acc}(h:oY q s)(e:gY f s=some a4):oY q a4/\ee a4.1.1<ee s.1.1:=by
 unfold gY at e
 cases ad:f s.1 with
 |none=>rw[ad] at e;cases e
 |some x=>
  obtain⟨t,bq⟩:=x
  rw[ad] at e
  obtain rfl:(bq,(s.2.1,s.2.2++[t]))=a4:=by simpa using e
  obtain⟨ab,ae,av,aK⟩:=h
  obtain⟨bz,bA,c8,e1⟩:=hf _ _ _ ad
  refine⟨⟨?_,?_,c8,by show ee bq.1<=_;omega⟩,e1⟩
  · show bq.2=q.2+dP (s.2.2++[t])
    rw[zB,C2];omega
  · show kP (s.2.2++[t])+s.2.1.length<=dP (s.2.2++[t])
    rw[zB,C2,Hx,Ow];omega
theorem Ox{f:Q->Option (a3×Q)}(hf:zC f){q:Q}{s a4:Acc}(h:oY q s)(e:lb f s=some a4):oY q a4/\ee a4.1.1<ee s.1.1:=by
 unfold lb gY at e
 simp only at e
 cases ad:f ((cH s.1.1).2,s.1.2) with
 |none=>rw[ad] at e;cases e
 |some x=>
  obtain⟨t,bq⟩:=x
  rw[ad] at e
  obtain rfl:(bq,(s.2.1++[(cH s.1.1).1],s.2.2++[t]))=a4:=by simpa using e
  obtain⟨ab,ae,av,aK⟩:=h
  obtain⟨bz,bA,c8,e1⟩:=hf _ _ _ ad
  simp only at bz e1
  have:=wW s.1.1
  refine⟨⟨?_,?_,c8,by show ee bq.1<=_;omega⟩,by show ee bq.1<_;omega⟩
  · show bq.2=q.2+dP (s.2.2++[t])
    rw[zB,C2];omega
  · show kP (s.2.2++[t])+(s.2.1++[(cH s.1.1).1]).length<=dP (s.2.2++[t])
    rw[zB,C2,Hx,Ow,List.length_append]
    show _+(_+1)<=_
    omega
theorem Oy(q:Q)(h:q.2<=60):oY q (gu q):=⟨by simp[gu,dP],by simp[gu,dP,kP],h,uZ q.1⟩
theorem aa9{f:Q->Option (a3×Q)}(hf:zC f){k:Nat}{q bq:Q}{t:a3}(h:q.2<=60)(e:hv f k q=some (t,bq)):bq.2+1=q.2+sz t/\hV t+1<=sz t/\bq.2<=60/\ee bq.1<=ee q.1:=by
 unfold hv at e
 have aJ:=Oy q h
 split at e
 · cases e
   exact⟨by simp[sz,dP,dw],by simp[hV,kP,oG,sz,dP,dw],h,wW _⟩
 split at e
 · cases ad:eF hY (lb f) (a_ q.1).1 (gu q) with
   |none=>rw[ad] at e;cases e
   |some s=>
    obtain⟨ab,ae,av,aK⟩:=wX (oY q) (λs a4 a b=>(Ox hf a b).1) _ _ _ aJ ad
    rw[ad] at e
    cases e
    exact⟨by simp only[sz,dw];omega,by simp only[sz,dw,hV,oG];omega,av,aK⟩
 split at e
 · cases ad:eF hY (gY f) (a_ q.1).1 (gu q) with
   |none=>rw[ad] at e;cases e
   |some s=>
    obtain⟨ab,ae,av,aK⟩:=wX (oY q) (λs a4 a b=>(Hy hf a b).1) _ _ _ aJ ad
    rw[ad] at e
    simp only[Option.bind_some] at e
    cases a6:f s.1 with
    |none=>rw[a6] at e;cases e
    |some y=>
     obtain⟨u,aT⟩:=y
     obtain⟨bz,bA,c8,e1⟩:=hf _ _ _ a6
     rw[a6] at e
     cases e
     exact⟨by simp only[sz,dw];omega,by simp only[sz,dw,hV,oG,List.length_nil];omega,c8,Nat.le_trans (Nat.le_of_lt e1) aK⟩
 split at e
 · cases ad:eF hY (gY f) (a_ q.1).1 (gu q) with
   |none=>rw[ad] at e;cases e
   |some s=>
    obtain⟨ab,ae,av,aK⟩:=wX (oY q) (λs a4 a b=>(Hy hf a b).1) _ _ _ aJ ad
    rw[ad] at e
    cases e
    exact⟨by simp only[sz,dw];omega,by simp only[sz,dw,hV,oG,List.length_nil];omega,av,aK⟩
 · cases e
   exact⟨by simp[sz,dP,dw],by simp[hV,kP,oG,sz,dP,dw],h,Nat.le_refl _⟩
theorem Hz(aW:Nat):∀j,zC (dd aW j)
 |0,q,t,bq,e=>by simp[dd] at e
 |j+1,q,t,bq,e=>by
  simp only[dd] at e
  split at e
  · rename_i ah
    obtain⟨ab,ae,av,aK⟩:=ah
    obtain⟨bz,bA,c8,e1⟩:=aa9 (Hz aW j) aK e
    refine⟨by simp only at bz;omega,bA,c8,?_⟩
    cases a1:q.1 with
    |none=>rw[a1] at ab;cases ab
    |some l=>
     have:=aa1 l
     rw[a1] at e1
     simp only at e1
     omega
  · cases e
theorem C3{D:Type}{P:Program}{enc:D->List J}{w:Nat}{el sT:TypeId}(T:sa P enc w el sT){B:Nat}{h:aa}{v src:J}{aV:List D}{d:D}(a8:f_ enc w el B h v aV)(bN:B<=h.n)(hs:hP h w src=some (1,enc d))(aw:aV.length+1<=1000000):
  ∃an,gl P h sT (some sT) v src=some (.slice h.n 0 (aV++[d]).length (.aM w),an)/\an.get h.n=some (.cells (fU enc (aV++[d])) el .aM 0 0)/\an.n=h.n+1/\Ext B h an/\∀c,c<h.n->(∀n aG,v≠ .slice c 0 n aG)->an.get c=h.get c:=by
 have dF:hP h w src=some ([d].length,fU enc [d]):=by rw[hs];simp[fU]
 rcases a8 with⟨rfl,rfl⟩|⟨p,rfl,ae,av,aK,bU⟩
 · rw[List.nil_append]
   exact⟨_,UK T dF (by simp) (by simp),dA rfl,by simp,Ext.jJ bN (Ext.refl _ _),λc ah _=>h6 ah rfl⟩
 · refine⟨_,by rw[List.length_append];exact UL T av dF (by simp) (by simpa using aw),dA (by simp),by simp,?_,λc ah hw=>?_⟩
   · exact Ext.jJ (by simp;omega) (Ext.e3 aK (Ext.refl _ _))
   · exact h6 (by simpa using ah) (eh (λe=>hw _ _ (by rw[e])) rfl)
theorem f_.zD{D:Type}{enc:D->List J}{w el B:Nat}{h g:aa}{v:J}{aV:List D}(a8:f_ enc w el B h v aV)(aJ:h.n<=g.n)(au:∀d,B<=d->d<h.n->g.get d=h.get d):f_ enc w el B g v aV:=by
 rcases a8 with a8|⟨q,rfl,ae,av,aK,bU⟩
 · exact .inl a8
 · exact .inr ⟨q,rfl,ae,(au q aK bU).trans av,aK,by omega⟩
theorem f_.low{D:Type}{enc:D->List J}{w el B:Nat}{h:aa}{v:J}{aV:List D}(a8:f_ enc w el B h v aV){b:Nat}(ag:b<B\/h.n<=b):∀n aG,v≠ .slice b 0 n aG:=by
 intro n aG e
 rcases a8 with⟨rfl,_⟩|⟨q,rfl,ae,av,aK,bU⟩
 · cases e
 · cases e;omega
end Go.Proofs.cN
namespace Go.Proofs.cN
open Go ay Go.Proofs cS Go.Proofs.cf
open Go.Proofs.cW (dC cg lM)
open Go.Proofs.ed (cM cv a_ cH ff)
set_option maxRecDepth 100000
set_option maxHeartbeats 1000000
structure wY(p q a b c r base H0:Nat):Prop where
 HA:p<q
 gv:q<H0
 m2:H0<=a
 ds:a<base
 cF:H0<=b
 bh:b<base
 gQ:H0<=c
 c1:c<base
 gm:H0<=r
 ba:r<base
 adB:a≠b
 ac:a≠c
 adC:a≠r
 iy:b≠c
 dB:b≠r
 adD:c≠r
abbrev kz(k:Nat)(b5 bJ:J):b3:=.cells [.int .i64 (Int.ofNat k),.str [],b5,bJ,.bc] 51 .own 0 0
structure jP(p q a b c r k base:Nat)(h0:aa)(b5 bJ:J)(F:Nat->Prop)(rs:List Nat)(s:Acc)(h:aa):Prop where
 rd:cg h p s.1.1
 je:h.get q=some (kW p s.1.2)
 b0:Fr p q h0.n h0 h
 ac:h.get a=some (.cells [.ptr r 0] 47 .own 0 0)
 iy:h.get b=some (.cells [.ptr q 0] 59 .own 0 0)
 fl:h.get c=some (.cells [.fn 74 [] [.ptr a 0,.ptr b 0]] 1 .own 0 0)
 bs:base<=h.n
 ef:h.get r=some (kz k b5 bJ)
 m3:f_ Hv 1 9 base h b5 s.2.1
 hL:f_ Hw 1 47 base h bJ rs
 ts:g_ F h s.2.2 (rs.map λr=>.ptr r 0)
 hZ:∀b,F b->base<=b/\b<h.n/\(∀n aG,b5≠ .slice b 0 n aG)/\(∀n aG,bJ≠ .slice b 0 n aG)
theorem g_.Oz{F:Nat->Prop}{h:aa}:∀{ts:List a3} {vs:List J},g_ F h ts vs->vs.length=ts.length
 |[],vs,ad=>by
  have e:vs=[]:=ad
  subst e;rfl
 |s::ts,vs,ad=>by
  obtain⟨u,ws,rfl,ae,av⟩:=ad
  simp[g_.Oz av]
theorem jP.len{p q a b c r k base:Nat}{h0 h:aa}{b5 bJ:J}{F:Nat->Prop}{rs:List Nat}{s:Acc}(w:jP p q a b c r k base h0 b5 bJ F rs s h):rs.length=s.2.2.length:=by
 have:=g_.Oz w.ts
 simpa using this
theorem jP.later{p q a b c r k base:Nat}{h0 h g:aa}{b5 bJ:J}{F:Nat->Prop}{rs:List Nat}{s:Acc}(aq:wY p q a b c r base h0.n)(w:jP p q a b c r k base h0 b5 bJ F rs s h){st:cv}{n:Nat}(ai:cg g p st)(a1:g.get q=some (kW p n))(aJ:h.n<=g.n)(au:∀d,d<h.n->d≠p->d≠q->g.get d=h.get d):jP p q a b c r k base h0 b5 bJ F rs ((st,n),s.2) g:=by
 obtain⟨ab,ae,av,aK,bU,cB,eo,fG,fH,C4,C5,OA,C6,OB,C7,C8⟩:=aq
 have bN:=w.bs
 have ag:∀d,base<=d->d<h.n->g.get d=h.get d:=λd aq aw=>au d aw (by omega) (by omega)
 exact⟨ai,a1,w.b0.trans w.b0.n ⟨aJ,λd aq aY a1=>au d aq aY a1⟩,(au a (by omega) (by omega) (by omega)).trans w.ac,(au b (by omega) (by omega) (by omega)).trans w.iy,(au c (by omega) (by omega) (by omega)).trans w.fl,by omega,(au r (by omega) (by omega) (by omega)).trans w.ef,f_.zD w.m3 aJ ag,f_.zD w.hL aJ ag,g_.bM (λd aq=>⟨aq,ag d (w.hZ d aq).1 (w.hZ d aq).2.1⟩) _ _ w.ts,λd aq=>by obtain⟨bz,bA,c8,e1⟩:=w.hZ d aq;exact⟨bz,by omega,c8,e1⟩⟩
theorem jP.arg{p q a b c r k base:Nat}{h0 h:aa}{b5 bJ:J}{F:Nat->Prop}{rs:List Nat}{s:Acc}(aq:wY p q a b c r base h0.n)(w:jP p q a b c r k base h0 b5 bJ F rs s h){t:a3}{u:Nat}{G:Nat->Prop}{src:J}(a2:hx G h t (.ptr u 0))(gC:∀b,G b->base<=b/\b<h.n/\(∀n aG,b5≠ .slice b 0 n aG)/\(∀n aG,bJ≠ .slice b 0 n aG))(hs:hP h 1 src=some (1,[.ptr u 0]))(aw:s.2.2.length<=1000):
  ∃g v,v=.slice h.n 0 (rs++[u]).length (.aM 1)/\gl Tryz.prog h 49 (some 49) bJ src=some (v,g)/\g.get a=h.get a/\g.get r=some (kz k b5 bJ)/\jP p q a b c r k base h0 b5 v (λb=>F b\/G b) (rs++[u]) (s.1,(s.2.1,s.2.2++[t])) (g.set r (some (kz k b5 v))):=by
 have hlen:=w.len
 obtain⟨g,e,al,eW,u1,nT⟩:=C3 aa8 (d:=u) w.hL w.bs hs (by omega)
 obtain⟨ab,ae,av,aK,bU,cB,eo,fG,fH,C4,C5,OA,C6,OB,C7,C8⟩:=aq
 have bN:=w.bs
 have lw:∀d,d<base->g.get d=h.get d:=λd aq=>u1.get d aq
 have fD:∀d,d≠r->(g.set r (some (kz k b5 (.slice h.n 0 (rs++[u]).length (.aM 1))))).get d=g.get d:=λd aq=>by rw[aa.bH,if_neg aq]
 refine⟨g,_,rfl,e,lw a aK,(lw r C4).trans w.ef,?_⟩
 refine⟨cg.sN w.rd (by simp;omega) λd aq=>(fD d (by omega)).trans (lw d (by omega)),(fD q (by omega)).trans ((lw q (by omega)).trans w.je),w.b0.trans (Nat.le_refl _) ⟨by simp;omega,λd aq _ _=>(fD d (by omega)).trans (lw d (by omega))⟩,(fD a C6).trans ((lw a aK).trans w.ac),(fD b C7).trans ((lw b cB).trans w.iy),(fD c C8).trans ((lw c fG).trans w.fl),by simp;omega,dN rfl,?_,?_,?_,?_⟩
 · rcases w.m3 with aE|⟨x,aE,aC,bu,cX,gJ⟩
   · exact .inl aE
   · exact .inr ⟨x,aE,aC,(fD x (by omega)).trans ((nT x gJ (w.hL.ne bu (.inr (by decide)))).trans bu),cX,by simp;omega⟩
 · exact .inr ⟨h.n,rfl,by simp,(fD h.n (by omega)).trans al,bN,by simp;omega⟩
 · have aE:g_ (λb=>F b\/G b) (g.set r (some (kz k b5 (.slice h.n 0 (rs++[u]).length (.aM 1))))) s.2.2 (rs.map λr=>.ptr r 0):=g_.bM (λd aq=>⟨.inl aq,by
     obtain⟨bz,bA,c8,e1⟩:=w.hZ d aq
     exact(fD d (by omega)).trans (nT d bA e1)⟩) _ _ w.ts
   have aC:hx (λb=>F b\/G b) (g.set r (some (kz k b5 (.slice h.n 0 (rs++[u]).length (.aM 1))))) t (.ptr u 0):=hx.bM (λd aq=>⟨.inr aq,by
    obtain⟨bz,bA,c8,e1⟩:=gC d aq
    exact(fD d (by omega)).trans (nT d bA e1)⟩) _ _ a2
   show g_ _ _ (s.2.2++[t]) ((rs++[u]).map _)
   rw[List.map_append]
   exact g_.snoc aC aE
 · intro d aq
   have key:base<=d/\d<h.n/\(∀n aG,b5≠ .slice d 0 n aG)/\(∀n aG,bJ≠ .slice d 0 n aG):=by
    rcases aq with aq|aq
    · exact w.hZ d aq
    · exact gC d aq
   obtain⟨bz,bA,c8,e1⟩:=key
   refine⟨bz,by simp;omega,c8,λn aG e=>?_⟩
   injection e with aE
   omega
theorem jP.name{p q a b c r k base:Nat}{h0 h:aa}{b5 bJ:J}{F:Nat->Prop}{rs:List Nat}{s:Acc}(aq:wY p q a b c r base h0.n)(w:jP p q a b c r k base h0 b5 bJ F rs s h){x:aL}{src:J}(hs:hP h 1 src=some (1,[.str x]))(aw:s.2.1.length<=1000):
  ∃g v,v=.slice h.n 0 (s.2.1++[x]).length (.aM 1)/\gl Tryz.prog h 48 (some 48) b5 src=some (v,g)/\g.get a=h.get a/\g.get r=some (kz k b5 bJ)/\jP p q a b c r k base h0 v bJ F rs (s.1,(s.2.1++[x],s.2.2)) (g.set r (some (kz k v bJ))):=by
 obtain⟨g,e,al,eW,u1,nT⟩:=C3 aa7 (d:=x) w.m3 w.bs hs (by omega)
 obtain⟨ab,ae,av,aK,bU,cB,eo,fG,fH,C4,C5,OA,C6,OB,C7,C8⟩:=aq
 have bN:=w.bs
 have lw:∀d,d<base->g.get d=h.get d:=λd aq=>u1.get d aq
 have fD:∀d,d≠r->(g.set r (some (kz k (.slice h.n 0 (s.2.1++[x]).length (.aM 1)) bJ))).get d=g.get d:=λd aq=>by rw[aa.bH,if_neg aq]
 refine⟨g,_,rfl,e,lw a aK,(lw r C4).trans w.ef,?_⟩
 refine⟨cg.sN w.rd (by simp;omega) λd aq=>(fD d (by omega)).trans (lw d (by omega)),(fD q (by omega)).trans ((lw q (by omega)).trans w.je),w.b0.trans (Nat.le_refl _) ⟨by simp;omega,λd aq _ _=>(fD d (by omega)).trans (lw d (by omega))⟩,(fD a C6).trans ((lw a aK).trans w.ac),(fD b C7).trans ((lw b cB).trans w.iy),(fD c C8).trans ((lw c fG).trans w.fl),by simp;omega,dN rfl,?_,?_,?_,?_⟩
 · exact .inr ⟨h.n,rfl,by simp,(fD h.n (by omega)).trans al,bN,by simp;omega⟩
 · rcases w.hL with aE|⟨x,aE,aC,bu,cX,gJ⟩
   · exact .inl aE
   · exact .inr ⟨x,aE,aC,(fD x (by omega)).trans ((nT x gJ (w.m3.ne bu (.inr (by decide)))).trans bu),cX,by simp;omega⟩
 · exact g_.bM (λd aq=>⟨aq,by
    obtain⟨bz,bA,c8,e1⟩:=w.hZ d aq
    exact(fD d (by omega)).trans (nT d bA c8)⟩) _ _ w.ts
 · intro d aq
   obtain⟨bz,bA,c8,e1⟩:=w.hZ d aq
   refine⟨bz,by simp;omega,λn aG e=>?_,e1⟩
   injection e with aE
   omega
end Go.Proofs.cN
namespace Go.Proofs.cN
open Go ay Go.Proofs cS Go.Proofs.cf
open Go.Proofs.cW (dC cg lM)
open Go.Proofs.ed (cM cv a_ cH ff)
set_option maxRecDepth 100000
set_option maxHeartbeats 1000000
def m4(p q:Nat)(h:aa)(o:Option (a3×Q))(x:ax):Prop:=match o with
 |none=>∃g,x=.bk fh g/\Fr p q h.n h g
 |some (t,st,n)=>∃r g F,x=.ret (.ptr r 0) g/\Fr p q h.n h g/\cg g p st/\g.get q=some (kW p n)/\hx F g t (.ptr r 0)/\∀b,F b->h.n<=b/\b<g.n
def HB(m j:Nat):Prop:=∀(p q:Nat) (h:aa) (st:cv) (n:Nat),p<q->q<h.n->cg h p st->h.get q=some (kW p n)->n<=60->61<=j+n->ee st<90000->m4 p q h (dd 0 j (st,n)) (Y m (.fn 55) [.ptr q 0] h)
theorem OC{m j:Nat}(ah:HB m j){p q a b c r k base:Nat}{h0 h:aa}{b5 bJ:J}{F:Nat->Prop}{rs:List Nat}{s:Acc}(aq:wY p q a b c r base h0.n)(w:jP p q a b c r k base h0 b5 bJ F rs s h)(aw:s.2.2.length<=1000)(lE:s.1.2<=60)(aI:61<=j+s.1.2)(wZ:ee s.1.1<90000):
  match gY (dd 0 j) s with
  |none=>∃g,Y (m+1) (.fn 74) [.ptr a 0,.ptr b 0] h=.bk fh g/\Fr p q h0.n h0 g
  |some a4=>∃g mR hy oZ,Y (m+1) (.fn 74) [.ptr a 0,.ptr b 0] h=.ret (.aD []) g/\jP p q a b c r k base h0 b5 mR hy oZ a4 g:=by
 have bN:=w.bs
 have a1:q<h.n:=by have:=aq.gv;have:=aq.m2;have:=aq.ds;omega
 have ki:=aq.HA
 have fl:=ah p q (h.room 12) s.1.1 s.1.2 aq.HA (by simp;omega) (cg.zz w.rd) w.je lE aI wZ
 have snd:J.sound bJ=true:=f_.sound w.hL
 unfold gY
 cases ad:dd 0 j s.1 with
 |none=>
  rw[ad] at fl
  obtain⟨g,e,f⟩:=fl
  refine⟨g,On m a b h (R:=λx=>x=.bk fh g) ⟨r,aB (dX w.ac) rfl,r,aB (dX w.ac) rfl,bJ,aB (dX w.ef) rfl,q,aB (dX w.iy) rfl,.inr ⟨fh,g,e,snd,rfl⟩⟩,?_⟩
  exact w.b0.trans w.b0.n ⟨by have:=f.n;simp at this;omega,λd lO aY a1=>f.get d (by simp;omega) aY a1⟩
 |some x=>
  obtain⟨t,st,n⟩:=x
  rw[ad] at fl
  obtain⟨u,g,G,e,f,oV,aR,HC,gC⟩:=fl
  have fn:=f.n
  simp only[aa.hj] at fn gC
  obtain⟨al,dn⟩:∃al,al=g.set (h.n+7) (some (.cells [.ptr u 0] 47 .own 0 0)):=⟨_,rfl⟩
  have fD:∀d,d≠h.n+7->al.get d=g.get d:=λd aq=>by rw[dn,aa.bH,if_neg aq]
  have cq:=w.later aq (g:=al) (st:=st) (n:=n) (by rw[dn];exact cg.u0 oV (by omega)) ((fD q (by omega)).trans aR) (by rw[dn];simp;omega) λd lO aY a1=>(fD d (by omega)).trans (f.get d (by simp;omega) aY a1)
  have HD:hx G al t (.ptr u 0):=hx.bM (λd aq=>⟨aq,fD d (by have:=gC d aq;omega)⟩) _ _ HC
  have aQ:al.n=g.n:=by rw[dn];simp
  obtain⟨aS,v,rfl,gg,ig,C9,jm⟩:=cq.arg aq HD (src:=.slice (h.n+7) 0 1 (.exact 1)) (λd lO=>⟨by have:=gC d lO;omega,by have:=gC d lO;omega,f_.low w.m3 (.inr (by have:=gC d lO;omega)),f_.low w.hL (.inr (by have:=gC d lO;omega))⟩) (by
   have:ay.loadCells al (h.n+7) 0 (1*1)=some [.ptr u 0]:=by rw[dn];exact hq (dN rfl) rfl
   simp only[hP,this]) aw
  have nU:=cq.ac
  have wn:=cq.ef
  subst dn
  refine⟨_,_,_,_,On m a b h (R:=λx=>x=.ret (.aD []) _) ⟨r,aB (dX w.ac) rfl,r,aB (dX w.ac) rfl,bJ,aB (dX w.ef) rfl,q,aB (dX w.iy) rfl,.inl ⟨u,g,e,_,_,aS,gg,_,dY C9 rfl rfl,aB (ig.trans nU) rfl,aB nU rfl,aB nU rfl,snd,aB wn rfl,rfl⟩⟩,jm⟩
end Go.Proofs.cN
namespace Go.Proofs.cN
open Go ay Go.Proofs cS Go.Proofs.cf
open Go.Proofs.cW (dC cg lM)
open Go.Proofs.ed (cM cv a_ cH ff)
set_option maxRecDepth 100000
set_option maxHeartbeats 1000000
theorem aa_{m j:Nat}(hm:6<=m)(ah:HB m j){p q a b c r k base:Nat}{h0 h:aa}{b5 bJ:J}{F:Nat->Prop}{rs:List Nat}{s:Acc}(aq:wY p q a b c r base h0.n)(w:jP p q a b c r k base h0 b5 bJ F rs s h)(aw:s.2.2.length<=1000)(kH:s.2.1.length<=1000)(lE:s.1.2<=60)(aI:61<=j+s.1.2)(wZ:ee s.1.1<90000):
  match lb (dd 0 j) s with
  |none=>∃g,Y (m+2) (.fn 75) [.ptr a 0,.ptr b 0,.ptr c 0] h=.bk fh g/\Fr p q h0.n h0 g
  |some a4=>∃g y6 mR hy oZ,Y (m+2) (.fn 75) [.ptr a 0,.ptr b 0,.ptr c 0] h=.ret (.aD []) g/\jP p q a b c r k base h0 y6 mR hy oZ a4 g:=by
 have bN:=w.bs
 have a1:q<h.n:=by have:=aq.gv;have:=aq.m2;have:=aq.ds;omega
 have ki:=aq.HA
 have snd:J.sound b5=true:=f_.sound w.m3
 obtain⟨g,hb,jC,rt⟩:=cW.CR (m+1-6) p s.1.1 (h.room 15) (cg.zz w.rd)
 rw[show m+1-6+6=m+1 by omega] at hb
 have fn:=jC.n
 simp only[aa.hj] at fn
 obtain⟨al,dn⟩:∃al,al=g.set (h.n+10) (some (.cells [.str (cH s.1.1).1] 9 .own 0 0)):=⟨_,rfl⟩
 have fD:∀d,d≠h.n+10->al.get d=g.get d:=λd aq=>by rw[dn,aa.bH,if_neg aq]
 have cq:=w.later aq (g:=al) (st:=(cH s.1.1).2) (n:=s.1.2) (by rw[dn];exact cg.u0 rt (by omega)) ((fD q (by omega)).trans ((jC.get q (by simp;omega) (by omega)).trans w.je)) (by rw[dn];simp;omega) λd lO aY a1=>(fD d (by omega)).trans (jC.get d (by simp;omega) aY)
 obtain⟨aS,v,aH,gg,ig,C9,jm⟩:=cq.name aq (x:=(cH s.1.1).1) (src:=.slice (h.n+10) 0 1 (.exact 1)) (by
  have:ay.loadCells al (h.n+10) 0 (1*1)=some [.str (cH s.1.1).1]:=by rw[dn];exact hq (dN rfl) rfl
  simp only[hP,this]) kH
 have nU:=cq.ac
 have wn:=cq.ef
 have OD:=jm.fl
 have aba:=wW s.1.1
 have fl:=OC ah aq jm aw lE aI (by show ee (cH s.1.1).2<_;omega)
 obtain⟨s1,gM⟩:∃s1:Acc,s1=(((cH s.1.1).2,s.1.2),(s.2.1++[(cH s.1.1).1],s.2.2)):=⟨_,rfl⟩
 have aE:lb (dd 0 j) s=gY (dd 0 j) s1:=by rw[gM];rfl
 rw[aE]
 have fl:match gY (dd 0 j) s1 with
  |none=>∃g,Y (m+1) (.fn 74) [.ptr a 0,.ptr b 0] (aS.set r (some (kz k v bJ)))=.bk fh g/\Fr p q h0.n h0 g
  |some a4=>∃g mR hy oZ,Y (m+1) (.fn 74) [.ptr a 0,.ptr b 0] (aS.set r (some (kz k v bJ)))=.ret (.aD []) g/\jP p q a b c r k base h0 v mR hy oZ a4 g:=by rw[gM];exact fl
 subst aH
 cases ad:gY (dd 0 j) s1 with
 |none=>
  rw[ad] at fl
  obtain⟨bb,cX,f4⟩:=fl
  refine⟨bb,?_,f4⟩
  subst dn
  exact Oo (m+1) a b c h (R:=λx=>x=.bk fh bb) ⟨r,aB (dX w.ac) rfl,r,aB (dX w.ac) rfl,b5,aB (dX w.ef) rfl,q,aB (dX w.iy) rfl,p,aB (dX w.je) rfl,_,g,hb,_,_,aS,gg,_,dY C9 rfl rfl,aB (ig.trans nU) rfl,aB nU rfl,aB nU rfl,snd,aB wn rfl,aB OD rfl,.inr ⟨fh,bb,cX,rfl⟩⟩
 |some a4=>
  rw[ad] at fl
  obtain⟨bb,mR,hy,oZ,cX,Bf⟩:=fl
  refine⟨bb,_,mR,hy,oZ,?_,Bf⟩
  subst dn
  exact Oo (m+1) a b c h (R:=λx=>x=.ret (.aD []) bb) ⟨r,aB (dX w.ac) rfl,r,aB (dX w.ac) rfl,b5,aB (dX w.ef) rfl,q,aB (dX w.iy) rfl,p,aB (dX w.je) rfl,_,g,hb,_,_,aS,gg,_,dY C9 rfl rfl,aB (ig.trans nU) rfl,aB nU rfl,aB nU rfl,snd,aB wn rfl,aB OD rfl,.inl ⟨bb,cX,rfl⟩⟩
theorem zE{base H0 r k:Nat}{y:aa}{bZ:aL}{b5 bJ dy:J}{F G:Nat->Prop}{rs:List Nat}{ns:List aL}{xs:List a3}{ot:Option a3}{cd:eZ}{aW up:Nat}(ai:y.get r=some (.cells [.int .i64 (Int.ofNat k),.str bZ,b5,bJ,dy] 51 cd aW up))(m3:f_ Hv 1 9 base y b5 ns)(hL:f_ Hw 1 47 base y bJ rs)(ts:g_ F y xs (rs.map λr=>.ptr r 0))(to:ha G y ot dy)
  (ag:H0<=base)(ru:H0<=r/\r<y.n)(hZ:∀b,F b->H0<=b/\b<y.n)(gC:∀b,G b->H0<=b/\b<y.n):∃hy,hx hy y (.mk k bZ ns xs ot) (.ptr r 0)/\∀b,hy b->H0<=b/\b<y.n:=by
 refine⟨λb=>F b\/G b\/b=r\/(∃n aG,b5=.slice b 0 n aG)\/∃n aG,bJ=.slice b 0 n aG,⟨r,b5,bJ,dy,rs.map λr=>.ptr r 0,cd,aW,up,rfl,.inr (.inr (.inl rfl)),ai,Ov (enc:=λs=>.str s) m3 λb n aG e=>.inr (.inr (.inr (.inl ⟨n,aG,e⟩))),Ov (enc:=λr=>.ptr r 0) hL λb n aG e=>.inr (.inr (.inr (.inr ⟨n,aG,e⟩))),g_.bM (λb ag=>⟨.inl ag,rfl⟩) _ _ ts,ha.bM (λb ag=>⟨.inr (.inl ag),rfl⟩) _ _ to⟩,λb iF=>?_⟩
 rcases iF with h|h|h|⟨n,aG,h⟩|⟨n,aG,h⟩
 · exact hZ b h
 · exact gC b h
 · omega
 · rcases m3 with⟨e,_⟩|⟨x,e,_,_,cX,gJ⟩
   · rw[e] at h;cases h
   · rw[e] at h;injection h with ab;omega
 · rcases hL with⟨e,_⟩|⟨x,e,_,_,cX,gJ⟩
   · rw[e] at h;cases h
   · rw[e] at h;injection h with ab;omega
end Go.Proofs.cN
