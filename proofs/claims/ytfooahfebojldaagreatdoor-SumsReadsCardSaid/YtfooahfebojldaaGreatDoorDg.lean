/-
  PROVED HERE: contracts of functions (Dg). No condition beside each statement's own.
-/
import Derived.Test.YtfooahfebojldaaGreatDoorDf
import Derived.Test.YtfooahfebojldaaGreatDoorTx
set_option linter.unusedVariables false
set_option linter.unusedSimpArgs false
namespace Go.Proofs.cT
open Go aC Go.Proofs dD
set_option maxRecDepth 100000
set_option maxHeartbeats 1000000
theorem Xh(m:Nat)(r:Nat)(h:aa){R:ao->Prop}(H:∃a1:Nat,av h r (0+0)=some (.int .i64 (.ofNat a1))/\∃s1:List UInt8,av h r (0+1)=some (.str s1)/\(cF s1 []=true->∃v1:J,av h r (0+2)=some v1/\∃bL:Nat,cq Tryz.prog h 48 v1=some (.int .i64 (.ofNat bL))/\(bL=0->∃v2:J,av h r (0+3)=some v2/\∃cm:Nat,cq Tryz.prog h 49 v2=some (.int .i64 (.ofNat cm))/\(cm=0->∃cn:Nat,av h r (0+4)=some (.ptr cn 0)/\R (.ret (.bool (fl true (ba (.ofNat a1) (.ofNat 8)))) h))/\(¬cm=0->(7<=a1->∃cz:Nat,av h r (0+4)=some (.ptr cz 0)/\R (.ret (.bool (fl true (ba (.ofNat a1) (.ofNat 8)))) h))/\(¬7<=a1->R (.ret (.bool false) h))))/\(¬bL=0->(a1=7->∃dS:J,av h r (0+3)=some dS/\∃cV:Nat,cq Tryz.prog h 49 dS=some (.int .i64 (.ofNat cV))/\(cV=0->∃ej:Nat,av h r (0+4)=some (.ptr ej 0)/\R (.ret (.bool (fl true (ba (.ofNat a1) (.ofNat 8)))) h))/\(¬cV=0->(7<=a1->∃fC:Nat,av h r (0+4)=some (.ptr fC 0)/\R (.ret (.bool (fl true (ba (.ofNat a1) (.ofNat 8)))) h))/\(¬7<=a1->R (.ret (.bool false) h))))/\(¬a1=7->R (.ret (.bool false) h))))/\(cF s1 []=false->(a1=6->∃v4:J,av h r (0+2)=some v4/\∃fZ:Nat,cq Tryz.prog h 48 v4=some (.int .i64 (.ofNat fZ))/\(fZ=0->∃h6:J,av h r (0+3)=some h6/\∃eI:Nat,cq Tryz.prog h 49 h6=some (.int .i64 (.ofNat eI))/\(eI=0->∃iJ:Nat,av h r (0+4)=some (.ptr iJ 0)/\R (.ret (.bool (fl true (ba (.ofNat a1) (.ofNat 8)))) h))/\(¬eI=0->(7<=a1->∃iK:Nat,av h r (0+4)=some (.ptr iK 0)/\R (.ret (.bool (fl true (ba (.ofNat a1) (.ofNat 8)))) h))/\(¬7<=a1->R (.ret (.bool false) h))))/\(¬fZ=0->(a1=7->∃v6:J,av h r (0+3)=some v6/\∃kN:Nat,cq Tryz.prog h 49 v6=some (.int .i64 (.ofNat kN))/\(kN=0->∃nF:Nat,av h r (0+4)=some (.ptr nF 0)/\R (.ret (.bool (fl true (ba (.ofNat a1) (.ofNat 8)))) h))/\(¬kN=0->(7<=a1->∃mm:Nat,av h r (0+4)=some (.ptr mm 0)/\R (.ret (.bool (fl true (ba (.ofNat a1) (.ofNat 8)))) h))/\(¬7<=a1->R (.ret (.bool false) h))))/\(¬a1=7->R (.ret (.bool false) h))))/\(¬a1=6->R (.ret (.bool false) h)))):
  R (Y (m+1) (.fn 101) [.ptr r 0] h):=
 eM (intr:=cj) [] [(0,.v (.ptr r 0))] Tryz.func101 (by kernel_rfl) (by kernel_rfl) (by kernel_rfl) rfl (Eq.mp (by kernel_rfl) H)
theorem Xi(m:Nat)(r:Nat)(h:aa){R:ao->Prop}(H:∃a1:Nat,av h r (0+0)=some (.int .i64 (.ofNat a1))/\∃s1:List UInt8,av h r (0+1)=some (.str s1)/\(cF s1 []=true->∃v1:J,av h r (0+2)=some v1/\∃bL:Nat,cq Tryz.prog h 48 v1=some (.int .i64 (.ofNat bL))/\(bL=0->∃v2:J,av h r (0+3)=some v2/\∃cm:Nat,cq Tryz.prog h 49 v2=some (.int .i64 (.ofNat cm))/\(cm=0->av h r (0+4)=some .bb/\R (.ret (.bool (fl false (ba (.ofNat a1) (.ofNat 8)))) h))/\(¬cm=0->(7<=a1->av h r (0+4)=some .bb/\R (.ret (.bool (fl false (ba (.ofNat a1) (.ofNat 8)))) h))/\(¬7<=a1->R (.ret (.bool false) h))))/\(¬bL=0->(a1=7->∃dS:J,av h r (0+3)=some dS/\∃cn:Nat,cq Tryz.prog h 49 dS=some (.int .i64 (.ofNat cn))/\(cn=0->av h r (0+4)=some .bb/\R (.ret (.bool (fl false (ba (.ofNat a1) (.ofNat 8)))) h))/\(¬cn=0->(7<=a1->av h r (0+4)=some .bb/\R (.ret (.bool (fl false (ba (.ofNat a1) (.ofNat 8)))) h))/\(¬7<=a1->R (.ret (.bool false) h))))/\(¬a1=7->R (.ret (.bool false) h))))/\(cF s1 []=false->(a1=6->∃v4:J,av h r (0+2)=some v4/\∃cz:Nat,cq Tryz.prog h 48 v4=some (.int .i64 (.ofNat cz))/\(cz=0->∃h6:J,av h r (0+3)=some h6/\∃cV:Nat,cq Tryz.prog h 49 h6=some (.int .i64 (.ofNat cV))/\(cV=0->av h r (0+4)=some .bb/\R (.ret (.bool (fl false (ba (.ofNat a1) (.ofNat 8)))) h))/\(¬cV=0->(7<=a1->av h r (0+4)=some .bb/\R (.ret (.bool (fl false (ba (.ofNat a1) (.ofNat 8)))) h))/\(¬7<=a1->R (.ret (.bool false) h))))/\(¬cz=0->(a1=7->∃v6:J,av h r (0+3)=some v6/\∃ej:Nat,cq Tryz.prog h 49 v6=some (.int .i64 (.ofNat ej))/\(ej=0->av h r (0+4)=some .bb/\R (.ret (.bool (fl false (ba (.ofNat a1) (.ofNat 8)))) h))/\(¬ej=0->(7<=a1->av h r (0+4)=some .bb/\R (.ret (.bool (fl false (ba (.ofNat a1) (.ofNat 8)))) h))/\(¬7<=a1->R (.ret (.bool false) h))))/\(¬a1=7->R (.ret (.bool false) h))))/\(¬a1=6->R (.ret (.bool false) h)))):
  R (Y (m+1) (.fn 101) [.ptr r 0] h):=
 eM (intr:=cj) [(45,.cI (.is .bb))] [(0,.v (.ptr r 0))] Tryz.func101 (by kernel_rfl) (by kernel_rfl) (by kernel_rfl) rfl (Eq.mp (by kernel_rfl) H)
theorem Xj(m:Nat)(r:Nat)(h:aa){R:ao->Prop}(H:∃a1:Nat,av h r (0+0)=some (.int .i64 (.ofNat a1))/\(a1<1->R (.ret (.bool false) h))/\(¬a1<1->∃bL:Nat,av h r (0+0)=some (.int .i64 (.ofNat bL))/\(9<bL->R (.ret (.bool false) h))/\(¬9<bL->∃a8:Bool,∃aq:aa,(Y m) (.fn 101) [.ptr r 0] h=.ret (.bool a8) aq/\(a8=true->∃v1:J,av aq r (0+3)=some v1/\∃aW:Bool,∃ak:aa,(Y m) (.fn 103) [v1,.fn 102 [] []] aq=.ret (.bool aW) ak/\(aW=true->R (.ret (.bool false) ak))/\(aW=false->∃cm:Nat,av ak r (0+0)=some (.int .i64 (.ofNat cm))/\(cm=6->∃s1:List UInt8,av ak r (0+1)=some (.str s1)/\∃ds:Bool,∃aQ:aa,(Y m) (.fn 104) [.str s1,.str [45,47,46],.int .i64 (.ofNat 161)] ak=.ret (.bool ds) aQ/\R (.ret (.bool ds) aQ))/\(¬cm=6->(cm=7->∃v2:J,av (ak.room 27) r (0+2)=some v2/\∃cn:Nat,cq Tryz.prog (ak.room 27) 48 v2=some (.int .i64 (.ofNat cn))/\∃dS:J,av (ak.room 27) r (0+3)=some dS/\∃cz:Nat,cq Tryz.prog (ak.room 27) 49 dS=some (.int .i64 (.ofNat cz))/\(cn=cz->∃v4:J,av (ak.room 27) r (0+2)=some v4/\∃ja:Bool,∃a3:aa,(Y m) (.fn 105) [v4,.fn 106 [] []] (ak.room 27)=.ret (.bool ja) a3/\(ja=true->J.sound v2=true/\J.sound dS=true/\J.sound v4=true/\R (.ret (.bool false) a3))/\(ja=false->∃h6:J,av a3 r (0+2)=some h6/\∃ly:Bool,∃bZ:aa,(Y m) (.fn 108) [h6,.fn 109 [] []] a3=.ret (.bool ly) bZ/\J.sound v2=true/\J.sound dS=true/\J.sound v4=true/\J.sound h6=true/\R (.ret (.bool ly) bZ)))/\(¬cn=cz->J.sound v2=true/\J.sound dS=true/\R (.ret (.bool false) (ak.room 27))))/\(¬cm=7->(cm=8->∃v6:J,av ak r (0+4)=some v6/\∃jx:Bool,∃b2:aa,(Y m) (.fn 90) [v6] ak=.ret (.bool jx) b2/\R (.ret (.bool jx) b2))/\(¬cm=8->(cm=9->∃oj:J,av ak r (0+3)=some oj/\∃cV:Nat,cq Tryz.prog ak 49 oj=some (.int .i64 (.ofNat cV))/\(2<=cV->∃qn:J,av ak r (0+3)=some qn/\∃qo:Bool,∃b5:aa,(Y m) (.fn 103) [qn,.fn 110 [] []] ak=.ret (.bool qo) b5/\(qo=true->R (.ret (.bool false) b5))/\(qo=false->∃qp:J,av b5 r (0+3)=some qp/\∃om:Bool,∃b1:aa,(Y m) (.fn 111) [qp,.fn 112 [] []] b5=.ret (.bool om) b1/\R (.ret (.bool om) b1)))/\(¬2<=cV->R (.ret (.bool false) ak)))/\(¬cm=9->R (.ret (.bool true) ak)))))))/\(a8=false->R (.ret (.bool false) aq))))):
  R (Y (m+1) (.fn 90) [.ptr r 0] h):=
 eM (intr:=cj) [(76,.cI .o)] [(0,.v (.ptr r 0))] Tryz.func90 (by kernel_rfl) (by kernel_rfl) (by kernel_rfl) rfl (Eq.mp (by kernel_rfl) H)
def mq:bc:=[48,49,50,51,52,53,54,55,56,57]
theorem Xk:((List.range 256).all λn=>dq (Int.ofNat 0) (oH n mq 0)==jI n)=true:=by decide
theorem Xl(c:UInt8):dq (Int.ofNat 0) (oH c.toNat mq 0)=jI c.toNat:=by
 have:=List.all_eq_true.1 Xk c.toNat (by rw[List.mem_range];exact UInt8.toNat_lt c)
 simpa using this
theorem Xm(n:Nat)(s:bc)(c:Nat)(h:aa)(ai:c<256):Y (n+1) (.fn 161) [.str s,.int .u8 (Int.ofNat c)] h=.ret (.int .i64 (oH c s 0)) h:=by
 have ag:Nat.blt c 256=true:=by simpa[Nat.blt_eq] using ai
 have hi:cj 161 [.str s,.int .u8 (Int.ofNat c)] h=none:=by kernel_rfl
 have q3:Tryz.f161.body=none:=by rfl
 have ad:vk Tryz.prog Tryz.f161 Tryz.f161.name [.str s,.int .u8 (Int.ofNat c)] h=some (.int .i64 (oH c s 0),h):=by
  have aM:Tryz.f161.name= "internal/bytealg.IndexByteString" :=by rfl
  simp only[vk,aM,if_true,ag]
 simp only[Y,gk,hi,qL,Tryz.func161,q3,ad]
theorem Xn(m:Nat)(c:UInt8)(h:aa):Y (m+5) (.fn 118) [.str mq,.str [c]] h=.ret (.bool (jI c.toNat)) h:=by
 rw[<-Xl]
 have c1:Y (m+2) (.fn 155) [.str mq,.int .u8 (Int.ofNat c.toNat)] h=.ret (.int .i64 (oH c.toNat mq 0)) h:=
  Wn (m+1) mq c.toNat h (R:=λx=>x=_) ⟨_,h,Xm m mq c.toNat h (UInt8.toNat_lt _),rfl⟩
 have c2:Y (m+3) (.fn 150) [.str mq,.str [c]] h=.ret (.int .i64 (oH c.toNat mq 0)) h:=
  Wm (m+2) mq c h (R:=λx=>x=_) ⟨by simp[oR,mq],by rfl,_,h,c1,rfl⟩
 have c3:Y (m+4) (.fn 144) [.str mq,.str [c]] h=.ret (.int .i64 (oH c.toNat mq 0)) h:=
  Wl (m+3) mq [c] h (R:=λx=>x=_) ⟨_,h,c2,rfl⟩
 exact Wk (m+4) mq [c] h (R:=λx=>x=_) ⟨_,h,c3,rfl⟩
theorem Xo(n:Nat):(h5 n&&jI n)=false:=by
 unfold h5 jI
 simp only[Bool.and_eq_false_iff,Bool.or_eq_false_iff,decide_eq_false_iff_not]
 omega
theorem Xp(m B:Nat)(s:bc)(h:aa)(b4:B<=h.n):cc B h (.bool (jb s)) (Y (m+6) (.fn 107) [.str s] h):=by
 obtain⟨g,c1,bw⟩:=LL (m+1) B qg s [] 24 h b4 (by omega) (.inl ⟨rfl,rfl⟩)
 refine Wd (m+5) s h ⟨_,g,c1,λag=>?_,λag=>?_⟩
 · simp only[Bool.and_eq_true,decide_eq_true_eq] at ag
   obtain⟨⟨ab,ae⟩,aB⟩:=ag
   cases s with
   |nil=>simp at ab
   |cons c s=>
    refine⟨[c],yu mn (by simp),_,g,Xn m c g,cc.of (eZ ?_) bw⟩
    have ai:qg c.toNat=true:=by
     have:=List.all_eq_true.1 aB c (by simp)
     simpa using this
    have aj:=Xo c.toNat
    unfold jb
    have bJ:(c::s).all (λc=>h5 c.toNat||jI c.toNat)=true:=aB
    rw[bJ]
    have hw:(h5 c.toNat||jI c.toNat)=true:=ai
    simp only[Fk,ab,ae,decide_true,Bool.true_and,Bool.and_true]
    revert aj hw
    cases h5 c.toNat<;>cases jI c.toNat<;>simp
 · refine cc.of (eZ ?_) bw
   unfold jb
   have bJ:s.all (λc=>h5 c.toNat||jI c.toNat)=s.all (λc=>qg c.toNat):=rfl
   rw[bJ]
   revert ag
   cases decide (1<=s.length)<;>cases decide (s.length<=24)<;>cases s.all (λc=>qg c.toNat)<;>simp
def qq(k:Nat)(s:bc)(N M:Nat)(o:Bool):Bool:=((cF s []||decide (k=6))&&((decide (N=0)||decide (k=7))&&(decide (M=0)||decide (7<=k))))&&(o==decide (k=8))
theorem Xq(m:Nat){R:Nat}{h:aa}{k:Nat}{s:bc}{bk a6 cZ:J}{bN:eE}{lo up N M:Nat}{o:Bool}(au:h.get R=some (.cells [.int .i64 (Int.ofNat k),.str s,bk,a6,cZ] 51 bN lo up))(aM:cq Tryz.prog h 48 bk=some (.int .i64 (Int.ofNat N)))(aJ:cq Tryz.prog h 49 a6=some (.int .i64 (Int.ofNat M)))(a7:(cZ=.bb/\o=false)\/(∃q,cZ=.ptr q 0)/\o=true):
  Y (m+1) (.fn 101) [.ptr R 0] h=.ret (.bool (qq k s N M o)) h:=by
 have dX:=rb k 8
 have fin:∀(b pP:Bool),b=pP->(ao.ret (.bool b) h=.ret (.bool pP) h):=λb pP e=>by rw[e]
 rcases a7 with⟨rfl,rfl⟩|⟨⟨q,rfl⟩,rfl⟩
 · refine Xi m R h (R:=λx=>x=.ret (.bool (qq k s N M false)) h) ⟨k,ar au rfl,s,ar au rfl,λab=>⟨bk,ar au rfl,N,aM,λae=>⟨a6,ar au rfl,M,aJ,λaB=>⟨ar au rfl,fin _ _ ?_⟩,λaB=>⟨λaP=>⟨ar au rfl,fin _ _ ?_⟩,λaP=>fin _ _ ?_⟩⟩,λae=>⟨λaB=>⟨a6,ar au rfl,M,aJ,λaP=>⟨ar au rfl,fin _ _ ?_⟩,λaP=>⟨λcg=>⟨ar au rfl,fin _ _ ?_⟩,λcg=>fin _ _ ?_⟩⟩,λaB=>fin _ _ ?_⟩⟩,λab=>⟨λaz=>⟨bk,ar au rfl,N,aM,λae=>⟨a6,ar au rfl,M,aJ,λaB=>⟨ar au rfl,fin _ _ ?_⟩,λaB=>⟨λaP=>⟨ar au rfl,fin _ _ ?_⟩,λaP=>fin _ _ ?_⟩⟩,λae=>⟨λaB=>⟨a6,ar au rfl,M,aJ,λaP=>⟨ar au rfl,fin _ _ ?_⟩,λaP=>⟨λcg=>⟨ar au rfl,fin _ _ ?_⟩,λcg=>fin _ _ ?_⟩⟩,λaB=>fin _ _ ?_⟩⟩,λaz=>fin _ _ ?_⟩⟩<;>
    (unfold qq;(try simp only[fl,dX]);simp_all<;>omega)
 · refine Xh m R h (R:=λx=>x=.ret (.bool (qq k s N M true)) h) ⟨k,ar au rfl,s,ar au rfl,λab=>⟨bk,ar au rfl,N,aM,λae=>⟨a6,ar au rfl,M,aJ,λaB=>⟨q,ar au rfl,fin _ _ ?_⟩,λaB=>⟨λaP=>⟨q,ar au rfl,fin _ _ ?_⟩,λaP=>fin _ _ ?_⟩⟩,λae=>⟨λaB=>⟨a6,ar au rfl,M,aJ,λaP=>⟨q,ar au rfl,fin _ _ ?_⟩,λaP=>⟨λcg=>⟨q,ar au rfl,fin _ _ ?_⟩,λcg=>fin _ _ ?_⟩⟩,λaB=>fin _ _ ?_⟩⟩,λab=>⟨λaz=>⟨bk,ar au rfl,N,aM,λae=>⟨a6,ar au rfl,M,aJ,λaB=>⟨q,ar au rfl,fin _ _ ?_⟩,λaB=>⟨λaP=>⟨q,ar au rfl,fin _ _ ?_⟩,λaP=>fin _ _ ?_⟩⟩,λae=>⟨λaB=>⟨a6,ar au rfl,M,aJ,λaP=>⟨q,ar au rfl,fin _ _ ?_⟩,λaP=>⟨λcg=>⟨q,ar au rfl,fin _ _ ?_⟩,λcg=>fin _ _ ?_⟩⟩,λaB=>fin _ _ ?_⟩⟩,λaz=>fin _ _ ?_⟩⟩<;>
    (unfold qq;(try simp only[fl,dX]);simp_all<;>omega)
end Go.Proofs.cT
namespace Go.Proofs.cT
open Go aC Go.Proofs dD
set_option maxRecDepth 100000
set_option maxHeartbeats 1000000
def wn(l:List bc)(i:Nat):bc:=(l[i]?).getD []
def ri(p:Option bc):List bc->Bool
 |[]=>true
 |x::l=>nD p x&&ri (some x) l
theorem FZ:∀(p:Option bc) (l:List bc),mX p l=(l.all jb&&ri p l)
 |p,[]=>rfl
 |p,x::l=>by
  rw[mX,ri,FZ (some x) l,List.all_cons]
  cases jb x<;>cases nD p x<;>cases l.all jb<;>rfl
theorem F0:∀(p:Option bc) (fG:List Nat) (l:List bc),fG.length=l.length->pd p fG l=(fG.all (λk=>decide (k≠9)&&decide (k≠1))&&ri p l)
 |p,[],[],_=>rfl
 |p,[],_::_,h=>by simp at h
 |p,_::_,[],h=>by simp at h
 |p,k::fG,x::l,h=>by
  rw[Lx,ri,F0 (some x) fG l (by simpa using h),List.all_cons]
  cases (decide (k≠9)&&decide (k≠1))<;>cases nD p x<;>cases fG.all (λk=>decide (k≠9)&&decide (k≠1))<;>rfl
theorem L2:∀(p:Option bc) (l:List bc),ri p l=true<->(∀x,l[0]? =some x->nD p x=true)/\∀i,i+1<l.length->en (wn l i) (wn l (i+1))=true
 |p,[]=>by simp[ri]
 |p,x::l=>by
  rw[ri,Bool.and_eq_true,L2 (some x) l]
  constructor
  · rintro⟨ab,ae,aB⟩
    refine⟨λy bu=>by simp at bu;subst bu;exact ab,λi hi=>?_⟩
    cases i with
    |zero=>
     cases l with
     |nil=>simp at hi
     |cons y l=>simpa[wn,nD] using ae y (by simp)
    |succ i=>simpa[wn] using aB i (by simpa using hi)
  · rintro⟨ab,ae⟩
    refine⟨ab x (by simp),λy bu=>?_,λi hi=>?_⟩
    · cases l with
      |nil=>simp at bu
      |cons z l=>
       simp at bu
       subst bu
       simpa[wn,nD] using ae 0 (by simp)
    · simpa[wn] using ae (i+1) (by simpa using hi)
theorem L3(l:List bc):ri none l=qm (wn l) l.length:=by
 rw[Bool.eq_iff_iff,L2]
 unfold qm
 rw[Bool.not_eq_true',List.any_eq_false]
 constructor
 · rintro⟨_,h⟩ i hi
   rw[List.mem_range] at hi
   cases i with
   |zero=>simp
   |succ i=>simp[h i hi]
 · intro h
   refine⟨λ_ _=>rfl,λi hi=>?_⟩
   have:=h (i+1) (by rw[List.mem_range];exact hi)
   simpa using this
def sK(l:List Bool)(i:Nat):Bool:=(l[i]?).getD false
theorem F1(l:List Bool):(List.range l.length).any (sK l)=l.any id:=by
 rw[Bool.eq_iff_iff,List.any_eq_true,List.any_eq_true]
 constructor
 · rintro⟨i,hi,h⟩
   rw[List.mem_range] at hi
   refine⟨l[i],List.getElem_mem hi,?_⟩
   simpa[sK,hi] using h
 · rintro⟨b,ag,h⟩
   obtain⟨i,hi,rfl⟩:=List.getElem_of_mem ag
   exact⟨i,by simpa using hi,by simpa[sK,hi] using h⟩
theorem F2{α:Type}(f:α->Bool)(l:List α){i:Nat}(hi:i<l.length):sK (l.map f) i=f l[i]:=by simp[sK,hi]
theorem L4:∀xs:List a_,(xs.map (λu=>!e9 u)).any id=!hk xs
 |[]=>rfl
 |x::xs=>by
  rw[hk,List.map_cons,List.any_cons,L4 xs]
  cases e9 x<;>rfl
theorem F3{α:Type}(f:α->Bool):∀l:List α,(l.map (λx=>!f x)).any id=!l.all f
 |[]=>rfl
 |x::l=>by
  rw[List.map_cons,List.any_cons,List.all_cons,F3 f l]
  cases f x<;>rfl
theorem L5(k:Nat)(b8:bc)(ns:List bc)(xs:List a_)(rt:Option a_):e9 (.mk k b8 ns xs rt)=((decide (1<=k)&&decide (k<=9))&&(qq k b8 ns.length xs.length rt.isSome&&(hk xs&&gR k b8 ns (xs.map a_.k) (cR xs) xs.length (jZ rt)))):=by
 rw[wy]
 congr 1
 by_cases e:k=6/\b8=[]
 · obtain⟨rfl,rfl⟩:=e
   have:gR 6 [] ns (xs.map a_.k) (cR xs) xs.length (jZ rt)=false:=by simp[gR,mi]
   rw[this];simp
 · congr 1
   unfold k4 qq
   rw[sH]
   have ed:¬k=6\/¬b8=[]:=by
    by_cases h:k=6
    · right;intro ae;exact e ⟨h,ae⟩
    · exact .inl h
   have wP:(0<ns.length)=¬ns.length=0:=by simp[Nat.pos_iff_ne_zero]
   have gP:(0<xs.length)=¬xs.length=0:=by simp[Nat.pos_iff_ne_zero]
   have jV:(7<=k)=¬k<7:=by simp
   simp only[wP,gP,jV,ne_eq,decide_not]
   rcases ed with ed|ed<;>simp only[ed,decide_false]<;>cases decide (k=6)<;>cases decide (b8=[])<;>cases decide (ns.length=0)<;>cases decide (k=7)<;>cases decide (xs.length=0)<;>cases decide (k<7)<;>cases rt.isSome<;>cases decide (k=8)<;>rfl
abbrev L6:Prop:=∀(u:a_),e9 u=true->sz u<=100->∀(m B:Nat) (h:aa) (v:J),4*sz u+10<=m->B<=h.n->dI B h u v->cc B h (.str (wr u)) (Y m (.fn 112) [v] h)
theorem L7(lq:L6):∀(K:Nat) (t:a_),sz t<=K->sz t<=100->iH t<=90000->∀(m B:Nat) (h:aa) (v:J),4*sz t+12<=m->B<=h.n->dI B h t v->cc B h (.bool (e9 t)) (Y m (.fn 90) [v] h)
 |0,t,eg,_,_,_,_,_,_,_,_,_=>by
  have:=sD t
  omega
 |K+1,.mk k b8 ns xs rt,eg,gz,pU,m,B,h,v,hm,b4,aJ=>by
  obtain⟨R,bk,a6,cZ,vs,bN,lo,up,rfl,ae,aB,aP,cg,dN,fE⟩:=aJ
  rw[uB] at eg gz hm
  rw[iH] at pU
  obtain⟨m,rfl⟩:∃j,m=j+5:=⟨m-5,by omega⟩
  have h9:=dU.len dN
  have mF:=pb xs
  have lO:=wv xs
  have wG:(ns.map J.str).length=ns.length:=List.length_map _
  have bt:∀(u:a_),sz u<=K->sz u<=100->iH u<=90000->∀(m B:Nat) (h:aa) (v:J),4*sz u+12<=m->B<=h.n->dI B h u v->cc B h (.bool (e9 u)) (Y m (.fn 90) [v] h):=L7 lq K
  rw[L5]
  have a7:(cZ=.bb/\rt.isSome=false)\/(∃q,cZ=.ptr q 0)/\rt.isSome=true:=by
   cases rt with
   |none=>exact .inl ⟨fE,rfl⟩
   |some u=>
    cases u with
    |mk dG eJ h8 lx oc=>obtain⟨W,_,_,_,_,_,_,_,rfl,_⟩:=fE;exact .inr ⟨⟨W,rfl⟩,rfl⟩
  have L8:∀g,Ext B h g->cq Tryz.prog g 48 bk=some (.int .i64 (Int.ofNat ns.length)):=λg x=>by
   rw[<-wG];exact(aP.b0 (gE.ext x (Nat.le_refl _))).len (t:=48) (e:=9) (by kernel_rfl)
  have jR:∀g,Ext B h g->cq Tryz.prog g 49 a6=some (.int .i64 (Int.ofNat xs.length)):=λg x=>by
   rw[<-h9];exact(cg.b0 (gE.ext x (Nat.le_refl _))).len (t:=49) (e:=47) (by kernel_rfl)
  have aU:=Xq (m+3) (N:=ns.length) (M:=xs.length) (o:=rt.isSome) aB (L8 h (Ext.refl _ _)) (jR h (Ext.refl _ _)) a7
  have k1:∀g,Ext B h g->∀i (i1:i<vs.length) (i2:i<xs.length),dI B g xs[i] vs[i]:=λg x i i1 i2=>dU.get (dU.b0 (gE.ext x (Nat.le_refl _)) _ _ dN) i i1 i2
  refine Xj (m+4) R h ⟨k,ar aB rfl,λbx=>cc.of (eZ (by simp;omega)) (Ext.refl _ _),λbx=>⟨k,ar aB rfl,λg5=>cc.of (eZ (by simp;omega)) (Ext.refl _ _),λg5=>⟨_,h,aU,λag=>?_,λag=>?_⟩⟩⟩
  rotate_left
  · refine cc.of (eZ ?_) (Ext.refl _ _)
    have:qq k b8 ns.length xs.length rt.isSome=false:=by simpa using ag
    rw[this];simp
  have kW:qq k b8 ns.length xs.length rt.isSome=true:=by simpa using ag
  have FR:(decide (1<=k)&&decide (k<=9))=true:=by simp;omega
  rw[FR,kW,Bool.true_and,Bool.true_and]
  obtain⟨g,c1,bw⟩:=LQ (m+2) (B:=B) (h:=h) (v:=a6) (vs:=vs) 102 [] (sK (xs.map (λu=>!e9 u))) cg (by omega) (λi i1 x ad=>by
   have i2:i<xs.length:=by omega
   have bj:=pa (List.getElem_mem i2)
   have aM:=BM (List.getElem_mem i2)
   obtain⟨g,c,y⟩:=bt xs[i] (by omega) (by omega) (by omega) (m+1) B x vs[i] (by omega) (Nat.le_trans b4 ad.n) (k1 x ad i i1 i2)
   rw[F2 _ _ i2]
   exact WZ (m+1) vs[i] x ⟨_,g,c,cc.of rfl y⟩)
  rw[show vs.length=(xs.map (λu=>!e9 u)).length by rw[List.length_map];exact h9,F1,L4] at c1
  refine⟨a6,ar aB rfl,_,g,c1,λag=>?_,λag=>?_⟩
  · refine cc.of (eZ ?_) bw
    have:hk xs=false:=by simpa using ag
    rw[this];rfl
  have jq:hk xs=true:=by simpa using ag
  rw[jq,Bool.true_and]
  have au:=(bw.get R ae).trans aB
  have sF:=Nat.le_trans b4 bw.n
  have nh:∀i (i2:i<xs.length),e9 xs[i]=true:=λi i2=>BO jq (List.getElem_mem i2)
  have fin:∀{v:J} {w:Bool} {x:ao},w=gR k b8 ns (xs.map a_.k) (cR xs) xs.length (jZ rt)->cc B g (.bool w) x->cc B h (.bool (gR k b8 ns (xs.map a_.k) (cR xs) xs.length (jZ rt))) x:=by
   rintro v w x rfl ⟨an,rfl,y⟩
   exact cc.mk (bw.trans (Nat.le_refl _) y)
  refine⟨k,ar au rfl,λdL=>?_,λdL=>⟨λdz=>?_,λdz=>⟨λdX=>?_,λdX=>⟨λfb=>?_,λfb=>?_⟩⟩⟩⟩
  · subst dL
    obtain⟨aQ,c3,dT⟩:=LL m B kK b8 [45,47,46] 161 g sF (by omega) (.inr ⟨rfl,rfl⟩)
    exact⟨b8,ar au rfl,_,aQ,c3,fin (v:=.bb) (by simp[gR,mi]) (cc.mk dT)⟩
  · subst dz
    have uK:gR 7 b8 ns (xs.map a_.k) (cR xs) xs.length (jZ rt)=(decide (ns.length=xs.length)&&mX none ns):=by simp[gR]
    have wQ:Ext B g (g.room 27):=Ext.room B g 27
    have pK:=bw.trans (Nat.le_refl _) wQ
    have kj:=(wQ.get R ae).trans au
    have cn:=aP.b0 (gE.ext pK (Nat.le_refl _))
    refine⟨bk,ar kj rfl,_,L8 _ pK,a6,ar kj rfl,_,jR _ pK,λaM=>?_,λaM=>⟨aP.snd,cg.snd,fin (v:=.bb) (by rw[uK];simp[aM]) (cc.mk wQ)⟩⟩
    obtain⟨aQ,c3,dT⟩:=W6 (m+2) (B:=B) (h:=g.room 27) (v:=bk) (vs:=ns.map .str) 106 [] (sK (ns.map (λs=>!jb s))) cn (by omega) (λi i1 x ad=>by
     have i2:i<ns.length:=by omega
     obtain⟨g,c,y⟩:=Xp (m-5) B ns[i] x (Nat.le_trans (Nat.le_trans sF wQ.n) ad.n)
     rw[F2 _ _ i2,List.getElem_map]
     rw[show m-5+6=m+1 by omega] at c
     exact W0 (m+1) ns[i] x ⟨_,g,c,cc.of rfl y⟩)
    rw[show(ns.map J.str).length=(ns.map (λs=>!jb s)).length by simp,F1,F3] at c3
    refine⟨bk,ar kj rfl,_,aQ,c3,λag=>?_,λag=>?_⟩
    rotate_left
    · have hf:ns.all jb=true:=by simpa using ag
      have F4:=wQ.trans (Nat.le_refl _) dT
      have B9:=pK.trans (Nat.le_refl _) dT
      have gQ:=(F4.get R ae).trans au
      obtain⟨a3,c4,kJ⟩:=Xc (m+1) (B:=B) (h:=aQ) (v:=bk) (vs:=ns.map .str) 109 [] (wn ns) (Nat.le_trans sF F4.n) (aP.b0 (gE.ext B9 (Nat.le_refl _))) (by omega) rfl (λi hi=>by rw[List.getElem_map];rfl) (λi hi=>⟨ns[i]'(by omega),by rw[List.getElem_map]⟩) (λi i1 x ad=>by
       have i2:i<ns.length:=by omega
       rw[List.getElem_map,show wn ns i=ns[i] by simp[wn,i2]]
       exact W1 m ns[i] x (cc.mk (Ext.refl _ _)))
      rw[wG,<-L3] at c4
      exact⟨bk,ar gQ rfl,_,a3,c4,aP.snd,cg.snd,aP.snd,aP.snd,fin (v:=.bb) (by rw[uK,FZ,hf];simp[aM]) (cc.mk (F4.trans (Nat.le_refl _) kJ))⟩
    · have hf:ns.all jb=false:=by simpa using ag
      exact⟨aP.snd,cg.snd,aP.snd,fin (v:=.bb) (by rw[uK,FZ,hf];simp) (cc.mk (wQ.trans (Nat.le_refl _) dT))⟩
  · subst dX
    cases rt with
    |none=>simp[qq] at kW
    |some u=>
     rw[lW] at eg gz hm
     rw[q6] at pU
     obtain⟨aQ,c3,dT⟩:=bt u (by omega) (by omega) (by omega) (m+4) B g cZ (by omega) sF (dI.b0 (gE.ext bw (Nat.le_refl _)) _ _ fE)
     exact⟨cZ,ar au rfl,_,aQ,c3,fin (v:=.bb) (by simp[gR,jZ]) (cc.mk dT)⟩
  · subst fb
    have wN:gR 9 b8 ns (xs.map a_.k) (cR xs) xs.length (jZ rt)=(pd none (xs.map a_.k) (cR xs)&&decide (2<=xs.length)):=by simp[gR]
    have L9:(xs.map a_.k).length=(cR xs).length:=by rw[List.length_map,lO]
    refine⟨a6,ar au rfl,_,jR g bw,λp5=>?_,λp5=>fin (v:=.bb) (by rw[wN];simp[p5]) (cc.mk (Ext.refl _ _))⟩
    obtain⟨aQ,c3,dT⟩:=LQ (m+2) (B:=B) (h:=g) (v:=a6) (vs:=vs) 110 [] (sK ((xs.map a_.k).map (λk=>!(decide (k≠9)&&decide (k≠1))))) (cg.b0 (gE.ext bw (Nat.le_refl _))) (by omega) (λi i1 x ad=>by
     have i2:i<xs.length:=by omega
     have i3:i<(xs.map a_.k).length:=by rw[List.length_map];exact i2
     obtain⟨M,g6,re⟩:=(dU.get dN i i1 i2).kind
     rw[F2 _ _ i3,List.getElem_map,g6]
     have aD:=re x (bw.trans (Nat.le_refl _) ad)
     refine W2 (m+1) M x ⟨_,aD,λe=>cc.of (eZ (by simp[e])) (Ext.refl _ _),λe=>⟨_,aD,cc.of (eZ (by rw[rb];simp[e])) (Ext.refl _ _)⟩⟩)
    rw[show vs.length=((xs.map a_.k).map (λk=>!(decide (k≠9)&&decide (k≠1)))).length by simp;exact h9,F1,F3] at c3
    refine⟨a6,ar au rfl,_,aQ,c3,λag=>?_,λag=>?_⟩
    rotate_left
    · have hf:(xs.map a_.k).all (λk=>decide (k≠9)&&decide (k≠1))=true:=by simpa using ag
      have B9:=bw.trans (Nat.le_refl _) dT
      have gQ:=(dT.get R ae).trans au
      obtain⟨a3,c4,kJ⟩:=Xg (m+1) (B:=B) (h:=aQ) (v:=a6) (vs:=vs) 112 [] (wn (cR xs)) (Nat.le_trans sF dT.n) (cg.b0 (gE.ext B9 (Nat.le_refl _))) (by omega) rfl (λi hi=>(dU.get dN i hi (by omega)).snd) (λi hi=>by
       obtain⟨M,g6,_⟩:=(dU.get dN i hi (by omega)).kind
       exact⟨M,g6⟩) (λi i1 x ad=>by
       have i2:i<xs.length:=by omega
       have bj:=pa (List.getElem_mem i2)
       have wz:=B9.trans (Nat.le_refl _) ad
       rw[show wn (cR xs) i=wr xs[i] by simp[wn,lO,i2,wx xs i i2]]
       exact lq xs[i] (nh i i2) (by omega) (m+1) x.n x vs[i] (by omega) (Nat.le_refl _) (dI.le (Nat.le_trans b4 wz.n) _ _ (k1 x wz i i1 i2)))
      rw[show vs.length=(cR xs).length by omega,<-L3] at c4
      exact⟨a6,ar gQ rfl,_,a3,c4,fin (v:=.bb) (by rw[wN,F0 _ _ _ L9,hf];simp[p5]) (cc.mk (dT.trans (Nat.le_refl _) kJ))⟩
    · have hf:(xs.map a_.k).all (λk=>decide (k≠9)&&decide (k≠1))=false:=by simpa using ag
      exact fin (v:=.bb) (by rw[wN,F0 _ _ _ L9,hf];simp) (cc.mk dT)
  · exact fin (v:=.bb) (by simp[gR,dL,dz,dX,fb]) (cc.mk (Ext.refl _ _))
end Go.Proofs.cT
namespace Go.Proofs.cT
open Go aC Go.Proofs dD
set_option maxRecDepth 100000
set_option maxHeartbeats 1000000
theorem Xr(call:aE->List J->aa->ao)(b:Nat)(h aK:aa)
  (H1:av h b (0+0)=some .bb)
  (ay:ec Tryz.prog 164 186 (J.ptr b 0) h=fc.val (J.ptr b 0) h)
  (aN:call (.fn 151) [.ptr b 0] h=ao.ret (.ptr b 0) h)
  (aO:ec Tryz.prog 186 164 (J.ptr b 0) h=fc.val (J.ptr b 0) h)
  (bm:aC.storeCells h b (0+0) [.ptr b 0]=some aK):
  aw Tryz.prog Tryz.f145 none call [] (af.mk [(0,.ptr b 0)] [] .none h) (.nrm)
   (af.mk [] [] .none aK):=
 aX [] (hs:=[.v .bb,.v (.bool true),.b true,.v (.ptr b 0),.c (.ptr b 0) h,.v (.ptr b 0),.ft (.aL []) aK]) (by kernel_rfl)<| .cons H1<| .cons (by kernel_rfl:dr Tryz.prog h BinOp.eql 164 (Operand.tmp 5) (Operand.const (Value.pointer none)) J.bb J.bb=some (J.bool true))<| .cons (by kernel_rfl:true=true)<| .cons ay<| .cons aN<| .cons aO<| .cons (⟨by kernel_rfl,bm,rfl⟩:some 1=some 1/\aC.storeCells h b (0+0) [J.ptr b 0]=some aK/\J.aL []=J.aL [])<| .nil
theorem Xs(call:aE->List J->aa->ao)(b:Nat)(h:aa)(bY:Bool)
  (H1:av h b (0+0)=some (.ptr b 0))
  (ay:dr Tryz.prog h BinOp.neq 164 (Operand.tmp 17) (Operand.tmp 18) (J.ptr b 0) (J.ptr b 0)=some (J.bool bY))
  (aN:bY=false):
  aw Tryz.prog Tryz.f145 none call [] (af.mk [(0,.ptr b 0)] [] .none h) (.nrm)
   (af.mk [] [] .none h):=
 aX [] (hs:=[.v (.ptr b 0),.v (.bool false),.b false,.v (.ptr b 0),.v (.bool bY),.b false]) (by kernel_rfl)<| .cons H1<| .cons (by kernel_rfl:dr Tryz.prog h BinOp.eql 164 (Operand.tmp 5) (Operand.const (Value.pointer none)) (J.ptr b 0) J.bb=some (J.bool false))<| .cons (by kernel_rfl:false=false)<| .cons H1<| .cons ay<| .cons aN<| .nil
theorem bws(call:aE->List J->aa->ao)(b c m:Nat)(s:List UInt8)(v:J)(h ae aK cd:aa)
  (H1:call (.fn 145) [.ptr b 0] h=ao.ret (.aL []) aK)
  (ay:av aK b (0+1)=some v)
  (aN:gf Tryz.prog aK 98 (some 9) v (J.str s)=some (J.slice c 0 m (cE.a5 1),ae))
  (aO:aC.storeCells ae b (0+1) [.slice c 0 m (.a5 1)]=some cd):
  aw Tryz.prog Tryz.f130 none call [] (af.mk [(0,.ptr b 0),(1,.str s)] [] .none h) (.ret)
   (af.mk [(4,.int .i64 (.ofNat (List.length s))),(5,.fy)] [] .none cd):=
 aX [4,5] (hs:=[.c (.aL []) aK,.v v,.ft (.slice c 0 m (.a5 1)) ae,.ft (.aL []) cd]) (by kernel_rfl)<| .cons H1<| .cons ay<| .cons aN<| .cons (⟨by kernel_rfl,aO,rfl⟩:some 1=some 1/\aC.storeCells ae b (0+1) [J.slice c 0 m (cE.a5 1)]=some cd/\J.aL []=J.aL [])<| .nil
theorem Xt(call:aE->List J->aa->ao)(b:Nat)(s:List UInt8)(v:J)(h ae aK cd:aa)
  (H1:call (.fn 145) [.ptr b 0] h=ao.ret (.aL []) aK)
  (ay:av aK b (0+1)=some v)
  (aN:gf Tryz.prog aK 98 (some 9) v (J.str s)=some (J.aA,ae))
  (aO:aC.storeCells ae b (0+1) [.aA]=some cd):
  aw Tryz.prog Tryz.f130 none call [] (af.mk [(0,.ptr b 0),(1,.str s)] [] .none h) (.ret)
   (af.mk [(4,.int .i64 (.ofNat (List.length s))),(5,.fy)] [] .none cd):=
 aX [4,5] (hs:=[.c (.aL []) aK,.v v,.ft .aA ae,.ft (.aL []) cd]) (by kernel_rfl)<| .cons H1<| .cons ay<| .cons aN<| .cons (⟨by kernel_rfl,aO,rfl⟩:some 1=some 1/\aC.storeCells ae b (0+1) [J.aA]=some cd/\J.aL []=J.aL [])<| .nil
theorem Xu(call:aE->List J->aa->ao)(b c m:Nat)(h:aa)(bC:List UInt8)(aK:aa)
  (H1:av (aa.room h 12) b (0+1)=some (.slice c 0 m (.a5 1)))
  (ay:jn Tryz.prog Builtin.unsafeSliceData (Array.mk [98]) [.slice c 0 m (.a5 1)] (aa.room h 12)=fc.val (.ptr c 0) (aa.room h 12))
  (aN:qE Tryz.prog (aa.room h 12) 182 (J.ptr c 0) (J.int IntKind.i64 (Int.ofNat m))=some (J.str bC,aK)):
  aw Tryz.prog Tryz.f136 none call [] (af.mk [(0,.ptr b 0)] [] .none h) (.ret)
   (af.mk [(2,.str bC)] [] .none aK):=
 aX [2] (hs:=[.v (.slice c 0 m (.a5 1)),.v (.ptr c 0),.v (.slice c 0 m (.a5 1)),.ft (.str bC) aK]) (by kernel_rfl)<| .cons H1<| .cons ay<| .cons H1<| .cons aN<| .cons (by kernel_rfl:J.sound (J.ptr b 0)=true)<| .cons (by kernel_rfl:J.ptr b 0=J.ptr b 0)<| .cons (by kernel_rfl:J.sound (J.ptr b 0)=true)<| .cons (by kernel_rfl:J.ptr b 0=J.ptr b 0)<| .cons (by kernel_rfl:J.sound (J.ptr b (0+1))=true)<| .cons (by kernel_rfl:J.ptr b (0+1)=J.ptr b (0+1))<| .cons (by kernel_rfl:J.sound (J.slice c 0 m (cE.a5 1))=true)<| .cons H1<| .cons (by kernel_rfl:J.sound (J.ptr c 0)=true)<| .cons ay<| .cons (by kernel_rfl:J.sound (J.ptr b 0)=true)<| .cons (by kernel_rfl:J.ptr b 0=J.ptr b 0)<| .cons (by kernel_rfl:J.sound (J.ptr b 0)=true)<| .cons (by kernel_rfl:J.ptr b 0=J.ptr b 0)<| .cons (by kernel_rfl:J.sound (J.ptr b (0+1))=true)<| .cons (by kernel_rfl:J.ptr b (0+1)=J.ptr b (0+1))<| .cons (by kernel_rfl:J.sound (J.slice c 0 m (cE.a5 1))=true)<| .cons H1<| .cons (by kernel_rfl:J.sound (J.int IntKind.i64 (Int.ofNat m))=true)<| .cons (by kernel_rfl:cq Tryz.prog (aa.room h 12) 98 (J.slice c 0 m (cE.a5 1))=some (J.int IntKind.i64 (Int.ofNat m)))<| .cons (by kernel_rfl:J.sound (J.str bC)=true)<| .cons (by kernel_rfl:J.str bC=J.str bC)<| .nil
theorem Xv(call:aE->List J->aa->ao)(b:Nat)(h:aa)(bC:List UInt8)(aK:aa)
  (H1:av (aa.room h 12) b (0+1)=some .aA)
  (ay:qE Tryz.prog (aa.room h 12) 182 J.bb (J.int IntKind.i64 (Int.ofNat 0))=some (J.str bC,aK)):
  aw Tryz.prog Tryz.f136 none call [] (af.mk [(0,.ptr b 0)] [] .none h) (.ret)
   (af.mk [(2,.str bC)] [] .none aK):=
 aX [2] (hs:=[.v .aA,.v .bb,.v .aA,.ft (.str bC) aK]) (by kernel_rfl)<| .cons H1<| .cons (by kernel_rfl:jn Tryz.prog Builtin.unsafeSliceData (Array.mk [98]) [J.aA] (aa.room h 12)=fc.val J.bb (aa.room h 12))<| .cons H1<| .cons ay<| .cons (by kernel_rfl:J.sound (J.ptr b 0)=true)<| .cons (by kernel_rfl:J.ptr b 0=J.ptr b 0)<| .cons (by kernel_rfl:J.sound (J.ptr b 0)=true)<| .cons (by kernel_rfl:J.ptr b 0=J.ptr b 0)<| .cons (by kernel_rfl:J.sound (J.ptr b (0+1))=true)<| .cons (by kernel_rfl:J.ptr b (0+1)=J.ptr b (0+1))<| .cons (by kernel_rfl:J.sound J.aA=true)<| .cons H1<| .cons (by kernel_rfl:J.sound J.bb=true)<| .cons (by kernel_rfl:jn Tryz.prog Builtin.unsafeSliceData (Array.mk [98]) [J.aA] (aa.room h 12)=fc.val J.bb (aa.room h 12))<| .cons (by kernel_rfl:J.sound (J.ptr b 0)=true)<| .cons (by kernel_rfl:J.ptr b 0=J.ptr b 0)<| .cons (by kernel_rfl:J.sound (J.ptr b 0)=true)<| .cons (by kernel_rfl:J.ptr b 0=J.ptr b 0)<| .cons (by kernel_rfl:J.sound (J.ptr b (0+1))=true)<| .cons (by kernel_rfl:J.ptr b (0+1)=J.ptr b (0+1))<| .cons (by kernel_rfl:J.sound J.aA=true)<| .cons H1<| .cons (by kernel_rfl:J.sound (J.int IntKind.i64 (Int.ofNat 0))=true)<| .cons (by kernel_rfl:cq Tryz.prog (aa.room h 12) 98 J.aA=some (J.int IntKind.i64 (Int.ofNat 0)))<| .cons (by kernel_rfl:J.sound (J.str bC)=true)<| .cons (by kernel_rfl:J.str bC=J.str bC)<| .nil
theorem Xw(m:Nat)(v:J)(s:List UInt8)(f_:Nat)(fz:Nat)(b:Nat)(c:Nat)(je:List J)(jf:List J)(h:aa){R:ao->Prop}(H:∃a1:Nat,cq Tryz.prog h 49 v=some (.int .i64 (.ofNat a1))/\bz Tryz.prog Tryz.f129 (Y m) [1,0] (af.mk [(1,.str s),(2,.fn f_ [] je),(3,.fn fz [] jf),(4,.ptr b 0),(5,.ptr c 0),(12,v),(13,.int .i64 (.ofNat a1)),(14,.int .i64 (.ofNat 0))] [] .none h) (λdv dw=>∃aq:aa,∃bK:Env,dv=.exit 0/\dw=af.mk bK [] .none aq/\cN [] bK/\R (.ret (.aL []) aq))):
  R (Y (m+1) (.fn 129) [v,.str s,.fn f_ [] je,.fn fz [] jf,.ptr b 0,.ptr c 0] h):=
 eM (intr:=cj) [(4000,.gr [1,2,3,4,5,12,13,14] [(.exit 0,[])])] [(0,.o v),(1,.v (.str s)),(2,.o (.fn f_ [] je)),(3,.o (.fn fz [] jf)),(4,.v (.ptr b 0)),(5,.v (.ptr c 0))] Tryz.func129 (by kernel_rfl) (by kernel_rfl) (by kernel_rfl) rfl (Eq.mp (by kernel_rfl) H)
theorem Xx(call:aE->List J->aa->ao)(s:List UInt8)(f_:Nat)(fz:Nat)(b:Nat)(c:Nat)(eW:Nat)(off:Nat)(N:Nat)(i:Nat)(zc:Nat)(aH:cE)(je:List J)(jf:List J)(co:List J)(h:aa){Q:bA->af->Prop}(H:(i<N->i<N/\∃v1:J,av h eW (off+i*1)=some v1/\(0<i->∃a1:Nat,∃v2:J,∃aq:aa,call (.fn 130) [.ptr b 0,.str s] h=.ret (.aL [.int .i64 (.ofNat a1),v2]) aq/\∃s1:List UInt8,∃ak:aa,call (.fn f_) (.int .i64 (.ofNat i)::je) aq=.ret (.str s1) ak/\∃bL:Nat,∃dS:J,∃aQ:aa,call (.fn 130) [.ptr b 0,.str s1] ak=.ret (.aL [.int .i64 (.ofNat bL),dS]) aQ/\av aQ c 0=some (.fn zc [] co)/\∃a3:aa,call (.fn zc) (v1::co) aQ=.ret (.aL []) a3/\∃s2:List UInt8,∃bZ:aa,call (.fn fz) (.int .i64 (.ofNat i)::jf) a3=.ret (.str s2) bZ/\∃cm:Nat,∃v4:J,∃b2:aa,call (.fn 130) [.ptr b 0,.str s2] bZ=.ret (.aL [.int .i64 (.ofNat cm),v4]) b2/\i+1<9223372036854775808/\Q .nrm (af.mk [(1,.str s),(2,.fn f_ [] je),(3,.fn fz [] jf),(4,.ptr b 0),(5,.ptr c 0),(12,.slice eW off N aH),(13,.int .i64 (.ofNat N)),(14,.int .i64 (.ofNat (i+1)))] [] .none b2))/\(¬0<i->∃ck:List UInt8,∃b5:aa,call (.fn f_) (.int .i64 (.ofNat i)::je) h=.ret (.str ck) b5/\∃cn:Nat,∃h6:J,∃b1:aa,call (.fn 130) [.ptr b 0,.str ck] b5=.ret (.aL [.int .i64 (.ofNat cn),h6]) b1/\av b1 c 0=some (.fn zc [] co)/\∃dk:aa,call (.fn zc) (v1::co) b1=.ret (.aL []) dk/\∃b6:List UInt8,∃gg:aa,call (.fn fz) (.int .i64 (.ofNat i)::jf) dk=.ret (.str b6) gg/\∃cz:Nat,∃v6:J,∃fv:aa,call (.fn 130) [.ptr b 0,.str b6] gg=.ret (.aL [.int .i64 (.ofNat cz),v6]) fv/\i+1<9223372036854775808/\Q .nrm (af.mk [(1,.str s),(2,.fn f_ [] je),(3,.fn fz [] jf),(4,.ptr b 0),(5,.ptr c 0),(12,.slice eW off N aH),(13,.int .i64 (.ofNat N)),(14,.int .i64 (.ofNat (i+1)))] [] .none fv)))/\(¬i<N->Q (.exit 0) (af.mk [(1,.str s),(2,.fn f_ [] je),(3,.fn fz [] jf),(4,.ptr b 0),(5,.ptr c 0),(12,.slice eW off N aH),(13,.int .i64 (.ofNat N)),(14,.int .i64 (.ofNat i))] [] .none h))):
  bz Tryz.prog Tryz.f129 call [1,0,0] ⟨[(1,.str s),(2,.fn f_ [] je),(3,.fn fz [] jf),(4,.ptr b 0),(5,.ptr c 0),(12,.slice eW off N aH),(13,.int .i64 (.ofNat N)),(14,.int .i64 (.ofNat i))],[],.none,h⟩ Q:=
 hz [(18,.cI .o),(27,.cI (.io (.fn zc [] co)))] [1,2,3,4,5,12,13,14] [(1,.v (.str s)),(2,.o (.fn f_ [] je)),(3,.o (.fn fz [] jf)),(4,.v (.ptr b 0)),(5,.v (.ptr c 0)),(12,.v (.slice eW off N aH)),(13,.v (.int .i64 (.ofNat N))),(14,.v (.int .i64 (.ofNat i)))] rfl (Eq.mp (by kernel_rfl) H)
theorem Xy(call:aE->List J->aa->ao)(s:List UInt8)(f_:Nat)(fz:Nat)(b:Nat)(c:Nat)(N:Nat)(i:Nat)(je:List J)(jf:List J)(v:J)(h:aa){Q:bA->af->Prop}(H:¬i<N/\Q (.exit 0) (af.mk [] [] .none h)):
  bz Tryz.prog Tryz.f129 call [1,0,0] ⟨[(1,.str s),(2,.fn f_ [] je),(3,.fn fz [] jf),(4,.ptr b 0),(5,.ptr c 0),(12,v),(13,.int .i64 (.ofNat N)),(14,.int .i64 (.ofNat i))],[],.none,h⟩ Q:=
 hz [(1015,.f)] [] [(1,.v (.str s)),(2,.o (.fn f_ [] je)),(3,.o (.fn fz [] jf)),(4,.v (.ptr b 0)),(5,.v (.ptr c 0)),(12,.o v),(13,.v (.int .i64 (.ofNat N))),(14,.v (.int .i64 (.ofNat i)))] rfl (Eq.mp (by kernel_rfl) H)
theorem F5(m:Nat)(i:Nat)(h:aa){R:ao->Prop}(H:R (.ret (.str []) h)):
  R (Y (m+1) (.fn 131) [.int .i64 (.ofNat i)] h):=
 eM (intr:=cj) [] [(0,.v (.int .i64 (.ofNat i)))] Tryz.func131 (by kernel_rfl) (by kernel_rfl) (by kernel_rfl) rfl (Eq.mp (by kernel_rfl) H)
theorem Xz(m:Nat)(i:Nat)(e:Nat)(h:aa){R:ao->Prop}(H:∃a1:Nat,av h e 0=some (.ptr a1 0)/\∃bL:Nat,∃cm:Nat,∃cn:Nat,∃c1:cE,av h a1 (0+2)=some (.slice bL cm cn c1)/\i<cn/\∃s1:List UInt8,av h bL (cm+i*1)=some (.str s1)/\List.length s1+2<=1000000000000/\R (.ret (.str (s1++[58,32])) h)):
  R (Y (m+1) (.fn 133) [.int .i64 (.ofNat i),.ptr e 0] h):=
 eM (intr:=cj) [(7,.cI .iv)] [(0,.v (.int .i64 (.ofNat i))),(1,.v (.ptr e 0))] Tryz.func133 (by kernel_rfl) (by kernel_rfl) (by kernel_rfl) rfl (Eq.mp (by kernel_rfl) H)
theorem L_(m:Nat)(s:List UInt8)(e:Nat)(h:aa){R:ao->Prop}(H:R (.ret (.fn 135 [] [.ptr e 0,.ptr h.n 0]) (aa.push h (.cells [.str s] 9 .own 0 0)))):
  R (Y (m+1) (.fn 134) [.str s,.ptr e 0] h):=
 eM (intr:=cj) [] [(0,.v (.str s)),(1,.v (.ptr e 0))] Tryz.func134 (by kernel_rfl) (by kernel_rfl) (by kernel_rfl) rfl (Eq.mp (by kernel_rfl) H)
theorem XA(m:Nat)(i:Nat)(e:Nat)(f:Nat)(h:aa){R:ao->Prop}(H:∃a1:Nat,av h e 0=some (.ptr a1 0)/\∃bL:Nat,∃cm:Nat,∃cn:Nat,∃c1:cE,av h a1 (0+3)=some (.slice bL cm cn c1)/\i<cn/\∃cz:Nat,av h bL (cm+i*1)=some (.ptr cz 0)/\∃cV:Nat,av h cz (0+0)=some (.int .i64 (.ofNat cV))/\(cV=8->∃s1:List UInt8,av h f 0=some (.str s1)/\R (.ret (.str s1) h))/\(¬cV=8->R (.ret (.str []) h))):
  R (Y (m+1) (.fn 135) [.int .i64 (.ofNat i),.ptr e 0,.ptr f 0] h):=
 eM (intr:=cj) [(8,.cI .iv)] [(0,.v (.int .i64 (.ofNat i))),(1,.v (.ptr e 0)),(2,.v (.ptr f 0))] Tryz.func135 (by kernel_rfl) (by kernel_rfl) (by kernel_rfl) rfl (Eq.mp (by kernel_rfl) H)
theorem XB(m:Nat)(b:Nat)(l:Nat)(n:Nat)(o:Nat)(r:Nat)(k:Nat)(s:List UInt8)(a6:J)(cZ:J)(h:aa){R:ao->Prop}(H:av (aa.push h (.cells [.ptr r 0] 47 .own 0 0)) h.n 0=some (.ptr r 0)/\av (aa.push h (.cells [.ptr r 0] 47 .own 0 0)) r (0+0)=some (.int .i64 (.ofNat k))/\(k=6->av (aa.push h (.cells [.ptr r 0] 47 .own 0 0)) h.n 0=some (.ptr r 0)/\av (aa.push h (.cells [.ptr r 0] 47 .own 0 0)) r (0+1)=some (.str s)/\∃a1:Nat,∃v1:J,∃aq:aa,(Y m) (.fn 130) [.ptr b 0,.str s] (aa.push h (.cells [.ptr r 0] 47 .own 0 0))=.ret (.aL [.int .i64 (.ofNat a1),v1]) aq/\R (.ret (.aL []) aq))/\(¬k=6->(k=7->∃bL:Nat,∃v2:J,∃ak:aa,(Y m) (.fn 130) [.ptr b 0,.str [123]] (aa.push h (.cells [.ptr r 0] 47 .own 0 0))=.ret (.aL [.int .i64 (.ofNat bL),v2]) ak/\av (ak.room 8) l 0=some (.fn 129 [] [.ptr b 0,.ptr o 0])/\av (ak.room 8) h.n 0=some (.ptr r 0)/\av (ak.room 8) r (0+3)=some a6/\av (ak.room 8) n 0=some (.fn 131 [] [])/\∃aQ:aa,(Y m) (.fn 129) [a6,.str [44,32],.fn 133 [] [.ptr h.n 0],.fn 131 [] [],.ptr b 0,.ptr o 0] (ak.room 8)=.ret (.aL []) aQ/\J.sound a6=true/\∃cm:Nat,∃dS:J,∃a3:aa,(Y m) (.fn 130) [.ptr b 0,.str [125]] aQ=.ret (.aL [.int .i64 (.ofNat cm),dS]) a3/\R (.ret (.aL []) a3))/\(¬k=7->(k=8->∃cn:Nat,∃v4:J,∃bZ:aa,(Y m) (.fn 130) [.ptr b 0,.str [102,110,40]] (aa.push h (.cells [.ptr r 0] 47 .own 0 0))=.ret (.aL [.int .i64 (.ofNat cn),v4]) bZ/\av (bZ.room 8) l 0=some (.fn 129 [] [.ptr b 0,.ptr o 0])/\av (bZ.room 8) h.n 0=some (.ptr r 0)/\av (bZ.room 8) r (0+3)=some a6/\av (bZ.room 8) n 0=some (.fn 131 [] [])/\av (bZ.room 8) n 0=some (.fn 131 [] [])/\∃b2:aa,(Y m) (.fn 129) [a6,.str [44,32],.fn 131 [] [],.fn 131 [] [],.ptr b 0,.ptr o 0] (bZ.room 8)=.ret (.aL []) b2/\J.sound a6=true/\∃cz:Nat,∃h6:J,∃b5:aa,(Y m) (.fn 130) [.ptr b 0,.str [41,32,45,62,32]] b2=.ret (.aL [.int .i64 (.ofNat cz),h6]) b5/\av (b5.room 6) o 0=some (.fn 132 [] [.ptr b 0,.ptr l 0,.ptr n 0,.ptr o 0])/\av (b5.room 6) h.n 0=some (.ptr r 0)/\av (b5.room 6) r (0+4)=some cZ/\∃b1:aa,(Y m) (.fn 132) [cZ,.ptr b 0,.ptr l 0,.ptr n 0,.ptr o 0] (b5.room 6)=.ret (.aL []) b1/\J.sound cZ=true/\R (.ret (.aL []) b1))/\(¬k=8->(k=9->av (aa.room (aa.push h (.cells [.ptr r 0] 47 .own 0 0)) 10) l 0=some (.fn 129 [] [.ptr b 0,.ptr o 0])/\av (aa.room (aa.push h (.cells [.ptr r 0] 47 .own 0 0)) 10) h.n 0=some (.ptr r 0)/\av (aa.room (aa.push h (.cells [.ptr r 0] 47 .own 0 0)) 10) r (0+3)=some a6/\∃v6:J,∃dk:aa,(Y m) (.fn 134) [.str [40],.ptr h.n 0] (aa.room (aa.push h (.cells [.ptr r 0] 47 .own 0 0)) 10)=.ret v6 dk/\∃oj:J,∃gg:aa,(Y m) (.fn 134) [.str [41],.ptr h.n 0] dk=.ret oj gg/\∃fv:aa,(Y m) (.fn 129) [a6,.str [32,124,32],v6,oj,.ptr b 0,.ptr o 0] gg=.ret (.aL []) fv/\av gg l 0=some (.fn 129 [] [.ptr b 0,.ptr o 0])/\av dk l 0=some (.fn 129 [] [.ptr b 0,.ptr o 0])/\av gg h.n 0=some (.ptr r 0)/\av dk h.n 0=some (.ptr r 0)/\J.sound a6=true/\av gg r (0+3)=some a6/\av dk r (0+3)=some a6/\R (.ret (.aL []) fv))/\(¬k=9->av (aa.push h (.cells [.ptr r 0] 47 .own 0 0)) h.n 0=some (.ptr r 0)/\av (aa.push h (.cells [.ptr r 0] 47 .own 0 0)) r (0+0)=some (.int .i64 (.ofNat k))/\∃s1:List UInt8,(k<6/\l7 Tryz.prog 9 [.str [],.str [97,110,121],.str [105,110,116],.str [98,111,111,108],.str [115,116,114],.str [110,105,108]] (k*1)=some (.str s1))/\∃cV:Nat,∃qn:J,∃hK:aa,(Y m) (.fn 130) [.ptr b 0,.str s1] (aa.push h (.cells [.ptr r 0] 47 .own 0 0))=.ret (.aL [.int .i64 (.ofNat cV),qn]) hK/\R (.ret (.aL []) hK)))))):
  R (Y (m+1) (.fn 132) [.ptr r 0,.ptr b 0,.ptr l 0,.ptr n 0,.ptr o 0] h):=
 eM (intr:=cj) [(7,.cI (.is (.ptr r 0))),(20,.cI (.is (.ptr r 0))),(29,.cI (.is (.ptr r 0))),(41,.cI (.is (.ptr r 0))),(50,.cI (.is (.ptr r 0))),(59,.cI (.is (.ptr r 0))),(12,.cI (.is (.ptr r 0))),(10,.cI (.is (.int .i64 (.ofNat k)))),(15,.cI (.is (.int .i64 (.ofNat k)))),(23,.cI (.is (.str s))),(32,.cI (.io a6)),(44,.cI (.io a6)),(62,.cI (.io a6)),(53,.cI (.io cZ)),(28,.cI (.is (.fn 129 [] [.ptr b 0,.ptr o 0]))),(40,.cI (.is (.fn 129 [] [.ptr b 0,.ptr o 0]))),(58,.cI (.is (.fn 129 [] [.ptr b 0,.ptr o 0]))),(34,.cI (.is (.fn 131 [] []))),(45,.cI (.is (.fn 131 [] []))),(46,.cI (.is (.fn 131 [] []))),(49,.cI (.is (.fn 132 [] [.ptr b 0,.ptr l 0,.ptr n 0,.ptr o 0]))),(64,.cI .o),(66,.cI .o)] [(0,.v (.ptr r 0)),(1,.v (.ptr b 0)),(2,.v (.ptr l 0)),(3,.v (.ptr n 0)),(4,.v (.ptr o 0))] Tryz.func132 (by kernel_rfl) (by kernel_rfl) (by kernel_rfl) rfl (Eq.mp (by kernel_rfl) H)
theorem XC(m:Nat)(r:Nat)(h:aa){R:ao->Prop}(H:∃aq:aa,aC.storeCells (aa.push (aa.push (aa.push h (.cells [.bb,.aA] 166 .own 0 0)) (.cells [.gj] 127 .own 0 0)) (.cells [.gj] 172 .own 0 0)) (aa.n (aa.push (aa.push h (.cells [.bb,.aA] 166 .own 0 0)) (.cells [.gj] 127 .own 0 0))) 0 [.fn 129 [] [.ptr h.n 0,.ptr (aa.n (aa.push h (.cells [.bb,.aA] 166 .own 0 0))) 0]]=some aq/\∃ak:aa,aC.storeCells (aa.push aq (.cells [.gj] 167 .own 0 0)) aq.n 0 [.fn 131 [] []]=some ak/\∃aQ:aa,aC.storeCells ak (aa.n (aa.push h (.cells [.bb,.aA] 166 .own 0 0))) 0 [.fn 132 [] [.ptr h.n 0,.ptr (aa.n (aa.push (aa.push h (.cells [.bb,.aA] 166 .own 0 0)) (.cells [.gj] 127 .own 0 0))) 0,.ptr aq.n 0,.ptr (aa.n (aa.push h (.cells [.bb,.aA] 166 .own 0 0))) 0]]=some aQ/\∃bK:List J,av aQ (aa.n (aa.push h (.cells [.bb,.aA] 166 .own 0 0))) 0=some (.fn 132 [] bK)/\∃a3:aa,(Y m) (.fn 132) (.ptr r 0::bK) aQ=.ret (.aL []) a3/\∃s1:List UInt8,∃bZ:aa,(Y m) (.fn 136) [.ptr h.n 0] a3=.ret (.str s1) bZ/\R (.ret (.str s1) bZ)):
  R (Y (m+1) (.fn 112) [.ptr r 0] h):=
 eM (intr:=cj) [(9,.cI (.fn 132 4))] [(0,.v (.ptr r 0))] Tryz.func112 (by kernel_rfl) (by kernel_rfl) (by kernel_rfl) rfl (Eq.mp (by kernel_rfl) H)
def zd(B b:Nat)(h:aa)(w:List UInt8):Prop:=∃a v,h.get b=some (.cells [a,v] 166 .own 0 0)/\(a=.bb\/a=.ptr b 0)/\ud B 5 h v w/\b<B/\B<=h.n/\(w=[]->v=.aA)
theorem XD(n b:Nat)(h:aa):Y (n+1) (.fn 151) [.ptr b 0] h=.ret (.ptr b 0) h:=by unfold Y;kernel_rfl
theorem XE(n b:Nat)(h:aa)(v:J)(ag:b<h.n)(au:h.get b=some (.cells [.bb,v] 166 .own 0 0)\/h.get b=some (.cells [.ptr b 0,v] 166 .own 0 0)):
  ∃an,Y (n+2) (.fn 145) [.ptr b 0] h=.ret (.aL []) an/\an.get b=some (.cells [.ptr b 0,v] 166 .own 0 0)/\an.n=h.n/\∀c,c≠b->an.get c=h.get c:=by
 rcases au with au|au
 · refine⟨h.set b (some (.cells [.ptr b 0,v] 166 .own 0 0)),?_,dF rfl,rfl,λc ai=>et ai rfl⟩
   have f1:Tryz.prog.underlying 164=some (.pointer 166):=by kernel_rfl
   have f2:Tryz.prog.underlying 186=some .unsafePointer:=by kernel_rfl
   have f3:dQ Tryz.prog 166=some 2:=by kernel_rfl
   have f4:liesAt Tryz.prog Tryz.prog.depth 166 (2/Tryz.prog.cellsOf 166) 0 166 1=true:=by kernel_rfl
   have v1:ec Tryz.prog 164 186 (J.ptr b 0) h=fc.val (J.ptr b 0) h:=by
    simp only[ec,f1,f2,f3,au];rfl
   have v2:ec Tryz.prog 186 164 (J.ptr b 0) h=fc.val (J.ptr b 0) h:=by
    simp only[ec,f1,f2,f3,au,List.length_cons,List.length_nil,f4];rfl
   have al:=Xr (Y (n+1)) b h _ (ar au rfl) v1 (XD n b h) v2 (dP au rfl rfl)
   exact dn (intr:=cj) (n:=n+1) (args:=[.ptr b 0]) Tryz.func145 (by kernel_rfl) rfl (by kernel_rfl) al (.inr rfl) (by kernel_rfl)
 · refine⟨h,?_,au,rfl,λc _=>rfl⟩
   have he:dr Tryz.prog h BinOp.neq 164 (Operand.tmp 17) (Operand.tmp 18) (J.ptr b 0) (J.ptr b 0)=some (J.bool false):=by
    have aF:Tryz.prog.underlying 164=some (.pointer 166):=by kernel_rfl
    have aG:dQ Tryz.prog 166=some 2:=by kernel_rfl
    have bJ:Nat.beq b b=true:=by simp
    simp only[dr,rJ,iT,aF,aG,CZ,bJ]
    rfl
   exact dn (intr:=cj) (n:=n+1) (args:=[.ptr b 0]) Tryz.func145 (by kernel_rfl) rfl (by kernel_rfl) (Xs (Y (n+1)) b h false (ar au rfl) he rfl) (.inr rfl) (by kernel_rfl)
theorem XF:∃i,Tryz.prog.info? 5=some i/\i.size=1/\i.bytes=1:=by
 have hi:(Tryz.prog.info? 5).map (λi=>(i.size,i.bytes))=some (1,1):=by kernel_rfl
 cases ze:Tryz.prog.info? 5 with
 |none=>rw[ze] at hi;cases hi
 |some i=>
  rw[ze] at hi
  simp only[Option.map_some,Option.some.injEq,Prod.mk.injEq] at hi
  exact⟨i,rfl,hi.1,hi.2⟩
theorem XG{i:TypeInfo}(hi:i.bytes=1){n:Nat}(aM:n<=1000000000):my n i.bytes=true:=by
 rw[hi]
 have:(4*n+2048)*(1+1)<=281474976710656:=by omega
 simpa[my] using this
theorem XH(n b B:Nat)(h:aa)(w s:List UInt8)(ag:zd B b h w)(aD:w.length+s.length<=1000000000):∃an,Y (n+3) (.fn 130) [.ptr b 0,.str s] h=.ret (.aL [.int .i64 (Int.ofNat s.length),.fy]) an/\zd B b an (w++s)/\nw 5 b B h an:=by
 obtain⟨a,v,au,bl,Ma,nG,XI,tG⟩:=ag
 obtain⟨ab,c1,aq,a1,dH⟩:=XE n b h v (by omega) (by rcases bl with rfl|rfl;exact .inl au;exact .inr au)
 have a8:ud B 5 ab v w:=Ma.ext (by omega) λc ai _=>dH c (by omega)
 obtain⟨i,ze,Mb,yh⟩:=XF
 obtain⟨v',ae,dG,eJ,h8⟩:=Sw (P:=Tryz.prog) (B:=B) (sT:=98) (xT:=some 9) (e:=5) (z:=.int .u8 (Int.ofNat 0)) (by omega) (by kernel_rfl) (by kernel_rfl) ze Mb (by kernel_rfl) rfl (XG yh aD) a8
 have ak:=(h8.get b nG).trans aq
 have aM:=h8.n
 have XJ:w++s=[]->v'=.aA:=by
  intro e
  obtain⟨rfl,rfl⟩:=List.append_eq_nil_iff.1 e
  obtain rfl:=tG rfl
  have:gf Tryz.prog ab 98 (some 9) .aA (.str [])=some (.aA,ab):=by
   have hu:Tryz.prog.underlying 98=some (.slice 5):=by kernel_rfl
   have hs:pA Tryz.prog (some 9)=true:=by kernel_rfl
   have bj:fq Tryz.prog 5=some (.int .u8 (Int.ofNat 0)):=by kernel_rfl
   simp only[gf,hu,hs,ze,bj,Mb];rfl
  rw[this] at dG
  cases dG;rfl
 refine⟨ae.set b (some (.cells [.ptr b 0,v'] 166 .own 0 0)),?_,⟨.ptr b 0,v',dF rfl,.inr rfl,eJ.ext (by simp) λc ai _=>et (by omega) rfl,nG,by simp;omega,XJ⟩,⟨⟨by simp;omega,λc ai rZ=>et rZ ((h8.get c ai).trans (dH c rZ))⟩,λd aj Mc tL=>?_⟩⟩
 · rcases eJ with⟨rfl,_⟩|⟨c,r,rfl,_⟩
   · exact dn (intr:=cj) (n:=n+2) (args:=[.ptr b 0,.str s]) Tryz.func130 (by kernel_rfl) rfl (by kernel_rfl) (Xt (Y (n+2)) b s v h ae ab _ c1 (ar aq rfl) dG (dP ak rfl rfl)) (.inl rfl) (by kernel_rfl)
   · exact dn (intr:=cj) (n:=n+2) (args:=[.ptr b 0,.str s]) Tryz.func130 (by kernel_rfl) rfl (by kernel_rfl) (bws (Y (n+2)) b c _ s v h ae ab _ c1 (ar aq rfl) dG (dP ak rfl rfl)) (.inl rfl) (by kernel_rfl)
 · refine et Mc ((SP dG (by omega) ?_).trans (dH d Mc))
   rintro o l c rfl
   rcases Ma with⟨ad,_⟩|⟨c',rest,ad,ai,_⟩
   · cases ad
   · cases ad
     exact tL _ _ _ ai
theorem XK(n b B:Nat)(h:aa)(w:List UInt8)(ag:zd B b h w)(aD:w.length<=1000000000):∃an,Y (n+1) (.fn 136) [.ptr b 0] h=.ret (.str w) an/\Ext B h an:=by
 obtain⟨a,v,g,bl,aJ,nG,aM,tG⟩:=ag
 rcases aJ with⟨rfl,rfl⟩|⟨c,rest,rfl,ai,yw,p8⟩
 · have mH:qE Tryz.prog (aa.room h 12) 182 J.bb (J.int IntKind.i64 (Int.ofNat 0))=some (.str [],aa.room h 12):=by kernel_rfl
   exact⟨_,dn (intr:=cj) (n:=n) (args:=[.ptr b 0]) Tryz.func136 (by kernel_rfl) rfl (by kernel_rfl) (Xv (Y n) b h [] _ (ar (h:=h.room 12) g rfl) mH) (.inl rfl) (by kernel_rfl),Ext.room _ _ _⟩
 · by_cases hw:w=[]
   · exact absurd (tG hw) (by simp)
   · have eb:w.length≠0:=by cases w<;>simp at hw⊢
     have fF:jn Tryz.prog Builtin.unsafeSliceData (Array.mk [98]) [J.slice c 0 w.length (cE.a5 1)] (aa.room h 12)=fc.val (J.ptr c 0) (aa.room h 12):=by
      simp only[jn]
      exact if_neg eb
     have mH:=Sz (P:=Tryz.prog) (h:=h.room 12) (pT:=182) (u:=5) (c:=c) (e:=5) (w:=w) (rest:=rest) hw (by omega) (by kernel_rfl) (by kernel_rfl) (by kernel_rfl) ai
     exact⟨_,dn (intr:=cj) (n:=n) (args:=[.ptr b 0]) Tryz.func136 (by kernel_rfl) rfl (by kernel_rfl) (Xu (Y n) b c w.length h w _ (ar (h:=h.room 12) g rfl) fF mH) (.inl rfl) (by kernel_rfl),
      (Ext.room B h 12).trans (Nat.le_refl _) (Ext.set (by omega) _)⟩
end Go.Proofs.cT
namespace Go.Proofs.cT
open Go aC Go.Proofs dD
set_option maxRecDepth 100000
set_option maxHeartbeats 1000000
abbrev pj(b:Nat):List J:=[.ptr b 0,.ptr (b+2) 0,.ptr (b+3) 0,.ptr (b+1) 0]
structure gG(b:Nat)(az x:aa)(w:bc):Prop where
 B_:zd (b+4) b x w
 one:x.get (b+1)=some (.cells [.fn 132 [] (pj b)] 127 .own 0 0)
 wR:x.get (b+2)=some (.cells [.fn 129 [] [.ptr b 0,.ptr (b+1) 0]] 172 .own 0 0)
 o1:x.get (b+3)=some (.cells [.fn 131 [] []] 167 .own 0 0)
 ext:Ext b az x
abbrev iA(b:Nat)(x y:aa):Prop:=nw 5 b (b+4) x y
theorem gG.n{b:Nat}{az x:aa}{w:bc}(ag:gG b az x w):b+4<=x.n:=by obtain⟨_,_,_,_,_,_,h,_⟩:=ag.B_;exact h
theorem gG.Md{b:Nat}{az x y:aa}{w w':bc}(ag:gG b az x w)(bu:zd (b+4) b y w')(k:iA b x y):gG b az y w':=
 ⟨bu,(k.x.get _ (by omega) (by omega)).trans ag.one,(k.x.get _ (by omega) (by omega)).trans ag.wR,(k.x.get _ (by omega) (by omega)).trans ag.o1,
  ag.ext.trans (Nat.le_refl _) ⟨k.x.n,λd aj=>k.x.get d (by omega) (by omega)⟩⟩
theorem gG.Ca{b:Nat}{az x y:aa}{w:bc}(ag:gG b az x w)(e:Ext x.n x y):gG b az y w/\iA b x y:=by
 have aM:=ag.n
 have ax:iA b x y:=nw.ext e aM
 refine⟨ag.Md ?_ ax,ax⟩
 obtain⟨a,v,ab,ae,aB,aP,cg,dN⟩:=ag.B_
 exact⟨a,v,(e.get b (by omega)).trans ab,ae,aB.ext e.n λc _ ai=>e.get c ai,aP,Nat.le_trans cg e.n,dN⟩
theorem gG.ws{b:Nat}{az x:aa}{w:bc}(n:Nat)(s:bc)(ag:gG b az x w)(aD:w.length+s.length<=1000000000):∃y,Y (n+3) (.fn 130) [.ptr b 0,.str s] x=.ret (.aL [.int .i64 (Int.ofNat s.length),.fy]) y/\gG b az y (w++s)/\iA b x y:=by
 obtain⟨y,c,bu,k⟩:=XH n b (b+4) x w s ag.B_ aD
 exact⟨y,c,ag.Md bu k,k⟩
theorem iA.own{b d:Nat}{x y:aa}{cs:List J}{e:Nat}(k:iA b x y)(aj:d<x.n)(ag:d≠b)(au:x.get d=some (.cells cs e .own 0 0)):d<y.n/\y.get d=some (.cells cs e .own 0 0):=
 ⟨Nat.lt_of_lt_of_le aj k.x.n,(k.k d aj ag (by rw[au];intro cs lo up h;cases h)).trans au⟩
theorem F6(m:Nat){b:Nat}{az:aa}{v:J}{vs:List J}(sep:bc)(f_ fz:Nat)(je jf:List J)(A W Z:Nat->bc)(items:List bc)(K:aa->Prop)(eg:∀x y,K x->iA b x y->K y)(aJ:da b az v vs)(hlen:vs.length<=90000)(qj:items.length=vs.length)(XL:∀i (hi:i<items.length),items[i]=A i++W i++Z i)
  (kB:∀i x w,i<vs.length->gG b az x w->K x->Y (m+3) (.fn f_) (.int .i64 (Int.ofNat i)::je) x=.ret (.str (A i)) x)
  (XM:∀i x w,i<vs.length->gG b az x w->K x->Y (m+3) (.fn fz) (.int .i64 (Int.ofNat i)::jf) x=.ret (.str (Z i)) x)
  (tM:∀i (hi:i<vs.length) x w,gG b az x w->K x->w.length+(W i).length<=1000000->∃y,Y (m+3) (.fn 132) (vs[i]::pj b) x=.ret (.aL []) y/\gG b az y (w++W i)/\iA b x y)
  {x:aa}{w:bc}(ad:gG b az x w)(BY:K x)(aD:w.length+(e8 sep items).length<=1000000):
  ∃y,Y (m+4) (.fn 129) [v,.str sep,.fn f_ [] je,.fn fz [] jf,.ptr b 0,.ptr (b+1) 0] x=.ret (.aL []) y/\gG b az y (w++e8 sep items)/\iA b x y:=by
 have jR:∀g,Ext b az g->cq Tryz.prog g 49 v=some (.int .i64 (Int.ofNat vs.length)):=λg x=>(aJ.b0 (gE.ext x (Nat.le_refl _))).len (t:=49) (e:=47) (by kernel_rfl)
 refine Xw (m+3) v sep f_ fz b (b+1) je jf x (R:=λr=>∃y,r=.ret (.aL []) y/\gG b az y (w++e8 sep items)/\iA b x y) ⟨vs.length,jR x ad.ext,?_⟩
 refine bz.loop (by kernel_rfl) (λk st=>∃i y Γ,st=⟨Γ,[],.none,y⟩/\cN [(1,.str sep),(2,.fn f_ [] je),(3,.fn fz [] jf),(4,.ptr b 0),(5,.ptr (b+1) 0),(12,v),(13,.int .i64 (Int.ofNat vs.length)),(14,.int .i64 (Int.ofNat i))] Γ/\vs.length-i=k/\i<=vs.length/\gG b az y (w++e8 sep (items.take i))/\iA b x y/\K y) ?_ vs.length _ (by omega) ⟨0,x,_,rfl,⟨rfl,rfl,rfl,rfl,rfl,rfl,rfl,rfl,trivial⟩,by omega,by omega,by simpa[e8] using ad,nw.refl _ _ _ _,BY⟩
 rintro k st ⟨i,y,Γ,rfl,cS,ax,hi,bu,hw,zf⟩
 by_cases ab:i<vs.length
 · have ae:i<items.length:=by omega
   rcases aJ with⟨rfl,rfl⟩|⟨eW,off,aH,rfl,ag,iG,aU,aj⟩
   · simp at ab
   have t1:=yS sep items (i+1)
   have t2:=yR sep items ae
   have Me:=XL i ae
   have item:∀y bR,gG b az y bR->K y->bR.length+(items[i]).length<=1000000->∃a ak,Y (m+3) (.fn f_) (.int .i64 (Int.ofNat i)::je) y=.ret (.str a) ak/\∃bI aQ,Y (m+3) (.fn 130) [.ptr b 0,.str a] ak=.ret (.aL [.int .i64 (Int.ofNat bI),.fy]) aQ/\av aQ (b+1) 0=some (.fn 132 [] (pj b))/\∃a3,Y (m+3) (.fn 132) (vs[i]::pj b) aQ=.ret (.aL []) a3/\∃z bZ,Y (m+3) (.fn fz) (.int .i64 (Int.ofNat i)::jf) a3=.ret (.str z) bZ/\∃cP b2,Y (m+3) (.fn 130) [.ptr b 0,.str z] bZ=.ret (.aL [.int .i64 (Int.ofNat cP),.fy]) b2/\gG b az b2 (bR++items[i])/\iA b y b2:=by
    intro y bR Mf F7 ij
    rw[Me] at ij
    simp only[List.length_append] at ij
    obtain⟨aQ,c3,ds,cP⟩:=Mf.ws m (A i) (by omega)
    obtain⟨a3,c4,ja,dK⟩:=tM i ab aQ _ ds (eg _ _ F7 cP) (by simp;omega)
    have XN:=eg _ _ (eg _ _ F7 cP) dK
    obtain⟨b2,uP,jx,kA⟩:=ja.ws m (Z i) (by simp;omega)
    refine⟨A i,y,kB i y _ ab Mf F7,_,aQ,c3,ar ds.one rfl,a3,c4,Z i,a3,XM i a3 _ ab ja XN,_,b2,uP,?_,(cP.trans dK).trans kA⟩
    rw[Me]
    simpa only[List.append_assoc] using jx
   have Mg:∀b2,gG b az b2 (w++e8 sep (items.take (i+1)))->iA b y b2->(eF (λs=>∃j,j<k/\(λk st=>∃i y Γ,st=⟨Γ,[],.none,y⟩/\cN [(1,.str sep),(2,.fn f_ [] je),(3,.fn fz [] jf),(4,.ptr b 0),(5,.ptr (b+1) 0),(12,.slice eW off vs.length aH),(13,.int .i64 (Int.ofNat vs.length)),(14,.int .i64 (Int.ofNat i))] Γ/\vs.length-i=k/\i<=vs.length/\gG b az y (w++e8 sep (items.take i))/\iA b x y/\K y) j s) (λdv dw=>∃(g:aa) (cx:Env),dv=.exit 0/\dw=⟨cx,[],.none,g⟩/\cN [] cx/\∃y,ao.ret (.aL []) g=.ret (.aL []) y/\gG b az y (w++e8 sep items)/\iA b x y)) .nrm ⟨[(1,.str sep),(2,.fn f_ [] je),(3,.fn fz [] jf),(4,.ptr b 0),(5,.ptr (b+1) 0),(12,.slice eW off vs.length aH),(13,.int .i64 (Int.ofNat vs.length)),(14,.int .i64 (Int.ofNat (i+1)))],[],.none,b2⟩:=λb2 jx kA=>
    ⟨_,(by show vs.length-(i+1)<k;omega),i+1,b2,_,rfl,⟨rfl,rfl,rfl,rfl,rfl,rfl,rfl,rfl,trivial⟩,rfl,by omega,jx,hw.trans kA,eg _ _ zf kA⟩
   refine bz.pre (Xx (Y (m+3)) sep f_ fz b (b+1) eW off _ i 132 aH je jf (pj b) y ⟨λ_=>⟨ab,_,o7 bu.ext ag (iG i ab),λxV=>?_,λxV=>?_⟩,λah=>absurd ab ah⟩) cS rfl rfl rfl
   · rw[if_pos xV] at t2
     rw[t2] at t1
     simp only[List.length_append] at t1
     obtain⟨aq,c1,a8,bx⟩:=bu.ws m sep (by simp;omega)
     obtain⟨a,ak,c2,bI,aQ,c3,c4,a3,sL,z,bZ,uP,cP,b2,ho,jx,bN⟩:=item aq _ a8 (eg _ _ zf bx) (by simp;omega)
     exact⟨_,_,aq,c1,a,ak,c2,bI,_,aQ,c3,c4,a3,sL,z,bZ,uP,cP,_,b2,ho,by omega,Mg b2 (by rw[t2];simpa only[List.append_assoc] using jx) (bx.trans bN)⟩
   · rw[if_neg xV] at t2
     rw[t2] at t1
     have dc:items.take i=[]:=by rw[show i=0 by omega];rfl
     rw[dc] at bu
     obtain⟨a,ak,c2,bI,aQ,c3,c4,a3,sL,z,bZ,uP,cP,b2,ho,jx,bN⟩:=item y _ bu zf (by simp[e8];omega)
     exact⟨a,ak,c2,bI,_,aQ,c3,c4,a3,sL,z,bZ,uP,cP,_,b2,ho,by omega,Mg b2 (by rw[t2];simpa[e8] using jx) bN⟩
 · refine bz.pre (Xy (Y (m+3)) sep f_ fz b (b+1) vs.length i je jf v y ⟨ab,y,_,rfl,rfl,trivial,y,rfl,?_,hw⟩) cS rfl rfl rfl
   rw[List.take_of_length_le (by omega)] at bu
   exact bu
end Go.Proofs.cT
namespace Go.Proofs.cT
open Go aC Go.Proofs dD
set_option maxRecDepth 100000
set_option maxHeartbeats 1000000
theorem XO{k:Nat}(ab:1<=k)(cg:k<=5):l7 Tryz.prog 9 [.str [],.str [97,110,121],.str [105,110,116],.str [98,111,111,108],.str [115,116,114],.str [110,105,108]] (k*1)=some (.str (word k)):=by
 have:k=1\/k=2\/k=3\/k=4\/k=5:=by omega
 rcases this with rfl|rfl|rfl|rfl|rfl<;>rfl
theorem Mh{a b c:bc}:(a++b++c).length=a.length+b.length+c.length:=by simp;omega
theorem Mi:∀(K:Nat) (t:a_),sz t<=K->e9 t=true->sz t<=100->∀(m b:Nat) (az:aa) (v:J),2*sz t+6<=m->dI b az t v->∀(x:aa) (w:bc),gG b az x w->w.length+(wr t).length<=1000000->∃y,Y m (.fn 132) (v::pj b) x=.ret (.aL []) y/\gG b az y (w++wr t)/\iA b x y
 |0,t,eg,_,_,_,_,_,_,_,_,_,_,_,_=>by
  have:=sD t
  omega
 |K+1,.mk k b8 ns xs rt,eg,iL,gz,m,b,az,v,hm,aJ,x,w,ad,aD=>by
  obtain⟨R,bk,a6,cZ,vs,bN,lo,up,rfl,ae,aB,aP,cg,dN,fE⟩:=aJ
  have cp:=BP _ iL
  rw[L5] at iL
  simp only[Bool.and_eq_true,decide_eq_true_eq] at iL
  obtain⟨⟨bx,g5⟩,kW,jq,y8⟩:=iL
  rw[okW] at cp
  simp only[Bool.and_eq_true,Bool.or_eq_true,decide_eq_true_eq] at cp
  obtain⟨⟨⟨⟨⟨_,_⟩,pf⟩,ml⟩,BY⟩,FK⟩:=cp
  rw[uB] at eg gz hm
  rw[sE] at aD
  obtain⟨m,rfl⟩:∃j,m=j+5:=⟨m-5,by omega⟩
  have h9:=dU.len dN
  have mF:=pb xs
  have lO:=wv xs
  have nh:∀i (i2:i<xs.length),e9 xs[i]=true:=λi i2=>BO jq (List.getElem_mem i2)
  have bt:∀(u:a_),sz u<=K->e9 u=true->sz u<=100->∀(m b:Nat) (az:aa) (v:J),2*sz u+6<=m->dI b az u v->∀(x:aa) (w:bc),gG b az x w->w.length+(wr u).length<=1000000->∃y,Y m (.fn 132) (v::pj b) x=.ret (.aL []) y/\gG b az y (w++wr u)/\iA b x y:=Mi K
  rw[sE]
  obtain⟨H,fB⟩:∃H,H=x.push (.cells [.ptr R 0] 47 .own 0 0):=⟨_,rfl⟩
  have g7:Ext x.n x H:=by rw[fB];exact Ext.push (Nat.le_refl _) _
  have k8:H.n=x.n+1:=by rw[fB];rfl
  have qs:H.get x.n=some (.cells [.ptr R 0] 47 .own 0 0):=by rw[fB];exact eB rfl
  obtain⟨sM,zg⟩:=ad.Ca g7
  have Pb:=ad.n
  have pk:∀y s,gG b az y s->y.get R=some (.cells [.int .i64 (Int.ofNat k),.str b8,bk,a6,cZ] 51 bN lo up):=λy s bu=>(bu.ext.get R ae).trans aB
  have sN:∀y,iA b H y->y.get x.n=some (.cells [.ptr R 0] 47 .own 0 0):=λy k=>(k.own (by omega) (by omega) qs).2
  have Cb:∀n y s,gG b az y s->gG b az (y.room n) s/\iA b y (y.room n):=λn y s bu=>bu.Ca (Ext.room _ y n)
  have item:∀i (hi:i<vs.length) y s,gG b az y s->s.length+(wn (cR xs) i).length<=1000000->∃z,Y (m+3) (.fn 132) (vs[i]::pj b) y=.ret (.aL []) z/\gG b az z (s++wn (cR xs) i)/\iA b y z:=λi hi y s bu aD=>by
   have i2:i<xs.length:=by omega
   have bj:=pa (List.getElem_mem i2)
   rw[show wn (cR xs) i=wr xs[i] by simp[wn,lO,i2,wx xs i i2]] at aD⊢
   exact bt xs[i] (by omega) (nh i i2) (by omega) (m+3) b az vs[i] (by omega) (dU.get dN i hi i2) y s bu aD
  refine XB (m+4) b (b+2) (b+3) (b+1) R k b8 a6 cZ x (R:=λr=>∃y,r=.ret (.aL []) y/\gG b az y (w++dD.shape k b8 ns (xs.map a_.k) (cR xs) (lA rt))/\iA b x y) ?_
  rw[<-fB]
  refine⟨ar qs rfl,ar (pk H _ sM) rfl,λdL=>?_,λdL=>⟨λdz=>?_,λdz=>⟨λdX=>?_,λdX=>⟨λfb=>?_,λfb=>?_⟩⟩⟩⟩
  · subst dL
    have:(b8:bc).length<=161:=by
     have:mi b8=true:=by simpa[gR] using y8
     unfold mi at this
     simp only[Bool.and_eq_true,decide_eq_true_eq] at this
     exact this.1.2
    obtain⟨y,c,F8,k⟩:=sM.ws (m+1) b8 (by omega)
    exact⟨ar qs rfl,ar (pk H _ sM) rfl,_,_,y,c,y,rfl,F8,zg.trans k⟩
  · subst dz
    have wG:xs.length=ns.length:=by rcases pf with pf|pf;exact absurd rfl pf;exact pf
    have hs:dD.shape 7 b8 ns (xs.map a_.k) (cR xs) (lA rt)=[123]++e8 [44,32] (hJ ns (cR xs))++[125]:=rfl
    rw[hs] at aD⊢
    rw[Mh] at aD
    simp only[List.length_cons,List.length_nil] at aD
    have qj:(hJ ns (cR xs)).length=vs.length:=by unfold hJ;rw[List.length_zipWith];omega
    obtain⟨aq,c1,a8,bx⟩:=sM.ws (m+1) [123] (by simp;omega)
    obtain⟨eL,wS⟩:=Cb 8 aq _ a8
    have uQ:=bx.trans wS
    obtain⟨ak,c2,aW,bI⟩:=F6 m (v:=a6) (vs:=vs) [44,32] 133 131 [.ptr x.n 0] [] (λi=>wn ns i++[58,32]) (wn (cR xs)) (λ_=>[]) (hJ ns (cR xs)) (λy=>iA b H y) (λ_ _ k k'=>k.trans k') cg (by omega) qj (λi hi=>by
      have i1:i<ns.length:=by omega
      have i2:i<(cR xs).length:=by omega
      rw[FI hi i1 i2];simp[wn,i1,i2]) (λi y s hi bu ax=>by
      have i1:i<ns.length:=by omega
      rcases aP.strs with⟨_,rfl⟩|⟨XP,off,aH,rfl,ag,iG⟩
      · simp at i1
      refine Xz (m+2) i x.n y (R:=λr=>r=_) ⟨R,ar (sN y ax) rfl,XP,off,_,aH,ar (pk y s bu) rfl,i1,ns[i],o7 bu.ext ag (iG i i1),?_,?_⟩
      · have t2:=uC [44,32] (hJ ns (cR xs)) (i:=i) (by omega)
        rw[FI (by omega) i1 (by omega)] at t2
        simp at t2⊢;omega
      · simp[wn,i1])
     (λi y s hi bu ax=>F5 (m+2) i y (R:=λr=>r=_) rfl) (λi hi y s bu ax aD=>item i hi y s bu aD) eL uQ (by simp;omega)
    obtain⟨aQ,c3,ds,cP⟩:=aW.ws (m+1) [125] (by simp;omega)
    refine⟨_,_,aq,c1,ar eL.wR rfl,ar (sN _ uQ) rfl,ar (pk _ _ eL) rfl,ar eL.o1 rfl,ak,c2,cg.snd,_,_,aQ,c3,aQ,rfl,by simpa only[List.append_assoc] using ds,zg.trans (uQ.trans (bI.trans cP))⟩
  · subst dX
    have hs:dD.shape 8 b8 ns (xs.map a_.k) (cR xs) (lA rt)=[102,110,40]++e8 [44,32] (cR xs)++[41,32,45,62,32]++lA rt:=rfl
    rw[hs] at aD⊢
    rw[List.length_append,Mh] at aD
    simp only[List.length_cons,List.length_nil] at aD
    obtain⟨aq,c1,a8,bx⟩:=sM.ws (m+1) [102,110,40] (by simp;omega)
    obtain⟨eL,wS⟩:=Cb 8 aq _ a8
    have uQ:=bx.trans wS
    obtain⟨ak,c2,aW,bI⟩:=F6 m (v:=a6) (vs:=vs) [44,32] 131 131 [] [] (λ_=>[]) (wn (cR xs)) (λ_=>[]) (cR xs) (λy=>iA b H y) (λ_ _ k k'=>k.trans k') cg (by omega) (by omega) (λi hi=>by simp[wn,hi]) (λi y s hi bu ax=>F5 (m+2) i y (R:=λr=>r=_) rfl)
     (λi y s hi bu ax=>F5 (m+2) i y (R:=λr=>r=_) rfl) (λi hi y s bu ax aD=>item i hi y s bu aD) eL uQ (by simp;omega)
    obtain⟨aQ,c3,ds,cP⟩:=aW.ws (m+1) [41,32,45,62,32] (by simp;omega)
    obtain⟨F9,XQ⟩:=Cb 6 aQ _ ds
    have Mj:=uQ.trans (bI.trans (cP.trans XQ))
    cases rt with
    |none=>rcases ml with ml|ml<;>simp at ml
    |some u=>
     rw[lW] at eg gz hm
     have B0:lA (some u)=wr u:=by rw[lA]
     rw[B0] at aD⊢
     have XR:e9 u=true:=by simpa[gR,jZ] using y8
     obtain⟨a3,c4,ja,dK⟩:=bt u (by omega) XR (by omega) (m+4) b az cZ (by omega) fE (aQ.room 6) _ F9 (by simp;omega)
     exact⟨_,_,aq,c1,ar eL.wR rfl,ar (sN _ uQ) rfl,ar (pk _ _ eL) rfl,ar eL.o1 rfl,ar eL.o1 rfl,ak,c2,cg.snd,_,_,aQ,c3,ar F9.one rfl,ar (sN _ Mj) rfl,ar (pk _ _ F9) rfl,a3,c4,dE.snd (ot:=some u) fE,a3,rfl,by simpa only[List.append_assoc] using ja,zg.trans (Mj.trans dK)⟩
  · subst fb
    have hs:dD.shape 9 b8 ns (xs.map a_.k) (cR xs) (lA rt)=e8 [32,124,32] (ih (xs.map a_.k) (cR xs)):=rfl
    rw[hs] at aD⊢
    have qj:(ih (xs.map a_.k) (cR xs)).length=vs.length:=by unfold ih;rw[List.length_zipWith,List.length_map];omega
    obtain⟨eL,wS⟩:=Cb 10 H _ sM
    obtain⟨aq,cl⟩:∃g,g=(H.room 10).push (.cells [.str [40]] 9 .own 0 0):=⟨_,rfl⟩
    obtain⟨ak,k7⟩:∃g,g=aq.push (.cells [.str [41]] 9 .own 0 0):=⟨_,rfl⟩
    have a1:aq.n=(H.room 10).n+1:=by rw[cl];rfl
    have bL:ak.n=aq.n+1:=by rw[k7];rfl
    have bw:Ext (H.room 10).n (H.room 10) aq:=by rw[cl];exact Ext.push (Nat.le_refl _) _
    have bM:Ext aq.n aq ak:=by rw[k7];exact Ext.push (Nat.le_refl _) _
    obtain⟨a8,bx⟩:=eL.Ca bw
    obtain⟨aW,bI⟩:=a8.Ca bM
    have aY:ak.get (H.room 10).n=some (.cells [.str [40]] 9 .own 0 0):=(bM.get _ (by omega)).trans (by rw[cl];exact eB rfl)
    have aR:ak.get aq.n=some (.cells [.str [41]] 9 .own 0 0):=by rw[k7];exact eB rfl
    have acG:=eL.n
    have Mk:=wS.trans bx
    have F_:=Mk.trans bI
    have y3:∀i (hi:i<vs.length),∃M,vs[i]=.ptr M 0/\∀y,Ext b az y->av y M (0+0)=some (.int .i64 (Int.ofNat ((xs.map a_.k)[i]?.getD 0))):=λi hi=>by
     have i2:i<xs.length:=by omega
     obtain⟨M,g6,re⟩:=(dU.get dN i hi i2).kind
     exact⟨M,g6,λy e=>by rw[re y e];simp[i2]⟩
    have oi:∀(q:Nat) (mk:bc),(∀y,iA b ak y->y.get q=some (.cells [.str mk] 9 .own 0 0))->∀i y s,i<vs.length->gG b az y s->iA b ak y->Y (m+3) (.fn 135) [.int .i64 (Int.ofNat i),.ptr x.n 0,.ptr q 0] y=.ret (.str (if(xs.map a_.k)[i]?.getD 0=8 then mk else[])) y:=λq mk aS i y s hi bu ax=>by
     obtain⟨M,g6,re⟩:=y3 i hi
     rcases cg with⟨_,rfl⟩|⟨eW,off,aH,rfl,ag,iG,_⟩
     · simp at hi
     have aF:=iG i hi
     rw[g6] at aF
     refine XA (m+2) i x.n q y (R:=λr=>r=_) ⟨R,ar (sN y (F_.trans ax)) rfl,eW,off,_,aH,ar (pk y s bu) rfl,hi,M,o7 bu.ext ag aF,_,re y bu.ext,λe=>⟨mk,ar (aS y ax) rfl,by rw[if_pos e]⟩,λe=>by rw[if_neg e]⟩
    obtain⟨aQ,c3,ds,cP⟩:=F6 m (v:=a6) (vs:=vs) [32,124,32] 135 135 [.ptr x.n 0,.ptr (H.room 10).n 0] [.ptr x.n 0,.ptr aq.n 0] (λi=>if(xs.map a_.k)[i]?.getD 0=8 then[40] else[]) (wn (cR xs)) (λi=>if(xs.map a_.k)[i]?.getD 0=8 then[41] else[]) (ih (xs.map a_.k) (cR xs)) (λy=>iA b ak y) (λ_ _ k k'=>k.trans k') cg (by omega) qj (λi hi=>by
      have i1:i<(xs.map a_.k).length:=by rw[List.length_map];omega
      have i2:i<(cR xs).length:=by omega
      rw[Lt hi i1 i2,show(xs.map a_.k)[i]?.getD 0=(xs.map a_.k)[i] by rw[List.getElem?_eq_getElem i1];rfl,show wn (cR xs) i=(cR xs)[i] by simp[wn,i2]]
      split<;>simp)
     (oi _ [40] (λy k=>(k.own (by omega) (by omega) aY).2)) (oi _ [41] (λy k=>(k.own (by omega) (by omega) aR).2)) (λi hi y s bu ax aD=>item i hi y s bu aD) aW (nw.refl _ _ _ _) (by omega)
    refine⟨ar eL.wR rfl,ar (sN _ wS) rfl,ar (pk _ _ eL) rfl,_,aq,L_ (m+3) [40] x.n (H.room 10) (R:=λr=>r=_) (by rw[<-cl]),_,ak,L_ (m+3) [41] x.n aq (R:=λr=>r=_) (by rw[<-k7]),aQ,c3,ar aW.wR rfl,ar a8.wR rfl,ar (sN _ F_) rfl,ar (sN _ Mk) rfl,cg.snd,ar (pk _ _ aW) rfl,ar (pk _ _ a8) rfl,aQ,rfl,ds,zg.trans (F_.trans cP)⟩
  · have hs:dD.shape k b8 ns (xs.map a_.k) (cR xs) (lA rt)=word k:=by
      unfold dD.shape
      rw[if_neg dL,if_neg dz,if_neg dX,if_neg fb]
    rw[hs] at aD⊢
    obtain⟨y,c,F8,zf⟩:=sM.ws (m+1) (word k) (by omega)
    exact⟨ar qs rfl,ar (pk H _ sM) rfl,word k,⟨by omega,XO bx (by omega)⟩,_,_,y,c,y,rfl,F8,zg.trans zf⟩
theorem XS:L6:=λu iL gz m B h v hm b4 aJ=>by
 obtain⟨m,rfl⟩:∃j,m=j+2:=⟨m-2,by omega⟩
 have lO:=BQ u iL
 obtain⟨R,rfl⟩:∃R,v=.ptr R 0:=by
  cases u with
  |mk bx bI cP dK iw=>obtain⟨R,_,_,_,_,_,_,_,rfl,_⟩:=aJ;exact⟨R,rfl⟩
 refine XC (m+1) R h ?_
 obtain⟨cO,lE⟩:∃p,p=h.push (.cells [.bb,.aA] 166 .own 0 0):=⟨_,rfl⟩
 obtain⟨eo,kL⟩:∃p,p=cO.push (.cells [.gj] 127 .own 0 0):=⟨_,rfl⟩
 obtain⟨oO,wT⟩:∃p,p=eo.push (.cells [.gj] 172 .own 0 0):=⟨_,rfl⟩
 rw[<-lE,<-kL,<-wT]
 have a1:cO.n=h.n+1:=by rw[lE];rfl
 have bL:eo.n=h.n+2:=by rw[kL];show cO.n+1=_;omega
 have cm:oO.n=h.n+3:=by rw[wT];show eo.n+1=_;omega
 rw[a1,bL]
 obtain⟨pM,Cc⟩:∃p,p=oO.set (h.n+2) (some (.cells [.fn 129 [] [.ptr h.n 0,.ptr (h.n+1) 0]] 172 .own 0 0)):=⟨_,rfl⟩
 have cn:pM.n=h.n+3:=by rw[Cc];exact cm
 have st1:aC.storeCells oO (h.n+2) 0 [.fn 129 [] [.ptr h.n 0,.ptr (h.n+1) 0]]=some pM:=by
  rw[Cc];exact dP (cs:=[.gj]) (by rw[wT];exact eB bL.symm) rfl rfl
 obtain⟨Ga,zh⟩:∃p,p=pM.push (.cells [.gj] 167 .own 0 0):=⟨_,rfl⟩
 obtain⟨wU,zi⟩:∃p,p=Ga.set (h.n+3) (some (.cells [.fn 131 [] []] 167 .own 0 0)):=⟨_,rfl⟩
 have cV:wU.n=h.n+4:=by rw[zi];show Ga.n=_;rw[zh];show pM.n+1=_;omega
 have dB:aC.storeCells Ga (h.n+3) 0 [.fn 131 [] []]=some wU:=by
  rw[zi];exact dP (cs:=[.gj]) (by rw[zh];exact eB cn.symm) rfl rfl
 have bZ:∀d,d≠h.n+2->d<h.n+3->wU.get d=oO.get d:=λd ab ae=>by
  rw[zi,aa.bV,if_neg (by omega),zh,aa.e6,if_neg (by omega),Cc,aa.bV,if_neg ab]
 have aR:oO.get (h.n+1)=some (.cells [.gj] 127 .own 0 0):=by
  rw[wT,aa.e6,if_neg (by omega),kL];exact eB a1.symm
 have aY:oO.get h.n=some (.cells [.bb,.aA] 166 .own 0 0):=by
  rw[wT,aa.e6,if_neg (by omega),kL,aa.e6,if_neg (by omega),lE];exact eB rfl
 obtain⟨wV,sO⟩:∃p,p=wU.set (h.n+1) (some (.cells [.fn 132 [] (pj h.n)] 127 .own 0 0)):=⟨_,rfl⟩
 have qt:aC.storeCells wU (h.n+1) 0 [.fn 132 [] (pj h.n)]=some wV:=by
  rw[sO];exact dP (cs:=[.gj]) ((bZ _ (by omega) (by omega)).trans aR) rfl rfl
 have ej:wV.n=h.n+4:=by rw[sO];exact cV
 have dz:Ext h.n h wV:=⟨by omega,λd aj=>by
  rw[sO,aa.bV,if_neg (by omega),bZ d (by omega) (by omega),wT,aa.e6,if_neg (by omega),kL,aa.e6,if_neg (by omega),lE,aa.e6,if_neg (by omega)]⟩
 have box:gG h.n h wV []:=by
  refine⟨⟨.bb,.aA,?_,.inl rfl,.inl ⟨rfl,rfl⟩,by omega,by omega,λ_=>rfl⟩,?_,?_,?_,dz⟩
  · rw[sO,aa.bV,if_neg (by omega),bZ _ (by omega) (by omega)];exact aY
  · rw[sO];exact dF rfl
  · rw[sO,aa.bV,if_neg (by omega),zi,aa.bV,if_neg (by omega),zh,aa.e6,if_neg (by omega),Cc];exact dF rfl
  · rw[sO,aa.bV,if_neg (by omega),zi];exact dF rfl
 obtain⟨y,c1,a8,bx⟩:=Mi (sz u) u (Nat.le_refl _) iL gz (m+1) h.n h (.ptr R 0) (by omega) (dI.le b4 _ _ aJ) wV [] box (by simp;omega)
 rw[List.nil_append] at a8
 obtain⟨z,c2,bM⟩:=XK m h.n (h.n+4) y (wr u) a8.B_ (by omega)
 refine⟨pM,st1,wU,?_,wV,?_,pj h.n,?_,y,c1,wr u,z,c2,cc.mk ⟨?_,λd aj=>?_⟩⟩
 · rw[cn,<-zh];exact dB
 · rw[cn];exact qt
 · rw[sO];exact ar (dF rfl) rfl
 · have:=bx.x.n;have:=bM.n;omega
 · rw[bM.get d (by omega),bx.x.get d (by omega) (by omega),dz.get d (by omega)]
theorem XT{ot:Option a_}{B:Nat}{h:aa}{v:J}(m:Nat)(gz:dy ot<=90000)(aM:∀t,ot=some t->iH t<=90000)(hm:4*dy ot+20<=m)(b4:B<=h.n)(aJ:dE B h ot v):
  cc B h (.int .i64 (Int.ofNat (l0 ot))) (Y (m+1) (.fn 76) [v] h):=by
 cases ot with
 |none=>
  obtain rfl:v=.bb:=aJ
  exact W4 m h (cc.mk (Ext.refl _ _))
 |some t=>
  have bX:dy (some t)=sz t:=lW t
  obtain⟨R,rfl⟩:∃R,v=.ptr R 0:=by
   cases t with
   |mk bx bI cP dK iw=>obtain⟨R,_,_,_,_,_,_,_,rfl,_⟩:=aJ;exact⟨R,rfl⟩
  obtain⟨m,rfl⟩:∃j,m=j+1:=⟨m-1,by omega⟩
  obtain⟨aq,c1,bw⟩:=TO (m-1) gz b4 aJ (by omega)
  replace bw:=bw.le b4
  rw[show m-1+2=m+1 by omega] at c1
  rw[bX] at c1 gz hm
  refine W3 (m+1) R h ⟨_,aq,c1,λfQ=>?_,λfQ=>?_⟩
  · exact cc.of (by rw[l0,if_pos (by omega)]) bw
  · obtain⟨ak,c2,bM⟩:=L7 XS (sz t) t (Nat.le_refl _) (by omega) (aM t rfl) (m+1) B aq (.ptr R 0) (by omega) (Nat.le_trans b4 bw.n) (dI.b0 (gE.ext bw (Nat.le_refl _)) _ _ aJ)
    have Ml:=bw.trans (Nat.le_refl _) bM
    refine⟨_,ak,c2,λag=>?_,λag=>?_⟩
    · have:e9 t=true:=by simpa using ag
      exact cc.of (by rw[l0,if_neg (by omega),if_pos this]) Ml
    · have:e9 t=false:=by simpa using ag
      exact cc.of (by rw[l0,if_neg (by omega),if_neg (by rw[this];simp)]) Ml
end Go.Proofs.cT
