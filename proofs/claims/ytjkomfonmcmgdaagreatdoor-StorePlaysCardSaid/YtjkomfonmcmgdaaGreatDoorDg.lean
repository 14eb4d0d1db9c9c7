/-
  PROVED HERE: contracts of functions (Dg). No condition beside each statement's own.
-/
import Derived.Test.YtjkomfonmcmgdaaGreatDoorDf
import Derived.Test.YtjkomfonmcmgdaaGreatDoorTx
set_option linter.unusedVariables false
set_option linter.unusedSimpArgs false
set_option maxRecDepth 100000
set_option maxHeartbeats 1000000
namespace Go.Proofs.kh
open Go bg Go.Proofs ir
variable {Q:bW->bL->Prop} {R:bE->Prop} (call:aW)
theorem acO(m r:Nat)(h:ab)(H:∃aB,aq h r 0=some (J aB)/\∃s1,aq h r 1=some (.str s1)/\(c1 s1 []=true->∃v1,aq h r 2=some v1/\∃aY,bV an h 63 v1=some (J aY)/\(aY=0->∃v2,aq h r 3=some v2/\∃bd,bV an h 50 v2=some (J bd)/\(bd=0->∃bj,aq h r 4=some (af bj)/\R (.ret (.bool (fp true (bQ aB 8))) h))/\(¬bd=0->(7<=aB->∃bC,aq h r 4=some (af bC)/\R (.ret (.bool (fp true (bQ aB 8))) h))/\(¬7<=aB->R (.ret (.bool false) h))))/\(¬aY=0->(aB=7->∃b8,aq h r 3=some b8/\∃bP,bV an h 50 b8=some (J bP)/\(bP=0->∃cd,aq h r 4=some (af cd)/\R (.ret (.bool (fp true (bQ aB 8))) h))/\(¬bP=0->(7<=aB->∃cR,aq h r 4=some (af cR)/\R (.ret (.bool (fp true (bQ aB 8))) h))/\(¬7<=aB->R (.ret (.bool false) h))))/\(¬aB=7->R (.ret (.bool false) h))))/\(c1 s1 []=false->(aB=6->∃v4,aq h r 2=some v4/\∃dD,bV an h 63 v4=some (J dD)/\(dD=0->∃eC,aq h r 3=some eC/\∃dX,bV an h 50 eC=some (J dX)/\(dX=0->∃eE,aq h r 4=some (af eE)/\R (.ret (.bool (fp true (bQ aB 8))) h))/\(¬dX=0->(7<=aB->∃e9,aq h r 4=some (af e9)/\R (.ret (.bool (fp true (bQ aB 8))) h))/\(¬7<=aB->R (.ret (.bool false) h))))/\(¬dD=0->(aB=7->∃v6,aq h r 3=some v6/\∃fw,bV an h 50 v6=some (J fw)/\(fw=0->∃jo,aq h r 4=some (af jo)/\R (.ret (.bool (fp true (bQ aB 8))) h))/\(¬fw=0->(7<=aB->∃kV,aq h r 4=some (af kV)/\R (.ret (.bool (fp true (bQ aB 8))) h))/\(¬7<=aB->R (.ret (.bool false) h))))/\(¬aB=7->R (.ret (.bool false) h))))/\(¬aB=6->R (.ret (.bool false) h)))):
  R (Y (m+1) (.fn 61) [af r] h):=
 dB [] [] Tryz.func61 H
theorem acP(m r:Nat)(h:ab)(H:∃aB,aq h r 0=some (J aB)/\∃s1,aq h r 1=some (.str s1)/\(c1 s1 []=true->∃v1,aq h r 2=some v1/\∃aY,bV an h 63 v1=some (J aY)/\(aY=0->∃v2,aq h r 3=some v2/\∃bd,bV an h 50 v2=some (J bd)/\(bd=0->aq h r 4=some .aX/\R (.ret (.bool (fp false (bQ aB 8))) h))/\(¬bd=0->(7<=aB->aq h r 4=some .aX/\R (.ret (.bool (fp false (bQ aB 8))) h))/\(¬7<=aB->R (.ret (.bool false) h))))/\(¬aY=0->(aB=7->∃b8,aq h r 3=some b8/\∃bj,bV an h 50 b8=some (J bj)/\(bj=0->aq h r 4=some .aX/\R (.ret (.bool (fp false (bQ aB 8))) h))/\(¬bj=0->(7<=aB->aq h r 4=some .aX/\R (.ret (.bool (fp false (bQ aB 8))) h))/\(¬7<=aB->R (.ret (.bool false) h))))/\(¬aB=7->R (.ret (.bool false) h))))/\(c1 s1 []=false->(aB=6->∃v4,aq h r 2=some v4/\∃bC,bV an h 63 v4=some (J bC)/\(bC=0->∃eC,aq h r 3=some eC/\∃bP,bV an h 50 eC=some (J bP)/\(bP=0->aq h r 4=some .aX/\R (.ret (.bool (fp false (bQ aB 8))) h))/\(¬bP=0->(7<=aB->aq h r 4=some .aX/\R (.ret (.bool (fp false (bQ aB 8))) h))/\(¬7<=aB->R (.ret (.bool false) h))))/\(¬bC=0->(aB=7->∃v6,aq h r 3=some v6/\∃cd,bV an h 50 v6=some (J cd)/\(cd=0->aq h r 4=some .aX/\R (.ret (.bool (fp false (bQ aB 8))) h))/\(¬cd=0->(7<=aB->aq h r 4=some .aX/\R (.ret (.bool (fp false (bQ aB 8))) h))/\(¬7<=aB->R (.ret (.bool false) h))))/\(¬aB=7->R (.ret (.bool false) h))))/\(¬aB=6->R (.ret (.bool false) h)))):
  R (Y (m+1) (.fn 61) [af r] h):=
 dB [(45,.a1 (.is .aX))] [] Tryz.func61 H
theorem acQ(m r:Nat)(h:ab)(H:∃aB,aq h r 0=some (J aB)/\(aB<1->R (.ret (.bool false) h))/\(¬aB<1->∃aY,aq h r 0=some (J aY)/\(9<aY->R (.ret (.bool false) h))/\(¬9<aY->∃bn ak,Y m (.fn 61) [af r] h=.ret (.bool bn) ak/\(bn=true->∃v1,aq ak r 3=some v1/\∃bo av,Y m (.fn 63) [v1,.fn 62 [] []] ak=.ret (.bool bo) av/\(bo=true->R (.ret (.bool false) av))/\(bo=false->∃bd,aq av r 0=some (J bd)/\(bd=6->∃s1,aq av r 1=some (.str s1)/\∃c9 aD,Y m (.fn 64) [.str s1,.str [45,47,46],J 161] av=.ret (.bool c9) aD/\R (.ret (.bool c9) aD))/\(¬bd=6->(bd=7->∃v2,aq (av.room 27) r 2=some v2/\∃bj,bV an (av.room 27) 63 v2=some (J bj)/\∃b8,aq (av.room 27) r 3=some b8/\∃bC,bV an (av.room 27) 50 b8=some (J bC)/\(bj=bC->∃v4,aq (av.room 27) r 2=some v4/\∃fS a4,Y m (.fn 65) [v4,.fn 66 [] []] (av.room 27)=.ret (.bool fS) a4/\(fS=true->cr v2/\cr b8/\cr v4/\R (.ret (.bool false) a4))/\(fS=false->∃eC,aq a4 r 2=some eC/\∃l0 bk,Y m (.fn 68) [eC,.fn 69 [] []] a4=.ret (.bool l0) bk/\cr v2/\cr b8/\cr v4/\cr eC/\R (.ret (.bool l0) bk)))/\(¬bj=bC->cr v2/\cr b8/\R (.ret (.bool false) (av.room 27))))/\(¬bd=7->(bd=8->∃v6,aq av r 4=some v6/\∃kf cQ,Y m (.fn 43) [v6] av=.ret (.bool kf) cQ/\R (.ret (.bool kf) cQ))/\(¬bd=8->(bd=9->∃v7,aq av r 3=some v7/\∃bP,bV an av 50 v7=some (J bP)/\(2<=bP->∃hZ,aq av r 3=some hZ/\∃p5 dO,Y m (.fn 63) [hZ,.fn 70 [] []] av=.ret (.bool p5) dO/\(p5=true->R (.ret (.bool false) dO))/\(p5=false->∃qV,aq dO r 3=some qV/\∃nC dW,Y m (.fn 71) [qV,.fn 72 [] []] dO=.ret (.bool nC) dW/\R (.ret (.bool nC) dW)))/\(¬2<=bP->R (.ret (.bool false) av)))/\(¬bd=9->R (.ret (.bool true) av)))))))/\(bn=false->R (.ret (.bool false) ak))))):
  R (Y (m+1) (.fn 43) [af r] h):=
 dB [(76,.a1 .o)] [] Tryz.func43 H
def nD:bb:=[48,49,50,51,52,53,54,55,56,57]
theorem acR:((List.range 256).all λn=>j5 (Int.ofNat 0) (ql n nD 0)==kC n)=true:=by decide
theorem acS(c:UInt8):j5 (Int.ofNat 0) (ql c.toNat nD 0)=kC c.toNat:=by
 have:=List.all_eq_true.1 acR c.toNat (by rw[List.mem_range];exact UInt8.toNat_lt c)
 simpa using this
theorem acT(n:Nat)(s:bb)(c:Nat)(h:ab)(ah:c<256):Y (n+1) (.fn 127) [.str s,b4 c] h=.ret (.int .i64 (ql c s 0)) h:=by
 have ag:Nat.blt c 256=true:=by simpa[Nat.blt_eq] using ah
 have hi:ea 127 [.str s,b4 c] h=none:=by kernel_rfl
 have s3:Tryz.f127.body=none:=by rfl
 have aa:tP an Tryz.f127 Tryz.f127.name [.str s,b4 c] h=some (.int .i64 (ql c s 0),h):=by
  have aH:Tryz.f127.name= "internal/bytealg.IndexByteString" :=by rfl
  simp only[tP,aH,if_true,ag]
 simp only[Y,fF,hi,su,Tryz.func127,s3,aa]
theorem acU(m:Nat)(c:UInt8)(h:ab):Y (m+5) (.fn 85) [.str nD,.str [c]] h=.ret (.bool (kC c.toNat)) h:=by
 rw[<-acS]
 have aM:Y (m+2) (.fn 121) [.str nD,b4 c.toNat] h=.ret (.int .i64 (ql c.toNat nD 0)) h:=
  abU (m+1) nD c.toNat h (R:=λx=>x=_) ⟨_,h,acT m nD c.toNat h (UInt8.toNat_lt _),rfl⟩
 have bf:Y (m+3) (.fn 117) [.str nD,.str [c]] h=.ret (.int .i64 (ql c.toNat nD 0)) h:=
  abT (m+2) nD c h (R:=λx=>x=_) ⟨by simp[nP,nD],by rfl,_,h,aM,rfl⟩
 have ee:Y (m+4) (.fn 111) [.str nD,.str [c]] h=.ret (.int .i64 (ql c.toNat nD 0)) h:=
  abS (m+3) nD [c] h (R:=λx=>x=_) ⟨_,h,bf,rfl⟩
 exact abR (m+4) nD [c] h (R:=λx=>x=_) ⟨_,h,ee,rfl⟩
theorem acV(n:Nat):(iF n&&kC n)=false:=by
 unfold iF kC
 simp only[Bool.and_eq_false_iff,Bool.or_eq_false_iff,decide_eq_false_iff_not]
 omega
theorem acW(m B:Nat)(s:bb)(h:ab)(dd:B<=h.n):dq B h (.bool (jl s)) (Y (m+6) (.fn 67) [.str s] h):=by
 obtain⟨g,aM,bF⟩:=Qs (m+1) B r3 s [] 24 h dd (by omega) (.inl ⟨rfl,rfl⟩)
 refine abK (m+5) s h ⟨_,g,aM,λag=>?_,λag=>?_⟩
 · simp only[Bool.and_eq_true,decide_eq_true_eq] at ag
   obtain⟨⟨I,ae⟩,ax⟩:=ag
   cases s with
   |nil=>simp at I
   |cons c s=>
    refine⟨[c],Ov Jn (by simp),_,g,acU m c g,dq.of (jz ?_) bF⟩
    have ah:r3 c.toNat=true:=by
     have:=List.all_eq_true.1 ax c (by simp)
     simpa using this
    have ai:=acV c.toNat
    unfold jl
    have bH:(c::s).all (λc=>iF c.toNat||kC c.toNat)=true:=ax
    rw[bH]
    have hw:(iF c.toNat||kC c.toNat)=true:=ah
    simp only[IM,I,ae,decide_true,Bool.true_and,Bool.and_true]
    revert ai hw
    cases iF c.toNat<;>cases kC c.toNat<;>simp
 · refine dq.of (jz ?_) bF
   unfold jl
   have bH:s.all (λc=>iF c.toNat||kC c.toNat)=s.all (λc=>r3 c.toNat):=rfl
   rw[bH]
   revert ag
   cases decide (1<=s.length)<;>cases decide (s.length<=24)<;>cases s.all (λc=>r3 c.toNat)<;>simp
def r6(k:Nat)(s:bb)(N M:Nat)(o:Bool):Bool:=((c1 s []||decide (k=6))&&((decide (N=0)||decide (k=7))&&(decide (M=0)||decide (7<=k))))&&(o==decide (k=8))
theorem acX(m:Nat){R:Nat}{h:ab}{k:Nat}{s:bb}{bA aU cY:ad}{bq:hb}{lo up N M:Nat}{o:Bool}(ar:h.get R=some (.cells [J k,.str s,bA,aU,cY] 80 bq lo up))(aH:bV an h 63 bA=some (J N))(aI:bV an h 50 aU=some (J M))(bc:(cY=.aX/\o=false)\/(∃q,cY=.ptr q 0)/\o=true):
  Y (m+1) (.fn 61) [.ptr R 0] h=.ret (.bool (r6 k s N M o)) h:=by
 have ic:=w_ k 8
 have fin:∀(b hP:Bool),b=hP->(bE.ret (.bool b) h=.ret (.bool hP) h):=λb hP e=>by rw[e]
 rcases bc with⟨rfl,rfl⟩|⟨⟨q,rfl⟩,rfl⟩
 · refine acP m R h (R:=λx=>x=.ret (.bool (r6 k s N M false)) h) ⟨k,aF ar rfl,s,aF ar rfl,λI=>⟨bA,aF ar rfl,N,aH,λae=>⟨aU,aF ar rfl,M,aI,λax=>⟨aF ar rfl,fin _ _ ?_⟩,λax=>⟨λaN=>⟨aF ar rfl,fin _ _ ?_⟩,λaN=>fin _ _ ?_⟩⟩,λae=>⟨λax=>⟨aU,aF ar rfl,M,aI,λaN=>⟨aF ar rfl,fin _ _ ?_⟩,λaN=>⟨λbS=>⟨aF ar rfl,fin _ _ ?_⟩,λbS=>fin _ _ ?_⟩⟩,λax=>fin _ _ ?_⟩⟩,λI=>⟨λh0=>⟨bA,aF ar rfl,N,aH,λae=>⟨aU,aF ar rfl,M,aI,λax=>⟨aF ar rfl,fin _ _ ?_⟩,λax=>⟨λaN=>⟨aF ar rfl,fin _ _ ?_⟩,λaN=>fin _ _ ?_⟩⟩,λae=>⟨λax=>⟨aU,aF ar rfl,M,aI,λaN=>⟨aF ar rfl,fin _ _ ?_⟩,λaN=>⟨λbS=>⟨aF ar rfl,fin _ _ ?_⟩,λbS=>fin _ _ ?_⟩⟩,λax=>fin _ _ ?_⟩⟩,λh0=>fin _ _ ?_⟩⟩<;>
    (unfold r6;(try simp only[fp,ic]);simp_all<;>omega)
 · refine acO m R h (R:=λx=>x=.ret (.bool (r6 k s N M true)) h) ⟨k,aF ar rfl,s,aF ar rfl,λI=>⟨bA,aF ar rfl,N,aH,λae=>⟨aU,aF ar rfl,M,aI,λax=>⟨q,aF ar rfl,fin _ _ ?_⟩,λax=>⟨λaN=>⟨q,aF ar rfl,fin _ _ ?_⟩,λaN=>fin _ _ ?_⟩⟩,λae=>⟨λax=>⟨aU,aF ar rfl,M,aI,λaN=>⟨q,aF ar rfl,fin _ _ ?_⟩,λaN=>⟨λbS=>⟨q,aF ar rfl,fin _ _ ?_⟩,λbS=>fin _ _ ?_⟩⟩,λax=>fin _ _ ?_⟩⟩,λI=>⟨λh0=>⟨bA,aF ar rfl,N,aH,λae=>⟨aU,aF ar rfl,M,aI,λax=>⟨q,aF ar rfl,fin _ _ ?_⟩,λax=>⟨λaN=>⟨q,aF ar rfl,fin _ _ ?_⟩,λaN=>fin _ _ ?_⟩⟩,λae=>⟨λax=>⟨aU,aF ar rfl,M,aI,λaN=>⟨q,aF ar rfl,fin _ _ ?_⟩,λaN=>⟨λbS=>⟨q,aF ar rfl,fin _ _ ?_⟩,λbS=>fin _ _ ?_⟩⟩,λax=>fin _ _ ?_⟩⟩,λh0=>fin _ _ ?_⟩⟩<;>
    (unfold r6;(try simp only[fp,ic]);simp_all<;>omega)
def wn(l:List bb)(i:Nat):bb:=(l[i]?).getD []
def tl(p:Option bb):List bb->Bool
 |[]=>true
 |x::l=>oi p x&&tl (some x) l
theorem Jt:∀(p:Option bb) (l:List bb),lg p l=(l.all jl&&tl p l)
 |p,[]=>rfl
 |p,x::l=>by
  rw[lg,tl,Jt (some x) l,List.all_cons]
  cases jl x<;>cases oi p x<;>cases l.all jl<;>rfl
theorem Ju:∀(p:Option bb) (fr:List Nat) (l:List bb),fr.length=l.length->mr p fr l=(fr.all (λk=>decide (k≠9)&&decide (k≠1))&&tl p l)
 |p,[],[],_=>rfl
 |p,[],_::_,h=>by simp at h
 |p,_::_,[],h=>by simp at h
 |p,k::fr,x::l,h=>by
  rw[Qf,tl,Ju (some x) fr l (by simpa using h),List.all_cons]
  cases (decide (k≠9)&&decide (k≠1))<;>cases oi p x<;>cases fr.all (λk=>decide (k≠9)&&decide (k≠1))<;>rfl
theorem QE:∀(p:Option bb) (l:List bb),tl p l=true<->(∀x,l[0]? =some x->oi p x=true)/\∀i,i+1<l.length->eA (wn l i) (wn l (i+1))=true
 |p,[]=>by simp[tl]
 |p,x::l=>by
  rw[tl,Bool.and_eq_true,QE (some x) l]
  constructor
  · rintro⟨I,ae,ax⟩
    refine⟨λy aZ=>by simp at aZ;subst aZ;exact I,λi hi=>?_⟩
    cases i with
    |zero=>
     cases l with
     |nil=>simp at hi
     |cons y l=>simpa[wn,oi] using ae y (by simp)
    |succ i=>simpa[wn] using ax i (by simpa using hi)
  · rintro⟨I,ae⟩
    refine⟨I x (by simp),λy aZ=>?_,λi hi=>?_⟩
    · cases l with
      |nil=>simp at aZ
      |cons z l=>
       simp at aZ
       subst aZ
       simpa[wn,oi] using ae 0 (by simp)
    · simpa[wn] using ae (i+1) (by simpa using hi)
theorem QF(l:List bb):tl none l=r5 (wn l) l.length:=by
 rw[Bool.eq_iff_iff,QE]
 unfold r5
 rw[Bool.not_eq_true',List.any_eq_false]
 constructor
 · rintro⟨_,h⟩ i hi
   rw[List.mem_range] at hi
   cases i with
   |zero=>simp
   |succ i=>simp[h i hi]
 · intro h
   refine⟨λ_ _=>rfl,λi hi=>?_⟩
   have:=h (i+1) (by rw[List.mem_range];exact hi)
   simpa using this
def u9(l:List Bool)(i:Nat):Bool:=(l[i]?).getD false
theorem Jv(l:List Bool):(List.range l.length).any (u9 l)=l.any id:=by
 rw[Bool.eq_iff_iff,List.any_eq_true,List.any_eq_true]
 constructor
 · rintro⟨i,hi,h⟩
   rw[List.mem_range] at hi
   refine⟨l[i],List.getElem_mem hi,?_⟩
   simpa[u9,hi] using h
 · rintro⟨b,ag,h⟩
   obtain⟨i,hi,rfl⟩:=List.getElem_of_mem ag
   exact⟨i,by simpa using hi,by simpa[u9,hi] using h⟩
theorem Jw{α:Type}(f:α->Bool)(l:List α){i:Nat}(hi:i<l.length):u9 (l.map f) i=f l[i]:=by simp[u9,hi]
theorem QG:∀xs:List aJ,(xs.map (λu=>!eW u)).any id=!iG xs
 |[]=>rfl
 |x::xs=>by
  rw[iG,List.map_cons,List.any_cons,QG xs]
  cases eW x<;>rfl
theorem Jx{α:Type}(f:α->Bool):∀l:List α,(l.map (λx=>!f x)).any id=!l.all f
 |[]=>rfl
 |x::l=>by
  rw[List.map_cons,List.any_cons,List.all_cons,Jx f l]
  cases f x<;>rfl
theorem QH(k:Nat)(nm:bb)(ns:List bb)(xs:List aJ)(rt:Option aJ):eW (.mk k nm ns xs rt)=((decide (1<=k)&&decide (k<=9))&&(r6 k nm ns.length xs.length rt.isSome&&(iG xs&&fK k nm ns (xs.map aJ.k) (cM xs) xs.length (jV rt)))):=by
 rw[o_]
 congr 1
 by_cases e:k=6/\nm=[]
 · obtain⟨rfl,rfl⟩:=e
   have:fK 6 [] ns (xs.map aJ.k) (cM xs) xs.length (jV rt)=false:=by simp[fK,ny]
   rw[this];simp
 · congr 1
   unfold jm r6
   rw[y9]
   have dc:¬k=6\/¬nm=[]:=by
    by_cases h:k=6
    · right;intro ae;exact e ⟨h,ae⟩
    · exact .inl h
   have rX:(0<ns.length)=¬ns.length=0:=by simp[Nat.pos_iff_ne_zero]
   have gj:(0<xs.length)=¬xs.length=0:=by simp[Nat.pos_iff_ne_zero]
   have AP:(7<=k)=¬k<7:=by simp
   simp only[rX,gj,AP,ne_eq,decide_not]
   rcases dc with dc|dc<;>simp only[dc,decide_false]<;>cases decide (k=6)<;>cases decide (nm=[])<;>cases decide (ns.length=0)<;>cases decide (k=7)<;>cases decide (xs.length=0)<;>cases decide (k<7)<;>cases rt.isSome<;>cases decide (k=8)<;>rfl
abbrev QI:Prop:=∀(u:aJ),eW u=true->sz u<=100->∀(m B:Nat) (h:ab) (v:ad),4*sz u+10<=m->B<=h.n->dP B h u v->dq B h (.str (wr u)) (Y m (.fn 72) [v] h)
theorem QJ(kP:QI):∀(K:Nat) (t:aJ),sz t<=K->sz t<=100->iE t<=90000->∀(m B:Nat) (h:ab) (v:ad),4*sz t+12<=m->B<=h.n->dP B h t v->dq B h (.bool (eW t)) (Y m (.fn 43) [v] h)
 |0,t,dg,_,_,_,_,_,_,_,_,_=>by
  have:=p0 t
  omega
 |K+1,.mk k nm ns xs rt,dg,hz,ig,m,B,h,v,hm,dd,aI=>by
  obtain⟨R,bA,aU,cY,vs,bq,lo,up,rfl,ae,ax,aN,bS,cz,dw⟩:=aI
  rw[l3] at dg hz hm
  rw[iE] at ig
  obtain⟨m,rfl⟩:∃j,m=j+5:=⟨m-5,by omega⟩
  have fH:=dZ.len cz
  have ks:=mo xs
  have mL:=yT xs
  have mm:(ns.map ad.str).length=ns.length:=List.length_map _
  have bl:∀(u:aJ),sz u<=K->sz u<=100->iE u<=90000->∀(m B:Nat) (h:ab) (v:ad),4*sz u+12<=m->B<=h.n->dP B h u v->dq B h (.bool (eW u)) (Y m (.fn 43) [v] h):=QJ kP K
  rw[QH]
  have bc:(cY=.aX/\rt.isSome=false)\/(∃q,cY=.ptr q 0)/\rt.isSome=true:=by
   cases rt with
   |none=>exact .inl ⟨dw,rfl⟩
   |some u=>
    cases u with
    |mk cu cU dm e0 ey=>obtain⟨W,_,_,_,_,_,_,_,rfl,_⟩:=dw;exact .inr ⟨⟨W,rfl⟩,rfl⟩
  have p6:∀g,Ext B h g->bV an g 63 bA=some (J ns.length):=λg x=>by
   rw[<-mm];exact(aN.bB (hk.ext x (Nat.le_refl _))).len (t:=63) (e:=9) (by kernel_rfl)
  have mN:∀g,Ext B h g->bV an g 50 aU=some (J xs.length):=λg x=>by
   rw[<-fH];exact(bS.bB (hk.ext x (Nat.le_refl _))).len (t:=50) (e:=35) (by kernel_rfl)
  have a0:=acX (m+3) (N:=ns.length) (M:=xs.length) (o:=rt.isSome) ax (p6 h (Ext.refl _ _)) (mN h (Ext.refl _ _)) bc
  have eQ:∀g,Ext B h g->∀i (i1:i<vs.length) (i2:i<xs.length),dP B g xs[i] vs[i]:=λg x i i1 i2=>dZ.get (dZ.bB (hk.ext x (Nat.le_refl _)) _ _ cz) i i1 i2
  refine acQ (m+4) R h ⟨k,aF ax rfl,λbG=>dq.of (jz (by simp;omega)) (Ext.refl _ _),λbG=>⟨k,aF ax rfl,λkk=>dq.of (jz (by simp;omega)) (Ext.refl _ _),λkk=>⟨_,h,a0,λag=>?_,λag=>?_⟩⟩⟩
  rotate_left
  · refine dq.of (jz ?_) (Ext.refl _ _)
    have:r6 k nm ns.length xs.length rt.isSome=false:=by simpa using ag
    rw[this];simp
  have hV:r6 k nm ns.length xs.length rt.isSome=true:=by simpa using ag
  have Jj:(decide (1<=k)&&decide (k<=9))=true:=by simp;omega
  rw[Jj,hV,Bool.true_and,Bool.true_and]
  obtain⟨g,aM,bF⟩:=Qw (m+2) (B:=B) (h:=h) (v:=aU) (vs:=vs) 62 [] (u9 (xs.map (λu=>!eW u))) bS (by omega) (λi i1 x aa=>by
   have i2:i<xs.length:=by omega
   have a7:=p1 (List.getElem_mem i2)
   have aH:=yS (List.getElem_mem i2)
   obtain⟨g,c,y⟩:=bl xs[i] (by omega) (by omega) (by omega) (m+1) B x vs[i] (by omega) (Nat.le_trans dd aa.n) (eQ x aa i i1 i2)
   rw[Jw _ _ i2]
   exact acw (m+1) vs[i] x ⟨_,g,c,dq.of rfl y⟩)
  rw[show vs.length=(xs.map (λu=>!eW u)).length by rw[List.length_map];exact fH,Jv,QG] at aM
  refine⟨aU,aF ax rfl,_,g,aM,λag=>?_,λag=>?_⟩
  · refine dq.of (jz ?_) bF
    have:iG xs=false:=by simpa using ag
    rw[this];rfl
  have j8:iG xs=true:=by simpa using ag
  rw[j8,Bool.true_and]
  have ar:=(bF.get R ae).trans ax
  have u0:=Nat.le_trans dd bF.n
  have je:∀i (i2:i<xs.length),eW xs[i]=true:=λi i2=>BE j8 (List.getElem_mem i2)
  have fin:∀{v:ad} {w:Bool} {x:bE},w=fK k nm ns (xs.map aJ.k) (cM xs) xs.length (jV rt)->dq B g (.bool w) x->dq B h (.bool (fK k nm ns (xs.map aJ.k) (cM xs) xs.length (jV rt))) x:=by
   rintro v w x rfl ⟨aw,rfl,y⟩
   exact dq.mk (bF.trans (Nat.le_refl _) y)
  refine⟨k,aF ar rfl,λhd=>?_,λhd=>⟨λhA=>?_,λhA=>⟨λic=>?_,λic=>⟨λhN=>?_,λhN=>?_⟩⟩⟩⟩
  · subst hd
    obtain⟨aD,ee,dh⟩:=Qs m B lF nm [45,47,46] 161 g u0 (by omega) (.inr ⟨rfl,rfl⟩)
    exact⟨nm,aF ar rfl,_,aD,ee,fin (v:=.aX) (by simp[fK,ny]) (dq.mk dh)⟩
  · subst hA
    have xa:fK 7 nm ns (xs.map aJ.k) (cM xs) xs.length (jV rt)=(decide (ns.length=xs.length)&&lg none ns):=by simp[fK]
    have za:Ext B g (g.room 27):=Ext.room B g 27
    have rB:=bF.trans (Nat.le_refl _) za
    have ky:=(za.get R ae).trans ar
    have bj:=aN.bB (hk.ext rB (Nat.le_refl _))
    refine⟨bA,aF ky rfl,_,p6 _ rB,aU,aF ky rfl,_,mN _ rB,λaH=>?_,λaH=>⟨aN.snd,bS.snd,fin (v:=.aX) (by rw[xa];simp[aH]) (dq.mk za)⟩⟩
    obtain⟨aD,ee,dh⟩:=acD (m+2) (B:=B) (h:=g.room 27) (v:=bA) (vs:=ns.map .str) 66 [] (u9 (ns.map (λs=>!jl s))) bj (by omega) (λi i1 x aa=>by
     have i2:i<ns.length:=by omega
     obtain⟨g,c,y⟩:=acW (m-5) B ns[i] x (Nat.le_trans (Nat.le_trans u0 za.n) aa.n)
     rw[Jw _ _ i2,List.getElem_map]
     rw[show m-5+6=m+1 by omega] at c
     exact acx (m+1) ns[i] x ⟨_,g,c,dq.of rfl y⟩)
    rw[show(ns.map ad.str).length=(ns.map (λs=>!jl s)).length by simp,Jv,Jx] at ee
    refine⟨bA,aF ky rfl,_,aD,ee,λag=>?_,λag=>?_⟩
    rotate_left
    · have hf:ns.all jl=true:=by simpa using ag
      have zb:=za.trans (Nat.le_refl _) dh
      have p7:=rB.trans (Nat.le_refl _) dh
      have hE:=(zb.get R ae).trans ar
      obtain⟨a4,fQ,e1⟩:=acJ (m+1) (B:=B) (h:=aD) (v:=bA) (vs:=ns.map .str) 69 [] (wn ns) (Nat.le_trans u0 zb.n) (aN.bB (hk.ext p7 (Nat.le_refl _))) (by omega) rfl (λi hi=>by rw[List.getElem_map];rfl) (λi hi=>⟨ns[i]'(by omega),by rw[List.getElem_map]⟩) (λi i1 x aa=>by
       have i2:i<ns.length:=by omega
       rw[List.getElem_map,show wn ns i=ns[i] by simp[wn,i2]]
       exact acy m ns[i] x (dq.mk (Ext.refl _ _)))
      rw[mm,<-QF] at fQ
      exact⟨bA,aF hE rfl,_,a4,fQ,aN.snd,bS.snd,aN.snd,aN.snd,fin (v:=.aX) (by rw[xa,Jt,hf];simp[aH]) (dq.mk (zb.trans (Nat.le_refl _) e1))⟩
    · have hf:ns.all jl=false:=by simpa using ag
      exact⟨aN.snd,bS.snd,aN.snd,fin (v:=.aX) (by rw[xa,Jt,hf];simp) (dq.mk (za.trans (Nat.le_refl _) dh))⟩
  · subst ic
    cases rt with
    |none=>simp[r6] at hV
    |some u=>
     rw[jk] at dg hz hm
     rw[m3] at ig
     obtain⟨aD,ee,dh⟩:=bl u (by omega) (by omega) (by omega) (m+4) B g cY (by omega) u0 (dP.bB (hk.ext bF (Nat.le_refl _)) _ _ dw)
     exact⟨cY,aF ar rfl,_,aD,ee,fin (v:=.aX) (by simp[fK,jV]) (dq.mk dh)⟩
  · subst hN
    have y8:fK 9 nm ns (xs.map aJ.k) (cM xs) xs.length (jV rt)=(mr none (xs.map aJ.k) (cM xs)&&decide (2<=xs.length)):=by simp[fK]
    have QK:(xs.map aJ.k).length=(cM xs).length:=by rw[List.length_map,mL]
    refine⟨aU,aF ar rfl,_,mN g bF,λrK=>?_,λrK=>fin (v:=.aX) (by rw[y8];simp[rK]) (dq.mk (Ext.refl _ _))⟩
    obtain⟨aD,ee,dh⟩:=Qw (m+2) (B:=B) (h:=g) (v:=aU) (vs:=vs) 70 [] (u9 ((xs.map aJ.k).map (λk=>!(decide (k≠9)&&decide (k≠1))))) (bS.bB (hk.ext bF (Nat.le_refl _))) (by omega) (λi i1 x aa=>by
     have i2:i<xs.length:=by omega
     have i3:i<(xs.map aJ.k).length:=by rw[List.length_map];exact i2
     obtain⟨M,gB,tg⟩:=(dZ.get cz i i1 i2).kind
     rw[Jw _ _ i3,List.getElem_map,gB]
     have aA:=tg x (bF.trans (Nat.le_refl _) aa)
     refine acz (m+1) M x ⟨_,aA,λe=>dq.of (jz (by simp[e])) (Ext.refl _ _),λe=>⟨_,aA,dq.of (jz (by rw[bQ,w_];simp[e])) (Ext.refl _ _)⟩⟩)
    rw[show vs.length=((xs.map aJ.k).map (λk=>!(decide (k≠9)&&decide (k≠1)))).length by simp;exact fH,Jv,Jx] at ee
    refine⟨aU,aF ar rfl,_,aD,ee,λag=>?_,λag=>?_⟩
    rotate_left
    · have hf:(xs.map aJ.k).all (λk=>decide (k≠9)&&decide (k≠1))=true:=by simpa using ag
      have p7:=bF.trans (Nat.le_refl _) dh
      have hE:=(dh.get R ae).trans ar
      obtain⟨a4,fQ,e1⟩:=acN (m+1) (B:=B) (h:=aD) (v:=aU) (vs:=vs) 72 [] (wn (cM xs)) (Nat.le_trans u0 dh.n) (bS.bB (hk.ext p7 (Nat.le_refl _))) (by omega) rfl (λi hi=>(dZ.get cz i hi (by omega)).snd) (λi hi=>by
       obtain⟨M,gB,_⟩:=(dZ.get cz i hi (by omega)).kind
       exact⟨M,gB⟩) (λi i1 x aa=>by
       have i2:i<xs.length:=by omega
       have a7:=p1 (List.getElem_mem i2)
       have lE:=p7.trans (Nat.le_refl _) aa
       rw[show wn (cM xs) i=wr xs[i] by simp[wn,mL,i2,yU xs i i2]]
       exact kP xs[i] (je i i2) (by omega) (m+1) x.n x vs[i] (by omega) (Nat.le_refl _) (dP.le (Nat.le_trans dd lE.n) _ _ (eQ x lE i i1 i2)))
      rw[show vs.length=(cM xs).length by omega,<-QF] at fQ
      exact⟨aU,aF hE rfl,_,a4,fQ,fin (v:=.aX) (by rw[y8,Ju _ _ _ QK,hf];simp[rK]) (dq.mk (dh.trans (Nat.le_refl _) e1))⟩
    · have hf:(xs.map aJ.k).all (λk=>decide (k≠9)&&decide (k≠1))=false:=by simpa using ag
      exact fin (v:=.aX) (by rw[y8,Ju _ _ _ QK,hf];simp) (dq.mk dh)
  · exact fin (v:=.aX) (by simp[fK,hd,hA,ic,hN]) (dq.mk (Ext.refl _ _))
theorem acY(b:Nat)(h cZ:ab)
  (H1:aq h b (0+0)=some .aX)
  (bh:hp an 90 138 (ad.ptr b 0) h=ia.val (ad.ptr b 0) h)
  (bD:call (.fn 101) [af b] h=bE.ret (af b) h)
  (cm:hp an 138 90 (ad.ptr b 0) h=ia.val (ad.ptr b 0) h)
  (cS:bg.storeCells h b (0+0) [af b]=some cZ):
  a5 an Tryz.f73 none call [] (aj [(0,af b)] h) (.nrm)
   (aj [] cZ):=
 bN [] [.v .aX,.v (.bool true),.b true,.v (af b),.c (af b) h,.v (af b),.n5 (.aR []) cZ] 16 7 36717927 (wA H1 (by kernel_rfl:ec an h BinOp.eql 90 (Operand.tmp 5) (Operand.const (Value.pointer none)) ad.aX ad.aX=some (ad.bool true)) bh bD cm (⟨by kernel_rfl,cS,rfl⟩:some 1=some 1/\bg.storeCells h b (0+0) [ad.ptr b 0]=some cZ/\ad.aR []=ad.aR []) bM)
theorem acZ(b:Nat)(h:ab)(ez:Bool)
  (H1:aq h b (0+0)=some (af b))
  (bh:ec an h BinOp.neq 90 (Operand.tmp 17) (Operand.tmp 18) (ad.ptr b 0) (ad.ptr b 0)=some (ad.bool ez))
  (bD:ez=false):
  a5 an Tryz.f73 none call [] (aj [(0,af b)] h) (.nrm)
   (aj [] h):=
 bN [] [.v (af b),.v (.bool false),.b false,.v (af b),.v (.bool ez),.b false] 16 6 2298437 (mW H1 (by kernel_rfl:ec an h BinOp.eql 90 (Operand.tmp 5) (Operand.const (Value.pointer none)) (ad.ptr b 0) ad.aX=some (ad.bool false)) bh bD bM)
theorem bws(b c m:Nat)(s:List UInt8)(v:ad)(h ae cZ iV:ab)
  (H1:call (.fn 73) [af b] h=bE.ret (.aR []) cZ)
  (bh:aq cZ b (0+1)=some v)
  (bD:dJ an cZ 27 (some 9) v (ad.str s)=some (ad.slice c 0 m (ct.aL 1),ae))
  (cm:bg.storeCells ae b (0+1) [.slice c 0 m (.aL 1)]=some iV):
  a5 an Tryz.f44 none call [] (aj [(0,af b),(1,.str s)] h) (.ret)
   (aj [(4,J s.length),(5,.fU)] iV):=
 bN [4,5] [.c (.aR []) cZ,.v v,.n5 (.slice c 0 m (.aL 1)) ae,.n5 (.aR []) iV] 16 4 9029 (mW H1 bh bD (⟨by kernel_rfl,cm,rfl⟩:some 1=some 1/\bg.storeCells ae b (0+1) [ad.slice c 0 m (ct.aL 1)]=some iV/\ad.aR []=ad.aR []) bM)
theorem QL(b:Nat)(s:List UInt8)(v:ad)(h ae cZ iV:ab)
  (H1:call (.fn 73) [af b] h=bE.ret (.aR []) cZ)
  (bh:aq cZ b (0+1)=some v)
  (bD:dJ an cZ 27 (some 9) v (ad.str s)=some (ad.aP,ae))
  (cm:bg.storeCells ae b (0+1) [.aP]=some iV):
  a5 an Tryz.f44 none call [] (aj [(0,af b),(1,.str s)] h) (.ret)
   (aj [(4,J s.length),(5,.fU)] iV):=
 bN [4,5] [.c (.aR []) cZ,.v v,.n5 .aP ae,.n5 (.aR []) iV] 16 4 9029 (mW H1 bh bD (⟨by kernel_rfl,cm,rfl⟩:some 1=some 1/\bg.storeCells ae b (0+1) [ad.aP]=some iV/\ad.aR []=ad.aR []) bM)
theorem QM(b c m:Nat)(h:ab)(e2:List UInt8)(cZ:ab)
  (H1:aq (ab.room h 12) b (0+1)=some (.slice c 0 m (.aL 1)))
  (bh:jH an Builtin.unsafeSliceData (Array.mk [27]) [.slice c 0 m (.aL 1)] (ab.room h 12)=ia.val (af c) (ab.room h 12))
  (bD:ri an (ab.room h 12) 118 (ad.ptr c 0) (J m)=some (ad.str e2,cZ)):
  a5 an Tryz.f47 none call [] (aj [(0,af b)] h) (.ret)
   (aj [(2,.str e2)] cZ):=
 bN [2] [.v (.slice c 0 m (.aL 1)),.v (af c),.v (.slice c 0 m (.aL 1)),.n5 (.str e2) cZ] 16 26 0x232456567892a356567892bcde (fJ H1 bh bD (ca (af b)) (dN (af b)) (ca (.ptr b (0+1))) (dN (.ptr b (0+1))) (ca (.slice c 0 m (ct.aL 1))) (ca (af c))<|mW (ca (J m)) (by kernel_rfl:bV an (ab.room h 12) 27 (ad.slice c 0 m (ct.aL 1))=some (J m)) (ca (.str e2)) (dN (.str e2)) bM)
theorem QN(b:Nat)(h:ab)(e2:List UInt8)(cZ:ab)
  (H1:aq (ab.room h 12) b (0+1)=some .aP)
  (bh:ri an (ab.room h 12) 118 ad.aX (J 0)=some (ad.str e2,cZ)):
  a5 an Tryz.f47 none call [] (aj [(0,af b)] h) (.ret)
   (aj [(2,.str e2)] cZ):=
 bN [2] [.v .aP,.v .aX,.v .aP,.n5 (.str e2) cZ] 16 26 0x232456567892a356567892bcde (fJ H1 (by kernel_rfl:jH an Builtin.unsafeSliceData (Array.mk [27]) [ad.aP] (ab.room h 12)=ia.val ad.aX (ab.room h 12)) bh (ca (af b)) (dN (af b)) (ca (.ptr b (0+1))) (dN (.ptr b (0+1))) (ca .aP) (ca .aX)<|mW (ca (J 0)) (by kernel_rfl:bV an (ab.room h 12) 27 ad.aP=some (J 0)) (ca (.str e2)) (dN (.str e2)) bM)
theorem ac0(m:Nat)(v:ad)(s:List UInt8)(g7 fz b c:Nat)(kW kX:List ad)(h:ab)(H:∃aB,bV an h 50 v=some (J aB)/\bp an Tryz.f95 (Y m) [1,0] (aj [(1,.str s),(2,.fn g7 [] kW),(3,.fn fz [] kX),(4,af b),(5,af c),(12,v),(13,J aB),(14,J 0)] h) (λb2 cc=>∃ak bt,b2=.exit 0/\cc=aj bt ak/\bY [] bt/\R (.ret (.aR []) ak))):
  R (Y (m+1) (.fn 95) [v,.str s,.fn g7 [] kW,.fn fz [] kX,af b,af c] h):=
 dB [(4000,.fj [1,2,3,4,5,12,13,14] [(.exit 0,[])])] [0,2,3] Tryz.func95 H
theorem ac1(s:List UInt8)(g7 fz b c gz off N i BU:Nat)(cp:ct)(kW kX co:List ad)(h:ab)(H:(i<N->i<N/\∃v1,aq h gz (off+i*1)=some v1/\(0<i->∃aB v2 ak,call (.fn 44) [af b,.str s] h=.ret (.aR [J aB,v2]) ak/\∃s1 av,call (.fn g7) (J i::kW) ak=.ret (.str s1) av/\∃aY b8 aD,call (.fn 44) [af b,.str s1] av=.ret (.aR [J aY,b8]) aD/\aq aD c 0=some (.fn BU [] co)/\∃a4,call (.fn BU) (v1::co) aD=.ret (.aR []) a4/\∃s2 bk,call (.fn fz) (J i::kX) a4=.ret (.str s2) bk/\∃bd v4 cQ,call (.fn 44) [af b,.str s2] bk=.ret (.aR [J bd,v4]) cQ/\i+1<9223372036854775808/\Q .nrm (aj [(1,.str s),(2,.fn g7 [] kW),(3,.fn fz [] kX),(4,af b),(5,af c),(12,.slice gz off N cp),(13,J N),(14,J (i+1))] cQ))/\(¬0<i->∃b1 dO,call (.fn g7) (J i::kW) h=.ret (.str b1) dO/\∃bj eC dW,call (.fn 44) [af b,.str b1] dO=.ret (.aR [J bj,eC]) dW/\aq dW c 0=some (.fn BU [] co)/\∃gJ,call (.fn BU) (v1::co) dW=.ret (.aR []) gJ/\∃b_ iH,call (.fn fz) (J i::kX) gJ=.ret (.str b_) iH/\∃bC v6 r7,call (.fn 44) [af b,.str b_] iH=.ret (.aR [J bC,v6]) r7/\i+1<9223372036854775808/\Q .nrm (aj [(1,.str s),(2,.fn g7 [] kW),(3,.fn fz [] kX),(4,af b),(5,af c),(12,.slice gz off N cp),(13,J N),(14,J (i+1))] r7)))/\(¬i<N->Q (.exit 0) (aj [(1,.str s),(2,.fn g7 [] kW),(3,.fn fz [] kX),(4,af b),(5,af c),(12,.slice gz off N cp),(13,J N),(14,J i)] h))):
  bp an Tryz.f95 call [1,0,0] (aj [(1,.str s),(2,.fn g7 [] kW),(3,.fn fz [] kX),(4,af b),(5,af c),(12,.slice gz off N cp),(13,J N),(14,J i)] h) Q:=
 c3 [(18,.a1 .o),(27,.a1 (.io (.fn BU [] co)))] [1,2,3,4,5,12,13,14] [2,3] H
theorem ac2(s:List UInt8)(g7 fz b c N i:Nat)(kW kX:List ad)(v:ad)(h:ab)(H:¬i<N/\Q (.exit 0) (aj [] h)):
  bp an Tryz.f95 call [1,0,0] (aj [(1,.str s),(2,.fn g7 [] kW),(3,.fn fz [] kX),(4,af b),(5,af c),(12,v),(13,J N),(14,J i)] h) Q:=
 c3 [(1015,.f)] [] [2,3,12] H
theorem Jy(m i:Nat)(h:ab)(H:R (.ret (.str []) h)):
  R (Y (m+1) (.fn 96) [J i] h):=
 dB [] [] Tryz.func96 H
theorem ac3(m i e:Nat)(h:ab)(H:∃aB,aq h e 0=some (af aB)/\∃aY bd bj,∃aM:ct,aq h aB 2=some (.slice aY bd bj aM)/\i<bj/\∃s1,aq h aY (bd+i*1)=some (.str s1)/\List.length s1+2<=1000000000000/\R (.ret (.str (s1++[58,32])) h)):
  R (Y (m+1) (.fn 98) [J i,af e] h):=
 dB [(7,.a1 .gN)] [] Tryz.func98 H
theorem QO(m:Nat)(s:List UInt8)(e:Nat)(h:ab)(H:R (.ret (.fn 100 [] [af e,af h.n]) (ab.push h (aQ [.str s] 9)))):
  R (Y (m+1) (.fn 99) [.str s,af e] h):=
 dB [] [] Tryz.func99 H
theorem ac4(m i e f:Nat)(h:ab)(H:∃aB,aq h e 0=some (af aB)/\∃aY bd bj,∃aM:ct,aq h aB 3=some (.slice aY bd bj aM)/\i<bj/\∃bC,aq h aY (bd+i*1)=some (af bC)/\∃bP,aq h bC 0=some (J bP)/\(bP=8->∃s1,aq h f 0=some (.str s1)/\R (.ret (.str s1) h))/\(¬bP=8->R (.ret (.str []) h))):
  R (Y (m+1) (.fn 100) [J i,af e,af f] h):=
 dB [(8,.a1 .gN)] [] Tryz.func100 H
theorem ac5(m b l n o r k:Nat)(s:List UInt8)(aU cY:ad)(h:ab)(H:aq (ab.push h (aQ [af r] 35)) h.n 0=some (af r)/\aq (ab.push h (aQ [af r] 35)) r 0=some (J k)/\(k=6->aq (ab.push h (aQ [af r] 35)) h.n 0=some (af r)/\aq (ab.push h (aQ [af r] 35)) r 1=some (.str s)/\∃aB v1 ak,Y m (.fn 44) [af b,.str s] (ab.push h (aQ [af r] 35))=.ret (.aR [J aB,v1]) ak/\R (.ret (.aR []) ak))/\(¬k=6->(k=7->∃aY v2 av,Y m (.fn 44) [af b,.str [123]] (ab.push h (aQ [af r] 35))=.ret (.aR [J aY,v2]) av/\aq (av.room 8) l 0=some (.fn 95 [] [af b,af o])/\aq (av.room 8) h.n 0=some (af r)/\aq (av.room 8) r 3=some aU/\aq (av.room 8) n 0=some (.fn 96 [] [])/\∃aD,Y m (.fn 95) [aU,.str [44,32],.fn 98 [] [af h.n],.fn 96 [] [],af b,af o] (av.room 8)=.ret (.aR []) aD/\cr aU/\∃bd b8 a4,Y m (.fn 44) [af b,.str [125]] aD=.ret (.aR [J bd,b8]) a4/\R (.ret (.aR []) a4))/\(¬k=7->(k=8->∃bj v4 bk,Y m (.fn 44) [af b,.str [102,110,40]] (ab.push h (aQ [af r] 35))=.ret (.aR [J bj,v4]) bk/\aq (bk.room 8) l 0=some (.fn 95 [] [af b,af o])/\aq (bk.room 8) h.n 0=some (af r)/\aq (bk.room 8) r 3=some aU/\aq (bk.room 8) n 0=some (.fn 96 [] [])/\aq (bk.room 8) n 0=some (.fn 96 [] [])/\∃cQ,Y m (.fn 95) [aU,.str [44,32],.fn 96 [] [],.fn 96 [] [],af b,af o] (bk.room 8)=.ret (.aR []) cQ/\cr aU/\∃bC eC dO,Y m (.fn 44) [af b,.str [41,32,45,62,32]] cQ=.ret (.aR [J bC,eC]) dO/\aq (dO.room 6) o 0=some (.fn 97 [] [af b,af l,af n,af o])/\aq (dO.room 6) h.n 0=some (af r)/\aq (dO.room 6) r 4=some cY/\∃dW,Y m (.fn 97) [cY,af b,af l,af n,af o] (dO.room 6)=.ret (.aR []) dW/\cr cY/\R (.ret (.aR []) dW))/\(¬k=8->(k=9->aq (ab.room (ab.push h (aQ [af r] 35)) 10) l 0=some (.fn 95 [] [af b,af o])/\aq (ab.room (ab.push h (aQ [af r] 35)) 10) h.n 0=some (af r)/\aq (ab.room (ab.push h (aQ [af r] 35)) 10) r 3=some aU/\∃v6 gJ,Y m (.fn 99) [.str [40],af h.n] (ab.room (ab.push h (aQ [af r] 35)) 10)=.ret v6 gJ/\∃v7 iH,Y m (.fn 99) [.str [41],af h.n] gJ=.ret v7 iH/\∃r7,Y m (.fn 95) [aU,.str [32,124,32],v6,v7,af b,af o] iH=.ret (.aR []) r7/\aq iH l 0=some (.fn 95 [] [af b,af o])/\aq gJ l 0=some (.fn 95 [] [af b,af o])/\aq iH h.n 0=some (af r)/\aq gJ h.n 0=some (af r)/\cr aU/\aq iH r 3=some aU/\aq gJ r 3=some aU/\R (.ret (.aR []) r7))/\(¬k=9->aq (ab.push h (aQ [af r] 35)) h.n 0=some (af r)/\aq (ab.push h (aQ [af r] 35)) r 0=some (J k)/\∃s1,(k<6/\kp an 9 [.str [],.str [97,110,121],.str [105,110,116],.str [98,111,111,108],.str [115,116,114],.str [110,105,108]] (k*1)=some (.str s1))/\∃bP hZ BV,Y m (.fn 44) [af b,.str s1] (ab.push h (aQ [af r] 35))=.ret (.aR [J bP,hZ]) BV/\R (.ret (.aR []) BV)))))):
  R (Y (m+1) (.fn 97) [af r,af b,af l,af n,af o] h):=
 dB [(7,.a1 (.is (af r))),(20,.a1 (.is (af r))),(29,.a1 (.is (af r))),(41,.a1 (.is (af r))),(50,.a1 (.is (af r))),(59,.a1 (.is (af r))),(12,.a1 (.is (af r))),(10,.a1 (.is (J k))),(15,.a1 (.is (J k))),(23,.a1 (.is (.str s))),(32,.a1 (.io aU)),(44,.a1 (.io aU)),(62,.a1 (.io aU)),(53,.a1 (.io cY)),(28,.a1 (.is (.fn 95 [] [af b,af o]))),(40,.a1 (.is (.fn 95 [] [af b,af o]))),(58,.a1 (.is (.fn 95 [] [af b,af o]))),(34,.a1 (.is (.fn 96 [] []))),(45,.a1 (.is (.fn 96 [] []))),(46,.a1 (.is (.fn 96 [] []))),(49,.a1 (.is (.fn 97 [] [af b,af l,af n,af o]))),(64,.a1 .o),(66,.a1 .o)] [] Tryz.func97 H
theorem ac6(m r:Nat)(h:ab)(H:∃ak,bg.storeCells (ab.push (ab.push (ab.push h (aQ [.aX,.aP] 92)) (aQ [.gW] 133)) (aQ [.gW] 135)) (ab.n (ab.push (ab.push h (aQ [.aX,.aP] 92)) (aQ [.gW] 133))) 0 [.fn 95 [] [af h.n,.ptr (ab.n (ab.push h (aQ [.aX,.aP] 92))) 0]]=some ak/\∃av,bg.storeCells (ab.push ak (aQ [.gW] 134)) ak.n 0 [.fn 96 [] []]=some av/\∃aD,bg.storeCells av (ab.n (ab.push h (aQ [.aX,.aP] 92))) 0 [.fn 97 [] [af h.n,.ptr (ab.n (ab.push (ab.push h (aQ [.aX,.aP] 92)) (aQ [.gW] 133))) 0,af ak.n,.ptr (ab.n (ab.push h (aQ [.aX,.aP] 92))) 0]]=some aD/\∃bt:List ad,aq aD (ab.n (ab.push h (aQ [.aX,.aP] 92))) 0=some (.fn 97 [] bt)/\∃a4,Y m (.fn 97) (af r::bt) aD=.ret (.aR []) a4/\∃s1 bk,Y m (.fn 47) [af h.n] a4=.ret (.str s1) bk/\R (.ret (.str s1) bk)):
  R (Y (m+1) (.fn 72) [af r] h):=
 dB [(9,.a1 (.fn 97 4))] [] Tryz.func72 H
def lk(B b:Nat)(h:ab)(w:List UInt8):Prop:=∃a v,h.get b=some (aQ [a,v] 92)/\(a=.aX\/a=.ptr b 0)/\rP B 5 h v w/\b<B/\B<=h.n/\(w=[]->v=.aP)
theorem ac7(n b:Nat)(h:ab):Y (n+1) (.fn 101) [.ptr b 0] h=.ret (.ptr b 0) h:=by unfold Y;kernel_rfl
theorem Jz(n b:Nat)(h:ab)(v:ad)(ag:b<h.n)(ar:h.get b=some (aQ [.aX,v] 92)\/h.get b=some (aQ [.ptr b 0,v] 92)):
  ∃aw,Y (n+2) (.fn 73) [.ptr b 0] h=.ret (.aR []) aw/\aw.get b=some (aQ [.ptr b 0,v] 92)/\aw.n=h.n/\∀c,c≠b->aw.get c=h.get c:=by
 rcases ar with ar|ar
 · refine⟨h.set b (some (aQ [.ptr b 0,v] 92)),?_,eK rfl,rfl,λc ah=>cX ah rfl⟩
   have f1:an.underlying 90=some (.pointer 92):=by kernel_rfl
   have f2:an.underlying 138=some .unsafePointer:=by kernel_rfl
   have f3:ef an 92=some 2:=by kernel_rfl
   have f4:liesAt an an.depth 92 (2/an.cellsOf 92) 0 92 1=true:=by kernel_rfl
   have v1:hp an 90 138 (ad.ptr b 0) h=ia.val (ad.ptr b 0) h:=by
    simp only[hp,f1,f2,f3,ar];rfl
   have v2:hp an 138 90 (ad.ptr b 0) h=ia.val (ad.ptr b 0) h:=by
    simp only[hp,f1,f2,f3,ar,List.length_cons,List.length_nil,f4];rfl
   have ao:=acY (Y (n+1)) b h _ (aF ar rfl) v1 (ac7 n b h) v2 (eV ar rfl rfl)
   exact gR (intr:=ea) (n:=n+1) (args:=[.ptr b 0]) Tryz.func73 ao (.inr rfl) (by kernel_rfl)
 · refine⟨h,?_,ar,rfl,λc _=>rfl⟩
   have he:ec an h BinOp.neq 90 (Operand.tmp 17) (Operand.tmp 18) (ad.ptr b 0) (ad.ptr b 0)=some (ad.bool false):=by
    have aG:an.underlying 90=some (.pointer 92):=by kernel_rfl
    have aE:ef an 92=some 2:=by kernel_rfl
    have bH:Nat.beq b b=true:=by simp
    simp only[ec,tK,gZ,aG,aE,Gh,bH]
    rfl
   exact gR (intr:=ea) (n:=n+1) (args:=[.ptr b 0]) Tryz.func73 (acZ (Y (n+1)) b h false (aF ar rfl) he rfl) (.inr rfl) (by kernel_rfl)
theorem QP:∃i,an.info? 5=some i/\i.size=1/\i.bytes=1:=by
 have hi:(an.info? 5).map (λi=>(i.size,i.bytes))=some (1,1):=by kernel_rfl
 cases xd:an.info? 5 with
 |none=>rw[xd] at hi;cases hi
 |some i=>
  rw[xd] at hi
  simp only[Option.map_some,Option.some.injEq,Prod.mk.injEq] at hi
  exact⟨i,rfl,hi.1,hi.2⟩
theorem QQ{i:TypeInfo}(hi:i.bytes=1){n:Nat}(aH:n<=1000000000):mG n i.bytes=true:=by
 rw[hi]
 have:(4*n+2048)*(1+1)<=281474976710656:=by omega
 simpa[mG] using this
theorem Fb(n b B:Nat)(h:ab)(w s:List UInt8)(ag:lk B b h w)(aA:w.length+s.length<=1000000000):∃aw,Y (n+3) (.fn 44) [.ptr b 0,.str s] h=.ret (.aR [J s.length,.fU]) aw/\lk B b aw (w++s)/\o3 5 b B h aw:=by
 obtain⟨a,v,ar,aV,Fc,mz,ac8,sQ⟩:=ag
 obtain⟨I,aM,ak,aB,dy⟩:=Jz n b h v (by omega) (by rcases aV with rfl|rfl;exact .inl ar;exact .inr ar)
 have bn:rP B 5 I v w:=Fc.ext (by omega) λc ah _=>dy c (by omega)
 obtain⟨i,xd,Fe,kO⟩:=QP
 obtain⟨v',ae,cu,cU,dm⟩:=Ox (P:=an) (B:=B) (sT:=27) (xT:=some 9) (e:=5) (z:=b4 0) (by omega) (by kernel_rfl) (by kernel_rfl) xd Fe (by kernel_rfl) rfl (QQ kO aA) bn
 have av:=(dm.get b mz).trans ak
 have aH:=dm.n
 have Ff:w++s=[]->v'=.aP:=by
  intro e
  obtain⟨rfl,rfl⟩:=List.append_eq_nil_iff.1 e
  obtain rfl:=sQ rfl
  have:dJ an I 27 (some 9) .aP (.str [])=some (.aP,I):=by
   have hu:an.underlying 27=some (.slice 5):=by kernel_rfl
   have al:rf an (some 9)=true:=by kernel_rfl
   have a7:eT an 5=some (b4 0):=by kernel_rfl
   simp only[dJ,hu,al,xd,a7,Fe];rfl
  rw[this] at cu
  cases cu;rfl
 refine⟨ae.set b (some (aQ [.ptr b 0,v'] 92)),?_,⟨.ptr b 0,v',eK rfl,.inr rfl,cU.ext (by simp) λc ah _=>cX (by omega) rfl,mz,by simp;omega,Ff⟩,⟨⟨by simp;omega,λc ah mK=>cX mK ((dm.get c ah).trans (dy c mK))⟩,λd ai By lT=>?_⟩⟩
 · rcases cU with⟨rfl,_⟩|⟨c,r,rfl,_⟩
   · exact gR (intr:=ea) (n:=n+2) (args:=[.ptr b 0,.str s]) Tryz.func44 (QL (Y (n+2)) b s v h ae I _ aM (aF ak rfl) cu (eV av rfl rfl)) (.inl rfl) (by kernel_rfl)
   · exact gR (intr:=ea) (n:=n+2) (args:=[.ptr b 0,.str s]) Tryz.func44 (bws (Y (n+2)) b c _ s v h ae I _ aM (aF ak rfl) cu (eV av rfl rfl)) (.inl rfl) (by kernel_rfl)
 · refine cX By ((XM cu (by omega) ?_).trans (dy d By))
   rintro o l c rfl
   rcases Fc with⟨aa,_⟩|⟨c',rest,aa,ah,_⟩
   · cases aa
   · cases aa
     exact lT _ _ _ ah
theorem QR(n b B:Nat)(h:ab)(w:List UInt8)(ag:lk B b h w)(aA:w.length<=1000000000):∃aw,Y (n+1) (.fn 47) [.ptr b 0] h=.ret (.str w) aw/\Ext B h aw:=by
 obtain⟨a,v,g,aV,aI,mz,aH,sQ⟩:=ag
 rcases aI with⟨rfl,rfl⟩|⟨c,rest,rfl,ah,uG,sZ⟩
 · have ku:ri an (ab.room h 12) 118 ad.aX (J 0)=some (.str [],ab.room h 12):=by kernel_rfl
   exact⟨_,gR (intr:=ea) (n:=n) (args:=[.ptr b 0]) Tryz.func47 (QN (Y n) b h [] _ (aF (h:=h.room 12) g rfl) ku) (.inl rfl) (by kernel_rfl),Ext.room _ _ _⟩
 · by_cases hw:w=[]
   · exact absurd (sQ hw) (by simp)
   · have dr:w.length≠0:=by cases w<;>simp at hw⊢
     have fv:jH an Builtin.unsafeSliceData (Array.mk [27]) [ad.slice c 0 w.length (ct.aL 1)] (ab.room h 12)=ia.val (ad.ptr c 0) (ab.room h 12):=by
      simp only[jH]
      exact if_neg dr
     have ku:=OA (P:=an) (h:=h.room 12) (pT:=118) (u:=5) (c:=c) (e:=5) (w:=w) (rest:=rest) hw (by omega) (by kernel_rfl) (by kernel_rfl) (by kernel_rfl) ah
     exact⟨_,gR (intr:=ea) (n:=n) (args:=[.ptr b 0]) Tryz.func47 (QM (Y n) b c w.length h w _ (aF (h:=h.room 12) g rfl) fv ku) (.inl rfl) (by kernel_rfl),
      (Ext.room B h 12).trans (Nat.le_refl _) (Ext.set (by omega) _)⟩
abbrev qW(b:Nat):List ad:=[.ptr b 0,.ptr (b+2) 0,.ptr (b+3) 0,.ptr (b+1) 0]
structure gS(b:Nat)(h0 x:ab)(w:bb):Prop where
 Fg:lk (b+4) b x w
 one:x.get (b+1)=some (aQ [.fn 97 [] (qW b)] 133)
 zc:x.get (b+2)=some (aQ [.fn 95 [] [.ptr b 0,.ptr (b+1) 0]] 135)
 qE:x.get (b+3)=some (aQ [.fn 96 [] []] 134)
 ext:Ext b h0 x
abbrev jr(b:Nat)(x y:ab):Prop:=o3 5 b (b+4) x y
theorem gS.n{b:Nat}{h0 x:ab}{w:bb}(ag:gS b h0 x w):b+4<=x.n:=by obtain⟨_,_,_,_,_,_,h,_⟩:=ag.Fg;exact h
theorem gS.QS{b:Nat}{h0 x y:ab}{w w':bb}(ag:gS b h0 x w)(aZ:lk (b+4) b y w')(k:jr b x y):gS b h0 y w':=
 ⟨aZ,(k.x.get _ (by omega) (by omega)).trans ag.one,(k.x.get _ (by omega) (by omega)).trans ag.zc,(k.x.get _ (by omega) (by omega)).trans ag.qE,
  ag.ext.trans (Nat.le_refl _) ⟨k.x.n,λd ai=>k.x.get d (by omega) (by omega)⟩⟩
theorem gS.mA{b:Nat}{h0 x y:ab}{w:bb}(ag:gS b h0 x w)(e:Ext x.n x y):gS b h0 y w/\jr b x y:=by
 have aH:=ag.n
 have ay:jr b x y:=o3.ext e aH
 refine⟨ag.QS ?_ ay,ay⟩
 obtain⟨a,v,I,ae,ax,aN,bS,cz⟩:=ag.Fg
 exact⟨a,v,(e.get b (by omega)).trans I,ae,ax.ext e.n λc _ ah=>e.get c ah,aN,Nat.le_trans bS e.n,cz⟩
theorem gS.ws{b:Nat}{h0 x:ab}{w:bb}(n:Nat)(s:bb)(ag:gS b h0 x w)(aA:w.length+s.length<=1000000000):∃y,Y (n+3) (.fn 44) [.ptr b 0,.str s] x=.ret (.aR [J s.length,.fU]) y/\gS b h0 y (w++s)/\jr b x y:=by
 obtain⟨y,c,aZ,k⟩:=Fb n b (b+4) x w s ag.Fg aA
 exact⟨y,c,ag.QS aZ k,k⟩
theorem jr.own{b d:Nat}{x y:ab}{cs:List ad}{e:Nat}(k:jr b x y)(ai:d<x.n)(ag:d≠b)(ar:x.get d=some (aQ cs e)):d<y.n/\y.get d=some (aQ cs e):=
 ⟨Nat.lt_of_lt_of_le ai k.x.n,(k.k d ai ag (by rw[ar];intro cs lo up h;cases h)).trans ar⟩
theorem JA(m:Nat){b:Nat}{h0:ab}{v:ad}{vs:List ad}(sep:bb)(g7 fz:Nat)(kW kX:List ad)(A W Z:Nat->bb)(items:List bb)(K:ab->Prop)(dg:∀x y,K x->jr b x y->K y)(aI:c5 b h0 v vs)(hlen:vs.length<=90000)(lh:items.length=vs.length)(uS:∀i (hi:i<items.length),items[i]=A i++W i++Z i)
  (lz:∀i x w,i<vs.length->gS b h0 x w->K x->Y (m+3) (.fn g7) (J i::kW) x=.ret (.str (A i)) x)
  (km:∀i x w,i<vs.length->gS b h0 x w->K x->Y (m+3) (.fn fz) (J i::kX) x=.ret (.str (Z i)) x)
  (wb:∀i (hi:i<vs.length) x w,gS b h0 x w->K x->w.length+(W i).length<=1000000->∃y,Y (m+3) (.fn 97) (vs[i]::qW b) x=.ret (.aR []) y/\gS b h0 y (w++W i)/\jr b x y)
  {x:ab}{w:bb}(aa:gS b h0 x w)(E0:K x)(aA:w.length+(eR sep items).length<=1000000):
  ∃y,Y (m+4) (.fn 95) [v,.str sep,.fn g7 [] kW,.fn fz [] kX,.ptr b 0,.ptr (b+1) 0] x=.ret (.aR []) y/\gS b h0 y (w++eR sep items)/\jr b x y:=by
 have mN:∀g,Ext b h0 g->bV an g 50 v=some (J vs.length):=λg x=>(aI.bB (hk.ext x (Nat.le_refl _))).len (t:=50) (e:=35) (by kernel_rfl)
 refine ac0 (m+3) v sep g7 fz b (b+1) kW kX x (R:=λr=>∃y,r=.ret (.aR []) y/\gS b h0 y (w++eR sep items)/\jr b x y) ⟨vs.length,mN x aa.ext,?_⟩
 refine e8 (λk st=>∃i y Γ,st=aks Γ y/\bY [(1,.str sep),(2,.fn g7 [] kW),(3,.fn fz [] kX),(4,.ptr b 0),(5,.ptr (b+1) 0),(12,v),(13,J vs.length),(14,J i)] Γ/\vs.length-i=k/\i<=vs.length/\gS b h0 y (w++eR sep (items.take i))/\jr b x y/\K y) ?_ vs.length _ (by omega) ⟨0,x,_,rfl,⟨rfl,rfl,rfl,rfl,rfl,rfl,rfl,rfl,trivial⟩,by omega,by omega,by simpa[eR] using aa,o3.refl _ _ _ _,E0⟩
 rintro k st ⟨i,y,Γ,rfl,cn,ay,hi,aZ,hw,r8⟩
 by_cases I:i<vs.length
 · have ae:i<items.length:=by omega
   rcases aI with⟨rfl,rfl⟩|⟨gz,off,cp,rfl,ag,gf,a0,ai⟩
   · simp at I
   have t1:=BC sep items (i+1)
   have t2:=w2 sep items ae
   have QT:=uS i ae
   have item:∀y df,gS b h0 y df->K y->df.length+(items[i]).length<=1000000->∃a av,Y (m+3) (.fn g7) (J i::kW) y=.ret (.str a) av/\∃b0 aD,Y (m+3) (.fn 44) [.ptr b 0,.str a] av=.ret (.aR [J b0,.fU]) aD/\aq aD (b+1) 0=some (.fn 97 [] (qW b))/\∃a4,Y (m+3) (.fn 97) (vs[i]::qW b) aD=.ret (.aR []) a4/\∃z bk,Y (m+3) (.fn fz) (J i::kX) a4=.ret (.str z) bk/\∃dF cQ,Y (m+3) (.fn 44) [.ptr b 0,.str z] bk=.ret (.aR [J dF,.fU]) cQ/\gS b h0 cQ (df++items[i])/\jr b y cQ:=by
    intro y df QU JB iq
    rw[QT] at iq
    simp only[List.length_append] at iq
    obtain⟨aD,ee,c9,dF⟩:=QU.ws m (A i) (by omega)
    obtain⟨a4,fQ,fS,gA⟩:=wb i I aD _ c9 (dg _ _ JB dF) (by simp;omega)
    have ac9:=dg _ _ (dg _ _ JB dF) gA
    obtain⟨cQ,BW,kf,jM⟩:=fS.ws m (Z i) (by simp;omega)
    refine⟨A i,y,lz i y _ I QU JB,_,aD,ee,aF c9.one rfl,a4,fQ,Z i,a4,km i a4 _ I fS ac9,_,cQ,BW,?_,(dF.trans gA).trans jM⟩
    rw[QT]
    simpa only[List.append_assoc] using kf
   have dI:∀cQ,gS b h0 cQ (w++eR sep (items.take (i+1)))->jr b y cQ->(er (λs=>∃j,j<k/\(λk st=>∃i y Γ,st=aks Γ y/\bY [(1,.str sep),(2,.fn g7 [] kW),(3,.fn fz [] kX),(4,.ptr b 0),(5,.ptr (b+1) 0),(12,.slice gz off vs.length cp),(13,J vs.length),(14,J i)] Γ/\vs.length-i=k/\i<=vs.length/\gS b h0 y (w++eR sep (items.take i))/\jr b x y/\K y) j s) (λb2 cc=>∃(g:ab) (cD:Env),b2=.exit 0/\cc=aks cD g/\bY [] cD/\∃y,bE.ret (.aR []) g=.ret (.aR []) y/\gS b h0 y (w++eR sep items)/\jr b x y)) .nrm ⟨[(1,.str sep),(2,.fn g7 [] kW),(3,.fn fz [] kX),(4,.ptr b 0),(5,.ptr (b+1) 0),(12,.slice gz off vs.length cp),(13,J vs.length),(14,J (i+1))],[],.none,cQ⟩:=λcQ kf jM=>
    ⟨_,(by show vs.length-(i+1)<k;omega),i+1,cQ,_,rfl,⟨rfl,rfl,rfl,rfl,rfl,rfl,rfl,rfl,trivial⟩,rfl,by omega,kf,hw.trans jM,dg _ _ r8 jM⟩
   refine ei (ac1 (Y (m+3)) sep g7 fz b (b+1) gz off _ i 97 cp kW kX (qW b) y ⟨λ_=>⟨I,_,iD aZ.ext ag (gf i I),λAD=>?_,λAD=>?_⟩,λau=>absurd I au⟩) cn
   · rw[if_pos AD] at t2
     rw[t2] at t1
     simp only[List.length_append] at t1
     obtain⟨ak,aM,bn,bG⟩:=aZ.ws m sep (by simp;omega)
     obtain⟨a,av,bf,b0,aD,ee,fQ,a4,ox,z,bk,BW,dF,cQ,JC,kf,bq⟩:=item ak _ bn (dg _ _ r8 bG) (by simp;omega)
     exact⟨_,_,ak,aM,a,av,bf,b0,_,aD,ee,fQ,a4,ox,z,bk,BW,dF,_,cQ,JC,by omega,dI cQ (by rw[t2];simpa only[List.append_assoc] using kf) (bG.trans bq)⟩
   · rw[if_neg AD] at t2
     rw[t2] at t1
     have c6:items.take i=[]:=by rw[show i=0 by omega];rfl
     rw[c6] at aZ
     obtain⟨a,av,bf,b0,aD,ee,fQ,a4,ox,z,bk,BW,dF,cQ,JC,kf,bq⟩:=item y _ aZ r8 (by simp[eR];omega)
     exact⟨a,av,bf,b0,_,aD,ee,fQ,a4,ox,z,bk,BW,dF,_,cQ,JC,by omega,dI cQ (by rw[t2];simpa[eR] using kf) bq⟩
 · refine ei (ac2 (Y (m+3)) sep g7 fz b (b+1) vs.length i kW kX v y ⟨I,y,_,rfl,rfl,trivial,y,rfl,?_,hw⟩) cn
   rw[List.take_of_length_le (by omega)] at aZ
   exact aZ
theorem ac_{k:Nat}(I:1<=k)(bS:k<=5):kp an 9 [.str [],.str [97,110,121],.str [105,110,116],.str [98,111,111,108],.str [115,116,114],.str [110,105,108]] (k*1)=some (.str (word k)):=by
 have:k=1\/k=2\/k=3\/k=4\/k=5:=by omega
 rcases this with rfl|rfl|rfl|rfl|rfl<;>rfl
theorem QV{a b c:bb}:(a++b++c).length=a.length+b.length+c.length:=by simp;omega
theorem QW:∀(K:Nat) (t:aJ),sz t<=K->eW t=true->sz t<=100->∀(m b:Nat) (h0:ab) (v:ad),2*sz t+6<=m->dP b h0 t v->∀(x:ab) (w:bb),gS b h0 x w->w.length+(wr t).length<=1000000->∃y,Y m (.fn 97) (v::qW b) x=.ret (.aR []) y/\gS b h0 y (w++wr t)/\jr b x y
 |0,t,dg,_,_,_,_,_,_,_,_,_,_,_,_=>by
  have:=p0 t
  omega
 |K+1,.mk k nm ns xs rt,dg,xe,hz,m,b,h0,v,hm,aI,x,w,aa,aA=>by
  obtain⟨R,bA,aU,cY,vs,bq,lo,up,rfl,ae,ax,aN,bS,cz,dw⟩:=aI
  have di:=BF _ xe
  rw[QH] at xe
  simp only[Bool.and_eq_true,decide_eq_true_eq] at xe
  obtain⟨⟨bG,kk⟩,hV,j8,ou⟩:=xe
  rw[okW] at di
  simp only[Bool.and_eq_true,Bool.or_eq_true,decide_eq_true_eq] at di
  obtain⟨⟨⟨⟨⟨_,_⟩,qT⟩,th⟩,E0⟩,Jc⟩:=di
  rw[l3] at dg hz hm
  rw[uZ] at aA
  obtain⟨m,rfl⟩:∃j,m=j+5:=⟨m-5,by omega⟩
  have fH:=dZ.len cz
  have ks:=mo xs
  have mL:=yT xs
  have je:∀i (i2:i<xs.length),eW xs[i]=true:=λi i2=>BE j8 (List.getElem_mem i2)
  have bl:∀(u:aJ),sz u<=K->eW u=true->sz u<=100->∀(m b:Nat) (h0:ab) (v:ad),2*sz u+6<=m->dP b h0 u v->∀(x:ab) (w:bb),gS b h0 x w->w.length+(wr u).length<=1000000->∃y,Y m (.fn 97) (v::qW b) x=.ret (.aR []) y/\gS b h0 y (w++wr u)/\jr b x y:=QW K
  rw[uZ]
  obtain⟨H,cy⟩:∃H,H=x.push (aQ [.ptr R 0] 35):=⟨_,rfl⟩
  have dY:Ext x.n x H:=by rw[cy];exact Ext.push (Nat.le_refl _) _
  have lj:H.n=x.n+1:=by rw[cy];rfl
  have u_:H.get x.n=some (aQ [.ptr R 0] 35):=by rw[cy];exact e7 rfl
  obtain⟨cv,BX⟩:=aa.mA dY
  have oM:=aa.n
  have qX:∀y s,gS b h0 y s->y.get R=some (.cells [J k,.str nm,bA,aU,cY] 80 bq lo up):=λy s aZ=>(aZ.ext.get R ae).trans ax
  have va:∀y,jr b H y->y.get x.n=some (aQ [.ptr R 0] 35):=λy k=>(k.own (by omega) (by omega) u_).2
  have Fh:∀n y s,gS b h0 y s->gS b h0 (y.room n) s/\jr b y (y.room n):=λn y s aZ=>aZ.mA (Ext.room _ y n)
  have item:∀i (hi:i<vs.length) y s,gS b h0 y s->s.length+(wn (cM xs) i).length<=1000000->∃z,Y (m+3) (.fn 97) (vs[i]::qW b) y=.ret (.aR []) z/\gS b h0 z (s++wn (cM xs) i)/\jr b y z:=λi hi y s aZ aA=>by
   have i2:i<xs.length:=by omega
   have a7:=p1 (List.getElem_mem i2)
   rw[show wn (cM xs) i=wr xs[i] by simp[wn,mL,i2,yU xs i i2]] at aA⊢
   exact bl xs[i] (by omega) (je i i2) (by omega) (m+3) b h0 vs[i] (by omega) (dZ.get cz i hi i2) y s aZ aA
  refine ac5 (m+4) b (b+2) (b+3) (b+1) R k nm aU cY x (R:=λr=>∃y,r=.ret (.aR []) y/\gS b h0 y (w++ir.shape k nm ns (xs.map aJ.k) (cM xs) (mq rt))/\jr b x y) ?_
  rw[<-cy]
  refine⟨aF u_ rfl,aF (qX H _ cv) rfl,λhd=>?_,λhd=>⟨λhA=>?_,λhA=>⟨λic=>?_,λic=>⟨λhN=>?_,λhN=>?_⟩⟩⟩⟩
  · subst hd
    have:(nm:bb).length<=161:=by
     have:ny nm=true:=by simpa[fK] using ou
     unfold ny at this
     simp only[Bool.and_eq_true,decide_eq_true_eq] at this
     exact this.1.2
    obtain⟨y,c,JD,k⟩:=cv.ws (m+1) nm (by omega)
    exact⟨aF u_ rfl,aF (qX H _ cv) rfl,_,_,y,c,y,rfl,JD,BX.trans k⟩
  · subst hA
    have mm:xs.length=ns.length:=by rcases qT with qT|qT;exact absurd rfl qT;exact qT
    have al:ir.shape 7 nm ns (xs.map aJ.k) (cM xs) (mq rt)=[123]++eR [44,32] (h7 ns (cM xs))++[125]:=rfl
    rw[al] at aA⊢
    rw[QV] at aA
    simp only[List.length_cons,List.length_nil] at aA
    have lh:(h7 ns (cM xs)).length=vs.length:=by unfold h7;rw[List.length_zipWith];omega
    obtain⟨ak,aM,bn,bG⟩:=cv.ws (m+1) [123] (by simp;omega)
    obtain⟨jj,zd⟩:=Fh 8 ak _ bn
    have xf:=bG.trans zd
    obtain⟨av,bf,bo,b0⟩:=JA m (v:=aU) (vs:=vs) [44,32] 98 96 [.ptr x.n 0] [] (λi=>wn ns i++[58,32]) (wn (cM xs)) (λ_=>[]) (h7 ns (cM xs)) (λy=>jr b H y) (λ_ _ k cO=>k.trans cO) bS (by omega) lh (λi hi=>by
      have i1:i<ns.length:=by omega
      have i2:i<(cM xs).length:=by omega
      rw[Jb hi i1 i2];simp[wn,i1,i2]) (λi y s hi aZ ay=>by
      have i1:i<ns.length:=by omega
      rcases aN.strs with⟨_,rfl⟩|⟨nb,off,cp,rfl,ag,gf⟩
      · simp at i1
      refine ac3 (m+2) i x.n y (R:=λr=>r=_) ⟨R,aF (va y ay) rfl,nb,off,_,cp,aF (qX y s aZ) rfl,i1,ns[i],iD aZ.ext ag (gf i i1),?_,?_⟩
      · have t2:=w3 [44,32] (h7 ns (cM xs)) (i:=i) (by omega)
        rw[Jb (by omega) i1 (by omega)] at t2
        simp at t2⊢;omega
      · simp[wn,i1])
     (λi y s hi aZ ay=>Jy (m+2) i y (R:=λr=>r=_) rfl) (λi hi y s aZ ay aA=>item i hi y s aZ aA) jj xf (by simp;omega)
    obtain⟨aD,ee,c9,dF⟩:=bo.ws (m+1) [125] (by simp;omega)
    refine⟨_,_,ak,aM,aF jj.zc rfl,aF (va _ xf) rfl,aF (qX _ _ jj) rfl,aF jj.qE rfl,av,bf,bS.snd,_,_,aD,ee,aD,rfl,by simpa only[List.append_assoc] using c9,BX.trans (xf.trans (b0.trans dF))⟩
  · subst ic
    have al:ir.shape 8 nm ns (xs.map aJ.k) (cM xs) (mq rt)=[102,110,40]++eR [44,32] (cM xs)++[41,32,45,62,32]++mq rt:=rfl
    rw[al] at aA⊢
    rw[List.length_append,QV] at aA
    simp only[List.length_cons,List.length_nil] at aA
    obtain⟨ak,aM,bn,bG⟩:=cv.ws (m+1) [102,110,40] (by simp;omega)
    obtain⟨jj,zd⟩:=Fh 8 ak _ bn
    have xf:=bG.trans zd
    obtain⟨av,bf,bo,b0⟩:=JA m (v:=aU) (vs:=vs) [44,32] 96 96 [] [] (λ_=>[]) (wn (cM xs)) (λ_=>[]) (cM xs) (λy=>jr b H y) (λ_ _ k cO=>k.trans cO) bS (by omega) (by omega) (λi hi=>by simp[wn,hi]) (λi y s hi aZ ay=>Jy (m+2) i y (R:=λr=>r=_) rfl)
     (λi y s hi aZ ay=>Jy (m+2) i y (R:=λr=>r=_) rfl) (λi hi y s aZ ay aA=>item i hi y s aZ aA) jj xf (by simp;omega)
    obtain⟨aD,ee,c9,dF⟩:=bo.ws (m+1) [41,32,45,62,32] (by simp;omega)
    obtain⟨JE,ada⟩:=Fh 6 aD _ c9
    have BY:=xf.trans (b0.trans (dF.trans ada))
    cases rt with
    |none=>rcases th with th|th<;>simp at th
    |some u=>
     rw[jk] at dg hz hm
     have E3:mq (some u)=wr u:=by rw[mq]
     rw[E3] at aA⊢
     have adb:eW u=true:=by simpa[fK,jV] using ou
     obtain⟨a4,fQ,fS,gA⟩:=bl u (by omega) adb (by omega) (m+4) b h0 cY (by omega) dw (aD.room 6) _ JE (by simp;omega)
     exact⟨_,_,ak,aM,aF jj.zc rfl,aF (va _ xf) rfl,aF (qX _ _ jj) rfl,aF jj.qE rfl,aF jj.qE rfl,av,bf,bS.snd,_,_,aD,ee,aF JE.one rfl,aF (va _ BY) rfl,aF (qX _ _ JE) rfl,a4,fQ,d_.snd (ot:=some u) dw,a4,rfl,by simpa only[List.append_assoc] using fS,BX.trans (BY.trans gA)⟩
  · subst hN
    have al:ir.shape 9 nm ns (xs.map aJ.k) (cM xs) (mq rt)=eR [32,124,32] (iU (xs.map aJ.k) (cM xs)):=rfl
    rw[al] at aA⊢
    have lh:(iU (xs.map aJ.k) (cM xs)).length=vs.length:=by unfold iU;rw[List.length_zipWith,List.length_map];omega
    obtain⟨jj,zd⟩:=Fh 10 H _ cv
    obtain⟨ak,eP⟩:∃g,g=(H.room 10).push (aQ [.str [40]] 9):=⟨_,rfl⟩
    obtain⟨av,rZ⟩:∃g,g=ak.push (aQ [.str [41]] 9):=⟨_,rfl⟩
    have aB:ak.n=(H.room 10).n+1:=by rw[eP];rfl
    have aY:av.n=ak.n+1:=by rw[rZ];rfl
    have bF:Ext (H.room 10).n (H.room 10) ak:=by rw[eP];exact Ext.push (Nat.le_refl _) _
    have cJ:Ext ak.n ak av:=by rw[rZ];exact Ext.push (Nat.le_refl _) _
    obtain⟨bn,bG⟩:=jj.mA bF
    obtain⟨bo,b0⟩:=bn.mA cJ
    have a8:av.get (H.room 10).n=some (aQ [.str [40]] 9):=(cJ.get _ (by omega)).trans (by rw[eP];exact e7 rfl)
    have a2:av.get ak.n=some (aQ [.str [41]] 9):=by rw[rZ];exact e7 rfl
    have xg:=jj.n
    have QX:=zd.trans bG
    have JF:=QX.trans b0
    have BO:∀i (hi:i<vs.length),∃M,vs[i]=.ptr M 0/\∀y,Ext b h0 y->aq y M (0+0)=some (J ((xs.map aJ.k)[i]?.getD 0)):=λi hi=>by
     have i2:i<xs.length:=by omega
     obtain⟨M,gB,tg⟩:=(dZ.get cz i hi i2).kind
     exact⟨M,gB,λy e=>by rw[tg y e];simp[i2]⟩
    have lI:∀(q:Nat) (mk:bb),(∀y,jr b av y->y.get q=some (aQ [.str mk] 9))->∀i y s,i<vs.length->gS b h0 y s->jr b av y->Y (m+3) (.fn 100) [J i,.ptr x.n 0,.ptr q 0] y=.ret (.str (if(xs.map aJ.k)[i]?.getD 0=8 then mk else[])) y:=λq mk aK i y s hi aZ ay=>by
     obtain⟨M,gB,tg⟩:=BO i hi
     rcases bS with⟨_,rfl⟩|⟨gz,off,cp,rfl,ag,gf,_⟩
     · simp at hi
     have aG:=gf i hi
     rw[gB] at aG
     refine ac4 (m+2) i x.n q y (R:=λr=>r=_) ⟨R,aF (va y (JF.trans ay)) rfl,gz,off,_,cp,aF (qX y s aZ) rfl,hi,M,iD aZ.ext ag aG,_,tg y aZ.ext,λe=>⟨mk,aF (aK y ay) rfl,by rw[if_pos e]⟩,λe=>by rw[if_neg e]⟩
    obtain⟨aD,ee,c9,dF⟩:=JA m (v:=aU) (vs:=vs) [32,124,32] 100 100 [.ptr x.n 0,.ptr (H.room 10).n 0] [.ptr x.n 0,.ptr ak.n 0] (λi=>if(xs.map aJ.k)[i]?.getD 0=8 then[40] else[]) (wn (cM xs)) (λi=>if(xs.map aJ.k)[i]?.getD 0=8 then[41] else[]) (iU (xs.map aJ.k) (cM xs)) (λy=>jr b av y) (λ_ _ k cO=>k.trans cO) bS (by omega) lh (λi hi=>by
      have i1:i<(xs.map aJ.k).length:=by rw[List.length_map];omega
      have i2:i<(cM xs).length:=by omega
      rw[Qb hi i1 i2,show(xs.map aJ.k)[i]?.getD 0=(xs.map aJ.k)[i] by rw[List.getElem?_eq_getElem i1];rfl,show wn (cM xs) i=(cM xs)[i] by simp[wn,i2]]
      split<;>simp)
     (lI _ [40] (λy k=>(k.own (by omega) (by omega) a8).2)) (lI _ [41] (λy k=>(k.own (by omega) (by omega) a2).2)) (λi hi y s aZ ay aA=>item i hi y s aZ aA) bo (o3.refl _ _ _ _) (by omega)
    refine⟨aF jj.zc rfl,aF (va _ zd) rfl,aF (qX _ _ jj) rfl,_,ak,QO (m+3) [40] x.n (H.room 10) (R:=λr=>r=_) (by rw[<-eP]),_,av,QO (m+3) [41] x.n ak (R:=λr=>r=_) (by rw[<-rZ]),aD,ee,aF bo.zc rfl,aF bn.zc rfl,aF (va _ JF) rfl,aF (va _ QX) rfl,bS.snd,aF (qX _ _ bo) rfl,aF (qX _ _ bn) rfl,aD,rfl,c9,BX.trans (JF.trans dF)⟩
  · have al:ir.shape k nm ns (xs.map aJ.k) (cM xs) (mq rt)=word k:=by
      unfold ir.shape
      rw[if_neg hd,if_neg hA,if_neg ic,if_neg hN]
    rw[al] at aA⊢
    obtain⟨y,c,JD,r8⟩:=cv.ws (m+1) (word k) (by omega)
    exact⟨aF u_ rfl,aF (qX H _ cv) rfl,word k,⟨by omega,ac_ bG (by omega)⟩,_,_,y,c,y,rfl,JD,BX.trans r8⟩
theorem ade:QI:=λu xe hz m B h v hm dd aI=>by
 obtain⟨m,rfl⟩:∃j,m=j+2:=⟨m-2,by omega⟩
 have mL:=yV u xe
 obtain⟨R,rfl⟩:∃R,v=.ptr R 0:=by
  cases u with
  |mk bG b0 dF gA hg=>obtain⟨R,_,_,_,_,_,_,_,rfl,_⟩:=aI;exact⟨R,rfl⟩
 refine ac6 (m+1) R h ?_
 obtain⟨cT,pb⟩:∃p,p=h.push (aQ [.aX,.aP] 92):=⟨_,rfl⟩
 obtain⟨dv,oq⟩:∃p,p=cT.push (aQ [.gW] 133):=⟨_,rfl⟩
 obtain⟨eY,ze⟩:∃p,p=dv.push (aQ [.gW] 135):=⟨_,rfl⟩
 rw[<-pb,<-oq,<-ze]
 have aB:cT.n=h.n+1:=by rw[pb];rfl
 have aY:dv.n=h.n+2:=by rw[oq];show cT.n+1=_;omega
 have bd:eY.n=h.n+3:=by rw[ze];show dv.n+1=_;omega
 rw[aB,aY]
 obtain⟨gq,Fi⟩:∃p,p=eY.set (h.n+2) (some (aQ [.fn 95 [] [.ptr h.n 0,.ptr (h.n+1) 0]] 135)):=⟨_,rfl⟩
 have bj:gq.n=h.n+3:=by rw[Fi];exact bd
 have st1:bg.storeCells eY (h.n+2) 0 [.fn 95 [] [.ptr h.n 0,.ptr (h.n+1) 0]]=some gq:=by
  rw[Fi];exact eV (cs:=[.gW]) (by rw[ze];exact e7 aY.symm) rfl rfl
 obtain⟨il,BZ⟩:∃p,p=gq.push (aQ [.gW] 134):=⟨_,rfl⟩
 obtain⟨lX,B0⟩:∃p,p=il.set (h.n+3) (some (aQ [.fn 96 [] []] 134)):=⟨_,rfl⟩
 have bP:lX.n=h.n+4:=by rw[B0];show il.n=_;rw[BZ];show gq.n+1=_;omega
 have k9:bg.storeCells il (h.n+3) 0 [.fn 96 [] []]=some lX:=by
  rw[B0];exact eV (cs:=[.gW]) (by rw[BZ];exact e7 bj.symm) rfl rfl
 have bk:∀d,d≠h.n+2->d<h.n+3->lX.get d=eY.get d:=λd I ae=>by
  rw[B0,ab.dx,if_neg (by omega),BZ,ab.hr,if_neg (by omega),Fi,ab.dx,if_neg I]
 have a2:eY.get (h.n+1)=some (aQ [.gW] 133):=by
  rw[ze,ab.hr,if_neg (by omega),oq];exact e7 aB.symm
 have a8:eY.get h.n=some (aQ [.aX,.aP] 92):=by
  rw[ze,ab.hr,if_neg (by omega),oq,ab.hr,if_neg (by omega),pb];exact e7 rfl
 obtain⟨np,vb⟩:∃p,p=lX.set (h.n+1) (some (aQ [.fn 97 [] (qW h.n)] 133)):=⟨_,rfl⟩
 have JG:bg.storeCells lX (h.n+1) 0 [.fn 97 [] (qW h.n)]=some np:=by
  rw[vb];exact eV (cs:=[.gW]) ((bk _ (by omega) (by omega)).trans a2) rfl rfl
 have cd:np.n=h.n+4:=by rw[vb];exact bP
 have hA:Ext h.n h np:=⟨by omega,λd ai=>by
  rw[vb,ab.dx,if_neg (by omega),bk d (by omega) (by omega),ze,ab.hr,if_neg (by omega),oq,ab.hr,if_neg (by omega),pb,ab.hr,if_neg (by omega)]⟩
 have box:gS h.n h np []:=by
  refine⟨⟨.aX,.aP,?_,.inl rfl,.inl ⟨rfl,rfl⟩,by omega,by omega,λ_=>rfl⟩,?_,?_,?_,hA⟩
  · rw[vb,ab.dx,if_neg (by omega),bk _ (by omega) (by omega)];exact a8
  · rw[vb];exact eK rfl
  · rw[vb,ab.dx,if_neg (by omega),B0,ab.dx,if_neg (by omega),BZ,ab.hr,if_neg (by omega),Fi];exact eK rfl
  · rw[vb,ab.dx,if_neg (by omega),B0];exact eK rfl
 obtain⟨y,aM,bn,bG⟩:=QW (sz u) u (Nat.le_refl _) xe hz (m+1) h.n h (.ptr R 0) (by omega) (dP.le dd _ _ aI) np [] box (by simp;omega)
 rw[List.nil_append] at bn
 obtain⟨z,bf,cJ⟩:=QR m h.n (h.n+4) y (wr u) bn.Fg (by omega)
 refine⟨gq,st1,lX,?_,np,?_,qW h.n,?_,y,aM,wr u,z,bf,dq.mk ⟨?_,λd ai=>?_⟩⟩
 · rw[bj,<-BZ];exact k9
 · rw[bj];exact JG
 · rw[vb];exact aF (eK rfl) rfl
 · have:=bG.x.n;have:=cJ.n;omega
 · rw[cJ.get d (by omega),bG.x.get d (by omega) (by omega),hA.get d (by omega)]
theorem adf{ot:Option aJ}{B:Nat}{h:ab}{v:ad}(m:Nat)(hz:dk ot<=90000)(aH:∀t,ot=some t->iE t<=90000)(hm:4*dk ot+20<=m)(dd:B<=h.n)(aI:d_ B h ot v):
  dq B h (J (dE ot)) (Y (m+1) (.fn 25) [v] h):=by
 cases ot with
 |none=>
  obtain rfl:v=.aX:=aI
  exact acB m h (dq.mk (Ext.refl _ _))
 |some t=>
  have bJ:dk (some t)=sz t:=jk t
  obtain⟨R,rfl⟩:∃R,v=.ptr R 0:=by
   cases t with
   |mk bG b0 dF gA hg=>obtain⟨R,_,_,_,_,_,_,_,rfl,_⟩:=aI;exact⟨R,rfl⟩
  obtain⟨m,rfl⟩:∃j,m=j+1:=⟨m-1,by omega⟩
  obtain⟨ak,aM,bF⟩:=Zn (m-1) hz dd aI (by omega)
  replace bF:=bF.le dd
  rw[show m-1+2=m+1 by omega] at aM
  rw[bJ] at aM hz hm
  refine acA (m+1) R h ⟨_,ak,aM,λp4=>?_,λp4=>?_⟩
  · exact dq.of (by rw[dE,if_pos (by omega)]) bF
  · obtain⟨av,bf,cJ⟩:=QJ ade (sz t) t (Nat.le_refl _) (by omega) (aH t rfl) (m+1) B ak (.ptr R 0) (by omega) (Nat.le_trans dd bF.n) (dP.bB (hk.ext bF (Nat.le_refl _)) _ _ aI)
    have p8:=bF.trans (Nat.le_refl _) cJ
    refine⟨_,av,bf,λag=>?_,λag=>?_⟩
    · have:eW t=true:=by simpa using ag
      exact dq.of (by rw[dE,if_neg (by omega),if_pos this]) p8
    · have:eW t=false:=by simpa using ag
      exact dq.of (by rw[dE,if_neg (by omega),if_neg (by rw[this];simp)]) p8
end Go.Proofs.kh
