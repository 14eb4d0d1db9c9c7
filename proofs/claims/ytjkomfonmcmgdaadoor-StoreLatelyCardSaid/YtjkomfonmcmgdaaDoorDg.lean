/-
  PROVED HERE: contracts of functions (Dg). No condition beside each statement's own.
-/
import Derived.Test.YtjkomfonmcmgdaaDoorDf
import Derived.Test.YtjkomfonmcmgdaaDoorTx
set_option linter.unusedVariables false
set_option linter.unusedSimpArgs false
set_option maxRecDepth 100000
set_option maxHeartbeats 1000000
namespace Go.Proofs.hK
open Go a8 Go.Proofs gp
theorem Tj(m r:Nat)(h:ab){R:a7->Prop}(H:∃aM:Nat,aB h r (0+0)=some (.int .i64 (.ofNat aM))/\∃s1:List UInt8,aB h r (0+1)=some (.str s1)/\(dv s1 []=true->∃v1:I,aB h r (0+2)=some v1/\∃bo:Nat,cr Tryd.prog h 40 v1=some (.int .i64 (.ofNat bo))/\(bo=0->∃v2:I,aB h r (0+3)=some v2/\∃bF:Nat,cr Tryd.prog h 41 v2=some (.int .i64 (.ofNat bF))/\(bF=0->∃b4:Nat,aB h r (0+4)=some (.ptr b4 0)/\R (.ret (.bool (hp true (cW (.ofNat aM) (.ofNat 8)))) h))/\(¬bF=0->(7<=aM->∃cy:Nat,aB h r (0+4)=some (.ptr cy 0)/\R (.ret (.bool (hp true (cW (.ofNat aM) (.ofNat 8)))) h))/\(¬7<=aM->R (.ret (.bool false) h))))/\(¬bo=0->(aM=7->∃eE:I,aB h r (0+3)=some eE/\∃cO:Nat,cr Tryd.prog h 41 eE=some (.int .i64 (.ofNat cO))/\(cO=0->∃di:Nat,aB h r (0+4)=some (.ptr di 0)/\R (.ret (.bool (hp true (cW (.ofNat aM) (.ofNat 8)))) h))/\(¬cO=0->(7<=aM->∃fu:Nat,aB h r (0+4)=some (.ptr fu 0)/\R (.ret (.bool (hp true (cW (.ofNat aM) (.ofNat 8)))) h))/\(¬7<=aM->R (.ret (.bool false) h))))/\(¬aM=7->R (.ret (.bool false) h))))/\(dv s1 []=false->(aM=6->∃v4:I,aB h r (0+2)=some v4/\∃gJ:Nat,cr Tryd.prog h 40 v4=some (.int .i64 (.ofNat gJ))/\(gJ=0->∃jc:I,aB h r (0+3)=some jc/\∃fT:Nat,cr Tryd.prog h 41 jc=some (.int .i64 (.ofNat fT))/\(fT=0->∃ib:Nat,aB h r (0+4)=some (.ptr ib 0)/\R (.ret (.bool (hp true (cW (.ofNat aM) (.ofNat 8)))) h))/\(¬fT=0->(7<=aM->∃iw:Nat,aB h r (0+4)=some (.ptr iw 0)/\R (.ret (.bool (hp true (cW (.ofNat aM) (.ofNat 8)))) h))/\(¬7<=aM->R (.ret (.bool false) h))))/\(¬gJ=0->(aM=7->∃v6:I,aB h r (0+3)=some v6/\∃o9:Nat,cr Tryd.prog h 41 v6=some (.int .i64 (.ofNat o9))/\(o9=0->∃zH:Nat,aB h r (0+4)=some (.ptr zH 0)/\R (.ret (.bool (hp true (cW (.ofNat aM) (.ofNat 8)))) h))/\(¬o9=0->(7<=aM->∃zI:Nat,aB h r (0+4)=some (.ptr zI 0)/\R (.ret (.bool (hp true (cW (.ofNat aM) (.ofNat 8)))) h))/\(¬7<=aM->R (.ret (.bool false) h))))/\(¬aM=7->R (.ret (.bool false) h))))/\(¬aM=6->R (.ret (.bool false) h)))):
  R (Y (m+1) (.fn 34) [.ptr r 0] h):=
 dq (intr:=b5) [] [(0,.v (.ptr r 0))] Tryd.func34 (by kernel_rfl) (by kernel_rfl) (by kernel_rfl) rfl (Eq.mp (by kernel_rfl) H)
theorem Tk(m r:Nat)(h:ab){R:a7->Prop}(H:∃aM:Nat,aB h r (0+0)=some (.int .i64 (.ofNat aM))/\∃s1:List UInt8,aB h r (0+1)=some (.str s1)/\(dv s1 []=true->∃v1:I,aB h r (0+2)=some v1/\∃bo:Nat,cr Tryd.prog h 40 v1=some (.int .i64 (.ofNat bo))/\(bo=0->∃v2:I,aB h r (0+3)=some v2/\∃bF:Nat,cr Tryd.prog h 41 v2=some (.int .i64 (.ofNat bF))/\(bF=0->aB h r (0+4)=some .br/\R (.ret (.bool (hp false (cW (.ofNat aM) (.ofNat 8)))) h))/\(¬bF=0->(7<=aM->aB h r (0+4)=some .br/\R (.ret (.bool (hp false (cW (.ofNat aM) (.ofNat 8)))) h))/\(¬7<=aM->R (.ret (.bool false) h))))/\(¬bo=0->(aM=7->∃eE:I,aB h r (0+3)=some eE/\∃b4:Nat,cr Tryd.prog h 41 eE=some (.int .i64 (.ofNat b4))/\(b4=0->aB h r (0+4)=some .br/\R (.ret (.bool (hp false (cW (.ofNat aM) (.ofNat 8)))) h))/\(¬b4=0->(7<=aM->aB h r (0+4)=some .br/\R (.ret (.bool (hp false (cW (.ofNat aM) (.ofNat 8)))) h))/\(¬7<=aM->R (.ret (.bool false) h))))/\(¬aM=7->R (.ret (.bool false) h))))/\(dv s1 []=false->(aM=6->∃v4:I,aB h r (0+2)=some v4/\∃cy:Nat,cr Tryd.prog h 40 v4=some (.int .i64 (.ofNat cy))/\(cy=0->∃jc:I,aB h r (0+3)=some jc/\∃cO:Nat,cr Tryd.prog h 41 jc=some (.int .i64 (.ofNat cO))/\(cO=0->aB h r (0+4)=some .br/\R (.ret (.bool (hp false (cW (.ofNat aM) (.ofNat 8)))) h))/\(¬cO=0->(7<=aM->aB h r (0+4)=some .br/\R (.ret (.bool (hp false (cW (.ofNat aM) (.ofNat 8)))) h))/\(¬7<=aM->R (.ret (.bool false) h))))/\(¬cy=0->(aM=7->∃v6:I,aB h r (0+3)=some v6/\∃di:Nat,cr Tryd.prog h 41 v6=some (.int .i64 (.ofNat di))/\(di=0->aB h r (0+4)=some .br/\R (.ret (.bool (hp false (cW (.ofNat aM) (.ofNat 8)))) h))/\(¬di=0->(7<=aM->aB h r (0+4)=some .br/\R (.ret (.bool (hp false (cW (.ofNat aM) (.ofNat 8)))) h))/\(¬7<=aM->R (.ret (.bool false) h))))/\(¬aM=7->R (.ret (.bool false) h))))/\(¬aM=6->R (.ret (.bool false) h)))):
  R (Y (m+1) (.fn 34) [.ptr r 0] h):=
 dq (intr:=b5) [(45,.a9 (.is .br))] [(0,.v (.ptr r 0))] Tryd.func34 (by kernel_rfl) (by kernel_rfl) (by kernel_rfl) rfl (Eq.mp (by kernel_rfl) H)
theorem Tl(m r:Nat)(h:ab){R:a7->Prop}(H:∃aM:Nat,aB h r (0+0)=some (.int .i64 (.ofNat aM))/\(aM<1->R (.ret (.bool false) h))/\(¬aM<1->∃bo:Nat,aB h r (0+0)=some (.int .i64 (.ofNat bo))/\(9<bo->R (.ret (.bool false) h))/\(¬9<bo->∃bn:Bool,∃al:ab,(Y m) (.fn 34) [.ptr r 0] h=.ret (.bool bn) al/\(bn=true->∃v1:I,aB al r (0+3)=some v1/\∃cJ:Bool,∃aA:ab,(Y m) (.fn 36) [v1,.fn 35 [] []] al=.ret (.bool cJ) aA/\(cJ=true->R (.ret (.bool false) aA))/\(cJ=false->∃bF:Nat,aB aA r (0+0)=some (.int .i64 (.ofNat bF))/\(bF=6->∃s1:List UInt8,aB aA r (0+1)=some (.str s1)/\∃dr:Bool,∃aU:ab,(Y m) (.fn 37) [.str s1,.str [45,47,46],.int .i64 (.ofNat 161)] aA=.ret (.bool dr) aU/\R (.ret (.bool dr) aU))/\(¬bF=6->(bF=7->∃v2:I,aB (aA.room 27) r (0+2)=some v2/\∃b4:Nat,cr Tryd.prog (aA.room 27) 40 v2=some (.int .i64 (.ofNat b4))/\∃eE:I,aB (aA.room 27) r (0+3)=some eE/\∃cy:Nat,cr Tryd.prog (aA.room 27) 41 eE=some (.int .i64 (.ofNat cy))/\(b4=cy->∃v4:I,aB (aA.room 27) r (0+2)=some v4/\∃gG:Bool,∃bB:ab,(Y m) (.fn 38) [v4,.fn 39 [] []] (aA.room 27)=.ret (.bool gG) bB/\(gG=true->I.sound v2=true/\I.sound eE=true/\I.sound v4=true/\R (.ret (.bool false) bB))/\(gG=false->∃jc:I,aB bB r (0+2)=some jc/\∃qk:Bool,∃bO:ab,(Y m) (.fn 41) [jc,.fn 42 [] []] bB=.ret (.bool qk) bO/\I.sound v2=true/\I.sound eE=true/\I.sound v4=true/\I.sound jc=true/\R (.ret (.bool qk) bO)))/\(¬b4=cy->I.sound v2=true/\I.sound eE=true/\R (.ret (.bool false) (aA.room 27))))/\(¬bF=7->(bF=8->∃v6:I,aB aA r (0+4)=some v6/\∃mf:Bool,∃dK:ab,(Y m) (.fn 24) [v6] aA=.ret (.bool mf) dK/\R (.ret (.bool mf) dK))/\(¬bF=8->(bF=9->∃n7:I,aB aA r (0+3)=some n7/\∃cO:Nat,cr Tryd.prog aA 41 n7=some (.int .i64 (.ofNat cO))/\(2<=cO->∃o_:I,aB aA r (0+3)=some o_/\∃DG:Bool,∃fq:ab,(Y m) (.fn 36) [o_,.fn 43 [] []] aA=.ret (.bool DG) fq/\(DG=true->R (.ret (.bool false) fq))/\(DG=false->∃Jo:I,aB fq r (0+3)=some Jo/\∃Jp:Bool,∃gT:ab,(Y m) (.fn 44) [Jo,.fn 45 [] []] fq=.ret (.bool Jp) gT/\R (.ret (.bool Jp) gT)))/\(¬2<=cO->R (.ret (.bool false) aA)))/\(¬bF=9->R (.ret (.bool true) aA)))))))/\(bn=false->R (.ret (.bool false) al))))):
  R (Y (m+1) (.fn 24) [.ptr r 0] h):=
 dq (intr:=b5) [(76,.a9 .o)] [(0,.v (.ptr r 0))] Tryd.func24 (by kernel_rfl) (by kernel_rfl) (by kernel_rfl) rfl (Eq.mp (by kernel_rfl) H)
def kp:a5:=[48,49,50,51,52,53,54,55,56,57]
theorem Tm:((List.range 256).all λn=>gN (Int.ofNat 0) (my n kp 0)==mi n)=true:=by decide
theorem Tn(c:UInt8):gN (Int.ofNat 0) (my c.toNat kp 0)=mi c.toNat:=by
 have:=List.all_eq_true.1 Tm c.toNat (by rw[List.mem_range];exact UInt8.toNat_lt c)
 simpa using this
theorem To(n:Nat)(s:a5)(c:Nat)(h:ab)(af:c<256):Y (n+1) (.fn 94) [.str s,.int .u8 (Int.ofNat c)] h=.ret (.int .i64 (my c s 0)) h:=by
 have ae:Nat.blt c 256=true:=by simpa[Nat.blt_eq] using af
 have ag:b5 94 [.str s,.int .u8 (Int.ofNat c)] h=none:=by kernel_rfl
 have oT:Tryd.f94.body=none:=by rfl
 have J:px Tryd.prog Tryd.f94 Tryd.f94.name [.str s,.int .u8 (Int.ofNat c)] h=some (.int .i64 (my c s 0),h):=by
  have aH:Tryd.f94.name= "internal/bytealg.IndexByteString" :=by rfl
  simp only[px,aH,if_true,ae]
 simp only[Y,et,ag,oq,Tryd.func94,oT,J]
theorem Tp(m:Nat)(c:UInt8)(h:ab):Y (m+5) (.fn 53) [.str kp,.str [c]] h=.ret (.bool (mi c.toNat)) h:=by
 rw[<-Tn]
 have aT:Y (m+2) (.fn 88) [.str kp,.int .u8 (Int.ofNat c.toNat)] h=.ret (.int .i64 (my c.toNat kp 0)) h:=
  Sr (m+1) kp c.toNat h (R:=λx=>x=_) ⟨_,h,To m kp c.toNat h (UInt8.toNat_lt _),rfl⟩
 have bp:Y (m+3) (.fn 84) [.str kp,.str [c]] h=.ret (.int .i64 (my c.toNat kp 0)) h:=
  Sq (m+2) kp c h (R:=λx=>x=_) ⟨by simp[nF,kp],by rfl,_,h,aT,rfl⟩
 have ef:Y (m+4) (.fn 78) [.str kp,.str [c]] h=.ret (.int .i64 (my c.toNat kp 0)) h:=
  Sp (m+3) kp [c] h (R:=λx=>x=_) ⟨_,h,bp,rfl⟩
 exact So (m+4) kp [c] h (R:=λx=>x=_) ⟨_,h,ef,rfl⟩
theorem Tq(n:Nat):(n3 n&&mi n)=false:=by
 unfold n3 mi
 simp only[Bool.and_eq_false_iff,Bool.or_eq_false_iff,decide_eq_false_iff_not]
 omega
theorem Tr(m B:Nat)(s:a5)(h:ab)(c3:B<=h.n):cx B h (.bool (kU s)) (Y (m+6) (.fn 40) [.str s] h):=by
 obtain⟨g,aT,bM⟩:=Ja (m+1) B n4 s [] 24 h c3 (by omega) (.inl ⟨rfl,rfl⟩)
 refine Sh (m+5) s h ⟨_,g,aT,λae=>?_,λae=>?_⟩
 · simp only[Bool.and_eq_true,decide_eq_true_eq] at ae
   obtain⟨⟨aa,ad⟩,aq⟩:=ae
   cases s with
   |nil=>simp at aa
   |cons c s=>
    refine⟨[c],HJ DA (by simp),_,g,Tp m c g,cx.of (g9 ?_) bM⟩
    have af:n4 c.toNat=true:=by
     have:=List.all_eq_true.1 aq c (by simp)
     simpa using this
    have ak:=Tq c.toNat
    unfold kU
    have bq:(c::s).all (λc=>n3 c.toNat||mi c.toNat)=true:=aq
    rw[bq]
    have hw:(n3 c.toNat||mi c.toNat)=true:=af
    simp only[IS,aa,ad,decide_true,Bool.true_and,Bool.and_true]
    revert ak hw
    cases n3 c.toNat<;>cases mi c.toNat<;>simp
 · refine cx.of (g9 ?_) bM
   unfold kU
   have bq:s.all (λc=>n3 c.toNat||mi c.toNat)=s.all (λc=>n4 c.toNat):=rfl
   rw[bq]
   revert ae
   cases decide (1<=s.length)<;>cases decide (s.length<=24)<;>cases s.all (λc=>n4 c.toNat)<;>simp
def n8(k:Nat)(s:a5)(N M:Nat)(o:Bool):Bool:=((dv s []||decide (k=6))&&((decide (N=0)||decide (k=7))&&(decide (M=0)||decide (7<=k))))&&(o==decide (k=8))
theorem Ts(m:Nat){R:Nat}{h:ab}{k:Nat}{s:a5}{bZ bf dL:I}{b2:hz}{aY up N M:Nat}{o:Bool}(aj:h.get R=some (.cells [.int .i64 (Int.ofNat k),.str s,bZ,bf,dL] 43 b2 aY up))(aH:cr Tryd.prog h 40 bZ=some (.int .i64 (Int.ofNat N)))(aD:cr Tryd.prog h 41 bf=some (.int .i64 (Int.ofNat M)))(aQ:(dL=.br/\o=false)\/(∃q,dL=.ptr q 0)/\o=true):
  Y (m+1) (.fn 34) [.ptr R 0] h=.ret (.bool (n8 k s N M o)) h:=by
 have j5:=Dz k 8
 have fin:∀(b g7:Bool),b=g7->(a7.ret (.bool b) h=.ret (.bool g7) h):=λb g7 e=>by rw[e]
 rcases aQ with⟨rfl,rfl⟩|⟨⟨q,rfl⟩,rfl⟩
 · refine Tk m R h (R:=λx=>x=.ret (.bool (n8 k s N M false)) h) ⟨k,a_ aj rfl,s,a_ aj rfl,λaa=>⟨bZ,a_ aj rfl,N,aH,λad=>⟨bf,a_ aj rfl,M,aD,λaq=>⟨a_ aj rfl,fin _ _ ?_⟩,λaq=>⟨λaC=>⟨a_ aj rfl,fin _ _ ?_⟩,λaC=>fin _ _ ?_⟩⟩,λad=>⟨λaq=>⟨bf,a_ aj rfl,M,aD,λaC=>⟨a_ aj rfl,fin _ _ ?_⟩,λaC=>⟨λbC=>⟨a_ aj rfl,fin _ _ ?_⟩,λbC=>fin _ _ ?_⟩⟩,λaq=>fin _ _ ?_⟩⟩,λaa=>⟨λh0=>⟨bZ,a_ aj rfl,N,aH,λad=>⟨bf,a_ aj rfl,M,aD,λaq=>⟨a_ aj rfl,fin _ _ ?_⟩,λaq=>⟨λaC=>⟨a_ aj rfl,fin _ _ ?_⟩,λaC=>fin _ _ ?_⟩⟩,λad=>⟨λaq=>⟨bf,a_ aj rfl,M,aD,λaC=>⟨a_ aj rfl,fin _ _ ?_⟩,λaC=>⟨λbC=>⟨a_ aj rfl,fin _ _ ?_⟩,λbC=>fin _ _ ?_⟩⟩,λaq=>fin _ _ ?_⟩⟩,λh0=>fin _ _ ?_⟩⟩<;>
    (unfold n8;(try simp only[hp,j5]);simp_all<;>omega)
 · refine Tj m R h (R:=λx=>x=.ret (.bool (n8 k s N M true)) h) ⟨k,a_ aj rfl,s,a_ aj rfl,λaa=>⟨bZ,a_ aj rfl,N,aH,λad=>⟨bf,a_ aj rfl,M,aD,λaq=>⟨q,a_ aj rfl,fin _ _ ?_⟩,λaq=>⟨λaC=>⟨q,a_ aj rfl,fin _ _ ?_⟩,λaC=>fin _ _ ?_⟩⟩,λad=>⟨λaq=>⟨bf,a_ aj rfl,M,aD,λaC=>⟨q,a_ aj rfl,fin _ _ ?_⟩,λaC=>⟨λbC=>⟨q,a_ aj rfl,fin _ _ ?_⟩,λbC=>fin _ _ ?_⟩⟩,λaq=>fin _ _ ?_⟩⟩,λaa=>⟨λh0=>⟨bZ,a_ aj rfl,N,aH,λad=>⟨bf,a_ aj rfl,M,aD,λaq=>⟨q,a_ aj rfl,fin _ _ ?_⟩,λaq=>⟨λaC=>⟨q,a_ aj rfl,fin _ _ ?_⟩,λaC=>fin _ _ ?_⟩⟩,λad=>⟨λaq=>⟨bf,a_ aj rfl,M,aD,λaC=>⟨q,a_ aj rfl,fin _ _ ?_⟩,λaC=>⟨λbC=>⟨q,a_ aj rfl,fin _ _ ?_⟩,λbC=>fin _ _ ?_⟩⟩,λaq=>fin _ _ ?_⟩⟩,λh0=>fin _ _ ?_⟩⟩<;>
    (unfold n8;(try simp only[hp,j5]);simp_all<;>omega)
def wn(l:List a5)(i:Nat):a5:=(l[i]?).getD []
def pa(p:Option a5):List a5->Bool
 |[]=>true
 |x::l=>o3 p x&&pa (some x) l
theorem DH:∀(p:Option a5) (l:List a5),kW p l=(l.all kU&&pa p l)
 |p,[]=>rfl
 |p,x::l=>by
  rw[kW,pa,DH (some x) l,List.all_cons]
  cases kU x<;>cases o3 p x<;>cases l.all kU<;>rfl
theorem DI:∀(p:Option a5) (hb:List Nat) (l:List a5),hb.length=l.length->sf p hb l=(hb.all (λk=>decide (k≠9)&&decide (k≠1))&&pa p l)
 |p,[],[],_=>rfl
 |p,[],_::_,h=>by simp at h
 |p,_::_,[],h=>by simp at h
 |p,k::hb,x::l,h=>by
  rw[RW,pa,DI (some x) hb l (by simpa using h),List.all_cons]
  cases (decide (k≠9)&&decide (k≠1))<;>cases o3 p x<;>cases hb.all (λk=>decide (k≠9)&&decide (k≠1))<;>rfl
theorem Jq:∀(p:Option a5) (l:List a5),pa p l=true<->(∀x,l[0]? =some x->o3 p x=true)/\∀i,i+1<l.length->eR (wn l i) (wn l (i+1))=true
 |p,[]=>by simp[pa]
 |p,x::l=>by
  rw[pa,Bool.and_eq_true,Jq (some x) l]
  constructor
  · rintro⟨aa,ad,aq⟩
    refine⟨λy aO=>by simp at aO;subst aO;exact aa,λi ag=>?_⟩
    cases i with
    |zero=>
     cases l with
     |nil=>simp at ag
     |cons y l=>simpa[wn,o3] using ad y (by simp)
    |succ i=>simpa[wn] using aq i (by simpa using ag)
  · rintro⟨aa,ad⟩
    refine⟨aa x (by simp),λy aO=>?_,λi ag=>?_⟩
    · cases l with
      |nil=>simp at aO
      |cons z l=>
       simp at aO
       subst aO
       simpa[wn,o3] using ad 0 (by simp)
    · simpa[wn] using ad (i+1) (by simpa using ag)
theorem Jr(l:List a5):pa none l=n5 (wn l) l.length:=by
 rw[Bool.eq_iff_iff,Jq]
 unfold n5
 rw[Bool.not_eq_true',List.any_eq_false]
 constructor
 · rintro⟨_,h⟩ i ag
   rw[List.mem_range] at ag
   cases i with
   |zero=>simp
   |succ i=>simp[h i ag]
 · intro h
   refine⟨λ_ _=>rfl,λi ag=>?_⟩
   have:=h (i+1) (by rw[List.mem_range];exact ag)
   simpa using this
def qD(l:List Bool)(i:Nat):Bool:=(l[i]?).getD false
theorem DJ(l:List Bool):(List.range l.length).any (qD l)=l.any id:=by
 rw[Bool.eq_iff_iff,List.any_eq_true,List.any_eq_true]
 constructor
 · rintro⟨i,ag,h⟩
   rw[List.mem_range] at ag
   refine⟨l[i],List.getElem_mem ag,?_⟩
   simpa[qD,ag] using h
 · rintro⟨b,ae,h⟩
   obtain⟨i,ag,rfl⟩:=List.getElem_of_mem ae
   exact⟨i,by simpa using ag,by simpa[qD,ag] using h⟩
theorem DK{α:Type}(f:α->Bool)(l:List α){i:Nat}(ag:i<l.length):qD (l.map f) i=f l[i]:=by simp[qD,ag]
theorem Js:∀xs:List aZ,(xs.map (λu=>!fD u)).any id=!ja xs
 |[]=>rfl
 |x::xs=>by
  rw[ja,List.map_cons,List.any_cons,Js xs]
  cases fD x<;>rfl
theorem DL{α:Type}(f:α->Bool):∀l:List α,(l.map (λx=>!f x)).any id=!l.all f
 |[]=>rfl
 |x::l=>by
  rw[List.map_cons,List.any_cons,List.all_cons,DL f l]
  cases f x<;>rfl
theorem Jt(k:Nat)(nm:a5)(ns:List a5)(xs:List aZ)(rt:Option aZ):fD (.mk k nm ns xs rt)=((decide (1<=k)&&decide (k<=9))&&(n8 k nm ns.length xs.length rt.isSome&&(ja xs&&gH k nm ns (xs.map aZ.k) (c0 xs) xs.length (km rt)))):=by
 rw[qw]
 congr 1
 by_cases e:k=6/\nm=[]
 · obtain⟨rfl,rfl⟩:=e
   have:gH 6 [] ns (xs.map aZ.k) (c0 xs) xs.length (km rt)=false:=by simp[gH,se]
   rw[this];simp
 · congr 1
   unfold o4 n8
   rw[ug]
   have cn:¬k=6\/¬nm=[]:=by
    by_cases h:k=6
    · right;intro ad;exact e ⟨h,ad⟩
    · exact .inl h
   have n1:(0<ns.length)=¬ns.length=0:=by simp[Nat.pos_iff_ne_zero]
   have eN:(0<xs.length)=¬xs.length=0:=by simp[Nat.pos_iff_ne_zero]
   have vL:(7<=k)=¬k<7:=by simp
   simp only[n1,eN,vL,ne_eq,decide_not]
   rcases cn with cn|cn<;>simp only[cn,decide_false]<;>cases decide (k=6)<;>cases decide (nm=[])<;>cases decide (ns.length=0)<;>cases decide (k=7)<;>cases decide (xs.length=0)<;>cases decide (k<7)<;>cases rt.isSome<;>cases decide (k=8)<;>rfl
abbrev Ju:Prop:=∀(u:aZ),fD u=true->sz u<=100->∀(m B:Nat) (h:ab) (v:I),4*sz u+10<=m->B<=h.n->fE B h u v->cx B h (.str (wr u)) (Y m (.fn 45) [v] h)
theorem Jv(iH:Ju):∀(K:Nat) (t:aZ),sz t<=K->sz t<=100->jT t<=90000->∀(m B:Nat) (h:ab) (v:I),4*sz t+12<=m->B<=h.n->fE B h t v->cx B h (.bool (fD t)) (Y m (.fn 24) [v] h)
 |0,t,cZ,_,_,_,_,_,_,_,_,_=>by
  have:=ub t
  omega
 |K+1,.mk k nm ns xs rt,cZ,jC,h5,m,B,h,v,hm,c3,aD=>by
  obtain⟨R,bZ,bf,dL,vs,b2,aY,up,rfl,ad,aq,aC,bC,dd,fm⟩:=aD
  rw[o1] at cZ jC hm
  rw[jT] at h5
  obtain⟨m,rfl⟩:∃j,m=j+5:=⟨m-5,by omega⟩
  have kG:=fv.len dd
  have jk:=qu xs
  have mE:=zA xs
  have kR:(ns.map I.str).length=ns.length:=List.length_map _
  have a3:∀(u:aZ),sz u<=K->sz u<=100->jT u<=90000->∀(m B:Nat) (h:ab) (v:I),4*sz u+12<=m->B<=h.n->fE B h u v->cx B h (.bool (fD u)) (Y m (.fn 24) [v] h):=Jv iH K
  rw[Jt]
  have aQ:(dL=.br/\rt.isSome=false)\/(∃q,dL=.ptr q 0)/\rt.isSome=true:=by
   cases rt with
   |none=>exact .inl ⟨fm,rfl⟩
   |some u=>
    cases u with
    |mk b8 cG dw gF gf=>obtain⟨W,_,_,_,_,_,_,_,rfl,_⟩:=fm;exact .inr ⟨⟨W,rfl⟩,rfl⟩
  have Jw:∀g,Ext B h g->cr Tryd.prog g 40 bZ=some (.int .i64 (Int.ofNat ns.length)):=λg x=>by
   rw[<-kR];exact(aC.cL (hX.ext x (Nat.le_refl _))).len (t:=40) (e:=9) (by kernel_rfl)
  have iB:∀g,Ext B h g->cr Tryd.prog g 41 bf=some (.int .i64 (Int.ofNat xs.length)):=λg x=>by
   rw[<-kG];exact(bC.cL (hX.ext x (Nat.le_refl _))).len (t:=41) (e:=33) (by kernel_rfl)
  have aL:=Ts (m+3) (N:=ns.length) (M:=xs.length) (o:=rt.isSome) aq (Jw h (Ext.refl _ _)) (iB h (Ext.refl _ _)) aQ
  have g_:∀g,Ext B h g->∀i (i1:i<vs.length) (i2:i<xs.length),fE B g xs[i] vs[i]:=λg x i i1 i2=>fv.get (fv.cL (hX.ext x (Nat.le_refl _)) _ _ dd) i i1 i2
  refine Tl (m+4) R h ⟨k,a_ aq rfl,λbJ=>cx.of (g9 (by simp;omega)) (Ext.refl _ _),λbJ=>⟨k,a_ aq rfl,λwN=>cx.of (g9 (by simp;omega)) (Ext.refl _ _),λwN=>⟨_,h,aL,λae=>?_,λae=>?_⟩⟩⟩
  rotate_left
  · refine cx.of (g9 ?_) (Ext.refl _ _)
    have:n8 k nm ns.length xs.length rt.isSome=false:=by simpa using ae
    rw[this];simp
  have jE:n8 k nm ns.length xs.length rt.isSome=true:=by simpa using ae
  have Tt:(decide (1<=k)&&decide (k<=9))=true:=by simp;omega
  rw[Tt,jE,Bool.true_and,Bool.true_and]
  obtain⟨g,aT,bM⟩:=Je (m+2) (B:=B) (h:=h) (v:=bf) (vs:=vs) 35 [] (qD (xs.map (λu=>!fD u))) bC (by omega) (λi i1 x J=>by
   have i2:i<xs.length:=by omega
   have aP:=uc (List.getElem_mem i2)
   have aH:=Dn (List.getElem_mem i2)
   obtain⟨g,c,y⟩:=a3 xs[i] (by omega) (by omega) (by omega) (m+1) B x vs[i] (by omega) (Nat.le_trans c3 J.n) (g_ x J i i1 i2)
   rw[DK _ _ i2]
   exact S2 (m+1) vs[i] x ⟨_,g,c,cx.of rfl y⟩)
  rw[show vs.length=(xs.map (λu=>!fD u)).length by rw[List.length_map];exact kG,DJ,Js] at aT
  refine⟨bf,a_ aq rfl,_,g,aT,λae=>?_,λae=>?_⟩
  · refine cx.of (g9 ?_) bM
    have:ja xs=false:=by simpa using ae
    rw[this];rfl
  have hC:ja xs=true:=by simpa using ae
  rw[hC,Bool.true_and]
  have aj:=(bM.get R ad).trans aq
  have wX:=Nat.le_trans c3 bM.n
  have iC:∀i (i2:i<xs.length),fD xs[i]=true:=λi i2=>zB hC (List.getElem_mem i2)
  have fin:∀{v:I} {w:Bool} {x:a7},w=gH k nm ns (xs.map aZ.k) (c0 xs) xs.length (km rt)->cx B g (.bool w) x->cx B h (.bool (gH k nm ns (xs.map aZ.k) (c0 xs) xs.length (km rt))) x:=by
   rintro v w x rfl ⟨ao,rfl,y⟩
   exact cx.mk (bM.trans (Nat.le_refl _) y)
  refine⟨k,a_ aj rfl,λiS=>?_,λiS=>⟨λiA=>?_,λiA=>⟨λj5=>?_,λj5=>⟨λjD=>?_,λjD=>?_⟩⟩⟩⟩
  · subst iS
    obtain⟨aU,ef,gY⟩:=Ja m B qv nm [45,47,46] 161 g wX (by omega) (.inr ⟨rfl,rfl⟩)
    exact⟨nm,a_ aj rfl,_,aU,ef,fin (v:=.br) (by simp[gH,se]) (cx.mk gY)⟩
  · subst iA
    have DM:gH 7 nm ns (xs.map aZ.k) (c0 xs) xs.length (km rt)=(decide (ns.length=xs.length)&&kW none ns):=by simp[gH]
    have ui:Ext B g (g.room 27):=Ext.room B g 27
    have nD:=bM.trans (Nat.le_refl _) ui
    have ke:=(ui.get R ad).trans aj
    have b4:=aC.cL (hX.ext nD (Nat.le_refl _))
    refine⟨bZ,a_ ke rfl,_,Jw _ nD,bf,a_ ke rfl,_,iB _ nD,λaH=>?_,λaH=>⟨aC.snd,bC.snd,fin (v:=.br) (by rw[DM];simp[aH]) (cx.mk ui)⟩⟩
    obtain⟨aU,ef,gY⟩:=S9 (m+2) (B:=B) (h:=g.room 27) (v:=bZ) (vs:=ns.map .str) 39 [] (qD (ns.map (λs=>!kU s))) b4 (by omega) (λi i1 x J=>by
     have i2:i<ns.length:=by omega
     obtain⟨g,c,y⟩:=Tr (m-5) B ns[i] x (Nat.le_trans (Nat.le_trans wX ui.n) J.n)
     rw[DK _ _ i2,List.getElem_map]
     rw[show m-5+6=m+1 by omega] at c
     exact S3 (m+1) ns[i] x ⟨_,g,c,cx.of rfl y⟩)
    rw[show(ns.map I.str).length=(ns.map (λs=>!kU s)).length by simp,DJ,DL] at ef
    refine⟨bZ,a_ ke rfl,_,aU,ef,λae=>?_,λae=>?_⟩
    rotate_left
    · have hf:ns.all kU=true:=by simpa using ae
      have DN:=ui.trans (Nat.le_refl _) gY
      have wY:=nD.trans (Nat.le_refl _) gY
      have fP:=(DN.get R ad).trans aj
      obtain⟨bB,gl,eO⟩:=Te (m+1) (B:=B) (h:=aU) (v:=bZ) (vs:=ns.map .str) 42 [] (wn ns) (Nat.le_trans wX DN.n) (aC.cL (hX.ext wY (Nat.le_refl _))) (by omega) rfl (λi ag=>by rw[List.getElem_map];rfl) (λi ag=>⟨ns[i]'(by omega),by rw[List.getElem_map]⟩) (λi i1 x J=>by
       have i2:i<ns.length:=by omega
       rw[List.getElem_map,show wn ns i=ns[i] by simp[wn,i2]]
       exact S4 m ns[i] x (cx.mk (Ext.refl _ _)))
      rw[kR,<-Jr] at gl
      exact⟨bZ,a_ fP rfl,_,bB,gl,aC.snd,bC.snd,aC.snd,aC.snd,fin (v:=.br) (by rw[DM,DH,hf];simp[aH]) (cx.mk (DN.trans (Nat.le_refl _) eO))⟩
    · have hf:ns.all kU=false:=by simpa using ae
      exact⟨aC.snd,bC.snd,aC.snd,fin (v:=.br) (by rw[DM,DH,hf];simp) (cx.mk (ui.trans (Nat.le_refl _) gY))⟩
  · subst j5
    cases rt with
    |none=>simp[n8] at jE
    |some u=>
     rw[o2] at cZ jC hm
     rw[m3] at h5
     obtain⟨aU,ef,gY⟩:=a3 u (by omega) (by omega) (by omega) (m+4) B g dL (by omega) wX (fE.cL (hX.ext bM (Nat.le_refl _)) _ _ fm)
     exact⟨dL,a_ aj rfl,_,aU,ef,fin (v:=.br) (by simp[gH,km]) (cx.mk gY)⟩
  · subst jD
    have DO:gH 9 nm ns (xs.map aZ.k) (c0 xs) xs.length (km rt)=(sf none (xs.map aZ.k) (c0 xs)&&decide (2<=xs.length)):=by simp[gH]
    have Jx:(xs.map aZ.k).length=(c0 xs).length:=by rw[List.length_map,mE]
    refine⟨bf,a_ aj rfl,_,iB g bM,λtk=>?_,λtk=>fin (v:=.br) (by rw[DO];simp[tk]) (cx.mk (Ext.refl _ _))⟩
    obtain⟨aU,ef,gY⟩:=Je (m+2) (B:=B) (h:=g) (v:=bf) (vs:=vs) 43 [] (qD ((xs.map aZ.k).map (λk=>!(decide (k≠9)&&decide (k≠1))))) (bC.cL (hX.ext bM (Nat.le_refl _))) (by omega) (λi i1 x J=>by
     have i2:i<xs.length:=by omega
     have i3:i<(xs.map aZ.k).length:=by rw[List.length_map];exact i2
     obtain⟨M,jV,wZ⟩:=(fv.get dd i i1 i2).kind
     rw[DK _ _ i3,List.getElem_map,jV]
     have ar:=wZ x (bM.trans (Nat.le_refl _) J)
     refine S5 (m+1) M x ⟨_,ar,λe=>cx.of (g9 (by simp[e])) (Ext.refl _ _),λe=>⟨_,ar,cx.of (g9 (by rw[Dz];simp[e])) (Ext.refl _ _)⟩⟩)
    rw[show vs.length=((xs.map aZ.k).map (λk=>!(decide (k≠9)&&decide (k≠1)))).length by simp;exact kG,DJ,DL] at ef
    refine⟨bf,a_ aj rfl,_,aU,ef,λae=>?_,λae=>?_⟩
    rotate_left
    · have hf:(xs.map aZ.k).all (λk=>decide (k≠9)&&decide (k≠1))=true:=by simpa using ae
      have wY:=bM.trans (Nat.le_refl _) gY
      have fP:=(gY.get R ad).trans aj
      obtain⟨bB,gl,eO⟩:=Ti (m+1) (B:=B) (h:=aU) (v:=bf) (vs:=vs) 45 [] (wn (c0 xs)) (Nat.le_trans wX gY.n) (bC.cL (hX.ext wY (Nat.le_refl _))) (by omega) rfl (λi ag=>(fv.get dd i ag (by omega)).snd) (λi ag=>by
       obtain⟨M,jV,_⟩:=(fv.get dd i ag (by omega)).kind
       exact⟨M,jV⟩) (λi i1 x J=>by
       have i2:i<xs.length:=by omega
       have aP:=uc (List.getElem_mem i2)
       have iM:=wY.trans (Nat.le_refl _) J
       rw[show wn (c0 xs) i=wr xs[i] by simp[wn,mE,i2,Dq xs i i2]]
       exact iH xs[i] (iC i i2) (by omega) (m+1) x.n x vs[i] (by omega) (Nat.le_refl _) (fE.le (Nat.le_trans c3 iM.n) _ _ (g_ x iM i i1 i2)))
      rw[show vs.length=(c0 xs).length by omega,<-Jr] at gl
      exact⟨bf,a_ fP rfl,_,bB,gl,fin (v:=.br) (by rw[DO,DI _ _ _ Jx,hf];simp[tk]) (cx.mk (gY.trans (Nat.le_refl _) eO))⟩
    · have hf:(xs.map aZ.k).all (λk=>decide (k≠9)&&decide (k≠1))=false:=by simpa using ae
      exact fin (v:=.br) (by rw[DO,DI _ _ _ Jx,hf];simp) (cx.mk gY)
  · exact fin (v:=.br) (by simp[gH,iS,iA,j5,jD]) (cx.mk (Ext.refl _ _))
theorem Tu(call:bt)(b:Nat)(h cc:ab)
  (H1:aB h b (0+0)=some .br)
  (bU:e8 Tryd.prog 68 112 (I.ptr b 0) h=fW.val (I.ptr b 0) h)
  (dh:call (.fn 69) [.ptr b 0] h=a7.ret (.ptr b 0) h)
  (fJ:e8 Tryd.prog 112 68 (I.ptr b 0) h=fW.val (I.ptr b 0) h)
  (iN:a8.storeCells h b (0+0) [.ptr b 0]=some cc):
  bS Tryd.prog Tryd.f46 none call [] (au.mk [(0,.ptr b 0)] [] .none h) (.nrm)
   (au.mk [] [] .none cc):=
 dR [] (hs:=[.v .br,.v (.bool true),.b true,.v (.ptr b 0),.c (.ptr b 0) h,.v (.ptr b 0),.ll (.aJ []) cc]) (by kernel_rfl)<| .cons H1<| .cons (by kernel_rfl:e1 Tryd.prog h BinOp.eql 68 (Operand.tmp 5) (Operand.const (Value.pointer none)) I.br I.br=some (I.bool true))<| .cons (rfl:true=true)<| .cons bU<| .cons dh<| .cons fJ<| .cons (⟨by kernel_rfl,iN,rfl⟩:some 1=some 1/\a8.storeCells h b (0+0) [I.ptr b 0]=some cc/\I.aJ []=I.aJ [])<| .nil
theorem Tv(call:bt)(b:Nat)(h:ab)(c4:Bool)
  (H1:aB h b (0+0)=some (.ptr b 0))
  (bU:e1 Tryd.prog h BinOp.neq 68 (Operand.tmp 17) (Operand.tmp 18) (I.ptr b 0) (I.ptr b 0)=some (I.bool c4))
  (dh:c4=false):
  bS Tryd.prog Tryd.f46 none call [] (au.mk [(0,.ptr b 0)] [] .none h) (.nrm)
   (au.mk [] [] .none h):=
 dR [] (hs:=[.v (.ptr b 0),.v (.bool false),.b false,.v (.ptr b 0),.v (.bool c4),.b false]) (by kernel_rfl)<| .cons H1<| .cons (by kernel_rfl:e1 Tryd.prog h BinOp.eql 68 (Operand.tmp 5) (Operand.const (Value.pointer none)) (I.ptr b 0) I.br=some (I.bool false))<| .cons (rfl:false=false)<| .cons H1<| .cons bU<| .cons dh<| .nil
theorem bws(call:bt)(b c m:Nat)(s:List UInt8)(v:I)(h ad cc gI:ab)
  (H1:call (.fn 46) [.ptr b 0] h=a7.ret (.aJ []) cc)
  (bU:aB cc b (0+1)=some v)
  (dh:eh Tryd.prog cc 22 (some 9) v (I.str s)=some (I.slice c 0 m (c7.aS 1),ad))
  (fJ:a8.storeCells ad b (0+1) [.slice c 0 m (.aS 1)]=some gI):
  bS Tryd.prog Tryd.f25 none call [] (au.mk [(0,.ptr b 0),(1,.str s)] [] .none h) (.ret)
   (au.mk [(4,.int .i64 (.ofNat (List.length s))),(5,.ea)] [] .none gI):=
 dR [4,5] (hs:=[.c (.aJ []) cc,.v v,.ll (.slice c 0 m (.aS 1)) ad,.ll (.aJ []) gI]) (by kernel_rfl)<| .cons H1<| .cons bU<| .cons dh<| .cons (⟨by kernel_rfl,fJ,rfl⟩:some 1=some 1/\a8.storeCells ad b (0+1) [I.slice c 0 m (c7.aS 1)]=some gI/\I.aJ []=I.aJ [])<| .nil
theorem Jy(call:bt)(b:Nat)(s:List UInt8)(v:I)(h ad cc gI:ab)
  (H1:call (.fn 46) [.ptr b 0] h=a7.ret (.aJ []) cc)
  (bU:aB cc b (0+1)=some v)
  (dh:eh Tryd.prog cc 22 (some 9) v (I.str s)=some (I.bd,ad))
  (fJ:a8.storeCells ad b (0+1) [.bd]=some gI):
  bS Tryd.prog Tryd.f25 none call [] (au.mk [(0,.ptr b 0),(1,.str s)] [] .none h) (.ret)
   (au.mk [(4,.int .i64 (.ofNat (List.length s))),(5,.ea)] [] .none gI):=
 dR [4,5] (hs:=[.c (.aJ []) cc,.v v,.ll .bd ad,.ll (.aJ []) gI]) (by kernel_rfl)<| .cons H1<| .cons bU<| .cons dh<| .cons (⟨by kernel_rfl,fJ,rfl⟩:some 1=some 1/\a8.storeCells ad b (0+1) [I.bd]=some gI/\I.aJ []=I.aJ [])<| .nil
theorem Jz(call:bt)(b c m:Nat)(h:ab)(dm:List UInt8)(cc:ab)
  (H1:aB (ab.room h 12) b (0+1)=some (.slice c 0 m (.aS 1)))
  (bU:g5 Tryd.prog Builtin.unsafeSliceData (Array.mk [22]) [.slice c 0 m (.aS 1)] (ab.room h 12)=fW.val (.ptr c 0) (ab.room h 12))
  (dh:nk Tryd.prog (ab.room h 12) 95 (I.ptr c 0) (I.int IntKind.i64 (Int.ofNat m))=some (I.str dm,cc)):
  bS Tryd.prog Tryd.f28 none call [] (au.mk [(0,.ptr b 0)] [] .none h) (.ret)
   (au.mk [(2,.str dm)] [] .none cc):=
 dR [2] (hs:=[.v (.slice c 0 m (.aS 1)),.v (.ptr c 0),.v (.slice c 0 m (.aS 1)),.ll (.str dm) cc]) (by kernel_rfl)<| .cons H1<| .cons bU<| .cons H1<| .cons dh<| .cons (by kernel_rfl:I.sound (I.ptr b 0)=true)<| .cons (by kernel_rfl:I.ptr b 0=I.ptr b 0)<| .cons (by kernel_rfl:I.sound (I.ptr b 0)=true)<| .cons (by kernel_rfl:I.ptr b 0=I.ptr b 0)<| .cons (by kernel_rfl:I.sound (I.ptr b (0+1))=true)<| .cons (by kernel_rfl:I.ptr b (0+1)=I.ptr b (0+1))<| .cons (by kernel_rfl:I.sound (I.slice c 0 m (c7.aS 1))=true)<| .cons H1<| .cons (by kernel_rfl:I.sound (I.ptr c 0)=true)<| .cons bU<| .cons (by kernel_rfl:I.sound (I.ptr b 0)=true)<| .cons (by kernel_rfl:I.ptr b 0=I.ptr b 0)<| .cons (by kernel_rfl:I.sound (I.ptr b 0)=true)<| .cons (by kernel_rfl:I.ptr b 0=I.ptr b 0)<| .cons (by kernel_rfl:I.sound (I.ptr b (0+1))=true)<| .cons (by kernel_rfl:I.ptr b (0+1)=I.ptr b (0+1))<| .cons (by kernel_rfl:I.sound (I.slice c 0 m (c7.aS 1))=true)<| .cons H1<| .cons (by kernel_rfl:I.sound (I.int IntKind.i64 (Int.ofNat m))=true)<| .cons (by kernel_rfl:cr Tryd.prog (ab.room h 12) 22 (I.slice c 0 m (c7.aS 1))=some (I.int IntKind.i64 (Int.ofNat m)))<| .cons (by kernel_rfl:I.sound (I.str dm)=true)<| .cons (by kernel_rfl:I.str dm=I.str dm)<| .nil
theorem JA(call:bt)(b:Nat)(h:ab)(dm:List UInt8)(cc:ab)
  (H1:aB (ab.room h 12) b (0+1)=some .bd)
  (bU:nk Tryd.prog (ab.room h 12) 95 I.br (I.int IntKind.i64 (Int.ofNat 0))=some (I.str dm,cc)):
  bS Tryd.prog Tryd.f28 none call [] (au.mk [(0,.ptr b 0)] [] .none h) (.ret)
   (au.mk [(2,.str dm)] [] .none cc):=
 dR [2] (hs:=[.v .bd,.v .br,.v .bd,.ll (.str dm) cc]) (by kernel_rfl)<| .cons H1<| .cons (by kernel_rfl:g5 Tryd.prog Builtin.unsafeSliceData (Array.mk [22]) [I.bd] (ab.room h 12)=fW.val I.br (ab.room h 12))<| .cons H1<| .cons bU<| .cons (by kernel_rfl:I.sound (I.ptr b 0)=true)<| .cons (by kernel_rfl:I.ptr b 0=I.ptr b 0)<| .cons (by kernel_rfl:I.sound (I.ptr b 0)=true)<| .cons (by kernel_rfl:I.ptr b 0=I.ptr b 0)<| .cons (by kernel_rfl:I.sound (I.ptr b (0+1))=true)<| .cons (by kernel_rfl:I.ptr b (0+1)=I.ptr b (0+1))<| .cons (by kernel_rfl:I.sound I.bd=true)<| .cons H1<| .cons (by kernel_rfl:I.sound I.br=true)<| .cons (by kernel_rfl:g5 Tryd.prog Builtin.unsafeSliceData (Array.mk [22]) [I.bd] (ab.room h 12)=fW.val I.br (ab.room h 12))<| .cons (by kernel_rfl:I.sound (I.ptr b 0)=true)<| .cons (by kernel_rfl:I.ptr b 0=I.ptr b 0)<| .cons (by kernel_rfl:I.sound (I.ptr b 0)=true)<| .cons (by kernel_rfl:I.ptr b 0=I.ptr b 0)<| .cons (by kernel_rfl:I.sound (I.ptr b (0+1))=true)<| .cons (by kernel_rfl:I.ptr b (0+1)=I.ptr b (0+1))<| .cons (by kernel_rfl:I.sound I.bd=true)<| .cons H1<| .cons (by kernel_rfl:I.sound (I.int IntKind.i64 (Int.ofNat 0))=true)<| .cons (by kernel_rfl:cr Tryd.prog (ab.room h 12) 22 I.bd=some (I.int IntKind.i64 (Int.ofNat 0)))<| .cons (by kernel_rfl:I.sound (I.str dm)=true)<| .cons (by kernel_rfl:I.str dm=I.str dm)<| .nil
theorem Tw(m:Nat)(v:I)(s:List UInt8)(eK fz b c:Nat)(hv gL:List I)(h:ab){R:a7->Prop}(H:∃aM:Nat,cr Tryd.prog h 41 v=some (.int .i64 (.ofNat aM))/\a4 Tryd.prog Tryd.f63 (Y m) [1,0] (au.mk [(1,.str s),(2,.fn eK [] hv),(3,.fn fz [] gL),(4,.ptr b 0),(5,.ptr c 0),(12,v),(13,.int .i64 (.ofNat aM)),(14,.int .i64 (.ofNat 0))] [] .none h) (λca ck=>∃al:ab,∃bW:Env,ca=.exit 0/\ck=au.mk bW [] .none al/\cd [] bW/\R (.ret (.aJ []) al))):
  R (Y (m+1) (.fn 63) [v,.str s,.fn eK [] hv,.fn fz [] gL,.ptr b 0,.ptr c 0] h):=
 dq (intr:=b5) [(4000,.hH [1,2,3,4,5,12,13,14] [(.exit 0,[])])] [(0,.o v),(1,.v (.str s)),(2,.o (.fn eK [] hv)),(3,.o (.fn fz [] gL)),(4,.v (.ptr b 0)),(5,.v (.ptr c 0))] Tryd.func63 (by kernel_rfl) (by kernel_rfl) (by kernel_rfl) rfl (Eq.mp (by kernel_rfl) H)
theorem Tx(call:bt)(s:List UInt8)(eK fz b c eC off N i w0:Nat)(cp:c7)(hv gL co:List I)(h:ab){Q:bk->au->Prop}(H:(i<N->i<N/\∃v1:I,aB h eC (off+i*1)=some v1/\(0<i->∃aM:Nat,∃v2:I,∃al:ab,call (.fn 25) [.ptr b 0,.str s] h=.ret (.aJ [.int .i64 (.ofNat aM),v2]) al/\∃s1:List UInt8,∃aA:ab,call (.fn eK) (.int .i64 (.ofNat i)::hv) al=.ret (.str s1) aA/\∃bo:Nat,∃eE:I,∃aU:ab,call (.fn 25) [.ptr b 0,.str s1] aA=.ret (.aJ [.int .i64 (.ofNat bo),eE]) aU/\aB aU c 0=some (.fn w0 [] co)/\∃bB:ab,call (.fn w0) (v1::co) aU=.ret (.aJ []) bB/\∃s2:List UInt8,∃bO:ab,call (.fn fz) (.int .i64 (.ofNat i)::gL) bB=.ret (.str s2) bO/\∃bF:Nat,∃v4:I,∃dK:ab,call (.fn 25) [.ptr b 0,.str s2] bO=.ret (.aJ [.int .i64 (.ofNat bF),v4]) dK/\i+1<9223372036854775808/\Q .nrm (au.mk [(1,.str s),(2,.fn eK [] hv),(3,.fn fz [] gL),(4,.ptr b 0),(5,.ptr c 0),(12,.slice eC off N cp),(13,.int .i64 (.ofNat N)),(14,.int .i64 (.ofNat (i+1)))] [] .none dK))/\(¬0<i->∃cq:List UInt8,∃fq:ab,call (.fn eK) (.int .i64 (.ofNat i)::hv) h=.ret (.str cq) fq/\∃b4:Nat,∃jc:I,∃gT:ab,call (.fn 25) [.ptr b 0,.str cq] fq=.ret (.aJ [.int .i64 (.ofNat b4),jc]) gT/\aB gT c 0=some (.fn w0 [] co)/\∃kY:ab,call (.fn w0) (v1::co) gT=.ret (.aJ []) kY/\∃b9:List UInt8,∃m7:ab,call (.fn fz) (.int .i64 (.ofNat i)::gL) kY=.ret (.str b9) m7/\∃cy:Nat,∃v6:I,∃w1:ab,call (.fn 25) [.ptr b 0,.str b9] m7=.ret (.aJ [.int .i64 (.ofNat cy),v6]) w1/\i+1<9223372036854775808/\Q .nrm (au.mk [(1,.str s),(2,.fn eK [] hv),(3,.fn fz [] gL),(4,.ptr b 0),(5,.ptr c 0),(12,.slice eC off N cp),(13,.int .i64 (.ofNat N)),(14,.int .i64 (.ofNat (i+1)))] [] .none w1)))/\(¬i<N->Q (.exit 0) (au.mk [(1,.str s),(2,.fn eK [] hv),(3,.fn fz [] gL),(4,.ptr b 0),(5,.ptr c 0),(12,.slice eC off N cp),(13,.int .i64 (.ofNat N)),(14,.int .i64 (.ofNat i))] [] .none h))):
  a4 Tryd.prog Tryd.f63 call [1,0,0] ⟨[(1,.str s),(2,.fn eK [] hv),(3,.fn fz [] gL),(4,.ptr b 0),(5,.ptr c 0),(12,.slice eC off N cp),(13,.int .i64 (.ofNat N)),(14,.int .i64 (.ofNat i))],[],.none,h⟩ Q:=
 dZ [(18,.a9 .o),(27,.a9 (.io (.fn w0 [] co)))] [1,2,3,4,5,12,13,14] [(1,.v (.str s)),(2,.o (.fn eK [] hv)),(3,.o (.fn fz [] gL)),(4,.v (.ptr b 0)),(5,.v (.ptr c 0)),(12,.v (.slice eC off N cp)),(13,.v (.int .i64 (.ofNat N))),(14,.v (.int .i64 (.ofNat i)))] rfl (Eq.mp (by kernel_rfl) H)
theorem Ty(call:bt)(s:List UInt8)(eK fz b c N i:Nat)(hv gL:List I)(v:I)(h:ab){Q:bk->au->Prop}(H:¬i<N/\Q (.exit 0) (au.mk [] [] .none h)):
  a4 Tryd.prog Tryd.f63 call [1,0,0] ⟨[(1,.str s),(2,.fn eK [] hv),(3,.fn fz [] gL),(4,.ptr b 0),(5,.ptr c 0),(12,v),(13,.int .i64 (.ofNat N)),(14,.int .i64 (.ofNat i))],[],.none,h⟩ Q:=
 dZ [(1015,.f)] [] [(1,.v (.str s)),(2,.o (.fn eK [] hv)),(3,.o (.fn fz [] gL)),(4,.v (.ptr b 0)),(5,.v (.ptr c 0)),(12,.o v),(13,.v (.int .i64 (.ofNat N))),(14,.v (.int .i64 (.ofNat i)))] rfl (Eq.mp (by kernel_rfl) H)
theorem DP(m i:Nat)(h:ab){R:a7->Prop}(H:R (.ret (.str []) h)):
  R (Y (m+1) (.fn 64) [.int .i64 (.ofNat i)] h):=
 dq (intr:=b5) [] [(0,.v (.int .i64 (.ofNat i)))] Tryd.func64 (by kernel_rfl) (by kernel_rfl) (by kernel_rfl) rfl (Eq.mp (by kernel_rfl) H)
theorem Tz(m i e:Nat)(h:ab){R:a7->Prop}(H:∃aM:Nat,aB h e 0=some (.ptr aM 0)/\∃bo:Nat,∃bF:Nat,∃b4:Nat,∃aT:c7,aB h aM (0+2)=some (.slice bo bF b4 aT)/\i<b4/\∃s1:List UInt8,aB h bo (bF+i*1)=some (.str s1)/\List.length s1+2<=1000000000000/\R (.ret (.str (s1++[58,32])) h)):
  R (Y (m+1) (.fn 66) [.int .i64 (.ofNat i),.ptr e 0] h):=
 dq (intr:=b5) [(7,.a9 .im)] [(0,.v (.int .i64 (.ofNat i))),(1,.v (.ptr e 0))] Tryd.func66 (by kernel_rfl) (by kernel_rfl) (by kernel_rfl) rfl (Eq.mp (by kernel_rfl) H)
theorem JB(m:Nat)(s:List UInt8)(e:Nat)(h:ab){R:a7->Prop}(H:R (.ret (.fn 68 [] [.ptr e 0,.ptr h.n 0]) (ab.push h (.cells [.str s] 9 .own 0 0)))):
  R (Y (m+1) (.fn 67) [.str s,.ptr e 0] h):=
 dq (intr:=b5) [] [(0,.v (.str s)),(1,.v (.ptr e 0))] Tryd.func67 (by kernel_rfl) (by kernel_rfl) (by kernel_rfl) rfl (Eq.mp (by kernel_rfl) H)
theorem TA(m i e f:Nat)(h:ab){R:a7->Prop}(H:∃aM:Nat,aB h e 0=some (.ptr aM 0)/\∃bo:Nat,∃bF:Nat,∃b4:Nat,∃aT:c7,aB h aM (0+3)=some (.slice bo bF b4 aT)/\i<b4/\∃cy:Nat,aB h bo (bF+i*1)=some (.ptr cy 0)/\∃cO:Nat,aB h cy (0+0)=some (.int .i64 (.ofNat cO))/\(cO=8->∃s1:List UInt8,aB h f 0=some (.str s1)/\R (.ret (.str s1) h))/\(¬cO=8->R (.ret (.str []) h))):
  R (Y (m+1) (.fn 68) [.int .i64 (.ofNat i),.ptr e 0,.ptr f 0] h):=
 dq (intr:=b5) [(8,.a9 .im)] [(0,.v (.int .i64 (.ofNat i))),(1,.v (.ptr e 0)),(2,.v (.ptr f 0))] Tryd.func68 (by kernel_rfl) (by kernel_rfl) (by kernel_rfl) rfl (Eq.mp (by kernel_rfl) H)
theorem TB(m b l n o r k:Nat)(s:List UInt8)(bf dL:I)(h:ab){R:a7->Prop}(H:aB (ab.push h (.cells [.ptr r 0] 33 .own 0 0)) h.n 0=some (.ptr r 0)/\aB (ab.push h (.cells [.ptr r 0] 33 .own 0 0)) r (0+0)=some (.int .i64 (.ofNat k))/\(k=6->aB (ab.push h (.cells [.ptr r 0] 33 .own 0 0)) h.n 0=some (.ptr r 0)/\aB (ab.push h (.cells [.ptr r 0] 33 .own 0 0)) r (0+1)=some (.str s)/\∃aM:Nat,∃v1:I,∃al:ab,(Y m) (.fn 25) [.ptr b 0,.str s] (ab.push h (.cells [.ptr r 0] 33 .own 0 0))=.ret (.aJ [.int .i64 (.ofNat aM),v1]) al/\R (.ret (.aJ []) al))/\(¬k=6->(k=7->∃bo:Nat,∃v2:I,∃aA:ab,(Y m) (.fn 25) [.ptr b 0,.str [123]] (ab.push h (.cells [.ptr r 0] 33 .own 0 0))=.ret (.aJ [.int .i64 (.ofNat bo),v2]) aA/\aB (aA.room 8) l 0=some (.fn 63 [] [.ptr b 0,.ptr o 0])/\aB (aA.room 8) h.n 0=some (.ptr r 0)/\aB (aA.room 8) r (0+3)=some bf/\aB (aA.room 8) n 0=some (.fn 64 [] [])/\∃aU:ab,(Y m) (.fn 63) [bf,.str [44,32],.fn 66 [] [.ptr h.n 0],.fn 64 [] [],.ptr b 0,.ptr o 0] (aA.room 8)=.ret (.aJ []) aU/\I.sound bf=true/\∃bF:Nat,∃eE:I,∃bB:ab,(Y m) (.fn 25) [.ptr b 0,.str [125]] aU=.ret (.aJ [.int .i64 (.ofNat bF),eE]) bB/\R (.ret (.aJ []) bB))/\(¬k=7->(k=8->∃b4:Nat,∃v4:I,∃bO:ab,(Y m) (.fn 25) [.ptr b 0,.str [102,110,40]] (ab.push h (.cells [.ptr r 0] 33 .own 0 0))=.ret (.aJ [.int .i64 (.ofNat b4),v4]) bO/\aB (bO.room 8) l 0=some (.fn 63 [] [.ptr b 0,.ptr o 0])/\aB (bO.room 8) h.n 0=some (.ptr r 0)/\aB (bO.room 8) r (0+3)=some bf/\aB (bO.room 8) n 0=some (.fn 64 [] [])/\aB (bO.room 8) n 0=some (.fn 64 [] [])/\∃dK:ab,(Y m) (.fn 63) [bf,.str [44,32],.fn 64 [] [],.fn 64 [] [],.ptr b 0,.ptr o 0] (bO.room 8)=.ret (.aJ []) dK/\I.sound bf=true/\∃cy:Nat,∃jc:I,∃fq:ab,(Y m) (.fn 25) [.ptr b 0,.str [41,32,45,62,32]] dK=.ret (.aJ [.int .i64 (.ofNat cy),jc]) fq/\aB (fq.room 6) o 0=some (.fn 65 [] [.ptr b 0,.ptr l 0,.ptr n 0,.ptr o 0])/\aB (fq.room 6) h.n 0=some (.ptr r 0)/\aB (fq.room 6) r (0+4)=some dL/\∃gT:ab,(Y m) (.fn 65) [dL,.ptr b 0,.ptr l 0,.ptr n 0,.ptr o 0] (fq.room 6)=.ret (.aJ []) gT/\I.sound dL=true/\R (.ret (.aJ []) gT))/\(¬k=8->(k=9->aB (ab.room (ab.push h (.cells [.ptr r 0] 33 .own 0 0)) 10) l 0=some (.fn 63 [] [.ptr b 0,.ptr o 0])/\aB (ab.room (ab.push h (.cells [.ptr r 0] 33 .own 0 0)) 10) h.n 0=some (.ptr r 0)/\aB (ab.room (ab.push h (.cells [.ptr r 0] 33 .own 0 0)) 10) r (0+3)=some bf/\∃v6:I,∃kY:ab,(Y m) (.fn 67) [.str [40],.ptr h.n 0] (ab.room (ab.push h (.cells [.ptr r 0] 33 .own 0 0)) 10)=.ret v6 kY/\∃n7:I,∃m7:ab,(Y m) (.fn 67) [.str [41],.ptr h.n 0] kY=.ret n7 m7/\∃w1:ab,(Y m) (.fn 63) [bf,.str [32,124,32],v6,n7,.ptr b 0,.ptr o 0] m7=.ret (.aJ []) w1/\aB m7 l 0=some (.fn 63 [] [.ptr b 0,.ptr o 0])/\aB kY l 0=some (.fn 63 [] [.ptr b 0,.ptr o 0])/\aB m7 h.n 0=some (.ptr r 0)/\aB kY h.n 0=some (.ptr r 0)/\I.sound bf=true/\aB m7 r (0+3)=some bf/\aB kY r (0+3)=some bf/\R (.ret (.aJ []) w1))/\(¬k=9->aB (ab.push h (.cells [.ptr r 0] 33 .own 0 0)) h.n 0=some (.ptr r 0)/\aB (ab.push h (.cells [.ptr r 0] 33 .own 0 0)) r (0+0)=some (.int .i64 (.ofNat k))/\∃s1:List UInt8,(k<6/\hP Tryd.prog 9 [.str [],.str [97,110,121],.str [105,110,116],.str [98,111,111,108],.str [115,116,114],.str [110,105,108]] (k*1)=some (.str s1))/\∃cO:Nat,∃o_:I,∃JC:ab,(Y m) (.fn 25) [.ptr b 0,.str s1] (ab.push h (.cells [.ptr r 0] 33 .own 0 0))=.ret (.aJ [.int .i64 (.ofNat cO),o_]) JC/\R (.ret (.aJ []) JC)))))):
  R (Y (m+1) (.fn 65) [.ptr r 0,.ptr b 0,.ptr l 0,.ptr n 0,.ptr o 0] h):=
 dq (intr:=b5) [(7,.a9 (.is (.ptr r 0))),(20,.a9 (.is (.ptr r 0))),(29,.a9 (.is (.ptr r 0))),(41,.a9 (.is (.ptr r 0))),(50,.a9 (.is (.ptr r 0))),(59,.a9 (.is (.ptr r 0))),(12,.a9 (.is (.ptr r 0))),(10,.a9 (.is (.int .i64 (.ofNat k)))),(15,.a9 (.is (.int .i64 (.ofNat k)))),(23,.a9 (.is (.str s))),(32,.a9 (.io bf)),(44,.a9 (.io bf)),(62,.a9 (.io bf)),(53,.a9 (.io dL)),(28,.a9 (.is (.fn 63 [] [.ptr b 0,.ptr o 0]))),(40,.a9 (.is (.fn 63 [] [.ptr b 0,.ptr o 0]))),(58,.a9 (.is (.fn 63 [] [.ptr b 0,.ptr o 0]))),(34,.a9 (.is (.fn 64 [] []))),(45,.a9 (.is (.fn 64 [] []))),(46,.a9 (.is (.fn 64 [] []))),(49,.a9 (.is (.fn 65 [] [.ptr b 0,.ptr l 0,.ptr n 0,.ptr o 0]))),(64,.a9 .o),(66,.a9 .o)] [(0,.v (.ptr r 0)),(1,.v (.ptr b 0)),(2,.v (.ptr l 0)),(3,.v (.ptr n 0)),(4,.v (.ptr o 0))] Tryd.func65 (by kernel_rfl) (by kernel_rfl) (by kernel_rfl) rfl (Eq.mp (by kernel_rfl) H)
theorem TC(m r:Nat)(h:ab){R:a7->Prop}(H:∃al:ab,a8.storeCells (ab.push (ab.push (ab.push h (.cells [.br,.bd] 70 .own 0 0)) (.cells [.eY] 107 .own 0 0)) (.cells [.eY] 109 .own 0 0)) (ab.n (ab.push (ab.push h (.cells [.br,.bd] 70 .own 0 0)) (.cells [.eY] 107 .own 0 0))) 0 [.fn 63 [] [.ptr h.n 0,.ptr (ab.n (ab.push h (.cells [.br,.bd] 70 .own 0 0))) 0]]=some al/\∃aA:ab,a8.storeCells (ab.push al (.cells [.eY] 108 .own 0 0)) al.n 0 [.fn 64 [] []]=some aA/\∃aU:ab,a8.storeCells aA (ab.n (ab.push h (.cells [.br,.bd] 70 .own 0 0))) 0 [.fn 65 [] [.ptr h.n 0,.ptr (ab.n (ab.push (ab.push h (.cells [.br,.bd] 70 .own 0 0)) (.cells [.eY] 107 .own 0 0))) 0,.ptr al.n 0,.ptr (ab.n (ab.push h (.cells [.br,.bd] 70 .own 0 0))) 0]]=some aU/\∃bW:List I,aB aU (ab.n (ab.push h (.cells [.br,.bd] 70 .own 0 0))) 0=some (.fn 65 [] bW)/\∃bB:ab,(Y m) (.fn 65) (.ptr r 0::bW) aU=.ret (.aJ []) bB/\∃s1:List UInt8,∃bO:ab,(Y m) (.fn 28) [.ptr h.n 0] bB=.ret (.str s1) bO/\R (.ret (.str s1) bO)):
  R (Y (m+1) (.fn 45) [.ptr r 0] h):=
 dq (intr:=b5) [(9,.a9 (.fn 65 4))] [(0,.v (.ptr r 0))] Tryd.func45 (by kernel_rfl) (by kernel_rfl) (by kernel_rfl) rfl (Eq.mp (by kernel_rfl) H)
def ix(B b:Nat)(h:ab)(w:List UInt8):Prop:=∃a v,h.get b=some (.cells [a,v] 70 .own 0 0)/\(a=.br\/a=.ptr b 0)/\nS B 5 h v w/\b<B/\B<=h.n/\(w=[]->v=.bd)
theorem TD(n b:Nat)(h:ab):Y (n+1) (.fn 69) [.ptr b 0] h=.ret (.ptr b 0) h:=by unfold Y;kernel_rfl
theorem DQ(n b:Nat)(h:ab)(v:I)(ae:b<h.n)(aj:h.get b=some (.cells [.br,v] 70 .own 0 0)\/h.get b=some (.cells [.ptr b 0,v] 70 .own 0 0)):
  ∃ao,Y (n+2) (.fn 46) [.ptr b 0] h=.ret (.aJ []) ao/\ao.get b=some (.cells [.ptr b 0,v] 70 .own 0 0)/\ao.n=h.n/\∀c,c≠b->ao.get c=h.get c:=by
 rcases aj with aj|aj
 · refine⟨h.set b (some (.cells [.ptr b 0,v] 70 .own 0 0)),?_,ft rfl,rfl,λc af=>c5 af rfl⟩
   have f1:Tryd.prog.underlying 68=some (.pointer 70):=by kernel_rfl
   have f2:Tryd.prog.underlying 112=some .unsafePointer:=by kernel_rfl
   have f3:cY Tryd.prog 70=some 2:=by kernel_rfl
   have f4:liesAt Tryd.prog Tryd.prog.depth 70 (2/Tryd.prog.cellsOf 70) 0 70 1=true:=by kernel_rfl
   have v1:e8 Tryd.prog 68 112 (I.ptr b 0) h=fW.val (I.ptr b 0) h:=by
    simp only[e8,f1,f2,f3,aj];rfl
   have v2:e8 Tryd.prog 112 68 (I.ptr b 0) h=fW.val (I.ptr b 0) h:=by
    simp only[e8,f1,f2,f3,aj,List.length_cons,List.length_nil,f4];rfl
   have ai:=Tu (Y (n+1)) b h _ (a_ aj rfl) v1 (TD n b h) v2 (gn aj rfl rfl)
   exact fH (intr:=b5) (n:=n+1) (args:=[.ptr b 0]) Tryd.func46 (by kernel_rfl) rfl (by kernel_rfl) ai (.inr rfl) (by kernel_rfl)
 · refine⟨h,?_,aj,rfl,λc _=>rfl⟩
   have he:e1 Tryd.prog h BinOp.neq 68 (Operand.tmp 17) (Operand.tmp 18) (I.ptr b 0) (I.ptr b 0)=some (I.bool false):=by
    have ax:Tryd.prog.underlying 68=some (.pointer 70):=by kernel_rfl
    have av:cY Tryd.prog 70=some 2:=by kernel_rfl
    have bq:Nat.beq b b=true:=by simp
    simp only[e1,po,e0,ax,av,AO,bq]
    rfl
   exact fH (intr:=b5) (n:=n+1) (args:=[.ptr b 0]) Tryd.func46 (by kernel_rfl) rfl (by kernel_rfl) (Tv (Y (n+1)) b h false (a_ aj rfl) he rfl) (.inr rfl) (by kernel_rfl)
theorem JD:∃i,Tryd.prog.info? 5=some i/\i.size=1/\i.bytes=1:=by
 have ag:(Tryd.prog.info? 5).map (λi=>(i.size,i.bytes))=some (1,1):=by kernel_rfl
 cases sk:Tryd.prog.info? 5 with
 |none=>rw[sk] at ag;cases ag
 |some i=>
  rw[sk] at ag
  simp only[Option.map_some,Option.some.injEq,Prod.mk.injEq] at ag
  exact⟨i,rfl,ag.1,ag.2⟩
theorem JE{i:TypeInfo}(ag:i.bytes=1){n:Nat}(aH:n<=1000000000):jA n i.bytes=true:=by
 rw[ag]
 have:(4*n+2048)*(1+1)<=281474976710656:=by omega
 simpa[jA] using this
theorem zJ(n b B:Nat)(h:ab)(w s:List UInt8)(ae:ix B b h w)(ar:w.length+s.length<=1000000000):∃ao,Y (n+3) (.fn 25) [.ptr b 0,.str s] h=.ret (.aJ [.int .i64 (Int.ofNat s.length),.ea]) ao/\ix B b ao (w++s)/\lu 5 b B h ao:=by
 obtain⟨a,v,aj,aw,zK,jy,TE,oK⟩:=ae
 obtain⟨aa,aT,al,aM,de⟩:=DQ n b h v (by omega) (by rcases aw with rfl|rfl;exact .inl aj;exact .inr aj)
 have bn:nS B 5 aa v w:=zK.ext (by omega) λc af _=>de c (by omega)
 obtain⟨i,sk,zL,vX⟩:=JD
 obtain⟨v',ad,b8,cG,dw⟩:=HN (P:=Tryd.prog) (B:=B) (sT:=22) (xT:=some 9) (e:=5) (z:=.int .u8 (Int.ofNat 0)) (by omega) (by kernel_rfl) (by kernel_rfl) sk zL (by kernel_rfl) rfl (JE vX ar) bn
 have aA:=(dw.get b jy).trans al
 have aH:=dw.n
 have TF:w++s=[]->v'=.bd:=by
  intro e
  obtain⟨rfl,rfl⟩:=List.append_eq_nil_iff.1 e
  obtain rfl:=oK rfl
  have:eh Tryd.prog aa 22 (some 9) .bd (.str [])=some (.bd,aa):=by
   have hu:Tryd.prog.underlying 22=some (.slice 5):=by kernel_rfl
   have hs:ni Tryd.prog (some 9)=true:=by kernel_rfl
   have aP:dt Tryd.prog 5=some (.int .u8 (Int.ofNat 0)):=by kernel_rfl
   simp only[eh,hu,hs,sk,aP,zL];rfl
  rw[this] at b8
  cases b8;rfl
 refine⟨ad.set b (some (.cells [.ptr b 0,v'] 70 .own 0 0)),?_,⟨.ptr b 0,v',ft rfl,.inr rfl,cG.ext (by simp) λc af _=>c5 (by omega) rfl,jy,by simp;omega,TF⟩,⟨⟨by simp;omega,λc af kD=>c5 kD ((dw.get c af).trans (de c kD))⟩,λd ak wJ mS=>?_⟩⟩
 · rcases cG with⟨rfl,_⟩|⟨c,r,rfl,_⟩
   · exact fH (intr:=b5) (n:=n+2) (args:=[.ptr b 0,.str s]) Tryd.func25 (by kernel_rfl) rfl (by kernel_rfl) (Jy (Y (n+2)) b s v h ad aa _ aT (a_ al rfl) b8 (gn aA rfl rfl)) (.inl rfl) (by kernel_rfl)
   · exact fH (intr:=b5) (n:=n+2) (args:=[.ptr b 0,.str s]) Tryd.func25 (by kernel_rfl) rfl (by kernel_rfl) (bws (Y (n+2)) b c _ s v h ad aa _ aT (a_ al rfl) b8 (gn aA rfl rfl)) (.inl rfl) (by kernel_rfl)
 · refine c5 wJ ((Qk b8 (by omega) ?_).trans (de d wJ))
   rintro o l c rfl
   rcases zK with⟨J,_⟩|⟨c',rest,J,af,_⟩
   · cases J
   · cases J
     exact mS _ _ _ af
theorem JF(n b B:Nat)(h:ab)(w:List UInt8)(ae:ix B b h w)(ar:w.length<=1000000000):∃ao,Y (n+1) (.fn 28) [.ptr b 0] h=.ret (.str w) ao/\Ext B h ao:=by
 obtain⟨a,v,g,aw,aD,jy,aH,oK⟩:=ae
 rcases aD with⟨rfl,rfl⟩|⟨c,rest,rfl,af,tH,nP⟩
 · have iV:nk Tryd.prog (ab.room h 12) 95 I.br (I.int IntKind.i64 (Int.ofNat 0))=some (.str [],ab.room h 12):=by kernel_rfl
   exact⟨_,fH (intr:=b5) (n:=n) (args:=[.ptr b 0]) Tryd.func28 (by kernel_rfl) rfl (by kernel_rfl) (JA (Y n) b h [] _ (a_ (h:=h.room 12) g rfl) iV) (.inl rfl) (by kernel_rfl),Ext.room _ _ _⟩
 · by_cases hw:w=[]
   · exact absurd (oK hw) (by simp)
   · have cF:w.length≠0:=by cases w<;>simp at hw⊢
     have dY:g5 Tryd.prog Builtin.unsafeSliceData (Array.mk [22]) [I.slice c 0 w.length (c7.aS 1)] (ab.room h 12)=fW.val (I.ptr c 0) (ab.room h 12):=by
      simp only[g5]
      exact if_neg cF
     have iV:=HQ (P:=Tryd.prog) (h:=h.room 12) (pT:=95) (u:=5) (c:=c) (e:=5) (w:=w) (rest:=rest) hw (by omega) (by kernel_rfl) (by kernel_rfl) (by kernel_rfl) af
     exact⟨_,fH (intr:=b5) (n:=n) (args:=[.ptr b 0]) Tryd.func28 (by kernel_rfl) rfl (by kernel_rfl) (Jz (Y n) b c w.length h w _ (a_ (h:=h.room 12) g rfl) dY iV) (.inl rfl) (by kernel_rfl),
      (Ext.room B h 12).trans (Nat.le_refl _) (Ext.set (by omega) _)⟩
abbrev m8(b:Nat):List I:=[.ptr b 0,.ptr (b+2) 0,.ptr (b+3) 0,.ptr (b+1) 0]
structure eX(b:Nat)(h0 x:ab)(w:a5):Prop where
 zM:ix (b+4) b x w
 one:x.get (b+1)=some (.cells [.fn 65 [] (m8 b)] 107 .own 0 0)
 uj:x.get (b+2)=some (.cells [.fn 63 [] [.ptr b 0,.ptr (b+1) 0]] 109 .own 0 0)
 mT:x.get (b+3)=some (.cells [.fn 64 [] []] 108 .own 0 0)
 ext:Ext b h0 x
abbrev g0(b:Nat)(x y:ab):Prop:=lu 5 b (b+4) x y
theorem eX.n{b:Nat}{h0 x:ab}{w:a5}(ae:eX b h0 x w):b+4<=x.n:=by obtain⟨_,_,_,_,_,_,h,_⟩:=ae.zM;exact h
theorem eX.JG{b:Nat}{h0 x y:ab}{w w':a5}(ae:eX b h0 x w)(aO:ix (b+4) b y w')(k:g0 b x y):eX b h0 y w':=
 ⟨aO,(k.x.get _ (by omega) (by omega)).trans ae.one,(k.x.get _ (by omega) (by omega)).trans ae.uj,(k.x.get _ (by omega) (by omega)).trans ae.mT,
  ae.ext.trans (Nat.le_refl _) ⟨k.x.n,λd ak=>k.x.get d (by omega) (by omega)⟩⟩
theorem eX.zN{b:Nat}{h0 x y:ab}{w:a5}(ae:eX b h0 x w)(e:Ext x.n x y):eX b h0 y w/\g0 b x y:=by
 have aH:=ae.n
 have an:g0 b x y:=lu.ext e aH
 refine⟨ae.JG ?_ an,an⟩
 obtain⟨a,v,aa,ad,aq,aC,bC,dd⟩:=ae.zM
 exact⟨a,v,(e.get b (by omega)).trans aa,ad,aq.ext e.n λc _ af=>e.get c af,aC,Nat.le_trans bC e.n,dd⟩
theorem eX.ws{b:Nat}{h0 x:ab}{w:a5}(n:Nat)(s:a5)(ae:eX b h0 x w)(ar:w.length+s.length<=1000000000):∃y,Y (n+3) (.fn 25) [.ptr b 0,.str s] x=.ret (.aJ [.int .i64 (Int.ofNat s.length),.ea]) y/\eX b h0 y (w++s)/\g0 b x y:=by
 obtain⟨y,c,aO,k⟩:=zJ n b (b+4) x w s ae.zM ar
 exact⟨y,c,ae.JG aO k,k⟩
theorem g0.own{b d:Nat}{x y:ab}{cs:List I}{e:Nat}(k:g0 b x y)(ak:d<x.n)(ae:d≠b)(aj:x.get d=some (.cells cs e .own 0 0)):d<y.n/\y.get d=some (.cells cs e .own 0 0):=
 ⟨Nat.lt_of_lt_of_le ak k.x.n,(k.k d ak ae (by rw[aj];intro cs aY up h;cases h)).trans aj⟩
theorem DR(m:Nat){b:Nat}{h0:ab}{v:I}{vs:List I}(sep:a5)(eK fz:Nat)(hv gL:List I)(A W Z:Nat->a5)(items:List a5)(K:ab->Prop)(cZ:∀x y,K x->g0 b x y->K y)(aD:ep b h0 v vs)(hlen:vs.length<=90000)(w2:items.length=vs.length)(qo:∀i (ag:i<items.length),items[i]=A i++W i++Z i)
  (h8:∀i x w,i<vs.length->eX b h0 x w->K x->Y (m+3) (.fn eK) (.int .i64 (Int.ofNat i)::hv) x=.ret (.str (A i)) x)
  (TG:∀i x w,i<vs.length->eX b h0 x w->K x->Y (m+3) (.fn fz) (.int .i64 (Int.ofNat i)::gL) x=.ret (.str (Z i)) x)
  (jM:∀i (ag:i<vs.length) x w,eX b h0 x w->K x->w.length+(W i).length<=1000000->∃y,Y (m+3) (.fn 65) (vs[i]::m8 b) x=.ret (.aJ []) y/\eX b h0 y (w++W i)/\g0 b x y)
  {x:ab}{w:a5}(J:eX b h0 x w)(JH:K x)(ar:w.length+(e5 sep items).length<=1000000):
  ∃y,Y (m+4) (.fn 63) [v,.str sep,.fn eK [] hv,.fn fz [] gL,.ptr b 0,.ptr (b+1) 0] x=.ret (.aJ []) y/\eX b h0 y (w++e5 sep items)/\g0 b x y:=by
 have iB:∀g,Ext b h0 g->cr Tryd.prog g 41 v=some (.int .i64 (Int.ofNat vs.length)):=λg x=>(aD.cL (hX.ext x (Nat.le_refl _))).len (t:=41) (e:=33) (by kernel_rfl)
 refine Tw (m+3) v sep eK fz b (b+1) hv gL x (R:=λr=>∃y,r=.ret (.aJ []) y/\eX b h0 y (w++e5 sep items)/\g0 b x y) ⟨vs.length,iB x J.ext,?_⟩
 refine a4.loop (by kernel_rfl) (λk st=>∃i y Γ,st=⟨Γ,[],.none,y⟩/\cd [(1,.str sep),(2,.fn eK [] hv),(3,.fn fz [] gL),(4,.ptr b 0),(5,.ptr (b+1) 0),(12,v),(13,.int .i64 (Int.ofNat vs.length)),(14,.int .i64 (Int.ofNat i))] Γ/\vs.length-i=k/\i<=vs.length/\eX b h0 y (w++e5 sep (items.take i))/\g0 b x y/\K y) ?_ vs.length _ (by omega) ⟨0,x,_,rfl,⟨rfl,rfl,rfl,rfl,rfl,rfl,rfl,rfl,trivial⟩,by omega,by omega,by simpa[e5] using J,lu.refl _ _ _ _,JH⟩
 rintro k st ⟨i,y,Γ,rfl,cR,an,ag,aO,hw,w3⟩
 by_cases aa:i<vs.length
 · have ad:i<items.length:=by omega
   rcases aD with⟨rfl,rfl⟩|⟨eC,off,cp,rfl,ae,ga,aL,ak⟩
   · simp at aa
   have t1:=IT sep items (i+1)
   have t2:=zy sep items ad
   have JI:=qo i ad
   have item:∀y cz,eX b h0 y cz->K y->cz.length+(items[i]).length<=1000000->∃a aA,Y (m+3) (.fn eK) (.int .i64 (Int.ofNat i)::hv) y=.ret (.str a) aA/\∃bR aU,Y (m+3) (.fn 25) [.ptr b 0,.str a] aA=.ret (.aJ [.int .i64 (Int.ofNat bR),.ea]) aU/\aB aU (b+1) 0=some (.fn 65 [] (m8 b))/\∃bB,Y (m+3) (.fn 65) (vs[i]::m8 b) aU=.ret (.aJ []) bB/\∃z bO,Y (m+3) (.fn fz) (.int .i64 (Int.ofNat i)::gL) bB=.ret (.str z) bO/\∃e_ dK,Y (m+3) (.fn 25) [.ptr b 0,.str z] bO=.ret (.aJ [.int .i64 (Int.ofNat e_),.ea]) dK/\eX b h0 dK (cz++items[i])/\g0 b y dK:=by
    intro y cz JJ DS qt
    rw[JI] at qt
    simp only[List.length_append] at qt
    obtain⟨aU,ef,dr,e_⟩:=JJ.ws m (A i) (by omega)
    obtain⟨bB,gl,gG,jK⟩:=jM i aa aU _ dr (cZ _ _ DS e_) (by simp;omega)
    have TH:=cZ _ _ (cZ _ _ DS e_) jK
    obtain⟨dK,w4,mf,rr⟩:=gG.ws m (Z i) (by simp;omega)
    refine⟨A i,y,h8 i y _ aa JJ DS,_,aU,ef,a_ dr.one rfl,bB,gl,Z i,bB,TG i bB _ aa gG TH,_,dK,w4,?_,(e_.trans jK).trans rr⟩
    rw[JI]
    simpa only[List.append_assoc] using mf
   have m9:∀dK,eX b h0 dK (w++e5 sep (items.take (i+1)))->g0 b y dK->(df (λs=>∃j,j<k/\(λk st=>∃i y Γ,st=⟨Γ,[],.none,y⟩/\cd [(1,.str sep),(2,.fn eK [] hv),(3,.fn fz [] gL),(4,.ptr b 0),(5,.ptr (b+1) 0),(12,.slice eC off vs.length cp),(13,.int .i64 (Int.ofNat vs.length)),(14,.int .i64 (Int.ofNat i))] Γ/\vs.length-i=k/\i<=vs.length/\eX b h0 y (w++e5 sep (items.take i))/\g0 b x y/\K y) j s) (λca ck=>∃(g:ab) (b3:Env),ca=.exit 0/\ck=⟨b3,[],.none,g⟩/\cd [] b3/\∃y,a7.ret (.aJ []) g=.ret (.aJ []) y/\eX b h0 y (w++e5 sep items)/\g0 b x y)) .nrm ⟨[(1,.str sep),(2,.fn eK [] hv),(3,.fn fz [] gL),(4,.ptr b 0),(5,.ptr (b+1) 0),(12,.slice eC off vs.length cp),(13,.int .i64 (Int.ofNat vs.length)),(14,.int .i64 (Int.ofNat (i+1)))],[],.none,dK⟩:=λdK mf rr=>
    ⟨_,(by show vs.length-(i+1)<k;omega),i+1,dK,_,rfl,⟨rfl,rfl,rfl,rfl,rfl,rfl,rfl,rfl,trivial⟩,rfl,by omega,mf,hw.trans rr,cZ _ _ w3 rr⟩
   refine a4.pre (Tx (Y (m+3)) sep eK fz b (b+1) eC off _ i 65 cp hv gL (m8 b) y ⟨λ_=>⟨aa,_,lr aO.ext ae (ga i aa),λvx=>?_,λvx=>?_⟩,λah=>absurd aa ah⟩) cR rfl rfl rfl
   · rw[if_pos vx] at t2
     rw[t2] at t1
     simp only[List.length_append] at t1
     obtain⟨al,aT,bn,bJ⟩:=aO.ws m sep (by simp;omega)
     obtain⟨a,aA,bp,bR,aU,ef,gl,bB,kq,z,bO,w4,e_,dK,DT,mf,b2⟩:=item al _ bn (cZ _ _ w3 bJ) (by simp;omega)
     exact⟨_,_,al,aT,a,aA,bp,bR,_,aU,ef,gl,bB,kq,z,bO,w4,e_,_,dK,DT,by omega,m9 dK (by rw[t2];simpa only[List.append_assoc] using mf) (bJ.trans b2)⟩
   · rw[if_neg vx] at t2
     rw[t2] at t1
     have da:items.take i=[]:=by rw[show i=0 by omega];rfl
     rw[da] at aO
     obtain⟨a,aA,bp,bR,aU,ef,gl,bB,kq,z,bO,w4,e_,dK,DT,mf,b2⟩:=item y _ aO w3 (by simp[e5];omega)
     exact⟨a,aA,bp,bR,_,aU,ef,gl,bB,kq,z,bO,w4,e_,_,dK,DT,by omega,m9 dK (by rw[t2];simpa[e5] using mf) b2⟩
 · refine a4.pre (Ty (Y (m+3)) sep eK fz b (b+1) vs.length i hv gL v y ⟨aa,y,_,rfl,rfl,trivial,y,rfl,?_,hw⟩) cR rfl rfl rfl
   rw[List.take_of_length_le (by omega)] at aO
   exact aO
theorem TI{k:Nat}(aa:1<=k)(bC:k<=5):hP Tryd.prog 9 [.str [],.str [97,110,121],.str [105,110,116],.str [98,111,111,108],.str [115,116,114],.str [110,105,108]] (k*1)=some (.str (word k)):=by
 have:k=1\/k=2\/k=3\/k=4\/k=5:=by omega
 rcases this with rfl|rfl|rfl|rfl|rfl<;>rfl
theorem JK{a b c:a5}:(a++b++c).length=a.length+b.length+c.length:=by simp;omega
theorem JL:∀(K:Nat) (t:aZ),sz t<=K->fD t=true->sz t<=100->∀(m b:Nat) (h0:ab) (v:I),2*sz t+6<=m->fE b h0 t v->∀(x:ab) (w:a5),eX b h0 x w->w.length+(wr t).length<=1000000->∃y,Y m (.fn 65) (v::m8 b) x=.ret (.aJ []) y/\eX b h0 y (w++wr t)/\g0 b x y
 |0,t,cZ,_,_,_,_,_,_,_,_,_,_,_,_=>by
  have:=ub t
  omega
 |K+1,.mk k nm ns xs rt,cZ,sl,jC,m,b,h0,v,hm,aD,x,w,J,ar=>by
  obtain⟨R,bZ,bf,dL,vs,b2,aY,up,rfl,ad,aq,aC,bC,dd,fm⟩:=aD
  have cV:=Dr _ sl
  rw[Jt] at sl
  simp only[Bool.and_eq_true,decide_eq_true_eq] at sl
  obtain⟨⟨bJ,wN⟩,jE,hC,JM⟩:=sl
  rw[okW] at cV
  simp only[Bool.and_eq_true,Bool.or_eq_true,decide_eq_true_eq] at cV
  obtain⟨⟨⟨⟨⟨_,_⟩,w5⟩,zO⟩,JH⟩,Ys⟩:=cV
  rw[o1] at cZ jC hm
  rw[I6] at ar
  obtain⟨m,rfl⟩:∃j,m=j+5:=⟨m-5,by omega⟩
  have kG:=fv.len dd
  have jk:=qu xs
  have mE:=zA xs
  have iC:∀i (i2:i<xs.length),fD xs[i]=true:=λi i2=>zB hC (List.getElem_mem i2)
  have a3:∀(u:aZ),sz u<=K->fD u=true->sz u<=100->∀(m b:Nat) (h0:ab) (v:I),2*sz u+6<=m->fE b h0 u v->∀(x:ab) (w:a5),eX b h0 x w->w.length+(wr u).length<=1000000->∃y,Y m (.fn 65) (v::m8 b) x=.ret (.aJ []) y/\eX b h0 y (w++wr u)/\g0 b x y:=JL K
  rw[I6]
  obtain⟨H,cQ⟩:∃H,H=x.push (.cells [.ptr R 0] 33 .own 0 0):=⟨_,rfl⟩
  have dU:Ext x.n x H:=by rw[cQ];exact Ext.push (Nat.le_refl _) _
  have n6:H.n=x.n+1:=by rw[cQ];rfl
  have qE:H.get x.n=some (.cells [.ptr R 0] 33 .own 0 0):=by rw[cQ];exact fI rfl
  obtain⟨qF,w6⟩:=J.zN dU
  have q4:=J.n
  have m_:∀y s,eX b h0 y s->y.get R=some (.cells [.int .i64 (Int.ofNat k),.str nm,bZ,bf,dL] 43 b2 aY up):=λy s aO=>(aO.ext.get R ad).trans aq
  have qG:∀y,g0 b H y->y.get x.n=some (.cells [.ptr R 0] 33 .own 0 0):=λy k=>(k.own (by omega) (by omega) qE).2
  have zP:∀n y s,eX b h0 y s->eX b h0 (y.room n) s/\g0 b y (y.room n):=λn y s aO=>aO.zN (Ext.room _ y n)
  have item:∀i (ag:i<vs.length) y s,eX b h0 y s->s.length+(wn (c0 xs) i).length<=1000000->∃z,Y (m+3) (.fn 65) (vs[i]::m8 b) y=.ret (.aJ []) z/\eX b h0 z (s++wn (c0 xs) i)/\g0 b y z:=λi ag y s aO ar=>by
   have i2:i<xs.length:=by omega
   have aP:=uc (List.getElem_mem i2)
   rw[show wn (c0 xs) i=wr xs[i] by simp[wn,mE,i2,Dq xs i i2]] at ar⊢
   exact a3 xs[i] (by omega) (iC i i2) (by omega) (m+3) b h0 vs[i] (by omega) (fv.get dd i ag i2) y s aO ar
  refine TB (m+4) b (b+2) (b+3) (b+1) R k nm bf dL x (R:=λr=>∃y,r=.ret (.aJ []) y/\eX b h0 y (w++gp.shape k nm ns (xs.map aZ.k) (c0 xs) (lD rt))/\g0 b x y) ?_
  rw[<-cQ]
  refine⟨a_ qE rfl,a_ (m_ H _ qF) rfl,λiS=>?_,λiS=>⟨λiA=>?_,λiA=>⟨λj5=>?_,λj5=>⟨λjD=>?_,λjD=>?_⟩⟩⟩⟩
  · subst iS
    have:(nm:a5).length<=161:=by
     have:se nm=true:=by simpa[gH] using JM
     unfold se at this
     simp only[Bool.and_eq_true,decide_eq_true_eq] at this
     exact this.1.2
    obtain⟨y,c,DU,k⟩:=qF.ws (m+1) nm (by omega)
    exact⟨a_ qE rfl,a_ (m_ H _ qF) rfl,_,_,y,c,y,rfl,DU,w6.trans k⟩
  · subst iA
    have kR:xs.length=ns.length:=by rcases w5 with w5|w5;exact absurd rfl w5;exact w5
    have hs:gp.shape 7 nm ns (xs.map aZ.k) (c0 xs) (lD rt)=[123]++e5 [44,32] (kV ns (c0 xs))++[125]:=rfl
    rw[hs] at ar⊢
    rw[JK] at ar
    simp only[List.length_cons,List.length_nil] at ar
    have w2:(kV ns (c0 xs)).length=vs.length:=by unfold kV;rw[List.length_zipWith];omega
    obtain⟨al,aT,bn,bJ⟩:=qF.ws (m+1) [123] (by simp;omega)
    obtain⟨gX,uk⟩:=zP 8 al _ bn
    have sm:=bJ.trans uk
    obtain⟨aA,bp,cJ,bR⟩:=DR m (v:=bf) (vs:=vs) [44,32] 66 64 [.ptr x.n 0] [] (λi=>wn ns i++[58,32]) (wn (c0 xs)) (λ_=>[]) (kV ns (c0 xs)) (λy=>g0 b H y) (λ_ _ k dA=>k.trans dA) bC (by omega) w2 (λi ag=>by
      have i1:i<ns.length:=by omega
      have i2:i<(c0 xs).length:=by omega
      rw[I7 ag i1 i2];simp[wn,i1,i2]) (λi y s ag aO an=>by
      have i1:i<ns.length:=by omega
      rcases aC.strs with⟨_,rfl⟩|⟨TJ,off,cp,rfl,ae,ga⟩
      · simp at i1
      refine Tz (m+2) i x.n y (R:=λr=>r=_) ⟨R,a_ (qG y an) rfl,TJ,off,_,cp,a_ (m_ y s aO) rfl,i1,ns[i],lr aO.ext ae (ga i i1),?_,?_⟩
      · have t2:=Rn [44,32] (kV ns (c0 xs)) (i:=i) (by omega)
        rw[I7 (by omega) i1 (by omega)] at t2
        simp at t2⊢;omega
      · simp[wn,i1])
     (λi y s ag aO an=>DP (m+2) i y (R:=λr=>r=_) rfl) (λi ag y s aO an ar=>item i ag y s aO ar) gX sm (by simp;omega)
    obtain⟨aU,ef,dr,e_⟩:=cJ.ws (m+1) [125] (by simp;omega)
    refine⟨_,_,al,aT,a_ gX.uj rfl,a_ (qG _ sm) rfl,a_ (m_ _ _ gX) rfl,a_ gX.mT rfl,aA,bp,bC.snd,_,_,aU,ef,aU,rfl,by simpa only[List.append_assoc] using dr,w6.trans (sm.trans (bR.trans e_))⟩
  · subst j5
    have hs:gp.shape 8 nm ns (xs.map aZ.k) (c0 xs) (lD rt)=[102,110,40]++e5 [44,32] (c0 xs)++[41,32,45,62,32]++lD rt:=rfl
    rw[hs] at ar⊢
    rw[List.length_append,JK] at ar
    simp only[List.length_cons,List.length_nil] at ar
    obtain⟨al,aT,bn,bJ⟩:=qF.ws (m+1) [102,110,40] (by simp;omega)
    obtain⟨gX,uk⟩:=zP 8 al _ bn
    have sm:=bJ.trans uk
    obtain⟨aA,bp,cJ,bR⟩:=DR m (v:=bf) (vs:=vs) [44,32] 64 64 [] [] (λ_=>[]) (wn (c0 xs)) (λ_=>[]) (c0 xs) (λy=>g0 b H y) (λ_ _ k dA=>k.trans dA) bC (by omega) (by omega) (λi ag=>by simp[wn,ag]) (λi y s ag aO an=>DP (m+2) i y (R:=λr=>r=_) rfl)
     (λi y s ag aO an=>DP (m+2) i y (R:=λr=>r=_) rfl) (λi ag y s aO an ar=>item i ag y s aO ar) gX sm (by simp;omega)
    obtain⟨aU,ef,dr,e_⟩:=cJ.ws (m+1) [41,32,45,62,32] (by simp;omega)
    obtain⟨DV,TK⟩:=zP 6 aU _ dr
    have JN:=sm.trans (bR.trans (e_.trans TK))
    cases rt with
    |none=>rcases zO with zO|zO<;>simp at zO
    |some u=>
     rw[o2] at cZ jC hm
     have TL:lD (some u)=wr u:=by rw[lD]
     rw[TL] at ar⊢
     have TM:fD u=true:=by simpa[gH,km] using JM
     obtain⟨bB,gl,gG,jK⟩:=a3 u (by omega) TM (by omega) (m+4) b h0 dL (by omega) fm (aU.room 6) _ DV (by simp;omega)
     exact⟨_,_,al,aT,a_ gX.uj rfl,a_ (qG _ sm) rfl,a_ (m_ _ _ gX) rfl,a_ gX.mT rfl,a_ gX.mT rfl,aA,bp,bC.snd,_,_,aU,ef,a_ DV.one rfl,a_ (qG _ JN) rfl,a_ (m_ _ _ DV) rfl,bB,gl,ht.snd (ot:=some u) fm,bB,rfl,by simpa only[List.append_assoc] using gG,w6.trans (JN.trans jK)⟩
  · subst jD
    have hs:gp.shape 9 nm ns (xs.map aZ.k) (c0 xs) (lD rt)=e5 [32,124,32] (mj (xs.map aZ.k) (c0 xs)):=rfl
    rw[hs] at ar⊢
    have w2:(mj (xs.map aZ.k) (c0 xs)).length=vs.length:=by unfold mj;rw[List.length_zipWith,List.length_map];omega
    obtain⟨gX,uk⟩:=zP 10 H _ qF
    obtain⟨al,dP⟩:∃g,g=(H.room 10).push (.cells [.str [40]] 9 .own 0 0):=⟨_,rfl⟩
    obtain⟨aA,tZ⟩:∃g,g=al.push (.cells [.str [41]] 9 .own 0 0):=⟨_,rfl⟩
    have aM:al.n=(H.room 10).n+1:=by rw[dP];rfl
    have bo:aA.n=al.n+1:=by rw[tZ];rfl
    have bM:Ext (H.room 10).n (H.room 10) al:=by rw[dP];exact Ext.push (Nat.le_refl _) _
    have cU:Ext al.n al aA:=by rw[tZ];exact Ext.push (Nat.le_refl _) _
    obtain⟨bn,bJ⟩:=gX.zN bM
    obtain⟨cJ,bR⟩:=bn.zN cU
    have aV:aA.get (H.room 10).n=some (.cells [.str [40]] 9 .own 0 0):=(cU.get _ (by omega)).trans (by rw[dP];exact fI rfl)
    have ba:aA.get al.n=some (.cells [.str [41]] 9 .own 0 0):=by rw[tZ];exact fI rfl
    have um:=gX.n
    have JO:=uk.trans bJ
    have DW:=JO.trans bR
    have TN:∀i (ag:i<vs.length),∃M,vs[i]=.ptr M 0/\∀y,Ext b h0 y->aB y M (0+0)=some (.int .i64 (Int.ofNat ((xs.map aZ.k)[i]?.getD 0))):=λi ag=>by
     have i2:i<xs.length:=by omega
     obtain⟨M,jV,wZ⟩:=(fv.get dd i ag i2).kind
     exact⟨M,jV,λy e=>by rw[wZ y e];simp[i2]⟩
    have jU:∀(q:Nat) (mk:a5),(∀y,g0 b aA y->y.get q=some (.cells [.str mk] 9 .own 0 0))->∀i y s,i<vs.length->eX b h0 y s->g0 b aA y->Y (m+3) (.fn 68) [.int .i64 (Int.ofNat i),.ptr x.n 0,.ptr q 0] y=.ret (.str (if(xs.map aZ.k)[i]?.getD 0=8 then mk else[])) y:=λq mk aE i y s ag aO an=>by
     obtain⟨M,jV,wZ⟩:=TN i ag
     rcases bC with⟨_,rfl⟩|⟨eC,off,cp,rfl,ae,ga,_⟩
     · simp at ag
     have ax:=ga i ag
     rw[jV] at ax
     refine TA (m+2) i x.n q y (R:=λr=>r=_) ⟨R,a_ (qG y (DW.trans an)) rfl,eC,off,_,cp,a_ (m_ y s aO) rfl,ag,M,lr aO.ext ae ax,_,wZ y aO.ext,λe=>⟨mk,a_ (aE y an) rfl,by rw[if_pos e]⟩,λe=>by rw[if_neg e]⟩
    obtain⟨aU,ef,dr,e_⟩:=DR m (v:=bf) (vs:=vs) [32,124,32] 68 68 [.ptr x.n 0,.ptr (H.room 10).n 0] [.ptr x.n 0,.ptr al.n 0] (λi=>if(xs.map aZ.k)[i]?.getD 0=8 then[40] else[]) (wn (c0 xs)) (λi=>if(xs.map aZ.k)[i]?.getD 0=8 then[41] else[]) (mj (xs.map aZ.k) (c0 xs)) (λy=>g0 b aA y) (λ_ _ k dA=>k.trans dA) bC (by omega) w2 (λi ag=>by
      have i1:i<(xs.map aZ.k).length:=by rw[List.length_map];omega
      have i2:i<(c0 xs).length:=by omega
      rw[RV ag i1 i2,show(xs.map aZ.k)[i]?.getD 0=(xs.map aZ.k)[i] by rw[List.getElem?_eq_getElem i1];rfl,show wn (c0 xs) i=(c0 xs)[i] by simp[wn,i2]]
      split<;>simp)
     (jU _ [40] (λy k=>(k.own (by omega) (by omega) aV).2)) (jU _ [41] (λy k=>(k.own (by omega) (by omega) ba).2)) (λi ag y s aO an ar=>item i ag y s aO ar) cJ (lu.refl _ _ _ _) (by omega)
    refine⟨a_ gX.uj rfl,a_ (qG _ uk) rfl,a_ (m_ _ _ gX) rfl,_,al,JB (m+3) [40] x.n (H.room 10) (R:=λr=>r=_) (by rw[<-dP]),_,aA,JB (m+3) [41] x.n al (R:=λr=>r=_) (by rw[<-tZ]),aU,ef,a_ cJ.uj rfl,a_ bn.uj rfl,a_ (qG _ DW) rfl,a_ (qG _ JO) rfl,bC.snd,a_ (m_ _ _ cJ) rfl,a_ (m_ _ _ bn) rfl,aU,rfl,dr,w6.trans (DW.trans e_)⟩
  · have hs:gp.shape k nm ns (xs.map aZ.k) (c0 xs) (lD rt)=word k:=by
      unfold gp.shape
      rw[if_neg iS,if_neg iA,if_neg j5,if_neg jD]
    rw[hs] at ar⊢
    obtain⟨y,c,DU,w3⟩:=qF.ws (m+1) (word k) (by omega)
    exact⟨a_ qE rfl,a_ (m_ H _ qF) rfl,word k,⟨by omega,TI bJ (by omega)⟩,_,_,y,c,y,rfl,DU,w6.trans w3⟩
theorem TO:Ju:=λu sl jC m B h v hm c3 aD=>by
 obtain⟨m,rfl⟩:∃j,m=j+2:=⟨m-2,by omega⟩
 have mE:=Du u sl
 obtain⟨R,rfl⟩:∃R,v=.ptr R 0:=by
  cases u with
  |mk bJ bR e_ jK iF=>obtain⟨R,_,_,_,_,_,_,_,rfl,_⟩:=aD;exact⟨R,rfl⟩
 refine TC (m+1) R h ?_
 obtain⟨eH,uo⟩:∃p,p=h.push (.cells [.br,.bd] 70 .own 0 0):=⟨_,rfl⟩
 obtain⟨fB,pb⟩:∃p,p=eH.push (.cells [.eY] 107 .own 0 0):=⟨_,rfl⟩
 obtain⟨j4,uq⟩:∃p,p=fB.push (.cells [.eY] 109 .own 0 0):=⟨_,rfl⟩
 rw[<-uo,<-pb,<-uq]
 have aM:eH.n=h.n+1:=by rw[uo];rfl
 have bo:fB.n=h.n+2:=by rw[pb];show eH.n+1=_;omega
 have bF:j4.n=h.n+3:=by rw[uq];show fB.n+1=_;omega
 rw[aM,bo]
 obtain⟨lT,zQ⟩:∃p,p=j4.set (h.n+2) (some (.cells [.fn 63 [] [.ptr h.n 0,.ptr (h.n+1) 0]] 109 .own 0 0)):=⟨_,rfl⟩
 have b4:lT.n=h.n+3:=by rw[zQ];exact bF
 have st1:a8.storeCells j4 (h.n+2) 0 [.fn 63 [] [.ptr h.n 0,.ptr (h.n+1) 0]]=some lT:=by
  rw[zQ];exact gn (cs:=[.eY]) (by rw[uq];exact fI bo.symm) rfl rfl
 obtain⟨DX,w7⟩:∃p,p=lT.push (.cells [.eY] 108 .own 0 0):=⟨_,rfl⟩
 obtain⟨ur,w8⟩:∃p,p=DX.set (h.n+3) (some (.cells [.fn 64 [] []] 108 .own 0 0)):=⟨_,rfl⟩
 have cO:ur.n=h.n+4:=by rw[w8];show DX.n=_;rw[w7];show lT.n+1=_;omega
 have mP:a8.storeCells DX (h.n+3) 0 [.fn 64 [] []]=some ur:=by
  rw[w8];exact gn (cs:=[.eY]) (by rw[w7];exact fI b4.symm) rfl rfl
 have bO:∀d,d≠h.n+2->d<h.n+3->ur.get d=j4.get d:=λd aa ad=>by
  rw[w8,ab.cD,if_neg (by omega),w7,ab.fA,if_neg (by omega),zQ,ab.cD,if_neg aa]
 have ba:j4.get (h.n+1)=some (.cells [.eY] 107 .own 0 0):=by
  rw[uq,ab.fA,if_neg (by omega),pb];exact fI aM.symm
 have aV:j4.get h.n=some (.cells [.br,.bd] 70 .own 0 0):=by
  rw[uq,ab.fA,if_neg (by omega),pb,ab.fA,if_neg (by omega),uo];exact fI rfl
 obtain⟨uu,qH⟩:∃p,p=ur.set (h.n+1) (some (.cells [.fn 65 [] (m8 h.n)] 107 .own 0 0)):=⟨_,rfl⟩
 have DY:a8.storeCells ur (h.n+1) 0 [.fn 65 [] (m8 h.n)]=some uu:=by
  rw[qH];exact gn (cs:=[.eY]) ((bO _ (by omega) (by omega)).trans ba) rfl rfl
 have di:uu.n=h.n+4:=by rw[qH];exact cO
 have iA:Ext h.n h uu:=⟨by omega,λd ak=>by
  rw[qH,ab.cD,if_neg (by omega),bO d (by omega) (by omega),uq,ab.fA,if_neg (by omega),pb,ab.fA,if_neg (by omega),uo,ab.fA,if_neg (by omega)]⟩
 have box:eX h.n h uu []:=by
  refine⟨⟨.br,.bd,?_,.inl rfl,.inl ⟨rfl,rfl⟩,by omega,by omega,λ_=>rfl⟩,?_,?_,?_,iA⟩
  · rw[qH,ab.cD,if_neg (by omega),bO _ (by omega) (by omega)];exact aV
  · rw[qH];exact ft rfl
  · rw[qH,ab.cD,if_neg (by omega),w8,ab.cD,if_neg (by omega),w7,ab.fA,if_neg (by omega),zQ];exact ft rfl
  · rw[qH,ab.cD,if_neg (by omega),w8];exact ft rfl
 obtain⟨y,aT,bn,bJ⟩:=JL (sz u) u (Nat.le_refl _) sl jC (m+1) h.n h (.ptr R 0) (by omega) (fE.le c3 _ _ aD) uu [] box (by simp;omega)
 rw[List.nil_append] at bn
 obtain⟨z,bp,cU⟩:=JF m h.n (h.n+4) y (wr u) bn.zM (by omega)
 refine⟨lT,st1,ur,?_,uu,?_,m8 h.n,?_,y,aT,wr u,z,bp,cx.mk ⟨?_,λd ak=>?_⟩⟩
 · rw[b4,<-w7];exact mP
 · rw[b4];exact DY
 · rw[qH];exact a_ (ft rfl) rfl
 · have:=bJ.x.n;have:=cU.n;omega
 · rw[cU.get d (by omega),bJ.x.get d (by omega) (by omega),iA.get d (by omega)]
theorem TP{ot:Option aZ}{B:Nat}{h:ab}{v:I}(m:Nat)(jC:ev ot<=90000)(aH:∀t,ot=some t->jT t<=90000)(hm:4*ev ot+20<=m)(c3:B<=h.n)(aD:ht B h ot v):
  cx B h (.int .i64 (Int.ofNat (hY ot))) (Y (m+1) (.fn 18) [v] h):=by
 cases ot with
 |none=>
  obtain rfl:v=.br:=aD
  exact S7 m h (cx.mk (Ext.refl _ _))
 |some t=>
  have bh:ev (some t)=sz t:=o2 t
  obtain⟨R,rfl⟩:∃R,v=.ptr R 0:=by
   cases t with
   |mk bJ bR e_ jK iF=>obtain⟨R,_,_,_,_,_,_,_,rfl,_⟩:=aD;exact⟨R,rfl⟩
  obtain⟨m,rfl⟩:∃j,m=j+1:=⟨m-1,by omega⟩
  obtain⟨al,aT,bM⟩:=RO (m-1) jC c3 aD (by omega)
  replace bM:=bM.le c3
  rw[show m-1+2=m+1 by omega] at aT
  rw[bh] at aT jC hm
  refine S6 (m+1) R h ⟨_,al,aT,λzD=>?_,λzD=>?_⟩
  · exact cx.of (by rw[hY,if_pos (by omega)]) bM
  · obtain⟨aA,bp,cU⟩:=Jv TO (sz t) t (Nat.le_refl _) (by omega) (aH t rfl) (m+1) B al (.ptr R 0) (by omega) (Nat.le_trans c3 bM.n) (fE.cL (hX.ext bM (Nat.le_refl _)) _ _ aD)
    have w9:=bM.trans (Nat.le_refl _) cU
    refine⟨_,aA,bp,λae=>?_,λae=>?_⟩
    · have:fD t=true:=by simpa using ae
      exact cx.of (by rw[hY,if_neg (by omega),if_pos this]) w9
    · have:fD t=false:=by simpa using ae
      exact cx.of (by rw[hY,if_neg (by omega),if_neg (by rw[this];simp)]) w9
end Go.Proofs.hK
