/-
  PROVED HERE: contracts of functions (Dg). No condition beside each statement's own.
-/
import Derived.Test.YtfooahfebojldaaGreatDoorDf
import Derived.Test.YtfooahfebojldaaGreatDoorTx
set_option linter.unusedVariables false
set_option linter.unusedSimpArgs false
namespace Go.Proofs.cf
open Go ay Go.Proofs cS
set_option maxRecDepth 100000
set_option maxHeartbeats 1000000
theorem Ya(m:Nat)(r:Nat)(h:aa){R:ax->Prop}(H:∃aQ:Nat,aA h r (0+0)=some (.int .i64 (.ofNat aQ))/\∃s1:List UInt8,aA h r (0+1)=some (.str s1)/\(cw s1 []=true->∃v1:J,aA h r (0+2)=some v1/\∃bw:Nat,cO Tryz.prog h 48 v1=some (.int .i64 (.ofNat bw))/\(bw=0->∃v2:J,aA h r (0+3)=some v2/\∃cl:Nat,cO Tryz.prog h 49 v2=some (.int .i64 (.ofNat cl))/\(cl=0->∃cC:Nat,aA h r (0+4)=some (.ptr cC 0)/\R (.ret (.bool (hK true (de (.ofNat aQ) (.ofNat 8)))) h))/\(¬cl=0->(7<=aQ->∃c5:Nat,aA h r (0+4)=some (.ptr c5 0)/\R (.ret (.bool (hK true (de (.ofNat aQ) (.ofNat 8)))) h))/\(¬7<=aQ->R (.ret (.bool false) h))))/\(¬bw=0->(aQ=7->∃dr:J,aA h r (0+3)=some dr/\∃dV:Nat,cO Tryz.prog h 49 dr=some (.int .i64 (.ofNat dV))/\(dV=0->∃fo:Nat,aA h r (0+4)=some (.ptr fo 0)/\R (.ret (.bool (hK true (de (.ofNat aQ) (.ofNat 8)))) h))/\(¬dV=0->(7<=aQ->∃kr:Nat,aA h r (0+4)=some (.ptr kr 0)/\R (.ret (.bool (hK true (de (.ofNat aQ) (.ofNat 8)))) h))/\(¬7<=aQ->R (.ret (.bool false) h))))/\(¬aQ=7->R (.ret (.bool false) h))))/\(cw s1 []=false->(aQ=6->∃v4:J,aA h r (0+2)=some v4/\∃j3:Nat,cO Tryz.prog h 48 v4=some (.int .i64 (.ofNat j3))/\(j3=0->∃gO:J,aA h r (0+3)=some gO/\∃hM:Nat,cO Tryz.prog h 49 gO=some (.int .i64 (.ofNat hM))/\(hM=0->∃y9:Nat,aA h r (0+4)=some (.ptr y9 0)/\R (.ret (.bool (hK true (de (.ofNat aQ) (.ofNat 8)))) h))/\(¬hM=0->(7<=aQ->∃oO:Nat,aA h r (0+4)=some (.ptr oO 0)/\R (.ret (.bool (hK true (de (.ofNat aQ) (.ofNat 8)))) h))/\(¬7<=aQ->R (.ret (.bool false) h))))/\(¬j3=0->(aQ=7->∃v6:J,aA h r (0+3)=some v6/\∃uJ:Nat,cO Tryz.prog h 49 v6=some (.int .i64 (.ofNat uJ))/\(uJ=0->∃Cq:Nat,aA h r (0+4)=some (.ptr Cq 0)/\R (.ret (.bool (hK true (de (.ofNat aQ) (.ofNat 8)))) h))/\(¬uJ=0->(7<=aQ->∃Cr:Nat,aA h r (0+4)=some (.ptr Cr 0)/\R (.ret (.bool (hK true (de (.ofNat aQ) (.ofNat 8)))) h))/\(¬7<=aQ->R (.ret (.bool false) h))))/\(¬aQ=7->R (.ret (.bool false) h))))/\(¬aQ=6->R (.ret (.bool false) h)))):
  R (Y (m+1) (.fn 101) [.ptr r 0] h):=
 dH (intr:=b7) [] [(0,.v (.ptr r 0))] Tryz.func101 (by kernel_rfl) (by kernel_rfl) (by kernel_rfl) rfl (Eq.mp (by kernel_rfl) H)
theorem Yb(m:Nat)(r:Nat)(h:aa){R:ax->Prop}(H:∃aQ:Nat,aA h r (0+0)=some (.int .i64 (.ofNat aQ))/\∃s1:List UInt8,aA h r (0+1)=some (.str s1)/\(cw s1 []=true->∃v1:J,aA h r (0+2)=some v1/\∃bw:Nat,cO Tryz.prog h 48 v1=some (.int .i64 (.ofNat bw))/\(bw=0->∃v2:J,aA h r (0+3)=some v2/\∃cl:Nat,cO Tryz.prog h 49 v2=some (.int .i64 (.ofNat cl))/\(cl=0->aA h r (0+4)=some .bc/\R (.ret (.bool (hK false (de (.ofNat aQ) (.ofNat 8)))) h))/\(¬cl=0->(7<=aQ->aA h r (0+4)=some .bc/\R (.ret (.bool (hK false (de (.ofNat aQ) (.ofNat 8)))) h))/\(¬7<=aQ->R (.ret (.bool false) h))))/\(¬bw=0->(aQ=7->∃dr:J,aA h r (0+3)=some dr/\∃cC:Nat,cO Tryz.prog h 49 dr=some (.int .i64 (.ofNat cC))/\(cC=0->aA h r (0+4)=some .bc/\R (.ret (.bool (hK false (de (.ofNat aQ) (.ofNat 8)))) h))/\(¬cC=0->(7<=aQ->aA h r (0+4)=some .bc/\R (.ret (.bool (hK false (de (.ofNat aQ) (.ofNat 8)))) h))/\(¬7<=aQ->R (.ret (.bool false) h))))/\(¬aQ=7->R (.ret (.bool false) h))))/\(cw s1 []=false->(aQ=6->∃v4:J,aA h r (0+2)=some v4/\∃c5:Nat,cO Tryz.prog h 48 v4=some (.int .i64 (.ofNat c5))/\(c5=0->∃gO:J,aA h r (0+3)=some gO/\∃dV:Nat,cO Tryz.prog h 49 gO=some (.int .i64 (.ofNat dV))/\(dV=0->aA h r (0+4)=some .bc/\R (.ret (.bool (hK false (de (.ofNat aQ) (.ofNat 8)))) h))/\(¬dV=0->(7<=aQ->aA h r (0+4)=some .bc/\R (.ret (.bool (hK false (de (.ofNat aQ) (.ofNat 8)))) h))/\(¬7<=aQ->R (.ret (.bool false) h))))/\(¬c5=0->(aQ=7->∃v6:J,aA h r (0+3)=some v6/\∃fo:Nat,cO Tryz.prog h 49 v6=some (.int .i64 (.ofNat fo))/\(fo=0->aA h r (0+4)=some .bc/\R (.ret (.bool (hK false (de (.ofNat aQ) (.ofNat 8)))) h))/\(¬fo=0->(7<=aQ->aA h r (0+4)=some .bc/\R (.ret (.bool (hK false (de (.ofNat aQ) (.ofNat 8)))) h))/\(¬7<=aQ->R (.ret (.bool false) h))))/\(¬aQ=7->R (.ret (.bool false) h))))/\(¬aQ=6->R (.ret (.bool false) h)))):
  R (Y (m+1) (.fn 101) [.ptr r 0] h):=
 dH (intr:=b7) [(45,.bW (.is .bc))] [(0,.v (.ptr r 0))] Tryz.func101 (by kernel_rfl) (by kernel_rfl) (by kernel_rfl) rfl (Eq.mp (by kernel_rfl) H)
theorem Yc(m:Nat)(r:Nat)(h:aa){R:ax->Prop}(H:∃aQ:Nat,aA h r (0+0)=some (.int .i64 (.ofNat aQ))/\(aQ<1->R (.ret (.bool false) h))/\(¬aQ<1->∃bw:Nat,aA h r (0+0)=some (.int .i64 (.ofNat bw))/\(9<bw->R (.ret (.bool false) h))/\(¬9<bw->∃bh:Bool,∃al:aa,(Y m) (.fn 101) [.ptr r 0] h=.ret (.bool bh) al/\(bh=true->∃v1:J,aA al r (0+3)=some v1/\∃bf:Bool,∃ak:aa,(Y m) (.fn 103) [v1,.fn 102 [] []] al=.ret (.bool bf) ak/\(bf=true->R (.ret (.bool false) ak))/\(bf=false->∃cl:Nat,aA ak r (0+0)=some (.int .i64 (.ofNat cl))/\(cl=6->∃s1:List UInt8,aA ak r (0+1)=some (.str s1)/\∃dM:Bool,∃aS:aa,(Y m) (.fn 104) [.str s1,.str [45,47,46],.int .i64 (.ofNat 161)] ak=.ret (.bool dM) aS/\R (.ret (.bool dM) aS))/\(¬cl=6->(cl=7->∃v2:J,aA (ak.room 27) r (0+2)=some v2/\∃cC:Nat,cO Tryz.prog (ak.room 27) 48 v2=some (.int .i64 (.ofNat cC))/\∃dr:J,aA (ak.room 27) r (0+3)=some dr/\∃c5:Nat,cO Tryz.prog (ak.room 27) 49 dr=some (.int .i64 (.ofNat c5))/\(cC=c5->∃v4:J,aA (ak.room 27) r (0+2)=some v4/\∃jZ:Bool,∃bb:aa,(Y m) (.fn 105) [v4,.fn 106 [] []] (ak.room 27)=.ret (.bool jZ) bb/\(jZ=true->J.sound v2=true/\J.sound dr=true/\J.sound v4=true/\R (.ret (.bool false) bb))/\(jZ=false->∃gO:J,aA bb r (0+2)=some gO/\∃oD:Bool,∃ch:aa,(Y m) (.fn 108) [gO,.fn 109 [] []] bb=.ret (.bool oD) ch/\J.sound v2=true/\J.sound dr=true/\J.sound v4=true/\J.sound gO=true/\R (.ret (.bool oD) ch)))/\(¬cC=c5->J.sound v2=true/\J.sound dr=true/\R (.ret (.bool false) (ak.room 27))))/\(¬cl=7->(cl=8->∃v6:J,aA ak r (0+4)=some v6/\∃j0:Bool,∃cc:aa,(Y m) (.fn 90) [v6] ak=.ret (.bool j0) cc/\R (.ret (.bool j0) cc))/\(¬cl=8->(cl=9->∃mW:J,aA ak r (0+3)=some mW/\∃dV:Nat,cO Tryz.prog ak 49 mW=some (.int .i64 (.ofNat dV))/\(2<=dV->∃lI:J,aA ak r (0+3)=some lI/\∃qZ:Bool,∃bY:aa,(Y m) (.fn 103) [lI,.fn 110 [] []] ak=.ret (.bool qZ) bY/\(qZ=true->R (.ret (.bool false) bY))/\(qZ=false->∃pY:J,aA bY r (0+3)=some pY/\∃nN:Bool,∃cJ:aa,(Y m) (.fn 111) [pY,.fn 112 [] []] bY=.ret (.bool nN) cJ/\R (.ret (.bool nN) cJ)))/\(¬2<=dV->R (.ret (.bool false) ak)))/\(¬cl=9->R (.ret (.bool true) ak)))))))/\(bh=false->R (.ret (.bool false) al))))):
  R (Y (m+1) (.fn 90) [.ptr r 0] h):=
 dH (intr:=b7) [(76,.bW .o)] [(0,.v (.ptr r 0))] Tryz.func90 (by kernel_rfl) (by kernel_rfl) (by kernel_rfl) rfl (Eq.mp (by kernel_rfl) H)
def lJ:aL:=[48,49,50,51,52,53,54,55,56,57]
theorem Yd:((List.range 256).all λn=>fE (Int.ofNat 0) (n3 n lJ 0)==nH n)=true:=by decide
theorem Ye(c:UInt8):fE (Int.ofNat 0) (n3 c.toNat lJ 0)=nH c.toNat:=by
 have:=List.all_eq_true.1 Yd c.toNat (by rw[List.mem_range];exact UInt8.toNat_lt c)
 simpa using this
theorem Yf(n:Nat)(s:aL)(c:Nat)(h:aa)(ah:c<256):Y (n+1) (.fn 161) [.str s,.int .u8 (Int.ofNat c)] h=.ret (.int .i64 (n3 c s 0)) h:=by
 have ag:Nat.blt c 256=true:=by simpa[Nat.blt_eq] using ah
 have af:b7 161 [.str s,.int .u8 (Int.ofNat c)] h=none:=by kernel_rfl
 have qF:Tryz.f161.body=none:=by rfl
 have ad:vn Tryz.prog Tryz.f161 Tryz.f161.name [.str s,.int .u8 (Int.ofNat c)] h=some (.int .i64 (n3 c s 0),h):=by
  have aJ:Tryz.f161.name= "internal/bytealg.IndexByteString" :=by rfl
  simp only[vn,aJ,if_true,ag]
 simp only[Y,e_,af,qk,Tryz.func161,qF,ad]
theorem Yg(m:Nat)(c:UInt8)(h:aa):Y (m+5) (.fn 118) [.str lJ,.str [c]] h=.ret (.bool (nH c.toNat)) h:=by
 rw[<-Ye]
 have c1:Y (m+2) (.fn 155) [.str lJ,.int .u8 (Int.ofNat c.toNat)] h=.ret (.int .i64 (n3 c.toNat lJ 0)) h:=
  Xi (m+1) lJ c.toNat h (R:=λx=>x=_) ⟨_,h,Yf m lJ c.toNat h (UInt8.toNat_lt _),rfl⟩
 have c2:Y (m+3) (.fn 150) [.str lJ,.str [c]] h=.ret (.int .i64 (n3 c.toNat lJ 0)) h:=
  Xh (m+2) lJ c h (R:=λx=>x=_) ⟨by simp[nk,lJ],by rfl,_,h,c1,rfl⟩
 have c3:Y (m+4) (.fn 144) [.str lJ,.str [c]] h=.ret (.int .i64 (n3 c.toNat lJ 0)) h:=
  Xg (m+3) lJ [c] h (R:=λx=>x=_) ⟨_,h,c2,rfl⟩
 exact Xf (m+4) lJ [c] h (R:=λx=>x=_) ⟨_,h,c3,rfl⟩
theorem Yh(n:Nat):(pQ n&&nH n)=false:=by
 unfold pQ nH
 simp only[Bool.and_eq_false_iff,Bool.or_eq_false_iff,decide_eq_false_iff_not]
 omega
theorem Yi(m B:Nat)(s:aL)(h:aa)(bN:B<=h.n):ca B h (.bool (mO s)) (Y (m+6) (.fn 107) [.str s] h):=by
 obtain⟨g,c1,bj⟩:=MJ (m+1) B pR s [] 24 h bN (by omega) (.inl ⟨rfl,rfl⟩)
 refine W9 (m+5) s h ⟨_,g,c1,λag=>?_,λag=>?_⟩
 · simp only[Bool.and_eq_true,decide_eq_true_eq] at ag
   obtain⟨⟨ab,ae⟩,av⟩:=ag
   cases s with
   |nil=>simp at ab
   |cons c s=>
    refine⟨[c],yE sA (by simp),_,g,Yg m c g,ca.of (fb ?_) bj⟩
    have ah:pR c.toNat=true:=by
     have:=List.all_eq_true.1 av c (by simp)
     simpa using this
    have aq:=Yh c.toNat
    unfold mO
    have bu:(c::s).all (λc=>pQ c.toNat||nH c.toNat)=true:=av
    rw[bu]
    have hw:(pQ c.toNat||nH c.toNat)=true:=ah
    simp only[Md,ab,ae,decide_true,Bool.true_and,Bool.and_true]
    revert aq hw
    cases pQ c.toNat<;>cases nH c.toNat<;>simp
 · refine ca.of (fb ?_) bj
   unfold mO
   have bu:s.all (λc=>pQ c.toNat||nH c.toNat)=s.all (λc=>pR c.toNat):=rfl
   rw[bu]
   revert ag
   cases decide (1<=s.length)<;>cases decide (s.length<=24)<;>cases s.all (λc=>pR c.toNat)<;>simp
def pZ(k:Nat)(s:aL)(N M:Nat)(o:Bool):Bool:=((cw s []||decide (k=6))&&((decide (N=0)||decide (k=7))&&(decide (M=0)||decide (7<=k))))&&(o==decide (k=8))
theorem Yj(m:Nat){R:Nat}{h:aa}{k:Nat}{s:aL}{b5 bJ dy:J}{cd:eZ}{aW up N M:Nat}{o:Bool}(ao:h.get R=some (.cells [.int .i64 (Int.ofNat k),.str s,b5,bJ,dy] 51 cd aW up))(aJ:cO Tryz.prog h 48 b5=some (.int .i64 (Int.ofNat N)))(aH:cO Tryz.prog h 49 bJ=some (.int .i64 (Int.ofNat M)))(a8:(dy=.bc/\o=false)\/(∃q,dy=.ptr q 0)/\o=true):
  Y (m+1) (.fn 101) [.ptr R 0] h=.ret (.bool (pZ k s N M o)) h:=by
 have fQ:=Cm k 8
 have fin:∀(b b':Bool),b=b'->(ax.ret (.bool b) h=.ret (.bool b') h):=λb b' e=>by rw[e]
 rcases a8 with⟨rfl,rfl⟩|⟨⟨q,rfl⟩,rfl⟩
 · refine Yb m R h (R:=λx=>x=.ret (.bool (pZ k s N M false)) h) ⟨k,aB ao rfl,s,aB ao rfl,λab=>⟨b5,aB ao rfl,N,aJ,λae=>⟨bJ,aB ao rfl,M,aH,λav=>⟨aB ao rfl,fin _ _ ?_⟩,λav=>⟨λaK=>⟨aB ao rfl,fin _ _ ?_⟩,λaK=>fin _ _ ?_⟩⟩,λae=>⟨λav=>⟨bJ,aB ao rfl,M,aH,λaK=>⟨aB ao rfl,fin _ _ ?_⟩,λaK=>⟨λbU=>⟨aB ao rfl,fin _ _ ?_⟩,λbU=>fin _ _ ?_⟩⟩,λav=>fin _ _ ?_⟩⟩,λab=>⟨λh0=>⟨b5,aB ao rfl,N,aJ,λae=>⟨bJ,aB ao rfl,M,aH,λav=>⟨aB ao rfl,fin _ _ ?_⟩,λav=>⟨λaK=>⟨aB ao rfl,fin _ _ ?_⟩,λaK=>fin _ _ ?_⟩⟩,λae=>⟨λav=>⟨bJ,aB ao rfl,M,aH,λaK=>⟨aB ao rfl,fin _ _ ?_⟩,λaK=>⟨λbU=>⟨aB ao rfl,fin _ _ ?_⟩,λbU=>fin _ _ ?_⟩⟩,λav=>fin _ _ ?_⟩⟩,λh0=>fin _ _ ?_⟩⟩<;>
    (unfold pZ;(try simp only[hK,fQ]);simp_all<;>omega)
 · refine Ya m R h (R:=λx=>x=.ret (.bool (pZ k s N M true)) h) ⟨k,aB ao rfl,s,aB ao rfl,λab=>⟨b5,aB ao rfl,N,aJ,λae=>⟨bJ,aB ao rfl,M,aH,λav=>⟨q,aB ao rfl,fin _ _ ?_⟩,λav=>⟨λaK=>⟨q,aB ao rfl,fin _ _ ?_⟩,λaK=>fin _ _ ?_⟩⟩,λae=>⟨λav=>⟨bJ,aB ao rfl,M,aH,λaK=>⟨q,aB ao rfl,fin _ _ ?_⟩,λaK=>⟨λbU=>⟨q,aB ao rfl,fin _ _ ?_⟩,λbU=>fin _ _ ?_⟩⟩,λav=>fin _ _ ?_⟩⟩,λab=>⟨λh0=>⟨b5,aB ao rfl,N,aJ,λae=>⟨bJ,aB ao rfl,M,aH,λav=>⟨q,aB ao rfl,fin _ _ ?_⟩,λav=>⟨λaK=>⟨q,aB ao rfl,fin _ _ ?_⟩,λaK=>fin _ _ ?_⟩⟩,λae=>⟨λav=>⟨bJ,aB ao rfl,M,aH,λaK=>⟨q,aB ao rfl,fin _ _ ?_⟩,λaK=>⟨λbU=>⟨q,aB ao rfl,fin _ _ ?_⟩,λbU=>fin _ _ ?_⟩⟩,λav=>fin _ _ ?_⟩⟩,λh0=>fin _ _ ?_⟩⟩<;>
    (unfold pZ;(try simp only[hK,fQ]);simp_all<;>omega)
end Go.Proofs.cf
namespace Go.Proofs.cf
open Go ay Go.Proofs cS
set_option maxRecDepth 100000
set_option maxHeartbeats 1000000
def wn(l:List aL)(i:Nat):aL:=(l[i]?).getD []
def q0(p:Option aL):List aL->Bool
 |[]=>true
 |x::l=>qS p x&&q0 (some x) l
theorem GI:∀(p:Option aL) (l:List aL),oI p l=(l.all mO&&q0 p l)
 |p,[]=>rfl
 |p,x::l=>by
  rw[oI,q0,GI (some x) l,List.all_cons]
  cases mO x<;>cases qS p x<;>cases l.all mO<;>rfl
theorem GJ:∀(p:Option aL) (iW:List Nat) (l:List aL),iW.length=l.length->uD p iW l=(iW.all (λk=>decide (k≠9)&&decide (k≠1))&&q0 p l)
 |p,[],[],_=>rfl
 |p,[],_::_,h=>by simp at h
 |p,_::_,[],h=>by simp at h
 |p,k::iW,x::l,h=>by
  rw[WO,q0,GJ (some x) iW l (by simpa using h),List.all_cons]
  cases (decide (k≠9)&&decide (k≠1))<;>cases qS p x<;>cases iW.all (λk=>decide (k≠9)&&decide (k≠1))<;>rfl
theorem MZ:∀(p:Option aL) (l:List aL),q0 p l=true<->(∀x,l[0]? =some x->qS p x=true)/\∀i,i+1<l.length->fq (wn l i) (wn l (i+1))=true
 |p,[]=>by simp[q0]
 |p,x::l=>by
  rw[q0,Bool.and_eq_true,MZ (some x) l]
  constructor
  · rintro⟨ab,ae,av⟩
    refine⟨λy a6=>by simp at a6;subst a6;exact ab,λi af=>?_⟩
    cases i with
    |zero=>
     cases l with
     |nil=>simp at af
     |cons y l=>simpa[wn,qS] using ae y (by simp)
    |succ i=>simpa[wn] using av i (by simpa using af)
  · rintro⟨ab,ae⟩
    refine⟨ab x (by simp),λy a6=>?_,λi af=>?_⟩
    · cases l with
      |nil=>simp at a6
      |cons z l=>
       simp at a6
       subst a6
       simpa[wn,qS] using ae 0 (by simp)
    · simpa[wn] using ae (i+1) (by simpa using af)
theorem M0(l:List aL):q0 none l=pW (wn l) l.length:=by
 rw[Bool.eq_iff_iff,MZ]
 unfold pW
 rw[Bool.not_eq_true',List.any_eq_false]
 constructor
 · rintro⟨_,h⟩ i af
   rw[List.mem_range] at af
   cases i with
   |zero=>simp
   |succ i=>simp[h i af]
 · intro h
   refine⟨λ_ _=>rfl,λi af=>?_⟩
   have:=h (i+1) (by rw[List.mem_range];exact af)
   simpa using this
def sD(l:List Bool)(i:Nat):Bool:=(l[i]?).getD false
theorem GK(l:List Bool):(List.range l.length).any (sD l)=l.any id:=by
 rw[Bool.eq_iff_iff,List.any_eq_true,List.any_eq_true]
 constructor
 · rintro⟨i,af,h⟩
   rw[List.mem_range] at af
   refine⟨l[i],List.getElem_mem af,?_⟩
   simpa[sD,af] using h
 · rintro⟨b,ag,h⟩
   obtain⟨i,af,rfl⟩:=List.getElem_of_mem ag
   exact⟨i,by simpa using af,by simpa[sD,af] using h⟩
theorem GL{α:Type}(f:α->Bool)(l:List α){i:Nat}(af:i<l.length):sD (l.map f) i=f l[i]:=by simp[sD,af]
theorem M1:∀xs:List a3,(xs.map (λu=>!g7 u)).any id=!me xs
 |[]=>rfl
 |x::xs=>by
  rw[me,List.map_cons,List.any_cons,M1 xs]
  cases g7 x<;>rfl
theorem GM{α:Type}(f:α->Bool):∀l:List α,(l.map (λx=>!f x)).any id=!l.all f
 |[]=>rfl
 |x::l=>by
  rw[List.map_cons,List.any_cons,List.all_cons,GM f l]
  cases f x<;>rfl
theorem M3(k:Nat)(bZ:aL)(ns:List aL)(xs:List a3)(rt:Option a3):g7 (.mk k bZ ns xs rt)=((decide (1<=k)&&decide (k<=9))&&(pZ k bZ ns.length xs.length rt.isSome&&(me xs&&iX k bZ ns (xs.map a3.k) (dx xs) xs.length (mQ rt)))):=by
 rw[Cf]
 congr 1
 by_cases e:k=6/\bZ=[]
 · obtain⟨rfl,rfl⟩:=e
   have:iX 6 [] ns (xs.map a3.k) (dx xs) xs.length (mQ rt)=false:=by simp[iX,sw]
   rw[this];simp
 · congr 1
   unfold wC pZ
   rw[uF]
   have cI:¬k=6\/¬bZ=[]:=by
    by_cases h:k=6
    · right;intro ae;exact e ⟨h,ae⟩
    · exact .inl h
   have qO:(0<ns.length)=¬ns.length=0:=by simp[Nat.pos_iff_ne_zero]
   have gp:(0<xs.length)=¬xs.length=0:=by simp[Nat.pos_iff_ne_zero]
   have l3:(7<=k)=¬k<7:=by simp
   simp only[qO,gp,l3,ne_eq,decide_not]
   rcases cI with cI|cI<;>simp only[cI,decide_false]<;>cases decide (k=6)<;>cases decide (bZ=[])<;>cases decide (ns.length=0)<;>cases decide (k=7)<;>cases decide (xs.length=0)<;>cases decide (k<7)<;>cases rt.isSome<;>cases decide (k=8)<;>rfl
abbrev M4:Prop:=∀(u:a3),g7 u=true->sz u<=100->∀(m B:Nat) (h:aa) (v:J),4*sz u+10<=m->B<=h.n->e4 B h u v->ca B h (.str (wr u)) (Y m (.fn 112) [v] h)
theorem M5(lu:M4):∀(K:Nat) (t:a3),sz t<=K->sz t<=100->hV t<=90000->∀(m B:Nat) (h:aa) (v:J),4*sz t+12<=m->B<=h.n->e4 B h t v->ca B h (.bool (g7 t)) (Y m (.fn 90) [v] h)
 |0,t,dO,_,_,_,_,_,_,_,_,_=>by
  have:=ss t
  omega
 |K+1,.mk k bZ ns xs rt,dO,fH,pk,m,B,h,v,hm,bN,aH=>by
  obtain⟨R,b5,bJ,dy,vs,cd,aW,up,rfl,ae,av,aK,bU,cB,eo⟩:=aH
  rw[uB] at dO fH hm
  rw[hV] at pk
  obtain⟨m,rfl⟩:∃j,m=j+5:=⟨m-5,by omega⟩
  have h2:=e5.len cB
  have od:=su xs
  have k1:=Cd xs
  have y_:(ns.map J.str).length=ns.length:=List.length_map _
  have bp:∀(u:a3),sz u<=K->sz u<=100->hV u<=90000->∀(m B:Nat) (h:aa) (v:J),4*sz u+12<=m->B<=h.n->e4 B h u v->ca B h (.bool (g7 u)) (Y m (.fn 90) [v] h):=M5 lu K
  rw[M3]
  have a8:(dy=.bc/\rt.isSome=false)\/(∃q,dy=.ptr q 0)/\rt.isSome=true:=by
   cases rt with
   |none=>exact .inl ⟨eo,rfl⟩
   |some u=>
    cases u with
    |mk ds eu jj pL wo=>obtain⟨W,_,_,_,_,_,_,_,rfl,_⟩:=eo;exact .inr ⟨⟨W,rfl⟩,rfl⟩
  have za:∀g,Ext B h g->cO Tryz.prog g 48 b5=some (.int .i64 (Int.ofNat ns.length)):=λg x=>by
   rw[<-y_];exact(aK.bM (fm.ext x (Nat.le_refl _))).len (t:=48) (e:=9) (by kernel_rfl)
  have dz:∀g,Ext B h g->cO Tryz.prog g 49 bJ=some (.int .i64 (Int.ofNat xs.length)):=λg x=>by
   rw[<-h2];exact(bU.bM (fm.ext x (Nat.le_refl _))).len (t:=49) (e:=47) (by kernel_rfl)
  have aY:=Yj (m+3) (N:=ns.length) (M:=xs.length) (o:=rt.isSome) av (za h (Ext.refl _ _)) (dz h (Ext.refl _ _)) a8
  have kk:∀g,Ext B h g->∀i (i1:i<vs.length) (i2:i<xs.length),e4 B g xs[i] vs[i]:=λg x i i1 i2=>e5.get (e5.bM (fm.ext x (Nat.le_refl _)) _ _ cB) i i1 i2
  refine Yc (m+4) R h ⟨k,aB av rfl,λbz=>ca.of (fb (by simp;omega)) (Ext.refl _ _),λbz=>⟨k,aB av rfl,λkp=>ca.of (fb (by simp;omega)) (Ext.refl _ _),λkp=>⟨_,h,aY,λag=>?_,λag=>?_⟩⟩⟩
  rotate_left
  · refine ca.of (fb ?_) (Ext.refl _ _)
    have:pZ k bZ ns.length xs.length rt.isSome=false:=by simpa using ag
    rw[this];simp
  have n9:pZ k bZ ns.length xs.length rt.isSome=true:=by simpa using ag
  have M6:(decide (1<=k)&&decide (k<=9))=true:=by simp;omega
  rw[M6,n9,Bool.true_and,Bool.true_and]
  obtain⟨g,c1,bj⟩:=MO (m+2) (B:=B) (h:=h) (v:=bJ) (vs:=vs) 102 [] (sD (xs.map (λu=>!g7 u))) bU (by omega) (λi i1 x ad=>by
   have i2:i<xs.length:=by omega
   have a0:=oF (List.getElem_mem i2)
   have aJ:=y2 (List.getElem_mem i2)
   obtain⟨g,c,y⟩:=bp xs[i] (by omega) (by omega) (by omega) (m+1) B x vs[i] (by omega) (Nat.le_trans bN ad.n) (kk x ad i i1 i2)
   rw[GL _ _ i2]
   exact XS (m+1) vs[i] x ⟨_,g,c,ca.of rfl y⟩)
  rw[show vs.length=(xs.map (λu=>!g7 u)).length by rw[List.length_map];exact h2,GK,M1] at c1
  refine⟨bJ,aB av rfl,_,g,c1,λag=>?_,λag=>?_⟩
  · refine ca.of (fb ?_) bj
    have:me xs=false:=by simpa using ag
    rw[this];rfl
  have iG:me xs=true:=by simpa using ag
  rw[iG,Bool.true_and]
  have ao:=(bj.get R ae).trans av
  have sy:=Nat.le_trans bN bj.n
  have tp:∀i (i2:i<xs.length),g7 xs[i]=true:=λi i2=>Ce iG (List.getElem_mem i2)
  have fin:∀{v:J} {w:Bool} {x:ax},w=iX k bZ ns (xs.map a3.k) (dx xs) xs.length (mQ rt)->ca B g (.bool w) x->ca B h (.bool (iX k bZ ns (xs.map a3.k) (dx xs) xs.length (mQ rt))) x:=by
   rintro v w x rfl ⟨an,rfl,y⟩
   exact ca.mk (bj.trans (Nat.le_refl _) y)
  refine⟨k,aB ao rfl,λeK=>?_,λeK=>⟨λeE=>?_,λeE=>⟨λfQ=>?_,λfQ=>⟨λgT=>?_,λgT=>?_⟩⟩⟩⟩
  · subst eK
    obtain⟨aS,c3,dj⟩:=MJ m B sv bZ [45,47,46] 161 g sy (by omega) (.inr ⟨rfl,rfl⟩)
    exact⟨bZ,aB ao rfl,_,aS,c3,fin (v:=.bc) (by simp[iX,sw]) (ca.mk dj)⟩
  · subst eE
    have GN:iX 7 bZ ns (xs.map a3.k) (dx xs) xs.length (mQ rt)=(decide (ns.length=xs.length)&&oI none ns):=by simp[iX]
    have sE:Ext B g (g.room 27):=Ext.room B g 27
    have pc:=bj.trans (Nat.le_refl _) sE
    have k6:=(sE.get R ae).trans ao
    have cC:=aK.bM (fm.ext pc (Nat.le_refl _))
    refine⟨b5,aB k6 rfl,_,za _ pc,bJ,aB k6 rfl,_,dz _ pc,λaJ=>?_,λaJ=>⟨aK.snd,bU.snd,fin (v:=.bc) (by rw[GN];simp[aJ]) (ca.mk sE)⟩⟩
    obtain⟨aS,c3,dj⟩:=XZ (m+2) (B:=B) (h:=g.room 27) (v:=b5) (vs:=ns.map .str) 106 [] (sD (ns.map (λs=>!mO s))) cC (by omega) (λi i1 x ad=>by
     have i2:i<ns.length:=by omega
     obtain⟨g,c,y⟩:=Yi (m-5) B ns[i] x (Nat.le_trans (Nat.le_trans sy sE.n) ad.n)
     rw[GL _ _ i2,List.getElem_map]
     rw[show m-5+6=m+1 by omega] at c
     exact XT (m+1) ns[i] x ⟨_,g,c,ca.of rfl y⟩)
    rw[show(ns.map J.str).length=(ns.map (λs=>!mO s)).length by simp,GK,GM] at c3
    refine⟨b5,aB k6 rfl,_,aS,c3,λag=>?_,λag=>?_⟩
    rotate_left
    · have hf:ns.all mO=true:=by simpa using ag
      have uK:=sE.trans (Nat.le_refl _) dj
      have Cs:=pc.trans (Nat.le_refl _) dj
      have hh:=(uK.get R ae).trans ao
      obtain⟨bb,c4,lB⟩:=X6 (m+1) (B:=B) (h:=aS) (v:=b5) (vs:=ns.map .str) 109 [] (wn ns) (Nat.le_trans sy uK.n) (aK.bM (fm.ext Cs (Nat.le_refl _))) (by omega) rfl (λi af=>by rw[List.getElem_map];rfl) (λi af=>⟨ns[i]'(by omega),by rw[List.getElem_map]⟩) (λi i1 x ad=>by
       have i2:i<ns.length:=by omega
       rw[List.getElem_map,show wn ns i=ns[i] by simp[wn,i2]]
       exact XU m ns[i] x (ca.mk (Ext.refl _ _)))
      rw[y_,<-M0] at c4
      exact⟨b5,aB hh rfl,_,bb,c4,aK.snd,bU.snd,aK.snd,aK.snd,fin (v:=.bc) (by rw[GN,GI,hf];simp[aJ]) (ca.mk (uK.trans (Nat.le_refl _) lB))⟩
    · have hf:ns.all mO=false:=by simpa using ag
      exact⟨aK.snd,bU.snd,aK.snd,fin (v:=.bc) (by rw[GN,GI,hf];simp) (ca.mk (sE.trans (Nat.le_refl _) dj))⟩
  · subst fQ
    cases rt with
    |none=>simp[pZ] at n9
    |some u=>
     rw[lD] at dO fH hm
     rw[oG] at pk
     obtain⟨aS,c3,dj⟩:=bp u (by omega) (by omega) (by omega) (m+4) B g dy (by omega) sy (e4.bM (fm.ext bj (Nat.le_refl _)) _ _ eo)
     exact⟨dy,aB ao rfl,_,aS,c3,fin (v:=.bc) (by simp[iX,mQ]) (ca.mk dj)⟩
  · subst gT
    have GO:iX 9 bZ ns (xs.map a3.k) (dx xs) xs.length (mQ rt)=(uD none (xs.map a3.k) (dx xs)&&decide (2<=xs.length)):=by simp[iX]
    have M7:(xs.map a3.k).length=(dx xs).length:=by rw[List.length_map,k1]
    refine⟨bJ,aB ao rfl,_,dz g bj,λpA=>?_,λpA=>fin (v:=.bc) (by rw[GO];simp[pA]) (ca.mk (Ext.refl _ _))⟩
    obtain⟨aS,c3,dj⟩:=MO (m+2) (B:=B) (h:=g) (v:=bJ) (vs:=vs) 110 [] (sD ((xs.map a3.k).map (λk=>!(decide (k≠9)&&decide (k≠1))))) (bU.bM (fm.ext bj (Nat.le_refl _))) (by omega) (λi i1 x ad=>by
     have i2:i<xs.length:=by omega
     have i3:i<(xs.map a3.k).length:=by rw[List.length_map];exact i2
     obtain⟨M,nO,zb⟩:=(e5.get cB i i1 i2).kind
     rw[GL _ _ i3,List.getElem_map,nO]
     have aw:=zb x (bj.trans (Nat.le_refl _) ad)
     refine XV (m+1) M x ⟨_,aw,λe=>ca.of (fb (by simp[e])) (Ext.refl _ _),λe=>⟨_,aw,ca.of (fb (by rw[Cm];simp[e])) (Ext.refl _ _)⟩⟩)
    rw[show vs.length=((xs.map a3.k).map (λk=>!(decide (k≠9)&&decide (k≠1)))).length by simp;exact h2,GK,GM] at c3
    refine⟨bJ,aB ao rfl,_,aS,c3,λag=>?_,λag=>?_⟩
    rotate_left
    · have hf:(xs.map a3.k).all (λk=>decide (k≠9)&&decide (k≠1))=true:=by simpa using ag
      have Cs:=bj.trans (Nat.le_refl _) dj
      have hh:=(dj.get R ae).trans ao
      obtain⟨bb,c4,lB⟩:=X_ (m+1) (B:=B) (h:=aS) (v:=bJ) (vs:=vs) 112 [] (wn (dx xs)) (Nat.le_trans sy dj.n) (bU.bM (fm.ext Cs (Nat.le_refl _))) (by omega) rfl (λi af=>(e5.get cB i af (by omega)).snd) (λi af=>by
       obtain⟨M,nO,_⟩:=(e5.get cB i af (by omega)).kind
       exact⟨M,nO⟩) (λi i1 x ad=>by
       have i2:i<xs.length:=by omega
       have a0:=oF (List.getElem_mem i2)
       have wD:=Cs.trans (Nat.le_refl _) ad
       rw[show wn (dx xs) i=wr xs[i] by simp[wn,k1,i2,Gm xs i i2]]
       exact lu xs[i] (tp i i2) (by omega) (m+1) x.n x vs[i] (by omega) (Nat.le_refl _) (e4.le (Nat.le_trans bN wD.n) _ _ (kk x wD i i1 i2)))
      rw[show vs.length=(dx xs).length by omega,<-M0] at c4
      exact⟨bJ,aB hh rfl,_,bb,c4,fin (v:=.bc) (by rw[GO,GJ _ _ _ M7,hf];simp[pA]) (ca.mk (dj.trans (Nat.le_refl _) lB))⟩
    · have hf:(xs.map a3.k).all (λk=>decide (k≠9)&&decide (k≠1))=false:=by simpa using ag
      exact fin (v:=.bc) (by rw[GO,GJ _ _ _ M7,hf];simp) (ca.mk dj)
  · exact fin (v:=.bc) (by simp[iX,eK,eE,fQ,gT]) (ca.mk (Ext.refl _ _))
end Go.Proofs.cf
namespace Go.Proofs.cf
open Go ay Go.Proofs cS
set_option maxRecDepth 100000
set_option maxHeartbeats 1000000
theorem Yk(call:aO->List J->aa->ax)(b:Nat)(h aX:aa)
  (H1:aA h b (0+0)=some .bc)
  (a7:ea Tryz.prog 164 186 (J.ptr b 0) h=fj.val (J.ptr b 0) h)
  (b1:call (.fn 151) [.ptr b 0] h=ax.ret (.ptr b 0) h)
  (b8:ea Tryz.prog 186 164 (J.ptr b 0) h=fj.val (J.ptr b 0) h)
  (dv:ay.storeCells h b (0+0) [.ptr b 0]=some aX):
  aN Tryz.prog Tryz.f145 none call [] (ar.mk [(0,.ptr b 0)] [] .none h) (.nrm)
   (ar.mk [] [] .none aX):=
 bI [] (hs:=[.v .bc,.v (.bool true),.b true,.v (.ptr b 0),.c (.ptr b 0) h,.v (.ptr b 0),.fS (.aD []) aX]) (by kernel_rfl)<| .cons H1<| .cons (by kernel_rfl:er Tryz.prog h BinOp.eql 164 (Operand.tmp 5) (Operand.const (Value.pointer none)) J.bc J.bc=some (J.bool true))<| .cons (by kernel_rfl:true=true)<| .cons a7<| .cons b1<| .cons b8<| .cons (⟨by kernel_rfl,dv,rfl⟩:some 1=some 1/\ay.storeCells h b (0+0) [J.ptr b 0]=some aX/\J.aD []=J.aD [])<| .nil
theorem Yl(call:aO->List J->aa->ax)(b:Nat)(h:aa)(b6:Bool)
  (H1:aA h b (0+0)=some (.ptr b 0))
  (a7:er Tryz.prog h BinOp.neq 164 (Operand.tmp 17) (Operand.tmp 18) (J.ptr b 0) (J.ptr b 0)=some (J.bool b6))
  (b1:b6=false):
  aN Tryz.prog Tryz.f145 none call [] (ar.mk [(0,.ptr b 0)] [] .none h) (.nrm)
   (ar.mk [] [] .none h):=
 bI [] (hs:=[.v (.ptr b 0),.v (.bool false),.b false,.v (.ptr b 0),.v (.bool b6),.b false]) (by kernel_rfl)<| .cons H1<| .cons (by kernel_rfl:er Tryz.prog h BinOp.eql 164 (Operand.tmp 5) (Operand.const (Value.pointer none)) (J.ptr b 0) J.bc=some (J.bool false))<| .cons (by kernel_rfl:false=false)<| .cons H1<| .cons a7<| .cons b1<| .nil
theorem bws(call:aO->List J->aa->ax)(b c m:Nat)(s:List UInt8)(v:J)(h ae aX dg:aa)
  (H1:call (.fn 145) [.ptr b 0] h=ax.ret (.aD []) aX)
  (a7:aA aX b (0+1)=some v)
  (b1:gl Tryz.prog aX 98 (some 9) v (J.str s)=some (J.slice c 0 m (cj.aM 1),ae))
  (b8:ay.storeCells ae b (0+1) [.slice c 0 m (.aM 1)]=some dg):
  aN Tryz.prog Tryz.f130 none call [] (ar.mk [(0,.ptr b 0),(1,.str s)] [] .none h) (.ret)
   (ar.mk [(4,.int .i64 (.ofNat (List.length s))),(5,.eO)] [] .none dg):=
 bI [4,5] (hs:=[.c (.aD []) aX,.v v,.fS (.slice c 0 m (.aM 1)) ae,.fS (.aD []) dg]) (by kernel_rfl)<| .cons H1<| .cons a7<| .cons b1<| .cons (⟨by kernel_rfl,b8,rfl⟩:some 1=some 1/\ay.storeCells ae b (0+1) [J.slice c 0 m (cj.aM 1)]=some dg/\J.aD []=J.aD [])<| .nil
theorem Ym(call:aO->List J->aa->ax)(b:Nat)(s:List UInt8)(v:J)(h ae aX dg:aa)
  (H1:call (.fn 145) [.ptr b 0] h=ax.ret (.aD []) aX)
  (a7:aA aX b (0+1)=some v)
  (b1:gl Tryz.prog aX 98 (some 9) v (J.str s)=some (J.az,ae))
  (b8:ay.storeCells ae b (0+1) [.az]=some dg):
  aN Tryz.prog Tryz.f130 none call [] (ar.mk [(0,.ptr b 0),(1,.str s)] [] .none h) (.ret)
   (ar.mk [(4,.int .i64 (.ofNat (List.length s))),(5,.eO)] [] .none dg):=
 bI [4,5] (hs:=[.c (.aD []) aX,.v v,.fS .az ae,.fS (.aD []) dg]) (by kernel_rfl)<| .cons H1<| .cons a7<| .cons b1<| .cons (⟨by kernel_rfl,b8,rfl⟩:some 1=some 1/\ay.storeCells ae b (0+1) [J.az]=some dg/\J.aD []=J.aD [])<| .nil
theorem Yn(call:aO->List J->aa->ax)(b c m:Nat)(h:aa)(cQ:List UInt8)(aX:aa)
  (H1:aA (aa.room h 12) b (0+1)=some (.slice c 0 m (.aM 1)))
  (a7:iD Tryz.prog Builtin.unsafeSliceData (Array.mk [98]) [.slice c 0 m (.aM 1)] (aa.room h 12)=fj.val (.ptr c 0) (aa.room h 12))
  (b1:qd Tryz.prog (aa.room h 12) 182 (J.ptr c 0) (J.int IntKind.i64 (Int.ofNat m))=some (J.str cQ,aX)):
  aN Tryz.prog Tryz.f136 none call [] (ar.mk [(0,.ptr b 0)] [] .none h) (.ret)
   (ar.mk [(2,.str cQ)] [] .none aX):=
 bI [2] (hs:=[.v (.slice c 0 m (.aM 1)),.v (.ptr c 0),.v (.slice c 0 m (.aM 1)),.fS (.str cQ) aX]) (by kernel_rfl)<| .cons H1<| .cons a7<| .cons H1<| .cons b1<| .cons (by kernel_rfl:J.sound (J.ptr b 0)=true)<| .cons (by kernel_rfl:J.ptr b 0=J.ptr b 0)<| .cons (by kernel_rfl:J.sound (J.ptr b 0)=true)<| .cons (by kernel_rfl:J.ptr b 0=J.ptr b 0)<| .cons (by kernel_rfl:J.sound (J.ptr b (0+1))=true)<| .cons (by kernel_rfl:J.ptr b (0+1)=J.ptr b (0+1))<| .cons (by kernel_rfl:J.sound (J.slice c 0 m (cj.aM 1))=true)<| .cons H1<| .cons (by kernel_rfl:J.sound (J.ptr c 0)=true)<| .cons a7<| .cons (by kernel_rfl:J.sound (J.ptr b 0)=true)<| .cons (by kernel_rfl:J.ptr b 0=J.ptr b 0)<| .cons (by kernel_rfl:J.sound (J.ptr b 0)=true)<| .cons (by kernel_rfl:J.ptr b 0=J.ptr b 0)<| .cons (by kernel_rfl:J.sound (J.ptr b (0+1))=true)<| .cons (by kernel_rfl:J.ptr b (0+1)=J.ptr b (0+1))<| .cons (by kernel_rfl:J.sound (J.slice c 0 m (cj.aM 1))=true)<| .cons H1<| .cons (by kernel_rfl:J.sound (J.int IntKind.i64 (Int.ofNat m))=true)<| .cons (by kernel_rfl:cO Tryz.prog (aa.room h 12) 98 (J.slice c 0 m (cj.aM 1))=some (J.int IntKind.i64 (Int.ofNat m)))<| .cons (by kernel_rfl:J.sound (J.str cQ)=true)<| .cons (by kernel_rfl:J.str cQ=J.str cQ)<| .nil
theorem Yo(call:aO->List J->aa->ax)(b:Nat)(h:aa)(cQ:List UInt8)(aX:aa)
  (H1:aA (aa.room h 12) b (0+1)=some .az)
  (a7:qd Tryz.prog (aa.room h 12) 182 J.bc (J.int IntKind.i64 (Int.ofNat 0))=some (J.str cQ,aX)):
  aN Tryz.prog Tryz.f136 none call [] (ar.mk [(0,.ptr b 0)] [] .none h) (.ret)
   (ar.mk [(2,.str cQ)] [] .none aX):=
 bI [2] (hs:=[.v .az,.v .bc,.v .az,.fS (.str cQ) aX]) (by kernel_rfl)<| .cons H1<| .cons (by kernel_rfl:iD Tryz.prog Builtin.unsafeSliceData (Array.mk [98]) [J.az] (aa.room h 12)=fj.val J.bc (aa.room h 12))<| .cons H1<| .cons a7<| .cons (by kernel_rfl:J.sound (J.ptr b 0)=true)<| .cons (by kernel_rfl:J.ptr b 0=J.ptr b 0)<| .cons (by kernel_rfl:J.sound (J.ptr b 0)=true)<| .cons (by kernel_rfl:J.ptr b 0=J.ptr b 0)<| .cons (by kernel_rfl:J.sound (J.ptr b (0+1))=true)<| .cons (by kernel_rfl:J.ptr b (0+1)=J.ptr b (0+1))<| .cons (by kernel_rfl:J.sound J.az=true)<| .cons H1<| .cons (by kernel_rfl:J.sound J.bc=true)<| .cons (by kernel_rfl:iD Tryz.prog Builtin.unsafeSliceData (Array.mk [98]) [J.az] (aa.room h 12)=fj.val J.bc (aa.room h 12))<| .cons (by kernel_rfl:J.sound (J.ptr b 0)=true)<| .cons (by kernel_rfl:J.ptr b 0=J.ptr b 0)<| .cons (by kernel_rfl:J.sound (J.ptr b 0)=true)<| .cons (by kernel_rfl:J.ptr b 0=J.ptr b 0)<| .cons (by kernel_rfl:J.sound (J.ptr b (0+1))=true)<| .cons (by kernel_rfl:J.ptr b (0+1)=J.ptr b (0+1))<| .cons (by kernel_rfl:J.sound J.az=true)<| .cons H1<| .cons (by kernel_rfl:J.sound (J.int IntKind.i64 (Int.ofNat 0))=true)<| .cons (by kernel_rfl:cO Tryz.prog (aa.room h 12) 98 J.az=some (J.int IntKind.i64 (Int.ofNat 0)))<| .cons (by kernel_rfl:J.sound (J.str cQ)=true)<| .cons (by kernel_rfl:J.str cQ=J.str cQ)<| .nil
theorem Yp(m:Nat)(v:J)(s:List UInt8)(e6:Nat)(fz:Nat)(b:Nat)(c:Nat)(iv:List J)(iw:List J)(h:aa){R:ax->Prop}(H:∃aQ:Nat,cO Tryz.prog h 49 v=some (.int .i64 (.ofNat aQ))/\bB Tryz.prog Tryz.f129 (Y m) [1,0] (ar.mk [(1,.str s),(2,.fn e6 [] iv),(3,.fn fz [] iw),(4,.ptr b 0),(5,.ptr c 0),(12,v),(13,.int .i64 (.ofNat aQ)),(14,.int .i64 (.ofNat 0))] [] .none h) (λc6 c0=>∃al:aa,∃bD:Env,c6=.exit 0/\c0=ar.mk bD [] .none al/\cZ [] bD/\R (.ret (.aD []) al))):
  R (Y (m+1) (.fn 129) [v,.str s,.fn e6 [] iv,.fn fz [] iw,.ptr b 0,.ptr c 0] h):=
 dH (intr:=b7) [(4000,.fw [1,2,3,4,5,12,13,14] [(.exit 0,[])])] [(0,.o v),(1,.v (.str s)),(2,.o (.fn e6 [] iv)),(3,.o (.fn fz [] iw)),(4,.v (.ptr b 0)),(5,.v (.ptr c 0))] Tryz.func129 (by kernel_rfl) (by kernel_rfl) (by kernel_rfl) rfl (Eq.mp (by kernel_rfl) H)
theorem Yq(call:aO->List J->aa->ax)(s:List UInt8)(e6:Nat)(fz:Nat)(b:Nat)(c:Nat)(dT:Nat)(off:Nat)(N:Nat)(i:Nat)(zc:Nat)(aG:cj)(iv:List J)(iw:List J)(co:List J)(h:aa){Q:bK->ar->Prop}(H:(i<N->i<N/\∃v1:J,aA h dT (off+i*1)=some v1/\(0<i->∃aQ:Nat,∃v2:J,∃al:aa,call (.fn 130) [.ptr b 0,.str s] h=.ret (.aD [.int .i64 (.ofNat aQ),v2]) al/\∃s1:List UInt8,∃ak:aa,call (.fn e6) (.int .i64 (.ofNat i)::iv) al=.ret (.str s1) ak/\∃bw:Nat,∃dr:J,∃aS:aa,call (.fn 130) [.ptr b 0,.str s1] ak=.ret (.aD [.int .i64 (.ofNat bw),dr]) aS/\aA aS c 0=some (.fn zc [] co)/\∃bb:aa,call (.fn zc) (v1::co) aS=.ret (.aD []) bb/\∃s2:List UInt8,∃ch:aa,call (.fn fz) (.int .i64 (.ofNat i)::iw) bb=.ret (.str s2) ch/\∃cl:Nat,∃v4:J,∃cc:aa,call (.fn 130) [.ptr b 0,.str s2] ch=.ret (.aD [.int .i64 (.ofNat cl),v4]) cc/\i+1<9223372036854775808/\Q .nrm (ar.mk [(1,.str s),(2,.fn e6 [] iv),(3,.fn fz [] iw),(4,.ptr b 0),(5,.ptr c 0),(12,.slice dT off N aG),(13,.int .i64 (.ofNat N)),(14,.int .i64 (.ofNat (i+1)))] [] .none cc))/\(¬0<i->∃bV:List UInt8,∃bY:aa,call (.fn e6) (.int .i64 (.ofNat i)::iv) h=.ret (.str bV) bY/\∃cC:Nat,∃gO:J,∃cJ:aa,call (.fn 130) [.ptr b 0,.str bV] bY=.ret (.aD [.int .i64 (.ofNat cC),gO]) cJ/\aA cJ c 0=some (.fn zc [] co)/\∃eA:aa,call (.fn zc) (v1::co) cJ=.ret (.aD []) eA/\∃cK:List UInt8,∃gk:aa,call (.fn fz) (.int .i64 (.ofNat i)::iw) eA=.ret (.str cK) gk/\∃c5:Nat,∃v6:J,∃eU:aa,call (.fn 130) [.ptr b 0,.str cK] gk=.ret (.aD [.int .i64 (.ofNat c5),v6]) eU/\i+1<9223372036854775808/\Q .nrm (ar.mk [(1,.str s),(2,.fn e6 [] iv),(3,.fn fz [] iw),(4,.ptr b 0),(5,.ptr c 0),(12,.slice dT off N aG),(13,.int .i64 (.ofNat N)),(14,.int .i64 (.ofNat (i+1)))] [] .none eU)))/\(¬i<N->Q (.exit 0) (ar.mk [(1,.str s),(2,.fn e6 [] iv),(3,.fn fz [] iw),(4,.ptr b 0),(5,.ptr c 0),(12,.slice dT off N aG),(13,.int .i64 (.ofNat N)),(14,.int .i64 (.ofNat i))] [] .none h))):
  bB Tryz.prog Tryz.f129 call [1,0,0] ⟨[(1,.str s),(2,.fn e6 [] iv),(3,.fn fz [] iw),(4,.ptr b 0),(5,.ptr c 0),(12,.slice dT off N aG),(13,.int .i64 (.ofNat N)),(14,.int .i64 (.ofNat i))],[],.none,h⟩ Q:=
 gN [(18,.bW .o),(27,.bW (.io (.fn zc [] co)))] [1,2,3,4,5,12,13,14] [(1,.v (.str s)),(2,.o (.fn e6 [] iv)),(3,.o (.fn fz [] iw)),(4,.v (.ptr b 0)),(5,.v (.ptr c 0)),(12,.v (.slice dT off N aG)),(13,.v (.int .i64 (.ofNat N))),(14,.v (.int .i64 (.ofNat i)))] rfl (Eq.mp (by kernel_rfl) H)
theorem Yr(call:aO->List J->aa->ax)(s:List UInt8)(e6:Nat)(fz:Nat)(b:Nat)(c:Nat)(N:Nat)(i:Nat)(iv:List J)(iw:List J)(v:J)(h:aa){Q:bK->ar->Prop}(H:¬i<N/\Q (.exit 0) (ar.mk [] [] .none h)):
  bB Tryz.prog Tryz.f129 call [1,0,0] ⟨[(1,.str s),(2,.fn e6 [] iv),(3,.fn fz [] iw),(4,.ptr b 0),(5,.ptr c 0),(12,v),(13,.int .i64 (.ofNat N)),(14,.int .i64 (.ofNat i))],[],.none,h⟩ Q:=
 gN [(1015,.f)] [] [(1,.v (.str s)),(2,.o (.fn e6 [] iv)),(3,.o (.fn fz [] iw)),(4,.v (.ptr b 0)),(5,.v (.ptr c 0)),(12,.o v),(13,.v (.int .i64 (.ofNat N))),(14,.v (.int .i64 (.ofNat i)))] rfl (Eq.mp (by kernel_rfl) H)
theorem GP(m:Nat)(i:Nat)(h:aa){R:ax->Prop}(H:R (.ret (.str []) h)):
  R (Y (m+1) (.fn 131) [.int .i64 (.ofNat i)] h):=
 dH (intr:=b7) [] [(0,.v (.int .i64 (.ofNat i)))] Tryz.func131 (by kernel_rfl) (by kernel_rfl) (by kernel_rfl) rfl (Eq.mp (by kernel_rfl) H)
theorem Ys(m:Nat)(i:Nat)(e:Nat)(h:aa){R:ax->Prop}(H:∃aQ:Nat,aA h e 0=some (.ptr aQ 0)/\∃bw:Nat,∃cl:Nat,∃cC:Nat,∃c1:cj,aA h aQ (0+2)=some (.slice bw cl cC c1)/\i<cC/\∃s1:List UInt8,aA h bw (cl+i*1)=some (.str s1)/\List.length s1+2<=1000000000000/\R (.ret (.str (s1++[58,32])) h)):
  R (Y (m+1) (.fn 133) [.int .i64 (.ofNat i),.ptr e 0] h):=
 dH (intr:=b7) [(7,.bW .ih)] [(0,.v (.int .i64 (.ofNat i))),(1,.v (.ptr e 0))] Tryz.func133 (by kernel_rfl) (by kernel_rfl) (by kernel_rfl) rfl (Eq.mp (by kernel_rfl) H)
theorem M8(m:Nat)(s:List UInt8)(e:Nat)(h:aa){R:ax->Prop}(H:R (.ret (.fn 135 [] [.ptr e 0,.ptr h.n 0]) (aa.push h (.cells [.str s] 9 .own 0 0)))):
  R (Y (m+1) (.fn 134) [.str s,.ptr e 0] h):=
 dH (intr:=b7) [] [(0,.v (.str s)),(1,.v (.ptr e 0))] Tryz.func134 (by kernel_rfl) (by kernel_rfl) (by kernel_rfl) rfl (Eq.mp (by kernel_rfl) H)
theorem Yt(m:Nat)(i:Nat)(e:Nat)(f:Nat)(h:aa){R:ax->Prop}(H:∃aQ:Nat,aA h e 0=some (.ptr aQ 0)/\∃bw:Nat,∃cl:Nat,∃cC:Nat,∃c1:cj,aA h aQ (0+3)=some (.slice bw cl cC c1)/\i<cC/\∃c5:Nat,aA h bw (cl+i*1)=some (.ptr c5 0)/\∃dV:Nat,aA h c5 (0+0)=some (.int .i64 (.ofNat dV))/\(dV=8->∃s1:List UInt8,aA h f 0=some (.str s1)/\R (.ret (.str s1) h))/\(¬dV=8->R (.ret (.str []) h))):
  R (Y (m+1) (.fn 135) [.int .i64 (.ofNat i),.ptr e 0,.ptr f 0] h):=
 dH (intr:=b7) [(8,.bW .ih)] [(0,.v (.int .i64 (.ofNat i))),(1,.v (.ptr e 0)),(2,.v (.ptr f 0))] Tryz.func135 (by kernel_rfl) (by kernel_rfl) (by kernel_rfl) rfl (Eq.mp (by kernel_rfl) H)
theorem Yu(m:Nat)(b:Nat)(l:Nat)(n:Nat)(o:Nat)(r:Nat)(k:Nat)(s:List UInt8)(bJ:J)(dy:J)(h:aa){R:ax->Prop}(H:aA (aa.push h (.cells [.ptr r 0] 47 .own 0 0)) h.n 0=some (.ptr r 0)/\aA (aa.push h (.cells [.ptr r 0] 47 .own 0 0)) r (0+0)=some (.int .i64 (.ofNat k))/\(k=6->aA (aa.push h (.cells [.ptr r 0] 47 .own 0 0)) h.n 0=some (.ptr r 0)/\aA (aa.push h (.cells [.ptr r 0] 47 .own 0 0)) r (0+1)=some (.str s)/\∃aQ:Nat,∃v1:J,∃al:aa,(Y m) (.fn 130) [.ptr b 0,.str s] (aa.push h (.cells [.ptr r 0] 47 .own 0 0))=.ret (.aD [.int .i64 (.ofNat aQ),v1]) al/\R (.ret (.aD []) al))/\(¬k=6->(k=7->∃bw:Nat,∃v2:J,∃ak:aa,(Y m) (.fn 130) [.ptr b 0,.str [123]] (aa.push h (.cells [.ptr r 0] 47 .own 0 0))=.ret (.aD [.int .i64 (.ofNat bw),v2]) ak/\aA (ak.room 8) l 0=some (.fn 129 [] [.ptr b 0,.ptr o 0])/\aA (ak.room 8) h.n 0=some (.ptr r 0)/\aA (ak.room 8) r (0+3)=some bJ/\aA (ak.room 8) n 0=some (.fn 131 [] [])/\∃aS:aa,(Y m) (.fn 129) [bJ,.str [44,32],.fn 133 [] [.ptr h.n 0],.fn 131 [] [],.ptr b 0,.ptr o 0] (ak.room 8)=.ret (.aD []) aS/\J.sound bJ=true/\∃cl:Nat,∃dr:J,∃bb:aa,(Y m) (.fn 130) [.ptr b 0,.str [125]] aS=.ret (.aD [.int .i64 (.ofNat cl),dr]) bb/\R (.ret (.aD []) bb))/\(¬k=7->(k=8->∃cC:Nat,∃v4:J,∃ch:aa,(Y m) (.fn 130) [.ptr b 0,.str [102,110,40]] (aa.push h (.cells [.ptr r 0] 47 .own 0 0))=.ret (.aD [.int .i64 (.ofNat cC),v4]) ch/\aA (ch.room 8) l 0=some (.fn 129 [] [.ptr b 0,.ptr o 0])/\aA (ch.room 8) h.n 0=some (.ptr r 0)/\aA (ch.room 8) r (0+3)=some bJ/\aA (ch.room 8) n 0=some (.fn 131 [] [])/\aA (ch.room 8) n 0=some (.fn 131 [] [])/\∃cc:aa,(Y m) (.fn 129) [bJ,.str [44,32],.fn 131 [] [],.fn 131 [] [],.ptr b 0,.ptr o 0] (ch.room 8)=.ret (.aD []) cc/\J.sound bJ=true/\∃c5:Nat,∃gO:J,∃bY:aa,(Y m) (.fn 130) [.ptr b 0,.str [41,32,45,62,32]] cc=.ret (.aD [.int .i64 (.ofNat c5),gO]) bY/\aA (bY.room 6) o 0=some (.fn 132 [] [.ptr b 0,.ptr l 0,.ptr n 0,.ptr o 0])/\aA (bY.room 6) h.n 0=some (.ptr r 0)/\aA (bY.room 6) r (0+4)=some dy/\∃cJ:aa,(Y m) (.fn 132) [dy,.ptr b 0,.ptr l 0,.ptr n 0,.ptr o 0] (bY.room 6)=.ret (.aD []) cJ/\J.sound dy=true/\R (.ret (.aD []) cJ))/\(¬k=8->(k=9->aA (aa.room (aa.push h (.cells [.ptr r 0] 47 .own 0 0)) 10) l 0=some (.fn 129 [] [.ptr b 0,.ptr o 0])/\aA (aa.room (aa.push h (.cells [.ptr r 0] 47 .own 0 0)) 10) h.n 0=some (.ptr r 0)/\aA (aa.room (aa.push h (.cells [.ptr r 0] 47 .own 0 0)) 10) r (0+3)=some bJ/\∃v6:J,∃eA:aa,(Y m) (.fn 134) [.str [40],.ptr h.n 0] (aa.room (aa.push h (.cells [.ptr r 0] 47 .own 0 0)) 10)=.ret v6 eA/\∃mW:J,∃gk:aa,(Y m) (.fn 134) [.str [41],.ptr h.n 0] eA=.ret mW gk/\∃eU:aa,(Y m) (.fn 129) [bJ,.str [32,124,32],v6,mW,.ptr b 0,.ptr o 0] gk=.ret (.aD []) eU/\aA gk l 0=some (.fn 129 [] [.ptr b 0,.ptr o 0])/\aA eA l 0=some (.fn 129 [] [.ptr b 0,.ptr o 0])/\aA gk h.n 0=some (.ptr r 0)/\aA eA h.n 0=some (.ptr r 0)/\J.sound bJ=true/\aA gk r (0+3)=some bJ/\aA eA r (0+3)=some bJ/\R (.ret (.aD []) eU))/\(¬k=9->aA (aa.push h (.cells [.ptr r 0] 47 .own 0 0)) h.n 0=some (.ptr r 0)/\aA (aa.push h (.cells [.ptr r 0] 47 .own 0 0)) r (0+0)=some (.int .i64 (.ofNat k))/\∃s1:List UInt8,(k<6/\lg Tryz.prog 9 [.str [],.str [97,110,121],.str [105,110,116],.str [98,111,111,108],.str [115,116,114],.str [110,105,108]] (k*1)=some (.str s1))/\∃dV:Nat,∃lI:J,∃ja:aa,(Y m) (.fn 130) [.ptr b 0,.str s1] (aa.push h (.cells [.ptr r 0] 47 .own 0 0))=.ret (.aD [.int .i64 (.ofNat dV),lI]) ja/\R (.ret (.aD []) ja)))))):
  R (Y (m+1) (.fn 132) [.ptr r 0,.ptr b 0,.ptr l 0,.ptr n 0,.ptr o 0] h):=
 dH (intr:=b7) [(7,.bW (.is (.ptr r 0))),(20,.bW (.is (.ptr r 0))),(29,.bW (.is (.ptr r 0))),(41,.bW (.is (.ptr r 0))),(50,.bW (.is (.ptr r 0))),(59,.bW (.is (.ptr r 0))),(12,.bW (.is (.ptr r 0))),(10,.bW (.is (.int .i64 (.ofNat k)))),(15,.bW (.is (.int .i64 (.ofNat k)))),(23,.bW (.is (.str s))),(32,.bW (.io bJ)),(44,.bW (.io bJ)),(62,.bW (.io bJ)),(53,.bW (.io dy)),(28,.bW (.is (.fn 129 [] [.ptr b 0,.ptr o 0]))),(40,.bW (.is (.fn 129 [] [.ptr b 0,.ptr o 0]))),(58,.bW (.is (.fn 129 [] [.ptr b 0,.ptr o 0]))),(34,.bW (.is (.fn 131 [] []))),(45,.bW (.is (.fn 131 [] []))),(46,.bW (.is (.fn 131 [] []))),(49,.bW (.is (.fn 132 [] [.ptr b 0,.ptr l 0,.ptr n 0,.ptr o 0]))),(64,.bW .o),(66,.bW .o)] [(0,.v (.ptr r 0)),(1,.v (.ptr b 0)),(2,.v (.ptr l 0)),(3,.v (.ptr n 0)),(4,.v (.ptr o 0))] Tryz.func132 (by kernel_rfl) (by kernel_rfl) (by kernel_rfl) rfl (Eq.mp (by kernel_rfl) H)
theorem Yv(m:Nat)(r:Nat)(h:aa){R:ax->Prop}(H:∃al:aa,ay.storeCells (aa.push (aa.push (aa.push h (.cells [.bc,.az] 166 .own 0 0)) (.cells [.fi] 127 .own 0 0)) (.cells [.fi] 172 .own 0 0)) (aa.n (aa.push (aa.push h (.cells [.bc,.az] 166 .own 0 0)) (.cells [.fi] 127 .own 0 0))) 0 [.fn 129 [] [.ptr h.n 0,.ptr (aa.n (aa.push h (.cells [.bc,.az] 166 .own 0 0))) 0]]=some al/\∃ak:aa,ay.storeCells (aa.push al (.cells [.fi] 167 .own 0 0)) al.n 0 [.fn 131 [] []]=some ak/\∃aS:aa,ay.storeCells ak (aa.n (aa.push h (.cells [.bc,.az] 166 .own 0 0))) 0 [.fn 132 [] [.ptr h.n 0,.ptr (aa.n (aa.push (aa.push h (.cells [.bc,.az] 166 .own 0 0)) (.cells [.fi] 127 .own 0 0))) 0,.ptr al.n 0,.ptr (aa.n (aa.push h (.cells [.bc,.az] 166 .own 0 0))) 0]]=some aS/\∃bD:List J,aA aS (aa.n (aa.push h (.cells [.bc,.az] 166 .own 0 0))) 0=some (.fn 132 [] bD)/\∃bb:aa,(Y m) (.fn 132) (.ptr r 0::bD) aS=.ret (.aD []) bb/\∃s1:List UInt8,∃ch:aa,(Y m) (.fn 136) [.ptr h.n 0] bb=.ret (.str s1) ch/\R (.ret (.str s1) ch)):
  R (Y (m+1) (.fn 112) [.ptr r 0] h):=
 dH (intr:=b7) [(9,.bW (.fn 132 4))] [(0,.v (.ptr r 0))] Tryz.func112 (by kernel_rfl) (by kernel_rfl) (by kernel_rfl) rfl (Eq.mp (by kernel_rfl) H)
def zd(B b:Nat)(h:aa)(w:List UInt8):Prop:=∃a v,h.get b=some (.cells [a,v] 166 .own 0 0)/\(a=.bc\/a=.ptr b 0)/\tV B 5 h v w/\b<B/\B<=h.n/\(w=[]->v=.az)
theorem Yw(n b:Nat)(h:aa):Y (n+1) (.fn 151) [.ptr b 0] h=.ret (.ptr b 0) h:=by unfold Y;kernel_rfl
theorem Yx(n b:Nat)(h:aa)(v:J)(ag:b<h.n)(ao:h.get b=some (.cells [.bc,v] 166 .own 0 0)\/h.get b=some (.cells [.ptr b 0,v] 166 .own 0 0)):
  ∃an,Y (n+2) (.fn 145) [.ptr b 0] h=.ret (.aD []) an/\an.get b=some (.cells [.ptr b 0,v] 166 .own 0 0)/\an.n=h.n/\∀c,c≠b->an.get c=h.get c:=by
 rcases ao with ao|ao
 · refine⟨h.set b (some (.cells [.ptr b 0,v] 166 .own 0 0)),?_,dN rfl,rfl,λc ah=>eh ah rfl⟩
   have f1:Tryz.prog.underlying 164=some (.pointer 166):=by kernel_rfl
   have f2:Tryz.prog.underlying 186=some .unsafePointer:=by kernel_rfl
   have f3:dm Tryz.prog 166=some 2:=by kernel_rfl
   have f4:liesAt Tryz.prog Tryz.prog.depth 166 (2/Tryz.prog.cellsOf 166) 0 166 1=true:=by kernel_rfl
   have v1:ea Tryz.prog 164 186 (J.ptr b 0) h=fj.val (J.ptr b 0) h:=by
    simp only[ea,f1,f2,f3,ao];rfl
   have v2:ea Tryz.prog 186 164 (J.ptr b 0) h=fj.val (J.ptr b 0) h:=by
    simp only[ea,f1,f2,f3,ao,List.length_cons,List.length_nil,f4];rfl
   have ai:=Yk (Y (n+1)) b h _ (aB ao rfl) v1 (Yw n b h) v2 (dY ao rfl rfl)
   exact eg (intr:=b7) (n:=n+1) (args:=[.ptr b 0]) Tryz.func145 (by kernel_rfl) rfl (by kernel_rfl) ai (.inr rfl) (by kernel_rfl)
 · refine⟨h,?_,ao,rfl,λc _=>rfl⟩
   have he:er Tryz.prog h BinOp.neq 164 (Operand.tmp 17) (Operand.tmp 18) (J.ptr b 0) (J.ptr b 0)=some (J.bool false):=by
    have aE:Tryz.prog.underlying 164=some (.pointer 166):=by kernel_rfl
    have aC:dm Tryz.prog 166=some 2:=by kernel_rfl
    have bu:Nat.beq b b=true:=by simp
    simp only[er,rk,ic,aE,aC,DC,bu]
    rfl
   exact eg (intr:=b7) (n:=n+1) (args:=[.ptr b 0]) Tryz.func145 (by kernel_rfl) rfl (by kernel_rfl) (Yl (Y (n+1)) b h false (aB ao rfl) he rfl) (.inr rfl) (by kernel_rfl)
theorem Yy:∃i,Tryz.prog.info? 5=some i/\i.size=1/\i.bytes=1:=by
 have af:(Tryz.prog.info? 5).map (λi=>(i.size,i.bytes))=some (1,1):=by kernel_rfl
 cases ze:Tryz.prog.info? 5 with
 |none=>rw[ze] at af;cases af
 |some i=>
  rw[ze] at af
  simp only[Option.map_some,Option.some.injEq,Prod.mk.injEq] at af
  exact⟨i,rfl,af.1,af.2⟩
theorem Yz{i:TypeInfo}(af:i.bytes=1){n:Nat}(aJ:n<=1000000000):lR n i.bytes=true:=by
 rw[af]
 have:(4*n+2048)*(1+1)<=281474976710656:=by omega
 simpa[lR] using this
theorem YA(n b B:Nat)(h:aa)(w s:List UInt8)(ag:zd B b h w)(aw:w.length+s.length<=1000000000):∃an,Y (n+3) (.fn 130) [.ptr b 0,.str s] h=.ret (.aD [.int .i64 (Int.ofNat s.length),.eO]) an/\zd B b an (w++s)/\mI 5 b B h an:=by
 obtain⟨a,v,ao,a5,M9,mT,YB,tu⟩:=ag
 obtain⟨ab,c1,al,aQ,cT⟩:=Yx n b h v (by omega) (by rcases a5 with rfl|rfl;exact .inl ao;exact .inr ao)
 have bh:tV B 5 ab v w:=M9.ext (by omega) λc ah _=>cT c (by omega)
 obtain⟨i,ze,M_,yn⟩:=Yy
 obtain⟨v',ae,ds,eu,jj⟩:=Uz (P:=Tryz.prog) (B:=B) (sT:=98) (xT:=some 9) (e:=5) (z:=.int .u8 (Int.ofNat 0)) (by omega) (by kernel_rfl) (by kernel_rfl) ze M_ (by kernel_rfl) rfl (Yz yn aw) bh
 have ak:=(jj.get b mT).trans al
 have aJ:=jj.n
 have uL:w++s=[]->v'=.az:=by
  intro e
  obtain⟨rfl,rfl⟩:=List.append_eq_nil_iff.1 e
  obtain rfl:=tu rfl
  have:gl Tryz.prog ab 98 (some 9) .az (.str [])=some (.az,ab):=by
   have hu:Tryz.prog.underlying 98=some (.slice 5):=by kernel_rfl
   have hs:o6 Tryz.prog (some 9)=true:=by kernel_rfl
   have a0:eG Tryz.prog 5=some (.int .u8 (Int.ofNat 0)):=by kernel_rfl
   simp only[gl,hu,hs,ze,a0,M_];rfl
  rw[this] at ds
  cases ds;rfl
 refine⟨ae.set b (some (.cells [.ptr b 0,v'] 166 .own 0 0)),?_,⟨.ptr b 0,v',dN rfl,.inr rfl,eu.ext (by simp) λc ah _=>eh (by omega) rfl,mT,by simp;omega,uL⟩,⟨⟨by simp;omega,λc ah pe=>eh pe ((jj.get c ah).trans (cT c pe))⟩,λd aq Na tA=>?_⟩⟩
 · rcases eu with⟨rfl,_⟩|⟨c,r,rfl,_⟩
   · exact eg (intr:=b7) (n:=n+2) (args:=[.ptr b 0,.str s]) Tryz.func130 (by kernel_rfl) rfl (by kernel_rfl) (Ym (Y (n+2)) b s v h ae ab _ c1 (aB al rfl) ds (dY ak rfl rfl)) (.inl rfl) (by kernel_rfl)
   · exact eg (intr:=b7) (n:=n+2) (args:=[.ptr b 0,.str s]) Tryz.func130 (by kernel_rfl) rfl (by kernel_rfl) (bws (Y (n+2)) b c _ s v h ae ab _ c1 (aB al rfl) ds (dY ak rfl rfl)) (.inl rfl) (by kernel_rfl)
 · refine eh Na ((UR ds (by omega) ?_).trans (cT d Na))
   rintro o l c rfl
   rcases M9 with⟨ad,_⟩|⟨c',rest,ad,ah,_⟩
   · cases ad
   · cases ad
     exact tA _ _ _ ah
theorem YC(n b B:Nat)(h:aa)(w:List UInt8)(ag:zd B b h w)(aw:w.length<=1000000000):∃an,Y (n+1) (.fn 136) [.ptr b 0] h=.ret (.str w) an/\Ext B h an:=by
 obtain⟨a,v,g,a5,aH,mT,aJ,tu⟩:=ag
 rcases aH with⟨rfl,rfl⟩|⟨c,rest,rfl,ah,yI,ow⟩
 · have lY:qd Tryz.prog (aa.room h 12) 182 J.bc (J.int IntKind.i64 (Int.ofNat 0))=some (.str [],aa.room h 12):=by kernel_rfl
   exact⟨_,eg (intr:=b7) (n:=n) (args:=[.ptr b 0]) Tryz.func136 (by kernel_rfl) rfl (by kernel_rfl) (Yo (Y n) b h [] _ (aB (h:=h.room 12) g rfl) lY) (.inl rfl) (by kernel_rfl),Ext.room _ _ _⟩
 · by_cases hw:w=[]
   · exact absurd (tu hw) (by simp)
   · have dK:w.length≠0:=by cases w<;>simp at hw⊢
     have fA:iD Tryz.prog Builtin.unsafeSliceData (Array.mk [98]) [J.slice c 0 w.length (cj.aM 1)] (aa.room h 12)=fj.val (J.ptr c 0) (aa.room h 12):=by
      simp only[iD]
      exact if_neg dK
     have lY:=UC (P:=Tryz.prog) (h:=h.room 12) (pT:=182) (u:=5) (c:=c) (e:=5) (w:=w) (rest:=rest) hw (by omega) (by kernel_rfl) (by kernel_rfl) (by kernel_rfl) ah
     exact⟨_,eg (intr:=b7) (n:=n) (args:=[.ptr b 0]) Tryz.func136 (by kernel_rfl) rfl (by kernel_rfl) (Yn (Y n) b c w.length h w _ (aB (h:=h.room 12) g rfl) fA lY) (.inl rfl) (by kernel_rfl),
      (Ext.room B h 12).trans (Nat.le_refl _) (Ext.set (by omega) _)⟩
end Go.Proofs.cf
namespace Go.Proofs.cf
open Go ay Go.Proofs cS
set_option maxRecDepth 100000
set_option maxHeartbeats 1000000
abbrev oP(b:Nat):List J:=[.ptr b 0,.ptr (b+2) 0,.ptr (b+3) 0,.ptr (b+1) 0]
structure ga(b:Nat)(h0 x:aa)(w:aL):Prop where
 Ct:zd (b+4) b x w
 one:x.get (b+1)=some (.cells [.fn 132 [] (oP b)] 127 .own 0 0)
 wK:x.get (b+2)=some (.cells [.fn 129 [] [.ptr b 0,.ptr (b+1) 0]] 172 .own 0 0)
 ou:x.get (b+3)=some (.cells [.fn 131 [] []] 167 .own 0 0)
 ext:Ext b h0 x
abbrev hX(b:Nat)(x y:aa):Prop:=mI 5 b (b+4) x y
theorem ga.n{b:Nat}{h0 x:aa}{w:aL}(ag:ga b h0 x w):b+4<=x.n:=by obtain⟨_,_,_,_,_,_,h,_⟩:=ag.Ct;exact h
theorem ga.Nb{b:Nat}{h0 x y:aa}{w w':aL}(ag:ga b h0 x w)(a6:zd (b+4) b y w')(k:hX b x y):ga b h0 y w':=
 ⟨a6,(k.x.get _ (by omega) (by omega)).trans ag.one,(k.x.get _ (by omega) (by omega)).trans ag.wK,(k.x.get _ (by omega) (by omega)).trans ag.ou,
  ag.ext.trans (Nat.le_refl _) ⟨k.x.n,λd aq=>k.x.get d (by omega) (by omega)⟩⟩
theorem ga.Cu{b:Nat}{h0 x y:aa}{w:aL}(ag:ga b h0 x w)(e:Ext x.n x y):ga b h0 y w/\hX b x y:=by
 have aJ:=ag.n
 have au:hX b x y:=mI.ext e aJ
 refine⟨ag.Nb ?_ au,au⟩
 obtain⟨a,v,ab,ae,av,aK,bU,cB⟩:=ag.Ct
 exact⟨a,v,(e.get b (by omega)).trans ab,ae,av.ext e.n λc _ ah=>e.get c ah,aK,Nat.le_trans bU e.n,cB⟩
theorem ga.ws{b:Nat}{h0 x:aa}{w:aL}(n:Nat)(s:aL)(ag:ga b h0 x w)(aw:w.length+s.length<=1000000000):∃y,Y (n+3) (.fn 130) [.ptr b 0,.str s] x=.ret (.aD [.int .i64 (Int.ofNat s.length),.eO]) y/\ga b h0 y (w++s)/\hX b x y:=by
 obtain⟨y,c,a6,k⟩:=YA n b (b+4) x w s ag.Ct aw
 exact⟨y,c,ag.Nb a6 k,k⟩
theorem hX.own{b d:Nat}{x y:aa}{cs:List J}{e:Nat}(k:hX b x y)(aq:d<x.n)(ag:d≠b)(ao:x.get d=some (.cells cs e .own 0 0)):d<y.n/\y.get d=some (.cells cs e .own 0 0):=
 ⟨Nat.lt_of_lt_of_le aq k.x.n,(k.k d aq ag (by rw[ao];intro cs aW up h;cases h)).trans ao⟩
theorem GQ(m:Nat){b:Nat}{h0:aa}{v:J}{vs:List J}(sep:aL)(e6 fz:Nat)(iv iw:List J)(A W Z:Nat->aL)(items:List aL)(K:aa->Prop)(dO:∀x y,K x->hX b x y->K y)(aH:eT b h0 v vs)(hlen:vs.length<=90000)(Cv:items.length=vs.length)(YD:∀i (af:i<items.length),items[i]=A i++W i++Z i)
  (jH:∀i x w,i<vs.length->ga b h0 x w->K x->Y (m+3) (.fn e6) (.int .i64 (Int.ofNat i)::iv) x=.ret (.str (A i)) x)
  (YE:∀i x w,i<vs.length->ga b h0 x w->K x->Y (m+3) (.fn fz) (.int .i64 (Int.ofNat i)::iw) x=.ret (.str (Z i)) x)
  (qx:∀i (af:i<vs.length) x w,ga b h0 x w->K x->w.length+(W i).length<=1000000->∃y,Y (m+3) (.fn 132) (vs[i]::oP b) x=.ret (.aD []) y/\ga b h0 y (w++W i)/\hX b x y)
  {x:aa}{w:aL}(ad:ga b h0 x w)(zf:K x)(aw:w.length+(g6 sep items).length<=1000000):
  ∃y,Y (m+4) (.fn 129) [v,.str sep,.fn e6 [] iv,.fn fz [] iw,.ptr b 0,.ptr (b+1) 0] x=.ret (.aD []) y/\ga b h0 y (w++g6 sep items)/\hX b x y:=by
 have dz:∀g,Ext b h0 g->cO Tryz.prog g 49 v=some (.int .i64 (Int.ofNat vs.length)):=λg x=>(aH.bM (fm.ext x (Nat.le_refl _))).len (t:=49) (e:=47) (by kernel_rfl)
 refine Yp (m+3) v sep e6 fz b (b+1) iv iw x (R:=λr=>∃y,r=.ret (.aD []) y/\ga b h0 y (w++g6 sep items)/\hX b x y) ⟨vs.length,dz x ad.ext,?_⟩
 refine bB.loop (by kernel_rfl) (λk st=>∃i y Γ,st=⟨Γ,[],.none,y⟩/\cZ [(1,.str sep),(2,.fn e6 [] iv),(3,.fn fz [] iw),(4,.ptr b 0),(5,.ptr (b+1) 0),(12,v),(13,.int .i64 (Int.ofNat vs.length)),(14,.int .i64 (Int.ofNat i))] Γ/\vs.length-i=k/\i<=vs.length/\ga b h0 y (w++g6 sep (items.take i))/\hX b x y/\K y) ?_ vs.length _ (by omega) ⟨0,x,_,rfl,⟨rfl,rfl,rfl,rfl,rfl,rfl,rfl,rfl,trivial⟩,by omega,by omega,by simpa[g6] using ad,mI.refl _ _ _ _,zf⟩
 rintro k st ⟨i,y,Γ,rfl,dk,au,af,a6,hw,zg⟩
 by_cases ab:i<vs.length
 · have ae:i<items.length:=by omega
   rcases aH with⟨rfl,rfl⟩|⟨dT,off,aG,rfl,ag,g3,aY,aq⟩
   · simp at ab
   have t1:=Mf sep items (i+1)
   have t2:=Me sep items ae
   have Nc:=YD i ae
   have item:∀y cq,ga b h0 y cq->K y->cq.length+(items[i]).length<=1000000->∃a ak,Y (m+3) (.fn e6) (.int .i64 (Int.ofNat i)::iv) y=.ret (.str a) ak/\∃bA aS,Y (m+3) (.fn 130) [.ptr b 0,.str a] ak=.ret (.aD [.int .i64 (Int.ofNat bA),.eO]) aS/\aA aS (b+1) 0=some (.fn 132 [] (oP b))/\∃bb,Y (m+3) (.fn 132) (vs[i]::oP b) aS=.ret (.aD []) bb/\∃z ch,Y (m+3) (.fn fz) (.int .i64 (Int.ofNat i)::iw) bb=.ret (.str z) ch/\∃c8 cc,Y (m+3) (.fn 130) [.ptr b 0,.str z] ch=.ret (.aD [.int .i64 (Int.ofNat c8),.eO]) cc/\ga b h0 cc (cq++items[i])/\hX b y cc:=by
    intro y cq Nd GR pU
    rw[Nc] at pU
    simp only[List.length_append] at pU
    obtain⟨aS,c3,dM,c8⟩:=Nd.ws m (A i) (by omega)
    obtain⟨bb,c4,jZ,e1⟩:=qx i ab aS _ dM (dO _ _ GR c8) (by simp;omega)
    have YF:=dO _ _ (dO _ _ GR c8) e1
    obtain⟨cc,q1,j0,py⟩:=jZ.ws m (Z i) (by simp;omega)
    refine⟨A i,y,jH i y _ ab Nd GR,_,aS,c3,aB dM.one rfl,bb,c4,Z i,bb,YE i bb _ ab jZ YF,_,cc,q1,?_,(c8.trans e1).trans py⟩
    rw[Nc]
    simpa only[List.append_assoc] using j0
   have zh:∀cc,ga b h0 cc (w++g6 sep (items.take (i+1)))->hX b y cc->(en (λs=>∃j,j<k/\(λk st=>∃i y Γ,st=⟨Γ,[],.none,y⟩/\cZ [(1,.str sep),(2,.fn e6 [] iv),(3,.fn fz [] iw),(4,.ptr b 0),(5,.ptr (b+1) 0),(12,.slice dT off vs.length aG),(13,.int .i64 (Int.ofNat vs.length)),(14,.int .i64 (Int.ofNat i))] Γ/\vs.length-i=k/\i<=vs.length/\ga b h0 y (w++g6 sep (items.take i))/\hX b x y/\K y) j s) (λc6 c0=>∃(g:aa) (cA:Env),c6=.exit 0/\c0=⟨cA,[],.none,g⟩/\cZ [] cA/\∃y,ax.ret (.aD []) g=.ret (.aD []) y/\ga b h0 y (w++g6 sep items)/\hX b x y)) .nrm ⟨[(1,.str sep),(2,.fn e6 [] iv),(3,.fn fz [] iw),(4,.ptr b 0),(5,.ptr (b+1) 0),(12,.slice dT off vs.length aG),(13,.int .i64 (Int.ofNat vs.length)),(14,.int .i64 (Int.ofNat (i+1)))],[],.none,cc⟩:=λcc j0 py=>
    ⟨_,(by show vs.length-(i+1)<k;omega),i+1,cc,_,rfl,⟨rfl,rfl,rfl,rfl,rfl,rfl,rfl,rfl,trivial⟩,rfl,by omega,j0,hw.trans py,dO _ _ zg py⟩
   refine bB.pre (Yq (Y (m+3)) sep e6 fz b (b+1) dT off _ i 132 aG iv iw (oP b) y ⟨λ_=>⟨ab,_,hJ a6.ext ag (g3 i ab),λx0=>?_,λx0=>?_⟩,λaj=>absurd ab aj⟩) dk rfl rfl rfl
   · rw[if_pos x0] at t2
     rw[t2] at t1
     simp only[List.length_append] at t1
     obtain⟨al,c1,bh,bz⟩:=a6.ws m sep (by simp;omega)
     obtain⟨a,ak,c2,bA,aS,c3,c4,bb,zi,z,ch,q1,c8,cc,gP,j0,cd⟩:=item al _ bh (dO _ _ zg bz) (by simp;omega)
     exact⟨_,_,al,c1,a,ak,c2,bA,_,aS,c3,c4,bb,zi,z,ch,q1,c8,_,cc,gP,by omega,zh cc (by rw[t2];simpa only[List.append_assoc] using j0) (bz.trans cd)⟩
   · rw[if_neg x0] at t2
     rw[t2] at t1
     have dW:items.take i=[]:=by rw[show i=0 by omega];rfl
     rw[dW] at a6
     obtain⟨a,ak,c2,bA,aS,c3,c4,bb,zi,z,ch,q1,c8,cc,gP,j0,cd⟩:=item y _ a6 zg (by simp[g6];omega)
     exact⟨a,ak,c2,bA,_,aS,c3,c4,bb,zi,z,ch,q1,c8,_,cc,gP,by omega,zh cc (by rw[t2];simpa[g6] using j0) cd⟩
 · refine bB.pre (Yr (Y (m+3)) sep e6 fz b (b+1) vs.length i iv iw v y ⟨ab,y,_,rfl,rfl,trivial,y,rfl,?_,hw⟩) dk rfl rfl rfl
   rw[List.take_of_length_le (by omega)] at a6
   exact a6
end Go.Proofs.cf
namespace Go.Proofs.cf
open Go ay Go.Proofs cS
set_option maxRecDepth 100000
set_option maxHeartbeats 1000000
theorem YG{k:Nat}(ab:1<=k)(bU:k<=5):lg Tryz.prog 9 [.str [],.str [97,110,121],.str [105,110,116],.str [98,111,111,108],.str [115,116,114],.str [110,105,108]] (k*1)=some (.str (word k)):=by
 have:k=1\/k=2\/k=3\/k=4\/k=5:=by omega
 rcases this with rfl|rfl|rfl|rfl|rfl<;>rfl
theorem Nf{a b c:aL}:(a++b++c).length=a.length+b.length+c.length:=by simp;omega
theorem Ng:∀(K:Nat) (t:a3),sz t<=K->g7 t=true->sz t<=100->∀(m b:Nat) (h0:aa) (v:J),2*sz t+6<=m->e4 b h0 t v->∀(x:aa) (w:aL),ga b h0 x w->w.length+(wr t).length<=1000000->∃y,Y m (.fn 132) (v::oP b) x=.ret (.aD []) y/\ga b h0 y (w++wr t)/\hX b x y
 |0,t,dO,_,_,_,_,_,_,_,_,_,_,_,_=>by
  have:=ss t
  omega
 |K+1,.mk k bZ ns xs rt,dO,kR,fH,m,b,h0,v,hm,aH,x,w,ad,aw=>by
  obtain⟨R,b5,bJ,dy,vs,cd,aW,up,rfl,ae,av,aK,bU,cB,eo⟩:=aH
  have cR:=Cg _ kR
  rw[M3] at kR
  simp only[Bool.and_eq_true,decide_eq_true_eq] at kR
  obtain⟨⟨bz,kp⟩,n9,iG,Nh⟩:=kR
  rw[okW] at cR
  simp only[Bool.and_eq_true,Bool.or_eq_true,decide_eq_true_eq] at cR
  obtain⟨⟨⟨⟨⟨_,_⟩,oQ⟩,nP⟩,zf⟩,GS⟩:=cR
  rw[uB] at dO fH hm
  rw[ME] at aw
  obtain⟨m,rfl⟩:∃j,m=j+5:=⟨m-5,by omega⟩
  have h2:=e5.len cB
  have od:=su xs
  have k1:=Cd xs
  have tp:∀i (i2:i<xs.length),g7 xs[i]=true:=λi i2=>Ce iG (List.getElem_mem i2)
  have bp:∀(u:a3),sz u<=K->g7 u=true->sz u<=100->∀(m b:Nat) (h0:aa) (v:J),2*sz u+6<=m->e4 b h0 u v->∀(x:aa) (w:aL),ga b h0 x w->w.length+(wr u).length<=1000000->∃y,Y m (.fn 132) (v::oP b) x=.ret (.aD []) y/\ga b h0 y (w++wr u)/\hX b x y:=Ng K
  rw[ME]
  obtain⟨H,dG⟩:∃H,H=x.push (.cells [.ptr R 0] 47 .own 0 0):=⟨_,rfl⟩
  have fe:Ext x.n x H:=by rw[dG];exact Ext.push (Nat.le_refl _) _
  have j4:H.n=x.n+1:=by rw[dG];rfl
  have mX:H.get x.n=some (.cells [.ptr R 0] 47 .own 0 0):=by rw[dG];exact dA rfl
  obtain⟨p0,zj⟩:=ad.Cu fe
  have Rb:=ad.n
  have jr:∀y s,ga b h0 y s->y.get R=some (.cells [.int .i64 (Int.ofNat k),.str bZ,b5,bJ,dy] 51 cd aW up):=λy s a6=>(a6.ext.get R ae).trans av
  have sF:∀y,hX b H y->y.get x.n=some (.cells [.ptr R 0] 47 .own 0 0):=λy k=>(k.own (by omega) (by omega) mX).2
  have Cw:∀n y s,ga b h0 y s->ga b h0 (y.room n) s/\hX b y (y.room n):=λn y s a6=>a6.Cu (Ext.room _ y n)
  have item:∀i (af:i<vs.length) y s,ga b h0 y s->s.length+(wn (dx xs) i).length<=1000000->∃z,Y (m+3) (.fn 132) (vs[i]::oP b) y=.ret (.aD []) z/\ga b h0 z (s++wn (dx xs) i)/\hX b y z:=λi af y s a6 aw=>by
   have i2:i<xs.length:=by omega
   have a0:=oF (List.getElem_mem i2)
   rw[show wn (dx xs) i=wr xs[i] by simp[wn,k1,i2,Gm xs i i2]] at aw⊢
   exact bp xs[i] (by omega) (tp i i2) (by omega) (m+3) b h0 vs[i] (by omega) (e5.get cB i af i2) y s a6 aw
  refine Yu (m+4) b (b+2) (b+3) (b+1) R k bZ bJ dy x (R:=λr=>∃y,r=.ret (.aD []) y/\ga b h0 y (w++cS.shape k bZ ns (xs.map a3.k) (dx xs) (mP rt))/\hX b x y) ?_
  rw[<-dG]
  refine⟨aB mX rfl,aB (jr H _ p0) rfl,λeK=>?_,λeK=>⟨λeE=>?_,λeE=>⟨λfQ=>?_,λfQ=>⟨λgT=>?_,λgT=>?_⟩⟩⟩⟩
  · subst eK
    have:(bZ:aL).length<=161:=by
     have:sw bZ=true:=by simpa[iX] using Nh
     unfold sw at this
     simp only[Bool.and_eq_true,decide_eq_true_eq] at this
     exact this.1.2
    obtain⟨y,c,GU,k⟩:=p0.ws (m+1) bZ (by omega)
    exact⟨aB mX rfl,aB (jr H _ p0) rfl,_,_,y,c,y,rfl,GU,zj.trans k⟩
  · subst eE
    have y_:xs.length=ns.length:=by rcases oQ with oQ|oQ;exact absurd rfl oQ;exact oQ
    have hs:cS.shape 7 bZ ns (xs.map a3.k) (dx xs) (mP rt)=[123]++g6 [44,32] (md ns (dx xs))++[125]:=rfl
    rw[hs] at aw⊢
    rw[Nf] at aw
    simp only[List.length_cons,List.length_nil] at aw
    have Cv:(md ns (dx xs)).length=vs.length:=by unfold md;rw[List.length_zipWith];omega
    obtain⟨al,c1,bh,bz⟩:=p0.ws (m+1) [123] (by simp;omega)
    obtain⟨dB,wL⟩:=Cw 8 al _ bh
    have uM:=bz.trans wL
    obtain⟨ak,c2,bf,bA⟩:=GQ m (v:=bJ) (vs:=vs) [44,32] 133 131 [.ptr x.n 0] [] (λi=>wn ns i++[58,32]) (wn (dx xs)) (λ_=>[]) (md ns (dx xs)) (λy=>hX b H y) (λ_ _ k ew=>k.trans ew) bU (by omega) Cv (λi af=>by
      have i1:i<ns.length:=by omega
      have i2:i<(dx xs).length:=by omega
      rw[MF af i1 i2];simp[wn,i1,i2]) (λi y s af a6 au=>by
      have i1:i<ns.length:=by omega
      rcases aK.strs with⟨_,rfl⟩|⟨YH,off,aG,rfl,ag,g3⟩
      · simp at i1
      refine Ys (m+2) i x.n y (R:=λr=>r=_) ⟨R,aB (sF y au) rfl,YH,off,_,aG,aB (jr y s a6) rfl,i1,ns[i],hJ a6.ext ag (g3 i i1),?_,?_⟩
      · have t2:=VB [44,32] (md ns (dx xs)) (i:=i) (by omega)
        rw[MF (by omega) i1 (by omega)] at t2
        simp at t2⊢;omega
      · simp[wn,i1])
     (λi y s af a6 au=>GP (m+2) i y (R:=λr=>r=_) rfl) (λi af y s a6 au aw=>item i af y s a6 aw) dB uM (by simp;omega)
    obtain⟨aS,c3,dM,c8⟩:=bf.ws (m+1) [125] (by simp;omega)
    refine⟨_,_,al,c1,aB dB.wK rfl,aB (sF _ uM) rfl,aB (jr _ _ dB) rfl,aB dB.ou rfl,ak,c2,bU.snd,_,_,aS,c3,aS,rfl,by simpa only[List.append_assoc] using dM,zj.trans (uM.trans (bA.trans c8))⟩
  · subst fQ
    have hs:cS.shape 8 bZ ns (xs.map a3.k) (dx xs) (mP rt)=[102,110,40]++g6 [44,32] (dx xs)++[41,32,45,62,32]++mP rt:=rfl
    rw[hs] at aw⊢
    rw[List.length_append,Nf] at aw
    simp only[List.length_cons,List.length_nil] at aw
    obtain⟨al,c1,bh,bz⟩:=p0.ws (m+1) [102,110,40] (by simp;omega)
    obtain⟨dB,wL⟩:=Cw 8 al _ bh
    have uM:=bz.trans wL
    obtain⟨ak,c2,bf,bA⟩:=GQ m (v:=bJ) (vs:=vs) [44,32] 131 131 [] [] (λ_=>[]) (wn (dx xs)) (λ_=>[]) (dx xs) (λy=>hX b H y) (λ_ _ k ew=>k.trans ew) bU (by omega) (by omega) (λi af=>by simp[wn,af]) (λi y s af a6 au=>GP (m+2) i y (R:=λr=>r=_) rfl)
     (λi y s af a6 au=>GP (m+2) i y (R:=λr=>r=_) rfl) (λi af y s a6 au aw=>item i af y s a6 aw) dB uM (by simp;omega)
    obtain⟨aS,c3,dM,c8⟩:=bf.ws (m+1) [41,32,45,62,32] (by simp;omega)
    obtain⟨GV,YI⟩:=Cw 6 aS _ dM
    have Ni:=uM.trans (bA.trans (c8.trans YI))
    cases rt with
    |none=>rcases nP with nP|nP<;>simp at nP
    |some u=>
     rw[lD] at dO fH hm
     have GW:mP (some u)=wr u:=by rw[mP]
     rw[GW] at aw⊢
     have YJ:g7 u=true:=by simpa[iX,mQ] using Nh
     obtain⟨bb,c4,jZ,e1⟩:=bp u (by omega) YJ (by omega) (m+4) b h0 dy (by omega) eo (aS.room 6) _ GV (by simp;omega)
     exact⟨_,_,al,c1,aB dB.wK rfl,aB (sF _ uM) rfl,aB (jr _ _ dB) rfl,aB dB.ou rfl,aB dB.ou rfl,ak,c2,bU.snd,_,_,aS,c3,aB GV.one rfl,aB (sF _ Ni) rfl,aB (jr _ _ GV) rfl,bb,c4,ep.snd (ot:=some u) eo,bb,rfl,by simpa only[List.append_assoc] using jZ,zj.trans (Ni.trans e1)⟩
  · subst gT
    have hs:cS.shape 9 bZ ns (xs.map a3.k) (dx xs) (mP rt)=g6 [32,124,32] (nI (xs.map a3.k) (dx xs)):=rfl
    rw[hs] at aw⊢
    have Cv:(nI (xs.map a3.k) (dx xs)).length=vs.length:=by unfold nI;rw[List.length_zipWith,List.length_map];omega
    obtain⟨dB,wL⟩:=Cw 10 H _ p0
    obtain⟨al,dn⟩:∃g,g=(H.room 10).push (.cells [.str [40]] 9 .own 0 0):=⟨_,rfl⟩
    obtain⟨ak,kS⟩:∃g,g=al.push (.cells [.str [41]] 9 .own 0 0):=⟨_,rfl⟩
    have aQ:al.n=(H.room 10).n+1:=by rw[dn];rfl
    have bw:ak.n=al.n+1:=by rw[kS];rfl
    have bj:Ext (H.room 10).n (H.room 10) al:=by rw[dn];exact Ext.push (Nat.le_refl _) _
    have bo:Ext al.n al ak:=by rw[kS];exact Ext.push (Nat.le_refl _) _
    obtain⟨bh,bz⟩:=dB.Cu bj
    obtain⟨bf,bA⟩:=bh.Cu bo
    have aR:ak.get (H.room 10).n=some (.cells [.str [40]] 9 .own 0 0):=(bo.get _ (by omega)).trans (by rw[dn];exact dA rfl)
    have aT:ak.get al.n=some (.cells [.str [41]] 9 .own 0 0):=by rw[kS];exact dA rfl
    have adq:=dB.n
    have Nj:=wL.trans bz
    have GX:=Nj.trans bA
    have YK:∀i (af:i<vs.length),∃M,vs[i]=.ptr M 0/\∀y,Ext b h0 y->aA y M (0+0)=some (.int .i64 (Int.ofNat ((xs.map a3.k)[i]?.getD 0))):=λi af=>by
     have i2:i<xs.length:=by omega
     obtain⟨M,nO,zb⟩:=(e5.get cB i af i2).kind
     exact⟨M,nO,λy e=>by rw[zb y e];simp[i2]⟩
    have nM:∀(q:Nat) (mk:aL),(∀y,hX b ak y->y.get q=some (.cells [.str mk] 9 .own 0 0))->∀i y s,i<vs.length->ga b h0 y s->hX b ak y->Y (m+3) (.fn 135) [.int .i64 (Int.ofNat i),.ptr x.n 0,.ptr q 0] y=.ret (.str (if(xs.map a3.k)[i]?.getD 0=8 then mk else[])) y:=λq mk a1 i y s af a6 au=>by
     obtain⟨M,nO,zb⟩:=YK i af
     rcases bU with⟨_,rfl⟩|⟨dT,off,aG,rfl,ag,g3,_⟩
     · simp at af
     have aE:=g3 i af
     rw[nO] at aE
     refine Yt (m+2) i x.n q y (R:=λr=>r=_) ⟨R,aB (sF y (GX.trans au)) rfl,dT,off,_,aG,aB (jr y s a6) rfl,af,M,hJ a6.ext ag aE,_,zb y a6.ext,λe=>⟨mk,aB (a1 y au) rfl,by rw[if_pos e]⟩,λe=>by rw[if_neg e]⟩
    obtain⟨aS,c3,dM,c8⟩:=GQ m (v:=bJ) (vs:=vs) [32,124,32] 135 135 [.ptr x.n 0,.ptr (H.room 10).n 0] [.ptr x.n 0,.ptr al.n 0] (λi=>if(xs.map a3.k)[i]?.getD 0=8 then[40] else[]) (wn (dx xs)) (λi=>if(xs.map a3.k)[i]?.getD 0=8 then[41] else[]) (nI (xs.map a3.k) (dx xs)) (λy=>hX b ak y) (λ_ _ k ew=>k.trans ew) bU (by omega) Cv (λi af=>by
      have i1:i<(xs.map a3.k).length:=by rw[List.length_map];omega
      have i2:i<(dx xs).length:=by omega
      rw[WN af i1 i2,show(xs.map a3.k)[i]?.getD 0=(xs.map a3.k)[i] by rw[List.getElem?_eq_getElem i1];rfl,show wn (dx xs) i=(dx xs)[i] by simp[wn,i2]]
      split<;>simp)
     (nM _ [40] (λy k=>(k.own (by omega) (by omega) aR).2)) (nM _ [41] (λy k=>(k.own (by omega) (by omega) aT).2)) (λi af y s a6 au aw=>item i af y s a6 aw) bf (mI.refl _ _ _ _) (by omega)
    refine⟨aB dB.wK rfl,aB (sF _ wL) rfl,aB (jr _ _ dB) rfl,_,al,M8 (m+3) [40] x.n (H.room 10) (R:=λr=>r=_) (by rw[<-dn]),_,ak,M8 (m+3) [41] x.n al (R:=λr=>r=_) (by rw[<-kS]),aS,c3,aB bf.wK rfl,aB bh.wK rfl,aB (sF _ GX) rfl,aB (sF _ Nj) rfl,bU.snd,aB (jr _ _ bf) rfl,aB (jr _ _ bh) rfl,aS,rfl,dM,zj.trans (GX.trans c8)⟩
  · have hs:cS.shape k bZ ns (xs.map a3.k) (dx xs) (mP rt)=word k:=by
      unfold cS.shape
      rw[if_neg eK,if_neg eE,if_neg fQ,if_neg gT]
    rw[hs] at aw⊢
    obtain⟨y,c,GU,zg⟩:=p0.ws (m+1) (word k) (by omega)
    exact⟨aB mX rfl,aB (jr H _ p0) rfl,word k,⟨by omega,YG bz (by omega)⟩,_,_,y,c,y,rfl,GU,zj.trans zg⟩
theorem YL:M4:=λu kR fH m B h v hm bN aH=>by
 obtain⟨m,rfl⟩:∃j,m=j+2:=⟨m-2,by omega⟩
 have k1:=Gp u kR
 obtain⟨R,rfl⟩:∃R,v=.ptr R 0:=by
  cases u with
  |mk bz bA c8 e1 r0=>obtain⟨R,_,_,_,_,_,_,_,rfl,_⟩:=aH;exact⟨R,rfl⟩
 refine Yv (m+1) R h ?_
 obtain⟨di,gW⟩:∃p,p=h.push (.cells [.bc,.az] 166 .own 0 0):=⟨_,rfl⟩
 obtain⟨da,fM⟩:∃p,p=di.push (.cells [.fi] 127 .own 0 0):=⟨_,rfl⟩
 obtain⟨kD,wM⟩:∃p,p=da.push (.cells [.fi] 172 .own 0 0):=⟨_,rfl⟩
 rw[<-gW,<-fM,<-wM]
 have aQ:di.n=h.n+1:=by rw[gW];rfl
 have bw:da.n=h.n+2:=by rw[fM];show di.n+1=_;omega
 have cl:kD.n=h.n+3:=by rw[wM];show da.n+1=_;omega
 rw[aQ,bw]
 obtain⟨kE,Cx⟩:∃p,p=kD.set (h.n+2) (some (.cells [.fn 129 [] [.ptr h.n 0,.ptr (h.n+1) 0]] 172 .own 0 0)):=⟨_,rfl⟩
 have cC:kE.n=h.n+3:=by rw[Cx];exact cl
 have st1:ay.storeCells kD (h.n+2) 0 [.fn 129 [] [.ptr h.n 0,.ptr (h.n+1) 0]]=some kE:=by
  rw[Cx];exact dY (cs:=[.fi]) (by rw[wM];exact dA bw.symm) rfl rfl
 obtain⟨GY,zk⟩:∃p,p=kE.push (.cells [.fi] 167 .own 0 0):=⟨_,rfl⟩
 obtain⟨wN,zl⟩:∃p,p=GY.set (h.n+3) (some (.cells [.fn 131 [] []] 167 .own 0 0)):=⟨_,rfl⟩
 have dV:wN.n=h.n+4:=by rw[zl];show GY.n=_;rw[zk];show kE.n+1=_;omega
 have g1:ay.storeCells GY (h.n+3) 0 [.fn 131 [] []]=some wN:=by
  rw[zl];exact dY (cs:=[.fi]) (by rw[zk];exact dA cC.symm) rfl rfl
 have ch:∀d,d≠h.n+2->d<h.n+3->wN.get d=kD.get d:=λd ab ae=>by
  rw[zl,aa.bH,if_neg (by omega),zk,aa.eD,if_neg (by omega),Cx,aa.bH,if_neg ab]
 have aT:kD.get (h.n+1)=some (.cells [.fi] 127 .own 0 0):=by
  rw[wM,aa.eD,if_neg (by omega),fM];exact dA aQ.symm
 have aR:kD.get h.n=some (.cells [.bc,.az] 166 .own 0 0):=by
  rw[wM,aa.eD,if_neg (by omega),fM,aa.eD,if_neg (by omega),gW];exact dA rfl
 obtain⟨wO,sG⟩:∃p,p=wN.set (h.n+1) (some (.cells [.fn 132 [] (oP h.n)] 127 .own 0 0)):=⟨_,rfl⟩
 have zm:ay.storeCells wN (h.n+1) 0 [.fn 132 [] (oP h.n)]=some wO:=by
  rw[sG];exact dY (cs:=[.fi]) ((ch _ (by omega) (by omega)).trans aT) rfl rfl
 have fo:wO.n=h.n+4:=by rw[sG];exact dV
 have eE:Ext h.n h wO:=⟨by omega,λd aq=>by
  rw[sG,aa.bH,if_neg (by omega),ch d (by omega) (by omega),wM,aa.eD,if_neg (by omega),fM,aa.eD,if_neg (by omega),gW,aa.eD,if_neg (by omega)]⟩
 have box:ga h.n h wO []:=by
  refine⟨⟨.bc,.az,?_,.inl rfl,.inl ⟨rfl,rfl⟩,by omega,by omega,λ_=>rfl⟩,?_,?_,?_,eE⟩
  · rw[sG,aa.bH,if_neg (by omega),ch _ (by omega) (by omega)];exact aR
  · rw[sG];exact dN rfl
  · rw[sG,aa.bH,if_neg (by omega),zl,aa.bH,if_neg (by omega),zk,aa.eD,if_neg (by omega),Cx];exact dN rfl
  · rw[sG,aa.bH,if_neg (by omega),zl];exact dN rfl
 obtain⟨y,c1,bh,bz⟩:=Ng (sz u) u (Nat.le_refl _) kR fH (m+1) h.n h (.ptr R 0) (by omega) (e4.le bN _ _ aH) wO [] box (by simp;omega)
 rw[List.nil_append] at bh
 obtain⟨z,c2,bo⟩:=YC m h.n (h.n+4) y (wr u) bh.Ct (by omega)
 refine⟨kE,st1,wN,?_,wO,?_,oP h.n,?_,y,c1,wr u,z,c2,ca.mk ⟨?_,λd aq=>?_⟩⟩
 · rw[cC,<-zk];exact g1
 · rw[cC];exact zm
 · rw[sG];exact aB (dN rfl) rfl
 · have:=bz.x.n;have:=bo.n;omega
 · rw[bo.get d (by omega),bz.x.get d (by omega) (by omega),eE.get d (by omega)]
theorem YM{ot:Option a3}{B:Nat}{h:aa}{v:J}(m:Nat)(fH:dw ot<=90000)(aJ:∀t,ot=some t->hV t<=90000)(hm:4*dw ot+20<=m)(bN:B<=h.n)(aH:ep B h ot v):
  ca B h (.int .i64 (Int.ofNat (mS ot))) (Y (m+1) (.fn 76) [v] h):=by
 cases ot with
 |none=>
  obtain rfl:v=.bc:=aH
  exact XX m h (ca.mk (Ext.refl _ _))
 |some t=>
  have bE:dw (some t)=sz t:=lD t
  obtain⟨R,rfl⟩:∃R,v=.ptr R 0:=by
   cases t with
   |mk bz bA c8 e1 r0=>obtain⟨R,_,_,_,_,_,_,_,rfl,_⟩:=aH;exact⟨R,rfl⟩
  obtain⟨m,rfl⟩:∃j,m=j+1:=⟨m-1,by omega⟩
  obtain⟨al,c1,bj⟩:=Gt (m-1) fH bN aH (by omega)
  replace bj:=bj.le bN
  rw[show m-1+2=m+1 by omega] at c1
  rw[bE] at c1 fH hm
  refine XW (m+1) R h ⟨_,al,c1,λlE=>?_,λlE=>?_⟩
  · exact ca.of (by rw[mS,if_pos (by omega)]) bj
  · obtain⟨ak,c2,bo⟩:=M5 YL (sz t) t (Nat.le_refl _) (by omega) (aJ t rfl) (m+1) B al (.ptr R 0) (by omega) (Nat.le_trans bN bj.n) (e4.bM (fm.ext bj (Nat.le_refl _)) _ _ aH)
    have Nk:=bj.trans (Nat.le_refl _) bo
    refine⟨_,ak,c2,λag=>?_,λag=>?_⟩
    · have:g7 t=true:=by simpa using ag
      exact ca.of (by rw[mS,if_neg (by omega),if_pos this]) Nk
    · have:g7 t=false:=by simpa using ag
      exact ca.of (by rw[mS,if_neg (by omega),if_neg (by rw[this];simp)]) Nk
end Go.Proofs.cf
