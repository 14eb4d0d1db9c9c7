/-
  PROVED HERE: contracts of functions (Dg). No condition beside each statement's own.
-/
import Derived.Test.YtjkomfonmcmgdaaGreatDoorDf
import Derived.Test.YtjkomfonmcmgdaaGreatDoorTx
set_option linter.unusedVariables false
set_option linter.unusedSimpArgs false
namespace Go.Proofs.cF
open Go aM Go.Proofs c_
set_option maxRecDepth 100000
set_option maxHeartbeats 1000000
theorem Xf(m:Nat)(r:Nat)(h:J){R:av->Prop}(H:∃aD:Nat,au h r (0+0)=some (.int .i64 (.ofNat aD))/\∃s1:List UInt8,au h r (0+1)=some (.str s1)/\(dF s1 []=true->∃v1:I,au h r (0+2)=some v1/\∃bm:Nat,b9 Tryz.prog h 63 v1=some (.int .i64 (.ofNat bm))/\(bm=0->∃v2:I,au h r (0+3)=some v2/\∃bG:Nat,b9 Tryz.prog h 50 v2=some (.int .i64 (.ofNat bG))/\(bG=0->∃bV:Nat,au h r (0+4)=some (.ptr bV 0)/\R (.ret (.bool (eR true (a8 (.ofNat aD) (.ofNat 8)))) h))/\(¬bG=0->(7<=aD->∃cc:Nat,au h r (0+4)=some (.ptr cc 0)/\R (.ret (.bool (eR true (a8 (.ofNat aD) (.ofNat 8)))) h))/\(¬7<=aD->R (.ret (.bool false) h))))/\(¬bm=0->(aD=7->∃c4:I,au h r (0+3)=some c4/\∃cI:Nat,b9 Tryz.prog h 50 c4=some (.int .i64 (.ofNat cI))/\(cI=0->∃dr:Nat,au h r (0+4)=some (.ptr dr 0)/\R (.ret (.bool (eR true (a8 (.ofNat aD) (.ofNat 8)))) h))/\(¬cI=0->(7<=aD->∃en:Nat,au h r (0+4)=some (.ptr en 0)/\R (.ret (.bool (eR true (a8 (.ofNat aD) (.ofNat 8)))) h))/\(¬7<=aD->R (.ret (.bool false) h))))/\(¬aD=7->R (.ret (.bool false) h))))/\(dF s1 []=false->(aD=6->∃v4:I,au h r (0+2)=some v4/\∃eH:Nat,b9 Tryz.prog h 63 v4=some (.int .i64 (.ofNat eH))/\(eH=0->∃fl:I,au h r (0+3)=some fl/\∃fX:Nat,b9 Tryz.prog h 50 fl=some (.int .i64 (.ofNat fX))/\(fX=0->∃iH:Nat,au h r (0+4)=some (.ptr iH 0)/\R (.ret (.bool (eR true (a8 (.ofNat aD) (.ofNat 8)))) h))/\(¬fX=0->(7<=aD->∃jk:Nat,au h r (0+4)=some (.ptr jk 0)/\R (.ret (.bool (eR true (a8 (.ofNat aD) (.ofNat 8)))) h))/\(¬7<=aD->R (.ret (.bool false) h))))/\(¬eH=0->(aD=7->∃v6:I,au h r (0+3)=some v6/\∃j8:Nat,b9 Tryz.prog h 50 v6=some (.int .i64 (.ofNat j8))/\(j8=0->∃px:Nat,au h r (0+4)=some (.ptr px 0)/\R (.ret (.bool (eR true (a8 (.ofNat aD) (.ofNat 8)))) h))/\(¬j8=0->(7<=aD->∃nF:Nat,au h r (0+4)=some (.ptr nF 0)/\R (.ret (.bool (eR true (a8 (.ofNat aD) (.ofNat 8)))) h))/\(¬7<=aD->R (.ret (.bool false) h))))/\(¬aD=7->R (.ret (.bool false) h))))/\(¬aD=6->R (.ret (.bool false) h)))):
  R (Y (m+1) (.fn 61) [.ptr r 0] h):=
 dJ (intr:=b1) [] [(0,.v (.ptr r 0))] Tryz.func61 (by kernel_rfl) (by kernel_rfl) (by kernel_rfl) rfl (Eq.mp (by kernel_rfl) H)
theorem Xg(m:Nat)(r:Nat)(h:J){R:av->Prop}(H:∃aD:Nat,au h r (0+0)=some (.int .i64 (.ofNat aD))/\∃s1:List UInt8,au h r (0+1)=some (.str s1)/\(dF s1 []=true->∃v1:I,au h r (0+2)=some v1/\∃bm:Nat,b9 Tryz.prog h 63 v1=some (.int .i64 (.ofNat bm))/\(bm=0->∃v2:I,au h r (0+3)=some v2/\∃bG:Nat,b9 Tryz.prog h 50 v2=some (.int .i64 (.ofNat bG))/\(bG=0->au h r (0+4)=some .bb/\R (.ret (.bool (eR false (a8 (.ofNat aD) (.ofNat 8)))) h))/\(¬bG=0->(7<=aD->au h r (0+4)=some .bb/\R (.ret (.bool (eR false (a8 (.ofNat aD) (.ofNat 8)))) h))/\(¬7<=aD->R (.ret (.bool false) h))))/\(¬bm=0->(aD=7->∃c4:I,au h r (0+3)=some c4/\∃bV:Nat,b9 Tryz.prog h 50 c4=some (.int .i64 (.ofNat bV))/\(bV=0->au h r (0+4)=some .bb/\R (.ret (.bool (eR false (a8 (.ofNat aD) (.ofNat 8)))) h))/\(¬bV=0->(7<=aD->au h r (0+4)=some .bb/\R (.ret (.bool (eR false (a8 (.ofNat aD) (.ofNat 8)))) h))/\(¬7<=aD->R (.ret (.bool false) h))))/\(¬aD=7->R (.ret (.bool false) h))))/\(dF s1 []=false->(aD=6->∃v4:I,au h r (0+2)=some v4/\∃cc:Nat,b9 Tryz.prog h 63 v4=some (.int .i64 (.ofNat cc))/\(cc=0->∃fl:I,au h r (0+3)=some fl/\∃cI:Nat,b9 Tryz.prog h 50 fl=some (.int .i64 (.ofNat cI))/\(cI=0->au h r (0+4)=some .bb/\R (.ret (.bool (eR false (a8 (.ofNat aD) (.ofNat 8)))) h))/\(¬cI=0->(7<=aD->au h r (0+4)=some .bb/\R (.ret (.bool (eR false (a8 (.ofNat aD) (.ofNat 8)))) h))/\(¬7<=aD->R (.ret (.bool false) h))))/\(¬cc=0->(aD=7->∃v6:I,au h r (0+3)=some v6/\∃dr:Nat,b9 Tryz.prog h 50 v6=some (.int .i64 (.ofNat dr))/\(dr=0->au h r (0+4)=some .bb/\R (.ret (.bool (eR false (a8 (.ofNat aD) (.ofNat 8)))) h))/\(¬dr=0->(7<=aD->au h r (0+4)=some .bb/\R (.ret (.bool (eR false (a8 (.ofNat aD) (.ofNat 8)))) h))/\(¬7<=aD->R (.ret (.bool false) h))))/\(¬aD=7->R (.ret (.bool false) h))))/\(¬aD=6->R (.ret (.bool false) h)))):
  R (Y (m+1) (.fn 61) [.ptr r 0] h):=
 dJ (intr:=b1) [(45,.bC (.is .bb))] [(0,.v (.ptr r 0))] Tryz.func61 (by kernel_rfl) (by kernel_rfl) (by kernel_rfl) rfl (Eq.mp (by kernel_rfl) H)
theorem Xh(m:Nat)(r:Nat)(h:J){R:av->Prop}(H:∃aD:Nat,au h r (0+0)=some (.int .i64 (.ofNat aD))/\(aD<1->R (.ret (.bool false) h))/\(¬aD<1->∃bm:Nat,au h r (0+0)=some (.int .i64 (.ofNat bm))/\(9<bm->R (.ret (.bool false) h))/\(¬9<bm->∃bt:Bool,∃aj:J,(Y m) (.fn 61) [.ptr r 0] h=.ret (.bool bt) aj/\(bt=true->∃v1:I,au aj r (0+3)=some v1/\∃bH:Bool,∃ax:J,(Y m) (.fn 63) [v1,.fn 62 [] []] aj=.ret (.bool bH) ax/\(bH=true->R (.ret (.bool false) ax))/\(bH=false->∃bG:Nat,au ax r (0+0)=some (.int .i64 (.ofNat bG))/\(bG=6->∃s1:List UInt8,au ax r (0+1)=some (.str s1)/\∃ej:Bool,∃aC:J,(Y m) (.fn 64) [.str s1,.str [45,47,46],.int .i64 (.ofNat 161)] ax=.ret (.bool ej) aC/\R (.ret (.bool ej) aC))/\(¬bG=6->(bG=7->∃v2:I,au (ax.room 27) r (0+2)=some v2/\∃bV:Nat,b9 Tryz.prog (ax.room 27) 63 v2=some (.int .i64 (.ofNat bV))/\∃c4:I,au (ax.room 27) r (0+3)=some c4/\∃cc:Nat,b9 Tryz.prog (ax.room 27) 50 c4=some (.int .i64 (.ofNat cc))/\(bV=cc->∃v4:I,au (ax.room 27) r (0+2)=some v4/\∃j6:Bool,∃bK:J,(Y m) (.fn 65) [v4,.fn 66 [] []] (ax.room 27)=.ret (.bool j6) bK/\(j6=true->I.sound v2=true/\I.sound c4=true/\I.sound v4=true/\R (.ret (.bool false) bK))/\(j6=false->∃fl:I,au bK r (0+2)=some fl/\∃pj:Bool,∃bW:J,(Y m) (.fn 68) [fl,.fn 69 [] []] bK=.ret (.bool pj) bW/\I.sound v2=true/\I.sound c4=true/\I.sound v4=true/\I.sound fl=true/\R (.ret (.bool pj) bW)))/\(¬bV=cc->I.sound v2=true/\I.sound c4=true/\R (.ret (.bool false) (ax.room 27))))/\(¬bG=7->(bG=8->∃v6:I,au ax r (0+4)=some v6/\∃ny:Bool,∃dZ:J,(Y m) (.fn 43) [v6] ax=.ret (.bool ny) dZ/\R (.ret (.bool ny) dZ))/\(¬bG=8->(bG=9->∃hT:I,au ax r (0+3)=some hT/\∃cI:Nat,b9 Tryz.prog ax 50 hT=some (.int .i64 (.ofNat cI))/\(2<=cI->∃hk:I,au ax r (0+3)=some hk/\∃yJ:Bool,∃eQ:J,(Y m) (.fn 63) [hk,.fn 70 [] []] ax=.ret (.bool yJ) eQ/\(yJ=true->R (.ret (.bool false) eQ))/\(yJ=false->∃r5:I,au eQ r (0+3)=some r5/\∃vQ:Bool,∃fT:J,(Y m) (.fn 71) [r5,.fn 72 [] []] eQ=.ret (.bool vQ) fT/\R (.ret (.bool vQ) fT)))/\(¬2<=cI->R (.ret (.bool false) ax)))/\(¬bG=9->R (.ret (.bool true) ax)))))))/\(bt=false->R (.ret (.bool false) aj))))):
  R (Y (m+1) (.fn 43) [.ptr r 0] h):=
 dJ (intr:=b1) [(76,.bC .o)] [(0,.v (.ptr r 0))] Tryz.func43 (by kernel_rfl) (by kernel_rfl) (by kernel_rfl) rfl (Eq.mp (by kernel_rfl) H)
def lv:a5:=[48,49,50,51,52,53,54,55,56,57]
theorem Xi:((List.range 256).all λn=>fb (Int.ofNat 0) (nR n lv 0)==iU n)=true:=by decide
theorem Xj(c:UInt8):fb (Int.ofNat 0) (nR c.toNat lv 0)=iU c.toNat:=by
 have:=List.all_eq_true.1 Xi c.toNat (by rw[List.mem_range];exact UInt8.toNat_lt c)
 simpa using this
theorem Xk(n:Nat)(s:a5)(c:Nat)(h:J)(ag:c<256):Y (n+1) (.fn 127) [.str s,.int .u8 (Int.ofNat c)] h=.ret (.int .i64 (nR c s 0)) h:=by
 have ae:Nat.blt c 256=true:=by simpa[Nat.blt_eq] using ag
 have af:b1 127 [.str s,.int .u8 (Int.ofNat c)] h=none:=by kernel_rfl
 have qk:Tryz.f127.body=none:=by rfl
 have aa:qS Tryz.prog Tryz.f127 Tryz.f127.name [.str s,.int .u8 (Int.ofNat c)] h=some (.int .i64 (nR c s 0),h):=by
  have aK:Tryz.f127.name= "internal/bytealg.IndexByteString" :=by rfl
  simp only[qS,aK,if_true,ae]
 simp only[Y,e6,af,pQ,Tryz.func127,qk,aa]
theorem Xl(m:Nat)(c:UInt8)(h:J):Y (m+5) (.fn 85) [.str lv,.str [c]] h=.ret (.bool (iU c.toNat)) h:=by
 rw[<-Xj]
 have aG:Y (m+2) (.fn 121) [.str lv,.int .u8 (Int.ofNat c.toNat)] h=.ret (.int .i64 (nR c.toNat lv 0)) h:=
  Wm (m+1) lv c.toNat h (R:=λx=>x=_) ⟨_,h,Xk m lv c.toNat h (UInt8.toNat_lt _),rfl⟩
 have a9:Y (m+3) (.fn 117) [.str lv,.str [c]] h=.ret (.int .i64 (nR c.toNat lv 0)) h:=
  Wl (m+2) lv c h (R:=λx=>x=_) ⟨by simp[nW,lv],by rfl,_,h,aG,rfl⟩
 have dn:Y (m+4) (.fn 111) [.str lv,.str [c]] h=.ret (.int .i64 (nR c.toNat lv 0)) h:=
  Wk (m+3) lv [c] h (R:=λx=>x=_) ⟨_,h,a9,rfl⟩
 exact Wj (m+4) lv [c] h (R:=λx=>x=_) ⟨_,h,dn,rfl⟩
theorem Xm(n:Nat):(hi n&&iU n)=false:=by
 unfold hi iU
 simp only[Bool.and_eq_false_iff,Bool.or_eq_false_iff,decide_eq_false_iff_not]
 omega
theorem Xn(m B:Nat)(s:a5)(h:J)(cM:B<=h.n):cN B h (.bool (hP s)) (Y (m+6) (.fn 67) [.str s] h):=by
 obtain⟨g,aG,bA⟩:=Lu (m+1) B pt s [] 24 h cM (by omega) (.inl ⟨rfl,rfl⟩)
 refine Wc (m+5) s h ⟨_,g,aG,λae=>?_,λae=>?_⟩
 · simp only[Bool.and_eq_true,decide_eq_true_eq] at ae
   obtain⟨⟨ab,ad⟩,ar⟩:=ae
   cases s with
   |nil=>simp at ab
   |cons c s=>
    refine⟨[c],JG Fo (by simp),_,g,Xl m c g,cN.of (h4 ?_) bA⟩
    have ag:pt c.toNat=true:=by
     have:=List.all_eq_true.1 ar c (by simp)
     simpa using this
    have ao:=Xm c.toNat
    unfold hP
    have bx:(c::s).all (λc=>hi c.toNat||iU c.toNat)=true:=ar
    rw[bx]
    have hw:(hi c.toNat||iU c.toNat)=true:=ag
    simp only[EX,ab,ad,decide_true,Bool.true_and,Bool.and_true]
    revert ao hw
    cases hi c.toNat<;>cases iU c.toNat<;>simp
 · refine cN.of (h4 ?_) bA
   unfold hP
   have bx:s.all (λc=>hi c.toNat||iU c.toNat)=s.all (λc=>pt c.toNat):=rfl
   rw[bx]
   revert ae
   cases decide (1<=s.length)<;>cases decide (s.length<=24)<;>cases s.all (λc=>pt c.toNat)<;>simp
def pA(k:Nat)(s:a5)(N M:Nat)(o:Bool):Bool:=((dF s []||decide (k=6))&&((decide (N=0)||decide (k=7))&&(decide (M=0)||decide (7<=k))))&&(o==decide (k=8))
theorem Xo(m:Nat){R:Nat}{h:J}{k:Nat}{s:a5}{bJ bd cU:I}{bh:gE}{aN up N M:Nat}{o:Bool}(al:h.get R=some (.cells [.int .i64 (Int.ofNat k),.str s,bJ,bd,cU] 80 bh aN up))(aK:b9 Tryz.prog h 63 bJ=some (.int .i64 (Int.ofNat N)))(aB:b9 Tryz.prog h 50 bd=some (.int .i64 (Int.ofNat M)))(a2:(cU=.bb/\o=false)\/(∃q,cU=.ptr q 0)/\o=true):
  Y (m+1) (.fn 61) [.ptr R 0] h=.ret (.bool (pA k s N M o)) h:=by
 have gX:=tM k 8
 have fin:∀(b hK:Bool),b=hK->(av.ret (.bool b) h=.ret (.bool hK) h):=λb hK e=>by rw[e]
 rcases a2 with⟨rfl,rfl⟩|⟨⟨q,rfl⟩,rfl⟩
 · refine Xg m R h (R:=λx=>x=.ret (.bool (pA k s N M false)) h) ⟨k,aU al rfl,s,aU al rfl,λab=>⟨bJ,aU al rfl,N,aK,λad=>⟨bd,aU al rfl,M,aB,λar=>⟨aU al rfl,fin _ _ ?_⟩,λar=>⟨λaJ=>⟨aU al rfl,fin _ _ ?_⟩,λaJ=>fin _ _ ?_⟩⟩,λad=>⟨λar=>⟨bd,aU al rfl,M,aB,λaJ=>⟨aU al rfl,fin _ _ ?_⟩,λaJ=>⟨λbO=>⟨aU al rfl,fin _ _ ?_⟩,λbO=>fin _ _ ?_⟩⟩,λar=>fin _ _ ?_⟩⟩,λab=>⟨λh0=>⟨bJ,aU al rfl,N,aK,λad=>⟨bd,aU al rfl,M,aB,λar=>⟨aU al rfl,fin _ _ ?_⟩,λar=>⟨λaJ=>⟨aU al rfl,fin _ _ ?_⟩,λaJ=>fin _ _ ?_⟩⟩,λad=>⟨λar=>⟨bd,aU al rfl,M,aB,λaJ=>⟨aU al rfl,fin _ _ ?_⟩,λaJ=>⟨λbO=>⟨aU al rfl,fin _ _ ?_⟩,λbO=>fin _ _ ?_⟩⟩,λar=>fin _ _ ?_⟩⟩,λh0=>fin _ _ ?_⟩⟩<;>
    (unfold pA;(try simp only[eR,gX]);simp_all<;>omega)
 · refine Xf m R h (R:=λx=>x=.ret (.bool (pA k s N M true)) h) ⟨k,aU al rfl,s,aU al rfl,λab=>⟨bJ,aU al rfl,N,aK,λad=>⟨bd,aU al rfl,M,aB,λar=>⟨q,aU al rfl,fin _ _ ?_⟩,λar=>⟨λaJ=>⟨q,aU al rfl,fin _ _ ?_⟩,λaJ=>fin _ _ ?_⟩⟩,λad=>⟨λar=>⟨bd,aU al rfl,M,aB,λaJ=>⟨q,aU al rfl,fin _ _ ?_⟩,λaJ=>⟨λbO=>⟨q,aU al rfl,fin _ _ ?_⟩,λbO=>fin _ _ ?_⟩⟩,λar=>fin _ _ ?_⟩⟩,λab=>⟨λh0=>⟨bJ,aU al rfl,N,aK,λad=>⟨bd,aU al rfl,M,aB,λar=>⟨q,aU al rfl,fin _ _ ?_⟩,λar=>⟨λaJ=>⟨q,aU al rfl,fin _ _ ?_⟩,λaJ=>fin _ _ ?_⟩⟩,λad=>⟨λar=>⟨bd,aU al rfl,M,aB,λaJ=>⟨q,aU al rfl,fin _ _ ?_⟩,λaJ=>⟨λbO=>⟨q,aU al rfl,fin _ _ ?_⟩,λbO=>fin _ _ ?_⟩⟩,λar=>fin _ _ ?_⟩⟩,λh0=>fin _ _ ?_⟩⟩<;>
    (unfold pA;(try simp only[eR,gX]);simp_all<;>omega)
end Go.Proofs.cF
namespace Go.Proofs.cF
open Go aM Go.Proofs c_
set_option maxRecDepth 100000
set_option maxHeartbeats 1000000
def wn(l:List a5)(i:Nat):a5:=(l[i]?).getD []
def qB(p:Option a5):List a5->Bool
 |[]=>true
 |x::l=>l1 p x&&qB (some x) l
theorem Fv:∀(p:Option a5) (l:List a5),jx p l=(l.all hP&&qB p l)
 |p,[]=>rfl
 |p,x::l=>by
  rw[jx,qB,Fv (some x) l,List.all_cons]
  cases hP x<;>cases l1 p x<;>cases l.all hP<;>rfl
theorem Fw:∀(p:Option a5) (eY:List Nat) (l:List a5),eY.length=l.length->kA p eY l=(eY.all (λk=>decide (k≠9)&&decide (k≠1))&&qB p l)
 |p,[],[],_=>rfl
 |p,[],_::_,h=>by simp at h
 |p,_::_,[],h=>by simp at h
 |p,k::eY,x::l,h=>by
  rw[Lf,qB,Fw (some x) eY l (by simpa using h),List.all_cons]
  cases (decide (k≠9)&&decide (k≠1))<;>cases l1 p x<;>cases eY.all (λk=>decide (k≠9)&&decide (k≠1))<;>rfl
theorem LJ:∀(p:Option a5) (l:List a5),qB p l=true<->(∀x,l[0]? =some x->l1 p x=true)/\∀i,i+1<l.length->dB (wn l i) (wn l (i+1))=true
 |p,[]=>by simp[qB]
 |p,x::l=>by
  rw[qB,Bool.and_eq_true,LJ (some x) l]
  constructor
  · rintro⟨ab,ad,ar⟩
    refine⟨λy aW=>by simp at aW;subst aW;exact ab,λi af=>?_⟩
    cases i with
    |zero=>
     cases l with
     |nil=>simp at af
     |cons y l=>simpa[wn,l1] using ad y (by simp)
    |succ i=>simpa[wn] using ar i (by simpa using af)
  · rintro⟨ab,ad⟩
    refine⟨ab x (by simp),λy aW=>?_,λi af=>?_⟩
    · cases l with
      |nil=>simp at aW
      |cons z l=>
       simp at aW
       subst aW
       simpa[wn,l1] using ad 0 (by simp)
    · simpa[wn] using ad (i+1) (by simpa using af)
theorem LK(l:List a5):qB none l=py (wn l) l.length:=by
 rw[Bool.eq_iff_iff,LJ]
 unfold py
 rw[Bool.not_eq_true',List.any_eq_false]
 constructor
 · rintro⟨_,h⟩ i af
   rw[List.mem_range] at af
   cases i with
   |zero=>simp
   |succ i=>simp[h i af]
 · intro h
   refine⟨λ_ _=>rfl,λi af=>?_⟩
   have:=h (i+1) (by rw[List.mem_range];exact af)
   simpa using this
def r6(l:List Bool)(i:Nat):Bool:=(l[i]?).getD false
theorem Fx(l:List Bool):(List.range l.length).any (r6 l)=l.any id:=by
 rw[Bool.eq_iff_iff,List.any_eq_true,List.any_eq_true]
 constructor
 · rintro⟨i,af,h⟩
   rw[List.mem_range] at af
   refine⟨l[i],List.getElem_mem af,?_⟩
   simpa[r6,af] using h
 · rintro⟨b,ae,h⟩
   obtain⟨i,af,rfl⟩:=List.getElem_of_mem ae
   exact⟨i,by simpa using af,by simpa[r6,af] using h⟩
theorem Fy{α:Type}(f:α->Bool)(l:List α){i:Nat}(af:i<l.length):r6 (l.map f) i=f l[i]:=by simp[r6,af]
theorem LL:∀xs:List aF,(xs.map (λu=>!dY u)).any id=!hj xs
 |[]=>rfl
 |x::xs=>by
  rw[hj,List.map_cons,List.any_cons,LL xs]
  cases dY x<;>rfl
theorem Fz{α:Type}(f:α->Bool):∀l:List α,(l.map (λx=>!f x)).any id=!l.all f
 |[]=>rfl
 |x::l=>by
  rw[List.map_cons,List.any_cons,List.all_cons,Fz f l]
  cases f x<;>rfl
theorem LM(k:Nat)(nm:a5)(ns:List a5)(xs:List aF)(rt:Option aF):dY (.mk k nm ns xs rt)=((decide (1<=k)&&decide (k<=9))&&(pA k nm ns.length xs.length rt.isSome&&(hj xs&&eL k nm ns (xs.map aF.k) (cn xs) xs.length (il rt)))):=by
 rw[mM]
 congr 1
 by_cases e:k=6/\nm=[]
 · obtain⟨rfl,rfl⟩:=e
   have:eL 6 [] ns (xs.map aF.k) (cn xs) xs.length (il rt)=false:=by simp[eL,lo]
   rw[this];simp
 · congr 1
   unfold hQ pA
   rw[vO]
   have cH:¬k=6\/¬nm=[]:=by
    by_cases h:k=6
    · right;intro ad;exact e ⟨h,ad⟩
    · exact .inl h
   have qq:(0<ns.length)=¬ns.length=0:=by simp[Nat.pos_iff_ne_zero]
   have e7:(0<xs.length)=¬xs.length=0:=by simp[Nat.pos_iff_ne_zero]
   have xA:(7<=k)=¬k<7:=by simp
   simp only[qq,e7,xA,ne_eq,decide_not]
   rcases cH with cH|cH<;>simp only[cH,decide_false]<;>cases decide (k=6)<;>cases decide (nm=[])<;>cases decide (ns.length=0)<;>cases decide (k=7)<;>cases decide (xs.length=0)<;>cases decide (k<7)<;>cases rt.isSome<;>cases decide (k=8)<;>rfl
abbrev LN:Prop:=∀(u:aF),dY u=true->sz u<=100->∀(m B:Nat) (h:J) (v:I),4*sz u+10<=m->B<=h.n->dE B h u v->cN B h (.str (wr u)) (Y m (.fn 72) [v] h)
theorem LO(je:LN):∀(K:Nat) (t:aF),sz t<=K->sz t<=100->k0 t<=90000->∀(m B:Nat) (h:J) (v:I),4*sz t+12<=m->B<=h.n->dE B h t v->cN B h (.bool (dY t)) (Y m (.fn 43) [v] h)
 |0,t,di,_,_,_,_,_,_,_,_,_=>by
  have:=rS t
  omega
 |K+1,.mk k nm ns xs rt,di,gW,iz,m,B,h,v,hm,cM,aB=>by
  obtain⟨R,bJ,bd,cU,vs,bh,aN,up,rfl,ad,ar,aJ,bO,cj,db⟩:=aB
  rw[mL] at di gW hm
  rw[k0] at iz
  obtain⟨m,rfl⟩:∃j,m=j+5:=⟨m-5,by omega⟩
  have fs:=dO.len cj
  have ja:=nD xs
  have kK:=vy xs
  have kZ:(ns.map I.str).length=ns.length:=List.length_map _
  have a6:∀(u:aF),sz u<=K->sz u<=100->k0 u<=90000->∀(m B:Nat) (h:J) (v:I),4*sz u+12<=m->B<=h.n->dE B h u v->cN B h (.bool (dY u)) (Y m (.fn 43) [v] h):=LO je K
  rw[LM]
  have a2:(cU=.bb/\rt.isSome=false)\/(∃q,cU=.ptr q 0)/\rt.isSome=true:=by
   cases rt with
   |none=>exact .inl ⟨db,rfl⟩
   |some u=>
    cases u with
    |mk cw c2 dm e4 eX=>obtain⟨W,_,_,_,_,_,_,_,rfl,_⟩:=db;exact .inr ⟨⟨W,rfl⟩,rfl⟩
  have LP:∀g,Ext B h g->b9 Tryz.prog g 63 bJ=some (.int .i64 (Int.ofNat ns.length)):=λg x=>by
   rw[<-kZ];exact(aJ.ck (gK.ext x (Nat.le_refl _))).len (t:=63) (e:=9) (by kernel_rfl)
  have kL:∀g,Ext B h g->b9 Tryz.prog g 50 bd=some (.int .i64 (Int.ofNat xs.length)):=λg x=>by
   rw[<-fs];exact(bO.ck (gK.ext x (Nat.le_refl _))).len (t:=50) (e:=35) (by kernel_rfl)
  have aO:=Xo (m+3) (N:=ns.length) (M:=xs.length) (o:=rt.isSome) ar (LP h (Ext.refl _ _)) (kL h (Ext.refl _ _)) a2
  have fG:∀g,Ext B h g->∀i (i1:i<vs.length) (i2:i<xs.length),dE B g xs[i] vs[i]:=λg x i i1 i2=>dO.get (dO.ck (gK.ext x (Nat.le_refl _)) _ _ cj) i i1 i2
  refine Xh (m+4) R h ⟨k,aU ar rfl,λbE=>cN.of (h4 (by simp;omega)) (Ext.refl _ _),λbE=>⟨k,aU ar rfl,λiG=>cN.of (h4 (by simp;omega)) (Ext.refl _ _),λiG=>⟨_,h,aO,λae=>?_,λae=>?_⟩⟩⟩
  rotate_left
  · refine cN.of (h4 ?_) (Ext.refl _ _)
    have:pA k nm ns.length xs.length rt.isSome=false:=by simpa using ae
    rw[this];simp
  have hr:pA k nm ns.length xs.length rt.isSome=true:=by simpa using ae
  have Fk:(decide (1<=k)&&decide (k<=9))=true:=by simp;omega
  rw[Fk,hr,Bool.true_and,Bool.true_and]
  obtain⟨g,aG,bA⟩:=Ly (m+2) (B:=B) (h:=h) (v:=bd) (vs:=vs) 62 [] (r6 (xs.map (λu=>!dY u))) bO (by omega) (λi i1 x aa=>by
   have i2:i<xs.length:=by omega
   have aZ:=oh (List.getElem_mem i2)
   have aK:=EW (List.getElem_mem i2)
   obtain⟨g,c,y⟩:=a6 xs[i] (by omega) (by omega) (by omega) (m+1) B x vs[i] (by omega) (Nat.le_trans cM aa.n) (fG x aa i i1 i2)
   rw[Fy _ _ i2]
   exact WY (m+1) vs[i] x ⟨_,g,c,cN.of rfl y⟩)
  rw[show vs.length=(xs.map (λu=>!dY u)).length by rw[List.length_map];exact fs,Fx,LL] at aG
  refine⟨bd,aU ar rfl,_,g,aG,λae=>?_,λae=>?_⟩
  · refine cN.of (h4 ?_) bA
    have:hj xs=false:=by simpa using ae
    rw[this];rfl
  have iy:hj xs=true:=by simpa using ae
  rw[iy,Bool.true_and]
  have al:=(bA.get R ad).trans ar
  have rW:=Nat.le_trans cM bA.n
  have h1:∀i (i2:i<xs.length),dY xs[i]=true:=λi i2=>yq iy (List.getElem_mem i2)
  have fin:∀{v:I} {w:Bool} {x:av},w=eL k nm ns (xs.map aF.k) (cn xs) xs.length (il rt)->cN B g (.bool w) x->cN B h (.bool (eL k nm ns (xs.map aF.k) (cn xs) xs.length (il rt))) x:=by
   rintro v w x rfl ⟨an,rfl,y⟩
   exact cN.mk (bA.trans (Nat.le_refl _) y)
  refine⟨k,aU al rfl,λgM=>?_,λgM=>⟨λgq=>?_,λgq=>⟨λgX=>?_,λgX=>⟨λgC=>?_,λgC=>?_⟩⟩⟩⟩
  · subst gM
    obtain⟨aC,dn,dP⟩:=Lu m B jQ nm [45,47,46] 161 g rW (by omega) (.inr ⟨rfl,rfl⟩)
    exact⟨nm,aU al rfl,_,aC,dn,fin (v:=.bb) (by simp[eL,lo]) (cN.mk dP)⟩
  · subst gq
    have tN:eL 7 nm ns (xs.map aF.k) (cn xs) xs.length (il rt)=(decide (ns.length=xs.length)&&jx none ns):=by simp[eL]
    have vR:Ext B g (g.room 27):=Ext.room B g 27
    have oX:=bA.trans (Nat.le_refl _) vR
    have iR:=(vR.get R ad).trans al
    have bV:=aJ.ck (gK.ext oX (Nat.le_refl _))
    refine⟨bJ,aU iR rfl,_,LP _ oX,bd,aU iR rfl,_,kL _ oX,λaK=>?_,λaK=>⟨aJ.snd,bO.snd,fin (v:=.bb) (by rw[tN];simp[aK]) (cN.mk vR)⟩⟩
    obtain⟨aC,dn,dP⟩:=W5 (m+2) (B:=B) (h:=g.room 27) (v:=bJ) (vs:=ns.map .str) 66 [] (r6 (ns.map (λs=>!hP s))) bV (by omega) (λi i1 x aa=>by
     have i2:i<ns.length:=by omega
     obtain⟨g,c,y⟩:=Xn (m-5) B ns[i] x (Nat.le_trans (Nat.le_trans rW vR.n) aa.n)
     rw[Fy _ _ i2,List.getElem_map]
     rw[show m-5+6=m+1 by omega] at c
     exact WZ (m+1) ns[i] x ⟨_,g,c,cN.of rfl y⟩)
    rw[show(ns.map I.str).length=(ns.map (λs=>!hP s)).length by simp,Fx,Fz] at dn
    refine⟨bJ,aU iR rfl,_,aC,dn,λae=>?_,λae=>?_⟩
    rotate_left
    · have hf:ns.all hP=true:=by simpa using ae
      have vS:=vR.trans (Nat.le_refl _) dP
      have yK:=oX.trans (Nat.le_refl _) dP
      have gw:=(vS.get R ad).trans al
      obtain⟨bK,gN,iE⟩:=Xa (m+1) (B:=B) (h:=aC) (v:=bJ) (vs:=ns.map .str) 69 [] (wn ns) (Nat.le_trans rW vS.n) (aJ.ck (gK.ext yK (Nat.le_refl _))) (by omega) rfl (λi af=>by rw[List.getElem_map];rfl) (λi af=>⟨ns[i]'(by omega),by rw[List.getElem_map]⟩) (λi i1 x aa=>by
       have i2:i<ns.length:=by omega
       rw[List.getElem_map,show wn ns i=ns[i] by simp[wn,i2]]
       exact W0 m ns[i] x (cN.mk (Ext.refl _ _)))
      rw[kZ,<-LK] at gN
      exact⟨bJ,aU gw rfl,_,bK,gN,aJ.snd,bO.snd,aJ.snd,aJ.snd,fin (v:=.bb) (by rw[tN,Fv,hf];simp[aK]) (cN.mk (vS.trans (Nat.le_refl _) iE))⟩
    · have hf:ns.all hP=false:=by simpa using ae
      exact⟨aJ.snd,bO.snd,aJ.snd,fin (v:=.bb) (by rw[tN,Fv,hf];simp) (cN.mk (vR.trans (Nat.le_refl _) dP))⟩
  · subst gX
    cases rt with
    |none=>simp[pA] at hr
    |some u=>
     rw[l0] at di gW hm
     rw[qu] at iz
     obtain⟨aC,dn,dP⟩:=a6 u (by omega) (by omega) (by omega) (m+4) B g cU (by omega) rW (dE.ck (gK.ext bA (Nat.le_refl _)) _ _ db)
     exact⟨cU,aU al rfl,_,aC,dn,fin (v:=.bb) (by simp[eL,il]) (cN.mk dP)⟩
  · subst gC
    have vN:eL 9 nm ns (xs.map aF.k) (cn xs) xs.length (il rt)=(kA none (xs.map aF.k) (cn xs)&&decide (2<=xs.length)):=by simp[eL]
    have LQ:(xs.map aF.k).length=(cn xs).length:=by rw[List.length_map,kK]
    refine⟨bd,aU al rfl,_,kL g bA,λuR=>?_,λuR=>fin (v:=.bb) (by rw[vN];simp[uR]) (cN.mk (Ext.refl _ _))⟩
    obtain⟨aC,dn,dP⟩:=Ly (m+2) (B:=B) (h:=g) (v:=bd) (vs:=vs) 70 [] (r6 ((xs.map aF.k).map (λk=>!(decide (k≠9)&&decide (k≠1))))) (bO.ck (gK.ext bA (Nat.le_refl _))) (by omega) (λi i1 x aa=>by
     have i2:i<xs.length:=by omega
     have i3:i<(xs.map aF.k).length:=by rw[List.length_map];exact i2
     obtain⟨M,gT,qw⟩:=(dO.get cj i i1 i2).kind
     rw[Fy _ _ i3,List.getElem_map,gT]
     have aw:=qw x (bA.trans (Nat.le_refl _) aa)
     refine W1 (m+1) M x ⟨_,aw,λe=>cN.of (h4 (by simp[e])) (Ext.refl _ _),λe=>⟨_,aw,cN.of (h4 (by rw[tM];simp[e])) (Ext.refl _ _)⟩⟩)
    rw[show vs.length=((xs.map aF.k).map (λk=>!(decide (k≠9)&&decide (k≠1)))).length by simp;exact fs,Fx,Fz] at dn
    refine⟨bd,aU al rfl,_,aC,dn,λae=>?_,λae=>?_⟩
    rotate_left
    · have hf:(xs.map aF.k).all (λk=>decide (k≠9)&&decide (k≠1))=true:=by simpa using ae
      have yK:=bA.trans (Nat.le_refl _) dP
      have gw:=(dP.get R ad).trans al
      obtain⟨bK,gN,iE⟩:=Xe (m+1) (B:=B) (h:=aC) (v:=bd) (vs:=vs) 72 [] (wn (cn xs)) (Nat.le_trans rW dP.n) (bO.ck (gK.ext yK (Nat.le_refl _))) (by omega) rfl (λi af=>(dO.get cj i af (by omega)).snd) (λi af=>by
       obtain⟨M,gT,_⟩:=(dO.get cj i af (by omega)).kind
       exact⟨M,gT⟩) (λi i1 x aa=>by
       have i2:i<xs.length:=by omega
       have aZ:=oh (List.getElem_mem i2)
       have jP:=yK.trans (Nat.le_refl _) aa
       rw[show wn (cn xs) i=wr xs[i] by simp[wn,kK,i2,vz xs i i2]]
       exact je xs[i] (h1 i i2) (by omega) (m+1) x.n x vs[i] (by omega) (Nat.le_refl _) (dE.le (Nat.le_trans cM jP.n) _ _ (fG x jP i i1 i2)))
      rw[show vs.length=(cn xs).length by omega,<-LK] at gN
      exact⟨bd,aU gw rfl,_,bK,gN,fin (v:=.bb) (by rw[vN,Fw _ _ _ LQ,hf];simp[uR]) (cN.mk (dP.trans (Nat.le_refl _) iE))⟩
    · have hf:(xs.map aF.k).all (λk=>decide (k≠9)&&decide (k≠1))=false:=by simpa using ae
      exact fin (v:=.bb) (by rw[vN,Fw _ _ _ LQ,hf];simp) (cN.mk dP)
  · exact fin (v:=.bb) (by simp[eL,gM,gq,gX,gC]) (cN.mk (Ext.refl _ _))
end Go.Proofs.cF
namespace Go.Proofs.cF
open Go aM Go.Proofs c_
set_option maxRecDepth 100000
set_option maxHeartbeats 1000000
theorem Xp(call:aI->List I->J->av)(b:Nat)(h cz:J)
  (H1:au h b (0+0)=some .bb)
  (aQ:iJ Tryz.prog 90 138 (I.ptr b 0) h=iX.val (I.ptr b 0) h)
  (bq:call (.fn 101) [.ptr b 0] h=av.ret (.ptr b 0) h)
  (bo:iJ Tryz.prog 138 90 (I.ptr b 0) h=iX.val (I.ptr b 0) h)
  (bY:aM.storeCells h b (0+0) [.ptr b 0]=some cz):
  aH Tryz.prog Tryz.f73 none call [] (ah.mk [(0,.ptr b 0)] [] .none h) (.nrm)
   (ah.mk [] [] .none cz):=
 bF [] (hs:=[.v .bb,.v (.bool true),.b true,.v (.ptr b 0),.c (.ptr b 0) h,.v (.ptr b 0),.lR (.aP []) cz]) (by kernel_rfl)<| .cons H1<| .cons (by kernel_rfl:eB Tryz.prog h BinOp.eql 90 (Operand.tmp 5) (Operand.const (Value.pointer none)) I.bb I.bb=some (I.bool true))<| .cons (by kernel_rfl:true=true)<| .cons aQ<| .cons bq<| .cons bo<| .cons (⟨by kernel_rfl,bY,rfl⟩:some 1=some 1/\aM.storeCells h b (0+0) [I.ptr b 0]=some cz/\I.aP []=I.aP [])<| .nil
theorem Xq(call:aI->List I->J->av)(b:Nat)(h:J)(dz:Bool)
  (H1:au h b (0+0)=some (.ptr b 0))
  (aQ:eB Tryz.prog h BinOp.neq 90 (Operand.tmp 17) (Operand.tmp 18) (I.ptr b 0) (I.ptr b 0)=some (I.bool dz))
  (bq:dz=false):
  aH Tryz.prog Tryz.f73 none call [] (ah.mk [(0,.ptr b 0)] [] .none h) (.nrm)
   (ah.mk [] [] .none h):=
 bF [] (hs:=[.v (.ptr b 0),.v (.bool false),.b false,.v (.ptr b 0),.v (.bool dz),.b false]) (by kernel_rfl)<| .cons H1<| .cons (by kernel_rfl:eB Tryz.prog h BinOp.eql 90 (Operand.tmp 5) (Operand.const (Value.pointer none)) (I.ptr b 0) I.bb=some (I.bool false))<| .cons (by kernel_rfl:false=false)<| .cons H1<| .cons aQ<| .cons bq<| .nil
theorem bws(call:aI->List I->J->av)(b c m:Nat)(s:List UInt8)(v:I)(h ad cz hB:J)
  (H1:call (.fn 73) [.ptr b 0] h=av.ret (.aP []) cz)
  (aQ:au cz b (0+1)=some v)
  (bq:dy Tryz.prog cz 27 (some 9) v (I.str s)=some (I.slice c 0 m (b3.a1 1),ad))
  (bo:aM.storeCells ad b (0+1) [.slice c 0 m (.a1 1)]=some hB):
  aH Tryz.prog Tryz.f44 none call [] (ah.mk [(0,.ptr b 0),(1,.str s)] [] .none h) (.ret)
   (ah.mk [(4,.int .i64 (.ofNat (List.length s))),(5,.eS)] [] .none hB):=
 bF [4,5] (hs:=[.c (.aP []) cz,.v v,.lR (.slice c 0 m (.a1 1)) ad,.lR (.aP []) hB]) (by kernel_rfl)<| .cons H1<| .cons aQ<| .cons bq<| .cons (⟨by kernel_rfl,bo,rfl⟩:some 1=some 1/\aM.storeCells ad b (0+1) [I.slice c 0 m (b3.a1 1)]=some hB/\I.aP []=I.aP [])<| .nil
theorem LR(call:aI->List I->J->av)(b:Nat)(s:List UInt8)(v:I)(h ad cz hB:J)
  (H1:call (.fn 73) [.ptr b 0] h=av.ret (.aP []) cz)
  (aQ:au cz b (0+1)=some v)
  (bq:dy Tryz.prog cz 27 (some 9) v (I.str s)=some (I.a0,ad))
  (bo:aM.storeCells ad b (0+1) [.a0]=some hB):
  aH Tryz.prog Tryz.f44 none call [] (ah.mk [(0,.ptr b 0),(1,.str s)] [] .none h) (.ret)
   (ah.mk [(4,.int .i64 (.ofNat (List.length s))),(5,.eS)] [] .none hB):=
 bF [4,5] (hs:=[.c (.aP []) cz,.v v,.lR .a0 ad,.lR (.aP []) hB]) (by kernel_rfl)<| .cons H1<| .cons aQ<| .cons bq<| .cons (⟨by kernel_rfl,bo,rfl⟩:some 1=some 1/\aM.storeCells ad b (0+1) [I.a0]=some hB/\I.aP []=I.aP [])<| .nil
theorem LS(call:aI->List I->J->av)(b c m:Nat)(h:J)(dX:List UInt8)(cz:J)
  (H1:au (J.room h 12) b (0+1)=some (.slice c 0 m (.a1 1)))
  (aQ:hY Tryz.prog Builtin.unsafeSliceData (Array.mk [27]) [.slice c 0 m (.a1 1)] (J.room h 12)=iX.val (.ptr c 0) (J.room h 12))
  (bq:oI Tryz.prog (J.room h 12) 118 (I.ptr c 0) (I.int IntKind.i64 (Int.ofNat m))=some (I.str dX,cz)):
  aH Tryz.prog Tryz.f47 none call [] (ah.mk [(0,.ptr b 0)] [] .none h) (.ret)
   (ah.mk [(2,.str dX)] [] .none cz):=
 bF [2] (hs:=[.v (.slice c 0 m (.a1 1)),.v (.ptr c 0),.v (.slice c 0 m (.a1 1)),.lR (.str dX) cz]) (by kernel_rfl)<| .cons H1<| .cons aQ<| .cons H1<| .cons bq<| .cons (by kernel_rfl:I.sound (I.ptr b 0)=true)<| .cons (by kernel_rfl:I.ptr b 0=I.ptr b 0)<| .cons (by kernel_rfl:I.sound (I.ptr b 0)=true)<| .cons (by kernel_rfl:I.ptr b 0=I.ptr b 0)<| .cons (by kernel_rfl:I.sound (I.ptr b (0+1))=true)<| .cons (by kernel_rfl:I.ptr b (0+1)=I.ptr b (0+1))<| .cons (by kernel_rfl:I.sound (I.slice c 0 m (b3.a1 1))=true)<| .cons H1<| .cons (by kernel_rfl:I.sound (I.ptr c 0)=true)<| .cons aQ<| .cons (by kernel_rfl:I.sound (I.ptr b 0)=true)<| .cons (by kernel_rfl:I.ptr b 0=I.ptr b 0)<| .cons (by kernel_rfl:I.sound (I.ptr b 0)=true)<| .cons (by kernel_rfl:I.ptr b 0=I.ptr b 0)<| .cons (by kernel_rfl:I.sound (I.ptr b (0+1))=true)<| .cons (by kernel_rfl:I.ptr b (0+1)=I.ptr b (0+1))<| .cons (by kernel_rfl:I.sound (I.slice c 0 m (b3.a1 1))=true)<| .cons H1<| .cons (by kernel_rfl:I.sound (I.int IntKind.i64 (Int.ofNat m))=true)<| .cons (by kernel_rfl:b9 Tryz.prog (J.room h 12) 27 (I.slice c 0 m (b3.a1 1))=some (I.int IntKind.i64 (Int.ofNat m)))<| .cons (by kernel_rfl:I.sound (I.str dX)=true)<| .cons (by kernel_rfl:I.str dX=I.str dX)<| .nil
theorem LU(call:aI->List I->J->av)(b:Nat)(h:J)(dX:List UInt8)(cz:J)
  (H1:au (J.room h 12) b (0+1)=some .a0)
  (aQ:oI Tryz.prog (J.room h 12) 118 I.bb (I.int IntKind.i64 (Int.ofNat 0))=some (I.str dX,cz)):
  aH Tryz.prog Tryz.f47 none call [] (ah.mk [(0,.ptr b 0)] [] .none h) (.ret)
   (ah.mk [(2,.str dX)] [] .none cz):=
 bF [2] (hs:=[.v .a0,.v .bb,.v .a0,.lR (.str dX) cz]) (by kernel_rfl)<| .cons H1<| .cons (by kernel_rfl:hY Tryz.prog Builtin.unsafeSliceData (Array.mk [27]) [I.a0] (J.room h 12)=iX.val I.bb (J.room h 12))<| .cons H1<| .cons aQ<| .cons (by kernel_rfl:I.sound (I.ptr b 0)=true)<| .cons (by kernel_rfl:I.ptr b 0=I.ptr b 0)<| .cons (by kernel_rfl:I.sound (I.ptr b 0)=true)<| .cons (by kernel_rfl:I.ptr b 0=I.ptr b 0)<| .cons (by kernel_rfl:I.sound (I.ptr b (0+1))=true)<| .cons (by kernel_rfl:I.ptr b (0+1)=I.ptr b (0+1))<| .cons (by kernel_rfl:I.sound I.a0=true)<| .cons H1<| .cons (by kernel_rfl:I.sound I.bb=true)<| .cons (by kernel_rfl:hY Tryz.prog Builtin.unsafeSliceData (Array.mk [27]) [I.a0] (J.room h 12)=iX.val I.bb (J.room h 12))<| .cons (by kernel_rfl:I.sound (I.ptr b 0)=true)<| .cons (by kernel_rfl:I.ptr b 0=I.ptr b 0)<| .cons (by kernel_rfl:I.sound (I.ptr b 0)=true)<| .cons (by kernel_rfl:I.ptr b 0=I.ptr b 0)<| .cons (by kernel_rfl:I.sound (I.ptr b (0+1))=true)<| .cons (by kernel_rfl:I.ptr b (0+1)=I.ptr b (0+1))<| .cons (by kernel_rfl:I.sound I.a0=true)<| .cons H1<| .cons (by kernel_rfl:I.sound (I.int IntKind.i64 (Int.ofNat 0))=true)<| .cons (by kernel_rfl:b9 Tryz.prog (J.room h 12) 27 I.a0=some (I.int IntKind.i64 (Int.ofNat 0)))<| .cons (by kernel_rfl:I.sound (I.str dX)=true)<| .cons (by kernel_rfl:I.str dX=I.str dX)<| .nil
theorem Xr(m:Nat)(v:I)(s:List UInt8)(fu:Nat)(fz:Nat)(b:Nat)(c:Nat)(ir:List I)(iu:List I)(h:J){R:av->Prop}(H:∃aD:Nat,b9 Tryz.prog h 50 v=some (.int .i64 (.ofNat aD))/\a4 Tryz.prog Tryz.f95 (Y m) [1,0] (ah.mk [(1,.str s),(2,.fn fu [] ir),(3,.fn fz [] iu),(4,.ptr b 0),(5,.ptr c 0),(12,v),(13,.int .i64 (.ofNat aD)),(14,.int .i64 (.ofNat 0))] [] .none h) (λcd ct=>∃aj:J,∃bB:Env,cd=.exit 0/\ct=ah.mk bB [] .none aj/\cl [] bB/\R (.ret (.aP []) aj))):
  R (Y (m+1) (.fn 95) [v,.str s,.fn fu [] ir,.fn fz [] iu,.ptr b 0,.ptr c 0] h):=
 dJ (intr:=b1) [(4000,.g2 [1,2,3,4,5,12,13,14] [(.exit 0,[])])] [(0,.o v),(1,.v (.str s)),(2,.o (.fn fu [] ir)),(3,.o (.fn fz [] iu)),(4,.v (.ptr b 0)),(5,.v (.ptr c 0))] Tryz.func95 (by kernel_rfl) (by kernel_rfl) (by kernel_rfl) rfl (Eq.mp (by kernel_rfl) H)
theorem Xs(call:aI->List I->J->av)(s:List UInt8)(fu:Nat)(fz:Nat)(b:Nat)(c:Nat)(fh:Nat)(off:Nat)(N:Nat)(i:Nat)(yL:Nat)(cp:b3)(ir:List I)(iu:List I)(co:List I)(h:J){Q:bn->ah->Prop}(H:(i<N->i<N/\∃v1:I,au h fh (off+i*1)=some v1/\(0<i->∃aD:Nat,∃v2:I,∃aj:J,call (.fn 44) [.ptr b 0,.str s] h=.ret (.aP [.int .i64 (.ofNat aD),v2]) aj/\∃s1:List UInt8,∃ax:J,call (.fn fu) (.int .i64 (.ofNat i)::ir) aj=.ret (.str s1) ax/\∃bm:Nat,∃c4:I,∃aC:J,call (.fn 44) [.ptr b 0,.str s1] ax=.ret (.aP [.int .i64 (.ofNat bm),c4]) aC/\au aC c 0=some (.fn yL [] co)/\∃bK:J,call (.fn yL) (v1::co) aC=.ret (.aP []) bK/\∃s2:List UInt8,∃bW:J,call (.fn fz) (.int .i64 (.ofNat i)::iu) bK=.ret (.str s2) bW/\∃bG:Nat,∃v4:I,∃dZ:J,call (.fn 44) [.ptr b 0,.str s2] bW=.ret (.aP [.int .i64 (.ofNat bG),v4]) dZ/\i+1<9223372036854775808/\Q .nrm (ah.mk [(1,.str s),(2,.fn fu [] ir),(3,.fn fz [] iu),(4,.ptr b 0),(5,.ptr c 0),(12,.slice fh off N cp),(13,.int .i64 (.ofNat N)),(14,.int .i64 (.ofNat (i+1)))] [] .none dZ))/\(¬0<i->∃bI:List UInt8,∃eQ:J,call (.fn fu) (.int .i64 (.ofNat i)::ir) h=.ret (.str bI) eQ/\∃bV:Nat,∃fl:I,∃fT:J,call (.fn 44) [.ptr b 0,.str bI] eQ=.ret (.aP [.int .i64 (.ofNat bV),fl]) fT/\au fT c 0=some (.fn yL [] co)/\∃jz:J,call (.fn yL) (v1::co) fT=.ret (.aP []) jz/\∃bL:List UInt8,∃l7:J,call (.fn fz) (.int .i64 (.ofNat i)::iu) jz=.ret (.str bL) l7/\∃cc:Nat,∃v6:I,∃yM:J,call (.fn 44) [.ptr b 0,.str bL] l7=.ret (.aP [.int .i64 (.ofNat cc),v6]) yM/\i+1<9223372036854775808/\Q .nrm (ah.mk [(1,.str s),(2,.fn fu [] ir),(3,.fn fz [] iu),(4,.ptr b 0),(5,.ptr c 0),(12,.slice fh off N cp),(13,.int .i64 (.ofNat N)),(14,.int .i64 (.ofNat (i+1)))] [] .none yM)))/\(¬i<N->Q (.exit 0) (ah.mk [(1,.str s),(2,.fn fu [] ir),(3,.fn fz [] iu),(4,.ptr b 0),(5,.ptr c 0),(12,.slice fh off N cp),(13,.int .i64 (.ofNat N)),(14,.int .i64 (.ofNat i))] [] .none h))):
  a4 Tryz.prog Tryz.f95 call [1,0,0] ⟨[(1,.str s),(2,.fn fu [] ir),(3,.fn fz [] iu),(4,.ptr b 0),(5,.ptr c 0),(12,.slice fh off N cp),(13,.int .i64 (.ofNat N)),(14,.int .i64 (.ofNat i))],[],.none,h⟩ Q:=
 dI [(18,.bC .o),(27,.bC (.io (.fn yL [] co)))] [1,2,3,4,5,12,13,14] [(1,.v (.str s)),(2,.o (.fn fu [] ir)),(3,.o (.fn fz [] iu)),(4,.v (.ptr b 0)),(5,.v (.ptr c 0)),(12,.v (.slice fh off N cp)),(13,.v (.int .i64 (.ofNat N))),(14,.v (.int .i64 (.ofNat i)))] rfl (Eq.mp (by kernel_rfl) H)
theorem Xt(call:aI->List I->J->av)(s:List UInt8)(fu:Nat)(fz:Nat)(b:Nat)(c:Nat)(N:Nat)(i:Nat)(ir:List I)(iu:List I)(v:I)(h:J){Q:bn->ah->Prop}(H:¬i<N/\Q (.exit 0) (ah.mk [] [] .none h)):
  a4 Tryz.prog Tryz.f95 call [1,0,0] ⟨[(1,.str s),(2,.fn fu [] ir),(3,.fn fz [] iu),(4,.ptr b 0),(5,.ptr c 0),(12,v),(13,.int .i64 (.ofNat N)),(14,.int .i64 (.ofNat i))],[],.none,h⟩ Q:=
 dI [(1015,.f)] [] [(1,.v (.str s)),(2,.o (.fn fu [] ir)),(3,.o (.fn fz [] iu)),(4,.v (.ptr b 0)),(5,.v (.ptr c 0)),(12,.o v),(13,.v (.int .i64 (.ofNat N))),(14,.v (.int .i64 (.ofNat i)))] rfl (Eq.mp (by kernel_rfl) H)
theorem FA(m:Nat)(i:Nat)(h:J){R:av->Prop}(H:R (.ret (.str []) h)):
  R (Y (m+1) (.fn 96) [.int .i64 (.ofNat i)] h):=
 dJ (intr:=b1) [] [(0,.v (.int .i64 (.ofNat i)))] Tryz.func96 (by kernel_rfl) (by kernel_rfl) (by kernel_rfl) rfl (Eq.mp (by kernel_rfl) H)
theorem Xu(m:Nat)(i:Nat)(e:Nat)(h:J){R:av->Prop}(H:∃aD:Nat,au h e 0=some (.ptr aD 0)/\∃bm:Nat,∃bG:Nat,∃bV:Nat,∃aG:b3,au h aD (0+2)=some (.slice bm bG bV aG)/\i<bV/\∃s1:List UInt8,au h bm (bG+i*1)=some (.str s1)/\List.length s1+2<=1000000000000/\R (.ret (.str (s1++[58,32])) h)):
  R (Y (m+1) (.fn 98) [.int .i64 (.ofNat i),.ptr e 0] h):=
 dJ (intr:=b1) [(7,.bC .fS)] [(0,.v (.int .i64 (.ofNat i))),(1,.v (.ptr e 0))] Tryz.func98 (by kernel_rfl) (by kernel_rfl) (by kernel_rfl) rfl (Eq.mp (by kernel_rfl) H)
theorem LV(m:Nat)(s:List UInt8)(e:Nat)(h:J){R:av->Prop}(H:R (.ret (.fn 100 [] [.ptr e 0,.ptr h.n 0]) (J.push h (.cells [.str s] 9 .own 0 0)))):
  R (Y (m+1) (.fn 99) [.str s,.ptr e 0] h):=
 dJ (intr:=b1) [] [(0,.v (.str s)),(1,.v (.ptr e 0))] Tryz.func99 (by kernel_rfl) (by kernel_rfl) (by kernel_rfl) rfl (Eq.mp (by kernel_rfl) H)
theorem Xv(m:Nat)(i:Nat)(e:Nat)(f:Nat)(h:J){R:av->Prop}(H:∃aD:Nat,au h e 0=some (.ptr aD 0)/\∃bm:Nat,∃bG:Nat,∃bV:Nat,∃aG:b3,au h aD (0+3)=some (.slice bm bG bV aG)/\i<bV/\∃cc:Nat,au h bm (bG+i*1)=some (.ptr cc 0)/\∃cI:Nat,au h cc (0+0)=some (.int .i64 (.ofNat cI))/\(cI=8->∃s1:List UInt8,au h f 0=some (.str s1)/\R (.ret (.str s1) h))/\(¬cI=8->R (.ret (.str []) h))):
  R (Y (m+1) (.fn 100) [.int .i64 (.ofNat i),.ptr e 0,.ptr f 0] h):=
 dJ (intr:=b1) [(8,.bC .fS)] [(0,.v (.int .i64 (.ofNat i))),(1,.v (.ptr e 0)),(2,.v (.ptr f 0))] Tryz.func100 (by kernel_rfl) (by kernel_rfl) (by kernel_rfl) rfl (Eq.mp (by kernel_rfl) H)
theorem Xw(m:Nat)(b:Nat)(l:Nat)(n:Nat)(o:Nat)(r:Nat)(k:Nat)(s:List UInt8)(bd:I)(cU:I)(h:J){R:av->Prop}(H:au (J.push h (.cells [.ptr r 0] 35 .own 0 0)) h.n 0=some (.ptr r 0)/\au (J.push h (.cells [.ptr r 0] 35 .own 0 0)) r (0+0)=some (.int .i64 (.ofNat k))/\(k=6->au (J.push h (.cells [.ptr r 0] 35 .own 0 0)) h.n 0=some (.ptr r 0)/\au (J.push h (.cells [.ptr r 0] 35 .own 0 0)) r (0+1)=some (.str s)/\∃aD:Nat,∃v1:I,∃aj:J,(Y m) (.fn 44) [.ptr b 0,.str s] (J.push h (.cells [.ptr r 0] 35 .own 0 0))=.ret (.aP [.int .i64 (.ofNat aD),v1]) aj/\R (.ret (.aP []) aj))/\(¬k=6->(k=7->∃bm:Nat,∃v2:I,∃ax:J,(Y m) (.fn 44) [.ptr b 0,.str [123]] (J.push h (.cells [.ptr r 0] 35 .own 0 0))=.ret (.aP [.int .i64 (.ofNat bm),v2]) ax/\au (ax.room 8) l 0=some (.fn 95 [] [.ptr b 0,.ptr o 0])/\au (ax.room 8) h.n 0=some (.ptr r 0)/\au (ax.room 8) r (0+3)=some bd/\au (ax.room 8) n 0=some (.fn 96 [] [])/\∃aC:J,(Y m) (.fn 95) [bd,.str [44,32],.fn 98 [] [.ptr h.n 0],.fn 96 [] [],.ptr b 0,.ptr o 0] (ax.room 8)=.ret (.aP []) aC/\I.sound bd=true/\∃bG:Nat,∃c4:I,∃bK:J,(Y m) (.fn 44) [.ptr b 0,.str [125]] aC=.ret (.aP [.int .i64 (.ofNat bG),c4]) bK/\R (.ret (.aP []) bK))/\(¬k=7->(k=8->∃bV:Nat,∃v4:I,∃bW:J,(Y m) (.fn 44) [.ptr b 0,.str [102,110,40]] (J.push h (.cells [.ptr r 0] 35 .own 0 0))=.ret (.aP [.int .i64 (.ofNat bV),v4]) bW/\au (bW.room 8) l 0=some (.fn 95 [] [.ptr b 0,.ptr o 0])/\au (bW.room 8) h.n 0=some (.ptr r 0)/\au (bW.room 8) r (0+3)=some bd/\au (bW.room 8) n 0=some (.fn 96 [] [])/\au (bW.room 8) n 0=some (.fn 96 [] [])/\∃dZ:J,(Y m) (.fn 95) [bd,.str [44,32],.fn 96 [] [],.fn 96 [] [],.ptr b 0,.ptr o 0] (bW.room 8)=.ret (.aP []) dZ/\I.sound bd=true/\∃cc:Nat,∃fl:I,∃eQ:J,(Y m) (.fn 44) [.ptr b 0,.str [41,32,45,62,32]] dZ=.ret (.aP [.int .i64 (.ofNat cc),fl]) eQ/\au (eQ.room 6) o 0=some (.fn 97 [] [.ptr b 0,.ptr l 0,.ptr n 0,.ptr o 0])/\au (eQ.room 6) h.n 0=some (.ptr r 0)/\au (eQ.room 6) r (0+4)=some cU/\∃fT:J,(Y m) (.fn 97) [cU,.ptr b 0,.ptr l 0,.ptr n 0,.ptr o 0] (eQ.room 6)=.ret (.aP []) fT/\I.sound cU=true/\R (.ret (.aP []) fT))/\(¬k=8->(k=9->au (J.room (J.push h (.cells [.ptr r 0] 35 .own 0 0)) 10) l 0=some (.fn 95 [] [.ptr b 0,.ptr o 0])/\au (J.room (J.push h (.cells [.ptr r 0] 35 .own 0 0)) 10) h.n 0=some (.ptr r 0)/\au (J.room (J.push h (.cells [.ptr r 0] 35 .own 0 0)) 10) r (0+3)=some bd/\∃v6:I,∃jz:J,(Y m) (.fn 99) [.str [40],.ptr h.n 0] (J.room (J.push h (.cells [.ptr r 0] 35 .own 0 0)) 10)=.ret v6 jz/\∃hT:I,∃l7:J,(Y m) (.fn 99) [.str [41],.ptr h.n 0] jz=.ret hT l7/\∃yM:J,(Y m) (.fn 95) [bd,.str [32,124,32],v6,hT,.ptr b 0,.ptr o 0] l7=.ret (.aP []) yM/\au l7 l 0=some (.fn 95 [] [.ptr b 0,.ptr o 0])/\au jz l 0=some (.fn 95 [] [.ptr b 0,.ptr o 0])/\au l7 h.n 0=some (.ptr r 0)/\au jz h.n 0=some (.ptr r 0)/\I.sound bd=true/\au l7 r (0+3)=some bd/\au jz r (0+3)=some bd/\R (.ret (.aP []) yM))/\(¬k=9->au (J.push h (.cells [.ptr r 0] 35 .own 0 0)) h.n 0=some (.ptr r 0)/\au (J.push h (.cells [.ptr r 0] 35 .own 0 0)) r (0+0)=some (.int .i64 (.ofNat k))/\∃s1:List UInt8,(k<6/\iI Tryz.prog 9 [.str [],.str [97,110,121],.str [105,110,116],.str [98,111,111,108],.str [115,116,114],.str [110,105,108]] (k*1)=some (.str s1))/\∃cI:Nat,∃hk:I,∃LW:J,(Y m) (.fn 44) [.ptr b 0,.str s1] (J.push h (.cells [.ptr r 0] 35 .own 0 0))=.ret (.aP [.int .i64 (.ofNat cI),hk]) LW/\R (.ret (.aP []) LW)))))):
  R (Y (m+1) (.fn 97) [.ptr r 0,.ptr b 0,.ptr l 0,.ptr n 0,.ptr o 0] h):=
 dJ (intr:=b1) [(7,.bC (.is (.ptr r 0))),(20,.bC (.is (.ptr r 0))),(29,.bC (.is (.ptr r 0))),(41,.bC (.is (.ptr r 0))),(50,.bC (.is (.ptr r 0))),(59,.bC (.is (.ptr r 0))),(12,.bC (.is (.ptr r 0))),(10,.bC (.is (.int .i64 (.ofNat k)))),(15,.bC (.is (.int .i64 (.ofNat k)))),(23,.bC (.is (.str s))),(32,.bC (.io bd)),(44,.bC (.io bd)),(62,.bC (.io bd)),(53,.bC (.io cU)),(28,.bC (.is (.fn 95 [] [.ptr b 0,.ptr o 0]))),(40,.bC (.is (.fn 95 [] [.ptr b 0,.ptr o 0]))),(58,.bC (.is (.fn 95 [] [.ptr b 0,.ptr o 0]))),(34,.bC (.is (.fn 96 [] []))),(45,.bC (.is (.fn 96 [] []))),(46,.bC (.is (.fn 96 [] []))),(49,.bC (.is (.fn 97 [] [.ptr b 0,.ptr l 0,.ptr n 0,.ptr o 0]))),(64,.bC .o),(66,.bC .o)] [(0,.v (.ptr r 0)),(1,.v (.ptr b 0)),(2,.v (.ptr l 0)),(3,.v (.ptr n 0)),(4,.v (.ptr o 0))] Tryz.func97 (by kernel_rfl) (by kernel_rfl) (by kernel_rfl) rfl (Eq.mp (by kernel_rfl) H)
theorem Xx(m:Nat)(r:Nat)(h:J){R:av->Prop}(H:∃aj:J,aM.storeCells (J.push (J.push (J.push h (.cells [.bb,.a0] 92 .own 0 0)) (.cells [.fL] 133 .own 0 0)) (.cells [.fL] 135 .own 0 0)) (J.n (J.push (J.push h (.cells [.bb,.a0] 92 .own 0 0)) (.cells [.fL] 133 .own 0 0))) 0 [.fn 95 [] [.ptr h.n 0,.ptr (J.n (J.push h (.cells [.bb,.a0] 92 .own 0 0))) 0]]=some aj/\∃ax:J,aM.storeCells (J.push aj (.cells [.fL] 134 .own 0 0)) aj.n 0 [.fn 96 [] []]=some ax/\∃aC:J,aM.storeCells ax (J.n (J.push h (.cells [.bb,.a0] 92 .own 0 0))) 0 [.fn 97 [] [.ptr h.n 0,.ptr (J.n (J.push (J.push h (.cells [.bb,.a0] 92 .own 0 0)) (.cells [.fL] 133 .own 0 0))) 0,.ptr aj.n 0,.ptr (J.n (J.push h (.cells [.bb,.a0] 92 .own 0 0))) 0]]=some aC/\∃bB:List I,au aC (J.n (J.push h (.cells [.bb,.a0] 92 .own 0 0))) 0=some (.fn 97 [] bB)/\∃bK:J,(Y m) (.fn 97) (.ptr r 0::bB) aC=.ret (.aP []) bK/\∃s1:List UInt8,∃bW:J,(Y m) (.fn 47) [.ptr h.n 0] bK=.ret (.str s1) bW/\R (.ret (.str s1) bW)):
  R (Y (m+1) (.fn 72) [.ptr r 0] h):=
 dJ (intr:=b1) [(9,.bC (.fn 97 4))] [(0,.v (.ptr r 0))] Tryz.func72 (by kernel_rfl) (by kernel_rfl) (by kernel_rfl) rfl (Eq.mp (by kernel_rfl) H)
def jA(B b:Nat)(h:J)(w:List UInt8):Prop:=∃a v,h.get b=some (.cells [a,v] 92 .own 0 0)/\(a=.bb\/a=.ptr b 0)/\pa B 5 h v w/\b<B/\B<=h.n/\(w=[]->v=.a0)
theorem Xy(n b:Nat)(h:J):Y (n+1) (.fn 101) [.ptr b 0] h=.ret (.ptr b 0) h:=by unfold Y;kernel_rfl
theorem FB(n b:Nat)(h:J)(v:I)(ae:b<h.n)(al:h.get b=some (.cells [.bb,v] 92 .own 0 0)\/h.get b=some (.cells [.ptr b 0,v] 92 .own 0 0)):
  ∃an,Y (n+2) (.fn 73) [.ptr b 0] h=.ret (.aP []) an/\an.get b=some (.cells [.ptr b 0,v] 92 .own 0 0)/\an.n=h.n/\∀c,c≠b->an.get c=h.get c:=by
 rcases al with al|al
 · refine⟨h.set b (some (.cells [.ptr b 0,v] 92 .own 0 0)),?_,gI rfl,rfl,λc ag=>dH ag rfl⟩
   have f1:Tryz.prog.underlying 90=some (.pointer 92):=by kernel_rfl
   have f2:Tryz.prog.underlying 138=some .unsafePointer:=by kernel_rfl
   have f3:dh Tryz.prog 92=some 2:=by kernel_rfl
   have f4:liesAt Tryz.prog Tryz.prog.depth 92 (2/Tryz.prog.cellsOf 92) 0 92 1=true:=by kernel_rfl
   have v1:iJ Tryz.prog 90 138 (I.ptr b 0) h=iX.val (I.ptr b 0) h:=by
    simp only[iJ,f1,f2,f3,al];rfl
   have v2:iJ Tryz.prog 138 90 (I.ptr b 0) h=iX.val (I.ptr b 0) h:=by
    simp only[iJ,f1,f2,f3,al,List.length_cons,List.length_nil,f4];rfl
   have ak:=Xp (Y (n+1)) b h _ (aU al rfl) v1 (Xy n b h) v2 (gJ al rfl rfl)
   exact eK (intr:=b1) (n:=n+1) (args:=[.ptr b 0]) Tryz.func73 (by kernel_rfl) rfl (by kernel_rfl) ak (.inr rfl) (by kernel_rfl)
 · refine⟨h,?_,al,rfl,λc _=>rfl⟩
   have he:eB Tryz.prog h BinOp.neq 90 (Operand.tmp 17) (Operand.tmp 18) (I.ptr b 0) (I.ptr b 0)=some (I.bool false):=by
    have aA:Tryz.prog.underlying 90=some (.pointer 92):=by kernel_rfl
    have ay:dh Tryz.prog 92=some 2:=by kernel_rfl
    have bx:Nat.beq b b=true:=by simp
    simp only[eB,qM,fO,aA,ay,Co,bx]
    rfl
   exact eK (intr:=b1) (n:=n+1) (args:=[.ptr b 0]) Tryz.func73 (by kernel_rfl) rfl (by kernel_rfl) (Xq (Y (n+1)) b h false (aU al rfl) he rfl) (.inr rfl) (by kernel_rfl)
theorem LX:∃i,Tryz.prog.info? 5=some i/\i.size=1/\i.bytes=1:=by
 have af:(Tryz.prog.info? 5).map (λi=>(i.size,i.bytes))=some (1,1):=by kernel_rfl
 cases tP:Tryz.prog.info? 5 with
 |none=>rw[tP] at af;cases af
 |some i=>
  rw[tP] at af
  simp only[Option.map_some,Option.some.injEq,Prod.mk.injEq] at af
  exact⟨i,rfl,af.1,af.2⟩
theorem LY{i:TypeInfo}(af:i.bytes=1){n:Nat}(aK:n<=1000000000):kI n i.bytes=true:=by
 rw[af]
 have:(4*n+2048)*(1+1)<=281474976710656:=by omega
 simpa[kI] using this
theorem Bv(n b B:Nat)(h:J)(w s:List UInt8)(ae:jA B b h w)(aw:w.length+s.length<=1000000000):∃an,Y (n+3) (.fn 44) [.ptr b 0,.str s] h=.ret (.aP [.int .i64 (Int.ofNat s.length),.eS]) an/\jA B b an (w++s)/\mD 5 b B h an:=by
 obtain⟨a,v,al,aS,Bw,kC,Xz,qc⟩:=ae
 obtain⟨ab,aG,aj,aD,dv⟩:=FB n b h v (by omega) (by rcases aS with rfl|rfl;exact .inl al;exact .inr al)
 have bt:pa B 5 ab v w:=Bw.ext (by omega) λc ag _=>dv c (by omega)
 obtain⟨i,tP,Bx,xN⟩:=LX
 obtain⟨v',ad,cw,c2,dm⟩:=JI (P:=Tryz.prog) (B:=B) (sT:=27) (xT:=some 9) (e:=5) (z:=.int .u8 (Int.ofNat 0)) (by omega) (by kernel_rfl) (by kernel_rfl) tP Bx (by kernel_rfl) rfl (LY xN aw) bt
 have ax:=(dm.get b kC).trans aj
 have aK:=dm.n
 have tQ:w++s=[]->v'=.a0:=by
  intro e
  obtain⟨rfl,rfl⟩:=List.append_eq_nil_iff.1 e
  obtain rfl:=qc rfl
  have:dy Tryz.prog ab 27 (some 9) .a0 (.str [])=some (.a0,ab):=by
   have hu:Tryz.prog.underlying 27=some (.slice 5):=by kernel_rfl
   have hs:oG Tryz.prog (some 9)=true:=by kernel_rfl
   have aZ:d_ Tryz.prog 5=some (.int .u8 (Int.ofNat 0)):=by kernel_rfl
   simp only[dy,hu,hs,tP,aZ,Bx];rfl
  rw[this] at cw
  cases cw;rfl
 refine⟨ad.set b (some (.cells [.ptr b 0,v'] 92 .own 0 0)),?_,⟨.ptr b 0,v',gI rfl,.inr rfl,c2.ext (by simp) λc ag _=>dH (by omega) rfl,kC,by simp;omega,tQ⟩,⟨⟨by simp;omega,λc ag lG=>dH lG ((dm.get c ag).trans (dv c lG))⟩,λd ao yj n7=>?_⟩⟩
 · rcases c2 with⟨rfl,_⟩|⟨c,r,rfl,_⟩
   · exact eK (intr:=b1) (n:=n+2) (args:=[.ptr b 0,.str s]) Tryz.func44 (by kernel_rfl) rfl (by kernel_rfl) (LR (Y (n+2)) b s v h ad ab _ aG (aU aj rfl) cw (gJ ax rfl rfl)) (.inl rfl) (by kernel_rfl)
   · exact eK (intr:=b1) (n:=n+2) (args:=[.ptr b 0,.str s]) Tryz.func44 (by kernel_rfl) rfl (by kernel_rfl) (bws (Y (n+2)) b c _ s v h ad ab _ aG (aU aj rfl) cw (gJ ax rfl rfl)) (.inl rfl) (by kernel_rfl)
 · refine dH yj ((SD cw (by omega) ?_).trans (dv d yj))
   rintro o l c rfl
   rcases Bw with⟨aa,_⟩|⟨c',rest,aa,ag,_⟩
   · cases aa
   · cases aa
     exact n7 _ _ _ ag
theorem LZ(n b B:Nat)(h:J)(w:List UInt8)(ae:jA B b h w)(aw:w.length<=1000000000):∃an,Y (n+1) (.fn 47) [.ptr b 0] h=.ret (.str w) an/\Ext B h an:=by
 obtain⟨a,v,g,aS,aB,kC,aK,qc⟩:=ae
 rcases aB with⟨rfl,rfl⟩|⟨c,rest,rfl,ag,ql,u7⟩
 · have iM:oI Tryz.prog (J.room h 12) 118 I.bb (I.int IntKind.i64 (Int.ofNat 0))=some (.str [],J.room h 12):=by kernel_rfl
   exact⟨_,eK (intr:=b1) (n:=n) (args:=[.ptr b 0]) Tryz.func47 (by kernel_rfl) rfl (by kernel_rfl) (LU (Y n) b h [] _ (aU (h:=h.room 12) g rfl) iM) (.inl rfl) (by kernel_rfl),Ext.room _ _ _⟩
 · by_cases hw:w=[]
   · exact absurd (qc hw) (by simp)
   · have cV:w.length≠0:=by cases w<;>simp at hw⊢
     have eA:hY Tryz.prog Builtin.unsafeSliceData (Array.mk [27]) [I.slice c 0 w.length (b3.a1 1)] (J.room h 12)=iX.val (I.ptr c 0) (J.room h 12):=by
      simp only[hY]
      exact if_neg cV
     have iM:=JL (P:=Tryz.prog) (h:=h.room 12) (pT:=118) (u:=5) (c:=c) (e:=5) (w:=w) (rest:=rest) hw (by omega) (by kernel_rfl) (by kernel_rfl) (by kernel_rfl) ag
     exact⟨_,eK (intr:=b1) (n:=n) (args:=[.ptr b 0]) Tryz.func47 (by kernel_rfl) rfl (by kernel_rfl) (LS (Y n) b c w.length h w _ (aU (h:=h.room 12) g rfl) eA iM) (.inl rfl) (by kernel_rfl),
      (Ext.room B h 12).trans (Nat.le_refl _) (Ext.set (by omega) _)⟩
end Go.Proofs.cF
namespace Go.Proofs.cF
open Go aM Go.Proofs c_
set_option maxRecDepth 100000
set_option maxHeartbeats 1000000
abbrev oy(b:Nat):List I:=[.ptr b 0,.ptr (b+2) 0,.ptr (b+3) 0,.ptr (b+1) 0]
structure fH(b:Nat)(h0 x:J)(w:a5):Prop where
 By:jA (b+4) b x w
 one:x.get (b+1)=some (.cells [.fn 97 [] (oy b)] 133 .own 0 0)
 vT:x.get (b+2)=some (.cells [.fn 95 [] [.ptr b 0,.ptr (b+1) 0]] 135 .own 0 0)
 n8:x.get (b+3)=some (.cells [.fn 96 [] []] 134 .own 0 0)
 ext:Ext b h0 x
abbrev hU(b:Nat)(x y:J):Prop:=mD 5 b (b+4) x y
theorem fH.n{b:Nat}{h0 x:J}{w:a5}(ae:fH b h0 x w):b+4<=x.n:=by obtain⟨_,_,_,_,_,_,h,_⟩:=ae.By;exact h
theorem fH.L0{b:Nat}{h0 x y:J}{w w':a5}(ae:fH b h0 x w)(aW:jA (b+4) b y w')(k:hU b x y):fH b h0 y w':=
 ⟨aW,(k.x.get _ (by omega) (by omega)).trans ae.one,(k.x.get _ (by omega) (by omega)).trans ae.vT,(k.x.get _ (by omega) (by omega)).trans ae.n8,
  ae.ext.trans (Nat.le_refl _) ⟨k.x.n,λd ao=>k.x.get d (by omega) (by omega)⟩⟩
theorem fH.kD{b:Nat}{h0 x y:J}{w:a5}(ae:fH b h0 x w)(e:Ext x.n x y):fH b h0 y w/\hU b x y:=by
 have aK:=ae.n
 have aq:hU b x y:=mD.ext e aK
 refine⟨ae.L0 ?_ aq,aq⟩
 obtain⟨a,v,ab,ad,ar,aJ,bO,cj⟩:=ae.By
 exact⟨a,v,(e.get b (by omega)).trans ab,ad,ar.ext e.n λc _ ag=>e.get c ag,aJ,Nat.le_trans bO e.n,cj⟩
theorem fH.ws{b:Nat}{h0 x:J}{w:a5}(n:Nat)(s:a5)(ae:fH b h0 x w)(aw:w.length+s.length<=1000000000):∃y,Y (n+3) (.fn 44) [.ptr b 0,.str s] x=.ret (.aP [.int .i64 (Int.ofNat s.length),.eS]) y/\fH b h0 y (w++s)/\hU b x y:=by
 obtain⟨y,c,aW,k⟩:=Bv n b (b+4) x w s ae.By aw
 exact⟨y,c,ae.L0 aW k,k⟩
theorem hU.own{b d:Nat}{x y:J}{cs:List I}{e:Nat}(k:hU b x y)(ao:d<x.n)(ae:d≠b)(al:x.get d=some (.cells cs e .own 0 0)):d<y.n/\y.get d=some (.cells cs e .own 0 0):=
 ⟨Nat.lt_of_lt_of_le ao k.x.n,(k.k d ao ae (by rw[al];intro cs aN up h;cases h)).trans al⟩
theorem FC(m:Nat){b:Nat}{h0:J}{v:I}{vs:List I}(sep:a5)(fu fz:Nat)(ir iu:List I)(A W Z:Nat->a5)(items:List a5)(K:J->Prop)(di:∀x y,K x->hU b x y->K y)(aB:c7 b h0 v vs)(hlen:vs.length<=90000)(jR:items.length=vs.length)(rN:∀i (af:i<items.length),items[i]=A i++W i++Z i)
  (jL:∀i x w,i<vs.length->fH b h0 x w->K x->Y (m+3) (.fn fu) (.int .i64 (Int.ofNat i)::ir) x=.ret (.str (A i)) x)
  (pB:∀i x w,i<vs.length->fH b h0 x w->K x->Y (m+3) (.fn fz) (.int .i64 (Int.ofNat i)::iu) x=.ret (.str (Z i)) x)
  (sZ:∀i (af:i<vs.length) x w,fH b h0 x w->K x->w.length+(W i).length<=1000000->∃y,Y (m+3) (.fn 97) (vs[i]::oy b) x=.ret (.aP []) y/\fH b h0 y (w++W i)/\hU b x y)
  {x:J}{w:a5}(aa:fH b h0 x w)(Bk:K x)(aw:w.length+(dW sep items).length<=1000000):
  ∃y,Y (m+4) (.fn 95) [v,.str sep,.fn fu [] ir,.fn fz [] iu,.ptr b 0,.ptr (b+1) 0] x=.ret (.aP []) y/\fH b h0 y (w++dW sep items)/\hU b x y:=by
 have kL:∀g,Ext b h0 g->b9 Tryz.prog g 50 v=some (.int .i64 (Int.ofNat vs.length)):=λg x=>(aB.ck (gK.ext x (Nat.le_refl _))).len (t:=50) (e:=35) (by kernel_rfl)
 refine Xr (m+3) v sep fu fz b (b+1) ir iu x (R:=λr=>∃y,r=.ret (.aP []) y/\fH b h0 y (w++dW sep items)/\hU b x y) ⟨vs.length,kL x aa.ext,?_⟩
 refine a4.loop (by kernel_rfl) (λk st=>∃i y Γ,st=⟨Γ,[],.none,y⟩/\cl [(1,.str sep),(2,.fn fu [] ir),(3,.fn fz [] iu),(4,.ptr b 0),(5,.ptr (b+1) 0),(12,v),(13,.int .i64 (Int.ofNat vs.length)),(14,.int .i64 (Int.ofNat i))] Γ/\vs.length-i=k/\i<=vs.length/\fH b h0 y (w++dW sep (items.take i))/\hU b x y/\K y) ?_ vs.length _ (by omega) ⟨0,x,_,rfl,⟨rfl,rfl,rfl,rfl,rfl,rfl,rfl,rfl,trivial⟩,by omega,by omega,by simpa[dW] using aa,mD.refl _ _ _ _,Bk⟩
 rintro k st ⟨i,y,Γ,rfl,cP,aq,af,aW,hw,yN⟩
 by_cases ab:i<vs.length
 · have ad:i<items.length:=by omega
   rcases aB with⟨rfl,rfl⟩|⟨fh,off,cp,rfl,ae,fU,aO,ao⟩
   · simp at ab
   have t1:=yo sep items (i+1)
   have t2:=tI sep items ad
   have L1:=rN i ad
   have item:∀y cK,fH b h0 y cK->K y->cK.length+(items[i]).length<=1000000->∃a ax,Y (m+3) (.fn fu) (.int .i64 (Int.ofNat i)::ir) y=.ret (.str a) ax/\∃b0 aC,Y (m+3) (.fn 44) [.ptr b 0,.str a] ax=.ret (.aP [.int .i64 (Int.ofNat b0),.eS]) aC/\au aC (b+1) 0=some (.fn 97 [] (oy b))/\∃bK,Y (m+3) (.fn 97) (vs[i]::oy b) aC=.ret (.aP []) bK/\∃z bW,Y (m+3) (.fn fz) (.int .i64 (Int.ofNat i)::iu) bK=.ret (.str z) bW/\∃ec dZ,Y (m+3) (.fn 44) [.ptr b 0,.str z] bW=.ret (.aP [.int .i64 (Int.ofNat ec),.eS]) dZ/\fH b h0 dZ (cK++items[i])/\hU b y dZ:=by
    intro y cK L2 FD ik
    rw[L1] at ik
    simp only[List.length_append] at ik
    obtain⟨aC,dn,ej,ec⟩:=L2.ws m (A i) (by omega)
    obtain⟨bK,gN,j6,gP⟩:=sZ i ab aC _ ej (di _ _ FD ec) (by simp;omega)
    have XA:=di _ _ (di _ _ FD ec) gP
    obtain⟨dZ,yO,ny,ic⟩:=j6.ws m (Z i) (by simp;omega)
    refine⟨A i,y,jL i y _ ab L2 FD,_,aC,dn,aU ej.one rfl,bK,gN,Z i,bK,pB i bK _ ab j6 XA,_,dZ,yO,?_,(ec.trans gP).trans ic⟩
    rw[L1]
    simpa only[List.append_assoc] using ny
   have c0:∀dZ,fH b h0 dZ (w++dW sep (items.take (i+1)))->hU b y dZ->(dQ (λs=>∃j,j<k/\(λk st=>∃i y Γ,st=⟨Γ,[],.none,y⟩/\cl [(1,.str sep),(2,.fn fu [] ir),(3,.fn fz [] iu),(4,.ptr b 0),(5,.ptr (b+1) 0),(12,.slice fh off vs.length cp),(13,.int .i64 (Int.ofNat vs.length)),(14,.int .i64 (Int.ofNat i))] Γ/\vs.length-i=k/\i<=vs.length/\fH b h0 y (w++dW sep (items.take i))/\hU b x y/\K y) j s) (λcd ct=>∃(g:J) (cg:Env),cd=.exit 0/\ct=⟨cg,[],.none,g⟩/\cl [] cg/\∃y,av.ret (.aP []) g=.ret (.aP []) y/\fH b h0 y (w++dW sep items)/\hU b x y)) .nrm ⟨[(1,.str sep),(2,.fn fu [] ir),(3,.fn fz [] iu),(4,.ptr b 0),(5,.ptr (b+1) 0),(12,.slice fh off vs.length cp),(13,.int .i64 (Int.ofNat vs.length)),(14,.int .i64 (Int.ofNat (i+1)))],[],.none,dZ⟩:=λdZ ny ic=>
    ⟨_,(by show vs.length-(i+1)<k;omega),i+1,dZ,_,rfl,⟨rfl,rfl,rfl,rfl,rfl,rfl,rfl,rfl,trivial⟩,rfl,by omega,ny,hw.trans ic,di _ _ yN ic⟩
   refine a4.pre (Xs (Y (m+3)) sep fu fz b (b+1) fh off _ i 97 cp ir iu (oy b) y ⟨λ_=>⟨ab,_,iS aW.ext ae (fU i ab),λxm=>?_,λxm=>?_⟩,λai=>absurd ab ai⟩) cP rfl rfl rfl
   · rw[if_pos xm] at t2
     rw[t2] at t1
     simp only[List.length_append] at t1
     obtain⟨aj,aG,bt,bE⟩:=aW.ws m sep (by simp;omega)
     obtain⟨a,ax,a9,b0,aC,dn,gN,bK,nI,z,bW,yO,ec,dZ,FE,ny,bh⟩:=item aj _ bt (di _ _ yN bE) (by simp;omega)
     exact⟨_,_,aj,aG,a,ax,a9,b0,_,aC,dn,gN,bK,nI,z,bW,yO,ec,_,dZ,FE,by omega,c0 dZ (by rw[t2];simpa only[List.append_assoc] using ny) (bE.trans bh)⟩
   · rw[if_neg xm] at t2
     rw[t2] at t1
     have df:items.take i=[]:=by rw[show i=0 by omega];rfl
     rw[df] at aW
     obtain⟨a,ax,a9,b0,aC,dn,gN,bK,nI,z,bW,yO,ec,dZ,FE,ny,bh⟩:=item y _ aW yN (by simp[dW];omega)
     exact⟨a,ax,a9,b0,_,aC,dn,gN,bK,nI,z,bW,yO,ec,_,dZ,FE,by omega,c0 dZ (by rw[t2];simpa[dW] using ny) bh⟩
 · refine a4.pre (Xt (Y (m+3)) sep fu fz b (b+1) vs.length i ir iu v y ⟨ab,y,_,rfl,rfl,trivial,y,rfl,?_,hw⟩) cP rfl rfl rfl
   rw[List.take_of_length_le (by omega)] at aW
   exact aW
end Go.Proofs.cF
namespace Go.Proofs.cF
open Go aM Go.Proofs c_
set_option maxRecDepth 100000
set_option maxHeartbeats 1000000
theorem XB{k:Nat}(ab:1<=k)(bO:k<=5):iI Tryz.prog 9 [.str [],.str [97,110,121],.str [105,110,116],.str [98,111,111,108],.str [115,116,114],.str [110,105,108]] (k*1)=some (.str (word k)):=by
 have:k=1\/k=2\/k=3\/k=4\/k=5:=by omega
 rcases this with rfl|rfl|rfl|rfl|rfl<;>rfl
theorem L3{a b c:a5}:(a++b++c).length=a.length+b.length+c.length:=by simp;omega
theorem L4:∀(K:Nat) (t:aF),sz t<=K->dY t=true->sz t<=100->∀(m b:Nat) (h0:J) (v:I),2*sz t+6<=m->dE b h0 t v->∀(x:J) (w:a5),fH b h0 x w->w.length+(wr t).length<=1000000->∃y,Y m (.fn 97) (v::oy b) x=.ret (.aP []) y/\fH b h0 y (w++wr t)/\hU b x y
 |0,t,di,_,_,_,_,_,_,_,_,_,_,_,_=>by
  have:=rS t
  omega
 |K+1,.mk k nm ns xs rt,di,tR,gW,m,b,h0,v,hm,aB,x,w,aa,aw=>by
  obtain⟨R,bJ,bd,cU,vs,bh,aN,up,rfl,ad,ar,aJ,bO,cj,db⟩:=aB
  have c9:=yr _ tR
  rw[LM] at tR
  simp only[Bool.and_eq_true,decide_eq_true_eq] at tR
  obtain⟨⟨bE,iG⟩,hr,iy,l4⟩:=tR
  rw[okW] at c9
  simp only[Bool.and_eq_true,Bool.or_eq_true,decide_eq_true_eq] at c9
  obtain⟨⟨⟨⟨⟨_,_⟩,oq⟩,qx⟩,Bk⟩,Fc⟩:=c9
  rw[mL] at di gW hm
  rw[rV] at aw
  obtain⟨m,rfl⟩:∃j,m=j+5:=⟨m-5,by omega⟩
  have fs:=dO.len cj
  have ja:=nD xs
  have kK:=vy xs
  have h1:∀i (i2:i<xs.length),dY xs[i]=true:=λi i2=>yq iy (List.getElem_mem i2)
  have a6:∀(u:aF),sz u<=K->dY u=true->sz u<=100->∀(m b:Nat) (h0:J) (v:I),2*sz u+6<=m->dE b h0 u v->∀(x:J) (w:a5),fH b h0 x w->w.length+(wr u).length<=1000000->∃y,Y m (.fn 97) (v::oy b) x=.ret (.aP []) y/\fH b h0 y (w++wr u)/\hU b x y:=L4 K
  rw[rV]
  obtain⟨H,cm⟩:∃H,H=x.push (.cells [.ptr R 0] 35 .own 0 0):=⟨_,rfl⟩
  have dA:Ext x.n x H:=by rw[cm];exact Ext.push (Nat.le_refl _) _
  have lr:H.n=x.n+1:=by rw[cm];rfl
  have r7:H.get x.n=some (.cells [.ptr R 0] 35 .own 0 0):=by rw[cm];exact fj rfl
  obtain⟨r8,yP⟩:=aa.kD dA
  have w9:=aa.n
  have oz:∀y s,fH b h0 y s->y.get R=some (.cells [.int .i64 (Int.ofNat k),.str nm,bJ,bd,cU] 80 bh aN up):=λy s aW=>(aW.ext.get R ad).trans ar
  have r9:∀y,hU b H y->y.get x.n=some (.cells [.ptr R 0] 35 .own 0 0):=λy k=>(k.own (by omega) (by omega) r7).2
  have Bz:∀n y s,fH b h0 y s->fH b h0 (y.room n) s/\hU b y (y.room n):=λn y s aW=>aW.kD (Ext.room _ y n)
  have item:∀i (af:i<vs.length) y s,fH b h0 y s->s.length+(wn (cn xs) i).length<=1000000->∃z,Y (m+3) (.fn 97) (vs[i]::oy b) y=.ret (.aP []) z/\fH b h0 z (s++wn (cn xs) i)/\hU b y z:=λi af y s aW aw=>by
   have i2:i<xs.length:=by omega
   have aZ:=oh (List.getElem_mem i2)
   rw[show wn (cn xs) i=wr xs[i] by simp[wn,kK,i2,vz xs i i2]] at aw⊢
   exact a6 xs[i] (by omega) (h1 i i2) (by omega) (m+3) b h0 vs[i] (by omega) (dO.get cj i af i2) y s aW aw
  refine Xw (m+4) b (b+2) (b+3) (b+1) R k nm bd cU x (R:=λr=>∃y,r=.ret (.aP []) y/\fH b h0 y (w++c_.shape k nm ns (xs.map aF.k) (cn xs) (kz rt))/\hU b x y) ?_
  rw[<-cm]
  refine⟨aU r7 rfl,aU (oz H _ r8) rfl,λgM=>?_,λgM=>⟨λgq=>?_,λgq=>⟨λgX=>?_,λgX=>⟨λgC=>?_,λgC=>?_⟩⟩⟩⟩
  · subst gM
    have:(nm:a5).length<=161:=by
     have:lo nm=true:=by simpa[eL] using l4
     unfold lo at this
     simp only[Bool.and_eq_true,decide_eq_true_eq] at this
     exact this.1.2
    obtain⟨y,c,FF,k⟩:=r8.ws (m+1) nm (by omega)
    exact⟨aU r7 rfl,aU (oz H _ r8) rfl,_,_,y,c,y,rfl,FF,yP.trans k⟩
  · subst gq
    have kZ:xs.length=ns.length:=by rcases oq with oq|oq;exact absurd rfl oq;exact oq
    have hs:c_.shape 7 nm ns (xs.map aF.k) (cn xs) (kz rt)=[123]++dW [44,32] (gS ns (cn xs))++[125]:=rfl
    rw[hs] at aw⊢
    rw[L3] at aw
    simp only[List.length_cons,List.length_nil] at aw
    have jR:(gS ns (cn xs)).length=vs.length:=by unfold gS;rw[List.length_zipWith];omega
    obtain⟨aj,aG,bt,bE⟩:=r8.ws (m+1) [123] (by simp;omega)
    obtain⟨hO,vU⟩:=Bz 8 aj _ bt
    have tS:=bE.trans vU
    obtain⟨ax,a9,bH,b0⟩:=FC m (v:=bd) (vs:=vs) [44,32] 98 96 [.ptr x.n 0] [] (λi=>wn ns i++[58,32]) (wn (cn xs)) (λ_=>[]) (gS ns (cn xs)) (λy=>hU b H y) (λ_ _ k ea=>k.trans ea) bO (by omega) jR (λi af=>by
      have i1:i<ns.length:=by omega
      have i2:i<(cn xs).length:=by omega
      rw[Fb af i1 i2];simp[wn,i1,i2]) (λi y s af aW aq=>by
      have i1:i<ns.length:=by omega
      rcases aJ.strs with⟨_,rfl⟩|⟨nb,off,cp,rfl,ae,fU⟩
      · simp at i1
      refine Xu (m+2) i x.n y (R:=λr=>r=_) ⟨R,aU (r9 y aq) rfl,nb,off,_,cp,aU (oz y s aW) rfl,i1,ns[i],iS aW.ext ae (fU i i1),?_,?_⟩
      · have t2:=tJ [44,32] (gS ns (cn xs)) (i:=i) (by omega)
        rw[Fb (by omega) i1 (by omega)] at t2
        simp at t2⊢;omega
      · simp[wn,i1])
     (λi y s af aW aq=>FA (m+2) i y (R:=λr=>r=_) rfl) (λi af y s aW aq aw=>item i af y s aW aw) hO tS (by simp;omega)
    obtain⟨aC,dn,ej,ec⟩:=bH.ws (m+1) [125] (by simp;omega)
    refine⟨_,_,aj,aG,aU hO.vT rfl,aU (r9 _ tS) rfl,aU (oz _ _ hO) rfl,aU hO.n8 rfl,ax,a9,bO.snd,_,_,aC,dn,aC,rfl,by simpa only[List.append_assoc] using ej,yP.trans (tS.trans (b0.trans ec))⟩
  · subst gX
    have hs:c_.shape 8 nm ns (xs.map aF.k) (cn xs) (kz rt)=[102,110,40]++dW [44,32] (cn xs)++[41,32,45,62,32]++kz rt:=rfl
    rw[hs] at aw⊢
    rw[List.length_append,L3] at aw
    simp only[List.length_cons,List.length_nil] at aw
    obtain⟨aj,aG,bt,bE⟩:=r8.ws (m+1) [102,110,40] (by simp;omega)
    obtain⟨hO,vU⟩:=Bz 8 aj _ bt
    have tS:=bE.trans vU
    obtain⟨ax,a9,bH,b0⟩:=FC m (v:=bd) (vs:=vs) [44,32] 96 96 [] [] (λ_=>[]) (wn (cn xs)) (λ_=>[]) (cn xs) (λy=>hU b H y) (λ_ _ k ea=>k.trans ea) bO (by omega) (by omega) (λi af=>by simp[wn,af]) (λi y s af aW aq=>FA (m+2) i y (R:=λr=>r=_) rfl)
     (λi y s af aW aq=>FA (m+2) i y (R:=λr=>r=_) rfl) (λi af y s aW aq aw=>item i af y s aW aw) hO tS (by simp;omega)
    obtain⟨aC,dn,ej,ec⟩:=bH.ws (m+1) [41,32,45,62,32] (by simp;omega)
    obtain⟨FG,XC⟩:=Bz 6 aC _ ej
    have L5:=tS.trans (b0.trans (ec.trans XC))
    cases rt with
    |none=>rcases qx with qx|qx<;>simp at qx
    |some u=>
     rw[l0] at di gW hm
     have Bn:kz (some u)=wr u:=by rw[kz]
     rw[Bn] at aw⊢
     have XD:dY u=true:=by simpa[eL,il] using l4
     obtain⟨bK,gN,j6,gP⟩:=a6 u (by omega) XD (by omega) (m+4) b h0 cU (by omega) db (aC.room 6) _ FG (by simp;omega)
     exact⟨_,_,aj,aG,aU hO.vT rfl,aU (r9 _ tS) rfl,aU (oz _ _ hO) rfl,aU hO.n8 rfl,aU hO.n8 rfl,ax,a9,bO.snd,_,_,aC,dn,aU FG.one rfl,aU (r9 _ L5) rfl,aU (oz _ _ FG) rfl,bK,gN,ey.snd (ot:=some u) db,bK,rfl,by simpa only[List.append_assoc] using j6,yP.trans (L5.trans gP)⟩
  · subst gC
    have hs:c_.shape 9 nm ns (xs.map aF.k) (cn xs) (kz rt)=dW [32,124,32] (hA (xs.map aF.k) (cn xs)):=rfl
    rw[hs] at aw⊢
    have jR:(hA (xs.map aF.k) (cn xs)).length=vs.length:=by unfold hA;rw[List.length_zipWith,List.length_map];omega
    obtain⟨hO,vU⟩:=Bz 10 H _ r8
    obtain⟨aj,dV⟩:∃g,g=(H.room 10).push (.cells [.str [40]] 9 .own 0 0):=⟨_,rfl⟩
    obtain⟨ax,rR⟩:∃g,g=aj.push (.cells [.str [41]] 9 .own 0 0):=⟨_,rfl⟩
    have aD:aj.n=(H.room 10).n+1:=by rw[dV];rfl
    have bm:ax.n=aj.n+1:=by rw[rR];rfl
    have bA:Ext (H.room 10).n (H.room 10) aj:=by rw[dV];exact Ext.push (Nat.le_refl _) _
    have cX:Ext aj.n aj ax:=by rw[rR];exact Ext.push (Nat.le_refl _) _
    obtain⟨bt,bE⟩:=hO.kD bA
    obtain⟨bH,b0⟩:=bt.kD cX
    have ba:ax.get (H.room 10).n=some (.cells [.str [40]] 9 .own 0 0):=(cX.get _ (by omega)).trans (by rw[dV];exact fj rfl)
    have a7:ax.get aj.n=some (.cells [.str [41]] 9 .own 0 0):=by rw[rR];exact fj rfl
    have vV:=hO.n
    have L6:=vU.trans bE
    have FH:=L6.trans b0
    have yz:∀i (af:i<vs.length),∃M,vs[i]=.ptr M 0/\∀y,Ext b h0 y->au y M (0+0)=some (.int .i64 (Int.ofNat ((xs.map aF.k)[i]?.getD 0))):=λi af=>by
     have i2:i<xs.length:=by omega
     obtain⟨M,gT,qw⟩:=(dO.get cj i af i2).kind
     exact⟨M,gT,λy e=>by rw[qw y e];simp[i2]⟩
    have jT:∀(q:Nat) (mk:a5),(∀y,hU b ax y->y.get q=some (.cells [.str mk] 9 .own 0 0))->∀i y s,i<vs.length->fH b h0 y s->hU b ax y->Y (m+3) (.fn 100) [.int .i64 (Int.ofNat i),.ptr x.n 0,.ptr q 0] y=.ret (.str (if(xs.map aF.k)[i]?.getD 0=8 then mk else[])) y:=λq mk aT i y s af aW aq=>by
     obtain⟨M,gT,qw⟩:=yz i af
     rcases bO with⟨_,rfl⟩|⟨fh,off,cp,rfl,ae,fU,_⟩
     · simp at af
     have aA:=fU i af
     rw[gT] at aA
     refine Xv (m+2) i x.n q y (R:=λr=>r=_) ⟨R,aU (r9 y (FH.trans aq)) rfl,fh,off,_,cp,aU (oz y s aW) rfl,af,M,iS aW.ext ae aA,_,qw y aW.ext,λe=>⟨mk,aU (aT y aq) rfl,by rw[if_pos e]⟩,λe=>by rw[if_neg e]⟩
    obtain⟨aC,dn,ej,ec⟩:=FC m (v:=bd) (vs:=vs) [32,124,32] 100 100 [.ptr x.n 0,.ptr (H.room 10).n 0] [.ptr x.n 0,.ptr aj.n 0] (λi=>if(xs.map aF.k)[i]?.getD 0=8 then[40] else[]) (wn (cn xs)) (λi=>if(xs.map aF.k)[i]?.getD 0=8 then[41] else[]) (hA (xs.map aF.k) (cn xs)) (λy=>hU b ax y) (λ_ _ k ea=>k.trans ea) bO (by omega) jR (λi af=>by
      have i1:i<(xs.map aF.k).length:=by rw[List.length_map];omega
      have i2:i<(cn xs).length:=by omega
      rw[Lb af i1 i2,show(xs.map aF.k)[i]?.getD 0=(xs.map aF.k)[i] by rw[List.getElem?_eq_getElem i1];rfl,show wn (cn xs) i=(cn xs)[i] by simp[wn,i2]]
      split<;>simp)
     (jT _ [40] (λy k=>(k.own (by omega) (by omega) ba).2)) (jT _ [41] (λy k=>(k.own (by omega) (by omega) a7).2)) (λi af y s aW aq aw=>item i af y s aW aw) bH (mD.refl _ _ _ _) (by omega)
    refine⟨aU hO.vT rfl,aU (r9 _ vU) rfl,aU (oz _ _ hO) rfl,_,aj,LV (m+3) [40] x.n (H.room 10) (R:=λr=>r=_) (by rw[<-dV]),_,ax,LV (m+3) [41] x.n aj (R:=λr=>r=_) (by rw[<-rR]),aC,dn,aU bH.vT rfl,aU bt.vT rfl,aU (r9 _ FH) rfl,aU (r9 _ L6) rfl,bO.snd,aU (oz _ _ bH) rfl,aU (oz _ _ bt) rfl,aC,rfl,ej,yP.trans (FH.trans ec)⟩
  · have hs:c_.shape k nm ns (xs.map aF.k) (cn xs) (kz rt)=word k:=by
      unfold c_.shape
      rw[if_neg gM,if_neg gq,if_neg gX,if_neg gC]
    rw[hs] at aw⊢
    obtain⟨y,c,FF,yN⟩:=r8.ws (m+1) (word k) (by omega)
    exact⟨aU r7 rfl,aU (oz H _ r8) rfl,word k,⟨by omega,XB bE (by omega)⟩,_,_,y,c,y,rfl,FF,yP.trans yN⟩
theorem XE:LN:=λu tR gW m B h v hm cM aB=>by
 obtain⟨m,rfl⟩:∃j,m=j+2:=⟨m-2,by omega⟩
 have kK:=vA u tR
 obtain⟨R,rfl⟩:∃R,v=.ptr R 0:=by
  cases u with
  |mk bE b0 ec gP hg=>obtain⟨R,_,_,_,_,_,_,_,rfl,_⟩:=aB;exact⟨R,rfl⟩
 refine Xx (m+1) R h ?_
 obtain⟨eN,oo⟩:∃p,p=h.push (.cells [.bb,.a0] 92 .own 0 0):=⟨_,rfl⟩
 obtain⟨fR,nG⟩:∃p,p=eN.push (.cells [.fL] 133 .own 0 0):=⟨_,rfl⟩
 obtain⟨js,vW⟩:∃p,p=fR.push (.cells [.fL] 135 .own 0 0):=⟨_,rfl⟩
 rw[<-oo,<-nG,<-vW]
 have aD:eN.n=h.n+1:=by rw[oo];rfl
 have bm:fR.n=h.n+2:=by rw[nG];show eN.n+1=_;omega
 have bG:js.n=h.n+3:=by rw[vW];show fR.n+1=_;omega
 rw[aD,bm]
 obtain⟨k_,BA⟩:∃p,p=js.set (h.n+2) (some (.cells [.fn 95 [] [.ptr h.n 0,.ptr (h.n+1) 0]] 135 .own 0 0)):=⟨_,rfl⟩
 have bV:k_.n=h.n+3:=by rw[BA];exact bG
 have st1:aM.storeCells js (h.n+2) 0 [.fn 95 [] [.ptr h.n 0,.ptr (h.n+1) 0]]=some k_:=by
  rw[BA];exact gJ (cs:=[.fL]) (by rw[vW];exact fj bm.symm) rfl rfl
 obtain⟨pC,yQ⟩:∃p,p=k_.push (.cells [.fL] 134 .own 0 0):=⟨_,rfl⟩
 obtain⟨vX,yR⟩:∃p,p=pC.set (h.n+3) (some (.cells [.fn 96 [] []] 134 .own 0 0)):=⟨_,rfl⟩
 have cI:vX.n=h.n+4:=by rw[yR];show pC.n=_;rw[yQ];show k_.n+1=_;omega
 have ko:aM.storeCells pC (h.n+3) 0 [.fn 96 [] []]=some vX:=by
  rw[yR];exact gJ (cs:=[.fL]) (by rw[yQ];exact fj bV.symm) rfl rfl
 have bW:∀d,d≠h.n+2->d<h.n+3->vX.get d=js.get d:=λd ab ad=>by
  rw[yR,J.cR,if_neg (by omega),yQ,J.gk,if_neg (by omega),BA,J.cR,if_neg ab]
 have a7:js.get (h.n+1)=some (.cells [.fL] 133 .own 0 0):=by
  rw[vW,J.gk,if_neg (by omega),nG];exact fj aD.symm
 have ba:js.get h.n=some (.cells [.bb,.a0] 92 .own 0 0):=by
  rw[vW,J.gk,if_neg (by omega),nG,J.gk,if_neg (by omega),oo];exact fj rfl
 obtain⟨vY,r_⟩:∃p,p=vX.set (h.n+1) (some (.cells [.fn 97 [] (oy h.n)] 133 .own 0 0)):=⟨_,rfl⟩
 have FI:aM.storeCells vX (h.n+1) 0 [.fn 97 [] (oy h.n)]=some vY:=by
  rw[r_];exact gJ (cs:=[.fL]) ((bW _ (by omega) (by omega)).trans a7) rfl rfl
 have dr:vY.n=h.n+4:=by rw[r_];exact cI
 have gq:Ext h.n h vY:=⟨by omega,λd ao=>by
  rw[r_,J.cR,if_neg (by omega),bW d (by omega) (by omega),vW,J.gk,if_neg (by omega),nG,J.gk,if_neg (by omega),oo,J.gk,if_neg (by omega)]⟩
 have box:fH h.n h vY []:=by
  refine⟨⟨.bb,.a0,?_,.inl rfl,.inl ⟨rfl,rfl⟩,by omega,by omega,λ_=>rfl⟩,?_,?_,?_,gq⟩
  · rw[r_,J.cR,if_neg (by omega),bW _ (by omega) (by omega)];exact ba
  · rw[r_];exact gI rfl
  · rw[r_,J.cR,if_neg (by omega),yR,J.cR,if_neg (by omega),yQ,J.gk,if_neg (by omega),BA];exact gI rfl
  · rw[r_,J.cR,if_neg (by omega),yR];exact gI rfl
 obtain⟨y,aG,bt,bE⟩:=L4 (sz u) u (Nat.le_refl _) tR gW (m+1) h.n h (.ptr R 0) (by omega) (dE.le cM _ _ aB) vY [] box (by simp;omega)
 rw[List.nil_append] at bt
 obtain⟨z,a9,cX⟩:=LZ m h.n (h.n+4) y (wr u) bt.By (by omega)
 refine⟨k_,st1,vX,?_,vY,?_,oy h.n,?_,y,aG,wr u,z,a9,cN.mk ⟨?_,λd ao=>?_⟩⟩
 · rw[bV,<-yQ];exact ko
 · rw[bV];exact FI
 · rw[r_];exact aU (gI rfl) rfl
 · have:=bE.x.n;have:=cX.n;omega
 · rw[cX.get d (by omega),bE.x.get d (by omega) (by omega),gq.get d (by omega)]
theorem XF{ot:Option aF}{B:Nat}{h:J}{v:I}(m:Nat)(gW:dx ot<=90000)(aK:∀t,ot=some t->k0 t<=90000)(hm:4*dx ot+20<=m)(cM:B<=h.n)(aB:ey B h ot v):
  cN B h (.int .i64 (Int.ofNat (dg ot))) (Y (m+1) (.fn 25) [v] h):=by
 cases ot with
 |none=>
  obtain rfl:v=.bb:=aB
  exact W3 m h (cN.mk (Ext.refl _ _))
 |some t=>
  have bw:dx (some t)=sz t:=l0 t
  obtain⟨R,rfl⟩:∃R,v=.ptr R 0:=by
   cases t with
   |mk bE b0 ec gP hg=>obtain⟨R,_,_,_,_,_,_,_,rfl,_⟩:=aB;exact⟨R,rfl⟩
  obtain⟨m,rfl⟩:∃j,m=j+1:=⟨m-1,by omega⟩
  obtain⟨aj,aG,bA⟩:=Ue (m-1) gW cM aB (by omega)
  replace bA:=bA.le cM
  rw[show m-1+2=m+1 by omega] at aG
  rw[bw] at aG gW hm
  refine W2 (m+1) R h ⟨_,aj,aG,λpv=>?_,λpv=>?_⟩
  · exact cN.of (by rw[dg,if_pos (by omega)]) bA
  · obtain⟨ax,a9,cX⟩:=LO XE (sz t) t (Nat.le_refl _) (by omega) (aK t rfl) (m+1) B aj (.ptr R 0) (by omega) (Nat.le_trans cM bA.n) (dE.ck (gK.ext bA (Nat.le_refl _)) _ _ aB)
    have nJ:=bA.trans (Nat.le_refl _) cX
    refine⟨_,ax,a9,λae=>?_,λae=>?_⟩
    · have:dY t=true:=by simpa using ae
      exact cN.of (by rw[dg,if_neg (by omega),if_pos this]) nJ
    · have:dY t=false:=by simpa using ae
      exact cN.of (by rw[dg,if_neg (by omega),if_neg (by rw[this];simp)]) nJ
end Go.Proofs.cF
