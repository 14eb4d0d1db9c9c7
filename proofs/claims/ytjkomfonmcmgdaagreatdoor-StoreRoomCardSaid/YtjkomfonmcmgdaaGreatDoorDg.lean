/-
  PROVED HERE: contracts of functions (Dg). No condition beside each statement's own.
-/
import Derived.Test.YtjkomfonmcmgdaaGreatDoorDf
import Derived.Test.YtjkomfonmcmgdaaGreatDoorTx
set_option linter.unusedVariables false
set_option linter.unusedSimpArgs false
namespace Go.Proofs.cG
open Go aP Go.Proofs c8
set_option maxRecDepth 100000
set_option maxHeartbeats 1000000
theorem XW(m:Nat)(r:Nat)(h:J){R:av->Prop}(H:∃aD:Nat,au h r (0+0)=some (.int .i64 (.ofNat aD))/\∃s1:List UInt8,au h r (0+1)=some (.str s1)/\(dK s1 []=true->∃v1:I,au h r (0+2)=some v1/\∃bj:Nat,cc Tryz.prog h 63 v1=some (.int .i64 (.ofNat bj))/\(bj=0->∃v2:I,au h r (0+3)=some v2/\∃bD:Nat,cc Tryz.prog h 50 v2=some (.int .i64 (.ofNat bD))/\(bD=0->∃bT:Nat,au h r (0+4)=some (.ptr bT 0)/\R (.ret (.bool (e0 true (a_ (.ofNat aD) (.ofNat 8)))) h))/\(¬bD=0->(7<=aD->∃b5:Nat,au h r (0+4)=some (.ptr b5 0)/\R (.ret (.bool (e0 true (a_ (.ofNat aD) (.ofNat 8)))) h))/\(¬7<=aD->R (.ret (.bool false) h))))/\(¬bj=0->(aD=7->∃dc:I,au h r (0+3)=some dc/\∃cx:Nat,cc Tryz.prog h 50 dc=some (.int .i64 (.ofNat cx))/\(cx=0->∃da:Nat,au h r (0+4)=some (.ptr da 0)/\R (.ret (.bool (e0 true (a_ (.ofNat aD) (.ofNat 8)))) h))/\(¬cx=0->(7<=aD->∃et:Nat,au h r (0+4)=some (.ptr et 0)/\R (.ret (.bool (e0 true (a_ (.ofNat aD) (.ofNat 8)))) h))/\(¬7<=aD->R (.ret (.bool false) h))))/\(¬aD=7->R (.ret (.bool false) h))))/\(dK s1 []=false->(aD=6->∃v4:I,au h r (0+2)=some v4/\∃eO:Nat,cc Tryz.prog h 63 v4=some (.int .i64 (.ofNat eO))/\(eO=0->∃fM:I,au h r (0+3)=some fM/\∃gf:Nat,cc Tryz.prog h 50 fM=some (.int .i64 (.ofNat gf))/\(gf=0->∃iP:Nat,au h r (0+4)=some (.ptr iP 0)/\R (.ret (.bool (e0 true (a_ (.ofNat aD) (.ofNat 8)))) h))/\(¬gf=0->(7<=aD->∃jz:Nat,au h r (0+4)=some (.ptr jz 0)/\R (.ret (.bool (e0 true (a_ (.ofNat aD) (.ofNat 8)))) h))/\(¬7<=aD->R (.ret (.bool false) h))))/\(¬eO=0->(aD=7->∃v6:I,au h r (0+3)=some v6/\∃kj:Nat,cc Tryz.prog h 50 v6=some (.int .i64 (.ofNat kj))/\(kj=0->∃pW:Nat,au h r (0+4)=some (.ptr pW 0)/\R (.ret (.bool (e0 true (a_ (.ofNat aD) (.ofNat 8)))) h))/\(¬kj=0->(7<=aD->∃nW:Nat,au h r (0+4)=some (.ptr nW 0)/\R (.ret (.bool (e0 true (a_ (.ofNat aD) (.ofNat 8)))) h))/\(¬7<=aD->R (.ret (.bool false) h))))/\(¬aD=7->R (.ret (.bool false) h))))/\(¬aD=6->R (.ret (.bool false) h)))):
  R (Y (m+1) (.fn 61) [.ptr r 0] h):=
 dI (intr:=b0) [] [(0,.v (.ptr r 0))] Tryz.func61 (by kernel_rfl) (by kernel_rfl) (by kernel_rfl) rfl (Eq.mp (by kernel_rfl) H)
theorem XX(m:Nat)(r:Nat)(h:J){R:av->Prop}(H:∃aD:Nat,au h r (0+0)=some (.int .i64 (.ofNat aD))/\∃s1:List UInt8,au h r (0+1)=some (.str s1)/\(dK s1 []=true->∃v1:I,au h r (0+2)=some v1/\∃bj:Nat,cc Tryz.prog h 63 v1=some (.int .i64 (.ofNat bj))/\(bj=0->∃v2:I,au h r (0+3)=some v2/\∃bD:Nat,cc Tryz.prog h 50 v2=some (.int .i64 (.ofNat bD))/\(bD=0->au h r (0+4)=some .bb/\R (.ret (.bool (e0 false (a_ (.ofNat aD) (.ofNat 8)))) h))/\(¬bD=0->(7<=aD->au h r (0+4)=some .bb/\R (.ret (.bool (e0 false (a_ (.ofNat aD) (.ofNat 8)))) h))/\(¬7<=aD->R (.ret (.bool false) h))))/\(¬bj=0->(aD=7->∃dc:I,au h r (0+3)=some dc/\∃bT:Nat,cc Tryz.prog h 50 dc=some (.int .i64 (.ofNat bT))/\(bT=0->au h r (0+4)=some .bb/\R (.ret (.bool (e0 false (a_ (.ofNat aD) (.ofNat 8)))) h))/\(¬bT=0->(7<=aD->au h r (0+4)=some .bb/\R (.ret (.bool (e0 false (a_ (.ofNat aD) (.ofNat 8)))) h))/\(¬7<=aD->R (.ret (.bool false) h))))/\(¬aD=7->R (.ret (.bool false) h))))/\(dK s1 []=false->(aD=6->∃v4:I,au h r (0+2)=some v4/\∃b5:Nat,cc Tryz.prog h 63 v4=some (.int .i64 (.ofNat b5))/\(b5=0->∃fM:I,au h r (0+3)=some fM/\∃cx:Nat,cc Tryz.prog h 50 fM=some (.int .i64 (.ofNat cx))/\(cx=0->au h r (0+4)=some .bb/\R (.ret (.bool (e0 false (a_ (.ofNat aD) (.ofNat 8)))) h))/\(¬cx=0->(7<=aD->au h r (0+4)=some .bb/\R (.ret (.bool (e0 false (a_ (.ofNat aD) (.ofNat 8)))) h))/\(¬7<=aD->R (.ret (.bool false) h))))/\(¬b5=0->(aD=7->∃v6:I,au h r (0+3)=some v6/\∃da:Nat,cc Tryz.prog h 50 v6=some (.int .i64 (.ofNat da))/\(da=0->au h r (0+4)=some .bb/\R (.ret (.bool (e0 false (a_ (.ofNat aD) (.ofNat 8)))) h))/\(¬da=0->(7<=aD->au h r (0+4)=some .bb/\R (.ret (.bool (e0 false (a_ (.ofNat aD) (.ofNat 8)))) h))/\(¬7<=aD->R (.ret (.bool false) h))))/\(¬aD=7->R (.ret (.bool false) h))))/\(¬aD=6->R (.ret (.bool false) h)))):
  R (Y (m+1) (.fn 61) [.ptr r 0] h):=
 dI (intr:=b0) [(45,.bA (.is .bb))] [(0,.v (.ptr r 0))] Tryz.func61 (by kernel_rfl) (by kernel_rfl) (by kernel_rfl) rfl (Eq.mp (by kernel_rfl) H)
theorem XY(m:Nat)(r:Nat)(h:J){R:av->Prop}(H:∃aD:Nat,au h r (0+0)=some (.int .i64 (.ofNat aD))/\(aD<1->R (.ret (.bool false) h))/\(¬aD<1->∃bj:Nat,au h r (0+0)=some (.int .i64 (.ofNat bj))/\(9<bj->R (.ret (.bool false) h))/\(¬9<bj->∃bo:Bool,∃ai:J,(Y m) (.fn 61) [.ptr r 0] h=.ret (.bool bo) ai/\(bo=true->∃v1:I,au ai r (0+3)=some v1/\∃bG:Bool,∃ax:J,(Y m) (.fn 63) [v1,.fn 62 [] []] ai=.ret (.bool bG) ax/\(bG=true->R (.ret (.bool false) ax))/\(bG=false->∃bD:Nat,au ax r (0+0)=some (.int .i64 (.ofNat bD))/\(bD=6->∃s1:List UInt8,au ax r (0+1)=some (.str s1)/\∃ed:Bool,∃aB:J,(Y m) (.fn 64) [.str s1,.str [45,47,46],.int .i64 (.ofNat 161)] ax=.ret (.bool ed) aB/\R (.ret (.bool ed) aB))/\(¬bD=6->(bD=7->∃v2:I,au (ax.room 27) r (0+2)=some v2/\∃bT:Nat,cc Tryz.prog (ax.room 27) 63 v2=some (.int .i64 (.ofNat bT))/\∃dc:I,au (ax.room 27) r (0+3)=some dc/\∃b5:Nat,cc Tryz.prog (ax.room 27) 50 dc=some (.int .i64 (.ofNat b5))/\(bT=b5->∃v4:I,au (ax.room 27) r (0+2)=some v4/\∃ja:Bool,∃bE:J,(Y m) (.fn 65) [v4,.fn 66 [] []] (ax.room 27)=.ret (.bool ja) bE/\(ja=true->I.sound v2=true/\I.sound dc=true/\I.sound v4=true/\R (.ret (.bool false) bE))/\(ja=false->∃fM:I,au bE r (0+2)=some fM/\∃pM:Bool,∃bS:J,(Y m) (.fn 68) [fM,.fn 69 [] []] bE=.ret (.bool pM) bS/\I.sound v2=true/\I.sound dc=true/\I.sound v4=true/\I.sound fM=true/\R (.ret (.bool pM) bS)))/\(¬bT=b5->I.sound v2=true/\I.sound dc=true/\R (.ret (.bool false) (ax.room 27))))/\(¬bD=7->(bD=8->∃v6:I,au ax r (0+4)=some v6/\∃nP:Bool,∃dC:J,(Y m) (.fn 43) [v6] ax=.ret (.bool nP) dC/\R (.ret (.bool nP) dC))/\(¬bD=8->(bD=9->∃ic:I,au ax r (0+3)=some ic/\∃cx:Nat,cc Tryz.prog ax 50 ic=some (.int .i64 (.ofNat cx))/\(2<=cx->∃ht:I,au ax r (0+3)=some ht/\∃y8:Bool,∃eY:J,(Y m) (.fn 63) [ht,.fn 70 [] []] ax=.ret (.bool y8) eY/\(y8=true->R (.ret (.bool false) eY))/\(y8=false->∃su:I,au eY r (0+3)=some su/\∃wq:Bool,∃fZ:J,(Y m) (.fn 71) [su,.fn 72 [] []] eY=.ret (.bool wq) fZ/\R (.ret (.bool wq) fZ)))/\(¬2<=cx->R (.ret (.bool false) ax)))/\(¬bD=9->R (.ret (.bool true) ax)))))))/\(bo=false->R (.ret (.bool false) ai))))):
  R (Y (m+1) (.fn 43) [.ptr r 0] h):=
 dI (intr:=b0) [(76,.bA .o)] [(0,.v (.ptr r 0))] Tryz.func43 (by kernel_rfl) (by kernel_rfl) (by kernel_rfl) rfl (Eq.mp (by kernel_rfl) H)
def lH:a5:=[48,49,50,51,52,53,54,55,56,57]
theorem XZ:((List.range 256).all λn=>fh (Int.ofNat 0) (n_ n lH 0)==jb n)=true:=by decide
theorem X0(c:UInt8):fh (Int.ofNat 0) (n_ c.toNat lH 0)=jb c.toNat:=by
 have:=List.all_eq_true.1 XZ c.toNat (by rw[List.mem_range];exact UInt8.toNat_lt c)
 simpa using this
theorem X1(n:Nat)(s:a5)(c:Nat)(h:J)(ag:c<256):Y (n+1) (.fn 127) [.str s,.int .u8 (Int.ofNat c)] h=.ret (.int .i64 (n_ c s 0)) h:=by
 have ae:Nat.blt c 256=true:=by simpa[Nat.blt_eq] using ag
 have af:b0 127 [.str s,.int .u8 (Int.ofNat c)] h=none:=by kernel_rfl
 have qN:Tryz.f127.body=none:=by rfl
 have aa:rh Tryz.prog Tryz.f127 Tryz.f127.name [.str s,.int .u8 (Int.ofNat c)] h=some (.int .i64 (n_ c s 0),h):=by
  have aN:Tryz.f127.name= "internal/bytealg.IndexByteString" :=by rfl
  simp only[rh,aN,if_true,ae]
 simp only[Y,fa,af,qi,Tryz.func127,qN,aa]
theorem X2(m:Nat)(c:UInt8)(h:J):Y (m+5) (.fn 85) [.str lH,.str [c]] h=.ret (.bool (jb c.toNat)) h:=by
 rw[<-X0]
 have aH:Y (m+2) (.fn 121) [.str lH,.int .u8 (Int.ofNat c.toNat)] h=.ret (.int .i64 (n_ c.toNat lH 0)) h:=
  W5 (m+1) lH c.toNat h (R:=λx=>x=_) ⟨_,h,X1 m lH c.toNat h (UInt8.toNat_lt _),rfl⟩
 have a9:Y (m+3) (.fn 117) [.str lH,.str [c]] h=.ret (.int .i64 (n_ c.toNat lH 0)) h:=
  W4 (m+2) lH c h (R:=λx=>x=_) ⟨by simp[oe,lH],by rfl,_,h,aH,rfl⟩
 have du:Y (m+4) (.fn 111) [.str lH,.str [c]] h=.ret (.int .i64 (n_ c.toNat lH 0)) h:=
  W3 (m+3) lH [c] h (R:=λx=>x=_) ⟨_,h,a9,rfl⟩
 exact W2 (m+4) lH [c] h (R:=λx=>x=_) ⟨_,h,du,rfl⟩
theorem X3(n:Nat):(hq n&&jb n)=false:=by
 unfold hq jb
 simp only[Bool.and_eq_false_iff,Bool.or_eq_false_iff,decide_eq_false_iff_not]
 omega
theorem X4(m B:Nat)(s:a5)(h:J)(cM:B<=h.n):cP B h (.bool (hX s)) (Y (m+6) (.fn 67) [.str s] h):=by
 obtain⟨g,aH,bC⟩:=L8 (m+1) B pS s [] 24 h cM (by omega) (.inl ⟨rfl,rfl⟩)
 refine WV (m+5) s h ⟨_,g,aH,λae=>?_,λae=>?_⟩
 · simp only[Bool.and_eq_true,decide_eq_true_eq] at ae
   obtain⟨⟨ab,ad⟩,ar⟩:=ae
   cases s with
   |nil=>simp at ab
   |cons c s=>
    refine⟨[c],Kg FO (by simp),_,g,X2 m c g,cP.of (ia ?_) bC⟩
    have ag:pS c.toNat=true:=by
     have:=List.all_eq_true.1 ar c (by simp)
     simpa using this
    have ao:=X3 c.toNat
    unfold hX
    have bw:(c::s).all (λc=>hq c.toNat||jb c.toNat)=true:=ar
    rw[bw]
    have hw:(hq c.toNat||jb c.toNat)=true:=ag
    simp only[Fo,ab,ad,decide_true,Bool.true_and,Bool.and_true]
    revert ao hw
    cases hq c.toNat<;>cases jb c.toNat<;>simp
 · refine cP.of (ia ?_) bC
   unfold hX
   have bw:s.all (λc=>hq c.toNat||jb c.toNat)=s.all (λc=>pS c.toNat):=rfl
   rw[bw]
   revert ae
   cases decide (1<=s.length)<;>cases decide (s.length<=24)<;>cases s.all (λc=>pS c.toNat)<;>simp
def p0(k:Nat)(s:a5)(N M:Nat)(o:Bool):Bool:=((dK s []||decide (k=6))&&((decide (N=0)||decide (k=7))&&(decide (M=0)||decide (7<=k))))&&(o==decide (k=8))
theorem X5(m:Nat){R:Nat}{h:J}{k:Nat}{s:a5}{bL bg c2:I}{bh:gM}{aO up N M:Nat}{o:Bool}(al:h.get R=some (.cells [.int .i64 (Int.ofNat k),.str s,bL,bg,c2] 80 bh aO up))(aN:cc Tryz.prog h 63 bL=some (.int .i64 (Int.ofNat N)))(aC:cc Tryz.prog h 50 bg=some (.int .i64 (Int.ofNat M)))(a4:(c2=.bb/\o=false)\/(∃q,c2=.ptr q 0)/\o=true):
  Y (m+1) (.fn 61) [.ptr R 0] h=.ret (.bool (p0 k s N M o)) h:=by
 have g4:=ur k 8
 have fin:∀(b hS:Bool),b=hS->(av.ret (.bool b) h=.ret (.bool hS) h):=λb hS e=>by rw[e]
 rcases a4 with⟨rfl,rfl⟩|⟨⟨q,rfl⟩,rfl⟩
 · refine XX m R h (R:=λx=>x=.ret (.bool (p0 k s N M false)) h) ⟨k,aV al rfl,s,aV al rfl,λab=>⟨bL,aV al rfl,N,aN,λad=>⟨bg,aV al rfl,M,aC,λar=>⟨aV al rfl,fin _ _ ?_⟩,λar=>⟨λaG=>⟨aV al rfl,fin _ _ ?_⟩,λaG=>fin _ _ ?_⟩⟩,λad=>⟨λar=>⟨bg,aV al rfl,M,aC,λaG=>⟨aV al rfl,fin _ _ ?_⟩,λaG=>⟨λbJ=>⟨aV al rfl,fin _ _ ?_⟩,λbJ=>fin _ _ ?_⟩⟩,λar=>fin _ _ ?_⟩⟩,λab=>⟨λh0=>⟨bL,aV al rfl,N,aN,λad=>⟨bg,aV al rfl,M,aC,λar=>⟨aV al rfl,fin _ _ ?_⟩,λar=>⟨λaG=>⟨aV al rfl,fin _ _ ?_⟩,λaG=>fin _ _ ?_⟩⟩,λad=>⟨λar=>⟨bg,aV al rfl,M,aC,λaG=>⟨aV al rfl,fin _ _ ?_⟩,λaG=>⟨λbJ=>⟨aV al rfl,fin _ _ ?_⟩,λbJ=>fin _ _ ?_⟩⟩,λar=>fin _ _ ?_⟩⟩,λh0=>fin _ _ ?_⟩⟩<;>
    (unfold p0;(try simp only[e0,g4]);simp_all<;>omega)
 · refine XW m R h (R:=λx=>x=.ret (.bool (p0 k s N M true)) h) ⟨k,aV al rfl,s,aV al rfl,λab=>⟨bL,aV al rfl,N,aN,λad=>⟨bg,aV al rfl,M,aC,λar=>⟨q,aV al rfl,fin _ _ ?_⟩,λar=>⟨λaG=>⟨q,aV al rfl,fin _ _ ?_⟩,λaG=>fin _ _ ?_⟩⟩,λad=>⟨λar=>⟨bg,aV al rfl,M,aC,λaG=>⟨q,aV al rfl,fin _ _ ?_⟩,λaG=>⟨λbJ=>⟨q,aV al rfl,fin _ _ ?_⟩,λbJ=>fin _ _ ?_⟩⟩,λar=>fin _ _ ?_⟩⟩,λab=>⟨λh0=>⟨bL,aV al rfl,N,aN,λad=>⟨bg,aV al rfl,M,aC,λar=>⟨q,aV al rfl,fin _ _ ?_⟩,λar=>⟨λaG=>⟨q,aV al rfl,fin _ _ ?_⟩,λaG=>fin _ _ ?_⟩⟩,λad=>⟨λar=>⟨bg,aV al rfl,M,aC,λaG=>⟨q,aV al rfl,fin _ _ ?_⟩,λaG=>⟨λbJ=>⟨q,aV al rfl,fin _ _ ?_⟩,λbJ=>fin _ _ ?_⟩⟩,λar=>fin _ _ ?_⟩⟩,λh0=>fin _ _ ?_⟩⟩<;>
    (unfold p0;(try simp only[e0,g4]);simp_all<;>omega)
end Go.Proofs.cG
namespace Go.Proofs.cG
open Go aP Go.Proofs c8
set_option maxRecDepth 100000
set_option maxHeartbeats 1000000
def wn(l:List a5)(i:Nat):a5:=(l[i]?).getD []
def q3(p:Option a5):List a5->Bool
 |[]=>true
 |x::l=>mg p x&&q3 (some x) l
theorem FV:∀(p:Option a5) (l:List a5),jM p l=(l.all hX&&q3 p l)
 |p,[]=>rfl
 |p,x::l=>by
  rw[jM,q3,FV (some x) l,List.all_cons]
  cases hX x<;>cases mg p x<;>cases l.all hX<;>rfl
theorem FW:∀(p:Option a5) (ey:List Nat) (l:List a5),ey.length=l.length->kM p ey l=(ey.all (λk=>decide (k≠9)&&decide (k≠1))&&q3 p l)
 |p,[],[],_=>rfl
 |p,[],_::_,h=>by simp at h
 |p,_::_,[],h=>by simp at h
 |p,k::ey,x::l,h=>by
  rw[LS,q3,FW (some x) ey l (by simpa using h),List.all_cons]
  cases (decide (k≠9)&&decide (k≠1))<;>cases mg p x<;>cases ey.all (λk=>decide (k≠9)&&decide (k≠1))<;>rfl
theorem Ml:∀(p:Option a5) (l:List a5),q3 p l=true<->(∀x,l[0]? =some x->mg p x=true)/\∀i,i+1<l.length->dF (wn l i) (wn l (i+1))=true
 |p,[]=>by simp[q3]
 |p,x::l=>by
  rw[q3,Bool.and_eq_true,Ml (some x) l]
  constructor
  · rintro⟨ab,ad,ar⟩
    refine⟨λy aS=>by simp at aS;subst aS;exact ab,λi af=>?_⟩
    cases i with
    |zero=>
     cases l with
     |nil=>simp at af
     |cons y l=>simpa[wn,mg] using ad y (by simp)
    |succ i=>simpa[wn] using ar i (by simpa using af)
  · rintro⟨ab,ad⟩
    refine⟨ab x (by simp),λy aS=>?_,λi af=>?_⟩
    · cases l with
      |nil=>simp at aS
      |cons z l=>
       simp at aS
       subst aS
       simpa[wn,mg] using ad 0 (by simp)
    · simpa[wn] using ad (i+1) (by simpa using af)
theorem Mm(l:List a5):q3 none l=pY (wn l) l.length:=by
 rw[Bool.eq_iff_iff,Ml]
 unfold pY
 rw[Bool.not_eq_true',List.any_eq_false]
 constructor
 · rintro⟨_,h⟩ i af
   rw[List.mem_range] at af
   cases i with
   |zero=>simp
   |succ i=>simp[h i af]
 · intro h
   refine⟨λ_ _=>rfl,λi af=>?_⟩
   have:=h (i+1) (by rw[List.mem_range];exact af)
   simpa using this
def sv(l:List Bool)(i:Nat):Bool:=(l[i]?).getD false
theorem FX(l:List Bool):(List.range l.length).any (sv l)=l.any id:=by
 rw[Bool.eq_iff_iff,List.any_eq_true,List.any_eq_true]
 constructor
 · rintro⟨i,af,h⟩
   rw[List.mem_range] at af
   refine⟨l[i],List.getElem_mem af,?_⟩
   simpa[sv,af] using h
 · rintro⟨b,ae,h⟩
   obtain⟨i,af,rfl⟩:=List.getElem_of_mem ae
   exact⟨i,by simpa using af,by simpa[sv,af] using h⟩
theorem FY{α:Type}(f:α->Bool)(l:List α){i:Nat}(af:i<l.length):sv (l.map f) i=f l[i]:=by simp[sv,af]
theorem Mn:∀xs:List aE,(xs.map (λu=>!ef u)).any id=!hr xs
 |[]=>rfl
 |x::xs=>by
  rw[hr,List.map_cons,List.any_cons,Mn xs]
  cases ef x<;>rfl
theorem FZ{α:Type}(f:α->Bool):∀l:List α,(l.map (λx=>!f x)).any id=!l.all f
 |[]=>rfl
 |x::l=>by
  rw[List.map_cons,List.any_cons,List.all_cons,FZ f l]
  cases f x<;>rfl
theorem Mo(k:Nat)(nm:a5)(ns:List a5)(xs:List aE)(rt:Option aE):ef (.mk k nm ns xs rt)=((decide (1<=k)&&decide (k<=9))&&(p0 k nm ns.length xs.length rt.isSome&&(hr xs&&eT k nm ns (xs.map aE.k) (cv xs) xs.length (ix rt)))):=by
 rw[m3]
 congr 1
 by_cases e:k=6/\nm=[]
 · obtain⟨rfl,rfl⟩:=e
   have:eT 6 [] ns (xs.map aE.k) (cv xs) xs.length (ix rt)=false:=by simp[eT,lD]
   rw[this];simp
 · congr 1
   unfold hY p0
   rw[wm]
   have cF:¬k=6\/¬nm=[]:=by
    by_cases h:k=6
    · right;intro ad;exact e ⟨h,ad⟩
    · exact .inl h
   have qT:(0<ns.length)=¬ns.length=0:=by simp[Nat.pos_iff_ne_zero]
   have fe:(0<xs.length)=¬xs.length=0:=by simp[Nat.pos_iff_ne_zero]
   have x1:(7<=k)=¬k<7:=by simp
   simp only[qT,fe,x1,ne_eq,decide_not]
   rcases cF with cF|cF<;>simp only[cF,decide_false]<;>cases decide (k=6)<;>cases decide (nm=[])<;>cases decide (ns.length=0)<;>cases decide (k=7)<;>cases decide (xs.length=0)<;>cases decide (k<7)<;>cases rt.isSome<;>cases decide (k=8)<;>rfl
abbrev Mp:Prop:=∀(u:aE),ef u=true->sz u<=100->∀(m B:Nat) (h:J) (v:I),4*sz u+10<=m->B<=h.n->dJ B h u v->cP B h (.str (wr u)) (Y m (.fn 72) [v] h)
theorem Mq(js:Mp):∀(K:Nat) (t:aE),sz t<=K->sz t<=100->lf t<=90000->∀(m B:Nat) (h:J) (v:I),4*sz t+12<=m->B<=h.n->dJ B h t v->cP B h (.bool (ef t)) (Y m (.fn 43) [v] h)
 |0,t,dk,_,_,_,_,_,_,_,_,_=>by
  have:=sh t
  omega
 |K+1,.mk k nm ns xs rt,dk,g3,iH,m,B,h,v,hm,cM,aC=>by
  obtain⟨R,bL,bg,c2,vs,bh,aO,up,rfl,ad,ar,aG,bJ,cu,dg⟩:=aC
  rw[mf] at dk g3 hm
  rw[lf] at iH
  obtain⟨m,rfl⟩:∃j,m=j+5:=⟨m-5,by omega⟩
  have fw:=dS.len cu
  have jm:=nU xs
  have jl:=vZ xs
  have la:(ns.map I.str).length=ns.length:=List.length_map _
  have a7:∀(u:aE),sz u<=K->sz u<=100->lf u<=90000->∀(m B:Nat) (h:J) (v:I),4*sz u+12<=m->B<=h.n->dJ B h u v->cP B h (.bool (ef u)) (Y m (.fn 43) [v] h):=Mq js K
  rw[Mo]
  have a4:(c2=.bb/\rt.isSome=false)\/(∃q,c2=.ptr q 0)/\rt.isSome=true:=by
   cases rt with
   |none=>exact .inl ⟨dg,rfl⟩
   |some u=>
    cases u with
    |mk cr cZ dp eS eG=>obtain⟨W,_,_,_,_,_,_,_,rfl,_⟩:=dg;exact .inr ⟨⟨W,rfl⟩,rfl⟩
  have Mr:∀g,Ext B h g->cc Tryz.prog g 63 bL=some (.int .i64 (Int.ofNat ns.length)):=λg x=>by
   rw[<-la];exact(aG.b8 (gU.ext x (Nat.le_refl _))).len (t:=63) (e:=9) (by kernel_rfl)
  have kY:∀g,Ext B h g->cc Tryz.prog g 50 bg=some (.int .i64 (Int.ofNat xs.length)):=λg x=>by
   rw[<-fw];exact(bJ.b8 (gU.ext x (Nat.le_refl _))).len (t:=50) (e:=35) (by kernel_rfl)
  have aK:=X5 (m+3) (N:=ns.length) (M:=xs.length) (o:=rt.isSome) ar (Mr h (Ext.refl _ _)) (kY h (Ext.refl _ _)) a4
  have fL:∀g,Ext B h g->∀i (i1:i<vs.length) (i2:i<xs.length),dJ B g xs[i] vs[i]:=λg x i i1 i2=>dS.get (dS.b8 (gU.ext x (Nat.le_refl _)) _ _ cu) i i1 i2
  refine XY (m+4) R h ⟨k,aV ar rfl,λbH=>cP.of (ia (by simp;omega)) (Ext.refl _ _),λbH=>⟨k,aV ar rfl,λiO=>cP.of (ia (by simp;omega)) (Ext.refl _ _),λiO=>⟨_,h,aK,λae=>?_,λae=>?_⟩⟩⟩
  rotate_left
  · refine cP.of (ia ?_) (Ext.refl _ _)
    have:p0 k nm ns.length xs.length rt.isSome=false:=by simpa using ae
    rw[this];simp
  have hC:p0 k nm ns.length xs.length rt.isSome=true:=by simpa using ae
  have FL:(decide (1<=k)&&decide (k<=9))=true:=by simp;omega
  rw[FL,hC,Bool.true_and,Bool.true_and]
  obtain⟨g,aH,bC⟩:=Mb (m+2) (B:=B) (h:=h) (v:=bg) (vs:=vs) 62 [] (sv (xs.map (λu=>!ef u))) bJ (by omega) (λi i1 x aa=>by
   have i2:i<xs.length:=by omega
   have a2:=oH (List.getElem_mem i2)
   have aN:=Fm (List.getElem_mem i2)
   obtain⟨g,c,y⟩:=a7 xs[i] (by omega) (by omega) (by omega) (m+1) B x vs[i] (by omega) (Nat.le_trans cM aa.n) (fL x aa i i1 i2)
   rw[FY _ _ i2]
   exact XE (m+1) vs[i] x ⟨_,g,c,cP.of rfl y⟩)
  rw[show vs.length=(xs.map (λu=>!ef u)).length by rw[List.length_map];exact fw,FX,Mn] at aH
  refine⟨bg,aV ar rfl,_,g,aH,λae=>?_,λae=>?_⟩
  · refine cP.of (ia ?_) bC
    have:hr xs=false:=by simpa using ae
    rw[this];rfl
  have iF:hr xs=true:=by simpa using ae
  rw[iF,Bool.true_and]
  have al:=(bC.get R ad).trans ar
  have sl:=Nat.le_trans cM bC.n
  have h8:∀i (i2:i<xs.length),ef xs[i]=true:=λi i2=>yS iF (List.getElem_mem i2)
  have fin:∀{v:I} {w:Bool} {x:av},w=eT k nm ns (xs.map aE.k) (cv xs) xs.length (ix rt)->cP B g (.bool w) x->cP B h (.bool (eT k nm ns (xs.map aE.k) (cv xs) xs.length (ix rt))) x:=by
   rintro v w x rfl ⟨an,rfl,y⟩
   exact cP.mk (bC.trans (Nat.le_refl _) y)
  refine⟨k,aV al rfl,λgI=>?_,λgI=>⟨λgx=>?_,λgx=>⟨λg4=>?_,λg4=>⟨λgJ=>?_,λgJ=>?_⟩⟩⟩⟩
  · subst gI
    obtain⟨aB,du,dU⟩:=L8 m B j3 nm [45,47,46] 161 g sl (by omega) (.inr ⟨rfl,rfl⟩)
    exact⟨nm,aV al rfl,_,aB,du,fin (v:=.bb) (by simp[eT,lD]) (cP.mk dU)⟩
  · subst gx
    have uu:eT 7 nm ns (xs.map aE.k) (cv xs) xs.length (ix rt)=(decide (ns.length=xs.length)&&jM none ns):=by simp[eT]
    have wu:Ext B g (g.room 27):=Ext.room B g 27
    have pn:=bC.trans (Nat.le_refl _) wu
    have iY:=(wu.get R ad).trans al
    have bT:=aG.b8 (gU.ext pn (Nat.le_refl _))
    refine⟨bL,aV iY rfl,_,Mr _ pn,bg,aV iY rfl,_,kY _ pn,λaN=>?_,λaN=>⟨aG.snd,bJ.snd,fin (v:=.bb) (by rw[uu];simp[aN]) (cP.mk wu)⟩⟩
    obtain⟨aB,du,dU⟩:=XL (m+2) (B:=B) (h:=g.room 27) (v:=bL) (vs:=ns.map .str) 66 [] (sv (ns.map (λs=>!hX s))) bT (by omega) (λi i1 x aa=>by
     have i2:i<ns.length:=by omega
     obtain⟨g,c,y⟩:=X4 (m-5) B ns[i] x (Nat.le_trans (Nat.le_trans sl wu.n) aa.n)
     rw[FY _ _ i2,List.getElem_map]
     rw[show m-5+6=m+1 by omega] at c
     exact XF (m+1) ns[i] x ⟨_,g,c,cP.of rfl y⟩)
    rw[show(ns.map I.str).length=(ns.map (λs=>!hX s)).length by simp,FX,FZ] at du
    refine⟨bL,aV iY rfl,_,aB,du,λae=>?_,λae=>?_⟩
    rotate_left
    · have hf:ns.all hX=true:=by simpa using ae
      have wv:=wu.trans (Nat.le_refl _) dU
      have y9:=pn.trans (Nat.le_refl _) dU
      have gA:=(wv.get R ad).trans al
      obtain⟨bE,gW,g_⟩:=XR (m+1) (B:=B) (h:=aB) (v:=bL) (vs:=ns.map .str) 69 [] (wn ns) (Nat.le_trans sl wv.n) (aG.b8 (gU.ext y9 (Nat.le_refl _))) (by omega) rfl (λi af=>by rw[List.getElem_map];rfl) (λi af=>⟨ns[i]'(by omega),by rw[List.getElem_map]⟩) (λi i1 x aa=>by
       have i2:i<ns.length:=by omega
       rw[List.getElem_map,show wn ns i=ns[i] by simp[wn,i2]]
       exact XG m ns[i] x (cP.mk (Ext.refl _ _)))
      rw[la,<-Mm] at gW
      exact⟨bL,aV gA rfl,_,bE,gW,aG.snd,bJ.snd,aG.snd,aG.snd,fin (v:=.bb) (by rw[uu,FV,hf];simp[aN]) (cP.mk (wv.trans (Nat.le_refl _) g_))⟩
    · have hf:ns.all hX=false:=by simpa using ae
      exact⟨aG.snd,bJ.snd,aG.snd,fin (v:=.bb) (by rw[uu,FV,hf];simp) (cP.mk (wu.trans (Nat.le_refl _) dU))⟩
  · subst g4
    cases rt with
    |none=>simp[p0] at hC
    |some u=>
     rw[ld] at dk g3 hm
     rw[qW] at iH
     obtain⟨aB,du,dU⟩:=a7 u (by omega) (by omega) (by omega) (m+4) B g c2 (by omega) sl (dJ.b8 (gU.ext bC (Nat.le_refl _)) _ _ dg)
     exact⟨c2,aV al rfl,_,aB,du,fin (v:=.bb) (by simp[eT,ix]) (cP.mk dU)⟩
  · subst gJ
    have wk:eT 9 nm ns (xs.map aE.k) (cv xs) xs.length (ix rt)=(kM none (xs.map aE.k) (cv xs)&&decide (2<=xs.length)):=by simp[eT]
    have Ms:(xs.map aE.k).length=(cv xs).length:=by rw[List.length_map,jl]
    refine⟨bg,aV al rfl,_,kY g bC,λvj=>?_,λvj=>fin (v:=.bb) (by rw[wk];simp[vj]) (cP.mk (Ext.refl _ _))⟩
    obtain⟨aB,du,dU⟩:=Mb (m+2) (B:=B) (h:=g) (v:=bg) (vs:=vs) 70 [] (sv ((xs.map aE.k).map (λk=>!(decide (k≠9)&&decide (k≠1))))) (bJ.b8 (gU.ext bC (Nat.le_refl _))) (by omega) (λi i1 x aa=>by
     have i2:i<xs.length:=by omega
     have i3:i<(xs.map aE.k).length:=by rw[List.length_map];exact i2
     obtain⟨M,g1,qY⟩:=(dS.get cu i i1 i2).kind
     rw[FY _ _ i3,List.getElem_map,g1]
     have aw:=qY x (bC.trans (Nat.le_refl _) aa)
     refine XH (m+1) M x ⟨_,aw,λe=>cP.of (ia (by simp[e])) (Ext.refl _ _),λe=>⟨_,aw,cP.of (ia (by rw[ur];simp[e])) (Ext.refl _ _)⟩⟩)
    rw[show vs.length=((xs.map aE.k).map (λk=>!(decide (k≠9)&&decide (k≠1)))).length by simp;exact fw,FX,FZ] at du
    refine⟨bg,aV al rfl,_,aB,du,λae=>?_,λae=>?_⟩
    rotate_left
    · have hf:(xs.map aE.k).all (λk=>decide (k≠9)&&decide (k≠1))=true:=by simpa using ae
      have y9:=bC.trans (Nat.le_refl _) dU
      have gA:=(dU.get R ad).trans al
      obtain⟨bE,gW,g_⟩:=XV (m+1) (B:=B) (h:=aB) (v:=bg) (vs:=vs) 72 [] (wn (cv xs)) (Nat.le_trans sl dU.n) (bJ.b8 (gU.ext y9 (Nat.le_refl _))) (by omega) rfl (λi af=>(dS.get cu i af (by omega)).snd) (λi af=>by
       obtain⟨M,g1,_⟩:=(dS.get cu i af (by omega)).kind
       exact⟨M,g1⟩) (λi i1 x aa=>by
       have i2:i<xs.length:=by omega
       have a2:=oH (List.getElem_mem i2)
       have j2:=y9.trans (Nat.le_refl _) aa
       rw[show wn (cv xs) i=wr xs[i] by simp[wn,jl,i2,v3 xs i i2]]
       exact js xs[i] (h8 i i2) (by omega) (m+1) x.n x vs[i] (by omega) (Nat.le_refl _) (dJ.le (Nat.le_trans cM j2.n) _ _ (fL x j2 i i1 i2)))
      rw[show vs.length=(cv xs).length by omega,<-Mm] at gW
      exact⟨bg,aV gA rfl,_,bE,gW,fin (v:=.bb) (by rw[wk,FW _ _ _ Ms,hf];simp[vj]) (cP.mk (dU.trans (Nat.le_refl _) g_))⟩
    · have hf:(xs.map aE.k).all (λk=>decide (k≠9)&&decide (k≠1))=false:=by simpa using ae
      exact fin (v:=.bb) (by rw[wk,FW _ _ _ Ms,hf];simp) (cP.mk dU)
  · exact fin (v:=.bb) (by simp[eT,gI,gx,g4,gJ]) (cP.mk (Ext.refl _ _))
end Go.Proofs.cG
namespace Go.Proofs.cG
open Go aP Go.Proofs c8
set_option maxRecDepth 100000
set_option maxHeartbeats 1000000
theorem X6(call:aI->List I->J->av)(b:Nat)(h cB:J)
  (H1:au h b (0+0)=some .bb)
  (aR:iR Tryz.prog 90 138 (I.ptr b 0) h=jg.val (I.ptr b 0) h)
  (br:call (.fn 101) [.ptr b 0] h=av.ret (.ptr b 0) h)
  (bp:iR Tryz.prog 138 90 (I.ptr b 0) h=jg.val (I.ptr b 0) h)
  (b1:aP.storeCells h b (0+0) [.ptr b 0]=some cB):
  aL Tryz.prog Tryz.f73 none call [] (ah.mk [(0,.ptr b 0)] [] .none h) (.nrm)
   (ah.mk [] [] .none cB):=
 bI [] (hs:=[.v .bb,.v (.bool true),.b true,.v (.ptr b 0),.c (.ptr b 0) h,.v (.ptr b 0),.l5 (.aQ []) cB]) (by kernel_rfl)<| .cons H1<| .cons (by kernel_rfl:eJ Tryz.prog h BinOp.eql 90 (Operand.tmp 5) (Operand.const (Value.pointer none)) I.bb I.bb=some (I.bool true))<| .cons (by kernel_rfl:true=true)<| .cons aR<| .cons br<| .cons bp<| .cons (⟨by kernel_rfl,b1,rfl⟩:some 1=some 1/\aP.storeCells h b (0+0) [I.ptr b 0]=some cB/\I.aQ []=I.aQ [])<| .nil
theorem X7(call:aI->List I->J->av)(b:Nat)(h:J)(dD:Bool)
  (H1:au h b (0+0)=some (.ptr b 0))
  (aR:eJ Tryz.prog h BinOp.neq 90 (Operand.tmp 17) (Operand.tmp 18) (I.ptr b 0) (I.ptr b 0)=some (I.bool dD))
  (br:dD=false):
  aL Tryz.prog Tryz.f73 none call [] (ah.mk [(0,.ptr b 0)] [] .none h) (.nrm)
   (ah.mk [] [] .none h):=
 bI [] (hs:=[.v (.ptr b 0),.v (.bool false),.b false,.v (.ptr b 0),.v (.bool dD),.b false]) (by kernel_rfl)<| .cons H1<| .cons (by kernel_rfl:eJ Tryz.prog h BinOp.eql 90 (Operand.tmp 5) (Operand.const (Value.pointer none)) (I.ptr b 0) I.bb=some (I.bool false))<| .cons (by kernel_rfl:false=false)<| .cons H1<| .cons aR<| .cons br<| .nil
theorem bws(call:aI->List I->J->av)(b c m:Nat)(s:List UInt8)(v:I)(h ad cB hJ:J)
  (H1:call (.fn 73) [.ptr b 0] h=av.ret (.aQ []) cB)
  (aR:au cB b (0+1)=some v)
  (br:dt Tryz.prog cB 27 (some 9) v (I.str s)=some (I.slice c 0 m (b3.a1 1),ad))
  (bp:aP.storeCells ad b (0+1) [.slice c 0 m (.a1 1)]=some hJ):
  aL Tryz.prog Tryz.f44 none call [] (ah.mk [(0,.ptr b 0),(1,.str s)] [] .none h) (.ret)
   (ah.mk [(4,.int .i64 (.ofNat (List.length s))),(5,.e1)] [] .none hJ):=
 bI [4,5] (hs:=[.c (.aQ []) cB,.v v,.l5 (.slice c 0 m (.a1 1)) ad,.l5 (.aQ []) hJ]) (by kernel_rfl)<| .cons H1<| .cons aR<| .cons br<| .cons (⟨by kernel_rfl,bp,rfl⟩:some 1=some 1/\aP.storeCells ad b (0+1) [I.slice c 0 m (b3.a1 1)]=some hJ/\I.aQ []=I.aQ [])<| .nil
theorem Mt(call:aI->List I->J->av)(b:Nat)(s:List UInt8)(v:I)(h ad cB hJ:J)
  (H1:call (.fn 73) [.ptr b 0] h=av.ret (.aQ []) cB)
  (aR:au cB b (0+1)=some v)
  (br:dt Tryz.prog cB 27 (some 9) v (I.str s)=some (I.a0,ad))
  (bp:aP.storeCells ad b (0+1) [.a0]=some hJ):
  aL Tryz.prog Tryz.f44 none call [] (ah.mk [(0,.ptr b 0),(1,.str s)] [] .none h) (.ret)
   (ah.mk [(4,.int .i64 (.ofNat (List.length s))),(5,.e1)] [] .none hJ):=
 bI [4,5] (hs:=[.c (.aQ []) cB,.v v,.l5 .a0 ad,.l5 (.aQ []) hJ]) (by kernel_rfl)<| .cons H1<| .cons aR<| .cons br<| .cons (⟨by kernel_rfl,bp,rfl⟩:some 1=some 1/\aP.storeCells ad b (0+1) [I.a0]=some hJ/\I.aQ []=I.aQ [])<| .nil
theorem Mu(call:aI->List I->J->av)(b c m:Nat)(h:J)(ea:List UInt8)(cB:J)
  (H1:au (J.room h 12) b (0+1)=some (.slice c 0 m (.a1 1)))
  (aR:h6 Tryz.prog Builtin.unsafeSliceData (Array.mk [27]) [.slice c 0 m (.a1 1)] (J.room h 12)=jg.val (.ptr c 0) (J.room h 12))
  (br:o6 Tryz.prog (J.room h 12) 118 (I.ptr c 0) (I.int IntKind.i64 (Int.ofNat m))=some (I.str ea,cB)):
  aL Tryz.prog Tryz.f47 none call [] (ah.mk [(0,.ptr b 0)] [] .none h) (.ret)
   (ah.mk [(2,.str ea)] [] .none cB):=
 bI [2] (hs:=[.v (.slice c 0 m (.a1 1)),.v (.ptr c 0),.v (.slice c 0 m (.a1 1)),.l5 (.str ea) cB]) (by kernel_rfl)<| .cons H1<| .cons aR<| .cons H1<| .cons br<| .cons (by kernel_rfl:I.sound (I.ptr b 0)=true)<| .cons (by kernel_rfl:I.ptr b 0=I.ptr b 0)<| .cons (by kernel_rfl:I.sound (I.ptr b 0)=true)<| .cons (by kernel_rfl:I.ptr b 0=I.ptr b 0)<| .cons (by kernel_rfl:I.sound (I.ptr b (0+1))=true)<| .cons (by kernel_rfl:I.ptr b (0+1)=I.ptr b (0+1))<| .cons (by kernel_rfl:I.sound (I.slice c 0 m (b3.a1 1))=true)<| .cons H1<| .cons (by kernel_rfl:I.sound (I.ptr c 0)=true)<| .cons aR<| .cons (by kernel_rfl:I.sound (I.ptr b 0)=true)<| .cons (by kernel_rfl:I.ptr b 0=I.ptr b 0)<| .cons (by kernel_rfl:I.sound (I.ptr b 0)=true)<| .cons (by kernel_rfl:I.ptr b 0=I.ptr b 0)<| .cons (by kernel_rfl:I.sound (I.ptr b (0+1))=true)<| .cons (by kernel_rfl:I.ptr b (0+1)=I.ptr b (0+1))<| .cons (by kernel_rfl:I.sound (I.slice c 0 m (b3.a1 1))=true)<| .cons H1<| .cons (by kernel_rfl:I.sound (I.int IntKind.i64 (Int.ofNat m))=true)<| .cons (by kernel_rfl:cc Tryz.prog (J.room h 12) 27 (I.slice c 0 m (b3.a1 1))=some (I.int IntKind.i64 (Int.ofNat m)))<| .cons (by kernel_rfl:I.sound (I.str ea)=true)<| .cons (by kernel_rfl:I.str ea=I.str ea)<| .nil
theorem Mv(call:aI->List I->J->av)(b:Nat)(h:J)(ea:List UInt8)(cB:J)
  (H1:au (J.room h 12) b (0+1)=some .a0)
  (aR:o6 Tryz.prog (J.room h 12) 118 I.bb (I.int IntKind.i64 (Int.ofNat 0))=some (I.str ea,cB)):
  aL Tryz.prog Tryz.f47 none call [] (ah.mk [(0,.ptr b 0)] [] .none h) (.ret)
   (ah.mk [(2,.str ea)] [] .none cB):=
 bI [2] (hs:=[.v .a0,.v .bb,.v .a0,.l5 (.str ea) cB]) (by kernel_rfl)<| .cons H1<| .cons (by kernel_rfl:h6 Tryz.prog Builtin.unsafeSliceData (Array.mk [27]) [I.a0] (J.room h 12)=jg.val I.bb (J.room h 12))<| .cons H1<| .cons aR<| .cons (by kernel_rfl:I.sound (I.ptr b 0)=true)<| .cons (by kernel_rfl:I.ptr b 0=I.ptr b 0)<| .cons (by kernel_rfl:I.sound (I.ptr b 0)=true)<| .cons (by kernel_rfl:I.ptr b 0=I.ptr b 0)<| .cons (by kernel_rfl:I.sound (I.ptr b (0+1))=true)<| .cons (by kernel_rfl:I.ptr b (0+1)=I.ptr b (0+1))<| .cons (by kernel_rfl:I.sound I.a0=true)<| .cons H1<| .cons (by kernel_rfl:I.sound I.bb=true)<| .cons (by kernel_rfl:h6 Tryz.prog Builtin.unsafeSliceData (Array.mk [27]) [I.a0] (J.room h 12)=jg.val I.bb (J.room h 12))<| .cons (by kernel_rfl:I.sound (I.ptr b 0)=true)<| .cons (by kernel_rfl:I.ptr b 0=I.ptr b 0)<| .cons (by kernel_rfl:I.sound (I.ptr b 0)=true)<| .cons (by kernel_rfl:I.ptr b 0=I.ptr b 0)<| .cons (by kernel_rfl:I.sound (I.ptr b (0+1))=true)<| .cons (by kernel_rfl:I.ptr b (0+1)=I.ptr b (0+1))<| .cons (by kernel_rfl:I.sound I.a0=true)<| .cons H1<| .cons (by kernel_rfl:I.sound (I.int IntKind.i64 (Int.ofNat 0))=true)<| .cons (by kernel_rfl:cc Tryz.prog (J.room h 12) 27 I.a0=some (I.int IntKind.i64 (Int.ofNat 0)))<| .cons (by kernel_rfl:I.sound (I.str ea)=true)<| .cons (by kernel_rfl:I.str ea=I.str ea)<| .nil
theorem X8(m:Nat)(v:I)(s:List UInt8)(fy:Nat)(fz:Nat)(b:Nat)(c:Nat)(iA:List I)(iB:List I)(h:J){R:av->Prop}(H:∃aD:Nat,cc Tryz.prog h 50 v=some (.int .i64 (.ofNat aD))/\a3 Tryz.prog Tryz.f95 (Y m) [1,0] (ah.mk [(1,.str s),(2,.fn fy [] iA),(3,.fn fz [] iB),(4,.ptr b 0),(5,.ptr c 0),(12,v),(13,.int .i64 (.ofNat aD)),(14,.int .i64 (.ofNat 0))] [] .none h) (λb9 cj=>∃ai:J,∃bz:Env,b9=.exit 0/\cj=ah.mk bz [] .none ai/\b_ [] bz/\R (.ret (.aQ []) ai))):
  R (Y (m+1) (.fn 95) [v,.str s,.fn fy [] iA,.fn fz [] iB,.ptr b 0,.ptr c 0] h):=
 dI (intr:=b0) [(4000,.gT [1,2,3,4,5,12,13,14] [(.exit 0,[])])] [(0,.o v),(1,.v (.str s)),(2,.o (.fn fy [] iA)),(3,.o (.fn fz [] iB)),(4,.v (.ptr b 0)),(5,.v (.ptr c 0))] Tryz.func95 (by kernel_rfl) (by kernel_rfl) (by kernel_rfl) rfl (Eq.mp (by kernel_rfl) H)
theorem X9(call:aI->List I->J->av)(s:List UInt8)(fy:Nat)(fz:Nat)(b:Nat)(c:Nat)(fl:Nat)(off:Nat)(N:Nat)(i:Nat)(y_:Nat)(cp:b3)(iA:List I)(iB:List I)(co:List I)(h:J){Q:bn->ah->Prop}(H:(i<N->i<N/\∃v1:I,au h fl (off+i*1)=some v1/\(0<i->∃aD:Nat,∃v2:I,∃ai:J,call (.fn 44) [.ptr b 0,.str s] h=.ret (.aQ [.int .i64 (.ofNat aD),v2]) ai/\∃s1:List UInt8,∃ax:J,call (.fn fy) (.int .i64 (.ofNat i)::iA) ai=.ret (.str s1) ax/\∃bj:Nat,∃dc:I,∃aB:J,call (.fn 44) [.ptr b 0,.str s1] ax=.ret (.aQ [.int .i64 (.ofNat bj),dc]) aB/\au aB c 0=some (.fn y_ [] co)/\∃bE:J,call (.fn y_) (v1::co) aB=.ret (.aQ []) bE/\∃s2:List UInt8,∃bS:J,call (.fn fz) (.int .i64 (.ofNat i)::iB) bE=.ret (.str s2) bS/\∃bD:Nat,∃v4:I,∃dC:J,call (.fn 44) [.ptr b 0,.str s2] bS=.ret (.aQ [.int .i64 (.ofNat bD),v4]) dC/\i+1<9223372036854775808/\Q .nrm (ah.mk [(1,.str s),(2,.fn fy [] iA),(3,.fn fz [] iB),(4,.ptr b 0),(5,.ptr c 0),(12,.slice fl off N cp),(13,.int .i64 (.ofNat N)),(14,.int .i64 (.ofNat (i+1)))] [] .none dC))/\(¬0<i->∃bK:List UInt8,∃eY:J,call (.fn fy) (.int .i64 (.ofNat i)::iA) h=.ret (.str bK) eY/\∃bT:Nat,∃fM:I,∃fZ:J,call (.fn 44) [.ptr b 0,.str bK] eY=.ret (.aQ [.int .i64 (.ofNat bT),fM]) fZ/\au fZ c 0=some (.fn y_ [] co)/\∃jO:J,call (.fn y_) (v1::co) fZ=.ret (.aQ []) jO/\∃bN:List UInt8,∃mn:J,call (.fn fz) (.int .i64 (.ofNat i)::iB) jO=.ret (.str bN) mn/\∃b5:Nat,∃v6:I,∃za:J,call (.fn 44) [.ptr b 0,.str bN] mn=.ret (.aQ [.int .i64 (.ofNat b5),v6]) za/\i+1<9223372036854775808/\Q .nrm (ah.mk [(1,.str s),(2,.fn fy [] iA),(3,.fn fz [] iB),(4,.ptr b 0),(5,.ptr c 0),(12,.slice fl off N cp),(13,.int .i64 (.ofNat N)),(14,.int .i64 (.ofNat (i+1)))] [] .none za)))/\(¬i<N->Q (.exit 0) (ah.mk [(1,.str s),(2,.fn fy [] iA),(3,.fn fz [] iB),(4,.ptr b 0),(5,.ptr c 0),(12,.slice fl off N cp),(13,.int .i64 (.ofNat N)),(14,.int .i64 (.ofNat i))] [] .none h))):
  a3 Tryz.prog Tryz.f95 call [1,0,0] ⟨[(1,.str s),(2,.fn fy [] iA),(3,.fn fz [] iB),(4,.ptr b 0),(5,.ptr c 0),(12,.slice fl off N cp),(13,.int .i64 (.ofNat N)),(14,.int .i64 (.ofNat i))],[],.none,h⟩ Q:=
 dB [(18,.bA .o),(27,.bA (.io (.fn y_ [] co)))] [1,2,3,4,5,12,13,14] [(1,.v (.str s)),(2,.o (.fn fy [] iA)),(3,.o (.fn fz [] iB)),(4,.v (.ptr b 0)),(5,.v (.ptr c 0)),(12,.v (.slice fl off N cp)),(13,.v (.int .i64 (.ofNat N))),(14,.v (.int .i64 (.ofNat i)))] rfl (Eq.mp (by kernel_rfl) H)
theorem X_(call:aI->List I->J->av)(s:List UInt8)(fy:Nat)(fz:Nat)(b:Nat)(c:Nat)(N:Nat)(i:Nat)(iA:List I)(iB:List I)(v:I)(h:J){Q:bn->ah->Prop}(H:¬i<N/\Q (.exit 0) (ah.mk [] [] .none h)):
  a3 Tryz.prog Tryz.f95 call [1,0,0] ⟨[(1,.str s),(2,.fn fy [] iA),(3,.fn fz [] iB),(4,.ptr b 0),(5,.ptr c 0),(12,v),(13,.int .i64 (.ofNat N)),(14,.int .i64 (.ofNat i))],[],.none,h⟩ Q:=
 dB [(1015,.f)] [] [(1,.v (.str s)),(2,.o (.fn fy [] iA)),(3,.o (.fn fz [] iB)),(4,.v (.ptr b 0)),(5,.v (.ptr c 0)),(12,.o v),(13,.v (.int .i64 (.ofNat N))),(14,.v (.int .i64 (.ofNat i)))] rfl (Eq.mp (by kernel_rfl) H)
theorem F0(m:Nat)(i:Nat)(h:J){R:av->Prop}(H:R (.ret (.str []) h)):
  R (Y (m+1) (.fn 96) [.int .i64 (.ofNat i)] h):=
 dI (intr:=b0) [] [(0,.v (.int .i64 (.ofNat i)))] Tryz.func96 (by kernel_rfl) (by kernel_rfl) (by kernel_rfl) rfl (Eq.mp (by kernel_rfl) H)
theorem Ya(m:Nat)(i:Nat)(e:Nat)(h:J){R:av->Prop}(H:∃aD:Nat,au h e 0=some (.ptr aD 0)/\∃bj:Nat,∃bD:Nat,∃bT:Nat,∃aH:b3,au h aD (0+2)=some (.slice bj bD bT aH)/\i<bT/\∃s1:List UInt8,au h bj (bD+i*1)=some (.str s1)/\List.length s1+2<=1000000000000/\R (.ret (.str (s1++[58,32])) h)):
  R (Y (m+1) (.fn 98) [.int .i64 (.ofNat i),.ptr e 0] h):=
 dI (intr:=b0) [(7,.bA .fY)] [(0,.v (.int .i64 (.ofNat i))),(1,.v (.ptr e 0))] Tryz.func98 (by kernel_rfl) (by kernel_rfl) (by kernel_rfl) rfl (Eq.mp (by kernel_rfl) H)
theorem Mw(m:Nat)(s:List UInt8)(e:Nat)(h:J){R:av->Prop}(H:R (.ret (.fn 100 [] [.ptr e 0,.ptr h.n 0]) (J.push h (.cells [.str s] 9 .own 0 0)))):
  R (Y (m+1) (.fn 99) [.str s,.ptr e 0] h):=
 dI (intr:=b0) [] [(0,.v (.str s)),(1,.v (.ptr e 0))] Tryz.func99 (by kernel_rfl) (by kernel_rfl) (by kernel_rfl) rfl (Eq.mp (by kernel_rfl) H)
theorem Yb(m:Nat)(i:Nat)(e:Nat)(f:Nat)(h:J){R:av->Prop}(H:∃aD:Nat,au h e 0=some (.ptr aD 0)/\∃bj:Nat,∃bD:Nat,∃bT:Nat,∃aH:b3,au h aD (0+3)=some (.slice bj bD bT aH)/\i<bT/\∃b5:Nat,au h bj (bD+i*1)=some (.ptr b5 0)/\∃cx:Nat,au h b5 (0+0)=some (.int .i64 (.ofNat cx))/\(cx=8->∃s1:List UInt8,au h f 0=some (.str s1)/\R (.ret (.str s1) h))/\(¬cx=8->R (.ret (.str []) h))):
  R (Y (m+1) (.fn 100) [.int .i64 (.ofNat i),.ptr e 0,.ptr f 0] h):=
 dI (intr:=b0) [(8,.bA .fY)] [(0,.v (.int .i64 (.ofNat i))),(1,.v (.ptr e 0)),(2,.v (.ptr f 0))] Tryz.func100 (by kernel_rfl) (by kernel_rfl) (by kernel_rfl) rfl (Eq.mp (by kernel_rfl) H)
theorem Yc(m:Nat)(b:Nat)(l:Nat)(n:Nat)(o:Nat)(r:Nat)(k:Nat)(s:List UInt8)(bg:I)(c2:I)(h:J){R:av->Prop}(H:au (J.push h (.cells [.ptr r 0] 35 .own 0 0)) h.n 0=some (.ptr r 0)/\au (J.push h (.cells [.ptr r 0] 35 .own 0 0)) r (0+0)=some (.int .i64 (.ofNat k))/\(k=6->au (J.push h (.cells [.ptr r 0] 35 .own 0 0)) h.n 0=some (.ptr r 0)/\au (J.push h (.cells [.ptr r 0] 35 .own 0 0)) r (0+1)=some (.str s)/\∃aD:Nat,∃v1:I,∃ai:J,(Y m) (.fn 44) [.ptr b 0,.str s] (J.push h (.cells [.ptr r 0] 35 .own 0 0))=.ret (.aQ [.int .i64 (.ofNat aD),v1]) ai/\R (.ret (.aQ []) ai))/\(¬k=6->(k=7->∃bj:Nat,∃v2:I,∃ax:J,(Y m) (.fn 44) [.ptr b 0,.str [123]] (J.push h (.cells [.ptr r 0] 35 .own 0 0))=.ret (.aQ [.int .i64 (.ofNat bj),v2]) ax/\au (ax.room 8) l 0=some (.fn 95 [] [.ptr b 0,.ptr o 0])/\au (ax.room 8) h.n 0=some (.ptr r 0)/\au (ax.room 8) r (0+3)=some bg/\au (ax.room 8) n 0=some (.fn 96 [] [])/\∃aB:J,(Y m) (.fn 95) [bg,.str [44,32],.fn 98 [] [.ptr h.n 0],.fn 96 [] [],.ptr b 0,.ptr o 0] (ax.room 8)=.ret (.aQ []) aB/\I.sound bg=true/\∃bD:Nat,∃dc:I,∃bE:J,(Y m) (.fn 44) [.ptr b 0,.str [125]] aB=.ret (.aQ [.int .i64 (.ofNat bD),dc]) bE/\R (.ret (.aQ []) bE))/\(¬k=7->(k=8->∃bT:Nat,∃v4:I,∃bS:J,(Y m) (.fn 44) [.ptr b 0,.str [102,110,40]] (J.push h (.cells [.ptr r 0] 35 .own 0 0))=.ret (.aQ [.int .i64 (.ofNat bT),v4]) bS/\au (bS.room 8) l 0=some (.fn 95 [] [.ptr b 0,.ptr o 0])/\au (bS.room 8) h.n 0=some (.ptr r 0)/\au (bS.room 8) r (0+3)=some bg/\au (bS.room 8) n 0=some (.fn 96 [] [])/\au (bS.room 8) n 0=some (.fn 96 [] [])/\∃dC:J,(Y m) (.fn 95) [bg,.str [44,32],.fn 96 [] [],.fn 96 [] [],.ptr b 0,.ptr o 0] (bS.room 8)=.ret (.aQ []) dC/\I.sound bg=true/\∃b5:Nat,∃fM:I,∃eY:J,(Y m) (.fn 44) [.ptr b 0,.str [41,32,45,62,32]] dC=.ret (.aQ [.int .i64 (.ofNat b5),fM]) eY/\au (eY.room 6) o 0=some (.fn 97 [] [.ptr b 0,.ptr l 0,.ptr n 0,.ptr o 0])/\au (eY.room 6) h.n 0=some (.ptr r 0)/\au (eY.room 6) r (0+4)=some c2/\∃fZ:J,(Y m) (.fn 97) [c2,.ptr b 0,.ptr l 0,.ptr n 0,.ptr o 0] (eY.room 6)=.ret (.aQ []) fZ/\I.sound c2=true/\R (.ret (.aQ []) fZ))/\(¬k=8->(k=9->au (J.room (J.push h (.cells [.ptr r 0] 35 .own 0 0)) 10) l 0=some (.fn 95 [] [.ptr b 0,.ptr o 0])/\au (J.room (J.push h (.cells [.ptr r 0] 35 .own 0 0)) 10) h.n 0=some (.ptr r 0)/\au (J.room (J.push h (.cells [.ptr r 0] 35 .own 0 0)) 10) r (0+3)=some bg/\∃v6:I,∃jO:J,(Y m) (.fn 99) [.str [40],.ptr h.n 0] (J.room (J.push h (.cells [.ptr r 0] 35 .own 0 0)) 10)=.ret v6 jO/\∃ic:I,∃mn:J,(Y m) (.fn 99) [.str [41],.ptr h.n 0] jO=.ret ic mn/\∃za:J,(Y m) (.fn 95) [bg,.str [32,124,32],v6,ic,.ptr b 0,.ptr o 0] mn=.ret (.aQ []) za/\au mn l 0=some (.fn 95 [] [.ptr b 0,.ptr o 0])/\au jO l 0=some (.fn 95 [] [.ptr b 0,.ptr o 0])/\au mn h.n 0=some (.ptr r 0)/\au jO h.n 0=some (.ptr r 0)/\I.sound bg=true/\au mn r (0+3)=some bg/\au jO r (0+3)=some bg/\R (.ret (.aQ []) za))/\(¬k=9->au (J.push h (.cells [.ptr r 0] 35 .own 0 0)) h.n 0=some (.ptr r 0)/\au (J.push h (.cells [.ptr r 0] 35 .own 0 0)) r (0+0)=some (.int .i64 (.ofNat k))/\∃s1:List UInt8,(k<6/\iQ Tryz.prog 9 [.str [],.str [97,110,121],.str [105,110,116],.str [98,111,111,108],.str [115,116,114],.str [110,105,108]] (k*1)=some (.str s1))/\∃cx:Nat,∃ht:I,∃Mx:J,(Y m) (.fn 44) [.ptr b 0,.str s1] (J.push h (.cells [.ptr r 0] 35 .own 0 0))=.ret (.aQ [.int .i64 (.ofNat cx),ht]) Mx/\R (.ret (.aQ []) Mx)))))):
  R (Y (m+1) (.fn 97) [.ptr r 0,.ptr b 0,.ptr l 0,.ptr n 0,.ptr o 0] h):=
 dI (intr:=b0) [(7,.bA (.is (.ptr r 0))),(20,.bA (.is (.ptr r 0))),(29,.bA (.is (.ptr r 0))),(41,.bA (.is (.ptr r 0))),(50,.bA (.is (.ptr r 0))),(59,.bA (.is (.ptr r 0))),(12,.bA (.is (.ptr r 0))),(10,.bA (.is (.int .i64 (.ofNat k)))),(15,.bA (.is (.int .i64 (.ofNat k)))),(23,.bA (.is (.str s))),(32,.bA (.io bg)),(44,.bA (.io bg)),(62,.bA (.io bg)),(53,.bA (.io c2)),(28,.bA (.is (.fn 95 [] [.ptr b 0,.ptr o 0]))),(40,.bA (.is (.fn 95 [] [.ptr b 0,.ptr o 0]))),(58,.bA (.is (.fn 95 [] [.ptr b 0,.ptr o 0]))),(34,.bA (.is (.fn 96 [] []))),(45,.bA (.is (.fn 96 [] []))),(46,.bA (.is (.fn 96 [] []))),(49,.bA (.is (.fn 97 [] [.ptr b 0,.ptr l 0,.ptr n 0,.ptr o 0]))),(64,.bA .o),(66,.bA .o)] [(0,.v (.ptr r 0)),(1,.v (.ptr b 0)),(2,.v (.ptr l 0)),(3,.v (.ptr n 0)),(4,.v (.ptr o 0))] Tryz.func97 (by kernel_rfl) (by kernel_rfl) (by kernel_rfl) rfl (Eq.mp (by kernel_rfl) H)
theorem Yd(m:Nat)(r:Nat)(h:J){R:av->Prop}(H:∃ai:J,aP.storeCells (J.push (J.push (J.push h (.cells [.bb,.a0] 92 .own 0 0)) (.cells [.fR] 133 .own 0 0)) (.cells [.fR] 135 .own 0 0)) (J.n (J.push (J.push h (.cells [.bb,.a0] 92 .own 0 0)) (.cells [.fR] 133 .own 0 0))) 0 [.fn 95 [] [.ptr h.n 0,.ptr (J.n (J.push h (.cells [.bb,.a0] 92 .own 0 0))) 0]]=some ai/\∃ax:J,aP.storeCells (J.push ai (.cells [.fR] 134 .own 0 0)) ai.n 0 [.fn 96 [] []]=some ax/\∃aB:J,aP.storeCells ax (J.n (J.push h (.cells [.bb,.a0] 92 .own 0 0))) 0 [.fn 97 [] [.ptr h.n 0,.ptr (J.n (J.push (J.push h (.cells [.bb,.a0] 92 .own 0 0)) (.cells [.fR] 133 .own 0 0))) 0,.ptr ai.n 0,.ptr (J.n (J.push h (.cells [.bb,.a0] 92 .own 0 0))) 0]]=some aB/\∃bz:List I,au aB (J.n (J.push h (.cells [.bb,.a0] 92 .own 0 0))) 0=some (.fn 97 [] bz)/\∃bE:J,(Y m) (.fn 97) (.ptr r 0::bz) aB=.ret (.aQ []) bE/\∃s1:List UInt8,∃bS:J,(Y m) (.fn 47) [.ptr h.n 0] bE=.ret (.str s1) bS/\R (.ret (.str s1) bS)):
  R (Y (m+1) (.fn 72) [.ptr r 0] h):=
 dI (intr:=b0) [(9,.bA (.fn 97 4))] [(0,.v (.ptr r 0))] Tryz.func72 (by kernel_rfl) (by kernel_rfl) (by kernel_rfl) rfl (Eq.mp (by kernel_rfl) H)
def jP(B b:Nat)(h:J)(w:List UInt8):Prop:=∃a v,h.get b=some (.cells [a,v] 92 .own 0 0)/\(a=.bb\/a=.ptr b 0)/\pE B 5 h v w/\b<B/\B<=h.n/\(w=[]->v=.a0)
theorem Ye(n b:Nat)(h:J):Y (n+1) (.fn 101) [.ptr b 0] h=.ret (.ptr b 0) h:=by unfold Y;kernel_rfl
theorem F1(n b:Nat)(h:J)(v:I)(ae:b<h.n)(al:h.get b=some (.cells [.bb,v] 92 .own 0 0)\/h.get b=some (.cells [.ptr b 0,v] 92 .own 0 0)):
  ∃an,Y (n+2) (.fn 73) [.ptr b 0] h=.ret (.aQ []) an/\an.get b=some (.cells [.ptr b 0,v] 92 .own 0 0)/\an.n=h.n/\∀c,c≠b->an.get c=h.get c:=by
 rcases al with al|al
 · refine⟨h.set b (some (.cells [.ptr b 0,v] 92 .own 0 0)),?_,gR rfl,rfl,λc ag=>dM ag rfl⟩
   have f1:Tryz.prog.underlying 90=some (.pointer 92):=by kernel_rfl
   have f2:Tryz.prog.underlying 138=some .unsafePointer:=by kernel_rfl
   have f3:dn Tryz.prog 92=some 2:=by kernel_rfl
   have f4:liesAt Tryz.prog Tryz.prog.depth 92 (2/Tryz.prog.cellsOf 92) 0 92 1=true:=by kernel_rfl
   have v1:iR Tryz.prog 90 138 (I.ptr b 0) h=jg.val (I.ptr b 0) h:=by
    simp only[iR,f1,f2,f3,al];rfl
   have v2:iR Tryz.prog 138 90 (I.ptr b 0) h=jg.val (I.ptr b 0) h:=by
    simp only[iR,f1,f2,f3,al,List.length_cons,List.length_nil,f4];rfl
   have aj:=X6 (Y (n+1)) b h _ (aV al rfl) v1 (Ye n b h) v2 (gS al rfl rfl)
   exact eR (intr:=b0) (n:=n+1) (args:=[.ptr b 0]) Tryz.func73 (by kernel_rfl) rfl (by kernel_rfl) aj (.inr rfl) (by kernel_rfl)
 · refine⟨h,?_,al,rfl,λc _=>rfl⟩
   have he:eJ Tryz.prog h BinOp.neq 90 (Operand.tmp 17) (Operand.tmp 18) (I.ptr b 0) (I.ptr b 0)=some (I.bool false):=by
    have aA:Tryz.prog.underlying 90=some (.pointer 92):=by kernel_rfl
    have ay:dn Tryz.prog 92=some 2:=by kernel_rfl
    have bw:Nat.beq b b=true:=by simp
    simp only[eJ,q_,fU,aA,ay,CP,bw]
    rfl
   exact eR (intr:=b0) (n:=n+1) (args:=[.ptr b 0]) Tryz.func73 (by kernel_rfl) rfl (by kernel_rfl) (X7 (Y (n+1)) b h false (aV al rfl) he rfl) (.inr rfl) (by kernel_rfl)
theorem My:∃i,Tryz.prog.info? 5=some i/\i.size=1/\i.bytes=1:=by
 have af:(Tryz.prog.info? 5).map (λi=>(i.size,i.bytes))=some (1,1):=by kernel_rfl
 cases uw:Tryz.prog.info? 5 with
 |none=>rw[uw] at af;cases af
 |some i=>
  rw[uw] at af
  simp only[Option.map_some,Option.some.injEq,Prod.mk.injEq] at af
  exact⟨i,rfl,af.1,af.2⟩
theorem Mz{i:TypeInfo}(af:i.bytes=1){n:Nat}(aN:n<=1000000000):kW n i.bytes=true:=by
 rw[af]
 have:(4*n+2048)*(1+1)<=281474976710656:=by omega
 simpa[kW] using this
theorem BW(n b B:Nat)(h:J)(w s:List UInt8)(ae:jP B b h w)(aw:w.length+s.length<=1000000000):∃an,Y (n+3) (.fn 44) [.ptr b 0,.str s] h=.ret (.aQ [.int .i64 (Int.ofNat s.length),.e1]) an/\jP B b an (w++s)/\mV 5 b B h an:=by
 obtain⟨a,v,al,aT,BX,kP,Yf,qE⟩:=ae
 obtain⟨ab,aH,ai,aD,dz⟩:=F1 n b h v (by omega) (by rcases aT with rfl|rfl;exact .inl al;exact .inr al)
 have bo:pE B 5 ab v w:=BX.ext (by omega) λc ag _=>dz c (by omega)
 obtain⟨i,uw,BY,yc⟩:=My
 obtain⟨v',ad,cr,cZ,dp⟩:=Ki (P:=Tryz.prog) (B:=B) (sT:=27) (xT:=some 9) (e:=5) (z:=.int .u8 (Int.ofNat 0)) (by omega) (by kernel_rfl) (by kernel_rfl) uw BY (by kernel_rfl) rfl (Mz yc aw) bo
 have ax:=(dp.get b kP).trans ai
 have aN:=dp.n
 have ux:w++s=[]->v'=.a0:=by
  intro e
  obtain⟨rfl,rfl⟩:=List.append_eq_nil_iff.1 e
  obtain rfl:=qE rfl
  have:dt Tryz.prog ab 27 (some 9) .a0 (.str [])=some (.a0,ab):=by
   have hu:Tryz.prog.underlying 27=some (.slice 5):=by kernel_rfl
   have hs:o4 Tryz.prog (some 9)=true:=by kernel_rfl
   have a2:ei Tryz.prog 5=some (.int .u8 (Int.ofNat 0)):=by kernel_rfl
   simp only[dt,hu,hs,uw,a2,BY];rfl
  rw[this] at cr
  cases cr;rfl
 refine⟨ad.set b (some (.cells [.ptr b 0,v'] 92 .own 0 0)),?_,⟨.ptr b 0,v',gR rfl,.inr rfl,cZ.ext (by simp) λc ag _=>dM (by omega) rfl,kP,by simp;omega,ux⟩,⟨⟨by simp;omega,λc ag lT=>dM lT ((dp.get c ag).trans (dz c lT))⟩,λd ao yL ox=>?_⟩⟩
 · rcases cZ with⟨rfl,_⟩|⟨c,r,rfl,_⟩
   · exact eR (intr:=b0) (n:=n+2) (args:=[.ptr b 0,.str s]) Tryz.func44 (by kernel_rfl) rfl (by kernel_rfl) (Mt (Y (n+2)) b s v h ad ab _ aH (aV ai rfl) cr (gS ax rfl rfl)) (.inl rfl) (by kernel_rfl)
   · exact eR (intr:=b0) (n:=n+2) (args:=[.ptr b 0,.str s]) Tryz.func44 (by kernel_rfl) rfl (by kernel_rfl) (bws (Y (n+2)) b c _ s v h ad ab _ aH (aV ai rfl) cr (gS ax rfl rfl)) (.inl rfl) (by kernel_rfl)
 · refine dM yL ((Tl cr (by omega) ?_).trans (dz d yL))
   rintro o l c rfl
   rcases BX with⟨aa,_⟩|⟨c',rest,aa,ag,_⟩
   · cases aa
   · cases aa
     exact ox _ _ _ ag
theorem MA(n b B:Nat)(h:J)(w:List UInt8)(ae:jP B b h w)(aw:w.length<=1000000000):∃an,Y (n+1) (.fn 47) [.ptr b 0] h=.ret (.str w) an/\Ext B h an:=by
 obtain⟨a,v,g,aT,aC,kP,aN,qE⟩:=ae
 rcases aC with⟨rfl,rfl⟩|⟨c,rest,rfl,ag,qO,vB⟩
 · have iU:o6 Tryz.prog (J.room h 12) 118 I.bb (I.int IntKind.i64 (Int.ofNat 0))=some (.str [],J.room h 12):=by kernel_rfl
   exact⟨_,eR (intr:=b0) (n:=n) (args:=[.ptr b 0]) Tryz.func47 (by kernel_rfl) rfl (by kernel_rfl) (Mv (Y n) b h [] _ (aV (h:=h.room 12) g rfl) iU) (.inl rfl) (by kernel_rfl),Ext.room _ _ _⟩
 · by_cases hw:w=[]
   · exact absurd (qE hw) (by simp)
   · have cS:w.length≠0:=by cases w<;>simp at hw⊢
     have eH:h6 Tryz.prog Builtin.unsafeSliceData (Array.mk [27]) [I.slice c 0 w.length (b3.a1 1)] (J.room h 12)=jg.val (I.ptr c 0) (J.room h 12):=by
      simp only[h6]
      exact if_neg cS
     have iU:=Kl (P:=Tryz.prog) (h:=h.room 12) (pT:=118) (u:=5) (c:=c) (e:=5) (w:=w) (rest:=rest) hw (by omega) (by kernel_rfl) (by kernel_rfl) (by kernel_rfl) ag
     exact⟨_,eR (intr:=b0) (n:=n) (args:=[.ptr b 0]) Tryz.func47 (by kernel_rfl) rfl (by kernel_rfl) (Mu (Y n) b c w.length h w _ (aV (h:=h.room 12) g rfl) eH iU) (.inl rfl) (by kernel_rfl),
      (Ext.room B h 12).trans (Nat.le_refl _) (Ext.set (by omega) _)⟩
end Go.Proofs.cG
namespace Go.Proofs.cG
open Go aP Go.Proofs c8
set_option maxRecDepth 100000
set_option maxHeartbeats 1000000
abbrev oR(b:Nat):List I:=[.ptr b 0,.ptr (b+2) 0,.ptr (b+3) 0,.ptr (b+1) 0]
structure fN(b:Nat)(h0 x:J)(w:a5):Prop where
 BZ:jP (b+4) b x w
 one:x.get (b+1)=some (.cells [.fn 97 [] (oR b)] 133 .own 0 0)
 wx:x.get (b+2)=some (.cells [.fn 95 [] [.ptr b 0,.ptr (b+1) 0]] 135 .own 0 0)
 oy:x.get (b+3)=some (.cells [.fn 96 [] []] 134 .own 0 0)
 ext:Ext b h0 x
abbrev h2(b:Nat)(x y:J):Prop:=mV 5 b (b+4) x y
theorem fN.n{b:Nat}{h0 x:J}{w:a5}(ae:fN b h0 x w):b+4<=x.n:=by obtain⟨_,_,_,_,_,_,h,_⟩:=ae.BZ;exact h
theorem fN.MB{b:Nat}{h0 x y:J}{w w':a5}(ae:fN b h0 x w)(aS:jP (b+4) b y w')(k:h2 b x y):fN b h0 y w':=
 ⟨aS,(k.x.get _ (by omega) (by omega)).trans ae.one,(k.x.get _ (by omega) (by omega)).trans ae.wx,(k.x.get _ (by omega) (by omega)).trans ae.oy,
  ae.ext.trans (Nat.le_refl _) ⟨k.x.n,λd ao=>k.x.get d (by omega) (by omega)⟩⟩
theorem fN.kQ{b:Nat}{h0 x y:J}{w:a5}(ae:fN b h0 x w)(e:Ext x.n x y):fN b h0 y w/\h2 b x y:=by
 have aN:=ae.n
 have aq:h2 b x y:=mV.ext e aN
 refine⟨ae.MB ?_ aq,aq⟩
 obtain⟨a,v,ab,ad,ar,aG,bJ,cu⟩:=ae.BZ
 exact⟨a,v,(e.get b (by omega)).trans ab,ad,ar.ext e.n λc _ ag=>e.get c ag,aG,Nat.le_trans bJ e.n,cu⟩
theorem fN.ws{b:Nat}{h0 x:J}{w:a5}(n:Nat)(s:a5)(ae:fN b h0 x w)(aw:w.length+s.length<=1000000000):∃y,Y (n+3) (.fn 44) [.ptr b 0,.str s] x=.ret (.aQ [.int .i64 (Int.ofNat s.length),.e1]) y/\fN b h0 y (w++s)/\h2 b x y:=by
 obtain⟨y,c,aS,k⟩:=BW n b (b+4) x w s ae.BZ aw
 exact⟨y,c,ae.MB aS k,k⟩
theorem h2.own{b d:Nat}{x y:J}{cs:List I}{e:Nat}(k:h2 b x y)(ao:d<x.n)(ae:d≠b)(al:x.get d=some (.cells cs e .own 0 0)):d<y.n/\y.get d=some (.cells cs e .own 0 0):=
 ⟨Nat.lt_of_lt_of_le ao k.x.n,(k.k d ao ae (by rw[al];intro cs aO up h;cases h)).trans al⟩
theorem F2(m:Nat){b:Nat}{h0:J}{v:I}{vs:List I}(sep:a5)(fy fz:Nat)(iA iB:List I)(A W Z:Nat->a5)(items:List a5)(K:J->Prop)(dk:∀x y,K x->h2 b x y->K y)(aC:db b h0 v vs)(hlen:vs.length<=90000)(jy:items.length=vs.length)(sc:∀i (af:i<items.length),items[i]=A i++W i++Z i)
  (jZ:∀i x w,i<vs.length->fN b h0 x w->K x->Y (m+3) (.fn fy) (.int .i64 (Int.ofNat i)::iA) x=.ret (.str (A i)) x)
  (p1:∀i x w,i<vs.length->fN b h0 x w->K x->Y (m+3) (.fn fz) (.int .i64 (Int.ofNat i)::iB) x=.ret (.str (Z i)) x)
  (tv:∀i (af:i<vs.length) x w,fN b h0 x w->K x->w.length+(W i).length<=1000000->∃y,Y (m+3) (.fn 97) (vs[i]::oR b) x=.ret (.aQ []) y/\fN b h0 y (w++W i)/\h2 b x y)
  {x:J}{w:a5}(aa:fN b h0 x w)(BL:K x)(aw:w.length+(d_ sep items).length<=1000000):
  ∃y,Y (m+4) (.fn 95) [v,.str sep,.fn fy [] iA,.fn fz [] iB,.ptr b 0,.ptr (b+1) 0] x=.ret (.aQ []) y/\fN b h0 y (w++d_ sep items)/\h2 b x y:=by
 have kY:∀g,Ext b h0 g->cc Tryz.prog g 50 v=some (.int .i64 (Int.ofNat vs.length)):=λg x=>(aC.b8 (gU.ext x (Nat.le_refl _))).len (t:=50) (e:=35) (by kernel_rfl)
 refine X8 (m+3) v sep fy fz b (b+1) iA iB x (R:=λr=>∃y,r=.ret (.aQ []) y/\fN b h0 y (w++d_ sep items)/\h2 b x y) ⟨vs.length,kY x aa.ext,?_⟩
 refine a3.loop (by kernel_rfl) (λk st=>∃i y Γ,st=⟨Γ,[],.none,y⟩/\b_ [(1,.str sep),(2,.fn fy [] iA),(3,.fn fz [] iB),(4,.ptr b 0),(5,.ptr (b+1) 0),(12,v),(13,.int .i64 (Int.ofNat vs.length)),(14,.int .i64 (Int.ofNat i))] Γ/\vs.length-i=k/\i<=vs.length/\fN b h0 y (w++d_ sep (items.take i))/\h2 b x y/\K y) ?_ vs.length _ (by omega) ⟨0,x,_,rfl,⟨rfl,rfl,rfl,rfl,rfl,rfl,rfl,rfl,trivial⟩,by omega,by omega,by simpa[d_] using aa,mV.refl _ _ _ _,BL⟩
 rintro k st ⟨i,y,Γ,rfl,cQ,aq,af,aS,hw,zb⟩
 by_cases ab:i<vs.length
 · have ad:i<items.length:=by omega
   rcases aC with⟨rfl,rfl⟩|⟨fl,off,cp,rfl,ae,fp,aK,ao⟩
   · simp at ab
   have t1:=yQ sep items (i+1)
   have t2:=uk sep items ad
   have MC:=sc i ad
   have item:∀y cN,fN b h0 y cN->K y->cN.length+(items[i]).length<=1000000->∃a ax,Y (m+3) (.fn fy) (.int .i64 (Int.ofNat i)::iA) y=.ret (.str a) ax/\∃bY aB,Y (m+3) (.fn 44) [.ptr b 0,.str a] ax=.ret (.aQ [.int .i64 (Int.ofNat bY),.e1]) aB/\au aB (b+1) 0=some (.fn 97 [] (oR b))/\∃bE,Y (m+3) (.fn 97) (vs[i]::oR b) aB=.ret (.aQ []) bE/\∃z bS,Y (m+3) (.fn fz) (.int .i64 (Int.ofNat i)::iB) bE=.ret (.str z) bS/\∃eb dC,Y (m+3) (.fn 44) [.ptr b 0,.str z] bS=.ret (.aQ [.int .i64 (Int.ofNat eb),.e1]) dC/\fN b h0 dC (cN++items[i])/\h2 b y dC:=by
    intro y cN MD F3 iw
    rw[MC] at iw
    simp only[List.length_append] at iw
    obtain⟨aB,du,ed,eb⟩:=MD.ws m (A i) (by omega)
    obtain⟨bE,gW,ja,gO⟩:=tv i ab aB _ ed (dk _ _ F3 eb) (by simp;omega)
    have Yg:=dk _ _ (dk _ _ F3 eb) gO
    obtain⟨dC,zc,nP,im⟩:=ja.ws m (Z i) (by simp;omega)
    refine⟨A i,y,jZ i y _ ab MD F3,_,aB,du,aV ed.one rfl,bE,gW,Z i,bE,p1 i bE _ ab ja Yg,_,dC,zc,?_,(eb.trans gO).trans im⟩
    rw[MC]
    simpa only[List.append_assoc] using nP
   have c6:∀dC,fN b h0 dC (w++d_ sep (items.take (i+1)))->h2 b y dC->(dV (λs=>∃j,j<k/\(λk st=>∃i y Γ,st=⟨Γ,[],.none,y⟩/\b_ [(1,.str sep),(2,.fn fy [] iA),(3,.fn fz [] iB),(4,.ptr b 0),(5,.ptr (b+1) 0),(12,.slice fl off vs.length cp),(13,.int .i64 (Int.ofNat vs.length)),(14,.int .i64 (Int.ofNat i))] Γ/\vs.length-i=k/\i<=vs.length/\fN b h0 y (w++d_ sep (items.take i))/\h2 b x y/\K y) j s) (λb9 cj=>∃(g:J) (cq:Env),b9=.exit 0/\cj=⟨cq,[],.none,g⟩/\b_ [] cq/\∃y,av.ret (.aQ []) g=.ret (.aQ []) y/\fN b h0 y (w++d_ sep items)/\h2 b x y)) .nrm ⟨[(1,.str sep),(2,.fn fy [] iA),(3,.fn fz [] iB),(4,.ptr b 0),(5,.ptr (b+1) 0),(12,.slice fl off vs.length cp),(13,.int .i64 (Int.ofNat vs.length)),(14,.int .i64 (Int.ofNat (i+1)))],[],.none,dC⟩:=λdC nP im=>
    ⟨_,(by show vs.length-(i+1)<k;omega),i+1,dC,_,rfl,⟨rfl,rfl,rfl,rfl,rfl,rfl,rfl,rfl,trivial⟩,rfl,by omega,nP,hw.trans im,dk _ _ zb im⟩
   refine a3.pre (X9 (Y (m+3)) sep fy fz b (b+1) fl off _ i 97 cp iA iB (oR b) y ⟨λ_=>⟨ab,_,iZ aS.ext ae (fp i ab),λxN=>?_,λxN=>?_⟩,λak=>absurd ab ak⟩) cQ rfl rfl rfl
   · rw[if_pos xN] at t2
     rw[t2] at t1
     simp only[List.length_append] at t1
     obtain⟨ai,aH,bo,bH⟩:=aS.ws m sep (by simp;omega)
     obtain⟨a,ax,a9,bY,aB,du,gW,bE,n0,z,bS,zc,eb,dC,F4,nP,bh⟩:=item ai _ bo (dk _ _ zb bH) (by simp;omega)
     exact⟨_,_,ai,aH,a,ax,a9,bY,_,aB,du,gW,bE,n0,z,bS,zc,eb,_,dC,F4,by omega,c6 dC (by rw[t2];simpa only[List.append_assoc] using nP) (bH.trans bh)⟩
   · rw[if_neg xN] at t2
     rw[t2] at t1
     have c9:items.take i=[]:=by rw[show i=0 by omega];rfl
     rw[c9] at aS
     obtain⟨a,ax,a9,bY,aB,du,gW,bE,n0,z,bS,zc,eb,dC,F4,nP,bh⟩:=item y _ aS zb (by simp[d_];omega)
     exact⟨a,ax,a9,bY,_,aB,du,gW,bE,n0,z,bS,zc,eb,_,dC,F4,by omega,c6 dC (by rw[t2];simpa[d_] using nP) bh⟩
 · refine a3.pre (X_ (Y (m+3)) sep fy fz b (b+1) vs.length i iA iB v y ⟨ab,y,_,rfl,rfl,trivial,y,rfl,?_,hw⟩) cQ rfl rfl rfl
   rw[List.take_of_length_le (by omega)] at aS
   exact aS
end Go.Proofs.cG
namespace Go.Proofs.cG
open Go aP Go.Proofs c8
set_option maxRecDepth 100000
set_option maxHeartbeats 1000000
theorem Yh{k:Nat}(ab:1<=k)(bJ:k<=5):iQ Tryz.prog 9 [.str [],.str [97,110,121],.str [105,110,116],.str [98,111,111,108],.str [115,116,114],.str [110,105,108]] (k*1)=some (.str (word k)):=by
 have:k=1\/k=2\/k=3\/k=4\/k=5:=by omega
 rcases this with rfl|rfl|rfl|rfl|rfl<;>rfl
theorem ME{a b c:a5}:(a++b++c).length=a.length+b.length+c.length:=by simp;omega
theorem MF:∀(K:Nat) (t:aE),sz t<=K->ef t=true->sz t<=100->∀(m b:Nat) (h0:J) (v:I),2*sz t+6<=m->dJ b h0 t v->∀(x:J) (w:a5),fN b h0 x w->w.length+(wr t).length<=1000000->∃y,Y m (.fn 97) (v::oR b) x=.ret (.aQ []) y/\fN b h0 y (w++wr t)/\h2 b x y
 |0,t,dk,_,_,_,_,_,_,_,_,_,_,_,_=>by
  have:=sh t
  omega
 |K+1,.mk k nm ns xs rt,dk,uy,g3,m,b,h0,v,hm,aC,x,w,aa,aw=>by
  obtain⟨R,bL,bg,c2,vs,bh,aO,up,rfl,ad,ar,aG,bJ,cu,dg⟩:=aC
  have de:=yT _ uy
  rw[Mo] at uy
  simp only[Bool.and_eq_true,decide_eq_true_eq] at uy
  obtain⟨⟨bH,iO⟩,hC,iF,mj⟩:=uy
  rw[okW] at de
  simp only[Bool.and_eq_true,Bool.or_eq_true,decide_eq_true_eq] at de
  obtain⟨⟨⟨⟨⟨_,_⟩,oM⟩,qZ⟩,BL⟩,FF⟩:=de
  rw[mf] at dk g3 hm
  rw[sk] at aw
  obtain⟨m,rfl⟩:∃j,m=j+5:=⟨m-5,by omega⟩
  have fw:=dS.len cu
  have jm:=nU xs
  have jl:=vZ xs
  have h8:∀i (i2:i<xs.length),ef xs[i]=true:=λi i2=>yS iF (List.getElem_mem i2)
  have a7:∀(u:aE),sz u<=K->ef u=true->sz u<=100->∀(m b:Nat) (h0:J) (v:I),2*sz u+6<=m->dJ b h0 u v->∀(x:J) (w:a5),fN b h0 x w->w.length+(wr u).length<=1000000->∃y,Y m (.fn 97) (v::oR b) x=.ret (.aQ []) y/\fN b h0 y (w++wr u)/\h2 b x y:=MF K
  rw[sk]
  obtain⟨H,cl⟩:∃H,H=x.push (.cells [.ptr R 0] 35 .own 0 0):=⟨_,rfl⟩
  have dE:Ext x.n x H:=by rw[cl];exact Ext.push (Nat.le_refl _) _
  have lg:H.n=x.n+1:=by rw[cl];rfl
  have sw:H.get x.n=some (.cells [.ptr R 0] 35 .own 0 0):=by rw[cl];exact fo rfl
  obtain⟨sx,zd⟩:=aa.kQ dE
  have xz:=aa.n
  have oS:∀y s,fN b h0 y s->y.get R=some (.cells [.int .i64 (Int.ofNat k),.str nm,bL,bg,c2] 80 bh aO up):=λy s aS=>(aS.ext.get R ad).trans ar
  have sy:∀y,h2 b H y->y.get x.n=some (.cells [.ptr R 0] 35 .own 0 0):=λy k=>(k.own (by omega) (by omega) sw).2
  have B0:∀n y s,fN b h0 y s->fN b h0 (y.room n) s/\h2 b y (y.room n):=λn y s aS=>aS.kQ (Ext.room _ y n)
  have item:∀i (af:i<vs.length) y s,fN b h0 y s->s.length+(wn (cv xs) i).length<=1000000->∃z,Y (m+3) (.fn 97) (vs[i]::oR b) y=.ret (.aQ []) z/\fN b h0 z (s++wn (cv xs) i)/\h2 b y z:=λi af y s aS aw=>by
   have i2:i<xs.length:=by omega
   have a2:=oH (List.getElem_mem i2)
   rw[show wn (cv xs) i=wr xs[i] by simp[wn,jl,i2,v3 xs i i2]] at aw⊢
   exact a7 xs[i] (by omega) (h8 i i2) (by omega) (m+3) b h0 vs[i] (by omega) (dS.get cu i af i2) y s aS aw
  refine Yc (m+4) b (b+2) (b+3) (b+1) R k nm bg c2 x (R:=λr=>∃y,r=.ret (.aQ []) y/\fN b h0 y (w++c8.shape k nm ns (xs.map aE.k) (cv xs) (kL rt))/\h2 b x y) ?_
  rw[<-cl]
  refine⟨aV sw rfl,aV (oS H _ sx) rfl,λgI=>?_,λgI=>⟨λgx=>?_,λgx=>⟨λg4=>?_,λg4=>⟨λgJ=>?_,λgJ=>?_⟩⟩⟩⟩
  · subst gI
    have:(nm:a5).length<=161:=by
     have:lD nm=true:=by simpa[eT] using mj
     unfold lD at this
     simp only[Bool.and_eq_true,decide_eq_true_eq] at this
     exact this.1.2
    obtain⟨y,c,F5,k⟩:=sx.ws (m+1) nm (by omega)
    exact⟨aV sw rfl,aV (oS H _ sx) rfl,_,_,y,c,y,rfl,F5,zd.trans k⟩
  · subst gx
    have la:xs.length=ns.length:=by rcases oM with oM|oM;exact absurd rfl oM;exact oM
    have hs:c8.shape 7 nm ns (xs.map aE.k) (cv xs) (kL rt)=[123]++d_ [44,32] (g0 ns (cv xs))++[125]:=rfl
    rw[hs] at aw⊢
    rw[ME] at aw
    simp only[List.length_cons,List.length_nil] at aw
    have jy:(g0 ns (cv xs)).length=vs.length:=by unfold g0;rw[List.length_zipWith];omega
    obtain⟨ai,aH,bo,bH⟩:=sx.ws (m+1) [123] (by simp;omega)
    obtain⟨hW,wy⟩:=B0 8 ai _ bo
    have uz:=bH.trans wy
    obtain⟨ax,a9,bG,bY⟩:=F2 m (v:=bg) (vs:=vs) [44,32] 98 96 [.ptr x.n 0] [] (λi=>wn ns i++[58,32]) (wn (cv xs)) (λ_=>[]) (g0 ns (cv xs)) (λy=>h2 b H y) (λ_ _ k ej=>k.trans ej) bJ (by omega) jy (λi af=>by
      have i1:i<ns.length:=by omega
      have i2:i<(cv xs).length:=by omega
      rw[FE af i1 i2];simp[wn,i1,i2]) (λi y s af aS aq=>by
      have i1:i<ns.length:=by omega
      rcases aG.strs with⟨_,rfl⟩|⟨nb,off,cp,rfl,ae,fp⟩
      · simp at i1
      refine Ya (m+2) i x.n y (R:=λr=>r=_) ⟨R,aV (sy y aq) rfl,nb,off,_,cp,aV (oS y s aS) rfl,i1,ns[i],iZ aS.ext ae (fp i i1),?_,?_⟩
      · have t2:=um [44,32] (g0 ns (cv xs)) (i:=i) (by omega)
        rw[FE (by omega) i1 (by omega)] at t2
        simp at t2⊢;omega
      · simp[wn,i1])
     (λi y s af aS aq=>F0 (m+2) i y (R:=λr=>r=_) rfl) (λi af y s aS aq aw=>item i af y s aS aw) hW uz (by simp;omega)
    obtain⟨aB,du,ed,eb⟩:=bG.ws (m+1) [125] (by simp;omega)
    refine⟨_,_,ai,aH,aV hW.wx rfl,aV (sy _ uz) rfl,aV (oS _ _ hW) rfl,aV hW.oy rfl,ax,a9,bJ.snd,_,_,aB,du,aB,rfl,by simpa only[List.append_assoc] using ed,zd.trans (uz.trans (bY.trans eb))⟩
  · subst g4
    have hs:c8.shape 8 nm ns (xs.map aE.k) (cv xs) (kL rt)=[102,110,40]++d_ [44,32] (cv xs)++[41,32,45,62,32]++kL rt:=rfl
    rw[hs] at aw⊢
    rw[List.length_append,ME] at aw
    simp only[List.length_cons,List.length_nil] at aw
    obtain⟨ai,aH,bo,bH⟩:=sx.ws (m+1) [102,110,40] (by simp;omega)
    obtain⟨hW,wy⟩:=B0 8 ai _ bo
    have uz:=bH.trans wy
    obtain⟨ax,a9,bG,bY⟩:=F2 m (v:=bg) (vs:=vs) [44,32] 96 96 [] [] (λ_=>[]) (wn (cv xs)) (λ_=>[]) (cv xs) (λy=>h2 b H y) (λ_ _ k ej=>k.trans ej) bJ (by omega) (by omega) (λi af=>by simp[wn,af]) (λi y s af aS aq=>F0 (m+2) i y (R:=λr=>r=_) rfl)
     (λi y s af aS aq=>F0 (m+2) i y (R:=λr=>r=_) rfl) (λi af y s aS aq aw=>item i af y s aS aw) hW uz (by simp;omega)
    obtain⟨aB,du,ed,eb⟩:=bG.ws (m+1) [41,32,45,62,32] (by simp;omega)
    obtain⟨F6,Yi⟩:=B0 6 aB _ ed
    have MG:=uz.trans (bY.trans (eb.trans Yi))
    cases rt with
    |none=>rcases qZ with qZ|qZ<;>simp at qZ
    |some u=>
     rw[ld] at dk g3 hm
     have BO:kL (some u)=wr u:=by rw[kL]
     rw[BO] at aw⊢
     have Yj:ef u=true:=by simpa[eT,ix] using mj
     obtain⟨bE,gW,ja,gO⟩:=a7 u (by omega) Yj (by omega) (m+4) b h0 c2 (by omega) dg (aB.room 6) _ F6 (by simp;omega)
     exact⟨_,_,ai,aH,aV hW.wx rfl,aV (sy _ uz) rfl,aV (oS _ _ hW) rfl,aV hW.oy rfl,aV hW.oy rfl,ax,a9,bJ.snd,_,_,aB,du,aV F6.one rfl,aV (sy _ MG) rfl,aV (oS _ _ F6) rfl,bE,gW,ez.snd (ot:=some u) dg,bE,rfl,by simpa only[List.append_assoc] using ja,zd.trans (MG.trans gO)⟩
  · subst gJ
    have hs:c8.shape 9 nm ns (xs.map aE.k) (cv xs) (kL rt)=d_ [32,124,32] (hI (xs.map aE.k) (cv xs)):=rfl
    rw[hs] at aw⊢
    have jy:(hI (xs.map aE.k) (cv xs)).length=vs.length:=by unfold hI;rw[List.length_zipWith,List.length_map];omega
    obtain⟨hW,wy⟩:=B0 10 H _ sx
    obtain⟨ai,dZ⟩:∃g,g=(H.room 10).push (.cells [.str [40]] 9 .own 0 0):=⟨_,rfl⟩
    obtain⟨ax,sg⟩:∃g,g=ai.push (.cells [.str [41]] 9 .own 0 0):=⟨_,rfl⟩
    have aD:ai.n=(H.room 10).n+1:=by rw[dZ];rfl
    have bj:ax.n=ai.n+1:=by rw[sg];rfl
    have bC:Ext (H.room 10).n (H.room 10) ai:=by rw[dZ];exact Ext.push (Nat.le_refl _) _
    have c0:Ext ai.n ai ax:=by rw[sg];exact Ext.push (Nat.le_refl _) _
    obtain⟨bo,bH⟩:=hW.kQ bC
    obtain⟨bG,bY⟩:=bo.kQ c0
    have a8:ax.get (H.room 10).n=some (.cells [.str [40]] 9 .own 0 0):=(c0.get _ (by omega)).trans (by rw[dZ];exact fo rfl)
    have a6:ax.get ai.n=some (.cells [.str [41]] 9 .own 0 0):=by rw[sg];exact fo rfl
    have wz:=hW.n
    have MH:=wy.trans bH
    have F7:=MH.trans bY
    have yZ:∀i (af:i<vs.length),∃M,vs[i]=.ptr M 0/\∀y,Ext b h0 y->au y M (0+0)=some (.int .i64 (Int.ofNat ((xs.map aE.k)[i]?.getD 0))):=λi af=>by
     have i2:i<xs.length:=by omega
     obtain⟨M,g1,qY⟩:=(dS.get cu i af i2).kind
     exact⟨M,g1,λy e=>by rw[qY y e];simp[i2]⟩
    have j5:∀(q:Nat) (mk:a5),(∀y,h2 b ax y->y.get q=some (.cells [.str mk] 9 .own 0 0))->∀i y s,i<vs.length->fN b h0 y s->h2 b ax y->Y (m+3) (.fn 100) [.int .i64 (Int.ofNat i),.ptr x.n 0,.ptr q 0] y=.ret (.str (if(xs.map aE.k)[i]?.getD 0=8 then mk else[])) y:=λq mk aM i y s af aS aq=>by
     obtain⟨M,g1,qY⟩:=yZ i af
     rcases bJ with⟨_,rfl⟩|⟨fl,off,cp,rfl,ae,fp,_⟩
     · simp at af
     have aA:=fp i af
     rw[g1] at aA
     refine Yb (m+2) i x.n q y (R:=λr=>r=_) ⟨R,aV (sy y (F7.trans aq)) rfl,fl,off,_,cp,aV (oS y s aS) rfl,af,M,iZ aS.ext ae aA,_,qY y aS.ext,λe=>⟨mk,aV (aM y aq) rfl,by rw[if_pos e]⟩,λe=>by rw[if_neg e]⟩
    obtain⟨aB,du,ed,eb⟩:=F2 m (v:=bg) (vs:=vs) [32,124,32] 100 100 [.ptr x.n 0,.ptr (H.room 10).n 0] [.ptr x.n 0,.ptr ai.n 0] (λi=>if(xs.map aE.k)[i]?.getD 0=8 then[40] else[]) (wn (cv xs)) (λi=>if(xs.map aE.k)[i]?.getD 0=8 then[41] else[]) (hI (xs.map aE.k) (cv xs)) (λy=>h2 b ax y) (λ_ _ k ej=>k.trans ej) bJ (by omega) jy (λi af=>by
      have i1:i<(xs.map aE.k).length:=by rw[List.length_map];omega
      have i2:i<(cv xs).length:=by omega
      rw[LO af i1 i2,show(xs.map aE.k)[i]?.getD 0=(xs.map aE.k)[i] by rw[List.getElem?_eq_getElem i1];rfl,show wn (cv xs) i=(cv xs)[i] by simp[wn,i2]]
      split<;>simp)
     (j5 _ [40] (λy k=>(k.own (by omega) (by omega) a8).2)) (j5 _ [41] (λy k=>(k.own (by omega) (by omega) a6).2)) (λi af y s aS aq aw=>item i af y s aS aw) bG (mV.refl _ _ _ _) (by omega)
    refine⟨aV hW.wx rfl,aV (sy _ wy) rfl,aV (oS _ _ hW) rfl,_,ai,Mw (m+3) [40] x.n (H.room 10) (R:=λr=>r=_) (by rw[<-dZ]),_,ax,Mw (m+3) [41] x.n ai (R:=λr=>r=_) (by rw[<-sg]),aB,du,aV bG.wx rfl,aV bo.wx rfl,aV (sy _ F7) rfl,aV (sy _ MH) rfl,bJ.snd,aV (oS _ _ bG) rfl,aV (oS _ _ bo) rfl,aB,rfl,ed,zd.trans (F7.trans eb)⟩
  · have hs:c8.shape k nm ns (xs.map aE.k) (cv xs) (kL rt)=word k:=by
      unfold c8.shape
      rw[if_neg gI,if_neg gx,if_neg g4,if_neg gJ]
    rw[hs] at aw⊢
    obtain⟨y,c,F5,zb⟩:=sx.ws (m+1) (word k) (by omega)
    exact⟨aV sw rfl,aV (oS H _ sx) rfl,word k,⟨by omega,Yh bH (by omega)⟩,_,_,y,c,y,rfl,F5,zd.trans zb⟩
theorem Yk:Mp:=λu uy g3 m B h v hm cM aC=>by
 obtain⟨m,rfl⟩:∃j,m=j+2:=⟨m-2,by omega⟩
 have jl:=v5 u uy
 obtain⟨R,rfl⟩:∃R,v=.ptr R 0:=by
  cases u with
  |mk bH bY eb gO ho=>obtain⟨R,_,_,_,_,_,_,_,rfl,_⟩:=aC;exact⟨R,rfl⟩
 refine Yd (m+1) R h ?_
 obtain⟨eF,oL⟩:∃p,p=h.push (.cells [.bb,.a0] 92 .own 0 0):=⟨_,rfl⟩
 obtain⟨fs,nX⟩:∃p,p=eF.push (.cells [.fR] 133 .own 0 0):=⟨_,rfl⟩
 obtain⟨jk,wA⟩:∃p,p=fs.push (.cells [.fR] 135 .own 0 0):=⟨_,rfl⟩
 rw[<-oL,<-nX,<-wA]
 have aD:eF.n=h.n+1:=by rw[oL];rfl
 have bj:fs.n=h.n+2:=by rw[nX];show eF.n+1=_;omega
 have bD:jk.n=h.n+3:=by rw[wA];show fs.n+1=_;omega
 rw[aD,bj]
 obtain⟨lp,B1⟩:∃p,p=jk.set (h.n+2) (some (.cells [.fn 95 [] [.ptr h.n 0,.ptr (h.n+1) 0]] 135 .own 0 0)):=⟨_,rfl⟩
 have bT:lp.n=h.n+3:=by rw[B1];exact bD
 have st1:aP.storeCells jk (h.n+2) 0 [.fn 95 [] [.ptr h.n 0,.ptr (h.n+1) 0]]=some lp:=by
  rw[B1];exact gS (cs:=[.fR]) (by rw[wA];exact fo bj.symm) rfl rfl
 obtain⟨p2,ze⟩:∃p,p=lp.push (.cells [.fR] 134 .own 0 0):=⟨_,rfl⟩
 obtain⟨wB,zf⟩:∃p,p=p2.set (h.n+3) (some (.cells [.fn 96 [] []] 134 .own 0 0)):=⟨_,rfl⟩
 have cx:wB.n=h.n+4:=by rw[zf];show p2.n=_;rw[ze];show lp.n+1=_;omega
 have kC:aP.storeCells p2 (h.n+3) 0 [.fn 96 [] []]=some wB:=by
  rw[zf];exact gS (cs:=[.fR]) (by rw[ze];exact fo bT.symm) rfl rfl
 have bS:∀d,d≠h.n+2->d<h.n+3->wB.get d=jk.get d:=λd ab ad=>by
  rw[zf,J.cV,if_neg (by omega),ze,J.gp,if_neg (by omega),B1,J.cV,if_neg ab]
 have a6:jk.get (h.n+1)=some (.cells [.fR] 133 .own 0 0):=by
  rw[wA,J.gp,if_neg (by omega),nX];exact fo aD.symm
 have a8:jk.get h.n=some (.cells [.bb,.a0] 92 .own 0 0):=by
  rw[wA,J.gp,if_neg (by omega),nX,J.gp,if_neg (by omega),oL];exact fo rfl
 obtain⟨wC,sA⟩:∃p,p=wB.set (h.n+1) (some (.cells [.fn 97 [] (oR h.n)] 133 .own 0 0)):=⟨_,rfl⟩
 have F8:aP.storeCells wB (h.n+1) 0 [.fn 97 [] (oR h.n)]=some wC:=by
  rw[sA];exact gS (cs:=[.fR]) ((bS _ (by omega) (by omega)).trans a6) rfl rfl
 have da:wC.n=h.n+4:=by rw[sA];exact cx
 have gx:Ext h.n h wC:=⟨by omega,λd ao=>by
  rw[sA,J.cV,if_neg (by omega),bS d (by omega) (by omega),wA,J.gp,if_neg (by omega),nX,J.gp,if_neg (by omega),oL,J.gp,if_neg (by omega)]⟩
 have box:fN h.n h wC []:=by
  refine⟨⟨.bb,.a0,?_,.inl rfl,.inl ⟨rfl,rfl⟩,by omega,by omega,λ_=>rfl⟩,?_,?_,?_,gx⟩
  · rw[sA,J.cV,if_neg (by omega),bS _ (by omega) (by omega)];exact a8
  · rw[sA];exact gR rfl
  · rw[sA,J.cV,if_neg (by omega),zf,J.cV,if_neg (by omega),ze,J.gp,if_neg (by omega),B1];exact gR rfl
  · rw[sA,J.cV,if_neg (by omega),zf];exact gR rfl
 obtain⟨y,aH,bo,bH⟩:=MF (sz u) u (Nat.le_refl _) uy g3 (m+1) h.n h (.ptr R 0) (by omega) (dJ.le cM _ _ aC) wC [] box (by simp;omega)
 rw[List.nil_append] at bo
 obtain⟨z,a9,c0⟩:=MA m h.n (h.n+4) y (wr u) bo.BZ (by omega)
 refine⟨lp,st1,wB,?_,wC,?_,oR h.n,?_,y,aH,wr u,z,a9,cP.mk ⟨?_,λd ao=>?_⟩⟩
 · rw[bT,<-ze];exact kC
 · rw[bT];exact F8
 · rw[sA];exact aV (gR rfl) rfl
 · have:=bH.x.n;have:=c0.n;omega
 · rw[c0.get d (by omega),bH.x.get d (by omega) (by omega),gx.get d (by omega)]
theorem Yl{ot:Option aE}{B:Nat}{h:J}{v:I}(m:Nat)(g3:dq ot<=90000)(aN:∀t,ot=some t->lf t<=90000)(hm:4*dq ot+20<=m)(cM:B<=h.n)(aC:ez B h ot v):
  cP B h (.int .i64 (Int.ofNat (dm ot))) (Y (m+1) (.fn 25) [v] h):=by
 cases ot with
 |none=>
  obtain rfl:v=.bb:=aC
  exact XJ m h (cP.mk (Ext.refl _ _))
 |some t=>
  have bx:dq (some t)=sz t:=ld t
  obtain⟨R,rfl⟩:∃R,v=.ptr R 0:=by
   cases t with
   |mk bH bY eb gO ho=>obtain⟨R,_,_,_,_,_,_,_,rfl,_⟩:=aC;exact⟨R,rfl⟩
  obtain⟨m,rfl⟩:∃j,m=j+1:=⟨m-1,by omega⟩
  obtain⟨ai,aH,bC⟩:=LB (m-1) g3 cM aC (by omega)
  replace bC:=bC.le cM
  rw[show m-1+2=m+1 by omega] at aH
  rw[bx] at aH g3 hm
  refine XI (m+1) R h ⟨_,ai,aH,λpU=>?_,λpU=>?_⟩
  · exact cP.of (by rw[dm,if_pos (by omega)]) bC
  · obtain⟨ax,a9,c0⟩:=Mq Yk (sz t) t (Nat.le_refl _) (by omega) (aN t rfl) (m+1) B ai (.ptr R 0) (by omega) (Nat.le_trans cM bC.n) (dJ.b8 (gU.ext bC (Nat.le_refl _)) _ _ aC)
    have n1:=bC.trans (Nat.le_refl _) c0
    refine⟨_,ax,a9,λae=>?_,λae=>?_⟩
    · have:ef t=true:=by simpa using ae
      exact cP.of (by rw[dm,if_neg (by omega),if_pos this]) n1
    · have:ef t=false:=by simpa using ae
      exact cP.of (by rw[dm,if_neg (by omega),if_neg (by rw[this];simp)]) n1
end Go.Proofs.cG
