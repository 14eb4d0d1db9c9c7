/-
  PROVED HERE: contracts of functions (Dg). No condition beside each statement's own.
-/
import Derived.Test.YtfooahfebojldaaGreatDoorDf
import Derived.Test.YtfooahfebojldaaGreatDoorTx
set_option linter.unusedVariables false
set_option linter.unusedSimpArgs false
namespace Go.Proofs.cR
open Go aD Go.Proofs dE
set_option maxRecDepth 100000
set_option maxHeartbeats 1000000
theorem Wh(m:Nat)(r:Nat)(h:J){R:an->Prop}(H:∃aQ:Nat,aq h r (0+0)=some (.int .i64 (.ofNat aQ))/\∃s1:List UInt8,aq h r (0+1)=some (.str s1)/\(cg s1 []=true->∃v1:I,aq h r (0+2)=some v1/\∃bI:Nat,bU Tryz.prog h 48 v1=some (.int .i64 (.ofNat bI))/\(bI=0->∃v2:I,aq h r (0+3)=some v2/\∃cr:Nat,bU Tryz.prog h 49 v2=some (.int .i64 (.ofNat cr))/\(cr=0->∃cF:Nat,aq h r (0+4)=some (.ptr cF 0)/\R (.ret (.bool (ei true (a7 (.ofNat aQ) (.ofNat 8)))) h))/\(¬cr=0->(7<=aQ->∃dc:Nat,aq h r (0+4)=some (.ptr dc 0)/\R (.ret (.bool (ei true (a7 (.ofNat aQ) (.ofNat 8)))) h))/\(¬7<=aQ->R (.ret (.bool false) h))))/\(¬bI=0->(aQ=7->∃cX:I,aq h r (0+3)=some cX/\∃dk:Nat,bU Tryz.prog h 49 cX=some (.int .i64 (.ofNat dk))/\(dk=0->∃eM:Nat,aq h r (0+4)=some (.ptr eM 0)/\R (.ret (.bool (ei true (a7 (.ofNat aQ) (.ofNat 8)))) h))/\(¬dk=0->(7<=aQ->∃g9:Nat,aq h r (0+4)=some (.ptr g9 0)/\R (.ret (.bool (ei true (a7 (.ofNat aQ) (.ofNat 8)))) h))/\(¬7<=aQ->R (.ret (.bool false) h))))/\(¬aQ=7->R (.ret (.bool false) h))))/\(cg s1 []=false->(aQ=6->∃v4:I,aq h r (0+2)=some v4/\∃gW:Nat,bU Tryz.prog h 48 v4=some (.int .i64 (.ofNat gW))/\(gW=0->∃gx:I,aq h r (0+3)=some gx/\∃gM:Nat,bU Tryz.prog h 49 gx=some (.int .i64 (.ofNat gM))/\(gM=0->∃iu:Nat,aq h r (0+4)=some (.ptr iu 0)/\R (.ret (.bool (ei true (a7 (.ofNat aQ) (.ofNat 8)))) h))/\(¬gM=0->(7<=aQ->∃km:Nat,aq h r (0+4)=some (.ptr km 0)/\R (.ret (.bool (ei true (a7 (.ofNat aQ) (.ofNat 8)))) h))/\(¬7<=aQ->R (.ret (.bool false) h))))/\(¬gW=0->(aQ=7->∃v6:I,aq h r (0+3)=some v6/\∃jZ:Nat,bU Tryz.prog h 49 v6=some (.int .i64 (.ofNat jZ))/\(jZ=0->∃lW:Nat,aq h r (0+4)=some (.ptr lW 0)/\R (.ret (.bool (ei true (a7 (.ofNat aQ) (.ofNat 8)))) h))/\(¬jZ=0->(7<=aQ->∃kJ:Nat,aq h r (0+4)=some (.ptr kJ 0)/\R (.ret (.bool (ei true (a7 (.ofNat aQ) (.ofNat 8)))) h))/\(¬7<=aQ->R (.ret (.bool false) h))))/\(¬aQ=7->R (.ret (.bool false) h))))/\(¬aQ=6->R (.ret (.bool false) h)))):
  R (Y (m+1) (.fn 101) [.ptr r 0] h):=
 dF (intr:=bT) [] [(0,.v (.ptr r 0))] Tryz.func101 (by kernel_rfl) (by kernel_rfl) (by kernel_rfl) rfl (Eq.mp (by kernel_rfl) H)
theorem Wi(m:Nat)(r:Nat)(h:J){R:an->Prop}(H:∃aQ:Nat,aq h r (0+0)=some (.int .i64 (.ofNat aQ))/\∃s1:List UInt8,aq h r (0+1)=some (.str s1)/\(cg s1 []=true->∃v1:I,aq h r (0+2)=some v1/\∃bI:Nat,bU Tryz.prog h 48 v1=some (.int .i64 (.ofNat bI))/\(bI=0->∃v2:I,aq h r (0+3)=some v2/\∃cr:Nat,bU Tryz.prog h 49 v2=some (.int .i64 (.ofNat cr))/\(cr=0->aq h r (0+4)=some .aR/\R (.ret (.bool (ei false (a7 (.ofNat aQ) (.ofNat 8)))) h))/\(¬cr=0->(7<=aQ->aq h r (0+4)=some .aR/\R (.ret (.bool (ei false (a7 (.ofNat aQ) (.ofNat 8)))) h))/\(¬7<=aQ->R (.ret (.bool false) h))))/\(¬bI=0->(aQ=7->∃cX:I,aq h r (0+3)=some cX/\∃cF:Nat,bU Tryz.prog h 49 cX=some (.int .i64 (.ofNat cF))/\(cF=0->aq h r (0+4)=some .aR/\R (.ret (.bool (ei false (a7 (.ofNat aQ) (.ofNat 8)))) h))/\(¬cF=0->(7<=aQ->aq h r (0+4)=some .aR/\R (.ret (.bool (ei false (a7 (.ofNat aQ) (.ofNat 8)))) h))/\(¬7<=aQ->R (.ret (.bool false) h))))/\(¬aQ=7->R (.ret (.bool false) h))))/\(cg s1 []=false->(aQ=6->∃v4:I,aq h r (0+2)=some v4/\∃dc:Nat,bU Tryz.prog h 48 v4=some (.int .i64 (.ofNat dc))/\(dc=0->∃gx:I,aq h r (0+3)=some gx/\∃dk:Nat,bU Tryz.prog h 49 gx=some (.int .i64 (.ofNat dk))/\(dk=0->aq h r (0+4)=some .aR/\R (.ret (.bool (ei false (a7 (.ofNat aQ) (.ofNat 8)))) h))/\(¬dk=0->(7<=aQ->aq h r (0+4)=some .aR/\R (.ret (.bool (ei false (a7 (.ofNat aQ) (.ofNat 8)))) h))/\(¬7<=aQ->R (.ret (.bool false) h))))/\(¬dc=0->(aQ=7->∃v6:I,aq h r (0+3)=some v6/\∃eM:Nat,bU Tryz.prog h 49 v6=some (.int .i64 (.ofNat eM))/\(eM=0->aq h r (0+4)=some .aR/\R (.ret (.bool (ei false (a7 (.ofNat aQ) (.ofNat 8)))) h))/\(¬eM=0->(7<=aQ->aq h r (0+4)=some .aR/\R (.ret (.bool (ei false (a7 (.ofNat aQ) (.ofNat 8)))) h))/\(¬7<=aQ->R (.ret (.bool false) h))))/\(¬aQ=7->R (.ret (.bool false) h))))/\(¬aQ=6->R (.ret (.bool false) h)))):
  R (Y (m+1) (.fn 101) [.ptr r 0] h):=
 dF (intr:=bT) [(45,.b2 (.is .aR))] [(0,.v (.ptr r 0))] Tryz.func101 (by kernel_rfl) (by kernel_rfl) (by kernel_rfl) rfl (Eq.mp (by kernel_rfl) H)
theorem Wj(m:Nat)(r:Nat)(h:J){R:an->Prop}(H:∃aQ:Nat,aq h r (0+0)=some (.int .i64 (.ofNat aQ))/\(aQ<1->R (.ret (.bool false) h))/\(¬aQ<1->∃bI:Nat,aq h r (0+0)=some (.int .i64 (.ofNat bI))/\(9<bI->R (.ret (.bool false) h))/\(¬9<bI->∃a8:Bool,∃ao:J,(Y m) (.fn 101) [.ptr r 0] h=.ret (.bool a8) ao/\(a8=true->∃v1:I,aq ao r (0+3)=some v1/\∃aI:Bool,∃ar:J,(Y m) (.fn 103) [v1,.fn 102 [] []] ao=.ret (.bool aI) ar/\(aI=true->R (.ret (.bool false) ar))/\(aI=false->∃cr:Nat,aq ar r (0+0)=some (.int .i64 (.ofNat cr))/\(cr=6->∃s1:List UInt8,aq ar r (0+1)=some (.str s1)/\∃cK:Bool,∃aZ:J,(Y m) (.fn 104) [.str s1,.str [45,47,46],.int .i64 (.ofNat 161)] ar=.ret (.bool cK) aZ/\R (.ret (.bool cK) aZ))/\(¬cr=6->(cr=7->∃v2:I,aq (ar.room 27) r (0+2)=some v2/\∃cF:Nat,bU Tryz.prog (ar.room 27) 48 v2=some (.int .i64 (.ofNat cF))/\∃cX:I,aq (ar.room 27) r (0+3)=some cX/\∃dc:Nat,bU Tryz.prog (ar.room 27) 49 cX=some (.int .i64 (.ofNat dc))/\(cF=dc->∃v4:I,aq (ar.room 27) r (0+2)=some v4/\∃jv:Bool,∃ch:J,(Y m) (.fn 105) [v4,.fn 106 [] []] (ar.room 27)=.ret (.bool jv) ch/\(jv=true->I.sound v2=true/\I.sound cX=true/\I.sound v4=true/\R (.ret (.bool false) ch))/\(jv=false->∃gx:I,aq ch r (0+2)=some gx/\∃s5:Bool,∃dQ:J,(Y m) (.fn 108) [gx,.fn 109 [] []] ch=.ret (.bool s5) dQ/\I.sound v2=true/\I.sound cX=true/\I.sound v4=true/\I.sound gx=true/\R (.ret (.bool s5) dQ)))/\(¬cF=dc->I.sound v2=true/\I.sound cX=true/\R (.ret (.bool false) (ar.room 27))))/\(¬cr=7->(cr=8->∃v6:I,aq ar r (0+4)=some v6/\∃kH:Bool,∃eS:J,(Y m) (.fn 90) [v6] ar=.ret (.bool kH) eS/\R (.ret (.bool kH) eS))/\(¬cr=8->(cr=9->∃nn:I,aq ar r (0+3)=some nn/\∃dk:Nat,bU Tryz.prog ar 49 nn=some (.int .i64 (.ofNat dk))/\(2<=dk->∃np:I,aq ar r (0+3)=some np/\∃u9:Bool,∃gA:J,(Y m) (.fn 103) [np,.fn 110 [] []] ar=.ret (.bool u9) gA/\(u9=true->R (.ret (.bool false) gA))/\(u9=false->∃u_:I,aq gA r (0+3)=some u_/\∃va:Bool,∃hM:J,(Y m) (.fn 111) [u_,.fn 112 [] []] gA=.ret (.bool va) hM/\R (.ret (.bool va) hM)))/\(¬2<=dk->R (.ret (.bool false) ar)))/\(¬cr=9->R (.ret (.bool true) ar)))))))/\(a8=false->R (.ret (.bool false) ao))))):
  R (Y (m+1) (.fn 90) [.ptr r 0] h):=
 dF (intr:=bT) [(76,.b2 .o)] [(0,.v (.ptr r 0))] Tryz.func90 (by kernel_rfl) (by kernel_rfl) (by kernel_rfl) rfl (Eq.mp (by kernel_rfl) H)
def lb:aU:=[48,49,50,51,52,53,54,55,56,57]
theorem Wk:((List.range 256).all λn=>dn (Int.ofNat 0) (nz n lb 0)==iq n)=true:=by decide
theorem Wl(c:UInt8):dn (Int.ofNat 0) (nz c.toNat lb 0)=iq c.toNat:=by
 have:=List.all_eq_true.1 Wk c.toNat (by rw[List.mem_range];exact UInt8.toNat_lt c)
 simpa using this
theorem Wm(n:Nat)(s:aU)(c:Nat)(h:J)(ah:c<256):Y (n+1) (.fn 161) [.str s,.int .u8 (Int.ofNat c)] h=.ret (.int .i64 (nz c s 0)) h:=by
 have af:Nat.blt c 256=true:=by simpa[Nat.blt_eq] using ah
 have ae:bT 161 [.str s,.int .u8 (Int.ofNat c)] h=none:=by kernel_rfl
 have sJ:Tryz.f161.body=none:=by rfl
 have ab:tP Tryz.prog Tryz.f161 Tryz.f161.name [.str s,.int .u8 (Int.ofNat c)] h=some (.int .i64 (nz c s 0),h):=by
  have aK:Tryz.f161.name= "internal/bytealg.IndexByteString" :=by rfl
  simp only[tP,aK,if_true,af]
 simp only[Y,fD,ae,qt,Tryz.func161,sJ,ab]
theorem Wn(m:Nat)(c:UInt8)(h:J):Y (m+5) (.fn 118) [.str lb,.str [c]] h=.ret (.bool (iq c.toNat)) h:=by
 rw[<-Wl]
 have c1:Y (m+2) (.fn 155) [.str lb,.int .u8 (Int.ofNat c.toNat)] h=.ret (.int .i64 (nz c.toNat lb 0)) h:=
  Vp (m+1) lb c.toNat h (R:=λx=>x=_) ⟨_,h,Wm m lb c.toNat h (UInt8.toNat_lt _),rfl⟩
 have c2:Y (m+3) (.fn 150) [.str lb,.str [c]] h=.ret (.int .i64 (nz c.toNat lb 0)) h:=
  Vo (m+2) lb c h (R:=λx=>x=_) ⟨by simp[oC,lb],by rfl,_,h,c1,rfl⟩
 have c3:Y (m+4) (.fn 144) [.str lb,.str [c]] h=.ret (.int .i64 (nz c.toNat lb 0)) h:=
  Vn (m+3) lb [c] h (R:=λx=>x=_) ⟨_,h,c2,rfl⟩
 exact Vm (m+4) lb [c] h (R:=λx=>x=_) ⟨_,h,c3,rfl⟩
theorem Wo(n:Nat):(g7 n&&iq n)=false:=by
 unfold g7 iq
 simp only[Bool.and_eq_false_iff,Bool.or_eq_false_iff,decide_eq_false_iff_not]
 omega
theorem Wp(m B:Nat)(s:aU)(h:J)(bO:B<=h.n):bK B h (.bool (hS s)) (Y (m+6) (.fn 107) [.str s] h):=by
 obtain⟨g,c1,bh⟩:=KE (m+1) B o5 s [] 24 h bO (by omega) (.inl ⟨rfl,rfl⟩)
 refine Vf (m+5) s h ⟨_,g,c1,λaf=>?_,λaf=>?_⟩
 · simp only[Bool.and_eq_true,decide_eq_true_eq] at af
   obtain⟨⟨aa,ad⟩,ax⟩:=af
   cases s with
   |nil=>simp at aa
   |cons c s=>
    refine⟨[c],Dr u6 (by simp),_,g,Wn m c g,bK.of (dK ?_) bh⟩
    have ah:o5 c.toNat=true:=by
     have:=List.all_eq_true.1 ax c (by simp)
     simpa using this
    have aG:=Wo c.toNat
    unfold hS
    have bN:(c::s).all (λc=>g7 c.toNat||iq c.toNat)=true:=ax
    rw[bN]
    have hw:(g7 c.toNat||iq c.toNat)=true:=ah
    simp only[Ef,aa,ad,decide_true,Bool.true_and,Bool.and_true]
    revert aG hw
    cases g7 c.toNat<;>cases iq c.toNat<;>simp
 · refine bK.of (dK ?_) bh
   unfold hS
   have bN:s.all (λc=>g7 c.toNat||iq c.toNat)=s.all (λc=>o5 c.toNat):=rfl
   rw[bN]
   revert af
   cases decide (1<=s.length)<;>cases decide (s.length<=24)<;>cases s.all (λc=>o5 c.toNat)<;>simp
def pb(k:Nat)(s:aU)(N M:Nat)(o:Bool):Bool:=((cg s []||decide (k=6))&&((decide (N=0)||decide (k=7))&&(decide (M=0)||decide (7<=k))))&&(o==decide (k=8))
theorem Wq(m:Nat){R:Nat}{h:J}{k:Nat}{s:aU}{cD bR cl:I}{bS:eC}{bf up N M:Nat}{o:Bool}(aj:h.get R=some (.cells [.int .i64 (Int.ofNat k),.str s,cD,bR,cl] 51 bS bf up))(aK:bU Tryz.prog h 48 cD=some (.int .i64 (Int.ofNat N)))(aE:bU Tryz.prog h 49 bR=some (.int .i64 (Int.ofNat M)))(bd:(cl=.aR/\o=false)\/(∃q,cl=.ptr q 0)/\o=true):
  Y (m+1) (.fn 101) [.ptr R 0] h=.ret (.bool (pb k s N M o)) h:=by
 have fP:=p9 k 8
 have fin:∀(b b':Bool),b=b'->(an.ret (.bool b) h=.ret (.bool b') h):=λb b' e=>by rw[e]
 rcases bd with⟨rfl,rfl⟩|⟨⟨q,rfl⟩,rfl⟩
 · refine Wi m R h (R:=λx=>x=.ret (.bool (pb k s N M false)) h) ⟨k,aH aj rfl,s,aH aj rfl,λaa=>⟨cD,aH aj rfl,N,aK,λad=>⟨bR,aH aj rfl,M,aE,λax=>⟨aH aj rfl,fin _ _ ?_⟩,λax=>⟨λaO=>⟨aH aj rfl,fin _ _ ?_⟩,λaO=>fin _ _ ?_⟩⟩,λad=>⟨λax=>⟨bR,aH aj rfl,M,aE,λaO=>⟨aH aj rfl,fin _ _ ?_⟩,λaO=>⟨λbZ=>⟨aH aj rfl,fin _ _ ?_⟩,λbZ=>fin _ _ ?_⟩⟩,λax=>fin _ _ ?_⟩⟩,λaa=>⟨λh0=>⟨cD,aH aj rfl,N,aK,λad=>⟨bR,aH aj rfl,M,aE,λax=>⟨aH aj rfl,fin _ _ ?_⟩,λax=>⟨λaO=>⟨aH aj rfl,fin _ _ ?_⟩,λaO=>fin _ _ ?_⟩⟩,λad=>⟨λax=>⟨bR,aH aj rfl,M,aE,λaO=>⟨aH aj rfl,fin _ _ ?_⟩,λaO=>⟨λbZ=>⟨aH aj rfl,fin _ _ ?_⟩,λbZ=>fin _ _ ?_⟩⟩,λax=>fin _ _ ?_⟩⟩,λh0=>fin _ _ ?_⟩⟩<;>
    (unfold pb;(try simp only[ei,fP]);simp_all<;>omega)
 · refine Wh m R h (R:=λx=>x=.ret (.bool (pb k s N M true)) h) ⟨k,aH aj rfl,s,aH aj rfl,λaa=>⟨cD,aH aj rfl,N,aK,λad=>⟨bR,aH aj rfl,M,aE,λax=>⟨q,aH aj rfl,fin _ _ ?_⟩,λax=>⟨λaO=>⟨q,aH aj rfl,fin _ _ ?_⟩,λaO=>fin _ _ ?_⟩⟩,λad=>⟨λax=>⟨bR,aH aj rfl,M,aE,λaO=>⟨q,aH aj rfl,fin _ _ ?_⟩,λaO=>⟨λbZ=>⟨q,aH aj rfl,fin _ _ ?_⟩,λbZ=>fin _ _ ?_⟩⟩,λax=>fin _ _ ?_⟩⟩,λaa=>⟨λh0=>⟨cD,aH aj rfl,N,aK,λad=>⟨bR,aH aj rfl,M,aE,λax=>⟨q,aH aj rfl,fin _ _ ?_⟩,λax=>⟨λaO=>⟨q,aH aj rfl,fin _ _ ?_⟩,λaO=>fin _ _ ?_⟩⟩,λad=>⟨λax=>⟨bR,aH aj rfl,M,aE,λaO=>⟨q,aH aj rfl,fin _ _ ?_⟩,λaO=>⟨λbZ=>⟨q,aH aj rfl,fin _ _ ?_⟩,λbZ=>fin _ _ ?_⟩⟩,λax=>fin _ _ ?_⟩⟩,λh0=>fin _ _ ?_⟩⟩<;>
    (unfold pb;(try simp only[ei,fP]);simp_all<;>omega)
end Go.Proofs.cR
namespace Go.Proofs.cR
open Go aD Go.Proofs dE
set_option maxRecDepth 100000
set_option maxHeartbeats 1000000
def wn(l:List aU)(i:Nat):aU:=(l[i]?).getD []
def qh(p:Option aU):List aU->Bool
 |[]=>true
 |x::l=>mC p x&&qh (some x) l
theorem ET:∀(p:Option aU) (l:List aU),lQ p l=(l.all hS&&qh p l)
 |p,[]=>rfl
 |p,x::l=>by
  rw[lQ,qh,ET (some x) l,List.all_cons]
  cases hS x<;>cases mC p x<;>cases l.all hS<;>rfl
theorem EU:∀(p:Option aU) (e0:List Nat) (l:List aU),e0.length=l.length->nY p e0 l=(e0.all (λk=>decide (k≠9)&&decide (k≠1))&&qh p l)
 |p,[],[],_=>rfl
 |p,[],_::_,h=>by simp at h
 |p,_::_,[],h=>by simp at h
 |p,k::e0,x::l,h=>by
  rw[Ks,qh,EU (some x) e0 l (by simpa using h),List.all_cons]
  cases (decide (k≠9)&&decide (k≠1))<;>cases mC p x<;>cases e0.all (λk=>decide (k≠9)&&decide (k≠1))<;>rfl
theorem KU:∀(p:Option aU) (l:List aU),qh p l=true<->(∀x,l[0]? =some x->mC p x=true)/\∀i,i+1<l.length->dN (wn l i) (wn l (i+1))=true
 |p,[]=>by simp[qh]
 |p,x::l=>by
  rw[qh,Bool.and_eq_true,KU (some x) l]
  constructor
  · rintro⟨aa,ad,ax⟩
    refine⟨λy bg=>by simp at bg;subst bg;exact aa,λi ae=>?_⟩
    cases i with
    |zero=>
     cases l with
     |nil=>simp at ae
     |cons y l=>simpa[wn,mC] using ad y (by simp)
    |succ i=>simpa[wn] using ax i (by simpa using ae)
  · rintro⟨aa,ad⟩
    refine⟨aa x (by simp),λy bg=>?_,λi ae=>?_⟩
    · cases l with
      |nil=>simp at bg
      |cons z l=>
       simp at bg
       subst bg
       simpa[wn,mC] using ad 0 (by simp)
    · simpa[wn] using ad (i+1) (by simpa using ae)
theorem KV(l:List aU):qh none l=o_ (wn l) l.length:=by
 rw[Bool.eq_iff_iff,KU]
 unfold o_
 rw[Bool.not_eq_true',List.any_eq_false]
 constructor
 · rintro⟨_,h⟩ i ae
   rw[List.mem_range] at ae
   cases i with
   |zero=>simp
   |succ i=>simp[h i ae]
 · intro h
   refine⟨λ_ _=>rfl,λi ae=>?_⟩
   have:=h (i+1) (by rw[List.mem_range];exact ae)
   simpa using this
def rA(l:List Bool)(i:Nat):Bool:=(l[i]?).getD false
theorem EV(l:List Bool):(List.range l.length).any (rA l)=l.any id:=by
 rw[Bool.eq_iff_iff,List.any_eq_true,List.any_eq_true]
 constructor
 · rintro⟨i,ae,h⟩
   rw[List.mem_range] at ae
   refine⟨l[i],List.getElem_mem ae,?_⟩
   simpa[rA,ae] using h
 · rintro⟨b,af,h⟩
   obtain⟨i,ae,rfl⟩:=List.getElem_of_mem af
   exact⟨i,by simpa using ae,by simpa[rA,ae] using h⟩
theorem EW{α:Type}(f:α->Bool)(l:List α){i:Nat}(ae:i<l.length):rA (l.map f) i=f l[i]:=by simp[rA,ae]
theorem KW:∀xs:List a5,(xs.map (λu=>!fe u)).any id=!iI xs
 |[]=>rfl
 |x::xs=>by
  rw[iI,List.map_cons,List.any_cons,KW xs]
  cases fe x<;>rfl
theorem EX{α:Type}(f:α->Bool):∀l:List α,(l.map (λx=>!f x)).any id=!l.all f
 |[]=>rfl
 |x::l=>by
  rw[List.map_cons,List.any_cons,List.all_cons,EX f l]
  cases f x<;>rfl
theorem KX(k:Nat)(bD:aU)(aJ:List aU)(xs:List a5)(rt:Option a5):fe (.mk k bD aJ xs rt)=((decide (1<=k)&&decide (k<=9))&&(pb k bD aJ.length xs.length rt.isSome&&(iI xs&&gm k bD aJ (xs.map a5.k) (cB xs) xs.length (iZ rt)))):=by
 rw[Eg]
 congr 1
 by_cases e:k=6/\bD=[]
 · obtain⟨rfl,rfl⟩:=e
   have:gm 6 [] aJ (xs.map a5.k) (cB xs) xs.length (iZ rt)=false:=by simp[gm,k9]
   rw[this];simp
 · congr 1
   unfold jW pb
   rw[tm]
   have cY:¬k=6\/¬bD=[]:=by
    by_cases h:k=6
    · right;intro ad;exact e ⟨h,ad⟩
    · exact .inl h
   have rl:(0<aJ.length)=¬aJ.length=0:=by simp[Nat.pos_iff_ne_zero]
   have fV:(0<xs.length)=¬xs.length=0:=by simp[Nat.pos_iff_ne_zero]
   have CA:(7<=k)=¬k<7:=by simp
   simp only[rl,fV,CA,ne_eq,decide_not]
   rcases cY with cY|cY<;>simp only[cY,decide_false]<;>cases decide (k=6)<;>cases decide (bD=[])<;>cases decide (aJ.length=0)<;>cases decide (k=7)<;>cases decide (xs.length=0)<;>cases decide (k<7)<;>cases rt.isSome<;>cases decide (k=8)<;>rfl
abbrev KY:Prop:=∀(u:a5),fe u=true->sz u<=100->∀(m B:Nat) (h:J) (v:I),4*sz u+10<=m->B<=h.n->cN B h u v->bK B h (.str (wr u)) (Y m (.fn 112) [v] h)
theorem KZ(iC:KY):∀(K:Nat) (t:a5),sz t<=K->sz t<=100->g6 t<=90000->∀(m B:Nat) (h:J) (v:I),4*sz t+12<=m->B<=h.n->cN B h t v->bK B h (.bool (fe t)) (Y m (.fn 90) [v] h)
 |0,t,dq,_,_,_,_,_,_,_,_,_=>by
  have:=nV t
  omega
 |K+1,.mk k bD aJ xs rt,dq,fO,jQ,m,B,h,v,hm,bO,aE=>by
  obtain⟨R,cD,bR,cl,vs,bS,bf,up,rfl,ad,ax,aO,bZ,dj,ek⟩:=aE
  rw[o4] at dq fO hm
  rw[g6] at jQ
  obtain⟨m,rfl⟩:∃j,m=j+5:=⟨m-5,by omega⟩
  have e3:=c6.len dj
  have kT:=nW xs
  have ie:=uS xs
  have tk:(aJ.map I.str).length=aJ.length:=List.length_map _
  have ba:∀(u:a5),sz u<=K->sz u<=100->g6 u<=90000->∀(m B:Nat) (h:J) (v:I),4*sz u+12<=m->B<=h.n->cN B h u v->bK B h (.bool (fe u)) (Y m (.fn 90) [v] h):=KZ iC K
  rw[KX]
  have bd:(cl=.aR/\rt.isSome=false)\/(∃q,cl=.ptr q 0)/\rt.isSome=true:=by
   cases rt with
   |none=>exact .inl ⟨ek,rfl⟩
   |some u=>
    cases u with
    |mk dD ef g2 kG my=>obtain⟨W,_,_,_,_,_,_,_,rfl,_⟩:=ek;exact .inr ⟨⟨W,rfl⟩,rfl⟩
  have xQ:∀g,Ext B h g->bU Tryz.prog g 48 cD=some (.int .i64 (Int.ofNat aJ.length)):=λg x=>by
   rw[<-tk];exact(aO.bH (dT.ext x (Nat.le_refl _))).len (t:=48) (e:=9) (by kernel_rfl)
  have dv:∀g,Ext B h g->bU Tryz.prog g 49 bR=some (.int .i64 (Int.ofNat xs.length)):=λg x=>by
   rw[<-e3];exact(bZ.bH (dT.ext x (Nat.le_refl _))).len (t:=49) (e:=47) (by kernel_rfl)
  have bl:=Wq (m+3) (N:=aJ.length) (M:=xs.length) (o:=rt.isSome) ax (xQ h (Ext.refl _ _)) (dv h (Ext.refl _ _)) bd
  have jS:∀g,Ext B h g->∀i (i1:i<vs.length) (i2:i<xs.length),cN B g xs[i] vs[i]:=λg x i i1 i2=>c6.get (c6.bH (dT.ext x (Nat.le_refl _)) _ _ dj) i i1 i2
  refine Wj (m+4) R h ⟨k,aH ax rfl,λb4=>bK.of (dK (by simp;omega)) (Ext.refl _ _),λb4=>⟨k,aH ax rfl,λjz=>bK.of (dK (by simp;omega)) (Ext.refl _ _),λjz=>⟨_,h,bl,λaf=>?_,λaf=>?_⟩⟩⟩
  rotate_left
  · refine bK.of (dK ?_) (Ext.refl _ _)
    have:pb k bD aJ.length xs.length rt.isSome=false:=by simpa using af
    rw[this];simp
  have jO:pb k bD aJ.length xs.length rt.isSome=true:=by simpa using af
  have AE:(decide (1<=k)&&decide (k<=9))=true:=by simp;omega
  rw[AE,jO,Bool.true_and,Bool.true_and]
  obtain⟨g,c1,bh⟩:=KJ (m+2) (B:=B) (h:=h) (v:=bR) (vs:=vs) 102 [] (rA (xs.map (λu=>!fe u))) bZ (by omega) (λi i1 x ab=>by
   have i2:i<xs.length:=by omega
   have a4:=ki (List.getElem_mem i2)
   have aK:=rp (List.getElem_mem i2)
   obtain⟨g,c,y⟩:=ba xs[i] (by omega) (by omega) (by omega) (m+1) B x vs[i] (by omega) (Nat.le_trans bO ab.n) (jS x ab i i1 i2)
   rw[EW _ _ i2]
   exact VZ (m+1) vs[i] x ⟨_,g,c,bK.of rfl y⟩)
  rw[show vs.length=(xs.map (λu=>!fe u)).length by rw[List.length_map];exact e3,EV,KW] at c1
  refine⟨bR,aH ax rfl,_,g,c1,λaf=>?_,λaf=>?_⟩
  · refine bK.of (dK ?_) bh
    have:iI xs=false:=by simpa using af
    rw[this];rfl
  have h1:iI xs=true:=by simpa using af
  rw[h1,Bool.true_and]
  have aj:=(bh.get R ad).trans ax
  have n4:=Nat.le_trans bO bh.n
  have lD:∀i (i2:i<xs.length),fe xs[i]=true:=λi i2=>An h1 (List.getElem_mem i2)
  have fin:∀{v:I} {w:Bool} {x:an},w=gm k bD aJ (xs.map a5.k) (cB xs) xs.length (iZ rt)->bK B g (.bool w) x->bK B h (.bool (gm k bD aJ (xs.map a5.k) (cB xs) xs.length (iZ rt))) x:=by
   rintro v w x rfl ⟨al,rfl,y⟩
   exact bK.mk (bh.trans (Nat.le_refl _) y)
  refine⟨k,aH aj rfl,λfg=>?_,λfg=>⟨λeI=>?_,λeI=>⟨λfP=>?_,λfP=>⟨λfE=>?_,λfE=>?_⟩⟩⟩⟩
  · subst fg
    obtain⟨aZ,c3,db⟩:=KE m B jy bD [45,47,46] 161 g n4 (by omega) (.inr ⟨rfl,rfl⟩)
    exact⟨bD,aH aj rfl,_,aZ,c3,fin (v:=.aR) (by simp[gm,k9]) (bK.mk db)⟩
  · subst eI
    have tl:gm 7 bD aJ (xs.map a5.k) (cB xs) xs.length (iZ rt)=(decide (aJ.length=xs.length)&&lQ none aJ):=by simp[gm]
    have rB:Ext B g (g.room 27):=Ext.room B g 27
    have oy:=bh.trans (Nat.le_refl _) rB
    have h7:=(rB.get R ad).trans aj
    have cF:=aO.bH (dT.ext oy (Nat.le_refl _))
    refine⟨cD,aH h7 rfl,_,xQ _ oy,bR,aH h7 rfl,_,dv _ oy,λaK=>?_,λaK=>⟨aO.snd,bZ.snd,fin (v:=.aR) (by rw[tl];simp[aK]) (bK.mk rB)⟩⟩
    obtain⟨aZ,c3,db⟩:=V6 (m+2) (B:=B) (h:=g.room 27) (v:=cD) (vs:=aJ.map .str) 106 [] (rA (aJ.map (λs=>!hS s))) cF (by omega) (λi i1 x ab=>by
     have i2:i<aJ.length:=by omega
     obtain⟨g,c,y⟩:=Wp (m-5) B aJ[i] x (Nat.le_trans (Nat.le_trans n4 rB.n) ab.n)
     rw[EW _ _ i2,List.getElem_map]
     rw[show m-5+6=m+1 by omega] at c
     exact V0 (m+1) aJ[i] x ⟨_,g,c,bK.of rfl y⟩)
    rw[show(aJ.map I.str).length=(aJ.map (λs=>!hS s)).length by simp,EV,EX] at c3
    refine⟨cD,aH h7 rfl,_,aZ,c3,λaf=>?_,λaf=>?_⟩
    rotate_left
    · have hf:aJ.all hS=true:=by simpa using af
      have tr:=rB.trans (Nat.le_refl _) db
      have AL:=oy.trans (Nat.le_refl _) db
      have jo:=(tr.get R ad).trans aj
      obtain⟨ch,c4,k7⟩:=Wc (m+1) (B:=B) (h:=aZ) (v:=cD) (vs:=aJ.map .str) 109 [] (wn aJ) (Nat.le_trans n4 tr.n) (aO.bH (dT.ext AL (Nat.le_refl _))) (by omega) rfl (λi ae=>by rw[List.getElem_map];rfl) (λi ae=>⟨aJ[i]'(by omega),by rw[List.getElem_map]⟩) (λi i1 x ab=>by
       have i2:i<aJ.length:=by omega
       rw[List.getElem_map,show wn aJ i=aJ[i] by simp[wn,i2]]
       exact V1 m aJ[i] x (bK.mk (Ext.refl _ _)))
      rw[tk,<-KV] at c4
      exact⟨cD,aH jo rfl,_,ch,c4,aO.snd,bZ.snd,aO.snd,aO.snd,fin (v:=.aR) (by rw[tl,ET,hf];simp[aK]) (bK.mk (tr.trans (Nat.le_refl _) k7))⟩
    · have hf:aJ.all hS=false:=by simpa using af
      exact⟨aO.snd,bZ.snd,aO.snd,fin (v:=.aR) (by rw[tl,ET,hf];simp) (bK.mk (rB.trans (Nat.le_refl _) db))⟩
  · subst fP
    cases rt with
    |none=>simp[pb] at jO
    |some u=>
     rw[im] at dq fO hm
     rw[p0] at jQ
     obtain⟨aZ,c3,db⟩:=ba u (by omega) (by omega) (by omega) (m+4) B g cl (by omega) n4 (cN.bH (dT.ext bh (Nat.le_refl _)) _ _ ek)
     exact⟨cl,aH aj rfl,_,aZ,c3,fin (v:=.aR) (by simp[gm,iZ]) (bK.mk db)⟩
  · subst fE
    have u5:gm 9 bD aJ (xs.map a5.k) (cB xs) xs.length (iZ rt)=(nY none (xs.map a5.k) (cB xs)&&decide (2<=xs.length)):=by simp[gm]
    have K0:(xs.map a5.k).length=(cB xs).length:=by rw[List.length_map,ie]
    refine⟨bR,aH aj rfl,_,dv g bh,λlF=>?_,λlF=>fin (v:=.aR) (by rw[u5];simp[lF]) (bK.mk (Ext.refl _ _))⟩
    obtain⟨aZ,c3,db⟩:=KJ (m+2) (B:=B) (h:=g) (v:=bR) (vs:=vs) 110 [] (rA ((xs.map a5.k).map (λk=>!(decide (k≠9)&&decide (k≠1))))) (bZ.bH (dT.ext bh (Nat.le_refl _))) (by omega) (λi i1 x ab=>by
     have i2:i<xs.length:=by omega
     have i3:i<(xs.map a5.k).length:=by rw[List.length_map];exact i2
     obtain⟨M,h8,p_⟩:=(c6.get dj i i1 i2).kind
     rw[EW _ _ i3,List.getElem_map,h8]
     have au:=p_ x (bh.trans (Nat.le_refl _) ab)
     refine V2 (m+1) M x ⟨_,au,λe=>bK.of (dK (by simp[e])) (Ext.refl _ _),λe=>⟨_,au,bK.of (dK (by rw[p9];simp[e])) (Ext.refl _ _)⟩⟩)
    rw[show vs.length=((xs.map a5.k).map (λk=>!(decide (k≠9)&&decide (k≠1)))).length by simp;exact e3,EV,EX] at c3
    refine⟨bR,aH aj rfl,_,aZ,c3,λaf=>?_,λaf=>?_⟩
    rotate_left
    · have hf:(xs.map a5.k).all (λk=>decide (k≠9)&&decide (k≠1))=true:=by simpa using af
      have AL:=bh.trans (Nat.le_refl _) db
      have jo:=(db.get R ad).trans aj
      obtain⟨ch,c4,k7⟩:=Wg (m+1) (B:=B) (h:=aZ) (v:=bR) (vs:=vs) 112 [] (wn (cB xs)) (Nat.le_trans n4 db.n) (bZ.bH (dT.ext AL (Nat.le_refl _))) (by omega) rfl (λi ae=>(c6.get dj i ae (by omega)).snd) (λi ae=>by
       obtain⟨M,h8,_⟩:=(c6.get dj i ae (by omega)).kind
       exact⟨M,h8⟩) (λi i1 x ab=>by
       have i2:i<xs.length:=by omega
       have a4:=ki (List.getElem_mem i2)
       have rq:=AL.trans (Nat.le_refl _) ab
       rw[show wn (cB xs) i=wr xs[i] by simp[wn,ie,i2,uT xs i i2]]
       exact iC xs[i] (lD i i2) (by omega) (m+1) x.n x vs[i] (by omega) (Nat.le_refl _) (cN.le (Nat.le_trans bO rq.n) _ _ (jS x rq i i1 i2)))
      rw[show vs.length=(cB xs).length by omega,<-KV] at c4
      exact⟨bR,aH jo rfl,_,ch,c4,fin (v:=.aR) (by rw[u5,EU _ _ _ K0,hf];simp[lF]) (bK.mk (db.trans (Nat.le_refl _) k7))⟩
    · have hf:(xs.map a5.k).all (λk=>decide (k≠9)&&decide (k≠1))=false:=by simpa using af
      exact fin (v:=.aR) (by rw[u5,EU _ _ _ K0,hf];simp) (bK.mk db)
  · exact fin (v:=.aR) (by simp[gm,fg,eI,fP,fE]) (bK.mk (Ext.refl _ _))
end Go.Proofs.cR
namespace Go.Proofs.cR
open Go aD Go.Proofs dE
set_option maxRecDepth 100000
set_option maxHeartbeats 1000000
theorem Wr(call:ay->List I->J->an)(b:Nat)(h bk:J)
  (H1:aq h b (0+0)=some .aR)
  (az:eR Tryz.prog 164 186 (I.ptr b 0) h=fs.val (I.ptr b 0) h)
  (a0:call (.fn 151) [.ptr b 0] h=an.ret (.ptr b 0) h)
  (aS:eR Tryz.prog 186 164 (I.ptr b 0) h=fs.val (I.ptr b 0) h)
  (bo:aD.storeCells h b (0+0) [.ptr b 0]=some bk):
  av Tryz.prog Tryz.f145 none call [] (ag.mk [(0,.ptr b 0)] [] .none h) (.nrm)
   (ag.mk [] [] .none bk):=
 a1 [] (hs:=[.v .aR,.v (.bool true),.b true,.v (.ptr b 0),.c (.ptr b 0) h,.v (.ptr b 0),.ih (.aW []) bk]) (by kernel_rfl)<| .cons H1<| .cons (by kernel_rfl:c7 Tryz.prog h BinOp.eql 164 (Operand.tmp 5) (Operand.const (Value.pointer none)) I.aR I.aR=some (I.bool true))<| .cons (by kernel_rfl:true=true)<| .cons az<| .cons a0<| .cons aS<| .cons (⟨by kernel_rfl,bo,rfl⟩:some 1=some 1/\aD.storeCells h b (0+0) [I.ptr b 0]=some bk/\I.aW []=I.aW [])<| .nil
theorem Ws(call:ay->List I->J->an)(b:Nat)(h:J)(cI:Bool)
  (H1:aq h b (0+0)=some (.ptr b 0))
  (az:c7 Tryz.prog h BinOp.neq 164 (Operand.tmp 17) (Operand.tmp 18) (I.ptr b 0) (I.ptr b 0)=some (I.bool cI))
  (a0:cI=false):
  av Tryz.prog Tryz.f145 none call [] (ag.mk [(0,.ptr b 0)] [] .none h) (.nrm)
   (ag.mk [] [] .none h):=
 a1 [] (hs:=[.v (.ptr b 0),.v (.bool false),.b false,.v (.ptr b 0),.v (.bool cI),.b false]) (by kernel_rfl)<| .cons H1<| .cons (by kernel_rfl:c7 Tryz.prog h BinOp.eql 164 (Operand.tmp 5) (Operand.const (Value.pointer none)) (I.ptr b 0) I.aR=some (I.bool false))<| .cons (by kernel_rfl:false=false)<| .cons H1<| .cons az<| .cons a0<| .nil
theorem bws(call:ay->List I->J->an)(b c m:Nat)(s:List UInt8)(v:I)(h ad bk dB:J)
  (H1:call (.fn 145) [.ptr b 0] h=an.ret (.aW []) bk)
  (az:aq bk b (0+1)=some v)
  (a0:gZ Tryz.prog bk 98 (some 9) v (I.str s)=some (I.slice c 0 m (b5.aY 1),ad))
  (aS:aD.storeCells ad b (0+1) [.slice c 0 m (.aY 1)]=some dB):
  av Tryz.prog Tryz.f130 none call [] (ag.mk [(0,.ptr b 0),(1,.str s)] [] .none h) (.ret)
   (ag.mk [(4,.int .i64 (.ofNat (List.length s))),(5,.eO)] [] .none dB):=
 a1 [4,5] (hs:=[.c (.aW []) bk,.v v,.ih (.slice c 0 m (.aY 1)) ad,.ih (.aW []) dB]) (by kernel_rfl)<| .cons H1<| .cons az<| .cons a0<| .cons (⟨by kernel_rfl,aS,rfl⟩:some 1=some 1/\aD.storeCells ad b (0+1) [I.slice c 0 m (b5.aY 1)]=some dB/\I.aW []=I.aW [])<| .nil
theorem Wt(call:ay->List I->J->an)(b:Nat)(s:List UInt8)(v:I)(h ad bk dB:J)
  (H1:call (.fn 145) [.ptr b 0] h=an.ret (.aW []) bk)
  (az:aq bk b (0+1)=some v)
  (a0:gZ Tryz.prog bk 98 (some 9) v (I.str s)=some (I.a_,ad))
  (aS:aD.storeCells ad b (0+1) [.a_]=some dB):
  av Tryz.prog Tryz.f130 none call [] (ag.mk [(0,.ptr b 0),(1,.str s)] [] .none h) (.ret)
   (ag.mk [(4,.int .i64 (.ofNat (List.length s))),(5,.eO)] [] .none dB):=
 a1 [4,5] (hs:=[.c (.aW []) bk,.v v,.ih .a_ ad,.ih (.aW []) dB]) (by kernel_rfl)<| .cons H1<| .cons az<| .cons a0<| .cons (⟨by kernel_rfl,aS,rfl⟩:some 1=some 1/\aD.storeCells ad b (0+1) [I.a_]=some dB/\I.aW []=I.aW [])<| .nil
theorem Wu(call:ay->List I->J->an)(b c m:Nat)(h:J)(cS:List UInt8)(bk:J)
  (H1:aq (J.room h 12) b (0+1)=some (.slice c 0 m (.aY 1)))
  (az:hZ Tryz.prog Builtin.unsafeSliceData (Array.mk [98]) [.slice c 0 m (.aY 1)] (J.room h 12)=fs.val (.ptr c 0) (J.room h 12))
  (a0:pk Tryz.prog (J.room h 12) 182 (I.ptr c 0) (I.int IntKind.i64 (Int.ofNat m))=some (I.str cS,bk)):
  av Tryz.prog Tryz.f136 none call [] (ag.mk [(0,.ptr b 0)] [] .none h) (.ret)
   (ag.mk [(2,.str cS)] [] .none bk):=
 a1 [2] (hs:=[.v (.slice c 0 m (.aY 1)),.v (.ptr c 0),.v (.slice c 0 m (.aY 1)),.ih (.str cS) bk]) (by kernel_rfl)<| .cons H1<| .cons az<| .cons H1<| .cons a0<| .cons (by kernel_rfl:I.sound (I.ptr b 0)=true)<| .cons (by kernel_rfl:I.ptr b 0=I.ptr b 0)<| .cons (by kernel_rfl:I.sound (I.ptr b 0)=true)<| .cons (by kernel_rfl:I.ptr b 0=I.ptr b 0)<| .cons (by kernel_rfl:I.sound (I.ptr b (0+1))=true)<| .cons (by kernel_rfl:I.ptr b (0+1)=I.ptr b (0+1))<| .cons (by kernel_rfl:I.sound (I.slice c 0 m (b5.aY 1))=true)<| .cons H1<| .cons (by kernel_rfl:I.sound (I.ptr c 0)=true)<| .cons az<| .cons (by kernel_rfl:I.sound (I.ptr b 0)=true)<| .cons (by kernel_rfl:I.ptr b 0=I.ptr b 0)<| .cons (by kernel_rfl:I.sound (I.ptr b 0)=true)<| .cons (by kernel_rfl:I.ptr b 0=I.ptr b 0)<| .cons (by kernel_rfl:I.sound (I.ptr b (0+1))=true)<| .cons (by kernel_rfl:I.ptr b (0+1)=I.ptr b (0+1))<| .cons (by kernel_rfl:I.sound (I.slice c 0 m (b5.aY 1))=true)<| .cons H1<| .cons (by kernel_rfl:I.sound (I.int IntKind.i64 (Int.ofNat m))=true)<| .cons (by kernel_rfl:bU Tryz.prog (J.room h 12) 98 (I.slice c 0 m (b5.aY 1))=some (I.int IntKind.i64 (Int.ofNat m)))<| .cons (by kernel_rfl:I.sound (I.str cS)=true)<| .cons (by kernel_rfl:I.str cS=I.str cS)<| .nil
theorem Wv(call:ay->List I->J->an)(b:Nat)(h:J)(cS:List UInt8)(bk:J)
  (H1:aq (J.room h 12) b (0+1)=some .a_)
  (az:pk Tryz.prog (J.room h 12) 182 I.aR (I.int IntKind.i64 (Int.ofNat 0))=some (I.str cS,bk)):
  av Tryz.prog Tryz.f136 none call [] (ag.mk [(0,.ptr b 0)] [] .none h) (.ret)
   (ag.mk [(2,.str cS)] [] .none bk):=
 a1 [2] (hs:=[.v .a_,.v .aR,.v .a_,.ih (.str cS) bk]) (by kernel_rfl)<| .cons H1<| .cons (by kernel_rfl:hZ Tryz.prog Builtin.unsafeSliceData (Array.mk [98]) [I.a_] (J.room h 12)=fs.val I.aR (J.room h 12))<| .cons H1<| .cons az<| .cons (by kernel_rfl:I.sound (I.ptr b 0)=true)<| .cons (by kernel_rfl:I.ptr b 0=I.ptr b 0)<| .cons (by kernel_rfl:I.sound (I.ptr b 0)=true)<| .cons (by kernel_rfl:I.ptr b 0=I.ptr b 0)<| .cons (by kernel_rfl:I.sound (I.ptr b (0+1))=true)<| .cons (by kernel_rfl:I.ptr b (0+1)=I.ptr b (0+1))<| .cons (by kernel_rfl:I.sound I.a_=true)<| .cons H1<| .cons (by kernel_rfl:I.sound I.aR=true)<| .cons (by kernel_rfl:hZ Tryz.prog Builtin.unsafeSliceData (Array.mk [98]) [I.a_] (J.room h 12)=fs.val I.aR (J.room h 12))<| .cons (by kernel_rfl:I.sound (I.ptr b 0)=true)<| .cons (by kernel_rfl:I.ptr b 0=I.ptr b 0)<| .cons (by kernel_rfl:I.sound (I.ptr b 0)=true)<| .cons (by kernel_rfl:I.ptr b 0=I.ptr b 0)<| .cons (by kernel_rfl:I.sound (I.ptr b (0+1))=true)<| .cons (by kernel_rfl:I.ptr b (0+1)=I.ptr b (0+1))<| .cons (by kernel_rfl:I.sound I.a_=true)<| .cons H1<| .cons (by kernel_rfl:I.sound (I.int IntKind.i64 (Int.ofNat 0))=true)<| .cons (by kernel_rfl:bU Tryz.prog (J.room h 12) 98 I.a_=some (I.int IntKind.i64 (Int.ofNat 0)))<| .cons (by kernel_rfl:I.sound (I.str cS)=true)<| .cons (by kernel_rfl:I.str cS=I.str cS)<| .nil
theorem Ww(m:Nat)(v:I)(s:List UInt8)(eF:Nat)(fz:Nat)(b:Nat)(c:Nat)(hT:List I)(hU:List I)(h:J){R:an->Prop}(H:∃aQ:Nat,bU Tryz.prog h 49 v=some (.int .i64 (.ofNat aQ))/\bw Tryz.prog Tryz.f129 (Y m) [1,0] (ag.mk [(1,.str s),(2,.fn eF [] hT),(3,.fn fz [] hU),(4,.ptr b 0),(5,.ptr c 0),(12,v),(13,.int .i64 (.ofNat aQ)),(14,.int .i64 (.ofNat 0))] [] .none h) (λcG cH=>∃ao:J,∃bp:Env,cG=.exit 0/\cH=ag.mk bp [] .none ao/\cC [] bp/\R (.ret (.aW []) ao))):
  R (Y (m+1) (.fn 129) [v,.str s,.fn eF [] hT,.fn fz [] hU,.ptr b 0,.ptr c 0] h):=
 dF (intr:=bT) [(4000,.ik [1,2,3,4,5,12,13,14] [(.exit 0,[])])] [(0,.o v),(1,.v (.str s)),(2,.o (.fn eF [] hT)),(3,.o (.fn fz [] hU)),(4,.v (.ptr b 0)),(5,.v (.ptr c 0))] Tryz.func129 (by kernel_rfl) (by kernel_rfl) (by kernel_rfl) rfl (Eq.mp (by kernel_rfl) H)
theorem Wx(call:ay->List I->J->an)(s:List UInt8)(eF:Nat)(fz:Nat)(b:Nat)(c:Nat)(da:Nat)(off:Nat)(N:Nat)(i:Nat)(xR:Nat)(aB:b5)(hT:List I)(hU:List I)(co:List I)(h:J){Q:bF->ag->Prop}(H:(i<N->i<N/\∃v1:I,aq h da (off+i*1)=some v1/\(0<i->∃aQ:Nat,∃v2:I,∃ao:J,call (.fn 130) [.ptr b 0,.str s] h=.ret (.aW [.int .i64 (.ofNat aQ),v2]) ao/\∃s1:List UInt8,∃ar:J,call (.fn eF) (.int .i64 (.ofNat i)::hT) ao=.ret (.str s1) ar/\∃bI:Nat,∃cX:I,∃aZ:J,call (.fn 130) [.ptr b 0,.str s1] ar=.ret (.aW [.int .i64 (.ofNat bI),cX]) aZ/\aq aZ c 0=some (.fn xR [] co)/\∃ch:J,call (.fn xR) (v1::co) aZ=.ret (.aW []) ch/\∃s2:List UInt8,∃dQ:J,call (.fn fz) (.int .i64 (.ofNat i)::hU) ch=.ret (.str s2) dQ/\∃cr:Nat,∃v4:I,∃eS:J,call (.fn 130) [.ptr b 0,.str s2] dQ=.ret (.aW [.int .i64 (.ofNat cr),v4]) eS/\i+1<9223372036854775808/\Q .nrm (ag.mk [(1,.str s),(2,.fn eF [] hT),(3,.fn fz [] hU),(4,.ptr b 0),(5,.ptr c 0),(12,.slice da off N aB),(13,.int .i64 (.ofNat N)),(14,.int .i64 (.ofNat (i+1)))] [] .none eS))/\(¬0<i->∃bE:List UInt8,∃gA:J,call (.fn eF) (.int .i64 (.ofNat i)::hT) h=.ret (.str bE) gA/\∃cF:Nat,∃gx:I,∃hM:J,call (.fn 130) [.ptr b 0,.str bE] gA=.ret (.aW [.int .i64 (.ofNat cF),gx]) hM/\aq hM c 0=some (.fn xR [] co)/\∃j0:J,call (.fn xR) (v1::co) hM=.ret (.aW []) j0/\∃bX:List UInt8,∃hH:J,call (.fn fz) (.int .i64 (.ofNat i)::hU) j0=.ret (.str bX) hH/\∃dc:Nat,∃v6:I,∃jb:J,call (.fn 130) [.ptr b 0,.str bX] hH=.ret (.aW [.int .i64 (.ofNat dc),v6]) jb/\i+1<9223372036854775808/\Q .nrm (ag.mk [(1,.str s),(2,.fn eF [] hT),(3,.fn fz [] hU),(4,.ptr b 0),(5,.ptr c 0),(12,.slice da off N aB),(13,.int .i64 (.ofNat N)),(14,.int .i64 (.ofNat (i+1)))] [] .none jb)))/\(¬i<N->Q (.exit 0) (ag.mk [(1,.str s),(2,.fn eF [] hT),(3,.fn fz [] hU),(4,.ptr b 0),(5,.ptr c 0),(12,.slice da off N aB),(13,.int .i64 (.ofNat N)),(14,.int .i64 (.ofNat i))] [] .none h))):
  bw Tryz.prog Tryz.f129 call [1,0,0] ⟨[(1,.str s),(2,.fn eF [] hT),(3,.fn fz [] hU),(4,.ptr b 0),(5,.ptr c 0),(12,.slice da off N aB),(13,.int .i64 (.ofNat N)),(14,.int .i64 (.ofNat i))],[],.none,h⟩ Q:=
 e6 [(18,.b2 .o),(27,.b2 (.io (.fn xR [] co)))] [1,2,3,4,5,12,13,14] [(1,.v (.str s)),(2,.o (.fn eF [] hT)),(3,.o (.fn fz [] hU)),(4,.v (.ptr b 0)),(5,.v (.ptr c 0)),(12,.v (.slice da off N aB)),(13,.v (.int .i64 (.ofNat N))),(14,.v (.int .i64 (.ofNat i)))] rfl (Eq.mp (by kernel_rfl) H)
theorem Wy(call:ay->List I->J->an)(s:List UInt8)(eF:Nat)(fz:Nat)(b:Nat)(c:Nat)(N:Nat)(i:Nat)(hT:List I)(hU:List I)(v:I)(h:J){Q:bF->ag->Prop}(H:¬i<N/\Q (.exit 0) (ag.mk [] [] .none h)):
  bw Tryz.prog Tryz.f129 call [1,0,0] ⟨[(1,.str s),(2,.fn eF [] hT),(3,.fn fz [] hU),(4,.ptr b 0),(5,.ptr c 0),(12,v),(13,.int .i64 (.ofNat N)),(14,.int .i64 (.ofNat i))],[],.none,h⟩ Q:=
 e6 [(1015,.f)] [] [(1,.v (.str s)),(2,.o (.fn eF [] hT)),(3,.o (.fn fz [] hU)),(4,.v (.ptr b 0)),(5,.v (.ptr c 0)),(12,.o v),(13,.v (.int .i64 (.ofNat N))),(14,.v (.int .i64 (.ofNat i)))] rfl (Eq.mp (by kernel_rfl) H)
theorem EY(m:Nat)(i:Nat)(h:J){R:an->Prop}(H:R (.ret (.str []) h)):
  R (Y (m+1) (.fn 131) [.int .i64 (.ofNat i)] h):=
 dF (intr:=bT) [] [(0,.v (.int .i64 (.ofNat i)))] Tryz.func131 (by kernel_rfl) (by kernel_rfl) (by kernel_rfl) rfl (Eq.mp (by kernel_rfl) H)
theorem Wz(m:Nat)(i:Nat)(e:Nat)(h:J){R:an->Prop}(H:∃aQ:Nat,aq h e 0=some (.ptr aQ 0)/\∃bI:Nat,∃cr:Nat,∃cF:Nat,∃c1:b5,aq h aQ (0+2)=some (.slice bI cr cF c1)/\i<cF/\∃s1:List UInt8,aq h bI (cr+i*1)=some (.str s1)/\List.length s1+2<=1000000000000/\R (.ret (.str (s1++[58,32])) h)):
  R (Y (m+1) (.fn 133) [.int .i64 (.ofNat i),.ptr e 0] h):=
 dF (intr:=bT) [(7,.b2 .gh)] [(0,.v (.int .i64 (.ofNat i))),(1,.v (.ptr e 0))] Tryz.func133 (by kernel_rfl) (by kernel_rfl) (by kernel_rfl) rfl (Eq.mp (by kernel_rfl) H)
theorem K1(m:Nat)(s:List UInt8)(e:Nat)(h:J){R:an->Prop}(H:R (.ret (.fn 135 [] [.ptr e 0,.ptr h.n 0]) (J.push h (.cells [.str s] 9 .own 0 0)))):
  R (Y (m+1) (.fn 134) [.str s,.ptr e 0] h):=
 dF (intr:=bT) [] [(0,.v (.str s)),(1,.v (.ptr e 0))] Tryz.func134 (by kernel_rfl) (by kernel_rfl) (by kernel_rfl) rfl (Eq.mp (by kernel_rfl) H)
theorem WA(m:Nat)(i:Nat)(e:Nat)(f:Nat)(h:J){R:an->Prop}(H:∃aQ:Nat,aq h e 0=some (.ptr aQ 0)/\∃bI:Nat,∃cr:Nat,∃cF:Nat,∃c1:b5,aq h aQ (0+3)=some (.slice bI cr cF c1)/\i<cF/\∃dc:Nat,aq h bI (cr+i*1)=some (.ptr dc 0)/\∃dk:Nat,aq h dc (0+0)=some (.int .i64 (.ofNat dk))/\(dk=8->∃s1:List UInt8,aq h f 0=some (.str s1)/\R (.ret (.str s1) h))/\(¬dk=8->R (.ret (.str []) h))):
  R (Y (m+1) (.fn 135) [.int .i64 (.ofNat i),.ptr e 0,.ptr f 0] h):=
 dF (intr:=bT) [(8,.b2 .gh)] [(0,.v (.int .i64 (.ofNat i))),(1,.v (.ptr e 0)),(2,.v (.ptr f 0))] Tryz.func135 (by kernel_rfl) (by kernel_rfl) (by kernel_rfl) rfl (Eq.mp (by kernel_rfl) H)
theorem WB(m:Nat)(b:Nat)(l:Nat)(n:Nat)(o:Nat)(r:Nat)(k:Nat)(s:List UInt8)(bR:I)(cl:I)(h:J){R:an->Prop}(H:aq (J.push h (.cells [.ptr r 0] 47 .own 0 0)) h.n 0=some (.ptr r 0)/\aq (J.push h (.cells [.ptr r 0] 47 .own 0 0)) r (0+0)=some (.int .i64 (.ofNat k))/\(k=6->aq (J.push h (.cells [.ptr r 0] 47 .own 0 0)) h.n 0=some (.ptr r 0)/\aq (J.push h (.cells [.ptr r 0] 47 .own 0 0)) r (0+1)=some (.str s)/\∃aQ:Nat,∃v1:I,∃ao:J,(Y m) (.fn 130) [.ptr b 0,.str s] (J.push h (.cells [.ptr r 0] 47 .own 0 0))=.ret (.aW [.int .i64 (.ofNat aQ),v1]) ao/\R (.ret (.aW []) ao))/\(¬k=6->(k=7->∃bI:Nat,∃v2:I,∃ar:J,(Y m) (.fn 130) [.ptr b 0,.str [123]] (J.push h (.cells [.ptr r 0] 47 .own 0 0))=.ret (.aW [.int .i64 (.ofNat bI),v2]) ar/\aq (ar.room 8) l 0=some (.fn 129 [] [.ptr b 0,.ptr o 0])/\aq (ar.room 8) h.n 0=some (.ptr r 0)/\aq (ar.room 8) r (0+3)=some bR/\aq (ar.room 8) n 0=some (.fn 131 [] [])/\∃aZ:J,(Y m) (.fn 129) [bR,.str [44,32],.fn 133 [] [.ptr h.n 0],.fn 131 [] [],.ptr b 0,.ptr o 0] (ar.room 8)=.ret (.aW []) aZ/\I.sound bR=true/\∃cr:Nat,∃cX:I,∃ch:J,(Y m) (.fn 130) [.ptr b 0,.str [125]] aZ=.ret (.aW [.int .i64 (.ofNat cr),cX]) ch/\R (.ret (.aW []) ch))/\(¬k=7->(k=8->∃cF:Nat,∃v4:I,∃dQ:J,(Y m) (.fn 130) [.ptr b 0,.str [102,110,40]] (J.push h (.cells [.ptr r 0] 47 .own 0 0))=.ret (.aW [.int .i64 (.ofNat cF),v4]) dQ/\aq (dQ.room 8) l 0=some (.fn 129 [] [.ptr b 0,.ptr o 0])/\aq (dQ.room 8) h.n 0=some (.ptr r 0)/\aq (dQ.room 8) r (0+3)=some bR/\aq (dQ.room 8) n 0=some (.fn 131 [] [])/\aq (dQ.room 8) n 0=some (.fn 131 [] [])/\∃eS:J,(Y m) (.fn 129) [bR,.str [44,32],.fn 131 [] [],.fn 131 [] [],.ptr b 0,.ptr o 0] (dQ.room 8)=.ret (.aW []) eS/\I.sound bR=true/\∃dc:Nat,∃gx:I,∃gA:J,(Y m) (.fn 130) [.ptr b 0,.str [41,32,45,62,32]] eS=.ret (.aW [.int .i64 (.ofNat dc),gx]) gA/\aq (gA.room 6) o 0=some (.fn 132 [] [.ptr b 0,.ptr l 0,.ptr n 0,.ptr o 0])/\aq (gA.room 6) h.n 0=some (.ptr r 0)/\aq (gA.room 6) r (0+4)=some cl/\∃hM:J,(Y m) (.fn 132) [cl,.ptr b 0,.ptr l 0,.ptr n 0,.ptr o 0] (gA.room 6)=.ret (.aW []) hM/\I.sound cl=true/\R (.ret (.aW []) hM))/\(¬k=8->(k=9->aq (J.room (J.push h (.cells [.ptr r 0] 47 .own 0 0)) 10) l 0=some (.fn 129 [] [.ptr b 0,.ptr o 0])/\aq (J.room (J.push h (.cells [.ptr r 0] 47 .own 0 0)) 10) h.n 0=some (.ptr r 0)/\aq (J.room (J.push h (.cells [.ptr r 0] 47 .own 0 0)) 10) r (0+3)=some bR/\∃v6:I,∃j0:J,(Y m) (.fn 134) [.str [40],.ptr h.n 0] (J.room (J.push h (.cells [.ptr r 0] 47 .own 0 0)) 10)=.ret v6 j0/\∃nn:I,∃hH:J,(Y m) (.fn 134) [.str [41],.ptr h.n 0] j0=.ret nn hH/\∃jb:J,(Y m) (.fn 129) [bR,.str [32,124,32],v6,nn,.ptr b 0,.ptr o 0] hH=.ret (.aW []) jb/\aq hH l 0=some (.fn 129 [] [.ptr b 0,.ptr o 0])/\aq j0 l 0=some (.fn 129 [] [.ptr b 0,.ptr o 0])/\aq hH h.n 0=some (.ptr r 0)/\aq j0 h.n 0=some (.ptr r 0)/\I.sound bR=true/\aq hH r (0+3)=some bR/\aq j0 r (0+3)=some bR/\R (.ret (.aW []) jb))/\(¬k=9->aq (J.push h (.cells [.ptr r 0] 47 .own 0 0)) h.n 0=some (.ptr r 0)/\aq (J.push h (.cells [.ptr r 0] 47 .own 0 0)) r (0+0)=some (.int .i64 (.ofNat k))/\∃s1:List UInt8,(k<6/\kO Tryz.prog 9 [.str [],.str [97,110,121],.str [105,110,116],.str [98,111,111,108],.str [115,116,114],.str [110,105,108]] (k*1)=some (.str s1))/\∃dk:Nat,∃np:I,∃nq:J,(Y m) (.fn 130) [.ptr b 0,.str s1] (J.push h (.cells [.ptr r 0] 47 .own 0 0))=.ret (.aW [.int .i64 (.ofNat dk),np]) nq/\R (.ret (.aW []) nq)))))):
  R (Y (m+1) (.fn 132) [.ptr r 0,.ptr b 0,.ptr l 0,.ptr n 0,.ptr o 0] h):=
 dF (intr:=bT) [(7,.b2 (.is (.ptr r 0))),(20,.b2 (.is (.ptr r 0))),(29,.b2 (.is (.ptr r 0))),(41,.b2 (.is (.ptr r 0))),(50,.b2 (.is (.ptr r 0))),(59,.b2 (.is (.ptr r 0))),(12,.b2 (.is (.ptr r 0))),(10,.b2 (.is (.int .i64 (.ofNat k)))),(15,.b2 (.is (.int .i64 (.ofNat k)))),(23,.b2 (.is (.str s))),(32,.b2 (.io bR)),(44,.b2 (.io bR)),(62,.b2 (.io bR)),(53,.b2 (.io cl)),(28,.b2 (.is (.fn 129 [] [.ptr b 0,.ptr o 0]))),(40,.b2 (.is (.fn 129 [] [.ptr b 0,.ptr o 0]))),(58,.b2 (.is (.fn 129 [] [.ptr b 0,.ptr o 0]))),(34,.b2 (.is (.fn 131 [] []))),(45,.b2 (.is (.fn 131 [] []))),(46,.b2 (.is (.fn 131 [] []))),(49,.b2 (.is (.fn 132 [] [.ptr b 0,.ptr l 0,.ptr n 0,.ptr o 0]))),(64,.b2 .o),(66,.b2 .o)] [(0,.v (.ptr r 0)),(1,.v (.ptr b 0)),(2,.v (.ptr l 0)),(3,.v (.ptr n 0)),(4,.v (.ptr o 0))] Tryz.func132 (by kernel_rfl) (by kernel_rfl) (by kernel_rfl) rfl (Eq.mp (by kernel_rfl) H)
theorem WC(m:Nat)(r:Nat)(h:J){R:an->Prop}(H:∃ao:J,aD.storeCells (J.push (J.push (J.push h (.cells [.aR,.a_] 166 .own 0 0)) (.cells [.fi] 127 .own 0 0)) (.cells [.fi] 172 .own 0 0)) (J.n (J.push (J.push h (.cells [.aR,.a_] 166 .own 0 0)) (.cells [.fi] 127 .own 0 0))) 0 [.fn 129 [] [.ptr h.n 0,.ptr (J.n (J.push h (.cells [.aR,.a_] 166 .own 0 0))) 0]]=some ao/\∃ar:J,aD.storeCells (J.push ao (.cells [.fi] 167 .own 0 0)) ao.n 0 [.fn 131 [] []]=some ar/\∃aZ:J,aD.storeCells ar (J.n (J.push h (.cells [.aR,.a_] 166 .own 0 0))) 0 [.fn 132 [] [.ptr h.n 0,.ptr (J.n (J.push (J.push h (.cells [.aR,.a_] 166 .own 0 0)) (.cells [.fi] 127 .own 0 0))) 0,.ptr ao.n 0,.ptr (J.n (J.push h (.cells [.aR,.a_] 166 .own 0 0))) 0]]=some aZ/\∃bp:List I,aq aZ (J.n (J.push h (.cells [.aR,.a_] 166 .own 0 0))) 0=some (.fn 132 [] bp)/\∃ch:J,(Y m) (.fn 132) (.ptr r 0::bp) aZ=.ret (.aW []) ch/\∃s1:List UInt8,∃dQ:J,(Y m) (.fn 136) [.ptr h.n 0] ch=.ret (.str s1) dQ/\R (.ret (.str s1) dQ)):
  R (Y (m+1) (.fn 112) [.ptr r 0] h):=
 dF (intr:=bT) [(9,.b2 (.fn 132 4))] [(0,.v (.ptr r 0))] Tryz.func112 (by kernel_rfl) (by kernel_rfl) (by kernel_rfl) rfl (Eq.mp (by kernel_rfl) H)
def xS(B b:Nat)(h:J)(w:List UInt8):Prop:=∃a v,h.get b=some (.cells [a,v] 166 .own 0 0)/\(a=.aR\/a=.ptr b 0)/\sL B 5 h v w/\b<B/\B<=h.n/\(w=[]->v=.a_)
theorem WD(n b:Nat)(h:J):Y (n+1) (.fn 151) [.ptr b 0] h=.ret (.ptr b 0) h:=by unfold Y;kernel_rfl
theorem WE(n b:Nat)(h:J)(v:I)(af:b<h.n)(aj:h.get b=some (.cells [.aR,v] 166 .own 0 0)\/h.get b=some (.cells [.ptr b 0,v] 166 .own 0 0)):
  ∃al,Y (n+2) (.fn 145) [.ptr b 0] h=.ret (.aW []) al/\al.get b=some (.cells [.ptr b 0,v] 166 .own 0 0)/\al.n=h.n/\∀c,c≠b->al.get c=h.get c:=by
 rcases aj with aj|aj
 · refine⟨h.set b (some (.cells [.ptr b 0,v] 166 .own 0 0)),?_,iF rfl,rfl,λc ah=>mn ah rfl⟩
   have f1:Tryz.prog.underlying 164=some (.pointer 166):=by kernel_rfl
   have f2:Tryz.prog.underlying 186=some .unsafePointer:=by kernel_rfl
   have f3:dt Tryz.prog 166=some 2:=by kernel_rfl
   have f4:liesAt Tryz.prog Tryz.prog.depth 166 (2/Tryz.prog.cellsOf 166) 0 166 1=true:=by kernel_rfl
   have v1:eR Tryz.prog 164 186 (I.ptr b 0) h=fs.val (I.ptr b 0) h:=by
    simp only[eR,f1,f2,f3,aj];rfl
   have v2:eR Tryz.prog 186 164 (I.ptr b 0) h=fs.val (I.ptr b 0) h:=by
    simp only[eR,f1,f2,f3,aj,List.length_cons,List.length_nil,f4];rfl
   have ai:=Wr (Y (n+1)) b h _ (aH aj rfl) v1 (WD n b h) v2 (iG aj rfl rfl)
   exact dJ (intr:=bT) (n:=n+1) (args:=[.ptr b 0]) Tryz.func145 (by kernel_rfl) rfl (by kernel_rfl) ai (.inr rfl) (by kernel_rfl)
 · refine⟨h,?_,aj,rfl,λc _=>rfl⟩
   have he:c7 Tryz.prog h BinOp.neq 164 (Operand.tmp 17) (Operand.tmp 18) (I.ptr b 0) (I.ptr b 0)=some (I.bool false):=by
    have aA:Tryz.prog.underlying 164=some (.pointer 166):=by kernel_rfl
    have aC:dt Tryz.prog 166=some 2:=by kernel_rfl
    have bN:Nat.beq b b=true:=by simp
    simp only[c7,qn,hK,aA,aC,Bw,bN]
    rfl
   exact dJ (intr:=bT) (n:=n+1) (args:=[.ptr b 0]) Tryz.func145 (by kernel_rfl) rfl (by kernel_rfl) (Ws (Y (n+1)) b h false (aH aj rfl) he rfl) (.inr rfl) (by kernel_rfl)
theorem WG:∃i,Tryz.prog.info? 5=some i/\i.size=1/\i.bytes=1:=by
 have ae:(Tryz.prog.info? 5).map (λi=>(i.size,i.bytes))=some (1,1):=by kernel_rfl
 cases xU:Tryz.prog.info? 5 with
 |none=>rw[xU] at ae;cases ae
 |some i=>
  rw[xU] at ae
  simp only[Option.map_some,Option.some.injEq,Prod.mk.injEq] at ae
  exact⟨i,rfl,ae.1,ae.2⟩
theorem WH{i:TypeInfo}(ae:i.bytes=1){n:Nat}(aK:n<=1000000000):ln n i.bytes=true:=by
 rw[ae]
 have:(4*n+2048)*(1+1)<=281474976710656:=by omega
 simpa[ln] using this
theorem WI(n b B:Nat)(h:J)(w s:List UInt8)(af:xS B b h w)(au:w.length+s.length<=1000000000):∃al,Y (n+3) (.fn 130) [.ptr b 0,.str s] h=.ret (.aW [.int .i64 (Int.ofNat s.length),.eO]) al/\xS B b al (w++s)/\mr 5 b B h al:=by
 obtain⟨a,v,aj,a2,K2,mF,WJ,sj⟩:=af
 obtain⟨aa,c1,ao,aQ,cq⟩:=WE n b h v (by omega) (by rcases a2 with rfl|rfl;exact .inl aj;exact .inr aj)
 have a8:sL B 5 aa v w:=K2.ext (by omega) λc ah _=>cq c (by omega)
 obtain⟨i,xU,K3,CR⟩:=WG
 obtain⟨v',ad,dD,ef,g2⟩:=QH (P:=Tryz.prog) (B:=B) (sT:=98) (xT:=some 9) (e:=5) (z:=.int .u8 (Int.ofNat 0)) (by omega) (by kernel_rfl) (by kernel_rfl) xU K3 (by kernel_rfl) rfl (WH CR au) a8
 have ar:=(g2.get b mF).trans ao
 have aK:=g2.n
 have tt:w++s=[]->v'=.a_:=by
  intro e
  obtain⟨rfl,rfl⟩:=List.append_eq_nil_iff.1 e
  obtain rfl:=sj rfl
  have:gZ Tryz.prog aa 98 (some 9) .a_ (.str [])=some (.a_,aa):=by
   have hu:Tryz.prog.underlying 98=some (.slice 5):=by kernel_rfl
   have hs:oj Tryz.prog (some 9)=true:=by kernel_rfl
   have a4:ew Tryz.prog 5=some (.int .u8 (Int.ofNat 0)):=by kernel_rfl
   simp only[gZ,hu,hs,xU,a4,K3];rfl
  rw[this] at dD
  cases dD;rfl
 refine⟨ad.set b (some (.cells [.ptr b 0,v'] 166 .own 0 0)),?_,⟨.ptr b 0,v',iF rfl,.inr rfl,ef.ext (by simp) λc ah _=>mn (by omega) rfl,mF,by simp;omega,tt⟩,⟨⟨by simp;omega,λc ah oB=>mn oB ((g2.get c ah).trans (cq c oB))⟩,λd aG K4 so=>?_⟩⟩
 · rcases ef with⟨rfl,_⟩|⟨c,r,rfl,_⟩
   · exact dJ (intr:=bT) (n:=n+2) (args:=[.ptr b 0,.str s]) Tryz.func130 (by kernel_rfl) rfl (by kernel_rfl) (Wt (Y (n+2)) b s v h ad aa _ c1 (aH ao rfl) dD (iG ar rfl rfl)) (.inl rfl) (by kernel_rfl)
   · exact dJ (intr:=bT) (n:=n+2) (args:=[.ptr b 0,.str s]) Tryz.func130 (by kernel_rfl) rfl (by kernel_rfl) (bws (Y (n+2)) b c _ s v h ad aa _ c1 (aH ao rfl) dD (iG ar rfl rfl)) (.inl rfl) (by kernel_rfl)
 · refine mn K4 ((QY dD (by omega) ?_).trans (cq d K4))
   rintro o l c rfl
   rcases K2 with⟨ab,_⟩|⟨c',rest,ab,ah,_⟩
   · cases ab
   · cases ab
     exact so _ _ _ ah
theorem WK(n b B:Nat)(h:J)(w:List UInt8)(af:xS B b h w)(au:w.length<=1000000000):∃al,Y (n+1) (.fn 136) [.ptr b 0] h=.ret (.str w) al/\Ext B h al:=by
 obtain⟨a,v,g,a2,aE,mF,aK,sj⟩:=af
 rcases aE with⟨rfl,rfl⟩|⟨c,rest,rfl,ah,w8,oS⟩
 · have lz:pk Tryz.prog (J.room h 12) 182 I.aR (I.int IntKind.i64 (Int.ofNat 0))=some (.str [],J.room h 12):=by kernel_rfl
   exact⟨_,dJ (intr:=bT) (n:=n) (args:=[.ptr b 0]) Tryz.func136 (by kernel_rfl) rfl (by kernel_rfl) (Wv (Y n) b h [] _ (aH (h:=h.room 12) g rfl) lz) (.inl rfl) (by kernel_rfl),Ext.room _ _ _⟩
 · by_cases hw:w=[]
   · exact absurd (sj hw) (by simp)
   · have dC:w.length≠0:=by cases w<;>simp at hw⊢
     have eY:hZ Tryz.prog Builtin.unsafeSliceData (Array.mk [98]) [I.slice c 0 w.length (b5.aY 1)] (J.room h 12)=fs.val (I.ptr c 0) (J.room h 12):=by
      simp only[hZ]
      exact if_neg dC
     have lz:=QK (P:=Tryz.prog) (h:=h.room 12) (pT:=182) (u:=5) (c:=c) (e:=5) (w:=w) (rest:=rest) hw (by omega) (by kernel_rfl) (by kernel_rfl) (by kernel_rfl) ah
     exact⟨_,dJ (intr:=bT) (n:=n) (args:=[.ptr b 0]) Tryz.func136 (by kernel_rfl) rfl (by kernel_rfl) (Wu (Y n) b c w.length h w _ (aH (h:=h.room 12) g rfl) eY lz) (.inl rfl) (by kernel_rfl),
      (Ext.room B h 12).trans (Nat.le_refl _) (Ext.set (by omega) _)⟩
end Go.Proofs.cR
namespace Go.Proofs.cR
open Go aD Go.Proofs dE
set_option maxRecDepth 100000
set_option maxHeartbeats 1000000
abbrev n8(b:Nat):List I:=[.ptr b 0,.ptr (b+2) 0,.ptr (b+3) 0,.ptr (b+1) 0]
structure fK(b:Nat)(h0 x:J)(w:aU):Prop where
 AM:xS (b+4) b x w
 one:x.get (b+1)=some (.cells [.fn 132 [] (n8 b)] 127 .own 0 0)
 vb:x.get (b+2)=some (.cells [.fn 129 [] [.ptr b 0,.ptr (b+1) 0]] 172 .own 0 0)
 nN:x.get (b+3)=some (.cells [.fn 131 [] []] 167 .own 0 0)
 ext:Ext b h0 x
abbrev hx(b:Nat)(x y:J):Prop:=mr 5 b (b+4) x y
theorem fK.n{b:Nat}{h0 x:J}{w:aU}(af:fK b h0 x w):b+4<=x.n:=by obtain⟨_,_,_,_,_,_,h,_⟩:=af.AM;exact h
theorem fK.K5{b:Nat}{h0 x y:J}{w w':aU}(af:fK b h0 x w)(bg:xS (b+4) b y w')(k:hx b x y):fK b h0 y w':=
 ⟨bg,(k.x.get _ (by omega) (by omega)).trans af.one,(k.x.get _ (by omega) (by omega)).trans af.vb,(k.x.get _ (by omega) (by omega)).trans af.nN,
  af.ext.trans (Nat.le_refl _) ⟨k.x.n,λd aG=>k.x.get d (by omega) (by omega)⟩⟩
theorem fK.AN{b:Nat}{h0 x y:J}{w:aU}(af:fK b h0 x w)(e:Ext x.n x y):fK b h0 y w/\hx b x y:=by
 have aK:=af.n
 have aw:hx b x y:=mr.ext e aK
 refine⟨af.K5 ?_ aw,aw⟩
 obtain⟨a,v,aa,ad,ax,aO,bZ,dj⟩:=af.AM
 exact⟨a,v,(e.get b (by omega)).trans aa,ad,ax.ext e.n λc _ ah=>e.get c ah,aO,Nat.le_trans bZ e.n,dj⟩
theorem fK.ws{b:Nat}{h0 x:J}{w:aU}(n:Nat)(s:aU)(af:fK b h0 x w)(au:w.length+s.length<=1000000000):∃y,Y (n+3) (.fn 130) [.ptr b 0,.str s] x=.ret (.aW [.int .i64 (Int.ofNat s.length),.eO]) y/\fK b h0 y (w++s)/\hx b x y:=by
 obtain⟨y,c,bg,k⟩:=WI n b (b+4) x w s af.AM au
 exact⟨y,c,af.K5 bg k,k⟩
theorem hx.own{b d:Nat}{x y:J}{cs:List I}{e:Nat}(k:hx b x y)(aG:d<x.n)(af:d≠b)(aj:x.get d=some (.cells cs e .own 0 0)):d<y.n/\y.get d=some (.cells cs e .own 0 0):=
 ⟨Nat.lt_of_lt_of_le aG k.x.n,(k.k d aG af (by rw[aj];intro cs bf up h;cases h)).trans aj⟩
theorem EZ(m:Nat){b:Nat}{h0:J}{v:I}{vs:List I}(sep:aU)(eF fz:Nat)(hT hU:List I)(A W Z:Nat->aU)(items:List aU)(K:J->Prop)(dq:∀x y,K x->hx b x y->K y)(aE:cL b h0 v vs)(hlen:vs.length<=90000)(n5:items.length=vs.length)(E0:∀i (ae:i<items.length),items[i]=A i++W i++Z i)
  (iT:∀i x w,i<vs.length->fK b h0 x w->K x->Y (m+3) (.fn eF) (.int .i64 (Int.ofNat i)::hT) x=.ret (.str (A i)) x)
  (WL:∀i x w,i<vs.length->fK b h0 x w->K x->Y (m+3) (.fn fz) (.int .i64 (Int.ofNat i)::hU) x=.ret (.str (Z i)) x)
  (pH:∀i (ae:i<vs.length) x w,fK b h0 x w->K x->w.length+(W i).length<=1000000->∃y,Y (m+3) (.fn 132) (vs[i]::n8 b) x=.ret (.aW []) y/\fK b h0 y (w++W i)/\hx b x y)
  {x:J}{w:aU}(ab:fK b h0 x w)(qa:K x)(au:w.length+(eu sep items).length<=1000000):
  ∃y,Y (m+4) (.fn 129) [v,.str sep,.fn eF [] hT,.fn fz [] hU,.ptr b 0,.ptr (b+1) 0] x=.ret (.aW []) y/\fK b h0 y (w++eu sep items)/\hx b x y:=by
 have dv:∀g,Ext b h0 g->bU Tryz.prog g 49 v=some (.int .i64 (Int.ofNat vs.length)):=λg x=>(aE.bH (dT.ext x (Nat.le_refl _))).len (t:=49) (e:=47) (by kernel_rfl)
 refine Ww (m+3) v sep eF fz b (b+1) hT hU x (R:=λr=>∃y,r=.ret (.aW []) y/\fK b h0 y (w++eu sep items)/\hx b x y) ⟨vs.length,dv x ab.ext,?_⟩
 refine bw.loop (by kernel_rfl) (λk st=>∃i y Γ,st=⟨Γ,[],.none,y⟩/\cC [(1,.str sep),(2,.fn eF [] hT),(3,.fn fz [] hU),(4,.ptr b 0),(5,.ptr (b+1) 0),(12,v),(13,.int .i64 (Int.ofNat vs.length)),(14,.int .i64 (Int.ofNat i))] Γ/\vs.length-i=k/\i<=vs.length/\fK b h0 y (w++eu sep (items.take i))/\hx b x y/\K y) ?_ vs.length _ (by omega) ⟨0,x,_,rfl,⟨rfl,rfl,rfl,rfl,rfl,rfl,rfl,rfl,trivial⟩,by omega,by omega,by simpa[eu] using ab,mr.refl _ _ _ _,qa⟩
 rintro k st ⟨i,y,Γ,rfl,dd,aw,ae,bg,hw,xV⟩
 by_cases aa:i<vs.length
 · have ad:i<items.length:=by omega
   rcases aE with⟨rfl,rfl⟩|⟨da,off,aB,rfl,af,gD,bl,aG⟩
   · simp at aa
   have t1:=xr sep items (i+1)
   have t2:=xq sep items ad
   have K6:=E0 i ad
   have item:∀y dI,fK b h0 y dI->K y->dI.length+(items[i]).length<=1000000->∃a ar,Y (m+3) (.fn eF) (.int .i64 (Int.ofNat i)::hT) y=.ret (.str a) ar/\∃b0 aZ,Y (m+3) (.fn 130) [.ptr b 0,.str a] ar=.ret (.aW [.int .i64 (Int.ofNat b0),.eO]) aZ/\aq aZ (b+1) 0=some (.fn 132 [] (n8 b))/\∃ch,Y (m+3) (.fn 132) (vs[i]::n8 b) aZ=.ret (.aW []) ch/\∃z dQ,Y (m+3) (.fn fz) (.int .i64 (Int.ofNat i)::hU) ch=.ret (.str z) dQ/\∃e2 eS,Y (m+3) (.fn 130) [.ptr b 0,.str z] dQ=.ret (.aW [.int .i64 (Int.ofNat e2),.eO]) eS/\fK b h0 eS (dI++items[i])/\hx b y eS:=by
    intro y dI K7 E1 fI
    rw[K6] at fI
    simp only[List.length_append] at fI
    obtain⟨aZ,c3,cK,e2⟩:=K7.ws m (A i) (by omega)
    obtain⟨ch,c4,jv,h6⟩:=pH i aa aZ _ cK (dq _ _ E1 e2) (by simp;omega)
    have WM:=dq _ _ (dq _ _ E1 e2) h6
    obtain⟨eS,rC,kH,wI⟩:=jv.ws m (Z i) (by simp;omega)
    refine⟨A i,y,iT i y _ aa K7 E1,_,aZ,c3,aH cK.one rfl,ch,c4,Z i,ch,WL i ch _ aa jv WM,_,eS,rC,?_,(e2.trans h6).trans wI⟩
    rw[K6]
    simpa only[List.append_assoc] using kH
   have rD:∀eS,fK b h0 eS (w++eu sep (items.take (i+1)))->hx b y eS->(dX (λs=>∃j,j<k/\(λk st=>∃i y Γ,st=⟨Γ,[],.none,y⟩/\cC [(1,.str sep),(2,.fn eF [] hT),(3,.fn fz [] hU),(4,.ptr b 0),(5,.ptr (b+1) 0),(12,.slice da off vs.length aB),(13,.int .i64 (Int.ofNat vs.length)),(14,.int .i64 (Int.ofNat i))] Γ/\vs.length-i=k/\i<=vs.length/\fK b h0 y (w++eu sep (items.take i))/\hx b x y/\K y) j s) (λcG cH=>∃(g:J) (b8:Env),cG=.exit 0/\cH=⟨b8,[],.none,g⟩/\cC [] b8/\∃y,an.ret (.aW []) g=.ret (.aW []) y/\fK b h0 y (w++eu sep items)/\hx b x y)) .nrm ⟨[(1,.str sep),(2,.fn eF [] hT),(3,.fn fz [] hU),(4,.ptr b 0),(5,.ptr (b+1) 0),(12,.slice da off vs.length aB),(13,.int .i64 (Int.ofNat vs.length)),(14,.int .i64 (Int.ofNat (i+1)))],[],.none,eS⟩:=λeS kH wI=>
    ⟨_,(by show vs.length-(i+1)<k;omega),i+1,eS,_,rfl,⟨rfl,rfl,rfl,rfl,rfl,rfl,rfl,rfl,trivial⟩,rfl,by omega,kH,hw.trans wI,dq _ _ xV wI⟩
   refine bw.pre (Wx (Y (m+3)) sep eF fz b (b+1) da off _ i 132 aB hT hU (n8 b) y ⟨λ_=>⟨aa,_,gE bg.ext af (gD i aa),λwo=>?_,λwo=>?_⟩,λak=>absurd aa ak⟩) dd rfl rfl rfl
   · rw[if_pos wo] at t2
     rw[t2] at t1
     simp only[List.length_append] at t1
     obtain⟨ao,c1,a8,b4⟩:=bg.ws m sep (by simp;omega)
     obtain⟨a,ar,c2,b0,aZ,c3,c4,ch,vc,z,dQ,rC,e2,eS,vd,kH,bS⟩:=item ao _ a8 (dq _ _ xV b4) (by simp;omega)
     exact⟨_,_,ao,c1,a,ar,c2,b0,_,aZ,c3,c4,ch,vc,z,dQ,rC,e2,_,eS,vd,by omega,rD eS (by rw[t2];simpa only[List.append_assoc] using kH) (b4.trans bS)⟩
   · rw[if_neg wo] at t2
     rw[t2] at t1
     have ep:items.take i=[]:=by rw[show i=0 by omega];rfl
     rw[ep] at bg
     obtain⟨a,ar,c2,b0,aZ,c3,c4,ch,vc,z,dQ,rC,e2,eS,vd,kH,bS⟩:=item y _ bg xV (by simp[eu];omega)
     exact⟨a,ar,c2,b0,_,aZ,c3,c4,ch,vc,z,dQ,rC,e2,_,eS,vd,by omega,rD eS (by rw[t2];simpa[eu] using kH) bS⟩
 · refine bw.pre (Wy (Y (m+3)) sep eF fz b (b+1) vs.length i hT hU v y ⟨aa,y,_,rfl,rfl,trivial,y,rfl,?_,hw⟩) dd rfl rfl rfl
   rw[List.take_of_length_le (by omega)] at bg
   exact bg
end Go.Proofs.cR
namespace Go.Proofs.cR
open Go aD Go.Proofs dE
set_option maxRecDepth 100000
set_option maxHeartbeats 1000000
theorem WN{k:Nat}(aa:1<=k)(bZ:k<=5):kO Tryz.prog 9 [.str [],.str [97,110,121],.str [105,110,116],.str [98,111,111,108],.str [115,116,114],.str [110,105,108]] (k*1)=some (.str (word k)):=by
 have:k=1\/k=2\/k=3\/k=4\/k=5:=by omega
 rcases this with rfl|rfl|rfl|rfl|rfl<;>rfl
theorem K8{a b c:aU}:(a++b++c).length=a.length+b.length+c.length:=by simp;omega
theorem K9:∀(K:Nat) (t:a5),sz t<=K->fe t=true->sz t<=100->∀(m b:Nat) (h0:J) (v:I),2*sz t+6<=m->cN b h0 t v->∀(x:J) (w:aU),fK b h0 x w->w.length+(wr t).length<=1000000->∃y,Y m (.fn 132) (v::n8 b) x=.ret (.aW []) y/\fK b h0 y (w++wr t)/\hx b x y
 |0,t,dq,_,_,_,_,_,_,_,_,_,_,_,_=>by
  have:=nV t
  omega
 |K+1,.mk k bD aJ xs rt,dq,tu,fO,m,b,h0,v,hm,aE,x,w,ab,au=>by
  obtain⟨R,cD,bR,cl,vs,bS,bf,up,rfl,ad,ax,aO,bZ,dj,ek⟩:=aE
  have dw:=xt _ tu
  rw[KX] at tu
  simp only[Bool.and_eq_true,decide_eq_true_eq] at tu
  obtain⟨⟨b4,jz⟩,jO,h1,xL⟩:=tu
  rw[okW] at dw
  simp only[Bool.and_eq_true,Bool.or_eq_true,decide_eq_true_eq] at dw
  obtain⟨⟨⟨⟨⟨_,_⟩,g8⟩,jB⟩,qa⟩,qb⟩:=dw
  rw[o4] at dq fO hm
  rw[rv] at au
  obtain⟨m,rfl⟩:∃j,m=j+5:=⟨m-5,by omega⟩
  have e3:=c6.len dj
  have kT:=nW xs
  have ie:=uS xs
  have lD:∀i (i2:i<xs.length),fe xs[i]=true:=λi i2=>An h1 (List.getElem_mem i2)
  have ba:∀(u:a5),sz u<=K->fe u=true->sz u<=100->∀(m b:Nat) (h0:J) (v:I),2*sz u+6<=m->cN b h0 u v->∀(x:J) (w:aU),fK b h0 x w->w.length+(wr u).length<=1000000->∃y,Y m (.fn 132) (v::n8 b) x=.ret (.aW []) y/\fK b h0 y (w++wr u)/\hx b x y:=K9 K
  rw[rv]
  obtain⟨H,c_⟩:∃H,H=x.push (.cells [.ptr R 0] 47 .own 0 0):=⟨_,rfl⟩
  have dW:Ext x.n x H:=by rw[c_];exact Ext.push (Nat.le_refl _) _
  have jC:H.n=x.n+1:=by rw[c_];rfl
  have iw:H.get x.n=some (.cells [.ptr R 0] 47 .own 0 0):=by rw[c_];exact fp rfl
  obtain⟨pc,xW⟩:=ab.AN dW
  have M_:=ab.n
  have fq:∀y s,fK b h0 y s->y.get R=some (.cells [.int .i64 (Int.ofNat k),.str bD,cD,bR,cl] 51 bS bf up):=λy s bg=>(bg.ext.get R ad).trans ax
  have rE:∀y,hx b H y->y.get x.n=some (.cells [.ptr R 0] 47 .own 0 0):=λy k=>(k.own (by omega) (by omega) iw).2
  have AO:∀n y s,fK b h0 y s->fK b h0 (y.room n) s/\hx b y (y.room n):=λn y s bg=>bg.AN (Ext.room _ y n)
  have item:∀i (ae:i<vs.length) y s,fK b h0 y s->s.length+(wn (cB xs) i).length<=1000000->∃z,Y (m+3) (.fn 132) (vs[i]::n8 b) y=.ret (.aW []) z/\fK b h0 z (s++wn (cB xs) i)/\hx b y z:=λi ae y s bg au=>by
   have i2:i<xs.length:=by omega
   have a4:=ki (List.getElem_mem i2)
   rw[show wn (cB xs) i=wr xs[i] by simp[wn,ie,i2,uT xs i i2]] at au⊢
   exact ba xs[i] (by omega) (lD i i2) (by omega) (m+3) b h0 vs[i] (by omega) (c6.get dj i ae i2) y s bg au
  refine WB (m+4) b (b+2) (b+3) (b+1) R k bD bR cl x (R:=λr=>∃y,r=.ret (.aW []) y/\fK b h0 y (w++dE.shape k bD aJ (xs.map a5.k) (cB xs) (kj rt))/\hx b x y) ?_
  rw[<-c_]
  refine⟨aH iw rfl,aH (fq H _ pc) rfl,λfg=>?_,λfg=>⟨λeI=>?_,λeI=>⟨λfP=>?_,λfP=>⟨λfE=>?_,λfE=>?_⟩⟩⟩⟩
  · subst fg
    have:(bD:aU).length<=161:=by
     have:k9 bD=true:=by simpa[gm] using xL
     unfold k9 at this
     simp only[Bool.and_eq_true,decide_eq_true_eq] at this
     exact this.1.2
    obtain⟨y,c,E2,k⟩:=pc.ws (m+1) bD (by omega)
    exact⟨aH iw rfl,aH (fq H _ pc) rfl,_,_,y,c,y,rfl,E2,xW.trans k⟩
  · subst eI
    have tk:xs.length=aJ.length:=by rcases g8 with g8|g8;exact absurd rfl g8;exact g8
    have hs:dE.shape 7 bD aJ (xs.map a5.k) (cB xs) (kj rt)=[123]++eu [44,32] (gL aJ (cB xs))++[125]:=rfl
    rw[hs] at au⊢
    rw[K8] at au
    simp only[List.length_cons,List.length_nil] at au
    have n5:(gL aJ (cB xs)).length=vs.length:=by unfold gL;rw[List.length_zipWith];omega
    obtain⟨ao,c1,a8,b4⟩:=pc.ws (m+1) [123] (by simp;omega)
    obtain⟨cA,ve⟩:=AO 8 ao _ a8
    have tv:=b4.trans ve
    obtain⟨ar,c2,aI,b0⟩:=EZ m (v:=bR) (vs:=vs) [44,32] 133 131 [.ptr x.n 0] [] (λi=>wn aJ i++[58,32]) (wn (cB xs)) (λ_=>[]) (gL aJ (cB xs)) (λy=>hx b H y) (λ_ _ k dA=>k.trans dA) bZ (by omega) n5 (λi ae=>by
      have i1:i<aJ.length:=by omega
      have i2:i<(cB xs).length:=by omega
      rw[ED ae i1 i2];simp[wn,i1,i2]) (λi y s ae bg aw=>by
      have i1:i<aJ.length:=by omega
      rcases aO.strs with⟨_,rfl⟩|⟨WO,off,aB,rfl,af,gD⟩
      · simp at i1
      refine Wz (m+2) i x.n y (R:=λr=>r=_) ⟨R,aH (rE y aw) rfl,WO,off,_,aB,aH (fq y s bg) rfl,i1,aJ[i],gE bg.ext af (gD i i1),?_,?_⟩
      · have t2:=tf [44,32] (gL aJ (cB xs)) (i:=i) (by omega)
        rw[ED (by omega) i1 (by omega)] at t2
        simp at t2⊢;omega
      · simp[wn,i1])
     (λi y s ae bg aw=>EY (m+2) i y (R:=λr=>r=_) rfl) (λi ae y s bg aw au=>item i ae y s bg au) cA tv (by simp;omega)
    obtain⟨aZ,c3,cK,e2⟩:=aI.ws (m+1) [125] (by simp;omega)
    refine⟨_,_,ao,c1,aH cA.vb rfl,aH (rE _ tv) rfl,aH (fq _ _ cA) rfl,aH cA.nN rfl,ar,c2,bZ.snd,_,_,aZ,c3,aZ,rfl,by simpa only[List.append_assoc] using cK,xW.trans (tv.trans (b0.trans e2))⟩
  · subst fP
    have hs:dE.shape 8 bD aJ (xs.map a5.k) (cB xs) (kj rt)=[102,110,40]++eu [44,32] (cB xs)++[41,32,45,62,32]++kj rt:=rfl
    rw[hs] at au⊢
    rw[List.length_append,K8] at au
    simp only[List.length_cons,List.length_nil] at au
    obtain⟨ao,c1,a8,b4⟩:=pc.ws (m+1) [102,110,40] (by simp;omega)
    obtain⟨cA,ve⟩:=AO 8 ao _ a8
    have tv:=b4.trans ve
    obtain⟨ar,c2,aI,b0⟩:=EZ m (v:=bR) (vs:=vs) [44,32] 131 131 [] [] (λ_=>[]) (wn (cB xs)) (λ_=>[]) (cB xs) (λy=>hx b H y) (λ_ _ k dA=>k.trans dA) bZ (by omega) (by omega) (λi ae=>by simp[wn,ae]) (λi y s ae bg aw=>EY (m+2) i y (R:=λr=>r=_) rfl)
     (λi y s ae bg aw=>EY (m+2) i y (R:=λr=>r=_) rfl) (λi ae y s bg aw au=>item i ae y s bg au) cA tv (by simp;omega)
    obtain⟨aZ,c3,cK,e2⟩:=aI.ws (m+1) [41,32,45,62,32] (by simp;omega)
    obtain⟨E3,WQ⟩:=AO 6 aZ _ cK
    have K_:=tv.trans (b0.trans (e2.trans WQ))
    cases rt with
    |none=>rcases jB with jB|jB<;>simp at jB
    |some u=>
     rw[im] at dq fO hm
     have qc:kj (some u)=wr u:=by rw[kj]
     rw[qc] at au⊢
     have WR:fe u=true:=by simpa[gm,iZ] using xL
     obtain⟨ch,c4,jv,h6⟩:=ba u (by omega) WR (by omega) (m+4) b h0 cl (by omega) ek (aZ.room 6) _ E3 (by simp;omega)
     exact⟨_,_,ao,c1,aH cA.vb rfl,aH (rE _ tv) rfl,aH (fq _ _ cA) rfl,aH cA.nN rfl,aH cA.nN rfl,ar,c2,bZ.snd,_,_,aZ,c3,aH E3.one rfl,aH (rE _ K_) rfl,aH (fq _ _ E3) rfl,ch,c4,cE.snd (ot:=some u) ek,ch,rfl,by simpa only[List.append_assoc] using jv,xW.trans (K_.trans h6)⟩
  · subst fE
    have hs:dE.shape 9 bD aJ (xs.map a5.k) (cB xs) (kj rt)=eu [32,124,32] (hi (xs.map a5.k) (cB xs)):=rfl
    rw[hs] at au⊢
    have n5:(hi (xs.map a5.k) (cB xs)).length=vs.length:=by unfold hi;rw[List.length_zipWith,List.length_map];omega
    obtain⟨cA,ve⟩:=AO 10 H _ pc
    obtain⟨ao,e9⟩:∃g,g=(H.room 10).push (.cells [.str [40]] 9 .own 0 0):=⟨_,rfl⟩
    obtain⟨ar,o8⟩:∃g,g=ao.push (.cells [.str [41]] 9 .own 0 0):=⟨_,rfl⟩
    have aQ:ao.n=(H.room 10).n+1:=by rw[e9];rfl
    have bI:ar.n=ao.n+1:=by rw[o8];rfl
    have bh:Ext (H.room 10).n (H.room 10) ao:=by rw[e9];exact Ext.push (Nat.le_refl _) _
    have bz:Ext ao.n ao ar:=by rw[o8];exact Ext.push (Nat.le_refl _) _
    obtain⟨a8,b4⟩:=cA.AN bh
    obtain⟨aI,b0⟩:=a8.AN bz
    have aV:ar.get (H.room 10).n=some (.cells [.str [40]] 9 .own 0 0):=(bz.get _ (by omega)).trans (by rw[e9];exact fp rfl)
    have aN:ar.get ao.n=some (.cells [.str [41]] 9 .own 0 0):=by rw[o8];exact fp rfl
    have aaw:=cA.n
    have La:=ve.trans b4
    have E4:=La.trans b0
    have xI:∀i (ae:i<vs.length),∃M,vs[i]=.ptr M 0/\∀y,Ext b h0 y->aq y M (0+0)=some (.int .i64 (Int.ofNat ((xs.map a5.k)[i]?.getD 0))):=λi ae=>by
     have i2:i<xs.length:=by omega
     obtain⟨M,h8,p_⟩:=(c6.get dj i ae i2).kind
     exact⟨M,h8,λy e=>by rw[p_ y e];simp[i2]⟩
    have nm:∀(q:Nat) (mk:aU),(∀y,hx b ar y->y.get q=some (.cells [.str mk] 9 .own 0 0))->∀i y s,i<vs.length->fK b h0 y s->hx b ar y->Y (m+3) (.fn 135) [.int .i64 (Int.ofNat i),.ptr x.n 0,.ptr q 0] y=.ret (.str (if(xs.map a5.k)[i]?.getD 0=8 then mk else[])) y:=λq mk bq i y s ae bg aw=>by
     obtain⟨M,h8,p_⟩:=xI i ae
     rcases bZ with⟨_,rfl⟩|⟨da,off,aB,rfl,af,gD,_⟩
     · simp at ae
     have aA:=gD i ae
     rw[h8] at aA
     refine WA (m+2) i x.n q y (R:=λr=>r=_) ⟨R,aH (rE y (E4.trans aw)) rfl,da,off,_,aB,aH (fq y s bg) rfl,ae,M,gE bg.ext af aA,_,p_ y bg.ext,λe=>⟨mk,aH (bq y aw) rfl,by rw[if_pos e]⟩,λe=>by rw[if_neg e]⟩
    obtain⟨aZ,c3,cK,e2⟩:=EZ m (v:=bR) (vs:=vs) [32,124,32] 135 135 [.ptr x.n 0,.ptr (H.room 10).n 0] [.ptr x.n 0,.ptr ao.n 0] (λi=>if(xs.map a5.k)[i]?.getD 0=8 then[40] else[]) (wn (cB xs)) (λi=>if(xs.map a5.k)[i]?.getD 0=8 then[41] else[]) (hi (xs.map a5.k) (cB xs)) (λy=>hx b ar y) (λ_ _ k dA=>k.trans dA) bZ (by omega) n5 (λi ae=>by
      have i1:i<(xs.map a5.k).length:=by rw[List.length_map];omega
      have i2:i<(cB xs).length:=by omega
      rw[Ko ae i1 i2,show(xs.map a5.k)[i]?.getD 0=(xs.map a5.k)[i] by rw[List.getElem?_eq_getElem i1];rfl,show wn (cB xs) i=(cB xs)[i] by simp[wn,i2]]
      split<;>simp)
     (nm _ [40] (λy k=>(k.own (by omega) (by omega) aV).2)) (nm _ [41] (λy k=>(k.own (by omega) (by omega) aN).2)) (λi ae y s bg aw au=>item i ae y s bg au) aI (mr.refl _ _ _ _) (by omega)
    refine⟨aH cA.vb rfl,aH (rE _ ve) rfl,aH (fq _ _ cA) rfl,_,ao,K1 (m+3) [40] x.n (H.room 10) (R:=λr=>r=_) (by rw[<-e9]),_,ar,K1 (m+3) [41] x.n ao (R:=λr=>r=_) (by rw[<-o8]),aZ,c3,aH aI.vb rfl,aH a8.vb rfl,aH (rE _ E4) rfl,aH (rE _ La) rfl,bZ.snd,aH (fq _ _ aI) rfl,aH (fq _ _ a8) rfl,aZ,rfl,cK,xW.trans (E4.trans e2)⟩
  · have hs:dE.shape k bD aJ (xs.map a5.k) (cB xs) (kj rt)=word k:=by
      unfold dE.shape
      rw[if_neg fg,if_neg eI,if_neg fP,if_neg fE]
    rw[hs] at au⊢
    obtain⟨y,c,E2,xV⟩:=pc.ws (m+1) (word k) (by omega)
    exact⟨aH iw rfl,aH (fq H _ pc) rfl,word k,⟨by omega,WN b4 (by omega)⟩,_,_,y,c,y,rfl,E2,xW.trans xV⟩
theorem WS:KY:=λu tu fO m B h v hm bO aE=>by
 obtain⟨m,rfl⟩:∃j,m=j+2:=⟨m-2,by omega⟩
 have ie:=Ao u tu
 obtain⟨R,rfl⟩:∃R,v=.ptr R 0:=by
  cases u with
  |mk b4 b0 e2 h6 nL=>obtain⟨R,_,_,_,_,_,_,_,rfl,_⟩:=aE;exact⟨R,rfl⟩
 refine WC (m+1) R h ?_
 obtain⟨du,eL⟩:∃p,p=h.push (.cells [.aR,.a_] 166 .own 0 0):=⟨_,rfl⟩
 obtain⟨dp,et⟩:∃p,p=du.push (.cells [.fi] 127 .own 0 0):=⟨_,rfl⟩
 obtain⟨l8,vf⟩:∃p,p=dp.push (.cells [.fi] 172 .own 0 0):=⟨_,rfl⟩
 rw[<-eL,<-et,<-vf]
 have aQ:du.n=h.n+1:=by rw[eL];rfl
 have bI:dp.n=h.n+2:=by rw[et];show du.n+1=_;omega
 have cr:l8.n=h.n+3:=by rw[vf];show dp.n+1=_;omega
 rw[aQ,bI]
 obtain⟨oA,AP⟩:∃p,p=l8.set (h.n+2) (some (.cells [.fn 129 [] [.ptr h.n 0,.ptr (h.n+1) 0]] 172 .own 0 0)):=⟨_,rfl⟩
 have cF:oA.n=h.n+3:=by rw[AP];exact cr
 have st1:aD.storeCells l8 (h.n+2) 0 [.fn 129 [] [.ptr h.n 0,.ptr (h.n+1) 0]]=some oA:=by
  rw[AP];exact iG (cs:=[.fi]) (by rw[vf];exact fp bI.symm) rfl rfl
 obtain⟨E5,xX⟩:∃p,p=oA.push (.cells [.fi] 167 .own 0 0):=⟨_,rfl⟩
 obtain⟨vg,xY⟩:∃p,p=E5.set (h.n+3) (some (.cells [.fn 131 [] []] 167 .own 0 0)):=⟨_,rfl⟩
 have dk:vg.n=h.n+4:=by rw[xY];show E5.n=_;rw[xX];show oA.n+1=_;omega
 have j_:aD.storeCells E5 (h.n+3) 0 [.fn 131 [] []]=some vg:=by
  rw[xY];exact iG (cs:=[.fi]) (by rw[xX];exact fp cF.symm) rfl rfl
 have dQ:∀d,d≠h.n+2->d<h.n+3->vg.get d=l8.get d:=λd aa ad=>by
  rw[xY,J.b_,if_neg (by omega),xX,J.eA,if_neg (by omega),AP,J.b_,if_neg aa]
 have aN:l8.get (h.n+1)=some (.cells [.fi] 127 .own 0 0):=by
  rw[vf,J.eA,if_neg (by omega),et];exact fp aQ.symm
 have aV:l8.get h.n=some (.cells [.aR,.a_] 166 .own 0 0):=by
  rw[vf,J.eA,if_neg (by omega),et,J.eA,if_neg (by omega),eL];exact fp rfl
 obtain⟨vh,rF⟩:∃p,p=vg.set (h.n+1) (some (.cells [.fn 132 [] (n8 h.n)] 127 .own 0 0)):=⟨_,rfl⟩
 have WT:aD.storeCells vg (h.n+1) 0 [.fn 132 [] (n8 h.n)]=some vh:=by
  rw[rF];exact iG (cs:=[.fi]) ((dQ _ (by omega) (by omega)).trans aN) rfl rfl
 have eM:vh.n=h.n+4:=by rw[rF];exact dk
 have eI:Ext h.n h vh:=⟨by omega,λd aG=>by
  rw[rF,J.b_,if_neg (by omega),dQ d (by omega) (by omega),vf,J.eA,if_neg (by omega),et,J.eA,if_neg (by omega),eL,J.eA,if_neg (by omega)]⟩
 have box:fK h.n h vh []:=by
  refine⟨⟨.aR,.a_,?_,.inl rfl,.inl ⟨rfl,rfl⟩,by omega,by omega,λ_=>rfl⟩,?_,?_,?_,eI⟩
  · rw[rF,J.b_,if_neg (by omega),dQ _ (by omega) (by omega)];exact aV
  · rw[rF];exact iF rfl
  · rw[rF,J.b_,if_neg (by omega),xY,J.b_,if_neg (by omega),xX,J.eA,if_neg (by omega),AP];exact iF rfl
  · rw[rF,J.b_,if_neg (by omega),xY];exact iF rfl
 obtain⟨y,c1,a8,b4⟩:=K9 (sz u) u (Nat.le_refl _) tu fO (m+1) h.n h (.ptr R 0) (by omega) (cN.le bO _ _ aE) vh [] box (by simp;omega)
 rw[List.nil_append] at a8
 obtain⟨z,c2,bz⟩:=WK m h.n (h.n+4) y (wr u) a8.AM (by omega)
 refine⟨oA,st1,vg,?_,vh,?_,n8 h.n,?_,y,c1,wr u,z,c2,bK.mk ⟨?_,λd aG=>?_⟩⟩
 · rw[cF,<-xX];exact j_
 · rw[cF];exact WT
 · rw[rF];exact aH (iF rfl) rfl
 · have:=b4.x.n;have:=bz.n;omega
 · rw[bz.get d (by omega),b4.x.get d (by omega) (by omega),eI.get d (by omega)]
theorem WU{ot:Option a5}{B:Nat}{h:J}{v:I}(m:Nat)(fO:c8 ot<=90000)(aK:∀t,ot=some t->g6 t<=90000)(hm:4*c8 ot+20<=m)(bO:B<=h.n)(aE:cE B h ot v):
  bK B h (.int .i64 (Int.ofNat (kK ot))) (Y (m+1) (.fn 76) [v] h):=by
 cases ot with
 |none=>
  obtain rfl:v=.aR:=aE
  exact V4 m h (bK.mk (Ext.refl _ _))
 |some t=>
  have bL:c8 (some t)=sz t:=im t
  obtain⟨R,rfl⟩:∃R,v=.ptr R 0:=by
   cases t with
   |mk b4 b0 e2 h6 nL=>obtain⟨R,_,_,_,_,_,_,_,rfl,_⟩:=aE;exact⟨R,rfl⟩
  obtain⟨m,rfl⟩:∃j,m=j+1:=⟨m-1,by omega⟩
  obtain⟨ao,c1,bh⟩:=Em (m-1) fO bO aE (by omega)
  replace bh:=bh.le bO
  rw[show m-1+2=m+1 by omega] at c1
  rw[bL] at c1 fO hm
  refine V3 (m+1) R h ⟨_,ao,c1,λn0=>?_,λn0=>?_⟩
  · exact bK.of (by rw[kK,if_pos (by omega)]) bh
  · obtain⟨ar,c2,bz⟩:=KZ WS (sz t) t (Nat.le_refl _) (by omega) (aK t rfl) (m+1) B ao (.ptr R 0) (by omega) (Nat.le_trans bO bh.n) (cN.bH (dT.ext bh (Nat.le_refl _)) _ _ aE)
    have Lb:=bh.trans (Nat.le_refl _) bz
    refine⟨_,ar,c2,λaf=>?_,λaf=>?_⟩
    · have:fe t=true:=by simpa using af
      exact bK.of (by rw[kK,if_neg (by omega),if_pos this]) Lb
    · have:fe t=false:=by simpa using af
      exact bK.of (by rw[kK,if_neg (by omega),if_neg (by rw[this];simp)]) Lb
end Go.Proofs.cR
