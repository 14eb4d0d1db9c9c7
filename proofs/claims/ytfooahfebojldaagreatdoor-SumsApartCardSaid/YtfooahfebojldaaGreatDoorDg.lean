/-
  PROVED HERE: contracts of functions (Dg). No condition beside each statement's own.
-/
import Derived.Test.YtfooahfebojldaaGreatDoorDf
import Derived.Test.YtfooahfebojldaaGreatDoorTx
set_option linter.unusedVariables false
set_option linter.unusedSimpArgs false
namespace Go.Proofs.b0
open Go aw Go.Proofs cu
set_option maxRecDepth 100000
set_option maxHeartbeats 1000000
theorem SS(m:Nat)(r:Nat)(h:J){R:av->Prop}(H:∃aI:Nat,ay h r (0+0)=some (.int .i64 (.ofNat aI))/\∃s1:List UInt8,ay h r (0+1)=some (.str s1)/\(bR s1 []=true->∃v1:I,ay h r (0+2)=some v1/\∃bw:Nat,cb Tryz.prog h 48 v1=some (.int .i64 (.ofNat bw))/\(bw=0->∃v2:I,ay h r (0+3)=some v2/\∃cH:Nat,cb Tryz.prog h 49 v2=some (.int .i64 (.ofNat cH))/\(cH=0->∃cZ:Nat,ay h r (0+4)=some (.ptr cZ 0)/\R (.ret (.bool (fe true (cU (.ofNat aI) (.ofNat 8)))) h))/\(¬cH=0->(7<=aI->∃eG:Nat,ay h r (0+4)=some (.ptr eG 0)/\R (.ret (.bool (fe true (cU (.ofNat aI) (.ofNat 8)))) h))/\(¬7<=aI->R (.ret (.bool false) h))))/\(¬bw=0->(aI=7->∃cX:I,ay h r (0+3)=some cX/\∃fg:Nat,cb Tryz.prog h 49 cX=some (.int .i64 (.ofNat fg))/\(fg=0->∃iE:Nat,ay h r (0+4)=some (.ptr iE 0)/\R (.ret (.bool (fe true (cU (.ofNat aI) (.ofNat 8)))) h))/\(¬fg=0->(7<=aI->∃sP:Nat,ay h r (0+4)=some (.ptr sP 0)/\R (.ret (.bool (fe true (cU (.ofNat aI) (.ofNat 8)))) h))/\(¬7<=aI->R (.ret (.bool false) h))))/\(¬aI=7->R (.ret (.bool false) h))))/\(bR s1 []=false->(aI=6->∃v4:I,ay h r (0+2)=some v4/\∃pq:Nat,cb Tryz.prog h 48 v4=some (.int .i64 (.ofNat pq))/\(pq=0->∃ie:I,ay h r (0+3)=some ie/\∃pr:Nat,cb Tryz.prog h 49 ie=some (.int .i64 (.ofNat pr))/\(pr=0->∃SU:Nat,ay h r (0+4)=some (.ptr SU 0)/\R (.ret (.bool (fe true (cU (.ofNat aI) (.ofNat 8)))) h))/\(¬pr=0->(7<=aI->∃SV:Nat,ay h r (0+4)=some (.ptr SV 0)/\R (.ret (.bool (fe true (cU (.ofNat aI) (.ofNat 8)))) h))/\(¬7<=aI->R (.ret (.bool false) h))))/\(¬pq=0->(aI=7->∃v6:I,ay h r (0+3)=some v6/\∃Ds:Nat,cb Tryz.prog h 49 v6=some (.int .i64 (.ofNat Ds))/\(Ds=0->∃SW:Nat,ay h r (0+4)=some (.ptr SW 0)/\R (.ret (.bool (fe true (cU (.ofNat aI) (.ofNat 8)))) h))/\(¬Ds=0->(7<=aI->∃SX:Nat,ay h r (0+4)=some (.ptr SX 0)/\R (.ret (.bool (fe true (cU (.ofNat aI) (.ofNat 8)))) h))/\(¬7<=aI->R (.ret (.bool false) h))))/\(¬aI=7->R (.ret (.bool false) h))))/\(¬aI=6->R (.ret (.bool false) h)))):
  R (Y (m+1) (.fn 101) [.ptr r 0] h):=
 dd (intr:=bW) [] [(0,.v (.ptr r 0))] Tryz.func101 (by kernel_rfl) (by kernel_rfl) (by kernel_rfl) rfl (Eq.mp (by kernel_rfl) H)
theorem SY(m:Nat)(r:Nat)(h:J){R:av->Prop}(H:∃aI:Nat,ay h r (0+0)=some (.int .i64 (.ofNat aI))/\∃s1:List UInt8,ay h r (0+1)=some (.str s1)/\(bR s1 []=true->∃v1:I,ay h r (0+2)=some v1/\∃bw:Nat,cb Tryz.prog h 48 v1=some (.int .i64 (.ofNat bw))/\(bw=0->∃v2:I,ay h r (0+3)=some v2/\∃cH:Nat,cb Tryz.prog h 49 v2=some (.int .i64 (.ofNat cH))/\(cH=0->ay h r (0+4)=some .bd/\R (.ret (.bool (fe false (cU (.ofNat aI) (.ofNat 8)))) h))/\(¬cH=0->(7<=aI->ay h r (0+4)=some .bd/\R (.ret (.bool (fe false (cU (.ofNat aI) (.ofNat 8)))) h))/\(¬7<=aI->R (.ret (.bool false) h))))/\(¬bw=0->(aI=7->∃cX:I,ay h r (0+3)=some cX/\∃cZ:Nat,cb Tryz.prog h 49 cX=some (.int .i64 (.ofNat cZ))/\(cZ=0->ay h r (0+4)=some .bd/\R (.ret (.bool (fe false (cU (.ofNat aI) (.ofNat 8)))) h))/\(¬cZ=0->(7<=aI->ay h r (0+4)=some .bd/\R (.ret (.bool (fe false (cU (.ofNat aI) (.ofNat 8)))) h))/\(¬7<=aI->R (.ret (.bool false) h))))/\(¬aI=7->R (.ret (.bool false) h))))/\(bR s1 []=false->(aI=6->∃v4:I,ay h r (0+2)=some v4/\∃eG:Nat,cb Tryz.prog h 48 v4=some (.int .i64 (.ofNat eG))/\(eG=0->∃ie:I,ay h r (0+3)=some ie/\∃fg:Nat,cb Tryz.prog h 49 ie=some (.int .i64 (.ofNat fg))/\(fg=0->ay h r (0+4)=some .bd/\R (.ret (.bool (fe false (cU (.ofNat aI) (.ofNat 8)))) h))/\(¬fg=0->(7<=aI->ay h r (0+4)=some .bd/\R (.ret (.bool (fe false (cU (.ofNat aI) (.ofNat 8)))) h))/\(¬7<=aI->R (.ret (.bool false) h))))/\(¬eG=0->(aI=7->∃v6:I,ay h r (0+3)=some v6/\∃iE:Nat,cb Tryz.prog h 49 v6=some (.int .i64 (.ofNat iE))/\(iE=0->ay h r (0+4)=some .bd/\R (.ret (.bool (fe false (cU (.ofNat aI) (.ofNat 8)))) h))/\(¬iE=0->(7<=aI->ay h r (0+4)=some .bd/\R (.ret (.bool (fe false (cU (.ofNat aI) (.ofNat 8)))) h))/\(¬7<=aI->R (.ret (.bool false) h))))/\(¬aI=7->R (.ret (.bool false) h))))/\(¬aI=6->R (.ret (.bool false) h)))):
  R (Y (m+1) (.fn 101) [.ptr r 0] h):=
 dd (intr:=bW) [(45,.b1 (.is .bd))] [(0,.v (.ptr r 0))] Tryz.func101 (by kernel_rfl) (by kernel_rfl) (by kernel_rfl) rfl (Eq.mp (by kernel_rfl) H)
theorem SZ(m:Nat)(r:Nat)(h:J){R:av->Prop}(H:∃aI:Nat,ay h r (0+0)=some (.int .i64 (.ofNat aI))/\(aI<1->R (.ret (.bool false) h))/\(¬aI<1->∃bw:Nat,ay h r (0+0)=some (.int .i64 (.ofNat bw))/\(9<bw->R (.ret (.bool false) h))/\(¬9<bw->∃a4:Bool,∃al:J,(Y m) (.fn 101) [.ptr r 0] h=.ret (.bool a4) al/\(a4=true->∃v1:I,ay al r (0+3)=some v1/\∃a_:Bool,∃au:J,(Y m) (.fn 103) [v1,.fn 102 [] []] al=.ret (.bool a_) au/\(a_=true->R (.ret (.bool false) au))/\(a_=false->∃cH:Nat,ay au r (0+0)=some (.int .i64 (.ofNat cH))/\(cH=6->∃s1:List UInt8,ay au r (0+1)=some (.str s1)/\∃cO:Bool,∃a7:J,(Y m) (.fn 104) [.str s1,.str [45,47,46],.int .i64 (.ofNat 161)] au=.ret (.bool cO) a7/\R (.ret (.bool cO) a7))/\(¬cH=6->(cH=7->∃v2:I,ay (au.room 27) r (0+2)=some v2/\∃cZ:Nat,cb Tryz.prog (au.room 27) 48 v2=some (.int .i64 (.ofNat cZ))/\∃cX:I,ay (au.room 27) r (0+3)=some cX/\∃eG:Nat,cb Tryz.prog (au.room 27) 49 cX=some (.int .i64 (.ofNat eG))/\(cZ=eG->∃v4:I,ay (au.room 27) r (0+2)=some v4/\∃hD:Bool,∃b8:J,(Y m) (.fn 105) [v4,.fn 106 [] []] (au.room 27)=.ret (.bool hD) b8/\(hD=true->I.sound v2=true/\I.sound cX=true/\I.sound v4=true/\R (.ret (.bool false) b8))/\(hD=false->∃ie:I,ay b8 r (0+2)=some ie/\∃n8:Bool,∃db:J,(Y m) (.fn 108) [ie,.fn 109 [] []] b8=.ret (.bool n8) db/\I.sound v2=true/\I.sound cX=true/\I.sound v4=true/\I.sound ie=true/\R (.ret (.bool n8) db)))/\(¬cZ=eG->I.sound v2=true/\I.sound cX=true/\R (.ret (.bool false) (au.room 27))))/\(¬cH=7->(cH=8->∃v6:I,ay au r (0+4)=some v6/\∃iC:Bool,∃e7:J,(Y m) (.fn 90) [v6] au=.ret (.bool iC) e7/\R (.ret (.bool iC) e7))/\(¬cH=8->(cH=9->∃wU:I,ay au r (0+3)=some wU/\∃fg:Nat,cb Tryz.prog au 49 wU=some (.int .i64 (.ofNat fg))/\(2<=fg->∃qT:I,ay au r (0+3)=some qT/\∃Dt:Bool,∃hj:J,(Y m) (.fn 103) [qT,.fn 110 [] []] au=.ret (.bool Dt) hj/\(Dt=true->R (.ret (.bool false) hj))/\(Dt=false->∃I9:I,ay hj r (0+3)=some I9/\∃I_:Bool,∃j6:J,(Y m) (.fn 111) [I9,.fn 112 [] []] hj=.ret (.bool I_) j6/\R (.ret (.bool I_) j6)))/\(¬2<=fg->R (.ret (.bool false) au)))/\(¬cH=9->R (.ret (.bool true) au)))))))/\(a4=false->R (.ret (.bool false) al))))):
  R (Y (m+1) (.fn 90) [.ptr r 0] h):=
 dd (intr:=bW) [(76,.b1 .o)] [(0,.v (.ptr r 0))] Tryz.func90 (by kernel_rfl) (by kernel_rfl) (by kernel_rfl) rfl (Eq.mp (by kernel_rfl) H)
def ki:aJ:=[48,49,50,51,52,53,54,55,56,57]
theorem S0:((List.range 256).all λn=>fh (Int.ofNat 0) (mH n ki 0)==mg n)=true:=by decide
theorem S1(c:UInt8):fh (Int.ofNat 0) (mH c.toNat ki 0)=mg c.toNat:=by
 have:=List.all_eq_true.1 S0 c.toNat (by rw[List.mem_range];exact UInt8.toNat_lt c)
 simpa using this
theorem S2(n:Nat)(s:aJ)(c:Nat)(h:J)(ag:c<256):Y (n+1) (.fn 161) [.str s,.int .u8 (Int.ofNat c)] h=.ret (.int .i64 (mH c s 0)) h:=by
 have af:Nat.blt c 256=true:=by simpa[Nat.blt_eq] using ag
 have ae:bW 161 [.str s,.int .u8 (Int.ofNat c)] h=none:=by kernel_rfl
 have sa:Tryz.f161.body=none:=by rfl
 have ab:th Tryz.prog Tryz.f161 Tryz.f161.name [.str s,.int .u8 (Int.ofNat c)] h=some (.int .i64 (mH c s 0),h):=by
  have aG:Tryz.f161.name= "internal/bytealg.IndexByteString" :=by rfl
  simp only[th,aG,if_true,af]
 simp only[Y,e4,ae,pP,Tryz.func161,sa,ab]
theorem S3(m:Nat)(c:UInt8)(h:J):Y (m+5) (.fn 118) [.str ki,.str [c]] h=.ret (.bool (mg c.toNat)) h:=by
 rw[<-S1]
 have c1:Y (m+2) (.fn 155) [.str ki,.int .u8 (Int.ofNat c.toNat)] h=.ret (.int .i64 (mH c.toNat ki 0)) h:=
  R0 (m+1) ki c.toNat h (R:=λx=>x=_) ⟨_,h,S2 m ki c.toNat h (UInt8.toNat_lt _),rfl⟩
 have c2:Y (m+3) (.fn 150) [.str ki,.str [c]] h=.ret (.int .i64 (mH c.toNat ki 0)) h:=
  RZ (m+2) ki c h (R:=λx=>x=_) ⟨by simp[mN,ki],by rfl,_,h,c1,rfl⟩
 have c3:Y (m+4) (.fn 144) [.str ki,.str [c]] h=.ret (.int .i64 (mH c.toNat ki 0)) h:=
  RY (m+3) ki [c] h (R:=λx=>x=_) ⟨_,h,c2,rfl⟩
 exact RX (m+4) ki [c] h (R:=λx=>x=_) ⟨_,h,c3,rfl⟩
theorem S4(n:Nat):(oe n&&mg n)=false:=by
 unfold oe mg
 simp only[Bool.and_eq_false_iff,Bool.or_eq_false_iff,decide_eq_false_iff_not]
 omega
theorem S5(m B:Nat)(s:aJ)(h:J)(bM:B<=h.n):bD B h (.bool (lB s)) (Y (m+6) (.fn 107) [.str s] h):=by
 obtain⟨g,c1,bb⟩:=IT (m+1) B og s [] 24 h bM (by omega) (.inl ⟨rfl,rfl⟩)
 refine RQ (m+5) s h ⟨_,g,c1,λaf=>?_,λaf=>?_⟩
 · simp only[Bool.and_eq_true,decide_eq_true_eq] at af
   obtain⟨⟨aa,ad⟩,ar⟩:=af
   cases s with
   |nil=>simp at aa
   |cons c s=>
    refine⟨[c],Ci wR (by simp),_,g,S3 m c g,bD.of (dM ?_) bb⟩
    have ag:og c.toNat=true:=by
     have:=List.all_eq_true.1 ar c (by simp)
     simpa using this
    have az:=S4 c.toNat
    unfold lB
    have bp:(c::s).all (λc=>oe c.toNat||mg c.toNat)=true:=ar
    rw[bp]
    have hw:(oe c.toNat||mg c.toNat)=true:=ag
    simp only[Ij,aa,ad,decide_true,Bool.true_and,Bool.and_true]
    revert az hw
    cases oe c.toNat<;>cases mg c.toNat<;>simp
 · refine bD.of (dM ?_) bb
   unfold lB
   have bp:s.all (λc=>oe c.toNat||mg c.toNat)=s.all (λc=>og c.toNat):=rfl
   rw[bp]
   revert af
   cases decide (1<=s.length)<;>cases decide (s.length<=24)<;>cases s.all (λc=>og c.toNat)<;>simp
def oo(k:Nat)(s:aJ)(N M:Nat)(o:Bool):Bool:=((bR s []||decide (k=6))&&((decide (N=0)||decide (k=7))&&(decide (M=0)||decide (7<=k))))&&(o==decide (k=8))
theorem S6(m:Nat){R:Nat}{h:J}{k:Nat}{s:aJ}{dF cB dg:I}{b3:fB}{a9 up N M:Nat}{o:Bool}(aj:h.get R=some (.cells [.int .i64 (Int.ofNat k),.str s,dF,cB,dg] 51 b3 a9 up))(aG:cb Tryz.prog h 48 dF=some (.int .i64 (Int.ofNat N)))(aB:cb Tryz.prog h 49 cB=some (.int .i64 (Int.ofNat M)))(a2:(dg=.bd/\o=false)\/(∃q,dg=.ptr q 0)/\o=true):
  Y (m+1) (.fn 101) [.ptr R 0] h=.ret (.bool (oo k s N M o)) h:=by
 have jk:=zB k 8
 have fin:∀(b j0:Bool),b=j0->(av.ret (.bool b) h=.ret (.bool j0) h):=λb j0 e=>by rw[e]
 rcases a2 with⟨rfl,rfl⟩|⟨⟨q,rfl⟩,rfl⟩
 · refine SY m R h (R:=λx=>x=.ret (.bool (oo k s N M false)) h) ⟨k,ba aj rfl,s,ba aj rfl,λaa=>⟨dF,ba aj rfl,N,aG,λad=>⟨cB,ba aj rfl,M,aB,λar=>⟨ba aj rfl,fin _ _ ?_⟩,λar=>⟨λaM=>⟨ba aj rfl,fin _ _ ?_⟩,λaM=>fin _ _ ?_⟩⟩,λad=>⟨λar=>⟨cB,ba aj rfl,M,aB,λaM=>⟨ba aj rfl,fin _ _ ?_⟩,λaM=>⟨λbS=>⟨ba aj rfl,fin _ _ ?_⟩,λbS=>fin _ _ ?_⟩⟩,λar=>fin _ _ ?_⟩⟩,λaa=>⟨λh0=>⟨dF,ba aj rfl,N,aG,λad=>⟨cB,ba aj rfl,M,aB,λar=>⟨ba aj rfl,fin _ _ ?_⟩,λar=>⟨λaM=>⟨ba aj rfl,fin _ _ ?_⟩,λaM=>fin _ _ ?_⟩⟩,λad=>⟨λar=>⟨cB,ba aj rfl,M,aB,λaM=>⟨ba aj rfl,fin _ _ ?_⟩,λaM=>⟨λbS=>⟨ba aj rfl,fin _ _ ?_⟩,λbS=>fin _ _ ?_⟩⟩,λar=>fin _ _ ?_⟩⟩,λh0=>fin _ _ ?_⟩⟩<;>
    (unfold oo;(try simp only[fe,jk]);simp_all<;>omega)
 · refine SS m R h (R:=λx=>x=.ret (.bool (oo k s N M true)) h) ⟨k,ba aj rfl,s,ba aj rfl,λaa=>⟨dF,ba aj rfl,N,aG,λad=>⟨cB,ba aj rfl,M,aB,λar=>⟨q,ba aj rfl,fin _ _ ?_⟩,λar=>⟨λaM=>⟨q,ba aj rfl,fin _ _ ?_⟩,λaM=>fin _ _ ?_⟩⟩,λad=>⟨λar=>⟨cB,ba aj rfl,M,aB,λaM=>⟨q,ba aj rfl,fin _ _ ?_⟩,λaM=>⟨λbS=>⟨q,ba aj rfl,fin _ _ ?_⟩,λbS=>fin _ _ ?_⟩⟩,λar=>fin _ _ ?_⟩⟩,λaa=>⟨λh0=>⟨dF,ba aj rfl,N,aG,λad=>⟨cB,ba aj rfl,M,aB,λar=>⟨q,ba aj rfl,fin _ _ ?_⟩,λar=>⟨λaM=>⟨q,ba aj rfl,fin _ _ ?_⟩,λaM=>fin _ _ ?_⟩⟩,λad=>⟨λar=>⟨cB,ba aj rfl,M,aB,λaM=>⟨q,ba aj rfl,fin _ _ ?_⟩,λaM=>⟨λbS=>⟨q,ba aj rfl,fin _ _ ?_⟩,λbS=>fin _ _ ?_⟩⟩,λar=>fin _ _ ?_⟩⟩,λh0=>fin _ _ ?_⟩⟩<;>
    (unfold oo;(try simp only[fe,jk]);simp_all<;>omega)
end Go.Proofs.b0
namespace Go.Proofs.b0
open Go aw Go.Proofs cu
set_option maxRecDepth 100000
set_option maxHeartbeats 1000000
def wn(l:List aJ)(i:Nat):aJ:=(l[i]?).getD []
def px(p:Option aJ):List aJ->Bool
 |[]=>true
 |x::l=>pj p x&&px (some x) l
theorem Du:∀(p:Option aJ) (l:List aJ),m9 p l=(l.all lB&&px p l)
 |p,[]=>rfl
 |p,x::l=>by
  rw[m9,px,Du (some x) l,List.all_cons]
  cases lB x<;>cases pj p x<;>cases l.all lB<;>rfl
theorem Dv:∀(p:Option aJ) (hE:List Nat) (l:List aJ),hE.length=l.length->sK p hE l=(hE.all (λk=>decide (k≠9)&&decide (k≠1))&&px p l)
 |p,[],[],_=>rfl
 |p,[],_::_,h=>by simp at h
 |p,_::_,[],h=>by simp at h
 |p,k::hE,x::l,h=>by
  rw[Rw,px,Dv (some x) hE l (by simpa using h),List.all_cons]
  cases (decide (k≠9)&&decide (k≠1))<;>cases pj p x<;>cases hE.all (λk=>decide (k≠9)&&decide (k≠1))<;>rfl
theorem Ja:∀(p:Option aJ) (l:List aJ),px p l=true<->(∀x,l[0]? =some x->pj p x=true)/\∀i,i+1<l.length->eA (wn l i) (wn l (i+1))=true
 |p,[]=>by simp[px]
 |p,x::l=>by
  rw[px,Bool.and_eq_true,Ja (some x) l]
  constructor
  · rintro⟨aa,ad,ar⟩
    refine⟨λy aU=>by simp at aU;subst aU;exact aa,λi ae=>?_⟩
    cases i with
    |zero=>
     cases l with
     |nil=>simp at ae
     |cons y l=>simpa[wn,pj] using ad y (by simp)
    |succ i=>simpa[wn] using ar i (by simpa using ae)
  · rintro⟨aa,ad⟩
    refine⟨aa x (by simp),λy aU=>?_,λi ae=>?_⟩
    · cases l with
      |nil=>simp at aU
      |cons z l=>
       simp at aU
       subst aU
       simpa[wn,pj] using ad 0 (by simp)
    · simpa[wn] using ad (i+1) (by simpa using ae)
theorem Jb(l:List aJ):px none l=oj (wn l) l.length:=by
 rw[Bool.eq_iff_iff,Ja]
 unfold oj
 rw[Bool.not_eq_true',List.any_eq_false]
 constructor
 · rintro⟨_,h⟩ i ae
   rw[List.mem_range] at ae
   cases i with
   |zero=>simp
   |succ i=>simp[h i ae]
 · intro h
   refine⟨λ_ _=>rfl,λi ae=>?_⟩
   have:=h (i+1) (by rw[List.mem_range];exact ae)
   simpa using this
def qU(l:List Bool)(i:Nat):Bool:=(l[i]?).getD false
theorem Dw(l:List Bool):(List.range l.length).any (qU l)=l.any id:=by
 rw[Bool.eq_iff_iff,List.any_eq_true,List.any_eq_true]
 constructor
 · rintro⟨i,ae,h⟩
   rw[List.mem_range] at ae
   refine⟨l[i],List.getElem_mem ae,?_⟩
   simpa[qU,ae] using h
 · rintro⟨b,af,h⟩
   obtain⟨i,ae,rfl⟩:=List.getElem_of_mem af
   exact⟨i,by simpa using ae,by simpa[qU,ae] using h⟩
theorem Dx{α:Type}(f:α->Bool)(l:List α){i:Nat}(ae:i<l.length):qU (l.map f) i=f l[i]:=by simp[qU,ae]
theorem Jc:∀xs:List aZ,(xs.map (λu=>!fQ u)).any id=!kW xs
 |[]=>rfl
 |x::xs=>by
  rw[kW,List.map_cons,List.any_cons,Jc xs]
  cases fQ x<;>rfl
theorem Dy{α:Type}(f:α->Bool):∀l:List α,(l.map (λx=>!f x)).any id=!l.all f
 |[]=>rfl
 |x::l=>by
  rw[List.map_cons,List.any_cons,List.all_cons,Dy f l]
  cases f x<;>rfl
theorem Jd(k:Nat)(bP:aJ)(aW:List aJ)(xs:List aZ)(rt:Option aZ):fQ (.mk k bP aW xs rt)=((decide (1<=k)&&decide (k<=9))&&(oo k bP aW.length xs.length rt.isSome&&(kW xs&&hF k bP aW (xs.map aZ.k) (c9 xs) xs.length (lD rt)))):=by
 rw[zu]
 congr 1
 by_cases e:k=6/\bP=[]
 · obtain⟨rfl,rfl⟩:=e
   have:hF 6 [] aW (xs.map aZ.k) (c9 xs) xs.length (lD rt)=false:=by simp[hF,qP]
   rw[this];simp
 · congr 1
   unfold uv oo
   rw[sO]
   have cx:¬k=6\/¬bP=[]:=by
    by_cases h:k=6
    · right;intro ad;exact e ⟨h,ad⟩
    · exact .inl h
   have qK:(0<aW.length)=¬aW.length=0:=by simp[Nat.pos_iff_ne_zero]
   have eD:(0<xs.length)=¬xs.length=0:=by simp[Nat.pos_iff_ne_zero]
   have Br:(7<=k)=¬k<7:=by simp
   simp only[qK,eD,Br,ne_eq,decide_not]
   rcases cx with cx|cx<;>simp only[cx,decide_false]<;>cases decide (k=6)<;>cases decide (bP=[])<;>cases decide (aW.length=0)<;>cases decide (k=7)<;>cases decide (xs.length=0)<;>cases decide (k<7)<;>cases rt.isSome<;>cases decide (k=8)<;>rfl
abbrev Je:Prop:=∀(u:aZ),fQ u=true->sz u<=100->∀(m B:Nat) (h:J) (v:I),4*sz u+10<=m->B<=h.n->ef B h u v->bD B h (.str (wr u)) (Y m (.fn 112) [v] h)
theorem Jf(ix:Je):∀(K:Nat) (t:aZ),sz t<=K->sz t<=100->jv t<=90000->∀(m B:Nat) (h:J) (v:I),4*sz t+12<=m->B<=h.n->ef B h t v->bD B h (.bool (fQ t)) (Y m (.fn 90) [v] h)
 |0,t,dj,_,_,_,_,_,_,_,_,_=>by
  have:=qN t
  omega
 |K+1,.mk k bP aW xs rt,dj,gQ,nN,m,B,h,v,hm,bM,aB=>by
  obtain⟨R,dF,cB,dg,vs,b3,a9,up,rfl,ad,ar,aM,bS,cK,ew⟩:=aB
  rw[sI] at dj gQ hm
  rw[jv] at nN
  obtain⟨m,rfl⟩:∃j,m=j+5:=⟨m-5,by omega⟩
  have gH:=eg.len cK
  have nI:=uq xs
  have jD:=zs xs
  have wV:(aW.map I.str).length=aW.length:=List.length_map _
  have bg:∀(u:aZ),sz u<=K->sz u<=100->jv u<=90000->∀(m B:Nat) (h:J) (v:I),4*sz u+12<=m->B<=h.n->ef B h u v->bD B h (.bool (fQ u)) (Y m (.fn 90) [v] h):=Jf ix K
  rw[Jd]
  have a2:(dg=.bd/\rt.isSome=false)\/(∃q,dg=.ptr q 0)/\rt.isSome=true:=by
   cases rt with
   |none=>exact .inl ⟨ew,rfl⟩
   |some u=>
    cases u with
    |mk cY dr h2 m5 pa=>obtain⟨W,_,_,_,_,_,_,_,rfl,_⟩:=ew;exact .inr ⟨⟨W,rfl⟩,rfl⟩
  have wW:∀g,Ext B h g->cb Tryz.prog g 48 dF=some (.int .i64 (Int.ofNat aW.length)):=λg x=>by
   rw[<-wV];exact(aM.bZ (ey.ext x (Nat.le_refl _))).len (t:=48) (e:=9) (by kernel_rfl)
  have c6:∀g,Ext B h g->cb Tryz.prog g 49 cB=some (.int .i64 (Int.ofNat xs.length)):=λg x=>by
   rw[<-gH];exact(bS.bZ (ey.ext x (Nat.le_refl _))).len (t:=49) (e:=47) (by kernel_rfl)
  have a6:=S6 (m+3) (N:=aW.length) (M:=xs.length) (o:=rt.isSome) ar (wW h (Ext.refl _ _)) (c6 h (Ext.refl _ _)) a2
  have kb:∀g,Ext B h g->∀i (i1:i<vs.length) (i2:i<xs.length),ef B g xs[i] vs[i]:=λg x i i1 i2=>eg.get (eg.bZ (ey.ext x (Nat.le_refl _)) _ _ cK) i i1 i2
  refine SZ (m+4) R h ⟨k,ba ar rfl,λbG=>bD.of (dM (by simp;omega)) (Ext.refl _ _),λbG=>⟨k,ba ar rfl,λsL=>bD.of (dM (by simp;omega)) (Ext.refl _ _),λsL=>⟨_,h,a6,λaf=>?_,λaf=>?_⟩⟩⟩
  rotate_left
  · refine bD.of (dM ?_) (Ext.refl _ _)
    have:oo k bP aW.length xs.length rt.isSome=false:=by simpa using af
    rw[this];simp
  have nG:oo k bP aW.length xs.length rt.isSome=true:=by simpa using af
  have S7:(decide (1<=k)&&decide (k<=9))=true:=by simp;omega
  rw[S7,nG,Bool.true_and,Bool.true_and]
  obtain⟨g,c1,bb⟩:=IY (m+2) (B:=B) (h:=h) (v:=cB) (vs:=vs) 102 [] (qU (xs.map (λu=>!fQ u))) bS (by omega) (λi i1 x ab=>by
   have i2:i<xs.length:=by omega
   have aT:=m7 (List.getElem_mem i2)
   have aG:=wL (List.getElem_mem i2)
   obtain⟨g,c,y⟩:=bg xs[i] (by omega) (by omega) (by omega) (m+1) B x vs[i] (by omega) (Nat.le_trans bM ab.n) (kb x ab i i1 i2)
   rw[Dx _ _ i2]
   exact Sz (m+1) vs[i] x ⟨_,g,c,bD.of rfl y⟩)
  rw[show vs.length=(xs.map (λu=>!fQ u)).length by rw[List.length_map];exact gH,Dw,Jc] at c1
  refine⟨cB,ba ar rfl,_,g,c1,λaf=>?_,λaf=>?_⟩
  · refine bD.of (dM ?_) bb
    have:kW xs=false:=by simpa using af
    rw[this];rfl
  have hi:kW xs=true:=by simpa using af
  rw[hi,Bool.true_and]
  have aj:=(bb.get R ad).trans ar
  have lE:=Nat.le_trans bM bb.n
  have rJ:∀i (i2:i<xs.length),fQ xs[i]=true:=λi i2=>zt hi (List.getElem_mem i2)
  have fin:∀{v:I} {w:Bool} {x:av},w=hF k bP aW (xs.map aZ.k) (c9 xs) xs.length (lD rt)->bD B g (.bool w) x->bD B h (.bool (hF k bP aW (xs.map aZ.k) (c9 xs) xs.length (lD rt))) x:=by
   rintro v w x rfl ⟨ak,rfl,y⟩
   exact bD.mk (bb.trans (Nat.le_refl _) y)
  refine⟨k,ba aj rfl,λhv=>?_,λhv=>⟨λhM=>?_,λhM=>⟨λjk=>?_,λjk=>⟨λjW=>?_,λjW=>?_⟩⟩⟩⟩
  · subst hv
    obtain⟨a7,c3,cP⟩:=IT m B qO bP [45,47,46] 161 g lE (by omega) (.inr ⟨rfl,rfl⟩)
    exact⟨bP,ba aj rfl,_,a7,c3,fin (v:=.bd) (by simp[hF,qP]) (bD.mk cP)⟩
  · subst hM
    have Dz:hF 7 bP aW (xs.map aZ.k) (c9 xs) xs.length (lD rt)=(decide (aW.length=xs.length)&&m9 none aW):=by simp[hF]
    have qV:Ext B g (g.room 27):=Ext.room B g 27
    have nF:=bb.trans (Nat.le_refl _) qV
    have jI:=(qV.get R ad).trans aj
    have cZ:=aM.bZ (ey.ext nF (Nat.le_refl _))
    refine⟨dF,ba jI rfl,_,wW _ nF,cB,ba jI rfl,_,c6 _ nF,λaG=>?_,λaG=>⟨aM.snd,bS.snd,fin (v:=.bd) (by rw[Dz];simp[aG]) (bD.mk qV)⟩⟩
    obtain⟨a7,c3,cP⟩:=SG (m+2) (B:=B) (h:=g.room 27) (v:=dF) (vs:=aW.map .str) 106 [] (qU (aW.map (λs=>!lB s))) cZ (by omega) (λi i1 x ab=>by
     have i2:i<aW.length:=by omega
     obtain⟨g,c,y⟩:=S5 (m-5) B aW[i] x (Nat.le_trans (Nat.le_trans lE qV.n) ab.n)
     rw[Dx _ _ i2,List.getElem_map]
     rw[show m-5+6=m+1 by omega] at c
     exact SA (m+1) aW[i] x ⟨_,g,c,bD.of rfl y⟩)
    rw[show(aW.map I.str).length=(aW.map (λs=>!lB s)).length by simp,Dw,Dy] at c3
    refine⟨dF,ba jI rfl,_,a7,c3,λaf=>?_,λaf=>?_⟩
    rotate_left
    · have hf:aW.all lB=true:=by simpa using af
      have sU:=qV.trans (Nat.le_refl _) cP
      have zG:=nF.trans (Nat.le_refl _) cP
      have nV:=(sU.get R ad).trans aj
      obtain⟨b8,c4,iB⟩:=SN (m+1) (B:=B) (h:=a7) (v:=dF) (vs:=aW.map .str) 109 [] (wn aW) (Nat.le_trans lE sU.n) (aM.bZ (ey.ext zG (Nat.le_refl _))) (by omega) rfl (λi ae=>by rw[List.getElem_map];rfl) (λi ae=>⟨aW[i]'(by omega),by rw[List.getElem_map]⟩) (λi i1 x ab=>by
       have i2:i<aW.length:=by omega
       rw[List.getElem_map,show wn aW i=aW[i] by simp[wn,i2]]
       exact SB m aW[i] x (bD.mk (Ext.refl _ _)))
      rw[wV,<-Jb] at c4
      exact⟨dF,ba nV rfl,_,b8,c4,aM.snd,bS.snd,aM.snd,aM.snd,fin (v:=.bd) (by rw[Dz,Du,hf];simp[aG]) (bD.mk (sU.trans (Nat.le_refl _) iB))⟩
    · have hf:aW.all lB=false:=by simpa using af
      exact⟨aM.snd,bS.snd,aM.snd,fin (v:=.bd) (by rw[Dz,Du,hf];simp) (bD.mk (qV.trans (Nat.le_refl _) cP))⟩
  · subst jk
    cases rt with
    |none=>simp[oo] at nG
    |some u=>
     rw[kU] at dj gQ hm
     rw[ur] at nN
     obtain⟨a7,c3,cP⟩:=bg u (by omega) (by omega) (by omega) (m+4) B g dg (by omega) lE (ef.bZ (ey.ext bb (Nat.le_refl _)) _ _ ew)
     exact⟨dg,ba aj rfl,_,a7,c3,fin (v:=.bd) (by simp[hF,lD]) (bD.mk cP)⟩
  · subst jW
    have DA:hF 9 bP aW (xs.map aZ.k) (c9 xs) xs.length (lD rt)=(sK none (xs.map aZ.k) (c9 xs)&&decide (2<=xs.length)):=by simp[hF]
    have Jg:(xs.map aZ.k).length=(c9 xs).length:=by rw[List.length_map,jD]
    refine⟨cB,ba aj rfl,_,c6 g bb,λnX=>?_,λnX=>fin (v:=.bd) (by rw[DA];simp[nX]) (bD.mk (Ext.refl _ _))⟩
    obtain⟨a7,c3,cP⟩:=IY (m+2) (B:=B) (h:=g) (v:=cB) (vs:=vs) 110 [] (qU ((xs.map aZ.k).map (λk=>!(decide (k≠9)&&decide (k≠1))))) (bS.bZ (ey.ext bb (Nat.le_refl _))) (by omega) (λi i1 x ab=>by
     have i2:i<xs.length:=by omega
     have i3:i<(xs.map aZ.k).length:=by rw[List.length_map];exact i2
     obtain⟨M,py,wX⟩:=(eg.get cK i i1 i2).kind
     rw[Dx _ _ i3,List.getElem_map,py]
     have an:=wX x (bb.trans (Nat.le_refl _) ab)
     refine SC (m+1) M x ⟨_,an,λe=>bD.of (dM (by simp[e])) (Ext.refl _ _),λe=>⟨_,an,bD.of (dM (by rw[zB];simp[e])) (Ext.refl _ _)⟩⟩)
    rw[show vs.length=((xs.map aZ.k).map (λk=>!(decide (k≠9)&&decide (k≠1)))).length by simp;exact gH,Dw,Dy] at c3
    refine⟨cB,ba aj rfl,_,a7,c3,λaf=>?_,λaf=>?_⟩
    rotate_left
    · have hf:(xs.map aZ.k).all (λk=>decide (k≠9)&&decide (k≠1))=true:=by simpa using af
      have zG:=bb.trans (Nat.le_refl _) cP
      have nV:=(cP.get R ad).trans aj
      obtain⟨b8,c4,iB⟩:=SR (m+1) (B:=B) (h:=a7) (v:=cB) (vs:=vs) 112 [] (wn (c9 xs)) (Nat.le_trans lE cP.n) (bS.bZ (ey.ext zG (Nat.le_refl _))) (by omega) rfl (λi ae=>(eg.get cK i ae (by omega)).snd) (λi ae=>by
       obtain⟨M,py,_⟩:=(eg.get cK i ae (by omega)).kind
       exact⟨M,py⟩) (λi i1 x ab=>by
       have i2:i<xs.length:=by omega
       have aT:=m7 (List.getElem_mem i2)
       have uw:=zG.trans (Nat.le_refl _) ab
       rw[show wn (c9 xs) i=wr xs[i] by simp[wn,jD,i2,C_ xs i i2]]
       exact ix xs[i] (rJ i i2) (by omega) (m+1) x.n x vs[i] (by omega) (Nat.le_refl _) (ef.le (Nat.le_trans bM uw.n) _ _ (kb x uw i i1 i2)))
      rw[show vs.length=(c9 xs).length by omega,<-Jb] at c4
      exact⟨cB,ba nV rfl,_,b8,c4,fin (v:=.bd) (by rw[DA,Dv _ _ _ Jg,hf];simp[nX]) (bD.mk (cP.trans (Nat.le_refl _) iB))⟩
    · have hf:(xs.map aZ.k).all (λk=>decide (k≠9)&&decide (k≠1))=false:=by simpa using af
      exact fin (v:=.bd) (by rw[DA,Dv _ _ _ Jg,hf];simp) (bD.mk cP)
  · exact fin (v:=.bd) (by simp[hF,hv,hM,jk,jW]) (bD.mk (Ext.refl _ _))
end Go.Proofs.b0
namespace Go.Proofs.b0
open Go aw Go.Proofs cu
set_option maxRecDepth 100000
set_option maxHeartbeats 1000000
theorem S8(call:aP->List I->J->av)(b:Nat)(h bj:J)
  (H1:ay h b (0+0)=some .bd)
  (bl:fp Tryz.prog 164 186 (I.ptr b 0) h=gg.val (I.ptr b 0) h)
  (cz:call (.fn 151) [.ptr b 0] h=av.ret (.ptr b 0) h)
  (cv:fp Tryz.prog 186 164 (I.ptr b 0) h=gg.val (I.ptr b 0) h)
  (dR:aw.storeCells h b (0+0) [.ptr b 0]=some bj):
  aV Tryz.prog Tryz.f145 none call [] (ao.mk [(0,.ptr b 0)] [] .none h) (.nrm)
   (ao.mk [] [] .none bj):=
 bY [] (hs:=[.v .bd,.v (.bool true),.b true,.v (.ptr b 0),.c (.ptr b 0) h,.v (.ptr b 0),.hT (.aK []) bj]) (by kernel_rfl)<| .cons H1<| .cons (by kernel_rfl:dX Tryz.prog h BinOp.eql 164 (Operand.tmp 5) (Operand.const (Value.pointer none)) I.bd I.bd=some (I.bool true))<| .cons (by kernel_rfl:true=true)<| .cons bl<| .cons cz<| .cons cv<| .cons (⟨by kernel_rfl,dR,rfl⟩:some 1=some 1/\aw.storeCells h b (0+0) [I.ptr b 0]=some bj/\I.aK []=I.aK [])<| .nil
theorem S9(call:aP->List I->J->av)(b:Nat)(h:J)(cd:Bool)
  (H1:ay h b (0+0)=some (.ptr b 0))
  (bl:dX Tryz.prog h BinOp.neq 164 (Operand.tmp 17) (Operand.tmp 18) (I.ptr b 0) (I.ptr b 0)=some (I.bool cd))
  (cz:cd=false):
  aV Tryz.prog Tryz.f145 none call [] (ao.mk [(0,.ptr b 0)] [] .none h) (.nrm)
   (ao.mk [] [] .none h):=
 bY [] (hs:=[.v (.ptr b 0),.v (.bool false),.b false,.v (.ptr b 0),.v (.bool cd),.b false]) (by kernel_rfl)<| .cons H1<| .cons (by kernel_rfl:dX Tryz.prog h BinOp.eql 164 (Operand.tmp 5) (Operand.const (Value.pointer none)) (I.ptr b 0) I.bd=some (I.bool false))<| .cons (by kernel_rfl:false=false)<| .cons H1<| .cons bl<| .cons cz<| .nil
theorem bws(call:aP->List I->J->av)(b c m:Nat)(s:List UInt8)(v:I)(h ad bj dU:J)
  (H1:call (.fn 145) [.ptr b 0] h=av.ret (.aK []) bj)
  (bl:ay bj b (0+1)=some v)
  (cz:fW Tryz.prog bj 98 (some 9) v (I.str s)=some (I.slice c 0 m (cf.aN 1),ad))
  (cv:aw.storeCells ad b (0+1) [.slice c 0 m (.aN 1)]=some dU):
  aV Tryz.prog Tryz.f130 none call [] (ao.mk [(0,.ptr b 0),(1,.str s)] [] .none h) (.ret)
   (ao.mk [(4,.int .i64 (.ofNat (List.length s))),(5,.dW)] [] .none dU):=
 bY [4,5] (hs:=[.c (.aK []) bj,.v v,.hT (.slice c 0 m (.aN 1)) ad,.hT (.aK []) dU]) (by kernel_rfl)<| .cons H1<| .cons bl<| .cons cz<| .cons (⟨by kernel_rfl,cv,rfl⟩:some 1=some 1/\aw.storeCells ad b (0+1) [I.slice c 0 m (cf.aN 1)]=some dU/\I.aK []=I.aK [])<| .nil
theorem S_(call:aP->List I->J->av)(b:Nat)(s:List UInt8)(v:I)(h ad bj dU:J)
  (H1:call (.fn 145) [.ptr b 0] h=av.ret (.aK []) bj)
  (bl:ay bj b (0+1)=some v)
  (cz:fW Tryz.prog bj 98 (some 9) v (I.str s)=some (I.a0,ad))
  (cv:aw.storeCells ad b (0+1) [.a0]=some dU):
  aV Tryz.prog Tryz.f130 none call [] (ao.mk [(0,.ptr b 0),(1,.str s)] [] .none h) (.ret)
   (ao.mk [(4,.int .i64 (.ofNat (List.length s))),(5,.dW)] [] .none dU):=
 bY [4,5] (hs:=[.c (.aK []) bj,.v v,.hT .a0 ad,.hT (.aK []) dU]) (by kernel_rfl)<| .cons H1<| .cons bl<| .cons cz<| .cons (⟨by kernel_rfl,cv,rfl⟩:some 1=some 1/\aw.storeCells ad b (0+1) [I.a0]=some dU/\I.aK []=I.aK [])<| .nil
theorem Ta(call:aP->List I->J->av)(b c m:Nat)(h:J)(c_:List UInt8)(bj:J)
  (H1:ay (J.room h 12) b (0+1)=some (.slice c 0 m (.aN 1)))
  (bl:hg Tryz.prog Builtin.unsafeSliceData (Array.mk [98]) [.slice c 0 m (.aN 1)] (J.room h 12)=gg.val (.ptr c 0) (J.room h 12))
  (cz:oB Tryz.prog (J.room h 12) 182 (I.ptr c 0) (I.int IntKind.i64 (Int.ofNat m))=some (I.str c_,bj)):
  aV Tryz.prog Tryz.f136 none call [] (ao.mk [(0,.ptr b 0)] [] .none h) (.ret)
   (ao.mk [(2,.str c_)] [] .none bj):=
 bY [2] (hs:=[.v (.slice c 0 m (.aN 1)),.v (.ptr c 0),.v (.slice c 0 m (.aN 1)),.hT (.str c_) bj]) (by kernel_rfl)<| .cons H1<| .cons bl<| .cons H1<| .cons cz<| .cons (by kernel_rfl:I.sound (I.ptr b 0)=true)<| .cons (by kernel_rfl:I.ptr b 0=I.ptr b 0)<| .cons (by kernel_rfl:I.sound (I.ptr b 0)=true)<| .cons (by kernel_rfl:I.ptr b 0=I.ptr b 0)<| .cons (by kernel_rfl:I.sound (I.ptr b (0+1))=true)<| .cons (by kernel_rfl:I.ptr b (0+1)=I.ptr b (0+1))<| .cons (by kernel_rfl:I.sound (I.slice c 0 m (cf.aN 1))=true)<| .cons H1<| .cons (by kernel_rfl:I.sound (I.ptr c 0)=true)<| .cons bl<| .cons (by kernel_rfl:I.sound (I.ptr b 0)=true)<| .cons (by kernel_rfl:I.ptr b 0=I.ptr b 0)<| .cons (by kernel_rfl:I.sound (I.ptr b 0)=true)<| .cons (by kernel_rfl:I.ptr b 0=I.ptr b 0)<| .cons (by kernel_rfl:I.sound (I.ptr b (0+1))=true)<| .cons (by kernel_rfl:I.ptr b (0+1)=I.ptr b (0+1))<| .cons (by kernel_rfl:I.sound (I.slice c 0 m (cf.aN 1))=true)<| .cons H1<| .cons (by kernel_rfl:I.sound (I.int IntKind.i64 (Int.ofNat m))=true)<| .cons (by kernel_rfl:cb Tryz.prog (J.room h 12) 98 (I.slice c 0 m (cf.aN 1))=some (I.int IntKind.i64 (Int.ofNat m)))<| .cons (by kernel_rfl:I.sound (I.str c_)=true)<| .cons (by kernel_rfl:I.str c_=I.str c_)<| .nil
theorem Tb(call:aP->List I->J->av)(b:Nat)(h:J)(c_:List UInt8)(bj:J)
  (H1:ay (J.room h 12) b (0+1)=some .a0)
  (bl:oB Tryz.prog (J.room h 12) 182 I.bd (I.int IntKind.i64 (Int.ofNat 0))=some (I.str c_,bj)):
  aV Tryz.prog Tryz.f136 none call [] (ao.mk [(0,.ptr b 0)] [] .none h) (.ret)
   (ao.mk [(2,.str c_)] [] .none bj):=
 bY [2] (hs:=[.v .a0,.v .bd,.v .a0,.hT (.str c_) bj]) (by kernel_rfl)<| .cons H1<| .cons (by kernel_rfl:hg Tryz.prog Builtin.unsafeSliceData (Array.mk [98]) [I.a0] (J.room h 12)=gg.val I.bd (J.room h 12))<| .cons H1<| .cons bl<| .cons (by kernel_rfl:I.sound (I.ptr b 0)=true)<| .cons (by kernel_rfl:I.ptr b 0=I.ptr b 0)<| .cons (by kernel_rfl:I.sound (I.ptr b 0)=true)<| .cons (by kernel_rfl:I.ptr b 0=I.ptr b 0)<| .cons (by kernel_rfl:I.sound (I.ptr b (0+1))=true)<| .cons (by kernel_rfl:I.ptr b (0+1)=I.ptr b (0+1))<| .cons (by kernel_rfl:I.sound I.a0=true)<| .cons H1<| .cons (by kernel_rfl:I.sound I.bd=true)<| .cons (by kernel_rfl:hg Tryz.prog Builtin.unsafeSliceData (Array.mk [98]) [I.a0] (J.room h 12)=gg.val I.bd (J.room h 12))<| .cons (by kernel_rfl:I.sound (I.ptr b 0)=true)<| .cons (by kernel_rfl:I.ptr b 0=I.ptr b 0)<| .cons (by kernel_rfl:I.sound (I.ptr b 0)=true)<| .cons (by kernel_rfl:I.ptr b 0=I.ptr b 0)<| .cons (by kernel_rfl:I.sound (I.ptr b (0+1))=true)<| .cons (by kernel_rfl:I.ptr b (0+1)=I.ptr b (0+1))<| .cons (by kernel_rfl:I.sound I.a0=true)<| .cons H1<| .cons (by kernel_rfl:I.sound (I.int IntKind.i64 (Int.ofNat 0))=true)<| .cons (by kernel_rfl:cb Tryz.prog (J.room h 12) 98 I.a0=some (I.int IntKind.i64 (Int.ofNat 0)))<| .cons (by kernel_rfl:I.sound (I.str c_)=true)<| .cons (by kernel_rfl:I.str c_=I.str c_)<| .nil
theorem Tc(m:Nat)(v:I)(s:List UInt8)(ei:Nat)(fz:Nat)(b:Nat)(c:Nat)(g9:List I)(g_:List I)(h:J){R:av->Prop}(H:∃aI:Nat,cb Tryz.prog h 49 v=some (.int .i64 (.ofNat aI))/\bm Tryz.prog Tryz.f129 (Y m) [1,0] (ao.mk [(1,.str s),(2,.fn ei [] g9),(3,.fn fz [] g_),(4,.ptr b 0),(5,.ptr c 0),(12,v),(13,.int .i64 (.ofNat aI)),(14,.int .i64 (.ofNat 0))] [] .none h) (λcE cF=>∃al:J,∃bq:Env,cE=.exit 0/\cF=ao.mk bq [] .none al/\cl [] bq/\R (.ret (.aK []) al))):
  R (Y (m+1) (.fn 129) [v,.str s,.fn ei [] g9,.fn fz [] g_,.ptr b 0,.ptr c 0] h):=
 dd (intr:=bW) [(4000,.gw [1,2,3,4,5,12,13,14] [(.exit 0,[])])] [(0,.o v),(1,.v (.str s)),(2,.o (.fn ei [] g9)),(3,.o (.fn fz [] g_)),(4,.v (.ptr b 0)),(5,.v (.ptr c 0))] Tryz.func129 (by kernel_rfl) (by kernel_rfl) (by kernel_rfl) rfl (Eq.mp (by kernel_rfl) H)
theorem Td(call:aP->List I->J->av)(s:List UInt8)(ei:Nat)(fz:Nat)(b:Nat)(c:Nat)(dh:Nat)(off:Nat)(N:Nat)(i:Nat)(wY:Nat)(aE:cf)(g9:List I)(g_:List I)(co:List I)(h:J){Q:bu->ao->Prop}(H:(i<N->i<N/\∃v1:I,ay h dh (off+i*1)=some v1/\(0<i->∃aI:Nat,∃v2:I,∃al:J,call (.fn 130) [.ptr b 0,.str s] h=.ret (.aK [.int .i64 (.ofNat aI),v2]) al/\∃s1:List UInt8,∃au:J,call (.fn ei) (.int .i64 (.ofNat i)::g9) al=.ret (.str s1) au/\∃bw:Nat,∃cX:I,∃a7:J,call (.fn 130) [.ptr b 0,.str s1] au=.ret (.aK [.int .i64 (.ofNat bw),cX]) a7/\ay a7 c 0=some (.fn wY [] co)/\∃b8:J,call (.fn wY) (v1::co) a7=.ret (.aK []) b8/\∃s2:List UInt8,∃db:J,call (.fn fz) (.int .i64 (.ofNat i)::g_) b8=.ret (.str s2) db/\∃cH:Nat,∃v4:I,∃e7:J,call (.fn 130) [.ptr b 0,.str s2] db=.ret (.aK [.int .i64 (.ofNat cH),v4]) e7/\i+1<9223372036854775808/\Q .nrm (ao.mk [(1,.str s),(2,.fn ei [] g9),(3,.fn fz [] g_),(4,.ptr b 0),(5,.ptr c 0),(12,.slice dh off N aE),(13,.int .i64 (.ofNat N)),(14,.int .i64 (.ofNat (i+1)))] [] .none e7))/\(¬0<i->∃bI:List UInt8,∃hj:J,call (.fn ei) (.int .i64 (.ofNat i)::g9) h=.ret (.str bI) hj/\∃cZ:Nat,∃ie:I,∃j6:J,call (.fn 130) [.ptr b 0,.str bI] hj=.ret (.aK [.int .i64 (.ofNat cZ),ie]) j6/\ay j6 c 0=some (.fn wY [] co)/\∃nf:J,call (.fn wY) (v1::co) j6=.ret (.aK []) nf/\∃cq:List UInt8,∃ng:J,call (.fn fz) (.int .i64 (.ofNat i)::g_) nf=.ret (.str cq) ng/\∃eG:Nat,∃v6:I,∃wZ:J,call (.fn 130) [.ptr b 0,.str cq] ng=.ret (.aK [.int .i64 (.ofNat eG),v6]) wZ/\i+1<9223372036854775808/\Q .nrm (ao.mk [(1,.str s),(2,.fn ei [] g9),(3,.fn fz [] g_),(4,.ptr b 0),(5,.ptr c 0),(12,.slice dh off N aE),(13,.int .i64 (.ofNat N)),(14,.int .i64 (.ofNat (i+1)))] [] .none wZ)))/\(¬i<N->Q (.exit 0) (ao.mk [(1,.str s),(2,.fn ei [] g9),(3,.fn fz [] g_),(4,.ptr b 0),(5,.ptr c 0),(12,.slice dh off N aE),(13,.int .i64 (.ofNat N)),(14,.int .i64 (.ofNat i))] [] .none h))):
  bm Tryz.prog Tryz.f129 call [1,0,0] ⟨[(1,.str s),(2,.fn ei [] g9),(3,.fn fz [] g_),(4,.ptr b 0),(5,.ptr c 0),(12,.slice dh off N aE),(13,.int .i64 (.ofNat N)),(14,.int .i64 (.ofNat i))],[],.none,h⟩ Q:=
 e9 [(18,.b1 .o),(27,.b1 (.io (.fn wY [] co)))] [1,2,3,4,5,12,13,14] [(1,.v (.str s)),(2,.o (.fn ei [] g9)),(3,.o (.fn fz [] g_)),(4,.v (.ptr b 0)),(5,.v (.ptr c 0)),(12,.v (.slice dh off N aE)),(13,.v (.int .i64 (.ofNat N))),(14,.v (.int .i64 (.ofNat i)))] rfl (Eq.mp (by kernel_rfl) H)
theorem Te(call:aP->List I->J->av)(s:List UInt8)(ei:Nat)(fz:Nat)(b:Nat)(c:Nat)(N:Nat)(i:Nat)(g9:List I)(g_:List I)(v:I)(h:J){Q:bu->ao->Prop}(H:¬i<N/\Q (.exit 0) (ao.mk [] [] .none h)):
  bm Tryz.prog Tryz.f129 call [1,0,0] ⟨[(1,.str s),(2,.fn ei [] g9),(3,.fn fz [] g_),(4,.ptr b 0),(5,.ptr c 0),(12,v),(13,.int .i64 (.ofNat N)),(14,.int .i64 (.ofNat i))],[],.none,h⟩ Q:=
 e9 [(1015,.f)] [] [(1,.v (.str s)),(2,.o (.fn ei [] g9)),(3,.o (.fn fz [] g_)),(4,.v (.ptr b 0)),(5,.v (.ptr c 0)),(12,.o v),(13,.v (.int .i64 (.ofNat N))),(14,.v (.int .i64 (.ofNat i)))] rfl (Eq.mp (by kernel_rfl) H)
theorem DB(m:Nat)(i:Nat)(h:J){R:av->Prop}(H:R (.ret (.str []) h)):
  R (Y (m+1) (.fn 131) [.int .i64 (.ofNat i)] h):=
 dd (intr:=bW) [] [(0,.v (.int .i64 (.ofNat i)))] Tryz.func131 (by kernel_rfl) (by kernel_rfl) (by kernel_rfl) rfl (Eq.mp (by kernel_rfl) H)
theorem Tf(m:Nat)(i:Nat)(e:Nat)(h:J){R:av->Prop}(H:∃aI:Nat,ay h e 0=some (.ptr aI 0)/\∃bw:Nat,∃cH:Nat,∃cZ:Nat,∃c1:cf,ay h aI (0+2)=some (.slice bw cH cZ c1)/\i<cZ/\∃s1:List UInt8,ay h bw (cH+i*1)=some (.str s1)/\List.length s1+2<=1000000000000/\R (.ret (.str (s1++[58,32])) h)):
  R (Y (m+1) (.fn 133) [.int .i64 (.ofNat i),.ptr e 0] h):=
 dd (intr:=bW) [(7,.b1 .hz)] [(0,.v (.int .i64 (.ofNat i))),(1,.v (.ptr e 0))] Tryz.func133 (by kernel_rfl) (by kernel_rfl) (by kernel_rfl) rfl (Eq.mp (by kernel_rfl) H)
theorem Jh(m:Nat)(s:List UInt8)(e:Nat)(h:J){R:av->Prop}(H:R (.ret (.fn 135 [] [.ptr e 0,.ptr h.n 0]) (J.push h (.cells [.str s] 9 .own 0 0)))):
  R (Y (m+1) (.fn 134) [.str s,.ptr e 0] h):=
 dd (intr:=bW) [] [(0,.v (.str s)),(1,.v (.ptr e 0))] Tryz.func134 (by kernel_rfl) (by kernel_rfl) (by kernel_rfl) rfl (Eq.mp (by kernel_rfl) H)
theorem Tg(m:Nat)(i:Nat)(e:Nat)(f:Nat)(h:J){R:av->Prop}(H:∃aI:Nat,ay h e 0=some (.ptr aI 0)/\∃bw:Nat,∃cH:Nat,∃cZ:Nat,∃c1:cf,ay h aI (0+3)=some (.slice bw cH cZ c1)/\i<cZ/\∃eG:Nat,ay h bw (cH+i*1)=some (.ptr eG 0)/\∃fg:Nat,ay h eG (0+0)=some (.int .i64 (.ofNat fg))/\(fg=8->∃s1:List UInt8,ay h f 0=some (.str s1)/\R (.ret (.str s1) h))/\(¬fg=8->R (.ret (.str []) h))):
  R (Y (m+1) (.fn 135) [.int .i64 (.ofNat i),.ptr e 0,.ptr f 0] h):=
 dd (intr:=bW) [(8,.b1 .hz)] [(0,.v (.int .i64 (.ofNat i))),(1,.v (.ptr e 0)),(2,.v (.ptr f 0))] Tryz.func135 (by kernel_rfl) (by kernel_rfl) (by kernel_rfl) rfl (Eq.mp (by kernel_rfl) H)
theorem Th(m:Nat)(b:Nat)(l:Nat)(n:Nat)(o:Nat)(r:Nat)(k:Nat)(s:List UInt8)(cB:I)(dg:I)(h:J){R:av->Prop}(H:ay (J.push h (.cells [.ptr r 0] 47 .own 0 0)) h.n 0=some (.ptr r 0)/\ay (J.push h (.cells [.ptr r 0] 47 .own 0 0)) r (0+0)=some (.int .i64 (.ofNat k))/\(k=6->ay (J.push h (.cells [.ptr r 0] 47 .own 0 0)) h.n 0=some (.ptr r 0)/\ay (J.push h (.cells [.ptr r 0] 47 .own 0 0)) r (0+1)=some (.str s)/\∃aI:Nat,∃v1:I,∃al:J,(Y m) (.fn 130) [.ptr b 0,.str s] (J.push h (.cells [.ptr r 0] 47 .own 0 0))=.ret (.aK [.int .i64 (.ofNat aI),v1]) al/\R (.ret (.aK []) al))/\(¬k=6->(k=7->∃bw:Nat,∃v2:I,∃au:J,(Y m) (.fn 130) [.ptr b 0,.str [123]] (J.push h (.cells [.ptr r 0] 47 .own 0 0))=.ret (.aK [.int .i64 (.ofNat bw),v2]) au/\ay (au.room 8) l 0=some (.fn 129 [] [.ptr b 0,.ptr o 0])/\ay (au.room 8) h.n 0=some (.ptr r 0)/\ay (au.room 8) r (0+3)=some cB/\ay (au.room 8) n 0=some (.fn 131 [] [])/\∃a7:J,(Y m) (.fn 129) [cB,.str [44,32],.fn 133 [] [.ptr h.n 0],.fn 131 [] [],.ptr b 0,.ptr o 0] (au.room 8)=.ret (.aK []) a7/\I.sound cB=true/\∃cH:Nat,∃cX:I,∃b8:J,(Y m) (.fn 130) [.ptr b 0,.str [125]] a7=.ret (.aK [.int .i64 (.ofNat cH),cX]) b8/\R (.ret (.aK []) b8))/\(¬k=7->(k=8->∃cZ:Nat,∃v4:I,∃db:J,(Y m) (.fn 130) [.ptr b 0,.str [102,110,40]] (J.push h (.cells [.ptr r 0] 47 .own 0 0))=.ret (.aK [.int .i64 (.ofNat cZ),v4]) db/\ay (db.room 8) l 0=some (.fn 129 [] [.ptr b 0,.ptr o 0])/\ay (db.room 8) h.n 0=some (.ptr r 0)/\ay (db.room 8) r (0+3)=some cB/\ay (db.room 8) n 0=some (.fn 131 [] [])/\ay (db.room 8) n 0=some (.fn 131 [] [])/\∃e7:J,(Y m) (.fn 129) [cB,.str [44,32],.fn 131 [] [],.fn 131 [] [],.ptr b 0,.ptr o 0] (db.room 8)=.ret (.aK []) e7/\I.sound cB=true/\∃eG:Nat,∃ie:I,∃hj:J,(Y m) (.fn 130) [.ptr b 0,.str [41,32,45,62,32]] e7=.ret (.aK [.int .i64 (.ofNat eG),ie]) hj/\ay (hj.room 6) o 0=some (.fn 132 [] [.ptr b 0,.ptr l 0,.ptr n 0,.ptr o 0])/\ay (hj.room 6) h.n 0=some (.ptr r 0)/\ay (hj.room 6) r (0+4)=some dg/\∃j6:J,(Y m) (.fn 132) [dg,.ptr b 0,.ptr l 0,.ptr n 0,.ptr o 0] (hj.room 6)=.ret (.aK []) j6/\I.sound dg=true/\R (.ret (.aK []) j6))/\(¬k=8->(k=9->ay (J.room (J.push h (.cells [.ptr r 0] 47 .own 0 0)) 10) l 0=some (.fn 129 [] [.ptr b 0,.ptr o 0])/\ay (J.room (J.push h (.cells [.ptr r 0] 47 .own 0 0)) 10) h.n 0=some (.ptr r 0)/\ay (J.room (J.push h (.cells [.ptr r 0] 47 .own 0 0)) 10) r (0+3)=some cB/\∃v6:I,∃nf:J,(Y m) (.fn 134) [.str [40],.ptr h.n 0] (J.room (J.push h (.cells [.ptr r 0] 47 .own 0 0)) 10)=.ret v6 nf/\∃wU:I,∃ng:J,(Y m) (.fn 134) [.str [41],.ptr h.n 0] nf=.ret wU ng/\∃wZ:J,(Y m) (.fn 129) [cB,.str [32,124,32],v6,wU,.ptr b 0,.ptr o 0] ng=.ret (.aK []) wZ/\ay ng l 0=some (.fn 129 [] [.ptr b 0,.ptr o 0])/\ay nf l 0=some (.fn 129 [] [.ptr b 0,.ptr o 0])/\ay ng h.n 0=some (.ptr r 0)/\ay nf h.n 0=some (.ptr r 0)/\I.sound cB=true/\ay ng r (0+3)=some cB/\ay nf r (0+3)=some cB/\R (.ret (.aK []) wZ))/\(¬k=9->ay (J.push h (.cells [.ptr r 0] 47 .own 0 0)) h.n 0=some (.ptr r 0)/\ay (J.push h (.cells [.ptr r 0] 47 .own 0 0)) r (0+0)=some (.int .i64 (.ofNat k))/\∃s1:List UInt8,(k<6/\jR Tryz.prog 9 [.str [],.str [97,110,121],.str [105,110,116],.str [98,111,111,108],.str [115,116,114],.str [110,105,108]] (k*1)=some (.str s1))/\∃fg:Nat,∃qT:I,∃Ji:J,(Y m) (.fn 130) [.ptr b 0,.str s1] (J.push h (.cells [.ptr r 0] 47 .own 0 0))=.ret (.aK [.int .i64 (.ofNat fg),qT]) Ji/\R (.ret (.aK []) Ji)))))):
  R (Y (m+1) (.fn 132) [.ptr r 0,.ptr b 0,.ptr l 0,.ptr n 0,.ptr o 0] h):=
 dd (intr:=bW) [(7,.b1 (.is (.ptr r 0))),(20,.b1 (.is (.ptr r 0))),(29,.b1 (.is (.ptr r 0))),(41,.b1 (.is (.ptr r 0))),(50,.b1 (.is (.ptr r 0))),(59,.b1 (.is (.ptr r 0))),(12,.b1 (.is (.ptr r 0))),(10,.b1 (.is (.int .i64 (.ofNat k)))),(15,.b1 (.is (.int .i64 (.ofNat k)))),(23,.b1 (.is (.str s))),(32,.b1 (.io cB)),(44,.b1 (.io cB)),(62,.b1 (.io cB)),(53,.b1 (.io dg)),(28,.b1 (.is (.fn 129 [] [.ptr b 0,.ptr o 0]))),(40,.b1 (.is (.fn 129 [] [.ptr b 0,.ptr o 0]))),(58,.b1 (.is (.fn 129 [] [.ptr b 0,.ptr o 0]))),(34,.b1 (.is (.fn 131 [] []))),(45,.b1 (.is (.fn 131 [] []))),(46,.b1 (.is (.fn 131 [] []))),(49,.b1 (.is (.fn 132 [] [.ptr b 0,.ptr l 0,.ptr n 0,.ptr o 0]))),(64,.b1 .o),(66,.b1 .o)] [(0,.v (.ptr r 0)),(1,.v (.ptr b 0)),(2,.v (.ptr l 0)),(3,.v (.ptr n 0)),(4,.v (.ptr o 0))] Tryz.func132 (by kernel_rfl) (by kernel_rfl) (by kernel_rfl) rfl (Eq.mp (by kernel_rfl) H)
theorem Ti(m:Nat)(r:Nat)(h:J){R:av->Prop}(H:∃al:J,aw.storeCells (J.push (J.push (J.push h (.cells [.bd,.a0] 166 .own 0 0)) (.cells [.eN] 127 .own 0 0)) (.cells [.eN] 172 .own 0 0)) (J.n (J.push (J.push h (.cells [.bd,.a0] 166 .own 0 0)) (.cells [.eN] 127 .own 0 0))) 0 [.fn 129 [] [.ptr h.n 0,.ptr (J.n (J.push h (.cells [.bd,.a0] 166 .own 0 0))) 0]]=some al/\∃au:J,aw.storeCells (J.push al (.cells [.eN] 167 .own 0 0)) al.n 0 [.fn 131 [] []]=some au/\∃a7:J,aw.storeCells au (J.n (J.push h (.cells [.bd,.a0] 166 .own 0 0))) 0 [.fn 132 [] [.ptr h.n 0,.ptr (J.n (J.push (J.push h (.cells [.bd,.a0] 166 .own 0 0)) (.cells [.eN] 127 .own 0 0))) 0,.ptr al.n 0,.ptr (J.n (J.push h (.cells [.bd,.a0] 166 .own 0 0))) 0]]=some a7/\∃bq:List I,ay a7 (J.n (J.push h (.cells [.bd,.a0] 166 .own 0 0))) 0=some (.fn 132 [] bq)/\∃b8:J,(Y m) (.fn 132) (.ptr r 0::bq) a7=.ret (.aK []) b8/\∃s1:List UInt8,∃db:J,(Y m) (.fn 136) [.ptr h.n 0] b8=.ret (.str s1) db/\R (.ret (.str s1) db)):
  R (Y (m+1) (.fn 112) [.ptr r 0] h):=
 dd (intr:=bW) [(9,.b1 (.fn 132 4))] [(0,.v (.ptr r 0))] Tryz.func112 (by kernel_rfl) (by kernel_rfl) (by kernel_rfl) rfl (Eq.mp (by kernel_rfl) H)
def w0(B b:Nat)(h:J)(w:List UInt8):Prop:=∃a v,h.get b=some (.cells [a,v] 166 .own 0 0)/\(a=.bd\/a=.ptr b 0)/\sc B 5 h v w/\b<B/\B<=h.n/\(w=[]->v=.a0)
theorem Tj(n b:Nat)(h:J):Y (n+1) (.fn 151) [.ptr b 0] h=.ret (.ptr b 0) h:=by unfold Y;kernel_rfl
theorem Tk(n b:Nat)(h:J)(v:I)(af:b<h.n)(aj:h.get b=some (.cells [.bd,v] 166 .own 0 0)\/h.get b=some (.cells [.ptr b 0,v] 166 .own 0 0)):
  ∃ak,Y (n+2) (.fn 145) [.ptr b 0] h=.ret (.aK []) ak/\ak.get b=some (.cells [.ptr b 0,v] 166 .own 0 0)/\ak.n=h.n/\∀c,c≠b->ak.get c=h.get c:=by
 rcases aj with aj|aj
 · refine⟨h.set b (some (.cells [.ptr b 0,v] 166 .own 0 0)),?_,h_ rfl,rfl,λc ag=>o8 ag rfl⟩
   have f1:Tryz.prog.underlying 164=some (.pointer 166):=by kernel_rfl
   have f2:Tryz.prog.underlying 186=some .unsafePointer:=by kernel_rfl
   have f3:cV Tryz.prog 166=some 2:=by kernel_rfl
   have f4:liesAt Tryz.prog Tryz.prog.depth 166 (2/Tryz.prog.cellsOf 166) 0 166 1=true:=by kernel_rfl
   have v1:fp Tryz.prog 164 186 (I.ptr b 0) h=gg.val (I.ptr b 0) h:=by
    simp only[fp,f1,f2,f3,aj];rfl
   have v2:fp Tryz.prog 186 164 (I.ptr b 0) h=gg.val (I.ptr b 0) h:=by
    simp only[fp,f1,f2,f3,aj,List.length_cons,List.length_nil,f4];rfl
   have ai:=S8 (Y (n+1)) b h _ (ba aj rfl) v1 (Tj n b h) v2 (ia aj rfl rfl)
   exact eY (intr:=bW) (n:=n+1) (args:=[.ptr b 0]) Tryz.func145 (by kernel_rfl) rfl (by kernel_rfl) ai (.inr rfl) (by kernel_rfl)
 · refine⟨h,?_,aj,rfl,λc _=>rfl⟩
   have he:dX Tryz.prog h BinOp.neq 164 (Operand.tmp 17) (Operand.tmp 18) (I.ptr b 0) (I.ptr b 0)=some (I.bool false):=by
    have aC:Tryz.prog.underlying 164=some (.pointer 166):=by kernel_rfl
    have ax:cV Tryz.prog 166=some 2:=by kernel_rfl
    have bp:Nat.beq b b=true:=by simp
    simp only[dX,pL,g1,aC,ax,Aq,bp]
    rfl
   exact eY (intr:=bW) (n:=n+1) (args:=[.ptr b 0]) Tryz.func145 (by kernel_rfl) rfl (by kernel_rfl) (S9 (Y (n+1)) b h false (ba aj rfl) he rfl) (.inr rfl) (by kernel_rfl)
theorem Tl:∃i,Tryz.prog.info? 5=some i/\i.size=1/\i.bytes=1:=by
 have ae:(Tryz.prog.info? 5).map (λi=>(i.size,i.bytes))=some (1,1):=by kernel_rfl
 cases w1:Tryz.prog.info? 5 with
 |none=>rw[w1] at ae;cases ae
 |some i=>
  rw[w1] at ae
  simp only[Option.map_some,Option.some.injEq,Prod.mk.injEq] at ae
  exact⟨i,rfl,ae.1,ae.2⟩
theorem Tm{i:TypeInfo}(ae:i.bytes=1){n:Nat}(aG:n<=1000000000):ks n i.bytes=true:=by
 rw[ae]
 have:(4*n+2048)*(1+1)<=281474976710656:=by omega
 simpa[ks] using this
theorem Tn(n b B:Nat)(h:J)(w s:List UInt8)(af:w0 B b h w)(an:w.length+s.length<=1000000000):∃ak,Y (n+3) (.fn 130) [.ptr b 0,.str s] h=.ret (.aK [.int .i64 (Int.ofNat s.length),.dW]) ak/\w0 B b ak (w++s)/\lr 5 b B h ak:=by
 obtain⟨a,v,aj,aX,Jj,lG,To,rM⟩:=af
 obtain⟨aa,c1,al,aI,c0⟩:=Tk n b h v (by omega) (by rcases aX with rfl|rfl;exact .inl aj;exact .inr aj)
 have a4:sc B 5 aa v w:=Jj.ext (by omega) λc ag _=>c0 c (by omega)
 obtain⟨i,w1,Jk,BK⟩:=Tl
 obtain⟨v',ad,cY,dr,h2⟩:=Pg (P:=Tryz.prog) (B:=B) (sT:=98) (xT:=some 9) (e:=5) (z:=.int .u8 (Int.ofNat 0)) (by omega) (by kernel_rfl) (by kernel_rfl) w1 Jk (by kernel_rfl) rfl (Tm BK an) a4
 have au:=(h2.get b lG).trans al
 have aG:=h2.n
 have kj:w++s=[]->v'=.a0:=by
  intro e
  obtain⟨rfl,rfl⟩:=List.append_eq_nil_iff.1 e
  obtain rfl:=rM rfl
  have:fW Tryz.prog aa 98 (some 9) .a0 (.str [])=some (.a0,aa):=by
   have hu:Tryz.prog.underlying 98=some (.slice 5):=by kernel_rfl
   have hs:ny Tryz.prog (some 9)=true:=by kernel_rfl
   have aT:dN Tryz.prog 5=some (.int .u8 (Int.ofNat 0)):=by kernel_rfl
   simp only[fW,hu,hs,w1,aT,Jk];rfl
  rw[this] at cY
  cases cY;rfl
 refine⟨ad.set b (some (.cells [.ptr b 0,v'] 166 .own 0 0)),?_,⟨.ptr b 0,v',h_ rfl,.inr rfl,dr.ext (by simp) λc ag _=>o8 (by omega) rfl,lG,by simp;omega,kj⟩,⟨⟨by simp;omega,λc ag jC=>o8 jC ((h2.get c ag).trans (c0 c jC))⟩,λd az Jl rR=>?_⟩⟩
 · rcases dr with⟨rfl,_⟩|⟨c,r,rfl,_⟩
   · exact eY (intr:=bW) (n:=n+2) (args:=[.ptr b 0,.str s]) Tryz.func130 (by kernel_rfl) rfl (by kernel_rfl) (S_ (Y (n+2)) b s v h ad aa _ c1 (ba al rfl) cY (ia au rfl rfl)) (.inl rfl) (by kernel_rfl)
   · exact eY (intr:=bW) (n:=n+2) (args:=[.ptr b 0,.str s]) Tryz.func130 (by kernel_rfl) rfl (by kernel_rfl) (bws (Y (n+2)) b c _ s v h ad aa _ c1 (ba al rfl) cY (ia au rfl rfl)) (.inl rfl) (by kernel_rfl)
 · refine o8 Jl ((Pz cY (by omega) ?_).trans (c0 d Jl))
   rintro o l c rfl
   rcases Jj with⟨ab,_⟩|⟨c',rest,ab,ag,_⟩
   · cases ab
   · cases ab
     exact rR _ _ _ ag
theorem Tp(n b B:Nat)(h:J)(w:List UInt8)(af:w0 B b h w)(an:w.length<=1000000000):∃ak,Y (n+1) (.fn 136) [.ptr b 0] h=.ret (.str w) ak/\Ext B h ak:=by
 obtain⟨a,v,g,aX,aB,lG,aG,rM⟩:=af
 rcases aB with⟨rfl,rfl⟩|⟨c,rest,rfl,ag,wo,qw⟩
 · have kB:oB Tryz.prog (J.room h 12) 182 I.bd (I.int IntKind.i64 (Int.ofNat 0))=some (.str [],J.room h 12):=by kernel_rfl
   exact⟨_,eY (intr:=bW) (n:=n) (args:=[.ptr b 0]) Tryz.func136 (by kernel_rfl) rfl (by kernel_rfl) (Tb (Y n) b h [] _ (ba (h:=h.room 12) g rfl) kB) (.inl rfl) (by kernel_rfl),Ext.room _ _ _⟩
 · by_cases hw:w=[]
   · exact absurd (rM hw) (by simp)
   · have df:w.length≠0:=by cases w<;>simp at hw⊢
     have eK:hg Tryz.prog Builtin.unsafeSliceData (Array.mk [98]) [I.slice c 0 w.length (cf.aN 1)] (J.room h 12)=gg.val (I.ptr c 0) (J.room h 12):=by
      simp only[hg]
      exact if_neg df
     have kB:=Pk (P:=Tryz.prog) (h:=h.room 12) (pT:=182) (u:=5) (c:=c) (e:=5) (w:=w) (rest:=rest) hw (by omega) (by kernel_rfl) (by kernel_rfl) (by kernel_rfl) ag
     exact⟨_,eY (intr:=bW) (n:=n) (args:=[.ptr b 0]) Tryz.func136 (by kernel_rfl) rfl (by kernel_rfl) (Ta (Y n) b c w.length h w _ (ba (h:=h.room 12) g rfl) eK kB) (.inl rfl) (by kernel_rfl),
      (Ext.room B h 12).trans (Nat.le_refl _) (Ext.set (by omega) _)⟩
end Go.Proofs.b0
namespace Go.Proofs.b0
open Go aw Go.Proofs cu
set_option maxRecDepth 100000
set_option maxHeartbeats 1000000
abbrev nh(b:Nat):List I:=[.ptr b 0,.ptr (b+2) 0,.ptr (b+3) 0,.ptr (b+1) 0]
structure e_(b:Nat)(h0 x:J)(w:aJ):Prop where
 zH:w0 (b+4) b x w
 one:x.get (b+1)=some (.cells [.fn 132 [] (nh b)] 127 .own 0 0)
 uD:x.get (b+2)=some (.cells [.fn 129 [] [.ptr b 0,.ptr (b+1) 0]] 172 .own 0 0)
 mW:x.get (b+3)=some (.cells [.fn 131 [] []] 167 .own 0 0)
 ext:Ext b h0 x
abbrev gN(b:Nat)(x y:J):Prop:=lr 5 b (b+4) x y
theorem e_.n{b:Nat}{h0 x:J}{w:aJ}(af:e_ b h0 x w):b+4<=x.n:=by obtain⟨_,_,_,_,_,_,h,_⟩:=af.zH;exact h
theorem e_.Jm{b:Nat}{h0 x y:J}{w w':aJ}(af:e_ b h0 x w)(aU:w0 (b+4) b y w')(k:gN b x y):e_ b h0 y w':=
 ⟨aU,(k.x.get _ (by omega) (by omega)).trans af.one,(k.x.get _ (by omega) (by omega)).trans af.uD,(k.x.get _ (by omega) (by omega)).trans af.mW,
  af.ext.trans (Nat.le_refl _) ⟨k.x.n,λd az=>k.x.get d (by omega) (by omega)⟩⟩
theorem e_.zI{b:Nat}{h0 x y:J}{w:aJ}(af:e_ b h0 x w)(e:Ext x.n x y):e_ b h0 y w/\gN b x y:=by
 have aG:=af.n
 have aq:gN b x y:=lr.ext e aG
 refine⟨af.Jm ?_ aq,aq⟩
 obtain⟨a,v,aa,ad,ar,aM,bS,cK⟩:=af.zH
 exact⟨a,v,(e.get b (by omega)).trans aa,ad,ar.ext e.n λc _ ag=>e.get c ag,aM,Nat.le_trans bS e.n,cK⟩
theorem e_.ws{b:Nat}{h0 x:J}{w:aJ}(n:Nat)(s:aJ)(af:e_ b h0 x w)(an:w.length+s.length<=1000000000):∃y,Y (n+3) (.fn 130) [.ptr b 0,.str s] x=.ret (.aK [.int .i64 (Int.ofNat s.length),.dW]) y/\e_ b h0 y (w++s)/\gN b x y:=by
 obtain⟨y,c,aU,k⟩:=Tn n b (b+4) x w s af.zH an
 exact⟨y,c,af.Jm aU k,k⟩
theorem gN.own{b d:Nat}{x y:J}{cs:List I}{e:Nat}(k:gN b x y)(az:d<x.n)(af:d≠b)(aj:x.get d=some (.cells cs e .own 0 0)):d<y.n/\y.get d=some (.cells cs e .own 0 0):=
 ⟨Nat.lt_of_lt_of_le az k.x.n,(k.k d az af (by rw[aj];intro cs a9 up h;cases h)).trans aj⟩
theorem DC(m:Nat){b:Nat}{h0:J}{v:I}{vs:List I}(sep:aJ)(ei fz:Nat)(g9 g_:List I)(A W Z:Nat->aJ)(items:List aJ)(K:J->Prop)(dj:∀x y,K x->gN b x y->K y)(aB:dZ b h0 v vs)(hlen:vs.length<=90000)(zJ:items.length=vs.length)(Tq:∀i (ae:i<items.length),items[i]=A i++W i++Z i)
  (h8:∀i x w,i<vs.length->e_ b h0 x w->K x->Y (m+3) (.fn ei) (.int .i64 (Int.ofNat i)::g9) x=.ret (.str (A i)) x)
  (Tr:∀i x w,i<vs.length->e_ b h0 x w->K x->Y (m+3) (.fn fz) (.int .i64 (Int.ofNat i)::g_) x=.ret (.str (Z i)) x)
  (oX:∀i (ae:i<vs.length) x w,e_ b h0 x w->K x->w.length+(W i).length<=1000000->∃y,Y (m+3) (.fn 132) (vs[i]::nh b) x=.ret (.aK []) y/\e_ b h0 y (w++W i)/\gN b x y)
  {x:J}{w:aJ}(ab:e_ b h0 x w)(w2:K x)(an:w.length+(fP sep items).length<=1000000):
  ∃y,Y (m+4) (.fn 129) [v,.str sep,.fn ei [] g9,.fn fz [] g_,.ptr b 0,.ptr (b+1) 0] x=.ret (.aK []) y/\e_ b h0 y (w++fP sep items)/\gN b x y:=by
 have c6:∀g,Ext b h0 g->cb Tryz.prog g 49 v=some (.int .i64 (Int.ofNat vs.length)):=λg x=>(aB.bZ (ey.ext x (Nat.le_refl _))).len (t:=49) (e:=47) (by kernel_rfl)
 refine Tc (m+3) v sep ei fz b (b+1) g9 g_ x (R:=λr=>∃y,r=.ret (.aK []) y/\e_ b h0 y (w++fP sep items)/\gN b x y) ⟨vs.length,c6 x ab.ext,?_⟩
 refine bm.loop (by kernel_rfl) (λk st=>∃i y Γ,st=⟨Γ,[],.none,y⟩/\cl [(1,.str sep),(2,.fn ei [] g9),(3,.fn fz [] g_),(4,.ptr b 0),(5,.ptr (b+1) 0),(12,v),(13,.int .i64 (Int.ofNat vs.length)),(14,.int .i64 (Int.ofNat i))] Γ/\vs.length-i=k/\i<=vs.length/\e_ b h0 y (w++fP sep (items.take i))/\gN b x y/\K y) ?_ vs.length _ (by omega) ⟨0,x,_,rfl,⟨rfl,rfl,rfl,rfl,rfl,rfl,rfl,rfl,trivial⟩,by omega,by omega,by simpa[fP] using ab,lr.refl _ _ _ _,w2⟩
 rintro k st ⟨i,y,Γ,rfl,cG,aq,ae,aU,hw,w3⟩
 by_cases aa:i<vs.length
 · have ad:i<items.length:=by omega
   rcases aB with⟨rfl,rfl⟩|⟨dh,off,aE,rfl,af,gj,a6,az⟩
   · simp at aa
   have t1:=Il sep items (i+1)
   have t2:=Ik sep items ad
   have Jn:=Tq i ad
   have item:∀y dp,e_ b h0 y dp->K y->dp.length+(items[i]).length<=1000000->∃a au,Y (m+3) (.fn ei) (.int .i64 (Int.ofNat i)::g9) y=.ret (.str a) au/\∃bF a7,Y (m+3) (.fn 130) [.ptr b 0,.str a] au=.ret (.aK [.int .i64 (Int.ofNat bF),.dW]) a7/\ay a7 (b+1) 0=some (.fn 132 [] (nh b))/\∃b8,Y (m+3) (.fn 132) (vs[i]::nh b) a7=.ret (.aK []) b8/\∃z db,Y (m+3) (.fn fz) (.int .i64 (Int.ofNat i)::g_) b8=.ret (.str z) db/\∃eH e7,Y (m+3) (.fn 130) [.ptr b 0,.str z] db=.ret (.aK [.int .i64 (Int.ofNat eH),.dW]) e7/\e_ b h0 e7 (dp++items[i])/\gN b y e7:=by
    intro y dp Jo DD oh
    rw[Jn] at oh
    simp only[List.length_append] at oh
    obtain⟨a7,c3,cO,eH⟩:=Jo.ws m (A i) (by omega)
    obtain⟨b8,c4,hD,nW⟩:=oX i aa a7 _ cO (dj _ _ DD eH) (by simp;omega)
    have Ts:=dj _ _ (dj _ _ DD eH) nW
    obtain⟨e7,w4,iC,vR⟩:=hD.ws m (Z i) (by simp;omega)
    refine⟨A i,y,h8 i y _ aa Jo DD,_,a7,c3,ba cO.one rfl,b8,c4,Z i,b8,Tr i b8 _ aa hD Ts,_,e7,w4,?_,(eH.trans nW).trans vR⟩
    rw[Jn]
    simpa only[List.append_assoc] using iC
   have sV:∀e7,e_ b h0 e7 (w++fP sep (items.take (i+1)))->gN b y e7->(dn (λs=>∃j,j<k/\(λk st=>∃i y Γ,st=⟨Γ,[],.none,y⟩/\cl [(1,.str sep),(2,.fn ei [] g9),(3,.fn fz [] g_),(4,.ptr b 0),(5,.ptr (b+1) 0),(12,.slice dh off vs.length aE),(13,.int .i64 (Int.ofNat vs.length)),(14,.int .i64 (Int.ofNat i))] Γ/\vs.length-i=k/\i<=vs.length/\e_ b h0 y (w++fP sep (items.take i))/\gN b x y/\K y) j s) (λcE cF=>∃(g:J) (bV:Env),cE=.exit 0/\cF=⟨bV,[],.none,g⟩/\cl [] bV/\∃y,av.ret (.aK []) g=.ret (.aK []) y/\e_ b h0 y (w++fP sep items)/\gN b x y)) .nrm ⟨[(1,.str sep),(2,.fn ei [] g9),(3,.fn fz [] g_),(4,.ptr b 0),(5,.ptr (b+1) 0),(12,.slice dh off vs.length aE),(13,.int .i64 (Int.ofNat vs.length)),(14,.int .i64 (Int.ofNat (i+1)))],[],.none,e7⟩:=λe7 iC vR=>
    ⟨_,(by show vs.length-(i+1)<k;omega),i+1,e7,_,rfl,⟨rfl,rfl,rfl,rfl,rfl,rfl,rfl,rfl,trivial⟩,rfl,by omega,iC,hw.trans vR,dj _ _ w3 vR⟩
   refine bm.pre (Td (Y (m+3)) sep ei fz b (b+1) dh off _ i 132 aE g9 g_ (nh b) y ⟨λ_=>⟨aa,_,gv aU.ext af (gj i aa),λvD=>?_,λvD=>?_⟩,λah=>absurd aa ah⟩) cG rfl rfl rfl
   · rw[if_pos vD] at t2
     rw[t2] at t1
     simp only[List.length_append] at t1
     obtain⟨al,c1,a4,bG⟩:=aU.ws m sep (by simp;omega)
     obtain⟨a,au,c2,bF,a7,c3,c4,b8,lJ,z,db,w4,eH,e7,DE,iC,b3⟩:=item al _ a4 (dj _ _ w3 bG) (by simp;omega)
     exact⟨_,_,al,c1,a,au,c2,bF,_,a7,c3,c4,b8,lJ,z,db,w4,eH,_,e7,DE,by omega,sV e7 (by rw[t2];simpa only[List.append_assoc] using iC) (bG.trans b3)⟩
   · rw[if_neg vD] at t2
     rw[t2] at t1
     have dt:items.take i=[]:=by rw[show i=0 by omega];rfl
     rw[dt] at aU
     obtain⟨a,au,c2,bF,a7,c3,c4,b8,lJ,z,db,w4,eH,e7,DE,iC,b3⟩:=item y _ aU w3 (by simp[fP];omega)
     exact⟨a,au,c2,bF,_,a7,c3,c4,b8,lJ,z,db,w4,eH,_,e7,DE,by omega,sV e7 (by rw[t2];simpa[fP] using iC) b3⟩
 · refine bm.pre (Te (Y (m+3)) sep ei fz b (b+1) vs.length i g9 g_ v y ⟨aa,y,_,rfl,rfl,trivial,y,rfl,?_,hw⟩) cG rfl rfl rfl
   rw[List.take_of_length_le (by omega)] at aU
   exact aU
end Go.Proofs.b0
namespace Go.Proofs.b0
open Go aw Go.Proofs cu
set_option maxRecDepth 100000
set_option maxHeartbeats 1000000
theorem Tt{k:Nat}(aa:1<=k)(bS:k<=5):jR Tryz.prog 9 [.str [],.str [97,110,121],.str [105,110,116],.str [98,111,111,108],.str [115,116,114],.str [110,105,108]] (k*1)=some (.str (word k)):=by
 have:k=1\/k=2\/k=3\/k=4\/k=5:=by omega
 rcases this with rfl|rfl|rfl|rfl|rfl<;>rfl
theorem Jp{a b c:aJ}:(a++b++c).length=a.length+b.length+c.length:=by simp;omega
theorem Jq:∀(K:Nat) (t:aZ),sz t<=K->fQ t=true->sz t<=100->∀(m b:Nat) (h0:J) (v:I),2*sz t+6<=m->ef b h0 t v->∀(x:J) (w:aJ),e_ b h0 x w->w.length+(wr t).length<=1000000->∃y,Y m (.fn 132) (v::nh b) x=.ret (.aK []) y/\e_ b h0 y (w++wr t)/\gN b x y
 |0,t,dj,_,_,_,_,_,_,_,_,_,_,_,_=>by
  have:=qN t
  omega
 |K+1,.mk k bP aW xs rt,dj,sW,gQ,m,b,h0,v,hm,aB,x,w,ab,an=>by
  obtain⟨R,dF,cB,dg,vs,b3,a9,up,rfl,ad,ar,aM,bS,cK,ew⟩:=aB
  have du:=zv _ sW
  rw[Jd] at sW
  simp only[Bool.and_eq_true,decide_eq_true_eq] at sW
  obtain⟨⟨bG,sL⟩,nG,hi,Jr⟩:=sW
  rw[okW] at du
  simp only[Bool.and_eq_true,Bool.or_eq_true,decide_eq_true_eq] at du
  obtain⟨⟨⟨⟨⟨_,_⟩,ni⟩,pz⟩,w2⟩,DF⟩:=du
  rw[sI] at dj gQ hm
  rw[IM] at an
  obtain⟨m,rfl⟩:∃j,m=j+5:=⟨m-5,by omega⟩
  have gH:=eg.len cK
  have nI:=uq xs
  have jD:=zs xs
  have rJ:∀i (i2:i<xs.length),fQ xs[i]=true:=λi i2=>zt hi (List.getElem_mem i2)
  have bg:∀(u:aZ),sz u<=K->fQ u=true->sz u<=100->∀(m b:Nat) (h0:J) (v:I),2*sz u+6<=m->ef b h0 u v->∀(x:J) (w:aJ),e_ b h0 x w->w.length+(wr u).length<=1000000->∃y,Y m (.fn 132) (v::nh b) x=.ret (.aK []) y/\e_ b h0 y (w++wr u)/\gN b x y:=Jq K
  rw[IM]
  obtain⟨H,cR⟩:∃H,H=x.push (.cells [.ptr R 0] 47 .own 0 0):=⟨_,rfl⟩
  have dG:Ext x.n x H:=by rw[cR];exact Ext.push (Nat.le_refl _) _
  have ml:H.n=x.n+1:=by rw[cR];rfl
  have jN:H.get x.n=some (.cells [.ptr R 0] 47 .own 0 0):=by rw[cR];exact eZ rfl
  obtain⟨qW,w5⟩:=ab.zI dG
  have EO:=ab.n
  have hW:∀y s,e_ b h0 y s->y.get R=some (.cells [.int .i64 (Int.ofNat k),.str bP,dF,cB,dg] 51 b3 a9 up):=λy s aU=>(aU.ext.get R ad).trans ar
  have qX:∀y,gN b H y->y.get x.n=some (.cells [.ptr R 0] 47 .own 0 0):=λy k=>(k.own (by omega) (by omega) jN).2
  have zK:∀n y s,e_ b h0 y s->e_ b h0 (y.room n) s/\gN b y (y.room n):=λn y s aU=>aU.zI (Ext.room _ y n)
  have item:∀i (ae:i<vs.length) y s,e_ b h0 y s->s.length+(wn (c9 xs) i).length<=1000000->∃z,Y (m+3) (.fn 132) (vs[i]::nh b) y=.ret (.aK []) z/\e_ b h0 z (s++wn (c9 xs) i)/\gN b y z:=λi ae y s aU an=>by
   have i2:i<xs.length:=by omega
   have aT:=m7 (List.getElem_mem i2)
   rw[show wn (c9 xs) i=wr xs[i] by simp[wn,jD,i2,C_ xs i i2]] at an⊢
   exact bg xs[i] (by omega) (rJ i i2) (by omega) (m+3) b h0 vs[i] (by omega) (eg.get cK i ae i2) y s aU an
  refine Th (m+4) b (b+2) (b+3) (b+1) R k bP cB dg x (R:=λr=>∃y,r=.ret (.aK []) y/\e_ b h0 y (w++cu.shape k bP aW (xs.map aZ.k) (c9 xs) (lC rt))/\gN b x y) ?_
  rw[<-cR]
  refine⟨ba jN rfl,ba (hW H _ qW) rfl,λhv=>?_,λhv=>⟨λhM=>?_,λhM=>⟨λjk=>?_,λjk=>⟨λjW=>?_,λjW=>?_⟩⟩⟩⟩
  · subst hv
    have:(bP:aJ).length<=161:=by
     have:qP bP=true:=by simpa[hF] using Jr
     unfold qP at this
     simp only[Bool.and_eq_true,decide_eq_true_eq] at this
     exact this.1.2
    obtain⟨y,c,DG,k⟩:=qW.ws (m+1) bP (by omega)
    exact⟨ba jN rfl,ba (hW H _ qW) rfl,_,_,y,c,y,rfl,DG,w5.trans k⟩
  · subst hM
    have wV:xs.length=aW.length:=by rcases ni with ni|ni;exact absurd rfl ni;exact ni
    have hs:cu.shape 7 bP aW (xs.map aZ.k) (c9 xs) (lC rt)=[123]++fP [44,32] (kV aW (c9 xs))++[125]:=rfl
    rw[hs] at an⊢
    rw[Jp] at an
    simp only[List.length_cons,List.length_nil] at an
    have zJ:(kV aW (c9 xs)).length=vs.length:=by unfold kV;rw[List.length_zipWith];omega
    obtain⟨al,c1,a4,bG⟩:=qW.ws (m+1) [123] (by simp;omega)
    obtain⟨dz,uE⟩:=zK 8 al _ a4
    have sX:=bG.trans uE
    obtain⟨au,c2,a_,bF⟩:=DC m (v:=cB) (vs:=vs) [44,32] 133 131 [.ptr x.n 0] [] (λi=>wn aW i++[58,32]) (wn (c9 xs)) (λ_=>[]) (kV aW (c9 xs)) (λy=>gN b H y) (λ_ _ k dH=>k.trans dH) bS (by omega) zJ (λi ae=>by
      have i1:i<aW.length:=by omega
      have i2:i<(c9 xs).length:=by omega
      rw[IN ae i1 i2];simp[wn,i1,i2]) (λi y s ae aU aq=>by
      have i1:i<aW.length:=by omega
      rcases aM.strs with⟨_,rfl⟩|⟨Tu,off,aE,rfl,af,gj⟩
      · simp at i1
      refine Tf (m+2) i x.n y (R:=λr=>r=_) ⟨R,ba (qX y aq) rfl,Tu,off,_,aE,ba (hW y s aU) rfl,i1,aW[i],gv aU.ext af (gj i i1),?_,?_⟩
      · have t2:=Qg [44,32] (kV aW (c9 xs)) (i:=i) (by omega)
        rw[IN (by omega) i1 (by omega)] at t2
        simp at t2⊢;omega
      · simp[wn,i1])
     (λi y s ae aU aq=>DB (m+2) i y (R:=λr=>r=_) rfl) (λi ae y s aU aq an=>item i ae y s aU an) dz sX (by simp;omega)
    obtain⟨a7,c3,cO,eH⟩:=a_.ws (m+1) [125] (by simp;omega)
    refine⟨_,_,al,c1,ba dz.uD rfl,ba (qX _ sX) rfl,ba (hW _ _ dz) rfl,ba dz.mW rfl,au,c2,bS.snd,_,_,a7,c3,a7,rfl,by simpa only[List.append_assoc] using cO,w5.trans (sX.trans (bF.trans eH))⟩
  · subst jk
    have hs:cu.shape 8 bP aW (xs.map aZ.k) (c9 xs) (lC rt)=[102,110,40]++fP [44,32] (c9 xs)++[41,32,45,62,32]++lC rt:=rfl
    rw[hs] at an⊢
    rw[List.length_append,Jp] at an
    simp only[List.length_cons,List.length_nil] at an
    obtain⟨al,c1,a4,bG⟩:=qW.ws (m+1) [102,110,40] (by simp;omega)
    obtain⟨dz,uE⟩:=zK 8 al _ a4
    have sX:=bG.trans uE
    obtain⟨au,c2,a_,bF⟩:=DC m (v:=cB) (vs:=vs) [44,32] 131 131 [] [] (λ_=>[]) (wn (c9 xs)) (λ_=>[]) (c9 xs) (λy=>gN b H y) (λ_ _ k dH=>k.trans dH) bS (by omega) (by omega) (λi ae=>by simp[wn,ae]) (λi y s ae aU aq=>DB (m+2) i y (R:=λr=>r=_) rfl)
     (λi y s ae aU aq=>DB (m+2) i y (R:=λr=>r=_) rfl) (λi ae y s aU aq an=>item i ae y s aU an) dz sX (by simp;omega)
    obtain⟨a7,c3,cO,eH⟩:=a_.ws (m+1) [41,32,45,62,32] (by simp;omega)
    obtain⟨DH,Tv⟩:=zK 6 a7 _ cO
    have Js:=sX.trans (bF.trans (eH.trans Tv))
    cases rt with
    |none=>rcases pz with pz|pz<;>simp at pz
    |some u=>
     rw[kU] at dj gQ hm
     have DI:lC (some u)=wr u:=by rw[lC]
     rw[DI] at an⊢
     have Tw:fQ u=true:=by simpa[hF,lD] using Jr
     obtain⟨b8,c4,hD,nW⟩:=bg u (by omega) Tw (by omega) (m+4) b h0 dg (by omega) ew (a7.room 6) _ DH (by simp;omega)
     exact⟨_,_,al,c1,ba dz.uD rfl,ba (qX _ sX) rfl,ba (hW _ _ dz) rfl,ba dz.mW rfl,ba dz.mW rfl,au,c2,bS.snd,_,_,a7,c3,ba DH.one rfl,ba (qX _ Js) rfl,ba (hW _ _ DH) rfl,b8,c4,dB.snd (ot:=some u) ew,b8,rfl,by simpa only[List.append_assoc] using hD,w5.trans (Js.trans nW)⟩
  · subst jW
    have hs:cu.shape 9 bP aW (xs.map aZ.k) (c9 xs) (lC rt)=fP [32,124,32] (mh (xs.map aZ.k) (c9 xs)):=rfl
    rw[hs] at an⊢
    have zJ:(mh (xs.map aZ.k) (c9 xs)).length=vs.length:=by unfold mh;rw[List.length_zipWith,List.length_map];omega
    obtain⟨dz,uE⟩:=zK 10 H _ qW
    obtain⟨al,fG⟩:∃g,g=(H.room 10).push (.cells [.str [40]] 9 .own 0 0):=⟨_,rfl⟩
    obtain⟨au,kZ⟩:∃g,g=al.push (.cells [.str [41]] 9 .own 0 0):=⟨_,rfl⟩
    have aI:al.n=(H.room 10).n+1:=by rw[fG];rfl
    have bw:au.n=al.n+1:=by rw[kZ];rfl
    have bb:Ext (H.room 10).n (H.room 10) al:=by rw[fG];exact Ext.push (Nat.le_refl _) _
    have bz:Ext al.n al au:=by rw[kZ];exact Ext.push (Nat.le_refl _) _
    obtain⟨a4,bG⟩:=dz.zI bb
    obtain⟨a_,bF⟩:=a4.zI bz
    have aR:au.get (H.room 10).n=some (.cells [.str [40]] 9 .own 0 0):=(bz.get _ (by omega)).trans (by rw[fG];exact eZ rfl)
    have a3:au.get al.n=some (.cells [.str [41]] 9 .own 0 0):=by rw[kZ];exact eZ rfl
    have XP:=dz.n
    have Jt:=uE.trans bG
    have DJ:=Jt.trans bF
    have Tx:∀i (ae:i<vs.length),∃M,vs[i]=.ptr M 0/\∀y,Ext b h0 y->ay y M (0+0)=some (.int .i64 (Int.ofNat ((xs.map aZ.k)[i]?.getD 0))):=λi ae=>by
     have i2:i<xs.length:=by omega
     obtain⟨M,py,wX⟩:=(eg.get cK i ae i2).kind
     exact⟨M,py,λy e=>by rw[wX y e];simp[i2]⟩
    have mo:∀(q:Nat) (mk:aJ),(∀y,gN b au y->y.get q=some (.cells [.str mk] 9 .own 0 0))->∀i y s,i<vs.length->e_ b h0 y s->gN b au y->Y (m+3) (.fn 135) [.int .i64 (Int.ofNat i),.ptr x.n 0,.ptr q 0] y=.ret (.str (if(xs.map aZ.k)[i]?.getD 0=8 then mk else[])) y:=λq mk bh i y s ae aU aq=>by
     obtain⟨M,py,wX⟩:=Tx i ae
     rcases bS with⟨_,rfl⟩|⟨dh,off,aE,rfl,af,gj,_⟩
     · simp at ae
     have aC:=gj i ae
     rw[py] at aC
     refine Tg (m+2) i x.n q y (R:=λr=>r=_) ⟨R,ba (qX y (DJ.trans aq)) rfl,dh,off,_,aE,ba (hW y s aU) rfl,ae,M,gv aU.ext af aC,_,wX y aU.ext,λe=>⟨mk,ba (bh y aq) rfl,by rw[if_pos e]⟩,λe=>by rw[if_neg e]⟩
    obtain⟨a7,c3,cO,eH⟩:=DC m (v:=cB) (vs:=vs) [32,124,32] 135 135 [.ptr x.n 0,.ptr (H.room 10).n 0] [.ptr x.n 0,.ptr al.n 0] (λi=>if(xs.map aZ.k)[i]?.getD 0=8 then[40] else[]) (wn (c9 xs)) (λi=>if(xs.map aZ.k)[i]?.getD 0=8 then[41] else[]) (mh (xs.map aZ.k) (c9 xs)) (λy=>gN b au y) (λ_ _ k dH=>k.trans dH) bS (by omega) zJ (λi ae=>by
      have i1:i<(xs.map aZ.k).length:=by rw[List.length_map];omega
      have i2:i<(c9 xs).length:=by omega
      rw[Rv ae i1 i2,show(xs.map aZ.k)[i]?.getD 0=(xs.map aZ.k)[i] by rw[List.getElem?_eq_getElem i1];rfl,show wn (c9 xs) i=(c9 xs)[i] by simp[wn,i2]]
      split<;>simp)
     (mo _ [40] (λy k=>(k.own (by omega) (by omega) aR).2)) (mo _ [41] (λy k=>(k.own (by omega) (by omega) a3).2)) (λi ae y s aU aq an=>item i ae y s aU an) a_ (lr.refl _ _ _ _) (by omega)
    refine⟨ba dz.uD rfl,ba (qX _ uE) rfl,ba (hW _ _ dz) rfl,_,al,Jh (m+3) [40] x.n (H.room 10) (R:=λr=>r=_) (by rw[<-fG]),_,au,Jh (m+3) [41] x.n al (R:=λr=>r=_) (by rw[<-kZ]),a7,c3,ba a_.uD rfl,ba a4.uD rfl,ba (qX _ DJ) rfl,ba (qX _ Jt) rfl,bS.snd,ba (hW _ _ a_) rfl,ba (hW _ _ a4) rfl,a7,rfl,cO,w5.trans (DJ.trans eH)⟩
  · have hs:cu.shape k bP aW (xs.map aZ.k) (c9 xs) (lC rt)=word k:=by
      unfold cu.shape
      rw[if_neg hv,if_neg hM,if_neg jk,if_neg jW]
    rw[hs] at an⊢
    obtain⟨y,c,DG,w3⟩:=qW.ws (m+1) (word k) (by omega)
    exact⟨ba jN rfl,ba (hW H _ qW) rfl,word k,⟨by omega,Tt bG (by omega)⟩,_,_,y,c,y,rfl,DG,w5.trans w3⟩
theorem Ty:Je:=λu sW gQ m B h v hm bM aB=>by
 obtain⟨m,rfl⟩:∃j,m=j+2:=⟨m-2,by omega⟩
 have jD:=Db u sW
 obtain⟨R,rfl⟩:∃R,v=.ptr R 0:=by
  cases u with
  |mk bG bF eH nW vQ=>obtain⟨R,_,_,_,_,_,_,_,rfl,_⟩:=aB;exact⟨R,rfl⟩
 refine Ti (m+1) R h ?_
 obtain⟨dy,hV⟩:∃p,p=h.push (.cells [.bd,.a0] 166 .own 0 0):=⟨_,rfl⟩
 obtain⟨dq,gW⟩:∃p,p=dy.push (.cells [.eN] 127 .own 0 0):=⟨_,rfl⟩
 obtain⟨iu,uF⟩:∃p,p=dq.push (.cells [.eN] 172 .own 0 0):=⟨_,rfl⟩
 rw[<-hV,<-gW,<-uF]
 have aI:dy.n=h.n+1:=by rw[hV];rfl
 have bw:dq.n=h.n+2:=by rw[gW];show dy.n+1=_;omega
 have cH:iu.n=h.n+3:=by rw[uF];show dq.n+1=_;omega
 rw[aI,bw]
 obtain⟨hL,zL⟩:∃p,p=iu.set (h.n+2) (some (.cells [.fn 129 [] [.ptr h.n 0,.ptr (h.n+1) 0]] 172 .own 0 0)):=⟨_,rfl⟩
 have cZ:hL.n=h.n+3:=by rw[zL];exact cH
 have st1:aw.storeCells iu (h.n+2) 0 [.fn 129 [] [.ptr h.n 0,.ptr (h.n+1) 0]]=some hL:=by
  rw[zL];exact ia (cs:=[.eN]) (by rw[uF];exact eZ bw.symm) rfl rfl
 obtain⟨DK,w6⟩:∃p,p=hL.push (.cells [.eN] 167 .own 0 0):=⟨_,rfl⟩
 obtain⟨uG,w7⟩:∃p,p=DK.set (h.n+3) (some (.cells [.fn 131 [] []] 167 .own 0 0)):=⟨_,rfl⟩
 have fg:uG.n=h.n+4:=by rw[w7];show DK.n=_;rw[w6];show hL.n+1=_;omega
 have oT:aw.storeCells DK (h.n+3) 0 [.fn 131 [] []]=some uG:=by
  rw[w7];exact ia (cs:=[.eN]) (by rw[w6];exact eZ cZ.symm) rfl rfl
 have db:∀d,d≠h.n+2->d<h.n+3->uG.get d=iu.get d:=λd aa ad=>by
  rw[w7,J.bL,if_neg (by omega),w6,J.ec,if_neg (by omega),zL,J.bL,if_neg aa]
 have a3:iu.get (h.n+1)=some (.cells [.eN] 127 .own 0 0):=by
  rw[uF,J.ec,if_neg (by omega),gW];exact eZ aI.symm
 have aR:iu.get h.n=some (.cells [.bd,.a0] 166 .own 0 0):=by
  rw[uF,J.ec,if_neg (by omega),gW,J.ec,if_neg (by omega),hV];exact eZ rfl
 obtain⟨uH,qY⟩:∃p,p=uG.set (h.n+1) (some (.cells [.fn 132 [] (nh h.n)] 127 .own 0 0)):=⟨_,rfl⟩
 have Tz:aw.storeCells uG (h.n+1) 0 [.fn 132 [] (nh h.n)]=some uH:=by
  rw[qY];exact ia (cs:=[.eN]) ((db _ (by omega) (by omega)).trans a3) rfl rfl
 have iE:uH.n=h.n+4:=by rw[qY];exact fg
 have hM:Ext h.n h uH:=⟨by omega,λd az=>by
  rw[qY,J.bL,if_neg (by omega),db d (by omega) (by omega),uF,J.ec,if_neg (by omega),gW,J.ec,if_neg (by omega),hV,J.ec,if_neg (by omega)]⟩
 have box:e_ h.n h uH []:=by
  refine⟨⟨.bd,.a0,?_,.inl rfl,.inl ⟨rfl,rfl⟩,by omega,by omega,λ_=>rfl⟩,?_,?_,?_,hM⟩
  · rw[qY,J.bL,if_neg (by omega),db _ (by omega) (by omega)];exact aR
  · rw[qY];exact h_ rfl
  · rw[qY,J.bL,if_neg (by omega),w7,J.bL,if_neg (by omega),w6,J.ec,if_neg (by omega),zL];exact h_ rfl
  · rw[qY,J.bL,if_neg (by omega),w7];exact h_ rfl
 obtain⟨y,c1,a4,bG⟩:=Jq (sz u) u (Nat.le_refl _) sW gQ (m+1) h.n h (.ptr R 0) (by omega) (ef.le bM _ _ aB) uH [] box (by simp;omega)
 rw[List.nil_append] at a4
 obtain⟨z,c2,bz⟩:=Tp m h.n (h.n+4) y (wr u) a4.zH (by omega)
 refine⟨hL,st1,uG,?_,uH,?_,nh h.n,?_,y,c1,wr u,z,c2,bD.mk ⟨?_,λd az=>?_⟩⟩
 · rw[cZ,<-w6];exact oT
 · rw[cZ];exact Tz
 · rw[qY];exact ba (h_ rfl) rfl
 · have:=bG.x.n;have:=bz.n;omega
 · rw[bz.get d (by omega),bG.x.get d (by omega) (by omega),hM.get d (by omega)]
theorem TA{ot:Option aZ}{B:Nat}{h:J}{v:I}(m:Nat)(gQ:dA ot<=90000)(aG:∀t,ot=some t->jv t<=90000)(hm:4*dA ot+20<=m)(bM:B<=h.n)(aB:dB B h ot v):
  bD B h (.int .i64 (Int.ofNat (lF ot))) (Y (m+1) (.fn 76) [v] h):=by
 cases ot with
 |none=>
  obtain rfl:v=.bd:=aB
  exact SE m h (bD.mk (Ext.refl _ _))
 |some t=>
  have br:dA (some t)=sz t:=kU t
  obtain⟨R,rfl⟩:∃R,v=.ptr R 0:=by
   cases t with
   |mk bG bF eH nW vQ=>obtain⟨R,_,_,_,_,_,_,_,rfl,_⟩:=aB;exact⟨R,rfl⟩
  obtain⟨m,rfl⟩:∃j,m=j+1:=⟨m-1,by omega⟩
  obtain⟨al,c1,bb⟩:=Df (m-1) gQ bM aB (by omega)
  replace bb:=bb.le bM
  rw[show m-1+2=m+1 by omega] at c1
  rw[br] at c1 gQ hm
  refine SD (m+1) R h ⟨_,al,c1,λwO=>?_,λwO=>?_⟩
  · exact bD.of (by rw[lF,if_pos (by omega)]) bb
  · obtain⟨au,c2,bz⟩:=Jf Ty (sz t) t (Nat.le_refl _) (by omega) (aG t rfl) (m+1) B al (.ptr R 0) (by omega) (Nat.le_trans bM bb.n) (ef.bZ (ey.ext bb (Nat.le_refl _)) _ _ aB)
    have Ju:=bb.trans (Nat.le_refl _) bz
    refine⟨_,au,c2,λaf=>?_,λaf=>?_⟩
    · have:fQ t=true:=by simpa using af
      exact bD.of (by rw[lF,if_neg (by omega),if_pos this]) Ju
    · have:fQ t=false:=by simpa using af
      exact bD.of (by rw[lF,if_neg (by omega),if_neg (by rw[this];simp)]) Ju
end Go.Proofs.b0
