/-
  PROVED HERE: contracts of functions (Dg). No condition beside each statement's own.
-/
import Derived.Test.YtjkomfonmcmgdaaGreatDoorDf
import Derived.Test.YtjkomfonmcmgdaaGreatDoorTx
set_option linter.unusedVariables false
set_option linter.unusedSimpArgs false
set_option maxRecDepth 100000
set_option maxHeartbeats 1000000
namespace Go.Proofs.jk
open Go bt Go.Proofs hy
theorem Z_(m r:Nat)(h:J){R:a9->Prop}(H:∃aE:Nat,ar h r (0+0)=some (.int .i64 (.ofNat aE))/\∃s1:List UInt8,ar h r (0+1)=some (.str s1)/\(dd s1 []=true->∃v1:I,ar h r (0+2)=some v1/\∃bf:Nat,cl Tryz.prog h 63 v1=some (.int .i64 (.ofNat bf))/\(bf=0->∃v2:I,ar h r (0+3)=some v2/\∃bH:Nat,cl Tryz.prog h 50 v2=some (.int .i64 (.ofNat bH))/\(bH=0->∃bU:Nat,ar h r (0+4)=some (.ptr bU 0)/\R (.ret (.bool (eS true (a8 (.ofNat aE) (.ofNat 8)))) h))/\(¬bH=0->(7<=aE->∃b_:Nat,ar h r (0+4)=some (.ptr b_ 0)/\R (.ret (.bool (eS true (a8 (.ofNat aE) (.ofNat 8)))) h))/\(¬7<=aE->R (.ret (.bool false) h))))/\(¬bf=0->(aE=7->∃cz:I,ar h r (0+3)=some cz/\∃cv:Nat,cl Tryz.prog h 50 cz=some (.int .i64 (.ofNat cv))/\(cv=0->∃c4:Nat,ar h r (0+4)=some (.ptr c4 0)/\R (.ret (.bool (eS true (a8 (.ofNat aE) (.ofNat 8)))) h))/\(¬cv=0->(7<=aE->∃eo:Nat,ar h r (0+4)=some (.ptr eo 0)/\R (.ret (.bool (eS true (a8 (.ofNat aE) (.ofNat 8)))) h))/\(¬7<=aE->R (.ret (.bool false) h))))/\(¬aE=7->R (.ret (.bool false) h))))/\(dd s1 []=false->(aE=6->∃v4:I,ar h r (0+2)=some v4/\∃eG:Nat,cl Tryz.prog h 63 v4=some (.int .i64 (.ofNat eG))/\(eG=0->∃er:I,ar h r (0+3)=some er/\∃fK:Nat,cl Tryz.prog h 50 er=some (.int .i64 (.ofNat fK))/\(fK=0->∃im:Nat,ar h r (0+4)=some (.ptr im 0)/\R (.ret (.bool (eS true (a8 (.ofNat aE) (.ofNat 8)))) h))/\(¬fK=0->(7<=aE->∃gQ:Nat,ar h r (0+4)=some (.ptr gQ 0)/\R (.ret (.bool (eS true (a8 (.ofNat aE) (.ofNat 8)))) h))/\(¬7<=aE->R (.ret (.bool false) h))))/\(¬eG=0->(aE=7->∃v6:I,ar h r (0+3)=some v6/\∃jV:Nat,cl Tryz.prog h 50 v6=some (.int .i64 (.ofNat jV))/\(jV=0->∃nN:Nat,ar h r (0+4)=some (.ptr nN 0)/\R (.ret (.bool (eS true (a8 (.ofNat aE) (.ofNat 8)))) h))/\(¬jV=0->(7<=aE->∃mg:Nat,ar h r (0+4)=some (.ptr mg 0)/\R (.ret (.bool (eS true (a8 (.ofNat aE) (.ofNat 8)))) h))/\(¬7<=aE->R (.ret (.bool false) h))))/\(¬aE=7->R (.ret (.bool false) h))))/\(¬aE=6->R (.ret (.bool false) h)))):
  R (Y (m+1) (.fn 61) [.ptr r 0] h):=
 dQ (intr:=b3) [] [(0,.v (.ptr r 0))] Tryz.func61 (by kernel_rfl) (by kernel_rfl) (by kernel_rfl) rfl (Eq.mp (by kernel_rfl) H)
theorem aaa(m r:Nat)(h:J){R:a9->Prop}(H:∃aE:Nat,ar h r (0+0)=some (.int .i64 (.ofNat aE))/\∃s1:List UInt8,ar h r (0+1)=some (.str s1)/\(dd s1 []=true->∃v1:I,ar h r (0+2)=some v1/\∃bf:Nat,cl Tryz.prog h 63 v1=some (.int .i64 (.ofNat bf))/\(bf=0->∃v2:I,ar h r (0+3)=some v2/\∃bH:Nat,cl Tryz.prog h 50 v2=some (.int .i64 (.ofNat bH))/\(bH=0->ar h r (0+4)=some .aZ/\R (.ret (.bool (eS false (a8 (.ofNat aE) (.ofNat 8)))) h))/\(¬bH=0->(7<=aE->ar h r (0+4)=some .aZ/\R (.ret (.bool (eS false (a8 (.ofNat aE) (.ofNat 8)))) h))/\(¬7<=aE->R (.ret (.bool false) h))))/\(¬bf=0->(aE=7->∃cz:I,ar h r (0+3)=some cz/\∃bU:Nat,cl Tryz.prog h 50 cz=some (.int .i64 (.ofNat bU))/\(bU=0->ar h r (0+4)=some .aZ/\R (.ret (.bool (eS false (a8 (.ofNat aE) (.ofNat 8)))) h))/\(¬bU=0->(7<=aE->ar h r (0+4)=some .aZ/\R (.ret (.bool (eS false (a8 (.ofNat aE) (.ofNat 8)))) h))/\(¬7<=aE->R (.ret (.bool false) h))))/\(¬aE=7->R (.ret (.bool false) h))))/\(dd s1 []=false->(aE=6->∃v4:I,ar h r (0+2)=some v4/\∃b_:Nat,cl Tryz.prog h 63 v4=some (.int .i64 (.ofNat b_))/\(b_=0->∃er:I,ar h r (0+3)=some er/\∃cv:Nat,cl Tryz.prog h 50 er=some (.int .i64 (.ofNat cv))/\(cv=0->ar h r (0+4)=some .aZ/\R (.ret (.bool (eS false (a8 (.ofNat aE) (.ofNat 8)))) h))/\(¬cv=0->(7<=aE->ar h r (0+4)=some .aZ/\R (.ret (.bool (eS false (a8 (.ofNat aE) (.ofNat 8)))) h))/\(¬7<=aE->R (.ret (.bool false) h))))/\(¬b_=0->(aE=7->∃v6:I,ar h r (0+3)=some v6/\∃c4:Nat,cl Tryz.prog h 50 v6=some (.int .i64 (.ofNat c4))/\(c4=0->ar h r (0+4)=some .aZ/\R (.ret (.bool (eS false (a8 (.ofNat aE) (.ofNat 8)))) h))/\(¬c4=0->(7<=aE->ar h r (0+4)=some .aZ/\R (.ret (.bool (eS false (a8 (.ofNat aE) (.ofNat 8)))) h))/\(¬7<=aE->R (.ret (.bool false) h))))/\(¬aE=7->R (.ret (.bool false) h))))/\(¬aE=6->R (.ret (.bool false) h)))):
  R (Y (m+1) (.fn 61) [.ptr r 0] h):=
 dQ (intr:=b3) [(45,.bq (.is .aZ))] [(0,.v (.ptr r 0))] Tryz.func61 (by kernel_rfl) (by kernel_rfl) (by kernel_rfl) rfl (Eq.mp (by kernel_rfl) H)
theorem aab(m r:Nat)(h:J){R:a9->Prop}(H:∃aE:Nat,ar h r (0+0)=some (.int .i64 (.ofNat aE))/\(aE<1->R (.ret (.bool false) h))/\(¬aE<1->∃bf:Nat,ar h r (0+0)=some (.int .i64 (.ofNat bf))/\(9<bf->R (.ret (.bool false) h))/\(¬9<bf->∃br:Bool,∃ai:J,(Y m) (.fn 61) [.ptr r 0] h=.ret (.bool br) ai/\(br=true->∃v1:I,ar ai r (0+3)=some v1/\∃a3:Bool,∃au:J,(Y m) (.fn 63) [v1,.fn 62 [] []] ai=.ret (.bool a3) au/\(a3=true->R (.ret (.bool false) au))/\(a3=false->∃bH:Nat,ar au r (0+0)=some (.int .i64 (.ofNat bH))/\(bH=6->∃s1:List UInt8,ar au r (0+1)=some (.str s1)/\∃dm:Bool,∃ay:J,(Y m) (.fn 64) [.str s1,.str [45,47,46],.int .i64 (.ofNat 161)] au=.ret (.bool dm) ay/\R (.ret (.bool dm) ay))/\(¬bH=6->(bH=7->∃v2:I,ar (au.room 27) r (0+2)=some v2/\∃bU:Nat,cl Tryz.prog (au.room 27) 63 v2=some (.int .i64 (.ofNat bU))/\∃cz:I,ar (au.room 27) r (0+3)=some cz/\∃b_:Nat,cl Tryz.prog (au.room 27) 50 cz=some (.int .i64 (.ofNat b_))/\(bU=b_->∃v4:I,ar (au.room 27) r (0+2)=some v4/\∃gl:Bool,∃bg:J,(Y m) (.fn 65) [v4,.fn 66 [] []] (au.room 27)=.ret (.bool gl) bg/\(gl=true->I.sound v2=true/\I.sound cz=true/\I.sound v4=true/\R (.ret (.bool false) bg))/\(gl=false->∃er:I,ar bg r (0+2)=some er/\∃k5:Bool,∃bF:J,(Y m) (.fn 68) [er,.fn 69 [] []] bg=.ret (.bool k5) bF/\I.sound v2=true/\I.sound cz=true/\I.sound v4=true/\I.sound er=true/\R (.ret (.bool k5) bF)))/\(¬bU=b_->I.sound v2=true/\I.sound cz=true/\R (.ret (.bool false) (au.room 27))))/\(¬bH=7->(bH=8->∃v6:I,ar au r (0+4)=some v6/\∃oB:Bool,∃dk:J,(Y m) (.fn 43) [v6] au=.ret (.bool oB) dk/\R (.ret (.bool oB) dk))/\(¬bH=8->(bH=9->∃hM:I,ar au r (0+3)=some hM/\∃cv:Nat,cl Tryz.prog au 50 hM=some (.int .i64 (.ofNat cv))/\(2<=cv->∃gA:I,ar au r (0+3)=some gA/\∃z1:Bool,∃dX:J,(Y m) (.fn 63) [gA,.fn 70 [] []] au=.ret (.bool z1) dX/\(z1=true->R (.ret (.bool false) dX))/\(z1=false->∃m3:I,ar dX r (0+3)=some m3/\∃xh:Bool,∃fJ:J,(Y m) (.fn 71) [m3,.fn 72 [] []] dX=.ret (.bool xh) fJ/\R (.ret (.bool xh) fJ)))/\(¬2<=cv->R (.ret (.bool false) au)))/\(¬bH=9->R (.ret (.bool true) au)))))))/\(br=false->R (.ret (.bool false) ai))))):
  R (Y (m+1) (.fn 43) [.ptr r 0] h):=
 dQ (intr:=b3) [(76,.bq .o)] [(0,.v (.ptr r 0))] Tryz.func43 (by kernel_rfl) (by kernel_rfl) (by kernel_rfl) rfl (Eq.mp (by kernel_rfl) H)
def mi:a7:=[48,49,50,51,52,53,54,55,56,57]
theorem aac:((List.range 256).all λn=>eQ (Int.ofNat 0) (oS n mi 0)==jA n)=true:=by decide
theorem aad(c:UInt8):eQ (Int.ofNat 0) (oS c.toNat mi 0)=jA c.toNat:=by
 have:=List.all_eq_true.1 aac c.toNat (by rw[List.mem_range];exact UInt8.toNat_lt c)
 simpa using this
theorem aae(n:Nat)(s:a7)(c:Nat)(h:J)(ag:c<256):Y (n+1) (.fn 127) [.str s,.int .u8 (Int.ofNat c)] h=.ret (.int .i64 (oS c s 0)) h:=by
 have ae:Nat.blt c 256=true:=by simpa[Nat.blt_eq] using ag
 have af:b3 127 [.str s,.int .u8 (Int.ofNat c)] h=none:=by kernel_rfl
 have rr:Tryz.f127.body=none:=by rfl
 have ab:r7 Tryz.prog Tryz.f127 Tryz.f127.name [.str s,.int .u8 (Int.ofNat c)] h=some (.int .i64 (oS c s 0),h):=by
  have aN:Tryz.f127.name= "internal/bytealg.IndexByteString" :=by rfl
  simp only[r7,aN,if_true,ae]
 simp only[Y,fp,af,qS,Tryz.func127,rr,ab]
theorem aaf(m:Nat)(c:UInt8)(h:J):Y (m+5) (.fn 85) [.str mi,.str [c]] h=.ret (.bool (jA c.toNat)) h:=by
 rw[<-aad]
 have aF:Y (m+2) (.fn 121) [.str mi,.int .u8 (Int.ofNat c.toNat)] h=.ret (.int .i64 (oS c.toNat mi 0)) h:=
  Zi (m+1) mi c.toNat h (R:=λx=>x=_) ⟨_,h,aae m mi c.toNat h (UInt8.toNat_lt _),rfl⟩
 have a6:Y (m+3) (.fn 117) [.str mi,.str [c]] h=.ret (.int .i64 (oS c.toNat mi 0)) h:=
  Zh (m+2) mi c h (R:=λx=>x=_) ⟨by simp[n_,mi],by rfl,_,h,aF,rfl⟩
 have dy:Y (m+4) (.fn 111) [.str mi,.str [c]] h=.ret (.int .i64 (oS c.toNat mi 0)) h:=
  Zg (m+3) mi [c] h (R:=λx=>x=_) ⟨_,h,a6,rfl⟩
 exact Zf (m+4) mi [c] h (R:=λx=>x=_) ⟨_,h,dy,rfl⟩
theorem aag(n:Nat):(hK n&&jA n)=false:=by
 unfold hK jA
 simp only[Bool.and_eq_false_iff,Bool.or_eq_false_iff,decide_eq_false_iff_not]
 omega
theorem aah(m B:Nat)(s:a7)(h:J)(cC:B<=h.n):cZ B h (.bool (ij s)) (Y (m+6) (.fn 67) [.str s] h):=by
 obtain⟨g,aF,bC⟩:=Np (m+1) B qq s [] 24 h cC (by omega) (.inl ⟨rfl,rfl⟩)
 refine Y9 (m+5) s h ⟨_,g,aF,λae=>?_,λae=>?_⟩
 · simp only[Bool.and_eq_true,decide_eq_true_eq] at ae
   obtain⟨⟨aa,ad⟩,av⟩:=ae
   cases s with
   |nil=>simp at aa
   |cons c s=>
    refine⟨[c],Lo G3 (by simp),_,g,aaf m c g,cZ.of (iC ?_) bC⟩
    have ag:qq c.toNat=true:=by
     have:=List.all_eq_true.1 av c (by simp)
     simpa using this
    have ao:=aag c.toNat
    unfold ij
    have bD:(c::s).all (λc=>hK c.toNat||jA c.toNat)=true:=av
    rw[bD]
    have hw:(hK c.toNat||jA c.toNat)=true:=ag
    simp only[Gx,aa,ad,decide_true,Bool.true_and,Bool.and_true]
    revert ao hw
    cases hK c.toNat<;>cases jA c.toNat<;>simp
 · refine cZ.of (iC ?_) bC
   unfold ij
   have bD:s.all (λc=>hK c.toNat||jA c.toNat)=s.all (λc=>qq c.toNat):=rfl
   rw[bD]
   revert ae
   cases decide (1<=s.length)<;>cases decide (s.length<=24)<;>cases s.all (λc=>qq c.toNat)<;>simp
def qy(k:Nat)(s:a7)(N M:Nat)(o:Bool):Bool:=((dd s []||decide (k=6))&&((decide (N=0)||decide (k=7))&&(decide (M=0)||decide (7<=k))))&&(o==decide (k=8))
theorem aai(m:Nat){R:Nat}{h:J}{k:Nat}{s:a7}{bK a_ c0:I}{bk:gS}{aI up N M:Nat}{o:Bool}(al:h.get R=some (.cells [.int .i64 (Int.ofNat k),.str s,bK,a_,c0] 80 bk aI up))(aN:cl Tryz.prog h 63 bK=some (.int .i64 (Int.ofNat N)))(aD:cl Tryz.prog h 50 a_=some (.int .i64 (Int.ofNat M)))(aY:(c0=.aZ/\o=false)\/(∃q,c0=.ptr q 0)/\o=true):
  Y (m+1) (.fn 61) [.ptr R 0] h=.ret (.bool (qy k s N M o)) h:=by
 have g6:=u7 k 8
 have fin:∀(b hT:Bool),b=hT->(a9.ret (.bool b) h=.ret (.bool hT) h):=λb hT e=>by rw[e]
 rcases aY with⟨rfl,rfl⟩|⟨⟨q,rfl⟩,rfl⟩
 · refine aaa m R h (R:=λx=>x=.ret (.bool (qy k s N M false)) h) ⟨k,aT al rfl,s,aT al rfl,λaa=>⟨bK,aT al rfl,N,aN,λad=>⟨a_,aT al rfl,M,aD,λav=>⟨aT al rfl,fin _ _ ?_⟩,λav=>⟨λaG=>⟨aT al rfl,fin _ _ ?_⟩,λaG=>fin _ _ ?_⟩⟩,λad=>⟨λav=>⟨a_,aT al rfl,M,aD,λaG=>⟨aT al rfl,fin _ _ ?_⟩,λaG=>⟨λbI=>⟨aT al rfl,fin _ _ ?_⟩,λbI=>fin _ _ ?_⟩⟩,λav=>fin _ _ ?_⟩⟩,λaa=>⟨λh0=>⟨bK,aT al rfl,N,aN,λad=>⟨a_,aT al rfl,M,aD,λav=>⟨aT al rfl,fin _ _ ?_⟩,λav=>⟨λaG=>⟨aT al rfl,fin _ _ ?_⟩,λaG=>fin _ _ ?_⟩⟩,λad=>⟨λav=>⟨a_,aT al rfl,M,aD,λaG=>⟨aT al rfl,fin _ _ ?_⟩,λaG=>⟨λbI=>⟨aT al rfl,fin _ _ ?_⟩,λbI=>fin _ _ ?_⟩⟩,λav=>fin _ _ ?_⟩⟩,λh0=>fin _ _ ?_⟩⟩<;>
    (unfold qy;(try simp only[eS,g6]);simp_all<;>omega)
 · refine Z_ m R h (R:=λx=>x=.ret (.bool (qy k s N M true)) h) ⟨k,aT al rfl,s,aT al rfl,λaa=>⟨bK,aT al rfl,N,aN,λad=>⟨a_,aT al rfl,M,aD,λav=>⟨q,aT al rfl,fin _ _ ?_⟩,λav=>⟨λaG=>⟨q,aT al rfl,fin _ _ ?_⟩,λaG=>fin _ _ ?_⟩⟩,λad=>⟨λav=>⟨a_,aT al rfl,M,aD,λaG=>⟨q,aT al rfl,fin _ _ ?_⟩,λaG=>⟨λbI=>⟨q,aT al rfl,fin _ _ ?_⟩,λbI=>fin _ _ ?_⟩⟩,λav=>fin _ _ ?_⟩⟩,λaa=>⟨λh0=>⟨bK,aT al rfl,N,aN,λad=>⟨a_,aT al rfl,M,aD,λav=>⟨q,aT al rfl,fin _ _ ?_⟩,λav=>⟨λaG=>⟨q,aT al rfl,fin _ _ ?_⟩,λaG=>fin _ _ ?_⟩⟩,λad=>⟨λav=>⟨a_,aT al rfl,M,aD,λaG=>⟨q,aT al rfl,fin _ _ ?_⟩,λaG=>⟨λbI=>⟨q,aT al rfl,fin _ _ ?_⟩,λbI=>fin _ _ ?_⟩⟩,λav=>fin _ _ ?_⟩⟩,λh0=>fin _ _ ?_⟩⟩<;>
    (unfold qy;(try simp only[eS,g6]);simp_all<;>omega)
def wn(l:List a7)(i:Nat):a7:=(l[i]?).getD []
def rM(p:Option a7):List a7->Bool
 |[]=>true
 |x::l=>mX p x&&rM (some x) l
theorem G_:∀(p:Option a7) (l:List a7),j_ p l=(l.all ij&&rM p l)
 |p,[]=>rfl
 |p,x::l=>by
  rw[j_,rM,G_ (some x) l,List.all_cons]
  cases ij x<;>cases mX p x<;>cases l.all ij<;>rfl
theorem Ha:∀(p:Option a7) (eg:List Nat) (l:List a7),eg.length=l.length->k8 p eg l=(eg.all (λk=>decide (k≠9)&&decide (k≠1))&&rM p l)
 |p,[],[],_=>rfl
 |p,[],_::_,h=>by simp at h
 |p,_::_,[],h=>by simp at h
 |p,k::eg,x::l,h=>by
  rw[M_,rM,Ha (some x) eg l (by simpa using h),List.all_cons]
  cases (decide (k≠9)&&decide (k≠1))<;>cases mX p x<;>cases eg.all (λk=>decide (k≠9)&&decide (k≠1))<;>rfl
theorem NC:∀(p:Option a7) (l:List a7),rM p l=true<->(∀x,l[0]? =some x->mX p x=true)/\∀i,i+1<l.length->dO (wn l i) (wn l (i+1))=true
 |p,[]=>by simp[rM]
 |p,x::l=>by
  rw[rM,Bool.and_eq_true,NC (some x) l]
  constructor
  · rintro⟨aa,ad,av⟩
    refine⟨λy aU=>by simp at aU;subst aU;exact aa,λi af=>?_⟩
    cases i with
    |zero=>
     cases l with
     |nil=>simp at af
     |cons y l=>simpa[wn,mX] using ad y (by simp)
    |succ i=>simpa[wn] using av i (by simpa using af)
  · rintro⟨aa,ad⟩
    refine⟨aa x (by simp),λy aU=>?_,λi af=>?_⟩
    · cases l with
      |nil=>simp at aU
      |cons z l=>
       simp at aU
       subst aU
       simpa[wn,mX] using ad 0 (by simp)
    · simpa[wn] using ad (i+1) (by simpa using af)
theorem ND(l:List a7):rM none l=qv (wn l) l.length:=by
 rw[Bool.eq_iff_iff,NC]
 unfold qv
 rw[Bool.not_eq_true',List.any_eq_false]
 constructor
 · rintro⟨_,h⟩ i af
   rw[List.mem_range] at af
   cases i with
   |zero=>simp
   |succ i=>simp[h i af]
 · intro h
   refine⟨λ_ _=>rfl,λi af=>?_⟩
   have:=h (i+1) (by rw[List.mem_range];exact af)
   simpa using this
def ta(l:List Bool)(i:Nat):Bool:=(l[i]?).getD false
theorem Hb(l:List Bool):(List.range l.length).any (ta l)=l.any id:=by
 rw[Bool.eq_iff_iff,List.any_eq_true,List.any_eq_true]
 constructor
 · rintro⟨i,af,h⟩
   rw[List.mem_range] at af
   refine⟨l[i],List.getElem_mem af,?_⟩
   simpa[ta,af] using h
 · rintro⟨b,ae,h⟩
   obtain⟨i,af,rfl⟩:=List.getElem_of_mem ae
   exact⟨i,by simpa using af,by simpa[ta,af] using h⟩
theorem Hc{α:Type}(f:α->Bool)(l:List α){i:Nat}(af:i<l.length):ta (l.map f) i=f l[i]:=by simp[ta,af]
theorem NF:∀xs:List aC,(xs.map (λu=>!ep u)).any id=!hL xs
 |[]=>rfl
 |x::xs=>by
  rw[hL,List.map_cons,List.any_cons,NF xs]
  cases ep x<;>rfl
theorem Hd{α:Type}(f:α->Bool):∀l:List α,(l.map (λx=>!f x)).any id=!l.all f
 |[]=>rfl
 |x::l=>by
  rw[List.map_cons,List.any_cons,List.all_cons,Hd f l]
  cases f x<;>rfl
theorem NG(k:Nat)(nm:a7)(ns:List a7)(xs:List aC)(rt:Option aC):ep (.mk k nm ns xs rt)=((decide (1<=k)&&decide (k<=9))&&(qy k nm ns.length xs.length rt.isSome&&(hL xs&&e3 k nm ns (xs.map aC.k) (cB xs) xs.length (iR rt)))):=by
 rw[nL]
 congr 1
 by_cases e:k=6/\nm=[]
 · obtain⟨rfl,rfl⟩:=e
   have:e3 6 [] ns (xs.map aC.k) (cB xs) xs.length (iR rt)=false:=by simp[e3,md]
   rw[this];simp
 · congr 1
   unfold ik qy
   rw[xf]
   have cI:¬k=6\/¬nm=[]:=by
    by_cases h:k=6
    · right;intro ad;exact e ⟨h,ad⟩
    · exact .inl h
   have ql:(0<ns.length)=¬ns.length=0:=by simp[Nat.pos_iff_ne_zero]
   have fq:(0<xs.length)=¬xs.length=0:=by simp[Nat.pos_iff_ne_zero]
   have yS:(7<=k)=¬k<7:=by simp
   simp only[ql,fq,yS,ne_eq,decide_not]
   rcases cI with cI|cI<;>simp only[cI,decide_false]<;>cases decide (k=6)<;>cases decide (nm=[])<;>cases decide (ns.length=0)<;>cases decide (k=7)<;>cases decide (xs.length=0)<;>cases decide (k<7)<;>cases rt.isSome<;>cases decide (k=8)<;>rfl
abbrev NH:Prop:=∀(u:aC),ep u=true->sz u<=100->∀(m B:Nat) (h:J) (v:I),4*sz u+10<=m->B<=h.n->dD B h u v->cZ B h (.str (wr u)) (Y m (.fn 72) [v] h)
theorem NI(jO:NH):∀(K:Nat) (t:aC),sz t<=K->sz t<=100->iQ t<=90000->∀(m B:Nat) (h:J) (v:I),4*sz t+12<=m->B<=h.n->dD B h t v->cZ B h (.bool (ep t)) (Y m (.fn 43) [v] h)
 |0,t,de,_,_,_,_,_,_,_,_,_=>by
  have:=qp t
  omega
 |K+1,.mk k nm ns xs rt,de,g5,ia,m,B,h,v,hm,cC,aD=>by
  obtain⟨R,bK,a_,c0,vs,bk,aI,up,rfl,ad,av,aG,bI,cq,di⟩:=aD
  rw[mc] at de g5 hm
  rw[iQ] at ia
  obtain⟨m,rfl⟩:∃j,m=j+5:=⟨m-5,by omega⟩
  have eD:=dL.len cq
  have jv:=mW xs
  have ll:=wX xs
  have lG:(ns.map I.str).length=ns.length:=List.length_map _
  have bb:∀(u:aC),sz u<=K->sz u<=100->iQ u<=90000->∀(m B:Nat) (h:J) (v:I),4*sz u+12<=m->B<=h.n->dD B h u v->cZ B h (.bool (ep u)) (Y m (.fn 43) [v] h):=NI jO K
  rw[NG]
  have aY:(c0=.aZ/\rt.isSome=false)\/(∃q,c0=.ptr q 0)/\rt.isSome=true:=by
   cases rt with
   |none=>exact .inl ⟨di,rfl⟩
   |some u=>
    cases u with
    |mk b6 cU c8 ek en=>obtain⟨W,_,_,_,_,_,_,_,rfl,_⟩:=di;exact .inr ⟨⟨W,rfl⟩,rfl⟩
  have tb:∀g,Ext B h g->cl Tryz.prog g 63 bK=some (.int .i64 (Int.ofNat ns.length)):=λg x=>by
   rw[<-lG];exact(aG.bO (fa.ext x (Nat.le_refl _))).len (t:=63) (e:=9) (by kernel_rfl)
  have ln:∀g,Ext B h g->cl Tryz.prog g 50 a_=some (.int .i64 (Int.ofNat xs.length)):=λg x=>by
   rw[<-eD];exact(bI.bO (fa.ext x (Nat.le_refl _))).len (t:=50) (e:=35) (by kernel_rfl)
  have aQ:=aai (m+3) (N:=ns.length) (M:=xs.length) (o:=rt.isSome) av (tb h (Ext.refl _ _)) (ln h (Ext.refl _ _)) aY
  have fC:∀g,Ext B h g->∀i (i1:i<vs.length) (i2:i<xs.length),dD B g xs[i] vs[i]:=λg x i i1 i2=>dL.get (dL.bO (fa.ext x (Nat.le_refl _)) _ _ cq) i i1 i2
  refine aab (m+4) R h ⟨k,aT av rfl,λbJ=>cZ.of (iC (by simp;omega)) (Ext.refl _ _),λbJ=>⟨k,aT av rfl,λjl=>cZ.of (iC (by simp;omega)) (Ext.refl _ _),λjl=>⟨_,h,aQ,λae=>?_,λae=>?_⟩⟩⟩
  rotate_left
  · refine cZ.of (iC ?_) (Ext.refl _ _)
    have:qy k nm ns.length xs.length rt.isSome=false:=by simpa using ae
    rw[this];simp
  have hj:qy k nm ns.length xs.length rt.isSome=true:=by simpa using ae
  have G0:(decide (1<=k)&&decide (k<=9))=true:=by simp;omega
  rw[G0,hj,Bool.true_and,Bool.true_and]
  obtain⟨g,aF,bC⟩:=Nt (m+2) (B:=B) (h:=h) (v:=a_) (vs:=vs) 62 [] (ta (xs.map (λu=>!ep u))) bI (by omega) (λi i1 x ab=>by
   have i2:i<xs.length:=by omega
   have aW:=oH (List.getElem_mem i2)
   have aN:=zH (List.getElem_mem i2)
   obtain⟨g,c,y⟩:=bb xs[i] (by omega) (by omega) (by omega) (m+1) B x vs[i] (by omega) (Nat.le_trans cC ab.n) (fC x ab i i1 i2)
   rw[Hc _ _ i2]
   exact ZS (m+1) vs[i] x ⟨_,g,c,cZ.of rfl y⟩)
  rw[show vs.length=(xs.map (λu=>!ep u)).length by rw[List.length_map];exact eD,Hb,NF] at aF
  refine⟨a_,aT av rfl,_,g,aF,λae=>?_,λae=>?_⟩
  · refine cZ.of (iC ?_) bC
    have:hL xs=false:=by simpa using ae
    rw[this];rfl
  have jb:hL xs=true:=by simpa using ae
  rw[jb,Bool.true_and]
  have al:=(bC.get R ad).trans av
  have po:=Nat.le_trans cC bC.n
  have hl:∀i (i2:i<xs.length),ep xs[i]=true:=λi i2=>zL jb (List.getElem_mem i2)
  have fin:∀{v:I} {w:Bool} {x:a9},w=e3 k nm ns (xs.map aC.k) (cB xs) xs.length (iR rt)->cZ B g (.bool w) x->cZ B h (.bool (e3 k nm ns (xs.map aC.k) (cB xs) xs.length (iR rt))) x:=by
   rintro v w x rfl ⟨an,rfl,y⟩
   exact cZ.mk (bC.trans (Nat.le_refl _) y)
  refine⟨k,aT al rfl,λgu=>?_,λgu=>⟨λgj=>?_,λgj=>⟨λg6=>?_,λg6=>⟨λgv=>?_,λgv=>?_⟩⟩⟩⟩
  · subst gu
    obtain⟨ay,dy,dC⟩:=Np m B ks nm [45,47,46] 161 g po (by omega) (.inr ⟨rfl,rfl⟩)
    exact⟨nm,aT al rfl,_,ay,dy,fin (v:=.aZ) (by simp[e3,md]) (cZ.mk dC)⟩
  · subst gj
    have u9:e3 7 nm ns (xs.map aC.k) (cB xs) xs.length (iR rt)=(decide (ns.length=xs.length)&&j_ none ns):=by simp[e3]
    have xi:Ext B g (g.room 27):=Ext.room B g 27
    have pZ:=bC.trans (Nat.le_refl _) xi
    have iL:=(xi.get R ad).trans al
    have bU:=aG.bO (fa.ext pZ (Nat.le_refl _))
    refine⟨bK,aT iL rfl,_,tb _ pZ,a_,aT iL rfl,_,ln _ pZ,λaN=>?_,λaN=>⟨aG.snd,bI.snd,fin (v:=.aZ) (by rw[u9];simp[aN]) (cZ.mk xi)⟩⟩
    obtain⟨ay,dy,dC⟩:=ZZ (m+2) (B:=B) (h:=g.room 27) (v:=bK) (vs:=ns.map .str) 66 [] (ta (ns.map (λs=>!ij s))) bU (by omega) (λi i1 x ab=>by
     have i2:i<ns.length:=by omega
     obtain⟨g,c,y⟩:=aah (m-5) B ns[i] x (Nat.le_trans (Nat.le_trans po xi.n) ab.n)
     rw[Hc _ _ i2,List.getElem_map]
     rw[show m-5+6=m+1 by omega] at c
     exact ZT (m+1) ns[i] x ⟨_,g,c,cZ.of rfl y⟩)
    rw[show(ns.map I.str).length=(ns.map (λs=>!ij s)).length by simp,Hb,Hd] at dy
    refine⟨bK,aT iL rfl,_,ay,dy,λae=>?_,λae=>?_⟩
    rotate_left
    · have hf:ns.all ij=true:=by simpa using ae
      have xj:=xi.trans (Nat.le_refl _) dC
      have z2:=pZ.trans (Nat.le_refl _) dC
      have gL:=(xj.get R ad).trans al
      obtain⟨bg,fO,e2⟩:=Z5 (m+1) (B:=B) (h:=ay) (v:=bK) (vs:=ns.map .str) 69 [] (wn ns) (Nat.le_trans po xj.n) (aG.bO (fa.ext z2 (Nat.le_refl _))) (by omega) rfl (λi af=>by rw[List.getElem_map];rfl) (λi af=>⟨ns[i]'(by omega),by rw[List.getElem_map]⟩) (λi i1 x ab=>by
       have i2:i<ns.length:=by omega
       rw[List.getElem_map,show wn ns i=ns[i] by simp[wn,i2]]
       exact ZU m ns[i] x (cZ.mk (Ext.refl _ _)))
      rw[lG,<-ND] at fO
      exact⟨bK,aT gL rfl,_,bg,fO,aG.snd,bI.snd,aG.snd,aG.snd,fin (v:=.aZ) (by rw[u9,G_,hf];simp[aN]) (cZ.mk (xj.trans (Nat.le_refl _) e2))⟩
    · have hf:ns.all ij=false:=by simpa using ae
      exact⟨aG.snd,bI.snd,aG.snd,fin (v:=.aZ) (by rw[u9,G_,hf];simp) (cZ.mk (xi.trans (Nat.le_refl _) dC))⟩
  · subst g6
    cases rt with
    |none=>simp[qy] at hj
    |some u=>
     rw[iP] at de g5 hm
     rw[nK] at ia
     obtain⟨ay,dy,dC⟩:=bb u (by omega) (by omega) (by omega) (m+4) B g c0 (by omega) po (dD.bO (fa.ext bC (Nat.le_refl _)) _ _ di)
     exact⟨c0,aT al rfl,_,ay,dy,fin (v:=.aZ) (by simp[e3,iR]) (cZ.mk dC)⟩
  · subst gv
    have xe:e3 9 nm ns (xs.map aC.k) (cB xs) xs.length (iR rt)=(k8 none (xs.map aC.k) (cB xs)&&decide (2<=xs.length)):=by simp[e3]
    have NJ:(xs.map aC.k).length=(cB xs).length:=by rw[List.length_map,ll]
    refine⟨a_,aT al rfl,_,ln g bC,λp_=>?_,λp_=>fin (v:=.aZ) (by rw[xe];simp[p_]) (cZ.mk (Ext.refl _ _))⟩
    obtain⟨ay,dy,dC⟩:=Nt (m+2) (B:=B) (h:=g) (v:=a_) (vs:=vs) 70 [] (ta ((xs.map aC.k).map (λk=>!(decide (k≠9)&&decide (k≠1))))) (bI.bO (fa.ext bC (Nat.le_refl _))) (by omega) (λi i1 x ab=>by
     have i2:i<xs.length:=by omega
     have i3:i<(xs.map aC.k).length:=by rw[List.length_map];exact i2
     obtain⟨M,g0,rH⟩:=(dL.get cq i i1 i2).kind
     rw[Hc _ _ i3,List.getElem_map,g0]
     have aw:=rH x (bC.trans (Nat.le_refl _) ab)
     refine ZV (m+1) M x ⟨_,aw,λe=>cZ.of (iC (by simp[e])) (Ext.refl _ _),λe=>⟨_,aw,cZ.of (iC (by rw[u7];simp[e])) (Ext.refl _ _)⟩⟩)
    rw[show vs.length=((xs.map aC.k).map (λk=>!(decide (k≠9)&&decide (k≠1)))).length by simp;exact eD,Hb,Hd] at dy
    refine⟨a_,aT al rfl,_,ay,dy,λae=>?_,λae=>?_⟩
    rotate_left
    · have hf:(xs.map aC.k).all (λk=>decide (k≠9)&&decide (k≠1))=true:=by simpa using ae
      have z2:=bC.trans (Nat.le_refl _) dC
      have gL:=(dC.get R ad).trans al
      obtain⟨bg,fO,e2⟩:=Z9 (m+1) (B:=B) (h:=ay) (v:=a_) (vs:=vs) 72 [] (wn (cB xs)) (Nat.le_trans po dC.n) (bI.bO (fa.ext z2 (Nat.le_refl _))) (by omega) rfl (λi af=>(dL.get cq i af (by omega)).snd) (λi af=>by
       obtain⟨M,g0,_⟩:=(dL.get cq i af (by omega)).kind
       exact⟨M,g0⟩) (λi i1 x ab=>by
       have i2:i<xs.length:=by omega
       have aW:=oH (List.getElem_mem i2)
       have kr:=z2.trans (Nat.le_refl _) ab
       rw[show wn (cB xs) i=wr xs[i] by simp[wn,ll,i2,wY xs i i2]]
       exact jO xs[i] (hl i i2) (by omega) (m+1) x.n x vs[i] (by omega) (Nat.le_refl _) (dD.le (Nat.le_trans cC kr.n) _ _ (fC x kr i i1 i2)))
      rw[show vs.length=(cB xs).length by omega,<-ND] at fO
      exact⟨a_,aT gL rfl,_,bg,fO,fin (v:=.aZ) (by rw[xe,Ha _ _ _ NJ,hf];simp[p_]) (cZ.mk (dC.trans (Nat.le_refl _) e2))⟩
    · have hf:(xs.map aC.k).all (λk=>decide (k≠9)&&decide (k≠1))=false:=by simpa using ae
      exact fin (v:=.aZ) (by rw[xe,Ha _ _ _ NJ,hf];simp) (cZ.mk dC)
  · exact fin (v:=.aZ) (by simp[e3,gu,gj,g6,gv]) (cZ.mk (Ext.refl _ _))
theorem aaj(call:aP)(b:Nat)(h cH:J)
  (H1:ar h b (0+0)=some .aZ)
  (aM:iZ Tryz.prog 90 138 (I.ptr b 0) h=jr.val (I.ptr b 0) h)
  (bm:call (.fn 101) [.ptr b 0] h=a9.ret (.ptr b 0) h)
  (bl:iZ Tryz.prog 138 90 (I.ptr b 0) h=jr.val (I.ptr b 0) h)
  (bY:bt.storeCells h b (0+0) [.ptr b 0]=some cH):
  aB Tryz.prog Tryz.f73 none call [] (ah.mk [(0,.ptr b 0)] [] .none h) (.nrm)
   (ah.mk [] [] .none cH):=
 bx [] (hs:=[.v .aZ,.v (.bool true),.b true,.v (.ptr b 0),.c (.ptr b 0) h,.v (.ptr b 0),.mM (.aO []) cH]) (by kernel_rfl)<| .cons H1<| .cons (by kernel_rfl:dZ Tryz.prog h BinOp.eql 90 (Operand.tmp 5) (Operand.const (Value.pointer none)) I.aZ I.aZ=some (I.bool true))<| .cons (rfl:true=true)<| .cons aM<| .cons bm<| .cons bl<| .cons (⟨by kernel_rfl,bY,rfl⟩:some 1=some 1/\bt.storeCells h b (0+0) [I.ptr b 0]=some cH/\I.aO []=I.aO [])<| .nil
theorem aak(call:aP)(b:Nat)(h:J)(dN:Bool)
  (H1:ar h b (0+0)=some (.ptr b 0))
  (aM:dZ Tryz.prog h BinOp.neq 90 (Operand.tmp 17) (Operand.tmp 18) (I.ptr b 0) (I.ptr b 0)=some (I.bool dN))
  (bm:dN=false):
  aB Tryz.prog Tryz.f73 none call [] (ah.mk [(0,.ptr b 0)] [] .none h) (.nrm)
   (ah.mk [] [] .none h):=
 bx [] (hs:=[.v (.ptr b 0),.v (.bool false),.b false,.v (.ptr b 0),.v (.bool dN),.b false]) (by kernel_rfl)<| .cons H1<| .cons (by kernel_rfl:dZ Tryz.prog h BinOp.eql 90 (Operand.tmp 5) (Operand.const (Value.pointer none)) (I.ptr b 0) I.aZ=some (I.bool false))<| .cons (rfl:false=false)<| .cons H1<| .cons aM<| .cons bm<| .nil
theorem bws(call:aP)(b c m:Nat)(s:List UInt8)(v:I)(h ad cH h1:J)
  (H1:call (.fn 73) [.ptr b 0] h=a9.ret (.aO []) cH)
  (aM:ar cH b (0+1)=some v)
  (bm:db Tryz.prog cH 27 (some 9) v (I.str s)=some (I.slice c 0 m (bR.aR 1),ad))
  (bl:bt.storeCells ad b (0+1) [.slice c 0 m (.aR 1)]=some h1):
  aB Tryz.prog Tryz.f44 none call [] (ah.mk [(0,.ptr b 0),(1,.str s)] [] .none h) (.ret)
   (ah.mk [(4,.int .i64 (.ofNat (List.length s))),(5,.e7)] [] .none h1):=
 bx [4,5] (hs:=[.c (.aO []) cH,.v v,.mM (.slice c 0 m (.aR 1)) ad,.mM (.aO []) h1]) (by kernel_rfl)<| .cons H1<| .cons aM<| .cons bm<| .cons (⟨by kernel_rfl,bl,rfl⟩:some 1=some 1/\bt.storeCells ad b (0+1) [I.slice c 0 m (bR.aR 1)]=some h1/\I.aO []=I.aO [])<| .nil
theorem NK(call:aP)(b:Nat)(s:List UInt8)(v:I)(h ad cH h1:J)
  (H1:call (.fn 73) [.ptr b 0] h=a9.ret (.aO []) cH)
  (aM:ar cH b (0+1)=some v)
  (bm:db Tryz.prog cH 27 (some 9) v (I.str s)=some (I.aS,ad))
  (bl:bt.storeCells ad b (0+1) [.aS]=some h1):
  aB Tryz.prog Tryz.f44 none call [] (ah.mk [(0,.ptr b 0),(1,.str s)] [] .none h) (.ret)
   (ah.mk [(4,.int .i64 (.ofNat (List.length s))),(5,.e7)] [] .none h1):=
 bx [4,5] (hs:=[.c (.aO []) cH,.v v,.mM .aS ad,.mM (.aO []) h1]) (by kernel_rfl)<| .cons H1<| .cons aM<| .cons bm<| .cons (⟨by kernel_rfl,bl,rfl⟩:some 1=some 1/\bt.storeCells ad b (0+1) [I.aS]=some h1/\I.aO []=I.aO [])<| .nil
theorem NL(call:aP)(b c m:Nat)(h:J)(eh:List UInt8)(cH:J)
  (H1:ar (J.room h 12) b (0+1)=some (.slice c 0 m (.aR 1)))
  (aM:iz Tryz.prog Builtin.unsafeSliceData (Array.mk [27]) [.slice c 0 m (.aR 1)] (J.room h 12)=jr.val (.ptr c 0) (J.room h 12))
  (bm:pJ Tryz.prog (J.room h 12) 118 (I.ptr c 0) (I.int IntKind.i64 (Int.ofNat m))=some (I.str eh,cH)):
  aB Tryz.prog Tryz.f47 none call [] (ah.mk [(0,.ptr b 0)] [] .none h) (.ret)
   (ah.mk [(2,.str eh)] [] .none cH):=
 bx [2] (hs:=[.v (.slice c 0 m (.aR 1)),.v (.ptr c 0),.v (.slice c 0 m (.aR 1)),.mM (.str eh) cH]) (by kernel_rfl)<| .cons H1<| .cons aM<| .cons H1<| .cons bm<| .cons (by kernel_rfl:I.sound (I.ptr b 0)=true)<| .cons (by kernel_rfl:I.ptr b 0=I.ptr b 0)<| .cons (by kernel_rfl:I.sound (I.ptr b 0)=true)<| .cons (by kernel_rfl:I.ptr b 0=I.ptr b 0)<| .cons (by kernel_rfl:I.sound (I.ptr b (0+1))=true)<| .cons (by kernel_rfl:I.ptr b (0+1)=I.ptr b (0+1))<| .cons (by kernel_rfl:I.sound (I.slice c 0 m (bR.aR 1))=true)<| .cons H1<| .cons (by kernel_rfl:I.sound (I.ptr c 0)=true)<| .cons aM<| .cons (by kernel_rfl:I.sound (I.ptr b 0)=true)<| .cons (by kernel_rfl:I.ptr b 0=I.ptr b 0)<| .cons (by kernel_rfl:I.sound (I.ptr b 0)=true)<| .cons (by kernel_rfl:I.ptr b 0=I.ptr b 0)<| .cons (by kernel_rfl:I.sound (I.ptr b (0+1))=true)<| .cons (by kernel_rfl:I.ptr b (0+1)=I.ptr b (0+1))<| .cons (by kernel_rfl:I.sound (I.slice c 0 m (bR.aR 1))=true)<| .cons H1<| .cons (by kernel_rfl:I.sound (I.int IntKind.i64 (Int.ofNat m))=true)<| .cons (by kernel_rfl:cl Tryz.prog (J.room h 12) 27 (I.slice c 0 m (bR.aR 1))=some (I.int IntKind.i64 (Int.ofNat m)))<| .cons (by kernel_rfl:I.sound (I.str eh)=true)<| .cons (by kernel_rfl:I.str eh=I.str eh)<| .nil
theorem NM(call:aP)(b:Nat)(h:J)(eh:List UInt8)(cH:J)
  (H1:ar (J.room h 12) b (0+1)=some .aS)
  (aM:pJ Tryz.prog (J.room h 12) 118 I.aZ (I.int IntKind.i64 (Int.ofNat 0))=some (I.str eh,cH)):
  aB Tryz.prog Tryz.f47 none call [] (ah.mk [(0,.ptr b 0)] [] .none h) (.ret)
   (ah.mk [(2,.str eh)] [] .none cH):=
 bx [2] (hs:=[.v .aS,.v .aZ,.v .aS,.mM (.str eh) cH]) (by kernel_rfl)<| .cons H1<| .cons (by kernel_rfl:iz Tryz.prog Builtin.unsafeSliceData (Array.mk [27]) [I.aS] (J.room h 12)=jr.val I.aZ (J.room h 12))<| .cons H1<| .cons aM<| .cons (by kernel_rfl:I.sound (I.ptr b 0)=true)<| .cons (by kernel_rfl:I.ptr b 0=I.ptr b 0)<| .cons (by kernel_rfl:I.sound (I.ptr b 0)=true)<| .cons (by kernel_rfl:I.ptr b 0=I.ptr b 0)<| .cons (by kernel_rfl:I.sound (I.ptr b (0+1))=true)<| .cons (by kernel_rfl:I.ptr b (0+1)=I.ptr b (0+1))<| .cons (by kernel_rfl:I.sound I.aS=true)<| .cons H1<| .cons (by kernel_rfl:I.sound I.aZ=true)<| .cons (by kernel_rfl:iz Tryz.prog Builtin.unsafeSliceData (Array.mk [27]) [I.aS] (J.room h 12)=jr.val I.aZ (J.room h 12))<| .cons (by kernel_rfl:I.sound (I.ptr b 0)=true)<| .cons (by kernel_rfl:I.ptr b 0=I.ptr b 0)<| .cons (by kernel_rfl:I.sound (I.ptr b 0)=true)<| .cons (by kernel_rfl:I.ptr b 0=I.ptr b 0)<| .cons (by kernel_rfl:I.sound (I.ptr b (0+1))=true)<| .cons (by kernel_rfl:I.ptr b (0+1)=I.ptr b (0+1))<| .cons (by kernel_rfl:I.sound I.aS=true)<| .cons H1<| .cons (by kernel_rfl:I.sound (I.int IntKind.i64 (Int.ofNat 0))=true)<| .cons (by kernel_rfl:cl Tryz.prog (J.room h 12) 27 I.aS=some (I.int IntKind.i64 (Int.ofNat 0)))<| .cons (by kernel_rfl:I.sound (I.str eh)=true)<| .cons (by kernel_rfl:I.str eh=I.str eh)<| .nil
theorem aal(m:Nat)(v:I)(s:List UInt8)(fL fz b c:Nat)(iS iT:List I)(h:J){R:a9->Prop}(H:∃aE:Nat,cl Tryz.prog h 50 v=some (.int .i64 (.ofNat aE))/\a4 Tryz.prog Tryz.f95 (Y m) [1,0] (ah.mk [(1,.str s),(2,.fn fL [] iS),(3,.fn fz [] iT),(4,.ptr b 0),(5,.ptr c 0),(12,v),(13,.int .i64 (.ofNat aE)),(14,.int .i64 (.ofNat 0))] [] .none h) (λb9 cf=>∃ai:J,∃bw:Env,b9=.exit 0/\cf=ah.mk bw [] .none ai/\cd [] bw/\R (.ret (.aO []) ai))):
  R (Y (m+1) (.fn 95) [v,.str s,.fn fL [] iS,.fn fz [] iT,.ptr b 0,.ptr c 0] h):=
 dQ (intr:=b3) [(4000,.gO [1,2,3,4,5,12,13,14] [(.exit 0,[])])] [(0,.o v),(1,.v (.str s)),(2,.o (.fn fL [] iS)),(3,.o (.fn fz [] iT)),(4,.v (.ptr b 0)),(5,.v (.ptr c 0))] Tryz.func95 (by kernel_rfl) (by kernel_rfl) (by kernel_rfl) rfl (Eq.mp (by kernel_rfl) H)
theorem aam(call:aP)(s:List UInt8)(fL fz b c fy off N i z3:Nat)(cp:bR)(iS iT co:List I)(h:J){Q:bu->ah->Prop}(H:(i<N->i<N/\∃v1:I,ar h fy (off+i*1)=some v1/\(0<i->∃aE:Nat,∃v2:I,∃ai:J,call (.fn 44) [.ptr b 0,.str s] h=.ret (.aO [.int .i64 (.ofNat aE),v2]) ai/\∃s1:List UInt8,∃au:J,call (.fn fL) (.int .i64 (.ofNat i)::iS) ai=.ret (.str s1) au/\∃bf:Nat,∃cz:I,∃ay:J,call (.fn 44) [.ptr b 0,.str s1] au=.ret (.aO [.int .i64 (.ofNat bf),cz]) ay/\ar ay c 0=some (.fn z3 [] co)/\∃bg:J,call (.fn z3) (v1::co) ay=.ret (.aO []) bg/\∃s2:List UInt8,∃bF:J,call (.fn fz) (.int .i64 (.ofNat i)::iT) bg=.ret (.str s2) bF/\∃bH:Nat,∃v4:I,∃dk:J,call (.fn 44) [.ptr b 0,.str s2] bF=.ret (.aO [.int .i64 (.ofNat bH),v4]) dk/\i+1<9223372036854775808/\Q .nrm (ah.mk [(1,.str s),(2,.fn fL [] iS),(3,.fn fz [] iT),(4,.ptr b 0),(5,.ptr c 0),(12,.slice fy off N cp),(13,.int .i64 (.ofNat N)),(14,.int .i64 (.ofNat (i+1)))] [] .none dk))/\(¬0<i->∃bN:List UInt8,∃dX:J,call (.fn fL) (.int .i64 (.ofNat i)::iS) h=.ret (.str bN) dX/\∃bU:Nat,∃er:I,∃fJ:J,call (.fn 44) [.ptr b 0,.str bN] dX=.ret (.aO [.int .i64 (.ofNat bU),er]) fJ/\ar fJ c 0=some (.fn z3 [] co)/\∃ir:J,call (.fn z3) (v1::co) fJ=.ret (.aO []) ir/\∃bS:List UInt8,∃la:J,call (.fn fz) (.int .i64 (.ofNat i)::iT) ir=.ret (.str bS) la/\∃b_:Nat,∃v6:I,∃z4:J,call (.fn 44) [.ptr b 0,.str bS] la=.ret (.aO [.int .i64 (.ofNat b_),v6]) z4/\i+1<9223372036854775808/\Q .nrm (ah.mk [(1,.str s),(2,.fn fL [] iS),(3,.fn fz [] iT),(4,.ptr b 0),(5,.ptr c 0),(12,.slice fy off N cp),(13,.int .i64 (.ofNat N)),(14,.int .i64 (.ofNat (i+1)))] [] .none z4)))/\(¬i<N->Q (.exit 0) (ah.mk [(1,.str s),(2,.fn fL [] iS),(3,.fn fz [] iT),(4,.ptr b 0),(5,.ptr c 0),(12,.slice fy off N cp),(13,.int .i64 (.ofNat N)),(14,.int .i64 (.ofNat i))] [] .none h))):
  a4 Tryz.prog Tryz.f95 call [1,0,0] ⟨[(1,.str s),(2,.fn fL [] iS),(3,.fn fz [] iT),(4,.ptr b 0),(5,.ptr c 0),(12,.slice fy off N cp),(13,.int .i64 (.ofNat N)),(14,.int .i64 (.ofNat i))],[],.none,h⟩ Q:=
 dF [(18,.bq .o),(27,.bq (.io (.fn z3 [] co)))] [1,2,3,4,5,12,13,14] [(1,.v (.str s)),(2,.o (.fn fL [] iS)),(3,.o (.fn fz [] iT)),(4,.v (.ptr b 0)),(5,.v (.ptr c 0)),(12,.v (.slice fy off N cp)),(13,.v (.int .i64 (.ofNat N))),(14,.v (.int .i64 (.ofNat i)))] rfl (Eq.mp (by kernel_rfl) H)
theorem aan(call:aP)(s:List UInt8)(fL fz b c N i:Nat)(iS iT:List I)(v:I)(h:J){Q:bu->ah->Prop}(H:¬i<N/\Q (.exit 0) (ah.mk [] [] .none h)):
  a4 Tryz.prog Tryz.f95 call [1,0,0] ⟨[(1,.str s),(2,.fn fL [] iS),(3,.fn fz [] iT),(4,.ptr b 0),(5,.ptr c 0),(12,v),(13,.int .i64 (.ofNat N)),(14,.int .i64 (.ofNat i))],[],.none,h⟩ Q:=
 dF [(1015,.f)] [] [(1,.v (.str s)),(2,.o (.fn fL [] iS)),(3,.o (.fn fz [] iT)),(4,.v (.ptr b 0)),(5,.v (.ptr c 0)),(12,.o v),(13,.v (.int .i64 (.ofNat N))),(14,.v (.int .i64 (.ofNat i)))] rfl (Eq.mp (by kernel_rfl) H)
theorem He(m i:Nat)(h:J){R:a9->Prop}(H:R (.ret (.str []) h)):
  R (Y (m+1) (.fn 96) [.int .i64 (.ofNat i)] h):=
 dQ (intr:=b3) [] [(0,.v (.int .i64 (.ofNat i)))] Tryz.func96 (by kernel_rfl) (by kernel_rfl) (by kernel_rfl) rfl (Eq.mp (by kernel_rfl) H)
theorem aao(m i e:Nat)(h:J){R:a9->Prop}(H:∃aE:Nat,ar h e 0=some (.ptr aE 0)/\∃bf:Nat,∃bH:Nat,∃bU:Nat,∃aF:bR,ar h aE (0+2)=some (.slice bf bH bU aF)/\i<bU/\∃s1:List UInt8,ar h bf (bH+i*1)=some (.str s1)/\List.length s1+2<=1000000000000/\R (.ret (.str (s1++[58,32])) h)):
  R (Y (m+1) (.fn 98) [.int .i64 (.ofNat i),.ptr e 0] h):=
 dQ (intr:=b3) [(7,.bq .fx)] [(0,.v (.int .i64 (.ofNat i))),(1,.v (.ptr e 0))] Tryz.func98 (by kernel_rfl) (by kernel_rfl) (by kernel_rfl) rfl (Eq.mp (by kernel_rfl) H)
theorem NN(m:Nat)(s:List UInt8)(e:Nat)(h:J){R:a9->Prop}(H:R (.ret (.fn 100 [] [.ptr e 0,.ptr h.n 0]) (J.push h (.cells [.str s] 9 .own 0 0)))):
  R (Y (m+1) (.fn 99) [.str s,.ptr e 0] h):=
 dQ (intr:=b3) [] [(0,.v (.str s)),(1,.v (.ptr e 0))] Tryz.func99 (by kernel_rfl) (by kernel_rfl) (by kernel_rfl) rfl (Eq.mp (by kernel_rfl) H)
theorem aap(m i e f:Nat)(h:J){R:a9->Prop}(H:∃aE:Nat,ar h e 0=some (.ptr aE 0)/\∃bf:Nat,∃bH:Nat,∃bU:Nat,∃aF:bR,ar h aE (0+3)=some (.slice bf bH bU aF)/\i<bU/\∃b_:Nat,ar h bf (bH+i*1)=some (.ptr b_ 0)/\∃cv:Nat,ar h b_ (0+0)=some (.int .i64 (.ofNat cv))/\(cv=8->∃s1:List UInt8,ar h f 0=some (.str s1)/\R (.ret (.str s1) h))/\(¬cv=8->R (.ret (.str []) h))):
  R (Y (m+1) (.fn 100) [.int .i64 (.ofNat i),.ptr e 0,.ptr f 0] h):=
 dQ (intr:=b3) [(8,.bq .fx)] [(0,.v (.int .i64 (.ofNat i))),(1,.v (.ptr e 0)),(2,.v (.ptr f 0))] Tryz.func100 (by kernel_rfl) (by kernel_rfl) (by kernel_rfl) rfl (Eq.mp (by kernel_rfl) H)
theorem aaq(m b l n o r k:Nat)(s:List UInt8)(a_ c0:I)(h:J){R:a9->Prop}(H:ar (J.push h (.cells [.ptr r 0] 35 .own 0 0)) h.n 0=some (.ptr r 0)/\ar (J.push h (.cells [.ptr r 0] 35 .own 0 0)) r (0+0)=some (.int .i64 (.ofNat k))/\(k=6->ar (J.push h (.cells [.ptr r 0] 35 .own 0 0)) h.n 0=some (.ptr r 0)/\ar (J.push h (.cells [.ptr r 0] 35 .own 0 0)) r (0+1)=some (.str s)/\∃aE:Nat,∃v1:I,∃ai:J,(Y m) (.fn 44) [.ptr b 0,.str s] (J.push h (.cells [.ptr r 0] 35 .own 0 0))=.ret (.aO [.int .i64 (.ofNat aE),v1]) ai/\R (.ret (.aO []) ai))/\(¬k=6->(k=7->∃bf:Nat,∃v2:I,∃au:J,(Y m) (.fn 44) [.ptr b 0,.str [123]] (J.push h (.cells [.ptr r 0] 35 .own 0 0))=.ret (.aO [.int .i64 (.ofNat bf),v2]) au/\ar (au.room 8) l 0=some (.fn 95 [] [.ptr b 0,.ptr o 0])/\ar (au.room 8) h.n 0=some (.ptr r 0)/\ar (au.room 8) r (0+3)=some a_/\ar (au.room 8) n 0=some (.fn 96 [] [])/\∃ay:J,(Y m) (.fn 95) [a_,.str [44,32],.fn 98 [] [.ptr h.n 0],.fn 96 [] [],.ptr b 0,.ptr o 0] (au.room 8)=.ret (.aO []) ay/\I.sound a_=true/\∃bH:Nat,∃cz:I,∃bg:J,(Y m) (.fn 44) [.ptr b 0,.str [125]] ay=.ret (.aO [.int .i64 (.ofNat bH),cz]) bg/\R (.ret (.aO []) bg))/\(¬k=7->(k=8->∃bU:Nat,∃v4:I,∃bF:J,(Y m) (.fn 44) [.ptr b 0,.str [102,110,40]] (J.push h (.cells [.ptr r 0] 35 .own 0 0))=.ret (.aO [.int .i64 (.ofNat bU),v4]) bF/\ar (bF.room 8) l 0=some (.fn 95 [] [.ptr b 0,.ptr o 0])/\ar (bF.room 8) h.n 0=some (.ptr r 0)/\ar (bF.room 8) r (0+3)=some a_/\ar (bF.room 8) n 0=some (.fn 96 [] [])/\ar (bF.room 8) n 0=some (.fn 96 [] [])/\∃dk:J,(Y m) (.fn 95) [a_,.str [44,32],.fn 96 [] [],.fn 96 [] [],.ptr b 0,.ptr o 0] (bF.room 8)=.ret (.aO []) dk/\I.sound a_=true/\∃b_:Nat,∃er:I,∃dX:J,(Y m) (.fn 44) [.ptr b 0,.str [41,32,45,62,32]] dk=.ret (.aO [.int .i64 (.ofNat b_),er]) dX/\ar (dX.room 6) o 0=some (.fn 97 [] [.ptr b 0,.ptr l 0,.ptr n 0,.ptr o 0])/\ar (dX.room 6) h.n 0=some (.ptr r 0)/\ar (dX.room 6) r (0+4)=some c0/\∃fJ:J,(Y m) (.fn 97) [c0,.ptr b 0,.ptr l 0,.ptr n 0,.ptr o 0] (dX.room 6)=.ret (.aO []) fJ/\I.sound c0=true/\R (.ret (.aO []) fJ))/\(¬k=8->(k=9->ar (J.room (J.push h (.cells [.ptr r 0] 35 .own 0 0)) 10) l 0=some (.fn 95 [] [.ptr b 0,.ptr o 0])/\ar (J.room (J.push h (.cells [.ptr r 0] 35 .own 0 0)) 10) h.n 0=some (.ptr r 0)/\ar (J.room (J.push h (.cells [.ptr r 0] 35 .own 0 0)) 10) r (0+3)=some a_/\∃v6:I,∃ir:J,(Y m) (.fn 99) [.str [40],.ptr h.n 0] (J.room (J.push h (.cells [.ptr r 0] 35 .own 0 0)) 10)=.ret v6 ir/\∃hM:I,∃la:J,(Y m) (.fn 99) [.str [41],.ptr h.n 0] ir=.ret hM la/\∃z4:J,(Y m) (.fn 95) [a_,.str [32,124,32],v6,hM,.ptr b 0,.ptr o 0] la=.ret (.aO []) z4/\ar la l 0=some (.fn 95 [] [.ptr b 0,.ptr o 0])/\ar ir l 0=some (.fn 95 [] [.ptr b 0,.ptr o 0])/\ar la h.n 0=some (.ptr r 0)/\ar ir h.n 0=some (.ptr r 0)/\I.sound a_=true/\ar la r (0+3)=some a_/\ar ir r (0+3)=some a_/\R (.ret (.aO []) z4))/\(¬k=9->ar (J.push h (.cells [.ptr r 0] 35 .own 0 0)) h.n 0=some (.ptr r 0)/\ar (J.push h (.cells [.ptr r 0] 35 .own 0 0)) r (0+0)=some (.int .i64 (.ofNat k))/\∃s1:List UInt8,(k<6/\js Tryz.prog 9 [.str [],.str [97,110,121],.str [105,110,116],.str [98,111,111,108],.str [115,116,114],.str [110,105,108]] (k*1)=some (.str s1))/\∃cv:Nat,∃gA:I,∃NO:J,(Y m) (.fn 44) [.ptr b 0,.str s1] (J.push h (.cells [.ptr r 0] 35 .own 0 0))=.ret (.aO [.int .i64 (.ofNat cv),gA]) NO/\R (.ret (.aO []) NO)))))):
  R (Y (m+1) (.fn 97) [.ptr r 0,.ptr b 0,.ptr l 0,.ptr n 0,.ptr o 0] h):=
 dQ (intr:=b3) [(7,.bq (.is (.ptr r 0))),(20,.bq (.is (.ptr r 0))),(29,.bq (.is (.ptr r 0))),(41,.bq (.is (.ptr r 0))),(50,.bq (.is (.ptr r 0))),(59,.bq (.is (.ptr r 0))),(12,.bq (.is (.ptr r 0))),(10,.bq (.is (.int .i64 (.ofNat k)))),(15,.bq (.is (.int .i64 (.ofNat k)))),(23,.bq (.is (.str s))),(32,.bq (.io a_)),(44,.bq (.io a_)),(62,.bq (.io a_)),(53,.bq (.io c0)),(28,.bq (.is (.fn 95 [] [.ptr b 0,.ptr o 0]))),(40,.bq (.is (.fn 95 [] [.ptr b 0,.ptr o 0]))),(58,.bq (.is (.fn 95 [] [.ptr b 0,.ptr o 0]))),(34,.bq (.is (.fn 96 [] []))),(45,.bq (.is (.fn 96 [] []))),(46,.bq (.is (.fn 96 [] []))),(49,.bq (.is (.fn 97 [] [.ptr b 0,.ptr l 0,.ptr n 0,.ptr o 0]))),(64,.bq .o),(66,.bq .o)] [(0,.v (.ptr r 0)),(1,.v (.ptr b 0)),(2,.v (.ptr l 0)),(3,.v (.ptr n 0)),(4,.v (.ptr o 0))] Tryz.func97 (by kernel_rfl) (by kernel_rfl) (by kernel_rfl) rfl (Eq.mp (by kernel_rfl) H)
theorem aar(m r:Nat)(h:J){R:a9->Prop}(H:∃ai:J,bt.storeCells (J.push (J.push (J.push h (.cells [.aZ,.aS] 92 .own 0 0)) (.cells [.gb] 133 .own 0 0)) (.cells [.gb] 135 .own 0 0)) (J.n (J.push (J.push h (.cells [.aZ,.aS] 92 .own 0 0)) (.cells [.gb] 133 .own 0 0))) 0 [.fn 95 [] [.ptr h.n 0,.ptr (J.n (J.push h (.cells [.aZ,.aS] 92 .own 0 0))) 0]]=some ai/\∃au:J,bt.storeCells (J.push ai (.cells [.gb] 134 .own 0 0)) ai.n 0 [.fn 96 [] []]=some au/\∃ay:J,bt.storeCells au (J.n (J.push h (.cells [.aZ,.aS] 92 .own 0 0))) 0 [.fn 97 [] [.ptr h.n 0,.ptr (J.n (J.push (J.push h (.cells [.aZ,.aS] 92 .own 0 0)) (.cells [.gb] 133 .own 0 0))) 0,.ptr ai.n 0,.ptr (J.n (J.push h (.cells [.aZ,.aS] 92 .own 0 0))) 0]]=some ay/\∃bw:List I,ar ay (J.n (J.push h (.cells [.aZ,.aS] 92 .own 0 0))) 0=some (.fn 97 [] bw)/\∃bg:J,(Y m) (.fn 97) (.ptr r 0::bw) ay=.ret (.aO []) bg/\∃s1:List UInt8,∃bF:J,(Y m) (.fn 47) [.ptr h.n 0] bg=.ret (.str s1) bF/\R (.ret (.str s1) bF)):
  R (Y (m+1) (.fn 72) [.ptr r 0] h):=
 dQ (intr:=b3) [(9,.bq (.fn 97 4))] [(0,.v (.ptr r 0))] Tryz.func72 (by kernel_rfl) (by kernel_rfl) (by kernel_rfl) rfl (Eq.mp (by kernel_rfl) H)
def kd(B b:Nat)(h:J)(w:List UInt8):Prop:=∃a v,h.get b=some (.cells [a,v] 92 .own 0 0)/\(a=.aZ\/a=.ptr b 0)/\qd B 5 h v w/\b<B/\B<=h.n/\(w=[]->v=.aS)
theorem aas(n b:Nat)(h:J):Y (n+1) (.fn 101) [.ptr b 0] h=.ret (.ptr b 0) h:=by unfold Y;kernel_rfl
theorem Hf(n b:Nat)(h:J)(v:I)(ae:b<h.n)(al:h.get b=some (.cells [.aZ,v] 92 .own 0 0)\/h.get b=some (.cells [.ptr b 0,v] 92 .own 0 0)):
  ∃an,Y (n+2) (.fn 73) [.ptr b 0] h=.ret (.aO []) an/\an.get b=some (.cells [.ptr b 0,v] 92 .own 0 0)/\an.n=h.n/\∀c,c≠b->an.get c=h.get c:=by
 rcases al with al|al
 · refine⟨h.set b (some (.cells [.ptr b 0,v] 92 .own 0 0)),?_,gk rfl,rfl,λc ag=>dB ag rfl⟩
   have f1:Tryz.prog.underlying 90=some (.pointer 92):=by kernel_rfl
   have f2:Tryz.prog.underlying 138=some .unsafePointer:=by kernel_rfl
   have f3:dx Tryz.prog 92=some 2:=by kernel_rfl
   have f4:liesAt Tryz.prog Tryz.prog.depth 92 (2/Tryz.prog.cellsOf 92) 0 92 1=true:=by kernel_rfl
   have v1:iZ Tryz.prog 90 138 (I.ptr b 0) h=jr.val (I.ptr b 0) h:=by
    simp only[iZ,f1,f2,f3,al];rfl
   have v2:iZ Tryz.prog 138 90 (I.ptr b 0) h=jr.val (I.ptr b 0) h:=by
    simp only[iZ,f1,f2,f3,al,List.length_cons,List.length_nil,f4];rfl
   have aj:=aaj (Y (n+1)) b h _ (aT al rfl) v1 (aas n b h) v2 (gN al rfl rfl)
   exact eA (intr:=b3) (n:=n+1) (args:=[.ptr b 0]) Tryz.func73 (by kernel_rfl) rfl (by kernel_rfl) aj (.inr rfl) (by kernel_rfl)
 · refine⟨h,?_,al,rfl,λc _=>rfl⟩
   have he:dZ Tryz.prog h BinOp.neq 90 (Operand.tmp 17) (Operand.tmp 18) (I.ptr b 0) (I.ptr b 0)=some (I.bool false):=by
    have aA:Tryz.prog.underlying 90=some (.pointer 92):=by kernel_rfl
    have ax:dx Tryz.prog 92=some 2:=by kernel_rfl
    have bD:Nat.beq b b=true:=by simp
    simp only[dZ,rZ,gg,aA,ax,D2,bD]
    rfl
   exact eA (intr:=b3) (n:=n+1) (args:=[.ptr b 0]) Tryz.func73 (by kernel_rfl) rfl (by kernel_rfl) (aak (Y (n+1)) b h false (aT al rfl) he rfl) (.inr rfl) (by kernel_rfl)
theorem NP:∃i,Tryz.prog.info? 5=some i/\i.size=1/\i.bytes=1:=by
 have af:(Tryz.prog.info? 5).map (λi=>(i.size,i.bytes))=some (1,1):=by kernel_rfl
 cases va:Tryz.prog.info? 5 with
 |none=>rw[va] at af;cases af
 |some i=>
  rw[va] at af
  simp only[Option.map_some,Option.some.injEq,Prod.mk.injEq] at af
  exact⟨i,rfl,af.1,af.2⟩
theorem NQ{i:TypeInfo}(af:i.bytes=1){n:Nat}(aN:n<=1000000000):kA n i.bytes=true:=by
 rw[af]
 have:(4*n+2048)*(1+1)<=281474976710656:=by omega
 simpa[kA] using this
theorem CZ(n b B:Nat)(h:J)(w s:List UInt8)(ae:kd B b h w)(aw:w.length+s.length<=1000000000):∃an,Y (n+3) (.fn 44) [.ptr b 0,.str s] h=.ret (.aO [.int .i64 (Int.ofNat s.length),.e7]) an/\kd B b an (w++s)/\nB 5 b B h an:=by
 obtain⟨a,v,al,aL,C0,k_,aat,rh⟩:=ae
 obtain⟨aa,aF,ai,aE,dA⟩:=Hf n b h v (by omega) (by rcases aL with rfl|rfl;exact .inl al;exact .inr al)
 have br:qd B 5 aa v w:=C0.ext (by omega) λc ag _=>dA c (by omega)
 obtain⟨i,va,C1,y5⟩:=NP
 obtain⟨v',ad,b6,cU,c8⟩:=Lq (P:=Tryz.prog) (B:=B) (sT:=27) (xT:=some 9) (e:=5) (z:=.int .u8 (Int.ofNat 0)) (by omega) (by kernel_rfl) (by kernel_rfl) va C1 (by kernel_rfl) rfl (NQ y5 aw) br
 have au:=(c8.get b k_).trans ai
 have aN:=c8.n
 have rN:w++s=[]->v'=.aS:=by
  intro e
  obtain⟨rfl,rfl⟩:=List.append_eq_nil_iff.1 e
  obtain rfl:=rh rfl
  have:db Tryz.prog aa 27 (some 9) .aS (.str [])=some (.aS,aa):=by
   have hu:Tryz.prog.underlying 27=some (.slice 5):=by kernel_rfl
   have hs:pH Tryz.prog (some 9)=true:=by kernel_rfl
   have aW:ev Tryz.prog 5=some (.int .u8 (Int.ofNat 0)):=by kernel_rfl
   simp only[db,hu,hs,va,aW,C1];rfl
  rw[this] at b6
  cases b6;rfl
 refine⟨ad.set b (some (.cells [.ptr b 0,v'] 92 .own 0 0)),?_,⟨.ptr b 0,v',gk rfl,.inr rfl,cU.ext (by simp) λc ag _=>dB (by omega) rfl,k_,by simp;omega,rN⟩,⟨⟨by simp;omega,λc ag mz=>dB mz ((c8.get c ag).trans (dA c mz))⟩,λd ao zD o6=>?_⟩⟩
 · rcases cU with⟨rfl,_⟩|⟨c,r,rfl,_⟩
   · exact eA (intr:=b3) (n:=n+2) (args:=[.ptr b 0,.str s]) Tryz.func44 (by kernel_rfl) rfl (by kernel_rfl) (NK (Y (n+2)) b s v h ad aa _ aF (aT ai rfl) b6 (gN au rfl rfl)) (.inl rfl) (by kernel_rfl)
   · exact eA (intr:=b3) (n:=n+2) (args:=[.ptr b 0,.str s]) Tryz.func44 (by kernel_rfl) rfl (by kernel_rfl) (bws (Y (n+2)) b c _ s v h ad aa _ aF (aT ai rfl) b6 (gN au rfl rfl)) (.inl rfl) (by kernel_rfl)
 · refine dB zD ((UX b6 (by omega) ?_).trans (dA d zD))
   rintro o l c rfl
   rcases C0 with⟨ab,_⟩|⟨c',rest,ab,ag,_⟩
   · cases ab
   · cases ab
     exact o6 _ _ _ ag
theorem NR(n b B:Nat)(h:J)(w:List UInt8)(ae:kd B b h w)(aw:w.length<=1000000000):∃an,Y (n+1) (.fn 47) [.ptr b 0] h=.ret (.str w) an/\Ext B h an:=by
 obtain⟨a,v,g,aL,aD,k_,aN,rh⟩:=ae
 rcases aD with⟨rfl,rfl⟩|⟨c,rest,rfl,ag,ru,wu⟩
 · have jw:pJ Tryz.prog (J.room h 12) 118 I.aZ (I.int IntKind.i64 (Int.ofNat 0))=some (.str [],J.room h 12):=by kernel_rfl
   exact⟨_,eA (intr:=b3) (n:=n) (args:=[.ptr b 0]) Tryz.func47 (by kernel_rfl) rfl (by kernel_rfl) (NM (Y n) b h [] _ (aT (h:=h.room 12) g rfl) jw) (.inl rfl) (by kernel_rfl),Ext.room _ _ _⟩
 · by_cases hw:w=[]
   · exact absurd (rh hw) (by simp)
   · have cX:w.length≠0:=by cases w<;>simp at hw⊢
     have eT:iz Tryz.prog Builtin.unsafeSliceData (Array.mk [27]) [I.slice c 0 w.length (bR.aR 1)] (J.room h 12)=jr.val (I.ptr c 0) (J.room h 12):=by
      simp only[iz]
      exact if_neg cX
     have jw:=Lt (P:=Tryz.prog) (h:=h.room 12) (pT:=118) (u:=5) (c:=c) (e:=5) (w:=w) (rest:=rest) hw (by omega) (by kernel_rfl) (by kernel_rfl) (by kernel_rfl) ag
     exact⟨_,eA (intr:=b3) (n:=n) (args:=[.ptr b 0]) Tryz.func47 (by kernel_rfl) rfl (by kernel_rfl) (NL (Y n) b c w.length h w _ (aT (h:=h.room 12) g rfl) eT jw) (.inl rfl) (by kernel_rfl),
      (Ext.room B h 12).trans (Nat.le_refl _) (Ext.set (by omega) _)⟩
abbrev px(b:Nat):List I:=[.ptr b 0,.ptr (b+2) 0,.ptr (b+3) 0,.ptr (b+1) 0]
structure fZ(b:Nat)(h0 x:J)(w:a7):Prop where
 C2:kd (b+4) b x w
 one:x.get (b+1)=some (.cells [.fn 97 [] (px b)] 133 .own 0 0)
 xk:x.get (b+2)=some (.cells [.fn 95 [] [.ptr b 0,.ptr (b+1) 0]] 135 .own 0 0)
 o7:x.get (b+3)=some (.cells [.fn 96 [] []] 134 .own 0 0)
 ext:Ext b h0 x
abbrev iu(b:Nat)(x y:J):Prop:=nB 5 b (b+4) x y
theorem fZ.n{b:Nat}{h0 x:J}{w:a7}(ae:fZ b h0 x w):b+4<=x.n:=by obtain⟨_,_,_,_,_,_,h,_⟩:=ae.C2;exact h
theorem fZ.NS{b:Nat}{h0 x y:J}{w w':a7}(ae:fZ b h0 x w)(aU:kd (b+4) b y w')(k:iu b x y):fZ b h0 y w':=
 ⟨aU,(k.x.get _ (by omega) (by omega)).trans ae.one,(k.x.get _ (by omega) (by omega)).trans ae.xk,(k.x.get _ (by omega) (by omega)).trans ae.o7,
  ae.ext.trans (Nat.le_refl _) ⟨k.x.n,λd ao=>k.x.get d (by omega) (by omega)⟩⟩
theorem fZ.lb{b:Nat}{h0 x y:J}{w:a7}(ae:fZ b h0 x w)(e:Ext x.n x y):fZ b h0 y w/\iu b x y:=by
 have aN:=ae.n
 have aq:iu b x y:=nB.ext e aN
 refine⟨ae.NS ?_ aq,aq⟩
 obtain⟨a,v,aa,ad,av,aG,bI,cq⟩:=ae.C2
 exact⟨a,v,(e.get b (by omega)).trans aa,ad,av.ext e.n λc _ ag=>e.get c ag,aG,Nat.le_trans bI e.n,cq⟩
theorem fZ.ws{b:Nat}{h0 x:J}{w:a7}(n:Nat)(s:a7)(ae:fZ b h0 x w)(aw:w.length+s.length<=1000000000):∃y,Y (n+3) (.fn 44) [.ptr b 0,.str s] x=.ret (.aO [.int .i64 (Int.ofNat s.length),.e7]) y/\fZ b h0 y (w++s)/\iu b x y:=by
 obtain⟨y,c,aU,k⟩:=CZ n b (b+4) x w s ae.C2 aw
 exact⟨y,c,ae.NS aU k,k⟩
theorem iu.own{b d:Nat}{x y:J}{cs:List I}{e:Nat}(k:iu b x y)(ao:d<x.n)(ae:d≠b)(al:x.get d=some (.cells cs e .own 0 0)):d<y.n/\y.get d=some (.cells cs e .own 0 0):=
 ⟨Nat.lt_of_lt_of_le ao k.x.n,(k.k d ao ae (by rw[al];intro cs aI up h;cases h)).trans al⟩
theorem Hg(m:Nat){b:Nat}{h0:J}{v:I}{vs:List I}(sep:a7)(fL fz:Nat)(iS iT:List I)(A W Z:Nat->a7)(items:List a7)(K:J->Prop)(de:∀x y,K x->iu b x y->K y)(aD:c6 b h0 v vs)(hlen:vs.length<=90000)(ku:items.length=vs.length)(sX:∀i (af:i<items.length),items[i]=A i++W i++Z i)
  (kn:∀i x w,i<vs.length->fZ b h0 x w->K x->Y (m+3) (.fn fL) (.int .i64 (Int.ofNat i)::iS) x=.ret (.str (A i)) x)
  (qz:∀i x w,i<vs.length->fZ b h0 x w->K x->Y (m+3) (.fn fz) (.int .i64 (Int.ofNat i)::iT) x=.ret (.str (Z i)) x)
  (ug:∀i (af:i<vs.length) x w,fZ b h0 x w->K x->w.length+(W i).length<=1000000->∃y,Y (m+3) (.fn 97) (vs[i]::px b) x=.ret (.aO []) y/\fZ b h0 y (w++W i)/\iu b x y)
  {x:J}{w:a7}(ab:fZ b h0 x w)(CP:K x)(aw:w.length+(ef sep items).length<=1000000):
  ∃y,Y (m+4) (.fn 95) [v,.str sep,.fn fL [] iS,.fn fz [] iT,.ptr b 0,.ptr (b+1) 0] x=.ret (.aO []) y/\fZ b h0 y (w++ef sep items)/\iu b x y:=by
 have ln:∀g,Ext b h0 g->cl Tryz.prog g 50 v=some (.int .i64 (Int.ofNat vs.length)):=λg x=>(aD.bO (fa.ext x (Nat.le_refl _))).len (t:=50) (e:=35) (by kernel_rfl)
 refine aal (m+3) v sep fL fz b (b+1) iS iT x (R:=λr=>∃y,r=.ret (.aO []) y/\fZ b h0 y (w++ef sep items)/\iu b x y) ⟨vs.length,ln x ab.ext,?_⟩
 refine a4.loop (by kernel_rfl) (λk st=>∃i y Γ,st=⟨Γ,[],.none,y⟩/\cd [(1,.str sep),(2,.fn fL [] iS),(3,.fn fz [] iT),(4,.ptr b 0),(5,.ptr (b+1) 0),(12,v),(13,.int .i64 (Int.ofNat vs.length)),(14,.int .i64 (Int.ofNat i))] Γ/\vs.length-i=k/\i<=vs.length/\fZ b h0 y (w++ef sep (items.take i))/\iu b x y/\K y) ?_ vs.length _ (by omega) ⟨0,x,_,rfl,⟨rfl,rfl,rfl,rfl,rfl,rfl,rfl,rfl,trivial⟩,by omega,by omega,by simpa[ef] using ab,nB.refl _ _ _ _,CP⟩
 rintro k st ⟨i,y,Γ,rfl,cL,aq,af,aU,hw,z5⟩
 by_cases aa:i<vs.length
 · have ad:i<items.length:=by omega
   rcases aD with⟨rfl,rfl⟩|⟨fy,off,cp,rfl,ae,fB,aQ,ao⟩
   · simp at aa
   have t1:=zJ sep items (i+1)
   have t2:=u3 sep items ad
   have NT:=sX i ad
   have item:∀y cW,fZ b h0 y cW->K y->cW.length+(items[i]).length<=1000000->∃a au,Y (m+3) (.fn fL) (.int .i64 (Int.ofNat i)::iS) y=.ret (.str a) au/\∃bQ ay,Y (m+3) (.fn 44) [.ptr b 0,.str a] au=.ret (.aO [.int .i64 (Int.ofNat bQ),.e7]) ay/\ar ay (b+1) 0=some (.fn 97 [] (px b))/\∃bg,Y (m+3) (.fn 97) (vs[i]::px b) ay=.ret (.aO []) bg/\∃z bF,Y (m+3) (.fn fz) (.int .i64 (Int.ofNat i)::iT) bg=.ret (.str z) bF/\∃ez dk,Y (m+3) (.fn 44) [.ptr b 0,.str z] bF=.ret (.aO [.int .i64 (Int.ofNat ez),.e7]) dk/\fZ b h0 dk (cW++items[i])/\iu b y dk:=by
    intro y cW NU Hh hJ
    rw[NT] at hJ
    simp only[List.length_append] at hJ
    obtain⟨ay,dy,dm,ez⟩:=NU.ws m (A i) (by omega)
    obtain⟨bg,fO,gl,gV⟩:=ug i aa ay _ dm (de _ _ Hh ez) (by simp;omega)
    have aau:=de _ _ (de _ _ Hh ez) gV
    obtain⟨dk,z6,oB,iI⟩:=gl.ws m (Z i) (by simp;omega)
    refine⟨A i,y,kn i y _ aa NU Hh,_,ay,dy,aT dm.one rfl,bg,fO,Z i,bg,qz i bg _ aa gl aau,_,dk,z6,?_,(ez.trans gV).trans iI⟩
    rw[NT]
    simpa only[List.append_assoc] using oB
   have dg:∀dk,fZ b h0 dk (w++ef sep (items.take (i+1)))->iu b y dk->(d_ (λs=>∃j,j<k/\(λk st=>∃i y Γ,st=⟨Γ,[],.none,y⟩/\cd [(1,.str sep),(2,.fn fL [] iS),(3,.fn fz [] iT),(4,.ptr b 0),(5,.ptr (b+1) 0),(12,.slice fy off vs.length cp),(13,.int .i64 (Int.ofNat vs.length)),(14,.int .i64 (Int.ofNat i))] Γ/\vs.length-i=k/\i<=vs.length/\fZ b h0 y (w++ef sep (items.take i))/\iu b x y/\K y) j s) (λb9 cf=>∃(g:J) (cx:Env),b9=.exit 0/\cf=⟨cx,[],.none,g⟩/\cd [] cx/\∃y,a9.ret (.aO []) g=.ret (.aO []) y/\fZ b h0 y (w++ef sep items)/\iu b x y)) .nrm ⟨[(1,.str sep),(2,.fn fL [] iS),(3,.fn fz [] iT),(4,.ptr b 0),(5,.ptr (b+1) 0),(12,.slice fy off vs.length cp),(13,.int .i64 (Int.ofNat vs.length)),(14,.int .i64 (Int.ofNat (i+1)))],[],.none,dk⟩:=λdk oB iI=>
    ⟨_,(by show vs.length-(i+1)<k;omega),i+1,dk,_,rfl,⟨rfl,rfl,rfl,rfl,rfl,rfl,rfl,rfl,trivial⟩,rfl,by omega,oB,hw.trans iI,de _ _ z5 iI⟩
   refine a4.pre (aam (Y (m+3)) sep fL fz b (b+1) fy off _ i 97 cp iS iT (px b) y ⟨λ_=>⟨aa,_,jh aU.ext ae (fB i aa),λyD=>?_,λyD=>?_⟩,λak=>absurd aa ak⟩) cL rfl rfl rfl
   · rw[if_pos yD] at t2
     rw[t2] at t1
     simp only[List.length_append] at t1
     obtain⟨ai,aF,br,bJ⟩:=aU.ws m sep (by simp;omega)
     obtain⟨a,au,a6,bQ,ay,dy,fO,bg,mj,z,bF,z6,ez,dk,Hi,oB,bk⟩:=item ai _ br (de _ _ z5 bJ) (by simp;omega)
     exact⟨_,_,ai,aF,a,au,a6,bQ,_,ay,dy,fO,bg,mj,z,bF,z6,ez,_,dk,Hi,by omega,dg dk (by rw[t2];simpa only[List.append_assoc] using oB) (bJ.trans bk)⟩
   · rw[if_neg yD] at t2
     rw[t2] at t1
     have dc:items.take i=[]:=by rw[show i=0 by omega];rfl
     rw[dc] at aU
     obtain⟨a,au,a6,bQ,ay,dy,fO,bg,mj,z,bF,z6,ez,dk,Hi,oB,bk⟩:=item y _ aU z5 (by simp[ef];omega)
     exact⟨a,au,a6,bQ,_,ay,dy,fO,bg,mj,z,bF,z6,ez,_,dk,Hi,by omega,dg dk (by rw[t2];simpa[ef] using oB) bk⟩
 · refine a4.pre (aan (Y (m+3)) sep fL fz b (b+1) vs.length i iS iT v y ⟨aa,y,_,rfl,rfl,trivial,y,rfl,?_,hw⟩) cL rfl rfl rfl
   rw[List.take_of_length_le (by omega)] at aU
   exact aU
theorem aav{k:Nat}(aa:1<=k)(bI:k<=5):js Tryz.prog 9 [.str [],.str [97,110,121],.str [105,110,116],.str [98,111,111,108],.str [115,116,114],.str [110,105,108]] (k*1)=some (.str (word k)):=by
 have:k=1\/k=2\/k=3\/k=4\/k=5:=by omega
 rcases this with rfl|rfl|rfl|rfl|rfl<;>rfl
theorem NV{a b c:a7}:(a++b++c).length=a.length+b.length+c.length:=by simp;omega
theorem NW:∀(K:Nat) (t:aC),sz t<=K->ep t=true->sz t<=100->∀(m b:Nat) (h0:J) (v:I),2*sz t+6<=m->dD b h0 t v->∀(x:J) (w:a7),fZ b h0 x w->w.length+(wr t).length<=1000000->∃y,Y m (.fn 97) (v::px b) x=.ret (.aO []) y/\fZ b h0 y (w++wr t)/\iu b x y
 |0,t,de,_,_,_,_,_,_,_,_,_,_,_,_=>by
  have:=qp t
  omega
 |K+1,.mk k nm ns xs rt,de,vb,g5,m,b,h0,v,hm,aD,x,w,ab,aw=>by
  obtain⟨R,bK,a_,c0,vs,bk,aI,up,rfl,ad,av,aG,bI,cq,di⟩:=aD
  have dq:=zM _ vb
  rw[NG] at vb
  simp only[Bool.and_eq_true,decide_eq_true_eq] at vb
  obtain⟨⟨bJ,jl⟩,hj,jb,m1⟩:=vb
  rw[okW] at dq
  simp only[Bool.and_eq_true,Bool.or_eq_true,decide_eq_true_eq] at dq
  obtain⟨⟨⟨⟨⟨_,_⟩,pr⟩,rI⟩,CP⟩,GU⟩:=dq
  rw[mc] at de g5 hm
  rw[s5] at aw
  obtain⟨m,rfl⟩:∃j,m=j+5:=⟨m-5,by omega⟩
  have eD:=dL.len cq
  have jv:=mW xs
  have ll:=wX xs
  have hl:∀i (i2:i<xs.length),ep xs[i]=true:=λi i2=>zL jb (List.getElem_mem i2)
  have bb:∀(u:aC),sz u<=K->ep u=true->sz u<=100->∀(m b:Nat) (h0:J) (v:I),2*sz u+6<=m->dD b h0 u v->∀(x:J) (w:a7),fZ b h0 x w->w.length+(wr u).length<=1000000->∃y,Y m (.fn 97) (v::px b) x=.ret (.aO []) y/\fZ b h0 y (w++wr u)/\iu b x y:=NW K
  rw[s5]
  obtain⟨H,cw⟩:∃H,H=x.push (.cells [.ptr R 0] 35 .own 0 0):=⟨_,rfl⟩
  have dz:Ext x.n x H:=by rw[cw];exact Ext.push (Nat.le_refl _) _
  have lK:H.n=x.n+1:=by rw[cw];rfl
  have td:H.get x.n=some (.cells [.ptr R 0] 35 .own 0 0):=by rw[cw];exact fl rfl
  obtain⟨te,z7⟩:=ab.lb dz
  have tK:=ab.n
  have py:∀y s,fZ b h0 y s->y.get R=some (.cells [.int .i64 (Int.ofNat k),.str nm,bK,a_,c0] 80 bk aI up):=λy s aU=>(aU.ext.get R ad).trans av
  have tf:∀y,iu b H y->y.get x.n=some (.cells [.ptr R 0] 35 .own 0 0):=λy k=>(k.own (by omega) (by omega) td).2
  have C3:∀n y s,fZ b h0 y s->fZ b h0 (y.room n) s/\iu b y (y.room n):=λn y s aU=>aU.lb (Ext.room _ y n)
  have item:∀i (af:i<vs.length) y s,fZ b h0 y s->s.length+(wn (cB xs) i).length<=1000000->∃z,Y (m+3) (.fn 97) (vs[i]::px b) y=.ret (.aO []) z/\fZ b h0 z (s++wn (cB xs) i)/\iu b y z:=λi af y s aU aw=>by
   have i2:i<xs.length:=by omega
   have aW:=oH (List.getElem_mem i2)
   rw[show wn (cB xs) i=wr xs[i] by simp[wn,ll,i2,wY xs i i2]] at aw⊢
   exact bb xs[i] (by omega) (hl i i2) (by omega) (m+3) b h0 vs[i] (by omega) (dL.get cq i af i2) y s aU aw
  refine aaq (m+4) b (b+2) (b+3) (b+1) R k nm a_ c0 x (R:=λr=>∃y,r=.ret (.aO []) y/\fZ b h0 y (w++hy.shape k nm ns (xs.map aC.k) (cB xs) (k7 rt))/\iu b x y) ?_
  rw[<-cw]
  refine⟨aT td rfl,aT (py H _ te) rfl,λgu=>?_,λgu=>⟨λgj=>?_,λgj=>⟨λg6=>?_,λg6=>⟨λgv=>?_,λgv=>?_⟩⟩⟩⟩
  · subst gu
    have:(nm:a7).length<=161:=by
     have:md nm=true:=by simpa[e3] using m1
     unfold md at this
     simp only[Bool.and_eq_true,decide_eq_true_eq] at this
     exact this.1.2
    obtain⟨y,c,Hj,k⟩:=te.ws (m+1) nm (by omega)
    exact⟨aT td rfl,aT (py H _ te) rfl,_,_,y,c,y,rfl,Hj,z7.trans k⟩
  · subst gj
    have lG:xs.length=ns.length:=by rcases pr with pr|pr;exact absurd rfl pr;exact pr
    have hs:hy.shape 7 nm ns (xs.map aC.k) (cB xs) (k7 rt)=[123]++ef [44,32] (hd ns (cB xs))++[125]:=rfl
    rw[hs] at aw⊢
    rw[NV] at aw
    simp only[List.length_cons,List.length_nil] at aw
    have ku:(hd ns (cB xs)).length=vs.length:=by unfold hd;rw[List.length_zipWith];omega
    obtain⟨ai,aF,br,bJ⟩:=te.ws (m+1) [123] (by simp;omega)
    obtain⟨ig,xl⟩:=C3 8 ai _ br
    have vc:=bJ.trans xl
    obtain⟨au,a6,a3,bQ⟩:=Hg m (v:=a_) (vs:=vs) [44,32] 98 96 [.ptr x.n 0] [] (λi=>wn ns i++[58,32]) (wn (cB xs)) (λ_=>[]) (hd ns (cB xs)) (λy=>iu b H y) (λ_ _ k dh=>k.trans dh) bI (by omega) ku (λi af=>by
      have i1:i<ns.length:=by omega
      have i2:i<(cB xs).length:=by omega
      rw[GS af i1 i2];simp[wn,i1,i2]) (λi y s af aU aq=>by
      have i1:i<ns.length:=by omega
      rcases aG.strs with⟨_,rfl⟩|⟨nb,off,cp,rfl,ae,fB⟩
      · simp at i1
      refine aao (m+2) i x.n y (R:=λr=>r=_) ⟨R,aT (tf y aq) rfl,nb,off,_,cp,aT (py y s aU) rfl,i1,ns[i],jh aU.ext ae (fB i i1),?_,?_⟩
      · have t2:=u4 [44,32] (hd ns (cB xs)) (i:=i) (by omega)
        rw[GS (by omega) i1 (by omega)] at t2
        simp at t2⊢;omega
      · simp[wn,i1])
     (λi y s af aU aq=>He (m+2) i y (R:=λr=>r=_) rfl) (λi af y s aU aq aw=>item i af y s aU aw) ig vc (by simp;omega)
    obtain⟨ay,dy,dm,ez⟩:=a3.ws (m+1) [125] (by simp;omega)
    refine⟨_,_,ai,aF,aT ig.xk rfl,aT (tf _ vc) rfl,aT (py _ _ ig) rfl,aT ig.o7 rfl,au,a6,bI.snd,_,_,ay,dy,ay,rfl,by simpa only[List.append_assoc] using dm,z7.trans (vc.trans (bQ.trans ez))⟩
  · subst g6
    have hs:hy.shape 8 nm ns (xs.map aC.k) (cB xs) (k7 rt)=[102,110,40]++ef [44,32] (cB xs)++[41,32,45,62,32]++k7 rt:=rfl
    rw[hs] at aw⊢
    rw[List.length_append,NV] at aw
    simp only[List.length_cons,List.length_nil] at aw
    obtain⟨ai,aF,br,bJ⟩:=te.ws (m+1) [102,110,40] (by simp;omega)
    obtain⟨ig,xl⟩:=C3 8 ai _ br
    have vc:=bJ.trans xl
    obtain⟨au,a6,a3,bQ⟩:=Hg m (v:=a_) (vs:=vs) [44,32] 96 96 [] [] (λ_=>[]) (wn (cB xs)) (λ_=>[]) (cB xs) (λy=>iu b H y) (λ_ _ k dh=>k.trans dh) bI (by omega) (by omega) (λi af=>by simp[wn,af]) (λi y s af aU aq=>He (m+2) i y (R:=λr=>r=_) rfl)
     (λi y s af aU aq=>He (m+2) i y (R:=λr=>r=_) rfl) (λi af y s aU aq aw=>item i af y s aU aw) ig vc (by simp;omega)
    obtain⟨ay,dy,dm,ez⟩:=a3.ws (m+1) [41,32,45,62,32] (by simp;omega)
    obtain⟨Hk,aaw⟩:=C3 6 ay _ dm
    have NX:=vc.trans (bQ.trans (ez.trans aaw))
    cases rt with
    |none=>rcases rI with rI|rI<;>simp at rI
    |some u=>
     rw[iP] at de g5 hm
     have CS:k7 (some u)=wr u:=by rw[k7]
     rw[CS] at aw⊢
     have aax:ep u=true:=by simpa[e3,iR] using m1
     obtain⟨bg,fO,gl,gV⟩:=bb u (by omega) aax (by omega) (m+4) b h0 c0 (by omega) di (ay.room 6) _ Hk (by simp;omega)
     exact⟨_,_,ai,aF,aT ig.xk rfl,aT (tf _ vc) rfl,aT (py _ _ ig) rfl,aT ig.o7 rfl,aT ig.o7 rfl,au,a6,bI.snd,_,_,ay,dy,aT Hk.one rfl,aT (tf _ NX) rfl,aT (py _ _ Hk) rfl,bg,fO,dM.snd (ot:=some u) di,bg,rfl,by simpa only[List.append_assoc] using gl,z7.trans (NX.trans gV)⟩
  · subst gv
    have hs:hy.shape 9 nm ns (xs.map aC.k) (cB xs) (k7 rt)=ef [32,124,32] (hZ (xs.map aC.k) (cB xs)):=rfl
    rw[hs] at aw⊢
    have ku:(hZ (xs.map aC.k) (cB xs)).length=vs.length:=by unfold hZ;rw[List.length_zipWith,List.length_map];omega
    obtain⟨ig,xl⟩:=C3 10 H _ te
    obtain⟨ai,ee⟩:∃g,g=(H.room 10).push (.cells [.str [40]] 9 .own 0 0):=⟨_,rfl⟩
    obtain⟨au,s3⟩:∃g,g=ai.push (.cells [.str [41]] 9 .own 0 0):=⟨_,rfl⟩
    have aE:ai.n=(H.room 10).n+1:=by rw[ee];rfl
    have bf:au.n=ai.n+1:=by rw[s3];rfl
    have bC:Ext (H.room 10).n (H.room 10) ai:=by rw[ee];exact Ext.push (Nat.le_refl _) _
    have cS:Ext ai.n ai au:=by rw[s3];exact Ext.push (Nat.le_refl _) _
    obtain⟨br,bJ⟩:=ig.lb bC
    obtain⟨a3,bQ⟩:=br.lb cS
    have ba:au.get (H.room 10).n=some (.cells [.str [40]] 9 .own 0 0):=(cS.get _ (by omega)).trans (by rw[ee];exact fl rfl)
    have a1:au.get ai.n=some (.cells [.str [41]] 9 .own 0 0):=by rw[s3];exact fl rfl
    have xm:=ig.n
    have NY:=xl.trans bJ
    have Hl:=NY.trans bQ
    have zT:∀i (af:i<vs.length),∃M,vs[i]=.ptr M 0/\∀y,Ext b h0 y->ar y M (0+0)=some (.int .i64 (Int.ofNat ((xs.map aC.k)[i]?.getD 0))):=λi af=>by
     have i2:i<xs.length:=by omega
     obtain⟨M,g0,rH⟩:=(dL.get cq i af i2).kind
     exact⟨M,g0,λy e=>by rw[rH y e];simp[i2]⟩
    have ky:∀(q:Nat) (mk:a7),(∀y,iu b au y->y.get q=some (.cells [.str mk] 9 .own 0 0))->∀i y s,i<vs.length->fZ b h0 y s->iu b au y->Y (m+3) (.fn 100) [.int .i64 (Int.ofNat i),.ptr x.n 0,.ptr q 0] y=.ret (.str (if(xs.map aC.k)[i]?.getD 0=8 then mk else[])) y:=λq mk aJ i y s af aU aq=>by
     obtain⟨M,g0,rH⟩:=zT i af
     rcases bI with⟨_,rfl⟩|⟨fy,off,cp,rfl,ae,fB,_⟩
     · simp at af
     have aA:=fB i af
     rw[g0] at aA
     refine aap (m+2) i x.n q y (R:=λr=>r=_) ⟨R,aT (tf y (Hl.trans aq)) rfl,fy,off,_,cp,aT (py y s aU) rfl,af,M,jh aU.ext ae aA,_,rH y aU.ext,λe=>⟨mk,aT (aJ y aq) rfl,by rw[if_pos e]⟩,λe=>by rw[if_neg e]⟩
    obtain⟨ay,dy,dm,ez⟩:=Hg m (v:=a_) (vs:=vs) [32,124,32] 100 100 [.ptr x.n 0,.ptr (H.room 10).n 0] [.ptr x.n 0,.ptr ai.n 0] (λi=>if(xs.map aC.k)[i]?.getD 0=8 then[40] else[]) (wn (cB xs)) (λi=>if(xs.map aC.k)[i]?.getD 0=8 then[41] else[]) (hZ (xs.map aC.k) (cB xs)) (λy=>iu b au y) (λ_ _ k dh=>k.trans dh) bI (by omega) ku (λi af=>by
      have i1:i<(xs.map aC.k).length:=by rw[List.length_map];omega
      have i2:i<(cB xs).length:=by omega
      rw[M6 af i1 i2,show(xs.map aC.k)[i]?.getD 0=(xs.map aC.k)[i] by rw[List.getElem?_eq_getElem i1];rfl,show wn (cB xs) i=(cB xs)[i] by simp[wn,i2]]
      split<;>simp)
     (ky _ [40] (λy k=>(k.own (by omega) (by omega) ba).2)) (ky _ [41] (λy k=>(k.own (by omega) (by omega) a1).2)) (λi af y s aU aq aw=>item i af y s aU aw) a3 (nB.refl _ _ _ _) (by omega)
    refine⟨aT ig.xk rfl,aT (tf _ xl) rfl,aT (py _ _ ig) rfl,_,ai,NN (m+3) [40] x.n (H.room 10) (R:=λr=>r=_) (by rw[<-ee]),_,au,NN (m+3) [41] x.n ai (R:=λr=>r=_) (by rw[<-s3]),ay,dy,aT a3.xk rfl,aT br.xk rfl,aT (tf _ Hl) rfl,aT (tf _ NY) rfl,bI.snd,aT (py _ _ a3) rfl,aT (py _ _ br) rfl,ay,rfl,dm,z7.trans (Hl.trans ez)⟩
  · have hs:hy.shape k nm ns (xs.map aC.k) (cB xs) (k7 rt)=word k:=by
      unfold hy.shape
      rw[if_neg gu,if_neg gj,if_neg g6,if_neg gv]
    rw[hs] at aw⊢
    obtain⟨y,c,Hj,z5⟩:=te.ws (m+1) (word k) (by omega)
    exact⟨aT td rfl,aT (py H _ te) rfl,word k,⟨by omega,aav bJ (by omega)⟩,_,_,y,c,y,rfl,Hj,z7.trans z5⟩
theorem aay:NH:=λu vb g5 m B h v hm cC aD=>by
 obtain⟨m,rfl⟩:∃j,m=j+2:=⟨m-2,by omega⟩
 have ll:=wZ u vb
 obtain⟨R,rfl⟩:∃R,v=.ptr R 0:=by
  cases u with
  |mk bJ bQ ez gV fX=>obtain⟨R,_,_,_,_,_,_,_,rfl,_⟩:=aD;exact⟨R,rfl⟩
 refine aar (m+1) R h ?_
 obtain⟨ey,oJ⟩:∃p,p=h.push (.cells [.aZ,.aS] 92 .own 0 0):=⟨_,rfl⟩
 obtain⟨e9,m0⟩:∃p,p=ey.push (.cells [.gb] 133 .own 0 0):=⟨_,rfl⟩
 obtain⟨jK,xn⟩:∃p,p=e9.push (.cells [.gb] 135 .own 0 0):=⟨_,rfl⟩
 rw[<-oJ,<-m0,<-xn]
 have aE:ey.n=h.n+1:=by rw[oJ];rfl
 have bf:e9.n=h.n+2:=by rw[m0];show ey.n+1=_;omega
 have bH:jK.n=h.n+3:=by rw[xn];show e9.n+1=_;omega
 rw[aE,bf]
 obtain⟨lY,C4⟩:∃p,p=jK.set (h.n+2) (some (.cells [.fn 95 [] [.ptr h.n 0,.ptr (h.n+1) 0]] 135 .own 0 0)):=⟨_,rfl⟩
 have bU:lY.n=h.n+3:=by rw[C4];exact bH
 have st1:bt.storeCells jK (h.n+2) 0 [.fn 95 [] [.ptr h.n 0,.ptr (h.n+1) 0]]=some lY:=by
  rw[C4];exact gN (cs:=[.gb]) (by rw[xn];exact fl bf.symm) rfl rfl
 obtain⟨qA,z8⟩:∃p,p=lY.push (.cells [.gb] 134 .own 0 0):=⟨_,rfl⟩
 obtain⟨xo,z9⟩:∃p,p=qA.set (h.n+3) (some (.cells [.fn 96 [] []] 134 .own 0 0)):=⟨_,rfl⟩
 have cv:xo.n=h.n+4:=by rw[z9];show qA.n=_;rw[z8];show lY.n+1=_;omega
 have kX:bt.storeCells qA (h.n+3) 0 [.fn 96 [] []]=some xo:=by
  rw[z9];exact gN (cs:=[.gb]) (by rw[z8];exact fl bU.symm) rfl rfl
 have bF:∀d,d≠h.n+2->d<h.n+3->xo.get d=jK.get d:=λd aa ad=>by
  rw[z9,J.c7,if_neg (by omega),z8,J.gD,if_neg (by omega),C4,J.c7,if_neg aa]
 have a1:jK.get (h.n+1)=some (.cells [.gb] 133 .own 0 0):=by
  rw[xn,J.gD,if_neg (by omega),m0];exact fl aE.symm
 have ba:jK.get h.n=some (.cells [.aZ,.aS] 92 .own 0 0):=by
  rw[xn,J.gD,if_neg (by omega),m0,J.gD,if_neg (by omega),oJ];exact fl rfl
 obtain⟨xp,tg⟩:∃p,p=xo.set (h.n+1) (some (.cells [.fn 97 [] (px h.n)] 133 .own 0 0)):=⟨_,rfl⟩
 have Hm:bt.storeCells xo (h.n+1) 0 [.fn 97 [] (px h.n)]=some xp:=by
  rw[tg];exact gN (cs:=[.gb]) ((bF _ (by omega) (by omega)).trans a1) rfl rfl
 have c4:xp.n=h.n+4:=by rw[tg];exact cv
 have gj:Ext h.n h xp:=⟨by omega,λd ao=>by
  rw[tg,J.c7,if_neg (by omega),bF d (by omega) (by omega),xn,J.gD,if_neg (by omega),m0,J.gD,if_neg (by omega),oJ,J.gD,if_neg (by omega)]⟩
 have box:fZ h.n h xp []:=by
  refine⟨⟨.aZ,.aS,?_,.inl rfl,.inl ⟨rfl,rfl⟩,by omega,by omega,λ_=>rfl⟩,?_,?_,?_,gj⟩
  · rw[tg,J.c7,if_neg (by omega),bF _ (by omega) (by omega)];exact ba
  · rw[tg];exact gk rfl
  · rw[tg,J.c7,if_neg (by omega),z9,J.c7,if_neg (by omega),z8,J.gD,if_neg (by omega),C4];exact gk rfl
  · rw[tg,J.c7,if_neg (by omega),z9];exact gk rfl
 obtain⟨y,aF,br,bJ⟩:=NW (sz u) u (Nat.le_refl _) vb g5 (m+1) h.n h (.ptr R 0) (by omega) (dD.le cC _ _ aD) xp [] box (by simp;omega)
 rw[List.nil_append] at br
 obtain⟨z,a6,cS⟩:=NR m h.n (h.n+4) y (wr u) br.C2 (by omega)
 refine⟨lY,st1,xo,?_,xp,?_,px h.n,?_,y,aF,wr u,z,a6,cZ.mk ⟨?_,λd ao=>?_⟩⟩
 · rw[bU,<-z8];exact kX
 · rw[bU];exact Hm
 · rw[tg];exact aT (gk rfl) rfl
 · have:=bJ.x.n;have:=cS.n;omega
 · rw[cS.get d (by omega),bJ.x.get d (by omega) (by omega),gj.get d (by omega)]
theorem aaz{ot:Option aC}{B:Nat}{h:J}{v:I}(m:Nat)(g5:c_ ot<=90000)(aN:∀t,ot=some t->iQ t<=90000)(hm:4*c_ ot+20<=m)(cC:B<=h.n)(aD:dM B h ot v):
  cZ B h (.int .i64 (Int.ofNat (dv ot))) (Y (m+1) (.fn 25) [v] h):=by
 cases ot with
 |none=>
  obtain rfl:v=.aZ:=aD
  exact ZX m h (cZ.mk (Ext.refl _ _))
 |some t=>
  have bA:c_ (some t)=sz t:=iP t
  obtain⟨R,rfl⟩:∃R,v=.ptr R 0:=by
   cases t with
   |mk bJ bQ ez gV fX=>obtain⟨R,_,_,_,_,_,_,_,rfl,_⟩:=aD;exact⟨R,rfl⟩
  obtain⟨m,rfl⟩:∃j,m=j+1:=⟨m-1,by omega⟩
  obtain⟨ai,aF,bC⟩:=GF (m-1) g5 cC aD (by omega)
  replace bC:=bC.le cC
  rw[show m-1+2=m+1 by omega] at aF
  rw[bA] at aF g5 hm
  refine ZW (m+1) R h ⟨_,ai,aF,λpj=>?_,λpj=>?_⟩
  · exact cZ.of (by rw[dv,if_pos (by omega)]) bC
  · obtain⟨au,a6,cS⟩:=NI aay (sz t) t (Nat.le_refl _) (by omega) (aN t rfl) (m+1) B ai (.ptr R 0) (by omega) (Nat.le_trans cC bC.n) (dD.bO (fa.ext bC (Nat.le_refl _)) _ _ aD)
    have oK:=bC.trans (Nat.le_refl _) cS
    refine⟨_,au,a6,λae=>?_,λae=>?_⟩
    · have:ep t=true:=by simpa using ae
      exact cZ.of (by rw[dv,if_neg (by omega),if_pos this]) oK
    · have:ep t=false:=by simpa using ae
      exact cZ.of (by rw[dv,if_neg (by omega),if_neg (by rw[this];simp)]) oK
end Go.Proofs.jk
