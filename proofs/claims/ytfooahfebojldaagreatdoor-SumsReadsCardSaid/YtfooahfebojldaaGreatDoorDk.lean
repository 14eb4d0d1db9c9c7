/-
  PROVED HERE: contracts of functions (Dk). No condition beside each statement's own.
-/
import Derived.Test.YtfooahfebojldaaGreatDoorDj
set_option linter.unusedVariables false
set_option linter.unusedSimpArgs false
namespace Go.Proofs.ew
open Go aC Go.Proofs dD Go.Proofs.cT
open Go.Proofs.df (hN cC mu)
open Go.Proofs.eN (e5 cf aI ch fm)
set_option maxRecDepth 100000
set_option maxHeartbeats 1000000
theorem rr(m:Nat)(q:Nat)(h:aa){R:ao->Prop}(H:∃a1:Nat,av (aa.push h (.cells [.ptr q 0] 59 .own 0 0)) h.n 0=some (.ptr a1 0)/\∃bL:Nat,av (aa.push h (.cells [.ptr q 0] 59 .own 0 0)) a1 (0+1)=some (.int .i64 (.ofNat bL))/\bL+1<9223372036854775808/\∃aq:aa,aC.storeCells (aa.push h (.cells [.ptr q 0] 59 .own 0 0)) a1 (0+1) [.int .i64 (.ofNat (bL+1))]=some aq/\∃cm:Nat,av aq h.n 0=some (.ptr cm 0)/\∃cn:Nat,av aq cm (0+0)=some (.ptr cn 0)/\∃cz:Nat,∃ak:aa,(Y m) (.fn 24) [.ptr cn 0] aq=.ret (.int .u64 (.ofNat cz)) ak/\∃cV:Nat,av ak h.n 0=some (.ptr cV 0)/\∃ej:Nat,av ak cV (0+0)=some (.ptr ej 0)/\∃a8:Bool,∃aQ:aa,(Y m) (.fn 26) [.ptr ej 0] ak=.ret (.bool a8) aQ/\a8=true/\cz<=9/\∃fC:Nat,av aQ h.n 0=some (.ptr fC 0)/\∃fZ:Nat,av aQ fC (0+1)=some (.int .i64 (.ofNat fZ))/\∃a3:aa,(Y m) (.fn 25) [.bool (dq (.ofNat fZ) (.ofNat 60))] aQ=.ret (.aL []) a3/\∃eI:Nat,ec Tryz.prog 65 3 (.int .u64 (.ofNat cz)) a3=fc.val (.int .i64 (.ofNat eI)) a3/\∃bZ:aa,aC.storeCells (aa.push (aa.push a3 (.cells [.int .i64 (.ofNat eI),.str [],.aA,.aA,.bb] 51 .own 0 0)) (.cells [.bb] 47 .own 0 0)) (aa.n (aa.push a3 (.cells [.int .i64 (.ofNat eI),.str [],.aA,.aA,.bb] 51 .own 0 0))) 0 [.ptr a3.n 0]=some bZ/\∃b2:aa,aC.storeCells (aa.push bZ (.cells [.gj] 1 .own 0 0)) bZ.n 0 [.fn 74 [] [.ptr (aa.n (aa.push a3 (.cells [.int .i64 (.ofNat eI),.str [],.aA,.aA,.bb] 51 .own 0 0))) 0,.ptr h.n 0]]=some b2/\∃iJ:Nat,av b2 (aa.n (aa.push a3 (.cells [.int .i64 (.ofNat eI),.str [],.aA,.aA,.bb] 51 .own 0 0))) 0=some (.ptr iJ 0)/\∃iK:Nat,av b2 iJ (0+0)=some (.int .i64 (.ofNat iK))/\(iK=6->∃kN:Nat,av (b2.room 9) (aa.n (aa.push a3 (.cells [.int .i64 (.ofNat eI),.str [],.aA,.aA,.bb] 51 .own 0 0))) 0=some (.ptr kN 0)/\∃nF:Nat,av (b2.room 9) h.n 0=some (.ptr nF 0)/\∃mm:Nat,av (b2.room 9) nF (0+0)=some (.ptr mm 0)/\∃s1:List UInt8,∃b5:aa,(Y m) (.fn 23) [.ptr mm 0] (b2.room 9)=.ret (.str s1) b5/\∃b1:aa,aC.storeCells b5 kN (0+1) [.str s1]=some b1/\av b5 (aa.n (aa.push a3 (.cells [.int .i64 (.ofNat eI),.str [],.aA,.aA,.bb] 51 .own 0 0))) 0=some (.ptr kN 0)/\∃w3:Nat,av b1 (aa.n (aa.push a3 (.cells [.int .i64 (.ofNat eI),.str [],.aA,.aA,.bb] 51 .own 0 0))) 0=some (.ptr w3 0)/\R (.ret (.ptr w3 0) b1))/\(¬iK=6->(iK=7->∃qz:Nat,av b2 h.n 0=some (.ptr qz 0)/\((∃dk:aa,(Y m) (.fn 53) [.ptr qz 0,.fn 75 [] [.ptr (aa.n (aa.push a3 (.cells [.int .i64 (.ofNat eI),.str [],.aA,.aA,.bb] 51 .own 0 0))) 0,.ptr h.n 0,.ptr bZ.n 0]] b2=.ret (.aL []) dk/\∃w4:Nat,av dk (aa.n (aa.push a3 (.cells [.int .i64 (.ofNat eI),.str [],.aA,.aA,.bb] 51 .own 0 0))) 0=some (.ptr w4 0)/\R (.ret (.ptr w4 0) dk))\/(∃v1:J,∃gg:aa,(Y m) (.fn 53) [.ptr qz 0,.fn 75 [] [.ptr (aa.n (aa.push a3 (.cells [.int .i64 (.ofNat eI),.str [],.aA,.aA,.bb] 51 .own 0 0))) 0,.ptr h.n 0,.ptr bZ.n 0]] b2=.bp v1 gg/\R (.bp v1 gg))))/\(¬iK=7->(iK=8->∃w5:Nat,av b2 h.n 0=some (.ptr w5 0)/\∃v2:J,av b2 bZ.n 0=some v2/\((∃fv:aa,(Y m) (.fn 53) [.ptr w5 0,v2] b2=.ret (.aL []) fv/\∃w6:Nat,av (fv.room 6) (aa.n (aa.push a3 (.cells [.int .i64 (.ofNat eI),.str [],.aA,.aA,.bb] 51 .own 0 0))) 0=some (.ptr w6 0)/\∃w7:Nat,av (fv.room 6) h.n 0=some (.ptr w7 0)/\((∃w8:Nat,∃hK:aa,(Y m) (.fn 55) [.ptr w7 0] (fv.room 6)=.ret (.ptr w8 0) hK/\∃oB:aa,aC.storeCells hK w6 (0+4) [.ptr w8 0]=some oB/\av hK (aa.n (aa.push a3 (.cells [.int .i64 (.ofNat eI),.str [],.aA,.aA,.bb] 51 .own 0 0))) 0=some (.ptr w6 0)/\∃ru:Nat,av oB (aa.n (aa.push a3 (.cells [.int .i64 (.ofNat eI),.str [],.aA,.aA,.bb] 51 .own 0 0))) 0=some (.ptr ru 0)/\R (.ret (.ptr ru 0) oB))\/(∃dS:J,∃oC:aa,(Y m) (.fn 55) [.ptr w7 0] (fv.room 6)=.bp dS oC/\R (.bp dS oC))))\/(∃v4:J,∃pv:aa,(Y m) (.fn 53) [.ptr w5 0,v2] b2=.bp v4 pv/\R (.bp v4 pv))))/\(¬iK=8->(iK=9->∃u6:Nat,av b2 h.n 0=some (.ptr u6 0)/\∃h6:J,av b2 bZ.n 0=some h6/\((∃l3:aa,(Y m) (.fn 53) [.ptr u6 0,h6] b2=.ret (.aL []) l3/\∃zD:Nat,av l3 (aa.n (aa.push a3 (.cells [.int .i64 (.ofNat eI),.str [],.aA,.aA,.bb] 51 .own 0 0))) 0=some (.ptr zD 0)/\R (.ret (.ptr zD 0) l3))\/(∃v6:J,∃m2:aa,(Y m) (.fn 53) [.ptr u6 0,h6] b2=.bp v6 m2/\R (.bp v6 m2))))/\(¬iK=9->∃zE:Nat,av b2 (aa.n (aa.push a3 (.cells [.int .i64 (.ofNat eI),.str [],.aA,.aA,.bb] 51 .own 0 0))) 0=some (.ptr zE 0)/\R (.ret (.ptr zE 0) b2)))))):
  R (Y (m+1) (.fn 55) [.ptr q 0] h):=
 eM (intr:=cj) [(1024,.t),(1028,.t),(58,.e none .o),(63,.e none .o),(66,.e none .o),(73,.e none .o)] [(0,.v (.ptr q 0))] Tryz.func55 (by kernel_rfl) (by kernel_rfl) (by kernel_rfl) rfl (Eq.mp (by kernel_rfl) H)
theorem GJ(m:Nat)(q:Nat)(h:aa){R:ao->Prop}(H:∃a1:Nat,av (aa.push h (.cells [.ptr q 0] 59 .own 0 0)) h.n 0=some (.ptr a1 0)/\∃bL:Nat,av (aa.push h (.cells [.ptr q 0] 59 .own 0 0)) a1 (0+1)=some (.int .i64 (.ofNat bL))/\bL+1<9223372036854775808/\∃aq:aa,aC.storeCells (aa.push h (.cells [.ptr q 0] 59 .own 0 0)) a1 (0+1) [.int .i64 (.ofNat (bL+1))]=some aq/\∃cm:Nat,av aq h.n 0=some (.ptr cm 0)/\∃cn:Nat,av aq cm (0+0)=some (.ptr cn 0)/\∃cz:Nat,∃ak:aa,(Y m) (.fn 24) [.ptr cn 0] aq=.ret (.int .u64 (.ofNat cz)) ak/\∃cV:Nat,av ak h.n 0=some (.ptr cV 0)/\∃ej:Nat,av ak cV (0+0)=some (.ptr ej 0)/\∃a8:Bool,∃aQ:aa,(Y m) (.fn 26) [.ptr ej 0] ak=.ret (.bool a8) aQ/\(a8=true->(cz<=9->∃fC:Nat,av aQ h.n 0=some (.ptr fC 0)/\∃fZ:Nat,av aQ fC (0+1)=some (.int .i64 (.ofNat fZ))/\∃v1:J,∃a3:aa,(Y m) (.fn 25) [.bool (dq (.ofNat fZ) (.ofNat 60))] aQ=.bp v1 a3/\R (.bp v1 a3))/\(¬cz<=9->∃v2:J,∃bZ:aa,(Y m) (.fn 25) [.bool false] aQ=.bp v2 bZ/\R (.bp v2 bZ)))/\(a8=false->∃dS:J,∃b2:aa,(Y m) (.fn 25) [.bool false] aQ=.bp dS b2/\R (.bp dS b2))):
  R (Y (m+1) (.fn 55) [.ptr q 0] h):=
 eM (intr:=cj) [(34,.p .o)] [(0,.v (.ptr q 0))] Tryz.func55 (by kernel_rfl) (by kernel_rfl) (by kernel_rfl) rfl (Eq.mp (by kernel_rfl) H)
theorem NF(n:Nat)(aM:n<9223372036854775808)(h:aa):ec Tryz.prog 65 3 (.int .u64 (Int.ofNat n)) h=.val (.int .i64 (Int.ofNat n)) h:=vZ df.Ch df.Ci (rY n aM)
theorem CK:∀(j m:Nat),4*j+20<=m->GH m j
 |0,m,hm=>by
  intro p q h st n _ _ _ _ aM aV
  omega
 |j+1,m,hm=>by
  intro p q h st n hx aS al j3 aM aV mv
  obtain⟨M,rfl⟩:∃M,m=M+1:=⟨m-1,by omega⟩
  have fg:(h.push (.cells [.ptr q 0] 59 .own 0 0)).get h.n=some (.cells [.ptr q 0] 59 .own 0 0):=eB rfl
  have jk:(h.push (.cells [.ptr q 0] 59 .own 0 0)).get q=some (lH p n):=hj aS j3
  obtain⟨aq,cl⟩:∃aq,aq=(h.push (.cells [.ptr q 0] 59 .own 0 0)).set q (some (lH p (n+1))):=⟨_,rfl⟩
  have iu:aq.get h.n=some (.cells [.ptr q 0] 59 .own 0 0):=by rw[cl];exact et (by omega) fg
  have gL:aq.get q=some (lH p (n+1)):=by rw[cl];exact dF rfl
  have a1:aq.n=h.n+1:=by rw[cl];simp
  have bq:cC aq p st:=by rw[cl];exact cC.l1 (cC.zy al) hx
  have f1:Fr p q h.n h aq:=by rw[cl];exact((Fr.refl p q h.n h).push (Nat.le_refl _)).set (.inr (.inr rfl))
  obtain⟨ak,ey,bM,a9⟩:=df.Cv (M-5) p st aq bq
  rw[show M-5+5=M by omega] at ey
  have co:=df.Cs (M-1) p _ ak a9
  rw[show M-1+1=M by omega] at co
  have aW:=(bM.get h.n (by omega) (by omega)).trans iu
  have aR:=(bM.get q (by omega) (by omega)).trans gL
  have bL:=bM.n
  have f2:Fr p q h.n h ak:=f1.trans (Nat.le_refl _) ((Fr.CC bM).le (by omega))
  have NG:=qw st
  subst cl
  by_cases cp:(aI st).2.isSome=true
  · have iO:(!(aI st).2.isNone)=true:=by cases hs:(aI st).2 with|none=>rw[hs] at cp;cases cp|some _=>rfl
    rw[iO] at co
    by_cases ax:(aI st).1<=9
    · by_cases fQ:n+1<=60
      · have fw:ct 0 (j+1) (st,n)=fp (ct 0 j) (aI st).1 ((aI st).2,n+1):=by simp only[ct];rw[if_pos ⟨cp,Nat.zero_le _,ax,fQ⟩]
        rw[fw]
        have mt:Y M (.fn 25) [.bool (dq (Int.ofNat (n+1)) (Int.ofNat 60))] ak=.ret (.aL []) ak:=by
         rw[iE fQ,show M=M-1+1 by omega];exact CD _ _
        have g0:=NF (aI st).1 (by omega) ak
        obtain⟨bZ,zF⟩:∃bZ,bZ=((ak.push (ga (aI st).1 .aA .aA)).push (.cells [.bb] 47 .own 0 0)).set (ak.push (ga (aI st).1 .aA .aA)).n (some (.cells [.ptr ak.n 0] 47 .own 0 0)):=⟨_,rfl⟩
        have cW:aC.storeCells ((ak.push (ga (aI st).1 .aA .aA)).push (.cells [.bb] 47 .own 0 0)) (ak.push (ga (aI st).1 .aA .aA)).n 0 [.ptr ak.n 0]=some bZ:=by rw[zF];exact dP (eB rfl) rfl rfl
        obtain⟨b2,j4⟩:∃b2,b2=(bZ.push (.cells [.gj] 1 .own 0 0)).set bZ.n (some (.cells [.fn 74 [] [.ptr (ak.push (ga (aI st).1 .aA .aA)).n 0,.ptr h.n 0]] 1 .own 0 0)):=⟨_,rfl⟩
        have dO:aC.storeCells (bZ.push (.cells [.gj] 1 .own 0 0)) bZ.n 0 [.fn 74 [] [.ptr (ak.push (ga (aI st).1 .aA .aA)).n 0,.ptr h.n 0]]=some b2:=by rw[j4];exact dP (eB rfl) rfl rfl
        have cz:bZ.n=ak.n+2:=by rw[zF];simp
        have cV:b2.n=ak.n+3:=by rw[j4];simp;omega
        have iw:∀d,d<ak.n->bZ.get d=ak.get d:=λd aj=>by rw[zF];exact et (by simp;omega) (hj (by simp;omega) (hj aj rfl))
        have kA:∀d,d<ak.n->b2.get d=ak.get d:=λd aj=>by rw[j4];exact et (by omega) (hj (by omega) (iw d aj))
        have yO:b2.get (ak.n+1)=some (.cells [.ptr ak.n 0] 47 .own 0 0):=by rw[j4];exact et (by omega) (hj (by omega) (by rw[zF];exact dF rfl))
        have wZ:b2.get ak.n=some (ga (aI st).1 .aA .aA):=by rw[j4];exact et (by omega) (hj (by omega) (by rw[zF];exact et (by simp) (hj (by simp) (eB rfl))))
        have uP:b2.get (ak.n+2)=some (.cells [.fn 74 [] [.ptr (ak.n+1) 0,.ptr h.n 0]] 1 .own 0 0):=by rw[j4];exact dF cz.symm
        have cX:kr p q (ak.n+1) h.n (ak.n+2) ak.n (aI st).1 (ak.n+3) h .aA .aA (λ_=>False) [] (((aI st).2,n+1),([],[])) b2:=
         ⟨cC.jz a9 (by omega) λd aj=>kA d (by omega),(kA q (by omega)).trans aR,f2.trans (Nat.le_refl _) ⟨by omega,λd aj _ _=>kA d (by omega)⟩,yO,(kA h.n (by omega)).trans aW,uP,by omega,wZ,.inl ⟨rfl,rfl⟩,.inl ⟨rfl,rfl⟩,rfl,λ_ hf=>hf.elim⟩
        have cr:w2 p q (ak.n+1) h.n (ak.n+2) ak.n (ak.n+3) h.n:=by constructor<;>omega
        have NH:zC (ct 0 j):=w1 0 j
        obtain⟨q0,hg⟩:∃q0:Q,q0=((aI st).2,n+1):=⟨_,rfl⟩
        have lB:∀g,di p b2.n b2 g->cC g p (aI (aI st).2).2->lb q0 (gI q0)/\∃bk a6 F rs,kr p q (ak.n+1) h.n (ak.n+2) ak.n (aI st).1 (ak.n+3) h bk a6 F rs (gI q0) g:=λg x r=>by
         rw[hg]
         exact⟨GF _ fQ,.aA,.aA,_,[],cX.later cr r ((x.get q (by omega) (by omega)).trans cX.fi) x.n λd aj aU _=>x.get d aj aU⟩
        have qA:=GA (M-6) (σ:=Acc) (I:=λs g=>lb q0 s/\∃bk a6 F rs,kr p q (ak.n+1) h.n (ak.n+2) ak.n (aI st).1 (ak.n+3) h bk a6 F rs s g) (P:=λg=>Fr p q h.n h g) (rd:=λs=>s.1.1) (f:=fx (ct 0 j)) (fnum:=74) (p:=p) (q:=q) (caps:=[.ptr (ak.n+1) 0,.ptr h.n 0])
         (λs g hi=>by obtain⟨_,bk,a6,F,rs,w⟩:=hi;exact⟨w.rd,_,w.fi⟩) (λs g hi=>by obtain⟨_,bk,a6,F,rs,w⟩:=hi;exact w.bS)
         (λs g hi _=>by
          obtain⟨gd,bk,a6,F,rs,w⟩:=hi
          have zG:=gd
          obtain⟨aF,aG,bJ,dh⟩:=zG
          have:=pb s.2.2
          rw[hg] at aF dh
          simp only at aF dh
          have eX:=NC (CK j (M-2) (by omega)) cr w (by omega) bJ (by omega) (by omega)
          rw[show M-2+1=M-6+5 by omega] at eX
          cases ad:fx (ct 0 j) s with
          |none=>rw[ad] at eX;exact eX
          |some a2=>
           rw[ad] at eX
           obtain⟨ep,jd,eT,jA,c1,bR⟩:=eX
           obtain⟨bx,bI⟩:=CG NH gd ad
           exact⟨ep,c1,⟨bx,bk,jd,eT,jA,bR⟩,bI⟩)
         (h:=b2) (st:=(aI st).2) (s0:=gI q0) cX.rd ⟨_,cX.fi⟩ (by omega) (by rw[hg];rfl) lB
        rw[show M-6+6=M by omega] at qA
        have w9:=GA (M-6) (σ:=Acc) (I:=λs g=>lb q0 s/\∃bk a6 F rs,kr p q (ak.n+1) h.n (ak.n+2) ak.n (aI st).1 (ak.n+3) h bk a6 F rs s g) (P:=λg=>Fr p q h.n h g) (rd:=λs=>s.1.1) (f:=kq (ct 0 j)) (fnum:=75) (p:=p) (q:=q) (caps:=[.ptr (ak.n+1) 0,.ptr h.n 0,.ptr (ak.n+2) 0])
         (λs g hi=>by obtain⟨_,bk,a6,F,rs,w⟩:=hi;exact⟨w.rd,_,w.fi⟩) (λs g hi=>by obtain⟨_,bk,a6,F,rs,w⟩:=hi;exact w.bS)
         (λs g hi _=>by
          obtain⟨gd,bk,a6,F,rs,w⟩:=hi
          have zG:=gd
          obtain⟨aF,aG,bJ,dh⟩:=zG
          have:=pb s.2.2
          rw[hg] at aF dh
          simp only at aF dh
          have eX:=aat (by omega) (CK j (M-3) (by omega)) cr w (by omega) (by omega) bJ (by omega) (by omega)
          rw[show M-3+2=M-6+5 by omega] at eX
          cases ad:kq (ct 0 j) s with
          |none=>rw[ad] at eX;exact eX
          |some a2=>
           rw[ad] at eX
           obtain⟨ep,lY,jd,eT,jA,c1,bR⟩:=eX
           obtain⟨bx,bI⟩:=GD NH gd ad
           exact⟨ep,c1,⟨bx,lY,jd,eT,jA,bR⟩,bI⟩)
         (h:=b2) (st:=(aI st).2) (s0:=gI q0) cX.rd ⟨_,cX.fi⟩ (by omega) (by rw[hg];rfl) lB
        rw[show M-6+6=M by omega] at w9
        have aau:∀f:Acc->Option Acc,e0 (λs=>s.1.1.isSome) f (aI (aI st).2).1 (gI q0)=e0 g8 f (aI q0.1).1 (gI q0):=λf=>by rw[hg];rfl
        rw[aau] at qA w9
        rw[<-hg]
        by_cases dL:(aI st).1=6
        · have gi:fp (ct 0 j) (aI st).1 q0=some (.mk (aI st).1 (ch (aI st).2).1 [] [] none,((ch (aI st).2).2,n+1)):=by rw[hg];simp only[fp];rw[if_pos dL,dL]
          rw[gi]
          obtain⟨b5,ek,gB,rt⟩:=df.Cw (M-6) p (aI st).2 (b2.room 9) (cC.sU cX.rd)
          rw[show M-6+6=M by omega] at ek
          have ej:=gB.n
          simp only[aa.hh] at ej
          have jV:∀d,d<b2.n->d≠p->b5.get d=b2.get d:=λd aj aU=>gB.get d (by simp;omega) aU
          obtain⟨b1,kt⟩:∃b1,b1=b5.set ak.n (some (.cells [.int .i64 (Int.ofNat (aI st).1),.str (ch (aI st).2).1,.aA,.aA,.bb] 51 .own 0 0)):=⟨_,rfl⟩
          have ov:aC.storeCells b5 ak.n (0+1) [.str (ch (aI st).2).1]=some b1:=by rw[kt];exact dP ((jV _ (by omega) (by omega)).trans cX.c6) rfl rfl
          have k5:∀d,d≠ak.n->b1.get d=b5.get d:=λd aj=>by rw[kt];exact et aj rfl
          have fC:b1.n=b5.n:=by rw[kt];simp
          have wo:=(jV (ak.n+1) (by omega) (by omega)).trans cX.ac
          have sA:=(k5 (ak.n+1) (by omega)).trans wo
          obtain⟨eT,iP,iQ⟩:=qy (base:=ak.n+3) (H0:=h.n) (r:=ak.n) (y:=b1) (F:=λ_=>False) (G:=λ_=>False) (rs:=[]) (ns:=[]) (xs:=[]) (ot:=none) (by rw[kt];exact dF rfl) (.inl ⟨rfl,rfl⟩) (.inl ⟨rfl,rfl⟩) rfl rfl (by omega) (by omega) (λ_ hf=>hf.elim) (λ_ hf=>hf.elim)
          have res:nN p q h (some (.mk (aI st).1 (ch (aI st).2).1 [] [] none,((ch (aI st).2).2,n+1))) (.ret (.ptr ak.n 0) b1):=⟨ak.n,b1,eT,rfl,cX.bS.trans (Nat.le_refl _) ⟨by omega,λd aj aU aS=>(k5 d (by omega)).trans (jV d (by omega) aU)⟩,by rw[kt];exact cC.l1 rt (by omega),(k5 q (by omega)).trans ((jV q (by omega) (by omega)).trans cX.fi),iP,iQ⟩
          exact rr M q h ⟨_,ar fg rfl,n,ar jk rfl,(by omega),_,dP jk rfl rfl,_,ar iu rfl,p,ar gL rfl,(aI st).1,ak,ey,_,ar aW rfl,_,ar aR rfl,_,ak,co,rfl,ax,_,ar aW rfl,n+1,ar aR rfl,ak,mt,(aI st).1,g0,bZ,cW,b2,dO,ak.n,ar cX.ac rfl,(aI st).1,ar cX.c6 rfl,λ_=>⟨ak.n,ar (eH cX.ac) rfl,_,ar (eH cX.ji) rfl,_,ar (eH cX.fi) rfl,_,b5,ek,b1,ov,ar wo rfl,ak.n,ar sA rfl,res⟩,λh=>absurd dL h⟩
        by_cases dz:(aI st).1=7
        · cases ad:e0 g8 (kq (ct 0 j)) (aI q0.1).1 (gI q0) with
          |none=>
           have gi:fp (ct 0 j) (aI st).1 q0=none:=by simp only[fp];rw[if_neg dL,if_pos dz,ad];rfl
           rw[gi]
           rw[ad] at w9
           obtain⟨b5,ho,f7⟩:=w9
           exact rr M q h (R:=nN p q h none) ⟨_,ar fg rfl,n,ar jk rfl,(by omega),_,dP jk rfl rfl,_,ar iu rfl,p,ar gL rfl,(aI st).1,ak,ey,_,ar aW rfl,_,ar aR rfl,_,ak,co,rfl,ax,_,ar aW rfl,n+1,ar aR rfl,ak,mt,(aI st).1,g0,bZ,cW,b2,dO,ak.n,ar cX.ac rfl,(aI st).1,ar cX.c6 rfl,λh=>absurd h dL,λ_=>⟨λ_=>⟨_,ar cX.ji rfl,.inr ⟨fI,b5,(by rw[cz];exact ho),b5,rfl,f7⟩⟩,λh=>absurd dz h⟩⟩
          |some s=>
           rw[ad] at w9
           obtain⟨⟨kY,iV⟩,ns,xs⟩:=s
           obtain⟨b5,ho,gd,bk,a6,F,rs,w⟩:=w9
           have gi:fp (ct 0 j) (aI st).1 q0=some (.mk (aI st).1 [] ns xs none,(kY,iV)):=by simp only[fp];rw[if_neg dL,if_pos dz,ad,dz];rfl
           rw[gi]
           obtain⟨eT,iP,iQ⟩:=qy (H0:=h.n) (G:=λ_=>False) (ot:=none) w.c6 w.jj w.fY w.c7 rfl (by omega) (by have:=w.bs;omega) (λd aj=>by have:=w.fh d aj;omega) (λ_ hf=>hf.elim)
           exact rr M q h (R:=nN p q h (some (.mk (aI st).1 [] ns xs none,(kY,iV)))) ⟨_,ar fg rfl,n,ar jk rfl,(by omega),_,dP jk rfl rfl,_,ar iu rfl,p,ar gL rfl,(aI st).1,ak,ey,_,ar aW rfl,_,ar aR rfl,_,ak,co,rfl,ax,_,ar aW rfl,n+1,ar aR rfl,ak,mt,(aI st).1,g0,bZ,cW,b2,dO,ak.n,ar cX.ac rfl,(aI st).1,ar cX.c6 rfl,λh=>absurd h dL,λ_=>⟨λ_=>⟨_,ar cX.ji rfl,.inl ⟨b5,(by rw[cz];exact ho),ak.n,ar w.ac rfl,ak.n,b5,eT,rfl,w.bS,w.rd,w.fi,iP,iQ⟩⟩,λh=>absurd dz h⟩⟩
        have zH:av b2 bZ.n 0=some (.fn 74 [] [.ptr (ak.n+1) 0,.ptr h.n 0]):=by rw[cz];exact ar cX.eX rfl
        have nil:∀s,e0 g8 (fx (ct 0 j)) (aI q0.1).1 (gI q0)=some s->s.2.1=[]:=λs hs=>rq (λs:Acc=>s.2.1=[]) (λs a2 ab ae=>by
         unfold fx at ae
         cases ad:ct 0 j s.1 with
         |none=>rw[ad] at ae;cases ae
         |some x=>rw[ad] at ae;cases ae;exact ab) _ _ _ (by rw[hg];rfl) hs
        by_cases dX:(aI st).1=8
        · cases ad:e0 g8 (fx (ct 0 j)) (aI q0.1).1 (gI q0) with
          |none=>
           have gi:fp (ct 0 j) (aI st).1 q0=none:=by simp only[fp];rw[if_neg dL,if_neg dz,if_pos dX,ad];rfl
           rw[gi]
           rw[ad] at qA
           obtain⟨b5,ho,f7⟩:=qA
           exact rr M q h (R:=nN p q h none) ⟨_,ar fg rfl,n,ar jk rfl,(by omega),_,dP jk rfl rfl,_,ar iu rfl,p,ar gL rfl,(aI st).1,ak,ey,_,ar aW rfl,_,ar aR rfl,_,ak,co,rfl,ax,_,ar aW rfl,n+1,ar aR rfl,ak,mt,(aI st).1,g0,bZ,cW,b2,dO,ak.n,ar cX.ac rfl,(aI st).1,ar cX.c6 rfl,λh=>absurd h dL,λ_=>⟨λh=>absurd h dz,λ_=>⟨λ_=>⟨_,ar cX.ji rfl,_,zH,.inr ⟨fI,b5,ho,b5,rfl,f7⟩⟩,λh=>absurd dX h⟩⟩⟩
          |some s=>
           rw[ad] at qA
           obtain⟨⟨kY,iV⟩,ns,xs⟩:=s
           obtain rfl:ns=[]:=nil _ ad
           obtain⟨b5,ho,gd,bk,a6,F,rs,w⟩:=qA
           obtain⟨d1,d2,d3,d4⟩:=gd
           rw[hg] at d1 d4
           simp only at d1 d3 d4
           have mc:=w.bs
           have ek:=CK j M (by omega) p q (b5.room 6) kY iV hx (by simp;omega) (cC.sU w.rd) w.fi d3 (by omega) (by omega)
           cases bu:ct 0 j (kY,iV) with
           |none=>
            have gi:fp (ct 0 j) (aI st).1 q0=none:=by simp only[fp];rw[if_neg dL,if_neg dz,if_pos dX,ad];simp only[Option.bind_some,bu];rfl
            rw[gi]
            rw[bu] at ek
            obtain⟨b1,kP,f8⟩:=ek
            exact rr M q h (R:=nN p q h none) ⟨_,ar fg rfl,n,ar jk rfl,(by omega),_,dP jk rfl rfl,_,ar iu rfl,p,ar gL rfl,(aI st).1,ak,ey,_,ar aW rfl,_,ar aR rfl,_,ak,co,rfl,ax,_,ar aW rfl,n+1,ar aR rfl,ak,mt,(aI st).1,g0,bZ,cW,b2,dO,ak.n,ar cX.ac rfl,(aI st).1,ar cX.c6 rfl,λh=>absurd h dL,λ_=>⟨λh=>absurd h dz,λ_=>⟨λ_=>⟨_,ar cX.ji rfl,_,zH,.inl ⟨b5,ho,ak.n,ar (eH w.ac) rfl,_,ar (eH w.ji) rfl,.inr ⟨fI,b1,kP,b1,rfl,w.bS.trans w.bS.n ⟨by have:=f8.n;simp at this;omega,λd aj aU aS=>f8.get d (by simp;omega) aU aS⟩⟩⟩⟩,λh=>absurd dX h⟩⟩⟩
           |some y=>
            obtain⟨t,CL,CM⟩:=y
            have gi:fp (ct 0 j) (aI st).1 q0=some (.mk (aI st).1 [] [] xs (some t),(CL,CM)):=by simp only[fp];rw[if_neg dL,if_neg dz,if_pos dX,ad];simp only[Option.bind_some,bu,dX];rfl
            rw[gi]
            rw[bu] at ek
            obtain⟨u,b1,G,kP,f8,pq,m3,t8,eS⟩:=ek
            have fC:=f8.n
            simp only[aa.hh] at fC eS
            have k5:∀d,d<b5.n->d≠p->d≠q->b1.get d=b5.get d:=λd aj aU aS=>f8.get d (by simp;omega) aU aS
            obtain⟨dk,lI⟩:∃dk,dk=b1.set ak.n (some (.cells [.int .i64 (Int.ofNat (aI st).1),.str [],bk,a6,.ptr u 0] 51 .own 0 0)):=⟨_,rfl⟩
            have tB:eP (0+4) [.ptr u 0] [.int .i64 (Int.ofNat (aI st).1),.str [],bk,a6,.bb]=some [.int .i64 (Int.ofNat (aI st).1),.str [],bk,a6,.ptr u 0]:=rfl
            have lJ:aC.storeCells b1 ak.n (0+4) [.ptr u 0]=some dk:=by rw[lI];exact dP ((k5 _ (by omega) (by omega) (by omega)).trans w.c6) rfl tB
            have g5:∀d,d≠ak.n->dk.get d=b1.get d:=λd aj=>by rw[lI];exact et aj rfl
            have fZ:dk.n=b1.n:=by rw[lI];simp
            have sA:=(k5 (ak.n+1) (by omega) (by omega) (by omega)).trans w.ac
            have yP:=(g5 (ak.n+1) (by omega)).trans sA
            have bN:∀d,ak.n+3<=d->d<b5.n->dk.get d=b5.get d:=λd aj aD=>(g5 d (by omega)).trans (k5 d aD (by omega) (by omega))
            obtain⟨eT,iP,iQ⟩:=qy (base:=ak.n+3) (H0:=h.n) (r:=ak.n) (y:=dk) (F:=F) (G:=G) (ot:=some t) (by rw[lI];exact dF rfl) (fj.oz w.jj (by omega) bN) (fj.oz w.fY (by omega) bN) (gu.b0 (λd aj=>⟨aj,bN d (w.fh d aj).1 (w.fh d aj).2.1⟩) _ _ w.c7) (gM.b0 (λd aj=>⟨aj,g5 d (by have:=eS d aj;omega)⟩) _ _ t8) (by omega) (by omega) (λd aj=>by have:=w.fh d aj;omega) (λd aj=>by have:=eS d aj;omega)
            have aav:Fr p q h.n h dk:=w.bS.trans (Nat.le_refl _) ⟨by omega,λd aj aU aS=>(g5 d (by omega)).trans (k5 d (by omega) aU aS)⟩
            exact rr M q h (R:=nN p q h (some (.mk (aI st).1 [] [] xs (some t),(CL,CM)))) ⟨_,ar fg rfl,n,ar jk rfl,(by omega),_,dP jk rfl rfl,_,ar iu rfl,p,ar gL rfl,(aI st).1,ak,ey,_,ar aW rfl,_,ar aR rfl,_,ak,co,rfl,ax,_,ar aW rfl,n+1,ar aR rfl,ak,mt,(aI st).1,g0,bZ,cW,b2,dO,ak.n,ar cX.ac rfl,(aI st).1,ar cX.c6 rfl,λh=>absurd h dL,λ_=>⟨λh=>absurd h dz,λ_=>⟨λ_=>⟨_,ar cX.ji rfl,_,zH,.inl ⟨b5,ho,ak.n,ar (eH w.ac) rfl,_,ar (eH w.ji) rfl,.inl ⟨u,b1,kP,dk,lJ,ar sA rfl,ak.n,ar yP rfl,ak.n,dk,eT,rfl,aav,by rw[lI];exact cC.l1 pq (by omega),(g5 q (by omega)).trans m3,iP,iQ⟩⟩⟩,λh=>absurd dX h⟩⟩⟩
        by_cases fb:(aI st).1=9
        · cases ad:e0 g8 (fx (ct 0 j)) (aI q0.1).1 (gI q0) with
          |none=>
           have gi:fp (ct 0 j) (aI st).1 q0=none:=by simp only[fp];rw[if_neg dL,if_neg dz,if_neg dX,if_pos fb,ad];rfl
           rw[gi]
           rw[ad] at qA
           obtain⟨b5,ho,f7⟩:=qA
           exact rr M q h (R:=nN p q h none) ⟨_,ar fg rfl,n,ar jk rfl,(by omega),_,dP jk rfl rfl,_,ar iu rfl,p,ar gL rfl,(aI st).1,ak,ey,_,ar aW rfl,_,ar aR rfl,_,ak,co,rfl,ax,_,ar aW rfl,n+1,ar aR rfl,ak,mt,(aI st).1,g0,bZ,cW,b2,dO,ak.n,ar cX.ac rfl,(aI st).1,ar cX.c6 rfl,λh=>absurd h dL,λ_=>⟨λh=>absurd h dz,λ_=>⟨λh=>absurd h dX,λ_=>⟨λ_=>⟨_,ar cX.ji rfl,_,zH,.inr ⟨fI,b5,ho,b5,rfl,f7⟩⟩,λh=>absurd fb h⟩⟩⟩⟩
          |some s=>
           rw[ad] at qA
           obtain⟨⟨kY,iV⟩,ns,xs⟩:=s
           obtain rfl:ns=[]:=nil _ ad
           obtain⟨b5,ho,gd,bk,a6,F,rs,w⟩:=qA
           have gi:fp (ct 0 j) (aI st).1 q0=some (.mk (aI st).1 [] [] xs none,(kY,iV)):=by simp only[fp];rw[if_neg dL,if_neg dz,if_neg dX,if_pos fb,ad,fb];rfl
           rw[gi]
           obtain⟨eT,iP,iQ⟩:=qy (H0:=h.n) (G:=λ_=>False) (ot:=none) w.c6 w.jj w.fY w.c7 rfl (by omega) (by have:=w.bs;omega) (λd aj=>by have:=w.fh d aj;omega) (λ_ hf=>hf.elim)
           exact rr M q h (R:=nN p q h (some (.mk (aI st).1 [] [] xs none,(kY,iV)))) ⟨_,ar fg rfl,n,ar jk rfl,(by omega),_,dP jk rfl rfl,_,ar iu rfl,p,ar gL rfl,(aI st).1,ak,ey,_,ar aW rfl,_,ar aR rfl,_,ak,co,rfl,ax,_,ar aW rfl,n+1,ar aR rfl,ak,mt,(aI st).1,g0,bZ,cW,b2,dO,ak.n,ar cX.ac rfl,(aI st).1,ar cX.c6 rfl,λh=>absurd h dL,λ_=>⟨λh=>absurd h dz,λ_=>⟨λh=>absurd h dX,λ_=>⟨λ_=>⟨_,ar cX.ji rfl,_,zH,.inl ⟨b5,ho,ak.n,ar w.ac rfl,ak.n,b5,eT,rfl,w.bS,w.rd,w.fi,iP,iQ⟩⟩,λh=>absurd fb h⟩⟩⟩⟩
        have gi:fp (ct 0 j) (aI st).1 q0=some (.mk (aI st).1 [] [] [] none,((aI st).2,n+1)):=by simp only[fp];rw[if_neg dL,if_neg dz,if_neg dX,if_neg fb,hg]
        rw[gi]
        obtain⟨eT,iP,iQ⟩:=qy (H0:=h.n) (G:=λ_=>False) (ot:=none) cX.c6 cX.jj cX.fY cX.c7 rfl (by omega) (by omega) (λd aj=>aj.elim) (λ_ hf=>hf.elim)
        exact rr M q h (R:=nN p q h (some (.mk (aI st).1 [] [] [] none,((aI st).2,n+1)))) ⟨_,ar fg rfl,n,ar jk rfl,(by omega),_,dP jk rfl rfl,_,ar iu rfl,p,ar gL rfl,(aI st).1,ak,ey,_,ar aW rfl,_,ar aR rfl,_,ak,co,rfl,ax,_,ar aW rfl,n+1,ar aR rfl,ak,mt,(aI st).1,g0,bZ,cW,b2,dO,ak.n,ar cX.ac rfl,(aI st).1,ar cX.c6 rfl,λh=>absurd h dL,λ_=>⟨λh=>absurd h dz,λ_=>⟨λh=>absurd h dX,λ_=>⟨λh=>absurd h fb,λ_=>⟨ak.n,ar cX.ac rfl,ak.n,b2,eT,rfl,cX.bS,cX.rd,cX.fi,iP,iQ⟩⟩⟩⟩⟩
      · have fw:ct 0 (j+1) (st,n)=none:=by simp only[ct];rw[if_neg (λah=>fQ ah.2.2.2)]
        rw[fw]
        refine GJ M q h (R:=nN p q h none) ⟨_,ar fg rfl,n,ar jk rfl,(by omega),_,dP jk rfl rfl,_,ar iu rfl,p,ar gL rfl,(aI st).1,ak,ey,_,ar aW rfl,_,ar aR rfl,_,ak,co,λ_=>⟨λ_=>⟨_,ar aW rfl,n+1,ar aR rfl,fI,ak,?_,ak,rfl,f2⟩,λah=>absurd ax ah⟩,λah=>(by cases ah)⟩
        rw[iF fQ,show M=M-1+1 by omega];exact zz _ _
    · have fw:ct 0 (j+1) (st,n)=none:=by simp only[ct];rw[if_neg (λah=>ax ah.2.2.1)]
      rw[fw]
      refine GJ M q h (R:=nN p q h none) ⟨_,ar fg rfl,n,ar jk rfl,(by omega),_,dP jk rfl rfl,_,ar iu rfl,p,ar gL rfl,(aI st).1,ak,ey,_,ar aW rfl,_,ar aR rfl,_,ak,co,λ_=>⟨λah=>absurd ah ax,λ_=>⟨fI,ak,?_,ak,rfl,f2⟩⟩,λah=>(by cases ah)⟩
      rw[show M=M-1+1 by omega];exact zz _ _
  · have iO:(!(aI st).2.isNone)=false:=by cases hs:(aI st).2 with|none=>rfl|some _=>rw[hs] at cp;exact absurd rfl cp
    rw[iO] at co
    have fw:ct 0 (j+1) (st,n)=none:=by simp only[ct];rw[if_neg (λah=>cp ah.1)]
    rw[fw]
    refine GJ M q h (R:=nN p q h none) ⟨_,ar fg rfl,n,ar jk rfl,(by omega),_,dP jk rfl rfl,_,ar iu rfl,p,ar gL rfl,(aI st).1,ak,ey,_,ar aW rfl,_,ar aR rfl,_,ak,co,λah=>(by cases ah),λ_=>⟨fI,ak,?_,ak,rfl,f2⟩⟩
    rw[show M=M-1+1 by omega];exact zz _ _
end Go.Proofs.ew
namespace Go.Proofs.ew
open Go aC Go.Proofs dD Go.Proofs.cT
open Go.Proofs.df (hN cC mu)
open Go.Proofs.eN (e5 cf aI ch fm)
set_option maxRecDepth 100000
set_option maxHeartbeats 1000000
abbrev CN(d:bc×Nat):List J:=[.str d.1,.ptr d.2 0]
theorem zI:v5 Tryz.prog CN 2 53 22 where
 hu:=by kernel_rfl
 hE:=by kernel_rfl
 info:=by
  obtain⟨i,hi⟩:=Option.isSome_iff_exists.1 (show(Tryz.prog.info? 53).isSome=true by kernel_rfl)
  refine⟨i,hi,?_,?_⟩
  · have:(Tryz.prog.info? 53).map (·.size)=some 2:=by kernel_rfl
    rw[hi] at this;simpa using this
  · have:(Tryz.prog.info? 53).map (λi=>Nat.ble i.bytes 1000)=some true:=by kernel_rfl
    rw[hi] at this
    exact Nat.le_of_ble_eq_true (by simpa using this)
 zero:=⟨.agg [.str [],.bb],by kernel_rfl,rfl⟩
 size:=by kernel_rfl
 len:=λ_=>rfl
 cell:=λ_=>rfl
 pos:=by decide
def kQ(f:Q->Option (a_×Q))(x:cf×List eD):Option (cf×List eD):=(f ((ch x.1).2,0)).map λr=>(r.2.1,x.2++[((ch x.1).1,some r.1)])
def g9(lo:Nat)(st:cf):Option (cf×List eD):=e0 (λs=>s.1.isSome) (kQ (ct lo 61)) (aI st).1 ((aI st).2,[])
def hO(F:Nat->Prop)(h:aa):List eD->List (bc×Nat)->Prop
 |[],bd=>bd=[]
 |e::l,bd=>∃d es,bd=d::es/\e.1=d.1/\j2 F h e.2 (.ptr d.2 0)/\hO F h l es
theorem hO.b0{F G:Nat->Prop}{h g:aa}(e:∀b,F b->G b/\g.get b=h.get b):∀{l:List eD} {bd:List (bc×Nat)},hO F h l bd->hO G g l bd
 |[],bd,ad=>ad
 |x::l,bd,ad=>by
  obtain⟨d,es,ab,ae,aB,aP⟩:=ad
  exact⟨d,es,ab,ae,j2.b0 e _ _ aB,hO.b0 e aP⟩
theorem hO.snoc{F:Nat->Prop}{h:aa}{e:eD}{d:bc×Nat}(ab:e.1=d.1)(ae:j2 F h e.2 (.ptr d.2 0)):∀{l:List eD} {bd:List (bc×Nat)},hO F h l bd->hO F h (l++[e]) (bd++[d])
 |[],bd,ad=>by
  have e:bd=[]:=ad
  subst e
  exact⟨d,[],rfl,ab,ae,rfl⟩
 |x::l,bd,ad=>by
  obtain⟨bO,es,rfl,bI,cP,dK⟩:=ad
  exact⟨bO,es++[d],rfl,bI,cP,hO.snoc ab ae dK⟩
theorem hO.len{F:Nat->Prop}{h:aa}:∀{l:List eD} {bd:List (bc×Nat)},hO F h l bd->bd.length=l.length
 |[],bd,ad=>by
  have e:bd=[]:=ad
  subst e;rfl
 |x::l,bd,ad=>by
  obtain⟨bO,es,rfl,bI,cP,dK⟩:=ad
  simp[hO.len dK]
theorem hO.nth{F:Nat->Prop}{h:aa}:∀{l:List eD} {bd:List (bc×Nat)},hO F h l bd->∀i (ab:i<l.length) (ae:i<bd.length),l[i].1=bd[i].1/\j2 F h l[i].2 (.ptr bd[i].2 0)
 |[],bd,ad,i,ab,_=>by simp at ab
 |x::l,bd,ad,i,ab,ae=>by
  obtain⟨bO,es,rfl,bI,cP,dK⟩:=ad
  cases i with
  |zero=>exact⟨bI,cP⟩
  |succ i=>exact hO.nth dK i (by simpa using ab) (by simpa using ae)
def l4(F:Nat->Prop)(h:aa)(v:J)(l:List eD):Prop:=(v=.aA/\l=[])\/∃b off aH,v=.slice b off l.length aH/\F b/\(∀i (hi:i<l.length),∃w,aC.loadCells h b (off+i*2) 2=some [.str l[i].1,w]/\j2 F h l[i].2 w)/\0<l.length/\aH≠ .dead
theorem l4.b0{F G:Nat->Prop}{h g:aa}{v:J}{l:List eD}(e:∀b,F b->G b/\g.get b=h.get b)(al:l4 F h v l):l4 G g v l:=by
 rcases al with al|⟨b,off,aH,ab,ae,aP,cg⟩
 · exact .inl al
 · refine .inr ⟨b,off,aH,ab,(e b ae).1,λi hi=>?_,cg⟩
   obtain⟨w,bR,b3⟩:=aP i hi
   refine⟨w,?_,j2.b0 e _ _ b3⟩
   rw[<-bR]
   unfold aC.loadCells
   rw[(e b ae).2]
theorem l4.at{F:Nat->Prop}{B:Nat}{h:aa}{v:J}{l:List eD}(e:∀b,F b->b<B)(al:l4 F h v l):lG B h v l:=by
 rcases al with al|⟨b,off,aH,ab,ae,aP,cg⟩
 · exact .inl al
 · refine .inr ⟨b,off,aH,ab,e b ae,λi hi=>?_,cg⟩
   obtain⟨w,bR,b3⟩:=aP i hi
   exact⟨w,bR,j2.at e _ _ b3⟩
theorem l4.cell{F:Nat->Prop}{h:aa}{v:J}{l:List eD}(al:l4 F h v l):v.cu=true:=by rcases al with⟨rfl,_⟩|⟨b,off,aH,rfl,_⟩<;>rfl
structure qB(p q a b base:Nat)(az:aa)(v:J)(F:Nat->Prop)(bd:List (bc×Nat))(s:cf×List eD)(h:aa):Prop where
 rd:cC h p s.1
 fi:∃n,h.get q=some (lH p n)
 bS:Fr p q az.n az h
 ac:h.get a=some (.cells [.ptr q 0] 59 .own 0 0)
 ji:h.get b=some (.cells [v] 22 .own 0 0)
 bs:base<=h.n
 rw:fj CN 2 53 base h v bd
 es:hO F h s.2 bd
 fh:∀d,F d->base<=d/\d<h.n/\(∀n aH,v≠ .slice d 0 n aH)
theorem qB.later{p q a b base:Nat}{az h g:aa}{v:J}{F:Nat->Prop}{bd:List (bc×Nat)}{s:cf×List eD}(hx:p<q)(hg:q<az.n)(bl:az.n<=a/\a<base)(ag:az.n<=b/\b<base)(w:qB p q a b base az v F bd s h){st:cf}(al:cC g p st)(aS:∃n,g.get q=some (lH p n))(aM:h.n<=g.n)(ax:∀d,d<h.n->d≠p->d≠q->g.get d=h.get d):qB p q a b base az v F bd (st,s.2) g:=by
 have b4:=w.bs
 have jo:∀d,base<=d->d<h.n->g.get d=h.get d:=λd aj aD=>ax d aD (by omega) (by omega)
 exact⟨al,aS,w.bS.trans w.bS.n ⟨aM,λd aj aU aS=>ax d aj aU aS⟩,(ax a (by omega) (by omega) (by omega)).trans w.ac,(ax b (by omega) (by omega) (by omega)).trans w.ji,by omega,fj.oz w.rw aM jo,hO.b0 (λd aj=>⟨aj,jo d (w.fh d aj).1 (w.fh d aj).2.1⟩) w.es,λd aj=>by obtain⟨bx,bI,cP⟩:=w.fh d aj;exact⟨bx,by omega,cP⟩⟩
theorem qB.add{p q a b base:Nat}{az h:aa}{v:J}{F:Nat->Prop}{bd:List (bc×Nat)}{s:cf×List eD}(hx:p<q)(hg:q<az.n)(bl:az.n<=a/\a<base)(ag:az.n<=b/\b<base)(oV:a≠b)(w:qB p q a b base az v F bd s h){x:bc}{t:a_}{u:Nat}{G:Nat->Prop}{src:J}(bh:gM G h t (.ptr u 0))(eS:∀d,G d->base<=d/\d<h.n/\(∀n aH,v≠ .slice d 0 n aH))(hs:ha h 2 src=some (1,[.str x,.ptr u 0]))(aD:s.2.length<=900000):
  ∃g v',v'=.slice h.n 0 (bd++[(x,u)]).length (.a5 2)/\gf Tryz.prog h 22 (some 22) v src=some (v',g)/\g.get b=some (.cells [v] 22 .own 0 0)/\qB p q a b base az v' (λd=>F d\/G d) (bd++[(x,u)]) (s.1,s.2++[(x,some t)]) (g.set b (some (.cells [v'] 22 .own 0 0))):=by
 have hlen:=hO.len w.es
 obtain⟨g,e,aq,eQ,ks,jy⟩:=sV zI (d:=(x,u)) w.rw w.bs hs (by omega)
 have b4:=w.bs
 have lw:∀d,d<base->g.get d=h.get d:=λd aj=>ks.get d aj
 have dJ:∀d,d≠b->(g.set b (some (.cells [.slice h.n 0 (bd++[(x,u)]).length (.a5 2)] 22 .own 0 0))).get d=g.get d:=λd aj=>by rw[aa.bV,if_neg aj]
 obtain⟨l2,gL⟩:=w.fi
 refine⟨g,_,rfl,e,(lw b ag.2).trans w.ji,?_⟩
 refine⟨cC.jz w.rd (by simp;omega) λd aj=>(dJ d (by omega)).trans (lw d (by omega)),⟨l2,(dJ q (by omega)).trans ((lw q (by omega)).trans gL)⟩,w.bS.trans (Nat.le_refl _) ⟨by simp;omega,λd aj _ _=>(dJ d (by omega)).trans (lw d (by omega))⟩,(dJ a oV).trans ((lw a bl.2).trans w.ac),dF rfl,by simp;omega,?_,?_,?_⟩
 · exact .inr ⟨h.n,rfl,by simp,(dJ h.n (by omega)).trans aq,b4,by simp;omega⟩
 · have aG:j2 (λd=>F d\/G d) (g.set b (some (.cells [.slice h.n 0 (bd++[(x,u)]).length (.a5 2)] 22 .own 0 0))) (some t) (.ptr u 0):=gM.b0 (λd aj=>⟨.inr aj,by
     obtain⟨bx,bI,cP⟩:=eS d aj
     exact(dJ d (by omega)).trans (jy d bI cP)⟩) _ _ bh
   exact hO.snoc (e:=(x,some t)) (d:=(x,u)) rfl aG (hO.b0 (λd aj=>⟨.inl aj,by
    obtain⟨bx,bI,cP⟩:=w.fh d aj
    exact(dJ d (by omega)).trans (jy d bI cP)⟩) w.es)
 · intro d aj
   have key:base<=d/\d<h.n/\(∀n aH,v≠ .slice d 0 n aH):=by
    rcases aj with aj|aj
    · exact w.fh d aj
    · exact eS d aj
   obtain⟨bx,bI,cP⟩:=key
   refine⟨bx,by simp;omega,λn aH e=>?_⟩
   injection e with aF
   omega
end Go.Proofs.ew
namespace Go.Proofs.ew
open Go aC Go.Proofs dD Go.Proofs.cT
open Go.Proofs.df (hN cC mu)
open Go.Proofs.eN (e5 cf aI ch fm)
set_option maxRecDepth 100000
set_option maxHeartbeats 1000000
theorem aaw{m:Nat}(hm:270<=m){p q a b base:Nat}{az h:aa}{v:J}{F:Nat->Prop}{bd:List (bc×Nat)}{s:cf×List eD}(hx:p<q)(hg:q<az.n)(bl:az.n<=a/\a<base)(ag:az.n<=b/\b<base)(oV:a≠b)(w:qB p q a b base az v F bd s h)(aD:s.2.length<=900000)(mv:dg s.1<90000):
  match kQ (ct 0 61) s with
  |none=>∃g,Y (m+1) (.fn 54) [.ptr a 0,.ptr b 0] h=.bp fI g/\Fr p q az.n az g
  |some a2=>∃g v' eT nf,Y (m+1) (.fn 54) [.ptr a 0,.ptr b 0] h=.ret (.aL []) g/\qB p q a b base az v' eT nf a2 g:=by
 have b4:=w.bs
 obtain⟨l2,gL⟩:=w.fi
 have snd:J.sound v=true:=fj.sound w.rw
 obtain⟨aq,cl⟩:∃aq,aq=h.set q (some (lH p 0)):=⟨_,rfl⟩
 have s1:aC.storeCells h q (0+1) [.int .i64 (Int.ofNat 0)]=some aq:=by rw[cl];exact dP gL rfl rfl
 have aY:aq.get q=some (lH p 0):=by rw[cl];exact dF rfl
 have a1:aq.n=h.n:=by rw[cl];simp
 have dH:∀d,d≠q->aq.get d=h.get d:=λd aj=>by rw[cl];exact et aj rfl
 have dG:=(dH a (by omega)).trans w.ac
 have a8:=(dH b (by omega)).trans w.ji
 obtain⟨g,ek,gB,rt⟩:=df.Cw (m-6) p s.1 aq (by rw[cl];exact cC.l1 w.rd hx)
 rw[show m-6+6=m by omega] at ek
 have bL:=gB.n
 have eJ:=(gB.get a (by omega) (by omega)).trans dG
 have aW:=(gB.get b (by omega) (by omega)).trans a8
 have aR:=(gB.get q (by omega) (by omega)).trans aY
 have GI:=rp s.1
 have eX:=CK 61 m (by omega) p q (g.room 8) (ch s.1).2 0 hx (by simp;omega) (cC.sU rt) aR (by omega) (by omega) (by omega)
 have dR:∀d,d<h.n->d≠p->d≠q->g.get d=h.get d:=λd aj aU aS=>(gB.get d (by omega) aU).trans (dH d aS)
 unfold kQ
 cases ad:ct 0 61 ((ch s.1).2,0) with
 |none=>
  rw[ad] at eX
  obtain⟨ak,e,f⟩:=eX
  refine⟨ak,Nr m a b h (R:=λx=>x=.bp fI ak) ⟨q,ar w.ac rfl,aq,s1,q,ar dG rfl,p,ar aY rfl,_,g,ek,v,ar (eH aW) rfl,q,ar (eH eJ) rfl,.inr ⟨fI,ak,e,snd,rfl⟩⟩,?_⟩
  exact w.bS.trans w.bS.n ⟨by have:=f.n;simp at this;omega,λd hq aU aS=>(f.get d (by simp;omega) aU aS).trans (dR d hq aU aS)⟩
 |some x=>
  obtain⟨t,st,n⟩:=x
  rw[ad] at eX
  obtain⟨u,ak,G,e,f,h1,bW,u4,eS⟩:=eX
  have fn:=f.n
  simp only[aa.hh] at fn eS
  obtain⟨aQ,gQ⟩:∃aQ,aQ=ak.set (g.n+5) (some (.cells [.str (ch s.1).1,.ptr u 0] 53 .own 0 0)):=⟨_,rfl⟩
  have dJ:∀d,d≠g.n+5->aQ.get d=ak.get d:=λd aj=>by rw[gQ,aa.bV,if_neg aj]
  have bR:=w.later hx hg bl ag (g:=aQ) (st:=st) (by rw[gQ];exact cC.l1 h1 (by omega)) ⟨n,(dJ q (by omega)).trans bW⟩ (by rw[gQ];simp;omega) λd hq aU aS=>(dJ d (by omega)).trans ((f.get d (by simp;omega) aU aS).trans (dR d hq aU aS))
  have u5:gM G aQ t (.ptr u 0):=gM.b0 (λd aj=>⟨aj,dJ d (by have:=eS d aj;omega)⟩) _ _ u4
  have cm:aQ.n=ak.n:=by rw[gQ];simp
  obtain⟨a3,v',rfl,fs,iu,jU⟩:=bR.add hx hg bl ag oV (x:=(ch s.1).1) u5 (src:=.slice (g.n+5) 0 1 (.exact 1)) (λd hq=>⟨by have:=eS d hq;omega,by have:=eS d hq;omega,fj.low w.rw (.inr (by have:=eS d hq;omega))⟩) (by
   have:aC.loadCells aQ (g.n+5) 0 (1*2)=some [.str (ch s.1).1,.ptr u 0]:=by rw[gQ];exact ie (dF rfl) rfl
   simp only[ha,this]) aD
  have mc:=bR.ji
  subst gQ
  exact⟨_,_,_,_,Nr m a b h (R:=λx=>x=.ret (.aL []) _) ⟨q,ar w.ac rfl,aq,s1,q,ar dG rfl,p,ar aY rfl,_,g,ek,v,ar (eH aW) rfl,q,ar (eH eJ) rfl,.inl ⟨u,ak,e,_,_,a3,fs,_,dP iu rfl rfl,snd,ar mc rfl,rfl⟩⟩,jU⟩
def sY(N:Nat)(s:cf×List eD):Prop:=dg s.1+s.2.length<=N/\∀e∈s.2,∃t,e.2=some t/\sz t<=60/\iH t<=60
theorem GK{lo j N:Nat}{s a2:cf×List eD}(h:sY N s)(e:kQ (ct lo j) s=some a2):sY N a2/\dg a2.1<dg s.1:=by
 unfold kQ at e
 cases ad:ct lo j ((ch s.1).2,0) with
 |none=>rw[ad] at e;cases e
 |some x=>
  obtain⟨t,st,n⟩:=x
  rw[ad] at e
  obtain rfl:(st,s.2++[((ch s.1).1,some t)])=a2:=by simpa using e
  obtain⟨bx,bI,cP,dK⟩:=w1 lo j _ _ _ ad
  simp only at bx cP dK
  have:=rp s.1
  obtain⟨ab,ae⟩:=h
  refine⟨⟨?_,λe he=>?_⟩,by show dg st<_;omega⟩
  · show dg st+(s.2++[_]).length<=N
    rw[List.length_append];show dg st+(_+1)<=N;omega
  · rcases List.mem_append.1 he with he|he
    · exact ae e he
    · obtain rfl:e=((ch s.1).1,some t):=by simpa using he
      exact⟨t,rfl,by omega,by omega⟩
theorem NI{m:Nat}(hm:280<=m){p q:Nat}{h:aa}{st:cf}(hx:p<q)(aS:q<h.n)(al:cC h p st)(j3:∃n,h.get q=some (lH p n))(mv:dg st<90000):
  match g9 0 st with
  |none=>∃g,Y (m+1) (.fn 27) [.ptr q 0] h=.bp fI g/\Fr p q h.n h g
  |some (b_,l)=>∃v g F,Y (m+1) (.fn 27) [.ptr q 0] h=.ret v g/\Fr p q h.n h g/\cC g p b_/\(∃n,g.get q=some (lH p n))/\l4 F g v l/\∀d,F d->h.n<=d/\d<g.n:=by
 obtain⟨aq,cl⟩:∃aq,aq=(h.push (.cells [.ptr q 0] 59 .own 0 0)).push (.cells [.aA] 22 .own 0 0):=⟨_,rfl⟩
 have a1:aq.n=h.n+2:=by rw[cl];simp
 have dG:aq.get h.n=some (.cells [.ptr q 0] 59 .own 0 0):=by rw[cl];exact hj (by simp) (eB rfl)
 have a8:aq.get (h.n+1)=some (.cells [.aA] 22 .own 0 0):=by rw[cl];exact eB rfl
 have dH:∀d,d<h.n->aq.get d=h.get d:=λd aj=>by rw[cl];exact hj (by simp;omega) (hj aj rfl)
 obtain⟨l2,gL⟩:=j3
 have bq:cC aq p st:=cC.jz al (by omega) λd aj=>dH d (by omega)
 have aY:=(dH q aS).trans gL
 have cX:qB p q h.n (h.n+1) (h.n+2) h .aA (λ_=>False) [] (st,[]) aq:=⟨bq,⟨l2,aY⟩,⟨by omega,λd aj _ _=>dH d aj⟩,dG,a8,by omega,.inl ⟨rfl,rfl⟩,rfl,λ_ hf=>hf.elim⟩
 have gr:=GA (m-6) (σ:=cf×List eD) (I:=λs g=>sY 89999 s/\∃v F bd,qB p q h.n (h.n+1) (h.n+2) h v F bd s g) (P:=λg=>Fr p q h.n h g) (rd:=λs=>s.1) (f:=kQ (ct 0 61)) (fnum:=54) (p:=p) (q:=q) (caps:=[.ptr h.n 0,.ptr (h.n+1) 0])
  (λs g hi=>by obtain⟨_,v,F,bd,w⟩:=hi;exact⟨w.rd,w.fi⟩) (λs g hi=>by obtain⟨_,v,F,bd,w⟩:=hi;exact w.bS)
  (λs g hi hs=>by
   obtain⟨gd,v,F,bd,w⟩:=hi
   have mF:0<dg s.1:=by cases aS:s.1 with|none=>rw[aS] at hs;cases hs|some l=>simp[dg]
   have eX:=aaw (m:=m-2) (by omega) hx aS (by omega) (by omega) (by omega) w (by have:=gd.1;omega) (by have:=gd.1;omega)
   rw[show m-2+1=m-6+5 by omega] at eX
   cases ad:kQ (ct 0 61) s with
   |none=>rw[ad] at eX;exact eX
   |some a2=>
    rw[ad] at eX
    obtain⟨ep,v',eT,nf,c1,bR⟩:=eX
    obtain⟨bx,bI⟩:=GK gd ad
    exact⟨ep,c1,⟨bx,v',eT,nf,bR⟩,bI⟩)
  (h:=aq) (st:=st) (s0:=((aI st).2,[])) bq ⟨l2,aY⟩ (by omega) rfl
  (λg x r=>⟨⟨by have:=qw st;simp;omega,λe he=>by cases he⟩,.aA,_,[],cX.later hx aS (by omega) (by omega) r ⟨l2,(x.get q (by omega) (by omega)).trans aY⟩ x.n λd aj aU _=>x.get d aj aU⟩)
 rw[show m-6+6=m by omega] at gr
 have fw:g9 0 st=e0 (λs=>s.1.isSome) (kQ (ct 0 61)) (aI st).1 ((aI st).2,[]):=rfl
 rw[fw]
 cases ad:e0 (λs=>s.1.isSome) (kQ (ct 0 61)) (aI st).1 ((aI st).2,[]) with
 |none=>
  rw[ad] at gr
  obtain⟨g,c,f⟩:=gr
  subst cl
  exact⟨g,Nq m q h (R:=λx=>x=.bp fI g) ⟨q,ar dG rfl,.inr ⟨fI,g,c,rfl⟩⟩,f⟩
 |some s=>
  rw[ad] at gr
  obtain⟨b_,l⟩:=s
  obtain⟨g,c,gd,v,F,bd,w⟩:=gr
  subst cl
  refine⟨v,g,λd=>F d\/∃n aH,v=.slice d 0 n aH,Nq m q h (R:=λx=>x=.ret v g) ⟨q,ar dG rfl,.inl ⟨g,c,v,ar w.ji rfl,rfl⟩⟩,w.bS,w.rd,w.fi,?_,λd aj=>?_⟩
  · have hlen:bd.length=l.length:=hO.len w.es
    rcases w.rw with⟨rfl,aG⟩|⟨x,rfl,ae,aB,aP,cg⟩
    · subst aG
      exact .inl ⟨rfl,List.eq_nil_of_length_eq_zero (by simpa using hlen.symm)⟩
    · refine .inr ⟨x,0,.a5 2,by rw[<-hlen],.inr ⟨_,_,rfl⟩,λi hi=>?_,by omega,by simp⟩
      obtain⟨bx,bI⟩:=hO.nth w.es i hi (by omega)
      refine⟨.ptr bd[i].2 0,?_,j2.b0 (λd aj=>⟨.inl aj,rfl⟩) _ _ bI⟩
      have:=Kl (off:=0+i*2) (rest:=[]) zI.len (by rw[List.append_nil];exact aB) (i:=i) (by omega) (by omega)
      rw[this,bx]
  · rcases aj with aj|⟨n,aH,aj⟩
    · have:=w.fh d aj;omega
    · rcases w.rw with⟨e,_⟩|⟨x,e,ae,aB,aP,cg⟩
      · rw[e] at aj;cases aj
      · rw[e] at aj;injection aj with ab;omega
end Go.Proofs.ew
