/-
  PROVED HERE: contracts of functions (Dk). No condition beside each statement's own.
-/
import Derived.Test.YtfooahfebojldaaGreatDoorDj
set_option linter.unusedVariables false
set_option linter.unusedSimpArgs false
namespace Go.Proofs.cN
open Go ay Go.Proofs cS Go.Proofs.cf
open Go.Proofs.cW (dC cg lM)
open Go.Proofs.ed (cM cv a_ cH ff)
set_option maxRecDepth 100000
set_option maxHeartbeats 1000000
theorem q9(m:Nat)(q:Nat)(h:aa){R:ax->Prop}(H:∃aQ:Nat,aA (aa.push h (.cells [.ptr q 0] 59 .own 0 0)) h.n 0=some (.ptr aQ 0)/\∃bw:Nat,aA (aa.push h (.cells [.ptr q 0] 59 .own 0 0)) aQ (0+1)=some (.int .i64 (.ofNat bw))/\bw+1<9223372036854775808/\∃al:aa,ay.storeCells (aa.push h (.cells [.ptr q 0] 59 .own 0 0)) aQ (0+1) [.int .i64 (.ofNat (bw+1))]=some al/\∃cl:Nat,aA al h.n 0=some (.ptr cl 0)/\∃cC:Nat,aA al cl (0+0)=some (.ptr cC 0)/\∃c5:Nat,∃ak:aa,(Y m) (.fn 24) [.ptr cC 0] al=.ret (.int .u64 (.ofNat c5)) ak/\∃dV:Nat,aA ak h.n 0=some (.ptr dV 0)/\∃fo:Nat,aA ak dV (0+0)=some (.ptr fo 0)/\∃bh:Bool,∃aS:aa,(Y m) (.fn 26) [.ptr fo 0] ak=.ret (.bool bh) aS/\bh=true/\c5<=9/\∃kr:Nat,aA aS h.n 0=some (.ptr kr 0)/\∃j3:Nat,aA aS kr (0+1)=some (.int .i64 (.ofNat j3))/\∃bb:aa,(Y m) (.fn 25) [.bool (fE (.ofNat j3) (.ofNat 60))] aS=.ret (.aD []) bb/\∃hM:Nat,ea Tryz.prog 65 3 (.int .u64 (.ofNat c5)) bb=fj.val (.int .i64 (.ofNat hM)) bb/\∃ch:aa,ay.storeCells (aa.push (aa.push bb (.cells [.int .i64 (.ofNat hM),.str [],.az,.az,.bc] 51 .own 0 0)) (.cells [.bc] 47 .own 0 0)) (aa.n (aa.push bb (.cells [.int .i64 (.ofNat hM),.str [],.az,.az,.bc] 51 .own 0 0))) 0 [.ptr bb.n 0]=some ch/\∃cc:aa,ay.storeCells (aa.push ch (.cells [.fi] 1 .own 0 0)) ch.n 0 [.fn 74 [] [.ptr (aa.n (aa.push bb (.cells [.int .i64 (.ofNat hM),.str [],.az,.az,.bc] 51 .own 0 0))) 0,.ptr h.n 0]]=some cc/\∃y9:Nat,aA cc (aa.n (aa.push bb (.cells [.int .i64 (.ofNat hM),.str [],.az,.az,.bc] 51 .own 0 0))) 0=some (.ptr y9 0)/\∃oO:Nat,aA cc y9 (0+0)=some (.int .i64 (.ofNat oO))/\(oO=6->∃uJ:Nat,aA (cc.room 9) (aa.n (aa.push bb (.cells [.int .i64 (.ofNat hM),.str [],.az,.az,.bc] 51 .own 0 0))) 0=some (.ptr uJ 0)/\∃Cq:Nat,aA (cc.room 9) h.n 0=some (.ptr Cq 0)/\∃Cr:Nat,aA (cc.room 9) Cq (0+0)=some (.ptr Cr 0)/\∃s1:List UInt8,∃bY:aa,(Y m) (.fn 23) [.ptr Cr 0] (cc.room 9)=.ret (.str s1) bY/\∃cJ:aa,ay.storeCells bY uJ (0+1) [.str s1]=some cJ/\aA bY (aa.n (aa.push bb (.cells [.int .i64 (.ofNat hM),.str [],.az,.az,.bc] 51 .own 0 0))) 0=some (.ptr uJ 0)/\∃OE:Nat,aA cJ (aa.n (aa.push bb (.cells [.int .i64 (.ofNat hM),.str [],.az,.az,.bc] 51 .own 0 0))) 0=some (.ptr OE 0)/\R (.ret (.ptr OE 0) cJ))/\(¬oO=6->(oO=7->∃HE:Nat,aA cc h.n 0=some (.ptr HE 0)/\((∃eA:aa,(Y m) (.fn 53) [.ptr HE 0,.fn 75 [] [.ptr (aa.n (aa.push bb (.cells [.int .i64 (.ofNat hM),.str [],.az,.az,.bc] 51 .own 0 0))) 0,.ptr h.n 0,.ptr ch.n 0]] cc=.ret (.aD []) eA/\∃OF:Nat,aA eA (aa.n (aa.push bb (.cells [.int .i64 (.ofNat hM),.str [],.az,.az,.bc] 51 .own 0 0))) 0=some (.ptr OF 0)/\R (.ret (.ptr OF 0) eA))\/(∃v1:J,∃gk:aa,(Y m) (.fn 53) [.ptr HE 0,.fn 75 [] [.ptr (aa.n (aa.push bb (.cells [.int .i64 (.ofNat hM),.str [],.az,.az,.bc] 51 .own 0 0))) 0,.ptr h.n 0,.ptr ch.n 0]] cc=.bk v1 gk/\R (.bk v1 gk))))/\(¬oO=7->(oO=8->∃HF:Nat,aA cc h.n 0=some (.ptr HF 0)/\∃v2:J,aA cc ch.n 0=some v2/\((∃eU:aa,(Y m) (.fn 53) [.ptr HF 0,v2] cc=.ret (.aD []) eU/\∃HG:Nat,aA (eU.room 6) (aa.n (aa.push bb (.cells [.int .i64 (.ofNat hM),.str [],.az,.az,.bc] 51 .own 0 0))) 0=some (.ptr HG 0)/\∃HH:Nat,aA (eU.room 6) h.n 0=some (.ptr HH 0)/\((∃OG:Nat,∃ja:aa,(Y m) (.fn 55) [.ptr HH 0] (eU.room 6)=.ret (.ptr OG 0) ja/\∃kA:aa,ay.storeCells ja HG (0+4) [.ptr OG 0]=some kA/\aA ja (aa.n (aa.push bb (.cells [.int .i64 (.ofNat hM),.str [],.az,.az,.bc] 51 .own 0 0))) 0=some (.ptr HG 0)/\∃OH:Nat,aA kA (aa.n (aa.push bb (.cells [.int .i64 (.ofNat hM),.str [],.az,.az,.bc] 51 .own 0 0))) 0=some (.ptr OH 0)/\R (.ret (.ptr OH 0) kA))\/(∃dr:J,∃jQ:aa,(Y m) (.fn 55) [.ptr HH 0] (eU.room 6)=.bk dr jQ/\R (.bk dr jQ))))\/(∃v4:J,∃m5:aa,(Y m) (.fn 53) [.ptr HF 0,v2] cc=.bk v4 m5/\R (.bk v4 m5))))/\(¬oO=8->(oO=9->∃HI:Nat,aA cc h.n 0=some (.ptr HI 0)/\∃gO:J,aA cc ch.n 0=some gO/\((∃nV:aa,(Y m) (.fn 53) [.ptr HI 0,gO] cc=.ret (.aD []) nV/\∃OI:Nat,aA nV (aa.n (aa.push bb (.cells [.int .i64 (.ofNat hM),.str [],.az,.az,.bc] 51 .own 0 0))) 0=some (.ptr OI 0)/\R (.ret (.ptr OI 0) nV))\/(∃v6:J,∃m6:aa,(Y m) (.fn 53) [.ptr HI 0,gO] cc=.bk v6 m6/\R (.bk v6 m6))))/\(¬oO=9->∃OJ:Nat,aA cc (aa.n (aa.push bb (.cells [.int .i64 (.ofNat hM),.str [],.az,.az,.bc] 51 .own 0 0))) 0=some (.ptr OJ 0)/\R (.ret (.ptr OJ 0) cc)))))):
  R (Y (m+1) (.fn 55) [.ptr q 0] h):=
 dH (intr:=b7) [(1024,.t),(1028,.t),(58,.e none .o),(63,.e none .o),(66,.e none .o),(73,.e none .o)] [(0,.v (.ptr q 0))] Tryz.func55 (by kernel_rfl) (by kernel_rfl) (by kernel_rfl) rfl (Eq.mp (by kernel_rfl) H)
theorem HJ(m:Nat)(q:Nat)(h:aa){R:ax->Prop}(H:∃aQ:Nat,aA (aa.push h (.cells [.ptr q 0] 59 .own 0 0)) h.n 0=some (.ptr aQ 0)/\∃bw:Nat,aA (aa.push h (.cells [.ptr q 0] 59 .own 0 0)) aQ (0+1)=some (.int .i64 (.ofNat bw))/\bw+1<9223372036854775808/\∃al:aa,ay.storeCells (aa.push h (.cells [.ptr q 0] 59 .own 0 0)) aQ (0+1) [.int .i64 (.ofNat (bw+1))]=some al/\∃cl:Nat,aA al h.n 0=some (.ptr cl 0)/\∃cC:Nat,aA al cl (0+0)=some (.ptr cC 0)/\∃c5:Nat,∃ak:aa,(Y m) (.fn 24) [.ptr cC 0] al=.ret (.int .u64 (.ofNat c5)) ak/\∃dV:Nat,aA ak h.n 0=some (.ptr dV 0)/\∃fo:Nat,aA ak dV (0+0)=some (.ptr fo 0)/\∃bh:Bool,∃aS:aa,(Y m) (.fn 26) [.ptr fo 0] ak=.ret (.bool bh) aS/\(bh=true->(c5<=9->∃kr:Nat,aA aS h.n 0=some (.ptr kr 0)/\∃j3:Nat,aA aS kr (0+1)=some (.int .i64 (.ofNat j3))/\∃v1:J,∃bb:aa,(Y m) (.fn 25) [.bool (fE (.ofNat j3) (.ofNat 60))] aS=.bk v1 bb/\R (.bk v1 bb))/\(¬c5<=9->∃v2:J,∃ch:aa,(Y m) (.fn 25) [.bool false] aS=.bk v2 ch/\R (.bk v2 ch)))/\(bh=false->∃dr:J,∃cc:aa,(Y m) (.fn 25) [.bool false] aS=.bk dr cc/\R (.bk dr cc))):
  R (Y (m+1) (.fn 55) [.ptr q 0] h):=
 dH (intr:=b7) [(34,.p .o)] [(0,.v (.ptr q 0))] Tryz.func55 (by kernel_rfl) (by kernel_rfl) (by kernel_rfl) rfl (Eq.mp (by kernel_rfl) H)
theorem abb(n:Nat)(aJ:n<9223372036854775808)(h:aa):ea Tryz.prog 65 3 (.int .u64 (Int.ofNat n)) h=.val (.int .i64 (Int.ofNat n)) h:=v3 cW.CC cW.CD (rF n aJ)
theorem C_:∀(j m:Nat),4*j+20<=m->HB m j
 |0,m,hm=>by
  intro p q h st n _ _ _ _ aJ aI
  omega
 |j+1,m,hm=>by
  intro p q h st n ki a1 ai HK aJ aI wZ
  obtain⟨M,rfl⟩:∃M,m=M+1:=⟨m-1,by omega⟩
  have gh:(h.push (.cells [.ptr q 0] 59 .own 0 0)).get h.n=some (.cells [.ptr q 0] 59 .own 0 0):=dA rfl
  have iz:(h.push (.cells [.ptr q 0] 59 .own 0 0)).get q=some (kW p n):=h6 a1 HK
  obtain⟨al,dn⟩:∃al,al=(h.push (.cells [.ptr q 0] 59 .own 0 0)).set q (some (kW p (n+1))):=⟨_,rfl⟩
  have gB:al.get h.n=some (.cells [.ptr q 0] 59 .own 0 0):=by rw[dn];exact eh (by omega) gh
  have iL:al.get q=some (kW p (n+1)):=by rw[dn];exact dN rfl
  have aQ:al.n=h.n+1:=by rw[dn];simp
  have ba:cg al p st:=by rw[dn];exact cg.u0 (cg.Oq ai) ki
  have f1:Fr p q h.n h al:=by rw[dn];exact((Fr.refl p q h.n h).push (Nat.le_refl _)).set (.inr (.inr rfl))
  obtain⟨ak,h1,bo,bt⟩:=cW.CP (M-5) p st al ba
  rw[show M-5+5=M by omega] at h1
  have co:=cW.CK (M-1) p _ ak bt
  rw[show M-1+1=M by omega] at co
  have bf:=(bo.get h.n (by omega) (by omega)).trans gB
  have aT:=(bo.get q (by omega) (by omega)).trans iL
  have bw:=bo.n
  have f2:Fr p q h.n h ak:=f1.trans (Nat.le_refl _) ((Fr.aa3 bo).le (by omega))
  have adE:=uZ st
  subst dn
  by_cases cR:(a_ st).2.isSome=true
  · have oX:(!(a_ st).2.isNone)=true:=by cases hs:(a_ st).2 with|none=>rw[hs] at cR;cases cR|some _=>rfl
    rw[oX] at co
    by_cases au:(a_ st).1<=9
    · by_cases lE:n+1<=60
      · have h_:dd 0 (j+1) (st,n)=hv (dd 0 j) (a_ st).1 ((a_ st).2,n+1):=by simp only[dd];rw[if_pos ⟨cR,Nat.zero_le _,au,lE⟩]
        rw[h_]
        have mt:Y M (.fn 25) [.bool (fE (Int.ofNat (n+1)) (Int.ofNat 60))] ak=.ret (.aD []) ak:=by
         rw[nC lE,show M=M-1+1 by omega];exact C1 _ _
        have iT:=abb (a_ st).1 (by omega) ak
        obtain⟨ch,zF⟩:∃ch,ch=((ak.push (kz (a_ st).1 .az .az)).push (.cells [.bc] 47 .own 0 0)).set (ak.push (kz (a_ st).1 .az .az)).n (some (.cells [.ptr ak.n 0] 47 .own 0 0)):=⟨_,rfl⟩
        have cY:ay.storeCells ((ak.push (kz (a_ st).1 .az .az)).push (.cells [.bc] 47 .own 0 0)) (ak.push (kz (a_ st).1 .az .az)).n 0 [.ptr ak.n 0]=some ch:=by rw[zF];exact dY (dA rfl) rfl rfl
        obtain⟨cc,w0⟩:∃cc,cc=(ch.push (.cells [.fi] 1 .own 0 0)).set ch.n (some (.cells [.fn 74 [] [.ptr (ak.push (kz (a_ st).1 .az .az)).n 0,.ptr h.n 0]] 1 .own 0 0)):=⟨_,rfl⟩
        have dt:ay.storeCells (ch.push (.cells [.fi] 1 .own 0 0)) ch.n 0 [.fn 74 [] [.ptr (ak.push (kz (a_ st).1 .az .az)).n 0,.ptr h.n 0]]=some cc:=by rw[w0];exact dY (dA rfl) rfl rfl
        have c5:ch.n=ak.n+2:=by rw[zF];simp
        have dV:cc.n=ak.n+3:=by rw[w0];simp;omega
        have r0:∀d,d<ak.n->ch.get d=ak.get d:=λd aq=>by rw[zF];exact eh (by simp;omega) (h6 (by simp;omega) (h6 aq rfl))
        have py:∀d,d<ak.n->cc.get d=ak.get d:=λd aq=>by rw[w0];exact eh (by omega) (h6 (by omega) (r0 d aq))
        have yW:cc.get (ak.n+1)=some (.cells [.ptr ak.n 0] 47 .own 0 0):=by rw[w0];exact eh (by omega) (h6 (by omega) (by rw[zF];exact dN rfl))
        have N1:cc.get ak.n=some (kz (a_ st).1 .az .az):=by rw[w0];exact eh (by omega) (h6 (by omega) (by rw[zF];exact eh (by simp) (h6 (by simp) (dA rfl))))
        have q1:cc.get (ak.n+2)=some (.cells [.fn 74 [] [.ptr (ak.n+1) 0,.ptr h.n 0]] 1 .own 0 0):=by rw[w0];exact dN c5.symm
        have df:jP p q (ak.n+1) h.n (ak.n+2) ak.n (a_ st).1 (ak.n+3) h .az .az (λ_=>False) [] (((a_ st).2,n+1),([],[])) cc:=
         ⟨cg.sN bt (by omega) λd aq=>py d (by omega),(py q (by omega)).trans aT,f2.trans (Nat.le_refl _) ⟨by omega,λd aq _ _=>py d (by omega)⟩,yW,(py h.n (by omega)).trans bf,q1,by omega,N1,.inl ⟨rfl,rfl⟩,.inl ⟨rfl,rfl⟩,rfl,λ_ hf=>hf.elim⟩
        have cb:wY p q (ak.n+1) h.n (ak.n+2) ak.n (ak.n+3) h.n:=by constructor<;>omega
        have OK:zC (dd 0 j):=Hz 0 j
        obtain⟨gv,kI⟩:∃gv:Q,gv=((a_ st).2,n+1):=⟨_,rfl⟩
        have kQ:∀g,cz p cc.n cc g->cg g p (a_ (a_ st).2).2->oY gv (gu gv)/\∃b5 bJ F rs,jP p q (ak.n+1) h.n (ak.n+2) ak.n (a_ st).1 (ak.n+3) h b5 bJ F rs (gu gv) g:=λg x r=>by
         rw[kI]
         exact⟨Oy _ lE,.az,.az,_,[],df.later cb r ((x.get q (by omega) (by omega)).trans df.je) x.n λd aq aY _=>x.get d aq aY⟩
        have p9:=Hu (M-6) (σ:=Acc) (I:=λs g=>oY gv s/\∃b5 bJ F rs,jP p q (ak.n+1) h.n (ak.n+2) ak.n (a_ st).1 (ak.n+3) h b5 bJ F rs s g) (P:=λg=>Fr p q h.n h g) (rd:=λs=>s.1.1) (f:=gY (dd 0 j)) (fnum:=74) (p:=p) (q:=q) (caps:=[.ptr (ak.n+1) 0,.ptr h.n 0])
         (λs g af=>by obtain⟨_,b5,bJ,F,rs,w⟩:=af;exact⟨w.rd,_,w.je⟩) (λs g af=>by obtain⟨_,b5,bJ,F,rs,w⟩:=af;exact w.b0)
         (λs g af _=>by
          obtain⟨gd,b5,bJ,F,rs,w⟩:=af
          have HL:=gd
          obtain⟨aE,aC,bu,cX⟩:=HL
          have:=su s.2.2
          rw[kI] at aE cX
          simp only at aE cX
          have fl:=OC (C_ j (M-2) (by omega)) cb w (by omega) bu (by omega) (by omega)
          rw[show M-2+1=M-6+5 by omega] at fl
          cases ad:gY (dd 0 j) s with
          |none=>rw[ad] at fl;exact fl
          |some a4=>
           rw[ad] at fl
           obtain⟨ez,mR,hy,oZ,c1,cq⟩:=fl
           obtain⟨bz,bA⟩:=Hy OK gd ad
           exact⟨ez,c1,⟨bz,b5,mR,hy,oZ,cq⟩,bA⟩)
         (h:=cc) (st:=(a_ st).2) (s0:=gu gv) df.rd ⟨_,df.je⟩ (by omega) (by rw[kI];rfl) kQ
        rw[show M-6+6=M by omega] at p9
        have w1:=Hu (M-6) (σ:=Acc) (I:=λs g=>oY gv s/\∃b5 bJ F rs,jP p q (ak.n+1) h.n (ak.n+2) ak.n (a_ st).1 (ak.n+3) h b5 bJ F rs s g) (P:=λg=>Fr p q h.n h g) (rd:=λs=>s.1.1) (f:=lb (dd 0 j)) (fnum:=75) (p:=p) (q:=q) (caps:=[.ptr (ak.n+1) 0,.ptr h.n 0,.ptr (ak.n+2) 0])
         (λs g af=>by obtain⟨_,b5,bJ,F,rs,w⟩:=af;exact⟨w.rd,_,w.je⟩) (λs g af=>by obtain⟨_,b5,bJ,F,rs,w⟩:=af;exact w.b0)
         (λs g af _=>by
          obtain⟨gd,b5,bJ,F,rs,w⟩:=af
          have HL:=gd
          obtain⟨aE,aC,bu,cX⟩:=HL
          have:=su s.2.2
          rw[kI] at aE cX
          simp only at aE cX
          have fl:=aa_ (by omega) (C_ j (M-3) (by omega)) cb w (by omega) (by omega) bu (by omega) (by omega)
          rw[show M-3+2=M-6+5 by omega] at fl
          cases ad:lb (dd 0 j) s with
          |none=>rw[ad] at fl;exact fl
          |some a4=>
           rw[ad] at fl
           obtain⟨ez,y6,mR,hy,oZ,c1,cq⟩:=fl
           obtain⟨bz,bA⟩:=Ox OK gd ad
           exact⟨ez,c1,⟨bz,y6,mR,hy,oZ,cq⟩,bA⟩)
         (h:=cc) (st:=(a_ st).2) (s0:=gu gv) df.rd ⟨_,df.je⟩ (by omega) (by rw[kI];rfl) kQ
        rw[show M-6+6=M by omega] at w1
        have abc:∀f:Acc->Option Acc,eF (λs=>s.1.1.isSome) f (a_ (a_ st).2).1 (gu gv)=eF hY f (a_ gv.1).1 (gu gv):=λf=>by rw[kI];rfl
        rw[abc] at p9 w1
        rw[<-kI]
        by_cases eK:(a_ st).1=6
        · have iJ:hv (dd 0 j) (a_ st).1 gv=some (.mk (a_ st).1 (cH (a_ st).2).1 [] [] none,((cH (a_ st).2).2,n+1)):=by rw[kI];simp only[hv];rw[if_pos eK,eK]
          rw[iJ]
          obtain⟨bY,hb,jC,rt⟩:=cW.CR (M-6) p (a_ st).2 (cc.room 9) (cg.zz df.rd)
          rw[show M-6+6=M by omega] at hb
          have fo:=jC.n
          simp only[aa.hj] at fo
          have l3:∀d,d<cc.n->d≠p->bY.get d=cc.get d:=λd aq aY=>jC.get d (by simp;omega) aY
          obtain⟨cJ,p_⟩:∃cJ,cJ=bY.set ak.n (some (.cells [.int .i64 (Int.ofNat (a_ st).1),.str (cH (a_ st).2).1,.az,.az,.bc] 51 .own 0 0)):=⟨_,rfl⟩
          have q_:ay.storeCells bY ak.n (0+1) [.str (cH (a_ st).2).1]=some cJ:=by rw[p_];exact dY ((l3 _ (by omega) (by omega)).trans df.ef) rfl rfl
          have pS:∀d,d≠ak.n->cJ.get d=bY.get d:=λd aq=>by rw[p_];exact eh aq rfl
          have kr:cJ.n=bY.n:=by rw[p_];simp
          have wq:=(l3 (ak.n+1) (by omega) (by omega)).trans df.ac
          have si:=(pS (ak.n+1) (by omega)).trans wq
          obtain⟨hy,nW,nX⟩:=zE (base:=ak.n+3) (H0:=h.n) (r:=ak.n) (y:=cJ) (F:=λ_=>False) (G:=λ_=>False) (rs:=[]) (ns:=[]) (xs:=[]) (ot:=none) (by rw[p_];exact dN rfl) (.inl ⟨rfl,rfl⟩) (.inl ⟨rfl,rfl⟩) rfl rfl (by omega) (by omega) (λ_ hf=>hf.elim) (λ_ hf=>hf.elim)
          have res:m4 p q h (some (.mk (a_ st).1 (cH (a_ st).2).1 [] [] none,((cH (a_ st).2).2,n+1))) (.ret (.ptr ak.n 0) cJ):=⟨ak.n,cJ,hy,rfl,df.b0.trans (Nat.le_refl _) ⟨by omega,λd aq aY a1=>(pS d (by omega)).trans (l3 d (by omega) aY)⟩,by rw[p_];exact cg.u0 rt (by omega),(pS q (by omega)).trans ((l3 q (by omega) (by omega)).trans df.je),nW,nX⟩
          exact q9 M q h ⟨_,aB gh rfl,n,aB iz rfl,(by omega),_,dY iz rfl rfl,_,aB gB rfl,p,aB iL rfl,(a_ st).1,ak,h1,_,aB bf rfl,_,aB aT rfl,_,ak,co,rfl,au,_,aB bf rfl,n+1,aB aT rfl,ak,mt,(a_ st).1,iT,ch,cY,cc,dt,ak.n,aB df.ac rfl,(a_ st).1,aB df.ef rfl,λ_=>⟨ak.n,aB (dX df.ac) rfl,_,aB (dX df.iy) rfl,_,aB (dX df.je) rfl,_,bY,hb,cJ,q_,aB wq rfl,ak.n,aB si rfl,res⟩,λh=>absurd eK h⟩
        by_cases eE:(a_ st).1=7
        · cases ad:eF hY (lb (dd 0 j)) (a_ gv.1).1 (gu gv) with
          |none=>
           have iJ:hv (dd 0 j) (a_ st).1 gv=none:=by simp only[hv];rw[if_neg eK,if_pos eE,ad];rfl
           rw[iJ]
           rw[ad] at w1
           obtain⟨bY,gP,f7⟩:=w1
           exact q9 M q h (R:=m4 p q h none) ⟨_,aB gh rfl,n,aB iz rfl,(by omega),_,dY iz rfl rfl,_,aB gB rfl,p,aB iL rfl,(a_ st).1,ak,h1,_,aB bf rfl,_,aB aT rfl,_,ak,co,rfl,au,_,aB bf rfl,n+1,aB aT rfl,ak,mt,(a_ st).1,iT,ch,cY,cc,dt,ak.n,aB df.ac rfl,(a_ st).1,aB df.ef rfl,λh=>absurd h eK,λ_=>⟨λ_=>⟨_,aB df.iy rfl,.inr ⟨fh,bY,(by rw[c5];exact gP),bY,rfl,f7⟩⟩,λh=>absurd eE h⟩⟩
          |some s=>
           rw[ad] at w1
           obtain⟨⟨og,pj⟩,ns,xs⟩:=s
           obtain⟨bY,gP,gd,b5,bJ,F,rs,w⟩:=w1
           have iJ:hv (dd 0 j) (a_ st).1 gv=some (.mk (a_ st).1 [] ns xs none,(og,pj)):=by simp only[hv];rw[if_neg eK,if_pos eE,ad,eE];rfl
           rw[iJ]
           obtain⟨hy,nW,nX⟩:=zE (H0:=h.n) (G:=λ_=>False) (ot:=none) w.ef w.m3 w.hL w.ts rfl (by omega) (by have:=w.bs;omega) (λd aq=>by have:=w.hZ d aq;omega) (λ_ hf=>hf.elim)
           exact q9 M q h (R:=m4 p q h (some (.mk (a_ st).1 [] ns xs none,(og,pj)))) ⟨_,aB gh rfl,n,aB iz rfl,(by omega),_,dY iz rfl rfl,_,aB gB rfl,p,aB iL rfl,(a_ st).1,ak,h1,_,aB bf rfl,_,aB aT rfl,_,ak,co,rfl,au,_,aB bf rfl,n+1,aB aT rfl,ak,mt,(a_ st).1,iT,ch,cY,cc,dt,ak.n,aB df.ac rfl,(a_ st).1,aB df.ef rfl,λh=>absurd h eK,λ_=>⟨λ_=>⟨_,aB df.iy rfl,.inl ⟨bY,(by rw[c5];exact gP),ak.n,aB w.ac rfl,ak.n,bY,hy,rfl,w.b0,w.rd,w.je,nW,nX⟩⟩,λh=>absurd eE h⟩⟩
        have zG:aA cc ch.n 0=some (.fn 74 [] [.ptr (ak.n+1) 0,.ptr h.n 0]):=by rw[c5];exact aB df.fl rfl
        have nil:∀s,eF hY (gY (dd 0 j)) (a_ gv.1).1 (gu gv)=some s->s.2.1=[]:=λs hs=>wX (λs:Acc=>s.2.1=[]) (λs a4 ab ae=>by
         unfold gY at ae
         cases ad:dd 0 j s.1 with
         |none=>rw[ad] at ae;cases ae
         |some x=>rw[ad] at ae;cases ae;exact ab) _ _ _ (by rw[kI];rfl) hs
        by_cases fQ:(a_ st).1=8
        · cases ad:eF hY (gY (dd 0 j)) (a_ gv.1).1 (gu gv) with
          |none=>
           have iJ:hv (dd 0 j) (a_ st).1 gv=none:=by simp only[hv];rw[if_neg eK,if_neg eE,if_pos fQ,ad];rfl
           rw[iJ]
           rw[ad] at p9
           obtain⟨bY,gP,f7⟩:=p9
           exact q9 M q h (R:=m4 p q h none) ⟨_,aB gh rfl,n,aB iz rfl,(by omega),_,dY iz rfl rfl,_,aB gB rfl,p,aB iL rfl,(a_ st).1,ak,h1,_,aB bf rfl,_,aB aT rfl,_,ak,co,rfl,au,_,aB bf rfl,n+1,aB aT rfl,ak,mt,(a_ st).1,iT,ch,cY,cc,dt,ak.n,aB df.ac rfl,(a_ st).1,aB df.ef rfl,λh=>absurd h eK,λ_=>⟨λh=>absurd h eE,λ_=>⟨λ_=>⟨_,aB df.iy rfl,_,zG,.inr ⟨fh,bY,gP,bY,rfl,f7⟩⟩,λh=>absurd fQ h⟩⟩⟩
          |some s=>
           rw[ad] at p9
           obtain⟨⟨og,pj⟩,ns,xs⟩:=s
           obtain rfl:ns=[]:=nil _ ad
           obtain⟨bY,gP,gd,b5,bJ,F,rs,w⟩:=p9
           obtain⟨d1,d2,d3,d4⟩:=gd
           rw[kI] at d1 d4
           simp only at d1 d3 d4
           have mv:=w.bs
           have hb:=C_ j M (by omega) p q (bY.room 6) og pj ki (by simp;omega) (cg.zz w.rd) w.je d3 (by omega) (by omega)
           cases a6:dd 0 j (og,pj) with
           |none=>
            have iJ:hv (dd 0 j) (a_ st).1 gv=none:=by simp only[hv];rw[if_neg eK,if_neg eE,if_pos fQ,ad];simp only[Option.bind_some,a6];rfl
            rw[iJ]
            rw[a6] at hb
            obtain⟨cJ,nY,f8⟩:=hb
            exact q9 M q h (R:=m4 p q h none) ⟨_,aB gh rfl,n,aB iz rfl,(by omega),_,dY iz rfl rfl,_,aB gB rfl,p,aB iL rfl,(a_ st).1,ak,h1,_,aB bf rfl,_,aB aT rfl,_,ak,co,rfl,au,_,aB bf rfl,n+1,aB aT rfl,ak,mt,(a_ st).1,iT,ch,cY,cc,dt,ak.n,aB df.ac rfl,(a_ st).1,aB df.ef rfl,λh=>absurd h eK,λ_=>⟨λh=>absurd h eE,λ_=>⟨λ_=>⟨_,aB df.iy rfl,_,zG,.inl ⟨bY,gP,ak.n,aB (dX w.ac) rfl,_,aB (dX w.iy) rfl,.inr ⟨fh,cJ,nY,cJ,rfl,w.b0.trans w.b0.n ⟨by have:=f8.n;simp at this;omega,λd aq aY a1=>f8.get d (by simp;omega) aY a1⟩⟩⟩⟩,λh=>absurd fQ h⟩⟩⟩
           |some y=>
            obtain⟨t,OL,hO⟩:=y
            have iJ:hv (dd 0 j) (a_ st).1 gv=some (.mk (a_ st).1 [] [] xs (some t),(OL,hO)):=by simp only[hv];rw[if_neg eK,if_neg eE,if_pos fQ,ad];simp only[Option.bind_some,a6,fQ];rfl
            rw[iJ]
            rw[a6] at hb
            obtain⟨u,cJ,G,nY,f8,CO,sO,t8,gC⟩:=hb
            have kr:=f8.n
            simp only[aa.hj] at kr gC
            have pS:∀d,d<bY.n->d≠p->d≠q->cJ.get d=bY.get d:=λd aq aY a1=>f8.get d (by simp;omega) aY a1
            obtain⟨eA,o0⟩:∃eA,eA=cJ.set ak.n (some (.cells [.int .i64 (Int.ofNat (a_ st).1),.str [],b5,bJ,.ptr u 0] 51 .own 0 0)):=⟨_,rfl⟩
            have Ew:eP (0+4) [.ptr u 0] [.int .i64 (Int.ofNat (a_ st).1),.str [],b5,bJ,.bc]=some [.int .i64 (Int.ofNat (a_ st).1),.str [],b5,bJ,.ptr u 0]:=rfl
            have ra:ay.storeCells cJ ak.n (0+4) [.ptr u 0]=some eA:=by rw[o0];exact dY ((pS _ (by omega) (by omega) (by omega)).trans w.ef) rfl Ew
            have kp:∀d,d≠ak.n->eA.get d=cJ.get d:=λd aq=>by rw[o0];exact eh aq rfl
            have j3:eA.n=cJ.n:=by rw[o0];simp
            have si:=(pS (ak.n+1) (by omega) (by omega) (by omega)).trans w.ac
            have yX:=(kp (ak.n+1) (by omega)).trans si
            have cd:∀d,ak.n+3<=d->d<bY.n->eA.get d=bY.get d:=λd aq aw=>(kp d (by omega)).trans (pS d aw (by omega) (by omega))
            obtain⟨hy,nW,nX⟩:=zE (base:=ak.n+3) (H0:=h.n) (r:=ak.n) (y:=eA) (F:=F) (G:=G) (ot:=some t) (by rw[o0];exact dN rfl) (f_.zD w.m3 (by omega) cd) (f_.zD w.hL (by omega) cd) (g_.bM (λd aq=>⟨aq,cd d (w.hZ d aq).1 (w.hZ d aq).2.1⟩) _ _ w.ts) (hx.bM (λd aq=>⟨aq,kp d (by have:=gC d aq;omega)⟩) _ _ t8) (by omega) (by omega) (λd aq=>by have:=w.hZ d aq;omega) (λd aq=>by have:=gC d aq;omega)
            have abd:Fr p q h.n h eA:=w.b0.trans (Nat.le_refl _) ⟨by omega,λd aq aY a1=>(kp d (by omega)).trans (pS d (by omega) aY a1)⟩
            exact q9 M q h (R:=m4 p q h (some (.mk (a_ st).1 [] [] xs (some t),(OL,hO)))) ⟨_,aB gh rfl,n,aB iz rfl,(by omega),_,dY iz rfl rfl,_,aB gB rfl,p,aB iL rfl,(a_ st).1,ak,h1,_,aB bf rfl,_,aB aT rfl,_,ak,co,rfl,au,_,aB bf rfl,n+1,aB aT rfl,ak,mt,(a_ st).1,iT,ch,cY,cc,dt,ak.n,aB df.ac rfl,(a_ st).1,aB df.ef rfl,λh=>absurd h eK,λ_=>⟨λh=>absurd h eE,λ_=>⟨λ_=>⟨_,aB df.iy rfl,_,zG,.inl ⟨bY,gP,ak.n,aB (dX w.ac) rfl,_,aB (dX w.iy) rfl,.inl ⟨u,cJ,nY,eA,ra,aB si rfl,ak.n,aB yX rfl,ak.n,eA,hy,rfl,abd,by rw[o0];exact cg.u0 CO (by omega),(kp q (by omega)).trans sO,nW,nX⟩⟩⟩,λh=>absurd fQ h⟩⟩⟩
        by_cases gT:(a_ st).1=9
        · cases ad:eF hY (gY (dd 0 j)) (a_ gv.1).1 (gu gv) with
          |none=>
           have iJ:hv (dd 0 j) (a_ st).1 gv=none:=by simp only[hv];rw[if_neg eK,if_neg eE,if_neg fQ,if_pos gT,ad];rfl
           rw[iJ]
           rw[ad] at p9
           obtain⟨bY,gP,f7⟩:=p9
           exact q9 M q h (R:=m4 p q h none) ⟨_,aB gh rfl,n,aB iz rfl,(by omega),_,dY iz rfl rfl,_,aB gB rfl,p,aB iL rfl,(a_ st).1,ak,h1,_,aB bf rfl,_,aB aT rfl,_,ak,co,rfl,au,_,aB bf rfl,n+1,aB aT rfl,ak,mt,(a_ st).1,iT,ch,cY,cc,dt,ak.n,aB df.ac rfl,(a_ st).1,aB df.ef rfl,λh=>absurd h eK,λ_=>⟨λh=>absurd h eE,λ_=>⟨λh=>absurd h fQ,λ_=>⟨λ_=>⟨_,aB df.iy rfl,_,zG,.inr ⟨fh,bY,gP,bY,rfl,f7⟩⟩,λh=>absurd gT h⟩⟩⟩⟩
          |some s=>
           rw[ad] at p9
           obtain⟨⟨og,pj⟩,ns,xs⟩:=s
           obtain rfl:ns=[]:=nil _ ad
           obtain⟨bY,gP,gd,b5,bJ,F,rs,w⟩:=p9
           have iJ:hv (dd 0 j) (a_ st).1 gv=some (.mk (a_ st).1 [] [] xs none,(og,pj)):=by simp only[hv];rw[if_neg eK,if_neg eE,if_neg fQ,if_pos gT,ad,gT];rfl
           rw[iJ]
           obtain⟨hy,nW,nX⟩:=zE (H0:=h.n) (G:=λ_=>False) (ot:=none) w.ef w.m3 w.hL w.ts rfl (by omega) (by have:=w.bs;omega) (λd aq=>by have:=w.hZ d aq;omega) (λ_ hf=>hf.elim)
           exact q9 M q h (R:=m4 p q h (some (.mk (a_ st).1 [] [] xs none,(og,pj)))) ⟨_,aB gh rfl,n,aB iz rfl,(by omega),_,dY iz rfl rfl,_,aB gB rfl,p,aB iL rfl,(a_ st).1,ak,h1,_,aB bf rfl,_,aB aT rfl,_,ak,co,rfl,au,_,aB bf rfl,n+1,aB aT rfl,ak,mt,(a_ st).1,iT,ch,cY,cc,dt,ak.n,aB df.ac rfl,(a_ st).1,aB df.ef rfl,λh=>absurd h eK,λ_=>⟨λh=>absurd h eE,λ_=>⟨λh=>absurd h fQ,λ_=>⟨λ_=>⟨_,aB df.iy rfl,_,zG,.inl ⟨bY,gP,ak.n,aB w.ac rfl,ak.n,bY,hy,rfl,w.b0,w.rd,w.je,nW,nX⟩⟩,λh=>absurd gT h⟩⟩⟩⟩
        have iJ:hv (dd 0 j) (a_ st).1 gv=some (.mk (a_ st).1 [] [] [] none,((a_ st).2,n+1)):=by simp only[hv];rw[if_neg eK,if_neg eE,if_neg fQ,if_neg gT,kI]
        rw[iJ]
        obtain⟨hy,nW,nX⟩:=zE (H0:=h.n) (G:=λ_=>False) (ot:=none) df.ef df.m3 df.hL df.ts rfl (by omega) (by omega) (λd aq=>aq.elim) (λ_ hf=>hf.elim)
        exact q9 M q h (R:=m4 p q h (some (.mk (a_ st).1 [] [] [] none,((a_ st).2,n+1)))) ⟨_,aB gh rfl,n,aB iz rfl,(by omega),_,dY iz rfl rfl,_,aB gB rfl,p,aB iL rfl,(a_ st).1,ak,h1,_,aB bf rfl,_,aB aT rfl,_,ak,co,rfl,au,_,aB bf rfl,n+1,aB aT rfl,ak,mt,(a_ st).1,iT,ch,cY,cc,dt,ak.n,aB df.ac rfl,(a_ st).1,aB df.ef rfl,λh=>absurd h eK,λ_=>⟨λh=>absurd h eE,λ_=>⟨λh=>absurd h fQ,λ_=>⟨λh=>absurd h gT,λ_=>⟨ak.n,aB df.ac rfl,ak.n,cc,hy,rfl,df.b0,df.rd,df.je,nW,nX⟩⟩⟩⟩⟩
      · have h_:dd 0 (j+1) (st,n)=none:=by simp only[dd];rw[if_neg (λaj=>lE aj.2.2.2)]
        rw[h_]
        refine HJ M q h (R:=m4 p q h none) ⟨_,aB gh rfl,n,aB iz rfl,(by omega),_,dY iz rfl rfl,_,aB gB rfl,p,aB iL rfl,(a_ st).1,ak,h1,_,aB bf rfl,_,aB aT rfl,_,ak,co,λ_=>⟨λ_=>⟨_,aB bf rfl,n+1,aB aT rfl,fh,ak,?_,ak,rfl,f2⟩,λaj=>absurd au aj⟩,λaj=>(by cases aj)⟩
        rw[tU lE,show M=M-1+1 by omega];exact zA _ _
    · have h_:dd 0 (j+1) (st,n)=none:=by simp only[dd];rw[if_neg (λaj=>au aj.2.2.1)]
      rw[h_]
      refine HJ M q h (R:=m4 p q h none) ⟨_,aB gh rfl,n,aB iz rfl,(by omega),_,dY iz rfl rfl,_,aB gB rfl,p,aB iL rfl,(a_ st).1,ak,h1,_,aB bf rfl,_,aB aT rfl,_,ak,co,λ_=>⟨λaj=>absurd aj au,λ_=>⟨fh,ak,?_,ak,rfl,f2⟩⟩,λaj=>(by cases aj)⟩
      rw[show M=M-1+1 by omega];exact zA _ _
  · have oX:(!(a_ st).2.isNone)=false:=by cases hs:(a_ st).2 with|none=>rfl|some _=>rw[hs] at cR;exact absurd rfl cR
    rw[oX] at co
    have h_:dd 0 (j+1) (st,n)=none:=by simp only[dd];rw[if_neg (λaj=>cR aj.1)]
    rw[h_]
    refine HJ M q h (R:=m4 p q h none) ⟨_,aB gh rfl,n,aB iz rfl,(by omega),_,dY iz rfl rfl,_,aB gB rfl,p,aB iL rfl,(a_ st).1,ak,h1,_,aB bf rfl,_,aB aT rfl,_,ak,co,λaj=>(by cases aj),λ_=>⟨fh,ak,?_,ak,rfl,f2⟩⟩
    rw[show M=M-1+1 by omega];exact zA _ _
end Go.Proofs.cN
namespace Go.Proofs.cN
open Go ay Go.Proofs cS Go.Proofs.cf
open Go.Proofs.cW (dC cg lM)
open Go.Proofs.ed (cM cv a_ cH ff)
set_option maxRecDepth 100000
set_option maxHeartbeats 1000000
abbrev OM(d:aL×Nat):List J:=[.str d.1,.ptr d.2 0]
theorem sP:sa Tryz.prog OM 2 53 22 where
 hu:=by kernel_rfl
 gU:=by kernel_rfl
 info:=by
  obtain⟨i,af⟩:=Option.isSome_iff_exists.1 (show(Tryz.prog.info? 53).isSome=true by kernel_rfl)
  refine⟨i,af,?_,?_⟩
  · have:(Tryz.prog.info? 53).map (·.size)=some 2:=by kernel_rfl
    rw[af] at this;simpa using this
  · have:(Tryz.prog.info? 53).map (λi=>Nat.ble i.bytes 1000)=some true:=by kernel_rfl
    rw[af] at this
    exact Nat.le_of_ble_eq_true (by simpa using this)
 zero:=⟨.agg [.str [],.bc],by kernel_rfl,rfl⟩
 size:=by kernel_rfl
 len:=λ_=>rfl
 cell:=λ_=>rfl
 pos:=by decide
def m7(f:Q->Option (a3×Q))(x:cv×List dQ):Option (cv×List dQ):=(f ((cH x.1).2,0)).map λr=>(r.2.1,x.2++[((cH x.1).1,some r.1)])
def lP(aW:Nat)(st:cv):Option (cv×List dQ):=eF (λs=>s.1.isSome) (m7 (dd aW 61)) (a_ st).1 ((a_ st).2,[])
def jf(F:Nat->Prop)(h:aa):List dQ->List (aL×Nat)->Prop
 |[],aV=>aV=[]
 |e::l,aV=>∃d es,aV=d::es/\e.1=d.1/\ha F h e.2 (.ptr d.2 0)/\jf F h l es
theorem jf.bM{F G:Nat->Prop}{h g:aa}(e:∀b,F b->G b/\g.get b=h.get b):∀{l:List dQ} {aV:List (aL×Nat)},jf F h l aV->jf G g l aV
 |[],aV,ad=>ad
 |x::l,aV,ad=>by
  obtain⟨d,es,ab,ae,av,aK⟩:=ad
  exact⟨d,es,ab,ae,ha.bM e _ _ av,jf.bM e aK⟩
theorem jf.snoc{F:Nat->Prop}{h:aa}{e:dQ}{d:aL×Nat}(ab:e.1=d.1)(ae:ha F h e.2 (.ptr d.2 0)):∀{l:List dQ} {aV:List (aL×Nat)},jf F h l aV->jf F h (l++[e]) (aV++[d])
 |[],aV,ad=>by
  have e:aV=[]:=ad
  subst e
  exact⟨d,[],rfl,ab,ae,rfl⟩
 |x::l,aV,ad=>by
  obtain⟨bx,es,rfl,bA,c8,e1⟩:=ad
  exact⟨bx,es++[d],rfl,bA,c8,jf.snoc ab ae e1⟩
theorem jf.len{F:Nat->Prop}{h:aa}:∀{l:List dQ} {aV:List (aL×Nat)},jf F h l aV->aV.length=l.length
 |[],aV,ad=>by
  have e:aV=[]:=ad
  subst e;rfl
 |x::l,aV,ad=>by
  obtain⟨bx,es,rfl,bA,c8,e1⟩:=ad
  simp[jf.len e1]
theorem jf.nth{F:Nat->Prop}{h:aa}:∀{l:List dQ} {aV:List (aL×Nat)},jf F h l aV->∀i (ab:i<l.length) (ae:i<aV.length),l[i].1=aV[i].1/\ha F h l[i].2 (.ptr aV[i].2 0)
 |[],aV,ad,i,ab,_=>by simp at ab
 |x::l,aV,ad,i,ab,ae=>by
  obtain⟨bx,es,rfl,bA,c8,e1⟩:=ad
  cases i with
  |zero=>exact⟨bA,c8⟩
  |succ i=>exact jf.nth e1 i (by simpa using ab) (by simpa using ae)
def gR(F:Nat->Prop)(h:aa)(v:J)(l:List dQ):Prop:=(v=.az/\l=[])\/∃b off aG,v=.slice b off l.length aG/\F b/\(∀i (af:i<l.length),∃w,ay.loadCells h b (off+i*2) 2=some [.str l[i].1,w]/\ha F h l[i].2 w)/\0<l.length/\aG≠ .dead
theorem gR.bM{F G:Nat->Prop}{h g:aa}{v:J}{l:List dQ}(e:∀b,F b->G b/\g.get b=h.get b)(ai:gR F h v l):gR G g v l:=by
 rcases ai with ai|⟨b,off,aG,ab,ae,aK,bU⟩
 · exact .inl ai
 · refine .inr ⟨b,off,aG,ab,(e b ae).1,λi af=>?_,bU⟩
   obtain⟨w,cq,cp⟩:=aK i af
   refine⟨w,?_,ha.bM e _ _ cp⟩
   rw[<-cq]
   unfold ay.loadCells
   rw[(e b ae).2]
theorem gR.at{F:Nat->Prop}{B:Nat}{h:aa}{v:J}{l:List dQ}(e:∀b,F b->b<B)(ai:gR F h v l):kU B h v l:=by
 rcases ai with ai|⟨b,off,aG,ab,ae,aK,bU⟩
 · exact .inl ai
 · refine .inr ⟨b,off,aG,ab,e b ae,λi af=>?_,bU⟩
   obtain⟨w,cq,cp⟩:=aK i af
   exact⟨w,cq,ha.at e _ _ cp⟩
theorem gR.cell{F:Nat->Prop}{h:aa}{v:J}{l:List dQ}(ai:gR F h v l):v.bF=true:=by rcases ai with⟨rfl,_⟩|⟨b,off,aG,rfl,_⟩<;>rfl
structure qa(p q a b base:Nat)(h0:aa)(v:J)(F:Nat->Prop)(aV:List (aL×Nat))(s:cv×List dQ)(h:aa):Prop where
 rd:cg h p s.1
 je:∃n,h.get q=some (kW p n)
 b0:Fr p q h0.n h0 h
 ac:h.get a=some (.cells [.ptr q 0] 59 .own 0 0)
 iy:h.get b=some (.cells [v] 22 .own 0 0)
 bs:base<=h.n
 rw:f_ OM 2 53 base h v aV
 es:jf F h s.2 aV
 hZ:∀d,F d->base<=d/\d<h.n/\(∀n aG,v≠ .slice d 0 n aG)
theorem qa.later{p q a b base:Nat}{h0 h g:aa}{v:J}{F:Nat->Prop}{aV:List (aL×Nat)}{s:cv×List dQ}(ki:p<q)(kI:q<h0.n)(a5:h0.n<=a/\a<base)(ag:h0.n<=b/\b<base)(w:qa p q a b base h0 v F aV s h){st:cv}(ai:cg g p st)(a1:∃n,g.get q=some (kW p n))(aJ:h.n<=g.n)(au:∀d,d<h.n->d≠p->d≠q->g.get d=h.get d):qa p q a b base h0 v F aV (st,s.2) g:=by
 have bN:=w.bs
 have iF:∀d,base<=d->d<h.n->g.get d=h.get d:=λd aq aw=>au d aw (by omega) (by omega)
 exact⟨ai,a1,w.b0.trans w.b0.n ⟨aJ,λd aq aY a1=>au d aq aY a1⟩,(au a (by omega) (by omega) (by omega)).trans w.ac,(au b (by omega) (by omega) (by omega)).trans w.iy,by omega,f_.zD w.rw aJ iF,jf.bM (λd aq=>⟨aq,iF d (w.hZ d aq).1 (w.hZ d aq).2.1⟩) w.es,λd aq=>by obtain⟨bz,bA,c8⟩:=w.hZ d aq;exact⟨bz,by omega,c8⟩⟩
theorem qa.add{p q a b base:Nat}{h0 h:aa}{v:J}{F:Nat->Prop}{aV:List (aL×Nat)}{s:cv×List dQ}(ki:p<q)(kI:q<h0.n)(a5:h0.n<=a/\a<base)(ag:h0.n<=b/\b<base)(oe:a≠b)(w:qa p q a b base h0 v F aV s h){x:aL}{t:a3}{u:Nat}{G:Nat->Prop}{src:J}(a2:hx G h t (.ptr u 0))(gC:∀d,G d->base<=d/\d<h.n/\(∀n aG,v≠ .slice d 0 n aG))(hs:hP h 2 src=some (1,[.str x,.ptr u 0]))(aw:s.2.length<=900000):
  ∃g v',v'=.slice h.n 0 (aV++[(x,u)]).length (.aM 2)/\gl Tryz.prog h 22 (some 22) v src=some (v',g)/\g.get b=some (.cells [v] 22 .own 0 0)/\qa p q a b base h0 v' (λd=>F d\/G d) (aV++[(x,u)]) (s.1,s.2++[(x,some t)]) (g.set b (some (.cells [v'] 22 .own 0 0))):=by
 have hlen:=jf.len w.es
 obtain⟨g,e,al,eW,u1,nT⟩:=C3 sP (d:=(x,u)) w.rw w.bs hs (by omega)
 have bN:=w.bs
 have lw:∀d,d<base->g.get d=h.get d:=λd aq=>u1.get d aq
 have fD:∀d,d≠b->(g.set b (some (.cells [.slice h.n 0 (aV++[(x,u)]).length (.aM 2)] 22 .own 0 0))).get d=g.get d:=λd aq=>by rw[aa.bH,if_neg aq]
 obtain⟨q7,iL⟩:=w.je
 refine⟨g,_,rfl,e,(lw b ag.2).trans w.iy,?_⟩
 refine⟨cg.sN w.rd (by simp;omega) λd aq=>(fD d (by omega)).trans (lw d (by omega)),⟨q7,(fD q (by omega)).trans ((lw q (by omega)).trans iL)⟩,w.b0.trans (Nat.le_refl _) ⟨by simp;omega,λd aq _ _=>(fD d (by omega)).trans (lw d (by omega))⟩,(fD a oe).trans ((lw a a5.2).trans w.ac),dN rfl,by simp;omega,?_,?_,?_⟩
 · exact .inr ⟨h.n,rfl,by simp,(fD h.n (by omega)).trans al,bN,by simp;omega⟩
 · have aC:ha (λd=>F d\/G d) (g.set b (some (.cells [.slice h.n 0 (aV++[(x,u)]).length (.aM 2)] 22 .own 0 0))) (some t) (.ptr u 0):=hx.bM (λd aq=>⟨.inr aq,by
     obtain⟨bz,bA,c8⟩:=gC d aq
     exact(fD d (by omega)).trans (nT d bA c8)⟩) _ _ a2
   exact jf.snoc (e:=(x,some t)) (d:=(x,u)) rfl aC (jf.bM (λd aq=>⟨.inl aq,by
    obtain⟨bz,bA,c8⟩:=w.hZ d aq
    exact(fD d (by omega)).trans (nT d bA c8)⟩) w.es)
 · intro d aq
   have key:base<=d/\d<h.n/\(∀n aG,v≠ .slice d 0 n aG):=by
    rcases aq with aq|aq
    · exact w.hZ d aq
    · exact gC d aq
   obtain⟨bz,bA,c8⟩:=key
   refine⟨bz,by simp;omega,λn aG e=>?_⟩
   injection e with aE
   omega
end Go.Proofs.cN
