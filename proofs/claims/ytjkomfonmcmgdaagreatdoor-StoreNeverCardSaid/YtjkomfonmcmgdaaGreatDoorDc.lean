/-
  PROVED HERE: contracts of functions (Dc). No condition beside each statement's own.
-/
import Derived.Test.YtjkomfonmcmgdaaGreatDoorDb
import Derived.Test.YtjkomfonmcmgdaaGreatDoorTx
set_option linter.unusedVariables false
set_option linter.unusedSimpArgs false
namespace Go.Proofs.cF
open Go aM Go.Proofs c_
set_option maxRecDepth 100000
set_option maxHeartbeats 1000000
theorem Vn(call:aI->List I->J->av)(v:I)(h:J):
  aH Tryz.prog Tryz.f53 none call [0] (ah.mk [(0,v)] [] .none h) (.nrm)
   (ah.mk [(0,v)] [] .none h):=
 bF [0] (hs:=[]) (by kernel_rfl)<| .nil
theorem Vo(call:aI->List I->J->av)(r k:Nat)(h:J)(fk:Nat)
  (H1:au h r (0+0)=some (.int .i64 (.ofNat fk)))
  (aQ:bM (.ofNat fk) (.ofNat 1)=true):
  aH Tryz.prog Tryz.f53 none call [1,0] (ah.mk [(0,.ptr r 0)] [] .none h) (.ret)
   (ah.mk [(0,.ptr r 0),(2,.bool false)] [] .none h):=
 bF [0,2] (hs:=[.v (.bool false),.b false,.b false,.b false,.b false,.v (.int .i64 (.ofNat fk)),.b false,.b false,.b true,.b true,.b true,.b true,.b true,.b true,.b true]) (by kernel_rfl)<| .cons (by kernel_rfl:eB Tryz.prog h BinOp.eql 35 (Operand.tmp 7) (Operand.const (Value.pointer none)) (I.ptr r 0) I.bb=some (I.bool false))<| .cons (by kernel_rfl:false=false)<| .cons (by kernel_rfl:false=false)<| .cons (by kernel_rfl:false=false)<| .cons (by kernel_rfl:false=false)<| .cons H1<| .cons (by kernel_rfl:false=false)<| .cons (by kernel_rfl:false=false)<| .cons aQ<| .cons aQ<| .cons aQ<| .cons aQ<| .cons aQ<| .cons aQ<| .cons (by kernel_rfl:true=true)<| .nil
theorem Vp(call:aI->List I->J->av)(r k:Nat)(h:J)(fk:Nat)
  (H1:au h r (0+0)=some (.int .i64 (.ofNat fk)))
  (aQ:bM (.ofNat fk) (.ofNat 1)=false)
  (bq:bM (.ofNat 9) (.ofNat fk)=true):
  aH Tryz.prog Tryz.f53 none call [1,0] (ah.mk [(0,.ptr r 0)] [] .none h) (.ret)
   (ah.mk [(0,.ptr r 0),(2,.bool false)] [] .none h):=
 bF [0,2] (hs:=[.v (.bool false),.b false,.b false,.b false,.b false,.v (.int .i64 (.ofNat fk)),.b false,.b false,.b false,.b false,.b false,.b false,.v (.int .i64 (.ofNat fk)),.b false,.b false,.b true]) (by kernel_rfl)<| .cons (by kernel_rfl:eB Tryz.prog h BinOp.eql 35 (Operand.tmp 7) (Operand.const (Value.pointer none)) (I.ptr r 0) I.bb=some (I.bool false))<| .cons (by kernel_rfl:false=false)<| .cons (by kernel_rfl:false=false)<| .cons (by kernel_rfl:false=false)<| .cons (by kernel_rfl:false=false)<| .cons H1<| .cons (by kernel_rfl:false=false)<| .cons (by kernel_rfl:false=false)<| .cons aQ<| .cons aQ<| .cons aQ<| .cons aQ<| .cons H1<| .cons aQ<| .cons aQ<| .cons bq<| .nil
theorem Vq(call:aI->List I->J->av)(r k:Nat)(h:J)(fk:Nat)
  (H1:au h r (0+0)=some (.int .i64 (.ofNat fk)))
  (aQ:bM (.ofNat fk) (.ofNat 1)=false)
  (bq:bM (.ofNat 9) (.ofNat fk)=false):
  aH Tryz.prog Tryz.f53 none call [1,0] (ah.mk [(0,.ptr r 0)] [] .none h) (.nrm)
   (ah.mk [(0,.ptr r 0)] [] .none h):=
 bF [0,2] (hs:=[.v (.bool false),.b false,.b false,.b false,.b false,.v (.int .i64 (.ofNat fk)),.b false,.b false,.b false,.b false,.b false,.b false,.v (.int .i64 (.ofNat fk)),.b false,.b false,.b false]) (by kernel_rfl)<| .cons (by kernel_rfl:eB Tryz.prog h BinOp.eql 35 (Operand.tmp 7) (Operand.const (Value.pointer none)) (I.ptr r 0) I.bb=some (I.bool false))<| .cons (by kernel_rfl:false=false)<| .cons (by kernel_rfl:false=false)<| .cons (by kernel_rfl:false=false)<| .cons (by kernel_rfl:false=false)<| .cons H1<| .cons (by kernel_rfl:false=false)<| .cons (by kernel_rfl:false=false)<| .cons aQ<| .cons aQ<| .cons aQ<| .cons aQ<| .cons H1<| .cons aQ<| .cons aQ<| .cons bq<| .nil
theorem Vr(call:aI->List I->J->av)(r:Nat)(h:J){Q:bn->ah->Prop}(H:∃s1:List UInt8,au (h.room 54) r (0+1)=some (.str s1)/\∃aD:Nat,au (h.room 54) r (0+0)=some (.int .i64 (.ofNat aD))/\(eR (!dF s1 []) (a8 (.ofNat aD) (.ofNat 6))=true->∃v1:I,au (h.room 54) r (0+2)=some v1/\∃bm:Nat,b9 Tryz.prog (h.room 54) 63 v1=some (.int .i64 (.ofNat bm))/\(0<bm->∃bG:Nat,au (h.room 54) r (0+0)=some (.int .i64 (.ofNat bG))/\(bG=7->∃v2:I,au (h.room 54) r (0+3)=some v2/\∃bV:Nat,b9 Tryz.prog (h.room 54) 50 v2=some (.int .i64 (.ofNat bV))/\(0<bV->∃cc:Nat,au (h.room 54) r (0+0)=some (.int .i64 (.ofNat cc))/\(cc<7->I.sound v1=true/\I.sound v2=true/\Q .ret (ah.mk [(0,.ptr r 0),(2,.bool false)] [] .none (h.room 54)))/\(¬cc<7->∃cI:Nat,au (h.room 54) r (0+4)=some (.ptr cI 0)/\∃dr:Nat,au (h.room 54) r (0+0)=some (.int .i64 (.ofNat dr))/\I.sound v1=true/\I.sound v2=true/\(eR true (a8 (.ofNat dr) (.ofNat 8))=true->Q .nrm (ah.mk [(0,.ptr r 0)] [] .none (h.room 54)))/\(eR true (a8 (.ofNat dr) (.ofNat 8))=false->Q .ret (ah.mk [(0,.ptr r 0),(2,.bool false)] [] .none (h.room 54)))))/\(¬0<bV->∃en:Nat,au (h.room 54) r (0+4)=some (.ptr en 0)/\∃eH:Nat,au (h.room 54) r (0+0)=some (.int .i64 (.ofNat eH))/\I.sound v1=true/\I.sound v2=true/\(eR true (a8 (.ofNat eH) (.ofNat 8))=true->Q .nrm (ah.mk [(0,.ptr r 0)] [] .none (h.room 54)))/\(eR true (a8 (.ofNat eH) (.ofNat 8))=false->Q .ret (ah.mk [(0,.ptr r 0),(2,.bool false)] [] .none (h.room 54)))))/\(¬bG=7->I.sound v1=true/\Q .ret (ah.mk [(0,.ptr r 0),(2,.bool false)] [] .none (h.room 54))))/\(¬0<bm->∃c4:I,au (h.room 54) r (0+3)=some c4/\∃fX:Nat,b9 Tryz.prog (h.room 54) 50 c4=some (.int .i64 (.ofNat fX))/\(0<fX->∃iH:Nat,au (h.room 54) r (0+0)=some (.int .i64 (.ofNat iH))/\(iH<7->I.sound v1=true/\I.sound c4=true/\Q .ret (ah.mk [(0,.ptr r 0),(2,.bool false)] [] .none (h.room 54)))/\(¬iH<7->∃jk:Nat,au (h.room 54) r (0+4)=some (.ptr jk 0)/\∃j8:Nat,au (h.room 54) r (0+0)=some (.int .i64 (.ofNat j8))/\I.sound v1=true/\I.sound c4=true/\(eR true (a8 (.ofNat j8) (.ofNat 8))=true->Q .nrm (ah.mk [(0,.ptr r 0)] [] .none (h.room 54)))/\(eR true (a8 (.ofNat j8) (.ofNat 8))=false->Q .ret (ah.mk [(0,.ptr r 0),(2,.bool false)] [] .none (h.room 54)))))/\(¬0<fX->∃px:Nat,au (h.room 54) r (0+4)=some (.ptr px 0)/\∃nF:Nat,au (h.room 54) r (0+0)=some (.int .i64 (.ofNat nF))/\I.sound v1=true/\I.sound c4=true/\(eR true (a8 (.ofNat nF) (.ofNat 8))=true->Q .nrm (ah.mk [(0,.ptr r 0)] [] .none (h.room 54)))/\(eR true (a8 (.ofNat nF) (.ofNat 8))=false->Q .ret (ah.mk [(0,.ptr r 0),(2,.bool false)] [] .none (h.room 54))))))/\(eR (!dF s1 []) (a8 (.ofNat aD) (.ofNat 6))=false->Q .ret (ah.mk [(0,.ptr r 0),(2,.bool false)] [] .none (h.room 54)))):
  a4 Tryz.prog Tryz.f53 call [1,1,0] ⟨[(0,.ptr r 0)],[],.none,h⟩ Q:=
 dI [] [0,2] [(0,.v (.ptr r 0))] rfl (Eq.mp (by kernel_rfl) H)
theorem Vs(call:aI->List I->J->av)(r:Nat)(h:J){Q:bn->ah->Prop}(H:∃s1:List UInt8,au (h.room 54) r (0+1)=some (.str s1)/\∃aD:Nat,au (h.room 54) r (0+0)=some (.int .i64 (.ofNat aD))/\(eR (!dF s1 []) (a8 (.ofNat aD) (.ofNat 6))=true->∃v1:I,au (h.room 54) r (0+2)=some v1/\∃bm:Nat,b9 Tryz.prog (h.room 54) 63 v1=some (.int .i64 (.ofNat bm))/\(0<bm->∃bG:Nat,au (h.room 54) r (0+0)=some (.int .i64 (.ofNat bG))/\(bG=7->∃v2:I,au (h.room 54) r (0+3)=some v2/\∃bV:Nat,b9 Tryz.prog (h.room 54) 50 v2=some (.int .i64 (.ofNat bV))/\(0<bV->∃cc:Nat,au (h.room 54) r (0+0)=some (.int .i64 (.ofNat cc))/\(cc<7->I.sound v1=true/\I.sound v2=true/\Q .ret (ah.mk [(0,.ptr r 0),(2,.bool false)] [] .none (h.room 54)))/\(¬cc<7->au (h.room 54) r (0+4)=some .bb/\∃cI:Nat,au (h.room 54) r (0+0)=some (.int .i64 (.ofNat cI))/\I.sound v1=true/\I.sound v2=true/\(eR false (a8 (.ofNat cI) (.ofNat 8))=true->Q .nrm (ah.mk [(0,.ptr r 0)] [] .none (h.room 54)))/\(eR false (a8 (.ofNat cI) (.ofNat 8))=false->Q .ret (ah.mk [(0,.ptr r 0),(2,.bool false)] [] .none (h.room 54)))))/\(¬0<bV->au (h.room 54) r (0+4)=some .bb/\∃dr:Nat,au (h.room 54) r (0+0)=some (.int .i64 (.ofNat dr))/\I.sound v1=true/\I.sound v2=true/\(eR false (a8 (.ofNat dr) (.ofNat 8))=true->Q .nrm (ah.mk [(0,.ptr r 0)] [] .none (h.room 54)))/\(eR false (a8 (.ofNat dr) (.ofNat 8))=false->Q .ret (ah.mk [(0,.ptr r 0),(2,.bool false)] [] .none (h.room 54)))))/\(¬bG=7->I.sound v1=true/\Q .ret (ah.mk [(0,.ptr r 0),(2,.bool false)] [] .none (h.room 54))))/\(¬0<bm->∃c4:I,au (h.room 54) r (0+3)=some c4/\∃en:Nat,b9 Tryz.prog (h.room 54) 50 c4=some (.int .i64 (.ofNat en))/\(0<en->∃eH:Nat,au (h.room 54) r (0+0)=some (.int .i64 (.ofNat eH))/\(eH<7->I.sound v1=true/\I.sound c4=true/\Q .ret (ah.mk [(0,.ptr r 0),(2,.bool false)] [] .none (h.room 54)))/\(¬eH<7->au (h.room 54) r (0+4)=some .bb/\∃fX:Nat,au (h.room 54) r (0+0)=some (.int .i64 (.ofNat fX))/\I.sound v1=true/\I.sound c4=true/\(eR false (a8 (.ofNat fX) (.ofNat 8))=true->Q .nrm (ah.mk [(0,.ptr r 0)] [] .none (h.room 54)))/\(eR false (a8 (.ofNat fX) (.ofNat 8))=false->Q .ret (ah.mk [(0,.ptr r 0),(2,.bool false)] [] .none (h.room 54)))))/\(¬0<en->au (h.room 54) r (0+4)=some .bb/\∃iH:Nat,au (h.room 54) r (0+0)=some (.int .i64 (.ofNat iH))/\I.sound v1=true/\I.sound c4=true/\(eR false (a8 (.ofNat iH) (.ofNat 8))=true->Q .nrm (ah.mk [(0,.ptr r 0)] [] .none (h.room 54)))/\(eR false (a8 (.ofNat iH) (.ofNat 8))=false->Q .ret (ah.mk [(0,.ptr r 0),(2,.bool false)] [] .none (h.room 54))))))/\(eR (!dF s1 []) (a8 (.ofNat aD) (.ofNat 6))=false->Q .ret (ah.mk [(0,.ptr r 0),(2,.bool false)] [] .none (h.room 54)))):
  a4 Tryz.prog Tryz.f53 call [1,1,0] ⟨[(0,.ptr r 0)],[],.none,h⟩ Q:=
 dI [(68,.bC (.is .bb))] [0,2] [(0,.v (.ptr r 0))] rfl (Eq.mp (by kernel_rfl) H)
theorem vI(x:Bool)(k c:Nat):eR x (a8 (Int.ofNat k) (Int.ofNat c))=!(x !=decide (k=c)):=by
 rw[tM];cases x<;>cases decide (k=c)<;>rfl
def yA(b:Bool)(s1 s2:ah)(e:bn)(s:ah):Prop:=if b=true then e=.nrm/\s=s1 else e=.ret/\s=s2
theorem Lc{b:Bool}{s1 s2:ah}(h:b=true):yA b s1 s2 .nrm s1:=by unfold yA;rw[if_pos h];exact⟨rfl,rfl⟩
theorem vJ{b:Bool}{s1 s2:ah}(h:b=false):yA b s1 s2 .ret s2:=by unfold yA;rw[if_neg (by rw[h];simp)];exact⟨rfl,rfl⟩
theorem Ld{fn:Func}{call:aI->List I->J->av}{p:List Nat}{st s1:ah}{b:Bool}{Γ Γ2:Env}{ad:J}(h:a4 Tryz.prog fn call p st (yA b s1 ⟨Γ,[],.none,ad⟩))(hs:cl Γ2 Γ):if b=true then aH Tryz.prog fn none call p st .nrm s1 else aH Tryz.prog fn none call p st .ret ⟨Γ2,[],.none,ad⟩:=by
 obtain⟨e,s,r,q⟩:=h
 cases b with
 |true=>obtain⟨rfl,rfl⟩:=q;exact r
 |false=>obtain⟨rfl,rfl⟩:=q;exact cZ.post r hs
theorem Vt{m R k N M w:Nat}{s:a5}{n a:I}{h:J}{bh:gE}{aN up:Nat}(ym:h.get R=some (.cells [.int .i64 (Int.ofNat k),.str s,n,a,.ptr w 0] 80 bh aN up))(aK:b9 Tryz.prog (h.room 54) 63 n=some (.int .i64 (Int.ofNat N)))(aS:b9 Tryz.prog (h.room 54) 50 a=some (.int .i64 (Int.ofNat M)))(jG:I.sound n=true)(mO:I.sound a=true):
  if hQ k s N M true=true then aH Tryz.prog Tryz.f53 none (Y m) [1,1,0] ⟨[(0,.ptr R 0)],[],.none,h⟩ .nrm ⟨[(0,.ptr R 0)],[],.none,h.room 54⟩
  else aH Tryz.prog Tryz.f53 none (Y m) [1,1,0] ⟨[(0,.ptr R 0)],[],.none,h⟩ .ret ⟨[(2,.bool false)],[],.none,h.room 54⟩:=by
 have al:(h.room 54).get R=some (.cells [.int .i64 (Int.ofNat k),.str s,n,a,.ptr w 0] 80 bh aN up):=ym
 refine Ld (Γ:=[(0,.ptr R 0),(2,.bool false)]) (Vr (Y m) R h ⟨s,aU al rfl,k,aU al rfl,λaG=>?_,λaG=>?_⟩) ⟨rfl,trivial⟩
 · rw[vI] at aG
   refine⟨n,aU al rfl,N,aK,λgG=>⟨k,aU al rfl,λdb=>⟨a,aU al rfl,M,aS,λgT=>⟨k,aU al rfl,λhq=>absurd hq (by omega),λhq=>⟨w,aU al rfl,k,aU al rfl,jG,mO,λa9=>?_,λa9=>?_⟩⟩,λgT=>⟨w,aU al rfl,k,aU al rfl,jG,mO,λa9=>?_,λa9=>?_⟩⟩,λdb=>⟨jG,?_⟩⟩,λgG=>⟨a,aU al rfl,M,aS,λgT=>⟨k,aU al rfl,λhq=>⟨jG,mO,?_⟩,λhq=>⟨w,aU al rfl,k,aU al rfl,jG,mO,λa9=>?_,λa9=>?_⟩⟩,λgT=>⟨w,aU al rfl,k,aU al rfl,jG,mO,λa9=>?_,λa9=>?_⟩⟩⟩
   all_goals (try rw[vI] at a9)
   all_goals first
    |(refine Lc ?_;simp only[hQ,aG,a9];simp;omega)
    |(refine vJ ?_;simp only[hQ,aG,a9];simp;done)
    |(refine vJ ?_;simp[hQ];omega)
 · rw[vI] at aG
   exact vJ (by simp only[hQ,aG];simp)
theorem Vu{m R k N M:Nat}{s:a5}{n a:I}{h:J}{bh:gE}{aN up:Nat}(ym:h.get R=some (.cells [.int .i64 (Int.ofNat k),.str s,n,a,.bb] 80 bh aN up))(aK:b9 Tryz.prog (h.room 54) 63 n=some (.int .i64 (Int.ofNat N)))(aS:b9 Tryz.prog (h.room 54) 50 a=some (.int .i64 (Int.ofNat M)))(jG:I.sound n=true)(mO:I.sound a=true):
  if hQ k s N M false=true then aH Tryz.prog Tryz.f53 none (Y m) [1,1,0] ⟨[(0,.ptr R 0)],[],.none,h⟩ .nrm ⟨[(0,.ptr R 0)],[],.none,h.room 54⟩
  else aH Tryz.prog Tryz.f53 none (Y m) [1,1,0] ⟨[(0,.ptr R 0)],[],.none,h⟩ .ret ⟨[(2,.bool false)],[],.none,h.room 54⟩:=by
 have al:(h.room 54).get R=some (.cells [.int .i64 (Int.ofNat k),.str s,n,a,.bb] 80 bh aN up):=ym
 refine Ld (Γ:=[(0,.ptr R 0),(2,.bool false)]) (Vs (Y m) R h ⟨s,aU al rfl,k,aU al rfl,λaG=>?_,λaG=>?_⟩) ⟨rfl,trivial⟩
 · rw[vI] at aG
   refine⟨n,aU al rfl,N,aK,λgG=>⟨k,aU al rfl,λdb=>⟨a,aU al rfl,M,aS,λgT=>⟨k,aU al rfl,λhq=>absurd hq (by omega),λhq=>⟨aU al rfl,k,aU al rfl,jG,mO,λa9=>?_,λa9=>?_⟩⟩,λgT=>⟨aU al rfl,k,aU al rfl,jG,mO,λa9=>?_,λa9=>?_⟩⟩,λdb=>⟨jG,?_⟩⟩,λgG=>⟨a,aU al rfl,M,aS,λgT=>⟨k,aU al rfl,λhq=>⟨jG,mO,?_⟩,λhq=>⟨aU al rfl,k,aU al rfl,jG,mO,λa9=>?_,λa9=>?_⟩⟩,λgT=>⟨aU al rfl,k,aU al rfl,jG,mO,λa9=>?_,λa9=>?_⟩⟩⟩
   all_goals (try rw[vI] at a9)
   all_goals first
    |(refine Lc ?_;simp only[hQ,aG,a9];simp;omega)
    |(refine vJ ?_;simp only[hQ,aG,a9];simp;done)
    |(refine vJ ?_;simp[hQ];omega)
 · rw[vI] at aG
   exact vJ (by simp only[hQ,aG];simp)
end Go.Proofs.cF
namespace Go.Proofs.cF
open Go aM Go.Proofs c_
set_option maxRecDepth 100000
set_option maxHeartbeats 1000000
theorem Le(call:aI->List I->J->av)(r:Nat)(h:J):
  aH Tryz.prog Tryz.f53 none call [1,1,1,0,0] (ah.mk [(0,.ptr r 0)] [] .none h) (.nrm)
   (ah.mk [(0,.ptr r 0),(3,.int .i64 (.ofNat 0))] [] .none h):=
 bF [0,3] (hs:=[]) (by kernel_rfl)<| .nil
theorem Vv(call:aI->List I->J->av)(r i N:Nat)(v:I)(h:J)
  (H1:au h r (0+3)=some v)
  (aQ:b9 Tryz.prog h 50 v=some (.int .i64 (.ofNat N)))
  (bq:bM (.ofNat i) (.ofNat N)=false):
  aH Tryz.prog Tryz.f53 none call [1,1,1,0,1,0,0] (ah.mk [(0,.ptr r 0),(3,.int .i64 (.ofNat i))] [] .none h) (.exit 0)
   (ah.mk [(0,.ptr r 0)] [] .none h):=
 bF [0] (hs:=[.v v,.o (.int .i64 (.ofNat N)),.b false]) (by kernel_rfl)<| .cons H1<| .cons aQ<| .cons bq<| .nil
theorem Vw(call:aI->List I->J->av)(r b off N i q j:Nat)(c:Bool)(x:I)(cp:b3)(h g:J)
  (H1:au h r (0+3)=some (.slice b off N cp))
  (aQ:bM (.ofNat i) (.ofNat N)=true)
  (bq:Nat.le (Nat.succ i) N/\I.ptr b q=I.ptr b (off+i*1))
  (bo:au h b q=some x)
  (bY:call (.fn 53) [x] h=av.ret (.bool c) g)
  (cJ:(!c)=true):
  aH Tryz.prog Tryz.f53 none call [1,1,1,0,1,0,0] (ah.mk [(0,.ptr r 0),(3,.int .i64 (.ofNat i))] [] .none h) (.ret)
   (ah.mk [(0,.ptr r 0),(2,.bool false),(3,.int .i64 (.ofNat i))] [] .none g):=
 bF [0,2,3] (hs:=[.v (.slice b off N cp),.b true,.v (.slice b off N cp),.v (.ptr b q),.v x,.c (.bool c) g,.b true]) (by kernel_rfl)<| .cons H1<| .cons aQ<| .cons H1<| .cons bq<| .cons bo<| .cons bY<| .cons cJ<| .nil
theorem Vx(call:aI->List I->J->av)(r b off N i q j:Nat)(c:Bool)(x:I)(cp:b3)(h g:J)
  (H1:au h r (0+3)=some (.slice b off N cp))
  (aQ:bM (.ofNat i) (.ofNat N)=true)
  (bq:Nat.le (Nat.succ i) N/\I.ptr b q=I.ptr b (off+i*1))
  (bo:au h b q=some x)
  (bY:call (.fn 53) [x] h=av.ret (.bool c) g)
  (cJ:(!c)=false)
  (dk:arith .add .i64 (.ofNat i) (.ofNat 1)=some (.int .i64 (.ofNat j))):
  aH Tryz.prog Tryz.f53 none call [1,1,1,0,1,0,0] (ah.mk [(0,.ptr r 0),(3,.int .i64 (.ofNat i))] [] .none h) (.nrm)
   (ah.mk [(0,.ptr r 0),(3,.int .i64 (.ofNat j))] [] .none g):=
 bF [0,2,3] (hs:=[.v (.slice b off N cp),.b true,.v (.slice b off N cp),.v (.ptr b q),.v x,.c (.bool c) g,.b false,.v (.int .i64 (.ofNat j))]) (by kernel_rfl)<| .cons H1<| .cons aQ<| .cons H1<| .cons bq<| .cons bo<| .cons bY<| .cons cJ<| .cons dk<| .nil
theorem Vy(call:aI->List I->J->av)(r k:Nat)(h:J)
  (H1:au h r (0+0)=some (.int .i64 (.ofNat k))):
  aH Tryz.prog Tryz.f53 none call [1,1,1,1,0,0] (ah.mk [(0,.ptr r 0)] [] .none h) (.nrm)
   (ah.mk [(0,.ptr r 0),(98,.int .i64 (.ofNat k))] [] .none h):=
 bF [0,98] (hs:=[.v (.int .i64 (.ofNat k))]) (by kernel_rfl)<| .cons H1<| .nil
theorem Vz(call:aI->List I->J->av)(r:Nat)(s:List UInt8)(b:Bool)(h g:J)
  (H1:au h r (0+1)=some (.str s))
  (aQ:call (.fn 81) [.str s] h=av.ret (.bool b) g):
  aH Tryz.prog Tryz.f53 none call [1,1,1,1,0,1] (ah.mk [(0,.ptr r 0),(98,.int .i64 (.ofNat 6))] [] .none h) (.ret)
   (ah.mk [(2,.bool b)] [] .none g):=
 bF [2] (hs:=[.b true,.v (.str s),.c (.bool b) g]) (by kernel_rfl)<| .cons (by kernel_rfl:a8 (Int.ofNat 6) (Int.ofNat 6)=true)<| .cons H1<| .cons aQ<| .nil
theorem VA(call:aI->List I->J->av)(r N M:Nat)(n a:I)(h:J)
  (H1:au (J.room h 11) r (0+2)=some n)
  (aQ:b9 Tryz.prog (J.room h 11) 63 n=some (.int .i64 (.ofNat N)))
  (bq:au (J.room h 11) r (0+3)=some a)
  (bo:b9 Tryz.prog (J.room h 11) 50 a=some (.int .i64 (.ofNat M)))
  (bY:I.sound n=true:=by first|with_reducible assumption|rfl|exact c7.snd (by with_reducible assumption)|exact c7.g5 (by with_reducible assumption)|exact ey.snd (by with_reducible assumption)|exact ey.g5 (by with_reducible assumption)|exact dE.snd (by with_reducible assumption)|exact dE.g5 (by with_reducible assumption))
  (cJ:I.sound a=true:=by first|with_reducible assumption|rfl|exact c7.snd (by with_reducible assumption)|exact c7.g5 (by with_reducible assumption)|exact ey.snd (by with_reducible assumption)|exact ey.g5 (by with_reducible assumption)|exact dE.snd (by with_reducible assumption)|exact dE.g5 (by with_reducible assumption))
  (dk:(!a8 (.ofNat N) (.ofNat M))=true):
  aH Tryz.prog Tryz.f53 none call [1,1,1,1,0,1] (ah.mk [(0,.ptr r 0),(98,.int .i64 (.ofNat 7))] [] .none h) (.ret)
   (ah.mk [(2,.bool false)] [] .none (J.room h 11)):=
 bF [2] (hs:=[.b false,.b true,.v n,.o (.int .i64 (.ofNat N)),.v a,.o (.int .i64 (.ofNat M)),.b true]) (by kernel_rfl)<| .cons (by kernel_rfl:a8 (Int.ofNat 7) (Int.ofNat 6)=false)<| .cons (by kernel_rfl:a8 (Int.ofNat 7) (Int.ofNat 7)=true)<| .cons H1<| .cons aQ<| .cons bq<| .cons bo<| .cons (by kernel_rfl:I.sound (I.ptr r 0)=true)<| .cons (by kernel_rfl:I.ptr r 0=I.ptr r 0)<| .cons (by kernel_rfl:I.sound (I.ptr r 0)=true)<| .cons (by kernel_rfl:I.ptr r 0=I.ptr r 0)<| .cons (by kernel_rfl:I.sound (I.ptr r (0+2))=true)<| .cons (by kernel_rfl:I.ptr r (0+2)=I.ptr r (0+2))<| .cons bY<| .cons H1<| .cons (by kernel_rfl:I.sound (I.int IntKind.i64 (Int.ofNat N))=true)<| .cons aQ<| .cons (by kernel_rfl:I.sound (I.ptr r 0)=true)<| .cons (by kernel_rfl:I.ptr r 0=I.ptr r 0)<| .cons (by kernel_rfl:I.sound (I.ptr r 0)=true)<| .cons (by kernel_rfl:I.ptr r 0=I.ptr r 0)<| .cons (by kernel_rfl:I.sound (I.ptr r (0+3))=true)<| .cons (by kernel_rfl:I.ptr r (0+3)=I.ptr r (0+3))<| .cons cJ<| .cons bq<| .cons (by kernel_rfl:I.sound (I.int IntKind.i64 (Int.ofNat M))=true)<| .cons bo<| .cons (by kernel_rfl:I.sound (I.bool !a8 (Int.ofNat N) (Int.ofNat M))=true)<| .cons (by kernel_rfl:(I.bool !a8 (Int.ofNat N) (Int.ofNat M))=I.bool !a8 (Int.ofNat N) (Int.ofNat M))<| .cons dk<| .nil
theorem VB(call:aI->List I->J->av)(r N M:Nat)(n a:I)(h g:J)
  (H1:au (J.room h 11) r (0+2)=some n)
  (aQ:b9 Tryz.prog (J.room h 11) 63 n=some (.int .i64 (.ofNat N)))
  (bq:au (J.room h 11) r (0+3)=some a)
  (bo:b9 Tryz.prog (J.room h 11) 50 a=some (.int .i64 (.ofNat M)))
  (bY:I.sound n=true:=by first|with_reducible assumption|rfl|exact c7.snd (by with_reducible assumption)|exact c7.g5 (by with_reducible assumption)|exact ey.snd (by with_reducible assumption)|exact ey.g5 (by with_reducible assumption)|exact dE.snd (by with_reducible assumption)|exact dE.g5 (by with_reducible assumption))
  (cJ:I.sound a=true:=by first|with_reducible assumption|rfl|exact c7.snd (by with_reducible assumption)|exact c7.g5 (by with_reducible assumption)|exact ey.snd (by with_reducible assumption)|exact ey.g5 (by with_reducible assumption)|exact dE.snd (by with_reducible assumption)|exact dE.g5 (by with_reducible assumption))
  (dk:(!a8 (.ofNat N) (.ofNat M))=false)
  (gy:aH Tryz.prog Tryz.f53 none call [1,1,1,1,0,1,0,1,1,1,0,1,1,0] (ah.mk [(4,.int .i64 (.ofNat 0)),(118,.bool !a8 (.ofNat N) (.ofNat M)),(106,.bool (a8 (.ofNat 7) (.ofNat 7))),(99,.bool (a8 (.ofNat 7) (.ofNat 6))),(0,.ptr r 0),(98,.int .i64 (.ofNat 7))] [] .none (J.room h 11)) (.exit 3) (ah.mk [(0,.ptr r 0)] [] .none g)):
  aH Tryz.prog Tryz.f53 none call [1,1,1,1,0,1] (ah.mk [(0,.ptr r 0),(98,.int .i64 (.ofNat 7))] [] .none h) (.nrm)
   (ah.mk [(0,.ptr r 0)] [] .none g):=
 bF [0] (hs:=[Hint.b false,Hint.b true,Hint.v n,Hint.o (I.int IntKind.i64 (Int.ofNat N)),Hint.v a,Hint.o (I.int IntKind.i64 (Int.ofNat M)),Hint.b false,Hint.loop (bn.exit 3) (ah.mk [(0,I.ptr r 0)] [] bD.none g)]) (by kernel_rfl)<| .cons (by kernel_rfl:a8 (Int.ofNat 7) (Int.ofNat 6)=false)<| .cons (by kernel_rfl:a8 (Int.ofNat 7) (Int.ofNat 7)=true)<| .cons H1<| .cons aQ<| .cons bq<| .cons bo<| .cons (by kernel_rfl:I.sound (I.ptr r 0)=true)<| .cons (by kernel_rfl:I.ptr r 0=I.ptr r 0)<| .cons (by kernel_rfl:I.sound (I.ptr r 0)=true)<| .cons (by kernel_rfl:I.ptr r 0=I.ptr r 0)<| .cons (by kernel_rfl:I.sound (I.ptr r (0+2))=true)<| .cons (by kernel_rfl:I.ptr r (0+2)=I.ptr r (0+2))<| .cons bY<| .cons H1<| .cons (by kernel_rfl:I.sound (I.int IntKind.i64 (Int.ofNat N))=true)<| .cons aQ<| .cons (by kernel_rfl:I.sound (I.ptr r 0)=true)<| .cons (by kernel_rfl:I.ptr r 0=I.ptr r 0)<| .cons (by kernel_rfl:I.sound (I.ptr r 0)=true)<| .cons (by kernel_rfl:I.ptr r 0=I.ptr r 0)<| .cons (by kernel_rfl:I.sound (I.ptr r (0+3))=true)<| .cons (by kernel_rfl:I.ptr r (0+3)=I.ptr r (0+3))<| .cons cJ<| .cons bq<| .cons (by kernel_rfl:I.sound (I.int IntKind.i64 (Int.ofNat M))=true)<| .cons bo<| .cons (by kernel_rfl:I.sound (I.bool !a8 (Int.ofNat N) (Int.ofNat M))=true)<| .cons (by kernel_rfl:(I.bool !a8 (Int.ofNat N) (Int.ofNat M))=I.bool !a8 (Int.ofNat N) (Int.ofNat M))<| .cons dk<| .cons gy<| .nil
theorem VC(call:aI->List I->J->av)(r N M:Nat)(n a:I)(h g:J)
  (H1:au (J.room h 11) r (0+2)=some n)
  (aQ:b9 Tryz.prog (J.room h 11) 63 n=some (.int .i64 (.ofNat N)))
  (bq:au (J.room h 11) r (0+3)=some a)
  (bo:b9 Tryz.prog (J.room h 11) 50 a=some (.int .i64 (.ofNat M)))
  (bY:I.sound n=true:=by first|with_reducible assumption|rfl|exact c7.snd (by with_reducible assumption)|exact c7.g5 (by with_reducible assumption)|exact ey.snd (by with_reducible assumption)|exact ey.g5 (by with_reducible assumption)|exact dE.snd (by with_reducible assumption)|exact dE.g5 (by with_reducible assumption))
  (cJ:I.sound a=true:=by first|with_reducible assumption|rfl|exact c7.snd (by with_reducible assumption)|exact c7.g5 (by with_reducible assumption)|exact ey.snd (by with_reducible assumption)|exact ey.g5 (by with_reducible assumption)|exact dE.snd (by with_reducible assumption)|exact dE.g5 (by with_reducible assumption))
  (dk:(!a8 (.ofNat N) (.ofNat M))=false)
  (gy:aH Tryz.prog Tryz.f53 none call [1,1,1,1,0,1,0,1,1,1,0,1,1,0] (ah.mk [(4,.int .i64 (.ofNat 0)),(118,.bool !a8 (.ofNat N) (.ofNat M)),(106,.bool (a8 (.ofNat 7) (.ofNat 7))),(99,.bool (a8 (.ofNat 7) (.ofNat 6))),(0,.ptr r 0),(98,.int .i64 (.ofNat 7))] [] .none (J.room h 11)) (.ret) (ah.mk [(2,.bool false)] [] .none g)):
  aH Tryz.prog Tryz.f53 none call [1,1,1,1,0,1] (ah.mk [(0,.ptr r 0),(98,.int .i64 (.ofNat 7))] [] .none h) (.ret)
   (ah.mk [(2,.bool false)] [] .none g):=
 bF [2] (hs:=[Hint.b false,Hint.b true,Hint.v n,Hint.o (I.int IntKind.i64 (Int.ofNat N)),Hint.v a,Hint.o (I.int IntKind.i64 (Int.ofNat M)),Hint.b false,Hint.loop bn.ret (ah.mk [(2,I.bool false)] [] bD.none g)]) (by kernel_rfl)<| .cons (by kernel_rfl:a8 (Int.ofNat 7) (Int.ofNat 6)=false)<| .cons (by kernel_rfl:a8 (Int.ofNat 7) (Int.ofNat 7)=true)<| .cons H1<| .cons aQ<| .cons bq<| .cons bo<| .cons (by kernel_rfl:I.sound (I.ptr r 0)=true)<| .cons (by kernel_rfl:I.ptr r 0=I.ptr r 0)<| .cons (by kernel_rfl:I.sound (I.ptr r 0)=true)<| .cons (by kernel_rfl:I.ptr r 0=I.ptr r 0)<| .cons (by kernel_rfl:I.sound (I.ptr r (0+2))=true)<| .cons (by kernel_rfl:I.ptr r (0+2)=I.ptr r (0+2))<| .cons bY<| .cons H1<| .cons (by kernel_rfl:I.sound (I.int IntKind.i64 (Int.ofNat N))=true)<| .cons aQ<| .cons (by kernel_rfl:I.sound (I.ptr r 0)=true)<| .cons (by kernel_rfl:I.ptr r 0=I.ptr r 0)<| .cons (by kernel_rfl:I.sound (I.ptr r 0)=true)<| .cons (by kernel_rfl:I.ptr r 0=I.ptr r 0)<| .cons (by kernel_rfl:I.sound (I.ptr r (0+3))=true)<| .cons (by kernel_rfl:I.ptr r (0+3)=I.ptr r (0+3))<| .cons cJ<| .cons bq<| .cons (by kernel_rfl:I.sound (I.int IntKind.i64 (Int.ofNat M))=true)<| .cons bo<| .cons (by kernel_rfl:I.sound (I.bool !a8 (Int.ofNat N) (Int.ofNat M))=true)<| .cons (by kernel_rfl:(I.bool !a8 (Int.ofNat N) (Int.ofNat M))=I.bool !a8 (Int.ofNat N) (Int.ofNat M))<| .cons dk<| .cons gy<| .nil
theorem VD(call:aI->List I->J->av)(r:Nat)(v:I)(b:Bool)(h g:J)
  (H1:au h r (0+4)=some v)
  (aQ:call (.fn 53) [v] h=av.ret (.bool b) g):
  aH Tryz.prog Tryz.f53 none call [1,1,1,1,0,1] (ah.mk [(0,.ptr r 0),(98,.int .i64 (.ofNat 8))] [] .none h) (.ret)
   (ah.mk [(2,.bool b)] [] .none g):=
 bF [2] (hs:=[.b false,.b false,.b true,.v v,.c (.bool b) g]) (by kernel_rfl)<| .cons (by kernel_rfl:a8 (Int.ofNat 8) (Int.ofNat 6)=false)<| .cons (by kernel_rfl:a8 (Int.ofNat 8) (Int.ofNat 7)=false)<| .cons (by kernel_rfl:a8 (Int.ofNat 8) (Int.ofNat 8)=true)<| .cons H1<| .cons aQ<| .nil
theorem VE(call:aI->List I->J->av)(r M:Nat)(a:I)(h g:J)
  (H1:aH Tryz.prog Tryz.f53 none call [1,1,1,1,0,1,0,1,1,1,1,1,1,1,0,0,1,0] (ah.mk [(5,.int .i64 (.ofNat 0)),(167,.bool (a8 (.ofNat 9) (.ofNat 9))),(160,.bool (a8 (.ofNat 9) (.ofNat 8))),(106,.bool (a8 (.ofNat 9) (.ofNat 7))),(99,.bool (a8 (.ofNat 9) (.ofNat 6))),(0,.ptr r 0),(98,.int .i64 (.ofNat 9))] [] .none h) (.exit 5) (ah.mk [(0,.ptr r 0)] [] .none g))
  (aQ:au g r (0+3)=some a)
  (bq:b9 Tryz.prog g 50 a=some (.int .i64 (.ofNat M))):
  aH Tryz.prog Tryz.f53 none call [1,1,1,1,0,1] (ah.mk [(0,.ptr r 0),(98,.int .i64 (.ofNat 9))] [] .none h) (.ret)
   (ah.mk [(2,.bool (fb (.ofNat 2) (.ofNat M)))] [] .none g):=
 bF [2] (hs:=[Hint.b false,Hint.b false,Hint.b false,Hint.b true,Hint.loop (bn.exit 5) (ah.mk [(0,I.ptr r 0)] [] bD.none g),Hint.v a,Hint.o (I.int IntKind.i64 (Int.ofNat M))]) (by kernel_rfl)<| .cons (by kernel_rfl:a8 (Int.ofNat 9) (Int.ofNat 6)=false)<| .cons (by kernel_rfl:a8 (Int.ofNat 9) (Int.ofNat 7)=false)<| .cons (by kernel_rfl:a8 (Int.ofNat 9) (Int.ofNat 8)=false)<| .cons (by kernel_rfl:a8 (Int.ofNat 9) (Int.ofNat 9)=true)<| .cons H1<| .cons aQ<| .cons bq<| .nil
theorem VF(call:aI->List I->J->av)(r:Nat)(h g:J)
  (H1:aH Tryz.prog Tryz.f53 none call [1,1,1,1,0,1,0,1,1,1,1,1,1,1,0,0,1,0] (ah.mk [(5,.int .i64 (.ofNat 0)),(167,.bool (a8 (.ofNat 9) (.ofNat 9))),(160,.bool (a8 (.ofNat 9) (.ofNat 8))),(106,.bool (a8 (.ofNat 9) (.ofNat 7))),(99,.bool (a8 (.ofNat 9) (.ofNat 6))),(0,.ptr r 0),(98,.int .i64 (.ofNat 9))] [] .none h) (.ret) (ah.mk [(2,.bool false)] [] .none g)):
  aH Tryz.prog Tryz.f53 none call [1,1,1,1,0,1] (ah.mk [(0,.ptr r 0),(98,.int .i64 (.ofNat 9))] [] .none h) (.ret)
   (ah.mk [(2,.bool false)] [] .none g):=
 bF [2] (hs:=[Hint.b false,Hint.b false,Hint.b false,Hint.b true,Hint.loop bn.ret (ah.mk [(2,I.bool false)] [] bD.none g)]) (by kernel_rfl)<| .cons (by kernel_rfl:a8 (Int.ofNat 9) (Int.ofNat 6)=false)<| .cons (by kernel_rfl:a8 (Int.ofNat 9) (Int.ofNat 7)=false)<| .cons (by kernel_rfl:a8 (Int.ofNat 9) (Int.ofNat 8)=false)<| .cons (by kernel_rfl:a8 (Int.ofNat 9) (Int.ofNat 9)=true)<| .cons H1<| .nil
theorem VG(call:aI->List I->J->av)(r k:Nat)(h:J)
  (H1:a8 (.ofNat k) (.ofNat 6)=false)
  (aQ:a8 (.ofNat k) (.ofNat 7)=false)
  (bq:a8 (.ofNat k) (.ofNat 8)=false)
  (bo:a8 (.ofNat k) (.ofNat 9)=false):
  aH Tryz.prog Tryz.f53 none call [1,1,1,1,0,1] (ah.mk [(0,.ptr r 0),(98,.int .i64 (.ofNat k))] [] .none h) (.nrm)
   (ah.mk [(0,.ptr r 0)] [] .none h):=
 bF [0] (hs:=[.b false,.b false,.b false,.b false]) (by kernel_rfl)<| .cons H1<| .cons aQ<| .cons bq<| .cons bo<| .nil
theorem VH(call:aI->List I->J->av)(h:J):
  aH Tryz.prog Tryz.f53 none call [1,1,1,1,1] (ah.mk [] [] .none h) (.ret)
   (ah.mk [(2,.bool true)] [] .none h):=
 bF [2] (hs:=[]) (by kernel_rfl)<| .nil
theorem VI(call:aI->List I->J->av)(r i N:Nat)(v:I)(h:J)
  (H1:au h r (0+2)=some v)
  (aQ:b9 Tryz.prog h 63 v=some (.int .i64 (.ofNat N)))
  (bq:bM (.ofNat i) (.ofNat N)=false):
  aH Tryz.prog Tryz.f53 none call [1,1,1,1,0,1,0,1,1,1,0,1,1,0,0] (ah.mk [(0,.ptr r 0),(4,.int .i64 (.ofNat i))] [] .none h) (.exit 3)
   (ah.mk [(0,.ptr r 0)] [] .none h):=
 bF [0] (hs:=[.v v,.o (.int .i64 (.ofNat N)),.b false]) (by kernel_rfl)<| .cons H1<| .cons aQ<| .cons bq<| .nil
theorem VJ(call:aI->List I->J->av)(r i N:Nat)(v:I)(h:J)
  (H1:au h r (0+3)=some v)
  (aQ:b9 Tryz.prog h 50 v=some (.int .i64 (.ofNat N)))
  (bq:bM (.ofNat i) (.ofNat N)=false):
  aH Tryz.prog Tryz.f53 none call [1,1,1,1,0,1,0,1,1,1,1,1,1,1,0,0,1,0,0] (ah.mk [(0,.ptr r 0),(5,.int .i64 (.ofNat i))] [] .none h) (.exit 5)
   (ah.mk [(0,.ptr r 0)] [] .none h):=
 bF [0] (hs:=[.v v,.o (.int .i64 (.ofNat N)),.b false]) (by kernel_rfl)<| .cons H1<| .cons aQ<| .cons bq<| .nil
theorem VK(call:aI->List I->J->av)(v:I)(h:J):
  aH Tryz.prog Tryz.f28 none call [0] (ah.mk [(0,v)] [] .none h) (.nrm)
   (ah.mk [(0,v)] [] .none h):=
 bF [0] (hs:=[]) (by kernel_rfl)<| .nil
theorem VL(call:aI->List I->J->av)(h:J):
  aH Tryz.prog Tryz.f28 none call [1] (ah.mk [(0,.bb)] [] .none h) (.ret)
   (ah.mk [(2,.int .i64 (.ofNat 1))] [] .none h):=
 bF [2] (hs:=[.v (.bool true),.b true]) (by kernel_rfl)<| .cons (by kernel_rfl:eB Tryz.prog h BinOp.eql 35 (Operand.tmp 3) (Operand.const (Value.pointer none)) I.bb I.bb=some (I.bool true))<| .cons (by kernel_rfl:true=true)<| .nil
theorem VM(call:aI->List I->J->av)(r b off N i q a7 j sC:Nat)(s t:List UInt8)(d:Bool)(cp:b3)(h g ax:J)
  (H1:au h r (0+2)=some (.slice b off N cp))
  (aQ:bM (.ofNat i) (.ofNat N)=true)
  (bq:au (J.room h 32) r (0+2)=some (.slice b off N cp))
  (bo:Nat.le (Nat.succ i) N/\I.ptr b q=I.ptr b (off+i*1))
  (bY:au (J.room h 32) b q=some (.str s))
  (cJ:call (.fn 76) [.str s] (J.room h 32)=av.ret (.bool false) g):
  aH Tryz.prog Tryz.f53 none call [1,1,1,1,0,1,0,1,1,1,0,1,1,0,0] (ah.mk [(0,.ptr r 0),(4,.int .i64 (.ofNat i))] [] .none h) (.ret)
   (ah.mk [(2,.bool false)] [] .none g):=
 bF [2] (hs:=[.v (.slice b off N cp),.b true,.v (.slice b off N cp),.v (.ptr b q),.v (.str s),.c (.bool false) g,.b true,.b true,.b true,.b true,.b true,.b true]) (by kernel_rfl)<| .cons H1<| .cons aQ<| .cons bq<| .cons bo<| .cons bY<| .cons cJ<| .cons (by kernel_rfl:(!false)=true)<| .cons (by kernel_rfl:(!false)=true)<| .cons (by kernel_rfl:(!false)=true)<| .cons (by kernel_rfl:(!false)=true)<| .cons (by kernel_rfl:(!false)=true)<| .cons (by kernel_rfl:I.sound (I.ptr r 0)=true)<| .cons (by kernel_rfl:I.ptr r 0=I.ptr r 0)<| .cons (by kernel_rfl:I.sound (I.ptr r 0)=true)<| .cons (by kernel_rfl:I.ptr r 0=I.ptr r 0)<| .cons (by kernel_rfl:I.sound (I.ptr r (0+2))=true)<| .cons (by kernel_rfl:I.ptr r (0+2)=I.ptr r (0+2))<| .cons (by kernel_rfl:I.sound (I.slice b off N cp)=true)<| .cons bq<| .cons (by kernel_rfl:I.sound (I.int IntKind.i64 (Int.ofNat i))=true)<| .cons (by kernel_rfl:I.int IntKind.i64 (Int.ofNat i)=I.int IntKind.i64 (Int.ofNat i))<| .cons (by kernel_rfl:I.sound (I.ptr b q)=true)<| .cons bo<| .cons (by kernel_rfl:I.sound (I.str s)=true)<| .cons bY<| .cons (by kernel_rfl:I.sound (I.bool !false)=true)<| .cons (by kernel_rfl:(I.bool !false)=I.bool !false)<| .cons (by kernel_rfl:I.sound (I.bool !false)=true)<| .cons (by kernel_rfl:(I.bool !false)=I.bool !false)<| .cons (by kernel_rfl:false=false)<| .cons (by kernel_rfl:false=false)<| .cons (by kernel_rfl:false=false)<| .cons (by kernel_rfl:false=false)<| .cons (by kernel_rfl:I.sound (I.bool true)=true)<| .cons (by kernel_rfl:(bif !false then I.bool true else I.aP [])=I.bool true)<| .cons (by kernel_rfl:true=true)<| .nil
theorem VN(call:aI->List I->J->av)(r b off N i q a7 j sC m k:Nat)(x:I)(s t:List UInt8)(d:Bool)(cp:b3)(h g ax aC:J)
  (H1:au h r (0+3)=some (.slice b off N cp))
  (aQ:bM (.ofNat i) (.ofNat N)=true)
  (bq:Nat.le (Nat.succ i) N/\I.ptr b q=I.ptr b (off+i*1))
  (bo:au h b q=some (.ptr m 0))
  (bY:au h m (0+0)=some (.int .i64 (.ofNat k)))
  (cJ:a8 (.ofNat k) (.ofNat 9)=true):
  aH Tryz.prog Tryz.f53 none call [1,1,1,1,0,1,0,1,1,1,1,1,1,1,0,0,1,0,0] (ah.mk [(0,.ptr r 0),(5,.int .i64 (.ofNat i))] [] .none h) (.ret)
   (ah.mk [(2,.bool false)] [] .none (J.room h 31)):=
 bF [2] (hs:=[.v (.slice b off N cp),.b true,.v (.slice b off N cp),.v (.ptr b q),.v (.ptr m 0),.v (.int .i64 (.ofNat k)),.b true,.b true,.b true,.b true,.b true,.b true,.b true,.b true,.b true]) (by kernel_rfl)<| .cons H1<| .cons aQ<| .cons H1<| .cons bq<| .cons bo<| .cons bY<| .cons cJ<| .cons cJ<| .cons cJ<| .cons (by kernel_rfl:true=true)<| .cons (by kernel_rfl:true=true)<| .cons (by kernel_rfl:true=true)<| .cons (by kernel_rfl:true=true)<| .cons (by kernel_rfl:true=true)<| .cons (by kernel_rfl:I.sound (I.int IntKind.i64 (Int.ofNat k))=true)<| .cons (by kernel_rfl:I.int IntKind.i64 (Int.ofNat k)=I.int IntKind.i64 (Int.ofNat k))<| .cons (by kernel_rfl:I.sound (I.bool (a8 (Int.ofNat k) (Int.ofNat 9)))=true)<| .cons (by kernel_rfl:I.bool (a8 (Int.ofNat k) (Int.ofNat 9))=I.bool (a8 (Int.ofNat k) (Int.ofNat 9)))<| .cons (by kernel_rfl:I.sound (I.bool (a8 (Int.ofNat k) (Int.ofNat 9)))=true)<| .cons (by kernel_rfl:I.bool (a8 (Int.ofNat k) (Int.ofNat 9))=I.bool (a8 (Int.ofNat k) (Int.ofNat 9)))<| .cons (u9 cJ)<| .cons (u9 cJ)<| .cons (by kernel_rfl:I.sound (I.bool true)=true)<| .cons (by rw[cJ];first|done|rfl:(bif a8 (Int.ofNat k) (Int.ofNat 9) then I.bool true else I.aP [])=I.bool true)<| .cons (by kernel_rfl:I.sound (I.bool true)=true)<| .cons (by kernel_rfl:I.bool true=I.bool true)<| .cons (by kernel_rfl:false=false)<| .cons (by kernel_rfl:false=false)<| .cons (by kernel_rfl:false=false)<| .cons (by kernel_rfl:false=false)<| .cons (by kernel_rfl:I.sound (I.bool true)=true)<| .cons (by kernel_rfl:(bif true then I.bool true else I.aP [])=I.bool true)<| .cons (by kernel_rfl:true=true)<| .nil
theorem VO(call:aI->List I->J->av)(r b off N i q a7 j sC m k:Nat)(x:I)(s t:List UInt8)(d:Bool)(cp:b3)(h g ax aC:J)
  (H1:au h r (0+3)=some (.slice b off N cp))
  (aQ:bM (.ofNat i) (.ofNat N)=true)
  (bq:Nat.le (Nat.succ i) N/\I.ptr b q=I.ptr b (off+i*1))
  (bo:au h b q=some (.ptr m 0))
  (bY:au h m (0+0)=some (.int .i64 (.ofNat k)))
  (cJ:a8 (.ofNat k) (.ofNat 9)=false)
  (dk:a8 (.ofNat k) (.ofNat 1)=true):
  aH Tryz.prog Tryz.f53 none call [1,1,1,1,0,1,0,1,1,1,1,1,1,1,0,0,1,0,0] (ah.mk [(0,.ptr r 0),(5,.int .i64 (.ofNat i))] [] .none h) (.ret)
   (ah.mk [(2,.bool false)] [] .none (J.room h 31)):=
 bF [2] (hs:=[.v (.slice b off N cp),.b true,.v (.slice b off N cp),.v (.ptr b q),.v (.ptr m 0),.v (.int .i64 (.ofNat k)),.b false,.b false,.b false,.b true,.b true,.b true,.b true,.b true,.b true]) (by kernel_rfl)<| .cons H1<| .cons aQ<| .cons H1<| .cons bq<| .cons bo<| .cons bY<| .cons cJ<| .cons cJ<| .cons cJ<| .cons dk<| .cons dk<| .cons dk<| .cons dk<| .cons dk<| .cons (by kernel_rfl:I.sound (I.int IntKind.i64 (Int.ofNat k))=true)<| .cons (by kernel_rfl:I.int IntKind.i64 (Int.ofNat k)=I.int IntKind.i64 (Int.ofNat k))<| .cons (by kernel_rfl:I.sound (I.bool (a8 (Int.ofNat k) (Int.ofNat 9)))=true)<| .cons (by kernel_rfl:I.bool (a8 (Int.ofNat k) (Int.ofNat 9))=I.bool (a8 (Int.ofNat k) (Int.ofNat 9)))<| .cons (by kernel_rfl:I.sound (I.bool (a8 (Int.ofNat k) (Int.ofNat 9)))=true)<| .cons (by kernel_rfl:I.bool (a8 (Int.ofNat k) (Int.ofNat 9))=I.bool (a8 (Int.ofNat k) (Int.ofNat 9)))<| .cons (ek.cons (by kernel_rfl:I.sound (I.int IntKind.i64 (Int.ofNat k))=true)<|ek.cons (by kernel_rfl:I.int IntKind.i64 (Int.ofNat k)=I.int IntKind.i64 (Int.ofNat k))<|ek.nil)<| .cons (ek.cons (by kernel_rfl:I.sound (I.bool (a8 (Int.ofNat k) (Int.ofNat 1)))=true)<|ek.cons (by kernel_rfl:I.bool (a8 (Int.ofNat k) (Int.ofNat 1))=I.bool (a8 (Int.ofNat k) (Int.ofNat 1)))<|ek.nil)<| .cons (by kernel_rfl:I.sound (I.bool (a8 (Int.ofNat k) (Int.ofNat 1)))=true)<| .cons (by rw[cJ];first|done|rfl:(bif a8 (Int.ofNat k) (Int.ofNat 9) then I.bool true else I.bool (a8 (Int.ofNat k) (Int.ofNat 1)))=I.bool (a8 (Int.ofNat k) (Int.ofNat 1)))<| .cons (by kernel_rfl:I.sound (I.bool (a8 (Int.ofNat k) (Int.ofNat 1)))=true)<| .cons (by kernel_rfl:I.bool (a8 (Int.ofNat k) (Int.ofNat 1))=I.bool (a8 (Int.ofNat k) (Int.ofNat 1)))<| .cons (u9 dk)<| .cons (u9 dk)<| .cons (u9 dk)<| .cons (u9 dk)<| .cons (by kernel_rfl:I.sound (I.bool true)=true)<| .cons (by rw[dk];first|done|rfl:(bif a8 (Int.ofNat k) (Int.ofNat 1) then I.bool true else I.aP [])=I.bool true)<| .cons (by kernel_rfl:true=true)<| .nil
theorem VP(call:aI->List I->J->av)(r k:Nat)(b:Bool)(h aj ax:J)
  (H1:call (.fn 52) [.ptr r 0] h=av.ret (.int .i64 (.ofNat k)) aj)
  (aQ:bM (.ofNat 60) (.ofNat k)=true):
  aH Tryz.prog Tryz.f28 none call [1] (ah.mk [(0,.ptr r 0)] [] .none h) (.ret)
   (ah.mk [(2,.int .i64 (.ofNat 3))] [] .none aj):=
 bF [2] (hs:=[.v (.bool false),.b false,.c (.int .i64 (.ofNat k)) aj,.b true]) (by kernel_rfl)<| .cons (by kernel_rfl:eB Tryz.prog h BinOp.eql 35 (Operand.tmp 3) (Operand.const (Value.pointer none)) (I.ptr r 0) I.bb=some (I.bool false))<| .cons (by kernel_rfl:false=false)<| .cons H1<| .cons aQ<| .nil
theorem VQ(call:aI->List I->J->av)(r k:Nat)(b:Bool)(h aj ax:J)
  (H1:call (.fn 52) [.ptr r 0] h=av.ret (.int .i64 (.ofNat k)) aj)
  (aQ:bM (.ofNat 60) (.ofNat k)=false)
  (bq:call (.fn 53) [.ptr r 0] aj=av.ret (.bool b) ax)
  (bo:(!b)=true):
  aH Tryz.prog Tryz.f28 none call [1] (ah.mk [(0,.ptr r 0)] [] .none h) (.ret)
   (ah.mk [(2,.int .i64 (.ofNat 2))] [] .none ax):=
 bF [2] (hs:=[.v (.bool false),.b false,.c (.int .i64 (.ofNat k)) aj,.b false,.c (.bool b) ax,.b true]) (by kernel_rfl)<| .cons (by kernel_rfl:eB Tryz.prog h BinOp.eql 35 (Operand.tmp 3) (Operand.const (Value.pointer none)) (I.ptr r 0) I.bb=some (I.bool false))<| .cons (by kernel_rfl:false=false)<| .cons H1<| .cons aQ<| .cons bq<| .cons bo<| .nil
theorem VR(call:aI->List I->J->av)(r k:Nat)(b:Bool)(h aj ax:J)
  (H1:call (.fn 52) [.ptr r 0] h=av.ret (.int .i64 (.ofNat k)) aj)
  (aQ:bM (.ofNat 60) (.ofNat k)=false)
  (bq:call (.fn 53) [.ptr r 0] aj=av.ret (.bool b) ax)
  (bo:(!b)=false):
  aH Tryz.prog Tryz.f28 none call [1] (ah.mk [(0,.ptr r 0)] [] .none h) (.ret)
   (ah.mk [(2,.int .i64 (.ofNat 0))] [] .none ax):=
 bF [2] (hs:=[.v (.bool false),.b false,.c (.int .i64 (.ofNat k)) aj,.b false,.c (.bool b) ax,.b false]) (by kernel_rfl)<| .cons (by kernel_rfl:eB Tryz.prog h BinOp.eql 35 (Operand.tmp 3) (Operand.const (Value.pointer none)) (I.ptr r 0) I.bb=some (I.bool false))<| .cons (by kernel_rfl:false=false)<| .cons H1<| .cons aQ<| .cons bq<| .cons bo<| .nil
theorem Ff(call:aI->List I->J->av)(r:Nat)(i:Nat)(h:J){Q:bn->ah->Prop}(H:∃aD:Nat,∃bm:Nat,∃bG:Nat,∃aG:b3,au h r (0+2)=some (.slice aD bm bG aG)/\i<bG/\∃bV:Nat,∃cc:Nat,∃cI:Nat,∃a9:b3,au (h.room 32) r (0+2)=some (.slice bV cc cI a9)/\i<cI/\∃s1:List UInt8,au (h.room 32) bV (cc+i*1)=some (.str s1)/\∃aj:J,call (.fn 76) [.str s1] (h.room 32)=.ret (.bool true) aj/\(0<i->∃dr:Nat,∃en:Nat,∃eH:Nat,∃dn:b3,au aj r (0+2)=some (.slice dr en eH dn)/\(1<=i/\i<9223372036854775808)/\i-1<eH/\∃s2:List UInt8,au aj dr (en+(i-1)*1)=some (.str s2)/\∃fX:Nat,∃iH:Nat,∃jk:Nat,∃gN:b3,au aj r (0+2)=some (.slice fX iH jk gN)/\i<jk/\∃bI:List UInt8,au aj fX (iH+i*1)=some (.str bI)/\∃bt:Bool,∃ax:J,call (.fn 77) [.str s2,.str bI] aj=.ret (.bool bt) ax/\(bt=true->i+1<9223372036854775808/\Q .nrm (ah.mk [(0,.ptr r 0),(4,.int .i64 (.ofNat (i+1)))] [] .none ax))/\(bt=false->Q .ret (ah.mk [(0,.ptr r 0),(2,.bool false),(4,.int .i64 (.ofNat i))] [] .none ax)))/\(¬0<i->i+1<9223372036854775808/\Q .nrm (ah.mk [(0,.ptr r 0),(4,.int .i64 (.ofNat (i+1)))] [] .none aj))):
  a4 Tryz.prog Tryz.f53 call [1,1,1,1,0,1,0,1,1,1,0,1,1,0,0] ⟨[(0,.ptr r 0),(4,.int .i64 (.ofNat i))],[],.none,h⟩ Q:=
 dI [(1125,.t),(123,.bC .fS),(131,.bC .fS),(135,.bC (.is (.bool true))),(144,.bC .fS),(152,.bC .fS)] [0,2,4] [(0,.v (.ptr r 0)),(4,.v (.int .i64 (.ofNat i)))] rfl (Eq.mp (by kernel_rfl) H)
theorem Fg(call:aI->List I->J->av)(r:Nat)(i:Nat)(h:J){Q:bn->ah->Prop}(H:∃aD:Nat,∃bm:Nat,∃bG:Nat,∃aG:b3,au h r (0+3)=some (.slice aD bm bG aG)/\i<bG/\∃bV:Nat,∃cc:Nat,∃cI:Nat,∃a9:b3,au h r (0+3)=some (.slice bV cc cI a9)/\i<cI/\∃dr:Nat,au h bV (cc+i*1)=some (.ptr dr 0)/\∃en:Nat,au h dr (0+0)=some (.int .i64 (.ofNat en))/\(en=9->Q .ret (ah.mk [(0,.ptr r 0),(2,.bool false),(5,.int .i64 (.ofNat i))] [] .none (h.room 31)))/\(¬en=9->(en=1->Q .ret (ah.mk [(0,.ptr r 0),(2,.bool false),(5,.int .i64 (.ofNat i))] [] .none (h.room 31)))/\(¬en=1->(0<i->∃eH:Nat,∃fX:Nat,∃iH:Nat,∃dn:b3,au (h.room 31) r (0+3)=some (.slice eH fX iH dn)/\(1<=i/\i<9223372036854775808)/\i-1<iH/\∃v1:I,au (h.room 31) eH (fX+(i-1)*1)=some v1/\∃s1:List UInt8,∃aj:J,call (.fn 79) [v1] (h.room 31)=.ret (.str s1) aj/\∃jk:Nat,∃j8:Nat,∃px:Nat,∃gN:b3,au aj r (0+3)=some (.slice jk j8 px gN)/\i<px/\∃nF:Nat,au aj jk (j8+i*1)=some (.ptr nF 0)/\∃s2:List UInt8,∃ax:J,call (.fn 79) [.ptr nF 0] aj=.ret (.str s2) ax/\∃bt:Bool,∃aC:J,call (.fn 77) [.str s1,.str s2] ax=.ret (.bool bt) aC/\I.sound v1=true/\au (h.room 31) r (0+3)=some (.slice jk j8 px gN)/\au (h.room 31) jk (j8+i*1)=some (.ptr nF 0)/\(bt=true->i+1<9223372036854775808/\Q .nrm (ah.mk [(0,.ptr r 0),(5,.int .i64 (.ofNat (i+1)))] [] .none aC))/\(bt=false->Q .ret (ah.mk [(0,.ptr r 0),(2,.bool false),(5,.int .i64 (.ofNat i))] [] .none aC)))/\(¬0<i->i+1<9223372036854775808/\Q .nrm (ah.mk [(0,.ptr r 0),(5,.int .i64 (.ofNat (i+1)))] [] .none (h.room 31)))))):
  a4 Tryz.prog Tryz.f53 call [1,1,1,1,0,1,0,1,1,1,1,1,1,1,0,0,1,0,0] ⟨[(0,.ptr r 0),(5,.int .i64 (.ofNat i))],[],.none,h⟩ Q:=
 dI [(1175,.t),(173,.bC .fS),(181,.bC .fS),(201,.bC .fS),(205,.bC .o),(210,.bC .fS)] [0,2,5] [(0,.v (.ptr r 0)),(5,.v (.int .i64 (.ofNat i)))] rfl (Eq.mp (by kernel_rfl) H)
theorem vK{P:Program}{fn:Func}{call:aI->List I->J->av}{p:List Nat}{st hL:ah}{df:bn}(h:a4 P fn call p st (λe s=>e=df/\s=hL)):aH P fn none call p st df hL:=by
 obtain⟨e,s,r,rfl,rfl⟩:=h
 exact r
theorem Fh{m B R:Nat}{h:J}{j1 hL bJ bd cU:I}{bh:gE}{aN up:Nat}{ns:List a5}(ee:R<B)(al:h.get R=some (.cells [j1,hL,bJ,bd,cU] 80 bh aN up))(aK:c7 B h bJ (ns.map .str))(hlen:ns.length<=90000):∀(k i:Nat) (x:J),ns.length-i=k->i<=ns.length->(∀q,l2 ns i=some q->hP q=true)->Ext B h x->
  ∃e Γ y,ft Tryz.prog Tryz.f53 none (Y (m+2)) [1,1,1,1,0,1,0,1,1,1,0,1,1,0] (k+1) ⟨[(0,.ptr R 0),(4,.int .i64 (Int.ofNat i))],[],.none,x⟩ e ⟨Γ,[],.none,y⟩/\
   ((e=.exit 3/\Γ=[(0,.ptr R 0)]/\jx (l2 ns i) (ns.drop i)=true)\/(e=.ret/\Γ=[(2,.bool false)]/\jx (l2 ns i) (ns.drop i)=false))/\Ext B h y
 |0,i,x,aq,af,aO,aa=>by
  obtain rfl:i=ns.length:=by omega
  rw[List.drop_of_length_le (Nat.le_refl _)]
  have eV:=(aa.get R ee).trans al
  exact⟨_,_,_,.exit (VI (Y (m+2)) R _ ns.length bJ x (aU eV rfl) aK.vE (eW (by omega))) (by simp),.inl ⟨rfl,rfl,by rw[jx]⟩,aa⟩
 |k+1,i,x,aq,af,aO,aa=>by
  have ab:i<ns.length:=by omega
  have eV:=(aa.get R ee).trans al
  have ak:=aa.h3 (k:=32)
  have hR:=(ak.get R ee).trans al
  rcases aK.strs with⟨_,rfl⟩|⟨b,off,cp,rfl,iP,ik⟩
  · simp at ab
  have aA:au (x.room 32) b (off+i*1)=some (.str ns[i]):=(nE ak iP).trans (ik i ab)
  rw[List.drop_eq_getElem_cons ab,jx]
  have aG:=K9 m ns[i] (x.room 32)
  cases hf:hP ns[i] with
  |false=>
   rw[hf] at aG
   exact⟨_,_,_,.exit (VM (Y (m+2)) R b off ns.length i (off+i*1) 0 0 0 ns[i] [] false cp x (x.room 32) x (aU eV rfl) (dS ab) (aU hR rfl) ⟨ab,rfl⟩ aA aG) (by simp),.inr ⟨rfl,rfl,by rw[Bool.false_and]⟩,ak⟩
  |true=>
   rw[hf] at aG
   have vL:l2 ns (i+1)=some ns[i]:=by
    show ns[i]? =_
    exact List.getElem?_eq_getElem ab
   have nG:∀q,l2 ns (i+1)=some q->hP q=true:=λq aT=>by
    rw[vL] at aT
    obtain rfl:=Option.some.inj aT
    exact hf
   cases i with
   |zero=>
    obtain⟨e,Γ,y,bB,b2,dq⟩:=Fh (m:=m) ee al aK hlen k 1 (x.room 32) (by omega) (by omega) nG ak
    refine⟨e,Γ,y,.step (vK (Ff (Y (m+2)) R 0 x ⟨b,off,_,cp,aU eV rfl,ab,b,off,_,cp,aU hR rfl,ab,_,aA,_,aG,λai=>absurd ai (by omega),λ_=>⟨by omega,rfl,rfl⟩⟩)) bB,?_,dq⟩
    rw[vL] at b2
    rw[Bool.true_and,show l2 ns 0=none from rfl,l1,Bool.true_and]
    exact b2
   |succ i=>
    have ad:i<ns.length:=by omega
    have yB:l2 ns (i+1)=some ns[i]:=by
     show ns[i]? =_
     exact List.getElem?_eq_getElem ad
    have hr:=KL (aO _ yB)
    have ay:au (x.room 32) b (off+i*1)=some (.str ns[i]):=(nE ak iP).trans (ik i ad)
    obtain⟨g,a9,dn⟩:=Bg (m+1) ns[i] ns[i+1] B (x.room 32) (by omega)
    have vH:=ak.trans (Nat.le_refl _) dn
    have C0:arith BinOp.sub IntKind.i64 (Int.ofNat (i+1)) (Int.ofNat 1)=some (.int .i64 (Int.ofNat i)):=vb (by omega) (by omega)
    rw[yB,l1,Bool.true_and]
    cases ag:dB ns[i] ns[i+1] with
    |true=>
     rw[ag] at a9
     obtain⟨e,Γ,y,bB,b2,dq⟩:=Fh (m:=m) ee al aK hlen k (i+1+1) g (by omega) (by omega) nG vH
     refine⟨e,Γ,y,.step (vK (Ff (Y (m+2)) R (i+1) x ⟨b,off,_,cp,aU eV rfl,ab,b,off,_,cp,aU hR rfl,ab,_,aA,_,aG,λ_=>⟨b,off,_,cp,aU hR rfl,⟨by omega,by omega⟩,ad,_,ay,b,off,_,cp,aU hR rfl,ab,_,aA,_,g,a9,λ_=>⟨by omega,rfl,rfl⟩,λai=>(by cases ai)⟩,λai=>absurd ai (by omega)⟩)) bB,?_,dq⟩
     rw[vL] at b2
     rw[Bool.true_and]
     exact b2
    |false=>
     rw[ag] at a9
     exact⟨_,[(2,.bool false)],_,.exit (cZ.post (vK (Ff (Y (m+2)) R (i+1) x ⟨b,off,_,cp,aU eV rfl,ab,b,off,_,cp,aU hR rfl,ab,_,aA,_,aG,λ_=>⟨b,off,_,cp,aU hR rfl,⟨by omega,by omega⟩,ad,_,ay,b,off,_,cp,aU hR rfl,ab,_,aA,_,g,a9,λai=>(by cases ai),λ_=>⟨rfl,rfl⟩⟩,λai=>absurd ai (by omega)⟩)) ⟨rfl,trivial⟩) (by simp),.inr ⟨rfl,rfl,by rw[Bool.false_and]⟩,vH⟩
end Go.Proofs.cF
namespace Go.Proofs.cF
open Go aM Go.Proofs c_
set_option maxRecDepth 100000
set_option maxHeartbeats 1000000
theorem dE.kind{B:Nat}{h:J}:∀{t:aF} {v:I},dE B h t v->∃M,v=.ptr M 0/\∀x,Ext B h x->au x M (0+0)=some (.int .i64 (Int.ofNat t.k))
 |.mk cw c2 dm e4 eX,v,a_=>by
  obtain⟨M,_,_,_,_,_,_,_,aA,ay,bx,_⟩:=a_
  exact⟨M,aA,λx jS=>aU ((jS.get M ay).trans bx) rfl⟩
theorem Lf(p:Option a5)(k:Nat)(eY:List Nat)(w:a5)(ws:List a5):kA p (k::eY) (w::ws)=((decide (k≠9)&&decide (k≠1))&&(l1 p w&&kA (some w) eY ws)):=by rw[kA]
theorem Fi{m B R:Nat}{h:J}{j1 hL bJ bd cU:I}{bh:gE}{aN up:Nat}{xs:List aF}{vs:List I}{ws:List a5}(ee:R<B)(al:h.get R=some (.cells [j1,hL,bJ,bd,cU] 80 bh aN up))(aB:c7 B h bd vs)(yC:dO B h xs vs)(kK:ws.length=vs.length)(hlen:vs.length<=90000)(yD:∀i (af:i<ws.length),ws[i].length<=90000)(a6:yw (m+1) B h vs ws):∀(k i:Nat) (x:J),vs.length-i=k->i<=vs.length->Ext B h x->
  ∃e Γ y,ft Tryz.prog Tryz.f53 none (Y (m+1)) [1,1,1,1,0,1,0,1,1,1,1,1,1,1,0,0,1,0] (k+1) ⟨[(0,.ptr R 0),(5,.int .i64 (Int.ofNat i))],[],.none,x⟩ e ⟨Γ,[],.none,y⟩/\
   ((e=.exit 5/\Γ=[(0,.ptr R 0)]/\kA (l2 ws i) ((xs.map aF.k).drop i) (ws.drop i)=true)\/(e=.ret/\Γ=[(2,.bool false)]/\kA (l2 ws i) ((xs.map aF.k).drop i) (ws.drop i)=false))/\Ext B h y
 |0,i,x,aq,af,aa=>by
  obtain rfl:i=vs.length:=by omega
  rw[List.drop_of_length_le (l:=ws) (by omega)]
  have eV:=(aa.get R ee).trans al
  refine⟨_,_,_,.exit (VJ (Y (m+1)) R _ vs.length bd x (aU eV rfl) aB.oj (eW (by omega))) (by simp),.inl ⟨rfl,rfl,?_⟩,aa⟩
  cases (xs.map aF.k).drop vs.length<;>(rw[kA];all_goals simp)
 |k+1,i,x,aq,af,aa=>by
  have fs:=dO.len yC
  have ab:i<vs.length:=by omega
  have ar:i<ws.length:=by omega
  have aJ:i<xs.length:=by omega
  have bO:i<(xs.map aF.k).length:=by rw[List.length_map];exact aJ
  have eV:=(aa.get R ee).trans al
  have ak:=aa.h3 (k:=31)
  have hR:=(ak.get R ee).trans al
  obtain⟨M,gT,qw⟩:=(dO.get yC i ab aJ).kind
  have pw:=qw x aa
  have Bo:=aB
  rcases aB with⟨_,rfl⟩|⟨b,off,cp,rfl,iP,ik,oo⟩
  · simp at ab
  have aA:au x b (off+i*1)=some (.ptr M 0):=by rw[<-gT];exact(nE aa iP).trans (ik i ab)
  have Lg:au (x.room 31) b (off+i*1)=some (.ptr M 0):=by rw[<-gT];exact(nE ak iP).trans (ik i ab)
  have yz:(xs.map aF.k)[i]=(xs[i]).k:=List.getElem_map aF.k
  rw[List.drop_eq_getElem_cons bO,List.drop_eq_getElem_cons ar,Lf,yz]
  by_cases iG:(xs[i]).k=9
  · exact⟨_,_,_,.exit (VN (Y (m+1)) R b off vs.length i (off+i*1) 0 0 0 M _ .bb [] [] false cp x x x x (aU eV rfl) (dS ab) ⟨ab,rfl⟩ aA pw (mB iG)) (by simp),.inr ⟨rfl,rfl,by simp[iG]⟩,ak⟩
  by_cases bE:(xs[i]).k=1
  · exact⟨_,_,_,.exit (VO (Y (m+1)) R b off vs.length i (off+i*1) 0 0 0 M _ .bb [] [] false cp x x x x (aU eV rfl) (dS ab) ⟨ab,rfl⟩ aA pw (ji iG) (mB bE)) (by simp),.inr ⟨rfl,rfl,by simp[bE]⟩,ak⟩
  have vL:l2 ws (i+1)=some ws[i]:=by
   show ws[i]? =_
   exact List.getElem?_eq_getElem ar
  rw[show(decide ((xs[i]).k≠9)&&decide ((xs[i]).k≠1))=true by simp[iG,bE],Bool.true_and]
  cases i with
  |zero=>
   obtain⟨e,Γ,y,bB,b2,dq⟩:=Fi (m:=m) ee al Bo yC kK hlen yD a6 k 1 (x.room 31) (by omega) (by omega) ak
   refine⟨e,Γ,y,.step (vK (Fg (Y (m+1)) R 0 x ⟨b,off,_,cp,aU eV rfl,ab,b,off,_,cp,aU eV rfl,ab,_,aA,_,pw,λai=>absurd ai iG,λ_=>⟨λai=>absurd ai bE,λ_=>⟨λai=>absurd ai (by omega),λ_=>⟨by omega,rfl,rfl⟩⟩⟩⟩)) bB,?_,dq⟩
   rw[vL] at b2
   rw[show l2 ws 0=none from rfl,l1,Bool.true_and]
   exact b2
  |succ i=>
   have g0:i<vs.length:=by omega
   have yE:i<ws.length:=by omega
   have C6:i<xs.length:=by omega
   have yB:l2 ws (i+1)=some ws[i]:=by
    show ws[i]? =_
    exact List.getElem?_eq_getElem yE
   have fG:=dO.get yC i g0 C6
   have ay:au (x.room 31) b (off+i*1)=some vs[i]:=(nE ak iP).trans (ik i g0)
   obtain⟨g,aG,bA⟩:=a6 i g0 yE (x.room 31) ak
   have dV:=ak.trans (Nat.le_refl _) bA
   have yx:=(dV.get R ee).trans al
   have Lh:au g b (off+(i+1)*1)=some (.ptr M 0):=by rw[<-gT];exact(nE dV iP).trans (ik (i+1) ab)
   obtain⟨ax,a9,cX⟩:=a6 (i+1) ab ar g dV
   rw[gT] at a9
   have rR:=dV.trans (Nat.le_refl _) cX
   obtain⟨aC,dn,dP⟩:=Bg m ws[i] ws[i+1] B ax (yD i yE)
   have gw:=rR.trans (Nat.le_refl _) dP
   have C0:arith BinOp.sub IntKind.i64 (Int.ofNat (i+1)) (Int.ofNat 1)=some (.int .i64 (Int.ofNat i)):=vb (by omega) (by omega)
   rw[yB,l1]
   cases ag:dB ws[i] ws[i+1] with
   |true=>
    rw[ag] at dn
    obtain⟨e,Γ,y,bB,b2,dq⟩:=Fi (m:=m) ee al Bo yC kK hlen yD a6 k (i+1+1) aC (by omega) (by omega) gw
    refine⟨e,Γ,y,.step (vK (Fg (Y (m+1)) R (i+1) x ⟨b,off,_,cp,aU eV rfl,ab,b,off,_,cp,aU eV rfl,ab,_,aA,_,pw,λai=>absurd ai iG,λ_=>⟨λai=>absurd ai bE,λ_=>⟨λ_=>⟨b,off,_,cp,aU hR rfl,⟨by omega,by omega⟩,g0,_,ay,_,g,aG,b,off,_,cp,aU yx rfl,ab,_,Lh,_,ax,a9,_,aC,dn,fG.snd,aU hR rfl,Lg,λ_=>⟨by omega,rfl,rfl⟩,λai=>(by cases ai)⟩,λai=>absurd ai (by omega)⟩⟩⟩)) bB,?_,dq⟩
    rw[vL] at b2
    rw[Bool.true_and]
    exact b2
   |false=>
    rw[ag] at dn
    exact⟨_,[(2,.bool false)],_,.exit (cZ.post (vK (Fg (Y (m+1)) R (i+1) x ⟨b,off,_,cp,aU eV rfl,ab,b,off,_,cp,aU eV rfl,ab,_,aA,_,pw,λai=>absurd ai iG,λ_=>⟨λai=>absurd ai bE,λ_=>⟨λ_=>⟨b,off,_,cp,aU hR rfl,⟨by omega,by omega⟩,g0,_,ay,_,g,aG,b,off,_,cp,aU yx rfl,ab,_,Lh,_,ax,a9,_,aC,dn,fG.snd,aU hR rfl,Lg,λai=>(by cases ai),λ_=>⟨rfl,rfl⟩⟩,λai=>absurd ai (by omega)⟩⟩⟩)) ⟨rfl,trivial⟩) (by simp),.inr ⟨rfl,rfl,by rw[Bool.false_and]⟩,gw⟩
end Go.Proofs.cF
namespace Go.Proofs.cF
open Go aM Go.Proofs c_
set_option maxRecDepth 100000
set_option maxHeartbeats 1000000
abbrev VS(m B:Nat)(h:J)(xs:List aF)(vs:List I):Prop:=∀i (ab:i<vs.length) (ad:i<xs.length) x,Ext B h x->∃an,Y m (.fn 53) [vs[i]] x=.ret (.bool (dY xs[i])) an/\Ext B x an
theorem Li{m B R:Nat}{h:J}{j1 hL bJ bd cU:I}{bh:gE}{aN up:Nat}{xs:List aF}{vs:List I}(ee:R<B)(al:h.get R=some (.cells [j1,hL,bJ,bd,cU] 80 bh aN up))(aB:c7 B h bd vs)(fs:vs.length=xs.length)(hlen:vs.length<=90000)(a6:VS m B h xs vs):∀(k i:Nat) (x:J),vs.length-i=k->i<=vs.length->Ext B h x->
  ∃e Γ y,ft Tryz.prog Tryz.f53 none (Y m) [1,1,1,0,1,0] (k+1) ⟨[(0,.ptr R 0),(3,.int .i64 (Int.ofNat i))],[],.none,x⟩ e ⟨Γ,[],.none,y⟩/\
   ((e=.exit 0/\Γ=[(0,.ptr R 0)]/\hj (xs.drop i)=true)\/(e=.ret/\Γ=[(2,.bool false)]/\hj (xs.drop i)=false))/\Ext B h y
 |0,i,x,aq,af,aa=>by
  obtain rfl:i=vs.length:=by omega
  rw[List.drop_of_length_le (by omega)]
  have eV:=(aa.get R ee).trans al
  exact⟨_,_,_,.exit (Vv (Y m) R _ vs.length bd x (aU eV rfl) aB.oj (eW (by omega))) (by simp),.inl ⟨rfl,rfl,by rw[hj]⟩,aa⟩
 |k+1,i,x,aq,af,aa=>by
  have ab:i<vs.length:=by omega
  have aJ:i<xs.length:=by omega
  have eV:=(aa.get R ee).trans al
  have Bo:=aB
  rcases aB with⟨_,rfl⟩|⟨b,off,cp,rfl,iP,ik,oo⟩
  · simp at ab
  have aA:au x b (off+i*1)=some vs[i]:=(nE aa iP).trans (ik i ab)
  obtain⟨g,aG,bA⟩:=a6 i ab aJ x aa
  have dV:=aa.trans (Nat.le_refl _) bA
  rw[List.drop_eq_getElem_cons aJ,hj]
  cases ag:dY xs[i] with
  |true=>
   rw[ag] at aG
   obtain⟨e,Γ,y,bB,b2,dq⟩:=Li ee al Bo fs hlen a6 k (i+1) g (by omega) (by omega) dV
   refine⟨e,Γ,y,.step (Vx (Y m) R b off vs.length i (off+i*1) (i+1) true vs[i] cp x g (aU eV rfl) (dS ab) ⟨ab,rfl⟩ aA aG rfl (j3 ab (by omega))) bB,?_,dq⟩
   rw[Bool.true_and];exact b2
  |false=>
   rw[ag] at aG
   exact⟨_,[(2,.bool false)],_,.exit (cZ.post (Vw (Y m) R b off vs.length i (off+i*1) 0 false vs[i] cp x g (aU eV rfl) (dS ab) ⟨ab,rfl⟩ aA aG rfl) ⟨rfl,trivial⟩) (by simp),.inr ⟨rfl,rfl,by rw[Bool.false_and]⟩,dV⟩
end Go.Proofs.cF
namespace Go.Proofs.cF
open Go aM Go.Proofs c_
set_option maxRecDepth 100000
set_option maxHeartbeats 1000000
theorem Lj(Fj:∀u,dY u=true->okW u=true/\(wr u).length<=300*sz u):∀(K:Nat) (t:aF),sz t<=K->sz t<=100->k0 t<=90000->∀(m B:Nat) (h:J) (v:I),sz t+4<=m->B<=h.n->dE B h t v->∃an,Y m (.fn 53) [v] h=.ret (.bool (dY t)) an/\Ext B h an
 |0,t,di,_,_,_,_,_,_,_,_,_=>by
  have:=rS t
  omega
 |K+1,.mk k nm ns xs rt,di,gW,iz,m,B,h,v,hm,cM,aB=>by
  obtain⟨R,bJ,bd,cU,vs,bh,aN,up,rfl,ad,ar,aJ,bO,cj,db⟩:=aB
  rw[mL] at di gW hm
  rw[k0] at iz
  obtain⟨m,rfl⟩:∃j,m=j+3:=⟨m-3,by omega⟩
  have fs:=dO.len cj
  have ja:=nD xs
  have kK:=vy xs
  have l4:dY (.mk k nm ns xs rt)=((decide (1<=k)&&decide (k<=9))&&(hQ k nm ns.length xs.length rt.isSome&&(hj xs&&eL k nm ns (xs.map aF.k) (cn xs) xs.length (il rt)))):=by rw[dY]
  have fin:∀b y,aH Tryz.prog Tryz.f53 none (Y (m+2)) [1] ⟨[(0,.ptr R 0)],[],.none,h⟩ .ret ⟨[(2,.bool b)],[],.none,y⟩->b=dY (.mk k nm ns xs rt)->Ext B h y->∃an,Y (m+3) (.fn 53) [.ptr R 0] h=.ret (.bool (dY (.mk k nm ns xs rt))) an/\Ext B h an:=λb y ak ae aa=>by
   rw[<-ae]
   exact⟨y,eK (intr:=b1) (n:=m+2) (args:=[.ptr R 0]) Tryz.func53 (by kernel_rfl) rfl (by kernel_rfl) (aH.seq (p:=[]) (by kernel_rfl) (Vn (Y (m+2)) (.ptr R 0) h) ak) (.inl rfl) (by kernel_rfl),aa⟩
  rw[l4] at fin
  rw[l4]
  by_cases bE:k<1
  · exact fin false h (aH.iD (p:=[1]) (by kernel_rfl) (cZ.post (Vo (Y (m+2)) R 0 h k (aU ar rfl) (dS bE)) ⟨rfl,trivial⟩) (by simp)) (by simp;omega) (Ext.refl _ _)
  by_cases iG:9<k
  · exact fin false h (aH.iD (p:=[1]) (by kernel_rfl) (cZ.post (Vp (Y (m+2)) R 0 h k (aU ar rfl) (eW bE) (dS iG)) ⟨rfl,trivial⟩) (by simp)) (by simp;omega) (Ext.refl _ _)
  have s1:=Vq (Y (m+2)) R 0 h k (aU ar rfl) (eW bE) (eW iG)
  have Fk:(decide (1<=k)&&decide (k<=9))=true:=by simp;omega
  rw[Fk] at fin⊢
  simp only[Bool.true_and] at fin⊢
  have rT:Ext B h (h.room 54):=Ext.room B h 54
  have Fl:B<=(h.room 54).n:=Nat.le_trans cM rT.n
  have al:=(rT.get R ad).trans ar
  have e9:=gK.ext rT (Nat.le_refl _)
  have bV:=aJ.ck e9
  have cc:=bO.ck e9
  have cI:=dO.ck e9 _ _ cj
  have dr:=ey.ck e9 _ _ db
  have ko:if hQ k nm ns.length vs.length rt.isSome=true then aH Tryz.prog Tryz.f53 none (Y (m+2)) [1,1,0] ⟨[(0,.ptr R 0)],[],.none,h⟩ .nrm ⟨[(0,.ptr R 0)],[],.none,h.room 54⟩
    else aH Tryz.prog Tryz.f53 none (Y (m+2)) [1,1,0] ⟨[(0,.ptr R 0)],[],.none,h⟩ .ret ⟨[(2,.bool false)],[],.none,h.room 54⟩:=by
   cases rt with
   |none=>
    obtain rfl:cU=.bb:=db
    exact Vu ar aJ.vE bO.oj aJ.snd bO.snd
   |some u=>
    cases u with
    |mk cw c2 dm e4 eX=>
     obtain⟨W,_,_,_,_,_,_,_,rfl,_⟩:=db
     exact Vt ar aJ.vE bO.oj aJ.snd bO.snd
  rw[fs] at ko
  cases hr:hQ k nm ns.length xs.length rt.isSome with
  |false=>
   rw[if_neg (by rw[hr];simp)] at ko
   rw[hr] at fin
   exact fin false _ (aH.seq (p:=[1]) (by kernel_rfl) s1 (aH.iD (p:=[1,1]) (by kernel_rfl) ko (by simp))) rfl rT
  |true=>
   rw[if_pos hr] at ko
   rw[hr] at fin
   simp only[Bool.true_and] at fin⊢
   have a6:∀(u:aF),sz u<=K->sz u<=100->k0 u<=90000->∀(m B:Nat) (h:J) (v:I),sz u+4<=m->B<=h.n->dE B h u v->∃an,Y m (.fn 53) [v] h=.ret (.bool (dY u)) an/\Ext B h an:=Lj Fj K
   obtain⟨e,Γ,y,bB,b2,dq⟩:=Li (m:=m+2) (xs:=xs) ad al cc fs (by omega) (λi i1 i2 x aa=>by
    have h1:=oh (List.getElem_mem i2)
    have jt:=EW (List.getElem_mem i2)
    exact a6 xs[i] (by omega) (by omega) (by omega) (m+2) B x vs[i] (by omega) (Nat.le_trans Fl aa.n) (dE.ck (gK.ext aa (Nat.le_refl _)) _ _ (dO.get cI i i1 i2))) vs.length 0 (h.room 54) (by omega) (by omega) (Ext.refl _ _)
   have im:=ft.run (p:=[1,1,1,0,1,0]) (by kernel_rfl) bB (by omega)
   rw[List.drop_zero] at b2
   rcases b2 with⟨rfl,rfl,iq⟩|⟨rfl,rfl,iq⟩
   · rw[iq] at fin
     simp only[Bool.true_and] at fin⊢
     have eN:=aH.seq (p:=[1,1,1,0]) (by kernel_rfl) (Le (Y (m+2)) R (h.room 54)) (aH.block (p:=[1,1,1,0,1]) (id:=0) (by kernel_rfl) im)
     have hR:=(dq.get R ad).trans al
     have Lk:=rT.trans (Nat.le_refl _) dq
     have Bp:=gK.ext dq (Nat.le_refl _)
     have Ll:=bV.ck Bp
     have yl:=cc.ck Bp
     have Lm:=dO.ck Bp _ _ cI
     have VT:=ey.ck Bp _ _ dr
     have Fm:B<=y.n:=Nat.le_trans Fl dq.n
     have yy:=Vy (Y (m+2)) R k y (aU hR rfl)
     have vM:∀b z,aH Tryz.prog Tryz.f53 none (Y (m+2)) [1,1,1,1,0,1] ⟨[(0,.ptr R 0),(98,.int .i64 (Int.ofNat k))],[],.none,y⟩ .ret ⟨[(2,.bool b)],[],.none,z⟩->b=eL k nm ns (xs.map aF.k) (cn xs) xs.length (il rt)->Ext B y z->∃an,Y (m+3) (.fn 53) [.ptr R 0] h=.ret (.bool (hj xs&&eL k nm ns (xs.map aF.k) (cn xs) xs.length (il rt))) an/\Ext B h an:=λb z ak ae aa=>by
      rw[iq,Bool.true_and]
      exact fin b z (aH.seq (p:=[1]) (by kernel_rfl) s1 (aH.seq (p:=[1,1]) (by kernel_rfl) ko (aH.seq (p:=[1,1,1]) (by kernel_rfl) eN (aH.iD (p:=[1,1,1,1]) (by kernel_rfl) (aH.seq (p:=[1,1,1,1,0]) (by kernel_rfl) yy ak) (by simp))))) ae (Lk.trans (Nat.le_refl _) aa)
     have Ln:∀z,aH Tryz.prog Tryz.f53 none (Y (m+2)) [1,1,1,1,0,1] ⟨[(0,.ptr R 0),(98,.int .i64 (Int.ofNat k))],[],.none,y⟩ .nrm ⟨[(0,.ptr R 0)],[],.none,z⟩->eL k nm ns (xs.map aF.k) (cn xs) xs.length (il rt)=true->Ext B y z->∃an,Y (m+3) (.fn 53) [.ptr R 0] h=.ret (.bool (hj xs&&eL k nm ns (xs.map aF.k) (cn xs) xs.length (il rt))) an/\Ext B h an:=λz ak ae aa=>by
      rw[iq,Bool.true_and]
      exact fin true z (aH.seq (p:=[1]) (by kernel_rfl) s1 (aH.seq (p:=[1,1]) (by kernel_rfl) ko (aH.seq (p:=[1,1,1]) (by kernel_rfl) eN (aH.seq (p:=[1,1,1,1]) (by kernel_rfl) (cZ.post (Γ2:=[]) (aH.seq (p:=[1,1,1,1,0]) (by kernel_rfl) yy ak) trivial) (VH (Y (m+2)) z))))) ae.symm (Lk.trans (Nat.le_refl _) aa)
     have h1:∀i (i2:i<xs.length),dY xs[i]=true:=λi i2=>yq iq (List.getElem_mem i2)
     by_cases gM:k=6
     · subst gM
       exact vM (lo nm) y (Vz (Y (m+2)) R nm _ y y (aU hR rfl) (UW m nm y)) (by simp[eL]) (Ext.refl _ _)
     by_cases gq:k=7
     · subst gq
       have tN:eL 7 nm ns (xs.map aF.k) (cn xs) xs.length (il rt)=(decide (ns.length=xs.length)&&jx none ns):=by simp[eL]
       have Bq:Ext B y (y.room 11):=Ext.room B y 11
       have iR:=(Bq.get R ad).trans hR
       have Lo:=gK.ext Bq (Nat.le_refl _)
       have fq:=Ll.ck Lo
       have l5:=yl.ck Lo
       by_cases aK:ns.length=vs.length
       · obtain⟨e,Γ,z,ba,a7,b5⟩:=Fh (m:=m) ad hR Ll (by omega) ns.length 0 (y.room 11) (by omega) (by omega) (λq aT=>by cases aT) Bq
         have gr:=ft.run (p:=[1,1,1,1,0,1,0,1,1,1,0,1,1,0]) (by kernel_rfl) ba (by omega)
         rw[List.drop_zero,show l2 ns 0=none from rfl] at a7
         rcases a7 with⟨rfl,rfl,gb⟩|⟨rfl,rfl,gb⟩
         · exact Ln z (VB (Y (m+2)) R ns.length vs.length bJ bd y z (aU iR rfl) fq.vE (aU iR rfl) l5.oj fq.snd l5.snd (Bf aK) (cZ.pre gr ⟨rfl,rfl,trivial⟩ rfl rfl rfl)) (by rw[tN,gb];simp;omega) b5
         · exact vM false z (VC (Y (m+2)) R ns.length vs.length bJ bd y z (aU iR rfl) fq.vE (aU iR rfl) l5.oj fq.snd l5.snd (Bf aK) (cZ.pre gr ⟨rfl,rfl,trivial⟩ rfl rfl rfl)) (by rw[tN,gb];simp) b5
       · exact vM false _ (VA (Y (m+2)) R ns.length vs.length bJ bd y (aU iR rfl) fq.vE (aU iR rfl) l5.oj fq.snd l5.snd (E5 aK)) (by rw[tN];simp;omega) Bq
     by_cases gX:k=8
     · subst gX
       cases rt with
       |none=>simp[hQ] at hr
       |some u=>
        rw[l0] at di gW hm
        rw[qu] at iz
        obtain⟨z,aG,a9⟩:=a6 u (by omega) (by omega) (by omega) (m+2) B y cU (by omega) Fm VT
        exact vM (dY u) z (VD (Y (m+2)) R cU _ y z (aU hR rfl) aG) (by simp[eL,il]) a9
     by_cases gC:k=9
     · subst gC
       have vN:eL 9 nm ns (xs.map aF.k) (cn xs) xs.length (il rt)=(kA none (xs.map aF.k) (cn xs)&&decide (2<=xs.length)):=by simp[eL]
       have Lp:∀i (af:i<(cn xs).length),(cn xs)[i].length<=90000:=λi af=>by
        have i2:i<xs.length:=by omega
        have aZ:=oh (List.getElem_mem i2)
        have aO:=(Fj xs[i] (h1 i i2)).2
        rw[vz xs i i2 af]
        omega
       obtain⟨e,Γ,z,ba,a7,b5⟩:=Fi (m:=m+1) (ws:=cn xs) ad hR yl Lm (by omega) (by omega) Lp (λi i1 i2 x aa=>by
        have i3:i<xs.length:=by omega
        have aZ:=oh (List.getElem_mem i3)
        have ae:=Lp i i2
        rw[vz xs i i3 i2] at ae⊢
        exact Bj K xs[i] (by omega) (by omega) (Fj xs[i] (h1 i i3)).1 (by omega) (m+1+1) B x vs[i] (by omega) (Nat.le_trans Fm aa.n) (dE.ck (gK.ext aa (Nat.le_refl _)) _ _ (dO.get Lm i i1 i3))) vs.length 0 y (by omega) (by omega) (Ext.refl _ _)
       have gr:=ft.run (p:=[1,1,1,1,0,1,0,1,1,1,1,1,1,1,0,0,1,0]) (by kernel_rfl) ba (by omega)
       rw[List.drop_zero,List.drop_zero,show l2 (cn xs) 0=none from rfl] at a7
       rcases a7 with⟨rfl,rfl,gb⟩|⟨rfl,rfl,gb⟩
       · exact vM (fb (Int.ofNat 2) (Int.ofNat vs.length)) z (VE (Y (m+2)) R vs.length bd y z (cZ.pre gr ⟨rfl,rfl,trivial⟩ rfl rfl rfl) (aU ((b5.get R ad).trans hR) rfl) yl.oj) (by rw[vN,gb,UT,fs];rfl) b5
       · exact vM false z (VF (Y (m+2)) R y z (cZ.pre gr ⟨rfl,rfl,trivial⟩ rfl rfl rfl)) (by rw[vN,gb];rfl) b5
     · exact Ln y (VG (Y (m+2)) R k y (ji gM) (ji gq) (ji gX) (ji gC)) (by simp[eL,gM,gq,gX,gC]) (Ext.refl _ _)
   · have eN:=aH.seq (p:=[1,1,1,0]) (by kernel_rfl) (Le (Y (m+2)) R (h.room 54)) (aH.te (p:=[1,1,1,0,1]) (id:=0) (by kernel_rfl) im (by simp))
     exact fin false y (aH.seq (p:=[1]) (by kernel_rfl) s1 (aH.seq (p:=[1,1]) (by kernel_rfl) ko (aH.iD (p:=[1,1,1]) (by kernel_rfl) eN (by simp)))) (by rw[iq];rfl) (rT.trans (Nat.le_refl _) dq)
end Go.Proofs.cF
namespace Go.Proofs.cF
open Go aM Go.Proofs c_
set_option maxRecDepth 100000
set_option maxHeartbeats 1000000
def dg:Option aF->Nat
 |none=>1
 |some t=>if 60<sz t then 3 else if dY t=true then 0 else 2
theorem Lq{ot:Option aF}{B:Nat}{h:J}{v:I}(m:Nat)(gW:dx ot<=90000)(aK:∀t,ot=some t->k0 t<=90000)(hm:dx ot+4<=m)(cM:B<=h.n)(aB:ey B h ot v):
  ∃an,Y (m+1) (.fn 28) [v] h=.ret (.int .i64 (Int.ofNat (dg ot))) an/\Ext B h an:=by
 have fin:∀c y,aH Tryz.prog Tryz.f28 none (Y m) [1] ⟨[(0,v)],[],.none,h⟩ .ret ⟨[(2,.int .i64 (Int.ofNat c))],[],.none,y⟩->c=dg ot->Ext B h y->∃an,Y (m+1) (.fn 28) [v] h=.ret (.int .i64 (Int.ofNat (dg ot))) an/\Ext B h an:=λc y ak ag aa=>by
  rw[<-ag]
  exact⟨y,eK (intr:=b1) (n:=m) (args:=[v]) Tryz.func28 (by kernel_rfl) rfl (by kernel_rfl) (aH.seq (p:=[]) (by kernel_rfl) (VK (Y m) v h) ak) (.inl rfl) (by kernel_rfl),aa⟩
 cases ot with
 |none=>
  obtain rfl:v=.bb:=aB
  exact fin 1 h (VL (Y m) h) rfl (Ext.refl _ _)
 |some t=>
  have bw:dx (some t)=sz t:=l0 t
  obtain⟨m,rfl⟩:∃j,m=j+1:=⟨m-1,by omega⟩
  have aG:=Uk (m:=m) gW (by omega) aB
  rw[bw] at aG gW hm
  rcases aB.Be with rfl|⟨R,rfl⟩
  · cases t with
    |mk bE b0 ec gP hg=>obtain⟨R,bJ,bd,cU,vs,bh,aN,up,aa,_⟩:=aB;cases aa
  by_cases pv:60<sz t
  · exact fin 3 h (VP (Y (m+1)) R _ false h h h aG (dS (by omega))) (by simp[dg,pv]) (Ext.refl _ _)
  · obtain⟨y,a9,cX⟩:=Lj TE (sz t) t (Nat.le_refl _) (by omega) (aK t rfl) (m+1) B h (.ptr R 0) (by omega) cM aB
    cases rX:dY t with
    |true=>
     rw[rX] at a9
     exact fin 0 y (VR (Y (m+1)) R _ true h h y aG (eW (by omega)) a9 rfl) (by simp[dg,pv,rX]) cX
    |false=>
     rw[rX] at a9
     exact fin 2 y (VQ (Y (m+1)) R _ false h h y aG (eW (by omega)) a9 rfl) (by simp[dg,pv,rX]) cX
end Go.Proofs.cF
