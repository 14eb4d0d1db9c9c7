/-
  PROVED HERE: contracts of functions (Dc). No condition beside each statement's own.
-/
import Derived.Test.YtfooahfebojldaaGreatDoorDb
import Derived.Test.YtfooahfebojldaaGreatDoorTx
set_option linter.unusedVariables false
set_option linter.unusedSimpArgs false
namespace Go.Proofs.cR
open Go aD Go.Proofs dE
set_option maxRecDepth 100000
set_option maxHeartbeats 1000000
theorem Uo(call:ay->List I->J->an)(v:I)(h:J):
  av Tryz.prog Tryz.f91 none call [0] (ag.mk [(0,v)] [] .none h) (.nrm)
   (ag.mk [(0,v)] [] .none h):=
 a1 [0] (hs:=[]) (by kernel_rfl)<| .nil
theorem Up(call:ay->List I->J->an)(r k:Nat)(h:J)(ca:Nat)
  (H1:aq h r (0+0)=some (.int .i64 (.ofNat ca)))
  (az:bC (.ofNat ca) (.ofNat 1)=true):
  av Tryz.prog Tryz.f91 none call [1,0] (ag.mk [(0,.ptr r 0)] [] .none h) (.ret)
   (ag.mk [(0,.ptr r 0),(2,.bool false)] [] .none h):=
 a1 [0,2] (hs:=[.v (.bool false),.b false,.b false,.b false,.b false,.v (.int .i64 (.ofNat ca)),.b false,.b false,.b true,.b true,.b true,.b true,.b true,.b true,.b true]) (by kernel_rfl)<| .cons (by kernel_rfl:c7 Tryz.prog h BinOp.eql 47 (Operand.tmp 7) (Operand.const (Value.pointer none)) (I.ptr r 0) I.aR=some (I.bool false))<| .cons (by kernel_rfl:false=false)<| .cons (by kernel_rfl:false=false)<| .cons (by kernel_rfl:false=false)<| .cons (by kernel_rfl:false=false)<| .cons H1<| .cons (by kernel_rfl:false=false)<| .cons (by kernel_rfl:false=false)<| .cons az<| .cons az<| .cons az<| .cons az<| .cons az<| .cons az<| .cons (by kernel_rfl:true=true)<| .nil
theorem Uq(call:ay->List I->J->an)(r k:Nat)(h:J)(ca:Nat)
  (H1:aq h r (0+0)=some (.int .i64 (.ofNat ca)))
  (az:bC (.ofNat ca) (.ofNat 1)=false)
  (a0:bC (.ofNat 9) (.ofNat ca)=true):
  av Tryz.prog Tryz.f91 none call [1,0] (ag.mk [(0,.ptr r 0)] [] .none h) (.ret)
   (ag.mk [(0,.ptr r 0),(2,.bool false)] [] .none h):=
 a1 [0,2] (hs:=[.v (.bool false),.b false,.b false,.b false,.b false,.v (.int .i64 (.ofNat ca)),.b false,.b false,.b false,.b false,.b false,.b false,.v (.int .i64 (.ofNat ca)),.b false,.b false,.b true]) (by kernel_rfl)<| .cons (by kernel_rfl:c7 Tryz.prog h BinOp.eql 47 (Operand.tmp 7) (Operand.const (Value.pointer none)) (I.ptr r 0) I.aR=some (I.bool false))<| .cons (by kernel_rfl:false=false)<| .cons (by kernel_rfl:false=false)<| .cons (by kernel_rfl:false=false)<| .cons (by kernel_rfl:false=false)<| .cons H1<| .cons (by kernel_rfl:false=false)<| .cons (by kernel_rfl:false=false)<| .cons az<| .cons az<| .cons az<| .cons az<| .cons H1<| .cons az<| .cons az<| .cons a0<| .nil
theorem Ur(call:ay->List I->J->an)(r k:Nat)(h:J)(ca:Nat)
  (H1:aq h r (0+0)=some (.int .i64 (.ofNat ca)))
  (az:bC (.ofNat ca) (.ofNat 1)=false)
  (a0:bC (.ofNat 9) (.ofNat ca)=false):
  av Tryz.prog Tryz.f91 none call [1,0] (ag.mk [(0,.ptr r 0)] [] .none h) (.nrm)
   (ag.mk [(0,.ptr r 0)] [] .none h):=
 a1 [0,2] (hs:=[.v (.bool false),.b false,.b false,.b false,.b false,.v (.int .i64 (.ofNat ca)),.b false,.b false,.b false,.b false,.b false,.b false,.v (.int .i64 (.ofNat ca)),.b false,.b false,.b false]) (by kernel_rfl)<| .cons (by kernel_rfl:c7 Tryz.prog h BinOp.eql 47 (Operand.tmp 7) (Operand.const (Value.pointer none)) (I.ptr r 0) I.aR=some (I.bool false))<| .cons (by kernel_rfl:false=false)<| .cons (by kernel_rfl:false=false)<| .cons (by kernel_rfl:false=false)<| .cons (by kernel_rfl:false=false)<| .cons H1<| .cons (by kernel_rfl:false=false)<| .cons (by kernel_rfl:false=false)<| .cons az<| .cons az<| .cons az<| .cons az<| .cons H1<| .cons az<| .cons az<| .cons a0<| .nil
theorem Us(call:ay->List I->J->an)(r:Nat)(h:J){Q:bF->ag->Prop}(H:∃s1:List UInt8,aq (h.room 54) r (0+1)=some (.str s1)/\∃aQ:Nat,aq (h.room 54) r (0+0)=some (.int .i64 (.ofNat aQ))/\(ei (!cg s1 []) (a7 (.ofNat aQ) (.ofNat 6))=true->∃v1:I,aq (h.room 54) r (0+2)=some v1/\∃bI:Nat,bU Tryz.prog (h.room 54) 48 v1=some (.int .i64 (.ofNat bI))/\(0<bI->∃cr:Nat,aq (h.room 54) r (0+0)=some (.int .i64 (.ofNat cr))/\(cr=7->∃v2:I,aq (h.room 54) r (0+3)=some v2/\∃cF:Nat,bU Tryz.prog (h.room 54) 49 v2=some (.int .i64 (.ofNat cF))/\(0<cF->∃dc:Nat,aq (h.room 54) r (0+0)=some (.int .i64 (.ofNat dc))/\(dc<7->I.sound v1=true/\I.sound v2=true/\Q .ret (ag.mk [(0,.ptr r 0),(2,.bool false)] [] .none (h.room 54)))/\(¬dc<7->∃dk:Nat,aq (h.room 54) r (0+4)=some (.ptr dk 0)/\∃eM:Nat,aq (h.room 54) r (0+0)=some (.int .i64 (.ofNat eM))/\I.sound v1=true/\I.sound v2=true/\(ei true (a7 (.ofNat eM) (.ofNat 8))=true->Q .nrm (ag.mk [(0,.ptr r 0)] [] .none (h.room 54)))/\(ei true (a7 (.ofNat eM) (.ofNat 8))=false->Q .ret (ag.mk [(0,.ptr r 0),(2,.bool false)] [] .none (h.room 54)))))/\(¬0<cF->∃g9:Nat,aq (h.room 54) r (0+4)=some (.ptr g9 0)/\∃gW:Nat,aq (h.room 54) r (0+0)=some (.int .i64 (.ofNat gW))/\I.sound v1=true/\I.sound v2=true/\(ei true (a7 (.ofNat gW) (.ofNat 8))=true->Q .nrm (ag.mk [(0,.ptr r 0)] [] .none (h.room 54)))/\(ei true (a7 (.ofNat gW) (.ofNat 8))=false->Q .ret (ag.mk [(0,.ptr r 0),(2,.bool false)] [] .none (h.room 54)))))/\(¬cr=7->I.sound v1=true/\Q .ret (ag.mk [(0,.ptr r 0),(2,.bool false)] [] .none (h.room 54))))/\(¬0<bI->∃cX:I,aq (h.room 54) r (0+3)=some cX/\∃gM:Nat,bU Tryz.prog (h.room 54) 49 cX=some (.int .i64 (.ofNat gM))/\(0<gM->∃iu:Nat,aq (h.room 54) r (0+0)=some (.int .i64 (.ofNat iu))/\(iu<7->I.sound v1=true/\I.sound cX=true/\Q .ret (ag.mk [(0,.ptr r 0),(2,.bool false)] [] .none (h.room 54)))/\(¬iu<7->∃km:Nat,aq (h.room 54) r (0+4)=some (.ptr km 0)/\∃jZ:Nat,aq (h.room 54) r (0+0)=some (.int .i64 (.ofNat jZ))/\I.sound v1=true/\I.sound cX=true/\(ei true (a7 (.ofNat jZ) (.ofNat 8))=true->Q .nrm (ag.mk [(0,.ptr r 0)] [] .none (h.room 54)))/\(ei true (a7 (.ofNat jZ) (.ofNat 8))=false->Q .ret (ag.mk [(0,.ptr r 0),(2,.bool false)] [] .none (h.room 54)))))/\(¬0<gM->∃lW:Nat,aq (h.room 54) r (0+4)=some (.ptr lW 0)/\∃kJ:Nat,aq (h.room 54) r (0+0)=some (.int .i64 (.ofNat kJ))/\I.sound v1=true/\I.sound cX=true/\(ei true (a7 (.ofNat kJ) (.ofNat 8))=true->Q .nrm (ag.mk [(0,.ptr r 0)] [] .none (h.room 54)))/\(ei true (a7 (.ofNat kJ) (.ofNat 8))=false->Q .ret (ag.mk [(0,.ptr r 0),(2,.bool false)] [] .none (h.room 54))))))/\(ei (!cg s1 []) (a7 (.ofNat aQ) (.ofNat 6))=false->Q .ret (ag.mk [(0,.ptr r 0),(2,.bool false)] [] .none (h.room 54)))):
  bw Tryz.prog Tryz.f91 call [1,1,0] ⟨[(0,.ptr r 0)],[],.none,h⟩ Q:=
 e6 [] [0,2] [(0,.v (.ptr r 0))] rfl (Eq.mp (by kernel_rfl) H)
theorem Ut(call:ay->List I->J->an)(r:Nat)(h:J){Q:bF->ag->Prop}(H:∃s1:List UInt8,aq (h.room 54) r (0+1)=some (.str s1)/\∃aQ:Nat,aq (h.room 54) r (0+0)=some (.int .i64 (.ofNat aQ))/\(ei (!cg s1 []) (a7 (.ofNat aQ) (.ofNat 6))=true->∃v1:I,aq (h.room 54) r (0+2)=some v1/\∃bI:Nat,bU Tryz.prog (h.room 54) 48 v1=some (.int .i64 (.ofNat bI))/\(0<bI->∃cr:Nat,aq (h.room 54) r (0+0)=some (.int .i64 (.ofNat cr))/\(cr=7->∃v2:I,aq (h.room 54) r (0+3)=some v2/\∃cF:Nat,bU Tryz.prog (h.room 54) 49 v2=some (.int .i64 (.ofNat cF))/\(0<cF->∃dc:Nat,aq (h.room 54) r (0+0)=some (.int .i64 (.ofNat dc))/\(dc<7->I.sound v1=true/\I.sound v2=true/\Q .ret (ag.mk [(0,.ptr r 0),(2,.bool false)] [] .none (h.room 54)))/\(¬dc<7->aq (h.room 54) r (0+4)=some .aR/\∃dk:Nat,aq (h.room 54) r (0+0)=some (.int .i64 (.ofNat dk))/\I.sound v1=true/\I.sound v2=true/\(ei false (a7 (.ofNat dk) (.ofNat 8))=true->Q .nrm (ag.mk [(0,.ptr r 0)] [] .none (h.room 54)))/\(ei false (a7 (.ofNat dk) (.ofNat 8))=false->Q .ret (ag.mk [(0,.ptr r 0),(2,.bool false)] [] .none (h.room 54)))))/\(¬0<cF->aq (h.room 54) r (0+4)=some .aR/\∃eM:Nat,aq (h.room 54) r (0+0)=some (.int .i64 (.ofNat eM))/\I.sound v1=true/\I.sound v2=true/\(ei false (a7 (.ofNat eM) (.ofNat 8))=true->Q .nrm (ag.mk [(0,.ptr r 0)] [] .none (h.room 54)))/\(ei false (a7 (.ofNat eM) (.ofNat 8))=false->Q .ret (ag.mk [(0,.ptr r 0),(2,.bool false)] [] .none (h.room 54)))))/\(¬cr=7->I.sound v1=true/\Q .ret (ag.mk [(0,.ptr r 0),(2,.bool false)] [] .none (h.room 54))))/\(¬0<bI->∃cX:I,aq (h.room 54) r (0+3)=some cX/\∃g9:Nat,bU Tryz.prog (h.room 54) 49 cX=some (.int .i64 (.ofNat g9))/\(0<g9->∃gW:Nat,aq (h.room 54) r (0+0)=some (.int .i64 (.ofNat gW))/\(gW<7->I.sound v1=true/\I.sound cX=true/\Q .ret (ag.mk [(0,.ptr r 0),(2,.bool false)] [] .none (h.room 54)))/\(¬gW<7->aq (h.room 54) r (0+4)=some .aR/\∃gM:Nat,aq (h.room 54) r (0+0)=some (.int .i64 (.ofNat gM))/\I.sound v1=true/\I.sound cX=true/\(ei false (a7 (.ofNat gM) (.ofNat 8))=true->Q .nrm (ag.mk [(0,.ptr r 0)] [] .none (h.room 54)))/\(ei false (a7 (.ofNat gM) (.ofNat 8))=false->Q .ret (ag.mk [(0,.ptr r 0),(2,.bool false)] [] .none (h.room 54)))))/\(¬0<g9->aq (h.room 54) r (0+4)=some .aR/\∃iu:Nat,aq (h.room 54) r (0+0)=some (.int .i64 (.ofNat iu))/\I.sound v1=true/\I.sound cX=true/\(ei false (a7 (.ofNat iu) (.ofNat 8))=true->Q .nrm (ag.mk [(0,.ptr r 0)] [] .none (h.room 54)))/\(ei false (a7 (.ofNat iu) (.ofNat 8))=false->Q .ret (ag.mk [(0,.ptr r 0),(2,.bool false)] [] .none (h.room 54))))))/\(ei (!cg s1 []) (a7 (.ofNat aQ) (.ofNat 6))=false->Q .ret (ag.mk [(0,.ptr r 0),(2,.bool false)] [] .none (h.room 54)))):
  bw Tryz.prog Tryz.f91 call [1,1,0] ⟨[(0,.ptr r 0)],[],.none,h⟩ Q:=
 e6 [(68,.b2 (.is .aR))] [0,2] [(0,.v (.ptr r 0))] rfl (Eq.mp (by kernel_rfl) H)
theorem u0(x:Bool)(k c:Nat):ei x (a7 (Int.ofNat k) (Int.ofNat c))=!(x !=decide (k=c)):=by
 rw[p9];cases x<;>cases decide (k=c)<;>rfl
def xJ(b:Bool)(s1 s2:ag)(e:bF)(s:ag):Prop:=if b=true then e=.nrm/\s=s1 else e=.ret/\s=s2
theorem Kp{b:Bool}{s1 s2:ag}(h:b=true):xJ b s1 s2 .nrm s1:=by unfold xJ;rw[if_pos h];exact⟨rfl,rfl⟩
theorem u1{b:Bool}{s1 s2:ag}(h:b=false):xJ b s1 s2 .ret s2:=by unfold xJ;rw[if_neg (by rw[h];simp)];exact⟨rfl,rfl⟩
theorem Kq{fn:Func}{call:ay->List I->J->an}{p:List Nat}{st s1:ag}{b:Bool}{Γ Γ2:Env}{ad:J}(h:bw Tryz.prog fn call p st (xJ b s1 ⟨Γ,[],.none,ad⟩))(hs:cC Γ2 Γ):if b=true then av Tryz.prog fn none call p st .nrm s1 else av Tryz.prog fn none call p st .ret ⟨Γ2,[],.none,ad⟩:=by
 obtain⟨e,s,r,q⟩:=h
 cases b with
 |true=>obtain⟨rfl,rfl⟩:=q;exact r
 |false=>obtain⟨rfl,rfl⟩:=q;exact ck.post r hs
theorem Uu{m R k N M w:Nat}{s:aU}{n a:I}{h:J}{bS:eC}{bf up:Nat}(EG:h.get R=some (.cells [.int .i64 (Int.ofNat k),.str s,n,a,.ptr w 0] 51 bS bf up))(aK:bU Tryz.prog (h.room 54) 48 n=some (.int .i64 (Int.ofNat N)))(a2:bU Tryz.prog (h.room 54) 49 a=some (.int .i64 (Int.ofNat M)))(jl:I.sound n=true)(n6:I.sound a=true):
  if jW k s N M true=true then av Tryz.prog Tryz.f91 none (Y m) [1,1,0] ⟨[(0,.ptr R 0)],[],.none,h⟩ .nrm ⟨[(0,.ptr R 0)],[],.none,h.room 54⟩
  else av Tryz.prog Tryz.f91 none (Y m) [1,1,0] ⟨[(0,.ptr R 0)],[],.none,h⟩ .ret ⟨[(2,.bool false)],[],.none,h.room 54⟩:=by
 have aj:(h.room 54).get R=some (.cells [.int .i64 (Int.ofNat k),.str s,n,a,.ptr w 0] 51 bS bf up):=EG
 refine Kq (Γ:=[(0,.ptr R 0),(2,.bool false)]) (Us (Y m) R h ⟨s,aH aj rfl,k,aH aj rfl,λc1=>?_,λc1=>?_⟩) ⟨rfl,trivial⟩
 · rw[u0] at c1
   refine⟨n,aH aj rfl,N,aK,λgJ=>⟨k,aH aj rfl,λek=>⟨a,aH aj rfl,M,a2,λh8=>⟨k,aH aj rfl,λg1=>absurd g1 (by omega),λg1=>⟨w,aH aj rfl,k,aH aj rfl,jl,n6,λc2=>?_,λc2=>?_⟩⟩,λh8=>⟨w,aH aj rfl,k,aH aj rfl,jl,n6,λc2=>?_,λc2=>?_⟩⟩,λek=>⟨jl,?_⟩⟩,λgJ=>⟨a,aH aj rfl,M,a2,λh8=>⟨k,aH aj rfl,λg1=>⟨jl,n6,?_⟩,λg1=>⟨w,aH aj rfl,k,aH aj rfl,jl,n6,λc2=>?_,λc2=>?_⟩⟩,λh8=>⟨w,aH aj rfl,k,aH aj rfl,jl,n6,λc2=>?_,λc2=>?_⟩⟩⟩
   all_goals (try rw[u0] at c2)
   all_goals first
    |(refine Kp ?_;simp only[jW,c1,c2];simp;omega)
    |(refine u1 ?_;simp only[jW,c1,c2];simp;done)
    |(refine u1 ?_;simp[jW];omega)
 · rw[u0] at c1
   exact u1 (by simp only[jW,c1];simp)
theorem Uv{m R k N M:Nat}{s:aU}{n a:I}{h:J}{bS:eC}{bf up:Nat}(EG:h.get R=some (.cells [.int .i64 (Int.ofNat k),.str s,n,a,.aR] 51 bS bf up))(aK:bU Tryz.prog (h.room 54) 48 n=some (.int .i64 (Int.ofNat N)))(a2:bU Tryz.prog (h.room 54) 49 a=some (.int .i64 (Int.ofNat M)))(jl:I.sound n=true)(n6:I.sound a=true):
  if jW k s N M false=true then av Tryz.prog Tryz.f91 none (Y m) [1,1,0] ⟨[(0,.ptr R 0)],[],.none,h⟩ .nrm ⟨[(0,.ptr R 0)],[],.none,h.room 54⟩
  else av Tryz.prog Tryz.f91 none (Y m) [1,1,0] ⟨[(0,.ptr R 0)],[],.none,h⟩ .ret ⟨[(2,.bool false)],[],.none,h.room 54⟩:=by
 have aj:(h.room 54).get R=some (.cells [.int .i64 (Int.ofNat k),.str s,n,a,.aR] 51 bS bf up):=EG
 refine Kq (Γ:=[(0,.ptr R 0),(2,.bool false)]) (Ut (Y m) R h ⟨s,aH aj rfl,k,aH aj rfl,λc1=>?_,λc1=>?_⟩) ⟨rfl,trivial⟩
 · rw[u0] at c1
   refine⟨n,aH aj rfl,N,aK,λgJ=>⟨k,aH aj rfl,λek=>⟨a,aH aj rfl,M,a2,λh8=>⟨k,aH aj rfl,λg1=>absurd g1 (by omega),λg1=>⟨aH aj rfl,k,aH aj rfl,jl,n6,λc2=>?_,λc2=>?_⟩⟩,λh8=>⟨aH aj rfl,k,aH aj rfl,jl,n6,λc2=>?_,λc2=>?_⟩⟩,λek=>⟨jl,?_⟩⟩,λgJ=>⟨a,aH aj rfl,M,a2,λh8=>⟨k,aH aj rfl,λg1=>⟨jl,n6,?_⟩,λg1=>⟨aH aj rfl,k,aH aj rfl,jl,n6,λc2=>?_,λc2=>?_⟩⟩,λh8=>⟨aH aj rfl,k,aH aj rfl,jl,n6,λc2=>?_,λc2=>?_⟩⟩⟩
   all_goals (try rw[u0] at c2)
   all_goals first
    |(refine Kp ?_;simp only[jW,c1,c2];simp;omega)
    |(refine u1 ?_;simp only[jW,c1,c2];simp;done)
    |(refine u1 ?_;simp[jW];omega)
 · rw[u0] at c1
   exact u1 (by simp only[jW,c1];simp)
end Go.Proofs.cR
namespace Go.Proofs.cR
open Go aD Go.Proofs dE
set_option maxRecDepth 100000
set_option maxHeartbeats 1000000
theorem Kr(call:ay->List I->J->an)(r:Nat)(h:J):
  av Tryz.prog Tryz.f91 none call [1,1,1,0,0] (ag.mk [(0,.ptr r 0)] [] .none h) (.nrm)
   (ag.mk [(0,.ptr r 0),(3,.int .i64 (.ofNat 0))] [] .none h):=
 a1 [0,3] (hs:=[]) (by kernel_rfl)<| .nil
theorem Uw(call:ay->List I->J->an)(r i N:Nat)(v:I)(h:J)
  (H1:aq h r (0+3)=some v)
  (az:bU Tryz.prog h 49 v=some (.int .i64 (.ofNat N)))
  (a0:bC (.ofNat i) (.ofNat N)=false):
  av Tryz.prog Tryz.f91 none call [1,1,1,0,1,0,0] (ag.mk [(0,.ptr r 0),(3,.int .i64 (.ofNat i))] [] .none h) (.exit 0)
   (ag.mk [(0,.ptr r 0)] [] .none h):=
 a1 [0] (hs:=[.v v,.o (.int .i64 (.ofNat N)),.b false]) (by kernel_rfl)<| .cons H1<| .cons az<| .cons a0<| .nil
theorem Ux(call:ay->List I->J->an)(r b off N i q j:Nat)(c:Bool)(x:I)(aB:b5)(h g:J)
  (H1:aq h r (0+3)=some (.slice b off N aB))
  (az:bC (.ofNat i) (.ofNat N)=true)
  (a0:Nat.le (Nat.succ i) N/\I.ptr b q=I.ptr b (off+i*1))
  (aS:aq h b q=some x)
  (bo:call (.fn 91) [x] h=an.ret (.bool c) g)
  (bV:(!c)=true):
  av Tryz.prog Tryz.f91 none call [1,1,1,0,1,0,0] (ag.mk [(0,.ptr r 0),(3,.int .i64 (.ofNat i))] [] .none h) (.ret)
   (ag.mk [(0,.ptr r 0),(2,.bool false),(3,.int .i64 (.ofNat i))] [] .none g):=
 a1 [0,2,3] (hs:=[.v (.slice b off N aB),.b true,.v (.slice b off N aB),.v (.ptr b q),.v x,.c (.bool c) g,.b true]) (by kernel_rfl)<| .cons H1<| .cons az<| .cons H1<| .cons a0<| .cons aS<| .cons bo<| .cons bV<| .nil
theorem Uy(call:ay->List I->J->an)(r b off N i q j:Nat)(c:Bool)(x:I)(aB:b5)(h g:J)
  (H1:aq h r (0+3)=some (.slice b off N aB))
  (az:bC (.ofNat i) (.ofNat N)=true)
  (a0:Nat.le (Nat.succ i) N/\I.ptr b q=I.ptr b (off+i*1))
  (aS:aq h b q=some x)
  (bo:call (.fn 91) [x] h=an.ret (.bool c) g)
  (bV:(!c)=false)
  (cw:arith .add .i64 (.ofNat i) (.ofNat 1)=some (.int .i64 (.ofNat j))):
  av Tryz.prog Tryz.f91 none call [1,1,1,0,1,0,0] (ag.mk [(0,.ptr r 0),(3,.int .i64 (.ofNat i))] [] .none h) (.nrm)
   (ag.mk [(0,.ptr r 0),(3,.int .i64 (.ofNat j))] [] .none g):=
 a1 [0,2,3] (hs:=[.v (.slice b off N aB),.b true,.v (.slice b off N aB),.v (.ptr b q),.v x,.c (.bool c) g,.b false,.v (.int .i64 (.ofNat j))]) (by kernel_rfl)<| .cons H1<| .cons az<| .cons H1<| .cons a0<| .cons aS<| .cons bo<| .cons bV<| .cons cw<| .nil
theorem Uz(call:ay->List I->J->an)(r k:Nat)(h:J)
  (H1:aq h r (0+0)=some (.int .i64 (.ofNat k))):
  av Tryz.prog Tryz.f91 none call [1,1,1,1,0,0] (ag.mk [(0,.ptr r 0)] [] .none h) (.nrm)
   (ag.mk [(0,.ptr r 0),(98,.int .i64 (.ofNat k))] [] .none h):=
 a1 [0,98] (hs:=[.v (.int .i64 (.ofNat k))]) (by kernel_rfl)<| .cons H1<| .nil
theorem UA(call:ay->List I->J->an)(r:Nat)(s:List UInt8)(b:Bool)(h g:J)
  (H1:aq h r (0+1)=some (.str s))
  (az:call (.fn 113) [.str s] h=an.ret (.bool b) g):
  av Tryz.prog Tryz.f91 none call [1,1,1,1,0,1] (ag.mk [(0,.ptr r 0),(98,.int .i64 (.ofNat 6))] [] .none h) (.ret)
   (ag.mk [(2,.bool b)] [] .none g):=
 a1 [2] (hs:=[.b true,.v (.str s),.c (.bool b) g]) (by kernel_rfl)<| .cons (by kernel_rfl:a7 (Int.ofNat 6) (Int.ofNat 6)=true)<| .cons H1<| .cons az<| .nil
theorem UB(call:ay->List I->J->an)(r N M:Nat)(n a:I)(h:J)
  (H1:aq (J.room h 11) r (0+2)=some n)
  (az:bU Tryz.prog (J.room h 11) 48 n=some (.int .i64 (.ofNat N)))
  (a0:aq (J.room h 11) r (0+3)=some a)
  (aS:bU Tryz.prog (J.room h 11) 49 a=some (.int .i64 (.ofNat M)))
  (bo:I.sound n=true:=by first|with_reducible assumption|rfl|exact cL.snd (by with_reducible assumption)|exact cL.eK (by with_reducible assumption)|exact cE.snd (by with_reducible assumption)|exact cE.eK (by with_reducible assumption)|exact cN.snd (by with_reducible assumption)|exact cN.eK (by with_reducible assumption))
  (bV:I.sound a=true:=by first|with_reducible assumption|rfl|exact cL.snd (by with_reducible assumption)|exact cL.eK (by with_reducible assumption)|exact cE.snd (by with_reducible assumption)|exact cE.eK (by with_reducible assumption)|exact cN.snd (by with_reducible assumption)|exact cN.eK (by with_reducible assumption))
  (cw:(!a7 (.ofNat N) (.ofNat M))=true):
  av Tryz.prog Tryz.f91 none call [1,1,1,1,0,1] (ag.mk [(0,.ptr r 0),(98,.int .i64 (.ofNat 7))] [] .none h) (.ret)
   (ag.mk [(2,.bool false)] [] .none (J.room h 11)):=
 a1 [2] (hs:=[.b false,.b true,.v n,.o (.int .i64 (.ofNat N)),.v a,.o (.int .i64 (.ofNat M)),.b true]) (by kernel_rfl)<| .cons (by kernel_rfl:a7 (Int.ofNat 7) (Int.ofNat 6)=false)<| .cons (by kernel_rfl:a7 (Int.ofNat 7) (Int.ofNat 7)=true)<| .cons H1<| .cons az<| .cons a0<| .cons aS<| .cons (by kernel_rfl:I.sound (I.ptr r 0)=true)<| .cons (by kernel_rfl:I.ptr r 0=I.ptr r 0)<| .cons (by kernel_rfl:I.sound (I.ptr r 0)=true)<| .cons (by kernel_rfl:I.ptr r 0=I.ptr r 0)<| .cons (by kernel_rfl:I.sound (I.ptr r (0+2))=true)<| .cons (by kernel_rfl:I.ptr r (0+2)=I.ptr r (0+2))<| .cons bo<| .cons H1<| .cons (by kernel_rfl:I.sound (I.int IntKind.i64 (Int.ofNat N))=true)<| .cons az<| .cons (by kernel_rfl:I.sound (I.ptr r 0)=true)<| .cons (by kernel_rfl:I.ptr r 0=I.ptr r 0)<| .cons (by kernel_rfl:I.sound (I.ptr r 0)=true)<| .cons (by kernel_rfl:I.ptr r 0=I.ptr r 0)<| .cons (by kernel_rfl:I.sound (I.ptr r (0+3))=true)<| .cons (by kernel_rfl:I.ptr r (0+3)=I.ptr r (0+3))<| .cons bV<| .cons a0<| .cons (by kernel_rfl:I.sound (I.int IntKind.i64 (Int.ofNat M))=true)<| .cons aS<| .cons (by kernel_rfl:I.sound (I.bool !a7 (Int.ofNat N) (Int.ofNat M))=true)<| .cons (by kernel_rfl:(I.bool !a7 (Int.ofNat N) (Int.ofNat M))=I.bool !a7 (Int.ofNat N) (Int.ofNat M))<| .cons cw<| .nil
theorem UC(call:ay->List I->J->an)(r N M:Nat)(n a:I)(h g:J)
  (H1:aq (J.room h 11) r (0+2)=some n)
  (az:bU Tryz.prog (J.room h 11) 48 n=some (.int .i64 (.ofNat N)))
  (a0:aq (J.room h 11) r (0+3)=some a)
  (aS:bU Tryz.prog (J.room h 11) 49 a=some (.int .i64 (.ofNat M)))
  (bo:I.sound n=true:=by first|with_reducible assumption|rfl|exact cL.snd (by with_reducible assumption)|exact cL.eK (by with_reducible assumption)|exact cE.snd (by with_reducible assumption)|exact cE.eK (by with_reducible assumption)|exact cN.snd (by with_reducible assumption)|exact cN.eK (by with_reducible assumption))
  (bV:I.sound a=true:=by first|with_reducible assumption|rfl|exact cL.snd (by with_reducible assumption)|exact cL.eK (by with_reducible assumption)|exact cE.snd (by with_reducible assumption)|exact cE.eK (by with_reducible assumption)|exact cN.snd (by with_reducible assumption)|exact cN.eK (by with_reducible assumption))
  (cw:(!a7 (.ofNat N) (.ofNat M))=false)
  (dS:av Tryz.prog Tryz.f91 none call [1,1,1,1,0,1,0,1,1,1,0,1,1,0] (ag.mk [(4,.int .i64 (.ofNat 0)),(118,.bool !a7 (.ofNat N) (.ofNat M)),(106,.bool (a7 (.ofNat 7) (.ofNat 7))),(99,.bool (a7 (.ofNat 7) (.ofNat 6))),(0,.ptr r 0),(98,.int .i64 (.ofNat 7))] [] .none (J.room h 11)) (.exit 3) (ag.mk [(0,.ptr r 0)] [] .none g)):
  av Tryz.prog Tryz.f91 none call [1,1,1,1,0,1] (ag.mk [(0,.ptr r 0),(98,.int .i64 (.ofNat 7))] [] .none h) (.nrm)
   (ag.mk [(0,.ptr r 0)] [] .none g):=
 a1 [0] (hs:=[Hint.b false,Hint.b true,Hint.v n,Hint.o (I.int IntKind.i64 (Int.ofNat N)),Hint.v a,Hint.o (I.int IntKind.i64 (Int.ofNat M)),Hint.b false,Hint.loop (bF.exit 3) (ag.mk [(0,I.ptr r 0)] [] bJ.none g)]) (by kernel_rfl)<| .cons (by kernel_rfl:a7 (Int.ofNat 7) (Int.ofNat 6)=false)<| .cons (by kernel_rfl:a7 (Int.ofNat 7) (Int.ofNat 7)=true)<| .cons H1<| .cons az<| .cons a0<| .cons aS<| .cons (by kernel_rfl:I.sound (I.ptr r 0)=true)<| .cons (by kernel_rfl:I.ptr r 0=I.ptr r 0)<| .cons (by kernel_rfl:I.sound (I.ptr r 0)=true)<| .cons (by kernel_rfl:I.ptr r 0=I.ptr r 0)<| .cons (by kernel_rfl:I.sound (I.ptr r (0+2))=true)<| .cons (by kernel_rfl:I.ptr r (0+2)=I.ptr r (0+2))<| .cons bo<| .cons H1<| .cons (by kernel_rfl:I.sound (I.int IntKind.i64 (Int.ofNat N))=true)<| .cons az<| .cons (by kernel_rfl:I.sound (I.ptr r 0)=true)<| .cons (by kernel_rfl:I.ptr r 0=I.ptr r 0)<| .cons (by kernel_rfl:I.sound (I.ptr r 0)=true)<| .cons (by kernel_rfl:I.ptr r 0=I.ptr r 0)<| .cons (by kernel_rfl:I.sound (I.ptr r (0+3))=true)<| .cons (by kernel_rfl:I.ptr r (0+3)=I.ptr r (0+3))<| .cons bV<| .cons a0<| .cons (by kernel_rfl:I.sound (I.int IntKind.i64 (Int.ofNat M))=true)<| .cons aS<| .cons (by kernel_rfl:I.sound (I.bool !a7 (Int.ofNat N) (Int.ofNat M))=true)<| .cons (by kernel_rfl:(I.bool !a7 (Int.ofNat N) (Int.ofNat M))=I.bool !a7 (Int.ofNat N) (Int.ofNat M))<| .cons cw<| .cons dS<| .nil
theorem UD(call:ay->List I->J->an)(r N M:Nat)(n a:I)(h g:J)
  (H1:aq (J.room h 11) r (0+2)=some n)
  (az:bU Tryz.prog (J.room h 11) 48 n=some (.int .i64 (.ofNat N)))
  (a0:aq (J.room h 11) r (0+3)=some a)
  (aS:bU Tryz.prog (J.room h 11) 49 a=some (.int .i64 (.ofNat M)))
  (bo:I.sound n=true:=by first|with_reducible assumption|rfl|exact cL.snd (by with_reducible assumption)|exact cL.eK (by with_reducible assumption)|exact cE.snd (by with_reducible assumption)|exact cE.eK (by with_reducible assumption)|exact cN.snd (by with_reducible assumption)|exact cN.eK (by with_reducible assumption))
  (bV:I.sound a=true:=by first|with_reducible assumption|rfl|exact cL.snd (by with_reducible assumption)|exact cL.eK (by with_reducible assumption)|exact cE.snd (by with_reducible assumption)|exact cE.eK (by with_reducible assumption)|exact cN.snd (by with_reducible assumption)|exact cN.eK (by with_reducible assumption))
  (cw:(!a7 (.ofNat N) (.ofNat M))=false)
  (dS:av Tryz.prog Tryz.f91 none call [1,1,1,1,0,1,0,1,1,1,0,1,1,0] (ag.mk [(4,.int .i64 (.ofNat 0)),(118,.bool !a7 (.ofNat N) (.ofNat M)),(106,.bool (a7 (.ofNat 7) (.ofNat 7))),(99,.bool (a7 (.ofNat 7) (.ofNat 6))),(0,.ptr r 0),(98,.int .i64 (.ofNat 7))] [] .none (J.room h 11)) (.ret) (ag.mk [(2,.bool false)] [] .none g)):
  av Tryz.prog Tryz.f91 none call [1,1,1,1,0,1] (ag.mk [(0,.ptr r 0),(98,.int .i64 (.ofNat 7))] [] .none h) (.ret)
   (ag.mk [(2,.bool false)] [] .none g):=
 a1 [2] (hs:=[Hint.b false,Hint.b true,Hint.v n,Hint.o (I.int IntKind.i64 (Int.ofNat N)),Hint.v a,Hint.o (I.int IntKind.i64 (Int.ofNat M)),Hint.b false,Hint.loop bF.ret (ag.mk [(2,I.bool false)] [] bJ.none g)]) (by kernel_rfl)<| .cons (by kernel_rfl:a7 (Int.ofNat 7) (Int.ofNat 6)=false)<| .cons (by kernel_rfl:a7 (Int.ofNat 7) (Int.ofNat 7)=true)<| .cons H1<| .cons az<| .cons a0<| .cons aS<| .cons (by kernel_rfl:I.sound (I.ptr r 0)=true)<| .cons (by kernel_rfl:I.ptr r 0=I.ptr r 0)<| .cons (by kernel_rfl:I.sound (I.ptr r 0)=true)<| .cons (by kernel_rfl:I.ptr r 0=I.ptr r 0)<| .cons (by kernel_rfl:I.sound (I.ptr r (0+2))=true)<| .cons (by kernel_rfl:I.ptr r (0+2)=I.ptr r (0+2))<| .cons bo<| .cons H1<| .cons (by kernel_rfl:I.sound (I.int IntKind.i64 (Int.ofNat N))=true)<| .cons az<| .cons (by kernel_rfl:I.sound (I.ptr r 0)=true)<| .cons (by kernel_rfl:I.ptr r 0=I.ptr r 0)<| .cons (by kernel_rfl:I.sound (I.ptr r 0)=true)<| .cons (by kernel_rfl:I.ptr r 0=I.ptr r 0)<| .cons (by kernel_rfl:I.sound (I.ptr r (0+3))=true)<| .cons (by kernel_rfl:I.ptr r (0+3)=I.ptr r (0+3))<| .cons bV<| .cons a0<| .cons (by kernel_rfl:I.sound (I.int IntKind.i64 (Int.ofNat M))=true)<| .cons aS<| .cons (by kernel_rfl:I.sound (I.bool !a7 (Int.ofNat N) (Int.ofNat M))=true)<| .cons (by kernel_rfl:(I.bool !a7 (Int.ofNat N) (Int.ofNat M))=I.bool !a7 (Int.ofNat N) (Int.ofNat M))<| .cons cw<| .cons dS<| .nil
theorem UE(call:ay->List I->J->an)(r:Nat)(v:I)(b:Bool)(h g:J)
  (H1:aq h r (0+4)=some v)
  (az:call (.fn 91) [v] h=an.ret (.bool b) g):
  av Tryz.prog Tryz.f91 none call [1,1,1,1,0,1] (ag.mk [(0,.ptr r 0),(98,.int .i64 (.ofNat 8))] [] .none h) (.ret)
   (ag.mk [(2,.bool b)] [] .none g):=
 a1 [2] (hs:=[.b false,.b false,.b true,.v v,.c (.bool b) g]) (by kernel_rfl)<| .cons (by kernel_rfl:a7 (Int.ofNat 8) (Int.ofNat 6)=false)<| .cons (by kernel_rfl:a7 (Int.ofNat 8) (Int.ofNat 7)=false)<| .cons (by kernel_rfl:a7 (Int.ofNat 8) (Int.ofNat 8)=true)<| .cons H1<| .cons az<| .nil
theorem UF(call:ay->List I->J->an)(r M:Nat)(a:I)(h g:J)
  (H1:av Tryz.prog Tryz.f91 none call [1,1,1,1,0,1,0,1,1,1,1,1,1,1,0,0,1,0] (ag.mk [(5,.int .i64 (.ofNat 0)),(167,.bool (a7 (.ofNat 9) (.ofNat 9))),(160,.bool (a7 (.ofNat 9) (.ofNat 8))),(106,.bool (a7 (.ofNat 9) (.ofNat 7))),(99,.bool (a7 (.ofNat 9) (.ofNat 6))),(0,.ptr r 0),(98,.int .i64 (.ofNat 9))] [] .none h) (.exit 5) (ag.mk [(0,.ptr r 0)] [] .none g))
  (az:aq g r (0+3)=some a)
  (a0:bU Tryz.prog g 49 a=some (.int .i64 (.ofNat M))):
  av Tryz.prog Tryz.f91 none call [1,1,1,1,0,1] (ag.mk [(0,.ptr r 0),(98,.int .i64 (.ofNat 9))] [] .none h) (.ret)
   (ag.mk [(2,.bool (dn (.ofNat 2) (.ofNat M)))] [] .none g):=
 a1 [2] (hs:=[Hint.b false,Hint.b false,Hint.b false,Hint.b true,Hint.loop (bF.exit 5) (ag.mk [(0,I.ptr r 0)] [] bJ.none g),Hint.v a,Hint.o (I.int IntKind.i64 (Int.ofNat M))]) (by kernel_rfl)<| .cons (by kernel_rfl:a7 (Int.ofNat 9) (Int.ofNat 6)=false)<| .cons (by kernel_rfl:a7 (Int.ofNat 9) (Int.ofNat 7)=false)<| .cons (by kernel_rfl:a7 (Int.ofNat 9) (Int.ofNat 8)=false)<| .cons (by kernel_rfl:a7 (Int.ofNat 9) (Int.ofNat 9)=true)<| .cons H1<| .cons az<| .cons a0<| .nil
theorem UG(call:ay->List I->J->an)(r:Nat)(h g:J)
  (H1:av Tryz.prog Tryz.f91 none call [1,1,1,1,0,1,0,1,1,1,1,1,1,1,0,0,1,0] (ag.mk [(5,.int .i64 (.ofNat 0)),(167,.bool (a7 (.ofNat 9) (.ofNat 9))),(160,.bool (a7 (.ofNat 9) (.ofNat 8))),(106,.bool (a7 (.ofNat 9) (.ofNat 7))),(99,.bool (a7 (.ofNat 9) (.ofNat 6))),(0,.ptr r 0),(98,.int .i64 (.ofNat 9))] [] .none h) (.ret) (ag.mk [(2,.bool false)] [] .none g)):
  av Tryz.prog Tryz.f91 none call [1,1,1,1,0,1] (ag.mk [(0,.ptr r 0),(98,.int .i64 (.ofNat 9))] [] .none h) (.ret)
   (ag.mk [(2,.bool false)] [] .none g):=
 a1 [2] (hs:=[Hint.b false,Hint.b false,Hint.b false,Hint.b true,Hint.loop bF.ret (ag.mk [(2,I.bool false)] [] bJ.none g)]) (by kernel_rfl)<| .cons (by kernel_rfl:a7 (Int.ofNat 9) (Int.ofNat 6)=false)<| .cons (by kernel_rfl:a7 (Int.ofNat 9) (Int.ofNat 7)=false)<| .cons (by kernel_rfl:a7 (Int.ofNat 9) (Int.ofNat 8)=false)<| .cons (by kernel_rfl:a7 (Int.ofNat 9) (Int.ofNat 9)=true)<| .cons H1<| .nil
theorem UH(call:ay->List I->J->an)(r k:Nat)(h:J)
  (H1:a7 (.ofNat k) (.ofNat 6)=false)
  (az:a7 (.ofNat k) (.ofNat 7)=false)
  (a0:a7 (.ofNat k) (.ofNat 8)=false)
  (aS:a7 (.ofNat k) (.ofNat 9)=false):
  av Tryz.prog Tryz.f91 none call [1,1,1,1,0,1] (ag.mk [(0,.ptr r 0),(98,.int .i64 (.ofNat k))] [] .none h) (.nrm)
   (ag.mk [(0,.ptr r 0)] [] .none h):=
 a1 [0] (hs:=[.b false,.b false,.b false,.b false]) (by kernel_rfl)<| .cons H1<| .cons az<| .cons a0<| .cons aS<| .nil
theorem UI(call:ay->List I->J->an)(h:J):
  av Tryz.prog Tryz.f91 none call [1,1,1,1,1] (ag.mk [] [] .none h) (.ret)
   (ag.mk [(2,.bool true)] [] .none h):=
 a1 [2] (hs:=[]) (by kernel_rfl)<| .nil
theorem UJ(call:ay->List I->J->an)(r i N:Nat)(v:I)(h:J)
  (H1:aq h r (0+2)=some v)
  (az:bU Tryz.prog h 48 v=some (.int .i64 (.ofNat N)))
  (a0:bC (.ofNat i) (.ofNat N)=false):
  av Tryz.prog Tryz.f91 none call [1,1,1,1,0,1,0,1,1,1,0,1,1,0,0] (ag.mk [(0,.ptr r 0),(4,.int .i64 (.ofNat i))] [] .none h) (.exit 3)
   (ag.mk [(0,.ptr r 0)] [] .none h):=
 a1 [0] (hs:=[.v v,.o (.int .i64 (.ofNat N)),.b false]) (by kernel_rfl)<| .cons H1<| .cons az<| .cons a0<| .nil
theorem UK(call:ay->List I->J->an)(r i N:Nat)(v:I)(h:J)
  (H1:aq h r (0+3)=some v)
  (az:bU Tryz.prog h 49 v=some (.int .i64 (.ofNat N)))
  (a0:bC (.ofNat i) (.ofNat N)=false):
  av Tryz.prog Tryz.f91 none call [1,1,1,1,0,1,0,1,1,1,1,1,1,1,0,0,1,0,0] (ag.mk [(0,.ptr r 0),(5,.int .i64 (.ofNat i))] [] .none h) (.exit 5)
   (ag.mk [(0,.ptr r 0)] [] .none h):=
 a1 [0] (hs:=[.v v,.o (.int .i64 (.ofNat N)),.b false]) (by kernel_rfl)<| .cons H1<| .cons az<| .cons a0<| .nil
theorem UL(call:ay->List I->J->an)(v:I)(h:J):
  av Tryz.prog Tryz.f78 none call [0] (ag.mk [(0,v)] [] .none h) (.nrm)
   (ag.mk [(0,v)] [] .none h):=
 a1 [0] (hs:=[]) (by kernel_rfl)<| .nil
theorem UM(call:ay->List I->J->an)(h:J):
  av Tryz.prog Tryz.f78 none call [1] (ag.mk [(0,.aR)] [] .none h) (.ret)
   (ag.mk [(2,.int .i64 (.ofNat 1))] [] .none h):=
 a1 [2] (hs:=[.v (.bool true),.b true]) (by kernel_rfl)<| .cons (by kernel_rfl:c7 Tryz.prog h BinOp.eql 47 (Operand.tmp 3) (Operand.const (Value.pointer none)) I.aR I.aR=some (I.bool true))<| .cons (by kernel_rfl:true=true)<| .nil
theorem UN(call:ay->List I->J->an)(r b off N i q aN j r3:Nat)(s t:List UInt8)(d:Bool)(aB:b5)(h g ar:J)
  (H1:aq h r (0+2)=some (.slice b off N aB))
  (az:bC (.ofNat i) (.ofNat N)=true)
  (a0:aq (J.room h 32) r (0+2)=some (.slice b off N aB))
  (aS:Nat.le (Nat.succ i) N/\I.ptr b q=I.ptr b (off+i*1))
  (bo:aq (J.room h 32) b q=some (.str s))
  (bV:call (.fn 95) [.str s] (J.room h 32)=an.ret (.bool false) g):
  av Tryz.prog Tryz.f91 none call [1,1,1,1,0,1,0,1,1,1,0,1,1,0,0] (ag.mk [(0,.ptr r 0),(4,.int .i64 (.ofNat i))] [] .none h) (.ret)
   (ag.mk [(2,.bool false)] [] .none g):=
 a1 [2] (hs:=[.v (.slice b off N aB),.b true,.v (.slice b off N aB),.v (.ptr b q),.v (.str s),.c (.bool false) g,.b true,.b true,.b true,.b true,.b true,.b true]) (by kernel_rfl)<| .cons H1<| .cons az<| .cons a0<| .cons aS<| .cons bo<| .cons bV<| .cons (by kernel_rfl:(!false)=true)<| .cons (by kernel_rfl:(!false)=true)<| .cons (by kernel_rfl:(!false)=true)<| .cons (by kernel_rfl:(!false)=true)<| .cons (by kernel_rfl:(!false)=true)<| .cons (by kernel_rfl:I.sound (I.ptr r 0)=true)<| .cons (by kernel_rfl:I.ptr r 0=I.ptr r 0)<| .cons (by kernel_rfl:I.sound (I.ptr r 0)=true)<| .cons (by kernel_rfl:I.ptr r 0=I.ptr r 0)<| .cons (by kernel_rfl:I.sound (I.ptr r (0+2))=true)<| .cons (by kernel_rfl:I.ptr r (0+2)=I.ptr r (0+2))<| .cons (by kernel_rfl:I.sound (I.slice b off N aB)=true)<| .cons a0<| .cons (by kernel_rfl:I.sound (I.int IntKind.i64 (Int.ofNat i))=true)<| .cons (by kernel_rfl:I.int IntKind.i64 (Int.ofNat i)=I.int IntKind.i64 (Int.ofNat i))<| .cons (by kernel_rfl:I.sound (I.ptr b q)=true)<| .cons aS<| .cons (by kernel_rfl:I.sound (I.str s)=true)<| .cons bo<| .cons (by kernel_rfl:I.sound (I.bool !false)=true)<| .cons (by kernel_rfl:(I.bool !false)=I.bool !false)<| .cons (by kernel_rfl:I.sound (I.bool !false)=true)<| .cons (by kernel_rfl:(I.bool !false)=I.bool !false)<| .cons (by kernel_rfl:false=false)<| .cons (by kernel_rfl:false=false)<| .cons (by kernel_rfl:false=false)<| .cons (by kernel_rfl:false=false)<| .cons (by kernel_rfl:I.sound (I.bool true)=true)<| .cons (by kernel_rfl:(bif !false then I.bool true else I.aW [])=I.bool true)<| .cons (by kernel_rfl:true=true)<| .nil
theorem UO(call:ay->List I->J->an)(r b off N i q aN j r3 m k:Nat)(x:I)(s t:List UInt8)(d:Bool)(aB:b5)(h g ar aZ:J)
  (H1:aq h r (0+3)=some (.slice b off N aB))
  (az:bC (.ofNat i) (.ofNat N)=true)
  (a0:Nat.le (Nat.succ i) N/\I.ptr b q=I.ptr b (off+i*1))
  (aS:aq h b q=some (.ptr m 0))
  (bo:aq h m (0+0)=some (.int .i64 (.ofNat k)))
  (bV:a7 (.ofNat k) (.ofNat 9)=true):
  av Tryz.prog Tryz.f91 none call [1,1,1,1,0,1,0,1,1,1,1,1,1,1,0,0,1,0,0] (ag.mk [(0,.ptr r 0),(5,.int .i64 (.ofNat i))] [] .none h) (.ret)
   (ag.mk [(2,.bool false)] [] .none (J.room h 31)):=
 a1 [2] (hs:=[.v (.slice b off N aB),.b true,.v (.slice b off N aB),.v (.ptr b q),.v (.ptr m 0),.v (.int .i64 (.ofNat k)),.b true,.b true,.b true,.b true,.b true,.b true,.b true,.b true,.b true]) (by kernel_rfl)<| .cons H1<| .cons az<| .cons H1<| .cons a0<| .cons aS<| .cons bo<| .cons bV<| .cons bV<| .cons bV<| .cons (by kernel_rfl:true=true)<| .cons (by kernel_rfl:true=true)<| .cons (by kernel_rfl:true=true)<| .cons (by kernel_rfl:true=true)<| .cons (by kernel_rfl:true=true)<| .cons (by kernel_rfl:I.sound (I.int IntKind.i64 (Int.ofNat k))=true)<| .cons (by kernel_rfl:I.int IntKind.i64 (Int.ofNat k)=I.int IntKind.i64 (Int.ofNat k))<| .cons (by kernel_rfl:I.sound (I.bool (a7 (Int.ofNat k) (Int.ofNat 9)))=true)<| .cons (by kernel_rfl:I.bool (a7 (Int.ofNat k) (Int.ofNat 9))=I.bool (a7 (Int.ofNat k) (Int.ofNat 9)))<| .cons (by kernel_rfl:I.sound (I.bool (a7 (Int.ofNat k) (Int.ofNat 9)))=true)<| .cons (by kernel_rfl:I.bool (a7 (Int.ofNat k) (Int.ofNat 9))=I.bool (a7 (Int.ofNat k) (Int.ofNat 9)))<| .cons (uy bV)<| .cons (uy bV)<| .cons (by kernel_rfl:I.sound (I.bool true)=true)<| .cons (by rw[bV];first|done|rfl:(bif a7 (Int.ofNat k) (Int.ofNat 9) then I.bool true else I.aW [])=I.bool true)<| .cons (by kernel_rfl:I.sound (I.bool true)=true)<| .cons (by kernel_rfl:I.bool true=I.bool true)<| .cons (by kernel_rfl:false=false)<| .cons (by kernel_rfl:false=false)<| .cons (by kernel_rfl:false=false)<| .cons (by kernel_rfl:false=false)<| .cons (by kernel_rfl:I.sound (I.bool true)=true)<| .cons (by kernel_rfl:(bif true then I.bool true else I.aW [])=I.bool true)<| .cons (by kernel_rfl:true=true)<| .nil
theorem UP(call:ay->List I->J->an)(r b off N i q aN j r3 m k:Nat)(x:I)(s t:List UInt8)(d:Bool)(aB:b5)(h g ar aZ:J)
  (H1:aq h r (0+3)=some (.slice b off N aB))
  (az:bC (.ofNat i) (.ofNat N)=true)
  (a0:Nat.le (Nat.succ i) N/\I.ptr b q=I.ptr b (off+i*1))
  (aS:aq h b q=some (.ptr m 0))
  (bo:aq h m (0+0)=some (.int .i64 (.ofNat k)))
  (bV:a7 (.ofNat k) (.ofNat 9)=false)
  (cw:a7 (.ofNat k) (.ofNat 1)=true):
  av Tryz.prog Tryz.f91 none call [1,1,1,1,0,1,0,1,1,1,1,1,1,1,0,0,1,0,0] (ag.mk [(0,.ptr r 0),(5,.int .i64 (.ofNat i))] [] .none h) (.ret)
   (ag.mk [(2,.bool false)] [] .none (J.room h 31)):=
 a1 [2] (hs:=[.v (.slice b off N aB),.b true,.v (.slice b off N aB),.v (.ptr b q),.v (.ptr m 0),.v (.int .i64 (.ofNat k)),.b false,.b false,.b false,.b true,.b true,.b true,.b true,.b true,.b true]) (by kernel_rfl)<| .cons H1<| .cons az<| .cons H1<| .cons a0<| .cons aS<| .cons bo<| .cons bV<| .cons bV<| .cons bV<| .cons cw<| .cons cw<| .cons cw<| .cons cw<| .cons cw<| .cons (by kernel_rfl:I.sound (I.int IntKind.i64 (Int.ofNat k))=true)<| .cons (by kernel_rfl:I.int IntKind.i64 (Int.ofNat k)=I.int IntKind.i64 (Int.ofNat k))<| .cons (by kernel_rfl:I.sound (I.bool (a7 (Int.ofNat k) (Int.ofNat 9)))=true)<| .cons (by kernel_rfl:I.bool (a7 (Int.ofNat k) (Int.ofNat 9))=I.bool (a7 (Int.ofNat k) (Int.ofNat 9)))<| .cons (by kernel_rfl:I.sound (I.bool (a7 (Int.ofNat k) (Int.ofNat 9)))=true)<| .cons (by kernel_rfl:I.bool (a7 (Int.ofNat k) (Int.ofNat 9))=I.bool (a7 (Int.ofNat k) (Int.ofNat 9)))<| .cons (er.cons (by kernel_rfl:I.sound (I.int IntKind.i64 (Int.ofNat k))=true)<|er.cons (by kernel_rfl:I.int IntKind.i64 (Int.ofNat k)=I.int IntKind.i64 (Int.ofNat k))<|er.nil)<| .cons (er.cons (by kernel_rfl:I.sound (I.bool (a7 (Int.ofNat k) (Int.ofNat 1)))=true)<|er.cons (by kernel_rfl:I.bool (a7 (Int.ofNat k) (Int.ofNat 1))=I.bool (a7 (Int.ofNat k) (Int.ofNat 1)))<|er.nil)<| .cons (by kernel_rfl:I.sound (I.bool (a7 (Int.ofNat k) (Int.ofNat 1)))=true)<| .cons (by rw[bV];first|done|rfl:(bif a7 (Int.ofNat k) (Int.ofNat 9) then I.bool true else I.bool (a7 (Int.ofNat k) (Int.ofNat 1)))=I.bool (a7 (Int.ofNat k) (Int.ofNat 1)))<| .cons (by kernel_rfl:I.sound (I.bool (a7 (Int.ofNat k) (Int.ofNat 1)))=true)<| .cons (by kernel_rfl:I.bool (a7 (Int.ofNat k) (Int.ofNat 1))=I.bool (a7 (Int.ofNat k) (Int.ofNat 1)))<| .cons (uy cw)<| .cons (uy cw)<| .cons (uy cw)<| .cons (uy cw)<| .cons (by kernel_rfl:I.sound (I.bool true)=true)<| .cons (by rw[cw];first|done|rfl:(bif a7 (Int.ofNat k) (Int.ofNat 1) then I.bool true else I.aW [])=I.bool true)<| .cons (by kernel_rfl:true=true)<| .nil
theorem UQ(call:ay->List I->J->an)(r k:Nat)(b:Bool)(h ao ar:J)
  (H1:call (.fn 79) [.ptr r 0] h=an.ret (.int .i64 (.ofNat k)) ao)
  (az:bC (.ofNat 60) (.ofNat k)=true):
  av Tryz.prog Tryz.f78 none call [1] (ag.mk [(0,.ptr r 0)] [] .none h) (.ret)
   (ag.mk [(2,.int .i64 (.ofNat 3))] [] .none ao):=
 a1 [2] (hs:=[.v (.bool false),.b false,.c (.int .i64 (.ofNat k)) ao,.b true]) (by kernel_rfl)<| .cons (by kernel_rfl:c7 Tryz.prog h BinOp.eql 47 (Operand.tmp 3) (Operand.const (Value.pointer none)) (I.ptr r 0) I.aR=some (I.bool false))<| .cons (by kernel_rfl:false=false)<| .cons H1<| .cons az<| .nil
theorem UR(call:ay->List I->J->an)(r k:Nat)(b:Bool)(h ao ar:J)
  (H1:call (.fn 79) [.ptr r 0] h=an.ret (.int .i64 (.ofNat k)) ao)
  (az:bC (.ofNat 60) (.ofNat k)=false)
  (a0:call (.fn 91) [.ptr r 0] ao=an.ret (.bool b) ar)
  (aS:(!b)=true):
  av Tryz.prog Tryz.f78 none call [1] (ag.mk [(0,.ptr r 0)] [] .none h) (.ret)
   (ag.mk [(2,.int .i64 (.ofNat 2))] [] .none ar):=
 a1 [2] (hs:=[.v (.bool false),.b false,.c (.int .i64 (.ofNat k)) ao,.b false,.c (.bool b) ar,.b true]) (by kernel_rfl)<| .cons (by kernel_rfl:c7 Tryz.prog h BinOp.eql 47 (Operand.tmp 3) (Operand.const (Value.pointer none)) (I.ptr r 0) I.aR=some (I.bool false))<| .cons (by kernel_rfl:false=false)<| .cons H1<| .cons az<| .cons a0<| .cons aS<| .nil
theorem US(call:ay->List I->J->an)(r k:Nat)(b:Bool)(h ao ar:J)
  (H1:call (.fn 79) [.ptr r 0] h=an.ret (.int .i64 (.ofNat k)) ao)
  (az:bC (.ofNat 60) (.ofNat k)=false)
  (a0:call (.fn 91) [.ptr r 0] ao=an.ret (.bool b) ar)
  (aS:(!b)=false):
  av Tryz.prog Tryz.f78 none call [1] (ag.mk [(0,.ptr r 0)] [] .none h) (.ret)
   (ag.mk [(2,.int .i64 (.ofNat 0))] [] .none ar):=
 a1 [2] (hs:=[.v (.bool false),.b false,.c (.int .i64 (.ofNat k)) ao,.b false,.c (.bool b) ar,.b false]) (by kernel_rfl)<| .cons (by kernel_rfl:c7 Tryz.prog h BinOp.eql 47 (Operand.tmp 3) (Operand.const (Value.pointer none)) (I.ptr r 0) I.aR=some (I.bool false))<| .cons (by kernel_rfl:false=false)<| .cons H1<| .cons az<| .cons a0<| .cons aS<| .nil
theorem EH(call:ay->List I->J->an)(r:Nat)(i:Nat)(h:J){Q:bF->ag->Prop}(H:∃aQ:Nat,∃bI:Nat,∃cr:Nat,∃c1:b5,aq h r (0+2)=some (.slice aQ bI cr c1)/\i<cr/\∃cF:Nat,∃dc:Nat,∃dk:Nat,∃c2:b5,aq (h.room 32) r (0+2)=some (.slice cF dc dk c2)/\i<dk/\∃s1:List UInt8,aq (h.room 32) cF (dc+i*1)=some (.str s1)/\∃ao:J,call (.fn 95) [.str s1] (h.room 32)=.ret (.bool true) ao/\(0<i->∃eM:Nat,∃g9:Nat,∃gW:Nat,∃c3:b5,aq ao r (0+2)=some (.slice eM g9 gW c3)/\(1<=i/\i<9223372036854775808)/\i-1<gW/\∃s2:List UInt8,aq ao eM (g9+(i-1)*1)=some (.str s2)/\∃gM:Nat,∃iu:Nat,∃km:Nat,∃c4:b5,aq ao r (0+2)=some (.slice gM iu km c4)/\i<km/\∃bE:List UInt8,aq ao gM (iu+i*1)=some (.str bE)/\∃a8:Bool,∃ar:J,call (.fn 96) [.str s2,.str bE] ao=.ret (.bool a8) ar/\(a8=true->i+1<9223372036854775808/\Q .nrm (ag.mk [(0,.ptr r 0),(4,.int .i64 (.ofNat (i+1)))] [] .none ar))/\(a8=false->Q .ret (ag.mk [(0,.ptr r 0),(2,.bool false),(4,.int .i64 (.ofNat i))] [] .none ar)))/\(¬0<i->i+1<9223372036854775808/\Q .nrm (ag.mk [(0,.ptr r 0),(4,.int .i64 (.ofNat (i+1)))] [] .none ao))):
  bw Tryz.prog Tryz.f91 call [1,1,1,1,0,1,0,1,1,1,0,1,1,0,0] ⟨[(0,.ptr r 0),(4,.int .i64 (.ofNat i))],[],.none,h⟩ Q:=
 e6 [(1125,.t),(123,.b2 .gh),(131,.b2 .gh),(135,.b2 (.is (.bool true))),(144,.b2 .gh),(152,.b2 .gh)] [0,2,4] [(0,.v (.ptr r 0)),(4,.v (.int .i64 (.ofNat i)))] rfl (Eq.mp (by kernel_rfl) H)
theorem EI(call:ay->List I->J->an)(r:Nat)(i:Nat)(h:J){Q:bF->ag->Prop}(H:∃aQ:Nat,∃bI:Nat,∃cr:Nat,∃c1:b5,aq h r (0+3)=some (.slice aQ bI cr c1)/\i<cr/\∃cF:Nat,∃dc:Nat,∃dk:Nat,∃c2:b5,aq h r (0+3)=some (.slice cF dc dk c2)/\i<dk/\∃eM:Nat,aq h cF (dc+i*1)=some (.ptr eM 0)/\∃g9:Nat,aq h eM (0+0)=some (.int .i64 (.ofNat g9))/\(g9=9->Q .ret (ag.mk [(0,.ptr r 0),(2,.bool false),(5,.int .i64 (.ofNat i))] [] .none (h.room 31)))/\(¬g9=9->(g9=1->Q .ret (ag.mk [(0,.ptr r 0),(2,.bool false),(5,.int .i64 (.ofNat i))] [] .none (h.room 31)))/\(¬g9=1->(0<i->∃gW:Nat,∃gM:Nat,∃iu:Nat,∃c3:b5,aq (h.room 31) r (0+3)=some (.slice gW gM iu c3)/\(1<=i/\i<9223372036854775808)/\i-1<iu/\∃v1:I,aq (h.room 31) gW (gM+(i-1)*1)=some v1/\∃s1:List UInt8,∃ao:J,call (.fn 98) [v1] (h.room 31)=.ret (.str s1) ao/\∃km:Nat,∃jZ:Nat,∃lW:Nat,∃c4:b5,aq ao r (0+3)=some (.slice km jZ lW c4)/\i<lW/\∃kJ:Nat,aq ao km (jZ+i*1)=some (.ptr kJ 0)/\∃s2:List UInt8,∃ar:J,call (.fn 98) [.ptr kJ 0] ao=.ret (.str s2) ar/\∃a8:Bool,∃aZ:J,call (.fn 96) [.str s1,.str s2] ar=.ret (.bool a8) aZ/\I.sound v1=true/\aq (h.room 31) r (0+3)=some (.slice km jZ lW c4)/\aq (h.room 31) km (jZ+i*1)=some (.ptr kJ 0)/\(a8=true->i+1<9223372036854775808/\Q .nrm (ag.mk [(0,.ptr r 0),(5,.int .i64 (.ofNat (i+1)))] [] .none aZ))/\(a8=false->Q .ret (ag.mk [(0,.ptr r 0),(2,.bool false),(5,.int .i64 (.ofNat i))] [] .none aZ)))/\(¬0<i->i+1<9223372036854775808/\Q .nrm (ag.mk [(0,.ptr r 0),(5,.int .i64 (.ofNat (i+1)))] [] .none (h.room 31)))))):
  bw Tryz.prog Tryz.f91 call [1,1,1,1,0,1,0,1,1,1,1,1,1,1,0,0,1,0,0] ⟨[(0,.ptr r 0),(5,.int .i64 (.ofNat i))],[],.none,h⟩ Q:=
 e6 [(1175,.t),(173,.b2 .gh),(181,.b2 .gh),(201,.b2 .gh),(205,.b2 .o),(210,.b2 .gh)] [0,2,5] [(0,.v (.ptr r 0)),(5,.v (.int .i64 (.ofNat i)))] rfl (Eq.mp (by kernel_rfl) H)
theorem u2{P:Program}{fn:Func}{call:ay->List I->J->an}{p:List Nat}{st gi:ag}{ep:bF}(h:bw P fn call p st (λe s=>e=ep/\s=gi)):av P fn none call p st ep gi:=by
 obtain⟨e,s,r,rfl,rfl⟩:=h
 exact r
theorem EJ{m B R:Nat}{h:J}{h3 gi cD bR cl:I}{bS:eC}{bf up:Nat}{aJ:List aU}(fG:R<B)(aj:h.get R=some (.cells [h3,gi,cD,bR,cl] 51 bS bf up))(aK:cL B h cD (aJ.map .str))(hlen:aJ.length<=90000):∀(k i:Nat) (x:J),aJ.length-i=k->i<=aJ.length->(∀q,lR aJ i=some q->hS q=true)->Ext B h x->
  ∃e Γ y,dH Tryz.prog Tryz.f91 none (Y (m+2)) [1,1,1,1,0,1,0,1,1,1,0,1,1,0] (k+1) ⟨[(0,.ptr R 0),(4,.int .i64 (Int.ofNat i))],[],.none,x⟩ e ⟨Γ,[],.none,y⟩/\
   ((e=.exit 3/\Γ=[(0,.ptr R 0)]/\lQ (lR aJ i) (aJ.drop i)=true)\/(e=.ret/\Γ=[(2,.bool false)]/\lQ (lR aJ i) (aJ.drop i)=false))/\Ext B h y
 |0,i,x,aw,ae,bl,ab=>by
  obtain rfl:i=aJ.length:=by omega
  rw[List.drop_of_length_le (Nat.le_refl _)]
  have ed:=(ab.get R fG).trans aj
  exact⟨_,_,_,.exit (UJ (Y (m+2)) R _ aJ.length cD x (aH ed rfl) aK.p7 (eh (by omega))) (by simp),.inl ⟨rfl,rfl,by rw[lQ]⟩,ab⟩
 |k+1,i,x,aw,ae,bl,ab=>by
  have aa:i<aJ.length:=by omega
  have ed:=(ab.get R fG).trans aj
  have ai:=ab.ht (k:=32)
  have gy:=(ai.get R fG).trans aj
  rcases aK.strs with⟨_,rfl⟩|⟨b,off,aB,rfl,eJ,fI⟩
  · simp at aa
  have aA:aq (x.room 32) b (off+i*1)=some (.str aJ[i]):=(i_ ai eJ).trans (fI i aa)
  rw[List.drop_eq_getElem_cons aa,lQ]
  have c1:=TV m aJ[i] (x.room 32)
  cases hf:hS aJ[i] with
  |false=>
   rw[hf] at c1
   exact⟨_,_,_,.exit (UN (Y (m+2)) R b off aJ.length i (off+i*1) 0 0 0 aJ[i] [] false aB x (x.room 32) x (aH ed rfl) (ds aa) (aH gy rfl) ⟨aa,rfl⟩ aA c1) (by simp),.inr ⟨rfl,rfl,by rw[Bool.false_and]⟩,ai⟩
  |true=>
   rw[hf] at c1
   have u3:lR aJ (i+1)=some aJ[i]:=by
    show aJ[i]? =_
    exact List.getElem?_eq_getElem aa
   have et:∀q,lR aJ (i+1)=some q->hS q=true:=λq bq=>by
    rw[u3] at bq
    obtain rfl:=Option.some.inj bq
    exact hf
   cases i with
   |zero=>
    obtain⟨e,Γ,y,bp,bB,cU⟩:=EJ (m:=m) fG aj aK hlen k 1 (x.room 32) (by omega) (by omega) et ai
    refine⟨e,Γ,y,.step (u2 (EH (Y (m+2)) R 0 x ⟨b,off,_,aB,aH ed rfl,aa,b,off,_,aB,aH gy rfl,aa,_,aA,_,c1,λak=>absurd ak (by omega),λ_=>⟨by omega,rfl,rfl⟩⟩)) bp,?_,cU⟩
    rw[u3] at bB
    rw[Bool.true_and,show lR aJ 0=none from rfl,mC,Bool.true_and]
    exact bB
   |succ i=>
    have ad:i<aJ.length:=by omega
    have AB:lR aJ (i+1)=some aJ[i]:=by
     show aJ[i]? =_
     exact List.getElem?_eq_getElem ad
    have jO:=JK (bl _ AB)
    have aC:aq (x.room 32) b (off+i*1)=some (.str aJ[i]):=(i_ ai eJ).trans (fI i ad)
    obtain⟨g,c2,c3⟩:=Kn (m+1) aJ[i] aJ[i+1] B (x.room 32) (by omega)
    have p8:=ai.trans (Nat.le_refl _) c3
    have B9:arith BinOp.sub IntKind.i64 (Int.ofNat (i+1)) (Int.ofNat 1)=some (.int .i64 (Int.ofNat i)):=pP (by omega) (by omega)
    rw[AB,mC,Bool.true_and]
    cases ah:dN aJ[i] aJ[i+1] with
    |true=>
     rw[ah] at c2
     obtain⟨e,Γ,y,bp,bB,cU⟩:=EJ (m:=m) fG aj aK hlen k (i+1+1) g (by omega) (by omega) et p8
     refine⟨e,Γ,y,.step (u2 (EH (Y (m+2)) R (i+1) x ⟨b,off,_,aB,aH ed rfl,aa,b,off,_,aB,aH gy rfl,aa,_,aA,_,c1,λ_=>⟨b,off,_,aB,aH gy rfl,⟨by omega,by omega⟩,ad,_,aC,b,off,_,aB,aH gy rfl,aa,_,aA,_,g,c2,λ_=>⟨by omega,rfl,rfl⟩,λak=>(by cases ak)⟩,λak=>absurd ak (by omega)⟩)) bp,?_,cU⟩
     rw[u3] at bB
     rw[Bool.true_and]
     exact bB
    |false=>
     rw[ah] at c2
     exact⟨_,[(2,.bool false)],_,.exit (ck.post (u2 (EH (Y (m+2)) R (i+1) x ⟨b,off,_,aB,aH ed rfl,aa,b,off,_,aB,aH gy rfl,aa,_,aA,_,c1,λ_=>⟨b,off,_,aB,aH gy rfl,⟨by omega,by omega⟩,ad,_,aC,b,off,_,aB,aH gy rfl,aa,_,aA,_,g,c2,λak=>(by cases ak),λ_=>⟨rfl,rfl⟩⟩,λak=>absurd ak (by omega)⟩)) ⟨rfl,trivial⟩) (by simp),.inr ⟨rfl,rfl,by rw[Bool.false_and]⟩,p8⟩
end Go.Proofs.cR
namespace Go.Proofs.cR
open Go aD Go.Proofs dE
set_option maxRecDepth 100000
set_option maxHeartbeats 1000000
theorem cN.kind{B:Nat}{h:J}:∀{t:a5} {v:I},cN B h t v->∃M,v=.ptr M 0/\∀x,Ext B h x->aq x M (0+0)=some (.int .i64 (Int.ofNat t.k))
 |.mk dD ef g2 kG my,v,a6=>by
  obtain⟨M,_,_,_,_,_,_,_,aA,aC,bN,_⟩:=a6
  exact⟨M,aA,λx hG=>aH ((hG.get M aC).trans bN) rfl⟩
theorem Ks(p:Option aU)(k:Nat)(e0:List Nat)(w:aU)(ws:List aU):nY p (k::e0) (w::ws)=((decide (k≠9)&&decide (k≠1))&&(mC p w&&nY (some w) e0 ws)):=by rw[nY]
theorem EK{m B R:Nat}{h:J}{h3 gi cD bR cl:I}{bS:eC}{bf up:Nat}{xs:List a5}{vs:List I}{ws:List aU}(fG:R<B)(aj:h.get R=some (.cells [h3,gi,cD,bR,cl] 51 bS bf up))(aE:cL B h bR vs)(xK:c6 B h xs vs)(ie:ws.length=vs.length)(hlen:vs.length<=90000)(EL:∀i (ae:i<ws.length),ws[i].length<=90000)(ba:xF (m+1) B h vs ws):∀(k i:Nat) (x:J),vs.length-i=k->i<=vs.length->Ext B h x->
  ∃e Γ y,dH Tryz.prog Tryz.f91 none (Y (m+1)) [1,1,1,1,0,1,0,1,1,1,1,1,1,1,0,0,1,0] (k+1) ⟨[(0,.ptr R 0),(5,.int .i64 (Int.ofNat i))],[],.none,x⟩ e ⟨Γ,[],.none,y⟩/\
   ((e=.exit 5/\Γ=[(0,.ptr R 0)]/\nY (lR ws i) ((xs.map a5.k).drop i) (ws.drop i)=true)\/(e=.ret/\Γ=[(2,.bool false)]/\nY (lR ws i) ((xs.map a5.k).drop i) (ws.drop i)=false))/\Ext B h y
 |0,i,x,aw,ae,ab=>by
  obtain rfl:i=vs.length:=by omega
  rw[List.drop_of_length_le (l:=ws) (by omega)]
  have ed:=(ab.get R fG).trans aj
  refine⟨_,_,_,.exit (UK (Y (m+1)) R _ vs.length bR x (aH ed rfl) aE.lU (eh (by omega))) (by simp),.inl ⟨rfl,rfl,?_⟩,ab⟩
  cases (xs.map a5.k).drop vs.length<;>(rw[nY];all_goals simp)
 |k+1,i,x,aw,ae,ab=>by
  have e3:=c6.len xK
  have aa:i<vs.length:=by omega
  have ax:i<ws.length:=by omega
  have aO:i<xs.length:=by omega
  have bZ:i<(xs.map a5.k).length:=by rw[List.length_map];exact aO
  have ed:=(ab.get R fG).trans aj
  have ai:=ab.ht (k:=31)
  have gy:=(ai.get R fG).trans aj
  obtain⟨M,h8,p_⟩:=(c6.get xK i aa aO).kind
  have o7:=p_ x ab
  have AD:=aE
  rcases aE with⟨_,rfl⟩|⟨b,off,aB,rfl,eJ,fI,eL⟩
  · simp at aa
  have aA:aq x b (off+i*1)=some (.ptr M 0):=by rw[<-h8];exact(i_ ab eJ).trans (fI i aa)
  have ec:aq (x.room 31) b (off+i*1)=some (.ptr M 0):=by rw[<-h8];exact(i_ ai eJ).trans (fI i aa)
  have xI:(xs.map a5.k)[i]=(xs[i]).k:=List.getElem_map a5.k
  rw[List.drop_eq_getElem_cons bZ,List.drop_eq_getElem_cons ax,Ks,xI]
  by_cases jz:(xs[i]).k=9
  · exact⟨_,_,_,.exit (UO (Y (m+1)) R b off vs.length i (off+i*1) 0 0 0 M _ .aR [] [] false aB x x x x (aH ed rfl) (ds aa) ⟨aa,rfl⟩ aA o7 (sM jz)) (by simp),.inr ⟨rfl,rfl,by simp[jz]⟩,ai⟩
  by_cases b4:(xs[i]).k=1
  · exact⟨_,_,_,.exit (UP (Y (m+1)) R b off vs.length i (off+i*1) 0 0 0 M _ .aR [] [] false aB x x x x (aH ed rfl) (ds aa) ⟨aa,rfl⟩ aA o7 (k3 jz) (sM b4)) (by simp),.inr ⟨rfl,rfl,by simp[b4]⟩,ai⟩
  have u3:lR ws (i+1)=some ws[i]:=by
   show ws[i]? =_
   exact List.getElem?_eq_getElem ax
  rw[show(decide ((xs[i]).k≠9)&&decide ((xs[i]).k≠1))=true by simp[jz,b4],Bool.true_and]
  cases i with
  |zero=>
   obtain⟨e,Γ,y,bp,bB,cU⟩:=EK (m:=m) fG aj AD xK ie hlen EL ba k 1 (x.room 31) (by omega) (by omega) ai
   refine⟨e,Γ,y,.step (u2 (EI (Y (m+1)) R 0 x ⟨b,off,_,aB,aH ed rfl,aa,b,off,_,aB,aH ed rfl,aa,_,aA,_,o7,λak=>absurd ak jz,λ_=>⟨λak=>absurd ak b4,λ_=>⟨λak=>absurd ak (by omega),λ_=>⟨by omega,rfl,rfl⟩⟩⟩⟩)) bp,?_,cU⟩
   rw[u3] at bB
   rw[show lR ws 0=none from rfl,mC,Bool.true_and]
   exact bB
  |succ i=>
   have fm:i<vs.length:=by omega
   have n2:i<ws.length:=by omega
   have qP:i<xs.length:=by omega
   have AB:lR ws (i+1)=some ws[i]:=by
    show ws[i]? =_
    exact List.getElem?_eq_getElem n2
   have jS:=c6.get xK i fm qP
   have aC:aq (x.room 31) b (off+i*1)=some vs[i]:=(i_ ai eJ).trans (fI i fm)
   obtain⟨g,c1,bh⟩:=ba i fm n2 (x.room 31) ai
   have e9:=ai.trans (Nat.le_refl _) bh
   have xG:=(e9.get R fG).trans aj
   have fx:aq g b (off+(i+1)*1)=some (.ptr M 0):=by rw[<-h8];exact(i_ e9 eJ).trans (fI (i+1) aa)
   obtain⟨ar,c2,bz⟩:=ba (i+1) aa ax g e9
   rw[h8] at c2
   have o8:=e9.trans (Nat.le_refl _) bz
   obtain⟨aZ,c3,db⟩:=Kn m ws[i] ws[i+1] B ar (EL i n2)
   have jo:=o8.trans (Nat.le_refl _) db
   have B9:arith BinOp.sub IntKind.i64 (Int.ofNat (i+1)) (Int.ofNat 1)=some (.int .i64 (Int.ofNat i)):=pP (by omega) (by omega)
   rw[AB,mC]
   cases ah:dN ws[i] ws[i+1] with
   |true=>
    rw[ah] at c3
    obtain⟨e,Γ,y,bp,bB,cU⟩:=EK (m:=m) fG aj AD xK ie hlen EL ba k (i+1+1) aZ (by omega) (by omega) jo
    refine⟨e,Γ,y,.step (u2 (EI (Y (m+1)) R (i+1) x ⟨b,off,_,aB,aH ed rfl,aa,b,off,_,aB,aH ed rfl,aa,_,aA,_,o7,λak=>absurd ak jz,λ_=>⟨λak=>absurd ak b4,λ_=>⟨λ_=>⟨b,off,_,aB,aH gy rfl,⟨by omega,by omega⟩,fm,_,aC,_,g,c1,b,off,_,aB,aH xG rfl,aa,_,fx,_,ar,c2,_,aZ,c3,jS.snd,aH gy rfl,ec,λ_=>⟨by omega,rfl,rfl⟩,λak=>(by cases ak)⟩,λak=>absurd ak (by omega)⟩⟩⟩)) bp,?_,cU⟩
    rw[u3] at bB
    rw[Bool.true_and]
    exact bB
   |false=>
    rw[ah] at c3
    exact⟨_,[(2,.bool false)],_,.exit (ck.post (u2 (EI (Y (m+1)) R (i+1) x ⟨b,off,_,aB,aH ed rfl,aa,b,off,_,aB,aH ed rfl,aa,_,aA,_,o7,λak=>absurd ak jz,λ_=>⟨λak=>absurd ak b4,λ_=>⟨λ_=>⟨b,off,_,aB,aH gy rfl,⟨by omega,by omega⟩,fm,_,aC,_,g,c1,b,off,_,aB,aH xG rfl,aa,_,fx,_,ar,c2,_,aZ,c3,jS.snd,aH gy rfl,ec,λak=>(by cases ak),λ_=>⟨rfl,rfl⟩⟩,λak=>absurd ak (by omega)⟩⟩⟩)) ⟨rfl,trivial⟩) (by simp),.inr ⟨rfl,rfl,by rw[Bool.false_and]⟩,jo⟩
end Go.Proofs.cR
namespace Go.Proofs.cR
open Go aD Go.Proofs dE
set_option maxRecDepth 100000
set_option maxHeartbeats 1000000
abbrev UT(m B:Nat)(h:J)(xs:List a5)(vs:List I):Prop:=∀i (aa:i<vs.length) (ad:i<xs.length) x,Ext B h x->∃al,Y m (.fn 91) [vs[i]] x=.ret (.bool (fe xs[i])) al/\Ext B x al
theorem Kt{m B R:Nat}{h:J}{h3 gi cD bR cl:I}{bS:eC}{bf up:Nat}{xs:List a5}{vs:List I}(fG:R<B)(aj:h.get R=some (.cells [h3,gi,cD,bR,cl] 51 bS bf up))(aE:cL B h bR vs)(e3:vs.length=xs.length)(hlen:vs.length<=90000)(ba:UT m B h xs vs):∀(k i:Nat) (x:J),vs.length-i=k->i<=vs.length->Ext B h x->
  ∃e Γ y,dH Tryz.prog Tryz.f91 none (Y m) [1,1,1,0,1,0] (k+1) ⟨[(0,.ptr R 0),(3,.int .i64 (Int.ofNat i))],[],.none,x⟩ e ⟨Γ,[],.none,y⟩/\
   ((e=.exit 0/\Γ=[(0,.ptr R 0)]/\iI (xs.drop i)=true)\/(e=.ret/\Γ=[(2,.bool false)]/\iI (xs.drop i)=false))/\Ext B h y
 |0,i,x,aw,ae,ab=>by
  obtain rfl:i=vs.length:=by omega
  rw[List.drop_of_length_le (by omega)]
  have ed:=(ab.get R fG).trans aj
  exact⟨_,_,_,.exit (Uw (Y m) R _ vs.length bR x (aH ed rfl) aE.lU (eh (by omega))) (by simp),.inl ⟨rfl,rfl,by rw[iI]⟩,ab⟩
 |k+1,i,x,aw,ae,ab=>by
  have aa:i<vs.length:=by omega
  have aO:i<xs.length:=by omega
  have ed:=(ab.get R fG).trans aj
  have AD:=aE
  rcases aE with⟨_,rfl⟩|⟨b,off,aB,rfl,eJ,fI,eL⟩
  · simp at aa
  have aA:aq x b (off+i*1)=some vs[i]:=(i_ ab eJ).trans (fI i aa)
  obtain⟨g,c1,bh⟩:=ba i aa aO x ab
  have e9:=ab.trans (Nat.le_refl _) bh
  rw[List.drop_eq_getElem_cons aO,iI]
  cases ah:fe xs[i] with
  |true=>
   rw[ah] at c1
   obtain⟨e,Γ,y,bp,bB,cU⟩:=Kt fG aj AD e3 hlen ba k (i+1) g (by omega) (by omega) e9
   refine⟨e,Γ,y,.step (Uy (Y m) R b off vs.length i (off+i*1) (i+1) true vs[i] aB x g (aH ed rfl) (ds aa) ⟨aa,rfl⟩ aA c1 rfl (ij aa (by omega))) bp,?_,cU⟩
   rw[Bool.true_and];exact bB
  |false=>
   rw[ah] at c1
   exact⟨_,[(2,.bool false)],_,.exit (ck.post (Ux (Y m) R b off vs.length i (off+i*1) 0 false vs[i] aB x g (aH ed rfl) (ds aa) ⟨aa,rfl⟩ aA c1 rfl) ⟨rfl,trivial⟩) (by simp),.inr ⟨rfl,rfl,by rw[Bool.false_and]⟩,e9⟩
end Go.Proofs.cR
namespace Go.Proofs.cR
open Go aD Go.Proofs dE
set_option maxRecDepth 100000
set_option maxHeartbeats 1000000
theorem Ku(EM:∀u,fe u=true->okW u=true/\(wr u).length<=300*sz u):∀(K:Nat) (t:a5),sz t<=K->sz t<=100->g6 t<=90000->∀(m B:Nat) (h:J) (v:I),sz t+4<=m->B<=h.n->cN B h t v->∃al,Y m (.fn 91) [v] h=.ret (.bool (fe t)) al/\Ext B h al
 |0,t,dq,_,_,_,_,_,_,_,_,_=>by
  have:=nV t
  omega
 |K+1,.mk k bD aJ xs rt,dq,fO,jQ,m,B,h,v,hm,bO,aE=>by
  obtain⟨R,cD,bR,cl,vs,bS,bf,up,rfl,ad,ax,aO,bZ,dj,ek⟩:=aE
  rw[o4] at dq fO hm
  rw[g6] at jQ
  obtain⟨m,rfl⟩:∃j,m=j+3:=⟨m-3,by omega⟩
  have e3:=c6.len dj
  have kT:=nW xs
  have ie:=uS xs
  have xL:fe (.mk k bD aJ xs rt)=((decide (1<=k)&&decide (k<=9))&&(jW k bD aJ.length xs.length rt.isSome&&(iI xs&&gm k bD aJ (xs.map a5.k) (cB xs) xs.length (iZ rt)))):=by rw[fe]
  have fin:∀b y,av Tryz.prog Tryz.f91 none (Y (m+2)) [1] ⟨[(0,.ptr R 0)],[],.none,h⟩ .ret ⟨[(2,.bool b)],[],.none,y⟩->b=fe (.mk k bD aJ xs rt)->Ext B h y->∃al,Y (m+3) (.fn 91) [.ptr R 0] h=.ret (.bool (fe (.mk k bD aJ xs rt))) al/\Ext B h al:=λb y ai af ab=>by
   rw[<-af]
   exact⟨y,dJ (intr:=bT) (n:=m+2) (args:=[.ptr R 0]) Tryz.func91 (by kernel_rfl) rfl (by kernel_rfl) (av.seq (p:=[]) (by kernel_rfl) (Uo (Y (m+2)) (.ptr R 0) h) ai) (.inl rfl) (by kernel_rfl),ab⟩
  rw[xL] at fin
  rw[xL]
  by_cases b4:k<1
  · exact fin false h (av.e_ (p:=[1]) (by kernel_rfl) (ck.post (Up (Y (m+2)) R 0 h k (aH ax rfl) (ds b4)) ⟨rfl,trivial⟩) (by simp)) (by simp;omega) (Ext.refl _ _)
  by_cases jz:9<k
  · exact fin false h (av.e_ (p:=[1]) (by kernel_rfl) (ck.post (Uq (Y (m+2)) R 0 h k (aH ax rfl) (eh b4) (ds jz)) ⟨rfl,trivial⟩) (by simp)) (by simp;omega) (Ext.refl _ _)
  have s1:=Ur (Y (m+2)) R 0 h k (aH ax rfl) (eh b4) (eh jz)
  have AE:(decide (1<=k)&&decide (k<=9))=true:=by simp;omega
  rw[AE] at fin⊢
  simp only[Bool.true_and] at fin⊢
  have hE:Ext B h (h.room 54):=Ext.room B h 54
  have Kv:B<=(h.room 54).n:=Nat.le_trans bO hE.n
  have aj:=(hE.get R ad).trans ax
  have nj:=dT.ext hE (Nat.le_refl _)
  have cF:=aO.bH nj
  have dc:=bZ.bH nj
  have dk:=c6.bH nj _ _ dj
  have eM:=cE.bH nj _ _ ek
  have j_:if jW k bD aJ.length vs.length rt.isSome=true then av Tryz.prog Tryz.f91 none (Y (m+2)) [1,1,0] ⟨[(0,.ptr R 0)],[],.none,h⟩ .nrm ⟨[(0,.ptr R 0)],[],.none,h.room 54⟩
    else av Tryz.prog Tryz.f91 none (Y (m+2)) [1,1,0] ⟨[(0,.ptr R 0)],[],.none,h⟩ .ret ⟨[(2,.bool false)],[],.none,h.room 54⟩:=by
   cases rt with
   |none=>
    obtain rfl:cl=.aR:=ek
    exact Uv ax aO.p7 bZ.lU aO.snd bZ.snd
   |some u=>
    cases u with
    |mk dD ef g2 kG my=>
     obtain⟨W,_,_,_,_,_,_,_,rfl,_⟩:=ek
     exact Uu ax aO.p7 bZ.lU aO.snd bZ.snd
  rw[e3] at j_
  cases jO:jW k bD aJ.length xs.length rt.isSome with
  |false=>
   rw[if_neg (by rw[jO];simp)] at j_
   rw[jO] at fin
   exact fin false _ (av.seq (p:=[1]) (by kernel_rfl) s1 (av.e_ (p:=[1,1]) (by kernel_rfl) j_ (by simp))) rfl hE
  |true=>
   rw[if_pos jO] at j_
   rw[jO] at fin
   simp only[Bool.true_and] at fin⊢
   have ba:∀(u:a5),sz u<=K->sz u<=100->g6 u<=90000->∀(m B:Nat) (h:J) (v:I),sz u+4<=m->B<=h.n->cN B h u v->∃al,Y m (.fn 91) [v] h=.ret (.bool (fe u)) al/\Ext B h al:=Ku EM K
   obtain⟨e,Γ,y,bp,bB,cU⟩:=Kt (m:=m+2) (xs:=xs) ad aj dc e3 (by omega) (λi i1 i2 x ab=>by
    have lD:=ki (List.getElem_mem i2)
    have oE:=rp (List.getElem_mem i2)
    exact ba xs[i] (by omega) (by omega) (by omega) (m+2) B x vs[i] (by omega) (Nat.le_trans Kv ab.n) (cN.bH (dT.ext ab (Nat.le_refl _)) _ _ (c6.get dk i i1 i2))) vs.length 0 (h.room 54) (by omega) (by omega) (Ext.refl _ _)
   have hD:=dH.run (p:=[1,1,1,0,1,0]) (by kernel_rfl) bp (by omega)
   rw[List.drop_zero] at bB
   rcases bB with⟨rfl,rfl,gw⟩|⟨rfl,rfl,gw⟩
   · rw[gw] at fin
     simp only[Bool.true_and] at fin⊢
     have du:=av.seq (p:=[1,1,1,0]) (by kernel_rfl) (Kr (Y (m+2)) R (h.room 54)) (av.block (p:=[1,1,1,0,1]) (id:=0) (by kernel_rfl) hD)
     have gy:=(cU.get R ad).trans aj
     have Kw:=hE.trans (Nat.le_refl _) cU
     have AF:=dT.ext cU (Nat.le_refl _)
     have Kx:=cF.bH AF
     have EN:=dc.bH AF
     have Ky:=c6.bH AF _ _ dk
     have UU:=cE.bH AF _ _ eM
     have mE:B<=y.n:=Nat.le_trans Kv cU.n
     have xH:=Uz (Y (m+2)) R k y (aH gy rfl)
     have u4:∀b z,av Tryz.prog Tryz.f91 none (Y (m+2)) [1,1,1,1,0,1] ⟨[(0,.ptr R 0),(98,.int .i64 (Int.ofNat k))],[],.none,y⟩ .ret ⟨[(2,.bool b)],[],.none,z⟩->b=gm k bD aJ (xs.map a5.k) (cB xs) xs.length (iZ rt)->Ext B y z->∃al,Y (m+3) (.fn 91) [.ptr R 0] h=.ret (.bool (iI xs&&gm k bD aJ (xs.map a5.k) (cB xs) xs.length (iZ rt))) al/\Ext B h al:=λb z ai af ab=>by
      rw[gw,Bool.true_and]
      exact fin b z (av.seq (p:=[1]) (by kernel_rfl) s1 (av.seq (p:=[1,1]) (by kernel_rfl) j_ (av.seq (p:=[1,1,1]) (by kernel_rfl) du (av.e_ (p:=[1,1,1,1]) (by kernel_rfl) (av.seq (p:=[1,1,1,1,0]) (by kernel_rfl) xH ai) (by simp))))) af (Kw.trans (Nat.le_refl _) ab)
     have Kz:∀z,av Tryz.prog Tryz.f91 none (Y (m+2)) [1,1,1,1,0,1] ⟨[(0,.ptr R 0),(98,.int .i64 (Int.ofNat k))],[],.none,y⟩ .nrm ⟨[(0,.ptr R 0)],[],.none,z⟩->gm k bD aJ (xs.map a5.k) (cB xs) xs.length (iZ rt)=true->Ext B y z->∃al,Y (m+3) (.fn 91) [.ptr R 0] h=.ret (.bool (iI xs&&gm k bD aJ (xs.map a5.k) (cB xs) xs.length (iZ rt))) al/\Ext B h al:=λz ai af ab=>by
      rw[gw,Bool.true_and]
      exact fin true z (av.seq (p:=[1]) (by kernel_rfl) s1 (av.seq (p:=[1,1]) (by kernel_rfl) j_ (av.seq (p:=[1,1,1]) (by kernel_rfl) du (av.seq (p:=[1,1,1,1]) (by kernel_rfl) (ck.post (Γ2:=[]) (av.seq (p:=[1,1,1,1,0]) (by kernel_rfl) xH ai) trivial) (UI (Y (m+2)) z))))) af.symm (Kw.trans (Nat.le_refl _) ab)
     have lD:∀i (i2:i<xs.length),fe xs[i]=true:=λi i2=>An gw (List.getElem_mem i2)
     by_cases fg:k=6
     · subst fg
       exact u4 (k9 bD) y (UA (Y (m+2)) R bD _ y y (aH gy rfl) (TX m bD y)) (by simp[gm]) (Ext.refl _ _)
     by_cases eI:k=7
     · subst eI
       have tl:gm 7 bD aJ (xs.map a5.k) (cB xs) xs.length (iZ rt)=(decide (aJ.length=xs.length)&&lQ none aJ):=by simp[gm]
       have AG:Ext B y (y.room 11):=Ext.room B y 11
       have h7:=(AG.get R ad).trans gy
       have KA:=dT.ext AG (Nat.le_refl _)
       have g4:=Kx.bH KA
       have lS:=EN.bH KA
       by_cases aK:aJ.length=vs.length
       · obtain⟨e,Γ,z,aV,aN,cz⟩:=EJ (m:=m) ad gy Kx (by omega) aJ.length 0 (y.room 11) (by omega) (by omega) (λq bq=>by cases bq) AG
         have jj:=dH.run (p:=[1,1,1,1,0,1,0,1,1,1,0,1,1,0]) (by kernel_rfl) aV (by omega)
         rw[List.drop_zero,show lR aJ 0=none from rfl] at aN
         rcases aN with⟨rfl,rfl,jk⟩|⟨rfl,rfl,jk⟩
         · exact Kz z (UC (Y (m+2)) R aJ.length vs.length cD bR y z (aH h7 rfl) g4.p7 (aH h7 rfl) lS.lU g4.snd lS.snd (uW aK) (ck.pre jj ⟨rfl,rfl,trivial⟩ rfl rfl rfl)) (by rw[tl,jk];simp;omega) cz
         · exact u4 false z (UD (Y (m+2)) R aJ.length vs.length cD bR y z (aH h7 rfl) g4.p7 (aH h7 rfl) lS.lU g4.snd lS.snd (uW aK) (ck.pre jj ⟨rfl,rfl,trivial⟩ rfl rfl rfl)) (by rw[tl,jk];simp) cz
       · exact u4 false _ (UB (Y (m+2)) R aJ.length vs.length cD bR y (aH h7 rfl) g4.p7 (aH h7 rfl) lS.lU g4.snd lS.snd (p4 aK)) (by rw[tl];simp;omega) AG
     by_cases fP:k=8
     · subst fP
       cases rt with
       |none=>simp[jW] at jO
       |some u=>
        rw[im] at dq fO hm
        rw[p0] at jQ
        obtain⟨z,c1,c2⟩:=ba u (by omega) (by omega) (by omega) (m+2) B y cl (by omega) mE UU
        exact u4 (fe u) z (UE (Y (m+2)) R cl _ y z (aH gy rfl) c1) (by simp[gm,iZ]) c2
     by_cases fE:k=9
     · subst fE
       have u5:gm 9 bD aJ (xs.map a5.k) (cB xs) xs.length (iZ rt)=(nY none (xs.map a5.k) (cB xs)&&decide (2<=xs.length)):=by simp[gm]
       have xM:∀i (ae:i<(cB xs).length),(cB xs)[i].length<=90000:=λi ae=>by
        have i2:i<xs.length:=by omega
        have a4:=ki (List.getElem_mem i2)
        have bl:=(EM xs[i] (lD i i2)).2
        rw[uT xs i i2 ae]
        omega
       obtain⟨e,Γ,z,aV,aN,cz⟩:=EK (m:=m+1) (ws:=cB xs) ad gy EN Ky (by omega) (by omega) xM (λi i1 i2 x ab=>by
        have i3:i<xs.length:=by omega
        have a4:=ki (List.getElem_mem i3)
        have af:=xM i i2
        rw[uT xs i i3 i2] at af⊢
        exact EE K xs[i] (by omega) (by omega) (EM xs[i] (lD i i3)).1 (by omega) (m+1+1) B x vs[i] (by omega) (Nat.le_trans mE ab.n) (cN.bH (dT.ext ab (Nat.le_refl _)) _ _ (c6.get Ky i i1 i3))) vs.length 0 y (by omega) (by omega) (Ext.refl _ _)
       have jj:=dH.run (p:=[1,1,1,1,0,1,0,1,1,1,1,1,1,1,0,0,1,0]) (by kernel_rfl) aV (by omega)
       rw[List.drop_zero,List.drop_zero,show lR (cB xs) 0=none from rfl] at aN
       rcases aN with⟨rfl,rfl,jk⟩|⟨rfl,rfl,jk⟩
       · exact u4 (dn (Int.ofNat 2) (Int.ofNat vs.length)) z (UF (Y (m+2)) R vs.length bR y z (ck.pre jj ⟨rfl,rfl,trivial⟩ rfl rfl rfl) (aH ((cz.get R ad).trans gy) rfl) EN.lU) (by rw[u5,jk,Kh,e3];rfl) cz
       · exact u4 false z (UG (Y (m+2)) R y z (ck.pre jj ⟨rfl,rfl,trivial⟩ rfl rfl rfl)) (by rw[u5,jk];rfl) cz
     · exact Kz y (UH (Y (m+2)) R k y (k3 fg) (k3 eI) (k3 fP) (k3 fE)) (by simp[gm,fg,eI,fP,fE]) (Ext.refl _ _)
   · have du:=av.seq (p:=[1,1,1,0]) (by kernel_rfl) (Kr (Y (m+2)) R (h.room 54)) (av.nb (p:=[1,1,1,0,1]) (id:=0) (by kernel_rfl) hD (by simp))
     exact fin false y (av.seq (p:=[1]) (by kernel_rfl) s1 (av.seq (p:=[1,1]) (by kernel_rfl) j_ (av.e_ (p:=[1,1,1]) (by kernel_rfl) du (by simp)))) (by rw[gw];rfl) (hE.trans (Nat.le_refl _) cU)
end Go.Proofs.cR
namespace Go.Proofs.cR
open Go aD Go.Proofs dE
set_option maxRecDepth 100000
set_option maxHeartbeats 1000000
def kK:Option a5->Nat
 |none=>1
 |some t=>if 60<sz t then 3 else if fe t=true then 0 else 2
theorem UW{ot:Option a5}{B:Nat}{h:J}{v:I}(m:Nat)(fO:c8 ot<=90000)(aK:∀t,ot=some t->g6 t<=90000)(hm:c8 ot+4<=m)(bO:B<=h.n)(aE:cE B h ot v):
  ∃al,Y (m+1) (.fn 78) [v] h=.ret (.int .i64 (Int.ofNat (kK ot))) al/\Ext B h al:=by
 have fin:∀c y,av Tryz.prog Tryz.f78 none (Y m) [1] ⟨[(0,v)],[],.none,h⟩ .ret ⟨[(2,.int .i64 (Int.ofNat c))],[],.none,y⟩->c=kK ot->Ext B h y->∃al,Y (m+1) (.fn 78) [v] h=.ret (.int .i64 (Int.ofNat (kK ot))) al/\Ext B h al:=λc y ai ah ab=>by
  rw[<-ah]
  exact⟨y,dJ (intr:=bT) (n:=m) (args:=[v]) Tryz.func78 (by kernel_rfl) rfl (by kernel_rfl) (av.seq (p:=[]) (by kernel_rfl) (UL (Y m) v h) ai) (.inl rfl) (by kernel_rfl),ab⟩
 cases ot with
 |none=>
  obtain rfl:v=.aR:=aE
  exact fin 1 h (UM (Y m) h) rfl (Ext.refl _ _)
 |some t=>
  have bL:c8 (some t)=sz t:=im t
  obtain⟨m,rfl⟩:∃j,m=j+1:=⟨m-1,by omega⟩
  have c1:=Ev (m:=m) fO (by omega) aE
  rw[bL] at c1 fO hm
  rcases aE.nZ with rfl|⟨R,rfl⟩
  · cases t with
    |mk b4 b0 e2 h6 nL=>obtain⟨R,cD,bR,cl,vs,bS,bf,up,ab,_⟩:=aE;cases ab
  by_cases n0:60<sz t
  · exact fin 3 h (UQ (Y (m+1)) R _ false h h h c1 (ds (by omega))) (by simp[kK,n0]) (Ext.refl _ _)
  · obtain⟨y,c2,bz⟩:=Ku RF (sz t) t (Nat.le_refl _) (by omega) (aK t rfl) (m+1) B h (.ptr R 0) (by omega) bO aE
    cases AH:fe t with
    |true=>
     rw[AH] at c2
     exact fin 0 y (US (Y (m+1)) R _ true h h y c1 (eh (by omega)) c2 rfl) (by simp[kK,n0,AH]) bz
    |false=>
     rw[AH] at c2
     exact fin 2 y (UR (Y (m+1)) R _ false h h y c1 (eh (by omega)) c2 rfl) (by simp[kK,n0,AH]) bz
end Go.Proofs.cR
