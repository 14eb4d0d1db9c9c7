/-
  PROVED HERE: contracts of functions (Dc). No condition beside each statement's own.
-/
import Derived.Test.YtfooahfebojldaaGreatDoorDb
import Derived.Test.YtfooahfebojldaaGreatDoorTx
set_option linter.unusedVariables false
set_option linter.unusedSimpArgs false
namespace Go.Proofs.cD
open Go aB Go.Proofs df
set_option maxRecDepth 100000
set_option maxHeartbeats 1000000
theorem Sm(call:aF->List I->J->ao)(v:I)(h:J):
  az Tryz.prog Tryz.f91 none call [0] (ah.mk [(0,v)] [] .none h) (.nrm)
   (ah.mk [(0,v)] [] .none h):=
 bh [0] (hs:=[]) (by kernel_rfl)<| .nil
theorem Sn(call:aF->List I->J->ao)(r k:Nat)(h:J)(b3:Nat)
  (H1:au h r (0+0)=some (.int .i64 (.ofNat b3)))
  (aE:bD (.ofNat b3) (.ofNat 1)=true):
  az Tryz.prog Tryz.f91 none call [1,0] (ah.mk [(0,.ptr r 0)] [] .none h) (.ret)
   (ah.mk [(0,.ptr r 0),(2,.bool false)] [] .none h):=
 bh [0,2] (hs:=[.v (.bool false),.b false,.b false,.b false,.b false,.v (.int .i64 (.ofNat b3)),.b false,.b false,.b true,.b true,.b true,.b true,.b true,.b true,.b true]) (by kernel_rfl)<| .cons (by kernel_rfl:ej Tryz.prog h BinOp.eql 47 (Operand.tmp 7) (Operand.const (Value.pointer none)) (I.ptr r 0) I.bm=some (I.bool false))<| .cons (by kernel_rfl:false=false)<| .cons (by kernel_rfl:false=false)<| .cons (by kernel_rfl:false=false)<| .cons (by kernel_rfl:false=false)<| .cons H1<| .cons (by kernel_rfl:false=false)<| .cons (by kernel_rfl:false=false)<| .cons aE<| .cons aE<| .cons aE<| .cons aE<| .cons aE<| .cons aE<| .cons (by kernel_rfl:true=true)<| .nil
theorem So(call:aF->List I->J->ao)(r k:Nat)(h:J)(b3:Nat)
  (H1:au h r (0+0)=some (.int .i64 (.ofNat b3)))
  (aE:bD (.ofNat b3) (.ofNat 1)=false)
  (a3:bD (.ofNat 9) (.ofNat b3)=true):
  az Tryz.prog Tryz.f91 none call [1,0] (ah.mk [(0,.ptr r 0)] [] .none h) (.ret)
   (ah.mk [(0,.ptr r 0),(2,.bool false)] [] .none h):=
 bh [0,2] (hs:=[.v (.bool false),.b false,.b false,.b false,.b false,.v (.int .i64 (.ofNat b3)),.b false,.b false,.b false,.b false,.b false,.b false,.v (.int .i64 (.ofNat b3)),.b false,.b false,.b true]) (by kernel_rfl)<| .cons (by kernel_rfl:ej Tryz.prog h BinOp.eql 47 (Operand.tmp 7) (Operand.const (Value.pointer none)) (I.ptr r 0) I.bm=some (I.bool false))<| .cons (by kernel_rfl:false=false)<| .cons (by kernel_rfl:false=false)<| .cons (by kernel_rfl:false=false)<| .cons (by kernel_rfl:false=false)<| .cons H1<| .cons (by kernel_rfl:false=false)<| .cons (by kernel_rfl:false=false)<| .cons aE<| .cons aE<| .cons aE<| .cons aE<| .cons H1<| .cons aE<| .cons aE<| .cons a3<| .nil
theorem Sp(call:aF->List I->J->ao)(r k:Nat)(h:J)(b3:Nat)
  (H1:au h r (0+0)=some (.int .i64 (.ofNat b3)))
  (aE:bD (.ofNat b3) (.ofNat 1)=false)
  (a3:bD (.ofNat 9) (.ofNat b3)=false):
  az Tryz.prog Tryz.f91 none call [1,0] (ah.mk [(0,.ptr r 0)] [] .none h) (.nrm)
   (ah.mk [(0,.ptr r 0)] [] .none h):=
 bh [0,2] (hs:=[.v (.bool false),.b false,.b false,.b false,.b false,.v (.int .i64 (.ofNat b3)),.b false,.b false,.b false,.b false,.b false,.b false,.v (.int .i64 (.ofNat b3)),.b false,.b false,.b false]) (by kernel_rfl)<| .cons (by kernel_rfl:ej Tryz.prog h BinOp.eql 47 (Operand.tmp 7) (Operand.const (Value.pointer none)) (I.ptr r 0) I.bm=some (I.bool false))<| .cons (by kernel_rfl:false=false)<| .cons (by kernel_rfl:false=false)<| .cons (by kernel_rfl:false=false)<| .cons (by kernel_rfl:false=false)<| .cons H1<| .cons (by kernel_rfl:false=false)<| .cons (by kernel_rfl:false=false)<| .cons aE<| .cons aE<| .cons aE<| .cons aE<| .cons H1<| .cons aE<| .cons aE<| .cons a3<| .nil
theorem Sq(call:aF->List I->J->ao)(r:Nat)(h:J){Q:bw->ah->Prop}(H:∃s1:List UInt8,au (h.room 54) r (0+1)=some (.str s1)/\∃aN:Nat,au (h.room 54) r (0+0)=some (.int .i64 (.ofNat aN))/\(eC (!dU s1 []) (a0 (.ofNat aN) (.ofNat 6))=true->∃v1:I,au (h.room 54) r (0+2)=some v1/\∃bz:Nat,bO Tryz.prog (h.room 54) 48 v1=some (.int .i64 (.ofNat bz))/\(0<bz->∃cm:Nat,au (h.room 54) r (0+0)=some (.int .i64 (.ofNat cm))/\(cm=7->∃v2:I,au (h.room 54) r (0+3)=some v2/\∃cy:Nat,bO Tryz.prog (h.room 54) 49 v2=some (.int .i64 (.ofNat cy))/\(0<cy->∃c6:Nat,au (h.room 54) r (0+0)=some (.int .i64 (.ofNat c6))/\(c6<7->I.sound v1=true/\I.sound v2=true/\Q .ret (ah.mk [(0,.ptr r 0),(2,.bool false)] [] .none (h.room 54)))/\(¬c6<7->∃dr:Nat,au (h.room 54) r (0+4)=some (.ptr dr 0)/\∃ev:Nat,au (h.room 54) r (0+0)=some (.int .i64 (.ofNat ev))/\I.sound v1=true/\I.sound v2=true/\(eC true (a0 (.ofNat ev) (.ofNat 8))=true->Q .nrm (ah.mk [(0,.ptr r 0)] [] .none (h.room 54)))/\(eC true (a0 (.ofNat ev) (.ofNat 8))=false->Q .ret (ah.mk [(0,.ptr r 0),(2,.bool false)] [] .none (h.room 54)))))/\(¬0<cy->∃gS:Nat,au (h.room 54) r (0+4)=some (.ptr gS 0)/\∃gH:Nat,au (h.room 54) r (0+0)=some (.int .i64 (.ofNat gH))/\I.sound v1=true/\I.sound v2=true/\(eC true (a0 (.ofNat gH) (.ofNat 8))=true->Q .nrm (ah.mk [(0,.ptr r 0)] [] .none (h.room 54)))/\(eC true (a0 (.ofNat gH) (.ofNat 8))=false->Q .ret (ah.mk [(0,.ptr r 0),(2,.bool false)] [] .none (h.room 54)))))/\(¬cm=7->I.sound v1=true/\Q .ret (ah.mk [(0,.ptr r 0),(2,.bool false)] [] .none (h.room 54))))/\(¬0<bz->∃dc:I,au (h.room 54) r (0+3)=some dc/\∃gr:Nat,bO Tryz.prog (h.room 54) 49 dc=some (.int .i64 (.ofNat gr))/\(0<gr->∃h8:Nat,au (h.room 54) r (0+0)=some (.int .i64 (.ofNat h8))/\(h8<7->I.sound v1=true/\I.sound dc=true/\Q .ret (ah.mk [(0,.ptr r 0),(2,.bool false)] [] .none (h.room 54)))/\(¬h8<7->∃j4:Nat,au (h.room 54) r (0+4)=some (.ptr j4 0)/\∃jI:Nat,au (h.room 54) r (0+0)=some (.int .i64 (.ofNat jI))/\I.sound v1=true/\I.sound dc=true/\(eC true (a0 (.ofNat jI) (.ofNat 8))=true->Q .nrm (ah.mk [(0,.ptr r 0)] [] .none (h.room 54)))/\(eC true (a0 (.ofNat jI) (.ofNat 8))=false->Q .ret (ah.mk [(0,.ptr r 0),(2,.bool false)] [] .none (h.room 54)))))/\(¬0<gr->∃lB:Nat,au (h.room 54) r (0+4)=some (.ptr lB 0)/\∃kq:Nat,au (h.room 54) r (0+0)=some (.int .i64 (.ofNat kq))/\I.sound v1=true/\I.sound dc=true/\(eC true (a0 (.ofNat kq) (.ofNat 8))=true->Q .nrm (ah.mk [(0,.ptr r 0)] [] .none (h.room 54)))/\(eC true (a0 (.ofNat kq) (.ofNat 8))=false->Q .ret (ah.mk [(0,.ptr r 0),(2,.bool false)] [] .none (h.room 54))))))/\(eC (!dU s1 []) (a0 (.ofNat aN) (.ofNat 6))=false->Q .ret (ah.mk [(0,.ptr r 0),(2,.bool false)] [] .none (h.room 54)))):
  bj Tryz.prog Tryz.f91 call [1,1,0] ⟨[(0,.ptr r 0)],[],.none,h⟩ Q:=
 eu [] [0,2] [(0,.v (.ptr r 0))] rfl (Eq.mp (by kernel_rfl) H)
theorem Sr(call:aF->List I->J->ao)(r:Nat)(h:J){Q:bw->ah->Prop}(H:∃s1:List UInt8,au (h.room 54) r (0+1)=some (.str s1)/\∃aN:Nat,au (h.room 54) r (0+0)=some (.int .i64 (.ofNat aN))/\(eC (!dU s1 []) (a0 (.ofNat aN) (.ofNat 6))=true->∃v1:I,au (h.room 54) r (0+2)=some v1/\∃bz:Nat,bO Tryz.prog (h.room 54) 48 v1=some (.int .i64 (.ofNat bz))/\(0<bz->∃cm:Nat,au (h.room 54) r (0+0)=some (.int .i64 (.ofNat cm))/\(cm=7->∃v2:I,au (h.room 54) r (0+3)=some v2/\∃cy:Nat,bO Tryz.prog (h.room 54) 49 v2=some (.int .i64 (.ofNat cy))/\(0<cy->∃c6:Nat,au (h.room 54) r (0+0)=some (.int .i64 (.ofNat c6))/\(c6<7->I.sound v1=true/\I.sound v2=true/\Q .ret (ah.mk [(0,.ptr r 0),(2,.bool false)] [] .none (h.room 54)))/\(¬c6<7->au (h.room 54) r (0+4)=some .bm/\∃dr:Nat,au (h.room 54) r (0+0)=some (.int .i64 (.ofNat dr))/\I.sound v1=true/\I.sound v2=true/\(eC false (a0 (.ofNat dr) (.ofNat 8))=true->Q .nrm (ah.mk [(0,.ptr r 0)] [] .none (h.room 54)))/\(eC false (a0 (.ofNat dr) (.ofNat 8))=false->Q .ret (ah.mk [(0,.ptr r 0),(2,.bool false)] [] .none (h.room 54)))))/\(¬0<cy->au (h.room 54) r (0+4)=some .bm/\∃ev:Nat,au (h.room 54) r (0+0)=some (.int .i64 (.ofNat ev))/\I.sound v1=true/\I.sound v2=true/\(eC false (a0 (.ofNat ev) (.ofNat 8))=true->Q .nrm (ah.mk [(0,.ptr r 0)] [] .none (h.room 54)))/\(eC false (a0 (.ofNat ev) (.ofNat 8))=false->Q .ret (ah.mk [(0,.ptr r 0),(2,.bool false)] [] .none (h.room 54)))))/\(¬cm=7->I.sound v1=true/\Q .ret (ah.mk [(0,.ptr r 0),(2,.bool false)] [] .none (h.room 54))))/\(¬0<bz->∃dc:I,au (h.room 54) r (0+3)=some dc/\∃gS:Nat,bO Tryz.prog (h.room 54) 49 dc=some (.int .i64 (.ofNat gS))/\(0<gS->∃gH:Nat,au (h.room 54) r (0+0)=some (.int .i64 (.ofNat gH))/\(gH<7->I.sound v1=true/\I.sound dc=true/\Q .ret (ah.mk [(0,.ptr r 0),(2,.bool false)] [] .none (h.room 54)))/\(¬gH<7->au (h.room 54) r (0+4)=some .bm/\∃gr:Nat,au (h.room 54) r (0+0)=some (.int .i64 (.ofNat gr))/\I.sound v1=true/\I.sound dc=true/\(eC false (a0 (.ofNat gr) (.ofNat 8))=true->Q .nrm (ah.mk [(0,.ptr r 0)] [] .none (h.room 54)))/\(eC false (a0 (.ofNat gr) (.ofNat 8))=false->Q .ret (ah.mk [(0,.ptr r 0),(2,.bool false)] [] .none (h.room 54)))))/\(¬0<gS->au (h.room 54) r (0+4)=some .bm/\∃h8:Nat,au (h.room 54) r (0+0)=some (.int .i64 (.ofNat h8))/\I.sound v1=true/\I.sound dc=true/\(eC false (a0 (.ofNat h8) (.ofNat 8))=true->Q .nrm (ah.mk [(0,.ptr r 0)] [] .none (h.room 54)))/\(eC false (a0 (.ofNat h8) (.ofNat 8))=false->Q .ret (ah.mk [(0,.ptr r 0),(2,.bool false)] [] .none (h.room 54))))))/\(eC (!dU s1 []) (a0 (.ofNat aN) (.ofNat 6))=false->Q .ret (ah.mk [(0,.ptr r 0),(2,.bool false)] [] .none (h.room 54)))):
  bj Tryz.prog Tryz.f91 call [1,1,0] ⟨[(0,.ptr r 0)],[],.none,h⟩ Q:=
 eu [(68,.b7 (.is .bm))] [0,2] [(0,.v (.ptr r 0))] rfl (Eq.mp (by kernel_rfl) H)
theorem uL(x:Bool)(k c:Nat):eC x (a0 (Int.ofNat k) (Int.ofNat c))=!(x !=decide (k=c)):=by
 rw[pD];cases x<;>cases decide (k=c)<;>rfl
def xb(b:Bool)(s1 s2:ah)(e:bw)(s:ah):Prop:=if b=true then e=.nrm/\s=s1 else e=.ret/\s=s2
theorem Jd{b:Bool}{s1 s2:ah}(h:b=true):xb b s1 s2 .nrm s1:=by unfold xb;rw[if_pos h];exact⟨rfl,rfl⟩
theorem uM{b:Bool}{s1 s2:ah}(h:b=false):xb b s1 s2 .ret s2:=by unfold xb;rw[if_neg (by rw[h];simp)];exact⟨rfl,rfl⟩
theorem Je{fn:Func}{call:aF->List I->J->ao}{p:List Nat}{st s1:ah}{b:Bool}{Γ Γ2:Env}{ad:J}(h:bj Tryz.prog fn call p st (xb b s1 ⟨Γ,[],.none,ad⟩))(hs:cg Γ2 Γ):if b=true then az Tryz.prog fn none call p st .nrm s1 else az Tryz.prog fn none call p st .ret ⟨Γ2,[],.none,ad⟩:=by
 obtain⟨e,s,r,q⟩:=h
 cases b with
 |true=>obtain⟨rfl,rfl⟩:=q;exact r
 |false=>obtain⟨rfl,rfl⟩:=q;exact cC.post r hs
theorem Ss{m R k N M w:Nat}{s:aO}{n a:I}{h:J}{bV:ey}{bk up:Nat}(DE:h.get R=some (.cells [.int .i64 (Int.ofNat k),.str s,n,a,.ptr w 0] 51 bV bk up))(aI:bO Tryz.prog (h.room 54) 48 n=some (.int .i64 (Int.ofNat N)))(ba:bO Tryz.prog (h.room 54) 49 a=some (.int .i64 (Int.ofNat M)))(ig:I.sound n=true)(nM:I.sound a=true):
  if jF k s N M true=true then az Tryz.prog Tryz.f91 none (Y m) [1,1,0] ⟨[(0,.ptr R 0)],[],.none,h⟩ .nrm ⟨[(0,.ptr R 0)],[],.none,h.room 54⟩
  else az Tryz.prog Tryz.f91 none (Y m) [1,1,0] ⟨[(0,.ptr R 0)],[],.none,h⟩ .ret ⟨[(2,.bool false)],[],.none,h.room 54⟩:=by
 have ak:(h.room 54).get R=some (.cells [.int .i64 (Int.ofNat k),.str s,n,a,.ptr w 0] 51 bV bk up):=DE
 refine Je (Γ:=[(0,.ptr R 0),(2,.bool false)]) (Sq (Y m) R h ⟨s,aL ak rfl,k,aL ak rfl,λc1=>?_,λc1=>?_⟩) ⟨rfl,trivial⟩
 · rw[uL] at c1
   refine⟨n,aL ak rfl,N,aI,λgn=>⟨k,aL ak rfl,λeG=>⟨a,aL ak rfl,M,ba,λhU=>⟨k,aL ak rfl,λgL=>absurd gL (by omega),λgL=>⟨w,aL ak rfl,k,aL ak rfl,ig,nM,λc2=>?_,λc2=>?_⟩⟩,λhU=>⟨w,aL ak rfl,k,aL ak rfl,ig,nM,λc2=>?_,λc2=>?_⟩⟩,λeG=>⟨ig,?_⟩⟩,λgn=>⟨a,aL ak rfl,M,ba,λhU=>⟨k,aL ak rfl,λgL=>⟨ig,nM,?_⟩,λgL=>⟨w,aL ak rfl,k,aL ak rfl,ig,nM,λc2=>?_,λc2=>?_⟩⟩,λhU=>⟨w,aL ak rfl,k,aL ak rfl,ig,nM,λc2=>?_,λc2=>?_⟩⟩⟩
   all_goals (try rw[uL] at c2)
   all_goals first
    |(refine Jd ?_;simp only[jF,c1,c2];simp;omega)
    |(refine uM ?_;simp only[jF,c1,c2];simp;done)
    |(refine uM ?_;simp[jF];omega)
 · rw[uL] at c1
   exact uM (by simp only[jF,c1];simp)
theorem St{m R k N M:Nat}{s:aO}{n a:I}{h:J}{bV:ey}{bk up:Nat}(DE:h.get R=some (.cells [.int .i64 (Int.ofNat k),.str s,n,a,.bm] 51 bV bk up))(aI:bO Tryz.prog (h.room 54) 48 n=some (.int .i64 (Int.ofNat N)))(ba:bO Tryz.prog (h.room 54) 49 a=some (.int .i64 (Int.ofNat M)))(ig:I.sound n=true)(nM:I.sound a=true):
  if jF k s N M false=true then az Tryz.prog Tryz.f91 none (Y m) [1,1,0] ⟨[(0,.ptr R 0)],[],.none,h⟩ .nrm ⟨[(0,.ptr R 0)],[],.none,h.room 54⟩
  else az Tryz.prog Tryz.f91 none (Y m) [1,1,0] ⟨[(0,.ptr R 0)],[],.none,h⟩ .ret ⟨[(2,.bool false)],[],.none,h.room 54⟩:=by
 have ak:(h.room 54).get R=some (.cells [.int .i64 (Int.ofNat k),.str s,n,a,.bm] 51 bV bk up):=DE
 refine Je (Γ:=[(0,.ptr R 0),(2,.bool false)]) (Sr (Y m) R h ⟨s,aL ak rfl,k,aL ak rfl,λc1=>?_,λc1=>?_⟩) ⟨rfl,trivial⟩
 · rw[uL] at c1
   refine⟨n,aL ak rfl,N,aI,λgn=>⟨k,aL ak rfl,λeG=>⟨a,aL ak rfl,M,ba,λhU=>⟨k,aL ak rfl,λgL=>absurd gL (by omega),λgL=>⟨aL ak rfl,k,aL ak rfl,ig,nM,λc2=>?_,λc2=>?_⟩⟩,λhU=>⟨aL ak rfl,k,aL ak rfl,ig,nM,λc2=>?_,λc2=>?_⟩⟩,λeG=>⟨ig,?_⟩⟩,λgn=>⟨a,aL ak rfl,M,ba,λhU=>⟨k,aL ak rfl,λgL=>⟨ig,nM,?_⟩,λgL=>⟨aL ak rfl,k,aL ak rfl,ig,nM,λc2=>?_,λc2=>?_⟩⟩,λhU=>⟨aL ak rfl,k,aL ak rfl,ig,nM,λc2=>?_,λc2=>?_⟩⟩⟩
   all_goals (try rw[uL] at c2)
   all_goals first
    |(refine Jd ?_;simp only[jF,c1,c2];simp;omega)
    |(refine uM ?_;simp only[jF,c1,c2];simp;done)
    |(refine uM ?_;simp[jF];omega)
 · rw[uL] at c1
   exact uM (by simp only[jF,c1];simp)
end Go.Proofs.cD
namespace Go.Proofs.cD
open Go aB Go.Proofs df
set_option maxRecDepth 100000
set_option maxHeartbeats 1000000
theorem Jf(call:aF->List I->J->ao)(r:Nat)(h:J):
  az Tryz.prog Tryz.f91 none call [1,1,1,0,0] (ah.mk [(0,.ptr r 0)] [] .none h) (.nrm)
   (ah.mk [(0,.ptr r 0),(3,.int .i64 (.ofNat 0))] [] .none h):=
 bh [0,3] (hs:=[]) (by kernel_rfl)<| .nil
theorem Su(call:aF->List I->J->ao)(r i N:Nat)(v:I)(h:J)
  (H1:au h r (0+3)=some v)
  (aE:bO Tryz.prog h 49 v=some (.int .i64 (.ofNat N)))
  (a3:bD (.ofNat i) (.ofNat N)=false):
  az Tryz.prog Tryz.f91 none call [1,1,1,0,1,0,0] (ah.mk [(0,.ptr r 0),(3,.int .i64 (.ofNat i))] [] .none h) (.exit 0)
   (ah.mk [(0,.ptr r 0)] [] .none h):=
 bh [0] (hs:=[.v v,.o (.int .i64 (.ofNat N)),.b false]) (by kernel_rfl)<| .cons H1<| .cons aE<| .cons a3<| .nil
theorem Sv(call:aF->List I->J->ao)(r b off N i q j:Nat)(c:Bool)(x:I)(aH:ch)(h g:J)
  (H1:au h r (0+3)=some (.slice b off N aH))
  (aE:bD (.ofNat i) (.ofNat N)=true)
  (a3:Nat.le (Nat.succ i) N/\I.ptr b q=I.ptr b (off+i*1))
  (aX:au h b q=some x)
  (bA:call (.fn 91) [x] h=ao.ret (.bool c) g)
  (b_:(!c)=true):
  az Tryz.prog Tryz.f91 none call [1,1,1,0,1,0,0] (ah.mk [(0,.ptr r 0),(3,.int .i64 (.ofNat i))] [] .none h) (.ret)
   (ah.mk [(0,.ptr r 0),(2,.bool false),(3,.int .i64 (.ofNat i))] [] .none g):=
 bh [0,2,3] (hs:=[.v (.slice b off N aH),.b true,.v (.slice b off N aH),.v (.ptr b q),.v x,.c (.bool c) g,.b true]) (by kernel_rfl)<| .cons H1<| .cons aE<| .cons H1<| .cons a3<| .cons aX<| .cons bA<| .cons b_<| .nil
theorem Sw(call:aF->List I->J->ao)(r b off N i q j:Nat)(c:Bool)(x:I)(aH:ch)(h g:J)
  (H1:au h r (0+3)=some (.slice b off N aH))
  (aE:bD (.ofNat i) (.ofNat N)=true)
  (a3:Nat.le (Nat.succ i) N/\I.ptr b q=I.ptr b (off+i*1))
  (aX:au h b q=some x)
  (bA:call (.fn 91) [x] h=ao.ret (.bool c) g)
  (b_:(!c)=false)
  (cQ:arith .add .i64 (.ofNat i) (.ofNat 1)=some (.int .i64 (.ofNat j))):
  az Tryz.prog Tryz.f91 none call [1,1,1,0,1,0,0] (ah.mk [(0,.ptr r 0),(3,.int .i64 (.ofNat i))] [] .none h) (.nrm)
   (ah.mk [(0,.ptr r 0),(3,.int .i64 (.ofNat j))] [] .none g):=
 bh [0,2,3] (hs:=[.v (.slice b off N aH),.b true,.v (.slice b off N aH),.v (.ptr b q),.v x,.c (.bool c) g,.b false,.v (.int .i64 (.ofNat j))]) (by kernel_rfl)<| .cons H1<| .cons aE<| .cons H1<| .cons a3<| .cons aX<| .cons bA<| .cons b_<| .cons cQ<| .nil
theorem Sx(call:aF->List I->J->ao)(r k:Nat)(h:J)
  (H1:au h r (0+0)=some (.int .i64 (.ofNat k))):
  az Tryz.prog Tryz.f91 none call [1,1,1,1,0,0] (ah.mk [(0,.ptr r 0)] [] .none h) (.nrm)
   (ah.mk [(0,.ptr r 0),(98,.int .i64 (.ofNat k))] [] .none h):=
 bh [0,98] (hs:=[.v (.int .i64 (.ofNat k))]) (by kernel_rfl)<| .cons H1<| .nil
theorem Sy(call:aF->List I->J->ao)(r:Nat)(s:List UInt8)(b:Bool)(h g:J)
  (H1:au h r (0+1)=some (.str s))
  (aE:call (.fn 113) [.str s] h=ao.ret (.bool b) g):
  az Tryz.prog Tryz.f91 none call [1,1,1,1,0,1] (ah.mk [(0,.ptr r 0),(98,.int .i64 (.ofNat 6))] [] .none h) (.ret)
   (ah.mk [(2,.bool b)] [] .none g):=
 bh [2] (hs:=[.b true,.v (.str s),.c (.bool b) g]) (by kernel_rfl)<| .cons (by kernel_rfl:a0 (Int.ofNat 6) (Int.ofNat 6)=true)<| .cons H1<| .cons aE<| .nil
theorem Sz(call:aF->List I->J->ao)(r N M:Nat)(n a:I)(h:J)
  (H1:au (J.room h 11) r (0+2)=some n)
  (aE:bO Tryz.prog (J.room h 11) 48 n=some (.int .i64 (.ofNat N)))
  (a3:au (J.room h 11) r (0+3)=some a)
  (aX:bO Tryz.prog (J.room h 11) 49 a=some (.int .i64 (.ofNat M)))
  (bA:I.sound n=true:=by first|with_reducible assumption|rfl|exact c7.snd (by with_reducible assumption)|exact c7.fU (by with_reducible assumption)|exact dE.snd (by with_reducible assumption)|exact dE.fU (by with_reducible assumption)|exact cW.snd (by with_reducible assumption)|exact cW.fU (by with_reducible assumption))
  (b_:I.sound a=true:=by first|with_reducible assumption|rfl|exact c7.snd (by with_reducible assumption)|exact c7.fU (by with_reducible assumption)|exact dE.snd (by with_reducible assumption)|exact dE.fU (by with_reducible assumption)|exact cW.snd (by with_reducible assumption)|exact cW.fU (by with_reducible assumption))
  (cQ:(!a0 (.ofNat N) (.ofNat M))=true):
  az Tryz.prog Tryz.f91 none call [1,1,1,1,0,1] (ah.mk [(0,.ptr r 0),(98,.int .i64 (.ofNat 7))] [] .none h) (.ret)
   (ah.mk [(2,.bool false)] [] .none (J.room h 11)):=
 bh [2] (hs:=[.b false,.b true,.v n,.o (.int .i64 (.ofNat N)),.v a,.o (.int .i64 (.ofNat M)),.b true]) (by kernel_rfl)<| .cons (by kernel_rfl:a0 (Int.ofNat 7) (Int.ofNat 6)=false)<| .cons (by kernel_rfl:a0 (Int.ofNat 7) (Int.ofNat 7)=true)<| .cons H1<| .cons aE<| .cons a3<| .cons aX<| .cons (by kernel_rfl:I.sound (I.ptr r 0)=true)<| .cons (by kernel_rfl:I.ptr r 0=I.ptr r 0)<| .cons (by kernel_rfl:I.sound (I.ptr r 0)=true)<| .cons (by kernel_rfl:I.ptr r 0=I.ptr r 0)<| .cons (by kernel_rfl:I.sound (I.ptr r (0+2))=true)<| .cons (by kernel_rfl:I.ptr r (0+2)=I.ptr r (0+2))<| .cons bA<| .cons H1<| .cons (by kernel_rfl:I.sound (I.int IntKind.i64 (Int.ofNat N))=true)<| .cons aE<| .cons (by kernel_rfl:I.sound (I.ptr r 0)=true)<| .cons (by kernel_rfl:I.ptr r 0=I.ptr r 0)<| .cons (by kernel_rfl:I.sound (I.ptr r 0)=true)<| .cons (by kernel_rfl:I.ptr r 0=I.ptr r 0)<| .cons (by kernel_rfl:I.sound (I.ptr r (0+3))=true)<| .cons (by kernel_rfl:I.ptr r (0+3)=I.ptr r (0+3))<| .cons b_<| .cons a3<| .cons (by kernel_rfl:I.sound (I.int IntKind.i64 (Int.ofNat M))=true)<| .cons aX<| .cons (by kernel_rfl:I.sound (I.bool !a0 (Int.ofNat N) (Int.ofNat M))=true)<| .cons (by kernel_rfl:(I.bool !a0 (Int.ofNat N) (Int.ofNat M))=I.bool !a0 (Int.ofNat N) (Int.ofNat M))<| .cons cQ<| .nil
theorem SA(call:aF->List I->J->ao)(r N M:Nat)(n a:I)(h g:J)
  (H1:au (J.room h 11) r (0+2)=some n)
  (aE:bO Tryz.prog (J.room h 11) 48 n=some (.int .i64 (.ofNat N)))
  (a3:au (J.room h 11) r (0+3)=some a)
  (aX:bO Tryz.prog (J.room h 11) 49 a=some (.int .i64 (.ofNat M)))
  (bA:I.sound n=true:=by first|with_reducible assumption|rfl|exact c7.snd (by with_reducible assumption)|exact c7.fU (by with_reducible assumption)|exact dE.snd (by with_reducible assumption)|exact dE.fU (by with_reducible assumption)|exact cW.snd (by with_reducible assumption)|exact cW.fU (by with_reducible assumption))
  (b_:I.sound a=true:=by first|with_reducible assumption|rfl|exact c7.snd (by with_reducible assumption)|exact c7.fU (by with_reducible assumption)|exact dE.snd (by with_reducible assumption)|exact dE.fU (by with_reducible assumption)|exact cW.snd (by with_reducible assumption)|exact cW.fU (by with_reducible assumption))
  (cQ:(!a0 (.ofNat N) (.ofNat M))=false)
  (ep:az Tryz.prog Tryz.f91 none call [1,1,1,1,0,1,0,1,1,1,0,1,1,0] (ah.mk [(4,.int .i64 (.ofNat 0)),(118,.bool !a0 (.ofNat N) (.ofNat M)),(106,.bool (a0 (.ofNat 7) (.ofNat 7))),(99,.bool (a0 (.ofNat 7) (.ofNat 6))),(0,.ptr r 0),(98,.int .i64 (.ofNat 7))] [] .none (J.room h 11)) (.exit 3) (ah.mk [(0,.ptr r 0)] [] .none g)):
  az Tryz.prog Tryz.f91 none call [1,1,1,1,0,1] (ah.mk [(0,.ptr r 0),(98,.int .i64 (.ofNat 7))] [] .none h) (.nrm)
   (ah.mk [(0,.ptr r 0)] [] .none g):=
 bh [0] (hs:=[Hint.b false,Hint.b true,Hint.v n,Hint.o (I.int IntKind.i64 (Int.ofNat N)),Hint.v a,Hint.o (I.int IntKind.i64 (Int.ofNat M)),Hint.b false,Hint.loop (bw.exit 3) (ah.mk [(0,I.ptr r 0)] [] bE.none g)]) (by kernel_rfl)<| .cons (by kernel_rfl:a0 (Int.ofNat 7) (Int.ofNat 6)=false)<| .cons (by kernel_rfl:a0 (Int.ofNat 7) (Int.ofNat 7)=true)<| .cons H1<| .cons aE<| .cons a3<| .cons aX<| .cons (by kernel_rfl:I.sound (I.ptr r 0)=true)<| .cons (by kernel_rfl:I.ptr r 0=I.ptr r 0)<| .cons (by kernel_rfl:I.sound (I.ptr r 0)=true)<| .cons (by kernel_rfl:I.ptr r 0=I.ptr r 0)<| .cons (by kernel_rfl:I.sound (I.ptr r (0+2))=true)<| .cons (by kernel_rfl:I.ptr r (0+2)=I.ptr r (0+2))<| .cons bA<| .cons H1<| .cons (by kernel_rfl:I.sound (I.int IntKind.i64 (Int.ofNat N))=true)<| .cons aE<| .cons (by kernel_rfl:I.sound (I.ptr r 0)=true)<| .cons (by kernel_rfl:I.ptr r 0=I.ptr r 0)<| .cons (by kernel_rfl:I.sound (I.ptr r 0)=true)<| .cons (by kernel_rfl:I.ptr r 0=I.ptr r 0)<| .cons (by kernel_rfl:I.sound (I.ptr r (0+3))=true)<| .cons (by kernel_rfl:I.ptr r (0+3)=I.ptr r (0+3))<| .cons b_<| .cons a3<| .cons (by kernel_rfl:I.sound (I.int IntKind.i64 (Int.ofNat M))=true)<| .cons aX<| .cons (by kernel_rfl:I.sound (I.bool !a0 (Int.ofNat N) (Int.ofNat M))=true)<| .cons (by kernel_rfl:(I.bool !a0 (Int.ofNat N) (Int.ofNat M))=I.bool !a0 (Int.ofNat N) (Int.ofNat M))<| .cons cQ<| .cons ep<| .nil
theorem SB(call:aF->List I->J->ao)(r N M:Nat)(n a:I)(h g:J)
  (H1:au (J.room h 11) r (0+2)=some n)
  (aE:bO Tryz.prog (J.room h 11) 48 n=some (.int .i64 (.ofNat N)))
  (a3:au (J.room h 11) r (0+3)=some a)
  (aX:bO Tryz.prog (J.room h 11) 49 a=some (.int .i64 (.ofNat M)))
  (bA:I.sound n=true:=by first|with_reducible assumption|rfl|exact c7.snd (by with_reducible assumption)|exact c7.fU (by with_reducible assumption)|exact dE.snd (by with_reducible assumption)|exact dE.fU (by with_reducible assumption)|exact cW.snd (by with_reducible assumption)|exact cW.fU (by with_reducible assumption))
  (b_:I.sound a=true:=by first|with_reducible assumption|rfl|exact c7.snd (by with_reducible assumption)|exact c7.fU (by with_reducible assumption)|exact dE.snd (by with_reducible assumption)|exact dE.fU (by with_reducible assumption)|exact cW.snd (by with_reducible assumption)|exact cW.fU (by with_reducible assumption))
  (cQ:(!a0 (.ofNat N) (.ofNat M))=false)
  (ep:az Tryz.prog Tryz.f91 none call [1,1,1,1,0,1,0,1,1,1,0,1,1,0] (ah.mk [(4,.int .i64 (.ofNat 0)),(118,.bool !a0 (.ofNat N) (.ofNat M)),(106,.bool (a0 (.ofNat 7) (.ofNat 7))),(99,.bool (a0 (.ofNat 7) (.ofNat 6))),(0,.ptr r 0),(98,.int .i64 (.ofNat 7))] [] .none (J.room h 11)) (.ret) (ah.mk [(2,.bool false)] [] .none g)):
  az Tryz.prog Tryz.f91 none call [1,1,1,1,0,1] (ah.mk [(0,.ptr r 0),(98,.int .i64 (.ofNat 7))] [] .none h) (.ret)
   (ah.mk [(2,.bool false)] [] .none g):=
 bh [2] (hs:=[Hint.b false,Hint.b true,Hint.v n,Hint.o (I.int IntKind.i64 (Int.ofNat N)),Hint.v a,Hint.o (I.int IntKind.i64 (Int.ofNat M)),Hint.b false,Hint.loop bw.ret (ah.mk [(2,I.bool false)] [] bE.none g)]) (by kernel_rfl)<| .cons (by kernel_rfl:a0 (Int.ofNat 7) (Int.ofNat 6)=false)<| .cons (by kernel_rfl:a0 (Int.ofNat 7) (Int.ofNat 7)=true)<| .cons H1<| .cons aE<| .cons a3<| .cons aX<| .cons (by kernel_rfl:I.sound (I.ptr r 0)=true)<| .cons (by kernel_rfl:I.ptr r 0=I.ptr r 0)<| .cons (by kernel_rfl:I.sound (I.ptr r 0)=true)<| .cons (by kernel_rfl:I.ptr r 0=I.ptr r 0)<| .cons (by kernel_rfl:I.sound (I.ptr r (0+2))=true)<| .cons (by kernel_rfl:I.ptr r (0+2)=I.ptr r (0+2))<| .cons bA<| .cons H1<| .cons (by kernel_rfl:I.sound (I.int IntKind.i64 (Int.ofNat N))=true)<| .cons aE<| .cons (by kernel_rfl:I.sound (I.ptr r 0)=true)<| .cons (by kernel_rfl:I.ptr r 0=I.ptr r 0)<| .cons (by kernel_rfl:I.sound (I.ptr r 0)=true)<| .cons (by kernel_rfl:I.ptr r 0=I.ptr r 0)<| .cons (by kernel_rfl:I.sound (I.ptr r (0+3))=true)<| .cons (by kernel_rfl:I.ptr r (0+3)=I.ptr r (0+3))<| .cons b_<| .cons a3<| .cons (by kernel_rfl:I.sound (I.int IntKind.i64 (Int.ofNat M))=true)<| .cons aX<| .cons (by kernel_rfl:I.sound (I.bool !a0 (Int.ofNat N) (Int.ofNat M))=true)<| .cons (by kernel_rfl:(I.bool !a0 (Int.ofNat N) (Int.ofNat M))=I.bool !a0 (Int.ofNat N) (Int.ofNat M))<| .cons cQ<| .cons ep<| .nil
theorem SC(call:aF->List I->J->ao)(r:Nat)(v:I)(b:Bool)(h g:J)
  (H1:au h r (0+4)=some v)
  (aE:call (.fn 91) [v] h=ao.ret (.bool b) g):
  az Tryz.prog Tryz.f91 none call [1,1,1,1,0,1] (ah.mk [(0,.ptr r 0),(98,.int .i64 (.ofNat 8))] [] .none h) (.ret)
   (ah.mk [(2,.bool b)] [] .none g):=
 bh [2] (hs:=[.b false,.b false,.b true,.v v,.c (.bool b) g]) (by kernel_rfl)<| .cons (by kernel_rfl:a0 (Int.ofNat 8) (Int.ofNat 6)=false)<| .cons (by kernel_rfl:a0 (Int.ofNat 8) (Int.ofNat 7)=false)<| .cons (by kernel_rfl:a0 (Int.ofNat 8) (Int.ofNat 8)=true)<| .cons H1<| .cons aE<| .nil
theorem SD(call:aF->List I->J->ao)(r M:Nat)(a:I)(h g:J)
  (H1:az Tryz.prog Tryz.f91 none call [1,1,1,1,0,1,0,1,1,1,1,1,1,1,0,0,1,0] (ah.mk [(5,.int .i64 (.ofNat 0)),(167,.bool (a0 (.ofNat 9) (.ofNat 9))),(160,.bool (a0 (.ofNat 9) (.ofNat 8))),(106,.bool (a0 (.ofNat 9) (.ofNat 7))),(99,.bool (a0 (.ofNat 9) (.ofNat 6))),(0,.ptr r 0),(98,.int .i64 (.ofNat 9))] [] .none h) (.exit 5) (ah.mk [(0,.ptr r 0)] [] .none g))
  (aE:au g r (0+3)=some a)
  (a3:bO Tryz.prog g 49 a=some (.int .i64 (.ofNat M))):
  az Tryz.prog Tryz.f91 none call [1,1,1,1,0,1] (ah.mk [(0,.ptr r 0),(98,.int .i64 (.ofNat 9))] [] .none h) (.ret)
   (ah.mk [(2,.bool (dv (.ofNat 2) (.ofNat M)))] [] .none g):=
 bh [2] (hs:=[Hint.b false,Hint.b false,Hint.b false,Hint.b true,Hint.loop (bw.exit 5) (ah.mk [(0,I.ptr r 0)] [] bE.none g),Hint.v a,Hint.o (I.int IntKind.i64 (Int.ofNat M))]) (by kernel_rfl)<| .cons (by kernel_rfl:a0 (Int.ofNat 9) (Int.ofNat 6)=false)<| .cons (by kernel_rfl:a0 (Int.ofNat 9) (Int.ofNat 7)=false)<| .cons (by kernel_rfl:a0 (Int.ofNat 9) (Int.ofNat 8)=false)<| .cons (by kernel_rfl:a0 (Int.ofNat 9) (Int.ofNat 9)=true)<| .cons H1<| .cons aE<| .cons a3<| .nil
theorem SE(call:aF->List I->J->ao)(r:Nat)(h g:J)
  (H1:az Tryz.prog Tryz.f91 none call [1,1,1,1,0,1,0,1,1,1,1,1,1,1,0,0,1,0] (ah.mk [(5,.int .i64 (.ofNat 0)),(167,.bool (a0 (.ofNat 9) (.ofNat 9))),(160,.bool (a0 (.ofNat 9) (.ofNat 8))),(106,.bool (a0 (.ofNat 9) (.ofNat 7))),(99,.bool (a0 (.ofNat 9) (.ofNat 6))),(0,.ptr r 0),(98,.int .i64 (.ofNat 9))] [] .none h) (.ret) (ah.mk [(2,.bool false)] [] .none g)):
  az Tryz.prog Tryz.f91 none call [1,1,1,1,0,1] (ah.mk [(0,.ptr r 0),(98,.int .i64 (.ofNat 9))] [] .none h) (.ret)
   (ah.mk [(2,.bool false)] [] .none g):=
 bh [2] (hs:=[Hint.b false,Hint.b false,Hint.b false,Hint.b true,Hint.loop bw.ret (ah.mk [(2,I.bool false)] [] bE.none g)]) (by kernel_rfl)<| .cons (by kernel_rfl:a0 (Int.ofNat 9) (Int.ofNat 6)=false)<| .cons (by kernel_rfl:a0 (Int.ofNat 9) (Int.ofNat 7)=false)<| .cons (by kernel_rfl:a0 (Int.ofNat 9) (Int.ofNat 8)=false)<| .cons (by kernel_rfl:a0 (Int.ofNat 9) (Int.ofNat 9)=true)<| .cons H1<| .nil
theorem SF(call:aF->List I->J->ao)(r k:Nat)(h:J)
  (H1:a0 (.ofNat k) (.ofNat 6)=false)
  (aE:a0 (.ofNat k) (.ofNat 7)=false)
  (a3:a0 (.ofNat k) (.ofNat 8)=false)
  (aX:a0 (.ofNat k) (.ofNat 9)=false):
  az Tryz.prog Tryz.f91 none call [1,1,1,1,0,1] (ah.mk [(0,.ptr r 0),(98,.int .i64 (.ofNat k))] [] .none h) (.nrm)
   (ah.mk [(0,.ptr r 0)] [] .none h):=
 bh [0] (hs:=[.b false,.b false,.b false,.b false]) (by kernel_rfl)<| .cons H1<| .cons aE<| .cons a3<| .cons aX<| .nil
theorem SG(call:aF->List I->J->ao)(h:J):
  az Tryz.prog Tryz.f91 none call [1,1,1,1,1] (ah.mk [] [] .none h) (.ret)
   (ah.mk [(2,.bool true)] [] .none h):=
 bh [2] (hs:=[]) (by kernel_rfl)<| .nil
theorem SH(call:aF->List I->J->ao)(r i N:Nat)(v:I)(h:J)
  (H1:au h r (0+2)=some v)
  (aE:bO Tryz.prog h 48 v=some (.int .i64 (.ofNat N)))
  (a3:bD (.ofNat i) (.ofNat N)=false):
  az Tryz.prog Tryz.f91 none call [1,1,1,1,0,1,0,1,1,1,0,1,1,0,0] (ah.mk [(0,.ptr r 0),(4,.int .i64 (.ofNat i))] [] .none h) (.exit 3)
   (ah.mk [(0,.ptr r 0)] [] .none h):=
 bh [0] (hs:=[.v v,.o (.int .i64 (.ofNat N)),.b false]) (by kernel_rfl)<| .cons H1<| .cons aE<| .cons a3<| .nil
theorem SI(call:aF->List I->J->ao)(r i N:Nat)(v:I)(h:J)
  (H1:au h r (0+3)=some v)
  (aE:bO Tryz.prog h 49 v=some (.int .i64 (.ofNat N)))
  (a3:bD (.ofNat i) (.ofNat N)=false):
  az Tryz.prog Tryz.f91 none call [1,1,1,1,0,1,0,1,1,1,1,1,1,1,0,0,1,0,0] (ah.mk [(0,.ptr r 0),(5,.int .i64 (.ofNat i))] [] .none h) (.exit 5)
   (ah.mk [(0,.ptr r 0)] [] .none h):=
 bh [0] (hs:=[.v v,.o (.int .i64 (.ofNat N)),.b false]) (by kernel_rfl)<| .cons H1<| .cons aE<| .cons a3<| .nil
theorem SJ(call:aF->List I->J->ao)(v:I)(h:J):
  az Tryz.prog Tryz.f78 none call [0] (ah.mk [(0,v)] [] .none h) (.nrm)
   (ah.mk [(0,v)] [] .none h):=
 bh [0] (hs:=[]) (by kernel_rfl)<| .nil
theorem SK(call:aF->List I->J->ao)(h:J):
  az Tryz.prog Tryz.f78 none call [1] (ah.mk [(0,.bm)] [] .none h) (.ret)
   (ah.mk [(2,.int .i64 (.ofNat 1))] [] .none h):=
 bh [2] (hs:=[.v (.bool true),.b true]) (by kernel_rfl)<| .cons (by kernel_rfl:ej Tryz.prog h BinOp.eql 47 (Operand.tmp 3) (Operand.const (Value.pointer none)) I.bm I.bm=some (I.bool true))<| .cons (by kernel_rfl:true=true)<| .nil
theorem SL(call:aF->List I->J->ao)(r b off N i q aY j rM:Nat)(s t:List UInt8)(d:Bool)(aH:ch)(h g ar:J)
  (H1:au h r (0+2)=some (.slice b off N aH))
  (aE:bD (.ofNat i) (.ofNat N)=true)
  (a3:au (J.room h 32) r (0+2)=some (.slice b off N aH))
  (aX:Nat.le (Nat.succ i) N/\I.ptr b q=I.ptr b (off+i*1))
  (bA:au (J.room h 32) b q=some (.str s))
  (b_:call (.fn 95) [.str s] (J.room h 32)=ao.ret (.bool false) g):
  az Tryz.prog Tryz.f91 none call [1,1,1,1,0,1,0,1,1,1,0,1,1,0,0] (ah.mk [(0,.ptr r 0),(4,.int .i64 (.ofNat i))] [] .none h) (.ret)
   (ah.mk [(2,.bool false)] [] .none g):=
 bh [2] (hs:=[.v (.slice b off N aH),.b true,.v (.slice b off N aH),.v (.ptr b q),.v (.str s),.c (.bool false) g,.b true,.b true,.b true,.b true,.b true,.b true]) (by kernel_rfl)<| .cons H1<| .cons aE<| .cons a3<| .cons aX<| .cons bA<| .cons b_<| .cons (by kernel_rfl:(!false)=true)<| .cons (by kernel_rfl:(!false)=true)<| .cons (by kernel_rfl:(!false)=true)<| .cons (by kernel_rfl:(!false)=true)<| .cons (by kernel_rfl:(!false)=true)<| .cons (by kernel_rfl:I.sound (I.ptr r 0)=true)<| .cons (by kernel_rfl:I.ptr r 0=I.ptr r 0)<| .cons (by kernel_rfl:I.sound (I.ptr r 0)=true)<| .cons (by kernel_rfl:I.ptr r 0=I.ptr r 0)<| .cons (by kernel_rfl:I.sound (I.ptr r (0+2))=true)<| .cons (by kernel_rfl:I.ptr r (0+2)=I.ptr r (0+2))<| .cons (by kernel_rfl:I.sound (I.slice b off N aH)=true)<| .cons a3<| .cons (by kernel_rfl:I.sound (I.int IntKind.i64 (Int.ofNat i))=true)<| .cons (by kernel_rfl:I.int IntKind.i64 (Int.ofNat i)=I.int IntKind.i64 (Int.ofNat i))<| .cons (by kernel_rfl:I.sound (I.ptr b q)=true)<| .cons aX<| .cons (by kernel_rfl:I.sound (I.str s)=true)<| .cons bA<| .cons (by kernel_rfl:I.sound (I.bool !false)=true)<| .cons (by kernel_rfl:(I.bool !false)=I.bool !false)<| .cons (by kernel_rfl:I.sound (I.bool !false)=true)<| .cons (by kernel_rfl:(I.bool !false)=I.bool !false)<| .cons (by kernel_rfl:false=false)<| .cons (by kernel_rfl:false=false)<| .cons (by kernel_rfl:false=false)<| .cons (by kernel_rfl:false=false)<| .cons (by kernel_rfl:I.sound (I.bool true)=true)<| .cons (by kernel_rfl:(bif !false then I.bool true else I.aP [])=I.bool true)<| .cons (by kernel_rfl:true=true)<| .nil
theorem SM(call:aF->List I->J->ao)(r b off N i q aY j rM m k:Nat)(x:I)(s t:List UInt8)(d:Bool)(aH:ch)(h g ar aZ:J)
  (H1:au h r (0+3)=some (.slice b off N aH))
  (aE:bD (.ofNat i) (.ofNat N)=true)
  (a3:Nat.le (Nat.succ i) N/\I.ptr b q=I.ptr b (off+i*1))
  (aX:au h b q=some (.ptr m 0))
  (bA:au h m (0+0)=some (.int .i64 (.ofNat k)))
  (b_:a0 (.ofNat k) (.ofNat 9)=true):
  az Tryz.prog Tryz.f91 none call [1,1,1,1,0,1,0,1,1,1,1,1,1,1,0,0,1,0,0] (ah.mk [(0,.ptr r 0),(5,.int .i64 (.ofNat i))] [] .none h) (.ret)
   (ah.mk [(2,.bool false)] [] .none (J.room h 31)):=
 bh [2] (hs:=[.v (.slice b off N aH),.b true,.v (.slice b off N aH),.v (.ptr b q),.v (.ptr m 0),.v (.int .i64 (.ofNat k)),.b true,.b true,.b true,.b true,.b true,.b true,.b true,.b true,.b true]) (by kernel_rfl)<| .cons H1<| .cons aE<| .cons H1<| .cons a3<| .cons aX<| .cons bA<| .cons b_<| .cons b_<| .cons b_<| .cons (by kernel_rfl:true=true)<| .cons (by kernel_rfl:true=true)<| .cons (by kernel_rfl:true=true)<| .cons (by kernel_rfl:true=true)<| .cons (by kernel_rfl:true=true)<| .cons (by kernel_rfl:I.sound (I.int IntKind.i64 (Int.ofNat k))=true)<| .cons (by kernel_rfl:I.int IntKind.i64 (Int.ofNat k)=I.int IntKind.i64 (Int.ofNat k))<| .cons (by kernel_rfl:I.sound (I.bool (a0 (Int.ofNat k) (Int.ofNat 9)))=true)<| .cons (by kernel_rfl:I.bool (a0 (Int.ofNat k) (Int.ofNat 9))=I.bool (a0 (Int.ofNat k) (Int.ofNat 9)))<| .cons (by kernel_rfl:I.sound (I.bool (a0 (Int.ofNat k) (Int.ofNat 9)))=true)<| .cons (by kernel_rfl:I.bool (a0 (Int.ofNat k) (Int.ofNat 9))=I.bool (a0 (Int.ofNat k) (Int.ofNat 9)))<| .cons (uc b_)<| .cons (uc b_)<| .cons (by kernel_rfl:I.sound (I.bool true)=true)<| .cons (by rw[b_];first|done|rfl:(bif a0 (Int.ofNat k) (Int.ofNat 9) then I.bool true else I.aP [])=I.bool true)<| .cons (by kernel_rfl:I.sound (I.bool true)=true)<| .cons (by kernel_rfl:I.bool true=I.bool true)<| .cons (by kernel_rfl:false=false)<| .cons (by kernel_rfl:false=false)<| .cons (by kernel_rfl:false=false)<| .cons (by kernel_rfl:false=false)<| .cons (by kernel_rfl:I.sound (I.bool true)=true)<| .cons (by kernel_rfl:(bif true then I.bool true else I.aP [])=I.bool true)<| .cons (by kernel_rfl:true=true)<| .nil
theorem SN(call:aF->List I->J->ao)(r b off N i q aY j rM m k:Nat)(x:I)(s t:List UInt8)(d:Bool)(aH:ch)(h g ar aZ:J)
  (H1:au h r (0+3)=some (.slice b off N aH))
  (aE:bD (.ofNat i) (.ofNat N)=true)
  (a3:Nat.le (Nat.succ i) N/\I.ptr b q=I.ptr b (off+i*1))
  (aX:au h b q=some (.ptr m 0))
  (bA:au h m (0+0)=some (.int .i64 (.ofNat k)))
  (b_:a0 (.ofNat k) (.ofNat 9)=false)
  (cQ:a0 (.ofNat k) (.ofNat 1)=true):
  az Tryz.prog Tryz.f91 none call [1,1,1,1,0,1,0,1,1,1,1,1,1,1,0,0,1,0,0] (ah.mk [(0,.ptr r 0),(5,.int .i64 (.ofNat i))] [] .none h) (.ret)
   (ah.mk [(2,.bool false)] [] .none (J.room h 31)):=
 bh [2] (hs:=[.v (.slice b off N aH),.b true,.v (.slice b off N aH),.v (.ptr b q),.v (.ptr m 0),.v (.int .i64 (.ofNat k)),.b false,.b false,.b false,.b true,.b true,.b true,.b true,.b true,.b true]) (by kernel_rfl)<| .cons H1<| .cons aE<| .cons H1<| .cons a3<| .cons aX<| .cons bA<| .cons b_<| .cons b_<| .cons b_<| .cons cQ<| .cons cQ<| .cons cQ<| .cons cQ<| .cons cQ<| .cons (by kernel_rfl:I.sound (I.int IntKind.i64 (Int.ofNat k))=true)<| .cons (by kernel_rfl:I.int IntKind.i64 (Int.ofNat k)=I.int IntKind.i64 (Int.ofNat k))<| .cons (by kernel_rfl:I.sound (I.bool (a0 (Int.ofNat k) (Int.ofNat 9)))=true)<| .cons (by kernel_rfl:I.bool (a0 (Int.ofNat k) (Int.ofNat 9))=I.bool (a0 (Int.ofNat k) (Int.ofNat 9)))<| .cons (by kernel_rfl:I.sound (I.bool (a0 (Int.ofNat k) (Int.ofNat 9)))=true)<| .cons (by kernel_rfl:I.bool (a0 (Int.ofNat k) (Int.ofNat 9))=I.bool (a0 (Int.ofNat k) (Int.ofNat 9)))<| .cons (dX.cons (by kernel_rfl:I.sound (I.int IntKind.i64 (Int.ofNat k))=true)<|dX.cons (by kernel_rfl:I.int IntKind.i64 (Int.ofNat k)=I.int IntKind.i64 (Int.ofNat k))<|dX.nil)<| .cons (dX.cons (by kernel_rfl:I.sound (I.bool (a0 (Int.ofNat k) (Int.ofNat 1)))=true)<|dX.cons (by kernel_rfl:I.bool (a0 (Int.ofNat k) (Int.ofNat 1))=I.bool (a0 (Int.ofNat k) (Int.ofNat 1)))<|dX.nil)<| .cons (by kernel_rfl:I.sound (I.bool (a0 (Int.ofNat k) (Int.ofNat 1)))=true)<| .cons (by rw[b_];first|done|rfl:(bif a0 (Int.ofNat k) (Int.ofNat 9) then I.bool true else I.bool (a0 (Int.ofNat k) (Int.ofNat 1)))=I.bool (a0 (Int.ofNat k) (Int.ofNat 1)))<| .cons (by kernel_rfl:I.sound (I.bool (a0 (Int.ofNat k) (Int.ofNat 1)))=true)<| .cons (by kernel_rfl:I.bool (a0 (Int.ofNat k) (Int.ofNat 1))=I.bool (a0 (Int.ofNat k) (Int.ofNat 1)))<| .cons (uc cQ)<| .cons (uc cQ)<| .cons (uc cQ)<| .cons (uc cQ)<| .cons (by kernel_rfl:I.sound (I.bool true)=true)<| .cons (by rw[cQ];first|done|rfl:(bif a0 (Int.ofNat k) (Int.ofNat 1) then I.bool true else I.aP [])=I.bool true)<| .cons (by kernel_rfl:true=true)<| .nil
theorem SO(call:aF->List I->J->ao)(r k:Nat)(b:Bool)(h al ar:J)
  (H1:call (.fn 79) [.ptr r 0] h=ao.ret (.int .i64 (.ofNat k)) al)
  (aE:bD (.ofNat 60) (.ofNat k)=true):
  az Tryz.prog Tryz.f78 none call [1] (ah.mk [(0,.ptr r 0)] [] .none h) (.ret)
   (ah.mk [(2,.int .i64 (.ofNat 3))] [] .none al):=
 bh [2] (hs:=[.v (.bool false),.b false,.c (.int .i64 (.ofNat k)) al,.b true]) (by kernel_rfl)<| .cons (by kernel_rfl:ej Tryz.prog h BinOp.eql 47 (Operand.tmp 3) (Operand.const (Value.pointer none)) (I.ptr r 0) I.bm=some (I.bool false))<| .cons (by kernel_rfl:false=false)<| .cons H1<| .cons aE<| .nil
theorem SP(call:aF->List I->J->ao)(r k:Nat)(b:Bool)(h al ar:J)
  (H1:call (.fn 79) [.ptr r 0] h=ao.ret (.int .i64 (.ofNat k)) al)
  (aE:bD (.ofNat 60) (.ofNat k)=false)
  (a3:call (.fn 91) [.ptr r 0] al=ao.ret (.bool b) ar)
  (aX:(!b)=true):
  az Tryz.prog Tryz.f78 none call [1] (ah.mk [(0,.ptr r 0)] [] .none h) (.ret)
   (ah.mk [(2,.int .i64 (.ofNat 2))] [] .none ar):=
 bh [2] (hs:=[.v (.bool false),.b false,.c (.int .i64 (.ofNat k)) al,.b false,.c (.bool b) ar,.b true]) (by kernel_rfl)<| .cons (by kernel_rfl:ej Tryz.prog h BinOp.eql 47 (Operand.tmp 3) (Operand.const (Value.pointer none)) (I.ptr r 0) I.bm=some (I.bool false))<| .cons (by kernel_rfl:false=false)<| .cons H1<| .cons aE<| .cons a3<| .cons aX<| .nil
theorem SQ(call:aF->List I->J->ao)(r k:Nat)(b:Bool)(h al ar:J)
  (H1:call (.fn 79) [.ptr r 0] h=ao.ret (.int .i64 (.ofNat k)) al)
  (aE:bD (.ofNat 60) (.ofNat k)=false)
  (a3:call (.fn 91) [.ptr r 0] al=ao.ret (.bool b) ar)
  (aX:(!b)=false):
  az Tryz.prog Tryz.f78 none call [1] (ah.mk [(0,.ptr r 0)] [] .none h) (.ret)
   (ah.mk [(2,.int .i64 (.ofNat 0))] [] .none ar):=
 bh [2] (hs:=[.v (.bool false),.b false,.c (.int .i64 (.ofNat k)) al,.b false,.c (.bool b) ar,.b false]) (by kernel_rfl)<| .cons (by kernel_rfl:ej Tryz.prog h BinOp.eql 47 (Operand.tmp 3) (Operand.const (Value.pointer none)) (I.ptr r 0) I.bm=some (I.bool false))<| .cons (by kernel_rfl:false=false)<| .cons H1<| .cons aE<| .cons a3<| .cons aX<| .nil
theorem DF(call:aF->List I->J->ao)(r:Nat)(i:Nat)(h:J){Q:bw->ah->Prop}(H:∃aN:Nat,∃bz:Nat,∃cm:Nat,∃c1:ch,au h r (0+2)=some (.slice aN bz cm c1)/\i<cm/\∃cy:Nat,∃c6:Nat,∃dr:Nat,∃c2:ch,au (h.room 32) r (0+2)=some (.slice cy c6 dr c2)/\i<dr/\∃s1:List UInt8,au (h.room 32) cy (c6+i*1)=some (.str s1)/\∃al:J,call (.fn 95) [.str s1] (h.room 32)=.ret (.bool true) al/\(0<i->∃ev:Nat,∃gS:Nat,∃gH:Nat,∃c3:ch,au al r (0+2)=some (.slice ev gS gH c3)/\(1<=i/\i<9223372036854775808)/\i-1<gH/\∃s2:List UInt8,au al ev (gS+(i-1)*1)=some (.str s2)/\∃gr:Nat,∃h8:Nat,∃j4:Nat,∃c4:ch,au al r (0+2)=some (.slice gr h8 j4 c4)/\i<j4/\∃bq:List UInt8,au al gr (h8+i*1)=some (.str bq)/\∃a5:Bool,∃ar:J,call (.fn 96) [.str s2,.str bq] al=.ret (.bool a5) ar/\(a5=true->i+1<9223372036854775808/\Q .nrm (ah.mk [(0,.ptr r 0),(4,.int .i64 (.ofNat (i+1)))] [] .none ar))/\(a5=false->Q .ret (ah.mk [(0,.ptr r 0),(2,.bool false),(4,.int .i64 (.ofNat i))] [] .none ar)))/\(¬0<i->i+1<9223372036854775808/\Q .nrm (ah.mk [(0,.ptr r 0),(4,.int .i64 (.ofNat (i+1)))] [] .none al))):
  bj Tryz.prog Tryz.f91 call [1,1,1,1,0,1,0,1,1,1,0,1,1,0,0] ⟨[(0,.ptr r 0),(4,.int .i64 (.ofNat i))],[],.none,h⟩ Q:=
 eu [(1125,.t),(123,.b7 .fL),(131,.b7 .fL),(135,.b7 (.is (.bool true))),(144,.b7 .fL),(152,.b7 .fL)] [0,2,4] [(0,.v (.ptr r 0)),(4,.v (.int .i64 (.ofNat i)))] rfl (Eq.mp (by kernel_rfl) H)
theorem DG(call:aF->List I->J->ao)(r:Nat)(i:Nat)(h:J){Q:bw->ah->Prop}(H:∃aN:Nat,∃bz:Nat,∃cm:Nat,∃c1:ch,au h r (0+3)=some (.slice aN bz cm c1)/\i<cm/\∃cy:Nat,∃c6:Nat,∃dr:Nat,∃c2:ch,au h r (0+3)=some (.slice cy c6 dr c2)/\i<dr/\∃ev:Nat,au h cy (c6+i*1)=some (.ptr ev 0)/\∃gS:Nat,au h ev (0+0)=some (.int .i64 (.ofNat gS))/\(gS=9->Q .ret (ah.mk [(0,.ptr r 0),(2,.bool false),(5,.int .i64 (.ofNat i))] [] .none (h.room 31)))/\(¬gS=9->(gS=1->Q .ret (ah.mk [(0,.ptr r 0),(2,.bool false),(5,.int .i64 (.ofNat i))] [] .none (h.room 31)))/\(¬gS=1->(0<i->∃gH:Nat,∃gr:Nat,∃h8:Nat,∃c3:ch,au (h.room 31) r (0+3)=some (.slice gH gr h8 c3)/\(1<=i/\i<9223372036854775808)/\i-1<h8/\∃v1:I,au (h.room 31) gH (gr+(i-1)*1)=some v1/\∃s1:List UInt8,∃al:J,call (.fn 98) [v1] (h.room 31)=.ret (.str s1) al/\∃j4:Nat,∃jI:Nat,∃lB:Nat,∃c4:ch,au al r (0+3)=some (.slice j4 jI lB c4)/\i<lB/\∃kq:Nat,au al j4 (jI+i*1)=some (.ptr kq 0)/\∃s2:List UInt8,∃ar:J,call (.fn 98) [.ptr kq 0] al=.ret (.str s2) ar/\∃a5:Bool,∃aZ:J,call (.fn 96) [.str s1,.str s2] ar=.ret (.bool a5) aZ/\I.sound v1=true/\au (h.room 31) r (0+3)=some (.slice j4 jI lB c4)/\au (h.room 31) j4 (jI+i*1)=some (.ptr kq 0)/\(a5=true->i+1<9223372036854775808/\Q .nrm (ah.mk [(0,.ptr r 0),(5,.int .i64 (.ofNat (i+1)))] [] .none aZ))/\(a5=false->Q .ret (ah.mk [(0,.ptr r 0),(2,.bool false),(5,.int .i64 (.ofNat i))] [] .none aZ)))/\(¬0<i->i+1<9223372036854775808/\Q .nrm (ah.mk [(0,.ptr r 0),(5,.int .i64 (.ofNat (i+1)))] [] .none (h.room 31)))))):
  bj Tryz.prog Tryz.f91 call [1,1,1,1,0,1,0,1,1,1,1,1,1,1,0,0,1,0,0] ⟨[(0,.ptr r 0),(5,.int .i64 (.ofNat i))],[],.none,h⟩ Q:=
 eu [(1175,.t),(173,.b7 .fL),(181,.b7 .fL),(201,.b7 .fL),(205,.b7 .o),(210,.b7 .fL)] [0,2,5] [(0,.v (.ptr r 0)),(5,.v (.int .i64 (.ofNat i)))] rfl (Eq.mp (by kernel_rfl) H)
theorem uN{P:Program}{fn:Func}{call:aF->List I->J->ao}{p:List Nat}{st hb:ah}{dt:bw}(h:bj P fn call p st (λe s=>e=dt/\s=hb)):az P fn none call p st dt hb:=by
 obtain⟨e,s,r,rfl,rfl⟩:=h
 exact r
theorem DH{m B R:Nat}{h:J}{iR hb c5 bZ cG:I}{bV:ey}{bk up:Nat}{aJ:List aO}(gl:R<B)(ak:h.get R=some (.cells [iR,hb,c5,bZ,cG] 51 bV bk up))(aI:c7 B h c5 (aJ.map .str))(hlen:aJ.length<=90000):∀(k i:Nat) (x:J),aJ.length-i=k->i<=aJ.length->(∀q,lz aJ i=some q->hG q=true)->Ext B h x->
  ∃e Γ y,ef Tryz.prog Tryz.f91 none (Y (m+2)) [1,1,1,1,0,1,0,1,1,1,0,1,1,0] (k+1) ⟨[(0,.ptr R 0),(4,.int .i64 (Int.ofNat i))],[],.none,x⟩ e ⟨Γ,[],.none,y⟩/\
   ((e=.exit 3/\Γ=[(0,.ptr R 0)]/\ly (lz aJ i) (aJ.drop i)=true)\/(e=.ret/\Γ=[(2,.bool false)]/\ly (lz aJ i) (aJ.drop i)=false))/\Ext B h y
 |0,i,x,av,ae,a_,ab=>by
  obtain rfl:i=aJ.length:=by omega
  rw[List.drop_of_length_le (Nat.le_refl _)]
  have eI:=(ab.get R gl).trans ak
  exact⟨_,_,_,.exit (SH (Y (m+2)) R _ aJ.length c5 x (aL eI rfl) aI.uI (eg (by omega))) (by simp),.inl ⟨rfl,rfl,by rw[ly]⟩,ab⟩
 |k+1,i,x,av,ae,a_,ab=>by
  have aa:i<aJ.length:=by omega
  have eI:=(ab.get R gl).trans ak
  have ai:=ab.il (k:=32)
  have hi:=(ai.get R gl).trans ak
  rcases aI.strs with⟨_,rfl⟩|⟨b,off,aH,rfl,hr,hT⟩
  · simp at aa
  have ax:au (x.room 32) b (off+i*1)=some (.str aJ[i]):=(m3 ai hr).trans (hT i aa)
  rw[List.drop_eq_getElem_cons aa,ly]
  have c1:=RT m aJ[i] (x.room 32)
  cases hf:hG aJ[i] with
  |false=>
   rw[hf] at c1
   exact⟨_,_,_,.exit (SL (Y (m+2)) R b off aJ.length i (off+i*1) 0 0 0 aJ[i] [] false aH x (x.room 32) x (aL eI rfl) (dx aa) (aL hi rfl) ⟨aa,rfl⟩ ax c1) (by simp),.inr ⟨rfl,rfl,by rw[Bool.false_and]⟩,ai⟩
  |true=>
   rw[hf] at c1
   have uO:lz aJ (i+1)=some aJ[i]:=by
    show aJ[i]? =_
    exact List.getElem?_eq_getElem aa
   have lC:∀q,lz aJ (i+1)=some q->hG q=true:=λq bp=>by
    rw[uO] at bp
    obtain rfl:=Option.some.inj bp
    exact hf
   cases i with
   |zero=>
    obtain⟨e,Γ,y,bl,bB,de⟩:=DH (m:=m) gl ak aI hlen k 1 (x.room 32) (by omega) (by omega) lC ai
    refine⟨e,Γ,y,.step (uN (DF (Y (m+2)) R 0 x ⟨b,off,_,aH,aL eI rfl,aa,b,off,_,aH,aL hi rfl,aa,_,ax,_,c1,λaj=>absurd aj (by omega),λ_=>⟨by omega,rfl,rfl⟩⟩)) bl,?_,de⟩
    rw[uO] at bB
    rw[Bool.true_and,show lz aJ 0=none from rfl,mb,Bool.true_and]
    exact bB
   |succ i=>
    have ad:i<aJ.length:=by omega
    have zW:lz aJ (i+1)=some aJ[i]:=by
     show aJ[i]? =_
     exact List.getElem?_eq_getElem ad
    have iQ:=II (a_ _ zW)
    have ay:au (x.room 32) b (off+i*1)=some (.str aJ[i]):=(m3 ai hr).trans (hT i ad)
    obtain⟨g,c2,c3⟩:=Jb (m+1) aJ[i] aJ[i+1] B (x.room 32) (by omega)
    have uK:=ai.trans (Nat.le_refl _) c3
    have Bf:arith BinOp.sub IntKind.i64 (Int.ofNat (i+1)) (Int.ofNat 1)=some (.int .i64 (Int.ofNat i)):=pj (by omega) (by omega)
    rw[zW,mb,Bool.true_and]
    cases ag:dB aJ[i] aJ[i+1] with
    |true=>
     rw[ag] at c2
     obtain⟨e,Γ,y,bl,bB,de⟩:=DH (m:=m) gl ak aI hlen k (i+1+1) g (by omega) (by omega) lC uK
     refine⟨e,Γ,y,.step (uN (DF (Y (m+2)) R (i+1) x ⟨b,off,_,aH,aL eI rfl,aa,b,off,_,aH,aL hi rfl,aa,_,ax,_,c1,λ_=>⟨b,off,_,aH,aL hi rfl,⟨by omega,by omega⟩,ad,_,ay,b,off,_,aH,aL hi rfl,aa,_,ax,_,g,c2,λ_=>⟨by omega,rfl,rfl⟩,λaj=>(by cases aj)⟩,λaj=>absurd aj (by omega)⟩)) bl,?_,de⟩
     rw[uO] at bB
     rw[Bool.true_and]
     exact bB
    |false=>
     rw[ag] at c2
     exact⟨_,[(2,.bool false)],_,.exit (cC.post (uN (DF (Y (m+2)) R (i+1) x ⟨b,off,_,aH,aL eI rfl,aa,b,off,_,aH,aL hi rfl,aa,_,ax,_,c1,λ_=>⟨b,off,_,aH,aL hi rfl,⟨by omega,by omega⟩,ad,_,ay,b,off,_,aH,aL hi rfl,aa,_,ax,_,g,c2,λaj=>(by cases aj),λ_=>⟨rfl,rfl⟩⟩,λaj=>absurd aj (by omega)⟩)) ⟨rfl,trivial⟩) (by simp),.inr ⟨rfl,rfl,by rw[Bool.false_and]⟩,uK⟩
end Go.Proofs.cD
namespace Go.Proofs.cD
open Go aB Go.Proofs df
set_option maxRecDepth 100000
set_option maxHeartbeats 1000000
theorem cW.kind{B:Nat}{h:J}:∀{t:a6} {v:I},cW B h t v->∃M,v=.ptr M 0/\∀x,Ext B h x->au x M (0+0)=some (.int .i64 (Int.ofNat t.k))
 |.mk c9 dJ gA iZ km,v,aU=>by
  obtain⟨M,_,_,_,_,_,_,_,ax,ay,bF,_⟩:=aU
  exact⟨M,ax,λx je=>aL ((je.get M ay).trans bF) rfl⟩
theorem Jg(p:Option aO)(k:Nat)(eM:List Nat)(w:aO)(ws:List aO):nI p (k::eM) (w::ws)=((decide (k≠9)&&decide (k≠1))&&(mb p w&&nI (some w) eM ws)):=by rw[nI]
theorem DI{m B R:Nat}{h:J}{iR hb c5 bZ cG:I}{bV:ey}{bk up:Nat}{xs:List a6}{vs:List I}{ws:List aO}(gl:R<B)(ak:h.get R=some (.cells [iR,hb,c5,bZ,cG] 51 bV bk up))(aC:c7 B h bZ vs)(xc:dq B h xs vs)(hZ:ws.length=vs.length)(hlen:vs.length<=90000)(DJ:∀i (ae:i<ws.length),ws[i].length<=90000)(bd:w8 (m+1) B h vs ws):∀(k i:Nat) (x:J),vs.length-i=k->i<=vs.length->Ext B h x->
  ∃e Γ y,ef Tryz.prog Tryz.f91 none (Y (m+1)) [1,1,1,1,0,1,0,1,1,1,1,1,1,1,0,0,1,0] (k+1) ⟨[(0,.ptr R 0),(5,.int .i64 (Int.ofNat i))],[],.none,x⟩ e ⟨Γ,[],.none,y⟩/\
   ((e=.exit 5/\Γ=[(0,.ptr R 0)]/\nI (lz ws i) ((xs.map a6.k).drop i) (ws.drop i)=true)\/(e=.ret/\Γ=[(2,.bool false)]/\nI (lz ws i) ((xs.map a6.k).drop i) (ws.drop i)=false))/\Ext B h y
 |0,i,x,av,ae,ab=>by
  obtain rfl:i=vs.length:=by omega
  rw[List.drop_of_length_le (l:=ws) (by omega)]
  have eI:=(ab.get R gl).trans ak
  refine⟨_,_,_,.exit (SI (Y (m+1)) R _ vs.length bZ x (aL eI rfl) aC.nK (eg (by omega))) (by simp),.inl ⟨rfl,rfl,?_⟩,ab⟩
  cases (xs.map a6.k).drop vs.length<;>(rw[nI];all_goals simp)
 |k+1,i,x,av,ae,ab=>by
  have gM:=dq.len xc
  have aa:i<vs.length:=by omega
  have aw:i<ws.length:=by omega
  have aQ:i<xs.length:=by omega
  have bS:i<(xs.map a6.k).length:=by rw[List.length_map];exact aQ
  have eI:=(ab.get R gl).trans ak
  have ai:=ab.il (k:=31)
  have hi:=(ai.get R gl).trans ak
  obtain⟨M,hU,pE⟩:=(dq.get xc i aa aQ).kind
  have oJ:=pE x ab
  have zX:=aC
  rcases aC with⟨_,rfl⟩|⟨b,off,aH,rfl,hr,hT,lA⟩
  · simp at aa
  have ax:au x b (off+i*1)=some (.ptr M 0):=by rw[<-hU];exact(m3 ab hr).trans (hT i aa)
  have dH:au (x.room 31) b (off+i*1)=some (.ptr M 0):=by rw[<-hU];exact(m3 ai hr).trans (hT i aa)
  have xa:(xs.map a6.k)[i]=(xs[i]).k:=List.getElem_map a6.k
  rw[List.drop_eq_getElem_cons bS,List.drop_eq_getElem_cons aw,Jg,xa]
  by_cases jb:(xs[i]).k=9
  · exact⟨_,_,_,.exit (SM (Y (m+1)) R b off vs.length i (off+i*1) 0 0 0 M _ .bm [] [] false aH x x x x (aL eI rfl) (dx aa) ⟨aa,rfl⟩ ax oJ (ss jb)) (by simp),.inr ⟨rfl,rfl,by simp[jb]⟩,ai⟩
  by_cases bQ:(xs[i]).k=1
  · exact⟨_,_,_,.exit (SN (Y (m+1)) R b off vs.length i (off+i*1) 0 0 0 M _ .bm [] [] false aH x x x x (aL eI rfl) (dx aa) ⟨aa,rfl⟩ ax oJ (kM jb) (ss bQ)) (by simp),.inr ⟨rfl,rfl,by simp[bQ]⟩,ai⟩
  have uO:lz ws (i+1)=some ws[i]:=by
   show ws[i]? =_
   exact List.getElem?_eq_getElem aw
  rw[show(decide ((xs[i]).k≠9)&&decide ((xs[i]).k≠1))=true by simp[jb,bQ],Bool.true_and]
  cases i with
  |zero=>
   obtain⟨e,Γ,y,bl,bB,de⟩:=DI (m:=m) gl ak zX xc hZ hlen DJ bd k 1 (x.room 31) (by omega) (by omega) ai
   refine⟨e,Γ,y,.step (uN (DG (Y (m+1)) R 0 x ⟨b,off,_,aH,aL eI rfl,aa,b,off,_,aH,aL eI rfl,aa,_,ax,_,oJ,λaj=>absurd aj jb,λ_=>⟨λaj=>absurd aj bQ,λ_=>⟨λaj=>absurd aj (by omega),λ_=>⟨by omega,rfl,rfl⟩⟩⟩⟩)) bl,?_,de⟩
   rw[uO] at bB
   rw[show lz ws 0=none from rfl,mb,Bool.true_and]
   exact bB
  |succ i=>
   have ht:i<vs.length:=by omega
   have DK:i<ws.length:=by omega
   have Bl:i<xs.length:=by omega
   have zW:lz ws (i+1)=some ws[i]:=by
    show ws[i]? =_
    exact List.getElem?_eq_getElem DK
   have jB:=dq.get xc i ht Bl
   have ay:au (x.room 31) b (off+i*1)=some vs[i]:=(m3 ai hr).trans (hT i ht)
   obtain⟨g,c1,a8⟩:=bd i ht DK (x.room 31) ai
   have eW:=ai.trans (Nat.le_refl _) a8
   have w9:=(eW.get R gl).trans ak
   have hj:au g b (off+(i+1)*1)=some (.ptr M 0):=by rw[<-hU];exact(m3 eW hr).trans (hT (i+1) aa)
   obtain⟨ar,c2,bu⟩:=bd (i+1) aa aw g eW
   rw[hU] at c2
   have m4:=eW.trans (Nat.le_refl _) bu
   obtain⟨aZ,c3,cU⟩:=Jb m ws[i] ws[i+1] B ar (DJ i DK)
   have lX:=m4.trans (Nat.le_refl _) cU
   have Bf:arith BinOp.sub IntKind.i64 (Int.ofNat (i+1)) (Int.ofNat 1)=some (.int .i64 (Int.ofNat i)):=pj (by omega) (by omega)
   rw[zW,mb]
   cases ag:dB ws[i] ws[i+1] with
   |true=>
    rw[ag] at c3
    obtain⟨e,Γ,y,bl,bB,de⟩:=DI (m:=m) gl ak zX xc hZ hlen DJ bd k (i+1+1) aZ (by omega) (by omega) lX
    refine⟨e,Γ,y,.step (uN (DG (Y (m+1)) R (i+1) x ⟨b,off,_,aH,aL eI rfl,aa,b,off,_,aH,aL eI rfl,aa,_,ax,_,oJ,λaj=>absurd aj jb,λ_=>⟨λaj=>absurd aj bQ,λ_=>⟨λ_=>⟨b,off,_,aH,aL hi rfl,⟨by omega,by omega⟩,ht,_,ay,_,g,c1,b,off,_,aH,aL w9 rfl,aa,_,hj,_,ar,c2,_,aZ,c3,jB.snd,aL hi rfl,dH,λ_=>⟨by omega,rfl,rfl⟩,λaj=>(by cases aj)⟩,λaj=>absurd aj (by omega)⟩⟩⟩)) bl,?_,de⟩
    rw[uO] at bB
    rw[Bool.true_and]
    exact bB
   |false=>
    rw[ag] at c3
    exact⟨_,[(2,.bool false)],_,.exit (cC.post (uN (DG (Y (m+1)) R (i+1) x ⟨b,off,_,aH,aL eI rfl,aa,b,off,_,aH,aL eI rfl,aa,_,ax,_,oJ,λaj=>absurd aj jb,λ_=>⟨λaj=>absurd aj bQ,λ_=>⟨λ_=>⟨b,off,_,aH,aL hi rfl,⟨by omega,by omega⟩,ht,_,ay,_,g,c1,b,off,_,aH,aL w9 rfl,aa,_,hj,_,ar,c2,_,aZ,c3,jB.snd,aL hi rfl,dH,λaj=>(by cases aj),λ_=>⟨rfl,rfl⟩⟩,λaj=>absurd aj (by omega)⟩⟩⟩)) ⟨rfl,trivial⟩) (by simp),.inr ⟨rfl,rfl,by rw[Bool.false_and]⟩,lX⟩
end Go.Proofs.cD
namespace Go.Proofs.cD
open Go aB Go.Proofs df
set_option maxRecDepth 100000
set_option maxHeartbeats 1000000
abbrev SR(m B:Nat)(h:J)(xs:List a6)(vs:List I):Prop:=∀i (aa:i<vs.length) (ad:i<xs.length) x,Ext B h x->∃an,Y m (.fn 91) [vs[i]] x=.ret (.bool (e0 xs[i])) an/\Ext B x an
theorem Jh{m B R:Nat}{h:J}{iR hb c5 bZ cG:I}{bV:ey}{bk up:Nat}{xs:List a6}{vs:List I}(gl:R<B)(ak:h.get R=some (.cells [iR,hb,c5,bZ,cG] 51 bV bk up))(aC:c7 B h bZ vs)(gM:vs.length=xs.length)(hlen:vs.length<=90000)(bd:SR m B h xs vs):∀(k i:Nat) (x:J),vs.length-i=k->i<=vs.length->Ext B h x->
  ∃e Γ y,ef Tryz.prog Tryz.f91 none (Y m) [1,1,1,0,1,0] (k+1) ⟨[(0,.ptr R 0),(3,.int .i64 (Int.ofNat i))],[],.none,x⟩ e ⟨Γ,[],.none,y⟩/\
   ((e=.exit 0/\Γ=[(0,.ptr R 0)]/\im (xs.drop i)=true)\/(e=.ret/\Γ=[(2,.bool false)]/\im (xs.drop i)=false))/\Ext B h y
 |0,i,x,av,ae,ab=>by
  obtain rfl:i=vs.length:=by omega
  rw[List.drop_of_length_le (by omega)]
  have eI:=(ab.get R gl).trans ak
  exact⟨_,_,_,.exit (Su (Y m) R _ vs.length bZ x (aL eI rfl) aC.nK (eg (by omega))) (by simp),.inl ⟨rfl,rfl,by rw[im]⟩,ab⟩
 |k+1,i,x,av,ae,ab=>by
  have aa:i<vs.length:=by omega
  have aQ:i<xs.length:=by omega
  have eI:=(ab.get R gl).trans ak
  have zX:=aC
  rcases aC with⟨_,rfl⟩|⟨b,off,aH,rfl,hr,hT,lA⟩
  · simp at aa
  have ax:au x b (off+i*1)=some vs[i]:=(m3 ab hr).trans (hT i aa)
  obtain⟨g,c1,a8⟩:=bd i aa aQ x ab
  have eW:=ab.trans (Nat.le_refl _) a8
  rw[List.drop_eq_getElem_cons aQ,im]
  cases ag:e0 xs[i] with
  |true=>
   rw[ag] at c1
   obtain⟨e,Γ,y,bl,bB,de⟩:=Jh gl ak zX gM hlen bd k (i+1) g (by omega) (by omega) eW
   refine⟨e,Γ,y,.step (Sw (Y m) R b off vs.length i (off+i*1) (i+1) true vs[i] aH x g (aL eI rfl) (dx aa) ⟨aa,rfl⟩ ax c1 rfl (jz aa (by omega))) bl,?_,de⟩
   rw[Bool.true_and];exact bB
  |false=>
   rw[ag] at c1
   exact⟨_,[(2,.bool false)],_,.exit (cC.post (Sv (Y m) R b off vs.length i (off+i*1) 0 false vs[i] aH x g (aL eI rfl) (dx aa) ⟨aa,rfl⟩ ax c1 rfl) ⟨rfl,trivial⟩) (by simp),.inr ⟨rfl,rfl,by rw[Bool.false_and]⟩,eW⟩
end Go.Proofs.cD
namespace Go.Proofs.cD
open Go aB Go.Proofs df
set_option maxRecDepth 100000
set_option maxHeartbeats 1000000
theorem Ji(q7:∀u,e0 u=true->okW u=true/\(wr u).length<=300*sz u):∀(K:Nat) (t:a6),sz t<=K->sz t<=100->iH t<=90000->∀(m B:Nat) (h:J) (v:I),sz t+4<=m->B<=h.n->cW B h t v->∃an,Y m (.fn 91) [v] h=.ret (.bool (e0 t)) an/\Ext B h an
 |0,t,du,_,_,_,_,_,_,_,_,_=>by
  have:=py t
  omega
 |K+1,.mk k bK aJ xs rt,du,fX,lg,m,B,h,v,hm,bI,aC=>by
  obtain⟨R,c5,bZ,cG,vs,bV,bk,up,rfl,ad,aw,aQ,bS,dm,eG⟩:=aC
  rw[q3] at du fX hm
  rw[iH] at lg
  obtain⟨m,rfl⟩:∃j,m=j+3:=⟨m-3,by omega⟩
  have gM:=dq.len dm
  have jS:=pz xs
  have hZ:=uD xs
  have xd:e0 (.mk k bK aJ xs rt)=((decide (1<=k)&&decide (k<=9))&&(jF k bK aJ.length xs.length rt.isSome&&(im xs&&fO k bK aJ (xs.map a6.k) (cv xs) xs.length (iI rt)))):=by rw[e0]
  have fin:∀b y,az Tryz.prog Tryz.f91 none (Y (m+2)) [1] ⟨[(0,.ptr R 0)],[],.none,h⟩ .ret ⟨[(2,.bool b)],[],.none,y⟩->b=e0 (.mk k bK aJ xs rt)->Ext B h y->∃an,Y (m+3) (.fn 91) [.ptr R 0] h=.ret (.bool (e0 (.mk k bK aJ xs rt))) an/\Ext B h an:=λb y ai af ab=>by
   rw[<-af]
   exact⟨y,ed (intr:=bW) (n:=m+2) (args:=[.ptr R 0]) Tryz.func91 (by kernel_rfl) rfl (by kernel_rfl) (az.seq (p:=[]) (by kernel_rfl) (Sm (Y (m+2)) (.ptr R 0) h) ai) (.inl rfl) (by kernel_rfl),ab⟩
  rw[xd] at fin
  rw[xd]
  by_cases bQ:k<1
  · exact fin false h (az.h4 (p:=[1]) (by kernel_rfl) (cC.post (Sn (Y (m+2)) R 0 h k (aL aw rfl) (dx bQ)) ⟨rfl,trivial⟩) (by simp)) (by simp;omega) (Ext.refl _ _)
  by_cases jb:9<k
  · exact fin false h (az.h4 (p:=[1]) (by kernel_rfl) (cC.post (So (Y (m+2)) R 0 h k (aL aw rfl) (eg bQ) (dx jb)) ⟨rfl,trivial⟩) (by simp)) (by simp;omega) (Ext.refl _ _)
  have s1:=Sp (Y (m+2)) R 0 h k (aL aw rfl) (eg bQ) (eg jb)
  have DL:(decide (1<=k)&&decide (k<=9))=true:=by simp;omega
  rw[DL] at fin⊢
  simp only[Bool.true_and] at fin⊢
  have q4:Ext B h (h.room 54):=Ext.room B h 54
  have Jj:B<=(h.room 54).n:=Nat.le_trans bI q4.n
  have ak:=(q4.get R ad).trans aw
  have pH:=e3.ext q4 (Nat.le_refl _)
  have cy:=aQ.b6 pH
  have c6:=bS.b6 pH
  have dr:=dq.b6 pH _ _ dm
  have ev:=dE.b6 pH _ _ eG
  have jW:if jF k bK aJ.length vs.length rt.isSome=true then az Tryz.prog Tryz.f91 none (Y (m+2)) [1,1,0] ⟨[(0,.ptr R 0)],[],.none,h⟩ .nrm ⟨[(0,.ptr R 0)],[],.none,h.room 54⟩
    else az Tryz.prog Tryz.f91 none (Y (m+2)) [1,1,0] ⟨[(0,.ptr R 0)],[],.none,h⟩ .ret ⟨[(2,.bool false)],[],.none,h.room 54⟩:=by
   cases rt with
   |none=>
    obtain rfl:cG=.bm:=eG
    exact St aw aQ.uI bS.nK aQ.snd bS.snd
   |some u=>
    cases u with
    |mk c9 dJ gA iZ km=>
     obtain⟨W,_,_,_,_,_,_,_,rfl,_⟩:=eG
     exact Ss aw aQ.uI bS.nK aQ.snd bS.snd
  rw[gM] at jW
  cases iQ:jF k bK aJ.length xs.length rt.isSome with
  |false=>
   rw[if_neg (by rw[iQ];simp)] at jW
   rw[iQ] at fin
   exact fin false _ (az.seq (p:=[1]) (by kernel_rfl) s1 (az.h4 (p:=[1,1]) (by kernel_rfl) jW (by simp))) rfl q4
  |true=>
   rw[if_pos iQ] at jW
   rw[iQ] at fin
   simp only[Bool.true_and] at fin⊢
   have bd:∀(u:a6),sz u<=K->sz u<=100->iH u<=90000->∀(m B:Nat) (h:J) (v:I),sz u+4<=m->B<=h.n->cW B h u v->∃an,Y m (.fn 91) [v] h=.ret (.bool (e0 u)) an/\Ext B h an:=Ji q7 K
   obtain⟨e,Γ,y,bl,bB,de⟩:=Jh (m:=m+2) (xs:=xs) ad ak c6 gM (by omega) (λi i1 i2 x ab=>by
    have mN:=kR (List.getElem_mem i2)
    have qf:=uC (List.getElem_mem i2)
    exact bd xs[i] (by omega) (by omega) (by omega) (m+2) B x vs[i] (by omega) (Nat.le_trans Jj ab.n) (cW.b6 (e3.ext ab (Nat.le_refl _)) _ _ (dq.get dr i i1 i2))) vs.length 0 (h.room 54) (by omega) (by omega) (Ext.refl _ _)
   have jH:=ef.run (p:=[1,1,1,0,1,0]) (by kernel_rfl) bl (by omega)
   rw[List.drop_zero] at bB
   rcases bB with⟨rfl,rfl,hh⟩|⟨rfl,rfl,hh⟩
   · rw[hh] at fin
     simp only[Bool.true_and] at fin⊢
     have eO:=az.seq (p:=[1,1,1,0]) (by kernel_rfl) (Jf (Y (m+2)) R (h.room 54)) (az.block (p:=[1,1,1,0,1]) (id:=0) (by kernel_rfl) jH)
     have hi:=(de.get R ad).trans ak
     have Jk:=q4.trans (Nat.le_refl _) de
     have zY:=e3.ext de (Nat.le_refl _)
     have Jl:=cy.b6 zY
     have DM:=c6.b6 zY
     have Jm:=dq.b6 zY _ _ dr
     have SS:=dE.b6 zY _ _ ev
     have lD:B<=y.n:=Nat.le_trans Jj de.n
     have w_:=Sx (Y (m+2)) R k y (aL hi rfl)
     have uP:∀b z,az Tryz.prog Tryz.f91 none (Y (m+2)) [1,1,1,1,0,1] ⟨[(0,.ptr R 0),(98,.int .i64 (Int.ofNat k))],[],.none,y⟩ .ret ⟨[(2,.bool b)],[],.none,z⟩->b=fO k bK aJ (xs.map a6.k) (cv xs) xs.length (iI rt)->Ext B y z->∃an,Y (m+3) (.fn 91) [.ptr R 0] h=.ret (.bool (im xs&&fO k bK aJ (xs.map a6.k) (cv xs) xs.length (iI rt))) an/\Ext B h an:=λb z ai af ab=>by
      rw[hh,Bool.true_and]
      exact fin b z (az.seq (p:=[1]) (by kernel_rfl) s1 (az.seq (p:=[1,1]) (by kernel_rfl) jW (az.seq (p:=[1,1,1]) (by kernel_rfl) eO (az.h4 (p:=[1,1,1,1]) (by kernel_rfl) (az.seq (p:=[1,1,1,1,0]) (by kernel_rfl) w_ ai) (by simp))))) af (Jk.trans (Nat.le_refl _) ab)
     have Jn:∀z,az Tryz.prog Tryz.f91 none (Y (m+2)) [1,1,1,1,0,1] ⟨[(0,.ptr R 0),(98,.int .i64 (Int.ofNat k))],[],.none,y⟩ .nrm ⟨[(0,.ptr R 0)],[],.none,z⟩->fO k bK aJ (xs.map a6.k) (cv xs) xs.length (iI rt)=true->Ext B y z->∃an,Y (m+3) (.fn 91) [.ptr R 0] h=.ret (.bool (im xs&&fO k bK aJ (xs.map a6.k) (cv xs) xs.length (iI rt))) an/\Ext B h an:=λz ai af ab=>by
      rw[hh,Bool.true_and]
      exact fin true z (az.seq (p:=[1]) (by kernel_rfl) s1 (az.seq (p:=[1,1]) (by kernel_rfl) jW (az.seq (p:=[1,1,1]) (by kernel_rfl) eO (az.seq (p:=[1,1,1,1]) (by kernel_rfl) (cC.post (Γ2:=[]) (az.seq (p:=[1,1,1,1,0]) (by kernel_rfl) w_ ai) trivial) (SG (Y (m+2)) z))))) af.symm (Jk.trans (Nat.le_refl _) ab)
     have mN:∀i (i2:i<xs.length),e0 xs[i]=true:=λi i2=>zP hh (List.getElem_mem i2)
     by_cases fC:k=6
     · subst fC
       exact uP (kS bK) y (Sy (Y (m+2)) R bK _ y y (aL hi rfl) (RV m bK y)) (by simp[fO]) (Ext.refl _ _)
     by_cases e6:k=7
     · subst e6
       have s4:fO 7 bK aJ (xs.map a6.k) (cv xs) xs.length (iI rt)=(decide (aJ.length=xs.length)&&ly none aJ):=by simp[fO]
       have zZ:Ext B y (y.room 11):=Ext.room B y 11
       have hS:=(zZ.get R ad).trans hi
       have Jo:=e3.ext zZ (Nat.le_refl _)
       have h1:=Jl.b6 Jo
       have uQ:=DM.b6 Jo
       by_cases aI:aJ.length=vs.length
       · obtain⟨e,Γ,z,aV,aY,cw⟩:=DH (m:=m) ad hi Jl (by omega) aJ.length 0 (y.room 11) (by omega) (by omega) (λq bp=>by cases bp) zZ
         have jQ:=ef.run (p:=[1,1,1,1,0,1,0,1,1,1,0,1,1,0]) (by kernel_rfl) aV (by omega)
         rw[List.drop_zero,show lz aJ 0=none from rfl] at aY
         rcases aY with⟨rfl,rfl,jR⟩|⟨rfl,rfl,jR⟩
         · exact Jn z (SA (Y (m+2)) R aJ.length vs.length c5 bZ y z (aL hS rfl) h1.uI (aL hS rfl) uQ.nK h1.snd uQ.snd (zT aI) (cC.pre jQ ⟨rfl,rfl,trivial⟩ rfl rfl rfl)) (by rw[s4,jR];simp;omega) cw
         · exact uP false z (SB (Y (m+2)) R aJ.length vs.length c5 bZ y z (aL hS rfl) h1.uI (aL hS rfl) uQ.nK h1.snd uQ.snd (zT aI) (cC.pre jQ ⟨rfl,rfl,trivial⟩ rfl rfl rfl)) (by rw[s4,jR];simp) cw
       · exact uP false _ (Sz (Y (m+2)) R aJ.length vs.length c5 bZ y (aL hS rfl) h1.uI (aL hS rfl) uQ.nK h1.snd uQ.snd (Du aI)) (by rw[s4];simp;omega) zZ
     by_cases gj:k=8
     · subst gj
       cases rt with
       |none=>simp[jF] at iQ
       |some u=>
        rw[m1] at du fX hm
        rw[sW] at lg
        obtain⟨z,c1,c2⟩:=bd u (by omega) (by omega) (by omega) (m+2) B y cG (by omega) lD SS
        exact uP (e0 u) z (SC (Y (m+2)) R cG _ y z (aL hi rfl) c1) (by simp[fO,iI]) c2
     by_cases gW:k=9
     · subst gW
       have uR:fO 9 bK aJ (xs.map a6.k) (cv xs) xs.length (iI rt)=(nI none (xs.map a6.k) (cv xs)&&decide (2<=xs.length)):=by simp[fO]
       have xe:∀i (ae:i<(cv xs).length),(cv xs)[i].length<=90000:=λi ae=>by
        have i2:i<xs.length:=by omega
        have a4:=kR (List.getElem_mem i2)
        have a_:=(q7 xs[i] (mN i i2)).2
        rw[uE xs i i2 ae]
        omega
       obtain⟨e,Γ,z,aV,aY,cw⟩:=DI (m:=m+1) (ws:=cv xs) ad hi DM Jm (by omega) (by omega) xe (λi i1 i2 x ab=>by
        have i3:i<xs.length:=by omega
        have a4:=kR (List.getElem_mem i3)
        have af:=xe i i2
        rw[uE xs i i3 i2] at af⊢
        exact DC K xs[i] (by omega) (by omega) (q7 xs[i] (mN i i3)).1 (by omega) (m+1+1) B x vs[i] (by omega) (Nat.le_trans lD ab.n) (cW.b6 (e3.ext ab (Nat.le_refl _)) _ _ (dq.get Jm i i1 i3))) vs.length 0 y (by omega) (by omega) (Ext.refl _ _)
       have jQ:=ef.run (p:=[1,1,1,1,0,1,0,1,1,1,1,1,1,1,0,0,1,0]) (by kernel_rfl) aV (by omega)
       rw[List.drop_zero,List.drop_zero,show lz (cv xs) 0=none from rfl] at aY
       rcases aY with⟨rfl,rfl,jR⟩|⟨rfl,rfl,jR⟩
       · exact uP (dv (Int.ofNat 2) (Int.ofNat vs.length)) z (SD (Y (m+2)) R vs.length bZ y z (cC.pre jQ ⟨rfl,rfl,trivial⟩ rfl rfl rfl) (aL ((cw.get R ad).trans hi) rfl) DM.nK) (by rw[uR,jR,I6,gM];rfl) cw
       · exact uP false z (SE (Y (m+2)) R y z (cC.pre jQ ⟨rfl,rfl,trivial⟩ rfl rfl rfl)) (by rw[uR,jR];rfl) cw
     · exact Jn y (SF (Y (m+2)) R k y (kM fC) (kM e6) (kM gj) (kM gW)) (by simp[fO,fC,e6,gj,gW]) (Ext.refl _ _)
   · have eO:=az.seq (p:=[1,1,1,0]) (by kernel_rfl) (Jf (Y (m+2)) R (h.room 54)) (az.qL (p:=[1,1,1,0,1]) (id:=0) (by kernel_rfl) jH (by simp))
     exact fin false y (az.seq (p:=[1]) (by kernel_rfl) s1 (az.seq (p:=[1,1]) (by kernel_rfl) jW (az.h4 (p:=[1,1,1]) (by kernel_rfl) eO (by simp)))) (by rw[hh];rfl) (q4.trans (Nat.le_refl _) de)
end Go.Proofs.cD
namespace Go.Proofs.cD
open Go aB Go.Proofs df
set_option maxRecDepth 100000
set_option maxHeartbeats 1000000
def kr:Option a6->Nat
 |none=>1
 |some t=>if 60<sz t then 3 else if e0 t=true then 0 else 2
theorem SU{ot:Option a6}{B:Nat}{h:J}{v:I}(m:Nat)(fX:ei ot<=90000)(aI:∀t,ot=some t->iH t<=90000)(hm:ei ot+4<=m)(bI:B<=h.n)(aC:dE B h ot v):
  ∃an,Y (m+1) (.fn 78) [v] h=.ret (.int .i64 (Int.ofNat (kr ot))) an/\Ext B h an:=by
 have fin:∀c y,az Tryz.prog Tryz.f78 none (Y m) [1] ⟨[(0,v)],[],.none,h⟩ .ret ⟨[(2,.int .i64 (Int.ofNat c))],[],.none,y⟩->c=kr ot->Ext B h y->∃an,Y (m+1) (.fn 78) [v] h=.ret (.int .i64 (Int.ofNat (kr ot))) an/\Ext B h an:=λc y ai ag ab=>by
  rw[<-ag]
  exact⟨y,ed (intr:=bW) (n:=m) (args:=[v]) Tryz.func78 (by kernel_rfl) rfl (by kernel_rfl) (az.seq (p:=[]) (by kernel_rfl) (SJ (Y m) v h) ai) (.inl rfl) (by kernel_rfl),ab⟩
 cases ot with
 |none=>
  obtain rfl:v=.bm:=aC
  exact fin 1 h (SK (Y m) h) rfl (Ext.refl _ _)
 |some t=>
  have bH:ei (some t)=sz t:=m1 t
  obtain⟨m,rfl⟩:∃j,m=j+1:=⟨m-1,by omega⟩
  have c1:=Rk (m:=m) fX (by omega) aC
  rw[bH] at c1 fX hm
  rcases aC.sZ with rfl|⟨R,rfl⟩
  · cases t with
    |mk bQ cl fr o8 yO=>obtain⟨R,c5,bZ,cG,vs,bV,bk,up,ab,_⟩:=aC;cases ab
  by_cases nJ:60<sz t
  · exact fin 3 h (SO (Y (m+1)) R _ false h h h c1 (dx (by omega))) (by simp[kr,nJ]) (Ext.refl _ _)
  · obtain⟨y,c2,bu⟩:=Ji QC (sz t) t (Nat.le_refl _) (by omega) (aI t rfl) (m+1) B h (.ptr R 0) (by omega) bI aC
    cases z0:e0 t with
    |true=>
     rw[z0] at c2
     exact fin 0 y (SQ (Y (m+1)) R _ true h h y c1 (eg (by omega)) c2 rfl) (by simp[kr,nJ,z0]) bu
    |false=>
     rw[z0] at c2
     exact fin 2 y (SP (Y (m+1)) R _ false h h y c1 (eg (by omega)) c2 rfl) (by simp[kr,nJ,z0]) bu
end Go.Proofs.cD
