/-
  PROVED HERE: contracts of functions (Dc). No condition beside each statement's own.
-/
import Derived.Test.YtfooahfebojldaaGreatDoorDb
import Derived.Test.YtfooahfebojldaaGreatDoorTx
set_option linter.unusedVariables false
set_option linter.unusedSimpArgs false
namespace Go.Proofs.cT
open Go aC Go.Proofs dD
set_option maxRecDepth 100000
set_option maxHeartbeats 1000000
theorem Vn(call:aE->List J->aa->ao)(v:J)(h:aa):
  aw Tryz.prog Tryz.f91 none call [0] (af.mk [(0,v)] [] .none h) (.nrm)
   (af.mk [(0,v)] [] .none h):=
 aX [0] (hs:=[]) (by kernel_rfl)<| .nil
theorem Vo(call:aE->List J->aa->ao)(r k:Nat)(h:aa)(aZ:Nat)
  (H1:av h r (0+0)=some (.int .i64 (.ofNat aZ)))
  (ay:br (.ofNat aZ) (.ofNat 1)=true):
  aw Tryz.prog Tryz.f91 none call [1,0] (af.mk [(0,.ptr r 0)] [] .none h) (.ret)
   (af.mk [(0,.ptr r 0),(2,.bool false)] [] .none h):=
 aX [0,2] (hs:=[.v (.bool false),.b false,.b false,.b false,.b false,.v (.int .i64 (.ofNat aZ)),.b false,.b false,.b true,.b true,.b true,.b true,.b true,.b true,.b true]) (by kernel_rfl)<| .cons (by kernel_rfl:dr Tryz.prog h BinOp.eql 47 (Operand.tmp 7) (Operand.const (Value.pointer none)) (J.ptr r 0) J.bb=some (J.bool false))<| .cons (by kernel_rfl:false=false)<| .cons (by kernel_rfl:false=false)<| .cons (by kernel_rfl:false=false)<| .cons (by kernel_rfl:false=false)<| .cons H1<| .cons (by kernel_rfl:false=false)<| .cons (by kernel_rfl:false=false)<| .cons ay<| .cons ay<| .cons ay<| .cons ay<| .cons ay<| .cons ay<| .cons (by kernel_rfl:true=true)<| .nil
theorem Vp(call:aE->List J->aa->ao)(r k:Nat)(h:aa)(aZ:Nat)
  (H1:av h r (0+0)=some (.int .i64 (.ofNat aZ)))
  (ay:br (.ofNat aZ) (.ofNat 1)=false)
  (aN:br (.ofNat 9) (.ofNat aZ)=true):
  aw Tryz.prog Tryz.f91 none call [1,0] (af.mk [(0,.ptr r 0)] [] .none h) (.ret)
   (af.mk [(0,.ptr r 0),(2,.bool false)] [] .none h):=
 aX [0,2] (hs:=[.v (.bool false),.b false,.b false,.b false,.b false,.v (.int .i64 (.ofNat aZ)),.b false,.b false,.b false,.b false,.b false,.b false,.v (.int .i64 (.ofNat aZ)),.b false,.b false,.b true]) (by kernel_rfl)<| .cons (by kernel_rfl:dr Tryz.prog h BinOp.eql 47 (Operand.tmp 7) (Operand.const (Value.pointer none)) (J.ptr r 0) J.bb=some (J.bool false))<| .cons (by kernel_rfl:false=false)<| .cons (by kernel_rfl:false=false)<| .cons (by kernel_rfl:false=false)<| .cons (by kernel_rfl:false=false)<| .cons H1<| .cons (by kernel_rfl:false=false)<| .cons (by kernel_rfl:false=false)<| .cons ay<| .cons ay<| .cons ay<| .cons ay<| .cons H1<| .cons ay<| .cons ay<| .cons aN<| .nil
theorem Vq(call:aE->List J->aa->ao)(r k:Nat)(h:aa)(aZ:Nat)
  (H1:av h r (0+0)=some (.int .i64 (.ofNat aZ)))
  (ay:br (.ofNat aZ) (.ofNat 1)=false)
  (aN:br (.ofNat 9) (.ofNat aZ)=false):
  aw Tryz.prog Tryz.f91 none call [1,0] (af.mk [(0,.ptr r 0)] [] .none h) (.nrm)
   (af.mk [(0,.ptr r 0)] [] .none h):=
 aX [0,2] (hs:=[.v (.bool false),.b false,.b false,.b false,.b false,.v (.int .i64 (.ofNat aZ)),.b false,.b false,.b false,.b false,.b false,.b false,.v (.int .i64 (.ofNat aZ)),.b false,.b false,.b false]) (by kernel_rfl)<| .cons (by kernel_rfl:dr Tryz.prog h BinOp.eql 47 (Operand.tmp 7) (Operand.const (Value.pointer none)) (J.ptr r 0) J.bb=some (J.bool false))<| .cons (by kernel_rfl:false=false)<| .cons (by kernel_rfl:false=false)<| .cons (by kernel_rfl:false=false)<| .cons (by kernel_rfl:false=false)<| .cons H1<| .cons (by kernel_rfl:false=false)<| .cons (by kernel_rfl:false=false)<| .cons ay<| .cons ay<| .cons ay<| .cons ay<| .cons H1<| .cons ay<| .cons ay<| .cons aN<| .nil
theorem Vr(call:aE->List J->aa->ao)(r:Nat)(h:aa){Q:bA->af->Prop}(H:∃s1:List UInt8,av (h.room 54) r (0+1)=some (.str s1)/\∃a1:Nat,av (h.room 54) r (0+0)=some (.int .i64 (.ofNat a1))/\(fl (!cF s1 []) (ba (.ofNat a1) (.ofNat 6))=true->∃v1:J,av (h.room 54) r (0+2)=some v1/\∃bL:Nat,cq Tryz.prog (h.room 54) 48 v1=some (.int .i64 (.ofNat bL))/\(0<bL->∃cm:Nat,av (h.room 54) r (0+0)=some (.int .i64 (.ofNat cm))/\(cm=7->∃v2:J,av (h.room 54) r (0+3)=some v2/\∃cn:Nat,cq Tryz.prog (h.room 54) 49 v2=some (.int .i64 (.ofNat cn))/\(0<cn->∃cz:Nat,av (h.room 54) r (0+0)=some (.int .i64 (.ofNat cz))/\(cz<7->J.sound v1=true/\J.sound v2=true/\Q .ret (af.mk [(0,.ptr r 0),(2,.bool false)] [] .none (h.room 54)))/\(¬cz<7->∃cV:Nat,av (h.room 54) r (0+4)=some (.ptr cV 0)/\∃ej:Nat,av (h.room 54) r (0+0)=some (.int .i64 (.ofNat ej))/\J.sound v1=true/\J.sound v2=true/\(fl true (ba (.ofNat ej) (.ofNat 8))=true->Q .nrm (af.mk [(0,.ptr r 0)] [] .none (h.room 54)))/\(fl true (ba (.ofNat ej) (.ofNat 8))=false->Q .ret (af.mk [(0,.ptr r 0),(2,.bool false)] [] .none (h.room 54)))))/\(¬0<cn->∃fC:Nat,av (h.room 54) r (0+4)=some (.ptr fC 0)/\∃fZ:Nat,av (h.room 54) r (0+0)=some (.int .i64 (.ofNat fZ))/\J.sound v1=true/\J.sound v2=true/\(fl true (ba (.ofNat fZ) (.ofNat 8))=true->Q .nrm (af.mk [(0,.ptr r 0)] [] .none (h.room 54)))/\(fl true (ba (.ofNat fZ) (.ofNat 8))=false->Q .ret (af.mk [(0,.ptr r 0),(2,.bool false)] [] .none (h.room 54)))))/\(¬cm=7->J.sound v1=true/\Q .ret (af.mk [(0,.ptr r 0),(2,.bool false)] [] .none (h.room 54))))/\(¬0<bL->∃dS:J,av (h.room 54) r (0+3)=some dS/\∃eI:Nat,cq Tryz.prog (h.room 54) 49 dS=some (.int .i64 (.ofNat eI))/\(0<eI->∃iJ:Nat,av (h.room 54) r (0+0)=some (.int .i64 (.ofNat iJ))/\(iJ<7->J.sound v1=true/\J.sound dS=true/\Q .ret (af.mk [(0,.ptr r 0),(2,.bool false)] [] .none (h.room 54)))/\(¬iJ<7->∃iK:Nat,av (h.room 54) r (0+4)=some (.ptr iK 0)/\∃kN:Nat,av (h.room 54) r (0+0)=some (.int .i64 (.ofNat kN))/\J.sound v1=true/\J.sound dS=true/\(fl true (ba (.ofNat kN) (.ofNat 8))=true->Q .nrm (af.mk [(0,.ptr r 0)] [] .none (h.room 54)))/\(fl true (ba (.ofNat kN) (.ofNat 8))=false->Q .ret (af.mk [(0,.ptr r 0),(2,.bool false)] [] .none (h.room 54)))))/\(¬0<eI->∃nF:Nat,av (h.room 54) r (0+4)=some (.ptr nF 0)/\∃mm:Nat,av (h.room 54) r (0+0)=some (.int .i64 (.ofNat mm))/\J.sound v1=true/\J.sound dS=true/\(fl true (ba (.ofNat mm) (.ofNat 8))=true->Q .nrm (af.mk [(0,.ptr r 0)] [] .none (h.room 54)))/\(fl true (ba (.ofNat mm) (.ofNat 8))=false->Q .ret (af.mk [(0,.ptr r 0),(2,.bool false)] [] .none (h.room 54))))))/\(fl (!cF s1 []) (ba (.ofNat a1) (.ofNat 6))=false->Q .ret (af.mk [(0,.ptr r 0),(2,.bool false)] [] .none (h.room 54)))):
  bz Tryz.prog Tryz.f91 call [1,1,0] ⟨[(0,.ptr r 0)],[],.none,h⟩ Q:=
 hz [] [0,2] [(0,.v (.ptr r 0))] rfl (Eq.mp (by kernel_rfl) H)
theorem Vs(call:aE->List J->aa->ao)(r:Nat)(h:aa){Q:bA->af->Prop}(H:∃s1:List UInt8,av (h.room 54) r (0+1)=some (.str s1)/\∃a1:Nat,av (h.room 54) r (0+0)=some (.int .i64 (.ofNat a1))/\(fl (!cF s1 []) (ba (.ofNat a1) (.ofNat 6))=true->∃v1:J,av (h.room 54) r (0+2)=some v1/\∃bL:Nat,cq Tryz.prog (h.room 54) 48 v1=some (.int .i64 (.ofNat bL))/\(0<bL->∃cm:Nat,av (h.room 54) r (0+0)=some (.int .i64 (.ofNat cm))/\(cm=7->∃v2:J,av (h.room 54) r (0+3)=some v2/\∃cn:Nat,cq Tryz.prog (h.room 54) 49 v2=some (.int .i64 (.ofNat cn))/\(0<cn->∃cz:Nat,av (h.room 54) r (0+0)=some (.int .i64 (.ofNat cz))/\(cz<7->J.sound v1=true/\J.sound v2=true/\Q .ret (af.mk [(0,.ptr r 0),(2,.bool false)] [] .none (h.room 54)))/\(¬cz<7->av (h.room 54) r (0+4)=some .bb/\∃cV:Nat,av (h.room 54) r (0+0)=some (.int .i64 (.ofNat cV))/\J.sound v1=true/\J.sound v2=true/\(fl false (ba (.ofNat cV) (.ofNat 8))=true->Q .nrm (af.mk [(0,.ptr r 0)] [] .none (h.room 54)))/\(fl false (ba (.ofNat cV) (.ofNat 8))=false->Q .ret (af.mk [(0,.ptr r 0),(2,.bool false)] [] .none (h.room 54)))))/\(¬0<cn->av (h.room 54) r (0+4)=some .bb/\∃ej:Nat,av (h.room 54) r (0+0)=some (.int .i64 (.ofNat ej))/\J.sound v1=true/\J.sound v2=true/\(fl false (ba (.ofNat ej) (.ofNat 8))=true->Q .nrm (af.mk [(0,.ptr r 0)] [] .none (h.room 54)))/\(fl false (ba (.ofNat ej) (.ofNat 8))=false->Q .ret (af.mk [(0,.ptr r 0),(2,.bool false)] [] .none (h.room 54)))))/\(¬cm=7->J.sound v1=true/\Q .ret (af.mk [(0,.ptr r 0),(2,.bool false)] [] .none (h.room 54))))/\(¬0<bL->∃dS:J,av (h.room 54) r (0+3)=some dS/\∃fC:Nat,cq Tryz.prog (h.room 54) 49 dS=some (.int .i64 (.ofNat fC))/\(0<fC->∃fZ:Nat,av (h.room 54) r (0+0)=some (.int .i64 (.ofNat fZ))/\(fZ<7->J.sound v1=true/\J.sound dS=true/\Q .ret (af.mk [(0,.ptr r 0),(2,.bool false)] [] .none (h.room 54)))/\(¬fZ<7->av (h.room 54) r (0+4)=some .bb/\∃eI:Nat,av (h.room 54) r (0+0)=some (.int .i64 (.ofNat eI))/\J.sound v1=true/\J.sound dS=true/\(fl false (ba (.ofNat eI) (.ofNat 8))=true->Q .nrm (af.mk [(0,.ptr r 0)] [] .none (h.room 54)))/\(fl false (ba (.ofNat eI) (.ofNat 8))=false->Q .ret (af.mk [(0,.ptr r 0),(2,.bool false)] [] .none (h.room 54)))))/\(¬0<fC->av (h.room 54) r (0+4)=some .bb/\∃iJ:Nat,av (h.room 54) r (0+0)=some (.int .i64 (.ofNat iJ))/\J.sound v1=true/\J.sound dS=true/\(fl false (ba (.ofNat iJ) (.ofNat 8))=true->Q .nrm (af.mk [(0,.ptr r 0)] [] .none (h.room 54)))/\(fl false (ba (.ofNat iJ) (.ofNat 8))=false->Q .ret (af.mk [(0,.ptr r 0),(2,.bool false)] [] .none (h.room 54))))))/\(fl (!cF s1 []) (ba (.ofNat a1) (.ofNat 6))=false->Q .ret (af.mk [(0,.ptr r 0),(2,.bool false)] [] .none (h.room 54)))):
  bz Tryz.prog Tryz.f91 call [1,1,0] ⟨[(0,.ptr r 0)],[],.none,h⟩ Q:=
 hz [(68,.cI (.is .bb))] [0,2] [(0,.v (.ptr r 0))] rfl (Eq.mp (by kernel_rfl) H)
theorem wH(x:Bool)(k c:Nat):fl x (ba (Int.ofNat k) (Int.ofNat c))=!(x !=decide (k=c)):=by
 rw[rb];cases x<;>cases decide (k=c)<;>rfl
def y4(b:Bool)(s1 s2:af)(e:bA)(s:af):Prop:=if b=true then e=.nrm/\s=s1 else e=.ret/\s=s2
theorem Lu{b:Bool}{s1 s2:af}(h:b=true):y4 b s1 s2 .nrm s1:=by unfold y4;rw[if_pos h];exact⟨rfl,rfl⟩
theorem wI{b:Bool}{s1 s2:af}(h:b=false):y4 b s1 s2 .ret s2:=by unfold y4;rw[if_neg (by rw[h];simp)];exact⟨rfl,rfl⟩
theorem Lv{fn:Func}{call:aE->List J->aa->ao}{p:List Nat}{st s1:af}{b:Bool}{Γ Γ2:Env}{ae:aa}(h:bz Tryz.prog fn call p st (y4 b s1 ⟨Γ,[],.none,ae⟩))(hs:cN Γ2 Γ):if b=true then aw Tryz.prog fn none call p st .nrm s1 else aw Tryz.prog fn none call p st .ret ⟨Γ2,[],.none,ae⟩:=by
 obtain⟨e,s,r,q⟩:=h
 cases b with
 |true=>obtain⟨rfl,rfl⟩:=q;exact r
 |false=>obtain⟨rfl,rfl⟩:=q;exact cD.post r hs
theorem Vt{m R k N M w:Nat}{s:bc}{n a:J}{h:aa}{bN:eE}{lo up:Nat}(y5:h.get R=some (.cells [.int .i64 (Int.ofNat k),.str s,n,a,.ptr w 0] 51 bN lo up))(aM:cq Tryz.prog (h.room 54) 48 n=some (.int .i64 (Int.ofNat N)))(bl:cq Tryz.prog (h.room 54) 49 a=some (.int .i64 (Int.ofNat M)))(ky:J.sound n=true)(pg:J.sound a=true):
  if k4 k s N M true=true then aw Tryz.prog Tryz.f91 none (Y m) [1,1,0] ⟨[(0,.ptr R 0)],[],.none,h⟩ .nrm ⟨[(0,.ptr R 0)],[],.none,h.room 54⟩
  else aw Tryz.prog Tryz.f91 none (Y m) [1,1,0] ⟨[(0,.ptr R 0)],[],.none,h⟩ .ret ⟨[(2,.bool false)],[],.none,h.room 54⟩:=by
 have au:(h.room 54).get R=some (.cells [.int .i64 (Int.ofNat k),.str s,n,a,.ptr w 0] 51 bN lo up):=y5
 refine Lv (Γ:=[(0,.ptr R 0),(2,.bool false)]) (Vr (Y m) R h ⟨s,ar au rfl,k,ar au rfl,λc1=>?_,λc1=>?_⟩) ⟨rfl,trivial⟩
 · rw[wH] at c1
   refine⟨n,ar au rfl,N,aM,λfU=>⟨k,ar au rfl,λfE=>⟨a,ar au rfl,M,bl,λg6=>⟨k,ar au rfl,λgl=>absurd gl (by omega),λgl=>⟨w,ar au rfl,k,ar au rfl,ky,pg,λc2=>?_,λc2=>?_⟩⟩,λg6=>⟨w,ar au rfl,k,ar au rfl,ky,pg,λc2=>?_,λc2=>?_⟩⟩,λfE=>⟨ky,?_⟩⟩,λfU=>⟨a,ar au rfl,M,bl,λg6=>⟨k,ar au rfl,λgl=>⟨ky,pg,?_⟩,λgl=>⟨w,ar au rfl,k,ar au rfl,ky,pg,λc2=>?_,λc2=>?_⟩⟩,λg6=>⟨w,ar au rfl,k,ar au rfl,ky,pg,λc2=>?_,λc2=>?_⟩⟩⟩
   all_goals (try rw[wH] at c2)
   all_goals first
    |(refine Lu ?_;simp only[k4,c1,c2];simp;omega)
    |(refine wI ?_;simp only[k4,c1,c2];simp;done)
    |(refine wI ?_;simp[k4];omega)
 · rw[wH] at c1
   exact wI (by simp only[k4,c1];simp)
theorem Vu{m R k N M:Nat}{s:bc}{n a:J}{h:aa}{bN:eE}{lo up:Nat}(y5:h.get R=some (.cells [.int .i64 (Int.ofNat k),.str s,n,a,.bb] 51 bN lo up))(aM:cq Tryz.prog (h.room 54) 48 n=some (.int .i64 (Int.ofNat N)))(bl:cq Tryz.prog (h.room 54) 49 a=some (.int .i64 (Int.ofNat M)))(ky:J.sound n=true)(pg:J.sound a=true):
  if k4 k s N M false=true then aw Tryz.prog Tryz.f91 none (Y m) [1,1,0] ⟨[(0,.ptr R 0)],[],.none,h⟩ .nrm ⟨[(0,.ptr R 0)],[],.none,h.room 54⟩
  else aw Tryz.prog Tryz.f91 none (Y m) [1,1,0] ⟨[(0,.ptr R 0)],[],.none,h⟩ .ret ⟨[(2,.bool false)],[],.none,h.room 54⟩:=by
 have au:(h.room 54).get R=some (.cells [.int .i64 (Int.ofNat k),.str s,n,a,.bb] 51 bN lo up):=y5
 refine Lv (Γ:=[(0,.ptr R 0),(2,.bool false)]) (Vs (Y m) R h ⟨s,ar au rfl,k,ar au rfl,λc1=>?_,λc1=>?_⟩) ⟨rfl,trivial⟩
 · rw[wH] at c1
   refine⟨n,ar au rfl,N,aM,λfU=>⟨k,ar au rfl,λfE=>⟨a,ar au rfl,M,bl,λg6=>⟨k,ar au rfl,λgl=>absurd gl (by omega),λgl=>⟨ar au rfl,k,ar au rfl,ky,pg,λc2=>?_,λc2=>?_⟩⟩,λg6=>⟨ar au rfl,k,ar au rfl,ky,pg,λc2=>?_,λc2=>?_⟩⟩,λfE=>⟨ky,?_⟩⟩,λfU=>⟨a,ar au rfl,M,bl,λg6=>⟨k,ar au rfl,λgl=>⟨ky,pg,?_⟩,λgl=>⟨ar au rfl,k,ar au rfl,ky,pg,λc2=>?_,λc2=>?_⟩⟩,λg6=>⟨ar au rfl,k,ar au rfl,ky,pg,λc2=>?_,λc2=>?_⟩⟩⟩
   all_goals (try rw[wH] at c2)
   all_goals first
    |(refine Lu ?_;simp only[k4,c1,c2];simp;omega)
    |(refine wI ?_;simp only[k4,c1,c2];simp;done)
    |(refine wI ?_;simp[k4];omega)
 · rw[wH] at c1
   exact wI (by simp only[k4,c1];simp)
end Go.Proofs.cT
namespace Go.Proofs.cT
open Go aC Go.Proofs dD
set_option maxRecDepth 100000
set_option maxHeartbeats 1000000
theorem Lw(call:aE->List J->aa->ao)(r:Nat)(h:aa):
  aw Tryz.prog Tryz.f91 none call [1,1,1,0,0] (af.mk [(0,.ptr r 0)] [] .none h) (.nrm)
   (af.mk [(0,.ptr r 0),(3,.int .i64 (.ofNat 0))] [] .none h):=
 aX [0,3] (hs:=[]) (by kernel_rfl)<| .nil
theorem Vv(call:aE->List J->aa->ao)(r i N:Nat)(v:J)(h:aa)
  (H1:av h r (0+3)=some v)
  (ay:cq Tryz.prog h 49 v=some (.int .i64 (.ofNat N)))
  (aN:br (.ofNat i) (.ofNat N)=false):
  aw Tryz.prog Tryz.f91 none call [1,1,1,0,1,0,0] (af.mk [(0,.ptr r 0),(3,.int .i64 (.ofNat i))] [] .none h) (.exit 0)
   (af.mk [(0,.ptr r 0)] [] .none h):=
 aX [0] (hs:=[.v v,.o (.int .i64 (.ofNat N)),.b false]) (by kernel_rfl)<| .cons H1<| .cons ay<| .cons aN<| .nil
theorem Vw(call:aE->List J->aa->ao)(r b off N i q j:Nat)(c:Bool)(x:J)(aH:cE)(h g:aa)
  (H1:av h r (0+3)=some (.slice b off N aH))
  (ay:br (.ofNat i) (.ofNat N)=true)
  (aN:Nat.le (Nat.succ i) N/\J.ptr b q=J.ptr b (off+i*1))
  (aO:av h b q=some x)
  (bm:call (.fn 91) [x] h=ao.ret (.bool c) g)
  (bT:(!c)=true):
  aw Tryz.prog Tryz.f91 none call [1,1,1,0,1,0,0] (af.mk [(0,.ptr r 0),(3,.int .i64 (.ofNat i))] [] .none h) (.ret)
   (af.mk [(0,.ptr r 0),(2,.bool false),(3,.int .i64 (.ofNat i))] [] .none g):=
 aX [0,2,3] (hs:=[.v (.slice b off N aH),.b true,.v (.slice b off N aH),.v (.ptr b q),.v x,.c (.bool c) g,.b true]) (by kernel_rfl)<| .cons H1<| .cons ay<| .cons H1<| .cons aN<| .cons aO<| .cons bm<| .cons bT<| .nil
theorem Vx(call:aE->List J->aa->ao)(r b off N i q j:Nat)(c:Bool)(x:J)(aH:cE)(h g:aa)
  (H1:av h r (0+3)=some (.slice b off N aH))
  (ay:br (.ofNat i) (.ofNat N)=true)
  (aN:Nat.le (Nat.succ i) N/\J.ptr b q=J.ptr b (off+i*1))
  (aO:av h b q=some x)
  (bm:call (.fn 91) [x] h=ao.ret (.bool c) g)
  (bT:(!c)=false)
  (cA:arith .add .i64 (.ofNat i) (.ofNat 1)=some (.int .i64 (.ofNat j))):
  aw Tryz.prog Tryz.f91 none call [1,1,1,0,1,0,0] (af.mk [(0,.ptr r 0),(3,.int .i64 (.ofNat i))] [] .none h) (.nrm)
   (af.mk [(0,.ptr r 0),(3,.int .i64 (.ofNat j))] [] .none g):=
 aX [0,2,3] (hs:=[.v (.slice b off N aH),.b true,.v (.slice b off N aH),.v (.ptr b q),.v x,.c (.bool c) g,.b false,.v (.int .i64 (.ofNat j))]) (by kernel_rfl)<| .cons H1<| .cons ay<| .cons H1<| .cons aN<| .cons aO<| .cons bm<| .cons bT<| .cons cA<| .nil
theorem Vy(call:aE->List J->aa->ao)(r k:Nat)(h:aa)
  (H1:av h r (0+0)=some (.int .i64 (.ofNat k))):
  aw Tryz.prog Tryz.f91 none call [1,1,1,1,0,0] (af.mk [(0,.ptr r 0)] [] .none h) (.nrm)
   (af.mk [(0,.ptr r 0),(98,.int .i64 (.ofNat k))] [] .none h):=
 aX [0,98] (hs:=[.v (.int .i64 (.ofNat k))]) (by kernel_rfl)<| .cons H1<| .nil
theorem Vz(call:aE->List J->aa->ao)(r:Nat)(s:List UInt8)(b:Bool)(h g:aa)
  (H1:av h r (0+1)=some (.str s))
  (ay:call (.fn 113) [.str s] h=ao.ret (.bool b) g):
  aw Tryz.prog Tryz.f91 none call [1,1,1,1,0,1] (af.mk [(0,.ptr r 0),(98,.int .i64 (.ofNat 6))] [] .none h) (.ret)
   (af.mk [(2,.bool b)] [] .none g):=
 aX [2] (hs:=[.b true,.v (.str s),.c (.bool b) g]) (by kernel_rfl)<| .cons (by kernel_rfl:ba (Int.ofNat 6) (Int.ofNat 6)=true)<| .cons H1<| .cons ay<| .nil
theorem VA(call:aE->List J->aa->ao)(r N M:Nat)(n a:J)(h:aa)
  (H1:av (aa.room h 11) r (0+2)=some n)
  (ay:cq Tryz.prog (aa.room h 11) 48 n=some (.int .i64 (.ofNat N)))
  (aN:av (aa.room h 11) r (0+3)=some a)
  (aO:cq Tryz.prog (aa.room h 11) 49 a=some (.int .i64 (.ofNat M)))
  (bm:J.sound n=true:=by first|with_reducible assumption|rfl|exact da.snd (by with_reducible assumption)|exact da.fu (by with_reducible assumption)|exact dE.snd (by with_reducible assumption)|exact dE.fu (by with_reducible assumption)|exact dI.snd (by with_reducible assumption)|exact dI.fu (by with_reducible assumption))
  (bT:J.sound a=true:=by first|with_reducible assumption|rfl|exact da.snd (by with_reducible assumption)|exact da.fu (by with_reducible assumption)|exact dE.snd (by with_reducible assumption)|exact dE.fu (by with_reducible assumption)|exact dI.snd (by with_reducible assumption)|exact dI.fu (by with_reducible assumption))
  (cA:(!ba (.ofNat N) (.ofNat M))=true):
  aw Tryz.prog Tryz.f91 none call [1,1,1,1,0,1] (af.mk [(0,.ptr r 0),(98,.int .i64 (.ofNat 7))] [] .none h) (.ret)
   (af.mk [(2,.bool false)] [] .none (aa.room h 11)):=
 aX [2] (hs:=[.b false,.b true,.v n,.o (.int .i64 (.ofNat N)),.v a,.o (.int .i64 (.ofNat M)),.b true]) (by kernel_rfl)<| .cons (by kernel_rfl:ba (Int.ofNat 7) (Int.ofNat 6)=false)<| .cons (by kernel_rfl:ba (Int.ofNat 7) (Int.ofNat 7)=true)<| .cons H1<| .cons ay<| .cons aN<| .cons aO<| .cons (by kernel_rfl:J.sound (J.ptr r 0)=true)<| .cons (by kernel_rfl:J.ptr r 0=J.ptr r 0)<| .cons (by kernel_rfl:J.sound (J.ptr r 0)=true)<| .cons (by kernel_rfl:J.ptr r 0=J.ptr r 0)<| .cons (by kernel_rfl:J.sound (J.ptr r (0+2))=true)<| .cons (by kernel_rfl:J.ptr r (0+2)=J.ptr r (0+2))<| .cons bm<| .cons H1<| .cons (by kernel_rfl:J.sound (J.int IntKind.i64 (Int.ofNat N))=true)<| .cons ay<| .cons (by kernel_rfl:J.sound (J.ptr r 0)=true)<| .cons (by kernel_rfl:J.ptr r 0=J.ptr r 0)<| .cons (by kernel_rfl:J.sound (J.ptr r 0)=true)<| .cons (by kernel_rfl:J.ptr r 0=J.ptr r 0)<| .cons (by kernel_rfl:J.sound (J.ptr r (0+3))=true)<| .cons (by kernel_rfl:J.ptr r (0+3)=J.ptr r (0+3))<| .cons bT<| .cons aN<| .cons (by kernel_rfl:J.sound (J.int IntKind.i64 (Int.ofNat M))=true)<| .cons aO<| .cons (by kernel_rfl:J.sound (J.bool !ba (Int.ofNat N) (Int.ofNat M))=true)<| .cons (by kernel_rfl:(J.bool !ba (Int.ofNat N) (Int.ofNat M))=J.bool !ba (Int.ofNat N) (Int.ofNat M))<| .cons cA<| .nil
theorem VB(call:aE->List J->aa->ao)(r N M:Nat)(n a:J)(h g:aa)
  (H1:av (aa.room h 11) r (0+2)=some n)
  (ay:cq Tryz.prog (aa.room h 11) 48 n=some (.int .i64 (.ofNat N)))
  (aN:av (aa.room h 11) r (0+3)=some a)
  (aO:cq Tryz.prog (aa.room h 11) 49 a=some (.int .i64 (.ofNat M)))
  (bm:J.sound n=true:=by first|with_reducible assumption|rfl|exact da.snd (by with_reducible assumption)|exact da.fu (by with_reducible assumption)|exact dE.snd (by with_reducible assumption)|exact dE.fu (by with_reducible assumption)|exact dI.snd (by with_reducible assumption)|exact dI.fu (by with_reducible assumption))
  (bT:J.sound a=true:=by first|with_reducible assumption|rfl|exact da.snd (by with_reducible assumption)|exact da.fu (by with_reducible assumption)|exact dE.snd (by with_reducible assumption)|exact dE.fu (by with_reducible assumption)|exact dI.snd (by with_reducible assumption)|exact dI.fu (by with_reducible assumption))
  (cA:(!ba (.ofNat N) (.ofNat M))=false)
  (ei:aw Tryz.prog Tryz.f91 none call [1,1,1,1,0,1,0,1,1,1,0,1,1,0] (af.mk [(4,.int .i64 (.ofNat 0)),(118,.bool !ba (.ofNat N) (.ofNat M)),(106,.bool (ba (.ofNat 7) (.ofNat 7))),(99,.bool (ba (.ofNat 7) (.ofNat 6))),(0,.ptr r 0),(98,.int .i64 (.ofNat 7))] [] .none (aa.room h 11)) (.exit 3) (af.mk [(0,.ptr r 0)] [] .none g)):
  aw Tryz.prog Tryz.f91 none call [1,1,1,1,0,1] (af.mk [(0,.ptr r 0),(98,.int .i64 (.ofNat 7))] [] .none h) (.nrm)
   (af.mk [(0,.ptr r 0)] [] .none g):=
 aX [0] (hs:=[Hint.b false,Hint.b true,Hint.v n,Hint.o (J.int IntKind.i64 (Int.ofNat N)),Hint.v a,Hint.o (J.int IntKind.i64 (Int.ofNat M)),Hint.b false,Hint.loop (bA.exit 3) (af.mk [(0,J.ptr r 0)] [] bH.none g)]) (by kernel_rfl)<| .cons (by kernel_rfl:ba (Int.ofNat 7) (Int.ofNat 6)=false)<| .cons (by kernel_rfl:ba (Int.ofNat 7) (Int.ofNat 7)=true)<| .cons H1<| .cons ay<| .cons aN<| .cons aO<| .cons (by kernel_rfl:J.sound (J.ptr r 0)=true)<| .cons (by kernel_rfl:J.ptr r 0=J.ptr r 0)<| .cons (by kernel_rfl:J.sound (J.ptr r 0)=true)<| .cons (by kernel_rfl:J.ptr r 0=J.ptr r 0)<| .cons (by kernel_rfl:J.sound (J.ptr r (0+2))=true)<| .cons (by kernel_rfl:J.ptr r (0+2)=J.ptr r (0+2))<| .cons bm<| .cons H1<| .cons (by kernel_rfl:J.sound (J.int IntKind.i64 (Int.ofNat N))=true)<| .cons ay<| .cons (by kernel_rfl:J.sound (J.ptr r 0)=true)<| .cons (by kernel_rfl:J.ptr r 0=J.ptr r 0)<| .cons (by kernel_rfl:J.sound (J.ptr r 0)=true)<| .cons (by kernel_rfl:J.ptr r 0=J.ptr r 0)<| .cons (by kernel_rfl:J.sound (J.ptr r (0+3))=true)<| .cons (by kernel_rfl:J.ptr r (0+3)=J.ptr r (0+3))<| .cons bT<| .cons aN<| .cons (by kernel_rfl:J.sound (J.int IntKind.i64 (Int.ofNat M))=true)<| .cons aO<| .cons (by kernel_rfl:J.sound (J.bool !ba (Int.ofNat N) (Int.ofNat M))=true)<| .cons (by kernel_rfl:(J.bool !ba (Int.ofNat N) (Int.ofNat M))=J.bool !ba (Int.ofNat N) (Int.ofNat M))<| .cons cA<| .cons ei<| .nil
theorem VC(call:aE->List J->aa->ao)(r N M:Nat)(n a:J)(h g:aa)
  (H1:av (aa.room h 11) r (0+2)=some n)
  (ay:cq Tryz.prog (aa.room h 11) 48 n=some (.int .i64 (.ofNat N)))
  (aN:av (aa.room h 11) r (0+3)=some a)
  (aO:cq Tryz.prog (aa.room h 11) 49 a=some (.int .i64 (.ofNat M)))
  (bm:J.sound n=true:=by first|with_reducible assumption|rfl|exact da.snd (by with_reducible assumption)|exact da.fu (by with_reducible assumption)|exact dE.snd (by with_reducible assumption)|exact dE.fu (by with_reducible assumption)|exact dI.snd (by with_reducible assumption)|exact dI.fu (by with_reducible assumption))
  (bT:J.sound a=true:=by first|with_reducible assumption|rfl|exact da.snd (by with_reducible assumption)|exact da.fu (by with_reducible assumption)|exact dE.snd (by with_reducible assumption)|exact dE.fu (by with_reducible assumption)|exact dI.snd (by with_reducible assumption)|exact dI.fu (by with_reducible assumption))
  (cA:(!ba (.ofNat N) (.ofNat M))=false)
  (ei:aw Tryz.prog Tryz.f91 none call [1,1,1,1,0,1,0,1,1,1,0,1,1,0] (af.mk [(4,.int .i64 (.ofNat 0)),(118,.bool !ba (.ofNat N) (.ofNat M)),(106,.bool (ba (.ofNat 7) (.ofNat 7))),(99,.bool (ba (.ofNat 7) (.ofNat 6))),(0,.ptr r 0),(98,.int .i64 (.ofNat 7))] [] .none (aa.room h 11)) (.ret) (af.mk [(2,.bool false)] [] .none g)):
  aw Tryz.prog Tryz.f91 none call [1,1,1,1,0,1] (af.mk [(0,.ptr r 0),(98,.int .i64 (.ofNat 7))] [] .none h) (.ret)
   (af.mk [(2,.bool false)] [] .none g):=
 aX [2] (hs:=[Hint.b false,Hint.b true,Hint.v n,Hint.o (J.int IntKind.i64 (Int.ofNat N)),Hint.v a,Hint.o (J.int IntKind.i64 (Int.ofNat M)),Hint.b false,Hint.loop bA.ret (af.mk [(2,J.bool false)] [] bH.none g)]) (by kernel_rfl)<| .cons (by kernel_rfl:ba (Int.ofNat 7) (Int.ofNat 6)=false)<| .cons (by kernel_rfl:ba (Int.ofNat 7) (Int.ofNat 7)=true)<| .cons H1<| .cons ay<| .cons aN<| .cons aO<| .cons (by kernel_rfl:J.sound (J.ptr r 0)=true)<| .cons (by kernel_rfl:J.ptr r 0=J.ptr r 0)<| .cons (by kernel_rfl:J.sound (J.ptr r 0)=true)<| .cons (by kernel_rfl:J.ptr r 0=J.ptr r 0)<| .cons (by kernel_rfl:J.sound (J.ptr r (0+2))=true)<| .cons (by kernel_rfl:J.ptr r (0+2)=J.ptr r (0+2))<| .cons bm<| .cons H1<| .cons (by kernel_rfl:J.sound (J.int IntKind.i64 (Int.ofNat N))=true)<| .cons ay<| .cons (by kernel_rfl:J.sound (J.ptr r 0)=true)<| .cons (by kernel_rfl:J.ptr r 0=J.ptr r 0)<| .cons (by kernel_rfl:J.sound (J.ptr r 0)=true)<| .cons (by kernel_rfl:J.ptr r 0=J.ptr r 0)<| .cons (by kernel_rfl:J.sound (J.ptr r (0+3))=true)<| .cons (by kernel_rfl:J.ptr r (0+3)=J.ptr r (0+3))<| .cons bT<| .cons aN<| .cons (by kernel_rfl:J.sound (J.int IntKind.i64 (Int.ofNat M))=true)<| .cons aO<| .cons (by kernel_rfl:J.sound (J.bool !ba (Int.ofNat N) (Int.ofNat M))=true)<| .cons (by kernel_rfl:(J.bool !ba (Int.ofNat N) (Int.ofNat M))=J.bool !ba (Int.ofNat N) (Int.ofNat M))<| .cons cA<| .cons ei<| .nil
theorem VD(call:aE->List J->aa->ao)(r:Nat)(v:J)(b:Bool)(h g:aa)
  (H1:av h r (0+4)=some v)
  (ay:call (.fn 91) [v] h=ao.ret (.bool b) g):
  aw Tryz.prog Tryz.f91 none call [1,1,1,1,0,1] (af.mk [(0,.ptr r 0),(98,.int .i64 (.ofNat 8))] [] .none h) (.ret)
   (af.mk [(2,.bool b)] [] .none g):=
 aX [2] (hs:=[.b false,.b false,.b true,.v v,.c (.bool b) g]) (by kernel_rfl)<| .cons (by kernel_rfl:ba (Int.ofNat 8) (Int.ofNat 6)=false)<| .cons (by kernel_rfl:ba (Int.ofNat 8) (Int.ofNat 7)=false)<| .cons (by kernel_rfl:ba (Int.ofNat 8) (Int.ofNat 8)=true)<| .cons H1<| .cons ay<| .nil
theorem VE(call:aE->List J->aa->ao)(r M:Nat)(a:J)(h g:aa)
  (H1:aw Tryz.prog Tryz.f91 none call [1,1,1,1,0,1,0,1,1,1,1,1,1,1,0,0,1,0] (af.mk [(5,.int .i64 (.ofNat 0)),(167,.bool (ba (.ofNat 9) (.ofNat 9))),(160,.bool (ba (.ofNat 9) (.ofNat 8))),(106,.bool (ba (.ofNat 9) (.ofNat 7))),(99,.bool (ba (.ofNat 9) (.ofNat 6))),(0,.ptr r 0),(98,.int .i64 (.ofNat 9))] [] .none h) (.exit 5) (af.mk [(0,.ptr r 0)] [] .none g))
  (ay:av g r (0+3)=some a)
  (aN:cq Tryz.prog g 49 a=some (.int .i64 (.ofNat M))):
  aw Tryz.prog Tryz.f91 none call [1,1,1,1,0,1] (af.mk [(0,.ptr r 0),(98,.int .i64 (.ofNat 9))] [] .none h) (.ret)
   (af.mk [(2,.bool (dq (.ofNat 2) (.ofNat M)))] [] .none g):=
 aX [2] (hs:=[Hint.b false,Hint.b false,Hint.b false,Hint.b true,Hint.loop (bA.exit 5) (af.mk [(0,J.ptr r 0)] [] bH.none g),Hint.v a,Hint.o (J.int IntKind.i64 (Int.ofNat M))]) (by kernel_rfl)<| .cons (by kernel_rfl:ba (Int.ofNat 9) (Int.ofNat 6)=false)<| .cons (by kernel_rfl:ba (Int.ofNat 9) (Int.ofNat 7)=false)<| .cons (by kernel_rfl:ba (Int.ofNat 9) (Int.ofNat 8)=false)<| .cons (by kernel_rfl:ba (Int.ofNat 9) (Int.ofNat 9)=true)<| .cons H1<| .cons ay<| .cons aN<| .nil
theorem VF(call:aE->List J->aa->ao)(r:Nat)(h g:aa)
  (H1:aw Tryz.prog Tryz.f91 none call [1,1,1,1,0,1,0,1,1,1,1,1,1,1,0,0,1,0] (af.mk [(5,.int .i64 (.ofNat 0)),(167,.bool (ba (.ofNat 9) (.ofNat 9))),(160,.bool (ba (.ofNat 9) (.ofNat 8))),(106,.bool (ba (.ofNat 9) (.ofNat 7))),(99,.bool (ba (.ofNat 9) (.ofNat 6))),(0,.ptr r 0),(98,.int .i64 (.ofNat 9))] [] .none h) (.ret) (af.mk [(2,.bool false)] [] .none g)):
  aw Tryz.prog Tryz.f91 none call [1,1,1,1,0,1] (af.mk [(0,.ptr r 0),(98,.int .i64 (.ofNat 9))] [] .none h) (.ret)
   (af.mk [(2,.bool false)] [] .none g):=
 aX [2] (hs:=[Hint.b false,Hint.b false,Hint.b false,Hint.b true,Hint.loop bA.ret (af.mk [(2,J.bool false)] [] bH.none g)]) (by kernel_rfl)<| .cons (by kernel_rfl:ba (Int.ofNat 9) (Int.ofNat 6)=false)<| .cons (by kernel_rfl:ba (Int.ofNat 9) (Int.ofNat 7)=false)<| .cons (by kernel_rfl:ba (Int.ofNat 9) (Int.ofNat 8)=false)<| .cons (by kernel_rfl:ba (Int.ofNat 9) (Int.ofNat 9)=true)<| .cons H1<| .nil
theorem VG(call:aE->List J->aa->ao)(r k:Nat)(h:aa)
  (H1:ba (.ofNat k) (.ofNat 6)=false)
  (ay:ba (.ofNat k) (.ofNat 7)=false)
  (aN:ba (.ofNat k) (.ofNat 8)=false)
  (aO:ba (.ofNat k) (.ofNat 9)=false):
  aw Tryz.prog Tryz.f91 none call [1,1,1,1,0,1] (af.mk [(0,.ptr r 0),(98,.int .i64 (.ofNat k))] [] .none h) (.nrm)
   (af.mk [(0,.ptr r 0)] [] .none h):=
 aX [0] (hs:=[.b false,.b false,.b false,.b false]) (by kernel_rfl)<| .cons H1<| .cons ay<| .cons aN<| .cons aO<| .nil
theorem VH(call:aE->List J->aa->ao)(h:aa):
  aw Tryz.prog Tryz.f91 none call [1,1,1,1,1] (af.mk [] [] .none h) (.ret)
   (af.mk [(2,.bool true)] [] .none h):=
 aX [2] (hs:=[]) (by kernel_rfl)<| .nil
theorem VI(call:aE->List J->aa->ao)(r i N:Nat)(v:J)(h:aa)
  (H1:av h r (0+2)=some v)
  (ay:cq Tryz.prog h 48 v=some (.int .i64 (.ofNat N)))
  (aN:br (.ofNat i) (.ofNat N)=false):
  aw Tryz.prog Tryz.f91 none call [1,1,1,1,0,1,0,1,1,1,0,1,1,0,0] (af.mk [(0,.ptr r 0),(4,.int .i64 (.ofNat i))] [] .none h) (.exit 3)
   (af.mk [(0,.ptr r 0)] [] .none h):=
 aX [0] (hs:=[.v v,.o (.int .i64 (.ofNat N)),.b false]) (by kernel_rfl)<| .cons H1<| .cons ay<| .cons aN<| .nil
theorem VJ(call:aE->List J->aa->ao)(r i N:Nat)(v:J)(h:aa)
  (H1:av h r (0+3)=some v)
  (ay:cq Tryz.prog h 49 v=some (.int .i64 (.ofNat N)))
  (aN:br (.ofNat i) (.ofNat N)=false):
  aw Tryz.prog Tryz.f91 none call [1,1,1,1,0,1,0,1,1,1,1,1,1,1,0,0,1,0,0] (af.mk [(0,.ptr r 0),(5,.int .i64 (.ofNat i))] [] .none h) (.exit 5)
   (af.mk [(0,.ptr r 0)] [] .none h):=
 aX [0] (hs:=[.v v,.o (.int .i64 (.ofNat N)),.b false]) (by kernel_rfl)<| .cons H1<| .cons ay<| .cons aN<| .nil
theorem VK(call:aE->List J->aa->ao)(v:J)(h:aa):
  aw Tryz.prog Tryz.f78 none call [0] (af.mk [(0,v)] [] .none h) (.nrm)
   (af.mk [(0,v)] [] .none h):=
 aX [0] (hs:=[]) (by kernel_rfl)<| .nil
theorem VL(call:aE->List J->aa->ao)(h:aa):
  aw Tryz.prog Tryz.f78 none call [1] (af.mk [(0,.bb)] [] .none h) (.ret)
   (af.mk [(2,.int .i64 (.ofNat 1))] [] .none h):=
 aX [2] (hs:=[.v (.bool true),.b true]) (by kernel_rfl)<| .cons (by kernel_rfl:dr Tryz.prog h BinOp.eql 47 (Operand.tmp 3) (Operand.const (Value.pointer none)) J.bb J.bb=some (J.bool true))<| .cons (by kernel_rfl:true=true)<| .nil
theorem VM(call:aE->List J->aa->ao)(r b off N i q aR j tl:Nat)(s t:List UInt8)(d:Bool)(aH:cE)(h g ak:aa)
  (H1:av h r (0+2)=some (.slice b off N aH))
  (ay:br (.ofNat i) (.ofNat N)=true)
  (aN:av (aa.room h 32) r (0+2)=some (.slice b off N aH))
  (aO:Nat.le (Nat.succ i) N/\J.ptr b q=J.ptr b (off+i*1))
  (bm:av (aa.room h 32) b q=some (.str s))
  (bT:call (.fn 95) [.str s] (aa.room h 32)=ao.ret (.bool false) g):
  aw Tryz.prog Tryz.f91 none call [1,1,1,1,0,1,0,1,1,1,0,1,1,0,0] (af.mk [(0,.ptr r 0),(4,.int .i64 (.ofNat i))] [] .none h) (.ret)
   (af.mk [(2,.bool false)] [] .none g):=
 aX [2] (hs:=[.v (.slice b off N aH),.b true,.v (.slice b off N aH),.v (.ptr b q),.v (.str s),.c (.bool false) g,.b true,.b true,.b true,.b true,.b true,.b true]) (by kernel_rfl)<| .cons H1<| .cons ay<| .cons aN<| .cons aO<| .cons bm<| .cons bT<| .cons (by kernel_rfl:(!false)=true)<| .cons (by kernel_rfl:(!false)=true)<| .cons (by kernel_rfl:(!false)=true)<| .cons (by kernel_rfl:(!false)=true)<| .cons (by kernel_rfl:(!false)=true)<| .cons (by kernel_rfl:J.sound (J.ptr r 0)=true)<| .cons (by kernel_rfl:J.ptr r 0=J.ptr r 0)<| .cons (by kernel_rfl:J.sound (J.ptr r 0)=true)<| .cons (by kernel_rfl:J.ptr r 0=J.ptr r 0)<| .cons (by kernel_rfl:J.sound (J.ptr r (0+2))=true)<| .cons (by kernel_rfl:J.ptr r (0+2)=J.ptr r (0+2))<| .cons (by kernel_rfl:J.sound (J.slice b off N aH)=true)<| .cons aN<| .cons (by kernel_rfl:J.sound (J.int IntKind.i64 (Int.ofNat i))=true)<| .cons (by kernel_rfl:J.int IntKind.i64 (Int.ofNat i)=J.int IntKind.i64 (Int.ofNat i))<| .cons (by kernel_rfl:J.sound (J.ptr b q)=true)<| .cons aO<| .cons (by kernel_rfl:J.sound (J.str s)=true)<| .cons bm<| .cons (by kernel_rfl:J.sound (J.bool !false)=true)<| .cons (by kernel_rfl:(J.bool !false)=J.bool !false)<| .cons (by kernel_rfl:J.sound (J.bool !false)=true)<| .cons (by kernel_rfl:(J.bool !false)=J.bool !false)<| .cons (by kernel_rfl:false=false)<| .cons (by kernel_rfl:false=false)<| .cons (by kernel_rfl:false=false)<| .cons (by kernel_rfl:false=false)<| .cons (by kernel_rfl:J.sound (J.bool true)=true)<| .cons (by kernel_rfl:(bif !false then J.bool true else J.aL [])=J.bool true)<| .cons (by kernel_rfl:true=true)<| .nil
theorem VN(call:aE->List J->aa->ao)(r b off N i q aR j tl m k:Nat)(x:J)(s t:List UInt8)(d:Bool)(aH:cE)(h g ak aQ:aa)
  (H1:av h r (0+3)=some (.slice b off N aH))
  (ay:br (.ofNat i) (.ofNat N)=true)
  (aN:Nat.le (Nat.succ i) N/\J.ptr b q=J.ptr b (off+i*1))
  (aO:av h b q=some (.ptr m 0))
  (bm:av h m (0+0)=some (.int .i64 (.ofNat k)))
  (bT:ba (.ofNat k) (.ofNat 9)=true):
  aw Tryz.prog Tryz.f91 none call [1,1,1,1,0,1,0,1,1,1,1,1,1,1,0,0,1,0,0] (af.mk [(0,.ptr r 0),(5,.int .i64 (.ofNat i))] [] .none h) (.ret)
   (af.mk [(2,.bool false)] [] .none (aa.room h 31)):=
 aX [2] (hs:=[.v (.slice b off N aH),.b true,.v (.slice b off N aH),.v (.ptr b q),.v (.ptr m 0),.v (.int .i64 (.ofNat k)),.b true,.b true,.b true,.b true,.b true,.b true,.b true,.b true,.b true]) (by kernel_rfl)<| .cons H1<| .cons ay<| .cons H1<| .cons aN<| .cons aO<| .cons bm<| .cons bT<| .cons bT<| .cons bT<| .cons (by kernel_rfl:true=true)<| .cons (by kernel_rfl:true=true)<| .cons (by kernel_rfl:true=true)<| .cons (by kernel_rfl:true=true)<| .cons (by kernel_rfl:true=true)<| .cons (by kernel_rfl:J.sound (J.int IntKind.i64 (Int.ofNat k))=true)<| .cons (by kernel_rfl:J.int IntKind.i64 (Int.ofNat k)=J.int IntKind.i64 (Int.ofNat k))<| .cons (by kernel_rfl:J.sound (J.bool (ba (Int.ofNat k) (Int.ofNat 9)))=true)<| .cons (by kernel_rfl:J.bool (ba (Int.ofNat k) (Int.ofNat 9))=J.bool (ba (Int.ofNat k) (Int.ofNat 9)))<| .cons (by kernel_rfl:J.sound (J.bool (ba (Int.ofNat k) (Int.ofNat 9)))=true)<| .cons (by kernel_rfl:J.bool (ba (Int.ofNat k) (Int.ofNat 9))=J.bool (ba (Int.ofNat k) (Int.ofNat 9)))<| .cons (vW bT)<| .cons (vW bT)<| .cons (by kernel_rfl:J.sound (J.bool true)=true)<| .cons (by rw[bT];first|done|rfl:(bif ba (Int.ofNat k) (Int.ofNat 9) then J.bool true else J.aL [])=J.bool true)<| .cons (by kernel_rfl:J.sound (J.bool true)=true)<| .cons (by kernel_rfl:J.bool true=J.bool true)<| .cons (by kernel_rfl:false=false)<| .cons (by kernel_rfl:false=false)<| .cons (by kernel_rfl:false=false)<| .cons (by kernel_rfl:false=false)<| .cons (by kernel_rfl:J.sound (J.bool true)=true)<| .cons (by kernel_rfl:(bif true then J.bool true else J.aL [])=J.bool true)<| .cons (by kernel_rfl:true=true)<| .nil
theorem VO(call:aE->List J->aa->ao)(r b off N i q aR j tl m k:Nat)(x:J)(s t:List UInt8)(d:Bool)(aH:cE)(h g ak aQ:aa)
  (H1:av h r (0+3)=some (.slice b off N aH))
  (ay:br (.ofNat i) (.ofNat N)=true)
  (aN:Nat.le (Nat.succ i) N/\J.ptr b q=J.ptr b (off+i*1))
  (aO:av h b q=some (.ptr m 0))
  (bm:av h m (0+0)=some (.int .i64 (.ofNat k)))
  (bT:ba (.ofNat k) (.ofNat 9)=false)
  (cA:ba (.ofNat k) (.ofNat 1)=true):
  aw Tryz.prog Tryz.f91 none call [1,1,1,1,0,1,0,1,1,1,1,1,1,1,0,0,1,0,0] (af.mk [(0,.ptr r 0),(5,.int .i64 (.ofNat i))] [] .none h) (.ret)
   (af.mk [(2,.bool false)] [] .none (aa.room h 31)):=
 aX [2] (hs:=[.v (.slice b off N aH),.b true,.v (.slice b off N aH),.v (.ptr b q),.v (.ptr m 0),.v (.int .i64 (.ofNat k)),.b false,.b false,.b false,.b true,.b true,.b true,.b true,.b true,.b true]) (by kernel_rfl)<| .cons H1<| .cons ay<| .cons H1<| .cons aN<| .cons aO<| .cons bm<| .cons bT<| .cons bT<| .cons bT<| .cons cA<| .cons cA<| .cons cA<| .cons cA<| .cons cA<| .cons (by kernel_rfl:J.sound (J.int IntKind.i64 (Int.ofNat k))=true)<| .cons (by kernel_rfl:J.int IntKind.i64 (Int.ofNat k)=J.int IntKind.i64 (Int.ofNat k))<| .cons (by kernel_rfl:J.sound (J.bool (ba (Int.ofNat k) (Int.ofNat 9)))=true)<| .cons (by kernel_rfl:J.bool (ba (Int.ofNat k) (Int.ofNat 9))=J.bool (ba (Int.ofNat k) (Int.ofNat 9)))<| .cons (by kernel_rfl:J.sound (J.bool (ba (Int.ofNat k) (Int.ofNat 9)))=true)<| .cons (by kernel_rfl:J.bool (ba (Int.ofNat k) (Int.ofNat 9))=J.bool (ba (Int.ofNat k) (Int.ofNat 9)))<| .cons (e4.cons (by kernel_rfl:J.sound (J.int IntKind.i64 (Int.ofNat k))=true)<|e4.cons (by kernel_rfl:J.int IntKind.i64 (Int.ofNat k)=J.int IntKind.i64 (Int.ofNat k))<|e4.nil)<| .cons (e4.cons (by kernel_rfl:J.sound (J.bool (ba (Int.ofNat k) (Int.ofNat 1)))=true)<|e4.cons (by kernel_rfl:J.bool (ba (Int.ofNat k) (Int.ofNat 1))=J.bool (ba (Int.ofNat k) (Int.ofNat 1)))<|e4.nil)<| .cons (by kernel_rfl:J.sound (J.bool (ba (Int.ofNat k) (Int.ofNat 1)))=true)<| .cons (by rw[bT];first|done|rfl:(bif ba (Int.ofNat k) (Int.ofNat 9) then J.bool true else J.bool (ba (Int.ofNat k) (Int.ofNat 1)))=J.bool (ba (Int.ofNat k) (Int.ofNat 1)))<| .cons (by kernel_rfl:J.sound (J.bool (ba (Int.ofNat k) (Int.ofNat 1)))=true)<| .cons (by kernel_rfl:J.bool (ba (Int.ofNat k) (Int.ofNat 1))=J.bool (ba (Int.ofNat k) (Int.ofNat 1)))<| .cons (vW cA)<| .cons (vW cA)<| .cons (vW cA)<| .cons (vW cA)<| .cons (by kernel_rfl:J.sound (J.bool true)=true)<| .cons (by rw[cA];first|done|rfl:(bif ba (Int.ofNat k) (Int.ofNat 1) then J.bool true else J.aL [])=J.bool true)<| .cons (by kernel_rfl:true=true)<| .nil
theorem VP(call:aE->List J->aa->ao)(r k:Nat)(b:Bool)(h aq ak:aa)
  (H1:call (.fn 79) [.ptr r 0] h=ao.ret (.int .i64 (.ofNat k)) aq)
  (ay:br (.ofNat 60) (.ofNat k)=true):
  aw Tryz.prog Tryz.f78 none call [1] (af.mk [(0,.ptr r 0)] [] .none h) (.ret)
   (af.mk [(2,.int .i64 (.ofNat 3))] [] .none aq):=
 aX [2] (hs:=[.v (.bool false),.b false,.c (.int .i64 (.ofNat k)) aq,.b true]) (by kernel_rfl)<| .cons (by kernel_rfl:dr Tryz.prog h BinOp.eql 47 (Operand.tmp 3) (Operand.const (Value.pointer none)) (J.ptr r 0) J.bb=some (J.bool false))<| .cons (by kernel_rfl:false=false)<| .cons H1<| .cons ay<| .nil
theorem VQ(call:aE->List J->aa->ao)(r k:Nat)(b:Bool)(h aq ak:aa)
  (H1:call (.fn 79) [.ptr r 0] h=ao.ret (.int .i64 (.ofNat k)) aq)
  (ay:br (.ofNat 60) (.ofNat k)=false)
  (aN:call (.fn 91) [.ptr r 0] aq=ao.ret (.bool b) ak)
  (aO:(!b)=true):
  aw Tryz.prog Tryz.f78 none call [1] (af.mk [(0,.ptr r 0)] [] .none h) (.ret)
   (af.mk [(2,.int .i64 (.ofNat 2))] [] .none ak):=
 aX [2] (hs:=[.v (.bool false),.b false,.c (.int .i64 (.ofNat k)) aq,.b false,.c (.bool b) ak,.b true]) (by kernel_rfl)<| .cons (by kernel_rfl:dr Tryz.prog h BinOp.eql 47 (Operand.tmp 3) (Operand.const (Value.pointer none)) (J.ptr r 0) J.bb=some (J.bool false))<| .cons (by kernel_rfl:false=false)<| .cons H1<| .cons ay<| .cons aN<| .cons aO<| .nil
theorem VR(call:aE->List J->aa->ao)(r k:Nat)(b:Bool)(h aq ak:aa)
  (H1:call (.fn 79) [.ptr r 0] h=ao.ret (.int .i64 (.ofNat k)) aq)
  (ay:br (.ofNat 60) (.ofNat k)=false)
  (aN:call (.fn 91) [.ptr r 0] aq=ao.ret (.bool b) ak)
  (aO:(!b)=false):
  aw Tryz.prog Tryz.f78 none call [1] (af.mk [(0,.ptr r 0)] [] .none h) (.ret)
   (af.mk [(2,.int .i64 (.ofNat 0))] [] .none ak):=
 aX [2] (hs:=[.v (.bool false),.b false,.c (.int .i64 (.ofNat k)) aq,.b false,.c (.bool b) ak,.b false]) (by kernel_rfl)<| .cons (by kernel_rfl:dr Tryz.prog h BinOp.eql 47 (Operand.tmp 3) (Operand.const (Value.pointer none)) (J.ptr r 0) J.bb=some (J.bool false))<| .cons (by kernel_rfl:false=false)<| .cons H1<| .cons ay<| .cons aN<| .cons aO<| .nil
theorem FM(call:aE->List J->aa->ao)(r:Nat)(i:Nat)(h:aa){Q:bA->af->Prop}(H:∃a1:Nat,∃bL:Nat,∃cm:Nat,∃c1:cE,av h r (0+2)=some (.slice a1 bL cm c1)/\i<cm/\∃cn:Nat,∃cz:Nat,∃cV:Nat,∃c2:cE,av (h.room 32) r (0+2)=some (.slice cn cz cV c2)/\i<cV/\∃s1:List UInt8,av (h.room 32) cn (cz+i*1)=some (.str s1)/\∃aq:aa,call (.fn 95) [.str s1] (h.room 32)=.ret (.bool true) aq/\(0<i->∃ej:Nat,∃fC:Nat,∃fZ:Nat,∃c3:cE,av aq r (0+2)=some (.slice ej fC fZ c3)/\(1<=i/\i<9223372036854775808)/\i-1<fZ/\∃s2:List UInt8,av aq ej (fC+(i-1)*1)=some (.str s2)/\∃eI:Nat,∃iJ:Nat,∃iK:Nat,∃c4:cE,av aq r (0+2)=some (.slice eI iJ iK c4)/\i<iK/\∃ck:List UInt8,av aq eI (iJ+i*1)=some (.str ck)/\∃a8:Bool,∃ak:aa,call (.fn 96) [.str s2,.str ck] aq=.ret (.bool a8) ak/\(a8=true->i+1<9223372036854775808/\Q .nrm (af.mk [(0,.ptr r 0),(4,.int .i64 (.ofNat (i+1)))] [] .none ak))/\(a8=false->Q .ret (af.mk [(0,.ptr r 0),(2,.bool false),(4,.int .i64 (.ofNat i))] [] .none ak)))/\(¬0<i->i+1<9223372036854775808/\Q .nrm (af.mk [(0,.ptr r 0),(4,.int .i64 (.ofNat (i+1)))] [] .none aq))):
  bz Tryz.prog Tryz.f91 call [1,1,1,1,0,1,0,1,1,1,0,1,1,0,0] ⟨[(0,.ptr r 0),(4,.int .i64 (.ofNat i))],[],.none,h⟩ Q:=
 hz [(1125,.t),(123,.cI .iv),(131,.cI .iv),(135,.cI (.is (.bool true))),(144,.cI .iv),(152,.cI .iv)] [0,2,4] [(0,.v (.ptr r 0)),(4,.v (.int .i64 (.ofNat i)))] rfl (Eq.mp (by kernel_rfl) H)
theorem FN(call:aE->List J->aa->ao)(r:Nat)(i:Nat)(h:aa){Q:bA->af->Prop}(H:∃a1:Nat,∃bL:Nat,∃cm:Nat,∃c1:cE,av h r (0+3)=some (.slice a1 bL cm c1)/\i<cm/\∃cn:Nat,∃cz:Nat,∃cV:Nat,∃c2:cE,av h r (0+3)=some (.slice cn cz cV c2)/\i<cV/\∃ej:Nat,av h cn (cz+i*1)=some (.ptr ej 0)/\∃fC:Nat,av h ej (0+0)=some (.int .i64 (.ofNat fC))/\(fC=9->Q .ret (af.mk [(0,.ptr r 0),(2,.bool false),(5,.int .i64 (.ofNat i))] [] .none (h.room 31)))/\(¬fC=9->(fC=1->Q .ret (af.mk [(0,.ptr r 0),(2,.bool false),(5,.int .i64 (.ofNat i))] [] .none (h.room 31)))/\(¬fC=1->(0<i->∃fZ:Nat,∃eI:Nat,∃iJ:Nat,∃c3:cE,av (h.room 31) r (0+3)=some (.slice fZ eI iJ c3)/\(1<=i/\i<9223372036854775808)/\i-1<iJ/\∃v1:J,av (h.room 31) fZ (eI+(i-1)*1)=some v1/\∃s1:List UInt8,∃aq:aa,call (.fn 98) [v1] (h.room 31)=.ret (.str s1) aq/\∃iK:Nat,∃kN:Nat,∃nF:Nat,∃c4:cE,av aq r (0+3)=some (.slice iK kN nF c4)/\i<nF/\∃mm:Nat,av aq iK (kN+i*1)=some (.ptr mm 0)/\∃s2:List UInt8,∃ak:aa,call (.fn 98) [.ptr mm 0] aq=.ret (.str s2) ak/\∃a8:Bool,∃aQ:aa,call (.fn 96) [.str s1,.str s2] ak=.ret (.bool a8) aQ/\J.sound v1=true/\av (h.room 31) r (0+3)=some (.slice iK kN nF c4)/\av (h.room 31) iK (kN+i*1)=some (.ptr mm 0)/\(a8=true->i+1<9223372036854775808/\Q .nrm (af.mk [(0,.ptr r 0),(5,.int .i64 (.ofNat (i+1)))] [] .none aQ))/\(a8=false->Q .ret (af.mk [(0,.ptr r 0),(2,.bool false),(5,.int .i64 (.ofNat i))] [] .none aQ)))/\(¬0<i->i+1<9223372036854775808/\Q .nrm (af.mk [(0,.ptr r 0),(5,.int .i64 (.ofNat (i+1)))] [] .none (h.room 31)))))):
  bz Tryz.prog Tryz.f91 call [1,1,1,1,0,1,0,1,1,1,1,1,1,1,0,0,1,0,0] ⟨[(0,.ptr r 0),(5,.int .i64 (.ofNat i))],[],.none,h⟩ Q:=
 hz [(1175,.t),(173,.cI .iv),(181,.cI .iv),(201,.cI .iv),(205,.cI .o),(210,.cI .iv)] [0,2,5] [(0,.v (.ptr r 0)),(5,.v (.int .i64 (.ofNat i)))] rfl (Eq.mp (by kernel_rfl) H)
theorem wJ{P:Program}{fn:Func}{call:aE->List J->aa->ao}{p:List Nat}{st s0:af}{dc:bA}(h:bz P fn call p st (λe s=>e=dc/\s=s0)):aw P fn none call p st dc s0:=by
 obtain⟨e,s,r,rfl,rfl⟩:=h
 exact r
theorem FO{m B R:Nat}{h:aa}{kd s0 bk a6 cZ:J}{bN:eE}{lo up:Nat}{ns:List bc}(gq:R<B)(au:h.get R=some (.cells [kd,s0,bk,a6,cZ] 51 bN lo up))(aM:da B h bk (ns.map .str))(hlen:ns.length<=90000):∀(k i:Nat) (x:aa),ns.length-i=k->i<=ns.length->(∀q,mY ns i=some q->jb q=true)->Ext B h x->
  ∃e Γ y,ev Tryz.prog Tryz.f91 none (Y (m+2)) [1,1,1,1,0,1,0,1,1,1,0,1,1,0] (k+1) ⟨[(0,.ptr R 0),(4,.int .i64 (Int.ofNat i))],[],.none,x⟩ e ⟨Γ,[],.none,y⟩/\
   ((e=.exit 3/\Γ=[(0,.ptr R 0)]/\mX (mY ns i) (ns.drop i)=true)\/(e=.ret/\Γ=[(2,.bool false)]/\mX (mY ns i) (ns.drop i)=false))/\Ext B h y
 |0,i,x,ax,hi,aU,ad=>by
  obtain rfl:i=ns.length:=by omega
  rw[List.drop_of_length_le (Nat.le_refl _)]
  have eR:=(ad.get R gq).trans au
  exact⟨_,_,_,.exit (VI (Y (m+2)) R _ ns.length bk x (ar eR rfl) aM.q9 (dY (by omega))) (by simp),.inl ⟨rfl,rfl,by rw[mX]⟩,ad⟩
 |k+1,i,x,ax,hi,aU,ad=>by
  have ab:i<ns.length:=by omega
  have eR:=(ad.get R gq).trans au
  have al:=ad.hW (k:=32)
  have hn:=(al.get R gq).trans au
  rcases aM.strs with⟨_,rfl⟩|⟨b,off,aH,rfl,fg,ij⟩
  · simp at ab
  have aF:av (x.room 32) b (off+i*1)=some (.str ns[i]):=(lX al fg).trans (ij i ab)
  rw[List.drop_eq_getElem_cons ab,mX]
  have c1:=UT m ns[i] (x.room 32)
  cases hf:jb ns[i] with
  |false=>
   rw[hf] at c1
   exact⟨_,_,_,.exit (VM (Y (m+2)) R b off ns.length i (off+i*1) 0 0 0 ns[i] [] false aH x (x.room 32) x (ar eR rfl) (du ab) (ar hn rfl) ⟨ab,rfl⟩ aF c1) (by simp),.inr ⟨rfl,rfl,by rw[Bool.false_and]⟩,al⟩
  |true=>
   rw[hf] at c1
   have wK:mY ns (i+1)=some ns[i]:=by
    show ns[i]? =_
    exact List.getElem?_eq_getElem ab
   have kL:∀q,mY ns (i+1)=some q->jb q=true:=λq aS=>by
    rw[wK] at aS
    obtain rfl:=Option.some.inj aS
    exact hf
   cases i with
   |zero=>
    obtain⟨e,Γ,y,bK,bQ,dW⟩:=FO (m:=m) gq au aM hlen k 1 (x.room 32) (by omega) (by omega) kL al
    refine⟨e,Γ,y,.step (wJ (FM (Y (m+2)) R 0 x ⟨b,off,_,aH,ar eR rfl,ab,b,off,_,aH,ar hn rfl,ab,_,aF,_,c1,λah=>absurd ah (by omega),λ_=>⟨by omega,rfl,rfl⟩⟩)) bK,?_,dW⟩
    rw[wK] at bQ
    rw[Bool.true_and,show mY ns 0=none from rfl,nD,Bool.true_and]
    exact bQ
   |succ i=>
    have ae:i<ns.length:=by omega
    have B1:mY ns (i+1)=some ns[i]:=by
     show ns[i]? =_
     exact List.getElem?_eq_getElem ae
    have kW:=KQ (aU _ B1)
    have aG:av (x.room 32) b (off+i*1)=some (.str ns[i]):=(lX al fg).trans (ij i ae)
    obtain⟨g,c2,c3⟩:=Ls (m+1) ns[i] ns[i+1] B (x.room 32) (by omega)
    have ra:=al.trans (Nat.le_refl _) c3
    have iV:arith BinOp.sub IntKind.i64 (Int.ofNat (i+1)) (Int.ofNat 1)=some (.int .i64 (Int.ofNat i)):=nu (by omega) (by omega)
    rw[B1,nD,Bool.true_and]
    cases ai:en ns[i] ns[i+1] with
    |true=>
     rw[ai] at c2
     obtain⟨e,Γ,y,bK,bQ,dW⟩:=FO (m:=m) gq au aM hlen k (i+1+1) g (by omega) (by omega) kL ra
     refine⟨e,Γ,y,.step (wJ (FM (Y (m+2)) R (i+1) x ⟨b,off,_,aH,ar eR rfl,ab,b,off,_,aH,ar hn rfl,ab,_,aF,_,c1,λ_=>⟨b,off,_,aH,ar hn rfl,⟨by omega,by omega⟩,ae,_,aG,b,off,_,aH,ar hn rfl,ab,_,aF,_,g,c2,λ_=>⟨by omega,rfl,rfl⟩,λah=>(by cases ah)⟩,λah=>absurd ah (by omega)⟩)) bK,?_,dW⟩
     rw[wK] at bQ
     rw[Bool.true_and]
     exact bQ
    |false=>
     rw[ai] at c2
     exact⟨_,[(2,.bool false)],_,.exit (cD.post (wJ (FM (Y (m+2)) R (i+1) x ⟨b,off,_,aH,ar eR rfl,ab,b,off,_,aH,ar hn rfl,ab,_,aF,_,c1,λ_=>⟨b,off,_,aH,ar hn rfl,⟨by omega,by omega⟩,ae,_,aG,b,off,_,aH,ar hn rfl,ab,_,aF,_,g,c2,λah=>(by cases ah),λ_=>⟨rfl,rfl⟩⟩,λah=>absurd ah (by omega)⟩)) ⟨rfl,trivial⟩) (by simp),.inr ⟨rfl,rfl,by rw[Bool.false_and]⟩,ra⟩
end Go.Proofs.cT
namespace Go.Proofs.cT
open Go aC Go.Proofs dD
set_option maxRecDepth 100000
set_option maxHeartbeats 1000000
theorem dI.kind{B:Nat}{h:aa}:∀{t:a_} {v:J},dI B h t v->∃M,v=.ptr M 0/\∀x,Ext B h x->av x M (0+0)=some (.int .i64 (Int.ofNat t.k))
 |.mk dG eJ h8 lx oc,v,bh=>by
  obtain⟨M,_,_,_,_,_,_,_,aF,aG,bJ,_⟩:=bh
  exact⟨M,aF,λx kM=>ar ((kM.get M aG).trans bJ) rfl⟩
theorem Lx(p:Option bc)(k:Nat)(fG:List Nat)(w:bc)(ws:List bc):pd p (k::fG) (w::ws)=((decide (k≠9)&&decide (k≠1))&&(nD p w&&pd (some w) fG ws)):=by rw[pd]
theorem FP{m B R:Nat}{h:aa}{kd s0 bk a6 cZ:J}{bN:eE}{lo up:Nat}{xs:List a_}{vs:List J}{ws:List bc}(gq:R<B)(au:h.get R=some (.cells [kd,s0,bk,a6,cZ] 51 bN lo up))(aJ:da B h a6 vs)(y6:dU B h xs vs)(lO:ws.length=vs.length)(hlen:vs.length<=90000)(FQ:∀i (hi:i<ws.length),ws[i].length<=90000)(bt:y0 (m+1) B h vs ws):∀(k i:Nat) (x:aa),vs.length-i=k->i<=vs.length->Ext B h x->
  ∃e Γ y,ev Tryz.prog Tryz.f91 none (Y (m+1)) [1,1,1,1,0,1,0,1,1,1,1,1,1,1,0,0,1,0] (k+1) ⟨[(0,.ptr R 0),(5,.int .i64 (Int.ofNat i))],[],.none,x⟩ e ⟨Γ,[],.none,y⟩/\
   ((e=.exit 5/\Γ=[(0,.ptr R 0)]/\pd (mY ws i) ((xs.map a_.k).drop i) (ws.drop i)=true)\/(e=.ret/\Γ=[(2,.bool false)]/\pd (mY ws i) ((xs.map a_.k).drop i) (ws.drop i)=false))/\Ext B h y
 |0,i,x,ax,hi,ad=>by
  obtain rfl:i=vs.length:=by omega
  rw[List.drop_of_length_le (l:=ws) (by omega)]
  have eR:=(ad.get R gq).trans au
  refine⟨_,_,_,.exit (VJ (Y (m+1)) R _ vs.length a6 x (ar eR rfl) aJ.m0 (dY (by omega))) (by simp),.inl ⟨rfl,rfl,?_⟩,ad⟩
  cases (xs.map a_.k).drop vs.length<;>(rw[pd];all_goals simp)
 |k+1,i,x,ax,hi,ad=>by
  have h9:=dU.len y6
  have ab:i<vs.length:=by omega
  have aB:i<ws.length:=by omega
  have aP:i<xs.length:=by omega
  have cg:i<(xs.map a_.k).length:=by rw[List.length_map];exact aP
  have eR:=(ad.get R gq).trans au
  have al:=ad.hW (k:=31)
  have hn:=(al.get R gq).trans au
  obtain⟨M,g6,re⟩:=(dU.get y6 i ab aP).kind
  have qk:=re x ad
  have B2:=aJ
  rcases aJ with⟨_,rfl⟩|⟨b,off,aH,rfl,fg,ij,lE⟩
  · simp at ab
  have aF:av x b (off+i*1)=some (.ptr M 0):=by rw[<-g6];exact(lX ad fg).trans (ij i ab)
  have lZ:av (x.room 31) b (off+i*1)=some (.ptr M 0):=by rw[<-g6];exact(lX al fg).trans (ij i ab)
  have y3:(xs.map a_.k)[i]=(xs[i]).k:=List.getElem_map a_.k
  rw[List.drop_eq_getElem_cons cg,List.drop_eq_getElem_cons aB,Lx,y3]
  by_cases g5:(xs[i]).k=9
  · exact⟨_,_,_,.exit (VN (Y (m+1)) R b off vs.length i (off+i*1) 0 0 0 M _ .bb [] [] false aH x x x x (ar eR rfl) (du ab) ⟨ab,rfl⟩ aF qk (nv g5)) (by simp),.inr ⟨rfl,rfl,by simp[g5]⟩,al⟩
  by_cases bx:(xs[i]).k=1
  · exact⟨_,_,_,.exit (VO (Y (m+1)) R b off vs.length i (off+i*1) 0 0 0 M _ .bb [] [] false aH x x x x (ar eR rfl) (du ab) ⟨ab,rfl⟩ aF qk (jX g5) (nv bx)) (by simp),.inr ⟨rfl,rfl,by simp[bx]⟩,al⟩
  have wK:mY ws (i+1)=some ws[i]:=by
   show ws[i]? =_
   exact List.getElem?_eq_getElem aB
  rw[show(decide ((xs[i]).k≠9)&&decide ((xs[i]).k≠1))=true by simp[g5,bx],Bool.true_and]
  cases i with
  |zero=>
   obtain⟨e,Γ,y,bK,bQ,dW⟩:=FP (m:=m) gq au B2 y6 lO hlen FQ bt k 1 (x.room 31) (by omega) (by omega) al
   refine⟨e,Γ,y,.step (wJ (FN (Y (m+1)) R 0 x ⟨b,off,_,aH,ar eR rfl,ab,b,off,_,aH,ar eR rfl,ab,_,aF,_,qk,λah=>absurd ah g5,λ_=>⟨λah=>absurd ah bx,λ_=>⟨λah=>absurd ah (by omega),λ_=>⟨by omega,rfl,rfl⟩⟩⟩⟩)) bK,?_,dW⟩
   rw[wK] at bQ
   rw[show mY ws 0=none from rfl,nD,Bool.true_and]
   exact bQ
  |succ i=>
   have hG:i<vs.length:=by omega
   have qi:i<ws.length:=by omega
   have vB:i<xs.length:=by omega
   have B1:mY ws (i+1)=some ws[i]:=by
    show ws[i]? =_
    exact List.getElem?_eq_getElem qi
   have k1:=dU.get y6 i hG vB
   have aG:av (x.room 31) b (off+i*1)=some vs[i]:=(lX al fg).trans (ij i hG)
   obtain⟨g,c1,bw⟩:=bt i hG qi (x.room 31) al
   have cl:=al.trans (Nat.le_refl _) bw
   have y1:=(cl.get R gq).trans au
   have wL:av g b (off+(i+1)*1)=some (.ptr M 0):=by rw[<-g6];exact(lX cl fg).trans (ij (i+1) ab)
   obtain⟨ak,c2,bM⟩:=bt (i+1) ab aB g cl
   rw[g6] at c2
   have k7:=cl.trans (Nat.le_refl _) bM
   obtain⟨aQ,c3,dT⟩:=Ls m ws[i] ws[i+1] B ak (FQ i qi)
   have gQ:=k7.trans (Nat.le_refl _) dT
   have iV:arith BinOp.sub IntKind.i64 (Int.ofNat (i+1)) (Int.ofNat 1)=some (.int .i64 (Int.ofNat i)):=nu (by omega) (by omega)
   rw[B1,nD]
   cases ai:en ws[i] ws[i+1] with
   |true=>
    rw[ai] at c3
    obtain⟨e,Γ,y,bK,bQ,dW⟩:=FP (m:=m) gq au B2 y6 lO hlen FQ bt k (i+1+1) aQ (by omega) (by omega) gQ
    refine⟨e,Γ,y,.step (wJ (FN (Y (m+1)) R (i+1) x ⟨b,off,_,aH,ar eR rfl,ab,b,off,_,aH,ar eR rfl,ab,_,aF,_,qk,λah=>absurd ah g5,λ_=>⟨λah=>absurd ah bx,λ_=>⟨λ_=>⟨b,off,_,aH,ar hn rfl,⟨by omega,by omega⟩,hG,_,aG,_,g,c1,b,off,_,aH,ar y1 rfl,ab,_,wL,_,ak,c2,_,aQ,c3,k1.snd,ar hn rfl,lZ,λ_=>⟨by omega,rfl,rfl⟩,λah=>(by cases ah)⟩,λah=>absurd ah (by omega)⟩⟩⟩)) bK,?_,dW⟩
    rw[wK] at bQ
    rw[Bool.true_and]
    exact bQ
   |false=>
    rw[ai] at c3
    exact⟨_,[(2,.bool false)],_,.exit (cD.post (wJ (FN (Y (m+1)) R (i+1) x ⟨b,off,_,aH,ar eR rfl,ab,b,off,_,aH,ar eR rfl,ab,_,aF,_,qk,λah=>absurd ah g5,λ_=>⟨λah=>absurd ah bx,λ_=>⟨λ_=>⟨b,off,_,aH,ar hn rfl,⟨by omega,by omega⟩,hG,_,aG,_,g,c1,b,off,_,aH,ar y1 rfl,ab,_,wL,_,ak,c2,_,aQ,c3,k1.snd,ar hn rfl,lZ,λah=>(by cases ah),λ_=>⟨rfl,rfl⟩⟩,λah=>absurd ah (by omega)⟩⟩⟩)) ⟨rfl,trivial⟩) (by simp),.inr ⟨rfl,rfl,by rw[Bool.false_and]⟩,gQ⟩
end Go.Proofs.cT
namespace Go.Proofs.cT
open Go aC Go.Proofs dD
set_option maxRecDepth 100000
set_option maxHeartbeats 1000000
abbrev VS(m B:Nat)(h:aa)(xs:List a_)(vs:List J):Prop:=∀i (ab:i<vs.length) (ae:i<xs.length) x,Ext B h x->∃an,Y m (.fn 91) [vs[i]] x=.ret (.bool (e9 xs[i])) an/\Ext B x an
theorem Ly{m B R:Nat}{h:aa}{kd s0 bk a6 cZ:J}{bN:eE}{lo up:Nat}{xs:List a_}{vs:List J}(gq:R<B)(au:h.get R=some (.cells [kd,s0,bk,a6,cZ] 51 bN lo up))(aJ:da B h a6 vs)(h9:vs.length=xs.length)(hlen:vs.length<=90000)(bt:VS m B h xs vs):∀(k i:Nat) (x:aa),vs.length-i=k->i<=vs.length->Ext B h x->
  ∃e Γ y,ev Tryz.prog Tryz.f91 none (Y m) [1,1,1,0,1,0] (k+1) ⟨[(0,.ptr R 0),(3,.int .i64 (Int.ofNat i))],[],.none,x⟩ e ⟨Γ,[],.none,y⟩/\
   ((e=.exit 0/\Γ=[(0,.ptr R 0)]/\hk (xs.drop i)=true)\/(e=.ret/\Γ=[(2,.bool false)]/\hk (xs.drop i)=false))/\Ext B h y
 |0,i,x,ax,hi,ad=>by
  obtain rfl:i=vs.length:=by omega
  rw[List.drop_of_length_le (by omega)]
  have eR:=(ad.get R gq).trans au
  exact⟨_,_,_,.exit (Vv (Y m) R _ vs.length a6 x (ar eR rfl) aJ.m0 (dY (by omega))) (by simp),.inl ⟨rfl,rfl,by rw[hk]⟩,ad⟩
 |k+1,i,x,ax,hi,ad=>by
  have ab:i<vs.length:=by omega
  have aP:i<xs.length:=by omega
  have eR:=(ad.get R gq).trans au
  have B2:=aJ
  rcases aJ with⟨_,rfl⟩|⟨b,off,aH,rfl,fg,ij,lE⟩
  · simp at ab
  have aF:av x b (off+i*1)=some vs[i]:=(lX ad fg).trans (ij i ab)
  obtain⟨g,c1,bw⟩:=bt i ab aP x ad
  have cl:=ad.trans (Nat.le_refl _) bw
  rw[List.drop_eq_getElem_cons aP,hk]
  cases ai:e9 xs[i] with
  |true=>
   rw[ai] at c1
   obtain⟨e,Γ,y,bK,bQ,dW⟩:=Ly gq au B2 h9 hlen bt k (i+1) g (by omega) (by omega) cl
   refine⟨e,Γ,y,.step (Vx (Y m) R b off vs.length i (off+i*1) (i+1) true vs[i] aH x g (ar eR rfl) (du ab) ⟨ab,rfl⟩ aF c1 rfl (ki ab (by omega))) bK,?_,dW⟩
   rw[Bool.true_and];exact bQ
  |false=>
   rw[ai] at c1
   exact⟨_,[(2,.bool false)],_,.exit (cD.post (Vw (Y m) R b off vs.length i (off+i*1) 0 false vs[i] aH x g (ar eR rfl) (du ab) ⟨ab,rfl⟩ aF c1 rfl) ⟨rfl,trivial⟩) (by simp),.inr ⟨rfl,rfl,by rw[Bool.false_and]⟩,cl⟩
end Go.Proofs.cT
namespace Go.Proofs.cT
open Go aC Go.Proofs dD
set_option maxRecDepth 100000
set_option maxHeartbeats 1000000
theorem Lz(y7:∀u,e9 u=true->okW u=true/\(wr u).length<=300*sz u):∀(K:Nat) (t:a_),sz t<=K->sz t<=100->iH t<=90000->∀(m B:Nat) (h:aa) (v:J),sz t+4<=m->B<=h.n->dI B h t v->∃an,Y m (.fn 91) [v] h=.ret (.bool (e9 t)) an/\Ext B h an
 |0,t,eg,_,_,_,_,_,_,_,_,_=>by
  have:=sD t
  omega
 |K+1,.mk k b8 ns xs rt,eg,gz,pU,m,B,h,v,hm,b4,aJ=>by
  obtain⟨R,bk,a6,cZ,vs,bN,lo,up,rfl,ae,aB,aP,cg,dN,fE⟩:=aJ
  rw[uB] at eg gz hm
  rw[iH] at pU
  obtain⟨m,rfl⟩:∃j,m=j+3:=⟨m-3,by omega⟩
  have h9:=dU.len dN
  have mF:=pb xs
  have lO:=wv xs
  have y8:e9 (.mk k b8 ns xs rt)=((decide (1<=k)&&decide (k<=9))&&(k4 k b8 ns.length xs.length rt.isSome&&(hk xs&&gR k b8 ns (xs.map a_.k) (cR xs) xs.length (jZ rt)))):=by rw[e9]
  have fin:∀b y,aw Tryz.prog Tryz.f91 none (Y (m+2)) [1] ⟨[(0,.ptr R 0)],[],.none,h⟩ .ret ⟨[(2,.bool b)],[],.none,y⟩->b=e9 (.mk k b8 ns xs rt)->Ext B h y->∃an,Y (m+3) (.fn 91) [.ptr R 0] h=.ret (.bool (e9 (.mk k b8 ns xs rt))) an/\Ext B h an:=λb y al ag ad=>by
   rw[<-ag]
   exact⟨y,dn (intr:=cj) (n:=m+2) (args:=[.ptr R 0]) Tryz.func91 (by kernel_rfl) rfl (by kernel_rfl) (aw.seq (p:=[]) (by kernel_rfl) (Vn (Y (m+2)) (.ptr R 0) h) al) (.inl rfl) (by kernel_rfl),ad⟩
  rw[y8] at fin
  rw[y8]
  by_cases bx:k<1
  · exact fin false h (aw.fW (p:=[1]) (by kernel_rfl) (cD.post (Vo (Y (m+2)) R 0 h k (ar aB rfl) (du bx)) ⟨rfl,trivial⟩) (by simp)) (by simp;omega) (Ext.refl _ _)
  by_cases g5:9<k
  · exact fin false h (aw.fW (p:=[1]) (by kernel_rfl) (cD.post (Vp (Y (m+2)) R 0 h k (ar aB rfl) (dY bx) (du g5)) ⟨rfl,trivial⟩) (by simp)) (by simp;omega) (Ext.refl _ _)
  have s1:=Vq (Y (m+2)) R 0 h k (ar aB rfl) (dY bx) (dY g5)
  have FR:(decide (1<=k)&&decide (k<=9))=true:=by simp;omega
  rw[FR] at fin⊢
  simp only[Bool.true_and] at fin⊢
  have lC:Ext B h (h.room 54):=Ext.room B h 54
  have LA:B<=(h.room 54).n:=Nat.le_trans b4 lC.n
  have au:=(lC.get R ae).trans aB
  have oe:=gE.ext lC (Nat.le_refl _)
  have cn:=aP.b0 oe
  have cz:=cg.b0 oe
  have cV:=dU.b0 oe _ _ dN
  have ej:=dE.b0 oe _ _ fE
  have dB:if k4 k b8 ns.length vs.length rt.isSome=true then aw Tryz.prog Tryz.f91 none (Y (m+2)) [1,1,0] ⟨[(0,.ptr R 0)],[],.none,h⟩ .nrm ⟨[(0,.ptr R 0)],[],.none,h.room 54⟩
    else aw Tryz.prog Tryz.f91 none (Y (m+2)) [1,1,0] ⟨[(0,.ptr R 0)],[],.none,h⟩ .ret ⟨[(2,.bool false)],[],.none,h.room 54⟩:=by
   cases rt with
   |none=>
    obtain rfl:cZ=.bb:=fE
    exact Vu aB aP.q9 cg.m0 aP.snd cg.snd
   |some u=>
    cases u with
    |mk dG eJ h8 lx oc=>
     obtain⟨W,_,_,_,_,_,_,_,rfl,_⟩:=fE
     exact Vt aB aP.q9 cg.m0 aP.snd cg.snd
  rw[h9] at dB
  cases kW:k4 k b8 ns.length xs.length rt.isSome with
  |false=>
   rw[if_neg (by rw[kW];simp)] at dB
   rw[kW] at fin
   exact fin false _ (aw.seq (p:=[1]) (by kernel_rfl) s1 (aw.fW (p:=[1,1]) (by kernel_rfl) dB (by simp))) rfl lC
  |true=>
   rw[if_pos kW] at dB
   rw[kW] at fin
   simp only[Bool.true_and] at fin⊢
   have bt:∀(u:a_),sz u<=K->sz u<=100->iH u<=90000->∀(m B:Nat) (h:aa) (v:J),sz u+4<=m->B<=h.n->dI B h u v->∃an,Y m (.fn 91) [v] h=.ret (.bool (e9 u)) an/\Ext B h an:=Lz y7 K
   obtain⟨e,Γ,y,bK,bQ,dW⟩:=Ly (m:=m+2) (xs:=xs) ae au cz h9 (by omega) (λi i1 i2 x ad=>by
    have nh:=pa (List.getElem_mem i2)
    have qQ:=BM (List.getElem_mem i2)
    exact bt xs[i] (by omega) (by omega) (by omega) (m+2) B x vs[i] (by omega) (Nat.le_trans LA ad.n) (dI.b0 (gE.ext ad (Nat.le_refl _)) _ _ (dU.get cV i i1 i2))) vs.length 0 (h.room 54) (by omega) (by omega) (Ext.refl _ _)
   have mj:=ev.run (p:=[1,1,1,0,1,0]) (by kernel_rfl) bK (by omega)
   rw[List.drop_zero] at bQ
   rcases bQ with⟨rfl,rfl,jc⟩|⟨rfl,rfl,jc⟩
   · rw[jc] at fin
     simp only[Bool.true_and] at fin⊢
     have cO:=aw.seq (p:=[1,1,1,0]) (by kernel_rfl) (Lw (Y (m+2)) R (h.room 54)) (aw.block (p:=[1,1,1,0,1]) (id:=0) (by kernel_rfl) mj)
     have hn:=(dW.get R ae).trans au
     have LB:=lC.trans (Nat.le_refl _) dW
     have B3:=gE.ext dW (Nat.le_refl _)
     have LC:=cn.b0 B3
     have FT:=cz.b0 B3
     have LD:=dU.b0 B3 _ _ cV
     have VT:=dE.b0 B3 _ _ ej
     have uJ:B<=y.n:=Nat.le_trans LA dW.n
     have y2:=Vy (Y (m+2)) R k y (ar hn rfl)
     have wM:∀b z,aw Tryz.prog Tryz.f91 none (Y (m+2)) [1,1,1,1,0,1] ⟨[(0,.ptr R 0),(98,.int .i64 (Int.ofNat k))],[],.none,y⟩ .ret ⟨[(2,.bool b)],[],.none,z⟩->b=gR k b8 ns (xs.map a_.k) (cR xs) xs.length (jZ rt)->Ext B y z->∃an,Y (m+3) (.fn 91) [.ptr R 0] h=.ret (.bool (hk xs&&gR k b8 ns (xs.map a_.k) (cR xs) xs.length (jZ rt))) an/\Ext B h an:=λb z al ag ad=>by
      rw[jc,Bool.true_and]
      exact fin b z (aw.seq (p:=[1]) (by kernel_rfl) s1 (aw.seq (p:=[1,1]) (by kernel_rfl) dB (aw.seq (p:=[1,1,1]) (by kernel_rfl) cO (aw.fW (p:=[1,1,1,1]) (by kernel_rfl) (aw.seq (p:=[1,1,1,1,0]) (by kernel_rfl) y2 al) (by simp))))) ag (LB.trans (Nat.le_refl _) ad)
     have LF:∀z,aw Tryz.prog Tryz.f91 none (Y (m+2)) [1,1,1,1,0,1] ⟨[(0,.ptr R 0),(98,.int .i64 (Int.ofNat k))],[],.none,y⟩ .nrm ⟨[(0,.ptr R 0)],[],.none,z⟩->gR k b8 ns (xs.map a_.k) (cR xs) xs.length (jZ rt)=true->Ext B y z->∃an,Y (m+3) (.fn 91) [.ptr R 0] h=.ret (.bool (hk xs&&gR k b8 ns (xs.map a_.k) (cR xs) xs.length (jZ rt))) an/\Ext B h an:=λz al ag ad=>by
      rw[jc,Bool.true_and]
      exact fin true z (aw.seq (p:=[1]) (by kernel_rfl) s1 (aw.seq (p:=[1,1]) (by kernel_rfl) dB (aw.seq (p:=[1,1,1]) (by kernel_rfl) cO (aw.seq (p:=[1,1,1,1]) (by kernel_rfl) (cD.post (Γ2:=[]) (aw.seq (p:=[1,1,1,1,0]) (by kernel_rfl) y2 al) trivial) (VH (Y (m+2)) z))))) ag.symm (LB.trans (Nat.le_refl _) ad)
     have nh:∀i (i2:i<xs.length),e9 xs[i]=true:=λi i2=>BO jc (List.getElem_mem i2)
     by_cases dL:k=6
     · subst dL
       exact wM (mi b8) y (Vz (Y (m+2)) R b8 _ y y (ar hn rfl) (UW m b8 y)) (by simp[gR]) (Ext.refl _ _)
     by_cases dz:k=7
     · subst dz
       have uK:gR 7 b8 ns (xs.map a_.k) (cR xs) xs.length (jZ rt)=(decide (ns.length=xs.length)&&mX none ns):=by simp[gR]
       have B4:Ext B y (y.room 11):=Ext.room B y 11
       have kj:=(B4.get R ae).trans hn
       have LG:=gE.ext B4 (Nat.le_refl _)
       have ht:=LC.b0 LG
       have hY:=FT.b0 LG
       by_cases aM:ns.length=vs.length
       · obtain⟨e,Γ,z,aY,aR,bW⟩:=FO (m:=m) ae hn LC (by omega) ns.length 0 (y.room 11) (by omega) (by omega) (λq aS=>by cases aS) B4
         have eu:=ev.run (p:=[1,1,1,1,0,1,0,1,1,1,0,1,1,0]) (by kernel_rfl) aY (by omega)
         rw[List.drop_zero,show mY ns 0=none from rfl] at aR
         rcases aR with⟨rfl,rfl,iD⟩|⟨rfl,rfl,iD⟩
         · exact LF z (VB (Y (m+2)) R ns.length vs.length bk a6 y z (ar kj rfl) ht.q9 (ar kj rfl) hY.m0 ht.snd hY.snd (BR aM) (cD.pre eu ⟨rfl,rfl,trivial⟩ rfl rfl rfl)) (by rw[uK,iD];simp;omega) bW
         · exact wM false z (VC (Y (m+2)) R ns.length vs.length bk a6 y z (ar kj rfl) ht.q9 (ar kj rfl) hY.m0 ht.snd hY.snd (BR aM) (cD.pre eu ⟨rfl,rfl,trivial⟩ rfl rfl rfl)) (by rw[uK,iD];simp) bW
       · exact wM false _ (VA (Y (m+2)) R ns.length vs.length bk a6 y (ar kj rfl) ht.q9 (ar kj rfl) hY.m0 ht.snd hY.snd (Ft aM)) (by rw[uK];simp;omega) B4
     by_cases dX:k=8
     · subst dX
       cases rt with
       |none=>simp[k4] at kW
       |some u=>
        rw[lW] at eg gz hm
        rw[q6] at pU
        obtain⟨z,c1,c2⟩:=bt u (by omega) (by omega) (by omega) (m+2) B y cZ (by omega) uJ VT
        exact wM (e9 u) z (VD (Y (m+2)) R cZ _ y z (ar hn rfl) c1) (by simp[gR,jZ]) c2
     by_cases fb:k=9
     · subst fb
       have wN:gR 9 b8 ns (xs.map a_.k) (cR xs) xs.length (jZ rt)=(pd none (xs.map a_.k) (cR xs)&&decide (2<=xs.length)):=by simp[gR]
       have LH:∀i (hi:i<(cR xs).length),(cR xs)[i].length<=90000:=λi hi=>by
        have i2:i<xs.length:=by omega
        have bj:=pa (List.getElem_mem i2)
        have aU:=(y7 xs[i] (nh i i2)).2
        rw[wx xs i i2 hi]
        omega
       obtain⟨e,Γ,z,aY,aR,bW⟩:=FP (m:=m+1) (ws:=cR xs) ae hn FT LD (by omega) (by omega) LH (λi i1 i2 x ad=>by
        have i3:i<xs.length:=by omega
        have bj:=pa (List.getElem_mem i3)
        have ag:=LH i i2
        rw[wx xs i i3 i2] at ag⊢
        exact FJ K xs[i] (by omega) (by omega) (y7 xs[i] (nh i i3)).1 (by omega) (m+1+1) B x vs[i] (by omega) (Nat.le_trans uJ ad.n) (dI.b0 (gE.ext ad (Nat.le_refl _)) _ _ (dU.get LD i i1 i3))) vs.length 0 y (by omega) (by omega) (Ext.refl _ _)
       have eu:=ev.run (p:=[1,1,1,1,0,1,0,1,1,1,1,1,1,1,0,0,1,0]) (by kernel_rfl) aY (by omega)
       rw[List.drop_zero,List.drop_zero,show mY (cR xs) 0=none from rfl] at aR
       rcases aR with⟨rfl,rfl,iD⟩|⟨rfl,rfl,iD⟩
       · exact wM (dq (Int.ofNat 2) (Int.ofNat vs.length)) z (VE (Y (m+2)) R vs.length a6 y z (cD.pre eu ⟨rfl,rfl,trivial⟩ rfl rfl rfl) (ar ((bW.get R ae).trans hn) rfl) FT.m0) (by rw[wN,iD,Lm,h9];rfl) bW
       · exact wM false z (VF (Y (m+2)) R y z (cD.pre eu ⟨rfl,rfl,trivial⟩ rfl rfl rfl)) (by rw[wN,iD];rfl) bW
     · exact LF y (VG (Y (m+2)) R k y (jX dL) (jX dz) (jX dX) (jX fb)) (by simp[gR,dL,dz,dX,fb]) (Ext.refl _ _)
   · have cO:=aw.seq (p:=[1,1,1,0]) (by kernel_rfl) (Lw (Y (m+2)) R (h.room 54)) (aw.o5 (p:=[1,1,1,0,1]) (id:=0) (by kernel_rfl) mj (by simp))
     exact fin false y (aw.seq (p:=[1]) (by kernel_rfl) s1 (aw.seq (p:=[1,1]) (by kernel_rfl) dB (aw.fW (p:=[1,1,1]) (by kernel_rfl) cO (by simp)))) (by rw[jc];rfl) (lC.trans (Nat.le_refl _) dW)
end Go.Proofs.cT
namespace Go.Proofs.cT
open Go aC Go.Proofs dD
set_option maxRecDepth 100000
set_option maxHeartbeats 1000000
def l0:Option a_->Nat
 |none=>1
 |some t=>if 60<sz t then 3 else if e9 t=true then 0 else 2
theorem VU{ot:Option a_}{B:Nat}{h:aa}{v:J}(m:Nat)(gz:dy ot<=90000)(aM:∀t,ot=some t->iH t<=90000)(hm:dy ot+4<=m)(b4:B<=h.n)(aJ:dE B h ot v):
  ∃an,Y (m+1) (.fn 78) [v] h=.ret (.int .i64 (Int.ofNat (l0 ot))) an/\Ext B h an:=by
 have fin:∀c y,aw Tryz.prog Tryz.f78 none (Y m) [1] ⟨[(0,v)],[],.none,h⟩ .ret ⟨[(2,.int .i64 (Int.ofNat c))],[],.none,y⟩->c=l0 ot->Ext B h y->∃an,Y (m+1) (.fn 78) [v] h=.ret (.int .i64 (Int.ofNat (l0 ot))) an/\Ext B h an:=λc y al ai ad=>by
  rw[<-ai]
  exact⟨y,dn (intr:=cj) (n:=m) (args:=[v]) Tryz.func78 (by kernel_rfl) rfl (by kernel_rfl) (aw.seq (p:=[]) (by kernel_rfl) (VK (Y m) v h) al) (.inl rfl) (by kernel_rfl),ad⟩
 cases ot with
 |none=>
  obtain rfl:v=.bb:=aJ
  exact fin 1 h (VL (Y m) h) rfl (Ext.refl _ _)
 |some t=>
  have bX:dy (some t)=sz t:=lW t
  obtain⟨m,rfl⟩:∃j,m=j+1:=⟨m-1,by omega⟩
  have c1:=FA (m:=m) gz (by omega) aJ
  rw[bX] at c1 gz hm
  rcases aJ.q7 with rfl|⟨R,rfl⟩
  · cases t with
    |mk bx bI cP dK iw=>obtain⟨R,bk,a6,cZ,vs,bN,lo,up,ad,_⟩:=aJ;cases ad
  by_cases fQ:60<sz t
  · exact fin 3 h (VP (Y (m+1)) R _ false h h h c1 (du (by omega))) (by simp[l0,fQ]) (Ext.refl _ _)
  · obtain⟨y,c2,bM⟩:=Lz Td (sz t) t (Nat.le_refl _) (by omega) (aM t rfl) (m+1) B h (.ptr R 0) (by omega) b4 aJ
    cases B5:e9 t with
    |true=>
     rw[B5] at c2
     exact fin 0 y (VR (Y (m+1)) R _ true h h y c1 (dY (by omega)) c2 rfl) (by simp[l0,fQ,B5]) bM
    |false=>
     rw[B5] at c2
     exact fin 2 y (VQ (Y (m+1)) R _ false h h y c1 (dY (by omega)) c2 rfl) (by simp[l0,fQ,B5]) bM
end Go.Proofs.cT
