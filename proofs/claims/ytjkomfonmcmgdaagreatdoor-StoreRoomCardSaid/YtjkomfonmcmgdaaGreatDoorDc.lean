/-
  PROVED HERE: contracts of functions (Dc). No condition beside each statement's own.
-/
import Derived.Test.YtjkomfonmcmgdaaGreatDoorDb
import Derived.Test.YtjkomfonmcmgdaaGreatDoorTx
set_option linter.unusedVariables false
set_option linter.unusedSimpArgs false
namespace Go.Proofs.cG
open Go aP Go.Proofs c8
set_option maxRecDepth 100000
set_option maxHeartbeats 1000000
theorem V4(call:aI->List I->J->av)(v:I)(h:J):
  aL Tryz.prog Tryz.f53 none call [0] (ah.mk [(0,v)] [] .none h) (.nrm)
   (ah.mk [(0,v)] [] .none h):=
 bI [0] (hs:=[]) (by kernel_rfl)<| .nil
theorem V5(call:aI->List I->J->av)(r k:Nat)(h:J)(fq:Nat)
  (H1:au h r (0+0)=some (.int .i64 (.ofNat fq)))
  (aR:bM (.ofNat fq) (.ofNat 1)=true):
  aL Tryz.prog Tryz.f53 none call [1,0] (ah.mk [(0,.ptr r 0)] [] .none h) (.ret)
   (ah.mk [(0,.ptr r 0),(2,.bool false)] [] .none h):=
 bI [0,2] (hs:=[.v (.bool false),.b false,.b false,.b false,.b false,.v (.int .i64 (.ofNat fq)),.b false,.b false,.b true,.b true,.b true,.b true,.b true,.b true,.b true]) (by kernel_rfl)<| .cons (by kernel_rfl:eJ Tryz.prog h BinOp.eql 35 (Operand.tmp 7) (Operand.const (Value.pointer none)) (I.ptr r 0) I.bb=some (I.bool false))<| .cons (by kernel_rfl:false=false)<| .cons (by kernel_rfl:false=false)<| .cons (by kernel_rfl:false=false)<| .cons (by kernel_rfl:false=false)<| .cons H1<| .cons (by kernel_rfl:false=false)<| .cons (by kernel_rfl:false=false)<| .cons aR<| .cons aR<| .cons aR<| .cons aR<| .cons aR<| .cons aR<| .cons (by kernel_rfl:true=true)<| .nil
theorem V6(call:aI->List I->J->av)(r k:Nat)(h:J)(fq:Nat)
  (H1:au h r (0+0)=some (.int .i64 (.ofNat fq)))
  (aR:bM (.ofNat fq) (.ofNat 1)=false)
  (br:bM (.ofNat 9) (.ofNat fq)=true):
  aL Tryz.prog Tryz.f53 none call [1,0] (ah.mk [(0,.ptr r 0)] [] .none h) (.ret)
   (ah.mk [(0,.ptr r 0),(2,.bool false)] [] .none h):=
 bI [0,2] (hs:=[.v (.bool false),.b false,.b false,.b false,.b false,.v (.int .i64 (.ofNat fq)),.b false,.b false,.b false,.b false,.b false,.b false,.v (.int .i64 (.ofNat fq)),.b false,.b false,.b true]) (by kernel_rfl)<| .cons (by kernel_rfl:eJ Tryz.prog h BinOp.eql 35 (Operand.tmp 7) (Operand.const (Value.pointer none)) (I.ptr r 0) I.bb=some (I.bool false))<| .cons (by kernel_rfl:false=false)<| .cons (by kernel_rfl:false=false)<| .cons (by kernel_rfl:false=false)<| .cons (by kernel_rfl:false=false)<| .cons H1<| .cons (by kernel_rfl:false=false)<| .cons (by kernel_rfl:false=false)<| .cons aR<| .cons aR<| .cons aR<| .cons aR<| .cons H1<| .cons aR<| .cons aR<| .cons br<| .nil
theorem V7(call:aI->List I->J->av)(r k:Nat)(h:J)(fq:Nat)
  (H1:au h r (0+0)=some (.int .i64 (.ofNat fq)))
  (aR:bM (.ofNat fq) (.ofNat 1)=false)
  (br:bM (.ofNat 9) (.ofNat fq)=false):
  aL Tryz.prog Tryz.f53 none call [1,0] (ah.mk [(0,.ptr r 0)] [] .none h) (.nrm)
   (ah.mk [(0,.ptr r 0)] [] .none h):=
 bI [0,2] (hs:=[.v (.bool false),.b false,.b false,.b false,.b false,.v (.int .i64 (.ofNat fq)),.b false,.b false,.b false,.b false,.b false,.b false,.v (.int .i64 (.ofNat fq)),.b false,.b false,.b false]) (by kernel_rfl)<| .cons (by kernel_rfl:eJ Tryz.prog h BinOp.eql 35 (Operand.tmp 7) (Operand.const (Value.pointer none)) (I.ptr r 0) I.bb=some (I.bool false))<| .cons (by kernel_rfl:false=false)<| .cons (by kernel_rfl:false=false)<| .cons (by kernel_rfl:false=false)<| .cons (by kernel_rfl:false=false)<| .cons H1<| .cons (by kernel_rfl:false=false)<| .cons (by kernel_rfl:false=false)<| .cons aR<| .cons aR<| .cons aR<| .cons aR<| .cons H1<| .cons aR<| .cons aR<| .cons br<| .nil
theorem V8(call:aI->List I->J->av)(r:Nat)(h:J){Q:bn->ah->Prop}(H:∃s1:List UInt8,au (h.room 54) r (0+1)=some (.str s1)/\∃aD:Nat,au (h.room 54) r (0+0)=some (.int .i64 (.ofNat aD))/\(e0 (!dK s1 []) (a_ (.ofNat aD) (.ofNat 6))=true->∃v1:I,au (h.room 54) r (0+2)=some v1/\∃bj:Nat,cc Tryz.prog (h.room 54) 63 v1=some (.int .i64 (.ofNat bj))/\(0<bj->∃bD:Nat,au (h.room 54) r (0+0)=some (.int .i64 (.ofNat bD))/\(bD=7->∃v2:I,au (h.room 54) r (0+3)=some v2/\∃bT:Nat,cc Tryz.prog (h.room 54) 50 v2=some (.int .i64 (.ofNat bT))/\(0<bT->∃b5:Nat,au (h.room 54) r (0+0)=some (.int .i64 (.ofNat b5))/\(b5<7->I.sound v1=true/\I.sound v2=true/\Q .ret (ah.mk [(0,.ptr r 0),(2,.bool false)] [] .none (h.room 54)))/\(¬b5<7->∃cx:Nat,au (h.room 54) r (0+4)=some (.ptr cx 0)/\∃da:Nat,au (h.room 54) r (0+0)=some (.int .i64 (.ofNat da))/\I.sound v1=true/\I.sound v2=true/\(e0 true (a_ (.ofNat da) (.ofNat 8))=true->Q .nrm (ah.mk [(0,.ptr r 0)] [] .none (h.room 54)))/\(e0 true (a_ (.ofNat da) (.ofNat 8))=false->Q .ret (ah.mk [(0,.ptr r 0),(2,.bool false)] [] .none (h.room 54)))))/\(¬0<bT->∃et:Nat,au (h.room 54) r (0+4)=some (.ptr et 0)/\∃eO:Nat,au (h.room 54) r (0+0)=some (.int .i64 (.ofNat eO))/\I.sound v1=true/\I.sound v2=true/\(e0 true (a_ (.ofNat eO) (.ofNat 8))=true->Q .nrm (ah.mk [(0,.ptr r 0)] [] .none (h.room 54)))/\(e0 true (a_ (.ofNat eO) (.ofNat 8))=false->Q .ret (ah.mk [(0,.ptr r 0),(2,.bool false)] [] .none (h.room 54)))))/\(¬bD=7->I.sound v1=true/\Q .ret (ah.mk [(0,.ptr r 0),(2,.bool false)] [] .none (h.room 54))))/\(¬0<bj->∃dc:I,au (h.room 54) r (0+3)=some dc/\∃gf:Nat,cc Tryz.prog (h.room 54) 50 dc=some (.int .i64 (.ofNat gf))/\(0<gf->∃iP:Nat,au (h.room 54) r (0+0)=some (.int .i64 (.ofNat iP))/\(iP<7->I.sound v1=true/\I.sound dc=true/\Q .ret (ah.mk [(0,.ptr r 0),(2,.bool false)] [] .none (h.room 54)))/\(¬iP<7->∃jz:Nat,au (h.room 54) r (0+4)=some (.ptr jz 0)/\∃kj:Nat,au (h.room 54) r (0+0)=some (.int .i64 (.ofNat kj))/\I.sound v1=true/\I.sound dc=true/\(e0 true (a_ (.ofNat kj) (.ofNat 8))=true->Q .nrm (ah.mk [(0,.ptr r 0)] [] .none (h.room 54)))/\(e0 true (a_ (.ofNat kj) (.ofNat 8))=false->Q .ret (ah.mk [(0,.ptr r 0),(2,.bool false)] [] .none (h.room 54)))))/\(¬0<gf->∃pW:Nat,au (h.room 54) r (0+4)=some (.ptr pW 0)/\∃nW:Nat,au (h.room 54) r (0+0)=some (.int .i64 (.ofNat nW))/\I.sound v1=true/\I.sound dc=true/\(e0 true (a_ (.ofNat nW) (.ofNat 8))=true->Q .nrm (ah.mk [(0,.ptr r 0)] [] .none (h.room 54)))/\(e0 true (a_ (.ofNat nW) (.ofNat 8))=false->Q .ret (ah.mk [(0,.ptr r 0),(2,.bool false)] [] .none (h.room 54))))))/\(e0 (!dK s1 []) (a_ (.ofNat aD) (.ofNat 6))=false->Q .ret (ah.mk [(0,.ptr r 0),(2,.bool false)] [] .none (h.room 54)))):
  a3 Tryz.prog Tryz.f53 call [1,1,0] ⟨[(0,.ptr r 0)],[],.none,h⟩ Q:=
 dB [] [0,2] [(0,.v (.ptr r 0))] rfl (Eq.mp (by kernel_rfl) H)
theorem V9(call:aI->List I->J->av)(r:Nat)(h:J){Q:bn->ah->Prop}(H:∃s1:List UInt8,au (h.room 54) r (0+1)=some (.str s1)/\∃aD:Nat,au (h.room 54) r (0+0)=some (.int .i64 (.ofNat aD))/\(e0 (!dK s1 []) (a_ (.ofNat aD) (.ofNat 6))=true->∃v1:I,au (h.room 54) r (0+2)=some v1/\∃bj:Nat,cc Tryz.prog (h.room 54) 63 v1=some (.int .i64 (.ofNat bj))/\(0<bj->∃bD:Nat,au (h.room 54) r (0+0)=some (.int .i64 (.ofNat bD))/\(bD=7->∃v2:I,au (h.room 54) r (0+3)=some v2/\∃bT:Nat,cc Tryz.prog (h.room 54) 50 v2=some (.int .i64 (.ofNat bT))/\(0<bT->∃b5:Nat,au (h.room 54) r (0+0)=some (.int .i64 (.ofNat b5))/\(b5<7->I.sound v1=true/\I.sound v2=true/\Q .ret (ah.mk [(0,.ptr r 0),(2,.bool false)] [] .none (h.room 54)))/\(¬b5<7->au (h.room 54) r (0+4)=some .bb/\∃cx:Nat,au (h.room 54) r (0+0)=some (.int .i64 (.ofNat cx))/\I.sound v1=true/\I.sound v2=true/\(e0 false (a_ (.ofNat cx) (.ofNat 8))=true->Q .nrm (ah.mk [(0,.ptr r 0)] [] .none (h.room 54)))/\(e0 false (a_ (.ofNat cx) (.ofNat 8))=false->Q .ret (ah.mk [(0,.ptr r 0),(2,.bool false)] [] .none (h.room 54)))))/\(¬0<bT->au (h.room 54) r (0+4)=some .bb/\∃da:Nat,au (h.room 54) r (0+0)=some (.int .i64 (.ofNat da))/\I.sound v1=true/\I.sound v2=true/\(e0 false (a_ (.ofNat da) (.ofNat 8))=true->Q .nrm (ah.mk [(0,.ptr r 0)] [] .none (h.room 54)))/\(e0 false (a_ (.ofNat da) (.ofNat 8))=false->Q .ret (ah.mk [(0,.ptr r 0),(2,.bool false)] [] .none (h.room 54)))))/\(¬bD=7->I.sound v1=true/\Q .ret (ah.mk [(0,.ptr r 0),(2,.bool false)] [] .none (h.room 54))))/\(¬0<bj->∃dc:I,au (h.room 54) r (0+3)=some dc/\∃et:Nat,cc Tryz.prog (h.room 54) 50 dc=some (.int .i64 (.ofNat et))/\(0<et->∃eO:Nat,au (h.room 54) r (0+0)=some (.int .i64 (.ofNat eO))/\(eO<7->I.sound v1=true/\I.sound dc=true/\Q .ret (ah.mk [(0,.ptr r 0),(2,.bool false)] [] .none (h.room 54)))/\(¬eO<7->au (h.room 54) r (0+4)=some .bb/\∃gf:Nat,au (h.room 54) r (0+0)=some (.int .i64 (.ofNat gf))/\I.sound v1=true/\I.sound dc=true/\(e0 false (a_ (.ofNat gf) (.ofNat 8))=true->Q .nrm (ah.mk [(0,.ptr r 0)] [] .none (h.room 54)))/\(e0 false (a_ (.ofNat gf) (.ofNat 8))=false->Q .ret (ah.mk [(0,.ptr r 0),(2,.bool false)] [] .none (h.room 54)))))/\(¬0<et->au (h.room 54) r (0+4)=some .bb/\∃iP:Nat,au (h.room 54) r (0+0)=some (.int .i64 (.ofNat iP))/\I.sound v1=true/\I.sound dc=true/\(e0 false (a_ (.ofNat iP) (.ofNat 8))=true->Q .nrm (ah.mk [(0,.ptr r 0)] [] .none (h.room 54)))/\(e0 false (a_ (.ofNat iP) (.ofNat 8))=false->Q .ret (ah.mk [(0,.ptr r 0),(2,.bool false)] [] .none (h.room 54))))))/\(e0 (!dK s1 []) (a_ (.ofNat aD) (.ofNat 6))=false->Q .ret (ah.mk [(0,.ptr r 0),(2,.bool false)] [] .none (h.room 54)))):
  a3 Tryz.prog Tryz.f53 call [1,1,0] ⟨[(0,.ptr r 0)],[],.none,h⟩ Q:=
 dB [(68,.bA (.is .bb))] [0,2] [(0,.v (.ptr r 0))] rfl (Eq.mp (by kernel_rfl) H)
theorem we(x:Bool)(k c:Nat):e0 x (a_ (Int.ofNat k) (Int.ofNat c))=!(x !=decide (k=c)):=by
 rw[ur];cases x<;>cases decide (k=c)<;>rfl
def y0(b:Bool)(s1 s2:ah)(e:bn)(s:ah):Prop:=if b=true then e=.nrm/\s=s1 else e=.ret/\s=s2
theorem LP{b:Bool}{s1 s2:ah}(h:b=true):y0 b s1 s2 .nrm s1:=by unfold y0;rw[if_pos h];exact⟨rfl,rfl⟩
theorem wg{b:Bool}{s1 s2:ah}(h:b=false):y0 b s1 s2 .ret s2:=by unfold y0;rw[if_neg (by rw[h];simp)];exact⟨rfl,rfl⟩
theorem LQ{fn:Func}{call:aI->List I->J->av}{p:List Nat}{st s1:ah}{b:Bool}{Γ Γ2:Env}{ad:J}(h:a3 Tryz.prog fn call p st (y0 b s1 ⟨Γ,[],.none,ad⟩))(hs:b_ Γ2 Γ):if b=true then aL Tryz.prog fn none call p st .nrm s1 else aL Tryz.prog fn none call p st .ret ⟨Γ2,[],.none,ad⟩:=by
 obtain⟨e,s,r,q⟩:=h
 cases b with
 |true=>obtain⟨rfl,rfl⟩:=q;exact r
 |false=>obtain⟨rfl,rfl⟩:=q;exact c5.post r hs
theorem V_{m R k N M w:Nat}{s:a5}{n a:I}{h:J}{bh:gM}{aO up:Nat}(yO:h.get R=some (.cells [.int .i64 (Int.ofNat k),.str s,n,a,.ptr w 0] 80 bh aO up))(aN:cc Tryz.prog (h.room 54) 63 n=some (.int .i64 (Int.ofNat N)))(aT:cc Tryz.prog (h.room 54) 50 a=some (.int .i64 (Int.ofNat M)))(jn:I.sound n=true)(kN:I.sound a=true):
  if hY k s N M true=true then aL Tryz.prog Tryz.f53 none (Y m) [1,1,0] ⟨[(0,.ptr R 0)],[],.none,h⟩ .nrm ⟨[(0,.ptr R 0)],[],.none,h.room 54⟩
  else aL Tryz.prog Tryz.f53 none (Y m) [1,1,0] ⟨[(0,.ptr R 0)],[],.none,h⟩ .ret ⟨[(2,.bool false)],[],.none,h.room 54⟩:=by
 have al:(h.room 54).get R=some (.cells [.int .i64 (Int.ofNat k),.str s,n,a,.ptr w 0] 80 bh aO up):=yO
 refine LQ (Γ:=[(0,.ptr R 0),(2,.bool false)]) (V8 (Y m) R h ⟨s,aV al rfl,k,aV al rfl,λaH=>?_,λaH=>?_⟩) ⟨rfl,trivial⟩
 · rw[we] at aH
   refine⟨n,aV al rfl,N,aN,λgP=>⟨k,aV al rfl,λdg=>⟨a,aV al rfl,M,aT,λg1=>⟨k,aV al rfl,λhB=>absurd hB (by omega),λhB=>⟨w,aV al rfl,k,aV al rfl,jn,kN,λa9=>?_,λa9=>?_⟩⟩,λg1=>⟨w,aV al rfl,k,aV al rfl,jn,kN,λa9=>?_,λa9=>?_⟩⟩,λdg=>⟨jn,?_⟩⟩,λgP=>⟨a,aV al rfl,M,aT,λg1=>⟨k,aV al rfl,λhB=>⟨jn,kN,?_⟩,λhB=>⟨w,aV al rfl,k,aV al rfl,jn,kN,λa9=>?_,λa9=>?_⟩⟩,λg1=>⟨w,aV al rfl,k,aV al rfl,jn,kN,λa9=>?_,λa9=>?_⟩⟩⟩
   all_goals (try rw[we] at a9)
   all_goals first
    |(refine LP ?_;simp only[hY,aH,a9];simp;omega)
    |(refine wg ?_;simp only[hY,aH,a9];simp;done)
    |(refine wg ?_;simp[hY];omega)
 · rw[we] at aH
   exact wg (by simp only[hY,aH];simp)
theorem Wa{m R k N M:Nat}{s:a5}{n a:I}{h:J}{bh:gM}{aO up:Nat}(yO:h.get R=some (.cells [.int .i64 (Int.ofNat k),.str s,n,a,.bb] 80 bh aO up))(aN:cc Tryz.prog (h.room 54) 63 n=some (.int .i64 (Int.ofNat N)))(aT:cc Tryz.prog (h.room 54) 50 a=some (.int .i64 (Int.ofNat M)))(jn:I.sound n=true)(kN:I.sound a=true):
  if hY k s N M false=true then aL Tryz.prog Tryz.f53 none (Y m) [1,1,0] ⟨[(0,.ptr R 0)],[],.none,h⟩ .nrm ⟨[(0,.ptr R 0)],[],.none,h.room 54⟩
  else aL Tryz.prog Tryz.f53 none (Y m) [1,1,0] ⟨[(0,.ptr R 0)],[],.none,h⟩ .ret ⟨[(2,.bool false)],[],.none,h.room 54⟩:=by
 have al:(h.room 54).get R=some (.cells [.int .i64 (Int.ofNat k),.str s,n,a,.bb] 80 bh aO up):=yO
 refine LQ (Γ:=[(0,.ptr R 0),(2,.bool false)]) (V9 (Y m) R h ⟨s,aV al rfl,k,aV al rfl,λaH=>?_,λaH=>?_⟩) ⟨rfl,trivial⟩
 · rw[we] at aH
   refine⟨n,aV al rfl,N,aN,λgP=>⟨k,aV al rfl,λdg=>⟨a,aV al rfl,M,aT,λg1=>⟨k,aV al rfl,λhB=>absurd hB (by omega),λhB=>⟨aV al rfl,k,aV al rfl,jn,kN,λa9=>?_,λa9=>?_⟩⟩,λg1=>⟨aV al rfl,k,aV al rfl,jn,kN,λa9=>?_,λa9=>?_⟩⟩,λdg=>⟨jn,?_⟩⟩,λgP=>⟨a,aV al rfl,M,aT,λg1=>⟨k,aV al rfl,λhB=>⟨jn,kN,?_⟩,λhB=>⟨aV al rfl,k,aV al rfl,jn,kN,λa9=>?_,λa9=>?_⟩⟩,λg1=>⟨aV al rfl,k,aV al rfl,jn,kN,λa9=>?_,λa9=>?_⟩⟩⟩
   all_goals (try rw[we] at a9)
   all_goals first
    |(refine LP ?_;simp only[hY,aH,a9];simp;omega)
    |(refine wg ?_;simp only[hY,aH,a9];simp;done)
    |(refine wg ?_;simp[hY];omega)
 · rw[we] at aH
   exact wg (by simp only[hY,aH];simp)
end Go.Proofs.cG
namespace Go.Proofs.cG
open Go aP Go.Proofs c8
set_option maxRecDepth 100000
set_option maxHeartbeats 1000000
theorem LR(call:aI->List I->J->av)(r:Nat)(h:J):
  aL Tryz.prog Tryz.f53 none call [1,1,1,0,0] (ah.mk [(0,.ptr r 0)] [] .none h) (.nrm)
   (ah.mk [(0,.ptr r 0),(3,.int .i64 (.ofNat 0))] [] .none h):=
 bI [0,3] (hs:=[]) (by kernel_rfl)<| .nil
theorem Wb(call:aI->List I->J->av)(r i N:Nat)(v:I)(h:J)
  (H1:au h r (0+3)=some v)
  (aR:cc Tryz.prog h 50 v=some (.int .i64 (.ofNat N)))
  (br:bM (.ofNat i) (.ofNat N)=false):
  aL Tryz.prog Tryz.f53 none call [1,1,1,0,1,0,0] (ah.mk [(0,.ptr r 0),(3,.int .i64 (.ofNat i))] [] .none h) (.exit 0)
   (ah.mk [(0,.ptr r 0)] [] .none h):=
 bI [0] (hs:=[.v v,.o (.int .i64 (.ofNat N)),.b false]) (by kernel_rfl)<| .cons H1<| .cons aR<| .cons br<| .nil
theorem Wc(call:aI->List I->J->av)(r b off N i q j:Nat)(c:Bool)(x:I)(cp:b3)(h g:J)
  (H1:au h r (0+3)=some (.slice b off N cp))
  (aR:bM (.ofNat i) (.ofNat N)=true)
  (br:Nat.le (Nat.succ i) N/\I.ptr b q=I.ptr b (off+i*1))
  (bp:au h b q=some x)
  (b1:call (.fn 53) [x] h=av.ret (.bool c) g)
  (cL:(!c)=true):
  aL Tryz.prog Tryz.f53 none call [1,1,1,0,1,0,0] (ah.mk [(0,.ptr r 0),(3,.int .i64 (.ofNat i))] [] .none h) (.ret)
   (ah.mk [(0,.ptr r 0),(2,.bool false),(3,.int .i64 (.ofNat i))] [] .none g):=
 bI [0,2,3] (hs:=[.v (.slice b off N cp),.b true,.v (.slice b off N cp),.v (.ptr b q),.v x,.c (.bool c) g,.b true]) (by kernel_rfl)<| .cons H1<| .cons aR<| .cons H1<| .cons br<| .cons bp<| .cons b1<| .cons cL<| .nil
theorem Wd(call:aI->List I->J->av)(r b off N i q j:Nat)(c:Bool)(x:I)(cp:b3)(h g:J)
  (H1:au h r (0+3)=some (.slice b off N cp))
  (aR:bM (.ofNat i) (.ofNat N)=true)
  (br:Nat.le (Nat.succ i) N/\I.ptr b q=I.ptr b (off+i*1))
  (bp:au h b q=some x)
  (b1:call (.fn 53) [x] h=av.ret (.bool c) g)
  (cL:(!c)=false)
  (dr:arith .add .i64 (.ofNat i) (.ofNat 1)=some (.int .i64 (.ofNat j))):
  aL Tryz.prog Tryz.f53 none call [1,1,1,0,1,0,0] (ah.mk [(0,.ptr r 0),(3,.int .i64 (.ofNat i))] [] .none h) (.nrm)
   (ah.mk [(0,.ptr r 0),(3,.int .i64 (.ofNat j))] [] .none g):=
 bI [0,2,3] (hs:=[.v (.slice b off N cp),.b true,.v (.slice b off N cp),.v (.ptr b q),.v x,.c (.bool c) g,.b false,.v (.int .i64 (.ofNat j))]) (by kernel_rfl)<| .cons H1<| .cons aR<| .cons H1<| .cons br<| .cons bp<| .cons b1<| .cons cL<| .cons dr<| .nil
theorem We(call:aI->List I->J->av)(r k:Nat)(h:J)
  (H1:au h r (0+0)=some (.int .i64 (.ofNat k))):
  aL Tryz.prog Tryz.f53 none call [1,1,1,1,0,0] (ah.mk [(0,.ptr r 0)] [] .none h) (.nrm)
   (ah.mk [(0,.ptr r 0),(98,.int .i64 (.ofNat k))] [] .none h):=
 bI [0,98] (hs:=[.v (.int .i64 (.ofNat k))]) (by kernel_rfl)<| .cons H1<| .nil
theorem Wf(call:aI->List I->J->av)(r:Nat)(s:List UInt8)(b:Bool)(h g:J)
  (H1:au h r (0+1)=some (.str s))
  (aR:call (.fn 81) [.str s] h=av.ret (.bool b) g):
  aL Tryz.prog Tryz.f53 none call [1,1,1,1,0,1] (ah.mk [(0,.ptr r 0),(98,.int .i64 (.ofNat 6))] [] .none h) (.ret)
   (ah.mk [(2,.bool b)] [] .none g):=
 bI [2] (hs:=[.b true,.v (.str s),.c (.bool b) g]) (by kernel_rfl)<| .cons (by kernel_rfl:a_ (Int.ofNat 6) (Int.ofNat 6)=true)<| .cons H1<| .cons aR<| .nil
theorem Wg(call:aI->List I->J->av)(r N M:Nat)(n a:I)(h:J)
  (H1:au (J.room h 11) r (0+2)=some n)
  (aR:cc Tryz.prog (J.room h 11) 63 n=some (.int .i64 (.ofNat N)))
  (br:au (J.room h 11) r (0+3)=some a)
  (bp:cc Tryz.prog (J.room h 11) 50 a=some (.int .i64 (.ofNat M)))
  (b1:I.sound n=true:=by first|with_reducible assumption|rfl|exact db.snd (by with_reducible assumption)|exact db.hb (by with_reducible assumption)|exact ez.snd (by with_reducible assumption)|exact ez.hb (by with_reducible assumption)|exact dJ.snd (by with_reducible assumption)|exact dJ.hb (by with_reducible assumption))
  (cL:I.sound a=true:=by first|with_reducible assumption|rfl|exact db.snd (by with_reducible assumption)|exact db.hb (by with_reducible assumption)|exact ez.snd (by with_reducible assumption)|exact ez.hb (by with_reducible assumption)|exact dJ.snd (by with_reducible assumption)|exact dJ.hb (by with_reducible assumption))
  (dr:(!a_ (.ofNat N) (.ofNat M))=true):
  aL Tryz.prog Tryz.f53 none call [1,1,1,1,0,1] (ah.mk [(0,.ptr r 0),(98,.int .i64 (.ofNat 7))] [] .none h) (.ret)
   (ah.mk [(2,.bool false)] [] .none (J.room h 11)):=
 bI [2] (hs:=[.b false,.b true,.v n,.o (.int .i64 (.ofNat N)),.v a,.o (.int .i64 (.ofNat M)),.b true]) (by kernel_rfl)<| .cons (by kernel_rfl:a_ (Int.ofNat 7) (Int.ofNat 6)=false)<| .cons (by kernel_rfl:a_ (Int.ofNat 7) (Int.ofNat 7)=true)<| .cons H1<| .cons aR<| .cons br<| .cons bp<| .cons (by kernel_rfl:I.sound (I.ptr r 0)=true)<| .cons (by kernel_rfl:I.ptr r 0=I.ptr r 0)<| .cons (by kernel_rfl:I.sound (I.ptr r 0)=true)<| .cons (by kernel_rfl:I.ptr r 0=I.ptr r 0)<| .cons (by kernel_rfl:I.sound (I.ptr r (0+2))=true)<| .cons (by kernel_rfl:I.ptr r (0+2)=I.ptr r (0+2))<| .cons b1<| .cons H1<| .cons (by kernel_rfl:I.sound (I.int IntKind.i64 (Int.ofNat N))=true)<| .cons aR<| .cons (by kernel_rfl:I.sound (I.ptr r 0)=true)<| .cons (by kernel_rfl:I.ptr r 0=I.ptr r 0)<| .cons (by kernel_rfl:I.sound (I.ptr r 0)=true)<| .cons (by kernel_rfl:I.ptr r 0=I.ptr r 0)<| .cons (by kernel_rfl:I.sound (I.ptr r (0+3))=true)<| .cons (by kernel_rfl:I.ptr r (0+3)=I.ptr r (0+3))<| .cons cL<| .cons br<| .cons (by kernel_rfl:I.sound (I.int IntKind.i64 (Int.ofNat M))=true)<| .cons bp<| .cons (by kernel_rfl:I.sound (I.bool !a_ (Int.ofNat N) (Int.ofNat M))=true)<| .cons (by kernel_rfl:(I.bool !a_ (Int.ofNat N) (Int.ofNat M))=I.bool !a_ (Int.ofNat N) (Int.ofNat M))<| .cons dr<| .nil
theorem Wh(call:aI->List I->J->av)(r N M:Nat)(n a:I)(h g:J)
  (H1:au (J.room h 11) r (0+2)=some n)
  (aR:cc Tryz.prog (J.room h 11) 63 n=some (.int .i64 (.ofNat N)))
  (br:au (J.room h 11) r (0+3)=some a)
  (bp:cc Tryz.prog (J.room h 11) 50 a=some (.int .i64 (.ofNat M)))
  (b1:I.sound n=true:=by first|with_reducible assumption|rfl|exact db.snd (by with_reducible assumption)|exact db.hb (by with_reducible assumption)|exact ez.snd (by with_reducible assumption)|exact ez.hb (by with_reducible assumption)|exact dJ.snd (by with_reducible assumption)|exact dJ.hb (by with_reducible assumption))
  (cL:I.sound a=true:=by first|with_reducible assumption|rfl|exact db.snd (by with_reducible assumption)|exact db.hb (by with_reducible assumption)|exact ez.snd (by with_reducible assumption)|exact ez.hb (by with_reducible assumption)|exact dJ.snd (by with_reducible assumption)|exact dJ.hb (by with_reducible assumption))
  (dr:(!a_ (.ofNat N) (.ofNat M))=false)
  (gC:aL Tryz.prog Tryz.f53 none call [1,1,1,1,0,1,0,1,1,1,0,1,1,0] (ah.mk [(4,.int .i64 (.ofNat 0)),(118,.bool !a_ (.ofNat N) (.ofNat M)),(106,.bool (a_ (.ofNat 7) (.ofNat 7))),(99,.bool (a_ (.ofNat 7) (.ofNat 6))),(0,.ptr r 0),(98,.int .i64 (.ofNat 7))] [] .none (J.room h 11)) (.exit 3) (ah.mk [(0,.ptr r 0)] [] .none g)):
  aL Tryz.prog Tryz.f53 none call [1,1,1,1,0,1] (ah.mk [(0,.ptr r 0),(98,.int .i64 (.ofNat 7))] [] .none h) (.nrm)
   (ah.mk [(0,.ptr r 0)] [] .none g):=
 bI [0] (hs:=[Hint.b false,Hint.b true,Hint.v n,Hint.o (I.int IntKind.i64 (Int.ofNat N)),Hint.v a,Hint.o (I.int IntKind.i64 (Int.ofNat M)),Hint.b false,Hint.loop (bn.exit 3) (ah.mk [(0,I.ptr r 0)] [] bF.none g)]) (by kernel_rfl)<| .cons (by kernel_rfl:a_ (Int.ofNat 7) (Int.ofNat 6)=false)<| .cons (by kernel_rfl:a_ (Int.ofNat 7) (Int.ofNat 7)=true)<| .cons H1<| .cons aR<| .cons br<| .cons bp<| .cons (by kernel_rfl:I.sound (I.ptr r 0)=true)<| .cons (by kernel_rfl:I.ptr r 0=I.ptr r 0)<| .cons (by kernel_rfl:I.sound (I.ptr r 0)=true)<| .cons (by kernel_rfl:I.ptr r 0=I.ptr r 0)<| .cons (by kernel_rfl:I.sound (I.ptr r (0+2))=true)<| .cons (by kernel_rfl:I.ptr r (0+2)=I.ptr r (0+2))<| .cons b1<| .cons H1<| .cons (by kernel_rfl:I.sound (I.int IntKind.i64 (Int.ofNat N))=true)<| .cons aR<| .cons (by kernel_rfl:I.sound (I.ptr r 0)=true)<| .cons (by kernel_rfl:I.ptr r 0=I.ptr r 0)<| .cons (by kernel_rfl:I.sound (I.ptr r 0)=true)<| .cons (by kernel_rfl:I.ptr r 0=I.ptr r 0)<| .cons (by kernel_rfl:I.sound (I.ptr r (0+3))=true)<| .cons (by kernel_rfl:I.ptr r (0+3)=I.ptr r (0+3))<| .cons cL<| .cons br<| .cons (by kernel_rfl:I.sound (I.int IntKind.i64 (Int.ofNat M))=true)<| .cons bp<| .cons (by kernel_rfl:I.sound (I.bool !a_ (Int.ofNat N) (Int.ofNat M))=true)<| .cons (by kernel_rfl:(I.bool !a_ (Int.ofNat N) (Int.ofNat M))=I.bool !a_ (Int.ofNat N) (Int.ofNat M))<| .cons dr<| .cons gC<| .nil
theorem Wi(call:aI->List I->J->av)(r N M:Nat)(n a:I)(h g:J)
  (H1:au (J.room h 11) r (0+2)=some n)
  (aR:cc Tryz.prog (J.room h 11) 63 n=some (.int .i64 (.ofNat N)))
  (br:au (J.room h 11) r (0+3)=some a)
  (bp:cc Tryz.prog (J.room h 11) 50 a=some (.int .i64 (.ofNat M)))
  (b1:I.sound n=true:=by first|with_reducible assumption|rfl|exact db.snd (by with_reducible assumption)|exact db.hb (by with_reducible assumption)|exact ez.snd (by with_reducible assumption)|exact ez.hb (by with_reducible assumption)|exact dJ.snd (by with_reducible assumption)|exact dJ.hb (by with_reducible assumption))
  (cL:I.sound a=true:=by first|with_reducible assumption|rfl|exact db.snd (by with_reducible assumption)|exact db.hb (by with_reducible assumption)|exact ez.snd (by with_reducible assumption)|exact ez.hb (by with_reducible assumption)|exact dJ.snd (by with_reducible assumption)|exact dJ.hb (by with_reducible assumption))
  (dr:(!a_ (.ofNat N) (.ofNat M))=false)
  (gC:aL Tryz.prog Tryz.f53 none call [1,1,1,1,0,1,0,1,1,1,0,1,1,0] (ah.mk [(4,.int .i64 (.ofNat 0)),(118,.bool !a_ (.ofNat N) (.ofNat M)),(106,.bool (a_ (.ofNat 7) (.ofNat 7))),(99,.bool (a_ (.ofNat 7) (.ofNat 6))),(0,.ptr r 0),(98,.int .i64 (.ofNat 7))] [] .none (J.room h 11)) (.ret) (ah.mk [(2,.bool false)] [] .none g)):
  aL Tryz.prog Tryz.f53 none call [1,1,1,1,0,1] (ah.mk [(0,.ptr r 0),(98,.int .i64 (.ofNat 7))] [] .none h) (.ret)
   (ah.mk [(2,.bool false)] [] .none g):=
 bI [2] (hs:=[Hint.b false,Hint.b true,Hint.v n,Hint.o (I.int IntKind.i64 (Int.ofNat N)),Hint.v a,Hint.o (I.int IntKind.i64 (Int.ofNat M)),Hint.b false,Hint.loop bn.ret (ah.mk [(2,I.bool false)] [] bF.none g)]) (by kernel_rfl)<| .cons (by kernel_rfl:a_ (Int.ofNat 7) (Int.ofNat 6)=false)<| .cons (by kernel_rfl:a_ (Int.ofNat 7) (Int.ofNat 7)=true)<| .cons H1<| .cons aR<| .cons br<| .cons bp<| .cons (by kernel_rfl:I.sound (I.ptr r 0)=true)<| .cons (by kernel_rfl:I.ptr r 0=I.ptr r 0)<| .cons (by kernel_rfl:I.sound (I.ptr r 0)=true)<| .cons (by kernel_rfl:I.ptr r 0=I.ptr r 0)<| .cons (by kernel_rfl:I.sound (I.ptr r (0+2))=true)<| .cons (by kernel_rfl:I.ptr r (0+2)=I.ptr r (0+2))<| .cons b1<| .cons H1<| .cons (by kernel_rfl:I.sound (I.int IntKind.i64 (Int.ofNat N))=true)<| .cons aR<| .cons (by kernel_rfl:I.sound (I.ptr r 0)=true)<| .cons (by kernel_rfl:I.ptr r 0=I.ptr r 0)<| .cons (by kernel_rfl:I.sound (I.ptr r 0)=true)<| .cons (by kernel_rfl:I.ptr r 0=I.ptr r 0)<| .cons (by kernel_rfl:I.sound (I.ptr r (0+3))=true)<| .cons (by kernel_rfl:I.ptr r (0+3)=I.ptr r (0+3))<| .cons cL<| .cons br<| .cons (by kernel_rfl:I.sound (I.int IntKind.i64 (Int.ofNat M))=true)<| .cons bp<| .cons (by kernel_rfl:I.sound (I.bool !a_ (Int.ofNat N) (Int.ofNat M))=true)<| .cons (by kernel_rfl:(I.bool !a_ (Int.ofNat N) (Int.ofNat M))=I.bool !a_ (Int.ofNat N) (Int.ofNat M))<| .cons dr<| .cons gC<| .nil
theorem Wj(call:aI->List I->J->av)(r:Nat)(v:I)(b:Bool)(h g:J)
  (H1:au h r (0+4)=some v)
  (aR:call (.fn 53) [v] h=av.ret (.bool b) g):
  aL Tryz.prog Tryz.f53 none call [1,1,1,1,0,1] (ah.mk [(0,.ptr r 0),(98,.int .i64 (.ofNat 8))] [] .none h) (.ret)
   (ah.mk [(2,.bool b)] [] .none g):=
 bI [2] (hs:=[.b false,.b false,.b true,.v v,.c (.bool b) g]) (by kernel_rfl)<| .cons (by kernel_rfl:a_ (Int.ofNat 8) (Int.ofNat 6)=false)<| .cons (by kernel_rfl:a_ (Int.ofNat 8) (Int.ofNat 7)=false)<| .cons (by kernel_rfl:a_ (Int.ofNat 8) (Int.ofNat 8)=true)<| .cons H1<| .cons aR<| .nil
theorem Wk(call:aI->List I->J->av)(r M:Nat)(a:I)(h g:J)
  (H1:aL Tryz.prog Tryz.f53 none call [1,1,1,1,0,1,0,1,1,1,1,1,1,1,0,0,1,0] (ah.mk [(5,.int .i64 (.ofNat 0)),(167,.bool (a_ (.ofNat 9) (.ofNat 9))),(160,.bool (a_ (.ofNat 9) (.ofNat 8))),(106,.bool (a_ (.ofNat 9) (.ofNat 7))),(99,.bool (a_ (.ofNat 9) (.ofNat 6))),(0,.ptr r 0),(98,.int .i64 (.ofNat 9))] [] .none h) (.exit 5) (ah.mk [(0,.ptr r 0)] [] .none g))
  (aR:au g r (0+3)=some a)
  (br:cc Tryz.prog g 50 a=some (.int .i64 (.ofNat M))):
  aL Tryz.prog Tryz.f53 none call [1,1,1,1,0,1] (ah.mk [(0,.ptr r 0),(98,.int .i64 (.ofNat 9))] [] .none h) (.ret)
   (ah.mk [(2,.bool (fh (.ofNat 2) (.ofNat M)))] [] .none g):=
 bI [2] (hs:=[Hint.b false,Hint.b false,Hint.b false,Hint.b true,Hint.loop (bn.exit 5) (ah.mk [(0,I.ptr r 0)] [] bF.none g),Hint.v a,Hint.o (I.int IntKind.i64 (Int.ofNat M))]) (by kernel_rfl)<| .cons (by kernel_rfl:a_ (Int.ofNat 9) (Int.ofNat 6)=false)<| .cons (by kernel_rfl:a_ (Int.ofNat 9) (Int.ofNat 7)=false)<| .cons (by kernel_rfl:a_ (Int.ofNat 9) (Int.ofNat 8)=false)<| .cons (by kernel_rfl:a_ (Int.ofNat 9) (Int.ofNat 9)=true)<| .cons H1<| .cons aR<| .cons br<| .nil
theorem Wl(call:aI->List I->J->av)(r:Nat)(h g:J)
  (H1:aL Tryz.prog Tryz.f53 none call [1,1,1,1,0,1,0,1,1,1,1,1,1,1,0,0,1,0] (ah.mk [(5,.int .i64 (.ofNat 0)),(167,.bool (a_ (.ofNat 9) (.ofNat 9))),(160,.bool (a_ (.ofNat 9) (.ofNat 8))),(106,.bool (a_ (.ofNat 9) (.ofNat 7))),(99,.bool (a_ (.ofNat 9) (.ofNat 6))),(0,.ptr r 0),(98,.int .i64 (.ofNat 9))] [] .none h) (.ret) (ah.mk [(2,.bool false)] [] .none g)):
  aL Tryz.prog Tryz.f53 none call [1,1,1,1,0,1] (ah.mk [(0,.ptr r 0),(98,.int .i64 (.ofNat 9))] [] .none h) (.ret)
   (ah.mk [(2,.bool false)] [] .none g):=
 bI [2] (hs:=[Hint.b false,Hint.b false,Hint.b false,Hint.b true,Hint.loop bn.ret (ah.mk [(2,I.bool false)] [] bF.none g)]) (by kernel_rfl)<| .cons (by kernel_rfl:a_ (Int.ofNat 9) (Int.ofNat 6)=false)<| .cons (by kernel_rfl:a_ (Int.ofNat 9) (Int.ofNat 7)=false)<| .cons (by kernel_rfl:a_ (Int.ofNat 9) (Int.ofNat 8)=false)<| .cons (by kernel_rfl:a_ (Int.ofNat 9) (Int.ofNat 9)=true)<| .cons H1<| .nil
theorem Wm(call:aI->List I->J->av)(r k:Nat)(h:J)
  (H1:a_ (.ofNat k) (.ofNat 6)=false)
  (aR:a_ (.ofNat k) (.ofNat 7)=false)
  (br:a_ (.ofNat k) (.ofNat 8)=false)
  (bp:a_ (.ofNat k) (.ofNat 9)=false):
  aL Tryz.prog Tryz.f53 none call [1,1,1,1,0,1] (ah.mk [(0,.ptr r 0),(98,.int .i64 (.ofNat k))] [] .none h) (.nrm)
   (ah.mk [(0,.ptr r 0)] [] .none h):=
 bI [0] (hs:=[.b false,.b false,.b false,.b false]) (by kernel_rfl)<| .cons H1<| .cons aR<| .cons br<| .cons bp<| .nil
theorem Wn(call:aI->List I->J->av)(h:J):
  aL Tryz.prog Tryz.f53 none call [1,1,1,1,1] (ah.mk [] [] .none h) (.ret)
   (ah.mk [(2,.bool true)] [] .none h):=
 bI [2] (hs:=[]) (by kernel_rfl)<| .nil
theorem Wo(call:aI->List I->J->av)(r i N:Nat)(v:I)(h:J)
  (H1:au h r (0+2)=some v)
  (aR:cc Tryz.prog h 63 v=some (.int .i64 (.ofNat N)))
  (br:bM (.ofNat i) (.ofNat N)=false):
  aL Tryz.prog Tryz.f53 none call [1,1,1,1,0,1,0,1,1,1,0,1,1,0,0] (ah.mk [(0,.ptr r 0),(4,.int .i64 (.ofNat i))] [] .none h) (.exit 3)
   (ah.mk [(0,.ptr r 0)] [] .none h):=
 bI [0] (hs:=[.v v,.o (.int .i64 (.ofNat N)),.b false]) (by kernel_rfl)<| .cons H1<| .cons aR<| .cons br<| .nil
theorem Wp(call:aI->List I->J->av)(r i N:Nat)(v:I)(h:J)
  (H1:au h r (0+3)=some v)
  (aR:cc Tryz.prog h 50 v=some (.int .i64 (.ofNat N)))
  (br:bM (.ofNat i) (.ofNat N)=false):
  aL Tryz.prog Tryz.f53 none call [1,1,1,1,0,1,0,1,1,1,1,1,1,1,0,0,1,0,0] (ah.mk [(0,.ptr r 0),(5,.int .i64 (.ofNat i))] [] .none h) (.exit 5)
   (ah.mk [(0,.ptr r 0)] [] .none h):=
 bI [0] (hs:=[.v v,.o (.int .i64 (.ofNat N)),.b false]) (by kernel_rfl)<| .cons H1<| .cons aR<| .cons br<| .nil
theorem Wq(call:aI->List I->J->av)(v:I)(h:J):
  aL Tryz.prog Tryz.f28 none call [0] (ah.mk [(0,v)] [] .none h) (.nrm)
   (ah.mk [(0,v)] [] .none h):=
 bI [0] (hs:=[]) (by kernel_rfl)<| .nil
theorem Wr(call:aI->List I->J->av)(h:J):
  aL Tryz.prog Tryz.f28 none call [1] (ah.mk [(0,.bb)] [] .none h) (.ret)
   (ah.mk [(2,.int .i64 (.ofNat 1))] [] .none h):=
 bI [2] (hs:=[.v (.bool true),.b true]) (by kernel_rfl)<| .cons (by kernel_rfl:eJ Tryz.prog h BinOp.eql 35 (Operand.tmp 3) (Operand.const (Value.pointer none)) I.bb I.bb=some (I.bool true))<| .cons (by kernel_rfl:true=true)<| .nil
theorem Ws(call:aI->List I->J->av)(r b off N i q a6 j s8:Nat)(s t:List UInt8)(d:Bool)(cp:b3)(h g ax:J)
  (H1:au h r (0+2)=some (.slice b off N cp))
  (aR:bM (.ofNat i) (.ofNat N)=true)
  (br:au (J.room h 32) r (0+2)=some (.slice b off N cp))
  (bp:Nat.le (Nat.succ i) N/\I.ptr b q=I.ptr b (off+i*1))
  (b1:au (J.room h 32) b q=some (.str s))
  (cL:call (.fn 76) [.str s] (J.room h 32)=av.ret (.bool false) g):
  aL Tryz.prog Tryz.f53 none call [1,1,1,1,0,1,0,1,1,1,0,1,1,0,0] (ah.mk [(0,.ptr r 0),(4,.int .i64 (.ofNat i))] [] .none h) (.ret)
   (ah.mk [(2,.bool false)] [] .none g):=
 bI [2] (hs:=[.v (.slice b off N cp),.b true,.v (.slice b off N cp),.v (.ptr b q),.v (.str s),.c (.bool false) g,.b true,.b true,.b true,.b true,.b true,.b true]) (by kernel_rfl)<| .cons H1<| .cons aR<| .cons br<| .cons bp<| .cons b1<| .cons cL<| .cons (by kernel_rfl:(!false)=true)<| .cons (by kernel_rfl:(!false)=true)<| .cons (by kernel_rfl:(!false)=true)<| .cons (by kernel_rfl:(!false)=true)<| .cons (by kernel_rfl:(!false)=true)<| .cons (by kernel_rfl:I.sound (I.ptr r 0)=true)<| .cons (by kernel_rfl:I.ptr r 0=I.ptr r 0)<| .cons (by kernel_rfl:I.sound (I.ptr r 0)=true)<| .cons (by kernel_rfl:I.ptr r 0=I.ptr r 0)<| .cons (by kernel_rfl:I.sound (I.ptr r (0+2))=true)<| .cons (by kernel_rfl:I.ptr r (0+2)=I.ptr r (0+2))<| .cons (by kernel_rfl:I.sound (I.slice b off N cp)=true)<| .cons br<| .cons (by kernel_rfl:I.sound (I.int IntKind.i64 (Int.ofNat i))=true)<| .cons (by kernel_rfl:I.int IntKind.i64 (Int.ofNat i)=I.int IntKind.i64 (Int.ofNat i))<| .cons (by kernel_rfl:I.sound (I.ptr b q)=true)<| .cons bp<| .cons (by kernel_rfl:I.sound (I.str s)=true)<| .cons b1<| .cons (by kernel_rfl:I.sound (I.bool !false)=true)<| .cons (by kernel_rfl:(I.bool !false)=I.bool !false)<| .cons (by kernel_rfl:I.sound (I.bool !false)=true)<| .cons (by kernel_rfl:(I.bool !false)=I.bool !false)<| .cons (by kernel_rfl:false=false)<| .cons (by kernel_rfl:false=false)<| .cons (by kernel_rfl:false=false)<| .cons (by kernel_rfl:false=false)<| .cons (by kernel_rfl:I.sound (I.bool true)=true)<| .cons (by kernel_rfl:(bif !false then I.bool true else I.aQ [])=I.bool true)<| .cons (by kernel_rfl:true=true)<| .nil
theorem Wt(call:aI->List I->J->av)(r b off N i q a6 j s8 m k:Nat)(x:I)(s t:List UInt8)(d:Bool)(cp:b3)(h g ax aB:J)
  (H1:au h r (0+3)=some (.slice b off N cp))
  (aR:bM (.ofNat i) (.ofNat N)=true)
  (br:Nat.le (Nat.succ i) N/\I.ptr b q=I.ptr b (off+i*1))
  (bp:au h b q=some (.ptr m 0))
  (b1:au h m (0+0)=some (.int .i64 (.ofNat k)))
  (cL:a_ (.ofNat k) (.ofNat 9)=true):
  aL Tryz.prog Tryz.f53 none call [1,1,1,1,0,1,0,1,1,1,1,1,1,1,0,0,1,0,0] (ah.mk [(0,.ptr r 0),(5,.int .i64 (.ofNat i))] [] .none h) (.ret)
   (ah.mk [(2,.bool false)] [] .none (J.room h 31)):=
 bI [2] (hs:=[.v (.slice b off N cp),.b true,.v (.slice b off N cp),.v (.ptr b q),.v (.ptr m 0),.v (.int .i64 (.ofNat k)),.b true,.b true,.b true,.b true,.b true,.b true,.b true,.b true,.b true]) (by kernel_rfl)<| .cons H1<| .cons aR<| .cons H1<| .cons br<| .cons bp<| .cons b1<| .cons cL<| .cons cL<| .cons cL<| .cons (by kernel_rfl:true=true)<| .cons (by kernel_rfl:true=true)<| .cons (by kernel_rfl:true=true)<| .cons (by kernel_rfl:true=true)<| .cons (by kernel_rfl:true=true)<| .cons (by kernel_rfl:I.sound (I.int IntKind.i64 (Int.ofNat k))=true)<| .cons (by kernel_rfl:I.int IntKind.i64 (Int.ofNat k)=I.int IntKind.i64 (Int.ofNat k))<| .cons (by kernel_rfl:I.sound (I.bool (a_ (Int.ofNat k) (Int.ofNat 9)))=true)<| .cons (by kernel_rfl:I.bool (a_ (Int.ofNat k) (Int.ofNat 9))=I.bool (a_ (Int.ofNat k) (Int.ofNat 9)))<| .cons (by kernel_rfl:I.sound (I.bool (a_ (Int.ofNat k) (Int.ofNat 9)))=true)<| .cons (by kernel_rfl:I.bool (a_ (Int.ofNat k) (Int.ofNat 9))=I.bool (a_ (Int.ofNat k) (Int.ofNat 9)))<| .cons (vC cL)<| .cons (vC cL)<| .cons (by kernel_rfl:I.sound (I.bool true)=true)<| .cons (by rw[cL];first|done|rfl:(bif a_ (Int.ofNat k) (Int.ofNat 9) then I.bool true else I.aQ [])=I.bool true)<| .cons (by kernel_rfl:I.sound (I.bool true)=true)<| .cons (by kernel_rfl:I.bool true=I.bool true)<| .cons (by kernel_rfl:false=false)<| .cons (by kernel_rfl:false=false)<| .cons (by kernel_rfl:false=false)<| .cons (by kernel_rfl:false=false)<| .cons (by kernel_rfl:I.sound (I.bool true)=true)<| .cons (by kernel_rfl:(bif true then I.bool true else I.aQ [])=I.bool true)<| .cons (by kernel_rfl:true=true)<| .nil
theorem Wu(call:aI->List I->J->av)(r b off N i q a6 j s8 m k:Nat)(x:I)(s t:List UInt8)(d:Bool)(cp:b3)(h g ax aB:J)
  (H1:au h r (0+3)=some (.slice b off N cp))
  (aR:bM (.ofNat i) (.ofNat N)=true)
  (br:Nat.le (Nat.succ i) N/\I.ptr b q=I.ptr b (off+i*1))
  (bp:au h b q=some (.ptr m 0))
  (b1:au h m (0+0)=some (.int .i64 (.ofNat k)))
  (cL:a_ (.ofNat k) (.ofNat 9)=false)
  (dr:a_ (.ofNat k) (.ofNat 1)=true):
  aL Tryz.prog Tryz.f53 none call [1,1,1,1,0,1,0,1,1,1,1,1,1,1,0,0,1,0,0] (ah.mk [(0,.ptr r 0),(5,.int .i64 (.ofNat i))] [] .none h) (.ret)
   (ah.mk [(2,.bool false)] [] .none (J.room h 31)):=
 bI [2] (hs:=[.v (.slice b off N cp),.b true,.v (.slice b off N cp),.v (.ptr b q),.v (.ptr m 0),.v (.int .i64 (.ofNat k)),.b false,.b false,.b false,.b true,.b true,.b true,.b true,.b true,.b true]) (by kernel_rfl)<| .cons H1<| .cons aR<| .cons H1<| .cons br<| .cons bp<| .cons b1<| .cons cL<| .cons cL<| .cons cL<| .cons dr<| .cons dr<| .cons dr<| .cons dr<| .cons dr<| .cons (by kernel_rfl:I.sound (I.int IntKind.i64 (Int.ofNat k))=true)<| .cons (by kernel_rfl:I.int IntKind.i64 (Int.ofNat k)=I.int IntKind.i64 (Int.ofNat k))<| .cons (by kernel_rfl:I.sound (I.bool (a_ (Int.ofNat k) (Int.ofNat 9)))=true)<| .cons (by kernel_rfl:I.bool (a_ (Int.ofNat k) (Int.ofNat 9))=I.bool (a_ (Int.ofNat k) (Int.ofNat 9)))<| .cons (by kernel_rfl:I.sound (I.bool (a_ (Int.ofNat k) (Int.ofNat 9)))=true)<| .cons (by kernel_rfl:I.bool (a_ (Int.ofNat k) (Int.ofNat 9))=I.bool (a_ (Int.ofNat k) (Int.ofNat 9)))<| .cons (er.cons (by kernel_rfl:I.sound (I.int IntKind.i64 (Int.ofNat k))=true)<|er.cons (by kernel_rfl:I.int IntKind.i64 (Int.ofNat k)=I.int IntKind.i64 (Int.ofNat k))<|er.nil)<| .cons (er.cons (by kernel_rfl:I.sound (I.bool (a_ (Int.ofNat k) (Int.ofNat 1)))=true)<|er.cons (by kernel_rfl:I.bool (a_ (Int.ofNat k) (Int.ofNat 1))=I.bool (a_ (Int.ofNat k) (Int.ofNat 1)))<|er.nil)<| .cons (by kernel_rfl:I.sound (I.bool (a_ (Int.ofNat k) (Int.ofNat 1)))=true)<| .cons (by rw[cL];first|done|rfl:(bif a_ (Int.ofNat k) (Int.ofNat 9) then I.bool true else I.bool (a_ (Int.ofNat k) (Int.ofNat 1)))=I.bool (a_ (Int.ofNat k) (Int.ofNat 1)))<| .cons (by kernel_rfl:I.sound (I.bool (a_ (Int.ofNat k) (Int.ofNat 1)))=true)<| .cons (by kernel_rfl:I.bool (a_ (Int.ofNat k) (Int.ofNat 1))=I.bool (a_ (Int.ofNat k) (Int.ofNat 1)))<| .cons (vC dr)<| .cons (vC dr)<| .cons (vC dr)<| .cons (vC dr)<| .cons (by kernel_rfl:I.sound (I.bool true)=true)<| .cons (by rw[dr];first|done|rfl:(bif a_ (Int.ofNat k) (Int.ofNat 1) then I.bool true else I.aQ [])=I.bool true)<| .cons (by kernel_rfl:true=true)<| .nil
theorem Wv(call:aI->List I->J->av)(r k:Nat)(b:Bool)(h ai ax:J)
  (H1:call (.fn 52) [.ptr r 0] h=av.ret (.int .i64 (.ofNat k)) ai)
  (aR:bM (.ofNat 60) (.ofNat k)=true):
  aL Tryz.prog Tryz.f28 none call [1] (ah.mk [(0,.ptr r 0)] [] .none h) (.ret)
   (ah.mk [(2,.int .i64 (.ofNat 3))] [] .none ai):=
 bI [2] (hs:=[.v (.bool false),.b false,.c (.int .i64 (.ofNat k)) ai,.b true]) (by kernel_rfl)<| .cons (by kernel_rfl:eJ Tryz.prog h BinOp.eql 35 (Operand.tmp 3) (Operand.const (Value.pointer none)) (I.ptr r 0) I.bb=some (I.bool false))<| .cons (by kernel_rfl:false=false)<| .cons H1<| .cons aR<| .nil
theorem Ww(call:aI->List I->J->av)(r k:Nat)(b:Bool)(h ai ax:J)
  (H1:call (.fn 52) [.ptr r 0] h=av.ret (.int .i64 (.ofNat k)) ai)
  (aR:bM (.ofNat 60) (.ofNat k)=false)
  (br:call (.fn 53) [.ptr r 0] ai=av.ret (.bool b) ax)
  (bp:(!b)=true):
  aL Tryz.prog Tryz.f28 none call [1] (ah.mk [(0,.ptr r 0)] [] .none h) (.ret)
   (ah.mk [(2,.int .i64 (.ofNat 2))] [] .none ax):=
 bI [2] (hs:=[.v (.bool false),.b false,.c (.int .i64 (.ofNat k)) ai,.b false,.c (.bool b) ax,.b true]) (by kernel_rfl)<| .cons (by kernel_rfl:eJ Tryz.prog h BinOp.eql 35 (Operand.tmp 3) (Operand.const (Value.pointer none)) (I.ptr r 0) I.bb=some (I.bool false))<| .cons (by kernel_rfl:false=false)<| .cons H1<| .cons aR<| .cons br<| .cons bp<| .nil
theorem Wx(call:aI->List I->J->av)(r k:Nat)(b:Bool)(h ai ax:J)
  (H1:call (.fn 52) [.ptr r 0] h=av.ret (.int .i64 (.ofNat k)) ai)
  (aR:bM (.ofNat 60) (.ofNat k)=false)
  (br:call (.fn 53) [.ptr r 0] ai=av.ret (.bool b) ax)
  (bp:(!b)=false):
  aL Tryz.prog Tryz.f28 none call [1] (ah.mk [(0,.ptr r 0)] [] .none h) (.ret)
   (ah.mk [(2,.int .i64 (.ofNat 0))] [] .none ax):=
 bI [2] (hs:=[.v (.bool false),.b false,.c (.int .i64 (.ofNat k)) ai,.b false,.c (.bool b) ax,.b false]) (by kernel_rfl)<| .cons (by kernel_rfl:eJ Tryz.prog h BinOp.eql 35 (Operand.tmp 3) (Operand.const (Value.pointer none)) (I.ptr r 0) I.bb=some (I.bool false))<| .cons (by kernel_rfl:false=false)<| .cons H1<| .cons aR<| .cons br<| .cons bp<| .nil
theorem FH(call:aI->List I->J->av)(r:Nat)(i:Nat)(h:J){Q:bn->ah->Prop}(H:∃aD:Nat,∃bj:Nat,∃bD:Nat,∃aH:b3,au h r (0+2)=some (.slice aD bj bD aH)/\i<bD/\∃bT:Nat,∃b5:Nat,∃cx:Nat,∃a9:b3,au (h.room 32) r (0+2)=some (.slice bT b5 cx a9)/\i<cx/\∃s1:List UInt8,au (h.room 32) bT (b5+i*1)=some (.str s1)/\∃ai:J,call (.fn 76) [.str s1] (h.room 32)=.ret (.bool true) ai/\(0<i->∃da:Nat,∃et:Nat,∃eO:Nat,∃du:b3,au ai r (0+2)=some (.slice da et eO du)/\(1<=i/\i<9223372036854775808)/\i-1<eO/\∃s2:List UInt8,au ai da (et+(i-1)*1)=some (.str s2)/\∃gf:Nat,∃iP:Nat,∃jz:Nat,∃gW:b3,au ai r (0+2)=some (.slice gf iP jz gW)/\i<jz/\∃bK:List UInt8,au ai gf (iP+i*1)=some (.str bK)/\∃bo:Bool,∃ax:J,call (.fn 77) [.str s2,.str bK] ai=.ret (.bool bo) ax/\(bo=true->i+1<9223372036854775808/\Q .nrm (ah.mk [(0,.ptr r 0),(4,.int .i64 (.ofNat (i+1)))] [] .none ax))/\(bo=false->Q .ret (ah.mk [(0,.ptr r 0),(2,.bool false),(4,.int .i64 (.ofNat i))] [] .none ax)))/\(¬0<i->i+1<9223372036854775808/\Q .nrm (ah.mk [(0,.ptr r 0),(4,.int .i64 (.ofNat (i+1)))] [] .none ai))):
  a3 Tryz.prog Tryz.f53 call [1,1,1,1,0,1,0,1,1,1,0,1,1,0,0] ⟨[(0,.ptr r 0),(4,.int .i64 (.ofNat i))],[],.none,h⟩ Q:=
 dB [(1125,.t),(123,.bA .fY),(131,.bA .fY),(135,.bA (.is (.bool true))),(144,.bA .fY),(152,.bA .fY)] [0,2,4] [(0,.v (.ptr r 0)),(4,.v (.int .i64 (.ofNat i)))] rfl (Eq.mp (by kernel_rfl) H)
theorem FI(call:aI->List I->J->av)(r:Nat)(i:Nat)(h:J){Q:bn->ah->Prop}(H:∃aD:Nat,∃bj:Nat,∃bD:Nat,∃aH:b3,au h r (0+3)=some (.slice aD bj bD aH)/\i<bD/\∃bT:Nat,∃b5:Nat,∃cx:Nat,∃a9:b3,au h r (0+3)=some (.slice bT b5 cx a9)/\i<cx/\∃da:Nat,au h bT (b5+i*1)=some (.ptr da 0)/\∃et:Nat,au h da (0+0)=some (.int .i64 (.ofNat et))/\(et=9->Q .ret (ah.mk [(0,.ptr r 0),(2,.bool false),(5,.int .i64 (.ofNat i))] [] .none (h.room 31)))/\(¬et=9->(et=1->Q .ret (ah.mk [(0,.ptr r 0),(2,.bool false),(5,.int .i64 (.ofNat i))] [] .none (h.room 31)))/\(¬et=1->(0<i->∃eO:Nat,∃gf:Nat,∃iP:Nat,∃du:b3,au (h.room 31) r (0+3)=some (.slice eO gf iP du)/\(1<=i/\i<9223372036854775808)/\i-1<iP/\∃v1:I,au (h.room 31) eO (gf+(i-1)*1)=some v1/\∃s1:List UInt8,∃ai:J,call (.fn 79) [v1] (h.room 31)=.ret (.str s1) ai/\∃jz:Nat,∃kj:Nat,∃pW:Nat,∃gW:b3,au ai r (0+3)=some (.slice jz kj pW gW)/\i<pW/\∃nW:Nat,au ai jz (kj+i*1)=some (.ptr nW 0)/\∃s2:List UInt8,∃ax:J,call (.fn 79) [.ptr nW 0] ai=.ret (.str s2) ax/\∃bo:Bool,∃aB:J,call (.fn 77) [.str s1,.str s2] ax=.ret (.bool bo) aB/\I.sound v1=true/\au (h.room 31) r (0+3)=some (.slice jz kj pW gW)/\au (h.room 31) jz (kj+i*1)=some (.ptr nW 0)/\(bo=true->i+1<9223372036854775808/\Q .nrm (ah.mk [(0,.ptr r 0),(5,.int .i64 (.ofNat (i+1)))] [] .none aB))/\(bo=false->Q .ret (ah.mk [(0,.ptr r 0),(2,.bool false),(5,.int .i64 (.ofNat i))] [] .none aB)))/\(¬0<i->i+1<9223372036854775808/\Q .nrm (ah.mk [(0,.ptr r 0),(5,.int .i64 (.ofNat (i+1)))] [] .none (h.room 31)))))):
  a3 Tryz.prog Tryz.f53 call [1,1,1,1,0,1,0,1,1,1,1,1,1,1,0,0,1,0,0] ⟨[(0,.ptr r 0),(5,.int .i64 (.ofNat i))],[],.none,h⟩ Q:=
 dB [(1175,.t),(173,.bA .fY),(181,.bA .fY),(201,.bA .fY),(205,.bA .o),(210,.bA .fY)] [0,2,5] [(0,.v (.ptr r 0)),(5,.v (.int .i64 (.ofNat i)))] rfl (Eq.mp (by kernel_rfl) H)
theorem wh{P:Program}{fn:Func}{call:aI->List I->J->av}{p:List Nat}{st hT:ah}{c9:bn}(h:a3 P fn call p st (λe s=>e=c9/\s=hT)):aL P fn none call p st c9 hT:=by
 obtain⟨e,s,r,rfl,rfl⟩:=h
 exact r
theorem FJ{m B R:Nat}{h:J}{kd hT bL bg c2:I}{bh:gM}{aO up:Nat}{ns:List a5}(dP:R<B)(al:h.get R=some (.cells [kd,hT,bL,bg,c2] 80 bh aO up))(aN:db B h bL (ns.map .str))(hlen:ns.length<=90000):∀(k i:Nat) (x:J),ns.length-i=k->i<=ns.length->(∀q,mh ns i=some q->hX q=true)->Ext B h x->
  ∃e Γ y,fx Tryz.prog Tryz.f53 none (Y (m+2)) [1,1,1,1,0,1,0,1,1,1,0,1,1,0] (k+1) ⟨[(0,.ptr R 0),(4,.int .i64 (Int.ofNat i))],[],.none,x⟩ e ⟨Γ,[],.none,y⟩/\
   ((e=.exit 3/\Γ=[(0,.ptr R 0)]/\jM (mh ns i) (ns.drop i)=true)\/(e=.ret/\Γ=[(2,.bool false)]/\jM (mh ns i) (ns.drop i)=false))/\Ext B h y
 |0,i,x,aq,af,aK,aa=>by
  obtain rfl:i=ns.length:=by omega
  rw[List.drop_of_length_le (Nat.le_refl _)]
  have e4:=(aa.get R dP).trans al
  exact⟨_,_,_,.exit (Wo (Y (m+2)) R _ ns.length bL x (aV e4 rfl) aN.v_ (eZ (by omega))) (by simp),.inl ⟨rfl,rfl,by rw[jM]⟩,aa⟩
 |k+1,i,x,aq,af,aK,aa=>by
  have ab:i<ns.length:=by omega
  have e4:=(aa.get R dP).trans al
  have aj:=aa.h_ (k:=32)
  have hZ:=(aj.get R dP).trans al
  rcases aN.strs with⟨_,rfl⟩|⟨b,off,cp,rfl,iW,iw⟩
  · simp at ab
  have aA:au (x.room 32) b (off+i*1)=some (.str ns[i]):=(nV aj iW).trans (iw i ab)
  rw[List.drop_eq_getElem_cons ab,jM]
  have aH:=LL m ns[i] (x.room 32)
  cases hf:hX ns[i] with
  |false=>
   rw[hf] at aH
   exact⟨_,_,_,.exit (Ws (Y (m+2)) R b off ns.length i (off+i*1) 0 0 0 ns[i] [] false cp x (x.room 32) x (aV e4 rfl) (dT ab) (aV hZ rfl) ⟨ab,rfl⟩ aA aH) (by simp),.inr ⟨rfl,rfl,by rw[Bool.false_and]⟩,aj⟩
  |true=>
   rw[hf] at aH
   have wi:mh ns (i+1)=some ns[i]:=by
    show ns[i]? =_
    exact List.getElem?_eq_getElem ab
   have nX:∀q,mh ns (i+1)=some q->hX q=true:=λq aM=>by
    rw[wi] at aM
    obtain rfl:=Option.some.inj aM
    exact hf
   cases i with
   |zero=>
    obtain⟨e,Γ,y,bz,bR,cU⟩:=FJ (m:=m) dP al aN hlen k 1 (x.room 32) (by omega) (by omega) nX aj
    refine⟨e,Γ,y,.step (wh (FH (Y (m+2)) R 0 x ⟨b,off,_,cp,aV e4 rfl,ab,b,off,_,cp,aV hZ rfl,ab,_,aA,_,aH,λak=>absurd ak (by omega),λ_=>⟨by omega,rfl,rfl⟩⟩)) bz,?_,cU⟩
    rw[wi] at bR
    rw[Bool.true_and,show mh ns 0=none from rfl,mg,Bool.true_and]
    exact bR
   |succ i=>
    have ad:i<ns.length:=by omega
    have pX:mh ns (i+1)=some ns[i]:=by
     show ns[i]? =_
     exact List.getElem?_eq_getElem ad
    have hC:=Ll (aK _ pX)
    have ay:au (x.room 32) b (off+i*1)=some (.str ns[i]):=(nV aj iW).trans (iw i ad)
    obtain⟨g,a9,du⟩:=BH (m+1) ns[i] ns[i+1] B (x.room 32) (by omega)
    have wc:=aj.trans (Nat.le_refl _) du
    have Dq:arith BinOp.sub IntKind.i64 (Int.ofNat (i+1)) (Int.ofNat 1)=some (.int .i64 (Int.ofNat i)):=vF (by omega) (by omega)
    rw[pX,mg,Bool.true_and]
    cases ag:dF ns[i] ns[i+1] with
    |true=>
     rw[ag] at a9
     obtain⟨e,Γ,y,bz,bR,cU⟩:=FJ (m:=m) dP al aN hlen k (i+1+1) g (by omega) (by omega) nX wc
     refine⟨e,Γ,y,.step (wh (FH (Y (m+2)) R (i+1) x ⟨b,off,_,cp,aV e4 rfl,ab,b,off,_,cp,aV hZ rfl,ab,_,aA,_,aH,λ_=>⟨b,off,_,cp,aV hZ rfl,⟨by omega,by omega⟩,ad,_,ay,b,off,_,cp,aV hZ rfl,ab,_,aA,_,g,a9,λ_=>⟨by omega,rfl,rfl⟩,λak=>(by cases ak)⟩,λak=>absurd ak (by omega)⟩)) bz,?_,cU⟩
     rw[wi] at bR
     rw[Bool.true_and]
     exact bR
    |false=>
     rw[ag] at a9
     exact⟨_,[(2,.bool false)],_,.exit (c5.post (wh (FH (Y (m+2)) R (i+1) x ⟨b,off,_,cp,aV e4 rfl,ab,b,off,_,cp,aV hZ rfl,ab,_,aA,_,aH,λ_=>⟨b,off,_,cp,aV hZ rfl,⟨by omega,by omega⟩,ad,_,ay,b,off,_,cp,aV hZ rfl,ab,_,aA,_,g,a9,λak=>(by cases ak),λ_=>⟨rfl,rfl⟩⟩,λak=>absurd ak (by omega)⟩)) ⟨rfl,trivial⟩) (by simp),.inr ⟨rfl,rfl,by rw[Bool.false_and]⟩,wc⟩
end Go.Proofs.cG
namespace Go.Proofs.cG
open Go aP Go.Proofs c8
set_option maxRecDepth 100000
set_option maxHeartbeats 1000000
theorem dJ.kind{B:Nat}{h:J}:∀{t:aE} {v:I},dJ B h t v->∃M,v=.ptr M 0/\∀x,Ext B h x->au x M (0+0)=some (.int .i64 (Int.ofNat t.k))
 |.mk cr cZ dp eS eG,v,ba=>by
  obtain⟨M,_,_,_,_,_,_,_,aA,ay,bw,_⟩:=ba
  exact⟨M,aA,λx j4=>aV ((j4.get M ay).trans bw) rfl⟩
theorem LS(p:Option a5)(k:Nat)(ey:List Nat)(w:a5)(ws:List a5):kM p (k::ey) (w::ws)=((decide (k≠9)&&decide (k≠1))&&(mg p w&&kM (some w) ey ws)):=by rw[kM]
theorem FK{m B R:Nat}{h:J}{kd hT bL bg c2:I}{bh:gM}{aO up:Nat}{xs:List aE}{vs:List I}{ws:List a5}(dP:R<B)(al:h.get R=some (.cells [kd,hT,bL,bg,c2] 80 bh aO up))(aC:db B h bg vs)(y1:dS B h xs vs)(jl:ws.length=vs.length)(hlen:vs.length<=90000)(y2:∀i (af:i<ws.length),ws[i].length<=90000)(a7:yW (m+1) B h vs ws):∀(k i:Nat) (x:J),vs.length-i=k->i<=vs.length->Ext B h x->
  ∃e Γ y,fx Tryz.prog Tryz.f53 none (Y (m+1)) [1,1,1,1,0,1,0,1,1,1,1,1,1,1,0,0,1,0] (k+1) ⟨[(0,.ptr R 0),(5,.int .i64 (Int.ofNat i))],[],.none,x⟩ e ⟨Γ,[],.none,y⟩/\
   ((e=.exit 5/\Γ=[(0,.ptr R 0)]/\kM (mh ws i) ((xs.map aE.k).drop i) (ws.drop i)=true)\/(e=.ret/\Γ=[(2,.bool false)]/\kM (mh ws i) ((xs.map aE.k).drop i) (ws.drop i)=false))/\Ext B h y
 |0,i,x,aq,af,aa=>by
  obtain rfl:i=vs.length:=by omega
  rw[List.drop_of_length_le (l:=ws) (by omega)]
  have e4:=(aa.get R dP).trans al
  refine⟨_,_,_,.exit (Wp (Y (m+1)) R _ vs.length bg x (aV e4 rfl) aC.oJ (eZ (by omega))) (by simp),.inl ⟨rfl,rfl,?_⟩,aa⟩
  cases (xs.map aE.k).drop vs.length<;>(rw[kM];all_goals simp)
 |k+1,i,x,aq,af,aa=>by
  have fw:=dS.len y1
  have ab:i<vs.length:=by omega
  have ar:i<ws.length:=by omega
  have aG:i<xs.length:=by omega
  have bJ:i<(xs.map aE.k).length:=by rw[List.length_map];exact aG
  have e4:=(aa.get R dP).trans al
  have aj:=aa.h_ (k:=31)
  have hZ:=(aj.get R dP).trans al
  obtain⟨M,g1,qY⟩:=(dS.get y1 i ab aG).kind
  have pV:=qY x aa
  have BP:=aC
  rcases aC with⟨_,rfl⟩|⟨b,off,cp,rfl,iW,iw,oL⟩
  · simp at ab
  have aA:au x b (off+i*1)=some (.ptr M 0):=by rw[<-g1];exact(nV aa iW).trans (iw i ab)
  have LU:au (x.room 31) b (off+i*1)=some (.ptr M 0):=by rw[<-g1];exact(nV aj iW).trans (iw i ab)
  have yZ:(xs.map aE.k)[i]=(xs[i]).k:=List.getElem_map aE.k
  rw[List.drop_eq_getElem_cons bJ,List.drop_eq_getElem_cons ar,LS,yZ]
  by_cases iO:(xs[i]).k=9
  · exact⟨_,_,_,.exit (Wt (Y (m+1)) R b off vs.length i (off+i*1) 0 0 0 M _ .bb [] [] false cp x x x x (aV e4 rfl) (dT ab) ⟨ab,rfl⟩ aA pV (mU iO)) (by simp),.inr ⟨rfl,rfl,by simp[iO]⟩,aj⟩
  by_cases bH:(xs[i]).k=1
  · exact⟨_,_,_,.exit (Wu (Y (m+1)) R b off vs.length i (off+i*1) 0 0 0 M _ .bb [] [] false cp x x x x (aV e4 rfl) (dT ab) ⟨ab,rfl⟩ aA pV (jw iO) (mU bH)) (by simp),.inr ⟨rfl,rfl,by simp[bH]⟩,aj⟩
  have wi:mh ws (i+1)=some ws[i]:=by
   show ws[i]? =_
   exact List.getElem?_eq_getElem ar
  rw[show(decide ((xs[i]).k≠9)&&decide ((xs[i]).k≠1))=true by simp[iO,bH],Bool.true_and]
  cases i with
  |zero=>
   obtain⟨e,Γ,y,bz,bR,cU⟩:=FK (m:=m) dP al BP y1 jl hlen y2 a7 k 1 (x.room 31) (by omega) (by omega) aj
   refine⟨e,Γ,y,.step (wh (FI (Y (m+1)) R 0 x ⟨b,off,_,cp,aV e4 rfl,ab,b,off,_,cp,aV e4 rfl,ab,_,aA,_,pV,λak=>absurd ak iO,λ_=>⟨λak=>absurd ak bH,λ_=>⟨λak=>absurd ak (by omega),λ_=>⟨by omega,rfl,rfl⟩⟩⟩⟩)) bz,?_,cU⟩
   rw[wi] at bR
   rw[show mh ws 0=none from rfl,mg,Bool.true_and]
   exact bR
  |succ i=>
   have g7:i<vs.length:=by omega
   have y3:i<ws.length:=by omega
   have Dw:i<xs.length:=by omega
   have pX:mh ws (i+1)=some ws[i]:=by
    show ws[i]? =_
    exact List.getElem?_eq_getElem y3
   have fL:=dS.get y1 i g7 Dw
   have ay:au (x.room 31) b (off+i*1)=some vs[i]:=(nV aj iW).trans (iw i g7)
   obtain⟨g,aH,bC⟩:=a7 i g7 y3 (x.room 31) aj
   have dZ:=aj.trans (Nat.le_refl _) bC
   have yX:=(dZ.get R dP).trans al
   have LV:au g b (off+(i+1)*1)=some (.ptr M 0):=by rw[<-g1];exact(nV dZ iW).trans (iw (i+1) ab)
   obtain⟨ax,a9,c0⟩:=a7 (i+1) ab ar g dZ
   rw[g1] at a9
   have sg:=dZ.trans (Nat.le_refl _) c0
   obtain⟨aB,du,dU⟩:=BH m ws[i] ws[i+1] B ax (y2 i y3)
   have gA:=sg.trans (Nat.le_refl _) dU
   have Dq:arith BinOp.sub IntKind.i64 (Int.ofNat (i+1)) (Int.ofNat 1)=some (.int .i64 (Int.ofNat i)):=vF (by omega) (by omega)
   rw[pX,mg]
   cases ag:dF ws[i] ws[i+1] with
   |true=>
    rw[ag] at du
    obtain⟨e,Γ,y,bz,bR,cU⟩:=FK (m:=m) dP al BP y1 jl hlen y2 a7 k (i+1+1) aB (by omega) (by omega) gA
    refine⟨e,Γ,y,.step (wh (FI (Y (m+1)) R (i+1) x ⟨b,off,_,cp,aV e4 rfl,ab,b,off,_,cp,aV e4 rfl,ab,_,aA,_,pV,λak=>absurd ak iO,λ_=>⟨λak=>absurd ak bH,λ_=>⟨λ_=>⟨b,off,_,cp,aV hZ rfl,⟨by omega,by omega⟩,g7,_,ay,_,g,aH,b,off,_,cp,aV yX rfl,ab,_,LV,_,ax,a9,_,aB,du,fL.snd,aV hZ rfl,LU,λ_=>⟨by omega,rfl,rfl⟩,λak=>(by cases ak)⟩,λak=>absurd ak (by omega)⟩⟩⟩)) bz,?_,cU⟩
    rw[wi] at bR
    rw[Bool.true_and]
    exact bR
   |false=>
    rw[ag] at du
    exact⟨_,[(2,.bool false)],_,.exit (c5.post (wh (FI (Y (m+1)) R (i+1) x ⟨b,off,_,cp,aV e4 rfl,ab,b,off,_,cp,aV e4 rfl,ab,_,aA,_,pV,λak=>absurd ak iO,λ_=>⟨λak=>absurd ak bH,λ_=>⟨λ_=>⟨b,off,_,cp,aV hZ rfl,⟨by omega,by omega⟩,g7,_,ay,_,g,aH,b,off,_,cp,aV yX rfl,ab,_,LV,_,ax,a9,_,aB,du,fL.snd,aV hZ rfl,LU,λak=>(by cases ak),λ_=>⟨rfl,rfl⟩⟩,λak=>absurd ak (by omega)⟩⟩⟩)) ⟨rfl,trivial⟩) (by simp),.inr ⟨rfl,rfl,by rw[Bool.false_and]⟩,gA⟩
end Go.Proofs.cG
namespace Go.Proofs.cG
open Go aP Go.Proofs c8
set_option maxRecDepth 100000
set_option maxHeartbeats 1000000
abbrev Wy(m B:Nat)(h:J)(xs:List aE)(vs:List I):Prop:=∀i (ab:i<vs.length) (ad:i<xs.length) x,Ext B h x->∃an,Y m (.fn 53) [vs[i]] x=.ret (.bool (ef xs[i])) an/\Ext B x an
theorem LW{m B R:Nat}{h:J}{kd hT bL bg c2:I}{bh:gM}{aO up:Nat}{xs:List aE}{vs:List I}(dP:R<B)(al:h.get R=some (.cells [kd,hT,bL,bg,c2] 80 bh aO up))(aC:db B h bg vs)(fw:vs.length=xs.length)(hlen:vs.length<=90000)(a7:Wy m B h xs vs):∀(k i:Nat) (x:J),vs.length-i=k->i<=vs.length->Ext B h x->
  ∃e Γ y,fx Tryz.prog Tryz.f53 none (Y m) [1,1,1,0,1,0] (k+1) ⟨[(0,.ptr R 0),(3,.int .i64 (Int.ofNat i))],[],.none,x⟩ e ⟨Γ,[],.none,y⟩/\
   ((e=.exit 0/\Γ=[(0,.ptr R 0)]/\hr (xs.drop i)=true)\/(e=.ret/\Γ=[(2,.bool false)]/\hr (xs.drop i)=false))/\Ext B h y
 |0,i,x,aq,af,aa=>by
  obtain rfl:i=vs.length:=by omega
  rw[List.drop_of_length_le (by omega)]
  have e4:=(aa.get R dP).trans al
  exact⟨_,_,_,.exit (Wb (Y m) R _ vs.length bg x (aV e4 rfl) aC.oJ (eZ (by omega))) (by simp),.inl ⟨rfl,rfl,by rw[hr]⟩,aa⟩
 |k+1,i,x,aq,af,aa=>by
  have ab:i<vs.length:=by omega
  have aG:i<xs.length:=by omega
  have e4:=(aa.get R dP).trans al
  have BP:=aC
  rcases aC with⟨_,rfl⟩|⟨b,off,cp,rfl,iW,iw,oL⟩
  · simp at ab
  have aA:au x b (off+i*1)=some vs[i]:=(nV aa iW).trans (iw i ab)
  obtain⟨g,aH,bC⟩:=a7 i ab aG x aa
  have dZ:=aa.trans (Nat.le_refl _) bC
  rw[List.drop_eq_getElem_cons aG,hr]
  cases ag:ef xs[i] with
  |true=>
   rw[ag] at aH
   obtain⟨e,Γ,y,bz,bR,cU⟩:=LW dP al BP fw hlen a7 k (i+1) g (by omega) (by omega) dZ
   refine⟨e,Γ,y,.step (Wd (Y m) R b off vs.length i (off+i*1) (i+1) true vs[i] cp x g (aV e4 rfl) (dT ab) ⟨ab,rfl⟩ aA aH rfl (kf ab (by omega))) bz,?_,cU⟩
   rw[Bool.true_and];exact bR
  |false=>
   rw[ag] at aH
   exact⟨_,[(2,.bool false)],_,.exit (c5.post (Wc (Y m) R b off vs.length i (off+i*1) 0 false vs[i] cp x g (aV e4 rfl) (dT ab) ⟨ab,rfl⟩ aA aH rfl) ⟨rfl,trivial⟩) (by simp),.inr ⟨rfl,rfl,by rw[Bool.false_and]⟩,dZ⟩
end Go.Proofs.cG
namespace Go.Proofs.cG
open Go aP Go.Proofs c8
set_option maxRecDepth 100000
set_option maxHeartbeats 1000000
theorem LX(nY:∀u,ef u=true->okW u=true/\(wr u).length<=300*sz u):∀(K:Nat) (t:aE),sz t<=K->sz t<=100->lf t<=90000->∀(m B:Nat) (h:J) (v:I),sz t+4<=m->B<=h.n->dJ B h t v->∃an,Y m (.fn 53) [v] h=.ret (.bool (ef t)) an/\Ext B h an
 |0,t,dk,_,_,_,_,_,_,_,_,_=>by
  have:=sh t
  omega
 |K+1,.mk k nm ns xs rt,dk,g3,iH,m,B,h,v,hm,cM,aC=>by
  obtain⟨R,bL,bg,c2,vs,bh,aO,up,rfl,ad,ar,aG,bJ,cu,dg⟩:=aC
  rw[mf] at dk g3 hm
  rw[lf] at iH
  obtain⟨m,rfl⟩:∃j,m=j+3:=⟨m-3,by omega⟩
  have fw:=dS.len cu
  have jm:=nU xs
  have jl:=vZ xs
  have mj:ef (.mk k nm ns xs rt)=((decide (1<=k)&&decide (k<=9))&&(hY k nm ns.length xs.length rt.isSome&&(hr xs&&eT k nm ns (xs.map aE.k) (cv xs) xs.length (ix rt)))):=by rw[ef]
  have fin:∀b y,aL Tryz.prog Tryz.f53 none (Y (m+2)) [1] ⟨[(0,.ptr R 0)],[],.none,h⟩ .ret ⟨[(2,.bool b)],[],.none,y⟩->b=ef (.mk k nm ns xs rt)->Ext B h y->∃an,Y (m+3) (.fn 53) [.ptr R 0] h=.ret (.bool (ef (.mk k nm ns xs rt))) an/\Ext B h an:=λb y aj ae aa=>by
   rw[<-ae]
   exact⟨y,eR (intr:=b0) (n:=m+2) (args:=[.ptr R 0]) Tryz.func53 (by kernel_rfl) rfl (by kernel_rfl) (aL.seq (p:=[]) (by kernel_rfl) (V4 (Y (m+2)) (.ptr R 0) h) aj) (.inl rfl) (by kernel_rfl),aa⟩
  rw[mj] at fin
  rw[mj]
  by_cases bH:k<1
  · exact fin false h (aL.iM (p:=[1]) (by kernel_rfl) (c5.post (V5 (Y (m+2)) R 0 h k (aV ar rfl) (dT bH)) ⟨rfl,trivial⟩) (by simp)) (by simp;omega) (Ext.refl _ _)
  by_cases iO:9<k
  · exact fin false h (aL.iM (p:=[1]) (by kernel_rfl) (c5.post (V6 (Y (m+2)) R 0 h k (aV ar rfl) (eZ bH) (dT iO)) ⟨rfl,trivial⟩) (by simp)) (by simp;omega) (Ext.refl _ _)
  have s1:=V7 (Y (m+2)) R 0 h k (aV ar rfl) (eZ bH) (eZ iO)
  have FL:(decide (1<=k)&&decide (k<=9))=true:=by simp;omega
  rw[FL] at fin⊢
  simp only[Bool.true_and] at fin⊢
  have si:Ext B h (h.room 54):=Ext.room B h 54
  have FM:B<=(h.room 54).n:=Nat.le_trans cM si.n
  have al:=(si.get R ad).trans ar
  have fg:=gU.ext si (Nat.le_refl _)
  have bT:=aG.b8 fg
  have b5:=bJ.b8 fg
  have cx:=dS.b8 fg _ _ cu
  have da:=ez.b8 fg _ _ dg
  have kC:if hY k nm ns.length vs.length rt.isSome=true then aL Tryz.prog Tryz.f53 none (Y (m+2)) [1,1,0] ⟨[(0,.ptr R 0)],[],.none,h⟩ .nrm ⟨[(0,.ptr R 0)],[],.none,h.room 54⟩
    else aL Tryz.prog Tryz.f53 none (Y (m+2)) [1,1,0] ⟨[(0,.ptr R 0)],[],.none,h⟩ .ret ⟨[(2,.bool false)],[],.none,h.room 54⟩:=by
   cases rt with
   |none=>
    obtain rfl:c2=.bb:=dg
    exact Wa ar aG.v_ bJ.oJ aG.snd bJ.snd
   |some u=>
    cases u with
    |mk cr cZ dp eS eG=>
     obtain⟨W,_,_,_,_,_,_,_,rfl,_⟩:=dg
     exact V_ ar aG.v_ bJ.oJ aG.snd bJ.snd
  rw[fw] at kC
  cases hC:hY k nm ns.length xs.length rt.isSome with
  |false=>
   rw[if_neg (by rw[hC];simp)] at kC
   rw[hC] at fin
   exact fin false _ (aL.seq (p:=[1]) (by kernel_rfl) s1 (aL.iM (p:=[1,1]) (by kernel_rfl) kC (by simp))) rfl si
  |true=>
   rw[if_pos hC] at kC
   rw[hC] at fin
   simp only[Bool.true_and] at fin⊢
   have a7:∀(u:aE),sz u<=K->sz u<=100->lf u<=90000->∀(m B:Nat) (h:J) (v:I),sz u+4<=m->B<=h.n->dJ B h u v->∃an,Y m (.fn 53) [v] h=.ret (.bool (ef u)) an/\Ext B h an:=LX nY K
   obtain⟨e,Γ,y,bz,bR,cU⟩:=LW (m:=m+2) (xs:=xs) ad al b5 fw (by omega) (λi i1 i2 x aa=>by
    have h8:=oH (List.getElem_mem i2)
    have jI:=Fm (List.getElem_mem i2)
    exact a7 xs[i] (by omega) (by omega) (by omega) (m+2) B x vs[i] (by omega) (Nat.le_trans FM aa.n) (dJ.b8 (gU.ext aa (Nat.le_refl _)) _ _ (dS.get cx i i1 i2))) vs.length 0 (h.room 54) (by omega) (by omega) (Ext.refl _ _)
   have iy:=fx.run (p:=[1,1,1,0,1,0]) (by kernel_rfl) bz (by omega)
   rw[List.drop_zero] at bR
   rcases bR with⟨rfl,rfl,iz⟩|⟨rfl,rfl,iz⟩
   · rw[iz] at fin
     simp only[Bool.true_and] at fin⊢
     have eF:=aL.seq (p:=[1,1,1,0]) (by kernel_rfl) (LR (Y (m+2)) R (h.room 54)) (aL.block (p:=[1,1,1,0,1]) (id:=0) (by kernel_rfl) iy)
     have hZ:=(cU.get R ad).trans al
     have LY:=si.trans (Nat.le_refl _) cU
     have BQ:=gU.ext cU (Nat.le_refl _)
     have LZ:=bT.b8 BQ
     have yN:=b5.b8 BQ
     have L0:=dS.b8 BQ _ _ cx
     have Wz:=ez.b8 BQ _ _ da
     have FN:B<=y.n:=Nat.le_trans FM cU.n
     have yY:=We (Y (m+2)) R k y (aV hZ rfl)
     have wj:∀b z,aL Tryz.prog Tryz.f53 none (Y (m+2)) [1,1,1,1,0,1] ⟨[(0,.ptr R 0),(98,.int .i64 (Int.ofNat k))],[],.none,y⟩ .ret ⟨[(2,.bool b)],[],.none,z⟩->b=eT k nm ns (xs.map aE.k) (cv xs) xs.length (ix rt)->Ext B y z->∃an,Y (m+3) (.fn 53) [.ptr R 0] h=.ret (.bool (hr xs&&eT k nm ns (xs.map aE.k) (cv xs) xs.length (ix rt))) an/\Ext B h an:=λb z aj ae aa=>by
      rw[iz,Bool.true_and]
      exact fin b z (aL.seq (p:=[1]) (by kernel_rfl) s1 (aL.seq (p:=[1,1]) (by kernel_rfl) kC (aL.seq (p:=[1,1,1]) (by kernel_rfl) eF (aL.iM (p:=[1,1,1,1]) (by kernel_rfl) (aL.seq (p:=[1,1,1,1,0]) (by kernel_rfl) yY aj) (by simp))))) ae (LY.trans (Nat.le_refl _) aa)
     have L1:∀z,aL Tryz.prog Tryz.f53 none (Y (m+2)) [1,1,1,1,0,1] ⟨[(0,.ptr R 0),(98,.int .i64 (Int.ofNat k))],[],.none,y⟩ .nrm ⟨[(0,.ptr R 0)],[],.none,z⟩->eT k nm ns (xs.map aE.k) (cv xs) xs.length (ix rt)=true->Ext B y z->∃an,Y (m+3) (.fn 53) [.ptr R 0] h=.ret (.bool (hr xs&&eT k nm ns (xs.map aE.k) (cv xs) xs.length (ix rt))) an/\Ext B h an:=λz aj ae aa=>by
      rw[iz,Bool.true_and]
      exact fin true z (aL.seq (p:=[1]) (by kernel_rfl) s1 (aL.seq (p:=[1,1]) (by kernel_rfl) kC (aL.seq (p:=[1,1,1]) (by kernel_rfl) eF (aL.seq (p:=[1,1,1,1]) (by kernel_rfl) (c5.post (Γ2:=[]) (aL.seq (p:=[1,1,1,1,0]) (by kernel_rfl) yY aj) trivial) (Wn (Y (m+2)) z))))) ae.symm (LY.trans (Nat.le_refl _) aa)
     have h8:∀i (i2:i<xs.length),ef xs[i]=true:=λi i2=>yS iz (List.getElem_mem i2)
     by_cases gI:k=6
     · subst gI
       exact wj (lD nm) y (Wf (Y (m+2)) R nm _ y y (aV hZ rfl) (VC m nm y)) (by simp[eT]) (Ext.refl _ _)
     by_cases gx:k=7
     · subst gx
       have uu:eT 7 nm ns (xs.map aE.k) (cv xs) xs.length (ix rt)=(decide (ns.length=xs.length)&&jM none ns):=by simp[eT]
       have BR:Ext B y (y.room 11):=Ext.room B y 11
       have iY:=(BR.get R ad).trans hZ
       have L2:=gU.ext BR (Nat.le_refl _)
       have fb:=LZ.b8 L2
       have ml:=yN.b8 L2
       by_cases aN:ns.length=vs.length
       · obtain⟨e,Γ,z,a8,a6,b4⟩:=FJ (m:=m) ad hZ LZ (by omega) ns.length 0 (y.room 11) (by omega) (by omega) (λq aM=>by cases aM) BR
         have fX:=fx.run (p:=[1,1,1,1,0,1,0,1,1,1,0,1,1,0]) (by kernel_rfl) a8 (by omega)
         rw[List.drop_zero,show mh ns 0=none from rfl] at a6
         rcases a6 with⟨rfl,rfl,fI⟩|⟨rfl,rfl,fI⟩
         · exact L1 z (Wh (Y (m+2)) R ns.length vs.length bL bg y z (aV iY rfl) fb.v_ (aV iY rfl) ml.oJ fb.snd ml.snd (BG aN) (c5.pre fX ⟨rfl,rfl,trivial⟩ rfl rfl rfl)) (by rw[uu,fI];simp;omega) b4
         · exact wj false z (Wi (Y (m+2)) R ns.length vs.length bL bg y z (aV iY rfl) fb.v_ (aV iY rfl) ml.oJ fb.snd ml.snd (BG aN) (c5.pre fX ⟨rfl,rfl,trivial⟩ rfl rfl rfl)) (by rw[uu,fI];simp) b4
       · exact wj false _ (Wg (Y (m+2)) R ns.length vs.length bL bg y (aV iY rfl) fb.v_ (aV iY rfl) ml.oJ fb.snd ml.snd (Fx aN)) (by rw[uu];simp;omega) BR
     by_cases g4:k=8
     · subst g4
       cases rt with
       |none=>simp[hY] at hC
       |some u=>
        rw[ld] at dk g3 hm
        rw[qW] at iH
        obtain⟨z,aH,a9⟩:=a7 u (by omega) (by omega) (by omega) (m+2) B y c2 (by omega) FN Wz
        exact wj (ef u) z (Wj (Y (m+2)) R c2 _ y z (aV hZ rfl) aH) (by simp[eT,ix]) a9
     by_cases gJ:k=9
     · subst gJ
       have wk:eT 9 nm ns (xs.map aE.k) (cv xs) xs.length (ix rt)=(kM none (xs.map aE.k) (cv xs)&&decide (2<=xs.length)):=by simp[eT]
       have L3:∀i (af:i<(cv xs).length),(cv xs)[i].length<=90000:=λi af=>by
        have i2:i<xs.length:=by omega
        have a2:=oH (List.getElem_mem i2)
        have aK:=(nY xs[i] (h8 i i2)).2
        rw[v3 xs i i2 af]
        omega
       obtain⟨e,Γ,z,a8,a6,b4⟩:=FK (m:=m+1) (ws:=cv xs) ad hZ yN L0 (by omega) (by omega) L3 (λi i1 i2 x aa=>by
        have i3:i<xs.length:=by omega
        have a2:=oH (List.getElem_mem i3)
        have ae:=L3 i i2
        rw[v3 xs i i3 i2] at ae⊢
        exact BK K xs[i] (by omega) (by omega) (nY xs[i] (h8 i i3)).1 (by omega) (m+1+1) B x vs[i] (by omega) (Nat.le_trans FN aa.n) (dJ.b8 (gU.ext aa (Nat.le_refl _)) _ _ (dS.get L0 i i1 i3))) vs.length 0 y (by omega) (by omega) (Ext.refl _ _)
       have fX:=fx.run (p:=[1,1,1,1,0,1,0,1,1,1,1,1,1,1,0,0,1,0]) (by kernel_rfl) a8 (by omega)
       rw[List.drop_zero,List.drop_zero,show mh (cv xs) 0=none from rfl] at a6
       rcases a6 with⟨rfl,rfl,fI⟩|⟨rfl,rfl,fI⟩
       · exact wj (fh (Int.ofNat 2) (Int.ofNat vs.length)) z (Wk (Y (m+2)) R vs.length bg y z (c5.pre fX ⟨rfl,rfl,trivial⟩ rfl rfl rfl) (aV ((b4.get R ad).trans hZ) rfl) yN.oJ) (by rw[wk,fI,VA,fw];rfl) b4
       · exact wj false z (Wl (Y (m+2)) R y z (c5.pre fX ⟨rfl,rfl,trivial⟩ rfl rfl rfl)) (by rw[wk,fI];rfl) b4
     · exact L1 y (Wm (Y (m+2)) R k y (jw gI) (jw gx) (jw g4) (jw gJ)) (by simp[eT,gI,gx,g4,gJ]) (Ext.refl _ _)
   · have eF:=aL.seq (p:=[1,1,1,0]) (by kernel_rfl) (LR (Y (m+2)) R (h.room 54)) (aL.tJ (p:=[1,1,1,0,1]) (id:=0) (by kernel_rfl) iy (by simp))
     exact fin false y (aL.seq (p:=[1]) (by kernel_rfl) s1 (aL.seq (p:=[1,1]) (by kernel_rfl) kC (aL.iM (p:=[1,1,1]) (by kernel_rfl) eF (by simp)))) (by rw[iz];rfl) (si.trans (Nat.le_refl _) cU)
end Go.Proofs.cG
namespace Go.Proofs.cG
open Go aP Go.Proofs c8
set_option maxRecDepth 100000
set_option maxHeartbeats 1000000
def dm:Option aE->Nat
 |none=>1
 |some t=>if 60<sz t then 3 else if ef t=true then 0 else 2
theorem L4{ot:Option aE}{B:Nat}{h:J}{v:I}(m:Nat)(g3:dq ot<=90000)(aN:∀t,ot=some t->lf t<=90000)(hm:dq ot+4<=m)(cM:B<=h.n)(aC:ez B h ot v):
  ∃an,Y (m+1) (.fn 28) [v] h=.ret (.int .i64 (Int.ofNat (dm ot))) an/\Ext B h an:=by
 have fin:∀c y,aL Tryz.prog Tryz.f28 none (Y m) [1] ⟨[(0,v)],[],.none,h⟩ .ret ⟨[(2,.int .i64 (Int.ofNat c))],[],.none,y⟩->c=dm ot->Ext B h y->∃an,Y (m+1) (.fn 28) [v] h=.ret (.int .i64 (Int.ofNat (dm ot))) an/\Ext B h an:=λc y aj ag aa=>by
  rw[<-ag]
  exact⟨y,eR (intr:=b0) (n:=m) (args:=[v]) Tryz.func28 (by kernel_rfl) rfl (by kernel_rfl) (aL.seq (p:=[]) (by kernel_rfl) (Wq (Y m) v h) aj) (.inl rfl) (by kernel_rfl),aa⟩
 cases ot with
 |none=>
  obtain rfl:v=.bb:=aC
  exact fin 1 h (Wr (Y m) h) rfl (Ext.refl _ _)
 |some t=>
  have bx:dq (some t)=sz t:=ld t
  obtain⟨m,rfl⟩:∃j,m=j+1:=⟨m-1,by omega⟩
  have aH:=U2 (m:=m) g3 (by omega) aC
  rw[bx] at aH g3 hm
  rcases aC.BF with rfl|⟨R,rfl⟩
  · cases t with
    |mk bH bY eb gO ho=>obtain⟨R,bL,bg,c2,vs,bh,aO,up,aa,_⟩:=aC;cases aa
  by_cases pU:60<sz t
  · exact fin 3 h (Wv (Y (m+1)) R _ false h h h aH (dT (by omega))) (by simp[dm,pU]) (Ext.refl _ _)
  · obtain⟨y,a9,c0⟩:=LX Ul (sz t) t (Nat.le_refl _) (by omega) (aN t rfl) (m+1) B h (.ptr R 0) (by omega) cM aC
    cases sm:ef t with
    |true=>
     rw[sm] at a9
     exact fin 0 y (Wx (Y (m+1)) R _ true h h y aH (eZ (by omega)) a9 rfl) (by simp[dm,pU,sm]) c0
    |false=>
     rw[sm] at a9
     exact fin 2 y (Ww (Y (m+1)) R _ false h h y aH (eZ (by omega)) a9 rfl) (by simp[dm,pU,sm]) c0
end Go.Proofs.cG
