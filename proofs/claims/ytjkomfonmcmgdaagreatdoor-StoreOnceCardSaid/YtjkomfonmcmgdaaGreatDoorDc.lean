/-
  PROVED HERE: contracts of functions (Dc). No condition beside each statement's own.
-/
import Derived.Test.YtjkomfonmcmgdaaGreatDoorDb
import Derived.Test.YtjkomfonmcmgdaaGreatDoorTx
set_option linter.unusedVariables false
set_option linter.unusedSimpArgs false
set_option maxRecDepth 100000
set_option maxHeartbeats 1000000
namespace Go.Proofs.jk
open Go bt Go.Proofs hy
theorem Yj(call:aP)(v:I)(h:J):
  aB Tryz.prog Tryz.f53 none call [0] (ah.mk [(0,v)] [] .none h) (.nrm)
   (ah.mk [(0,v)] [] .none h):=
 bx [0] (hs:=[]) (by kernel_rfl)<| .nil
theorem Yk(call:aP)(r k:Nat)(h:J)(fD:Nat)
  (H1:ar h r (0+0)=some (.int .i64 (.ofNat fD)))
  (aM:bP (.ofNat fD) (.ofNat 1)=true):
  aB Tryz.prog Tryz.f53 none call [1,0] (ah.mk [(0,.ptr r 0)] [] .none h) (.ret)
   (ah.mk [(0,.ptr r 0),(2,.bool false)] [] .none h):=
 bx [0,2] (hs:=[.v (.bool false),.b false,.b false,.b false,.b false,.v (.int .i64 (.ofNat fD)),.b false,.b false,.b true,.b true,.b true,.b true,.b true,.b true,.b true]) (by kernel_rfl)<| .cons (by kernel_rfl:dZ Tryz.prog h BinOp.eql 35 (Operand.tmp 7) (Operand.const (Value.pointer none)) (I.ptr r 0) I.aZ=some (I.bool false))<| .cons (rfl:false=false)<| .cons (rfl:false=false)<| .cons (rfl:false=false)<| .cons (rfl:false=false)<| .cons H1<| .cons (rfl:false=false)<| .cons (rfl:false=false)<| .cons aM<| .cons aM<| .cons aM<| .cons aM<| .cons aM<| .cons aM<| .cons (rfl:true=true)<| .nil
theorem Yl(call:aP)(r k:Nat)(h:J)(fD:Nat)
  (H1:ar h r (0+0)=some (.int .i64 (.ofNat fD)))
  (aM:bP (.ofNat fD) (.ofNat 1)=false)
  (bm:bP (.ofNat 9) (.ofNat fD)=true):
  aB Tryz.prog Tryz.f53 none call [1,0] (ah.mk [(0,.ptr r 0)] [] .none h) (.ret)
   (ah.mk [(0,.ptr r 0),(2,.bool false)] [] .none h):=
 bx [0,2] (hs:=[.v (.bool false),.b false,.b false,.b false,.b false,.v (.int .i64 (.ofNat fD)),.b false,.b false,.b false,.b false,.b false,.b false,.v (.int .i64 (.ofNat fD)),.b false,.b false,.b true]) (by kernel_rfl)<| .cons (by kernel_rfl:dZ Tryz.prog h BinOp.eql 35 (Operand.tmp 7) (Operand.const (Value.pointer none)) (I.ptr r 0) I.aZ=some (I.bool false))<| .cons (rfl:false=false)<| .cons (rfl:false=false)<| .cons (rfl:false=false)<| .cons (rfl:false=false)<| .cons H1<| .cons (rfl:false=false)<| .cons (rfl:false=false)<| .cons aM<| .cons aM<| .cons aM<| .cons aM<| .cons H1<| .cons aM<| .cons aM<| .cons bm<| .nil
theorem Ym(call:aP)(r k:Nat)(h:J)(fD:Nat)
  (H1:ar h r (0+0)=some (.int .i64 (.ofNat fD)))
  (aM:bP (.ofNat fD) (.ofNat 1)=false)
  (bm:bP (.ofNat 9) (.ofNat fD)=false):
  aB Tryz.prog Tryz.f53 none call [1,0] (ah.mk [(0,.ptr r 0)] [] .none h) (.nrm)
   (ah.mk [(0,.ptr r 0)] [] .none h):=
 bx [0,2] (hs:=[.v (.bool false),.b false,.b false,.b false,.b false,.v (.int .i64 (.ofNat fD)),.b false,.b false,.b false,.b false,.b false,.b false,.v (.int .i64 (.ofNat fD)),.b false,.b false,.b false]) (by kernel_rfl)<| .cons (by kernel_rfl:dZ Tryz.prog h BinOp.eql 35 (Operand.tmp 7) (Operand.const (Value.pointer none)) (I.ptr r 0) I.aZ=some (I.bool false))<| .cons (rfl:false=false)<| .cons (rfl:false=false)<| .cons (rfl:false=false)<| .cons (rfl:false=false)<| .cons H1<| .cons (rfl:false=false)<| .cons (rfl:false=false)<| .cons aM<| .cons aM<| .cons aM<| .cons aM<| .cons H1<| .cons aM<| .cons aM<| .cons bm<| .nil
theorem Yn(call:aP)(r:Nat)(h:J){Q:bu->ah->Prop}(H:∃s1:List UInt8,ar (h.room 54) r (0+1)=some (.str s1)/\∃aE:Nat,ar (h.room 54) r (0+0)=some (.int .i64 (.ofNat aE))/\(eS (!dd s1 []) (a8 (.ofNat aE) (.ofNat 6))=true->∃v1:I,ar (h.room 54) r (0+2)=some v1/\∃bf:Nat,cl Tryz.prog (h.room 54) 63 v1=some (.int .i64 (.ofNat bf))/\(0<bf->∃bH:Nat,ar (h.room 54) r (0+0)=some (.int .i64 (.ofNat bH))/\(bH=7->∃v2:I,ar (h.room 54) r (0+3)=some v2/\∃bU:Nat,cl Tryz.prog (h.room 54) 50 v2=some (.int .i64 (.ofNat bU))/\(0<bU->∃b_:Nat,ar (h.room 54) r (0+0)=some (.int .i64 (.ofNat b_))/\(b_<7->I.sound v1=true/\I.sound v2=true/\Q .ret (ah.mk [(0,.ptr r 0),(2,.bool false)] [] .none (h.room 54)))/\(¬b_<7->∃cv:Nat,ar (h.room 54) r (0+4)=some (.ptr cv 0)/\∃c4:Nat,ar (h.room 54) r (0+0)=some (.int .i64 (.ofNat c4))/\I.sound v1=true/\I.sound v2=true/\(eS true (a8 (.ofNat c4) (.ofNat 8))=true->Q .nrm (ah.mk [(0,.ptr r 0)] [] .none (h.room 54)))/\(eS true (a8 (.ofNat c4) (.ofNat 8))=false->Q .ret (ah.mk [(0,.ptr r 0),(2,.bool false)] [] .none (h.room 54)))))/\(¬0<bU->∃eo:Nat,ar (h.room 54) r (0+4)=some (.ptr eo 0)/\∃eG:Nat,ar (h.room 54) r (0+0)=some (.int .i64 (.ofNat eG))/\I.sound v1=true/\I.sound v2=true/\(eS true (a8 (.ofNat eG) (.ofNat 8))=true->Q .nrm (ah.mk [(0,.ptr r 0)] [] .none (h.room 54)))/\(eS true (a8 (.ofNat eG) (.ofNat 8))=false->Q .ret (ah.mk [(0,.ptr r 0),(2,.bool false)] [] .none (h.room 54)))))/\(¬bH=7->I.sound v1=true/\Q .ret (ah.mk [(0,.ptr r 0),(2,.bool false)] [] .none (h.room 54))))/\(¬0<bf->∃cz:I,ar (h.room 54) r (0+3)=some cz/\∃fK:Nat,cl Tryz.prog (h.room 54) 50 cz=some (.int .i64 (.ofNat fK))/\(0<fK->∃im:Nat,ar (h.room 54) r (0+0)=some (.int .i64 (.ofNat im))/\(im<7->I.sound v1=true/\I.sound cz=true/\Q .ret (ah.mk [(0,.ptr r 0),(2,.bool false)] [] .none (h.room 54)))/\(¬im<7->∃gQ:Nat,ar (h.room 54) r (0+4)=some (.ptr gQ 0)/\∃jV:Nat,ar (h.room 54) r (0+0)=some (.int .i64 (.ofNat jV))/\I.sound v1=true/\I.sound cz=true/\(eS true (a8 (.ofNat jV) (.ofNat 8))=true->Q .nrm (ah.mk [(0,.ptr r 0)] [] .none (h.room 54)))/\(eS true (a8 (.ofNat jV) (.ofNat 8))=false->Q .ret (ah.mk [(0,.ptr r 0),(2,.bool false)] [] .none (h.room 54)))))/\(¬0<fK->∃nN:Nat,ar (h.room 54) r (0+4)=some (.ptr nN 0)/\∃mg:Nat,ar (h.room 54) r (0+0)=some (.int .i64 (.ofNat mg))/\I.sound v1=true/\I.sound cz=true/\(eS true (a8 (.ofNat mg) (.ofNat 8))=true->Q .nrm (ah.mk [(0,.ptr r 0)] [] .none (h.room 54)))/\(eS true (a8 (.ofNat mg) (.ofNat 8))=false->Q .ret (ah.mk [(0,.ptr r 0),(2,.bool false)] [] .none (h.room 54))))))/\(eS (!dd s1 []) (a8 (.ofNat aE) (.ofNat 6))=false->Q .ret (ah.mk [(0,.ptr r 0),(2,.bool false)] [] .none (h.room 54)))):
  a4 Tryz.prog Tryz.f53 call [1,1,0] ⟨[(0,.ptr r 0)],[],.none,h⟩ Q:=
 dF [] [0,2] [(0,.v (.ptr r 0))] rfl (Eq.mp (by kernel_rfl) H)
theorem Yo(call:aP)(r:Nat)(h:J){Q:bu->ah->Prop}(H:∃s1:List UInt8,ar (h.room 54) r (0+1)=some (.str s1)/\∃aE:Nat,ar (h.room 54) r (0+0)=some (.int .i64 (.ofNat aE))/\(eS (!dd s1 []) (a8 (.ofNat aE) (.ofNat 6))=true->∃v1:I,ar (h.room 54) r (0+2)=some v1/\∃bf:Nat,cl Tryz.prog (h.room 54) 63 v1=some (.int .i64 (.ofNat bf))/\(0<bf->∃bH:Nat,ar (h.room 54) r (0+0)=some (.int .i64 (.ofNat bH))/\(bH=7->∃v2:I,ar (h.room 54) r (0+3)=some v2/\∃bU:Nat,cl Tryz.prog (h.room 54) 50 v2=some (.int .i64 (.ofNat bU))/\(0<bU->∃b_:Nat,ar (h.room 54) r (0+0)=some (.int .i64 (.ofNat b_))/\(b_<7->I.sound v1=true/\I.sound v2=true/\Q .ret (ah.mk [(0,.ptr r 0),(2,.bool false)] [] .none (h.room 54)))/\(¬b_<7->ar (h.room 54) r (0+4)=some .aZ/\∃cv:Nat,ar (h.room 54) r (0+0)=some (.int .i64 (.ofNat cv))/\I.sound v1=true/\I.sound v2=true/\(eS false (a8 (.ofNat cv) (.ofNat 8))=true->Q .nrm (ah.mk [(0,.ptr r 0)] [] .none (h.room 54)))/\(eS false (a8 (.ofNat cv) (.ofNat 8))=false->Q .ret (ah.mk [(0,.ptr r 0),(2,.bool false)] [] .none (h.room 54)))))/\(¬0<bU->ar (h.room 54) r (0+4)=some .aZ/\∃c4:Nat,ar (h.room 54) r (0+0)=some (.int .i64 (.ofNat c4))/\I.sound v1=true/\I.sound v2=true/\(eS false (a8 (.ofNat c4) (.ofNat 8))=true->Q .nrm (ah.mk [(0,.ptr r 0)] [] .none (h.room 54)))/\(eS false (a8 (.ofNat c4) (.ofNat 8))=false->Q .ret (ah.mk [(0,.ptr r 0),(2,.bool false)] [] .none (h.room 54)))))/\(¬bH=7->I.sound v1=true/\Q .ret (ah.mk [(0,.ptr r 0),(2,.bool false)] [] .none (h.room 54))))/\(¬0<bf->∃cz:I,ar (h.room 54) r (0+3)=some cz/\∃eo:Nat,cl Tryz.prog (h.room 54) 50 cz=some (.int .i64 (.ofNat eo))/\(0<eo->∃eG:Nat,ar (h.room 54) r (0+0)=some (.int .i64 (.ofNat eG))/\(eG<7->I.sound v1=true/\I.sound cz=true/\Q .ret (ah.mk [(0,.ptr r 0),(2,.bool false)] [] .none (h.room 54)))/\(¬eG<7->ar (h.room 54) r (0+4)=some .aZ/\∃fK:Nat,ar (h.room 54) r (0+0)=some (.int .i64 (.ofNat fK))/\I.sound v1=true/\I.sound cz=true/\(eS false (a8 (.ofNat fK) (.ofNat 8))=true->Q .nrm (ah.mk [(0,.ptr r 0)] [] .none (h.room 54)))/\(eS false (a8 (.ofNat fK) (.ofNat 8))=false->Q .ret (ah.mk [(0,.ptr r 0),(2,.bool false)] [] .none (h.room 54)))))/\(¬0<eo->ar (h.room 54) r (0+4)=some .aZ/\∃im:Nat,ar (h.room 54) r (0+0)=some (.int .i64 (.ofNat im))/\I.sound v1=true/\I.sound cz=true/\(eS false (a8 (.ofNat im) (.ofNat 8))=true->Q .nrm (ah.mk [(0,.ptr r 0)] [] .none (h.room 54)))/\(eS false (a8 (.ofNat im) (.ofNat 8))=false->Q .ret (ah.mk [(0,.ptr r 0),(2,.bool false)] [] .none (h.room 54))))))/\(eS (!dd s1 []) (a8 (.ofNat aE) (.ofNat 6))=false->Q .ret (ah.mk [(0,.ptr r 0),(2,.bool false)] [] .none (h.room 54)))):
  a4 Tryz.prog Tryz.f53 call [1,1,0] ⟨[(0,.ptr r 0)],[],.none,h⟩ Q:=
 dF [(68,.bq (.is .aZ))] [0,2] [(0,.v (.ptr r 0))] rfl (Eq.mp (by kernel_rfl) H)
theorem w9(x:Bool)(k c:Nat):eS x (a8 (Int.ofNat k) (Int.ofNat c))=!(x !=decide (k=c)):=by
 rw[u7];cases x<;>cases decide (k=c)<;>rfl
def zU(b:Bool)(s1 s2:ah)(e:bu)(s:ah):Prop:=if b=true then e=.nrm/\s=s1 else e=.ret/\s=s2
theorem M7{b:Bool}{s1 s2:ah}(h:b=true):zU b s1 s2 .nrm s1:=by unfold zU;rw[if_pos h];exact⟨rfl,rfl⟩
theorem w_{b:Bool}{s1 s2:ah}(h:b=false):zU b s1 s2 .ret s2:=by unfold zU;rw[if_neg (by rw[h];simp)];exact⟨rfl,rfl⟩
theorem M8{fn:Func}{call:aP}{p:List Nat}{st s1:ah}{b:Bool}{Γ Γ2:Env}{ad:J}(h:a4 Tryz.prog fn call p st (zU b s1 ⟨Γ,[],.none,ad⟩))(hs:cd Γ2 Γ):if b=true then aB Tryz.prog fn none call p st .nrm s1 else aB Tryz.prog fn none call p st .ret ⟨Γ2,[],.none,ad⟩:=by
 obtain⟨e,s,r,q⟩:=h
 cases b with
 |true=>obtain⟨rfl,rfl⟩:=q;exact r
 |false=>obtain⟨rfl,rfl⟩:=q;exact cQ.post r hs
theorem Yp{m R k N M w:Nat}{s:a7}{n a:I}{h:J}{bk:gS}{aI up:Nat}(zG:h.get R=some (.cells [.int .i64 (Int.ofNat k),.str s,n,a,.ptr w 0] 80 bk aI up))(aN:cl Tryz.prog (h.room 54) 63 n=some (.int .i64 (Int.ofNat N)))(aL:cl Tryz.prog (h.room 54) 50 a=some (.int .i64 (Int.ofNat M)))(jd:I.sound n=true)(nO:I.sound a=true):
  if ik k s N M true=true then aB Tryz.prog Tryz.f53 none (Y m) [1,1,0] ⟨[(0,.ptr R 0)],[],.none,h⟩ .nrm ⟨[(0,.ptr R 0)],[],.none,h.room 54⟩
  else aB Tryz.prog Tryz.f53 none (Y m) [1,1,0] ⟨[(0,.ptr R 0)],[],.none,h⟩ .ret ⟨[(2,.bool false)],[],.none,h.room 54⟩:=by
 have al:(h.room 54).get R=some (.cells [.int .i64 (Int.ofNat k),.str s,n,a,.ptr w 0] 80 bk aI up):=zG
 refine M8 (Γ:=[(0,.ptr R 0),(2,.bool false)]) (Yn (Y m) R h ⟨s,aT al rfl,k,aT al rfl,λaF=>?_,λaF=>?_⟩) ⟨rfl,trivial⟩
 · rw[w9] at aF
   refine⟨n,aT al rfl,N,aN,λgW=>⟨k,aT al rfl,λdi=>⟨a,aT al rfl,M,aL,λg0=>⟨k,aT al rfl,λhR=>absurd hR (by omega),λhR=>⟨w,aT al rfl,k,aT al rfl,jd,nO,λa6=>?_,λa6=>?_⟩⟩,λg0=>⟨w,aT al rfl,k,aT al rfl,jd,nO,λa6=>?_,λa6=>?_⟩⟩,λdi=>⟨jd,?_⟩⟩,λgW=>⟨a,aT al rfl,M,aL,λg0=>⟨k,aT al rfl,λhR=>⟨jd,nO,?_⟩,λhR=>⟨w,aT al rfl,k,aT al rfl,jd,nO,λa6=>?_,λa6=>?_⟩⟩,λg0=>⟨w,aT al rfl,k,aT al rfl,jd,nO,λa6=>?_,λa6=>?_⟩⟩⟩
   all_goals (try rw[w9] at a6)
   all_goals first
    |(refine M7 ?_;simp only[ik,aF,a6];simp;omega)
    |(refine w_ ?_;simp only[ik,aF,a6];simp;done)
    |(refine w_ ?_;simp[ik];omega)
 · rw[w9] at aF
   exact w_ (by simp only[ik,aF];simp)
theorem Yq{m R k N M:Nat}{s:a7}{n a:I}{h:J}{bk:gS}{aI up:Nat}(zG:h.get R=some (.cells [.int .i64 (Int.ofNat k),.str s,n,a,.aZ] 80 bk aI up))(aN:cl Tryz.prog (h.room 54) 63 n=some (.int .i64 (Int.ofNat N)))(aL:cl Tryz.prog (h.room 54) 50 a=some (.int .i64 (Int.ofNat M)))(jd:I.sound n=true)(nO:I.sound a=true):
  if ik k s N M false=true then aB Tryz.prog Tryz.f53 none (Y m) [1,1,0] ⟨[(0,.ptr R 0)],[],.none,h⟩ .nrm ⟨[(0,.ptr R 0)],[],.none,h.room 54⟩
  else aB Tryz.prog Tryz.f53 none (Y m) [1,1,0] ⟨[(0,.ptr R 0)],[],.none,h⟩ .ret ⟨[(2,.bool false)],[],.none,h.room 54⟩:=by
 have al:(h.room 54).get R=some (.cells [.int .i64 (Int.ofNat k),.str s,n,a,.aZ] 80 bk aI up):=zG
 refine M8 (Γ:=[(0,.ptr R 0),(2,.bool false)]) (Yo (Y m) R h ⟨s,aT al rfl,k,aT al rfl,λaF=>?_,λaF=>?_⟩) ⟨rfl,trivial⟩
 · rw[w9] at aF
   refine⟨n,aT al rfl,N,aN,λgW=>⟨k,aT al rfl,λdi=>⟨a,aT al rfl,M,aL,λg0=>⟨k,aT al rfl,λhR=>absurd hR (by omega),λhR=>⟨aT al rfl,k,aT al rfl,jd,nO,λa6=>?_,λa6=>?_⟩⟩,λg0=>⟨aT al rfl,k,aT al rfl,jd,nO,λa6=>?_,λa6=>?_⟩⟩,λdi=>⟨jd,?_⟩⟩,λgW=>⟨a,aT al rfl,M,aL,λg0=>⟨k,aT al rfl,λhR=>⟨jd,nO,?_⟩,λhR=>⟨aT al rfl,k,aT al rfl,jd,nO,λa6=>?_,λa6=>?_⟩⟩,λg0=>⟨aT al rfl,k,aT al rfl,jd,nO,λa6=>?_,λa6=>?_⟩⟩⟩
   all_goals (try rw[w9] at a6)
   all_goals first
    |(refine M7 ?_;simp only[ik,aF,a6];simp;omega)
    |(refine w_ ?_;simp only[ik,aF,a6];simp;done)
    |(refine w_ ?_;simp[ik];omega)
 · rw[w9] at aF
   exact w_ (by simp only[ik,aF];simp)
theorem M9(call:aP)(r:Nat)(h:J):
  aB Tryz.prog Tryz.f53 none call [1,1,1,0,0] (ah.mk [(0,.ptr r 0)] [] .none h) (.nrm)
   (ah.mk [(0,.ptr r 0),(3,.int .i64 (.ofNat 0))] [] .none h):=
 bx [0,3] (hs:=[]) (by kernel_rfl)<| .nil
theorem Yr(call:aP)(r i N:Nat)(v:I)(h:J)
  (H1:ar h r (0+3)=some v)
  (aM:cl Tryz.prog h 50 v=some (.int .i64 (.ofNat N)))
  (bm:bP (.ofNat i) (.ofNat N)=false):
  aB Tryz.prog Tryz.f53 none call [1,1,1,0,1,0,0] (ah.mk [(0,.ptr r 0),(3,.int .i64 (.ofNat i))] [] .none h) (.exit 0)
   (ah.mk [(0,.ptr r 0)] [] .none h):=
 bx [0] (hs:=[.v v,.o (.int .i64 (.ofNat N)),.b false]) (by kernel_rfl)<| .cons H1<| .cons aM<| .cons bm<| .nil
theorem Ys(call:aP)(r b off N i q j:Nat)(c:Bool)(x:I)(cp:bR)(h g:J)
  (H1:ar h r (0+3)=some (.slice b off N cp))
  (aM:bP (.ofNat i) (.ofNat N)=true)
  (bm:Nat.le (Nat.succ i) N/\I.ptr b q=I.ptr b (off+i*1))
  (bl:ar h b q=some x)
  (bY:call (.fn 53) [x] h=a9.ret (.bool c) g)
  (cG:(!c)=true):
  aB Tryz.prog Tryz.f53 none call [1,1,1,0,1,0,0] (ah.mk [(0,.ptr r 0),(3,.int .i64 (.ofNat i))] [] .none h) (.ret)
   (ah.mk [(0,.ptr r 0),(2,.bool false),(3,.int .i64 (.ofNat i))] [] .none g):=
 bx [0,2,3] (hs:=[.v (.slice b off N cp),.b true,.v (.slice b off N cp),.v (.ptr b q),.v x,.c (.bool c) g,.b true]) (by kernel_rfl)<| .cons H1<| .cons aM<| .cons H1<| .cons bm<| .cons bl<| .cons bY<| .cons cG<| .nil
theorem Yt(call:aP)(r b off N i q j:Nat)(c:Bool)(x:I)(cp:bR)(h g:J)
  (H1:ar h r (0+3)=some (.slice b off N cp))
  (aM:bP (.ofNat i) (.ofNat N)=true)
  (bm:Nat.le (Nat.succ i) N/\I.ptr b q=I.ptr b (off+i*1))
  (bl:ar h b q=some x)
  (bY:call (.fn 53) [x] h=a9.ret (.bool c) g)
  (cG:(!c)=false)
  (du:arith .add .i64 (.ofNat i) (.ofNat 1)=some (.int .i64 (.ofNat j))):
  aB Tryz.prog Tryz.f53 none call [1,1,1,0,1,0,0] (ah.mk [(0,.ptr r 0),(3,.int .i64 (.ofNat i))] [] .none h) (.nrm)
   (ah.mk [(0,.ptr r 0),(3,.int .i64 (.ofNat j))] [] .none g):=
 bx [0,2,3] (hs:=[.v (.slice b off N cp),.b true,.v (.slice b off N cp),.v (.ptr b q),.v x,.c (.bool c) g,.b false,.v (.int .i64 (.ofNat j))]) (by kernel_rfl)<| .cons H1<| .cons aM<| .cons H1<| .cons bm<| .cons bl<| .cons bY<| .cons cG<| .cons du<| .nil
theorem Yu(call:aP)(r k:Nat)(h:J)
  (H1:ar h r (0+0)=some (.int .i64 (.ofNat k))):
  aB Tryz.prog Tryz.f53 none call [1,1,1,1,0,0] (ah.mk [(0,.ptr r 0)] [] .none h) (.nrm)
   (ah.mk [(0,.ptr r 0),(98,.int .i64 (.ofNat k))] [] .none h):=
 bx [0,98] (hs:=[.v (.int .i64 (.ofNat k))]) (by kernel_rfl)<| .cons H1<| .nil
theorem Yv(call:aP)(r:Nat)(s:List UInt8)(b:Bool)(h g:J)
  (H1:ar h r (0+1)=some (.str s))
  (aM:call (.fn 81) [.str s] h=a9.ret (.bool b) g):
  aB Tryz.prog Tryz.f53 none call [1,1,1,1,0,1] (ah.mk [(0,.ptr r 0),(98,.int .i64 (.ofNat 6))] [] .none h) (.ret)
   (ah.mk [(2,.bool b)] [] .none g):=
 bx [2] (hs:=[.b true,.v (.str s),.c (.bool b) g]) (by kernel_rfl)<| .cons (by kernel_rfl:a8 (Int.ofNat 6) (Int.ofNat 6)=true)<| .cons H1<| .cons aM<| .nil
theorem Yw(call:aP)(r N M:Nat)(n a:I)(h:J)
  (H1:ar (J.room h 11) r (0+2)=some n)
  (aM:cl Tryz.prog (J.room h 11) 63 n=some (.int .i64 (.ofNat N)))
  (bm:ar (J.room h 11) r (0+3)=some a)
  (bl:cl Tryz.prog (J.room h 11) 50 a=some (.int .i64 (.ofNat M)))
  (bY:I.sound n=true:=by first|with_reducible assumption|rfl|exact c6.snd (by with_reducible assumption)|exact c6.gY (by with_reducible assumption)|exact dM.snd (by with_reducible assumption)|exact dM.gY (by with_reducible assumption)|exact dD.snd (by with_reducible assumption)|exact dD.gY (by with_reducible assumption))
  (cG:I.sound a=true:=by first|with_reducible assumption|rfl|exact c6.snd (by with_reducible assumption)|exact c6.gY (by with_reducible assumption)|exact dM.snd (by with_reducible assumption)|exact dM.gY (by with_reducible assumption)|exact dD.snd (by with_reducible assumption)|exact dD.gY (by with_reducible assumption))
  (du:(!a8 (.ofNat N) (.ofNat M))=true):
  aB Tryz.prog Tryz.f53 none call [1,1,1,1,0,1] (ah.mk [(0,.ptr r 0),(98,.int .i64 (.ofNat 7))] [] .none h) (.ret)
   (ah.mk [(2,.bool false)] [] .none (J.room h 11)):=
 bx [2] (hs:=[.b false,.b true,.v n,.o (.int .i64 (.ofNat N)),.v a,.o (.int .i64 (.ofNat M)),.b true]) (by kernel_rfl)<| .cons (by kernel_rfl:a8 (Int.ofNat 7) (Int.ofNat 6)=false)<| .cons (by kernel_rfl:a8 (Int.ofNat 7) (Int.ofNat 7)=true)<| .cons H1<| .cons aM<| .cons bm<| .cons bl<| .cons (by kernel_rfl:I.sound (I.ptr r 0)=true)<| .cons (by kernel_rfl:I.ptr r 0=I.ptr r 0)<| .cons (by kernel_rfl:I.sound (I.ptr r 0)=true)<| .cons (by kernel_rfl:I.ptr r 0=I.ptr r 0)<| .cons (by kernel_rfl:I.sound (I.ptr r (0+2))=true)<| .cons (by kernel_rfl:I.ptr r (0+2)=I.ptr r (0+2))<| .cons bY<| .cons H1<| .cons (by kernel_rfl:I.sound (I.int IntKind.i64 (Int.ofNat N))=true)<| .cons aM<| .cons (by kernel_rfl:I.sound (I.ptr r 0)=true)<| .cons (by kernel_rfl:I.ptr r 0=I.ptr r 0)<| .cons (by kernel_rfl:I.sound (I.ptr r 0)=true)<| .cons (by kernel_rfl:I.ptr r 0=I.ptr r 0)<| .cons (by kernel_rfl:I.sound (I.ptr r (0+3))=true)<| .cons (by kernel_rfl:I.ptr r (0+3)=I.ptr r (0+3))<| .cons cG<| .cons bm<| .cons (by kernel_rfl:I.sound (I.int IntKind.i64 (Int.ofNat M))=true)<| .cons bl<| .cons (by kernel_rfl:I.sound (I.bool !a8 (Int.ofNat N) (Int.ofNat M))=true)<| .cons (by kernel_rfl:(I.bool !a8 (Int.ofNat N) (Int.ofNat M))=I.bool !a8 (Int.ofNat N) (Int.ofNat M))<| .cons du<| .nil
theorem Yx(call:aP)(r N M:Nat)(n a:I)(h g:J)
  (H1:ar (J.room h 11) r (0+2)=some n)
  (aM:cl Tryz.prog (J.room h 11) 63 n=some (.int .i64 (.ofNat N)))
  (bm:ar (J.room h 11) r (0+3)=some a)
  (bl:cl Tryz.prog (J.room h 11) 50 a=some (.int .i64 (.ofNat M)))
  (bY:I.sound n=true:=by first|with_reducible assumption|rfl|exact c6.snd (by with_reducible assumption)|exact c6.gY (by with_reducible assumption)|exact dM.snd (by with_reducible assumption)|exact dM.gY (by with_reducible assumption)|exact dD.snd (by with_reducible assumption)|exact dD.gY (by with_reducible assumption))
  (cG:I.sound a=true:=by first|with_reducible assumption|rfl|exact c6.snd (by with_reducible assumption)|exact c6.gY (by with_reducible assumption)|exact dM.snd (by with_reducible assumption)|exact dM.gY (by with_reducible assumption)|exact dD.snd (by with_reducible assumption)|exact dD.gY (by with_reducible assumption))
  (du:(!a8 (.ofNat N) (.ofNat M))=false)
  (gP:aB Tryz.prog Tryz.f53 none call [1,1,1,1,0,1,0,1,1,1,0,1,1,0] (ah.mk [(4,.int .i64 (.ofNat 0)),(118,.bool !a8 (.ofNat N) (.ofNat M)),(106,.bool (a8 (.ofNat 7) (.ofNat 7))),(99,.bool (a8 (.ofNat 7) (.ofNat 6))),(0,.ptr r 0),(98,.int .i64 (.ofNat 7))] [] .none (J.room h 11)) (.exit 3) (ah.mk [(0,.ptr r 0)] [] .none g)):
  aB Tryz.prog Tryz.f53 none call [1,1,1,1,0,1] (ah.mk [(0,.ptr r 0),(98,.int .i64 (.ofNat 7))] [] .none h) (.nrm)
   (ah.mk [(0,.ptr r 0)] [] .none g):=
 bx [0] (hs:=[Hint.b false,Hint.b true,Hint.v n,Hint.o (I.int IntKind.i64 (Int.ofNat N)),Hint.v a,Hint.o (I.int IntKind.i64 (Int.ofNat M)),Hint.b false,Hint.loop (bu.exit 3) (ah.mk [(0,I.ptr r 0)] [] bL.none g)]) (by kernel_rfl)<| .cons (by kernel_rfl:a8 (Int.ofNat 7) (Int.ofNat 6)=false)<| .cons (by kernel_rfl:a8 (Int.ofNat 7) (Int.ofNat 7)=true)<| .cons H1<| .cons aM<| .cons bm<| .cons bl<| .cons (by kernel_rfl:I.sound (I.ptr r 0)=true)<| .cons (by kernel_rfl:I.ptr r 0=I.ptr r 0)<| .cons (by kernel_rfl:I.sound (I.ptr r 0)=true)<| .cons (by kernel_rfl:I.ptr r 0=I.ptr r 0)<| .cons (by kernel_rfl:I.sound (I.ptr r (0+2))=true)<| .cons (by kernel_rfl:I.ptr r (0+2)=I.ptr r (0+2))<| .cons bY<| .cons H1<| .cons (by kernel_rfl:I.sound (I.int IntKind.i64 (Int.ofNat N))=true)<| .cons aM<| .cons (by kernel_rfl:I.sound (I.ptr r 0)=true)<| .cons (by kernel_rfl:I.ptr r 0=I.ptr r 0)<| .cons (by kernel_rfl:I.sound (I.ptr r 0)=true)<| .cons (by kernel_rfl:I.ptr r 0=I.ptr r 0)<| .cons (by kernel_rfl:I.sound (I.ptr r (0+3))=true)<| .cons (by kernel_rfl:I.ptr r (0+3)=I.ptr r (0+3))<| .cons cG<| .cons bm<| .cons (by kernel_rfl:I.sound (I.int IntKind.i64 (Int.ofNat M))=true)<| .cons bl<| .cons (by kernel_rfl:I.sound (I.bool !a8 (Int.ofNat N) (Int.ofNat M))=true)<| .cons (by kernel_rfl:(I.bool !a8 (Int.ofNat N) (Int.ofNat M))=I.bool !a8 (Int.ofNat N) (Int.ofNat M))<| .cons du<| .cons gP<| .nil
theorem Yy(call:aP)(r N M:Nat)(n a:I)(h g:J)
  (H1:ar (J.room h 11) r (0+2)=some n)
  (aM:cl Tryz.prog (J.room h 11) 63 n=some (.int .i64 (.ofNat N)))
  (bm:ar (J.room h 11) r (0+3)=some a)
  (bl:cl Tryz.prog (J.room h 11) 50 a=some (.int .i64 (.ofNat M)))
  (bY:I.sound n=true:=by first|with_reducible assumption|rfl|exact c6.snd (by with_reducible assumption)|exact c6.gY (by with_reducible assumption)|exact dM.snd (by with_reducible assumption)|exact dM.gY (by with_reducible assumption)|exact dD.snd (by with_reducible assumption)|exact dD.gY (by with_reducible assumption))
  (cG:I.sound a=true:=by first|with_reducible assumption|rfl|exact c6.snd (by with_reducible assumption)|exact c6.gY (by with_reducible assumption)|exact dM.snd (by with_reducible assumption)|exact dM.gY (by with_reducible assumption)|exact dD.snd (by with_reducible assumption)|exact dD.gY (by with_reducible assumption))
  (du:(!a8 (.ofNat N) (.ofNat M))=false)
  (gP:aB Tryz.prog Tryz.f53 none call [1,1,1,1,0,1,0,1,1,1,0,1,1,0] (ah.mk [(4,.int .i64 (.ofNat 0)),(118,.bool !a8 (.ofNat N) (.ofNat M)),(106,.bool (a8 (.ofNat 7) (.ofNat 7))),(99,.bool (a8 (.ofNat 7) (.ofNat 6))),(0,.ptr r 0),(98,.int .i64 (.ofNat 7))] [] .none (J.room h 11)) (.ret) (ah.mk [(2,.bool false)] [] .none g)):
  aB Tryz.prog Tryz.f53 none call [1,1,1,1,0,1] (ah.mk [(0,.ptr r 0),(98,.int .i64 (.ofNat 7))] [] .none h) (.ret)
   (ah.mk [(2,.bool false)] [] .none g):=
 bx [2] (hs:=[Hint.b false,Hint.b true,Hint.v n,Hint.o (I.int IntKind.i64 (Int.ofNat N)),Hint.v a,Hint.o (I.int IntKind.i64 (Int.ofNat M)),Hint.b false,Hint.loop bu.ret (ah.mk [(2,I.bool false)] [] bL.none g)]) (by kernel_rfl)<| .cons (by kernel_rfl:a8 (Int.ofNat 7) (Int.ofNat 6)=false)<| .cons (by kernel_rfl:a8 (Int.ofNat 7) (Int.ofNat 7)=true)<| .cons H1<| .cons aM<| .cons bm<| .cons bl<| .cons (by kernel_rfl:I.sound (I.ptr r 0)=true)<| .cons (by kernel_rfl:I.ptr r 0=I.ptr r 0)<| .cons (by kernel_rfl:I.sound (I.ptr r 0)=true)<| .cons (by kernel_rfl:I.ptr r 0=I.ptr r 0)<| .cons (by kernel_rfl:I.sound (I.ptr r (0+2))=true)<| .cons (by kernel_rfl:I.ptr r (0+2)=I.ptr r (0+2))<| .cons bY<| .cons H1<| .cons (by kernel_rfl:I.sound (I.int IntKind.i64 (Int.ofNat N))=true)<| .cons aM<| .cons (by kernel_rfl:I.sound (I.ptr r 0)=true)<| .cons (by kernel_rfl:I.ptr r 0=I.ptr r 0)<| .cons (by kernel_rfl:I.sound (I.ptr r 0)=true)<| .cons (by kernel_rfl:I.ptr r 0=I.ptr r 0)<| .cons (by kernel_rfl:I.sound (I.ptr r (0+3))=true)<| .cons (by kernel_rfl:I.ptr r (0+3)=I.ptr r (0+3))<| .cons cG<| .cons bm<| .cons (by kernel_rfl:I.sound (I.int IntKind.i64 (Int.ofNat M))=true)<| .cons bl<| .cons (by kernel_rfl:I.sound (I.bool !a8 (Int.ofNat N) (Int.ofNat M))=true)<| .cons (by kernel_rfl:(I.bool !a8 (Int.ofNat N) (Int.ofNat M))=I.bool !a8 (Int.ofNat N) (Int.ofNat M))<| .cons du<| .cons gP<| .nil
theorem Yz(call:aP)(r:Nat)(v:I)(b:Bool)(h g:J)
  (H1:ar h r (0+4)=some v)
  (aM:call (.fn 53) [v] h=a9.ret (.bool b) g):
  aB Tryz.prog Tryz.f53 none call [1,1,1,1,0,1] (ah.mk [(0,.ptr r 0),(98,.int .i64 (.ofNat 8))] [] .none h) (.ret)
   (ah.mk [(2,.bool b)] [] .none g):=
 bx [2] (hs:=[.b false,.b false,.b true,.v v,.c (.bool b) g]) (by kernel_rfl)<| .cons (by kernel_rfl:a8 (Int.ofNat 8) (Int.ofNat 6)=false)<| .cons (by kernel_rfl:a8 (Int.ofNat 8) (Int.ofNat 7)=false)<| .cons (by kernel_rfl:a8 (Int.ofNat 8) (Int.ofNat 8)=true)<| .cons H1<| .cons aM<| .nil
theorem YA(call:aP)(r M:Nat)(a:I)(h g:J)
  (H1:aB Tryz.prog Tryz.f53 none call [1,1,1,1,0,1,0,1,1,1,1,1,1,1,0,0,1,0] (ah.mk [(5,.int .i64 (.ofNat 0)),(167,.bool (a8 (.ofNat 9) (.ofNat 9))),(160,.bool (a8 (.ofNat 9) (.ofNat 8))),(106,.bool (a8 (.ofNat 9) (.ofNat 7))),(99,.bool (a8 (.ofNat 9) (.ofNat 6))),(0,.ptr r 0),(98,.int .i64 (.ofNat 9))] [] .none h) (.exit 5) (ah.mk [(0,.ptr r 0)] [] .none g))
  (aM:ar g r (0+3)=some a)
  (bm:cl Tryz.prog g 50 a=some (.int .i64 (.ofNat M))):
  aB Tryz.prog Tryz.f53 none call [1,1,1,1,0,1] (ah.mk [(0,.ptr r 0),(98,.int .i64 (.ofNat 9))] [] .none h) (.ret)
   (ah.mk [(2,.bool (eQ (.ofNat 2) (.ofNat M)))] [] .none g):=
 bx [2] (hs:=[Hint.b false,Hint.b false,Hint.b false,Hint.b true,Hint.loop (bu.exit 5) (ah.mk [(0,I.ptr r 0)] [] bL.none g),Hint.v a,Hint.o (I.int IntKind.i64 (Int.ofNat M))]) (by kernel_rfl)<| .cons (by kernel_rfl:a8 (Int.ofNat 9) (Int.ofNat 6)=false)<| .cons (by kernel_rfl:a8 (Int.ofNat 9) (Int.ofNat 7)=false)<| .cons (by kernel_rfl:a8 (Int.ofNat 9) (Int.ofNat 8)=false)<| .cons (by kernel_rfl:a8 (Int.ofNat 9) (Int.ofNat 9)=true)<| .cons H1<| .cons aM<| .cons bm<| .nil
theorem YB(call:aP)(r:Nat)(h g:J)
  (H1:aB Tryz.prog Tryz.f53 none call [1,1,1,1,0,1,0,1,1,1,1,1,1,1,0,0,1,0] (ah.mk [(5,.int .i64 (.ofNat 0)),(167,.bool (a8 (.ofNat 9) (.ofNat 9))),(160,.bool (a8 (.ofNat 9) (.ofNat 8))),(106,.bool (a8 (.ofNat 9) (.ofNat 7))),(99,.bool (a8 (.ofNat 9) (.ofNat 6))),(0,.ptr r 0),(98,.int .i64 (.ofNat 9))] [] .none h) (.ret) (ah.mk [(2,.bool false)] [] .none g)):
  aB Tryz.prog Tryz.f53 none call [1,1,1,1,0,1] (ah.mk [(0,.ptr r 0),(98,.int .i64 (.ofNat 9))] [] .none h) (.ret)
   (ah.mk [(2,.bool false)] [] .none g):=
 bx [2] (hs:=[Hint.b false,Hint.b false,Hint.b false,Hint.b true,Hint.loop bu.ret (ah.mk [(2,I.bool false)] [] bL.none g)]) (by kernel_rfl)<| .cons (by kernel_rfl:a8 (Int.ofNat 9) (Int.ofNat 6)=false)<| .cons (by kernel_rfl:a8 (Int.ofNat 9) (Int.ofNat 7)=false)<| .cons (by kernel_rfl:a8 (Int.ofNat 9) (Int.ofNat 8)=false)<| .cons (by kernel_rfl:a8 (Int.ofNat 9) (Int.ofNat 9)=true)<| .cons H1<| .nil
theorem YC(call:aP)(r k:Nat)(h:J)
  (H1:a8 (.ofNat k) (.ofNat 6)=false)
  (aM:a8 (.ofNat k) (.ofNat 7)=false)
  (bm:a8 (.ofNat k) (.ofNat 8)=false)
  (bl:a8 (.ofNat k) (.ofNat 9)=false):
  aB Tryz.prog Tryz.f53 none call [1,1,1,1,0,1] (ah.mk [(0,.ptr r 0),(98,.int .i64 (.ofNat k))] [] .none h) (.nrm)
   (ah.mk [(0,.ptr r 0)] [] .none h):=
 bx [0] (hs:=[.b false,.b false,.b false,.b false]) (by kernel_rfl)<| .cons H1<| .cons aM<| .cons bm<| .cons bl<| .nil
theorem YD(call:aP)(h:J):
  aB Tryz.prog Tryz.f53 none call [1,1,1,1,1] (ah.mk [] [] .none h) (.ret)
   (ah.mk [(2,.bool true)] [] .none h):=
 bx [2] (hs:=[]) (by kernel_rfl)<| .nil
theorem YE(call:aP)(r i N:Nat)(v:I)(h:J)
  (H1:ar h r (0+2)=some v)
  (aM:cl Tryz.prog h 63 v=some (.int .i64 (.ofNat N)))
  (bm:bP (.ofNat i) (.ofNat N)=false):
  aB Tryz.prog Tryz.f53 none call [1,1,1,1,0,1,0,1,1,1,0,1,1,0,0] (ah.mk [(0,.ptr r 0),(4,.int .i64 (.ofNat i))] [] .none h) (.exit 3)
   (ah.mk [(0,.ptr r 0)] [] .none h):=
 bx [0] (hs:=[.v v,.o (.int .i64 (.ofNat N)),.b false]) (by kernel_rfl)<| .cons H1<| .cons aM<| .cons bm<| .nil
theorem YF(call:aP)(r i N:Nat)(v:I)(h:J)
  (H1:ar h r (0+3)=some v)
  (aM:cl Tryz.prog h 50 v=some (.int .i64 (.ofNat N)))
  (bm:bP (.ofNat i) (.ofNat N)=false):
  aB Tryz.prog Tryz.f53 none call [1,1,1,1,0,1,0,1,1,1,1,1,1,1,0,0,1,0,0] (ah.mk [(0,.ptr r 0),(5,.int .i64 (.ofNat i))] [] .none h) (.exit 5)
   (ah.mk [(0,.ptr r 0)] [] .none h):=
 bx [0] (hs:=[.v v,.o (.int .i64 (.ofNat N)),.b false]) (by kernel_rfl)<| .cons H1<| .cons aM<| .cons bm<| .nil
theorem YG(call:aP)(v:I)(h:J):
  aB Tryz.prog Tryz.f28 none call [0] (ah.mk [(0,v)] [] .none h) (.nrm)
   (ah.mk [(0,v)] [] .none h):=
 bx [0] (hs:=[]) (by kernel_rfl)<| .nil
theorem YH(call:aP)(h:J):
  aB Tryz.prog Tryz.f28 none call [1] (ah.mk [(0,.aZ)] [] .none h) (.ret)
   (ah.mk [(2,.int .i64 (.ofNat 1))] [] .none h):=
 bx [2] (hs:=[.v (.bool true),.b true]) (by kernel_rfl)<| .cons (by kernel_rfl:dZ Tryz.prog h BinOp.eql 35 (Operand.tmp 3) (Operand.const (Value.pointer none)) I.aZ I.aZ=some (I.bool true))<| .cons (rfl:true=true)<| .nil
theorem YI(call:aP)(r b off N i q a1 j mB:Nat)(s t:List UInt8)(d:Bool)(cp:bR)(h g au:J)
  (H1:ar h r (0+2)=some (.slice b off N cp))
  (aM:bP (.ofNat i) (.ofNat N)=true)
  (bm:ar (J.room h 32) r (0+2)=some (.slice b off N cp))
  (bl:Nat.le (Nat.succ i) N/\I.ptr b q=I.ptr b (off+i*1))
  (bY:ar (J.room h 32) b q=some (.str s))
  (cG:call (.fn 76) [.str s] (J.room h 32)=a9.ret (.bool false) g):
  aB Tryz.prog Tryz.f53 none call [1,1,1,1,0,1,0,1,1,1,0,1,1,0,0] (ah.mk [(0,.ptr r 0),(4,.int .i64 (.ofNat i))] [] .none h) (.ret)
   (ah.mk [(2,.bool false)] [] .none g):=
 bx [2] (hs:=[.v (.slice b off N cp),.b true,.v (.slice b off N cp),.v (.ptr b q),.v (.str s),.c (.bool false) g,.b true,.b true,.b true,.b true,.b true,.b true]) (by kernel_rfl)<| .cons H1<| .cons aM<| .cons bm<| .cons bl<| .cons bY<| .cons cG<| .cons (by kernel_rfl:(!false)=true)<| .cons (by kernel_rfl:(!false)=true)<| .cons (by kernel_rfl:(!false)=true)<| .cons (by kernel_rfl:(!false)=true)<| .cons (by kernel_rfl:(!false)=true)<| .cons (by kernel_rfl:I.sound (I.ptr r 0)=true)<| .cons (by kernel_rfl:I.ptr r 0=I.ptr r 0)<| .cons (by kernel_rfl:I.sound (I.ptr r 0)=true)<| .cons (by kernel_rfl:I.ptr r 0=I.ptr r 0)<| .cons (by kernel_rfl:I.sound (I.ptr r (0+2))=true)<| .cons (by kernel_rfl:I.ptr r (0+2)=I.ptr r (0+2))<| .cons (by kernel_rfl:I.sound (I.slice b off N cp)=true)<| .cons bm<| .cons (by kernel_rfl:I.sound (I.int IntKind.i64 (Int.ofNat i))=true)<| .cons (by kernel_rfl:I.int IntKind.i64 (Int.ofNat i)=I.int IntKind.i64 (Int.ofNat i))<| .cons (by kernel_rfl:I.sound (I.ptr b q)=true)<| .cons bl<| .cons (by kernel_rfl:I.sound (I.str s)=true)<| .cons bY<| .cons (by kernel_rfl:I.sound (I.bool !false)=true)<| .cons (by kernel_rfl:(I.bool !false)=I.bool !false)<| .cons (by kernel_rfl:I.sound (I.bool !false)=true)<| .cons (by kernel_rfl:(I.bool !false)=I.bool !false)<| .cons (rfl:false=false)<| .cons (rfl:false=false)<| .cons (rfl:false=false)<| .cons (rfl:false=false)<| .cons (by kernel_rfl:I.sound (I.bool true)=true)<| .cons (by kernel_rfl:(bif !false then I.bool true else I.aO [])=I.bool true)<| .cons (rfl:true=true)<| .nil
theorem YJ(call:aP)(r b off N i q a1 j mB m k:Nat)(x:I)(s t:List UInt8)(d:Bool)(cp:bR)(h g au ay:J)
  (H1:ar h r (0+3)=some (.slice b off N cp))
  (aM:bP (.ofNat i) (.ofNat N)=true)
  (bm:Nat.le (Nat.succ i) N/\I.ptr b q=I.ptr b (off+i*1))
  (bl:ar h b q=some (.ptr m 0))
  (bY:ar h m (0+0)=some (.int .i64 (.ofNat k)))
  (cG:a8 (.ofNat k) (.ofNat 9)=true):
  aB Tryz.prog Tryz.f53 none call [1,1,1,1,0,1,0,1,1,1,1,1,1,1,0,0,1,0,0] (ah.mk [(0,.ptr r 0),(5,.int .i64 (.ofNat i))] [] .none h) (.ret)
   (ah.mk [(2,.bool false)] [] .none (J.room h 31)):=
 bx [2] (hs:=[.v (.slice b off N cp),.b true,.v (.slice b off N cp),.v (.ptr b q),.v (.ptr m 0),.v (.int .i64 (.ofNat k)),.b true,.b true,.b true,.b true,.b true,.b true,.b true,.b true,.b true]) (by kernel_rfl)<| .cons H1<| .cons aM<| .cons H1<| .cons bm<| .cons bl<| .cons bY<| .cons cG<| .cons cG<| .cons cG<| .cons (rfl:true=true)<| .cons (rfl:true=true)<| .cons (rfl:true=true)<| .cons (rfl:true=true)<| .cons (rfl:true=true)<| .cons (by kernel_rfl:I.sound (I.int IntKind.i64 (Int.ofNat k))=true)<| .cons (by kernel_rfl:I.int IntKind.i64 (Int.ofNat k)=I.int IntKind.i64 (Int.ofNat k))<| .cons (by kernel_rfl:I.sound (I.bool (a8 (Int.ofNat k) (Int.ofNat 9)))=true)<| .cons (by kernel_rfl:I.bool (a8 (Int.ofNat k) (Int.ofNat 9))=I.bool (a8 (Int.ofNat k) (Int.ofNat 9)))<| .cons (by kernel_rfl:I.sound (I.bool (a8 (Int.ofNat k) (Int.ofNat 9)))=true)<| .cons (by kernel_rfl:I.bool (a8 (Int.ofNat k) (Int.ofNat 9))=I.bool (a8 (Int.ofNat k) (Int.ofNat 9)))<| .cons (wv cG)<| .cons (wv cG)<| .cons (by kernel_rfl:I.sound (I.bool true)=true)<| .cons (by rw[cG];first|done|rfl:(bif a8 (Int.ofNat k) (Int.ofNat 9) then I.bool true else I.aO [])=I.bool true)<| .cons (by kernel_rfl:I.sound (I.bool true)=true)<| .cons (by kernel_rfl:I.bool true=I.bool true)<| .cons (rfl:false=false)<| .cons (rfl:false=false)<| .cons (rfl:false=false)<| .cons (rfl:false=false)<| .cons (by kernel_rfl:I.sound (I.bool true)=true)<| .cons (by kernel_rfl:(bif true then I.bool true else I.aO [])=I.bool true)<| .cons (rfl:true=true)<| .nil
theorem YK(call:aP)(r b off N i q a1 j mB m k:Nat)(x:I)(s t:List UInt8)(d:Bool)(cp:bR)(h g au ay:J)
  (H1:ar h r (0+3)=some (.slice b off N cp))
  (aM:bP (.ofNat i) (.ofNat N)=true)
  (bm:Nat.le (Nat.succ i) N/\I.ptr b q=I.ptr b (off+i*1))
  (bl:ar h b q=some (.ptr m 0))
  (bY:ar h m (0+0)=some (.int .i64 (.ofNat k)))
  (cG:a8 (.ofNat k) (.ofNat 9)=false)
  (du:a8 (.ofNat k) (.ofNat 1)=true):
  aB Tryz.prog Tryz.f53 none call [1,1,1,1,0,1,0,1,1,1,1,1,1,1,0,0,1,0,0] (ah.mk [(0,.ptr r 0),(5,.int .i64 (.ofNat i))] [] .none h) (.ret)
   (ah.mk [(2,.bool false)] [] .none (J.room h 31)):=
 bx [2] (hs:=[.v (.slice b off N cp),.b true,.v (.slice b off N cp),.v (.ptr b q),.v (.ptr m 0),.v (.int .i64 (.ofNat k)),.b false,.b false,.b false,.b true,.b true,.b true,.b true,.b true,.b true]) (by kernel_rfl)<| .cons H1<| .cons aM<| .cons H1<| .cons bm<| .cons bl<| .cons bY<| .cons cG<| .cons cG<| .cons cG<| .cons du<| .cons du<| .cons du<| .cons du<| .cons du<| .cons (by kernel_rfl:I.sound (I.int IntKind.i64 (Int.ofNat k))=true)<| .cons (by kernel_rfl:I.int IntKind.i64 (Int.ofNat k)=I.int IntKind.i64 (Int.ofNat k))<| .cons (by kernel_rfl:I.sound (I.bool (a8 (Int.ofNat k) (Int.ofNat 9)))=true)<| .cons (by kernel_rfl:I.bool (a8 (Int.ofNat k) (Int.ofNat 9))=I.bool (a8 (Int.ofNat k) (Int.ofNat 9)))<| .cons (by kernel_rfl:I.sound (I.bool (a8 (Int.ofNat k) (Int.ofNat 9)))=true)<| .cons (by kernel_rfl:I.bool (a8 (Int.ofNat k) (Int.ofNat 9))=I.bool (a8 (Int.ofNat k) (Int.ofNat 9)))<| .cons (eE.cons (by kernel_rfl:I.sound (I.int IntKind.i64 (Int.ofNat k))=true)<|eE.cons (by kernel_rfl:I.int IntKind.i64 (Int.ofNat k)=I.int IntKind.i64 (Int.ofNat k))<|eE.nil)<| .cons (eE.cons (by kernel_rfl:I.sound (I.bool (a8 (Int.ofNat k) (Int.ofNat 1)))=true)<|eE.cons (by kernel_rfl:I.bool (a8 (Int.ofNat k) (Int.ofNat 1))=I.bool (a8 (Int.ofNat k) (Int.ofNat 1)))<|eE.nil)<| .cons (by kernel_rfl:I.sound (I.bool (a8 (Int.ofNat k) (Int.ofNat 1)))=true)<| .cons (by rw[cG];first|done|rfl:(bif a8 (Int.ofNat k) (Int.ofNat 9) then I.bool true else I.bool (a8 (Int.ofNat k) (Int.ofNat 1)))=I.bool (a8 (Int.ofNat k) (Int.ofNat 1)))<| .cons (by kernel_rfl:I.sound (I.bool (a8 (Int.ofNat k) (Int.ofNat 1)))=true)<| .cons (by kernel_rfl:I.bool (a8 (Int.ofNat k) (Int.ofNat 1))=I.bool (a8 (Int.ofNat k) (Int.ofNat 1)))<| .cons (wv du)<| .cons (wv du)<| .cons (wv du)<| .cons (wv du)<| .cons (by kernel_rfl:I.sound (I.bool true)=true)<| .cons (by rw[du];first|done|rfl:(bif a8 (Int.ofNat k) (Int.ofNat 1) then I.bool true else I.aO [])=I.bool true)<| .cons (rfl:true=true)<| .nil
theorem YL(call:aP)(r k:Nat)(b:Bool)(h ai au:J)
  (H1:call (.fn 52) [.ptr r 0] h=a9.ret (.int .i64 (.ofNat k)) ai)
  (aM:bP (.ofNat 60) (.ofNat k)=true):
  aB Tryz.prog Tryz.f28 none call [1] (ah.mk [(0,.ptr r 0)] [] .none h) (.ret)
   (ah.mk [(2,.int .i64 (.ofNat 3))] [] .none ai):=
 bx [2] (hs:=[.v (.bool false),.b false,.c (.int .i64 (.ofNat k)) ai,.b true]) (by kernel_rfl)<| .cons (by kernel_rfl:dZ Tryz.prog h BinOp.eql 35 (Operand.tmp 3) (Operand.const (Value.pointer none)) (I.ptr r 0) I.aZ=some (I.bool false))<| .cons (rfl:false=false)<| .cons H1<| .cons aM<| .nil
theorem YM(call:aP)(r k:Nat)(b:Bool)(h ai au:J)
  (H1:call (.fn 52) [.ptr r 0] h=a9.ret (.int .i64 (.ofNat k)) ai)
  (aM:bP (.ofNat 60) (.ofNat k)=false)
  (bm:call (.fn 53) [.ptr r 0] ai=a9.ret (.bool b) au)
  (bl:(!b)=true):
  aB Tryz.prog Tryz.f28 none call [1] (ah.mk [(0,.ptr r 0)] [] .none h) (.ret)
   (ah.mk [(2,.int .i64 (.ofNat 2))] [] .none au):=
 bx [2] (hs:=[.v (.bool false),.b false,.c (.int .i64 (.ofNat k)) ai,.b false,.c (.bool b) au,.b true]) (by kernel_rfl)<| .cons (by kernel_rfl:dZ Tryz.prog h BinOp.eql 35 (Operand.tmp 3) (Operand.const (Value.pointer none)) (I.ptr r 0) I.aZ=some (I.bool false))<| .cons (rfl:false=false)<| .cons H1<| .cons aM<| .cons bm<| .cons bl<| .nil
theorem YN(call:aP)(r k:Nat)(b:Bool)(h ai au:J)
  (H1:call (.fn 52) [.ptr r 0] h=a9.ret (.int .i64 (.ofNat k)) ai)
  (aM:bP (.ofNat 60) (.ofNat k)=false)
  (bm:call (.fn 53) [.ptr r 0] ai=a9.ret (.bool b) au)
  (bl:(!b)=false):
  aB Tryz.prog Tryz.f28 none call [1] (ah.mk [(0,.ptr r 0)] [] .none h) (.ret)
   (ah.mk [(2,.int .i64 (.ofNat 0))] [] .none au):=
 bx [2] (hs:=[.v (.bool false),.b false,.c (.int .i64 (.ofNat k)) ai,.b false,.c (.bool b) au,.b false]) (by kernel_rfl)<| .cons (by kernel_rfl:dZ Tryz.prog h BinOp.eql 35 (Operand.tmp 3) (Operand.const (Value.pointer none)) (I.ptr r 0) I.aZ=some (I.bool false))<| .cons (rfl:false=false)<| .cons H1<| .cons aM<| .cons bm<| .cons bl<| .nil
theorem GW(call:aP)(r i:Nat)(h:J){Q:bu->ah->Prop}(H:∃aE:Nat,∃bf:Nat,∃bH:Nat,∃aF:bR,ar h r (0+2)=some (.slice aE bf bH aF)/\i<bH/\∃bU:Nat,∃b_:Nat,∃cv:Nat,∃a6:bR,ar (h.room 32) r (0+2)=some (.slice bU b_ cv a6)/\i<cv/\∃s1:List UInt8,ar (h.room 32) bU (b_+i*1)=some (.str s1)/\∃ai:J,call (.fn 76) [.str s1] (h.room 32)=.ret (.bool true) ai/\(0<i->∃c4:Nat,∃eo:Nat,∃eG:Nat,∃dy:bR,ar ai r (0+2)=some (.slice c4 eo eG dy)/\(1<=i/\i<9223372036854775808)/\i-1<eG/\∃s2:List UInt8,ar ai c4 (eo+(i-1)*1)=some (.str s2)/\∃fK:Nat,∃im:Nat,∃gQ:Nat,∃fO:bR,ar ai r (0+2)=some (.slice fK im gQ fO)/\i<gQ/\∃bN:List UInt8,ar ai fK (im+i*1)=some (.str bN)/\∃br:Bool,∃au:J,call (.fn 77) [.str s2,.str bN] ai=.ret (.bool br) au/\(br=true->i+1<9223372036854775808/\Q .nrm (ah.mk [(0,.ptr r 0),(4,.int .i64 (.ofNat (i+1)))] [] .none au))/\(br=false->Q .ret (ah.mk [(0,.ptr r 0),(2,.bool false),(4,.int .i64 (.ofNat i))] [] .none au)))/\(¬0<i->i+1<9223372036854775808/\Q .nrm (ah.mk [(0,.ptr r 0),(4,.int .i64 (.ofNat (i+1)))] [] .none ai))):
  a4 Tryz.prog Tryz.f53 call [1,1,1,1,0,1,0,1,1,1,0,1,1,0,0] ⟨[(0,.ptr r 0),(4,.int .i64 (.ofNat i))],[],.none,h⟩ Q:=
 dF [(1125,.t),(123,.bq .fx),(131,.bq .fx),(135,.bq (.is (.bool true))),(144,.bq .fx),(152,.bq .fx)] [0,2,4] [(0,.v (.ptr r 0)),(4,.v (.int .i64 (.ofNat i)))] rfl (Eq.mp (by kernel_rfl) H)
theorem GX(call:aP)(r i:Nat)(h:J){Q:bu->ah->Prop}(H:∃aE:Nat,∃bf:Nat,∃bH:Nat,∃aF:bR,ar h r (0+3)=some (.slice aE bf bH aF)/\i<bH/\∃bU:Nat,∃b_:Nat,∃cv:Nat,∃a6:bR,ar h r (0+3)=some (.slice bU b_ cv a6)/\i<cv/\∃c4:Nat,ar h bU (b_+i*1)=some (.ptr c4 0)/\∃eo:Nat,ar h c4 (0+0)=some (.int .i64 (.ofNat eo))/\(eo=9->Q .ret (ah.mk [(0,.ptr r 0),(2,.bool false),(5,.int .i64 (.ofNat i))] [] .none (h.room 31)))/\(¬eo=9->(eo=1->Q .ret (ah.mk [(0,.ptr r 0),(2,.bool false),(5,.int .i64 (.ofNat i))] [] .none (h.room 31)))/\(¬eo=1->(0<i->∃eG:Nat,∃fK:Nat,∃im:Nat,∃dy:bR,ar (h.room 31) r (0+3)=some (.slice eG fK im dy)/\(1<=i/\i<9223372036854775808)/\i-1<im/\∃v1:I,ar (h.room 31) eG (fK+(i-1)*1)=some v1/\∃s1:List UInt8,∃ai:J,call (.fn 79) [v1] (h.room 31)=.ret (.str s1) ai/\∃gQ:Nat,∃jV:Nat,∃nN:Nat,∃fO:bR,ar ai r (0+3)=some (.slice gQ jV nN fO)/\i<nN/\∃mg:Nat,ar ai gQ (jV+i*1)=some (.ptr mg 0)/\∃s2:List UInt8,∃au:J,call (.fn 79) [.ptr mg 0] ai=.ret (.str s2) au/\∃br:Bool,∃ay:J,call (.fn 77) [.str s1,.str s2] au=.ret (.bool br) ay/\I.sound v1=true/\ar (h.room 31) r (0+3)=some (.slice gQ jV nN fO)/\ar (h.room 31) gQ (jV+i*1)=some (.ptr mg 0)/\(br=true->i+1<9223372036854775808/\Q .nrm (ah.mk [(0,.ptr r 0),(5,.int .i64 (.ofNat (i+1)))] [] .none ay))/\(br=false->Q .ret (ah.mk [(0,.ptr r 0),(2,.bool false),(5,.int .i64 (.ofNat i))] [] .none ay)))/\(¬0<i->i+1<9223372036854775808/\Q .nrm (ah.mk [(0,.ptr r 0),(5,.int .i64 (.ofNat (i+1)))] [] .none (h.room 31)))))):
  a4 Tryz.prog Tryz.f53 call [1,1,1,1,0,1,0,1,1,1,1,1,1,1,0,0,1,0,0] ⟨[(0,.ptr r 0),(5,.int .i64 (.ofNat i))],[],.none,h⟩ Q:=
 dF [(1175,.t),(173,.bq .fx),(181,.bq .fx),(201,.bq .fx),(205,.bq .o),(210,.bq .fx)] [0,2,5] [(0,.v (.ptr r 0)),(5,.v (.int .i64 (.ofNat i)))] rfl (Eq.mp (by kernel_rfl) H)
theorem xa{P:Program}{fn:Func}{call:aP}{p:List Nat}{st ib:ah}{dc:bu}(h:a4 P fn call p st (λe s=>e=dc/\s=ib)):aB P fn none call p st dc ib:=by
 obtain⟨e,s,r,rfl,rfl⟩:=h
 exact r
theorem GY{m B R:Nat}{h:J}{kG ib bK a_ c0:I}{bk:gS}{aI up:Nat}{ns:List a7}(ei:R<B)(al:h.get R=some (.cells [kG,ib,bK,a_,c0] 80 bk aI up))(aN:c6 B h bK (ns.map .str))(hlen:ns.length<=90000):∀(k i:Nat) (x:J),ns.length-i=k->i<=ns.length->(∀q,mY ns i=some q->ij q=true)->Ext B h x->
  ∃e Γ y,eL Tryz.prog Tryz.f53 none (Y (m+2)) [1,1,1,1,0,1,0,1,1,1,0,1,1,0] (k+1) ⟨[(0,.ptr R 0),(4,.int .i64 (Int.ofNat i))],[],.none,x⟩ e ⟨Γ,[],.none,y⟩/\
   ((e=.exit 3/\Γ=[(0,.ptr R 0)]/\j_ (mY ns i) (ns.drop i)=true)\/(e=.ret/\Γ=[(2,.bool false)]/\j_ (mY ns i) (ns.drop i)=false))/\Ext B h y
 |0,i,x,aq,af,aQ,ab=>by
  obtain rfl:i=ns.length:=by omega
  rw[List.drop_of_length_le (Nat.le_refl _)]
  have e_:=(ab.get R ei).trans al
  exact⟨_,_,_,.exit (YE (Y (m+2)) R _ ns.length bK x (aT e_ rfl) aN.w4 (e1 (by omega))) (by simp),.inl ⟨rfl,rfl,by rw[j_]⟩,ab⟩
 |k+1,i,x,aq,af,aQ,ab=>by
  have aa:i<ns.length:=by omega
  have e_:=(ab.get R ei).trans al
  have aj:=ab.ht (k:=32)
  have il:=(aj.get R ei).trans al
  rcases aN.strs with⟨_,rfl⟩|⟨b,off,cp,rfl,hb,hJ⟩
  · simp at aa
  have aA:ar (x.room 32) b (off+i*1)=some (.str ns[i]):=(lI aj hb).trans (hJ i aa)
  rw[List.drop_eq_getElem_cons aa,j_]
  have aF:=M3 m ns[i] (x.room 32)
  cases hf:ij ns[i] with
  |false=>
   rw[hf] at aF
   exact⟨_,_,_,.exit (YI (Y (m+2)) R b off ns.length i (off+i*1) 0 0 0 ns[i] [] false cp x (x.room 32) x (aT e_ rfl) (dT aa) (aT il rfl) ⟨aa,rfl⟩ aA aF) (by simp),.inr ⟨rfl,rfl,by rw[Bool.false_and]⟩,aj⟩
  |true=>
   rw[hf] at aF
   have xb:mY ns (i+1)=some ns[i]:=by
    show ns[i]? =_
    exact List.getElem?_eq_getElem aa
   have m0:∀q,mY ns (i+1)=some q->ij q=true:=λq aJ=>by
    rw[xb] at aJ
    obtain rfl:=Option.some.inj aJ
    exact hf
   cases i with
   |zero=>
    obtain⟨e,Γ,y,bw,bV,c5⟩:=GY (m:=m) ei al aN hlen k 1 (x.room 32) (by omega) (by omega) m0 aj
    refine⟨e,Γ,y,.step (xa (GW (Y (m+2)) R 0 x ⟨b,off,_,cp,aT e_ rfl,aa,b,off,_,cp,aT il rfl,aa,_,aA,_,aF,λak=>absurd ak (by omega),λ_=>⟨by omega,rfl,rfl⟩⟩)) bw,?_,c5⟩
    rw[xb] at bV
    rw[Bool.true_and,show mY ns 0=none from rfl,mX,Bool.true_and]
    exact bV
   |succ i=>
    have ad:i<ns.length:=by omega
    have qu:mY ns (i+1)=some ns[i]:=by
     show ns[i]? =_
     exact List.getElem?_eq_getElem ad
    have hj:=Mt (aQ _ qu)
    have ax:ar (x.room 32) b (off+i*1)=some (.str ns[i]):=(lI aj hb).trans (hJ i ad)
    obtain⟨g,a6,dy⟩:=CL (m+1) ns[i] ns[i+1] B (x.room 32) (by omega)
    have w8:=aj.trans (Nat.le_refl _) dy
    have EC:arith BinOp.sub IntKind.i64 (Int.ofNat (i+1)) (Int.ofNat 1)=some (.int .i64 (Int.ofNat i)):=wy (by omega) (by omega)
    rw[qu,mX,Bool.true_and]
    cases ag:dO ns[i] ns[i+1] with
    |true=>
     rw[ag] at a6
     obtain⟨e,Γ,y,bw,bV,c5⟩:=GY (m:=m) ei al aN hlen k (i+1+1) g (by omega) (by omega) m0 w8
     refine⟨e,Γ,y,.step (xa (GW (Y (m+2)) R (i+1) x ⟨b,off,_,cp,aT e_ rfl,aa,b,off,_,cp,aT il rfl,aa,_,aA,_,aF,λ_=>⟨b,off,_,cp,aT il rfl,⟨by omega,by omega⟩,ad,_,ax,b,off,_,cp,aT il rfl,aa,_,aA,_,g,a6,λ_=>⟨by omega,rfl,rfl⟩,λak=>(by cases ak)⟩,λak=>absurd ak (by omega)⟩)) bw,?_,c5⟩
     rw[xb] at bV
     rw[Bool.true_and]
     exact bV
    |false=>
     rw[ag] at a6
     exact⟨_,[(2,.bool false)],_,.exit (cQ.post (xa (GW (Y (m+2)) R (i+1) x ⟨b,off,_,cp,aT e_ rfl,aa,b,off,_,cp,aT il rfl,aa,_,aA,_,aF,λ_=>⟨b,off,_,cp,aT il rfl,⟨by omega,by omega⟩,ad,_,ax,b,off,_,cp,aT il rfl,aa,_,aA,_,g,a6,λak=>(by cases ak),λ_=>⟨rfl,rfl⟩⟩,λak=>absurd ak (by omega)⟩)) ⟨rfl,trivial⟩) (by simp),.inr ⟨rfl,rfl,by rw[Bool.false_and]⟩,w8⟩
theorem dD.kind{B:Nat}{h:J}:∀{t:aC} {v:I},dD B h t v->∃M,v=.ptr M 0/\∀x,Ext B h x->ar x M (0+0)=some (.int .i64 (Int.ofNat t.k))
 |.mk b6 cU c8 ek en,v,bc=>by
  obtain⟨M,_,_,_,_,_,_,_,aA,ax,bD,_⟩:=bc
  exact⟨M,aA,λx kx=>aT ((kx.get M ax).trans bD) rfl⟩
theorem M_(p:Option a7)(k:Nat)(eg:List Nat)(w:a7)(ws:List a7):k8 p (k::eg) (w::ws)=((decide (k≠9)&&decide (k≠1))&&(mX p w&&k8 (some w) eg ws)):=by rw[k8]
theorem GZ{m B R:Nat}{h:J}{kG ib bK a_ c0:I}{bk:gS}{aI up:Nat}{xs:List aC}{vs:List I}{ws:List a7}(ei:R<B)(al:h.get R=some (.cells [kG,ib,bK,a_,c0] 80 bk aI up))(aD:c6 B h a_ vs)(zV:dL B h xs vs)(ll:ws.length=vs.length)(hlen:vs.length<=90000)(zW:∀i (af:i<ws.length),ws[i].length<=90000)(bb:zQ (m+1) B h vs ws):∀(k i:Nat) (x:J),vs.length-i=k->i<=vs.length->Ext B h x->
  ∃e Γ y,eL Tryz.prog Tryz.f53 none (Y (m+1)) [1,1,1,1,0,1,0,1,1,1,1,1,1,1,0,0,1,0] (k+1) ⟨[(0,.ptr R 0),(5,.int .i64 (Int.ofNat i))],[],.none,x⟩ e ⟨Γ,[],.none,y⟩/\
   ((e=.exit 5/\Γ=[(0,.ptr R 0)]/\k8 (mY ws i) ((xs.map aC.k).drop i) (ws.drop i)=true)\/(e=.ret/\Γ=[(2,.bool false)]/\k8 (mY ws i) ((xs.map aC.k).drop i) (ws.drop i)=false))/\Ext B h y
 |0,i,x,aq,af,ab=>by
  obtain rfl:i=vs.length:=by omega
  rw[List.drop_of_length_le (l:=ws) (by omega)]
  have e_:=(ab.get R ei).trans al
  refine⟨_,_,_,.exit (YF (Y (m+1)) R _ vs.length a_ x (aT e_ rfl) aD.pn (e1 (by omega))) (by simp),.inl ⟨rfl,rfl,?_⟩,ab⟩
  cases (xs.map aC.k).drop vs.length<;>(rw[k8];all_goals simp)
 |k+1,i,x,aq,af,ab=>by
  have eD:=dL.len zV
  have aa:i<vs.length:=by omega
  have av:i<ws.length:=by omega
  have aG:i<xs.length:=by omega
  have bI:i<(xs.map aC.k).length:=by rw[List.length_map];exact aG
  have e_:=(ab.get R ei).trans al
  have aj:=ab.ht (k:=31)
  have il:=(aj.get R ei).trans al
  obtain⟨M,g0,rH⟩:=(dL.get zV i aa aG).kind
  have qt:=rH x ab
  have xc:=aD
  rcases aD with⟨_,rfl⟩|⟨b,off,cp,rfl,hb,hJ,oJ⟩
  · simp at aa
  have aA:ar x b (off+i*1)=some (.ptr M 0):=by rw[<-g0];exact(lI ab hb).trans (hJ i aa)
  have Na:ar (x.room 31) b (off+i*1)=some (.ptr M 0):=by rw[<-g0];exact(lI aj hb).trans (hJ i aa)
  have zT:(xs.map aC.k)[i]=(xs[i]).k:=List.getElem_map aC.k
  rw[List.drop_eq_getElem_cons bI,List.drop_eq_getElem_cons av,M_,zT]
  by_cases jl:(xs[i]).k=9
  · exact⟨_,_,_,.exit (YJ (Y (m+1)) R b off vs.length i (off+i*1) 0 0 0 M _ .aZ [] [] false cp x x x x (aT e_ rfl) (dT aa) ⟨aa,rfl⟩ aA qt (nA jl)) (by simp),.inr ⟨rfl,rfl,by simp[jl]⟩,aj⟩
  by_cases bJ:(xs[i]).k=1
  · exact⟨_,_,_,.exit (YK (Y (m+1)) R b off vs.length i (off+i*1) 0 0 0 M _ .aZ [] [] false cp x x x x (aT e_ rfl) (dT aa) ⟨aa,rfl⟩ aA qt (jS jl) (nA bJ)) (by simp),.inr ⟨rfl,rfl,by simp[bJ]⟩,aj⟩
  have xb:mY ws (i+1)=some ws[i]:=by
   show ws[i]? =_
   exact List.getElem?_eq_getElem av
  rw[show(decide ((xs[i]).k≠9)&&decide ((xs[i]).k≠1))=true by simp[jl,bJ],Bool.true_and]
  cases i with
  |zero=>
   obtain⟨e,Γ,y,bw,bV,c5⟩:=GZ (m:=m) ei al xc zV ll hlen zW bb k 1 (x.room 31) (by omega) (by omega) aj
   refine⟨e,Γ,y,.step (xa (GX (Y (m+1)) R 0 x ⟨b,off,_,cp,aT e_ rfl,aa,b,off,_,cp,aT e_ rfl,aa,_,aA,_,qt,λak=>absurd ak jl,λ_=>⟨λak=>absurd ak bJ,λ_=>⟨λak=>absurd ak (by omega),λ_=>⟨by omega,rfl,rfl⟩⟩⟩⟩)) bw,?_,c5⟩
   rw[xb] at bV
   rw[show mY ws 0=none from rfl,mX,Bool.true_and]
   exact bV
  |succ i=>
   have hq:i<vs.length:=by omega
   have rG:i<ws.length:=by omega
   have yI:i<xs.length:=by omega
   have qu:mY ws (i+1)=some ws[i]:=by
    show ws[i]? =_
    exact List.getElem?_eq_getElem rG
   have fC:=dL.get zV i hq yI
   have ax:ar (x.room 31) b (off+i*1)=some vs[i]:=(lI aj hb).trans (hJ i hq)
   obtain⟨g,aF,bC⟩:=bb i hq rG (x.room 31) aj
   have ee:=aj.trans (Nat.le_refl _) bC
   have zR:=(ee.get R ei).trans al
   have Nb:ar g b (off+(i+1)*1)=some (.ptr M 0):=by rw[<-g0];exact(lI ee hb).trans (hJ (i+1) aa)
   obtain⟨au,a6,cS⟩:=bb (i+1) aa av g ee
   rw[g0] at a6
   have s3:=ee.trans (Nat.le_refl _) cS
   obtain⟨ay,dy,dC⟩:=CL m ws[i] ws[i+1] B au (zW i rG)
   have gL:=s3.trans (Nat.le_refl _) dC
   have EC:arith BinOp.sub IntKind.i64 (Int.ofNat (i+1)) (Int.ofNat 1)=some (.int .i64 (Int.ofNat i)):=wy (by omega) (by omega)
   rw[qu,mX]
   cases ag:dO ws[i] ws[i+1] with
   |true=>
    rw[ag] at dy
    obtain⟨e,Γ,y,bw,bV,c5⟩:=GZ (m:=m) ei al xc zV ll hlen zW bb k (i+1+1) ay (by omega) (by omega) gL
    refine⟨e,Γ,y,.step (xa (GX (Y (m+1)) R (i+1) x ⟨b,off,_,cp,aT e_ rfl,aa,b,off,_,cp,aT e_ rfl,aa,_,aA,_,qt,λak=>absurd ak jl,λ_=>⟨λak=>absurd ak bJ,λ_=>⟨λ_=>⟨b,off,_,cp,aT il rfl,⟨by omega,by omega⟩,hq,_,ax,_,g,aF,b,off,_,cp,aT zR rfl,aa,_,Nb,_,au,a6,_,ay,dy,fC.snd,aT il rfl,Na,λ_=>⟨by omega,rfl,rfl⟩,λak=>(by cases ak)⟩,λak=>absurd ak (by omega)⟩⟩⟩)) bw,?_,c5⟩
    rw[xb] at bV
    rw[Bool.true_and]
    exact bV
   |false=>
    rw[ag] at dy
    exact⟨_,[(2,.bool false)],_,.exit (cQ.post (xa (GX (Y (m+1)) R (i+1) x ⟨b,off,_,cp,aT e_ rfl,aa,b,off,_,cp,aT e_ rfl,aa,_,aA,_,qt,λak=>absurd ak jl,λ_=>⟨λak=>absurd ak bJ,λ_=>⟨λ_=>⟨b,off,_,cp,aT il rfl,⟨by omega,by omega⟩,hq,_,ax,_,g,aF,b,off,_,cp,aT zR rfl,aa,_,Nb,_,au,a6,_,ay,dy,fC.snd,aT il rfl,Na,λak=>(by cases ak),λ_=>⟨rfl,rfl⟩⟩,λak=>absurd ak (by omega)⟩⟩⟩)) ⟨rfl,trivial⟩) (by simp),.inr ⟨rfl,rfl,by rw[Bool.false_and]⟩,gL⟩
abbrev YO(m B:Nat)(h:J)(xs:List aC)(vs:List I):Prop:=∀i (aa:i<vs.length) (ad:i<xs.length) x,Ext B h x->∃an,Y m (.fn 53) [vs[i]] x=.ret (.bool (ep xs[i])) an/\Ext B x an
theorem Nc{m B R:Nat}{h:J}{kG ib bK a_ c0:I}{bk:gS}{aI up:Nat}{xs:List aC}{vs:List I}(ei:R<B)(al:h.get R=some (.cells [kG,ib,bK,a_,c0] 80 bk aI up))(aD:c6 B h a_ vs)(eD:vs.length=xs.length)(hlen:vs.length<=90000)(bb:YO m B h xs vs):∀(k i:Nat) (x:J),vs.length-i=k->i<=vs.length->Ext B h x->
  ∃e Γ y,eL Tryz.prog Tryz.f53 none (Y m) [1,1,1,0,1,0] (k+1) ⟨[(0,.ptr R 0),(3,.int .i64 (Int.ofNat i))],[],.none,x⟩ e ⟨Γ,[],.none,y⟩/\
   ((e=.exit 0/\Γ=[(0,.ptr R 0)]/\hL (xs.drop i)=true)\/(e=.ret/\Γ=[(2,.bool false)]/\hL (xs.drop i)=false))/\Ext B h y
 |0,i,x,aq,af,ab=>by
  obtain rfl:i=vs.length:=by omega
  rw[List.drop_of_length_le (by omega)]
  have e_:=(ab.get R ei).trans al
  exact⟨_,_,_,.exit (Yr (Y m) R _ vs.length a_ x (aT e_ rfl) aD.pn (e1 (by omega))) (by simp),.inl ⟨rfl,rfl,by rw[hL]⟩,ab⟩
 |k+1,i,x,aq,af,ab=>by
  have aa:i<vs.length:=by omega
  have aG:i<xs.length:=by omega
  have e_:=(ab.get R ei).trans al
  have xc:=aD
  rcases aD with⟨_,rfl⟩|⟨b,off,cp,rfl,hb,hJ,oJ⟩
  · simp at aa
  have aA:ar x b (off+i*1)=some vs[i]:=(lI ab hb).trans (hJ i aa)
  obtain⟨g,aF,bC⟩:=bb i aa aG x ab
  have ee:=ab.trans (Nat.le_refl _) bC
  rw[List.drop_eq_getElem_cons aG,hL]
  cases ag:ep xs[i] with
  |true=>
   rw[ag] at aF
   obtain⟨e,Γ,y,bw,bV,c5⟩:=Nc ei al xc eD hlen bb k (i+1) g (by omega) (by omega) ee
   refine⟨e,Γ,y,.step (Yt (Y m) R b off vs.length i (off+i*1) (i+1) true vs[i] cp x g (aT e_ rfl) (dT aa) ⟨aa,rfl⟩ aA aF rfl (j7 aa (by omega))) bw,?_,c5⟩
   rw[Bool.true_and];exact bV
  |false=>
   rw[ag] at aF
   exact⟨_,[(2,.bool false)],_,.exit (cQ.post (Ys (Y m) R b off vs.length i (off+i*1) 0 false vs[i] cp x g (aT e_ rfl) (dT aa) ⟨aa,rfl⟩ aA aF rfl) ⟨rfl,trivial⟩) (by simp),.inr ⟨rfl,rfl,by rw[Bool.false_and]⟩,ee⟩
theorem Nd(zX:∀u,ep u=true->okW u=true/\(wr u).length<=300*sz u):∀(K:Nat) (t:aC),sz t<=K->sz t<=100->iQ t<=90000->∀(m B:Nat) (h:J) (v:I),sz t+4<=m->B<=h.n->dD B h t v->∃an,Y m (.fn 53) [v] h=.ret (.bool (ep t)) an/\Ext B h an
 |0,t,de,_,_,_,_,_,_,_,_,_=>by
  have:=qp t
  omega
 |K+1,.mk k nm ns xs rt,de,g5,ia,m,B,h,v,hm,cC,aD=>by
  obtain⟨R,bK,a_,c0,vs,bk,aI,up,rfl,ad,av,aG,bI,cq,di⟩:=aD
  rw[mc] at de g5 hm
  rw[iQ] at ia
  obtain⟨m,rfl⟩:∃j,m=j+3:=⟨m-3,by omega⟩
  have eD:=dL.len cq
  have jv:=mW xs
  have ll:=wX xs
  have m1:ep (.mk k nm ns xs rt)=((decide (1<=k)&&decide (k<=9))&&(ik k nm ns.length xs.length rt.isSome&&(hL xs&&e3 k nm ns (xs.map aC.k) (cB xs) xs.length (iR rt)))):=by rw[ep]
  have fin:∀b y,aB Tryz.prog Tryz.f53 none (Y (m+2)) [1] ⟨[(0,.ptr R 0)],[],.none,h⟩ .ret ⟨[(2,.bool b)],[],.none,y⟩->b=ep (.mk k nm ns xs rt)->Ext B h y->∃an,Y (m+3) (.fn 53) [.ptr R 0] h=.ret (.bool (ep (.mk k nm ns xs rt))) an/\Ext B h an:=λb y aj ae ab=>by
   rw[<-ae]
   exact⟨y,eA (intr:=b3) (n:=m+2) (args:=[.ptr R 0]) Tryz.func53 (by kernel_rfl) rfl (by kernel_rfl) (aB.seq (p:=[]) (by kernel_rfl) (Yj (Y (m+2)) (.ptr R 0) h) aj) (.inl rfl) (by kernel_rfl),ab⟩
  rw[m1] at fin
  rw[m1]
  by_cases bJ:k<1
  · exact fin false h (aB.gy (p:=[1]) (by kernel_rfl) (cQ.post (Yk (Y (m+2)) R 0 h k (aT av rfl) (dT bJ)) ⟨rfl,trivial⟩) (by simp)) (by simp;omega) (Ext.refl _ _)
  by_cases jl:9<k
  · exact fin false h (aB.gy (p:=[1]) (by kernel_rfl) (cQ.post (Yl (Y (m+2)) R 0 h k (aT av rfl) (e1 bJ) (dT jl)) ⟨rfl,trivial⟩) (by simp)) (by simp;omega) (Ext.refl _ _)
  have s1:=Ym (Y (m+2)) R 0 h k (aT av rfl) (e1 bJ) (e1 jl)
  have G0:(decide (1<=k)&&decide (k<=9))=true:=by simp;omega
  rw[G0] at fin⊢
  simp only[Bool.true_and] at fin⊢
  have lH:Ext B h (h.room 54):=Ext.room B h 54
  have G1:B<=(h.room 54).n:=Nat.le_trans cC lH.n
  have al:=(lH.get R ad).trans av
  have e4:=fa.ext lH (Nat.le_refl _)
  have bU:=aG.bO e4
  have b_:=bI.bO e4
  have cv:=dL.bO e4 _ _ cq
  have c4:=dM.bO e4 _ _ di
  have kX:if ik k nm ns.length vs.length rt.isSome=true then aB Tryz.prog Tryz.f53 none (Y (m+2)) [1,1,0] ⟨[(0,.ptr R 0)],[],.none,h⟩ .nrm ⟨[(0,.ptr R 0)],[],.none,h.room 54⟩
    else aB Tryz.prog Tryz.f53 none (Y (m+2)) [1,1,0] ⟨[(0,.ptr R 0)],[],.none,h⟩ .ret ⟨[(2,.bool false)],[],.none,h.room 54⟩:=by
   cases rt with
   |none=>
    obtain rfl:c0=.aZ:=di
    exact Yq av aG.w4 bI.pn aG.snd bI.snd
   |some u=>
    cases u with
    |mk b6 cU c8 ek en=>
     obtain⟨W,_,_,_,_,_,_,_,rfl,_⟩:=di
     exact Yp av aG.w4 bI.pn aG.snd bI.snd
  rw[eD] at kX
  cases hj:ik k nm ns.length xs.length rt.isSome with
  |false=>
   rw[if_neg (by rw[hj];simp)] at kX
   rw[hj] at fin
   exact fin false _ (aB.seq (p:=[1]) (by kernel_rfl) s1 (aB.gy (p:=[1,1]) (by kernel_rfl) kX (by simp))) rfl lH
  |true=>
   rw[if_pos hj] at kX
   rw[hj] at fin
   simp only[Bool.true_and] at fin⊢
   have bb:∀(u:aC),sz u<=K->sz u<=100->iQ u<=90000->∀(m B:Nat) (h:J) (v:I),sz u+4<=m->B<=h.n->dD B h u v->∃an,Y m (.fn 53) [v] h=.ret (.bool (ep u)) an/\Ext B h an:=Nd zX K
   obtain⟨e,Γ,y,bw,bV,c5⟩:=Nc (m:=m+2) (xs:=xs) ad al b_ eD (by omega) (λi i1 i2 x ab=>by
    have hl:=oH (List.getElem_mem i2)
    have jc:=zH (List.getElem_mem i2)
    exact bb xs[i] (by omega) (by omega) (by omega) (m+2) B x vs[i] (by omega) (Nat.le_trans G1 ab.n) (dD.bO (fa.ext ab (Nat.le_refl _)) _ _ (dL.get cv i i1 i2))) vs.length 0 (h.room 54) (by omega) (by omega) (Ext.refl _ _)
   have gz:=eL.run (p:=[1,1,1,0,1,0]) (by kernel_rfl) bw (by omega)
   rw[List.drop_zero] at bV
   rcases bV with⟨rfl,rfl,gZ⟩|⟨rfl,rfl,gZ⟩
   · rw[gZ] at fin
     simp only[Bool.true_and] at fin⊢
     have ey:=aB.seq (p:=[1,1,1,0]) (by kernel_rfl) (M9 (Y (m+2)) R (h.room 54)) (aB.block (p:=[1,1,1,0,1]) (id:=0) (by kernel_rfl) gz)
     have il:=(c5.get R ad).trans al
     have Nf:=lH.trans (Nat.le_refl _) c5
     have CT:=fa.ext c5 (Nat.le_refl _)
     have Ng:=bU.bO CT
     have zF:=b_.bO CT
     have Nh:=dL.bO CT _ _ cv
     have YP:=dM.bO CT _ _ c4
     have G2:B<=y.n:=Nat.le_trans G1 c5.n
     have zS:=Yu (Y (m+2)) R k y (aT il rfl)
     have xd:∀b z,aB Tryz.prog Tryz.f53 none (Y (m+2)) [1,1,1,1,0,1] ⟨[(0,.ptr R 0),(98,.int .i64 (Int.ofNat k))],[],.none,y⟩ .ret ⟨[(2,.bool b)],[],.none,z⟩->b=e3 k nm ns (xs.map aC.k) (cB xs) xs.length (iR rt)->Ext B y z->∃an,Y (m+3) (.fn 53) [.ptr R 0] h=.ret (.bool (hL xs&&e3 k nm ns (xs.map aC.k) (cB xs) xs.length (iR rt))) an/\Ext B h an:=λb z aj ae ab=>by
      rw[gZ,Bool.true_and]
      exact fin b z (aB.seq (p:=[1]) (by kernel_rfl) s1 (aB.seq (p:=[1,1]) (by kernel_rfl) kX (aB.seq (p:=[1,1,1]) (by kernel_rfl) ey (aB.gy (p:=[1,1,1,1]) (by kernel_rfl) (aB.seq (p:=[1,1,1,1,0]) (by kernel_rfl) zS aj) (by simp))))) ae (Nf.trans (Nat.le_refl _) ab)
     have Ni:∀z,aB Tryz.prog Tryz.f53 none (Y (m+2)) [1,1,1,1,0,1] ⟨[(0,.ptr R 0),(98,.int .i64 (Int.ofNat k))],[],.none,y⟩ .nrm ⟨[(0,.ptr R 0)],[],.none,z⟩->e3 k nm ns (xs.map aC.k) (cB xs) xs.length (iR rt)=true->Ext B y z->∃an,Y (m+3) (.fn 53) [.ptr R 0] h=.ret (.bool (hL xs&&e3 k nm ns (xs.map aC.k) (cB xs) xs.length (iR rt))) an/\Ext B h an:=λz aj ae ab=>by
      rw[gZ,Bool.true_and]
      exact fin true z (aB.seq (p:=[1]) (by kernel_rfl) s1 (aB.seq (p:=[1,1]) (by kernel_rfl) kX (aB.seq (p:=[1,1,1]) (by kernel_rfl) ey (aB.seq (p:=[1,1,1,1]) (by kernel_rfl) (cQ.post (Γ2:=[]) (aB.seq (p:=[1,1,1,1,0]) (by kernel_rfl) zS aj) trivial) (YD (Y (m+2)) z))))) ae.symm (Nf.trans (Nat.le_refl _) ab)
     have hl:∀i (i2:i<xs.length),ep xs[i]=true:=λi i2=>zL gZ (List.getElem_mem i2)
     by_cases gu:k=6
     · subst gu
       exact xd (md nm) y (Yv (Y (m+2)) R nm _ y y (aT il rfl) (XS m nm y)) (by simp[e3]) (Ext.refl _ _)
     by_cases gj:k=7
     · subst gj
       have u9:e3 7 nm ns (xs.map aC.k) (cB xs) xs.length (iR rt)=(decide (ns.length=xs.length)&&j_ none ns):=by simp[e3]
       have CU:Ext B y (y.room 11):=Ext.room B y 11
       have iL:=(CU.get R ad).trans il
       have Nj:=fa.ext CU (Nat.le_refl _)
       have eZ:=Ng.bO Nj
       have jB:=zF.bO Nj
       by_cases aN:ns.length=vs.length
       · obtain⟨e,Γ,z,ba,a1,b7⟩:=GY (m:=m) ad il Ng (by omega) ns.length 0 (y.room 11) (by omega) (by omega) (λq aJ=>by cases aJ) CU
         have fv:=eL.run (p:=[1,1,1,1,0,1,0,1,1,1,0,1,1,0]) (by kernel_rfl) ba (by omega)
         rw[List.drop_zero,show mY ns 0=none from rfl] at a1
         rcases a1 with⟨rfl,rfl,fV⟩|⟨rfl,rfl,fV⟩
         · exact Ni z (Yx (Y (m+2)) R ns.length vs.length bK a_ y z (aT iL rfl) eZ.w4 (aT iL rfl) jB.pn eZ.snd jB.snd (w3 aN) (cQ.pre fv ⟨rfl,rfl,trivial⟩ rfl rfl rfl)) (by rw[u9,fV];simp;omega) b7
         · exact xd false z (Yy (Y (m+2)) R ns.length vs.length bK a_ y z (aT iL rfl) eZ.w4 (aT iL rfl) jB.pn eZ.snd jB.snd (w3 aN) (cQ.pre fv ⟨rfl,rfl,trivial⟩ rfl rfl rfl)) (by rw[u9,fV];simp) b7
       · exact xd false _ (Yw (Y (m+2)) R ns.length vs.length bK a_ y (aT iL rfl) eZ.w4 (aT iL rfl) jB.pn eZ.snd jB.snd (rF aN)) (by rw[u9];simp;omega) CU
     by_cases g6:k=8
     · subst g6
       cases rt with
       |none=>simp[ik] at hj
       |some u=>
        rw[iP] at de g5 hm
        rw[nK] at ia
        obtain⟨z,aF,a6⟩:=bb u (by omega) (by omega) (by omega) (m+2) B y c0 (by omega) G2 YP
        exact xd (ep u) z (Yz (Y (m+2)) R c0 _ y z (aT il rfl) aF) (by simp[e3,iR]) a6
     by_cases gv:k=9
     · subst gv
       have xe:e3 9 nm ns (xs.map aC.k) (cB xs) xs.length (iR rt)=(k8 none (xs.map aC.k) (cB xs)&&decide (2<=xs.length)):=by simp[e3]
       have Nk:∀i (af:i<(cB xs).length),(cB xs)[i].length<=90000:=λi af=>by
        have i2:i<xs.length:=by omega
        have aW:=oH (List.getElem_mem i2)
        have aQ:=(zX xs[i] (hl i i2)).2
        rw[wY xs i i2 af]
        omega
       obtain⟨e,Γ,z,ba,a1,b7⟩:=GZ (m:=m+1) (ws:=cB xs) ad il zF Nh (by omega) (by omega) Nk (λi i1 i2 x ab=>by
        have i3:i<xs.length:=by omega
        have aW:=oH (List.getElem_mem i3)
        have ae:=Nk i i2
        rw[wY xs i i3 i2] at ae⊢
        exact CO K xs[i] (by omega) (by omega) (zX xs[i] (hl i i3)).1 (by omega) (m+1+1) B x vs[i] (by omega) (Nat.le_trans G2 ab.n) (dD.bO (fa.ext ab (Nat.le_refl _)) _ _ (dL.get Nh i i1 i3))) vs.length 0 y (by omega) (by omega) (Ext.refl _ _)
       have fv:=eL.run (p:=[1,1,1,1,0,1,0,1,1,1,1,1,1,1,0,0,1,0]) (by kernel_rfl) ba (by omega)
       rw[List.drop_zero,List.drop_zero,show mY (cB xs) 0=none from rfl] at a1
       rcases a1 with⟨rfl,rfl,fV⟩|⟨rfl,rfl,fV⟩
       · exact xd (eQ (Int.ofNat 2) (Int.ofNat vs.length)) z (YA (Y (m+2)) R vs.length a_ y z (cQ.pre fv ⟨rfl,rfl,trivial⟩ rfl rfl rfl) (aT ((b7.get R ad).trans il) rfl) zF.pn) (by rw[xe,fV,XQ,eD];rfl) b7
       · exact xd false z (YB (Y (m+2)) R y z (cQ.pre fv ⟨rfl,rfl,trivial⟩ rfl rfl rfl)) (by rw[xe,fV];rfl) b7
     · exact Ni y (YC (Y (m+2)) R k y (jS gu) (jS gj) (jS g6) (jS gv)) (by simp[e3,gu,gj,g6,gv]) (Ext.refl _ _)
   · have ey:=aB.seq (p:=[1,1,1,0]) (by kernel_rfl) (M9 (Y (m+2)) R (h.room 54)) (aB.rq (p:=[1,1,1,0,1]) (id:=0) (by kernel_rfl) gz (by simp))
     exact fin false y (aB.seq (p:=[1]) (by kernel_rfl) s1 (aB.seq (p:=[1,1]) (by kernel_rfl) kX (aB.gy (p:=[1,1,1]) (by kernel_rfl) ey (by simp)))) (by rw[gZ];rfl) (lH.trans (Nat.le_refl _) c5)
def dv:Option aC->Nat
 |none=>1
 |some t=>if 60<sz t then 3 else if ep t=true then 0 else 2
theorem Nl{ot:Option aC}{B:Nat}{h:J}{v:I}(m:Nat)(g5:c_ ot<=90000)(aN:∀t,ot=some t->iQ t<=90000)(hm:c_ ot+4<=m)(cC:B<=h.n)(aD:dM B h ot v):
  ∃an,Y (m+1) (.fn 28) [v] h=.ret (.int .i64 (Int.ofNat (dv ot))) an/\Ext B h an:=by
 have fin:∀c y,aB Tryz.prog Tryz.f28 none (Y m) [1] ⟨[(0,v)],[],.none,h⟩ .ret ⟨[(2,.int .i64 (Int.ofNat c))],[],.none,y⟩->c=dv ot->Ext B h y->∃an,Y (m+1) (.fn 28) [v] h=.ret (.int .i64 (Int.ofNat (dv ot))) an/\Ext B h an:=λc y aj ag ab=>by
  rw[<-ag]
  exact⟨y,eA (intr:=b3) (n:=m) (args:=[v]) Tryz.func28 (by kernel_rfl) rfl (by kernel_rfl) (aB.seq (p:=[]) (by kernel_rfl) (YG (Y m) v h) aj) (.inl rfl) (by kernel_rfl),ab⟩
 cases ot with
 |none=>
  obtain rfl:v=.aZ:=aD
  exact fin 1 h (YH (Y m) h) rfl (Ext.refl _ _)
 |some t=>
  have bA:c_ (some t)=sz t:=iP t
  obtain⟨m,rfl⟩:∃j,m=j+1:=⟨m-1,by omega⟩
  have aF:=Xh (m:=m) g5 (by omega) aD
  rw[bA] at aF g5 hm
  rcases aD.CF with rfl|⟨R,rfl⟩
  · cases t with
    |mk bJ bQ ez gV fX=>obtain⟨R,bK,a_,c0,vs,bk,aI,up,ab,_⟩:=aD;cases ab
  by_cases pj:60<sz t
  · exact fin 3 h (YL (Y (m+1)) R _ false h h h aF (dT (by omega))) (by simp[dv,pj]) (Ext.refl _ _)
  · obtain⟨y,a6,cS⟩:=Nd VU (sz t) t (Nat.le_refl _) (by omega) (aN t rfl) (m+1) B h (.ptr R 0) (by omega) cC aD
    cases s6:ep t with
    |true=>
     rw[s6] at a6
     exact fin 0 y (YN (Y (m+1)) R _ true h h y aF (e1 (by omega)) a6 rfl) (by simp[dv,pj,s6]) cS
    |false=>
     rw[s6] at a6
     exact fin 2 y (YM (Y (m+1)) R _ false h h y aF (e1 (by omega)) a6 rfl) (by simp[dv,pj,s6]) cS
end Go.Proofs.jk
