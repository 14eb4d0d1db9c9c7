/-
  PROVED HERE: contracts of functions (Dc). No condition beside each statement's own.
-/
import Derived.Test.YtjkomfonmcmgdaaGreatDoorDb
import Derived.Test.YtjkomfonmcmgdaaGreatDoorTx
set_option linter.unusedVariables false
set_option linter.unusedSimpArgs false
set_option maxRecDepth 100000
set_option maxHeartbeats 1000000
namespace Go.Proofs.kh
open Go bg Go.Proofs ir
variable {Q:bW->bL->Prop} {R:bE->Prop} (call:aW)
theorem aaU(v:ad)(h:ab):
  a5 an Tryz.f53 none call [0] (aj [(0,v)] h) (.nrm)
   (aj [(0,v)] h):=
 bN [0] [] 16 0 0 bM
theorem aaV(r k:Nat)(h:ab)(gw:Nat)
  (H1:aq h r (0+0)=some (J gw))
  (bh:cE gw 1=true):
  a5 an Tryz.f53 none call [1,0] (aj [(0,af r)] h) (.ret)
   (aj [(0,af r),(2,.bool false)] h):=
 bN [0,2] (.v (.bool false)::cv 4 0 (.v (J gw)::cv 9 127 [])) 16 15 0x211113114444440 (kd (by kernel_rfl:ec an h BinOp.eql 35 (Operand.tmp 7) (Operand.const (Value.pointer none)) (ad.ptr r 0) ad.aX=some (ad.bool false)) H1 bh bM)
theorem aaW(r k:Nat)(h:ab)(gw:Nat)
  (H1:aq h r (0+0)=some (J gw))
  (bh:cE gw 1=false)
  (bD:cE 9 gw=true):
  a5 an Tryz.f53 none call [1,0] (aj [(0,af r)] h) (.ret)
   (aj [(0,af r),(2,.bool false)] h):=
 bN [0,2] (.v (.bool false)::cv 4 0 (.v (J gw)::cv 6 0 (.v (J gw)::cv 3 1 []))) 16 16 0x2111131144443445 (mW (by kernel_rfl:ec an h BinOp.eql 35 (Operand.tmp 7) (Operand.const (Value.pointer none)) (ad.ptr r 0) ad.aX=some (ad.bool false)) H1 bh bD bM)
theorem aaX(r k:Nat)(h:ab)(gw:Nat)
  (H1:aq h r (0+0)=some (J gw))
  (bh:cE gw 1=false)
  (bD:cE 9 gw=false):
  a5 an Tryz.f53 none call [1,0] (aj [(0,af r)] h) (.nrm)
   (aj [(0,af r)] h):=
 bN [0,2] (.v (.bool false)::cv 4 0 (.v (J gw)::cv 6 0 (.v (J gw)::cv 3 0 []))) 16 16 0x2111131144443445 (mW (by kernel_rfl:ec an h BinOp.eql 35 (Operand.tmp 7) (Operand.const (Value.pointer none)) (ad.ptr r 0) ad.aX=some (ad.bool false)) H1 bh bD bM)
theorem aaY(r:Nat)(h:ab)(H:∃s1,aq (h.room 54) r 1=some (.str s1)/\∃aB,aq (h.room 54) r 0=some (J aB)/\(fp (!c1 s1 []) (bQ aB 6)=true->∃v1,aq (h.room 54) r 2=some v1/\∃aY,bV an (h.room 54) 63 v1=some (J aY)/\(0<aY->∃bd,aq (h.room 54) r 0=some (J bd)/\(bd=7->∃v2,aq (h.room 54) r 3=some v2/\∃bj,bV an (h.room 54) 50 v2=some (J bj)/\(0<bj->∃bC,aq (h.room 54) r 0=some (J bC)/\(bC<7->cr v1/\cr v2/\Q .ret (aj [(0,af r),(2,.bool false)] (h.room 54)))/\(¬bC<7->∃bP,aq (h.room 54) r 4=some (af bP)/\∃cd,aq (h.room 54) r 0=some (J cd)/\cr v1/\cr v2/\(fp true (bQ cd 8)=true->Q .nrm (aj [(0,af r)] (h.room 54)))/\(fp true (bQ cd 8)=false->Q .ret (aj [(0,af r),(2,.bool false)] (h.room 54)))))/\(¬0<bj->∃cR,aq (h.room 54) r 4=some (af cR)/\∃dD,aq (h.room 54) r 0=some (J dD)/\cr v1/\cr v2/\(fp true (bQ dD 8)=true->Q .nrm (aj [(0,af r)] (h.room 54)))/\(fp true (bQ dD 8)=false->Q .ret (aj [(0,af r),(2,.bool false)] (h.room 54)))))/\(¬bd=7->cr v1/\Q .ret (aj [(0,af r),(2,.bool false)] (h.room 54))))/\(¬0<aY->∃b8,aq (h.room 54) r 3=some b8/\∃dX,bV an (h.room 54) 50 b8=some (J dX)/\(0<dX->∃eE,aq (h.room 54) r 0=some (J eE)/\(eE<7->cr v1/\cr b8/\Q .ret (aj [(0,af r),(2,.bool false)] (h.room 54)))/\(¬eE<7->∃e9,aq (h.room 54) r 4=some (af e9)/\∃fw,aq (h.room 54) r 0=some (J fw)/\cr v1/\cr b8/\(fp true (bQ fw 8)=true->Q .nrm (aj [(0,af r)] (h.room 54)))/\(fp true (bQ fw 8)=false->Q .ret (aj [(0,af r),(2,.bool false)] (h.room 54)))))/\(¬0<dX->∃jo,aq (h.room 54) r 4=some (af jo)/\∃kV,aq (h.room 54) r 0=some (J kV)/\cr v1/\cr b8/\(fp true (bQ kV 8)=true->Q .nrm (aj [(0,af r)] (h.room 54)))/\(fp true (bQ kV 8)=false->Q .ret (aj [(0,af r),(2,.bool false)] (h.room 54))))))/\(fp (!c1 s1 []) (bQ aB 6)=false->Q .ret (aj [(0,af r),(2,.bool false)] (h.room 54)))):
  bp an Tryz.f53 call [1,1,0] (aj [(0,af r)] h) Q:=
 c3 [] [0,2] [] H
theorem aaZ(r:Nat)(h:ab)(H:∃s1,aq (h.room 54) r 1=some (.str s1)/\∃aB,aq (h.room 54) r 0=some (J aB)/\(fp (!c1 s1 []) (bQ aB 6)=true->∃v1,aq (h.room 54) r 2=some v1/\∃aY,bV an (h.room 54) 63 v1=some (J aY)/\(0<aY->∃bd,aq (h.room 54) r 0=some (J bd)/\(bd=7->∃v2,aq (h.room 54) r 3=some v2/\∃bj,bV an (h.room 54) 50 v2=some (J bj)/\(0<bj->∃bC,aq (h.room 54) r 0=some (J bC)/\(bC<7->cr v1/\cr v2/\Q .ret (aj [(0,af r),(2,.bool false)] (h.room 54)))/\(¬bC<7->aq (h.room 54) r 4=some .aX/\∃bP,aq (h.room 54) r 0=some (J bP)/\cr v1/\cr v2/\(fp false (bQ bP 8)=true->Q .nrm (aj [(0,af r)] (h.room 54)))/\(fp false (bQ bP 8)=false->Q .ret (aj [(0,af r),(2,.bool false)] (h.room 54)))))/\(¬0<bj->aq (h.room 54) r 4=some .aX/\∃cd,aq (h.room 54) r 0=some (J cd)/\cr v1/\cr v2/\(fp false (bQ cd 8)=true->Q .nrm (aj [(0,af r)] (h.room 54)))/\(fp false (bQ cd 8)=false->Q .ret (aj [(0,af r),(2,.bool false)] (h.room 54)))))/\(¬bd=7->cr v1/\Q .ret (aj [(0,af r),(2,.bool false)] (h.room 54))))/\(¬0<aY->∃b8,aq (h.room 54) r 3=some b8/\∃cR,bV an (h.room 54) 50 b8=some (J cR)/\(0<cR->∃dD,aq (h.room 54) r 0=some (J dD)/\(dD<7->cr v1/\cr b8/\Q .ret (aj [(0,af r),(2,.bool false)] (h.room 54)))/\(¬dD<7->aq (h.room 54) r 4=some .aX/\∃dX,aq (h.room 54) r 0=some (J dX)/\cr v1/\cr b8/\(fp false (bQ dX 8)=true->Q .nrm (aj [(0,af r)] (h.room 54)))/\(fp false (bQ dX 8)=false->Q .ret (aj [(0,af r),(2,.bool false)] (h.room 54)))))/\(¬0<cR->aq (h.room 54) r 4=some .aX/\∃eE,aq (h.room 54) r 0=some (J eE)/\cr v1/\cr b8/\(fp false (bQ eE 8)=true->Q .nrm (aj [(0,af r)] (h.room 54)))/\(fp false (bQ eE 8)=false->Q .ret (aj [(0,af r),(2,.bool false)] (h.room 54))))))/\(fp (!c1 s1 []) (bQ aB 6)=false->Q .ret (aj [(0,af r),(2,.bool false)] (h.room 54)))):
  bp an Tryz.f53 call [1,1,0] (aj [(0,af r)] h) Q:=
 c3 [(68,.a1 (.is .aX))] [0,2] [] H
theorem y2(x:Bool)(k c:Nat):fp x (fc (Int.ofNat k) (Int.ofNat c))=!(x !=decide (k=c)):=by
 (first|rw[w_]|rw[bQ,w_]);cases x<;>cases decide (k=c)<;>rfl
def BP(b:Bool)(s1 s2:bL)(e:bW)(s:bL):Prop:=if b=true then e=.nrm/\s=s1 else e=.ret/\s=s2
theorem Qc{b:Bool}{s1 s2:bL}(h:b=true):BP b s1 s2 .nrm s1:=by unfold BP;rw[if_pos h];exact⟨rfl,rfl⟩
theorem y3{b:Bool}{s1 s2:bL}(h:b=false):BP b s1 s2 .ret s2:=by unfold BP;rw[if_neg (by rw[h];simp)];exact⟨rfl,rfl⟩
theorem Qd{fn:Func}{call:aW}{p:List Nat}{st s1:bL}{b:Bool}{Γ Γ2:Env}{ae:ab}(h:bp an fn call p st (BP b s1 (aks Γ ae)))(al:bY Γ2 Γ):if b=true then a5 an fn none call p st .nrm s1 else a5 an fn none call p st .ret (aks Γ2 ae):=by
 obtain⟨e,s,r,q⟩:=h
 cases b with
 |true=>obtain⟨rfl,rfl⟩:=q;exact r
 |false=>obtain⟨rfl,rfl⟩:=q;exact dA.post r al
theorem aa0{m R k N M w:Nat}{s:bb}{n a:ad}{h:ab}{bq:hb}{lo up:Nat}(BA:h.get R=some (.cells [J k,.str s,n,a,.ptr w 0] 80 bq lo up))(aH:bV an (h.room 54) 63 n=some (J N))(aV:bV an (h.room 54) 50 a=some (J M))(gO:ad.sound n=true)(lH:ad.sound a=true):
  if jm k s N M true=true then a5 an Tryz.f53 none (Y m) [1,1,0] ⟨[(0,.ptr R 0)],[],.none,h⟩ .nrm ⟨[(0,.ptr R 0)],[],.none,h.room 54⟩
  else a5 an Tryz.f53 none (Y m) [1,1,0] ⟨[(0,.ptr R 0)],[],.none,h⟩ .ret ⟨[(2,.bool false)],[],.none,h.room 54⟩:=by
 have ar:(h.room 54).get R=some (.cells [J k,.str s,n,a,.ptr w 0] 80 bq lo up):=BA
 refine Qd (Γ:=[(0,.ptr R 0),(2,.bool false)]) (aaY (Y m) R h ⟨s,aF ar rfl,k,aF ar rfl,λaM=>?_,λaM=>?_⟩) ⟨rfl,trivial⟩
 · rw[y2] at aM
   refine⟨n,aF ar rfl,N,aH,λhh=>⟨k,aF ar rfl,λdw=>⟨a,aF ar rfl,M,aV,λgB=>⟨k,aF ar rfl,λgF=>absurd gF (by omega),λgF=>⟨w,aF ar rfl,k,aF ar rfl,gO,lH,λbf=>?_,λbf=>?_⟩⟩,λgB=>⟨w,aF ar rfl,k,aF ar rfl,gO,lH,λbf=>?_,λbf=>?_⟩⟩,λdw=>⟨gO,?_⟩⟩,λhh=>⟨a,aF ar rfl,M,aV,λgB=>⟨k,aF ar rfl,λgF=>⟨gO,lH,?_⟩,λgF=>⟨w,aF ar rfl,k,aF ar rfl,gO,lH,λbf=>?_,λbf=>?_⟩⟩,λgB=>⟨w,aF ar rfl,k,aF ar rfl,gO,lH,λbf=>?_,λbf=>?_⟩⟩⟩
   all_goals (try rw[y2] at bf)
   all_goals first
    |(refine Qc ?_;simp only[jm,aM,bf];simp;omega)
    |(refine y3 ?_;simp only[jm,aM,bf];simp;done)
    |(refine y3 ?_;simp[jm];omega)
 · rw[y2] at aM
   exact y3 (by simp only[jm,aM];simp)
theorem aa1{m R k N M:Nat}{s:bb}{n a:ad}{h:ab}{bq:hb}{lo up:Nat}(BA:h.get R=some (.cells [J k,.str s,n,a,.aX] 80 bq lo up))(aH:bV an (h.room 54) 63 n=some (J N))(aV:bV an (h.room 54) 50 a=some (J M))(gO:ad.sound n=true)(lH:ad.sound a=true):
  if jm k s N M false=true then a5 an Tryz.f53 none (Y m) [1,1,0] ⟨[(0,.ptr R 0)],[],.none,h⟩ .nrm ⟨[(0,.ptr R 0)],[],.none,h.room 54⟩
  else a5 an Tryz.f53 none (Y m) [1,1,0] ⟨[(0,.ptr R 0)],[],.none,h⟩ .ret ⟨[(2,.bool false)],[],.none,h.room 54⟩:=by
 have ar:(h.room 54).get R=some (.cells [J k,.str s,n,a,.aX] 80 bq lo up):=BA
 refine Qd (Γ:=[(0,.ptr R 0),(2,.bool false)]) (aaZ (Y m) R h ⟨s,aF ar rfl,k,aF ar rfl,λaM=>?_,λaM=>?_⟩) ⟨rfl,trivial⟩
 · rw[y2] at aM
   refine⟨n,aF ar rfl,N,aH,λhh=>⟨k,aF ar rfl,λdw=>⟨a,aF ar rfl,M,aV,λgB=>⟨k,aF ar rfl,λgF=>absurd gF (by omega),λgF=>⟨aF ar rfl,k,aF ar rfl,gO,lH,λbf=>?_,λbf=>?_⟩⟩,λgB=>⟨aF ar rfl,k,aF ar rfl,gO,lH,λbf=>?_,λbf=>?_⟩⟩,λdw=>⟨gO,?_⟩⟩,λhh=>⟨a,aF ar rfl,M,aV,λgB=>⟨k,aF ar rfl,λgF=>⟨gO,lH,?_⟩,λgF=>⟨aF ar rfl,k,aF ar rfl,gO,lH,λbf=>?_,λbf=>?_⟩⟩,λgB=>⟨aF ar rfl,k,aF ar rfl,gO,lH,λbf=>?_,λbf=>?_⟩⟩⟩
   all_goals (try rw[y2] at bf)
   all_goals first
    |(refine Qc ?_;simp only[jm,aM,bf];simp;omega)
    |(refine y3 ?_;simp only[jm,aM,bf];simp;done)
    |(refine y3 ?_;simp[jm];omega)
 · rw[y2] at aM
   exact y3 (by simp only[jm,aM];simp)
theorem Qe(r:Nat)(h:ab):
  a5 an Tryz.f53 none call [1,1,1,0,0] (aj [(0,af r)] h) (.nrm)
   (aj [(0,af r),(3,J 0)] h):=
 bN [0,3] [] 16 0 0 bM
theorem aa2(r i N:Nat)(v:ad)(h:ab)
  (H1:aq h r (0+3)=some v)
  (bh:bV an h 50 v=some (J N))
  (bD:cE i N=false):
  a5 an Tryz.f53 none call [1,1,1,0,1,0,0] (aj [(0,af r),(3,J i)] h) (.exit 0)
   (aj [(0,af r)] h):=
 bN [0] [.v v,.o (J N),.b false] 16 3 564 (kd H1 bh bD bM)
theorem aa3(r b off N i q j:Nat)(c:Bool)(x:ad)(cp:ct)(h g:ab)
  (H1:aq h r (0+3)=some (.slice b off N cp))
  (bh:cE i N=true)
  (bD:Nat.le (Nat.succ i) N/\ad.ptr b q=ad.ptr b (off+i*1))
  (cm:aq h b q=some x)
  (cS:call (.fn 53) [x] h=bE.ret (.bool c) g)
  (dT:(!c)=true):
  a5 an Tryz.f53 none call [1,1,1,0,1,0,0] (aj [(0,af r),(3,J i)] h) (.ret)
   (aj [(0,af r),(2,.bool false),(3,J i)] g):=
 bN [0,2,3] [.v (.slice b off N cp),.b true,.v (.slice b off N cp),.v (.ptr b q),.v x,.c (.bool c) g,.b true] 16 7 36848999 (wA H1 bh bD cm cS dT bM)
theorem aa4(r b off N i q j:Nat)(c:Bool)(x:ad)(cp:ct)(h g:ab)
  (H1:aq h r (0+3)=some (.slice b off N cp))
  (bh:cE i N=true)
  (bD:Nat.le (Nat.succ i) N/\ad.ptr b q=ad.ptr b (off+i*1))
  (cm:aq h b q=some x)
  (cS:call (.fn 53) [x] h=bE.ret (.bool c) g)
  (dT:(!c)=false)
  (eS:arith .add .i64 (.ofNat i) (.ofNat 1)=some (J j)):
  a5 an Tryz.f53 none call [1,1,1,0,1,0,0] (aj [(0,af r),(3,J i)] h) (.nrm)
   (aj [(0,af r),(3,J j)] g):=
 bN [0,2,3] [.v (.slice b off N cp),.b true,.v (.slice b off N cp),.v (.ptr b q),.v x,.c (.bool c) g,.b false,.v (J j)] 16 8 589583992 (s5 H1 bh bD cm cS dT eS bM)
theorem aa5(r k:Nat)(h:ab)
  (H1:aq h r (0+0)=some (J k)):
  a5 an Tryz.f53 none call [1,1,1,1,0,0] (aj [(0,af r)] h) (.nrm)
   (aj [(0,af r),(98,J k)] h):=
 bN [0,98] [.v (J k)] 16 1 2 (hR H1 bM)
theorem aa6(r:Nat)(s:List UInt8)(b:Bool)(h g:ab)
  (H1:aq h r (0+1)=some (.str s))
  (bh:call (.fn 81) [.str s] h=bE.ret (.bool b) g):
  a5 an Tryz.f53 none call [1,1,1,1,0,1] (aj [(0,af r),(98,J 6)] h) (.ret)
   (aj [(2,.bool b)] g):=
 bN [2] [.b true,.v (.str s),.c (.bool b) g] 16 3 564 (kd (by kernel_rfl:bQ 6 6=true) H1 bh bM)
theorem aa7(r N M:Nat)(n a:ad)(h:ab)
  (H1:aq (ab.room h 11) r (0+2)=some n)
  (bh:bV an (ab.room h 11) 63 n=some (J N))
  (bD:aq (ab.room h 11) r (0+3)=some a)
  (cm:bV an (ab.room h 11) 50 a=some (J M))
  (cS:ad.sound n=true:=by first|with_reducible assumption|rfl|exact c5.snd (by with_reducible assumption)|exact c5.fL (by with_reducible assumption)|exact d_.snd (by with_reducible assumption)|exact d_.fL (by with_reducible assumption)|exact dP.snd (by with_reducible assumption)|exact dP.fL (by with_reducible assumption))
  (dT:ad.sound a=true:=by first|with_reducible assumption|rfl|exact c5.snd (by with_reducible assumption)|exact c5.fL (by with_reducible assumption)|exact d_.snd (by with_reducible assumption)|exact d_.fL (by with_reducible assumption)|exact dP.snd (by with_reducible assumption)|exact dP.fL (by with_reducible assumption))
  (eS:(!bQ N M)=true):
  a5 an Tryz.f53 none call [1,1,1,1,0,1] (aj [(0,af r),(98,J 7)] h) (.ret)
   (aj [(2,.bool false)] (ab.room h 11)):=
 bN [2] (cv 2 1 [.v n,.o (J N),.v a,.o (J M),.b true]) 256 29 0x20304050607080908090a0b0c040d05080908090e0f10061107121314 (fJ (by kernel_rfl:bQ 7 6=false) (by kernel_rfl:bQ 7 7=true) H1 bh bD cm (ca (af r)) (dN (af r)) (ca (.ptr r (0+2)))<|fJ (dN (.ptr r (0+2))) cS (ca (J N)) (ca (.ptr r (0+3))) (dN (.ptr r (0+3))) dT (ca (J M)) (ca (.bool !bQ N M)) (by kernel_rfl:(ad.bool !bQ N M)=ad.bool !bQ N M)<|hR eS bM)
theorem aa8(r N M:Nat)(n a:ad)(h g:ab)
  (H1:aq (ab.room h 11) r (0+2)=some n)
  (bh:bV an (ab.room h 11) 63 n=some (J N))
  (bD:aq (ab.room h 11) r (0+3)=some a)
  (cm:bV an (ab.room h 11) 50 a=some (J M))
  (cS:ad.sound n=true:=by first|with_reducible assumption|rfl|exact c5.snd (by with_reducible assumption)|exact c5.fL (by with_reducible assumption)|exact d_.snd (by with_reducible assumption)|exact d_.fL (by with_reducible assumption)|exact dP.snd (by with_reducible assumption)|exact dP.fL (by with_reducible assumption))
  (dT:ad.sound a=true:=by first|with_reducible assumption|rfl|exact c5.snd (by with_reducible assumption)|exact c5.fL (by with_reducible assumption)|exact d_.snd (by with_reducible assumption)|exact d_.fL (by with_reducible assumption)|exact dP.snd (by with_reducible assumption)|exact dP.fL (by with_reducible assumption))
  (eS:(!bQ N M)=false)
  (g6:a5 an Tryz.f53 none call [1,1,1,1,0,1,0,1,1,1,0,1,1,0] (aj [(4,J 0),(118,.bool !bQ N M),(106,.bool (bQ 7 7)),(99,.bool (bQ 7 6)),(0,af r),(98,J 7)] (ab.room h 11)) (.exit 3) (aj [(0,af r)] g)):
  a5 an Tryz.f53 none call [1,1,1,1,0,1] (aj [(0,af r),(98,J 7)] h) (.nrm)
   (aj [(0,af r)] g):=
 bN [0] (cv 2 1 [Hint.v n,Hint.o (J N),Hint.v a,Hint.o (J M),Hint.b false,Hint.loop (bW.exit 3) (bL.mk [(0,ad.ptr r 0)] [] bU.none g)]) 256 30 0x20304050607080908090a0b0c040d05080908090e0f1006110712131415 (fJ (by kernel_rfl:bQ 7 6=false) (by kernel_rfl:bQ 7 7=true) H1 bh bD cm (ca (af r)) (dN (af r)) (ca (.ptr r (0+2)))<|fJ (dN (.ptr r (0+2))) cS (ca (J N)) (ca (.ptr r (0+3))) (dN (.ptr r (0+3))) dT (ca (J M)) (ca (.bool !bQ N M)) (by kernel_rfl:(ad.bool !bQ N M)=ad.bool !bQ N M)<|ji eS g6 bM)
theorem aa9(r N M:Nat)(n a:ad)(h g:ab)
  (H1:aq (ab.room h 11) r (0+2)=some n)
  (bh:bV an (ab.room h 11) 63 n=some (J N))
  (bD:aq (ab.room h 11) r (0+3)=some a)
  (cm:bV an (ab.room h 11) 50 a=some (J M))
  (cS:ad.sound n=true:=by first|with_reducible assumption|rfl|exact c5.snd (by with_reducible assumption)|exact c5.fL (by with_reducible assumption)|exact d_.snd (by with_reducible assumption)|exact d_.fL (by with_reducible assumption)|exact dP.snd (by with_reducible assumption)|exact dP.fL (by with_reducible assumption))
  (dT:ad.sound a=true:=by first|with_reducible assumption|rfl|exact c5.snd (by with_reducible assumption)|exact c5.fL (by with_reducible assumption)|exact d_.snd (by with_reducible assumption)|exact d_.fL (by with_reducible assumption)|exact dP.snd (by with_reducible assumption)|exact dP.fL (by with_reducible assumption))
  (eS:(!bQ N M)=false)
  (g6:a5 an Tryz.f53 none call [1,1,1,1,0,1,0,1,1,1,0,1,1,0] (aj [(4,J 0),(118,.bool !bQ N M),(106,.bool (bQ 7 7)),(99,.bool (bQ 7 6)),(0,af r),(98,J 7)] (ab.room h 11)) (.ret) (aj [(2,.bool false)] g)):
  a5 an Tryz.f53 none call [1,1,1,1,0,1] (aj [(0,af r),(98,J 7)] h) (.ret)
   (aj [(2,.bool false)] g):=
 bN [2] (cv 2 1 [Hint.v n,Hint.o (J N),Hint.v a,Hint.o (J M),Hint.b false,Hint.loop bW.ret (bL.mk [(2,ad.bool false)] [] bU.none g)]) 256 30 0x20304050607080908090a0b0c040d05080908090e0f1006110712131415 (fJ (by kernel_rfl:bQ 7 6=false) (by kernel_rfl:bQ 7 7=true) H1 bh bD cm (ca (af r)) (dN (af r)) (ca (.ptr r (0+2)))<|fJ (dN (.ptr r (0+2))) cS (ca (J N)) (ca (.ptr r (0+3))) (dN (.ptr r (0+3))) dT (ca (J M)) (ca (.bool !bQ N M)) (by kernel_rfl:(ad.bool !bQ N M)=ad.bool !bQ N M)<|ji eS g6 bM)
theorem aa_(r:Nat)(v:ad)(b:Bool)(h g:ab)
  (H1:aq h r (0+4)=some v)
  (bh:call (.fn 53) [v] h=bE.ret (.bool b) g):
  a5 an Tryz.f53 none call [1,1,1,1,0,1] (aj [(0,af r),(98,J 8)] h) (.ret)
   (aj [(2,.bool b)] g):=
 bN [2] (cv 3 1 [.v v,.c (.bool b) g]) 16 5 144470 (mX (by kernel_rfl:bQ 8 6=false) (by kernel_rfl:bQ 8 7=false) (by kernel_rfl:bQ 8 8=true) H1 bh bM)
theorem aba(r M:Nat)(a:ad)(h g:ab)
  (H1:a5 an Tryz.f53 none call [1,1,1,1,0,1,0,1,1,1,1,1,1,1,0,0,1,0] (aj [(5,J 0),(167,.bool (bQ 9 9)),(160,.bool (bQ 9 8)),(106,.bool (bQ 9 7)),(99,.bool (bQ 9 6)),(0,af r),(98,J 9)] h) (.exit 5) (aj [(0,af r)] g))
  (bh:aq g r (0+3)=some a)
  (bD:bV an g 50 a=some (J M)):
  a5 an Tryz.f53 none call [1,1,1,1,0,1] (aj [(0,af r),(98,J 9)] h) (.ret)
   (aj [(2,.bool (jU 2 M))] g):=
 bN [2] (cv 4 1 [Hint.loop (bW.exit 5) (bL.mk [(0,ad.ptr r 0)] [] bU.none g),Hint.v a,Hint.o (J M)]) 16 7 36984440 (s5 (by kernel_rfl:bQ 9 6=false) (by kernel_rfl:bQ 9 7=false) (by kernel_rfl:bQ 9 8=false) (by kernel_rfl:bQ 9 9=true) H1 bh bD bM)
theorem abb(r:Nat)(h g:ab)
  (H1:a5 an Tryz.f53 none call [1,1,1,1,0,1,0,1,1,1,1,1,1,1,0,0,1,0] (aj [(5,J 0),(167,.bool (bQ 9 9)),(160,.bool (bQ 9 8)),(106,.bool (bQ 9 7)),(99,.bool (bQ 9 6)),(0,af r),(98,J 9)] h) (.ret) (aj [(2,.bool false)] g)):
  a5 an Tryz.f53 none call [1,1,1,1,0,1] (aj [(0,af r),(98,J 9)] h) (.ret)
   (aj [(2,.bool false)] g):=
 bN [2] (cv 4 1 [Hint.loop bW.ret (bL.mk [(2,ad.bool false)] [] bU.none g)]) 16 5 144470 (mX (by kernel_rfl:bQ 9 6=false) (by kernel_rfl:bQ 9 7=false) (by kernel_rfl:bQ 9 8=false) (by kernel_rfl:bQ 9 9=true) H1 bM)
theorem abc(r k:Nat)(h:ab)
  (H1:bQ k 6=false)
  (bh:bQ k 7=false)
  (bD:bQ k 8=false)
  (cm:bQ k 9=false):
  a5 an Tryz.f53 none call [1,1,1,1,0,1] (aj [(0,af r),(98,J k)] h) (.nrm)
   (aj [(0,af r)] h):=
 bN [0] (cv 4 0 []) 16 4 9029 (mW H1 bh bD cm bM)
theorem abd(h:ab):
  a5 an Tryz.f53 none call [1,1,1,1,1] (aj [] h) (.ret)
   (aj [(2,.bool true)] h):=
 bN [2] [] 16 0 0 bM
theorem abe(r i N:Nat)(v:ad)(h:ab)
  (H1:aq h r (0+2)=some v)
  (bh:bV an h 63 v=some (J N))
  (bD:cE i N=false):
  a5 an Tryz.f53 none call [1,1,1,1,0,1,0,1,1,1,0,1,1,0,0] (aj [(0,af r),(4,J i)] h) (.exit 3)
   (aj [(0,af r)] h):=
 bN [0] [.v v,.o (J N),.b false] 16 3 564 (kd H1 bh bD bM)
theorem abf(r i N:Nat)(v:ad)(h:ab)
  (H1:aq h r (0+3)=some v)
  (bh:bV an h 50 v=some (J N))
  (bD:cE i N=false):
  a5 an Tryz.f53 none call [1,1,1,1,0,1,0,1,1,1,1,1,1,1,0,0,1,0,0] (aj [(0,af r),(5,J i)] h) (.exit 5)
   (aj [(0,af r)] h):=
 bN [0] [.v v,.o (J N),.b false] 16 3 564 (kd H1 bh bD bM)
theorem abg(v:ad)(h:ab):
  a5 an Tryz.f28 none call [0] (aj [(0,v)] h) (.nrm)
   (aj [(0,v)] h):=
 bN [0] [] 16 0 0 bM
theorem abh(h:ab):
  a5 an Tryz.f28 none call [1] (aj [(0,.aX)] h) (.ret)
   (aj [(2,J 1)] h):=
 bN [2] [.v (.bool true),.b true] 16 2 32 (hR (by kernel_rfl:ec an h BinOp.eql 35 (Operand.tmp 3) (Operand.const (Value.pointer none)) ad.aX ad.aX=some (ad.bool true)) bM)
theorem abi(r b off N i q a2 j mc:Nat)(s t:List UInt8)(d:Bool)(cp:ct)(h g av:ab)
  (H1:aq h r (0+2)=some (.slice b off N cp))
  (bh:cE i N=true)
  (bD:aq (ab.room h 32) r (0+2)=some (.slice b off N cp))
  (cm:Nat.le (Nat.succ i) N/\ad.ptr b q=ad.ptr b (off+i*1))
  (cS:aq (ab.room h 32) b q=some (.str s))
  (dT:call (.fn 76) [.str s] (ab.room h 32)=bE.ret (.bool false) g):
  a5 an Tryz.f53 none call [1,1,1,1,0,1,0,1,1,1,0,1,1,0,0] (aj [(0,af r),(4,J i)] h) (.ret)
   (aj [(2,.bool false)] g):=
 bN [2] (.v (.slice b off N cp)::.b true::.v (.slice b off N cp)::.v (.ptr b q)::.v (.str s)::.c (.bool false) g::cv 6 63 []) 256 36 0x203040506070808080808090a090a0b0c0d040e0f100511061213121301010101141500 (fJ H1 bh bD cm cS dT (by kernel_rfl:(!false)=true) (ca (af r)) (dN (af r))<|fJ (ca (.ptr r (0+2))) (dN (.ptr r (0+2))) (ca (.slice b off N cp)) (ca (J i)) (dN (J i)) (ca (.ptr b q)) (ca (.str s)) (ca (.bool !false)) (by kernel_rfl:(ad.bool !false)=ad.bool !false)<|ji (ca (.bool true)) (by kernel_rfl:(bif !false then ad.bool true else ad.aR [])=ad.bool true) bM)
theorem abj(r b off N i q a2 j mc m k:Nat)(x:ad)(s t:List UInt8)(d:Bool)(cp:ct)(h g av aD:ab)
  (H1:aq h r (0+3)=some (.slice b off N cp))
  (bh:cE i N=true)
  (bD:Nat.le (Nat.succ i) N/\ad.ptr b q=ad.ptr b (off+i*1))
  (cm:aq h b q=some (af m))
  (cS:aq h m (0+0)=some (J k))
  (dT:bQ k 9=true):
  a5 an Tryz.f53 none call [1,1,1,1,0,1,0,1,1,1,1,1,1,1,0,0,1,0,0] (aj [(0,af r),(5,J i)] h) (.ret)
   (aj [(2,.bool false)] (ab.room h 31)):=
 bN [2] (.v (.slice b off N cp)::.b true::.v (.slice b off N cp)::.v (.ptr b q)::.v (af m)::.v (J k)::cv 9 511 []) 256 33 0x20302040506070707000000000008090a0b0a0b0c0c0d0e0d0f010101010d1000 (fJ H1 bh bD cm cS dT (ca (J k)) (dN (J k)) (ca (.bool (bQ k 9)))<|wA (dN (.bool (bQ k 9))) (Om dT) (ca (.bool true)) (by rw[dT];first|done|rfl:(bif bQ k 9 then ad.bool true else ad.aR [])=ad.bool true) (dN (.bool true)) (by kernel_rfl:(bif true then ad.bool true else ad.aR [])=ad.bool true) bM)
theorem abk(r b off N i q a2 j mc m k:Nat)(x:ad)(s t:List UInt8)(d:Bool)(cp:ct)(h g av aD:ab)
  (H1:aq h r (0+3)=some (.slice b off N cp))
  (bh:cE i N=true)
  (bD:Nat.le (Nat.succ i) N/\ad.ptr b q=ad.ptr b (off+i*1))
  (cm:aq h b q=some (af m))
  (cS:aq h m (0+0)=some (J k))
  (dT:bQ k 9=false)
  (eS:bQ k 1=true):
  a5 an Tryz.f53 none call [1,1,1,1,0,1,0,1,1,1,1,1,1,1,0,0,1,0,0] (aj [(0,af r),(5,J i)] h) (.ret)
   (aj [(2,.bool false)] (ab.room h 31)):=
 bN [2] (.v (.slice b off N cp)::.b true::.v (.slice b off N cp)::.v (.ptr b q)::.v (af m)::.v (J k)::cv 9 63 []) 256 33 0x203020405060707070808080808090a0b0c0b0c0d0e0f100f1112121212131400 (fJ H1 bh bD cm cS dT eS (ca (J k)) (dN (J k))<|fJ (ca (.bool (bQ k 9))) (dN (.bool (bQ k 9))) (dM.cons (by kernel_rfl:ad.sound (J k)=true)<|dM.cons (by kernel_rfl:J k=J k)<|dM.nil) (dM.cons (by kernel_rfl:ad.sound (ad.bool (bQ k 1))=true)<|dM.cons (by kernel_rfl:ad.bool (bQ k 1)=ad.bool (bQ k 1))<|dM.nil) (ca (.bool (bQ k 1))) (by rw[dT];first|done|rfl:(bif bQ k 9 then ad.bool true else ad.bool (bQ k 1))=ad.bool (bQ k 1)) (dN (.bool (bQ k 1))) (Om eS) (ca (.bool true))<|hR (by rw[eS];first|done|rfl:(bif bQ k 1 then ad.bool true else ad.aR [])=ad.bool true) bM)
theorem abl(r k:Nat)(b:Bool)(h ak av:ab)
  (H1:call (.fn 52) [af r] h=bE.ret (J k) ak)
  (bh:cE 60 k=true):
  a5 an Tryz.f28 none call [1] (aj [(0,af r)] h) (.ret)
   (aj [(2,J 3)] ak):=
 bN [2] [.v (.bool false),.b false,.c (J k) ak,.b true] 16 4 8500 (kd (by kernel_rfl:ec an h BinOp.eql 35 (Operand.tmp 3) (Operand.const (Value.pointer none)) (ad.ptr r 0) ad.aX=some (ad.bool false)) H1 bh bM)
theorem abm(r k:Nat)(b:Bool)(h ak av:ab)
  (H1:call (.fn 52) [af r] h=bE.ret (J k) ak)
  (bh:cE 60 k=false)
  (bD:call (.fn 53) [af r] ak=bE.ret (.bool b) av)
  (cm:(!b)=true):
  a5 an Tryz.f28 none call [1] (aj [(0,af r)] h) (.ret)
   (aj [(2,J 2)] av):=
 bN [2] [.v (.bool false),.b false,.c (J k) ak,.b false,.c (.bool b) av,.b true] 16 6 2176086 (mX (by kernel_rfl:ec an h BinOp.eql 35 (Operand.tmp 3) (Operand.const (Value.pointer none)) (ad.ptr r 0) ad.aX=some (ad.bool false)) H1 bh bD cm bM)
theorem abn(r k:Nat)(b:Bool)(h ak av:ab)
  (H1:call (.fn 52) [af r] h=bE.ret (J k) ak)
  (bh:cE 60 k=false)
  (bD:call (.fn 53) [af r] ak=bE.ret (.bool b) av)
  (cm:(!b)=false):
  a5 an Tryz.f28 none call [1] (aj [(0,af r)] h) (.ret)
   (aj [(2,J 0)] av):=
 bN [2] [.v (.bool false),.b false,.c (J k) ak,.b false,.c (.bool b) av,.b false] 16 6 2176086 (mX (by kernel_rfl:ec an h BinOp.eql 35 (Operand.tmp 3) (Operand.const (Value.pointer none)) (ad.ptr r 0) ad.aX=some (ad.bool false)) H1 bh bD cm bM)
theorem Je(r i:Nat)(h:ab)(H:∃aB aY bd,∃aM:ct,aq h r 2=some (.slice aB aY bd aM)/\i<bd/\∃bj bC bP,∃bf:ct,aq (h.room 32) r 2=some (.slice bj bC bP bf)/\i<bP/\∃s1,aq (h.room 32) bj (bC+i*1)=some (.str s1)/\∃ak,call (.fn 76) [.str s1] (h.room 32)=.ret (.bool true) ak/\(0<i->∃cd cR dD,∃ee:ct,aq ak r 2=some (.slice cd cR dD ee)/\(1<=i/\i<9223372036854775808)/\i-1<dD/\∃s2,aq ak cd (cR+(i-1)*1)=some (.str s2)/\∃dX eE e9,∃fQ:ct,aq ak r 2=some (.slice dX eE e9 fQ)/\i<e9/\∃b1,aq ak dX (eE+i*1)=some (.str b1)/\∃bn av,call (.fn 77) [.str s2,.str b1] ak=.ret (.bool bn) av/\(bn=true->i+1<9223372036854775808/\Q .nrm (aj [(0,af r),(4,J (i+1))] av))/\(bn=false->Q .ret (aj [(0,af r),(2,.bool false),(4,J i)] av)))/\(¬0<i->i+1<9223372036854775808/\Q .nrm (aj [(0,af r),(4,J (i+1))] ak))):
  bp an Tryz.f53 call [1,1,1,1,0,1,0,1,1,1,0,1,1,0,0] (aj [(0,af r),(4,J i)] h) Q:=
 c3 [(1125,.t),(123,.a1 .gN),(131,.a1 .gN),(135,.a1 (.is (.bool true))),(144,.a1 .gN),(152,.a1 .gN)] [0,2,4] [] H
theorem Jf(r i:Nat)(h:ab)(H:∃aB aY bd,∃aM:ct,aq h r 3=some (.slice aB aY bd aM)/\i<bd/\∃bj bC bP,∃bf:ct,aq h r 3=some (.slice bj bC bP bf)/\i<bP/\∃cd,aq h bj (bC+i*1)=some (af cd)/\∃cR,aq h cd 0=some (J cR)/\(cR=9->Q .ret (aj [(0,af r),(2,.bool false),(5,J i)] (h.room 31)))/\(¬cR=9->(cR=1->Q .ret (aj [(0,af r),(2,.bool false),(5,J i)] (h.room 31)))/\(¬cR=1->(0<i->∃dD dX eE,∃ee:ct,aq (h.room 31) r 3=some (.slice dD dX eE ee)/\(1<=i/\i<9223372036854775808)/\i-1<eE/\∃v1,aq (h.room 31) dD (dX+(i-1)*1)=some v1/\∃s1 ak,call (.fn 79) [v1] (h.room 31)=.ret (.str s1) ak/\∃e9 fw jo,∃fQ:ct,aq ak r 3=some (.slice e9 fw jo fQ)/\i<jo/\∃kV,aq ak e9 (fw+i*1)=some (af kV)/\∃s2 av,call (.fn 79) [af kV] ak=.ret (.str s2) av/\∃bn aD,call (.fn 77) [.str s1,.str s2] av=.ret (.bool bn) aD/\cr v1/\aq (h.room 31) r 3=some (.slice e9 fw jo fQ)/\aq (h.room 31) e9 (fw+i*1)=some (af kV)/\(bn=true->i+1<9223372036854775808/\Q .nrm (aj [(0,af r),(5,J (i+1))] aD))/\(bn=false->Q .ret (aj [(0,af r),(2,.bool false),(5,J i)] aD)))/\(¬0<i->i+1<9223372036854775808/\Q .nrm (aj [(0,af r),(5,J (i+1))] (h.room 31)))))):
  bp an Tryz.f53 call [1,1,1,1,0,1,0,1,1,1,1,1,1,1,0,0,1,0,0] (aj [(0,af r),(5,J i)] h) Q:=
 c3 [(1175,.t),(173,.a1 .gN),(181,.a1 .gN),(201,.a1 .gN),(205,.a1 .o),(210,.a1 .gN)] [0,2,5] [] H
theorem y4{P:Program}{fn:Func}{call:aW}{p:List Nat}{st aj:bL}{c6:bW}(h:bp P fn call p st (λe s=>e=c6/\s=aj)):a5 P fn none call p st c6 aj:=by
 obtain⟨e,s,r,rfl,rfl⟩:=h
 exact r
theorem Jg{m B R:Nat}{h:ab}{jy aj bA aU cY:ad}{bq:hb}{lo up:Nat}{ns:List bb}(dV:R<B)(ar:h.get R=some (.cells [jy,aj,bA,aU,cY] 80 bq lo up))(aH:c5 B h bA (ns.map .str))(hlen:ns.length<=90000):∀(k i:Nat) (x:ab),ns.length-i=k->i<=ns.length->(∀q,oj ns i=some q->jl q=true)->Ext B h x->
  ∃e Γ y,fX an Tryz.f53 none (Y (m+2)) [1,1,1,1,0,1,0,1,1,1,0,1,1,0] (k+1) ⟨[(0,.ptr R 0),(4,J i)],[],.none,x⟩ e (aks Γ y)/\
   ((e=.exit 3/\Γ=[(0,.ptr R 0)]/\lg (oj ns i) (ns.drop i)=true)\/(e=.ret/\Γ=[(2,.bool false)]/\lg (oj ns i) (ns.drop i)=false))/\Ext B h y
 |0,i,x,ay,hi,a0,aa=>by
  obtain rfl:i=ns.length:=by omega
  rw[List.drop_of_length_le (Nat.le_refl _)]
  have eU:=(aa.get R dV).trans ar
  exact⟨_,_,_,.exit (abe (Y (m+2)) R _ ns.length bA x (aF eU rfl) aH.td (fI (by omega))) (by simp),.inl ⟨rfl,rfl,by rw[lg]⟩,aa⟩
 |k+1,i,x,ay,hi,a0,aa=>by
  have I:i<ns.length:=by omega
  have eU:=(aa.get R dV).trans ar
  have ao:=aa.iT (k:=32)
  have hT:=(ao.get R dV).trans ar
  rcases aH.strs with⟨_,rfl⟩|⟨b,off,cp,rfl,g2,iq⟩
  · simp at I
  have aG:aq (x.room 32) b (off+i*1)=some (.str ns[i]):=(m4 ao g2).trans (iq i I)
  rw[List.drop_eq_getElem_cons I,lg]
  have aM:=P9 m ns[i] (x.room 32)
  cases hf:jl ns[i] with
  |false=>
   rw[hf] at aM
   exact⟨_,_,_,.exit (abi (Y (m+2)) R b off ns.length i (off+i*1) 0 0 0 ns[i] [] false cp x (x.room 32) x (aF eU rfl) (eD I) (aF hT rfl) ⟨I,rfl⟩ aG aM) (by simp),.inr ⟨rfl,rfl,by rw[Bool.false_and]⟩,ao⟩
  |true=>
   rw[hf] at aM
   have y5:oj ns (i+1)=some ns[i]:=by
    show ns[i]? =_
    exact List.getElem?_eq_getElem I
   have oq:∀q,oj ns (i+1)=some q->jl q=true:=λq aK=>by
    rw[y5] at aK
    obtain rfl:=Option.some.inj aK
    exact hf
   cases i with
   |zero=>
    obtain⟨e,Γ,y,bt,bw,dL⟩:=Jg (m:=m) dV ar aH hlen k 1 (x.room 32) (by omega) (by omega) oq ao
    refine⟨e,Γ,y,.step (y4 (Je (Y (m+2)) R 0 x ⟨b,off,_,cp,aF eU rfl,I,b,off,_,cp,aF hT rfl,I,_,aG,_,aM,λau=>absurd au (by omega),λ_=>⟨by omega,rfl,rfl⟩⟩)) bt,?_,dL⟩
    rw[y5] at bw
    rw[Bool.true_and,show oj ns 0=none from rfl,oi,Bool.true_and]
    exact bw
   |succ i=>
    have ae:i<ns.length:=by omega
    have BQ:oj ns (i+1)=some ns[i]:=by
     show ns[i]? =_
     exact List.getElem?_eq_getElem ae
    have hV:=Py (a0 _ BQ)
    have aE:aq (x.room 32) b (off+i*1)=some (.str ns[i]):=(m4 ao g2).trans (iq i ae)
    obtain⟨g,bf,ee⟩:=EX (m+1) ns[i] ns[i+1] B (x.room 32) (by omega)
    have qR:=ao.trans (Nat.le_refl _) ee
    have GQ:arith BinOp.sub IntKind.i64 (Int.ofNat (i+1)) (Int.ofNat 1)=some (J i):=yw (by omega) (by omega)
    rw[BQ,oi,Bool.true_and]
    cases ah:eA ns[i] ns[i+1] with
    |true=>
     rw[ah] at bf
     obtain⟨e,Γ,y,bt,bw,dL⟩:=Jg (m:=m) dV ar aH hlen k (i+1+1) g (by omega) (by omega) oq qR
     refine⟨e,Γ,y,.step (y4 (Je (Y (m+2)) R (i+1) x ⟨b,off,_,cp,aF eU rfl,I,b,off,_,cp,aF hT rfl,I,_,aG,_,aM,λ_=>⟨b,off,_,cp,aF hT rfl,⟨by omega,by omega⟩,ae,_,aE,b,off,_,cp,aF hT rfl,I,_,aG,_,g,bf,λ_=>⟨by omega,rfl,rfl⟩,λau=>(by cases au)⟩,λau=>absurd au (by omega)⟩)) bt,?_,dL⟩
     rw[y5] at bw
     rw[Bool.true_and]
     exact bw
    |false=>
     rw[ah] at bf
     exact⟨_,[(2,.bool false)],_,.exit (dA.post (y4 (Je (Y (m+2)) R (i+1) x ⟨b,off,_,cp,aF eU rfl,I,b,off,_,cp,aF hT rfl,I,_,aG,_,aM,λ_=>⟨b,off,_,cp,aF hT rfl,⟨by omega,by omega⟩,ae,_,aE,b,off,_,cp,aF hT rfl,I,_,aG,_,g,bf,λau=>(by cases au),λ_=>⟨rfl,rfl⟩⟩,λau=>absurd au (by omega)⟩)) ⟨rfl,trivial⟩) (by simp),.inr ⟨rfl,rfl,by rw[Bool.false_and]⟩,qR⟩
theorem dP.kind{B:Nat}{h:ab}:∀{t:aJ} {v:ad},dP B h t v->∃M,v=.ptr M 0/\∀x,Ext B h x->aq x M (0+0)=some (J t.k)
 |.mk cu cU dm e0 ey,v,bm=>by
  obtain⟨M,_,_,_,_,_,_,_,aG,aE,bH,_⟩:=bm
  exact⟨M,aG,λx lG=>aF ((lG.get M aE).trans bH) rfl⟩
theorem Qf(p:Option bb)(k:Nat)(fr:List Nat)(w:bb)(ws:List bb):mr p (k::fr) (w::ws)=((decide (k≠9)&&decide (k≠1))&&(oi p w&&mr (some w) fr ws)):=by rw[mr]
theorem Jh{m B R:Nat}{h:ab}{jy aj bA aU cY:ad}{bq:hb}{lo up:Nat}{xs:List aJ}{vs:List ad}{ws:List bb}(dV:R<B)(ar:h.get R=some (.cells [jy,aj,bA,aU,cY] 80 bq lo up))(aI:c5 B h aU vs)(pc:dZ B h xs vs)(mL:ws.length=vs.length)(hlen:vs.length<=90000)(BR:∀i (hi:i<ws.length),ws[i].length<=90000)(bl:BL (m+1) B h vs ws):∀(k i:Nat) (x:ab),vs.length-i=k->i<=vs.length->Ext B h x->
  ∃e Γ y,fX an Tryz.f53 none (Y (m+1)) [1,1,1,1,0,1,0,1,1,1,1,1,1,1,0,0,1,0] (k+1) ⟨[(0,.ptr R 0),(5,J i)],[],.none,x⟩ e (aks Γ y)/\
   ((e=.exit 5/\Γ=[(0,.ptr R 0)]/\mr (oj ws i) ((xs.map aJ.k).drop i) (ws.drop i)=true)\/(e=.ret/\Γ=[(2,.bool false)]/\mr (oj ws i) ((xs.map aJ.k).drop i) (ws.drop i)=false))/\Ext B h y
 |0,i,x,ay,hi,aa=>by
  obtain rfl:i=vs.length:=by omega
  rw[List.drop_of_length_le (l:=ws) (by omega)]
  have eU:=(aa.get R dV).trans ar
  refine⟨_,_,_,.exit (abf (Y (m+1)) R _ vs.length aU x (aF eU rfl) aI.oo (fI (by omega))) (by simp),.inl ⟨rfl,rfl,?_⟩,aa⟩
  cases (xs.map aJ.k).drop vs.length<;>(rw[mr];all_goals simp)
 |k+1,i,x,ay,hi,aa=>by
  have fH:=dZ.len pc
  have I:i<vs.length:=by omega
  have ax:i<ws.length:=by omega
  have aN:i<xs.length:=by omega
  have bS:i<(xs.map aJ.k).length:=by rw[List.length_map];exact aN
  have eU:=(aa.get R dV).trans ar
  have ao:=aa.iT (k:=31)
  have hT:=(ao.get R dV).trans ar
  obtain⟨M,gB,tg⟩:=(dZ.get pc i I aN).kind
  have r4:=tg x aa
  have y6:=aI
  rcases aI with⟨_,rfl⟩|⟨b,off,cp,rfl,g2,iq,pb⟩
  · simp at I
  have aG:aq x b (off+i*1)=some (.ptr M 0):=by rw[<-gB];exact(m4 aa g2).trans (iq i I)
  have Qg:aq (x.room 31) b (off+i*1)=some (.ptr M 0):=by rw[<-gB];exact(m4 ao g2).trans (iq i I)
  have BO:(xs.map aJ.k)[i]=(xs[i]).k:=List.getElem_map aJ.k
  rw[List.drop_eq_getElem_cons bS,List.drop_eq_getElem_cons ax,Qf,BO]
  by_cases kk:(xs[i]).k=9
  · exact⟨_,_,_,.exit (abj (Y (m+1)) R b off vs.length i (off+i*1) 0 0 0 M _ .aX [] [] false cp x x x x (aF eU rfl) (eD I) ⟨I,rfl⟩ aG r4 (o2 kk)) (by simp),.inr ⟨rfl,rfl,by simp[kk]⟩,ao⟩
  by_cases bG:(xs[i]).k=1
  · exact⟨_,_,_,.exit (abk (Y (m+1)) R b off vs.length i (off+i*1) 0 0 0 M _ .aX [] [] false cp x x x x (aF eU rfl) (eD I) ⟨I,rfl⟩ aG r4 (kS kk) (o2 bG)) (by simp),.inr ⟨rfl,rfl,by simp[bG]⟩,ao⟩
  have y5:oj ws (i+1)=some ws[i]:=by
   show ws[i]? =_
   exact List.getElem?_eq_getElem ax
  rw[show(decide ((xs[i]).k≠9)&&decide ((xs[i]).k≠1))=true by simp[kk,bG],Bool.true_and]
  cases i with
  |zero=>
   obtain⟨e,Γ,y,bt,bw,dL⟩:=Jh (m:=m) dV ar y6 pc mL hlen BR bl k 1 (x.room 31) (by omega) (by omega) ao
   refine⟨e,Γ,y,.step (y4 (Jf (Y (m+1)) R 0 x ⟨b,off,_,cp,aF eU rfl,I,b,off,_,cp,aF eU rfl,I,_,aG,_,r4,λau=>absurd au kk,λ_=>⟨λau=>absurd au bG,λ_=>⟨λau=>absurd au (by omega),λ_=>⟨by omega,rfl,rfl⟩⟩⟩⟩)) bt,?_,dL⟩
   rw[y5] at bw
   rw[show oj ws 0=none from rfl,oi,Bool.true_and]
   exact bw
  |succ i=>
   have ij:i<vs.length:=by omega
   have te:i<ws.length:=by omega
   have x3:i<xs.length:=by omega
   have BQ:oj ws (i+1)=some ws[i]:=by
    show ws[i]? =_
    exact List.getElem?_eq_getElem te
   have eQ:=dZ.get pc i ij x3
   have aE:aq (x.room 31) b (off+i*1)=some vs[i]:=(m4 ao g2).trans (iq i ij)
   obtain⟨g,aM,bF⟩:=bl i ij te (x.room 31) ao
   have eP:=ao.trans (Nat.le_refl _) bF
   have BM:=(eP.get R dV).trans ar
   have Qh:aq g b (off+(i+1)*1)=some (.ptr M 0):=by rw[<-gB];exact(m4 eP g2).trans (iq (i+1) I)
   obtain⟨av,bf,cJ⟩:=bl (i+1) I ax g eP
   rw[gB] at bf
   have rZ:=eP.trans (Nat.le_refl _) cJ
   obtain⟨aD,ee,dh⟩:=EX m ws[i] ws[i+1] B av (BR i te)
   have hE:=rZ.trans (Nat.le_refl _) dh
   have GQ:arith BinOp.sub IntKind.i64 (Int.ofNat (i+1)) (Int.ofNat 1)=some (J i):=yw (by omega) (by omega)
   rw[BQ,oi]
   cases ah:eA ws[i] ws[i+1] with
   |true=>
    rw[ah] at ee
    obtain⟨e,Γ,y,bt,bw,dL⟩:=Jh (m:=m) dV ar y6 pc mL hlen BR bl k (i+1+1) aD (by omega) (by omega) hE
    refine⟨e,Γ,y,.step (y4 (Jf (Y (m+1)) R (i+1) x ⟨b,off,_,cp,aF eU rfl,I,b,off,_,cp,aF eU rfl,I,_,aG,_,r4,λau=>absurd au kk,λ_=>⟨λau=>absurd au bG,λ_=>⟨λ_=>⟨b,off,_,cp,aF hT rfl,⟨by omega,by omega⟩,ij,_,aE,_,g,aM,b,off,_,cp,aF BM rfl,I,_,Qh,_,av,bf,_,aD,ee,eQ.snd,aF hT rfl,Qg,λ_=>⟨by omega,rfl,rfl⟩,λau=>(by cases au)⟩,λau=>absurd au (by omega)⟩⟩⟩)) bt,?_,dL⟩
    rw[y5] at bw
    rw[Bool.true_and]
    exact bw
   |false=>
    rw[ah] at ee
    exact⟨_,[(2,.bool false)],_,.exit (dA.post (y4 (Jf (Y (m+1)) R (i+1) x ⟨b,off,_,cp,aF eU rfl,I,b,off,_,cp,aF eU rfl,I,_,aG,_,r4,λau=>absurd au kk,λ_=>⟨λau=>absurd au bG,λ_=>⟨λ_=>⟨b,off,_,cp,aF hT rfl,⟨by omega,by omega⟩,ij,_,aE,_,g,aM,b,off,_,cp,aF BM rfl,I,_,Qh,_,av,bf,_,aD,ee,eQ.snd,aF hT rfl,Qg,λau=>(by cases au),λ_=>⟨rfl,rfl⟩⟩,λau=>absurd au (by omega)⟩⟩⟩)) ⟨rfl,trivial⟩) (by simp),.inr ⟨rfl,rfl,by rw[Bool.false_and]⟩,hE⟩
abbrev abo(m B:Nat)(h:ab)(xs:List aJ)(vs:List ad):Prop:=∀i (I:i<vs.length) (ae:i<xs.length) x,Ext B h x->∃aw,Y m (.fn 53) [vs[i]] x=.ret (.bool (eW xs[i])) aw/\Ext B x aw
theorem Qi{m B R:Nat}{h:ab}{jy aj bA aU cY:ad}{bq:hb}{lo up:Nat}{xs:List aJ}{vs:List ad}(dV:R<B)(ar:h.get R=some (.cells [jy,aj,bA,aU,cY] 80 bq lo up))(aI:c5 B h aU vs)(fH:vs.length=xs.length)(hlen:vs.length<=90000)(bl:abo m B h xs vs):∀(k i:Nat) (x:ab),vs.length-i=k->i<=vs.length->Ext B h x->
  ∃e Γ y,fX an Tryz.f53 none (Y m) [1,1,1,0,1,0] (k+1) ⟨[(0,.ptr R 0),(3,J i)],[],.none,x⟩ e (aks Γ y)/\
   ((e=.exit 0/\Γ=[(0,.ptr R 0)]/\iG (xs.drop i)=true)\/(e=.ret/\Γ=[(2,.bool false)]/\iG (xs.drop i)=false))/\Ext B h y
 |0,i,x,ay,hi,aa=>by
  obtain rfl:i=vs.length:=by omega
  rw[List.drop_of_length_le (by omega)]
  have eU:=(aa.get R dV).trans ar
  exact⟨_,_,_,.exit (aa2 (Y m) R _ vs.length aU x (aF eU rfl) aI.oo (fI (by omega))) (by simp),.inl ⟨rfl,rfl,by rw[iG]⟩,aa⟩
 |k+1,i,x,ay,hi,aa=>by
  have I:i<vs.length:=by omega
  have aN:i<xs.length:=by omega
  have eU:=(aa.get R dV).trans ar
  have y6:=aI
  rcases aI with⟨_,rfl⟩|⟨b,off,cp,rfl,g2,iq,pb⟩
  · simp at I
  have aG:aq x b (off+i*1)=some vs[i]:=(m4 aa g2).trans (iq i I)
  obtain⟨g,aM,bF⟩:=bl i I aN x aa
  have eP:=aa.trans (Nat.le_refl _) bF
  rw[List.drop_eq_getElem_cons aN,iG]
  cases ah:eW xs[i] with
  |true=>
   rw[ah] at aM
   obtain⟨e,Γ,y,bt,bw,dL⟩:=Qi dV ar y6 fH hlen bl k (i+1) g (by omega) (by omega) eP
   refine⟨e,Γ,y,.step (aa4 (Y m) R b off vs.length i (off+i*1) (i+1) true vs[i] cp x g (aF eU rfl) (eD I) ⟨I,rfl⟩ aG aM rfl (la I (by omega))) bt,?_,dL⟩
   rw[Bool.true_and];exact bw
  |false=>
   rw[ah] at aM
   exact⟨_,[(2,.bool false)],_,.exit (dA.post (aa3 (Y m) R b off vs.length i (off+i*1) 0 false vs[i] cp x g (aF eU rfl) (eD I) ⟨I,rfl⟩ aG aM rfl) ⟨rfl,trivial⟩) (by simp),.inr ⟨rfl,rfl,by rw[Bool.false_and]⟩,eP⟩
theorem Qj(Ji:∀u,eW u=true->okW u=true/\(wr u).length<=300*sz u):∀(K:Nat) (t:aJ),sz t<=K->sz t<=100->iE t<=90000->∀(m B:Nat) (h:ab) (v:ad),sz t+4<=m->B<=h.n->dP B h t v->∃aw,Y m (.fn 53) [v] h=.ret (.bool (eW t)) aw/\Ext B h aw
 |0,t,dg,_,_,_,_,_,_,_,_,_=>by
  have:=p0 t
  omega
 |K+1,.mk k nm ns xs rt,dg,hz,ig,m,B,h,v,hm,dd,aI=>by
  obtain⟨R,bA,aU,cY,vs,bq,lo,up,rfl,ae,ax,aN,bS,cz,dw⟩:=aI
  rw[l3] at dg hz hm
  rw[iE] at ig
  obtain⟨m,rfl⟩:∃j,m=j+3:=⟨m-3,by omega⟩
  have fH:=dZ.len cz
  have ks:=mo xs
  have mL:=yT xs
  have ou:eW (.mk k nm ns xs rt)=((decide (1<=k)&&decide (k<=9))&&(jm k nm ns.length xs.length rt.isSome&&(iG xs&&fK k nm ns (xs.map aJ.k) (cM xs) xs.length (jV rt)))):=by rw[eW]
  have fin:∀b y,a5 an Tryz.f53 none (Y (m+2)) [1] ⟨[(0,.ptr R 0)],[],.none,h⟩ .ret ⟨[(2,.bool b)],[],.none,y⟩->b=eW (.mk k nm ns xs rt)->Ext B h y->∃aw,Y (m+3) (.fn 53) [.ptr R 0] h=.ret (.bool (eW (.mk k nm ns xs rt))) aw/\Ext B h aw:=λb y ao ag aa=>by
   rw[<-ag]
   exact⟨y,gR (intr:=ea) (n:=m+2) (args:=[.ptr R 0]) Tryz.func53 (dG [] (aaU (Y (m+2)) (.ptr R 0) h) ao) (.inl rfl) (by kernel_rfl),aa⟩
  rw[ou] at fin
  rw[ou]
  by_cases bG:k<1
  · exact fin false h (jR [1] (dA.post (aaV (Y (m+2)) R 0 h k (aF ax rfl) (eD bG)) ⟨rfl,trivial⟩) (by simp)) (by simp;omega) (Ext.refl _ _)
  by_cases kk:9<k
  · exact fin false h (jR [1] (dA.post (aaW (Y (m+2)) R 0 h k (aF ax rfl) (fI bG) (eD kk)) ⟨rfl,trivial⟩) (by simp)) (by simp;omega) (Ext.refl _ _)
  have s1:=aaX (Y (m+2)) R 0 h k (aF ax rfl) (fI bG) (fI kk)
  have Jj:(decide (1<=k)&&decide (k<=9))=true:=by simp;omega
  rw[Jj] at fin⊢
  simp only[Bool.true_and] at fin⊢
  have mu:Ext B h (h.room 54):=Ext.room B h 54
  have Jk:B<=(h.room 54).n:=Nat.le_trans dd mu.n
  have ar:=(mu.get R ae).trans ax
  have gv:=hk.ext mu (Nat.le_refl _)
  have bj:=aN.bB gv
  have bC:=bS.bB gv
  have bP:=dZ.bB gv _ _ cz
  have cd:=d_.bB gv _ _ dw
  have k9:if jm k nm ns.length vs.length rt.isSome=true then a5 an Tryz.f53 none (Y (m+2)) [1,1,0] ⟨[(0,.ptr R 0)],[],.none,h⟩ .nrm ⟨[(0,.ptr R 0)],[],.none,h.room 54⟩
    else a5 an Tryz.f53 none (Y (m+2)) [1,1,0] ⟨[(0,.ptr R 0)],[],.none,h⟩ .ret ⟨[(2,.bool false)],[],.none,h.room 54⟩:=by
   cases rt with
   |none=>
    obtain rfl:cY=.aX:=dw
    exact aa1 ax aN.td bS.oo aN.snd bS.snd
   |some u=>
    cases u with
    |mk cu cU dm e0 ey=>
     obtain⟨W,_,_,_,_,_,_,_,rfl,_⟩:=dw
     exact aa0 ax aN.td bS.oo aN.snd bS.snd
  rw[fH] at k9
  cases hV:jm k nm ns.length xs.length rt.isSome with
  |false=>
   rw[if_neg (by rw[hV];simp)] at k9
   rw[hV] at fin
   exact fin false _ (dG [1] s1 (jR [1,1] k9 (by simp))) rfl mu
  |true=>
   rw[if_pos hV] at k9
   rw[hV] at fin
   simp only[Bool.true_and] at fin⊢
   have bl:∀(u:aJ),sz u<=K->sz u<=100->iE u<=90000->∀(m B:Nat) (h:ab) (v:ad),sz u+4<=m->B<=h.n->dP B h u v->∃aw,Y m (.fn 53) [v] h=.ret (.bool (eW u)) aw/\Ext B h aw:=Qj Ji K
   obtain⟨e,Γ,y,bt,bw,dL⟩:=Qi (m:=m+2) (xs:=xs) ae ar bC fH (by omega) (λi i1 i2 x aa=>by
    have je:=p1 (List.getElem_mem i2)
    have iN:=yS (List.getElem_mem i2)
    exact bl xs[i] (by omega) (by omega) (by omega) (m+2) B x vs[i] (by omega) (Nat.le_trans Jk aa.n) (dP.bB (hk.ext aa (Nat.le_refl _)) _ _ (dZ.get bP i i1 i2))) vs.length 0 (h.room 54) (by omega) (by omega) (Ext.refl _ _)
   have h8:=fX.run (p:=[1,1,1,0,1,0]) (by kernel_rfl) bt (by omega)
   rw[List.drop_zero] at bw
   rcases bw with⟨rfl,rfl,jW⟩|⟨rfl,rfl,jW⟩
   · rw[jW] at fin
     simp only[Bool.true_and] at fin⊢
     have cT:=dG [1,1,1,0] (Qe (Y (m+2)) R (h.room 54)) (a5.block (p:=[1,1,1,0,1]) (id:=0) (by kernel_rfl) h8)
     have hT:=(dL.get R ae).trans ar
     have Qk:=mu.trans (Nat.le_refl _) dL
     have E4:=hk.ext dL (Nat.le_refl _)
     have E5:=bj.bB E4
     have w0:=bC.bB E4
     have Ql:=dZ.bB E4 _ _ bP
     have abp:=d_.bB E4 _ _ cd
     have Jl:B<=y.n:=Nat.le_trans Jk dL.n
     have BN:=aa5 (Y (m+2)) R k y (aF hT rfl)
     have y7:∀b z,a5 an Tryz.f53 none (Y (m+2)) [1,1,1,1,0,1] ⟨[(0,.ptr R 0),(98,J k)],[],.none,y⟩ .ret ⟨[(2,.bool b)],[],.none,z⟩->b=fK k nm ns (xs.map aJ.k) (cM xs) xs.length (jV rt)->Ext B y z->∃aw,Y (m+3) (.fn 53) [.ptr R 0] h=.ret (.bool (iG xs&&fK k nm ns (xs.map aJ.k) (cM xs) xs.length (jV rt))) aw/\Ext B h aw:=λb z ao ag aa=>by
      rw[jW,Bool.true_and]
      exact fin b z (dG [1] s1 (dG [1,1] k9 (dG [1,1,1] cT (jR [1,1,1,1] (dG [1,1,1,1,0] BN ao) (by simp))))) ag (Qk.trans (Nat.le_refl _) aa)
     have Qm:∀z,a5 an Tryz.f53 none (Y (m+2)) [1,1,1,1,0,1] ⟨[(0,.ptr R 0),(98,J k)],[],.none,y⟩ .nrm ⟨[(0,.ptr R 0)],[],.none,z⟩->fK k nm ns (xs.map aJ.k) (cM xs) xs.length (jV rt)=true->Ext B y z->∃aw,Y (m+3) (.fn 53) [.ptr R 0] h=.ret (.bool (iG xs&&fK k nm ns (xs.map aJ.k) (cM xs) xs.length (jV rt))) aw/\Ext B h aw:=λz ao ag aa=>by
      rw[jW,Bool.true_and]
      exact fin true z (dG [1] s1 (dG [1,1] k9 (dG [1,1,1] cT (dG [1,1,1,1] (dA.post (Γ2:=[]) (dG [1,1,1,1,0] BN ao) trivial) (abd (Y (m+2)) z))))) ag.symm (Qk.trans (Nat.le_refl _) aa)
     have je:∀i (i2:i<xs.length),eW xs[i]=true:=λi i2=>BE jW (List.getElem_mem i2)
     by_cases hd:k=6
     · subst hd
       exact y7 (ny nm) y (aa6 (Y (m+2)) R nm _ y y (aF hT rfl) (aas m nm y)) (by simp[fK]) (Ext.refl _ _)
     by_cases hA:k=7
     · subst hA
       have xa:fK 7 nm ns (xs.map aJ.k) (cM xs) xs.length (jV rt)=(decide (ns.length=xs.length)&&lg none ns):=by simp[fK]
       have E6:Ext B y (y.room 11):=Ext.room B y 11
       have ky:=(E6.get R ae).trans hT
       have Qn:=hk.ext E6 (Nat.le_refl _)
       have gh:=E5.bB Qn
       have ov:=w0.bB Qn
       by_cases aH:ns.length=vs.length
       · obtain⟨e,Γ,z,a8,a2,bX⟩:=Jg (m:=m) ae hT E5 (by omega) ns.length 0 (y.room 11) (by omega) (by omega) (λq aK=>by cases aK) E6
         have eG:=fX.run (p:=[1,1,1,1,0,1,0,1,1,1,0,1,1,0]) (by kernel_rfl) a8 (by omega)
         rw[List.drop_zero,show oj ns 0=none from rfl] at a2
         rcases a2 with⟨rfl,rfl,gi⟩|⟨rfl,rfl,gi⟩
         · exact Qm z (aa8 (Y (m+2)) R ns.length vs.length bA aU y z (aF ky rfl) gh.td (aF ky rfl) ov.oo gh.snd ov.snd (EU aH) (dA.pre eG ⟨rfl,rfl,trivial⟩ rfl rfl rfl)) (by rw[xa,gi];simp;omega) bX
         · exact y7 false z (aa9 (Y (m+2)) R ns.length vs.length bA aU y z (aF ky rfl) gh.td (aF ky rfl) ov.oo gh.snd ov.snd (EU aH) (dA.pre eG ⟨rfl,rfl,trivial⟩ rfl rfl rfl)) (by rw[xa,gi];simp) bX
       · exact y7 false _ (aa7 (Y (m+2)) R ns.length vs.length bA aU y (aF ky rfl) gh.td (aF ky rfl) ov.oo gh.snd ov.snd (IW aH)) (by rw[xa];simp;omega) E6
     by_cases ic:k=8
     · subst ic
       cases rt with
       |none=>simp[jm] at hV
       |some u=>
        rw[jk] at dg hz hm
        rw[m3] at ig
        obtain⟨z,aM,bf⟩:=bl u (by omega) (by omega) (by omega) (m+2) B y cY (by omega) Jl abp
        exact y7 (eW u) z (aa_ (Y (m+2)) R cY _ y z (aF hT rfl) aM) (by simp[fK,jV]) bf
     by_cases hN:k=9
     · subst hN
       have y8:fK 9 nm ns (xs.map aJ.k) (cM xs) xs.length (jV rt)=(mr none (xs.map aJ.k) (cM xs)&&decide (2<=xs.length)):=by simp[fK]
       have Qo:∀i (hi:i<(cM xs).length),(cM xs)[i].length<=90000:=λi hi=>by
        have i2:i<xs.length:=by omega
        have a7:=p1 (List.getElem_mem i2)
        have a0:=(Ji xs[i] (je i i2)).2
        rw[yU xs i i2 hi]
        omega
       obtain⟨e,Γ,z,a8,a2,bX⟩:=Jh (m:=m+1) (ws:=cM xs) ae hT w0 Ql (by omega) (by omega) Qo (λi i1 i2 x aa=>by
        have i3:i<xs.length:=by omega
        have a7:=p1 (List.getElem_mem i3)
        have ag:=Qo i i2
        rw[yU xs i i3 i2] at ag⊢
        exact EZ K xs[i] (by omega) (by omega) (Ji xs[i] (je i i3)).1 (by omega) (m+1+1) B x vs[i] (by omega) (Nat.le_trans Jl aa.n) (dP.bB (hk.ext aa (Nat.le_refl _)) _ _ (dZ.get Ql i i1 i3))) vs.length 0 y (by omega) (by omega) (Ext.refl _ _)
       have eG:=fX.run (p:=[1,1,1,1,0,1,0,1,1,1,1,1,1,1,0,0,1,0]) (by kernel_rfl) a8 (by omega)
       rw[List.drop_zero,List.drop_zero,show oj (cM xs) 0=none from rfl] at a2
       rcases a2 with⟨rfl,rfl,gi⟩|⟨rfl,rfl,gi⟩
       · exact y7 (j5 (Int.ofNat 2) (Int.ofNat vs.length)) z (aba (Y (m+2)) R vs.length aU y z (dA.pre eG ⟨rfl,rfl,trivial⟩ rfl rfl rfl) (aF ((bX.get R ae).trans hT) rfl) w0.oo) (by rw[y8,gi,aaq,fH];rfl) bX
       · exact y7 false z (abb (Y (m+2)) R y z (dA.pre eG ⟨rfl,rfl,trivial⟩ rfl rfl rfl)) (by rw[y8,gi];rfl) bX
     · exact Qm y (abc (Y (m+2)) R k y (kS hd) (kS hA) (kS ic) (kS hN)) (by simp[fK,hd,hA,ic,hN]) (Ext.refl _ _)
   · have cT:=dG [1,1,1,0] (Qe (Y (m+2)) R (h.room 54)) (a5.s0 (p:=[1,1,1,0,1]) (id:=0) (by kernel_rfl) h8 (by simp))
     exact fin false y (dG [1] s1 (dG [1,1] k9 (jR [1,1,1] cT (by simp)))) (by rw[jW];rfl) (mu.trans (Nat.le_refl _) dL)
def dE:Option aJ->Nat
 |none=>1
 |some t=>if 60<sz t then 3 else if eW t=true then 0 else 2
theorem Jm{ot:Option aJ}{B:Nat}{h:ab}{v:ad}(m:Nat)(hz:dk ot<=90000)(aH:∀t,ot=some t->iE t<=90000)(hm:dk ot+4<=m)(dd:B<=h.n)(aI:d_ B h ot v):
  ∃aw,Y (m+1) (.fn 28) [v] h=.ret (J (dE ot)) aw/\Ext B h aw:=by
 have fin:∀c y,a5 an Tryz.f28 none (Y m) [1] ⟨[(0,v)],[],.none,h⟩ .ret ⟨[(2,J c)],[],.none,y⟩->c=dE ot->Ext B h y->∃aw,Y (m+1) (.fn 28) [v] h=.ret (J (dE ot)) aw/\Ext B h aw:=λc y ao ah aa=>by
  rw[<-ah]
  exact⟨y,gR (intr:=ea) (n:=m) (args:=[v]) Tryz.func28 (dG [] (abg (Y m) v h) ao) (.inl rfl) (by kernel_rfl),aa⟩
 cases ot with
 |none=>
  obtain rfl:v=.aX:=aI
  exact fin 1 h (abh (Y m) h) rfl (Ext.refl _ _)
 |some t=>
  have bJ:dk (some t)=sz t:=jk t
  obtain⟨m,rfl⟩:∃j,m=j+1:=⟨m-1,by omega⟩
  have aM:=I3 (m:=m) hz (by omega) aI
  rw[bJ] at aM hz hm
  rcases aI.uW with rfl|⟨R,rfl⟩
  · cases t with
    |mk bG b0 dF gA hg=>obtain⟨R,bA,aU,cY,vs,bq,lo,up,aa,_⟩:=aI;cases aa
  by_cases p4:60<sz t
  · exact fin 3 h (abl (Y (m+1)) R _ false h h h aM (eD (by omega))) (by simp[dE,p4]) (Ext.refl _ _)
  · obtain⟨y,bf,cJ⟩:=Qj YO (sz t) t (Nat.le_refl _) (by omega) (aH t rfl) (m+1) B h (.ptr R 0) (by omega) dd aI
    cases u1:eW t with
    |true=>
     rw[u1] at bf
     exact fin 0 y (abn (Y (m+1)) R _ true h h y aM (fI (by omega)) bf rfl) (by simp[dE,p4,u1]) cJ
    |false=>
     rw[u1] at bf
     exact fin 2 y (abm (Y (m+1)) R _ false h h y aM (fI (by omega)) bf rfl) (by simp[dE,p4,u1]) cJ
end Go.Proofs.kh
