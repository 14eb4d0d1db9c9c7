/-
  PROVED HERE: contracts of functions (Dh). No condition beside each statement's own.
-/
import Derived.Test.YtlelojncabdnoaaDoorDe
import Derived.Test.YtlelojncabdnoaaDoorDb
import Derived.Test.YtlelojncabdnoaaDoorDg
set_option linter.unusedVariables false
set_option linter.unusedSimpArgs false
set_option maxRecDepth 100000
set_option maxHeartbeats 1000000
namespace Go.Proofs.hD
open Go aS Go.Proofs
variable {Q:aU->aB->Prop} {R:bM->Prop} (call:cJ)
theorem T3(s:List UInt8)(i:Nat)(h:J)
  (h1:eu i s.length=false):
  aZ al Tryd.f62 none call [1,1,0,1,0,0] (aB.mk [(0,I.str s),(3,ai i)] [] az.none h) (aU.exit 0)
   (aB.mk [(0,I.str s)] [] az.none h):=
 bK [0] [Hint.b false] 16 1 2 (hc h1 bJ)
theorem T4(s:List UInt8)(h:J):
  aZ al Tryd.f61 none call [0] (aB.mk [(0,I.str s)] [] az.none h) (aU.nrm)
   (aB.mk [(0,I.str s)] [] az.none h):=
 bK [0,3,4] [] 16 0 0 bJ
theorem T5(s:List UInt8)(h:J):
  aZ al Tryd.f61 none call [1,0] (aB.mk [(0,I.str s)] [] az.none h) (aU.nrm)
   (aB.mk [(0,I.str s),(3,I.bn)] [] az.none h):=
 bK [0,3] [] 16 0 0 bJ
theorem T6(s:List UInt8)(h:J):
  aZ al Tryd.f61 none call [1,1,0] (aB.mk [(0,I.str s),(3,I.bn)] [] az.none h) (aU.nrm)
   (aB.mk [(0,I.str s),(3,I.bn),(4,I.str (Array.toList (ByteArray.data (ByteArray.mk #[]))))] [] az.none h):=
 bK [0,3,4] [] 16 0 0 bJ
theorem T7(s:List UInt8)(h:J):
  aZ al Tryd.f61 none call [1,1,1,0,0] (aB.mk [(0,I.str s),(3,I.bn),(4,I.str [])] [] az.none h) (aU.nrm)
   (aB.mk [(0,I.str s),(3,I.bn),(4,I.str []),(5,I.int IntKind.i64 0)] [] az.none h):=
 bK [0,3,4,5] [] 16 0 0 bJ
theorem T8(s piece:List UInt8)(i:Nat)(out:I)(h:J)
  (h1:eu i s.length=false):
  aZ al Tryd.f61 none call [1,1,1,0,1,0,0] (aB.mk [(0,I.str s),(3,out),(4,I.str piece),(5,ai i)] [] az.none h) (aU.exit 0)
   (aB.mk [(3,out),(4,I.str piece)] [] az.none h):=
 bK [3,4] [Hint.b false] 16 1 2 (hc h1 bJ)
theorem T9(s piece:List UInt8)(i c:Nat)(out:I)(kn:I)(h:J)(ah:J)
  (h1:eu i s.length=true)
  (aa:hb i s=some (dx c))
  (ao:eJ c 47=true)
  (aI:en al (J.push h (b8.cells [I.str piece] 9 e3.own 0 0)) 35 (some 35) out (I.slice (J.n h) 0 1 (cb.exact 1))=some (kn,ah))
  (bl:arith BinOp.add IntKind.i64 (Int.ofNat i) (Int.ofNat 1)=some (ai (i+1))):
  aZ al Tryd.f61 none call [1,1,1,0,1,0,0] (aB.mk [(0,I.str s),(3,out),(4,I.str piece),(5,ai i)] [] az.none h) (aU.nrm)
   (aB.mk [(0,I.str s),(3,kn),(4,I.str (Array.toList (ByteArray.data (ByteArray.mk #[])))),(5,ai (i+1))] [] az.none ah):=
 bK [0,3,4,5] [Hint.b true,Hint.v (dx c),Hint.b true,Hint.hz kn ah,Hint.v (ai (i+1))] 16 5 144470 (qu h1 aa ao aI bl bJ)
theorem T_(s piece one:List UInt8)(i c:Nat)(out:I)(h:J)
  (h1:eu i s.length=true)
  (aa:hb i s=some (dx c))
  (ao:eJ c 47=false)
  (aI:arith BinOp.add IntKind.i64 (Int.ofNat i) (Int.ofNat 1)=some (ai (i+1)))
  (bl:fV al h 9 (I.str s) (some (ai i)) (some (ai (i+1))) none=some (I.str one))
  (cg:oH BinOp.add piece one=some (I.str (piece++one))):
  aZ al Tryd.f61 none call [1,1,1,0,1,0,0] (aB.mk [(0,I.str s),(3,out),(4,I.str piece),(5,ai i)] [] az.none h) (aU.nrm)
   (aB.mk [(0,I.str s),(3,out),(4,I.str (piece++one)),(5,ai (i+1))] [] az.none h):=
 bK [0,3,4,5] [Hint.b true,Hint.v (dx c),Hint.b false,Hint.v (ai (i+1)),Hint.v (I.str one),Hint.v (I.str (piece++one)),Hint.v (ai (i+1))] 16 7 36984437 (sa h1 aa ao aI bl cg bJ)
theorem Ua(piece:List UInt8)(out:I)(kn:I)(h:J)(ah:J)
  (h1:en al (J.push h (b8.cells [I.str piece] 9 e3.own 0 0)) 35 (some 35) out (I.slice (J.n h) 0 1 (cb.exact 1))=some (kn,ah)):
  aZ al Tryd.f61 none call [1,1,1,1] (aB.mk [(3,out),(4,I.str piece)] [] az.none h) (aU.ret)
   (aB.mk [(2,kn)] [] az.none ah):=
 bK [2] [Hint.hz kn ah] 16 1 2 (hc h1 bJ)
theorem Ub(s:List UInt8)(h:J):
  aZ al Tryd.f62 none call [0] (aB.mk [(0,I.str s)] [] az.none h) (aU.nrm)
   (aB.mk [(0,I.str s)] [] az.none h):=
 bK [0] [] 16 0 0 bJ
theorem Uc(s:List UInt8)(h:J)
  (h1:eu s.length 1=true):
  aZ al Tryd.f62 none call [1,0] (aB.mk [(0,I.str s)] [] az.none h) (aU.ret)
   (aB.mk [(0,I.str s),(2,I.bool false)] [] az.none h):=
 bK [0,2] (dR 5 31 []) 16 5 139808 (hc h1 bJ)
theorem Ud(s:List UInt8)(h:J)
  (h1:eu s.length 1=false)
  (aa:eu 16 s.length=true):
  aZ al Tryd.f62 none call [1,0] (aB.mk [(0,I.str s)] [] az.none h) (aU.ret)
   (aB.mk [(0,I.str s),(2,I.bool false)] [] az.none h):=
 bK [0,2] (dR 5 1 []) 16 5 139811 (lk h1 aa bJ)
theorem Ue(s:List UInt8)(h:J)
  (h1:eu s.length 1=false)
  (aa:eu 16 s.length=false):
  aZ al Tryd.f62 none call [1,0] (aB.mk [(0,I.str s)] [] az.none h) (aU.nrm)
   (aB.mk [(0,I.str s)] [] az.none h):=
 bK [0,2] (dR 5 0 []) 16 5 139811 (lk h1 aa bJ)
theorem Uf(s:List UInt8)(h:J):
  aZ al Tryd.f62 none call [1,1,0,0] (aB.mk [(0,I.str s)] [] az.none h) (aU.nrm)
   (aB.mk [(0,I.str s),(3,I.int IntKind.i64 0)] [] az.none h):=
 bK [0,3] [] 16 0 0 bJ
theorem Ug(s:List UInt8)(i c:Nat)(h:J)
  (h1:eu i s.length=true)
  (aa:hb i s=some (dx c))
  (ao:dT 97 c=true)
  (aI:dT c 122=true)
  (bl:arith BinOp.add IntKind.i64 (Int.ofNat i) (Int.ofNat 1)=some (ai (i+1))):
  aZ al Tryd.f62 none call [1,1,0,1,0,0] (aB.mk [(0,I.str s),(3,ai i)] [] az.none h) (aU.nrm)
   (aB.mk [(0,I.str s),(3,ai (i+1))] [] az.none h):=
 bK [0,2,3] (Hint.b true::Hint.v (dx c)::dR 15 32766 [Hint.v (ai (i+1))]) 16 18 0x234445555500000067 (sa h1 aa ao aI (by kernel_rfl:(!true)=false) bl bJ)
theorem Uh(s:List UInt8)(i c:Nat)(h:J)
  (h1:eu i s.length=true)
  (aa:hb i s=some (dx c))
  (ao:dT 97 c=true)
  (aI:dT c 122=false)
  (bl:dT 48 c=true)
  (cg:dT c 57=true)
  (da:arith BinOp.add IntKind.i64 (Int.ofNat i) (Int.ofNat 1)=some (ai (i+1))):
  aZ al Tryd.f62 none call [1,1,0,1,0,0] (aB.mk [(0,I.str s),(3,ai i)] [] az.none h) (aU.nrm)
   (aB.mk [(0,I.str s),(3,ai (i+1))] [] az.none h):=
 bK [0,2,3] (Hint.b true::Hint.v (dx c)::dR 18 232830 [Hint.v (ai (i+1))]) 16 21 0x234445556656577700089 (pc h1 aa ao aI bl cg (by kernel_rfl:(!true)=false) da bJ)
theorem Ui(s:List UInt8)(i c:Nat)(h:J)
  (h1:eu i s.length=true)
  (aa:hb i s=some (dx c))
  (ao:dT 97 c=true)
  (aI:dT c 122=false)
  (bl:dT 48 c=true)
  (cg:dT c 57=false)
  (da:eJ c 95=true)
  (cZ:arith BinOp.add IntKind.i64 (Int.ofNat i) (Int.ofNat 1)=some (ai (i+1))):
  aZ al Tryd.f62 none call [1,1,0,1,0,0] (aB.mk [(0,I.str s),(3,ai i)] [] az.none h) (aU.nrm)
   (aB.mk [(0,I.str s),(3,ai (i+1))] [] az.none h):=
 bK [0,2,3] (Hint.b true::Hint.v (dx c)::dR 18 232718 [Hint.v (ai (i+1))]) 16 21 0x23444555665657778889a (tY h1 aa ao aI bl cg da (by kernel_rfl:(!true)=false) cZ bJ)
theorem Uj(s:List UInt8)(i c:Nat)(h:J)
  (h1:eu i s.length=true)
  (aa:hb i s=some (dx c))
  (ao:dT 97 c=true)
  (aI:dT c 122=false)
  (bl:dT 48 c=true)
  (cg:dT c 57=false)
  (da:eJ c 95=false)
  (cZ:(!eJ c 45)=true):
  aZ al Tryd.f62 none call [1,1,0,1,0,0] (aB.mk [(0,I.str s),(3,ai i)] [] az.none h) (aU.ret)
   (aB.mk [(0,I.str s),(2,I.bool false),(3,ai i)] [] az.none h):=
 bK [0,2,3] (Hint.b true::Hint.v (dx c)::dR 18 232705 []) 16 20 0x23444555665657778889 (pc h1 aa ao aI bl cg da cZ bJ)
theorem Uk(s:List UInt8)(i c:Nat)(h:J)
  (h1:eu i s.length=true)
  (aa:hb i s=some (dx c))
  (ao:dT 97 c=true)
  (aI:dT c 122=false)
  (bl:dT 48 c=true)
  (cg:dT c 57=false)
  (da:eJ c 95=false)
  (cZ:(!eJ c 45)=false)
  (oR:arith BinOp.add IntKind.i64 (Int.ofNat i) (Int.ofNat 1)=some (ai (i+1))):
  aZ al Tryd.f62 none call [1,1,0,1,0,0] (aB.mk [(0,I.str s),(3,ai i)] [] az.none h) (aU.nrm)
   (aB.mk [(0,I.str s),(3,ai (i+1))] [] az.none h):=
 bK [0,2,3] (Hint.b true::Hint.v (dx c)::dR 18 232704 [Hint.v (ai (i+1))]) 16 21 0x23444555665657778889a (tY h1 aa ao aI bl cg da cZ oR bJ)
theorem Ul(s:List UInt8)(i c:Nat)(h:J)
  (h1:eu i s.length=true)
  (aa:hb i s=some (dx c))
  (ao:dT 97 c=true)
  (aI:dT c 122=false)
  (bl:dT 48 c=false)
  (cg:eJ c 95=true)
  (da:arith BinOp.add IntKind.i64 (Int.ofNat i) (Int.ofNat 1)=some (ai (i+1))):
  aZ al Tryd.f62 none call [1,1,0,1,0,0] (aB.mk [(0,I.str s),(3,ai i)] [] az.none h) (aU.nrm)
   (aB.mk [(0,I.str s),(3,ai (i+1))] [] az.none h):=
 bK [0,2,3] (Hint.b true::Hint.v (dx c)::dR 18 229390 [Hint.v (ai (i+1))]) 16 21 0x234445556656511177789 (pc h1 aa ao aI bl cg (by kernel_rfl:(!true)=false) da bJ)
theorem Um(s:List UInt8)(i c:Nat)(h:J)
  (h1:eu i s.length=true)
  (aa:hb i s=some (dx c))
  (ao:dT 97 c=true)
  (aI:dT c 122=false)
  (bl:dT 48 c=false)
  (cg:eJ c 95=false)
  (da:(!eJ c 45)=true):
  aZ al Tryd.f62 none call [1,1,0,1,0,0] (aB.mk [(0,I.str s),(3,ai i)] [] az.none h) (aU.ret)
   (aB.mk [(0,I.str s),(2,I.bool false),(3,ai i)] [] az.none h):=
 bK [0,2,3] (Hint.b true::Hint.v (dx c)::dR 18 229377 []) 16 20 0x23444555665651117778 (wv h1 aa ao aI bl cg da bJ)
theorem Un(s:List UInt8)(i c:Nat)(h:J)
  (h1:eu i s.length=true)
  (aa:hb i s=some (dx c))
  (ao:dT 97 c=true)
  (aI:dT c 122=false)
  (bl:dT 48 c=false)
  (cg:eJ c 95=false)
  (da:(!eJ c 45)=false)
  (cZ:arith BinOp.add IntKind.i64 (Int.ofNat i) (Int.ofNat 1)=some (ai (i+1))):
  aZ al Tryd.f62 none call [1,1,0,1,0,0] (aB.mk [(0,I.str s),(3,ai i)] [] az.none h) (aU.nrm)
   (aB.mk [(0,I.str s),(3,ai (i+1))] [] az.none h):=
 bK [0,2,3] (Hint.b true::Hint.v (dx c)::dR 18 229376 [Hint.v (ai (i+1))]) 16 21 0x234445556656511177789 (pc h1 aa ao aI bl cg da cZ bJ)
theorem Uo(s:List UInt8)(i c:Nat)(h:J)
  (h1:eu i s.length=true)
  (aa:hb i s=some (dx c))
  (ao:dT 97 c=false)
  (aI:dT 48 c=true)
  (bl:dT c 57=true)
  (cg:arith BinOp.add IntKind.i64 (Int.ofNat i) (Int.ofNat 1)=some (ai (i+1))):
  aZ al Tryd.f62 none call [1,1,0,1,0,0] (aB.mk [(0,I.str s),(3,ai i)] [] az.none h) (aU.nrm)
   (aB.mk [(0,I.str s),(3,ai (i+1))] [] az.none h):=
 bK [0,2,3] (Hint.b true::Hint.v (dx c)::dR 18 3454 [Hint.v (ai (i+1))]) 16 21 0x234441115515166600078 (wv h1 aa ao aI bl (by kernel_rfl:(!true)=false) cg bJ)
theorem Up(s:List UInt8)(i c:Nat)(h:J)
  (h1:eu i s.length=true)
  (aa:hb i s=some (dx c))
  (ao:dT 97 c=false)
  (aI:dT 48 c=true)
  (bl:dT c 57=false)
  (cg:eJ c 95=true)
  (da:arith BinOp.add IntKind.i64 (Int.ofNat i) (Int.ofNat 1)=some (ai (i+1))):
  aZ al Tryd.f62 none call [1,1,0,1,0,0] (aB.mk [(0,I.str s),(3,ai i)] [] az.none h) (aU.nrm)
   (aB.mk [(0,I.str s),(3,ai (i+1))] [] az.none h):=
 bK [0,2,3] (Hint.b true::Hint.v (dx c)::dR 18 3342 [Hint.v (ai (i+1))]) 16 21 0x234441115515166677789 (pc h1 aa ao aI bl cg (by kernel_rfl:(!true)=false) da bJ)
theorem Uq(s:List UInt8)(i c:Nat)(h:J)
  (h1:eu i s.length=true)
  (aa:hb i s=some (dx c))
  (ao:dT 97 c=false)
  (aI:dT 48 c=true)
  (bl:dT c 57=false)
  (cg:eJ c 95=false)
  (da:(!eJ c 45)=true):
  aZ al Tryd.f62 none call [1,1,0,1,0,0] (aB.mk [(0,I.str s),(3,ai i)] [] az.none h) (aU.ret)
   (aB.mk [(0,I.str s),(2,I.bool false),(3,ai i)] [] az.none h):=
 bK [0,2,3] (Hint.b true::Hint.v (dx c)::dR 18 3329 []) 16 20 0x23444111551516667778 (wv h1 aa ao aI bl cg da bJ)
theorem Ur(s:List UInt8)(i c:Nat)(h:J)
  (h1:eu i s.length=true)
  (aa:hb i s=some (dx c))
  (ao:dT 97 c=false)
  (aI:dT 48 c=true)
  (bl:dT c 57=false)
  (cg:eJ c 95=false)
  (da:(!eJ c 45)=false)
  (cZ:arith BinOp.add IntKind.i64 (Int.ofNat i) (Int.ofNat 1)=some (ai (i+1))):
  aZ al Tryd.f62 none call [1,1,0,1,0,0] (aB.mk [(0,I.str s),(3,ai i)] [] az.none h) (aU.nrm)
   (aB.mk [(0,I.str s),(3,ai (i+1))] [] az.none h):=
 bK [0,2,3] (Hint.b true::Hint.v (dx c)::dR 18 3328 [Hint.v (ai (i+1))]) 16 21 0x234441115515166677789 (pc h1 aa ao aI bl cg da cZ bJ)
theorem Us(s:List UInt8)(i c:Nat)(h:J)
  (h1:eu i s.length=true)
  (aa:hb i s=some (dx c))
  (ao:dT 97 c=false)
  (aI:dT 48 c=false)
  (bl:eJ c 95=true)
  (cg:arith BinOp.add IntKind.i64 (Int.ofNat i) (Int.ofNat 1)=some (ai (i+1))):
  aZ al Tryd.f62 none call [1,1,0,1,0,0] (aB.mk [(0,I.str s),(3,ai i)] [] az.none h) (aU.nrm)
   (aB.mk [(0,I.str s),(3,ai (i+1))] [] az.none h):=
 bK [0,2,3] (Hint.b true::Hint.v (dx c)::dR 18 14 [Hint.v (ai (i+1))]) 16 21 0x234441115515111166678 (wv h1 aa ao aI bl (by kernel_rfl:(!true)=false) cg bJ)
theorem Ut(s:List UInt8)(i c:Nat)(h:J)
  (h1:eu i s.length=true)
  (aa:hb i s=some (dx c))
  (ao:dT 97 c=false)
  (aI:dT 48 c=false)
  (bl:eJ c 95=false)
  (cg:(!eJ c 45)=true):
  aZ al Tryd.f62 none call [1,1,0,1,0,0] (aB.mk [(0,I.str s),(3,ai i)] [] az.none h) (aU.ret)
   (aB.mk [(0,I.str s),(2,I.bool false),(3,ai i)] [] az.none h):=
 bK [0,2,3] (Hint.b true::Hint.v (dx c)::dR 18 1 []) 16 20 0x23444111551511116667 (sa h1 aa ao aI bl cg bJ)
theorem Uu(s:List UInt8)(i c:Nat)(h:J)
  (h1:eu i s.length=true)
  (aa:hb i s=some (dx c))
  (ao:dT 97 c=false)
  (aI:dT 48 c=false)
  (bl:eJ c 95=false)
  (cg:(!eJ c 45)=false)
  (da:arith BinOp.add IntKind.i64 (Int.ofNat i) (Int.ofNat 1)=some (ai (i+1))):
  aZ al Tryd.f62 none call [1,1,0,1,0,0] (aB.mk [(0,I.str s),(3,ai i)] [] az.none h) (aU.nrm)
   (aB.mk [(0,I.str s),(3,ai (i+1))] [] az.none h):=
 bK [0,2,3] (Hint.b true::Hint.v (dx c)::dR 18 0 [Hint.v (ai (i+1))]) 16 21 0x234441115515111166678 (wv h1 aa ao aI bl cg da bJ)
theorem Uv(s:List UInt8)(h:J):
  aZ al Tryd.f62 none call [1,1,1] (aB.mk [(0,I.str s)] [] az.none h) (aU.ret)
   (aB.mk [(2,I.bool true)] [] az.none h):=
 bK [2] [] 16 0 0 bJ
theorem Uw(c:Nat):kk c=!((hp (Int.ofNat 97) (Int.ofNat c)&&hp (Int.ofNat c) (Int.ofNat 122))||(hp (Int.ofNat 48) (Int.ofNat c)&&hp (Int.ofNat c) (Int.ofNat 57))||dP (Int.ofNat c) (Int.ofNat 95)||dP (Int.ofNat c) (Int.ofNat 45)):=by
 simp only[Sp,sS,kk,Bool.decide_and]
theorem Ux(call:cJ)(s:List UInt8)(i c:Nat)(h:J)(h1:eC (Int.ofNat i) (Int.ofNat (List.length s))=true)
  (aa:hb i s=some (dx c))(XX:arith BinOp.add IntKind.i64 (Int.ofNat i) (Int.ofNat 1)=some (ai (i+1))):
  (kk c=true->∃Γ,aZ al Tryd.f62 none call [1,1,0,1,0,0] ⟨[(0,.str s),(3,ai i)],[],.none,h⟩ .ret ⟨(2,.bool false)::Γ,[],.none,h⟩)/\
  (kk c=false->aZ al Tryd.f62 none call [1,1,0,1,0,0] ⟨[(0,.str s),(3,ai i)],[],.none,h⟩ .nrm ⟨[(0,.str s),(3,ai (i+1))],[],.none,h⟩):=by
 rw[Uw]
 have fix:∀{st:aB} {Γ:Env},aZ al Tryd.f62 none call [1,1,0,1,0,0] st .ret ⟨[(0,.str s),(2,.bool false),(3,ai i)],[],.none,h⟩->∃Γ,aZ al Tryd.f62 none call [1,1,0,1,0,0] st .ret ⟨(2,.bool false)::Γ,[],.none,h⟩:=λaj=>
  ⟨[],dy.post aj ⟨rfl,trivial⟩⟩
 cases ao:hp (Int.ofNat 97) (Int.ofNat c)<;>cases aI:hp (Int.ofNat c) (Int.ofNat 122)<;>cases bl:hp (Int.ofNat 48) (Int.ofNat c)<;>cases cg:hp (Int.ofNat c) (Int.ofNat 57)<;>cases da:dP (Int.ofNat c) (Int.ofNat 95)<;>cases cZ:dP (Int.ofNat c) (Int.ofNat 45)<;>
  (refine⟨λaQ=>?_,λaQ=>?_⟩<;>first
   |(simp at aQ;done)
   |(apply Ug<;>assumption)
   |(apply Uh<;>assumption)
   |(apply Ui<;>assumption)
   |(apply Uk<;>first|assumption|exact congrArg not cZ)
   |(apply Ul<;>assumption)
   |(apply Un<;>first|assumption|exact congrArg not cZ)
   |(apply Uo<;>assumption)
   |(apply Up<;>assumption)
   |(apply Ur<;>first|assumption|exact congrArg not cZ)
   |(apply Us<;>assumption)
   |(apply Uu<;>first|assumption|exact congrArg not cZ)
   |(refine fix (Γ:=[]) ?_;apply Uj<;>first|assumption|exact congrArg not cZ)
   |(refine fix (Γ:=[]) ?_;apply Um<;>first|assumption|exact congrArg not cZ)
   |(refine fix (Γ:=[]) ?_;apply Uq<;>first|assumption|exact congrArg not cZ)
   |(refine fix (Γ:=[]) ?_;apply Ut<;>first|assumption|exact congrArg not cZ))
theorem JZ(call:cJ)(s:List UInt8)(h:J)(ad:s.length<=50000):∀(k i:Nat),s.length-i=k->i<=s.length->
  ((s.drop i).all (λc=>!kk c.toNat)=true->eY al Tryd.f62 none call [1,1,0,1,0] (k+1) ⟨[(0,.str s),(3,ai i)],[],.none,h⟩ (.exit 0) ⟨[(0,.str s)],[],.none,h⟩)/\
  ((s.drop i).all (λc=>!kk c.toNat)=false->eY al Tryd.f62 none call [1,1,0,1,0] (k+1) ⟨[(0,.str s),(3,ai i)],[],.none,h⟩ .ret ⟨[(2,.bool false)],[],.none,h⟩)
 |0,i,hk,ag=>by
  have:s.drop i=[]:=List.drop_eq_nil_of_le (by omega)
  rw[this]
  exact⟨λ_=>.exit (T3 _ s i h (nD (by omega))) (by simp),λh=>by simp at h⟩
 |k+1,i,hk,ag=>by
  have bx:i<s.length:=by omega
  have ak:s.drop i=s[i]::s.drop (i+1):=List.drop_eq_getElem_cons bx
  obtain⟨tx,tz⟩:=JZ call s h ad k (i+1) (by omega) (by omega)
  obtain⟨ba,bH⟩:=Ux call s i _ h (kH bx) (wo bx) (tT bx (by omega))
  rw[ak,List.all_cons]
  cases aQ:kk (s[i]).toNat with
  |true=>
   obtain⟨Γ,aj⟩:=ba aQ
   exact⟨λh=>by simp at h,λ_=>.exit (dy.post aj ⟨rfl,trivial⟩) (by simp)⟩
  |false=>
   have aC:=bH aQ
   simp only[Bool.not_false,Bool.true_and]
   exact⟨λaJ=>.step aC (tx aJ),λaJ=>.step aC (tz aJ)⟩
theorem Uy(n:Nat)(s:List UInt8)(h:J)(ad:s.length<=50000):Y (n+1) (.fn 62) [.str s] h=.ret (.bool (fo s)) h:=by
 obtain⟨dI,dQ⟩:=JZ (Y n) s h ad s.length 0 (by omega) (by omega)
 rw[List.drop_zero] at dI dQ
 have main:∃e Γ,(e=.ret\/e=.nrm)/\aZ al Tryd.f62 none (Y n) [] ⟨ie 0 [.str s],[],.none,h⟩ e (hi Γ h)/\hL al (bG Tryd.f62) Tryd.f62 Γ h=some (.bool (fo s)):=by
  have aA:=Ub (Y n) s h
  by_cases h1:s.length<1
  · have:fo s=false:=by
      have:s=[]:=by cases s<;>simp at h1⊢
      simp[fo,this]
    rw[this]
    exact⟨.ret,_,.inl rfl,eZ [] aA (nG [1] (Uc _ s h (kH h1)) (by simp)),by kernel_rfl⟩
  · by_cases aa:16<s.length
    · have:fo s=false:=by
        have:decide (s.length<=16)=false:=by simp;omega
        simp[fo,this]
      rw[this]
      exact⟨.ret,_,.inl rfl,eZ [] aA (nG [1] (Ud _ s h (nD h1) (kH aa)) (by simp)),by kernel_rfl⟩
    · have yK:=Ue (Y n) s h (nD h1) (nD aa)
      have ag:=Uf (Y n) s h
      have b9:s.isEmpty=false:=by cases s<;>simp at h1⊢
      have hle:decide (s.length<=16)=true:=by simp;omega
      cases aJ:s.all (λc=>!kk c.toNat) with
      |true=>
       have kP:=aZ.block (p:=[1,1,0,1]) (id:=0) (by kernel_rfl) (eY.run (p:=[1,1,0,1,0]) (by kernel_rfl) (dI aJ) (by omega))
       have:fo s=true:=by simp[fo,aJ,b9,hle]
       rw[this]
       exact⟨.ret,_,.inl rfl,eZ [] aA (eZ [1] yK (eZ [1,1] (eZ [1,1,0] ag kP) (Uv (Y n) s h))),by kernel_rfl⟩
      |false=>
       have kP:=aZ.lh (p:=[1,1,0,1]) (id:=0) (by kernel_rfl) (eY.run (p:=[1,1,0,1,0]) (by kernel_rfl) (dQ aJ) (by omega)) (by simp)
       have:fo s=false:=by simp[fo,aJ]
       rw[this]
       exact⟨.ret,_,.inl rfl,eZ [] aA (eZ [1] yK (nG [1,1] (eZ [1,1,0] ag kP) (by simp))),by kernel_rfl⟩
 obtain⟨e,Γ,he,aj,eQ⟩:=main
 exact hA (n:=n) Tryd.func62 aj he eQ
theorem DJ(call:cJ)(s:List UInt8)(B:Nat)(ad:s.length<=50000):∀(k i:Nat) (h:J) (out:I) (cur:List UInt8) (done:List (List UInt8)),s.length-i=k->i<=s.length->B<=h.n->aS.Row1 B 9 h out (done.map .str)->done.length<=i->cur.length<=i->
  ∃kn ah py pz,eY al Tryd.f61 none call [1,1,1,0,1,0] (k+1) ⟨[(0,.str s),(3,out),(4,.str cur),(5,ai i)],[],.none,h⟩ (.exit 0) ⟨[(3,kn),(4,.str pz)],[],.none,ah⟩/\
   aS.Row1 B 9 ah kn (py.map .str)/\py++[pz]=done++di cur (s.drop i)/\Ext B h ah/\py.length<=s.length
 |0,i,h,out,cur,done,hk,ag,dX,aj,ak,ab=>by
  have e:s.drop i=[]:=List.drop_eq_nil_of_le (by omega)
  exact⟨out,h,done,cur,.exit (T8 call s cur i out h (nD (by omega))) (by simp),aj,by rw[e];rfl,Ext.refl _ _,by omega⟩
 |k+1,i,h,out,cur,done,hk,ag,dX,aj,ak,ab=>by
  have bx:i<s.length:=by omega
  have e:s.drop i=s[i]::s.drop (i+1):=List.drop_eq_getElem_cons bx
  by_cases z7:s[i]=47
  · obtain⟨v',ah,aJ,nt,he⟩:=zQ (x:=cur) dX (by simp;omega) (zR done) aj
    have bW:=T9 call s cur i _ out v' h ah (kH bx) (wo bx) (by rw[z7];rfl) aJ (tT bx (by omega))
    obtain⟨kn,aa,py,pz,aT,bb,bP,gP,k2⟩:=DJ call s B ad k (i+1) ah v' [] (done++[cur]) (by omega) (by omega) (Nat.le_trans dX he.n) (by simpa using nt) (by simp;omega) (by simp)
    refine⟨kn,aa,py,pz,.step bW aT,bb,?_,he.trans (Nat.le_refl _) gP,k2⟩
    rw[bP,e]
    simp[di,z7]
  · have aC:dP (Int.ofNat (s[i]).toNat) (Int.ofNat 47)=false:=by
      rw[sS,decide_eq_false_iff_not]
      intro af
      exact z7 (UInt8.toNat_inj.1 af)
    have jt:fV al h 9 (.str s) (some (ai i)) (some (ai (i+1))) none=some (.str [s[i]]):=by
     rw[Oz zP (by omega) (by omega)]
     have:i+1-i=1:=by omega
     rw[this,e];rfl
    have bW:=T_ call s cur [s[i]] i _ out h (kH bx) (wo bx) aC (tT bx (by omega)) jt (y5 (by simp;omega))
    obtain⟨kn,aa,py,pz,aT,bb,bP,gP,k2⟩:=DJ call s B ad k (i+1) h out (cur++[s[i]]) done (by omega) (by omega) dX aj (by omega) (by simp;omega)
    refine⟨kn,aa,py,pz,.step bW aT,bb,?_,gP,k2⟩
    rw[bP,e]
    simp[di,z7]
theorem Uz(n:Nat)(s:List UInt8)(h:J)(ad:s.length<=50000):∃v ah,Y (n+1) (.fn 61) [.str s] h=.ret v ah/\aS.Row1 h.n 9 ah v ((di [] s).map .str)/\Ext h.n h ah/\(di [] s).length<=s.length+1:=by
 obtain⟨kn,aa,py,pz,aT,bb,bP,gP,k2⟩:=DJ (Y n) s h.n ad s.length 0 h .bn [] [] (by omega) (by omega) (Nat.le_refl _) (.inl ⟨rfl,rfl⟩) (by simp) (by simp)
 rw[List.drop_zero,List.nil_append] at bP
 obtain⟨v',ah,aJ,nt,he⟩:=zQ (x:=pz) (Nat.le_trans (Nat.le_refl _) gP.n) (by simp;omega) (zR py) bb
 have kP:=aZ.block (p:=[1,1,1,0,1]) (id:=0) (by kernel_rfl) (eY.run (p:=[1,1,1,0,1,0]) (by kernel_rfl) aT (by omega))
 have UA:=Ua (Y n) pz kn v' aa ah aJ
 have de:aZ al Tryd.f61 none (Y n) [] ⟨ie 0 [.str s],[],.none,h⟩ .ret ⟨[(2,v')],[],.none,ah⟩:=
  eZ [] (T4 (Y n) s h) (dy.pre (eZ [1] (T5 (Y n) s h) (eZ [1,1] (T6 (Y n) s h) (eZ [1,1,1] (eZ [1,1,1,0] (T7 (Y n) s h) kP) UA))) ⟨rfl,trivial⟩ rfl rfl rfl)
 refine⟨v',ah,hA (n:=n) Tryd.func61 de (.inl rfl) (by kernel_rfl),?_,gP.trans (Nat.le_refl _) he,?_⟩
 · rw[<-bP];simpa using nt
 · rw[<-bP];simp;omega
theorem UB(s:List UInt8)(h:J):
  aZ al Tryd.f48 none call [0] (aB.mk [(0,I.str s)] [] az.none h) (aU.nrm)
   (aB.mk [(0,I.str s),(2,I.str []),(3,ai 0)] [] az.none h):=
 bK [0,2,3] [] 16 0 0 bJ
theorem UC(s:List UInt8)(h:J):
  aZ al Tryd.f48 none call [1,0] (aB.mk [(0,I.str s)] [] az.none h) (aU.nrm)
   (aB.mk [(0,I.str s),(4,I.bn)] [] az.none h):=
 bK [0,4] [] 16 0 0 bJ
theorem UD(s:List UInt8)(v:I)(h:J)(ah:J)
  (h1:call (cR.fn 61) [I.str s] h=bM.ret v ah):
  aZ al Tryd.f48 none call [1,1,0] (aB.mk [(0,I.str s),(4,I.bn)] [] az.none h) (aU.nrm)
   (aB.mk [(4,I.bn),(5,v)] [] az.none ah):=
 bK [4,5] [Hint.c v ah] 16 1 2 (hc h1 bJ)
theorem UE(v:I)(h:J):
  aZ al Tryd.f48 none call [1,1,1,0,0] (aB.mk [(4,I.bn),(5,v)] [] az.none h) (aU.nrm)
   (aB.mk [(4,I.bn),(5,v),(6,ai 0)] [] az.none h):=
 bK [4,5,6] [] 16 0 0 bJ
theorem UF(l:I)(b off n i:Nat)(cap:cb)(h:J)
  (h1:eu i n=false):
  aZ al Tryd.f48 none call [1,1,1,0,1,0,0] (aB.mk [(4,l),(5,I.slice b off n cap),(6,ai i)] [] az.none h) (aU.exit 0)
   (aB.mk [(4,l)] [] az.none h):=
 bK [4] [Hint.b false] 16 1 2 (hc h1 bJ)
theorem J0(l:I)(b off n i:Nat)(cap:cb)(x:List UInt8)(h:J)
  (h1:Nat.le (Nat.succ i) n/\I.ptr b (off+i*1)=I.ptr b (off+i*1))
  (aa:aO h b (off+i*1)=some (I.str x)):
  aZ al Tryd.f48 none call [1,1,1,0,1,0,0,1,0,0,0] (aB.mk [(4,l),(5,I.slice b off n cap),(6,ai i)] [] az.none h) (aU.nrm)
   (aB.mk [(4,l),(5,I.slice b off n cap),(6,ai i),(7,I.str x)] [] az.none h):=
 bK [4,5,6,7] [Hint.v (I.ptr b (off+i*1)),Hint.v (I.str x)] 16 2 35 (lk h1 aa bJ)
theorem UG(l v:I)(i:Nat)(h:J)
  (h1:arith BinOp.add IntKind.i64 (Int.ofNat i) (Int.ofNat 1)=some (ai (i+1))):
  aZ al Tryd.f48 none call [1,1,1,0,1,0,0,1,1] (aB.mk [(4,l),(5,v),(6,ai i)] [] az.none h) (aU.nrm)
   (aB.mk [(4,l),(5,v),(6,ai (i+1))] [] az.none h):=
 bK [4,5,6] [Hint.v (ai (i+1))] 16 1 2 (hc h1 bJ)
theorem UH(l v:I)(x:List UInt8)(i:Nat)(h:J)
  (h1:cr x []=true):
  aZ al Tryd.f48 none call [1,1,1,0,1,0,0,1,0,0,1] (aB.mk [(4,l),(5,v),(6,ai i),(7,I.str x)] [] az.none h) (aU.nrm)
   (aB.mk [(4,l),(5,v),(6,ai i)] [] az.none h):=
 bK [2,3,4,5,6] (dR 4 15 []) 16 4 8736 (hc h1 bJ)
theorem UI(l v:I)(x:List UInt8)(i:Nat)(h:J)
  (h1:cr x []=false)
  (aa:cr x [46]=true):
  aZ al Tryd.f48 none call [1,1,1,0,1,0,0,1,0,0,1] (aB.mk [(4,l),(5,v),(6,ai i),(7,I.str x)] [] az.none h) (aU.nrm)
   (aB.mk [(4,l),(5,v),(6,ai i)] [] az.none h):=
 bK [2,3,4,5,6] (dR 4 1 []) 16 4 8739 (lk h1 aa bJ)
theorem UJ(v:I)(x:List UInt8)(i:Nat)(h:J)
  (h1:cr x []=false)
  (aa:cr x [46]=false)
  (ao:cr x [46,46]=true):
  aZ al Tryd.f48 none call [1,1,1,0,1,0,0,1,0,0,1] (aB.mk [(4,I.bn),(5,v),(6,ai i),(7,I.str x)] [] az.none h) (aU.ret)
   (aB.mk [(2,I.str []),(3,ai 6)] [] az.none h):=
 bK [2,3] (dR 6 3 []) 16 6 2237253 (ll h1 aa ao (by kernel_rfl:eJ 0 0=true) bJ)
theorem UK(v:I)(eG:I)(b off n:Nat)(cap:cb)(x:List UInt8)(i m:Nat)(h:J)
  (h1:cr x []=false)
  (aa:cr x [46]=false)
  (ao:cr x [46,46]=true)
  (aI:eJ n 0=false)
  (bl:arith BinOp.sub IntKind.i64 (Int.ofNat n) (Int.ofNat 1)=some (ai m))
  (cg:fV al h 35 (I.slice b off n cap) none (some (ai m)) none=some eG):
  aZ al Tryd.f48 none call [1,1,1,0,1,0,0,1,0,0,1] (aB.mk [(4,I.slice b off n cap),(5,v),(6,ai i),(7,I.str x)] [] az.none h) (aU.nrm)
   (aB.mk [(4,eG),(5,v),(6,ai i)] [] az.none h):=
 bK [2,3,4,5,6] (dR 6 2 [Hint.v (ai m),Hint.v eG]) 16 8 572736871 (sa h1 aa ao aI bl cg bJ)
theorem UL(v:I)(eG:I)(b off n:Nat)(cap:cb)(x:List UInt8)(i m:Nat)(h:J)
  (h1:cr x []=false)
  (aa:cr x [46]=false)
  (ao:cr x [46,46]=true)
  (aI:eJ n 0=true):
  aZ al Tryd.f48 none call [1,1,1,0,1,0,0,1,0,0,1] (aB.mk [(4,I.slice b off n cap),(5,v),(6,ai i),(7,I.str x)] [] az.none h) (aU.ret)
   (aB.mk [(2,I.str []),(3,ai 6)] [] az.none h):=
 bK [2,3] (dR 6 3 []) 16 6 2237253 (ll h1 aa ao aI bJ)
theorem UM(l v:I)(x:List UInt8)(i:Nat)(h:J)
  (h1:cr x []=false)
  (aa:cr x [46]=false)
  (ao:cr x [46,46]=false)
  (aI:call (cR.fn 62) [I.str x] h=bM.ret (I.bool false) h):
  aZ al Tryd.f48 none call [1,1,1,0,1,0,0,1,0,0,1] (aB.mk [(4,l),(5,v),(6,ai i),(7,I.str x)] [] az.none h) (aU.ret)
   (aB.mk [(2,I.str []),(3,ai 6)] [] az.none h):=
 bK [2,3] (dR 5 0 [Hint.c (I.bool false) h,Hint.b true]) 16 7 35796054 (qu h1 aa ao aI (by kernel_rfl:(!false)=true) bJ)
theorem UN(l:I)(eG:I)(v:I)(x:List UInt8)(i:Nat)(h:J)(ah:J)
  (h1:cr x []=false)
  (aa:cr x [46]=false)
  (ao:cr x [46,46]=false)
  (aI:call (cR.fn 62) [I.str x] h=bM.ret (I.bool true) h)
  (bl:en al (J.push h (b8.cells [I.str x] 9 e3.own 0 0)) 35 (some 35) l (I.slice (J.n h) 0 1 (cb.exact 1))=some (eG,ah)):
  aZ al Tryd.f48 none call [1,1,1,0,1,0,0,1,0,0,1] (aB.mk [(4,l),(5,v),(6,ai i),(7,I.str x)] [] az.none h) (aU.nrm)
   (aB.mk [(4,eG),(5,v),(6,ai i)] [] az.none ah):=
 bK [4,5,6] (dR 5 0 [Hint.c (I.bool true) h,Hint.b false,Hint.hz eG ah]) 16 8 572736871 (sa h1 aa ao aI (by kernel_rfl:(!true)=false) bl bJ)
theorem J1(l:I)(b off n i:Nat)(cap:cb)(h:J)
  (h1:eu i n=true):
  aZ al Tryd.f48 none call [1,1,1,0,1,0,0,0] (aB.mk [(4,l),(5,I.slice b off n cap),(6,ai i)] [] az.none h) (aU.nrm)
   (aB.mk [(4,l),(5,I.slice b off n cap),(6,ai i)] [] az.none h):=
 bK [4,5,6] [Hint.b true] 16 1 2 (hc h1 bJ)
theorem UO(h:J):
  aZ al Tryd.f48 none call [1,1,1,1,0] (aB.mk [(4,I.bn)] [] az.none h) (aU.ret)
   (aB.mk [(2,I.str []),(3,ai 6)] [] az.none h):=
 bK [2,3] (dR 5 31 []) 16 5 139808 (hc (by kernel_rfl:eJ 0 0=true) bJ)
theorem UP(b off n:Nat)(cap:cb)(h:J)
  (h1:eJ n 0=true):
  aZ al Tryd.f48 none call [1,1,1,1,0] (aB.mk [(4,I.slice b off n cap)] [] az.none h) (aU.ret)
   (aB.mk [(2,I.str []),(3,ai 6),(4,I.slice b off n cap)] [] az.none h):=
 bK [2,3,4] (dR 5 31 []) 16 5 139808 (hc h1 bJ)
theorem UQ(b off n:Nat)(cap:cb)(h:J)
  (h1:eJ n 0=false)
  (aa:eu 8 n=true):
  aZ al Tryd.f48 none call [1,1,1,1,0] (aB.mk [(4,I.slice b off n cap)] [] az.none h) (aU.ret)
   (aB.mk [(2,I.str []),(3,ai 6),(4,I.slice b off n cap)] [] az.none h):=
 bK [2,3,4] (dR 5 1 []) 16 5 139811 (lk h1 aa bJ)
theorem UR(b off n:Nat)(cap:cb)(h:J)
  (h1:eJ n 0=false)
  (aa:eu 8 n=false):
  aZ al Tryd.f48 none call [1,1,1,1,0] (aB.mk [(4,I.slice b off n cap)] [] az.none h) (aU.nrm)
   (aB.mk [(4,I.slice b off n cap)] [] az.none h):=
 bK [2,3,4] (dR 5 0 []) 16 5 139811 (lk h1 aa bJ)
theorem US(b off n:Nat)(cap:cb)(x:List UInt8)(h:J)
  (h1:Nat.le 1 n/\I.ptr b (off+0*1)=I.ptr b (off+0*1))
  (aa:aO h b (off+0*1)=some (I.str x)):
  aZ al Tryd.f48 none call [1,1,1,1,1,0] (aB.mk [(4,I.slice b off n cap)] [] az.none h) (aU.nrm)
   (aB.mk [(4,I.slice b off n cap),(8,I.str x)] [] az.none h):=
 bK [4,8] [Hint.v (I.ptr b (off+0*1)),Hint.v (I.str x)] 16 2 35 (lk h1 aa bJ)
theorem UT(l:I)(x:List UInt8)(h:J):
  aZ al Tryd.f48 none call [1,1,1,1,1,1,0,0] (aB.mk [(4,l),(8,I.str x)] [] az.none h) (aU.nrm)
   (aB.mk [(4,l),(8,I.str x),(9,ai 1)] [] az.none h):=
 bK [4,8,9] [] 16 0 0 bJ
theorem UU(b off n i:Nat)(cap:cb)(x:List UInt8)(h:J)
  (h1:eu i n=false):
  aZ al Tryd.f48 none call [1,1,1,1,1,1,0,1,0,0] (aB.mk [(4,I.slice b off n cap),(8,I.str x),(9,ai i)] [] az.none h) (aU.exit 3)
   (aB.mk [(8,I.str x)] [] az.none h):=
 bK [8] [Hint.b false] 16 1 2 (hc h1 bJ)
theorem UW(b off n i:Nat)(cap:cb)(x y:List UInt8)(h:J)
  (h1:eu i n=true)
  (aa:oH BinOp.add x [47]=some (I.str (x++[47])))
  (ao:Nat.le (Nat.succ i) n/\I.ptr b (off+i*1)=I.ptr b (off+i*1))
  (aI:aO h b (off+i*1)=some (I.str y))
  (bl:oH BinOp.add (x++[47]) y=some (I.str (x++[47]++y)))
  (cg:arith BinOp.add IntKind.i64 (Int.ofNat i) (Int.ofNat 1)=some (ai (i+1))):
  aZ al Tryd.f48 none call [1,1,1,1,1,1,0,1,0,0] (aB.mk [(4,I.slice b off n cap),(8,I.str x),(9,ai i)] [] az.none h) (aU.nrm)
   (aB.mk [(4,I.slice b off n cap),(8,I.str (x++[47]++y)),(9,ai (i+1))] [] az.none h):=
 bK [4,8,9] [Hint.b true,Hint.v (I.str (x++[47])),Hint.v (I.ptr b (off+i*1)),Hint.v (I.str y),Hint.v (I.str (x++[47]++y)),Hint.v (ai (i+1))] 16 6 2311527 (sa h1 aa ao aI bl cg bJ)
theorem UX(x:List UInt8)(h:J):
  aZ al Tryd.f48 none call [1,1,1,1,1,1,1] (aB.mk [(8,I.str x)] [] az.none h) (aU.ret)
   (aB.mk [(2,I.str x),(3,ai 0)] [] az.none h):=
 bK [2,3] [] 16 0 0 bJ
theorem UY{call:cJ}{l eG:I}{b n i:Nat}{x:List UInt8}{h ah:J}(ag:i<n)(aC:n<=100000)(U:aO h b (0+i*1)=some (.str x))
  (aa:aZ al Tryd.f48 none call [1,1,1,0,1,0,0,1,0,0,1] ⟨[(4,l),(5,.slice b 0 n (.aH 1)),(6,ai i),(7,.str x)],[],.none,h⟩ .nrm ⟨[(4,eG),(5,.slice b 0 n (.aH 1)),(6,ai i)],[],.none,ah⟩):
  aZ al Tryd.f48 none call [1,1,1,0,1,0,0] ⟨[(4,l),(5,.slice b 0 n (.aH 1)),(6,ai i)],[],.none,h⟩ .nrm ⟨[(4,eG),(5,.slice b 0 n (.aH 1)),(6,ai (i+1))],[],.none,ah⟩:=
 eZ [1,1,1,0,1,0,0] (J1 call l b 0 n i (.aH 1) h (kH ag))
  (eZ [1,1,1,0,1,0,0,1]
   (aZ.lh (p:=[1,1,1,0,1,0,0,1,0]) (id:=1) (by kernel_rfl) (eZ [1,1,1,0,1,0,0,1,0,0] (J0 call l b 0 n i (.aH 1) x h ⟨ag,rfl⟩ U) aa) (by simp))
   (UG call eG _ i ah (tT ag (by omega))))
theorem DK{call:cJ}{l:I}{b n i:Nat}{x:List UInt8}{h ah:J}(ag:i<n)(U:aO h b (0+i*1)=some (.str x)){Γ:Env}
  (aa:aZ al Tryd.f48 none call [1,1,1,0,1,0,0,1,0,0,1] ⟨[(4,l),(5,.slice b 0 n (.aH 1)),(6,ai i),(7,.str x)],[],.none,h⟩ .ret (hi Γ ah)):
  aZ al Tryd.f48 none call [1,1,1,0,1,0,0] ⟨[(4,l),(5,.slice b 0 n (.aH 1)),(6,ai i)],[],.none,h⟩ .ret (hi Γ ah):=
 eZ [1,1,1,0,1,0,0] (J1 call l b 0 n i (.aH 1) h (kH ag))
  (nG [1,1,1,0,1,0,0,1]
   (aZ.lh (p:=[1,1,1,0,1,0,0,1,0]) (id:=1) (by kernel_rfl) (eZ [1,1,1,0,1,0,0,1,0,0] (J0 call l b 0 n i (.aH 1) x h ⟨ag,rfl⟩ U) aa) (by simp)) (by simp))
theorem J2(m:Nat)(xs:List (List UInt8))(B ez:Nat)(rest:List I)(h1:J)(aM:h1.get ez=some (.cells (xs.map .str++rest) 9 .aH 0 0))(zU:ez<B)(hlen:xs.length<=50001)(j4:∀x∈xs,x.length<=50000):
  ∀(k i:Nat) (h:J) (l:I) (st:List (List UInt8)),xs.length-i=k->i<=xs.length->B<=h.n->Ext B h1 h->aS.Row1 B 9 h l (st.map .str)->st.length<=i->
  match fold st (xs.drop i) with
  |some bq=>∃eG ah,eY al Tryd.f48 none (Y (m+1)) [1,1,1,0,1,0] (k+1) ⟨[(4,l),(5,.slice ez 0 xs.length (.aH 1)),(6,ai i)],[],.none,h⟩ (.exit 0) ⟨[(4,eG)],[],.none,ah⟩/\aS.Row1 B 9 ah eG (bq.map .str)/\Ext B h1 ah/\bq.length<=xs.length
  |none=>∃ah,eY al Tryd.f48 none (Y (m+1)) [1,1,1,0,1,0] (k+1) ⟨[(4,l),(5,.slice ez 0 xs.length (.aH 1)),(6,ai i)],[],.none,h⟩ .ret ⟨[(2,.str []),(3,ai 6)],[],.none,ah⟩/\Ext B h1 ah
 |0,i,h,l,st,hk,ag,dX,he,aj,bW=>by
  have e:xs.drop i=[]:=List.drop_eq_nil_of_le (by omega)
  rw[e]
  exact⟨l,h,.exit (UF _ l ez 0 xs.length i (.aH 1) h (nD (by omega))) (by simp),aj,he,by omega⟩
 |k+1,i,h,l,st,hk,ag,dX,he,aj,bW=>by
  have bx:i<xs.length:=by omega
  have e:xs.drop i=xs[i]::xs.drop (i+1):=List.drop_eq_getElem_cons bx
  have an:h.get ez=some (.cells (xs.map .str++rest) 9 .aH 0 0):=(he.get ez zU).trans aM
  have U:=zS an bx
  have J3:=j4 xs[i] (List.getElem_mem bx)
  generalize xs[i]=x at e U J3
  rw[e]
  simp only[fold]
  have go:∀(eG:I) (ah:J) (bq:List (List UInt8)),aZ al Tryd.f48 none (Y (m+1)) [1,1,1,0,1,0,0,1,0,0,1] ⟨[(4,l),(5,.slice ez 0 xs.length (.aH 1)),(6,ai i),(7,.str x)],[],.none,h⟩ .nrm ⟨[(4,eG),(5,.slice ez 0 xs.length (.aH 1)),(6,ai i)],[],.none,ah⟩->
    B<=ah.n->Ext B h1 ah->aS.Row1 B 9 ah eG (bq.map .str)->bq.length<=i+1->
    match fold bq (xs.drop (i+1)) with
    |some bq=>∃eG ah,eY al Tryd.f48 none (Y (m+1)) [1,1,1,0,1,0] (k+1+1) ⟨[(4,l),(5,.slice ez 0 xs.length (.aH 1)),(6,ai i)],[],.none,h⟩ (.exit 0) ⟨[(4,eG)],[],.none,ah⟩/\aS.Row1 B 9 ah eG (bq.map .str)/\Ext B h1 ah/\bq.length<=xs.length
    |none=>∃ah,eY al Tryd.f48 none (Y (m+1)) [1,1,1,0,1,0] (k+1+1) ⟨[(4,l),(5,.slice ez 0 xs.length (.aH 1)),(6,ai i)],[],.none,h⟩ .ret ⟨[(2,.str []),(3,ai 6)],[],.none,ah⟩/\Ext B h1 ah:=by
   intro eG ah bq de aT bb bP gP
   have b1:=UY bx (by omega) U de
   have bc:=J2 m xs B ez rest h1 aM zU hlen j4 k (i+1) ah eG bq (by omega) (by omega) aT bb bP gP
   cases hf:fold bq (xs.drop (i+1)) with
   |some st2=>rw[hf] at bc;obtain⟨dQ,aa,bO,a2⟩:=bc;exact⟨dQ,aa,.step b1 bO,a2⟩
   |none=>rw[hf] at bc;obtain⟨aa,bO,a2⟩:=bc;exact⟨aa,.step b1 bO,a2⟩
  by_cases ak:x=[]\/x=[46]
  · rw[if_pos ak]
    refine go l h st ?_ dX he aj (by omega)
    by_cases jL:x=[]
    · exact dy.post (UH _ l _ x i h (w_ jL)) ⟨rfl,rfl,rfl,trivial⟩
    · exact UI _ l _ x i h (jj jL) (w_ (ak.resolve_left jL))
  · rw[if_neg ak]
    have aE:¬x=[]:=λh=>ak (.inl h)
    have a_:¬x=[46]:=λh=>ak (.inr h)
    by_cases lr:x=[46,46]
    · rw[if_pos lr]
      rcases aj with⟨rfl,eX⟩|⟨b,rs,rfl,iK,jO,ev,iF⟩
      · have xk:st=[]:=by simpa using eX
        rw[if_pos xk]
        exact⟨h,.exit (DK bx U (UJ _ _ x i h (jj aE) (jj a_) (w_ lr))) (by simp),he⟩
      · by_cases eX:st=[]
        · rw[if_pos eX]
          exact⟨h,.exit (DK bx U (UL _ _ .bn b 0 _ (.aH 1) x i 0 h (jj aE) (jj a_) (w_ lr) (Jr (by simp[eX])))) (by simp),he⟩
        · rw[if_neg eX]
          have ni:0<st.length:=by cases st<;>simp at eX⊢
          have sY:(st.map I.str).length=st.length:=by simp
          refine go (.slice b 0 (st.length-1) (.aH 1)) h st.dropLast ?_ dX he ?_ (by simp;omega)
          · rw[sY]
            exact dy.post (UK _ _ (.slice b 0 (st.length-1) (.aH 1)) b 0 st.length (.aH 1) x i (st.length-1) h (jj aE) (jj a_) (w_ lr) (Dq (by omega)) (Js ni (by omega)) (Jt ni)) ⟨rfl,rfl,rfl,trivial⟩
          · refine .inr ⟨b,.str (st.getLast eX)::rs,by simp,?_,jO,ev,by rw[List.all_cons,iF];rfl⟩
            rw[iK]
            have:st.map I.str=st.dropLast.map I.str++[.str (st.getLast eX)]:=by
             conv=>lhs;rw[<-List.dropLast_concat_getLast eX]
             simp
            rw[this];simp
    · rw[if_neg lr]
      have nT:=Uy m x h J3
      cases ad:fo x with
      |false=>
       rw[ad] at nT
       simp only[Bool.false_eq_true,if_false]
       exact⟨h,.exit (DK bx U (UM _ l _ x i h (jj aE) (jj a_) (jj lr) nT)) (by simp),he⟩
      |true=>
       rw[ad] at nT
       simp only[if_true]
       obtain⟨v',ah,aJ,nt,uF⟩:=zQ (x:=x) dX (by simp;omega) (zR st) aj
       exact go v' ah (st++[x]) (UN _ l v' _ x i h ah (jj aE) (jj a_) (jj lr) nT aJ) (Nat.le_trans dX uF.n) (he.trans (Nat.le_refl _) uF) (by simpa using nt) (by simp;omega)
theorem J4(call:cJ)(xs:List (List UInt8))(ez:Nat)(rest:List I)(h:J)(aM:h.get ez=some (.cells (xs.map .str++rest) 9 .aH 0 0))(hlen:xs.length<=10)(j4:∀x∈xs,x.length<=50000):
  ∀(k i:Nat) (acc:List UInt8),xs.length-i=k->i<=xs.length->acc.length<=60000*i->eY al Tryd.f48 none call [1,1,1,1,1,1,0,1,0] (k+1) ⟨[(4,.slice ez 0 xs.length (.aH 1)),(8,.str acc),(9,ai i)],[],.none,h⟩ (.exit 3) ⟨[(8,.str (hn acc (xs.drop i)))],[],.none,h⟩
 |0,i,acc,hk,ag,aJ=>by
  have e:xs.drop i=[]:=List.drop_eq_nil_of_le (by omega)
  rw[e]
  exact .exit (UU call ez 0 xs.length i (.aH 1) acc h (nD (by omega))) (by simp)
 |k+1,i,acc,hk,ag,aJ=>by
  have bx:i<xs.length:=by omega
  have e:xs.drop i=xs[i]::xs.drop (i+1):=List.drop_eq_getElem_cons bx
  have U:=zS aM bx
  have TV:=j4 xs[i] (List.getElem_mem bx)
  rw[e]
  refine .step (UW call ez 0 xs.length i (.aH 1) acc xs[i] h (kH bx) (y5 (by simp;omega)) ⟨bx,rfl⟩ U (y5 (by simp;omega)) (tT bx (by omega))) ?_
  exact J4 call xs ez rest h aM hlen j4 k (i+1) _ (by omega) (by omega) (by simp;omega)
theorem z8(m:Nat)(s:List UInt8)(h:J)(ad:s.length<=50000):
  ∃ah,Y (m+2) (.fn 48) [.str s] h=.ret (match eh s with|some p=>.aF [.str p,ai 0]|none=>.aF [.str [],ai 6]) ah/\Ext h.n h ah:=by
 obtain⟨v,h1,c1,ba,av,dI⟩:=Uz m s h ad
 have b9:di [] s≠[]:=Ju s []
 rcases ba with⟨_,o1⟩|⟨ez,rest,rfl,an,jO,ev,_⟩
 · exact absurd (by simpa using o1) b9
 have sY:((di [] s).map I.str).length=(di [] s).length:=by simp
 rw[sY] at c1
 have kP:=J2 m (di [] s) h1.n ez rest h1 an ev (by omega) (Dr s [] 50000 (by simpa using ad)) (di [] s).length 0 h1 .bn [] (by omega) (by omega) (Nat.le_refl _) (Ext.refl _ _) (.inl ⟨rfl,rfl⟩) (by simp)
 rw[List.drop_zero] at kP
 have z:=UB (Y (m+1)) s h
 have UZ:=UC (Y (m+1)) s h
 have U0:=UD (Y (m+1)) s (.slice ez 0 (di [] s).length (.aH 1)) h h1 c1
 have J5:=UE (Y (m+1)) (.slice ez 0 (di [] s).length (.aH 1)) h1
 have up:∀{e:aU} {Γ:Env} {ah:J},aZ al Tryd.f48 none (Y (m+1)) [1,1,1] ⟨[(4,.bn),(5,.slice ez 0 (di [] s).length (.aH 1))],[],.none,h1⟩ e (hi Γ ah)->aZ al Tryd.f48 none (Y (m+1)) [] ⟨ie 0 [.str s],[],.none,h⟩ e (hi Γ ah):=λaj=>
  eZ [] (dy.post z ⟨rfl,trivial⟩:aZ _ _ _ _ _ _ _ ⟨[(0,.str s)],[],.none,h⟩) (eZ [1] UZ (eZ [1,1] U0 aj))
 have J6:r1 (sub (c5 Tryd.f48) [1,1,1,0,1,0])=true:=by kernel_rfl
 unfold eh
 cases hf:fold [] (di [] s) with
 |none=>
  rw[hf] at kP
  obtain⟨aa,bO,a2⟩:=kP
  have ar:=aZ.lh (p:=[1,1,1,0,1]) (id:=0) (by kernel_rfl) (eY.run (p:=[1,1,1,0,1,0]) J6 bO (by omega)) (by simp)
  have de:=up (nG [1,1,1] (eZ [1,1,1,0] J5 ar) (by simp))
  exact⟨aa,hA (n:=m+1) Tryd.func48 de (.inl rfl) (by kernel_rfl),av.trans av.n a2⟩
 |some bq=>
  rw[hf] at kP
  obtain⟨eG,aa,bO,a2,a3,a4⟩:=kP
  have ar:=aZ.block (p:=[1,1,1,0,1]) (id:=0) (by kernel_rfl) (eY.run (p:=[1,1,1,0,1,0]) J6 bO (by omega))
  have mB:=eZ [1,1,1,0] J5 ar
  have nP:∀{e:aU} {Γ:Env} {ah:J},aZ al Tryd.f48 none (Y (m+1)) [1,1,1,1] ⟨[(4,eG)],[],.none,aa⟩ e (hi Γ ah)->aZ al Tryd.f48 none (Y (m+1)) [] ⟨ie 0 [.str s],[],.none,h⟩ e (hi Γ ah):=λaj=>
   up (eZ [1,1,1] mB aj)
  have qg:Ext h.n h aa:=av.trans av.n a3
  have fin:∀{Γ:Env} {v:I},aZ al Tryd.f48 none (Y (m+1)) [] ⟨ie 0 [.str s],[],.none,h⟩ .ret (hi Γ aa)->hL al (bG Tryd.f48) Tryd.f48 Γ aa=some v->∃ah,Y (m+2) (.fn 48) [.str s] h=.ret v ah/\Ext h.n h ah:=λaj eQ=>
   ⟨aa,hA (n:=m+1) Tryd.func48 aj (.inl rfl) eQ,qg⟩
  rcases a2 with⟨rfl,bW⟩|⟨b,rs,rfl,iK,Gt,XY,iF⟩
  · have:bq=[]:=by simpa using bW
    subst this
    exact fin (nP (nG [1,1,1,1] (UO _ aa) (by simp))) (by kernel_rfl)
  · have U1:(bq.map I.str).length=bq.length:=by simp
    rw[U1] at nP
    cases bq with
    |nil=>exact fin (nP (nG [1,1,1,1] (UP _ b 0 _ (.aH 1) aa (Jr (by simp))) (by simp))) (by kernel_rfl)
    |cons x l=>
     simp only
     by_cases cZ:l.length<8
     · rw[if_pos cZ]
       have tq:=xa _ _ _ hf (λy aP=>by cases aP)
       have nT:∀y∈x::l,y.length<=50000:=λy aP=>by have:=xb (tq y aP);omega
       have oX:=zS iK (i:=0) (by simp)
       have U2:aO aa b (0+0*1)=some (.str x):=oX
       have XZ:=xb (tq x (by simp))
       have j:=J4 (Y (m+1)) (x::l) b rs aa iK (by simp;omega) nT ((x::l).length-1) 1 x rfl (by simp) (by omega)
       have U3:=aZ.block (p:=[1,1,1,1,1,1,0,1]) (id:=3) (by kernel_rfl) (eY.run (p:=[1,1,1,1,1,1,0,1,0]) (by kernel_rfl) j (by simp;omega))
       have de:=nP (eZ [1,1,1,1] (UR _ b 0 _ (.aH 1) aa (Dq (by simp)) (nD (by simp;omega)))
        (eZ [1,1,1,1,1] (US _ b 0 _ (.aH 1) x aa ⟨by simp,rfl⟩ U2)
         (eZ [1,1,1,1,1,1] (eZ [1,1,1,1,1,1,0] (UT _ _ x aa) U3) (UX _ _ aa))))
       exact fin de (by kernel_rfl)
     · rw[if_neg cZ]
       exact fin (nP (nG [1,1,1,1] (UQ _ b 0 _ (.aH 1) aa (Dq (by simp)) (kH (by simp;omega))) (by simp))) (by kernel_rfl)
structure fp where
 ax:List bV
 ts:List (bf×Nat)
def gz(g:bV):List bV->List bV
 |[]=>[g]
 |x::l=>match c7 g.p x.p with
  |true=>g::x::l
  |false=>x::gz g l
def mL(p x:bf)(r:fp):fp:=⟨gz ⟨p,x,cE r.ts p+1⟩ (dZ r.ax p),e9 r.ts p (cE r.ts p+1)⟩
theorem DL{g f:bV}:∀{l:List bV},f∈gz g l<->f=g\/f∈l
 |[]=>by simp[gz]
 |x::l=>by
  unfold gz
  split
  · simp
  · rw[List.mem_cons,DL,List.mem_cons]
    exact⟨λh=>by rcases h with h|h|h;exact .inr (.inl h);exact .inl h;exact .inr (.inr h),λh=>by rcases h with h|h|h;exact .inr (.inl h);exact .inl h;exact .inr (.inr h)⟩
theorem J7(g:bV):∀l:List bV,(gz g l).length=l.length+1
 |[]=>rfl
 |x::l=>by
  unfold gz
  split
  · rfl
  · rw[List.length_cons,J7 g l,List.length_cons]
theorem J8{g:bV}:∀{l:List bV},l.Pairwise (λa b=>c7 a.p b.p=true)->(∀x∈l,x.p≠g.p)->(gz g l).Pairwise (λa b=>c7 a.p b.p=true)
 |[],_,_=>by unfold gz;simp
 |x::l,h,aC=>by
  obtain⟨h1,aa⟩:=List.pairwise_cons.1 h
  unfold gz
  split
  · rename_i bx
    refine List.pairwise_cons.2 ⟨λy aP=>?_,h⟩
    rcases List.mem_cons.1 aP with rfl|aP
    · exact bx
    · exact sG _ _ _ bx (h1 y aP)
  · rename_i bx
    refine List.pairwise_cons.2 ⟨λy aP=>?_,J8 aa λy aP=>aC y (by simp[aP])⟩
    rcases DL.1 aP with rfl|aP
    · cases ao:c7 x.p y.p with
      |true=>rfl
      |false=>exact absurd (uq _ _ ao bx) (aC x (by simp))
    · exact h1 y aP
theorem DM{g:bV}:∀{l m:List bV},(∀x∈l,c7 g.p x.p=false)->gz g (l++m)=l++gz g m
 |[],_,_=>rfl
 |x::l,m,h=>by
  rw[List.cons_append,gz,h x (by simp),List.cons_append,DM λy aP=>h y (by simp[aP])]
theorem J9{g:bV}:∀{l m:List bV},(∃x∈l,c7 g.p x.p=true)->gz g (l++m)=gz g l++m
 |[],_,h=>by obtain⟨x,U,_⟩:=h;cases U
 |x::l,m,h=>by
  rw[List.cons_append,gz,gz]
  split
  · rfl
  · rename_i bx
    rw[List.cons_append,J9]
    obtain⟨y,aP,aa⟩:=h
    rcases List.mem_cons.1 aP with rfl|aP
    · rw[bx] at aa;cases aa
    · exact⟨y,aP,aa⟩
theorem J_:∀{a b:List bV},a.Pairwise (λa b=>c7 a.p b.p=true)->b.Pairwise (λa b=>c7 a.p b.p=true)->(∀f,f∈a<->f∈b)->a=b
 |[],[],_,_,_=>rfl
 |[],y::b,_,_,h=>by have:=(h y).2 (by simp);cases this
 |x::a,[],_,_,h=>by have:=(h x).1 (by simp);cases this
 |x::a,y::b,aJ,ae,h=>by
  obtain⟨bO,a2⟩:=List.pairwise_cons.1 aJ
  obtain⟨ck,cn⟩:=List.pairwise_cons.1 ae
  have zC:x=y:=by
   rcases List.mem_cons.1 ((h x).1 (by simp)) with e|e
   · exact e
   · rcases List.mem_cons.1 ((h y).2 (by simp)) with au|au
     · exact au.symm
     · have:=sG _ _ _ (ck x e) (bO y au)
       rw[sF] at this;cases this
  subst zC
  have U:∀{l:List bV},(∀f∈l,c7 x.p f.p=true)->x∉l:=λ{l} ar hm=>by
   have:=ar x hm
   rw[sF] at this;cases this
  rw[J_ a2 cn λf=>⟨λhf=>?_,λhf=>?_⟩]
  · rcases List.mem_cons.1 ((h f).1 (List.mem_cons_of_mem _ hf)) with e|e
    · subst e;exact absurd hf (U bO)
    · exact e
  · rcases List.mem_cons.1 ((h f).2 (List.mem_cons_of_mem _ hf)) with e|e
    · subst e;exact absurd hf (U ck)
    · exact e
theorem U4{a:List bV}(h:a.Pairwise (λa b=>c7 a.p b.p=true)):(a.map (·.p)).Nodup:=by
 unfold List.Nodup
 rw[List.pairwise_map]
 refine h.imp λ{x y} e ey=>?_
 rw[ey,sF] at e;cases e
theorem U5{l:List e0}(aC:(l.map (·.f.p)).Nodup):(mb l).Perm (l.map (·.f)):=by
 unfold mb
 refine((sL _).map _).trans ?_
 rw[List.map_map]
 have:l.map ((λp=>(⟨p,(kN l p).1,(kN l p).2⟩:bV))∘ λd=>d.f.p)=l.map (·.f):=List.map_congr_left λd ak=>by
  show(⟨d.f.p,(kN l d.f.p).1,(kN l d.f.p).2⟩:bV)=d.f
  rw[wT aC d ak]
 rw[this]
structure Rel(s:cj)(r:fp):Prop where
 up:r.ax.Pairwise (λa b=>c7 a.p b.p=true)
 mem:∀f,f∈r.ax<->f∈s.ax
 bF:∀p,cE r.ts p=cE s.ts p
 uI:(r.ts.map (·.1)).Nodup
theorem Rel.list{s:cj}{r:fp}(h:Rel s r){L:List e0}(hY:L.map (·.f)=s.ax)(aC:(L.map (·.f.p)).Nodup):mb L=r.ax:=
 J_ (Q5 aC) h.up λf=>by
  rw[Q4 aC,h.mem,<-hY,List.mem_map]
theorem Rel.perm{s:cj}{r:fp}(h:Rel s r)(ok:ir s):r.ax.Perm s.ax:=by
 obtain⟨L,hY⟩:∃L:List e0,L=s.ax.map λf=>⟨f.p,f,0⟩:=⟨_,rfl⟩
 have h1:L.map (·.f)=s.ax:=by rw[hY,List.map_map];exact List.map_id _
 have aa:(L.map (·.f.p)).Nodup:=by
  have:=ok.dG
  rw[<-h1,List.map_map] at this
  exact this
 rw[<-h.list h1 aa,<-h1]
 exact U5 aa
theorem Rel.len{s:cj}{r:fp}(h:Rel s r)(ok:ir s):r.ax.length=s.ax.length:=(h.perm ok).length_eq
theorem Rel.sum{s:cj}{r:fp}(h:Rel s r)(ok:ir s):gj r.ax=gj s.ax:=((h.perm ok).map _).sum_nat
theorem Rel.get{s:cj}{r:fp}(h:Rel s r)(ok:ir s)(p:bf):cM r.ax p=cM s.ax p:=by
 have aC:=U4 h.up
 cases ad:cM s.ax p with
 |some f=>
  obtain⟨h1,rfl⟩:=lx ad
  exact Dc aC ((h.mem f).2 h1)
 |none=>
  cases aj:cM r.ax p with
  |none=>rfl
  |some f=>
   obtain⟨h1,aa⟩:=lx aj
   exact absurd aa (qN ad f ((h.mem f).1 h1))
theorem U6{l:List (bf×Nat)}(aC:(l.map (·.1)).Nodup)(p:bf)(n:Nat):((e9 l p n).map (·.1)).Nodup:=by
 unfold e9
 split
 · have:(l.map λf=>if f.1=p then(p,n) else f).map (·.1)=l.map (·.1):=by
     rw[List.map_map]
     refine List.map_congr_left λf _=>?_
     show(if f.1=p then(p,n) else f).1=f.1
     split
     · rename_i e;exact e.symm
     · rfl
   rw[this];exact aC
 · rename_i h
   rw[List.map_append,List.nodup_append]
   refine⟨aC,by simp,λa aJ b ae=>?_⟩
   obtain⟨f,hf,rfl⟩:=List.mem_map.1 aJ
   have ae:b=p:=by simpa using ae
   rw[ae]
   exactλe=>h (List.any_eq_true.2 ⟨f,hf,by simpa using e⟩)
theorem Rel.drop{s:cj}{r:fp}(h:Rel s r)(p:bf):Rel (d_ p s) ⟨dZ r.ax p,r.ts⟩:=
 ⟨h.up.sublist List.filter_sublist,λf=>by
  show f∈dZ r.ax p<->f∈dZ s.ax p
  rw[nN,nN,h.mem],h.bF,h.uI⟩
theorem Rel.put{s:cj}{r:fp}(h:Rel s r)(p x:bf):Rel (fg p x s).2 (mL p x r):=
 ⟨J8 (h.up.sublist List.filter_sublist) λy aP=>(nN.1 aP).2,λf=>by
  show f∈gz _ (dZ r.ax p)<->f∈iL s.ax _
  rw[DL,nN,qO,h.mem,h.bF],λq=>by
  show cE (e9 r.ts p _) q=cE (e9 s.ts p _) q
  rw[uv,uv,h.bF,h.bF],U6 h.uI p _⟩
theorem Rel.Ka{s:cj}{r:fp}(h:Rel s r)(p x:bf):cE r.ts p+1=(fg p x s).1:=by rw[h.bF];rfl
theorem U7(m r:Nat)(p:List UInt8)(h:J)(H:bU al Tryd.f49 (Y m) [1,0,1,0] (aR [(0,aq r),(1,.str p),(5,ai 0)] h) (λey fK=>((∃g1 dI,ey=.exit 0/\fK=aR dI g1/\eI [] dI/\R (.ret (.int .i64 (.negSucc 0)) g1))\/(∃aE g2 dQ,ey=.ret/\fK=aR dQ g2/\eI [(4,ai aE)] dQ/\R (.ret (ai aE) g2))))):
  R (Y (m+1) (.fn 49) [aq r,.str p] h):=
 fv [(4000,.hM [0,1,5] [(.exit 0,[]),(.ret,[(4,.n .i64)])])] [] Tryd.func49 H
theorem U8(r i:Nat)(p:List UInt8)(h:J)(H:∃v1,aO h r 5=some v1/\∃aE,fO al h 32 v1=some (ai aE)/\(i<aE->∃a_ bZ,aO h r 5=some (.slice a_ 0 bZ (.aH 3))/\i<bZ/\∃s1,aO h a_ (0+i*3+0)=some (.str s1)/\(cr s1 p=true->Q .ret (aR [(0,aq r),(1,.str p),(4,ai i),(5,ai i)] h))/\(cr s1 p=false->i+1<9223372036854775808/\Q .nrm (aR [(0,aq r),(1,.str p),(5,ai (i+1))] h)))/\(¬i<aE->Q (.exit 0) (aR [(0,aq r),(1,.str p),(5,ai i)] h))):
  bU al Tryd.f49 call [1,0,1,0,0] (aR [(0,aq r),(1,.str p),(5,ai i)] h) Q:=
 du [(10,.aY .o),(18,.aY (.jR (.aH 3)))] [0,1,4,5] [] H
theorem U9(m r:Nat)(h:J)(H:bU al Tryd.f19 (Y m) [1,1,0,1,0] (aR [(0,aq r),(3,ai 0),(4,ai 0)] h) (λey fK=>∃aE g1 dI,ey=.exit 0/\fK=aR dI g1/\eI [(3,ai aE)] dI/\R (.ret (ai aE) g1))):
  R (Y (m+1) (.fn 19) [aq r] h):=
 fv [(4000,.hM [0,3,4] [(.exit 0,[(3,.n .i64)])])] [] Tryd.func19 H
theorem U_(r n i:Nat)(h:J)(H:∃v1,aO h r 5=some v1/\∃aE,fO al h 32 v1=some (ai aE)/\(i<aE->∃a_ bZ,aO h r 5=some (.slice a_ 0 bZ (.aH 3))/\i<bZ/\∃s1,aO h a_ (0+i*3+1)=some (.str s1)/\n+List.length s1<9223372036854775808/\i+1<9223372036854775808/\Q .nrm (aR [(0,aq r),(3,ai (n+List.length s1)),(4,ai (i+1))] h))/\(¬i<aE->Q (.exit 0) (aR [(0,aq r),(3,ai n),(4,ai i)] h))):
  bU al Tryd.f19 call [1,1,0,1,0,0] (aR [(0,aq r),(3,ai n),(4,ai i)] h) Q:=
 du [(9,.aY .o),(18,.aY (.jR (.aH 3)))] [0,3,4] [] H
theorem Va(m r:Nat)(p:List UInt8)(h:J)(H:bU al Tryd.f51 (Y m) [1,0,1,0] (aR [(0,aq r),(1,.str p),(4,.bn),(5,ai 0)] h) (λey fK=>∃v1 g1 dI,ey=.exit 0/\fK=aR dI g1/\eI [(0,aq r),(4,v1)] dI/\sy v1/\∃g2,aS.storeCells g1 r 5 [v1]=some g2/\R (.ret (.aF []) g2))):
  R (Y (m+1) (.fn 51) [aq r,.str p] h):=
 fv [(4000,.hM [0,1,4,5] [(.exit 0,[(0,.is (aq r)),(4,.o)])])] [] Tryd.func51 H
theorem Vb(r i:Nat)(p:List UInt8)(v:I)(h:J)(H:∃v1,aO h r 5=some v1/\∃aE,fO al h 32 v1=some (ai aE)/\(i<aE->∃a_ bZ,aO h r 5=some (.slice a_ 0 bZ (.aH 3))/\i<bZ/\∃s1,aO h a_ (0+i*3+0)=some (.str s1)/\((!cr s1 p)=true->∃cG eg,aO h r 5=some (.slice cG 0 eg (.aH 3))/\i<eg/\∃s2 bz n6,aS.loadCells h cG (0+i*3) 3=some [.str s2,.str bz,aK n6]/\∃v2 g1,en al (J.push h (ay [.str s2,.str bz,aK n6] 40)) 32 (some 32) v (.slice h.n 0 1 (.exact 1))=some (v2,g1)/\i+1<9223372036854775808/\Q .nrm (aR [(0,aq r),(1,.str p),(4,v2),(5,ai (i+1))] g1))/\((!cr s1 p)=false->i+1<9223372036854775808/\Q .nrm (aR [(0,aq r),(1,.str p),(4,v),(5,ai (i+1))] h)))/\(¬i<aE->Q (.exit 0) (aR [(0,aq r),(1,.str p),(4,v),(5,ai i)] h))):
  bU al Tryd.f51 call [1,0,1,0,0] (aR [(0,aq r),(1,.str p),(4,v),(5,ai i)] h) Q:=
 du [(10,.aY .o),(18,.aY (.jR (.aH 3))),(29,.aY (.jR (.aH 3))),(32,.aY (.c6 [.st,.st,.n .u64])),(34,.aY .o)] [0,1,4,5] [4] H
theorem Vc(r i:Nat)(p x:List UInt8)(v:I)(h:J)(H:∃v1,aO h r 6=some v1/\∃aE,fO al h 49 v1=some (ai aE)/\(i<aE->∃a_ bZ,aO h r 6=some (.slice a_ 0 bZ (.aH 2))/\i<bZ/\∃s1,aO h a_ (0+i*2+0)=some (.str s1)/\(cr s1 p=true->i+1<9223372036854775808/\Q .nrm (aR [(0,aq r),(1,.str p),(2,.str x),(7,ai i),(8,ai (i+1))] h))/\(cr s1 p=false->i+1<9223372036854775808/\Q .nrm (aR [(0,aq r),(1,.str p),(2,.str x),(7,v),(8,ai (i+1))] h)))/\(¬i<aE->Q (.exit 0) (aR [(0,aq r),(1,.str p),(2,.str x),(7,v),(8,ai i)] h))):
  bU al Tryd.f50 call [1,1,0,1,0,0] (aR [(0,aq r),(1,.str p),(2,.str x),(7,v),(8,ai i)] h) Q:=
 du [(17,.aY .o),(25,.aY (.jR (.aH 2)))] [0,1,2,7,8] [7] H
theorem Vd(r i b:Nat)(p:List UInt8)(v:I)(h:J)(H:∃v1,aO h r 5=some v1/\∃aE,fO al h 32 v1=some (ai aE)/\(i<aE->true=true/\∃a_ bZ,aO h r 5=some (.slice a_ 0 bZ (.aH 3))/\i<bZ/\∃s1 s2 cG,aS.loadCells h a_ (0+i*3) 3=some [.str s1,.str s2,aK cG]/\∃v2 g1,en al (J.push h (ay [.str s1,.str s2,aK cG] 40)) 32 (some 32) v (.slice h.n 0 1 (.exact 1))=some (v2,g1)/\i+1<9223372036854775808/\Q .nrm (aR [(0,aq r),(1,.str p),(9,aq b),(10,v2),(11,.bool true),(12,ai (i+1))] g1))/\(¬i<aE->Q (.exit 2) (aR [(0,aq r),(1,.str p),(9,aq b),(10,v),(11,.bool true),(12,ai i)] h))):
  bU al Tryd.f50 call [1,1,1,1,1,1,1,1,1,0,1,0,0] (aR [(0,aq r),(1,.str p),(9,aq b),(10,v),(11,.bool true),(12,ai i)] h) Q:=
 du [(1088,.f),(80,.aY .o),(91,.aY (.jR (.aH 3))),(100,.aY (.c6 [.st,.st,.n .u64])),(102,.aY .o),(107,.aY (.jR (.aH 3))),(110,.aY (.c6 [.st,.st,.n .u64])),(112,.aY .o)] [0,1,9,10,11,12] [10] H
theorem Ve(r i b:Nat)(p:List UInt8)(v:I)(h:J)(H:∃v1,aO h r 5=some v1/\∃aE,fO al h 32 v1=some (ai aE)/\(i<aE->false=false/\∃a_ bZ,aO h r 5=some (.slice a_ 0 bZ (.aH 3))/\i<bZ/\∃s1,aO h a_ (0+i*3+0)=some (.str s1)/\(c7 p s1=true->∃s2 bz cG,aS.loadCells h b 0 3=some [.str s2,.str bz,aK cG]/\∃v2 g1,en al (J.push h (ay [.str s2,.str bz,aK cG] 40)) 32 (some 32) v (.slice h.n 0 1 (.exact 1))=some (v2,g1)/\∃eg n6,aO g1 r 5=some (.slice eg 0 n6 (.aH 3))/\i<n6/\∃bT b0 n7,aS.loadCells g1 eg (0+i*3) 3=some [.str bT,.str b0,aK n7]/\∃v3 g2,en al (J.push g1 (ay [.str bT,.str b0,aK n7] 40)) 32 (some 32) v2 (.slice g1.n 0 1 (.exact 1))=some (v3,g2)/\i+1<9223372036854775808/\Q .nrm (aR [(0,aq r),(1,.str p),(9,aq b),(10,v3),(11,.bool true),(12,ai (i+1))] g2))/\(c7 p s1=false->∃n8 zT,aO h r 5=some (.slice n8 0 zT (.aH 3))/\i<zT/\∃cC cY n10,aS.loadCells h n8 (0+i*3) 3=some [.str cC,.str cY,aK n10]/\∃v4 g3,en al (J.push h (ay [.str cC,.str cY,aK n10] 40)) 32 (some 32) v (.slice h.n 0 1 (.exact 1))=some (v4,g3)/\i+1<9223372036854775808/\Q .nrm (aR [(0,aq r),(1,.str p),(9,aq b),(10,v4),(11,.bool false),(12,ai (i+1))] g3)))/\(¬i<aE->Q (.exit 2) (aR [(0,aq r),(1,.str p),(9,aq b),(10,v),(11,.bool false),(12,ai i)] h))):
  bU al Tryd.f50 call [1,1,1,1,1,1,1,1,1,0,1,0,0] (aR [(0,aq r),(1,.str p),(9,aq b),(10,v),(11,.bool false),(12,ai i)] h) Q:=
 du [(1088,.t),(80,.aY .o),(91,.aY (.jR (.aH 3))),(100,.aY (.c6 [.st,.st,.n .u64])),(102,.aY .o),(107,.aY (.jR (.aH 3))),(110,.aY (.c6 [.st,.st,.n .u64])),(112,.aY .o)] [0,1,9,10,11,12] [10] H
theorem DN(m r:Nat)(p x:List UInt8)(h:J)(H:∃s1 aE g1,Y m (.fn 48) [.str p] h=.ret (.aF [.str s1,ai aE]) g1/\(aE=0->(4096<List.length x->R (.ret (.aF [aK 0,ai 3]) g1))/\(¬4096<List.length x->∃v1,aO (g1.room 13) r 5=some v1/\∃a_,fO al (g1.room 13) 32 v1=some (ai a_)/\a_+1<9223372036854775808/\∃bZ g2,Y m (.fn 19) [aq r] (g1.room 13)=.ret (ai bZ) g2/\bZ+List.length x<9223372036854775808/\l9 v1/\aO g2 r 5=some v1/\∃g3,Y m (.fn 49) [aq r,.str s1] g2=.ret (.int .i64 (.negSucc 0)) g3/\hp (.ofNat 0) (.negSucc 0)=false/\∃bS:Int,aO g3 r 0=some (.int .i64 bS)/\(eC bS (.ofNat (a_+1))=true->R (.ret (.aF [aK 0,ai 7]) g3))/\(eC bS (.ofNat (a_+1))=false->(64<a_+1->R (.ret (.aF [aK 0,ai 7]) g3))/\(¬64<a_+1->∃z2:Int,aO g3 r 1=some (.int .i64 z2)/\(eC z2 (.ofNat (bZ+List.length x))=true->R (.ret (.aF [aK 0,ai 7]) g3))/\(eC z2 (.ofNat (bZ+List.length x))=false->∃cG g4,Y m (.fn 50) [aq r,.str s1,.str x] g3=.ret (aK cG) g4/\R (.ret (.aF [aK cG,ai 0]) g4))))))/\(¬aE=0->R (.ret (.aF [aK 0,ai aE]) g1))):
  R (Y (m+1) (.fn 34) [aq r,.str p,.str x] h):=
 fv [(1038,.f),(14,.aY (.dw [.st,.n .i64])),(12,.aY (.dw [.st,.n .i64])),(26,.aY .o),(30,.aY (.n .i64)),(36,.aY (.is (.int .i64 (.negSucc 0)))),(45,.aY (.jR (.aH 3))),(57,.aY (.z .i64)),(69,.aY (.z .i64)),(75,.aY (.n .u64))] [] Tryd.func34 H
theorem Vf(m r:Nat)(p x:List UInt8)(h:J)(H:∃s1 aE g1,Y m (.fn 48) [.str p] h=.ret (.aF [.str s1,ai aE]) g1/\(aE=0->(4096<List.length x->R (.ret (.aF [aK 0,ai 3]) g1))/\(¬4096<List.length x->∃v1,aO (g1.room 13) r 5=some v1/\∃a_,fO al (g1.room 13) 32 v1=some (ai a_)/\a_+1<9223372036854775808/\∃bZ g2,Y m (.fn 19) [aq r] (g1.room 13)=.ret (ai bZ) g2/\bZ+List.length x<9223372036854775808/\l9 v1/\aO g2 r 5=some v1/\∃cG g3,Y m (.fn 49) [aq r,.str s1] g2=.ret (ai cG) g3/\0<=cG/\(1<=a_+1/\a_+1<9223372036854775808)/\∃eg n6,aO g3 r 5=some (.slice eg 0 n6 (.aH 3))/\cG<n6/\∃s2,aO g3 eg (0+cG*3+1)=some (.str s2)/\(List.length s2<=bZ+List.length x/\bZ+List.length x<9223372036854775808)/\∃bS:Int,aO g3 r 0=some (.int .i64 bS)/\(eC bS (.ofNat (a_+1-1))=true->R (.ret (.aF [aK 0,ai 7]) g3))/\(eC bS (.ofNat (a_+1-1))=false->(64<a_+1-1->R (.ret (.aF [aK 0,ai 7]) g3))/\(¬64<a_+1-1->∃z2:Int,aO g3 r 1=some (.int .i64 z2)/\(eC z2 (.ofNat (bZ+List.length x-List.length s2))=true->R (.ret (.aF [aK 0,ai 7]) g3))/\(eC z2 (.ofNat (bZ+List.length x-List.length s2))=false->∃n7 g4,Y m (.fn 50) [aq r,.str s1,.str x] g3=.ret (aK n7) g4/\R (.ret (.aF [aK n7,ai 0]) g4))))))/\(¬aE=0->R (.ret (.aF [aK 0,ai aE]) g1))):
  R (Y (m+1) (.fn 34) [aq r,.str p,.str x] h):=
 fv [(1038,.t),(14,.aY (.dw [.st,.n .i64])),(12,.aY (.dw [.st,.n .i64])),(26,.aY .o),(30,.aY (.n .i64)),(36,.aY (.n .i64)),(45,.aY (.jR (.aH 3))),(57,.aY (.z .i64)),(69,.aY (.z .i64)),(75,.aY (.n .u64))] [] Tryd.func34 H
theorem Kb(r:Nat)(p:List UInt8)(h:J)(H:∃s1 aE g1,call (.fn 48) [.str p] (J.push h (ay [.str [],.str [],aK 0] 40))=.ret (.aF [.str s1,ai aE]) g1/\(aE=0->∃g2,call (.fn 49) [aq r,.str s1] g1=.ret (.int .i64 (.negSucc 0)) g2/\eC (.negSucc 0) (.ofNat 0)=true/\∃g3,aS.storeCells g2 h.n 0 [.str [],.str [],aK 0]=some g3/\Q .ret (aR [(4,aq h.n),(5,ai 5)] g3))/\(¬aE=0->∃g4,aS.storeCells g1 h.n 0 [.str [],.str [],aK 0]=some g4/\Q .ret (aR [(4,aq h.n),(5,ai aE)] g4))):
  bU al Tryd.f37 call [] (aR [(0,aq r),(1,.str p)] h) Q:=
 du [(1021,.t),(10,.aY (.dw [.st,.n .i64])),(8,.aY (.dw [.st,.n .i64])),(19,.aY (.is (.int .i64 (.negSucc 0)))),(26,.aY (.jR (.aH 3))),(29,.aY (.c6 [.st,.st,.n .u64]))] [4,5] [] H
theorem Vg(r:Nat)(p:List UInt8)(h:J)(H:∃s1 aE g1,call (.fn 48) [.str p] (J.push h (ay [.str [],.str [],aK 0] 40))=.ret (.aF [.str s1,ai aE]) g1/\(aE=0->∃a_ g2,call (.fn 49) [aq r,.str s1] g1=.ret (ai a_) g2/\¬a_<0/\∃bZ cG,aO g2 r 5=some (.slice bZ 0 cG (.aH 3))/\a_<cG/\∃s2 bz eg,aS.loadCells g2 bZ (0+a_*3) 3=some [.str s2,.str bz,aK eg]/\∃g3,aS.storeCells g2 h.n 0 [.str s2,.str bz,aK eg]=some g3/\Q .ret (aR [(4,aq h.n),(5,ai 0)] g3))/\(¬aE=0->∃g4,aS.storeCells g1 h.n 0 [.str [],.str [],aK 0]=some g4/\Q .ret (aR [(4,aq h.n),(5,ai aE)] g4))):
  bU al Tryd.f37 call [] (aR [(0,aq r),(1,.str p)] h) Q:=
 du [(1021,.f),(10,.aY (.dw [.st,.n .i64])),(8,.aY (.dw [.st,.n .i64])),(19,.aY (.n .i64)),(26,.aY (.jR (.aH 3))),(29,.aY (.c6 [.st,.st,.n .u64]))] [4,5] [] H
theorem Kc(m r:Nat)(p:List UInt8)(h:J)(H:∃s1 s2 aE a_ g1,Y m (.fn 37) [aq r,.str p] h=.ret (.aF [.agg [.str s1,.str s2,aK aE],ai a_]) g1/\∃g2,aS.storeCells (J.push g1 (ay [.str [],.str [],aK 0] 40)) g1.n 0 [.str s1,.str s2,aK aE]=some g2/\(a_=0->∃bz,aO g2 g1.n 0=some (.str bz)/\∃g3,Y m (.fn 51) [aq r,.str bz] g2=.ret (.aF []) g3/\R (.ret (ai 0) g3))/\(¬a_=0->R (.ret (ai a_) g2))):
  R (Y (m+1) (.fn 35) [aq r,.str p] h):=
 fv [(10,.aY (.dw [.c6 [.st,.st,.n .u64],.n .i64])),(7,.aY (.dw [.c6 [.st,.st,.n .u64],.n .i64]))] [] Tryd.func35 H
theorem z_(m r:Nat)(p q:List UInt8)(h:J)(H:∃s1 aE g1,Y m (.fn 48) [.str p] h=.ret (.aF [.str s1,ai aE]) g1/\(aE=0->∃s2 a_ g2,Y m (.fn 48) [.str q] g1=.ret (.aF [.str s2,ai a_]) g2/\(a_=0->∃bz bT bZ cG g3,Y m (.fn 37) [aq r,.str s1] g2=.ret (.aF [.agg [.str bz,.str bT,aK bZ],ai cG]) g3/\∃g4,aS.storeCells (J.push g3 (ay [.str [],.str [],aK 0] 40)) g3.n 0 [.str bz,.str bT,aK bZ]=some g4/\(cG=0->∃g5,Y m (.fn 49) [aq r,.str s2] g4=.ret (.int .i64 (.negSucc 0)) g5/\hp (.ofNat 0) (.negSucc 0)=false/\∃g6,Y m (.fn 51) [aq r,.str s1] g5=.ret (.aF []) g6/\∃b0,aO g6 g3.n 1=some (.str b0)/\∃eg g7,Y m (.fn 50) [aq r,.str s2,.str b0] g6=.ret (aK eg) g7/\R (.ret (.aF [aK eg,ai 0]) g7))/\(¬cG=0->R (.ret (.aF [aK 0,ai cG]) g4)))/\(¬a_=0->R (.ret (.aF [aK 0,ai a_]) g2)))/\(¬aE=0->R (.ret (.aF [aK 0,ai aE]) g1))):
  R (Y (m+1) (.fn 36) [aq r,.str p,.str q] h):=
 fv [(1038,.f),(12,.aY (.dw [.st,.n .i64])),(10,.aY (.dw [.st,.n .i64])),(20,.aY (.dw [.st,.n .i64])),(18,.aY (.dw [.st,.n .i64])),(29,.aY (.dw [.c6 [.st,.st,.n .u64],.n .i64])),(26,.aY (.dw [.c6 [.st,.st,.n .u64],.n .i64])),(37,.aY (.is (.int .i64 (.negSucc 0)))),(46,.aY (.n .u64))] [] Tryd.func36 H
theorem Vh(m r:Nat)(p q:List UInt8)(h:J)(H:∃s1 aE g1,Y m (.fn 48) [.str p] h=.ret (.aF [.str s1,ai aE]) g1/\(aE=0->∃s2 a_ g2,Y m (.fn 48) [.str q] g1=.ret (.aF [.str s2,ai a_]) g2/\(a_=0->∃bz bT bZ cG g3,Y m (.fn 37) [aq r,.str s1] g2=.ret (.aF [.agg [.str bz,.str bT,aK bZ],ai cG]) g3/\∃g4,aS.storeCells (J.push g3 (ay [.str [],.str [],aK 0] 40)) g3.n 0 [.str bz,.str bT,aK bZ]=some g4/\(cG=0->∃eg g5,Y m (.fn 49) [aq r,.str s2] g4=.ret (ai eg) g5/\0<=eg/\R (.ret (.aF [aK 0,ai 14]) g5))/\(¬cG=0->R (.ret (.aF [aK 0,ai cG]) g4)))/\(¬a_=0->R (.ret (.aF [aK 0,ai a_]) g2)))/\(¬aE=0->R (.ret (.aF [aK 0,ai aE]) g1))):
  R (Y (m+1) (.fn 36) [aq r,.str p,.str q] h):=
 fv [(1038,.t),(12,.aY (.dw [.st,.n .i64])),(10,.aY (.dw [.st,.n .i64])),(20,.aY (.dw [.st,.n .i64])),(18,.aY (.dw [.st,.n .i64])),(29,.aY (.dw [.c6 [.st,.st,.n .u64],.n .i64])),(26,.aY (.dw [.c6 [.st,.st,.n .u64],.n .i64])),(37,.aY (.n .i64)),(46,.aY (.n .u64))] [] Tryd.func36 H
theorem Vi(m r:Nat)(h:J)(H:∃bS:Int,∃z2:Int,∃z3:Int,∃aE a_,aS.loadCells h r 0 5=some [.int .i64 bS,.int .i64 z2,.int .i64 z3,aK aE,aK a_]/\I.ca (.int .i64 bS)=true/\I.ca (.int .i64 z2)=true/\I.ca (.int .i64 z3)=true/\I.ca (.int .i64 bS)=true/\I.ca (.int .i64 z2)=true/\I.ca (.int .i64 z3)=true/\aO (J.room (J.push h (ay [.int .i64 bS,.int .i64 z2,.int .i64 z3,aK aE,aK a_,.bn,.bn] 51)) 13) h.n 5=some .bn/\∃v1,aO (J.room (J.push h (ay [.int .i64 bS,.int .i64 z2,.int .i64 z3,aK aE,aK a_,.bn,.bn] 51)) 13) r 5=some v1/\∃v2 g1,en al (J.room (J.push h (ay [.int .i64 bS,.int .i64 z2,.int .i64 z3,aK aE,aK a_,.bn,.bn] 51)) 13) 32 (some 32) .bn v1=some (v2,g1)/\sy v2/\∃g2,aS.storeCells g1 h.n 5 [v2]=some g2/\l9 v1/\aO (g2.room 13) h.n 6=some .bn/\∃v3,aO (g2.room 13) r 6=some v3/\∃v4 g3,en al (g2.room 13) 49 (some 49) .bn v3=some (v4,g3)/\sy v4/\∃g4,aS.storeCells g3 h.n 6 [v4]=some g4/\l9 v3/\R (.ret (aq h.n) g4)):
  R (Y (m+1) (.fn 21) [aq r] h):=
 fv [(7,.aY (.c6 [.z .i64,.z .i64,.z .i64,.n .u64,.n .u64])),(14,.aY (.is .bn)),(18,.aY .o),(19,.aY .o),(26,.aY (.is .bn)),(30,.aY .o),(31,.aY .o)] [] Tryd.func21 H
theorem Vj(m:Nat)(a b:I)(h:J)(H:∃aE,fO al h 32 a=some (ai aE)/\∃a_,fO al h 32 b=some (ai a_)/\aE=a_/\bU al Tryd.f18 (Y m) [1,1,0,1,0] (aR [(0,a),(1,b),(5,ai 0)] h) (λey fK=>∃g1 dI,ey=.exit 0/\fK=aR dI g1/\eI [] dI/\R (.ret (.bool true) g1))):
  R (Y (m+1) (.fn 18) [a,b] h):=
 fv [(1010,.f),(4000,.hM [0,1,5] [(.exit 0,[])])] [0,1] Tryd.func18 H
theorem Vk(a b N M i:Nat)(h:J)(H:(i<N->i<N/\∃s1 s2 aE,aS.loadCells (h.room 9) a (0+i*3) 3=some [.str s1,.str s2,aK aE]/\i<M/\∃bz bT a_,aS.loadCells (h.room 9) b (0+i*3) 3=some [.str bz,.str bT,aK a_]/\ec al (h.room 9) .neq 40 (.tmp 20) (.tmp 24) (.agg [.str s1,.str s2,aK aE]) (.agg [.str bz,.str bT,aK a_])=some (.bool false)/\i+1<9223372036854775808/\Q .nrm (aR [(0,.slice a 0 N (.aH 3)),(1,.slice b 0 M (.aH 3)),(5,ai (i+1))] (h.room 9)))/\(¬i<N->Q (.exit 0) (aR [(0,.slice a 0 N (.aH 3)),(1,.slice b 0 M (.aH 3)),(5,ai i)] h))):
  bU al Tryd.f18 call [1,1,0,1,0,0] (aR [(0,.slice a 0 N (.aH 3)),(1,.slice b 0 M (.aH 3)),(5,ai i)] h) Q:=
 du [(20,.aY (.c6 [.st,.st,.n .u64])),(24,.aY (.c6 [.st,.st,.n .u64])),(25,.aY (.is (.bool false)))] [0,1,5] [] H
theorem Vl(a b:I)(i:Nat)(h:J)(H:∃aE,fO al h 32 a=some (ai aE)/\¬i<aE/\Q (.exit 0) (aR [(0,a),(1,b),(5,ai i)] h)):
  bU al Tryd.f18 call [1,1,0,1,0,0] (aR [(0,a),(1,b),(5,ai i)] h) Q:=
 du [(1014,.f)] [0,1,5] [0,1] H
theorem Vm(r:Nat)(p x:List UInt8)(h:J)(H:Q .nrm (aR [(0,aq r),(1,.str p),(2,.str x)] h)):
  bU al Tryd.f50 call [0] (aR [(0,aq r),(1,.str p),(2,.str x)] h) Q:=
 du [] [0,1,2] [] H
theorem Vn(r:Nat)(p x:List UInt8)(h:J)(H:Q .nrm (aR [(0,aq r),(1,.str p),(2,.str x),(7,.int .i64 (.negSucc 0))] h)):
  bU al Tryd.f50 call [1,0] (aR [(0,aq r),(1,.str p),(2,.str x)] h) Q:=
 du [] [0,1,2,7] [] H
theorem Vo(r:Nat)(p x:List UInt8)(h:J)(H:bU al Tryd.f50 call [1,1,0,1,0] (aR [(0,aq r),(1,.str p),(2,.str x),(7,.int .i64 (.negSucc 0)),(8,ai 0)] h) (λey fK=>∃v1 g1 dI,ey=.exit 0/\fK=aR dI g1/\eI [(0,aq r),(1,.str p),(2,.str x),(7,v1)] dI/\Q .nrm (aR [(0,aq r),(1,.str p),(2,.str x),(7,v1)] g1))):
  bU al Tryd.f50 call [1,1,0] (aR [(0,aq r),(1,.str p),(2,.str x),(7,.int .i64 (.negSucc 0))] h) Q:=
 du [(4000,.hM [0,1,2,7,8] [(.exit 0,[(0,.is (aq r)),(1,.is (.str p)),(2,.is (.str x)),(7,.o)])])] [0,1,2,7] [] H
theorem Vp(r:Nat)(p x:List UInt8)(h:J)(H:eC (.negSucc 0) (.ofNat 0)=true/\∃v1,aO h r 6=some v1/\∃aE,fO al h 49 v1=some (ai aE)/\∃v2,aO h r 6=some v2/\∃v3 g1,en al (J.push h (ay [.str p,aK 0] 99)) 49 (some 49) v2 (.slice h.n 0 1 (.exact 1))=some (v3,g1)/\sy v3/\∃g2,aS.storeCells g1 r 6 [v3]=some g2/\Q .nrm (aR [(0,aq r),(1,.str p),(2,.str x),(7,ai aE)] g2)):
  bU al Tryd.f50 call [1,1,1,0] (aR [(0,aq r),(1,.str p),(2,.str x),(7,.int .i64 (.negSucc 0))] h) Q:=
 du [(1034,.t),(38,.aY .o),(44,.aY .o),(48,.aY .o)] [0,1,2,7] [] H
theorem Vq(r i:Nat)(p x:List UInt8)(h:J)(H:¬i<0/\Q .nrm (aR [(0,aq r),(1,.str p),(2,.str x),(7,ai i)] h)):
  bU al Tryd.f50 call [1,1,1,0] (aR [(0,aq r),(1,.str p),(2,.str x),(7,ai i)] h) Q:=
 du [(1034,.f)] [0,1,2,7] [] H
theorem Vr(r i:Nat)(p x:List UInt8)(h:J)(H:∃aE a_,aO h r 6=some (.slice aE 0 a_ (.aH 2))/\i<a_/\∃bZ,aO h aE (0+i*2+1)=some (aK bZ)/\bZ+1<18446744073709551616/\i<a_/\∃g1,aS.storeCells h aE (0+i*2+1) [aK (bZ+1)]=some g1/\Q .nrm (aR [(0,aq r),(1,.str p),(2,.str x),(7,ai i)] g1)):
  bU al Tryd.f50 call [1,1,1,1,0] (aR [(0,aq r),(1,.str p),(2,.str x),(7,ai i)] h) Q:=
 du [(54,.aY (.jR (.aH 2))),(58,.aY (.n .u64))] [0,1,2,7] [] H
theorem Vs(r i:Nat)(p x:List UInt8)(h:J)(H:∃g1,call (.fn 51) [aq r,.str p] h=.ret (.aF []) g1/\Q .nrm (aR [(0,aq r),(1,.str p),(2,.str x),(7,ai i)] g1)):
  bU al Tryd.f50 call [1,1,1,1,1,0] (aR [(0,aq r),(1,.str p),(2,.str x),(7,ai i)] h) Q:=
 du [] [0,1,2,7] [] H
theorem Vt(r i:Nat)(p x:List UInt8)(h:J)(H:∃aE a_,aO h r 6=some (.slice aE 0 a_ (.aH 2))/\i<a_/\∃bZ,aO h aE (0+i*2+1)=some (aK bZ)/\∃g1,aS.storeCells (J.push h (ay [.str [],.str [],aK 0] 40)) h.n 0 [.str p,.str x,aK bZ]=some g1/\Q .nrm (aR [(0,aq r),(1,.str p),(9,aq h.n)] g1)):
  bU al Tryd.f50 call [1,1,1,1,1,1,0] (aR [(0,aq r),(1,.str p),(2,.str x),(7,ai i)] h) Q:=
 du [(70,.aY (.jR (.aH 2))),(74,.aY (.n .u64))] [0,1,9] [] H
theorem Vu(r b:Nat)(p:List UInt8)(h:J)(H:Q .nrm (aR [(0,aq r),(1,.str p),(9,aq b),(10,.bn)] h)):
  bU al Tryd.f50 call [1,1,1,1,1,1,1,0] (aR [(0,aq r),(1,.str p),(9,aq b)] h) Q:=
 du [] [0,1,9,10] [] H
theorem Vv(r b:Nat)(p:List UInt8)(h:J)(H:Q .nrm (aR [(0,aq r),(1,.str p),(9,aq b),(10,.bn),(11,.bool false)] h)):
  bU al Tryd.f50 call [1,1,1,1,1,1,1,1,0] (aR [(0,aq r),(1,.str p),(9,aq b),(10,.bn)] h) Q:=
 du [] [0,1,9,10,11] [] H
theorem Vw(r b:Nat)(p:List UInt8)(h:J)(H:bU al Tryd.f50 call [1,1,1,1,1,1,1,1,1,0,1,0] (aR [(0,aq r),(1,.str p),(9,aq b),(10,.bn),(11,.bool false),(12,ai 0)] h) (λey fK=>((∃v1 g1 dI,ey=.exit 2/\fK=aR dI g1/\eI [(0,aq r),(9,aq b),(10,v1),(11,.bool true)] dI/\Q .nrm (aR [(0,aq r),(9,aq b),(10,v1),(11,.bool true)] g1))\/(∃v2 g2 dQ,ey=.exit 2/\fK=aR dQ g2/\eI [(0,aq r),(9,aq b),(10,v2),(11,.bool false)] dQ/\Q .nrm (aR [(0,aq r),(9,aq b),(10,v2),(11,.bool false)] g2))))):
  bU al Tryd.f50 call [1,1,1,1,1,1,1,1,1,0] (aR [(0,aq r),(1,.str p),(9,aq b),(10,.bn),(11,.bool false)] h) Q:=
 du [(4002,.hM [0,1,9,10,11,12] [(.exit 2,[(0,.is (aq r)),(9,.is (aq b)),(10,.o),(11,.is (.bool true))]),(.exit 2,[(0,.is (aq r)),(9,.is (aq b)),(10,.o),(11,.is (.bool false))])])] [0,9,10,11] [] H
theorem Vx(r b:Nat)(v:I)(h:J)(H:true=true/\sy v/\∃g1,aS.storeCells h r 5 [v]=some g1/\∃aE,aO g1 b 2=some (aK aE)/\Q .ret (aR [(6,aK aE)] g1)):
  bU al Tryd.f50 call [1,1,1,1,1,1,1,1,1,1] (aR [(0,aq r),(9,aq b),(10,v),(11,.bool true)] h) Q:=
 du [(1114,.f),(116,.aY (.c6 [.st,.st,.n .u64])),(118,.aY .o),(124,.aY (.n .u64))] [6] [10] H
theorem Vy(r b:Nat)(v:I)(h:J)(H:false=false/\∃s1 s2 aE,aS.loadCells h b 0 3=some [.str s1,.str s2,aK aE]/\∃v1 g1,en al (J.push h (ay [.str s1,.str s2,aK aE] 40)) 32 (some 32) v (.slice h.n 0 1 (.exact 1))=some (v1,g1)/\sy v1/\∃g2,aS.storeCells g1 r 5 [v1]=some g2/\∃a_,aO g2 b 2=some (aK a_)/\Q .ret (aR [(6,aK a_)] g2)):
  bU al Tryd.f50 call [1,1,1,1,1,1,1,1,1,1] (aR [(0,aq r),(9,aq b),(10,v),(11,.bool false)] h) Q:=
 du [(1114,.t),(116,.aY (.c6 [.st,.st,.n .u64])),(118,.aY .o),(124,.aY (.n .u64))] [6] [10] H
abbrev mc(x:bf×Nat):List I:=[.str x.1,aK x.2]
theorem qA:pa al mc 2 99 49 where
 hu:=by kernel_rfl
 gn:=by kernel_rfl
 info:=by
  obtain⟨i,ag⟩:∃i,al.info? 99=some i:=Option.isSome_iff_exists.1 (by kernel_rfl)
  refine⟨i,ag,?_,?_⟩
  · have:(al.info? 99).map (·.size)=some 2:=by kernel_rfl
    rw[ag] at this;exact Option.some.inj this
  · have:(al.info? 99).map (λi=>Nat.ble i.bytes 1000)=some true:=by kernel_rfl
    rw[ag] at this
    exact Nat.le_of_ble_eq_true (Option.some.inj this)
 zero:=by
  obtain⟨z,aW⟩:∃z,ek al 99=some z:=Option.isSome_iff_exists.1 (by kernel_rfl)
  refine⟨z,aW,?_⟩
  have:(ek al 99).map (·.cells.length)=some 2:=by kernel_rfl
  rw[aW] at this;exact Option.some.inj this
 size:=by kernel_rfl
 len:=λ_=>rfl
 cell:=λ_=>rfl
 pos:=by decide
abbrev iv:=fU cW 3 40
abbrev s3:=fU mc 2 99
def lC(Q:cT)(dd dM:I):b8:=ay [.int .i64 Q.a,.int .i64 Q.b,.int .i64 Q.c,aK Q.d,aK Q.e,dd,dM] 51
structure jU(O:Nat->Prop)(h:J)(r:Nat)(dd dM:I)(Q:cT)(s:fp):Prop where
 st:h.get r=some (lC Q dd dM)
 et:iv 0 h dd s.ax
 fj:s3 0 h dM s.ts
 up:r<h.n/\O r
 of:∀b o n c,dd=.slice b o n c->O b
 pA:∀b o n c,dM=.slice b o n c->O b
def kS(O:Nat->Prop)(h:J)(r:Nat)(Q:cT)(s:fp):Prop:=∃dd dM,jU O h r dd dM Q s
structure eo(O:Nat->Prop)(h g:J):Prop where
 n:h.n<=g.n
 get:∀d,d<h.n->¬O d->g.get d=h.get d
def ei(O:Nat->Prop)(h g:J)(d:Nat):Prop:=O d\/(h.n<=d/\d<g.n)
theorem eo.ext{O:Nat->Prop}{h g:J}(x:Ext h.n h g):eo O h g:=⟨x.n,λd ak _=>x.get d ak⟩
theorem eo.trans{O:Nat->Prop}{h g k:J}(a:eo O h g)(b:eo (ei O h g) g k):eo O h k:=
 ⟨Nat.le_trans a.n b.n,λd ak hO=>(b.get d (Nat.lt_of_lt_of_le ak a.n) λaf=>by
  rcases af with af|af
  · exact hO af
  · omega).trans (a.get d ak hO)⟩
theorem jU.move{O j9:Nat->Prop}{h g:J}{r:Nat}{dd dM:I}{Q:cT}{s:fp}(w:jU O h r dd dM Q s)(aC:h.n<=g.n)(hk:∀d,d<h.n->O d->g.get d=h.get d)(hO:∀d,O d->j9 d):jU j9 g r dd dM Q s:=
 ⟨(hk r w.up.1 w.up.2).trans w.st,w.et.eM aC λp a8 ak=>hk p ak (w.of _ _ _ _ a8),w.fj.eM aC λp a8 ak=>hk p ak (w.pA _ _ _ _ a8),⟨by have:=w.up.1;omega,hO r w.up.2⟩,λb o n c e=>hO b (w.of b o n c e),λb o n c e=>hO b (w.pA b o n c e)⟩
theorem jU.ext{O:Nat->Prop}{h g:J}{r:Nat}{dd dM:I}{Q:cT}{s:fp}(w:jU O h r dd dM Q s)(x:Ext h.n h g):jU O g r dd dM Q s:=w.move x.n (λd ak _=>x.get d ak) λ_ h=>h
theorem iv.len{B:Nat}{h:J}{v:I}{ds:List bV}(o:iv B h v ds)(g:J):fO al g 32 v=some (ai ds.length):=by
 rcases o with⟨rfl,rfl⟩|⟨p,rfl,_⟩<;>rfl
theorem s3.len{B:Nat}{h:J}{v:I}{ds:List (bf×Nat)}(o:s3 B h v ds)(g:J):fO al g 49 v=some (ai ds.length):=by
 rcases o with⟨rfl,rfl⟩|⟨p,rfl,_⟩<;>rfl
theorem iv.row{B:Nat}{h:J}{v:I}{ds:List bV}(o:iv B h v ds):sZ h v ds:=by
 rcases o with o|⟨p,dO,ef,sC,mO,xp⟩
 · exact .inl o
 · exact .inr ⟨p,dO,xp,sC⟩
theorem Kd{h:J}{p i:Nat}{ds:List bV}(an:h.get p=some (.cells (cc cW ds) 40 .aH 0 0))(ag:i<ds.length):aO h p (0+i*3+1)=some (.str ds[i].x):=by
 refine ld1 an ?_
 rw[ks,cc,o9 (w:=3) (λ_=>rfl),if_pos (by omega),show(0+i*3+1)/3=i by omega,show(0+i*3+1) %3=1 by omega,List.getElem?_eq_getElem ag]
 rfl
theorem Vz{h:J}{p i:Nat}{ds:List (bf×Nat)}(an:h.get p=some (.cells (cc mc ds) 99 .aH 0 0))(ag:i<ds.length):aO h p (0+i*2+0)=some (.str ds[i].1):=by
 refine ld1 an ?_
 rw[ks,cc,o9 (w:=2) (λ_=>rfl),if_pos (by omega),show(0+i*2+0)/2=i by omega,show(0+i*2+0) %2=0 by omega,List.getElem?_eq_getElem ag]
 rfl
theorem Ke{h:J}{p i:Nat}{ds:List (bf×Nat)}(an:h.get p=some (.cells (cc mc ds) 99 .aH 0 0))(ag:i<ds.length):aO h p (0+i*2+1)=some (aK ds[i].2):=by
 refine ld1 an ?_
 rw[ks,cc,o9 (w:=2) (λ_=>rfl),if_pos (by omega),show(0+i*2+1)/2=i by omega,show(0+i*2+1) %2=1 by omega,List.getElem?_eq_getElem ag]
 rfl
theorem VA{l:List bV}{p:bf}{f:bV}(h:cM l p=some f):∃i,∃ag:i<l.length,l[i]=f/\∀j (aG:j<i),(l[j]'(by omega)).p≠p:=by
 unfold cM at h
 rw[List.find?_eq_some_iff_getElem] at h
 obtain⟨_,i,ag,e,aG⟩:=h
 exact⟨i,ag,e,λj pO ey=>by have:=aG j pO;simp[ey] at this⟩
theorem DO(m:Nat){O:Nat->Prop}{h:J}{r:Nat}{dd dM:I}{Q:cT}{s:fp}(w:jU O h r dd dM Q s)(ar:s.ax.length<=1000)(p:bf):
  (∃i,∃ag:i<s.ax.length,cM s.ax p=some s.ax[i]/\Y (m+1) (.fn 49) [.ptr r 0,.str p] h=.ret (ai i) h)\/
  (cM s.ax p=none/\Y (m+1) (.fn 49) [.ptr r 0,.str p] h=.ret (.int .i64 (Int.negSucc 0)) h):=by
 have kT:=w.et.len h
 have run:∀(n:Nat) (aC:n<=s.ax.length) (R:bM->Prop),(∀j (aG:j<n),(s.ax[j]'(by omega)).p≠p)->(∀kA:n<s.ax.length,s.ax[n].p=p->R (.ret (ai n) h))->(n<s.ax.length->s.ax[n]?.map (·.p)=some p)->(n=s.ax.length->R (.ret (.int .i64 (Int.negSucc 0)) h))->
   R (Y (m+1) (.fn 49) [.ptr r 0,.str p] h):=λn aC R h1 aa ao aI=>by
  refine U7 m r p h (R:=R) ?_
  refine mH (λk st=>∃i Γ,st=hi Γ h/\eI [(0,.ptr r 0),(1,.str p),(5,ai i)] Γ/\n-i=k/\i<=n) ?_ n _ (by omega) ⟨0,_,rfl,⟨rfl,rfl,rfl,trivial⟩,by omega,by omega⟩
  rintro k st ⟨i,Γ,rfl,fL,hk,ag⟩
  refine ij (U8 _ r i p h ⟨dd,ld1 w.st rfl,_,kT,λi1=>?_,λi1=>?_⟩) fL
  · rcases w.et with⟨_,e⟩|⟨b,rfl,bt,bA,eU,fe⟩
    · rw[e] at i1;cases i1
    · refine⟨b,_,ld1 w.st rfl,i1,_,DH bA i1,λe=>?_,λe=>?_⟩
      · rw[ha,beq_iff_eq] at e
        have dC:i=n:=by
         rcases Nat.lt_or_ge i n with bx|o3
         · exact absurd e (h1 i bx)
         · omega
        subst dC
        exact .inr ⟨i,h,_,rfl,rfl,⟨rfl,trivial⟩,aa i1 e⟩
      · rw[ha] at e
        have e:s.ax[i].p≠p:=by simpa using e
        have b9:i≠n:=λdC=>by
         subst dC
         have:=ao i1
         rw[List.getElem?_eq_getElem i1] at this
         exact e (by simpa using this)
        exact⟨by omega,_,(by show _<k;omega),i+1,_,rfl,⟨rfl,rfl,rfl,trivial⟩,rfl,by omega⟩
  · exact .inl ⟨h,_,rfl,rfl,trivial,aI (by omega)⟩
 cases an:cM s.ax p with
 |some f=>
  obtain⟨i,ag,rfl,aG⟩:=VA an
  have a8:=(lx an).2
  exact .inl ⟨i,ag,rfl,run i (by omega) (λx=>x=.ret (ai i) h) aG (λ_ _=>rfl) (λ_=>by rw[List.getElem?_eq_getElem ag];simp[a8]) λe=>absurd ag (by omega)⟩
 |none=>
  exact .inr ⟨rfl,run s.ax.length (Nat.le_refl _) (λx=>x=.ret (.int .i64 (Int.negSucc 0)) h) (λj aG=>qN an _ (List.getElem_mem aG)) (λaC _=>absurd aC (by omega)) (λaC=>absurd aC (by omega)) λ_=>rfl⟩
theorem Kf{l:List bV}{i:Nat}(ag:i<l.length):gj (l.take (i+1))=gj (l.take i)+l[i].x.length:=by
 unfold gj
 rw[List.take_succ_eq_append_getElem ag,List.map_append,List.sum_append]
 simp
theorem Kg{l:List bV}(i:Nat):gj (l.take i)<=gj l:=by
 have h:gj l=gj (l.take i)+gj (l.drop i):=by
  unfold gj
  rw[<-List.sum_append,<-List.map_append,List.take_append_drop]
 omega
theorem Kh(m:Nat){O:Nat->Prop}{h:J}{r:Nat}{dd dM:I}{Q:cT}{s:fp}(w:jU O h r dd dM Q s)(ar:s.ax.length<=1000)(ae:gj s.ax<=1000000):Y (m+1) (.fn 19) [.ptr r 0] h=.ret (ai (gj s.ax)) h:=by
 have kT:=w.et.len h
 refine U9 m r h (R:=λx=>x=.ret (ai (gj s.ax)) h) ?_
 refine mH (λk st=>∃i Γ,st=hi Γ h/\eI [(0,.ptr r 0),(3,ai (gj (s.ax.take i))),(4,ai i)] Γ/\s.ax.length-i=k/\i<=s.ax.length) ?_ s.ax.length _ (by omega) ⟨0,_,rfl,⟨rfl,rfl,rfl,trivial⟩,by omega,by omega⟩
 rintro k st ⟨i,Γ,rfl,fL,hk,ag⟩
 refine ij (U_ _ r _ i h ⟨dd,ld1 w.st rfl,_,kT,λi1=>?_,λi1=>?_⟩) fL
 · rcases w.et with⟨_,e⟩|⟨b,rfl,bt,bA,eU,fe⟩
   · rw[e] at i1;cases i1
   · have h1:=Kf i1
     have aa:=Kg (l:=s.ax) (i+1)
     exact⟨b,_,ld1 w.st rfl,i1,_,Kd bA i1,by omega,by omega,_,(by show _<k;omega),i+1,_,rfl,⟨rfl,by rw[h1];rfl,rfl,trivial⟩,rfl,by omega⟩
 · obtain rfl:i=s.ax.length:=by omega
   exact⟨_,h,_,rfl,rfl,⟨rfl,trivial⟩,by rw[List.take_length]⟩
theorem uJ{B:Nat}{h:J}{v:I}{ds:List bV}(o:iv B h v ds)(dX:B<=h.n)(f:bV)(ar:ds.length<=1000):∃v' g,en al (h.push (ay (cW f) 40)) 32 (some 32) v (.slice h.n 0 1 (.exact 1))=some (v',g)/\iv B g v' (ds++[f])/\Ext B h g:=by
 have Ki:Ext h.n h (h.push (ay (cW f) 40)):=Ext.push (Nat.le_refl _) _
 obtain⟨v',g,bO,a2,a3,a4,a5⟩:=Ha r8 (o.mono Ki (Nat.le_refl _)) (by show B<=h.n+1;omega) (Ci r8 h 40 f) (by simp;omega)
 exact⟨v',g,bO,a2,⟨by have:=a4;have:(h.push (ay (cW f) 40)).n=h.n+1:=rfl;omega,λd ak=>(a3.get d ak).trans (Ki.get d (by omega))⟩⟩
theorem VB{l:List bV}{i:Nat}(ag:i<l.length)(p:bf):dZ (l.take (i+1)) p=dZ (l.take i) p++(if l[i].p=p then[] else[l[i]]):=by
 unfold dZ
 rw[List.take_succ_eq_append_getElem ag,List.filter_append]
 by_cases h:l[i].p=p
 · rw[if_pos h,List.filter_cons_of_neg (by simp[h])];rfl
 · rw[if_neg h,List.filter_cons_of_pos (by simp[h])];rfl
theorem DP(l:List bV)(p:bf):(dZ l p).length<=l.length:=List.length_filter_le _ _
theorem DQ(m:Nat){O:Nat->Prop}{h:J}{r:Nat}{dd dM:I}{Q:cT}{s:fp}(w:jU O h r dd dM Q s)(ar:s.ax.length<=1000)(p:bf):∃g v,Y (m+1) (.fn 51) [.ptr r 0,.str p] h=.ret (.aF []) g/\jU (ei O h g) g r v dM Q ⟨dZ s.ax p,s.ts⟩/\eo O h g/\∀d,d<h.n->d≠r->g.get d=h.get d:=by
 have kT:=w.et.len
 refine Va m r p h (R:=λx=>∃g v,x=.ret (.aF []) g/\jU (ei O h g) g r v dM Q ⟨dZ s.ax p,s.ts⟩/\eo O h g/\∀d,d<h.n->d≠r->g.get d=h.get d) ?_
 refine mH (λk st=>∃i y v Γ,st=hi Γ y/\eI [(0,.ptr r 0),(1,.str p),(4,v),(5,ai i)] Γ/\s.ax.length-i=k/\i<=s.ax.length/\Ext h.n h y/\iv h.n y v (dZ (s.ax.take i) p)) ?_ s.ax.length _ (by omega) ⟨0,h,.bn,_,rfl,⟨rfl,rfl,rfl,rfl,trivial⟩,by omega,by omega,Ext.refl _ _,.inl ⟨rfl,rfl⟩⟩
 rintro k st ⟨i,y,v,Γ,rfl,fL,hk,ag,aP,aQ⟩
 have bW:=(aP.get r w.up.1).trans w.st
 have uK:=aP.n
 refine ij (Vb _ r i p v y ⟨dd,ld1 bW rfl,_,kT y,λi1=>?_,λi1=>?_⟩) fL
 · rcases w.et with⟨_,e⟩|⟨b,rfl,bt,bA,eU,fe⟩
   · rw[e] at i1;cases i1
   · have ae:=(aP.get b fe).trans bA
     have pr:=VB i1 p
     have dl:=DP (s.ax.take i) p
     rw[List.length_take] at dl
     refine⟨b,_,ld1 bW rfl,i1,_,DH ae i1,λe=>?_,λe=>?_⟩
     · obtain⟨v2,g,bO,a2,a3⟩:=uJ aQ uK s.ax[i] (by omega)
       have e:¬s.ax[i].p=p:=by rw[ha] at e;simpa using e
       rw[if_neg e] at pr
       exact⟨b,_,ld1 bW rfl,i1,s.ax[i].p,s.ax[i].x,s.ax[i].n,s0 ae i1,v2,g,bO,by omega,_,(by show _<k;omega),i+1,g,v2,_,rfl,⟨rfl,rfl,rfl,rfl,trivial⟩,rfl,by omega,aP.trans (Nat.le_refl _) a3,by rw[pr];exact a2⟩
     · have e:s.ax[i].p=p:=by rw[ha] at e;simpa using e
       rw[if_pos e,List.append_nil] at pr
       exact⟨by omega,_,(by show _<k;omega),i+1,y,v,_,rfl,⟨rfl,rfl,rfl,rfl,trivial⟩,rfl,by omega,aP,by rw[pr];exact aQ⟩
 · obtain rfl:i=s.ax.length:=by omega
   rw[List.take_length] at aQ
   obtain⟨g,gK⟩:∃g,g=y.set r (some (lC Q v dM)):=⟨_,rfl⟩
   have Kj:g.n=y.n:=by rw[gK];rfl
   have qU:I.ca v=true:=by rcases aQ with⟨rfl,_⟩|⟨b,rfl,_⟩<;>rfl
   have xq:∀d,d<h.n->d≠r->g.get d=h.get d:=λd ak b9=>by rw[gK];exact(c9 b9 rfl).trans (aP.get d ak)
   have pA:s3 0 g dM s.ts:=by rw[gK];exact(w.fj.mono aP (Nat.le_refl _)).r9 bW
   have of:iv 0 g v (dZ s.ax p):=by rw[gK];exact(aQ.le (Nat.zero_le _)).r9 bW
   refine⟨v,y,_,rfl,rfl,⟨rfl,rfl,trivial⟩,qU,g,by rw[gK];exact gI bW rfl (by simp only[putCells,qU]),g,v,rfl,⟨by rw[gK];exact e8 rfl,of,pA,⟨by have:=w.up.1;omega,.inl w.up.2⟩,λb o n c e=>?_,λb o n c e=>.inl (w.pA b o n c e)⟩,⟨by omega,λd ak hO=>xq d ak λe=>hO (by rw[e];exact w.up.2)⟩,xq⟩
   rcases aQ with⟨rfl,_⟩|⟨ku,rfl,_,_,ao,aI⟩
   · cases e
   · cases e;exact .inr ⟨ao,by omega⟩
theorem VC{h:J}{v:I}{ds:List (bf×Nat)}(o:s3 0 h v ds)(d:bf×Nat)(ar:ds.length<=1000):
  ∃g,en al (h.push (ay (mc d) 99)) 49 (some 49) v (.slice h.n 0 1 (.exact 1))=some (.slice (h.n+1) 0 (ds++[d]).length (.aH 2),g)/\g.n=h.n+2/\g.get (h.n+1)=some (.cells (cc mc (ds++[d])) 99 .aH 0 0)/\∀c,c<h.n->(∀n cp,v≠ .slice c 0 n cp)->g.get c=h.get c:=by
 have ad:=Ci qA h 99 d
 obtain⟨H,hH⟩:∃H,H=h.push (ay (mc d) 99):=⟨_,rfl⟩
 have uD:H.n=h.n+1:=by rw[hH];rfl
 have DR:∀c,c<h.n->H.get c=h.get c:=λc ab=>by rw[hH];exact ch ab rfl
 rw[<-hH] at ad⊢
 rw[<-uD]
 rcases o with⟨rfl,rfl⟩|⟨b,rfl,aa,ao,aI,bl⟩
 · exact⟨_,Ch qA ad (by simp) (by simp),by simp;omega,c8 rfl,λc ab _=>(ch (by omega) rfl).trans (DR c ab)⟩
 · have VD:=(DR b bl).trans ao
   refine⟨_,by rw[List.length_append];exact G_ qA VD ad (by simp) (by simp;omega),by simp;omega,c8 (by simp),λc ab aM=>?_⟩
   exact(ch (by simp;omega) (c9 (λe=>aM _ _ (by rw[e])) rfl)).trans (DR c ab)
theorem Kk:∀(ds:List (bf×Nat)) (i:Nat) (ag:i<ds.length) (n:Nat),(cc mc ds).set (i*2+1) (aK n)=cc mc (ds.set i (ds[i].1,n))
 |[],i,ag,n=>by cases ag
 |d::l,0,ag,n=>rfl
 |d::l,i+1,ag,n=>by
  have bc:=Kk l i (by simpa using ag) n
  rw[List.set_cons_succ,o_,o_,List.getElem_cons_succ]
  show(I.str d.1::aK d.2::cc mc l).set ((i+1)*2+1) _=_
  rw[show(i+1)*2+1=(i*2+1)+1+1 by omega,List.set_cons_succ,List.set_cons_succ,bc]
  rfl
theorem DS(x:I)(U:x.ca=true):∀(cs:List I) (i:Nat),i<cs.length->putCells i [x] cs=some (cs.set i x)
 |[],i,h=>by cases h
 |c::l,0,_=>by simp only[putCells,U,List.set_cons_zero]
 |c::l,i+1,h=>by
  have bc:=DS x U l i (by simpa using h)
  simp only[putCells,bc,List.set_cons_succ]
theorem VE{l:List (bf×Nat)}(aC:(l.map (·.1)).Nodup){i:Nat}(ag:i<l.length){p:bf}(a8:l[i].1=p)(n:Nat):e9 l p n=l.set i (p,n)/\cE l p=l[i].2:=by
 have Kl:∀a b (aJ:a<l.length) (ae:b<l.length),a<b->l[a].1≠l[b].1:=λa b aJ ae kx=>by
  have:=List.pairwise_iff_getElem.1 aC a b (by simpa using aJ) (by simpa using ae) kx
  simpa using this
 have b9:∀j (aG:j<l.length),l[j].1=p->j=i:=λj aG e=>by
  rcases Nat.lt_trichotomy j i with h|h|h
  · exact absurd (e.trans a8.symm) (Kl j i aG ag h)
  · exact h
  · exact absurd (a8.trans e.symm) (Kl i j ag aG h)
 constructor
 · have aJ:l.any (λf=>decide (f.1=p))=true:=List.any_eq_true.2 ⟨l[i],List.getElem_mem ag,by simp[a8]⟩
   unfold e9
   rw[if_pos aJ]
   apply List.ext_getElem (by simp)
   intro j h1 aa
   rw[List.getElem_map,List.getElem_set]
   have aG:j<l.length:=by simpa using h1
   by_cases e:i=j
   · subst e;rw[if_pos a8,if_pos rfl]
   · rw[if_neg (λey=>e (b9 j aG ey).symm),if_neg e]
 · unfold cE
   have:l.find? (λf=>decide (f.1=p))=some l[i]:=by
    rw[List.find?_eq_some_iff_getElem]
    refine⟨by simp[a8],i,ag,rfl,λj aG=>?_⟩
    have:¬l[j].1=p:=λe=>by have:=b9 j (by omega) e;omega
    simp[this]
   rw[this]
theorem VF{l:List (bf×Nat)}{p:bf}(aC:∀x∈l,x.1≠p)(n:Nat):e9 l p n=l++[(p,n)]/\cE l p=0:=by
 have aJ:¬l.any (λf=>decide (f.1=p))=true:=λh=>by
  obtain⟨x,U,e⟩:=List.any_eq_true.1 h
  exact aC x U (by simpa using e)
 constructor
 · unfold e9;rw[if_neg aJ]
 · unfold cE
   have:l.find? (λf=>decide (f.1=p))=none:=List.find?_eq_none.2 λx U=>by simpa using aC x U
   rw[this]
theorem VG(call:cJ){O:Nat->Prop}{h:J}{r:Nat}{dd dM:I}{Q:cT}{s:fp}(w:jU O h r dd dM Q s)(bk:s.ts.length<=1000)(p x:bf){R:aU->aB->Prop}
  (aC:(∀y∈s.ts,y.1≠p)->R .nrm (aR [(0,.ptr r 0),(1,.str p),(2,.str x),(7,.int .i64 (Int.negSucc 0))] h))(aP:∀j (aG:j<s.ts.length),s.ts[j].1=p->R .nrm (aR [(0,.ptr r 0),(1,.str p),(2,.str x),(7,ai j)] h)):
  bU al Tryd.f50 call [1,1,0] (aR [(0,.ptr r 0),(1,.str p),(2,.str x),(7,.int .i64 (Int.negSucc 0))] h) R:=by
 have lt:=w.fj.len h
 refine Vo call r p x h ?_
 refine mH (λk st=>∃i v Γ,st=hi Γ h/\eI [(0,.ptr r 0),(1,.str p),(2,.str x),(7,v),(8,ai i)] Γ/\s.ts.length-i=k/\i<=s.ts.length/\((v=.int .i64 (Int.negSucc 0)/\∀y∈s.ts.take i,y.1≠p)\/∃j,∃aG:j<s.ts.length,s.ts[j].1=p/\v=ai j)) ?_ s.ts.length _ (by omega) ⟨0,_,_,rfl,⟨rfl,rfl,rfl,rfl,rfl,trivial⟩,by omega,by omega,.inl ⟨rfl,λy aP=>by simp at aP⟩⟩
 rintro k st ⟨i,v,Γ,rfl,fL,hk,ag,aM⟩
 refine ij (Vc call r i p x v h ⟨dM,ld1 w.st rfl,_,lt,λi1=>?_,λi1=>?_⟩) fL
 · rcases w.fj with⟨_,e⟩|⟨b,rfl,bt,bA,eU,fe⟩
   · rw[e] at i1;cases i1
   · refine⟨b,_,ld1 w.st rfl,i1,_,Vz bA i1,λe=>?_,λe=>?_⟩
     · rw[ha,beq_iff_eq] at e
       exact⟨by omega,_,(by show _<k;omega),i+1,_,_,rfl,⟨rfl,rfl,rfl,rfl,rfl,trivial⟩,rfl,by omega,.inr ⟨i,i1,e,rfl⟩⟩
     · rw[ha] at e
       have e:s.ts[i].1≠p:=by simpa using e
       refine⟨by omega,_,(by show _<k;omega),i+1,v,_,rfl,⟨rfl,rfl,rfl,rfl,rfl,trivial⟩,rfl,by omega,aM.imp_left λaM=>⟨aM.1,λy aP=>?_⟩⟩
       rw[List.take_succ_eq_append_getElem i1,List.mem_append,List.mem_singleton] at aP
       rcases aP with aP|rfl
       · exact aM.2 y aP
       · exact e
 · refine⟨v,h,_,rfl,rfl,⟨rfl,rfl,rfl,rfl,trivial⟩,?_⟩
   rcases aM with⟨rfl,aM⟩|⟨j,aG,e,rfl⟩
   · exact aC (by rw[List.take_of_length_le (by omega)] at aM;exact aM)
   · exact aP j aG e
theorem VH(call:cJ){O:Nat->Prop}{h:J}{r b:Nat}{dd dM:I}{Q:cT}{s:fp}(w:jU O h r dd dM Q s)(ar:s.ax.length<=500)(f:bV)(ae:h.get b=some (ay (cW f) 40))(rh:b<h.n){R:aU->aB->Prop}
  (dJ:∀g v kU,Ext h.n h g->iv h.n g v (bif kU then gz f s.ax else s.ax)->(kU=true\/gz f s.ax=s.ax++[f])->R .nrm (aR [(0,.ptr r 0),(9,.ptr b 0),(10,v),(11,.bool kU)] g)):
  bU al Tryd.f50 call [1,1,1,1,1,1,1,1,1,0] (aR [(0,.ptr r 0),(1,.str f.p),(9,.ptr b 0),(10,.bn),(11,.bool false)] h) R:=by
 refine Vw call r b f.p h ?_
 refine mH (λk st=>∃i y v kU Γ,st=hi Γ y/\eI [(0,.ptr r 0),(1,.str f.p),(9,.ptr b 0),(10,v),(11,.bool kU),(12,ai i)] Γ/\s.ax.length-i=k/\i<=s.ax.length/\Ext h.n h y/\iv h.n y v (bif kU then gz f (s.ax.take i) else s.ax.take i)/\(kU=true->∃x∈s.ax.take i,c7 f.p x.p=true)/\(kU=false->∀x∈s.ax.take i,c7 f.p x.p=false)) ?_ s.ax.length _ (by omega) ⟨0,h,.bn,false,_,rfl,⟨rfl,rfl,rfl,rfl,rfl,rfl,trivial⟩,by omega,by omega,Ext.refl _ _,.inl ⟨rfl,rfl⟩,λe=>(by cases e),λ_ x U=>(by simp at U)⟩
 rintro k st ⟨i,y,v,kU,Γ,rfl,fL,hk,ag,aP,aQ,VI,jL⟩
 have uK:=aP.n
 have bW:=(aP.get r w.up.1).trans w.st
 have VJ:=(aP.get b rh).trans ae
 have kT:=w.et.len
 have out:¬i<s.ax.length->R .nrm (aR [(0,.ptr r 0),(9,.ptr b 0),(10,v),(11,.bool kU)] y):=λaC=>by
  have e:s.ax.take i=s.ax:=List.take_of_length_le (by omega)
  rw[e] at aQ jL
  refine dJ y v kU aP aQ ?_
  cases kU with
  |true=>exact .inl rfl
  |false=>
   right
   have:=DM (g:=f) (m:=[]) (jL rfl)
   rwa [List.append_nil] at this
 cases kU with
 |true=>
  refine ij (Vd call r i b f.p v y ⟨dd,ld1 bW rfl,_,kT y,λi1=>?_,λi1=>.inl ⟨v,y,_,rfl,rfl,⟨rfl,rfl,rfl,rfl,trivial⟩,out i1⟩⟩) fL
  rcases w.et with⟨_,e⟩|⟨oD,rfl,bt,bA,eU,fe⟩
  · rw[e] at i1;cases i1
  · have Aa:=(aP.get oD fe).trans bA
    have gq:iv h.n y v (gz f (s.ax.take i)):=aQ
    obtain⟨v2,g,bO,a2,a3⟩:=uJ gq uK s.ax[i] (by rw[J7,List.length_take];omega)
    have U:∃x∈s.ax.take i,c7 f.p x.p=true:=VI rfl
    refine⟨rfl,oD,_,ld1 bW rfl,i1,s.ax[i].p,s.ax[i].x,s.ax[i].n,s0 Aa i1,v2,g,bO,by omega,_,(by show _<k;omega),i+1,g,v2,true,_,rfl,⟨rfl,rfl,rfl,rfl,rfl,rfl,trivial⟩,rfl,by omega,aP.trans (Nat.le_refl _) a3,?_,λ_=>?_,λe=>(by cases e)⟩
    · show iv h.n g v2 (gz f (s.ax.take (i+1)))
      rw[List.take_succ_eq_append_getElem i1,J9 U];exact a2
    · obtain⟨x,h1,aa⟩:=U
      exact⟨x,by rw[List.take_succ_eq_append_getElem i1];exact List.mem_append_left _ h1,aa⟩
 |false=>
  refine ij (Ve call r i b f.p v y ⟨dd,ld1 bW rfl,_,kT y,λi1=>?_,λi1=>.inr ⟨v,y,_,rfl,rfl,⟨rfl,rfl,rfl,rfl,trivial⟩,out i1⟩⟩) fL
  rcases w.et with⟨_,e⟩|⟨oD,rfl,bt,bA,eU,fe⟩
  · rw[e] at i1;cases i1
  · have Aa:=(aP.get oD fe).trans bA
    have gq:iv h.n y v (s.ax.take i):=aQ
    have p1:=jL rfl
    refine⟨rfl,oD,_,ld1 bW rfl,i1,s.ax[i].p,DH Aa i1,λe=>?_,λe=>?_⟩
    · obtain⟨v2,g,bO,a2,a3⟩:=uJ gq uK f (by rw[List.length_take];omega)
      have oy:=Nat.le_trans uK a3.n
      obtain⟨v3,g2,ck,cn,fT⟩:=uJ a2 oy s.ax[i] (by rw[List.length_append,List.length_take];simp;omega)
      have DT:Ext h.n h g:=aP.trans (Nat.le_refl _) a3
      refine⟨f.p,f.x,f.n,ih VJ rfl,v2,g,bO,oD,_,ld1 ((DT.get r w.up.1).trans w.st) rfl,i1,s.ax[i].p,s.ax[i].x,s.ax[i].n,s0 ((DT.get oD fe).trans bA) i1,v3,g2,ck,by omega,_,(by show _<k;omega),i+1,g2,v3,true,_,rfl,⟨rfl,rfl,rfl,rfl,rfl,rfl,trivial⟩,rfl,by omega,DT.trans (Nat.le_refl _) fT,?_,λ_=>⟨s.ax[i],by rw[List.take_succ_eq_append_getElem i1];exact List.mem_append_right _ (List.mem_singleton.2 rfl),e⟩,λe=>(by cases e)⟩
      show iv h.n g2 v3 (gz f (s.ax.take (i+1)))
      rw[List.take_succ_eq_append_getElem i1,DM p1,gz,e]
      rw[List.append_assoc] at cn
      exact cn
    · obtain⟨v2,g,bO,a2,a3⟩:=uJ gq uK s.ax[i] (by rw[List.length_take];omega)
      refine⟨oD,_,ld1 bW rfl,i1,s.ax[i].p,s.ax[i].x,s.ax[i].n,s0 Aa i1,v2,g,bO,by omega,_,(by show _<k;omega),i+1,g,v2,false,_,rfl,⟨rfl,rfl,rfl,rfl,rfl,rfl,trivial⟩,rfl,by omega,aP.trans (Nat.le_refl _) a3,?_,λe=>(by cases e),λ_ x U=>?_⟩
      · show iv h.n g v2 (s.ax.take (i+1))
        rw[List.take_succ_eq_append_getElem i1];exact a2
      · rw[List.take_succ_eq_append_getElem i1,List.mem_append,List.mem_singleton] at U
        rcases U with U|rfl
        · exact p1 x U
        · exact e
theorem VK(n:Int)(h:J):hL al (bG Tryd.f50) Tryd.f50 [(6,.int .u64 n)] h=some (.int .u64 n):=by kernel_rfl
theorem Km(m:Nat)(x:I):jm .aH 0 0 m [x].length=true:=by unfold jm;simp
theorem Kn(m:Nat){O:Nat->Prop}{h:J}{r:Nat}{dd dM:I}{Q:cT}{s:fp}(w:jU O h r dd dM Q s)(uI:(s.ts.map (·.1)).Nodup)(ar:s.ax.length<=400)(bk:s.ts.length<=400)(p x:bf)(bF:cE s.ts p<=1000000):
  ∃g,Y (m+2) (.fn 50) [.ptr r 0,.str p,.str x] h=.ret (aK (cE s.ts p+1)) g/\kS (ei O h g) g r Q (mL p x s)/\eo O h g:=by
 obtain⟨n,aC⟩:∃n,n=cE s.ts p:=⟨_,rfl⟩
 rw[<-aC] at bF⊢
 obtain⟨Z,uL⟩:∃Z:aU->aB->Prop,Z=λe st=>∃g,e=.ret/\st=aR [(6,aK (n+1))] g/\kS (ei O h g) g r Q (mL p x s)/\eo O h g:=⟨_,rfl⟩
 refine tW (P:=al) (intr:=fl) (n:=m+1) (R:=λy=>∃g,y=.ret (aK (n+1)) g/\kS (ei O h g) g r Q (mL p x s)/\eo O h g) Tryd.func50 (by kernel_rfl) (by rfl) (by kernel_rfl) (Q:=Z) ?_ (λe st bj=>?_)
 rotate_left
 · rw[uL] at bj
   obtain⟨g,rfl,rfl,a,b⟩:=bj
   exact .inl ⟨.inl rfl,rfl,_,VK _ _,g,rfl,a,b⟩
 have te:r<h.n:=w.up.1
 have hOr:O r:=w.up.2
 have VL:(dZ s.ax p).length<=400:=Nat.le_trans (DP _ _) ar
 have rest:∀(dX:J) (v':I) (lY:List (bf×Nat)) (a:Nat) (aJ:a<lY.length),jU (ei O h dX) dX r dd v' Q ⟨s.ax,lY⟩->eo O h dX->lY[a]=(p,n)->lY.set a (p,n+1)=e9 s.ts p (n+1)->
   bU al Tryd.f50 (Y (m+1)) [1,1,1,1] (aR [(0,.ptr r 0),(1,.str p),(2,.str x),(7,ai a)] dX) Z:=by
  intro dX v' lY a aJ b5 bt av au
  have JC:=bt.n
  have Ko:=b5.fj
  rcases b5.fj with⟨_,e⟩|⟨fs,rfl,t1,t2,t3,t4⟩
  · have e:lY=[]:=e
    rw[e] at aJ;cases aJ
  have t2:dX.get fs=some (.cells (cc mc lY) 99 .aH 0 0):=t2
  obtain⟨lD,Ab⟩:∃l,l=lY.set a (p,n+1):=⟨_,rfl⟩
  have Kp:lD.length=lY.length:=by rw[Ab,List.length_set]
  obtain⟨oz,xr⟩:∃g,g=dX.set fs (some (.cells (cc mc lD) 99 .aH 0 0)):=⟨_,rfl⟩
  have X0:oz.n=dX.n:=by rw[xr];rfl
  have DU:∀d,d≠fs->oz.get d=dX.get d:=λd ak=>by rw[xr];exact c9 ak rfl
  have Kq:r≠fs:=λe=>Ko.ne b5.st (.inl (by simp)) _ _ (by rw[e])
  have st:aS.storeCells dX fs (0+a*2+1) [aK (n+1)]=some oz:=by
   rw[xr,Ab]
   have h1:=Kk lY a aJ (n+1)
   rw[av] at h1
   refine gI t2 (Km _ _) ?_
   rw[DS _ rfl _ _ (by rw[oh (w:=2) (λ_=>rfl)];omega),show 0+a*2+1=a*2+1 by omega,h1]
  have bQ:jU (ei O h dX) oz r dd (.slice fs 0 lD.length (.aH 2)) Q ⟨s.ax,lD⟩:=by
   refine⟨(DU r Kq).trans (by rw[Kp];exact b5.st),b5.et.eM (by omega) λq bj ak=>DU q λe=>?_,.inr ⟨fs,rfl,by rw[Kp];exact t1,by rw[xr];exact e8 rfl,Nat.zero_le _,by omega⟩,⟨by have:=b5.up.1;omega,b5.up.2⟩,b5.of,λb o mw c e=>b5.pA b 0 lY.length (.aH 2) (by cases e;rfl)⟩
   rcases b5.et with⟨k8,_⟩|⟨aX,k8,_,g3,_⟩
   · rw[k8] at bj;cases bj
   · rw[k8] at bj;cases bj
     exact Ko.ne g3 (.inr (by decide)) _ _ (by rw[e])
  obtain⟨oE,X1,gG,hX,fe,mO⟩:=DQ m bQ (by show s.ax.length<=1000;omega) p
  have X2:=fe.n
  have VM:oE.get fs=some (.cells (cc mc lD) 99 .aH 0 0):=(mO fs (by omega) (Ne.symm Kq)).trans (by rw[xr];exact e8 rfl)
  have Kr:a<lD.length:=by omega
  have VN:lD[a].2=n+1:=by simp[Ab]
  obtain⟨dc,VO,X3,DV,Ks⟩:=xm oE ⟨p,x,n+1⟩
  have jC:=hX.ext Ks
  have fin:∀(y:J) (v:I),Ext dc.n dc y->iv dc.n y v (gz ⟨p,x,n+1⟩ (dZ s.ax p))->∀g,g=y.set r (some (lC Q v (.slice fs 0 lD.length (.aH 2))))->kS (ei O h g) g r Q (mL p x s)/\eo O h g:=by
   intro y v oF uM g gK
   have Kt:=oF.n
   have Kj:g.n=y.n:=by rw[gK];rfl
   have Ac:=(oF.get r (by omega)).trans jC.st
   have dO:iv 0 g v (gz ⟨p,x,n+1⟩ (dZ s.ax p)):=by rw[gK];exact(uM.le (Nat.zero_le _)).r9 Ac
   have ef:s3 0 g (.slice fs 0 lD.length (.aH 2)) lD:=by rw[gK];exact(jC.fj.mono oF (Nat.le_refl _)).r9 Ac
   have Ku:mL p x s=⟨gz ⟨p,x,n+1⟩ (dZ s.ax p),lD⟩:=by
    unfold mL
    rw[<-aC,Ab,au]
   refine⟨⟨v,_,⟨by rw[gK];exact e8 rfl,by rw[Ku];exact dO,by rw[Ku];exact ef,⟨by omega,.inl hOr⟩,λb o mw c e=>?_,λb o mw c e=>?_⟩⟩,⟨by omega,λd ak hO=>?_⟩⟩
   · rcases uM with⟨aM,_⟩|⟨ku,aM,_,_,g3,g4⟩
     · rw[aM] at e;cases e
     · rw[aM] at e;cases e
       exact .inr ⟨by omega,by omega⟩
   · cases e
     rcases b5.pA fs _ _ _ rfl with af|af
     · exact .inl af
     · exact .inr ⟨af.1,by omega⟩
   · have d1:d≠r:=λe=>hO (by rw[e];exact hOr)
     have d2:d≠fs:=λe=>by
      rcases b5.pA fs _ _ _ rfl with af|af
      · exact hO (by rw[e];exact af)
      · omega
     rw[gK]
     exact(c9 d1 rfl).trans ((oF.get d (by omega)).trans ((Ks.get d (by omega)).trans ((mO d (by omega) d1).trans ((DU d d2).trans (bt.get d ak hO)))))
  refine fZ [1,1,1,1] (Vr _ r a p x dX ⟨fs,lY.length,ld1 b5.st rfl,aJ,n,(Ke t2 aJ).trans (by rw[av]),by omega,aJ,oz,st,?_⟩)
  refine fZ [1,1,1,1,1] (Vs _ r a p x oz ⟨oE,gG,?_⟩)
  refine fZ [1,1,1,1,1,1] (Vt _ r a p x oE ⟨fs,lD.length,ld1 hX.st rfl,Kr,n+1,(Ke VM Kr).trans (by rw[VN]),dc,VO,?_⟩)
  refine fZ [1,1,1,1,1,1,1] (Vu _ r oE.n p dc ?_)
  refine fZ [1,1,1,1,1,1,1,1] (Vv _ r oE.n p dc ?_)
  refine fZ [1,1,1,1,1,1,1,1,1] (VH _ jC (by show(dZ s.ax p).length<=500;omega) ⟨p,x,n+1⟩ DV (by omega) λy v kU oF uM aP=>?_)
  have Kt:=oF.n
  have Ac:=(oF.get r (by omega)).trans jC.st
  have e1:=(oF.get oE.n (by omega)).trans DV
  cases kU with
  |true=>
   have qU:I.ca v=true:=by rcases uM with⟨rfl,_⟩|⟨b,rfl,_⟩<;>rfl
   obtain⟨g,gK⟩:∃g,g=y.set r (some (lC Q v (.slice fs 0 lD.length (.aH 2)))):=⟨_,rfl⟩
   obtain⟨f1,f2⟩:=fin y v oF uM g gK
   exact Vx _ r oE.n v y ⟨rfl,qU,g,by rw[gK];exact gI Ac rfl (by simp only[putCells,qU]),n+1,by rw[gK];exact ld1 (c9 (by omega) e1) rfl,by rw[uL];exact⟨g,rfl,rfl,f1,f2⟩⟩
  |false=>
   have ag:gz ⟨p,x,n+1⟩ (dZ s.ax p)=dZ s.ax p++[⟨p,x,n+1⟩]:=aP.resolve_left (by simp)
   have VP:iv dc.n y v (dZ s.ax p):=uM
   obtain⟨v1,gH,bO,a2,a3⟩:=uJ VP Kt ⟨p,x,n+1⟩ (by omega)
   have X4:=a3.n
   rw[<-ag] at a2
   have DW:Ext dc.n dc gH:=oF.trans (Nat.le_refl _) a3
   have qU:I.ca v1=true:=by rcases a2 with⟨rfl,_⟩|⟨b,rfl,_⟩<;>rfl
   obtain⟨g,gK⟩:∃g,g=gH.set r (some (lC Q v1 (.slice fs 0 lD.length (.aH 2)))):=⟨_,rfl⟩
   obtain⟨f1,f2⟩:=fin gH v1 DW a2 g gK
   exact Vy _ r oE.n v y ⟨rfl,p,x,n+1,ih e1 rfl,v1,gH,bO,qU,g,by rw[gK];exact gI ((DW.get r (by omega)).trans jC.st) rfl (by simp only[putCells,qU]),n+1,by rw[gK];exact ld1 (c9 (by omega) ((DW.get oE.n (by omega)).trans DV)) rfl,by rw[uL];exact⟨g,rfl,rfl,f1,f2⟩⟩
 refine ij (fZ [] (Vm _ r p x h (fZ [1] (Vn _ r p x h ?_)))) ⟨rfl,rfl,rfl,trivial⟩
 refine fZ [1,1] (VG _ w (by omega) p x (λrN=>?_) λj aG e=>?_)
 · obtain⟨eF,fG⟩:=VF rN (n+1)
   have gx:n=0:=by rw[aC,fG]
   obtain⟨g1,bO,aE,ck,dO⟩:=VC w.fj (p,0) (by omega)
   have X5:(s.ts++[(p,0)]).length=s.ts.length+1:=by simp
   have VQ:=w.fj.ne w.st (.inl (by simp))
   have st1:=(dO r te VQ).trans w.st
   obtain⟨g2,gK⟩:∃g,g=g1.set r (some (lC Q dd (.slice (h.n+1) 0 (s.ts++[(p,0)]).length (.aH 2)))):=⟨_,rfl⟩
   have Kj:g2.n=g1.n:=by rw[gK];rfl
   have xq:∀d,d<h.n->d≠r->(∀mw cp,dM≠ .slice d 0 mw cp)->g2.get d=h.get d:=λd ak b9 aM=>by rw[gK];exact(c9 b9 rfl).trans (dO d ak aM)
   refine fZ [1,1,1] (Vp _ r p x h ⟨rfl,dM,ld1 w.st rfl,_,w.fj.len h,dM,ld1 w.st rfl,_,g1,bO,rfl,g2,by rw[gK];exact gI st1 rfl rfl,rest g2 _ (s.ts++[(p,0)]) s.ts.length (by omega) ⟨by rw[gK];exact e8 rfl,?_,.inr ⟨h.n+1,rfl,by show 0<(s.ts++[(p,0)]).length;omega,by rw[gK];exact c9 (by omega) ck,Nat.zero_le _,by omega⟩,⟨by omega,.inl hOr⟩,λb o mw c e=>.inl (w.of b o mw c e),λb o mw c e=>?_⟩ ⟨by omega,λd ak hO=>xq d ak (λe=>hO (by rw[e];exact hOr)) λmw cp e=>hO (w.pA _ _ _ _ e)⟩ ?_ ?_⟩)
   · refine w.et.eM (by omega) λq bj ak=>xq q ak ?_ ?_
     · exactλe=>w.et.ne w.st (.inl (by simp)) _ _ (by rw[<-e];exact bj)
     · intro mw cp
       rcases w.et with⟨k8,_⟩|⟨aX,k8,_,g3,_⟩
       · rw[k8] at bj;cases bj
       · rw[k8] at bj;cases bj
         exact w.fj.ne g3 (.inr (by decide)) mw cp
   · cases e;exact .inr ⟨by omega,by omega⟩
   · rw[gx];simp
   · rw[eF];simp
 · obtain⟨eF,fG⟩:=VE uI aG e (n+1)
   refine fZ [1,1,1] (Vq _ r j p x h ⟨by omega,rest h dM s.ts j aG (w.move (Nat.le_refl _) (λ_ _ _=>rfl) λd ak=>.inl ak) ⟨Nat.le_refl _,λ_ _ _=>rfl⟩ ?_ eF.symm⟩)
   rw[aC,fG,<-e]
end Go.Proofs.hD
