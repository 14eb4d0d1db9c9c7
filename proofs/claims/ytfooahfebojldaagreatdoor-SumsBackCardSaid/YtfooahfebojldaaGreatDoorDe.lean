/-
  PROVED HERE: contracts of functions (De). No condition beside each statement's own.
-/
import Derived.Test.YtfooahfebojldaaGreatDoorDc
import Derived.Test.YtfooahfebojldaaGreatDoorSxb
set_option linter.unusedVariables false
set_option linter.unusedSimpArgs false
namespace Go.Proofs.cf
open Go ay Go.Proofs cS
set_option maxRecDepth 100000
set_option maxHeartbeats 1000000
theorem WQ(call:aO->List J->aa->ax)(s o:List UInt8)(n:Nat)(h:aa)(cQ gF:List UInt8)(aX:aa)
  (H1:(!cw s [])=true)
  (a7:fE (.ofNat (List.length s)) (.ofNat n)=true)
  (b1:o5 .add [97,98,99,100,101,102,103,104,105,106,107,108,109,110,111,112,113,114,115,116,117,118,119,120,121,122,65,66,67,68,69,70,71,72,73,74,75,76,77,78,79,80,81,82,83,84,85,86,87,88,89,90,48,49,50,51,52,53,54,55,56,57,95] o=some (.str cQ))
  (b8:call (.fn 116) [.str s,.str cQ] h=ax.ret (.str gF) aX):
  aN Tryz.prog Tryz.f104 none call [] (ar.mk [(0,.str s),(1,.str o),(2,.int .i64 (.ofNat n))] [] .none h) (.ret)
   (ar.mk [(6,.bool (cw gF []))] [] .none aX):=
 bI [6] (hs:=[.b true,.b true,.b true,.b true,.b true,.b true,.b true,.b true,.v (.str cQ),.b true,.c (.str gF) aX,.b true,.b true]) (by kernel_rfl)<| .cons H1<| .cons H1<| .cons H1<| .cons H1<| .cons H1<| .cons a7<| .cons a7<| .cons a7<| .cons b1<| .cons a7<| .cons b8<| .cons a7<| .cons a7<| .nil
theorem WR(call:aO->List J->aa->ax)(s o:List UInt8)(n:Nat)(h:aa)
  (H1:(!cw s [])=true)
  (a7:fE (.ofNat (List.length s)) (.ofNat n)=false):
  aN Tryz.prog Tryz.f104 none call [] (ar.mk [(0,.str s),(1,.str o),(2,.int .i64 (.ofNat n))] [] .none h) (.ret)
   (ar.mk [(6,.bool false)] [] .none h):=
 bI [6] (hs:=[.b true,.b true,.b true,.b true,.b true,.b false,.b false,.b false,.b false,.b false,.b false]) (by kernel_rfl)<| .cons H1<| .cons H1<| .cons H1<| .cons H1<| .cons H1<| .cons a7<| .cons a7<| .cons a7<| .cons a7<| .cons a7<| .cons a7<| .nil
theorem WS(call:aO->List J->aa->ax)(s o:List UInt8)(n:Nat)(h:aa)
  (H1:(!cw s [])=false):
  aN Tryz.prog Tryz.f104 none call [] (ar.mk [(0,.str s),(1,.str o),(2,.int .i64 (.ofNat n))] [] .none h) (.ret)
   (ar.mk [(6,.bool false)] [] .none h):=
 bI [6] (hs:=[.b false,.b false,.b false,.b false,.b false,.b false,.b false,.b false,.b false,.b false,.b false]) (by kernel_rfl)<| .cons H1<| .cons H1<| .cons H1<| .cons H1<| .cons H1<| .cons (by kernel_rfl:false=false)<| .cons (by kernel_rfl:false=false)<| .cons (by kernel_rfl:false=false)<| .cons (by kernel_rfl:false=false)<| .cons (by kernel_rfl:false=false)<| .cons (by kernel_rfl:false=false)<| .nil
theorem WT(call:aO->List J->aa->ax)(s:List UInt8)(h:aa)(b6:Bool)(aX:aa)(cQ:List UInt8)(jL:Bool)(dg:aa)
  (H1:call (.fn 104) [.str s,.str [],.int .i64 (.ofNat 24)] h=ax.ret (.bool b6) aX)
  (a7:b6=true)
  (b1:dR Tryz.prog aX 9 (J.str s) none (some (J.int IntKind.i64 (Int.ofNat 1))) none=some (J.str cQ))
  (b8:call (.fn 118) [.str [48,49,50,51,52,53,54,55,56,57],.str cQ] aX=ax.ret (.bool jL) dg):
  aN Tryz.prog Tryz.f107 none call [] (ar.mk [(0,.str s)] [] .none h) (.ret)
   (ar.mk [(2,.bool !jL)] [] .none dg):=
 bI [2] (hs:=[.c (.bool b6) aX,.b true,.b true,.v (.str cQ),.b true,.c (.bool jL) dg,.b true,.b true]) (by kernel_rfl)<| .cons H1<| .cons a7<| .cons a7<| .cons b1<| .cons a7<| .cons b8<| .cons a7<| .cons a7<| .nil
theorem WU(call:aO->List J->aa->ax)(s:List UInt8)(h:aa)(b6:Bool)(aX:aa)
  (H1:call (.fn 104) [.str s,.str [],.int .i64 (.ofNat 24)] h=ax.ret (.bool b6) aX)
  (a7:b6=false):
  aN Tryz.prog Tryz.f107 none call [] (ar.mk [(0,.str s)] [] .none h) (.ret)
   (ar.mk [(2,.bool false)] [] .none aX):=
 bI [2] (hs:=[.c (.bool b6) aX,.b false,.b false,.b false,.b false,.b false]) (by kernel_rfl)<| .cons H1<| .cons a7<| .cons a7<| .cons a7<| .cons a7<| .cons a7<| .nil
theorem trim(call:aO->List J->aa->ax)(s o:List UInt8)(l:List J)(h aX:aa)(cQ:List UInt8)(dg:aa)(gF:List UInt8)(i_:aa)
  (H1:cw s []=false)
  (a7:cw o []=false)
  (b1:de (.ofNat (List.length o)) (.ofNat 1)=false)
  (b8:call (.fn 139) [.str o] h=ax.ret (.aD [.agg l,.bool true]) h)
  (dv:some 256=some (List.length l)/\ay.storeCells (aa.push h (b3.cells (List.replicate 256 (J.bool false)) 177 eZ.own 0 0)) (aa.n h) 0 l=some aX/\J.aD []=J.aD [])
  (fB:call (.fn 141) [.str s,.ptr (aa.n h) 0] aX=ax.ret (.str cQ) dg)
  (lG:call (.fn 140) [.str cQ,.ptr (aa.n h) 0] dg=ax.ret (.str gF) i_):
  aN Tryz.prog Tryz.f116 none call [] (ar.mk [(0,.str s),(1,.str o)] [] .none h) (.ret)
   (ar.mk [(4,.str gF)] [] .none i_):=
 bI [4] (hs:=[.b false,.b false,.b false,.b false,.b false,.b false,.b false,.b false,.b false,.c (.aD [.agg l,.bool true]) h,.fS (.aD []) aX,.b true,.c (.str cQ) dg,.c (.str gF) i_]) (by kernel_rfl)<| .cons H1<| .cons H1<| .cons H1<| .cons a7<| .cons b1<| .cons b1<| .cons b1<| .cons b1<| .cons (by kernel_rfl:false=false)<| .cons b8<| .cons dv<| .cons (by kernel_rfl:true=true)<| .cons fB<| .cons lG<| .nil
theorem WV(call:aO->List J->aa->ax)(s t:List UInt8)(a:Nat)(h:aa)
  (H1:aN Tryz.prog Tryz.f141 none call [1,0,0] (ar.mk [(4,.str []),(0,.str s),(1,.ptr a 0)] [] .none h) (.exit 0) (ar.mk [(0,.str t)] [] .none h)):
  aN Tryz.prog Tryz.f141 none call [] (ar.mk [(0,.str s),(1,.ptr a 0)] [] .none h) (.ret)
   (ar.mk [(4,.str t)] [] .none h):=
 bI [4] (hs:=[Hint.loop (bK.exit 0) (ar.mk [(0,J.str t)] [] bG.none h)]) (by kernel_rfl)<| .cons H1<| .nil
theorem WW(call:aO->List J->aa->ax)(s:List UInt8)(a:Nat)(h:aa)(bL cm:Nat)(b6:Bool)(aX:aa)
  (H1:dZ (.ofNat 0) (.ofNat (List.length s))=true)
  (a7:arith .sub .i64 (.ofNat (List.length s)) (.ofNat 1)=some (.int .i64 (.ofNat bL)))
  (b1:mE bL s=some (.int .u8 (.ofNat cm)))
  (b8:call (.fn 146) [.ptr a 0,.int .u8 (.ofNat cm)] h=ax.ret (.bool b6) aX)
  (dv:(!b6)=true):
  aN Tryz.prog Tryz.f141 none call [1,0,0,0] (ar.mk [(0,.str s),(1,.ptr a 0)] [] .none h) (.exit 0)
   (ar.mk [(0,.str s),(1,.ptr a 0)] [] .none aX):=
 bI [0,1] (hs:=[.o (.int .i64 (.ofNat (List.length s))),.b true,.o (.int .i64 (.ofNat (List.length s))),.v (.int .i64 (.ofNat bL)),.v (.int .u8 (.ofNat cm)),.c (.bool b6) aX,.b true]) (by kernel_rfl)<| .cons (by kernel_rfl:cO Tryz.prog h 9 (J.str s)=some (J.int IntKind.i64 (Int.ofNat (List.length s))))<| .cons H1<| .cons (by kernel_rfl:cO Tryz.prog h 9 (J.str s)=some (J.int IntKind.i64 (Int.ofNat (List.length s))))<| .cons a7<| .cons b1<| .cons b8<| .cons dv<| .nil
theorem WX(call:aO->List J->aa->ax)(s:List UInt8)(a:Nat)(h:aa)(bL cm:Nat)(b6:Bool)(aX:aa)(cQ:List UInt8)
  (H1:dZ (.ofNat 0) (.ofNat (List.length s))=true)
  (a7:arith .sub .i64 (.ofNat (List.length s)) (.ofNat 1)=some (.int .i64 (.ofNat bL)))
  (b1:mE bL s=some (.int .u8 (.ofNat cm)))
  (b8:call (.fn 146) [.ptr a 0,.int .u8 (.ofNat cm)] h=ax.ret (.bool b6) aX)
  (dv:(!b6)=false)
  (fB:dR Tryz.prog aX 9 (J.str s) none (some (J.int IntKind.i64 (Int.ofNat bL))) none=some (J.str cQ)):
  aN Tryz.prog Tryz.f141 none call [1,0,0,0] (ar.mk [(0,.str s),(1,.ptr a 0)] [] .none h) (.nrm)
   (ar.mk [(0,.str cQ),(1,.ptr a 0)] [] .none aX):=
 bI [0,1] (hs:=[.o (.int .i64 (.ofNat (List.length s))),.b true,.o (.int .i64 (.ofNat (List.length s))),.v (.int .i64 (.ofNat bL)),.v (.int .u8 (.ofNat cm)),.c (.bool b6) aX,.b false,.o (.int .i64 (.ofNat (List.length s))),.v (.int .i64 (.ofNat bL)),.v (.str cQ)]) (by kernel_rfl)<| .cons (by kernel_rfl:cO Tryz.prog h 9 (J.str s)=some (J.int IntKind.i64 (Int.ofNat (List.length s))))<| .cons H1<| .cons (by kernel_rfl:cO Tryz.prog h 9 (J.str s)=some (J.int IntKind.i64 (Int.ofNat (List.length s))))<| .cons a7<| .cons b1<| .cons b8<| .cons dv<| .cons (by kernel_rfl:cO Tryz.prog aX 9 (J.str s)=some (J.int IntKind.i64 (Int.ofNat (List.length s))))<| .cons a7<| .cons fB<| .nil
theorem WY(call:aO->List J->aa->ax)(s:List UInt8)(a:Nat)(h:aa)
  (H1:dZ (.ofNat 0) (.ofNat (List.length s))=false):
  aN Tryz.prog Tryz.f141 none call [1,0,0,0] (ar.mk [(0,.str s),(1,.ptr a 0)] [] .none h) (.exit 0)
   (ar.mk [(0,.str s),(1,.ptr a 0)] [] .none h):=
 bI [0,1] (hs:=[.o (.int .i64 (.ofNat (List.length s))),.b false]) (by kernel_rfl)<| .cons (by kernel_rfl:cO Tryz.prog h 9 (J.str s)=some (J.int IntKind.i64 (Int.ofNat (List.length s))))<| .cons H1<| .nil
theorem WZ(call:aO->List J->aa->ax)(s t:List UInt8)(a:Nat)(h:aa)
  (H1:aN Tryz.prog Tryz.f140 none call [1,0,0] (ar.mk [(4,.str []),(0,.str s),(1,.ptr a 0)] [] .none h) (.exit 0) (ar.mk [(0,.str t)] [] .none h)):
  aN Tryz.prog Tryz.f140 none call [] (ar.mk [(0,.str s),(1,.ptr a 0)] [] .none h) (.ret)
   (ar.mk [(4,.str t)] [] .none h):=
 bI [4] (hs:=[Hint.loop (bK.exit 0) (ar.mk [(0,J.str t)] [] bG.none h)]) (by kernel_rfl)<| .cons H1<| .nil
theorem W0(call:aO->List J->aa->ax)(s:List UInt8)(a:Nat)(h:aa)(bL:Nat)(b6:Bool)(aX:aa)
  (H1:dZ (.ofNat 0) (.ofNat (List.length s))=true)
  (a7:mE 0 s=some (.int .u8 (.ofNat bL)))
  (b1:call (.fn 146) [.ptr a 0,.int .u8 (.ofNat bL)] h=ax.ret (.bool b6) aX)
  (b8:(!b6)=true):
  aN Tryz.prog Tryz.f140 none call [1,0,0,0] (ar.mk [(0,.str s),(1,.ptr a 0)] [] .none h) (.exit 0)
   (ar.mk [(0,.str s),(1,.ptr a 0)] [] .none aX):=
 bI [0,1] (hs:=[.o (.int .i64 (.ofNat (List.length s))),.b true,.v (.int .u8 (.ofNat bL)),.c (.bool b6) aX,.b true]) (by kernel_rfl)<| .cons (by kernel_rfl:cO Tryz.prog h 9 (J.str s)=some (J.int IntKind.i64 (Int.ofNat (List.length s))))<| .cons H1<| .cons a7<| .cons b1<| .cons b8<| .nil
theorem W1(call:aO->List J->aa->ax)(s:List UInt8)(a:Nat)(h:aa)(bL:Nat)(b6:Bool)(aX:aa)(cQ:List UInt8)
  (H1:dZ (.ofNat 0) (.ofNat (List.length s))=true)
  (a7:mE 0 s=some (.int .u8 (.ofNat bL)))
  (b1:call (.fn 146) [.ptr a 0,.int .u8 (.ofNat bL)] h=ax.ret (.bool b6) aX)
  (b8:(!b6)=false)
  (dv:dR Tryz.prog aX 9 (J.str s) (some (J.int IntKind.i64 (Int.ofNat 1))) none none=some (J.str cQ)):
  aN Tryz.prog Tryz.f140 none call [1,0,0,0] (ar.mk [(0,.str s),(1,.ptr a 0)] [] .none h) (.nrm)
   (ar.mk [(0,.str cQ),(1,.ptr a 0)] [] .none aX):=
 bI [0,1] (hs:=[.o (.int .i64 (.ofNat (List.length s))),.b true,.v (.int .u8 (.ofNat bL)),.c (.bool b6) aX,.b false,.v (.str cQ)]) (by kernel_rfl)<| .cons (by kernel_rfl:cO Tryz.prog h 9 (J.str s)=some (J.int IntKind.i64 (Int.ofNat (List.length s))))<| .cons H1<| .cons a7<| .cons b1<| .cons b8<| .cons dv<| .nil
theorem W2(call:aO->List J->aa->ax)(s:List UInt8)(a:Nat)(h:aa)
  (H1:dZ (.ofNat 0) (.ofNat (List.length s))=false):
  aN Tryz.prog Tryz.f140 none call [1,0,0,0] (ar.mk [(0,.str s),(1,.ptr a 0)] [] .none h) (.exit 0)
   (ar.mk [(0,.str s),(1,.ptr a 0)] [] .none h):=
 bI [0,1] (hs:=[.o (.int .i64 (.ofNat (List.length s))),.b false]) (by kernel_rfl)<| .cons (by kernel_rfl:cO Tryz.prog h 9 (J.str s)=some (J.int IntKind.i64 (Int.ofNat (List.length s))))<| .cons H1<| .nil
theorem W3(call:aO->List J->aa->ax)(a n:Nat)(h:aa)(b6:Bool)
  (H1:Nat.le (Nat.succ n) 256)
  (a7:aA h a (0+n*1)=some (.bool b6)):
  aN Tryz.prog Tryz.f146 none call [] (ar.mk [(0,.ptr a 0),(1,.int .u8 (.ofNat n))] [] .none h) (.ret)
   (ar.mk [(4,.bool b6)] [] .none h):=
 bI [4] (hs:=[.v (.ptr a (0+n*1)),.v (.bool b6)]) (by kernel_rfl)<| .cons (⟨H1,rfl⟩:Nat.le (Nat.succ n) 256/\J.ptr a (0+n*1)=J.ptr a (0+n*1))<| .cons a7<| .nil
theorem W4(call:aO->List J->aa->ax)(s o:List UInt8)(i:Int)(h g:aa)
  (H1:call (.fn 144) [.str s,.str o] h=ax.ret (.int .i64 i) g):
  aN Tryz.prog Tryz.f118 none call [] (ar.mk [(0,.str s),(1,.str o)] [] .none h) (.ret)
   (ar.mk [(4,.bool (fE (.ofNat 0) i))] [] .none g):=
 bI [4] (hs:=[.c (.int .i64 i) g]) (by kernel_rfl)<| .cons H1<| .nil
theorem W5(call:aO->List J->aa->ax)(s o:List UInt8)(i:Int)(h g:aa)
  (H1:call (.fn 150) [.str s,.str o] h=ax.ret (.int .i64 i) g):
  aN Tryz.prog Tryz.f144 none call [] (ar.mk [(0,.str s),(1,.str o)] [] .none h) (.ret)
   (ar.mk [(4,.int .i64 i)] [] .none g):=
 bI [4] (hs:=[.c (.int .i64 i) g]) (by kernel_rfl)<| .cons H1<| .nil
theorem W6(call:aO->List J->aa->ax)(s:List UInt8)(c:UInt8)(i:Int)(h g:aa)
  (H1:cw [c] s=false)
  (a7:mE 0 [c]=some (.int .u8 (.ofNat (BitVec.toFin (UInt8.toBitVec c)).1)))
  (b1:call (.fn 155) [.str s,.int .u8 (.ofNat (BitVec.toFin (UInt8.toBitVec c)).1)] h=ax.ret (.int .i64 i) g):
  aN Tryz.prog Tryz.f150 none call [] (ar.mk [(0,.str s),(1,.str [c])] [] .none h) (.ret)
   (ar.mk [(4,.int .i64 i)] [] .none g):=
 bI [4] (hs:=[.b false,.b false,.b false,.b false,.b false,.b true,.v (.int .u8 (.ofNat (UInt8.toNat c))),.c (.int .i64 i) g]) (by kernel_rfl)<| .cons (by kernel_rfl:de (Int.ofNat 1) (Int.ofNat 0)=false)<| .cons (by kernel_rfl:de (Int.ofNat 1) (Int.ofNat 0)=false)<| .cons (by kernel_rfl:de (Int.ofNat 1) (Int.ofNat 0)=false)<| .cons (by kernel_rfl:de (Int.ofNat 1) (Int.ofNat 0)=false)<| .cons H1<| .cons (by kernel_rfl:de (Int.ofNat 1) (Int.ofNat 1)=true)<| .cons a7<| .cons b1<| .nil
theorem W7(call:aO->List J->aa->ax)(s:List UInt8)(n:Nat)(i:Int)(h g:aa)
  (H1:call (.fn 161) [.str s,.int .u8 (.ofNat n)] h=ax.ret (.int .i64 i) g):
  aN Tryz.prog Tryz.f155 none call [] (ar.mk [(0,.str s),(1,.int .u8 (.ofNat n))] [] .none h) (.ret)
   (ar.mk [(4,.int .i64 i)] [] .none g):=
 bI [4] (hs:=[.c (.int .i64 i) g]) (by kernel_rfl)<| .cons H1<| .nil
theorem W8(m:Nat)(s:List UInt8)(o:List UInt8)(n:Nat)(h:aa){R:ax->Prop}(H:
  ((!cw s [])=true->
    ((List.length s)<=n->
      List.length [97,98,99,100,101,102,103,104,105,106,107,108,109,110,111,112,113,114,115,116,117,118,119,120,121,122,65,66,67,68,69,70,71,72,73,74,75,76,77,78,79,80,81,82,83,84,85,86,87,88,89,90,48,49,50,51,52,53,54,55,56,57,95]+List.length o<=1000000000000/\
      ∃(gF:List UInt8) (aX:aa),(Y m) (aO.fn 116) [J.str s,J.str ([97,98,99,100,101,102,103,104,105,106,107,108,109,110,111,112,113,114,115,116,117,118,119,120,121,122,65,66,67,68,69,70,71,72,73,74,75,76,77,78,79,80,81,82,83,84,85,86,87,88,89,90,48,49,50,51,52,53,54,55,56,57,95]++o)] h=ax.ret (J.str gF) aX/\
      R (ax.ret (J.bool (cw gF [])) aX))/\
    (¬(List.length s)<=n->
     R (ax.ret (J.bool false) h)))/\
  ((!cw s [])=false->
    R (ax.ret (J.bool false) h))):
  R (Y (m+1) (.fn 104) [J.str s,J.str o,J.int IntKind.i64 (Int.ofNat n)] h):=by
 rcases Bool.eq_false_or_eq_true ((!cw s [])) with ab|ab
 · have H:=H.1 ab
   by_cases ae:(List.length s)<=n
   · have H:=H.1 ae
     obtain⟨av,H⟩:=H
     obtain⟨gF,aX,aK,H⟩:=H
     rw[show Y (m+1) (.fn 104) [J.str s,J.str o,J.int IntKind.i64 (Int.ofNat n)] h=_ from eg (intr:=b7) (n:=m) (args:=[J.str s,J.str o,J.int IntKind.i64 (Int.ofNat n)]) Tryz.func104 (by kernel_rfl) (by kernel_rfl) (by kernel_rfl) (WQ (Y m) s o n h ([97,98,99,100,101,102,103,104,105,106,107,108,109,110,111,112,113,114,115,116,117,118,119,120,121,122,65,66,67,68,69,70,71,72,73,74,75,76,77,78,79,80,81,82,83,84,85,86,87,88,89,90,48,49,50,51,52,53,54,55,56,57,95]++o) gF aX ab (nC ae) (yF av) aK) (.inl rfl) (by kernel_rfl)];exact H
   · have H:=H.2 ae
     rw[show Y (m+1) (.fn 104) [J.str s,J.str o,J.int IntKind.i64 (Int.ofNat n)] h=_ from eg (intr:=b7) (n:=m) (args:=[J.str s,J.str o,J.int IntKind.i64 (Int.ofNat n)]) Tryz.func104 (by kernel_rfl) (by kernel_rfl) (by kernel_rfl) (WR (Y m) s o n h ab (tU ae)) (.inl rfl) (by kernel_rfl)];exact H
 · have H:=H.2 ab
   rw[show Y (m+1) (.fn 104) [J.str s,J.str o,J.int IntKind.i64 (Int.ofNat n)] h=_ from eg (intr:=b7) (n:=m) (args:=[J.str s,J.str o,J.int IntKind.i64 (Int.ofNat n)]) Tryz.func104 (by kernel_rfl) (by kernel_rfl) (by kernel_rfl) (WS (Y m) s o n h ab) (.inl rfl) (by kernel_rfl)];exact H
theorem W9(m:Nat)(s:List UInt8)(h:aa){R:ax->Prop}(H:
  ∃(b6:Bool) (aX:aa),(Y m) (aO.fn 104) [J.str s,J.str [],J.int IntKind.i64 (Int.ofNat 24)] h=ax.ret (J.bool b6) aX/\
  (b6=true->
   ∃(cQ:List UInt8),dR Tryz.prog aX 9 (J.str s) none (some (J.int IntKind.i64 (Int.ofNat 1))) none=some (J.str cQ)/\
   ∃(jL:Bool) (dg:aa),(Y m) (aO.fn 118) [J.str [48,49,50,51,52,53,54,55,56,57],J.str cQ] aX=ax.ret (J.bool jL) dg/\
   R (ax.ret (J.bool !jL) dg))/\
  (b6=false->
   R (ax.ret (J.bool false) aX))):
  R (Y (m+1) (.fn 107) [J.str s] h):=by
 obtain⟨b6,aX,ab,H⟩:=H
 rcases Bool.eq_false_or_eq_true (b6) with ae|ae
 · have H:=H.1 ae
   obtain⟨cQ,av,H⟩:=H
   obtain⟨jL,dg,aK,H⟩:=H
   rw[show Y (m+1) (.fn 107) [J.str s] h=_ from eg (intr:=b7) (n:=m) (args:=[J.str s]) Tryz.func107 (by kernel_rfl) (by kernel_rfl) (by kernel_rfl) (WT (Y m) s h b6 aX cQ jL dg ab ae av aK) (.inl rfl) (by kernel_rfl)];exact H
 · have H:=H.2 ae
   rw[show Y (m+1) (.fn 107) [J.str s] h=_ from eg (intr:=b7) (n:=m) (args:=[J.str s]) Tryz.func107 (by kernel_rfl) (by kernel_rfl) (by kernel_rfl) (WU (Y m) s h b6 aX ab ae) (.inl rfl) (by kernel_rfl)];exact H
theorem W_(m:Nat)(s:List UInt8)(o:List UInt8)(h:aa){R:ax->Prop}(H:
  cw s []=false/\
  cw o []=false/\
  ¬(List.length o)=1/\
  ∃(l:List J),(Y m) (aO.fn 139) [J.str o] h=ax.ret (J.aD [J.agg l,J.bool true]) h/\
  ∃(aX:aa),(some 256=some (List.length l)/\ay.storeCells (aa.push h (b3.cells (List.replicate 256 (J.bool false)) 177 eZ.own 0 0)) (aa.n h) 0 l=some aX/\J.aD []=J.aD [])/\
  ∃(cQ:List UInt8) (dg:aa),(Y m) (aO.fn 141) [J.str s,J.ptr (aa.n h) 0] aX=ax.ret (J.str cQ) dg/\
  ∃(gF:List UInt8) (i_:aa),(Y m) (aO.fn 140) [J.str cQ,J.ptr (aa.n h) 0] dg=ax.ret (J.str gF) i_/\
  R (ax.ret (J.str gF) i_)):
  R (Y (m+1) (.fn 116) [J.str s,J.str o] h):=by
 obtain⟨ab,H⟩:=H
 obtain⟨ae,H⟩:=H
 obtain⟨av,H⟩:=H
 obtain⟨l,aK,H⟩:=H
 obtain⟨aX,bU,H⟩:=H
 obtain⟨cQ,dg,cB,H⟩:=H
 obtain⟨gF,i_,eo,H⟩:=H
 rw[show Y (m+1) (.fn 116) [J.str s,J.str o] h=_ from eg (intr:=b7) (n:=m) (args:=[J.str s,J.str o]) Tryz.func116 (by kernel_rfl) (by kernel_rfl) (by kernel_rfl) (trim (Y m) s o l h aX cQ dg gF i_ ab ae (v5 av) aK bU cB eo) (.inl rfl) (by kernel_rfl)];exact H
theorem Xa(m:Nat)(s:List UInt8)(a:Nat)(h:aa){R:ax->Prop}(H:
  bB Tryz.prog Tryz.f141 (Y m) [1,0,0] (ar.mk [(4,J.str []),(0,J.str s),(1,J.ptr a 0)] [] bG.none h) (λc6 c0=>
   (∃(t:List UInt8) (cA:Env),c6=(bK.exit 0)/\c0=(ar.mk cA [] bG.none h)/\cZ [(0,J.str t)] cA/\
    R (ax.ret (J.str t) h)))):
  R (Y (m+1) (.fn 141) [J.str s,J.ptr a 0] h):=by
 obtain⟨c6,c0,ab,H⟩:=H
 obtain⟨t,cA,rfl,rfl,dk,H⟩:=H
 replace ab:=c9.post ab dk
 rw[show Y (m+1) (.fn 141) [J.str s,J.ptr a 0] h=_ from eg (intr:=b7) (n:=m) (args:=[J.str s,J.ptr a 0]) Tryz.func141 (by kernel_rfl) (by kernel_rfl) (by kernel_rfl) (WV (Y m) s t a h ab) (.inl rfl) (by kernel_rfl)];exact H
theorem Xb(call:aO->List J->aa->ax)(s:List UInt8)(a:Nat)(h:aa){Q:bK->ar->Prop}(H:
  (0<(List.length s)->
   (1<=(List.length s)/\(List.length s)<9223372036854775808)/\
   ∃(cm:Nat),mE ((List.length s)-1) s=some (J.int IntKind.u8 (Int.ofNat cm))/\
   ∃(b6:Bool) (aX:aa),call (aO.fn 146) [J.ptr a 0,J.int IntKind.u8 (Int.ofNat cm)] h=ax.ret (J.bool b6) aX/\
   ((!b6)=true->
     Q (bK.exit 0) (ar.mk [(0,J.str s),(1,J.ptr a 0)] [] bG.none aX))/\
   ((!b6)=false->
     ∃(cQ:List UInt8),dR Tryz.prog aX 9 (J.str s) none (some (J.int IntKind.i64 (Int.ofNat ((List.length s)-1)))) none=some (J.str cQ)/\
     Q (bK.nrm) (ar.mk [(0,J.str cQ),(1,J.ptr a 0)] [] bG.none aX)))/\
  (¬0<(List.length s)->
   Q (bK.exit 0) (ar.mk [(0,J.str s),(1,J.ptr a 0)] [] bG.none h))):
  bB Tryz.prog Tryz.f141 call [1,0,0,0] (ar.mk [(0,J.str s),(1,J.ptr a 0)] [] bG.none h) Q:=by
 by_cases ab:0<(List.length s)
 · have H:=H.1 ab
   obtain⟨ae,H⟩:=H
   obtain⟨cm,av,H⟩:=H
   obtain⟨b6,aX,aK,H⟩:=H
   rcases Bool.eq_false_or_eq_true ((!b6)) with bU|bU
   · have H:=H.1 bU
     exact bB.of (WW call s a h ((List.length s)-1) cm b6 aX (kj ab) (r9 ae.1 ae.2) av aK bU) H
   · have H:=H.2 bU
     obtain⟨cQ,cB,H⟩:=H
     exact bB.of (WX call s a h ((List.length s)-1) cm b6 aX cQ (kj ab) (r9 ae.1 ae.2) av aK bU cB) H
 · have H:=H.2 ab
   exact bB.of (WY call s a h (mH ab)) H
theorem Xc(m:Nat)(s:List UInt8)(a:Nat)(h:aa){R:ax->Prop}(H:
  bB Tryz.prog Tryz.f140 (Y m) [1,0,0] (ar.mk [(4,J.str []),(0,J.str s),(1,J.ptr a 0)] [] bG.none h) (λc6 c0=>
   (∃(t:List UInt8) (cA:Env),c6=(bK.exit 0)/\c0=(ar.mk cA [] bG.none h)/\cZ [(0,J.str t)] cA/\
    R (ax.ret (J.str t) h)))):
  R (Y (m+1) (.fn 140) [J.str s,J.ptr a 0] h):=by
 obtain⟨c6,c0,ab,H⟩:=H
 obtain⟨t,cA,rfl,rfl,dk,H⟩:=H
 replace ab:=c9.post ab dk
 rw[show Y (m+1) (.fn 140) [J.str s,J.ptr a 0] h=_ from eg (intr:=b7) (n:=m) (args:=[J.str s,J.ptr a 0]) Tryz.func140 (by kernel_rfl) (by kernel_rfl) (by kernel_rfl) (WZ (Y m) s t a h ab) (.inl rfl) (by kernel_rfl)];exact H
theorem Xd(call:aO->List J->aa->ax)(s:List UInt8)(a:Nat)(h:aa){Q:bK->ar->Prop}(H:
  (0<(List.length s)->
   ∃(bL:Nat),mE 0 s=some (J.int IntKind.u8 (Int.ofNat bL))/\
   ∃(b6:Bool) (aX:aa),call (aO.fn 146) [J.ptr a 0,J.int IntKind.u8 (Int.ofNat bL)] h=ax.ret (J.bool b6) aX/\
   ((!b6)=true->
     Q (bK.exit 0) (ar.mk [(0,J.str s),(1,J.ptr a 0)] [] bG.none aX))/\
   ((!b6)=false->
     ∃(cQ:List UInt8),dR Tryz.prog aX 9 (J.str s) (some (J.int IntKind.i64 (Int.ofNat 1))) none none=some (J.str cQ)/\
     Q (bK.nrm) (ar.mk [(0,J.str cQ),(1,J.ptr a 0)] [] bG.none aX)))/\
  (¬0<(List.length s)->
   Q (bK.exit 0) (ar.mk [(0,J.str s),(1,J.ptr a 0)] [] bG.none h))):
  bB Tryz.prog Tryz.f140 call [1,0,0,0] (ar.mk [(0,J.str s),(1,J.ptr a 0)] [] bG.none h) Q:=by
 by_cases ab:0<(List.length s)
 · have H:=H.1 ab
   obtain⟨bL,ae,H⟩:=H
   obtain⟨b6,aX,av,H⟩:=H
   rcases Bool.eq_false_or_eq_true ((!b6)) with aK|aK
   · have H:=H.1 aK
     exact bB.of (W0 call s a h bL b6 aX (kj ab) ae av aK) H
   · have H:=H.2 aK
     obtain⟨cQ,bU,H⟩:=H
     exact bB.of (W1 call s a h bL b6 aX cQ (kj ab) ae av aK bU) H
 · have H:=H.2 ab
   exact bB.of (W2 call s a h (mH ab)) H
theorem Xe(m:Nat)(a:Nat)(n:Nat)(h:aa){R:ax->Prop}(H:
  n<256/\
  ∃(b6:Bool),aA h a (0+n*1)=some (J.bool b6)/\
  R (ax.ret (J.bool b6) h)):
  R (Y (m+1) (.fn 146) [J.ptr a 0,J.int IntKind.u8 (Int.ofNat n)] h):=by
 obtain⟨ab,H⟩:=H
 obtain⟨b6,ae,H⟩:=H
 rw[show Y (m+1) (.fn 146) [J.ptr a 0,J.int IntKind.u8 (Int.ofNat n)] h=_ from eg (intr:=b7) (n:=m) (args:=[J.ptr a 0,J.int IntKind.u8 (Int.ofNat n)]) Tryz.func146 (by kernel_rfl) (by kernel_rfl) (by kernel_rfl) (W3 (Y m) a n h b6 ab ae) (.inl rfl) (by kernel_rfl)];exact H
theorem Xf(m:Nat)(s:List UInt8)(o:List UInt8)(h:aa){R:ax->Prop}(H:
  ∃(i:Int) (g:aa),(Y m) (aO.fn 144) [J.str s,J.str o] h=ax.ret (J.int IntKind.i64 i) g/\
  R (ax.ret (J.bool (fE (Int.ofNat 0) i)) g)):
  R (Y (m+1) (.fn 118) [J.str s,J.str o] h):=by
 obtain⟨i,g,ab,H⟩:=H
 rw[show Y (m+1) (.fn 118) [J.str s,J.str o] h=_ from eg (intr:=b7) (n:=m) (args:=[J.str s,J.str o]) Tryz.func118 (by kernel_rfl) (by kernel_rfl) (by kernel_rfl) (W4 (Y m) s o i h g ab) (.inl rfl) (by kernel_rfl)];exact H
theorem Xg(m:Nat)(s:List UInt8)(o:List UInt8)(h:aa){R:ax->Prop}(H:
  ∃(i:Int) (g:aa),(Y m) (aO.fn 150) [J.str s,J.str o] h=ax.ret (J.int IntKind.i64 i) g/\
  R (ax.ret (J.int IntKind.i64 i) g)):
  R (Y (m+1) (.fn 144) [J.str s,J.str o] h):=by
 obtain⟨i,g,ab,H⟩:=H
 rw[show Y (m+1) (.fn 144) [J.str s,J.str o] h=_ from eg (intr:=b7) (n:=m) (args:=[J.str s,J.str o]) Tryz.func144 (by kernel_rfl) (by kernel_rfl) (by kernel_rfl) (W5 (Y m) s o i h g ab) (.inl rfl) (by kernel_rfl)];exact H
theorem Xh(m:Nat)(s:List UInt8)(c:UInt8)(h:aa){R:ax->Prop}(H:
  cw [c] s=false/\
  mE 0 [c]=some (J.int IntKind.u8 (Int.ofNat (BitVec.toFin (UInt8.toBitVec c)).1))/\
  ∃(i:Int) (g:aa),(Y m) (aO.fn 155) [J.str s,J.int IntKind.u8 (Int.ofNat (BitVec.toFin (UInt8.toBitVec c)).1)] h=ax.ret (J.int IntKind.i64 i) g/\
  R (ax.ret (J.int IntKind.i64 i) g)):
  R (Y (m+1) (.fn 150) [J.str s,J.str [c]] h):=by
 obtain⟨ab,H⟩:=H
 obtain⟨ae,H⟩:=H
 obtain⟨i,g,av,H⟩:=H
 rw[show Y (m+1) (.fn 150) [J.str s,J.str [c]] h=_ from eg (intr:=b7) (n:=m) (args:=[J.str s,J.str [c]]) Tryz.func150 (by kernel_rfl) (by kernel_rfl) (by kernel_rfl) (W6 (Y m) s c i h g ab ae av) (.inl rfl) (by kernel_rfl)];exact H
theorem Xi(m:Nat)(s:List UInt8)(n:Nat)(h:aa){R:ax->Prop}(H:
  ∃(i:Int) (g:aa),(Y m) (aO.fn 161) [J.str s,J.int IntKind.u8 (Int.ofNat n)] h=ax.ret (J.int IntKind.i64 i) g/\
  R (ax.ret (J.int IntKind.i64 i) g)):
  R (Y (m+1) (.fn 155) [J.str s,J.int IntKind.u8 (Int.ofNat n)] h):=by
 obtain⟨i,g,ab,H⟩:=H
 rw[show Y (m+1) (.fn 155) [J.str s,J.int IntKind.u8 (Int.ofNat n)] h=_ from eg (intr:=b7) (n:=m) (args:=[J.str s,J.int IntKind.u8 (Int.ofNat n)]) Tryz.func155 (by kernel_rfl) (by kernel_rfl) (by kernel_rfl) (W7 (Y m) s n i h g ab) (.inl rfl) (by kernel_rfl)];exact H
theorem sA:Tryz.prog.underlying 9=some .string:=by kernel_rfl
theorem Xj(m:Nat)(h:aa):Y (m+1) (.fn 139) [.str oH] h=.ret (.aD [.agg (ko pR),.bool true]) h:=by
 have e:b7 139 [.str oH] h=some (.aD [.agg (ko pR),.bool true],h):=by kernel_rfl
 unfold Y;simp only[e_,e]
theorem Xk(m:Nat)(h:aa):Y (m+1) (.fn 139) [.str (oH++[45,47,46])] h=.ret (.aD [.agg (ko sv),.bool true]) h:=by
 have e:b7 139 [.str (oH++[45,47,46])] h=some (.aD [.agg (ko sv),.bool true],h):=by kernel_rfl
 unfold Y;simp only[e_,e]
theorem Cn(p:Nat->Bool):(ko p).length=256:=by simp[ko]
def Co(h:aa)(a:Nat)(p:Nat->Bool):Prop:=h.get a=some (.cells (ko p) 177 .own 0 0)
theorem MG(m a n:Nat)(p:Nat->Bool)(h:aa)(aJ:n<256)(a5:Co h a p):Y (m+1) (.fn 146) [.ptr a 0,.int .u8 (Int.ofNat n)] h=.ret (.bool (p n)) h:=
 Xe m a n h (R:=λx=>x=_) ⟨aJ,_,BX a5 (by rw[show 0+n*1=n by omega];simp[ko,aJ]),rfl⟩
theorem Xl(p:Nat->Bool)(s:aL)(hs:0<s.length)(aw:p (s[s.length-1]'(by omega)).toNat=true):(s.take (s.length-1)).all (λc=>p c.toNat)=s.all (λc=>p c.toNat):=by
 have e:s=s.take (s.length-1)++[s[s.length-1]'(by omega)]:=by
  have:=List.take_append_drop (s.length-1) s
  rw[List.drop_eq_getElem_cons (by omega),List.drop_of_length_le (by omega)] at this
  exact this.symm
 conv=>rhs;rw[e]
 rw[List.all_append];simp[aw]
theorem MH{s:aL}{i:Nat}(h:i<s.length):mE i s=some (.int .u8 (Int.ofNat (s[i]).toNat)):=Uw h
theorem Xm(m a:Nat)(p:Nat->Bool)(s:aL)(h:aa)(hs:s.length<=90000)(a5:Co h a p):∃t,Y (m+2) (.fn 141) [.str s,.ptr a 0] h=.ret (.str t) h/\t.length<=s.length/\t.all (λc=>p c.toNat)=s.all (λc=>p c.toNat)/\(t.all (λc=>p c.toNat)=true->t=[]):=by
 refine Xa (m+1) s a h (R:=λx=>∃t,x=.ret (.str t) h/\t.length<=s.length/\t.all (λc=>p c.toNat)=s.all (λc=>p c.toNat)/\(t.all (λc=>p c.toNat)=true->t=[])) ?_
 refine bB.loop (by kernel_rfl) (λk st=>∃(t:aL) (Γ:Env),st=⟨Γ,[],.none,h⟩/\cZ [(0,.str t),(1,.ptr a 0)] Γ/\t.length=k/\t.length<=s.length/\t.all (λc=>p c.toNat)=s.all (λc=>p c.toNat)) ?_ s.length _ (by omega) ⟨s,_,rfl,⟨rfl,rfl,trivial⟩,rfl,Nat.le_refl _,rfl⟩
 rintro k st ⟨t,Γ,rfl,dk,au,aw,a1⟩
 refine bB.pre (Xb (Y (m+1)) t a h ⟨λh0=>⟨⟨by omega,by omega⟩,_,MH (by omega),_,_,MG m a _ p h (UInt8.toNat_lt _) a5,λah=>?_,λah=>?_⟩,λh0=>?_⟩) dk rfl rfl rfl
 · refine⟨t,_,rfl,rfl,⟨rfl,trivial⟩,t,rfl,aw,a1,λab=>?_⟩
   have:=List.all_eq_true.1 ab _ (List.getElem_mem (show t.length-1<t.length by omega))
   simp[this] at ah
 · have pb:p (t[t.length-1]'(by omega)).toNat=true:=by simpa using ah
   refine⟨_,yE sA (by omega),_,(by show _<k;simp;omega),_,_,rfl,⟨rfl,rfl,trivial⟩,rfl,by simp;omega,by rw[Xl p t h0 pb,a1]⟩
 · obtain rfl:t=[]:=List.eq_nil_of_length_eq_zero (by omega)
   exact⟨[],_,rfl,rfl,⟨rfl,trivial⟩,[],rfl,aw,a1,λ_=>rfl⟩
theorem Xn(m a:Nat)(p:Nat->Bool)(s:aL)(h:aa)(hs:s.length<=90000)(a5:Co h a p):∃t,Y (m+2) (.fn 140) [.str s,.ptr a 0] h=.ret (.str t) h/\t.all (λc=>p c.toNat)=s.all (λc=>p c.toNat)/\(t.all (λc=>p c.toNat)=true->t=[]):=by
 refine Xc (m+1) s a h (R:=λx=>∃t,x=.ret (.str t) h/\t.all (λc=>p c.toNat)=s.all (λc=>p c.toNat)/\(t.all (λc=>p c.toNat)=true->t=[])) ?_
 refine bB.loop (by kernel_rfl) (λk st=>∃(t:aL) (Γ:Env),st=⟨Γ,[],.none,h⟩/\cZ [(0,.str t),(1,.ptr a 0)] Γ/\t.length=k/\t.all (λc=>p c.toNat)=s.all (λc=>p c.toNat)) ?_ s.length _ (by omega) ⟨s,_,rfl,⟨rfl,rfl,trivial⟩,rfl,rfl⟩
 rintro k st ⟨t,Γ,rfl,dk,au,a1⟩
 refine bB.pre (Xd (Y (m+1)) t a h ⟨λh0=>⟨_,MH h0,_,_,MG m a _ p h (UInt8.toNat_lt _) a5,λah=>?_,λah=>?_⟩,λh0=>?_⟩) dk rfl rfl rfl
 · refine⟨t,_,rfl,rfl,⟨rfl,trivial⟩,t,rfl,a1,λab=>?_⟩
   have:=List.all_eq_true.1 ab _ (List.getElem_mem h0)
   simp[this] at ah
 · have pb:p (t[0]'h0).toNat=true:=by simpa using ah
   refine⟨_,Ux sA (by omega),_,(by show _<k;simp;omega),_,_,rfl,⟨rfl,rfl,trivial⟩,rfl,?_⟩
   rw[<-a1]
   cases t with
   |nil=>simp at h0
   |cons c t=>simp at pb;simp[pb]
 · obtain rfl:t=[]:=List.eq_nil_of_length_eq_zero (by omega)
   exact⟨[],_,rfl,rfl,⟨rfl,trivial⟩,[],rfl,a1,λ_=>rfl⟩
theorem uF(s:aL):cw s []=decide (s=[]):=by cases s<;>simp[cw]
theorem MI(m B:Nat)(p:Nat->Bool)(s o:aL)(h:aa)(bN:B<=h.n)(hs:s.length<=90000)(h0:s≠[])(a8:o.length≠1)(aJ:o≠[])(hm:Y (m+2) (.fn 139) [.str o] h=.ret (.aD [.agg (ko p),.bool true]) h):
  ∃t an,Y (m+3) (.fn 116) [.str s,.str o] h=.ret (.str t) an/\cw t []=s.all (λc=>p c.toNat)/\Ext B h an:=by
 have st:ay.storeCells (h.push (.cells (List.replicate 256 (.bool false)) 177 .own 0 0)) h.n 0 (ko p)=some ((h.push (.cells (List.replicate 256 (.bool false)) 177 .own 0 0)).set h.n (some (.cells (ko p) 177 .own 0 0))):=by
  refine dY (dA rfl) (by rw[Cn];rfl) ?_
  have:=vY (ko p) (List.replicate 256 (.bool false)) (by simp[ko,J.bF]) (by rw[Cn];simp)
  rw[this,Cn];simp
 obtain⟨g,ao⟩:∃g,g=(h.push (.cells (List.replicate 256 (.bool false)) 177 .own 0 0)).set h.n (some (.cells (ko p) 177 .own 0 0)):=⟨_,rfl⟩
 rw[<-ao] at st
 have ig:Co g h.n p:=by rw[ao];exact dN rfl
 have gr:Ext B h g:=by rw[ao];exact(Ext.push bN _).e3 bN
 obtain⟨t,c1,bD,ds,aE⟩:=Xm m h.n p s g hs ig
 obtain⟨u,c2,eu,aC⟩:=Xn m h.n p t g (by omega) ig
 refine W_ (m+2) s o h (R:=λx=>∃t an,x=.ret (.str t) an/\cw t []=s.all (λc=>p c.toNat)/\Ext B h an) ⟨by rw[uF];simp[h0],by rw[uF];simp[aJ],a8,_,hm,_,⟨by rw[Cn],st,rfl⟩,t,g,c1,u,g,c2,u,g,rfl,?_,gr⟩
 rw[uF,<-ds,<-eu]
 cases a1:u.all (λc=>p c.toNat) with
 |true=>simp[aC a1]
 |false=>
  cases u with
  |nil=>simp at a1
  |cons c u=>simp
theorem MJ(m B:Nat)(p:Nat->Bool)(s o:aL)(n:Nat)(h:aa)(bN:B<=h.n)(adp:n<=90000)(a8:(o=[]/\p=pR)\/(o=[45,47,46]/\p=sv)):ca B h (.bool (decide (1<=s.length)&&decide (s.length<=n)&&s.all (λc=>p c.toNat))) (Y (m+4) (.fn 104) [.str s,.str o,.int .i64 (Int.ofNat n)] h):=by
 refine W8 (m+3) s o n h ⟨λab=>⟨λae=>?_,λae=>?_⟩,λab=>?_⟩
 · have h0:s≠[]:=by rw[uF] at ab;simpa using ab
   have aY:1<=s.length:=List.length_pos_iff.2 h0
   have key:∃t an,Y (m+3) (.fn 116) [.str s,.str (oH++o)] h=.ret (.str t) an/\cw t []=s.all (λc=>p c.toNat)/\Ext B h an:=by
    rcases a8 with⟨rfl,rfl⟩|⟨rfl,rfl⟩
    · rw[List.append_nil]
      exact MI m B pR s oH h bN (by omega) h0 (by decide) (by decide) (Xj _ h)
    · exact MI m B sv s (oH++[45,47,46]) h bN (by omega) h0 (by decide) (by decide) (Xk _ h)
   obtain⟨t,an,c,e,x⟩:=key
   exact⟨by rcases a8 with⟨rfl,_⟩|⟨rfl,_⟩<;>simp,t,an,c,ca.of (fb (by rw[e];simp[aY,ae])) x⟩
 · exact ca.of (fb (by simp[ae])) (Ext.refl _ _)
 · have h0:s=[]:=by rw[uF] at ab;simpa using ab
   subst h0
   exact ca.of (fb (by simp)) (Ext.refl _ _)
end Go.Proofs.cf
