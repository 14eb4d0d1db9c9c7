/-
  PROVED HERE: contracts of functions (De). No condition beside each statement's own.
-/
import Derived.Test.YtfooahfebojldaaGreatDoorDc
import Derived.Test.YtfooahfebojldaaGreatDoorSxb
set_option linter.unusedVariables false
set_option linter.unusedSimpArgs false
namespace Go.Proofs.cT
open Go aC Go.Proofs dD
set_option maxRecDepth 100000
set_option maxHeartbeats 1000000
theorem VV(call:aE->List J->aa->ao)(s o:List UInt8)(n:Nat)(h:aa)(bC de:List UInt8)(aK:aa)
  (H1:(!cF s [])=true)
  (ay:dq (.ofNat (List.length s)) (.ofNat n)=true)
  (aN:fA .add [97,98,99,100,101,102,103,104,105,106,107,108,109,110,111,112,113,114,115,116,117,118,119,120,121,122,65,66,67,68,69,70,71,72,73,74,75,76,77,78,79,80,81,82,83,84,85,86,87,88,89,90,48,49,50,51,52,53,54,55,56,57,95] o=some (.str bC))
  (aO:call (.fn 116) [.str s,.str bC] h=ao.ret (.str de) aK):
  aw Tryz.prog Tryz.f104 none call [] (af.mk [(0,.str s),(1,.str o),(2,.int .i64 (.ofNat n))] [] .none h) (.ret)
   (af.mk [(6,.bool (cF de []))] [] .none aK):=
 aX [6] (hs:=[.b true,.b true,.b true,.b true,.b true,.b true,.b true,.b true,.v (.str bC),.b true,.c (.str de) aK,.b true,.b true]) (by kernel_rfl)<| .cons H1<| .cons H1<| .cons H1<| .cons H1<| .cons H1<| .cons ay<| .cons ay<| .cons ay<| .cons aN<| .cons ay<| .cons aO<| .cons ay<| .cons ay<| .nil
theorem VW(call:aE->List J->aa->ao)(s o:List UInt8)(n:Nat)(h:aa)
  (H1:(!cF s [])=true)
  (ay:dq (.ofNat (List.length s)) (.ofNat n)=false):
  aw Tryz.prog Tryz.f104 none call [] (af.mk [(0,.str s),(1,.str o),(2,.int .i64 (.ofNat n))] [] .none h) (.ret)
   (af.mk [(6,.bool false)] [] .none h):=
 aX [6] (hs:=[.b true,.b true,.b true,.b true,.b true,.b false,.b false,.b false,.b false,.b false,.b false]) (by kernel_rfl)<| .cons H1<| .cons H1<| .cons H1<| .cons H1<| .cons H1<| .cons ay<| .cons ay<| .cons ay<| .cons ay<| .cons ay<| .cons ay<| .nil
theorem VX(call:aE->List J->aa->ao)(s o:List UInt8)(n:Nat)(h:aa)
  (H1:(!cF s [])=false):
  aw Tryz.prog Tryz.f104 none call [] (af.mk [(0,.str s),(1,.str o),(2,.int .i64 (.ofNat n))] [] .none h) (.ret)
   (af.mk [(6,.bool false)] [] .none h):=
 aX [6] (hs:=[.b false,.b false,.b false,.b false,.b false,.b false,.b false,.b false,.b false,.b false,.b false]) (by kernel_rfl)<| .cons H1<| .cons H1<| .cons H1<| .cons H1<| .cons H1<| .cons (by kernel_rfl:false=false)<| .cons (by kernel_rfl:false=false)<| .cons (by kernel_rfl:false=false)<| .cons (by kernel_rfl:false=false)<| .cons (by kernel_rfl:false=false)<| .cons (by kernel_rfl:false=false)<| .nil
theorem VY(call:aE->List J->aa->ao)(s:List UInt8)(h:aa)(bY:Bool)(aK:aa)(bC:List UInt8)(hZ:Bool)(cd:aa)
  (H1:call (.fn 104) [.str s,.str [],.int .i64 (.ofNat 24)] h=ao.ret (.bool bY) aK)
  (ay:bY=true)
  (aN:d_ Tryz.prog aK 9 (J.str s) none (some (J.int IntKind.i64 (Int.ofNat 1))) none=some (J.str bC))
  (aO:call (.fn 118) [.str [48,49,50,51,52,53,54,55,56,57],.str bC] aK=ao.ret (.bool hZ) cd):
  aw Tryz.prog Tryz.f107 none call [] (af.mk [(0,.str s)] [] .none h) (.ret)
   (af.mk [(2,.bool !hZ)] [] .none cd):=
 aX [2] (hs:=[.c (.bool bY) aK,.b true,.b true,.v (.str bC),.b true,.c (.bool hZ) cd,.b true,.b true]) (by kernel_rfl)<| .cons H1<| .cons ay<| .cons ay<| .cons aN<| .cons ay<| .cons aO<| .cons ay<| .cons ay<| .nil
theorem VZ(call:aE->List J->aa->ao)(s:List UInt8)(h:aa)(bY:Bool)(aK:aa)
  (H1:call (.fn 104) [.str s,.str [],.int .i64 (.ofNat 24)] h=ao.ret (.bool bY) aK)
  (ay:bY=false):
  aw Tryz.prog Tryz.f107 none call [] (af.mk [(0,.str s)] [] .none h) (.ret)
   (af.mk [(2,.bool false)] [] .none aK):=
 aX [2] (hs:=[.c (.bool bY) aK,.b false,.b false,.b false,.b false,.b false]) (by kernel_rfl)<| .cons H1<| .cons ay<| .cons ay<| .cons ay<| .cons ay<| .cons ay<| .nil
theorem trim(call:aE->List J->aa->ao)(s o:List UInt8)(l:List J)(h aK:aa)(bC:List UInt8)(cd:aa)(de:List UInt8)(jJ:aa)
  (H1:cF s []=false)
  (ay:cF o []=false)
  (aN:ba (.ofNat (List.length o)) (.ofNat 1)=false)
  (aO:call (.fn 139) [.str o] h=ao.ret (.aL [.agg l,.bool true]) h)
  (bm:some 256=some (List.length l)/\aC.storeCells (aa.push h (cJ.cells (List.replicate 256 (J.bool false)) 177 eE.own 0 0)) (aa.n h) 0 l=some aK/\J.aL []=J.aL [])
  (bT:call (.fn 141) [.str s,.ptr (aa.n h) 0] aK=ao.ret (.str bC) cd)
  (cA:call (.fn 140) [.str bC,.ptr (aa.n h) 0] cd=ao.ret (.str de) jJ):
  aw Tryz.prog Tryz.f116 none call [] (af.mk [(0,.str s),(1,.str o)] [] .none h) (.ret)
   (af.mk [(4,.str de)] [] .none jJ):=
 aX [4] (hs:=[.b false,.b false,.b false,.b false,.b false,.b false,.b false,.b false,.b false,.c (.aL [.agg l,.bool true]) h,.ft (.aL []) aK,.b true,.c (.str bC) cd,.c (.str de) jJ]) (by kernel_rfl)<| .cons H1<| .cons H1<| .cons H1<| .cons ay<| .cons aN<| .cons aN<| .cons aN<| .cons aN<| .cons (by kernel_rfl:false=false)<| .cons aO<| .cons bm<| .cons (by kernel_rfl:true=true)<| .cons bT<| .cons cA<| .nil
theorem V0(call:aE->List J->aa->ao)(s t:List UInt8)(a:Nat)(h:aa)
  (H1:aw Tryz.prog Tryz.f141 none call [1,0,0] (af.mk [(4,.str []),(0,.str s),(1,.ptr a 0)] [] .none h) (.exit 0) (af.mk [(0,.str t)] [] .none h)):
  aw Tryz.prog Tryz.f141 none call [] (af.mk [(0,.str s),(1,.ptr a 0)] [] .none h) (.ret)
   (af.mk [(4,.str t)] [] .none h):=
 aX [4] (hs:=[Hint.loop (bA.exit 0) (af.mk [(0,J.str t)] [] bH.none h)]) (by kernel_rfl)<| .cons H1<| .nil
theorem V1(call:aE->List J->aa->ao)(s:List UInt8)(a:Nat)(h:aa)(aZ bP:Nat)(bY:Bool)(aK:aa)
  (H1:br (.ofNat 0) (.ofNat (List.length s))=true)
  (ay:arith .sub .i64 (.ofNat (List.length s)) (.ofNat 1)=some (.int .i64 (.ofNat aZ)))
  (aN:g1 aZ s=some (.int .u8 (.ofNat bP)))
  (aO:call (.fn 146) [.ptr a 0,.int .u8 (.ofNat bP)] h=ao.ret (.bool bY) aK)
  (bm:(!bY)=true):
  aw Tryz.prog Tryz.f141 none call [1,0,0,0] (af.mk [(0,.str s),(1,.ptr a 0)] [] .none h) (.exit 0)
   (af.mk [(0,.str s),(1,.ptr a 0)] [] .none aK):=
 aX [0,1] (hs:=[.o (.int .i64 (.ofNat (List.length s))),.b true,.o (.int .i64 (.ofNat (List.length s))),.v (.int .i64 (.ofNat aZ)),.v (.int .u8 (.ofNat bP)),.c (.bool bY) aK,.b true]) (by kernel_rfl)<| .cons (by kernel_rfl:cq Tryz.prog h 9 (J.str s)=some (J.int IntKind.i64 (Int.ofNat (List.length s))))<| .cons H1<| .cons (by kernel_rfl:cq Tryz.prog h 9 (J.str s)=some (J.int IntKind.i64 (Int.ofNat (List.length s))))<| .cons ay<| .cons aN<| .cons aO<| .cons bm<| .nil
theorem V2(call:aE->List J->aa->ao)(s:List UInt8)(a:Nat)(h:aa)(aZ bP:Nat)(bY:Bool)(aK:aa)(bC:List UInt8)
  (H1:br (.ofNat 0) (.ofNat (List.length s))=true)
  (ay:arith .sub .i64 (.ofNat (List.length s)) (.ofNat 1)=some (.int .i64 (.ofNat aZ)))
  (aN:g1 aZ s=some (.int .u8 (.ofNat bP)))
  (aO:call (.fn 146) [.ptr a 0,.int .u8 (.ofNat bP)] h=ao.ret (.bool bY) aK)
  (bm:(!bY)=false)
  (bT:d_ Tryz.prog aK 9 (J.str s) none (some (J.int IntKind.i64 (Int.ofNat aZ))) none=some (J.str bC)):
  aw Tryz.prog Tryz.f141 none call [1,0,0,0] (af.mk [(0,.str s),(1,.ptr a 0)] [] .none h) (.nrm)
   (af.mk [(0,.str bC),(1,.ptr a 0)] [] .none aK):=
 aX [0,1] (hs:=[.o (.int .i64 (.ofNat (List.length s))),.b true,.o (.int .i64 (.ofNat (List.length s))),.v (.int .i64 (.ofNat aZ)),.v (.int .u8 (.ofNat bP)),.c (.bool bY) aK,.b false,.o (.int .i64 (.ofNat (List.length s))),.v (.int .i64 (.ofNat aZ)),.v (.str bC)]) (by kernel_rfl)<| .cons (by kernel_rfl:cq Tryz.prog h 9 (J.str s)=some (J.int IntKind.i64 (Int.ofNat (List.length s))))<| .cons H1<| .cons (by kernel_rfl:cq Tryz.prog h 9 (J.str s)=some (J.int IntKind.i64 (Int.ofNat (List.length s))))<| .cons ay<| .cons aN<| .cons aO<| .cons bm<| .cons (by kernel_rfl:cq Tryz.prog aK 9 (J.str s)=some (J.int IntKind.i64 (Int.ofNat (List.length s))))<| .cons ay<| .cons bT<| .nil
theorem V3(call:aE->List J->aa->ao)(s:List UInt8)(a:Nat)(h:aa)
  (H1:br (.ofNat 0) (.ofNat (List.length s))=false):
  aw Tryz.prog Tryz.f141 none call [1,0,0,0] (af.mk [(0,.str s),(1,.ptr a 0)] [] .none h) (.exit 0)
   (af.mk [(0,.str s),(1,.ptr a 0)] [] .none h):=
 aX [0,1] (hs:=[.o (.int .i64 (.ofNat (List.length s))),.b false]) (by kernel_rfl)<| .cons (by kernel_rfl:cq Tryz.prog h 9 (J.str s)=some (J.int IntKind.i64 (Int.ofNat (List.length s))))<| .cons H1<| .nil
theorem V4(call:aE->List J->aa->ao)(s t:List UInt8)(a:Nat)(h:aa)
  (H1:aw Tryz.prog Tryz.f140 none call [1,0,0] (af.mk [(4,.str []),(0,.str s),(1,.ptr a 0)] [] .none h) (.exit 0) (af.mk [(0,.str t)] [] .none h)):
  aw Tryz.prog Tryz.f140 none call [] (af.mk [(0,.str s),(1,.ptr a 0)] [] .none h) (.ret)
   (af.mk [(4,.str t)] [] .none h):=
 aX [4] (hs:=[Hint.loop (bA.exit 0) (af.mk [(0,J.str t)] [] bH.none h)]) (by kernel_rfl)<| .cons H1<| .nil
theorem V5(call:aE->List J->aa->ao)(s:List UInt8)(a:Nat)(h:aa)(aZ:Nat)(bY:Bool)(aK:aa)
  (H1:br (.ofNat 0) (.ofNat (List.length s))=true)
  (ay:g1 0 s=some (.int .u8 (.ofNat aZ)))
  (aN:call (.fn 146) [.ptr a 0,.int .u8 (.ofNat aZ)] h=ao.ret (.bool bY) aK)
  (aO:(!bY)=true):
  aw Tryz.prog Tryz.f140 none call [1,0,0,0] (af.mk [(0,.str s),(1,.ptr a 0)] [] .none h) (.exit 0)
   (af.mk [(0,.str s),(1,.ptr a 0)] [] .none aK):=
 aX [0,1] (hs:=[.o (.int .i64 (.ofNat (List.length s))),.b true,.v (.int .u8 (.ofNat aZ)),.c (.bool bY) aK,.b true]) (by kernel_rfl)<| .cons (by kernel_rfl:cq Tryz.prog h 9 (J.str s)=some (J.int IntKind.i64 (Int.ofNat (List.length s))))<| .cons H1<| .cons ay<| .cons aN<| .cons aO<| .nil
theorem V6(call:aE->List J->aa->ao)(s:List UInt8)(a:Nat)(h:aa)(aZ:Nat)(bY:Bool)(aK:aa)(bC:List UInt8)
  (H1:br (.ofNat 0) (.ofNat (List.length s))=true)
  (ay:g1 0 s=some (.int .u8 (.ofNat aZ)))
  (aN:call (.fn 146) [.ptr a 0,.int .u8 (.ofNat aZ)] h=ao.ret (.bool bY) aK)
  (aO:(!bY)=false)
  (bm:d_ Tryz.prog aK 9 (J.str s) (some (J.int IntKind.i64 (Int.ofNat 1))) none none=some (J.str bC)):
  aw Tryz.prog Tryz.f140 none call [1,0,0,0] (af.mk [(0,.str s),(1,.ptr a 0)] [] .none h) (.nrm)
   (af.mk [(0,.str bC),(1,.ptr a 0)] [] .none aK):=
 aX [0,1] (hs:=[.o (.int .i64 (.ofNat (List.length s))),.b true,.v (.int .u8 (.ofNat aZ)),.c (.bool bY) aK,.b false,.v (.str bC)]) (by kernel_rfl)<| .cons (by kernel_rfl:cq Tryz.prog h 9 (J.str s)=some (J.int IntKind.i64 (Int.ofNat (List.length s))))<| .cons H1<| .cons ay<| .cons aN<| .cons aO<| .cons bm<| .nil
theorem V7(call:aE->List J->aa->ao)(s:List UInt8)(a:Nat)(h:aa)
  (H1:br (.ofNat 0) (.ofNat (List.length s))=false):
  aw Tryz.prog Tryz.f140 none call [1,0,0,0] (af.mk [(0,.str s),(1,.ptr a 0)] [] .none h) (.exit 0)
   (af.mk [(0,.str s),(1,.ptr a 0)] [] .none h):=
 aX [0,1] (hs:=[.o (.int .i64 (.ofNat (List.length s))),.b false]) (by kernel_rfl)<| .cons (by kernel_rfl:cq Tryz.prog h 9 (J.str s)=some (J.int IntKind.i64 (Int.ofNat (List.length s))))<| .cons H1<| .nil
theorem V8(call:aE->List J->aa->ao)(a n:Nat)(h:aa)(bY:Bool)
  (H1:Nat.le (Nat.succ n) 256)
  (ay:av h a (0+n*1)=some (.bool bY)):
  aw Tryz.prog Tryz.f146 none call [] (af.mk [(0,.ptr a 0),(1,.int .u8 (.ofNat n))] [] .none h) (.ret)
   (af.mk [(4,.bool bY)] [] .none h):=
 aX [4] (hs:=[.v (.ptr a (0+n*1)),.v (.bool bY)]) (by kernel_rfl)<| .cons (⟨H1,rfl⟩:Nat.le (Nat.succ n) 256/\J.ptr a (0+n*1)=J.ptr a (0+n*1))<| .cons ay<| .nil
theorem V9(call:aE->List J->aa->ao)(s o:List UInt8)(i:Int)(h g:aa)
  (H1:call (.fn 144) [.str s,.str o] h=ao.ret (.int .i64 i) g):
  aw Tryz.prog Tryz.f118 none call [] (af.mk [(0,.str s),(1,.str o)] [] .none h) (.ret)
   (af.mk [(4,.bool (dq (.ofNat 0) i))] [] .none g):=
 aX [4] (hs:=[.c (.int .i64 i) g]) (by kernel_rfl)<| .cons H1<| .nil
theorem V_(call:aE->List J->aa->ao)(s o:List UInt8)(i:Int)(h g:aa)
  (H1:call (.fn 150) [.str s,.str o] h=ao.ret (.int .i64 i) g):
  aw Tryz.prog Tryz.f144 none call [] (af.mk [(0,.str s),(1,.str o)] [] .none h) (.ret)
   (af.mk [(4,.int .i64 i)] [] .none g):=
 aX [4] (hs:=[.c (.int .i64 i) g]) (by kernel_rfl)<| .cons H1<| .nil
theorem Wa(call:aE->List J->aa->ao)(s:List UInt8)(c:UInt8)(i:Int)(h g:aa)
  (H1:cF [c] s=false)
  (ay:g1 0 [c]=some (.int .u8 (.ofNat (BitVec.toFin (UInt8.toBitVec c)).1)))
  (aN:call (.fn 155) [.str s,.int .u8 (.ofNat (BitVec.toFin (UInt8.toBitVec c)).1)] h=ao.ret (.int .i64 i) g):
  aw Tryz.prog Tryz.f150 none call [] (af.mk [(0,.str s),(1,.str [c])] [] .none h) (.ret)
   (af.mk [(4,.int .i64 i)] [] .none g):=
 aX [4] (hs:=[.b false,.b false,.b false,.b false,.b false,.b true,.v (.int .u8 (.ofNat (UInt8.toNat c))),.c (.int .i64 i) g]) (by kernel_rfl)<| .cons (by kernel_rfl:ba (Int.ofNat 1) (Int.ofNat 0)=false)<| .cons (by kernel_rfl:ba (Int.ofNat 1) (Int.ofNat 0)=false)<| .cons (by kernel_rfl:ba (Int.ofNat 1) (Int.ofNat 0)=false)<| .cons (by kernel_rfl:ba (Int.ofNat 1) (Int.ofNat 0)=false)<| .cons H1<| .cons (by kernel_rfl:ba (Int.ofNat 1) (Int.ofNat 1)=true)<| .cons ay<| .cons aN<| .nil
theorem Wb(call:aE->List J->aa->ao)(s:List UInt8)(n:Nat)(i:Int)(h g:aa)
  (H1:call (.fn 161) [.str s,.int .u8 (.ofNat n)] h=ao.ret (.int .i64 i) g):
  aw Tryz.prog Tryz.f155 none call [] (af.mk [(0,.str s),(1,.int .u8 (.ofNat n))] [] .none h) (.ret)
   (af.mk [(4,.int .i64 i)] [] .none g):=
 aX [4] (hs:=[.c (.int .i64 i) g]) (by kernel_rfl)<| .cons H1<| .nil
theorem Wc(m:Nat)(s:List UInt8)(o:List UInt8)(n:Nat)(h:aa){R:ao->Prop}(H:
  ((!cF s [])=true->
    ((List.length s)<=n->
      List.length [97,98,99,100,101,102,103,104,105,106,107,108,109,110,111,112,113,114,115,116,117,118,119,120,121,122,65,66,67,68,69,70,71,72,73,74,75,76,77,78,79,80,81,82,83,84,85,86,87,88,89,90,48,49,50,51,52,53,54,55,56,57,95]+List.length o<=1000000000000/\
      ∃(de:List UInt8) (aK:aa),(Y m) (aE.fn 116) [J.str s,J.str ([97,98,99,100,101,102,103,104,105,106,107,108,109,110,111,112,113,114,115,116,117,118,119,120,121,122,65,66,67,68,69,70,71,72,73,74,75,76,77,78,79,80,81,82,83,84,85,86,87,88,89,90,48,49,50,51,52,53,54,55,56,57,95]++o)] h=ao.ret (J.str de) aK/\
      R (ao.ret (J.bool (cF de [])) aK))/\
    (¬(List.length s)<=n->
     R (ao.ret (J.bool false) h)))/\
  ((!cF s [])=false->
    R (ao.ret (J.bool false) h))):
  R (Y (m+1) (.fn 104) [J.str s,J.str o,J.int IntKind.i64 (Int.ofNat n)] h):=by
 rcases Bool.eq_false_or_eq_true ((!cF s [])) with ab|ab
 · have H:=H.1 ab
   by_cases ae:(List.length s)<=n
   · have H:=H.1 ae
     obtain⟨aB,H⟩:=H
     obtain⟨de,aK,aP,H⟩:=H
     rw[show Y (m+1) (.fn 104) [J.str s,J.str o,J.int IntKind.i64 (Int.ofNat n)] h=_ from dn (intr:=cj) (n:=m) (args:=[J.str s,J.str o,J.int IntKind.i64 (Int.ofNat n)]) Tryz.func104 (by kernel_rfl) (by kernel_rfl) (by kernel_rfl) (VV (Y m) s o n h ([97,98,99,100,101,102,103,104,105,106,107,108,109,110,111,112,113,114,115,116,117,118,119,120,121,122,65,66,67,68,69,70,71,72,73,74,75,76,77,78,79,80,81,82,83,84,85,86,87,88,89,90,48,49,50,51,52,53,54,55,56,57,95]++o) de aK ab (iE ae) (gx aB) aP) (.inl rfl) (by kernel_rfl)];exact H
   · have H:=H.2 ae
     rw[show Y (m+1) (.fn 104) [J.str s,J.str o,J.int IntKind.i64 (Int.ofNat n)] h=_ from dn (intr:=cj) (n:=m) (args:=[J.str s,J.str o,J.int IntKind.i64 (Int.ofNat n)]) Tryz.func104 (by kernel_rfl) (by kernel_rfl) (by kernel_rfl) (VW (Y m) s o n h ab (iF ae)) (.inl rfl) (by kernel_rfl)];exact H
 · have H:=H.2 ab
   rw[show Y (m+1) (.fn 104) [J.str s,J.str o,J.int IntKind.i64 (Int.ofNat n)] h=_ from dn (intr:=cj) (n:=m) (args:=[J.str s,J.str o,J.int IntKind.i64 (Int.ofNat n)]) Tryz.func104 (by kernel_rfl) (by kernel_rfl) (by kernel_rfl) (VX (Y m) s o n h ab) (.inl rfl) (by kernel_rfl)];exact H
theorem Wd(m:Nat)(s:List UInt8)(h:aa){R:ao->Prop}(H:
  ∃(bY:Bool) (aK:aa),(Y m) (aE.fn 104) [J.str s,J.str [],J.int IntKind.i64 (Int.ofNat 24)] h=ao.ret (J.bool bY) aK/\
  (bY=true->
   ∃(bC:List UInt8),d_ Tryz.prog aK 9 (J.str s) none (some (J.int IntKind.i64 (Int.ofNat 1))) none=some (J.str bC)/\
   ∃(hZ:Bool) (cd:aa),(Y m) (aE.fn 118) [J.str [48,49,50,51,52,53,54,55,56,57],J.str bC] aK=ao.ret (J.bool hZ) cd/\
   R (ao.ret (J.bool !hZ) cd))/\
  (bY=false->
   R (ao.ret (J.bool false) aK))):
  R (Y (m+1) (.fn 107) [J.str s] h):=by
 obtain⟨bY,aK,ab,H⟩:=H
 rcases Bool.eq_false_or_eq_true (bY) with ae|ae
 · have H:=H.1 ae
   obtain⟨bC,aB,H⟩:=H
   obtain⟨hZ,cd,aP,H⟩:=H
   rw[show Y (m+1) (.fn 107) [J.str s] h=_ from dn (intr:=cj) (n:=m) (args:=[J.str s]) Tryz.func107 (by kernel_rfl) (by kernel_rfl) (by kernel_rfl) (VY (Y m) s h bY aK bC hZ cd ab ae aB aP) (.inl rfl) (by kernel_rfl)];exact H
 · have H:=H.2 ae
   rw[show Y (m+1) (.fn 107) [J.str s] h=_ from dn (intr:=cj) (n:=m) (args:=[J.str s]) Tryz.func107 (by kernel_rfl) (by kernel_rfl) (by kernel_rfl) (VZ (Y m) s h bY aK ab ae) (.inl rfl) (by kernel_rfl)];exact H
theorem We(m:Nat)(s:List UInt8)(o:List UInt8)(h:aa){R:ao->Prop}(H:
  cF s []=false/\
  cF o []=false/\
  ¬(List.length o)=1/\
  ∃(l:List J),(Y m) (aE.fn 139) [J.str o] h=ao.ret (J.aL [J.agg l,J.bool true]) h/\
  ∃(aK:aa),(some 256=some (List.length l)/\aC.storeCells (aa.push h (cJ.cells (List.replicate 256 (J.bool false)) 177 eE.own 0 0)) (aa.n h) 0 l=some aK/\J.aL []=J.aL [])/\
  ∃(bC:List UInt8) (cd:aa),(Y m) (aE.fn 141) [J.str s,J.ptr (aa.n h) 0] aK=ao.ret (J.str bC) cd/\
  ∃(de:List UInt8) (jJ:aa),(Y m) (aE.fn 140) [J.str bC,J.ptr (aa.n h) 0] cd=ao.ret (J.str de) jJ/\
  R (ao.ret (J.str de) jJ)):
  R (Y (m+1) (.fn 116) [J.str s,J.str o] h):=by
 obtain⟨ab,H⟩:=H
 obtain⟨ae,H⟩:=H
 obtain⟨aB,H⟩:=H
 obtain⟨l,aP,H⟩:=H
 obtain⟨aK,cg,H⟩:=H
 obtain⟨bC,cd,dN,H⟩:=H
 obtain⟨de,jJ,fE,H⟩:=H
 rw[show Y (m+1) (.fn 116) [J.str s,J.str o] h=_ from dn (intr:=cj) (n:=m) (args:=[J.str s,J.str o]) Tryz.func116 (by kernel_rfl) (by kernel_rfl) (by kernel_rfl) (trim (Y m) s o l h aK bC cd de jJ ab ae (jX aB) aP cg dN fE) (.inl rfl) (by kernel_rfl)];exact H
theorem Wf(m:Nat)(s:List UInt8)(a:Nat)(h:aa){R:ao->Prop}(H:
  bz Tryz.prog Tryz.f141 (Y m) [1,0,0] (af.mk [(4,J.str []),(0,J.str s),(1,J.ptr a 0)] [] bH.none h) (λdv dw=>
   (∃(t:List UInt8) (cx:Env),dv=(bA.exit 0)/\dw=(af.mk cx [] bH.none h)/\cN [(0,J.str t)] cx/\
    R (ao.ret (J.str t) h)))):
  R (Y (m+1) (.fn 141) [J.str s,J.ptr a 0] h):=by
 obtain⟨dv,dw,ab,H⟩:=H
 obtain⟨t,cx,rfl,rfl,cS,H⟩:=H
 replace ab:=cD.post ab cS
 rw[show Y (m+1) (.fn 141) [J.str s,J.ptr a 0] h=_ from dn (intr:=cj) (n:=m) (args:=[J.str s,J.ptr a 0]) Tryz.func141 (by kernel_rfl) (by kernel_rfl) (by kernel_rfl) (V0 (Y m) s t a h ab) (.inl rfl) (by kernel_rfl)];exact H
theorem Wg(call:aE->List J->aa->ao)(s:List UInt8)(a:Nat)(h:aa){Q:bA->af->Prop}(H:
  (0<(List.length s)->
   (1<=(List.length s)/\(List.length s)<9223372036854775808)/\
   ∃(bP:Nat),g1 ((List.length s)-1) s=some (J.int IntKind.u8 (Int.ofNat bP))/\
   ∃(bY:Bool) (aK:aa),call (aE.fn 146) [J.ptr a 0,J.int IntKind.u8 (Int.ofNat bP)] h=ao.ret (J.bool bY) aK/\
   ((!bY)=true->
     Q (bA.exit 0) (af.mk [(0,J.str s),(1,J.ptr a 0)] [] bH.none aK))/\
   ((!bY)=false->
     ∃(bC:List UInt8),d_ Tryz.prog aK 9 (J.str s) none (some (J.int IntKind.i64 (Int.ofNat ((List.length s)-1)))) none=some (J.str bC)/\
     Q (bA.nrm) (af.mk [(0,J.str bC),(1,J.ptr a 0)] [] bH.none aK)))/\
  (¬0<(List.length s)->
   Q (bA.exit 0) (af.mk [(0,J.str s),(1,J.ptr a 0)] [] bH.none h))):
  bz Tryz.prog Tryz.f141 call [1,0,0,0] (af.mk [(0,J.str s),(1,J.ptr a 0)] [] bH.none h) Q:=by
 by_cases ab:0<(List.length s)
 · have H:=H.1 ab
   obtain⟨ae,H⟩:=H
   obtain⟨bP,aB,H⟩:=H
   obtain⟨bY,aK,aP,H⟩:=H
   rcases Bool.eq_false_or_eq_true ((!bY)) with cg|cg
   · have H:=H.1 cg
     exact bz.of (V1 call s a h ((List.length s)-1) bP bY aK (du ab) (nu ae.1 ae.2) aB aP cg) H
   · have H:=H.2 cg
     obtain⟨bC,dN,H⟩:=H
     exact bz.of (V2 call s a h ((List.length s)-1) bP bY aK bC (du ab) (nu ae.1 ae.2) aB aP cg dN) H
 · have H:=H.2 ab
   exact bz.of (V3 call s a h (dY ab)) H
theorem Wh(m:Nat)(s:List UInt8)(a:Nat)(h:aa){R:ao->Prop}(H:
  bz Tryz.prog Tryz.f140 (Y m) [1,0,0] (af.mk [(4,J.str []),(0,J.str s),(1,J.ptr a 0)] [] bH.none h) (λdv dw=>
   (∃(t:List UInt8) (cx:Env),dv=(bA.exit 0)/\dw=(af.mk cx [] bH.none h)/\cN [(0,J.str t)] cx/\
    R (ao.ret (J.str t) h)))):
  R (Y (m+1) (.fn 140) [J.str s,J.ptr a 0] h):=by
 obtain⟨dv,dw,ab,H⟩:=H
 obtain⟨t,cx,rfl,rfl,cS,H⟩:=H
 replace ab:=cD.post ab cS
 rw[show Y (m+1) (.fn 140) [J.str s,J.ptr a 0] h=_ from dn (intr:=cj) (n:=m) (args:=[J.str s,J.ptr a 0]) Tryz.func140 (by kernel_rfl) (by kernel_rfl) (by kernel_rfl) (V4 (Y m) s t a h ab) (.inl rfl) (by kernel_rfl)];exact H
theorem Wi(call:aE->List J->aa->ao)(s:List UInt8)(a:Nat)(h:aa){Q:bA->af->Prop}(H:
  (0<(List.length s)->
   ∃(aZ:Nat),g1 0 s=some (J.int IntKind.u8 (Int.ofNat aZ))/\
   ∃(bY:Bool) (aK:aa),call (aE.fn 146) [J.ptr a 0,J.int IntKind.u8 (Int.ofNat aZ)] h=ao.ret (J.bool bY) aK/\
   ((!bY)=true->
     Q (bA.exit 0) (af.mk [(0,J.str s),(1,J.ptr a 0)] [] bH.none aK))/\
   ((!bY)=false->
     ∃(bC:List UInt8),d_ Tryz.prog aK 9 (J.str s) (some (J.int IntKind.i64 (Int.ofNat 1))) none none=some (J.str bC)/\
     Q (bA.nrm) (af.mk [(0,J.str bC),(1,J.ptr a 0)] [] bH.none aK)))/\
  (¬0<(List.length s)->
   Q (bA.exit 0) (af.mk [(0,J.str s),(1,J.ptr a 0)] [] bH.none h))):
  bz Tryz.prog Tryz.f140 call [1,0,0,0] (af.mk [(0,J.str s),(1,J.ptr a 0)] [] bH.none h) Q:=by
 by_cases ab:0<(List.length s)
 · have H:=H.1 ab
   obtain⟨aZ,ae,H⟩:=H
   obtain⟨bY,aK,aB,H⟩:=H
   rcases Bool.eq_false_or_eq_true ((!bY)) with aP|aP
   · have H:=H.1 aP
     exact bz.of (V5 call s a h aZ bY aK (du ab) ae aB aP) H
   · have H:=H.2 aP
     obtain⟨bC,cg,H⟩:=H
     exact bz.of (V6 call s a h aZ bY aK bC (du ab) ae aB aP cg) H
 · have H:=H.2 ab
   exact bz.of (V7 call s a h (dY ab)) H
theorem Wj(m:Nat)(a:Nat)(n:Nat)(h:aa){R:ao->Prop}(H:
  n<256/\
  ∃(bY:Bool),av h a (0+n*1)=some (J.bool bY)/\
  R (ao.ret (J.bool bY) h)):
  R (Y (m+1) (.fn 146) [J.ptr a 0,J.int IntKind.u8 (Int.ofNat n)] h):=by
 obtain⟨ab,H⟩:=H
 obtain⟨bY,ae,H⟩:=H
 rw[show Y (m+1) (.fn 146) [J.ptr a 0,J.int IntKind.u8 (Int.ofNat n)] h=_ from dn (intr:=cj) (n:=m) (args:=[J.ptr a 0,J.int IntKind.u8 (Int.ofNat n)]) Tryz.func146 (by kernel_rfl) (by kernel_rfl) (by kernel_rfl) (V8 (Y m) a n h bY ab ae) (.inl rfl) (by kernel_rfl)];exact H
theorem Wk(m:Nat)(s:List UInt8)(o:List UInt8)(h:aa){R:ao->Prop}(H:
  ∃(i:Int) (g:aa),(Y m) (aE.fn 144) [J.str s,J.str o] h=ao.ret (J.int IntKind.i64 i) g/\
  R (ao.ret (J.bool (dq (Int.ofNat 0) i)) g)):
  R (Y (m+1) (.fn 118) [J.str s,J.str o] h):=by
 obtain⟨i,g,ab,H⟩:=H
 rw[show Y (m+1) (.fn 118) [J.str s,J.str o] h=_ from dn (intr:=cj) (n:=m) (args:=[J.str s,J.str o]) Tryz.func118 (by kernel_rfl) (by kernel_rfl) (by kernel_rfl) (V9 (Y m) s o i h g ab) (.inl rfl) (by kernel_rfl)];exact H
theorem Wl(m:Nat)(s:List UInt8)(o:List UInt8)(h:aa){R:ao->Prop}(H:
  ∃(i:Int) (g:aa),(Y m) (aE.fn 150) [J.str s,J.str o] h=ao.ret (J.int IntKind.i64 i) g/\
  R (ao.ret (J.int IntKind.i64 i) g)):
  R (Y (m+1) (.fn 144) [J.str s,J.str o] h):=by
 obtain⟨i,g,ab,H⟩:=H
 rw[show Y (m+1) (.fn 144) [J.str s,J.str o] h=_ from dn (intr:=cj) (n:=m) (args:=[J.str s,J.str o]) Tryz.func144 (by kernel_rfl) (by kernel_rfl) (by kernel_rfl) (V_ (Y m) s o i h g ab) (.inl rfl) (by kernel_rfl)];exact H
theorem Wm(m:Nat)(s:List UInt8)(c:UInt8)(h:aa){R:ao->Prop}(H:
  cF [c] s=false/\
  g1 0 [c]=some (J.int IntKind.u8 (Int.ofNat (BitVec.toFin (UInt8.toBitVec c)).1))/\
  ∃(i:Int) (g:aa),(Y m) (aE.fn 155) [J.str s,J.int IntKind.u8 (Int.ofNat (BitVec.toFin (UInt8.toBitVec c)).1)] h=ao.ret (J.int IntKind.i64 i) g/\
  R (ao.ret (J.int IntKind.i64 i) g)):
  R (Y (m+1) (.fn 150) [J.str s,J.str [c]] h):=by
 obtain⟨ab,H⟩:=H
 obtain⟨ae,H⟩:=H
 obtain⟨i,g,aB,H⟩:=H
 rw[show Y (m+1) (.fn 150) [J.str s,J.str [c]] h=_ from dn (intr:=cj) (n:=m) (args:=[J.str s,J.str [c]]) Tryz.func150 (by kernel_rfl) (by kernel_rfl) (by kernel_rfl) (Wa (Y m) s c i h g ab ae aB) (.inl rfl) (by kernel_rfl)];exact H
theorem Wn(m:Nat)(s:List UInt8)(n:Nat)(h:aa){R:ao->Prop}(H:
  ∃(i:Int) (g:aa),(Y m) (aE.fn 161) [J.str s,J.int IntKind.u8 (Int.ofNat n)] h=ao.ret (J.int IntKind.i64 i) g/\
  R (ao.ret (J.int IntKind.i64 i) g)):
  R (Y (m+1) (.fn 155) [J.str s,J.int IntKind.u8 (Int.ofNat n)] h):=by
 obtain⟨i,g,ab,H⟩:=H
 rw[show Y (m+1) (.fn 155) [J.str s,J.int IntKind.u8 (Int.ofNat n)] h=_ from dn (intr:=cj) (n:=m) (args:=[J.str s,J.int IntKind.u8 (Int.ofNat n)]) Tryz.func155 (by kernel_rfl) (by kernel_rfl) (by kernel_rfl) (Wb (Y m) s n i h g ab) (.inl rfl) (by kernel_rfl)];exact H
theorem mn:Tryz.prog.underlying 9=some .string:=by kernel_rfl
theorem Wo(m:Nat)(h:aa):Y (m+1) (.fn 139) [.str pc] h=.ret (.aL [.agg (k3 qg),.bool true]) h:=by
 have e:cj 139 [.str pc] h=some (.aL [.agg (k3 qg),.bool true],h):=by kernel_rfl
 unfold Y;simp only[gk,e]
theorem Wp(m:Nat)(h:aa):Y (m+1) (.fn 139) [.str (pc++[45,47,46])] h=.ret (.aL [.agg (k3 kK),.bool true]) h:=by
 have e:cj 139 [.str (pc++[45,47,46])] h=some (.aL [.agg (k3 kK),.bool true],h):=by kernel_rfl
 unfold Y;simp only[gk,e]
theorem B6(p:Nat->Bool):(k3 p).length=256:=by simp[k3]
def B7(h:aa)(a:Nat)(p:Nat->Bool):Prop:=h.get a=some (.cells (k3 p) 177 .own 0 0)
theorem LI(m a n:Nat)(p:Nat->Bool)(h:aa)(aM:n<256)(bl:B7 h a p):Y (m+1) (.fn 146) [.ptr a 0,.int .u8 (Int.ofNat n)] h=.ret (.bool (p n)) h:=
 Wj m a n h (R:=λx=>x=_) ⟨aM,_,EU bl (by rw[show 0+n*1=n by omega];simp[k3,aM]),rfl⟩
theorem Wq(p:Nat->Bool)(s:bc)(hs:0<s.length)(aD:p (s[s.length-1]'(by omega)).toNat=true):(s.take (s.length-1)).all (λc=>p c.toNat)=s.all (λc=>p c.toNat):=by
 have e:s=s.take (s.length-1)++[s[s.length-1]'(by omega)]:=by
  have:=List.take_append_drop (s.length-1) s
  rw[List.drop_eq_getElem_cons (by omega),List.drop_of_length_le (by omega)] at this
  exact this.symm
 conv=>rhs;rw[e]
 rw[List.all_append];simp[aD]
theorem LJ{s:bc}{i:Nat}(h:i<s.length):g1 i s=some (.int .u8 (Int.ofNat (s[i]).toNat)):=nt h
theorem Wr(m a:Nat)(p:Nat->Bool)(s:bc)(h:aa)(hs:s.length<=90000)(bl:B7 h a p):∃t,Y (m+2) (.fn 141) [.str s,.ptr a 0] h=.ret (.str t) h/\t.length<=s.length/\t.all (λc=>p c.toNat)=s.all (λc=>p c.toNat)/\(t.all (λc=>p c.toNat)=true->t=[]):=by
 refine Wf (m+1) s a h (R:=λx=>∃t,x=.ret (.str t) h/\t.length<=s.length/\t.all (λc=>p c.toNat)=s.all (λc=>p c.toNat)/\(t.all (λc=>p c.toNat)=true->t=[])) ?_
 refine bz.loop (by kernel_rfl) (λk st=>∃(t:bc) (Γ:Env),st=⟨Γ,[],.none,h⟩/\cN [(0,.str t),(1,.ptr a 0)] Γ/\t.length=k/\t.length<=s.length/\t.all (λc=>p c.toNat)=s.all (λc=>p c.toNat)) ?_ s.length _ (by omega) ⟨s,_,rfl,⟨rfl,rfl,trivial⟩,rfl,Nat.le_refl _,rfl⟩
 rintro k st ⟨t,Γ,rfl,cS,ax,aD,aS⟩
 refine bz.pre (Wg (Y (m+1)) t a h ⟨λaz=>⟨⟨by omega,by omega⟩,_,LJ (by omega),_,_,LI m a _ p h (UInt8.toNat_lt _) bl,λai=>?_,λai=>?_⟩,λaz=>?_⟩) cS rfl rfl rfl
 · refine⟨t,_,rfl,rfl,⟨rfl,trivial⟩,t,rfl,aD,aS,λab=>?_⟩
   have:=List.all_eq_true.1 ab _ (List.getElem_mem (show t.length-1<t.length by omega))
   simp[this] at ai
 · have pJ:p (t[t.length-1]'(by omega)).toNat=true:=by simpa using ai
   refine⟨_,yu mn (by omega),_,(by show _<k;simp;omega),_,_,rfl,⟨rfl,rfl,trivial⟩,rfl,by simp;omega,by rw[Wq p t az pJ,aS]⟩
 · obtain rfl:t=[]:=List.eq_nil_of_length_eq_zero (by omega)
   exact⟨[],_,rfl,rfl,⟨rfl,trivial⟩,[],rfl,aD,aS,λ_=>rfl⟩
theorem Ws(m a:Nat)(p:Nat->Bool)(s:bc)(h:aa)(hs:s.length<=90000)(bl:B7 h a p):∃t,Y (m+2) (.fn 140) [.str s,.ptr a 0] h=.ret (.str t) h/\t.all (λc=>p c.toNat)=s.all (λc=>p c.toNat)/\(t.all (λc=>p c.toNat)=true->t=[]):=by
 refine Wh (m+1) s a h (R:=λx=>∃t,x=.ret (.str t) h/\t.all (λc=>p c.toNat)=s.all (λc=>p c.toNat)/\(t.all (λc=>p c.toNat)=true->t=[])) ?_
 refine bz.loop (by kernel_rfl) (λk st=>∃(t:bc) (Γ:Env),st=⟨Γ,[],.none,h⟩/\cN [(0,.str t),(1,.ptr a 0)] Γ/\t.length=k/\t.all (λc=>p c.toNat)=s.all (λc=>p c.toNat)) ?_ s.length _ (by omega) ⟨s,_,rfl,⟨rfl,rfl,trivial⟩,rfl,rfl⟩
 rintro k st ⟨t,Γ,rfl,cS,ax,aS⟩
 refine bz.pre (Wi (Y (m+1)) t a h ⟨λaz=>⟨_,LJ az,_,_,LI m a _ p h (UInt8.toNat_lt _) bl,λai=>?_,λai=>?_⟩,λaz=>?_⟩) cS rfl rfl rfl
 · refine⟨t,_,rfl,rfl,⟨rfl,trivial⟩,t,rfl,aS,λab=>?_⟩
   have:=List.all_eq_true.1 ab _ (List.getElem_mem az)
   simp[this] at ai
 · have pJ:p (t[0]'az).toNat=true:=by simpa using ai
   refine⟨_,EL mn (by omega),_,(by show _<k;simp;omega),_,_,rfl,⟨rfl,rfl,trivial⟩,rfl,?_⟩
   rw[<-aS]
   cases t with
   |nil=>simp at az
   |cons c t=>simp at pJ;simp[pJ]
 · obtain rfl:t=[]:=List.eq_nil_of_length_eq_zero (by omega)
   exact⟨[],_,rfl,rfl,⟨rfl,trivial⟩,[],rfl,aS,λ_=>rfl⟩
theorem sH(s:bc):cF s []=decide (s=[]):=by cases s<;>simp[cF]
theorem LK(m B:Nat)(p:Nat->Bool)(s o:bc)(h:aa)(b4:B<=h.n)(hs:s.length<=90000)(az:s≠[])(a7:o.length≠1)(aM:o≠[])(hm:Y (m+2) (.fn 139) [.str o] h=.ret (.aL [.agg (k3 p),.bool true]) h):
  ∃t an,Y (m+3) (.fn 116) [.str s,.str o] h=.ret (.str t) an/\cF t []=s.all (λc=>p c.toNat)/\Ext B h an:=by
 have st:aC.storeCells (h.push (.cells (List.replicate 256 (.bool false)) 177 .own 0 0)) h.n 0 (k3 p)=some ((h.push (.cells (List.replicate 256 (.bool false)) 177 .own 0 0)).set h.n (some (.cells (k3 p) 177 .own 0 0))):=by
  refine dP (eB rfl) (by rw[B6];rfl) ?_
  have:=yv (k3 p) (List.replicate 256 (.bool false)) (by simp[k3,J.cu]) (by rw[B6];simp)
  rw[this,B6];simp
 obtain⟨g,au⟩:∃g,g=(h.push (.cells (List.replicate 256 (.bool false)) 177 .own 0 0)).set h.n (some (.cells (k3 p) 177 .own 0 0)):=⟨_,rfl⟩
 rw[<-au] at st
 have jF:B7 g h.n p:=by rw[au];exact dF rfl
 have og:Ext B h g:=by rw[au];exact(Ext.push b4 _).fP b4
 obtain⟨t,c1,bK,dG,aF⟩:=Wr m h.n p s g hs jF
 obtain⟨u,c2,eJ,aG⟩:=Ws m h.n p t g (by omega) jF
 refine We (m+2) s o h (R:=λx=>∃t an,x=.ret (.str t) an/\cF t []=s.all (λc=>p c.toNat)/\Ext B h an) ⟨by rw[sH];simp[az],by rw[sH];simp[aM],a7,_,hm,_,⟨by rw[B6],st,rfl⟩,t,g,c1,u,g,c2,u,g,rfl,?_,og⟩
 rw[sH,<-dG,<-eJ]
 cases aS:u.all (λc=>p c.toNat) with
 |true=>simp[aG aS]
 |false=>
  cases u with
  |nil=>simp at aS
  |cons c u=>simp
theorem LL(m B:Nat)(p:Nat->Bool)(s o:bc)(n:Nat)(h:aa)(b4:B<=h.n)(acF:n<=90000)(a7:(o=[]/\p=qg)\/(o=[45,47,46]/\p=kK)):cc B h (.bool (decide (1<=s.length)&&decide (s.length<=n)&&s.all (λc=>p c.toNat))) (Y (m+4) (.fn 104) [.str s,.str o,.int .i64 (Int.ofNat n)] h):=by
 refine Wc (m+3) s o n h ⟨λab=>⟨λae=>?_,λae=>?_⟩,λab=>?_⟩
 · have az:s≠[]:=by rw[sH] at ab;simpa using ab
   have aU:1<=s.length:=List.length_pos_iff.2 az
   have key:∃t an,Y (m+3) (.fn 116) [.str s,.str (pc++o)] h=.ret (.str t) an/\cF t []=s.all (λc=>p c.toNat)/\Ext B h an:=by
    rcases a7 with⟨rfl,rfl⟩|⟨rfl,rfl⟩
    · rw[List.append_nil]
      exact LK m B qg s pc h b4 (by omega) az (by decide) (by decide) (Wo _ h)
    · exact LK m B kK s (pc++[45,47,46]) h b4 (by omega) az (by decide) (by decide) (Wp _ h)
   obtain⟨t,an,c,e,x⟩:=key
   exact⟨by rcases a7 with⟨rfl,_⟩|⟨rfl,_⟩<;>simp,t,an,c,cc.of (eZ (by rw[e];simp[aU,ae])) x⟩
 · exact cc.of (eZ (by simp[ae])) (Ext.refl _ _)
 · have az:s=[]:=by rw[sH] at ab;simpa using ab
   subst az
   exact cc.of (eZ (by simp)) (Ext.refl _ _)
end Go.Proofs.cT
