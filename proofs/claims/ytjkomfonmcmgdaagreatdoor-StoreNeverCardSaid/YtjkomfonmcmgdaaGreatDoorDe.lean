/-
  PROVED HERE: contracts of functions (De). No condition beside each statement's own.
-/
import Derived.Test.YtjkomfonmcmgdaaGreatDoorDc
import Derived.Test.YtjkomfonmcmgdaaGreatDoorSxb
set_option linter.unusedVariables false
set_option linter.unusedSimpArgs false
namespace Go.Proofs.cF
open Go aM Go.Proofs c_
set_option maxRecDepth 100000
set_option maxHeartbeats 1000000
theorem VU(call:aI->List I->J->av)(s o:List UInt8)(n:Nat)(h:J)(dX kB:List UInt8)(cz:J)
  (H1:(!dF s [])=true)
  (aQ:fb (.ofNat (List.length s)) (.ofNat n)=true)
  (bq:gA .add [97,98,99,100,101,102,103,104,105,106,107,108,109,110,111,112,113,114,115,116,117,118,119,120,121,122,65,66,67,68,69,70,71,72,73,74,75,76,77,78,79,80,81,82,83,84,85,86,87,88,89,90,48,49,50,51,52,53,54,55,56,57,95] o=some (.str dX))
  (bo:call (.fn 83) [.str s,.str dX] h=av.ret (.str kB) cz):
  aH Tryz.prog Tryz.f64 none call [] (ah.mk [(0,.str s),(1,.str o),(2,.int .i64 (.ofNat n))] [] .none h) (.ret)
   (ah.mk [(6,.bool (dF kB []))] [] .none cz):=
 bF [6] (hs:=[.b true,.b true,.b true,.b true,.b true,.b true,.b true,.b true,.v (.str dX),.b true,.c (.str kB) cz,.b true,.b true]) (by kernel_rfl)<| .cons H1<| .cons H1<| .cons H1<| .cons H1<| .cons H1<| .cons aQ<| .cons aQ<| .cons aQ<| .cons bq<| .cons aQ<| .cons bo<| .cons aQ<| .cons aQ<| .nil
theorem VV(call:aI->List I->J->av)(s o:List UInt8)(n:Nat)(h:J)
  (H1:(!dF s [])=true)
  (aQ:fb (.ofNat (List.length s)) (.ofNat n)=false):
  aH Tryz.prog Tryz.f64 none call [] (ah.mk [(0,.str s),(1,.str o),(2,.int .i64 (.ofNat n))] [] .none h) (.ret)
   (ah.mk [(6,.bool false)] [] .none h):=
 bF [6] (hs:=[.b true,.b true,.b true,.b true,.b true,.b false,.b false,.b false,.b false,.b false,.b false]) (by kernel_rfl)<| .cons H1<| .cons H1<| .cons H1<| .cons H1<| .cons H1<| .cons aQ<| .cons aQ<| .cons aQ<| .cons aQ<| .cons aQ<| .cons aQ<| .nil
theorem VW(call:aI->List I->J->av)(s o:List UInt8)(n:Nat)(h:J)
  (H1:(!dF s [])=false):
  aH Tryz.prog Tryz.f64 none call [] (ah.mk [(0,.str s),(1,.str o),(2,.int .i64 (.ofNat n))] [] .none h) (.ret)
   (ah.mk [(6,.bool false)] [] .none h):=
 bF [6] (hs:=[.b false,.b false,.b false,.b false,.b false,.b false,.b false,.b false,.b false,.b false,.b false]) (by kernel_rfl)<| .cons H1<| .cons H1<| .cons H1<| .cons H1<| .cons H1<| .cons (by kernel_rfl:false=false)<| .cons (by kernel_rfl:false=false)<| .cons (by kernel_rfl:false=false)<| .cons (by kernel_rfl:false=false)<| .cons (by kernel_rfl:false=false)<| .cons (by kernel_rfl:false=false)<| .nil
theorem VX(call:aI->List I->J->av)(s:List UInt8)(h:J)(dz:Bool)(cz:J)(dX:List UInt8)(rY:Bool)(hB:J)
  (H1:call (.fn 64) [.str s,.str [],.int .i64 (.ofNat 24)] h=av.ret (.bool dz) cz)
  (aQ:dz=true)
  (bq:de Tryz.prog cz 9 (I.str s) none (some (I.int IntKind.i64 (Int.ofNat 1))) none=some (I.str dX))
  (bo:call (.fn 85) [.str [48,49,50,51,52,53,54,55,56,57],.str dX] cz=av.ret (.bool rY) hB):
  aH Tryz.prog Tryz.f67 none call [] (ah.mk [(0,.str s)] [] .none h) (.ret)
   (ah.mk [(2,.bool !rY)] [] .none hB):=
 bF [2] (hs:=[.c (.bool dz) cz,.b true,.b true,.v (.str dX),.b true,.c (.bool rY) hB,.b true,.b true]) (by kernel_rfl)<| .cons H1<| .cons aQ<| .cons aQ<| .cons bq<| .cons aQ<| .cons bo<| .cons aQ<| .cons aQ<| .nil
theorem VY(call:aI->List I->J->av)(s:List UInt8)(h:J)(dz:Bool)(cz:J)
  (H1:call (.fn 64) [.str s,.str [],.int .i64 (.ofNat 24)] h=av.ret (.bool dz) cz)
  (aQ:dz=false):
  aH Tryz.prog Tryz.f67 none call [] (ah.mk [(0,.str s)] [] .none h) (.ret)
   (ah.mk [(2,.bool false)] [] .none cz):=
 bF [2] (hs:=[.c (.bool dz) cz,.b false,.b false,.b false,.b false,.b false]) (by kernel_rfl)<| .cons H1<| .cons aQ<| .cons aQ<| .cons aQ<| .cons aQ<| .cons aQ<| .nil
theorem trim(call:aI->List I->J->av)(s o:List UInt8)(l:List I)(h cz:J)(dX:List UInt8)(hB:J)(kB:List UInt8)(rZ:J)
  (H1:dF s []=false)
  (aQ:dF o []=false)
  (bq:a8 (.ofNat (List.length o)) (.ofNat 1)=false)
  (bo:call (.fn 106) [.str o] h=av.ret (.aP [.agg l,.bool true]) h)
  (bY:some 256=some (List.length l)/\aM.storeCells (J.push h (da.cells (List.replicate 256 (I.bool false)) 144 gE.own 0 0)) (J.n h) 0 l=some cz/\I.aP []=I.aP [])
  (cJ:call (.fn 108) [.str s,.ptr (J.n h) 0] cz=av.ret (.str dX) hB)
  (dk:call (.fn 107) [.str dX,.ptr (J.n h) 0] hB=av.ret (.str kB) rZ):
  aH Tryz.prog Tryz.f83 none call [] (ah.mk [(0,.str s),(1,.str o)] [] .none h) (.ret)
   (ah.mk [(4,.str kB)] [] .none rZ):=
 bF [4] (hs:=[.b false,.b false,.b false,.b false,.b false,.b false,.b false,.b false,.b false,.c (.aP [.agg l,.bool true]) h,.lR (.aP []) cz,.b true,.c (.str dX) hB,.c (.str kB) rZ]) (by kernel_rfl)<| .cons H1<| .cons H1<| .cons H1<| .cons aQ<| .cons bq<| .cons bq<| .cons bq<| .cons bq<| .cons (by kernel_rfl:false=false)<| .cons bo<| .cons bY<| .cons (by kernel_rfl:true=true)<| .cons cJ<| .cons dk<| .nil
theorem VZ(call:aI->List I->J->av)(s t:List UInt8)(a:Nat)(h:J)
  (H1:aH Tryz.prog Tryz.f108 none call [1,0,0] (ah.mk [(4,.str []),(0,.str s),(1,.ptr a 0)] [] .none h) (.exit 0) (ah.mk [(0,.str t)] [] .none h)):
  aH Tryz.prog Tryz.f108 none call [] (ah.mk [(0,.str s),(1,.ptr a 0)] [] .none h) (.ret)
   (ah.mk [(4,.str t)] [] .none h):=
 bF [4] (hs:=[Hint.loop (bn.exit 0) (ah.mk [(0,I.str t)] [] bD.none h)]) (by kernel_rfl)<| .cons H1<| .nil
theorem V0(call:aI->List I->J->av)(s:List UInt8)(a:Nat)(h:J)(fk mP:Nat)(dz:Bool)(cz:J)
  (H1:bM (.ofNat 0) (.ofNat (List.length s))=true)
  (aQ:arith .sub .i64 (.ofNat (List.length s)) (.ofNat 1)=some (.int .i64 (.ofNat fk)))
  (bq:gH fk s=some (.int .u8 (.ofNat mP)))
  (bo:call (.fn 113) [.ptr a 0,.int .u8 (.ofNat mP)] h=av.ret (.bool dz) cz)
  (bY:(!dz)=true):
  aH Tryz.prog Tryz.f108 none call [1,0,0,0] (ah.mk [(0,.str s),(1,.ptr a 0)] [] .none h) (.exit 0)
   (ah.mk [(0,.str s),(1,.ptr a 0)] [] .none cz):=
 bF [0,1] (hs:=[.o (.int .i64 (.ofNat (List.length s))),.b true,.o (.int .i64 (.ofNat (List.length s))),.v (.int .i64 (.ofNat fk)),.v (.int .u8 (.ofNat mP)),.c (.bool dz) cz,.b true]) (by kernel_rfl)<| .cons (by kernel_rfl:b9 Tryz.prog h 9 (I.str s)=some (I.int IntKind.i64 (Int.ofNat (List.length s))))<| .cons H1<| .cons (by kernel_rfl:b9 Tryz.prog h 9 (I.str s)=some (I.int IntKind.i64 (Int.ofNat (List.length s))))<| .cons aQ<| .cons bq<| .cons bo<| .cons bY<| .nil
theorem V1(call:aI->List I->J->av)(s:List UInt8)(a:Nat)(h:J)(fk mP:Nat)(dz:Bool)(cz:J)(dX:List UInt8)
  (H1:bM (.ofNat 0) (.ofNat (List.length s))=true)
  (aQ:arith .sub .i64 (.ofNat (List.length s)) (.ofNat 1)=some (.int .i64 (.ofNat fk)))
  (bq:gH fk s=some (.int .u8 (.ofNat mP)))
  (bo:call (.fn 113) [.ptr a 0,.int .u8 (.ofNat mP)] h=av.ret (.bool dz) cz)
  (bY:(!dz)=false)
  (cJ:de Tryz.prog cz 9 (I.str s) none (some (I.int IntKind.i64 (Int.ofNat fk))) none=some (I.str dX)):
  aH Tryz.prog Tryz.f108 none call [1,0,0,0] (ah.mk [(0,.str s),(1,.ptr a 0)] [] .none h) (.nrm)
   (ah.mk [(0,.str dX),(1,.ptr a 0)] [] .none cz):=
 bF [0,1] (hs:=[.o (.int .i64 (.ofNat (List.length s))),.b true,.o (.int .i64 (.ofNat (List.length s))),.v (.int .i64 (.ofNat fk)),.v (.int .u8 (.ofNat mP)),.c (.bool dz) cz,.b false,.o (.int .i64 (.ofNat (List.length s))),.v (.int .i64 (.ofNat fk)),.v (.str dX)]) (by kernel_rfl)<| .cons (by kernel_rfl:b9 Tryz.prog h 9 (I.str s)=some (I.int IntKind.i64 (Int.ofNat (List.length s))))<| .cons H1<| .cons (by kernel_rfl:b9 Tryz.prog h 9 (I.str s)=some (I.int IntKind.i64 (Int.ofNat (List.length s))))<| .cons aQ<| .cons bq<| .cons bo<| .cons bY<| .cons (by kernel_rfl:b9 Tryz.prog cz 9 (I.str s)=some (I.int IntKind.i64 (Int.ofNat (List.length s))))<| .cons aQ<| .cons cJ<| .nil
theorem V2(call:aI->List I->J->av)(s:List UInt8)(a:Nat)(h:J)
  (H1:bM (.ofNat 0) (.ofNat (List.length s))=false):
  aH Tryz.prog Tryz.f108 none call [1,0,0,0] (ah.mk [(0,.str s),(1,.ptr a 0)] [] .none h) (.exit 0)
   (ah.mk [(0,.str s),(1,.ptr a 0)] [] .none h):=
 bF [0,1] (hs:=[.o (.int .i64 (.ofNat (List.length s))),.b false]) (by kernel_rfl)<| .cons (by kernel_rfl:b9 Tryz.prog h 9 (I.str s)=some (I.int IntKind.i64 (Int.ofNat (List.length s))))<| .cons H1<| .nil
theorem V3(call:aI->List I->J->av)(s t:List UInt8)(a:Nat)(h:J)
  (H1:aH Tryz.prog Tryz.f107 none call [1,0,0] (ah.mk [(4,.str []),(0,.str s),(1,.ptr a 0)] [] .none h) (.exit 0) (ah.mk [(0,.str t)] [] .none h)):
  aH Tryz.prog Tryz.f107 none call [] (ah.mk [(0,.str s),(1,.ptr a 0)] [] .none h) (.ret)
   (ah.mk [(4,.str t)] [] .none h):=
 bF [4] (hs:=[Hint.loop (bn.exit 0) (ah.mk [(0,I.str t)] [] bD.none h)]) (by kernel_rfl)<| .cons H1<| .nil
theorem V4(call:aI->List I->J->av)(s:List UInt8)(a:Nat)(h:J)(fk:Nat)(dz:Bool)(cz:J)
  (H1:bM (.ofNat 0) (.ofNat (List.length s))=true)
  (aQ:gH 0 s=some (.int .u8 (.ofNat fk)))
  (bq:call (.fn 113) [.ptr a 0,.int .u8 (.ofNat fk)] h=av.ret (.bool dz) cz)
  (bo:(!dz)=true):
  aH Tryz.prog Tryz.f107 none call [1,0,0,0] (ah.mk [(0,.str s),(1,.ptr a 0)] [] .none h) (.exit 0)
   (ah.mk [(0,.str s),(1,.ptr a 0)] [] .none cz):=
 bF [0,1] (hs:=[.o (.int .i64 (.ofNat (List.length s))),.b true,.v (.int .u8 (.ofNat fk)),.c (.bool dz) cz,.b true]) (by kernel_rfl)<| .cons (by kernel_rfl:b9 Tryz.prog h 9 (I.str s)=some (I.int IntKind.i64 (Int.ofNat (List.length s))))<| .cons H1<| .cons aQ<| .cons bq<| .cons bo<| .nil
theorem V5(call:aI->List I->J->av)(s:List UInt8)(a:Nat)(h:J)(fk:Nat)(dz:Bool)(cz:J)(dX:List UInt8)
  (H1:bM (.ofNat 0) (.ofNat (List.length s))=true)
  (aQ:gH 0 s=some (.int .u8 (.ofNat fk)))
  (bq:call (.fn 113) [.ptr a 0,.int .u8 (.ofNat fk)] h=av.ret (.bool dz) cz)
  (bo:(!dz)=false)
  (bY:de Tryz.prog cz 9 (I.str s) (some (I.int IntKind.i64 (Int.ofNat 1))) none none=some (I.str dX)):
  aH Tryz.prog Tryz.f107 none call [1,0,0,0] (ah.mk [(0,.str s),(1,.ptr a 0)] [] .none h) (.nrm)
   (ah.mk [(0,.str dX),(1,.ptr a 0)] [] .none cz):=
 bF [0,1] (hs:=[.o (.int .i64 (.ofNat (List.length s))),.b true,.v (.int .u8 (.ofNat fk)),.c (.bool dz) cz,.b false,.v (.str dX)]) (by kernel_rfl)<| .cons (by kernel_rfl:b9 Tryz.prog h 9 (I.str s)=some (I.int IntKind.i64 (Int.ofNat (List.length s))))<| .cons H1<| .cons aQ<| .cons bq<| .cons bo<| .cons bY<| .nil
theorem V6(call:aI->List I->J->av)(s:List UInt8)(a:Nat)(h:J)
  (H1:bM (.ofNat 0) (.ofNat (List.length s))=false):
  aH Tryz.prog Tryz.f107 none call [1,0,0,0] (ah.mk [(0,.str s),(1,.ptr a 0)] [] .none h) (.exit 0)
   (ah.mk [(0,.str s),(1,.ptr a 0)] [] .none h):=
 bF [0,1] (hs:=[.o (.int .i64 (.ofNat (List.length s))),.b false]) (by kernel_rfl)<| .cons (by kernel_rfl:b9 Tryz.prog h 9 (I.str s)=some (I.int IntKind.i64 (Int.ofNat (List.length s))))<| .cons H1<| .nil
theorem V7(call:aI->List I->J->av)(a n:Nat)(h:J)(dz:Bool)
  (H1:Nat.le (Nat.succ n) 256)
  (aQ:au h a (0+n*1)=some (.bool dz)):
  aH Tryz.prog Tryz.f113 none call [] (ah.mk [(0,.ptr a 0),(1,.int .u8 (.ofNat n))] [] .none h) (.ret)
   (ah.mk [(4,.bool dz)] [] .none h):=
 bF [4] (hs:=[.v (.ptr a (0+n*1)),.v (.bool dz)]) (by kernel_rfl)<| .cons (⟨H1,rfl⟩:Nat.le (Nat.succ n) 256/\I.ptr a (0+n*1)=I.ptr a (0+n*1))<| .cons aQ<| .nil
theorem V8(call:aI->List I->J->av)(s o:List UInt8)(i:Int)(h g:J)
  (H1:call (.fn 111) [.str s,.str o] h=av.ret (.int .i64 i) g):
  aH Tryz.prog Tryz.f85 none call [] (ah.mk [(0,.str s),(1,.str o)] [] .none h) (.ret)
   (ah.mk [(4,.bool (fb (.ofNat 0) i))] [] .none g):=
 bF [4] (hs:=[.c (.int .i64 i) g]) (by kernel_rfl)<| .cons H1<| .nil
theorem V9(call:aI->List I->J->av)(s o:List UInt8)(i:Int)(h g:J)
  (H1:call (.fn 117) [.str s,.str o] h=av.ret (.int .i64 i) g):
  aH Tryz.prog Tryz.f111 none call [] (ah.mk [(0,.str s),(1,.str o)] [] .none h) (.ret)
   (ah.mk [(4,.int .i64 i)] [] .none g):=
 bF [4] (hs:=[.c (.int .i64 i) g]) (by kernel_rfl)<| .cons H1<| .nil
theorem V_(call:aI->List I->J->av)(s:List UInt8)(c:UInt8)(i:Int)(h g:J)
  (H1:dF [c] s=false)
  (aQ:gH 0 [c]=some (.int .u8 (.ofNat (BitVec.toFin (UInt8.toBitVec c)).1)))
  (bq:call (.fn 121) [.str s,.int .u8 (.ofNat (BitVec.toFin (UInt8.toBitVec c)).1)] h=av.ret (.int .i64 i) g):
  aH Tryz.prog Tryz.f117 none call [] (ah.mk [(0,.str s),(1,.str [c])] [] .none h) (.ret)
   (ah.mk [(4,.int .i64 i)] [] .none g):=
 bF [4] (hs:=[.b false,.b false,.b false,.b false,.b false,.b true,.v (.int .u8 (.ofNat (UInt8.toNat c))),.c (.int .i64 i) g]) (by kernel_rfl)<| .cons (by kernel_rfl:a8 (Int.ofNat 1) (Int.ofNat 0)=false)<| .cons (by kernel_rfl:a8 (Int.ofNat 1) (Int.ofNat 0)=false)<| .cons (by kernel_rfl:a8 (Int.ofNat 1) (Int.ofNat 0)=false)<| .cons (by kernel_rfl:a8 (Int.ofNat 1) (Int.ofNat 0)=false)<| .cons H1<| .cons (by kernel_rfl:a8 (Int.ofNat 1) (Int.ofNat 1)=true)<| .cons aQ<| .cons bq<| .nil
theorem Wa(call:aI->List I->J->av)(s:List UInt8)(n:Nat)(i:Int)(h g:J)
  (H1:call (.fn 127) [.str s,.int .u8 (.ofNat n)] h=av.ret (.int .i64 i) g):
  aH Tryz.prog Tryz.f121 none call [] (ah.mk [(0,.str s),(1,.int .u8 (.ofNat n))] [] .none h) (.ret)
   (ah.mk [(4,.int .i64 i)] [] .none g):=
 bF [4] (hs:=[.c (.int .i64 i) g]) (by kernel_rfl)<| .cons H1<| .nil
theorem Wb(m:Nat)(s:List UInt8)(o:List UInt8)(n:Nat)(h:J){R:av->Prop}(H:
  ((!dF s [])=true->
    ((List.length s)<=n->
      List.length [97,98,99,100,101,102,103,104,105,106,107,108,109,110,111,112,113,114,115,116,117,118,119,120,121,122,65,66,67,68,69,70,71,72,73,74,75,76,77,78,79,80,81,82,83,84,85,86,87,88,89,90,48,49,50,51,52,53,54,55,56,57,95]+List.length o<=1000000000000/\
      ∃(kB:List UInt8) (cz:J),(Y m) (aI.fn 83) [I.str s,I.str ([97,98,99,100,101,102,103,104,105,106,107,108,109,110,111,112,113,114,115,116,117,118,119,120,121,122,65,66,67,68,69,70,71,72,73,74,75,76,77,78,79,80,81,82,83,84,85,86,87,88,89,90,48,49,50,51,52,53,54,55,56,57,95]++o)] h=av.ret (I.str kB) cz/\
      R (av.ret (I.bool (dF kB [])) cz))/\
    (¬(List.length s)<=n->
     R (av.ret (I.bool false) h)))/\
  ((!dF s [])=false->
    R (av.ret (I.bool false) h))):
  R (Y (m+1) (.fn 64) [I.str s,I.str o,I.int IntKind.i64 (Int.ofNat n)] h):=by
 rcases Bool.eq_false_or_eq_true ((!dF s [])) with ab|ab
 · have H:=H.1 ab
   by_cases ad:(List.length s)<=n
   · have H:=H.1 ad
     obtain⟨ar,H⟩:=H
     obtain⟨kB,cz,aJ,H⟩:=H
     rw[show Y (m+1) (.fn 64) [I.str s,I.str o,I.int IntKind.i64 (Int.ofNat n)] h=_ from eK (intr:=b1) (n:=m) (args:=[I.str s,I.str o,I.int IntKind.i64 (Int.ofNat n)]) Tryz.func64 (by kernel_rfl) (by kernel_rfl) (by kernel_rfl) (VU (Y m) s o n h ([97,98,99,100,101,102,103,104,105,106,107,108,109,110,111,112,113,114,115,116,117,118,119,120,121,122,65,66,67,68,69,70,71,72,73,74,75,76,77,78,79,80,81,82,83,84,85,86,87,88,89,90,48,49,50,51,52,53,54,55,56,57,95]++o) kB cz ab (mA ad) (hy ar) aJ) (.inl rfl) (by kernel_rfl)];exact H
   · have H:=H.2 ad
     rw[show Y (m+1) (.fn 64) [I.str s,I.str o,I.int IntKind.i64 (Int.ofNat n)] h=_ from eK (intr:=b1) (n:=m) (args:=[I.str s,I.str o,I.int IntKind.i64 (Int.ofNat n)]) Tryz.func64 (by kernel_rfl) (by kernel_rfl) (by kernel_rfl) (VV (Y m) s o n h ab (ob ad)) (.inl rfl) (by kernel_rfl)];exact H
 · have H:=H.2 ab
   rw[show Y (m+1) (.fn 64) [I.str s,I.str o,I.int IntKind.i64 (Int.ofNat n)] h=_ from eK (intr:=b1) (n:=m) (args:=[I.str s,I.str o,I.int IntKind.i64 (Int.ofNat n)]) Tryz.func64 (by kernel_rfl) (by kernel_rfl) (by kernel_rfl) (VW (Y m) s o n h ab) (.inl rfl) (by kernel_rfl)];exact H
theorem Wc(m:Nat)(s:List UInt8)(h:J){R:av->Prop}(H:
  ∃(dz:Bool) (cz:J),(Y m) (aI.fn 64) [I.str s,I.str [],I.int IntKind.i64 (Int.ofNat 24)] h=av.ret (I.bool dz) cz/\
  (dz=true->
   ∃(dX:List UInt8),de Tryz.prog cz 9 (I.str s) none (some (I.int IntKind.i64 (Int.ofNat 1))) none=some (I.str dX)/\
   ∃(rY:Bool) (hB:J),(Y m) (aI.fn 85) [I.str [48,49,50,51,52,53,54,55,56,57],I.str dX] cz=av.ret (I.bool rY) hB/\
   R (av.ret (I.bool !rY) hB))/\
  (dz=false->
   R (av.ret (I.bool false) cz))):
  R (Y (m+1) (.fn 67) [I.str s] h):=by
 obtain⟨dz,cz,ab,H⟩:=H
 rcases Bool.eq_false_or_eq_true (dz) with ad|ad
 · have H:=H.1 ad
   obtain⟨dX,ar,H⟩:=H
   obtain⟨rY,hB,aJ,H⟩:=H
   rw[show Y (m+1) (.fn 67) [I.str s] h=_ from eK (intr:=b1) (n:=m) (args:=[I.str s]) Tryz.func67 (by kernel_rfl) (by kernel_rfl) (by kernel_rfl) (VX (Y m) s h dz cz dX rY hB ab ad ar aJ) (.inl rfl) (by kernel_rfl)];exact H
 · have H:=H.2 ad
   rw[show Y (m+1) (.fn 67) [I.str s] h=_ from eK (intr:=b1) (n:=m) (args:=[I.str s]) Tryz.func67 (by kernel_rfl) (by kernel_rfl) (by kernel_rfl) (VY (Y m) s h dz cz ab ad) (.inl rfl) (by kernel_rfl)];exact H
theorem Wd(m:Nat)(s:List UInt8)(o:List UInt8)(h:J){R:av->Prop}(H:
  dF s []=false/\
  dF o []=false/\
  ¬(List.length o)=1/\
  ∃(l:List I),(Y m) (aI.fn 106) [I.str o] h=av.ret (I.aP [I.agg l,I.bool true]) h/\
  ∃(cz:J),(some 256=some (List.length l)/\aM.storeCells (J.push h (da.cells (List.replicate 256 (I.bool false)) 144 gE.own 0 0)) (J.n h) 0 l=some cz/\I.aP []=I.aP [])/\
  ∃(dX:List UInt8) (hB:J),(Y m) (aI.fn 108) [I.str s,I.ptr (J.n h) 0] cz=av.ret (I.str dX) hB/\
  ∃(kB:List UInt8) (rZ:J),(Y m) (aI.fn 107) [I.str dX,I.ptr (J.n h) 0] hB=av.ret (I.str kB) rZ/\
  R (av.ret (I.str kB) rZ)):
  R (Y (m+1) (.fn 83) [I.str s,I.str o] h):=by
 obtain⟨ab,H⟩:=H
 obtain⟨ad,H⟩:=H
 obtain⟨ar,H⟩:=H
 obtain⟨l,aJ,H⟩:=H
 obtain⟨cz,bO,H⟩:=H
 obtain⟨dX,hB,cj,H⟩:=H
 obtain⟨kB,rZ,db,H⟩:=H
 rw[show Y (m+1) (.fn 83) [I.str s,I.str o] h=_ from eK (intr:=b1) (n:=m) (args:=[I.str s,I.str o]) Tryz.func83 (by kernel_rfl) (by kernel_rfl) (by kernel_rfl) (trim (Y m) s o l h cz dX hB kB rZ ab ad (ji ar) aJ bO cj db) (.inl rfl) (by kernel_rfl)];exact H
theorem We(m:Nat)(s:List UInt8)(a:Nat)(h:J){R:av->Prop}(H:
  a4 Tryz.prog Tryz.f108 (Y m) [1,0,0] (ah.mk [(4,I.str []),(0,I.str s),(1,I.ptr a 0)] [] bD.none h) (λcd ct=>
   (∃(t:List UInt8) (cg:Env),cd=(bn.exit 0)/\ct=(ah.mk cg [] bD.none h)/\cl [(0,I.str t)] cg/\
    R (av.ret (I.str t) h)))):
  R (Y (m+1) (.fn 108) [I.str s,I.ptr a 0] h):=by
 obtain⟨cd,ct,ab,H⟩:=H
 obtain⟨t,cg,rfl,rfl,cP,H⟩:=H
 replace ab:=cZ.post ab cP
 rw[show Y (m+1) (.fn 108) [I.str s,I.ptr a 0] h=_ from eK (intr:=b1) (n:=m) (args:=[I.str s,I.ptr a 0]) Tryz.func108 (by kernel_rfl) (by kernel_rfl) (by kernel_rfl) (VZ (Y m) s t a h ab) (.inl rfl) (by kernel_rfl)];exact H
theorem Wf(call:aI->List I->J->av)(s:List UInt8)(a:Nat)(h:J){Q:bn->ah->Prop}(H:
  (0<(List.length s)->
   (1<=(List.length s)/\(List.length s)<9223372036854775808)/\
   ∃(mP:Nat),gH ((List.length s)-1) s=some (I.int IntKind.u8 (Int.ofNat mP))/\
   ∃(dz:Bool) (cz:J),call (aI.fn 113) [I.ptr a 0,I.int IntKind.u8 (Int.ofNat mP)] h=av.ret (I.bool dz) cz/\
   ((!dz)=true->
     Q (bn.exit 0) (ah.mk [(0,I.str s),(1,I.ptr a 0)] [] bD.none cz))/\
   ((!dz)=false->
     ∃(dX:List UInt8),de Tryz.prog cz 9 (I.str s) none (some (I.int IntKind.i64 (Int.ofNat ((List.length s)-1)))) none=some (I.str dX)/\
     Q (bn.nrm) (ah.mk [(0,I.str dX),(1,I.ptr a 0)] [] bD.none cz)))/\
  (¬0<(List.length s)->
   Q (bn.exit 0) (ah.mk [(0,I.str s),(1,I.ptr a 0)] [] bD.none h))):
  a4 Tryz.prog Tryz.f108 call [1,0,0,0] (ah.mk [(0,I.str s),(1,I.ptr a 0)] [] bD.none h) Q:=by
 by_cases ab:0<(List.length s)
 · have H:=H.1 ab
   obtain⟨ad,H⟩:=H
   obtain⟨mP,ar,H⟩:=H
   obtain⟨dz,cz,aJ,H⟩:=H
   rcases Bool.eq_false_or_eq_true ((!dz)) with bO|bO
   · have H:=H.1 bO
     exact a4.of (V0 call s a h ((List.length s)-1) mP dz cz (dS ab) (vb ad.1 ad.2) ar aJ bO) H
   · have H:=H.2 bO
     obtain⟨dX,cj,H⟩:=H
     exact a4.of (V1 call s a h ((List.length s)-1) mP dz cz dX (dS ab) (vb ad.1 ad.2) ar aJ bO cj) H
 · have H:=H.2 ab
   exact a4.of (V2 call s a h (eW ab)) H
theorem Wg(m:Nat)(s:List UInt8)(a:Nat)(h:J){R:av->Prop}(H:
  a4 Tryz.prog Tryz.f107 (Y m) [1,0,0] (ah.mk [(4,I.str []),(0,I.str s),(1,I.ptr a 0)] [] bD.none h) (λcd ct=>
   (∃(t:List UInt8) (cg:Env),cd=(bn.exit 0)/\ct=(ah.mk cg [] bD.none h)/\cl [(0,I.str t)] cg/\
    R (av.ret (I.str t) h)))):
  R (Y (m+1) (.fn 107) [I.str s,I.ptr a 0] h):=by
 obtain⟨cd,ct,ab,H⟩:=H
 obtain⟨t,cg,rfl,rfl,cP,H⟩:=H
 replace ab:=cZ.post ab cP
 rw[show Y (m+1) (.fn 107) [I.str s,I.ptr a 0] h=_ from eK (intr:=b1) (n:=m) (args:=[I.str s,I.ptr a 0]) Tryz.func107 (by kernel_rfl) (by kernel_rfl) (by kernel_rfl) (V3 (Y m) s t a h ab) (.inl rfl) (by kernel_rfl)];exact H
theorem Wh(call:aI->List I->J->av)(s:List UInt8)(a:Nat)(h:J){Q:bn->ah->Prop}(H:
  (0<(List.length s)->
   ∃(fk:Nat),gH 0 s=some (I.int IntKind.u8 (Int.ofNat fk))/\
   ∃(dz:Bool) (cz:J),call (aI.fn 113) [I.ptr a 0,I.int IntKind.u8 (Int.ofNat fk)] h=av.ret (I.bool dz) cz/\
   ((!dz)=true->
     Q (bn.exit 0) (ah.mk [(0,I.str s),(1,I.ptr a 0)] [] bD.none cz))/\
   ((!dz)=false->
     ∃(dX:List UInt8),de Tryz.prog cz 9 (I.str s) (some (I.int IntKind.i64 (Int.ofNat 1))) none none=some (I.str dX)/\
     Q (bn.nrm) (ah.mk [(0,I.str dX),(1,I.ptr a 0)] [] bD.none cz)))/\
  (¬0<(List.length s)->
   Q (bn.exit 0) (ah.mk [(0,I.str s),(1,I.ptr a 0)] [] bD.none h))):
  a4 Tryz.prog Tryz.f107 call [1,0,0,0] (ah.mk [(0,I.str s),(1,I.ptr a 0)] [] bD.none h) Q:=by
 by_cases ab:0<(List.length s)
 · have H:=H.1 ab
   obtain⟨fk,ad,H⟩:=H
   obtain⟨dz,cz,ar,H⟩:=H
   rcases Bool.eq_false_or_eq_true ((!dz)) with aJ|aJ
   · have H:=H.1 aJ
     exact a4.of (V4 call s a h fk dz cz (dS ab) ad ar aJ) H
   · have H:=H.2 aJ
     obtain⟨dX,bO,H⟩:=H
     exact a4.of (V5 call s a h fk dz cz dX (dS ab) ad ar aJ bO) H
 · have H:=H.2 ab
   exact a4.of (V6 call s a h (eW ab)) H
theorem Wi(m:Nat)(a:Nat)(n:Nat)(h:J){R:av->Prop}(H:
  n<256/\
  ∃(dz:Bool),au h a (0+n*1)=some (I.bool dz)/\
  R (av.ret (I.bool dz) h)):
  R (Y (m+1) (.fn 113) [I.ptr a 0,I.int IntKind.u8 (Int.ofNat n)] h):=by
 obtain⟨ab,H⟩:=H
 obtain⟨dz,ad,H⟩:=H
 rw[show Y (m+1) (.fn 113) [I.ptr a 0,I.int IntKind.u8 (Int.ofNat n)] h=_ from eK (intr:=b1) (n:=m) (args:=[I.ptr a 0,I.int IntKind.u8 (Int.ofNat n)]) Tryz.func113 (by kernel_rfl) (by kernel_rfl) (by kernel_rfl) (V7 (Y m) a n h dz ab ad) (.inl rfl) (by kernel_rfl)];exact H
theorem Wj(m:Nat)(s:List UInt8)(o:List UInt8)(h:J){R:av->Prop}(H:
  ∃(i:Int) (g:J),(Y m) (aI.fn 111) [I.str s,I.str o] h=av.ret (I.int IntKind.i64 i) g/\
  R (av.ret (I.bool (fb (Int.ofNat 0) i)) g)):
  R (Y (m+1) (.fn 85) [I.str s,I.str o] h):=by
 obtain⟨i,g,ab,H⟩:=H
 rw[show Y (m+1) (.fn 85) [I.str s,I.str o] h=_ from eK (intr:=b1) (n:=m) (args:=[I.str s,I.str o]) Tryz.func85 (by kernel_rfl) (by kernel_rfl) (by kernel_rfl) (V8 (Y m) s o i h g ab) (.inl rfl) (by kernel_rfl)];exact H
theorem Wk(m:Nat)(s:List UInt8)(o:List UInt8)(h:J){R:av->Prop}(H:
  ∃(i:Int) (g:J),(Y m) (aI.fn 117) [I.str s,I.str o] h=av.ret (I.int IntKind.i64 i) g/\
  R (av.ret (I.int IntKind.i64 i) g)):
  R (Y (m+1) (.fn 111) [I.str s,I.str o] h):=by
 obtain⟨i,g,ab,H⟩:=H
 rw[show Y (m+1) (.fn 111) [I.str s,I.str o] h=_ from eK (intr:=b1) (n:=m) (args:=[I.str s,I.str o]) Tryz.func111 (by kernel_rfl) (by kernel_rfl) (by kernel_rfl) (V9 (Y m) s o i h g ab) (.inl rfl) (by kernel_rfl)];exact H
theorem Wl(m:Nat)(s:List UInt8)(c:UInt8)(h:J){R:av->Prop}(H:
  dF [c] s=false/\
  gH 0 [c]=some (I.int IntKind.u8 (Int.ofNat (BitVec.toFin (UInt8.toBitVec c)).1))/\
  ∃(i:Int) (g:J),(Y m) (aI.fn 121) [I.str s,I.int IntKind.u8 (Int.ofNat (BitVec.toFin (UInt8.toBitVec c)).1)] h=av.ret (I.int IntKind.i64 i) g/\
  R (av.ret (I.int IntKind.i64 i) g)):
  R (Y (m+1) (.fn 117) [I.str s,I.str [c]] h):=by
 obtain⟨ab,H⟩:=H
 obtain⟨ad,H⟩:=H
 obtain⟨i,g,ar,H⟩:=H
 rw[show Y (m+1) (.fn 117) [I.str s,I.str [c]] h=_ from eK (intr:=b1) (n:=m) (args:=[I.str s,I.str [c]]) Tryz.func117 (by kernel_rfl) (by kernel_rfl) (by kernel_rfl) (V_ (Y m) s c i h g ab ad ar) (.inl rfl) (by kernel_rfl)];exact H
theorem Wm(m:Nat)(s:List UInt8)(n:Nat)(h:J){R:av->Prop}(H:
  ∃(i:Int) (g:J),(Y m) (aI.fn 127) [I.str s,I.int IntKind.u8 (Int.ofNat n)] h=av.ret (I.int IntKind.i64 i) g/\
  R (av.ret (I.int IntKind.i64 i) g)):
  R (Y (m+1) (.fn 121) [I.str s,I.int IntKind.u8 (Int.ofNat n)] h):=by
 obtain⟨i,g,ab,H⟩:=H
 rw[show Y (m+1) (.fn 121) [I.str s,I.int IntKind.u8 (Int.ofNat n)] h=_ from eK (intr:=b1) (n:=m) (args:=[I.str s,I.int IntKind.u8 (Int.ofNat n)]) Tryz.func121 (by kernel_rfl) (by kernel_rfl) (by kernel_rfl) (Wa (Y m) s n i h g ab) (.inl rfl) (by kernel_rfl)];exact H
theorem Fo:Tryz.prog.underlying 9=some .string:=by kernel_rfl
theorem Wn(m:Nat)(h:J):Y (m+1) (.fn 106) [.str oi] h=.ret (.aP [.agg (j7 pt),.bool true]) h:=by
 have e:b1 106 [.str oi] h=some (.aP [.agg (j7 pt),.bool true],h):=by kernel_rfl
 unfold Y;simp only[e6,e]
theorem Wo(m:Nat)(h:J):Y (m+1) (.fn 106) [.str (oi++[45,47,46])] h=.ret (.aP [.agg (j7 jQ),.bool true]) h:=by
 have e:b1 106 [.str (oi++[45,47,46])] h=some (.aP [.agg (j7 jQ),.bool true],h):=by kernel_rfl
 unfold Y;simp only[e6,e]
theorem Br(p:Nat->Bool):(j7 p).length=256:=by simp[j7]
def Bs(h:J)(a:Nat)(p:Nat->Bool):Prop:=h.get a=some (.cells (j7 p) 144 .own 0 0)
theorem Lr(m a n:Nat)(p:Nat->Bool)(h:J)(aK:n<256)(aS:Bs h a p):Y (m+1) (.fn 113) [.ptr a 0,.int .u8 (Int.ofNat n)] h=.ret (.bool (p n)) h:=
 Wi m a n h (R:=λx=>x=_) ⟨aK,_,nu aS (by rw[show 0+n*1=n by omega];simp[j7,aK]),rfl⟩
theorem Wp(p:Nat->Bool)(s:a5)(hs:0<s.length)(aw:p (s[s.length-1]'(by omega)).toNat=true):(s.take (s.length-1)).all (λc=>p c.toNat)=s.all (λc=>p c.toNat):=by
 have e:s=s.take (s.length-1)++[s[s.length-1]'(by omega)]:=by
  have:=List.take_append_drop (s.length-1) s
  rw[List.drop_eq_getElem_cons (by omega),List.drop_of_length_le (by omega)] at this
  exact this.symm
 conv=>rhs;rw[e]
 rw[List.all_append];simp[aw]
theorem Ls{s:a5}{i:Nat}(h:i<s.length):gH i s=some (.int .u8 (Int.ofNat (s[i]).toNat)):=nr h
theorem Wq(m a:Nat)(p:Nat->Bool)(s:a5)(h:J)(hs:s.length<=90000)(aS:Bs h a p):∃t,Y (m+2) (.fn 108) [.str s,.ptr a 0] h=.ret (.str t) h/\t.length<=s.length/\t.all (λc=>p c.toNat)=s.all (λc=>p c.toNat)/\(t.all (λc=>p c.toNat)=true->t=[]):=by
 refine We (m+1) s a h (R:=λx=>∃t,x=.ret (.str t) h/\t.length<=s.length/\t.all (λc=>p c.toNat)=s.all (λc=>p c.toNat)/\(t.all (λc=>p c.toNat)=true->t=[])) ?_
 refine a4.loop (by kernel_rfl) (λk st=>∃(t:a5) (Γ:Env),st=⟨Γ,[],.none,h⟩/\cl [(0,.str t),(1,.ptr a 0)] Γ/\t.length=k/\t.length<=s.length/\t.all (λc=>p c.toNat)=s.all (λc=>p c.toNat)) ?_ s.length _ (by omega) ⟨s,_,rfl,⟨rfl,rfl,trivial⟩,rfl,Nat.le_refl _,rfl⟩
 rintro k st ⟨t,Γ,rfl,cP,aq,aw,aT⟩
 refine a4.pre (Wf (Y (m+1)) t a h ⟨λh0=>⟨⟨by omega,by omega⟩,_,Ls (by omega),_,_,Lr m a _ p h (UInt8.toNat_lt _) aS,λag=>?_,λag=>?_⟩,λh0=>?_⟩) cP rfl rfl rfl
 · refine⟨t,_,rfl,rfl,⟨rfl,trivial⟩,t,rfl,aw,aT,λab=>?_⟩
   have:=List.all_eq_true.1 ab _ (List.getElem_mem (show t.length-1<t.length by omega))
   simp[this] at ag
 · have oW:p (t[t.length-1]'(by omega)).toNat=true:=by simpa using ag
   refine⟨_,JG Fo (by omega),_,(by show _<k;simp;omega),_,_,rfl,⟨rfl,rfl,trivial⟩,rfl,by simp;omega,by rw[Wp p t h0 oW,aT]⟩
 · obtain rfl:t=[]:=List.eq_nil_of_length_eq_zero (by omega)
   exact⟨[],_,rfl,rfl,⟨rfl,trivial⟩,[],rfl,aw,aT,λ_=>rfl⟩
theorem Wr(m a:Nat)(p:Nat->Bool)(s:a5)(h:J)(hs:s.length<=90000)(aS:Bs h a p):∃t,Y (m+2) (.fn 107) [.str s,.ptr a 0] h=.ret (.str t) h/\t.all (λc=>p c.toNat)=s.all (λc=>p c.toNat)/\(t.all (λc=>p c.toNat)=true->t=[]):=by
 refine Wg (m+1) s a h (R:=λx=>∃t,x=.ret (.str t) h/\t.all (λc=>p c.toNat)=s.all (λc=>p c.toNat)/\(t.all (λc=>p c.toNat)=true->t=[])) ?_
 refine a4.loop (by kernel_rfl) (λk st=>∃(t:a5) (Γ:Env),st=⟨Γ,[],.none,h⟩/\cl [(0,.str t),(1,.ptr a 0)] Γ/\t.length=k/\t.all (λc=>p c.toNat)=s.all (λc=>p c.toNat)) ?_ s.length _ (by omega) ⟨s,_,rfl,⟨rfl,rfl,trivial⟩,rfl,rfl⟩
 rintro k st ⟨t,Γ,rfl,cP,aq,aT⟩
 refine a4.pre (Wh (Y (m+1)) t a h ⟨λh0=>⟨_,Ls h0,_,_,Lr m a _ p h (UInt8.toNat_lt _) aS,λag=>?_,λag=>?_⟩,λh0=>?_⟩) cP rfl rfl rfl
 · refine⟨t,_,rfl,rfl,⟨rfl,trivial⟩,t,rfl,aT,λab=>?_⟩
   have:=List.all_eq_true.1 ab _ (List.getElem_mem h0)
   simp[this] at ag
 · have oW:p (t[0]'h0).toNat=true:=by simpa using ag
   refine⟨_,Sl Fo (by omega),_,(by show _<k;simp;omega),_,_,rfl,⟨rfl,rfl,trivial⟩,rfl,?_⟩
   rw[<-aT]
   cases t with
   |nil=>simp at h0
   |cons c t=>simp at oW;simp[oW]
 · obtain rfl:t=[]:=List.eq_nil_of_length_eq_zero (by omega)
   exact⟨[],_,rfl,rfl,⟨rfl,trivial⟩,[],rfl,aT,λ_=>rfl⟩
theorem vO(s:a5):dF s []=decide (s=[]):=by cases s<;>simp[dF]
theorem Lt(m B:Nat)(p:Nat->Bool)(s o:a5)(h:J)(cM:B<=h.n)(hs:s.length<=90000)(h0:s≠[])(a2:o.length≠1)(aK:o≠[])(hm:Y (m+2) (.fn 106) [.str o] h=.ret (.aP [.agg (j7 p),.bool true]) h):
  ∃t an,Y (m+3) (.fn 83) [.str s,.str o] h=.ret (.str t) an/\dF t []=s.all (λc=>p c.toNat)/\Ext B h an:=by
 have st:aM.storeCells (h.push (.cells (List.replicate 256 (.bool false)) 144 .own 0 0)) h.n 0 (j7 p)=some ((h.push (.cells (List.replicate 256 (.bool false)) 144 .own 0 0)).set h.n (some (.cells (j7 p) 144 .own 0 0))):=by
  refine gJ (fj rfl) (by rw[Br];rfl) ?_
  have:=Ef (j7 p) (List.replicate 256 (.bool false)) (by simp[j7,I.cQ]) (by rw[Br];simp)
  rw[this,Br];simp
 obtain⟨g,al⟩:∃g,g=(h.push (.cells (List.replicate 256 (.bool false)) 144 .own 0 0)).set h.n (some (.cells (j7 p) 144 .own 0 0)):=⟨_,rfl⟩
 rw[<-al] at st
 have p5:Bs g h.n p:=by rw[al];exact gI rfl
 have ou:Ext B h g:=by rw[al];exact(Ext.push cM _).iQ cM
 obtain⟨t,aG,bB,cw,aA⟩:=Wq m h.n p s g hs p5
 obtain⟨u,a9,c2,ay⟩:=Wr m h.n p t g (by omega) p5
 refine Wd (m+2) s o h (R:=λx=>∃t an,x=.ret (.str t) an/\dF t []=s.all (λc=>p c.toNat)/\Ext B h an) ⟨by rw[vO];simp[h0],by rw[vO];simp[aK],a2,_,hm,_,⟨by rw[Br],st,rfl⟩,t,g,aG,u,g,a9,u,g,rfl,?_,ou⟩
 rw[vO,<-cw,<-c2]
 cases aT:u.all (λc=>p c.toNat) with
 |true=>simp[ay aT]
 |false=>
  cases u with
  |nil=>simp at aT
  |cons c u=>simp
theorem Lu(m B:Nat)(p:Nat->Bool)(s o:a5)(n:Nat)(h:J)(cM:B<=h.n)(acG:n<=90000)(a2:(o=[]/\p=pt)\/(o=[45,47,46]/\p=jQ)):cN B h (.bool (decide (1<=s.length)&&decide (s.length<=n)&&s.all (λc=>p c.toNat))) (Y (m+4) (.fn 64) [.str s,.str o,.int .i64 (Int.ofNat n)] h):=by
 refine Wb (m+3) s o n h ⟨λab=>⟨λad=>?_,λad=>?_⟩,λab=>?_⟩
 · have h0:s≠[]:=by rw[vO] at ab;simpa using ab
   have aO:1<=s.length:=List.length_pos_iff.2 h0
   have key:∃t an,Y (m+3) (.fn 83) [.str s,.str (oi++o)] h=.ret (.str t) an/\dF t []=s.all (λc=>p c.toNat)/\Ext B h an:=by
    rcases a2 with⟨rfl,rfl⟩|⟨rfl,rfl⟩
    · rw[List.append_nil]
      exact Lt m B pt s oi h cM (by omega) h0 (by decide) (by decide) (Wn _ h)
    · exact Lt m B jQ s (oi++[45,47,46]) h cM (by omega) h0 (by decide) (by decide) (Wo _ h)
   obtain⟨t,an,c,e,x⟩:=key
   exact⟨by rcases a2 with⟨rfl,_⟩|⟨rfl,_⟩<;>simp,t,an,c,cN.of (h4 (by rw[e];simp[aO,ad])) x⟩
 · exact cN.of (h4 (by simp[ad])) (Ext.refl _ _)
 · have h0:s=[]:=by rw[vO] at ab;simpa using ab
   subst h0
   exact cN.of (h4 (by simp)) (Ext.refl _ _)
end Go.Proofs.cF
