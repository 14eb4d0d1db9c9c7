/-
  PROVED HERE: contracts of functions (De). No condition beside each statement's own.
-/
import Derived.Test.YtjkomfonmcmgdaaGreatDoorDc
import Derived.Test.YtjkomfonmcmgdaaGreatDoorSxb
set_option linter.unusedVariables false
set_option linter.unusedSimpArgs false
namespace Go.Proofs.cG
open Go aP Go.Proofs c8
set_option maxRecDepth 100000
set_option maxHeartbeats 1000000
theorem WA(call:aI->List I->J->av)(s o:List UInt8)(n:Nat)(h:J)(ea kO:List UInt8)(cB:J)
  (H1:(!dK s [])=true)
  (aR:fh (.ofNat (List.length s)) (.ofNat n)=true)
  (br:gG .add [97,98,99,100,101,102,103,104,105,106,107,108,109,110,111,112,113,114,115,116,117,118,119,120,121,122,65,66,67,68,69,70,71,72,73,74,75,76,77,78,79,80,81,82,83,84,85,86,87,88,89,90,48,49,50,51,52,53,54,55,56,57,95] o=some (.str ea))
  (bp:call (.fn 83) [.str s,.str ea] h=av.ret (.str kO) cB):
  aL Tryz.prog Tryz.f64 none call [] (ah.mk [(0,.str s),(1,.str o),(2,.int .i64 (.ofNat n))] [] .none h) (.ret)
   (ah.mk [(6,.bool (dK kO []))] [] .none cB):=
 bI [6] (hs:=[.b true,.b true,.b true,.b true,.b true,.b true,.b true,.b true,.v (.str ea),.b true,.c (.str kO) cB,.b true,.b true]) (by kernel_rfl)<| .cons H1<| .cons H1<| .cons H1<| .cons H1<| .cons H1<| .cons aR<| .cons aR<| .cons aR<| .cons br<| .cons aR<| .cons bp<| .cons aR<| .cons aR<| .nil
theorem WB(call:aI->List I->J->av)(s o:List UInt8)(n:Nat)(h:J)
  (H1:(!dK s [])=true)
  (aR:fh (.ofNat (List.length s)) (.ofNat n)=false):
  aL Tryz.prog Tryz.f64 none call [] (ah.mk [(0,.str s),(1,.str o),(2,.int .i64 (.ofNat n))] [] .none h) (.ret)
   (ah.mk [(6,.bool false)] [] .none h):=
 bI [6] (hs:=[.b true,.b true,.b true,.b true,.b true,.b false,.b false,.b false,.b false,.b false,.b false]) (by kernel_rfl)<| .cons H1<| .cons H1<| .cons H1<| .cons H1<| .cons H1<| .cons aR<| .cons aR<| .cons aR<| .cons aR<| .cons aR<| .cons aR<| .nil
theorem WC(call:aI->List I->J->av)(s o:List UInt8)(n:Nat)(h:J)
  (H1:(!dK s [])=false):
  aL Tryz.prog Tryz.f64 none call [] (ah.mk [(0,.str s),(1,.str o),(2,.int .i64 (.ofNat n))] [] .none h) (.ret)
   (ah.mk [(6,.bool false)] [] .none h):=
 bI [6] (hs:=[.b false,.b false,.b false,.b false,.b false,.b false,.b false,.b false,.b false,.b false,.b false]) (by kernel_rfl)<| .cons H1<| .cons H1<| .cons H1<| .cons H1<| .cons H1<| .cons (by kernel_rfl:false=false)<| .cons (by kernel_rfl:false=false)<| .cons (by kernel_rfl:false=false)<| .cons (by kernel_rfl:false=false)<| .cons (by kernel_rfl:false=false)<| .cons (by kernel_rfl:false=false)<| .nil
theorem WD(call:aI->List I->J->av)(s:List UInt8)(h:J)(dD:Bool)(cB:J)(ea:List UInt8)(sn:Bool)(hJ:J)
  (H1:call (.fn 64) [.str s,.str [],.int .i64 (.ofNat 24)] h=av.ret (.bool dD) cB)
  (aR:dD=true)
  (br:di Tryz.prog cB 9 (I.str s) none (some (I.int IntKind.i64 (Int.ofNat 1))) none=some (I.str ea))
  (bp:call (.fn 85) [.str [48,49,50,51,52,53,54,55,56,57],.str ea] cB=av.ret (.bool sn) hJ):
  aL Tryz.prog Tryz.f67 none call [] (ah.mk [(0,.str s)] [] .none h) (.ret)
   (ah.mk [(2,.bool !sn)] [] .none hJ):=
 bI [2] (hs:=[.c (.bool dD) cB,.b true,.b true,.v (.str ea),.b true,.c (.bool sn) hJ,.b true,.b true]) (by kernel_rfl)<| .cons H1<| .cons aR<| .cons aR<| .cons br<| .cons aR<| .cons bp<| .cons aR<| .cons aR<| .nil
theorem WE(call:aI->List I->J->av)(s:List UInt8)(h:J)(dD:Bool)(cB:J)
  (H1:call (.fn 64) [.str s,.str [],.int .i64 (.ofNat 24)] h=av.ret (.bool dD) cB)
  (aR:dD=false):
  aL Tryz.prog Tryz.f67 none call [] (ah.mk [(0,.str s)] [] .none h) (.ret)
   (ah.mk [(2,.bool false)] [] .none cB):=
 bI [2] (hs:=[.c (.bool dD) cB,.b false,.b false,.b false,.b false,.b false]) (by kernel_rfl)<| .cons H1<| .cons aR<| .cons aR<| .cons aR<| .cons aR<| .cons aR<| .nil
theorem trim(call:aI->List I->J->av)(s o:List UInt8)(l:List I)(h cB:J)(ea:List UInt8)(hJ:J)(kO:List UInt8)(so:J)
  (H1:dK s []=false)
  (aR:dK o []=false)
  (br:a_ (.ofNat (List.length o)) (.ofNat 1)=false)
  (bp:call (.fn 106) [.str o] h=av.ret (.aQ [.agg l,.bool true]) h)
  (b1:some 256=some (List.length l)/\aP.storeCells (J.push h (df.cells (List.replicate 256 (I.bool false)) 144 gM.own 0 0)) (J.n h) 0 l=some cB/\I.aQ []=I.aQ [])
  (cL:call (.fn 108) [.str s,.ptr (J.n h) 0] cB=av.ret (.str ea) hJ)
  (dr:call (.fn 107) [.str ea,.ptr (J.n h) 0] hJ=av.ret (.str kO) so):
  aL Tryz.prog Tryz.f83 none call [] (ah.mk [(0,.str s),(1,.str o)] [] .none h) (.ret)
   (ah.mk [(4,.str kO)] [] .none so):=
 bI [4] (hs:=[.b false,.b false,.b false,.b false,.b false,.b false,.b false,.b false,.b false,.c (.aQ [.agg l,.bool true]) h,.l5 (.aQ []) cB,.b true,.c (.str ea) hJ,.c (.str kO) so]) (by kernel_rfl)<| .cons H1<| .cons H1<| .cons H1<| .cons aR<| .cons br<| .cons br<| .cons br<| .cons br<| .cons (by kernel_rfl:false=false)<| .cons bp<| .cons b1<| .cons (by kernel_rfl:true=true)<| .cons cL<| .cons dr<| .nil
theorem WG(call:aI->List I->J->av)(s t:List UInt8)(a:Nat)(h:J)
  (H1:aL Tryz.prog Tryz.f108 none call [1,0,0] (ah.mk [(4,.str []),(0,.str s),(1,.ptr a 0)] [] .none h) (.exit 0) (ah.mk [(0,.str t)] [] .none h)):
  aL Tryz.prog Tryz.f108 none call [] (ah.mk [(0,.str s),(1,.ptr a 0)] [] .none h) (.ret)
   (ah.mk [(4,.str t)] [] .none h):=
 bI [4] (hs:=[Hint.loop (bn.exit 0) (ah.mk [(0,I.str t)] [] bF.none h)]) (by kernel_rfl)<| .cons H1<| .nil
theorem WH(call:aI->List I->J->av)(s:List UInt8)(a:Nat)(h:J)(fq m5:Nat)(dD:Bool)(cB:J)
  (H1:bM (.ofNat 0) (.ofNat (List.length s))=true)
  (aR:arith .sub .i64 (.ofNat (List.length s)) (.ofNat 1)=some (.int .i64 (.ofNat fq)))
  (br:gQ fq s=some (.int .u8 (.ofNat m5)))
  (bp:call (.fn 113) [.ptr a 0,.int .u8 (.ofNat m5)] h=av.ret (.bool dD) cB)
  (b1:(!dD)=true):
  aL Tryz.prog Tryz.f108 none call [1,0,0,0] (ah.mk [(0,.str s),(1,.ptr a 0)] [] .none h) (.exit 0)
   (ah.mk [(0,.str s),(1,.ptr a 0)] [] .none cB):=
 bI [0,1] (hs:=[.o (.int .i64 (.ofNat (List.length s))),.b true,.o (.int .i64 (.ofNat (List.length s))),.v (.int .i64 (.ofNat fq)),.v (.int .u8 (.ofNat m5)),.c (.bool dD) cB,.b true]) (by kernel_rfl)<| .cons (by kernel_rfl:cc Tryz.prog h 9 (I.str s)=some (I.int IntKind.i64 (Int.ofNat (List.length s))))<| .cons H1<| .cons (by kernel_rfl:cc Tryz.prog h 9 (I.str s)=some (I.int IntKind.i64 (Int.ofNat (List.length s))))<| .cons aR<| .cons br<| .cons bp<| .cons b1<| .nil
theorem WI(call:aI->List I->J->av)(s:List UInt8)(a:Nat)(h:J)(fq m5:Nat)(dD:Bool)(cB:J)(ea:List UInt8)
  (H1:bM (.ofNat 0) (.ofNat (List.length s))=true)
  (aR:arith .sub .i64 (.ofNat (List.length s)) (.ofNat 1)=some (.int .i64 (.ofNat fq)))
  (br:gQ fq s=some (.int .u8 (.ofNat m5)))
  (bp:call (.fn 113) [.ptr a 0,.int .u8 (.ofNat m5)] h=av.ret (.bool dD) cB)
  (b1:(!dD)=false)
  (cL:di Tryz.prog cB 9 (I.str s) none (some (I.int IntKind.i64 (Int.ofNat fq))) none=some (I.str ea)):
  aL Tryz.prog Tryz.f108 none call [1,0,0,0] (ah.mk [(0,.str s),(1,.ptr a 0)] [] .none h) (.nrm)
   (ah.mk [(0,.str ea),(1,.ptr a 0)] [] .none cB):=
 bI [0,1] (hs:=[.o (.int .i64 (.ofNat (List.length s))),.b true,.o (.int .i64 (.ofNat (List.length s))),.v (.int .i64 (.ofNat fq)),.v (.int .u8 (.ofNat m5)),.c (.bool dD) cB,.b false,.o (.int .i64 (.ofNat (List.length s))),.v (.int .i64 (.ofNat fq)),.v (.str ea)]) (by kernel_rfl)<| .cons (by kernel_rfl:cc Tryz.prog h 9 (I.str s)=some (I.int IntKind.i64 (Int.ofNat (List.length s))))<| .cons H1<| .cons (by kernel_rfl:cc Tryz.prog h 9 (I.str s)=some (I.int IntKind.i64 (Int.ofNat (List.length s))))<| .cons aR<| .cons br<| .cons bp<| .cons b1<| .cons (by kernel_rfl:cc Tryz.prog cB 9 (I.str s)=some (I.int IntKind.i64 (Int.ofNat (List.length s))))<| .cons aR<| .cons cL<| .nil
theorem WJ(call:aI->List I->J->av)(s:List UInt8)(a:Nat)(h:J)
  (H1:bM (.ofNat 0) (.ofNat (List.length s))=false):
  aL Tryz.prog Tryz.f108 none call [1,0,0,0] (ah.mk [(0,.str s),(1,.ptr a 0)] [] .none h) (.exit 0)
   (ah.mk [(0,.str s),(1,.ptr a 0)] [] .none h):=
 bI [0,1] (hs:=[.o (.int .i64 (.ofNat (List.length s))),.b false]) (by kernel_rfl)<| .cons (by kernel_rfl:cc Tryz.prog h 9 (I.str s)=some (I.int IntKind.i64 (Int.ofNat (List.length s))))<| .cons H1<| .nil
theorem WK(call:aI->List I->J->av)(s t:List UInt8)(a:Nat)(h:J)
  (H1:aL Tryz.prog Tryz.f107 none call [1,0,0] (ah.mk [(4,.str []),(0,.str s),(1,.ptr a 0)] [] .none h) (.exit 0) (ah.mk [(0,.str t)] [] .none h)):
  aL Tryz.prog Tryz.f107 none call [] (ah.mk [(0,.str s),(1,.ptr a 0)] [] .none h) (.ret)
   (ah.mk [(4,.str t)] [] .none h):=
 bI [4] (hs:=[Hint.loop (bn.exit 0) (ah.mk [(0,I.str t)] [] bF.none h)]) (by kernel_rfl)<| .cons H1<| .nil
theorem WL(call:aI->List I->J->av)(s:List UInt8)(a:Nat)(h:J)(fq:Nat)(dD:Bool)(cB:J)
  (H1:bM (.ofNat 0) (.ofNat (List.length s))=true)
  (aR:gQ 0 s=some (.int .u8 (.ofNat fq)))
  (br:call (.fn 113) [.ptr a 0,.int .u8 (.ofNat fq)] h=av.ret (.bool dD) cB)
  (bp:(!dD)=true):
  aL Tryz.prog Tryz.f107 none call [1,0,0,0] (ah.mk [(0,.str s),(1,.ptr a 0)] [] .none h) (.exit 0)
   (ah.mk [(0,.str s),(1,.ptr a 0)] [] .none cB):=
 bI [0,1] (hs:=[.o (.int .i64 (.ofNat (List.length s))),.b true,.v (.int .u8 (.ofNat fq)),.c (.bool dD) cB,.b true]) (by kernel_rfl)<| .cons (by kernel_rfl:cc Tryz.prog h 9 (I.str s)=some (I.int IntKind.i64 (Int.ofNat (List.length s))))<| .cons H1<| .cons aR<| .cons br<| .cons bp<| .nil
theorem WM(call:aI->List I->J->av)(s:List UInt8)(a:Nat)(h:J)(fq:Nat)(dD:Bool)(cB:J)(ea:List UInt8)
  (H1:bM (.ofNat 0) (.ofNat (List.length s))=true)
  (aR:gQ 0 s=some (.int .u8 (.ofNat fq)))
  (br:call (.fn 113) [.ptr a 0,.int .u8 (.ofNat fq)] h=av.ret (.bool dD) cB)
  (bp:(!dD)=false)
  (b1:di Tryz.prog cB 9 (I.str s) (some (I.int IntKind.i64 (Int.ofNat 1))) none none=some (I.str ea)):
  aL Tryz.prog Tryz.f107 none call [1,0,0,0] (ah.mk [(0,.str s),(1,.ptr a 0)] [] .none h) (.nrm)
   (ah.mk [(0,.str ea),(1,.ptr a 0)] [] .none cB):=
 bI [0,1] (hs:=[.o (.int .i64 (.ofNat (List.length s))),.b true,.v (.int .u8 (.ofNat fq)),.c (.bool dD) cB,.b false,.v (.str ea)]) (by kernel_rfl)<| .cons (by kernel_rfl:cc Tryz.prog h 9 (I.str s)=some (I.int IntKind.i64 (Int.ofNat (List.length s))))<| .cons H1<| .cons aR<| .cons br<| .cons bp<| .cons b1<| .nil
theorem WN(call:aI->List I->J->av)(s:List UInt8)(a:Nat)(h:J)
  (H1:bM (.ofNat 0) (.ofNat (List.length s))=false):
  aL Tryz.prog Tryz.f107 none call [1,0,0,0] (ah.mk [(0,.str s),(1,.ptr a 0)] [] .none h) (.exit 0)
   (ah.mk [(0,.str s),(1,.ptr a 0)] [] .none h):=
 bI [0,1] (hs:=[.o (.int .i64 (.ofNat (List.length s))),.b false]) (by kernel_rfl)<| .cons (by kernel_rfl:cc Tryz.prog h 9 (I.str s)=some (I.int IntKind.i64 (Int.ofNat (List.length s))))<| .cons H1<| .nil
theorem WO(call:aI->List I->J->av)(a n:Nat)(h:J)(dD:Bool)
  (H1:Nat.le (Nat.succ n) 256)
  (aR:au h a (0+n*1)=some (.bool dD)):
  aL Tryz.prog Tryz.f113 none call [] (ah.mk [(0,.ptr a 0),(1,.int .u8 (.ofNat n))] [] .none h) (.ret)
   (ah.mk [(4,.bool dD)] [] .none h):=
 bI [4] (hs:=[.v (.ptr a (0+n*1)),.v (.bool dD)]) (by kernel_rfl)<| .cons (⟨H1,rfl⟩:Nat.le (Nat.succ n) 256/\I.ptr a (0+n*1)=I.ptr a (0+n*1))<| .cons aR<| .nil
theorem WQ(call:aI->List I->J->av)(s o:List UInt8)(i:Int)(h g:J)
  (H1:call (.fn 111) [.str s,.str o] h=av.ret (.int .i64 i) g):
  aL Tryz.prog Tryz.f85 none call [] (ah.mk [(0,.str s),(1,.str o)] [] .none h) (.ret)
   (ah.mk [(4,.bool (fh (.ofNat 0) i))] [] .none g):=
 bI [4] (hs:=[.c (.int .i64 i) g]) (by kernel_rfl)<| .cons H1<| .nil
theorem WR(call:aI->List I->J->av)(s o:List UInt8)(i:Int)(h g:J)
  (H1:call (.fn 117) [.str s,.str o] h=av.ret (.int .i64 i) g):
  aL Tryz.prog Tryz.f111 none call [] (ah.mk [(0,.str s),(1,.str o)] [] .none h) (.ret)
   (ah.mk [(4,.int .i64 i)] [] .none g):=
 bI [4] (hs:=[.c (.int .i64 i) g]) (by kernel_rfl)<| .cons H1<| .nil
theorem WS(call:aI->List I->J->av)(s:List UInt8)(c:UInt8)(i:Int)(h g:J)
  (H1:dK [c] s=false)
  (aR:gQ 0 [c]=some (.int .u8 (.ofNat (BitVec.toFin (UInt8.toBitVec c)).1)))
  (br:call (.fn 121) [.str s,.int .u8 (.ofNat (BitVec.toFin (UInt8.toBitVec c)).1)] h=av.ret (.int .i64 i) g):
  aL Tryz.prog Tryz.f117 none call [] (ah.mk [(0,.str s),(1,.str [c])] [] .none h) (.ret)
   (ah.mk [(4,.int .i64 i)] [] .none g):=
 bI [4] (hs:=[.b false,.b false,.b false,.b false,.b false,.b true,.v (.int .u8 (.ofNat (UInt8.toNat c))),.c (.int .i64 i) g]) (by kernel_rfl)<| .cons (by kernel_rfl:a_ (Int.ofNat 1) (Int.ofNat 0)=false)<| .cons (by kernel_rfl:a_ (Int.ofNat 1) (Int.ofNat 0)=false)<| .cons (by kernel_rfl:a_ (Int.ofNat 1) (Int.ofNat 0)=false)<| .cons (by kernel_rfl:a_ (Int.ofNat 1) (Int.ofNat 0)=false)<| .cons H1<| .cons (by kernel_rfl:a_ (Int.ofNat 1) (Int.ofNat 1)=true)<| .cons aR<| .cons br<| .nil
theorem WT(call:aI->List I->J->av)(s:List UInt8)(n:Nat)(i:Int)(h g:J)
  (H1:call (.fn 127) [.str s,.int .u8 (.ofNat n)] h=av.ret (.int .i64 i) g):
  aL Tryz.prog Tryz.f121 none call [] (ah.mk [(0,.str s),(1,.int .u8 (.ofNat n))] [] .none h) (.ret)
   (ah.mk [(4,.int .i64 i)] [] .none g):=
 bI [4] (hs:=[.c (.int .i64 i) g]) (by kernel_rfl)<| .cons H1<| .nil
theorem WU(m:Nat)(s:List UInt8)(o:List UInt8)(n:Nat)(h:J){R:av->Prop}(H:
  ((!dK s [])=true->
    ((List.length s)<=n->
      List.length [97,98,99,100,101,102,103,104,105,106,107,108,109,110,111,112,113,114,115,116,117,118,119,120,121,122,65,66,67,68,69,70,71,72,73,74,75,76,77,78,79,80,81,82,83,84,85,86,87,88,89,90,48,49,50,51,52,53,54,55,56,57,95]+List.length o<=1000000000000/\
      ∃(kO:List UInt8) (cB:J),(Y m) (aI.fn 83) [I.str s,I.str ([97,98,99,100,101,102,103,104,105,106,107,108,109,110,111,112,113,114,115,116,117,118,119,120,121,122,65,66,67,68,69,70,71,72,73,74,75,76,77,78,79,80,81,82,83,84,85,86,87,88,89,90,48,49,50,51,52,53,54,55,56,57,95]++o)] h=av.ret (I.str kO) cB/\
      R (av.ret (I.bool (dK kO [])) cB))/\
    (¬(List.length s)<=n->
     R (av.ret (I.bool false) h)))/\
  ((!dK s [])=false->
    R (av.ret (I.bool false) h))):
  R (Y (m+1) (.fn 64) [I.str s,I.str o,I.int IntKind.i64 (Int.ofNat n)] h):=by
 rcases Bool.eq_false_or_eq_true ((!dK s [])) with ab|ab
 · have H:=H.1 ab
   by_cases ad:(List.length s)<=n
   · have H:=H.1 ad
     obtain⟨ar,H⟩:=H
     obtain⟨kO,cB,aG,H⟩:=H
     rw[show Y (m+1) (.fn 64) [I.str s,I.str o,I.int IntKind.i64 (Int.ofNat n)] h=_ from eR (intr:=b0) (n:=m) (args:=[I.str s,I.str o,I.int IntKind.i64 (Int.ofNat n)]) Tryz.func64 (by kernel_rfl) (by kernel_rfl) (by kernel_rfl) (WA (Y m) s o n h ([97,98,99,100,101,102,103,104,105,106,107,108,109,110,111,112,113,114,115,116,117,118,119,120,121,122,65,66,67,68,69,70,71,72,73,74,75,76,77,78,79,80,81,82,83,84,85,86,87,88,89,90,48,49,50,51,52,53,54,55,56,57,95]++o) kO cB ab (mT ad) (hG ar) aG) (.inl rfl) (by kernel_rfl)];exact H
   · have H:=H.2 ad
     rw[show Y (m+1) (.fn 64) [I.str s,I.str o,I.int IntKind.i64 (Int.ofNat n)] h=_ from eR (intr:=b0) (n:=m) (args:=[I.str s,I.str o,I.int IntKind.i64 (Int.ofNat n)]) Tryz.func64 (by kernel_rfl) (by kernel_rfl) (by kernel_rfl) (WB (Y m) s o n h ab (oC ad)) (.inl rfl) (by kernel_rfl)];exact H
 · have H:=H.2 ab
   rw[show Y (m+1) (.fn 64) [I.str s,I.str o,I.int IntKind.i64 (Int.ofNat n)] h=_ from eR (intr:=b0) (n:=m) (args:=[I.str s,I.str o,I.int IntKind.i64 (Int.ofNat n)]) Tryz.func64 (by kernel_rfl) (by kernel_rfl) (by kernel_rfl) (WC (Y m) s o n h ab) (.inl rfl) (by kernel_rfl)];exact H
theorem WV(m:Nat)(s:List UInt8)(h:J){R:av->Prop}(H:
  ∃(dD:Bool) (cB:J),(Y m) (aI.fn 64) [I.str s,I.str [],I.int IntKind.i64 (Int.ofNat 24)] h=av.ret (I.bool dD) cB/\
  (dD=true->
   ∃(ea:List UInt8),di Tryz.prog cB 9 (I.str s) none (some (I.int IntKind.i64 (Int.ofNat 1))) none=some (I.str ea)/\
   ∃(sn:Bool) (hJ:J),(Y m) (aI.fn 85) [I.str [48,49,50,51,52,53,54,55,56,57],I.str ea] cB=av.ret (I.bool sn) hJ/\
   R (av.ret (I.bool !sn) hJ))/\
  (dD=false->
   R (av.ret (I.bool false) cB))):
  R (Y (m+1) (.fn 67) [I.str s] h):=by
 obtain⟨dD,cB,ab,H⟩:=H
 rcases Bool.eq_false_or_eq_true (dD) with ad|ad
 · have H:=H.1 ad
   obtain⟨ea,ar,H⟩:=H
   obtain⟨sn,hJ,aG,H⟩:=H
   rw[show Y (m+1) (.fn 67) [I.str s] h=_ from eR (intr:=b0) (n:=m) (args:=[I.str s]) Tryz.func67 (by kernel_rfl) (by kernel_rfl) (by kernel_rfl) (WD (Y m) s h dD cB ea sn hJ ab ad ar aG) (.inl rfl) (by kernel_rfl)];exact H
 · have H:=H.2 ad
   rw[show Y (m+1) (.fn 67) [I.str s] h=_ from eR (intr:=b0) (n:=m) (args:=[I.str s]) Tryz.func67 (by kernel_rfl) (by kernel_rfl) (by kernel_rfl) (WE (Y m) s h dD cB ab ad) (.inl rfl) (by kernel_rfl)];exact H
theorem WW(m:Nat)(s:List UInt8)(o:List UInt8)(h:J){R:av->Prop}(H:
  dK s []=false/\
  dK o []=false/\
  ¬(List.length o)=1/\
  ∃(l:List I),(Y m) (aI.fn 106) [I.str o] h=av.ret (I.aQ [I.agg l,I.bool true]) h/\
  ∃(cB:J),(some 256=some (List.length l)/\aP.storeCells (J.push h (df.cells (List.replicate 256 (I.bool false)) 144 gM.own 0 0)) (J.n h) 0 l=some cB/\I.aQ []=I.aQ [])/\
  ∃(ea:List UInt8) (hJ:J),(Y m) (aI.fn 108) [I.str s,I.ptr (J.n h) 0] cB=av.ret (I.str ea) hJ/\
  ∃(kO:List UInt8) (so:J),(Y m) (aI.fn 107) [I.str ea,I.ptr (J.n h) 0] hJ=av.ret (I.str kO) so/\
  R (av.ret (I.str kO) so)):
  R (Y (m+1) (.fn 83) [I.str s,I.str o] h):=by
 obtain⟨ab,H⟩:=H
 obtain⟨ad,H⟩:=H
 obtain⟨ar,H⟩:=H
 obtain⟨l,aG,H⟩:=H
 obtain⟨cB,bJ,H⟩:=H
 obtain⟨ea,hJ,cu,H⟩:=H
 obtain⟨kO,so,dg,H⟩:=H
 rw[show Y (m+1) (.fn 83) [I.str s,I.str o] h=_ from eR (intr:=b0) (n:=m) (args:=[I.str s,I.str o]) Tryz.func83 (by kernel_rfl) (by kernel_rfl) (by kernel_rfl) (trim (Y m) s o l h cB ea hJ kO so ab ad (jw ar) aG bJ cu dg) (.inl rfl) (by kernel_rfl)];exact H
theorem WX(m:Nat)(s:List UInt8)(a:Nat)(h:J){R:av->Prop}(H:
  a3 Tryz.prog Tryz.f108 (Y m) [1,0,0] (ah.mk [(4,I.str []),(0,I.str s),(1,I.ptr a 0)] [] bF.none h) (λb9 cj=>
   (∃(t:List UInt8) (cq:Env),b9=(bn.exit 0)/\cj=(ah.mk cq [] bF.none h)/\b_ [(0,I.str t)] cq/\
    R (av.ret (I.str t) h)))):
  R (Y (m+1) (.fn 108) [I.str s,I.ptr a 0] h):=by
 obtain⟨b9,cj,ab,H⟩:=H
 obtain⟨t,cq,rfl,rfl,cQ,H⟩:=H
 replace ab:=c5.post ab cQ
 rw[show Y (m+1) (.fn 108) [I.str s,I.ptr a 0] h=_ from eR (intr:=b0) (n:=m) (args:=[I.str s,I.ptr a 0]) Tryz.func108 (by kernel_rfl) (by kernel_rfl) (by kernel_rfl) (WG (Y m) s t a h ab) (.inl rfl) (by kernel_rfl)];exact H
theorem WY(call:aI->List I->J->av)(s:List UInt8)(a:Nat)(h:J){Q:bn->ah->Prop}(H:
  (0<(List.length s)->
   (1<=(List.length s)/\(List.length s)<9223372036854775808)/\
   ∃(m5:Nat),gQ ((List.length s)-1) s=some (I.int IntKind.u8 (Int.ofNat m5))/\
   ∃(dD:Bool) (cB:J),call (aI.fn 113) [I.ptr a 0,I.int IntKind.u8 (Int.ofNat m5)] h=av.ret (I.bool dD) cB/\
   ((!dD)=true->
     Q (bn.exit 0) (ah.mk [(0,I.str s),(1,I.ptr a 0)] [] bF.none cB))/\
   ((!dD)=false->
     ∃(ea:List UInt8),di Tryz.prog cB 9 (I.str s) none (some (I.int IntKind.i64 (Int.ofNat ((List.length s)-1)))) none=some (I.str ea)/\
     Q (bn.nrm) (ah.mk [(0,I.str ea),(1,I.ptr a 0)] [] bF.none cB)))/\
  (¬0<(List.length s)->
   Q (bn.exit 0) (ah.mk [(0,I.str s),(1,I.ptr a 0)] [] bF.none h))):
  a3 Tryz.prog Tryz.f108 call [1,0,0,0] (ah.mk [(0,I.str s),(1,I.ptr a 0)] [] bF.none h) Q:=by
 by_cases ab:0<(List.length s)
 · have H:=H.1 ab
   obtain⟨ad,H⟩:=H
   obtain⟨m5,ar,H⟩:=H
   obtain⟨dD,cB,aG,H⟩:=H
   rcases Bool.eq_false_or_eq_true ((!dD)) with bJ|bJ
   · have H:=H.1 bJ
     exact a3.of (WH call s a h ((List.length s)-1) m5 dD cB (dT ab) (vF ad.1 ad.2) ar aG bJ) H
   · have H:=H.2 bJ
     obtain⟨ea,cu,H⟩:=H
     exact a3.of (WI call s a h ((List.length s)-1) m5 dD cB ea (dT ab) (vF ad.1 ad.2) ar aG bJ cu) H
 · have H:=H.2 ab
   exact a3.of (WJ call s a h (eZ ab)) H
theorem WZ(m:Nat)(s:List UInt8)(a:Nat)(h:J){R:av->Prop}(H:
  a3 Tryz.prog Tryz.f107 (Y m) [1,0,0] (ah.mk [(4,I.str []),(0,I.str s),(1,I.ptr a 0)] [] bF.none h) (λb9 cj=>
   (∃(t:List UInt8) (cq:Env),b9=(bn.exit 0)/\cj=(ah.mk cq [] bF.none h)/\b_ [(0,I.str t)] cq/\
    R (av.ret (I.str t) h)))):
  R (Y (m+1) (.fn 107) [I.str s,I.ptr a 0] h):=by
 obtain⟨b9,cj,ab,H⟩:=H
 obtain⟨t,cq,rfl,rfl,cQ,H⟩:=H
 replace ab:=c5.post ab cQ
 rw[show Y (m+1) (.fn 107) [I.str s,I.ptr a 0] h=_ from eR (intr:=b0) (n:=m) (args:=[I.str s,I.ptr a 0]) Tryz.func107 (by kernel_rfl) (by kernel_rfl) (by kernel_rfl) (WK (Y m) s t a h ab) (.inl rfl) (by kernel_rfl)];exact H
theorem W0(call:aI->List I->J->av)(s:List UInt8)(a:Nat)(h:J){Q:bn->ah->Prop}(H:
  (0<(List.length s)->
   ∃(fq:Nat),gQ 0 s=some (I.int IntKind.u8 (Int.ofNat fq))/\
   ∃(dD:Bool) (cB:J),call (aI.fn 113) [I.ptr a 0,I.int IntKind.u8 (Int.ofNat fq)] h=av.ret (I.bool dD) cB/\
   ((!dD)=true->
     Q (bn.exit 0) (ah.mk [(0,I.str s),(1,I.ptr a 0)] [] bF.none cB))/\
   ((!dD)=false->
     ∃(ea:List UInt8),di Tryz.prog cB 9 (I.str s) (some (I.int IntKind.i64 (Int.ofNat 1))) none none=some (I.str ea)/\
     Q (bn.nrm) (ah.mk [(0,I.str ea),(1,I.ptr a 0)] [] bF.none cB)))/\
  (¬0<(List.length s)->
   Q (bn.exit 0) (ah.mk [(0,I.str s),(1,I.ptr a 0)] [] bF.none h))):
  a3 Tryz.prog Tryz.f107 call [1,0,0,0] (ah.mk [(0,I.str s),(1,I.ptr a 0)] [] bF.none h) Q:=by
 by_cases ab:0<(List.length s)
 · have H:=H.1 ab
   obtain⟨fq,ad,H⟩:=H
   obtain⟨dD,cB,ar,H⟩:=H
   rcases Bool.eq_false_or_eq_true ((!dD)) with aG|aG
   · have H:=H.1 aG
     exact a3.of (WL call s a h fq dD cB (dT ab) ad ar aG) H
   · have H:=H.2 aG
     obtain⟨ea,bJ,H⟩:=H
     exact a3.of (WM call s a h fq dD cB ea (dT ab) ad ar aG bJ) H
 · have H:=H.2 ab
   exact a3.of (WN call s a h (eZ ab)) H
theorem W1(m:Nat)(a:Nat)(n:Nat)(h:J){R:av->Prop}(H:
  n<256/\
  ∃(dD:Bool),au h a (0+n*1)=some (I.bool dD)/\
  R (av.ret (I.bool dD) h)):
  R (Y (m+1) (.fn 113) [I.ptr a 0,I.int IntKind.u8 (Int.ofNat n)] h):=by
 obtain⟨ab,H⟩:=H
 obtain⟨dD,ad,H⟩:=H
 rw[show Y (m+1) (.fn 113) [I.ptr a 0,I.int IntKind.u8 (Int.ofNat n)] h=_ from eR (intr:=b0) (n:=m) (args:=[I.ptr a 0,I.int IntKind.u8 (Int.ofNat n)]) Tryz.func113 (by kernel_rfl) (by kernel_rfl) (by kernel_rfl) (WO (Y m) a n h dD ab ad) (.inl rfl) (by kernel_rfl)];exact H
theorem W2(m:Nat)(s:List UInt8)(o:List UInt8)(h:J){R:av->Prop}(H:
  ∃(i:Int) (g:J),(Y m) (aI.fn 111) [I.str s,I.str o] h=av.ret (I.int IntKind.i64 i) g/\
  R (av.ret (I.bool (fh (Int.ofNat 0) i)) g)):
  R (Y (m+1) (.fn 85) [I.str s,I.str o] h):=by
 obtain⟨i,g,ab,H⟩:=H
 rw[show Y (m+1) (.fn 85) [I.str s,I.str o] h=_ from eR (intr:=b0) (n:=m) (args:=[I.str s,I.str o]) Tryz.func85 (by kernel_rfl) (by kernel_rfl) (by kernel_rfl) (WQ (Y m) s o i h g ab) (.inl rfl) (by kernel_rfl)];exact H
theorem W3(m:Nat)(s:List UInt8)(o:List UInt8)(h:J){R:av->Prop}(H:
  ∃(i:Int) (g:J),(Y m) (aI.fn 117) [I.str s,I.str o] h=av.ret (I.int IntKind.i64 i) g/\
  R (av.ret (I.int IntKind.i64 i) g)):
  R (Y (m+1) (.fn 111) [I.str s,I.str o] h):=by
 obtain⟨i,g,ab,H⟩:=H
 rw[show Y (m+1) (.fn 111) [I.str s,I.str o] h=_ from eR (intr:=b0) (n:=m) (args:=[I.str s,I.str o]) Tryz.func111 (by kernel_rfl) (by kernel_rfl) (by kernel_rfl) (WR (Y m) s o i h g ab) (.inl rfl) (by kernel_rfl)];exact H
theorem W4(m:Nat)(s:List UInt8)(c:UInt8)(h:J){R:av->Prop}(H:
  dK [c] s=false/\
  gQ 0 [c]=some (I.int IntKind.u8 (Int.ofNat (BitVec.toFin (UInt8.toBitVec c)).1))/\
  ∃(i:Int) (g:J),(Y m) (aI.fn 121) [I.str s,I.int IntKind.u8 (Int.ofNat (BitVec.toFin (UInt8.toBitVec c)).1)] h=av.ret (I.int IntKind.i64 i) g/\
  R (av.ret (I.int IntKind.i64 i) g)):
  R (Y (m+1) (.fn 117) [I.str s,I.str [c]] h):=by
 obtain⟨ab,H⟩:=H
 obtain⟨ad,H⟩:=H
 obtain⟨i,g,ar,H⟩:=H
 rw[show Y (m+1) (.fn 117) [I.str s,I.str [c]] h=_ from eR (intr:=b0) (n:=m) (args:=[I.str s,I.str [c]]) Tryz.func117 (by kernel_rfl) (by kernel_rfl) (by kernel_rfl) (WS (Y m) s c i h g ab ad ar) (.inl rfl) (by kernel_rfl)];exact H
theorem W5(m:Nat)(s:List UInt8)(n:Nat)(h:J){R:av->Prop}(H:
  ∃(i:Int) (g:J),(Y m) (aI.fn 127) [I.str s,I.int IntKind.u8 (Int.ofNat n)] h=av.ret (I.int IntKind.i64 i) g/\
  R (av.ret (I.int IntKind.i64 i) g)):
  R (Y (m+1) (.fn 121) [I.str s,I.int IntKind.u8 (Int.ofNat n)] h):=by
 obtain⟨i,g,ab,H⟩:=H
 rw[show Y (m+1) (.fn 121) [I.str s,I.int IntKind.u8 (Int.ofNat n)] h=_ from eR (intr:=b0) (n:=m) (args:=[I.str s,I.int IntKind.u8 (Int.ofNat n)]) Tryz.func121 (by kernel_rfl) (by kernel_rfl) (by kernel_rfl) (WT (Y m) s n i h g ab) (.inl rfl) (by kernel_rfl)];exact H
theorem FO:Tryz.prog.underlying 9=some .string:=by kernel_rfl
theorem W6(m:Nat)(h:J):Y (m+1) (.fn 106) [.str oI] h=.ret (.aQ [.agg (ki pS),.bool true]) h:=by
 have e:b0 106 [.str oI] h=some (.aQ [.agg (ki pS),.bool true],h):=by kernel_rfl
 unfold Y;simp only[fa,e]
theorem W7(m:Nat)(h:J):Y (m+1) (.fn 106) [.str (oI++[45,47,46])] h=.ret (.aQ [.agg (ki j3),.bool true]) h:=by
 have e:b0 106 [.str (oI++[45,47,46])] h=some (.aQ [.agg (ki j3),.bool true],h):=by kernel_rfl
 unfold Y;simp only[fa,e]
theorem BS(p:Nat->Bool):(ki p).length=256:=by simp[ki]
def BT(h:J)(a:Nat)(p:Nat->Bool):Prop:=h.get a=some (.cells (ki p) 144 .own 0 0)
theorem L5(m a n:Nat)(p:Nat->Bool)(h:J)(aN:n<256)(aT:BT h a p):Y (m+1) (.fn 113) [.ptr a 0,.int .u8 (Int.ofNat n)] h=.ret (.bool (p n)) h:=
 W1 m a n h (R:=λx=>x=_) ⟨aN,_,l8 aT (by rw[show 0+n*1=n by omega];simp[ki,aN]),rfl⟩
theorem W8(p:Nat->Bool)(s:a5)(hs:0<s.length)(aw:p (s[s.length-1]'(by omega)).toNat=true):(s.take (s.length-1)).all (λc=>p c.toNat)=s.all (λc=>p c.toNat):=by
 have e:s=s.take (s.length-1)++[s[s.length-1]'(by omega)]:=by
  have:=List.take_append_drop (s.length-1) s
  rw[List.drop_eq_getElem_cons (by omega),List.drop_of_length_le (by omega)] at this
  exact this.symm
 conv=>rhs;rw[e]
 rw[List.all_append];simp[aw]
theorem L6{s:a5}{i:Nat}(h:i<s.length):gQ i s=some (.int .u8 (Int.ofNat (s[i]).toNat)):=nK h
theorem W9(m a:Nat)(p:Nat->Bool)(s:a5)(h:J)(hs:s.length<=90000)(aT:BT h a p):∃t,Y (m+2) (.fn 108) [.str s,.ptr a 0] h=.ret (.str t) h/\t.length<=s.length/\t.all (λc=>p c.toNat)=s.all (λc=>p c.toNat)/\(t.all (λc=>p c.toNat)=true->t=[]):=by
 refine WX (m+1) s a h (R:=λx=>∃t,x=.ret (.str t) h/\t.length<=s.length/\t.all (λc=>p c.toNat)=s.all (λc=>p c.toNat)/\(t.all (λc=>p c.toNat)=true->t=[])) ?_
 refine a3.loop (by kernel_rfl) (λk st=>∃(t:a5) (Γ:Env),st=⟨Γ,[],.none,h⟩/\b_ [(0,.str t),(1,.ptr a 0)] Γ/\t.length=k/\t.length<=s.length/\t.all (λc=>p c.toNat)=s.all (λc=>p c.toNat)) ?_ s.length _ (by omega) ⟨s,_,rfl,⟨rfl,rfl,trivial⟩,rfl,Nat.le_refl _,rfl⟩
 rintro k st ⟨t,Γ,rfl,cQ,aq,aw,aM⟩
 refine a3.pre (WY (Y (m+1)) t a h ⟨λh0=>⟨⟨by omega,by omega⟩,_,L6 (by omega),_,_,L5 m a _ p h (UInt8.toNat_lt _) aT,λag=>?_,λag=>?_⟩,λh0=>?_⟩) cQ rfl rfl rfl
 · refine⟨t,_,rfl,rfl,⟨rfl,trivial⟩,t,rfl,aw,aM,λab=>?_⟩
   have:=List.all_eq_true.1 ab _ (List.getElem_mem (show t.length-1<t.length by omega))
   simp[this] at ag
 · have pk:p (t[t.length-1]'(by omega)).toNat=true:=by simpa using ag
   refine⟨_,Kg FO (by omega),_,(by show _<k;simp;omega),_,_,rfl,⟨rfl,rfl,trivial⟩,rfl,by simp;omega,by rw[W8 p t h0 pk,aM]⟩
 · obtain rfl:t=[]:=List.eq_nil_of_length_eq_zero (by omega)
   exact⟨[],_,rfl,rfl,⟨rfl,trivial⟩,[],rfl,aw,aM,λ_=>rfl⟩
theorem W_(m a:Nat)(p:Nat->Bool)(s:a5)(h:J)(hs:s.length<=90000)(aT:BT h a p):∃t,Y (m+2) (.fn 107) [.str s,.ptr a 0] h=.ret (.str t) h/\t.all (λc=>p c.toNat)=s.all (λc=>p c.toNat)/\(t.all (λc=>p c.toNat)=true->t=[]):=by
 refine WZ (m+1) s a h (R:=λx=>∃t,x=.ret (.str t) h/\t.all (λc=>p c.toNat)=s.all (λc=>p c.toNat)/\(t.all (λc=>p c.toNat)=true->t=[])) ?_
 refine a3.loop (by kernel_rfl) (λk st=>∃(t:a5) (Γ:Env),st=⟨Γ,[],.none,h⟩/\b_ [(0,.str t),(1,.ptr a 0)] Γ/\t.length=k/\t.all (λc=>p c.toNat)=s.all (λc=>p c.toNat)) ?_ s.length _ (by omega) ⟨s,_,rfl,⟨rfl,rfl,trivial⟩,rfl,rfl⟩
 rintro k st ⟨t,Γ,rfl,cQ,aq,aM⟩
 refine a3.pre (W0 (Y (m+1)) t a h ⟨λh0=>⟨_,L6 h0,_,_,L5 m a _ p h (UInt8.toNat_lt _) aT,λag=>?_,λag=>?_⟩,λh0=>?_⟩) cQ rfl rfl rfl
 · refine⟨t,_,rfl,rfl,⟨rfl,trivial⟩,t,rfl,aM,λab=>?_⟩
   have:=List.all_eq_true.1 ab _ (List.getElem_mem h0)
   simp[this] at ag
 · have pk:p (t[0]'h0).toNat=true:=by simpa using ag
   refine⟨_,S4 FO (by omega),_,(by show _<k;simp;omega),_,_,rfl,⟨rfl,rfl,trivial⟩,rfl,?_⟩
   rw[<-aM]
   cases t with
   |nil=>simp at h0
   |cons c t=>simp at pk;simp[pk]
 · obtain rfl:t=[]:=List.eq_nil_of_length_eq_zero (by omega)
   exact⟨[],_,rfl,rfl,⟨rfl,trivial⟩,[],rfl,aM,λ_=>rfl⟩
theorem wm(s:a5):dK s []=decide (s=[]):=by cases s<;>simp[dK]
theorem L7(m B:Nat)(p:Nat->Bool)(s o:a5)(h:J)(cM:B<=h.n)(hs:s.length<=90000)(h0:s≠[])(a4:o.length≠1)(aN:o≠[])(hm:Y (m+2) (.fn 106) [.str o] h=.ret (.aQ [.agg (ki p),.bool true]) h):
  ∃t an,Y (m+3) (.fn 83) [.str s,.str o] h=.ret (.str t) an/\dK t []=s.all (λc=>p c.toNat)/\Ext B h an:=by
 have st:aP.storeCells (h.push (.cells (List.replicate 256 (.bool false)) 144 .own 0 0)) h.n 0 (ki p)=some ((h.push (.cells (List.replicate 256 (.bool false)) 144 .own 0 0)).set h.n (some (.cells (ki p) 144 .own 0 0))):=by
  refine gS (fo rfl) (by rw[BS];rfl) ?_
  have:=EG (ki p) (List.replicate 256 (.bool false)) (by simp[ki,I.cT]) (by rw[BS];simp)
  rw[this,BS];simp
 obtain⟨g,al⟩:∃g,g=(h.push (.cells (List.replicate 256 (.bool false)) 144 .own 0 0)).set h.n (some (.cells (ki p) 144 .own 0 0)):=⟨_,rfl⟩
 rw[<-al] at st
 have qx:BT g h.n p:=by rw[al];exact gR rfl
 have oN:Ext B h g:=by rw[al];exact(Ext.push cM _).iX cM
 obtain⟨t,aH,bz,cr,aA⟩:=W9 m h.n p s g hs qx
 obtain⟨u,a9,cZ,ay⟩:=W_ m h.n p t g (by omega) qx
 refine WW (m+2) s o h (R:=λx=>∃t an,x=.ret (.str t) an/\dK t []=s.all (λc=>p c.toNat)/\Ext B h an) ⟨by rw[wm];simp[h0],by rw[wm];simp[aN],a4,_,hm,_,⟨by rw[BS],st,rfl⟩,t,g,aH,u,g,a9,u,g,rfl,?_,oN⟩
 rw[wm,<-cr,<-cZ]
 cases aM:u.all (λc=>p c.toNat) with
 |true=>simp[ay aM]
 |false=>
  cases u with
  |nil=>simp at aM
  |cons c u=>simp
theorem L8(m B:Nat)(p:Nat->Bool)(s o:a5)(n:Nat)(h:J)(cM:B<=h.n)(adC:n<=90000)(a4:(o=[]/\p=pS)\/(o=[45,47,46]/\p=j3)):cP B h (.bool (decide (1<=s.length)&&decide (s.length<=n)&&s.all (λc=>p c.toNat))) (Y (m+4) (.fn 64) [.str s,.str o,.int .i64 (Int.ofNat n)] h):=by
 refine WU (m+3) s o n h ⟨λab=>⟨λad=>?_,λad=>?_⟩,λab=>?_⟩
 · have h0:s≠[]:=by rw[wm] at ab;simpa using ab
   have aK:1<=s.length:=List.length_pos_iff.2 h0
   have key:∃t an,Y (m+3) (.fn 83) [.str s,.str (oI++o)] h=.ret (.str t) an/\dK t []=s.all (λc=>p c.toNat)/\Ext B h an:=by
    rcases a4 with⟨rfl,rfl⟩|⟨rfl,rfl⟩
    · rw[List.append_nil]
      exact L7 m B pS s oI h cM (by omega) h0 (by decide) (by decide) (W6 _ h)
    · exact L7 m B j3 s (oI++[45,47,46]) h cM (by omega) h0 (by decide) (by decide) (W7 _ h)
   obtain⟨t,an,c,e,x⟩:=key
   exact⟨by rcases a4 with⟨rfl,_⟩|⟨rfl,_⟩<;>simp,t,an,c,cP.of (ia (by rw[e];simp[aK,ad])) x⟩
 · exact cP.of (ia (by simp[ad])) (Ext.refl _ _)
 · have h0:s=[]:=by rw[wm] at ab;simpa using ab
   subst h0
   exact cP.of (ia (by simp)) (Ext.refl _ _)
end Go.Proofs.cG
