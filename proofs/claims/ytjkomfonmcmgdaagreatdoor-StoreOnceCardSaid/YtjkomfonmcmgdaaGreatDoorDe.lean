/-
  PROVED HERE: contracts of functions (De). No condition beside each statement's own.
-/
import Derived.Test.YtjkomfonmcmgdaaGreatDoorDc
import Derived.Test.YtjkomfonmcmgdaaGreatDoorSxb
set_option linter.unusedVariables false
set_option linter.unusedSimpArgs false
set_option maxRecDepth 100000
set_option maxHeartbeats 1000000
namespace Go.Proofs.jk
open Go bt Go.Proofs hy
theorem YQ(call:aP)(s o:List UInt8)(n:Nat)(h:J)(eh k9:List UInt8)(cH:J)
  (H1:(!dd s [])=true)
  (aM:eQ (.ofNat (List.length s)) (.ofNat n)=true)
  (bm:gT .add [97,98,99,100,101,102,103,104,105,106,107,108,109,110,111,112,113,114,115,116,117,118,119,120,121,122,65,66,67,68,69,70,71,72,73,74,75,76,77,78,79,80,81,82,83,84,85,86,87,88,89,90,48,49,50,51,52,53,54,55,56,57,95] o=some (.str eh))
  (bl:call (.fn 83) [.str s,.str eh] h=a9.ret (.str k9) cH):
  aB Tryz.prog Tryz.f64 none call [] (ah.mk [(0,.str s),(1,.str o),(2,.int .i64 (.ofNat n))] [] .none h) (.ret)
   (ah.mk [(6,.bool (dd k9 []))] [] .none cH):=
 bx [6] (hs:=[.b true,.b true,.b true,.b true,.b true,.b true,.b true,.b true,.v (.str eh),.b true,.c (.str k9) cH,.b true,.b true]) (by kernel_rfl)<| .cons H1<| .cons H1<| .cons H1<| .cons H1<| .cons H1<| .cons aM<| .cons aM<| .cons aM<| .cons bm<| .cons aM<| .cons bl<| .cons aM<| .cons aM<| .nil
theorem YR(call:aP)(s o:List UInt8)(n:Nat)(h:J)
  (H1:(!dd s [])=true)
  (aM:eQ (.ofNat (List.length s)) (.ofNat n)=false):
  aB Tryz.prog Tryz.f64 none call [] (ah.mk [(0,.str s),(1,.str o),(2,.int .i64 (.ofNat n))] [] .none h) (.ret)
   (ah.mk [(6,.bool false)] [] .none h):=
 bx [6] (hs:=[.b true,.b true,.b true,.b true,.b true,.b false,.b false,.b false,.b false,.b false,.b false]) (by kernel_rfl)<| .cons H1<| .cons H1<| .cons H1<| .cons H1<| .cons H1<| .cons aM<| .cons aM<| .cons aM<| .cons aM<| .cons aM<| .cons aM<| .nil
theorem YS(call:aP)(s o:List UInt8)(n:Nat)(h:J)
  (H1:(!dd s [])=false):
  aB Tryz.prog Tryz.f64 none call [] (ah.mk [(0,.str s),(1,.str o),(2,.int .i64 (.ofNat n))] [] .none h) (.ret)
   (ah.mk [(6,.bool false)] [] .none h):=
 bx [6] (hs:=[.b false,.b false,.b false,.b false,.b false,.b false,.b false,.b false,.b false,.b false,.b false]) (by kernel_rfl)<| .cons H1<| .cons H1<| .cons H1<| .cons H1<| .cons H1<| .cons (rfl:false=false)<| .cons (rfl:false=false)<| .cons (rfl:false=false)<| .cons (rfl:false=false)<| .cons (rfl:false=false)<| .cons (rfl:false=false)<| .nil
theorem YT(call:aP)(s:List UInt8)(h:J)(dN:Bool)(cH:J)(eh:List UInt8)(s7:Bool)(h1:J)
  (H1:call (.fn 64) [.str s,.str [],.int .i64 (.ofNat 24)] h=a9.ret (.bool dN) cH)
  (aM:dN=true)
  (bm:c1 Tryz.prog cH 9 (I.str s) none (some (I.int IntKind.i64 (Int.ofNat 1))) none=some (I.str eh))
  (bl:call (.fn 85) [.str [48,49,50,51,52,53,54,55,56,57],.str eh] cH=a9.ret (.bool s7) h1):
  aB Tryz.prog Tryz.f67 none call [] (ah.mk [(0,.str s)] [] .none h) (.ret)
   (ah.mk [(2,.bool !s7)] [] .none h1):=
 bx [2] (hs:=[.c (.bool dN) cH,.b true,.b true,.v (.str eh),.b true,.c (.bool s7) h1,.b true,.b true]) (by kernel_rfl)<| .cons H1<| .cons aM<| .cons aM<| .cons bm<| .cons aM<| .cons bl<| .cons aM<| .cons aM<| .nil
theorem YU(call:aP)(s:List UInt8)(h:J)(dN:Bool)(cH:J)
  (H1:call (.fn 64) [.str s,.str [],.int .i64 (.ofNat 24)] h=a9.ret (.bool dN) cH)
  (aM:dN=false):
  aB Tryz.prog Tryz.f67 none call [] (ah.mk [(0,.str s)] [] .none h) (.ret)
   (ah.mk [(2,.bool false)] [] .none cH):=
 bx [2] (hs:=[.c (.bool dN) cH,.b false,.b false,.b false,.b false,.b false]) (by kernel_rfl)<| .cons H1<| .cons aM<| .cons aM<| .cons aM<| .cons aM<| .cons aM<| .nil
theorem trim(call:aP)(s o:List UInt8)(l:List I)(h cH:J)(eh:List UInt8)(h1:J)(k9:List UInt8)(s8:J)
  (H1:dd s []=false)
  (aM:dd o []=false)
  (bm:a8 (.ofNat (List.length o)) (.ofNat 1)=false)
  (bl:call (.fn 106) [.str o] h=a9.ret (.aO [.agg l,.bool true]) h)
  (bY:some 256=some (List.length l)/\bt.storeCells (J.push h (dr.cells (List.replicate 256 (I.bool false)) 144 gS.own 0 0)) (J.n h) 0 l=some cH/\I.aO []=I.aO [])
  (cG:call (.fn 108) [.str s,.ptr (J.n h) 0] cH=a9.ret (.str eh) h1)
  (du:call (.fn 107) [.str eh,.ptr (J.n h) 0] h1=a9.ret (.str k9) s8):
  aB Tryz.prog Tryz.f83 none call [] (ah.mk [(0,.str s),(1,.str o)] [] .none h) (.ret)
   (ah.mk [(4,.str k9)] [] .none s8):=
 bx [4] (hs:=[.b false,.b false,.b false,.b false,.b false,.b false,.b false,.b false,.b false,.c (.aO [.agg l,.bool true]) h,.mM (.aO []) cH,.b true,.c (.str eh) h1,.c (.str k9) s8]) (by kernel_rfl)<| .cons H1<| .cons H1<| .cons H1<| .cons aM<| .cons bm<| .cons bm<| .cons bm<| .cons bm<| .cons (rfl:false=false)<| .cons bl<| .cons bY<| .cons (rfl:true=true)<| .cons cG<| .cons du<| .nil
theorem YV(call:aP)(s t:List UInt8)(a:Nat)(h:J)
  (H1:aB Tryz.prog Tryz.f108 none call [1,0,0] (ah.mk [(4,.str []),(0,.str s),(1,.ptr a 0)] [] .none h) (.exit 0) (ah.mk [(0,.str t)] [] .none h)):
  aB Tryz.prog Tryz.f108 none call [] (ah.mk [(0,.str s),(1,.ptr a 0)] [] .none h) (.ret)
   (ah.mk [(4,.str t)] [] .none h):=
 bx [4] (hs:=[Hint.loop (bu.exit 0) (ah.mk [(0,I.str t)] [] bL.none h)]) (by kernel_rfl)<| .cons H1<| .nil
theorem YW(call:aP)(s:List UInt8)(a:Nat)(h:J)(fD nP:Nat)(dN:Bool)(cH:J)
  (H1:bP (.ofNat 0) (.ofNat (List.length s))=true)
  (aM:arith .sub .i64 (.ofNat (List.length s)) (.ofNat 1)=some (.int .i64 (.ofNat fD)))
  (bm:g7 fD s=some (.int .u8 (.ofNat nP)))
  (bl:call (.fn 113) [.ptr a 0,.int .u8 (.ofNat nP)] h=a9.ret (.bool dN) cH)
  (bY:(!dN)=true):
  aB Tryz.prog Tryz.f108 none call [1,0,0,0] (ah.mk [(0,.str s),(1,.ptr a 0)] [] .none h) (.exit 0)
   (ah.mk [(0,.str s),(1,.ptr a 0)] [] .none cH):=
 bx [0,1] (hs:=[.o (.int .i64 (.ofNat (List.length s))),.b true,.o (.int .i64 (.ofNat (List.length s))),.v (.int .i64 (.ofNat fD)),.v (.int .u8 (.ofNat nP)),.c (.bool dN) cH,.b true]) (by kernel_rfl)<| .cons (by kernel_rfl:cl Tryz.prog h 9 (I.str s)=some (I.int IntKind.i64 (Int.ofNat (List.length s))))<| .cons H1<| .cons (by kernel_rfl:cl Tryz.prog h 9 (I.str s)=some (I.int IntKind.i64 (Int.ofNat (List.length s))))<| .cons aM<| .cons bm<| .cons bl<| .cons bY<| .nil
theorem YX(call:aP)(s:List UInt8)(a:Nat)(h:J)(fD nP:Nat)(dN:Bool)(cH:J)(eh:List UInt8)
  (H1:bP (.ofNat 0) (.ofNat (List.length s))=true)
  (aM:arith .sub .i64 (.ofNat (List.length s)) (.ofNat 1)=some (.int .i64 (.ofNat fD)))
  (bm:g7 fD s=some (.int .u8 (.ofNat nP)))
  (bl:call (.fn 113) [.ptr a 0,.int .u8 (.ofNat nP)] h=a9.ret (.bool dN) cH)
  (bY:(!dN)=false)
  (cG:c1 Tryz.prog cH 9 (I.str s) none (some (I.int IntKind.i64 (Int.ofNat fD))) none=some (I.str eh)):
  aB Tryz.prog Tryz.f108 none call [1,0,0,0] (ah.mk [(0,.str s),(1,.ptr a 0)] [] .none h) (.nrm)
   (ah.mk [(0,.str eh),(1,.ptr a 0)] [] .none cH):=
 bx [0,1] (hs:=[.o (.int .i64 (.ofNat (List.length s))),.b true,.o (.int .i64 (.ofNat (List.length s))),.v (.int .i64 (.ofNat fD)),.v (.int .u8 (.ofNat nP)),.c (.bool dN) cH,.b false,.o (.int .i64 (.ofNat (List.length s))),.v (.int .i64 (.ofNat fD)),.v (.str eh)]) (by kernel_rfl)<| .cons (by kernel_rfl:cl Tryz.prog h 9 (I.str s)=some (I.int IntKind.i64 (Int.ofNat (List.length s))))<| .cons H1<| .cons (by kernel_rfl:cl Tryz.prog h 9 (I.str s)=some (I.int IntKind.i64 (Int.ofNat (List.length s))))<| .cons aM<| .cons bm<| .cons bl<| .cons bY<| .cons (by kernel_rfl:cl Tryz.prog cH 9 (I.str s)=some (I.int IntKind.i64 (Int.ofNat (List.length s))))<| .cons aM<| .cons cG<| .nil
theorem YY(call:aP)(s:List UInt8)(a:Nat)(h:J)
  (H1:bP (.ofNat 0) (.ofNat (List.length s))=false):
  aB Tryz.prog Tryz.f108 none call [1,0,0,0] (ah.mk [(0,.str s),(1,.ptr a 0)] [] .none h) (.exit 0)
   (ah.mk [(0,.str s),(1,.ptr a 0)] [] .none h):=
 bx [0,1] (hs:=[.o (.int .i64 (.ofNat (List.length s))),.b false]) (by kernel_rfl)<| .cons (by kernel_rfl:cl Tryz.prog h 9 (I.str s)=some (I.int IntKind.i64 (Int.ofNat (List.length s))))<| .cons H1<| .nil
theorem YZ(call:aP)(s t:List UInt8)(a:Nat)(h:J)
  (H1:aB Tryz.prog Tryz.f107 none call [1,0,0] (ah.mk [(4,.str []),(0,.str s),(1,.ptr a 0)] [] .none h) (.exit 0) (ah.mk [(0,.str t)] [] .none h)):
  aB Tryz.prog Tryz.f107 none call [] (ah.mk [(0,.str s),(1,.ptr a 0)] [] .none h) (.ret)
   (ah.mk [(4,.str t)] [] .none h):=
 bx [4] (hs:=[Hint.loop (bu.exit 0) (ah.mk [(0,I.str t)] [] bL.none h)]) (by kernel_rfl)<| .cons H1<| .nil
theorem Y0(call:aP)(s:List UInt8)(a:Nat)(h:J)(fD:Nat)(dN:Bool)(cH:J)
  (H1:bP (.ofNat 0) (.ofNat (List.length s))=true)
  (aM:g7 0 s=some (.int .u8 (.ofNat fD)))
  (bm:call (.fn 113) [.ptr a 0,.int .u8 (.ofNat fD)] h=a9.ret (.bool dN) cH)
  (bl:(!dN)=true):
  aB Tryz.prog Tryz.f107 none call [1,0,0,0] (ah.mk [(0,.str s),(1,.ptr a 0)] [] .none h) (.exit 0)
   (ah.mk [(0,.str s),(1,.ptr a 0)] [] .none cH):=
 bx [0,1] (hs:=[.o (.int .i64 (.ofNat (List.length s))),.b true,.v (.int .u8 (.ofNat fD)),.c (.bool dN) cH,.b true]) (by kernel_rfl)<| .cons (by kernel_rfl:cl Tryz.prog h 9 (I.str s)=some (I.int IntKind.i64 (Int.ofNat (List.length s))))<| .cons H1<| .cons aM<| .cons bm<| .cons bl<| .nil
theorem Y1(call:aP)(s:List UInt8)(a:Nat)(h:J)(fD:Nat)(dN:Bool)(cH:J)(eh:List UInt8)
  (H1:bP (.ofNat 0) (.ofNat (List.length s))=true)
  (aM:g7 0 s=some (.int .u8 (.ofNat fD)))
  (bm:call (.fn 113) [.ptr a 0,.int .u8 (.ofNat fD)] h=a9.ret (.bool dN) cH)
  (bl:(!dN)=false)
  (bY:c1 Tryz.prog cH 9 (I.str s) (some (I.int IntKind.i64 (Int.ofNat 1))) none none=some (I.str eh)):
  aB Tryz.prog Tryz.f107 none call [1,0,0,0] (ah.mk [(0,.str s),(1,.ptr a 0)] [] .none h) (.nrm)
   (ah.mk [(0,.str eh),(1,.ptr a 0)] [] .none cH):=
 bx [0,1] (hs:=[.o (.int .i64 (.ofNat (List.length s))),.b true,.v (.int .u8 (.ofNat fD)),.c (.bool dN) cH,.b false,.v (.str eh)]) (by kernel_rfl)<| .cons (by kernel_rfl:cl Tryz.prog h 9 (I.str s)=some (I.int IntKind.i64 (Int.ofNat (List.length s))))<| .cons H1<| .cons aM<| .cons bm<| .cons bl<| .cons bY<| .nil
theorem Y2(call:aP)(s:List UInt8)(a:Nat)(h:J)
  (H1:bP (.ofNat 0) (.ofNat (List.length s))=false):
  aB Tryz.prog Tryz.f107 none call [1,0,0,0] (ah.mk [(0,.str s),(1,.ptr a 0)] [] .none h) (.exit 0)
   (ah.mk [(0,.str s),(1,.ptr a 0)] [] .none h):=
 bx [0,1] (hs:=[.o (.int .i64 (.ofNat (List.length s))),.b false]) (by kernel_rfl)<| .cons (by kernel_rfl:cl Tryz.prog h 9 (I.str s)=some (I.int IntKind.i64 (Int.ofNat (List.length s))))<| .cons H1<| .nil
theorem Y3(call:aP)(a n:Nat)(h:J)(dN:Bool)
  (H1:Nat.le (Nat.succ n) 256)
  (aM:ar h a (0+n*1)=some (.bool dN)):
  aB Tryz.prog Tryz.f113 none call [] (ah.mk [(0,.ptr a 0),(1,.int .u8 (.ofNat n))] [] .none h) (.ret)
   (ah.mk [(4,.bool dN)] [] .none h):=
 bx [4] (hs:=[.v (.ptr a (0+n*1)),.v (.bool dN)]) (by kernel_rfl)<| .cons (⟨H1,rfl⟩:Nat.le (Nat.succ n) 256/\I.ptr a (0+n*1)=I.ptr a (0+n*1))<| .cons aM<| .nil
theorem Y4(call:aP)(s o:List UInt8)(i:Int)(h g:J)
  (H1:call (.fn 111) [.str s,.str o] h=a9.ret (.int .i64 i) g):
  aB Tryz.prog Tryz.f85 none call [] (ah.mk [(0,.str s),(1,.str o)] [] .none h) (.ret)
   (ah.mk [(4,.bool (eQ (.ofNat 0) i))] [] .none g):=
 bx [4] (hs:=[.c (.int .i64 i) g]) (by kernel_rfl)<| .cons H1<| .nil
theorem Y5(call:aP)(s o:List UInt8)(i:Int)(h g:J)
  (H1:call (.fn 117) [.str s,.str o] h=a9.ret (.int .i64 i) g):
  aB Tryz.prog Tryz.f111 none call [] (ah.mk [(0,.str s),(1,.str o)] [] .none h) (.ret)
   (ah.mk [(4,.int .i64 i)] [] .none g):=
 bx [4] (hs:=[.c (.int .i64 i) g]) (by kernel_rfl)<| .cons H1<| .nil
theorem Y6(call:aP)(s:List UInt8)(c:UInt8)(i:Int)(h g:J)
  (H1:dd [c] s=false)
  (aM:g7 0 [c]=some (.int .u8 (.ofNat (BitVec.toFin (UInt8.toBitVec c)).1)))
  (bm:call (.fn 121) [.str s,.int .u8 (.ofNat (BitVec.toFin (UInt8.toBitVec c)).1)] h=a9.ret (.int .i64 i) g):
  aB Tryz.prog Tryz.f117 none call [] (ah.mk [(0,.str s),(1,.str [c])] [] .none h) (.ret)
   (ah.mk [(4,.int .i64 i)] [] .none g):=
 bx [4] (hs:=[.b false,.b false,.b false,.b false,.b false,.b true,.v (.int .u8 (.ofNat (UInt8.toNat c))),.c (.int .i64 i) g]) (by kernel_rfl)<| .cons (by kernel_rfl:a8 (Int.ofNat 1) (Int.ofNat 0)=false)<| .cons (by kernel_rfl:a8 (Int.ofNat 1) (Int.ofNat 0)=false)<| .cons (by kernel_rfl:a8 (Int.ofNat 1) (Int.ofNat 0)=false)<| .cons (by kernel_rfl:a8 (Int.ofNat 1) (Int.ofNat 0)=false)<| .cons H1<| .cons (by kernel_rfl:a8 (Int.ofNat 1) (Int.ofNat 1)=true)<| .cons aM<| .cons bm<| .nil
theorem Y7(call:aP)(s:List UInt8)(n:Nat)(i:Int)(h g:J)
  (H1:call (.fn 127) [.str s,.int .u8 (.ofNat n)] h=a9.ret (.int .i64 i) g):
  aB Tryz.prog Tryz.f121 none call [] (ah.mk [(0,.str s),(1,.int .u8 (.ofNat n))] [] .none h) (.ret)
   (ah.mk [(4,.int .i64 i)] [] .none g):=
 bx [4] (hs:=[.c (.int .i64 i) g]) (by kernel_rfl)<| .cons H1<| .nil
theorem Y8(m:Nat)(s o:List UInt8)(n:Nat)(h:J){R:a9->Prop}(H:
  ((!dd s [])=true->
    ((List.length s)<=n->
      List.length [97,98,99,100,101,102,103,104,105,106,107,108,109,110,111,112,113,114,115,116,117,118,119,120,121,122,65,66,67,68,69,70,71,72,73,74,75,76,77,78,79,80,81,82,83,84,85,86,87,88,89,90,48,49,50,51,52,53,54,55,56,57,95]+List.length o<=1000000000000/\
      ∃(k9:List UInt8) (cH:J),(Y m) (eJ.fn 83) [I.str s,I.str ([97,98,99,100,101,102,103,104,105,106,107,108,109,110,111,112,113,114,115,116,117,118,119,120,121,122,65,66,67,68,69,70,71,72,73,74,75,76,77,78,79,80,81,82,83,84,85,86,87,88,89,90,48,49,50,51,52,53,54,55,56,57,95]++o)] h=a9.ret (I.str k9) cH/\
      R (a9.ret (I.bool (dd k9 [])) cH))/\
    (¬(List.length s)<=n->
     R (a9.ret (I.bool false) h)))/\
  ((!dd s [])=false->
    R (a9.ret (I.bool false) h))):
  R (Y (m+1) (.fn 64) [I.str s,I.str o,I.int IntKind.i64 (Int.ofNat n)] h):=by
 rcases Bool.eq_false_or_eq_true ((!dd s [])) with aa|aa
 · have H:=H.1 aa
   by_cases ad:(List.length s)<=n
   · have H:=H.1 ad
     obtain⟨av,H⟩:=H
     obtain⟨k9,cH,aG,H⟩:=H
     rw[show Y (m+1) (.fn 64) [I.str s,I.str o,I.int IntKind.i64 (Int.ofNat n)] h=_ from eA (intr:=b3) (n:=m) (args:=[I.str s,I.str o,I.int IntKind.i64 (Int.ofNat n)]) Tryz.func64 (by kernel_rfl) (by kernel_rfl) (by kernel_rfl) (YQ (Y m) s o n h ([97,98,99,100,101,102,103,104,105,106,107,108,109,110,111,112,113,114,115,116,117,118,119,120,121,122,65,66,67,68,69,70,71,72,73,74,75,76,77,78,79,80,81,82,83,84,85,86,87,88,89,90,48,49,50,51,52,53,54,55,56,57,95]++o) k9 cH aa (mO ad) (hX av) aG) (.inl rfl) (by kernel_rfl)];exact H
   · have H:=H.2 ad
     rw[show Y (m+1) (.fn 64) [I.str s,I.str o,I.int IntKind.i64 (Int.ofNat n)] h=_ from eA (intr:=b3) (n:=m) (args:=[I.str s,I.str o,I.int IntKind.i64 (Int.ofNat n)]) Tryz.func64 (by kernel_rfl) (by kernel_rfl) (by kernel_rfl) (YR (Y m) s o n h aa (ox ad)) (.inl rfl) (by kernel_rfl)];exact H
 · have H:=H.2 aa
   rw[show Y (m+1) (.fn 64) [I.str s,I.str o,I.int IntKind.i64 (Int.ofNat n)] h=_ from eA (intr:=b3) (n:=m) (args:=[I.str s,I.str o,I.int IntKind.i64 (Int.ofNat n)]) Tryz.func64 (by kernel_rfl) (by kernel_rfl) (by kernel_rfl) (YS (Y m) s o n h aa) (.inl rfl) (by kernel_rfl)];exact H
theorem Y9(m:Nat)(s:List UInt8)(h:J){R:a9->Prop}(H:
  ∃(dN:Bool) (cH:J),(Y m) (eJ.fn 64) [I.str s,I.str [],I.int IntKind.i64 (Int.ofNat 24)] h=a9.ret (I.bool dN) cH/\
  (dN=true->
   ∃(eh:List UInt8),c1 Tryz.prog cH 9 (I.str s) none (some (I.int IntKind.i64 (Int.ofNat 1))) none=some (I.str eh)/\
   ∃(s7:Bool) (h1:J),(Y m) (eJ.fn 85) [I.str [48,49,50,51,52,53,54,55,56,57],I.str eh] cH=a9.ret (I.bool s7) h1/\
   R (a9.ret (I.bool !s7) h1))/\
  (dN=false->
   R (a9.ret (I.bool false) cH))):
  R (Y (m+1) (.fn 67) [I.str s] h):=by
 obtain⟨dN,cH,aa,H⟩:=H
 rcases Bool.eq_false_or_eq_true (dN) with ad|ad
 · have H:=H.1 ad
   obtain⟨eh,av,H⟩:=H
   obtain⟨s7,h1,aG,H⟩:=H
   rw[show Y (m+1) (.fn 67) [I.str s] h=_ from eA (intr:=b3) (n:=m) (args:=[I.str s]) Tryz.func67 (by kernel_rfl) (by kernel_rfl) (by kernel_rfl) (YT (Y m) s h dN cH eh s7 h1 aa ad av aG) (.inl rfl) (by kernel_rfl)];exact H
 · have H:=H.2 ad
   rw[show Y (m+1) (.fn 67) [I.str s] h=_ from eA (intr:=b3) (n:=m) (args:=[I.str s]) Tryz.func67 (by kernel_rfl) (by kernel_rfl) (by kernel_rfl) (YU (Y m) s h dN cH aa ad) (.inl rfl) (by kernel_rfl)];exact H
theorem Y_(m:Nat)(s o:List UInt8)(h:J){R:a9->Prop}(H:
  dd s []=false/\
  dd o []=false/\
  ¬(List.length o)=1/\
  ∃(l:List I),(Y m) (eJ.fn 106) [I.str o] h=a9.ret (I.aO [I.agg l,I.bool true]) h/\
  ∃(cH:J),(some 256=some (List.length l)/\bt.storeCells (J.push h (dr.cells (List.replicate 256 (I.bool false)) 144 gS.own 0 0)) (J.n h) 0 l=some cH/\I.aO []=I.aO [])/\
  ∃(eh:List UInt8) (h1:J),(Y m) (eJ.fn 108) [I.str s,I.ptr (J.n h) 0] cH=a9.ret (I.str eh) h1/\
  ∃(k9:List UInt8) (s8:J),(Y m) (eJ.fn 107) [I.str eh,I.ptr (J.n h) 0] h1=a9.ret (I.str k9) s8/\
  R (a9.ret (I.str k9) s8)):
  R (Y (m+1) (.fn 83) [I.str s,I.str o] h):=by
 obtain⟨aa,H⟩:=H
 obtain⟨ad,H⟩:=H
 obtain⟨av,H⟩:=H
 obtain⟨l,aG,H⟩:=H
 obtain⟨cH,bI,H⟩:=H
 obtain⟨eh,h1,cq,H⟩:=H
 obtain⟨k9,s8,di,H⟩:=H
 rw[show Y (m+1) (.fn 83) [I.str s,I.str o] h=_ from eA (intr:=b3) (n:=m) (args:=[I.str s,I.str o]) Tryz.func83 (by kernel_rfl) (by kernel_rfl) (by kernel_rfl) (trim (Y m) s o l h cH eh h1 k9 s8 aa ad (jS av) aG bI cq di) (.inl rfl) (by kernel_rfl)];exact H
theorem Za(m:Nat)(s:List UInt8)(a:Nat)(h:J){R:a9->Prop}(H:
  a4 Tryz.prog Tryz.f108 (Y m) [1,0,0] (ah.mk [(4,I.str []),(0,I.str s),(1,I.ptr a 0)] [] bL.none h) (λb9 cf=>
   (∃(t:List UInt8) (cx:Env),b9=(bu.exit 0)/\cf=(ah.mk cx [] bL.none h)/\cd [(0,I.str t)] cx/\
    R (a9.ret (I.str t) h)))):
  R (Y (m+1) (.fn 108) [I.str s,I.ptr a 0] h):=by
 obtain⟨b9,cf,aa,H⟩:=H
 obtain⟨t,cx,rfl,rfl,cL,H⟩:=H
 replace aa:=cQ.post aa cL
 rw[show Y (m+1) (.fn 108) [I.str s,I.ptr a 0] h=_ from eA (intr:=b3) (n:=m) (args:=[I.str s,I.ptr a 0]) Tryz.func108 (by kernel_rfl) (by kernel_rfl) (by kernel_rfl) (YV (Y m) s t a h aa) (.inl rfl) (by kernel_rfl)];exact H
theorem Zb(call:aP)(s:List UInt8)(a:Nat)(h:J){Q:bu->ah->Prop}(H:
  (0<(List.length s)->
   (1<=(List.length s)/\(List.length s)<9223372036854775808)/\
   ∃(nP:Nat),g7 ((List.length s)-1) s=some (I.int IntKind.u8 (Int.ofNat nP))/\
   ∃(dN:Bool) (cH:J),call (eJ.fn 113) [I.ptr a 0,I.int IntKind.u8 (Int.ofNat nP)] h=a9.ret (I.bool dN) cH/\
   ((!dN)=true->
     Q (bu.exit 0) (ah.mk [(0,I.str s),(1,I.ptr a 0)] [] bL.none cH))/\
   ((!dN)=false->
     ∃(eh:List UInt8),c1 Tryz.prog cH 9 (I.str s) none (some (I.int IntKind.i64 (Int.ofNat ((List.length s)-1)))) none=some (I.str eh)/\
     Q (bu.nrm) (ah.mk [(0,I.str eh),(1,I.ptr a 0)] [] bL.none cH)))/\
  (¬0<(List.length s)->
   Q (bu.exit 0) (ah.mk [(0,I.str s),(1,I.ptr a 0)] [] bL.none h))):
  a4 Tryz.prog Tryz.f108 call [1,0,0,0] (ah.mk [(0,I.str s),(1,I.ptr a 0)] [] bL.none h) Q:=by
 by_cases aa:0<(List.length s)
 · have H:=H.1 aa
   obtain⟨ad,H⟩:=H
   obtain⟨nP,av,H⟩:=H
   obtain⟨dN,cH,aG,H⟩:=H
   rcases Bool.eq_false_or_eq_true ((!dN)) with bI|bI
   · have H:=H.1 bI
     exact a4.of (YW call s a h ((List.length s)-1) nP dN cH (dT aa) (wy ad.1 ad.2) av aG bI) H
   · have H:=H.2 bI
     obtain⟨eh,cq,H⟩:=H
     exact a4.of (YX call s a h ((List.length s)-1) nP dN cH eh (dT aa) (wy ad.1 ad.2) av aG bI cq) H
 · have H:=H.2 aa
   exact a4.of (YY call s a h (e1 aa)) H
theorem Zc(m:Nat)(s:List UInt8)(a:Nat)(h:J){R:a9->Prop}(H:
  a4 Tryz.prog Tryz.f107 (Y m) [1,0,0] (ah.mk [(4,I.str []),(0,I.str s),(1,I.ptr a 0)] [] bL.none h) (λb9 cf=>
   (∃(t:List UInt8) (cx:Env),b9=(bu.exit 0)/\cf=(ah.mk cx [] bL.none h)/\cd [(0,I.str t)] cx/\
    R (a9.ret (I.str t) h)))):
  R (Y (m+1) (.fn 107) [I.str s,I.ptr a 0] h):=by
 obtain⟨b9,cf,aa,H⟩:=H
 obtain⟨t,cx,rfl,rfl,cL,H⟩:=H
 replace aa:=cQ.post aa cL
 rw[show Y (m+1) (.fn 107) [I.str s,I.ptr a 0] h=_ from eA (intr:=b3) (n:=m) (args:=[I.str s,I.ptr a 0]) Tryz.func107 (by kernel_rfl) (by kernel_rfl) (by kernel_rfl) (YZ (Y m) s t a h aa) (.inl rfl) (by kernel_rfl)];exact H
theorem Zd(call:aP)(s:List UInt8)(a:Nat)(h:J){Q:bu->ah->Prop}(H:
  (0<(List.length s)->
   ∃(fD:Nat),g7 0 s=some (I.int IntKind.u8 (Int.ofNat fD))/\
   ∃(dN:Bool) (cH:J),call (eJ.fn 113) [I.ptr a 0,I.int IntKind.u8 (Int.ofNat fD)] h=a9.ret (I.bool dN) cH/\
   ((!dN)=true->
     Q (bu.exit 0) (ah.mk [(0,I.str s),(1,I.ptr a 0)] [] bL.none cH))/\
   ((!dN)=false->
     ∃(eh:List UInt8),c1 Tryz.prog cH 9 (I.str s) (some (I.int IntKind.i64 (Int.ofNat 1))) none none=some (I.str eh)/\
     Q (bu.nrm) (ah.mk [(0,I.str eh),(1,I.ptr a 0)] [] bL.none cH)))/\
  (¬0<(List.length s)->
   Q (bu.exit 0) (ah.mk [(0,I.str s),(1,I.ptr a 0)] [] bL.none h))):
  a4 Tryz.prog Tryz.f107 call [1,0,0,0] (ah.mk [(0,I.str s),(1,I.ptr a 0)] [] bL.none h) Q:=by
 by_cases aa:0<(List.length s)
 · have H:=H.1 aa
   obtain⟨fD,ad,H⟩:=H
   obtain⟨dN,cH,av,H⟩:=H
   rcases Bool.eq_false_or_eq_true ((!dN)) with aG|aG
   · have H:=H.1 aG
     exact a4.of (Y0 call s a h fD dN cH (dT aa) ad av aG) H
   · have H:=H.2 aG
     obtain⟨eh,bI,H⟩:=H
     exact a4.of (Y1 call s a h fD dN cH eh (dT aa) ad av aG bI) H
 · have H:=H.2 aa
   exact a4.of (Y2 call s a h (e1 aa)) H
theorem Ze(m a n:Nat)(h:J){R:a9->Prop}(H:
  n<256/\
  ∃(dN:Bool),ar h a (0+n*1)=some (I.bool dN)/\
  R (a9.ret (I.bool dN) h)):
  R (Y (m+1) (.fn 113) [I.ptr a 0,I.int IntKind.u8 (Int.ofNat n)] h):=by
 obtain⟨aa,H⟩:=H
 obtain⟨dN,ad,H⟩:=H
 rw[show Y (m+1) (.fn 113) [I.ptr a 0,I.int IntKind.u8 (Int.ofNat n)] h=_ from eA (intr:=b3) (n:=m) (args:=[I.ptr a 0,I.int IntKind.u8 (Int.ofNat n)]) Tryz.func113 (by kernel_rfl) (by kernel_rfl) (by kernel_rfl) (Y3 (Y m) a n h dN aa ad) (.inl rfl) (by kernel_rfl)];exact H
theorem Zf(m:Nat)(s o:List UInt8)(h:J){R:a9->Prop}(H:
  ∃(i:Int) (g:J),(Y m) (eJ.fn 111) [I.str s,I.str o] h=a9.ret (I.int IntKind.i64 i) g/\
  R (a9.ret (I.bool (eQ (Int.ofNat 0) i)) g)):
  R (Y (m+1) (.fn 85) [I.str s,I.str o] h):=by
 obtain⟨i,g,aa,H⟩:=H
 rw[show Y (m+1) (.fn 85) [I.str s,I.str o] h=_ from eA (intr:=b3) (n:=m) (args:=[I.str s,I.str o]) Tryz.func85 (by kernel_rfl) (by kernel_rfl) (by kernel_rfl) (Y4 (Y m) s o i h g aa) (.inl rfl) (by kernel_rfl)];exact H
theorem Zg(m:Nat)(s o:List UInt8)(h:J){R:a9->Prop}(H:
  ∃(i:Int) (g:J),(Y m) (eJ.fn 117) [I.str s,I.str o] h=a9.ret (I.int IntKind.i64 i) g/\
  R (a9.ret (I.int IntKind.i64 i) g)):
  R (Y (m+1) (.fn 111) [I.str s,I.str o] h):=by
 obtain⟨i,g,aa,H⟩:=H
 rw[show Y (m+1) (.fn 111) [I.str s,I.str o] h=_ from eA (intr:=b3) (n:=m) (args:=[I.str s,I.str o]) Tryz.func111 (by kernel_rfl) (by kernel_rfl) (by kernel_rfl) (Y5 (Y m) s o i h g aa) (.inl rfl) (by kernel_rfl)];exact H
theorem Zh(m:Nat)(s:List UInt8)(c:UInt8)(h:J){R:a9->Prop}(H:
  dd [c] s=false/\
  g7 0 [c]=some (I.int IntKind.u8 (Int.ofNat (BitVec.toFin (UInt8.toBitVec c)).1))/\
  ∃(i:Int) (g:J),(Y m) (eJ.fn 121) [I.str s,I.int IntKind.u8 (Int.ofNat (BitVec.toFin (UInt8.toBitVec c)).1)] h=a9.ret (I.int IntKind.i64 i) g/\
  R (a9.ret (I.int IntKind.i64 i) g)):
  R (Y (m+1) (.fn 117) [I.str s,I.str [c]] h):=by
 obtain⟨aa,H⟩:=H
 obtain⟨ad,H⟩:=H
 obtain⟨i,g,av,H⟩:=H
 rw[show Y (m+1) (.fn 117) [I.str s,I.str [c]] h=_ from eA (intr:=b3) (n:=m) (args:=[I.str s,I.str [c]]) Tryz.func117 (by kernel_rfl) (by kernel_rfl) (by kernel_rfl) (Y6 (Y m) s c i h g aa ad av) (.inl rfl) (by kernel_rfl)];exact H
theorem Zi(m:Nat)(s:List UInt8)(n:Nat)(h:J){R:a9->Prop}(H:
  ∃(i:Int) (g:J),(Y m) (eJ.fn 127) [I.str s,I.int IntKind.u8 (Int.ofNat n)] h=a9.ret (I.int IntKind.i64 i) g/\
  R (a9.ret (I.int IntKind.i64 i) g)):
  R (Y (m+1) (.fn 121) [I.str s,I.int IntKind.u8 (Int.ofNat n)] h):=by
 obtain⟨i,g,aa,H⟩:=H
 rw[show Y (m+1) (.fn 121) [I.str s,I.int IntKind.u8 (Int.ofNat n)] h=_ from eA (intr:=b3) (n:=m) (args:=[I.str s,I.int IntKind.u8 (Int.ofNat n)]) Tryz.func121 (by kernel_rfl) (by kernel_rfl) (by kernel_rfl) (Y7 (Y m) s n i h g aa) (.inl rfl) (by kernel_rfl)];exact H
theorem G3:Tryz.prog.underlying 9=some .string:=by kernel_rfl
theorem Zj(m:Nat)(h:J):Y (m+1) (.fn 106) [.str ph] h=.ret (.aO [.agg (kK qq),.bool true]) h:=by
 have e:b3 106 [.str ph] h=some (.aO [.agg (kK qq),.bool true],h):=by kernel_rfl
 unfold Y;simp only[fp,e]
theorem Zk(m:Nat)(h:J):Y (m+1) (.fn 106) [.str (ph++[45,47,46])] h=.ret (.aO [.agg (kK ks),.bool true]) h:=by
 have e:b3 106 [.str (ph++[45,47,46])] h=some (.aO [.agg (kK ks),.bool true],h):=by kernel_rfl
 unfold Y;simp only[fp,e]
theorem CV(p:Nat->Bool):(kK p).length=256:=by simp[kK]
def CW(h:J)(a:Nat)(p:Nat->Bool):Prop:=h.get a=some (.cells (kK p) 144 .own 0 0)
theorem Nm(m a n:Nat)(p:Nat->Bool)(h:J)(aN:n<256)(aL:CW h a p):Y (m+1) (.fn 113) [.ptr a 0,.int .u8 (Int.ofNat n)] h=.ret (.bool (p n)) h:=
 Ze m a n h (R:=λx=>x=_) ⟨aN,_,lB aL (by rw[show 0+n*1=n by omega];simp[kK,aN]),rfl⟩
theorem Zl(p:Nat->Bool)(s:a7)(hs:0<s.length)(aw:p (s[s.length-1]'(by omega)).toNat=true):(s.take (s.length-1)).all (λc=>p c.toNat)=s.all (λc=>p c.toNat):=by
 have e:s=s.take (s.length-1)++[s[s.length-1]'(by omega)]:=by
  have:=List.take_append_drop (s.length-1) s
  rw[List.drop_eq_getElem_cons (by omega),List.drop_of_length_le (by omega)] at this
  exact this.symm
 conv=>rhs;rw[e]
 rw[List.all_append];simp[aw]
theorem Nn{s:a7}{i:Nat}(h:i<s.length):g7 i s=some (.int .u8 (Int.ofNat (s[i]).toNat)):=ov h
theorem Zm(m a:Nat)(p:Nat->Bool)(s:a7)(h:J)(hs:s.length<=90000)(aL:CW h a p):∃t,Y (m+2) (.fn 108) [.str s,.ptr a 0] h=.ret (.str t) h/\t.length<=s.length/\t.all (λc=>p c.toNat)=s.all (λc=>p c.toNat)/\(t.all (λc=>p c.toNat)=true->t=[]):=by
 refine Za (m+1) s a h (R:=λx=>∃t,x=.ret (.str t) h/\t.length<=s.length/\t.all (λc=>p c.toNat)=s.all (λc=>p c.toNat)/\(t.all (λc=>p c.toNat)=true->t=[])) ?_
 refine a4.loop (by kernel_rfl) (λk st=>∃(t:a7) (Γ:Env),st=⟨Γ,[],.none,h⟩/\cd [(0,.str t),(1,.ptr a 0)] Γ/\t.length=k/\t.length<=s.length/\t.all (λc=>p c.toNat)=s.all (λc=>p c.toNat)) ?_ s.length _ (by omega) ⟨s,_,rfl,⟨rfl,rfl,trivial⟩,rfl,Nat.le_refl _,rfl⟩
 rintro k st ⟨t,Γ,rfl,cL,aq,aw,aJ⟩
 refine a4.pre (Zb (Y (m+1)) t a h ⟨λh0=>⟨⟨by omega,by omega⟩,_,Nn (by omega),_,_,Nm m a _ p h (UInt8.toNat_lt _) aL,λag=>?_,λag=>?_⟩,λh0=>?_⟩) cL rfl rfl rfl
 · refine⟨t,_,rfl,rfl,⟨rfl,trivial⟩,t,rfl,aw,aJ,λaa=>?_⟩
   have:=List.all_eq_true.1 aa _ (List.getElem_mem (show t.length-1<t.length by omega))
   simp[this] at ag
 · have pY:p (t[t.length-1]'(by omega)).toNat=true:=by simpa using ag
   refine⟨_,Lo G3 (by omega),_,(by show _<k;simp;omega),_,_,rfl,⟨rfl,rfl,trivial⟩,rfl,by simp;omega,by rw[Zl p t h0 pY,aJ]⟩
 · obtain rfl:t=[]:=List.eq_nil_of_length_eq_zero (by omega)
   exact⟨[],_,rfl,rfl,⟨rfl,trivial⟩,[],rfl,aw,aJ,λ_=>rfl⟩
theorem Zn(m a:Nat)(p:Nat->Bool)(s:a7)(h:J)(hs:s.length<=90000)(aL:CW h a p):∃t,Y (m+2) (.fn 107) [.str s,.ptr a 0] h=.ret (.str t) h/\t.all (λc=>p c.toNat)=s.all (λc=>p c.toNat)/\(t.all (λc=>p c.toNat)=true->t=[]):=by
 refine Zc (m+1) s a h (R:=λx=>∃t,x=.ret (.str t) h/\t.all (λc=>p c.toNat)=s.all (λc=>p c.toNat)/\(t.all (λc=>p c.toNat)=true->t=[])) ?_
 refine a4.loop (by kernel_rfl) (λk st=>∃(t:a7) (Γ:Env),st=⟨Γ,[],.none,h⟩/\cd [(0,.str t),(1,.ptr a 0)] Γ/\t.length=k/\t.all (λc=>p c.toNat)=s.all (λc=>p c.toNat)) ?_ s.length _ (by omega) ⟨s,_,rfl,⟨rfl,rfl,trivial⟩,rfl,rfl⟩
 rintro k st ⟨t,Γ,rfl,cL,aq,aJ⟩
 refine a4.pre (Zd (Y (m+1)) t a h ⟨λh0=>⟨_,Nn h0,_,_,Nm m a _ p h (UInt8.toNat_lt _) aL,λag=>?_,λag=>?_⟩,λh0=>?_⟩) cL rfl rfl rfl
 · refine⟨t,_,rfl,rfl,⟨rfl,trivial⟩,t,rfl,aJ,λaa=>?_⟩
   have:=List.all_eq_true.1 aa _ (List.getElem_mem h0)
   simp[this] at ag
 · have pY:p (t[0]'h0).toNat=true:=by simpa using ag
   refine⟨_,UG G3 (by omega),_,(by show _<k;simp;omega),_,_,rfl,⟨rfl,rfl,trivial⟩,rfl,?_⟩
   rw[<-aJ]
   cases t with
   |nil=>simp at h0
   |cons c t=>simp at pY;simp[pY]
 · obtain rfl:t=[]:=List.eq_nil_of_length_eq_zero (by omega)
   exact⟨[],_,rfl,rfl,⟨rfl,trivial⟩,[],rfl,aJ,λ_=>rfl⟩
theorem xf(s:a7):dd s []=decide (s=[]):=by cases s<;>simp[dd]
theorem No(m B:Nat)(p:Nat->Bool)(s o:a7)(h:J)(cC:B<=h.n)(hs:s.length<=90000)(h0:s≠[])(aY:o.length≠1)(aN:o≠[])(hm:Y (m+2) (.fn 106) [.str o] h=.ret (.aO [.agg (kK p),.bool true]) h):
  ∃t an,Y (m+3) (.fn 83) [.str s,.str o] h=.ret (.str t) an/\dd t []=s.all (λc=>p c.toNat)/\Ext B h an:=by
 have st:bt.storeCells (h.push (.cells (List.replicate 256 (.bool false)) 144 .own 0 0)) h.n 0 (kK p)=some ((h.push (.cells (List.replicate 256 (.bool false)) 144 .own 0 0)).set h.n (some (.cells (kK p) 144 .own 0 0))):=by
  refine gN (fl rfl) (by rw[CV];rfl) ?_
  have:=FU (kK p) (List.replicate 256 (.bool false)) (by simp[kK,I.cO]) (by rw[CV];simp)
  rw[this,CV];simp
 obtain⟨g,al⟩:∃g,g=(h.push (.cells (List.replicate 256 (.bool false)) 144 .own 0 0)).set h.n (some (.cells (kK p) 144 .own 0 0)):=⟨_,rfl⟩
 rw[<-al] at st
 have q6:CW g h.n p:=by rw[al];exact gk rfl
 have pt:Ext B h g:=by rw[al];exact(Ext.push cC _).iB cC
 obtain⟨t,aF,bw,b6,aA⟩:=Zm m h.n p s g hs q6
 obtain⟨u,a6,cU,ax⟩:=Zn m h.n p t g (by omega) q6
 refine Y_ (m+2) s o h (R:=λx=>∃t an,x=.ret (.str t) an/\dd t []=s.all (λc=>p c.toNat)/\Ext B h an) ⟨by rw[xf];simp[h0],by rw[xf];simp[aN],aY,_,hm,_,⟨by rw[CV],st,rfl⟩,t,g,aF,u,g,a6,u,g,rfl,?_,pt⟩
 rw[xf,<-b6,<-cU]
 cases aJ:u.all (λc=>p c.toNat) with
 |true=>simp[ax aJ]
 |false=>
  cases u with
  |nil=>simp at aJ
  |cons c u=>simp
theorem Np(m B:Nat)(p:Nat->Bool)(s o:a7)(n:Nat)(h:J)(cC:B<=h.n)(afX:n<=90000)(aY:(o=[]/\p=qq)\/(o=[45,47,46]/\p=ks)):cZ B h (.bool (decide (1<=s.length)&&decide (s.length<=n)&&s.all (λc=>p c.toNat))) (Y (m+4) (.fn 64) [.str s,.str o,.int .i64 (Int.ofNat n)] h):=by
 refine Y8 (m+3) s o n h ⟨λaa=>⟨λad=>?_,λad=>?_⟩,λaa=>?_⟩
 · have h0:s≠[]:=by rw[xf] at aa;simpa using aa
   have aQ:1<=s.length:=List.length_pos_iff.2 h0
   have key:∃t an,Y (m+3) (.fn 83) [.str s,.str (ph++o)] h=.ret (.str t) an/\dd t []=s.all (λc=>p c.toNat)/\Ext B h an:=by
    rcases aY with⟨rfl,rfl⟩|⟨rfl,rfl⟩
    · rw[List.append_nil]
      exact No m B qq s ph h cC (by omega) h0 (by decide) (by decide) (Zj _ h)
    · exact No m B ks s (ph++[45,47,46]) h cC (by omega) h0 (by decide) (by decide) (Zk _ h)
   obtain⟨t,an,c,e,x⟩:=key
   exact⟨by rcases aY with⟨rfl,_⟩|⟨rfl,_⟩<;>simp,t,an,c,cZ.of (iC (by rw[e];simp[aQ,ad])) x⟩
 · exact cZ.of (iC (by simp[ad])) (Ext.refl _ _)
 · have h0:s=[]:=by rw[xf] at aa;simpa using aa
   subst h0
   exact cZ.of (iC (by simp)) (Ext.refl _ _)
end Go.Proofs.jk
