/-
  PROVED HERE: contracts of functions (De). No condition beside each statement's own.
-/
import Derived.Test.YtjkomfonmcmgdaaDoorDc
import Derived.Test.YtjkomfonmcmgdaaDoorSxb
set_option linter.unusedVariables false
set_option linter.unusedSimpArgs false
set_option maxRecDepth 100000
set_option maxHeartbeats 1000000
namespace Go.Proofs.hK
open Go a8 Go.Proofs gp
theorem RX(call:bt)(s o:List UInt8)(n:Nat)(h:ab)(dm jx:List UInt8)(cc:ab)
  (H1:(!dv s [])=true)
  (bU:gN (.ofNat (List.length s)) (.ofNat n)=true)
  (dh:qP .add [97,98,99,100,101,102,103,104,105,106,107,108,109,110,111,112,113,114,115,116,117,118,119,120,121,122,65,66,67,68,69,70,71,72,73,74,75,76,77,78,79,80,81,82,83,84,85,86,87,88,89,90,48,49,50,51,52,53,54,55,56,57,95] o=some (.str dm))
  (fJ:call (.fn 51) [.str s,.str dm] h=a7.ret (.str jx) cc):
  bS Tryd.prog Tryd.f37 none call [] (au.mk [(0,.str s),(1,.str o),(2,.int .i64 (.ofNat n))] [] .none h) (.ret)
   (au.mk [(6,.bool (dv jx []))] [] .none cc):=
 dR [6] (hs:=[.b true,.b true,.b true,.b true,.b true,.b true,.b true,.b true,.v (.str dm),.b true,.c (.str jx) cc,.b true,.b true]) (by kernel_rfl)<| .cons H1<| .cons H1<| .cons H1<| .cons H1<| .cons H1<| .cons bU<| .cons bU<| .cons bU<| .cons dh<| .cons bU<| .cons fJ<| .cons bU<| .cons bU<| .nil
theorem RY(call:bt)(s o:List UInt8)(n:Nat)(h:ab)
  (H1:(!dv s [])=true)
  (bU:gN (.ofNat (List.length s)) (.ofNat n)=false):
  bS Tryd.prog Tryd.f37 none call [] (au.mk [(0,.str s),(1,.str o),(2,.int .i64 (.ofNat n))] [] .none h) (.ret)
   (au.mk [(6,.bool false)] [] .none h):=
 dR [6] (hs:=[.b true,.b true,.b true,.b true,.b true,.b false,.b false,.b false,.b false,.b false,.b false]) (by kernel_rfl)<| .cons H1<| .cons H1<| .cons H1<| .cons H1<| .cons H1<| .cons bU<| .cons bU<| .cons bU<| .cons bU<| .cons bU<| .cons bU<| .nil
theorem RZ(call:bt)(s o:List UInt8)(n:Nat)(h:ab)
  (H1:(!dv s [])=false):
  bS Tryd.prog Tryd.f37 none call [] (au.mk [(0,.str s),(1,.str o),(2,.int .i64 (.ofNat n))] [] .none h) (.ret)
   (au.mk [(6,.bool false)] [] .none h):=
 dR [6] (hs:=[.b false,.b false,.b false,.b false,.b false,.b false,.b false,.b false,.b false,.b false,.b false]) (by kernel_rfl)<| .cons H1<| .cons H1<| .cons H1<| .cons H1<| .cons H1<| .cons (rfl:false=false)<| .cons (rfl:false=false)<| .cons (rfl:false=false)<| .cons (rfl:false=false)<| .cons (rfl:false=false)<| .cons (rfl:false=false)<| .nil
theorem R0(call:bt)(s:List UInt8)(h:ab)(c4:Bool)(cc:ab)(dm:List UInt8)(qx:Bool)(gI:ab)
  (H1:call (.fn 37) [.str s,.str [],.int .i64 (.ofNat 24)] h=a7.ret (.bool c4) cc)
  (bU:c4=true)
  (dh:ec Tryd.prog cc 9 (I.str s) none (some (I.int IntKind.i64 (Int.ofNat 1))) none=some (I.str dm))
  (fJ:call (.fn 53) [.str [48,49,50,51,52,53,54,55,56,57],.str dm] cc=a7.ret (.bool qx) gI):
  bS Tryd.prog Tryd.f40 none call [] (au.mk [(0,.str s)] [] .none h) (.ret)
   (au.mk [(2,.bool !qx)] [] .none gI):=
 dR [2] (hs:=[.c (.bool c4) cc,.b true,.b true,.v (.str dm),.b true,.c (.bool qx) gI,.b true,.b true]) (by kernel_rfl)<| .cons H1<| .cons bU<| .cons bU<| .cons dh<| .cons bU<| .cons fJ<| .cons bU<| .cons bU<| .nil
theorem R2(call:bt)(s:List UInt8)(h:ab)(c4:Bool)(cc:ab)
  (H1:call (.fn 37) [.str s,.str [],.int .i64 (.ofNat 24)] h=a7.ret (.bool c4) cc)
  (bU:c4=false):
  bS Tryd.prog Tryd.f40 none call [] (au.mk [(0,.str s)] [] .none h) (.ret)
   (au.mk [(2,.bool false)] [] .none cc):=
 dR [2] (hs:=[.c (.bool c4) cc,.b false,.b false,.b false,.b false,.b false]) (by kernel_rfl)<| .cons H1<| .cons bU<| .cons bU<| .cons bU<| .cons bU<| .cons bU<| .nil
theorem trim(call:bt)(s o:List UInt8)(l:List I)(h cc:ab)(dm:List UInt8)(gI:ab)(jx:List UInt8)(qy:ab)
  (H1:dv s []=false)
  (bU:dv o []=false)
  (dh:cW (.ofNat (List.length o)) (.ofNat 1)=false)
  (fJ:call (.fn 73) [.str o] h=a7.ret (.aJ [.agg l,.bool true]) h)
  (iN:some 256=some (List.length l)/\a8.storeCells (ab.push h (cX.cells (List.replicate 256 (I.bool false)) 116 hz.own 0 0)) (ab.n h) 0 l=some cc/\I.aJ []=I.aJ [])
  (wP:call (.fn 75) [.str s,.ptr (ab.n h) 0] cc=a7.ret (.str dm) gI)
  (R3:call (.fn 74) [.str dm,.ptr (ab.n h) 0] gI=a7.ret (.str jx) qy):
  bS Tryd.prog Tryd.f51 none call [] (au.mk [(0,.str s),(1,.str o)] [] .none h) (.ret)
   (au.mk [(4,.str jx)] [] .none qy):=
 dR [4] (hs:=[.b false,.b false,.b false,.b false,.b false,.b false,.b false,.b false,.b false,.c (.aJ [.agg l,.bool true]) h,.ll (.aJ []) cc,.b true,.c (.str dm) gI,.c (.str jx) qy]) (by kernel_rfl)<| .cons H1<| .cons H1<| .cons H1<| .cons bU<| .cons dh<| .cons dh<| .cons dh<| .cons dh<| .cons (rfl:false=false)<| .cons fJ<| .cons iN<| .cons (rfl:true=true)<| .cons wP<| .cons R3<| .nil
theorem R4(call:bt)(s t:List UInt8)(a:Nat)(h:ab)
  (H1:bS Tryd.prog Tryd.f75 none call [1,0,0] (au.mk [(4,.str []),(0,.str s),(1,.ptr a 0)] [] .none h) (.exit 0) (au.mk [(0,.str t)] [] .none h)):
  bS Tryd.prog Tryd.f75 none call [] (au.mk [(0,.str s),(1,.ptr a 0)] [] .none h) (.ret)
   (au.mk [(4,.str t)] [] .none h):=
 dR [4] (hs:=[Hint.loop (bk.exit 0) (au.mk [(0,I.str t)] [] bu.none h)]) (by kernel_rfl)<| .cons H1<| .nil
theorem R5(call:bt)(s:List UInt8)(a:Nat)(h:ab)(hL lE:Nat)(c4:Bool)(cc:ab)
  (H1:fx (.ofNat 0) (.ofNat (List.length s))=true)
  (bU:arith .sub .i64 (.ofNat (List.length s)) (.ofNat 1)=some (.int .i64 (.ofNat hL)))
  (dh:ln hL s=some (.int .u8 (.ofNat lE)))
  (fJ:call (.fn 80) [.ptr a 0,.int .u8 (.ofNat lE)] h=a7.ret (.bool c4) cc)
  (iN:(!c4)=true):
  bS Tryd.prog Tryd.f75 none call [1,0,0,0] (au.mk [(0,.str s),(1,.ptr a 0)] [] .none h) (.exit 0)
   (au.mk [(0,.str s),(1,.ptr a 0)] [] .none cc):=
 dR [0,1] (hs:=[.o (.int .i64 (.ofNat (List.length s))),.b true,.o (.int .i64 (.ofNat (List.length s))),.v (.int .i64 (.ofNat hL)),.v (.int .u8 (.ofNat lE)),.c (.bool c4) cc,.b true]) (by kernel_rfl)<| .cons (by kernel_rfl:cr Tryd.prog h 9 (I.str s)=some (I.int IntKind.i64 (Int.ofNat (List.length s))))<| .cons H1<| .cons (by kernel_rfl:cr Tryd.prog h 9 (I.str s)=some (I.int IntKind.i64 (Int.ofNat (List.length s))))<| .cons bU<| .cons dh<| .cons fJ<| .cons iN<| .nil
theorem R6(call:bt)(s:List UInt8)(a:Nat)(h:ab)(hL lE:Nat)(c4:Bool)(cc:ab)(dm:List UInt8)
  (H1:fx (.ofNat 0) (.ofNat (List.length s))=true)
  (bU:arith .sub .i64 (.ofNat (List.length s)) (.ofNat 1)=some (.int .i64 (.ofNat hL)))
  (dh:ln hL s=some (.int .u8 (.ofNat lE)))
  (fJ:call (.fn 80) [.ptr a 0,.int .u8 (.ofNat lE)] h=a7.ret (.bool c4) cc)
  (iN:(!c4)=false)
  (wP:ec Tryd.prog cc 9 (I.str s) none (some (I.int IntKind.i64 (Int.ofNat hL))) none=some (I.str dm)):
  bS Tryd.prog Tryd.f75 none call [1,0,0,0] (au.mk [(0,.str s),(1,.ptr a 0)] [] .none h) (.nrm)
   (au.mk [(0,.str dm),(1,.ptr a 0)] [] .none cc):=
 dR [0,1] (hs:=[.o (.int .i64 (.ofNat (List.length s))),.b true,.o (.int .i64 (.ofNat (List.length s))),.v (.int .i64 (.ofNat hL)),.v (.int .u8 (.ofNat lE)),.c (.bool c4) cc,.b false,.o (.int .i64 (.ofNat (List.length s))),.v (.int .i64 (.ofNat hL)),.v (.str dm)]) (by kernel_rfl)<| .cons (by kernel_rfl:cr Tryd.prog h 9 (I.str s)=some (I.int IntKind.i64 (Int.ofNat (List.length s))))<| .cons H1<| .cons (by kernel_rfl:cr Tryd.prog h 9 (I.str s)=some (I.int IntKind.i64 (Int.ofNat (List.length s))))<| .cons bU<| .cons dh<| .cons fJ<| .cons iN<| .cons (by kernel_rfl:cr Tryd.prog cc 9 (I.str s)=some (I.int IntKind.i64 (Int.ofNat (List.length s))))<| .cons bU<| .cons wP<| .nil
theorem R7(call:bt)(s:List UInt8)(a:Nat)(h:ab)
  (H1:fx (.ofNat 0) (.ofNat (List.length s))=false):
  bS Tryd.prog Tryd.f75 none call [1,0,0,0] (au.mk [(0,.str s),(1,.ptr a 0)] [] .none h) (.exit 0)
   (au.mk [(0,.str s),(1,.ptr a 0)] [] .none h):=
 dR [0,1] (hs:=[.o (.int .i64 (.ofNat (List.length s))),.b false]) (by kernel_rfl)<| .cons (by kernel_rfl:cr Tryd.prog h 9 (I.str s)=some (I.int IntKind.i64 (Int.ofNat (List.length s))))<| .cons H1<| .nil
theorem R8(call:bt)(s t:List UInt8)(a:Nat)(h:ab)
  (H1:bS Tryd.prog Tryd.f74 none call [1,0,0] (au.mk [(4,.str []),(0,.str s),(1,.ptr a 0)] [] .none h) (.exit 0) (au.mk [(0,.str t)] [] .none h)):
  bS Tryd.prog Tryd.f74 none call [] (au.mk [(0,.str s),(1,.ptr a 0)] [] .none h) (.ret)
   (au.mk [(4,.str t)] [] .none h):=
 dR [4] (hs:=[Hint.loop (bk.exit 0) (au.mk [(0,I.str t)] [] bu.none h)]) (by kernel_rfl)<| .cons H1<| .nil
theorem R9(call:bt)(s:List UInt8)(a:Nat)(h:ab)(hL:Nat)(c4:Bool)(cc:ab)
  (H1:fx (.ofNat 0) (.ofNat (List.length s))=true)
  (bU:ln 0 s=some (.int .u8 (.ofNat hL)))
  (dh:call (.fn 80) [.ptr a 0,.int .u8 (.ofNat hL)] h=a7.ret (.bool c4) cc)
  (fJ:(!c4)=true):
  bS Tryd.prog Tryd.f74 none call [1,0,0,0] (au.mk [(0,.str s),(1,.ptr a 0)] [] .none h) (.exit 0)
   (au.mk [(0,.str s),(1,.ptr a 0)] [] .none cc):=
 dR [0,1] (hs:=[.o (.int .i64 (.ofNat (List.length s))),.b true,.v (.int .u8 (.ofNat hL)),.c (.bool c4) cc,.b true]) (by kernel_rfl)<| .cons (by kernel_rfl:cr Tryd.prog h 9 (I.str s)=some (I.int IntKind.i64 (Int.ofNat (List.length s))))<| .cons H1<| .cons bU<| .cons dh<| .cons fJ<| .nil
theorem R_(call:bt)(s:List UInt8)(a:Nat)(h:ab)(hL:Nat)(c4:Bool)(cc:ab)(dm:List UInt8)
  (H1:fx (.ofNat 0) (.ofNat (List.length s))=true)
  (bU:ln 0 s=some (.int .u8 (.ofNat hL)))
  (dh:call (.fn 80) [.ptr a 0,.int .u8 (.ofNat hL)] h=a7.ret (.bool c4) cc)
  (fJ:(!c4)=false)
  (iN:ec Tryd.prog cc 9 (I.str s) (some (I.int IntKind.i64 (Int.ofNat 1))) none none=some (I.str dm)):
  bS Tryd.prog Tryd.f74 none call [1,0,0,0] (au.mk [(0,.str s),(1,.ptr a 0)] [] .none h) (.nrm)
   (au.mk [(0,.str dm),(1,.ptr a 0)] [] .none cc):=
 dR [0,1] (hs:=[.o (.int .i64 (.ofNat (List.length s))),.b true,.v (.int .u8 (.ofNat hL)),.c (.bool c4) cc,.b false,.v (.str dm)]) (by kernel_rfl)<| .cons (by kernel_rfl:cr Tryd.prog h 9 (I.str s)=some (I.int IntKind.i64 (Int.ofNat (List.length s))))<| .cons H1<| .cons bU<| .cons dh<| .cons fJ<| .cons iN<| .nil
theorem Sa(call:bt)(s:List UInt8)(a:Nat)(h:ab)
  (H1:fx (.ofNat 0) (.ofNat (List.length s))=false):
  bS Tryd.prog Tryd.f74 none call [1,0,0,0] (au.mk [(0,.str s),(1,.ptr a 0)] [] .none h) (.exit 0)
   (au.mk [(0,.str s),(1,.ptr a 0)] [] .none h):=
 dR [0,1] (hs:=[.o (.int .i64 (.ofNat (List.length s))),.b false]) (by kernel_rfl)<| .cons (by kernel_rfl:cr Tryd.prog h 9 (I.str s)=some (I.int IntKind.i64 (Int.ofNat (List.length s))))<| .cons H1<| .nil
theorem Sb(call:bt)(a n:Nat)(h:ab)(c4:Bool)
  (H1:Nat.le (Nat.succ n) 256)
  (bU:aB h a (0+n*1)=some (.bool c4)):
  bS Tryd.prog Tryd.f80 none call [] (au.mk [(0,.ptr a 0),(1,.int .u8 (.ofNat n))] [] .none h) (.ret)
   (au.mk [(4,.bool c4)] [] .none h):=
 dR [4] (hs:=[.v (.ptr a (0+n*1)),.v (.bool c4)]) (by kernel_rfl)<| .cons (⟨H1,rfl⟩:Nat.le (Nat.succ n) 256/\I.ptr a (0+n*1)=I.ptr a (0+n*1))<| .cons bU<| .nil
theorem Sc(call:bt)(s o:List UInt8)(i:Int)(h g:ab)
  (H1:call (.fn 78) [.str s,.str o] h=a7.ret (.int .i64 i) g):
  bS Tryd.prog Tryd.f53 none call [] (au.mk [(0,.str s),(1,.str o)] [] .none h) (.ret)
   (au.mk [(4,.bool (gN (.ofNat 0) i))] [] .none g):=
 dR [4] (hs:=[.c (.int .i64 i) g]) (by kernel_rfl)<| .cons H1<| .nil
theorem Sd(call:bt)(s o:List UInt8)(i:Int)(h g:ab)
  (H1:call (.fn 84) [.str s,.str o] h=a7.ret (.int .i64 i) g):
  bS Tryd.prog Tryd.f78 none call [] (au.mk [(0,.str s),(1,.str o)] [] .none h) (.ret)
   (au.mk [(4,.int .i64 i)] [] .none g):=
 dR [4] (hs:=[.c (.int .i64 i) g]) (by kernel_rfl)<| .cons H1<| .nil
theorem Se(call:bt)(s:List UInt8)(c:UInt8)(i:Int)(h g:ab)
  (H1:dv [c] s=false)
  (bU:ln 0 [c]=some (.int .u8 (.ofNat (BitVec.toFin (UInt8.toBitVec c)).1)))
  (dh:call (.fn 88) [.str s,.int .u8 (.ofNat (BitVec.toFin (UInt8.toBitVec c)).1)] h=a7.ret (.int .i64 i) g):
  bS Tryd.prog Tryd.f84 none call [] (au.mk [(0,.str s),(1,.str [c])] [] .none h) (.ret)
   (au.mk [(4,.int .i64 i)] [] .none g):=
 dR [4] (hs:=[.b false,.b false,.b false,.b false,.b false,.b true,.v (.int .u8 (.ofNat (UInt8.toNat c))),.c (.int .i64 i) g]) (by kernel_rfl)<| .cons (by kernel_rfl:cW (Int.ofNat 1) (Int.ofNat 0)=false)<| .cons (by kernel_rfl:cW (Int.ofNat 1) (Int.ofNat 0)=false)<| .cons (by kernel_rfl:cW (Int.ofNat 1) (Int.ofNat 0)=false)<| .cons (by kernel_rfl:cW (Int.ofNat 1) (Int.ofNat 0)=false)<| .cons H1<| .cons (by kernel_rfl:cW (Int.ofNat 1) (Int.ofNat 1)=true)<| .cons bU<| .cons dh<| .nil
theorem Sf(call:bt)(s:List UInt8)(n:Nat)(i:Int)(h g:ab)
  (H1:call (.fn 94) [.str s,.int .u8 (.ofNat n)] h=a7.ret (.int .i64 i) g):
  bS Tryd.prog Tryd.f88 none call [] (au.mk [(0,.str s),(1,.int .u8 (.ofNat n))] [] .none h) (.ret)
   (au.mk [(4,.int .i64 i)] [] .none g):=
 dR [4] (hs:=[.c (.int .i64 i) g]) (by kernel_rfl)<| .cons H1<| .nil
theorem Sg(m:Nat)(s o:List UInt8)(n:Nat)(h:ab){R:a7->Prop}(H:
  ((!dv s [])=true->
    ((List.length s)<=n->
      List.length [97,98,99,100,101,102,103,104,105,106,107,108,109,110,111,112,113,114,115,116,117,118,119,120,121,122,65,66,67,68,69,70,71,72,73,74,75,76,77,78,79,80,81,82,83,84,85,86,87,88,89,90,48,49,50,51,52,53,54,55,56,57,95]+List.length o<=1000000000000/\
      ∃(jx:List UInt8) (cc:ab),(Y m) (dB.fn 51) [I.str s,I.str ([97,98,99,100,101,102,103,104,105,106,107,108,109,110,111,112,113,114,115,116,117,118,119,120,121,122,65,66,67,68,69,70,71,72,73,74,75,76,77,78,79,80,81,82,83,84,85,86,87,88,89,90,48,49,50,51,52,53,54,55,56,57,95]++o)] h=a7.ret (I.str jx) cc/\
      R (a7.ret (I.bool (dv jx [])) cc))/\
    (¬(List.length s)<=n->
     R (a7.ret (I.bool false) h)))/\
  ((!dv s [])=false->
    R (a7.ret (I.bool false) h))):
  R (Y (m+1) (.fn 37) [I.str s,I.str o,I.int IntKind.i64 (Int.ofNat n)] h):=by
 rcases Bool.eq_false_or_eq_true ((!dv s [])) with aa|aa
 · have H:=H.1 aa
   by_cases ad:(List.length s)<=n
   · have H:=H.1 ad
     obtain⟨aq,H⟩:=H
     obtain⟨jx,cc,aC,H⟩:=H
     rw[show Y (m+1) (.fn 37) [I.str s,I.str o,I.int IntKind.i64 (Int.ofNat n)] h=_ from fH (intr:=b5) (n:=m) (args:=[I.str s,I.str o,I.int IntKind.i64 (Int.ofNat n)]) Tryd.func37 (by kernel_rfl) (by kernel_rfl) (by kernel_rfl) (RX (Y m) s o n h ([97,98,99,100,101,102,103,104,105,106,107,108,109,110,111,112,113,114,115,116,117,118,119,120,121,122,65,66,67,68,69,70,71,72,73,74,75,76,77,78,79,80,81,82,83,84,85,86,87,88,89,90,48,49,50,51,52,53,54,55,56,57,95]++o) jx cc aa (zb ad) (HK aq) aC) (.inl rfl) (by kernel_rfl)];exact H
   · have H:=H.2 ad
     rw[show Y (m+1) (.fn 37) [I.str s,I.str o,I.int IntKind.i64 (Int.ofNat n)] h=_ from fH (intr:=b5) (n:=m) (args:=[I.str s,I.str o,I.int IntKind.i64 (Int.ofNat n)]) Tryd.func37 (by kernel_rfl) (by kernel_rfl) (by kernel_rfl) (RY (Y m) s o n h aa (HM ad)) (.inl rfl) (by kernel_rfl)];exact H
 · have H:=H.2 aa
   rw[show Y (m+1) (.fn 37) [I.str s,I.str o,I.int IntKind.i64 (Int.ofNat n)] h=_ from fH (intr:=b5) (n:=m) (args:=[I.str s,I.str o,I.int IntKind.i64 (Int.ofNat n)]) Tryd.func37 (by kernel_rfl) (by kernel_rfl) (by kernel_rfl) (RZ (Y m) s o n h aa) (.inl rfl) (by kernel_rfl)];exact H
theorem Sh(m:Nat)(s:List UInt8)(h:ab){R:a7->Prop}(H:
  ∃(c4:Bool) (cc:ab),(Y m) (dB.fn 37) [I.str s,I.str [],I.int IntKind.i64 (Int.ofNat 24)] h=a7.ret (I.bool c4) cc/\
  (c4=true->
   ∃(dm:List UInt8),ec Tryd.prog cc 9 (I.str s) none (some (I.int IntKind.i64 (Int.ofNat 1))) none=some (I.str dm)/\
   ∃(qx:Bool) (gI:ab),(Y m) (dB.fn 53) [I.str [48,49,50,51,52,53,54,55,56,57],I.str dm] cc=a7.ret (I.bool qx) gI/\
   R (a7.ret (I.bool !qx) gI))/\
  (c4=false->
   R (a7.ret (I.bool false) cc))):
  R (Y (m+1) (.fn 40) [I.str s] h):=by
 obtain⟨c4,cc,aa,H⟩:=H
 rcases Bool.eq_false_or_eq_true (c4) with ad|ad
 · have H:=H.1 ad
   obtain⟨dm,aq,H⟩:=H
   obtain⟨qx,gI,aC,H⟩:=H
   rw[show Y (m+1) (.fn 40) [I.str s] h=_ from fH (intr:=b5) (n:=m) (args:=[I.str s]) Tryd.func40 (by kernel_rfl) (by kernel_rfl) (by kernel_rfl) (R0 (Y m) s h c4 cc dm qx gI aa ad aq aC) (.inl rfl) (by kernel_rfl)];exact H
 · have H:=H.2 ad
   rw[show Y (m+1) (.fn 40) [I.str s] h=_ from fH (intr:=b5) (n:=m) (args:=[I.str s]) Tryd.func40 (by kernel_rfl) (by kernel_rfl) (by kernel_rfl) (R2 (Y m) s h c4 cc aa ad) (.inl rfl) (by kernel_rfl)];exact H
theorem Si(m:Nat)(s o:List UInt8)(h:ab){R:a7->Prop}(H:
  dv s []=false/\
  dv o []=false/\
  ¬(List.length o)=1/\
  ∃(l:List I),(Y m) (dB.fn 73) [I.str o] h=a7.ret (I.aJ [I.agg l,I.bool true]) h/\
  ∃(cc:ab),(some 256=some (List.length l)/\a8.storeCells (ab.push h (cX.cells (List.replicate 256 (I.bool false)) 116 hz.own 0 0)) (ab.n h) 0 l=some cc/\I.aJ []=I.aJ [])/\
  ∃(dm:List UInt8) (gI:ab),(Y m) (dB.fn 75) [I.str s,I.ptr (ab.n h) 0] cc=a7.ret (I.str dm) gI/\
  ∃(jx:List UInt8) (qy:ab),(Y m) (dB.fn 74) [I.str dm,I.ptr (ab.n h) 0] gI=a7.ret (I.str jx) qy/\
  R (a7.ret (I.str jx) qy)):
  R (Y (m+1) (.fn 51) [I.str s,I.str o] h):=by
 obtain⟨aa,H⟩:=H
 obtain⟨ad,H⟩:=H
 obtain⟨aq,H⟩:=H
 obtain⟨l,aC,H⟩:=H
 obtain⟨cc,bC,H⟩:=H
 obtain⟨dm,gI,dd,H⟩:=H
 obtain⟨jx,qy,fm,H⟩:=H
 rw[show Y (m+1) (.fn 51) [I.str s,I.str o] h=_ from fH (intr:=b5) (n:=m) (args:=[I.str s,I.str o]) Tryd.func51 (by kernel_rfl) (by kernel_rfl) (by kernel_rfl) (trim (Y m) s o l h cc dm gI jx qy aa ad (oV aq) aC bC dd fm) (.inl rfl) (by kernel_rfl)];exact H
theorem Sj(m:Nat)(s:List UInt8)(a:Nat)(h:ab){R:a7->Prop}(H:
  a4 Tryd.prog Tryd.f75 (Y m) [1,0,0] (au.mk [(4,I.str []),(0,I.str s),(1,I.ptr a 0)] [] bu.none h) (λca ck=>
   (∃(t:List UInt8) (b3:Env),ca=(bk.exit 0)/\ck=(au.mk b3 [] bu.none h)/\cd [(0,I.str t)] b3/\
    R (a7.ret (I.str t) h)))):
  R (Y (m+1) (.fn 75) [I.str s,I.ptr a 0] h):=by
 obtain⟨ca,ck,aa,H⟩:=H
 obtain⟨t,b3,rfl,rfl,cR,H⟩:=H
 replace aa:=dT.post aa cR
 rw[show Y (m+1) (.fn 75) [I.str s,I.ptr a 0] h=_ from fH (intr:=b5) (n:=m) (args:=[I.str s,I.ptr a 0]) Tryd.func75 (by kernel_rfl) (by kernel_rfl) (by kernel_rfl) (R4 (Y m) s t a h aa) (.inl rfl) (by kernel_rfl)];exact H
theorem Sk(call:bt)(s:List UInt8)(a:Nat)(h:ab){Q:bk->au->Prop}(H:
  (0<(List.length s)->
   (1<=(List.length s)/\(List.length s)<9223372036854775808)/\
   ∃(lE:Nat),ln ((List.length s)-1) s=some (I.int IntKind.u8 (Int.ofNat lE))/\
   ∃(c4:Bool) (cc:ab),call (dB.fn 80) [I.ptr a 0,I.int IntKind.u8 (Int.ofNat lE)] h=a7.ret (I.bool c4) cc/\
   ((!c4)=true->
     Q (bk.exit 0) (au.mk [(0,I.str s),(1,I.ptr a 0)] [] bu.none cc))/\
   ((!c4)=false->
     ∃(dm:List UInt8),ec Tryd.prog cc 9 (I.str s) none (some (I.int IntKind.i64 (Int.ofNat ((List.length s)-1)))) none=some (I.str dm)/\
     Q (bk.nrm) (au.mk [(0,I.str dm),(1,I.ptr a 0)] [] bu.none cc)))/\
  (¬0<(List.length s)->
   Q (bk.exit 0) (au.mk [(0,I.str s),(1,I.ptr a 0)] [] bu.none h))):
  a4 Tryd.prog Tryd.f75 call [1,0,0,0] (au.mk [(0,I.str s),(1,I.ptr a 0)] [] bu.none h) Q:=by
 by_cases aa:0<(List.length s)
 · have H:=H.1 aa
   obtain⟨ad,H⟩:=H
   obtain⟨lE,aq,H⟩:=H
   obtain⟨c4,cc,aC,H⟩:=H
   rcases Bool.eq_false_or_eq_true ((!c4)) with bC|bC
   · have H:=H.1 bC
     exact a4.of (R5 call s a h ((List.length s)-1) lE c4 cc (oU aa) (CI ad.1 ad.2) aq aC bC) H
   · have H:=H.2 bC
     obtain⟨dm,dd,H⟩:=H
     exact a4.of (R6 call s a h ((List.length s)-1) lE c4 cc dm (oU aa) (CI ad.1 ad.2) aq aC bC dd) H
 · have H:=H.2 aa
   exact a4.of (R7 call s a h (tF aa)) H
theorem Sl(m:Nat)(s:List UInt8)(a:Nat)(h:ab){R:a7->Prop}(H:
  a4 Tryd.prog Tryd.f74 (Y m) [1,0,0] (au.mk [(4,I.str []),(0,I.str s),(1,I.ptr a 0)] [] bu.none h) (λca ck=>
   (∃(t:List UInt8) (b3:Env),ca=(bk.exit 0)/\ck=(au.mk b3 [] bu.none h)/\cd [(0,I.str t)] b3/\
    R (a7.ret (I.str t) h)))):
  R (Y (m+1) (.fn 74) [I.str s,I.ptr a 0] h):=by
 obtain⟨ca,ck,aa,H⟩:=H
 obtain⟨t,b3,rfl,rfl,cR,H⟩:=H
 replace aa:=dT.post aa cR
 rw[show Y (m+1) (.fn 74) [I.str s,I.ptr a 0] h=_ from fH (intr:=b5) (n:=m) (args:=[I.str s,I.ptr a 0]) Tryd.func74 (by kernel_rfl) (by kernel_rfl) (by kernel_rfl) (R8 (Y m) s t a h aa) (.inl rfl) (by kernel_rfl)];exact H
theorem Sm(call:bt)(s:List UInt8)(a:Nat)(h:ab){Q:bk->au->Prop}(H:
  (0<(List.length s)->
   ∃(hL:Nat),ln 0 s=some (I.int IntKind.u8 (Int.ofNat hL))/\
   ∃(c4:Bool) (cc:ab),call (dB.fn 80) [I.ptr a 0,I.int IntKind.u8 (Int.ofNat hL)] h=a7.ret (I.bool c4) cc/\
   ((!c4)=true->
     Q (bk.exit 0) (au.mk [(0,I.str s),(1,I.ptr a 0)] [] bu.none cc))/\
   ((!c4)=false->
     ∃(dm:List UInt8),ec Tryd.prog cc 9 (I.str s) (some (I.int IntKind.i64 (Int.ofNat 1))) none none=some (I.str dm)/\
     Q (bk.nrm) (au.mk [(0,I.str dm),(1,I.ptr a 0)] [] bu.none cc)))/\
  (¬0<(List.length s)->
   Q (bk.exit 0) (au.mk [(0,I.str s),(1,I.ptr a 0)] [] bu.none h))):
  a4 Tryd.prog Tryd.f74 call [1,0,0,0] (au.mk [(0,I.str s),(1,I.ptr a 0)] [] bu.none h) Q:=by
 by_cases aa:0<(List.length s)
 · have H:=H.1 aa
   obtain⟨hL,ad,H⟩:=H
   obtain⟨c4,cc,aq,H⟩:=H
   rcases Bool.eq_false_or_eq_true ((!c4)) with aC|aC
   · have H:=H.1 aC
     exact a4.of (R9 call s a h hL c4 cc (oU aa) ad aq aC) H
   · have H:=H.2 aC
     obtain⟨dm,bC,H⟩:=H
     exact a4.of (R_ call s a h hL c4 cc dm (oU aa) ad aq aC bC) H
 · have H:=H.2 aa
   exact a4.of (Sa call s a h (tF aa)) H
theorem Sn(m a n:Nat)(h:ab){R:a7->Prop}(H:
  n<256/\
  ∃(c4:Bool),aB h a (0+n*1)=some (I.bool c4)/\
  R (a7.ret (I.bool c4) h)):
  R (Y (m+1) (.fn 80) [I.ptr a 0,I.int IntKind.u8 (Int.ofNat n)] h):=by
 obtain⟨aa,H⟩:=H
 obtain⟨c4,ad,H⟩:=H
 rw[show Y (m+1) (.fn 80) [I.ptr a 0,I.int IntKind.u8 (Int.ofNat n)] h=_ from fH (intr:=b5) (n:=m) (args:=[I.ptr a 0,I.int IntKind.u8 (Int.ofNat n)]) Tryd.func80 (by kernel_rfl) (by kernel_rfl) (by kernel_rfl) (Sb (Y m) a n h c4 aa ad) (.inl rfl) (by kernel_rfl)];exact H
theorem So(m:Nat)(s o:List UInt8)(h:ab){R:a7->Prop}(H:
  ∃(i:Int) (g:ab),(Y m) (dB.fn 78) [I.str s,I.str o] h=a7.ret (I.int IntKind.i64 i) g/\
  R (a7.ret (I.bool (gN (Int.ofNat 0) i)) g)):
  R (Y (m+1) (.fn 53) [I.str s,I.str o] h):=by
 obtain⟨i,g,aa,H⟩:=H
 rw[show Y (m+1) (.fn 53) [I.str s,I.str o] h=_ from fH (intr:=b5) (n:=m) (args:=[I.str s,I.str o]) Tryd.func53 (by kernel_rfl) (by kernel_rfl) (by kernel_rfl) (Sc (Y m) s o i h g aa) (.inl rfl) (by kernel_rfl)];exact H
theorem Sp(m:Nat)(s o:List UInt8)(h:ab){R:a7->Prop}(H:
  ∃(i:Int) (g:ab),(Y m) (dB.fn 84) [I.str s,I.str o] h=a7.ret (I.int IntKind.i64 i) g/\
  R (a7.ret (I.int IntKind.i64 i) g)):
  R (Y (m+1) (.fn 78) [I.str s,I.str o] h):=by
 obtain⟨i,g,aa,H⟩:=H
 rw[show Y (m+1) (.fn 78) [I.str s,I.str o] h=_ from fH (intr:=b5) (n:=m) (args:=[I.str s,I.str o]) Tryd.func78 (by kernel_rfl) (by kernel_rfl) (by kernel_rfl) (Sd (Y m) s o i h g aa) (.inl rfl) (by kernel_rfl)];exact H
theorem Sq(m:Nat)(s:List UInt8)(c:UInt8)(h:ab){R:a7->Prop}(H:
  dv [c] s=false/\
  ln 0 [c]=some (I.int IntKind.u8 (Int.ofNat (BitVec.toFin (UInt8.toBitVec c)).1))/\
  ∃(i:Int) (g:ab),(Y m) (dB.fn 88) [I.str s,I.int IntKind.u8 (Int.ofNat (BitVec.toFin (UInt8.toBitVec c)).1)] h=a7.ret (I.int IntKind.i64 i) g/\
  R (a7.ret (I.int IntKind.i64 i) g)):
  R (Y (m+1) (.fn 84) [I.str s,I.str [c]] h):=by
 obtain⟨aa,H⟩:=H
 obtain⟨ad,H⟩:=H
 obtain⟨i,g,aq,H⟩:=H
 rw[show Y (m+1) (.fn 84) [I.str s,I.str [c]] h=_ from fH (intr:=b5) (n:=m) (args:=[I.str s,I.str [c]]) Tryd.func84 (by kernel_rfl) (by kernel_rfl) (by kernel_rfl) (Se (Y m) s c i h g aa ad aq) (.inl rfl) (by kernel_rfl)];exact H
theorem Sr(m:Nat)(s:List UInt8)(n:Nat)(h:ab){R:a7->Prop}(H:
  ∃(i:Int) (g:ab),(Y m) (dB.fn 94) [I.str s,I.int IntKind.u8 (Int.ofNat n)] h=a7.ret (I.int IntKind.i64 i) g/\
  R (a7.ret (I.int IntKind.i64 i) g)):
  R (Y (m+1) (.fn 88) [I.str s,I.int IntKind.u8 (Int.ofNat n)] h):=by
 obtain⟨i,g,aa,H⟩:=H
 rw[show Y (m+1) (.fn 88) [I.str s,I.int IntKind.u8 (Int.ofNat n)] h=_ from fH (intr:=b5) (n:=m) (args:=[I.str s,I.int IntKind.u8 (Int.ofNat n)]) Tryd.func88 (by kernel_rfl) (by kernel_rfl) (by kernel_rfl) (Sf (Y m) s n i h g aa) (.inl rfl) (by kernel_rfl)];exact H
theorem DA:Tryd.prog.underlying 9=some .string:=by kernel_rfl
theorem Ss(m:Nat)(h:ab):Y (m+1) (.fn 73) [.str m4] h=.ret (.aJ [.agg (i_ n4),.bool true]) h:=by
 have e:b5 73 [.str m4] h=some (.aJ [.agg (i_ n4),.bool true],h):=by kernel_rfl
 unfold Y;simp only[et,e]
theorem St(m:Nat)(h:ab):Y (m+1) (.fn 73) [.str (m4++[45,47,46])] h=.ret (.aJ [.agg (i_ qv),.bool true]) h:=by
 have e:b5 73 [.str (m4++[45,47,46])] h=some (.aJ [.agg (i_ qv),.bool true],h):=by kernel_rfl
 unfold Y;simp only[et,e]
theorem zE(p:Nat->Bool):(i_ p).length=256:=by simp[i_]
def zF(h:ab)(a:Nat)(p:Nat->Bool):Prop:=h.get a=some (.cells (i_ p) 116 .own 0 0)
theorem I8(m a n:Nat)(p:Nat->Bool)(h:ab)(aH:n<256)(aw:zF h a p):Y (m+1) (.fn 80) [.ptr a 0,.int .u8 (Int.ofNat n)] h=.ret (.bool (p n)) h:=
 Sn m a n h (R:=λx=>x=_) ⟨aH,_,mb aw (by rw[show 0+n*1=n by omega];simp[i_,aH]),rfl⟩
theorem Su(p:Nat->Bool)(s:a5)(hs:0<s.length)(ar:p (s[s.length-1]'(by omega)).toNat=true):(s.take (s.length-1)).all (λc=>p c.toNat)=s.all (λc=>p c.toNat):=by
 have e:s=s.take (s.length-1)++[s[s.length-1]'(by omega)]:=by
  have:=List.take_append_drop (s.length-1) s
  rw[List.drop_eq_getElem_cons (by omega),List.drop_of_length_le (by omega)] at this
  exact this.symm
 conv=>rhs;rw[e]
 rw[List.all_append];simp[ar]
theorem I9{s:a5}{i:Nat}(h:i<s.length):ln i s=some (.int .u8 (Int.ofNat (s[i]).toNat)):=P2 h
theorem Sv(m a:Nat)(p:Nat->Bool)(s:a5)(h:ab)(hs:s.length<=90000)(aw:zF h a p):∃t,Y (m+2) (.fn 75) [.str s,.ptr a 0] h=.ret (.str t) h/\t.length<=s.length/\t.all (λc=>p c.toNat)=s.all (λc=>p c.toNat)/\(t.all (λc=>p c.toNat)=true->t=[]):=by
 refine Sj (m+1) s a h (R:=λx=>∃t,x=.ret (.str t) h/\t.length<=s.length/\t.all (λc=>p c.toNat)=s.all (λc=>p c.toNat)/\(t.all (λc=>p c.toNat)=true->t=[])) ?_
 refine a4.loop (by kernel_rfl) (λk st=>∃(t:a5) (Γ:Env),st=⟨Γ,[],.none,h⟩/\cd [(0,.str t),(1,.ptr a 0)] Γ/\t.length=k/\t.length<=s.length/\t.all (λc=>p c.toNat)=s.all (λc=>p c.toNat)) ?_ s.length _ (by omega) ⟨s,_,rfl,⟨rfl,rfl,trivial⟩,rfl,Nat.le_refl _,rfl⟩
 rintro k st ⟨t,Γ,rfl,cR,an,ar,aE⟩
 refine a4.pre (Sk (Y (m+1)) t a h ⟨λh0=>⟨⟨by omega,by omega⟩,_,I9 (by omega),_,_,I8 m a _ p h (UInt8.toNat_lt _) aw,λaf=>?_,λaf=>?_⟩,λh0=>?_⟩) cR rfl rfl rfl
 · refine⟨t,_,rfl,rfl,⟨rfl,trivial⟩,t,rfl,ar,aE,λaa=>?_⟩
   have:=List.all_eq_true.1 aa _ (List.getElem_mem (show t.length-1<t.length by omega))
   simp[this] at af
 · have nC:p (t[t.length-1]'(by omega)).toNat=true:=by simpa using af
   refine⟨_,HJ DA (by omega),_,(by show _<k;simp;omega),_,_,rfl,⟨rfl,rfl,trivial⟩,rfl,by simp;omega,by rw[Su p t h0 nC,aE]⟩
 · obtain rfl:t=[]:=List.eq_nil_of_length_eq_zero (by omega)
   exact⟨[],_,rfl,rfl,⟨rfl,trivial⟩,[],rfl,ar,aE,λ_=>rfl⟩
theorem Sw(m a:Nat)(p:Nat->Bool)(s:a5)(h:ab)(hs:s.length<=90000)(aw:zF h a p):∃t,Y (m+2) (.fn 74) [.str s,.ptr a 0] h=.ret (.str t) h/\t.all (λc=>p c.toNat)=s.all (λc=>p c.toNat)/\(t.all (λc=>p c.toNat)=true->t=[]):=by
 refine Sl (m+1) s a h (R:=λx=>∃t,x=.ret (.str t) h/\t.all (λc=>p c.toNat)=s.all (λc=>p c.toNat)/\(t.all (λc=>p c.toNat)=true->t=[])) ?_
 refine a4.loop (by kernel_rfl) (λk st=>∃(t:a5) (Γ:Env),st=⟨Γ,[],.none,h⟩/\cd [(0,.str t),(1,.ptr a 0)] Γ/\t.length=k/\t.all (λc=>p c.toNat)=s.all (λc=>p c.toNat)) ?_ s.length _ (by omega) ⟨s,_,rfl,⟨rfl,rfl,trivial⟩,rfl,rfl⟩
 rintro k st ⟨t,Γ,rfl,cR,an,aE⟩
 refine a4.pre (Sm (Y (m+1)) t a h ⟨λh0=>⟨_,I9 h0,_,_,I8 m a _ p h (UInt8.toNat_lt _) aw,λaf=>?_,λaf=>?_⟩,λh0=>?_⟩) cR rfl rfl rfl
 · refine⟨t,_,rfl,rfl,⟨rfl,trivial⟩,t,rfl,aE,λaa=>?_⟩
   have:=List.all_eq_true.1 aa _ (List.getElem_mem h0)
   simp[this] at af
 · have nC:p (t[0]'h0).toNat=true:=by simpa using af
   refine⟨_,P3 DA (by omega),_,(by show _<k;simp;omega),_,_,rfl,⟨rfl,rfl,trivial⟩,rfl,?_⟩
   rw[<-aE]
   cases t with
   |nil=>simp at h0
   |cons c t=>simp at nC;simp[nC]
 · obtain rfl:t=[]:=List.eq_nil_of_length_eq_zero (by omega)
   exact⟨[],_,rfl,rfl,⟨rfl,trivial⟩,[],rfl,aE,λ_=>rfl⟩
theorem ug(s:a5):dv s []=decide (s=[]):=by cases s<;>simp[dv]
theorem I_(m B:Nat)(p:Nat->Bool)(s o:a5)(h:ab)(c3:B<=h.n)(hs:s.length<=90000)(h0:s≠[])(aQ:o.length≠1)(aH:o≠[])(hm:Y (m+2) (.fn 73) [.str o] h=.ret (.aJ [.agg (i_ p),.bool true]) h):
  ∃t ao,Y (m+3) (.fn 51) [.str s,.str o] h=.ret (.str t) ao/\dv t []=s.all (λc=>p c.toNat)/\Ext B h ao:=by
 have st:a8.storeCells (h.push (.cells (List.replicate 256 (.bool false)) 116 .own 0 0)) h.n 0 (i_ p)=some ((h.push (.cells (List.replicate 256 (.bool false)) 116 .own 0 0)).set h.n (some (.cells (i_ p) 116 .own 0 0))):=by
  refine gn (fI rfl) (by rw[zE];rfl) ?_
  have:=CH (i_ p) (List.replicate 256 (.bool false)) (by simp[i_,I.cw]) (by rw[zE];simp)
  rw[this,zE];simp
 obtain⟨g,aj⟩:∃g,g=(h.push (.cells (List.replicate 256 (.bool false)) 116 .own 0 0)).set h.n (some (.cells (i_ p) 116 .own 0 0)):=⟨_,rfl⟩
 rw[<-aj] at st
 have oB:zF g h.n p:=by rw[aj];exact ft rfl
 have m5:Ext B h g:=by rw[aj];exact(Ext.push c3 _).hG c3
 obtain⟨t,aT,bW,b8,ax⟩:=Sv m h.n p s g hs oB
 obtain⟨u,bp,cG,av⟩:=Sw m h.n p t g (by omega) oB
 refine Si (m+2) s o h (R:=λx=>∃t ao,x=.ret (.str t) ao/\dv t []=s.all (λc=>p c.toNat)/\Ext B h ao) ⟨by rw[ug];simp[h0],by rw[ug];simp[aH],aQ,_,hm,_,⟨by rw[zE],st,rfl⟩,t,g,aT,u,g,bp,u,g,rfl,?_,m5⟩
 rw[ug,<-b8,<-cG]
 cases aE:u.all (λc=>p c.toNat) with
 |true=>simp[av aE]
 |false=>
  cases u with
  |nil=>simp at aE
  |cons c u=>simp
theorem Ja(m B:Nat)(p:Nat->Bool)(s o:a5)(n:Nat)(h:ab)(c3:B<=h.n)(Yr:n<=90000)(aQ:(o=[]/\p=n4)\/(o=[45,47,46]/\p=qv)):cx B h (.bool (decide (1<=s.length)&&decide (s.length<=n)&&s.all (λc=>p c.toNat))) (Y (m+4) (.fn 37) [.str s,.str o,.int .i64 (Int.ofNat n)] h):=by
 refine Sg (m+3) s o n h ⟨λaa=>⟨λad=>?_,λad=>?_⟩,λaa=>?_⟩
 · have h0:s≠[]:=by rw[ug] at aa;simpa using aa
   have aL:1<=s.length:=List.length_pos_iff.2 h0
   have key:∃t ao,Y (m+3) (.fn 51) [.str s,.str (m4++o)] h=.ret (.str t) ao/\dv t []=s.all (λc=>p c.toNat)/\Ext B h ao:=by
    rcases aQ with⟨rfl,rfl⟩|⟨rfl,rfl⟩
    · rw[List.append_nil]
      exact I_ m B n4 s m4 h c3 (by omega) h0 (by decide) (by decide) (Ss _ h)
    · exact I_ m B qv s (m4++[45,47,46]) h c3 (by omega) h0 (by decide) (by decide) (St _ h)
   obtain⟨t,ao,c,e,x⟩:=key
   exact⟨by rcases aQ with⟨rfl,_⟩|⟨rfl,_⟩<;>simp,t,ao,c,cx.of (g9 (by rw[e];simp[aL,ad])) x⟩
 · exact cx.of (g9 (by simp[ad])) (Ext.refl _ _)
 · have h0:s=[]:=by rw[ug] at aa;simpa using aa
   subst h0
   exact cx.of (g9 (by simp)) (Ext.refl _ _)
end Go.Proofs.hK
