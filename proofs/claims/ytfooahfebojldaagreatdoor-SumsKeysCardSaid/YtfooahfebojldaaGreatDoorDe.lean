/-
  PROVED HERE: contracts of functions (De). No condition beside each statement's own.
-/
import Derived.Test.YtfooahfebojldaaGreatDoorDc
import Derived.Test.YtfooahfebojldaaGreatDoorSxb
set_option linter.unusedVariables false
set_option linter.unusedSimpArgs false
namespace Go.Proofs.cD
open Go aB Go.Proofs df
set_option maxRecDepth 100000
set_option maxHeartbeats 1000000
theorem SV(call:aF->List I->J->ao)(s o:List UInt8)(n:Nat)(h:J)(cK er:List UInt8)(bc:J)
  (H1:(!dU s [])=true)
  (aE:dv (.ofNat (List.length s)) (.ofNat n)=true)
  (a3:eA .add [97,98,99,100,101,102,103,104,105,106,107,108,109,110,111,112,113,114,115,116,117,118,119,120,121,122,65,66,67,68,69,70,71,72,73,74,75,76,77,78,79,80,81,82,83,84,85,86,87,88,89,90,48,49,50,51,52,53,54,55,56,57,95] o=some (.str cK))
  (aX:call (.fn 116) [.str s,.str cK] h=ao.ret (.str er) bc):
  az Tryz.prog Tryz.f104 none call [] (ah.mk [(0,.str s),(1,.str o),(2,.int .i64 (.ofNat n))] [] .none h) (.ret)
   (ah.mk [(6,.bool (dU er []))] [] .none bc):=
 bh [6] (hs:=[.b true,.b true,.b true,.b true,.b true,.b true,.b true,.b true,.v (.str cK),.b true,.c (.str er) bc,.b true,.b true]) (by kernel_rfl)<| .cons H1<| .cons H1<| .cons H1<| .cons H1<| .cons H1<| .cons aE<| .cons aE<| .cons aE<| .cons a3<| .cons aE<| .cons aX<| .cons aE<| .cons aE<| .nil
theorem SW(call:aF->List I->J->ao)(s o:List UInt8)(n:Nat)(h:J)
  (H1:(!dU s [])=true)
  (aE:dv (.ofNat (List.length s)) (.ofNat n)=false):
  az Tryz.prog Tryz.f104 none call [] (ah.mk [(0,.str s),(1,.str o),(2,.int .i64 (.ofNat n))] [] .none h) (.ret)
   (ah.mk [(6,.bool false)] [] .none h):=
 bh [6] (hs:=[.b true,.b true,.b true,.b true,.b true,.b false,.b false,.b false,.b false,.b false,.b false]) (by kernel_rfl)<| .cons H1<| .cons H1<| .cons H1<| .cons H1<| .cons H1<| .cons aE<| .cons aE<| .cons aE<| .cons aE<| .cons aE<| .cons aE<| .nil
theorem SX(call:aF->List I->J->ao)(s o:List UInt8)(n:Nat)(h:J)
  (H1:(!dU s [])=false):
  az Tryz.prog Tryz.f104 none call [] (ah.mk [(0,.str s),(1,.str o),(2,.int .i64 (.ofNat n))] [] .none h) (.ret)
   (ah.mk [(6,.bool false)] [] .none h):=
 bh [6] (hs:=[.b false,.b false,.b false,.b false,.b false,.b false,.b false,.b false,.b false,.b false,.b false]) (by kernel_rfl)<| .cons H1<| .cons H1<| .cons H1<| .cons H1<| .cons H1<| .cons (by kernel_rfl:false=false)<| .cons (by kernel_rfl:false=false)<| .cons (by kernel_rfl:false=false)<| .cons (by kernel_rfl:false=false)<| .cons (by kernel_rfl:false=false)<| .cons (by kernel_rfl:false=false)<| .nil
theorem SY(call:aF->List I->J->ao)(s:List UInt8)(h:J)(cx:Bool)(bc:J)(cK:List UInt8)(iJ:Bool)(dj:J)
  (H1:call (.fn 104) [.str s,.str [],.int .i64 (.ofNat 24)] h=ao.ret (.bool cx) bc)
  (aE:cx=true)
  (a3:e1 Tryz.prog bc 9 (I.str s) none (some (I.int IntKind.i64 (Int.ofNat 1))) none=some (I.str cK))
  (aX:call (.fn 118) [.str [48,49,50,51,52,53,54,55,56,57],.str cK] bc=ao.ret (.bool iJ) dj):
  az Tryz.prog Tryz.f107 none call [] (ah.mk [(0,.str s)] [] .none h) (.ret)
   (ah.mk [(2,.bool !iJ)] [] .none dj):=
 bh [2] (hs:=[.c (.bool cx) bc,.b true,.b true,.v (.str cK),.b true,.c (.bool iJ) dj,.b true,.b true]) (by kernel_rfl)<| .cons H1<| .cons aE<| .cons aE<| .cons a3<| .cons aE<| .cons aX<| .cons aE<| .cons aE<| .nil
theorem SZ(call:aF->List I->J->ao)(s:List UInt8)(h:J)(cx:Bool)(bc:J)
  (H1:call (.fn 104) [.str s,.str [],.int .i64 (.ofNat 24)] h=ao.ret (.bool cx) bc)
  (aE:cx=false):
  az Tryz.prog Tryz.f107 none call [] (ah.mk [(0,.str s)] [] .none h) (.ret)
   (ah.mk [(2,.bool false)] [] .none bc):=
 bh [2] (hs:=[.c (.bool cx) bc,.b false,.b false,.b false,.b false,.b false]) (by kernel_rfl)<| .cons H1<| .cons aE<| .cons aE<| .cons aE<| .cons aE<| .cons aE<| .nil
theorem trim(call:aF->List I->J->ao)(s o:List UInt8)(l:List I)(h bc:J)(cK:List UInt8)(dj:J)(er:List UInt8)(ks:J)
  (H1:dU s []=false)
  (aE:dU o []=false)
  (a3:a0 (.ofNat (List.length o)) (.ofNat 1)=false)
  (aX:call (.fn 139) [.str o] h=ao.ret (.aP [.agg l,.bool true]) h)
  (bA:some 256=some (List.length l)/\aB.storeCells (J.push h (cp.cells (List.replicate 256 (I.bool false)) 177 ey.own 0 0)) (J.n h) 0 l=some bc/\I.aP []=I.aP [])
  (b_:call (.fn 141) [.str s,.ptr (J.n h) 0] bc=ao.ret (.str cK) dj)
  (cQ:call (.fn 140) [.str cK,.ptr (J.n h) 0] dj=ao.ret (.str er) ks):
  az Tryz.prog Tryz.f116 none call [] (ah.mk [(0,.str s),(1,.str o)] [] .none h) (.ret)
   (ah.mk [(4,.str er)] [] .none ks):=
 bh [4] (hs:=[.b false,.b false,.b false,.b false,.b false,.b false,.b false,.b false,.b false,.c (.aP [.agg l,.bool true]) h,.h3 (.aP []) bc,.b true,.c (.str cK) dj,.c (.str er) ks]) (by kernel_rfl)<| .cons H1<| .cons H1<| .cons H1<| .cons aE<| .cons a3<| .cons a3<| .cons a3<| .cons a3<| .cons (by kernel_rfl:false=false)<| .cons aX<| .cons bA<| .cons (by kernel_rfl:true=true)<| .cons b_<| .cons cQ<| .nil
theorem S0(call:aF->List I->J->ao)(s t:List UInt8)(a:Nat)(h:J)
  (H1:az Tryz.prog Tryz.f141 none call [1,0,0] (ah.mk [(4,.str []),(0,.str s),(1,.ptr a 0)] [] .none h) (.exit 0) (ah.mk [(0,.str t)] [] .none h)):
  az Tryz.prog Tryz.f141 none call [] (ah.mk [(0,.str s),(1,.ptr a 0)] [] .none h) (.ret)
   (ah.mk [(4,.str t)] [] .none h):=
 bh [4] (hs:=[Hint.loop (bw.exit 0) (ah.mk [(0,I.str t)] [] bE.none h)]) (by kernel_rfl)<| .cons H1<| .nil
theorem S1(call:aF->List I->J->ao)(s:List UInt8)(a:Nat)(h:J)(b3 dh:Nat)(cx:Bool)(bc:J)
  (H1:bD (.ofNat 0) (.ofNat (List.length s))=true)
  (aE:arith .sub .i64 (.ofNat (List.length s)) (.ofNat 1)=some (.int .i64 (.ofNat b3)))
  (a3:ga b3 s=some (.int .u8 (.ofNat dh)))
  (aX:call (.fn 146) [.ptr a 0,.int .u8 (.ofNat dh)] h=ao.ret (.bool cx) bc)
  (bA:(!cx)=true):
  az Tryz.prog Tryz.f141 none call [1,0,0,0] (ah.mk [(0,.str s),(1,.ptr a 0)] [] .none h) (.exit 0)
   (ah.mk [(0,.str s),(1,.ptr a 0)] [] .none bc):=
 bh [0,1] (hs:=[.o (.int .i64 (.ofNat (List.length s))),.b true,.o (.int .i64 (.ofNat (List.length s))),.v (.int .i64 (.ofNat b3)),.v (.int .u8 (.ofNat dh)),.c (.bool cx) bc,.b true]) (by kernel_rfl)<| .cons (by kernel_rfl:bO Tryz.prog h 9 (I.str s)=some (I.int IntKind.i64 (Int.ofNat (List.length s))))<| .cons H1<| .cons (by kernel_rfl:bO Tryz.prog h 9 (I.str s)=some (I.int IntKind.i64 (Int.ofNat (List.length s))))<| .cons aE<| .cons a3<| .cons aX<| .cons bA<| .nil
theorem S2(call:aF->List I->J->ao)(s:List UInt8)(a:Nat)(h:J)(b3 dh:Nat)(cx:Bool)(bc:J)(cK:List UInt8)
  (H1:bD (.ofNat 0) (.ofNat (List.length s))=true)
  (aE:arith .sub .i64 (.ofNat (List.length s)) (.ofNat 1)=some (.int .i64 (.ofNat b3)))
  (a3:ga b3 s=some (.int .u8 (.ofNat dh)))
  (aX:call (.fn 146) [.ptr a 0,.int .u8 (.ofNat dh)] h=ao.ret (.bool cx) bc)
  (bA:(!cx)=false)
  (b_:e1 Tryz.prog bc 9 (I.str s) none (some (I.int IntKind.i64 (Int.ofNat b3))) none=some (I.str cK)):
  az Tryz.prog Tryz.f141 none call [1,0,0,0] (ah.mk [(0,.str s),(1,.ptr a 0)] [] .none h) (.nrm)
   (ah.mk [(0,.str cK),(1,.ptr a 0)] [] .none bc):=
 bh [0,1] (hs:=[.o (.int .i64 (.ofNat (List.length s))),.b true,.o (.int .i64 (.ofNat (List.length s))),.v (.int .i64 (.ofNat b3)),.v (.int .u8 (.ofNat dh)),.c (.bool cx) bc,.b false,.o (.int .i64 (.ofNat (List.length s))),.v (.int .i64 (.ofNat b3)),.v (.str cK)]) (by kernel_rfl)<| .cons (by kernel_rfl:bO Tryz.prog h 9 (I.str s)=some (I.int IntKind.i64 (Int.ofNat (List.length s))))<| .cons H1<| .cons (by kernel_rfl:bO Tryz.prog h 9 (I.str s)=some (I.int IntKind.i64 (Int.ofNat (List.length s))))<| .cons aE<| .cons a3<| .cons aX<| .cons bA<| .cons (by kernel_rfl:bO Tryz.prog bc 9 (I.str s)=some (I.int IntKind.i64 (Int.ofNat (List.length s))))<| .cons aE<| .cons b_<| .nil
theorem S3(call:aF->List I->J->ao)(s:List UInt8)(a:Nat)(h:J)
  (H1:bD (.ofNat 0) (.ofNat (List.length s))=false):
  az Tryz.prog Tryz.f141 none call [1,0,0,0] (ah.mk [(0,.str s),(1,.ptr a 0)] [] .none h) (.exit 0)
   (ah.mk [(0,.str s),(1,.ptr a 0)] [] .none h):=
 bh [0,1] (hs:=[.o (.int .i64 (.ofNat (List.length s))),.b false]) (by kernel_rfl)<| .cons (by kernel_rfl:bO Tryz.prog h 9 (I.str s)=some (I.int IntKind.i64 (Int.ofNat (List.length s))))<| .cons H1<| .nil
theorem S4(call:aF->List I->J->ao)(s t:List UInt8)(a:Nat)(h:J)
  (H1:az Tryz.prog Tryz.f140 none call [1,0,0] (ah.mk [(4,.str []),(0,.str s),(1,.ptr a 0)] [] .none h) (.exit 0) (ah.mk [(0,.str t)] [] .none h)):
  az Tryz.prog Tryz.f140 none call [] (ah.mk [(0,.str s),(1,.ptr a 0)] [] .none h) (.ret)
   (ah.mk [(4,.str t)] [] .none h):=
 bh [4] (hs:=[Hint.loop (bw.exit 0) (ah.mk [(0,I.str t)] [] bE.none h)]) (by kernel_rfl)<| .cons H1<| .nil
theorem S5(call:aF->List I->J->ao)(s:List UInt8)(a:Nat)(h:J)(b3:Nat)(cx:Bool)(bc:J)
  (H1:bD (.ofNat 0) (.ofNat (List.length s))=true)
  (aE:ga 0 s=some (.int .u8 (.ofNat b3)))
  (a3:call (.fn 146) [.ptr a 0,.int .u8 (.ofNat b3)] h=ao.ret (.bool cx) bc)
  (aX:(!cx)=true):
  az Tryz.prog Tryz.f140 none call [1,0,0,0] (ah.mk [(0,.str s),(1,.ptr a 0)] [] .none h) (.exit 0)
   (ah.mk [(0,.str s),(1,.ptr a 0)] [] .none bc):=
 bh [0,1] (hs:=[.o (.int .i64 (.ofNat (List.length s))),.b true,.v (.int .u8 (.ofNat b3)),.c (.bool cx) bc,.b true]) (by kernel_rfl)<| .cons (by kernel_rfl:bO Tryz.prog h 9 (I.str s)=some (I.int IntKind.i64 (Int.ofNat (List.length s))))<| .cons H1<| .cons aE<| .cons a3<| .cons aX<| .nil
theorem S6(call:aF->List I->J->ao)(s:List UInt8)(a:Nat)(h:J)(b3:Nat)(cx:Bool)(bc:J)(cK:List UInt8)
  (H1:bD (.ofNat 0) (.ofNat (List.length s))=true)
  (aE:ga 0 s=some (.int .u8 (.ofNat b3)))
  (a3:call (.fn 146) [.ptr a 0,.int .u8 (.ofNat b3)] h=ao.ret (.bool cx) bc)
  (aX:(!cx)=false)
  (bA:e1 Tryz.prog bc 9 (I.str s) (some (I.int IntKind.i64 (Int.ofNat 1))) none none=some (I.str cK)):
  az Tryz.prog Tryz.f140 none call [1,0,0,0] (ah.mk [(0,.str s),(1,.ptr a 0)] [] .none h) (.nrm)
   (ah.mk [(0,.str cK),(1,.ptr a 0)] [] .none bc):=
 bh [0,1] (hs:=[.o (.int .i64 (.ofNat (List.length s))),.b true,.v (.int .u8 (.ofNat b3)),.c (.bool cx) bc,.b false,.v (.str cK)]) (by kernel_rfl)<| .cons (by kernel_rfl:bO Tryz.prog h 9 (I.str s)=some (I.int IntKind.i64 (Int.ofNat (List.length s))))<| .cons H1<| .cons aE<| .cons a3<| .cons aX<| .cons bA<| .nil
theorem S7(call:aF->List I->J->ao)(s:List UInt8)(a:Nat)(h:J)
  (H1:bD (.ofNat 0) (.ofNat (List.length s))=false):
  az Tryz.prog Tryz.f140 none call [1,0,0,0] (ah.mk [(0,.str s),(1,.ptr a 0)] [] .none h) (.exit 0)
   (ah.mk [(0,.str s),(1,.ptr a 0)] [] .none h):=
 bh [0,1] (hs:=[.o (.int .i64 (.ofNat (List.length s))),.b false]) (by kernel_rfl)<| .cons (by kernel_rfl:bO Tryz.prog h 9 (I.str s)=some (I.int IntKind.i64 (Int.ofNat (List.length s))))<| .cons H1<| .nil
theorem S8(call:aF->List I->J->ao)(a n:Nat)(h:J)(cx:Bool)
  (H1:Nat.le (Nat.succ n) 256)
  (aE:au h a (0+n*1)=some (.bool cx)):
  az Tryz.prog Tryz.f146 none call [] (ah.mk [(0,.ptr a 0),(1,.int .u8 (.ofNat n))] [] .none h) (.ret)
   (ah.mk [(4,.bool cx)] [] .none h):=
 bh [4] (hs:=[.v (.ptr a (0+n*1)),.v (.bool cx)]) (by kernel_rfl)<| .cons (⟨H1,rfl⟩:Nat.le (Nat.succ n) 256/\I.ptr a (0+n*1)=I.ptr a (0+n*1))<| .cons aE<| .nil
theorem S9(call:aF->List I->J->ao)(s o:List UInt8)(i:Int)(h g:J)
  (H1:call (.fn 144) [.str s,.str o] h=ao.ret (.int .i64 i) g):
  az Tryz.prog Tryz.f118 none call [] (ah.mk [(0,.str s),(1,.str o)] [] .none h) (.ret)
   (ah.mk [(4,.bool (dv (.ofNat 0) i))] [] .none g):=
 bh [4] (hs:=[.c (.int .i64 i) g]) (by kernel_rfl)<| .cons H1<| .nil
theorem S_(call:aF->List I->J->ao)(s o:List UInt8)(i:Int)(h g:J)
  (H1:call (.fn 150) [.str s,.str o] h=ao.ret (.int .i64 i) g):
  az Tryz.prog Tryz.f144 none call [] (ah.mk [(0,.str s),(1,.str o)] [] .none h) (.ret)
   (ah.mk [(4,.int .i64 i)] [] .none g):=
 bh [4] (hs:=[.c (.int .i64 i) g]) (by kernel_rfl)<| .cons H1<| .nil
theorem Ta(call:aF->List I->J->ao)(s:List UInt8)(c:UInt8)(i:Int)(h g:J)
  (H1:dU [c] s=false)
  (aE:ga 0 [c]=some (.int .u8 (.ofNat (BitVec.toFin (UInt8.toBitVec c)).1)))
  (a3:call (.fn 155) [.str s,.int .u8 (.ofNat (BitVec.toFin (UInt8.toBitVec c)).1)] h=ao.ret (.int .i64 i) g):
  az Tryz.prog Tryz.f150 none call [] (ah.mk [(0,.str s),(1,.str [c])] [] .none h) (.ret)
   (ah.mk [(4,.int .i64 i)] [] .none g):=
 bh [4] (hs:=[.b false,.b false,.b false,.b false,.b false,.b true,.v (.int .u8 (.ofNat (UInt8.toNat c))),.c (.int .i64 i) g]) (by kernel_rfl)<| .cons (by kernel_rfl:a0 (Int.ofNat 1) (Int.ofNat 0)=false)<| .cons (by kernel_rfl:a0 (Int.ofNat 1) (Int.ofNat 0)=false)<| .cons (by kernel_rfl:a0 (Int.ofNat 1) (Int.ofNat 0)=false)<| .cons (by kernel_rfl:a0 (Int.ofNat 1) (Int.ofNat 0)=false)<| .cons H1<| .cons (by kernel_rfl:a0 (Int.ofNat 1) (Int.ofNat 1)=true)<| .cons aE<| .cons a3<| .nil
theorem Tb(call:aF->List I->J->ao)(s:List UInt8)(n:Nat)(i:Int)(h g:J)
  (H1:call (.fn 161) [.str s,.int .u8 (.ofNat n)] h=ao.ret (.int .i64 i) g):
  az Tryz.prog Tryz.f155 none call [] (ah.mk [(0,.str s),(1,.int .u8 (.ofNat n))] [] .none h) (.ret)
   (ah.mk [(4,.int .i64 i)] [] .none g):=
 bh [4] (hs:=[.c (.int .i64 i) g]) (by kernel_rfl)<| .cons H1<| .nil
theorem Tc(m:Nat)(s:List UInt8)(o:List UInt8)(n:Nat)(h:J){R:ao->Prop}(H:
  ((!dU s [])=true->
    ((List.length s)<=n->
      List.length [97,98,99,100,101,102,103,104,105,106,107,108,109,110,111,112,113,114,115,116,117,118,119,120,121,122,65,66,67,68,69,70,71,72,73,74,75,76,77,78,79,80,81,82,83,84,85,86,87,88,89,90,48,49,50,51,52,53,54,55,56,57,95]+List.length o<=1000000000000/\
      ∃(er:List UInt8) (bc:J),(Y m) (aF.fn 116) [I.str s,I.str ([97,98,99,100,101,102,103,104,105,106,107,108,109,110,111,112,113,114,115,116,117,118,119,120,121,122,65,66,67,68,69,70,71,72,73,74,75,76,77,78,79,80,81,82,83,84,85,86,87,88,89,90,48,49,50,51,52,53,54,55,56,57,95]++o)] h=ao.ret (I.str er) bc/\
      R (ao.ret (I.bool (dU er [])) bc))/\
    (¬(List.length s)<=n->
     R (ao.ret (I.bool false) h)))/\
  ((!dU s [])=false->
    R (ao.ret (I.bool false) h))):
  R (Y (m+1) (.fn 104) [I.str s,I.str o,I.int IntKind.i64 (Int.ofNat n)] h):=by
 rcases Bool.eq_false_or_eq_true ((!dU s [])) with aa|aa
 · have H:=H.1 aa
   by_cases ad:(List.length s)<=n
   · have H:=H.1 ad
     obtain⟨aw,H⟩:=H
     obtain⟨er,bc,aQ,H⟩:=H
     rw[show Y (m+1) (.fn 104) [I.str s,I.str o,I.int IntKind.i64 (Int.ofNat n)] h=_ from ed (intr:=bW) (n:=m) (args:=[I.str s,I.str o,I.int IntKind.i64 (Int.ofNat n)]) Tryz.func104 (by kernel_rfl) (by kernel_rfl) (by kernel_rfl) (SV (Y m) s o n h ([97,98,99,100,101,102,103,104,105,106,107,108,109,110,111,112,113,114,115,116,117,118,119,120,121,122,65,66,67,68,69,70,71,72,73,74,75,76,77,78,79,80,81,82,83,84,85,86,87,88,89,90,48,49,50,51,52,53,54,55,56,57,95]++o) er bc aa (iD ad) (fa aw) aQ) (.inl rfl) (by kernel_rfl)];exact H
   · have H:=H.2 ad
     rw[show Y (m+1) (.fn 104) [I.str s,I.str o,I.int IntKind.i64 (Int.ofNat n)] h=_ from ed (intr:=bW) (n:=m) (args:=[I.str s,I.str o,I.int IntKind.i64 (Int.ofNat n)]) Tryz.func104 (by kernel_rfl) (by kernel_rfl) (by kernel_rfl) (SW (Y m) s o n h aa (jA ad)) (.inl rfl) (by kernel_rfl)];exact H
 · have H:=H.2 aa
   rw[show Y (m+1) (.fn 104) [I.str s,I.str o,I.int IntKind.i64 (Int.ofNat n)] h=_ from ed (intr:=bW) (n:=m) (args:=[I.str s,I.str o,I.int IntKind.i64 (Int.ofNat n)]) Tryz.func104 (by kernel_rfl) (by kernel_rfl) (by kernel_rfl) (SX (Y m) s o n h aa) (.inl rfl) (by kernel_rfl)];exact H
theorem Td(m:Nat)(s:List UInt8)(h:J){R:ao->Prop}(H:
  ∃(cx:Bool) (bc:J),(Y m) (aF.fn 104) [I.str s,I.str [],I.int IntKind.i64 (Int.ofNat 24)] h=ao.ret (I.bool cx) bc/\
  (cx=true->
   ∃(cK:List UInt8),e1 Tryz.prog bc 9 (I.str s) none (some (I.int IntKind.i64 (Int.ofNat 1))) none=some (I.str cK)/\
   ∃(iJ:Bool) (dj:J),(Y m) (aF.fn 118) [I.str [48,49,50,51,52,53,54,55,56,57],I.str cK] bc=ao.ret (I.bool iJ) dj/\
   R (ao.ret (I.bool !iJ) dj))/\
  (cx=false->
   R (ao.ret (I.bool false) bc))):
  R (Y (m+1) (.fn 107) [I.str s] h):=by
 obtain⟨cx,bc,aa,H⟩:=H
 rcases Bool.eq_false_or_eq_true (cx) with ad|ad
 · have H:=H.1 ad
   obtain⟨cK,aw,H⟩:=H
   obtain⟨iJ,dj,aQ,H⟩:=H
   rw[show Y (m+1) (.fn 107) [I.str s] h=_ from ed (intr:=bW) (n:=m) (args:=[I.str s]) Tryz.func107 (by kernel_rfl) (by kernel_rfl) (by kernel_rfl) (SY (Y m) s h cx bc cK iJ dj aa ad aw aQ) (.inl rfl) (by kernel_rfl)];exact H
 · have H:=H.2 ad
   rw[show Y (m+1) (.fn 107) [I.str s] h=_ from ed (intr:=bW) (n:=m) (args:=[I.str s]) Tryz.func107 (by kernel_rfl) (by kernel_rfl) (by kernel_rfl) (SZ (Y m) s h cx bc aa ad) (.inl rfl) (by kernel_rfl)];exact H
theorem Te(m:Nat)(s:List UInt8)(o:List UInt8)(h:J){R:ao->Prop}(H:
  dU s []=false/\
  dU o []=false/\
  ¬(List.length o)=1/\
  ∃(l:List I),(Y m) (aF.fn 139) [I.str o] h=ao.ret (I.aP [I.agg l,I.bool true]) h/\
  ∃(bc:J),(some 256=some (List.length l)/\aB.storeCells (J.push h (cp.cells (List.replicate 256 (I.bool false)) 177 ey.own 0 0)) (J.n h) 0 l=some bc/\I.aP []=I.aP [])/\
  ∃(cK:List UInt8) (dj:J),(Y m) (aF.fn 141) [I.str s,I.ptr (J.n h) 0] bc=ao.ret (I.str cK) dj/\
  ∃(er:List UInt8) (ks:J),(Y m) (aF.fn 140) [I.str cK,I.ptr (J.n h) 0] dj=ao.ret (I.str er) ks/\
  R (ao.ret (I.str er) ks)):
  R (Y (m+1) (.fn 116) [I.str s,I.str o] h):=by
 obtain⟨aa,H⟩:=H
 obtain⟨ad,H⟩:=H
 obtain⟨aw,H⟩:=H
 obtain⟨l,aQ,H⟩:=H
 obtain⟨bc,bS,H⟩:=H
 obtain⟨cK,dj,dm,H⟩:=H
 obtain⟨er,ks,eG,H⟩:=H
 rw[show Y (m+1) (.fn 116) [I.str s,I.str o] h=_ from ed (intr:=bW) (n:=m) (args:=[I.str s,I.str o]) Tryz.func116 (by kernel_rfl) (by kernel_rfl) (by kernel_rfl) (trim (Y m) s o l h bc cK dj er ks aa ad (kM aw) aQ bS dm eG) (.inl rfl) (by kernel_rfl)];exact H
theorem Tf(m:Nat)(s:List UInt8)(a:Nat)(h:J){R:ao->Prop}(H:
  bj Tryz.prog Tryz.f141 (Y m) [1,0,0] (ah.mk [(4,I.str []),(0,I.str s),(1,I.ptr a 0)] [] bE.none h) (λcq cr=>
   (∃(t:List UInt8) (bU:Env),cq=(bw.exit 0)/\cr=(ah.mk bU [] bE.none h)/\cg [(0,I.str t)] bU/\
    R (ao.ret (I.str t) h)))):
  R (Y (m+1) (.fn 141) [I.str s,I.ptr a 0] h):=by
 obtain⟨cq,cr,aa,H⟩:=H
 obtain⟨t,bU,rfl,rfl,cJ,H⟩:=H
 replace aa:=cC.post aa cJ
 rw[show Y (m+1) (.fn 141) [I.str s,I.ptr a 0] h=_ from ed (intr:=bW) (n:=m) (args:=[I.str s,I.ptr a 0]) Tryz.func141 (by kernel_rfl) (by kernel_rfl) (by kernel_rfl) (S0 (Y m) s t a h aa) (.inl rfl) (by kernel_rfl)];exact H
theorem Tg(call:aF->List I->J->ao)(s:List UInt8)(a:Nat)(h:J){Q:bw->ah->Prop}(H:
  (0<(List.length s)->
   (1<=(List.length s)/\(List.length s)<9223372036854775808)/\
   ∃(dh:Nat),ga ((List.length s)-1) s=some (I.int IntKind.u8 (Int.ofNat dh))/\
   ∃(cx:Bool) (bc:J),call (aF.fn 146) [I.ptr a 0,I.int IntKind.u8 (Int.ofNat dh)] h=ao.ret (I.bool cx) bc/\
   ((!cx)=true->
     Q (bw.exit 0) (ah.mk [(0,I.str s),(1,I.ptr a 0)] [] bE.none bc))/\
   ((!cx)=false->
     ∃(cK:List UInt8),e1 Tryz.prog bc 9 (I.str s) none (some (I.int IntKind.i64 (Int.ofNat ((List.length s)-1)))) none=some (I.str cK)/\
     Q (bw.nrm) (ah.mk [(0,I.str cK),(1,I.ptr a 0)] [] bE.none bc)))/\
  (¬0<(List.length s)->
   Q (bw.exit 0) (ah.mk [(0,I.str s),(1,I.ptr a 0)] [] bE.none h))):
  bj Tryz.prog Tryz.f141 call [1,0,0,0] (ah.mk [(0,I.str s),(1,I.ptr a 0)] [] bE.none h) Q:=by
 by_cases aa:0<(List.length s)
 · have H:=H.1 aa
   obtain⟨ad,H⟩:=H
   obtain⟨dh,aw,H⟩:=H
   obtain⟨cx,bc,aQ,H⟩:=H
   rcases Bool.eq_false_or_eq_true ((!cx)) with bS|bS
   · have H:=H.1 bS
     exact bj.of (S1 call s a h ((List.length s)-1) dh cx bc (dx aa) (pj ad.1 ad.2) aw aQ bS) H
   · have H:=H.2 bS
     obtain⟨cK,dm,H⟩:=H
     exact bj.of (S2 call s a h ((List.length s)-1) dh cx bc cK (dx aa) (pj ad.1 ad.2) aw aQ bS dm) H
 · have H:=H.2 aa
   exact bj.of (S3 call s a h (eg aa)) H
theorem Th(m:Nat)(s:List UInt8)(a:Nat)(h:J){R:ao->Prop}(H:
  bj Tryz.prog Tryz.f140 (Y m) [1,0,0] (ah.mk [(4,I.str []),(0,I.str s),(1,I.ptr a 0)] [] bE.none h) (λcq cr=>
   (∃(t:List UInt8) (bU:Env),cq=(bw.exit 0)/\cr=(ah.mk bU [] bE.none h)/\cg [(0,I.str t)] bU/\
    R (ao.ret (I.str t) h)))):
  R (Y (m+1) (.fn 140) [I.str s,I.ptr a 0] h):=by
 obtain⟨cq,cr,aa,H⟩:=H
 obtain⟨t,bU,rfl,rfl,cJ,H⟩:=H
 replace aa:=cC.post aa cJ
 rw[show Y (m+1) (.fn 140) [I.str s,I.ptr a 0] h=_ from ed (intr:=bW) (n:=m) (args:=[I.str s,I.ptr a 0]) Tryz.func140 (by kernel_rfl) (by kernel_rfl) (by kernel_rfl) (S4 (Y m) s t a h aa) (.inl rfl) (by kernel_rfl)];exact H
theorem Ti(call:aF->List I->J->ao)(s:List UInt8)(a:Nat)(h:J){Q:bw->ah->Prop}(H:
  (0<(List.length s)->
   ∃(b3:Nat),ga 0 s=some (I.int IntKind.u8 (Int.ofNat b3))/\
   ∃(cx:Bool) (bc:J),call (aF.fn 146) [I.ptr a 0,I.int IntKind.u8 (Int.ofNat b3)] h=ao.ret (I.bool cx) bc/\
   ((!cx)=true->
     Q (bw.exit 0) (ah.mk [(0,I.str s),(1,I.ptr a 0)] [] bE.none bc))/\
   ((!cx)=false->
     ∃(cK:List UInt8),e1 Tryz.prog bc 9 (I.str s) (some (I.int IntKind.i64 (Int.ofNat 1))) none none=some (I.str cK)/\
     Q (bw.nrm) (ah.mk [(0,I.str cK),(1,I.ptr a 0)] [] bE.none bc)))/\
  (¬0<(List.length s)->
   Q (bw.exit 0) (ah.mk [(0,I.str s),(1,I.ptr a 0)] [] bE.none h))):
  bj Tryz.prog Tryz.f140 call [1,0,0,0] (ah.mk [(0,I.str s),(1,I.ptr a 0)] [] bE.none h) Q:=by
 by_cases aa:0<(List.length s)
 · have H:=H.1 aa
   obtain⟨b3,ad,H⟩:=H
   obtain⟨cx,bc,aw,H⟩:=H
   rcases Bool.eq_false_or_eq_true ((!cx)) with aQ|aQ
   · have H:=H.1 aQ
     exact bj.of (S5 call s a h b3 cx bc (dx aa) ad aw aQ) H
   · have H:=H.2 aQ
     obtain⟨cK,bS,H⟩:=H
     exact bj.of (S6 call s a h b3 cx bc cK (dx aa) ad aw aQ bS) H
 · have H:=H.2 aa
   exact bj.of (S7 call s a h (eg aa)) H
theorem Tj(m:Nat)(a:Nat)(n:Nat)(h:J){R:ao->Prop}(H:
  n<256/\
  ∃(cx:Bool),au h a (0+n*1)=some (I.bool cx)/\
  R (ao.ret (I.bool cx) h)):
  R (Y (m+1) (.fn 146) [I.ptr a 0,I.int IntKind.u8 (Int.ofNat n)] h):=by
 obtain⟨aa,H⟩:=H
 obtain⟨cx,ad,H⟩:=H
 rw[show Y (m+1) (.fn 146) [I.ptr a 0,I.int IntKind.u8 (Int.ofNat n)] h=_ from ed (intr:=bW) (n:=m) (args:=[I.ptr a 0,I.int IntKind.u8 (Int.ofNat n)]) Tryz.func146 (by kernel_rfl) (by kernel_rfl) (by kernel_rfl) (S8 (Y m) a n h cx aa ad) (.inl rfl) (by kernel_rfl)];exact H
theorem Tk(m:Nat)(s:List UInt8)(o:List UInt8)(h:J){R:ao->Prop}(H:
  ∃(i:Int) (g:J),(Y m) (aF.fn 144) [I.str s,I.str o] h=ao.ret (I.int IntKind.i64 i) g/\
  R (ao.ret (I.bool (dv (Int.ofNat 0) i)) g)):
  R (Y (m+1) (.fn 118) [I.str s,I.str o] h):=by
 obtain⟨i,g,aa,H⟩:=H
 rw[show Y (m+1) (.fn 118) [I.str s,I.str o] h=_ from ed (intr:=bW) (n:=m) (args:=[I.str s,I.str o]) Tryz.func118 (by kernel_rfl) (by kernel_rfl) (by kernel_rfl) (S9 (Y m) s o i h g aa) (.inl rfl) (by kernel_rfl)];exact H
theorem Tl(m:Nat)(s:List UInt8)(o:List UInt8)(h:J){R:ao->Prop}(H:
  ∃(i:Int) (g:J),(Y m) (aF.fn 150) [I.str s,I.str o] h=ao.ret (I.int IntKind.i64 i) g/\
  R (ao.ret (I.int IntKind.i64 i) g)):
  R (Y (m+1) (.fn 144) [I.str s,I.str o] h):=by
 obtain⟨i,g,aa,H⟩:=H
 rw[show Y (m+1) (.fn 144) [I.str s,I.str o] h=_ from ed (intr:=bW) (n:=m) (args:=[I.str s,I.str o]) Tryz.func144 (by kernel_rfl) (by kernel_rfl) (by kernel_rfl) (S_ (Y m) s o i h g aa) (.inl rfl) (by kernel_rfl)];exact H
theorem Tm(m:Nat)(s:List UInt8)(c:UInt8)(h:J){R:ao->Prop}(H:
  dU [c] s=false/\
  ga 0 [c]=some (I.int IntKind.u8 (Int.ofNat (BitVec.toFin (UInt8.toBitVec c)).1))/\
  ∃(i:Int) (g:J),(Y m) (aF.fn 155) [I.str s,I.int IntKind.u8 (Int.ofNat (BitVec.toFin (UInt8.toBitVec c)).1)] h=ao.ret (I.int IntKind.i64 i) g/\
  R (ao.ret (I.int IntKind.i64 i) g)):
  R (Y (m+1) (.fn 150) [I.str s,I.str [c]] h):=by
 obtain⟨aa,H⟩:=H
 obtain⟨ad,H⟩:=H
 obtain⟨i,g,aw,H⟩:=H
 rw[show Y (m+1) (.fn 150) [I.str s,I.str [c]] h=_ from ed (intr:=bW) (n:=m) (args:=[I.str s,I.str [c]]) Tryz.func150 (by kernel_rfl) (by kernel_rfl) (by kernel_rfl) (Ta (Y m) s c i h g aa ad aw) (.inl rfl) (by kernel_rfl)];exact H
theorem Tn(m:Nat)(s:List UInt8)(n:Nat)(h:J){R:ao->Prop}(H:
  ∃(i:Int) (g:J),(Y m) (aF.fn 161) [I.str s,I.int IntKind.u8 (Int.ofNat n)] h=ao.ret (I.int IntKind.i64 i) g/\
  R (ao.ret (I.int IntKind.i64 i) g)):
  R (Y (m+1) (.fn 155) [I.str s,I.int IntKind.u8 (Int.ofNat n)] h):=by
 obtain⟨i,g,aa,H⟩:=H
 rw[show Y (m+1) (.fn 155) [I.str s,I.int IntKind.u8 (Int.ofNat n)] h=_ from ed (intr:=bW) (n:=m) (args:=[I.str s,I.int IntKind.u8 (Int.ofNat n)]) Tryz.func155 (by kernel_rfl) (by kernel_rfl) (by kernel_rfl) (Tb (Y m) s n i h g aa) (.inl rfl) (by kernel_rfl)];exact H
theorem uS:Tryz.prog.underlying 9=some .string:=by kernel_rfl
theorem To(m:Nat)(h:J):Y (m+1) (.fn 139) [.str nH] h=.ret (.aP [.agg (jE oH),.bool true]) h:=by
 have e:bW 139 [.str nH] h=some (.aP [.agg (jE oH),.bool true],h):=by kernel_rfl
 unfold Y;simp only[fq,e]
theorem Tp(m:Nat)(h:J):Y (m+1) (.fn 139) [.str (nH++[45,47,46])] h=.ret (.aP [.agg (jE ja),.bool true]) h:=by
 have e:bW 139 [.str (nH++[45,47,46])] h=some (.aP [.agg (jE ja),.bool true],h):=by kernel_rfl
 unfold Y;simp only[fq,e]
theorem z1(p:Nat->Bool):(jE p).length=256:=by simp[jE]
def z2(h:J)(a:Nat)(p:Nat->Bool):Prop:=h.get a=some (.cells (jE p) 177 .own 0 0)
theorem Jp(m a n:Nat)(p:Nat->Bool)(h:J)(aI:n<256)(ba:z2 h a p):Y (m+1) (.fn 146) [.ptr a 0,.int .u8 (Int.ofNat n)] h=.ret (.bool (p n)) h:=
 Tj m a n h (R:=λx=>x=_) ⟨aI,_,CD ba (by rw[show 0+n*1=n by omega];simp[jE,aI]),rfl⟩
theorem Tq(p:Nat->Bool)(s:aO)(hs:0<s.length)(aq:p (s[s.length-1]'(by omega)).toNat=true):(s.take (s.length-1)).all (λc=>p c.toNat)=s.all (λc=>p c.toNat):=by
 have e:s=s.take (s.length-1)++[s[s.length-1]'(by omega)]:=by
  have:=List.take_append_drop (s.length-1) s
  rw[List.drop_eq_getElem_cons (by omega),List.drop_of_length_le (by omega)] at this
  exact this.symm
 conv=>rhs;rw[e]
 rw[List.all_append];simp[aq]
theorem Jq{s:aO}{i:Nat}(h:i<s.length):ga i s=some (.int .u8 (Int.ofNat (s[i]).toNat)):=mW h
theorem Tr(m a:Nat)(p:Nat->Bool)(s:aO)(h:J)(hs:s.length<=90000)(ba:z2 h a p):∃t,Y (m+2) (.fn 141) [.str s,.ptr a 0] h=.ret (.str t) h/\t.length<=s.length/\t.all (λc=>p c.toNat)=s.all (λc=>p c.toNat)/\(t.all (λc=>p c.toNat)=true->t=[]):=by
 refine Tf (m+1) s a h (R:=λx=>∃t,x=.ret (.str t) h/\t.length<=s.length/\t.all (λc=>p c.toNat)=s.all (λc=>p c.toNat)/\(t.all (λc=>p c.toNat)=true->t=[])) ?_
 refine bj.loop (by kernel_rfl) (λk st=>∃(t:aO) (Γ:Env),st=⟨Γ,[],.none,h⟩/\cg [(0,.str t),(1,.ptr a 0)] Γ/\t.length=k/\t.length<=s.length/\t.all (λc=>p c.toNat)=s.all (λc=>p c.toNat)) ?_ s.length _ (by omega) ⟨s,_,rfl,⟨rfl,rfl,trivial⟩,rfl,Nat.le_refl _,rfl⟩
 rintro k st ⟨t,Γ,rfl,cJ,av,aq,bp⟩
 refine bj.pre (Tg (Y (m+1)) t a h ⟨λh0=>⟨⟨by omega,by omega⟩,_,Jq (by omega),_,_,Jp m a _ p h (UInt8.toNat_lt _) ba,λag=>?_,λag=>?_⟩,λh0=>?_⟩) cJ rfl rfl rfl
 · refine⟨t,_,rfl,rfl,⟨rfl,trivial⟩,t,rfl,aq,bp,λaa=>?_⟩
   have:=List.all_eq_true.1 aa _ (List.getElem_mem (show t.length-1<t.length by omega))
   simp[this] at ag
 · have n5:p (t[t.length-1]'(by omega)).toNat=true:=by simpa using ag
   refine⟨_,Cy uS (by omega),_,(by show _<k;simp;omega),_,_,rfl,⟨rfl,rfl,trivial⟩,rfl,by simp;omega,by rw[Tq p t h0 n5,bp]⟩
 · obtain rfl:t=[]:=List.eq_nil_of_length_eq_zero (by omega)
   exact⟨[],_,rfl,rfl,⟨rfl,trivial⟩,[],rfl,aq,bp,λ_=>rfl⟩
theorem Ts(m a:Nat)(p:Nat->Bool)(s:aO)(h:J)(hs:s.length<=90000)(ba:z2 h a p):∃t,Y (m+2) (.fn 140) [.str s,.ptr a 0] h=.ret (.str t) h/\t.all (λc=>p c.toNat)=s.all (λc=>p c.toNat)/\(t.all (λc=>p c.toNat)=true->t=[]):=by
 refine Th (m+1) s a h (R:=λx=>∃t,x=.ret (.str t) h/\t.all (λc=>p c.toNat)=s.all (λc=>p c.toNat)/\(t.all (λc=>p c.toNat)=true->t=[])) ?_
 refine bj.loop (by kernel_rfl) (λk st=>∃(t:aO) (Γ:Env),st=⟨Γ,[],.none,h⟩/\cg [(0,.str t),(1,.ptr a 0)] Γ/\t.length=k/\t.all (λc=>p c.toNat)=s.all (λc=>p c.toNat)) ?_ s.length _ (by omega) ⟨s,_,rfl,⟨rfl,rfl,trivial⟩,rfl,rfl⟩
 rintro k st ⟨t,Γ,rfl,cJ,av,bp⟩
 refine bj.pre (Ti (Y (m+1)) t a h ⟨λh0=>⟨_,Jq h0,_,_,Jp m a _ p h (UInt8.toNat_lt _) ba,λag=>?_,λag=>?_⟩,λh0=>?_⟩) cJ rfl rfl rfl
 · refine⟨t,_,rfl,rfl,⟨rfl,trivial⟩,t,rfl,bp,λaa=>?_⟩
   have:=List.all_eq_true.1 aa _ (List.getElem_mem h0)
   simp[this] at ag
 · have n5:p (t[0]'h0).toNat=true:=by simpa using ag
   refine⟨_,PB uS (by omega),_,(by show _<k;simp;omega),_,_,rfl,⟨rfl,rfl,trivial⟩,rfl,?_⟩
   rw[<-bp]
   cases t with
   |nil=>simp at h0
   |cons c t=>simp at n5;simp[n5]
 · obtain rfl:t=[]:=List.eq_nil_of_length_eq_zero (by omega)
   exact⟨[],_,rfl,rfl,⟨rfl,trivial⟩,[],rfl,bp,λ_=>rfl⟩
theorem s5(s:aO):dU s []=decide (s=[]):=by cases s<;>simp[dU]
theorem Jr(m B:Nat)(p:Nat->Bool)(s o:aO)(h:J)(bI:B<=h.n)(hs:s.length<=90000)(h0:s≠[])(a7:o.length≠1)(aI:o≠[])(hm:Y (m+2) (.fn 139) [.str o] h=.ret (.aP [.agg (jE p),.bool true]) h):
  ∃t an,Y (m+3) (.fn 116) [.str s,.str o] h=.ret (.str t) an/\dU t []=s.all (λc=>p c.toNat)/\Ext B h an:=by
 have st:aB.storeCells (h.push (.cells (List.replicate 256 (.bool false)) 177 .own 0 0)) h.n 0 (jE p)=some ((h.push (.cells (List.replicate 256 (.bool false)) 177 .own 0 0)).set h.n (some (.cells (jE p) 177 .own 0 0))):=by
  refine iE (gf rfl) (by rw[z1];rfl) ?_
  have:=ud (jE p) (List.replicate 256 (.bool false)) (by simp[jE,I.b0]) (by rw[z1];simp)
  rw[this,z1];simp
 obtain⟨g,ak⟩:∃g,g=(h.push (.cells (List.replicate 256 (.bool false)) 177 .own 0 0)).set h.n (some (.cells (jE p) 177 .own 0 0)):=⟨_,rfl⟩
 rw[<-ak] at st
 have kE:z2 g h.n p:=by rw[ak];exact iW rfl
 have fl:Ext B h g:=by rw[ak];exact(Ext.push bI _).hg bI
 obtain⟨t,c1,bl,c9,ax⟩:=Tr m h.n p s g hs kE
 obtain⟨u,c2,dJ,ay⟩:=Ts m h.n p t g (by omega) kE
 refine Te (m+2) s o h (R:=λx=>∃t an,x=.ret (.str t) an/\dU t []=s.all (λc=>p c.toNat)/\Ext B h an) ⟨by rw[s5];simp[h0],by rw[s5];simp[aI],a7,_,hm,_,⟨by rw[z1],st,rfl⟩,t,g,c1,u,g,c2,u,g,rfl,?_,fl⟩
 rw[s5,<-c9,<-dJ]
 cases bp:u.all (λc=>p c.toNat) with
 |true=>simp[ay bp]
 |false=>
  cases u with
  |nil=>simp at bp
  |cons c u=>simp
theorem Js(m B:Nat)(p:Nat->Bool)(s o:aO)(n:Nat)(h:J)(bI:B<=h.n)(YB:n<=90000)(a7:(o=[]/\p=oH)\/(o=[45,47,46]/\p=ja)):bM B h (.bool (decide (1<=s.length)&&decide (s.length<=n)&&s.all (λc=>p c.toNat))) (Y (m+4) (.fn 104) [.str s,.str o,.int .i64 (Int.ofNat n)] h):=by
 refine Tc (m+3) s o n h ⟨λaa=>⟨λad=>?_,λad=>?_⟩,λaa=>?_⟩
 · have h0:s≠[]:=by rw[s5] at aa;simpa using aa
   have a_:1<=s.length:=List.length_pos_iff.2 h0
   have key:∃t an,Y (m+3) (.fn 116) [.str s,.str (nH++o)] h=.ret (.str t) an/\dU t []=s.all (λc=>p c.toNat)/\Ext B h an:=by
    rcases a7 with⟨rfl,rfl⟩|⟨rfl,rfl⟩
    · rw[List.append_nil]
      exact Jr m B oH s nH h bI (by omega) h0 (by decide) (by decide) (To _ h)
    · exact Jr m B ja s (nH++[45,47,46]) h bI (by omega) h0 (by decide) (by decide) (Tp _ h)
   obtain⟨t,an,c,e,x⟩:=key
   exact⟨by rcases a7 with⟨rfl,_⟩|⟨rfl,_⟩<;>simp,t,an,c,bM.of (eo (by rw[e];simp[a_,ad])) x⟩
 · exact bM.of (eo (by simp[ad])) (Ext.refl _ _)
 · have h0:s=[]:=by rw[s5] at aa;simpa using aa
   subst h0
   exact bM.of (eo (by simp)) (Ext.refl _ _)
end Go.Proofs.cD
