/-
  PROVED HERE: contracts of functions (De). No condition beside each statement's own.
-/
import Derived.Test.YtfooahfebojldaaGreatDoorDc
import Derived.Test.YtfooahfebojldaaGreatDoorSxb
set_option linter.unusedVariables false
set_option linter.unusedSimpArgs false
namespace Go.Proofs.b0
open Go aw Go.Proofs cu
set_option maxRecDepth 100000
set_option maxHeartbeats 1000000
theorem Rx(call:aP->List I->J->av)(s o:List UInt8)(n:Nat)(h:J)(c_ gX:List UInt8)(bj:J)
  (H1:(!bR s [])=true)
  (bl:fh (.ofNat (List.length s)) (.ofNat n)=true)
  (cz:oA .add [97,98,99,100,101,102,103,104,105,106,107,108,109,110,111,112,113,114,115,116,117,118,119,120,121,122,65,66,67,68,69,70,71,72,73,74,75,76,77,78,79,80,81,82,83,84,85,86,87,88,89,90,48,49,50,51,52,53,54,55,56,57,95] o=some (.str c_))
  (cv:call (.fn 116) [.str s,.str c_] h=av.ret (.str gX) bj):
  aV Tryz.prog Tryz.f104 none call [] (ao.mk [(0,.str s),(1,.str o),(2,.int .i64 (.ofNat n))] [] .none h) (.ret)
   (ao.mk [(6,.bool (bR gX []))] [] .none bj):=
 bY [6] (hs:=[.b true,.b true,.b true,.b true,.b true,.b true,.b true,.b true,.v (.str c_),.b true,.c (.str gX) bj,.b true,.b true]) (by kernel_rfl)<| .cons H1<| .cons H1<| .cons H1<| .cons H1<| .cons H1<| .cons bl<| .cons bl<| .cons bl<| .cons cz<| .cons bl<| .cons cv<| .cons bl<| .cons bl<| .nil
theorem Ry(call:aP->List I->J->av)(s o:List UInt8)(n:Nat)(h:J)
  (H1:(!bR s [])=true)
  (bl:fh (.ofNat (List.length s)) (.ofNat n)=false):
  aV Tryz.prog Tryz.f104 none call [] (ao.mk [(0,.str s),(1,.str o),(2,.int .i64 (.ofNat n))] [] .none h) (.ret)
   (ao.mk [(6,.bool false)] [] .none h):=
 bY [6] (hs:=[.b true,.b true,.b true,.b true,.b true,.b false,.b false,.b false,.b false,.b false,.b false]) (by kernel_rfl)<| .cons H1<| .cons H1<| .cons H1<| .cons H1<| .cons H1<| .cons bl<| .cons bl<| .cons bl<| .cons bl<| .cons bl<| .cons bl<| .nil
theorem Rz(call:aP->List I->J->av)(s o:List UInt8)(n:Nat)(h:J)
  (H1:(!bR s [])=false):
  aV Tryz.prog Tryz.f104 none call [] (ao.mk [(0,.str s),(1,.str o),(2,.int .i64 (.ofNat n))] [] .none h) (.ret)
   (ao.mk [(6,.bool false)] [] .none h):=
 bY [6] (hs:=[.b false,.b false,.b false,.b false,.b false,.b false,.b false,.b false,.b false,.b false,.b false]) (by kernel_rfl)<| .cons H1<| .cons H1<| .cons H1<| .cons H1<| .cons H1<| .cons (by kernel_rfl:false=false)<| .cons (by kernel_rfl:false=false)<| .cons (by kernel_rfl:false=false)<| .cons (by kernel_rfl:false=false)<| .cons (by kernel_rfl:false=false)<| .cons (by kernel_rfl:false=false)<| .nil
theorem RA(call:aP->List I->J->av)(s:List UInt8)(h:J)(cd:Bool)(bj:J)(c_:List UInt8)(ig:Bool)(dU:J)
  (H1:call (.fn 104) [.str s,.str [],.int .i64 (.ofNat 24)] h=av.ret (.bool cd) bj)
  (bl:cd=true)
  (cz:eu Tryz.prog bj 9 (I.str s) none (some (I.int IntKind.i64 (Int.ofNat 1))) none=some (I.str c_))
  (cv:call (.fn 118) [.str [48,49,50,51,52,53,54,55,56,57],.str c_] bj=av.ret (.bool ig) dU):
  aV Tryz.prog Tryz.f107 none call [] (ao.mk [(0,.str s)] [] .none h) (.ret)
   (ao.mk [(2,.bool !ig)] [] .none dU):=
 bY [2] (hs:=[.c (.bool cd) bj,.b true,.b true,.v (.str c_),.b true,.c (.bool ig) dU,.b true,.b true]) (by kernel_rfl)<| .cons H1<| .cons bl<| .cons bl<| .cons cz<| .cons bl<| .cons cv<| .cons bl<| .cons bl<| .nil
theorem RB(call:aP->List I->J->av)(s:List UInt8)(h:J)(cd:Bool)(bj:J)
  (H1:call (.fn 104) [.str s,.str [],.int .i64 (.ofNat 24)] h=av.ret (.bool cd) bj)
  (bl:cd=false):
  aV Tryz.prog Tryz.f107 none call [] (ao.mk [(0,.str s)] [] .none h) (.ret)
   (ao.mk [(2,.bool false)] [] .none bj):=
 bY [2] (hs:=[.c (.bool cd) bj,.b false,.b false,.b false,.b false,.b false]) (by kernel_rfl)<| .cons H1<| .cons bl<| .cons bl<| .cons bl<| .cons bl<| .cons bl<| .nil
theorem trim(call:aP->List I->J->av)(s o:List UInt8)(l:List I)(h bj:J)(c_:List UInt8)(dU:J)(gX:List UInt8)(jM:J)
  (H1:bR s []=false)
  (bl:bR o []=false)
  (cz:cU (.ofNat (List.length o)) (.ofNat 1)=false)
  (cv:call (.fn 139) [.str o] h=av.ret (.aK [.agg l,.bool true]) h)
  (dR:some 256=some (List.length l)/\aw.storeCells (J.push h (ca.cells (List.replicate 256 (I.bool false)) 177 fB.own 0 0)) (J.n h) 0 l=some bj/\I.aK []=I.aK [])
  (gV:call (.fn 141) [.str s,.ptr (J.n h) 0] bj=av.ret (.str c_) dU)
  (na:call (.fn 140) [.str c_,.ptr (J.n h) 0] dU=av.ret (.str gX) jM):
  aV Tryz.prog Tryz.f116 none call [] (ao.mk [(0,.str s),(1,.str o)] [] .none h) (.ret)
   (ao.mk [(4,.str gX)] [] .none jM):=
 bY [4] (hs:=[.b false,.b false,.b false,.b false,.b false,.b false,.b false,.b false,.b false,.c (.aK [.agg l,.bool true]) h,.hT (.aK []) bj,.b true,.c (.str c_) dU,.c (.str gX) jM]) (by kernel_rfl)<| .cons H1<| .cons H1<| .cons H1<| .cons bl<| .cons cz<| .cons cz<| .cons cz<| .cons cz<| .cons (by kernel_rfl:false=false)<| .cons cv<| .cons dR<| .cons (by kernel_rfl:true=true)<| .cons gV<| .cons na<| .nil
theorem RC(call:aP->List I->J->av)(s t:List UInt8)(a:Nat)(h:J)
  (H1:aV Tryz.prog Tryz.f141 none call [1,0,0] (ao.mk [(4,.str []),(0,.str s),(1,.ptr a 0)] [] .none h) (.exit 0) (ao.mk [(0,.str t)] [] .none h)):
  aV Tryz.prog Tryz.f141 none call [] (ao.mk [(0,.str s),(1,.ptr a 0)] [] .none h) (.ret)
   (ao.mk [(4,.str t)] [] .none h):=
 bY [4] (hs:=[Hint.loop (bu.exit 0) (ao.mk [(0,I.str t)] [] bt.none h)]) (by kernel_rfl)<| .cons H1<| .nil
theorem RD(call:aP->List I->J->av)(s:List UInt8)(a:Nat)(h:J)(de d_:Nat)(cd:Bool)(bj:J)
  (H1:et (.ofNat 0) (.ofNat (List.length s))=true)
  (bl:arith .sub .i64 (.ofNat (List.length s)) (.ofNat 1)=some (.int .i64 (.ofNat de)))
  (cz:ln de s=some (.int .u8 (.ofNat d_)))
  (cv:call (.fn 146) [.ptr a 0,.int .u8 (.ofNat d_)] h=av.ret (.bool cd) bj)
  (dR:(!cd)=true):
  aV Tryz.prog Tryz.f141 none call [1,0,0,0] (ao.mk [(0,.str s),(1,.ptr a 0)] [] .none h) (.exit 0)
   (ao.mk [(0,.str s),(1,.ptr a 0)] [] .none bj):=
 bY [0,1] (hs:=[.o (.int .i64 (.ofNat (List.length s))),.b true,.o (.int .i64 (.ofNat (List.length s))),.v (.int .i64 (.ofNat de)),.v (.int .u8 (.ofNat d_)),.c (.bool cd) bj,.b true]) (by kernel_rfl)<| .cons (by kernel_rfl:cb Tryz.prog h 9 (I.str s)=some (I.int IntKind.i64 (Int.ofNat (List.length s))))<| .cons H1<| .cons (by kernel_rfl:cb Tryz.prog h 9 (I.str s)=some (I.int IntKind.i64 (Int.ofNat (List.length s))))<| .cons bl<| .cons cz<| .cons cv<| .cons dR<| .nil
theorem RE(call:aP->List I->J->av)(s:List UInt8)(a:Nat)(h:J)(de d_:Nat)(cd:Bool)(bj:J)(c_:List UInt8)
  (H1:et (.ofNat 0) (.ofNat (List.length s))=true)
  (bl:arith .sub .i64 (.ofNat (List.length s)) (.ofNat 1)=some (.int .i64 (.ofNat de)))
  (cz:ln de s=some (.int .u8 (.ofNat d_)))
  (cv:call (.fn 146) [.ptr a 0,.int .u8 (.ofNat d_)] h=av.ret (.bool cd) bj)
  (dR:(!cd)=false)
  (gV:eu Tryz.prog bj 9 (I.str s) none (some (I.int IntKind.i64 (Int.ofNat de))) none=some (I.str c_)):
  aV Tryz.prog Tryz.f141 none call [1,0,0,0] (ao.mk [(0,.str s),(1,.ptr a 0)] [] .none h) (.nrm)
   (ao.mk [(0,.str c_),(1,.ptr a 0)] [] .none bj):=
 bY [0,1] (hs:=[.o (.int .i64 (.ofNat (List.length s))),.b true,.o (.int .i64 (.ofNat (List.length s))),.v (.int .i64 (.ofNat de)),.v (.int .u8 (.ofNat d_)),.c (.bool cd) bj,.b false,.o (.int .i64 (.ofNat (List.length s))),.v (.int .i64 (.ofNat de)),.v (.str c_)]) (by kernel_rfl)<| .cons (by kernel_rfl:cb Tryz.prog h 9 (I.str s)=some (I.int IntKind.i64 (Int.ofNat (List.length s))))<| .cons H1<| .cons (by kernel_rfl:cb Tryz.prog h 9 (I.str s)=some (I.int IntKind.i64 (Int.ofNat (List.length s))))<| .cons bl<| .cons cz<| .cons cv<| .cons dR<| .cons (by kernel_rfl:cb Tryz.prog bj 9 (I.str s)=some (I.int IntKind.i64 (Int.ofNat (List.length s))))<| .cons bl<| .cons gV<| .nil
theorem RF(call:aP->List I->J->av)(s:List UInt8)(a:Nat)(h:J)
  (H1:et (.ofNat 0) (.ofNat (List.length s))=false):
  aV Tryz.prog Tryz.f141 none call [1,0,0,0] (ao.mk [(0,.str s),(1,.ptr a 0)] [] .none h) (.exit 0)
   (ao.mk [(0,.str s),(1,.ptr a 0)] [] .none h):=
 bY [0,1] (hs:=[.o (.int .i64 (.ofNat (List.length s))),.b false]) (by kernel_rfl)<| .cons (by kernel_rfl:cb Tryz.prog h 9 (I.str s)=some (I.int IntKind.i64 (Int.ofNat (List.length s))))<| .cons H1<| .nil
theorem RG(call:aP->List I->J->av)(s t:List UInt8)(a:Nat)(h:J)
  (H1:aV Tryz.prog Tryz.f140 none call [1,0,0] (ao.mk [(4,.str []),(0,.str s),(1,.ptr a 0)] [] .none h) (.exit 0) (ao.mk [(0,.str t)] [] .none h)):
  aV Tryz.prog Tryz.f140 none call [] (ao.mk [(0,.str s),(1,.ptr a 0)] [] .none h) (.ret)
   (ao.mk [(4,.str t)] [] .none h):=
 bY [4] (hs:=[Hint.loop (bu.exit 0) (ao.mk [(0,I.str t)] [] bt.none h)]) (by kernel_rfl)<| .cons H1<| .nil
theorem RH(call:aP->List I->J->av)(s:List UInt8)(a:Nat)(h:J)(de:Nat)(cd:Bool)(bj:J)
  (H1:et (.ofNat 0) (.ofNat (List.length s))=true)
  (bl:ln 0 s=some (.int .u8 (.ofNat de)))
  (cz:call (.fn 146) [.ptr a 0,.int .u8 (.ofNat de)] h=av.ret (.bool cd) bj)
  (cv:(!cd)=true):
  aV Tryz.prog Tryz.f140 none call [1,0,0,0] (ao.mk [(0,.str s),(1,.ptr a 0)] [] .none h) (.exit 0)
   (ao.mk [(0,.str s),(1,.ptr a 0)] [] .none bj):=
 bY [0,1] (hs:=[.o (.int .i64 (.ofNat (List.length s))),.b true,.v (.int .u8 (.ofNat de)),.c (.bool cd) bj,.b true]) (by kernel_rfl)<| .cons (by kernel_rfl:cb Tryz.prog h 9 (I.str s)=some (I.int IntKind.i64 (Int.ofNat (List.length s))))<| .cons H1<| .cons bl<| .cons cz<| .cons cv<| .nil
theorem RI(call:aP->List I->J->av)(s:List UInt8)(a:Nat)(h:J)(de:Nat)(cd:Bool)(bj:J)(c_:List UInt8)
  (H1:et (.ofNat 0) (.ofNat (List.length s))=true)
  (bl:ln 0 s=some (.int .u8 (.ofNat de)))
  (cz:call (.fn 146) [.ptr a 0,.int .u8 (.ofNat de)] h=av.ret (.bool cd) bj)
  (cv:(!cd)=false)
  (dR:eu Tryz.prog bj 9 (I.str s) (some (I.int IntKind.i64 (Int.ofNat 1))) none none=some (I.str c_)):
  aV Tryz.prog Tryz.f140 none call [1,0,0,0] (ao.mk [(0,.str s),(1,.ptr a 0)] [] .none h) (.nrm)
   (ao.mk [(0,.str c_),(1,.ptr a 0)] [] .none bj):=
 bY [0,1] (hs:=[.o (.int .i64 (.ofNat (List.length s))),.b true,.v (.int .u8 (.ofNat de)),.c (.bool cd) bj,.b false,.v (.str c_)]) (by kernel_rfl)<| .cons (by kernel_rfl:cb Tryz.prog h 9 (I.str s)=some (I.int IntKind.i64 (Int.ofNat (List.length s))))<| .cons H1<| .cons bl<| .cons cz<| .cons cv<| .cons dR<| .nil
theorem RJ(call:aP->List I->J->av)(s:List UInt8)(a:Nat)(h:J)
  (H1:et (.ofNat 0) (.ofNat (List.length s))=false):
  aV Tryz.prog Tryz.f140 none call [1,0,0,0] (ao.mk [(0,.str s),(1,.ptr a 0)] [] .none h) (.exit 0)
   (ao.mk [(0,.str s),(1,.ptr a 0)] [] .none h):=
 bY [0,1] (hs:=[.o (.int .i64 (.ofNat (List.length s))),.b false]) (by kernel_rfl)<| .cons (by kernel_rfl:cb Tryz.prog h 9 (I.str s)=some (I.int IntKind.i64 (Int.ofNat (List.length s))))<| .cons H1<| .nil
theorem RK(call:aP->List I->J->av)(a n:Nat)(h:J)(cd:Bool)
  (H1:Nat.le (Nat.succ n) 256)
  (bl:ay h a (0+n*1)=some (.bool cd)):
  aV Tryz.prog Tryz.f146 none call [] (ao.mk [(0,.ptr a 0),(1,.int .u8 (.ofNat n))] [] .none h) (.ret)
   (ao.mk [(4,.bool cd)] [] .none h):=
 bY [4] (hs:=[.v (.ptr a (0+n*1)),.v (.bool cd)]) (by kernel_rfl)<| .cons (⟨H1,rfl⟩:Nat.le (Nat.succ n) 256/\I.ptr a (0+n*1)=I.ptr a (0+n*1))<| .cons bl<| .nil
theorem RL(call:aP->List I->J->av)(s o:List UInt8)(i:Int)(h g:J)
  (H1:call (.fn 144) [.str s,.str o] h=av.ret (.int .i64 i) g):
  aV Tryz.prog Tryz.f118 none call [] (ao.mk [(0,.str s),(1,.str o)] [] .none h) (.ret)
   (ao.mk [(4,.bool (fh (.ofNat 0) i))] [] .none g):=
 bY [4] (hs:=[.c (.int .i64 i) g]) (by kernel_rfl)<| .cons H1<| .nil
theorem RM(call:aP->List I->J->av)(s o:List UInt8)(i:Int)(h g:J)
  (H1:call (.fn 150) [.str s,.str o] h=av.ret (.int .i64 i) g):
  aV Tryz.prog Tryz.f144 none call [] (ao.mk [(0,.str s),(1,.str o)] [] .none h) (.ret)
   (ao.mk [(4,.int .i64 i)] [] .none g):=
 bY [4] (hs:=[.c (.int .i64 i) g]) (by kernel_rfl)<| .cons H1<| .nil
theorem RN(call:aP->List I->J->av)(s:List UInt8)(c:UInt8)(i:Int)(h g:J)
  (H1:bR [c] s=false)
  (bl:ln 0 [c]=some (.int .u8 (.ofNat (BitVec.toFin (UInt8.toBitVec c)).1)))
  (cz:call (.fn 155) [.str s,.int .u8 (.ofNat (BitVec.toFin (UInt8.toBitVec c)).1)] h=av.ret (.int .i64 i) g):
  aV Tryz.prog Tryz.f150 none call [] (ao.mk [(0,.str s),(1,.str [c])] [] .none h) (.ret)
   (ao.mk [(4,.int .i64 i)] [] .none g):=
 bY [4] (hs:=[.b false,.b false,.b false,.b false,.b false,.b true,.v (.int .u8 (.ofNat (UInt8.toNat c))),.c (.int .i64 i) g]) (by kernel_rfl)<| .cons (by kernel_rfl:cU (Int.ofNat 1) (Int.ofNat 0)=false)<| .cons (by kernel_rfl:cU (Int.ofNat 1) (Int.ofNat 0)=false)<| .cons (by kernel_rfl:cU (Int.ofNat 1) (Int.ofNat 0)=false)<| .cons (by kernel_rfl:cU (Int.ofNat 1) (Int.ofNat 0)=false)<| .cons H1<| .cons (by kernel_rfl:cU (Int.ofNat 1) (Int.ofNat 1)=true)<| .cons bl<| .cons cz<| .nil
theorem RO(call:aP->List I->J->av)(s:List UInt8)(n:Nat)(i:Int)(h g:J)
  (H1:call (.fn 161) [.str s,.int .u8 (.ofNat n)] h=av.ret (.int .i64 i) g):
  aV Tryz.prog Tryz.f155 none call [] (ao.mk [(0,.str s),(1,.int .u8 (.ofNat n))] [] .none h) (.ret)
   (ao.mk [(4,.int .i64 i)] [] .none g):=
 bY [4] (hs:=[.c (.int .i64 i) g]) (by kernel_rfl)<| .cons H1<| .nil
theorem RP(m:Nat)(s:List UInt8)(o:List UInt8)(n:Nat)(h:J){R:av->Prop}(H:
  ((!bR s [])=true->
    ((List.length s)<=n->
      List.length [97,98,99,100,101,102,103,104,105,106,107,108,109,110,111,112,113,114,115,116,117,118,119,120,121,122,65,66,67,68,69,70,71,72,73,74,75,76,77,78,79,80,81,82,83,84,85,86,87,88,89,90,48,49,50,51,52,53,54,55,56,57,95]+List.length o<=1000000000000/\
      ∃(gX:List UInt8) (bj:J),(Y m) (aP.fn 116) [I.str s,I.str ([97,98,99,100,101,102,103,104,105,106,107,108,109,110,111,112,113,114,115,116,117,118,119,120,121,122,65,66,67,68,69,70,71,72,73,74,75,76,77,78,79,80,81,82,83,84,85,86,87,88,89,90,48,49,50,51,52,53,54,55,56,57,95]++o)] h=av.ret (I.str gX) bj/\
      R (av.ret (I.bool (bR gX [])) bj))/\
    (¬(List.length s)<=n->
     R (av.ret (I.bool false) h)))/\
  ((!bR s [])=false->
    R (av.ret (I.bool false) h))):
  R (Y (m+1) (.fn 104) [I.str s,I.str o,I.int IntKind.i64 (Int.ofNat n)] h):=by
 rcases Bool.eq_false_or_eq_true ((!bR s [])) with aa|aa
 · have H:=H.1 aa
   by_cases ad:(List.length s)<=n
   · have H:=H.1 ad
     obtain⟨ar,H⟩:=H
     obtain⟨gX,bj,aM,H⟩:=H
     rw[show Y (m+1) (.fn 104) [I.str s,I.str o,I.int IntKind.i64 (Int.ofNat n)] h=_ from eY (intr:=bW) (n:=m) (args:=[I.str s,I.str o,I.int IntKind.i64 (Int.ofNat n)]) Tryz.func104 (by kernel_rfl) (by kernel_rfl) (by kernel_rfl) (Rx (Y m) s o n h ([97,98,99,100,101,102,103,104,105,106,107,108,109,110,111,112,113,114,115,116,117,118,119,120,121,122,65,66,67,68,69,70,71,72,73,74,75,76,77,78,79,80,81,82,83,84,85,86,87,88,89,90,48,49,50,51,52,53,54,55,56,57,95]++o) gX bj aa (o6 ad) (y2 ar) aM) (.inl rfl) (by kernel_rfl)];exact H
   · have H:=H.2 ad
     rw[show Y (m+1) (.fn 104) [I.str s,I.str o,I.int IntKind.i64 (Int.ofNat n)] h=_ from eY (intr:=bW) (n:=m) (args:=[I.str s,I.str o,I.int IntKind.i64 (Int.ofNat n)]) Tryz.func104 (by kernel_rfl) (by kernel_rfl) (by kernel_rfl) (Ry (Y m) s o n h aa (y6 ad)) (.inl rfl) (by kernel_rfl)];exact H
 · have H:=H.2 aa
   rw[show Y (m+1) (.fn 104) [I.str s,I.str o,I.int IntKind.i64 (Int.ofNat n)] h=_ from eY (intr:=bW) (n:=m) (args:=[I.str s,I.str o,I.int IntKind.i64 (Int.ofNat n)]) Tryz.func104 (by kernel_rfl) (by kernel_rfl) (by kernel_rfl) (Rz (Y m) s o n h aa) (.inl rfl) (by kernel_rfl)];exact H
theorem RQ(m:Nat)(s:List UInt8)(h:J){R:av->Prop}(H:
  ∃(cd:Bool) (bj:J),(Y m) (aP.fn 104) [I.str s,I.str [],I.int IntKind.i64 (Int.ofNat 24)] h=av.ret (I.bool cd) bj/\
  (cd=true->
   ∃(c_:List UInt8),eu Tryz.prog bj 9 (I.str s) none (some (I.int IntKind.i64 (Int.ofNat 1))) none=some (I.str c_)/\
   ∃(ig:Bool) (dU:J),(Y m) (aP.fn 118) [I.str [48,49,50,51,52,53,54,55,56,57],I.str c_] bj=av.ret (I.bool ig) dU/\
   R (av.ret (I.bool !ig) dU))/\
  (cd=false->
   R (av.ret (I.bool false) bj))):
  R (Y (m+1) (.fn 107) [I.str s] h):=by
 obtain⟨cd,bj,aa,H⟩:=H
 rcases Bool.eq_false_or_eq_true (cd) with ad|ad
 · have H:=H.1 ad
   obtain⟨c_,ar,H⟩:=H
   obtain⟨ig,dU,aM,H⟩:=H
   rw[show Y (m+1) (.fn 107) [I.str s] h=_ from eY (intr:=bW) (n:=m) (args:=[I.str s]) Tryz.func107 (by kernel_rfl) (by kernel_rfl) (by kernel_rfl) (RA (Y m) s h cd bj c_ ig dU aa ad ar aM) (.inl rfl) (by kernel_rfl)];exact H
 · have H:=H.2 ad
   rw[show Y (m+1) (.fn 107) [I.str s] h=_ from eY (intr:=bW) (n:=m) (args:=[I.str s]) Tryz.func107 (by kernel_rfl) (by kernel_rfl) (by kernel_rfl) (RB (Y m) s h cd bj aa ad) (.inl rfl) (by kernel_rfl)];exact H
theorem RR(m:Nat)(s:List UInt8)(o:List UInt8)(h:J){R:av->Prop}(H:
  bR s []=false/\
  bR o []=false/\
  ¬(List.length o)=1/\
  ∃(l:List I),(Y m) (aP.fn 139) [I.str o] h=av.ret (I.aK [I.agg l,I.bool true]) h/\
  ∃(bj:J),(some 256=some (List.length l)/\aw.storeCells (J.push h (ca.cells (List.replicate 256 (I.bool false)) 177 fB.own 0 0)) (J.n h) 0 l=some bj/\I.aK []=I.aK [])/\
  ∃(c_:List UInt8) (dU:J),(Y m) (aP.fn 141) [I.str s,I.ptr (J.n h) 0] bj=av.ret (I.str c_) dU/\
  ∃(gX:List UInt8) (jM:J),(Y m) (aP.fn 140) [I.str c_,I.ptr (J.n h) 0] dU=av.ret (I.str gX) jM/\
  R (av.ret (I.str gX) jM)):
  R (Y (m+1) (.fn 116) [I.str s,I.str o] h):=by
 obtain⟨aa,H⟩:=H
 obtain⟨ad,H⟩:=H
 obtain⟨ar,H⟩:=H
 obtain⟨l,aM,H⟩:=H
 obtain⟨bj,bS,H⟩:=H
 obtain⟨c_,dU,cK,H⟩:=H
 obtain⟨gX,jM,ew,H⟩:=H
 rw[show Y (m+1) (.fn 116) [I.str s,I.str o] h=_ from eY (intr:=bW) (n:=m) (args:=[I.str s,I.str o]) Tryz.func116 (by kernel_rfl) (by kernel_rfl) (by kernel_rfl) (trim (Y m) s o l h bj c_ dU gX jM aa ad (y8 ar) aM bS cK ew) (.inl rfl) (by kernel_rfl)];exact H
theorem RS(m:Nat)(s:List UInt8)(a:Nat)(h:J){R:av->Prop}(H:
  bm Tryz.prog Tryz.f141 (Y m) [1,0,0] (ao.mk [(4,I.str []),(0,I.str s),(1,I.ptr a 0)] [] bt.none h) (λcE cF=>
   (∃(t:List UInt8) (bV:Env),cE=(bu.exit 0)/\cF=(ao.mk bV [] bt.none h)/\cl [(0,I.str t)] bV/\
    R (av.ret (I.str t) h)))):
  R (Y (m+1) (.fn 141) [I.str s,I.ptr a 0] h):=by
 obtain⟨cE,cF,aa,H⟩:=H
 obtain⟨t,bV,rfl,rfl,cG,H⟩:=H
 replace aa:=cW.post aa cG
 rw[show Y (m+1) (.fn 141) [I.str s,I.ptr a 0] h=_ from eY (intr:=bW) (n:=m) (args:=[I.str s,I.ptr a 0]) Tryz.func141 (by kernel_rfl) (by kernel_rfl) (by kernel_rfl) (RC (Y m) s t a h aa) (.inl rfl) (by kernel_rfl)];exact H
theorem RT(call:aP->List I->J->av)(s:List UInt8)(a:Nat)(h:J){Q:bu->ao->Prop}(H:
  (0<(List.length s)->
   (1<=(List.length s)/\(List.length s)<9223372036854775808)/\
   ∃(d_:Nat),ln ((List.length s)-1) s=some (I.int IntKind.u8 (Int.ofNat d_))/\
   ∃(cd:Bool) (bj:J),call (aP.fn 146) [I.ptr a 0,I.int IntKind.u8 (Int.ofNat d_)] h=av.ret (I.bool cd) bj/\
   ((!cd)=true->
     Q (bu.exit 0) (ao.mk [(0,I.str s),(1,I.ptr a 0)] [] bt.none bj))/\
   ((!cd)=false->
     ∃(c_:List UInt8),eu Tryz.prog bj 9 (I.str s) none (some (I.int IntKind.i64 (Int.ofNat ((List.length s)-1)))) none=some (I.str c_)/\
     Q (bu.nrm) (ao.mk [(0,I.str c_),(1,I.ptr a 0)] [] bt.none bj)))/\
  (¬0<(List.length s)->
   Q (bu.exit 0) (ao.mk [(0,I.str s),(1,I.ptr a 0)] [] bt.none h))):
  bm Tryz.prog Tryz.f141 call [1,0,0,0] (ao.mk [(0,I.str s),(1,I.ptr a 0)] [] bt.none h) Q:=by
 by_cases aa:0<(List.length s)
 · have H:=H.1 aa
   obtain⟨ad,H⟩:=H
   obtain⟨d_,ar,H⟩:=H
   obtain⟨cd,bj,aM,H⟩:=H
   rcases Bool.eq_false_or_eq_true ((!cd)) with bS|bS
   · have H:=H.1 bS
     exact bm.of (RD call s a h ((List.length s)-1) d_ cd bj (kM aa) (tS ad.1 ad.2) ar aM bS) H
   · have H:=H.2 bS
     obtain⟨c_,cK,H⟩:=H
     exact bm.of (RE call s a h ((List.length s)-1) d_ cd bj c_ (kM aa) (tS ad.1 ad.2) ar aM bS cK) H
 · have H:=H.2 aa
   exact bm.of (RF call s a h (o4 aa)) H
theorem RU(m:Nat)(s:List UInt8)(a:Nat)(h:J){R:av->Prop}(H:
  bm Tryz.prog Tryz.f140 (Y m) [1,0,0] (ao.mk [(4,I.str []),(0,I.str s),(1,I.ptr a 0)] [] bt.none h) (λcE cF=>
   (∃(t:List UInt8) (bV:Env),cE=(bu.exit 0)/\cF=(ao.mk bV [] bt.none h)/\cl [(0,I.str t)] bV/\
    R (av.ret (I.str t) h)))):
  R (Y (m+1) (.fn 140) [I.str s,I.ptr a 0] h):=by
 obtain⟨cE,cF,aa,H⟩:=H
 obtain⟨t,bV,rfl,rfl,cG,H⟩:=H
 replace aa:=cW.post aa cG
 rw[show Y (m+1) (.fn 140) [I.str s,I.ptr a 0] h=_ from eY (intr:=bW) (n:=m) (args:=[I.str s,I.ptr a 0]) Tryz.func140 (by kernel_rfl) (by kernel_rfl) (by kernel_rfl) (RG (Y m) s t a h aa) (.inl rfl) (by kernel_rfl)];exact H
theorem RV(call:aP->List I->J->av)(s:List UInt8)(a:Nat)(h:J){Q:bu->ao->Prop}(H:
  (0<(List.length s)->
   ∃(de:Nat),ln 0 s=some (I.int IntKind.u8 (Int.ofNat de))/\
   ∃(cd:Bool) (bj:J),call (aP.fn 146) [I.ptr a 0,I.int IntKind.u8 (Int.ofNat de)] h=av.ret (I.bool cd) bj/\
   ((!cd)=true->
     Q (bu.exit 0) (ao.mk [(0,I.str s),(1,I.ptr a 0)] [] bt.none bj))/\
   ((!cd)=false->
     ∃(c_:List UInt8),eu Tryz.prog bj 9 (I.str s) (some (I.int IntKind.i64 (Int.ofNat 1))) none none=some (I.str c_)/\
     Q (bu.nrm) (ao.mk [(0,I.str c_),(1,I.ptr a 0)] [] bt.none bj)))/\
  (¬0<(List.length s)->
   Q (bu.exit 0) (ao.mk [(0,I.str s),(1,I.ptr a 0)] [] bt.none h))):
  bm Tryz.prog Tryz.f140 call [1,0,0,0] (ao.mk [(0,I.str s),(1,I.ptr a 0)] [] bt.none h) Q:=by
 by_cases aa:0<(List.length s)
 · have H:=H.1 aa
   obtain⟨de,ad,H⟩:=H
   obtain⟨cd,bj,ar,H⟩:=H
   rcases Bool.eq_false_or_eq_true ((!cd)) with aM|aM
   · have H:=H.1 aM
     exact bm.of (RH call s a h de cd bj (kM aa) ad ar aM) H
   · have H:=H.2 aM
     obtain⟨c_,bS,H⟩:=H
     exact bm.of (RI call s a h de cd bj c_ (kM aa) ad ar aM bS) H
 · have H:=H.2 aa
   exact bm.of (RJ call s a h (o4 aa)) H
theorem RW(m:Nat)(a:Nat)(n:Nat)(h:J){R:av->Prop}(H:
  n<256/\
  ∃(cd:Bool),ay h a (0+n*1)=some (I.bool cd)/\
  R (av.ret (I.bool cd) h)):
  R (Y (m+1) (.fn 146) [I.ptr a 0,I.int IntKind.u8 (Int.ofNat n)] h):=by
 obtain⟨aa,H⟩:=H
 obtain⟨cd,ad,H⟩:=H
 rw[show Y (m+1) (.fn 146) [I.ptr a 0,I.int IntKind.u8 (Int.ofNat n)] h=_ from eY (intr:=bW) (n:=m) (args:=[I.ptr a 0,I.int IntKind.u8 (Int.ofNat n)]) Tryz.func146 (by kernel_rfl) (by kernel_rfl) (by kernel_rfl) (RK (Y m) a n h cd aa ad) (.inl rfl) (by kernel_rfl)];exact H
theorem RX(m:Nat)(s:List UInt8)(o:List UInt8)(h:J){R:av->Prop}(H:
  ∃(i:Int) (g:J),(Y m) (aP.fn 144) [I.str s,I.str o] h=av.ret (I.int IntKind.i64 i) g/\
  R (av.ret (I.bool (fh (Int.ofNat 0) i)) g)):
  R (Y (m+1) (.fn 118) [I.str s,I.str o] h):=by
 obtain⟨i,g,aa,H⟩:=H
 rw[show Y (m+1) (.fn 118) [I.str s,I.str o] h=_ from eY (intr:=bW) (n:=m) (args:=[I.str s,I.str o]) Tryz.func118 (by kernel_rfl) (by kernel_rfl) (by kernel_rfl) (RL (Y m) s o i h g aa) (.inl rfl) (by kernel_rfl)];exact H
theorem RY(m:Nat)(s:List UInt8)(o:List UInt8)(h:J){R:av->Prop}(H:
  ∃(i:Int) (g:J),(Y m) (aP.fn 150) [I.str s,I.str o] h=av.ret (I.int IntKind.i64 i) g/\
  R (av.ret (I.int IntKind.i64 i) g)):
  R (Y (m+1) (.fn 144) [I.str s,I.str o] h):=by
 obtain⟨i,g,aa,H⟩:=H
 rw[show Y (m+1) (.fn 144) [I.str s,I.str o] h=_ from eY (intr:=bW) (n:=m) (args:=[I.str s,I.str o]) Tryz.func144 (by kernel_rfl) (by kernel_rfl) (by kernel_rfl) (RM (Y m) s o i h g aa) (.inl rfl) (by kernel_rfl)];exact H
theorem RZ(m:Nat)(s:List UInt8)(c:UInt8)(h:J){R:av->Prop}(H:
  bR [c] s=false/\
  ln 0 [c]=some (I.int IntKind.u8 (Int.ofNat (BitVec.toFin (UInt8.toBitVec c)).1))/\
  ∃(i:Int) (g:J),(Y m) (aP.fn 155) [I.str s,I.int IntKind.u8 (Int.ofNat (BitVec.toFin (UInt8.toBitVec c)).1)] h=av.ret (I.int IntKind.i64 i) g/\
  R (av.ret (I.int IntKind.i64 i) g)):
  R (Y (m+1) (.fn 150) [I.str s,I.str [c]] h):=by
 obtain⟨aa,H⟩:=H
 obtain⟨ad,H⟩:=H
 obtain⟨i,g,ar,H⟩:=H
 rw[show Y (m+1) (.fn 150) [I.str s,I.str [c]] h=_ from eY (intr:=bW) (n:=m) (args:=[I.str s,I.str [c]]) Tryz.func150 (by kernel_rfl) (by kernel_rfl) (by kernel_rfl) (RN (Y m) s c i h g aa ad ar) (.inl rfl) (by kernel_rfl)];exact H
theorem R0(m:Nat)(s:List UInt8)(n:Nat)(h:J){R:av->Prop}(H:
  ∃(i:Int) (g:J),(Y m) (aP.fn 161) [I.str s,I.int IntKind.u8 (Int.ofNat n)] h=av.ret (I.int IntKind.i64 i) g/\
  R (av.ret (I.int IntKind.i64 i) g)):
  R (Y (m+1) (.fn 155) [I.str s,I.int IntKind.u8 (Int.ofNat n)] h):=by
 obtain⟨i,g,aa,H⟩:=H
 rw[show Y (m+1) (.fn 155) [I.str s,I.int IntKind.u8 (Int.ofNat n)] h=_ from eY (intr:=bW) (n:=m) (args:=[I.str s,I.int IntKind.u8 (Int.ofNat n)]) Tryz.func155 (by kernel_rfl) (by kernel_rfl) (by kernel_rfl) (RO (Y m) s n i h g aa) (.inl rfl) (by kernel_rfl)];exact H
theorem wR:Tryz.prog.underlying 9=some .string:=by kernel_rfl
theorem R1(m:Nat)(h:J):Y (m+1) (.fn 139) [.str m8] h=.ret (.aK [.agg (iW og),.bool true]) h:=by
 have e:bW 139 [.str m8] h=some (.aK [.agg (iW og),.bool true],h):=by kernel_rfl
 unfold Y;simp only[e4,e]
theorem R2(m:Nat)(h:J):Y (m+1) (.fn 139) [.str (m8++[45,47,46])] h=.ret (.aK [.agg (iW qO),.bool true]) h:=by
 have e:bW 139 [.str (m8++[45,47,46])] h=some (.aK [.agg (iW qO),.bool true],h):=by kernel_rfl
 unfold Y;simp only[e4,e]
theorem zC(p:Nat->Bool):(iW p).length=256:=by simp[iW]
def zD(h:J)(a:Nat)(p:Nat->Bool):Prop:=h.get a=some (.cells (iW p) 177 .own 0 0)
theorem IP(m a n:Nat)(p:Nat->Bool)(h:J)(aG:n<256)(aX:zD h a p):Y (m+1) (.fn 146) [.ptr a 0,.int .u8 (Int.ofNat n)] h=.ret (.bool (p n)) h:=
 RW m a n h (R:=λx=>x=_) ⟨aG,_,Cq aX (by rw[show 0+n*1=n by omega];simp[iW,aG]),rfl⟩
theorem R3(p:Nat->Bool)(s:aJ)(hs:0<s.length)(an:p (s[s.length-1]'(by omega)).toNat=true):(s.take (s.length-1)).all (λc=>p c.toNat)=s.all (λc=>p c.toNat):=by
 have e:s=s.take (s.length-1)++[s[s.length-1]'(by omega)]:=by
  have:=List.take_append_drop (s.length-1) s
  rw[List.drop_eq_getElem_cons (by omega),List.drop_of_length_le (by omega)] at this
  exact this.symm
 conv=>rhs;rw[e]
 rw[List.all_append];simp[an]
theorem IQ{s:aJ}{i:Nat}(h:i<s.length):ln i s=some (.int .u8 (Int.ofNat (s[i]).toNat)):=Pd h
theorem R4(m a:Nat)(p:Nat->Bool)(s:aJ)(h:J)(hs:s.length<=90000)(aX:zD h a p):∃t,Y (m+2) (.fn 141) [.str s,.ptr a 0] h=.ret (.str t) h/\t.length<=s.length/\t.all (λc=>p c.toNat)=s.all (λc=>p c.toNat)/\(t.all (λc=>p c.toNat)=true->t=[]):=by
 refine RS (m+1) s a h (R:=λx=>∃t,x=.ret (.str t) h/\t.length<=s.length/\t.all (λc=>p c.toNat)=s.all (λc=>p c.toNat)/\(t.all (λc=>p c.toNat)=true->t=[])) ?_
 refine bm.loop (by kernel_rfl) (λk st=>∃(t:aJ) (Γ:Env),st=⟨Γ,[],.none,h⟩/\cl [(0,.str t),(1,.ptr a 0)] Γ/\t.length=k/\t.length<=s.length/\t.all (λc=>p c.toNat)=s.all (λc=>p c.toNat)) ?_ s.length _ (by omega) ⟨s,_,rfl,⟨rfl,rfl,trivial⟩,rfl,Nat.le_refl _,rfl⟩
 rintro k st ⟨t,Γ,rfl,cG,aq,an,bh⟩
 refine bm.pre (RT (Y (m+1)) t a h ⟨λh0=>⟨⟨by omega,by omega⟩,_,IQ (by omega),_,_,IP m a _ p h (UInt8.toNat_lt _) aX,λag=>?_,λag=>?_⟩,λh0=>?_⟩) cG rfl rfl rfl
 · refine⟨t,_,rfl,rfl,⟨rfl,trivial⟩,t,rfl,an,bh,λaa=>?_⟩
   have:=List.all_eq_true.1 aa _ (List.getElem_mem (show t.length-1<t.length by omega))
   simp[this] at ag
 · have nE:p (t[t.length-1]'(by omega)).toNat=true:=by simpa using ag
   refine⟨_,Ci wR (by omega),_,(by show _<k;simp;omega),_,_,rfl,⟨rfl,rfl,trivial⟩,rfl,by simp;omega,by rw[R3 p t h0 nE,bh]⟩
 · obtain rfl:t=[]:=List.eq_nil_of_length_eq_zero (by omega)
   exact⟨[],_,rfl,rfl,⟨rfl,trivial⟩,[],rfl,an,bh,λ_=>rfl⟩
theorem R5(m a:Nat)(p:Nat->Bool)(s:aJ)(h:J)(hs:s.length<=90000)(aX:zD h a p):∃t,Y (m+2) (.fn 140) [.str s,.ptr a 0] h=.ret (.str t) h/\t.all (λc=>p c.toNat)=s.all (λc=>p c.toNat)/\(t.all (λc=>p c.toNat)=true->t=[]):=by
 refine RU (m+1) s a h (R:=λx=>∃t,x=.ret (.str t) h/\t.all (λc=>p c.toNat)=s.all (λc=>p c.toNat)/\(t.all (λc=>p c.toNat)=true->t=[])) ?_
 refine bm.loop (by kernel_rfl) (λk st=>∃(t:aJ) (Γ:Env),st=⟨Γ,[],.none,h⟩/\cl [(0,.str t),(1,.ptr a 0)] Γ/\t.length=k/\t.all (λc=>p c.toNat)=s.all (λc=>p c.toNat)) ?_ s.length _ (by omega) ⟨s,_,rfl,⟨rfl,rfl,trivial⟩,rfl,rfl⟩
 rintro k st ⟨t,Γ,rfl,cG,aq,bh⟩
 refine bm.pre (RV (Y (m+1)) t a h ⟨λh0=>⟨_,IQ h0,_,_,IP m a _ p h (UInt8.toNat_lt _) aX,λag=>?_,λag=>?_⟩,λh0=>?_⟩) cG rfl rfl rfl
 · refine⟨t,_,rfl,rfl,⟨rfl,trivial⟩,t,rfl,bh,λaa=>?_⟩
   have:=List.all_eq_true.1 aa _ (List.getElem_mem h0)
   simp[this] at ag
 · have nE:p (t[0]'h0).toNat=true:=by simpa using ag
   refine⟨_,Pe wR (by omega),_,(by show _<k;simp;omega),_,_,rfl,⟨rfl,rfl,trivial⟩,rfl,?_⟩
   rw[<-bh]
   cases t with
   |nil=>simp at h0
   |cons c t=>simp at nE;simp[nE]
 · obtain rfl:t=[]:=List.eq_nil_of_length_eq_zero (by omega)
   exact⟨[],_,rfl,rfl,⟨rfl,trivial⟩,[],rfl,bh,λ_=>rfl⟩
theorem sO(s:aJ):bR s []=decide (s=[]):=by cases s<;>simp[bR]
theorem IS(m B:Nat)(p:Nat->Bool)(s o:aJ)(h:J)(bM:B<=h.n)(hs:s.length<=90000)(h0:s≠[])(a2:o.length≠1)(aG:o≠[])(hm:Y (m+2) (.fn 139) [.str o] h=.ret (.aK [.agg (iW p),.bool true]) h):
  ∃t ak,Y (m+3) (.fn 116) [.str s,.str o] h=.ret (.str t) ak/\bR t []=s.all (λc=>p c.toNat)/\Ext B h ak:=by
 have st:aw.storeCells (h.push (.cells (List.replicate 256 (.bool false)) 177 .own 0 0)) h.n 0 (iW p)=some ((h.push (.cells (List.replicate 256 (.bool false)) 177 .own 0 0)).set h.n (some (.cells (iW p) 177 .own 0 0))):=by
  refine ia (eZ rfl) (by rw[zC];rfl) ?_
  have:=tR (iW p) (List.replicate 256 (.bool false)) (by simp[iW,I.bC]) (by rw[zC];simp)
  rw[this,zC];simp
 obtain⟨g,aj⟩:∃g,g=(h.push (.cells (List.replicate 256 (.bool false)) 177 .own 0 0)).set h.n (some (.cells (iW p) 177 .own 0 0)):=⟨_,rfl⟩
 rw[<-aj] at st
 have j1:zD g h.n p:=by rw[aj];exact h_ rfl
 have eh:Ext B h g:=by rw[aj];exact(Ext.push bM _).gK bM
 obtain⟨t,c1,bq,cY,aC⟩:=R4 m h.n p s g hs j1
 obtain⟨u,c2,dr,ax⟩:=R5 m h.n p t g (by omega) j1
 refine RR (m+2) s o h (R:=λx=>∃t ak,x=.ret (.str t) ak/\bR t []=s.all (λc=>p c.toNat)/\Ext B h ak) ⟨by rw[sO];simp[h0],by rw[sO];simp[aG],a2,_,hm,_,⟨by rw[zC],st,rfl⟩,t,g,c1,u,g,c2,u,g,rfl,?_,eh⟩
 rw[sO,<-cY,<-dr]
 cases bh:u.all (λc=>p c.toNat) with
 |true=>simp[ax bh]
 |false=>
  cases u with
  |nil=>simp at bh
  |cons c u=>simp
theorem IT(m B:Nat)(p:Nat->Bool)(s o:aJ)(n:Nat)(h:J)(bM:B<=h.n)(XO:n<=90000)(a2:(o=[]/\p=og)\/(o=[45,47,46]/\p=qO)):bD B h (.bool (decide (1<=s.length)&&decide (s.length<=n)&&s.all (λc=>p c.toNat))) (Y (m+4) (.fn 104) [.str s,.str o,.int .i64 (Int.ofNat n)] h):=by
 refine RP (m+3) s o n h ⟨λaa=>⟨λad=>?_,λad=>?_⟩,λaa=>?_⟩
 · have h0:s≠[]:=by rw[sO] at aa;simpa using aa
   have a6:1<=s.length:=List.length_pos_iff.2 h0
   have key:∃t ak,Y (m+3) (.fn 116) [.str s,.str (m8++o)] h=.ret (.str t) ak/\bR t []=s.all (λc=>p c.toNat)/\Ext B h ak:=by
    rcases a2 with⟨rfl,rfl⟩|⟨rfl,rfl⟩
    · rw[List.append_nil]
      exact IS m B og s m8 h bM (by omega) h0 (by decide) (by decide) (R1 _ h)
    · exact IS m B qO s (m8++[45,47,46]) h bM (by omega) h0 (by decide) (by decide) (R2 _ h)
   obtain⟨t,ak,c,e,x⟩:=key
   exact⟨by rcases a2 with⟨rfl,_⟩|⟨rfl,_⟩<;>simp,t,ak,c,bD.of (dM (by rw[e];simp[a6,ad])) x⟩
 · exact bD.of (dM (by simp[ad])) (Ext.refl _ _)
 · have h0:s=[]:=by rw[sO] at aa;simpa using aa
   subst h0
   exact bD.of (dM (by simp)) (Ext.refl _ _)
end Go.Proofs.b0
