/-
  PROVED HERE: contracts of functions (Db). No condition beside each statement's own.
-/
import Derived.Test.YtfooahfebojldaaGreatDoorDa
set_option linter.unusedVariables false
set_option linter.unusedSimpArgs false
namespace Go.Proofs.cD
open Go aB Go.Proofs df
set_option maxRecDepth 100000
set_option maxHeartbeats 1000000
theorem Rl(call:aF->List I->J->ao)(n:Nat)(h:J)
  (H1:dv (.ofNat 97) (.ofNat n)=true)
  (aE:dv (.ofNat n) (.ofNat 122)=true):
  az Tryz.prog Tryz.f114 none call [] (ah.mk [(0,.int .u8 (.ofNat n))] [] .none h) (.ret)
   (ah.mk [(2,.bool true)] [] .none h):=
 bh [2] (hs:=[.b true,.b true,.b true,.b true,.b true,.b true,.b true,.b true,.b true,.b true,.b true]) (by kernel_rfl)<| .cons H1<| .cons H1<| .cons H1<| .cons aE<| .cons aE<| .cons aE<| .cons aE<| .cons aE<| .cons (by kernel_rfl:true=true)<| .cons (by kernel_rfl:true=true)<| .cons (by kernel_rfl:true=true)<| .nil
theorem Rm(call:aF->List I->J->ao)(n:Nat)(h:J)
  (H1:dv (.ofNat 97) (.ofNat n)=true)
  (aE:dv (.ofNat n) (.ofNat 122)=false)
  (a3:dv (.ofNat 65) (.ofNat n)=true)
  (aX:dv (.ofNat n) (.ofNat 90)=false):
  az Tryz.prog Tryz.f114 none call [] (ah.mk [(0,.int .u8 (.ofNat n))] [] .none h) (.ret)
   (ah.mk [(2,.bool (a0 (.ofNat n) (.ofNat 95)))] [] .none h):=
 bh [2] (hs:=[.b true,.b true,.b true,.b false,.b false,.b false,.b true,.b true,.b false,.b true,.b false,.b false,.b false,.b false]) (by kernel_rfl)<| .cons H1<| .cons H1<| .cons H1<| .cons aE<| .cons aE<| .cons aE<| .cons a3<| .cons a3<| .cons aE<| .cons a3<| .cons aE<| .cons aX<| .cons aX<| .cons aX<| .nil
theorem Rn(call:aF->List I->J->ao)(n:Nat)(h:J)
  (H1:dv (.ofNat 97) (.ofNat n)=false)
  (aE:dv (.ofNat 65) (.ofNat n)=true)
  (a3:dv (.ofNat n) (.ofNat 90)=true):
  az Tryz.prog Tryz.f114 none call [] (ah.mk [(0,.int .u8 (.ofNat n))] [] .none h) (.ret)
   (ah.mk [(2,.bool true)] [] .none h):=
 bh [2] (hs:=[.b false,.b false,.b false,.b false,.b false,.b false,.b true,.b true,.b false,.b true,.b false,.b true,.b true,.b true]) (by kernel_rfl)<| .cons H1<| .cons H1<| .cons H1<| .cons (by kernel_rfl:false=false)<| .cons (by kernel_rfl:false=false)<| .cons (by kernel_rfl:false=false)<| .cons aE<| .cons aE<| .cons (by kernel_rfl:false=false)<| .cons aE<| .cons (by kernel_rfl:false=false)<| .cons a3<| .cons a3<| .cons a3<| .nil
theorem Ro(call:aF->List I->J->ao)(n:Nat)(h:J)
  (H1:dv (.ofNat 97) (.ofNat n)=false)
  (aE:dv (.ofNat 65) (.ofNat n)=true)
  (a3:dv (.ofNat n) (.ofNat 90)=false):
  az Tryz.prog Tryz.f114 none call [] (ah.mk [(0,.int .u8 (.ofNat n))] [] .none h) (.ret)
   (ah.mk [(2,.bool (a0 (.ofNat n) (.ofNat 95)))] [] .none h):=
 bh [2] (hs:=[.b false,.b false,.b false,.b false,.b false,.b false,.b true,.b true,.b false,.b true,.b false,.b false,.b false,.b false]) (by kernel_rfl)<| .cons H1<| .cons H1<| .cons H1<| .cons (by kernel_rfl:false=false)<| .cons (by kernel_rfl:false=false)<| .cons (by kernel_rfl:false=false)<| .cons aE<| .cons aE<| .cons (by kernel_rfl:false=false)<| .cons aE<| .cons (by kernel_rfl:false=false)<| .cons a3<| .cons a3<| .cons a3<| .nil
theorem Rp(call:aF->List I->J->ao)(n:Nat)(h:J)
  (H1:dv (.ofNat 97) (.ofNat n)=false)
  (aE:dv (.ofNat 65) (.ofNat n)=false):
  az Tryz.prog Tryz.f114 none call [] (ah.mk [(0,.int .u8 (.ofNat n))] [] .none h) (.ret)
   (ah.mk [(2,.bool (a0 (.ofNat n) (.ofNat 95)))] [] .none h):=
 bh [2] (hs:=[.b false,.b false,.b false,.b false,.b false,.b false,.b false,.b false,.b false,.b false,.b false,.b false,.b false,.b false]) (by kernel_rfl)<| .cons H1<| .cons H1<| .cons H1<| .cons (by kernel_rfl:false=false)<| .cons (by kernel_rfl:false=false)<| .cons (by kernel_rfl:false=false)<| .cons aE<| .cons aE<| .cons (by kernel_rfl:false=false)<| .cons aE<| .cons (by kernel_rfl:false=false)<| .cons (by kernel_rfl:false=false)<| .cons (by kernel_rfl:false=false)<| .cons (by kernel_rfl:false=false)<| .nil
theorem Rq(call:aF->List I->J->ao)(s:List UInt8)(n:Nat)(b:Bool)(h g:J)
  (H1:bD (.ofNat (List.length s)) (.ofNat 1)=true):
  az Tryz.prog Tryz.f95 none call [1,0] (ah.mk [(0,.str s)] [] .none h) (.ret)
   (ah.mk [(0,.str s),(2,.bool false)] [] .none h):=
 bh [0,2] (hs:=[.b true,.b true,.b true,.b true,.b true,.b true,.b true,.b true,.b true,.b true]) (by kernel_rfl)<| .cons H1<| .cons H1<| .cons H1<| .cons H1<| .cons (by kernel_rfl:true=true)<| .cons (by kernel_rfl:true=true)<| .cons (by kernel_rfl:true=true)<| .cons (by kernel_rfl:true=true)<| .cons (by kernel_rfl:true=true)<| .cons (by kernel_rfl:true=true)<| .nil
theorem Rr(call:aF->List I->J->ao)(s:List UInt8)(n:Nat)(b:Bool)(h g:J)
  (H1:bD (.ofNat (List.length s)) (.ofNat 1)=false)
  (aE:bD (.ofNat 24) (.ofNat (List.length s))=true):
  az Tryz.prog Tryz.f95 none call [1,0] (ah.mk [(0,.str s)] [] .none h) (.ret)
   (ah.mk [(0,.str s),(2,.bool false)] [] .none h):=
 bh [0,2] (hs:=[.b false,.b false,.b false,.b false,.b true,.b true,.b true,.b true,.b true,.b true]) (by kernel_rfl)<| .cons H1<| .cons H1<| .cons H1<| .cons H1<| .cons aE<| .cons aE<| .cons aE<| .cons aE<| .cons aE<| .cons (by kernel_rfl:true=true)<| .nil
theorem Rs(call:aF->List I->J->ao)(s:List UInt8)(n:Nat)(b:Bool)(h g:J)
  (H1:bD (.ofNat (List.length s)) (.ofNat 1)=false)
  (aE:bD (.ofNat 24) (.ofNat (List.length s))=false)
  (a3:ga 0 s=some (.int .u8 (.ofNat n)))
  (aX:call (.fn 114) [.int .u8 (.ofNat n)] h=ao.ret (.bool b) g)
  (bA:(!b)=true):
  az Tryz.prog Tryz.f95 none call [1,0] (ah.mk [(0,.str s)] [] .none h) (.ret)
   (ah.mk [(0,.str s),(2,.bool false)] [] .none g):=
 bh [0,2] (hs:=[.b false,.b false,.b false,.b false,.b false,.b false,.v (.int .u8 (.ofNat n)),.b false,.c (.bool b) g,.b false,.b false,.b true]) (by kernel_rfl)<| .cons H1<| .cons H1<| .cons H1<| .cons H1<| .cons aE<| .cons aE<| .cons a3<| .cons aE<| .cons aX<| .cons aE<| .cons aE<| .cons bA<| .nil
theorem Rt(call:aF->List I->J->ao)(s:List UInt8)(n:Nat)(b:Bool)(h g:J)
  (H1:bD (.ofNat (List.length s)) (.ofNat 1)=false)
  (aE:bD (.ofNat 24) (.ofNat (List.length s))=false)
  (a3:ga 0 s=some (.int .u8 (.ofNat n)))
  (aX:call (.fn 114) [.int .u8 (.ofNat n)] h=ao.ret (.bool b) g)
  (bA:(!b)=false):
  az Tryz.prog Tryz.f95 none call [1,0] (ah.mk [(0,.str s)] [] .none h) (.nrm)
   (ah.mk [(0,.str s)] [] .none g):=
 bh [0,2] (hs:=[.b false,.b false,.b false,.b false,.b false,.b false,.v (.int .u8 (.ofNat n)),.b false,.c (.bool b) g,.b false,.b false,.b false]) (by kernel_rfl)<| .cons H1<| .cons H1<| .cons H1<| .cons H1<| .cons aE<| .cons aE<| .cons a3<| .cons aE<| .cons aX<| .cons aE<| .cons aE<| .cons bA<| .nil
theorem I2(call:aF->List I->J->ao)(s:List UInt8)(h:J):
  az Tryz.prog Tryz.f95 none call [1,1,0,0] (ah.mk [(0,.str s)] [] .none h) (.nrm)
   (ah.mk [(0,.str s),(3,.int .i64 (.ofNat 0))] [] .none h):=
 bh [0,3] (hs:=[]) (by kernel_rfl)<| .nil
theorem Ru(call:aF->List I->J->ao)(h:J):
  az Tryz.prog Tryz.f95 none call [1,1,1] (ah.mk [] [] .none h) (.ret)
   (ah.mk [(2,.bool true)] [] .none h):=
 bh [2] (hs:=[]) (by kernel_rfl)<| .nil
theorem Rv(call:aF->List I->J->ao)(s:List UInt8)(h:J)
  (H1:bD (.ofNat (List.length s)) (.ofNat 1)=true):
  az Tryz.prog Tryz.f113 none call [1,0] (ah.mk [(0,.str s)] [] .none h) (.ret)
   (ah.mk [(0,.str s),(2,.bool false)] [] .none h):=
 bh [0,2] (hs:=[.b true,.b true,.b true,.b true,.b true]) (by kernel_rfl)<| .cons H1<| .cons H1<| .cons H1<| .cons H1<| .cons (by kernel_rfl:true=true)<| .nil
theorem Rw(call:aF->List I->J->ao)(s:List UInt8)(h:J)
  (H1:bD (.ofNat (List.length s)) (.ofNat 1)=false)
  (aE:bD (.ofNat 161) (.ofNat (List.length s))=true):
  az Tryz.prog Tryz.f113 none call [1,0] (ah.mk [(0,.str s)] [] .none h) (.ret)
   (ah.mk [(0,.str s),(2,.bool false)] [] .none h):=
 bh [0,2] (hs:=[.b false,.b false,.b false,.b false,.b true]) (by kernel_rfl)<| .cons H1<| .cons H1<| .cons H1<| .cons H1<| .cons aE<| .nil
theorem Rx(call:aF->List I->J->ao)(s:List UInt8)(h:J)
  (H1:bD (.ofNat (List.length s)) (.ofNat 1)=false)
  (aE:bD (.ofNat 161) (.ofNat (List.length s))=false):
  az Tryz.prog Tryz.f113 none call [1,0] (ah.mk [(0,.str s)] [] .none h) (.nrm)
   (ah.mk [(0,.str s)] [] .none h):=
 bh [0,2] (hs:=[.b false,.b false,.b false,.b false,.b false]) (by kernel_rfl)<| .cons H1<| .cons H1<| .cons H1<| .cons H1<| .cons aE<| .nil
theorem I3(call:aF->List I->J->ao)(s:List UInt8)(h:J):
  az Tryz.prog Tryz.f113 none call [1,1,0,0] (ah.mk [(0,.str s)] [] .none h) (.nrm)
   (ah.mk [(0,.str s),(3,.int .i64 (.ofNat 0))] [] .none h):=
 bh [0,3] (hs:=[]) (by kernel_rfl)<| .nil
theorem Ry(call:aF->List I->J->ao)(s:List UInt8)(i n j:Nat)(b:Bool)(h g:J)
  (H1:bD (.ofNat i) (.ofNat (List.length s))=true)
  (aE:ga i s=some (.int .u8 (.ofNat n)))
  (a3:call (.fn 114) [.int .u8 (.ofNat n)] h=ao.ret (.bool b) g)
  (aX:(!b)=true)
  (bA:bD (.ofNat n) (.ofNat 48)=true)
  (b_:(!a0 (.ofNat n) (.ofNat 45))=true)
  (cQ:(!a0 (.ofNat n) (.ofNat 47))=true)
  (ep:(!a0 (.ofNat n) (.ofNat 46))=true):
  az Tryz.prog Tryz.f113 none call [1,1,0,1,0,0] (ah.mk [(0,.str s),(3,.int .i64 (.ofNat i))] [] .none h) (.ret)
   (ah.mk [(0,.str s),(2,.bool false),(3,.int .i64 (.ofNat i))] [] .none g):=
 bh [0,2,3] (hs:=[.b true,.v (.int .u8 (.ofNat n)),.c (.bool b) g,.b true,.b true,.b true,.b true,.b true,.b true,.b true,.b true,.b true,.b true,.b true,.b true,.b true,.b true,.b true,.b true,.b true,.b true]) (by kernel_rfl)<| .cons H1<| .cons aE<| .cons a3<| .cons aX<| .cons aX<| .cons aX<| .cons bA<| .cons bA<| .cons aX<| .cons bA<| .cons aX<| .cons (by kernel_rfl:true=true)<| .cons (by kernel_rfl:true=true)<| .cons (by kernel_rfl:true=true)<| .cons b_<| .cons b_<| .cons b_<| .cons cQ<| .cons cQ<| .cons cQ<| .cons ep<| .nil
theorem Rz(call:aF->List I->J->ao)(s:List UInt8)(i n j:Nat)(b:Bool)(h g:J)
  (H1:bD (.ofNat i) (.ofNat (List.length s))=true)
  (aE:ga i s=some (.int .u8 (.ofNat n)))
  (a3:call (.fn 114) [.int .u8 (.ofNat n)] h=ao.ret (.bool b) g)
  (aX:(!b)=true)
  (bA:bD (.ofNat n) (.ofNat 48)=true)
  (b_:(!a0 (.ofNat n) (.ofNat 45))=true)
  (cQ:(!a0 (.ofNat n) (.ofNat 47))=true)
  (ep:(!a0 (.ofNat n) (.ofNat 46))=false)
  (gQ:arith .add .i64 (.ofNat i) (.ofNat 1)=some (.int .i64 (.ofNat j))):
  az Tryz.prog Tryz.f113 none call [1,1,0,1,0,0] (ah.mk [(0,.str s),(3,.int .i64 (.ofNat i))] [] .none h) (.nrm)
   (ah.mk [(0,.str s),(3,.int .i64 (.ofNat j))] [] .none g):=
 bh [0,2,3] (hs:=[.b true,.v (.int .u8 (.ofNat n)),.c (.bool b) g,.b true,.b true,.b true,.b true,.b true,.b true,.b true,.b true,.b true,.b true,.b true,.b true,.b true,.b true,.b true,.b true,.b true,.b false,.v (.int .i64 (.ofNat j))]) (by kernel_rfl)<| .cons H1<| .cons aE<| .cons a3<| .cons aX<| .cons aX<| .cons aX<| .cons bA<| .cons bA<| .cons aX<| .cons bA<| .cons aX<| .cons (by kernel_rfl:true=true)<| .cons (by kernel_rfl:true=true)<| .cons (by kernel_rfl:true=true)<| .cons b_<| .cons b_<| .cons b_<| .cons cQ<| .cons cQ<| .cons cQ<| .cons ep<| .cons gQ<| .nil
theorem RA(call:aF->List I->J->ao)(s:List UInt8)(i n j:Nat)(b:Bool)(h g:J)
  (H1:bD (.ofNat i) (.ofNat (List.length s))=true)
  (aE:ga i s=some (.int .u8 (.ofNat n)))
  (a3:call (.fn 114) [.int .u8 (.ofNat n)] h=ao.ret (.bool b) g)
  (aX:(!b)=true)
  (bA:bD (.ofNat n) (.ofNat 48)=true)
  (b_:(!a0 (.ofNat n) (.ofNat 45))=true)
  (cQ:(!a0 (.ofNat n) (.ofNat 47))=false)
  (ep:arith .add .i64 (.ofNat i) (.ofNat 1)=some (.int .i64 (.ofNat j))):
  az Tryz.prog Tryz.f113 none call [1,1,0,1,0,0] (ah.mk [(0,.str s),(3,.int .i64 (.ofNat i))] [] .none h) (.nrm)
   (ah.mk [(0,.str s),(3,.int .i64 (.ofNat j))] [] .none g):=
 bh [0,2,3] (hs:=[.b true,.v (.int .u8 (.ofNat n)),.c (.bool b) g,.b true,.b true,.b true,.b true,.b true,.b true,.b true,.b true,.b true,.b true,.b true,.b true,.b true,.b true,.b false,.b false,.b false,.b false,.v (.int .i64 (.ofNat j))]) (by kernel_rfl)<| .cons H1<| .cons aE<| .cons a3<| .cons aX<| .cons aX<| .cons aX<| .cons bA<| .cons bA<| .cons aX<| .cons bA<| .cons aX<| .cons (by kernel_rfl:true=true)<| .cons (by kernel_rfl:true=true)<| .cons (by kernel_rfl:true=true)<| .cons b_<| .cons b_<| .cons b_<| .cons cQ<| .cons cQ<| .cons cQ<| .cons (by kernel_rfl:false=false)<| .cons ep<| .nil
theorem RB(call:aF->List I->J->ao)(s:List UInt8)(i n j:Nat)(b:Bool)(h g:J)
  (H1:bD (.ofNat i) (.ofNat (List.length s))=true)
  (aE:ga i s=some (.int .u8 (.ofNat n)))
  (a3:call (.fn 114) [.int .u8 (.ofNat n)] h=ao.ret (.bool b) g)
  (aX:(!b)=true)
  (bA:bD (.ofNat n) (.ofNat 48)=true)
  (b_:(!a0 (.ofNat n) (.ofNat 45))=false)
  (cQ:arith .add .i64 (.ofNat i) (.ofNat 1)=some (.int .i64 (.ofNat j))):
  az Tryz.prog Tryz.f113 none call [1,1,0,1,0,0] (ah.mk [(0,.str s),(3,.int .i64 (.ofNat i))] [] .none h) (.nrm)
   (ah.mk [(0,.str s),(3,.int .i64 (.ofNat j))] [] .none g):=
 bh [0,2,3] (hs:=[.b true,.v (.int .u8 (.ofNat n)),.c (.bool b) g,.b true,.b true,.b true,.b true,.b true,.b true,.b true,.b true,.b true,.b true,.b true,.b false,.b false,.b false,.b false,.b false,.b false,.b false,.v (.int .i64 (.ofNat j))]) (by kernel_rfl)<| .cons H1<| .cons aE<| .cons a3<| .cons aX<| .cons aX<| .cons aX<| .cons bA<| .cons bA<| .cons aX<| .cons bA<| .cons aX<| .cons (by kernel_rfl:true=true)<| .cons (by kernel_rfl:true=true)<| .cons (by kernel_rfl:true=true)<| .cons b_<| .cons b_<| .cons b_<| .cons (by kernel_rfl:false=false)<| .cons (by kernel_rfl:false=false)<| .cons (by kernel_rfl:false=false)<| .cons (by kernel_rfl:false=false)<| .cons cQ<| .nil
theorem RC(call:aF->List I->J->ao)(s:List UInt8)(i n j:Nat)(b:Bool)(h g:J)
  (H1:bD (.ofNat i) (.ofNat (List.length s))=true)
  (aE:ga i s=some (.int .u8 (.ofNat n)))
  (a3:call (.fn 114) [.int .u8 (.ofNat n)] h=ao.ret (.bool b) g)
  (aX:(!b)=true)
  (bA:bD (.ofNat n) (.ofNat 48)=false)
  (b_:bD (.ofNat 57) (.ofNat n)=true)
  (cQ:(!a0 (.ofNat n) (.ofNat 45))=true)
  (ep:(!a0 (.ofNat n) (.ofNat 47))=true)
  (gQ:(!a0 (.ofNat n) (.ofNat 46))=true):
  az Tryz.prog Tryz.f113 none call [1,1,0,1,0,0] (ah.mk [(0,.str s),(3,.int .i64 (.ofNat i))] [] .none h) (.ret)
   (ah.mk [(0,.str s),(2,.bool false),(3,.int .i64 (.ofNat i))] [] .none g):=
 bh [0,2,3] (hs:=[.b true,.v (.int .u8 (.ofNat n)),.c (.bool b) g,.b true,.b true,.b true,.b false,.b false,.b true,.b false,.b true,.b true,.b true,.b true,.b true,.b true,.b true,.b true,.b true,.b true,.b true]) (by kernel_rfl)<| .cons H1<| .cons aE<| .cons a3<| .cons aX<| .cons aX<| .cons aX<| .cons bA<| .cons bA<| .cons aX<| .cons bA<| .cons aX<| .cons b_<| .cons b_<| .cons b_<| .cons cQ<| .cons cQ<| .cons cQ<| .cons ep<| .cons ep<| .cons ep<| .cons gQ<| .nil
theorem RD(call:aF->List I->J->ao)(s:List UInt8)(i n j:Nat)(b:Bool)(h g:J)
  (H1:bD (.ofNat i) (.ofNat (List.length s))=true)
  (aE:ga i s=some (.int .u8 (.ofNat n)))
  (a3:call (.fn 114) [.int .u8 (.ofNat n)] h=ao.ret (.bool b) g)
  (aX:(!b)=true)
  (bA:bD (.ofNat n) (.ofNat 48)=false)
  (b_:bD (.ofNat 57) (.ofNat n)=false)
  (cQ:arith .add .i64 (.ofNat i) (.ofNat 1)=some (.int .i64 (.ofNat j))):
  az Tryz.prog Tryz.f113 none call [1,1,0,1,0,0] (ah.mk [(0,.str s),(3,.int .i64 (.ofNat i))] [] .none h) (.nrm)
   (ah.mk [(0,.str s),(3,.int .i64 (.ofNat j))] [] .none g):=
 bh [0,2,3] (hs:=[.b true,.v (.int .u8 (.ofNat n)),.c (.bool b) g,.b true,.b true,.b true,.b false,.b false,.b true,.b false,.b true,.b false,.b false,.b false,.b false,.b false,.b false,.b false,.b false,.b false,.b false,.v (.int .i64 (.ofNat j))]) (by kernel_rfl)<| .cons H1<| .cons aE<| .cons a3<| .cons aX<| .cons aX<| .cons aX<| .cons bA<| .cons bA<| .cons aX<| .cons bA<| .cons aX<| .cons b_<| .cons b_<| .cons b_<| .cons (by kernel_rfl:false=false)<| .cons (by kernel_rfl:false=false)<| .cons (by kernel_rfl:false=false)<| .cons (by kernel_rfl:false=false)<| .cons (by kernel_rfl:false=false)<| .cons (by kernel_rfl:false=false)<| .cons (by kernel_rfl:false=false)<| .cons cQ<| .nil
theorem RE(call:aF->List I->J->ao)(s:List UInt8)(i n j:Nat)(b:Bool)(h g:J)
  (H1:bD (.ofNat i) (.ofNat (List.length s))=true)
  (aE:ga i s=some (.int .u8 (.ofNat n)))
  (a3:call (.fn 114) [.int .u8 (.ofNat n)] h=ao.ret (.bool b) g)
  (aX:(!b)=false)
  (bA:arith .add .i64 (.ofNat i) (.ofNat 1)=some (.int .i64 (.ofNat j))):
  az Tryz.prog Tryz.f113 none call [1,1,0,1,0,0] (ah.mk [(0,.str s),(3,.int .i64 (.ofNat i))] [] .none h) (.nrm)
   (ah.mk [(0,.str s),(3,.int .i64 (.ofNat j))] [] .none g):=
 bh [0,2,3] (hs:=[.b true,.v (.int .u8 (.ofNat n)),.c (.bool b) g,.b false,.b false,.b false,.b false,.b false,.b false,.b false,.b false,.b false,.b false,.b false,.b false,.b false,.b false,.b false,.v (.int .i64 (.ofNat j))]) (by kernel_rfl)<| .cons H1<| .cons aE<| .cons a3<| .cons aX<| .cons aX<| .cons aX<| .cons aX<| .cons aX<| .cons (by kernel_rfl:false=false)<| .cons (by kernel_rfl:false=false)<| .cons (by kernel_rfl:false=false)<| .cons (by kernel_rfl:false=false)<| .cons (by kernel_rfl:false=false)<| .cons (by kernel_rfl:false=false)<| .cons (by kernel_rfl:false=false)<| .cons (by kernel_rfl:false=false)<| .cons (by kernel_rfl:false=false)<| .cons (by kernel_rfl:false=false)<| .cons bA<| .nil
theorem RF(call:aF->List I->J->ao)(s:List UInt8)(i n j:Nat)(b:Bool)(h g:J)
  (H1:bD (.ofNat i) (.ofNat (List.length s))=false):
  az Tryz.prog Tryz.f113 none call [1,1,0,1,0,0] (ah.mk [(0,.str s),(3,.int .i64 (.ofNat i))] [] .none h) (.exit 0)
   (ah.mk [(0,.str s),(3,.int .i64 (.ofNat i))] [] .none h):=
 bh [0,2,3] (hs:=[.b false]) (by kernel_rfl)<| .cons H1<| .nil
theorem RG(call:aF->List I->J->ao)(h:J):
  az Tryz.prog Tryz.f113 none call [1,1,1] (ah.mk [] [] .none h) (.ret)
   (ah.mk [(2,.bool true)] [] .none h):=
 bh [2] (hs:=[]) (by kernel_rfl)<| .nil
theorem RH(call:aF->List I->J->ao)(s:List UInt8)(i n j:Nat)(b:Bool)(h g:J)
  (H1:bD (.ofNat i) (.ofNat (List.length s))=true)
  (aE:ga i s=some (.int .u8 (.ofNat n)))
  (a3:call (.fn 114) [.int .u8 (.ofNat n)] h=ao.ret (.bool b) g)
  (aX:(!b)=true)
  (bA:bD (.ofNat n) (.ofNat 48)=true):
  az Tryz.prog Tryz.f95 none call [1,1,0,1,0,0] (ah.mk [(0,.str s),(3,.int .i64 (.ofNat i))] [] .none h) (.ret)
   (ah.mk [(0,.str s),(2,.bool false),(3,.int .i64 (.ofNat i))] [] .none g):=
 bh [0,2,3] (hs:=[.b true,.v (.int .u8 (.ofNat n)),.c (.bool b) g,.b true,.b true,.b true,.v (.int .u8 (.ofNat n)),.b true,.b true,.b true,.b true,.b true,.b true,.b true,.b true,.b true,.b true]) (by kernel_rfl)<| .cons H1<| .cons aE<| .cons a3<| .cons aX<| .cons aX<| .cons aX<| .cons aE<| .cons aX<| .cons aX<| .cons bA<| .cons bA<| .cons bA<| .cons bA<| .cons aX<| .cons bA<| .cons aX<| .cons (by kernel_rfl:true=true)<| .nil
theorem RI(call:aF->List I->J->ao)(s:List UInt8)(i n j:Nat)(b:Bool)(h g:J)
  (H1:bD (.ofNat i) (.ofNat (List.length s))=true)
  (aE:ga i s=some (.int .u8 (.ofNat n)))
  (a3:call (.fn 114) [.int .u8 (.ofNat n)] h=ao.ret (.bool b) g)
  (aX:(!b)=true)
  (bA:bD (.ofNat n) (.ofNat 48)=false)
  (b_:bD (.ofNat 57) (.ofNat n)=true):
  az Tryz.prog Tryz.f95 none call [1,1,0,1,0,0] (ah.mk [(0,.str s),(3,.int .i64 (.ofNat i))] [] .none h) (.ret)
   (ah.mk [(0,.str s),(2,.bool false),(3,.int .i64 (.ofNat i))] [] .none g):=
 bh [0,2,3] (hs:=[.b true,.v (.int .u8 (.ofNat n)),.c (.bool b) g,.b true,.b true,.b true,.v (.int .u8 (.ofNat n)),.b true,.b true,.b false,.b false,.b false,.v (.int .u8 (.ofNat n)),.b false,.b true,.b false,.b true,.b true]) (by kernel_rfl)<| .cons H1<| .cons aE<| .cons a3<| .cons aX<| .cons aX<| .cons aX<| .cons aE<| .cons aX<| .cons aX<| .cons bA<| .cons bA<| .cons bA<| .cons aE<| .cons bA<| .cons aX<| .cons bA<| .cons aX<| .cons b_<| .nil
theorem RJ(call:aF->List I->J->ao)(s:List UInt8)(i n j:Nat)(b:Bool)(h g:J)
  (H1:bD (.ofNat i) (.ofNat (List.length s))=true)
  (aE:ga i s=some (.int .u8 (.ofNat n)))
  (a3:call (.fn 114) [.int .u8 (.ofNat n)] h=ao.ret (.bool b) g)
  (aX:(!b)=true)
  (bA:bD (.ofNat n) (.ofNat 48)=false)
  (b_:bD (.ofNat 57) (.ofNat n)=false)
  (cQ:arith .add .i64 (.ofNat i) (.ofNat 1)=some (.int .i64 (.ofNat j))):
  az Tryz.prog Tryz.f95 none call [1,1,0,1,0,0] (ah.mk [(0,.str s),(3,.int .i64 (.ofNat i))] [] .none h) (.nrm)
   (ah.mk [(0,.str s),(3,.int .i64 (.ofNat j))] [] .none g):=
 bh [0,2,3] (hs:=[.b true,.v (.int .u8 (.ofNat n)),.c (.bool b) g,.b true,.b true,.b true,.v (.int .u8 (.ofNat n)),.b true,.b true,.b false,.b false,.b false,.v (.int .u8 (.ofNat n)),.b false,.b true,.b false,.b true,.b false,.v (.int .i64 (.ofNat j))]) (by kernel_rfl)<| .cons H1<| .cons aE<| .cons a3<| .cons aX<| .cons aX<| .cons aX<| .cons aE<| .cons aX<| .cons aX<| .cons bA<| .cons bA<| .cons bA<| .cons aE<| .cons bA<| .cons aX<| .cons bA<| .cons aX<| .cons b_<| .cons cQ<| .nil
theorem RK(call:aF->List I->J->ao)(s:List UInt8)(i n j:Nat)(b:Bool)(h g:J)
  (H1:bD (.ofNat i) (.ofNat (List.length s))=true)
  (aE:ga i s=some (.int .u8 (.ofNat n)))
  (a3:call (.fn 114) [.int .u8 (.ofNat n)] h=ao.ret (.bool b) g)
  (aX:(!b)=false)
  (bA:arith .add .i64 (.ofNat i) (.ofNat 1)=some (.int .i64 (.ofNat j))):
  az Tryz.prog Tryz.f95 none call [1,1,0,1,0,0] (ah.mk [(0,.str s),(3,.int .i64 (.ofNat i))] [] .none h) (.nrm)
   (ah.mk [(0,.str s),(3,.int .i64 (.ofNat j))] [] .none g):=
 bh [0,2,3] (hs:=[.b true,.v (.int .u8 (.ofNat n)),.c (.bool b) g,.b false,.b false,.b false,.b false,.b false,.b false,.b false,.b false,.v (.int .i64 (.ofNat j))]) (by kernel_rfl)<| .cons H1<| .cons aE<| .cons a3<| .cons aX<| .cons aX<| .cons aX<| .cons aX<| .cons aX<| .cons aX<| .cons aX<| .cons (by kernel_rfl:false=false)<| .cons bA<| .nil
theorem RL(call:aF->List I->J->ao)(s:List UInt8)(i n j:Nat)(b:Bool)(h g:J)
  (H1:bD (.ofNat i) (.ofNat (List.length s))=false):
  az Tryz.prog Tryz.f95 none call [1,1,0,1,0,0] (ah.mk [(0,.str s),(3,.int .i64 (.ofNat i))] [] .none h) (.exit 0)
   (ah.mk [(0,.str s),(3,.int .i64 (.ofNat i))] [] .none h):=
 bh [0,2,3] (hs:=[.b false]) (by kernel_rfl)<| .cons H1<| .nil
theorem I4(call:aF->List I->J->ao)(s t:List UInt8)(h:J):
  az Tryz.prog Tryz.f96 none call [0] (ah.mk [(0,.str s),(1,.str t)] [] .none h) (.nrm)
   (ah.mk [(0,.str s),(1,.str t)] [] .none h):=
 bh [0,1] (hs:=[]) (by kernel_rfl)<| .nil
theorem I5(call:aF->List I->J->ao)(s t:List UInt8)(h:J):
  az Tryz.prog Tryz.f96 none call [1,0,0] (ah.mk [(0,.str s),(1,.str t)] [] .none h) (.nrm)
   (ah.mk [(0,.str s),(1,.str t),(5,.int .i64 (.ofNat 0))] [] .none h):=
 bh [0,1,5] (hs:=[]) (by kernel_rfl)<| .nil
theorem RM(call:aF->List I->J->ao)(s t:List UInt8)(i n k j:Nat)(h:J)
  (H1:bD (.ofNat i) (.ofNat (List.length s))=true)
  (aE:bD (.ofNat i) (.ofNat (List.length t))=true)
  (a3:ga i s=some (.int .u8 (.ofNat n)))
  (aX:ga i t=some (.int .u8 (.ofNat k)))
  (bA:(!a0 (.ofNat n) (.ofNat k))=true):
  az Tryz.prog Tryz.f96 none call [1,0,1,0,0] (ah.mk [(0,.str s),(1,.str t),(5,.int .i64 (.ofNat i))] [] .none h) (.ret)
   (ah.mk [(0,.str s),(1,.str t),(4,.bool (bD (.ofNat n) (.ofNat k))),(5,.int .i64 (.ofNat i))] [] .none (J.room (J.room h 7) 8)):=
 bh [0,1,4,5] (hs:=[.b true,.b true,.b true,.b true,.b true,.b true,.v (.int .u8 (.ofNat n)),.v (.int .u8 (.ofNat k)),.b true,.v (.int .u8 (.ofNat n)),.v (.int .u8 (.ofNat k))]) (by kernel_rfl)<| .cons H1<| .cons H1<| .cons H1<| .cons H1<| .cons H1<| .cons aE<| .cons a3<| .cons aX<| .cons (by kernel_rfl:I.sound (I.str s)=true)<| .cons (by kernel_rfl:I.str s=I.str s)<| .cons (by kernel_rfl:I.sound (I.int IntKind.i64 (Int.ofNat i))=true)<| .cons (by kernel_rfl:I.int IntKind.i64 (Int.ofNat i)=I.int IntKind.i64 (Int.ofNat i))<| .cons (by kernel_rfl:I.sound (I.int IntKind.u8 (Int.ofNat n))=true)<| .cons a3<| .cons (by kernel_rfl:I.sound (I.str t)=true)<| .cons (by kernel_rfl:I.str t=I.str t)<| .cons (by kernel_rfl:I.sound (I.int IntKind.i64 (Int.ofNat i))=true)<| .cons (by kernel_rfl:I.int IntKind.i64 (Int.ofNat i)=I.int IntKind.i64 (Int.ofNat i))<| .cons (by kernel_rfl:I.sound (I.int IntKind.u8 (Int.ofNat k))=true)<| .cons aX<| .cons (by kernel_rfl:I.sound (I.bool !a0 (Int.ofNat n) (Int.ofNat k))=true)<| .cons (by kernel_rfl:(I.bool !a0 (Int.ofNat n) (Int.ofNat k))=I.bool !a0 (Int.ofNat n) (Int.ofNat k))<| .cons bA<| .cons a3<| .cons aX<| .cons (by kernel_rfl:I.sound (I.str s)=true)<| .cons (by kernel_rfl:I.str s=I.str s)<| .cons (by kernel_rfl:I.sound (I.int IntKind.i64 (Int.ofNat i))=true)<| .cons (by kernel_rfl:I.int IntKind.i64 (Int.ofNat i)=I.int IntKind.i64 (Int.ofNat i))<| .cons (by kernel_rfl:I.sound (I.int IntKind.u8 (Int.ofNat n))=true)<| .cons a3<| .cons (by kernel_rfl:I.sound (I.str t)=true)<| .cons (by kernel_rfl:I.str t=I.str t)<| .cons (by kernel_rfl:I.sound (I.int IntKind.i64 (Int.ofNat i))=true)<| .cons (by kernel_rfl:I.int IntKind.i64 (Int.ofNat i)=I.int IntKind.i64 (Int.ofNat i))<| .cons (by kernel_rfl:I.sound (I.int IntKind.u8 (Int.ofNat k))=true)<| .cons aX<| .cons (by kernel_rfl:I.sound (I.bool (bD (Int.ofNat n) (Int.ofNat k)))=true)<| .cons (by kernel_rfl:I.bool (bD (Int.ofNat n) (Int.ofNat k))=I.bool (bD (Int.ofNat n) (Int.ofNat k)))<| .cons (by kernel_rfl:I.sound (I.bool (bD (Int.ofNat n) (Int.ofNat k)))=true)<| .cons (by kernel_rfl:I.bool (bD (Int.ofNat n) (Int.ofNat k))=I.bool (bD (Int.ofNat n) (Int.ofNat k)))<| .nil
theorem RN(call:aF->List I->J->ao)(s t:List UInt8)(i n k j:Nat)(h:J)
  (H1:bD (.ofNat i) (.ofNat (List.length s))=true)
  (aE:bD (.ofNat i) (.ofNat (List.length t))=true)
  (a3:ga i s=some (.int .u8 (.ofNat n)))
  (aX:ga i t=some (.int .u8 (.ofNat k)))
  (bA:(!a0 (.ofNat n) (.ofNat k))=false)
  (b_:arith .add .i64 (.ofNat i) (.ofNat 1)=some (.int .i64 (.ofNat j))):
  az Tryz.prog Tryz.f96 none call [1,0,1,0,0] (ah.mk [(0,.str s),(1,.str t),(5,.int .i64 (.ofNat i))] [] .none h) (.nrm)
   (ah.mk [(0,.str s),(1,.str t),(5,.int .i64 (.ofNat j))] [] .none (J.room h 7)):=
 bh [0,1,4,5] (hs:=[.b true,.b true,.b true,.b true,.b true,.b true,.v (.int .u8 (.ofNat n)),.v (.int .u8 (.ofNat k)),.b false,.v (.int .i64 (.ofNat j))]) (by kernel_rfl)<| .cons H1<| .cons H1<| .cons H1<| .cons H1<| .cons H1<| .cons aE<| .cons a3<| .cons aX<| .cons (by kernel_rfl:I.sound (I.str s)=true)<| .cons (by kernel_rfl:I.str s=I.str s)<| .cons (by kernel_rfl:I.sound (I.int IntKind.i64 (Int.ofNat i))=true)<| .cons (by kernel_rfl:I.int IntKind.i64 (Int.ofNat i)=I.int IntKind.i64 (Int.ofNat i))<| .cons (by kernel_rfl:I.sound (I.int IntKind.u8 (Int.ofNat n))=true)<| .cons a3<| .cons (by kernel_rfl:I.sound (I.str t)=true)<| .cons (by kernel_rfl:I.str t=I.str t)<| .cons (by kernel_rfl:I.sound (I.int IntKind.i64 (Int.ofNat i))=true)<| .cons (by kernel_rfl:I.int IntKind.i64 (Int.ofNat i)=I.int IntKind.i64 (Int.ofNat i))<| .cons (by kernel_rfl:I.sound (I.int IntKind.u8 (Int.ofNat k))=true)<| .cons aX<| .cons (by kernel_rfl:I.sound (I.bool !a0 (Int.ofNat n) (Int.ofNat k))=true)<| .cons (by kernel_rfl:(I.bool !a0 (Int.ofNat n) (Int.ofNat k))=I.bool !a0 (Int.ofNat n) (Int.ofNat k))<| .cons bA<| .cons b_<| .nil
theorem RO(call:aF->List I->J->ao)(s t:List UInt8)(i n k j:Nat)(h:J)
  (H1:bD (.ofNat i) (.ofNat (List.length s))=true)
  (aE:bD (.ofNat i) (.ofNat (List.length t))=false):
  az Tryz.prog Tryz.f96 none call [1,0,1,0,0] (ah.mk [(0,.str s),(1,.str t),(5,.int .i64 (.ofNat i))] [] .none h) (.exit 0)
   (ah.mk [(0,.str s),(1,.str t),(5,.int .i64 (.ofNat i))] [] .none h):=
 bh [0,1,4,5] (hs:=[.b true,.b true,.b true,.b true,.b true,.b false]) (by kernel_rfl)<| .cons H1<| .cons H1<| .cons H1<| .cons H1<| .cons H1<| .cons aE<| .nil
theorem RP(call:aF->List I->J->ao)(s t:List UInt8)(i n k j:Nat)(h:J)
  (H1:bD (.ofNat i) (.ofNat (List.length s))=false):
  az Tryz.prog Tryz.f96 none call [1,0,1,0,0] (ah.mk [(0,.str s),(1,.str t),(5,.int .i64 (.ofNat i))] [] .none h) (.exit 0)
   (ah.mk [(0,.str s),(1,.str t),(5,.int .i64 (.ofNat i))] [] .none h):=
 bh [0,1,4,5] (hs:=[.b false,.b false,.b false,.b false,.b false,.b false]) (by kernel_rfl)<| .cons H1<| .cons H1<| .cons H1<| .cons H1<| .cons H1<| .cons (by kernel_rfl:false=false)<| .nil
theorem RQ(call:aF->List I->J->ao)(s t:List UInt8)(h:J):
  az Tryz.prog Tryz.f96 none call [1,1] (ah.mk [(0,.str s),(1,.str t)] [] .none h) (.ret)
   (ah.mk [(4,.bool (bD (.ofNat (List.length s)) (.ofNat (List.length t))))] [] .none h):=
 bh [4] (hs:=[]) (by kernel_rfl)<| .nil
theorem RR(call:aF->List I->J->ao)(s:List UInt8)(h:J):
  az Tryz.prog Tryz.f95 none call [0] (ah.mk [(0,.str s)] [] .none h) (.nrm)
   (ah.mk [(0,.str s)] [] .none h):=
 bh [0] (hs:=[]) (by kernel_rfl)<| .nil
theorem RS(call:aF->List I->J->ao)(s:List UInt8)(h:J):
  az Tryz.prog Tryz.f113 none call [0] (ah.mk [(0,.str s)] [] .none h) (.nrm)
   (ah.mk [(0,.str s)] [] .none h):=
 bh [0] (hs:=[]) (by kernel_rfl)<| .nil
theorem I6(a b:Nat):dv (Int.ofNat a) (Int.ofNat b)=decide (a<=b):=by
 by_cases h:a<=b
 · rw[iD h];simp[h]
 · rw[jA h];simp[h]
theorem I7(a b:Nat):bD (Int.ofNat a) (Int.ofNat b)=decide (a<b):=by
 by_cases h:a<b
 · rw[dx h];simp[h]
 · rw[eg h];simp[h]
theorem pD(a b:Nat):a0 (Int.ofNat a) (Int.ofNat b)=decide (a=b):=by
 by_cases h:a=b
 · rw[ss h];simp[h]
 · rw[kM h];simp[h]
theorem Dv(m n:Nat)(h:J):Y (m+1) (.fn 114) [.int .u8 (Int.ofNat n)] h=.ret (.bool (gP n)) h:=by
 have fin:∀b,az Tryz.prog Tryz.f114 none (Y m) [] ⟨[(0,.int .u8 (Int.ofNat n))],[],.none,h⟩ .ret ⟨[(2,.bool b)],[],.none,h⟩->b=gP n->Y (m+1) (.fn 114) [.int .u8 (Int.ofNat n)] h=.ret (.bool (gP n)) h:=λb ai af=>by
  rw[<-af]
  exact ed (intr:=bW) (n:=m) (args:=[.int .u8 (Int.ofNat n)]) Tryz.func114 (by kernel_rfl) rfl (by kernel_rfl) ai (.inl rfl) (by kernel_rfl)
 by_cases aa:97<=n
 · by_cases ad:n<=122
   · exact fin true (Rl (Y m) n h (iD aa) (iD ad)) (by simp[gP,aa,ad])
   · exact fin _ (Rm (Y m) n h (iD aa) (jA ad) (iD (by omega)) (jA (by omega))) (by rw[pD];simp[gP,ad];omega)
 · by_cases aw:65<=n
   · by_cases aQ:n<=90
     · exact fin true (Rn (Y m) n h (jA aa) (iD aw) (iD aQ)) (by simp[gP,aw,aQ])
     · exact fin _ (Ro (Y m) n h (jA aa) (iD aw) (jA aQ)) (by rw[pD];simp[gP,aa,aQ])
   · exact fin _ (Rp (Y m) n h (jA aa) (jA aw)) (by rw[pD];simp[gP,aa,aw])
theorem I8(m:Nat)(s:aO)(h:J)(hs:s.length<=90000):∀(k i:Nat),s.length-i=k->i<=s.length->
  ∃e Γ,ef Tryz.prog Tryz.f95 none (Y (m+1)) [1,1,0,1,0] (k+1) ⟨[(0,.str s),(3,.int .i64 (Int.ofNat i))],[],.none,h⟩ e ⟨Γ,[],.none,h⟩/\
   ((e=.exit 0/\Γ=[]/\(s.drop i).all (λc=>gP c.toNat||h6 c.toNat)=true)\/(e=.ret/\Γ=[(2,.bool false)]/\(s.drop i).all (λc=>gP c.toNat||h6 c.toNat)=false))
 |0,i,av,ae=>by
  obtain rfl:i=s.length:=by omega
  rw[List.drop_of_length_le (Nat.le_refl _)]
  exact⟨_,[],.exit (cC.post (RL (Y (m+1)) s s.length 0 0 false h h (eg (by omega))) trivial) (by simp),.inl ⟨rfl,rfl,rfl⟩⟩
 |k+1,i,av,ae=>by
  have aa:i<s.length:=by omega
  rw[List.drop_eq_getElem_cons aa,List.all_cons]
  have c1:=Dv m s[i].toNat h
  have step:(gP s[i].toNat||h6 s[i].toNat)=true->az Tryz.prog Tryz.f95 none (Y (m+1)) [1,1,0,1,0,0] ⟨[(0,.str s),(3,.int .i64 (Int.ofNat i))],[],.none,h⟩ .nrm ⟨[(0,.str s),(3,.int .i64 (Int.ofNat (i+1)))],[],.none,h⟩:=λaf=>by
   cases aq:gP s[i].toNat with
   |true=>
    rw[aq] at c1
    exact RK (Y (m+1)) s i _ (i+1) true h h (dx aa) (mW aa) c1 rfl (jz aa (by omega))
   |false=>
    rw[aq] at c1 af
    have aA:48<=s[i].toNat/\s[i].toNat<=57:=by simpa[h6] using af
    exact RJ (Y (m+1)) s i _ (i+1) false h h (dx aa) (mW aa) c1 rfl (eg (by omega)) (eg (by omega)) (jz aa (by omega))
  cases ag:(gP s[i].toNat||h6 s[i].toNat) with
  |true=>
   obtain⟨e,Γ,bl,bB⟩:=I8 m s h hs k (i+1) (by omega) (by omega)
   refine⟨e,Γ,.step (step ag) bl,?_⟩
   rw[Bool.true_and];exact bB
  |false=>
   obtain⟨aq,aA⟩:gP s[i].toNat=false/\h6 s[i].toNat=false:=by simpa using ag
   rw[aq] at c1
   refine⟨_,[(2,.bool false)],.exit (e:=.ret) ?_ (by simp),.inr ⟨rfl,rfl,by rw[Bool.false_and]⟩⟩
   by_cases I9:s[i].toNat<48
   · exact cC.post (RH (Y (m+1)) s i _ 0 false h h (dx aa) (mW aa) c1 rfl (dx I9)) ⟨rfl,trivial⟩
   · exact cC.post (RI (Y (m+1)) s i _ 0 false h h (dx aa) (mW aa) c1 rfl (eg I9) (dx (by simp[h6] at aA;omega))) ⟨rfl,trivial⟩
end Go.Proofs.cD
namespace Go.Proofs.cD
open Go aB Go.Proofs df
set_option maxRecDepth 100000
set_option maxHeartbeats 1000000
theorem RT(m:Nat)(s:aO)(h:J):Y (m+2) (.fn 95) [.str s] h=.ret (.bool (hG s)) h:=by
 have fin:∀b,az Tryz.prog Tryz.f95 none (Y (m+1)) [1] ⟨[(0,.str s)],[],.none,h⟩ .ret ⟨[(2,.bool b)],[],.none,h⟩->b=hG s->Y (m+2) (.fn 95) [.str s] h=.ret (.bool (hG s)) h:=λb ai af=>by
  rw[<-af]
  exact ed (intr:=bW) (n:=m+1) (args:=[.str s]) Tryz.func95 (by kernel_rfl) rfl (by kernel_rfl) (az.seq (p:=[]) (by kernel_rfl) (RR (Y (m+1)) s h) ai) (.inl rfl) (by kernel_rfl)
 by_cases aa:s.length<1
 · exact fin false (az.h4 (p:=[1]) (by kernel_rfl) (cC.post (Rq (Y (m+1)) s 0 false h h (dx aa)) ⟨rfl,trivial⟩) (by simp)) (by simp[hG];omega)
 by_cases ad:24<s.length
 · exact fin false (az.h4 (p:=[1]) (by kernel_rfl) (cC.post (Rr (Y (m+1)) s 0 false h h (eg aa) (dx ad)) ⟨rfl,trivial⟩) (by simp)) (by simp[hG];omega)
 have hs:s.length<=90000:=by omega
 have h0:0<s.length:=by omega
 have c1:=Dv m s[0].toNat h
 have aj:Dl s=gP s[0].toNat:=by
  cases s with
  |nil=>simp at h0
  |cons c s=>rfl
 cases aq:gP s[0].toNat with
 |false=>
  rw[aq] at c1
  exact fin false (az.h4 (p:=[1]) (by kernel_rfl) (cC.post (Rs (Y (m+1)) s _ false h h (eg aa) (eg ad) (mW h0) c1 rfl) ⟨rfl,trivial⟩) (by simp)) (by simp[hG,aj,aq])
 |true=>
  rw[aq] at c1
  have s1:=Rt (Y (m+1)) s _ true h h (eg aa) (eg ad) (mW h0) c1 rfl
  obtain⟨e,Γ,bl,bB⟩:=I8 m s h hs s.length 0 (by omega) (by omega)
  have de:=ef.run (p:=[1,1,0,1,0]) (by kernel_rfl) bl (by omega)
  rw[List.drop_zero] at bB
  have Dw:1<=s.length:=h0
  have Dx:s.length<=24:=by omega
  rcases bB with⟨rfl,rfl,hh⟩|⟨rfl,rfl,hh⟩
  · exact fin true (az.seq (p:=[1]) (by kernel_rfl) s1 (az.seq (p:=[1,1]) (by kernel_rfl) (az.seq (p:=[1,1,0]) (by kernel_rfl) (I2 (Y (m+1)) s h) (az.block (p:=[1,1,0,1]) (id:=0) (by kernel_rfl) de)) (Ru (Y (m+1)) h))) (by unfold hG;rw[hh,aj,aq];simp[Dw,Dx])
  · exact fin false (az.seq (p:=[1]) (by kernel_rfl) s1 (az.h4 (p:=[1,1]) (by kernel_rfl) (az.seq (p:=[1,1,0]) (by kernel_rfl) (I2 (Y (m+1)) s h) (az.qL (p:=[1,1,0,1]) (id:=0) (by kernel_rfl) de (by simp))) (by simp))) (by unfold hG;rw[hh];simp)
theorem RU(call:aF->List I->J->ao)(s:aO)(i n:Nat)(h:J)(aa:i<s.length)(hs:s.length<=90000)(ad:ga i s=some (.int .u8 (Int.ofNat n)))(c1:call (.fn 114) [.int .u8 (Int.ofNat n)] h=.ret (.bool (gP n)) h):
  if ja n then az Tryz.prog Tryz.f113 none call [1,1,0,1,0,0] ⟨[(0,.str s),(3,.int .i64 (Int.ofNat i))],[],.none,h⟩ .nrm ⟨[(0,.str s),(3,.int .i64 (Int.ofNat (i+1)))],[],.none,h⟩
  else az Tryz.prog Tryz.f113 none call [1,1,0,1,0,0] ⟨[(0,.str s),(3,.int .i64 (Int.ofNat i))],[],.none,h⟩ .ret ⟨[(2,.bool false)],[],.none,h⟩:=by
 have aG:=jz aa (m:=s.length) (by omega)
 have ae:=dx aa
 have ne:∀{a b:Nat},a≠b->(!a0 (Int.ofNat a) (Int.ofNat b))=true:=λe=>Du e
 have Dy:∀{a b:Nat},a=b->(!a0 (Int.ofNat a) (Int.ofNat b))=false:=λe=>zT e
 cases aq:gP n with
 |true=>
  rw[aq] at c1
  rw[if_pos (by simp[ja,aq])]
  exact RE call s i n (i+1) true h h ae ad c1 rfl aG
 |false=>
  rw[aq] at c1
  by_cases c9:n<48
  · by_cases gA:n=45
    · rw[if_pos (by simp[ja,gA])]
      exact RB call s i n (i+1) false h h ae ad c1 rfl (dx c9) (Dy gA) aG
    by_cases iZ:n=47
    · rw[if_pos (by simp[ja,iZ])]
      exact RA call s i n (i+1) false h h ae ad c1 rfl (dx c9) (ne gA) (Dy iZ) aG
    by_cases km:n=46
    · rw[if_pos (by simp[ja,km])]
      exact Rz call s i n (i+1) false h h ae ad c1 rfl (dx c9) (ne gA) (ne iZ) (Dy km) aG
    · rw[if_neg (by simp[ja,aq,h6,gA,iZ,km];omega)]
      exact cC.post (Ry call s i n 0 false h h ae ad c1 rfl (dx c9) (ne gA) (ne iZ) (ne km)) ⟨rfl,trivial⟩
  · by_cases dJ:57<n
    · rw[if_neg (by simp[ja,aq,h6];omega)]
      exact cC.post (RC call s i n 0 false h h ae ad c1 rfl (eg c9) (dx dJ) (ne (by omega)) (ne (by omega)) (ne (by omega))) ⟨rfl,trivial⟩
    · rw[if_pos (by simp[ja,h6];omega)]
      exact RD call s i n (i+1) false h h ae ad c1 rfl (eg c9) (eg dJ) aG
theorem I_(m:Nat)(s:aO)(h:J)(hs:s.length<=90000):∀(k i:Nat),s.length-i=k->i<=s.length->
  ∃e Γ,ef Tryz.prog Tryz.f113 none (Y (m+1)) [1,1,0,1,0] (k+1) ⟨[(0,.str s),(3,.int .i64 (Int.ofNat i))],[],.none,h⟩ e ⟨Γ,[],.none,h⟩/\
   ((e=.exit 0/\Γ=[]/\(s.drop i).all (λc=>ja c.toNat)=true)\/(e=.ret/\Γ=[(2,.bool false)]/\(s.drop i).all (λc=>ja c.toNat)=false))
 |0,i,av,ae=>by
  obtain rfl:i=s.length:=by omega
  rw[List.drop_of_length_le (Nat.le_refl _)]
  exact⟨_,[],.exit (cC.post (RF (Y (m+1)) s s.length 0 0 false h h (eg (by omega))) trivial) (by simp),.inl ⟨rfl,rfl,rfl⟩⟩
 |k+1,i,av,ae=>by
  have aa:i<s.length:=by omega
  rw[List.drop_eq_getElem_cons aa,List.all_cons]
  have st:=RU (Y (m+1)) s i s[i].toNat h aa hs (mW aa) (Dv m s[i].toNat h)
  cases ag:ja s[i].toNat with
  |true=>
   rw[if_pos ag] at st
   obtain⟨e,Γ,bl,bB⟩:=I_ m s h hs k (i+1) (by omega) (by omega)
   refine⟨e,Γ,.step st bl,?_⟩
   rw[Bool.true_and];exact bB
  |false=>
   rw[if_neg (by rw[ag];simp)] at st
   exact⟨_,_,.exit st (by simp),.inr ⟨rfl,rfl,by rw[Bool.false_and]⟩⟩
theorem RV(m:Nat)(s:aO)(h:J):Y (m+2) (.fn 113) [.str s] h=.ret (.bool (kS s)) h:=by
 have fin:∀b,az Tryz.prog Tryz.f113 none (Y (m+1)) [1] ⟨[(0,.str s)],[],.none,h⟩ .ret ⟨[(2,.bool b)],[],.none,h⟩->b=kS s->Y (m+2) (.fn 113) [.str s] h=.ret (.bool (kS s)) h:=λb ai af=>by
  rw[<-af]
  exact ed (intr:=bW) (n:=m+1) (args:=[.str s]) Tryz.func113 (by kernel_rfl) rfl (by kernel_rfl) (az.seq (p:=[]) (by kernel_rfl) (RS (Y (m+1)) s h) ai) (.inl rfl) (by kernel_rfl)
 by_cases aa:s.length<1
 · exact fin false (az.h4 (p:=[1]) (by kernel_rfl) (cC.post (Rv (Y (m+1)) s h (dx aa)) ⟨rfl,trivial⟩) (by simp)) (by simp[kS];omega)
 by_cases ad:161<s.length
 · exact fin false (az.h4 (p:=[1]) (by kernel_rfl) (cC.post (Rw (Y (m+1)) s h (eg aa) (dx ad)) ⟨rfl,trivial⟩) (by simp)) (by simp[kS];omega)
 have hs:s.length<=90000:=by omega
 have s1:=Rx (Y (m+1)) s h (eg aa) (eg ad)
 obtain⟨e,Γ,bl,bB⟩:=I_ m s h hs s.length 0 (by omega) (by omega)
 have de:=ef.run (p:=[1,1,0,1,0]) (by kernel_rfl) bl (by omega)
 rw[List.drop_zero] at bB
 have Dw:1<=s.length:=by omega
 have Dx:s.length<=161:=by omega
 rcases bB with⟨rfl,rfl,hh⟩|⟨rfl,rfl,hh⟩
 · exact fin true (az.seq (p:=[1]) (by kernel_rfl) s1 (az.seq (p:=[1,1]) (by kernel_rfl) (az.seq (p:=[1,1,0]) (by kernel_rfl) (I3 (Y (m+1)) s h) (az.block (p:=[1,1,0,1]) (id:=0) (by kernel_rfl) de)) (RG (Y (m+1)) h))) (by unfold kS;rw[hh];simp[Dw,Dx])
 · exact fin false (az.seq (p:=[1]) (by kernel_rfl) s1 (az.h4 (p:=[1,1]) (by kernel_rfl) (az.seq (p:=[1,1,0]) (by kernel_rfl) (I3 (Y (m+1)) s h) (az.qL (p:=[1,1,0,1]) (id:=0) (by kernel_rfl) de (by simp))) (by simp))) (by unfold kS;rw[hh];simp)
theorem Ja(call:aF->List I->J->ao)(s t:aO)(B:Nat)(h:J)(hs:s.length<=90000):∀(k i:Nat) (x:J),s.length-i=k->i<=s.length->i<=t.length->Ext B h x->
  ∃e Γ y,ef Tryz.prog Tryz.f96 none call [1,0,1,0] (k+1) ⟨[(0,.str s),(1,.str t),(5,.int .i64 (Int.ofNat i))],[],.none,x⟩ e ⟨Γ,[],.none,y⟩/\
   ((e=.exit 0/\Γ=[(0,.str s),(1,.str t)]/\dB (s.drop i) (t.drop i)=decide (s.length<t.length))\/(e=.ret/\Γ=[(4,.bool (dB (s.drop i) (t.drop i)))]))/\Ext B h y
 |0,i,x,av,ae,dV,ab=>by
  obtain rfl:i=s.length:=by omega
  refine⟨_,[(0,.str s),(1,.str t)],_,.exit (cC.post (RP call s t s.length 0 0 0 x (eg (by omega))) ⟨rfl,rfl,trivial⟩) (by simp),.inl ⟨rfl,rfl,?_⟩,ab⟩
  rw[List.drop_of_length_le (Nat.le_refl _)]
  cases aA:t.drop s.length with
  |nil=>
   have:t.length<=s.length:=List.drop_eq_nil_iff.1 aA
   rw[dB];simp;omega
  |cons c u=>
   have:s.length<t.length:=by
    have:=congrArg List.length aA
    simp at this;omega
   rw[dB];simp[this]
 |k+1,i,x,av,ae,dV,ab=>by
  have aa:i<s.length:=by omega
  by_cases ad:i<t.length
  · rw[List.drop_eq_getElem_cons aa,List.drop_eq_getElem_cons ad,zO]
    by_cases he:s[i].toNat=t[i].toNat
    · rw[if_pos he]
      obtain⟨e,Γ,y,bl,bB,de⟩:=Ja call s t B h hs k (i+1) (x.room 7) (by omega) (by omega) (by omega) ab.il
      exact⟨e,Γ,y,.step (RN call s t i _ _ (i+1) x (dx aa) (dx ad) (mW aa) (mW ad) (zT he) (jz aa (by omega))) bl,bB,de⟩
    · rw[if_neg he,<-I7]
      exact⟨_,[(4,.bool (bD (Int.ofNat s[i].toNat) (Int.ofNat t[i].toNat)))],_,.exit (cC.post (RM call s t i _ _ 0 x (dx aa) (dx ad) (mW aa) (mW ad) (Du he)) ⟨rfl,trivial⟩) (by simp),.inr ⟨rfl,rfl⟩,ab.il.il⟩
  · refine⟨_,[(0,.str s),(1,.str t)],_,.exit (cC.post (RO call s t i 0 0 0 x (dx aa) (eg ad)) ⟨rfl,rfl,trivial⟩) (by simp),.inl ⟨rfl,rfl,?_⟩,ab⟩
    rw[List.drop_of_length_le (l:=t) (by omega)]
    have:dB (s.drop i) []=false:=by
     cases s.drop i<;>rw[dB]
    rw[this];simp;omega
theorem Jb(m:Nat)(s t:aO)(B:Nat)(h:J)(hs:s.length<=90000):∃an,Y (m+1) (.fn 96) [.str s,.str t] h=.ret (.bool (dB s t)) an/\Ext B h an:=by
 obtain⟨e,Γ,y,bl,bB,de⟩:=Ja (Y m) s t B h hs s.length 0 h (by omega) (by omega) (by omega) (Ext.refl _ _)
 have jH:=ef.run (p:=[1,0,1,0]) (by kernel_rfl) bl (by omega)
 rw[List.drop_zero,List.drop_zero] at bB
 rcases bB with⟨rfl,rfl,hh⟩|⟨rfl,rfl⟩
 · rw[hh,<-I7]
   exact⟨y,ed (intr:=bW) (n:=m) (args:=[.str s,.str t]) Tryz.func96 (by kernel_rfl) rfl (by kernel_rfl) (az.seq (p:=[]) (by kernel_rfl) (I4 (Y m) s t h) (az.seq (p:=[1]) (by kernel_rfl) (az.seq (p:=[1,0]) (by kernel_rfl) (I5 (Y m) s t h) (az.block (p:=[1,0,1]) (id:=0) (by kernel_rfl) jH)) (RQ (Y m) s t y))) (.inl rfl) (by kernel_rfl),de⟩
 · exact⟨y,ed (intr:=bW) (n:=m) (args:=[.str s,.str t]) Tryz.func96 (by kernel_rfl) rfl (by kernel_rfl) (az.seq (p:=[]) (by kernel_rfl) (I4 (Y m) s t h) (az.h4 (p:=[1]) (by kernel_rfl) (az.seq (p:=[1,0]) (by kernel_rfl) (I5 (Y m) s t h) (az.qL (p:=[1,0,1]) (id:=0) (by kernel_rfl) jH (by simp))) (by simp))) (.inl rfl) (by kernel_rfl),de⟩
end Go.Proofs.cD
namespace Go.Proofs.cD
open Go aB Go.Proofs df
set_option maxRecDepth 100000
set_option maxHeartbeats 1000000
theorem RW(call:aF->List I->J->ao)(r:Nat)(h:J):
  az Tryz.prog Tryz.f98 none call [0] (ah.mk [(0,.ptr r 0)] [] .none h) (.nrm)
   (ah.mk [(0,.ptr r 0)] [] .none h):=
 bh [0] (hs:=[]) (by kernel_rfl)<| .nil
theorem RX(call:aF->List I->J->ao)(r:Nat)(h g:J)
  (H1:aB.storeCells (J.push h (.cells [.str [],.str [],.str [],.str [],.str []] 153 .own 0 0)) (J.n h) 0 [.str [97,110,121],.str [105,110,116],.str [98,111,111,108],.str [115,116,114],.str [110,105,108]]=some g):
  az Tryz.prog Tryz.f98 none call [1,0] (ah.mk [(0,.ptr r 0)] [] .none h) (.nrm)
   (ah.mk [(0,.ptr r 0),(3,.ptr (J.n h) 0)] [] .none g):=
 bh [0,3] (hs:=[.h3 (.aP []) g]) (by kernel_rfl)<| .cons (⟨by kernel_rfl,H1,rfl⟩:some 5=some 5/\aB.storeCells (J.push h (cp.cells [I.str [],I.str [],I.str [],I.str [],I.str []] 153 ey.own 0 0)) (J.n h) 0 [I.str [97,110,121],I.str [105,110,116],I.str [98,111,111,108],I.str [115,116,114],I.str [110,105,108]]=some g/\I.aP []=I.aP [])<| .nil
theorem RY(call:aF->List I->J->ao)(r a:Nat)(h:J):
  az Tryz.prog Tryz.f98 none call [1,1,0] (ah.mk [(0,.ptr r 0),(3,.ptr a 0)] [] .none h) (.nrm)
   (ah.mk [(0,.ptr r 0),(3,.ptr a 0),(4,.str [])] [] .none h):=
 bh [0,3,4] (hs:=[]) (by kernel_rfl)<| .nil
theorem RZ(call:aF->List I->J->ao)(r a k:Nat)(h:J)
  (H1:au h r (0+0)=some (.int .i64 (.ofNat k))):
  az Tryz.prog Tryz.f98 none call [1,1,1,0,0] (ah.mk [(0,.ptr r 0),(3,.ptr a 0),(4,.str [])] [] .none h) (.nrm)
   (ah.mk [(0,.ptr r 0),(3,.ptr a 0),(4,.str []),(12,.int .i64 (.ofNat k))] [] .none h):=
 bh [0,3,4,12] (hs:=[.v (.int .i64 (.ofNat k))]) (by kernel_rfl)<| .cons H1<| .nil
theorem R0(call:aF->List I->J->ao)(r a:Nat)(s:List UInt8)(h:J)
  (H1:au h r (0+1)=some (.str s)):
  az Tryz.prog Tryz.f98 none call [1,1,1,0,1] (ah.mk [(0,.ptr r 0),(3,.ptr a 0),(4,.str []),(12,.int .i64 (.ofNat 6))] [] .none h) (.ret)
   (ah.mk [(2,.str s)] [] .none h):=
 bh [2] (hs:=[.b true,.v (.str s)]) (by kernel_rfl)<| .cons (by kernel_rfl:a0 (Int.ofNat 6) (Int.ofNat 6)=true)<| .cons H1<| .nil
theorem R1(call:aF->List I->J->ao)(r a:Nat)(s s1 s2:List UInt8)(h g:J)
  (H1:az Tryz.prog Tryz.f98 none call [1,1,1,0,1,0,1,1,1,0,0,1,0] (ah.mk [(5,.int .i64 (.ofNat 0)),(19,.bool (a0 (.ofNat 7) (.ofNat 7))),(13,.bool (a0 (.ofNat 7) (.ofNat 6))),(0,.ptr r 0),(3,.ptr a 0),(4,.str []),(12,.int .i64 (.ofNat 7))] [] .none h) (.exit 1) (ah.mk [(0,.ptr r 0),(4,.str s)] [] .none g))
  (aE:eA .add [123] s=some (.str s1))
  (a3:eA .add s1 [125]=some (.str s2)):
  az Tryz.prog Tryz.f98 none call [1,1,1,0,1] (ah.mk [(0,.ptr r 0),(3,.ptr a 0),(4,.str []),(12,.int .i64 (.ofNat 7))] [] .none h) (.ret)
   (ah.mk [(2,.str s2)] [] .none g):=
 bh [2] (hs:=[Hint.b false,Hint.b true,Hint.loop (bw.exit 1) (ah.mk [(0,I.ptr r 0),(4,I.str s)] [] bE.none g),Hint.v (I.str s1),Hint.v (I.str s2)]) (by kernel_rfl)<| .cons (by kernel_rfl:a0 (Int.ofNat 7) (Int.ofNat 6)=false)<| .cons (by kernel_rfl:a0 (Int.ofNat 7) (Int.ofNat 7)=true)<| .cons H1<| .cons aE<| .cons a3<| .nil
theorem R2(call:aF->List I->J->ao)(r a:Nat)(s s1 s2 bq bL:List UInt8)(v:I)(h g ar:J)
  (H1:az Tryz.prog Tryz.f98 none call [1,1,1,0,1,0,1,1,1,1,1,0,0,1,0] (ah.mk [(6,.int .i64 (.ofNat 0)),(56,.bool (a0 (.ofNat 8) (.ofNat 8))),(19,.bool (a0 (.ofNat 8) (.ofNat 7))),(13,.bool (a0 (.ofNat 8) (.ofNat 6))),(0,.ptr r 0),(3,.ptr a 0),(4,.str []),(12,.int .i64 (.ofNat 8))] [] .none h) (.exit 3) (ah.mk [(0,.ptr r 0),(4,.str s)] [] .none g))
  (aE:eA .add [102,110,40] s=some (.str s1))
  (a3:eA .add s1 [41,32,45,62,32]=some (.str s2))
  (aX:au g r (0+4)=some v)
  (bA:call (.fn 98) [v] g=ao.ret (.str bq) ar)
  (b_:eA .add s2 bq=some (.str bL)):
  az Tryz.prog Tryz.f98 none call [1,1,1,0,1] (ah.mk [(0,.ptr r 0),(3,.ptr a 0),(4,.str []),(12,.int .i64 (.ofNat 8))] [] .none h) (.ret)
   (ah.mk [(2,.str bL)] [] .none ar):=
 bh [2] (hs:=[Hint.b false,Hint.b false,Hint.b true,Hint.loop (bw.exit 3) (ah.mk [(0,I.ptr r 0),(4,I.str s)] [] bE.none g),Hint.v (I.str s1),Hint.v (I.str s2),Hint.v v,Hint.c (I.str bq) ar,Hint.v (I.str bL)]) (by kernel_rfl)<| .cons (by kernel_rfl:a0 (Int.ofNat 8) (Int.ofNat 6)=false)<| .cons (by kernel_rfl:a0 (Int.ofNat 8) (Int.ofNat 7)=false)<| .cons (by kernel_rfl:a0 (Int.ofNat 8) (Int.ofNat 8)=true)<| .cons H1<| .cons aE<| .cons a3<| .cons aX<| .cons bA<| .cons b_<| .nil
theorem R3(call:aF->List I->J->ao)(r a:Nat)(s:List UInt8)(h g:J)
  (H1:az Tryz.prog Tryz.f98 none call [1,1,1,0,1,0,1,1,1,1,1,1,1,0,0,1,0] (ah.mk [(7,.int .i64 (.ofNat 0)),(90,.bool (a0 (.ofNat 9) (.ofNat 9))),(56,.bool (a0 (.ofNat 9) (.ofNat 8))),(19,.bool (a0 (.ofNat 9) (.ofNat 7))),(13,.bool (a0 (.ofNat 9) (.ofNat 6))),(0,.ptr r 0),(3,.ptr a 0),(4,.str []),(12,.int .i64 (.ofNat 9))] [] .none h) (.exit 5) (ah.mk [(0,.ptr r 0),(4,.str s)] [] .none g)):
  az Tryz.prog Tryz.f98 none call [1,1,1,0,1] (ah.mk [(0,.ptr r 0),(3,.ptr a 0),(4,.str []),(12,.int .i64 (.ofNat 9))] [] .none h) (.ret)
   (ah.mk [(2,.str s)] [] .none g):=
 bh [2] (hs:=[Hint.b false,Hint.b false,Hint.b false,Hint.b true,Hint.loop (bw.exit 5) (ah.mk [(0,I.ptr r 0),(4,I.str s)] [] bE.none g)]) (by kernel_rfl)<| .cons (by kernel_rfl:a0 (Int.ofNat 9) (Int.ofNat 6)=false)<| .cons (by kernel_rfl:a0 (Int.ofNat 9) (Int.ofNat 7)=false)<| .cons (by kernel_rfl:a0 (Int.ofNat 9) (Int.ofNat 8)=false)<| .cons (by kernel_rfl:a0 (Int.ofNat 9) (Int.ofNat 9)=true)<| .cons H1<| .nil
theorem R4(call:aF->List I->J->ao)(r a k:Nat)(h:J)
  (H1:a0 (.ofNat k) (.ofNat 6)=false)
  (aE:a0 (.ofNat k) (.ofNat 7)=false)
  (a3:a0 (.ofNat k) (.ofNat 8)=false)
  (aX:a0 (.ofNat k) (.ofNat 9)=false):
  az Tryz.prog Tryz.f98 none call [1,1,1,0,1] (ah.mk [(0,.ptr r 0),(3,.ptr a 0),(4,.str []),(12,.int .i64 (.ofNat k))] [] .none h) (.nrm)
   (ah.mk [(0,.ptr r 0),(3,.ptr a 0)] [] .none h):=
 bh [0,3] (hs:=[.b false,.b false,.b false,.b false]) (by kernel_rfl)<| .cons H1<| .cons aE<| .cons a3<| .cons aX<| .nil
theorem R5(call:aF->List I->J->ao)(r a k j q:Nat)(s:List UInt8)(h:J)
  (H1:au h r (0+0)=some (.int .i64 (.ofNat k)))
  (aE:arith .sub .i64 (.ofNat k) (.ofNat 1)=some (.int .i64 (.ofNat j)))
  (a3:Nat.le (Nat.succ j) 5/\I.ptr a q=I.ptr a (0+j*1))
  (aX:au h a q=some (.str s)):
  az Tryz.prog Tryz.f98 none call [1,1,1,1] (ah.mk [(0,.ptr r 0),(3,.ptr a 0)] [] .none h) (.ret)
   (ah.mk [(2,.str s)] [] .none h):=
 bh [2] (hs:=[.v (.int .i64 (.ofNat k)),.v (.int .i64 (.ofNat j)),.v (.ptr a q),.v (.str s)]) (by kernel_rfl)<| .cons H1<| .cons aE<| .cons a3<| .cons aX<| .nil
theorem R6(call:aF->List I->J->ao)(r i N:Nat)(s:List UInt8)(v:I)(h:J)
  (H1:au h r (0+3)=some v)
  (aE:bO Tryz.prog h 49 v=some (.int .i64 (.ofNat N)))
  (a3:bD (.ofNat i) (.ofNat N)=false):
  az Tryz.prog Tryz.f98 none call [1,1,1,0,1,0,1,1,1,0,0,1,0,0] (ah.mk [(0,.ptr r 0),(4,.str s),(5,.int .i64 (.ofNat i))] [] .none h) (.exit 1)
   (ah.mk [(0,.ptr r 0),(4,.str s)] [] .none h):=
 bh [0,4] (hs:=[.v v,.o (.int .i64 (.ofNat N)),.b false]) (by kernel_rfl)<| .cons H1<| .cons aE<| .cons a3<| .nil
theorem R7(call:aF->List I->J->ao)(r i N:Nat)(s:List UInt8)(v:I)(h:J)
  (H1:au h r (0+3)=some v)
  (aE:bO Tryz.prog h 49 v=some (.int .i64 (.ofNat N)))
  (a3:bD (.ofNat i) (.ofNat N)=false):
  az Tryz.prog Tryz.f98 none call [1,1,1,0,1,0,1,1,1,1,1,0,0,1,0,0] (ah.mk [(0,.ptr r 0),(4,.str s),(6,.int .i64 (.ofNat i))] [] .none h) (.exit 3)
   (ah.mk [(0,.ptr r 0),(4,.str s)] [] .none h):=
 bh [0,4] (hs:=[.v v,.o (.int .i64 (.ofNat N)),.b false]) (by kernel_rfl)<| .cons H1<| .cons aE<| .cons a3<| .nil
theorem R8(call:aF->List I->J->ao)(r i N:Nat)(s:List UInt8)(v:I)(h:J)
  (H1:au h r (0+3)=some v)
  (aE:bO Tryz.prog h 49 v=some (.int .i64 (.ofNat N)))
  (a3:bD (.ofNat i) (.ofNat N)=false):
  az Tryz.prog Tryz.f98 none call [1,1,1,0,1,0,1,1,1,1,1,1,1,0,0,1,0,0] (ah.mk [(0,.ptr r 0),(4,.str s),(7,.int .i64 (.ofNat i))] [] .none h) (.exit 5)
   (ah.mk [(0,.ptr r 0),(4,.str s)] [] .none h):=
 bh [0,4] (hs:=[.v v,.o (.int .i64 (.ofNat N)),.b false]) (by kernel_rfl)<| .cons H1<| .cons aE<| .cons a3<| .nil
theorem R9(call:aF->List I->J->ao)(r b off N bt dL M i q aY j:Nat)(s s1 s2 bq bL cB n w:List UInt8)(x:I)(aH d_:ch)(h g:J)
  (H1:au h r (0+3)=some (.slice bt dL M d_))
  (aE:bD (.ofNat i) (.ofNat M)=true)
  (a3:bD (.ofNat 0) (.ofNat i)=true)
  (aX:eA .add s [44,32]=some (.str s1))
  (bA:au (J.room h 20) r (0+2)=some (.slice b off N aH))
  (b_:Nat.le (Nat.succ i) N/\I.ptr b q=I.ptr b (off+i*1))
  (cQ:au (J.room h 20) b q=some (.str n))
  (ep:eA .add s1 n=some (.str s2))
  (gQ:eA .add s2 [58,32]=some (.str bq))
  (jc:au (J.room h 20) r (0+3)=some (.slice bt dL M d_))
  (mc:Nat.le (Nat.succ i) M/\I.ptr bt aY=I.ptr bt (dL+i*1))
  (oI:au (J.room h 20) bt aY=some x)
  (q5:call (.fn 98) [x] (J.room h 20)=ao.ret (.str w) g)
  (uJ:eA .add bq w=some (.str bL))
  (w6:au g r (0+2)=some (.slice b off N aH))
  (w7:au g b q=some (.str n))
  (Dz:I.sound x=true:=by first|with_reducible assumption|rfl|exact c7.snd (by with_reducible assumption)|exact c7.fU (by with_reducible assumption)|exact dE.snd (by with_reducible assumption)|exact dE.fU (by with_reducible assumption)|exact cW.snd (by with_reducible assumption)|exact cW.fU (by with_reducible assumption))
  (R_:arith .add .i64 (.ofNat i) (.ofNat 1)=some (.int .i64 (.ofNat j))):
  az Tryz.prog Tryz.f98 none call [1,1,1,0,1,0,1,1,1,0,0,1,0,0] (ah.mk [(0,.ptr r 0),(4,.str s),(5,.int .i64 (.ofNat i))] [] .none h) (.nrm)
   (ah.mk [(0,.ptr r 0),(4,.str bL),(5,.int .i64 (.ofNat j))] [] .none g):=
 bh [0,4,5] (hs:=[.v (.slice bt dL M d_),.b true,.b true,.v (.str s1),.v (.slice b off N aH),.v (.ptr b q),.v (.str n),.v (.str s2),.v (.str bq),.v (.slice bt dL M d_),.v (.ptr bt aY),.v x,.c (.str w) g,.v (.str bL),.v (.int .i64 (.ofNat j))]) (by kernel_rfl)<| .cons H1<| .cons aE<| .cons a3<| .cons aX<| .cons bA<| .cons b_<| .cons cQ<| .cons ep<| .cons gQ<| .cons jc<| .cons mc<| .cons oI<| .cons q5<| .cons uJ<| .cons (by kernel_rfl:I.sound (I.str s1)=true)<| .cons (by kernel_rfl:I.str s1=I.str s1)<| .cons (by kernel_rfl:I.sound (I.str s1)=true)<| .cons (by kernel_rfl:I.str s1=I.str s1)<| .cons (by kernel_rfl:I.sound (I.ptr r 0)=true)<| .cons (by kernel_rfl:I.ptr r 0=I.ptr r 0)<| .cons (by kernel_rfl:I.sound (I.ptr r 0)=true)<| .cons (by kernel_rfl:I.ptr r 0=I.ptr r 0)<| .cons (by kernel_rfl:I.sound (I.ptr r 0)=true)<| .cons (by kernel_rfl:I.ptr r 0=I.ptr r 0)<| .cons (by kernel_rfl:I.sound (I.ptr r 0)=true)<| .cons (by kernel_rfl:I.ptr r 0=I.ptr r 0)<| .cons (by kernel_rfl:I.sound (I.ptr r (0+2))=true)<| .cons (by kernel_rfl:I.ptr r (0+2)=I.ptr r (0+2))<| .cons (by kernel_rfl:I.sound (I.ptr r (0+2))=true)<| .cons (by kernel_rfl:I.ptr r (0+2)=I.ptr r (0+2))<| .cons (by kernel_rfl:I.sound (I.slice b off N aH)=true)<| .cons w6<| .cons (by kernel_rfl:I.sound (I.slice b off N aH)=true)<| .cons bA<| .cons (by kernel_rfl:I.sound (I.int IntKind.i64 (Int.ofNat i))=true)<| .cons (by kernel_rfl:I.int IntKind.i64 (Int.ofNat i)=I.int IntKind.i64 (Int.ofNat i))<| .cons (by kernel_rfl:I.sound (I.int IntKind.i64 (Int.ofNat i))=true)<| .cons (by kernel_rfl:I.int IntKind.i64 (Int.ofNat i)=I.int IntKind.i64 (Int.ofNat i))<| .cons (by kernel_rfl:I.sound (I.ptr b q)=true)<| .cons b_<| .cons (by kernel_rfl:I.sound (I.ptr b q)=true)<| .cons b_<| .cons (by kernel_rfl:I.sound (I.str n)=true)<| .cons w7<| .cons (by kernel_rfl:I.sound (I.str n)=true)<| .cons cQ<| .cons (by kernel_rfl:I.sound (I.str s2)=true)<| .cons ep<| .cons (by kernel_rfl:I.sound (I.str s2)=true)<| .cons ep<| .cons (by kernel_rfl:I.sound (I.str bq)=true)<| .cons gQ<| .cons (by kernel_rfl:I.sound (I.str bq)=true)<| .cons gQ<| .cons (by kernel_rfl:I.sound (I.ptr r 0)=true)<| .cons (by kernel_rfl:I.ptr r 0=I.ptr r 0)<| .cons (by kernel_rfl:I.sound (I.ptr r 0)=true)<| .cons (by kernel_rfl:I.ptr r 0=I.ptr r 0)<| .cons (by kernel_rfl:I.sound (I.ptr r (0+3))=true)<| .cons (by kernel_rfl:I.ptr r (0+3)=I.ptr r (0+3))<| .cons (by kernel_rfl:I.sound (I.slice bt dL M d_)=true)<| .cons jc<| .cons (by kernel_rfl:I.sound (I.int IntKind.i64 (Int.ofNat i))=true)<| .cons (by kernel_rfl:I.int IntKind.i64 (Int.ofNat i)=I.int IntKind.i64 (Int.ofNat i))<| .cons (by kernel_rfl:I.sound (I.ptr bt aY)=true)<| .cons mc<| .cons Dz<| .cons oI<| .cons (by kernel_rfl:I.sound (I.str bL)=true)<| .cons uJ<| .cons (by kernel_rfl:I.sound (I.str bL)=true)<| .cons (by kernel_rfl:I.str bL=I.str bL)<| .cons R_<| .nil
theorem Sa(call:aF->List I->J->ao)(r b off N bt dL M i q aY j:Nat)(s s1 s2 bq bL cB n w:List UInt8)(x:I)(aH d_:ch)(h g:J)
  (H1:au h r (0+3)=some (.slice bt dL M d_))
  (aE:bD (.ofNat i) (.ofNat M)=true)
  (a3:bD (.ofNat 0) (.ofNat i)=false)
  (aX:au (J.room h 20) r (0+2)=some (.slice b off N aH))
  (bA:Nat.le (Nat.succ i) N/\I.ptr b q=I.ptr b (off+i*1))
  (b_:au (J.room h 20) b q=some (.str n))
  (cQ:eA .add s n=some (.str s2))
  (ep:eA .add s2 [58,32]=some (.str bq))
  (gQ:au (J.room h 20) r (0+3)=some (.slice bt dL M d_))
  (jc:Nat.le (Nat.succ i) M/\I.ptr bt aY=I.ptr bt (dL+i*1))
  (mc:au (J.room h 20) bt aY=some x)
  (oI:call (.fn 98) [x] (J.room h 20)=ao.ret (.str w) g)
  (q5:eA .add bq w=some (.str bL))
  (uJ:au g r (0+2)=some (.slice b off N aH))
  (w6:au g b q=some (.str n))
  (w7:I.sound x=true:=by first|with_reducible assumption|rfl|exact c7.snd (by with_reducible assumption)|exact c7.fU (by with_reducible assumption)|exact dE.snd (by with_reducible assumption)|exact dE.fU (by with_reducible assumption)|exact cW.snd (by with_reducible assumption)|exact cW.fU (by with_reducible assumption))
  (Dz:arith .add .i64 (.ofNat i) (.ofNat 1)=some (.int .i64 (.ofNat j))):
  az Tryz.prog Tryz.f98 none call [1,1,1,0,1,0,1,1,1,0,0,1,0,0] (ah.mk [(0,.ptr r 0),(4,.str s),(5,.int .i64 (.ofNat i))] [] .none h) (.nrm)
   (ah.mk [(0,.ptr r 0),(4,.str bL),(5,.int .i64 (.ofNat j))] [] .none g):=
 bh [0,4,5] (hs:=[.v (.slice bt dL M d_),.b true,.b false,.v (.slice b off N aH),.v (.ptr b q),.v (.str n),.v (.str s2),.v (.str bq),.v (.slice bt dL M d_),.v (.ptr bt aY),.v x,.c (.str w) g,.v (.str bL),.v (.int .i64 (.ofNat j))]) (by kernel_rfl)<| .cons H1<| .cons aE<| .cons a3<| .cons aX<| .cons bA<| .cons b_<| .cons cQ<| .cons ep<| .cons gQ<| .cons jc<| .cons mc<| .cons oI<| .cons q5<| .cons (by kernel_rfl:I.sound (I.str s)=true)<| .cons (by kernel_rfl:I.str s=I.str s)<| .cons (by kernel_rfl:I.sound (I.str s)=true)<| .cons (by kernel_rfl:I.str s=I.str s)<| .cons (by kernel_rfl:I.sound (I.ptr r 0)=true)<| .cons (by kernel_rfl:I.ptr r 0=I.ptr r 0)<| .cons (by kernel_rfl:I.sound (I.ptr r 0)=true)<| .cons (by kernel_rfl:I.ptr r 0=I.ptr r 0)<| .cons (by kernel_rfl:I.sound (I.ptr r 0)=true)<| .cons (by kernel_rfl:I.ptr r 0=I.ptr r 0)<| .cons (by kernel_rfl:I.sound (I.ptr r 0)=true)<| .cons (by kernel_rfl:I.ptr r 0=I.ptr r 0)<| .cons (by kernel_rfl:I.sound (I.ptr r (0+2))=true)<| .cons (by kernel_rfl:I.ptr r (0+2)=I.ptr r (0+2))<| .cons (by kernel_rfl:I.sound (I.ptr r (0+2))=true)<| .cons (by kernel_rfl:I.ptr r (0+2)=I.ptr r (0+2))<| .cons (by kernel_rfl:I.sound (I.slice b off N aH)=true)<| .cons uJ<| .cons (by kernel_rfl:I.sound (I.slice b off N aH)=true)<| .cons aX<| .cons (by kernel_rfl:I.sound (I.int IntKind.i64 (Int.ofNat i))=true)<| .cons (by kernel_rfl:I.int IntKind.i64 (Int.ofNat i)=I.int IntKind.i64 (Int.ofNat i))<| .cons (by kernel_rfl:I.sound (I.int IntKind.i64 (Int.ofNat i))=true)<| .cons (by kernel_rfl:I.int IntKind.i64 (Int.ofNat i)=I.int IntKind.i64 (Int.ofNat i))<| .cons (by kernel_rfl:I.sound (I.ptr b q)=true)<| .cons bA<| .cons (by kernel_rfl:I.sound (I.ptr b q)=true)<| .cons bA<| .cons (by kernel_rfl:I.sound (I.str n)=true)<| .cons w6<| .cons (by kernel_rfl:I.sound (I.str n)=true)<| .cons b_<| .cons (by kernel_rfl:I.sound (I.str s2)=true)<| .cons cQ<| .cons (by kernel_rfl:I.sound (I.str s2)=true)<| .cons cQ<| .cons (by kernel_rfl:I.sound (I.str bq)=true)<| .cons ep<| .cons (by kernel_rfl:I.sound (I.str bq)=true)<| .cons ep<| .cons (by kernel_rfl:I.sound (I.ptr r 0)=true)<| .cons (by kernel_rfl:I.ptr r 0=I.ptr r 0)<| .cons (by kernel_rfl:I.sound (I.ptr r 0)=true)<| .cons (by kernel_rfl:I.ptr r 0=I.ptr r 0)<| .cons (by kernel_rfl:I.sound (I.ptr r (0+3))=true)<| .cons (by kernel_rfl:I.ptr r (0+3)=I.ptr r (0+3))<| .cons (by kernel_rfl:I.sound (I.slice bt dL M d_)=true)<| .cons gQ<| .cons (by kernel_rfl:I.sound (I.int IntKind.i64 (Int.ofNat i))=true)<| .cons (by kernel_rfl:I.int IntKind.i64 (Int.ofNat i)=I.int IntKind.i64 (Int.ofNat i))<| .cons (by kernel_rfl:I.sound (I.ptr bt aY)=true)<| .cons jc<| .cons w7<| .cons mc<| .cons (by kernel_rfl:I.sound (I.str bL)=true)<| .cons q5<| .cons (by kernel_rfl:I.sound (I.str bL)=true)<| .cons (by kernel_rfl:I.str bL=I.str bL)<| .cons Dz<| .nil
theorem Sb(call:aF->List I->J->ao)(r b off N bt dL M i q aY j:Nat)(s s1 s2 bq bL cB n w:List UInt8)(x:I)(aH d_:ch)(h g:J)
  (H1:au h r (0+3)=some (.slice bt dL M d_))
  (aE:bD (.ofNat i) (.ofNat M)=true)
  (a3:bD (.ofNat 0) (.ofNat i)=true)
  (aX:eA .add s [44,32]=some (.str s1))
  (bA:Nat.le (Nat.succ i) M/\I.ptr bt aY=I.ptr bt (dL+i*1))
  (b_:au h bt aY=some x)
  (cQ:call (.fn 98) [x] h=ao.ret (.str w) g)
  (ep:eA .add s1 w=some (.str s2))
  (gQ:arith .add .i64 (.ofNat i) (.ofNat 1)=some (.int .i64 (.ofNat j))):
  az Tryz.prog Tryz.f98 none call [1,1,1,0,1,0,1,1,1,1,1,0,0,1,0,0] (ah.mk [(0,.ptr r 0),(4,.str s),(6,.int .i64 (.ofNat i))] [] .none h) (.nrm)
   (ah.mk [(0,.ptr r 0),(4,.str s2),(6,.int .i64 (.ofNat j))] [] .none g):=
 bh [0,4,6] (hs:=[.v (.slice bt dL M d_),.b true,.b true,.v (.str s1),.v (.slice bt dL M d_),.v (.ptr bt aY),.v x,.c (.str w) g,.v (.str s2),.v (.int .i64 (.ofNat j))]) (by kernel_rfl)<| .cons H1<| .cons aE<| .cons a3<| .cons aX<| .cons H1<| .cons bA<| .cons b_<| .cons cQ<| .cons ep<| .cons gQ<| .nil
theorem Sc(call:aF->List I->J->ao)(r b off N bt dL M i q aY j:Nat)(s s1 s2 bq bL cB n w:List UInt8)(x:I)(aH d_:ch)(h g:J)
  (H1:au h r (0+3)=some (.slice bt dL M d_))
  (aE:bD (.ofNat i) (.ofNat M)=true)
  (a3:bD (.ofNat 0) (.ofNat i)=false)
  (aX:Nat.le (Nat.succ i) M/\I.ptr bt aY=I.ptr bt (dL+i*1))
  (bA:au h bt aY=some x)
  (b_:call (.fn 98) [x] h=ao.ret (.str w) g)
  (cQ:eA .add s w=some (.str s2))
  (ep:arith .add .i64 (.ofNat i) (.ofNat 1)=some (.int .i64 (.ofNat j))):
  az Tryz.prog Tryz.f98 none call [1,1,1,0,1,0,1,1,1,1,1,0,0,1,0,0] (ah.mk [(0,.ptr r 0),(4,.str s),(6,.int .i64 (.ofNat i))] [] .none h) (.nrm)
   (ah.mk [(0,.ptr r 0),(4,.str s2),(6,.int .i64 (.ofNat j))] [] .none g):=
 bh [0,4,6] (hs:=[.v (.slice bt dL M d_),.b true,.b false,.v (.slice bt dL M d_),.v (.ptr bt aY),.v x,.c (.str w) g,.v (.str s2),.v (.int .i64 (.ofNat j))]) (by kernel_rfl)<| .cons H1<| .cons aE<| .cons a3<| .cons H1<| .cons aX<| .cons bA<| .cons b_<| .cons cQ<| .cons ep<| .nil
theorem Sd(call:aF->List I->J->ao)(r b off N bt dL M i q aY j m k:Nat)(s s1 s2 bq bL cB n w:List UInt8)(x:I)(aH d_:ch)(h g:J)
  (H1:au h r (0+3)=some (.slice bt dL M d_))
  (aE:bD (.ofNat i) (.ofNat M)=true)
  (a3:bD (.ofNat 0) (.ofNat i)=true)
  (aX:eA .add s [32,124,32]=some (.str s1))
  (bA:Nat.le (Nat.succ i) M/\I.ptr bt aY=I.ptr bt (dL+i*1))
  (b_:au h bt aY=some (.ptr m 0))
  (cQ:au h m (0+0)=some (.int .i64 (.ofNat k)))
  (ep:a0 (.ofNat k) (.ofNat 8)=true)
  (gQ:eA .add s1 [40]=some (.str s2))
  (jc:call (.fn 98) [.ptr m 0] h=ao.ret (.str w) g)
  (mc:eA .add s2 w=some (.str bq))
  (oI:eA .add bq [41]=some (.str bL))
  (q5:arith .add .i64 (.ofNat i) (.ofNat 1)=some (.int .i64 (.ofNat j))):
  az Tryz.prog Tryz.f98 none call [1,1,1,0,1,0,1,1,1,1,1,1,1,0,0,1,0,0] (ah.mk [(0,.ptr r 0),(4,.str s),(7,.int .i64 (.ofNat i))] [] .none h) (.nrm)
   (ah.mk [(0,.ptr r 0),(4,.str bL),(7,.int .i64 (.ofNat j))] [] .none g):=
 bh [0,4,7] (hs:=[.v (.slice bt dL M d_),.b true,.b true,.v (.str s1),.v (.slice bt dL M d_),.v (.ptr bt aY),.v (.ptr m 0),.v (.int .i64 (.ofNat k)),.b true,.v (.str s2),.v (.slice bt dL M d_),.v (.ptr bt aY),.v (.ptr m 0),.c (.str w) g,.v (.str bq),.v (.str bL),.v (.int .i64 (.ofNat j))]) (by kernel_rfl)<| .cons H1<| .cons aE<| .cons a3<| .cons aX<| .cons H1<| .cons bA<| .cons b_<| .cons cQ<| .cons ep<| .cons gQ<| .cons H1<| .cons bA<| .cons b_<| .cons jc<| .cons mc<| .cons oI<| .cons q5<| .nil
theorem Se(call:aF->List I->J->ao)(r b off N bt dL M i q aY j m k:Nat)(s s1 s2 bq bL cB n w:List UInt8)(x:I)(aH d_:ch)(h g:J)
  (H1:au h r (0+3)=some (.slice bt dL M d_))
  (aE:bD (.ofNat i) (.ofNat M)=true)
  (a3:bD (.ofNat 0) (.ofNat i)=true)
  (aX:eA .add s [32,124,32]=some (.str s1))
  (bA:Nat.le (Nat.succ i) M/\I.ptr bt aY=I.ptr bt (dL+i*1))
  (b_:au h bt aY=some (.ptr m 0))
  (cQ:au h m (0+0)=some (.int .i64 (.ofNat k)))
  (ep:a0 (.ofNat k) (.ofNat 8)=false)
  (gQ:call (.fn 98) [.ptr m 0] h=ao.ret (.str w) g)
  (jc:eA .add s1 w=some (.str s2))
  (mc:arith .add .i64 (.ofNat i) (.ofNat 1)=some (.int .i64 (.ofNat j))):
  az Tryz.prog Tryz.f98 none call [1,1,1,0,1,0,1,1,1,1,1,1,1,0,0,1,0,0] (ah.mk [(0,.ptr r 0),(4,.str s),(7,.int .i64 (.ofNat i))] [] .none h) (.nrm)
   (ah.mk [(0,.ptr r 0),(4,.str s2),(7,.int .i64 (.ofNat j))] [] .none g):=
 bh [0,4,7] (hs:=[.v (.slice bt dL M d_),.b true,.b true,.v (.str s1),.v (.slice bt dL M d_),.v (.ptr bt aY),.v (.ptr m 0),.v (.int .i64 (.ofNat k)),.b false,.v (.slice bt dL M d_),.v (.ptr bt aY),.v (.ptr m 0),.c (.str w) g,.v (.str s2),.v (.int .i64 (.ofNat j))]) (by kernel_rfl)<| .cons H1<| .cons aE<| .cons a3<| .cons aX<| .cons H1<| .cons bA<| .cons b_<| .cons cQ<| .cons ep<| .cons H1<| .cons bA<| .cons b_<| .cons gQ<| .cons jc<| .cons mc<| .nil
theorem Sf(call:aF->List I->J->ao)(r b off N bt dL M i q aY j m k:Nat)(s s1 s2 bq bL cB n w:List UInt8)(x:I)(aH d_:ch)(h g:J)
  (H1:au h r (0+3)=some (.slice bt dL M d_))
  (aE:bD (.ofNat i) (.ofNat M)=true)
  (a3:bD (.ofNat 0) (.ofNat i)=false)
  (aX:Nat.le (Nat.succ i) M/\I.ptr bt aY=I.ptr bt (dL+i*1))
  (bA:au h bt aY=some (.ptr m 0))
  (b_:au h m (0+0)=some (.int .i64 (.ofNat k)))
  (cQ:a0 (.ofNat k) (.ofNat 8)=true)
  (ep:eA .add s [40]=some (.str s2))
  (gQ:call (.fn 98) [.ptr m 0] h=ao.ret (.str w) g)
  (jc:eA .add s2 w=some (.str bq))
  (mc:eA .add bq [41]=some (.str bL))
  (oI:arith .add .i64 (.ofNat i) (.ofNat 1)=some (.int .i64 (.ofNat j))):
  az Tryz.prog Tryz.f98 none call [1,1,1,0,1,0,1,1,1,1,1,1,1,0,0,1,0,0] (ah.mk [(0,.ptr r 0),(4,.str s),(7,.int .i64 (.ofNat i))] [] .none h) (.nrm)
   (ah.mk [(0,.ptr r 0),(4,.str bL),(7,.int .i64 (.ofNat j))] [] .none g):=
 bh [0,4,7] (hs:=[.v (.slice bt dL M d_),.b true,.b false,.v (.slice bt dL M d_),.v (.ptr bt aY),.v (.ptr m 0),.v (.int .i64 (.ofNat k)),.b true,.v (.str s2),.v (.slice bt dL M d_),.v (.ptr bt aY),.v (.ptr m 0),.c (.str w) g,.v (.str bq),.v (.str bL),.v (.int .i64 (.ofNat j))]) (by kernel_rfl)<| .cons H1<| .cons aE<| .cons a3<| .cons H1<| .cons aX<| .cons bA<| .cons b_<| .cons cQ<| .cons ep<| .cons H1<| .cons aX<| .cons bA<| .cons gQ<| .cons jc<| .cons mc<| .cons oI<| .nil
theorem Sg(call:aF->List I->J->ao)(r b off N bt dL M i q aY j m k:Nat)(s s1 s2 bq bL cB n w:List UInt8)(x:I)(aH d_:ch)(h g:J)
  (H1:au h r (0+3)=some (.slice bt dL M d_))
  (aE:bD (.ofNat i) (.ofNat M)=true)
  (a3:bD (.ofNat 0) (.ofNat i)=false)
  (aX:Nat.le (Nat.succ i) M/\I.ptr bt aY=I.ptr bt (dL+i*1))
  (bA:au h bt aY=some (.ptr m 0))
  (b_:au h m (0+0)=some (.int .i64 (.ofNat k)))
  (cQ:a0 (.ofNat k) (.ofNat 8)=false)
  (ep:call (.fn 98) [.ptr m 0] h=ao.ret (.str w) g)
  (gQ:eA .add s w=some (.str s2))
  (jc:arith .add .i64 (.ofNat i) (.ofNat 1)=some (.int .i64 (.ofNat j))):
  az Tryz.prog Tryz.f98 none call [1,1,1,0,1,0,1,1,1,1,1,1,1,0,0,1,0,0] (ah.mk [(0,.ptr r 0),(4,.str s),(7,.int .i64 (.ofNat i))] [] .none h) (.nrm)
   (ah.mk [(0,.ptr r 0),(4,.str s2),(7,.int .i64 (.ofNat j))] [] .none g):=
 bh [0,4,7] (hs:=[.v (.slice bt dL M d_),.b true,.b false,.v (.slice bt dL M d_),.v (.ptr bt aY),.v (.ptr m 0),.v (.int .i64 (.ofNat k)),.b false,.v (.slice bt dL M d_),.v (.ptr bt aY),.v (.ptr m 0),.c (.str w) g,.v (.str s2),.v (.int .i64 (.ofNat j))]) (by kernel_rfl)<| .cons H1<| .cons aE<| .cons a3<| .cons H1<| .cons aX<| .cons bA<| .cons b_<| .cons cQ<| .cons H1<| .cons aX<| .cons bA<| .cons ep<| .cons gQ<| .cons jc<| .nil
theorem zU{fn:Func}{call:aF->List I->J->ao}{p:List Nat}{e:bw}{reg R B N:Nat}{h:J}{sep:aO}{items:List aO}(gn:items.length=N)(he:e≠ .nrm)
  (step:∀i (ae:i<items.length) x,Ext B h x->∃y,az Tryz.prog fn none call (p++[0]) ⟨[(0,.ptr R 0),(4,.str (dZ sep (items.take i))),(reg,.int .i64 (Int.ofNat i))],[],.none,x⟩ .nrm ⟨[(0,.ptr R 0),(4,.str (dZ sep (items.take (i+1)))),(reg,.int .i64 (Int.ofNat (i+1)))],[],.none,y⟩/\Ext B h y)
  (exit:∀x s,Ext B h x->az Tryz.prog fn none call (p++[0]) ⟨[(0,.ptr R 0),(4,.str s),(reg,.int .i64 (Int.ofNat N))],[],.none,x⟩ e ⟨[(0,.ptr R 0),(4,.str s)],[],.none,x⟩):
  ∀(k i:Nat) (x:J),N-i=k->i<=N->Ext B h x->∃y,ef Tryz.prog fn none call p (k+1) ⟨[(0,.ptr R 0),(4,.str (dZ sep (items.take i))),(reg,.int .i64 (Int.ofNat i))],[],.none,x⟩ e ⟨[(0,.ptr R 0),(4,.str (dZ sep items))],[],.none,y⟩/\Ext B h y
 |0,i,x,av,ae,ab=>by
  obtain rfl:i=N:=by omega
  rw[List.take_of_length_le (by omega)]
  exact⟨x,.exit (exit x _ ab) he,ab⟩
 |k+1,i,x,av,ae,ab=>by
  obtain⟨y,s1,s2⟩:=step i (by omega) x ab
  obtain⟨z,bl,bB⟩:=zU gn he step exit k (i+1) y (by omega) (by omega) s2
  exact⟨z,.step s1 bl,bB⟩
abbrev w8(m B:Nat)(h:J)(vs:List I)(ws:List aO):Prop:=∀i (aa:i<vs.length) (ad:i<ws.length) x,Ext B h x->∃an,Y m (.fn 98) [vs[i]] x=.ret (.str ws[i]) an/\Ext B x an
theorem Sh{m B R i:Nat}{h x:J}{iR hb c5 bZ cG:I}{bV:ey}{bk up:Nat}{vs:List I}{ws:List aO}(gl:R<B)(ak:h.get R=some (.cells [iR,hb,c5,bZ,cG] 51 bV bk up))(aC:c7 B h bZ vs)(aq:ws.length=vs.length)(hlen:vs.length<=90000)(af:(dZ [44,32] ws).length<=1000000)(bd:w8 m B h vs ws)(ae:i<ws.length)(ab:Ext B h x):
  ∃y,az Tryz.prog Tryz.f98 none (Y m) [1,1,1,0,1,0,1,1,1,1,1,0,0,1,0,0] ⟨[(0,.ptr R 0),(4,.str (dZ [44,32] (ws.take i))),(6,.int .i64 (Int.ofNat i))],[],.none,x⟩ .nrm ⟨[(0,.ptr R 0),(4,.str (dZ [44,32] (ws.take (i+1)))),(6,.int .i64 (Int.ofNat (i+1)))],[],.none,y⟩/\Ext B h y:=by
 have aa:i<vs.length:=by omega
 have eI:=(ab.get R gl).trans ak
 rcases aC with⟨_,rfl⟩|⟨b,off,aH,rfl,hr,hT,lA⟩
 · simp at aa
 have ax:au x b (off+i*1)=some vs[i]:=(m3 ab hr).trans (hT i aa)
 obtain⟨g,c1,c2⟩:=bd i aa ae x ab
 have t1:=w1 [44,32] ws i
 have t2:=sX [44,32] ws ae
 refine⟨g,?_,ab.trans (Nat.le_refl _) c2⟩
 rw[w0 [44,32] ws ae]
 by_cases h0:0<i
 · rw[if_pos h0]
   exact Sb (Y m) R 0 0 0 b off vs.length i 0 (off+i*1) (i+1) _ _ _ [] [] [] [] ws[i] vs[i] (.exact 0) aH x g (aL eI rfl) (dx aa) (dx h0) (fa (by simp;omega)) ⟨aa,rfl⟩ ax c1 (fa (by simp;omega)) (jz aa (by omega))
 · rw[if_neg h0]
   obtain rfl:i=0:=by omega
   exact Sc (Y m) R 0 0 0 b off vs.length 0 0 (off+0*1) 1 _ [] _ [] [] [] [] ws[0] vs[0] (.exact 0) aH x g (aL eI rfl) (dx aa) (eg (by omega)) ⟨aa,rfl⟩ ax c1 (fa (x:=[]) (by simp;omega)) (jz aa (by omega))
end Go.Proofs.cD
namespace Go.Proofs.cD
open Go aB Go.Proofs df
set_option maxRecDepth 100000
set_option maxHeartbeats 1000000
theorem Si{m B R i:Nat}{h x:J}{iR hb c5 bZ cG:I}{bV:ey}{bk up:Nat}{aJ:List aO}{vs:List I}{ws:List aO}(gl:R<B)(ak:h.get R=some (.cells [iR,hb,c5,bZ,cG] 51 bV bk up))(aI:c7 B h c5 (aJ.map .str))(aC:c7 B h bZ vs)(s3:aJ.length=vs.length)(aq:ws.length=vs.length)(hlen:vs.length<=90000)(af:(dZ [44,32] (gq aJ ws)).length<=1000000)(eK:∀i (aa:i<vs.length),I.sound vs[i]=true)(bd:w8 m B h vs ws)(ae:i<(gq aJ ws).length)(ab:Ext B h x):
  ∃y,az Tryz.prog Tryz.f98 none (Y m) [1,1,1,0,1,0,1,1,1,0,0,1,0,0] ⟨[(0,.ptr R 0),(4,.str (dZ [44,32] ((gq aJ ws).take i))),(5,.int .i64 (Int.ofNat i))],[],.none,x⟩ .nrm ⟨[(0,.ptr R 0),(4,.str (dZ [44,32] ((gq aJ ws).take (i+1)))),(5,.int .i64 (Int.ofNat (i+1)))],[],.none,y⟩/\Ext B h y:=by
 have nL:(gq aJ ws).length=vs.length:=by unfold gq;rw[List.length_zipWith];omega
 have aa:i<vs.length:=by omega
 have ad:i<aJ.length:=by omega
 have aw:i<ws.length:=by omega
 have eI:=(ab.get R gl).trans ak
 have ai:=ab.il (k:=20)
 have hi:=(ai.get R gl).trans ak
 rcases aC with⟨_,rfl⟩|⟨b,off,aH,rfl,hr,hT,lA⟩
 · simp at aa
 rcases aI.strs with⟨_,rfl⟩|⟨bt,dL,d_,rfl,ek,qx⟩
 · simp at ad
 have ax:au (x.room 20) b (off+i*1)=some vs[i]:=(m3 ai hr).trans (hT i aa)
 have ay:au (x.room 20) bt (dL+i*1)=some (.str aJ[i]):=(m3 ai ek).trans (qx i ad)
 obtain⟨g,c1,c2⟩:=bd i aa aw (x.room 20) ai
 have uK:=ai.trans (Nat.le_refl _) c2
 have w9:=(uK.get R gl).trans ak
 have bF:au g bt (dL+i*1)=some (.str aJ[i]):=(m3 uK ek).trans (qx i ad)
 have t1:=w1 [44,32] (gq aJ ws) i
 have t2:=sX [44,32] (gq aJ ws) ae
 have lV:(gq aJ ws)[i]=aJ[i]++[58,32]++ws[i]:=List.getElem_zipWith (f:=λn w=>n++[58,32]++w) (h:=ae)
 have t3:aJ[i].length+2+ws[i].length<=1000000:=by
  rw[lV] at t2
  simp at t2;omega
 refine⟨g,?_,uK⟩
 rw[w0 [44,32] (gq aJ ws) ae,lV]
 by_cases h0:0<i
 · rw[if_pos h0,<-List.append_assoc,<-List.append_assoc]
   exact R9 (Y m) R bt dL aJ.length b off vs.length i (dL+i*1) (off+i*1) (i+1) _ _ _ _ _ [] aJ[i] ws[i] vs[i] d_ aH x g (aL eI rfl) (dx aa) (dx h0) (fa (by simp;omega)) (aL hi rfl) ⟨ad,rfl⟩ ay (fa (by simp;omega)) (fa (by simp;omega)) (aL hi rfl) ⟨aa,rfl⟩ ax c1 (fa (by simp;omega)) (aL w9 rfl) bF (eK i aa) (jz aa (by omega))
 · rw[if_neg h0]
   obtain rfl:i=0:=by omega
   exact Sa (Y m) R bt dL aJ.length b off vs.length 0 (dL+0*1) (off+0*1) 1 _ [] _ _ _ [] aJ[0] ws[0] vs[0] d_ aH x g (aL eI rfl) (dx aa) (eg (by omega)) (aL hi rfl) ⟨ad,rfl⟩ ay (fa (x:=[]) (by simp;omega)) (fa (by simp;omega)) (aL hi rfl) ⟨aa,rfl⟩ ax c1 (fa (by simp;omega)) (aL w9 rfl) bF (eK 0 aa) (jz aa (by omega))
theorem Sj{m B R i:Nat}{h x:J}{iR hb c5 bZ cG:I}{bV:ey}{bk up:Nat}{eM:List Nat}{vs:List I}{ws:List aO}(gl:R<B)(ak:h.get R=some (.cells [iR,hb,c5,bZ,cG] 51 bV bk up))(aC:c7 B h bZ vs)(Im:eM.length=vs.length)(aq:ws.length=vs.length)(hlen:vs.length<=90000)(af:(dZ [32,124,32] (g1 eM ws)).length<=1000000)
  (om:∀i (aa:i<vs.length) (ad:i<eM.length),∃M,vs[i]=.ptr M 0/\∀x,Ext B h x->au x M (0+0)=some (.int .i64 (Int.ofNat eM[i])))(bd:w8 m B h vs ws)(ae:i<(g1 eM ws).length)(ab:Ext B h x):
  ∃y,az Tryz.prog Tryz.f98 none (Y m) [1,1,1,0,1,0,1,1,1,1,1,1,1,0,0,1,0,0] ⟨[(0,.ptr R 0),(4,.str (dZ [32,124,32] ((g1 eM ws).take i))),(7,.int .i64 (Int.ofNat i))],[],.none,x⟩ .nrm ⟨[(0,.ptr R 0),(4,.str (dZ [32,124,32] ((g1 eM ws).take (i+1)))),(7,.int .i64 (Int.ofNat (i+1)))],[],.none,y⟩/\Ext B h y:=by
 have nL:(g1 eM ws).length=vs.length:=by unfold g1;rw[List.length_zipWith];omega
 have aa:i<vs.length:=by omega
 have ad:i<eM.length:=by omega
 have aw:i<ws.length:=by omega
 have eI:=(ab.get R gl).trans ak
 obtain⟨M,hU,pE⟩:=om i aa ad
 have oJ:=pE x ab
 rcases aC with⟨_,rfl⟩|⟨b,off,aH,rfl,hr,hT,lA⟩
 · simp at aa
 have ax:au x b (off+i*1)=some (.ptr M 0):=by rw[<-hU];exact(m3 ab hr).trans (hT i aa)
 obtain⟨g,c1,c2⟩:=bd i aa aw x ab
 rw[hU] at c1
 have t1:=w1 [32,124,32] (g1 eM ws) i
 have t2:=sX [32,124,32] (g1 eM ws) ae
 have lV:(g1 eM ws)[i]=if eM[i]=8 then[40]++ws[i]++[41] else ws[i]:=List.getElem_zipWith (f:=λ(k:Nat) (w:aO)=>if k=8 then[40]++w++[41] else w) (h:=ae)
 refine⟨g,?_,ab.trans (Nat.le_refl _) c2⟩
 rw[w0 [32,124,32] (g1 eM ws) ae,lV]
 rw[lV] at t2
 by_cases gL:eM[i]=8
 · rw[if_pos gL] at t2⊢
   have t3:ws[i].length+2<=1000000:=by simp at t2;omega
   by_cases h0:0<i
   · rw[if_pos h0,<-List.append_assoc,<-List.append_assoc]
     exact Sd (Y m) R 0 0 0 b off vs.length i 0 (off+i*1) (i+1) M eM[i] _ _ _ _ _ [] [] ws[i] .bm (.exact 0) aH x g (aL eI rfl) (dx aa) (dx h0) (fa (by simp;omega)) ⟨aa,rfl⟩ ax oJ (ss gL) (fa (by simp;omega)) c1 (fa (by simp;omega)) (fa (by simp;omega)) (jz aa (by omega))
   · rw[if_neg h0]
     obtain rfl:i=0:=by omega
     exact Sf (Y m) R 0 0 0 b off vs.length 0 0 (off+0*1) 1 M eM[0] _ [] _ _ _ [] [] ws[0] .bm (.exact 0) aH x g (aL eI rfl) (dx aa) (eg (by omega)) ⟨aa,rfl⟩ ax oJ (ss gL) (fa (x:=[]) (by simp)) c1 (fa (by simp;omega)) (fa (by simp;omega)) (jz aa (by omega))
 · rw[if_neg gL] at t2⊢
   by_cases h0:0<i
   · rw[if_pos h0]
     exact Se (Y m) R 0 0 0 b off vs.length i 0 (off+i*1) (i+1) M eM[i] _ _ _ [] [] [] [] ws[i] .bm (.exact 0) aH x g (aL eI rfl) (dx aa) (dx h0) (fa (by simp;omega)) ⟨aa,rfl⟩ ax oJ (kM gL) c1 (fa (by simp;omega)) (jz aa (by omega))
   · rw[if_neg h0]
     obtain rfl:i=0:=by omega
     exact Sg (Y m) R 0 0 0 b off vs.length 0 0 (off+0*1) 1 M eM[0] _ [] _ [] [] [] [] ws[0] .bm (.exact 0) aH x g (aL eI rfl) (dx aa) (eg (by omega)) ⟨aa,rfl⟩ ax oJ (kM gL) c1 (fa (x:=[]) (by simp;omega)) (jz aa (by omega))
end Go.Proofs.cD
namespace Go.Proofs.cD
open Go aB Go.Proofs df
set_option maxRecDepth 100000
set_option maxHeartbeats 1000000
abbrev DA:List I:=[.str [97,110,121],.str [105,110,116],.str [98,111,111,108],.str [115,116,114],.str [110,105,108]]
theorem q6(k:Nat)(bK:aO)(aJ:List aO)(xs:List a6)(rt:Option a6):wr (.mk k bK aJ xs rt)=df.shape k bK aJ (xs.map a6.k) (cv xs) (j3 rt):=by rw[wr]
theorem DB{aJ ws:List aO}{i:Nat}(ae:i<(gq aJ ws).length)(aa:i<aJ.length)(ad:i<ws.length):(gq aJ ws)[i]=aJ[i]++[58,32]++ws[i]:=List.getElem_zipWith (f:=λn w=>n++[58,32]++w) (h:=ae)
theorem Jc{eM:List Nat}{ws:List aO}{i:Nat}(ae:i<(g1 eM ws).length)(aa:i<eM.length)(ad:i<ws.length):(g1 eM ws)[i]=if eM[i]=8 then[40]++ws[i]++[41] else ws[i]:=List.getElem_zipWith (f:=λ(k:Nat) (w:aO)=>if k=8 then[40]++w++[41] else w) (h:=ae)
theorem DC:∀(K:Nat) (t:a6),sz t<=K->sz t<=90000->okW t=true->(wr t).length<=1000000->∀(m B:Nat) (h:J) (v:I),sz t+1<=m->B<=h.n->cW B h t v->∃an,Y m (.fn 98) [v] h=.ret (.str (wr t)) an/\Ext B h an
 |0,t,du,_,_,_,_,_,_,_,_,_,_=>by
  have:=py t
  omega
 |K+1,.mk k bK aJ xs rt,du,fX,di,gX,m,B,h,v,hm,bI,aC=>by
  obtain⟨R,c5,bZ,cG,vs,bV,bk,up,rfl,ad,aw,aQ,bS,dm,eG⟩:=aC
  rw[q3] at du fX hm
  rw[q6] at gX
  rw[okW] at di
  simp only[Bool.and_eq_true,Bool.or_eq_true,decide_eq_true_eq] at di
  obtain⟨⟨⟨⟨⟨bQ,jb⟩,gR⟩,jd⟩,pF⟩,pG⟩:=di
  obtain⟨m,rfl⟩:∃j,m=j+1:=⟨m-1,by omega⟩
  have gM:=dq.len dm
  have jS:=pz xs
  have hZ:=uD xs
  let al:=(h.push (.cells [.str [],.str [],.str [],.str [],.str []] 153 .own 0 0)).set h.n (some (.cells DA 153 .own 0 0))
  have st:aB.storeCells (h.push (.cells [.str [],.str [],.str [],.str [],.str []] 153 .own 0 0)) h.n 0 DA=some al:=iE (by rw[J.eB];exact if_pos rfl) rfl rfl
  have uH:Ext B h al:=((Ext.push bI _).hg bI)
  have kT:B<=al.n:=Nat.le_trans bI uH.n
  have wO:al.get h.n=some (.cells DA 153 .own 0 0):=by
   show(J.set _ _ _).get _=_
   rw[J.b2,if_pos rfl]
  have pH:=e3.ext uH (Nat.le_refl _)
  have ak:=(uH.get R ad).trans aw
  have cy:=aQ.b6 pH
  have c6:=bS.b6 pH
  have dr:=dq.b6 pH _ _ dm
  have ev:=dE.b6 pH _ _ eG
  generalize Yz:al=g at*
  have fin:∀s y,az Tryz.prog Tryz.f98 none (Y m) [1,1,1] ⟨[(0,.ptr R 0),(3,.ptr h.n 0),(4,.str [])],[],.none,g⟩ .ret ⟨[(2,.str s)],[],.none,y⟩->s=wr (.mk k bK aJ xs rt)->Ext B g y->∃an,Y (m+1) (.fn 98) [.ptr R 0] h=.ret (.str (wr (.mk k bK aJ xs rt))) an/\Ext B h an:=λs y ai hs ab=>by
   rw[<-hs]
   exact⟨y,ed (intr:=bW) (n:=m) (args:=[.ptr R 0]) Tryz.func98 (by kernel_rfl) rfl (by kernel_rfl) (az.seq (p:=[]) (by kernel_rfl) (RW (Y m) R h) (az.seq (p:=[1]) (by kernel_rfl) (RX (Y m) R h g st) (az.seq (p:=[1,1]) (by kernel_rfl) (RY (Y m) R h.n g) ai))) (.inl rfl) (by kernel_rfl),uH.trans (Nat.le_refl _) ab⟩
  have w_:=RZ (Y m) R h.n k g (aL ak rfl)
  have zV:∀s y,az Tryz.prog Tryz.f98 none (Y m) [1,1,1,0,1] ⟨[(0,.ptr R 0),(3,.ptr h.n 0),(4,.str []),(12,.int .i64 (Int.ofNat k))],[],.none,g⟩ .ret ⟨[(2,.str s)],[],.none,y⟩->s=wr (.mk k bK aJ xs rt)->Ext B g y->∃an,Y (m+1) (.fn 98) [.ptr R 0] h=.ret (.str (wr (.mk k bK aJ xs rt))) an/\Ext B h an:=λs y ai hs ab=>
   fin s y (az.h4 (p:=[1,1,1]) (by kernel_rfl) (az.seq (p:=[1,1,1,0]) (by kernel_rfl) w_ ai) (by simp)) hs ab
  have DD:(∀i (ae:i<(cv xs).length),(cv xs)[i].length<=1000000)->w8 m B g vs (cv xs):=λaf i i1 i2 x ab=>by
   have i3:i<xs.length:=by omega
   have mN:=kR (List.getElem_mem i3)
   have gz:=af i i2
   rw[uE xs i i3 i2] at gz⊢
   exact DC K xs[i] (by omega) (by omega) (IH pF (List.getElem_mem i3)) gz m B x vs[i] (by omega) (Nat.le_trans kT ab.n) (cW.b6 (e3.ext ab (Nat.le_refl _)) _ _ (dq.get dr i i1 i3))
  by_cases fC:k=6
  · subst fC
    exact zV bK g (R0 (Y m) R h.n bK g (aL ak rfl)) (by rw[q6];rfl) (Ext.refl _ _)
  by_cases e6:k=7
  · subst e6
    have s3:xs.length=aJ.length:=by rcases gR with gR|gR;exact absurd rfl gR;exact gR
    have nL:(gq aJ (cv xs)).length=vs.length:=by unfold gq;rw[List.length_zipWith];omega
    have uA:(dZ [44,32] (gq aJ (cv xs))).length<=999998:=by
     have:([123]++dZ [44,32] (gq aJ (cv xs))++[125]:aO).length<=1000000:=gX
     simp at this;omega
    have hq:=DD λi ae=>by
     have t2:=sX [44,32] (gq aJ (cv xs)) (i:=i) (by omega)
     rw[DB (by omega) (by omega) ae] at t2
     simp at t2;omega
    obtain⟨y,bl,bB⟩:=zU (fn:=Tryz.f98) (call:=Y m) (p:=[1,1,1,0,1,0,1,1,1,0,0,1,0]) (e:=.exit 1) (reg:=5) (R:=R) (B:=B) (N:=vs.length) (h:=g) (sep:=[44,32]) (items:=gq aJ (cv xs)) nL (by simp)
     (λi ae x ab=>Si ad ak cy c6 (by omega) (by omega) (by omega) (by omega) (λi i1=>(dq.get dr i i1 (by omega)).snd) hq ae ab)
     (λx s ab=>R6 (Y m) R vs.length vs.length s bZ x (aL ((ab.get R ad).trans ak) rfl) c6.nK (eg (by omega))) vs.length 0 g (by omega) (by omega) (Ext.refl _ _)
    have de:=ef.run (p:=[1,1,1,0,1,0,1,1,1,0,0,1,0]) (by kernel_rfl) bl (by omega)
    exact zV _ y (R1 (Y m) R h.n _ _ _ g y (cC.pre de ⟨rfl,rfl,rfl,trivial⟩ rfl rfl rfl) (fa (by simp;omega)) (fa (by simp;omega))) (by rw[q6];rfl) bB
  by_cases gj:k=8
  · subst gj
    have uA:(dZ [44,32] (cv xs)).length+(j3 rt).length<=999992:=by
     have:([102,110,40]++dZ [44,32] (cv xs)++[41,32,45,62,32]++j3 rt:aO).length<=1000000:=gX
     simp at this;omega
    have hq:=DD λi ae=>by
     have t2:=sX [44,32] (cv xs) (i:=i) ae
     omega
    obtain⟨y,bl,bB⟩:=zU (fn:=Tryz.f98) (call:=Y m) (p:=[1,1,1,0,1,0,1,1,1,1,1,0,0,1,0]) (e:=.exit 3) (reg:=6) (R:=R) (B:=B) (N:=vs.length) (h:=g) (sep:=[44,32]) (items:=cv xs) (by omega) (by simp)
     (λi ae x ab=>Sh ad ak c6 (by omega) (by omega) (by omega) hq ae ab)
     (λx s ab=>R7 (Y m) R vs.length vs.length s bZ x (aL ((ab.get R ad).trans ak) rfl) c6.nK (eg (by omega))) vs.length 0 g (by omega) (by omega) (Ext.refl _ _)
    have de:=ef.run (p:=[1,1,1,0,1,0,1,1,1,1,1,0,0,1,0]) (by kernel_rfl) bl (by omega)
    cases rt with
    |none=>rcases jd with jd|jd<;>simp at jd
    |some u=>
     rw[m1] at du fX hm
     have pI:j3 (some u)=wr u:=by rw[j3]
     obtain⟨z,c1,c2⟩:=DC K u (by omega) (by omega) (by rw[sY] at pG;exact pG) (by rw[<-pI];omega) m B y cG (by omega) (Nat.le_trans kT bB.n) (cW.b6 (e3.ext bB (Nat.le_refl _)) _ _ ev)
     rw[<-pI] at c1
     exact zV _ z (R2 (Y m) R h.n _ _ _ _ _ cG g y z (cC.pre de ⟨rfl,rfl,rfl,trivial⟩ rfl rfl rfl) (fa (by simp;omega)) (fa (by simp;omega)) (aL ((bB.get R ad).trans ak) rfl) c1 (fa (by simp;omega))) (by rw[q6];rfl) (bB.trans (Nat.le_refl _) c2)
  by_cases gW:k=9
  · subst gW
    have nL:(g1 (xs.map a6.k) (cv xs)).length=vs.length:=by unfold g1;rw[List.length_zipWith,List.length_map];omega
    have uA:(dZ [32,124,32] (g1 (xs.map a6.k) (cv xs))).length<=1000000:=gX
    have hq:=DD λi ae=>by
     have t2:=sX [32,124,32] (g1 (xs.map a6.k) (cv xs)) (i:=i) (by omega)
     rw[Jc (by omega) (by rw[List.length_map];omega) ae] at t2
     split at t2
     · simp at t2;omega
     · omega
    have om:∀i (aa:i<vs.length) (ad:i<(xs.map a6.k).length),∃M,vs[i]=.ptr M 0/\∀x,Ext B g x->au x M (0+0)=some (.int .i64 (Int.ofNat (xs.map a6.k)[i])):=λi i1 i2=>by
     have i3:i<xs.length:=by omega
     have aU:=dq.get dr i i1 i3
     have xa:(xs.map a6.k)[i]=(xs[i]).k:=List.getElem_map a6.k
     rw[xa]
     cases ab:xs[i] with
     |mk c9 dJ gA iZ km=>
      rw[ab] at aU
      obtain⟨M,_,_,_,_,_,_,_,ax,ay,bF,_⟩:=aU
      exact⟨M,ax,λx je=>aL ((je.get M ay).trans bF) rfl⟩
    obtain⟨y,bl,bB⟩:=zU (fn:=Tryz.f98) (call:=Y m) (p:=[1,1,1,0,1,0,1,1,1,1,1,1,1,0,0,1,0]) (e:=.exit 5) (reg:=7) (R:=R) (B:=B) (N:=vs.length) (h:=g) (sep:=[32,124,32]) (items:=g1 (xs.map a6.k) (cv xs)) nL (by simp)
     (λi ae x ab=>Sj ad ak c6 (by rw[List.length_map];omega) (by omega) (by omega) uA om hq ae ab)
     (λx s ab=>R8 (Y m) R vs.length vs.length s bZ x (aL ((ab.get R ad).trans ak) rfl) c6.nK (eg (by omega))) vs.length 0 g (by omega) (by omega) (Ext.refl _ _)
    have de:=ef.run (p:=[1,1,1,0,1,0,1,1,1,1,1,1,1,0,0,1,0]) (by kernel_rfl) bl (by omega)
    exact zV _ y (R3 (Y m) R h.n _ g y (cC.pre de ⟨rfl,rfl,rfl,trivial⟩ rfl rfl rfl)) (by rw[q6];rfl) bB
  · have Sk:=R4 (Y m) R h.n k g (kM fC) (kM e6) (kM gj) (kM gW)
    have hw:wr (.mk k bK aJ xs rt)=word k:=by
     rw[q6];unfold df.shape
     rw[if_neg fC,if_neg e6,if_neg gj,if_neg gW]
    have YA:k<=5:=by omega
    have Sl:au g h.n (0+(k-1)*1)=some (.str (word k)):=by
     refine aL wO ?_
     have:k=1\/k=2\/k=3\/k=4\/k=5:=by omega
     rcases this with rfl|rfl|rfl|rfl|rfl<;>rfl
    exact fin (word k) g (az.seq (p:=[1,1,1]) (by kernel_rfl) (az.seq (p:=[1,1,1,0]) (by kernel_rfl) w_ Sk) (R5 (Y m) R h.n k (k-1) (0+(k-1)*1) (word k) g (aL ak rfl) (pj bQ (by omega)) ⟨(by show k-1+1<=5;omega),rfl⟩ Sl)) hw.symm (Ext.refl _ _)
end Go.Proofs.cD
