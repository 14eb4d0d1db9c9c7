/-
  PROVED HERE: contracts of functions (Db). No condition beside each statement's own.
-/
import Derived.Test.YtjkomfonmcmgdaaGreatDoorDa
set_option linter.unusedVariables false
set_option linter.unusedSimpArgs false
namespace Go.Proofs.cF
open Go aM Go.Proofs c_
set_option maxRecDepth 100000
set_option maxHeartbeats 1000000
theorem Ul(call:aI->List I->J->av)(n:Nat)(h:J)
  (H1:fb (.ofNat 97) (.ofNat n)=true)
  (aQ:fb (.ofNat n) (.ofNat 122)=true):
  aH Tryz.prog Tryz.f103 none call [] (ah.mk [(0,.int .u8 (.ofNat n))] [] .none h) (.ret)
   (ah.mk [(2,.bool true)] [] .none h):=
 bF [2] (hs:=[.b true,.b true,.b true,.b true,.b true,.b true,.b true,.b true,.b true,.b true,.b true]) (by kernel_rfl)<| .cons H1<| .cons H1<| .cons H1<| .cons aQ<| .cons aQ<| .cons aQ<| .cons aQ<| .cons aQ<| .cons (by kernel_rfl:true=true)<| .cons (by kernel_rfl:true=true)<| .cons (by kernel_rfl:true=true)<| .nil
theorem Um(call:aI->List I->J->av)(n:Nat)(h:J)
  (H1:fb (.ofNat 97) (.ofNat n)=true)
  (aQ:fb (.ofNat n) (.ofNat 122)=false)
  (bq:fb (.ofNat 65) (.ofNat n)=true)
  (bo:fb (.ofNat n) (.ofNat 90)=false):
  aH Tryz.prog Tryz.f103 none call [] (ah.mk [(0,.int .u8 (.ofNat n))] [] .none h) (.ret)
   (ah.mk [(2,.bool (a8 (.ofNat n) (.ofNat 95)))] [] .none h):=
 bF [2] (hs:=[.b true,.b true,.b true,.b false,.b false,.b false,.b true,.b true,.b false,.b true,.b false,.b false,.b false,.b false]) (by kernel_rfl)<| .cons H1<| .cons H1<| .cons H1<| .cons aQ<| .cons aQ<| .cons aQ<| .cons bq<| .cons bq<| .cons aQ<| .cons bq<| .cons aQ<| .cons bo<| .cons bo<| .cons bo<| .nil
theorem Un(call:aI->List I->J->av)(n:Nat)(h:J)
  (H1:fb (.ofNat 97) (.ofNat n)=false)
  (aQ:fb (.ofNat 65) (.ofNat n)=true)
  (bq:fb (.ofNat n) (.ofNat 90)=true):
  aH Tryz.prog Tryz.f103 none call [] (ah.mk [(0,.int .u8 (.ofNat n))] [] .none h) (.ret)
   (ah.mk [(2,.bool true)] [] .none h):=
 bF [2] (hs:=[.b false,.b false,.b false,.b false,.b false,.b false,.b true,.b true,.b false,.b true,.b false,.b true,.b true,.b true]) (by kernel_rfl)<| .cons H1<| .cons H1<| .cons H1<| .cons (by kernel_rfl:false=false)<| .cons (by kernel_rfl:false=false)<| .cons (by kernel_rfl:false=false)<| .cons aQ<| .cons aQ<| .cons (by kernel_rfl:false=false)<| .cons aQ<| .cons (by kernel_rfl:false=false)<| .cons bq<| .cons bq<| .cons bq<| .nil
theorem Uo(call:aI->List I->J->av)(n:Nat)(h:J)
  (H1:fb (.ofNat 97) (.ofNat n)=false)
  (aQ:fb (.ofNat 65) (.ofNat n)=true)
  (bq:fb (.ofNat n) (.ofNat 90)=false):
  aH Tryz.prog Tryz.f103 none call [] (ah.mk [(0,.int .u8 (.ofNat n))] [] .none h) (.ret)
   (ah.mk [(2,.bool (a8 (.ofNat n) (.ofNat 95)))] [] .none h):=
 bF [2] (hs:=[.b false,.b false,.b false,.b false,.b false,.b false,.b true,.b true,.b false,.b true,.b false,.b false,.b false,.b false]) (by kernel_rfl)<| .cons H1<| .cons H1<| .cons H1<| .cons (by kernel_rfl:false=false)<| .cons (by kernel_rfl:false=false)<| .cons (by kernel_rfl:false=false)<| .cons aQ<| .cons aQ<| .cons (by kernel_rfl:false=false)<| .cons aQ<| .cons (by kernel_rfl:false=false)<| .cons bq<| .cons bq<| .cons bq<| .nil
theorem Up(call:aI->List I->J->av)(n:Nat)(h:J)
  (H1:fb (.ofNat 97) (.ofNat n)=false)
  (aQ:fb (.ofNat 65) (.ofNat n)=false):
  aH Tryz.prog Tryz.f103 none call [] (ah.mk [(0,.int .u8 (.ofNat n))] [] .none h) (.ret)
   (ah.mk [(2,.bool (a8 (.ofNat n) (.ofNat 95)))] [] .none h):=
 bF [2] (hs:=[.b false,.b false,.b false,.b false,.b false,.b false,.b false,.b false,.b false,.b false,.b false,.b false,.b false,.b false]) (by kernel_rfl)<| .cons H1<| .cons H1<| .cons H1<| .cons (by kernel_rfl:false=false)<| .cons (by kernel_rfl:false=false)<| .cons (by kernel_rfl:false=false)<| .cons aQ<| .cons aQ<| .cons (by kernel_rfl:false=false)<| .cons aQ<| .cons (by kernel_rfl:false=false)<| .cons (by kernel_rfl:false=false)<| .cons (by kernel_rfl:false=false)<| .cons (by kernel_rfl:false=false)<| .nil
theorem Uq(call:aI->List I->J->av)(s:List UInt8)(n:Nat)(b:Bool)(h g:J)
  (H1:bM (.ofNat (List.length s)) (.ofNat 1)=true):
  aH Tryz.prog Tryz.f76 none call [1,0] (ah.mk [(0,.str s)] [] .none h) (.ret)
   (ah.mk [(0,.str s),(2,.bool false)] [] .none h):=
 bF [0,2] (hs:=[.b true,.b true,.b true,.b true,.b true,.b true,.b true,.b true,.b true,.b true]) (by kernel_rfl)<| .cons H1<| .cons H1<| .cons H1<| .cons H1<| .cons (by kernel_rfl:true=true)<| .cons (by kernel_rfl:true=true)<| .cons (by kernel_rfl:true=true)<| .cons (by kernel_rfl:true=true)<| .cons (by kernel_rfl:true=true)<| .cons (by kernel_rfl:true=true)<| .nil
theorem Ur(call:aI->List I->J->av)(s:List UInt8)(n:Nat)(b:Bool)(h g:J)
  (H1:bM (.ofNat (List.length s)) (.ofNat 1)=false)
  (aQ:bM (.ofNat 24) (.ofNat (List.length s))=true):
  aH Tryz.prog Tryz.f76 none call [1,0] (ah.mk [(0,.str s)] [] .none h) (.ret)
   (ah.mk [(0,.str s),(2,.bool false)] [] .none h):=
 bF [0,2] (hs:=[.b false,.b false,.b false,.b false,.b true,.b true,.b true,.b true,.b true,.b true]) (by kernel_rfl)<| .cons H1<| .cons H1<| .cons H1<| .cons H1<| .cons aQ<| .cons aQ<| .cons aQ<| .cons aQ<| .cons aQ<| .cons (by kernel_rfl:true=true)<| .nil
theorem Us(call:aI->List I->J->av)(s:List UInt8)(n:Nat)(b:Bool)(h g:J)
  (H1:bM (.ofNat (List.length s)) (.ofNat 1)=false)
  (aQ:bM (.ofNat 24) (.ofNat (List.length s))=false)
  (bq:gH 0 s=some (.int .u8 (.ofNat n)))
  (bo:call (.fn 103) [.int .u8 (.ofNat n)] h=av.ret (.bool b) g)
  (bY:(!b)=true):
  aH Tryz.prog Tryz.f76 none call [1,0] (ah.mk [(0,.str s)] [] .none h) (.ret)
   (ah.mk [(0,.str s),(2,.bool false)] [] .none g):=
 bF [0,2] (hs:=[.b false,.b false,.b false,.b false,.b false,.b false,.v (.int .u8 (.ofNat n)),.b false,.c (.bool b) g,.b false,.b false,.b true]) (by kernel_rfl)<| .cons H1<| .cons H1<| .cons H1<| .cons H1<| .cons aQ<| .cons aQ<| .cons bq<| .cons aQ<| .cons bo<| .cons aQ<| .cons aQ<| .cons bY<| .nil
theorem Ut(call:aI->List I->J->av)(s:List UInt8)(n:Nat)(b:Bool)(h g:J)
  (H1:bM (.ofNat (List.length s)) (.ofNat 1)=false)
  (aQ:bM (.ofNat 24) (.ofNat (List.length s))=false)
  (bq:gH 0 s=some (.int .u8 (.ofNat n)))
  (bo:call (.fn 103) [.int .u8 (.ofNat n)] h=av.ret (.bool b) g)
  (bY:(!b)=false):
  aH Tryz.prog Tryz.f76 none call [1,0] (ah.mk [(0,.str s)] [] .none h) (.nrm)
   (ah.mk [(0,.str s)] [] .none g):=
 bF [0,2] (hs:=[.b false,.b false,.b false,.b false,.b false,.b false,.v (.int .u8 (.ofNat n)),.b false,.c (.bool b) g,.b false,.b false,.b false]) (by kernel_rfl)<| .cons H1<| .cons H1<| .cons H1<| .cons H1<| .cons aQ<| .cons aQ<| .cons bq<| .cons aQ<| .cons bo<| .cons aQ<| .cons aQ<| .cons bY<| .nil
theorem K2(call:aI->List I->J->av)(s:List UInt8)(h:J):
  aH Tryz.prog Tryz.f76 none call [1,1,0,0] (ah.mk [(0,.str s)] [] .none h) (.nrm)
   (ah.mk [(0,.str s),(3,.int .i64 (.ofNat 0))] [] .none h):=
 bF [0,3] (hs:=[]) (by kernel_rfl)<| .nil
theorem Uu(call:aI->List I->J->av)(h:J):
  aH Tryz.prog Tryz.f76 none call [1,1,1] (ah.mk [] [] .none h) (.ret)
   (ah.mk [(2,.bool true)] [] .none h):=
 bF [2] (hs:=[]) (by kernel_rfl)<| .nil
theorem Uv(call:aI->List I->J->av)(s:List UInt8)(h:J)
  (H1:bM (.ofNat (List.length s)) (.ofNat 1)=true):
  aH Tryz.prog Tryz.f81 none call [1,0] (ah.mk [(0,.str s)] [] .none h) (.ret)
   (ah.mk [(0,.str s),(2,.bool false)] [] .none h):=
 bF [0,2] (hs:=[.b true,.b true,.b true,.b true,.b true]) (by kernel_rfl)<| .cons H1<| .cons H1<| .cons H1<| .cons H1<| .cons (by kernel_rfl:true=true)<| .nil
theorem Uw(call:aI->List I->J->av)(s:List UInt8)(h:J)
  (H1:bM (.ofNat (List.length s)) (.ofNat 1)=false)
  (aQ:bM (.ofNat 161) (.ofNat (List.length s))=true):
  aH Tryz.prog Tryz.f81 none call [1,0] (ah.mk [(0,.str s)] [] .none h) (.ret)
   (ah.mk [(0,.str s),(2,.bool false)] [] .none h):=
 bF [0,2] (hs:=[.b false,.b false,.b false,.b false,.b true]) (by kernel_rfl)<| .cons H1<| .cons H1<| .cons H1<| .cons H1<| .cons aQ<| .nil
theorem Ux(call:aI->List I->J->av)(s:List UInt8)(h:J)
  (H1:bM (.ofNat (List.length s)) (.ofNat 1)=false)
  (aQ:bM (.ofNat 161) (.ofNat (List.length s))=false):
  aH Tryz.prog Tryz.f81 none call [1,0] (ah.mk [(0,.str s)] [] .none h) (.nrm)
   (ah.mk [(0,.str s)] [] .none h):=
 bF [0,2] (hs:=[.b false,.b false,.b false,.b false,.b false]) (by kernel_rfl)<| .cons H1<| .cons H1<| .cons H1<| .cons H1<| .cons aQ<| .nil
theorem K3(call:aI->List I->J->av)(s:List UInt8)(h:J):
  aH Tryz.prog Tryz.f81 none call [1,1,0,0] (ah.mk [(0,.str s)] [] .none h) (.nrm)
   (ah.mk [(0,.str s),(3,.int .i64 (.ofNat 0))] [] .none h):=
 bF [0,3] (hs:=[]) (by kernel_rfl)<| .nil
theorem Uy(call:aI->List I->J->av)(s:List UInt8)(i n j:Nat)(b:Bool)(h g:J)
  (H1:bM (.ofNat i) (.ofNat (List.length s))=true)
  (aQ:gH i s=some (.int .u8 (.ofNat n)))
  (bq:call (.fn 103) [.int .u8 (.ofNat n)] h=av.ret (.bool b) g)
  (bo:(!b)=true)
  (bY:bM (.ofNat n) (.ofNat 48)=true)
  (cJ:(!a8 (.ofNat n) (.ofNat 45))=true)
  (dk:(!a8 (.ofNat n) (.ofNat 47))=true)
  (gy:(!a8 (.ofNat n) (.ofNat 46))=true):
  aH Tryz.prog Tryz.f81 none call [1,1,0,1,0,0] (ah.mk [(0,.str s),(3,.int .i64 (.ofNat i))] [] .none h) (.ret)
   (ah.mk [(0,.str s),(2,.bool false),(3,.int .i64 (.ofNat i))] [] .none g):=
 bF [0,2,3] (hs:=[.b true,.v (.int .u8 (.ofNat n)),.c (.bool b) g,.b true,.b true,.b true,.b true,.b true,.b true,.b true,.b true,.b true,.b true,.b true,.b true,.b true,.b true,.b true,.b true,.b true,.b true]) (by kernel_rfl)<| .cons H1<| .cons aQ<| .cons bq<| .cons bo<| .cons bo<| .cons bo<| .cons bY<| .cons bY<| .cons bo<| .cons bY<| .cons bo<| .cons (by kernel_rfl:true=true)<| .cons (by kernel_rfl:true=true)<| .cons (by kernel_rfl:true=true)<| .cons cJ<| .cons cJ<| .cons cJ<| .cons dk<| .cons dk<| .cons dk<| .cons gy<| .nil
theorem Uz(call:aI->List I->J->av)(s:List UInt8)(i n j:Nat)(b:Bool)(h g:J)
  (H1:bM (.ofNat i) (.ofNat (List.length s))=true)
  (aQ:gH i s=some (.int .u8 (.ofNat n)))
  (bq:call (.fn 103) [.int .u8 (.ofNat n)] h=av.ret (.bool b) g)
  (bo:(!b)=true)
  (bY:bM (.ofNat n) (.ofNat 48)=true)
  (cJ:(!a8 (.ofNat n) (.ofNat 45))=true)
  (dk:(!a8 (.ofNat n) (.ofNat 47))=true)
  (gy:(!a8 (.ofNat n) (.ofNat 46))=false)
  (jy:arith .add .i64 (.ofNat i) (.ofNat 1)=some (.int .i64 (.ofNat j))):
  aH Tryz.prog Tryz.f81 none call [1,1,0,1,0,0] (ah.mk [(0,.str s),(3,.int .i64 (.ofNat i))] [] .none h) (.nrm)
   (ah.mk [(0,.str s),(3,.int .i64 (.ofNat j))] [] .none g):=
 bF [0,2,3] (hs:=[.b true,.v (.int .u8 (.ofNat n)),.c (.bool b) g,.b true,.b true,.b true,.b true,.b true,.b true,.b true,.b true,.b true,.b true,.b true,.b true,.b true,.b true,.b true,.b true,.b true,.b false,.v (.int .i64 (.ofNat j))]) (by kernel_rfl)<| .cons H1<| .cons aQ<| .cons bq<| .cons bo<| .cons bo<| .cons bo<| .cons bY<| .cons bY<| .cons bo<| .cons bY<| .cons bo<| .cons (by kernel_rfl:true=true)<| .cons (by kernel_rfl:true=true)<| .cons (by kernel_rfl:true=true)<| .cons cJ<| .cons cJ<| .cons cJ<| .cons dk<| .cons dk<| .cons dk<| .cons gy<| .cons jy<| .nil
theorem UA(call:aI->List I->J->av)(s:List UInt8)(i n j:Nat)(b:Bool)(h g:J)
  (H1:bM (.ofNat i) (.ofNat (List.length s))=true)
  (aQ:gH i s=some (.int .u8 (.ofNat n)))
  (bq:call (.fn 103) [.int .u8 (.ofNat n)] h=av.ret (.bool b) g)
  (bo:(!b)=true)
  (bY:bM (.ofNat n) (.ofNat 48)=true)
  (cJ:(!a8 (.ofNat n) (.ofNat 45))=true)
  (dk:(!a8 (.ofNat n) (.ofNat 47))=false)
  (gy:arith .add .i64 (.ofNat i) (.ofNat 1)=some (.int .i64 (.ofNat j))):
  aH Tryz.prog Tryz.f81 none call [1,1,0,1,0,0] (ah.mk [(0,.str s),(3,.int .i64 (.ofNat i))] [] .none h) (.nrm)
   (ah.mk [(0,.str s),(3,.int .i64 (.ofNat j))] [] .none g):=
 bF [0,2,3] (hs:=[.b true,.v (.int .u8 (.ofNat n)),.c (.bool b) g,.b true,.b true,.b true,.b true,.b true,.b true,.b true,.b true,.b true,.b true,.b true,.b true,.b true,.b true,.b false,.b false,.b false,.b false,.v (.int .i64 (.ofNat j))]) (by kernel_rfl)<| .cons H1<| .cons aQ<| .cons bq<| .cons bo<| .cons bo<| .cons bo<| .cons bY<| .cons bY<| .cons bo<| .cons bY<| .cons bo<| .cons (by kernel_rfl:true=true)<| .cons (by kernel_rfl:true=true)<| .cons (by kernel_rfl:true=true)<| .cons cJ<| .cons cJ<| .cons cJ<| .cons dk<| .cons dk<| .cons dk<| .cons (by kernel_rfl:false=false)<| .cons gy<| .nil
theorem UB(call:aI->List I->J->av)(s:List UInt8)(i n j:Nat)(b:Bool)(h g:J)
  (H1:bM (.ofNat i) (.ofNat (List.length s))=true)
  (aQ:gH i s=some (.int .u8 (.ofNat n)))
  (bq:call (.fn 103) [.int .u8 (.ofNat n)] h=av.ret (.bool b) g)
  (bo:(!b)=true)
  (bY:bM (.ofNat n) (.ofNat 48)=true)
  (cJ:(!a8 (.ofNat n) (.ofNat 45))=false)
  (dk:arith .add .i64 (.ofNat i) (.ofNat 1)=some (.int .i64 (.ofNat j))):
  aH Tryz.prog Tryz.f81 none call [1,1,0,1,0,0] (ah.mk [(0,.str s),(3,.int .i64 (.ofNat i))] [] .none h) (.nrm)
   (ah.mk [(0,.str s),(3,.int .i64 (.ofNat j))] [] .none g):=
 bF [0,2,3] (hs:=[.b true,.v (.int .u8 (.ofNat n)),.c (.bool b) g,.b true,.b true,.b true,.b true,.b true,.b true,.b true,.b true,.b true,.b true,.b true,.b false,.b false,.b false,.b false,.b false,.b false,.b false,.v (.int .i64 (.ofNat j))]) (by kernel_rfl)<| .cons H1<| .cons aQ<| .cons bq<| .cons bo<| .cons bo<| .cons bo<| .cons bY<| .cons bY<| .cons bo<| .cons bY<| .cons bo<| .cons (by kernel_rfl:true=true)<| .cons (by kernel_rfl:true=true)<| .cons (by kernel_rfl:true=true)<| .cons cJ<| .cons cJ<| .cons cJ<| .cons (by kernel_rfl:false=false)<| .cons (by kernel_rfl:false=false)<| .cons (by kernel_rfl:false=false)<| .cons (by kernel_rfl:false=false)<| .cons dk<| .nil
theorem UC(call:aI->List I->J->av)(s:List UInt8)(i n j:Nat)(b:Bool)(h g:J)
  (H1:bM (.ofNat i) (.ofNat (List.length s))=true)
  (aQ:gH i s=some (.int .u8 (.ofNat n)))
  (bq:call (.fn 103) [.int .u8 (.ofNat n)] h=av.ret (.bool b) g)
  (bo:(!b)=true)
  (bY:bM (.ofNat n) (.ofNat 48)=false)
  (cJ:bM (.ofNat 57) (.ofNat n)=true)
  (dk:(!a8 (.ofNat n) (.ofNat 45))=true)
  (gy:(!a8 (.ofNat n) (.ofNat 47))=true)
  (jy:(!a8 (.ofNat n) (.ofNat 46))=true):
  aH Tryz.prog Tryz.f81 none call [1,1,0,1,0,0] (ah.mk [(0,.str s),(3,.int .i64 (.ofNat i))] [] .none h) (.ret)
   (ah.mk [(0,.str s),(2,.bool false),(3,.int .i64 (.ofNat i))] [] .none g):=
 bF [0,2,3] (hs:=[.b true,.v (.int .u8 (.ofNat n)),.c (.bool b) g,.b true,.b true,.b true,.b false,.b false,.b true,.b false,.b true,.b true,.b true,.b true,.b true,.b true,.b true,.b true,.b true,.b true,.b true]) (by kernel_rfl)<| .cons H1<| .cons aQ<| .cons bq<| .cons bo<| .cons bo<| .cons bo<| .cons bY<| .cons bY<| .cons bo<| .cons bY<| .cons bo<| .cons cJ<| .cons cJ<| .cons cJ<| .cons dk<| .cons dk<| .cons dk<| .cons gy<| .cons gy<| .cons gy<| .cons jy<| .nil
theorem UD(call:aI->List I->J->av)(s:List UInt8)(i n j:Nat)(b:Bool)(h g:J)
  (H1:bM (.ofNat i) (.ofNat (List.length s))=true)
  (aQ:gH i s=some (.int .u8 (.ofNat n)))
  (bq:call (.fn 103) [.int .u8 (.ofNat n)] h=av.ret (.bool b) g)
  (bo:(!b)=true)
  (bY:bM (.ofNat n) (.ofNat 48)=false)
  (cJ:bM (.ofNat 57) (.ofNat n)=false)
  (dk:arith .add .i64 (.ofNat i) (.ofNat 1)=some (.int .i64 (.ofNat j))):
  aH Tryz.prog Tryz.f81 none call [1,1,0,1,0,0] (ah.mk [(0,.str s),(3,.int .i64 (.ofNat i))] [] .none h) (.nrm)
   (ah.mk [(0,.str s),(3,.int .i64 (.ofNat j))] [] .none g):=
 bF [0,2,3] (hs:=[.b true,.v (.int .u8 (.ofNat n)),.c (.bool b) g,.b true,.b true,.b true,.b false,.b false,.b true,.b false,.b true,.b false,.b false,.b false,.b false,.b false,.b false,.b false,.b false,.b false,.b false,.v (.int .i64 (.ofNat j))]) (by kernel_rfl)<| .cons H1<| .cons aQ<| .cons bq<| .cons bo<| .cons bo<| .cons bo<| .cons bY<| .cons bY<| .cons bo<| .cons bY<| .cons bo<| .cons cJ<| .cons cJ<| .cons cJ<| .cons (by kernel_rfl:false=false)<| .cons (by kernel_rfl:false=false)<| .cons (by kernel_rfl:false=false)<| .cons (by kernel_rfl:false=false)<| .cons (by kernel_rfl:false=false)<| .cons (by kernel_rfl:false=false)<| .cons (by kernel_rfl:false=false)<| .cons dk<| .nil
theorem UE(call:aI->List I->J->av)(s:List UInt8)(i n j:Nat)(b:Bool)(h g:J)
  (H1:bM (.ofNat i) (.ofNat (List.length s))=true)
  (aQ:gH i s=some (.int .u8 (.ofNat n)))
  (bq:call (.fn 103) [.int .u8 (.ofNat n)] h=av.ret (.bool b) g)
  (bo:(!b)=false)
  (bY:arith .add .i64 (.ofNat i) (.ofNat 1)=some (.int .i64 (.ofNat j))):
  aH Tryz.prog Tryz.f81 none call [1,1,0,1,0,0] (ah.mk [(0,.str s),(3,.int .i64 (.ofNat i))] [] .none h) (.nrm)
   (ah.mk [(0,.str s),(3,.int .i64 (.ofNat j))] [] .none g):=
 bF [0,2,3] (hs:=[.b true,.v (.int .u8 (.ofNat n)),.c (.bool b) g,.b false,.b false,.b false,.b false,.b false,.b false,.b false,.b false,.b false,.b false,.b false,.b false,.b false,.b false,.b false,.v (.int .i64 (.ofNat j))]) (by kernel_rfl)<| .cons H1<| .cons aQ<| .cons bq<| .cons bo<| .cons bo<| .cons bo<| .cons bo<| .cons bo<| .cons (by kernel_rfl:false=false)<| .cons (by kernel_rfl:false=false)<| .cons (by kernel_rfl:false=false)<| .cons (by kernel_rfl:false=false)<| .cons (by kernel_rfl:false=false)<| .cons (by kernel_rfl:false=false)<| .cons (by kernel_rfl:false=false)<| .cons (by kernel_rfl:false=false)<| .cons (by kernel_rfl:false=false)<| .cons (by kernel_rfl:false=false)<| .cons bY<| .nil
theorem UF(call:aI->List I->J->av)(s:List UInt8)(i n j:Nat)(b:Bool)(h g:J)
  (H1:bM (.ofNat i) (.ofNat (List.length s))=false):
  aH Tryz.prog Tryz.f81 none call [1,1,0,1,0,0] (ah.mk [(0,.str s),(3,.int .i64 (.ofNat i))] [] .none h) (.exit 0)
   (ah.mk [(0,.str s),(3,.int .i64 (.ofNat i))] [] .none h):=
 bF [0,2,3] (hs:=[.b false]) (by kernel_rfl)<| .cons H1<| .nil
theorem UG(call:aI->List I->J->av)(h:J):
  aH Tryz.prog Tryz.f81 none call [1,1,1] (ah.mk [] [] .none h) (.ret)
   (ah.mk [(2,.bool true)] [] .none h):=
 bF [2] (hs:=[]) (by kernel_rfl)<| .nil
theorem UH(call:aI->List I->J->av)(s:List UInt8)(i n j:Nat)(b:Bool)(h g:J)
  (H1:bM (.ofNat i) (.ofNat (List.length s))=true)
  (aQ:gH i s=some (.int .u8 (.ofNat n)))
  (bq:call (.fn 103) [.int .u8 (.ofNat n)] h=av.ret (.bool b) g)
  (bo:(!b)=true)
  (bY:bM (.ofNat n) (.ofNat 48)=true):
  aH Tryz.prog Tryz.f76 none call [1,1,0,1,0,0] (ah.mk [(0,.str s),(3,.int .i64 (.ofNat i))] [] .none h) (.ret)
   (ah.mk [(0,.str s),(2,.bool false),(3,.int .i64 (.ofNat i))] [] .none g):=
 bF [0,2,3] (hs:=[.b true,.v (.int .u8 (.ofNat n)),.c (.bool b) g,.b true,.b true,.b true,.v (.int .u8 (.ofNat n)),.b true,.b true,.b true,.b true,.b true,.b true,.b true,.b true,.b true,.b true]) (by kernel_rfl)<| .cons H1<| .cons aQ<| .cons bq<| .cons bo<| .cons bo<| .cons bo<| .cons aQ<| .cons bo<| .cons bo<| .cons bY<| .cons bY<| .cons bY<| .cons bY<| .cons bo<| .cons bY<| .cons bo<| .cons (by kernel_rfl:true=true)<| .nil
theorem UI(call:aI->List I->J->av)(s:List UInt8)(i n j:Nat)(b:Bool)(h g:J)
  (H1:bM (.ofNat i) (.ofNat (List.length s))=true)
  (aQ:gH i s=some (.int .u8 (.ofNat n)))
  (bq:call (.fn 103) [.int .u8 (.ofNat n)] h=av.ret (.bool b) g)
  (bo:(!b)=true)
  (bY:bM (.ofNat n) (.ofNat 48)=false)
  (cJ:bM (.ofNat 57) (.ofNat n)=true):
  aH Tryz.prog Tryz.f76 none call [1,1,0,1,0,0] (ah.mk [(0,.str s),(3,.int .i64 (.ofNat i))] [] .none h) (.ret)
   (ah.mk [(0,.str s),(2,.bool false),(3,.int .i64 (.ofNat i))] [] .none g):=
 bF [0,2,3] (hs:=[.b true,.v (.int .u8 (.ofNat n)),.c (.bool b) g,.b true,.b true,.b true,.v (.int .u8 (.ofNat n)),.b true,.b true,.b false,.b false,.b false,.v (.int .u8 (.ofNat n)),.b false,.b true,.b false,.b true,.b true]) (by kernel_rfl)<| .cons H1<| .cons aQ<| .cons bq<| .cons bo<| .cons bo<| .cons bo<| .cons aQ<| .cons bo<| .cons bo<| .cons bY<| .cons bY<| .cons bY<| .cons aQ<| .cons bY<| .cons bo<| .cons bY<| .cons bo<| .cons cJ<| .nil
theorem UJ(call:aI->List I->J->av)(s:List UInt8)(i n j:Nat)(b:Bool)(h g:J)
  (H1:bM (.ofNat i) (.ofNat (List.length s))=true)
  (aQ:gH i s=some (.int .u8 (.ofNat n)))
  (bq:call (.fn 103) [.int .u8 (.ofNat n)] h=av.ret (.bool b) g)
  (bo:(!b)=true)
  (bY:bM (.ofNat n) (.ofNat 48)=false)
  (cJ:bM (.ofNat 57) (.ofNat n)=false)
  (dk:arith .add .i64 (.ofNat i) (.ofNat 1)=some (.int .i64 (.ofNat j))):
  aH Tryz.prog Tryz.f76 none call [1,1,0,1,0,0] (ah.mk [(0,.str s),(3,.int .i64 (.ofNat i))] [] .none h) (.nrm)
   (ah.mk [(0,.str s),(3,.int .i64 (.ofNat j))] [] .none g):=
 bF [0,2,3] (hs:=[.b true,.v (.int .u8 (.ofNat n)),.c (.bool b) g,.b true,.b true,.b true,.v (.int .u8 (.ofNat n)),.b true,.b true,.b false,.b false,.b false,.v (.int .u8 (.ofNat n)),.b false,.b true,.b false,.b true,.b false,.v (.int .i64 (.ofNat j))]) (by kernel_rfl)<| .cons H1<| .cons aQ<| .cons bq<| .cons bo<| .cons bo<| .cons bo<| .cons aQ<| .cons bo<| .cons bo<| .cons bY<| .cons bY<| .cons bY<| .cons aQ<| .cons bY<| .cons bo<| .cons bY<| .cons bo<| .cons cJ<| .cons dk<| .nil
theorem UK(call:aI->List I->J->av)(s:List UInt8)(i n j:Nat)(b:Bool)(h g:J)
  (H1:bM (.ofNat i) (.ofNat (List.length s))=true)
  (aQ:gH i s=some (.int .u8 (.ofNat n)))
  (bq:call (.fn 103) [.int .u8 (.ofNat n)] h=av.ret (.bool b) g)
  (bo:(!b)=false)
  (bY:arith .add .i64 (.ofNat i) (.ofNat 1)=some (.int .i64 (.ofNat j))):
  aH Tryz.prog Tryz.f76 none call [1,1,0,1,0,0] (ah.mk [(0,.str s),(3,.int .i64 (.ofNat i))] [] .none h) (.nrm)
   (ah.mk [(0,.str s),(3,.int .i64 (.ofNat j))] [] .none g):=
 bF [0,2,3] (hs:=[.b true,.v (.int .u8 (.ofNat n)),.c (.bool b) g,.b false,.b false,.b false,.b false,.b false,.b false,.b false,.b false,.v (.int .i64 (.ofNat j))]) (by kernel_rfl)<| .cons H1<| .cons aQ<| .cons bq<| .cons bo<| .cons bo<| .cons bo<| .cons bo<| .cons bo<| .cons bo<| .cons bo<| .cons (by kernel_rfl:false=false)<| .cons bY<| .nil
theorem UL(call:aI->List I->J->av)(s:List UInt8)(i n j:Nat)(b:Bool)(h g:J)
  (H1:bM (.ofNat i) (.ofNat (List.length s))=false):
  aH Tryz.prog Tryz.f76 none call [1,1,0,1,0,0] (ah.mk [(0,.str s),(3,.int .i64 (.ofNat i))] [] .none h) (.exit 0)
   (ah.mk [(0,.str s),(3,.int .i64 (.ofNat i))] [] .none h):=
 bF [0,2,3] (hs:=[.b false]) (by kernel_rfl)<| .cons H1<| .nil
theorem K4(call:aI->List I->J->av)(s t:List UInt8)(h:J):
  aH Tryz.prog Tryz.f77 none call [0] (ah.mk [(0,.str s),(1,.str t)] [] .none h) (.nrm)
   (ah.mk [(0,.str s),(1,.str t)] [] .none h):=
 bF [0,1] (hs:=[]) (by kernel_rfl)<| .nil
theorem K5(call:aI->List I->J->av)(s t:List UInt8)(h:J):
  aH Tryz.prog Tryz.f77 none call [1,0,0] (ah.mk [(0,.str s),(1,.str t)] [] .none h) (.nrm)
   (ah.mk [(0,.str s),(1,.str t),(5,.int .i64 (.ofNat 0))] [] .none h):=
 bF [0,1,5] (hs:=[]) (by kernel_rfl)<| .nil
theorem UM(call:aI->List I->J->av)(s t:List UInt8)(i n k j:Nat)(h:J)
  (H1:bM (.ofNat i) (.ofNat (List.length s))=true)
  (aQ:bM (.ofNat i) (.ofNat (List.length t))=true)
  (bq:gH i s=some (.int .u8 (.ofNat n)))
  (bo:gH i t=some (.int .u8 (.ofNat k)))
  (bY:(!a8 (.ofNat n) (.ofNat k))=true):
  aH Tryz.prog Tryz.f77 none call [1,0,1,0,0] (ah.mk [(0,.str s),(1,.str t),(5,.int .i64 (.ofNat i))] [] .none h) (.ret)
   (ah.mk [(0,.str s),(1,.str t),(4,.bool (bM (.ofNat n) (.ofNat k))),(5,.int .i64 (.ofNat i))] [] .none (J.room (J.room h 7) 8)):=
 bF [0,1,4,5] (hs:=[.b true,.b true,.b true,.b true,.b true,.b true,.v (.int .u8 (.ofNat n)),.v (.int .u8 (.ofNat k)),.b true,.v (.int .u8 (.ofNat n)),.v (.int .u8 (.ofNat k))]) (by kernel_rfl)<| .cons H1<| .cons H1<| .cons H1<| .cons H1<| .cons H1<| .cons aQ<| .cons bq<| .cons bo<| .cons (by kernel_rfl:I.sound (I.str s)=true)<| .cons (by kernel_rfl:I.str s=I.str s)<| .cons (by kernel_rfl:I.sound (I.int IntKind.i64 (Int.ofNat i))=true)<| .cons (by kernel_rfl:I.int IntKind.i64 (Int.ofNat i)=I.int IntKind.i64 (Int.ofNat i))<| .cons (by kernel_rfl:I.sound (I.int IntKind.u8 (Int.ofNat n))=true)<| .cons bq<| .cons (by kernel_rfl:I.sound (I.str t)=true)<| .cons (by kernel_rfl:I.str t=I.str t)<| .cons (by kernel_rfl:I.sound (I.int IntKind.i64 (Int.ofNat i))=true)<| .cons (by kernel_rfl:I.int IntKind.i64 (Int.ofNat i)=I.int IntKind.i64 (Int.ofNat i))<| .cons (by kernel_rfl:I.sound (I.int IntKind.u8 (Int.ofNat k))=true)<| .cons bo<| .cons (by kernel_rfl:I.sound (I.bool !a8 (Int.ofNat n) (Int.ofNat k))=true)<| .cons (by kernel_rfl:(I.bool !a8 (Int.ofNat n) (Int.ofNat k))=I.bool !a8 (Int.ofNat n) (Int.ofNat k))<| .cons bY<| .cons bq<| .cons bo<| .cons (by kernel_rfl:I.sound (I.str s)=true)<| .cons (by kernel_rfl:I.str s=I.str s)<| .cons (by kernel_rfl:I.sound (I.int IntKind.i64 (Int.ofNat i))=true)<| .cons (by kernel_rfl:I.int IntKind.i64 (Int.ofNat i)=I.int IntKind.i64 (Int.ofNat i))<| .cons (by kernel_rfl:I.sound (I.int IntKind.u8 (Int.ofNat n))=true)<| .cons bq<| .cons (by kernel_rfl:I.sound (I.str t)=true)<| .cons (by kernel_rfl:I.str t=I.str t)<| .cons (by kernel_rfl:I.sound (I.int IntKind.i64 (Int.ofNat i))=true)<| .cons (by kernel_rfl:I.int IntKind.i64 (Int.ofNat i)=I.int IntKind.i64 (Int.ofNat i))<| .cons (by kernel_rfl:I.sound (I.int IntKind.u8 (Int.ofNat k))=true)<| .cons bo<| .cons (by kernel_rfl:I.sound (I.bool (bM (Int.ofNat n) (Int.ofNat k)))=true)<| .cons (by kernel_rfl:I.bool (bM (Int.ofNat n) (Int.ofNat k))=I.bool (bM (Int.ofNat n) (Int.ofNat k)))<| .cons (by kernel_rfl:I.sound (I.bool (bM (Int.ofNat n) (Int.ofNat k)))=true)<| .cons (by kernel_rfl:I.bool (bM (Int.ofNat n) (Int.ofNat k))=I.bool (bM (Int.ofNat n) (Int.ofNat k)))<| .nil
theorem UN(call:aI->List I->J->av)(s t:List UInt8)(i n k j:Nat)(h:J)
  (H1:bM (.ofNat i) (.ofNat (List.length s))=true)
  (aQ:bM (.ofNat i) (.ofNat (List.length t))=true)
  (bq:gH i s=some (.int .u8 (.ofNat n)))
  (bo:gH i t=some (.int .u8 (.ofNat k)))
  (bY:(!a8 (.ofNat n) (.ofNat k))=false)
  (cJ:arith .add .i64 (.ofNat i) (.ofNat 1)=some (.int .i64 (.ofNat j))):
  aH Tryz.prog Tryz.f77 none call [1,0,1,0,0] (ah.mk [(0,.str s),(1,.str t),(5,.int .i64 (.ofNat i))] [] .none h) (.nrm)
   (ah.mk [(0,.str s),(1,.str t),(5,.int .i64 (.ofNat j))] [] .none (J.room h 7)):=
 bF [0,1,4,5] (hs:=[.b true,.b true,.b true,.b true,.b true,.b true,.v (.int .u8 (.ofNat n)),.v (.int .u8 (.ofNat k)),.b false,.v (.int .i64 (.ofNat j))]) (by kernel_rfl)<| .cons H1<| .cons H1<| .cons H1<| .cons H1<| .cons H1<| .cons aQ<| .cons bq<| .cons bo<| .cons (by kernel_rfl:I.sound (I.str s)=true)<| .cons (by kernel_rfl:I.str s=I.str s)<| .cons (by kernel_rfl:I.sound (I.int IntKind.i64 (Int.ofNat i))=true)<| .cons (by kernel_rfl:I.int IntKind.i64 (Int.ofNat i)=I.int IntKind.i64 (Int.ofNat i))<| .cons (by kernel_rfl:I.sound (I.int IntKind.u8 (Int.ofNat n))=true)<| .cons bq<| .cons (by kernel_rfl:I.sound (I.str t)=true)<| .cons (by kernel_rfl:I.str t=I.str t)<| .cons (by kernel_rfl:I.sound (I.int IntKind.i64 (Int.ofNat i))=true)<| .cons (by kernel_rfl:I.int IntKind.i64 (Int.ofNat i)=I.int IntKind.i64 (Int.ofNat i))<| .cons (by kernel_rfl:I.sound (I.int IntKind.u8 (Int.ofNat k))=true)<| .cons bo<| .cons (by kernel_rfl:I.sound (I.bool !a8 (Int.ofNat n) (Int.ofNat k))=true)<| .cons (by kernel_rfl:(I.bool !a8 (Int.ofNat n) (Int.ofNat k))=I.bool !a8 (Int.ofNat n) (Int.ofNat k))<| .cons bY<| .cons cJ<| .nil
theorem UO(call:aI->List I->J->av)(s t:List UInt8)(i n k j:Nat)(h:J)
  (H1:bM (.ofNat i) (.ofNat (List.length s))=true)
  (aQ:bM (.ofNat i) (.ofNat (List.length t))=false):
  aH Tryz.prog Tryz.f77 none call [1,0,1,0,0] (ah.mk [(0,.str s),(1,.str t),(5,.int .i64 (.ofNat i))] [] .none h) (.exit 0)
   (ah.mk [(0,.str s),(1,.str t),(5,.int .i64 (.ofNat i))] [] .none h):=
 bF [0,1,4,5] (hs:=[.b true,.b true,.b true,.b true,.b true,.b false]) (by kernel_rfl)<| .cons H1<| .cons H1<| .cons H1<| .cons H1<| .cons H1<| .cons aQ<| .nil
theorem UP(call:aI->List I->J->av)(s t:List UInt8)(i n k j:Nat)(h:J)
  (H1:bM (.ofNat i) (.ofNat (List.length s))=false):
  aH Tryz.prog Tryz.f77 none call [1,0,1,0,0] (ah.mk [(0,.str s),(1,.str t),(5,.int .i64 (.ofNat i))] [] .none h) (.exit 0)
   (ah.mk [(0,.str s),(1,.str t),(5,.int .i64 (.ofNat i))] [] .none h):=
 bF [0,1,4,5] (hs:=[.b false,.b false,.b false,.b false,.b false,.b false]) (by kernel_rfl)<| .cons H1<| .cons H1<| .cons H1<| .cons H1<| .cons H1<| .cons (by kernel_rfl:false=false)<| .nil
theorem UQ(call:aI->List I->J->av)(s t:List UInt8)(h:J):
  aH Tryz.prog Tryz.f77 none call [1,1] (ah.mk [(0,.str s),(1,.str t)] [] .none h) (.ret)
   (ah.mk [(4,.bool (bM (.ofNat (List.length s)) (.ofNat (List.length t))))] [] .none h):=
 bF [4] (hs:=[]) (by kernel_rfl)<| .nil
theorem UR(call:aI->List I->J->av)(s:List UInt8)(h:J):
  aH Tryz.prog Tryz.f76 none call [0] (ah.mk [(0,.str s)] [] .none h) (.nrm)
   (ah.mk [(0,.str s)] [] .none h):=
 bF [0] (hs:=[]) (by kernel_rfl)<| .nil
theorem US(call:aI->List I->J->av)(s:List UInt8)(h:J):
  aH Tryz.prog Tryz.f81 none call [0] (ah.mk [(0,.str s)] [] .none h) (.nrm)
   (ah.mk [(0,.str s)] [] .none h):=
 bF [0] (hs:=[]) (by kernel_rfl)<| .nil
theorem UT(a b:Nat):fb (Int.ofNat a) (Int.ofNat b)=decide (a<=b):=by
 by_cases h:a<=b
 · rw[mA h];simp[h]
 · rw[ob h];simp[h]
theorem K6(a b:Nat):bM (Int.ofNat a) (Int.ofNat b)=decide (a<b):=by
 by_cases h:a<b
 · rw[dS h];simp[h]
 · rw[eW h];simp[h]
theorem tM(a b:Nat):a8 (Int.ofNat a) (Int.ofNat b)=decide (a=b):=by
 by_cases h:a=b
 · rw[mB h];simp[h]
 · rw[ji h];simp[h]
theorem E6(m n:Nat)(h:J):Y (m+1) (.fn 103) [.int .u8 (Int.ofNat n)] h=.ret (.bool (hi n)) h:=by
 have fin:∀b,aH Tryz.prog Tryz.f103 none (Y m) [] ⟨[(0,.int .u8 (Int.ofNat n))],[],.none,h⟩ .ret ⟨[(2,.bool b)],[],.none,h⟩->b=hi n->Y (m+1) (.fn 103) [.int .u8 (Int.ofNat n)] h=.ret (.bool (hi n)) h:=λb ak ae=>by
  rw[<-ae]
  exact eK (intr:=b1) (n:=m) (args:=[.int .u8 (Int.ofNat n)]) Tryz.func103 (by kernel_rfl) rfl (by kernel_rfl) ak (.inl rfl) (by kernel_rfl)
 by_cases ab:97<=n
 · by_cases ad:n<=122
   · exact fin true (Ul (Y m) n h (mA ab) (mA ad)) (by simp[hi,ab,ad])
   · exact fin _ (Um (Y m) n h (mA ab) (ob ad) (mA (by omega)) (ob (by omega))) (by rw[tM];simp[hi,ad];omega)
 · by_cases ar:65<=n
   · by_cases aJ:n<=90
     · exact fin true (Un (Y m) n h (ob ab) (mA ar) (mA aJ)) (by simp[hi,ar,aJ])
     · exact fin _ (Uo (Y m) n h (ob ab) (mA ar) (ob aJ)) (by rw[tM];simp[hi,ab,aJ])
   · exact fin _ (Up (Y m) n h (ob ab) (ob ar)) (by rw[tM];simp[hi,ab,ar])
theorem K7(m:Nat)(s:a5)(h:J)(hs:s.length<=90000):∀(k i:Nat),s.length-i=k->i<=s.length->
  ∃e Γ,ft Tryz.prog Tryz.f76 none (Y (m+1)) [1,1,0,1,0] (k+1) ⟨[(0,.str s),(3,.int .i64 (Int.ofNat i))],[],.none,h⟩ e ⟨Γ,[],.none,h⟩/\
   ((e=.exit 0/\Γ=[]/\(s.drop i).all (λc=>hi c.toNat||iU c.toNat)=true)\/(e=.ret/\Γ=[(2,.bool false)]/\(s.drop i).all (λc=>hi c.toNat||iU c.toNat)=false))
 |0,i,aq,af=>by
  obtain rfl:i=s.length:=by omega
  rw[List.drop_of_length_le (Nat.le_refl _)]
  exact⟨_,[],.exit (cZ.post (UL (Y (m+1)) s s.length 0 0 false h h (eW (by omega))) trivial) (by simp),.inl ⟨rfl,rfl,rfl⟩⟩
 |k+1,i,aq,af=>by
  have ab:i<s.length:=by omega
  rw[List.drop_eq_getElem_cons ab,List.all_cons]
  have aG:=E6 m s[i].toNat h
  have step:(hi s[i].toNat||iU s[i].toNat)=true->aH Tryz.prog Tryz.f76 none (Y (m+1)) [1,1,0,1,0,0] ⟨[(0,.str s),(3,.int .i64 (Int.ofNat i))],[],.none,h⟩ .nrm ⟨[(0,.str s),(3,.int .i64 (Int.ofNat (i+1)))],[],.none,h⟩:=λae=>by
   cases aw:hi s[i].toNat with
   |true=>
    rw[aw] at aG
    exact UK (Y (m+1)) s i _ (i+1) true h h (dS ab) (nr ab) aG rfl (j3 ab (by omega))
   |false=>
    rw[aw] at aG ae
    have ao:48<=s[i].toNat/\s[i].toNat<=57:=by simpa[iU] using ae
    exact UJ (Y (m+1)) s i _ (i+1) false h h (dS ab) (nr ab) aG rfl (eW (by omega)) (eW (by omega)) (j3 ab (by omega))
  cases ag:(hi s[i].toNat||iU s[i].toNat) with
  |true=>
   obtain⟨e,Γ,bB,b2⟩:=K7 m s h hs k (i+1) (by omega) (by omega)
   refine⟨e,Γ,.step (step ag) bB,?_⟩
   rw[Bool.true_and];exact b2
  |false=>
   obtain⟨aw,ao⟩:hi s[i].toNat=false/\iU s[i].toNat=false:=by simpa using ag
   rw[aw] at aG
   refine⟨_,[(2,.bool false)],.exit (e:=.ret) ?_ (by simp),.inr ⟨rfl,rfl,by rw[Bool.false_and]⟩⟩
   by_cases K8:s[i].toNat<48
   · exact cZ.post (UH (Y (m+1)) s i _ 0 false h h (dS ab) (nr ab) aG rfl (dS K8)) ⟨rfl,trivial⟩
   · exact cZ.post (UI (Y (m+1)) s i _ 0 false h h (dS ab) (nr ab) aG rfl (eW K8) (dS (by simp[iU] at ao;omega))) ⟨rfl,trivial⟩
end Go.Proofs.cF
namespace Go.Proofs.cF
open Go aM Go.Proofs c_
set_option maxRecDepth 100000
set_option maxHeartbeats 1000000
theorem K9(m:Nat)(s:a5)(h:J):Y (m+2) (.fn 76) [.str s] h=.ret (.bool (hP s)) h:=by
 have fin:∀b,aH Tryz.prog Tryz.f76 none (Y (m+1)) [1] ⟨[(0,.str s)],[],.none,h⟩ .ret ⟨[(2,.bool b)],[],.none,h⟩->b=hP s->Y (m+2) (.fn 76) [.str s] h=.ret (.bool (hP s)) h:=λb ak ae=>by
  rw[<-ae]
  exact eK (intr:=b1) (n:=m+1) (args:=[.str s]) Tryz.func76 (by kernel_rfl) rfl (by kernel_rfl) (aH.seq (p:=[]) (by kernel_rfl) (UR (Y (m+1)) s h) ak) (.inl rfl) (by kernel_rfl)
 by_cases ab:s.length<1
 · exact fin false (aH.iD (p:=[1]) (by kernel_rfl) (cZ.post (Uq (Y (m+1)) s 0 false h h (dS ab)) ⟨rfl,trivial⟩) (by simp)) (by simp[hP];omega)
 by_cases ad:24<s.length
 · exact fin false (aH.iD (p:=[1]) (by kernel_rfl) (cZ.post (Ur (Y (m+1)) s 0 false h h (eW ab) (dS ad)) ⟨rfl,trivial⟩) (by simp)) (by simp[hP];omega)
 have hs:s.length<=90000:=by omega
 have h0:0<s.length:=by omega
 have aG:=E6 m s[0].toNat h
 have ai:EX s=hi s[0].toNat:=by
  cases s with
  |nil=>simp at h0
  |cons c s=>rfl
 cases aw:hi s[0].toNat with
 |false=>
  rw[aw] at aG
  exact fin false (aH.iD (p:=[1]) (by kernel_rfl) (cZ.post (Us (Y (m+1)) s _ false h h (eW ab) (eW ad) (nr h0) aG rfl) ⟨rfl,trivial⟩) (by simp)) (by simp[hP,ai,aw])
 |true=>
  rw[aw] at aG
  have s1:=Ut (Y (m+1)) s _ true h h (eW ab) (eW ad) (nr h0) aG rfl
  obtain⟨e,Γ,bB,b2⟩:=K7 m s h hs s.length 0 (by omega) (by omega)
  have dq:=ft.run (p:=[1,1,0,1,0]) (by kernel_rfl) bB (by omega)
  rw[List.drop_zero] at b2
  have vF:1<=s.length:=h0
  have E7:s.length<=24:=by omega
  rcases b2 with⟨rfl,rfl,iq⟩|⟨rfl,rfl,iq⟩
  · exact fin true (aH.seq (p:=[1]) (by kernel_rfl) s1 (aH.seq (p:=[1,1]) (by kernel_rfl) (aH.seq (p:=[1,1,0]) (by kernel_rfl) (K2 (Y (m+1)) s h) (aH.block (p:=[1,1,0,1]) (id:=0) (by kernel_rfl) dq)) (Uu (Y (m+1)) h))) (by unfold hP;rw[iq,ai,aw];simp[vF,E7])
  · exact fin false (aH.seq (p:=[1]) (by kernel_rfl) s1 (aH.iD (p:=[1,1]) (by kernel_rfl) (aH.seq (p:=[1,1,0]) (by kernel_rfl) (K2 (Y (m+1)) s h) (aH.te (p:=[1,1,0,1]) (id:=0) (by kernel_rfl) dq (by simp))) (by simp))) (by unfold hP;rw[iq];simp)
theorem UU(call:aI->List I->J->av)(s:a5)(i n:Nat)(h:J)(ab:i<s.length)(hs:s.length<=90000)(ad:gH i s=some (.int .u8 (Int.ofNat n)))(aG:call (.fn 103) [.int .u8 (Int.ofNat n)] h=.ret (.bool (hi n)) h):
  if jQ n then aH Tryz.prog Tryz.f81 none call [1,1,0,1,0,0] ⟨[(0,.str s),(3,.int .i64 (Int.ofNat i))],[],.none,h⟩ .nrm ⟨[(0,.str s),(3,.int .i64 (Int.ofNat (i+1)))],[],.none,h⟩
  else aH Tryz.prog Tryz.f81 none call [1,1,0,1,0,0] ⟨[(0,.str s),(3,.int .i64 (Int.ofNat i))],[],.none,h⟩ .ret ⟨[(2,.bool false)],[],.none,h⟩:=by
 have aL:=j3 ab (m:=s.length) (by omega)
 have af:=dS ab
 have ne:∀{a b:Nat},a≠b->(!a8 (Int.ofNat a) (Int.ofNat b))=true:=λe=>E5 e
 have lq:∀{a b:Nat},a=b->(!a8 (Int.ofNat a) (Int.ofNat b))=false:=λe=>Bf e
 cases aw:hi n with
 |true=>
  rw[aw] at aG
  rw[if_pos (by simp[jQ,aw])]
  exact UE call s i n (i+1) true h h af ad aG rfl aL
 |false=>
  rw[aw] at aG
  by_cases cw:n<48
  · by_cases dm:n=45
    · rw[if_pos (by simp[jQ,dm])]
      exact UB call s i n (i+1) false h h af ad aG rfl (dS cw) (lq dm) aL
    by_cases e4:n=47
    · rw[if_pos (by simp[jQ,e4])]
      exact UA call s i n (i+1) false h h af ad aG rfl (dS cw) (ne dm) (lq e4) aL
    by_cases eX:n=46
    · rw[if_pos (by simp[jQ,eX])]
      exact Uz call s i n (i+1) false h h af ad aG rfl (dS cw) (ne dm) (ne e4) (lq eX) aL
    · rw[if_neg (by simp[jQ,aw,iU,dm,e4,eX];omega)]
      exact cZ.post (Uy call s i n 0 false h h af ad aG rfl (dS cw) (ne dm) (ne e4) (ne eX)) ⟨rfl,trivial⟩
  · by_cases c2:57<n
    · rw[if_neg (by simp[jQ,aw,iU];omega)]
      exact cZ.post (UC call s i n 0 false h h af ad aG rfl (eW cw) (dS c2) (ne (by omega)) (ne (by omega)) (ne (by omega))) ⟨rfl,trivial⟩
    · rw[if_pos (by simp[jQ,iU];omega)]
      exact UD call s i n (i+1) false h h af ad aG rfl (eW cw) (eW c2) aL
theorem K_(m:Nat)(s:a5)(h:J)(hs:s.length<=90000):∀(k i:Nat),s.length-i=k->i<=s.length->
  ∃e Γ,ft Tryz.prog Tryz.f81 none (Y (m+1)) [1,1,0,1,0] (k+1) ⟨[(0,.str s),(3,.int .i64 (Int.ofNat i))],[],.none,h⟩ e ⟨Γ,[],.none,h⟩/\
   ((e=.exit 0/\Γ=[]/\(s.drop i).all (λc=>jQ c.toNat)=true)\/(e=.ret/\Γ=[(2,.bool false)]/\(s.drop i).all (λc=>jQ c.toNat)=false))
 |0,i,aq,af=>by
  obtain rfl:i=s.length:=by omega
  rw[List.drop_of_length_le (Nat.le_refl _)]
  exact⟨_,[],.exit (cZ.post (UF (Y (m+1)) s s.length 0 0 false h h (eW (by omega))) trivial) (by simp),.inl ⟨rfl,rfl,rfl⟩⟩
 |k+1,i,aq,af=>by
  have ab:i<s.length:=by omega
  rw[List.drop_eq_getElem_cons ab,List.all_cons]
  have st:=UU (Y (m+1)) s i s[i].toNat h ab hs (nr ab) (E6 m s[i].toNat h)
  cases ag:jQ s[i].toNat with
  |true=>
   rw[if_pos ag] at st
   obtain⟨e,Γ,bB,b2⟩:=K_ m s h hs k (i+1) (by omega) (by omega)
   refine⟨e,Γ,.step st bB,?_⟩
   rw[Bool.true_and];exact b2
  |false=>
   rw[if_neg (by rw[ag];simp)] at st
   exact⟨_,_,.exit st (by simp),.inr ⟨rfl,rfl,by rw[Bool.false_and]⟩⟩
theorem UW(m:Nat)(s:a5)(h:J):Y (m+2) (.fn 81) [.str s] h=.ret (.bool (lo s)) h:=by
 have fin:∀b,aH Tryz.prog Tryz.f81 none (Y (m+1)) [1] ⟨[(0,.str s)],[],.none,h⟩ .ret ⟨[(2,.bool b)],[],.none,h⟩->b=lo s->Y (m+2) (.fn 81) [.str s] h=.ret (.bool (lo s)) h:=λb ak ae=>by
  rw[<-ae]
  exact eK (intr:=b1) (n:=m+1) (args:=[.str s]) Tryz.func81 (by kernel_rfl) rfl (by kernel_rfl) (aH.seq (p:=[]) (by kernel_rfl) (US (Y (m+1)) s h) ak) (.inl rfl) (by kernel_rfl)
 by_cases ab:s.length<1
 · exact fin false (aH.iD (p:=[1]) (by kernel_rfl) (cZ.post (Uv (Y (m+1)) s h (dS ab)) ⟨rfl,trivial⟩) (by simp)) (by simp[lo];omega)
 by_cases ad:161<s.length
 · exact fin false (aH.iD (p:=[1]) (by kernel_rfl) (cZ.post (Uw (Y (m+1)) s h (eW ab) (dS ad)) ⟨rfl,trivial⟩) (by simp)) (by simp[lo];omega)
 have hs:s.length<=90000:=by omega
 have s1:=Ux (Y (m+1)) s h (eW ab) (eW ad)
 obtain⟨e,Γ,bB,b2⟩:=K_ m s h hs s.length 0 (by omega) (by omega)
 have dq:=ft.run (p:=[1,1,0,1,0]) (by kernel_rfl) bB (by omega)
 rw[List.drop_zero] at b2
 have vF:1<=s.length:=by omega
 have E7:s.length<=161:=by omega
 rcases b2 with⟨rfl,rfl,iq⟩|⟨rfl,rfl,iq⟩
 · exact fin true (aH.seq (p:=[1]) (by kernel_rfl) s1 (aH.seq (p:=[1,1]) (by kernel_rfl) (aH.seq (p:=[1,1,0]) (by kernel_rfl) (K3 (Y (m+1)) s h) (aH.block (p:=[1,1,0,1]) (id:=0) (by kernel_rfl) dq)) (UG (Y (m+1)) h))) (by unfold lo;rw[iq];simp[vF,E7])
 · exact fin false (aH.seq (p:=[1]) (by kernel_rfl) s1 (aH.iD (p:=[1,1]) (by kernel_rfl) (aH.seq (p:=[1,1,0]) (by kernel_rfl) (K3 (Y (m+1)) s h) (aH.te (p:=[1,1,0,1]) (id:=0) (by kernel_rfl) dq (by simp))) (by simp))) (by unfold lo;rw[iq];simp)
theorem La(call:aI->List I->J->av)(s t:a5)(B:Nat)(h:J)(hs:s.length<=90000):∀(k i:Nat) (x:J),s.length-i=k->i<=s.length->i<=t.length->Ext B h x->
  ∃e Γ y,ft Tryz.prog Tryz.f77 none call [1,0,1,0] (k+1) ⟨[(0,.str s),(1,.str t),(5,.int .i64 (Int.ofNat i))],[],.none,x⟩ e ⟨Γ,[],.none,y⟩/\
   ((e=.exit 0/\Γ=[(0,.str s),(1,.str t)]/\dB (s.drop i) (t.drop i)=decide (s.length<t.length))\/(e=.ret/\Γ=[(4,.bool (dB (s.drop i) (t.drop i)))]))/\Ext B h y
 |0,i,x,aq,af,eJ,aa=>by
  obtain rfl:i=s.length:=by omega
  refine⟨_,[(0,.str s),(1,.str t)],_,.exit (cZ.post (UP call s t s.length 0 0 0 x (eW (by omega))) ⟨rfl,rfl,trivial⟩) (by simp),.inl ⟨rfl,rfl,?_⟩,aa⟩
  rw[List.drop_of_length_le (Nat.le_refl _)]
  cases ao:t.drop s.length with
  |nil=>
   have:t.length<=s.length:=List.drop_eq_nil_iff.1 ao
   rw[dB];simp;omega
  |cons c u=>
   have:s.length<t.length:=by
    have:=congrArg List.length ao
    simp at this;omega
   rw[dB];simp[this]
 |k+1,i,x,aq,af,eJ,aa=>by
  have ab:i<s.length:=by omega
  by_cases ad:i<t.length
  · rw[List.drop_eq_getElem_cons ab,List.drop_eq_getElem_cons ad,yn]
    by_cases he:s[i].toNat=t[i].toNat
    · rw[if_pos he]
      obtain⟨e,Γ,y,bB,b2,dq⟩:=La call s t B h hs k (i+1) (x.room 7) (by omega) (by omega) (by omega) aa.h3
      exact⟨e,Γ,y,.step (UN call s t i _ _ (i+1) x (dS ab) (dS ad) (nr ab) (nr ad) (Bf he) (j3 ab (by omega))) bB,b2,dq⟩
    · rw[if_neg he,<-K6]
      exact⟨_,[(4,.bool (bM (Int.ofNat s[i].toNat) (Int.ofNat t[i].toNat)))],_,.exit (cZ.post (UM call s t i _ _ 0 x (dS ab) (dS ad) (nr ab) (nr ad) (E5 he)) ⟨rfl,trivial⟩) (by simp),.inr ⟨rfl,rfl⟩,aa.h3.h3⟩
  · refine⟨_,[(0,.str s),(1,.str t)],_,.exit (cZ.post (UO call s t i 0 0 0 x (dS ab) (eW ad)) ⟨rfl,rfl,trivial⟩) (by simp),.inl ⟨rfl,rfl,?_⟩,aa⟩
    rw[List.drop_of_length_le (l:=t) (by omega)]
    have:dB (s.drop i) []=false:=by
     cases s.drop i<;>rw[dB]
    rw[this];simp;omega
theorem Bg(m:Nat)(s t:a5)(B:Nat)(h:J)(hs:s.length<=90000):∃an,Y (m+1) (.fn 77) [.str s,.str t] h=.ret (.bool (dB s t)) an/\Ext B h an:=by
 obtain⟨e,Γ,y,bB,b2,dq⟩:=La (Y m) s t B h hs s.length 0 h (by omega) (by omega) (by omega) (Ext.refl _ _)
 have im:=ft.run (p:=[1,0,1,0]) (by kernel_rfl) bB (by omega)
 rw[List.drop_zero,List.drop_zero] at b2
 rcases b2 with⟨rfl,rfl,iq⟩|⟨rfl,rfl⟩
 · rw[iq,<-K6]
   exact⟨y,eK (intr:=b1) (n:=m) (args:=[.str s,.str t]) Tryz.func77 (by kernel_rfl) rfl (by kernel_rfl) (aH.seq (p:=[]) (by kernel_rfl) (K4 (Y m) s t h) (aH.seq (p:=[1]) (by kernel_rfl) (aH.seq (p:=[1,0]) (by kernel_rfl) (K5 (Y m) s t h) (aH.block (p:=[1,0,1]) (id:=0) (by kernel_rfl) im)) (UQ (Y m) s t y))) (.inl rfl) (by kernel_rfl),dq⟩
 · exact⟨y,eK (intr:=b1) (n:=m) (args:=[.str s,.str t]) Tryz.func77 (by kernel_rfl) rfl (by kernel_rfl) (aH.seq (p:=[]) (by kernel_rfl) (K4 (Y m) s t h) (aH.iD (p:=[1]) (by kernel_rfl) (aH.seq (p:=[1,0]) (by kernel_rfl) (K5 (Y m) s t h) (aH.te (p:=[1,0,1]) (id:=0) (by kernel_rfl) im (by simp))) (by simp))) (.inl rfl) (by kernel_rfl),dq⟩
end Go.Proofs.cF
namespace Go.Proofs.cF
open Go aM Go.Proofs c_
set_option maxRecDepth 100000
set_option maxHeartbeats 1000000
theorem UX(call:aI->List I->J->av)(r:Nat)(h:J):
  aH Tryz.prog Tryz.f79 none call [0] (ah.mk [(0,.ptr r 0)] [] .none h) (.nrm)
   (ah.mk [(0,.ptr r 0)] [] .none h):=
 bF [0] (hs:=[]) (by kernel_rfl)<| .nil
theorem UY(call:aI->List I->J->av)(r:Nat)(h g:J)
  (H1:aM.storeCells (J.push h (.cells [.str [],.str [],.str [],.str [],.str []] 141 .own 0 0)) (J.n h) 0 [.str [97,110,121],.str [105,110,116],.str [98,111,111,108],.str [115,116,114],.str [110,105,108]]=some g):
  aH Tryz.prog Tryz.f79 none call [1,0] (ah.mk [(0,.ptr r 0)] [] .none h) (.nrm)
   (ah.mk [(0,.ptr r 0),(3,.ptr (J.n h) 0)] [] .none g):=
 bF [0,3] (hs:=[.lR (.aP []) g]) (by kernel_rfl)<| .cons (⟨by kernel_rfl,H1,rfl⟩:some 5=some 5/\aM.storeCells (J.push h (da.cells [I.str [],I.str [],I.str [],I.str [],I.str []] 141 gE.own 0 0)) (J.n h) 0 [I.str [97,110,121],I.str [105,110,116],I.str [98,111,111,108],I.str [115,116,114],I.str [110,105,108]]=some g/\I.aP []=I.aP [])<| .nil
theorem UZ(call:aI->List I->J->av)(r a:Nat)(h:J):
  aH Tryz.prog Tryz.f79 none call [1,1,0] (ah.mk [(0,.ptr r 0),(3,.ptr a 0)] [] .none h) (.nrm)
   (ah.mk [(0,.ptr r 0),(3,.ptr a 0),(4,.str [])] [] .none h):=
 bF [0,3,4] (hs:=[]) (by kernel_rfl)<| .nil
theorem U0(call:aI->List I->J->av)(r a k:Nat)(h:J)
  (H1:au h r (0+0)=some (.int .i64 (.ofNat k))):
  aH Tryz.prog Tryz.f79 none call [1,1,1,0,0] (ah.mk [(0,.ptr r 0),(3,.ptr a 0),(4,.str [])] [] .none h) (.nrm)
   (ah.mk [(0,.ptr r 0),(3,.ptr a 0),(4,.str []),(12,.int .i64 (.ofNat k))] [] .none h):=
 bF [0,3,4,12] (hs:=[.v (.int .i64 (.ofNat k))]) (by kernel_rfl)<| .cons H1<| .nil
theorem U1(call:aI->List I->J->av)(r a:Nat)(s:List UInt8)(h:J)
  (H1:au h r (0+1)=some (.str s)):
  aH Tryz.prog Tryz.f79 none call [1,1,1,0,1] (ah.mk [(0,.ptr r 0),(3,.ptr a 0),(4,.str []),(12,.int .i64 (.ofNat 6))] [] .none h) (.ret)
   (ah.mk [(2,.str s)] [] .none h):=
 bF [2] (hs:=[.b true,.v (.str s)]) (by kernel_rfl)<| .cons (by kernel_rfl:a8 (Int.ofNat 6) (Int.ofNat 6)=true)<| .cons H1<| .nil
theorem U2(call:aI->List I->J->av)(r a:Nat)(s s1 s2:List UInt8)(h g:J)
  (H1:aH Tryz.prog Tryz.f79 none call [1,1,1,0,1,0,1,1,1,0,0,1,0] (ah.mk [(5,.int .i64 (.ofNat 0)),(19,.bool (a8 (.ofNat 7) (.ofNat 7))),(13,.bool (a8 (.ofNat 7) (.ofNat 6))),(0,.ptr r 0),(3,.ptr a 0),(4,.str []),(12,.int .i64 (.ofNat 7))] [] .none h) (.exit 1) (ah.mk [(0,.ptr r 0),(4,.str s)] [] .none g))
  (aQ:gA .add [123] s=some (.str s1))
  (bq:gA .add s1 [125]=some (.str s2)):
  aH Tryz.prog Tryz.f79 none call [1,1,1,0,1] (ah.mk [(0,.ptr r 0),(3,.ptr a 0),(4,.str []),(12,.int .i64 (.ofNat 7))] [] .none h) (.ret)
   (ah.mk [(2,.str s2)] [] .none g):=
 bF [2] (hs:=[Hint.b false,Hint.b true,Hint.loop (bn.exit 1) (ah.mk [(0,I.ptr r 0),(4,I.str s)] [] bD.none g),Hint.v (I.str s1),Hint.v (I.str s2)]) (by kernel_rfl)<| .cons (by kernel_rfl:a8 (Int.ofNat 7) (Int.ofNat 6)=false)<| .cons (by kernel_rfl:a8 (Int.ofNat 7) (Int.ofNat 7)=true)<| .cons H1<| .cons aQ<| .cons bq<| .nil
theorem U3(call:aI->List I->J->av)(r a:Nat)(s s1 s2 bI bL:List UInt8)(v:I)(h g ax:J)
  (H1:aH Tryz.prog Tryz.f79 none call [1,1,1,0,1,0,1,1,1,1,1,0,0,1,0] (ah.mk [(6,.int .i64 (.ofNat 0)),(56,.bool (a8 (.ofNat 8) (.ofNat 8))),(19,.bool (a8 (.ofNat 8) (.ofNat 7))),(13,.bool (a8 (.ofNat 8) (.ofNat 6))),(0,.ptr r 0),(3,.ptr a 0),(4,.str []),(12,.int .i64 (.ofNat 8))] [] .none h) (.exit 3) (ah.mk [(0,.ptr r 0),(4,.str s)] [] .none g))
  (aQ:gA .add [102,110,40] s=some (.str s1))
  (bq:gA .add s1 [41,32,45,62,32]=some (.str s2))
  (bo:au g r (0+4)=some v)
  (bY:call (.fn 79) [v] g=av.ret (.str bI) ax)
  (cJ:gA .add s2 bI=some (.str bL)):
  aH Tryz.prog Tryz.f79 none call [1,1,1,0,1] (ah.mk [(0,.ptr r 0),(3,.ptr a 0),(4,.str []),(12,.int .i64 (.ofNat 8))] [] .none h) (.ret)
   (ah.mk [(2,.str bL)] [] .none ax):=
 bF [2] (hs:=[Hint.b false,Hint.b false,Hint.b true,Hint.loop (bn.exit 3) (ah.mk [(0,I.ptr r 0),(4,I.str s)] [] bD.none g),Hint.v (I.str s1),Hint.v (I.str s2),Hint.v v,Hint.c (I.str bI) ax,Hint.v (I.str bL)]) (by kernel_rfl)<| .cons (by kernel_rfl:a8 (Int.ofNat 8) (Int.ofNat 6)=false)<| .cons (by kernel_rfl:a8 (Int.ofNat 8) (Int.ofNat 7)=false)<| .cons (by kernel_rfl:a8 (Int.ofNat 8) (Int.ofNat 8)=true)<| .cons H1<| .cons aQ<| .cons bq<| .cons bo<| .cons bY<| .cons cJ<| .nil
theorem U4(call:aI->List I->J->av)(r a:Nat)(s:List UInt8)(h g:J)
  (H1:aH Tryz.prog Tryz.f79 none call [1,1,1,0,1,0,1,1,1,1,1,1,1,0,0,1,0] (ah.mk [(7,.int .i64 (.ofNat 0)),(90,.bool (a8 (.ofNat 9) (.ofNat 9))),(56,.bool (a8 (.ofNat 9) (.ofNat 8))),(19,.bool (a8 (.ofNat 9) (.ofNat 7))),(13,.bool (a8 (.ofNat 9) (.ofNat 6))),(0,.ptr r 0),(3,.ptr a 0),(4,.str []),(12,.int .i64 (.ofNat 9))] [] .none h) (.exit 5) (ah.mk [(0,.ptr r 0),(4,.str s)] [] .none g)):
  aH Tryz.prog Tryz.f79 none call [1,1,1,0,1] (ah.mk [(0,.ptr r 0),(3,.ptr a 0),(4,.str []),(12,.int .i64 (.ofNat 9))] [] .none h) (.ret)
   (ah.mk [(2,.str s)] [] .none g):=
 bF [2] (hs:=[Hint.b false,Hint.b false,Hint.b false,Hint.b true,Hint.loop (bn.exit 5) (ah.mk [(0,I.ptr r 0),(4,I.str s)] [] bD.none g)]) (by kernel_rfl)<| .cons (by kernel_rfl:a8 (Int.ofNat 9) (Int.ofNat 6)=false)<| .cons (by kernel_rfl:a8 (Int.ofNat 9) (Int.ofNat 7)=false)<| .cons (by kernel_rfl:a8 (Int.ofNat 9) (Int.ofNat 8)=false)<| .cons (by kernel_rfl:a8 (Int.ofNat 9) (Int.ofNat 9)=true)<| .cons H1<| .nil
theorem U5(call:aI->List I->J->av)(r a k:Nat)(h:J)
  (H1:a8 (.ofNat k) (.ofNat 6)=false)
  (aQ:a8 (.ofNat k) (.ofNat 7)=false)
  (bq:a8 (.ofNat k) (.ofNat 8)=false)
  (bo:a8 (.ofNat k) (.ofNat 9)=false):
  aH Tryz.prog Tryz.f79 none call [1,1,1,0,1] (ah.mk [(0,.ptr r 0),(3,.ptr a 0),(4,.str []),(12,.int .i64 (.ofNat k))] [] .none h) (.nrm)
   (ah.mk [(0,.ptr r 0),(3,.ptr a 0)] [] .none h):=
 bF [0,3] (hs:=[.b false,.b false,.b false,.b false]) (by kernel_rfl)<| .cons H1<| .cons aQ<| .cons bq<| .cons bo<| .nil
theorem U6(call:aI->List I->J->av)(r a k j q:Nat)(s:List UInt8)(h:J)
  (H1:au h r (0+0)=some (.int .i64 (.ofNat k)))
  (aQ:arith .sub .i64 (.ofNat k) (.ofNat 1)=some (.int .i64 (.ofNat j)))
  (bq:Nat.le (Nat.succ j) 5/\I.ptr a q=I.ptr a (0+j*1))
  (bo:au h a q=some (.str s)):
  aH Tryz.prog Tryz.f79 none call [1,1,1,1] (ah.mk [(0,.ptr r 0),(3,.ptr a 0)] [] .none h) (.ret)
   (ah.mk [(2,.str s)] [] .none h):=
 bF [2] (hs:=[.v (.int .i64 (.ofNat k)),.v (.int .i64 (.ofNat j)),.v (.ptr a q),.v (.str s)]) (by kernel_rfl)<| .cons H1<| .cons aQ<| .cons bq<| .cons bo<| .nil
theorem U7(call:aI->List I->J->av)(r i N:Nat)(s:List UInt8)(v:I)(h:J)
  (H1:au h r (0+3)=some v)
  (aQ:b9 Tryz.prog h 50 v=some (.int .i64 (.ofNat N)))
  (bq:bM (.ofNat i) (.ofNat N)=false):
  aH Tryz.prog Tryz.f79 none call [1,1,1,0,1,0,1,1,1,0,0,1,0,0] (ah.mk [(0,.ptr r 0),(4,.str s),(5,.int .i64 (.ofNat i))] [] .none h) (.exit 1)
   (ah.mk [(0,.ptr r 0),(4,.str s)] [] .none h):=
 bF [0,4] (hs:=[.v v,.o (.int .i64 (.ofNat N)),.b false]) (by kernel_rfl)<| .cons H1<| .cons aQ<| .cons bq<| .nil
theorem U8(call:aI->List I->J->av)(r i N:Nat)(s:List UInt8)(v:I)(h:J)
  (H1:au h r (0+3)=some v)
  (aQ:b9 Tryz.prog h 50 v=some (.int .i64 (.ofNat N)))
  (bq:bM (.ofNat i) (.ofNat N)=false):
  aH Tryz.prog Tryz.f79 none call [1,1,1,0,1,0,1,1,1,1,1,0,0,1,0,0] (ah.mk [(0,.ptr r 0),(4,.str s),(6,.int .i64 (.ofNat i))] [] .none h) (.exit 3)
   (ah.mk [(0,.ptr r 0),(4,.str s)] [] .none h):=
 bF [0,4] (hs:=[.v v,.o (.int .i64 (.ofNat N)),.b false]) (by kernel_rfl)<| .cons H1<| .cons aQ<| .cons bq<| .nil
theorem U9(call:aI->List I->J->av)(r i N:Nat)(s:List UInt8)(v:I)(h:J)
  (H1:au h r (0+3)=some v)
  (aQ:b9 Tryz.prog h 50 v=some (.int .i64 (.ofNat N)))
  (bq:bM (.ofNat i) (.ofNat N)=false):
  aH Tryz.prog Tryz.f79 none call [1,1,1,0,1,0,1,1,1,1,1,1,1,0,0,1,0,0] (ah.mk [(0,.ptr r 0),(4,.str s),(7,.int .i64 (.ofNat i))] [] .none h) (.exit 5)
   (ah.mk [(0,.ptr r 0),(4,.str s)] [] .none h):=
 bF [0,4] (hs:=[.v v,.o (.int .i64 (.ofNat N)),.b false]) (by kernel_rfl)<| .cons H1<| .cons aQ<| .cons bq<| .nil
theorem U_(call:aI->List I->J->av)(r b off N bH dU M i q a7 j:Nat)(s s1 s2 bI bL cb n w:List UInt8)(x:I)(cp eZ:b3)(h g:J)
  (H1:au h r (0+3)=some (.slice bH dU M eZ))
  (aQ:bM (.ofNat i) (.ofNat M)=true)
  (bq:bM (.ofNat 0) (.ofNat i)=true)
  (bo:gA .add s [44,32]=some (.str s1))
  (bY:au (J.room h 20) r (0+2)=some (.slice b off N cp))
  (cJ:Nat.le (Nat.succ i) N/\I.ptr b q=I.ptr b (off+i*1))
  (dk:au (J.room h 20) b q=some (.str n))
  (gy:gA .add s1 n=some (.str s2))
  (jy:gA .add s2 [58,32]=some (.str bI))
  (mN:au (J.room h 20) r (0+3)=some (.slice bH dU M eZ))
  (om:Nat.le (Nat.succ i) M/\I.ptr bH a7=I.ptr bH (dU+i*1))
  (rU:au (J.room h 20) bH a7=some x)
  (vG:call (.fn 79) [x] (J.room h 20)=av.ret (.str w) g)
  (Bh:gA .add bI w=some (.str bL))
  (E8:au g r (0+2)=some (.slice b off N cp))
  (E9:au g b q=some (.str n))
  (E_:I.sound x=true:=by first|with_reducible assumption|rfl|exact c7.snd (by with_reducible assumption)|exact c7.g5 (by with_reducible assumption)|exact ey.snd (by with_reducible assumption)|exact ey.g5 (by with_reducible assumption)|exact dE.snd (by with_reducible assumption)|exact dE.g5 (by with_reducible assumption))
  (Va:arith .add .i64 (.ofNat i) (.ofNat 1)=some (.int .i64 (.ofNat j))):
  aH Tryz.prog Tryz.f79 none call [1,1,1,0,1,0,1,1,1,0,0,1,0,0] (ah.mk [(0,.ptr r 0),(4,.str s),(5,.int .i64 (.ofNat i))] [] .none h) (.nrm)
   (ah.mk [(0,.ptr r 0),(4,.str bL),(5,.int .i64 (.ofNat j))] [] .none g):=
 bF [0,4,5] (hs:=[.v (.slice bH dU M eZ),.b true,.b true,.v (.str s1),.v (.slice b off N cp),.v (.ptr b q),.v (.str n),.v (.str s2),.v (.str bI),.v (.slice bH dU M eZ),.v (.ptr bH a7),.v x,.c (.str w) g,.v (.str bL),.v (.int .i64 (.ofNat j))]) (by kernel_rfl)<| .cons H1<| .cons aQ<| .cons bq<| .cons bo<| .cons bY<| .cons cJ<| .cons dk<| .cons gy<| .cons jy<| .cons mN<| .cons om<| .cons rU<| .cons vG<| .cons Bh<| .cons (by kernel_rfl:I.sound (I.str s1)=true)<| .cons (by kernel_rfl:I.str s1=I.str s1)<| .cons (by kernel_rfl:I.sound (I.str s1)=true)<| .cons (by kernel_rfl:I.str s1=I.str s1)<| .cons (by kernel_rfl:I.sound (I.ptr r 0)=true)<| .cons (by kernel_rfl:I.ptr r 0=I.ptr r 0)<| .cons (by kernel_rfl:I.sound (I.ptr r 0)=true)<| .cons (by kernel_rfl:I.ptr r 0=I.ptr r 0)<| .cons (by kernel_rfl:I.sound (I.ptr r 0)=true)<| .cons (by kernel_rfl:I.ptr r 0=I.ptr r 0)<| .cons (by kernel_rfl:I.sound (I.ptr r 0)=true)<| .cons (by kernel_rfl:I.ptr r 0=I.ptr r 0)<| .cons (by kernel_rfl:I.sound (I.ptr r (0+2))=true)<| .cons (by kernel_rfl:I.ptr r (0+2)=I.ptr r (0+2))<| .cons (by kernel_rfl:I.sound (I.ptr r (0+2))=true)<| .cons (by kernel_rfl:I.ptr r (0+2)=I.ptr r (0+2))<| .cons (by kernel_rfl:I.sound (I.slice b off N cp)=true)<| .cons E8<| .cons (by kernel_rfl:I.sound (I.slice b off N cp)=true)<| .cons bY<| .cons (by kernel_rfl:I.sound (I.int IntKind.i64 (Int.ofNat i))=true)<| .cons (by kernel_rfl:I.int IntKind.i64 (Int.ofNat i)=I.int IntKind.i64 (Int.ofNat i))<| .cons (by kernel_rfl:I.sound (I.int IntKind.i64 (Int.ofNat i))=true)<| .cons (by kernel_rfl:I.int IntKind.i64 (Int.ofNat i)=I.int IntKind.i64 (Int.ofNat i))<| .cons (by kernel_rfl:I.sound (I.ptr b q)=true)<| .cons cJ<| .cons (by kernel_rfl:I.sound (I.ptr b q)=true)<| .cons cJ<| .cons (by kernel_rfl:I.sound (I.str n)=true)<| .cons E9<| .cons (by kernel_rfl:I.sound (I.str n)=true)<| .cons dk<| .cons (by kernel_rfl:I.sound (I.str s2)=true)<| .cons gy<| .cons (by kernel_rfl:I.sound (I.str s2)=true)<| .cons gy<| .cons (by kernel_rfl:I.sound (I.str bI)=true)<| .cons jy<| .cons (by kernel_rfl:I.sound (I.str bI)=true)<| .cons jy<| .cons (by kernel_rfl:I.sound (I.ptr r 0)=true)<| .cons (by kernel_rfl:I.ptr r 0=I.ptr r 0)<| .cons (by kernel_rfl:I.sound (I.ptr r 0)=true)<| .cons (by kernel_rfl:I.ptr r 0=I.ptr r 0)<| .cons (by kernel_rfl:I.sound (I.ptr r (0+3))=true)<| .cons (by kernel_rfl:I.ptr r (0+3)=I.ptr r (0+3))<| .cons (by kernel_rfl:I.sound (I.slice bH dU M eZ)=true)<| .cons mN<| .cons (by kernel_rfl:I.sound (I.int IntKind.i64 (Int.ofNat i))=true)<| .cons (by kernel_rfl:I.int IntKind.i64 (Int.ofNat i)=I.int IntKind.i64 (Int.ofNat i))<| .cons (by kernel_rfl:I.sound (I.ptr bH a7)=true)<| .cons om<| .cons E_<| .cons rU<| .cons (by kernel_rfl:I.sound (I.str bL)=true)<| .cons Bh<| .cons (by kernel_rfl:I.sound (I.str bL)=true)<| .cons (by kernel_rfl:I.str bL=I.str bL)<| .cons Va<| .nil
theorem Vb(call:aI->List I->J->av)(r b off N bH dU M i q a7 j:Nat)(s s1 s2 bI bL cb n w:List UInt8)(x:I)(cp eZ:b3)(h g:J)
  (H1:au h r (0+3)=some (.slice bH dU M eZ))
  (aQ:bM (.ofNat i) (.ofNat M)=true)
  (bq:bM (.ofNat 0) (.ofNat i)=false)
  (bo:au (J.room h 20) r (0+2)=some (.slice b off N cp))
  (bY:Nat.le (Nat.succ i) N/\I.ptr b q=I.ptr b (off+i*1))
  (cJ:au (J.room h 20) b q=some (.str n))
  (dk:gA .add s n=some (.str s2))
  (gy:gA .add s2 [58,32]=some (.str bI))
  (jy:au (J.room h 20) r (0+3)=some (.slice bH dU M eZ))
  (mN:Nat.le (Nat.succ i) M/\I.ptr bH a7=I.ptr bH (dU+i*1))
  (om:au (J.room h 20) bH a7=some x)
  (rU:call (.fn 79) [x] (J.room h 20)=av.ret (.str w) g)
  (vG:gA .add bI w=some (.str bL))
  (Bh:au g r (0+2)=some (.slice b off N cp))
  (E8:au g b q=some (.str n))
  (E9:I.sound x=true:=by first|with_reducible assumption|rfl|exact c7.snd (by with_reducible assumption)|exact c7.g5 (by with_reducible assumption)|exact ey.snd (by with_reducible assumption)|exact ey.g5 (by with_reducible assumption)|exact dE.snd (by with_reducible assumption)|exact dE.g5 (by with_reducible assumption))
  (E_:arith .add .i64 (.ofNat i) (.ofNat 1)=some (.int .i64 (.ofNat j))):
  aH Tryz.prog Tryz.f79 none call [1,1,1,0,1,0,1,1,1,0,0,1,0,0] (ah.mk [(0,.ptr r 0),(4,.str s),(5,.int .i64 (.ofNat i))] [] .none h) (.nrm)
   (ah.mk [(0,.ptr r 0),(4,.str bL),(5,.int .i64 (.ofNat j))] [] .none g):=
 bF [0,4,5] (hs:=[.v (.slice bH dU M eZ),.b true,.b false,.v (.slice b off N cp),.v (.ptr b q),.v (.str n),.v (.str s2),.v (.str bI),.v (.slice bH dU M eZ),.v (.ptr bH a7),.v x,.c (.str w) g,.v (.str bL),.v (.int .i64 (.ofNat j))]) (by kernel_rfl)<| .cons H1<| .cons aQ<| .cons bq<| .cons bo<| .cons bY<| .cons cJ<| .cons dk<| .cons gy<| .cons jy<| .cons mN<| .cons om<| .cons rU<| .cons vG<| .cons (by kernel_rfl:I.sound (I.str s)=true)<| .cons (by kernel_rfl:I.str s=I.str s)<| .cons (by kernel_rfl:I.sound (I.str s)=true)<| .cons (by kernel_rfl:I.str s=I.str s)<| .cons (by kernel_rfl:I.sound (I.ptr r 0)=true)<| .cons (by kernel_rfl:I.ptr r 0=I.ptr r 0)<| .cons (by kernel_rfl:I.sound (I.ptr r 0)=true)<| .cons (by kernel_rfl:I.ptr r 0=I.ptr r 0)<| .cons (by kernel_rfl:I.sound (I.ptr r 0)=true)<| .cons (by kernel_rfl:I.ptr r 0=I.ptr r 0)<| .cons (by kernel_rfl:I.sound (I.ptr r 0)=true)<| .cons (by kernel_rfl:I.ptr r 0=I.ptr r 0)<| .cons (by kernel_rfl:I.sound (I.ptr r (0+2))=true)<| .cons (by kernel_rfl:I.ptr r (0+2)=I.ptr r (0+2))<| .cons (by kernel_rfl:I.sound (I.ptr r (0+2))=true)<| .cons (by kernel_rfl:I.ptr r (0+2)=I.ptr r (0+2))<| .cons (by kernel_rfl:I.sound (I.slice b off N cp)=true)<| .cons Bh<| .cons (by kernel_rfl:I.sound (I.slice b off N cp)=true)<| .cons bo<| .cons (by kernel_rfl:I.sound (I.int IntKind.i64 (Int.ofNat i))=true)<| .cons (by kernel_rfl:I.int IntKind.i64 (Int.ofNat i)=I.int IntKind.i64 (Int.ofNat i))<| .cons (by kernel_rfl:I.sound (I.int IntKind.i64 (Int.ofNat i))=true)<| .cons (by kernel_rfl:I.int IntKind.i64 (Int.ofNat i)=I.int IntKind.i64 (Int.ofNat i))<| .cons (by kernel_rfl:I.sound (I.ptr b q)=true)<| .cons bY<| .cons (by kernel_rfl:I.sound (I.ptr b q)=true)<| .cons bY<| .cons (by kernel_rfl:I.sound (I.str n)=true)<| .cons E8<| .cons (by kernel_rfl:I.sound (I.str n)=true)<| .cons cJ<| .cons (by kernel_rfl:I.sound (I.str s2)=true)<| .cons dk<| .cons (by kernel_rfl:I.sound (I.str s2)=true)<| .cons dk<| .cons (by kernel_rfl:I.sound (I.str bI)=true)<| .cons gy<| .cons (by kernel_rfl:I.sound (I.str bI)=true)<| .cons gy<| .cons (by kernel_rfl:I.sound (I.ptr r 0)=true)<| .cons (by kernel_rfl:I.ptr r 0=I.ptr r 0)<| .cons (by kernel_rfl:I.sound (I.ptr r 0)=true)<| .cons (by kernel_rfl:I.ptr r 0=I.ptr r 0)<| .cons (by kernel_rfl:I.sound (I.ptr r (0+3))=true)<| .cons (by kernel_rfl:I.ptr r (0+3)=I.ptr r (0+3))<| .cons (by kernel_rfl:I.sound (I.slice bH dU M eZ)=true)<| .cons jy<| .cons (by kernel_rfl:I.sound (I.int IntKind.i64 (Int.ofNat i))=true)<| .cons (by kernel_rfl:I.int IntKind.i64 (Int.ofNat i)=I.int IntKind.i64 (Int.ofNat i))<| .cons (by kernel_rfl:I.sound (I.ptr bH a7)=true)<| .cons mN<| .cons E9<| .cons om<| .cons (by kernel_rfl:I.sound (I.str bL)=true)<| .cons vG<| .cons (by kernel_rfl:I.sound (I.str bL)=true)<| .cons (by kernel_rfl:I.str bL=I.str bL)<| .cons E_<| .nil
theorem Vc(call:aI->List I->J->av)(r b off N bH dU M i q a7 j:Nat)(s s1 s2 bI bL cb n w:List UInt8)(x:I)(cp eZ:b3)(h g:J)
  (H1:au h r (0+3)=some (.slice bH dU M eZ))
  (aQ:bM (.ofNat i) (.ofNat M)=true)
  (bq:bM (.ofNat 0) (.ofNat i)=true)
  (bo:gA .add s [44,32]=some (.str s1))
  (bY:Nat.le (Nat.succ i) M/\I.ptr bH a7=I.ptr bH (dU+i*1))
  (cJ:au h bH a7=some x)
  (dk:call (.fn 79) [x] h=av.ret (.str w) g)
  (gy:gA .add s1 w=some (.str s2))
  (jy:arith .add .i64 (.ofNat i) (.ofNat 1)=some (.int .i64 (.ofNat j))):
  aH Tryz.prog Tryz.f79 none call [1,1,1,0,1,0,1,1,1,1,1,0,0,1,0,0] (ah.mk [(0,.ptr r 0),(4,.str s),(6,.int .i64 (.ofNat i))] [] .none h) (.nrm)
   (ah.mk [(0,.ptr r 0),(4,.str s2),(6,.int .i64 (.ofNat j))] [] .none g):=
 bF [0,4,6] (hs:=[.v (.slice bH dU M eZ),.b true,.b true,.v (.str s1),.v (.slice bH dU M eZ),.v (.ptr bH a7),.v x,.c (.str w) g,.v (.str s2),.v (.int .i64 (.ofNat j))]) (by kernel_rfl)<| .cons H1<| .cons aQ<| .cons bq<| .cons bo<| .cons H1<| .cons bY<| .cons cJ<| .cons dk<| .cons gy<| .cons jy<| .nil
theorem Vd(call:aI->List I->J->av)(r b off N bH dU M i q a7 j:Nat)(s s1 s2 bI bL cb n w:List UInt8)(x:I)(cp eZ:b3)(h g:J)
  (H1:au h r (0+3)=some (.slice bH dU M eZ))
  (aQ:bM (.ofNat i) (.ofNat M)=true)
  (bq:bM (.ofNat 0) (.ofNat i)=false)
  (bo:Nat.le (Nat.succ i) M/\I.ptr bH a7=I.ptr bH (dU+i*1))
  (bY:au h bH a7=some x)
  (cJ:call (.fn 79) [x] h=av.ret (.str w) g)
  (dk:gA .add s w=some (.str s2))
  (gy:arith .add .i64 (.ofNat i) (.ofNat 1)=some (.int .i64 (.ofNat j))):
  aH Tryz.prog Tryz.f79 none call [1,1,1,0,1,0,1,1,1,1,1,0,0,1,0,0] (ah.mk [(0,.ptr r 0),(4,.str s),(6,.int .i64 (.ofNat i))] [] .none h) (.nrm)
   (ah.mk [(0,.ptr r 0),(4,.str s2),(6,.int .i64 (.ofNat j))] [] .none g):=
 bF [0,4,6] (hs:=[.v (.slice bH dU M eZ),.b true,.b false,.v (.slice bH dU M eZ),.v (.ptr bH a7),.v x,.c (.str w) g,.v (.str s2),.v (.int .i64 (.ofNat j))]) (by kernel_rfl)<| .cons H1<| .cons aQ<| .cons bq<| .cons H1<| .cons bo<| .cons bY<| .cons cJ<| .cons dk<| .cons gy<| .nil
theorem Ve(call:aI->List I->J->av)(r b off N bH dU M i q a7 j m k:Nat)(s s1 s2 bI bL cb n w:List UInt8)(x:I)(cp eZ:b3)(h g:J)
  (H1:au h r (0+3)=some (.slice bH dU M eZ))
  (aQ:bM (.ofNat i) (.ofNat M)=true)
  (bq:bM (.ofNat 0) (.ofNat i)=true)
  (bo:gA .add s [32,124,32]=some (.str s1))
  (bY:Nat.le (Nat.succ i) M/\I.ptr bH a7=I.ptr bH (dU+i*1))
  (cJ:au h bH a7=some (.ptr m 0))
  (dk:au h m (0+0)=some (.int .i64 (.ofNat k)))
  (gy:a8 (.ofNat k) (.ofNat 8)=true)
  (jy:gA .add s1 [40]=some (.str s2))
  (mN:call (.fn 79) [.ptr m 0] h=av.ret (.str w) g)
  (om:gA .add s2 w=some (.str bI))
  (rU:gA .add bI [41]=some (.str bL))
  (vG:arith .add .i64 (.ofNat i) (.ofNat 1)=some (.int .i64 (.ofNat j))):
  aH Tryz.prog Tryz.f79 none call [1,1,1,0,1,0,1,1,1,1,1,1,1,0,0,1,0,0] (ah.mk [(0,.ptr r 0),(4,.str s),(7,.int .i64 (.ofNat i))] [] .none h) (.nrm)
   (ah.mk [(0,.ptr r 0),(4,.str bL),(7,.int .i64 (.ofNat j))] [] .none g):=
 bF [0,4,7] (hs:=[.v (.slice bH dU M eZ),.b true,.b true,.v (.str s1),.v (.slice bH dU M eZ),.v (.ptr bH a7),.v (.ptr m 0),.v (.int .i64 (.ofNat k)),.b true,.v (.str s2),.v (.slice bH dU M eZ),.v (.ptr bH a7),.v (.ptr m 0),.c (.str w) g,.v (.str bI),.v (.str bL),.v (.int .i64 (.ofNat j))]) (by kernel_rfl)<| .cons H1<| .cons aQ<| .cons bq<| .cons bo<| .cons H1<| .cons bY<| .cons cJ<| .cons dk<| .cons gy<| .cons jy<| .cons H1<| .cons bY<| .cons cJ<| .cons mN<| .cons om<| .cons rU<| .cons vG<| .nil
theorem Vf(call:aI->List I->J->av)(r b off N bH dU M i q a7 j m k:Nat)(s s1 s2 bI bL cb n w:List UInt8)(x:I)(cp eZ:b3)(h g:J)
  (H1:au h r (0+3)=some (.slice bH dU M eZ))
  (aQ:bM (.ofNat i) (.ofNat M)=true)
  (bq:bM (.ofNat 0) (.ofNat i)=true)
  (bo:gA .add s [32,124,32]=some (.str s1))
  (bY:Nat.le (Nat.succ i) M/\I.ptr bH a7=I.ptr bH (dU+i*1))
  (cJ:au h bH a7=some (.ptr m 0))
  (dk:au h m (0+0)=some (.int .i64 (.ofNat k)))
  (gy:a8 (.ofNat k) (.ofNat 8)=false)
  (jy:call (.fn 79) [.ptr m 0] h=av.ret (.str w) g)
  (mN:gA .add s1 w=some (.str s2))
  (om:arith .add .i64 (.ofNat i) (.ofNat 1)=some (.int .i64 (.ofNat j))):
  aH Tryz.prog Tryz.f79 none call [1,1,1,0,1,0,1,1,1,1,1,1,1,0,0,1,0,0] (ah.mk [(0,.ptr r 0),(4,.str s),(7,.int .i64 (.ofNat i))] [] .none h) (.nrm)
   (ah.mk [(0,.ptr r 0),(4,.str s2),(7,.int .i64 (.ofNat j))] [] .none g):=
 bF [0,4,7] (hs:=[.v (.slice bH dU M eZ),.b true,.b true,.v (.str s1),.v (.slice bH dU M eZ),.v (.ptr bH a7),.v (.ptr m 0),.v (.int .i64 (.ofNat k)),.b false,.v (.slice bH dU M eZ),.v (.ptr bH a7),.v (.ptr m 0),.c (.str w) g,.v (.str s2),.v (.int .i64 (.ofNat j))]) (by kernel_rfl)<| .cons H1<| .cons aQ<| .cons bq<| .cons bo<| .cons H1<| .cons bY<| .cons cJ<| .cons dk<| .cons gy<| .cons H1<| .cons bY<| .cons cJ<| .cons jy<| .cons mN<| .cons om<| .nil
theorem Vg(call:aI->List I->J->av)(r b off N bH dU M i q a7 j m k:Nat)(s s1 s2 bI bL cb n w:List UInt8)(x:I)(cp eZ:b3)(h g:J)
  (H1:au h r (0+3)=some (.slice bH dU M eZ))
  (aQ:bM (.ofNat i) (.ofNat M)=true)
  (bq:bM (.ofNat 0) (.ofNat i)=false)
  (bo:Nat.le (Nat.succ i) M/\I.ptr bH a7=I.ptr bH (dU+i*1))
  (bY:au h bH a7=some (.ptr m 0))
  (cJ:au h m (0+0)=some (.int .i64 (.ofNat k)))
  (dk:a8 (.ofNat k) (.ofNat 8)=true)
  (gy:gA .add s [40]=some (.str s2))
  (jy:call (.fn 79) [.ptr m 0] h=av.ret (.str w) g)
  (mN:gA .add s2 w=some (.str bI))
  (om:gA .add bI [41]=some (.str bL))
  (rU:arith .add .i64 (.ofNat i) (.ofNat 1)=some (.int .i64 (.ofNat j))):
  aH Tryz.prog Tryz.f79 none call [1,1,1,0,1,0,1,1,1,1,1,1,1,0,0,1,0,0] (ah.mk [(0,.ptr r 0),(4,.str s),(7,.int .i64 (.ofNat i))] [] .none h) (.nrm)
   (ah.mk [(0,.ptr r 0),(4,.str bL),(7,.int .i64 (.ofNat j))] [] .none g):=
 bF [0,4,7] (hs:=[.v (.slice bH dU M eZ),.b true,.b false,.v (.slice bH dU M eZ),.v (.ptr bH a7),.v (.ptr m 0),.v (.int .i64 (.ofNat k)),.b true,.v (.str s2),.v (.slice bH dU M eZ),.v (.ptr bH a7),.v (.ptr m 0),.c (.str w) g,.v (.str bI),.v (.str bL),.v (.int .i64 (.ofNat j))]) (by kernel_rfl)<| .cons H1<| .cons aQ<| .cons bq<| .cons H1<| .cons bo<| .cons bY<| .cons cJ<| .cons dk<| .cons gy<| .cons H1<| .cons bo<| .cons bY<| .cons jy<| .cons mN<| .cons om<| .cons rU<| .nil
theorem Vh(call:aI->List I->J->av)(r b off N bH dU M i q a7 j m k:Nat)(s s1 s2 bI bL cb n w:List UInt8)(x:I)(cp eZ:b3)(h g:J)
  (H1:au h r (0+3)=some (.slice bH dU M eZ))
  (aQ:bM (.ofNat i) (.ofNat M)=true)
  (bq:bM (.ofNat 0) (.ofNat i)=false)
  (bo:Nat.le (Nat.succ i) M/\I.ptr bH a7=I.ptr bH (dU+i*1))
  (bY:au h bH a7=some (.ptr m 0))
  (cJ:au h m (0+0)=some (.int .i64 (.ofNat k)))
  (dk:a8 (.ofNat k) (.ofNat 8)=false)
  (gy:call (.fn 79) [.ptr m 0] h=av.ret (.str w) g)
  (jy:gA .add s w=some (.str s2))
  (mN:arith .add .i64 (.ofNat i) (.ofNat 1)=some (.int .i64 (.ofNat j))):
  aH Tryz.prog Tryz.f79 none call [1,1,1,0,1,0,1,1,1,1,1,1,1,0,0,1,0,0] (ah.mk [(0,.ptr r 0),(4,.str s),(7,.int .i64 (.ofNat i))] [] .none h) (.nrm)
   (ah.mk [(0,.ptr r 0),(4,.str s2),(7,.int .i64 (.ofNat j))] [] .none g):=
 bF [0,4,7] (hs:=[.v (.slice bH dU M eZ),.b true,.b false,.v (.slice bH dU M eZ),.v (.ptr bH a7),.v (.ptr m 0),.v (.int .i64 (.ofNat k)),.b false,.v (.slice bH dU M eZ),.v (.ptr bH a7),.v (.ptr m 0),.c (.str w) g,.v (.str s2),.v (.int .i64 (.ofNat j))]) (by kernel_rfl)<| .cons H1<| .cons aQ<| .cons bq<| .cons H1<| .cons bo<| .cons bY<| .cons cJ<| .cons dk<| .cons H1<| .cons bo<| .cons bY<| .cons gy<| .cons jy<| .cons mN<| .nil
theorem Bi{fn:Func}{call:aI->List I->J->av}{p:List Nat}{e:bn}{reg R B N:Nat}{h:J}{sep:a5}{items:List a5}(gG:items.length=N)(he:e≠ .nrm)
  (step:∀i (af:i<items.length) x,Ext B h x->∃y,aH Tryz.prog fn none call (p++[0]) ⟨[(0,.ptr R 0),(4,.str (dW sep (items.take i))),(reg,.int .i64 (Int.ofNat i))],[],.none,x⟩ .nrm ⟨[(0,.ptr R 0),(4,.str (dW sep (items.take (i+1)))),(reg,.int .i64 (Int.ofNat (i+1)))],[],.none,y⟩/\Ext B h y)
  (exit:∀x s,Ext B h x->aH Tryz.prog fn none call (p++[0]) ⟨[(0,.ptr R 0),(4,.str s),(reg,.int .i64 (Int.ofNat N))],[],.none,x⟩ e ⟨[(0,.ptr R 0),(4,.str s)],[],.none,x⟩):
  ∀(k i:Nat) (x:J),N-i=k->i<=N->Ext B h x->∃y,ft Tryz.prog fn none call p (k+1) ⟨[(0,.ptr R 0),(4,.str (dW sep (items.take i))),(reg,.int .i64 (Int.ofNat i))],[],.none,x⟩ e ⟨[(0,.ptr R 0),(4,.str (dW sep items))],[],.none,y⟩/\Ext B h y
 |0,i,x,aq,af,aa=>by
  obtain rfl:i=N:=by omega
  rw[List.take_of_length_le (by omega)]
  exact⟨x,.exit (exit x _ aa) he,aa⟩
 |k+1,i,x,aq,af,aa=>by
  obtain⟨y,s1,s2⟩:=step i (by omega) x aa
  obtain⟨z,bB,b2⟩:=Bi gG he step exit k (i+1) y (by omega) (by omega) s2
  exact⟨z,.step s1 bB,b2⟩
abbrev yw(m B:Nat)(h:J)(vs:List I)(ws:List a5):Prop:=∀i (ab:i<vs.length) (ad:i<ws.length) x,Ext B h x->∃an,Y m (.fn 79) [vs[i]] x=.ret (.str ws[i]) an/\Ext B x an
theorem Vi{m B R i:Nat}{h x:J}{j1 hL bJ bd cU:I}{bh:gE}{aN up:Nat}{vs:List I}{ws:List a5}(ee:R<B)(al:h.get R=some (.cells [j1,hL,bJ,bd,cU] 80 bh aN up))(aB:c7 B h bd vs)(aw:ws.length=vs.length)(hlen:vs.length<=90000)(ae:(dW [44,32] ws).length<=1000000)(a6:yw m B h vs ws)(af:i<ws.length)(aa:Ext B h x):
  ∃y,aH Tryz.prog Tryz.f79 none (Y m) [1,1,1,0,1,0,1,1,1,1,1,0,0,1,0,0] ⟨[(0,.ptr R 0),(4,.str (dW [44,32] (ws.take i))),(6,.int .i64 (Int.ofNat i))],[],.none,x⟩ .nrm ⟨[(0,.ptr R 0),(4,.str (dW [44,32] (ws.take (i+1)))),(6,.int .i64 (Int.ofNat (i+1)))],[],.none,y⟩/\Ext B h y:=by
 have ab:i<vs.length:=by omega
 have eV:=(aa.get R ee).trans al
 rcases aB with⟨_,rfl⟩|⟨b,off,cp,rfl,iP,ik,oo⟩
 · simp at ab
 have aA:au x b (off+i*1)=some vs[i]:=(nE aa iP).trans (ik i ab)
 obtain⟨g,aG,a9⟩:=a6 i ab af x aa
 have t1:=yo [44,32] ws i
 have t2:=tJ [44,32] ws af
 refine⟨g,?_,aa.trans (Nat.le_refl _) a9⟩
 rw[tI [44,32] ws af]
 by_cases h0:0<i
 · rw[if_pos h0]
   exact Vc (Y m) R 0 0 0 b off vs.length i 0 (off+i*1) (i+1) _ _ _ [] [] [] [] ws[i] vs[i] (.exact 0) cp x g (aU eV rfl) (dS ab) (dS h0) (hy (by simp;omega)) ⟨ab,rfl⟩ aA aG (hy (by simp;omega)) (j3 ab (by omega))
 · rw[if_neg h0]
   obtain rfl:i=0:=by omega
   exact Vd (Y m) R 0 0 0 b off vs.length 0 0 (off+0*1) 1 _ [] _ [] [] [] [] ws[0] vs[0] (.exact 0) cp x g (aU eV rfl) (dS ab) (eW (by omega)) ⟨ab,rfl⟩ aA aG (hy (x:=[]) (by simp;omega)) (j3 ab (by omega))
end Go.Proofs.cF
namespace Go.Proofs.cF
open Go aM Go.Proofs c_
set_option maxRecDepth 100000
set_option maxHeartbeats 1000000
theorem Vj{m B R i:Nat}{h x:J}{j1 hL bJ bd cU:I}{bh:gE}{aN up:Nat}{ns:List a5}{vs:List I}{ws:List a5}(ee:R<B)(al:h.get R=some (.cells [j1,hL,bJ,bd,cU] 80 bh aN up))(aK:c7 B h bJ (ns.map .str))(aB:c7 B h bd vs)(kZ:ns.length=vs.length)(aw:ws.length=vs.length)(hlen:vs.length<=90000)(ae:(dW [44,32] (gS ns ws)).length<=1000000)(eA:∀i (ab:i<vs.length),I.sound vs[i]=true)(a6:yw m B h vs ws)(af:i<(gS ns ws).length)(aa:Ext B h x):
  ∃y,aH Tryz.prog Tryz.f79 none (Y m) [1,1,1,0,1,0,1,1,1,0,0,1,0,0] ⟨[(0,.ptr R 0),(4,.str (dW [44,32] ((gS ns ws).take i))),(5,.int .i64 (Int.ofNat i))],[],.none,x⟩ .nrm ⟨[(0,.ptr R 0),(4,.str (dW [44,32] ((gS ns ws).take (i+1)))),(5,.int .i64 (Int.ofNat (i+1)))],[],.none,y⟩/\Ext B h y:=by
 have jR:(gS ns ws).length=vs.length:=by unfold gS;rw[List.length_zipWith];omega
 have ab:i<vs.length:=by omega
 have ad:i<ns.length:=by omega
 have ar:i<ws.length:=by omega
 have eV:=(aa.get R ee).trans al
 have ak:=aa.h3 (k:=20)
 have hR:=(ak.get R ee).trans al
 rcases aB with⟨_,rfl⟩|⟨b,off,cp,rfl,iP,ik,oo⟩
 · simp at ab
 rcases aK.strs with⟨_,rfl⟩|⟨bH,dU,eZ,rfl,fw,rl⟩
 · simp at ad
 have aA:au (x.room 20) b (off+i*1)=some vs[i]:=(nE ak iP).trans (ik i ab)
 have ay:au (x.room 20) bH (dU+i*1)=some (.str ns[i]):=(nE ak fw).trans (rl i ad)
 obtain⟨g,aG,a9⟩:=a6 i ab ar (x.room 20) ak
 have vH:=ak.trans (Nat.le_refl _) a9
 have yx:=(vH.get R ee).trans al
 have bx:au g bH (dU+i*1)=some (.str ns[i]):=(nE vH fw).trans (rl i ad)
 have t1:=yo [44,32] (gS ns ws) i
 have t2:=tJ [44,32] (gS ns ws) af
 have mi:(gS ns ws)[i]=ns[i]++[58,32]++ws[i]:=List.getElem_zipWith (f:=λn w=>n++[58,32]++w) (h:=af)
 have t3:ns[i].length+2+ws[i].length<=1000000:=by
  rw[mi] at t2
  simp at t2;omega
 refine⟨g,?_,vH⟩
 rw[tI [44,32] (gS ns ws) af,mi]
 by_cases h0:0<i
 · rw[if_pos h0,<-List.append_assoc,<-List.append_assoc]
   exact U_ (Y m) R bH dU ns.length b off vs.length i (dU+i*1) (off+i*1) (i+1) _ _ _ _ _ [] ns[i] ws[i] vs[i] eZ cp x g (aU eV rfl) (dS ab) (dS h0) (hy (by simp;omega)) (aU hR rfl) ⟨ad,rfl⟩ ay (hy (by simp;omega)) (hy (by simp;omega)) (aU hR rfl) ⟨ab,rfl⟩ aA aG (hy (by simp;omega)) (aU yx rfl) bx (eA i ab) (j3 ab (by omega))
 · rw[if_neg h0]
   obtain rfl:i=0:=by omega
   exact Vb (Y m) R bH dU ns.length b off vs.length 0 (dU+0*1) (off+0*1) 1 _ [] _ _ _ [] ns[0] ws[0] vs[0] eZ cp x g (aU eV rfl) (dS ab) (eW (by omega)) (aU hR rfl) ⟨ad,rfl⟩ ay (hy (x:=[]) (by simp;omega)) (hy (by simp;omega)) (aU hR rfl) ⟨ab,rfl⟩ aA aG (hy (by simp;omega)) (aU yx rfl) bx (eA 0 ab) (j3 ab (by omega))
theorem Vk{m B R i:Nat}{h x:J}{j1 hL bJ bd cU:I}{bh:gE}{aN up:Nat}{eY:List Nat}{vs:List I}{ws:List a5}(ee:R<B)(al:h.get R=some (.cells [j1,hL,bJ,bd,cU] 80 bh aN up))(aB:c7 B h bd vs)(Kg:eY.length=vs.length)(aw:ws.length=vs.length)(hlen:vs.length<=90000)(ae:(dW [32,124,32] (hA eY ws)).length<=1000000)
  (o8:∀i (ab:i<vs.length) (ad:i<eY.length),∃M,vs[i]=.ptr M 0/\∀x,Ext B h x->au x M (0+0)=some (.int .i64 (Int.ofNat eY[i])))(a6:yw m B h vs ws)(af:i<(hA eY ws).length)(aa:Ext B h x):
  ∃y,aH Tryz.prog Tryz.f79 none (Y m) [1,1,1,0,1,0,1,1,1,1,1,1,1,0,0,1,0,0] ⟨[(0,.ptr R 0),(4,.str (dW [32,124,32] ((hA eY ws).take i))),(7,.int .i64 (Int.ofNat i))],[],.none,x⟩ .nrm ⟨[(0,.ptr R 0),(4,.str (dW [32,124,32] ((hA eY ws).take (i+1)))),(7,.int .i64 (Int.ofNat (i+1)))],[],.none,y⟩/\Ext B h y:=by
 have jR:(hA eY ws).length=vs.length:=by unfold hA;rw[List.length_zipWith];omega
 have ab:i<vs.length:=by omega
 have ad:i<eY.length:=by omega
 have ar:i<ws.length:=by omega
 have eV:=(aa.get R ee).trans al
 obtain⟨M,gT,qw⟩:=o8 i ab ad
 have pw:=qw x aa
 rcases aB with⟨_,rfl⟩|⟨b,off,cp,rfl,iP,ik,oo⟩
 · simp at ab
 have aA:au x b (off+i*1)=some (.ptr M 0):=by rw[<-gT];exact(nE aa iP).trans (ik i ab)
 obtain⟨g,aG,a9⟩:=a6 i ab ar x aa
 rw[gT] at aG
 have t1:=yo [32,124,32] (hA eY ws) i
 have t2:=tJ [32,124,32] (hA eY ws) af
 have mi:(hA eY ws)[i]=if eY[i]=8 then[40]++ws[i]++[41] else ws[i]:=List.getElem_zipWith (f:=λ(k:Nat) (w:a5)=>if k=8 then[40]++w++[41] else w) (h:=af)
 refine⟨g,?_,aa.trans (Nat.le_refl _) a9⟩
 rw[tI [32,124,32] (hA eY ws) af,mi]
 rw[mi] at t2
 by_cases hq:eY[i]=8
 · rw[if_pos hq] at t2⊢
   have t3:ws[i].length+2<=1000000:=by simp at t2;omega
   by_cases h0:0<i
   · rw[if_pos h0,<-List.append_assoc,<-List.append_assoc]
     exact Ve (Y m) R 0 0 0 b off vs.length i 0 (off+i*1) (i+1) M eY[i] _ _ _ _ _ [] [] ws[i] .bb (.exact 0) cp x g (aU eV rfl) (dS ab) (dS h0) (hy (by simp;omega)) ⟨ab,rfl⟩ aA pw (mB hq) (hy (by simp;omega)) aG (hy (by simp;omega)) (hy (by simp;omega)) (j3 ab (by omega))
   · rw[if_neg h0]
     obtain rfl:i=0:=by omega
     exact Vg (Y m) R 0 0 0 b off vs.length 0 0 (off+0*1) 1 M eY[0] _ [] _ _ _ [] [] ws[0] .bb (.exact 0) cp x g (aU eV rfl) (dS ab) (eW (by omega)) ⟨ab,rfl⟩ aA pw (mB hq) (hy (x:=[]) (by simp)) aG (hy (by simp;omega)) (hy (by simp;omega)) (j3 ab (by omega))
 · rw[if_neg hq] at t2⊢
   by_cases h0:0<i
   · rw[if_pos h0]
     exact Vf (Y m) R 0 0 0 b off vs.length i 0 (off+i*1) (i+1) M eY[i] _ _ _ [] [] [] [] ws[i] .bb (.exact 0) cp x g (aU eV rfl) (dS ab) (dS h0) (hy (by simp;omega)) ⟨ab,rfl⟩ aA pw (ji hq) aG (hy (by simp;omega)) (j3 ab (by omega))
   · rw[if_neg h0]
     obtain rfl:i=0:=by omega
     exact Vh (Y m) R 0 0 0 b off vs.length 0 0 (off+0*1) 1 M eY[0] _ [] _ [] [] [] [] ws[0] .bb (.exact 0) cp x g (aU eV rfl) (dS ab) (eW (by omega)) ⟨ab,rfl⟩ aA pw (ji hq) aG (hy (x:=[]) (by simp;omega)) (j3 ab (by omega))
end Go.Proofs.cF
namespace Go.Proofs.cF
open Go aM Go.Proofs c_
set_option maxRecDepth 100000
set_option maxHeartbeats 1000000
abbrev Fa:List I:=[.str [97,110,121],.str [105,110,116],.str [98,111,111,108],.str [115,116,114],.str [110,105,108]]
theorem rV(k:Nat)(nm:a5)(ns:List a5)(xs:List aF)(rt:Option aF):wr (.mk k nm ns xs rt)=c_.shape k nm ns (xs.map aF.k) (cn xs) (kz rt):=by rw[wr]
theorem Fb{ns ws:List a5}{i:Nat}(af:i<(gS ns ws).length)(ab:i<ns.length)(ad:i<ws.length):(gS ns ws)[i]=ns[i]++[58,32]++ws[i]:=List.getElem_zipWith (f:=λn w=>n++[58,32]++w) (h:=af)
theorem Lb{eY:List Nat}{ws:List a5}{i:Nat}(af:i<(hA eY ws).length)(ab:i<eY.length)(ad:i<ws.length):(hA eY ws)[i]=if eY[i]=8 then[40]++ws[i]++[41] else ws[i]:=List.getElem_zipWith (f:=λ(k:Nat) (w:a5)=>if k=8 then[40]++w++[41] else w) (h:=af)
theorem Bj:∀(K:Nat) (t:aF),sz t<=K->sz t<=90000->okW t=true->(wr t).length<=1000000->∀(m B:Nat) (h:J) (v:I),sz t+1<=m->B<=h.n->dE B h t v->∃an,Y m (.fn 79) [v] h=.ret (.str (wr t)) an/\Ext B h an
 |0,t,di,_,_,_,_,_,_,_,_,_,_=>by
  have:=rS t
  omega
 |K+1,.mk k nm ns xs rt,di,gW,c9,ff,m,B,h,v,hm,cM,aB=>by
  obtain⟨R,bJ,bd,cU,vs,bh,aN,up,rfl,ad,ar,aJ,bO,cj,db⟩:=aB
  rw[mL] at di gW hm
  rw[rV] at ff
  rw[okW] at c9
  simp only[Bool.and_eq_true,Bool.or_eq_true,decide_eq_true_eq] at c9
  obtain⟨⟨⟨⟨⟨bE,iG⟩,oq⟩,qx⟩,Bk⟩,Fc⟩:=c9
  obtain⟨m,rfl⟩:∃j,m=j+1:=⟨m-1,by omega⟩
  have fs:=dO.len cj
  have ja:=nD xs
  have kK:=vy xs
  let aj:=(h.push (.cells [.str [],.str [],.str [],.str [],.str []] 141 .own 0 0)).set h.n (some (.cells Fa 141 .own 0 0))
  have st:aM.storeCells (h.push (.cells [.str [],.str [],.str [],.str [],.str []] 141 .own 0 0)) h.n 0 Fa=some aj:=gJ (by rw[J.gk];exact if_pos rfl) rfl rfl
  have tG:Ext B h aj:=((Ext.push cM _).iQ cM)
  have rW:B<=aj.n:=Nat.le_trans cM tG.n
  have tu:aj.get h.n=some (.cells Fa 141 .own 0 0):=by
   show(J.set _ _ _).get _=_
   rw[J.cR,if_pos rfl]
  have e9:=gK.ext tG (Nat.le_refl _)
  have al:=(tG.get R ad).trans ar
  have bV:=aJ.ck e9
  have cc:=bO.ck e9
  have cI:=dO.ck e9 _ _ cj
  have dr:=ey.ck e9 _ _ db
  generalize acE:aj=g at*
  have fin:∀s y,aH Tryz.prog Tryz.f79 none (Y m) [1,1,1] ⟨[(0,.ptr R 0),(3,.ptr h.n 0),(4,.str [])],[],.none,g⟩ .ret ⟨[(2,.str s)],[],.none,y⟩->s=wr (.mk k nm ns xs rt)->Ext B g y->∃an,Y (m+1) (.fn 79) [.ptr R 0] h=.ret (.str (wr (.mk k nm ns xs rt))) an/\Ext B h an:=λs y ak hs aa=>by
   rw[<-hs]
   exact⟨y,eK (intr:=b1) (n:=m) (args:=[.ptr R 0]) Tryz.func79 (by kernel_rfl) rfl (by kernel_rfl) (aH.seq (p:=[]) (by kernel_rfl) (UX (Y m) R h) (aH.seq (p:=[1]) (by kernel_rfl) (UY (Y m) R h g st) (aH.seq (p:=[1,1]) (by kernel_rfl) (UZ (Y m) R h.n g) ak))) (.inl rfl) (by kernel_rfl),tG.trans (Nat.le_refl _) aa⟩
  have yy:=U0 (Y m) R h.n k g (aU al rfl)
  have Bl:∀s y,aH Tryz.prog Tryz.f79 none (Y m) [1,1,1,0,1] ⟨[(0,.ptr R 0),(3,.ptr h.n 0),(4,.str []),(12,.int .i64 (Int.ofNat k))],[],.none,g⟩ .ret ⟨[(2,.str s)],[],.none,y⟩->s=wr (.mk k nm ns xs rt)->Ext B g y->∃an,Y (m+1) (.fn 79) [.ptr R 0] h=.ret (.str (wr (.mk k nm ns xs rt))) an/\Ext B h an:=λs y ak hs aa=>
   fin s y (aH.iD (p:=[1,1,1]) (by kernel_rfl) (aH.seq (p:=[1,1,1,0]) (by kernel_rfl) yy ak) (by simp)) hs aa
  have Fe:(∀i (af:i<(cn xs).length),(cn xs)[i].length<=1000000)->yw m B g vs (cn xs):=λae i i1 i2 x aa=>by
   have i3:i<xs.length:=by omega
   have h1:=oh (List.getElem_mem i3)
   have jZ:=ae i i2
   rw[vz xs i i3 i2] at jZ⊢
   exact Bj K xs[i] (by omega) (by omega) (KK Bk (List.getElem_mem i3)) jZ m B x vs[i] (by omega) (Nat.le_trans rW aa.n) (dE.ck (gK.ext aa (Nat.le_refl _)) _ _ (dO.get cI i i1 i3))
  by_cases gM:k=6
  · subst gM
    exact Bl nm g (U1 (Y m) R h.n nm g (aU al rfl)) (by rw[rV];rfl) (Ext.refl _ _)
  by_cases gq:k=7
  · subst gq
    have kZ:xs.length=ns.length:=by rcases oq with oq|oq;exact absurd rfl oq;exact oq
    have jR:(gS ns (cn xs)).length=vs.length:=by unfold gS;rw[List.length_zipWith];omega
    have Bm:(dW [44,32] (gS ns (cn xs))).length<=999998:=by
     have:([123]++dW [44,32] (gS ns (cn xs))++[125]:a5).length<=1000000:=ff
     simp at this;omega
    have je:=Fe λi af=>by
     have t2:=tJ [44,32] (gS ns (cn xs)) (i:=i) (by omega)
     rw[Fb (by omega) (by omega) af] at t2
     simp at t2;omega
    obtain⟨y,bB,b2⟩:=Bi (fn:=Tryz.f79) (call:=Y m) (p:=[1,1,1,0,1,0,1,1,1,0,0,1,0]) (e:=.exit 1) (reg:=5) (R:=R) (B:=B) (N:=vs.length) (h:=g) (sep:=[44,32]) (items:=gS ns (cn xs)) jR (by simp)
     (λi af x aa=>Vj ad al bV cc (by omega) (by omega) (by omega) (by omega) (λi i1=>(dO.get cI i i1 (by omega)).snd) je af aa)
     (λx s aa=>U7 (Y m) R vs.length vs.length s bd x (aU ((aa.get R ad).trans al) rfl) cc.oj (eW (by omega))) vs.length 0 g (by omega) (by omega) (Ext.refl _ _)
    have dq:=ft.run (p:=[1,1,1,0,1,0,1,1,1,0,0,1,0]) (by kernel_rfl) bB (by omega)
    exact Bl _ y (U2 (Y m) R h.n _ _ _ g y (cZ.pre dq ⟨rfl,rfl,rfl,trivial⟩ rfl rfl rfl) (hy (by simp;omega)) (hy (by simp;omega))) (by rw[rV];rfl) b2
  by_cases gX:k=8
  · subst gX
    have Bm:(dW [44,32] (cn xs)).length+(kz rt).length<=999992:=by
     have:([102,110,40]++dW [44,32] (cn xs)++[41,32,45,62,32]++kz rt:a5).length<=1000000:=ff
     simp at this;omega
    have je:=Fe λi af=>by
     have t2:=tJ [44,32] (cn xs) (i:=i) af
     omega
    obtain⟨y,bB,b2⟩:=Bi (fn:=Tryz.f79) (call:=Y m) (p:=[1,1,1,0,1,0,1,1,1,1,1,0,0,1,0]) (e:=.exit 3) (reg:=6) (R:=R) (B:=B) (N:=vs.length) (h:=g) (sep:=[44,32]) (items:=cn xs) (by omega) (by simp)
     (λi af x aa=>Vi ad al cc (by omega) (by omega) (by omega) je af aa)
     (λx s aa=>U8 (Y m) R vs.length vs.length s bd x (aU ((aa.get R ad).trans al) rfl) cc.oj (eW (by omega))) vs.length 0 g (by omega) (by omega) (Ext.refl _ _)
    have dq:=ft.run (p:=[1,1,1,0,1,0,1,1,1,1,1,0,0,1,0]) (by kernel_rfl) bB (by omega)
    cases rt with
    |none=>rcases qx with qx|qx<;>simp at qx
    |some u=>
     rw[l0] at di gW hm
     have Bn:kz (some u)=wr u:=by rw[kz]
     obtain⟨z,aG,a9⟩:=Bj K u (by omega) (by omega) (by rw[yp] at Fc;exact Fc) (by rw[<-Bn];omega) m B y cU (by omega) (Nat.le_trans rW b2.n) (dE.ck (gK.ext b2 (Nat.le_refl _)) _ _ dr)
     rw[<-Bn] at aG
     exact Bl _ z (U3 (Y m) R h.n _ _ _ _ _ cU g y z (cZ.pre dq ⟨rfl,rfl,rfl,trivial⟩ rfl rfl rfl) (hy (by simp;omega)) (hy (by simp;omega)) (aU ((b2.get R ad).trans al) rfl) aG (hy (by simp;omega))) (by rw[rV];rfl) (b2.trans (Nat.le_refl _) a9)
  by_cases gC:k=9
  · subst gC
    have jR:(hA (xs.map aF.k) (cn xs)).length=vs.length:=by unfold hA;rw[List.length_zipWith,List.length_map];omega
    have Bm:(dW [32,124,32] (hA (xs.map aF.k) (cn xs))).length<=1000000:=ff
    have je:=Fe λi af=>by
     have t2:=tJ [32,124,32] (hA (xs.map aF.k) (cn xs)) (i:=i) (by omega)
     rw[Lb (by omega) (by rw[List.length_map];omega) af] at t2
     split at t2
     · simp at t2;omega
     · omega
    have o8:∀i (ab:i<vs.length) (ad:i<(xs.map aF.k).length),∃M,vs[i]=.ptr M 0/\∀x,Ext B g x->au x M (0+0)=some (.int .i64 (Int.ofNat (xs.map aF.k)[i])):=λi i1 i2=>by
     have i3:i<xs.length:=by omega
     have a_:=dO.get cI i i1 i3
     have yz:(xs.map aF.k)[i]=(xs[i]).k:=List.getElem_map aF.k
     rw[yz]
     cases aa:xs[i] with
     |mk cw c2 dm e4 eX=>
      rw[aa] at a_
      obtain⟨M,_,_,_,_,_,_,_,aA,ay,bx,_⟩:=a_
      exact⟨M,aA,λx jS=>aU ((jS.get M ay).trans bx) rfl⟩
    obtain⟨y,bB,b2⟩:=Bi (fn:=Tryz.f79) (call:=Y m) (p:=[1,1,1,0,1,0,1,1,1,1,1,1,1,0,0,1,0]) (e:=.exit 5) (reg:=7) (R:=R) (B:=B) (N:=vs.length) (h:=g) (sep:=[32,124,32]) (items:=hA (xs.map aF.k) (cn xs)) jR (by simp)
     (λi af x aa=>Vk ad al cc (by rw[List.length_map];omega) (by omega) (by omega) Bm o8 je af aa)
     (λx s aa=>U9 (Y m) R vs.length vs.length s bd x (aU ((aa.get R ad).trans al) rfl) cc.oj (eW (by omega))) vs.length 0 g (by omega) (by omega) (Ext.refl _ _)
    have dq:=ft.run (p:=[1,1,1,0,1,0,1,1,1,1,1,1,1,0,0,1,0]) (by kernel_rfl) bB (by omega)
    exact Bl _ y (U4 (Y m) R h.n _ g y (cZ.pre dq ⟨rfl,rfl,rfl,trivial⟩ rfl rfl rfl)) (by rw[rV];rfl) b2
  · have Vl:=U5 (Y m) R h.n k g (ji gM) (ji gq) (ji gX) (ji gC)
    have hw:wr (.mk k nm ns xs rt)=word k:=by
     rw[rV];unfold c_.shape
     rw[if_neg gM,if_neg gq,if_neg gX,if_neg gC]
    have acF:k<=5:=by omega
    have Vm:au g h.n (0+(k-1)*1)=some (.str (word k)):=by
     refine aU tu ?_
     have:k=1\/k=2\/k=3\/k=4\/k=5:=by omega
     rcases this with rfl|rfl|rfl|rfl|rfl<;>rfl
    exact fin (word k) g (aH.seq (p:=[1,1,1]) (by kernel_rfl) (aH.seq (p:=[1,1,1,0]) (by kernel_rfl) yy Vl) (U6 (Y m) R h.n k (k-1) (0+(k-1)*1) (word k) g (aU al rfl) (vb bE (by omega)) ⟨(by show k-1+1<=5;omega),rfl⟩ Vm)) hw.symm (Ext.refl _ _)
end Go.Proofs.cF
