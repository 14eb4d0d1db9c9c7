/-
  PROVED HERE: contracts of functions (Db). No condition beside each statement's own.
-/
import Derived.Test.YtjkomfonmcmgdaaGreatDoorDa
set_option linter.unusedVariables false
set_option linter.unusedSimpArgs false
set_option maxRecDepth 100000
set_option maxHeartbeats 1000000
namespace Go.Proofs.jk
open Go bt Go.Proofs hy
theorem Xi(call:aP)(n:Nat)(h:J)
  (H1:eQ (.ofNat 97) (.ofNat n)=true)
  (aM:eQ (.ofNat n) (.ofNat 122)=true):
  aB Tryz.prog Tryz.f103 none call [] (ah.mk [(0,.int .u8 (.ofNat n))] [] .none h) (.ret)
   (ah.mk [(2,.bool true)] [] .none h):=
 bx [2] (hs:=[.b true,.b true,.b true,.b true,.b true,.b true,.b true,.b true,.b true,.b true,.b true]) (by kernel_rfl)<| .cons H1<| .cons H1<| .cons H1<| .cons aM<| .cons aM<| .cons aM<| .cons aM<| .cons aM<| .cons (rfl:true=true)<| .cons (rfl:true=true)<| .cons (rfl:true=true)<| .nil
theorem Xj(call:aP)(n:Nat)(h:J)
  (H1:eQ (.ofNat 97) (.ofNat n)=true)
  (aM:eQ (.ofNat n) (.ofNat 122)=false)
  (bm:eQ (.ofNat 65) (.ofNat n)=true)
  (bl:eQ (.ofNat n) (.ofNat 90)=false):
  aB Tryz.prog Tryz.f103 none call [] (ah.mk [(0,.int .u8 (.ofNat n))] [] .none h) (.ret)
   (ah.mk [(2,.bool (a8 (.ofNat n) (.ofNat 95)))] [] .none h):=
 bx [2] (hs:=[.b true,.b true,.b true,.b false,.b false,.b false,.b true,.b true,.b false,.b true,.b false,.b false,.b false,.b false]) (by kernel_rfl)<| .cons H1<| .cons H1<| .cons H1<| .cons aM<| .cons aM<| .cons aM<| .cons bm<| .cons bm<| .cons aM<| .cons bm<| .cons aM<| .cons bl<| .cons bl<| .cons bl<| .nil
theorem Xk(call:aP)(n:Nat)(h:J)
  (H1:eQ (.ofNat 97) (.ofNat n)=false)
  (aM:eQ (.ofNat 65) (.ofNat n)=true)
  (bm:eQ (.ofNat n) (.ofNat 90)=true):
  aB Tryz.prog Tryz.f103 none call [] (ah.mk [(0,.int .u8 (.ofNat n))] [] .none h) (.ret)
   (ah.mk [(2,.bool true)] [] .none h):=
 bx [2] (hs:=[.b false,.b false,.b false,.b false,.b false,.b false,.b true,.b true,.b false,.b true,.b false,.b true,.b true,.b true]) (by kernel_rfl)<| .cons H1<| .cons H1<| .cons H1<| .cons (rfl:false=false)<| .cons (rfl:false=false)<| .cons (rfl:false=false)<| .cons aM<| .cons aM<| .cons (rfl:false=false)<| .cons aM<| .cons (rfl:false=false)<| .cons bm<| .cons bm<| .cons bm<| .nil
theorem Xl(call:aP)(n:Nat)(h:J)
  (H1:eQ (.ofNat 97) (.ofNat n)=false)
  (aM:eQ (.ofNat 65) (.ofNat n)=true)
  (bm:eQ (.ofNat n) (.ofNat 90)=false):
  aB Tryz.prog Tryz.f103 none call [] (ah.mk [(0,.int .u8 (.ofNat n))] [] .none h) (.ret)
   (ah.mk [(2,.bool (a8 (.ofNat n) (.ofNat 95)))] [] .none h):=
 bx [2] (hs:=[.b false,.b false,.b false,.b false,.b false,.b false,.b true,.b true,.b false,.b true,.b false,.b false,.b false,.b false]) (by kernel_rfl)<| .cons H1<| .cons H1<| .cons H1<| .cons (rfl:false=false)<| .cons (rfl:false=false)<| .cons (rfl:false=false)<| .cons aM<| .cons aM<| .cons (rfl:false=false)<| .cons aM<| .cons (rfl:false=false)<| .cons bm<| .cons bm<| .cons bm<| .nil
theorem Xm(call:aP)(n:Nat)(h:J)
  (H1:eQ (.ofNat 97) (.ofNat n)=false)
  (aM:eQ (.ofNat 65) (.ofNat n)=false):
  aB Tryz.prog Tryz.f103 none call [] (ah.mk [(0,.int .u8 (.ofNat n))] [] .none h) (.ret)
   (ah.mk [(2,.bool (a8 (.ofNat n) (.ofNat 95)))] [] .none h):=
 bx [2] (hs:=[.b false,.b false,.b false,.b false,.b false,.b false,.b false,.b false,.b false,.b false,.b false,.b false,.b false,.b false]) (by kernel_rfl)<| .cons H1<| .cons H1<| .cons H1<| .cons (rfl:false=false)<| .cons (rfl:false=false)<| .cons (rfl:false=false)<| .cons aM<| .cons aM<| .cons (rfl:false=false)<| .cons aM<| .cons (rfl:false=false)<| .cons (rfl:false=false)<| .cons (rfl:false=false)<| .cons (rfl:false=false)<| .nil
theorem Xn(call:aP)(s:List UInt8)(n:Nat)(b:Bool)(h g:J)
  (H1:bP (.ofNat (List.length s)) (.ofNat 1)=true):
  aB Tryz.prog Tryz.f76 none call [1,0] (ah.mk [(0,.str s)] [] .none h) (.ret)
   (ah.mk [(0,.str s),(2,.bool false)] [] .none h):=
 bx [0,2] (hs:=[.b true,.b true,.b true,.b true,.b true,.b true,.b true,.b true,.b true,.b true]) (by kernel_rfl)<| .cons H1<| .cons H1<| .cons H1<| .cons H1<| .cons (rfl:true=true)<| .cons (rfl:true=true)<| .cons (rfl:true=true)<| .cons (rfl:true=true)<| .cons (rfl:true=true)<| .cons (rfl:true=true)<| .nil
theorem Xo(call:aP)(s:List UInt8)(n:Nat)(b:Bool)(h g:J)
  (H1:bP (.ofNat (List.length s)) (.ofNat 1)=false)
  (aM:bP (.ofNat 24) (.ofNat (List.length s))=true):
  aB Tryz.prog Tryz.f76 none call [1,0] (ah.mk [(0,.str s)] [] .none h) (.ret)
   (ah.mk [(0,.str s),(2,.bool false)] [] .none h):=
 bx [0,2] (hs:=[.b false,.b false,.b false,.b false,.b true,.b true,.b true,.b true,.b true,.b true]) (by kernel_rfl)<| .cons H1<| .cons H1<| .cons H1<| .cons H1<| .cons aM<| .cons aM<| .cons aM<| .cons aM<| .cons aM<| .cons (rfl:true=true)<| .nil
theorem Xp(call:aP)(s:List UInt8)(n:Nat)(b:Bool)(h g:J)
  (H1:bP (.ofNat (List.length s)) (.ofNat 1)=false)
  (aM:bP (.ofNat 24) (.ofNat (List.length s))=false)
  (bm:g7 0 s=some (.int .u8 (.ofNat n)))
  (bl:call (.fn 103) [.int .u8 (.ofNat n)] h=a9.ret (.bool b) g)
  (bY:(!b)=true):
  aB Tryz.prog Tryz.f76 none call [1,0] (ah.mk [(0,.str s)] [] .none h) (.ret)
   (ah.mk [(0,.str s),(2,.bool false)] [] .none g):=
 bx [0,2] (hs:=[.b false,.b false,.b false,.b false,.b false,.b false,.v (.int .u8 (.ofNat n)),.b false,.c (.bool b) g,.b false,.b false,.b true]) (by kernel_rfl)<| .cons H1<| .cons H1<| .cons H1<| .cons H1<| .cons aM<| .cons aM<| .cons bm<| .cons aM<| .cons bl<| .cons aM<| .cons aM<| .cons bY<| .nil
theorem Xq(call:aP)(s:List UInt8)(n:Nat)(b:Bool)(h g:J)
  (H1:bP (.ofNat (List.length s)) (.ofNat 1)=false)
  (aM:bP (.ofNat 24) (.ofNat (List.length s))=false)
  (bm:g7 0 s=some (.int .u8 (.ofNat n)))
  (bl:call (.fn 103) [.int .u8 (.ofNat n)] h=a9.ret (.bool b) g)
  (bY:(!b)=false):
  aB Tryz.prog Tryz.f76 none call [1,0] (ah.mk [(0,.str s)] [] .none h) (.nrm)
   (ah.mk [(0,.str s)] [] .none g):=
 bx [0,2] (hs:=[.b false,.b false,.b false,.b false,.b false,.b false,.v (.int .u8 (.ofNat n)),.b false,.c (.bool b) g,.b false,.b false,.b false]) (by kernel_rfl)<| .cons H1<| .cons H1<| .cons H1<| .cons H1<| .cons aM<| .cons aM<| .cons bm<| .cons aM<| .cons bl<| .cons aM<| .cons aM<| .cons bY<| .nil
theorem MV(call:aP)(s:List UInt8)(h:J):
  aB Tryz.prog Tryz.f76 none call [1,1,0,0] (ah.mk [(0,.str s)] [] .none h) (.nrm)
   (ah.mk [(0,.str s),(3,.int .i64 (.ofNat 0))] [] .none h):=
 bx [0,3] (hs:=[]) (by kernel_rfl)<| .nil
theorem Xr(call:aP)(h:J):
  aB Tryz.prog Tryz.f76 none call [1,1,1] (ah.mk [] [] .none h) (.ret)
   (ah.mk [(2,.bool true)] [] .none h):=
 bx [2] (hs:=[]) (by kernel_rfl)<| .nil
theorem Xs(call:aP)(s:List UInt8)(h:J)
  (H1:bP (.ofNat (List.length s)) (.ofNat 1)=true):
  aB Tryz.prog Tryz.f81 none call [1,0] (ah.mk [(0,.str s)] [] .none h) (.ret)
   (ah.mk [(0,.str s),(2,.bool false)] [] .none h):=
 bx [0,2] (hs:=[.b true,.b true,.b true,.b true,.b true]) (by kernel_rfl)<| .cons H1<| .cons H1<| .cons H1<| .cons H1<| .cons (rfl:true=true)<| .nil
theorem Xt(call:aP)(s:List UInt8)(h:J)
  (H1:bP (.ofNat (List.length s)) (.ofNat 1)=false)
  (aM:bP (.ofNat 161) (.ofNat (List.length s))=true):
  aB Tryz.prog Tryz.f81 none call [1,0] (ah.mk [(0,.str s)] [] .none h) (.ret)
   (ah.mk [(0,.str s),(2,.bool false)] [] .none h):=
 bx [0,2] (hs:=[.b false,.b false,.b false,.b false,.b true]) (by kernel_rfl)<| .cons H1<| .cons H1<| .cons H1<| .cons H1<| .cons aM<| .nil
theorem Xu(call:aP)(s:List UInt8)(h:J)
  (H1:bP (.ofNat (List.length s)) (.ofNat 1)=false)
  (aM:bP (.ofNat 161) (.ofNat (List.length s))=false):
  aB Tryz.prog Tryz.f81 none call [1,0] (ah.mk [(0,.str s)] [] .none h) (.nrm)
   (ah.mk [(0,.str s)] [] .none h):=
 bx [0,2] (hs:=[.b false,.b false,.b false,.b false,.b false]) (by kernel_rfl)<| .cons H1<| .cons H1<| .cons H1<| .cons H1<| .cons aM<| .nil
theorem MW(call:aP)(s:List UInt8)(h:J):
  aB Tryz.prog Tryz.f81 none call [1,1,0,0] (ah.mk [(0,.str s)] [] .none h) (.nrm)
   (ah.mk [(0,.str s),(3,.int .i64 (.ofNat 0))] [] .none h):=
 bx [0,3] (hs:=[]) (by kernel_rfl)<| .nil
theorem Xv(call:aP)(s:List UInt8)(i n j:Nat)(b:Bool)(h g:J)
  (H1:bP (.ofNat i) (.ofNat (List.length s))=true)
  (aM:g7 i s=some (.int .u8 (.ofNat n)))
  (bm:call (.fn 103) [.int .u8 (.ofNat n)] h=a9.ret (.bool b) g)
  (bl:(!b)=true)
  (bY:bP (.ofNat n) (.ofNat 48)=true)
  (cG:(!a8 (.ofNat n) (.ofNat 45))=true)
  (du:(!a8 (.ofNat n) (.ofNat 47))=true)
  (gP:(!a8 (.ofNat n) (.ofNat 46))=true):
  aB Tryz.prog Tryz.f81 none call [1,1,0,1,0,0] (ah.mk [(0,.str s),(3,.int .i64 (.ofNat i))] [] .none h) (.ret)
   (ah.mk [(0,.str s),(2,.bool false),(3,.int .i64 (.ofNat i))] [] .none g):=
 bx [0,2,3] (hs:=[.b true,.v (.int .u8 (.ofNat n)),.c (.bool b) g,.b true,.b true,.b true,.b true,.b true,.b true,.b true,.b true,.b true,.b true,.b true,.b true,.b true,.b true,.b true,.b true,.b true,.b true]) (by kernel_rfl)<| .cons H1<| .cons aM<| .cons bm<| .cons bl<| .cons bl<| .cons bl<| .cons bY<| .cons bY<| .cons bl<| .cons bY<| .cons bl<| .cons (rfl:true=true)<| .cons (rfl:true=true)<| .cons (rfl:true=true)<| .cons cG<| .cons cG<| .cons cG<| .cons du<| .cons du<| .cons du<| .cons gP<| .nil
theorem Xw(call:aP)(s:List UInt8)(i n j:Nat)(b:Bool)(h g:J)
  (H1:bP (.ofNat i) (.ofNat (List.length s))=true)
  (aM:g7 i s=some (.int .u8 (.ofNat n)))
  (bm:call (.fn 103) [.int .u8 (.ofNat n)] h=a9.ret (.bool b) g)
  (bl:(!b)=true)
  (bY:bP (.ofNat n) (.ofNat 48)=true)
  (cG:(!a8 (.ofNat n) (.ofNat 45))=true)
  (du:(!a8 (.ofNat n) (.ofNat 47))=true)
  (gP:(!a8 (.ofNat n) (.ofNat 46))=false)
  (kb:arith .add .i64 (.ofNat i) (.ofNat 1)=some (.int .i64 (.ofNat j))):
  aB Tryz.prog Tryz.f81 none call [1,1,0,1,0,0] (ah.mk [(0,.str s),(3,.int .i64 (.ofNat i))] [] .none h) (.nrm)
   (ah.mk [(0,.str s),(3,.int .i64 (.ofNat j))] [] .none g):=
 bx [0,2,3] (hs:=[.b true,.v (.int .u8 (.ofNat n)),.c (.bool b) g,.b true,.b true,.b true,.b true,.b true,.b true,.b true,.b true,.b true,.b true,.b true,.b true,.b true,.b true,.b true,.b true,.b true,.b false,.v (.int .i64 (.ofNat j))]) (by kernel_rfl)<| .cons H1<| .cons aM<| .cons bm<| .cons bl<| .cons bl<| .cons bl<| .cons bY<| .cons bY<| .cons bl<| .cons bY<| .cons bl<| .cons (rfl:true=true)<| .cons (rfl:true=true)<| .cons (rfl:true=true)<| .cons cG<| .cons cG<| .cons cG<| .cons du<| .cons du<| .cons du<| .cons gP<| .cons kb<| .nil
theorem Xx(call:aP)(s:List UInt8)(i n j:Nat)(b:Bool)(h g:J)
  (H1:bP (.ofNat i) (.ofNat (List.length s))=true)
  (aM:g7 i s=some (.int .u8 (.ofNat n)))
  (bm:call (.fn 103) [.int .u8 (.ofNat n)] h=a9.ret (.bool b) g)
  (bl:(!b)=true)
  (bY:bP (.ofNat n) (.ofNat 48)=true)
  (cG:(!a8 (.ofNat n) (.ofNat 45))=true)
  (du:(!a8 (.ofNat n) (.ofNat 47))=false)
  (gP:arith .add .i64 (.ofNat i) (.ofNat 1)=some (.int .i64 (.ofNat j))):
  aB Tryz.prog Tryz.f81 none call [1,1,0,1,0,0] (ah.mk [(0,.str s),(3,.int .i64 (.ofNat i))] [] .none h) (.nrm)
   (ah.mk [(0,.str s),(3,.int .i64 (.ofNat j))] [] .none g):=
 bx [0,2,3] (hs:=[.b true,.v (.int .u8 (.ofNat n)),.c (.bool b) g,.b true,.b true,.b true,.b true,.b true,.b true,.b true,.b true,.b true,.b true,.b true,.b true,.b true,.b true,.b false,.b false,.b false,.b false,.v (.int .i64 (.ofNat j))]) (by kernel_rfl)<| .cons H1<| .cons aM<| .cons bm<| .cons bl<| .cons bl<| .cons bl<| .cons bY<| .cons bY<| .cons bl<| .cons bY<| .cons bl<| .cons (rfl:true=true)<| .cons (rfl:true=true)<| .cons (rfl:true=true)<| .cons cG<| .cons cG<| .cons cG<| .cons du<| .cons du<| .cons du<| .cons (rfl:false=false)<| .cons gP<| .nil
theorem Xy(call:aP)(s:List UInt8)(i n j:Nat)(b:Bool)(h g:J)
  (H1:bP (.ofNat i) (.ofNat (List.length s))=true)
  (aM:g7 i s=some (.int .u8 (.ofNat n)))
  (bm:call (.fn 103) [.int .u8 (.ofNat n)] h=a9.ret (.bool b) g)
  (bl:(!b)=true)
  (bY:bP (.ofNat n) (.ofNat 48)=true)
  (cG:(!a8 (.ofNat n) (.ofNat 45))=false)
  (du:arith .add .i64 (.ofNat i) (.ofNat 1)=some (.int .i64 (.ofNat j))):
  aB Tryz.prog Tryz.f81 none call [1,1,0,1,0,0] (ah.mk [(0,.str s),(3,.int .i64 (.ofNat i))] [] .none h) (.nrm)
   (ah.mk [(0,.str s),(3,.int .i64 (.ofNat j))] [] .none g):=
 bx [0,2,3] (hs:=[.b true,.v (.int .u8 (.ofNat n)),.c (.bool b) g,.b true,.b true,.b true,.b true,.b true,.b true,.b true,.b true,.b true,.b true,.b true,.b false,.b false,.b false,.b false,.b false,.b false,.b false,.v (.int .i64 (.ofNat j))]) (by kernel_rfl)<| .cons H1<| .cons aM<| .cons bm<| .cons bl<| .cons bl<| .cons bl<| .cons bY<| .cons bY<| .cons bl<| .cons bY<| .cons bl<| .cons (rfl:true=true)<| .cons (rfl:true=true)<| .cons (rfl:true=true)<| .cons cG<| .cons cG<| .cons cG<| .cons (rfl:false=false)<| .cons (rfl:false=false)<| .cons (rfl:false=false)<| .cons (rfl:false=false)<| .cons du<| .nil
theorem Xz(call:aP)(s:List UInt8)(i n j:Nat)(b:Bool)(h g:J)
  (H1:bP (.ofNat i) (.ofNat (List.length s))=true)
  (aM:g7 i s=some (.int .u8 (.ofNat n)))
  (bm:call (.fn 103) [.int .u8 (.ofNat n)] h=a9.ret (.bool b) g)
  (bl:(!b)=true)
  (bY:bP (.ofNat n) (.ofNat 48)=false)
  (cG:bP (.ofNat 57) (.ofNat n)=true)
  (du:(!a8 (.ofNat n) (.ofNat 45))=true)
  (gP:(!a8 (.ofNat n) (.ofNat 47))=true)
  (kb:(!a8 (.ofNat n) (.ofNat 46))=true):
  aB Tryz.prog Tryz.f81 none call [1,1,0,1,0,0] (ah.mk [(0,.str s),(3,.int .i64 (.ofNat i))] [] .none h) (.ret)
   (ah.mk [(0,.str s),(2,.bool false),(3,.int .i64 (.ofNat i))] [] .none g):=
 bx [0,2,3] (hs:=[.b true,.v (.int .u8 (.ofNat n)),.c (.bool b) g,.b true,.b true,.b true,.b false,.b false,.b true,.b false,.b true,.b true,.b true,.b true,.b true,.b true,.b true,.b true,.b true,.b true,.b true]) (by kernel_rfl)<| .cons H1<| .cons aM<| .cons bm<| .cons bl<| .cons bl<| .cons bl<| .cons bY<| .cons bY<| .cons bl<| .cons bY<| .cons bl<| .cons cG<| .cons cG<| .cons cG<| .cons du<| .cons du<| .cons du<| .cons gP<| .cons gP<| .cons gP<| .cons kb<| .nil
theorem XA(call:aP)(s:List UInt8)(i n j:Nat)(b:Bool)(h g:J)
  (H1:bP (.ofNat i) (.ofNat (List.length s))=true)
  (aM:g7 i s=some (.int .u8 (.ofNat n)))
  (bm:call (.fn 103) [.int .u8 (.ofNat n)] h=a9.ret (.bool b) g)
  (bl:(!b)=true)
  (bY:bP (.ofNat n) (.ofNat 48)=false)
  (cG:bP (.ofNat 57) (.ofNat n)=false)
  (du:arith .add .i64 (.ofNat i) (.ofNat 1)=some (.int .i64 (.ofNat j))):
  aB Tryz.prog Tryz.f81 none call [1,1,0,1,0,0] (ah.mk [(0,.str s),(3,.int .i64 (.ofNat i))] [] .none h) (.nrm)
   (ah.mk [(0,.str s),(3,.int .i64 (.ofNat j))] [] .none g):=
 bx [0,2,3] (hs:=[.b true,.v (.int .u8 (.ofNat n)),.c (.bool b) g,.b true,.b true,.b true,.b false,.b false,.b true,.b false,.b true,.b false,.b false,.b false,.b false,.b false,.b false,.b false,.b false,.b false,.b false,.v (.int .i64 (.ofNat j))]) (by kernel_rfl)<| .cons H1<| .cons aM<| .cons bm<| .cons bl<| .cons bl<| .cons bl<| .cons bY<| .cons bY<| .cons bl<| .cons bY<| .cons bl<| .cons cG<| .cons cG<| .cons cG<| .cons (rfl:false=false)<| .cons (rfl:false=false)<| .cons (rfl:false=false)<| .cons (rfl:false=false)<| .cons (rfl:false=false)<| .cons (rfl:false=false)<| .cons (rfl:false=false)<| .cons du<| .nil
theorem XB(call:aP)(s:List UInt8)(i n j:Nat)(b:Bool)(h g:J)
  (H1:bP (.ofNat i) (.ofNat (List.length s))=true)
  (aM:g7 i s=some (.int .u8 (.ofNat n)))
  (bm:call (.fn 103) [.int .u8 (.ofNat n)] h=a9.ret (.bool b) g)
  (bl:(!b)=false)
  (bY:arith .add .i64 (.ofNat i) (.ofNat 1)=some (.int .i64 (.ofNat j))):
  aB Tryz.prog Tryz.f81 none call [1,1,0,1,0,0] (ah.mk [(0,.str s),(3,.int .i64 (.ofNat i))] [] .none h) (.nrm)
   (ah.mk [(0,.str s),(3,.int .i64 (.ofNat j))] [] .none g):=
 bx [0,2,3] (hs:=[.b true,.v (.int .u8 (.ofNat n)),.c (.bool b) g,.b false,.b false,.b false,.b false,.b false,.b false,.b false,.b false,.b false,.b false,.b false,.b false,.b false,.b false,.b false,.v (.int .i64 (.ofNat j))]) (by kernel_rfl)<| .cons H1<| .cons aM<| .cons bm<| .cons bl<| .cons bl<| .cons bl<| .cons bl<| .cons bl<| .cons (rfl:false=false)<| .cons (rfl:false=false)<| .cons (rfl:false=false)<| .cons (rfl:false=false)<| .cons (rfl:false=false)<| .cons (rfl:false=false)<| .cons (rfl:false=false)<| .cons (rfl:false=false)<| .cons (rfl:false=false)<| .cons (rfl:false=false)<| .cons bY<| .nil
theorem XC(call:aP)(s:List UInt8)(i n j:Nat)(b:Bool)(h g:J)
  (H1:bP (.ofNat i) (.ofNat (List.length s))=false):
  aB Tryz.prog Tryz.f81 none call [1,1,0,1,0,0] (ah.mk [(0,.str s),(3,.int .i64 (.ofNat i))] [] .none h) (.exit 0)
   (ah.mk [(0,.str s),(3,.int .i64 (.ofNat i))] [] .none h):=
 bx [0,2,3] (hs:=[.b false]) (by kernel_rfl)<| .cons H1<| .nil
theorem XD(call:aP)(h:J):
  aB Tryz.prog Tryz.f81 none call [1,1,1] (ah.mk [] [] .none h) (.ret)
   (ah.mk [(2,.bool true)] [] .none h):=
 bx [2] (hs:=[]) (by kernel_rfl)<| .nil
theorem XE(call:aP)(s:List UInt8)(i n j:Nat)(b:Bool)(h g:J)
  (H1:bP (.ofNat i) (.ofNat (List.length s))=true)
  (aM:g7 i s=some (.int .u8 (.ofNat n)))
  (bm:call (.fn 103) [.int .u8 (.ofNat n)] h=a9.ret (.bool b) g)
  (bl:(!b)=true)
  (bY:bP (.ofNat n) (.ofNat 48)=true):
  aB Tryz.prog Tryz.f76 none call [1,1,0,1,0,0] (ah.mk [(0,.str s),(3,.int .i64 (.ofNat i))] [] .none h) (.ret)
   (ah.mk [(0,.str s),(2,.bool false),(3,.int .i64 (.ofNat i))] [] .none g):=
 bx [0,2,3] (hs:=[.b true,.v (.int .u8 (.ofNat n)),.c (.bool b) g,.b true,.b true,.b true,.v (.int .u8 (.ofNat n)),.b true,.b true,.b true,.b true,.b true,.b true,.b true,.b true,.b true,.b true]) (by kernel_rfl)<| .cons H1<| .cons aM<| .cons bm<| .cons bl<| .cons bl<| .cons bl<| .cons aM<| .cons bl<| .cons bl<| .cons bY<| .cons bY<| .cons bY<| .cons bY<| .cons bl<| .cons bY<| .cons bl<| .cons (rfl:true=true)<| .nil
theorem XF(call:aP)(s:List UInt8)(i n j:Nat)(b:Bool)(h g:J)
  (H1:bP (.ofNat i) (.ofNat (List.length s))=true)
  (aM:g7 i s=some (.int .u8 (.ofNat n)))
  (bm:call (.fn 103) [.int .u8 (.ofNat n)] h=a9.ret (.bool b) g)
  (bl:(!b)=true)
  (bY:bP (.ofNat n) (.ofNat 48)=false)
  (cG:bP (.ofNat 57) (.ofNat n)=true):
  aB Tryz.prog Tryz.f76 none call [1,1,0,1,0,0] (ah.mk [(0,.str s),(3,.int .i64 (.ofNat i))] [] .none h) (.ret)
   (ah.mk [(0,.str s),(2,.bool false),(3,.int .i64 (.ofNat i))] [] .none g):=
 bx [0,2,3] (hs:=[.b true,.v (.int .u8 (.ofNat n)),.c (.bool b) g,.b true,.b true,.b true,.v (.int .u8 (.ofNat n)),.b true,.b true,.b false,.b false,.b false,.v (.int .u8 (.ofNat n)),.b false,.b true,.b false,.b true,.b true]) (by kernel_rfl)<| .cons H1<| .cons aM<| .cons bm<| .cons bl<| .cons bl<| .cons bl<| .cons aM<| .cons bl<| .cons bl<| .cons bY<| .cons bY<| .cons bY<| .cons aM<| .cons bY<| .cons bl<| .cons bY<| .cons bl<| .cons cG<| .nil
theorem XG(call:aP)(s:List UInt8)(i n j:Nat)(b:Bool)(h g:J)
  (H1:bP (.ofNat i) (.ofNat (List.length s))=true)
  (aM:g7 i s=some (.int .u8 (.ofNat n)))
  (bm:call (.fn 103) [.int .u8 (.ofNat n)] h=a9.ret (.bool b) g)
  (bl:(!b)=true)
  (bY:bP (.ofNat n) (.ofNat 48)=false)
  (cG:bP (.ofNat 57) (.ofNat n)=false)
  (du:arith .add .i64 (.ofNat i) (.ofNat 1)=some (.int .i64 (.ofNat j))):
  aB Tryz.prog Tryz.f76 none call [1,1,0,1,0,0] (ah.mk [(0,.str s),(3,.int .i64 (.ofNat i))] [] .none h) (.nrm)
   (ah.mk [(0,.str s),(3,.int .i64 (.ofNat j))] [] .none g):=
 bx [0,2,3] (hs:=[.b true,.v (.int .u8 (.ofNat n)),.c (.bool b) g,.b true,.b true,.b true,.v (.int .u8 (.ofNat n)),.b true,.b true,.b false,.b false,.b false,.v (.int .u8 (.ofNat n)),.b false,.b true,.b false,.b true,.b false,.v (.int .i64 (.ofNat j))]) (by kernel_rfl)<| .cons H1<| .cons aM<| .cons bm<| .cons bl<| .cons bl<| .cons bl<| .cons aM<| .cons bl<| .cons bl<| .cons bY<| .cons bY<| .cons bY<| .cons aM<| .cons bY<| .cons bl<| .cons bY<| .cons bl<| .cons cG<| .cons du<| .nil
theorem XH(call:aP)(s:List UInt8)(i n j:Nat)(b:Bool)(h g:J)
  (H1:bP (.ofNat i) (.ofNat (List.length s))=true)
  (aM:g7 i s=some (.int .u8 (.ofNat n)))
  (bm:call (.fn 103) [.int .u8 (.ofNat n)] h=a9.ret (.bool b) g)
  (bl:(!b)=false)
  (bY:arith .add .i64 (.ofNat i) (.ofNat 1)=some (.int .i64 (.ofNat j))):
  aB Tryz.prog Tryz.f76 none call [1,1,0,1,0,0] (ah.mk [(0,.str s),(3,.int .i64 (.ofNat i))] [] .none h) (.nrm)
   (ah.mk [(0,.str s),(3,.int .i64 (.ofNat j))] [] .none g):=
 bx [0,2,3] (hs:=[.b true,.v (.int .u8 (.ofNat n)),.c (.bool b) g,.b false,.b false,.b false,.b false,.b false,.b false,.b false,.b false,.v (.int .i64 (.ofNat j))]) (by kernel_rfl)<| .cons H1<| .cons aM<| .cons bm<| .cons bl<| .cons bl<| .cons bl<| .cons bl<| .cons bl<| .cons bl<| .cons bl<| .cons (rfl:false=false)<| .cons bY<| .nil
theorem XI(call:aP)(s:List UInt8)(i n j:Nat)(b:Bool)(h g:J)
  (H1:bP (.ofNat i) (.ofNat (List.length s))=false):
  aB Tryz.prog Tryz.f76 none call [1,1,0,1,0,0] (ah.mk [(0,.str s),(3,.int .i64 (.ofNat i))] [] .none h) (.exit 0)
   (ah.mk [(0,.str s),(3,.int .i64 (.ofNat i))] [] .none h):=
 bx [0,2,3] (hs:=[.b false]) (by kernel_rfl)<| .cons H1<| .nil
theorem MX(call:aP)(s t:List UInt8)(h:J):
  aB Tryz.prog Tryz.f77 none call [0] (ah.mk [(0,.str s),(1,.str t)] [] .none h) (.nrm)
   (ah.mk [(0,.str s),(1,.str t)] [] .none h):=
 bx [0,1] (hs:=[]) (by kernel_rfl)<| .nil
theorem MY(call:aP)(s t:List UInt8)(h:J):
  aB Tryz.prog Tryz.f77 none call [1,0,0] (ah.mk [(0,.str s),(1,.str t)] [] .none h) (.nrm)
   (ah.mk [(0,.str s),(1,.str t),(5,.int .i64 (.ofNat 0))] [] .none h):=
 bx [0,1,5] (hs:=[]) (by kernel_rfl)<| .nil
theorem XJ(call:aP)(s t:List UInt8)(i n k j:Nat)(h:J)
  (H1:bP (.ofNat i) (.ofNat (List.length s))=true)
  (aM:bP (.ofNat i) (.ofNat (List.length t))=true)
  (bm:g7 i s=some (.int .u8 (.ofNat n)))
  (bl:g7 i t=some (.int .u8 (.ofNat k)))
  (bY:(!a8 (.ofNat n) (.ofNat k))=true):
  aB Tryz.prog Tryz.f77 none call [1,0,1,0,0] (ah.mk [(0,.str s),(1,.str t),(5,.int .i64 (.ofNat i))] [] .none h) (.ret)
   (ah.mk [(0,.str s),(1,.str t),(4,.bool (bP (.ofNat n) (.ofNat k))),(5,.int .i64 (.ofNat i))] [] .none (J.room (J.room h 7) 8)):=
 bx [0,1,4,5] (hs:=[.b true,.b true,.b true,.b true,.b true,.b true,.v (.int .u8 (.ofNat n)),.v (.int .u8 (.ofNat k)),.b true,.v (.int .u8 (.ofNat n)),.v (.int .u8 (.ofNat k))]) (by kernel_rfl)<| .cons H1<| .cons H1<| .cons H1<| .cons H1<| .cons H1<| .cons aM<| .cons bm<| .cons bl<| .cons (by kernel_rfl:I.sound (I.str s)=true)<| .cons (by kernel_rfl:I.str s=I.str s)<| .cons (by kernel_rfl:I.sound (I.int IntKind.i64 (Int.ofNat i))=true)<| .cons (by kernel_rfl:I.int IntKind.i64 (Int.ofNat i)=I.int IntKind.i64 (Int.ofNat i))<| .cons (by kernel_rfl:I.sound (I.int IntKind.u8 (Int.ofNat n))=true)<| .cons bm<| .cons (by kernel_rfl:I.sound (I.str t)=true)<| .cons (by kernel_rfl:I.str t=I.str t)<| .cons (by kernel_rfl:I.sound (I.int IntKind.i64 (Int.ofNat i))=true)<| .cons (by kernel_rfl:I.int IntKind.i64 (Int.ofNat i)=I.int IntKind.i64 (Int.ofNat i))<| .cons (by kernel_rfl:I.sound (I.int IntKind.u8 (Int.ofNat k))=true)<| .cons bl<| .cons (by kernel_rfl:I.sound (I.bool !a8 (Int.ofNat n) (Int.ofNat k))=true)<| .cons (by kernel_rfl:(I.bool !a8 (Int.ofNat n) (Int.ofNat k))=I.bool !a8 (Int.ofNat n) (Int.ofNat k))<| .cons bY<| .cons bm<| .cons bl<| .cons (by kernel_rfl:I.sound (I.str s)=true)<| .cons (by kernel_rfl:I.str s=I.str s)<| .cons (by kernel_rfl:I.sound (I.int IntKind.i64 (Int.ofNat i))=true)<| .cons (by kernel_rfl:I.int IntKind.i64 (Int.ofNat i)=I.int IntKind.i64 (Int.ofNat i))<| .cons (by kernel_rfl:I.sound (I.int IntKind.u8 (Int.ofNat n))=true)<| .cons bm<| .cons (by kernel_rfl:I.sound (I.str t)=true)<| .cons (by kernel_rfl:I.str t=I.str t)<| .cons (by kernel_rfl:I.sound (I.int IntKind.i64 (Int.ofNat i))=true)<| .cons (by kernel_rfl:I.int IntKind.i64 (Int.ofNat i)=I.int IntKind.i64 (Int.ofNat i))<| .cons (by kernel_rfl:I.sound (I.int IntKind.u8 (Int.ofNat k))=true)<| .cons bl<| .cons (by kernel_rfl:I.sound (I.bool (bP (Int.ofNat n) (Int.ofNat k)))=true)<| .cons (by kernel_rfl:I.bool (bP (Int.ofNat n) (Int.ofNat k))=I.bool (bP (Int.ofNat n) (Int.ofNat k)))<| .cons (by kernel_rfl:I.sound (I.bool (bP (Int.ofNat n) (Int.ofNat k)))=true)<| .cons (by kernel_rfl:I.bool (bP (Int.ofNat n) (Int.ofNat k))=I.bool (bP (Int.ofNat n) (Int.ofNat k)))<| .nil
theorem XK(call:aP)(s t:List UInt8)(i n k j:Nat)(h:J)
  (H1:bP (.ofNat i) (.ofNat (List.length s))=true)
  (aM:bP (.ofNat i) (.ofNat (List.length t))=true)
  (bm:g7 i s=some (.int .u8 (.ofNat n)))
  (bl:g7 i t=some (.int .u8 (.ofNat k)))
  (bY:(!a8 (.ofNat n) (.ofNat k))=false)
  (cG:arith .add .i64 (.ofNat i) (.ofNat 1)=some (.int .i64 (.ofNat j))):
  aB Tryz.prog Tryz.f77 none call [1,0,1,0,0] (ah.mk [(0,.str s),(1,.str t),(5,.int .i64 (.ofNat i))] [] .none h) (.nrm)
   (ah.mk [(0,.str s),(1,.str t),(5,.int .i64 (.ofNat j))] [] .none (J.room h 7)):=
 bx [0,1,4,5] (hs:=[.b true,.b true,.b true,.b true,.b true,.b true,.v (.int .u8 (.ofNat n)),.v (.int .u8 (.ofNat k)),.b false,.v (.int .i64 (.ofNat j))]) (by kernel_rfl)<| .cons H1<| .cons H1<| .cons H1<| .cons H1<| .cons H1<| .cons aM<| .cons bm<| .cons bl<| .cons (by kernel_rfl:I.sound (I.str s)=true)<| .cons (by kernel_rfl:I.str s=I.str s)<| .cons (by kernel_rfl:I.sound (I.int IntKind.i64 (Int.ofNat i))=true)<| .cons (by kernel_rfl:I.int IntKind.i64 (Int.ofNat i)=I.int IntKind.i64 (Int.ofNat i))<| .cons (by kernel_rfl:I.sound (I.int IntKind.u8 (Int.ofNat n))=true)<| .cons bm<| .cons (by kernel_rfl:I.sound (I.str t)=true)<| .cons (by kernel_rfl:I.str t=I.str t)<| .cons (by kernel_rfl:I.sound (I.int IntKind.i64 (Int.ofNat i))=true)<| .cons (by kernel_rfl:I.int IntKind.i64 (Int.ofNat i)=I.int IntKind.i64 (Int.ofNat i))<| .cons (by kernel_rfl:I.sound (I.int IntKind.u8 (Int.ofNat k))=true)<| .cons bl<| .cons (by kernel_rfl:I.sound (I.bool !a8 (Int.ofNat n) (Int.ofNat k))=true)<| .cons (by kernel_rfl:(I.bool !a8 (Int.ofNat n) (Int.ofNat k))=I.bool !a8 (Int.ofNat n) (Int.ofNat k))<| .cons bY<| .cons cG<| .nil
theorem XL(call:aP)(s t:List UInt8)(i n k j:Nat)(h:J)
  (H1:bP (.ofNat i) (.ofNat (List.length s))=true)
  (aM:bP (.ofNat i) (.ofNat (List.length t))=false):
  aB Tryz.prog Tryz.f77 none call [1,0,1,0,0] (ah.mk [(0,.str s),(1,.str t),(5,.int .i64 (.ofNat i))] [] .none h) (.exit 0)
   (ah.mk [(0,.str s),(1,.str t),(5,.int .i64 (.ofNat i))] [] .none h):=
 bx [0,1,4,5] (hs:=[.b true,.b true,.b true,.b true,.b true,.b false]) (by kernel_rfl)<| .cons H1<| .cons H1<| .cons H1<| .cons H1<| .cons H1<| .cons aM<| .nil
theorem XM(call:aP)(s t:List UInt8)(i n k j:Nat)(h:J)
  (H1:bP (.ofNat i) (.ofNat (List.length s))=false):
  aB Tryz.prog Tryz.f77 none call [1,0,1,0,0] (ah.mk [(0,.str s),(1,.str t),(5,.int .i64 (.ofNat i))] [] .none h) (.exit 0)
   (ah.mk [(0,.str s),(1,.str t),(5,.int .i64 (.ofNat i))] [] .none h):=
 bx [0,1,4,5] (hs:=[.b false,.b false,.b false,.b false,.b false,.b false]) (by kernel_rfl)<| .cons H1<| .cons H1<| .cons H1<| .cons H1<| .cons H1<| .cons (rfl:false=false)<| .nil
theorem XN(call:aP)(s t:List UInt8)(h:J):
  aB Tryz.prog Tryz.f77 none call [1,1] (ah.mk [(0,.str s),(1,.str t)] [] .none h) (.ret)
   (ah.mk [(4,.bool (bP (.ofNat (List.length s)) (.ofNat (List.length t))))] [] .none h):=
 bx [4] (hs:=[]) (by kernel_rfl)<| .nil
theorem XO(call:aP)(s:List UInt8)(h:J):
  aB Tryz.prog Tryz.f76 none call [0] (ah.mk [(0,.str s)] [] .none h) (.nrm)
   (ah.mk [(0,.str s)] [] .none h):=
 bx [0] (hs:=[]) (by kernel_rfl)<| .nil
theorem XP(call:aP)(s:List UInt8)(h:J):
  aB Tryz.prog Tryz.f81 none call [0] (ah.mk [(0,.str s)] [] .none h) (.nrm)
   (ah.mk [(0,.str s)] [] .none h):=
 bx [0] (hs:=[]) (by kernel_rfl)<| .nil
theorem XQ(a b:Nat):eQ (Int.ofNat a) (Int.ofNat b)=decide (a<=b):=by
 by_cases h:a<=b
 · rw[mO h];simp[h]
 · rw[ox h];simp[h]
theorem MZ(a b:Nat):bP (Int.ofNat a) (Int.ofNat b)=decide (a<b):=by
 by_cases h:a<b
 · rw[dT h];simp[h]
 · rw[e1 h];simp[h]
theorem u7(a b:Nat):a8 (Int.ofNat a) (Int.ofNat b)=decide (a=b):=by
 by_cases h:a=b
 · rw[nA h];simp[h]
 · rw[jS h];simp[h]
theorem GM(m n:Nat)(h:J):Y (m+1) (.fn 103) [.int .u8 (Int.ofNat n)] h=.ret (.bool (hK n)) h:=by
 have fin:∀b,aB Tryz.prog Tryz.f103 none (Y m) [] ⟨[(0,.int .u8 (Int.ofNat n))],[],.none,h⟩ .ret ⟨[(2,.bool b)],[],.none,h⟩->b=hK n->Y (m+1) (.fn 103) [.int .u8 (Int.ofNat n)] h=.ret (.bool (hK n)) h:=λb aj ae=>by
  rw[<-ae]
  exact eA (intr:=b3) (n:=m) (args:=[.int .u8 (Int.ofNat n)]) Tryz.func103 (by kernel_rfl) rfl (by kernel_rfl) aj (.inl rfl) (by kernel_rfl)
 by_cases aa:97<=n
 · by_cases ad:n<=122
   · exact fin true (Xi (Y m) n h (mO aa) (mO ad)) (by simp[hK,aa,ad])
   · exact fin _ (Xj (Y m) n h (mO aa) (ox ad) (mO (by omega)) (ox (by omega))) (by rw[u7];simp[hK,ad];omega)
 · by_cases av:65<=n
   · by_cases aG:n<=90
     · exact fin true (Xk (Y m) n h (ox aa) (mO av) (mO aG)) (by simp[hK,av,aG])
     · exact fin _ (Xl (Y m) n h (ox aa) (mO av) (ox aG)) (by rw[u7];simp[hK,aa,aG])
   · exact fin _ (Xm (Y m) n h (ox aa) (ox av)) (by rw[u7];simp[hK,aa,av])
theorem M0(m:Nat)(s:a7)(h:J)(hs:s.length<=90000):∀(k i:Nat),s.length-i=k->i<=s.length->
  ∃e Γ,eL Tryz.prog Tryz.f76 none (Y (m+1)) [1,1,0,1,0] (k+1) ⟨[(0,.str s),(3,.int .i64 (Int.ofNat i))],[],.none,h⟩ e ⟨Γ,[],.none,h⟩/\
   ((e=.exit 0/\Γ=[]/\(s.drop i).all (λc=>hK c.toNat||jA c.toNat)=true)\/(e=.ret/\Γ=[(2,.bool false)]/\(s.drop i).all (λc=>hK c.toNat||jA c.toNat)=false))
 |0,i,aq,af=>by
  obtain rfl:i=s.length:=by omega
  rw[List.drop_of_length_le (Nat.le_refl _)]
  exact⟨_,[],.exit (cQ.post (XI (Y (m+1)) s s.length 0 0 false h h (e1 (by omega))) trivial) (by simp),.inl ⟨rfl,rfl,rfl⟩⟩
 |k+1,i,aq,af=>by
  have aa:i<s.length:=by omega
  rw[List.drop_eq_getElem_cons aa,List.all_cons]
  have aF:=GM m s[i].toNat h
  have step:(hK s[i].toNat||jA s[i].toNat)=true->aB Tryz.prog Tryz.f76 none (Y (m+1)) [1,1,0,1,0,0] ⟨[(0,.str s),(3,.int .i64 (Int.ofNat i))],[],.none,h⟩ .nrm ⟨[(0,.str s),(3,.int .i64 (Int.ofNat (i+1)))],[],.none,h⟩:=λae=>by
   cases aw:hK s[i].toNat with
   |true=>
    rw[aw] at aF
    exact XH (Y (m+1)) s i _ (i+1) true h h (dT aa) (ov aa) aF rfl (j7 aa (by omega))
   |false=>
    rw[aw] at aF ae
    have ao:48<=s[i].toNat/\s[i].toNat<=57:=by simpa[jA] using ae
    exact XG (Y (m+1)) s i _ (i+1) false h h (dT aa) (ov aa) aF rfl (e1 (by omega)) (e1 (by omega)) (j7 aa (by omega))
  cases ag:(hK s[i].toNat||jA s[i].toNat) with
  |true=>
   obtain⟨e,Γ,bw,bV⟩:=M0 m s h hs k (i+1) (by omega) (by omega)
   refine⟨e,Γ,.step (step ag) bw,?_⟩
   rw[Bool.true_and];exact bV
  |false=>
   obtain⟨aw,ao⟩:hK s[i].toNat=false/\jA s[i].toNat=false:=by simpa using ag
   rw[aw] at aF
   refine⟨_,[(2,.bool false)],.exit (e:=.ret) ?_ (by simp),.inr ⟨rfl,rfl,by rw[Bool.false_and]⟩⟩
   by_cases M1:s[i].toNat<48
   · exact cQ.post (XE (Y (m+1)) s i _ 0 false h h (dT aa) (ov aa) aF rfl (dT M1)) ⟨rfl,trivial⟩
   · exact cQ.post (XF (Y (m+1)) s i _ 0 false h h (dT aa) (ov aa) aF rfl (e1 M1) (dT (by simp[jA] at ao;omega))) ⟨rfl,trivial⟩
theorem M3(m:Nat)(s:a7)(h:J):Y (m+2) (.fn 76) [.str s] h=.ret (.bool (ij s)) h:=by
 have fin:∀b,aB Tryz.prog Tryz.f76 none (Y (m+1)) [1] ⟨[(0,.str s)],[],.none,h⟩ .ret ⟨[(2,.bool b)],[],.none,h⟩->b=ij s->Y (m+2) (.fn 76) [.str s] h=.ret (.bool (ij s)) h:=λb aj ae=>by
  rw[<-ae]
  exact eA (intr:=b3) (n:=m+1) (args:=[.str s]) Tryz.func76 (by kernel_rfl) rfl (by kernel_rfl) (aB.seq (p:=[]) (by kernel_rfl) (XO (Y (m+1)) s h) aj) (.inl rfl) (by kernel_rfl)
 by_cases aa:s.length<1
 · exact fin false (aB.gy (p:=[1]) (by kernel_rfl) (cQ.post (Xn (Y (m+1)) s 0 false h h (dT aa)) ⟨rfl,trivial⟩) (by simp)) (by simp[ij];omega)
 by_cases ad:24<s.length
 · exact fin false (aB.gy (p:=[1]) (by kernel_rfl) (cQ.post (Xo (Y (m+1)) s 0 false h h (e1 aa) (dT ad)) ⟨rfl,trivial⟩) (by simp)) (by simp[ij];omega)
 have hs:s.length<=90000:=by omega
 have h0:0<s.length:=by omega
 have aF:=GM m s[0].toNat h
 have ak:Gx s=hK s[0].toNat:=by
  cases s with
  |nil=>simp at h0
  |cons c s=>rfl
 cases aw:hK s[0].toNat with
 |false=>
  rw[aw] at aF
  exact fin false (aB.gy (p:=[1]) (by kernel_rfl) (cQ.post (Xp (Y (m+1)) s _ false h h (e1 aa) (e1 ad) (ov h0) aF rfl) ⟨rfl,trivial⟩) (by simp)) (by simp[ij,ak,aw])
 |true=>
  rw[aw] at aF
  have s1:=Xq (Y (m+1)) s _ true h h (e1 aa) (e1 ad) (ov h0) aF rfl
  obtain⟨e,Γ,bw,bV⟩:=M0 m s h hs s.length 0 (by omega) (by omega)
  have c5:=eL.run (p:=[1,1,0,1,0]) (by kernel_rfl) bw (by omega)
  rw[List.drop_zero] at bV
  have w6:1<=s.length:=h0
  have GN:s.length<=24:=by omega
  rcases bV with⟨rfl,rfl,gZ⟩|⟨rfl,rfl,gZ⟩
  · exact fin true (aB.seq (p:=[1]) (by kernel_rfl) s1 (aB.seq (p:=[1,1]) (by kernel_rfl) (aB.seq (p:=[1,1,0]) (by kernel_rfl) (MV (Y (m+1)) s h) (aB.block (p:=[1,1,0,1]) (id:=0) (by kernel_rfl) c5)) (Xr (Y (m+1)) h))) (by unfold ij;rw[gZ,ak,aw];simp[w6,GN])
  · exact fin false (aB.seq (p:=[1]) (by kernel_rfl) s1 (aB.gy (p:=[1,1]) (by kernel_rfl) (aB.seq (p:=[1,1,0]) (by kernel_rfl) (MV (Y (m+1)) s h) (aB.rq (p:=[1,1,0,1]) (id:=0) (by kernel_rfl) c5 (by simp))) (by simp))) (by unfold ij;rw[gZ];simp)
theorem XR(call:aP)(s:a7)(i n:Nat)(h:J)(aa:i<s.length)(hs:s.length<=90000)(ad:g7 i s=some (.int .u8 (Int.ofNat n)))(aF:call (.fn 103) [.int .u8 (Int.ofNat n)] h=.ret (.bool (hK n)) h):
  if ks n then aB Tryz.prog Tryz.f81 none call [1,1,0,1,0,0] ⟨[(0,.str s),(3,.int .i64 (Int.ofNat i))],[],.none,h⟩ .nrm ⟨[(0,.str s),(3,.int .i64 (Int.ofNat (i+1)))],[],.none,h⟩
  else aB Tryz.prog Tryz.f81 none call [1,1,0,1,0,0] ⟨[(0,.str s),(3,.int .i64 (Int.ofNat i))],[],.none,h⟩ .ret ⟨[(2,.bool false)],[],.none,h⟩:=by
 have aK:=j7 aa (m:=s.length) (by omega)
 have af:=dT aa
 have ne:∀{a b:Nat},a≠b->(!a8 (Int.ofNat a) (Int.ofNat b))=true:=λe=>rF e
 have mf:∀{a b:Nat},a=b->(!a8 (Int.ofNat a) (Int.ofNat b))=false:=λe=>w3 e
 cases aw:hK n with
 |true=>
  rw[aw] at aF
  rw[if_pos (by simp[ks,aw])]
  exact XB call s i n (i+1) true h h af ad aF rfl aK
 |false=>
  rw[aw] at aF
  by_cases b6:n<48
  · by_cases c8:n=45
    · rw[if_pos (by simp[ks,c8])]
      exact Xy call s i n (i+1) false h h af ad aF rfl (dT b6) (mf c8) aK
    by_cases ek:n=47
    · rw[if_pos (by simp[ks,ek])]
      exact Xx call s i n (i+1) false h h af ad aF rfl (dT b6) (ne c8) (mf ek) aK
    by_cases en:n=46
    · rw[if_pos (by simp[ks,en])]
      exact Xw call s i n (i+1) false h h af ad aF rfl (dT b6) (ne c8) (ne ek) (mf en) aK
    · rw[if_neg (by simp[ks,aw,jA,c8,ek,en];omega)]
      exact cQ.post (Xv call s i n 0 false h h af ad aF rfl (dT b6) (ne c8) (ne ek) (ne en)) ⟨rfl,trivial⟩
  · by_cases cU:57<n
    · rw[if_neg (by simp[ks,aw,jA];omega)]
      exact cQ.post (Xz call s i n 0 false h h af ad aF rfl (e1 b6) (dT cU) (ne (by omega)) (ne (by omega)) (ne (by omega))) ⟨rfl,trivial⟩
    · rw[if_pos (by simp[ks,jA];omega)]
      exact XA call s i n (i+1) false h h af ad aF rfl (e1 b6) (e1 cU) aK
theorem M4(m:Nat)(s:a7)(h:J)(hs:s.length<=90000):∀(k i:Nat),s.length-i=k->i<=s.length->
  ∃e Γ,eL Tryz.prog Tryz.f81 none (Y (m+1)) [1,1,0,1,0] (k+1) ⟨[(0,.str s),(3,.int .i64 (Int.ofNat i))],[],.none,h⟩ e ⟨Γ,[],.none,h⟩/\
   ((e=.exit 0/\Γ=[]/\(s.drop i).all (λc=>ks c.toNat)=true)\/(e=.ret/\Γ=[(2,.bool false)]/\(s.drop i).all (λc=>ks c.toNat)=false))
 |0,i,aq,af=>by
  obtain rfl:i=s.length:=by omega
  rw[List.drop_of_length_le (Nat.le_refl _)]
  exact⟨_,[],.exit (cQ.post (XC (Y (m+1)) s s.length 0 0 false h h (e1 (by omega))) trivial) (by simp),.inl ⟨rfl,rfl,rfl⟩⟩
 |k+1,i,aq,af=>by
  have aa:i<s.length:=by omega
  rw[List.drop_eq_getElem_cons aa,List.all_cons]
  have st:=XR (Y (m+1)) s i s[i].toNat h aa hs (ov aa) (GM m s[i].toNat h)
  cases ag:ks s[i].toNat with
  |true=>
   rw[if_pos ag] at st
   obtain⟨e,Γ,bw,bV⟩:=M4 m s h hs k (i+1) (by omega) (by omega)
   refine⟨e,Γ,.step st bw,?_⟩
   rw[Bool.true_and];exact bV
  |false=>
   rw[if_neg (by rw[ag];simp)] at st
   exact⟨_,_,.exit st (by simp),.inr ⟨rfl,rfl,by rw[Bool.false_and]⟩⟩
theorem XS(m:Nat)(s:a7)(h:J):Y (m+2) (.fn 81) [.str s] h=.ret (.bool (md s)) h:=by
 have fin:∀b,aB Tryz.prog Tryz.f81 none (Y (m+1)) [1] ⟨[(0,.str s)],[],.none,h⟩ .ret ⟨[(2,.bool b)],[],.none,h⟩->b=md s->Y (m+2) (.fn 81) [.str s] h=.ret (.bool (md s)) h:=λb aj ae=>by
  rw[<-ae]
  exact eA (intr:=b3) (n:=m+1) (args:=[.str s]) Tryz.func81 (by kernel_rfl) rfl (by kernel_rfl) (aB.seq (p:=[]) (by kernel_rfl) (XP (Y (m+1)) s h) aj) (.inl rfl) (by kernel_rfl)
 by_cases aa:s.length<1
 · exact fin false (aB.gy (p:=[1]) (by kernel_rfl) (cQ.post (Xs (Y (m+1)) s h (dT aa)) ⟨rfl,trivial⟩) (by simp)) (by simp[md];omega)
 by_cases ad:161<s.length
 · exact fin false (aB.gy (p:=[1]) (by kernel_rfl) (cQ.post (Xt (Y (m+1)) s h (e1 aa) (dT ad)) ⟨rfl,trivial⟩) (by simp)) (by simp[md];omega)
 have hs:s.length<=90000:=by omega
 have s1:=Xu (Y (m+1)) s h (e1 aa) (e1 ad)
 obtain⟨e,Γ,bw,bV⟩:=M4 m s h hs s.length 0 (by omega) (by omega)
 have c5:=eL.run (p:=[1,1,0,1,0]) (by kernel_rfl) bw (by omega)
 rw[List.drop_zero] at bV
 have w6:1<=s.length:=by omega
 have GN:s.length<=161:=by omega
 rcases bV with⟨rfl,rfl,gZ⟩|⟨rfl,rfl,gZ⟩
 · exact fin true (aB.seq (p:=[1]) (by kernel_rfl) s1 (aB.seq (p:=[1,1]) (by kernel_rfl) (aB.seq (p:=[1,1,0]) (by kernel_rfl) (MW (Y (m+1)) s h) (aB.block (p:=[1,1,0,1]) (id:=0) (by kernel_rfl) c5)) (XD (Y (m+1)) h))) (by unfold md;rw[gZ];simp[w6,GN])
 · exact fin false (aB.seq (p:=[1]) (by kernel_rfl) s1 (aB.gy (p:=[1,1]) (by kernel_rfl) (aB.seq (p:=[1,1,0]) (by kernel_rfl) (MW (Y (m+1)) s h) (aB.rq (p:=[1,1,0,1]) (id:=0) (by kernel_rfl) c5 (by simp))) (by simp))) (by unfold md;rw[gZ];simp)
theorem M5(call:aP)(s t:a7)(B:Nat)(h:J)(hs:s.length<=90000):∀(k i:Nat) (x:J),s.length-i=k->i<=s.length->i<=t.length->Ext B h x->
  ∃e Γ y,eL Tryz.prog Tryz.f77 none call [1,0,1,0] (k+1) ⟨[(0,.str s),(1,.str t),(5,.int .i64 (Int.ofNat i))],[],.none,x⟩ e ⟨Γ,[],.none,y⟩/\
   ((e=.exit 0/\Γ=[(0,.str s),(1,.str t)]/\dO (s.drop i) (t.drop i)=decide (s.length<t.length))\/(e=.ret/\Γ=[(4,.bool (dO (s.drop i) (t.drop i)))]))/\Ext B h y
 |0,i,x,aq,af,eY,ab=>by
  obtain rfl:i=s.length:=by omega
  refine⟨_,[(0,.str s),(1,.str t)],_,.exit (cQ.post (XM call s t s.length 0 0 0 x (e1 (by omega))) ⟨rfl,rfl,trivial⟩) (by simp),.inl ⟨rfl,rfl,?_⟩,ab⟩
  rw[List.drop_of_length_le (Nat.le_refl _)]
  cases ao:t.drop s.length with
  |nil=>
   have:t.length<=s.length:=List.drop_eq_nil_iff.1 ao
   rw[dO];simp;omega
  |cons c u=>
   have:s.length<t.length:=by
    have:=congrArg List.length ao
    simp at this;omega
   rw[dO];simp[this]
 |k+1,i,x,aq,af,eY,ab=>by
  have aa:i<s.length:=by omega
  by_cases ad:i<t.length
  · rw[List.drop_eq_getElem_cons aa,List.drop_eq_getElem_cons ad,zI]
    by_cases he:s[i].toNat=t[i].toNat
    · rw[if_pos he]
      obtain⟨e,Γ,y,bw,bV,c5⟩:=M5 call s t B h hs k (i+1) (x.room 7) (by omega) (by omega) (by omega) ab.ht
      exact⟨e,Γ,y,.step (XK call s t i _ _ (i+1) x (dT aa) (dT ad) (ov aa) (ov ad) (w3 he) (j7 aa (by omega))) bw,bV,c5⟩
    · rw[if_neg he,<-MZ]
      exact⟨_,[(4,.bool (bP (Int.ofNat s[i].toNat) (Int.ofNat t[i].toNat)))],_,.exit (cQ.post (XJ call s t i _ _ 0 x (dT aa) (dT ad) (ov aa) (ov ad) (rF he)) ⟨rfl,trivial⟩) (by simp),.inr ⟨rfl,rfl⟩,ab.ht.ht⟩
  · refine⟨_,[(0,.str s),(1,.str t)],_,.exit (cQ.post (XL call s t i 0 0 0 x (dT aa) (e1 ad)) ⟨rfl,rfl,trivial⟩) (by simp),.inl ⟨rfl,rfl,?_⟩,ab⟩
    rw[List.drop_of_length_le (l:=t) (by omega)]
    have:dO (s.drop i) []=false:=by
     cases s.drop i<;>rw[dO]
    rw[this];simp;omega
theorem CL(m:Nat)(s t:a7)(B:Nat)(h:J)(hs:s.length<=90000):∃an,Y (m+1) (.fn 77) [.str s,.str t] h=.ret (.bool (dO s t)) an/\Ext B h an:=by
 obtain⟨e,Γ,y,bw,bV,c5⟩:=M5 (Y m) s t B h hs s.length 0 h (by omega) (by omega) (by omega) (Ext.refl _ _)
 have gz:=eL.run (p:=[1,0,1,0]) (by kernel_rfl) bw (by omega)
 rw[List.drop_zero,List.drop_zero] at bV
 rcases bV with⟨rfl,rfl,gZ⟩|⟨rfl,rfl⟩
 · rw[gZ,<-MZ]
   exact⟨y,eA (intr:=b3) (n:=m) (args:=[.str s,.str t]) Tryz.func77 (by kernel_rfl) rfl (by kernel_rfl) (aB.seq (p:=[]) (by kernel_rfl) (MX (Y m) s t h) (aB.seq (p:=[1]) (by kernel_rfl) (aB.seq (p:=[1,0]) (by kernel_rfl) (MY (Y m) s t h) (aB.block (p:=[1,0,1]) (id:=0) (by kernel_rfl) gz)) (XN (Y m) s t y))) (.inl rfl) (by kernel_rfl),c5⟩
 · exact⟨y,eA (intr:=b3) (n:=m) (args:=[.str s,.str t]) Tryz.func77 (by kernel_rfl) rfl (by kernel_rfl) (aB.seq (p:=[]) (by kernel_rfl) (MX (Y m) s t h) (aB.gy (p:=[1]) (by kernel_rfl) (aB.seq (p:=[1,0]) (by kernel_rfl) (MY (Y m) s t h) (aB.rq (p:=[1,0,1]) (id:=0) (by kernel_rfl) gz (by simp))) (by simp))) (.inl rfl) (by kernel_rfl),c5⟩
theorem XT(call:aP)(r:Nat)(h:J):
  aB Tryz.prog Tryz.f79 none call [0] (ah.mk [(0,.ptr r 0)] [] .none h) (.nrm)
   (ah.mk [(0,.ptr r 0)] [] .none h):=
 bx [0] (hs:=[]) (by kernel_rfl)<| .nil
theorem XU(call:aP)(r:Nat)(h g:J)
  (H1:bt.storeCells (J.push h (.cells [.str [],.str [],.str [],.str [],.str []] 141 .own 0 0)) (J.n h) 0 [.str [97,110,121],.str [105,110,116],.str [98,111,111,108],.str [115,116,114],.str [110,105,108]]=some g):
  aB Tryz.prog Tryz.f79 none call [1,0] (ah.mk [(0,.ptr r 0)] [] .none h) (.nrm)
   (ah.mk [(0,.ptr r 0),(3,.ptr (J.n h) 0)] [] .none g):=
 bx [0,3] (hs:=[.mM (.aO []) g]) (by kernel_rfl)<| .cons (⟨by kernel_rfl,H1,rfl⟩:some 5=some 5/\bt.storeCells (J.push h (dr.cells [I.str [],I.str [],I.str [],I.str [],I.str []] 141 gS.own 0 0)) (J.n h) 0 [I.str [97,110,121],I.str [105,110,116],I.str [98,111,111,108],I.str [115,116,114],I.str [110,105,108]]=some g/\I.aO []=I.aO [])<| .nil
theorem XV(call:aP)(r a:Nat)(h:J):
  aB Tryz.prog Tryz.f79 none call [1,1,0] (ah.mk [(0,.ptr r 0),(3,.ptr a 0)] [] .none h) (.nrm)
   (ah.mk [(0,.ptr r 0),(3,.ptr a 0),(4,.str [])] [] .none h):=
 bx [0,3,4] (hs:=[]) (by kernel_rfl)<| .nil
theorem XW(call:aP)(r a k:Nat)(h:J)
  (H1:ar h r (0+0)=some (.int .i64 (.ofNat k))):
  aB Tryz.prog Tryz.f79 none call [1,1,1,0,0] (ah.mk [(0,.ptr r 0),(3,.ptr a 0),(4,.str [])] [] .none h) (.nrm)
   (ah.mk [(0,.ptr r 0),(3,.ptr a 0),(4,.str []),(12,.int .i64 (.ofNat k))] [] .none h):=
 bx [0,3,4,12] (hs:=[.v (.int .i64 (.ofNat k))]) (by kernel_rfl)<| .cons H1<| .nil
theorem XX(call:aP)(r a:Nat)(s:List UInt8)(h:J)
  (H1:ar h r (0+1)=some (.str s)):
  aB Tryz.prog Tryz.f79 none call [1,1,1,0,1] (ah.mk [(0,.ptr r 0),(3,.ptr a 0),(4,.str []),(12,.int .i64 (.ofNat 6))] [] .none h) (.ret)
   (ah.mk [(2,.str s)] [] .none h):=
 bx [2] (hs:=[.b true,.v (.str s)]) (by kernel_rfl)<| .cons (by kernel_rfl:a8 (Int.ofNat 6) (Int.ofNat 6)=true)<| .cons H1<| .nil
theorem XY(call:aP)(r a:Nat)(s s1 s2:List UInt8)(h g:J)
  (H1:aB Tryz.prog Tryz.f79 none call [1,1,1,0,1,0,1,1,1,0,0,1,0] (ah.mk [(5,.int .i64 (.ofNat 0)),(19,.bool (a8 (.ofNat 7) (.ofNat 7))),(13,.bool (a8 (.ofNat 7) (.ofNat 6))),(0,.ptr r 0),(3,.ptr a 0),(4,.str []),(12,.int .i64 (.ofNat 7))] [] .none h) (.exit 1) (ah.mk [(0,.ptr r 0),(4,.str s)] [] .none g))
  (aM:gT .add [123] s=some (.str s1))
  (bm:gT .add s1 [125]=some (.str s2)):
  aB Tryz.prog Tryz.f79 none call [1,1,1,0,1] (ah.mk [(0,.ptr r 0),(3,.ptr a 0),(4,.str []),(12,.int .i64 (.ofNat 7))] [] .none h) (.ret)
   (ah.mk [(2,.str s2)] [] .none g):=
 bx [2] (hs:=[Hint.b false,Hint.b true,Hint.loop (bu.exit 1) (ah.mk [(0,I.ptr r 0),(4,I.str s)] [] bL.none g),Hint.v (I.str s1),Hint.v (I.str s2)]) (by kernel_rfl)<| .cons (by kernel_rfl:a8 (Int.ofNat 7) (Int.ofNat 6)=false)<| .cons (by kernel_rfl:a8 (Int.ofNat 7) (Int.ofNat 7)=true)<| .cons H1<| .cons aM<| .cons bm<| .nil
theorem XZ(call:aP)(r a:Nat)(s s1 s2 bN bS:List UInt8)(v:I)(h g au:J)
  (H1:aB Tryz.prog Tryz.f79 none call [1,1,1,0,1,0,1,1,1,1,1,0,0,1,0] (ah.mk [(6,.int .i64 (.ofNat 0)),(56,.bool (a8 (.ofNat 8) (.ofNat 8))),(19,.bool (a8 (.ofNat 8) (.ofNat 7))),(13,.bool (a8 (.ofNat 8) (.ofNat 6))),(0,.ptr r 0),(3,.ptr a 0),(4,.str []),(12,.int .i64 (.ofNat 8))] [] .none h) (.exit 3) (ah.mk [(0,.ptr r 0),(4,.str s)] [] .none g))
  (aM:gT .add [102,110,40] s=some (.str s1))
  (bm:gT .add s1 [41,32,45,62,32]=some (.str s2))
  (bl:ar g r (0+4)=some v)
  (bY:call (.fn 79) [v] g=a9.ret (.str bN) au)
  (cG:gT .add s2 bN=some (.str bS)):
  aB Tryz.prog Tryz.f79 none call [1,1,1,0,1] (ah.mk [(0,.ptr r 0),(3,.ptr a 0),(4,.str []),(12,.int .i64 (.ofNat 8))] [] .none h) (.ret)
   (ah.mk [(2,.str bS)] [] .none au):=
 bx [2] (hs:=[Hint.b false,Hint.b false,Hint.b true,Hint.loop (bu.exit 3) (ah.mk [(0,I.ptr r 0),(4,I.str s)] [] bL.none g),Hint.v (I.str s1),Hint.v (I.str s2),Hint.v v,Hint.c (I.str bN) au,Hint.v (I.str bS)]) (by kernel_rfl)<| .cons (by kernel_rfl:a8 (Int.ofNat 8) (Int.ofNat 6)=false)<| .cons (by kernel_rfl:a8 (Int.ofNat 8) (Int.ofNat 7)=false)<| .cons (by kernel_rfl:a8 (Int.ofNat 8) (Int.ofNat 8)=true)<| .cons H1<| .cons aM<| .cons bm<| .cons bl<| .cons bY<| .cons cG<| .nil
theorem X0(call:aP)(r a:Nat)(s:List UInt8)(h g:J)
  (H1:aB Tryz.prog Tryz.f79 none call [1,1,1,0,1,0,1,1,1,1,1,1,1,0,0,1,0] (ah.mk [(7,.int .i64 (.ofNat 0)),(90,.bool (a8 (.ofNat 9) (.ofNat 9))),(56,.bool (a8 (.ofNat 9) (.ofNat 8))),(19,.bool (a8 (.ofNat 9) (.ofNat 7))),(13,.bool (a8 (.ofNat 9) (.ofNat 6))),(0,.ptr r 0),(3,.ptr a 0),(4,.str []),(12,.int .i64 (.ofNat 9))] [] .none h) (.exit 5) (ah.mk [(0,.ptr r 0),(4,.str s)] [] .none g)):
  aB Tryz.prog Tryz.f79 none call [1,1,1,0,1] (ah.mk [(0,.ptr r 0),(3,.ptr a 0),(4,.str []),(12,.int .i64 (.ofNat 9))] [] .none h) (.ret)
   (ah.mk [(2,.str s)] [] .none g):=
 bx [2] (hs:=[Hint.b false,Hint.b false,Hint.b false,Hint.b true,Hint.loop (bu.exit 5) (ah.mk [(0,I.ptr r 0),(4,I.str s)] [] bL.none g)]) (by kernel_rfl)<| .cons (by kernel_rfl:a8 (Int.ofNat 9) (Int.ofNat 6)=false)<| .cons (by kernel_rfl:a8 (Int.ofNat 9) (Int.ofNat 7)=false)<| .cons (by kernel_rfl:a8 (Int.ofNat 9) (Int.ofNat 8)=false)<| .cons (by kernel_rfl:a8 (Int.ofNat 9) (Int.ofNat 9)=true)<| .cons H1<| .nil
theorem X1(call:aP)(r a k:Nat)(h:J)
  (H1:a8 (.ofNat k) (.ofNat 6)=false)
  (aM:a8 (.ofNat k) (.ofNat 7)=false)
  (bm:a8 (.ofNat k) (.ofNat 8)=false)
  (bl:a8 (.ofNat k) (.ofNat 9)=false):
  aB Tryz.prog Tryz.f79 none call [1,1,1,0,1] (ah.mk [(0,.ptr r 0),(3,.ptr a 0),(4,.str []),(12,.int .i64 (.ofNat k))] [] .none h) (.nrm)
   (ah.mk [(0,.ptr r 0),(3,.ptr a 0)] [] .none h):=
 bx [0,3] (hs:=[.b false,.b false,.b false,.b false]) (by kernel_rfl)<| .cons H1<| .cons aM<| .cons bm<| .cons bl<| .nil
theorem X2(call:aP)(r a k j q:Nat)(s:List UInt8)(h:J)
  (H1:ar h r (0+0)=some (.int .i64 (.ofNat k)))
  (aM:arith .sub .i64 (.ofNat k) (.ofNat 1)=some (.int .i64 (.ofNat j)))
  (bm:Nat.le (Nat.succ j) 5/\I.ptr a q=I.ptr a (0+j*1))
  (bl:ar h a q=some (.str s)):
  aB Tryz.prog Tryz.f79 none call [1,1,1,1] (ah.mk [(0,.ptr r 0),(3,.ptr a 0)] [] .none h) (.ret)
   (ah.mk [(2,.str s)] [] .none h):=
 bx [2] (hs:=[.v (.int .i64 (.ofNat k)),.v (.int .i64 (.ofNat j)),.v (.ptr a q),.v (.str s)]) (by kernel_rfl)<| .cons H1<| .cons aM<| .cons bm<| .cons bl<| .nil
theorem X3(call:aP)(r i N:Nat)(s:List UInt8)(v:I)(h:J)
  (H1:ar h r (0+3)=some v)
  (aM:cl Tryz.prog h 50 v=some (.int .i64 (.ofNat N)))
  (bm:bP (.ofNat i) (.ofNat N)=false):
  aB Tryz.prog Tryz.f79 none call [1,1,1,0,1,0,1,1,1,0,0,1,0,0] (ah.mk [(0,.ptr r 0),(4,.str s),(5,.int .i64 (.ofNat i))] [] .none h) (.exit 1)
   (ah.mk [(0,.ptr r 0),(4,.str s)] [] .none h):=
 bx [0,4] (hs:=[.v v,.o (.int .i64 (.ofNat N)),.b false]) (by kernel_rfl)<| .cons H1<| .cons aM<| .cons bm<| .nil
theorem X4(call:aP)(r i N:Nat)(s:List UInt8)(v:I)(h:J)
  (H1:ar h r (0+3)=some v)
  (aM:cl Tryz.prog h 50 v=some (.int .i64 (.ofNat N)))
  (bm:bP (.ofNat i) (.ofNat N)=false):
  aB Tryz.prog Tryz.f79 none call [1,1,1,0,1,0,1,1,1,1,1,0,0,1,0,0] (ah.mk [(0,.ptr r 0),(4,.str s),(6,.int .i64 (.ofNat i))] [] .none h) (.exit 3)
   (ah.mk [(0,.ptr r 0),(4,.str s)] [] .none h):=
 bx [0,4] (hs:=[.v v,.o (.int .i64 (.ofNat N)),.b false]) (by kernel_rfl)<| .cons H1<| .cons aM<| .cons bm<| .nil
theorem X5(call:aP)(r i N:Nat)(s:List UInt8)(v:I)(h:J)
  (H1:ar h r (0+3)=some v)
  (aM:cl Tryz.prog h 50 v=some (.int .i64 (.ofNat N)))
  (bm:bP (.ofNat i) (.ofNat N)=false):
  aB Tryz.prog Tryz.f79 none call [1,1,1,0,1,0,1,1,1,1,1,1,1,0,0,1,0,0] (ah.mk [(0,.ptr r 0),(4,.str s),(7,.int .i64 (.ofNat i))] [] .none h) (.exit 5)
   (ah.mk [(0,.ptr r 0),(4,.str s)] [] .none h):=
 bx [0,4] (hs:=[.v v,.o (.int .i64 (.ofNat N)),.b false]) (by kernel_rfl)<| .cons H1<| .cons aM<| .cons bm<| .nil
theorem X6(call:aP)(r b off N a3 b1 M i q a1 j:Nat)(s s1 s2 bN bS cr n w:List UInt8)(x:I)(cp cj:bR)(h g:J)
  (H1:ar h r (0+3)=some (.slice a3 b1 M cj))
  (aM:bP (.ofNat i) (.ofNat M)=true)
  (bm:bP (.ofNat 0) (.ofNat i)=true)
  (bl:gT .add s [44,32]=some (.str s1))
  (bY:ar (J.room h 20) r (0+2)=some (.slice b off N cp))
  (cG:Nat.le (Nat.succ i) N/\I.ptr b q=I.ptr b (off+i*1))
  (du:ar (J.room h 20) b q=some (.str n))
  (gP:gT .add s1 n=some (.str s2))
  (kb:gT .add s2 [58,32]=some (.str bN))
  (nM:ar (J.room h 20) r (0+3)=some (.slice a3 b1 M cj))
  (pq:Nat.le (Nat.succ i) M/\I.ptr a3 a1=I.ptr a3 (b1+i*1))
  (s4:ar (J.room h 20) a3 a1=some x)
  (w7:call (.fn 79) [x] (J.room h 20)=a9.ret (.str w) g)
  (CM:gT .add bN w=some (.str bS))
  (GO:ar g r (0+2)=some (.slice b off N cp))
  (GP:ar g b q=some (.str n))
  (GQ:I.sound x=true:=by first|with_reducible assumption|rfl|exact c6.snd (by with_reducible assumption)|exact c6.gY (by with_reducible assumption)|exact dM.snd (by with_reducible assumption)|exact dM.gY (by with_reducible assumption)|exact dD.snd (by with_reducible assumption)|exact dD.gY (by with_reducible assumption))
  (X7:arith .add .i64 (.ofNat i) (.ofNat 1)=some (.int .i64 (.ofNat j))):
  aB Tryz.prog Tryz.f79 none call [1,1,1,0,1,0,1,1,1,0,0,1,0,0] (ah.mk [(0,.ptr r 0),(4,.str s),(5,.int .i64 (.ofNat i))] [] .none h) (.nrm)
   (ah.mk [(0,.ptr r 0),(4,.str bS),(5,.int .i64 (.ofNat j))] [] .none g):=
 bx [0,4,5] (hs:=[.v (.slice a3 b1 M cj),.b true,.b true,.v (.str s1),.v (.slice b off N cp),.v (.ptr b q),.v (.str n),.v (.str s2),.v (.str bN),.v (.slice a3 b1 M cj),.v (.ptr a3 a1),.v x,.c (.str w) g,.v (.str bS),.v (.int .i64 (.ofNat j))]) (by kernel_rfl)<| .cons H1<| .cons aM<| .cons bm<| .cons bl<| .cons bY<| .cons cG<| .cons du<| .cons gP<| .cons kb<| .cons nM<| .cons pq<| .cons s4<| .cons w7<| .cons CM<| .cons (by kernel_rfl:I.sound (I.str s1)=true)<| .cons (by kernel_rfl:I.str s1=I.str s1)<| .cons (by kernel_rfl:I.sound (I.str s1)=true)<| .cons (by kernel_rfl:I.str s1=I.str s1)<| .cons (by kernel_rfl:I.sound (I.ptr r 0)=true)<| .cons (by kernel_rfl:I.ptr r 0=I.ptr r 0)<| .cons (by kernel_rfl:I.sound (I.ptr r 0)=true)<| .cons (by kernel_rfl:I.ptr r 0=I.ptr r 0)<| .cons (by kernel_rfl:I.sound (I.ptr r 0)=true)<| .cons (by kernel_rfl:I.ptr r 0=I.ptr r 0)<| .cons (by kernel_rfl:I.sound (I.ptr r 0)=true)<| .cons (by kernel_rfl:I.ptr r 0=I.ptr r 0)<| .cons (by kernel_rfl:I.sound (I.ptr r (0+2))=true)<| .cons (by kernel_rfl:I.ptr r (0+2)=I.ptr r (0+2))<| .cons (by kernel_rfl:I.sound (I.ptr r (0+2))=true)<| .cons (by kernel_rfl:I.ptr r (0+2)=I.ptr r (0+2))<| .cons (by kernel_rfl:I.sound (I.slice b off N cp)=true)<| .cons GO<| .cons (by kernel_rfl:I.sound (I.slice b off N cp)=true)<| .cons bY<| .cons (by kernel_rfl:I.sound (I.int IntKind.i64 (Int.ofNat i))=true)<| .cons (by kernel_rfl:I.int IntKind.i64 (Int.ofNat i)=I.int IntKind.i64 (Int.ofNat i))<| .cons (by kernel_rfl:I.sound (I.int IntKind.i64 (Int.ofNat i))=true)<| .cons (by kernel_rfl:I.int IntKind.i64 (Int.ofNat i)=I.int IntKind.i64 (Int.ofNat i))<| .cons (by kernel_rfl:I.sound (I.ptr b q)=true)<| .cons cG<| .cons (by kernel_rfl:I.sound (I.ptr b q)=true)<| .cons cG<| .cons (by kernel_rfl:I.sound (I.str n)=true)<| .cons GP<| .cons (by kernel_rfl:I.sound (I.str n)=true)<| .cons du<| .cons (by kernel_rfl:I.sound (I.str s2)=true)<| .cons gP<| .cons (by kernel_rfl:I.sound (I.str s2)=true)<| .cons gP<| .cons (by kernel_rfl:I.sound (I.str bN)=true)<| .cons kb<| .cons (by kernel_rfl:I.sound (I.str bN)=true)<| .cons kb<| .cons (by kernel_rfl:I.sound (I.ptr r 0)=true)<| .cons (by kernel_rfl:I.ptr r 0=I.ptr r 0)<| .cons (by kernel_rfl:I.sound (I.ptr r 0)=true)<| .cons (by kernel_rfl:I.ptr r 0=I.ptr r 0)<| .cons (by kernel_rfl:I.sound (I.ptr r (0+3))=true)<| .cons (by kernel_rfl:I.ptr r (0+3)=I.ptr r (0+3))<| .cons (by kernel_rfl:I.sound (I.slice a3 b1 M cj)=true)<| .cons nM<| .cons (by kernel_rfl:I.sound (I.int IntKind.i64 (Int.ofNat i))=true)<| .cons (by kernel_rfl:I.int IntKind.i64 (Int.ofNat i)=I.int IntKind.i64 (Int.ofNat i))<| .cons (by kernel_rfl:I.sound (I.ptr a3 a1)=true)<| .cons pq<| .cons GQ<| .cons s4<| .cons (by kernel_rfl:I.sound (I.str bS)=true)<| .cons CM<| .cons (by kernel_rfl:I.sound (I.str bS)=true)<| .cons (by kernel_rfl:I.str bS=I.str bS)<| .cons X7<| .nil
theorem X8(call:aP)(r b off N a3 b1 M i q a1 j:Nat)(s s1 s2 bN bS cr n w:List UInt8)(x:I)(cp cj:bR)(h g:J)
  (H1:ar h r (0+3)=some (.slice a3 b1 M cj))
  (aM:bP (.ofNat i) (.ofNat M)=true)
  (bm:bP (.ofNat 0) (.ofNat i)=false)
  (bl:ar (J.room h 20) r (0+2)=some (.slice b off N cp))
  (bY:Nat.le (Nat.succ i) N/\I.ptr b q=I.ptr b (off+i*1))
  (cG:ar (J.room h 20) b q=some (.str n))
  (du:gT .add s n=some (.str s2))
  (gP:gT .add s2 [58,32]=some (.str bN))
  (kb:ar (J.room h 20) r (0+3)=some (.slice a3 b1 M cj))
  (nM:Nat.le (Nat.succ i) M/\I.ptr a3 a1=I.ptr a3 (b1+i*1))
  (pq:ar (J.room h 20) a3 a1=some x)
  (s4:call (.fn 79) [x] (J.room h 20)=a9.ret (.str w) g)
  (w7:gT .add bN w=some (.str bS))
  (CM:ar g r (0+2)=some (.slice b off N cp))
  (GO:ar g b q=some (.str n))
  (GP:I.sound x=true:=by first|with_reducible assumption|rfl|exact c6.snd (by with_reducible assumption)|exact c6.gY (by with_reducible assumption)|exact dM.snd (by with_reducible assumption)|exact dM.gY (by with_reducible assumption)|exact dD.snd (by with_reducible assumption)|exact dD.gY (by with_reducible assumption))
  (GQ:arith .add .i64 (.ofNat i) (.ofNat 1)=some (.int .i64 (.ofNat j))):
  aB Tryz.prog Tryz.f79 none call [1,1,1,0,1,0,1,1,1,0,0,1,0,0] (ah.mk [(0,.ptr r 0),(4,.str s),(5,.int .i64 (.ofNat i))] [] .none h) (.nrm)
   (ah.mk [(0,.ptr r 0),(4,.str bS),(5,.int .i64 (.ofNat j))] [] .none g):=
 bx [0,4,5] (hs:=[.v (.slice a3 b1 M cj),.b true,.b false,.v (.slice b off N cp),.v (.ptr b q),.v (.str n),.v (.str s2),.v (.str bN),.v (.slice a3 b1 M cj),.v (.ptr a3 a1),.v x,.c (.str w) g,.v (.str bS),.v (.int .i64 (.ofNat j))]) (by kernel_rfl)<| .cons H1<| .cons aM<| .cons bm<| .cons bl<| .cons bY<| .cons cG<| .cons du<| .cons gP<| .cons kb<| .cons nM<| .cons pq<| .cons s4<| .cons w7<| .cons (by kernel_rfl:I.sound (I.str s)=true)<| .cons (by kernel_rfl:I.str s=I.str s)<| .cons (by kernel_rfl:I.sound (I.str s)=true)<| .cons (by kernel_rfl:I.str s=I.str s)<| .cons (by kernel_rfl:I.sound (I.ptr r 0)=true)<| .cons (by kernel_rfl:I.ptr r 0=I.ptr r 0)<| .cons (by kernel_rfl:I.sound (I.ptr r 0)=true)<| .cons (by kernel_rfl:I.ptr r 0=I.ptr r 0)<| .cons (by kernel_rfl:I.sound (I.ptr r 0)=true)<| .cons (by kernel_rfl:I.ptr r 0=I.ptr r 0)<| .cons (by kernel_rfl:I.sound (I.ptr r 0)=true)<| .cons (by kernel_rfl:I.ptr r 0=I.ptr r 0)<| .cons (by kernel_rfl:I.sound (I.ptr r (0+2))=true)<| .cons (by kernel_rfl:I.ptr r (0+2)=I.ptr r (0+2))<| .cons (by kernel_rfl:I.sound (I.ptr r (0+2))=true)<| .cons (by kernel_rfl:I.ptr r (0+2)=I.ptr r (0+2))<| .cons (by kernel_rfl:I.sound (I.slice b off N cp)=true)<| .cons CM<| .cons (by kernel_rfl:I.sound (I.slice b off N cp)=true)<| .cons bl<| .cons (by kernel_rfl:I.sound (I.int IntKind.i64 (Int.ofNat i))=true)<| .cons (by kernel_rfl:I.int IntKind.i64 (Int.ofNat i)=I.int IntKind.i64 (Int.ofNat i))<| .cons (by kernel_rfl:I.sound (I.int IntKind.i64 (Int.ofNat i))=true)<| .cons (by kernel_rfl:I.int IntKind.i64 (Int.ofNat i)=I.int IntKind.i64 (Int.ofNat i))<| .cons (by kernel_rfl:I.sound (I.ptr b q)=true)<| .cons bY<| .cons (by kernel_rfl:I.sound (I.ptr b q)=true)<| .cons bY<| .cons (by kernel_rfl:I.sound (I.str n)=true)<| .cons GO<| .cons (by kernel_rfl:I.sound (I.str n)=true)<| .cons cG<| .cons (by kernel_rfl:I.sound (I.str s2)=true)<| .cons du<| .cons (by kernel_rfl:I.sound (I.str s2)=true)<| .cons du<| .cons (by kernel_rfl:I.sound (I.str bN)=true)<| .cons gP<| .cons (by kernel_rfl:I.sound (I.str bN)=true)<| .cons gP<| .cons (by kernel_rfl:I.sound (I.ptr r 0)=true)<| .cons (by kernel_rfl:I.ptr r 0=I.ptr r 0)<| .cons (by kernel_rfl:I.sound (I.ptr r 0)=true)<| .cons (by kernel_rfl:I.ptr r 0=I.ptr r 0)<| .cons (by kernel_rfl:I.sound (I.ptr r (0+3))=true)<| .cons (by kernel_rfl:I.ptr r (0+3)=I.ptr r (0+3))<| .cons (by kernel_rfl:I.sound (I.slice a3 b1 M cj)=true)<| .cons kb<| .cons (by kernel_rfl:I.sound (I.int IntKind.i64 (Int.ofNat i))=true)<| .cons (by kernel_rfl:I.int IntKind.i64 (Int.ofNat i)=I.int IntKind.i64 (Int.ofNat i))<| .cons (by kernel_rfl:I.sound (I.ptr a3 a1)=true)<| .cons nM<| .cons GP<| .cons pq<| .cons (by kernel_rfl:I.sound (I.str bS)=true)<| .cons w7<| .cons (by kernel_rfl:I.sound (I.str bS)=true)<| .cons (by kernel_rfl:I.str bS=I.str bS)<| .cons GQ<| .nil
theorem X9(call:aP)(r b off N a3 b1 M i q a1 j:Nat)(s s1 s2 bN bS cr n w:List UInt8)(x:I)(cp cj:bR)(h g:J)
  (H1:ar h r (0+3)=some (.slice a3 b1 M cj))
  (aM:bP (.ofNat i) (.ofNat M)=true)
  (bm:bP (.ofNat 0) (.ofNat i)=true)
  (bl:gT .add s [44,32]=some (.str s1))
  (bY:Nat.le (Nat.succ i) M/\I.ptr a3 a1=I.ptr a3 (b1+i*1))
  (cG:ar h a3 a1=some x)
  (du:call (.fn 79) [x] h=a9.ret (.str w) g)
  (gP:gT .add s1 w=some (.str s2))
  (kb:arith .add .i64 (.ofNat i) (.ofNat 1)=some (.int .i64 (.ofNat j))):
  aB Tryz.prog Tryz.f79 none call [1,1,1,0,1,0,1,1,1,1,1,0,0,1,0,0] (ah.mk [(0,.ptr r 0),(4,.str s),(6,.int .i64 (.ofNat i))] [] .none h) (.nrm)
   (ah.mk [(0,.ptr r 0),(4,.str s2),(6,.int .i64 (.ofNat j))] [] .none g):=
 bx [0,4,6] (hs:=[.v (.slice a3 b1 M cj),.b true,.b true,.v (.str s1),.v (.slice a3 b1 M cj),.v (.ptr a3 a1),.v x,.c (.str w) g,.v (.str s2),.v (.int .i64 (.ofNat j))]) (by kernel_rfl)<| .cons H1<| .cons aM<| .cons bm<| .cons bl<| .cons H1<| .cons bY<| .cons cG<| .cons du<| .cons gP<| .cons kb<| .nil
theorem X_(call:aP)(r b off N a3 b1 M i q a1 j:Nat)(s s1 s2 bN bS cr n w:List UInt8)(x:I)(cp cj:bR)(h g:J)
  (H1:ar h r (0+3)=some (.slice a3 b1 M cj))
  (aM:bP (.ofNat i) (.ofNat M)=true)
  (bm:bP (.ofNat 0) (.ofNat i)=false)
  (bl:Nat.le (Nat.succ i) M/\I.ptr a3 a1=I.ptr a3 (b1+i*1))
  (bY:ar h a3 a1=some x)
  (cG:call (.fn 79) [x] h=a9.ret (.str w) g)
  (du:gT .add s w=some (.str s2))
  (gP:arith .add .i64 (.ofNat i) (.ofNat 1)=some (.int .i64 (.ofNat j))):
  aB Tryz.prog Tryz.f79 none call [1,1,1,0,1,0,1,1,1,1,1,0,0,1,0,0] (ah.mk [(0,.ptr r 0),(4,.str s),(6,.int .i64 (.ofNat i))] [] .none h) (.nrm)
   (ah.mk [(0,.ptr r 0),(4,.str s2),(6,.int .i64 (.ofNat j))] [] .none g):=
 bx [0,4,6] (hs:=[.v (.slice a3 b1 M cj),.b true,.b false,.v (.slice a3 b1 M cj),.v (.ptr a3 a1),.v x,.c (.str w) g,.v (.str s2),.v (.int .i64 (.ofNat j))]) (by kernel_rfl)<| .cons H1<| .cons aM<| .cons bm<| .cons H1<| .cons bl<| .cons bY<| .cons cG<| .cons du<| .cons gP<| .nil
theorem Ya(call:aP)(r b off N a3 b1 M i q a1 j m k:Nat)(s s1 s2 bN bS cr n w:List UInt8)(x:I)(cp cj:bR)(h g:J)
  (H1:ar h r (0+3)=some (.slice a3 b1 M cj))
  (aM:bP (.ofNat i) (.ofNat M)=true)
  (bm:bP (.ofNat 0) (.ofNat i)=true)
  (bl:gT .add s [32,124,32]=some (.str s1))
  (bY:Nat.le (Nat.succ i) M/\I.ptr a3 a1=I.ptr a3 (b1+i*1))
  (cG:ar h a3 a1=some (.ptr m 0))
  (du:ar h m (0+0)=some (.int .i64 (.ofNat k)))
  (gP:a8 (.ofNat k) (.ofNat 8)=true)
  (kb:gT .add s1 [40]=some (.str s2))
  (nM:call (.fn 79) [.ptr m 0] h=a9.ret (.str w) g)
  (pq:gT .add s2 w=some (.str bN))
  (s4:gT .add bN [41]=some (.str bS))
  (w7:arith .add .i64 (.ofNat i) (.ofNat 1)=some (.int .i64 (.ofNat j))):
  aB Tryz.prog Tryz.f79 none call [1,1,1,0,1,0,1,1,1,1,1,1,1,0,0,1,0,0] (ah.mk [(0,.ptr r 0),(4,.str s),(7,.int .i64 (.ofNat i))] [] .none h) (.nrm)
   (ah.mk [(0,.ptr r 0),(4,.str bS),(7,.int .i64 (.ofNat j))] [] .none g):=
 bx [0,4,7] (hs:=[.v (.slice a3 b1 M cj),.b true,.b true,.v (.str s1),.v (.slice a3 b1 M cj),.v (.ptr a3 a1),.v (.ptr m 0),.v (.int .i64 (.ofNat k)),.b true,.v (.str s2),.v (.slice a3 b1 M cj),.v (.ptr a3 a1),.v (.ptr m 0),.c (.str w) g,.v (.str bN),.v (.str bS),.v (.int .i64 (.ofNat j))]) (by kernel_rfl)<| .cons H1<| .cons aM<| .cons bm<| .cons bl<| .cons H1<| .cons bY<| .cons cG<| .cons du<| .cons gP<| .cons kb<| .cons H1<| .cons bY<| .cons cG<| .cons nM<| .cons pq<| .cons s4<| .cons w7<| .nil
theorem Yb(call:aP)(r b off N a3 b1 M i q a1 j m k:Nat)(s s1 s2 bN bS cr n w:List UInt8)(x:I)(cp cj:bR)(h g:J)
  (H1:ar h r (0+3)=some (.slice a3 b1 M cj))
  (aM:bP (.ofNat i) (.ofNat M)=true)
  (bm:bP (.ofNat 0) (.ofNat i)=true)
  (bl:gT .add s [32,124,32]=some (.str s1))
  (bY:Nat.le (Nat.succ i) M/\I.ptr a3 a1=I.ptr a3 (b1+i*1))
  (cG:ar h a3 a1=some (.ptr m 0))
  (du:ar h m (0+0)=some (.int .i64 (.ofNat k)))
  (gP:a8 (.ofNat k) (.ofNat 8)=false)
  (kb:call (.fn 79) [.ptr m 0] h=a9.ret (.str w) g)
  (nM:gT .add s1 w=some (.str s2))
  (pq:arith .add .i64 (.ofNat i) (.ofNat 1)=some (.int .i64 (.ofNat j))):
  aB Tryz.prog Tryz.f79 none call [1,1,1,0,1,0,1,1,1,1,1,1,1,0,0,1,0,0] (ah.mk [(0,.ptr r 0),(4,.str s),(7,.int .i64 (.ofNat i))] [] .none h) (.nrm)
   (ah.mk [(0,.ptr r 0),(4,.str s2),(7,.int .i64 (.ofNat j))] [] .none g):=
 bx [0,4,7] (hs:=[.v (.slice a3 b1 M cj),.b true,.b true,.v (.str s1),.v (.slice a3 b1 M cj),.v (.ptr a3 a1),.v (.ptr m 0),.v (.int .i64 (.ofNat k)),.b false,.v (.slice a3 b1 M cj),.v (.ptr a3 a1),.v (.ptr m 0),.c (.str w) g,.v (.str s2),.v (.int .i64 (.ofNat j))]) (by kernel_rfl)<| .cons H1<| .cons aM<| .cons bm<| .cons bl<| .cons H1<| .cons bY<| .cons cG<| .cons du<| .cons gP<| .cons H1<| .cons bY<| .cons cG<| .cons kb<| .cons nM<| .cons pq<| .nil
theorem Yc(call:aP)(r b off N a3 b1 M i q a1 j m k:Nat)(s s1 s2 bN bS cr n w:List UInt8)(x:I)(cp cj:bR)(h g:J)
  (H1:ar h r (0+3)=some (.slice a3 b1 M cj))
  (aM:bP (.ofNat i) (.ofNat M)=true)
  (bm:bP (.ofNat 0) (.ofNat i)=false)
  (bl:Nat.le (Nat.succ i) M/\I.ptr a3 a1=I.ptr a3 (b1+i*1))
  (bY:ar h a3 a1=some (.ptr m 0))
  (cG:ar h m (0+0)=some (.int .i64 (.ofNat k)))
  (du:a8 (.ofNat k) (.ofNat 8)=true)
  (gP:gT .add s [40]=some (.str s2))
  (kb:call (.fn 79) [.ptr m 0] h=a9.ret (.str w) g)
  (nM:gT .add s2 w=some (.str bN))
  (pq:gT .add bN [41]=some (.str bS))
  (s4:arith .add .i64 (.ofNat i) (.ofNat 1)=some (.int .i64 (.ofNat j))):
  aB Tryz.prog Tryz.f79 none call [1,1,1,0,1,0,1,1,1,1,1,1,1,0,0,1,0,0] (ah.mk [(0,.ptr r 0),(4,.str s),(7,.int .i64 (.ofNat i))] [] .none h) (.nrm)
   (ah.mk [(0,.ptr r 0),(4,.str bS),(7,.int .i64 (.ofNat j))] [] .none g):=
 bx [0,4,7] (hs:=[.v (.slice a3 b1 M cj),.b true,.b false,.v (.slice a3 b1 M cj),.v (.ptr a3 a1),.v (.ptr m 0),.v (.int .i64 (.ofNat k)),.b true,.v (.str s2),.v (.slice a3 b1 M cj),.v (.ptr a3 a1),.v (.ptr m 0),.c (.str w) g,.v (.str bN),.v (.str bS),.v (.int .i64 (.ofNat j))]) (by kernel_rfl)<| .cons H1<| .cons aM<| .cons bm<| .cons H1<| .cons bl<| .cons bY<| .cons cG<| .cons du<| .cons gP<| .cons H1<| .cons bl<| .cons bY<| .cons kb<| .cons nM<| .cons pq<| .cons s4<| .nil
theorem Yd(call:aP)(r b off N a3 b1 M i q a1 j m k:Nat)(s s1 s2 bN bS cr n w:List UInt8)(x:I)(cp cj:bR)(h g:J)
  (H1:ar h r (0+3)=some (.slice a3 b1 M cj))
  (aM:bP (.ofNat i) (.ofNat M)=true)
  (bm:bP (.ofNat 0) (.ofNat i)=false)
  (bl:Nat.le (Nat.succ i) M/\I.ptr a3 a1=I.ptr a3 (b1+i*1))
  (bY:ar h a3 a1=some (.ptr m 0))
  (cG:ar h m (0+0)=some (.int .i64 (.ofNat k)))
  (du:a8 (.ofNat k) (.ofNat 8)=false)
  (gP:call (.fn 79) [.ptr m 0] h=a9.ret (.str w) g)
  (kb:gT .add s w=some (.str s2))
  (nM:arith .add .i64 (.ofNat i) (.ofNat 1)=some (.int .i64 (.ofNat j))):
  aB Tryz.prog Tryz.f79 none call [1,1,1,0,1,0,1,1,1,1,1,1,1,0,0,1,0,0] (ah.mk [(0,.ptr r 0),(4,.str s),(7,.int .i64 (.ofNat i))] [] .none h) (.nrm)
   (ah.mk [(0,.ptr r 0),(4,.str s2),(7,.int .i64 (.ofNat j))] [] .none g):=
 bx [0,4,7] (hs:=[.v (.slice a3 b1 M cj),.b true,.b false,.v (.slice a3 b1 M cj),.v (.ptr a3 a1),.v (.ptr m 0),.v (.int .i64 (.ofNat k)),.b false,.v (.slice a3 b1 M cj),.v (.ptr a3 a1),.v (.ptr m 0),.c (.str w) g,.v (.str s2),.v (.int .i64 (.ofNat j))]) (by kernel_rfl)<| .cons H1<| .cons aM<| .cons bm<| .cons H1<| .cons bl<| .cons bY<| .cons cG<| .cons du<| .cons H1<| .cons bl<| .cons bY<| .cons gP<| .cons kb<| .cons nM<| .nil
theorem CN{fn:Func}{call:aP}{p:List Nat}{e:bu}{reg R B N:Nat}{h:J}{sep:a7}{items:List a7}(gW:items.length=N)(he:e≠ .nrm)
  (step:∀i (af:i<items.length) x,Ext B h x->∃y,aB Tryz.prog fn none call (p++[0]) ⟨[(0,.ptr R 0),(4,.str (ef sep (items.take i))),(reg,.int .i64 (Int.ofNat i))],[],.none,x⟩ .nrm ⟨[(0,.ptr R 0),(4,.str (ef sep (items.take (i+1)))),(reg,.int .i64 (Int.ofNat (i+1)))],[],.none,y⟩/\Ext B h y)
  (exit:∀x s,Ext B h x->aB Tryz.prog fn none call (p++[0]) ⟨[(0,.ptr R 0),(4,.str s),(reg,.int .i64 (Int.ofNat N))],[],.none,x⟩ e ⟨[(0,.ptr R 0),(4,.str s)],[],.none,x⟩):
  ∀(k i:Nat) (x:J),N-i=k->i<=N->Ext B h x->∃y,eL Tryz.prog fn none call p (k+1) ⟨[(0,.ptr R 0),(4,.str (ef sep (items.take i))),(reg,.int .i64 (Int.ofNat i))],[],.none,x⟩ e ⟨[(0,.ptr R 0),(4,.str (ef sep items))],[],.none,y⟩/\Ext B h y
 |0,i,x,aq,af,ab=>by
  obtain rfl:i=N:=by omega
  rw[List.take_of_length_le (by omega)]
  exact⟨x,.exit (exit x _ ab) he,ab⟩
 |k+1,i,x,aq,af,ab=>by
  obtain⟨y,s1,s2⟩:=step i (by omega) x ab
  obtain⟨z,bw,bV⟩:=CN gW he step exit k (i+1) y (by omega) (by omega) s2
  exact⟨z,.step s1 bw,bV⟩
abbrev zQ(m B:Nat)(h:J)(vs:List I)(ws:List a7):Prop:=∀i (aa:i<vs.length) (ad:i<ws.length) x,Ext B h x->∃an,Y m (.fn 79) [vs[i]] x=.ret (.str ws[i]) an/\Ext B x an
theorem Ye{m B R i:Nat}{h x:J}{kG ib bK a_ c0:I}{bk:gS}{aI up:Nat}{vs:List I}{ws:List a7}(ei:R<B)(al:h.get R=some (.cells [kG,ib,bK,a_,c0] 80 bk aI up))(aD:c6 B h a_ vs)(aw:ws.length=vs.length)(hlen:vs.length<=90000)(ae:(ef [44,32] ws).length<=1000000)(bb:zQ m B h vs ws)(af:i<ws.length)(ab:Ext B h x):
  ∃y,aB Tryz.prog Tryz.f79 none (Y m) [1,1,1,0,1,0,1,1,1,1,1,0,0,1,0,0] ⟨[(0,.ptr R 0),(4,.str (ef [44,32] (ws.take i))),(6,.int .i64 (Int.ofNat i))],[],.none,x⟩ .nrm ⟨[(0,.ptr R 0),(4,.str (ef [44,32] (ws.take (i+1)))),(6,.int .i64 (Int.ofNat (i+1)))],[],.none,y⟩/\Ext B h y:=by
 have aa:i<vs.length:=by omega
 have e_:=(ab.get R ei).trans al
 rcases aD with⟨_,rfl⟩|⟨b,off,cp,rfl,hb,hJ,oJ⟩
 · simp at aa
 have aA:ar x b (off+i*1)=some vs[i]:=(lI ab hb).trans (hJ i aa)
 obtain⟨g,aF,a6⟩:=bb i aa af x ab
 have t1:=zJ [44,32] ws i
 have t2:=u4 [44,32] ws af
 refine⟨g,?_,ab.trans (Nat.le_refl _) a6⟩
 rw[u3 [44,32] ws af]
 by_cases h0:0<i
 · rw[if_pos h0]
   exact X9 (Y m) R 0 0 0 b off vs.length i 0 (off+i*1) (i+1) _ _ _ [] [] [] [] ws[i] vs[i] (.exact 0) cp x g (aT e_ rfl) (dT aa) (dT h0) (hX (by simp;omega)) ⟨aa,rfl⟩ aA aF (hX (by simp;omega)) (j7 aa (by omega))
 · rw[if_neg h0]
   obtain rfl:i=0:=by omega
   exact X_ (Y m) R 0 0 0 b off vs.length 0 0 (off+0*1) 1 _ [] _ [] [] [] [] ws[0] vs[0] (.exact 0) cp x g (aT e_ rfl) (dT aa) (e1 (by omega)) ⟨aa,rfl⟩ aA aF (hX (x:=[]) (by simp;omega)) (j7 aa (by omega))
theorem Yf{m B R i:Nat}{h x:J}{kG ib bK a_ c0:I}{bk:gS}{aI up:Nat}{ns:List a7}{vs:List I}{ws:List a7}(ei:R<B)(al:h.get R=some (.cells [kG,ib,bK,a_,c0] 80 bk aI up))(aN:c6 B h bK (ns.map .str))(aD:c6 B h a_ vs)(lG:ns.length=vs.length)(aw:ws.length=vs.length)(hlen:vs.length<=90000)(ae:(ef [44,32] (hd ns ws)).length<=1000000)(eT:∀i (aa:i<vs.length),I.sound vs[i]=true)(bb:zQ m B h vs ws)(af:i<(hd ns ws).length)(ab:Ext B h x):
  ∃y,aB Tryz.prog Tryz.f79 none (Y m) [1,1,1,0,1,0,1,1,1,0,0,1,0,0] ⟨[(0,.ptr R 0),(4,.str (ef [44,32] ((hd ns ws).take i))),(5,.int .i64 (Int.ofNat i))],[],.none,x⟩ .nrm ⟨[(0,.ptr R 0),(4,.str (ef [44,32] ((hd ns ws).take (i+1)))),(5,.int .i64 (Int.ofNat (i+1)))],[],.none,y⟩/\Ext B h y:=by
 have ku:(hd ns ws).length=vs.length:=by unfold hd;rw[List.length_zipWith];omega
 have aa:i<vs.length:=by omega
 have ad:i<ns.length:=by omega
 have av:i<ws.length:=by omega
 have e_:=(ab.get R ei).trans al
 have aj:=ab.ht (k:=20)
 have il:=(aj.get R ei).trans al
 rcases aD with⟨_,rfl⟩|⟨b,off,cp,rfl,hb,hJ,oJ⟩
 · simp at aa
 rcases aN.strs with⟨_,rfl⟩|⟨a3,b1,cj,rfl,ec,mH⟩
 · simp at ad
 have aA:ar (x.room 20) b (off+i*1)=some vs[i]:=(lI aj hb).trans (hJ i aa)
 have ax:ar (x.room 20) a3 (b1+i*1)=some (.str ns[i]):=(lI aj ec).trans (mH i ad)
 obtain⟨g,aF,a6⟩:=bb i aa av (x.room 20) aj
 have w8:=aj.trans (Nat.le_refl _) a6
 have zR:=(w8.get R ei).trans al
 have bD:ar g a3 (b1+i*1)=some (.str ns[i]):=(lI w8 ec).trans (mH i ad)
 have t1:=zJ [44,32] (hd ns ws) i
 have t2:=u4 [44,32] (hd ns ws) af
 have nj:(hd ns ws)[i]=ns[i]++[58,32]++ws[i]:=List.getElem_zipWith (f:=λn w=>n++[58,32]++w) (h:=af)
 have t3:ns[i].length+2+ws[i].length<=1000000:=by
  rw[nj] at t2
  simp at t2;omega
 refine⟨g,?_,w8⟩
 rw[u3 [44,32] (hd ns ws) af,nj]
 by_cases h0:0<i
 · rw[if_pos h0,<-List.append_assoc,<-List.append_assoc]
   exact X6 (Y m) R a3 b1 ns.length b off vs.length i (b1+i*1) (off+i*1) (i+1) _ _ _ _ _ [] ns[i] ws[i] vs[i] cj cp x g (aT e_ rfl) (dT aa) (dT h0) (hX (by simp;omega)) (aT il rfl) ⟨ad,rfl⟩ ax (hX (by simp;omega)) (hX (by simp;omega)) (aT il rfl) ⟨aa,rfl⟩ aA aF (hX (by simp;omega)) (aT zR rfl) bD (eT i aa) (j7 aa (by omega))
 · rw[if_neg h0]
   obtain rfl:i=0:=by omega
   exact X8 (Y m) R a3 b1 ns.length b off vs.length 0 (b1+0*1) (off+0*1) 1 _ [] _ _ _ [] ns[0] ws[0] vs[0] cj cp x g (aT e_ rfl) (dT aa) (e1 (by omega)) (aT il rfl) ⟨ad,rfl⟩ ax (hX (x:=[]) (by simp;omega)) (hX (by simp;omega)) (aT il rfl) ⟨aa,rfl⟩ aA aF (hX (by simp;omega)) (aT zR rfl) bD (eT 0 aa) (j7 aa (by omega))
theorem Yg{m B R i:Nat}{h x:J}{kG ib bK a_ c0:I}{bk:gS}{aI up:Nat}{eg:List Nat}{vs:List I}{ws:List a7}(ei:R<B)(al:h.get R=some (.cells [kG,ib,bK,a_,c0] 80 bk aI up))(aD:c6 B h a_ vs)(wO:eg.length=vs.length)(aw:ws.length=vs.length)(hlen:vs.length<=90000)(ae:(ef [32,124,32] (hZ eg ws)).length<=1000000)
  (qa:∀i (aa:i<vs.length) (ad:i<eg.length),∃M,vs[i]=.ptr M 0/\∀x,Ext B h x->ar x M (0+0)=some (.int .i64 (Int.ofNat eg[i])))(bb:zQ m B h vs ws)(af:i<(hZ eg ws).length)(ab:Ext B h x):
  ∃y,aB Tryz.prog Tryz.f79 none (Y m) [1,1,1,0,1,0,1,1,1,1,1,1,1,0,0,1,0,0] ⟨[(0,.ptr R 0),(4,.str (ef [32,124,32] ((hZ eg ws).take i))),(7,.int .i64 (Int.ofNat i))],[],.none,x⟩ .nrm ⟨[(0,.ptr R 0),(4,.str (ef [32,124,32] ((hZ eg ws).take (i+1)))),(7,.int .i64 (Int.ofNat (i+1)))],[],.none,y⟩/\Ext B h y:=by
 have ku:(hZ eg ws).length=vs.length:=by unfold hZ;rw[List.length_zipWith];omega
 have aa:i<vs.length:=by omega
 have ad:i<eg.length:=by omega
 have av:i<ws.length:=by omega
 have e_:=(ab.get R ei).trans al
 obtain⟨M,g0,rH⟩:=qa i aa ad
 have qt:=rH x ab
 rcases aD with⟨_,rfl⟩|⟨b,off,cp,rfl,hb,hJ,oJ⟩
 · simp at aa
 have aA:ar x b (off+i*1)=some (.ptr M 0):=by rw[<-g0];exact(lI ab hb).trans (hJ i aa)
 obtain⟨g,aF,a6⟩:=bb i aa av x ab
 rw[g0] at aF
 have t1:=zJ [32,124,32] (hZ eg ws) i
 have t2:=u4 [32,124,32] (hZ eg ws) af
 have nj:(hZ eg ws)[i]=if eg[i]=8 then[40]++ws[i]++[41] else ws[i]:=List.getElem_zipWith (f:=λ(k:Nat) (w:a7)=>if k=8 then[40]++w++[41] else w) (h:=af)
 refine⟨g,?_,ab.trans (Nat.le_refl _) a6⟩
 rw[u3 [32,124,32] (hZ eg ws) af,nj]
 rw[nj] at t2
 by_cases hR:eg[i]=8
 · rw[if_pos hR] at t2⊢
   have t3:ws[i].length+2<=1000000:=by simp at t2;omega
   by_cases h0:0<i
   · rw[if_pos h0,<-List.append_assoc,<-List.append_assoc]
     exact Ya (Y m) R 0 0 0 b off vs.length i 0 (off+i*1) (i+1) M eg[i] _ _ _ _ _ [] [] ws[i] .aZ (.exact 0) cp x g (aT e_ rfl) (dT aa) (dT h0) (hX (by simp;omega)) ⟨aa,rfl⟩ aA qt (nA hR) (hX (by simp;omega)) aF (hX (by simp;omega)) (hX (by simp;omega)) (j7 aa (by omega))
   · rw[if_neg h0]
     obtain rfl:i=0:=by omega
     exact Yc (Y m) R 0 0 0 b off vs.length 0 0 (off+0*1) 1 M eg[0] _ [] _ _ _ [] [] ws[0] .aZ (.exact 0) cp x g (aT e_ rfl) (dT aa) (e1 (by omega)) ⟨aa,rfl⟩ aA qt (nA hR) (hX (x:=[]) (by simp)) aF (hX (by simp;omega)) (hX (by simp;omega)) (j7 aa (by omega))
 · rw[if_neg hR] at t2⊢
   by_cases h0:0<i
   · rw[if_pos h0]
     exact Yb (Y m) R 0 0 0 b off vs.length i 0 (off+i*1) (i+1) M eg[i] _ _ _ [] [] [] [] ws[i] .aZ (.exact 0) cp x g (aT e_ rfl) (dT aa) (dT h0) (hX (by simp;omega)) ⟨aa,rfl⟩ aA qt (jS hR) aF (hX (by simp;omega)) (j7 aa (by omega))
   · rw[if_neg h0]
     obtain rfl:i=0:=by omega
     exact Yd (Y m) R 0 0 0 b off vs.length 0 0 (off+0*1) 1 M eg[0] _ [] _ [] [] [] [] ws[0] .aZ (.exact 0) cp x g (aT e_ rfl) (dT aa) (e1 (by omega)) ⟨aa,rfl⟩ aA qt (jS hR) aF (hX (x:=[]) (by simp;omega)) (j7 aa (by omega))
abbrev GR:List I:=[.str [97,110,121],.str [105,110,116],.str [98,111,111,108],.str [115,116,114],.str [110,105,108]]
theorem s5(k:Nat)(nm:a7)(ns:List a7)(xs:List aC)(rt:Option aC):wr (.mk k nm ns xs rt)=hy.shape k nm ns (xs.map aC.k) (cB xs) (k7 rt):=by rw[wr]
theorem GS{ns ws:List a7}{i:Nat}(af:i<(hd ns ws).length)(aa:i<ns.length)(ad:i<ws.length):(hd ns ws)[i]=ns[i]++[58,32]++ws[i]:=List.getElem_zipWith (f:=λn w=>n++[58,32]++w) (h:=af)
theorem M6{eg:List Nat}{ws:List a7}{i:Nat}(af:i<(hZ eg ws).length)(aa:i<eg.length)(ad:i<ws.length):(hZ eg ws)[i]=if eg[i]=8 then[40]++ws[i]++[41] else ws[i]:=List.getElem_zipWith (f:=λ(k:Nat) (w:a7)=>if k=8 then[40]++w++[41] else w) (h:=af)
theorem CO:∀(K:Nat) (t:aC),sz t<=K->sz t<=90000->okW t=true->(wr t).length<=1000000->∀(m B:Nat) (h:J) (v:I),sz t+1<=m->B<=h.n->dD B h t v->∃an,Y m (.fn 79) [v] h=.ret (.str (wr t)) an/\Ext B h an
 |0,t,de,_,_,_,_,_,_,_,_,_,_=>by
  have:=qp t
  omega
 |K+1,.mk k nm ns xs rt,de,g5,dq,fu,m,B,h,v,hm,cC,aD=>by
  obtain⟨R,bK,a_,c0,vs,bk,aI,up,rfl,ad,av,aG,bI,cq,di⟩:=aD
  rw[mc] at de g5 hm
  rw[s5] at fu
  rw[okW] at dq
  simp only[Bool.and_eq_true,Bool.or_eq_true,decide_eq_true_eq] at dq
  obtain⟨⟨⟨⟨⟨bJ,jl⟩,pr⟩,rI⟩,CP⟩,GU⟩:=dq
  obtain⟨m,rfl⟩:∃j,m=j+1:=⟨m-1,by omega⟩
  have eD:=dL.len cq
  have jv:=mW xs
  have ll:=wX xs
  let ai:=(h.push (.cells [.str [],.str [],.str [],.str [],.str []] 141 .own 0 0)).set h.n (some (.cells GR 141 .own 0 0))
  have st:bt.storeCells (h.push (.cells [.str [],.str [],.str [],.str [],.str []] 141 .own 0 0)) h.n 0 GR=some ai:=gN (by rw[J.gD];exact if_pos rfl) rfl rfl
  have j9:Ext B h ai:=((Ext.push cC _).iB cC)
  have po:B<=ai.n:=Nat.le_trans cC j9.n
  have uQ:ai.get h.n=some (.cells GR 141 .own 0 0):=by
   show(J.set _ _ _).get _=_
   rw[J.c7,if_pos rfl]
  have e4:=fa.ext j9 (Nat.le_refl _)
  have al:=(j9.get R ad).trans av
  have bU:=aG.bO e4
  have b_:=bI.bO e4
  have cv:=dL.bO e4 _ _ cq
  have c4:=dM.bO e4 _ _ di
  generalize afV:ai=g at*
  have fin:∀s y,aB Tryz.prog Tryz.f79 none (Y m) [1,1,1] ⟨[(0,.ptr R 0),(3,.ptr h.n 0),(4,.str [])],[],.none,g⟩ .ret ⟨[(2,.str s)],[],.none,y⟩->s=wr (.mk k nm ns xs rt)->Ext B g y->∃an,Y (m+1) (.fn 79) [.ptr R 0] h=.ret (.str (wr (.mk k nm ns xs rt))) an/\Ext B h an:=λs y aj hs ab=>by
   rw[<-hs]
   exact⟨y,eA (intr:=b3) (n:=m) (args:=[.ptr R 0]) Tryz.func79 (by kernel_rfl) rfl (by kernel_rfl) (aB.seq (p:=[]) (by kernel_rfl) (XT (Y m) R h) (aB.seq (p:=[1]) (by kernel_rfl) (XU (Y m) R h g st) (aB.seq (p:=[1,1]) (by kernel_rfl) (XV (Y m) R h.n g) aj))) (.inl rfl) (by kernel_rfl),j9.trans (Nat.le_refl _) ab⟩
  have zS:=XW (Y m) R h.n k g (aT al rfl)
  have CQ:∀s y,aB Tryz.prog Tryz.f79 none (Y m) [1,1,1,0,1] ⟨[(0,.ptr R 0),(3,.ptr h.n 0),(4,.str []),(12,.int .i64 (Int.ofNat k))],[],.none,g⟩ .ret ⟨[(2,.str s)],[],.none,y⟩->s=wr (.mk k nm ns xs rt)->Ext B g y->∃an,Y (m+1) (.fn 79) [.ptr R 0] h=.ret (.str (wr (.mk k nm ns xs rt))) an/\Ext B h an:=λs y aj hs ab=>
   fin s y (aB.gy (p:=[1,1,1]) (by kernel_rfl) (aB.seq (p:=[1,1,1,0]) (by kernel_rfl) zS aj) (by simp)) hs ab
  have GV:(∀i (af:i<(cB xs).length),(cB xs)[i].length<=1000000)->zQ m B g vs (cB xs):=λae i i1 i2 x ab=>by
   have i3:i<xs.length:=by omega
   have hl:=oH (List.getElem_mem i3)
   have j1:=ae i i2
   rw[wY xs i i3 i2] at j1⊢
   exact CO K xs[i] (by omega) (by omega) (Ms CP (List.getElem_mem i3)) j1 m B x vs[i] (by omega) (Nat.le_trans po ab.n) (dD.bO (fa.ext ab (Nat.le_refl _)) _ _ (dL.get cv i i1 i3))
  by_cases gu:k=6
  · subst gu
    exact CQ nm g (XX (Y m) R h.n nm g (aT al rfl)) (by rw[s5];rfl) (Ext.refl _ _)
  by_cases gj:k=7
  · subst gj
    have lG:xs.length=ns.length:=by rcases pr with pr|pr;exact absurd rfl pr;exact pr
    have ku:(hd ns (cB xs)).length=vs.length:=by unfold hd;rw[List.length_zipWith];omega
    have CR:(ef [44,32] (hd ns (cB xs))).length<=999998:=by
     have:([123]++ef [44,32] (hd ns (cB xs))++[125]:a7).length<=1000000:=fu
     simp at this;omega
    have jO:=GV λi af=>by
     have t2:=u4 [44,32] (hd ns (cB xs)) (i:=i) (by omega)
     rw[GS (by omega) (by omega) af] at t2
     simp at t2;omega
    obtain⟨y,bw,bV⟩:=CN (fn:=Tryz.f79) (call:=Y m) (p:=[1,1,1,0,1,0,1,1,1,0,0,1,0]) (e:=.exit 1) (reg:=5) (R:=R) (B:=B) (N:=vs.length) (h:=g) (sep:=[44,32]) (items:=hd ns (cB xs)) ku (by simp)
     (λi af x ab=>Yf ad al bU b_ (by omega) (by omega) (by omega) (by omega) (λi i1=>(dL.get cv i i1 (by omega)).snd) jO af ab)
     (λx s ab=>X3 (Y m) R vs.length vs.length s a_ x (aT ((ab.get R ad).trans al) rfl) b_.pn (e1 (by omega))) vs.length 0 g (by omega) (by omega) (Ext.refl _ _)
    have c5:=eL.run (p:=[1,1,1,0,1,0,1,1,1,0,0,1,0]) (by kernel_rfl) bw (by omega)
    exact CQ _ y (XY (Y m) R h.n _ _ _ g y (cQ.pre c5 ⟨rfl,rfl,rfl,trivial⟩ rfl rfl rfl) (hX (by simp;omega)) (hX (by simp;omega))) (by rw[s5];rfl) bV
  by_cases g6:k=8
  · subst g6
    have CR:(ef [44,32] (cB xs)).length+(k7 rt).length<=999992:=by
     have:([102,110,40]++ef [44,32] (cB xs)++[41,32,45,62,32]++k7 rt:a7).length<=1000000:=fu
     simp at this;omega
    have jO:=GV λi af=>by
     have t2:=u4 [44,32] (cB xs) (i:=i) af
     omega
    obtain⟨y,bw,bV⟩:=CN (fn:=Tryz.f79) (call:=Y m) (p:=[1,1,1,0,1,0,1,1,1,1,1,0,0,1,0]) (e:=.exit 3) (reg:=6) (R:=R) (B:=B) (N:=vs.length) (h:=g) (sep:=[44,32]) (items:=cB xs) (by omega) (by simp)
     (λi af x ab=>Ye ad al b_ (by omega) (by omega) (by omega) jO af ab)
     (λx s ab=>X4 (Y m) R vs.length vs.length s a_ x (aT ((ab.get R ad).trans al) rfl) b_.pn (e1 (by omega))) vs.length 0 g (by omega) (by omega) (Ext.refl _ _)
    have c5:=eL.run (p:=[1,1,1,0,1,0,1,1,1,1,1,0,0,1,0]) (by kernel_rfl) bw (by omega)
    cases rt with
    |none=>rcases rI with rI|rI<;>simp at rI
    |some u=>
     rw[iP] at de g5 hm
     have CS:k7 (some u)=wr u:=by rw[k7]
     obtain⟨z,aF,a6⟩:=CO K u (by omega) (by omega) (by rw[zK] at GU;exact GU) (by rw[<-CS];omega) m B y c0 (by omega) (Nat.le_trans po bV.n) (dD.bO (fa.ext bV (Nat.le_refl _)) _ _ c4)
     rw[<-CS] at aF
     exact CQ _ z (XZ (Y m) R h.n _ _ _ _ _ c0 g y z (cQ.pre c5 ⟨rfl,rfl,rfl,trivial⟩ rfl rfl rfl) (hX (by simp;omega)) (hX (by simp;omega)) (aT ((bV.get R ad).trans al) rfl) aF (hX (by simp;omega))) (by rw[s5];rfl) (bV.trans (Nat.le_refl _) a6)
  by_cases gv:k=9
  · subst gv
    have ku:(hZ (xs.map aC.k) (cB xs)).length=vs.length:=by unfold hZ;rw[List.length_zipWith,List.length_map];omega
    have CR:(ef [32,124,32] (hZ (xs.map aC.k) (cB xs))).length<=1000000:=fu
    have jO:=GV λi af=>by
     have t2:=u4 [32,124,32] (hZ (xs.map aC.k) (cB xs)) (i:=i) (by omega)
     rw[M6 (by omega) (by rw[List.length_map];omega) af] at t2
     split at t2
     · simp at t2;omega
     · omega
    have qa:∀i (aa:i<vs.length) (ad:i<(xs.map aC.k).length),∃M,vs[i]=.ptr M 0/\∀x,Ext B g x->ar x M (0+0)=some (.int .i64 (Int.ofNat (xs.map aC.k)[i])):=λi i1 i2=>by
     have i3:i<xs.length:=by omega
     have bc:=dL.get cv i i1 i3
     have zT:(xs.map aC.k)[i]=(xs[i]).k:=List.getElem_map aC.k
     rw[zT]
     cases ab:xs[i] with
     |mk b6 cU c8 ek en=>
      rw[ab] at bc
      obtain⟨M,_,_,_,_,_,_,_,aA,ax,bD,_⟩:=bc
      exact⟨M,aA,λx kx=>aT ((kx.get M ax).trans bD) rfl⟩
    obtain⟨y,bw,bV⟩:=CN (fn:=Tryz.f79) (call:=Y m) (p:=[1,1,1,0,1,0,1,1,1,1,1,1,1,0,0,1,0]) (e:=.exit 5) (reg:=7) (R:=R) (B:=B) (N:=vs.length) (h:=g) (sep:=[32,124,32]) (items:=hZ (xs.map aC.k) (cB xs)) ku (by simp)
     (λi af x ab=>Yg ad al b_ (by rw[List.length_map];omega) (by omega) (by omega) CR qa jO af ab)
     (λx s ab=>X5 (Y m) R vs.length vs.length s a_ x (aT ((ab.get R ad).trans al) rfl) b_.pn (e1 (by omega))) vs.length 0 g (by omega) (by omega) (Ext.refl _ _)
    have c5:=eL.run (p:=[1,1,1,0,1,0,1,1,1,1,1,1,1,0,0,1,0]) (by kernel_rfl) bw (by omega)
    exact CQ _ y (X0 (Y m) R h.n _ g y (cQ.pre c5 ⟨rfl,rfl,rfl,trivial⟩ rfl rfl rfl)) (by rw[s5];rfl) bV
  · have Yh:=X1 (Y m) R h.n k g (jS gu) (jS gj) (jS g6) (jS gv)
    have hw:wr (.mk k nm ns xs rt)=word k:=by
     rw[s5];unfold hy.shape
     rw[if_neg gu,if_neg gj,if_neg g6,if_neg gv]
    have afW:k<=5:=by omega
    have Yi:ar g h.n (0+(k-1)*1)=some (.str (word k)):=by
     refine aT uQ ?_
     have:k=1\/k=2\/k=3\/k=4\/k=5:=by omega
     rcases this with rfl|rfl|rfl|rfl|rfl<;>rfl
    exact fin (word k) g (aB.seq (p:=[1,1,1]) (by kernel_rfl) (aB.seq (p:=[1,1,1,0]) (by kernel_rfl) zS Yh) (X2 (Y m) R h.n k (k-1) (0+(k-1)*1) (word k) g (aT al rfl) (wy bJ (by omega)) ⟨(by show k-1+1<=5;omega),rfl⟩ Yi)) hw.symm (Ext.refl _ _)
end Go.Proofs.jk
