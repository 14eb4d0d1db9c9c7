/-
  PROVED HERE: contracts of functions (Db). No condition beside each statement's own.
-/
import Derived.Test.YtfooahfebojldaaGreatDoorDa
set_option linter.unusedVariables false
set_option linter.unusedSimpArgs false
namespace Go.Proofs.cR
open Go aD Go.Proofs dE
set_option maxRecDepth 100000
set_option maxHeartbeats 1000000
theorem Tn(call:ay->List I->J->an)(n:Nat)(h:J)
  (H1:dn (.ofNat 97) (.ofNat n)=true)
  (az:dn (.ofNat n) (.ofNat 122)=true):
  av Tryz.prog Tryz.f114 none call [] (ag.mk [(0,.int .u8 (.ofNat n))] [] .none h) (.ret)
   (ag.mk [(2,.bool true)] [] .none h):=
 a1 [2] (hs:=[.b true,.b true,.b true,.b true,.b true,.b true,.b true,.b true,.b true,.b true,.b true]) (by kernel_rfl)<| .cons H1<| .cons H1<| .cons H1<| .cons az<| .cons az<| .cons az<| .cons az<| .cons az<| .cons (by kernel_rfl:true=true)<| .cons (by kernel_rfl:true=true)<| .cons (by kernel_rfl:true=true)<| .nil
theorem To(call:ay->List I->J->an)(n:Nat)(h:J)
  (H1:dn (.ofNat 97) (.ofNat n)=true)
  (az:dn (.ofNat n) (.ofNat 122)=false)
  (a0:dn (.ofNat 65) (.ofNat n)=true)
  (aS:dn (.ofNat n) (.ofNat 90)=false):
  av Tryz.prog Tryz.f114 none call [] (ag.mk [(0,.int .u8 (.ofNat n))] [] .none h) (.ret)
   (ag.mk [(2,.bool (a7 (.ofNat n) (.ofNat 95)))] [] .none h):=
 a1 [2] (hs:=[.b true,.b true,.b true,.b false,.b false,.b false,.b true,.b true,.b false,.b true,.b false,.b false,.b false,.b false]) (by kernel_rfl)<| .cons H1<| .cons H1<| .cons H1<| .cons az<| .cons az<| .cons az<| .cons a0<| .cons a0<| .cons az<| .cons a0<| .cons az<| .cons aS<| .cons aS<| .cons aS<| .nil
theorem Tp(call:ay->List I->J->an)(n:Nat)(h:J)
  (H1:dn (.ofNat 97) (.ofNat n)=false)
  (az:dn (.ofNat 65) (.ofNat n)=true)
  (a0:dn (.ofNat n) (.ofNat 90)=true):
  av Tryz.prog Tryz.f114 none call [] (ag.mk [(0,.int .u8 (.ofNat n))] [] .none h) (.ret)
   (ag.mk [(2,.bool true)] [] .none h):=
 a1 [2] (hs:=[.b false,.b false,.b false,.b false,.b false,.b false,.b true,.b true,.b false,.b true,.b false,.b true,.b true,.b true]) (by kernel_rfl)<| .cons H1<| .cons H1<| .cons H1<| .cons (by kernel_rfl:false=false)<| .cons (by kernel_rfl:false=false)<| .cons (by kernel_rfl:false=false)<| .cons az<| .cons az<| .cons (by kernel_rfl:false=false)<| .cons az<| .cons (by kernel_rfl:false=false)<| .cons a0<| .cons a0<| .cons a0<| .nil
theorem Tq(call:ay->List I->J->an)(n:Nat)(h:J)
  (H1:dn (.ofNat 97) (.ofNat n)=false)
  (az:dn (.ofNat 65) (.ofNat n)=true)
  (a0:dn (.ofNat n) (.ofNat 90)=false):
  av Tryz.prog Tryz.f114 none call [] (ag.mk [(0,.int .u8 (.ofNat n))] [] .none h) (.ret)
   (ag.mk [(2,.bool (a7 (.ofNat n) (.ofNat 95)))] [] .none h):=
 a1 [2] (hs:=[.b false,.b false,.b false,.b false,.b false,.b false,.b true,.b true,.b false,.b true,.b false,.b false,.b false,.b false]) (by kernel_rfl)<| .cons H1<| .cons H1<| .cons H1<| .cons (by kernel_rfl:false=false)<| .cons (by kernel_rfl:false=false)<| .cons (by kernel_rfl:false=false)<| .cons az<| .cons az<| .cons (by kernel_rfl:false=false)<| .cons az<| .cons (by kernel_rfl:false=false)<| .cons a0<| .cons a0<| .cons a0<| .nil
theorem Tr(call:ay->List I->J->an)(n:Nat)(h:J)
  (H1:dn (.ofNat 97) (.ofNat n)=false)
  (az:dn (.ofNat 65) (.ofNat n)=false):
  av Tryz.prog Tryz.f114 none call [] (ag.mk [(0,.int .u8 (.ofNat n))] [] .none h) (.ret)
   (ag.mk [(2,.bool (a7 (.ofNat n) (.ofNat 95)))] [] .none h):=
 a1 [2] (hs:=[.b false,.b false,.b false,.b false,.b false,.b false,.b false,.b false,.b false,.b false,.b false,.b false,.b false,.b false]) (by kernel_rfl)<| .cons H1<| .cons H1<| .cons H1<| .cons (by kernel_rfl:false=false)<| .cons (by kernel_rfl:false=false)<| .cons (by kernel_rfl:false=false)<| .cons az<| .cons az<| .cons (by kernel_rfl:false=false)<| .cons az<| .cons (by kernel_rfl:false=false)<| .cons (by kernel_rfl:false=false)<| .cons (by kernel_rfl:false=false)<| .cons (by kernel_rfl:false=false)<| .nil
theorem Ts(call:ay->List I->J->an)(s:List UInt8)(n:Nat)(b:Bool)(h g:J)
  (H1:bC (.ofNat (List.length s)) (.ofNat 1)=true):
  av Tryz.prog Tryz.f95 none call [1,0] (ag.mk [(0,.str s)] [] .none h) (.ret)
   (ag.mk [(0,.str s),(2,.bool false)] [] .none h):=
 a1 [0,2] (hs:=[.b true,.b true,.b true,.b true,.b true,.b true,.b true,.b true,.b true,.b true]) (by kernel_rfl)<| .cons H1<| .cons H1<| .cons H1<| .cons H1<| .cons (by kernel_rfl:true=true)<| .cons (by kernel_rfl:true=true)<| .cons (by kernel_rfl:true=true)<| .cons (by kernel_rfl:true=true)<| .cons (by kernel_rfl:true=true)<| .cons (by kernel_rfl:true=true)<| .nil
theorem Tt(call:ay->List I->J->an)(s:List UInt8)(n:Nat)(b:Bool)(h g:J)
  (H1:bC (.ofNat (List.length s)) (.ofNat 1)=false)
  (az:bC (.ofNat 24) (.ofNat (List.length s))=true):
  av Tryz.prog Tryz.f95 none call [1,0] (ag.mk [(0,.str s)] [] .none h) (.ret)
   (ag.mk [(0,.str s),(2,.bool false)] [] .none h):=
 a1 [0,2] (hs:=[.b false,.b false,.b false,.b false,.b true,.b true,.b true,.b true,.b true,.b true]) (by kernel_rfl)<| .cons H1<| .cons H1<| .cons H1<| .cons H1<| .cons az<| .cons az<| .cons az<| .cons az<| .cons az<| .cons (by kernel_rfl:true=true)<| .nil
theorem Tu(call:ay->List I->J->an)(s:List UInt8)(n:Nat)(b:Bool)(h g:J)
  (H1:bC (.ofNat (List.length s)) (.ofNat 1)=false)
  (az:bC (.ofNat 24) (.ofNat (List.length s))=false)
  (a0:gB 0 s=some (.int .u8 (.ofNat n)))
  (aS:call (.fn 114) [.int .u8 (.ofNat n)] h=an.ret (.bool b) g)
  (bo:(!b)=true):
  av Tryz.prog Tryz.f95 none call [1,0] (ag.mk [(0,.str s)] [] .none h) (.ret)
   (ag.mk [(0,.str s),(2,.bool false)] [] .none g):=
 a1 [0,2] (hs:=[.b false,.b false,.b false,.b false,.b false,.b false,.v (.int .u8 (.ofNat n)),.b false,.c (.bool b) g,.b false,.b false,.b true]) (by kernel_rfl)<| .cons H1<| .cons H1<| .cons H1<| .cons H1<| .cons az<| .cons az<| .cons a0<| .cons az<| .cons aS<| .cons az<| .cons az<| .cons bo<| .nil
theorem Tv(call:ay->List I->J->an)(s:List UInt8)(n:Nat)(b:Bool)(h g:J)
  (H1:bC (.ofNat (List.length s)) (.ofNat 1)=false)
  (az:bC (.ofNat 24) (.ofNat (List.length s))=false)
  (a0:gB 0 s=some (.int .u8 (.ofNat n)))
  (aS:call (.fn 114) [.int .u8 (.ofNat n)] h=an.ret (.bool b) g)
  (bo:(!b)=false):
  av Tryz.prog Tryz.f95 none call [1,0] (ag.mk [(0,.str s)] [] .none h) (.nrm)
   (ag.mk [(0,.str s)] [] .none g):=
 a1 [0,2] (hs:=[.b false,.b false,.b false,.b false,.b false,.b false,.v (.int .u8 (.ofNat n)),.b false,.c (.bool b) g,.b false,.b false,.b false]) (by kernel_rfl)<| .cons H1<| .cons H1<| .cons H1<| .cons H1<| .cons az<| .cons az<| .cons a0<| .cons az<| .cons aS<| .cons az<| .cons az<| .cons bo<| .nil
theorem Kd(call:ay->List I->J->an)(s:List UInt8)(h:J):
  av Tryz.prog Tryz.f95 none call [1,1,0,0] (ag.mk [(0,.str s)] [] .none h) (.nrm)
   (ag.mk [(0,.str s),(3,.int .i64 (.ofNat 0))] [] .none h):=
 a1 [0,3] (hs:=[]) (by kernel_rfl)<| .nil
theorem Tw(call:ay->List I->J->an)(h:J):
  av Tryz.prog Tryz.f95 none call [1,1,1] (ag.mk [] [] .none h) (.ret)
   (ag.mk [(2,.bool true)] [] .none h):=
 a1 [2] (hs:=[]) (by kernel_rfl)<| .nil
theorem Tx(call:ay->List I->J->an)(s:List UInt8)(h:J)
  (H1:bC (.ofNat (List.length s)) (.ofNat 1)=true):
  av Tryz.prog Tryz.f113 none call [1,0] (ag.mk [(0,.str s)] [] .none h) (.ret)
   (ag.mk [(0,.str s),(2,.bool false)] [] .none h):=
 a1 [0,2] (hs:=[.b true,.b true,.b true,.b true,.b true]) (by kernel_rfl)<| .cons H1<| .cons H1<| .cons H1<| .cons H1<| .cons (by kernel_rfl:true=true)<| .nil
theorem Ty(call:ay->List I->J->an)(s:List UInt8)(h:J)
  (H1:bC (.ofNat (List.length s)) (.ofNat 1)=false)
  (az:bC (.ofNat 161) (.ofNat (List.length s))=true):
  av Tryz.prog Tryz.f113 none call [1,0] (ag.mk [(0,.str s)] [] .none h) (.ret)
   (ag.mk [(0,.str s),(2,.bool false)] [] .none h):=
 a1 [0,2] (hs:=[.b false,.b false,.b false,.b false,.b true]) (by kernel_rfl)<| .cons H1<| .cons H1<| .cons H1<| .cons H1<| .cons az<| .nil
theorem Tz(call:ay->List I->J->an)(s:List UInt8)(h:J)
  (H1:bC (.ofNat (List.length s)) (.ofNat 1)=false)
  (az:bC (.ofNat 161) (.ofNat (List.length s))=false):
  av Tryz.prog Tryz.f113 none call [1,0] (ag.mk [(0,.str s)] [] .none h) (.nrm)
   (ag.mk [(0,.str s)] [] .none h):=
 a1 [0,2] (hs:=[.b false,.b false,.b false,.b false,.b false]) (by kernel_rfl)<| .cons H1<| .cons H1<| .cons H1<| .cons H1<| .cons az<| .nil
theorem Ke(call:ay->List I->J->an)(s:List UInt8)(h:J):
  av Tryz.prog Tryz.f113 none call [1,1,0,0] (ag.mk [(0,.str s)] [] .none h) (.nrm)
   (ag.mk [(0,.str s),(3,.int .i64 (.ofNat 0))] [] .none h):=
 a1 [0,3] (hs:=[]) (by kernel_rfl)<| .nil
theorem TA(call:ay->List I->J->an)(s:List UInt8)(i n j:Nat)(b:Bool)(h g:J)
  (H1:bC (.ofNat i) (.ofNat (List.length s))=true)
  (az:gB i s=some (.int .u8 (.ofNat n)))
  (a0:call (.fn 114) [.int .u8 (.ofNat n)] h=an.ret (.bool b) g)
  (aS:(!b)=true)
  (bo:bC (.ofNat n) (.ofNat 48)=true)
  (bV:(!a7 (.ofNat n) (.ofNat 45))=true)
  (cw:(!a7 (.ofNat n) (.ofNat 47))=true)
  (dS:(!a7 (.ofNat n) (.ofNat 46))=true):
  av Tryz.prog Tryz.f113 none call [1,1,0,1,0,0] (ag.mk [(0,.str s),(3,.int .i64 (.ofNat i))] [] .none h) (.ret)
   (ag.mk [(0,.str s),(2,.bool false),(3,.int .i64 (.ofNat i))] [] .none g):=
 a1 [0,2,3] (hs:=[.b true,.v (.int .u8 (.ofNat n)),.c (.bool b) g,.b true,.b true,.b true,.b true,.b true,.b true,.b true,.b true,.b true,.b true,.b true,.b true,.b true,.b true,.b true,.b true,.b true,.b true]) (by kernel_rfl)<| .cons H1<| .cons az<| .cons a0<| .cons aS<| .cons aS<| .cons aS<| .cons bo<| .cons bo<| .cons aS<| .cons bo<| .cons aS<| .cons (by kernel_rfl:true=true)<| .cons (by kernel_rfl:true=true)<| .cons (by kernel_rfl:true=true)<| .cons bV<| .cons bV<| .cons bV<| .cons cw<| .cons cw<| .cons cw<| .cons dS<| .nil
theorem TB(call:ay->List I->J->an)(s:List UInt8)(i n j:Nat)(b:Bool)(h g:J)
  (H1:bC (.ofNat i) (.ofNat (List.length s))=true)
  (az:gB i s=some (.int .u8 (.ofNat n)))
  (a0:call (.fn 114) [.int .u8 (.ofNat n)] h=an.ret (.bool b) g)
  (aS:(!b)=true)
  (bo:bC (.ofNat n) (.ofNat 48)=true)
  (bV:(!a7 (.ofNat n) (.ofNat 45))=true)
  (cw:(!a7 (.ofNat n) (.ofNat 47))=true)
  (dS:(!a7 (.ofNat n) (.ofNat 46))=false)
  (fJ:arith .add .i64 (.ofNat i) (.ofNat 1)=some (.int .i64 (.ofNat j))):
  av Tryz.prog Tryz.f113 none call [1,1,0,1,0,0] (ag.mk [(0,.str s),(3,.int .i64 (.ofNat i))] [] .none h) (.nrm)
   (ag.mk [(0,.str s),(3,.int .i64 (.ofNat j))] [] .none g):=
 a1 [0,2,3] (hs:=[.b true,.v (.int .u8 (.ofNat n)),.c (.bool b) g,.b true,.b true,.b true,.b true,.b true,.b true,.b true,.b true,.b true,.b true,.b true,.b true,.b true,.b true,.b true,.b true,.b true,.b false,.v (.int .i64 (.ofNat j))]) (by kernel_rfl)<| .cons H1<| .cons az<| .cons a0<| .cons aS<| .cons aS<| .cons aS<| .cons bo<| .cons bo<| .cons aS<| .cons bo<| .cons aS<| .cons (by kernel_rfl:true=true)<| .cons (by kernel_rfl:true=true)<| .cons (by kernel_rfl:true=true)<| .cons bV<| .cons bV<| .cons bV<| .cons cw<| .cons cw<| .cons cw<| .cons dS<| .cons fJ<| .nil
theorem TC(call:ay->List I->J->an)(s:List UInt8)(i n j:Nat)(b:Bool)(h g:J)
  (H1:bC (.ofNat i) (.ofNat (List.length s))=true)
  (az:gB i s=some (.int .u8 (.ofNat n)))
  (a0:call (.fn 114) [.int .u8 (.ofNat n)] h=an.ret (.bool b) g)
  (aS:(!b)=true)
  (bo:bC (.ofNat n) (.ofNat 48)=true)
  (bV:(!a7 (.ofNat n) (.ofNat 45))=true)
  (cw:(!a7 (.ofNat n) (.ofNat 47))=false)
  (dS:arith .add .i64 (.ofNat i) (.ofNat 1)=some (.int .i64 (.ofNat j))):
  av Tryz.prog Tryz.f113 none call [1,1,0,1,0,0] (ag.mk [(0,.str s),(3,.int .i64 (.ofNat i))] [] .none h) (.nrm)
   (ag.mk [(0,.str s),(3,.int .i64 (.ofNat j))] [] .none g):=
 a1 [0,2,3] (hs:=[.b true,.v (.int .u8 (.ofNat n)),.c (.bool b) g,.b true,.b true,.b true,.b true,.b true,.b true,.b true,.b true,.b true,.b true,.b true,.b true,.b true,.b true,.b false,.b false,.b false,.b false,.v (.int .i64 (.ofNat j))]) (by kernel_rfl)<| .cons H1<| .cons az<| .cons a0<| .cons aS<| .cons aS<| .cons aS<| .cons bo<| .cons bo<| .cons aS<| .cons bo<| .cons aS<| .cons (by kernel_rfl:true=true)<| .cons (by kernel_rfl:true=true)<| .cons (by kernel_rfl:true=true)<| .cons bV<| .cons bV<| .cons bV<| .cons cw<| .cons cw<| .cons cw<| .cons (by kernel_rfl:false=false)<| .cons dS<| .nil
theorem TD(call:ay->List I->J->an)(s:List UInt8)(i n j:Nat)(b:Bool)(h g:J)
  (H1:bC (.ofNat i) (.ofNat (List.length s))=true)
  (az:gB i s=some (.int .u8 (.ofNat n)))
  (a0:call (.fn 114) [.int .u8 (.ofNat n)] h=an.ret (.bool b) g)
  (aS:(!b)=true)
  (bo:bC (.ofNat n) (.ofNat 48)=true)
  (bV:(!a7 (.ofNat n) (.ofNat 45))=false)
  (cw:arith .add .i64 (.ofNat i) (.ofNat 1)=some (.int .i64 (.ofNat j))):
  av Tryz.prog Tryz.f113 none call [1,1,0,1,0,0] (ag.mk [(0,.str s),(3,.int .i64 (.ofNat i))] [] .none h) (.nrm)
   (ag.mk [(0,.str s),(3,.int .i64 (.ofNat j))] [] .none g):=
 a1 [0,2,3] (hs:=[.b true,.v (.int .u8 (.ofNat n)),.c (.bool b) g,.b true,.b true,.b true,.b true,.b true,.b true,.b true,.b true,.b true,.b true,.b true,.b false,.b false,.b false,.b false,.b false,.b false,.b false,.v (.int .i64 (.ofNat j))]) (by kernel_rfl)<| .cons H1<| .cons az<| .cons a0<| .cons aS<| .cons aS<| .cons aS<| .cons bo<| .cons bo<| .cons aS<| .cons bo<| .cons aS<| .cons (by kernel_rfl:true=true)<| .cons (by kernel_rfl:true=true)<| .cons (by kernel_rfl:true=true)<| .cons bV<| .cons bV<| .cons bV<| .cons (by kernel_rfl:false=false)<| .cons (by kernel_rfl:false=false)<| .cons (by kernel_rfl:false=false)<| .cons (by kernel_rfl:false=false)<| .cons cw<| .nil
theorem TE(call:ay->List I->J->an)(s:List UInt8)(i n j:Nat)(b:Bool)(h g:J)
  (H1:bC (.ofNat i) (.ofNat (List.length s))=true)
  (az:gB i s=some (.int .u8 (.ofNat n)))
  (a0:call (.fn 114) [.int .u8 (.ofNat n)] h=an.ret (.bool b) g)
  (aS:(!b)=true)
  (bo:bC (.ofNat n) (.ofNat 48)=false)
  (bV:bC (.ofNat 57) (.ofNat n)=true)
  (cw:(!a7 (.ofNat n) (.ofNat 45))=true)
  (dS:(!a7 (.ofNat n) (.ofNat 47))=true)
  (fJ:(!a7 (.ofNat n) (.ofNat 46))=true):
  av Tryz.prog Tryz.f113 none call [1,1,0,1,0,0] (ag.mk [(0,.str s),(3,.int .i64 (.ofNat i))] [] .none h) (.ret)
   (ag.mk [(0,.str s),(2,.bool false),(3,.int .i64 (.ofNat i))] [] .none g):=
 a1 [0,2,3] (hs:=[.b true,.v (.int .u8 (.ofNat n)),.c (.bool b) g,.b true,.b true,.b true,.b false,.b false,.b true,.b false,.b true,.b true,.b true,.b true,.b true,.b true,.b true,.b true,.b true,.b true,.b true]) (by kernel_rfl)<| .cons H1<| .cons az<| .cons a0<| .cons aS<| .cons aS<| .cons aS<| .cons bo<| .cons bo<| .cons aS<| .cons bo<| .cons aS<| .cons bV<| .cons bV<| .cons bV<| .cons cw<| .cons cw<| .cons cw<| .cons dS<| .cons dS<| .cons dS<| .cons fJ<| .nil
theorem TF(call:ay->List I->J->an)(s:List UInt8)(i n j:Nat)(b:Bool)(h g:J)
  (H1:bC (.ofNat i) (.ofNat (List.length s))=true)
  (az:gB i s=some (.int .u8 (.ofNat n)))
  (a0:call (.fn 114) [.int .u8 (.ofNat n)] h=an.ret (.bool b) g)
  (aS:(!b)=true)
  (bo:bC (.ofNat n) (.ofNat 48)=false)
  (bV:bC (.ofNat 57) (.ofNat n)=false)
  (cw:arith .add .i64 (.ofNat i) (.ofNat 1)=some (.int .i64 (.ofNat j))):
  av Tryz.prog Tryz.f113 none call [1,1,0,1,0,0] (ag.mk [(0,.str s),(3,.int .i64 (.ofNat i))] [] .none h) (.nrm)
   (ag.mk [(0,.str s),(3,.int .i64 (.ofNat j))] [] .none g):=
 a1 [0,2,3] (hs:=[.b true,.v (.int .u8 (.ofNat n)),.c (.bool b) g,.b true,.b true,.b true,.b false,.b false,.b true,.b false,.b true,.b false,.b false,.b false,.b false,.b false,.b false,.b false,.b false,.b false,.b false,.v (.int .i64 (.ofNat j))]) (by kernel_rfl)<| .cons H1<| .cons az<| .cons a0<| .cons aS<| .cons aS<| .cons aS<| .cons bo<| .cons bo<| .cons aS<| .cons bo<| .cons aS<| .cons bV<| .cons bV<| .cons bV<| .cons (by kernel_rfl:false=false)<| .cons (by kernel_rfl:false=false)<| .cons (by kernel_rfl:false=false)<| .cons (by kernel_rfl:false=false)<| .cons (by kernel_rfl:false=false)<| .cons (by kernel_rfl:false=false)<| .cons (by kernel_rfl:false=false)<| .cons cw<| .nil
theorem TG(call:ay->List I->J->an)(s:List UInt8)(i n j:Nat)(b:Bool)(h g:J)
  (H1:bC (.ofNat i) (.ofNat (List.length s))=true)
  (az:gB i s=some (.int .u8 (.ofNat n)))
  (a0:call (.fn 114) [.int .u8 (.ofNat n)] h=an.ret (.bool b) g)
  (aS:(!b)=false)
  (bo:arith .add .i64 (.ofNat i) (.ofNat 1)=some (.int .i64 (.ofNat j))):
  av Tryz.prog Tryz.f113 none call [1,1,0,1,0,0] (ag.mk [(0,.str s),(3,.int .i64 (.ofNat i))] [] .none h) (.nrm)
   (ag.mk [(0,.str s),(3,.int .i64 (.ofNat j))] [] .none g):=
 a1 [0,2,3] (hs:=[.b true,.v (.int .u8 (.ofNat n)),.c (.bool b) g,.b false,.b false,.b false,.b false,.b false,.b false,.b false,.b false,.b false,.b false,.b false,.b false,.b false,.b false,.b false,.v (.int .i64 (.ofNat j))]) (by kernel_rfl)<| .cons H1<| .cons az<| .cons a0<| .cons aS<| .cons aS<| .cons aS<| .cons aS<| .cons aS<| .cons (by kernel_rfl:false=false)<| .cons (by kernel_rfl:false=false)<| .cons (by kernel_rfl:false=false)<| .cons (by kernel_rfl:false=false)<| .cons (by kernel_rfl:false=false)<| .cons (by kernel_rfl:false=false)<| .cons (by kernel_rfl:false=false)<| .cons (by kernel_rfl:false=false)<| .cons (by kernel_rfl:false=false)<| .cons (by kernel_rfl:false=false)<| .cons bo<| .nil
theorem TH(call:ay->List I->J->an)(s:List UInt8)(i n j:Nat)(b:Bool)(h g:J)
  (H1:bC (.ofNat i) (.ofNat (List.length s))=false):
  av Tryz.prog Tryz.f113 none call [1,1,0,1,0,0] (ag.mk [(0,.str s),(3,.int .i64 (.ofNat i))] [] .none h) (.exit 0)
   (ag.mk [(0,.str s),(3,.int .i64 (.ofNat i))] [] .none h):=
 a1 [0,2,3] (hs:=[.b false]) (by kernel_rfl)<| .cons H1<| .nil
theorem TI(call:ay->List I->J->an)(h:J):
  av Tryz.prog Tryz.f113 none call [1,1,1] (ag.mk [] [] .none h) (.ret)
   (ag.mk [(2,.bool true)] [] .none h):=
 a1 [2] (hs:=[]) (by kernel_rfl)<| .nil
theorem TJ(call:ay->List I->J->an)(s:List UInt8)(i n j:Nat)(b:Bool)(h g:J)
  (H1:bC (.ofNat i) (.ofNat (List.length s))=true)
  (az:gB i s=some (.int .u8 (.ofNat n)))
  (a0:call (.fn 114) [.int .u8 (.ofNat n)] h=an.ret (.bool b) g)
  (aS:(!b)=true)
  (bo:bC (.ofNat n) (.ofNat 48)=true):
  av Tryz.prog Tryz.f95 none call [1,1,0,1,0,0] (ag.mk [(0,.str s),(3,.int .i64 (.ofNat i))] [] .none h) (.ret)
   (ag.mk [(0,.str s),(2,.bool false),(3,.int .i64 (.ofNat i))] [] .none g):=
 a1 [0,2,3] (hs:=[.b true,.v (.int .u8 (.ofNat n)),.c (.bool b) g,.b true,.b true,.b true,.v (.int .u8 (.ofNat n)),.b true,.b true,.b true,.b true,.b true,.b true,.b true,.b true,.b true,.b true]) (by kernel_rfl)<| .cons H1<| .cons az<| .cons a0<| .cons aS<| .cons aS<| .cons aS<| .cons az<| .cons aS<| .cons aS<| .cons bo<| .cons bo<| .cons bo<| .cons bo<| .cons aS<| .cons bo<| .cons aS<| .cons (by kernel_rfl:true=true)<| .nil
theorem TK(call:ay->List I->J->an)(s:List UInt8)(i n j:Nat)(b:Bool)(h g:J)
  (H1:bC (.ofNat i) (.ofNat (List.length s))=true)
  (az:gB i s=some (.int .u8 (.ofNat n)))
  (a0:call (.fn 114) [.int .u8 (.ofNat n)] h=an.ret (.bool b) g)
  (aS:(!b)=true)
  (bo:bC (.ofNat n) (.ofNat 48)=false)
  (bV:bC (.ofNat 57) (.ofNat n)=true):
  av Tryz.prog Tryz.f95 none call [1,1,0,1,0,0] (ag.mk [(0,.str s),(3,.int .i64 (.ofNat i))] [] .none h) (.ret)
   (ag.mk [(0,.str s),(2,.bool false),(3,.int .i64 (.ofNat i))] [] .none g):=
 a1 [0,2,3] (hs:=[.b true,.v (.int .u8 (.ofNat n)),.c (.bool b) g,.b true,.b true,.b true,.v (.int .u8 (.ofNat n)),.b true,.b true,.b false,.b false,.b false,.v (.int .u8 (.ofNat n)),.b false,.b true,.b false,.b true,.b true]) (by kernel_rfl)<| .cons H1<| .cons az<| .cons a0<| .cons aS<| .cons aS<| .cons aS<| .cons az<| .cons aS<| .cons aS<| .cons bo<| .cons bo<| .cons bo<| .cons az<| .cons bo<| .cons aS<| .cons bo<| .cons aS<| .cons bV<| .nil
theorem TL(call:ay->List I->J->an)(s:List UInt8)(i n j:Nat)(b:Bool)(h g:J)
  (H1:bC (.ofNat i) (.ofNat (List.length s))=true)
  (az:gB i s=some (.int .u8 (.ofNat n)))
  (a0:call (.fn 114) [.int .u8 (.ofNat n)] h=an.ret (.bool b) g)
  (aS:(!b)=true)
  (bo:bC (.ofNat n) (.ofNat 48)=false)
  (bV:bC (.ofNat 57) (.ofNat n)=false)
  (cw:arith .add .i64 (.ofNat i) (.ofNat 1)=some (.int .i64 (.ofNat j))):
  av Tryz.prog Tryz.f95 none call [1,1,0,1,0,0] (ag.mk [(0,.str s),(3,.int .i64 (.ofNat i))] [] .none h) (.nrm)
   (ag.mk [(0,.str s),(3,.int .i64 (.ofNat j))] [] .none g):=
 a1 [0,2,3] (hs:=[.b true,.v (.int .u8 (.ofNat n)),.c (.bool b) g,.b true,.b true,.b true,.v (.int .u8 (.ofNat n)),.b true,.b true,.b false,.b false,.b false,.v (.int .u8 (.ofNat n)),.b false,.b true,.b false,.b true,.b false,.v (.int .i64 (.ofNat j))]) (by kernel_rfl)<| .cons H1<| .cons az<| .cons a0<| .cons aS<| .cons aS<| .cons aS<| .cons az<| .cons aS<| .cons aS<| .cons bo<| .cons bo<| .cons bo<| .cons az<| .cons bo<| .cons aS<| .cons bo<| .cons aS<| .cons bV<| .cons cw<| .nil
theorem TM(call:ay->List I->J->an)(s:List UInt8)(i n j:Nat)(b:Bool)(h g:J)
  (H1:bC (.ofNat i) (.ofNat (List.length s))=true)
  (az:gB i s=some (.int .u8 (.ofNat n)))
  (a0:call (.fn 114) [.int .u8 (.ofNat n)] h=an.ret (.bool b) g)
  (aS:(!b)=false)
  (bo:arith .add .i64 (.ofNat i) (.ofNat 1)=some (.int .i64 (.ofNat j))):
  av Tryz.prog Tryz.f95 none call [1,1,0,1,0,0] (ag.mk [(0,.str s),(3,.int .i64 (.ofNat i))] [] .none h) (.nrm)
   (ag.mk [(0,.str s),(3,.int .i64 (.ofNat j))] [] .none g):=
 a1 [0,2,3] (hs:=[.b true,.v (.int .u8 (.ofNat n)),.c (.bool b) g,.b false,.b false,.b false,.b false,.b false,.b false,.b false,.b false,.v (.int .i64 (.ofNat j))]) (by kernel_rfl)<| .cons H1<| .cons az<| .cons a0<| .cons aS<| .cons aS<| .cons aS<| .cons aS<| .cons aS<| .cons aS<| .cons aS<| .cons (by kernel_rfl:false=false)<| .cons bo<| .nil
theorem TN(call:ay->List I->J->an)(s:List UInt8)(i n j:Nat)(b:Bool)(h g:J)
  (H1:bC (.ofNat i) (.ofNat (List.length s))=false):
  av Tryz.prog Tryz.f95 none call [1,1,0,1,0,0] (ag.mk [(0,.str s),(3,.int .i64 (.ofNat i))] [] .none h) (.exit 0)
   (ag.mk [(0,.str s),(3,.int .i64 (.ofNat i))] [] .none h):=
 a1 [0,2,3] (hs:=[.b false]) (by kernel_rfl)<| .cons H1<| .nil
theorem Kf(call:ay->List I->J->an)(s t:List UInt8)(h:J):
  av Tryz.prog Tryz.f96 none call [0] (ag.mk [(0,.str s),(1,.str t)] [] .none h) (.nrm)
   (ag.mk [(0,.str s),(1,.str t)] [] .none h):=
 a1 [0,1] (hs:=[]) (by kernel_rfl)<| .nil
theorem Kg(call:ay->List I->J->an)(s t:List UInt8)(h:J):
  av Tryz.prog Tryz.f96 none call [1,0,0] (ag.mk [(0,.str s),(1,.str t)] [] .none h) (.nrm)
   (ag.mk [(0,.str s),(1,.str t),(5,.int .i64 (.ofNat 0))] [] .none h):=
 a1 [0,1,5] (hs:=[]) (by kernel_rfl)<| .nil
theorem TO(call:ay->List I->J->an)(s t:List UInt8)(i n k j:Nat)(h:J)
  (H1:bC (.ofNat i) (.ofNat (List.length s))=true)
  (az:bC (.ofNat i) (.ofNat (List.length t))=true)
  (a0:gB i s=some (.int .u8 (.ofNat n)))
  (aS:gB i t=some (.int .u8 (.ofNat k)))
  (bo:(!a7 (.ofNat n) (.ofNat k))=true):
  av Tryz.prog Tryz.f96 none call [1,0,1,0,0] (ag.mk [(0,.str s),(1,.str t),(5,.int .i64 (.ofNat i))] [] .none h) (.ret)
   (ag.mk [(0,.str s),(1,.str t),(4,.bool (bC (.ofNat n) (.ofNat k))),(5,.int .i64 (.ofNat i))] [] .none (J.room (J.room h 7) 8)):=
 a1 [0,1,4,5] (hs:=[.b true,.b true,.b true,.b true,.b true,.b true,.v (.int .u8 (.ofNat n)),.v (.int .u8 (.ofNat k)),.b true,.v (.int .u8 (.ofNat n)),.v (.int .u8 (.ofNat k))]) (by kernel_rfl)<| .cons H1<| .cons H1<| .cons H1<| .cons H1<| .cons H1<| .cons az<| .cons a0<| .cons aS<| .cons (by kernel_rfl:I.sound (I.str s)=true)<| .cons (by kernel_rfl:I.str s=I.str s)<| .cons (by kernel_rfl:I.sound (I.int IntKind.i64 (Int.ofNat i))=true)<| .cons (by kernel_rfl:I.int IntKind.i64 (Int.ofNat i)=I.int IntKind.i64 (Int.ofNat i))<| .cons (by kernel_rfl:I.sound (I.int IntKind.u8 (Int.ofNat n))=true)<| .cons a0<| .cons (by kernel_rfl:I.sound (I.str t)=true)<| .cons (by kernel_rfl:I.str t=I.str t)<| .cons (by kernel_rfl:I.sound (I.int IntKind.i64 (Int.ofNat i))=true)<| .cons (by kernel_rfl:I.int IntKind.i64 (Int.ofNat i)=I.int IntKind.i64 (Int.ofNat i))<| .cons (by kernel_rfl:I.sound (I.int IntKind.u8 (Int.ofNat k))=true)<| .cons aS<| .cons (by kernel_rfl:I.sound (I.bool !a7 (Int.ofNat n) (Int.ofNat k))=true)<| .cons (by kernel_rfl:(I.bool !a7 (Int.ofNat n) (Int.ofNat k))=I.bool !a7 (Int.ofNat n) (Int.ofNat k))<| .cons bo<| .cons a0<| .cons aS<| .cons (by kernel_rfl:I.sound (I.str s)=true)<| .cons (by kernel_rfl:I.str s=I.str s)<| .cons (by kernel_rfl:I.sound (I.int IntKind.i64 (Int.ofNat i))=true)<| .cons (by kernel_rfl:I.int IntKind.i64 (Int.ofNat i)=I.int IntKind.i64 (Int.ofNat i))<| .cons (by kernel_rfl:I.sound (I.int IntKind.u8 (Int.ofNat n))=true)<| .cons a0<| .cons (by kernel_rfl:I.sound (I.str t)=true)<| .cons (by kernel_rfl:I.str t=I.str t)<| .cons (by kernel_rfl:I.sound (I.int IntKind.i64 (Int.ofNat i))=true)<| .cons (by kernel_rfl:I.int IntKind.i64 (Int.ofNat i)=I.int IntKind.i64 (Int.ofNat i))<| .cons (by kernel_rfl:I.sound (I.int IntKind.u8 (Int.ofNat k))=true)<| .cons aS<| .cons (by kernel_rfl:I.sound (I.bool (bC (Int.ofNat n) (Int.ofNat k)))=true)<| .cons (by kernel_rfl:I.bool (bC (Int.ofNat n) (Int.ofNat k))=I.bool (bC (Int.ofNat n) (Int.ofNat k)))<| .cons (by kernel_rfl:I.sound (I.bool (bC (Int.ofNat n) (Int.ofNat k)))=true)<| .cons (by kernel_rfl:I.bool (bC (Int.ofNat n) (Int.ofNat k))=I.bool (bC (Int.ofNat n) (Int.ofNat k)))<| .nil
theorem TP(call:ay->List I->J->an)(s t:List UInt8)(i n k j:Nat)(h:J)
  (H1:bC (.ofNat i) (.ofNat (List.length s))=true)
  (az:bC (.ofNat i) (.ofNat (List.length t))=true)
  (a0:gB i s=some (.int .u8 (.ofNat n)))
  (aS:gB i t=some (.int .u8 (.ofNat k)))
  (bo:(!a7 (.ofNat n) (.ofNat k))=false)
  (bV:arith .add .i64 (.ofNat i) (.ofNat 1)=some (.int .i64 (.ofNat j))):
  av Tryz.prog Tryz.f96 none call [1,0,1,0,0] (ag.mk [(0,.str s),(1,.str t),(5,.int .i64 (.ofNat i))] [] .none h) (.nrm)
   (ag.mk [(0,.str s),(1,.str t),(5,.int .i64 (.ofNat j))] [] .none (J.room h 7)):=
 a1 [0,1,4,5] (hs:=[.b true,.b true,.b true,.b true,.b true,.b true,.v (.int .u8 (.ofNat n)),.v (.int .u8 (.ofNat k)),.b false,.v (.int .i64 (.ofNat j))]) (by kernel_rfl)<| .cons H1<| .cons H1<| .cons H1<| .cons H1<| .cons H1<| .cons az<| .cons a0<| .cons aS<| .cons (by kernel_rfl:I.sound (I.str s)=true)<| .cons (by kernel_rfl:I.str s=I.str s)<| .cons (by kernel_rfl:I.sound (I.int IntKind.i64 (Int.ofNat i))=true)<| .cons (by kernel_rfl:I.int IntKind.i64 (Int.ofNat i)=I.int IntKind.i64 (Int.ofNat i))<| .cons (by kernel_rfl:I.sound (I.int IntKind.u8 (Int.ofNat n))=true)<| .cons a0<| .cons (by kernel_rfl:I.sound (I.str t)=true)<| .cons (by kernel_rfl:I.str t=I.str t)<| .cons (by kernel_rfl:I.sound (I.int IntKind.i64 (Int.ofNat i))=true)<| .cons (by kernel_rfl:I.int IntKind.i64 (Int.ofNat i)=I.int IntKind.i64 (Int.ofNat i))<| .cons (by kernel_rfl:I.sound (I.int IntKind.u8 (Int.ofNat k))=true)<| .cons aS<| .cons (by kernel_rfl:I.sound (I.bool !a7 (Int.ofNat n) (Int.ofNat k))=true)<| .cons (by kernel_rfl:(I.bool !a7 (Int.ofNat n) (Int.ofNat k))=I.bool !a7 (Int.ofNat n) (Int.ofNat k))<| .cons bo<| .cons bV<| .nil
theorem TQ(call:ay->List I->J->an)(s t:List UInt8)(i n k j:Nat)(h:J)
  (H1:bC (.ofNat i) (.ofNat (List.length s))=true)
  (az:bC (.ofNat i) (.ofNat (List.length t))=false):
  av Tryz.prog Tryz.f96 none call [1,0,1,0,0] (ag.mk [(0,.str s),(1,.str t),(5,.int .i64 (.ofNat i))] [] .none h) (.exit 0)
   (ag.mk [(0,.str s),(1,.str t),(5,.int .i64 (.ofNat i))] [] .none h):=
 a1 [0,1,4,5] (hs:=[.b true,.b true,.b true,.b true,.b true,.b false]) (by kernel_rfl)<| .cons H1<| .cons H1<| .cons H1<| .cons H1<| .cons H1<| .cons az<| .nil
theorem TR(call:ay->List I->J->an)(s t:List UInt8)(i n k j:Nat)(h:J)
  (H1:bC (.ofNat i) (.ofNat (List.length s))=false):
  av Tryz.prog Tryz.f96 none call [1,0,1,0,0] (ag.mk [(0,.str s),(1,.str t),(5,.int .i64 (.ofNat i))] [] .none h) (.exit 0)
   (ag.mk [(0,.str s),(1,.str t),(5,.int .i64 (.ofNat i))] [] .none h):=
 a1 [0,1,4,5] (hs:=[.b false,.b false,.b false,.b false,.b false,.b false]) (by kernel_rfl)<| .cons H1<| .cons H1<| .cons H1<| .cons H1<| .cons H1<| .cons (by kernel_rfl:false=false)<| .nil
theorem TS(call:ay->List I->J->an)(s t:List UInt8)(h:J):
  av Tryz.prog Tryz.f96 none call [1,1] (ag.mk [(0,.str s),(1,.str t)] [] .none h) (.ret)
   (ag.mk [(4,.bool (bC (.ofNat (List.length s)) (.ofNat (List.length t))))] [] .none h):=
 a1 [4] (hs:=[]) (by kernel_rfl)<| .nil
theorem TT(call:ay->List I->J->an)(s:List UInt8)(h:J):
  av Tryz.prog Tryz.f95 none call [0] (ag.mk [(0,.str s)] [] .none h) (.nrm)
   (ag.mk [(0,.str s)] [] .none h):=
 a1 [0] (hs:=[]) (by kernel_rfl)<| .nil
theorem TU(call:ay->List I->J->an)(s:List UInt8)(h:J):
  av Tryz.prog Tryz.f113 none call [0] (ag.mk [(0,.str s)] [] .none h) (.nrm)
   (ag.mk [(0,.str s)] [] .none h):=
 a1 [0] (hs:=[]) (by kernel_rfl)<| .nil
theorem Kh(a b:Nat):dn (Int.ofNat a) (Int.ofNat b)=decide (a<=b):=by
 by_cases h:a<=b
 · rw[iV h];simp[h]
 · rw[js h];simp[h]
theorem Ki(a b:Nat):bC (Int.ofNat a) (Int.ofNat b)=decide (a<b):=by
 by_cases h:a<b
 · rw[ds h];simp[h]
 · rw[eh h];simp[h]
theorem p9(a b:Nat):a7 (Int.ofNat a) (Int.ofNat b)=decide (a=b):=by
 by_cases h:a=b
 · rw[sM h];simp[h]
 · rw[k3 h];simp[h]
theorem Ex(m n:Nat)(h:J):Y (m+1) (.fn 114) [.int .u8 (Int.ofNat n)] h=.ret (.bool (g7 n)) h:=by
 have fin:∀b,av Tryz.prog Tryz.f114 none (Y m) [] ⟨[(0,.int .u8 (Int.ofNat n))],[],.none,h⟩ .ret ⟨[(2,.bool b)],[],.none,h⟩->b=g7 n->Y (m+1) (.fn 114) [.int .u8 (Int.ofNat n)] h=.ret (.bool (g7 n)) h:=λb ai af=>by
  rw[<-af]
  exact dJ (intr:=bT) (n:=m) (args:=[.int .u8 (Int.ofNat n)]) Tryz.func114 (by kernel_rfl) rfl (by kernel_rfl) ai (.inl rfl) (by kernel_rfl)
 by_cases aa:97<=n
 · by_cases ad:n<=122
   · exact fin true (Tn (Y m) n h (iV aa) (iV ad)) (by simp[g7,aa,ad])
   · exact fin _ (To (Y m) n h (iV aa) (js ad) (iV (by omega)) (js (by omega))) (by rw[p9];simp[g7,ad];omega)
 · by_cases ax:65<=n
   · by_cases aO:n<=90
     · exact fin true (Tp (Y m) n h (js aa) (iV ax) (iV aO)) (by simp[g7,ax,aO])
     · exact fin _ (Tq (Y m) n h (js aa) (iV ax) (js aO)) (by rw[p9];simp[g7,aa,aO])
   · exact fin _ (Tr (Y m) n h (js aa) (js ax)) (by rw[p9];simp[g7,aa,ax])
theorem Kj(m:Nat)(s:aU)(h:J)(hs:s.length<=90000):∀(k i:Nat),s.length-i=k->i<=s.length->
  ∃e Γ,dH Tryz.prog Tryz.f95 none (Y (m+1)) [1,1,0,1,0] (k+1) ⟨[(0,.str s),(3,.int .i64 (Int.ofNat i))],[],.none,h⟩ e ⟨Γ,[],.none,h⟩/\
   ((e=.exit 0/\Γ=[]/\(s.drop i).all (λc=>g7 c.toNat||iq c.toNat)=true)\/(e=.ret/\Γ=[(2,.bool false)]/\(s.drop i).all (λc=>g7 c.toNat||iq c.toNat)=false))
 |0,i,aw,ae=>by
  obtain rfl:i=s.length:=by omega
  rw[List.drop_of_length_le (Nat.le_refl _)]
  exact⟨_,[],.exit (ck.post (TN (Y (m+1)) s s.length 0 0 false h h (eh (by omega))) trivial) (by simp),.inl ⟨rfl,rfl,rfl⟩⟩
 |k+1,i,aw,ae=>by
  have aa:i<s.length:=by omega
  rw[List.drop_eq_getElem_cons aa,List.all_cons]
  have c1:=Ex m s[i].toNat h
  have step:(g7 s[i].toNat||iq s[i].toNat)=true->av Tryz.prog Tryz.f95 none (Y (m+1)) [1,1,0,1,0,0] ⟨[(0,.str s),(3,.int .i64 (Int.ofNat i))],[],.none,h⟩ .nrm ⟨[(0,.str s),(3,.int .i64 (Int.ofNat (i+1)))],[],.none,h⟩:=λaf=>by
   cases au:g7 s[i].toNat with
   |true=>
    rw[au] at c1
    exact TM (Y (m+1)) s i _ (i+1) true h h (ds aa) (nc aa) c1 rfl (ij aa (by omega))
   |false=>
    rw[au] at c1 af
    have aG:48<=s[i].toNat/\s[i].toNat<=57:=by simpa[iq] using af
    exact TL (Y (m+1)) s i _ (i+1) false h h (ds aa) (nc aa) c1 rfl (eh (by omega)) (eh (by omega)) (ij aa (by omega))
  cases ah:(g7 s[i].toNat||iq s[i].toNat) with
  |true=>
   obtain⟨e,Γ,bp,bB⟩:=Kj m s h hs k (i+1) (by omega) (by omega)
   refine⟨e,Γ,.step (step ah) bp,?_⟩
   rw[Bool.true_and];exact bB
  |false=>
   obtain⟨au,aG⟩:g7 s[i].toNat=false/\iq s[i].toNat=false:=by simpa using ah
   rw[au] at c1
   refine⟨_,[(2,.bool false)],.exit (e:=.ret) ?_ (by simp),.inr ⟨rfl,rfl,by rw[Bool.false_and]⟩⟩
   by_cases Kk:s[i].toNat<48
   · exact ck.post (TJ (Y (m+1)) s i _ 0 false h h (ds aa) (nc aa) c1 rfl (ds Kk)) ⟨rfl,trivial⟩
   · exact ck.post (TK (Y (m+1)) s i _ 0 false h h (ds aa) (nc aa) c1 rfl (eh Kk) (ds (by simp[iq] at aG;omega))) ⟨rfl,trivial⟩
end Go.Proofs.cR
namespace Go.Proofs.cR
open Go aD Go.Proofs dE
set_option maxRecDepth 100000
set_option maxHeartbeats 1000000
theorem TV(m:Nat)(s:aU)(h:J):Y (m+2) (.fn 95) [.str s] h=.ret (.bool (hS s)) h:=by
 have fin:∀b,av Tryz.prog Tryz.f95 none (Y (m+1)) [1] ⟨[(0,.str s)],[],.none,h⟩ .ret ⟨[(2,.bool b)],[],.none,h⟩->b=hS s->Y (m+2) (.fn 95) [.str s] h=.ret (.bool (hS s)) h:=λb ai af=>by
  rw[<-af]
  exact dJ (intr:=bT) (n:=m+1) (args:=[.str s]) Tryz.func95 (by kernel_rfl) rfl (by kernel_rfl) (av.seq (p:=[]) (by kernel_rfl) (TT (Y (m+1)) s h) ai) (.inl rfl) (by kernel_rfl)
 by_cases aa:s.length<1
 · exact fin false (av.e_ (p:=[1]) (by kernel_rfl) (ck.post (Ts (Y (m+1)) s 0 false h h (ds aa)) ⟨rfl,trivial⟩) (by simp)) (by simp[hS];omega)
 by_cases ad:24<s.length
 · exact fin false (av.e_ (p:=[1]) (by kernel_rfl) (ck.post (Tt (Y (m+1)) s 0 false h h (eh aa) (ds ad)) ⟨rfl,trivial⟩) (by simp)) (by simp[hS];omega)
 have hs:s.length<=90000:=by omega
 have h0:0<s.length:=by omega
 have c1:=Ex m s[0].toNat h
 have ak:Ef s=g7 s[0].toNat:=by
  cases s with
  |nil=>simp at h0
  |cons c s=>rfl
 cases au:g7 s[0].toNat with
 |false=>
  rw[au] at c1
  exact fin false (av.e_ (p:=[1]) (by kernel_rfl) (ck.post (Tu (Y (m+1)) s _ false h h (eh aa) (eh ad) (nc h0) c1 rfl) ⟨rfl,trivial⟩) (by simp)) (by simp[hS,ak,au])
 |true=>
  rw[au] at c1
  have s1:=Tv (Y (m+1)) s _ true h h (eh aa) (eh ad) (nc h0) c1 rfl
  obtain⟨e,Γ,bp,bB⟩:=Kj m s h hs s.length 0 (by omega) (by omega)
  have cU:=dH.run (p:=[1,1,0,1,0]) (by kernel_rfl) bp (by omega)
  rw[List.drop_zero] at bB
  have Ey:1<=s.length:=h0
  have Ez:s.length<=24:=by omega
  rcases bB with⟨rfl,rfl,gw⟩|⟨rfl,rfl,gw⟩
  · exact fin true (av.seq (p:=[1]) (by kernel_rfl) s1 (av.seq (p:=[1,1]) (by kernel_rfl) (av.seq (p:=[1,1,0]) (by kernel_rfl) (Kd (Y (m+1)) s h) (av.block (p:=[1,1,0,1]) (id:=0) (by kernel_rfl) cU)) (Tw (Y (m+1)) h))) (by unfold hS;rw[gw,ak,au];simp[Ey,Ez])
  · exact fin false (av.seq (p:=[1]) (by kernel_rfl) s1 (av.e_ (p:=[1,1]) (by kernel_rfl) (av.seq (p:=[1,1,0]) (by kernel_rfl) (Kd (Y (m+1)) s h) (av.nb (p:=[1,1,0,1]) (id:=0) (by kernel_rfl) cU (by simp))) (by simp))) (by unfold hS;rw[gw];simp)
theorem TW(call:ay->List I->J->an)(s:aU)(i n:Nat)(h:J)(aa:i<s.length)(hs:s.length<=90000)(ad:gB i s=some (.int .u8 (Int.ofNat n)))(c1:call (.fn 114) [.int .u8 (Int.ofNat n)] h=.ret (.bool (g7 n)) h):
  if jy n then av Tryz.prog Tryz.f113 none call [1,1,0,1,0,0] ⟨[(0,.str s),(3,.int .i64 (Int.ofNat i))],[],.none,h⟩ .nrm ⟨[(0,.str s),(3,.int .i64 (Int.ofNat (i+1)))],[],.none,h⟩
  else av Tryz.prog Tryz.f113 none call [1,1,0,1,0,0] ⟨[(0,.str s),(3,.int .i64 (Int.ofNat i))],[],.none,h⟩ .ret ⟨[(2,.bool false)],[],.none,h⟩:=by
 have aL:=ij aa (m:=s.length) (by omega)
 have ae:=ds aa
 have ne:∀{a b:Nat},a≠b->(!a7 (Int.ofNat a) (Int.ofNat b))=true:=λe=>p4 e
 have EA:∀{a b:Nat},a=b->(!a7 (Int.ofNat a) (Int.ofNat b))=false:=λe=>uW e
 cases au:g7 n with
 |true=>
  rw[au] at c1
  rw[if_pos (by simp[jy,au])]
  exact TG call s i n (i+1) true h h ae ad c1 rfl aL
 |false=>
  rw[au] at c1
  by_cases dD:n<48
  · by_cases g2:n=45
    · rw[if_pos (by simp[jy,g2])]
      exact TD call s i n (i+1) false h h ae ad c1 rfl (ds dD) (EA g2) aL
    by_cases kG:n=47
    · rw[if_pos (by simp[jy,kG])]
      exact TC call s i n (i+1) false h h ae ad c1 rfl (ds dD) (ne g2) (EA kG) aL
    by_cases my:n=46
    · rw[if_pos (by simp[jy,my])]
      exact TB call s i n (i+1) false h h ae ad c1 rfl (ds dD) (ne g2) (ne kG) (EA my) aL
    · rw[if_neg (by simp[jy,au,iq,g2,kG,my];omega)]
      exact ck.post (TA call s i n 0 false h h ae ad c1 rfl (ds dD) (ne g2) (ne kG) (ne my)) ⟨rfl,trivial⟩
  · by_cases ef:57<n
    · rw[if_neg (by simp[jy,au,iq];omega)]
      exact ck.post (TE call s i n 0 false h h ae ad c1 rfl (eh dD) (ds ef) (ne (by omega)) (ne (by omega)) (ne (by omega))) ⟨rfl,trivial⟩
    · rw[if_pos (by simp[jy,iq];omega)]
      exact TF call s i n (i+1) false h h ae ad c1 rfl (eh dD) (eh ef) aL
theorem Kl(m:Nat)(s:aU)(h:J)(hs:s.length<=90000):∀(k i:Nat),s.length-i=k->i<=s.length->
  ∃e Γ,dH Tryz.prog Tryz.f113 none (Y (m+1)) [1,1,0,1,0] (k+1) ⟨[(0,.str s),(3,.int .i64 (Int.ofNat i))],[],.none,h⟩ e ⟨Γ,[],.none,h⟩/\
   ((e=.exit 0/\Γ=[]/\(s.drop i).all (λc=>jy c.toNat)=true)\/(e=.ret/\Γ=[(2,.bool false)]/\(s.drop i).all (λc=>jy c.toNat)=false))
 |0,i,aw,ae=>by
  obtain rfl:i=s.length:=by omega
  rw[List.drop_of_length_le (Nat.le_refl _)]
  exact⟨_,[],.exit (ck.post (TH (Y (m+1)) s s.length 0 0 false h h (eh (by omega))) trivial) (by simp),.inl ⟨rfl,rfl,rfl⟩⟩
 |k+1,i,aw,ae=>by
  have aa:i<s.length:=by omega
  rw[List.drop_eq_getElem_cons aa,List.all_cons]
  have st:=TW (Y (m+1)) s i s[i].toNat h aa hs (nc aa) (Ex m s[i].toNat h)
  cases ah:jy s[i].toNat with
  |true=>
   rw[if_pos ah] at st
   obtain⟨e,Γ,bp,bB⟩:=Kl m s h hs k (i+1) (by omega) (by omega)
   refine⟨e,Γ,.step st bp,?_⟩
   rw[Bool.true_and];exact bB
  |false=>
   rw[if_neg (by rw[ah];simp)] at st
   exact⟨_,_,.exit st (by simp),.inr ⟨rfl,rfl,by rw[Bool.false_and]⟩⟩
theorem TX(m:Nat)(s:aU)(h:J):Y (m+2) (.fn 113) [.str s] h=.ret (.bool (k9 s)) h:=by
 have fin:∀b,av Tryz.prog Tryz.f113 none (Y (m+1)) [1] ⟨[(0,.str s)],[],.none,h⟩ .ret ⟨[(2,.bool b)],[],.none,h⟩->b=k9 s->Y (m+2) (.fn 113) [.str s] h=.ret (.bool (k9 s)) h:=λb ai af=>by
  rw[<-af]
  exact dJ (intr:=bT) (n:=m+1) (args:=[.str s]) Tryz.func113 (by kernel_rfl) rfl (by kernel_rfl) (av.seq (p:=[]) (by kernel_rfl) (TU (Y (m+1)) s h) ai) (.inl rfl) (by kernel_rfl)
 by_cases aa:s.length<1
 · exact fin false (av.e_ (p:=[1]) (by kernel_rfl) (ck.post (Tx (Y (m+1)) s h (ds aa)) ⟨rfl,trivial⟩) (by simp)) (by simp[k9];omega)
 by_cases ad:161<s.length
 · exact fin false (av.e_ (p:=[1]) (by kernel_rfl) (ck.post (Ty (Y (m+1)) s h (eh aa) (ds ad)) ⟨rfl,trivial⟩) (by simp)) (by simp[k9];omega)
 have hs:s.length<=90000:=by omega
 have s1:=Tz (Y (m+1)) s h (eh aa) (eh ad)
 obtain⟨e,Γ,bp,bB⟩:=Kl m s h hs s.length 0 (by omega) (by omega)
 have cU:=dH.run (p:=[1,1,0,1,0]) (by kernel_rfl) bp (by omega)
 rw[List.drop_zero] at bB
 have Ey:1<=s.length:=by omega
 have Ez:s.length<=161:=by omega
 rcases bB with⟨rfl,rfl,gw⟩|⟨rfl,rfl,gw⟩
 · exact fin true (av.seq (p:=[1]) (by kernel_rfl) s1 (av.seq (p:=[1,1]) (by kernel_rfl) (av.seq (p:=[1,1,0]) (by kernel_rfl) (Ke (Y (m+1)) s h) (av.block (p:=[1,1,0,1]) (id:=0) (by kernel_rfl) cU)) (TI (Y (m+1)) h))) (by unfold k9;rw[gw];simp[Ey,Ez])
 · exact fin false (av.seq (p:=[1]) (by kernel_rfl) s1 (av.e_ (p:=[1,1]) (by kernel_rfl) (av.seq (p:=[1,1,0]) (by kernel_rfl) (Ke (Y (m+1)) s h) (av.nb (p:=[1,1,0,1]) (id:=0) (by kernel_rfl) cU (by simp))) (by simp))) (by unfold k9;rw[gw];simp)
theorem Km(call:ay->List I->J->an)(s t:aU)(B:Nat)(h:J)(hs:s.length<=90000):∀(k i:Nat) (x:J),s.length-i=k->i<=s.length->i<=t.length->Ext B h x->
  ∃e Γ y,dH Tryz.prog Tryz.f96 none call [1,0,1,0] (k+1) ⟨[(0,.str s),(1,.str t),(5,.int .i64 (Int.ofNat i))],[],.none,x⟩ e ⟨Γ,[],.none,y⟩/\
   ((e=.exit 0/\Γ=[(0,.str s),(1,.str t)]/\dN (s.drop i) (t.drop i)=decide (s.length<t.length))\/(e=.ret/\Γ=[(4,.bool (dN (s.drop i) (t.drop i)))]))/\Ext B h y
 |0,i,x,aw,ae,eH,ab=>by
  obtain rfl:i=s.length:=by omega
  refine⟨_,[(0,.str s),(1,.str t)],_,.exit (ck.post (TR call s t s.length 0 0 0 x (eh (by omega))) ⟨rfl,rfl,trivial⟩) (by simp),.inl ⟨rfl,rfl,?_⟩,ab⟩
  rw[List.drop_of_length_le (Nat.le_refl _)]
  cases aG:t.drop s.length with
  |nil=>
   have:t.length<=s.length:=List.drop_eq_nil_iff.1 aG
   rw[dN];simp;omega
  |cons c u=>
   have:s.length<t.length:=by
    have:=congrArg List.length aG
    simp at this;omega
   rw[dN];simp[this]
 |k+1,i,x,aw,ae,eH,ab=>by
  have aa:i<s.length:=by omega
  by_cases ad:i<t.length
  · rw[List.drop_eq_getElem_cons aa,List.drop_eq_getElem_cons ad,Am]
    by_cases he:s[i].toNat=t[i].toNat
    · rw[if_pos he]
      obtain⟨e,Γ,y,bp,bB,cU⟩:=Km call s t B h hs k (i+1) (x.room 7) (by omega) (by omega) (by omega) ab.ht
      exact⟨e,Γ,y,.step (TP call s t i _ _ (i+1) x (ds aa) (ds ad) (nc aa) (nc ad) (uW he) (ij aa (by omega))) bp,bB,cU⟩
    · rw[if_neg he,<-Ki]
      exact⟨_,[(4,.bool (bC (Int.ofNat s[i].toNat) (Int.ofNat t[i].toNat)))],_,.exit (ck.post (TO call s t i _ _ 0 x (ds aa) (ds ad) (nc aa) (nc ad) (p4 he)) ⟨rfl,trivial⟩) (by simp),.inr ⟨rfl,rfl⟩,ab.ht.ht⟩
  · refine⟨_,[(0,.str s),(1,.str t)],_,.exit (ck.post (TQ call s t i 0 0 0 x (ds aa) (eh ad)) ⟨rfl,rfl,trivial⟩) (by simp),.inl ⟨rfl,rfl,?_⟩,ab⟩
    rw[List.drop_of_length_le (l:=t) (by omega)]
    have:dN (s.drop i) []=false:=by
     cases s.drop i<;>rw[dN]
    rw[this];simp;omega
theorem Kn(m:Nat)(s t:aU)(B:Nat)(h:J)(hs:s.length<=90000):∃al,Y (m+1) (.fn 96) [.str s,.str t] h=.ret (.bool (dN s t)) al/\Ext B h al:=by
 obtain⟨e,Γ,y,bp,bB,cU⟩:=Km (Y m) s t B h hs s.length 0 h (by omega) (by omega) (by omega) (Ext.refl _ _)
 have hD:=dH.run (p:=[1,0,1,0]) (by kernel_rfl) bp (by omega)
 rw[List.drop_zero,List.drop_zero] at bB
 rcases bB with⟨rfl,rfl,gw⟩|⟨rfl,rfl⟩
 · rw[gw,<-Ki]
   exact⟨y,dJ (intr:=bT) (n:=m) (args:=[.str s,.str t]) Tryz.func96 (by kernel_rfl) rfl (by kernel_rfl) (av.seq (p:=[]) (by kernel_rfl) (Kf (Y m) s t h) (av.seq (p:=[1]) (by kernel_rfl) (av.seq (p:=[1,0]) (by kernel_rfl) (Kg (Y m) s t h) (av.block (p:=[1,0,1]) (id:=0) (by kernel_rfl) hD)) (TS (Y m) s t y))) (.inl rfl) (by kernel_rfl),cU⟩
 · exact⟨y,dJ (intr:=bT) (n:=m) (args:=[.str s,.str t]) Tryz.func96 (by kernel_rfl) rfl (by kernel_rfl) (av.seq (p:=[]) (by kernel_rfl) (Kf (Y m) s t h) (av.e_ (p:=[1]) (by kernel_rfl) (av.seq (p:=[1,0]) (by kernel_rfl) (Kg (Y m) s t h) (av.nb (p:=[1,0,1]) (id:=0) (by kernel_rfl) hD (by simp))) (by simp))) (.inl rfl) (by kernel_rfl),cU⟩
end Go.Proofs.cR
namespace Go.Proofs.cR
open Go aD Go.Proofs dE
set_option maxRecDepth 100000
set_option maxHeartbeats 1000000
theorem TY(call:ay->List I->J->an)(r:Nat)(h:J):
  av Tryz.prog Tryz.f98 none call [0] (ag.mk [(0,.ptr r 0)] [] .none h) (.nrm)
   (ag.mk [(0,.ptr r 0)] [] .none h):=
 a1 [0] (hs:=[]) (by kernel_rfl)<| .nil
theorem TZ(call:ay->List I->J->an)(r:Nat)(h g:J)
  (H1:aD.storeCells (J.push h (.cells [.str [],.str [],.str [],.str [],.str []] 153 .own 0 0)) (J.n h) 0 [.str [97,110,121],.str [105,110,116],.str [98,111,111,108],.str [115,116,114],.str [110,105,108]]=some g):
  av Tryz.prog Tryz.f98 none call [1,0] (ag.mk [(0,.ptr r 0)] [] .none h) (.nrm)
   (ag.mk [(0,.ptr r 0),(3,.ptr (J.n h) 0)] [] .none g):=
 a1 [0,3] (hs:=[.ih (.aW []) g]) (by kernel_rfl)<| .cons (⟨by kernel_rfl,H1,rfl⟩:some 5=some 5/\aD.storeCells (J.push h (cx.cells [I.str [],I.str [],I.str [],I.str [],I.str []] 153 eC.own 0 0)) (J.n h) 0 [I.str [97,110,121],I.str [105,110,116],I.str [98,111,111,108],I.str [115,116,114],I.str [110,105,108]]=some g/\I.aW []=I.aW [])<| .nil
theorem T0(call:ay->List I->J->an)(r a:Nat)(h:J):
  av Tryz.prog Tryz.f98 none call [1,1,0] (ag.mk [(0,.ptr r 0),(3,.ptr a 0)] [] .none h) (.nrm)
   (ag.mk [(0,.ptr r 0),(3,.ptr a 0),(4,.str [])] [] .none h):=
 a1 [0,3,4] (hs:=[]) (by kernel_rfl)<| .nil
theorem T1(call:ay->List I->J->an)(r a k:Nat)(h:J)
  (H1:aq h r (0+0)=some (.int .i64 (.ofNat k))):
  av Tryz.prog Tryz.f98 none call [1,1,1,0,0] (ag.mk [(0,.ptr r 0),(3,.ptr a 0),(4,.str [])] [] .none h) (.nrm)
   (ag.mk [(0,.ptr r 0),(3,.ptr a 0),(4,.str []),(12,.int .i64 (.ofNat k))] [] .none h):=
 a1 [0,3,4,12] (hs:=[.v (.int .i64 (.ofNat k))]) (by kernel_rfl)<| .cons H1<| .nil
theorem T2(call:ay->List I->J->an)(r a:Nat)(s:List UInt8)(h:J)
  (H1:aq h r (0+1)=some (.str s)):
  av Tryz.prog Tryz.f98 none call [1,1,1,0,1] (ag.mk [(0,.ptr r 0),(3,.ptr a 0),(4,.str []),(12,.int .i64 (.ofNat 6))] [] .none h) (.ret)
   (ag.mk [(2,.str s)] [] .none h):=
 a1 [2] (hs:=[.b true,.v (.str s)]) (by kernel_rfl)<| .cons (by kernel_rfl:a7 (Int.ofNat 6) (Int.ofNat 6)=true)<| .cons H1<| .nil
theorem T3(call:ay->List I->J->an)(r a:Nat)(s s1 s2:List UInt8)(h g:J)
  (H1:av Tryz.prog Tryz.f98 none call [1,1,1,0,1,0,1,1,1,0,0,1,0] (ag.mk [(5,.int .i64 (.ofNat 0)),(19,.bool (a7 (.ofNat 7) (.ofNat 7))),(13,.bool (a7 (.ofNat 7) (.ofNat 6))),(0,.ptr r 0),(3,.ptr a 0),(4,.str []),(12,.int .i64 (.ofNat 7))] [] .none h) (.exit 1) (ag.mk [(0,.ptr r 0),(4,.str s)] [] .none g))
  (az:eQ .add [123] s=some (.str s1))
  (a0:eQ .add s1 [125]=some (.str s2)):
  av Tryz.prog Tryz.f98 none call [1,1,1,0,1] (ag.mk [(0,.ptr r 0),(3,.ptr a 0),(4,.str []),(12,.int .i64 (.ofNat 7))] [] .none h) (.ret)
   (ag.mk [(2,.str s2)] [] .none g):=
 a1 [2] (hs:=[Hint.b false,Hint.b true,Hint.loop (bF.exit 1) (ag.mk [(0,I.ptr r 0),(4,I.str s)] [] bJ.none g),Hint.v (I.str s1),Hint.v (I.str s2)]) (by kernel_rfl)<| .cons (by kernel_rfl:a7 (Int.ofNat 7) (Int.ofNat 6)=false)<| .cons (by kernel_rfl:a7 (Int.ofNat 7) (Int.ofNat 7)=true)<| .cons H1<| .cons az<| .cons a0<| .nil
theorem T4(call:ay->List I->J->an)(r a:Nat)(s s1 s2 bE bX:List UInt8)(v:I)(h g ar:J)
  (H1:av Tryz.prog Tryz.f98 none call [1,1,1,0,1,0,1,1,1,1,1,0,0,1,0] (ag.mk [(6,.int .i64 (.ofNat 0)),(56,.bool (a7 (.ofNat 8) (.ofNat 8))),(19,.bool (a7 (.ofNat 8) (.ofNat 7))),(13,.bool (a7 (.ofNat 8) (.ofNat 6))),(0,.ptr r 0),(3,.ptr a 0),(4,.str []),(12,.int .i64 (.ofNat 8))] [] .none h) (.exit 3) (ag.mk [(0,.ptr r 0),(4,.str s)] [] .none g))
  (az:eQ .add [102,110,40] s=some (.str s1))
  (a0:eQ .add s1 [41,32,45,62,32]=some (.str s2))
  (aS:aq g r (0+4)=some v)
  (bo:call (.fn 98) [v] g=an.ret (.str bE) ar)
  (bV:eQ .add s2 bE=some (.str bX)):
  av Tryz.prog Tryz.f98 none call [1,1,1,0,1] (ag.mk [(0,.ptr r 0),(3,.ptr a 0),(4,.str []),(12,.int .i64 (.ofNat 8))] [] .none h) (.ret)
   (ag.mk [(2,.str bX)] [] .none ar):=
 a1 [2] (hs:=[Hint.b false,Hint.b false,Hint.b true,Hint.loop (bF.exit 3) (ag.mk [(0,I.ptr r 0),(4,I.str s)] [] bJ.none g),Hint.v (I.str s1),Hint.v (I.str s2),Hint.v v,Hint.c (I.str bE) ar,Hint.v (I.str bX)]) (by kernel_rfl)<| .cons (by kernel_rfl:a7 (Int.ofNat 8) (Int.ofNat 6)=false)<| .cons (by kernel_rfl:a7 (Int.ofNat 8) (Int.ofNat 7)=false)<| .cons (by kernel_rfl:a7 (Int.ofNat 8) (Int.ofNat 8)=true)<| .cons H1<| .cons az<| .cons a0<| .cons aS<| .cons bo<| .cons bV<| .nil
theorem T5(call:ay->List I->J->an)(r a:Nat)(s:List UInt8)(h g:J)
  (H1:av Tryz.prog Tryz.f98 none call [1,1,1,0,1,0,1,1,1,1,1,1,1,0,0,1,0] (ag.mk [(7,.int .i64 (.ofNat 0)),(90,.bool (a7 (.ofNat 9) (.ofNat 9))),(56,.bool (a7 (.ofNat 9) (.ofNat 8))),(19,.bool (a7 (.ofNat 9) (.ofNat 7))),(13,.bool (a7 (.ofNat 9) (.ofNat 6))),(0,.ptr r 0),(3,.ptr a 0),(4,.str []),(12,.int .i64 (.ofNat 9))] [] .none h) (.exit 5) (ag.mk [(0,.ptr r 0),(4,.str s)] [] .none g)):
  av Tryz.prog Tryz.f98 none call [1,1,1,0,1] (ag.mk [(0,.ptr r 0),(3,.ptr a 0),(4,.str []),(12,.int .i64 (.ofNat 9))] [] .none h) (.ret)
   (ag.mk [(2,.str s)] [] .none g):=
 a1 [2] (hs:=[Hint.b false,Hint.b false,Hint.b false,Hint.b true,Hint.loop (bF.exit 5) (ag.mk [(0,I.ptr r 0),(4,I.str s)] [] bJ.none g)]) (by kernel_rfl)<| .cons (by kernel_rfl:a7 (Int.ofNat 9) (Int.ofNat 6)=false)<| .cons (by kernel_rfl:a7 (Int.ofNat 9) (Int.ofNat 7)=false)<| .cons (by kernel_rfl:a7 (Int.ofNat 9) (Int.ofNat 8)=false)<| .cons (by kernel_rfl:a7 (Int.ofNat 9) (Int.ofNat 9)=true)<| .cons H1<| .nil
theorem T6(call:ay->List I->J->an)(r a k:Nat)(h:J)
  (H1:a7 (.ofNat k) (.ofNat 6)=false)
  (az:a7 (.ofNat k) (.ofNat 7)=false)
  (a0:a7 (.ofNat k) (.ofNat 8)=false)
  (aS:a7 (.ofNat k) (.ofNat 9)=false):
  av Tryz.prog Tryz.f98 none call [1,1,1,0,1] (ag.mk [(0,.ptr r 0),(3,.ptr a 0),(4,.str []),(12,.int .i64 (.ofNat k))] [] .none h) (.nrm)
   (ag.mk [(0,.ptr r 0),(3,.ptr a 0)] [] .none h):=
 a1 [0,3] (hs:=[.b false,.b false,.b false,.b false]) (by kernel_rfl)<| .cons H1<| .cons az<| .cons a0<| .cons aS<| .nil
theorem T7(call:ay->List I->J->an)(r a k j q:Nat)(s:List UInt8)(h:J)
  (H1:aq h r (0+0)=some (.int .i64 (.ofNat k)))
  (az:arith .sub .i64 (.ofNat k) (.ofNat 1)=some (.int .i64 (.ofNat j)))
  (a0:Nat.le (Nat.succ j) 5/\I.ptr a q=I.ptr a (0+j*1))
  (aS:aq h a q=some (.str s)):
  av Tryz.prog Tryz.f98 none call [1,1,1,1] (ag.mk [(0,.ptr r 0),(3,.ptr a 0)] [] .none h) (.ret)
   (ag.mk [(2,.str s)] [] .none h):=
 a1 [2] (hs:=[.v (.int .i64 (.ofNat k)),.v (.int .i64 (.ofNat j)),.v (.ptr a q),.v (.str s)]) (by kernel_rfl)<| .cons H1<| .cons az<| .cons a0<| .cons aS<| .nil
theorem T8(call:ay->List I->J->an)(r i N:Nat)(s:List UInt8)(v:I)(h:J)
  (H1:aq h r (0+3)=some v)
  (az:bU Tryz.prog h 49 v=some (.int .i64 (.ofNat N)))
  (a0:bC (.ofNat i) (.ofNat N)=false):
  av Tryz.prog Tryz.f98 none call [1,1,1,0,1,0,1,1,1,0,0,1,0,0] (ag.mk [(0,.ptr r 0),(4,.str s),(5,.int .i64 (.ofNat i))] [] .none h) (.exit 1)
   (ag.mk [(0,.ptr r 0),(4,.str s)] [] .none h):=
 a1 [0,4] (hs:=[.v v,.o (.int .i64 (.ofNat N)),.b false]) (by kernel_rfl)<| .cons H1<| .cons az<| .cons a0<| .nil
theorem T9(call:ay->List I->J->an)(r i N:Nat)(s:List UInt8)(v:I)(h:J)
  (H1:aq h r (0+3)=some v)
  (az:bU Tryz.prog h 49 v=some (.int .i64 (.ofNat N)))
  (a0:bC (.ofNat i) (.ofNat N)=false):
  av Tryz.prog Tryz.f98 none call [1,1,1,0,1,0,1,1,1,1,1,0,0,1,0,0] (ag.mk [(0,.ptr r 0),(4,.str s),(6,.int .i64 (.ofNat i))] [] .none h) (.exit 3)
   (ag.mk [(0,.ptr r 0),(4,.str s)] [] .none h):=
 a1 [0,4] (hs:=[.v v,.o (.int .i64 (.ofNat N)),.b false]) (by kernel_rfl)<| .cons H1<| .cons az<| .cons a0<| .nil
theorem T_(call:ay->List I->J->an)(r i N:Nat)(s:List UInt8)(v:I)(h:J)
  (H1:aq h r (0+3)=some v)
  (az:bU Tryz.prog h 49 v=some (.int .i64 (.ofNat N)))
  (a0:bC (.ofNat i) (.ofNat N)=false):
  av Tryz.prog Tryz.f98 none call [1,1,1,0,1,0,1,1,1,1,1,1,1,0,0,1,0,0] (ag.mk [(0,.ptr r 0),(4,.str s),(7,.int .i64 (.ofNat i))] [] .none h) (.exit 5)
   (ag.mk [(0,.ptr r 0),(4,.str s)] [] .none h):=
 a1 [0,4] (hs:=[.v v,.o (.int .i64 (.ofNat N)),.b false]) (by kernel_rfl)<| .cons H1<| .cons az<| .cons a0<| .nil
theorem Ua(call:ay->List I->J->an)(r b off N aI bx M i q aN j:Nat)(s s1 s2 bE bX cZ n w:List UInt8)(x:I)(aB bQ:b5)(h g:J)
  (H1:aq h r (0+3)=some (.slice aI bx M bQ))
  (az:bC (.ofNat i) (.ofNat M)=true)
  (a0:bC (.ofNat 0) (.ofNat i)=true)
  (aS:eQ .add s [44,32]=some (.str s1))
  (bo:aq (J.room h 20) r (0+2)=some (.slice b off N aB))
  (bV:Nat.le (Nat.succ i) N/\I.ptr b q=I.ptr b (off+i*1))
  (cw:aq (J.room h 20) b q=some (.str n))
  (dS:eQ .add s1 n=some (.str s2))
  (fJ:eQ .add s2 [58,32]=some (.str bE))
  (hF:aq (J.room h 20) r (0+3)=some (.slice aI bx M bQ))
  (kk:Nat.le (Nat.succ i) M/\I.ptr aI aN=I.ptr aI (bx+i*1))
  (lT:aq (J.room h 20) aI aN=some x)
  (o6:call (.fn 98) [x] (J.room h 20)=an.ret (.str w) g)
  (uZ:eQ .add bE w=some (.str bX))
  (xD:aq g r (0+2)=some (.slice b off N aB))
  (xE:aq g b q=some (.str n))
  (EB:I.sound x=true:=by first|with_reducible assumption|rfl|exact cL.snd (by with_reducible assumption)|exact cL.eK (by with_reducible assumption)|exact cE.snd (by with_reducible assumption)|exact cE.eK (by with_reducible assumption)|exact cN.snd (by with_reducible assumption)|exact cN.eK (by with_reducible assumption))
  (Ub:arith .add .i64 (.ofNat i) (.ofNat 1)=some (.int .i64 (.ofNat j))):
  av Tryz.prog Tryz.f98 none call [1,1,1,0,1,0,1,1,1,0,0,1,0,0] (ag.mk [(0,.ptr r 0),(4,.str s),(5,.int .i64 (.ofNat i))] [] .none h) (.nrm)
   (ag.mk [(0,.ptr r 0),(4,.str bX),(5,.int .i64 (.ofNat j))] [] .none g):=
 a1 [0,4,5] (hs:=[.v (.slice aI bx M bQ),.b true,.b true,.v (.str s1),.v (.slice b off N aB),.v (.ptr b q),.v (.str n),.v (.str s2),.v (.str bE),.v (.slice aI bx M bQ),.v (.ptr aI aN),.v x,.c (.str w) g,.v (.str bX),.v (.int .i64 (.ofNat j))]) (by kernel_rfl)<| .cons H1<| .cons az<| .cons a0<| .cons aS<| .cons bo<| .cons bV<| .cons cw<| .cons dS<| .cons fJ<| .cons hF<| .cons kk<| .cons lT<| .cons o6<| .cons uZ<| .cons (by kernel_rfl:I.sound (I.str s1)=true)<| .cons (by kernel_rfl:I.str s1=I.str s1)<| .cons (by kernel_rfl:I.sound (I.str s1)=true)<| .cons (by kernel_rfl:I.str s1=I.str s1)<| .cons (by kernel_rfl:I.sound (I.ptr r 0)=true)<| .cons (by kernel_rfl:I.ptr r 0=I.ptr r 0)<| .cons (by kernel_rfl:I.sound (I.ptr r 0)=true)<| .cons (by kernel_rfl:I.ptr r 0=I.ptr r 0)<| .cons (by kernel_rfl:I.sound (I.ptr r 0)=true)<| .cons (by kernel_rfl:I.ptr r 0=I.ptr r 0)<| .cons (by kernel_rfl:I.sound (I.ptr r 0)=true)<| .cons (by kernel_rfl:I.ptr r 0=I.ptr r 0)<| .cons (by kernel_rfl:I.sound (I.ptr r (0+2))=true)<| .cons (by kernel_rfl:I.ptr r (0+2)=I.ptr r (0+2))<| .cons (by kernel_rfl:I.sound (I.ptr r (0+2))=true)<| .cons (by kernel_rfl:I.ptr r (0+2)=I.ptr r (0+2))<| .cons (by kernel_rfl:I.sound (I.slice b off N aB)=true)<| .cons xD<| .cons (by kernel_rfl:I.sound (I.slice b off N aB)=true)<| .cons bo<| .cons (by kernel_rfl:I.sound (I.int IntKind.i64 (Int.ofNat i))=true)<| .cons (by kernel_rfl:I.int IntKind.i64 (Int.ofNat i)=I.int IntKind.i64 (Int.ofNat i))<| .cons (by kernel_rfl:I.sound (I.int IntKind.i64 (Int.ofNat i))=true)<| .cons (by kernel_rfl:I.int IntKind.i64 (Int.ofNat i)=I.int IntKind.i64 (Int.ofNat i))<| .cons (by kernel_rfl:I.sound (I.ptr b q)=true)<| .cons bV<| .cons (by kernel_rfl:I.sound (I.ptr b q)=true)<| .cons bV<| .cons (by kernel_rfl:I.sound (I.str n)=true)<| .cons xE<| .cons (by kernel_rfl:I.sound (I.str n)=true)<| .cons cw<| .cons (by kernel_rfl:I.sound (I.str s2)=true)<| .cons dS<| .cons (by kernel_rfl:I.sound (I.str s2)=true)<| .cons dS<| .cons (by kernel_rfl:I.sound (I.str bE)=true)<| .cons fJ<| .cons (by kernel_rfl:I.sound (I.str bE)=true)<| .cons fJ<| .cons (by kernel_rfl:I.sound (I.ptr r 0)=true)<| .cons (by kernel_rfl:I.ptr r 0=I.ptr r 0)<| .cons (by kernel_rfl:I.sound (I.ptr r 0)=true)<| .cons (by kernel_rfl:I.ptr r 0=I.ptr r 0)<| .cons (by kernel_rfl:I.sound (I.ptr r (0+3))=true)<| .cons (by kernel_rfl:I.ptr r (0+3)=I.ptr r (0+3))<| .cons (by kernel_rfl:I.sound (I.slice aI bx M bQ)=true)<| .cons hF<| .cons (by kernel_rfl:I.sound (I.int IntKind.i64 (Int.ofNat i))=true)<| .cons (by kernel_rfl:I.int IntKind.i64 (Int.ofNat i)=I.int IntKind.i64 (Int.ofNat i))<| .cons (by kernel_rfl:I.sound (I.ptr aI aN)=true)<| .cons kk<| .cons EB<| .cons lT<| .cons (by kernel_rfl:I.sound (I.str bX)=true)<| .cons uZ<| .cons (by kernel_rfl:I.sound (I.str bX)=true)<| .cons (by kernel_rfl:I.str bX=I.str bX)<| .cons Ub<| .nil
theorem Uc(call:ay->List I->J->an)(r b off N aI bx M i q aN j:Nat)(s s1 s2 bE bX cZ n w:List UInt8)(x:I)(aB bQ:b5)(h g:J)
  (H1:aq h r (0+3)=some (.slice aI bx M bQ))
  (az:bC (.ofNat i) (.ofNat M)=true)
  (a0:bC (.ofNat 0) (.ofNat i)=false)
  (aS:aq (J.room h 20) r (0+2)=some (.slice b off N aB))
  (bo:Nat.le (Nat.succ i) N/\I.ptr b q=I.ptr b (off+i*1))
  (bV:aq (J.room h 20) b q=some (.str n))
  (cw:eQ .add s n=some (.str s2))
  (dS:eQ .add s2 [58,32]=some (.str bE))
  (fJ:aq (J.room h 20) r (0+3)=some (.slice aI bx M bQ))
  (hF:Nat.le (Nat.succ i) M/\I.ptr aI aN=I.ptr aI (bx+i*1))
  (kk:aq (J.room h 20) aI aN=some x)
  (lT:call (.fn 98) [x] (J.room h 20)=an.ret (.str w) g)
  (o6:eQ .add bE w=some (.str bX))
  (uZ:aq g r (0+2)=some (.slice b off N aB))
  (xD:aq g b q=some (.str n))
  (xE:I.sound x=true:=by first|with_reducible assumption|rfl|exact cL.snd (by with_reducible assumption)|exact cL.eK (by with_reducible assumption)|exact cE.snd (by with_reducible assumption)|exact cE.eK (by with_reducible assumption)|exact cN.snd (by with_reducible assumption)|exact cN.eK (by with_reducible assumption))
  (EB:arith .add .i64 (.ofNat i) (.ofNat 1)=some (.int .i64 (.ofNat j))):
  av Tryz.prog Tryz.f98 none call [1,1,1,0,1,0,1,1,1,0,0,1,0,0] (ag.mk [(0,.ptr r 0),(4,.str s),(5,.int .i64 (.ofNat i))] [] .none h) (.nrm)
   (ag.mk [(0,.ptr r 0),(4,.str bX),(5,.int .i64 (.ofNat j))] [] .none g):=
 a1 [0,4,5] (hs:=[.v (.slice aI bx M bQ),.b true,.b false,.v (.slice b off N aB),.v (.ptr b q),.v (.str n),.v (.str s2),.v (.str bE),.v (.slice aI bx M bQ),.v (.ptr aI aN),.v x,.c (.str w) g,.v (.str bX),.v (.int .i64 (.ofNat j))]) (by kernel_rfl)<| .cons H1<| .cons az<| .cons a0<| .cons aS<| .cons bo<| .cons bV<| .cons cw<| .cons dS<| .cons fJ<| .cons hF<| .cons kk<| .cons lT<| .cons o6<| .cons (by kernel_rfl:I.sound (I.str s)=true)<| .cons (by kernel_rfl:I.str s=I.str s)<| .cons (by kernel_rfl:I.sound (I.str s)=true)<| .cons (by kernel_rfl:I.str s=I.str s)<| .cons (by kernel_rfl:I.sound (I.ptr r 0)=true)<| .cons (by kernel_rfl:I.ptr r 0=I.ptr r 0)<| .cons (by kernel_rfl:I.sound (I.ptr r 0)=true)<| .cons (by kernel_rfl:I.ptr r 0=I.ptr r 0)<| .cons (by kernel_rfl:I.sound (I.ptr r 0)=true)<| .cons (by kernel_rfl:I.ptr r 0=I.ptr r 0)<| .cons (by kernel_rfl:I.sound (I.ptr r 0)=true)<| .cons (by kernel_rfl:I.ptr r 0=I.ptr r 0)<| .cons (by kernel_rfl:I.sound (I.ptr r (0+2))=true)<| .cons (by kernel_rfl:I.ptr r (0+2)=I.ptr r (0+2))<| .cons (by kernel_rfl:I.sound (I.ptr r (0+2))=true)<| .cons (by kernel_rfl:I.ptr r (0+2)=I.ptr r (0+2))<| .cons (by kernel_rfl:I.sound (I.slice b off N aB)=true)<| .cons uZ<| .cons (by kernel_rfl:I.sound (I.slice b off N aB)=true)<| .cons aS<| .cons (by kernel_rfl:I.sound (I.int IntKind.i64 (Int.ofNat i))=true)<| .cons (by kernel_rfl:I.int IntKind.i64 (Int.ofNat i)=I.int IntKind.i64 (Int.ofNat i))<| .cons (by kernel_rfl:I.sound (I.int IntKind.i64 (Int.ofNat i))=true)<| .cons (by kernel_rfl:I.int IntKind.i64 (Int.ofNat i)=I.int IntKind.i64 (Int.ofNat i))<| .cons (by kernel_rfl:I.sound (I.ptr b q)=true)<| .cons bo<| .cons (by kernel_rfl:I.sound (I.ptr b q)=true)<| .cons bo<| .cons (by kernel_rfl:I.sound (I.str n)=true)<| .cons xD<| .cons (by kernel_rfl:I.sound (I.str n)=true)<| .cons bV<| .cons (by kernel_rfl:I.sound (I.str s2)=true)<| .cons cw<| .cons (by kernel_rfl:I.sound (I.str s2)=true)<| .cons cw<| .cons (by kernel_rfl:I.sound (I.str bE)=true)<| .cons dS<| .cons (by kernel_rfl:I.sound (I.str bE)=true)<| .cons dS<| .cons (by kernel_rfl:I.sound (I.ptr r 0)=true)<| .cons (by kernel_rfl:I.ptr r 0=I.ptr r 0)<| .cons (by kernel_rfl:I.sound (I.ptr r 0)=true)<| .cons (by kernel_rfl:I.ptr r 0=I.ptr r 0)<| .cons (by kernel_rfl:I.sound (I.ptr r (0+3))=true)<| .cons (by kernel_rfl:I.ptr r (0+3)=I.ptr r (0+3))<| .cons (by kernel_rfl:I.sound (I.slice aI bx M bQ)=true)<| .cons fJ<| .cons (by kernel_rfl:I.sound (I.int IntKind.i64 (Int.ofNat i))=true)<| .cons (by kernel_rfl:I.int IntKind.i64 (Int.ofNat i)=I.int IntKind.i64 (Int.ofNat i))<| .cons (by kernel_rfl:I.sound (I.ptr aI aN)=true)<| .cons hF<| .cons xE<| .cons kk<| .cons (by kernel_rfl:I.sound (I.str bX)=true)<| .cons o6<| .cons (by kernel_rfl:I.sound (I.str bX)=true)<| .cons (by kernel_rfl:I.str bX=I.str bX)<| .cons EB<| .nil
theorem Ud(call:ay->List I->J->an)(r b off N aI bx M i q aN j:Nat)(s s1 s2 bE bX cZ n w:List UInt8)(x:I)(aB bQ:b5)(h g:J)
  (H1:aq h r (0+3)=some (.slice aI bx M bQ))
  (az:bC (.ofNat i) (.ofNat M)=true)
  (a0:bC (.ofNat 0) (.ofNat i)=true)
  (aS:eQ .add s [44,32]=some (.str s1))
  (bo:Nat.le (Nat.succ i) M/\I.ptr aI aN=I.ptr aI (bx+i*1))
  (bV:aq h aI aN=some x)
  (cw:call (.fn 98) [x] h=an.ret (.str w) g)
  (dS:eQ .add s1 w=some (.str s2))
  (fJ:arith .add .i64 (.ofNat i) (.ofNat 1)=some (.int .i64 (.ofNat j))):
  av Tryz.prog Tryz.f98 none call [1,1,1,0,1,0,1,1,1,1,1,0,0,1,0,0] (ag.mk [(0,.ptr r 0),(4,.str s),(6,.int .i64 (.ofNat i))] [] .none h) (.nrm)
   (ag.mk [(0,.ptr r 0),(4,.str s2),(6,.int .i64 (.ofNat j))] [] .none g):=
 a1 [0,4,6] (hs:=[.v (.slice aI bx M bQ),.b true,.b true,.v (.str s1),.v (.slice aI bx M bQ),.v (.ptr aI aN),.v x,.c (.str w) g,.v (.str s2),.v (.int .i64 (.ofNat j))]) (by kernel_rfl)<| .cons H1<| .cons az<| .cons a0<| .cons aS<| .cons H1<| .cons bo<| .cons bV<| .cons cw<| .cons dS<| .cons fJ<| .nil
theorem Ue(call:ay->List I->J->an)(r b off N aI bx M i q aN j:Nat)(s s1 s2 bE bX cZ n w:List UInt8)(x:I)(aB bQ:b5)(h g:J)
  (H1:aq h r (0+3)=some (.slice aI bx M bQ))
  (az:bC (.ofNat i) (.ofNat M)=true)
  (a0:bC (.ofNat 0) (.ofNat i)=false)
  (aS:Nat.le (Nat.succ i) M/\I.ptr aI aN=I.ptr aI (bx+i*1))
  (bo:aq h aI aN=some x)
  (bV:call (.fn 98) [x] h=an.ret (.str w) g)
  (cw:eQ .add s w=some (.str s2))
  (dS:arith .add .i64 (.ofNat i) (.ofNat 1)=some (.int .i64 (.ofNat j))):
  av Tryz.prog Tryz.f98 none call [1,1,1,0,1,0,1,1,1,1,1,0,0,1,0,0] (ag.mk [(0,.ptr r 0),(4,.str s),(6,.int .i64 (.ofNat i))] [] .none h) (.nrm)
   (ag.mk [(0,.ptr r 0),(4,.str s2),(6,.int .i64 (.ofNat j))] [] .none g):=
 a1 [0,4,6] (hs:=[.v (.slice aI bx M bQ),.b true,.b false,.v (.slice aI bx M bQ),.v (.ptr aI aN),.v x,.c (.str w) g,.v (.str s2),.v (.int .i64 (.ofNat j))]) (by kernel_rfl)<| .cons H1<| .cons az<| .cons a0<| .cons H1<| .cons aS<| .cons bo<| .cons bV<| .cons cw<| .cons dS<| .nil
theorem Uf(call:ay->List I->J->an)(r b off N aI bx M i q aN j m k:Nat)(s s1 s2 bE bX cZ n w:List UInt8)(x:I)(aB bQ:b5)(h g:J)
  (H1:aq h r (0+3)=some (.slice aI bx M bQ))
  (az:bC (.ofNat i) (.ofNat M)=true)
  (a0:bC (.ofNat 0) (.ofNat i)=true)
  (aS:eQ .add s [32,124,32]=some (.str s1))
  (bo:Nat.le (Nat.succ i) M/\I.ptr aI aN=I.ptr aI (bx+i*1))
  (bV:aq h aI aN=some (.ptr m 0))
  (cw:aq h m (0+0)=some (.int .i64 (.ofNat k)))
  (dS:a7 (.ofNat k) (.ofNat 8)=true)
  (fJ:eQ .add s1 [40]=some (.str s2))
  (hF:call (.fn 98) [.ptr m 0] h=an.ret (.str w) g)
  (kk:eQ .add s2 w=some (.str bE))
  (lT:eQ .add bE [41]=some (.str bX))
  (o6:arith .add .i64 (.ofNat i) (.ofNat 1)=some (.int .i64 (.ofNat j))):
  av Tryz.prog Tryz.f98 none call [1,1,1,0,1,0,1,1,1,1,1,1,1,0,0,1,0,0] (ag.mk [(0,.ptr r 0),(4,.str s),(7,.int .i64 (.ofNat i))] [] .none h) (.nrm)
   (ag.mk [(0,.ptr r 0),(4,.str bX),(7,.int .i64 (.ofNat j))] [] .none g):=
 a1 [0,4,7] (hs:=[.v (.slice aI bx M bQ),.b true,.b true,.v (.str s1),.v (.slice aI bx M bQ),.v (.ptr aI aN),.v (.ptr m 0),.v (.int .i64 (.ofNat k)),.b true,.v (.str s2),.v (.slice aI bx M bQ),.v (.ptr aI aN),.v (.ptr m 0),.c (.str w) g,.v (.str bE),.v (.str bX),.v (.int .i64 (.ofNat j))]) (by kernel_rfl)<| .cons H1<| .cons az<| .cons a0<| .cons aS<| .cons H1<| .cons bo<| .cons bV<| .cons cw<| .cons dS<| .cons fJ<| .cons H1<| .cons bo<| .cons bV<| .cons hF<| .cons kk<| .cons lT<| .cons o6<| .nil
theorem Ug(call:ay->List I->J->an)(r b off N aI bx M i q aN j m k:Nat)(s s1 s2 bE bX cZ n w:List UInt8)(x:I)(aB bQ:b5)(h g:J)
  (H1:aq h r (0+3)=some (.slice aI bx M bQ))
  (az:bC (.ofNat i) (.ofNat M)=true)
  (a0:bC (.ofNat 0) (.ofNat i)=true)
  (aS:eQ .add s [32,124,32]=some (.str s1))
  (bo:Nat.le (Nat.succ i) M/\I.ptr aI aN=I.ptr aI (bx+i*1))
  (bV:aq h aI aN=some (.ptr m 0))
  (cw:aq h m (0+0)=some (.int .i64 (.ofNat k)))
  (dS:a7 (.ofNat k) (.ofNat 8)=false)
  (fJ:call (.fn 98) [.ptr m 0] h=an.ret (.str w) g)
  (hF:eQ .add s1 w=some (.str s2))
  (kk:arith .add .i64 (.ofNat i) (.ofNat 1)=some (.int .i64 (.ofNat j))):
  av Tryz.prog Tryz.f98 none call [1,1,1,0,1,0,1,1,1,1,1,1,1,0,0,1,0,0] (ag.mk [(0,.ptr r 0),(4,.str s),(7,.int .i64 (.ofNat i))] [] .none h) (.nrm)
   (ag.mk [(0,.ptr r 0),(4,.str s2),(7,.int .i64 (.ofNat j))] [] .none g):=
 a1 [0,4,7] (hs:=[.v (.slice aI bx M bQ),.b true,.b true,.v (.str s1),.v (.slice aI bx M bQ),.v (.ptr aI aN),.v (.ptr m 0),.v (.int .i64 (.ofNat k)),.b false,.v (.slice aI bx M bQ),.v (.ptr aI aN),.v (.ptr m 0),.c (.str w) g,.v (.str s2),.v (.int .i64 (.ofNat j))]) (by kernel_rfl)<| .cons H1<| .cons az<| .cons a0<| .cons aS<| .cons H1<| .cons bo<| .cons bV<| .cons cw<| .cons dS<| .cons H1<| .cons bo<| .cons bV<| .cons fJ<| .cons hF<| .cons kk<| .nil
theorem Uh(call:ay->List I->J->an)(r b off N aI bx M i q aN j m k:Nat)(s s1 s2 bE bX cZ n w:List UInt8)(x:I)(aB bQ:b5)(h g:J)
  (H1:aq h r (0+3)=some (.slice aI bx M bQ))
  (az:bC (.ofNat i) (.ofNat M)=true)
  (a0:bC (.ofNat 0) (.ofNat i)=false)
  (aS:Nat.le (Nat.succ i) M/\I.ptr aI aN=I.ptr aI (bx+i*1))
  (bo:aq h aI aN=some (.ptr m 0))
  (bV:aq h m (0+0)=some (.int .i64 (.ofNat k)))
  (cw:a7 (.ofNat k) (.ofNat 8)=true)
  (dS:eQ .add s [40]=some (.str s2))
  (fJ:call (.fn 98) [.ptr m 0] h=an.ret (.str w) g)
  (hF:eQ .add s2 w=some (.str bE))
  (kk:eQ .add bE [41]=some (.str bX))
  (lT:arith .add .i64 (.ofNat i) (.ofNat 1)=some (.int .i64 (.ofNat j))):
  av Tryz.prog Tryz.f98 none call [1,1,1,0,1,0,1,1,1,1,1,1,1,0,0,1,0,0] (ag.mk [(0,.ptr r 0),(4,.str s),(7,.int .i64 (.ofNat i))] [] .none h) (.nrm)
   (ag.mk [(0,.ptr r 0),(4,.str bX),(7,.int .i64 (.ofNat j))] [] .none g):=
 a1 [0,4,7] (hs:=[.v (.slice aI bx M bQ),.b true,.b false,.v (.slice aI bx M bQ),.v (.ptr aI aN),.v (.ptr m 0),.v (.int .i64 (.ofNat k)),.b true,.v (.str s2),.v (.slice aI bx M bQ),.v (.ptr aI aN),.v (.ptr m 0),.c (.str w) g,.v (.str bE),.v (.str bX),.v (.int .i64 (.ofNat j))]) (by kernel_rfl)<| .cons H1<| .cons az<| .cons a0<| .cons H1<| .cons aS<| .cons bo<| .cons bV<| .cons cw<| .cons dS<| .cons H1<| .cons aS<| .cons bo<| .cons fJ<| .cons hF<| .cons kk<| .cons lT<| .nil
theorem Ui(call:ay->List I->J->an)(r b off N aI bx M i q aN j m k:Nat)(s s1 s2 bE bX cZ n w:List UInt8)(x:I)(aB bQ:b5)(h g:J)
  (H1:aq h r (0+3)=some (.slice aI bx M bQ))
  (az:bC (.ofNat i) (.ofNat M)=true)
  (a0:bC (.ofNat 0) (.ofNat i)=false)
  (aS:Nat.le (Nat.succ i) M/\I.ptr aI aN=I.ptr aI (bx+i*1))
  (bo:aq h aI aN=some (.ptr m 0))
  (bV:aq h m (0+0)=some (.int .i64 (.ofNat k)))
  (cw:a7 (.ofNat k) (.ofNat 8)=false)
  (dS:call (.fn 98) [.ptr m 0] h=an.ret (.str w) g)
  (fJ:eQ .add s w=some (.str s2))
  (hF:arith .add .i64 (.ofNat i) (.ofNat 1)=some (.int .i64 (.ofNat j))):
  av Tryz.prog Tryz.f98 none call [1,1,1,0,1,0,1,1,1,1,1,1,1,0,0,1,0,0] (ag.mk [(0,.ptr r 0),(4,.str s),(7,.int .i64 (.ofNat i))] [] .none h) (.nrm)
   (ag.mk [(0,.ptr r 0),(4,.str s2),(7,.int .i64 (.ofNat j))] [] .none g):=
 a1 [0,4,7] (hs:=[.v (.slice aI bx M bQ),.b true,.b false,.v (.slice aI bx M bQ),.v (.ptr aI aN),.v (.ptr m 0),.v (.int .i64 (.ofNat k)),.b false,.v (.slice aI bx M bQ),.v (.ptr aI aN),.v (.ptr m 0),.c (.str w) g,.v (.str s2),.v (.int .i64 (.ofNat j))]) (by kernel_rfl)<| .cons H1<| .cons az<| .cons a0<| .cons H1<| .cons aS<| .cons bo<| .cons bV<| .cons cw<| .cons H1<| .cons aS<| .cons bo<| .cons dS<| .cons fJ<| .cons hF<| .nil
theorem Az{fn:Func}{call:ay->List I->J->an}{p:List Nat}{e:bF}{reg R B N:Nat}{h:J}{sep:aU}{items:List aU}(gJ:items.length=N)(he:e≠ .nrm)
  (step:∀i (ae:i<items.length) x,Ext B h x->∃y,av Tryz.prog fn none call (p++[0]) ⟨[(0,.ptr R 0),(4,.str (eu sep (items.take i))),(reg,.int .i64 (Int.ofNat i))],[],.none,x⟩ .nrm ⟨[(0,.ptr R 0),(4,.str (eu sep (items.take (i+1)))),(reg,.int .i64 (Int.ofNat (i+1)))],[],.none,y⟩/\Ext B h y)
  (exit:∀x s,Ext B h x->av Tryz.prog fn none call (p++[0]) ⟨[(0,.ptr R 0),(4,.str s),(reg,.int .i64 (Int.ofNat N))],[],.none,x⟩ e ⟨[(0,.ptr R 0),(4,.str s)],[],.none,x⟩):
  ∀(k i:Nat) (x:J),N-i=k->i<=N->Ext B h x->∃y,dH Tryz.prog fn none call p (k+1) ⟨[(0,.ptr R 0),(4,.str (eu sep (items.take i))),(reg,.int .i64 (Int.ofNat i))],[],.none,x⟩ e ⟨[(0,.ptr R 0),(4,.str (eu sep items))],[],.none,y⟩/\Ext B h y
 |0,i,x,aw,ae,ab=>by
  obtain rfl:i=N:=by omega
  rw[List.take_of_length_le (by omega)]
  exact⟨x,.exit (exit x _ ab) he,ab⟩
 |k+1,i,x,aw,ae,ab=>by
  obtain⟨y,s1,s2⟩:=step i (by omega) x ab
  obtain⟨z,bp,bB⟩:=Az gJ he step exit k (i+1) y (by omega) (by omega) s2
  exact⟨z,.step s1 bp,bB⟩
abbrev xF(m B:Nat)(h:J)(vs:List I)(ws:List aU):Prop:=∀i (aa:i<vs.length) (ad:i<ws.length) x,Ext B h x->∃al,Y m (.fn 98) [vs[i]] x=.ret (.str ws[i]) al/\Ext B x al
theorem Uj{m B R i:Nat}{h x:J}{h3 gi cD bR cl:I}{bS:eC}{bf up:Nat}{vs:List I}{ws:List aU}(fG:R<B)(aj:h.get R=some (.cells [h3,gi,cD,bR,cl] 51 bS bf up))(aE:cL B h bR vs)(au:ws.length=vs.length)(hlen:vs.length<=90000)(af:(eu [44,32] ws).length<=1000000)(ba:xF m B h vs ws)(ae:i<ws.length)(ab:Ext B h x):
  ∃y,av Tryz.prog Tryz.f98 none (Y m) [1,1,1,0,1,0,1,1,1,1,1,0,0,1,0,0] ⟨[(0,.ptr R 0),(4,.str (eu [44,32] (ws.take i))),(6,.int .i64 (Int.ofNat i))],[],.none,x⟩ .nrm ⟨[(0,.ptr R 0),(4,.str (eu [44,32] (ws.take (i+1)))),(6,.int .i64 (Int.ofNat (i+1)))],[],.none,y⟩/\Ext B h y:=by
 have aa:i<vs.length:=by omega
 have ed:=(ab.get R fG).trans aj
 rcases aE with⟨_,rfl⟩|⟨b,off,aB,rfl,eJ,fI,eL⟩
 · simp at aa
 have aA:aq x b (off+i*1)=some vs[i]:=(i_ ab eJ).trans (fI i aa)
 obtain⟨g,c1,c2⟩:=ba i aa ae x ab
 have t1:=xr [44,32] ws i
 have t2:=tf [44,32] ws ae
 refine⟨g,?_,ab.trans (Nat.le_refl _) c2⟩
 rw[xq [44,32] ws ae]
 by_cases h0:0<i
 · rw[if_pos h0]
   exact Ud (Y m) R 0 0 0 b off vs.length i 0 (off+i*1) (i+1) _ _ _ [] [] [] [] ws[i] vs[i] (.exact 0) aB x g (aH ed rfl) (ds aa) (ds h0) (fo (by simp;omega)) ⟨aa,rfl⟩ aA c1 (fo (by simp;omega)) (ij aa (by omega))
 · rw[if_neg h0]
   obtain rfl:i=0:=by omega
   exact Ue (Y m) R 0 0 0 b off vs.length 0 0 (off+0*1) 1 _ [] _ [] [] [] [] ws[0] vs[0] (.exact 0) aB x g (aH ed rfl) (ds aa) (eh (by omega)) ⟨aa,rfl⟩ aA c1 (fo (x:=[]) (by simp;omega)) (ij aa (by omega))
end Go.Proofs.cR
namespace Go.Proofs.cR
open Go aD Go.Proofs dE
set_option maxRecDepth 100000
set_option maxHeartbeats 1000000
theorem Uk{m B R i:Nat}{h x:J}{h3 gi cD bR cl:I}{bS:eC}{bf up:Nat}{aJ:List aU}{vs:List I}{ws:List aU}(fG:R<B)(aj:h.get R=some (.cells [h3,gi,cD,bR,cl] 51 bS bf up))(aK:cL B h cD (aJ.map .str))(aE:cL B h bR vs)(tk:aJ.length=vs.length)(au:ws.length=vs.length)(hlen:vs.length<=90000)(af:(eu [44,32] (gL aJ ws)).length<=1000000)(eY:∀i (aa:i<vs.length),I.sound vs[i]=true)(ba:xF m B h vs ws)(ae:i<(gL aJ ws).length)(ab:Ext B h x):
  ∃y,av Tryz.prog Tryz.f98 none (Y m) [1,1,1,0,1,0,1,1,1,0,0,1,0,0] ⟨[(0,.ptr R 0),(4,.str (eu [44,32] ((gL aJ ws).take i))),(5,.int .i64 (Int.ofNat i))],[],.none,x⟩ .nrm ⟨[(0,.ptr R 0),(4,.str (eu [44,32] ((gL aJ ws).take (i+1)))),(5,.int .i64 (Int.ofNat (i+1)))],[],.none,y⟩/\Ext B h y:=by
 have n5:(gL aJ ws).length=vs.length:=by unfold gL;rw[List.length_zipWith];omega
 have aa:i<vs.length:=by omega
 have ad:i<aJ.length:=by omega
 have ax:i<ws.length:=by omega
 have ed:=(ab.get R fG).trans aj
 have ai:=ab.ht (k:=20)
 have gy:=(ai.get R fG).trans aj
 rcases aE with⟨_,rfl⟩|⟨b,off,aB,rfl,eJ,fI,eL⟩
 · simp at aa
 rcases aK.strs with⟨_,rfl⟩|⟨aI,bx,bQ,rfl,di,h4⟩
 · simp at ad
 have aA:aq (x.room 20) b (off+i*1)=some vs[i]:=(i_ ai eJ).trans (fI i aa)
 have aC:aq (x.room 20) aI (bx+i*1)=some (.str aJ[i]):=(i_ ai di).trans (h4 i ad)
 obtain⟨g,c1,c2⟩:=ba i aa ax (x.room 20) ai
 have p8:=ai.trans (Nat.le_refl _) c2
 have xG:=(p8.get R fG).trans aj
 have bN:aq g aI (bx+i*1)=some (.str aJ[i]):=(i_ p8 di).trans (h4 i ad)
 have t1:=xr [44,32] (gL aJ ws) i
 have t2:=tf [44,32] (gL aJ ws) ae
 have me:(gL aJ ws)[i]=aJ[i]++[58,32]++ws[i]:=List.getElem_zipWith (f:=λn w=>n++[58,32]++w) (h:=ae)
 have t3:aJ[i].length+2+ws[i].length<=1000000:=by
  rw[me] at t2
  simp at t2;omega
 refine⟨g,?_,p8⟩
 rw[xq [44,32] (gL aJ ws) ae,me]
 by_cases h0:0<i
 · rw[if_pos h0,<-List.append_assoc,<-List.append_assoc]
   exact Ua (Y m) R aI bx aJ.length b off vs.length i (bx+i*1) (off+i*1) (i+1) _ _ _ _ _ [] aJ[i] ws[i] vs[i] bQ aB x g (aH ed rfl) (ds aa) (ds h0) (fo (by simp;omega)) (aH gy rfl) ⟨ad,rfl⟩ aC (fo (by simp;omega)) (fo (by simp;omega)) (aH gy rfl) ⟨aa,rfl⟩ aA c1 (fo (by simp;omega)) (aH xG rfl) bN (eY i aa) (ij aa (by omega))
 · rw[if_neg h0]
   obtain rfl:i=0:=by omega
   exact Uc (Y m) R aI bx aJ.length b off vs.length 0 (bx+0*1) (off+0*1) 1 _ [] _ _ _ [] aJ[0] ws[0] vs[0] bQ aB x g (aH ed rfl) (ds aa) (eh (by omega)) (aH gy rfl) ⟨ad,rfl⟩ aC (fo (x:=[]) (by simp;omega)) (fo (by simp;omega)) (aH gy rfl) ⟨aa,rfl⟩ aA c1 (fo (by simp;omega)) (aH xG rfl) bN (eY 0 aa) (ij aa (by omega))
theorem Ul{m B R i:Nat}{h x:J}{h3 gi cD bR cl:I}{bS:eC}{bf up:Nat}{e0:List Nat}{vs:List I}{ws:List aU}(fG:R<B)(aj:h.get R=some (.cells [h3,gi,cD,bR,cl] 51 bS bf up))(aE:cL B h bR vs)(Jp:e0.length=vs.length)(au:ws.length=vs.length)(hlen:vs.length<=90000)(af:(eu [32,124,32] (hi e0 ws)).length<=1000000)
  (oP:∀i (aa:i<vs.length) (ad:i<e0.length),∃M,vs[i]=.ptr M 0/\∀x,Ext B h x->aq x M (0+0)=some (.int .i64 (Int.ofNat e0[i])))(ba:xF m B h vs ws)(ae:i<(hi e0 ws).length)(ab:Ext B h x):
  ∃y,av Tryz.prog Tryz.f98 none (Y m) [1,1,1,0,1,0,1,1,1,1,1,1,1,0,0,1,0,0] ⟨[(0,.ptr R 0),(4,.str (eu [32,124,32] ((hi e0 ws).take i))),(7,.int .i64 (Int.ofNat i))],[],.none,x⟩ .nrm ⟨[(0,.ptr R 0),(4,.str (eu [32,124,32] ((hi e0 ws).take (i+1)))),(7,.int .i64 (Int.ofNat (i+1)))],[],.none,y⟩/\Ext B h y:=by
 have n5:(hi e0 ws).length=vs.length:=by unfold hi;rw[List.length_zipWith];omega
 have aa:i<vs.length:=by omega
 have ad:i<e0.length:=by omega
 have ax:i<ws.length:=by omega
 have ed:=(ab.get R fG).trans aj
 obtain⟨M,h8,p_⟩:=oP i aa ad
 have o7:=p_ x ab
 rcases aE with⟨_,rfl⟩|⟨b,off,aB,rfl,eJ,fI,eL⟩
 · simp at aa
 have aA:aq x b (off+i*1)=some (.ptr M 0):=by rw[<-h8];exact(i_ ab eJ).trans (fI i aa)
 obtain⟨g,c1,c2⟩:=ba i aa ax x ab
 rw[h8] at c1
 have t1:=xr [32,124,32] (hi e0 ws) i
 have t2:=tf [32,124,32] (hi e0 ws) ae
 have me:(hi e0 ws)[i]=if e0[i]=8 then[40]++ws[i]++[41] else ws[i]:=List.getElem_zipWith (f:=λ(k:Nat) (w:aU)=>if k=8 then[40]++w++[41] else w) (h:=ae)
 refine⟨g,?_,ab.trans (Nat.le_refl _) c2⟩
 rw[xq [32,124,32] (hi e0 ws) ae,me]
 rw[me] at t2
 by_cases g1:e0[i]=8
 · rw[if_pos g1] at t2⊢
   have t3:ws[i].length+2<=1000000:=by simp at t2;omega
   by_cases h0:0<i
   · rw[if_pos h0,<-List.append_assoc,<-List.append_assoc]
     exact Uf (Y m) R 0 0 0 b off vs.length i 0 (off+i*1) (i+1) M e0[i] _ _ _ _ _ [] [] ws[i] .aR (.exact 0) aB x g (aH ed rfl) (ds aa) (ds h0) (fo (by simp;omega)) ⟨aa,rfl⟩ aA o7 (sM g1) (fo (by simp;omega)) c1 (fo (by simp;omega)) (fo (by simp;omega)) (ij aa (by omega))
   · rw[if_neg h0]
     obtain rfl:i=0:=by omega
     exact Uh (Y m) R 0 0 0 b off vs.length 0 0 (off+0*1) 1 M e0[0] _ [] _ _ _ [] [] ws[0] .aR (.exact 0) aB x g (aH ed rfl) (ds aa) (eh (by omega)) ⟨aa,rfl⟩ aA o7 (sM g1) (fo (x:=[]) (by simp)) c1 (fo (by simp;omega)) (fo (by simp;omega)) (ij aa (by omega))
 · rw[if_neg g1] at t2⊢
   by_cases h0:0<i
   · rw[if_pos h0]
     exact Ug (Y m) R 0 0 0 b off vs.length i 0 (off+i*1) (i+1) M e0[i] _ _ _ [] [] [] [] ws[i] .aR (.exact 0) aB x g (aH ed rfl) (ds aa) (ds h0) (fo (by simp;omega)) ⟨aa,rfl⟩ aA o7 (k3 g1) c1 (fo (by simp;omega)) (ij aa (by omega))
   · rw[if_neg h0]
     obtain rfl:i=0:=by omega
     exact Ui (Y m) R 0 0 0 b off vs.length 0 0 (off+0*1) 1 M e0[0] _ [] _ [] [] [] [] ws[0] .aR (.exact 0) aB x g (aH ed rfl) (ds aa) (eh (by omega)) ⟨aa,rfl⟩ aA o7 (k3 g1) c1 (fo (x:=[]) (by simp;omega)) (ij aa (by omega))
end Go.Proofs.cR
namespace Go.Proofs.cR
open Go aD Go.Proofs dE
set_option maxRecDepth 100000
set_option maxHeartbeats 1000000
abbrev EC:List I:=[.str [97,110,121],.str [105,110,116],.str [98,111,111,108],.str [115,116,114],.str [110,105,108]]
theorem rv(k:Nat)(bD:aU)(aJ:List aU)(xs:List a5)(rt:Option a5):wr (.mk k bD aJ xs rt)=dE.shape k bD aJ (xs.map a5.k) (cB xs) (kj rt):=by rw[wr]
theorem ED{aJ ws:List aU}{i:Nat}(ae:i<(gL aJ ws).length)(aa:i<aJ.length)(ad:i<ws.length):(gL aJ ws)[i]=aJ[i]++[58,32]++ws[i]:=List.getElem_zipWith (f:=λn w=>n++[58,32]++w) (h:=ae)
theorem Ko{e0:List Nat}{ws:List aU}{i:Nat}(ae:i<(hi e0 ws).length)(aa:i<e0.length)(ad:i<ws.length):(hi e0 ws)[i]=if e0[i]=8 then[40]++ws[i]++[41] else ws[i]:=List.getElem_zipWith (f:=λ(k:Nat) (w:aU)=>if k=8 then[40]++w++[41] else w) (h:=ae)
theorem EE:∀(K:Nat) (t:a5),sz t<=K->sz t<=90000->okW t=true->(wr t).length<=1000000->∀(m B:Nat) (h:J) (v:I),sz t+1<=m->B<=h.n->cN B h t v->∃al,Y m (.fn 98) [v] h=.ret (.str (wr t)) al/\Ext B h al
 |0,t,dq,_,_,_,_,_,_,_,_,_,_=>by
  have:=nV t
  omega
 |K+1,.mk k bD aJ xs rt,dq,fO,dw,hb,m,B,h,v,hm,bO,aE=>by
  obtain⟨R,cD,bR,cl,vs,bS,bf,up,rfl,ad,ax,aO,bZ,dj,ek⟩:=aE
  rw[o4] at dq fO hm
  rw[rv] at hb
  rw[okW] at dw
  simp only[Bool.and_eq_true,Bool.or_eq_true,decide_eq_true_eq] at dw
  obtain⟨⟨⟨⟨⟨b4,jz⟩,g8⟩,jB⟩,qa⟩,qb⟩:=dw
  obtain⟨m,rfl⟩:∃j,m=j+1:=⟨m-1,by omega⟩
  have e3:=c6.len dj
  have kT:=nW xs
  have ie:=uS xs
  let ao:=(h.push (.cells [.str [],.str [],.str [],.str [],.str []] 153 .own 0 0)).set h.n (some (.cells EC 153 .own 0 0))
  have st:aD.storeCells (h.push (.cells [.str [],.str [],.str [],.str [],.str []] 153 .own 0 0)) h.n 0 EC=some ao:=iG (by rw[J.eA];exact if_pos rfl) rfl rfl
  have jA:Ext B h ao:=((Ext.push bO _).hA bO)
  have n4:B<=ao.n:=Nat.le_trans bO jA.n
  have xd:ao.get h.n=some (.cells EC 153 .own 0 0):=by
   show(J.set _ _ _).get _=_
   rw[J.b_,if_pos rfl]
  have nj:=dT.ext jA (Nat.le_refl _)
  have aj:=(jA.get R ad).trans ax
  have cF:=aO.bH nj
  have dc:=bZ.bH nj
  have dk:=c6.bH nj _ _ dj
  have eM:=cE.bH nj _ _ ek
  generalize aat:ao=g at*
  have fin:∀s y,av Tryz.prog Tryz.f98 none (Y m) [1,1,1] ⟨[(0,.ptr R 0),(3,.ptr h.n 0),(4,.str [])],[],.none,g⟩ .ret ⟨[(2,.str s)],[],.none,y⟩->s=wr (.mk k bD aJ xs rt)->Ext B g y->∃al,Y (m+1) (.fn 98) [.ptr R 0] h=.ret (.str (wr (.mk k bD aJ xs rt))) al/\Ext B h al:=λs y ai hs ab=>by
   rw[<-hs]
   exact⟨y,dJ (intr:=bT) (n:=m) (args:=[.ptr R 0]) Tryz.func98 (by kernel_rfl) rfl (by kernel_rfl) (av.seq (p:=[]) (by kernel_rfl) (TY (Y m) R h) (av.seq (p:=[1]) (by kernel_rfl) (TZ (Y m) R h g st) (av.seq (p:=[1,1]) (by kernel_rfl) (T0 (Y m) R h.n g) ai))) (.inl rfl) (by kernel_rfl),jA.trans (Nat.le_refl _) ab⟩
  have xH:=T1 (Y m) R h.n k g (aH aj rfl)
  have AA:∀s y,av Tryz.prog Tryz.f98 none (Y m) [1,1,1,0,1] ⟨[(0,.ptr R 0),(3,.ptr h.n 0),(4,.str []),(12,.int .i64 (Int.ofNat k))],[],.none,g⟩ .ret ⟨[(2,.str s)],[],.none,y⟩->s=wr (.mk k bD aJ xs rt)->Ext B g y->∃al,Y (m+1) (.fn 98) [.ptr R 0] h=.ret (.str (wr (.mk k bD aJ xs rt))) al/\Ext B h al:=λs y ai hs ab=>
   fin s y (av.e_ (p:=[1,1,1]) (by kernel_rfl) (av.seq (p:=[1,1,1,0]) (by kernel_rfl) xH ai) (by simp)) hs ab
  have EF:(∀i (ae:i<(cB xs).length),(cB xs)[i].length<=1000000)->xF m B g vs (cB xs):=λaf i i1 i2 x ab=>by
   have i3:i<xs.length:=by omega
   have lD:=ki (List.getElem_mem i3)
   have hp:=af i i2
   rw[uT xs i i3 i2] at hp⊢
   exact EE K xs[i] (by omega) (by omega) (JJ qa (List.getElem_mem i3)) hp m B x vs[i] (by omega) (Nat.le_trans n4 ab.n) (cN.bH (dT.ext ab (Nat.le_refl _)) _ _ (c6.get dk i i1 i3))
  by_cases fg:k=6
  · subst fg
    exact AA bD g (T2 (Y m) R h.n bD g (aH aj rfl)) (by rw[rv];rfl) (Ext.refl _ _)
  by_cases eI:k=7
  · subst eI
    have tk:xs.length=aJ.length:=by rcases g8 with g8|g8;exact absurd rfl g8;exact g8
    have n5:(gL aJ (cB xs)).length=vs.length:=by unfold gL;rw[List.length_zipWith];omega
    have xp:(eu [44,32] (gL aJ (cB xs))).length<=999998:=by
     have:([123]++eu [44,32] (gL aJ (cB xs))++[125]:aU).length<=1000000:=hb
     simp at this;omega
    have iC:=EF λi ae=>by
     have t2:=tf [44,32] (gL aJ (cB xs)) (i:=i) (by omega)
     rw[ED (by omega) (by omega) ae] at t2
     simp at t2;omega
    obtain⟨y,bp,bB⟩:=Az (fn:=Tryz.f98) (call:=Y m) (p:=[1,1,1,0,1,0,1,1,1,0,0,1,0]) (e:=.exit 1) (reg:=5) (R:=R) (B:=B) (N:=vs.length) (h:=g) (sep:=[44,32]) (items:=gL aJ (cB xs)) n5 (by simp)
     (λi ae x ab=>Uk ad aj cF dc (by omega) (by omega) (by omega) (by omega) (λi i1=>(c6.get dk i i1 (by omega)).snd) iC ae ab)
     (λx s ab=>T8 (Y m) R vs.length vs.length s bR x (aH ((ab.get R ad).trans aj) rfl) dc.lU (eh (by omega))) vs.length 0 g (by omega) (by omega) (Ext.refl _ _)
    have cU:=dH.run (p:=[1,1,1,0,1,0,1,1,1,0,0,1,0]) (by kernel_rfl) bp (by omega)
    exact AA _ y (T3 (Y m) R h.n _ _ _ g y (ck.pre cU ⟨rfl,rfl,rfl,trivial⟩ rfl rfl rfl) (fo (by simp;omega)) (fo (by simp;omega))) (by rw[rv];rfl) bB
  by_cases fP:k=8
  · subst fP
    have xp:(eu [44,32] (cB xs)).length+(kj rt).length<=999992:=by
     have:([102,110,40]++eu [44,32] (cB xs)++[41,32,45,62,32]++kj rt:aU).length<=1000000:=hb
     simp at this;omega
    have iC:=EF λi ae=>by
     have t2:=tf [44,32] (cB xs) (i:=i) ae
     omega
    obtain⟨y,bp,bB⟩:=Az (fn:=Tryz.f98) (call:=Y m) (p:=[1,1,1,0,1,0,1,1,1,1,1,0,0,1,0]) (e:=.exit 3) (reg:=6) (R:=R) (B:=B) (N:=vs.length) (h:=g) (sep:=[44,32]) (items:=cB xs) (by omega) (by simp)
     (λi ae x ab=>Uj ad aj dc (by omega) (by omega) (by omega) iC ae ab)
     (λx s ab=>T9 (Y m) R vs.length vs.length s bR x (aH ((ab.get R ad).trans aj) rfl) dc.lU (eh (by omega))) vs.length 0 g (by omega) (by omega) (Ext.refl _ _)
    have cU:=dH.run (p:=[1,1,1,0,1,0,1,1,1,1,1,0,0,1,0]) (by kernel_rfl) bp (by omega)
    cases rt with
    |none=>rcases jB with jB|jB<;>simp at jB
    |some u=>
     rw[im] at dq fO hm
     have qc:kj (some u)=wr u:=by rw[kj]
     obtain⟨z,c1,c2⟩:=EE K u (by omega) (by omega) (by rw[tg] at qb;exact qb) (by rw[<-qc];omega) m B y cl (by omega) (Nat.le_trans n4 bB.n) (cN.bH (dT.ext bB (Nat.le_refl _)) _ _ eM)
     rw[<-qc] at c1
     exact AA _ z (T4 (Y m) R h.n _ _ _ _ _ cl g y z (ck.pre cU ⟨rfl,rfl,rfl,trivial⟩ rfl rfl rfl) (fo (by simp;omega)) (fo (by simp;omega)) (aH ((bB.get R ad).trans aj) rfl) c1 (fo (by simp;omega))) (by rw[rv];rfl) (bB.trans (Nat.le_refl _) c2)
  by_cases fE:k=9
  · subst fE
    have n5:(hi (xs.map a5.k) (cB xs)).length=vs.length:=by unfold hi;rw[List.length_zipWith,List.length_map];omega
    have xp:(eu [32,124,32] (hi (xs.map a5.k) (cB xs))).length<=1000000:=hb
    have iC:=EF λi ae=>by
     have t2:=tf [32,124,32] (hi (xs.map a5.k) (cB xs)) (i:=i) (by omega)
     rw[Ko (by omega) (by rw[List.length_map];omega) ae] at t2
     split at t2
     · simp at t2;omega
     · omega
    have oP:∀i (aa:i<vs.length) (ad:i<(xs.map a5.k).length),∃M,vs[i]=.ptr M 0/\∀x,Ext B g x->aq x M (0+0)=some (.int .i64 (Int.ofNat (xs.map a5.k)[i])):=λi i1 i2=>by
     have i3:i<xs.length:=by omega
     have a6:=c6.get dk i i1 i3
     have xI:(xs.map a5.k)[i]=(xs[i]).k:=List.getElem_map a5.k
     rw[xI]
     cases ab:xs[i] with
     |mk dD ef g2 kG my=>
      rw[ab] at a6
      obtain⟨M,_,_,_,_,_,_,_,aA,aC,bN,_⟩:=a6
      exact⟨M,aA,λx hG=>aH ((hG.get M aC).trans bN) rfl⟩
    obtain⟨y,bp,bB⟩:=Az (fn:=Tryz.f98) (call:=Y m) (p:=[1,1,1,0,1,0,1,1,1,1,1,1,1,0,0,1,0]) (e:=.exit 5) (reg:=7) (R:=R) (B:=B) (N:=vs.length) (h:=g) (sep:=[32,124,32]) (items:=hi (xs.map a5.k) (cB xs)) n5 (by simp)
     (λi ae x ab=>Ul ad aj dc (by rw[List.length_map];omega) (by omega) (by omega) xp oP iC ae ab)
     (λx s ab=>T_ (Y m) R vs.length vs.length s bR x (aH ((ab.get R ad).trans aj) rfl) dc.lU (eh (by omega))) vs.length 0 g (by omega) (by omega) (Ext.refl _ _)
    have cU:=dH.run (p:=[1,1,1,0,1,0,1,1,1,1,1,1,1,0,0,1,0]) (by kernel_rfl) bp (by omega)
    exact AA _ y (T5 (Y m) R h.n _ g y (ck.pre cU ⟨rfl,rfl,rfl,trivial⟩ rfl rfl rfl)) (by rw[rv];rfl) bB
  · have Um:=T6 (Y m) R h.n k g (k3 fg) (k3 eI) (k3 fP) (k3 fE)
    have hw:wr (.mk k bD aJ xs rt)=word k:=by
     rw[rv];unfold dE.shape
     rw[if_neg fg,if_neg eI,if_neg fP,if_neg fE]
    have aau:k<=5:=by omega
    have Un:aq g h.n (0+(k-1)*1)=some (.str (word k)):=by
     refine aH xd ?_
     have:k=1\/k=2\/k=3\/k=4\/k=5:=by omega
     rcases this with rfl|rfl|rfl|rfl|rfl<;>rfl
    exact fin (word k) g (av.seq (p:=[1,1,1]) (by kernel_rfl) (av.seq (p:=[1,1,1,0]) (by kernel_rfl) xH Um) (T7 (Y m) R h.n k (k-1) (0+(k-1)*1) (word k) g (aH aj rfl) (pP b4 (by omega)) ⟨(by show k-1+1<=5;omega),rfl⟩ Un)) hw.symm (Ext.refl _ _)
end Go.Proofs.cR
