/-
  PROVED HERE: contracts of functions (Db). No condition beside each statement's own.
-/
import Derived.Test.YtfooahfebojldaaGreatDoorDa
set_option linter.unusedVariables false
set_option linter.unusedSimpArgs false
namespace Go.Proofs.cT
open Go aC Go.Proofs dD
set_option maxRecDepth 100000
set_option maxHeartbeats 1000000
theorem Ul(call:aE->List J->aa->ao)(n:Nat)(h:aa)
  (H1:dq (.ofNat 97) (.ofNat n)=true)
  (ay:dq (.ofNat n) (.ofNat 122)=true):
  aw Tryz.prog Tryz.f114 none call [] (af.mk [(0,.int .u8 (.ofNat n))] [] .none h) (.ret)
   (af.mk [(2,.bool true)] [] .none h):=
 aX [2] (hs:=[.b true,.b true,.b true,.b true,.b true,.b true,.b true,.b true,.b true,.b true,.b true]) (by kernel_rfl)<| .cons H1<| .cons H1<| .cons H1<| .cons ay<| .cons ay<| .cons ay<| .cons ay<| .cons ay<| .cons (by kernel_rfl:true=true)<| .cons (by kernel_rfl:true=true)<| .cons (by kernel_rfl:true=true)<| .nil
theorem Um(call:aE->List J->aa->ao)(n:Nat)(h:aa)
  (H1:dq (.ofNat 97) (.ofNat n)=true)
  (ay:dq (.ofNat n) (.ofNat 122)=false)
  (aN:dq (.ofNat 65) (.ofNat n)=true)
  (aO:dq (.ofNat n) (.ofNat 90)=false):
  aw Tryz.prog Tryz.f114 none call [] (af.mk [(0,.int .u8 (.ofNat n))] [] .none h) (.ret)
   (af.mk [(2,.bool (ba (.ofNat n) (.ofNat 95)))] [] .none h):=
 aX [2] (hs:=[.b true,.b true,.b true,.b false,.b false,.b false,.b true,.b true,.b false,.b true,.b false,.b false,.b false,.b false]) (by kernel_rfl)<| .cons H1<| .cons H1<| .cons H1<| .cons ay<| .cons ay<| .cons ay<| .cons aN<| .cons aN<| .cons ay<| .cons aN<| .cons ay<| .cons aO<| .cons aO<| .cons aO<| .nil
theorem Un(call:aE->List J->aa->ao)(n:Nat)(h:aa)
  (H1:dq (.ofNat 97) (.ofNat n)=false)
  (ay:dq (.ofNat 65) (.ofNat n)=true)
  (aN:dq (.ofNat n) (.ofNat 90)=true):
  aw Tryz.prog Tryz.f114 none call [] (af.mk [(0,.int .u8 (.ofNat n))] [] .none h) (.ret)
   (af.mk [(2,.bool true)] [] .none h):=
 aX [2] (hs:=[.b false,.b false,.b false,.b false,.b false,.b false,.b true,.b true,.b false,.b true,.b false,.b true,.b true,.b true]) (by kernel_rfl)<| .cons H1<| .cons H1<| .cons H1<| .cons (by kernel_rfl:false=false)<| .cons (by kernel_rfl:false=false)<| .cons (by kernel_rfl:false=false)<| .cons ay<| .cons ay<| .cons (by kernel_rfl:false=false)<| .cons ay<| .cons (by kernel_rfl:false=false)<| .cons aN<| .cons aN<| .cons aN<| .nil
theorem Uo(call:aE->List J->aa->ao)(n:Nat)(h:aa)
  (H1:dq (.ofNat 97) (.ofNat n)=false)
  (ay:dq (.ofNat 65) (.ofNat n)=true)
  (aN:dq (.ofNat n) (.ofNat 90)=false):
  aw Tryz.prog Tryz.f114 none call [] (af.mk [(0,.int .u8 (.ofNat n))] [] .none h) (.ret)
   (af.mk [(2,.bool (ba (.ofNat n) (.ofNat 95)))] [] .none h):=
 aX [2] (hs:=[.b false,.b false,.b false,.b false,.b false,.b false,.b true,.b true,.b false,.b true,.b false,.b false,.b false,.b false]) (by kernel_rfl)<| .cons H1<| .cons H1<| .cons H1<| .cons (by kernel_rfl:false=false)<| .cons (by kernel_rfl:false=false)<| .cons (by kernel_rfl:false=false)<| .cons ay<| .cons ay<| .cons (by kernel_rfl:false=false)<| .cons ay<| .cons (by kernel_rfl:false=false)<| .cons aN<| .cons aN<| .cons aN<| .nil
theorem Up(call:aE->List J->aa->ao)(n:Nat)(h:aa)
  (H1:dq (.ofNat 97) (.ofNat n)=false)
  (ay:dq (.ofNat 65) (.ofNat n)=false):
  aw Tryz.prog Tryz.f114 none call [] (af.mk [(0,.int .u8 (.ofNat n))] [] .none h) (.ret)
   (af.mk [(2,.bool (ba (.ofNat n) (.ofNat 95)))] [] .none h):=
 aX [2] (hs:=[.b false,.b false,.b false,.b false,.b false,.b false,.b false,.b false,.b false,.b false,.b false,.b false,.b false,.b false]) (by kernel_rfl)<| .cons H1<| .cons H1<| .cons H1<| .cons (by kernel_rfl:false=false)<| .cons (by kernel_rfl:false=false)<| .cons (by kernel_rfl:false=false)<| .cons ay<| .cons ay<| .cons (by kernel_rfl:false=false)<| .cons ay<| .cons (by kernel_rfl:false=false)<| .cons (by kernel_rfl:false=false)<| .cons (by kernel_rfl:false=false)<| .cons (by kernel_rfl:false=false)<| .nil
theorem Uq(call:aE->List J->aa->ao)(s:List UInt8)(n:Nat)(b:Bool)(h g:aa)
  (H1:br (.ofNat (List.length s)) (.ofNat 1)=true):
  aw Tryz.prog Tryz.f95 none call [1,0] (af.mk [(0,.str s)] [] .none h) (.ret)
   (af.mk [(0,.str s),(2,.bool false)] [] .none h):=
 aX [0,2] (hs:=[.b true,.b true,.b true,.b true,.b true,.b true,.b true,.b true,.b true,.b true]) (by kernel_rfl)<| .cons H1<| .cons H1<| .cons H1<| .cons H1<| .cons (by kernel_rfl:true=true)<| .cons (by kernel_rfl:true=true)<| .cons (by kernel_rfl:true=true)<| .cons (by kernel_rfl:true=true)<| .cons (by kernel_rfl:true=true)<| .cons (by kernel_rfl:true=true)<| .nil
theorem Ur(call:aE->List J->aa->ao)(s:List UInt8)(n:Nat)(b:Bool)(h g:aa)
  (H1:br (.ofNat (List.length s)) (.ofNat 1)=false)
  (ay:br (.ofNat 24) (.ofNat (List.length s))=true):
  aw Tryz.prog Tryz.f95 none call [1,0] (af.mk [(0,.str s)] [] .none h) (.ret)
   (af.mk [(0,.str s),(2,.bool false)] [] .none h):=
 aX [0,2] (hs:=[.b false,.b false,.b false,.b false,.b true,.b true,.b true,.b true,.b true,.b true]) (by kernel_rfl)<| .cons H1<| .cons H1<| .cons H1<| .cons H1<| .cons ay<| .cons ay<| .cons ay<| .cons ay<| .cons ay<| .cons (by kernel_rfl:true=true)<| .nil
theorem Us(call:aE->List J->aa->ao)(s:List UInt8)(n:Nat)(b:Bool)(h g:aa)
  (H1:br (.ofNat (List.length s)) (.ofNat 1)=false)
  (ay:br (.ofNat 24) (.ofNat (List.length s))=false)
  (aN:g1 0 s=some (.int .u8 (.ofNat n)))
  (aO:call (.fn 114) [.int .u8 (.ofNat n)] h=ao.ret (.bool b) g)
  (bm:(!b)=true):
  aw Tryz.prog Tryz.f95 none call [1,0] (af.mk [(0,.str s)] [] .none h) (.ret)
   (af.mk [(0,.str s),(2,.bool false)] [] .none g):=
 aX [0,2] (hs:=[.b false,.b false,.b false,.b false,.b false,.b false,.v (.int .u8 (.ofNat n)),.b false,.c (.bool b) g,.b false,.b false,.b true]) (by kernel_rfl)<| .cons H1<| .cons H1<| .cons H1<| .cons H1<| .cons ay<| .cons ay<| .cons aN<| .cons ay<| .cons aO<| .cons ay<| .cons ay<| .cons bm<| .nil
theorem Ut(call:aE->List J->aa->ao)(s:List UInt8)(n:Nat)(b:Bool)(h g:aa)
  (H1:br (.ofNat (List.length s)) (.ofNat 1)=false)
  (ay:br (.ofNat 24) (.ofNat (List.length s))=false)
  (aN:g1 0 s=some (.int .u8 (.ofNat n)))
  (aO:call (.fn 114) [.int .u8 (.ofNat n)] h=ao.ret (.bool b) g)
  (bm:(!b)=false):
  aw Tryz.prog Tryz.f95 none call [1,0] (af.mk [(0,.str s)] [] .none h) (.nrm)
   (af.mk [(0,.str s)] [] .none g):=
 aX [0,2] (hs:=[.b false,.b false,.b false,.b false,.b false,.b false,.v (.int .u8 (.ofNat n)),.b false,.c (.bool b) g,.b false,.b false,.b false]) (by kernel_rfl)<| .cons H1<| .cons H1<| .cons H1<| .cons H1<| .cons ay<| .cons ay<| .cons aN<| .cons ay<| .cons aO<| .cons ay<| .cons ay<| .cons bm<| .nil
theorem Li(call:aE->List J->aa->ao)(s:List UInt8)(h:aa):
  aw Tryz.prog Tryz.f95 none call [1,1,0,0] (af.mk [(0,.str s)] [] .none h) (.nrm)
   (af.mk [(0,.str s),(3,.int .i64 (.ofNat 0))] [] .none h):=
 aX [0,3] (hs:=[]) (by kernel_rfl)<| .nil
theorem Uu(call:aE->List J->aa->ao)(h:aa):
  aw Tryz.prog Tryz.f95 none call [1,1,1] (af.mk [] [] .none h) (.ret)
   (af.mk [(2,.bool true)] [] .none h):=
 aX [2] (hs:=[]) (by kernel_rfl)<| .nil
theorem Uv(call:aE->List J->aa->ao)(s:List UInt8)(h:aa)
  (H1:br (.ofNat (List.length s)) (.ofNat 1)=true):
  aw Tryz.prog Tryz.f113 none call [1,0] (af.mk [(0,.str s)] [] .none h) (.ret)
   (af.mk [(0,.str s),(2,.bool false)] [] .none h):=
 aX [0,2] (hs:=[.b true,.b true,.b true,.b true,.b true]) (by kernel_rfl)<| .cons H1<| .cons H1<| .cons H1<| .cons H1<| .cons (by kernel_rfl:true=true)<| .nil
theorem Uw(call:aE->List J->aa->ao)(s:List UInt8)(h:aa)
  (H1:br (.ofNat (List.length s)) (.ofNat 1)=false)
  (ay:br (.ofNat 161) (.ofNat (List.length s))=true):
  aw Tryz.prog Tryz.f113 none call [1,0] (af.mk [(0,.str s)] [] .none h) (.ret)
   (af.mk [(0,.str s),(2,.bool false)] [] .none h):=
 aX [0,2] (hs:=[.b false,.b false,.b false,.b false,.b true]) (by kernel_rfl)<| .cons H1<| .cons H1<| .cons H1<| .cons H1<| .cons ay<| .nil
theorem Ux(call:aE->List J->aa->ao)(s:List UInt8)(h:aa)
  (H1:br (.ofNat (List.length s)) (.ofNat 1)=false)
  (ay:br (.ofNat 161) (.ofNat (List.length s))=false):
  aw Tryz.prog Tryz.f113 none call [1,0] (af.mk [(0,.str s)] [] .none h) (.nrm)
   (af.mk [(0,.str s)] [] .none h):=
 aX [0,2] (hs:=[.b false,.b false,.b false,.b false,.b false]) (by kernel_rfl)<| .cons H1<| .cons H1<| .cons H1<| .cons H1<| .cons ay<| .nil
theorem Lj(call:aE->List J->aa->ao)(s:List UInt8)(h:aa):
  aw Tryz.prog Tryz.f113 none call [1,1,0,0] (af.mk [(0,.str s)] [] .none h) (.nrm)
   (af.mk [(0,.str s),(3,.int .i64 (.ofNat 0))] [] .none h):=
 aX [0,3] (hs:=[]) (by kernel_rfl)<| .nil
theorem Uy(call:aE->List J->aa->ao)(s:List UInt8)(i n j:Nat)(b:Bool)(h g:aa)
  (H1:br (.ofNat i) (.ofNat (List.length s))=true)
  (ay:g1 i s=some (.int .u8 (.ofNat n)))
  (aN:call (.fn 114) [.int .u8 (.ofNat n)] h=ao.ret (.bool b) g)
  (aO:(!b)=true)
  (bm:br (.ofNat n) (.ofNat 48)=true)
  (bT:(!ba (.ofNat n) (.ofNat 45))=true)
  (cA:(!ba (.ofNat n) (.ofNat 47))=true)
  (ei:(!ba (.ofNat n) (.ofNat 46))=true):
  aw Tryz.prog Tryz.f113 none call [1,1,0,1,0,0] (af.mk [(0,.str s),(3,.int .i64 (.ofNat i))] [] .none h) (.ret)
   (af.mk [(0,.str s),(2,.bool false),(3,.int .i64 (.ofNat i))] [] .none g):=
 aX [0,2,3] (hs:=[.b true,.v (.int .u8 (.ofNat n)),.c (.bool b) g,.b true,.b true,.b true,.b true,.b true,.b true,.b true,.b true,.b true,.b true,.b true,.b true,.b true,.b true,.b true,.b true,.b true,.b true]) (by kernel_rfl)<| .cons H1<| .cons ay<| .cons aN<| .cons aO<| .cons aO<| .cons aO<| .cons bm<| .cons bm<| .cons aO<| .cons bm<| .cons aO<| .cons (by kernel_rfl:true=true)<| .cons (by kernel_rfl:true=true)<| .cons (by kernel_rfl:true=true)<| .cons bT<| .cons bT<| .cons bT<| .cons cA<| .cons cA<| .cons cA<| .cons ei<| .nil
theorem Uz(call:aE->List J->aa->ao)(s:List UInt8)(i n j:Nat)(b:Bool)(h g:aa)
  (H1:br (.ofNat i) (.ofNat (List.length s))=true)
  (ay:g1 i s=some (.int .u8 (.ofNat n)))
  (aN:call (.fn 114) [.int .u8 (.ofNat n)] h=ao.ret (.bool b) g)
  (aO:(!b)=true)
  (bm:br (.ofNat n) (.ofNat 48)=true)
  (bT:(!ba (.ofNat n) (.ofNat 45))=true)
  (cA:(!ba (.ofNat n) (.ofNat 47))=true)
  (ei:(!ba (.ofNat n) (.ofNat 46))=false)
  (gF:arith .add .i64 (.ofNat i) (.ofNat 1)=some (.int .i64 (.ofNat j))):
  aw Tryz.prog Tryz.f113 none call [1,1,0,1,0,0] (af.mk [(0,.str s),(3,.int .i64 (.ofNat i))] [] .none h) (.nrm)
   (af.mk [(0,.str s),(3,.int .i64 (.ofNat j))] [] .none g):=
 aX [0,2,3] (hs:=[.b true,.v (.int .u8 (.ofNat n)),.c (.bool b) g,.b true,.b true,.b true,.b true,.b true,.b true,.b true,.b true,.b true,.b true,.b true,.b true,.b true,.b true,.b true,.b true,.b true,.b false,.v (.int .i64 (.ofNat j))]) (by kernel_rfl)<| .cons H1<| .cons ay<| .cons aN<| .cons aO<| .cons aO<| .cons aO<| .cons bm<| .cons bm<| .cons aO<| .cons bm<| .cons aO<| .cons (by kernel_rfl:true=true)<| .cons (by kernel_rfl:true=true)<| .cons (by kernel_rfl:true=true)<| .cons bT<| .cons bT<| .cons bT<| .cons cA<| .cons cA<| .cons cA<| .cons ei<| .cons gF<| .nil
theorem UA(call:aE->List J->aa->ao)(s:List UInt8)(i n j:Nat)(b:Bool)(h g:aa)
  (H1:br (.ofNat i) (.ofNat (List.length s))=true)
  (ay:g1 i s=some (.int .u8 (.ofNat n)))
  (aN:call (.fn 114) [.int .u8 (.ofNat n)] h=ao.ret (.bool b) g)
  (aO:(!b)=true)
  (bm:br (.ofNat n) (.ofNat 48)=true)
  (bT:(!ba (.ofNat n) (.ofNat 45))=true)
  (cA:(!ba (.ofNat n) (.ofNat 47))=false)
  (ei:arith .add .i64 (.ofNat i) (.ofNat 1)=some (.int .i64 (.ofNat j))):
  aw Tryz.prog Tryz.f113 none call [1,1,0,1,0,0] (af.mk [(0,.str s),(3,.int .i64 (.ofNat i))] [] .none h) (.nrm)
   (af.mk [(0,.str s),(3,.int .i64 (.ofNat j))] [] .none g):=
 aX [0,2,3] (hs:=[.b true,.v (.int .u8 (.ofNat n)),.c (.bool b) g,.b true,.b true,.b true,.b true,.b true,.b true,.b true,.b true,.b true,.b true,.b true,.b true,.b true,.b true,.b false,.b false,.b false,.b false,.v (.int .i64 (.ofNat j))]) (by kernel_rfl)<| .cons H1<| .cons ay<| .cons aN<| .cons aO<| .cons aO<| .cons aO<| .cons bm<| .cons bm<| .cons aO<| .cons bm<| .cons aO<| .cons (by kernel_rfl:true=true)<| .cons (by kernel_rfl:true=true)<| .cons (by kernel_rfl:true=true)<| .cons bT<| .cons bT<| .cons bT<| .cons cA<| .cons cA<| .cons cA<| .cons (by kernel_rfl:false=false)<| .cons ei<| .nil
theorem UB(call:aE->List J->aa->ao)(s:List UInt8)(i n j:Nat)(b:Bool)(h g:aa)
  (H1:br (.ofNat i) (.ofNat (List.length s))=true)
  (ay:g1 i s=some (.int .u8 (.ofNat n)))
  (aN:call (.fn 114) [.int .u8 (.ofNat n)] h=ao.ret (.bool b) g)
  (aO:(!b)=true)
  (bm:br (.ofNat n) (.ofNat 48)=true)
  (bT:(!ba (.ofNat n) (.ofNat 45))=false)
  (cA:arith .add .i64 (.ofNat i) (.ofNat 1)=some (.int .i64 (.ofNat j))):
  aw Tryz.prog Tryz.f113 none call [1,1,0,1,0,0] (af.mk [(0,.str s),(3,.int .i64 (.ofNat i))] [] .none h) (.nrm)
   (af.mk [(0,.str s),(3,.int .i64 (.ofNat j))] [] .none g):=
 aX [0,2,3] (hs:=[.b true,.v (.int .u8 (.ofNat n)),.c (.bool b) g,.b true,.b true,.b true,.b true,.b true,.b true,.b true,.b true,.b true,.b true,.b true,.b false,.b false,.b false,.b false,.b false,.b false,.b false,.v (.int .i64 (.ofNat j))]) (by kernel_rfl)<| .cons H1<| .cons ay<| .cons aN<| .cons aO<| .cons aO<| .cons aO<| .cons bm<| .cons bm<| .cons aO<| .cons bm<| .cons aO<| .cons (by kernel_rfl:true=true)<| .cons (by kernel_rfl:true=true)<| .cons (by kernel_rfl:true=true)<| .cons bT<| .cons bT<| .cons bT<| .cons (by kernel_rfl:false=false)<| .cons (by kernel_rfl:false=false)<| .cons (by kernel_rfl:false=false)<| .cons (by kernel_rfl:false=false)<| .cons cA<| .nil
theorem UC(call:aE->List J->aa->ao)(s:List UInt8)(i n j:Nat)(b:Bool)(h g:aa)
  (H1:br (.ofNat i) (.ofNat (List.length s))=true)
  (ay:g1 i s=some (.int .u8 (.ofNat n)))
  (aN:call (.fn 114) [.int .u8 (.ofNat n)] h=ao.ret (.bool b) g)
  (aO:(!b)=true)
  (bm:br (.ofNat n) (.ofNat 48)=false)
  (bT:br (.ofNat 57) (.ofNat n)=true)
  (cA:(!ba (.ofNat n) (.ofNat 45))=true)
  (ei:(!ba (.ofNat n) (.ofNat 47))=true)
  (gF:(!ba (.ofNat n) (.ofNat 46))=true):
  aw Tryz.prog Tryz.f113 none call [1,1,0,1,0,0] (af.mk [(0,.str s),(3,.int .i64 (.ofNat i))] [] .none h) (.ret)
   (af.mk [(0,.str s),(2,.bool false),(3,.int .i64 (.ofNat i))] [] .none g):=
 aX [0,2,3] (hs:=[.b true,.v (.int .u8 (.ofNat n)),.c (.bool b) g,.b true,.b true,.b true,.b false,.b false,.b true,.b false,.b true,.b true,.b true,.b true,.b true,.b true,.b true,.b true,.b true,.b true,.b true]) (by kernel_rfl)<| .cons H1<| .cons ay<| .cons aN<| .cons aO<| .cons aO<| .cons aO<| .cons bm<| .cons bm<| .cons aO<| .cons bm<| .cons aO<| .cons bT<| .cons bT<| .cons bT<| .cons cA<| .cons cA<| .cons cA<| .cons ei<| .cons ei<| .cons ei<| .cons gF<| .nil
theorem UD(call:aE->List J->aa->ao)(s:List UInt8)(i n j:Nat)(b:Bool)(h g:aa)
  (H1:br (.ofNat i) (.ofNat (List.length s))=true)
  (ay:g1 i s=some (.int .u8 (.ofNat n)))
  (aN:call (.fn 114) [.int .u8 (.ofNat n)] h=ao.ret (.bool b) g)
  (aO:(!b)=true)
  (bm:br (.ofNat n) (.ofNat 48)=false)
  (bT:br (.ofNat 57) (.ofNat n)=false)
  (cA:arith .add .i64 (.ofNat i) (.ofNat 1)=some (.int .i64 (.ofNat j))):
  aw Tryz.prog Tryz.f113 none call [1,1,0,1,0,0] (af.mk [(0,.str s),(3,.int .i64 (.ofNat i))] [] .none h) (.nrm)
   (af.mk [(0,.str s),(3,.int .i64 (.ofNat j))] [] .none g):=
 aX [0,2,3] (hs:=[.b true,.v (.int .u8 (.ofNat n)),.c (.bool b) g,.b true,.b true,.b true,.b false,.b false,.b true,.b false,.b true,.b false,.b false,.b false,.b false,.b false,.b false,.b false,.b false,.b false,.b false,.v (.int .i64 (.ofNat j))]) (by kernel_rfl)<| .cons H1<| .cons ay<| .cons aN<| .cons aO<| .cons aO<| .cons aO<| .cons bm<| .cons bm<| .cons aO<| .cons bm<| .cons aO<| .cons bT<| .cons bT<| .cons bT<| .cons (by kernel_rfl:false=false)<| .cons (by kernel_rfl:false=false)<| .cons (by kernel_rfl:false=false)<| .cons (by kernel_rfl:false=false)<| .cons (by kernel_rfl:false=false)<| .cons (by kernel_rfl:false=false)<| .cons (by kernel_rfl:false=false)<| .cons cA<| .nil
theorem UE(call:aE->List J->aa->ao)(s:List UInt8)(i n j:Nat)(b:Bool)(h g:aa)
  (H1:br (.ofNat i) (.ofNat (List.length s))=true)
  (ay:g1 i s=some (.int .u8 (.ofNat n)))
  (aN:call (.fn 114) [.int .u8 (.ofNat n)] h=ao.ret (.bool b) g)
  (aO:(!b)=false)
  (bm:arith .add .i64 (.ofNat i) (.ofNat 1)=some (.int .i64 (.ofNat j))):
  aw Tryz.prog Tryz.f113 none call [1,1,0,1,0,0] (af.mk [(0,.str s),(3,.int .i64 (.ofNat i))] [] .none h) (.nrm)
   (af.mk [(0,.str s),(3,.int .i64 (.ofNat j))] [] .none g):=
 aX [0,2,3] (hs:=[.b true,.v (.int .u8 (.ofNat n)),.c (.bool b) g,.b false,.b false,.b false,.b false,.b false,.b false,.b false,.b false,.b false,.b false,.b false,.b false,.b false,.b false,.b false,.v (.int .i64 (.ofNat j))]) (by kernel_rfl)<| .cons H1<| .cons ay<| .cons aN<| .cons aO<| .cons aO<| .cons aO<| .cons aO<| .cons aO<| .cons (by kernel_rfl:false=false)<| .cons (by kernel_rfl:false=false)<| .cons (by kernel_rfl:false=false)<| .cons (by kernel_rfl:false=false)<| .cons (by kernel_rfl:false=false)<| .cons (by kernel_rfl:false=false)<| .cons (by kernel_rfl:false=false)<| .cons (by kernel_rfl:false=false)<| .cons (by kernel_rfl:false=false)<| .cons (by kernel_rfl:false=false)<| .cons bm<| .nil
theorem UF(call:aE->List J->aa->ao)(s:List UInt8)(i n j:Nat)(b:Bool)(h g:aa)
  (H1:br (.ofNat i) (.ofNat (List.length s))=false):
  aw Tryz.prog Tryz.f113 none call [1,1,0,1,0,0] (af.mk [(0,.str s),(3,.int .i64 (.ofNat i))] [] .none h) (.exit 0)
   (af.mk [(0,.str s),(3,.int .i64 (.ofNat i))] [] .none h):=
 aX [0,2,3] (hs:=[.b false]) (by kernel_rfl)<| .cons H1<| .nil
theorem UG(call:aE->List J->aa->ao)(h:aa):
  aw Tryz.prog Tryz.f113 none call [1,1,1] (af.mk [] [] .none h) (.ret)
   (af.mk [(2,.bool true)] [] .none h):=
 aX [2] (hs:=[]) (by kernel_rfl)<| .nil
theorem UH(call:aE->List J->aa->ao)(s:List UInt8)(i n j:Nat)(b:Bool)(h g:aa)
  (H1:br (.ofNat i) (.ofNat (List.length s))=true)
  (ay:g1 i s=some (.int .u8 (.ofNat n)))
  (aN:call (.fn 114) [.int .u8 (.ofNat n)] h=ao.ret (.bool b) g)
  (aO:(!b)=true)
  (bm:br (.ofNat n) (.ofNat 48)=true):
  aw Tryz.prog Tryz.f95 none call [1,1,0,1,0,0] (af.mk [(0,.str s),(3,.int .i64 (.ofNat i))] [] .none h) (.ret)
   (af.mk [(0,.str s),(2,.bool false),(3,.int .i64 (.ofNat i))] [] .none g):=
 aX [0,2,3] (hs:=[.b true,.v (.int .u8 (.ofNat n)),.c (.bool b) g,.b true,.b true,.b true,.v (.int .u8 (.ofNat n)),.b true,.b true,.b true,.b true,.b true,.b true,.b true,.b true,.b true,.b true]) (by kernel_rfl)<| .cons H1<| .cons ay<| .cons aN<| .cons aO<| .cons aO<| .cons aO<| .cons ay<| .cons aO<| .cons aO<| .cons bm<| .cons bm<| .cons bm<| .cons bm<| .cons aO<| .cons bm<| .cons aO<| .cons (by kernel_rfl:true=true)<| .nil
theorem UI(call:aE->List J->aa->ao)(s:List UInt8)(i n j:Nat)(b:Bool)(h g:aa)
  (H1:br (.ofNat i) (.ofNat (List.length s))=true)
  (ay:g1 i s=some (.int .u8 (.ofNat n)))
  (aN:call (.fn 114) [.int .u8 (.ofNat n)] h=ao.ret (.bool b) g)
  (aO:(!b)=true)
  (bm:br (.ofNat n) (.ofNat 48)=false)
  (bT:br (.ofNat 57) (.ofNat n)=true):
  aw Tryz.prog Tryz.f95 none call [1,1,0,1,0,0] (af.mk [(0,.str s),(3,.int .i64 (.ofNat i))] [] .none h) (.ret)
   (af.mk [(0,.str s),(2,.bool false),(3,.int .i64 (.ofNat i))] [] .none g):=
 aX [0,2,3] (hs:=[.b true,.v (.int .u8 (.ofNat n)),.c (.bool b) g,.b true,.b true,.b true,.v (.int .u8 (.ofNat n)),.b true,.b true,.b false,.b false,.b false,.v (.int .u8 (.ofNat n)),.b false,.b true,.b false,.b true,.b true]) (by kernel_rfl)<| .cons H1<| .cons ay<| .cons aN<| .cons aO<| .cons aO<| .cons aO<| .cons ay<| .cons aO<| .cons aO<| .cons bm<| .cons bm<| .cons bm<| .cons ay<| .cons bm<| .cons aO<| .cons bm<| .cons aO<| .cons bT<| .nil
theorem UJ(call:aE->List J->aa->ao)(s:List UInt8)(i n j:Nat)(b:Bool)(h g:aa)
  (H1:br (.ofNat i) (.ofNat (List.length s))=true)
  (ay:g1 i s=some (.int .u8 (.ofNat n)))
  (aN:call (.fn 114) [.int .u8 (.ofNat n)] h=ao.ret (.bool b) g)
  (aO:(!b)=true)
  (bm:br (.ofNat n) (.ofNat 48)=false)
  (bT:br (.ofNat 57) (.ofNat n)=false)
  (cA:arith .add .i64 (.ofNat i) (.ofNat 1)=some (.int .i64 (.ofNat j))):
  aw Tryz.prog Tryz.f95 none call [1,1,0,1,0,0] (af.mk [(0,.str s),(3,.int .i64 (.ofNat i))] [] .none h) (.nrm)
   (af.mk [(0,.str s),(3,.int .i64 (.ofNat j))] [] .none g):=
 aX [0,2,3] (hs:=[.b true,.v (.int .u8 (.ofNat n)),.c (.bool b) g,.b true,.b true,.b true,.v (.int .u8 (.ofNat n)),.b true,.b true,.b false,.b false,.b false,.v (.int .u8 (.ofNat n)),.b false,.b true,.b false,.b true,.b false,.v (.int .i64 (.ofNat j))]) (by kernel_rfl)<| .cons H1<| .cons ay<| .cons aN<| .cons aO<| .cons aO<| .cons aO<| .cons ay<| .cons aO<| .cons aO<| .cons bm<| .cons bm<| .cons bm<| .cons ay<| .cons bm<| .cons aO<| .cons bm<| .cons aO<| .cons bT<| .cons cA<| .nil
theorem UK(call:aE->List J->aa->ao)(s:List UInt8)(i n j:Nat)(b:Bool)(h g:aa)
  (H1:br (.ofNat i) (.ofNat (List.length s))=true)
  (ay:g1 i s=some (.int .u8 (.ofNat n)))
  (aN:call (.fn 114) [.int .u8 (.ofNat n)] h=ao.ret (.bool b) g)
  (aO:(!b)=false)
  (bm:arith .add .i64 (.ofNat i) (.ofNat 1)=some (.int .i64 (.ofNat j))):
  aw Tryz.prog Tryz.f95 none call [1,1,0,1,0,0] (af.mk [(0,.str s),(3,.int .i64 (.ofNat i))] [] .none h) (.nrm)
   (af.mk [(0,.str s),(3,.int .i64 (.ofNat j))] [] .none g):=
 aX [0,2,3] (hs:=[.b true,.v (.int .u8 (.ofNat n)),.c (.bool b) g,.b false,.b false,.b false,.b false,.b false,.b false,.b false,.b false,.v (.int .i64 (.ofNat j))]) (by kernel_rfl)<| .cons H1<| .cons ay<| .cons aN<| .cons aO<| .cons aO<| .cons aO<| .cons aO<| .cons aO<| .cons aO<| .cons aO<| .cons (by kernel_rfl:false=false)<| .cons bm<| .nil
theorem UL(call:aE->List J->aa->ao)(s:List UInt8)(i n j:Nat)(b:Bool)(h g:aa)
  (H1:br (.ofNat i) (.ofNat (List.length s))=false):
  aw Tryz.prog Tryz.f95 none call [1,1,0,1,0,0] (af.mk [(0,.str s),(3,.int .i64 (.ofNat i))] [] .none h) (.exit 0)
   (af.mk [(0,.str s),(3,.int .i64 (.ofNat i))] [] .none h):=
 aX [0,2,3] (hs:=[.b false]) (by kernel_rfl)<| .cons H1<| .nil
theorem Lk(call:aE->List J->aa->ao)(s t:List UInt8)(h:aa):
  aw Tryz.prog Tryz.f96 none call [0] (af.mk [(0,.str s),(1,.str t)] [] .none h) (.nrm)
   (af.mk [(0,.str s),(1,.str t)] [] .none h):=
 aX [0,1] (hs:=[]) (by kernel_rfl)<| .nil
theorem Ll(call:aE->List J->aa->ao)(s t:List UInt8)(h:aa):
  aw Tryz.prog Tryz.f96 none call [1,0,0] (af.mk [(0,.str s),(1,.str t)] [] .none h) (.nrm)
   (af.mk [(0,.str s),(1,.str t),(5,.int .i64 (.ofNat 0))] [] .none h):=
 aX [0,1,5] (hs:=[]) (by kernel_rfl)<| .nil
theorem UM(call:aE->List J->aa->ao)(s t:List UInt8)(i n k j:Nat)(h:aa)
  (H1:br (.ofNat i) (.ofNat (List.length s))=true)
  (ay:br (.ofNat i) (.ofNat (List.length t))=true)
  (aN:g1 i s=some (.int .u8 (.ofNat n)))
  (aO:g1 i t=some (.int .u8 (.ofNat k)))
  (bm:(!ba (.ofNat n) (.ofNat k))=true):
  aw Tryz.prog Tryz.f96 none call [1,0,1,0,0] (af.mk [(0,.str s),(1,.str t),(5,.int .i64 (.ofNat i))] [] .none h) (.ret)
   (af.mk [(0,.str s),(1,.str t),(4,.bool (br (.ofNat n) (.ofNat k))),(5,.int .i64 (.ofNat i))] [] .none (aa.room (aa.room h 7) 8)):=
 aX [0,1,4,5] (hs:=[.b true,.b true,.b true,.b true,.b true,.b true,.v (.int .u8 (.ofNat n)),.v (.int .u8 (.ofNat k)),.b true,.v (.int .u8 (.ofNat n)),.v (.int .u8 (.ofNat k))]) (by kernel_rfl)<| .cons H1<| .cons H1<| .cons H1<| .cons H1<| .cons H1<| .cons ay<| .cons aN<| .cons aO<| .cons (by kernel_rfl:J.sound (J.str s)=true)<| .cons (by kernel_rfl:J.str s=J.str s)<| .cons (by kernel_rfl:J.sound (J.int IntKind.i64 (Int.ofNat i))=true)<| .cons (by kernel_rfl:J.int IntKind.i64 (Int.ofNat i)=J.int IntKind.i64 (Int.ofNat i))<| .cons (by kernel_rfl:J.sound (J.int IntKind.u8 (Int.ofNat n))=true)<| .cons aN<| .cons (by kernel_rfl:J.sound (J.str t)=true)<| .cons (by kernel_rfl:J.str t=J.str t)<| .cons (by kernel_rfl:J.sound (J.int IntKind.i64 (Int.ofNat i))=true)<| .cons (by kernel_rfl:J.int IntKind.i64 (Int.ofNat i)=J.int IntKind.i64 (Int.ofNat i))<| .cons (by kernel_rfl:J.sound (J.int IntKind.u8 (Int.ofNat k))=true)<| .cons aO<| .cons (by kernel_rfl:J.sound (J.bool !ba (Int.ofNat n) (Int.ofNat k))=true)<| .cons (by kernel_rfl:(J.bool !ba (Int.ofNat n) (Int.ofNat k))=J.bool !ba (Int.ofNat n) (Int.ofNat k))<| .cons bm<| .cons aN<| .cons aO<| .cons (by kernel_rfl:J.sound (J.str s)=true)<| .cons (by kernel_rfl:J.str s=J.str s)<| .cons (by kernel_rfl:J.sound (J.int IntKind.i64 (Int.ofNat i))=true)<| .cons (by kernel_rfl:J.int IntKind.i64 (Int.ofNat i)=J.int IntKind.i64 (Int.ofNat i))<| .cons (by kernel_rfl:J.sound (J.int IntKind.u8 (Int.ofNat n))=true)<| .cons aN<| .cons (by kernel_rfl:J.sound (J.str t)=true)<| .cons (by kernel_rfl:J.str t=J.str t)<| .cons (by kernel_rfl:J.sound (J.int IntKind.i64 (Int.ofNat i))=true)<| .cons (by kernel_rfl:J.int IntKind.i64 (Int.ofNat i)=J.int IntKind.i64 (Int.ofNat i))<| .cons (by kernel_rfl:J.sound (J.int IntKind.u8 (Int.ofNat k))=true)<| .cons aO<| .cons (by kernel_rfl:J.sound (J.bool (br (Int.ofNat n) (Int.ofNat k)))=true)<| .cons (by kernel_rfl:J.bool (br (Int.ofNat n) (Int.ofNat k))=J.bool (br (Int.ofNat n) (Int.ofNat k)))<| .cons (by kernel_rfl:J.sound (J.bool (br (Int.ofNat n) (Int.ofNat k)))=true)<| .cons (by kernel_rfl:J.bool (br (Int.ofNat n) (Int.ofNat k))=J.bool (br (Int.ofNat n) (Int.ofNat k)))<| .nil
theorem UN(call:aE->List J->aa->ao)(s t:List UInt8)(i n k j:Nat)(h:aa)
  (H1:br (.ofNat i) (.ofNat (List.length s))=true)
  (ay:br (.ofNat i) (.ofNat (List.length t))=true)
  (aN:g1 i s=some (.int .u8 (.ofNat n)))
  (aO:g1 i t=some (.int .u8 (.ofNat k)))
  (bm:(!ba (.ofNat n) (.ofNat k))=false)
  (bT:arith .add .i64 (.ofNat i) (.ofNat 1)=some (.int .i64 (.ofNat j))):
  aw Tryz.prog Tryz.f96 none call [1,0,1,0,0] (af.mk [(0,.str s),(1,.str t),(5,.int .i64 (.ofNat i))] [] .none h) (.nrm)
   (af.mk [(0,.str s),(1,.str t),(5,.int .i64 (.ofNat j))] [] .none (aa.room h 7)):=
 aX [0,1,4,5] (hs:=[.b true,.b true,.b true,.b true,.b true,.b true,.v (.int .u8 (.ofNat n)),.v (.int .u8 (.ofNat k)),.b false,.v (.int .i64 (.ofNat j))]) (by kernel_rfl)<| .cons H1<| .cons H1<| .cons H1<| .cons H1<| .cons H1<| .cons ay<| .cons aN<| .cons aO<| .cons (by kernel_rfl:J.sound (J.str s)=true)<| .cons (by kernel_rfl:J.str s=J.str s)<| .cons (by kernel_rfl:J.sound (J.int IntKind.i64 (Int.ofNat i))=true)<| .cons (by kernel_rfl:J.int IntKind.i64 (Int.ofNat i)=J.int IntKind.i64 (Int.ofNat i))<| .cons (by kernel_rfl:J.sound (J.int IntKind.u8 (Int.ofNat n))=true)<| .cons aN<| .cons (by kernel_rfl:J.sound (J.str t)=true)<| .cons (by kernel_rfl:J.str t=J.str t)<| .cons (by kernel_rfl:J.sound (J.int IntKind.i64 (Int.ofNat i))=true)<| .cons (by kernel_rfl:J.int IntKind.i64 (Int.ofNat i)=J.int IntKind.i64 (Int.ofNat i))<| .cons (by kernel_rfl:J.sound (J.int IntKind.u8 (Int.ofNat k))=true)<| .cons aO<| .cons (by kernel_rfl:J.sound (J.bool !ba (Int.ofNat n) (Int.ofNat k))=true)<| .cons (by kernel_rfl:(J.bool !ba (Int.ofNat n) (Int.ofNat k))=J.bool !ba (Int.ofNat n) (Int.ofNat k))<| .cons bm<| .cons bT<| .nil
theorem UO(call:aE->List J->aa->ao)(s t:List UInt8)(i n k j:Nat)(h:aa)
  (H1:br (.ofNat i) (.ofNat (List.length s))=true)
  (ay:br (.ofNat i) (.ofNat (List.length t))=false):
  aw Tryz.prog Tryz.f96 none call [1,0,1,0,0] (af.mk [(0,.str s),(1,.str t),(5,.int .i64 (.ofNat i))] [] .none h) (.exit 0)
   (af.mk [(0,.str s),(1,.str t),(5,.int .i64 (.ofNat i))] [] .none h):=
 aX [0,1,4,5] (hs:=[.b true,.b true,.b true,.b true,.b true,.b false]) (by kernel_rfl)<| .cons H1<| .cons H1<| .cons H1<| .cons H1<| .cons H1<| .cons ay<| .nil
theorem UP(call:aE->List J->aa->ao)(s t:List UInt8)(i n k j:Nat)(h:aa)
  (H1:br (.ofNat i) (.ofNat (List.length s))=false):
  aw Tryz.prog Tryz.f96 none call [1,0,1,0,0] (af.mk [(0,.str s),(1,.str t),(5,.int .i64 (.ofNat i))] [] .none h) (.exit 0)
   (af.mk [(0,.str s),(1,.str t),(5,.int .i64 (.ofNat i))] [] .none h):=
 aX [0,1,4,5] (hs:=[.b false,.b false,.b false,.b false,.b false,.b false]) (by kernel_rfl)<| .cons H1<| .cons H1<| .cons H1<| .cons H1<| .cons H1<| .cons (by kernel_rfl:false=false)<| .nil
theorem UQ(call:aE->List J->aa->ao)(s t:List UInt8)(h:aa):
  aw Tryz.prog Tryz.f96 none call [1,1] (af.mk [(0,.str s),(1,.str t)] [] .none h) (.ret)
   (af.mk [(4,.bool (br (.ofNat (List.length s)) (.ofNat (List.length t))))] [] .none h):=
 aX [4] (hs:=[]) (by kernel_rfl)<| .nil
theorem UR(call:aE->List J->aa->ao)(s:List UInt8)(h:aa):
  aw Tryz.prog Tryz.f95 none call [0] (af.mk [(0,.str s)] [] .none h) (.nrm)
   (af.mk [(0,.str s)] [] .none h):=
 aX [0] (hs:=[]) (by kernel_rfl)<| .nil
theorem US(call:aE->List J->aa->ao)(s:List UInt8)(h:aa):
  aw Tryz.prog Tryz.f113 none call [0] (af.mk [(0,.str s)] [] .none h) (.nrm)
   (af.mk [(0,.str s)] [] .none h):=
 aX [0] (hs:=[]) (by kernel_rfl)<| .nil
theorem Lm(a b:Nat):dq (Int.ofNat a) (Int.ofNat b)=decide (a<=b):=by
 by_cases h:a<=b
 · rw[iE h];simp[h]
 · rw[iF h];simp[h]
theorem Ln(a b:Nat):br (Int.ofNat a) (Int.ofNat b)=decide (a<b):=by
 by_cases h:a<b
 · rw[du h];simp[h]
 · rw[dY h];simp[h]
theorem rb(a b:Nat):ba (Int.ofNat a) (Int.ofNat b)=decide (a=b):=by
 by_cases h:a=b
 · rw[nv h];simp[h]
 · rw[jX h];simp[h]
theorem FC(m n:Nat)(h:aa):Y (m+1) (.fn 114) [.int .u8 (Int.ofNat n)] h=.ret (.bool (h5 n)) h:=by
 have fin:∀b,aw Tryz.prog Tryz.f114 none (Y m) [] ⟨[(0,.int .u8 (Int.ofNat n))],[],.none,h⟩ .ret ⟨[(2,.bool b)],[],.none,h⟩->b=h5 n->Y (m+1) (.fn 114) [.int .u8 (Int.ofNat n)] h=.ret (.bool (h5 n)) h:=λb al ag=>by
  rw[<-ag]
  exact dn (intr:=cj) (n:=m) (args:=[.int .u8 (Int.ofNat n)]) Tryz.func114 (by kernel_rfl) rfl (by kernel_rfl) al (.inl rfl) (by kernel_rfl)
 by_cases ab:97<=n
 · by_cases ae:n<=122
   · exact fin true (Ul (Y m) n h (iE ab) (iE ae)) (by simp[h5,ab,ae])
   · exact fin _ (Um (Y m) n h (iE ab) (iF ae) (iE (by omega)) (iF (by omega))) (by rw[rb];simp[h5,ae];omega)
 · by_cases aB:65<=n
   · by_cases aP:n<=90
     · exact fin true (Un (Y m) n h (iF ab) (iE aB) (iE aP)) (by simp[h5,aB,aP])
     · exact fin _ (Uo (Y m) n h (iF ab) (iE aB) (iF aP)) (by rw[rb];simp[h5,ab,aP])
   · exact fin _ (Up (Y m) n h (iF ab) (iF aB)) (by rw[rb];simp[h5,ab,aB])
theorem Lo(m:Nat)(s:bc)(h:aa)(hs:s.length<=90000):∀(k i:Nat),s.length-i=k->i<=s.length->
  ∃e Γ,ev Tryz.prog Tryz.f95 none (Y (m+1)) [1,1,0,1,0] (k+1) ⟨[(0,.str s),(3,.int .i64 (Int.ofNat i))],[],.none,h⟩ e ⟨Γ,[],.none,h⟩/\
   ((e=.exit 0/\Γ=[]/\(s.drop i).all (λc=>h5 c.toNat||jI c.toNat)=true)\/(e=.ret/\Γ=[(2,.bool false)]/\(s.drop i).all (λc=>h5 c.toNat||jI c.toNat)=false))
 |0,i,ax,hi=>by
  obtain rfl:i=s.length:=by omega
  rw[List.drop_of_length_le (Nat.le_refl _)]
  exact⟨_,[],.exit (cD.post (UL (Y (m+1)) s s.length 0 0 false h h (dY (by omega))) trivial) (by simp),.inl ⟨rfl,rfl,rfl⟩⟩
 |k+1,i,ax,hi=>by
  have ab:i<s.length:=by omega
  rw[List.drop_eq_getElem_cons ab,List.all_cons]
  have c1:=FC m s[i].toNat h
  have step:(h5 s[i].toNat||jI s[i].toNat)=true->aw Tryz.prog Tryz.f95 none (Y (m+1)) [1,1,0,1,0,0] ⟨[(0,.str s),(3,.int .i64 (Int.ofNat i))],[],.none,h⟩ .nrm ⟨[(0,.str s),(3,.int .i64 (Int.ofNat (i+1)))],[],.none,h⟩:=λag=>by
   cases aD:h5 s[i].toNat with
   |true=>
    rw[aD] at c1
    exact UK (Y (m+1)) s i _ (i+1) true h h (du ab) (nt ab) c1 rfl (ki ab (by omega))
   |false=>
    rw[aD] at c1 ag
    have aj:48<=s[i].toNat/\s[i].toNat<=57:=by simpa[jI] using ag
    exact UJ (Y (m+1)) s i _ (i+1) false h h (du ab) (nt ab) c1 rfl (dY (by omega)) (dY (by omega)) (ki ab (by omega))
  cases ai:(h5 s[i].toNat||jI s[i].toNat) with
  |true=>
   obtain⟨e,Γ,bK,bQ⟩:=Lo m s h hs k (i+1) (by omega) (by omega)
   refine⟨e,Γ,.step (step ai) bK,?_⟩
   rw[Bool.true_and];exact bQ
  |false=>
   obtain⟨aD,aj⟩:h5 s[i].toNat=false/\jI s[i].toNat=false:=by simpa using ai
   rw[aD] at c1
   refine⟨_,[(2,.bool false)],.exit (e:=.ret) ?_ (by simp),.inr ⟨rfl,rfl,by rw[Bool.false_and]⟩⟩
   by_cases Lp:s[i].toNat<48
   · exact cD.post (UH (Y (m+1)) s i _ 0 false h h (du ab) (nt ab) c1 rfl (du Lp)) ⟨rfl,trivial⟩
   · exact cD.post (UI (Y (m+1)) s i _ 0 false h h (du ab) (nt ab) c1 rfl (dY Lp) (du (by simp[jI] at aj;omega))) ⟨rfl,trivial⟩
end Go.Proofs.cT
namespace Go.Proofs.cT
open Go aC Go.Proofs dD
set_option maxRecDepth 100000
set_option maxHeartbeats 1000000
theorem UT(m:Nat)(s:bc)(h:aa):Y (m+2) (.fn 95) [.str s] h=.ret (.bool (jb s)) h:=by
 have fin:∀b,aw Tryz.prog Tryz.f95 none (Y (m+1)) [1] ⟨[(0,.str s)],[],.none,h⟩ .ret ⟨[(2,.bool b)],[],.none,h⟩->b=jb s->Y (m+2) (.fn 95) [.str s] h=.ret (.bool (jb s)) h:=λb al ag=>by
  rw[<-ag]
  exact dn (intr:=cj) (n:=m+1) (args:=[.str s]) Tryz.func95 (by kernel_rfl) rfl (by kernel_rfl) (aw.seq (p:=[]) (by kernel_rfl) (UR (Y (m+1)) s h) al) (.inl rfl) (by kernel_rfl)
 by_cases ab:s.length<1
 · exact fin false (aw.fW (p:=[1]) (by kernel_rfl) (cD.post (Uq (Y (m+1)) s 0 false h h (du ab)) ⟨rfl,trivial⟩) (by simp)) (by simp[jb];omega)
 by_cases ae:24<s.length
 · exact fin false (aw.fW (p:=[1]) (by kernel_rfl) (cD.post (Ur (Y (m+1)) s 0 false h h (dY ab) (du ae)) ⟨rfl,trivial⟩) (by simp)) (by simp[jb];omega)
 have hs:s.length<=90000:=by omega
 have az:0<s.length:=by omega
 have c1:=FC m s[0].toNat h
 have ah:Fk s=h5 s[0].toNat:=by
  cases s with
  |nil=>simp at az
  |cons c s=>rfl
 cases aD:h5 s[0].toNat with
 |false=>
  rw[aD] at c1
  exact fin false (aw.fW (p:=[1]) (by kernel_rfl) (cD.post (Us (Y (m+1)) s _ false h h (dY ab) (dY ae) (nt az) c1 rfl) ⟨rfl,trivial⟩) (by simp)) (by simp[jb,ah,aD])
 |true=>
  rw[aD] at c1
  have s1:=Ut (Y (m+1)) s _ true h h (dY ab) (dY ae) (nt az) c1 rfl
  obtain⟨e,Γ,bK,bQ⟩:=Lo m s h hs s.length 0 (by omega) (by omega)
  have dW:=ev.run (p:=[1,1,0,1,0]) (by kernel_rfl) bK (by omega)
  rw[List.drop_zero] at bQ
  have FD:1<=s.length:=az
  have FE:s.length<=24:=by omega
  rcases bQ with⟨rfl,rfl,jc⟩|⟨rfl,rfl,jc⟩
  · exact fin true (aw.seq (p:=[1]) (by kernel_rfl) s1 (aw.seq (p:=[1,1]) (by kernel_rfl) (aw.seq (p:=[1,1,0]) (by kernel_rfl) (Li (Y (m+1)) s h) (aw.block (p:=[1,1,0,1]) (id:=0) (by kernel_rfl) dW)) (Uu (Y (m+1)) h))) (by unfold jb;rw[jc,ah,aD];simp[FD,FE])
  · exact fin false (aw.seq (p:=[1]) (by kernel_rfl) s1 (aw.fW (p:=[1,1]) (by kernel_rfl) (aw.seq (p:=[1,1,0]) (by kernel_rfl) (Li (Y (m+1)) s h) (aw.o5 (p:=[1,1,0,1]) (id:=0) (by kernel_rfl) dW (by simp))) (by simp))) (by unfold jb;rw[jc];simp)
theorem UU(call:aE->List J->aa->ao)(s:bc)(i n:Nat)(h:aa)(ab:i<s.length)(hs:s.length<=90000)(ae:g1 i s=some (.int .u8 (Int.ofNat n)))(c1:call (.fn 114) [.int .u8 (Int.ofNat n)] h=.ret (.bool (h5 n)) h):
  if kK n then aw Tryz.prog Tryz.f113 none call [1,1,0,1,0,0] ⟨[(0,.str s),(3,.int .i64 (Int.ofNat i))],[],.none,h⟩ .nrm ⟨[(0,.str s),(3,.int .i64 (Int.ofNat (i+1)))],[],.none,h⟩
  else aw Tryz.prog Tryz.f113 none call [1,1,0,1,0,0] ⟨[(0,.str s),(3,.int .i64 (Int.ofNat i))],[],.none,h⟩ .ret ⟨[(2,.bool false)],[],.none,h⟩:=by
 have aV:=ki ab (m:=s.length) (by omega)
 have hi:=du ab
 have ne:∀{a b:Nat},a≠b->(!ba (Int.ofNat a) (Int.ofNat b))=true:=λe=>Ft e
 have FF:∀{a b:Nat},a=b->(!ba (Int.ofNat a) (Int.ofNat b))=false:=λe=>BR e
 cases aD:h5 n with
 |true=>
  rw[aD] at c1
  rw[if_pos (by simp[kK,aD])]
  exact UE call s i n (i+1) true h h hi ae c1 rfl aV
 |false=>
  rw[aD] at c1
  by_cases dG:n<48
  · by_cases h8:n=45
    · rw[if_pos (by simp[kK,h8])]
      exact UB call s i n (i+1) false h h hi ae c1 rfl (du dG) (FF h8) aV
    by_cases lx:n=47
    · rw[if_pos (by simp[kK,lx])]
      exact UA call s i n (i+1) false h h hi ae c1 rfl (du dG) (ne h8) (FF lx) aV
    by_cases oc:n=46
    · rw[if_pos (by simp[kK,oc])]
      exact Uz call s i n (i+1) false h h hi ae c1 rfl (du dG) (ne h8) (ne lx) (FF oc) aV
    · rw[if_neg (by simp[kK,aD,jI,h8,lx,oc];omega)]
      exact cD.post (Uy call s i n 0 false h h hi ae c1 rfl (du dG) (ne h8) (ne lx) (ne oc)) ⟨rfl,trivial⟩
  · by_cases eJ:57<n
    · rw[if_neg (by simp[kK,aD,jI];omega)]
      exact cD.post (UC call s i n 0 false h h hi ae c1 rfl (dY dG) (du eJ) (ne (by omega)) (ne (by omega)) (ne (by omega))) ⟨rfl,trivial⟩
    · rw[if_pos (by simp[kK,jI];omega)]
      exact UD call s i n (i+1) false h h hi ae c1 rfl (dY dG) (dY eJ) aV
theorem Lq(m:Nat)(s:bc)(h:aa)(hs:s.length<=90000):∀(k i:Nat),s.length-i=k->i<=s.length->
  ∃e Γ,ev Tryz.prog Tryz.f113 none (Y (m+1)) [1,1,0,1,0] (k+1) ⟨[(0,.str s),(3,.int .i64 (Int.ofNat i))],[],.none,h⟩ e ⟨Γ,[],.none,h⟩/\
   ((e=.exit 0/\Γ=[]/\(s.drop i).all (λc=>kK c.toNat)=true)\/(e=.ret/\Γ=[(2,.bool false)]/\(s.drop i).all (λc=>kK c.toNat)=false))
 |0,i,ax,hi=>by
  obtain rfl:i=s.length:=by omega
  rw[List.drop_of_length_le (Nat.le_refl _)]
  exact⟨_,[],.exit (cD.post (UF (Y (m+1)) s s.length 0 0 false h h (dY (by omega))) trivial) (by simp),.inl ⟨rfl,rfl,rfl⟩⟩
 |k+1,i,ax,hi=>by
  have ab:i<s.length:=by omega
  rw[List.drop_eq_getElem_cons ab,List.all_cons]
  have st:=UU (Y (m+1)) s i s[i].toNat h ab hs (nt ab) (FC m s[i].toNat h)
  cases ai:kK s[i].toNat with
  |true=>
   rw[if_pos ai] at st
   obtain⟨e,Γ,bK,bQ⟩:=Lq m s h hs k (i+1) (by omega) (by omega)
   refine⟨e,Γ,.step st bK,?_⟩
   rw[Bool.true_and];exact bQ
  |false=>
   rw[if_neg (by rw[ai];simp)] at st
   exact⟨_,_,.exit st (by simp),.inr ⟨rfl,rfl,by rw[Bool.false_and]⟩⟩
theorem UW(m:Nat)(s:bc)(h:aa):Y (m+2) (.fn 113) [.str s] h=.ret (.bool (mi s)) h:=by
 have fin:∀b,aw Tryz.prog Tryz.f113 none (Y (m+1)) [1] ⟨[(0,.str s)],[],.none,h⟩ .ret ⟨[(2,.bool b)],[],.none,h⟩->b=mi s->Y (m+2) (.fn 113) [.str s] h=.ret (.bool (mi s)) h:=λb al ag=>by
  rw[<-ag]
  exact dn (intr:=cj) (n:=m+1) (args:=[.str s]) Tryz.func113 (by kernel_rfl) rfl (by kernel_rfl) (aw.seq (p:=[]) (by kernel_rfl) (US (Y (m+1)) s h) al) (.inl rfl) (by kernel_rfl)
 by_cases ab:s.length<1
 · exact fin false (aw.fW (p:=[1]) (by kernel_rfl) (cD.post (Uv (Y (m+1)) s h (du ab)) ⟨rfl,trivial⟩) (by simp)) (by simp[mi];omega)
 by_cases ae:161<s.length
 · exact fin false (aw.fW (p:=[1]) (by kernel_rfl) (cD.post (Uw (Y (m+1)) s h (dY ab) (du ae)) ⟨rfl,trivial⟩) (by simp)) (by simp[mi];omega)
 have hs:s.length<=90000:=by omega
 have s1:=Ux (Y (m+1)) s h (dY ab) (dY ae)
 obtain⟨e,Γ,bK,bQ⟩:=Lq m s h hs s.length 0 (by omega) (by omega)
 have dW:=ev.run (p:=[1,1,0,1,0]) (by kernel_rfl) bK (by omega)
 rw[List.drop_zero] at bQ
 have FD:1<=s.length:=by omega
 have FE:s.length<=161:=by omega
 rcases bQ with⟨rfl,rfl,jc⟩|⟨rfl,rfl,jc⟩
 · exact fin true (aw.seq (p:=[1]) (by kernel_rfl) s1 (aw.seq (p:=[1,1]) (by kernel_rfl) (aw.seq (p:=[1,1,0]) (by kernel_rfl) (Lj (Y (m+1)) s h) (aw.block (p:=[1,1,0,1]) (id:=0) (by kernel_rfl) dW)) (UG (Y (m+1)) h))) (by unfold mi;rw[jc];simp[FD,FE])
 · exact fin false (aw.seq (p:=[1]) (by kernel_rfl) s1 (aw.fW (p:=[1,1]) (by kernel_rfl) (aw.seq (p:=[1,1,0]) (by kernel_rfl) (Lj (Y (m+1)) s h) (aw.o5 (p:=[1,1,0,1]) (id:=0) (by kernel_rfl) dW (by simp))) (by simp))) (by unfold mi;rw[jc];simp)
theorem Lr(call:aE->List J->aa->ao)(s t:bc)(B:Nat)(h:aa)(hs:s.length<=90000):∀(k i:Nat) (x:aa),s.length-i=k->i<=s.length->i<=t.length->Ext B h x->
  ∃e Γ y,ev Tryz.prog Tryz.f96 none call [1,0,1,0] (k+1) ⟨[(0,.str s),(1,.str t),(5,.int .i64 (Int.ofNat i))],[],.none,x⟩ e ⟨Γ,[],.none,y⟩/\
   ((e=.exit 0/\Γ=[(0,.str s),(1,.str t)]/\en (s.drop i) (t.drop i)=decide (s.length<t.length))\/(e=.ret/\Γ=[(4,.bool (en (s.drop i) (t.drop i)))]))/\Ext B h y
 |0,i,x,ax,hi,fM,ad=>by
  obtain rfl:i=s.length:=by omega
  refine⟨_,[(0,.str s),(1,.str t)],_,.exit (cD.post (UP call s t s.length 0 0 0 x (dY (by omega))) ⟨rfl,rfl,trivial⟩) (by simp),.inl ⟨rfl,rfl,?_⟩,ad⟩
  rw[List.drop_of_length_le (Nat.le_refl _)]
  cases aj:t.drop s.length with
  |nil=>
   have:t.length<=s.length:=List.drop_eq_nil_iff.1 aj
   rw[en];simp;omega
  |cons c u=>
   have:s.length<t.length:=by
    have:=congrArg List.length aj
    simp at this;omega
   rw[en];simp[this]
 |k+1,i,x,ax,hi,fM,ad=>by
  have ab:i<s.length:=by omega
  by_cases ae:i<t.length
  · rw[List.drop_eq_getElem_cons ab,List.drop_eq_getElem_cons ae,BN]
    by_cases he:s[i].toNat=t[i].toNat
    · rw[if_pos he]
      obtain⟨e,Γ,y,bK,bQ,dW⟩:=Lr call s t B h hs k (i+1) (x.room 7) (by omega) (by omega) (by omega) ad.hW
      exact⟨e,Γ,y,.step (UN call s t i _ _ (i+1) x (du ab) (du ae) (nt ab) (nt ae) (BR he) (ki ab (by omega))) bK,bQ,dW⟩
    · rw[if_neg he,<-Ln]
      exact⟨_,[(4,.bool (br (Int.ofNat s[i].toNat) (Int.ofNat t[i].toNat)))],_,.exit (cD.post (UM call s t i _ _ 0 x (du ab) (du ae) (nt ab) (nt ae) (Ft he)) ⟨rfl,trivial⟩) (by simp),.inr ⟨rfl,rfl⟩,ad.hW.hW⟩
  · refine⟨_,[(0,.str s),(1,.str t)],_,.exit (cD.post (UO call s t i 0 0 0 x (du ab) (dY ae)) ⟨rfl,rfl,trivial⟩) (by simp),.inl ⟨rfl,rfl,?_⟩,ad⟩
    rw[List.drop_of_length_le (l:=t) (by omega)]
    have:en (s.drop i) []=false:=by
     cases s.drop i<;>rw[en]
    rw[this];simp;omega
theorem Ls(m:Nat)(s t:bc)(B:Nat)(h:aa)(hs:s.length<=90000):∃an,Y (m+1) (.fn 96) [.str s,.str t] h=.ret (.bool (en s t)) an/\Ext B h an:=by
 obtain⟨e,Γ,y,bK,bQ,dW⟩:=Lr (Y m) s t B h hs s.length 0 h (by omega) (by omega) (by omega) (Ext.refl _ _)
 have mj:=ev.run (p:=[1,0,1,0]) (by kernel_rfl) bK (by omega)
 rw[List.drop_zero,List.drop_zero] at bQ
 rcases bQ with⟨rfl,rfl,jc⟩|⟨rfl,rfl⟩
 · rw[jc,<-Ln]
   exact⟨y,dn (intr:=cj) (n:=m) (args:=[.str s,.str t]) Tryz.func96 (by kernel_rfl) rfl (by kernel_rfl) (aw.seq (p:=[]) (by kernel_rfl) (Lk (Y m) s t h) (aw.seq (p:=[1]) (by kernel_rfl) (aw.seq (p:=[1,0]) (by kernel_rfl) (Ll (Y m) s t h) (aw.block (p:=[1,0,1]) (id:=0) (by kernel_rfl) mj)) (UQ (Y m) s t y))) (.inl rfl) (by kernel_rfl),dW⟩
 · exact⟨y,dn (intr:=cj) (n:=m) (args:=[.str s,.str t]) Tryz.func96 (by kernel_rfl) rfl (by kernel_rfl) (aw.seq (p:=[]) (by kernel_rfl) (Lk (Y m) s t h) (aw.fW (p:=[1]) (by kernel_rfl) (aw.seq (p:=[1,0]) (by kernel_rfl) (Ll (Y m) s t h) (aw.o5 (p:=[1,0,1]) (id:=0) (by kernel_rfl) mj (by simp))) (by simp))) (.inl rfl) (by kernel_rfl),dW⟩
end Go.Proofs.cT
namespace Go.Proofs.cT
open Go aC Go.Proofs dD
set_option maxRecDepth 100000
set_option maxHeartbeats 1000000
theorem UX(call:aE->List J->aa->ao)(r:Nat)(h:aa):
  aw Tryz.prog Tryz.f98 none call [0] (af.mk [(0,.ptr r 0)] [] .none h) (.nrm)
   (af.mk [(0,.ptr r 0)] [] .none h):=
 aX [0] (hs:=[]) (by kernel_rfl)<| .nil
theorem UY(call:aE->List J->aa->ao)(r:Nat)(h g:aa)
  (H1:aC.storeCells (aa.push h (.cells [.str [],.str [],.str [],.str [],.str []] 153 .own 0 0)) (aa.n h) 0 [.str [97,110,121],.str [105,110,116],.str [98,111,111,108],.str [115,116,114],.str [110,105,108]]=some g):
  aw Tryz.prog Tryz.f98 none call [1,0] (af.mk [(0,.ptr r 0)] [] .none h) (.nrm)
   (af.mk [(0,.ptr r 0),(3,.ptr (aa.n h) 0)] [] .none g):=
 aX [0,3] (hs:=[.ft (.aL []) g]) (by kernel_rfl)<| .cons (⟨by kernel_rfl,H1,rfl⟩:some 5=some 5/\aC.storeCells (aa.push h (cJ.cells [J.str [],J.str [],J.str [],J.str [],J.str []] 153 eE.own 0 0)) (aa.n h) 0 [J.str [97,110,121],J.str [105,110,116],J.str [98,111,111,108],J.str [115,116,114],J.str [110,105,108]]=some g/\J.aL []=J.aL [])<| .nil
theorem UZ(call:aE->List J->aa->ao)(r a:Nat)(h:aa):
  aw Tryz.prog Tryz.f98 none call [1,1,0] (af.mk [(0,.ptr r 0),(3,.ptr a 0)] [] .none h) (.nrm)
   (af.mk [(0,.ptr r 0),(3,.ptr a 0),(4,.str [])] [] .none h):=
 aX [0,3,4] (hs:=[]) (by kernel_rfl)<| .nil
theorem U0(call:aE->List J->aa->ao)(r a k:Nat)(h:aa)
  (H1:av h r (0+0)=some (.int .i64 (.ofNat k))):
  aw Tryz.prog Tryz.f98 none call [1,1,1,0,0] (af.mk [(0,.ptr r 0),(3,.ptr a 0),(4,.str [])] [] .none h) (.nrm)
   (af.mk [(0,.ptr r 0),(3,.ptr a 0),(4,.str []),(12,.int .i64 (.ofNat k))] [] .none h):=
 aX [0,3,4,12] (hs:=[.v (.int .i64 (.ofNat k))]) (by kernel_rfl)<| .cons H1<| .nil
theorem U1(call:aE->List J->aa->ao)(r a:Nat)(s:List UInt8)(h:aa)
  (H1:av h r (0+1)=some (.str s)):
  aw Tryz.prog Tryz.f98 none call [1,1,1,0,1] (af.mk [(0,.ptr r 0),(3,.ptr a 0),(4,.str []),(12,.int .i64 (.ofNat 6))] [] .none h) (.ret)
   (af.mk [(2,.str s)] [] .none h):=
 aX [2] (hs:=[.b true,.v (.str s)]) (by kernel_rfl)<| .cons (by kernel_rfl:ba (Int.ofNat 6) (Int.ofNat 6)=true)<| .cons H1<| .nil
theorem U2(call:aE->List J->aa->ao)(r a:Nat)(s s1 s2:List UInt8)(h g:aa)
  (H1:aw Tryz.prog Tryz.f98 none call [1,1,1,0,1,0,1,1,1,0,0,1,0] (af.mk [(5,.int .i64 (.ofNat 0)),(19,.bool (ba (.ofNat 7) (.ofNat 7))),(13,.bool (ba (.ofNat 7) (.ofNat 6))),(0,.ptr r 0),(3,.ptr a 0),(4,.str []),(12,.int .i64 (.ofNat 7))] [] .none h) (.exit 1) (af.mk [(0,.ptr r 0),(4,.str s)] [] .none g))
  (ay:fA .add [123] s=some (.str s1))
  (aN:fA .add s1 [125]=some (.str s2)):
  aw Tryz.prog Tryz.f98 none call [1,1,1,0,1] (af.mk [(0,.ptr r 0),(3,.ptr a 0),(4,.str []),(12,.int .i64 (.ofNat 7))] [] .none h) (.ret)
   (af.mk [(2,.str s2)] [] .none g):=
 aX [2] (hs:=[Hint.b false,Hint.b true,Hint.loop (bA.exit 1) (af.mk [(0,J.ptr r 0),(4,J.str s)] [] bH.none g),Hint.v (J.str s1),Hint.v (J.str s2)]) (by kernel_rfl)<| .cons (by kernel_rfl:ba (Int.ofNat 7) (Int.ofNat 6)=false)<| .cons (by kernel_rfl:ba (Int.ofNat 7) (Int.ofNat 7)=true)<| .cons H1<| .cons ay<| .cons aN<| .nil
theorem U3(call:aE->List J->aa->ao)(r a:Nat)(s s1 s2 ck b6:List UInt8)(v:J)(h g ak:aa)
  (H1:aw Tryz.prog Tryz.f98 none call [1,1,1,0,1,0,1,1,1,1,1,0,0,1,0] (af.mk [(6,.int .i64 (.ofNat 0)),(56,.bool (ba (.ofNat 8) (.ofNat 8))),(19,.bool (ba (.ofNat 8) (.ofNat 7))),(13,.bool (ba (.ofNat 8) (.ofNat 6))),(0,.ptr r 0),(3,.ptr a 0),(4,.str []),(12,.int .i64 (.ofNat 8))] [] .none h) (.exit 3) (af.mk [(0,.ptr r 0),(4,.str s)] [] .none g))
  (ay:fA .add [102,110,40] s=some (.str s1))
  (aN:fA .add s1 [41,32,45,62,32]=some (.str s2))
  (aO:av g r (0+4)=some v)
  (bm:call (.fn 98) [v] g=ao.ret (.str ck) ak)
  (bT:fA .add s2 ck=some (.str b6)):
  aw Tryz.prog Tryz.f98 none call [1,1,1,0,1] (af.mk [(0,.ptr r 0),(3,.ptr a 0),(4,.str []),(12,.int .i64 (.ofNat 8))] [] .none h) (.ret)
   (af.mk [(2,.str b6)] [] .none ak):=
 aX [2] (hs:=[Hint.b false,Hint.b false,Hint.b true,Hint.loop (bA.exit 3) (af.mk [(0,J.ptr r 0),(4,J.str s)] [] bH.none g),Hint.v (J.str s1),Hint.v (J.str s2),Hint.v v,Hint.c (J.str ck) ak,Hint.v (J.str b6)]) (by kernel_rfl)<| .cons (by kernel_rfl:ba (Int.ofNat 8) (Int.ofNat 6)=false)<| .cons (by kernel_rfl:ba (Int.ofNat 8) (Int.ofNat 7)=false)<| .cons (by kernel_rfl:ba (Int.ofNat 8) (Int.ofNat 8)=true)<| .cons H1<| .cons ay<| .cons aN<| .cons aO<| .cons bm<| .cons bT<| .nil
theorem U4(call:aE->List J->aa->ao)(r a:Nat)(s:List UInt8)(h g:aa)
  (H1:aw Tryz.prog Tryz.f98 none call [1,1,1,0,1,0,1,1,1,1,1,1,1,0,0,1,0] (af.mk [(7,.int .i64 (.ofNat 0)),(90,.bool (ba (.ofNat 9) (.ofNat 9))),(56,.bool (ba (.ofNat 9) (.ofNat 8))),(19,.bool (ba (.ofNat 9) (.ofNat 7))),(13,.bool (ba (.ofNat 9) (.ofNat 6))),(0,.ptr r 0),(3,.ptr a 0),(4,.str []),(12,.int .i64 (.ofNat 9))] [] .none h) (.exit 5) (af.mk [(0,.ptr r 0),(4,.str s)] [] .none g)):
  aw Tryz.prog Tryz.f98 none call [1,1,1,0,1] (af.mk [(0,.ptr r 0),(3,.ptr a 0),(4,.str []),(12,.int .i64 (.ofNat 9))] [] .none h) (.ret)
   (af.mk [(2,.str s)] [] .none g):=
 aX [2] (hs:=[Hint.b false,Hint.b false,Hint.b false,Hint.b true,Hint.loop (bA.exit 5) (af.mk [(0,J.ptr r 0),(4,J.str s)] [] bH.none g)]) (by kernel_rfl)<| .cons (by kernel_rfl:ba (Int.ofNat 9) (Int.ofNat 6)=false)<| .cons (by kernel_rfl:ba (Int.ofNat 9) (Int.ofNat 7)=false)<| .cons (by kernel_rfl:ba (Int.ofNat 9) (Int.ofNat 8)=false)<| .cons (by kernel_rfl:ba (Int.ofNat 9) (Int.ofNat 9)=true)<| .cons H1<| .nil
theorem U5(call:aE->List J->aa->ao)(r a k:Nat)(h:aa)
  (H1:ba (.ofNat k) (.ofNat 6)=false)
  (ay:ba (.ofNat k) (.ofNat 7)=false)
  (aN:ba (.ofNat k) (.ofNat 8)=false)
  (aO:ba (.ofNat k) (.ofNat 9)=false):
  aw Tryz.prog Tryz.f98 none call [1,1,1,0,1] (af.mk [(0,.ptr r 0),(3,.ptr a 0),(4,.str []),(12,.int .i64 (.ofNat k))] [] .none h) (.nrm)
   (af.mk [(0,.ptr r 0),(3,.ptr a 0)] [] .none h):=
 aX [0,3] (hs:=[.b false,.b false,.b false,.b false]) (by kernel_rfl)<| .cons H1<| .cons ay<| .cons aN<| .cons aO<| .nil
theorem U6(call:aE->List J->aa->ao)(r a k j q:Nat)(s:List UInt8)(h:aa)
  (H1:av h r (0+0)=some (.int .i64 (.ofNat k)))
  (ay:arith .sub .i64 (.ofNat k) (.ofNat 1)=some (.int .i64 (.ofNat j)))
  (aN:Nat.le (Nat.succ j) 5/\J.ptr a q=J.ptr a (0+j*1))
  (aO:av h a q=some (.str s)):
  aw Tryz.prog Tryz.f98 none call [1,1,1,1] (af.mk [(0,.ptr r 0),(3,.ptr a 0)] [] .none h) (.ret)
   (af.mk [(2,.str s)] [] .none h):=
 aX [2] (hs:=[.v (.int .i64 (.ofNat k)),.v (.int .i64 (.ofNat j)),.v (.ptr a q),.v (.str s)]) (by kernel_rfl)<| .cons H1<| .cons ay<| .cons aN<| .cons aO<| .nil
theorem U7(call:aE->List J->aa->ao)(r i N:Nat)(s:List UInt8)(v:J)(h:aa)
  (H1:av h r (0+3)=some v)
  (ay:cq Tryz.prog h 49 v=some (.int .i64 (.ofNat N)))
  (aN:br (.ofNat i) (.ofNat N)=false):
  aw Tryz.prog Tryz.f98 none call [1,1,1,0,1,0,1,1,1,0,0,1,0,0] (af.mk [(0,.ptr r 0),(4,.str s),(5,.int .i64 (.ofNat i))] [] .none h) (.exit 1)
   (af.mk [(0,.ptr r 0),(4,.str s)] [] .none h):=
 aX [0,4] (hs:=[.v v,.o (.int .i64 (.ofNat N)),.b false]) (by kernel_rfl)<| .cons H1<| .cons ay<| .cons aN<| .nil
theorem U8(call:aE->List J->aa->ao)(r i N:Nat)(s:List UInt8)(v:J)(h:aa)
  (H1:av h r (0+3)=some v)
  (ay:cq Tryz.prog h 49 v=some (.int .i64 (.ofNat N)))
  (aN:br (.ofNat i) (.ofNat N)=false):
  aw Tryz.prog Tryz.f98 none call [1,1,1,0,1,0,1,1,1,1,1,0,0,1,0,0] (af.mk [(0,.ptr r 0),(4,.str s),(6,.int .i64 (.ofNat i))] [] .none h) (.exit 3)
   (af.mk [(0,.ptr r 0),(4,.str s)] [] .none h):=
 aX [0,4] (hs:=[.v v,.o (.int .i64 (.ofNat N)),.b false]) (by kernel_rfl)<| .cons H1<| .cons ay<| .cons aN<| .nil
theorem U9(call:aE->List J->aa->ao)(r i N:Nat)(s:List UInt8)(v:J)(h:aa)
  (H1:av h r (0+3)=some v)
  (ay:cq Tryz.prog h 49 v=some (.int .i64 (.ofNat N)))
  (aN:br (.ofNat i) (.ofNat N)=false):
  aw Tryz.prog Tryz.f98 none call [1,1,1,0,1,0,1,1,1,1,1,1,1,0,0,1,0,0] (af.mk [(0,.ptr r 0),(4,.str s),(7,.int .i64 (.ofNat i))] [] .none h) (.exit 5)
   (af.mk [(0,.ptr r 0),(4,.str s)] [] .none h):=
 aX [0,4] (hs:=[.v v,.o (.int .i64 (.ofNat N)),.b false]) (by kernel_rfl)<| .cons H1<| .cons ay<| .cons aN<| .nil
theorem U_(call:aE->List J->aa->ao)(r b off N aW cU M i q aR j:Nat)(s s1 s2 ck b6 cW n w:List UInt8)(x:J)(aH dj:cE)(h g:aa)
  (H1:av h r (0+3)=some (.slice aW cU M dj))
  (ay:br (.ofNat i) (.ofNat M)=true)
  (aN:br (.ofNat 0) (.ofNat i)=true)
  (aO:fA .add s [44,32]=some (.str s1))
  (bm:av (aa.room h 20) r (0+2)=some (.slice b off N aH))
  (bT:Nat.le (Nat.succ i) N/\J.ptr b q=J.ptr b (off+i*1))
  (cA:av (aa.room h 20) b q=some (.str n))
  (ei:fA .add s1 n=some (.str s2))
  (gF:fA .add s2 [58,32]=some (.str ck))
  (iI:av (aa.room h 20) r (0+3)=some (.slice aW cU M dj))
  (lD:Nat.le (Nat.succ i) M/\J.ptr aW aR=J.ptr aW (cU+i*1))
  (mZ:av (aa.room h 20) aW aR=some x)
  (qh:call (.fn 98) [x] (aa.room h 20)=ao.ret (.str w) g)
  (wF:fA .add ck w=some (.str b6))
  (yY:av g r (0+2)=some (.slice b off N aH))
  (yZ:av g b q=some (.str n))
  (FG:J.sound x=true:=by first|with_reducible assumption|rfl|exact da.snd (by with_reducible assumption)|exact da.fu (by with_reducible assumption)|exact dE.snd (by with_reducible assumption)|exact dE.fu (by with_reducible assumption)|exact dI.snd (by with_reducible assumption)|exact dI.fu (by with_reducible assumption))
  (Va:arith .add .i64 (.ofNat i) (.ofNat 1)=some (.int .i64 (.ofNat j))):
  aw Tryz.prog Tryz.f98 none call [1,1,1,0,1,0,1,1,1,0,0,1,0,0] (af.mk [(0,.ptr r 0),(4,.str s),(5,.int .i64 (.ofNat i))] [] .none h) (.nrm)
   (af.mk [(0,.ptr r 0),(4,.str b6),(5,.int .i64 (.ofNat j))] [] .none g):=
 aX [0,4,5] (hs:=[.v (.slice aW cU M dj),.b true,.b true,.v (.str s1),.v (.slice b off N aH),.v (.ptr b q),.v (.str n),.v (.str s2),.v (.str ck),.v (.slice aW cU M dj),.v (.ptr aW aR),.v x,.c (.str w) g,.v (.str b6),.v (.int .i64 (.ofNat j))]) (by kernel_rfl)<| .cons H1<| .cons ay<| .cons aN<| .cons aO<| .cons bm<| .cons bT<| .cons cA<| .cons ei<| .cons gF<| .cons iI<| .cons lD<| .cons mZ<| .cons qh<| .cons wF<| .cons (by kernel_rfl:J.sound (J.str s1)=true)<| .cons (by kernel_rfl:J.str s1=J.str s1)<| .cons (by kernel_rfl:J.sound (J.str s1)=true)<| .cons (by kernel_rfl:J.str s1=J.str s1)<| .cons (by kernel_rfl:J.sound (J.ptr r 0)=true)<| .cons (by kernel_rfl:J.ptr r 0=J.ptr r 0)<| .cons (by kernel_rfl:J.sound (J.ptr r 0)=true)<| .cons (by kernel_rfl:J.ptr r 0=J.ptr r 0)<| .cons (by kernel_rfl:J.sound (J.ptr r 0)=true)<| .cons (by kernel_rfl:J.ptr r 0=J.ptr r 0)<| .cons (by kernel_rfl:J.sound (J.ptr r 0)=true)<| .cons (by kernel_rfl:J.ptr r 0=J.ptr r 0)<| .cons (by kernel_rfl:J.sound (J.ptr r (0+2))=true)<| .cons (by kernel_rfl:J.ptr r (0+2)=J.ptr r (0+2))<| .cons (by kernel_rfl:J.sound (J.ptr r (0+2))=true)<| .cons (by kernel_rfl:J.ptr r (0+2)=J.ptr r (0+2))<| .cons (by kernel_rfl:J.sound (J.slice b off N aH)=true)<| .cons yY<| .cons (by kernel_rfl:J.sound (J.slice b off N aH)=true)<| .cons bm<| .cons (by kernel_rfl:J.sound (J.int IntKind.i64 (Int.ofNat i))=true)<| .cons (by kernel_rfl:J.int IntKind.i64 (Int.ofNat i)=J.int IntKind.i64 (Int.ofNat i))<| .cons (by kernel_rfl:J.sound (J.int IntKind.i64 (Int.ofNat i))=true)<| .cons (by kernel_rfl:J.int IntKind.i64 (Int.ofNat i)=J.int IntKind.i64 (Int.ofNat i))<| .cons (by kernel_rfl:J.sound (J.ptr b q)=true)<| .cons bT<| .cons (by kernel_rfl:J.sound (J.ptr b q)=true)<| .cons bT<| .cons (by kernel_rfl:J.sound (J.str n)=true)<| .cons yZ<| .cons (by kernel_rfl:J.sound (J.str n)=true)<| .cons cA<| .cons (by kernel_rfl:J.sound (J.str s2)=true)<| .cons ei<| .cons (by kernel_rfl:J.sound (J.str s2)=true)<| .cons ei<| .cons (by kernel_rfl:J.sound (J.str ck)=true)<| .cons gF<| .cons (by kernel_rfl:J.sound (J.str ck)=true)<| .cons gF<| .cons (by kernel_rfl:J.sound (J.ptr r 0)=true)<| .cons (by kernel_rfl:J.ptr r 0=J.ptr r 0)<| .cons (by kernel_rfl:J.sound (J.ptr r 0)=true)<| .cons (by kernel_rfl:J.ptr r 0=J.ptr r 0)<| .cons (by kernel_rfl:J.sound (J.ptr r (0+3))=true)<| .cons (by kernel_rfl:J.ptr r (0+3)=J.ptr r (0+3))<| .cons (by kernel_rfl:J.sound (J.slice aW cU M dj)=true)<| .cons iI<| .cons (by kernel_rfl:J.sound (J.int IntKind.i64 (Int.ofNat i))=true)<| .cons (by kernel_rfl:J.int IntKind.i64 (Int.ofNat i)=J.int IntKind.i64 (Int.ofNat i))<| .cons (by kernel_rfl:J.sound (J.ptr aW aR)=true)<| .cons lD<| .cons FG<| .cons mZ<| .cons (by kernel_rfl:J.sound (J.str b6)=true)<| .cons wF<| .cons (by kernel_rfl:J.sound (J.str b6)=true)<| .cons (by kernel_rfl:J.str b6=J.str b6)<| .cons Va<| .nil
theorem Vb(call:aE->List J->aa->ao)(r b off N aW cU M i q aR j:Nat)(s s1 s2 ck b6 cW n w:List UInt8)(x:J)(aH dj:cE)(h g:aa)
  (H1:av h r (0+3)=some (.slice aW cU M dj))
  (ay:br (.ofNat i) (.ofNat M)=true)
  (aN:br (.ofNat 0) (.ofNat i)=false)
  (aO:av (aa.room h 20) r (0+2)=some (.slice b off N aH))
  (bm:Nat.le (Nat.succ i) N/\J.ptr b q=J.ptr b (off+i*1))
  (bT:av (aa.room h 20) b q=some (.str n))
  (cA:fA .add s n=some (.str s2))
  (ei:fA .add s2 [58,32]=some (.str ck))
  (gF:av (aa.room h 20) r (0+3)=some (.slice aW cU M dj))
  (iI:Nat.le (Nat.succ i) M/\J.ptr aW aR=J.ptr aW (cU+i*1))
  (lD:av (aa.room h 20) aW aR=some x)
  (mZ:call (.fn 98) [x] (aa.room h 20)=ao.ret (.str w) g)
  (qh:fA .add ck w=some (.str b6))
  (wF:av g r (0+2)=some (.slice b off N aH))
  (yY:av g b q=some (.str n))
  (yZ:J.sound x=true:=by first|with_reducible assumption|rfl|exact da.snd (by with_reducible assumption)|exact da.fu (by with_reducible assumption)|exact dE.snd (by with_reducible assumption)|exact dE.fu (by with_reducible assumption)|exact dI.snd (by with_reducible assumption)|exact dI.fu (by with_reducible assumption))
  (FG:arith .add .i64 (.ofNat i) (.ofNat 1)=some (.int .i64 (.ofNat j))):
  aw Tryz.prog Tryz.f98 none call [1,1,1,0,1,0,1,1,1,0,0,1,0,0] (af.mk [(0,.ptr r 0),(4,.str s),(5,.int .i64 (.ofNat i))] [] .none h) (.nrm)
   (af.mk [(0,.ptr r 0),(4,.str b6),(5,.int .i64 (.ofNat j))] [] .none g):=
 aX [0,4,5] (hs:=[.v (.slice aW cU M dj),.b true,.b false,.v (.slice b off N aH),.v (.ptr b q),.v (.str n),.v (.str s2),.v (.str ck),.v (.slice aW cU M dj),.v (.ptr aW aR),.v x,.c (.str w) g,.v (.str b6),.v (.int .i64 (.ofNat j))]) (by kernel_rfl)<| .cons H1<| .cons ay<| .cons aN<| .cons aO<| .cons bm<| .cons bT<| .cons cA<| .cons ei<| .cons gF<| .cons iI<| .cons lD<| .cons mZ<| .cons qh<| .cons (by kernel_rfl:J.sound (J.str s)=true)<| .cons (by kernel_rfl:J.str s=J.str s)<| .cons (by kernel_rfl:J.sound (J.str s)=true)<| .cons (by kernel_rfl:J.str s=J.str s)<| .cons (by kernel_rfl:J.sound (J.ptr r 0)=true)<| .cons (by kernel_rfl:J.ptr r 0=J.ptr r 0)<| .cons (by kernel_rfl:J.sound (J.ptr r 0)=true)<| .cons (by kernel_rfl:J.ptr r 0=J.ptr r 0)<| .cons (by kernel_rfl:J.sound (J.ptr r 0)=true)<| .cons (by kernel_rfl:J.ptr r 0=J.ptr r 0)<| .cons (by kernel_rfl:J.sound (J.ptr r 0)=true)<| .cons (by kernel_rfl:J.ptr r 0=J.ptr r 0)<| .cons (by kernel_rfl:J.sound (J.ptr r (0+2))=true)<| .cons (by kernel_rfl:J.ptr r (0+2)=J.ptr r (0+2))<| .cons (by kernel_rfl:J.sound (J.ptr r (0+2))=true)<| .cons (by kernel_rfl:J.ptr r (0+2)=J.ptr r (0+2))<| .cons (by kernel_rfl:J.sound (J.slice b off N aH)=true)<| .cons wF<| .cons (by kernel_rfl:J.sound (J.slice b off N aH)=true)<| .cons aO<| .cons (by kernel_rfl:J.sound (J.int IntKind.i64 (Int.ofNat i))=true)<| .cons (by kernel_rfl:J.int IntKind.i64 (Int.ofNat i)=J.int IntKind.i64 (Int.ofNat i))<| .cons (by kernel_rfl:J.sound (J.int IntKind.i64 (Int.ofNat i))=true)<| .cons (by kernel_rfl:J.int IntKind.i64 (Int.ofNat i)=J.int IntKind.i64 (Int.ofNat i))<| .cons (by kernel_rfl:J.sound (J.ptr b q)=true)<| .cons bm<| .cons (by kernel_rfl:J.sound (J.ptr b q)=true)<| .cons bm<| .cons (by kernel_rfl:J.sound (J.str n)=true)<| .cons yY<| .cons (by kernel_rfl:J.sound (J.str n)=true)<| .cons bT<| .cons (by kernel_rfl:J.sound (J.str s2)=true)<| .cons cA<| .cons (by kernel_rfl:J.sound (J.str s2)=true)<| .cons cA<| .cons (by kernel_rfl:J.sound (J.str ck)=true)<| .cons ei<| .cons (by kernel_rfl:J.sound (J.str ck)=true)<| .cons ei<| .cons (by kernel_rfl:J.sound (J.ptr r 0)=true)<| .cons (by kernel_rfl:J.ptr r 0=J.ptr r 0)<| .cons (by kernel_rfl:J.sound (J.ptr r 0)=true)<| .cons (by kernel_rfl:J.ptr r 0=J.ptr r 0)<| .cons (by kernel_rfl:J.sound (J.ptr r (0+3))=true)<| .cons (by kernel_rfl:J.ptr r (0+3)=J.ptr r (0+3))<| .cons (by kernel_rfl:J.sound (J.slice aW cU M dj)=true)<| .cons gF<| .cons (by kernel_rfl:J.sound (J.int IntKind.i64 (Int.ofNat i))=true)<| .cons (by kernel_rfl:J.int IntKind.i64 (Int.ofNat i)=J.int IntKind.i64 (Int.ofNat i))<| .cons (by kernel_rfl:J.sound (J.ptr aW aR)=true)<| .cons iI<| .cons yZ<| .cons lD<| .cons (by kernel_rfl:J.sound (J.str b6)=true)<| .cons qh<| .cons (by kernel_rfl:J.sound (J.str b6)=true)<| .cons (by kernel_rfl:J.str b6=J.str b6)<| .cons FG<| .nil
theorem Vc(call:aE->List J->aa->ao)(r b off N aW cU M i q aR j:Nat)(s s1 s2 ck b6 cW n w:List UInt8)(x:J)(aH dj:cE)(h g:aa)
  (H1:av h r (0+3)=some (.slice aW cU M dj))
  (ay:br (.ofNat i) (.ofNat M)=true)
  (aN:br (.ofNat 0) (.ofNat i)=true)
  (aO:fA .add s [44,32]=some (.str s1))
  (bm:Nat.le (Nat.succ i) M/\J.ptr aW aR=J.ptr aW (cU+i*1))
  (bT:av h aW aR=some x)
  (cA:call (.fn 98) [x] h=ao.ret (.str w) g)
  (ei:fA .add s1 w=some (.str s2))
  (gF:arith .add .i64 (.ofNat i) (.ofNat 1)=some (.int .i64 (.ofNat j))):
  aw Tryz.prog Tryz.f98 none call [1,1,1,0,1,0,1,1,1,1,1,0,0,1,0,0] (af.mk [(0,.ptr r 0),(4,.str s),(6,.int .i64 (.ofNat i))] [] .none h) (.nrm)
   (af.mk [(0,.ptr r 0),(4,.str s2),(6,.int .i64 (.ofNat j))] [] .none g):=
 aX [0,4,6] (hs:=[.v (.slice aW cU M dj),.b true,.b true,.v (.str s1),.v (.slice aW cU M dj),.v (.ptr aW aR),.v x,.c (.str w) g,.v (.str s2),.v (.int .i64 (.ofNat j))]) (by kernel_rfl)<| .cons H1<| .cons ay<| .cons aN<| .cons aO<| .cons H1<| .cons bm<| .cons bT<| .cons cA<| .cons ei<| .cons gF<| .nil
theorem Vd(call:aE->List J->aa->ao)(r b off N aW cU M i q aR j:Nat)(s s1 s2 ck b6 cW n w:List UInt8)(x:J)(aH dj:cE)(h g:aa)
  (H1:av h r (0+3)=some (.slice aW cU M dj))
  (ay:br (.ofNat i) (.ofNat M)=true)
  (aN:br (.ofNat 0) (.ofNat i)=false)
  (aO:Nat.le (Nat.succ i) M/\J.ptr aW aR=J.ptr aW (cU+i*1))
  (bm:av h aW aR=some x)
  (bT:call (.fn 98) [x] h=ao.ret (.str w) g)
  (cA:fA .add s w=some (.str s2))
  (ei:arith .add .i64 (.ofNat i) (.ofNat 1)=some (.int .i64 (.ofNat j))):
  aw Tryz.prog Tryz.f98 none call [1,1,1,0,1,0,1,1,1,1,1,0,0,1,0,0] (af.mk [(0,.ptr r 0),(4,.str s),(6,.int .i64 (.ofNat i))] [] .none h) (.nrm)
   (af.mk [(0,.ptr r 0),(4,.str s2),(6,.int .i64 (.ofNat j))] [] .none g):=
 aX [0,4,6] (hs:=[.v (.slice aW cU M dj),.b true,.b false,.v (.slice aW cU M dj),.v (.ptr aW aR),.v x,.c (.str w) g,.v (.str s2),.v (.int .i64 (.ofNat j))]) (by kernel_rfl)<| .cons H1<| .cons ay<| .cons aN<| .cons H1<| .cons aO<| .cons bm<| .cons bT<| .cons cA<| .cons ei<| .nil
theorem Ve(call:aE->List J->aa->ao)(r b off N aW cU M i q aR j m k:Nat)(s s1 s2 ck b6 cW n w:List UInt8)(x:J)(aH dj:cE)(h g:aa)
  (H1:av h r (0+3)=some (.slice aW cU M dj))
  (ay:br (.ofNat i) (.ofNat M)=true)
  (aN:br (.ofNat 0) (.ofNat i)=true)
  (aO:fA .add s [32,124,32]=some (.str s1))
  (bm:Nat.le (Nat.succ i) M/\J.ptr aW aR=J.ptr aW (cU+i*1))
  (bT:av h aW aR=some (.ptr m 0))
  (cA:av h m (0+0)=some (.int .i64 (.ofNat k)))
  (ei:ba (.ofNat k) (.ofNat 8)=true)
  (gF:fA .add s1 [40]=some (.str s2))
  (iI:call (.fn 98) [.ptr m 0] h=ao.ret (.str w) g)
  (lD:fA .add s2 w=some (.str ck))
  (mZ:fA .add ck [41]=some (.str b6))
  (qh:arith .add .i64 (.ofNat i) (.ofNat 1)=some (.int .i64 (.ofNat j))):
  aw Tryz.prog Tryz.f98 none call [1,1,1,0,1,0,1,1,1,1,1,1,1,0,0,1,0,0] (af.mk [(0,.ptr r 0),(4,.str s),(7,.int .i64 (.ofNat i))] [] .none h) (.nrm)
   (af.mk [(0,.ptr r 0),(4,.str b6),(7,.int .i64 (.ofNat j))] [] .none g):=
 aX [0,4,7] (hs:=[.v (.slice aW cU M dj),.b true,.b true,.v (.str s1),.v (.slice aW cU M dj),.v (.ptr aW aR),.v (.ptr m 0),.v (.int .i64 (.ofNat k)),.b true,.v (.str s2),.v (.slice aW cU M dj),.v (.ptr aW aR),.v (.ptr m 0),.c (.str w) g,.v (.str ck),.v (.str b6),.v (.int .i64 (.ofNat j))]) (by kernel_rfl)<| .cons H1<| .cons ay<| .cons aN<| .cons aO<| .cons H1<| .cons bm<| .cons bT<| .cons cA<| .cons ei<| .cons gF<| .cons H1<| .cons bm<| .cons bT<| .cons iI<| .cons lD<| .cons mZ<| .cons qh<| .nil
theorem Vf(call:aE->List J->aa->ao)(r b off N aW cU M i q aR j m k:Nat)(s s1 s2 ck b6 cW n w:List UInt8)(x:J)(aH dj:cE)(h g:aa)
  (H1:av h r (0+3)=some (.slice aW cU M dj))
  (ay:br (.ofNat i) (.ofNat M)=true)
  (aN:br (.ofNat 0) (.ofNat i)=true)
  (aO:fA .add s [32,124,32]=some (.str s1))
  (bm:Nat.le (Nat.succ i) M/\J.ptr aW aR=J.ptr aW (cU+i*1))
  (bT:av h aW aR=some (.ptr m 0))
  (cA:av h m (0+0)=some (.int .i64 (.ofNat k)))
  (ei:ba (.ofNat k) (.ofNat 8)=false)
  (gF:call (.fn 98) [.ptr m 0] h=ao.ret (.str w) g)
  (iI:fA .add s1 w=some (.str s2))
  (lD:arith .add .i64 (.ofNat i) (.ofNat 1)=some (.int .i64 (.ofNat j))):
  aw Tryz.prog Tryz.f98 none call [1,1,1,0,1,0,1,1,1,1,1,1,1,0,0,1,0,0] (af.mk [(0,.ptr r 0),(4,.str s),(7,.int .i64 (.ofNat i))] [] .none h) (.nrm)
   (af.mk [(0,.ptr r 0),(4,.str s2),(7,.int .i64 (.ofNat j))] [] .none g):=
 aX [0,4,7] (hs:=[.v (.slice aW cU M dj),.b true,.b true,.v (.str s1),.v (.slice aW cU M dj),.v (.ptr aW aR),.v (.ptr m 0),.v (.int .i64 (.ofNat k)),.b false,.v (.slice aW cU M dj),.v (.ptr aW aR),.v (.ptr m 0),.c (.str w) g,.v (.str s2),.v (.int .i64 (.ofNat j))]) (by kernel_rfl)<| .cons H1<| .cons ay<| .cons aN<| .cons aO<| .cons H1<| .cons bm<| .cons bT<| .cons cA<| .cons ei<| .cons H1<| .cons bm<| .cons bT<| .cons gF<| .cons iI<| .cons lD<| .nil
theorem Vg(call:aE->List J->aa->ao)(r b off N aW cU M i q aR j m k:Nat)(s s1 s2 ck b6 cW n w:List UInt8)(x:J)(aH dj:cE)(h g:aa)
  (H1:av h r (0+3)=some (.slice aW cU M dj))
  (ay:br (.ofNat i) (.ofNat M)=true)
  (aN:br (.ofNat 0) (.ofNat i)=false)
  (aO:Nat.le (Nat.succ i) M/\J.ptr aW aR=J.ptr aW (cU+i*1))
  (bm:av h aW aR=some (.ptr m 0))
  (bT:av h m (0+0)=some (.int .i64 (.ofNat k)))
  (cA:ba (.ofNat k) (.ofNat 8)=true)
  (ei:fA .add s [40]=some (.str s2))
  (gF:call (.fn 98) [.ptr m 0] h=ao.ret (.str w) g)
  (iI:fA .add s2 w=some (.str ck))
  (lD:fA .add ck [41]=some (.str b6))
  (mZ:arith .add .i64 (.ofNat i) (.ofNat 1)=some (.int .i64 (.ofNat j))):
  aw Tryz.prog Tryz.f98 none call [1,1,1,0,1,0,1,1,1,1,1,1,1,0,0,1,0,0] (af.mk [(0,.ptr r 0),(4,.str s),(7,.int .i64 (.ofNat i))] [] .none h) (.nrm)
   (af.mk [(0,.ptr r 0),(4,.str b6),(7,.int .i64 (.ofNat j))] [] .none g):=
 aX [0,4,7] (hs:=[.v (.slice aW cU M dj),.b true,.b false,.v (.slice aW cU M dj),.v (.ptr aW aR),.v (.ptr m 0),.v (.int .i64 (.ofNat k)),.b true,.v (.str s2),.v (.slice aW cU M dj),.v (.ptr aW aR),.v (.ptr m 0),.c (.str w) g,.v (.str ck),.v (.str b6),.v (.int .i64 (.ofNat j))]) (by kernel_rfl)<| .cons H1<| .cons ay<| .cons aN<| .cons H1<| .cons aO<| .cons bm<| .cons bT<| .cons cA<| .cons ei<| .cons H1<| .cons aO<| .cons bm<| .cons gF<| .cons iI<| .cons lD<| .cons mZ<| .nil
theorem Vh(call:aE->List J->aa->ao)(r b off N aW cU M i q aR j m k:Nat)(s s1 s2 ck b6 cW n w:List UInt8)(x:J)(aH dj:cE)(h g:aa)
  (H1:av h r (0+3)=some (.slice aW cU M dj))
  (ay:br (.ofNat i) (.ofNat M)=true)
  (aN:br (.ofNat 0) (.ofNat i)=false)
  (aO:Nat.le (Nat.succ i) M/\J.ptr aW aR=J.ptr aW (cU+i*1))
  (bm:av h aW aR=some (.ptr m 0))
  (bT:av h m (0+0)=some (.int .i64 (.ofNat k)))
  (cA:ba (.ofNat k) (.ofNat 8)=false)
  (ei:call (.fn 98) [.ptr m 0] h=ao.ret (.str w) g)
  (gF:fA .add s w=some (.str s2))
  (iI:arith .add .i64 (.ofNat i) (.ofNat 1)=some (.int .i64 (.ofNat j))):
  aw Tryz.prog Tryz.f98 none call [1,1,1,0,1,0,1,1,1,1,1,1,1,0,0,1,0,0] (af.mk [(0,.ptr r 0),(4,.str s),(7,.int .i64 (.ofNat i))] [] .none h) (.nrm)
   (af.mk [(0,.ptr r 0),(4,.str s2),(7,.int .i64 (.ofNat j))] [] .none g):=
 aX [0,4,7] (hs:=[.v (.slice aW cU M dj),.b true,.b false,.v (.slice aW cU M dj),.v (.ptr aW aR),.v (.ptr m 0),.v (.int .i64 (.ofNat k)),.b false,.v (.slice aW cU M dj),.v (.ptr aW aR),.v (.ptr m 0),.c (.str w) g,.v (.str s2),.v (.int .i64 (.ofNat j))]) (by kernel_rfl)<| .cons H1<| .cons ay<| .cons aN<| .cons H1<| .cons aO<| .cons bm<| .cons bT<| .cons cA<| .cons H1<| .cons aO<| .cons bm<| .cons ei<| .cons gF<| .cons iI<| .nil
theorem BX{fn:Func}{call:aE->List J->aa->ao}{p:List Nat}{e:bA}{reg R B N:Nat}{h:aa}{sep:bc}{items:List bc}(fU:items.length=N)(he:e≠ .nrm)
  (step:∀i (hi:i<items.length) x,Ext B h x->∃y,aw Tryz.prog fn none call (p++[0]) ⟨[(0,.ptr R 0),(4,.str (e8 sep (items.take i))),(reg,.int .i64 (Int.ofNat i))],[],.none,x⟩ .nrm ⟨[(0,.ptr R 0),(4,.str (e8 sep (items.take (i+1)))),(reg,.int .i64 (Int.ofNat (i+1)))],[],.none,y⟩/\Ext B h y)
  (exit:∀x s,Ext B h x->aw Tryz.prog fn none call (p++[0]) ⟨[(0,.ptr R 0),(4,.str s),(reg,.int .i64 (Int.ofNat N))],[],.none,x⟩ e ⟨[(0,.ptr R 0),(4,.str s)],[],.none,x⟩):
  ∀(k i:Nat) (x:aa),N-i=k->i<=N->Ext B h x->∃y,ev Tryz.prog fn none call p (k+1) ⟨[(0,.ptr R 0),(4,.str (e8 sep (items.take i))),(reg,.int .i64 (Int.ofNat i))],[],.none,x⟩ e ⟨[(0,.ptr R 0),(4,.str (e8 sep items))],[],.none,y⟩/\Ext B h y
 |0,i,x,ax,hi,ad=>by
  obtain rfl:i=N:=by omega
  rw[List.take_of_length_le (by omega)]
  exact⟨x,.exit (exit x _ ad) he,ad⟩
 |k+1,i,x,ax,hi,ad=>by
  obtain⟨y,s1,s2⟩:=step i (by omega) x ad
  obtain⟨z,bK,bQ⟩:=BX fU he step exit k (i+1) y (by omega) (by omega) s2
  exact⟨z,.step s1 bK,bQ⟩
abbrev y0(m B:Nat)(h:aa)(vs:List J)(ws:List bc):Prop:=∀i (ab:i<vs.length) (ae:i<ws.length) x,Ext B h x->∃an,Y m (.fn 98) [vs[i]] x=.ret (.str ws[i]) an/\Ext B x an
theorem Vi{m B R i:Nat}{h x:aa}{kd s0 bk a6 cZ:J}{bN:eE}{lo up:Nat}{vs:List J}{ws:List bc}(gq:R<B)(au:h.get R=some (.cells [kd,s0,bk,a6,cZ] 51 bN lo up))(aJ:da B h a6 vs)(aD:ws.length=vs.length)(hlen:vs.length<=90000)(ag:(e8 [44,32] ws).length<=1000000)(bt:y0 m B h vs ws)(hi:i<ws.length)(ad:Ext B h x):
  ∃y,aw Tryz.prog Tryz.f98 none (Y m) [1,1,1,0,1,0,1,1,1,1,1,0,0,1,0,0] ⟨[(0,.ptr R 0),(4,.str (e8 [44,32] (ws.take i))),(6,.int .i64 (Int.ofNat i))],[],.none,x⟩ .nrm ⟨[(0,.ptr R 0),(4,.str (e8 [44,32] (ws.take (i+1)))),(6,.int .i64 (Int.ofNat (i+1)))],[],.none,y⟩/\Ext B h y:=by
 have ab:i<vs.length:=by omega
 have eR:=(ad.get R gq).trans au
 rcases aJ with⟨_,rfl⟩|⟨b,off,aH,rfl,fg,ij,lE⟩
 · simp at ab
 have aF:av x b (off+i*1)=some vs[i]:=(lX ad fg).trans (ij i ab)
 obtain⟨g,c1,c2⟩:=bt i ab hi x ad
 have t1:=yS [44,32] ws i
 have t2:=uC [44,32] ws hi
 refine⟨g,?_,ad.trans (Nat.le_refl _) c2⟩
 rw[yR [44,32] ws hi]
 by_cases az:0<i
 · rw[if_pos az]
   exact Vc (Y m) R 0 0 0 b off vs.length i 0 (off+i*1) (i+1) _ _ _ [] [] [] [] ws[i] vs[i] (.exact 0) aH x g (ar eR rfl) (du ab) (du az) (gx (by simp;omega)) ⟨ab,rfl⟩ aF c1 (gx (by simp;omega)) (ki ab (by omega))
 · rw[if_neg az]
   obtain rfl:i=0:=by omega
   exact Vd (Y m) R 0 0 0 b off vs.length 0 0 (off+0*1) 1 _ [] _ [] [] [] [] ws[0] vs[0] (.exact 0) aH x g (ar eR rfl) (du ab) (dY (by omega)) ⟨ab,rfl⟩ aF c1 (gx (x:=[]) (by simp;omega)) (ki ab (by omega))
end Go.Proofs.cT
namespace Go.Proofs.cT
open Go aC Go.Proofs dD
set_option maxRecDepth 100000
set_option maxHeartbeats 1000000
theorem Vj{m B R i:Nat}{h x:aa}{kd s0 bk a6 cZ:J}{bN:eE}{lo up:Nat}{ns:List bc}{vs:List J}{ws:List bc}(gq:R<B)(au:h.get R=some (.cells [kd,s0,bk,a6,cZ] 51 bN lo up))(aM:da B h bk (ns.map .str))(aJ:da B h a6 vs)(wG:ns.length=vs.length)(aD:ws.length=vs.length)(hlen:vs.length<=90000)(ag:(e8 [44,32] (hJ ns ws)).length<=1000000)(fF:∀i (ab:i<vs.length),J.sound vs[i]=true)(bt:y0 m B h vs ws)(hi:i<(hJ ns ws).length)(ad:Ext B h x):
  ∃y,aw Tryz.prog Tryz.f98 none (Y m) [1,1,1,0,1,0,1,1,1,0,0,1,0,0] ⟨[(0,.ptr R 0),(4,.str (e8 [44,32] ((hJ ns ws).take i))),(5,.int .i64 (Int.ofNat i))],[],.none,x⟩ .nrm ⟨[(0,.ptr R 0),(4,.str (e8 [44,32] ((hJ ns ws).take (i+1)))),(5,.int .i64 (Int.ofNat (i+1)))],[],.none,y⟩/\Ext B h y:=by
 have qj:(hJ ns ws).length=vs.length:=by unfold hJ;rw[List.length_zipWith];omega
 have ab:i<vs.length:=by omega
 have ae:i<ns.length:=by omega
 have aB:i<ws.length:=by omega
 have eR:=(ad.get R gq).trans au
 have al:=ad.hW (k:=20)
 have hn:=(al.get R gq).trans au
 rcases aJ with⟨_,rfl⟩|⟨b,off,aH,rfl,fg,ij,lE⟩
 · simp at ab
 rcases aM.strs with⟨_,rfl⟩|⟨aW,cU,dj,rfl,fe,jT⟩
 · simp at ae
 have aF:av (x.room 20) b (off+i*1)=some vs[i]:=(lX al fg).trans (ij i ab)
 have aG:av (x.room 20) aW (cU+i*1)=some (.str ns[i]):=(lX al fe).trans (jT i ae)
 obtain⟨g,c1,c2⟩:=bt i ab aB (x.room 20) al
 have ra:=al.trans (Nat.le_refl _) c2
 have y1:=(ra.get R gq).trans au
 have bJ:av g aW (cU+i*1)=some (.str ns[i]):=(lX ra fe).trans (jT i ae)
 have t1:=yS [44,32] (hJ ns ws) i
 have t2:=uC [44,32] (hJ ns ws) hi
 have nd:(hJ ns ws)[i]=ns[i]++[58,32]++ws[i]:=List.getElem_zipWith (f:=λn w=>n++[58,32]++w) (h:=hi)
 have t3:ns[i].length+2+ws[i].length<=1000000:=by
  rw[nd] at t2
  simp at t2;omega
 refine⟨g,?_,ra⟩
 rw[yR [44,32] (hJ ns ws) hi,nd]
 by_cases az:0<i
 · rw[if_pos az,<-List.append_assoc,<-List.append_assoc]
   exact U_ (Y m) R aW cU ns.length b off vs.length i (cU+i*1) (off+i*1) (i+1) _ _ _ _ _ [] ns[i] ws[i] vs[i] dj aH x g (ar eR rfl) (du ab) (du az) (gx (by simp;omega)) (ar hn rfl) ⟨ae,rfl⟩ aG (gx (by simp;omega)) (gx (by simp;omega)) (ar hn rfl) ⟨ab,rfl⟩ aF c1 (gx (by simp;omega)) (ar y1 rfl) bJ (fF i ab) (ki ab (by omega))
 · rw[if_neg az]
   obtain rfl:i=0:=by omega
   exact Vb (Y m) R aW cU ns.length b off vs.length 0 (cU+0*1) (off+0*1) 1 _ [] _ _ _ [] ns[0] ws[0] vs[0] dj aH x g (ar eR rfl) (du ab) (dY (by omega)) (ar hn rfl) ⟨ae,rfl⟩ aG (gx (x:=[]) (by simp;omega)) (gx (by simp;omega)) (ar hn rfl) ⟨ab,rfl⟩ aF c1 (gx (by simp;omega)) (ar y1 rfl) bJ (fF 0 ab) (ki ab (by omega))
theorem Vk{m B R i:Nat}{h x:aa}{kd s0 bk a6 cZ:J}{bN:eE}{lo up:Nat}{fG:List Nat}{vs:List J}{ws:List bc}(gq:R<B)(au:h.get R=some (.cells [kd,s0,bk,a6,cZ] 51 bN lo up))(aJ:da B h a6 vs)(KJ:fG.length=vs.length)(aD:ws.length=vs.length)(hlen:vs.length<=90000)(ag:(e8 [32,124,32] (ih fG ws)).length<=1000000)
  (p6:∀i (ab:i<vs.length) (ae:i<fG.length),∃M,vs[i]=.ptr M 0/\∀x,Ext B h x->av x M (0+0)=some (.int .i64 (Int.ofNat fG[i])))(bt:y0 m B h vs ws)(hi:i<(ih fG ws).length)(ad:Ext B h x):
  ∃y,aw Tryz.prog Tryz.f98 none (Y m) [1,1,1,0,1,0,1,1,1,1,1,1,1,0,0,1,0,0] ⟨[(0,.ptr R 0),(4,.str (e8 [32,124,32] ((ih fG ws).take i))),(7,.int .i64 (Int.ofNat i))],[],.none,x⟩ .nrm ⟨[(0,.ptr R 0),(4,.str (e8 [32,124,32] ((ih fG ws).take (i+1)))),(7,.int .i64 (Int.ofNat (i+1)))],[],.none,y⟩/\Ext B h y:=by
 have qj:(ih fG ws).length=vs.length:=by unfold ih;rw[List.length_zipWith];omega
 have ab:i<vs.length:=by omega
 have ae:i<fG.length:=by omega
 have aB:i<ws.length:=by omega
 have eR:=(ad.get R gq).trans au
 obtain⟨M,g6,re⟩:=p6 i ab ae
 have qk:=re x ad
 rcases aJ with⟨_,rfl⟩|⟨b,off,aH,rfl,fg,ij,lE⟩
 · simp at ab
 have aF:av x b (off+i*1)=some (.ptr M 0):=by rw[<-g6];exact(lX ad fg).trans (ij i ab)
 obtain⟨g,c1,c2⟩:=bt i ab aB x ad
 rw[g6] at c1
 have t1:=yS [32,124,32] (ih fG ws) i
 have t2:=uC [32,124,32] (ih fG ws) hi
 have nd:(ih fG ws)[i]=if fG[i]=8 then[40]++ws[i]++[41] else ws[i]:=List.getElem_zipWith (f:=λ(k:Nat) (w:bc)=>if k=8 then[40]++w++[41] else w) (h:=hi)
 refine⟨g,?_,ad.trans (Nat.le_refl _) c2⟩
 rw[yR [32,124,32] (ih fG ws) hi,nd]
 rw[nd] at t2
 by_cases gl:fG[i]=8
 · rw[if_pos gl] at t2⊢
   have t3:ws[i].length+2<=1000000:=by simp at t2;omega
   by_cases az:0<i
   · rw[if_pos az,<-List.append_assoc,<-List.append_assoc]
     exact Ve (Y m) R 0 0 0 b off vs.length i 0 (off+i*1) (i+1) M fG[i] _ _ _ _ _ [] [] ws[i] .bb (.exact 0) aH x g (ar eR rfl) (du ab) (du az) (gx (by simp;omega)) ⟨ab,rfl⟩ aF qk (nv gl) (gx (by simp;omega)) c1 (gx (by simp;omega)) (gx (by simp;omega)) (ki ab (by omega))
   · rw[if_neg az]
     obtain rfl:i=0:=by omega
     exact Vg (Y m) R 0 0 0 b off vs.length 0 0 (off+0*1) 1 M fG[0] _ [] _ _ _ [] [] ws[0] .bb (.exact 0) aH x g (ar eR rfl) (du ab) (dY (by omega)) ⟨ab,rfl⟩ aF qk (nv gl) (gx (x:=[]) (by simp)) c1 (gx (by simp;omega)) (gx (by simp;omega)) (ki ab (by omega))
 · rw[if_neg gl] at t2⊢
   by_cases az:0<i
   · rw[if_pos az]
     exact Vf (Y m) R 0 0 0 b off vs.length i 0 (off+i*1) (i+1) M fG[i] _ _ _ [] [] [] [] ws[i] .bb (.exact 0) aH x g (ar eR rfl) (du ab) (du az) (gx (by simp;omega)) ⟨ab,rfl⟩ aF qk (jX gl) c1 (gx (by simp;omega)) (ki ab (by omega))
   · rw[if_neg az]
     obtain rfl:i=0:=by omega
     exact Vh (Y m) R 0 0 0 b off vs.length 0 0 (off+0*1) 1 M fG[0] _ [] _ [] [] [] [] ws[0] .bb (.exact 0) aH x g (ar eR rfl) (du ab) (dY (by omega)) ⟨ab,rfl⟩ aF qk (jX gl) c1 (gx (x:=[]) (by simp;omega)) (ki ab (by omega))
end Go.Proofs.cT
namespace Go.Proofs.cT
open Go aC Go.Proofs dD
set_option maxRecDepth 100000
set_option maxHeartbeats 1000000
abbrev FH:List J:=[.str [97,110,121],.str [105,110,116],.str [98,111,111,108],.str [115,116,114],.str [110,105,108]]
theorem sE(k:Nat)(b8:bc)(ns:List bc)(xs:List a_)(rt:Option a_):wr (.mk k b8 ns xs rt)=dD.shape k b8 ns (xs.map a_.k) (cR xs) (lA rt):=by rw[wr]
theorem FI{ns ws:List bc}{i:Nat}(hi:i<(hJ ns ws).length)(ab:i<ns.length)(ae:i<ws.length):(hJ ns ws)[i]=ns[i]++[58,32]++ws[i]:=List.getElem_zipWith (f:=λn w=>n++[58,32]++w) (h:=hi)
theorem Lt{fG:List Nat}{ws:List bc}{i:Nat}(hi:i<(ih fG ws).length)(ab:i<fG.length)(ae:i<ws.length):(ih fG ws)[i]=if fG[i]=8 then[40]++ws[i]++[41] else ws[i]:=List.getElem_zipWith (f:=λ(k:Nat) (w:bc)=>if k=8 then[40]++w++[41] else w) (h:=hi)
theorem FJ:∀(K:Nat) (t:a_),sz t<=K->sz t<=90000->okW t=true->(wr t).length<=1000000->∀(m B:Nat) (h:aa) (v:J),sz t+1<=m->B<=h.n->dI B h t v->∃an,Y m (.fn 98) [v] h=.ret (.str (wr t)) an/\Ext B h an
 |0,t,eg,_,_,_,_,_,_,_,_,_,_=>by
  have:=sD t
  omega
 |K+1,.mk k b8 ns xs rt,eg,gz,cp,hR,m,B,h,v,hm,b4,aJ=>by
  obtain⟨R,bk,a6,cZ,vs,bN,lo,up,rfl,ae,aB,aP,cg,dN,fE⟩:=aJ
  rw[uB] at eg gz hm
  rw[sE] at hR
  rw[okW] at cp
  simp only[Bool.and_eq_true,Bool.or_eq_true,decide_eq_true_eq] at cp
  obtain⟨⟨⟨⟨⟨bx,g5⟩,pf⟩,ml⟩,BY⟩,FK⟩:=cp
  obtain⟨m,rfl⟩:∃j,m=j+1:=⟨m-1,by omega⟩
  have h9:=dU.len dN
  have mF:=pb xs
  have lO:=wv xs
  let aq:=(h.push (.cells [.str [],.str [],.str [],.str [],.str []] 153 .own 0 0)).set h.n (some (.cells FH 153 .own 0 0))
  have st:aC.storeCells (h.push (.cells [.str [],.str [],.str [],.str [],.str []] 153 .own 0 0)) h.n 0 FH=some aq:=dP (by rw[aa.e6];exact if_pos rfl) rfl rfl
  have wD:Ext B h aq:=((Ext.push b4 _).fP b4)
  have sF:B<=aq.n:=Nat.le_trans b4 wD.n
  have yG:aq.get h.n=some (.cells FH 153 .own 0 0):=by
   show(aa.set _ _ _).get _=_
   rw[aa.bV,if_pos rfl]
  have oe:=gE.ext wD (Nat.le_refl _)
  have au:=(wD.get R ae).trans aB
  have cn:=aP.b0 oe
  have cz:=cg.b0 oe
  have cV:=dU.b0 oe _ _ dN
  have ej:=dE.b0 oe _ _ fE
  generalize acD:aq=g at*
  have fin:∀s y,aw Tryz.prog Tryz.f98 none (Y m) [1,1,1] ⟨[(0,.ptr R 0),(3,.ptr h.n 0),(4,.str [])],[],.none,g⟩ .ret ⟨[(2,.str s)],[],.none,y⟩->s=wr (.mk k b8 ns xs rt)->Ext B g y->∃an,Y (m+1) (.fn 98) [.ptr R 0] h=.ret (.str (wr (.mk k b8 ns xs rt))) an/\Ext B h an:=λs y al hs ad=>by
   rw[<-hs]
   exact⟨y,dn (intr:=cj) (n:=m) (args:=[.ptr R 0]) Tryz.func98 (by kernel_rfl) rfl (by kernel_rfl) (aw.seq (p:=[]) (by kernel_rfl) (UX (Y m) R h) (aw.seq (p:=[1]) (by kernel_rfl) (UY (Y m) R h g st) (aw.seq (p:=[1,1]) (by kernel_rfl) (UZ (Y m) R h.n g) al))) (.inl rfl) (by kernel_rfl),wD.trans (Nat.le_refl _) ad⟩
  have y2:=U0 (Y m) R h.n k g (ar au rfl)
  have BZ:∀s y,aw Tryz.prog Tryz.f98 none (Y m) [1,1,1,0,1] ⟨[(0,.ptr R 0),(3,.ptr h.n 0),(4,.str []),(12,.int .i64 (Int.ofNat k))],[],.none,g⟩ .ret ⟨[(2,.str s)],[],.none,y⟩->s=wr (.mk k b8 ns xs rt)->Ext B g y->∃an,Y (m+1) (.fn 98) [.ptr R 0] h=.ret (.str (wr (.mk k b8 ns xs rt))) an/\Ext B h an:=λs y al hs ad=>
   fin s y (aw.fW (p:=[1,1,1]) (by kernel_rfl) (aw.seq (p:=[1,1,1,0]) (by kernel_rfl) y2 al) (by simp)) hs ad
  have FL:(∀i (hi:i<(cR xs).length),(cR xs)[i].length<=1000000)->y0 m B g vs (cR xs):=λag i i1 i2 x ad=>by
   have i3:i<xs.length:=by omega
   have nh:=pa (List.getElem_mem i3)
   have jo:=ag i i2
   rw[wx xs i i3 i2] at jo⊢
   exact FJ K xs[i] (by omega) (by omega) (KP BY (List.getElem_mem i3)) jo m B x vs[i] (by omega) (Nat.le_trans sF ad.n) (dI.b0 (gE.ext ad (Nat.le_refl _)) _ _ (dU.get cV i i1 i3))
  by_cases dL:k=6
  · subst dL
    exact BZ b8 g (U1 (Y m) R h.n b8 g (ar au rfl)) (by rw[sE];rfl) (Ext.refl _ _)
  by_cases dz:k=7
  · subst dz
    have wG:xs.length=ns.length:=by rcases pf with pf|pf;exact absurd rfl pf;exact pf
    have qj:(hJ ns (cR xs)).length=vs.length:=by unfold hJ;rw[List.length_zipWith];omega
    have sG:(e8 [44,32] (hJ ns (cR xs))).length<=999998:=by
     have:([123]++e8 [44,32] (hJ ns (cR xs))++[125]:bc).length<=1000000:=hR
     simp at this;omega
    have lq:=FL λi hi=>by
     have t2:=uC [44,32] (hJ ns (cR xs)) (i:=i) (by omega)
     rw[FI (by omega) (by omega) hi] at t2
     simp at t2;omega
    obtain⟨y,bK,bQ⟩:=BX (fn:=Tryz.f98) (call:=Y m) (p:=[1,1,1,0,1,0,1,1,1,0,0,1,0]) (e:=.exit 1) (reg:=5) (R:=R) (B:=B) (N:=vs.length) (h:=g) (sep:=[44,32]) (items:=hJ ns (cR xs)) qj (by simp)
     (λi hi x ad=>Vj ae au cn cz (by omega) (by omega) (by omega) (by omega) (λi i1=>(dU.get cV i i1 (by omega)).snd) lq hi ad)
     (λx s ad=>U7 (Y m) R vs.length vs.length s a6 x (ar ((ad.get R ae).trans au) rfl) cz.m0 (dY (by omega))) vs.length 0 g (by omega) (by omega) (Ext.refl _ _)
    have dW:=ev.run (p:=[1,1,1,0,1,0,1,1,1,0,0,1,0]) (by kernel_rfl) bK (by omega)
    exact BZ _ y (U2 (Y m) R h.n _ _ _ g y (cD.pre dW ⟨rfl,rfl,rfl,trivial⟩ rfl rfl rfl) (gx (by simp;omega)) (gx (by simp;omega))) (by rw[sE];rfl) bQ
  by_cases dX:k=8
  · subst dX
    have sG:(e8 [44,32] (cR xs)).length+(lA rt).length<=999992:=by
     have:([102,110,40]++e8 [44,32] (cR xs)++[41,32,45,62,32]++lA rt:bc).length<=1000000:=hR
     simp at this;omega
    have lq:=FL λi hi=>by
     have t2:=uC [44,32] (cR xs) (i:=i) hi
     omega
    obtain⟨y,bK,bQ⟩:=BX (fn:=Tryz.f98) (call:=Y m) (p:=[1,1,1,0,1,0,1,1,1,1,1,0,0,1,0]) (e:=.exit 3) (reg:=6) (R:=R) (B:=B) (N:=vs.length) (h:=g) (sep:=[44,32]) (items:=cR xs) (by omega) (by simp)
     (λi hi x ad=>Vi ae au cz (by omega) (by omega) (by omega) lq hi ad)
     (λx s ad=>U8 (Y m) R vs.length vs.length s a6 x (ar ((ad.get R ae).trans au) rfl) cz.m0 (dY (by omega))) vs.length 0 g (by omega) (by omega) (Ext.refl _ _)
    have dW:=ev.run (p:=[1,1,1,0,1,0,1,1,1,1,1,0,0,1,0]) (by kernel_rfl) bK (by omega)
    cases rt with
    |none=>rcases ml with ml|ml<;>simp at ml
    |some u=>
     rw[lW] at eg gz hm
     have B0:lA (some u)=wr u:=by rw[lA]
     obtain⟨z,c1,c2⟩:=FJ K u (by omega) (by omega) (by rw[yT] at FK;exact FK) (by rw[<-B0];omega) m B y cZ (by omega) (Nat.le_trans sF bQ.n) (dI.b0 (gE.ext bQ (Nat.le_refl _)) _ _ ej)
     rw[<-B0] at c1
     exact BZ _ z (U3 (Y m) R h.n _ _ _ _ _ cZ g y z (cD.pre dW ⟨rfl,rfl,rfl,trivial⟩ rfl rfl rfl) (gx (by simp;omega)) (gx (by simp;omega)) (ar ((bQ.get R ae).trans au) rfl) c1 (gx (by simp;omega))) (by rw[sE];rfl) (bQ.trans (Nat.le_refl _) c2)
  by_cases fb:k=9
  · subst fb
    have qj:(ih (xs.map a_.k) (cR xs)).length=vs.length:=by unfold ih;rw[List.length_zipWith,List.length_map];omega
    have sG:(e8 [32,124,32] (ih (xs.map a_.k) (cR xs))).length<=1000000:=hR
    have lq:=FL λi hi=>by
     have t2:=uC [32,124,32] (ih (xs.map a_.k) (cR xs)) (i:=i) (by omega)
     rw[Lt (by omega) (by rw[List.length_map];omega) hi] at t2
     split at t2
     · simp at t2;omega
     · omega
    have p6:∀i (ab:i<vs.length) (ae:i<(xs.map a_.k).length),∃M,vs[i]=.ptr M 0/\∀x,Ext B g x->av x M (0+0)=some (.int .i64 (Int.ofNat (xs.map a_.k)[i])):=λi i1 i2=>by
     have i3:i<xs.length:=by omega
     have bh:=dU.get cV i i1 i3
     have y3:(xs.map a_.k)[i]=(xs[i]).k:=List.getElem_map a_.k
     rw[y3]
     cases ad:xs[i] with
     |mk dG eJ h8 lx oc=>
      rw[ad] at bh
      obtain⟨M,_,_,_,_,_,_,_,aF,aG,bJ,_⟩:=bh
      exact⟨M,aF,λx kM=>ar ((kM.get M aG).trans bJ) rfl⟩
    obtain⟨y,bK,bQ⟩:=BX (fn:=Tryz.f98) (call:=Y m) (p:=[1,1,1,0,1,0,1,1,1,1,1,1,1,0,0,1,0]) (e:=.exit 5) (reg:=7) (R:=R) (B:=B) (N:=vs.length) (h:=g) (sep:=[32,124,32]) (items:=ih (xs.map a_.k) (cR xs)) qj (by simp)
     (λi hi x ad=>Vk ae au cz (by rw[List.length_map];omega) (by omega) (by omega) sG p6 lq hi ad)
     (λx s ad=>U9 (Y m) R vs.length vs.length s a6 x (ar ((ad.get R ae).trans au) rfl) cz.m0 (dY (by omega))) vs.length 0 g (by omega) (by omega) (Ext.refl _ _)
    have dW:=ev.run (p:=[1,1,1,0,1,0,1,1,1,1,1,1,1,0,0,1,0]) (by kernel_rfl) bK (by omega)
    exact BZ _ y (U4 (Y m) R h.n _ g y (cD.pre dW ⟨rfl,rfl,rfl,trivial⟩ rfl rfl rfl)) (by rw[sE];rfl) bQ
  · have Vl:=U5 (Y m) R h.n k g (jX dL) (jX dz) (jX dX) (jX fb)
    have hw:wr (.mk k b8 ns xs rt)=word k:=by
     rw[sE];unfold dD.shape
     rw[if_neg dL,if_neg dz,if_neg dX,if_neg fb]
    have acE:k<=5:=by omega
    have Vm:av g h.n (0+(k-1)*1)=some (.str (word k)):=by
     refine ar yG ?_
     have:k=1\/k=2\/k=3\/k=4\/k=5:=by omega
     rcases this with rfl|rfl|rfl|rfl|rfl<;>rfl
    exact fin (word k) g (aw.seq (p:=[1,1,1]) (by kernel_rfl) (aw.seq (p:=[1,1,1,0]) (by kernel_rfl) y2 Vl) (U6 (Y m) R h.n k (k-1) (0+(k-1)*1) (word k) g (ar au rfl) (nu bx (by omega)) ⟨(by show k-1+1<=5;omega),rfl⟩ Vm)) hw.symm (Ext.refl _ _)
end Go.Proofs.cT
