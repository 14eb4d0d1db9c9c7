/-
  PROVED HERE: contracts of functions (Db). No condition beside each statement's own.
-/
import Derived.Test.YtjkomfonmcmgdaaGreatDoorDa
set_option linter.unusedVariables false
set_option linter.unusedSimpArgs false
namespace Go.Proofs.cG
open Go aP Go.Proofs c8
set_option maxRecDepth 100000
set_option maxHeartbeats 1000000
theorem U3(call:aI->List I->J->av)(n:Nat)(h:J)
  (H1:fh (.ofNat 97) (.ofNat n)=true)
  (aR:fh (.ofNat n) (.ofNat 122)=true):
  aL Tryz.prog Tryz.f103 none call [] (ah.mk [(0,.int .u8 (.ofNat n))] [] .none h) (.ret)
   (ah.mk [(2,.bool true)] [] .none h):=
 bI [2] (hs:=[.b true,.b true,.b true,.b true,.b true,.b true,.b true,.b true,.b true,.b true,.b true]) (by kernel_rfl)<| .cons H1<| .cons H1<| .cons H1<| .cons aR<| .cons aR<| .cons aR<| .cons aR<| .cons aR<| .cons (by kernel_rfl:true=true)<| .cons (by kernel_rfl:true=true)<| .cons (by kernel_rfl:true=true)<| .nil
theorem U4(call:aI->List I->J->av)(n:Nat)(h:J)
  (H1:fh (.ofNat 97) (.ofNat n)=true)
  (aR:fh (.ofNat n) (.ofNat 122)=false)
  (br:fh (.ofNat 65) (.ofNat n)=true)
  (bp:fh (.ofNat n) (.ofNat 90)=false):
  aL Tryz.prog Tryz.f103 none call [] (ah.mk [(0,.int .u8 (.ofNat n))] [] .none h) (.ret)
   (ah.mk [(2,.bool (a_ (.ofNat n) (.ofNat 95)))] [] .none h):=
 bI [2] (hs:=[.b true,.b true,.b true,.b false,.b false,.b false,.b true,.b true,.b false,.b true,.b false,.b false,.b false,.b false]) (by kernel_rfl)<| .cons H1<| .cons H1<| .cons H1<| .cons aR<| .cons aR<| .cons aR<| .cons br<| .cons br<| .cons aR<| .cons br<| .cons aR<| .cons bp<| .cons bp<| .cons bp<| .nil
theorem U5(call:aI->List I->J->av)(n:Nat)(h:J)
  (H1:fh (.ofNat 97) (.ofNat n)=false)
  (aR:fh (.ofNat 65) (.ofNat n)=true)
  (br:fh (.ofNat n) (.ofNat 90)=true):
  aL Tryz.prog Tryz.f103 none call [] (ah.mk [(0,.int .u8 (.ofNat n))] [] .none h) (.ret)
   (ah.mk [(2,.bool true)] [] .none h):=
 bI [2] (hs:=[.b false,.b false,.b false,.b false,.b false,.b false,.b true,.b true,.b false,.b true,.b false,.b true,.b true,.b true]) (by kernel_rfl)<| .cons H1<| .cons H1<| .cons H1<| .cons (by kernel_rfl:false=false)<| .cons (by kernel_rfl:false=false)<| .cons (by kernel_rfl:false=false)<| .cons aR<| .cons aR<| .cons (by kernel_rfl:false=false)<| .cons aR<| .cons (by kernel_rfl:false=false)<| .cons br<| .cons br<| .cons br<| .nil
theorem U6(call:aI->List I->J->av)(n:Nat)(h:J)
  (H1:fh (.ofNat 97) (.ofNat n)=false)
  (aR:fh (.ofNat 65) (.ofNat n)=true)
  (br:fh (.ofNat n) (.ofNat 90)=false):
  aL Tryz.prog Tryz.f103 none call [] (ah.mk [(0,.int .u8 (.ofNat n))] [] .none h) (.ret)
   (ah.mk [(2,.bool (a_ (.ofNat n) (.ofNat 95)))] [] .none h):=
 bI [2] (hs:=[.b false,.b false,.b false,.b false,.b false,.b false,.b true,.b true,.b false,.b true,.b false,.b false,.b false,.b false]) (by kernel_rfl)<| .cons H1<| .cons H1<| .cons H1<| .cons (by kernel_rfl:false=false)<| .cons (by kernel_rfl:false=false)<| .cons (by kernel_rfl:false=false)<| .cons aR<| .cons aR<| .cons (by kernel_rfl:false=false)<| .cons aR<| .cons (by kernel_rfl:false=false)<| .cons br<| .cons br<| .cons br<| .nil
theorem U7(call:aI->List I->J->av)(n:Nat)(h:J)
  (H1:fh (.ofNat 97) (.ofNat n)=false)
  (aR:fh (.ofNat 65) (.ofNat n)=false):
  aL Tryz.prog Tryz.f103 none call [] (ah.mk [(0,.int .u8 (.ofNat n))] [] .none h) (.ret)
   (ah.mk [(2,.bool (a_ (.ofNat n) (.ofNat 95)))] [] .none h):=
 bI [2] (hs:=[.b false,.b false,.b false,.b false,.b false,.b false,.b false,.b false,.b false,.b false,.b false,.b false,.b false,.b false]) (by kernel_rfl)<| .cons H1<| .cons H1<| .cons H1<| .cons (by kernel_rfl:false=false)<| .cons (by kernel_rfl:false=false)<| .cons (by kernel_rfl:false=false)<| .cons aR<| .cons aR<| .cons (by kernel_rfl:false=false)<| .cons aR<| .cons (by kernel_rfl:false=false)<| .cons (by kernel_rfl:false=false)<| .cons (by kernel_rfl:false=false)<| .cons (by kernel_rfl:false=false)<| .nil
theorem U8(call:aI->List I->J->av)(s:List UInt8)(n:Nat)(b:Bool)(h g:J)
  (H1:bM (.ofNat (List.length s)) (.ofNat 1)=true):
  aL Tryz.prog Tryz.f76 none call [1,0] (ah.mk [(0,.str s)] [] .none h) (.ret)
   (ah.mk [(0,.str s),(2,.bool false)] [] .none h):=
 bI [0,2] (hs:=[.b true,.b true,.b true,.b true,.b true,.b true,.b true,.b true,.b true,.b true]) (by kernel_rfl)<| .cons H1<| .cons H1<| .cons H1<| .cons H1<| .cons (by kernel_rfl:true=true)<| .cons (by kernel_rfl:true=true)<| .cons (by kernel_rfl:true=true)<| .cons (by kernel_rfl:true=true)<| .cons (by kernel_rfl:true=true)<| .cons (by kernel_rfl:true=true)<| .nil
theorem U9(call:aI->List I->J->av)(s:List UInt8)(n:Nat)(b:Bool)(h g:J)
  (H1:bM (.ofNat (List.length s)) (.ofNat 1)=false)
  (aR:bM (.ofNat 24) (.ofNat (List.length s))=true):
  aL Tryz.prog Tryz.f76 none call [1,0] (ah.mk [(0,.str s)] [] .none h) (.ret)
   (ah.mk [(0,.str s),(2,.bool false)] [] .none h):=
 bI [0,2] (hs:=[.b false,.b false,.b false,.b false,.b true,.b true,.b true,.b true,.b true,.b true]) (by kernel_rfl)<| .cons H1<| .cons H1<| .cons H1<| .cons H1<| .cons aR<| .cons aR<| .cons aR<| .cons aR<| .cons aR<| .cons (by kernel_rfl:true=true)<| .nil
theorem U_(call:aI->List I->J->av)(s:List UInt8)(n:Nat)(b:Bool)(h g:J)
  (H1:bM (.ofNat (List.length s)) (.ofNat 1)=false)
  (aR:bM (.ofNat 24) (.ofNat (List.length s))=false)
  (br:gQ 0 s=some (.int .u8 (.ofNat n)))
  (bp:call (.fn 103) [.int .u8 (.ofNat n)] h=av.ret (.bool b) g)
  (b1:(!b)=true):
  aL Tryz.prog Tryz.f76 none call [1,0] (ah.mk [(0,.str s)] [] .none h) (.ret)
   (ah.mk [(0,.str s),(2,.bool false)] [] .none g):=
 bI [0,2] (hs:=[.b false,.b false,.b false,.b false,.b false,.b false,.v (.int .u8 (.ofNat n)),.b false,.c (.bool b) g,.b false,.b false,.b true]) (by kernel_rfl)<| .cons H1<| .cons H1<| .cons H1<| .cons H1<| .cons aR<| .cons aR<| .cons br<| .cons aR<| .cons bp<| .cons aR<| .cons aR<| .cons b1<| .nil
theorem Va(call:aI->List I->J->av)(s:List UInt8)(n:Nat)(b:Bool)(h g:J)
  (H1:bM (.ofNat (List.length s)) (.ofNat 1)=false)
  (aR:bM (.ofNat 24) (.ofNat (List.length s))=false)
  (br:gQ 0 s=some (.int .u8 (.ofNat n)))
  (bp:call (.fn 103) [.int .u8 (.ofNat n)] h=av.ret (.bool b) g)
  (b1:(!b)=false):
  aL Tryz.prog Tryz.f76 none call [1,0] (ah.mk [(0,.str s)] [] .none h) (.nrm)
   (ah.mk [(0,.str s)] [] .none g):=
 bI [0,2] (hs:=[.b false,.b false,.b false,.b false,.b false,.b false,.v (.int .u8 (.ofNat n)),.b false,.c (.bool b) g,.b false,.b false,.b false]) (by kernel_rfl)<| .cons H1<| .cons H1<| .cons H1<| .cons H1<| .cons aR<| .cons aR<| .cons br<| .cons aR<| .cons bp<| .cons aR<| .cons aR<| .cons b1<| .nil
theorem LD(call:aI->List I->J->av)(s:List UInt8)(h:J):
  aL Tryz.prog Tryz.f76 none call [1,1,0,0] (ah.mk [(0,.str s)] [] .none h) (.nrm)
   (ah.mk [(0,.str s),(3,.int .i64 (.ofNat 0))] [] .none h):=
 bI [0,3] (hs:=[]) (by kernel_rfl)<| .nil
theorem Vb(call:aI->List I->J->av)(h:J):
  aL Tryz.prog Tryz.f76 none call [1,1,1] (ah.mk [] [] .none h) (.ret)
   (ah.mk [(2,.bool true)] [] .none h):=
 bI [2] (hs:=[]) (by kernel_rfl)<| .nil
theorem Vc(call:aI->List I->J->av)(s:List UInt8)(h:J)
  (H1:bM (.ofNat (List.length s)) (.ofNat 1)=true):
  aL Tryz.prog Tryz.f81 none call [1,0] (ah.mk [(0,.str s)] [] .none h) (.ret)
   (ah.mk [(0,.str s),(2,.bool false)] [] .none h):=
 bI [0,2] (hs:=[.b true,.b true,.b true,.b true,.b true]) (by kernel_rfl)<| .cons H1<| .cons H1<| .cons H1<| .cons H1<| .cons (by kernel_rfl:true=true)<| .nil
theorem Vd(call:aI->List I->J->av)(s:List UInt8)(h:J)
  (H1:bM (.ofNat (List.length s)) (.ofNat 1)=false)
  (aR:bM (.ofNat 161) (.ofNat (List.length s))=true):
  aL Tryz.prog Tryz.f81 none call [1,0] (ah.mk [(0,.str s)] [] .none h) (.ret)
   (ah.mk [(0,.str s),(2,.bool false)] [] .none h):=
 bI [0,2] (hs:=[.b false,.b false,.b false,.b false,.b true]) (by kernel_rfl)<| .cons H1<| .cons H1<| .cons H1<| .cons H1<| .cons aR<| .nil
theorem Ve(call:aI->List I->J->av)(s:List UInt8)(h:J)
  (H1:bM (.ofNat (List.length s)) (.ofNat 1)=false)
  (aR:bM (.ofNat 161) (.ofNat (List.length s))=false):
  aL Tryz.prog Tryz.f81 none call [1,0] (ah.mk [(0,.str s)] [] .none h) (.nrm)
   (ah.mk [(0,.str s)] [] .none h):=
 bI [0,2] (hs:=[.b false,.b false,.b false,.b false,.b false]) (by kernel_rfl)<| .cons H1<| .cons H1<| .cons H1<| .cons H1<| .cons aR<| .nil
theorem LF(call:aI->List I->J->av)(s:List UInt8)(h:J):
  aL Tryz.prog Tryz.f81 none call [1,1,0,0] (ah.mk [(0,.str s)] [] .none h) (.nrm)
   (ah.mk [(0,.str s),(3,.int .i64 (.ofNat 0))] [] .none h):=
 bI [0,3] (hs:=[]) (by kernel_rfl)<| .nil
theorem Vf(call:aI->List I->J->av)(s:List UInt8)(i n j:Nat)(b:Bool)(h g:J)
  (H1:bM (.ofNat i) (.ofNat (List.length s))=true)
  (aR:gQ i s=some (.int .u8 (.ofNat n)))
  (br:call (.fn 103) [.int .u8 (.ofNat n)] h=av.ret (.bool b) g)
  (bp:(!b)=true)
  (b1:bM (.ofNat n) (.ofNat 48)=true)
  (cL:(!a_ (.ofNat n) (.ofNat 45))=true)
  (dr:(!a_ (.ofNat n) (.ofNat 47))=true)
  (gC:(!a_ (.ofNat n) (.ofNat 46))=true):
  aL Tryz.prog Tryz.f81 none call [1,1,0,1,0,0] (ah.mk [(0,.str s),(3,.int .i64 (.ofNat i))] [] .none h) (.ret)
   (ah.mk [(0,.str s),(2,.bool false),(3,.int .i64 (.ofNat i))] [] .none g):=
 bI [0,2,3] (hs:=[.b true,.v (.int .u8 (.ofNat n)),.c (.bool b) g,.b true,.b true,.b true,.b true,.b true,.b true,.b true,.b true,.b true,.b true,.b true,.b true,.b true,.b true,.b true,.b true,.b true,.b true]) (by kernel_rfl)<| .cons H1<| .cons aR<| .cons br<| .cons bp<| .cons bp<| .cons bp<| .cons b1<| .cons b1<| .cons bp<| .cons b1<| .cons bp<| .cons (by kernel_rfl:true=true)<| .cons (by kernel_rfl:true=true)<| .cons (by kernel_rfl:true=true)<| .cons cL<| .cons cL<| .cons cL<| .cons dr<| .cons dr<| .cons dr<| .cons gC<| .nil
theorem Vg(call:aI->List I->J->av)(s:List UInt8)(i n j:Nat)(b:Bool)(h g:J)
  (H1:bM (.ofNat i) (.ofNat (List.length s))=true)
  (aR:gQ i s=some (.int .u8 (.ofNat n)))
  (br:call (.fn 103) [.int .u8 (.ofNat n)] h=av.ret (.bool b) g)
  (bp:(!b)=true)
  (b1:bM (.ofNat n) (.ofNat 48)=true)
  (cL:(!a_ (.ofNat n) (.ofNat 45))=true)
  (dr:(!a_ (.ofNat n) (.ofNat 47))=true)
  (gC:(!a_ (.ofNat n) (.ofNat 46))=false)
  (jN:arith .add .i64 (.ofNat i) (.ofNat 1)=some (.int .i64 (.ofNat j))):
  aL Tryz.prog Tryz.f81 none call [1,1,0,1,0,0] (ah.mk [(0,.str s),(3,.int .i64 (.ofNat i))] [] .none h) (.nrm)
   (ah.mk [(0,.str s),(3,.int .i64 (.ofNat j))] [] .none g):=
 bI [0,2,3] (hs:=[.b true,.v (.int .u8 (.ofNat n)),.c (.bool b) g,.b true,.b true,.b true,.b true,.b true,.b true,.b true,.b true,.b true,.b true,.b true,.b true,.b true,.b true,.b true,.b true,.b true,.b false,.v (.int .i64 (.ofNat j))]) (by kernel_rfl)<| .cons H1<| .cons aR<| .cons br<| .cons bp<| .cons bp<| .cons bp<| .cons b1<| .cons b1<| .cons bp<| .cons b1<| .cons bp<| .cons (by kernel_rfl:true=true)<| .cons (by kernel_rfl:true=true)<| .cons (by kernel_rfl:true=true)<| .cons cL<| .cons cL<| .cons cL<| .cons dr<| .cons dr<| .cons dr<| .cons gC<| .cons jN<| .nil
theorem Vh(call:aI->List I->J->av)(s:List UInt8)(i n j:Nat)(b:Bool)(h g:J)
  (H1:bM (.ofNat i) (.ofNat (List.length s))=true)
  (aR:gQ i s=some (.int .u8 (.ofNat n)))
  (br:call (.fn 103) [.int .u8 (.ofNat n)] h=av.ret (.bool b) g)
  (bp:(!b)=true)
  (b1:bM (.ofNat n) (.ofNat 48)=true)
  (cL:(!a_ (.ofNat n) (.ofNat 45))=true)
  (dr:(!a_ (.ofNat n) (.ofNat 47))=false)
  (gC:arith .add .i64 (.ofNat i) (.ofNat 1)=some (.int .i64 (.ofNat j))):
  aL Tryz.prog Tryz.f81 none call [1,1,0,1,0,0] (ah.mk [(0,.str s),(3,.int .i64 (.ofNat i))] [] .none h) (.nrm)
   (ah.mk [(0,.str s),(3,.int .i64 (.ofNat j))] [] .none g):=
 bI [0,2,3] (hs:=[.b true,.v (.int .u8 (.ofNat n)),.c (.bool b) g,.b true,.b true,.b true,.b true,.b true,.b true,.b true,.b true,.b true,.b true,.b true,.b true,.b true,.b true,.b false,.b false,.b false,.b false,.v (.int .i64 (.ofNat j))]) (by kernel_rfl)<| .cons H1<| .cons aR<| .cons br<| .cons bp<| .cons bp<| .cons bp<| .cons b1<| .cons b1<| .cons bp<| .cons b1<| .cons bp<| .cons (by kernel_rfl:true=true)<| .cons (by kernel_rfl:true=true)<| .cons (by kernel_rfl:true=true)<| .cons cL<| .cons cL<| .cons cL<| .cons dr<| .cons dr<| .cons dr<| .cons (by kernel_rfl:false=false)<| .cons gC<| .nil
theorem Vi(call:aI->List I->J->av)(s:List UInt8)(i n j:Nat)(b:Bool)(h g:J)
  (H1:bM (.ofNat i) (.ofNat (List.length s))=true)
  (aR:gQ i s=some (.int .u8 (.ofNat n)))
  (br:call (.fn 103) [.int .u8 (.ofNat n)] h=av.ret (.bool b) g)
  (bp:(!b)=true)
  (b1:bM (.ofNat n) (.ofNat 48)=true)
  (cL:(!a_ (.ofNat n) (.ofNat 45))=false)
  (dr:arith .add .i64 (.ofNat i) (.ofNat 1)=some (.int .i64 (.ofNat j))):
  aL Tryz.prog Tryz.f81 none call [1,1,0,1,0,0] (ah.mk [(0,.str s),(3,.int .i64 (.ofNat i))] [] .none h) (.nrm)
   (ah.mk [(0,.str s),(3,.int .i64 (.ofNat j))] [] .none g):=
 bI [0,2,3] (hs:=[.b true,.v (.int .u8 (.ofNat n)),.c (.bool b) g,.b true,.b true,.b true,.b true,.b true,.b true,.b true,.b true,.b true,.b true,.b true,.b false,.b false,.b false,.b false,.b false,.b false,.b false,.v (.int .i64 (.ofNat j))]) (by kernel_rfl)<| .cons H1<| .cons aR<| .cons br<| .cons bp<| .cons bp<| .cons bp<| .cons b1<| .cons b1<| .cons bp<| .cons b1<| .cons bp<| .cons (by kernel_rfl:true=true)<| .cons (by kernel_rfl:true=true)<| .cons (by kernel_rfl:true=true)<| .cons cL<| .cons cL<| .cons cL<| .cons (by kernel_rfl:false=false)<| .cons (by kernel_rfl:false=false)<| .cons (by kernel_rfl:false=false)<| .cons (by kernel_rfl:false=false)<| .cons dr<| .nil
theorem Vj(call:aI->List I->J->av)(s:List UInt8)(i n j:Nat)(b:Bool)(h g:J)
  (H1:bM (.ofNat i) (.ofNat (List.length s))=true)
  (aR:gQ i s=some (.int .u8 (.ofNat n)))
  (br:call (.fn 103) [.int .u8 (.ofNat n)] h=av.ret (.bool b) g)
  (bp:(!b)=true)
  (b1:bM (.ofNat n) (.ofNat 48)=false)
  (cL:bM (.ofNat 57) (.ofNat n)=true)
  (dr:(!a_ (.ofNat n) (.ofNat 45))=true)
  (gC:(!a_ (.ofNat n) (.ofNat 47))=true)
  (jN:(!a_ (.ofNat n) (.ofNat 46))=true):
  aL Tryz.prog Tryz.f81 none call [1,1,0,1,0,0] (ah.mk [(0,.str s),(3,.int .i64 (.ofNat i))] [] .none h) (.ret)
   (ah.mk [(0,.str s),(2,.bool false),(3,.int .i64 (.ofNat i))] [] .none g):=
 bI [0,2,3] (hs:=[.b true,.v (.int .u8 (.ofNat n)),.c (.bool b) g,.b true,.b true,.b true,.b false,.b false,.b true,.b false,.b true,.b true,.b true,.b true,.b true,.b true,.b true,.b true,.b true,.b true,.b true]) (by kernel_rfl)<| .cons H1<| .cons aR<| .cons br<| .cons bp<| .cons bp<| .cons bp<| .cons b1<| .cons b1<| .cons bp<| .cons b1<| .cons bp<| .cons cL<| .cons cL<| .cons cL<| .cons dr<| .cons dr<| .cons dr<| .cons gC<| .cons gC<| .cons gC<| .cons jN<| .nil
theorem Vk(call:aI->List I->J->av)(s:List UInt8)(i n j:Nat)(b:Bool)(h g:J)
  (H1:bM (.ofNat i) (.ofNat (List.length s))=true)
  (aR:gQ i s=some (.int .u8 (.ofNat n)))
  (br:call (.fn 103) [.int .u8 (.ofNat n)] h=av.ret (.bool b) g)
  (bp:(!b)=true)
  (b1:bM (.ofNat n) (.ofNat 48)=false)
  (cL:bM (.ofNat 57) (.ofNat n)=false)
  (dr:arith .add .i64 (.ofNat i) (.ofNat 1)=some (.int .i64 (.ofNat j))):
  aL Tryz.prog Tryz.f81 none call [1,1,0,1,0,0] (ah.mk [(0,.str s),(3,.int .i64 (.ofNat i))] [] .none h) (.nrm)
   (ah.mk [(0,.str s),(3,.int .i64 (.ofNat j))] [] .none g):=
 bI [0,2,3] (hs:=[.b true,.v (.int .u8 (.ofNat n)),.c (.bool b) g,.b true,.b true,.b true,.b false,.b false,.b true,.b false,.b true,.b false,.b false,.b false,.b false,.b false,.b false,.b false,.b false,.b false,.b false,.v (.int .i64 (.ofNat j))]) (by kernel_rfl)<| .cons H1<| .cons aR<| .cons br<| .cons bp<| .cons bp<| .cons bp<| .cons b1<| .cons b1<| .cons bp<| .cons b1<| .cons bp<| .cons cL<| .cons cL<| .cons cL<| .cons (by kernel_rfl:false=false)<| .cons (by kernel_rfl:false=false)<| .cons (by kernel_rfl:false=false)<| .cons (by kernel_rfl:false=false)<| .cons (by kernel_rfl:false=false)<| .cons (by kernel_rfl:false=false)<| .cons (by kernel_rfl:false=false)<| .cons dr<| .nil
theorem Vl(call:aI->List I->J->av)(s:List UInt8)(i n j:Nat)(b:Bool)(h g:J)
  (H1:bM (.ofNat i) (.ofNat (List.length s))=true)
  (aR:gQ i s=some (.int .u8 (.ofNat n)))
  (br:call (.fn 103) [.int .u8 (.ofNat n)] h=av.ret (.bool b) g)
  (bp:(!b)=false)
  (b1:arith .add .i64 (.ofNat i) (.ofNat 1)=some (.int .i64 (.ofNat j))):
  aL Tryz.prog Tryz.f81 none call [1,1,0,1,0,0] (ah.mk [(0,.str s),(3,.int .i64 (.ofNat i))] [] .none h) (.nrm)
   (ah.mk [(0,.str s),(3,.int .i64 (.ofNat j))] [] .none g):=
 bI [0,2,3] (hs:=[.b true,.v (.int .u8 (.ofNat n)),.c (.bool b) g,.b false,.b false,.b false,.b false,.b false,.b false,.b false,.b false,.b false,.b false,.b false,.b false,.b false,.b false,.b false,.v (.int .i64 (.ofNat j))]) (by kernel_rfl)<| .cons H1<| .cons aR<| .cons br<| .cons bp<| .cons bp<| .cons bp<| .cons bp<| .cons bp<| .cons (by kernel_rfl:false=false)<| .cons (by kernel_rfl:false=false)<| .cons (by kernel_rfl:false=false)<| .cons (by kernel_rfl:false=false)<| .cons (by kernel_rfl:false=false)<| .cons (by kernel_rfl:false=false)<| .cons (by kernel_rfl:false=false)<| .cons (by kernel_rfl:false=false)<| .cons (by kernel_rfl:false=false)<| .cons (by kernel_rfl:false=false)<| .cons b1<| .nil
theorem Vm(call:aI->List I->J->av)(s:List UInt8)(i n j:Nat)(b:Bool)(h g:J)
  (H1:bM (.ofNat i) (.ofNat (List.length s))=false):
  aL Tryz.prog Tryz.f81 none call [1,1,0,1,0,0] (ah.mk [(0,.str s),(3,.int .i64 (.ofNat i))] [] .none h) (.exit 0)
   (ah.mk [(0,.str s),(3,.int .i64 (.ofNat i))] [] .none h):=
 bI [0,2,3] (hs:=[.b false]) (by kernel_rfl)<| .cons H1<| .nil
theorem Vn(call:aI->List I->J->av)(h:J):
  aL Tryz.prog Tryz.f81 none call [1,1,1] (ah.mk [] [] .none h) (.ret)
   (ah.mk [(2,.bool true)] [] .none h):=
 bI [2] (hs:=[]) (by kernel_rfl)<| .nil
theorem Vo(call:aI->List I->J->av)(s:List UInt8)(i n j:Nat)(b:Bool)(h g:J)
  (H1:bM (.ofNat i) (.ofNat (List.length s))=true)
  (aR:gQ i s=some (.int .u8 (.ofNat n)))
  (br:call (.fn 103) [.int .u8 (.ofNat n)] h=av.ret (.bool b) g)
  (bp:(!b)=true)
  (b1:bM (.ofNat n) (.ofNat 48)=true):
  aL Tryz.prog Tryz.f76 none call [1,1,0,1,0,0] (ah.mk [(0,.str s),(3,.int .i64 (.ofNat i))] [] .none h) (.ret)
   (ah.mk [(0,.str s),(2,.bool false),(3,.int .i64 (.ofNat i))] [] .none g):=
 bI [0,2,3] (hs:=[.b true,.v (.int .u8 (.ofNat n)),.c (.bool b) g,.b true,.b true,.b true,.v (.int .u8 (.ofNat n)),.b true,.b true,.b true,.b true,.b true,.b true,.b true,.b true,.b true,.b true]) (by kernel_rfl)<| .cons H1<| .cons aR<| .cons br<| .cons bp<| .cons bp<| .cons bp<| .cons aR<| .cons bp<| .cons bp<| .cons b1<| .cons b1<| .cons b1<| .cons b1<| .cons bp<| .cons b1<| .cons bp<| .cons (by kernel_rfl:true=true)<| .nil
theorem Vp(call:aI->List I->J->av)(s:List UInt8)(i n j:Nat)(b:Bool)(h g:J)
  (H1:bM (.ofNat i) (.ofNat (List.length s))=true)
  (aR:gQ i s=some (.int .u8 (.ofNat n)))
  (br:call (.fn 103) [.int .u8 (.ofNat n)] h=av.ret (.bool b) g)
  (bp:(!b)=true)
  (b1:bM (.ofNat n) (.ofNat 48)=false)
  (cL:bM (.ofNat 57) (.ofNat n)=true):
  aL Tryz.prog Tryz.f76 none call [1,1,0,1,0,0] (ah.mk [(0,.str s),(3,.int .i64 (.ofNat i))] [] .none h) (.ret)
   (ah.mk [(0,.str s),(2,.bool false),(3,.int .i64 (.ofNat i))] [] .none g):=
 bI [0,2,3] (hs:=[.b true,.v (.int .u8 (.ofNat n)),.c (.bool b) g,.b true,.b true,.b true,.v (.int .u8 (.ofNat n)),.b true,.b true,.b false,.b false,.b false,.v (.int .u8 (.ofNat n)),.b false,.b true,.b false,.b true,.b true]) (by kernel_rfl)<| .cons H1<| .cons aR<| .cons br<| .cons bp<| .cons bp<| .cons bp<| .cons aR<| .cons bp<| .cons bp<| .cons b1<| .cons b1<| .cons b1<| .cons aR<| .cons b1<| .cons bp<| .cons b1<| .cons bp<| .cons cL<| .nil
theorem Vq(call:aI->List I->J->av)(s:List UInt8)(i n j:Nat)(b:Bool)(h g:J)
  (H1:bM (.ofNat i) (.ofNat (List.length s))=true)
  (aR:gQ i s=some (.int .u8 (.ofNat n)))
  (br:call (.fn 103) [.int .u8 (.ofNat n)] h=av.ret (.bool b) g)
  (bp:(!b)=true)
  (b1:bM (.ofNat n) (.ofNat 48)=false)
  (cL:bM (.ofNat 57) (.ofNat n)=false)
  (dr:arith .add .i64 (.ofNat i) (.ofNat 1)=some (.int .i64 (.ofNat j))):
  aL Tryz.prog Tryz.f76 none call [1,1,0,1,0,0] (ah.mk [(0,.str s),(3,.int .i64 (.ofNat i))] [] .none h) (.nrm)
   (ah.mk [(0,.str s),(3,.int .i64 (.ofNat j))] [] .none g):=
 bI [0,2,3] (hs:=[.b true,.v (.int .u8 (.ofNat n)),.c (.bool b) g,.b true,.b true,.b true,.v (.int .u8 (.ofNat n)),.b true,.b true,.b false,.b false,.b false,.v (.int .u8 (.ofNat n)),.b false,.b true,.b false,.b true,.b false,.v (.int .i64 (.ofNat j))]) (by kernel_rfl)<| .cons H1<| .cons aR<| .cons br<| .cons bp<| .cons bp<| .cons bp<| .cons aR<| .cons bp<| .cons bp<| .cons b1<| .cons b1<| .cons b1<| .cons aR<| .cons b1<| .cons bp<| .cons b1<| .cons bp<| .cons cL<| .cons dr<| .nil
theorem Vr(call:aI->List I->J->av)(s:List UInt8)(i n j:Nat)(b:Bool)(h g:J)
  (H1:bM (.ofNat i) (.ofNat (List.length s))=true)
  (aR:gQ i s=some (.int .u8 (.ofNat n)))
  (br:call (.fn 103) [.int .u8 (.ofNat n)] h=av.ret (.bool b) g)
  (bp:(!b)=false)
  (b1:arith .add .i64 (.ofNat i) (.ofNat 1)=some (.int .i64 (.ofNat j))):
  aL Tryz.prog Tryz.f76 none call [1,1,0,1,0,0] (ah.mk [(0,.str s),(3,.int .i64 (.ofNat i))] [] .none h) (.nrm)
   (ah.mk [(0,.str s),(3,.int .i64 (.ofNat j))] [] .none g):=
 bI [0,2,3] (hs:=[.b true,.v (.int .u8 (.ofNat n)),.c (.bool b) g,.b false,.b false,.b false,.b false,.b false,.b false,.b false,.b false,.v (.int .i64 (.ofNat j))]) (by kernel_rfl)<| .cons H1<| .cons aR<| .cons br<| .cons bp<| .cons bp<| .cons bp<| .cons bp<| .cons bp<| .cons bp<| .cons bp<| .cons (by kernel_rfl:false=false)<| .cons b1<| .nil
theorem Vs(call:aI->List I->J->av)(s:List UInt8)(i n j:Nat)(b:Bool)(h g:J)
  (H1:bM (.ofNat i) (.ofNat (List.length s))=false):
  aL Tryz.prog Tryz.f76 none call [1,1,0,1,0,0] (ah.mk [(0,.str s),(3,.int .i64 (.ofNat i))] [] .none h) (.exit 0)
   (ah.mk [(0,.str s),(3,.int .i64 (.ofNat i))] [] .none h):=
 bI [0,2,3] (hs:=[.b false]) (by kernel_rfl)<| .cons H1<| .nil
theorem LG(call:aI->List I->J->av)(s t:List UInt8)(h:J):
  aL Tryz.prog Tryz.f77 none call [0] (ah.mk [(0,.str s),(1,.str t)] [] .none h) (.nrm)
   (ah.mk [(0,.str s),(1,.str t)] [] .none h):=
 bI [0,1] (hs:=[]) (by kernel_rfl)<| .nil
theorem LH(call:aI->List I->J->av)(s t:List UInt8)(h:J):
  aL Tryz.prog Tryz.f77 none call [1,0,0] (ah.mk [(0,.str s),(1,.str t)] [] .none h) (.nrm)
   (ah.mk [(0,.str s),(1,.str t),(5,.int .i64 (.ofNat 0))] [] .none h):=
 bI [0,1,5] (hs:=[]) (by kernel_rfl)<| .nil
theorem Vt(call:aI->List I->J->av)(s t:List UInt8)(i n k j:Nat)(h:J)
  (H1:bM (.ofNat i) (.ofNat (List.length s))=true)
  (aR:bM (.ofNat i) (.ofNat (List.length t))=true)
  (br:gQ i s=some (.int .u8 (.ofNat n)))
  (bp:gQ i t=some (.int .u8 (.ofNat k)))
  (b1:(!a_ (.ofNat n) (.ofNat k))=true):
  aL Tryz.prog Tryz.f77 none call [1,0,1,0,0] (ah.mk [(0,.str s),(1,.str t),(5,.int .i64 (.ofNat i))] [] .none h) (.ret)
   (ah.mk [(0,.str s),(1,.str t),(4,.bool (bM (.ofNat n) (.ofNat k))),(5,.int .i64 (.ofNat i))] [] .none (J.room (J.room h 7) 8)):=
 bI [0,1,4,5] (hs:=[.b true,.b true,.b true,.b true,.b true,.b true,.v (.int .u8 (.ofNat n)),.v (.int .u8 (.ofNat k)),.b true,.v (.int .u8 (.ofNat n)),.v (.int .u8 (.ofNat k))]) (by kernel_rfl)<| .cons H1<| .cons H1<| .cons H1<| .cons H1<| .cons H1<| .cons aR<| .cons br<| .cons bp<| .cons (by kernel_rfl:I.sound (I.str s)=true)<| .cons (by kernel_rfl:I.str s=I.str s)<| .cons (by kernel_rfl:I.sound (I.int IntKind.i64 (Int.ofNat i))=true)<| .cons (by kernel_rfl:I.int IntKind.i64 (Int.ofNat i)=I.int IntKind.i64 (Int.ofNat i))<| .cons (by kernel_rfl:I.sound (I.int IntKind.u8 (Int.ofNat n))=true)<| .cons br<| .cons (by kernel_rfl:I.sound (I.str t)=true)<| .cons (by kernel_rfl:I.str t=I.str t)<| .cons (by kernel_rfl:I.sound (I.int IntKind.i64 (Int.ofNat i))=true)<| .cons (by kernel_rfl:I.int IntKind.i64 (Int.ofNat i)=I.int IntKind.i64 (Int.ofNat i))<| .cons (by kernel_rfl:I.sound (I.int IntKind.u8 (Int.ofNat k))=true)<| .cons bp<| .cons (by kernel_rfl:I.sound (I.bool !a_ (Int.ofNat n) (Int.ofNat k))=true)<| .cons (by kernel_rfl:(I.bool !a_ (Int.ofNat n) (Int.ofNat k))=I.bool !a_ (Int.ofNat n) (Int.ofNat k))<| .cons b1<| .cons br<| .cons bp<| .cons (by kernel_rfl:I.sound (I.str s)=true)<| .cons (by kernel_rfl:I.str s=I.str s)<| .cons (by kernel_rfl:I.sound (I.int IntKind.i64 (Int.ofNat i))=true)<| .cons (by kernel_rfl:I.int IntKind.i64 (Int.ofNat i)=I.int IntKind.i64 (Int.ofNat i))<| .cons (by kernel_rfl:I.sound (I.int IntKind.u8 (Int.ofNat n))=true)<| .cons br<| .cons (by kernel_rfl:I.sound (I.str t)=true)<| .cons (by kernel_rfl:I.str t=I.str t)<| .cons (by kernel_rfl:I.sound (I.int IntKind.i64 (Int.ofNat i))=true)<| .cons (by kernel_rfl:I.int IntKind.i64 (Int.ofNat i)=I.int IntKind.i64 (Int.ofNat i))<| .cons (by kernel_rfl:I.sound (I.int IntKind.u8 (Int.ofNat k))=true)<| .cons bp<| .cons (by kernel_rfl:I.sound (I.bool (bM (Int.ofNat n) (Int.ofNat k)))=true)<| .cons (by kernel_rfl:I.bool (bM (Int.ofNat n) (Int.ofNat k))=I.bool (bM (Int.ofNat n) (Int.ofNat k)))<| .cons (by kernel_rfl:I.sound (I.bool (bM (Int.ofNat n) (Int.ofNat k)))=true)<| .cons (by kernel_rfl:I.bool (bM (Int.ofNat n) (Int.ofNat k))=I.bool (bM (Int.ofNat n) (Int.ofNat k)))<| .nil
theorem Vu(call:aI->List I->J->av)(s t:List UInt8)(i n k j:Nat)(h:J)
  (H1:bM (.ofNat i) (.ofNat (List.length s))=true)
  (aR:bM (.ofNat i) (.ofNat (List.length t))=true)
  (br:gQ i s=some (.int .u8 (.ofNat n)))
  (bp:gQ i t=some (.int .u8 (.ofNat k)))
  (b1:(!a_ (.ofNat n) (.ofNat k))=false)
  (cL:arith .add .i64 (.ofNat i) (.ofNat 1)=some (.int .i64 (.ofNat j))):
  aL Tryz.prog Tryz.f77 none call [1,0,1,0,0] (ah.mk [(0,.str s),(1,.str t),(5,.int .i64 (.ofNat i))] [] .none h) (.nrm)
   (ah.mk [(0,.str s),(1,.str t),(5,.int .i64 (.ofNat j))] [] .none (J.room h 7)):=
 bI [0,1,4,5] (hs:=[.b true,.b true,.b true,.b true,.b true,.b true,.v (.int .u8 (.ofNat n)),.v (.int .u8 (.ofNat k)),.b false,.v (.int .i64 (.ofNat j))]) (by kernel_rfl)<| .cons H1<| .cons H1<| .cons H1<| .cons H1<| .cons H1<| .cons aR<| .cons br<| .cons bp<| .cons (by kernel_rfl:I.sound (I.str s)=true)<| .cons (by kernel_rfl:I.str s=I.str s)<| .cons (by kernel_rfl:I.sound (I.int IntKind.i64 (Int.ofNat i))=true)<| .cons (by kernel_rfl:I.int IntKind.i64 (Int.ofNat i)=I.int IntKind.i64 (Int.ofNat i))<| .cons (by kernel_rfl:I.sound (I.int IntKind.u8 (Int.ofNat n))=true)<| .cons br<| .cons (by kernel_rfl:I.sound (I.str t)=true)<| .cons (by kernel_rfl:I.str t=I.str t)<| .cons (by kernel_rfl:I.sound (I.int IntKind.i64 (Int.ofNat i))=true)<| .cons (by kernel_rfl:I.int IntKind.i64 (Int.ofNat i)=I.int IntKind.i64 (Int.ofNat i))<| .cons (by kernel_rfl:I.sound (I.int IntKind.u8 (Int.ofNat k))=true)<| .cons bp<| .cons (by kernel_rfl:I.sound (I.bool !a_ (Int.ofNat n) (Int.ofNat k))=true)<| .cons (by kernel_rfl:(I.bool !a_ (Int.ofNat n) (Int.ofNat k))=I.bool !a_ (Int.ofNat n) (Int.ofNat k))<| .cons b1<| .cons cL<| .nil
theorem Vv(call:aI->List I->J->av)(s t:List UInt8)(i n k j:Nat)(h:J)
  (H1:bM (.ofNat i) (.ofNat (List.length s))=true)
  (aR:bM (.ofNat i) (.ofNat (List.length t))=false):
  aL Tryz.prog Tryz.f77 none call [1,0,1,0,0] (ah.mk [(0,.str s),(1,.str t),(5,.int .i64 (.ofNat i))] [] .none h) (.exit 0)
   (ah.mk [(0,.str s),(1,.str t),(5,.int .i64 (.ofNat i))] [] .none h):=
 bI [0,1,4,5] (hs:=[.b true,.b true,.b true,.b true,.b true,.b false]) (by kernel_rfl)<| .cons H1<| .cons H1<| .cons H1<| .cons H1<| .cons H1<| .cons aR<| .nil
theorem Vw(call:aI->List I->J->av)(s t:List UInt8)(i n k j:Nat)(h:J)
  (H1:bM (.ofNat i) (.ofNat (List.length s))=false):
  aL Tryz.prog Tryz.f77 none call [1,0,1,0,0] (ah.mk [(0,.str s),(1,.str t),(5,.int .i64 (.ofNat i))] [] .none h) (.exit 0)
   (ah.mk [(0,.str s),(1,.str t),(5,.int .i64 (.ofNat i))] [] .none h):=
 bI [0,1,4,5] (hs:=[.b false,.b false,.b false,.b false,.b false,.b false]) (by kernel_rfl)<| .cons H1<| .cons H1<| .cons H1<| .cons H1<| .cons H1<| .cons (by kernel_rfl:false=false)<| .nil
theorem Vx(call:aI->List I->J->av)(s t:List UInt8)(h:J):
  aL Tryz.prog Tryz.f77 none call [1,1] (ah.mk [(0,.str s),(1,.str t)] [] .none h) (.ret)
   (ah.mk [(4,.bool (bM (.ofNat (List.length s)) (.ofNat (List.length t))))] [] .none h):=
 bI [4] (hs:=[]) (by kernel_rfl)<| .nil
theorem Vy(call:aI->List I->J->av)(s:List UInt8)(h:J):
  aL Tryz.prog Tryz.f76 none call [0] (ah.mk [(0,.str s)] [] .none h) (.nrm)
   (ah.mk [(0,.str s)] [] .none h):=
 bI [0] (hs:=[]) (by kernel_rfl)<| .nil
theorem Vz(call:aI->List I->J->av)(s:List UInt8)(h:J):
  aL Tryz.prog Tryz.f81 none call [0] (ah.mk [(0,.str s)] [] .none h) (.nrm)
   (ah.mk [(0,.str s)] [] .none h):=
 bI [0] (hs:=[]) (by kernel_rfl)<| .nil
theorem VA(a b:Nat):fh (Int.ofNat a) (Int.ofNat b)=decide (a<=b):=by
 by_cases h:a<=b
 · rw[mT h];simp[h]
 · rw[oC h];simp[h]
theorem LI(a b:Nat):bM (Int.ofNat a) (Int.ofNat b)=decide (a<b):=by
 by_cases h:a<b
 · rw[dT h];simp[h]
 · rw[eZ h];simp[h]
theorem ur(a b:Nat):a_ (Int.ofNat a) (Int.ofNat b)=decide (a=b):=by
 by_cases h:a=b
 · rw[mU h];simp[h]
 · rw[jw h];simp[h]
theorem Fy(m n:Nat)(h:J):Y (m+1) (.fn 103) [.int .u8 (Int.ofNat n)] h=.ret (.bool (hq n)) h:=by
 have fin:∀b,aL Tryz.prog Tryz.f103 none (Y m) [] ⟨[(0,.int .u8 (Int.ofNat n))],[],.none,h⟩ .ret ⟨[(2,.bool b)],[],.none,h⟩->b=hq n->Y (m+1) (.fn 103) [.int .u8 (Int.ofNat n)] h=.ret (.bool (hq n)) h:=λb aj ae=>by
  rw[<-ae]
  exact eR (intr:=b0) (n:=m) (args:=[.int .u8 (Int.ofNat n)]) Tryz.func103 (by kernel_rfl) rfl (by kernel_rfl) aj (.inl rfl) (by kernel_rfl)
 by_cases ab:97<=n
 · by_cases ad:n<=122
   · exact fin true (U3 (Y m) n h (mT ab) (mT ad)) (by simp[hq,ab,ad])
   · exact fin _ (U4 (Y m) n h (mT ab) (oC ad) (mT (by omega)) (oC (by omega))) (by rw[ur];simp[hq,ad];omega)
 · by_cases ar:65<=n
   · by_cases aG:n<=90
     · exact fin true (U5 (Y m) n h (oC ab) (mT ar) (mT aG)) (by simp[hq,ar,aG])
     · exact fin _ (U6 (Y m) n h (oC ab) (mT ar) (oC aG)) (by rw[ur];simp[hq,ab,aG])
   · exact fin _ (U7 (Y m) n h (oC ab) (oC ar)) (by rw[ur];simp[hq,ab,ar])
theorem LJ(m:Nat)(s:a5)(h:J)(hs:s.length<=90000):∀(k i:Nat),s.length-i=k->i<=s.length->
  ∃e Γ,fx Tryz.prog Tryz.f76 none (Y (m+1)) [1,1,0,1,0] (k+1) ⟨[(0,.str s),(3,.int .i64 (Int.ofNat i))],[],.none,h⟩ e ⟨Γ,[],.none,h⟩/\
   ((e=.exit 0/\Γ=[]/\(s.drop i).all (λc=>hq c.toNat||jb c.toNat)=true)\/(e=.ret/\Γ=[(2,.bool false)]/\(s.drop i).all (λc=>hq c.toNat||jb c.toNat)=false))
 |0,i,aq,af=>by
  obtain rfl:i=s.length:=by omega
  rw[List.drop_of_length_le (Nat.le_refl _)]
  exact⟨_,[],.exit (c5.post (Vs (Y (m+1)) s s.length 0 0 false h h (eZ (by omega))) trivial) (by simp),.inl ⟨rfl,rfl,rfl⟩⟩
 |k+1,i,aq,af=>by
  have ab:i<s.length:=by omega
  rw[List.drop_eq_getElem_cons ab,List.all_cons]
  have aH:=Fy m s[i].toNat h
  have step:(hq s[i].toNat||jb s[i].toNat)=true->aL Tryz.prog Tryz.f76 none (Y (m+1)) [1,1,0,1,0,0] ⟨[(0,.str s),(3,.int .i64 (Int.ofNat i))],[],.none,h⟩ .nrm ⟨[(0,.str s),(3,.int .i64 (Int.ofNat (i+1)))],[],.none,h⟩:=λae=>by
   cases aw:hq s[i].toNat with
   |true=>
    rw[aw] at aH
    exact Vr (Y (m+1)) s i _ (i+1) true h h (dT ab) (nK ab) aH rfl (kf ab (by omega))
   |false=>
    rw[aw] at aH ae
    have ao:48<=s[i].toNat/\s[i].toNat<=57:=by simpa[jb] using ae
    exact Vq (Y (m+1)) s i _ (i+1) false h h (dT ab) (nK ab) aH rfl (eZ (by omega)) (eZ (by omega)) (kf ab (by omega))
  cases ag:(hq s[i].toNat||jb s[i].toNat) with
  |true=>
   obtain⟨e,Γ,bz,bR⟩:=LJ m s h hs k (i+1) (by omega) (by omega)
   refine⟨e,Γ,.step (step ag) bz,?_⟩
   rw[Bool.true_and];exact bR
  |false=>
   obtain⟨aw,ao⟩:hq s[i].toNat=false/\jb s[i].toNat=false:=by simpa using ag
   rw[aw] at aH
   refine⟨_,[(2,.bool false)],.exit (e:=.ret) ?_ (by simp),.inr ⟨rfl,rfl,by rw[Bool.false_and]⟩⟩
   by_cases LK:s[i].toNat<48
   · exact c5.post (Vo (Y (m+1)) s i _ 0 false h h (dT ab) (nK ab) aH rfl (dT LK)) ⟨rfl,trivial⟩
   · exact c5.post (Vp (Y (m+1)) s i _ 0 false h h (dT ab) (nK ab) aH rfl (eZ LK) (dT (by simp[jb] at ao;omega))) ⟨rfl,trivial⟩
end Go.Proofs.cG
namespace Go.Proofs.cG
open Go aP Go.Proofs c8
set_option maxRecDepth 100000
set_option maxHeartbeats 1000000
theorem LL(m:Nat)(s:a5)(h:J):Y (m+2) (.fn 76) [.str s] h=.ret (.bool (hX s)) h:=by
 have fin:∀b,aL Tryz.prog Tryz.f76 none (Y (m+1)) [1] ⟨[(0,.str s)],[],.none,h⟩ .ret ⟨[(2,.bool b)],[],.none,h⟩->b=hX s->Y (m+2) (.fn 76) [.str s] h=.ret (.bool (hX s)) h:=λb aj ae=>by
  rw[<-ae]
  exact eR (intr:=b0) (n:=m+1) (args:=[.str s]) Tryz.func76 (by kernel_rfl) rfl (by kernel_rfl) (aL.seq (p:=[]) (by kernel_rfl) (Vy (Y (m+1)) s h) aj) (.inl rfl) (by kernel_rfl)
 by_cases ab:s.length<1
 · exact fin false (aL.iM (p:=[1]) (by kernel_rfl) (c5.post (U8 (Y (m+1)) s 0 false h h (dT ab)) ⟨rfl,trivial⟩) (by simp)) (by simp[hX];omega)
 by_cases ad:24<s.length
 · exact fin false (aL.iM (p:=[1]) (by kernel_rfl) (c5.post (U9 (Y (m+1)) s 0 false h h (eZ ab) (dT ad)) ⟨rfl,trivial⟩) (by simp)) (by simp[hX];omega)
 have hs:s.length<=90000:=by omega
 have h0:0<s.length:=by omega
 have aH:=Fy m s[0].toNat h
 have ak:Fo s=hq s[0].toNat:=by
  cases s with
  |nil=>simp at h0
  |cons c s=>rfl
 cases aw:hq s[0].toNat with
 |false=>
  rw[aw] at aH
  exact fin false (aL.iM (p:=[1]) (by kernel_rfl) (c5.post (U_ (Y (m+1)) s _ false h h (eZ ab) (eZ ad) (nK h0) aH rfl) ⟨rfl,trivial⟩) (by simp)) (by simp[hX,ak,aw])
 |true=>
  rw[aw] at aH
  have s1:=Va (Y (m+1)) s _ true h h (eZ ab) (eZ ad) (nK h0) aH rfl
  obtain⟨e,Γ,bz,bR⟩:=LJ m s h hs s.length 0 (by omega) (by omega)
  have cU:=fx.run (p:=[1,1,0,1,0]) (by kernel_rfl) bz (by omega)
  rw[List.drop_zero] at bR
  have wa:1<=s.length:=h0
  have Fz:s.length<=24:=by omega
  rcases bR with⟨rfl,rfl,iz⟩|⟨rfl,rfl,iz⟩
  · exact fin true (aL.seq (p:=[1]) (by kernel_rfl) s1 (aL.seq (p:=[1,1]) (by kernel_rfl) (aL.seq (p:=[1,1,0]) (by kernel_rfl) (LD (Y (m+1)) s h) (aL.block (p:=[1,1,0,1]) (id:=0) (by kernel_rfl) cU)) (Vb (Y (m+1)) h))) (by unfold hX;rw[iz,ak,aw];simp[wa,Fz])
  · exact fin false (aL.seq (p:=[1]) (by kernel_rfl) s1 (aL.iM (p:=[1,1]) (by kernel_rfl) (aL.seq (p:=[1,1,0]) (by kernel_rfl) (LD (Y (m+1)) s h) (aL.tJ (p:=[1,1,0,1]) (id:=0) (by kernel_rfl) cU (by simp))) (by simp))) (by unfold hX;rw[iz];simp)
theorem VB(call:aI->List I->J->av)(s:a5)(i n:Nat)(h:J)(ab:i<s.length)(hs:s.length<=90000)(ad:gQ i s=some (.int .u8 (Int.ofNat n)))(aH:call (.fn 103) [.int .u8 (Int.ofNat n)] h=.ret (.bool (hq n)) h):
  if j3 n then aL Tryz.prog Tryz.f81 none call [1,1,0,1,0,0] ⟨[(0,.str s),(3,.int .i64 (Int.ofNat i))],[],.none,h⟩ .nrm ⟨[(0,.str s),(3,.int .i64 (Int.ofNat (i+1)))],[],.none,h⟩
  else aL Tryz.prog Tryz.f81 none call [1,1,0,1,0,0] ⟨[(0,.str s),(3,.int .i64 (Int.ofNat i))],[],.none,h⟩ .ret ⟨[(2,.bool false)],[],.none,h⟩:=by
 have aJ:=kf ab (m:=s.length) (by omega)
 have af:=dT ab
 have ne:∀{a b:Nat},a≠b->(!a_ (Int.ofNat a) (Int.ofNat b))=true:=λe=>Fx e
 have lF:∀{a b:Nat},a=b->(!a_ (Int.ofNat a) (Int.ofNat b))=false:=λe=>BG e
 cases aw:hq n with
 |true=>
  rw[aw] at aH
  rw[if_pos (by simp[j3,aw])]
  exact Vl call s i n (i+1) true h h af ad aH rfl aJ
 |false=>
  rw[aw] at aH
  by_cases cr:n<48
  · by_cases dp:n=45
    · rw[if_pos (by simp[j3,dp])]
      exact Vi call s i n (i+1) false h h af ad aH rfl (dT cr) (lF dp) aJ
    by_cases eS:n=47
    · rw[if_pos (by simp[j3,eS])]
      exact Vh call s i n (i+1) false h h af ad aH rfl (dT cr) (ne dp) (lF eS) aJ
    by_cases eG:n=46
    · rw[if_pos (by simp[j3,eG])]
      exact Vg call s i n (i+1) false h h af ad aH rfl (dT cr) (ne dp) (ne eS) (lF eG) aJ
    · rw[if_neg (by simp[j3,aw,jb,dp,eS,eG];omega)]
      exact c5.post (Vf call s i n 0 false h h af ad aH rfl (dT cr) (ne dp) (ne eS) (ne eG)) ⟨rfl,trivial⟩
  · by_cases cZ:57<n
    · rw[if_neg (by simp[j3,aw,jb];omega)]
      exact c5.post (Vj call s i n 0 false h h af ad aH rfl (eZ cr) (dT cZ) (ne (by omega)) (ne (by omega)) (ne (by omega))) ⟨rfl,trivial⟩
    · rw[if_pos (by simp[j3,jb];omega)]
      exact Vk call s i n (i+1) false h h af ad aH rfl (eZ cr) (eZ cZ) aJ
theorem LM(m:Nat)(s:a5)(h:J)(hs:s.length<=90000):∀(k i:Nat),s.length-i=k->i<=s.length->
  ∃e Γ,fx Tryz.prog Tryz.f81 none (Y (m+1)) [1,1,0,1,0] (k+1) ⟨[(0,.str s),(3,.int .i64 (Int.ofNat i))],[],.none,h⟩ e ⟨Γ,[],.none,h⟩/\
   ((e=.exit 0/\Γ=[]/\(s.drop i).all (λc=>j3 c.toNat)=true)\/(e=.ret/\Γ=[(2,.bool false)]/\(s.drop i).all (λc=>j3 c.toNat)=false))
 |0,i,aq,af=>by
  obtain rfl:i=s.length:=by omega
  rw[List.drop_of_length_le (Nat.le_refl _)]
  exact⟨_,[],.exit (c5.post (Vm (Y (m+1)) s s.length 0 0 false h h (eZ (by omega))) trivial) (by simp),.inl ⟨rfl,rfl,rfl⟩⟩
 |k+1,i,aq,af=>by
  have ab:i<s.length:=by omega
  rw[List.drop_eq_getElem_cons ab,List.all_cons]
  have st:=VB (Y (m+1)) s i s[i].toNat h ab hs (nK ab) (Fy m s[i].toNat h)
  cases ag:j3 s[i].toNat with
  |true=>
   rw[if_pos ag] at st
   obtain⟨e,Γ,bz,bR⟩:=LM m s h hs k (i+1) (by omega) (by omega)
   refine⟨e,Γ,.step st bz,?_⟩
   rw[Bool.true_and];exact bR
  |false=>
   rw[if_neg (by rw[ag];simp)] at st
   exact⟨_,_,.exit st (by simp),.inr ⟨rfl,rfl,by rw[Bool.false_and]⟩⟩
theorem VC(m:Nat)(s:a5)(h:J):Y (m+2) (.fn 81) [.str s] h=.ret (.bool (lD s)) h:=by
 have fin:∀b,aL Tryz.prog Tryz.f81 none (Y (m+1)) [1] ⟨[(0,.str s)],[],.none,h⟩ .ret ⟨[(2,.bool b)],[],.none,h⟩->b=lD s->Y (m+2) (.fn 81) [.str s] h=.ret (.bool (lD s)) h:=λb aj ae=>by
  rw[<-ae]
  exact eR (intr:=b0) (n:=m+1) (args:=[.str s]) Tryz.func81 (by kernel_rfl) rfl (by kernel_rfl) (aL.seq (p:=[]) (by kernel_rfl) (Vz (Y (m+1)) s h) aj) (.inl rfl) (by kernel_rfl)
 by_cases ab:s.length<1
 · exact fin false (aL.iM (p:=[1]) (by kernel_rfl) (c5.post (Vc (Y (m+1)) s h (dT ab)) ⟨rfl,trivial⟩) (by simp)) (by simp[lD];omega)
 by_cases ad:161<s.length
 · exact fin false (aL.iM (p:=[1]) (by kernel_rfl) (c5.post (Vd (Y (m+1)) s h (eZ ab) (dT ad)) ⟨rfl,trivial⟩) (by simp)) (by simp[lD];omega)
 have hs:s.length<=90000:=by omega
 have s1:=Ve (Y (m+1)) s h (eZ ab) (eZ ad)
 obtain⟨e,Γ,bz,bR⟩:=LM m s h hs s.length 0 (by omega) (by omega)
 have cU:=fx.run (p:=[1,1,0,1,0]) (by kernel_rfl) bz (by omega)
 rw[List.drop_zero] at bR
 have wa:1<=s.length:=by omega
 have Fz:s.length<=161:=by omega
 rcases bR with⟨rfl,rfl,iz⟩|⟨rfl,rfl,iz⟩
 · exact fin true (aL.seq (p:=[1]) (by kernel_rfl) s1 (aL.seq (p:=[1,1]) (by kernel_rfl) (aL.seq (p:=[1,1,0]) (by kernel_rfl) (LF (Y (m+1)) s h) (aL.block (p:=[1,1,0,1]) (id:=0) (by kernel_rfl) cU)) (Vn (Y (m+1)) h))) (by unfold lD;rw[iz];simp[wa,Fz])
 · exact fin false (aL.seq (p:=[1]) (by kernel_rfl) s1 (aL.iM (p:=[1,1]) (by kernel_rfl) (aL.seq (p:=[1,1,0]) (by kernel_rfl) (LF (Y (m+1)) s h) (aL.tJ (p:=[1,1,0,1]) (id:=0) (by kernel_rfl) cU (by simp))) (by simp))) (by unfold lD;rw[iz];simp)
theorem LN(call:aI->List I->J->av)(s t:a5)(B:Nat)(h:J)(hs:s.length<=90000):∀(k i:Nat) (x:J),s.length-i=k->i<=s.length->i<=t.length->Ext B h x->
  ∃e Γ y,fx Tryz.prog Tryz.f77 none call [1,0,1,0] (k+1) ⟨[(0,.str s),(1,.str t),(5,.int .i64 (Int.ofNat i))],[],.none,x⟩ e ⟨Γ,[],.none,y⟩/\
   ((e=.exit 0/\Γ=[(0,.str s),(1,.str t)]/\dF (s.drop i) (t.drop i)=decide (s.length<t.length))\/(e=.ret/\Γ=[(4,.bool (dF (s.drop i) (t.drop i)))]))/\Ext B h y
 |0,i,x,aq,af,eQ,aa=>by
  obtain rfl:i=s.length:=by omega
  refine⟨_,[(0,.str s),(1,.str t)],_,.exit (c5.post (Vw call s t s.length 0 0 0 x (eZ (by omega))) ⟨rfl,rfl,trivial⟩) (by simp),.inl ⟨rfl,rfl,?_⟩,aa⟩
  rw[List.drop_of_length_le (Nat.le_refl _)]
  cases ao:t.drop s.length with
  |nil=>
   have:t.length<=s.length:=List.drop_eq_nil_iff.1 ao
   rw[dF];simp;omega
  |cons c u=>
   have:s.length<t.length:=by
    have:=congrArg List.length ao
    simp at this;omega
   rw[dF];simp[this]
 |k+1,i,x,aq,af,eQ,aa=>by
  have ab:i<s.length:=by omega
  by_cases ad:i<t.length
  · rw[List.drop_eq_getElem_cons ab,List.drop_eq_getElem_cons ad,yP]
    by_cases he:s[i].toNat=t[i].toNat
    · rw[if_pos he]
      obtain⟨e,Γ,y,bz,bR,cU⟩:=LN call s t B h hs k (i+1) (x.room 7) (by omega) (by omega) (by omega) aa.h_
      exact⟨e,Γ,y,.step (Vu call s t i _ _ (i+1) x (dT ab) (dT ad) (nK ab) (nK ad) (BG he) (kf ab (by omega))) bz,bR,cU⟩
    · rw[if_neg he,<-LI]
      exact⟨_,[(4,.bool (bM (Int.ofNat s[i].toNat) (Int.ofNat t[i].toNat)))],_,.exit (c5.post (Vt call s t i _ _ 0 x (dT ab) (dT ad) (nK ab) (nK ad) (Fx he)) ⟨rfl,trivial⟩) (by simp),.inr ⟨rfl,rfl⟩,aa.h_.h_⟩
  · refine⟨_,[(0,.str s),(1,.str t)],_,.exit (c5.post (Vv call s t i 0 0 0 x (dT ab) (eZ ad)) ⟨rfl,rfl,trivial⟩) (by simp),.inl ⟨rfl,rfl,?_⟩,aa⟩
    rw[List.drop_of_length_le (l:=t) (by omega)]
    have:dF (s.drop i) []=false:=by
     cases s.drop i<;>rw[dF]
    rw[this];simp;omega
theorem BH(m:Nat)(s t:a5)(B:Nat)(h:J)(hs:s.length<=90000):∃an,Y (m+1) (.fn 77) [.str s,.str t] h=.ret (.bool (dF s t)) an/\Ext B h an:=by
 obtain⟨e,Γ,y,bz,bR,cU⟩:=LN (Y m) s t B h hs s.length 0 h (by omega) (by omega) (by omega) (Ext.refl _ _)
 have iy:=fx.run (p:=[1,0,1,0]) (by kernel_rfl) bz (by omega)
 rw[List.drop_zero,List.drop_zero] at bR
 rcases bR with⟨rfl,rfl,iz⟩|⟨rfl,rfl⟩
 · rw[iz,<-LI]
   exact⟨y,eR (intr:=b0) (n:=m) (args:=[.str s,.str t]) Tryz.func77 (by kernel_rfl) rfl (by kernel_rfl) (aL.seq (p:=[]) (by kernel_rfl) (LG (Y m) s t h) (aL.seq (p:=[1]) (by kernel_rfl) (aL.seq (p:=[1,0]) (by kernel_rfl) (LH (Y m) s t h) (aL.block (p:=[1,0,1]) (id:=0) (by kernel_rfl) iy)) (Vx (Y m) s t y))) (.inl rfl) (by kernel_rfl),cU⟩
 · exact⟨y,eR (intr:=b0) (n:=m) (args:=[.str s,.str t]) Tryz.func77 (by kernel_rfl) rfl (by kernel_rfl) (aL.seq (p:=[]) (by kernel_rfl) (LG (Y m) s t h) (aL.iM (p:=[1]) (by kernel_rfl) (aL.seq (p:=[1,0]) (by kernel_rfl) (LH (Y m) s t h) (aL.tJ (p:=[1,0,1]) (id:=0) (by kernel_rfl) iy (by simp))) (by simp))) (.inl rfl) (by kernel_rfl),cU⟩
end Go.Proofs.cG
namespace Go.Proofs.cG
open Go aP Go.Proofs c8
set_option maxRecDepth 100000
set_option maxHeartbeats 1000000
theorem VD(call:aI->List I->J->av)(r:Nat)(h:J):
  aL Tryz.prog Tryz.f79 none call [0] (ah.mk [(0,.ptr r 0)] [] .none h) (.nrm)
   (ah.mk [(0,.ptr r 0)] [] .none h):=
 bI [0] (hs:=[]) (by kernel_rfl)<| .nil
theorem VE(call:aI->List I->J->av)(r:Nat)(h g:J)
  (H1:aP.storeCells (J.push h (.cells [.str [],.str [],.str [],.str [],.str []] 141 .own 0 0)) (J.n h) 0 [.str [97,110,121],.str [105,110,116],.str [98,111,111,108],.str [115,116,114],.str [110,105,108]]=some g):
  aL Tryz.prog Tryz.f79 none call [1,0] (ah.mk [(0,.ptr r 0)] [] .none h) (.nrm)
   (ah.mk [(0,.ptr r 0),(3,.ptr (J.n h) 0)] [] .none g):=
 bI [0,3] (hs:=[.l5 (.aQ []) g]) (by kernel_rfl)<| .cons (⟨by kernel_rfl,H1,rfl⟩:some 5=some 5/\aP.storeCells (J.push h (df.cells [I.str [],I.str [],I.str [],I.str [],I.str []] 141 gM.own 0 0)) (J.n h) 0 [I.str [97,110,121],I.str [105,110,116],I.str [98,111,111,108],I.str [115,116,114],I.str [110,105,108]]=some g/\I.aQ []=I.aQ [])<| .nil
theorem VF(call:aI->List I->J->av)(r a:Nat)(h:J):
  aL Tryz.prog Tryz.f79 none call [1,1,0] (ah.mk [(0,.ptr r 0),(3,.ptr a 0)] [] .none h) (.nrm)
   (ah.mk [(0,.ptr r 0),(3,.ptr a 0),(4,.str [])] [] .none h):=
 bI [0,3,4] (hs:=[]) (by kernel_rfl)<| .nil
theorem VG(call:aI->List I->J->av)(r a k:Nat)(h:J)
  (H1:au h r (0+0)=some (.int .i64 (.ofNat k))):
  aL Tryz.prog Tryz.f79 none call [1,1,1,0,0] (ah.mk [(0,.ptr r 0),(3,.ptr a 0),(4,.str [])] [] .none h) (.nrm)
   (ah.mk [(0,.ptr r 0),(3,.ptr a 0),(4,.str []),(12,.int .i64 (.ofNat k))] [] .none h):=
 bI [0,3,4,12] (hs:=[.v (.int .i64 (.ofNat k))]) (by kernel_rfl)<| .cons H1<| .nil
theorem VH(call:aI->List I->J->av)(r a:Nat)(s:List UInt8)(h:J)
  (H1:au h r (0+1)=some (.str s)):
  aL Tryz.prog Tryz.f79 none call [1,1,1,0,1] (ah.mk [(0,.ptr r 0),(3,.ptr a 0),(4,.str []),(12,.int .i64 (.ofNat 6))] [] .none h) (.ret)
   (ah.mk [(2,.str s)] [] .none h):=
 bI [2] (hs:=[.b true,.v (.str s)]) (by kernel_rfl)<| .cons (by kernel_rfl:a_ (Int.ofNat 6) (Int.ofNat 6)=true)<| .cons H1<| .nil
theorem VI(call:aI->List I->J->av)(r a:Nat)(s s1 s2:List UInt8)(h g:J)
  (H1:aL Tryz.prog Tryz.f79 none call [1,1,1,0,1,0,1,1,1,0,0,1,0] (ah.mk [(5,.int .i64 (.ofNat 0)),(19,.bool (a_ (.ofNat 7) (.ofNat 7))),(13,.bool (a_ (.ofNat 7) (.ofNat 6))),(0,.ptr r 0),(3,.ptr a 0),(4,.str []),(12,.int .i64 (.ofNat 7))] [] .none h) (.exit 1) (ah.mk [(0,.ptr r 0),(4,.str s)] [] .none g))
  (aR:gG .add [123] s=some (.str s1))
  (br:gG .add s1 [125]=some (.str s2)):
  aL Tryz.prog Tryz.f79 none call [1,1,1,0,1] (ah.mk [(0,.ptr r 0),(3,.ptr a 0),(4,.str []),(12,.int .i64 (.ofNat 7))] [] .none h) (.ret)
   (ah.mk [(2,.str s2)] [] .none g):=
 bI [2] (hs:=[Hint.b false,Hint.b true,Hint.loop (bn.exit 1) (ah.mk [(0,I.ptr r 0),(4,I.str s)] [] bF.none g),Hint.v (I.str s1),Hint.v (I.str s2)]) (by kernel_rfl)<| .cons (by kernel_rfl:a_ (Int.ofNat 7) (Int.ofNat 6)=false)<| .cons (by kernel_rfl:a_ (Int.ofNat 7) (Int.ofNat 7)=true)<| .cons H1<| .cons aR<| .cons br<| .nil
theorem VJ(call:aI->List I->J->av)(r a:Nat)(s s1 s2 bK bN:List UInt8)(v:I)(h g ax:J)
  (H1:aL Tryz.prog Tryz.f79 none call [1,1,1,0,1,0,1,1,1,1,1,0,0,1,0] (ah.mk [(6,.int .i64 (.ofNat 0)),(56,.bool (a_ (.ofNat 8) (.ofNat 8))),(19,.bool (a_ (.ofNat 8) (.ofNat 7))),(13,.bool (a_ (.ofNat 8) (.ofNat 6))),(0,.ptr r 0),(3,.ptr a 0),(4,.str []),(12,.int .i64 (.ofNat 8))] [] .none h) (.exit 3) (ah.mk [(0,.ptr r 0),(4,.str s)] [] .none g))
  (aR:gG .add [102,110,40] s=some (.str s1))
  (br:gG .add s1 [41,32,45,62,32]=some (.str s2))
  (bp:au g r (0+4)=some v)
  (b1:call (.fn 79) [v] g=av.ret (.str bK) ax)
  (cL:gG .add s2 bK=some (.str bN)):
  aL Tryz.prog Tryz.f79 none call [1,1,1,0,1] (ah.mk [(0,.ptr r 0),(3,.ptr a 0),(4,.str []),(12,.int .i64 (.ofNat 8))] [] .none h) (.ret)
   (ah.mk [(2,.str bN)] [] .none ax):=
 bI [2] (hs:=[Hint.b false,Hint.b false,Hint.b true,Hint.loop (bn.exit 3) (ah.mk [(0,I.ptr r 0),(4,I.str s)] [] bF.none g),Hint.v (I.str s1),Hint.v (I.str s2),Hint.v v,Hint.c (I.str bK) ax,Hint.v (I.str bN)]) (by kernel_rfl)<| .cons (by kernel_rfl:a_ (Int.ofNat 8) (Int.ofNat 6)=false)<| .cons (by kernel_rfl:a_ (Int.ofNat 8) (Int.ofNat 7)=false)<| .cons (by kernel_rfl:a_ (Int.ofNat 8) (Int.ofNat 8)=true)<| .cons H1<| .cons aR<| .cons br<| .cons bp<| .cons b1<| .cons cL<| .nil
theorem VK(call:aI->List I->J->av)(r a:Nat)(s:List UInt8)(h g:J)
  (H1:aL Tryz.prog Tryz.f79 none call [1,1,1,0,1,0,1,1,1,1,1,1,1,0,0,1,0] (ah.mk [(7,.int .i64 (.ofNat 0)),(90,.bool (a_ (.ofNat 9) (.ofNat 9))),(56,.bool (a_ (.ofNat 9) (.ofNat 8))),(19,.bool (a_ (.ofNat 9) (.ofNat 7))),(13,.bool (a_ (.ofNat 9) (.ofNat 6))),(0,.ptr r 0),(3,.ptr a 0),(4,.str []),(12,.int .i64 (.ofNat 9))] [] .none h) (.exit 5) (ah.mk [(0,.ptr r 0),(4,.str s)] [] .none g)):
  aL Tryz.prog Tryz.f79 none call [1,1,1,0,1] (ah.mk [(0,.ptr r 0),(3,.ptr a 0),(4,.str []),(12,.int .i64 (.ofNat 9))] [] .none h) (.ret)
   (ah.mk [(2,.str s)] [] .none g):=
 bI [2] (hs:=[Hint.b false,Hint.b false,Hint.b false,Hint.b true,Hint.loop (bn.exit 5) (ah.mk [(0,I.ptr r 0),(4,I.str s)] [] bF.none g)]) (by kernel_rfl)<| .cons (by kernel_rfl:a_ (Int.ofNat 9) (Int.ofNat 6)=false)<| .cons (by kernel_rfl:a_ (Int.ofNat 9) (Int.ofNat 7)=false)<| .cons (by kernel_rfl:a_ (Int.ofNat 9) (Int.ofNat 8)=false)<| .cons (by kernel_rfl:a_ (Int.ofNat 9) (Int.ofNat 9)=true)<| .cons H1<| .nil
theorem VL(call:aI->List I->J->av)(r a k:Nat)(h:J)
  (H1:a_ (.ofNat k) (.ofNat 6)=false)
  (aR:a_ (.ofNat k) (.ofNat 7)=false)
  (br:a_ (.ofNat k) (.ofNat 8)=false)
  (bp:a_ (.ofNat k) (.ofNat 9)=false):
  aL Tryz.prog Tryz.f79 none call [1,1,1,0,1] (ah.mk [(0,.ptr r 0),(3,.ptr a 0),(4,.str []),(12,.int .i64 (.ofNat k))] [] .none h) (.nrm)
   (ah.mk [(0,.ptr r 0),(3,.ptr a 0)] [] .none h):=
 bI [0,3] (hs:=[.b false,.b false,.b false,.b false]) (by kernel_rfl)<| .cons H1<| .cons aR<| .cons br<| .cons bp<| .nil
theorem VM(call:aI->List I->J->av)(r a k j q:Nat)(s:List UInt8)(h:J)
  (H1:au h r (0+0)=some (.int .i64 (.ofNat k)))
  (aR:arith .sub .i64 (.ofNat k) (.ofNat 1)=some (.int .i64 (.ofNat j)))
  (br:Nat.le (Nat.succ j) 5/\I.ptr a q=I.ptr a (0+j*1))
  (bp:au h a q=some (.str s)):
  aL Tryz.prog Tryz.f79 none call [1,1,1,1] (ah.mk [(0,.ptr r 0),(3,.ptr a 0)] [] .none h) (.ret)
   (ah.mk [(2,.str s)] [] .none h):=
 bI [2] (hs:=[.v (.int .i64 (.ofNat k)),.v (.int .i64 (.ofNat j)),.v (.ptr a q),.v (.str s)]) (by kernel_rfl)<| .cons H1<| .cons aR<| .cons br<| .cons bp<| .nil
theorem VN(call:aI->List I->J->av)(r i N:Nat)(s:List UInt8)(v:I)(h:J)
  (H1:au h r (0+3)=some v)
  (aR:cc Tryz.prog h 50 v=some (.int .i64 (.ofNat N)))
  (br:bM (.ofNat i) (.ofNat N)=false):
  aL Tryz.prog Tryz.f79 none call [1,1,1,0,1,0,1,1,1,0,0,1,0,0] (ah.mk [(0,.ptr r 0),(4,.str s),(5,.int .i64 (.ofNat i))] [] .none h) (.exit 1)
   (ah.mk [(0,.ptr r 0),(4,.str s)] [] .none h):=
 bI [0,4] (hs:=[.v v,.o (.int .i64 (.ofNat N)),.b false]) (by kernel_rfl)<| .cons H1<| .cons aR<| .cons br<| .nil
theorem VO(call:aI->List I->J->av)(r i N:Nat)(s:List UInt8)(v:I)(h:J)
  (H1:au h r (0+3)=some v)
  (aR:cc Tryz.prog h 50 v=some (.int .i64 (.ofNat N)))
  (br:bM (.ofNat i) (.ofNat N)=false):
  aL Tryz.prog Tryz.f79 none call [1,1,1,0,1,0,1,1,1,1,1,0,0,1,0,0] (ah.mk [(0,.ptr r 0),(4,.str s),(6,.int .i64 (.ofNat i))] [] .none h) (.exit 3)
   (ah.mk [(0,.ptr r 0),(4,.str s)] [] .none h):=
 bI [0,4] (hs:=[.v v,.o (.int .i64 (.ofNat N)),.b false]) (by kernel_rfl)<| .cons H1<| .cons aR<| .cons br<| .nil
theorem VP(call:aI->List I->J->av)(r i N:Nat)(s:List UInt8)(v:I)(h:J)
  (H1:au h r (0+3)=some v)
  (aR:cc Tryz.prog h 50 v=some (.int .i64 (.ofNat N)))
  (br:bM (.ofNat i) (.ofNat N)=false):
  aL Tryz.prog Tryz.f79 none call [1,1,1,0,1,0,1,1,1,1,1,1,1,0,0,1,0,0] (ah.mk [(0,.ptr r 0),(4,.str s),(7,.int .i64 (.ofNat i))] [] .none h) (.exit 5)
   (ah.mk [(0,.ptr r 0),(4,.str s)] [] .none h):=
 bI [0,4] (hs:=[.v v,.o (.int .i64 (.ofNat N)),.b false]) (by kernel_rfl)<| .cons H1<| .cons aR<| .cons br<| .nil
theorem VQ(call:aI->List I->J->av)(r b off N bG dY M i q a6 j:Nat)(s s1 s2 bK bN ch n w:List UInt8)(x:I)(cp e5:b3)(h g:J)
  (H1:au h r (0+3)=some (.slice bG dY M e5))
  (aR:bM (.ofNat i) (.ofNat M)=true)
  (br:bM (.ofNat 0) (.ofNat i)=true)
  (bp:gG .add s [44,32]=some (.str s1))
  (b1:au (J.room h 20) r (0+2)=some (.slice b off N cp))
  (cL:Nat.le (Nat.succ i) N/\I.ptr b q=I.ptr b (off+i*1))
  (dr:au (J.room h 20) b q=some (.str n))
  (gC:gG .add s1 n=some (.str s2))
  (jN:gG .add s2 [58,32]=some (.str bK))
  (m4:au (J.room h 20) r (0+3)=some (.slice bG dY M e5))
  (oK:Nat.le (Nat.succ i) M/\I.ptr bG a6=I.ptr bG (dY+i*1))
  (sj:au (J.room h 20) bG a6=some x)
  (wb:call (.fn 79) [x] (J.room h 20)=av.ret (.str w) g)
  (BI:gG .add bK w=some (.str bN))
  (FA:au g r (0+2)=some (.slice b off N cp))
  (FB:au g b q=some (.str n))
  (FC:I.sound x=true:=by first|with_reducible assumption|rfl|exact db.snd (by with_reducible assumption)|exact db.hb (by with_reducible assumption)|exact ez.snd (by with_reducible assumption)|exact ez.hb (by with_reducible assumption)|exact dJ.snd (by with_reducible assumption)|exact dJ.hb (by with_reducible assumption))
  (VR:arith .add .i64 (.ofNat i) (.ofNat 1)=some (.int .i64 (.ofNat j))):
  aL Tryz.prog Tryz.f79 none call [1,1,1,0,1,0,1,1,1,0,0,1,0,0] (ah.mk [(0,.ptr r 0),(4,.str s),(5,.int .i64 (.ofNat i))] [] .none h) (.nrm)
   (ah.mk [(0,.ptr r 0),(4,.str bN),(5,.int .i64 (.ofNat j))] [] .none g):=
 bI [0,4,5] (hs:=[.v (.slice bG dY M e5),.b true,.b true,.v (.str s1),.v (.slice b off N cp),.v (.ptr b q),.v (.str n),.v (.str s2),.v (.str bK),.v (.slice bG dY M e5),.v (.ptr bG a6),.v x,.c (.str w) g,.v (.str bN),.v (.int .i64 (.ofNat j))]) (by kernel_rfl)<| .cons H1<| .cons aR<| .cons br<| .cons bp<| .cons b1<| .cons cL<| .cons dr<| .cons gC<| .cons jN<| .cons m4<| .cons oK<| .cons sj<| .cons wb<| .cons BI<| .cons (by kernel_rfl:I.sound (I.str s1)=true)<| .cons (by kernel_rfl:I.str s1=I.str s1)<| .cons (by kernel_rfl:I.sound (I.str s1)=true)<| .cons (by kernel_rfl:I.str s1=I.str s1)<| .cons (by kernel_rfl:I.sound (I.ptr r 0)=true)<| .cons (by kernel_rfl:I.ptr r 0=I.ptr r 0)<| .cons (by kernel_rfl:I.sound (I.ptr r 0)=true)<| .cons (by kernel_rfl:I.ptr r 0=I.ptr r 0)<| .cons (by kernel_rfl:I.sound (I.ptr r 0)=true)<| .cons (by kernel_rfl:I.ptr r 0=I.ptr r 0)<| .cons (by kernel_rfl:I.sound (I.ptr r 0)=true)<| .cons (by kernel_rfl:I.ptr r 0=I.ptr r 0)<| .cons (by kernel_rfl:I.sound (I.ptr r (0+2))=true)<| .cons (by kernel_rfl:I.ptr r (0+2)=I.ptr r (0+2))<| .cons (by kernel_rfl:I.sound (I.ptr r (0+2))=true)<| .cons (by kernel_rfl:I.ptr r (0+2)=I.ptr r (0+2))<| .cons (by kernel_rfl:I.sound (I.slice b off N cp)=true)<| .cons FA<| .cons (by kernel_rfl:I.sound (I.slice b off N cp)=true)<| .cons b1<| .cons (by kernel_rfl:I.sound (I.int IntKind.i64 (Int.ofNat i))=true)<| .cons (by kernel_rfl:I.int IntKind.i64 (Int.ofNat i)=I.int IntKind.i64 (Int.ofNat i))<| .cons (by kernel_rfl:I.sound (I.int IntKind.i64 (Int.ofNat i))=true)<| .cons (by kernel_rfl:I.int IntKind.i64 (Int.ofNat i)=I.int IntKind.i64 (Int.ofNat i))<| .cons (by kernel_rfl:I.sound (I.ptr b q)=true)<| .cons cL<| .cons (by kernel_rfl:I.sound (I.ptr b q)=true)<| .cons cL<| .cons (by kernel_rfl:I.sound (I.str n)=true)<| .cons FB<| .cons (by kernel_rfl:I.sound (I.str n)=true)<| .cons dr<| .cons (by kernel_rfl:I.sound (I.str s2)=true)<| .cons gC<| .cons (by kernel_rfl:I.sound (I.str s2)=true)<| .cons gC<| .cons (by kernel_rfl:I.sound (I.str bK)=true)<| .cons jN<| .cons (by kernel_rfl:I.sound (I.str bK)=true)<| .cons jN<| .cons (by kernel_rfl:I.sound (I.ptr r 0)=true)<| .cons (by kernel_rfl:I.ptr r 0=I.ptr r 0)<| .cons (by kernel_rfl:I.sound (I.ptr r 0)=true)<| .cons (by kernel_rfl:I.ptr r 0=I.ptr r 0)<| .cons (by kernel_rfl:I.sound (I.ptr r (0+3))=true)<| .cons (by kernel_rfl:I.ptr r (0+3)=I.ptr r (0+3))<| .cons (by kernel_rfl:I.sound (I.slice bG dY M e5)=true)<| .cons m4<| .cons (by kernel_rfl:I.sound (I.int IntKind.i64 (Int.ofNat i))=true)<| .cons (by kernel_rfl:I.int IntKind.i64 (Int.ofNat i)=I.int IntKind.i64 (Int.ofNat i))<| .cons (by kernel_rfl:I.sound (I.ptr bG a6)=true)<| .cons oK<| .cons FC<| .cons sj<| .cons (by kernel_rfl:I.sound (I.str bN)=true)<| .cons BI<| .cons (by kernel_rfl:I.sound (I.str bN)=true)<| .cons (by kernel_rfl:I.str bN=I.str bN)<| .cons VR<| .nil
theorem VS(call:aI->List I->J->av)(r b off N bG dY M i q a6 j:Nat)(s s1 s2 bK bN ch n w:List UInt8)(x:I)(cp e5:b3)(h g:J)
  (H1:au h r (0+3)=some (.slice bG dY M e5))
  (aR:bM (.ofNat i) (.ofNat M)=true)
  (br:bM (.ofNat 0) (.ofNat i)=false)
  (bp:au (J.room h 20) r (0+2)=some (.slice b off N cp))
  (b1:Nat.le (Nat.succ i) N/\I.ptr b q=I.ptr b (off+i*1))
  (cL:au (J.room h 20) b q=some (.str n))
  (dr:gG .add s n=some (.str s2))
  (gC:gG .add s2 [58,32]=some (.str bK))
  (jN:au (J.room h 20) r (0+3)=some (.slice bG dY M e5))
  (m4:Nat.le (Nat.succ i) M/\I.ptr bG a6=I.ptr bG (dY+i*1))
  (oK:au (J.room h 20) bG a6=some x)
  (sj:call (.fn 79) [x] (J.room h 20)=av.ret (.str w) g)
  (wb:gG .add bK w=some (.str bN))
  (BI:au g r (0+2)=some (.slice b off N cp))
  (FA:au g b q=some (.str n))
  (FB:I.sound x=true:=by first|with_reducible assumption|rfl|exact db.snd (by with_reducible assumption)|exact db.hb (by with_reducible assumption)|exact ez.snd (by with_reducible assumption)|exact ez.hb (by with_reducible assumption)|exact dJ.snd (by with_reducible assumption)|exact dJ.hb (by with_reducible assumption))
  (FC:arith .add .i64 (.ofNat i) (.ofNat 1)=some (.int .i64 (.ofNat j))):
  aL Tryz.prog Tryz.f79 none call [1,1,1,0,1,0,1,1,1,0,0,1,0,0] (ah.mk [(0,.ptr r 0),(4,.str s),(5,.int .i64 (.ofNat i))] [] .none h) (.nrm)
   (ah.mk [(0,.ptr r 0),(4,.str bN),(5,.int .i64 (.ofNat j))] [] .none g):=
 bI [0,4,5] (hs:=[.v (.slice bG dY M e5),.b true,.b false,.v (.slice b off N cp),.v (.ptr b q),.v (.str n),.v (.str s2),.v (.str bK),.v (.slice bG dY M e5),.v (.ptr bG a6),.v x,.c (.str w) g,.v (.str bN),.v (.int .i64 (.ofNat j))]) (by kernel_rfl)<| .cons H1<| .cons aR<| .cons br<| .cons bp<| .cons b1<| .cons cL<| .cons dr<| .cons gC<| .cons jN<| .cons m4<| .cons oK<| .cons sj<| .cons wb<| .cons (by kernel_rfl:I.sound (I.str s)=true)<| .cons (by kernel_rfl:I.str s=I.str s)<| .cons (by kernel_rfl:I.sound (I.str s)=true)<| .cons (by kernel_rfl:I.str s=I.str s)<| .cons (by kernel_rfl:I.sound (I.ptr r 0)=true)<| .cons (by kernel_rfl:I.ptr r 0=I.ptr r 0)<| .cons (by kernel_rfl:I.sound (I.ptr r 0)=true)<| .cons (by kernel_rfl:I.ptr r 0=I.ptr r 0)<| .cons (by kernel_rfl:I.sound (I.ptr r 0)=true)<| .cons (by kernel_rfl:I.ptr r 0=I.ptr r 0)<| .cons (by kernel_rfl:I.sound (I.ptr r 0)=true)<| .cons (by kernel_rfl:I.ptr r 0=I.ptr r 0)<| .cons (by kernel_rfl:I.sound (I.ptr r (0+2))=true)<| .cons (by kernel_rfl:I.ptr r (0+2)=I.ptr r (0+2))<| .cons (by kernel_rfl:I.sound (I.ptr r (0+2))=true)<| .cons (by kernel_rfl:I.ptr r (0+2)=I.ptr r (0+2))<| .cons (by kernel_rfl:I.sound (I.slice b off N cp)=true)<| .cons BI<| .cons (by kernel_rfl:I.sound (I.slice b off N cp)=true)<| .cons bp<| .cons (by kernel_rfl:I.sound (I.int IntKind.i64 (Int.ofNat i))=true)<| .cons (by kernel_rfl:I.int IntKind.i64 (Int.ofNat i)=I.int IntKind.i64 (Int.ofNat i))<| .cons (by kernel_rfl:I.sound (I.int IntKind.i64 (Int.ofNat i))=true)<| .cons (by kernel_rfl:I.int IntKind.i64 (Int.ofNat i)=I.int IntKind.i64 (Int.ofNat i))<| .cons (by kernel_rfl:I.sound (I.ptr b q)=true)<| .cons b1<| .cons (by kernel_rfl:I.sound (I.ptr b q)=true)<| .cons b1<| .cons (by kernel_rfl:I.sound (I.str n)=true)<| .cons FA<| .cons (by kernel_rfl:I.sound (I.str n)=true)<| .cons cL<| .cons (by kernel_rfl:I.sound (I.str s2)=true)<| .cons dr<| .cons (by kernel_rfl:I.sound (I.str s2)=true)<| .cons dr<| .cons (by kernel_rfl:I.sound (I.str bK)=true)<| .cons gC<| .cons (by kernel_rfl:I.sound (I.str bK)=true)<| .cons gC<| .cons (by kernel_rfl:I.sound (I.ptr r 0)=true)<| .cons (by kernel_rfl:I.ptr r 0=I.ptr r 0)<| .cons (by kernel_rfl:I.sound (I.ptr r 0)=true)<| .cons (by kernel_rfl:I.ptr r 0=I.ptr r 0)<| .cons (by kernel_rfl:I.sound (I.ptr r (0+3))=true)<| .cons (by kernel_rfl:I.ptr r (0+3)=I.ptr r (0+3))<| .cons (by kernel_rfl:I.sound (I.slice bG dY M e5)=true)<| .cons jN<| .cons (by kernel_rfl:I.sound (I.int IntKind.i64 (Int.ofNat i))=true)<| .cons (by kernel_rfl:I.int IntKind.i64 (Int.ofNat i)=I.int IntKind.i64 (Int.ofNat i))<| .cons (by kernel_rfl:I.sound (I.ptr bG a6)=true)<| .cons m4<| .cons FB<| .cons oK<| .cons (by kernel_rfl:I.sound (I.str bN)=true)<| .cons wb<| .cons (by kernel_rfl:I.sound (I.str bN)=true)<| .cons (by kernel_rfl:I.str bN=I.str bN)<| .cons FC<| .nil
theorem VT(call:aI->List I->J->av)(r b off N bG dY M i q a6 j:Nat)(s s1 s2 bK bN ch n w:List UInt8)(x:I)(cp e5:b3)(h g:J)
  (H1:au h r (0+3)=some (.slice bG dY M e5))
  (aR:bM (.ofNat i) (.ofNat M)=true)
  (br:bM (.ofNat 0) (.ofNat i)=true)
  (bp:gG .add s [44,32]=some (.str s1))
  (b1:Nat.le (Nat.succ i) M/\I.ptr bG a6=I.ptr bG (dY+i*1))
  (cL:au h bG a6=some x)
  (dr:call (.fn 79) [x] h=av.ret (.str w) g)
  (gC:gG .add s1 w=some (.str s2))
  (jN:arith .add .i64 (.ofNat i) (.ofNat 1)=some (.int .i64 (.ofNat j))):
  aL Tryz.prog Tryz.f79 none call [1,1,1,0,1,0,1,1,1,1,1,0,0,1,0,0] (ah.mk [(0,.ptr r 0),(4,.str s),(6,.int .i64 (.ofNat i))] [] .none h) (.nrm)
   (ah.mk [(0,.ptr r 0),(4,.str s2),(6,.int .i64 (.ofNat j))] [] .none g):=
 bI [0,4,6] (hs:=[.v (.slice bG dY M e5),.b true,.b true,.v (.str s1),.v (.slice bG dY M e5),.v (.ptr bG a6),.v x,.c (.str w) g,.v (.str s2),.v (.int .i64 (.ofNat j))]) (by kernel_rfl)<| .cons H1<| .cons aR<| .cons br<| .cons bp<| .cons H1<| .cons b1<| .cons cL<| .cons dr<| .cons gC<| .cons jN<| .nil
theorem VU(call:aI->List I->J->av)(r b off N bG dY M i q a6 j:Nat)(s s1 s2 bK bN ch n w:List UInt8)(x:I)(cp e5:b3)(h g:J)
  (H1:au h r (0+3)=some (.slice bG dY M e5))
  (aR:bM (.ofNat i) (.ofNat M)=true)
  (br:bM (.ofNat 0) (.ofNat i)=false)
  (bp:Nat.le (Nat.succ i) M/\I.ptr bG a6=I.ptr bG (dY+i*1))
  (b1:au h bG a6=some x)
  (cL:call (.fn 79) [x] h=av.ret (.str w) g)
  (dr:gG .add s w=some (.str s2))
  (gC:arith .add .i64 (.ofNat i) (.ofNat 1)=some (.int .i64 (.ofNat j))):
  aL Tryz.prog Tryz.f79 none call [1,1,1,0,1,0,1,1,1,1,1,0,0,1,0,0] (ah.mk [(0,.ptr r 0),(4,.str s),(6,.int .i64 (.ofNat i))] [] .none h) (.nrm)
   (ah.mk [(0,.ptr r 0),(4,.str s2),(6,.int .i64 (.ofNat j))] [] .none g):=
 bI [0,4,6] (hs:=[.v (.slice bG dY M e5),.b true,.b false,.v (.slice bG dY M e5),.v (.ptr bG a6),.v x,.c (.str w) g,.v (.str s2),.v (.int .i64 (.ofNat j))]) (by kernel_rfl)<| .cons H1<| .cons aR<| .cons br<| .cons H1<| .cons bp<| .cons b1<| .cons cL<| .cons dr<| .cons gC<| .nil
theorem VV(call:aI->List I->J->av)(r b off N bG dY M i q a6 j m k:Nat)(s s1 s2 bK bN ch n w:List UInt8)(x:I)(cp e5:b3)(h g:J)
  (H1:au h r (0+3)=some (.slice bG dY M e5))
  (aR:bM (.ofNat i) (.ofNat M)=true)
  (br:bM (.ofNat 0) (.ofNat i)=true)
  (bp:gG .add s [32,124,32]=some (.str s1))
  (b1:Nat.le (Nat.succ i) M/\I.ptr bG a6=I.ptr bG (dY+i*1))
  (cL:au h bG a6=some (.ptr m 0))
  (dr:au h m (0+0)=some (.int .i64 (.ofNat k)))
  (gC:a_ (.ofNat k) (.ofNat 8)=true)
  (jN:gG .add s1 [40]=some (.str s2))
  (m4:call (.fn 79) [.ptr m 0] h=av.ret (.str w) g)
  (oK:gG .add s2 w=some (.str bK))
  (sj:gG .add bK [41]=some (.str bN))
  (wb:arith .add .i64 (.ofNat i) (.ofNat 1)=some (.int .i64 (.ofNat j))):
  aL Tryz.prog Tryz.f79 none call [1,1,1,0,1,0,1,1,1,1,1,1,1,0,0,1,0,0] (ah.mk [(0,.ptr r 0),(4,.str s),(7,.int .i64 (.ofNat i))] [] .none h) (.nrm)
   (ah.mk [(0,.ptr r 0),(4,.str bN),(7,.int .i64 (.ofNat j))] [] .none g):=
 bI [0,4,7] (hs:=[.v (.slice bG dY M e5),.b true,.b true,.v (.str s1),.v (.slice bG dY M e5),.v (.ptr bG a6),.v (.ptr m 0),.v (.int .i64 (.ofNat k)),.b true,.v (.str s2),.v (.slice bG dY M e5),.v (.ptr bG a6),.v (.ptr m 0),.c (.str w) g,.v (.str bK),.v (.str bN),.v (.int .i64 (.ofNat j))]) (by kernel_rfl)<| .cons H1<| .cons aR<| .cons br<| .cons bp<| .cons H1<| .cons b1<| .cons cL<| .cons dr<| .cons gC<| .cons jN<| .cons H1<| .cons b1<| .cons cL<| .cons m4<| .cons oK<| .cons sj<| .cons wb<| .nil
theorem VW(call:aI->List I->J->av)(r b off N bG dY M i q a6 j m k:Nat)(s s1 s2 bK bN ch n w:List UInt8)(x:I)(cp e5:b3)(h g:J)
  (H1:au h r (0+3)=some (.slice bG dY M e5))
  (aR:bM (.ofNat i) (.ofNat M)=true)
  (br:bM (.ofNat 0) (.ofNat i)=true)
  (bp:gG .add s [32,124,32]=some (.str s1))
  (b1:Nat.le (Nat.succ i) M/\I.ptr bG a6=I.ptr bG (dY+i*1))
  (cL:au h bG a6=some (.ptr m 0))
  (dr:au h m (0+0)=some (.int .i64 (.ofNat k)))
  (gC:a_ (.ofNat k) (.ofNat 8)=false)
  (jN:call (.fn 79) [.ptr m 0] h=av.ret (.str w) g)
  (m4:gG .add s1 w=some (.str s2))
  (oK:arith .add .i64 (.ofNat i) (.ofNat 1)=some (.int .i64 (.ofNat j))):
  aL Tryz.prog Tryz.f79 none call [1,1,1,0,1,0,1,1,1,1,1,1,1,0,0,1,0,0] (ah.mk [(0,.ptr r 0),(4,.str s),(7,.int .i64 (.ofNat i))] [] .none h) (.nrm)
   (ah.mk [(0,.ptr r 0),(4,.str s2),(7,.int .i64 (.ofNat j))] [] .none g):=
 bI [0,4,7] (hs:=[.v (.slice bG dY M e5),.b true,.b true,.v (.str s1),.v (.slice bG dY M e5),.v (.ptr bG a6),.v (.ptr m 0),.v (.int .i64 (.ofNat k)),.b false,.v (.slice bG dY M e5),.v (.ptr bG a6),.v (.ptr m 0),.c (.str w) g,.v (.str s2),.v (.int .i64 (.ofNat j))]) (by kernel_rfl)<| .cons H1<| .cons aR<| .cons br<| .cons bp<| .cons H1<| .cons b1<| .cons cL<| .cons dr<| .cons gC<| .cons H1<| .cons b1<| .cons cL<| .cons jN<| .cons m4<| .cons oK<| .nil
theorem VX(call:aI->List I->J->av)(r b off N bG dY M i q a6 j m k:Nat)(s s1 s2 bK bN ch n w:List UInt8)(x:I)(cp e5:b3)(h g:J)
  (H1:au h r (0+3)=some (.slice bG dY M e5))
  (aR:bM (.ofNat i) (.ofNat M)=true)
  (br:bM (.ofNat 0) (.ofNat i)=false)
  (bp:Nat.le (Nat.succ i) M/\I.ptr bG a6=I.ptr bG (dY+i*1))
  (b1:au h bG a6=some (.ptr m 0))
  (cL:au h m (0+0)=some (.int .i64 (.ofNat k)))
  (dr:a_ (.ofNat k) (.ofNat 8)=true)
  (gC:gG .add s [40]=some (.str s2))
  (jN:call (.fn 79) [.ptr m 0] h=av.ret (.str w) g)
  (m4:gG .add s2 w=some (.str bK))
  (oK:gG .add bK [41]=some (.str bN))
  (sj:arith .add .i64 (.ofNat i) (.ofNat 1)=some (.int .i64 (.ofNat j))):
  aL Tryz.prog Tryz.f79 none call [1,1,1,0,1,0,1,1,1,1,1,1,1,0,0,1,0,0] (ah.mk [(0,.ptr r 0),(4,.str s),(7,.int .i64 (.ofNat i))] [] .none h) (.nrm)
   (ah.mk [(0,.ptr r 0),(4,.str bN),(7,.int .i64 (.ofNat j))] [] .none g):=
 bI [0,4,7] (hs:=[.v (.slice bG dY M e5),.b true,.b false,.v (.slice bG dY M e5),.v (.ptr bG a6),.v (.ptr m 0),.v (.int .i64 (.ofNat k)),.b true,.v (.str s2),.v (.slice bG dY M e5),.v (.ptr bG a6),.v (.ptr m 0),.c (.str w) g,.v (.str bK),.v (.str bN),.v (.int .i64 (.ofNat j))]) (by kernel_rfl)<| .cons H1<| .cons aR<| .cons br<| .cons H1<| .cons bp<| .cons b1<| .cons cL<| .cons dr<| .cons gC<| .cons H1<| .cons bp<| .cons b1<| .cons jN<| .cons m4<| .cons oK<| .cons sj<| .nil
theorem VY(call:aI->List I->J->av)(r b off N bG dY M i q a6 j m k:Nat)(s s1 s2 bK bN ch n w:List UInt8)(x:I)(cp e5:b3)(h g:J)
  (H1:au h r (0+3)=some (.slice bG dY M e5))
  (aR:bM (.ofNat i) (.ofNat M)=true)
  (br:bM (.ofNat 0) (.ofNat i)=false)
  (bp:Nat.le (Nat.succ i) M/\I.ptr bG a6=I.ptr bG (dY+i*1))
  (b1:au h bG a6=some (.ptr m 0))
  (cL:au h m (0+0)=some (.int .i64 (.ofNat k)))
  (dr:a_ (.ofNat k) (.ofNat 8)=false)
  (gC:call (.fn 79) [.ptr m 0] h=av.ret (.str w) g)
  (jN:gG .add s w=some (.str s2))
  (m4:arith .add .i64 (.ofNat i) (.ofNat 1)=some (.int .i64 (.ofNat j))):
  aL Tryz.prog Tryz.f79 none call [1,1,1,0,1,0,1,1,1,1,1,1,1,0,0,1,0,0] (ah.mk [(0,.ptr r 0),(4,.str s),(7,.int .i64 (.ofNat i))] [] .none h) (.nrm)
   (ah.mk [(0,.ptr r 0),(4,.str s2),(7,.int .i64 (.ofNat j))] [] .none g):=
 bI [0,4,7] (hs:=[.v (.slice bG dY M e5),.b true,.b false,.v (.slice bG dY M e5),.v (.ptr bG a6),.v (.ptr m 0),.v (.int .i64 (.ofNat k)),.b false,.v (.slice bG dY M e5),.v (.ptr bG a6),.v (.ptr m 0),.c (.str w) g,.v (.str s2),.v (.int .i64 (.ofNat j))]) (by kernel_rfl)<| .cons H1<| .cons aR<| .cons br<| .cons H1<| .cons bp<| .cons b1<| .cons cL<| .cons dr<| .cons H1<| .cons bp<| .cons b1<| .cons gC<| .cons jN<| .cons m4<| .nil
theorem BJ{fn:Func}{call:aI->List I->J->av}{p:List Nat}{e:bn}{reg R B N:Nat}{h:J}{sep:a5}{items:List a5}(gP:items.length=N)(he:e≠ .nrm)
  (step:∀i (af:i<items.length) x,Ext B h x->∃y,aL Tryz.prog fn none call (p++[0]) ⟨[(0,.ptr R 0),(4,.str (d_ sep (items.take i))),(reg,.int .i64 (Int.ofNat i))],[],.none,x⟩ .nrm ⟨[(0,.ptr R 0),(4,.str (d_ sep (items.take (i+1)))),(reg,.int .i64 (Int.ofNat (i+1)))],[],.none,y⟩/\Ext B h y)
  (exit:∀x s,Ext B h x->aL Tryz.prog fn none call (p++[0]) ⟨[(0,.ptr R 0),(4,.str s),(reg,.int .i64 (Int.ofNat N))],[],.none,x⟩ e ⟨[(0,.ptr R 0),(4,.str s)],[],.none,x⟩):
  ∀(k i:Nat) (x:J),N-i=k->i<=N->Ext B h x->∃y,fx Tryz.prog fn none call p (k+1) ⟨[(0,.ptr R 0),(4,.str (d_ sep (items.take i))),(reg,.int .i64 (Int.ofNat i))],[],.none,x⟩ e ⟨[(0,.ptr R 0),(4,.str (d_ sep items))],[],.none,y⟩/\Ext B h y
 |0,i,x,aq,af,aa=>by
  obtain rfl:i=N:=by omega
  rw[List.take_of_length_le (by omega)]
  exact⟨x,.exit (exit x _ aa) he,aa⟩
 |k+1,i,x,aq,af,aa=>by
  obtain⟨y,s1,s2⟩:=step i (by omega) x aa
  obtain⟨z,bz,bR⟩:=BJ gP he step exit k (i+1) y (by omega) (by omega) s2
  exact⟨z,.step s1 bz,bR⟩
abbrev yW(m B:Nat)(h:J)(vs:List I)(ws:List a5):Prop:=∀i (ab:i<vs.length) (ad:i<ws.length) x,Ext B h x->∃an,Y m (.fn 79) [vs[i]] x=.ret (.str ws[i]) an/\Ext B x an
theorem VZ{m B R i:Nat}{h x:J}{kd hT bL bg c2:I}{bh:gM}{aO up:Nat}{vs:List I}{ws:List a5}(dP:R<B)(al:h.get R=some (.cells [kd,hT,bL,bg,c2] 80 bh aO up))(aC:db B h bg vs)(aw:ws.length=vs.length)(hlen:vs.length<=90000)(ae:(d_ [44,32] ws).length<=1000000)(a7:yW m B h vs ws)(af:i<ws.length)(aa:Ext B h x):
  ∃y,aL Tryz.prog Tryz.f79 none (Y m) [1,1,1,0,1,0,1,1,1,1,1,0,0,1,0,0] ⟨[(0,.ptr R 0),(4,.str (d_ [44,32] (ws.take i))),(6,.int .i64 (Int.ofNat i))],[],.none,x⟩ .nrm ⟨[(0,.ptr R 0),(4,.str (d_ [44,32] (ws.take (i+1)))),(6,.int .i64 (Int.ofNat (i+1)))],[],.none,y⟩/\Ext B h y:=by
 have ab:i<vs.length:=by omega
 have e4:=(aa.get R dP).trans al
 rcases aC with⟨_,rfl⟩|⟨b,off,cp,rfl,iW,iw,oL⟩
 · simp at ab
 have aA:au x b (off+i*1)=some vs[i]:=(nV aa iW).trans (iw i ab)
 obtain⟨g,aH,a9⟩:=a7 i ab af x aa
 have t1:=yQ [44,32] ws i
 have t2:=um [44,32] ws af
 refine⟨g,?_,aa.trans (Nat.le_refl _) a9⟩
 rw[uk [44,32] ws af]
 by_cases h0:0<i
 · rw[if_pos h0]
   exact VT (Y m) R 0 0 0 b off vs.length i 0 (off+i*1) (i+1) _ _ _ [] [] [] [] ws[i] vs[i] (.exact 0) cp x g (aV e4 rfl) (dT ab) (dT h0) (hG (by simp;omega)) ⟨ab,rfl⟩ aA aH (hG (by simp;omega)) (kf ab (by omega))
 · rw[if_neg h0]
   obtain rfl:i=0:=by omega
   exact VU (Y m) R 0 0 0 b off vs.length 0 0 (off+0*1) 1 _ [] _ [] [] [] [] ws[0] vs[0] (.exact 0) cp x g (aV e4 rfl) (dT ab) (eZ (by omega)) ⟨ab,rfl⟩ aA aH (hG (x:=[]) (by simp;omega)) (kf ab (by omega))
end Go.Proofs.cG
namespace Go.Proofs.cG
open Go aP Go.Proofs c8
set_option maxRecDepth 100000
set_option maxHeartbeats 1000000
theorem V0{m B R i:Nat}{h x:J}{kd hT bL bg c2:I}{bh:gM}{aO up:Nat}{ns:List a5}{vs:List I}{ws:List a5}(dP:R<B)(al:h.get R=some (.cells [kd,hT,bL,bg,c2] 80 bh aO up))(aN:db B h bL (ns.map .str))(aC:db B h bg vs)(la:ns.length=vs.length)(aw:ws.length=vs.length)(hlen:vs.length<=90000)(ae:(d_ [44,32] (g0 ns ws)).length<=1000000)(eH:∀i (ab:i<vs.length),I.sound vs[i]=true)(a7:yW m B h vs ws)(af:i<(g0 ns ws).length)(aa:Ext B h x):
  ∃y,aL Tryz.prog Tryz.f79 none (Y m) [1,1,1,0,1,0,1,1,1,0,0,1,0,0] ⟨[(0,.ptr R 0),(4,.str (d_ [44,32] ((g0 ns ws).take i))),(5,.int .i64 (Int.ofNat i))],[],.none,x⟩ .nrm ⟨[(0,.ptr R 0),(4,.str (d_ [44,32] ((g0 ns ws).take (i+1)))),(5,.int .i64 (Int.ofNat (i+1)))],[],.none,y⟩/\Ext B h y:=by
 have jy:(g0 ns ws).length=vs.length:=by unfold g0;rw[List.length_zipWith];omega
 have ab:i<vs.length:=by omega
 have ad:i<ns.length:=by omega
 have ar:i<ws.length:=by omega
 have e4:=(aa.get R dP).trans al
 have aj:=aa.h_ (k:=20)
 have hZ:=(aj.get R dP).trans al
 rcases aC with⟨_,rfl⟩|⟨b,off,cp,rfl,iW,iw,oL⟩
 · simp at ab
 rcases aN.strs with⟨_,rfl⟩|⟨bG,dY,e5,rfl,fB,rO⟩
 · simp at ad
 have aA:au (x.room 20) b (off+i*1)=some vs[i]:=(nV aj iW).trans (iw i ab)
 have ay:au (x.room 20) bG (dY+i*1)=some (.str ns[i]):=(nV aj fB).trans (rO i ad)
 obtain⟨g,aH,a9⟩:=a7 i ab ar (x.room 20) aj
 have wc:=aj.trans (Nat.le_refl _) a9
 have yX:=(wc.get R dP).trans al
 have bw:au g bG (dY+i*1)=some (.str ns[i]):=(nV wc fB).trans (rO i ad)
 have t1:=yQ [44,32] (g0 ns ws) i
 have t2:=um [44,32] (g0 ns ws) af
 have mG:(g0 ns ws)[i]=ns[i]++[58,32]++ws[i]:=List.getElem_zipWith (f:=λn w=>n++[58,32]++w) (h:=af)
 have t3:ns[i].length+2+ws[i].length<=1000000:=by
  rw[mG] at t2
  simp at t2;omega
 refine⟨g,?_,wc⟩
 rw[uk [44,32] (g0 ns ws) af,mG]
 by_cases h0:0<i
 · rw[if_pos h0,<-List.append_assoc,<-List.append_assoc]
   exact VQ (Y m) R bG dY ns.length b off vs.length i (dY+i*1) (off+i*1) (i+1) _ _ _ _ _ [] ns[i] ws[i] vs[i] e5 cp x g (aV e4 rfl) (dT ab) (dT h0) (hG (by simp;omega)) (aV hZ rfl) ⟨ad,rfl⟩ ay (hG (by simp;omega)) (hG (by simp;omega)) (aV hZ rfl) ⟨ab,rfl⟩ aA aH (hG (by simp;omega)) (aV yX rfl) bw (eH i ab) (kf ab (by omega))
 · rw[if_neg h0]
   obtain rfl:i=0:=by omega
   exact VS (Y m) R bG dY ns.length b off vs.length 0 (dY+0*1) (off+0*1) 1 _ [] _ _ _ [] ns[0] ws[0] vs[0] e5 cp x g (aV e4 rfl) (dT ab) (eZ (by omega)) (aV hZ rfl) ⟨ad,rfl⟩ ay (hG (x:=[]) (by simp;omega)) (hG (by simp;omega)) (aV hZ rfl) ⟨ab,rfl⟩ aA aH (hG (by simp;omega)) (aV yX rfl) bw (eH 0 ab) (kf ab (by omega))
theorem V1{m B R i:Nat}{h x:J}{kd hT bL bg c2:I}{bh:gM}{aO up:Nat}{ey:List Nat}{vs:List I}{ws:List a5}(dP:R<B)(al:h.get R=some (.cells [kd,hT,bL,bg,c2] 80 bh aO up))(aC:db B h bg vs)(KR:ey.length=vs.length)(aw:ws.length=vs.length)(hlen:vs.length<=90000)(ae:(d_ [32,124,32] (hI ey ws)).length<=1000000)
  (pB:∀i (ab:i<vs.length) (ad:i<ey.length),∃M,vs[i]=.ptr M 0/\∀x,Ext B h x->au x M (0+0)=some (.int .i64 (Int.ofNat ey[i])))(a7:yW m B h vs ws)(af:i<(hI ey ws).length)(aa:Ext B h x):
  ∃y,aL Tryz.prog Tryz.f79 none (Y m) [1,1,1,0,1,0,1,1,1,1,1,1,1,0,0,1,0,0] ⟨[(0,.ptr R 0),(4,.str (d_ [32,124,32] ((hI ey ws).take i))),(7,.int .i64 (Int.ofNat i))],[],.none,x⟩ .nrm ⟨[(0,.ptr R 0),(4,.str (d_ [32,124,32] ((hI ey ws).take (i+1)))),(7,.int .i64 (Int.ofNat (i+1)))],[],.none,y⟩/\Ext B h y:=by
 have jy:(hI ey ws).length=vs.length:=by unfold hI;rw[List.length_zipWith];omega
 have ab:i<vs.length:=by omega
 have ad:i<ey.length:=by omega
 have ar:i<ws.length:=by omega
 have e4:=(aa.get R dP).trans al
 obtain⟨M,g1,qY⟩:=pB i ab ad
 have pV:=qY x aa
 rcases aC with⟨_,rfl⟩|⟨b,off,cp,rfl,iW,iw,oL⟩
 · simp at ab
 have aA:au x b (off+i*1)=some (.ptr M 0):=by rw[<-g1];exact(nV aa iW).trans (iw i ab)
 obtain⟨g,aH,a9⟩:=a7 i ab ar x aa
 rw[g1] at aH
 have t1:=yQ [32,124,32] (hI ey ws) i
 have t2:=um [32,124,32] (hI ey ws) af
 have mG:(hI ey ws)[i]=if ey[i]=8 then[40]++ws[i]++[41] else ws[i]:=List.getElem_zipWith (f:=λ(k:Nat) (w:a5)=>if k=8 then[40]++w++[41] else w) (h:=af)
 refine⟨g,?_,aa.trans (Nat.le_refl _) a9⟩
 rw[uk [32,124,32] (hI ey ws) af,mG]
 rw[mG] at t2
 by_cases hB:ey[i]=8
 · rw[if_pos hB] at t2⊢
   have t3:ws[i].length+2<=1000000:=by simp at t2;omega
   by_cases h0:0<i
   · rw[if_pos h0,<-List.append_assoc,<-List.append_assoc]
     exact VV (Y m) R 0 0 0 b off vs.length i 0 (off+i*1) (i+1) M ey[i] _ _ _ _ _ [] [] ws[i] .bb (.exact 0) cp x g (aV e4 rfl) (dT ab) (dT h0) (hG (by simp;omega)) ⟨ab,rfl⟩ aA pV (mU hB) (hG (by simp;omega)) aH (hG (by simp;omega)) (hG (by simp;omega)) (kf ab (by omega))
   · rw[if_neg h0]
     obtain rfl:i=0:=by omega
     exact VX (Y m) R 0 0 0 b off vs.length 0 0 (off+0*1) 1 M ey[0] _ [] _ _ _ [] [] ws[0] .bb (.exact 0) cp x g (aV e4 rfl) (dT ab) (eZ (by omega)) ⟨ab,rfl⟩ aA pV (mU hB) (hG (x:=[]) (by simp)) aH (hG (by simp;omega)) (hG (by simp;omega)) (kf ab (by omega))
 · rw[if_neg hB] at t2⊢
   by_cases h0:0<i
   · rw[if_pos h0]
     exact VW (Y m) R 0 0 0 b off vs.length i 0 (off+i*1) (i+1) M ey[i] _ _ _ [] [] [] [] ws[i] .bb (.exact 0) cp x g (aV e4 rfl) (dT ab) (dT h0) (hG (by simp;omega)) ⟨ab,rfl⟩ aA pV (jw hB) aH (hG (by simp;omega)) (kf ab (by omega))
   · rw[if_neg h0]
     obtain rfl:i=0:=by omega
     exact VY (Y m) R 0 0 0 b off vs.length 0 0 (off+0*1) 1 M ey[0] _ [] _ [] [] [] [] ws[0] .bb (.exact 0) cp x g (aV e4 rfl) (dT ab) (eZ (by omega)) ⟨ab,rfl⟩ aA pV (jw hB) aH (hG (x:=[]) (by simp;omega)) (kf ab (by omega))
end Go.Proofs.cG
namespace Go.Proofs.cG
open Go aP Go.Proofs c8
set_option maxRecDepth 100000
set_option maxHeartbeats 1000000
abbrev FD:List I:=[.str [97,110,121],.str [105,110,116],.str [98,111,111,108],.str [115,116,114],.str [110,105,108]]
theorem sk(k:Nat)(nm:a5)(ns:List a5)(xs:List aE)(rt:Option aE):wr (.mk k nm ns xs rt)=c8.shape k nm ns (xs.map aE.k) (cv xs) (kL rt):=by rw[wr]
theorem FE{ns ws:List a5}{i:Nat}(af:i<(g0 ns ws).length)(ab:i<ns.length)(ad:i<ws.length):(g0 ns ws)[i]=ns[i]++[58,32]++ws[i]:=List.getElem_zipWith (f:=λn w=>n++[58,32]++w) (h:=af)
theorem LO{ey:List Nat}{ws:List a5}{i:Nat}(af:i<(hI ey ws).length)(ab:i<ey.length)(ad:i<ws.length):(hI ey ws)[i]=if ey[i]=8 then[40]++ws[i]++[41] else ws[i]:=List.getElem_zipWith (f:=λ(k:Nat) (w:a5)=>if k=8 then[40]++w++[41] else w) (h:=af)
theorem BK:∀(K:Nat) (t:aE),sz t<=K->sz t<=90000->okW t=true->(wr t).length<=1000000->∀(m B:Nat) (h:J) (v:I),sz t+1<=m->B<=h.n->dJ B h t v->∃an,Y m (.fn 79) [v] h=.ret (.str (wr t)) an/\Ext B h an
 |0,t,dk,_,_,_,_,_,_,_,_,_,_=>by
  have:=sh t
  omega
 |K+1,.mk k nm ns xs rt,dk,g3,de,fk,m,B,h,v,hm,cM,aC=>by
  obtain⟨R,bL,bg,c2,vs,bh,aO,up,rfl,ad,ar,aG,bJ,cu,dg⟩:=aC
  rw[mf] at dk g3 hm
  rw[sk] at fk
  rw[okW] at de
  simp only[Bool.and_eq_true,Bool.or_eq_true,decide_eq_true_eq] at de
  obtain⟨⟨⟨⟨⟨bH,iO⟩,oM⟩,qZ⟩,BL⟩,FF⟩:=de
  obtain⟨m,rfl⟩:∃j,m=j+1:=⟨m-1,by omega⟩
  have fw:=dS.len cu
  have jm:=nU xs
  have jl:=vZ xs
  let ai:=(h.push (.cells [.str [],.str [],.str [],.str [],.str []] 141 .own 0 0)).set h.n (some (.cells FD 141 .own 0 0))
  have st:aP.storeCells (h.push (.cells [.str [],.str [],.str [],.str [],.str []] 141 .own 0 0)) h.n 0 FD=some ai:=gS (by rw[J.gp];exact if_pos rfl) rfl rfl
  have ui:Ext B h ai:=((Ext.push cM _).iX cM)
  have sl:B<=ai.n:=Nat.le_trans cM ui.n
  have tY:ai.get h.n=some (.cells FD 141 .own 0 0):=by
   show(J.set _ _ _).get _=_
   rw[J.cV,if_pos rfl]
  have fg:=gU.ext ui (Nat.le_refl _)
  have al:=(ui.get R ad).trans ar
  have bT:=aG.b8 fg
  have b5:=bJ.b8 fg
  have cx:=dS.b8 fg _ _ cu
  have da:=ez.b8 fg _ _ dg
  generalize adA:ai=g at*
  have fin:∀s y,aL Tryz.prog Tryz.f79 none (Y m) [1,1,1] ⟨[(0,.ptr R 0),(3,.ptr h.n 0),(4,.str [])],[],.none,g⟩ .ret ⟨[(2,.str s)],[],.none,y⟩->s=wr (.mk k nm ns xs rt)->Ext B g y->∃an,Y (m+1) (.fn 79) [.ptr R 0] h=.ret (.str (wr (.mk k nm ns xs rt))) an/\Ext B h an:=λs y aj hs aa=>by
   rw[<-hs]
   exact⟨y,eR (intr:=b0) (n:=m) (args:=[.ptr R 0]) Tryz.func79 (by kernel_rfl) rfl (by kernel_rfl) (aL.seq (p:=[]) (by kernel_rfl) (VD (Y m) R h) (aL.seq (p:=[1]) (by kernel_rfl) (VE (Y m) R h g st) (aL.seq (p:=[1,1]) (by kernel_rfl) (VF (Y m) R h.n g) aj))) (.inl rfl) (by kernel_rfl),ui.trans (Nat.le_refl _) aa⟩
  have yY:=VG (Y m) R h.n k g (aV al rfl)
  have BM:∀s y,aL Tryz.prog Tryz.f79 none (Y m) [1,1,1,0,1] ⟨[(0,.ptr R 0),(3,.ptr h.n 0),(4,.str []),(12,.int .i64 (Int.ofNat k))],[],.none,g⟩ .ret ⟨[(2,.str s)],[],.none,y⟩->s=wr (.mk k nm ns xs rt)->Ext B g y->∃an,Y (m+1) (.fn 79) [.ptr R 0] h=.ret (.str (wr (.mk k nm ns xs rt))) an/\Ext B h an:=λs y aj hs aa=>
   fin s y (aL.iM (p:=[1,1,1]) (by kernel_rfl) (aL.seq (p:=[1,1,1,0]) (by kernel_rfl) yY aj) (by simp)) hs aa
  have FG:(∀i (af:i<(cv xs).length),(cv xs)[i].length<=1000000)->yW m B g vs (cv xs):=λae i i1 i2 x aa=>by
   have i3:i<xs.length:=by omega
   have h8:=oH (List.getElem_mem i3)
   have j_:=ae i i2
   rw[v3 xs i i3 i2] at j_⊢
   exact BK K xs[i] (by omega) (by omega) (Lk BL (List.getElem_mem i3)) j_ m B x vs[i] (by omega) (Nat.le_trans sl aa.n) (dJ.b8 (gU.ext aa (Nat.le_refl _)) _ _ (dS.get cx i i1 i3))
  by_cases gI:k=6
  · subst gI
    exact BM nm g (VH (Y m) R h.n nm g (aV al rfl)) (by rw[sk];rfl) (Ext.refl _ _)
  by_cases gx:k=7
  · subst gx
    have la:xs.length=ns.length:=by rcases oM with oM|oM;exact absurd rfl oM;exact oM
    have jy:(g0 ns (cv xs)).length=vs.length:=by unfold g0;rw[List.length_zipWith];omega
    have BN:(d_ [44,32] (g0 ns (cv xs))).length<=999998:=by
     have:([123]++d_ [44,32] (g0 ns (cv xs))++[125]:a5).length<=1000000:=fk
     simp at this;omega
    have js:=FG λi af=>by
     have t2:=um [44,32] (g0 ns (cv xs)) (i:=i) (by omega)
     rw[FE (by omega) (by omega) af] at t2
     simp at t2;omega
    obtain⟨y,bz,bR⟩:=BJ (fn:=Tryz.f79) (call:=Y m) (p:=[1,1,1,0,1,0,1,1,1,0,0,1,0]) (e:=.exit 1) (reg:=5) (R:=R) (B:=B) (N:=vs.length) (h:=g) (sep:=[44,32]) (items:=g0 ns (cv xs)) jy (by simp)
     (λi af x aa=>V0 ad al bT b5 (by omega) (by omega) (by omega) (by omega) (λi i1=>(dS.get cx i i1 (by omega)).snd) js af aa)
     (λx s aa=>VN (Y m) R vs.length vs.length s bg x (aV ((aa.get R ad).trans al) rfl) b5.oJ (eZ (by omega))) vs.length 0 g (by omega) (by omega) (Ext.refl _ _)
    have cU:=fx.run (p:=[1,1,1,0,1,0,1,1,1,0,0,1,0]) (by kernel_rfl) bz (by omega)
    exact BM _ y (VI (Y m) R h.n _ _ _ g y (c5.pre cU ⟨rfl,rfl,rfl,trivial⟩ rfl rfl rfl) (hG (by simp;omega)) (hG (by simp;omega))) (by rw[sk];rfl) bR
  by_cases g4:k=8
  · subst g4
    have BN:(d_ [44,32] (cv xs)).length+(kL rt).length<=999992:=by
     have:([102,110,40]++d_ [44,32] (cv xs)++[41,32,45,62,32]++kL rt:a5).length<=1000000:=fk
     simp at this;omega
    have js:=FG λi af=>by
     have t2:=um [44,32] (cv xs) (i:=i) af
     omega
    obtain⟨y,bz,bR⟩:=BJ (fn:=Tryz.f79) (call:=Y m) (p:=[1,1,1,0,1,0,1,1,1,1,1,0,0,1,0]) (e:=.exit 3) (reg:=6) (R:=R) (B:=B) (N:=vs.length) (h:=g) (sep:=[44,32]) (items:=cv xs) (by omega) (by simp)
     (λi af x aa=>VZ ad al b5 (by omega) (by omega) (by omega) js af aa)
     (λx s aa=>VO (Y m) R vs.length vs.length s bg x (aV ((aa.get R ad).trans al) rfl) b5.oJ (eZ (by omega))) vs.length 0 g (by omega) (by omega) (Ext.refl _ _)
    have cU:=fx.run (p:=[1,1,1,0,1,0,1,1,1,1,1,0,0,1,0]) (by kernel_rfl) bz (by omega)
    cases rt with
    |none=>rcases qZ with qZ|qZ<;>simp at qZ
    |some u=>
     rw[ld] at dk g3 hm
     have BO:kL (some u)=wr u:=by rw[kL]
     obtain⟨z,aH,a9⟩:=BK K u (by omega) (by omega) (by rw[yR] at FF;exact FF) (by rw[<-BO];omega) m B y c2 (by omega) (Nat.le_trans sl bR.n) (dJ.b8 (gU.ext bR (Nat.le_refl _)) _ _ da)
     rw[<-BO] at aH
     exact BM _ z (VJ (Y m) R h.n _ _ _ _ _ c2 g y z (c5.pre cU ⟨rfl,rfl,rfl,trivial⟩ rfl rfl rfl) (hG (by simp;omega)) (hG (by simp;omega)) (aV ((bR.get R ad).trans al) rfl) aH (hG (by simp;omega))) (by rw[sk];rfl) (bR.trans (Nat.le_refl _) a9)
  by_cases gJ:k=9
  · subst gJ
    have jy:(hI (xs.map aE.k) (cv xs)).length=vs.length:=by unfold hI;rw[List.length_zipWith,List.length_map];omega
    have BN:(d_ [32,124,32] (hI (xs.map aE.k) (cv xs))).length<=1000000:=fk
    have js:=FG λi af=>by
     have t2:=um [32,124,32] (hI (xs.map aE.k) (cv xs)) (i:=i) (by omega)
     rw[LO (by omega) (by rw[List.length_map];omega) af] at t2
     split at t2
     · simp at t2;omega
     · omega
    have pB:∀i (ab:i<vs.length) (ad:i<(xs.map aE.k).length),∃M,vs[i]=.ptr M 0/\∀x,Ext B g x->au x M (0+0)=some (.int .i64 (Int.ofNat (xs.map aE.k)[i])):=λi i1 i2=>by
     have i3:i<xs.length:=by omega
     have ba:=dS.get cx i i1 i3
     have yZ:(xs.map aE.k)[i]=(xs[i]).k:=List.getElem_map aE.k
     rw[yZ]
     cases aa:xs[i] with
     |mk cr cZ dp eS eG=>
      rw[aa] at ba
      obtain⟨M,_,_,_,_,_,_,_,aA,ay,bw,_⟩:=ba
      exact⟨M,aA,λx j4=>aV ((j4.get M ay).trans bw) rfl⟩
    obtain⟨y,bz,bR⟩:=BJ (fn:=Tryz.f79) (call:=Y m) (p:=[1,1,1,0,1,0,1,1,1,1,1,1,1,0,0,1,0]) (e:=.exit 5) (reg:=7) (R:=R) (B:=B) (N:=vs.length) (h:=g) (sep:=[32,124,32]) (items:=hI (xs.map aE.k) (cv xs)) jy (by simp)
     (λi af x aa=>V1 ad al b5 (by rw[List.length_map];omega) (by omega) (by omega) BN pB js af aa)
     (λx s aa=>VP (Y m) R vs.length vs.length s bg x (aV ((aa.get R ad).trans al) rfl) b5.oJ (eZ (by omega))) vs.length 0 g (by omega) (by omega) (Ext.refl _ _)
    have cU:=fx.run (p:=[1,1,1,0,1,0,1,1,1,1,1,1,1,0,0,1,0]) (by kernel_rfl) bz (by omega)
    exact BM _ y (VK (Y m) R h.n _ g y (c5.pre cU ⟨rfl,rfl,rfl,trivial⟩ rfl rfl rfl)) (by rw[sk];rfl) bR
  · have V2:=VL (Y m) R h.n k g (jw gI) (jw gx) (jw g4) (jw gJ)
    have hw:wr (.mk k nm ns xs rt)=word k:=by
     rw[sk];unfold c8.shape
     rw[if_neg gI,if_neg gx,if_neg g4,if_neg gJ]
    have adB:k<=5:=by omega
    have V3:au g h.n (0+(k-1)*1)=some (.str (word k)):=by
     refine aV tY ?_
     have:k=1\/k=2\/k=3\/k=4\/k=5:=by omega
     rcases this with rfl|rfl|rfl|rfl|rfl<;>rfl
    exact fin (word k) g (aL.seq (p:=[1,1,1]) (by kernel_rfl) (aL.seq (p:=[1,1,1,0]) (by kernel_rfl) yY V2) (VM (Y m) R h.n k (k-1) (0+(k-1)*1) (word k) g (aV al rfl) (vF bH (by omega)) ⟨(by show k-1+1<=5;omega),rfl⟩ V3)) hw.symm (Ext.refl _ _)
end Go.Proofs.cG
